/- Contracts and words that the laws rest on, part 4: for every world; conditions as each theorem says. -/
import Derived.Shelf.Strings.Search1
import Derived.Shelf.Strings.Search2
import Derived.Shelf.Strings.Search3
import Derived.Shelf.LaysM
import Derived.Shelf.Strings.Shaped
import Derived.Test.YtocdlibnmlcokaaProg
import Derived.Laws.Strings2
import Derived.Lib.IndexBytes
import Derived.Test.YtocdlibnmlcokaaKRR3
namespace Go.Proofs.Ytocdlibnmlcokaa
open Go.RowKit Go.Proofs.YtocdlibnmlcokaaW.PrintWords Go.Proofs.YtocdlibnmlcokaaW.PrintLast
set_option linter.unusedVariables false
set_option linter.unusedSimpArgs false
set_option maxHeartbeats 8000000 in
set_option maxRecDepth 100000 in
theorem specAppend_yes (An A0 A1 : Option Addr) (cn c0 c1 : Nat) (ok lok : Bool) (notes : List Nt) (len gen safe : Int) (bs : List (List Int)) (ws : List Wr) (x : Nt) (w : World)
    (hn : rN.d.C w An notes.length notes) (hx : rBS.d.C w A0 bs.length bs) (hy : rW.d.C w A1 ws.length ws) (hc : bs.length ≤ c0) (hk : BkOk bs ws) (ht : x.text.size ≤ 9223372036854775807) (hr : RightP ⟨ok, ⟨lok, notes, len, gen, safe⟩, bs, ws⟩) (hno : NtOk x) :
    Calls Try.prog 86 #[.agg #[.bool ok, .bool lok, .slice An notes.length cn, .int .i64 len, .int .i64 gen, .int .i64 safe, .slice A0 bs.length c0, .slice A1 ws.length c1], vN x] w (GotOp (appendO bs ws x) w) := by
  obtain ⟨S, hS⟩ : ∃ S, S = settleL bs ws (kfL true []) := ⟨_, rfl⟩
  obtain ⟨N, hN⟩ : ∃ N, N = (foundL S).1 := ⟨_, rfl⟩
  obtain ⟨L, hL⟩ : ∃ L, L = (foundL S).2 := ⟨_, rfl⟩
  obtain ⟨Y, hY⟩ : ∃ Y, Y = (logBytes S).take L := ⟨_, rfl⟩
  obtain ⟨G, hG⟩ : ∃ G, G = logGen S := ⟨_, rfl⟩
  obtain ⟨F, hF⟩ : ∃ F, F = frameL x := ⟨_, rfl⟩
  obtain ⟨X, hX⟩ : ∃ X, X = Y ++ F := ⟨_, rfl⟩
  have hSok : BlOk S := hS ▸ sync_ok hr.2.1 hk
  have htf := take_found hSok
  rw [← hL, ← hY] at htf
  have hYl : Y.length = L := htf.2
  have hLl : L ≤ 7112 := htf.1
  have hFl : F.length = 17 + x.text.size := by rw [hF]; exact frameL_len x
  have ht2 : x.text.size ≤ 200 := hno.2.2.2
  have hXl : X.length = L + F.length := by rw [hX, List.length_append, hYl]
  have hXok : BsOk X := by rw [hX, hY, hF]; exact BsOk.append (fun y hy => (logBytes_ok hSok).1 y (List.mem_of_mem_take hy)) (frameL_ok hno)
  have hGr : 1 ≤ G ∧ G ≤ 1000000000 := by
    have h1 := @logGen_range S
    have h2 := hr.2.2.2
    rw [hr.2.2.1] at h2
    change logGen (syncL bs ws) ≠ 0 at h2
    unfold syncL at h2
    rw [← hS] at h2
    rw [hG]; omega
  obtain ⟨fr, hfr⟩ : ∃ fr : Nat, fr = L / 56 := ⟨_, rfl⟩
  obtain ⟨tt, hto⟩ : ∃ tt : Nat, tt = (X.length - 1) / 56 := ⟨_, rfl⟩
  obtain ⟨n, hn9⟩ : ∃ n : Nat, n = tt - fr + 1 := ⟨_, rfl⟩
  obtain ⟨V, hV⟩ : ∃ V, V = ws ++ pagesW X G fr n := ⟨_, rfl⟩
  have hle : fr ≤ tt := by omega
  have happ : appendO bs ws x = if X.length ≤ 7112 ∧ ws.length + n ≤ 200 then ⟨true, scanL bs V, bs, V⟩ else op0 := by
    unfold appendO appX appN syncL
    rw [← hS, ← hL, ← hY, ← hG, ← hF, ← hX, ← hfr, ← hto, ← hn9, ← hV]
  obtain ⟨R0, hR0⟩ : ∃ R0, R0 = appendO bs ws x := ⟨_, rfl⟩
  rw [← hR0]
  rw [← hR0] at happ
  suffices H : ∀ Q : Ending → World → Prop, (∀ e w', GotOp R0 w e w' → Q e w') → Calls Try.prog 86 #[.agg #[.bool ok, .bool lok, .slice An notes.length cn, .int .i64 len, .int .i64 gen, .int .i64 safe, .slice A0 bs.length c0, .slice A1 ws.length c1], vN x] w Q from H _ (fun e w' h => h)
  intro Q hQ
  have HAPP := Aside0.mk happ; have HS := Aside0.mk hS; have HN := Aside0.mk hN; have HL := Aside0.mk hL; have HYb := Aside0.mk hY; have HG := Aside0.mk hG; have HF := Aside0.mk hF; have HXe := Aside0.mk hX; have HSok := Aside0.mk hSok; have HXok := Aside0.mk hXok; have HFR := Aside0.mk hfr; have HTO := Aside0.mk hto; have HN9 := Aside0.mk hn9; have HV := Aside0.mk hV; have HLE := Aside0.mk hle
  have HYl := Aside0.mk hYl; have HFl := Aside0.mk hFl; have HXl := Aside0.mk hXl; have HQ := Aside0.mk hQ; have HR := Aside0.mk hr; have HNO := Aside0.mk hno; have HGr := Aside0.mk hGr
  clear happ hS hN hL hY hG hF hX hSok hXok hfr hto hn9 hV hQ hr hno hGr hR0 htf hYl hFl hXl hle
  have HNN := Aside0.mk hn; have HX := Aside0.mk hx; have HY := Aside0.mk hy; have HC := Aside0.mk hc; have HK0 := Aside0.mk hk; clear hn hx hy hc hk
  simp only [vN]
  go_enter Try.func86, Try.ntmps86
  go_upto_region 1 with (fail)
  generalize hw : World.alloc (World.alloc (World.alloc w _) _) _ = w1
  have O := Aside0.mk ((Own.nil w).of3 hw); clear hw
  have p0 := (blk_cell O.out.b2 0).trans rfl; have p1 := (blk_cell O.out.b2 1).trans rfl; have p2 := (blk_cell O.out.b2 2).trans rfl; have p3 := (blk_cell O.out.b2 3).trans rfl; have p4 := (blk_cell O.out.b2 4).trans rfl; have p5 := (blk_cell O.out.b2 5).trans rfl; have p6 := (blk_cell O.out.b2 6).trans rfl; have p7 := (blk_cell O.out.b2 7).trans rfl
  go_wp2_with fail
  refine (l3open_c _ _ _ _ _ _ _ _ _ _ _ _ _ _ true ⟨fun _ => HR.out, fun _ => rfl⟩ _ (Kd.C_below HNN.out O.out.bel) (Kd.C_below HX.out O.out.bel) (Kd.C_below HY.out O.out.bel) HC.out HK0.out).mono ?_
  rintro e w2 ⟨rfl, hb⟩
  replace O := Aside0.mk (O.out.below hb)
  clear p0 p1 p2 p3 p4 p5 p6 p7 hb
  have n0 := (blk_cell O.out.b1 0).trans rfl; have n1 := (blk_cell O.out.b1 1).trans rfl; have n2 := (blk_cell O.out.b1 2).trans rfl; have n3 := (blk_cell O.out.b1 3).trans rfl; have n4 := (blk_cell O.out.b1 4).trans rfl
  go_wp2_with fail
  refine (specNoteOk_c x true ⟨fun _ => HNO.out, fun _ => rfl⟩ _ ht).mono ?_
  rintro e w2 ⟨rfl, hb⟩
  replace O := Aside0.mk (O.out.below hb)
  clear n0 n1 n2 n3 n4 hb
  have hlen : len = L := by have := HR.out.2.2.1; have h2 := congrArg Lg.len this; simp only [scanL, syncL] at h2; rw [← HS.out, ← HL.out] at h2; exact h2
  have hgen : gen = G := by have := HR.out.2.2.1; have h2 := congrArg Lg.gen this; simp only [scanL, syncL] at h2; rw [← HS.out, ← HG.out] at h2; exact h2
  subst hlen; subst hgen
  have p6 := (blk_cell O.out.b2 6).trans rfl; have p7 := (blk_cell O.out.b2 7).trans rfl
  go_wp2_with fail
  refine (specSeen_yes _ _ _ _ bs ws _ (Kd.C_below HX.out O.out.bel) (Kd.C_below HY.out O.out.bel) HR.out.2.1).mono ?_
  intro e w3 hg
  obtain ⟨v, rfl, k⟩ := own_row hg
  rw [← HS.out] at k
  replace O := Aside0.mk (O.out.app1 k); clear k hg p6 p7
  obtain ⟨As, cs, rfl, hcs⟩ := O.out.f0
  have HCS := Aside0.mk hcs; clear hcs
  go_wp2_with fail
  refine (l3bytes_c _ _ S _ O.out.c0 HCS.out HSok.out).mono ?_
  intro e w4 hg
  obtain ⟨B, hB⟩ : ∃ B, B = logBytes S := ⟨_, rfl⟩
  rw [← hB, ← HG.out] at hg
  rw [← hB] at HYb
  clear hB
  obtain ⟨vb, rfl, k⟩ := own_by hg
  replace O := Aside0.mk (O.out.app1 k).p1.drop; clear k hg
  obtain ⟨Ab, cb, rfl, hcb⟩ := O.out.f0
  have hLB : L ≤ B.length := by have := HYl.out; rw [HYb.out, List.length_take] at this; omega
  have hF300 : F.length ≤ 300 := by have := HFl.out; omega
  have HF300 := Aside0.mk hF300; clear hF300
  go_upto_region 4 with (fail)
  have hto := to_c (A := Ab) (c := cb) L hLB hcb
  have p3 := (blk_cell O.out.b3 3).trans rfl
  have n0 := (blk_cell O.out.b2 0).trans rfl; have n1 := (blk_cell O.out.b2 1).trans rfl; have n2 := (blk_cell O.out.b2 2).trans rfl; have n3 := (blk_cell O.out.b2 3).trans rfl; have n4 := (blk_cell O.out.b2 4).trans rfl
  refine sta (fun w' => w'.cell? ⟨w.heap.size, 3, none⟩ = some (.int .i64 L) ∧ w'.cell? ⟨w.heap.size + 1, 0, none⟩ = some (.int .i64 x.tick) ∧ w'.cell? ⟨w.heap.size + 1, 1, none⟩ = some (.int .i64 x.kind) ∧ w'.cell? ⟨w.heap.size + 1, 2, none⟩ = some (.int .i64 x.who) ∧ w'.cell? ⟨w.heap.size + 1, 3, none⟩ = some (.int .i64 x.n) ∧ w'.cell? ⟨w.heap.size + 1, 4, none⟩ = some (.string x.text)) [] 11 ⟨p3, n0, n1, n2, n3, n4⟩ (fun hS => ?_)
  clear p3 n0 n1 n2 n3 n4
  replace O := Aside0.mk O.out.drew
  generalize w4.drew = wd at O hS ⊢
  refine pu 1 2 ?_
  refine pu 2 6 ?_
  refine pu 3 14 ?_
  refine tk 4 30 hS ?_
  refine pu 5 62 ?_
  refine tk 7 190 hS ?_
  clear hto
  refine on 0 191 (fun K hK => ?_)
  refine va ?_
  replace O := Aside0.mk O.out.empty
  have HYC : Aside0 (kB.C (wd.alloc (.cells #[] 5)) Ab L Y) := ⟨by have h := (O.out.p1.take_row hLB).c0; rw [← HYb.out, HYl.out] at h; exact h⟩
  generalize wd.heap.size = ge at O ⊢
  generalize wd.alloc _ = we at O HYC ⊢
  refine nx hK ⟨(blk_cell O.out.b4 3).trans rfl, (blk_cell O.out.b3 0).trans rfl, (blk_cell O.out.b3 1).trans rfl, (blk_cell O.out.b3 2).trans rfl, (blk_cell O.out.b3 3).trans rfl, (blk_cell O.out.b3 4).trans rfl⟩ (fun hS => ?_)
  clear hK K
  refine on 6 255 (fun K hK => ?_)
  refine Own.app_row_step (by rfl) (.tmp 26) (.tmp 31) 22 5 (.int .u8 0) 1 (by rfl) Try.underlying22 info5 rfl (by decide) _ [] Y Ab L cb (by rfl) (by rfl) O.out HYC.out (by simp; omega) ?_
  intro v5 w5 hO
  rw [List.nil_append] at hO
  clear O HYC hS
  obtain ⟨Ac, cc, rfl, _⟩ := hO.f0
  have O := Aside0.mk hO.p1.drop; clear hO
  refine nx hK ⟨(blk_cell O.out.b3 3).trans rfl, (blk_cell O.out.b2 0).trans rfl, (blk_cell O.out.b2 1).trans rfl, (blk_cell O.out.b2 2).trans rfl, (blk_cell O.out.b2 3).trans rfl, (blk_cell O.out.b2 4).trans rfl⟩ (fun hS => ?_)
  clear hK K
  refine on 8 511 (fun K hK => ?_)
  refine ca (specFrame_yes x _ HNO.out) Try.func136 ?_
  intro e w6 hg
  rw [← HF.out] at hg
  obtain ⟨vf, rfl, k⟩ := own_row hg
  replace O := Aside0.mk (O.out.app1 k); clear k hg
  obtain ⟨Af, cf, rfl, _⟩ := O.out.f0
  refine ⟨_, rfl, nx hK ⟨(blk_cell O.out.b4 3).trans rfl, (blk_cell O.out.b3 0).trans rfl, (blk_cell O.out.b3 1).trans rfl, (blk_cell O.out.b3 2).trans rfl, (blk_cell O.out.b3 3).trans rfl, (blk_cell O.out.b3 4).trans rfl⟩ (fun hS => ?_)⟩
  clear hK K hS
  replace O := Aside0.mk O.out.p1
  refine on 9 1023 (fun K hK => ?_)
  refine Own.app_row_step (by rfl) (.tmp 32) (.tmp 34) 22 5 (.int .u8 0) 1 (by rfl) Try.underlying22 info5 rfl (by decide) _ Y F Af F.length cf (by rfl) (by rfl) O.out O.out.c1 (by have := HYl.out; have := HF300.out; omega) ?_
  intro v7 w7 hO
  rw [← HXe.out] at hO
  clear O
  obtain ⟨Ax, cx, rfl, hcx⟩ := hO.f0
  refine nx hK ⟨(blk_cell hO.b4 3).trans rfl, (blk_cell hO.b3 0).trans rfl, (blk_cell hO.b3 1).trans rfl, (blk_cell hO.b3 2).trans rfl, (blk_cell hO.b3 3).trans rfl, (blk_cell hO.b3 4).trans rfl⟩ (fun hS => ?_)
  clear hK K hS
  have O : Aside0 (Own w w7 [Rs.row rB 5 (.slice Ax X.length cx) X, Rs.box (w.heap.size + 1 + 1) 61 zero8, Rs.box w.heap.size 61 #[.bool ok, .bool lok, .slice An notes.length cn, .int .i64 L, .int .i64 gen, .int .i64 safe, .slice A0 bs.length c0, .slice A1 ws.length c1]]) := ⟨hO.p1.drop.p2.drop⟩
  have HCX := Aside0.mk hcx; clear hcx hO
  refine pu 10 2047 (dn ?_)
  by_cases hbig : (X.length : Int) > 7112
  · have E0 : Aside0 (R0 = op0) := ⟨by rw [HAPP.out, if_neg (fun h => by omega)]⟩
    have u0 := (blk_cell O.out.b1 0).trans rfl; have u1 := (blk_cell O.out.b1 1).trans rfl; have u2 := (blk_cell O.out.b1 2).trans rfl; have u3 := (blk_cell O.out.b1 3).trans rfl; have u4 := (blk_cell O.out.b1 4).trans rfl; have u5 := (blk_cell O.out.b1 5).trans rfl; have u6 := (blk_cell O.out.b1 6).trans rfl; have u7 := (blk_cell O.out.b1 7).trans rfl
    have z0 := blk_frozen O.out.b1 0; have z1 := blk_frozen O.out.b1 1; have z2 := blk_frozen O.out.b1 2; have z3 := blk_frozen O.out.b1 3; have z4 := blk_frozen O.out.b1 4; have z5 := blk_frozen O.out.b1 5; have z6 := blk_frozen O.out.b1 6; have z7 := blk_frozen O.out.b1 7
    go_wp2
    generalize hw : World.setCell _ _ _ = w90
    replace O := Aside0.mk (O.out.p1.st8 hw); clear hw
    refine bodyPost_ret (results_cell_row rfl _ _ (w.heap.size + 1 + 1) 61 _ (0, 0) _ rfl O.out.b0 Try.underlying61 rfl (by kernel_rfl)) rfl ?_
    refine HQ.out _ _ ?_
    rw [E0.out]
    exact ⟨_, _, _, rfl, (((O.out.only []).nilRow rW 147).nilRow rBS 22).nilRow rN 33⟩
  · have hX1 : 17 ≤ X.length := by have := HXl.out; have := HFl.out; omega
    go_upto_region 7 with fail
    have p6 := (blk_cell O.out.b2 6).trans rfl; have p7 := (blk_cell O.out.b2 7).trans rfl; have p3 := (blk_cell O.out.b2 3).trans rfl
    go_upto_region 8 with fail
    generalize hw : w7.alloc _ = w8
    replace O := Aside0.mk (O.out.of hw); clear hw p3 p6 p7
    generalize w7.heap.size = g8 at O ⊢
    have p3 := (blk_cell O.out.b3 3).trans rfl
    go_wp2_with fail
    have htt : tt ≤ 126 := by have := HTO.out; omega
    have hfr2 : fr ≤ tt := HLE.out
    rw [show ((L : Int) / 56) = (fr : Int) by have := HFR.out; omega]
    have hg1 : 1 ≤ gen := HGr.out.1
    have hg2 : gen ≤ 1000000000 := HGr.out.2
    have HDK : Aside0 (∀ i, i ≤ n → ws.length + i ≤ 200 → DkOk bs (ws ++ pagesW X gen fr i) ∧ BkOk bs (ws ++ pagesW X gen fr i)) := ⟨fun i hi hi2 => by
      refine dk_of (bl_ok HR.out.2.1 HK0.out) (by rw [List.length_append, pagesW_len]; omega) (fun y hy => ?_)
      rcases List.mem_append.1 hy with h | h
      · exact ⟨HR.out.2.1.2.2.2 y h, HK0.out.2 y h⟩
      · exact pagesW_ok HXok.out gen fr i (by have := HN9.out; omega) y h⟩
    have HBL : Aside0 (∀ wr : World, Own w wr [Rs.box g8 43 #[.slice A0 bs.length c0, .slice A1 ws.length c1], Rs.row rB 5 (.slice Ax X.length cx) X, Rs.box (w.heap.size + 1 + 1) 61 zero8, Rs.box w.heap.size 61 #[.bool ok, .bool lok, .slice An notes.length cn, .int .i64 L, .int .i64 gen, .int .i64 safe, .slice A0 bs.length c0, .slice A1 ws.length c1]] → rBS.d.C wr A0 bs.length bs ∧ rW.d.C wr A1 ws.length ws) := ⟨fun wr h => ⟨Kd.C_below HX.out h.bel, Kd.C_below HY.out h.bel⟩⟩
    go_loopg [9] (n + 1) (fun m v9 wr => ∃ (i : Nat) (F0 F1 : Option Addr) (h0 h1 : Nat), v9 = .int .i64 ((fr + i : Nat) : Int) ∧ Aside0 (i ≤ n ∧ n - i < m ∧ ws.length + i ≤ 200 ∧ bs.length ≤ h0)
      ∧ Aside0 (Own w wr [Rs.box g8 43 #[.slice F0 bs.length h0, .slice F1 (ws ++ pagesW X gen fr i).length h1], Rs.row rB 5 (.slice Ax X.length cx) X, Rs.box (w.heap.size + 1 + 1) 61 zero8, Rs.box w.heap.size 61 #[.bool ok, .bool lok, .slice An notes.length cn, .int .i64 L, .int .i64 gen, .int .i64 safe, .slice A0 bs.length c0, .slice A1 ws.length c1]])
      ∧ Aside0 (rBS.d.C wr F0 bs.length bs ∧ rW.d.C wr F1 (ws ++ pagesW X gen fr i).length (ws ++ pagesW X gen fr i))
      ∧ Aside0 (0 < i → Own w wr [Rs.row rBS 22 (.slice F0 bs.length h0) bs, Rs.row rW 147 (.slice F1 (ws ++ pagesW X gen fr i).length h1) (ws ++ pagesW X gen fr i), Rs.box g8 43 #[.slice F0 bs.length h0, .slice F1 (ws ++ pagesW X gen fr i).length h1], Rs.box (w.heap.size + 1 + 1) 61 zero8]))
    case atStart =>
      have e : ws ++ pagesW X gen fr 0 = ws := by simp [pagesW]
      have hw2 : ws.length ≤ 200 := HR.out.2.1.2.1
      refine ⟨0, A0, A1, c0, c1, rfl, ⟨by omega, by omega, by omega, HC.out⟩, ⟨?_⟩, ⟨?_⟩, ⟨fun h => by omega⟩⟩
      · rw [e]; exact O.out
      · rw [e]; exact HBL.out _ O.out
    case round =>
      clear O p3
      obtain ⟨i, F0, F1, h0, h1, rfl, HI, O, HCC, OR⟩ := hrel
      obtain ⟨U, hU⟩ : ∃ U, U = ws ++ pagesW X gen fr i := ⟨_, rfl⟩
      obtain ⟨kk, hkk⟩ : ∃ kk : Nat, kk = fr + i := ⟨_, rfl⟩
      rw [← hU] at O HCC OR
      rw [← hkk]
      have HU := Aside0.mk hU; have HKK := Aside0.mk hkk; clear hU hkk
      have hkx : kk * 56 < X.length ↔ i < n := by have := HTO.out; have := HN9.out; have := HKK.out; omega
      have HKX := Aside0.mk hkx; clear hkx
      have hk127 : kk ≤ 127 := by have := HN9.out; have := HKK.out; have := HI.out; omega
      by_cases hi : (kk : Int) * 56 < X.length
      · have hin : Aside0 (i < n) := ⟨HKX.out.1 (by omega)⟩
        have hk126 : kk ≤ 126 := by have := HN9.out; have := HKK.out; have := hin.out; omega
        have hX7 : X.length ≤ 7112 := by omega
        have p0 := (blk_cell O.out.b0 0).trans rfl; have p1 := (blk_cell O.out.b0 1).trans rfl; have p4 := (blk_cell O.out.b3 4).trans rfl
        have hUl : U.length = ws.length + i := by rw [HU.out, List.length_append, pagesW_len]
        have HUl := Aside0.mk hUl; clear hUl
        by_cases hful : U.length < 200
        · have HFUL := Aside0.mk hful; clear hful
          go_wp2_with fail
          refine (l3page_yes _ _ _ _ _ _ bs U X kk gen _ HCC.out.1 HCC.out.2 O.out.c1 HCX.out (by have := (HDK.out i HI.out.1 HI.out.2.2.1).1; rw [HU.out]; exact this) HFUL.out (by omega) hg1 hg2 (by omega)).mono ?_
          intro e w11 hg
          obtain ⟨W2, hW2⟩ : ∃ W2, W2 = U ++ [⟨(kk : Int) + 1, pageB X kk gen⟩] := ⟨_, rfl⟩
          rw [← hW2] at hg
          have HW2 := Aside0.mk hW2; clear hW2
          obtain ⟨v0, v1, rfl, k⟩ := own_disk hg
          replace O := Aside0.mk (O.out.app2 k); clear k hg p0 p1 p4
          obtain ⟨D0, d0, rfl, hd0⟩ := O.out.f0
          obtain ⟨D1, d1, rfl, _⟩ := O.out.f1
          have HD0 := Aside0.mk hd0; clear hd0
          have u0 := (blk_cell O.out.b2 0).trans rfl; have u1 := (blk_cell O.out.b2 1).trans rfl
          have z0 := blk_frozen O.out.b2 0; have z1 := blk_frozen O.out.b2 1
          have hW : Aside0 (W2 = ws ++ pagesW X gen fr (i + 1)) := ⟨by rw [HW2.out, pagesW_succ, ← List.append_assoc, ← HU.out, ← HKK.out]⟩
          go_upto_region 12 with fail
          generalize hw : World.setCell _ _ _ = w12
          replace O := Aside0.mk (O.out.p2.st2 hw); clear hw u0 u1 z0 z1
          have hdok := (HDK.out (i + 1) (by have := hin.out; omega) (by have := HFUL.out; have := HUl.out; omega)).1
          rw [← hW.out] at hdok
          have HDOK := Aside0.mk hdok; clear hdok
          have p0 := (blk_cell O.out.b0 0).trans rfl; have p1 := (blk_cell O.out.b0 1).trans rfl
          go_wp2_with fail
          refine (specDiskOk_c _ _ _ _ bs W2 true ⟨fun _ => HDOK.out, fun _ => rfl⟩ _ O.out.c1 O.out.c2).mono ?_
          rintro e w13 ⟨rfl, hb⟩
          replace O := Aside0.mk (O.out.below hb); clear hb p0 p1
          go_wp2
          go_roundg (gk - 1)
          case measure => have := HI.out; have := hin.out; omega
          case rel =>
            have e1 := hW.out
            refine ⟨i + 1, D0, D1, d0, d1, ?_, ⟨by have := hin.out; omega, by have := HI.out; have := hin.out; omega, by have := HFUL.out; have := HUl.out; omega, HD0.out⟩, ⟨?_⟩, ⟨?_⟩, ⟨fun _ => ?_⟩⟩
            · have := HKK.out
              first | rfl | (congr 1; omega)
            · rw [← e1]; exact O.out.p1.drop.p1.drop
            · rw [← e1]; exact ⟨O.out.c1, O.out.c2⟩
            · rw [← e1]; exact O.out.q2.p3.drop.only [_, _, _, _]
        · have HFUL := Aside0.mk hful; clear hful
          have E0 : Aside0 (R0 = op0) := ⟨by rw [HAPP.out, if_neg (fun h => by have := HFUL.out; have := HUl.out; have := hin.out; omega)]⟩
          go_wp2_with fail
          refine (l3page_no _ _ _ _ _ _ bs U X kk gen _ HCC.out.1 HCC.out.2 O.out.c1 HCX.out HFUL.out (by omega) hg1 hg2 (by omega)).mono ?_
          intro e w11 hg
          obtain ⟨v0, v1, rfl, k⟩ := own_disk hg
          replace O := Aside0.mk (O.out.app2 k); clear k hg p0 p1 p4
          obtain ⟨D0, d0, rfl, hd0⟩ := O.out.f0
          obtain ⟨D1, d1, rfl, _⟩ := O.out.f1
          have u0 := (blk_cell O.out.b2 0).trans rfl; have u1 := (blk_cell O.out.b2 1).trans rfl
          have z0 := blk_frozen O.out.b2 0; have z1 := blk_frozen O.out.b2 1
          go_upto_region 12 with fail
          generalize hw : World.setCell _ _ _ = w12
          replace O := Aside0.mk (O.out.p2.st2 hw); clear hw u0 u1 z0 z1
          have p0 := (blk_cell O.out.b0 0).trans rfl; have p1 := (blk_cell O.out.b0 1).trans rfl
          go_wp2_with fail
          refine (specDiskOk_c _ _ _ _ [] [] false ⟨fun h => (by cases h), fun h => by have := h.1; simp at this⟩ _ O.out.c1 O.out.c2).mono ?_
          rintro e w13 ⟨rfl, hb⟩
          replace O := Aside0.mk (O.out.below hb); clear hb p0 p1
          have u0 := (blk_cell O.out.b4 0).trans rfl; have u1 := (blk_cell O.out.b4 1).trans rfl; have u2 := (blk_cell O.out.b4 2).trans rfl; have u3 := (blk_cell O.out.b4 3).trans rfl; have u4 := (blk_cell O.out.b4 4).trans rfl; have u5 := (blk_cell O.out.b4 5).trans rfl; have u6 := (blk_cell O.out.b4 6).trans rfl; have u7 := (blk_cell O.out.b4 7).trans rfl
          have z0 := blk_frozen O.out.b4 0; have z1 := blk_frozen O.out.b4 1; have z2 := blk_frozen O.out.b4 2; have z3 := blk_frozen O.out.b4 3; have z4 := blk_frozen O.out.b4 4; have z5 := blk_frozen O.out.b4 5; have z6 := blk_frozen O.out.b4 6; have z7 := blk_frozen O.out.b4 7
          go_wp2
          generalize hw : World.setCell _ _ _ = w90
          replace O := Aside0.mk (O.out.p4.st8 hw); clear hw
          refine bodyPost_ret (results_cell_row rfl _ _ (w.heap.size + 1 + 1) 61 _ (0, 0) _ rfl O.out.b0 Try.underlying61 rfl (by kernel_rfl)) rfl ?_
          refine HQ.out _ _ ?_
          rw [E0.out]
          exact ⟨_, _, _, rfl, (((O.out.only []).nilRow rW 147).nilRow rBS 22).nilRow rN 33⟩
      · have e : i = n := by have h := HKX.out; have := HI.out.1; omega
        subst e
        have hpos : 0 < i := by have := HN9.out; omega
        have O4 := OR.out hpos
        clear O
        have O := Aside0.mk O4.p2; clear O4 OR
        have HU2 : Aside0 (U = V) := ⟨by rw [HU.out, HV.out]⟩
        have HDV := HDK.out i (Nat.le_refl _) HI.out.2.2.1
        rw [← HU.out] at HDV
        have HDV := Aside0.mk HDV
        have HAP : Aside0 (R0 = ⟨true, scanL bs U, bs, U⟩) := ⟨by rw [HAPP.out, if_pos (by have := HI.out; omega), ← HU2.out]⟩
        have HD0 := Aside0.mk HI.out.2.2.2
        go_upto_region 14 with fail
        have p0 := (blk_cell O.out.b0 0).trans rfl; have p1 := (blk_cell O.out.b0 1).trans rfl
        refine sta (fun w' => w'.cell? ⟨g8, 0, none⟩ = some (.slice F0 bs.length h0) ∧ w'.cell? ⟨g8, 1, none⟩ = some (.slice F1 U.length h1)) [4] 5 ⟨p0, p1⟩ (fun hS => ?_)
        clear p0 p1
        replace O := Aside0.mk O.out.drew
        generalize wr.drew = wd at O hS ⊢
        obtain ⟨R, hR⟩ : ∃ R, R = scanL bs U := ⟨_, rfl⟩
        have HRR := Aside0.mk hR; clear hR
        refine tk 0 1 hS ?_
        refine tk 2 5 hS ?_
        refine on 1 7 (fun K hK => ?_)
        refine ca (specScan_yes _ _ _ _ bs U _ O.out.c1 O.out.c2 HD0.out HDV.out.1 HDV.out.2) Try.func73 ?_
        intro e w13 hg
        rw [← HRR.out] at hg
        obtain ⟨vn, rfl, k⟩ := hg
        replace O := Aside0.mk (O.out.app1 k); clear k
        obtain ⟨Cn, cn2, rfl, _⟩ := O.out.f0
        refine ⟨_, rfl, nx hK ⟨(blk_cell O.out.b1 0).trans rfl, (blk_cell O.out.b1 1).trans rfl⟩ (fun hS => ?_)⟩
        clear hK K hS
        refine pu 3 15 ?_
        have u0 := (blk_cell O.out.b4 0).trans rfl; have u1 := (blk_cell O.out.b4 1).trans rfl; have u2 := (blk_cell O.out.b4 2).trans rfl; have u3 := (blk_cell O.out.b4 3).trans rfl; have u4 := (blk_cell O.out.b4 4).trans rfl; have u5 := (blk_cell O.out.b4 5).trans rfl; have u6 := (blk_cell O.out.b4 6).trans rfl; have u7 := (blk_cell O.out.b4 7).trans rfl
        have z0 := blk_frozen O.out.b4 0; have z1 := blk_frozen O.out.b4 1; have z2 := blk_frozen O.out.b4 2; have z3 := blk_frozen O.out.b4 3; have z4 := blk_frozen O.out.b4 4; have z5 := blk_frozen O.out.b4 5; have z6 := blk_frozen O.out.b4 6; have z7 := blk_frozen O.out.b4 7
        refine la 4 31 (fun K hK => ?_)
        refine st ?_
        generalize hw : World.setCell _ _ _ = w14
        replace O := Aside0.mk (O.out.p4.st8 hw); clear hw
        refine nl hK (dn ?_)
        clear hK K u0 u1 u2 u3 u4 u5 u6 u7 z0 z1 z2 z3 z4 z5 z6 z7
        go_wp2
        refine bodyPost_ret (results_cell_row rfl _ _ (w.heap.size + 1 + 1) 61 _ (0, 0) _ rfl O.out.b0 Try.underlying61 rfl (by kernel_rfl)) rfl ?_
        refine HQ.out _ _ ?_
        rw [HAP.out, ← HRR.out]
        exact ⟨_, _, _, rfl, O.out.drop.p1.drop.only [_, _, _]⟩
end Go.Proofs.Ytocdlibnmlcokaa
namespace Go.Proofs.Ytocdlibnmlcokaa
open Go.RowKit Go.Proofs.YtocdlibnmlcokaaW.PrintWords Go.Proofs.YtocdlibnmlcokaaW.PrintLast
set_option linter.unusedVariables false
set_option linter.unusedSimpArgs false
end Go.Proofs.Ytocdlibnmlcokaa
namespace Go.Proofs.Ytocdlibnmlcokaa
open Go.RowKit Go.Proofs.YtocdlibnmlcokaaW.PrintWords Go.Proofs.YtocdlibnmlcokaaW.PrintLast
set_option linter.unusedVariables false
set_option linter.unusedSimpArgs false
end Go.Proofs.Ytocdlibnmlcokaa
namespace Go.Proofs.Ytocdlibnmlcokaa
open Go.RowKit Go.Proofs.YtocdlibnmlcokaaW.PrintWords Go.Proofs.YtocdlibnmlcokaaW.PrintLast
set_option linter.unusedVariables false
namespace Own
theorem p9 {w0 w : World} {L : List Rs} {R R1 R2 R3 R4 R5 R6 R7 R8 R9 : Rs} (h : Own w0 w (R1 :: R2 :: R3 :: R4 :: R5 :: R6 :: R7 :: R8 :: R9 :: R :: L)) : Own w0 w (R :: R1 :: R2 :: R3 :: R4 :: R5 :: R6 :: R7 :: R8 :: R9 :: L) := swap [R1, R2, R3, R4, R5, R6, R7, R8, R9] h
theorem p10 {w0 w : World} {L : List Rs} {R R1 R2 R3 R4 R5 R6 R7 R8 R9 R10 : Rs} (h : Own w0 w (R1 :: R2 :: R3 :: R4 :: R5 :: R6 :: R7 :: R8 :: R9 :: R10 :: R :: L)) : Own w0 w (R :: R1 :: R2 :: R3 :: R4 :: R5 :: R6 :: R7 :: R8 :: R9 :: R10 :: L) := swap [R1, R2, R3, R4, R5, R6, R7, R8, R9, R10] h
theorem p11 {w0 w : World} {L : List Rs} {R R1 R2 R3 R4 R5 R6 R7 R8 R9 R10 R11 : Rs} (h : Own w0 w (R1 :: R2 :: R3 :: R4 :: R5 :: R6 :: R7 :: R8 :: R9 :: R10 :: R11 :: R :: L)) : Own w0 w (R :: R1 :: R2 :: R3 :: R4 :: R5 :: R6 :: R7 :: R8 :: R9 :: R10 :: R11 :: L) := swap [R1, R2, R3, R4, R5, R6, R7, R8, R9, R10, R11] h
theorem p12 {w0 w : World} {L : List Rs} {R R1 R2 R3 R4 R5 R6 R7 R8 R9 R10 R11 R12 : Rs} (h : Own w0 w (R1 :: R2 :: R3 :: R4 :: R5 :: R6 :: R7 :: R8 :: R9 :: R10 :: R11 :: R12 :: R :: L)) : Own w0 w (R :: R1 :: R2 :: R3 :: R4 :: R5 :: R6 :: R7 :: R8 :: R9 :: R10 :: R11 :: R12 :: L) := swap [R1, R2, R3, R4, R5, R6, R7, R8, R9, R10, R11, R12] h
theorem p13 {w0 w : World} {L : List Rs} {R R1 R2 R3 R4 R5 R6 R7 R8 R9 R10 R11 R12 R13 : Rs} (h : Own w0 w (R1 :: R2 :: R3 :: R4 :: R5 :: R6 :: R7 :: R8 :: R9 :: R10 :: R11 :: R12 :: R13 :: R :: L)) : Own w0 w (R :: R1 :: R2 :: R3 :: R4 :: R5 :: R6 :: R7 :: R8 :: R9 :: R10 :: R11 :: R12 :: R13 :: L) := swap [R1, R2, R3, R4, R5, R6, R7, R8, R9, R10, R11, R12, R13] h
theorem p14 {w0 w : World} {L : List Rs} {R R1 R2 R3 R4 R5 R6 R7 R8 R9 R10 R11 R12 R13 R14 : Rs} (h : Own w0 w (R1 :: R2 :: R3 :: R4 :: R5 :: R6 :: R7 :: R8 :: R9 :: R10 :: R11 :: R12 :: R13 :: R14 :: R :: L)) : Own w0 w (R :: R1 :: R2 :: R3 :: R4 :: R5 :: R6 :: R7 :: R8 :: R9 :: R10 :: R11 :: R12 :: R13 :: R14 :: L) := swap [R1, R2, R3, R4, R5, R6, R7, R8, R9, R10, R11, R12, R13, R14] h
theorem b9 {w0 w : World} {L : List Rs} {R1 R2 R3 R4 R5 R6 R7 R8 R9 : Rs} {g t : Nat} {c : Array Value} (h : Own w0 w (R1 :: R2 :: R3 :: R4 :: R5 :: R6 :: R7 :: R8 :: R9 :: Rs.box g t c :: L)) : w.heap[g]? = some (.cells c t (0, 0)) := h.p9.b0
theorem b10 {w0 w : World} {L : List Rs} {R1 R2 R3 R4 R5 R6 R7 R8 R9 R10 : Rs} {g t : Nat} {c : Array Value} (h : Own w0 w (R1 :: R2 :: R3 :: R4 :: R5 :: R6 :: R7 :: R8 :: R9 :: R10 :: Rs.box g t c :: L)) : w.heap[g]? = some (.cells c t (0, 0)) := h.p10.b0
theorem b11 {w0 w : World} {L : List Rs} {R1 R2 R3 R4 R5 R6 R7 R8 R9 R10 R11 : Rs} {g t : Nat} {c : Array Value} (h : Own w0 w (R1 :: R2 :: R3 :: R4 :: R5 :: R6 :: R7 :: R8 :: R9 :: R10 :: R11 :: Rs.box g t c :: L)) : w.heap[g]? = some (.cells c t (0, 0)) := h.p11.b0
theorem b12 {w0 w : World} {L : List Rs} {R1 R2 R3 R4 R5 R6 R7 R8 R9 R10 R11 R12 : Rs} {g t : Nat} {c : Array Value} (h : Own w0 w (R1 :: R2 :: R3 :: R4 :: R5 :: R6 :: R7 :: R8 :: R9 :: R10 :: R11 :: R12 :: Rs.box g t c :: L)) : w.heap[g]? = some (.cells c t (0, 0)) := h.p12.b0
theorem b13 {w0 w : World} {L : List Rs} {R1 R2 R3 R4 R5 R6 R7 R8 R9 R10 R11 R12 R13 : Rs} {g t : Nat} {c : Array Value} (h : Own w0 w (R1 :: R2 :: R3 :: R4 :: R5 :: R6 :: R7 :: R8 :: R9 :: R10 :: R11 :: R12 :: R13 :: Rs.box g t c :: L)) : w.heap[g]? = some (.cells c t (0, 0)) := h.p13.b0
theorem c9 {w0 w : World} {L : List Rs} {R1 R2 R3 R4 R5 R6 R7 R8 R9 : Rs} {α : Type} {r : Rp α} {e n c : Nat} {A : Option Addr} {xs : List α} (h : Own w0 w (R1 :: R2 :: R3 :: R4 :: R5 :: R6 :: R7 :: R8 :: R9 :: Rs.row r e (.slice A n c) xs :: L)) : r.d.C w A xs.length xs := h.p9.c0
theorem c10 {w0 w : World} {L : List Rs} {R1 R2 R3 R4 R5 R6 R7 R8 R9 R10 : Rs} {α : Type} {r : Rp α} {e n c : Nat} {A : Option Addr} {xs : List α} (h : Own w0 w (R1 :: R2 :: R3 :: R4 :: R5 :: R6 :: R7 :: R8 :: R9 :: R10 :: Rs.row r e (.slice A n c) xs :: L)) : r.d.C w A xs.length xs := h.p10.c0
theorem c11 {w0 w : World} {L : List Rs} {R1 R2 R3 R4 R5 R6 R7 R8 R9 R10 R11 : Rs} {α : Type} {r : Rp α} {e n c : Nat} {A : Option Addr} {xs : List α} (h : Own w0 w (R1 :: R2 :: R3 :: R4 :: R5 :: R6 :: R7 :: R8 :: R9 :: R10 :: R11 :: Rs.row r e (.slice A n c) xs :: L)) : r.d.C w A xs.length xs := h.p11.c0
theorem c12 {w0 w : World} {L : List Rs} {R1 R2 R3 R4 R5 R6 R7 R8 R9 R10 R11 R12 : Rs} {α : Type} {r : Rp α} {e n c : Nat} {A : Option Addr} {xs : List α} (h : Own w0 w (R1 :: R2 :: R3 :: R4 :: R5 :: R6 :: R7 :: R8 :: R9 :: R10 :: R11 :: R12 :: Rs.row r e (.slice A n c) xs :: L)) : r.d.C w A xs.length xs := h.p12.c0
theorem c13 {w0 w : World} {L : List Rs} {R1 R2 R3 R4 R5 R6 R7 R8 R9 R10 R11 R12 R13 : Rs} {α : Type} {r : Rp α} {e n c : Nat} {A : Option Addr} {xs : List α} (h : Own w0 w (R1 :: R2 :: R3 :: R4 :: R5 :: R6 :: R7 :: R8 :: R9 :: R10 :: R11 :: R12 :: R13 :: Rs.row r e (.slice A n c) xs :: L)) : r.d.C w A xs.length xs := h.p13.c0
theorem c14 {w0 w : World} {L : List Rs} {R1 R2 R3 R4 R5 R6 R7 R8 R9 R10 R11 R12 R13 R14 : Rs} {α : Type} {r : Rp α} {e n c : Nat} {A : Option Addr} {xs : List α} (h : Own w0 w (R1 :: R2 :: R3 :: R4 :: R5 :: R6 :: R7 :: R8 :: R9 :: R10 :: R11 :: R12 :: R13 :: R14 :: Rs.row r e (.slice A n c) xs :: L)) : r.d.C w A xs.length xs := h.p14.c0
end Own
end Go.Proofs.Ytocdlibnmlcokaa
namespace Go.Proofs.Ytocdlibnmlcokaa
open Go.RowKit Go.Proofs.YtocdlibnmlcokaaW.PrintWords Go.Proofs.YtocdlibnmlcokaaW.PrintLast Go.Proofs.Ytocdlibnmlcokaa.Open
set_option linter.unusedVariables false
set_option linter.unusedSimpArgs false
def TxOk (x : Nt) : Prop := x.text.size ≤ 9223372036854775807
theorem op109 : Opens Try.prog 109 rN.d TxOk :=
  opens_iso (opens_struct Try.underlying109 (by kernel_rfl) (opensF_cons (by kernel_rfl) (by kernel_rfl) (opens_int Try.underlying3) (opensF_cons (by kernel_rfl) (by kernel_rfl) (opens_int Try.underlying3) (opensF_cons (by kernel_rfl) (by kernel_rfl) (opens_int Try.underlying3)
    (opensF_cons (by kernel_rfl) (by kernel_rfl) (opens_int Try.underlying2) (opensF_one (by kernel_rfl) (by kernel_rfl) (opens_string Try.underlying9)))))))
    (fun x hx => ⟨⟨x.1, x.2.1, x.2.2.1, x.2.2.2.1, x.2.2.2.2⟩, rfl, by have := hx.2.2.2.2; unfold TxOk maxLen at *; simp only at *; omega⟩)
theorem found_notes {S : List (List Int)} (h : BlOk S) : (foundL S).1.length ≤ 7112 := by
  have h1 := logBytes_ok h
  have h2 := frames_len (logBytes S).length (logBytes S) h1.1
  unfold foundL framesL; omega
end Go.Proofs.Ytocdlibnmlcokaa
namespace Go.Proofs.Ytocdlibnmlcokaa
open Go.RowKit Go.Proofs.YtocdlibnmlcokaaW.PrintWords Go.Proofs.YtocdlibnmlcokaaW.PrintLast
set_option linter.unusedVariables false
set_option linter.unusedSimpArgs false
structure Cu where
  p : Int
  s : Int
abbrev cuB (A : Option Addr) (n c : Nat) (q : Cu) : Array Value := #[.slice A n c, .int .i64 q.p, .int .u64 q.s]
end Go.Proofs.Ytocdlibnmlcokaa
namespace Go.Proofs.Ytocdlibnmlcokaa
open Go.RowKit Go.Proofs.YtocdlibnmlcokaaW.PrintWords Go.Proofs.YtocdlibnmlcokaaW.PrintLast
set_option linter.unusedVariables false
set_option linter.unusedSimpArgs false
end Go.Proofs.Ytocdlibnmlcokaa
namespace Go.Proofs.Ytocdlibnmlcokaa
open Go.RowKit Go.Proofs.YtocdlibnmlcokaaW.PrintWords Go.Proofs.YtocdlibnmlcokaaW.PrintLast
set_option linter.unusedVariables false
set_option linter.unusedSimpArgs false
end Go.Proofs.Ytocdlibnmlcokaa
namespace Go.Proofs.Ytocdlibnmlcokaa
open Go.RowKit Go.Proofs.YtocdlibnmlcokaaW.PrintWords Go.Proofs.YtocdlibnmlcokaaW.PrintLast Go.Proofs.Ytocdlibnmlcokaa.Math
set_option linter.unusedVariables false
set_option linter.unusedSimpArgs false
theorem BsOk.bs {l : List Int} (h : BsOk l) : Bs l := fun x hx => by have := h x hx; omega
theorem Bs.ok {l : List Int} (h : Bs l) : BsOk l := fun x hx => by have := h x hx; omega
theorem shTo_div (v : Int) : ∀ i, shTo (v / 256) i = shTo v (i + 1)
  | 0 => rfl
  | i + 1 => by
    have := shTo_div v i
    show shTo (v / 256) i / 256 = shTo v (i + 1) / 256
    rw [this]
theorem lowTo_cons (v : Int) : ∀ n, lowTo v (n + 1) = v % 256 :: lowTo (v / 256) n
  | 0 => rfl
  | n + 1 => by
    have := lowTo_cons v n
    show lowTo v (n + 1) ++ [shTo v (n + 1) % 256] = v % 256 :: (lowTo (v / 256) n ++ [shTo (v / 256) n % 256])
    rw [this, shTo_div]; rfl
theorem lowTo_eq : ∀ (n : Nat) (v : Int), lowTo v n = lowB v n
  | 0, v => rfl
  | n + 1, v => by rw [lowTo_cons, lowTo_eq n]; rfl
theorem numL_eq : ∀ {l : List Int}, Bs l → l.length ≤ 8 → numL l = numM l
  | [], _, _ => rfl
  | x :: r, h, hl => by
    have hr : Bs r := fun y hy => h y (List.mem_cons_of_mem _ hy)
    have h1 := h x List.mem_cons_self
    simp only [List.length_cons] at hl
    have h2 := numM_nonneg hr
    have h3 := numM_lt7 hr (by omega)
    show step8 (numL r) x = x + 256 * numM r
    rw [numL_eq hr (by omega)]
    exact or_join h2 h3 h1.1 h1.2
theorem u8_w (x : Int) : IntKind.u8.wrap x = x % 256 := by
  unfold IntKind.wrap
  simp [IntKind.signed, IntKind.bits]
theorem sumTo_eq (xs : List Int) : ∀ (k i : Nat), i + k = xs.length → checkFrom i (sumTo xs i) (xs.drop i) = sumTo xs xs.length
  | 0, i, h => by
    rw [List.drop_eq_nil_of_le (by omega), show i = xs.length by omega]; rfl
  | k + 1, i, h => by
    rw [List.drop_eq_getElem_cons (by omega : i < xs.length)]
    have := sumTo_eq xs k (i + 1) (by omega)
    rw [← this]
    show checkFrom (i + 1) (if i = 1 then sumTo xs i else (sumTo xs i + xs[i]) % 256) (xs.drop (i + 1)) = _
    congr 1
    show _ = if i = 1 then sumTo xs i else IntKind.u8.wrap (sumTo xs i + rd xs i)
    rw [u8_w, rd_nat, List.getD_eq_getElem?_getD, List.getElem?_eq_getElem (by omega : i < xs.length)]
    rfl
theorem preL_eq {g : Int} {p : List Int} (h : p.length ≤ 56) : preL g p = rawPage g p := by
  unfold preL
  rw [pre0_len, show 64 - (8 + p.length) = 56 - p.length by omega]
  unfold pre0 rawPage
  rw [lowTo_eq]
theorem blockL_eq {g : Int} {p : List Int} (h1 : 1 ≤ g) (h2 : g ≤ 1000000000) (h : p.length ≤ 56) : blockL g p = pageM true g p := by
  unfold blockL pageM
  rw [if_pos ⟨rfl, h1, h2, h⟩, preL_eq h]
  congr 1
  exact (sumTo_eq (rawPage g p) (rawPage g p).length 0 (by omega)).symm
theorem genOf_eq {b : List Int} (hb : BsOk b) : genOf b = numM ((b.take 6).drop 2) := by
  have h1 : Bs ((b.take 6).drop 2) := (hb.bs.take 6).drop 2
  have hl : ((b.take 6).drop 2).length ≤ 4 := by simp only [List.length_drop, List.length_take]; omega
  show wrap64 (numL ((b.take 6).drop 2)) = _
  rw [numL_eq h1 (by omega)]
  have h2 := numM_nonneg h1
  have h3 := numM_lt7 h1 (by omega)
  exact Math.w64 (by omega) (by omega)
theorem bytesOf_eq {b : List Int} (hb : BsOk b) : bytesOf b = (b.take (8 + b.getD 6 0).toNat).drop 8 := by
  have := hb.rd 6
  have e : rd b 6 = b.getD 6 0 := rfl
  show (b.take (8 + (rd b 6).toNat)).drop 8 = _
  rw [show 8 + (rd b 6).toNat = (8 + b.getD 6 0).toNat by rw [← e]; omega]
theorem pg_iff {b : List Int} (hb : BsOk b) : PgIs b ↔ (pageOfM b).1 = true := by
  unfold PgIs
  rw [genOf_eq hb, bytesOf_eq hb]
  have e : rd b 6 = b.getD 6 0 := rfl
  rw [e]
  constructor
  · rintro ⟨h1, h2, ⟨_, h3, h4, h5⟩, h6⟩
    rw [pageOfM_eq h1 h2, ← blockL_eq h3 h4 h5, if_pos h6]
  · intro h
    by_cases hc : b.length = 64 ∧ b.getD 6 0 ≤ 56
    · rw [pageOfM_eq hc.1 hc.2] at h
      by_cases h3 : pageM true (numM ((b.take 6).drop 2)) ((b.take (8 + b.getD 6 0).toNat).drop 8) = b
      · obtain ⟨_, _, _, g1, g2, g3⟩ := pageM_is h3 (fun e => by rw [e] at hc; simp at hc)
        exact ⟨hc.1, hc.2, ⟨rfl, g1, g2, g3⟩, by rw [blockL_eq g1 g2 g3]; exact h3⟩
      · rw [if_neg h3] at h; simp at h
    · rw [pageOfM_no hc] at h; simp at h
theorem pg_block {g : Int} {p : List Int} (h1 : 1 ≤ g) (h2 : g ≤ 1000000000) (h3 : p.length ≤ 56) (hp : BsOk p) : PgIs (blockL g p) ∧ genOf (blockL g p) = g ∧ bytesOf (blockL g p) = p := by
  have hb : BsOk (blockL g p) := block_ok hp h3
  have e := pageOf_pageM h1 h2 h3
  rw [← blockL_eq h1 h2 h3] at e
  have hi : PgIs (blockL g p) := (pg_iff hb).2 (by rw [e])
  refine ⟨hi, ?_, ?_⟩
  · rw [genOf_eq hb]
    have h64 : (blockL g p).length = 64 := hi.1
    have h6 : (blockL g p).getD 6 0 ≤ 56 := hi.2.1
    rw [pageOfM_eq h64 h6] at e
    split at e
    · simpa using congrArg (fun x => x.2.1) e
    · simp at e
  · rw [bytesOf_eq hb]
    have h64 : (blockL g p).length = 64 := hi.1
    have h6 : (blockL g p).getD 6 0 ≤ 56 := hi.2.1
    rw [pageOfM_eq h64 h6] at e
    split at e
    · simpa using congrArg (fun x => x.2.2) e
    · simp at e
theorem not_zeroB : ¬ PgIs zeroB := by
  rw [pg_iff zeroB_ok]
  intro h
  obtain ⟨_, e⟩ := pageOfM_ok h
  have h1 : ((pageM true (pageOfM zeroB).2.1 (pageOfM zeroB).2.2)).getD 0 0 = 0 := by rw [e]; rfl
  have h2 : (pageM true (pageOfM zeroB).2.1 (pageOfM zeroB).2.2).getD 0 0 = 76 := by
    have hne : pageM true (pageOfM zeroB).2.1 (pageOfM zeroB).2.2 ≠ [] := fun he => by rw [he] at e; simp [zeroB] at e
    unfold pageM at hne ⊢
    split
    · rw [rawPage_parts]; rfl
    · rename_i hn; rw [if_neg hn] at hne; exact absurd rfl hne
  rw [h1] at h2; exact absurd h2 (by decide)
def NtR (x : Nt) : Prop := NtOk x ∧ -9223372036854775808 ≤ x.n ∧ x.n ≤ 9223372036854775807
theorem ntOk_b {x : Nt} (h : NtOk x) : noteOk x.tick x.kind x.who x.text = true := by
  obtain ⟨h1, h2, h3, h4⟩ := h
  unfold noteOk
  exact decide_eq_true ⟨h1.1, h1.2, h2.1, h2.2, h3.1, h3.2, h4⟩
theorem frameL_eq {x : Nt} (h : NtOk x) : frameL x = frameM x.tick x.kind x.who x.n x.text := by
  rw [frameM_ok (ntOk_b h)]
  unfold frameL headM
  rw [lowTo_eq, lowTo_eq, lowTo_eq, u64_wrap]
theorem read_is {b : List Int} (hb : BsOk b) : (FrIs b ↔ (readM b).1 = true) ∧ (FrIs b → readM b = (true, (noteOf b).tick, (noteOf b).kind, (noteOf b).who, (noteOf b).n, (noteOf b).text, frLen b)) := by
  have e0 : rd b 0 = b.getD 0 0 := rfl
  have e1 : rd b 1 = b.getD 1 0 := rfl
  have e6 : rd b 6 = b.getD 6 0 := rfl
  have r1 := hb.rd 1; have r6 := hb.rd 6
  have q : ∀ i j, j - i ≤ 8 → numL (seg b i j) = numM ((b.take j).drop i) := fun i j h => numL_eq (l := (b.take j).drop i) ((hb.bs.take j).drop i) (by simp only [List.length_drop, List.length_take]; omega)
  have hw : ∀ i j, j - i ≤ 4 → wrap64 (numL (seg b i j)) = numM ((b.take j).drop i) := fun i j h => by
    rw [q i j (by omega)]
    have h1 : Bs ((b.take j).drop i) := (hb.bs.take j).drop i
    have h2 := numM_nonneg h1
    have h3 := numM_lt7 h1 (by simp only [List.length_drop, List.length_take]; omega)
    exact Math.w64 (by omega) (by omega)
  have n0 : noteOf b = ⟨numM ((b.take 6).drop 2), b.getD 6 0, numM ((b.take 9).drop 7), wrap64 (numM ((b.take 17).drop 9)), strOfNums ((b.take (17 + b.getD 1 0).toNat).drop 17)⟩ := by
    unfold noteOf
    rw [hw 2 6 (by omega), hw 7 9 (by omega), q 9 17 (by omega), e6, Math.w64 (x := b.getD 6 0) (by omega) (by omega)]
    show _ = _
    rw [show 17 + (rd b 1).toNat = (17 + b.getD 1 0).toNat by rw [← e1]; omega]
    rfl
  have hi : FrIs b → readM b = (true, (noteOf b).tick, (noteOf b).kind, (noteOf b).who, (noteOf b).n, (noteOf b).text, frLen b) := by
    rintro ⟨h1, h2, h3, h4⟩
    have h5 := ntOk_b h4
    rw [n0] at h5 ⊢
    exact readM_yes h1 h2 h3 h5
  refine ⟨⟨fun h => by rw [hi h], fun h => ?_⟩, hi⟩
  unfold readM at h
  simp only at h
  split at h
  · rename_i hc
    refine ⟨hc.1, hc.2.1, hc.2.2.1, ?_⟩
    rw [n0]
    have := noteOk_is hc.2.2.2
    exact ⟨⟨this.1, this.2.1⟩, ⟨this.2.2.1, this.2.2.2.1⟩, ⟨this.2.2.2.2.1, this.2.2.2.2.2.1⟩, this.2.2.2.2.2.2⟩
  · simp at h
theorem fr_read {x : Nt} (h : NtR x) (r : List Int) (hr : BsOk r) : FrIs (frameL x ++ r) ∧ noteOf (frameL x ++ r) = x ∧ frLen (frameL x ++ r) = 17 + x.text.size := by
  have hb : BsOk (frameL x ++ r) := (frameL_ok h.1).append hr
  have e := readM_frame (ntOk_b h.1) h.2 r
  rw [← frameL_eq h.1] at e
  obtain ⟨h1, h2⟩ := read_is hb
  have hi := h1.2 (by rw [e])
  have e2 := h2 hi
  rw [e] at e2
  simp only [Prod.mk.injEq, true_and] at e2
  obtain ⟨a, b, c, d, f, g⟩ := e2
  refine ⟨hi, ?_, g.symm⟩
  cases x; simp only at a b c d f
  cases hn : noteOf (frameL ⟨_, _, _, _, _⟩ ++ r)
  rw [hn] at a b c d f
  simp only at a b c d f
  rw [a, b, c, d, f]
theorem fr_short {x : Nt} (h : NtOk x) (m : Nat) (hm : m < 17 + x.text.size) : ¬ FrIs ((frameL x).take m) := by
  have hb : BsOk ((frameL x).take m) := fun y hy => frameL_ok h y (List.mem_of_mem_take hy)
  rw [(read_is hb).1, frameL_eq h, readM_short (ntOk_b h) m hm]
  simp
end Go.Proofs.Ytocdlibnmlcokaa
namespace Go.Proofs.Ytocdlibnmlcokaa
open Go.RowKit Go.Proofs.YtocdlibnmlcokaaW.PrintWords Go.Proofs.YtocdlibnmlcokaaW.PrintLast Go.Proofs.Ytocdlibnmlcokaa.Math
set_option linter.unusedVariables false
set_option linter.unusedSimpArgs false
def Ch (G : Int) : Int → List Int → List (List Int) → Prop
  | _, X, [] => X = []
  | last, X, b :: r =>
    if 56 ≤ X.length then PgIs b ∧ last ≤ genOf b ∧ genOf b ≤ G ∧ bytesOf b = X.take 56 ∧ Ch G (genOf b) (X.drop 56) r
    else (X = [] ∧ ¬ (PgIs b ∧ last ≤ genOf b ∧ genOf b ≤ G) ∨ X ≠ [] ∧ PgIs b ∧ last ≤ G ∧ genOf b = G ∧ bytesOf b = X) ∧ ∀ c ∈ r, ¬ (PgIs c ∧ G ≤ genOf c)
theorem ch_stale {G : Int} : ∀ {r : List (List Int)}, (∀ c ∈ r, ¬ (PgIs c ∧ G ≤ genOf c)) → Ch G G [] r
  | [], _ => rfl
  | c :: r, h => by
    unfold Ch
    rw [if_neg (by simp)]
    exact ⟨.inl ⟨rfl, fun ⟨h1, h2, _⟩ => h c List.mem_cons_self ⟨h1, h2⟩⟩, fun d hd => h d (List.mem_cons_of_mem _ hd)⟩
theorem ch_read {G : Int} : ∀ {bl : List (List Int)} {last : Int} {X : List Int}, Ch G last X bl → bodyL G last bl = X
  | [], last, X, h => by
    have h : X = [] := h
    rw [h]; rfl
  | b :: r, last, X, h => by
    unfold Ch at h
    by_cases h56 : 56 ≤ X.length
    · rw [if_pos h56] at h
      obtain ⟨h1, h2, h3, h4, h5⟩ := h
      rw [bodyL_yes ⟨h1, h2, h3⟩, if_neg (by rw [h4, List.length_take]; omega), ch_read h5, h4, List.take_append_drop]
    · rw [if_neg h56] at h
      obtain ⟨h1 | h1, _⟩ := h
      · rw [bodyL_no h1.2, h1.1]
      · obtain ⟨_, h2, h3, h4, h5⟩ := h1
        rw [bodyL_yes ⟨h2, by omega, by omega⟩, if_pos (by rw [h5]; omega), h5]
theorem pageB_shift (X : List Int) (k : Nat) (G : Int) : pageB X (k + 1) G = pageB (X.drop 56) k G := by
  unfold pageB
  rw [List.length_drop]
  by_cases h : (k + 1) * 56 < X.length
  · rw [if_pos h, if_pos (by omega)]
    congr 1
    unfold seg
    rw [List.take_drop, List.drop_drop]
    congr 1
    · omega
    · congr 1; omega
  · rw [if_neg h, if_neg (by omega)]
theorem pageB_zero {X : List Int} (G : Int) (h : X ≠ []) : pageB X 0 G = blockL G (X.take 56) := by
  unfold pageB
  have : 0 < X.length := List.length_pos_iff.2 h
  rw [if_pos (by omega)]
  congr 1
  unfold seg
  rw [Nat.zero_mul, List.drop_zero, Nat.zero_add]
  rcases Nat.le_total X.length 56 with h1 | h1
  · rw [Nat.min_eq_left h1, List.take_length, List.take_of_length_le h1]
  · rw [Nat.min_eq_right h1]
theorem page_is {X : List Int} {G : Int} (h : X ≠ []) (h1 : 1 ≤ G) (h2 : G ≤ 1000000000) (hb : BsOk X) : PgIs (pageB X 0 G) ∧ genOf (pageB X 0 G) = G ∧ bytesOf (pageB X 0 G) = X.take 56 := by
  rw [pageB_zero G h]
  exact pg_block h1 h2 (by rw [List.length_take]; omega) (fun x hx => hb x (List.mem_of_mem_take hx))
theorem same_of {r r' : List (List Int)} (hl : r'.length = r.length) (h : ∀ k, k < r.length → r'.getD k [] = r.getD k []) : r' = r := by
  refine List.ext_getElem hl fun k h1 h2 => ?_
  have := h k h2
  rw [List.getD_eq_getElem?_getD, List.getD_eq_getElem?_getD, List.getElem?_eq_getElem h1, List.getElem?_eq_getElem h2] at this
  exact this
theorem pre_take {X Y : List Int} (h : X <+: Y) (n : Nat) (hn : n ≤ X.length) : X.take n = Y.take n := by
  obtain ⟨t, rfl⟩ := h
  rw [List.take_append_of_le_length hn]
theorem pre_drop {X Y : List Int} (h : X <+: Y) (n : Nat) : X.drop n <+: Y.drop n := by
  obtain ⟨t, rfl⟩ := h
  rw [List.drop_append]
  exact List.prefix_append _ _
theorem ch_app {G : Int} (hg1 : 1 ≤ G) (hg2 : G ≤ 1000000000) : ∀ {bl bl' : List (List Int)} {last : Int} {X X' : List Int}, bl'.length = bl.length → Ch G last X bl → last ≤ G → X <+: X' → X.length < X'.length → X'.length ≤ 56 * bl.length → BsOk X' →
    (∀ k, k < bl.length → bl'.getD k [] = if X.length / 56 ≤ k ∧ k ≤ (X'.length - 1) / 56 then pageB X' k G else bl.getD k []) → Ch G last X' bl'
  | [], bl', last, X, X', hl, hc, hla, hp, hlt, hle, hb, h => by simp only [List.length_nil] at hle; omega
  | b :: r, [], last, X, X', hl, hc, hla, hp, hlt, hle, hb, h => by simp at hl
  | b :: r, b' :: r', last, X, X', hl, hc, hla, hp, hlt, hle, hb, h => by
    simp only [List.length_cons] at hl hle h
    have h0 := h 0 (by omega)
    simp only [List.getD_cons_zero] at h0
    have hs : ∀ k, k < r.length → r'.getD k [] = if X.length / 56 ≤ k + 1 ∧ k + 1 ≤ (X'.length - 1) / 56 then pageB (X'.drop 56) k G else r.getD k [] := fun k hk => by
      have := h (k + 1) (by omega)
      simp only [List.getD_cons_succ] at this
      rw [this, pageB_shift]
    unfold Ch at hc ⊢
    by_cases h56 : 56 ≤ X.length
    · rw [if_pos h56] at hc
      rw [if_pos (by omega)]
      obtain ⟨h1, h2, h3, h4, h5⟩ := hc
      rw [if_neg (by omega)] at h0
      subst h0
      refine ⟨h1, h2, h3, by rw [h4]; exact pre_take hp 56 h56, ch_app hg1 hg2 (by omega) h5 h3 (pre_drop hp 56) (by simp only [List.length_drop]; omega) (by simp only [List.length_drop]; omega) (fun x hx => hb x (List.mem_of_mem_drop hx)) (fun k hk => ?_)⟩
      rw [hs k hk]
      simp only [List.length_drop]
      by_cases hq : X.length / 56 ≤ k + 1 ∧ k + 1 ≤ (X'.length - 1) / 56
      · rw [if_pos hq, if_pos (by omega)]
      · rw [if_neg hq, if_neg (by omega)]
    · rw [if_neg h56] at hc
      obtain ⟨_, hst⟩ := hc
      rw [if_pos (by omega)] at h0
      have hne : X' ≠ [] := fun e => by rw [e] at hlt; simp at hlt
      obtain ⟨p1, p2, p3⟩ := page_is hne hg1 hg2 hb
      rw [← h0] at p1 p2 p3
      by_cases h57 : 56 ≤ X'.length
      · rw [if_pos h57]
        refine ⟨p1, by omega, by omega, p3, ?_⟩
        rw [p2]
        by_cases h58 : X'.length = 56
        · have : r' = r := same_of (by omega) (fun k hk => by rw [hs k hk, if_neg (by omega)])
          rw [this, List.drop_eq_nil_of_le (by omega)]
          exact ch_stale hst
        · refine ch_app hg1 hg2 (X := []) (by omega) (ch_stale hst) (by omega) List.nil_prefix (by simp only [List.length_drop, List.length_nil]; omega) (by simp only [List.length_drop]; omega) (fun x hx => hb x (List.mem_of_mem_drop hx)) (fun k hk => ?_)
          rw [hs k hk]
          simp only [List.length_drop, List.length_nil]
          by_cases hq : k + 1 ≤ (X'.length - 1) / 56
          · rw [if_pos (by omega), if_pos (by omega)]
          · rw [if_neg (by omega), if_neg (by omega)]
      · rw [if_neg h57]
        have : r' = r := same_of (by omega) (fun k hk => by rw [hs k hk, if_neg (by omega)])
        rw [this]
        exact ⟨.inr ⟨hne, p1, hla, p2, by rw [p3, List.take_of_length_le (by omega)]⟩, hst⟩
def flatF : List Nt → List Int
  | [] => []
  | x :: r => frameL x ++ flatF r
def fitN : Nat → List Nt → Nat
  | _, [] => 0
  | m, x :: r => if 17 + x.text.size ≤ m then fitN (m - (17 + x.text.size)) r + 1 else 0
theorem flatF_ok : ∀ {ns : List Nt}, (∀ x ∈ ns, NtR x) → BsOk (flatF ns)
  | [], _ => fun x hx => by simp [flatF] at hx
  | x :: r, h => (frameL_ok (h x List.mem_cons_self).1).append (flatF_ok (fun y hy => h y (List.mem_cons_of_mem _ hy)))
theorem frames_cut : ∀ {ns : List Nt} (hns : ∀ x ∈ ns, NtR x) (m k : Nat), min m (flatF ns).length ≤ k → framesF k ((flatF ns).take m) = (ns.take (fitN m ns), (flatF (ns.take (fitN m ns))).length)
  | [], _, m, k, _ => by
    have e : (flatF []).take m = [] := by simp [flatF]
    rw [e, framesF_no (fun h => by have := h.1; simp at this)]
    simp [fitN, flatF]
  | x :: r, h, m, k, hk => by
    have hx := h x List.mem_cons_self
    have hr : ∀ y ∈ r, NtR y := fun y hy => h y (List.mem_cons_of_mem _ hy)
    have hl := frameL_len x
    simp only [flatF, List.length_append] at hk ⊢
    by_cases hm : 17 + x.text.size ≤ m
    · have et : (frameL x ++ flatF r).take m = frameL x ++ (flatF r).take (m - (17 + x.text.size)) := by
        rw [List.take_append, hl, List.take_of_length_le (by omega)]
      obtain ⟨a1, a2, a3⟩ := fr_read hx ((flatF r).take (m - (17 + x.text.size))) (fun y hy => flatF_ok hr y (List.mem_of_mem_take hy))
      obtain ⟨k', rfl⟩ : ∃ k', k = k' + 1 := ⟨k - 1, by omega⟩
      rw [et, framesF_yes a1, a2, a3, show (17 + (x.text.size : Int)).toNat = 17 + x.text.size by omega, List.drop_left' hl, frames_cut hr _ k' (by omega)]
      simp only [fitN, if_pos hm, List.take_succ_cons, flatF, List.length_append, hl]
    · have et : (frameL x ++ flatF r).take m = (frameL x).take m := by rw [List.take_append_of_le_length (by omega)]
      rw [et, framesF_no (fr_short hx.1 m (by omega))]
      simp [fitN, if_neg hm, flatF]
theorem fitN_le : ∀ (ns : List Nt) (m : Nat), fitN m ns ≤ ns.length
  | [], m => by simp [fitN]
  | x :: r, m => by
    simp only [fitN, List.length_cons]
    split
    · have := fitN_le r (m - (17 + x.text.size)); omega
    · omega
theorem fitN_ge : ∀ (ns : List Nt) (m j : Nat), j ≤ ns.length → (flatF (ns.take j)).length ≤ m → j ≤ fitN m ns
  | [], m, j, hj, _ => by
    have : j = 0 := by simpa using hj
    omega
  | x :: r, m, 0, _, _ => Nat.zero_le _
  | x :: r, m, j + 1, hj, hm => by
    simp only [List.take_succ_cons, flatF, List.length_append, frameL_len] at hm
    simp only [List.length_cons] at hj
    simp only [fitN]
    rw [if_pos (by omega)]
    have := fitN_ge r (m - (17 + x.text.size)) j (by omega) (by omega)
    omega
theorem flatF_app : ∀ (a b : List Nt), flatF (a ++ b) = flatF a ++ flatF b
  | [], b => rfl
  | x :: r, b => by simp only [List.cons_append, flatF, flatF_app r b, List.append_assoc]
theorem flatF_pre (ns : List Nt) (j : Nat) : flatF (ns.take j) <+: flatF ns := by
  conv => rhs; rw [← List.take_append_drop j ns]
  rw [flatF_app]
  exact List.prefix_append _ _
theorem frames_all {ns : List Nt} (h : ∀ x ∈ ns, NtR x) : framesL (flatF ns) = (ns, (flatF ns).length) := by
  have e := frames_cut h (flatF ns).length (flatF ns).length (by omega)
  rw [List.take_length] at e
  have h1 := fitN_ge ns (flatF ns).length ns.length (Nat.le_refl _) (by rw [List.take_length]; exact Nat.le_refl _)
  have h2 := fitN_le ns (flatF ns).length
  rw [show fitN (flatF ns).length ns = ns.length by omega, List.take_length] at e
  exact e
end Go.Proofs.Ytocdlibnmlcokaa
namespace Go.Proofs.Ytocdlibnmlcokaa
open Go.RowKit Go.Proofs.YtocdlibnmlcokaaW.PrintWords Go.Proofs.YtocdlibnmlcokaaW.PrintLast Go.Proofs.Ytocdlibnmlcokaa.Math
set_option linter.unusedVariables false
set_option linter.unusedSimpArgs false
structure Good (S : List (List Int)) (X : List Int) (G : Int) : Prop where
  bl : BlOk S
  head : gBS S 0 = blockL G []
  ch : Ch G 1 X (S.drop 1)
  elder : ∀ c ∈ S.drop 1, PgIs c → genOf c ≤ G
  g1 : 1 ≤ G
  g2 : G ≤ 1000000000
theorem Good.head_is {S : List (List Int)} {X : List Int} {G : Int} (h : Good S X G) : headOk S ∧ genOf (gBS S 0) = G := by
  obtain ⟨a, b, c⟩ := pg_block (p := []) h.g1 h.g2 (by simp) (fun x hx => by simp at hx)
  rw [← h.head] at a b c
  exact ⟨⟨a, by rw [c]; rfl⟩, b⟩
theorem Good.gen {S : List (List Int)} {X : List Int} {G : Int} (h : Good S X G) : logGen S = G := by
  unfold logGen; rw [if_pos h.head_is.1, h.head_is.2]
theorem Good.bytes {S : List (List Int)} {X : List Int} {G : Int} (h : Good S X G) : logBytes S = X := by
  unfold logBytes; rw [if_pos h.head_is.1, h.head_is.2, ch_read h.ch]
def applyW (S : List (List Int)) (ws : List Wr) : List (List Int) := ws.foldl (fun s w => s.set w.block.toNat w.bytes) S
theorem applyW_len : ∀ (ws : List Wr) (S : List (List Int)), (applyW S ws).length = S.length
  | [], S => rfl
  | w :: r, S => by
    show (applyW (S.set w.block.toNat w.bytes) r).length = _
    rw [applyW_len r, List.length_set]
theorem applyW_app (S : List (List Int)) (a b : List Wr) : applyW S (a ++ b) = applyW (applyW S a) b := by unfold applyW; rw [List.foldl_append]
theorem setTo_apply (bs : List (List Int)) (ws : List Wr) : ∀ i, i ≤ ws.length → setTo bs ws (kfL true []) i = applyW bs (ws.take i)
  | 0, _ => rfl
  | i + 1, h => by
    have e : ws.take (i + 1) = ws.take i ++ [ws.getD i ⟨0, []⟩] := by
      rw [List.take_succ_eq_append_getElem (by omega), List.getD_eq_getElem?_getD, List.getElem?_eq_getElem (by omega)]; rfl
    rw [e, applyW_app, ← setTo_apply bs ws i (by omega)]
    rfl
theorem sync_apply (bs : List (List Int)) (ws : List Wr) : syncL bs ws = applyW bs ws := by
  have := setTo_apply bs ws ws.length (Nat.le_refl _)
  rw [List.take_length] at this
  exact this
theorem sync_app (bs : List (List Int)) (a b : List Wr) : syncL bs (a ++ b) = applyW (syncL bs a) b := by rw [sync_apply, sync_apply, applyW_app]
theorem getD_set {S : List (List Int)} {i j : Nat} {x : List Int} (hj : j < S.length) : (S.set i x).getD j [] = if i = j then x else S.getD j [] := by
  rw [List.getD_eq_getElem?_getD, List.getD_eq_getElem?_getD, List.getElem?_set]
  by_cases h : i = j
  · rw [if_pos h, if_pos h, if_pos (by omega)]; rfl
  · rw [if_neg h, if_neg h]
theorem apply_pages (S : List (List Int)) (X : List Int) (G : Int) (fr j : Nat) (hj : j < S.length) : ∀ n, (applyW S (pagesW X G fr n)).getD j [] = if fr + 1 ≤ j ∧ j ≤ fr + n then pageB X (j - 1) G else S.getD j []
  | 0 => by
    rw [if_neg (by omega)]; rfl
  | n + 1 => by
    rw [pagesW_succ, applyW_app]
    show ((applyW S (pagesW X G fr n)).set (((fr + n : Nat) : Int) + 1).toNat (pageB X (fr + n) G)).getD j [] = _
    rw [getD_set (by rw [applyW_len]; exact hj), apply_pages S X G fr j hj n, show (((fr + n : Nat) : Int) + 1).toNat = fr + n + 1 by omega]
    by_cases h : fr + n + 1 = j
    · rw [if_pos h, if_pos (by omega), show j - 1 = fr + n by omega]
    · rw [if_neg h]
      by_cases h2 : fr + 1 ≤ j ∧ j ≤ fr + n
      · rw [if_pos h2, if_pos (by omega)]
      · rw [if_neg h2, if_neg (by omega)]
theorem apply_zeros (S : List (List Int)) (j : Nat) (hj : j < S.length) : ∀ n, (applyW S (zerosW n)).getD j [] = if 1 ≤ j ∧ j ≤ n then zeroB else S.getD j []
  | 0 => by rw [if_neg (by omega)]; rfl
  | n + 1 => by
    rw [zerosW_succ, applyW_app]
    show ((applyW S (zerosW n)).set ((n : Int) + 1).toNat zeroB).getD j [] = _
    rw [getD_set (by rw [applyW_len]; exact hj), apply_zeros S j hj n, show ((n : Int) + 1).toNat = n + 1 by omega]
    by_cases h : n + 1 = j
    · rw [if_pos h, if_pos (by omega)]
    · rw [if_neg h]
      by_cases h2 : 1 ≤ j ∧ j ≤ n
      · rw [if_pos h2, if_pos (by omega)]
      · rw [if_neg h2, if_neg (by omega)]
theorem drop_getD (S : List (List Int)) (k : Nat) : (S.drop 1).getD k [] = S.getD (k + 1) [] := by
  rw [List.getD_eq_getElem?_getD, List.getD_eq_getElem?_getD, List.getElem?_drop, Nat.add_comm]
theorem mem_getD {l : List (List Int)} {c : List Int} (h : c ∈ l) : ∃ k, k < l.length ∧ l.getD k [] = c := by
  obtain ⟨k, hk, e⟩ := List.mem_iff_getElem.1 h
  exact ⟨k, hk, by rw [List.getD_eq_getElem?_getD, List.getElem?_eq_getElem hk]; exact e⟩
theorem gen_page (X : List Int) (k : Nat) {G : Int} (h1 : 1 ≤ G) (h2 : G ≤ 1000000000) (hb : BsOk X) : PgIs (pageB X k G) → genOf (pageB X k G) ≤ G := by
  intro h
  unfold pageB at h ⊢
  split
  · rw [(pg_block h1 h2 (seg_short X k) (hb.seg _ _)).2.1]; exact Int.le_refl _
  · rename_i hn
    rw [if_neg hn] at h
    exact absurd h not_zeroB
theorem chL {S : List (List Int)} (h : BlOk S) : (S.drop 1).length = 127 := by rw [List.length_drop, h.1]
theorem good_app {S : List (List Int)} {X X' : List Int} {G : Int} (h : Good S X G) (hp : X <+: X') (hlt : X.length < X'.length) (hle : X'.length ≤ 7112) (hb : BsOk X') :
    Good (applyW S (pagesW X' G (X.length / 56) (appN X.length X'.length))) X' G := by
  have hl := h.bl.1
  have hn : X.length / 56 + appN X.length X'.length = (X'.length - 1) / 56 + 1 := by unfold appN; omega
  have hg := fun j hj => apply_pages S X' G (X.length / 56) j hj (appN X.length X'.length)
  have hgd : ∀ k, k < 127 → ((applyW S (pagesW X' G (X.length / 56) (appN X.length X'.length))).drop 1).getD k [] = if X.length / 56 ≤ k ∧ k ≤ (X'.length - 1) / 56 then pageB X' k G else (S.drop 1).getD k [] := fun k hk => by
    rw [drop_getD, hg (k + 1) (by omega), drop_getD]
    by_cases hq : X.length / 56 ≤ k ∧ k ≤ (X'.length - 1) / 56
    · rw [if_pos hq, if_pos (by omega), Nat.add_sub_cancel]
    · rw [if_neg hq, if_neg (by omega)]
  have hbl : BlOk (applyW S (pagesW X' G (X.length / 56) (appN X.length X'.length))) := by
    have := sync_ok (bs := S) (ws := pagesW X' G (X.length / 56) (appN X.length X'.length)) (dk_of h.bl (by rw [pagesW_len]; omega) (pagesW_ok hb G _ _ (by omega))).1 (dk_of h.bl (by rw [pagesW_len]; omega) (pagesW_ok hb G _ _ (by omega))).2
    rwa [sync_apply] at this
  refine ⟨hbl, ?_, ?_, ?_, h.g1, h.g2⟩
  · have := hg 0 (by omega)
    rw [if_neg (by omega)] at this
    exact this.trans h.head
  · exact ch_app h.g1 h.g2 (by rw [chL hbl, chL h.bl]) h.ch h.g1 hp hlt (by rw [chL h.bl]; omega) hb (fun k hk => hgd k (by rw [chL h.bl] at hk; exact hk))
  · intro c hc hP
    obtain ⟨k, hk, e⟩ := mem_getD hc
    rw [chL hbl] at hk
    rw [hgd k hk] at e
    split at e
    · rw [← e] at hP ⊢
      exact gen_page X' k h.g1 h.g2 hb hP
    · refine h.elder c ?_ hP
      rw [← e, List.getD_eq_getElem?_getD, List.getElem?_eq_getElem (by rw [chL h.bl]; exact hk)]
      exact List.getElem_mem _
theorem good_new {S : List (List Int)} (h : BlOk S) : Good (applyW (S.set 0 (blockL 1 [])) (zerosW 127)) [] 1 := by
  have hz1 := zerosW_len 127
  have hz2 := zerosW_ok 127 (by omega)
  have hz3 := fun j hj => apply_zeros (S.set 0 (blockL 1 [])) j hj 127
  generalize zerosW 127 = Z at hz1 hz2 hz3 ⊢
  have hb1 : BlOk (applyW S (⟨0, blockL 1 []⟩ :: Z)) := by
    have hw : ∀ x ∈ (⟨0, blockL 1 []⟩ : Wr) :: Z, WrOk x := fun x hx => by
      rcases List.mem_cons.1 hx with rfl | hx
      · exact head_ok 1
      · exact hz2 x hx
    have := sync_ok (dk_of h (by simp only [List.length_cons]; omega) hw).1 (dk_of h (by simp only [List.length_cons]; omega) hw).2
    rwa [sync_apply] at this
  have hbl : BlOk (applyW (S.set 0 (blockL 1 [])) (Z)) := hb1
  have hl := h.1
  have hg := hz3
  have hgd : ∀ k, k < 127 → ((applyW (S.set 0 (blockL 1 [])) (Z)).drop 1).getD k [] = zeroB := fun k hk => by
    rw [drop_getD, hg (k + 1) (by rw [List.length_set]; omega), if_pos (by omega)]
  have hall : ∀ c ∈ (applyW (S.set 0 (blockL 1 [])) (Z)).drop 1, c = zeroB := fun c hc => by
    obtain ⟨k, hk, e⟩ := mem_getD hc
    rw [chL hbl] at hk
    rw [← e, hgd k hk]
  refine ⟨hbl, ?_, ch_stale (fun c hc hP => by rw [hall c hc] at hP; exact not_zeroB hP.1), (fun c hc hP => by rw [hall c hc] at hP; exact absurd hP not_zeroB), by omega, by omega⟩
  have := hg 0 (by rw [List.length_set]; omega)
  rw [if_neg (by omega), getD_set (by omega), if_pos rfl] at this
  exact this
end Go.Proofs.Ytocdlibnmlcokaa
namespace Go.Proofs.Ytocdlibnmlcokaa
open Go.RowKit Go.Proofs.YtocdlibnmlcokaaW.PrintWords Go.Proofs.YtocdlibnmlcokaaW.PrintLast
set_option linter.unusedVariables false
set_option linter.unusedSimpArgs false
def blankB : List (List Int) := List.replicate 128 (List.replicate 64 0)
set_option maxRecDepth 100000 in
set_option maxHeartbeats 1000000 in
theorem implBlank_c (w : World) : Calls Try.prog 27 #[] w (GotDisk w blankB []) := by
  have hb := below_alloc (below_alloc (Below.refl w.heap.size w) (.cells #[.slice none 0 0, .slice none 0 0] 43)) (.cells #[.slice none 0 0, .slice none 0 0] 43)
  go_enter Try.func27, Try.ntmps27
  go_wp2
  generalize hw1 : World.alloc (World.alloc w _) _ = w1
  obtain ⟨K1, K2, hB, _⟩ := alloc2 hw1
  clear hw1 hb
  have BK1 := Aside0.mk K1; have BK2 := Aside0.mk K2; have HB := Aside0.mk hB; clear K1 K2 hB
  go_loopg [2] 128 (fun k v wr => ∃ (i : Int) (u : Value) (f0 : List Nat), v = .int .i64 i ∧ Aside0 (0 ≤ i ∧ i ≤ 128 ∧ 128 - i.toNat ≤ k) ∧ Aside0 (rBS.Row 22 wr u (List.replicate i.toNat (List.replicate 64 0)) f0) ∧ Aside0 (f0.Nodup ∧ ∀ b ∈ f0, w.heap.size ≤ b)
     ∧ Aside0 (wr.heap[w.heap.size]? = some (Obj.cells #[.slice none 0 0, .slice none 0 0] 43)) ∧ Aside0 (wr.heap[w.heap.size + 1]? = some (Obj.cells #[u, .slice none 0 0] 43)) ∧ Aside0 (Below w.heap.size w wr))
  case atStart => exact ⟨0, _, [], rfl, ⟨by simp⟩, ⟨Rp.Row_nil _ _ _⟩, ⟨by simp⟩, BK1, BK2, HB⟩
  case round =>
    clear BK1 BK2 HB
    obtain ⟨i, u, f0, rfl, HI, HO, HF, BK1, BK2, HB⟩ := hrel
    by_cases h1 : i < 128
    · have h0 : 0 ≤ i := HI.out.1
      go_wp2
      refine sta (fun w' => w'.cell? ⟨w.heap.size + 1, 0, none⟩ = some u) [6] 7 ((blk_cell BK2.out 0).trans rfl) (fun hS => ?_)
      replace HO := Aside0.mk (Rp.Row_drew HO.out)
      replace BK1 := Aside0.mk (blk_drew BK1.out)
      replace BK2 := Aside0.mk (blk_drew BK2.out)
      replace HB := Aside0.mk (below_drew HB.out)
      generalize wr.drew = wd at HO BK1 BK2 HB hS ⊢
      refine pu 0 1 ?_
      refine tk 1 3 hS ?_
      refine on 2 7 (fun K hK => ?_)
      refine Rp.mk_row_step rB (by rfl) 22 5 _ _ (by rfl) 64 (by rfl) (by rfl) Try.underlying22 (.int .u8 0) 1 info5 rfl (by decide) (by omega) 0 (fun _ => ⟨rfl, rfl⟩) (by omega) (by decide) ?_
      intro ga wa hga hra hba
      have nfa : ga ∉ f0 := fun h => by have := Rp.Row_lt HO.out _ h; omega
      have fa : w.heap.size ≤ ga := by have := HB.out.size; omega
      refine nx hK (pw_cell_below hba hS) (fun hS => ?_)
      clear hK K hga
      refine on 3 15 (fun K hK => ?_)
      refine va ?_
      refine nx hK (pw_cell_below (below_alloc (Below.refl _ _) _) hS) (fun hS => ?_)
      clear hK K
      have HOa := Rp.Row_below HO.out hba
      have BKa := blk_below BK2.out hba
      refine on 4 31 (fun K hK => ?_)
      refine Rp.app_one_step rBS (by rfl) (.tmp 5) (.tmp 7) 40 22 (.slice none 0 0) 24 (by rfl) Try.underlying40 info22 rfl (by decide) (by omega) u (List.replicate i.toNat (List.replicate 64 0)) (List.replicate 64 0) [.slice (some ⟨ga, 0, none⟩) 64 64] (by rfl) (by rfl) HOa ⟨_, rfl, hra⟩ (by rw [List.nodup_append]; exact ⟨HF.out.1, by simp, fun a ha b hb he => by simp at hb; subst hb; subst he; exact nfa ha⟩) (by simp; omega) ?_
      intro v1 w2 fp1 hr1 hn1 hf1 hg1
      generalize hL : List.replicate i.toNat (List.replicate 64 (0 : Int)) ++ [List.replicate 64 0] = L at hr1
      have HL := Aside0.mk hL; clear hL
      obtain ⟨Av, cv, rfl, _, _⟩ := Rp.Row_reads hr1
      obtain ⟨hr3, hk3, kp3⟩ := box_app HOa BKa (by decide) hg1 hr1 0
      have BKw := blk_grown BKa hg1 (Rp.Row_ne HOa (Rp.Row_not HOa BKa (by decide)))
      refine nx hK ((blk_cell BKw 0).trans rfl) (fun hS => ?_)
      clear hK K
      refine pu 5 63 ?_
      refine la 6 127 (fun K hK => ?_)
      have z := blk_frozen BKw 0
      refine st ?_
      refine nl hK (dn ?_)
      clear hK K z hS
      generalize w2.setCell _ _ = wf at hr3 hk3 kp3 ⊢
      have kp : Kp wd wf (f0 ++ [w.heap.size + 1]) := ((Kp.below hba).mono (by simp)).trans kp3 (fun b hb _ => hb)
      have BK1 := Aside0.mk (kp.blk BK1.out (by have := Rp.Row_not HO.out BK1.out (by decide); simp; exact this))
      have HB1 := Aside0.mk (kp.toBelow HB.out HB.out.size (fun b hb => by rcases List.mem_append.1 hb with h | h; exact HF.out.2 b h; simp at h; omega))
      have HF1 : Aside0 (fp1.Nodup ∧ ∀ b ∈ fp1, w.heap.size ≤ b) := ⟨hn1, fun b hb => by
        rcases hf1 b hb with h | h | h
        · exact HF.out.2 b h
        · simp at h; omega
        · have := hba.size; have := HB.out.size; omega⟩
      have HR1 := Aside0.mk hr3; have BK2 := Aside0.mk hk3
      clear hn1 hf1 hg1 hr1 hba hra hr3 hk3 kp kp3 HOa BKa BKw HO HB
      go_wp2
      go_roundg (gk - 1)
      case measure => have := HI.out; omega
      case rel =>
        refine ⟨i + 1, _, fp1, rfl, ⟨by have := HI.out; omega, by have := HI.out; omega, by have := HI.out; omega⟩, ?_, HF1, BK1, BK2, HB1⟩
        have := HR1.out; rw [show (i + 1).toNat = i.toNat + 1 by omega, List.replicate_succ', HL.out]; exact ⟨this⟩
    · have e1 : i = 128 := by have := HI.out; omega
      subst e1
      have HO2 := HO.out
      have e2 : List.replicate (128 : Int).toNat (List.replicate 64 (0 : Int)) = blankB := rfl
      rw [e2] at HO2
      obtain ⟨Au, cu, rfl, _, _⟩ := Rp.Row_reads HO2
      have c0_ := (blk_cell BK2.out 0).trans rfl
      have c1_ := (blk_cell BK2.out 1).trans rfl
      have c2_ := (blk_cell BK1.out 0).trans rfl
      have c3_ := (blk_cell BK1.out 1).trans rfl
      have z0_ := blk_frozen BK1.out 0
      have z1_ := blk_frozen BK1.out 1
      obtain ⟨K5, kp⟩ := set2 BK1.out (.slice Au blankB.length cu) (.slice none 0 0)
      have H2 := Aside0.mk HO2; clear HO2 e2 HO
      have K5 := Aside0.mk K5; have kp := Aside0.mk kp
      go_wp2
      refine bodyPost_ret (results_cell_row rfl _ _ (w.heap.size) 43 #[.slice Au blankB.length cu, .slice none 0 0] (0, 0) _ rfl K5.out Try.underlying43 rfl (by kernel_rfl)) rfl ?_
      have n2 := Rp.Row_not H2.out BK1.out (by decide)
      exact ⟨_, _, f0, [], rfl, kp.out.row H2.out (fun b hb h => by simp at h; exact n2 (h ▸ hb)), Rp.Row_nil _ _ _, by simpa using HF.out.1, by simpa using HF.out.2, kp.out.toBelow HB.out HB.out.size (fun b hb => by simp at hb; omega)⟩
set_option maxRecDepth 100000 in
set_option maxHeartbeats 1000000 in
theorem specBlank_c (w : World) : Calls Try.prog 26 #[] w (GotDisk w blankB []) := by
  have hb := below_alloc (below_alloc (Below.refl w.heap.size w) (.cells #[.slice none 0 0, .slice none 0 0] 43)) (.cells #[.slice none 0 0, .slice none 0 0] 43)
  go_enter Try.func26, Try.ntmps26
  go_wp2
  generalize hw1 : World.alloc (World.alloc w _) _ = w1
  obtain ⟨K1, K2, hB, _⟩ := alloc2 hw1
  clear hw1 hb
  have BK1 := Aside0.mk K1; have BK2 := Aside0.mk K2; have HB := Aside0.mk hB; clear K1 K2 hB
  go_loopg [2] 128 (fun k v wr => ∃ (i : Int) (u : Value) (f0 : List Nat), v = .int .i64 i ∧ Aside0 (0 ≤ i ∧ i ≤ 128 ∧ 128 - i.toNat ≤ k) ∧ Aside0 (rBS.Row 22 wr u (List.replicate i.toNat (List.replicate 64 0)) f0) ∧ Aside0 (f0.Nodup ∧ ∀ b ∈ f0, w.heap.size ≤ b)
     ∧ Aside0 (wr.heap[w.heap.size]? = some (Obj.cells #[.slice none 0 0, .slice none 0 0] 43)) ∧ Aside0 (wr.heap[w.heap.size + 1]? = some (Obj.cells #[u, .slice none 0 0] 43)) ∧ Aside0 (Below w.heap.size w wr))
  case atStart => exact ⟨0, _, [], rfl, ⟨by simp⟩, ⟨Rp.Row_nil _ _ _⟩, ⟨by simp⟩, BK1, BK2, HB⟩
  case round =>
    clear BK1 BK2 HB
    obtain ⟨i, u, f0, rfl, HI, HO, HF, BK1, BK2, HB⟩ := hrel
    by_cases h1 : i < 128
    · have h0 : 0 ≤ i := HI.out.1
      go_wp2
      refine sta (fun w' => w'.cell? ⟨w.heap.size + 1, 0, none⟩ = some u) [6] 7 ((blk_cell BK2.out 0).trans rfl) (fun hS => ?_)
      replace HO := Aside0.mk (Rp.Row_drew HO.out)
      replace BK1 := Aside0.mk (blk_drew BK1.out)
      replace BK2 := Aside0.mk (blk_drew BK2.out)
      replace HB := Aside0.mk (below_drew HB.out)
      generalize wr.drew = wd at HO BK1 BK2 HB hS ⊢
      refine pu 0 1 ?_
      refine tk 1 3 hS ?_
      refine on 2 7 (fun K hK => ?_)
      refine Rp.mk_row_step rB (by rfl) 22 5 _ _ (by rfl) 64 (by rfl) (by rfl) Try.underlying22 (.int .u8 0) 1 info5 rfl (by decide) (by omega) 0 (fun _ => ⟨rfl, rfl⟩) (by omega) (by decide) ?_
      intro ga wa hga hra hba
      have nfa : ga ∉ f0 := fun h => by have := Rp.Row_lt HO.out _ h; omega
      have fa : w.heap.size ≤ ga := by have := HB.out.size; omega
      refine nx hK (pw_cell_below hba hS) (fun hS => ?_)
      clear hK K hga
      refine on 3 15 (fun K hK => ?_)
      refine va ?_
      refine nx hK (pw_cell_below (below_alloc (Below.refl _ _) _) hS) (fun hS => ?_)
      clear hK K
      have HOa := Rp.Row_below HO.out hba
      have BKa := blk_below BK2.out hba
      refine on 4 31 (fun K hK => ?_)
      refine Rp.app_one_step rBS (by rfl) (.tmp 8) (.tmp 10) 40 22 (.slice none 0 0) 24 (by rfl) Try.underlying40 info22 rfl (by decide) (by omega) u (List.replicate i.toNat (List.replicate 64 0)) (List.replicate 64 0) [.slice (some ⟨ga, 0, none⟩) 64 64] (by rfl) (by rfl) HOa ⟨_, rfl, hra⟩ (by rw [List.nodup_append]; exact ⟨HF.out.1, by simp, fun a ha b hb he => by simp at hb; subst hb; subst he; exact nfa ha⟩) (by simp; omega) ?_
      intro v1 w2 fp1 hr1 hn1 hf1 hg1
      generalize hL : List.replicate i.toNat (List.replicate 64 (0 : Int)) ++ [List.replicate 64 0] = L at hr1
      have HL := Aside0.mk hL; clear hL
      obtain ⟨Av, cv, rfl, _, _⟩ := Rp.Row_reads hr1
      obtain ⟨hr3, hk3, kp3⟩ := box_app HOa BKa (by decide) hg1 hr1 0
      have BKw := blk_grown BKa hg1 (Rp.Row_ne HOa (Rp.Row_not HOa BKa (by decide)))
      refine nx hK ((blk_cell BKw 0).trans rfl) (fun hS => ?_)
      clear hK K
      refine pu 5 63 ?_
      refine la 6 127 (fun K hK => ?_)
      have z := blk_frozen BKw 0
      refine st ?_
      refine nl hK (dn ?_)
      clear hK K z hS
      generalize w2.setCell _ _ = wf at hr3 hk3 kp3 ⊢
      have kp : Kp wd wf (f0 ++ [w.heap.size + 1]) := ((Kp.below hba).mono (by simp)).trans kp3 (fun b hb _ => hb)
      have BK1 := Aside0.mk (kp.blk BK1.out (by have := Rp.Row_not HO.out BK1.out (by decide); simp; exact this))
      have HB1 := Aside0.mk (kp.toBelow HB.out HB.out.size (fun b hb => by rcases List.mem_append.1 hb with h | h; exact HF.out.2 b h; simp at h; omega))
      have HF1 : Aside0 (fp1.Nodup ∧ ∀ b ∈ fp1, w.heap.size ≤ b) := ⟨hn1, fun b hb => by
        rcases hf1 b hb with h | h | h
        · exact HF.out.2 b h
        · simp at h; omega
        · have := hba.size; have := HB.out.size; omega⟩
      have HR1 := Aside0.mk hr3; have BK2 := Aside0.mk hk3
      clear hn1 hf1 hg1 hr1 hba hra hr3 hk3 kp kp3 HOa BKa BKw HO HB
      go_wp2
      go_roundg (gk - 1)
      case measure => have := HI.out; omega
      case rel =>
        refine ⟨i + 1, _, fp1, rfl, ⟨by have := HI.out; omega, by have := HI.out; omega, by have := HI.out; omega⟩, ?_, HF1, BK1, BK2, HB1⟩
        have := HR1.out; rw [show (i + 1).toNat = i.toNat + 1 by omega, List.replicate_succ', HL.out]; exact ⟨this⟩
    · have e1 : i = 128 := by have := HI.out; omega
      subst e1
      have HO2 := HO.out
      have e2 : List.replicate (128 : Int).toNat (List.replicate 64 (0 : Int)) = blankB := rfl
      rw [e2] at HO2
      obtain ⟨Au, cu, rfl, _, _⟩ := Rp.Row_reads HO2
      have c0_ := (blk_cell BK2.out 0).trans rfl
      have c1_ := (blk_cell BK2.out 1).trans rfl
      have c2_ := (blk_cell BK1.out 0).trans rfl
      have c3_ := (blk_cell BK1.out 1).trans rfl
      have z0_ := blk_frozen BK1.out 0
      have z1_ := blk_frozen BK1.out 1
      obtain ⟨K5, kp⟩ := set2 BK1.out (.slice Au blankB.length cu) (.slice none 0 0)
      have H2 := Aside0.mk HO2; clear HO2 e2 HO
      have K5 := Aside0.mk K5; have kp := Aside0.mk kp
      go_wp2
      refine bodyPost_ret (results_cell_row rfl _ _ (w.heap.size) 43 #[.slice Au blankB.length cu, .slice none 0 0] (0, 0) _ rfl K5.out Try.underlying43 rfl (by kernel_rfl)) rfl ?_
      have n2 := Rp.Row_not H2.out BK1.out (by decide)
      exact ⟨_, _, f0, [], rfl, kp.out.row H2.out (fun b hb h => by simp at h; exact n2 (h ▸ hb)), Rp.Row_nil _ _ _, by simpa using HF.out.1, by simpa using HF.out.2, kp.out.toBelow HB.out HB.out.size (fun b hb => by simp at hb; omega)⟩
end Go.Proofs.Ytocdlibnmlcokaa
namespace Go.Proofs.Ytocdlibnmlcokaa
open Go.RowKit Go.Proofs.YtocdlibnmlcokaaW.PrintWords Go.Proofs.YtocdlibnmlcokaaW.PrintLast Go.Proofs.Ytocdlibnmlcokaa.Math
set_option linter.unusedVariables false
set_option linter.unusedSimpArgs false
structure St (o : Opn) (ns : List Nt) (s : Nat) (G : Int) : Prop where
  ok : o.ok = true
  lg : o.lg = scanL o.bs o.ws
  dk : DkOk o.bs o.ws
  bk : BkOk o.bs o.ws
  nr : ∀ x ∈ ns, NtR x
  sl : s ≤ ns.length
  good0 : Good o.bs (flatF (ns.take s)) G
  good1 : Good (syncL o.bs o.ws) (flatF ns) G
  len : (flatF ns).length ≤ 7112
  ver : ∀ x ∈ o.ws, ∃ (k : Nat) (Y : List Int), x.block = k + 1 ∧ k < 127 ∧ x.bytes = pageB Y k G ∧ flatF (ns.take s) <+: Y ∧ Y <+: flatF ns ∧ k * 56 < Y.length ∧ (flatF (ns.take s)).length / 56 ≤ k
theorem sameN_take : ∀ (ns : List Nt) (s : Nat), s ≤ ns.length → sameN ns (ns.take s) = s
  | [], s, h => by
    have : s = 0 := by simpa using h
    subst this; rfl
  | x :: r, 0, h => rfl
  | x :: r, s + 1, h => by
    simp only [List.length_cons] at h
    simp only [List.take_succ_cons, sameN, if_true, sameN_take r s (by omega)]
theorem nr_take {ns : List Nt} (h : ∀ x ∈ ns, NtR x) (s : Nat) : ∀ x ∈ ns.take s, NtR x := fun x hx => h x (List.mem_of_mem_take hx)
theorem St.found1 {o : Opn} {ns : List Nt} {s : Nat} {G : Int} (h : St o ns s G) : foundL (syncL o.bs o.ws) = (ns, (flatF ns).length) := by
  unfold foundL; rw [h.good1.bytes, frames_all h.nr]
theorem St.lg_is {o : Opn} {ns : List Nt} {s : Nat} {G : Int} (h : St o ns s G) : o.lg = ⟨true, ns, (flatF ns).length, G, s⟩ := by
  have h0 : foundL o.bs = (ns.take s, (flatF (ns.take s)).length) := by unfold foundL; rw [h.good0.bytes, frames_all (nr_take h.nr s)]
  rw [h.lg]
  unfold scanL
  rw [h.found1, h0, h.good1.gen]
  simp only [sameN_take ns s h.sl]
theorem St.is {o : Opn} {ns : List Nt} {s : Nat} {G : Int} (h : St o ns s G) : o = ⟨true, ⟨true, ns, (flatF ns).length, G, s⟩, o.bs, o.ws⟩ := by
  have h1 := h.lg_is; have h2 := h.ok
  cases o; simp only at h1 h2; subst h1; subst h2; rfl
theorem St.right {o : Opn} {ns : List Nt} {s : Nat} {G : Int} (h : St o ns s G) : RightP o := ⟨h.ok, h.dk, h.lg, by rw [h.lg_is]; have := h.good1.g1; simp only; omega⟩
theorem st_of {S : List (List Int)} {ns : List Nt} {G : Int} (h : Good S (flatF ns) G) (hn : ∀ x ∈ ns, NtR x) (hl : (flatF ns).length ≤ 7112) : St ⟨true, scanL S [], S, []⟩ ns ns.length G :=
  { ok := rfl, lg := rfl, dk := (dk_of h.bl (by simp) (fun x hx => by simp at hx)).1, bk := (dk_of h.bl (by simp) (fun x hx => by simp at hx)).2, nr := hn, sl := Nat.le_refl _,
    good0 := by rw [List.take_length]; exact h, good1 := h, len := hl, ver := fun x hx => by simp at hx }
theorem st_new {S : List (List Int)} (h : BlOk S) (hg : logGen S = 0) : St (openS S) [] 0 1 := by
  have hgd := good_new h
  have hS : syncL S (openWs S) = applyW (S.set 0 (blockL 1 [])) (zerosW 127) := by
    rw [sync_apply]
    unfold openWs
    rw [if_pos hg, hg]
    generalize zerosW 127 = Z
    show applyW (S.set (0 : Int).toNat (blockL (0 + 1) [])) Z = _
    rw [show (0 : Int) + 1 = 1 from rfl, show (0 : Int).toNat = 0 from rfl]
  generalize applyW (S.set 0 (blockL 1 [])) (zerosW 127) = T at hgd hS
  have he : openS S = ⟨true, scanL (syncL S (openWs S)) [], syncL S (openWs S), []⟩ := by unfold openS; rw [if_neg (by rw [hg]; decide)]
  rw [he, hS]
  exact st_of (ns := []) hgd (fun x hx => by simp at hx) (by simp [flatF])
theorem St.commit {o : Opn} {ns : List Nt} {s : Nat} {G : Int} (h : St o ns s G) : St (commitS (syncL o.bs o.ws)) ns ns.length G := st_of h.good1 h.nr h.len
theorem St.fits {o : Opn} {ns : List Nt} {s : Nat} {G : Int} (h : St o ns s G) {x : Nt} : (appX o.bs o.ws x) = flatF (ns ++ [x]) ∧ (flatF (ns ++ [x])).length = (flatF ns).length + (17 + x.text.size) := by
  unfold appX
  rw [h.good1.bytes, h.found1]
  simp only [List.take_length, flatF_app, flatF, List.append_nil, List.length_append, frameL_len]
  exact ⟨trivial, trivial⟩
theorem St.append {o : Opn} {ns : List Nt} {s : Nat} {G : Int} (h : St o ns s G) {x : Nt} (hx : NtR x) (hl : (flatF (ns ++ [x])).length ≤ 7112) (hw : o.ws.length + appN (flatF ns).length (flatF (ns ++ [x])).length ≤ 200) :
    St (appendO o.bs o.ws x) (ns ++ [x]) s G := by
  obtain ⟨e1, e2⟩ := h.fits (x := x)
  have eo : appendO o.bs o.ws x = ⟨true, scanL o.bs (o.ws ++ pagesW (flatF (ns ++ [x])) G ((flatF ns).length / 56) (appN (flatF ns).length (flatF (ns ++ [x])).length)), o.bs, o.ws ++ pagesW (flatF (ns ++ [x])) G ((flatF ns).length / 56) (appN (flatF ns).length (flatF (ns ++ [x])).length)⟩ := by
    unfold appendO
    rw [e1, h.found1, h.good1.gen]
    simp only
    rw [if_pos ⟨hl, hw⟩]
  rw [eo]
  have hnr : ∀ y ∈ ns ++ [x], NtR y := fun y hy => by
    rcases List.mem_append.1 hy with h1 | h1
    · exact h.nr y h1
    · rw [List.mem_singleton] at h1; rw [h1]; exact hx
  have hts : (ns ++ [x]).take s = ns.take s := List.take_append_of_le_length h.sl
  have hb := flatF_ok hnr
  have hpre : flatF ns <+: flatF (ns ++ [x]) := by rw [flatF_app]; exact List.prefix_append _ _
  have hn : (flatF ns).length / 56 + appN (flatF ns).length (flatF (ns ++ [x])).length = ((flatF (ns ++ [x])).length - 1) / 56 + 1 := by unfold appN; omega
  have hpo := pagesW_ok hb G ((flatF ns).length / 56) (appN (flatF ns).length (flatF (ns ++ [x])).length) (by omega)
  have hdd : DkOk o.bs (o.ws ++ pagesW (flatF (ns ++ [x])) G ((flatF ns).length / 56) (appN (flatF ns).length (flatF (ns ++ [x])).length)) ∧ BkOk o.bs (o.ws ++ pagesW (flatF (ns ++ [x])) G ((flatF ns).length / 56) (appN (flatF ns).length (flatF (ns ++ [x])).length)) :=
    dk_of h.good0.bl (by rw [List.length_append, pagesW_len]; exact hw) (fun y hy => by
      rcases List.mem_append.1 hy with h1 | h1
      · exact ⟨h.dk.2.2.2 y h1, h.bk.2 y h1⟩
      · exact hpo y h1)
  exact { ok := rfl, lg := rfl, dk := hdd.1, bk := hdd.2, nr := hnr, sl := by rw [List.length_append]; have := h.sl; omega,
          good0 := by rw [hts]; exact h.good0
          good1 := by
            simp only [sync_app]
            exact good_app h.good1 hpre (by omega) hl hb
          len := hl
          ver := fun y hy => by
            rw [hts]
            rcases List.mem_append.1 hy with h1 | h1
            · obtain ⟨k, Y, a1, a2, a3, a4, a5, a6, a7⟩ := h.ver y h1
              exact ⟨k, Y, a1, a2, a3, a4, a5.trans hpre, a6, a7⟩
            · simp only [pagesW, List.mem_map, List.mem_range] at h1
              obtain ⟨i, hi, rfl⟩ := h1
              refine ⟨(flatF ns).length / 56 + i, flatF (ns ++ [x]), rfl, by omega, rfl, (flatF_pre ns s).trans hpre, List.prefix_rfl, by omega, ?_⟩
              have := (flatF_pre ns s).length_le
              omega }
theorem setTo_ver (bs : List (List Int)) (ws : List Wr) (kf : Nat → Bool) (j : Nat) (hj : j < bs.length) : ∀ i, i ≤ ws.length → (setTo bs ws kf i).getD j [] = bs.getD j [] ∨ ∃ x ∈ ws, x.block.toNat = j ∧ (setTo bs ws kf i).getD j [] = x.bytes
  | 0, _ => .inl rfl
  | i + 1, h => by
    simp only [setTo]
    split
    · rw [getD_set (by rw [setTo_len]; exact hj)]
      have hm : ws.getD i ⟨0, []⟩ ∈ ws := by rw [List.getD_eq_getElem?_getD, List.getElem?_eq_getElem (by omega)]; exact List.getElem_mem _
      by_cases e : (ws.getD i ⟨0, []⟩).block.toNat = j
      · rw [if_pos e]; exact .inr ⟨_, hm, e, rfl⟩
      · rw [if_neg e]; exact setTo_ver bs ws kf j hj i (by omega)
    · exact setTo_ver bs ws kf j hj i (by omega)
theorem settle_bytes {bs : List (List Int)} {ws : List Wr} (kf : Nat → Bool) (hd : DkOk bs ws) (hk : BkOk bs ws) : BlOk (settleL bs ws kf) := by
  obtain ⟨h1, h2⟩ := settle_ok kf hd
  refine ⟨h1, fun b hb => ⟨h2 b hb, ?_⟩⟩
  obtain ⟨j, hj, e⟩ := mem_getD hb
  rcases setTo_ver bs ws kf j (by rw [h1] at hj; rw [hd.1]; exact hj) ws.length (Nat.le_refl _) with h | ⟨x, hx, _, h⟩
  · rw [← e]
    show BsOk ((setTo bs ws kf ws.length).getD j [])
    rw [h, List.getD_eq_getElem?_getD, List.getElem?_eq_getElem (by rw [h1] at hj; rw [hd.1]; exact hj)]
    exact hk.1 _ (List.getElem_mem _)
  · rw [← e]
    show BsOk ((setTo bs ws kf ws.length).getD j [])
    rw [h]
    exact hk.2 x hx
theorem blank_gen : logGen blankB = 0 := by
  have : ¬ headOk blankB := fun h => not_zeroB h.1
  unfold logGen
  rw [if_neg this]
theorem blank_ok : BlOk blankB := ⟨by simp [blankB], fun b hb => by
  rw [List.eq_of_mem_replicate hb]
  exact ⟨by simp, zeroB_ok⟩⟩
end Go.Proofs.Ytocdlibnmlcokaa
namespace Go.Proofs.Ytocdlibnmlcokaa
open Go.RowKit Go.Proofs.YtocdlibnmlcokaaW.PrintWords Go.Proofs.YtocdlibnmlcokaaW.PrintLast
set_option linter.unusedVariables false
set_option linter.unusedSimpArgs false
end Go.Proofs.Ytocdlibnmlcokaa
namespace Go.Proofs.Ytocdlibnmlcokaa
open Go.RowKit Go.Proofs.YtocdlibnmlcokaaW.PrintWords Go.Proofs.YtocdlibnmlcokaaW.PrintLast
attribute [local go_sem high] eqN33
set_option linter.unusedVariables false
set_option linter.unusedSimpArgs false
end Go.Proofs.Ytocdlibnmlcokaa
namespace Go.Proofs.Ytocdlibnmlcokaa
open Go.RowKit Go.Proofs.YtocdlibnmlcokaaW.PrintWords Go.Proofs.YtocdlibnmlcokaaW.PrintLast
set_option linter.unusedVariables false
set_option linter.unusedSimpArgs false
def wB (xs : List Int) (i : Int) : Int := if xs.length = 0 then 0 else rd xs (i % xs.length)
end Go.Proofs.Ytocdlibnmlcokaa
namespace Go.Proofs.Ytocdlibnmlcokaa
open Go.RowKit Go.Proofs.YtocdlibnmlcokaaW.PrintWords Go.Proofs.YtocdlibnmlcokaaW.PrintLast
set_option linter.unusedVariables false
set_option linter.unusedSimpArgs false
def xS : Nat → ByteArray
  | 0 => { data := #[] }
  | k + 1 => xS k ++ { data := #[120] }
theorem xS_size : ∀ k, (xS k).size = k
  | 0 => rfl
  | k + 1 => by
    show (xS k ++ { data := #[120] }).size = _
    rw [ByteArray.size_append, xS_size k]; rfl
def xN (m : Nat) : Nt := ⟨5, 0, 0, 0, xS m⟩
theorem flat_len (m : Nat) : ∀ k, (flatF (List.replicate k (xN m))).length = k * (17 + m)
  | 0 => by simp [flatF]
  | k + 1 => by
    rw [List.replicate_succ]
    have h1 : (xN m).text.size = m := xS_size m
    simp only [flatF, List.length_append, frameL_len, flat_len m k, h1]
    rw [Nat.add_mul]; omega
theorem openS_ws (S : List (List Int)) : (openS S).ws = [] := by unfold openS; split <;> rfl
end Go.Proofs.Ytocdlibnmlcokaa
namespace Go.Proofs.Ytocdlibnmlcokaa
open Go.RowKit Go.Proofs.YtocdlibnmlcokaaW.PrintWords Go.Proofs.YtocdlibnmlcokaaW.PrintLast
set_option linter.unusedVariables false
set_option linter.unusedSimpArgs false
theorem St.safe {S : List (List Int)} {ws : List Wr} {ns : List Nt} {L G : Int} {s : Nat} (h : St ⟨true, ⟨true, ns, L, G, s⟩, S, ws⟩ ns s G) :
    ∃ S2, commitS (syncL S ws) = ⟨true, ⟨true, ns, L, G, (ns.length : Nat)⟩, S2, []⟩ ∧ St ⟨true, ⟨true, ns, L, G, (ns.length : Nat)⟩, S2, []⟩ ns ns.length G := by
  have hst := h.commit
  simp only at hst
  have hi := hst.is
  have hL : ((flatF ns).length : Nat) = L := by have := h.lg_is; injection this with _ _ h3; exact h3.symm
  have hw : (commitS (syncL S ws)).ws = [] := rfl
  rw [hw, hL] at hi
  refine ⟨(commitS (syncL S ws)).bs, hi, ?_⟩
  rw [hi] at hst
  exact hst
theorem st_first : ∃ S, openL blankB [] = ⟨true, ⟨true, [], 0, 1, (0 : Nat)⟩, S, []⟩ ∧ St ⟨true, ⟨true, [], 0, 1, (0 : Nat)⟩, S, []⟩ [] 0 1 := by
  have hst : St (openL blankB []) [] 0 1 := by
    show St (openS blankB) [] 0 1
    exact st_new blank_ok blank_gen
  have hi := hst.is
  have hw : (openL blankB []).ws = [] := openS_ws _
  rw [hw] at hi
  refine ⟨(openL blankB []).bs, hi, ?_⟩
  rw [hi] at hst
  exact hst
end Go.Proofs.Ytocdlibnmlcokaa
namespace Go.Proofs.Ytocdlibnmlcokaa
open Go.Shelf
def Try.lays144_ren : Go.Shelf.Ren := ⟨fun | 144 => 106 | 143 => 145 | 219 => 161 | 217 => 164 | 225 => 165 | 224 => 166 | 267 => 167 | 266 => 168 | 314 => 169 | n => n, fun | 9 => 9 | 4 => 4 | 3 => 3 | 5 => 5 | 46 => 179 | 146 => 183 | 51 => 182 | n => n, fun | 1 => 0 | n => n⟩
theorem Try.lays144 : Go.Proofs.Lays.n144 Try.prog Try.lays144_ren := {
  mixed := by kernel_rfl
  f143 := Try.func145.trans (congrArg some (by kernel_rfl))
  f144 := Try.func106.trans (congrArg some (by kernel_rfl))
  f217 := Try.func164.trans (congrArg some (by kernel_rfl))
  f219 := Try.func161.trans (congrArg some (by kernel_rfl))
  f224 := Try.func166.trans (congrArg some (by kernel_rfl))
  f225 := Try.func165.trans (congrArg some (by kernel_rfl))
  f266 := Try.func168.trans (congrArg some (by kernel_rfl))
  f267 := Try.func167.trans (congrArg some (by kernel_rfl))
  f314 := Try.func169.trans (congrArg some (by kernel_rfl))
  t3 := Try.underlying3
  a3 := Try.isAgg3
  z3 := Try.sizeOf3
  v3 := Try.zeroValue3
  t4 := Try.underlying4
  a4 := Try.isAgg4
  z4 := Try.sizeOf4
  v4 := Try.zeroValue4
  t5 := Try.underlying5
  a5 := Try.isAgg5
  z5 := Try.sizeOf5
  v5 := Try.zeroValue5
  t9 := Try.underlying9
  a9 := Try.isAgg9
  z9 := Try.sizeOf9
  v9 := Try.zeroValue9
  t46 := Try.underlying179
  a46 := Try.isAgg179
  z46 := Try.sizeOf179
  v46 := Try.zeroValue179
  t51 := Try.underlying182
  a51 := Try.isAgg182
  z51 := Try.sizeOf182
  v51 := Try.zeroValue182
  t146 := Try.underlying183
  a146 := Try.isAgg183
  z146 := Try.sizeOf183
  v146 := Try.zeroValue183
  g1 := by kernel_rfl }
open Go.RowKit Go.Lib in
theorem Try.strings_Contains (s sub : ByteArray) (m : Int) (w : World) (hs : s.size < 4294967281) (hm : w.cell? ⟨0, 0, none⟩ = some (.int .i64 m)) :
    Calls Try.prog 106 #[.string s, .string sub] w fun e w' => e = .returned (.bool (Lib.contains s.data.toList sub.data.toList)) ∧ w' = w := Any.strings_Contains Try.lays144 s sub m w hs hm
def Try.laysM144_ren : Go.Shelf.Ren := ⟨fun | 144 => 106 | 143 => 145 | 219 => 161 | 217 => 164 | 225 => 165 | 224 => 166 | 267 => 167 | 266 => 168 | 314 => 169 | n => n, fun | 9 => 9 | 4 => 4 | 3 => 3 | 5 => 5 | 46 => 179 | 146 => 183 | 51 => 182 | n => n, fun | 1 => 0 | n => n⟩
theorem Try.laysM144 : Go.Proofs.LaysM.n144 Try.prog Try.laysM144_ren := {
  mixed := by kernel_rfl
  f143 := Try.func145.trans (congrArg some (by kernel_rfl))
  f144 := Try.func106.trans (congrArg some (by kernel_rfl))
  f217 := Try.func164.trans (congrArg some (by kernel_rfl))
  f219 := Try.func161.trans (congrArg some (by kernel_rfl))
  f224 := Try.func166.trans (congrArg some (by kernel_rfl))
  f225 := Try.func165.trans (congrArg some (by kernel_rfl))
  f266 := Try.func168.trans (congrArg some (by kernel_rfl))
  f267 := Try.func167.trans (congrArg some (by kernel_rfl))
  f314 := Try.func169.trans (congrArg some (by kernel_rfl))
  t3 := Try.underlying3
  a3 := Try.isAgg3
  z3 := Try.sizeOf3
  v3 := Try.zeroValue3
  t4 := Try.underlying4
  a4 := Try.isAgg4
  z4 := Try.sizeOf4
  v4 := Try.zeroValue4
  t5 := Try.underlying5
  a5 := Try.isAgg5
  z5 := Try.sizeOf5
  v5 := Try.zeroValue5
  t9 := Try.underlying9
  a9 := Try.isAgg9
  z9 := Try.sizeOf9
  v9 := Try.zeroValue9
  t46 := Try.underlying179
  a46 := Try.isAgg179
  z46 := Try.sizeOf179
  v46 := Try.zeroValue179
  t51 := Try.underlying182
  a51 := Try.isAgg182
  z51 := Try.sizeOf182
  v51 := Try.zeroValue182
  t146 := Try.underlying183
  a146 := Try.isAgg183
  z146 := Try.sizeOf183
  v146 := Try.zeroValue183
  g1 := by kernel_rfl
  i3 := by kernel_rfl
  i4 := by kernel_rfl
  i5 := by kernel_rfl
  i9 := by kernel_rfl
  i46 := by kernel_rfl
  i51 := by kernel_rfl
  i146 := by kernel_rfl
  m1 := by kernel_rfl
  s1_3 := fun w h => Go.Proofs.cell_of_shapedOpen_int (zero := #[.int .i64 0]) (t := 3) h (of_decide_eq_true (by kernel_rfl)) (by kernel_rfl) rfl (by kernel_rfl) (by kernel_rfl) Try.underlying3 }
end Go.Proofs.Ytocdlibnmlcokaa
namespace Go.Proofs.Ytocdlibnmlcokaa
open Go.RowKit Go.Proofs.YtocdlibnmlcokaaW.PrintWords Go.Proofs.YtocdlibnmlcokaaW.PrintLast
set_option linter.unusedVariables false
set_option linter.unusedSimpArgs false
def HasMax (w : World) : Prop := ∃ m : Int, w.cell? ⟨0, 0, none⟩ = some (.int .i64 m)
theorem HasMax.below {w w1 : World} (h : HasMax w) (hb : Below w.heap.size w w1) : HasMax w1 := by
  obtain ⟨m, hm⟩ := h
  exact ⟨m, pw_cell_below hb hm⟩
theorem HasMax.of {w : World} (h : w.ShapedOpen Try.prog) : HasMax w := Try.laysM144.s1_3 w h
def hasB (s part : ByteArray) : Bool := Lib.contains s.data.toList part.data.toList
theorem hasB_yes {s part : ByteArray} {i : Nat} (hi : i + part.size ≤ s.size) (ho : Lib.occAt s.data.toList part.data.toList i = true) : hasB s part = true := by
  unfold hasB Lib.contains
  have hs : s.data.toList.length = s.size := data_length s
  rcases Lib.index_spec s.data.toList part.data.toList with ⟨_, h2⟩ | ⟨j, h1, _⟩
  · rw [h2 i (by omega)] at ho; cases ho
  · rw [h1]; simp
theorem hasB_no {s part : ByteArray} (h : ∀ i, i + part.size ≤ s.size → Lib.occAt s.data.toList part.data.toList i = false) : hasB s part = false := by
  unfold hasB Lib.contains
  have hl : part.data.toList.length = part.size := data_length part
  have hs : s.data.toList.length = s.size := data_length s
  rcases Lib.index_spec s.data.toList part.data.toList with ⟨h1, _⟩ | ⟨j, h1, h2, h3, _⟩
  · rw [h1]; decide
  · exfalso
    have h5 : j + part.size ≤ s.size := by
      rcases Lib.occAt_room h3 with h4 | h4
      · omega
      · rw [h4] at hl; simp at hl; omega
    rw [h j h5] at h3
    cases h3
theorem contains_c (s part : ByteArray) (w : World) (hs : s.size < 4294967281) (hm : HasMax w) :
    Calls Try.prog 106 #[.string s, .string part] w fun e w' => e = .returned (.bool (hasB s part)) ∧ w' = w := by
  obtain ⟨m, hm⟩ := hm
  exact Try.strings_Contains s part m w hs hm
set_option maxHeartbeats 2000000 in
set_option maxRecDepth 100000 in
theorem l4has_c (s part : ByteArray) (w : World) (hs : s.size < 4294967281) (hp : part.size < 4294967281) :
    Calls Try.prog 107 #[.string s, .string part] w fun e w' => e = .returned (.bool (hasB s part)) ∧ w' = w := by
  go_enter Try.func107, Try.ntmps107
  go_wp2
  go_loopg [5] (s.size + 1) (fun m v wr => ∃ i : Nat, v = .int .i64 i ∧ Aside0 (s.size + 1 - i ≤ m ∧ ∀ j, j < i → j + part.size ≤ s.size → Lib.occAt s.data.toList part.data.toList j = false) ∧ Aside0 (i ≤ s.size + 1) ∧ wr = w)
  case atStart => exact ⟨0, rfl, ⟨by simp, fun j h => by omega⟩, ⟨by omega⟩, rfl⟩
  case round =>
    obtain ⟨i, rfl, HI, HI2, rfl⟩ := hrel
    have hi2 := HI2.out
    by_cases h : i + part.size ≤ s.size
    · have hcut : ∀ W, (Instr.slice 9 (.string s) (some (.int .i64 i)) (some (.int .i64 ((i:Int) + part.size))) none).run Try.prog W = .ok (.string (s.extract i (i + part.size))) W := by
        intro W
        have e := run_slice_string (P := Try.prog) (w := W) 9 s .i64 .i64 (i:Int) ((i:Int) + part.size) Try.underlying9 (by omega) (by omega) (by omega)
        rw [e]
        simp only [Int.toNat_natCast, show ((i:Int) + part.size).toNat = i + part.size by omega]
      have ho := Lib.occ_of_piece s part i h
      generalize hbb : ((s.extract i (i + part.size)).toList == part.toList) = b at ho
      have HO := Aside0.mk ho; clear ho
      cases b with
      | true =>
        go_wp2
        go_ret
        exact ⟨by rw [hasB_yes h HO.out]; rfl, rfl⟩
      | false =>
        go_wp2
        go_roundg (gk - 1)
        case measure => have := HI.out.1; omega
        case rel => exact ⟨i + 1, by first | rfl | (congr 1; omega), ⟨by have := HI.out.1; omega, fun j h1 h2 => by
            rcases Nat.lt_or_ge j i with h3 | h3
            · exact HI.out.2 j h3 h2
            · rw [show j = i by omega]; exact HO.out⟩, ⟨by omega⟩, rfl⟩
    · go_wp2
      go_ret
      exact ⟨by rw [hasB_no (fun j hj => HI.out.2 j (by omega) hj)]; rfl, rfl⟩
end Go.Proofs.Ytocdlibnmlcokaa
namespace Go.Proofs.Ytocdlibnmlcokaa
open Go.RowKit Go.Proofs.YtocdlibnmlcokaaW.PrintWords Go.Proofs.YtocdlibnmlcokaaW.PrintLast
set_option linter.unusedVariables false
set_option linter.unusedSimpArgs false
def fits (a x : Nt) : Bool := decide (a.tick ≤ x.tick) && decide (x.tick ≤ a.kind) && (decide (a.who = -1) || decide (a.who = x.kind)) && (decide (a.n = -1) || decide (a.n = x.who)) && hasB x.text a.text
def findTo (a : Nt) (xs : List Nt) (i : Nat) : List Int := ((List.range i).filter (fun (j : Nat) => fits a (gN xs (j : Int)))).map (fun (j : Nat) => (j : Int))
def findL (a : Nt) (xs : List Nt) : List Int := findTo a xs xs.length
theorem findTo_yes {a : Nt} {xs : List Nt} {i : Nat} (h : fits a (gN xs i) = true) : findTo a xs (i + 1) = findTo a xs i ++ [(i : Int)] := by
  unfold findTo
  rw [List.range_succ, List.filter_append, List.map_append]
  simp [h]
theorem findTo_no {a : Nt} {xs : List Nt} {i : Nat} (h : fits a (gN xs i) = false) : findTo a xs (i + 1) = findTo a xs i := by
  unfold findTo
  rw [List.range_succ, List.filter_append, List.map_append]
  simp [h]
theorem findTo_len (a : Nt) (xs : List Nt) (i : Nat) : (findTo a xs i).length ≤ i := by
  unfold findTo
  rw [List.length_map]
  exact Nat.le_trans (List.length_filter_le _ _) (by simp)
theorem fits_b {tick kind who n : Int} {text : ByteArray} {x : Nt} {b : Bool} (h1 : tick ≤ x.tick) (h2 : x.tick ≤ kind) (h3 : who = -1 ∨ who = x.kind) (h4 : n = -1 ∨ n = x.who) (hb : hasB x.text text = b) : fits ⟨tick, kind, who, n, text⟩ x = b := by
  unfold fits
  simp only [hb]
  have e3 : (decide (who = -1) || decide (who = x.kind)) = true := by rcases h3 with h | h <;> simp [h]
  have e4 : (decide (n = -1) || decide (n = x.who)) = true := by rcases h4 with h | h <;> simp [h]
  rw [e3, e4]
  simp [h1, h2]
theorem fits_no {tick kind who n : Int} {text : ByteArray} {x : Nt} (h : ¬ (tick ≤ x.tick ∧ x.tick ≤ kind ∧ (who = -1 ∨ who = x.kind) ∧ (n = -1 ∨ n = x.who))) : fits ⟨tick, kind, who, n, text⟩ x = false := by
  cases hb : fits ⟨tick, kind, who, n, text⟩ x
  · rfl
  · exfalso
    apply h
    unfold fits at hb
    simp only [Bool.and_eq_true, Bool.or_eq_true, decide_eq_true_eq] at hb
    exact ⟨hb.1.1.1.1, hb.1.1.1.2, hb.1.1.2, hb.1.2⟩
theorem info3 : (Try.prog.info? 3).map (fun i => (i.zero, i.size, i.bytes)) = some (some (.int .i64 0), 1, 8) := by kernel_rfl
set_option maxHeartbeats 16000000 in
set_option maxRecDepth 100000 in
theorem implFind_c (A : Option Addr) (c : Nat) (xs : List Nt) (a : Nt) (w : World) (hx : rN.d.C w A xs.length xs) (ht : ∀ x ∈ xs, x.text.size < 4294967281) (ha : a.text.size < 4294967281) (hl : xs.length ≤ 1048576) (hm : HasMax w) :
    Calls Try.prog 33 #[.slice A xs.length c, vN a] w (GotRow rI 3 w (findL a xs)) := by
  suffices H : ∀ Q : Ending → World → Prop, (∀ e w', GotRow rI 3 w (findL a xs) e w' → Q e w') → Calls Try.prog 33 #[.slice A xs.length c, vN a] w Q from H _ (fun e w' h => h)
  intro Q hQ
  have HX := Aside0.mk hx; have HT := Aside0.mk ht; have HQ := Aside0.mk hQ; clear hx ht hQ; have HM := Aside0.mk hm; clear hm
  obtain ⟨tick, kind, who, n, text⟩ := a
  simp only [vN] at *
  go_enter Try.func33, Try.ntmps33
  go_upto_region 1 with (fail)
  generalize hw : w.alloc _ = w1
  have O := Aside0.mk ((Own.nil w).of hw); clear hw
  go_upto_region 2 with (fail)
  replace O := Aside0.mk (O.out.nilRow rI 3)
  go_wp2
  go_loopg [5, 10] xs.length (fun m vr vi wr => ∃ i : Nat, vi = .int .i64 i ∧ Aside0 (i ≤ xs.length ∧ xs.length - i ≤ m) ∧ Aside0 (Own w wr [Rs.row rI 3 vr (findTo ⟨tick, kind, who, n, text⟩ xs i), Rs.box w.heap.size 36 #[.int .i64 tick, .int .i64 kind, .int .i64 who, .int .i64 n, .string text]]))
  case atStart => exact ⟨0, rfl, ⟨by simp⟩, O⟩
  case round =>
    clear O
    obtain ⟨i, rfl, HI, O⟩ := hrel
    by_cases hi : i < xs.length
    · obtain ⟨ad, e1, a0, a1, a2, a3, a4⟩ := at_N (Kd.C_below HX.out O.out.bel) (i : Int) (by omega) (by omega)
      cases e1
      simp only [Int.toNat_natCast] at a0 a1 a2 a3 a4
      have htx : (gN xs i).text.size < 4294967281 := by rw [gN_eq (by omega)]; exact HT.out _ (List.getElem_mem _)
      obtain ⟨x, hxe⟩ : ∃ x, x = gN xs i := ⟨_, rfl⟩
      rw [← hxe] at a0 a1 a2 a3 a4 htx
      have HXE := Aside0.mk hxe; clear hxe
      go_upto_region 5 with (fail)
      generalize hw : wr.alloc _ = w2
      replace O := Aside0.mk (O.out.of hw); clear hw
      generalize wr.heap.size = g2 at O ⊢
      have b0 := (blk_cell O.out.b0 0).trans rfl; have b1 := (blk_cell O.out.b0 1).trans rfl; have b2 := (blk_cell O.out.b0 2).trans rfl; have b3 := (blk_cell O.out.b0 3).trans rfl; have b4 := (blk_cell O.out.b0 4).trans rfl
      have c0 := (blk_cell O.out.b2 0).trans rfl; have c1 := (blk_cell O.out.b2 1).trans rfl; have c2 := (blk_cell O.out.b2 2).trans rfl; have c3 := (blk_cell O.out.b2 3).trans rfl; have c4 := (blk_cell O.out.b2 4).trans rfl
      by_cases h1 : tick ≤ x.tick
      · by_cases h2 : x.tick ≤ kind
        · have H1 := Aside0.mk h1; have H2 := Aside0.mk h2
          by_cases h3 : who = -1
          · have HWH : Aside0 (who = -1 ∨ who = x.kind) := ⟨.inl h3⟩
            obtain ⟨E3, _⟩ := eqT h3; clear h3
            by_cases h5 : n = -1
            · have HNN : Aside0 (n = -1 ∨ n = x.who) := ⟨.inl h5⟩
              obtain ⟨E5, _⟩ := eqT h5; clear h5
              go_wp2_with fail
              refine (contains_c _ _ _ htx (HM.out.below O.out.bel)).mono ?_
              rintro e w3 ⟨rfl, rfl⟩
              generalize hb : hasB x.text text = b
              have HBQ := Aside0.mk hb; clear hb
              cases b with
              | true =>
                have HFY : Aside0 (fits ⟨tick, kind, who, n, text⟩ x = true) := ⟨fits_b (x := x) H1.out H2.out HWH.out HNN.out HBQ.out⟩
                clear a0 a1 a2 a3 a4 b0 b1 b2 b3 b4 c0 c1 c2 c3 c4
                replace O := Aside0.mk (O.out.p1.cel0 (r := rI) (cs := [.int .i64 i]) (x := (i : Int)) ⟨rfl, rfl⟩).p1
                go_upto_region 7 with (at_builtin; go_loud (refine Own.app_one rI rfl (.tmp 58) (.tmp 60) 28 3 (.int .i64 0) 8 rfl Try.underlying28 info3 rfl (by decide) (by decide) _ _ (i : Int) _ rfl rfl O.out (Nat.le_trans (Nat.mul_le_mul_right 8 (Nat.add_le_add_right (findTo_len ⟨tick, kind, who, n, text⟩ xs i) 1)) (by omega)) ?_); intro v5 w5 hX; have O5 := Aside0.mk hX; clear hX)
                clear O
                go_wp2
                go_roundg (gk - 1)
                case measure => have := HI.out; omega
                case rel => exact ⟨i + 1, by first | rfl | (congr 1; omega), ⟨by have := HI.out; omega⟩, ⟨by rw [findTo_yes (HXE.out ▸ HFY.out)]; exact O5.out.p1.drop⟩⟩
              | false =>
                have HFN : Aside0 (fits ⟨tick, kind, who, n, text⟩ x = false) := ⟨fits_b (x := x) H1.out H2.out HWH.out HNN.out HBQ.out⟩
                clear a0 a1 a2 a3 a4 b0 b1 b2 b3 b4 c0 c1 c2 c3 c4
                go_wp2
                go_roundg (gk - 1)
                case measure => have := HI.out; omega
                case rel => exact ⟨i + 1, by first | rfl | (congr 1; omega), ⟨by have := HI.out; omega⟩, ⟨by rw [findTo_no (HXE.out ▸ HFN.out)]; exact O.out.drop⟩⟩
            · by_cases h6 : n = x.who
              · have HNN : Aside0 (n = -1 ∨ n = x.who) := ⟨.inr h6⟩
                obtain ⟨E5, _⟩ := eqF h5; obtain ⟨E6, _⟩ := eqT h6; clear h5 h6
                go_wp2_with fail
                refine (contains_c _ _ _ htx (HM.out.below O.out.bel)).mono ?_
                rintro e w3 ⟨rfl, rfl⟩
                generalize hb : hasB x.text text = b
                have HBQ := Aside0.mk hb; clear hb
                cases b with
                | true =>
                  have HFY : Aside0 (fits ⟨tick, kind, who, n, text⟩ x = true) := ⟨fits_b (x := x) H1.out H2.out HWH.out HNN.out HBQ.out⟩
                  clear a0 a1 a2 a3 a4 b0 b1 b2 b3 b4 c0 c1 c2 c3 c4
                  replace O := Aside0.mk (O.out.p1.cel0 (r := rI) (cs := [.int .i64 i]) (x := (i : Int)) ⟨rfl, rfl⟩).p1
                  go_upto_region 7 with (at_builtin; go_loud (refine Own.app_one rI rfl (.tmp 58) (.tmp 60) 28 3 (.int .i64 0) 8 rfl Try.underlying28 info3 rfl (by decide) (by decide) _ _ (i : Int) _ rfl rfl O.out (Nat.le_trans (Nat.mul_le_mul_right 8 (Nat.add_le_add_right (findTo_len ⟨tick, kind, who, n, text⟩ xs i) 1)) (by omega)) ?_); intro v5 w5 hX; have O5 := Aside0.mk hX; clear hX)
                  clear O
                  go_wp2
                  go_roundg (gk - 1)
                  case measure => have := HI.out; omega
                  case rel => exact ⟨i + 1, by first | rfl | (congr 1; omega), ⟨by have := HI.out; omega⟩, ⟨by rw [findTo_yes (HXE.out ▸ HFY.out)]; exact O5.out.p1.drop⟩⟩
                | false =>
                  have HFN : Aside0 (fits ⟨tick, kind, who, n, text⟩ x = false) := ⟨fits_b (x := x) H1.out H2.out HWH.out HNN.out HBQ.out⟩
                  clear a0 a1 a2 a3 a4 b0 b1 b2 b3 b4 c0 c1 c2 c3 c4
                  go_wp2
                  go_roundg (gk - 1)
                  case measure => have := HI.out; omega
                  case rel => exact ⟨i + 1, by first | rfl | (congr 1; omega), ⟨by have := HI.out; omega⟩, ⟨by rw [findTo_no (HXE.out ▸ HFN.out)]; exact O.out.drop⟩⟩
              · have HNO : Aside0 (¬ (tick ≤ x.tick ∧ x.tick ≤ kind ∧ (who = -1 ∨ who = x.kind) ∧ (n = -1 ∨ n = x.who))) := ⟨by omega⟩
                obtain ⟨E5, _⟩ := eqF h5; obtain ⟨E6, _⟩ := eqF h6; clear h5 h6
                have HFN : Aside0 (fits ⟨tick, kind, who, n, text⟩ x = false) := ⟨fits_no HNO.out⟩
                go_wp2
                go_roundg (gk - 1)
                case measure => have := HI.out; omega
                case rel => exact ⟨i + 1, by first | rfl | (congr 1; omega), ⟨by have := HI.out; omega⟩, ⟨by rw [findTo_no (HXE.out ▸ HFN.out)]; exact O.out.drop⟩⟩
          · by_cases h4 : who = x.kind
            · have HWH : Aside0 (who = -1 ∨ who = x.kind) := ⟨.inr h4⟩
              obtain ⟨E3, _⟩ := eqF h3; obtain ⟨E4, _⟩ := eqT h4; clear h3 h4
              by_cases h5 : n = -1
              · have HNN : Aside0 (n = -1 ∨ n = x.who) := ⟨.inl h5⟩
                obtain ⟨E5, _⟩ := eqT h5; clear h5
                go_wp2_with fail
                refine (contains_c _ _ _ htx (HM.out.below O.out.bel)).mono ?_
                rintro e w3 ⟨rfl, rfl⟩
                generalize hb : hasB x.text text = b
                have HBQ := Aside0.mk hb; clear hb
                cases b with
                | true =>
                  have HFY : Aside0 (fits ⟨tick, kind, who, n, text⟩ x = true) := ⟨fits_b (x := x) H1.out H2.out HWH.out HNN.out HBQ.out⟩
                  clear a0 a1 a2 a3 a4 b0 b1 b2 b3 b4 c0 c1 c2 c3 c4
                  replace O := Aside0.mk (O.out.p1.cel0 (r := rI) (cs := [.int .i64 i]) (x := (i : Int)) ⟨rfl, rfl⟩).p1
                  go_upto_region 7 with (at_builtin; go_loud (refine Own.app_one rI rfl (.tmp 58) (.tmp 60) 28 3 (.int .i64 0) 8 rfl Try.underlying28 info3 rfl (by decide) (by decide) _ _ (i : Int) _ rfl rfl O.out (Nat.le_trans (Nat.mul_le_mul_right 8 (Nat.add_le_add_right (findTo_len ⟨tick, kind, who, n, text⟩ xs i) 1)) (by omega)) ?_); intro v5 w5 hX; have O5 := Aside0.mk hX; clear hX)
                  clear O
                  go_wp2
                  go_roundg (gk - 1)
                  case measure => have := HI.out; omega
                  case rel => exact ⟨i + 1, by first | rfl | (congr 1; omega), ⟨by have := HI.out; omega⟩, ⟨by rw [findTo_yes (HXE.out ▸ HFY.out)]; exact O5.out.p1.drop⟩⟩
                | false =>
                  have HFN : Aside0 (fits ⟨tick, kind, who, n, text⟩ x = false) := ⟨fits_b (x := x) H1.out H2.out HWH.out HNN.out HBQ.out⟩
                  clear a0 a1 a2 a3 a4 b0 b1 b2 b3 b4 c0 c1 c2 c3 c4
                  go_wp2
                  go_roundg (gk - 1)
                  case measure => have := HI.out; omega
                  case rel => exact ⟨i + 1, by first | rfl | (congr 1; omega), ⟨by have := HI.out; omega⟩, ⟨by rw [findTo_no (HXE.out ▸ HFN.out)]; exact O.out.drop⟩⟩
              · by_cases h6 : n = x.who
                · have HNN : Aside0 (n = -1 ∨ n = x.who) := ⟨.inr h6⟩
                  obtain ⟨E5, _⟩ := eqF h5; obtain ⟨E6, _⟩ := eqT h6; clear h5 h6
                  go_wp2_with fail
                  refine (contains_c _ _ _ htx (HM.out.below O.out.bel)).mono ?_
                  rintro e w3 ⟨rfl, rfl⟩
                  generalize hb : hasB x.text text = b
                  have HBQ := Aside0.mk hb; clear hb
                  cases b with
                  | true =>
                    have HFY : Aside0 (fits ⟨tick, kind, who, n, text⟩ x = true) := ⟨fits_b (x := x) H1.out H2.out HWH.out HNN.out HBQ.out⟩
                    clear a0 a1 a2 a3 a4 b0 b1 b2 b3 b4 c0 c1 c2 c3 c4
                    replace O := Aside0.mk (O.out.p1.cel0 (r := rI) (cs := [.int .i64 i]) (x := (i : Int)) ⟨rfl, rfl⟩).p1
                    go_upto_region 7 with (at_builtin; go_loud (refine Own.app_one rI rfl (.tmp 58) (.tmp 60) 28 3 (.int .i64 0) 8 rfl Try.underlying28 info3 rfl (by decide) (by decide) _ _ (i : Int) _ rfl rfl O.out (Nat.le_trans (Nat.mul_le_mul_right 8 (Nat.add_le_add_right (findTo_len ⟨tick, kind, who, n, text⟩ xs i) 1)) (by omega)) ?_); intro v5 w5 hX; have O5 := Aside0.mk hX; clear hX)
                    clear O
                    go_wp2
                    go_roundg (gk - 1)
                    case measure => have := HI.out; omega
                    case rel => exact ⟨i + 1, by first | rfl | (congr 1; omega), ⟨by have := HI.out; omega⟩, ⟨by rw [findTo_yes (HXE.out ▸ HFY.out)]; exact O5.out.p1.drop⟩⟩
                  | false =>
                    have HFN : Aside0 (fits ⟨tick, kind, who, n, text⟩ x = false) := ⟨fits_b (x := x) H1.out H2.out HWH.out HNN.out HBQ.out⟩
                    clear a0 a1 a2 a3 a4 b0 b1 b2 b3 b4 c0 c1 c2 c3 c4
                    go_wp2
                    go_roundg (gk - 1)
                    case measure => have := HI.out; omega
                    case rel => exact ⟨i + 1, by first | rfl | (congr 1; omega), ⟨by have := HI.out; omega⟩, ⟨by rw [findTo_no (HXE.out ▸ HFN.out)]; exact O.out.drop⟩⟩
                · have HNO : Aside0 (¬ (tick ≤ x.tick ∧ x.tick ≤ kind ∧ (who = -1 ∨ who = x.kind) ∧ (n = -1 ∨ n = x.who))) := ⟨by omega⟩
                  obtain ⟨E5, _⟩ := eqF h5; obtain ⟨E6, _⟩ := eqF h6; clear h5 h6
                  have HFN : Aside0 (fits ⟨tick, kind, who, n, text⟩ x = false) := ⟨fits_no HNO.out⟩
                  go_wp2
                  go_roundg (gk - 1)
                  case measure => have := HI.out; omega
                  case rel => exact ⟨i + 1, by first | rfl | (congr 1; omega), ⟨by have := HI.out; omega⟩, ⟨by rw [findTo_no (HXE.out ▸ HFN.out)]; exact O.out.drop⟩⟩
            · have HNO : Aside0 (¬ (tick ≤ x.tick ∧ x.tick ≤ kind ∧ (who = -1 ∨ who = x.kind) ∧ (n = -1 ∨ n = x.who))) := ⟨by omega⟩
              obtain ⟨E3, _⟩ := eqF h3; obtain ⟨E4, _⟩ := eqF h4; clear h3 h4
              have HFN : Aside0 (fits ⟨tick, kind, who, n, text⟩ x = false) := ⟨fits_no HNO.out⟩
              go_wp2
              go_roundg (gk - 1)
              case measure => have := HI.out; omega
              case rel => exact ⟨i + 1, by first | rfl | (congr 1; omega), ⟨by have := HI.out; omega⟩, ⟨by rw [findTo_no (HXE.out ▸ HFN.out)]; exact O.out.drop⟩⟩
        · have HNO : Aside0 (¬ (tick ≤ x.tick ∧ x.tick ≤ kind ∧ (who = -1 ∨ who = x.kind) ∧ (n = -1 ∨ n = x.who))) := ⟨by omega⟩
          have HFN : Aside0 (fits ⟨tick, kind, who, n, text⟩ x = false) := ⟨fits_no HNO.out⟩
          go_wp2
          go_roundg (gk - 1)
          case measure => have := HI.out; omega
          case rel => exact ⟨i + 1, by first | rfl | (congr 1; omega), ⟨by have := HI.out; omega⟩, ⟨by rw [findTo_no (HXE.out ▸ HFN.out)]; exact O.out.drop⟩⟩
      · have HNO : Aside0 (¬ (tick ≤ x.tick ∧ x.tick ≤ kind ∧ (who = -1 ∨ who = x.kind) ∧ (n = -1 ∨ n = x.who))) := ⟨by omega⟩
        have HFN : Aside0 (fits ⟨tick, kind, who, n, text⟩ x = false) := ⟨fits_no HNO.out⟩
        go_wp2
        go_roundg (gk - 1)
        case measure => have := HI.out; omega
        case rel => exact ⟨i + 1, by first | rfl | (congr 1; omega), ⟨by have := HI.out; omega⟩, ⟨by rw [findTo_no (HXE.out ▸ HFN.out)]; exact O.out.drop⟩⟩
    · have h9 : i = xs.length := by have := HI.out; omega
      have HI9 := Aside0.mk h9; clear h9
      go_wp2
      obtain ⟨f, hf, hn, hl2, hc⟩ := O.out.take
      rw [HI9.out] at hf
      exact HQ.out _ _ ⟨_, rfl, ⟨f, hf, hn, hl2⟩, O.out.bel⟩
end Go.Proofs.Ytocdlibnmlcokaa
namespace Go.Proofs.Ytocdlibnmlcokaa
open Go.RowKit Go.Proofs.YtocdlibnmlcokaaW.PrintWords Go.Proofs.YtocdlibnmlcokaaW.PrintLast
set_option linter.unusedVariables false
set_option linter.unusedSimpArgs false
structure Ac where
  op : Int
  note : Nt
  kept : List Bool
  ask : Nt
  pos : Int
  amt : Int
structure Ad where
  code : Int
  notes : Int
  safe : Int
  found : List Int
def AcOk (a : Ac) : Prop := (a.op = 1 ∧ NtOk a.note) ∨ a.op = 2 ∨ (a.op = 3 ∧ a.kept.length ≤ 200) ∨ a.op = 4 ∨ (a.op = 5 ∧ 0 ≤ a.pos ∧ a.pos ≤ 8191 ∧ 1 ≤ a.amt ∧ a.amt ≤ 255)
instance (x : Nt) : Decidable (NtOk x) := by unfold NtOk; exact inferInstance
instance (a : Ac) : Decidable (AcOk a) := by unfold AcOk; exact inferInstance
def xorB (x y : Int) : Int := bits BinOp.xor IntKind.u8 x (IntKind.u8.wrap y)
def spoilB (b : List Int) (p a : Int) : List Int := b.set (p % 64).toNat (xorB (rd b (p % 64)) a)
def spoilS (S : List (List Int)) (p a : Int) : List (List Int) := S.set (p / 64).toNat (spoilB (gBS S (p / 64)) p a)
def nextL (o : Opn) (a : Ac) : Opn :=
  if a.op = 1 then appendO o.bs o.ws a.note else if a.op = 2 then commitS (syncL o.bs o.ws) else if a.op = 3 then openL (settleL o.bs o.ws (kfL false a.kept)) [] else if a.op = 4 then o else openL (spoilS (syncL o.bs o.ws) a.pos a.amt) []
def codeL (o : Opn) (a : Ac) : Int := if AcOk a then (if (nextL o a).ok = true then 0 else 2) else 1
def afterL (o : Opn) (a : Ac) : Opn := if codeL o a = 0 then nextL o a else o
def askL (o : Opn) (a : Ac) : List Int := if a.op = 4 then findL a.ask o.lg.notes else []
def stepL (o : Opn) (a : Ac) : Ad := ⟨codeL o a, (afterL o a).lg.notes.length, (afterL o a).lg.safe, askL o a⟩
def gA (xs : List Ac) (i : Int) : Ac := xs.getD i.toNat ⟨0, zN, [], zN, 0, 0⟩
def stO (o : Opn) (acts : List Ac) : Nat → Opn
  | 0 => o
  | i + 1 => afterL (stO o acts i) (gA acts (i : Nat))
def outL (o : Opn) (acts : List Ac) : Nat → List Ad
  | 0 => []
  | i + 1 => outL o acts i ++ [stepL (stO o acts i) (gA acts (i : Nat))]
theorem outL_len (o : Opn) (acts : List Ac) : ∀ i, (outL o acts i).length = i
  | 0 => rfl
  | i + 1 => by simp only [outL, List.length_append, List.length_cons, List.length_nil, outL_len o acts i]
def runL (acts : List Ac) : List Ad := if 300 < acts.length then [] else outL (openL blankB []) acts acts.length
def Inv (o : Opn) : Prop := RightP o ∧ BkOk o.bs o.ws
theorem xorB_range (x y : Int) : 0 ≤ xorB x y ∧ xorB x y < 256 := by
  unfold xorB Go.bits
  simp only []
  rw [u8_w]
  omega
theorem frames_ok : ∀ (k : Nat) (b : List Int), ∀ x ∈ (framesF k b).1, NtOk x
  | 0, b, x, h => by simp [framesF] at h
  | k + 1, b, x, h => by
    by_cases hf : FrIs b
    · rw [framesF_yes hf] at h
      rcases List.mem_cons.1 h with rfl | h
      · exact hf.2.2.2
      · exact frames_ok k _ x h
    · rw [framesF_no hf] at h; simp at h
theorem Inv.notes {o : Opn} (h : Inv o) : (∀ x ∈ o.lg.notes, NtOk x) ∧ o.lg.notes.length ≤ 7112 := by
  rw [h.1.2.2.1]
  exact ⟨frames_ok _ _, found_notes (sync_ok h.1.2.1 h.2)⟩
theorem apply_far {j : Nat} : ∀ (ws : List Wr) (S : List (List Int)), j < S.length → (∀ x ∈ ws, x.block.toNat ≠ j) → (applyW S ws).getD j [] = S.getD j []
  | [], S, _, _ => rfl
  | w :: r, S, hj, h => by
    show (applyW (S.set w.block.toNat w.bytes) r).getD j [] = _
    rw [apply_far r _ (by rw [List.length_set]; exact hj) (fun x hx => h x (List.mem_cons_of_mem _ hx)), getD_set hj, if_neg (h w List.mem_cons_self)]
theorem gen_head {S : List (List Int)} {G : Int} (h1 : 1 ≤ G) (h2 : G ≤ 1000000000) (h : S.getD 0 [] = blockL G []) : logGen S = G := by
  obtain ⟨a, b, c⟩ := pg_block (p := []) h1 h2 (by simp) (fun x hx => by simp at hx)
  rw [← h] at a b c
  unfold logGen
  rw [if_pos (show headOk S from ⟨a, by show (bytesOf (S.getD 0 [])).length = 0; rw [c]; rfl⟩)]
  exact b
theorem gen_same {S T : List (List Int)} (h : T.getD 0 [] = S.getD 0 []) : logGen T = logGen S := by
  have e : gBS T 0 = gBS S 0 := h
  have hi : headOk T ↔ headOk S := by unfold headOk; rw [e]
  unfold logGen
  by_cases hh : headOk S
  · rw [if_pos hh, if_pos (hi.2 hh), e]
  · rw [if_neg hh, if_neg (fun k => hh (hi.1 k))]
theorem openWs_far (S : List (List Int)) : ∃ r, openWs S = ⟨0, blockL (logGen S + 1) []⟩ :: r ∧ ∀ x ∈ r, x.block.toNat ≠ 0 := by
  refine ⟨_, rfl, fun x hx => ?_⟩
  split at hx
  · simp only [zerosW, List.mem_map, List.mem_range] at hx
    obtain ⟨k, _, rfl⟩ := hx
    simp only; omega
  · split at hx
    · rw [List.mem_singleton] at hx; subst hx; simp only; omega
    · simp at hx
theorem inv_open {S : List (List Int)} (h : BlOk S) (hok : (openS S).ok = true) : Inv (openS S) := by
  unfold openS at hok ⊢
  by_cases hm : logGen S = 1000000000
  · rw [if_pos hm] at hok; simp [op0] at hok
  · rw [if_neg hm]
    have hb := openWs_ok h
    have hS := sync_ok hb.1 hb.2
    have hd := dk_of hS (ws := []) (by simp) (fun x hx => by simp at hx)
    have hg := logGen_range (bs := S)
    refine ⟨⟨rfl, hd.1, rfl, ?_⟩, hd.2⟩
    show logGen (syncL (syncL S (openWs S)) []) ≠ 0
    rw [show syncL (syncL S (openWs S)) [] = syncL S (openWs S) from sync_nil _]
    obtain ⟨r, er, hr⟩ := openWs_far S
    have hl := h.1
    rw [gen_head (G := logGen S + 1) (by omega) (by omega)]
    · omega
    · rw [er, sync_apply]
      show (applyW (S.set 0 (blockL (logGen S + 1) [])) r).getD 0 [] = _
      rw [apply_far r _ (by rw [List.length_set]; omega) hr, getD_set (by omega), if_pos rfl]
theorem inv_commit {o : Opn} (h : Inv o) : Inv (commitS (syncL o.bs o.ws)) := by
  have hS := sync_ok h.1.2.1 h.2
  have hd := dk_of hS (ws := []) (by simp) (fun x hx => by simp at hx)
  refine ⟨⟨rfl, hd.1, rfl, ?_⟩, hd.2⟩
  have h4 := h.1.2.2.2
  rw [h.1.2.2.1] at h4
  exact h4
theorem inv_append {o : Opn} (h : Inv o) {x : Nt} (hx : NtOk x) (hok : (appendO o.bs o.ws x).ok = true) : Inv (appendO o.bs o.ws x) := by
  have hS := sync_ok h.1.2.1 h.2
  have h4 := h.1.2.2.2
  rw [h.1.2.2.1] at h4
  have hX : BsOk (appX o.bs o.ws x) := BsOk.append (fun y hy => (logBytes_ok hS).1 y (List.mem_of_mem_take hy)) (frameL_ok hx)
  have hlen := frameL_len x
  have htf := take_found hS
  have hXl : (appX o.bs o.ws x).length = (foundL (syncL o.bs o.ws)).2 + (17 + x.text.size) := by unfold appX; rw [List.length_append, htf.2, hlen]
  unfold appendO at hok ⊢
  by_cases hc : (appX o.bs o.ws x).length ≤ 7112 ∧ o.ws.length + appN (foundL (syncL o.bs o.ws)).2 (appX o.bs o.ws x).length ≤ 200
  · rw [if_pos hc]
    have hp := pagesW_ok hX (logGen (syncL o.bs o.ws)) ((foundL (syncL o.bs o.ws)).2 / 56) (appN (foundL (syncL o.bs o.ws)).2 (appX o.bs o.ws x).length) (by unfold appN; omega)
    have hw : ∀ y ∈ o.ws, WrOk y := fun y hy => ⟨h.1.2.1.2.2.2 y hy, h.2.2 y hy⟩
    have hd := dk_of (bl_ok h.1.2.1 h.2) (ws := o.ws ++ pagesW (appX o.bs o.ws x) (logGen (syncL o.bs o.ws)) ((foundL (syncL o.bs o.ws)).2 / 56) (appN (foundL (syncL o.bs o.ws)).2 (appX o.bs o.ws x).length)) (by rw [List.length_append, pagesW_len]; omega) (fun y hy => (List.mem_append.1 hy).elim (hw y) (hp y))
    refine ⟨⟨rfl, hd.1, rfl, ?_⟩, hd.2⟩
    show logGen (syncL o.bs _) ≠ 0
    rw [sync_app, gen_same (S := syncL o.bs o.ws)]
    · exact h4
    · refine apply_far _ _ (by rw [hS.1]; omega) (fun y hy => ?_)
      simp only [pagesW, List.mem_map, List.mem_range] at hy
      obtain ⟨k, _, rfl⟩ := hy
      simp only; omega
  · rw [if_neg hc] at hok; simp [op0] at hok
theorem spoil_ok {S : List (List Int)} (h : BlOk S) {p a : Int} (h0 : 0 ≤ p) (h1 : p ≤ 8191) : BlOk (spoilS S p a) := by
  have hg := h.g (i := p / 64) (by omega) (by omega)
  refine ⟨by unfold spoilS; rw [List.length_set]; exact h.1, fun b hb => ?_⟩
  unfold spoilS at hb
  rcases List.mem_or_eq_of_mem_set hb with hb | rfl
  · exact h.2 b hb
  · refine ⟨by unfold spoilB; rw [List.length_set]; exact hg.1, fun y hy => ?_⟩
    unfold spoilB at hy
    rcases List.mem_or_eq_of_mem_set hy with hy | rfl
    · exact hg.2 y hy
    · exact xorB_range _ _
theorem inv_next {o : Opn} (h : Inv o) {a : Ac} (ha : AcOk a) (hok : (nextL o a).ok = true) : Inv (nextL o a) := by
  have hS := sync_ok h.1.2.1 h.2
  rcases ha with ⟨e, hn⟩ | e | ⟨e, hk⟩ | e | ⟨e, h0, h1, h2, h3⟩
  · unfold nextL at hok ⊢
    rw [if_pos e] at hok ⊢
    exact inv_append h hn hok
  · unfold nextL
    rw [if_neg (by omega), if_pos e]
    exact inv_commit h
  · unfold nextL at hok ⊢
    rw [if_neg (by omega), if_neg (by omega), if_pos e] at hok ⊢
    exact inv_open (S := settleL o.bs o.ws (kfL false a.kept)) (settle_bytes _ h.1.2.1 h.2) hok
  · unfold nextL
    rw [if_neg (by omega), if_neg (by omega), if_neg (by omega), if_pos e]
    exact h
  · unfold nextL at hok ⊢
    rw [if_neg (by omega), if_neg (by omega), if_neg (by omega), if_neg (by omega)] at hok ⊢
    exact inv_open (S := spoilS (syncL o.bs o.ws) a.pos a.amt) (spoil_ok hS h0 h1) hok
theorem inv_after {o : Opn} (h : Inv o) (a : Ac) : Inv (afterL o a) := by
  unfold afterL codeL
  by_cases ha : AcOk a
  · rw [if_pos ha]
    by_cases hok : (nextL o a).ok = true
    · rw [if_pos hok, if_pos rfl]
      exact inv_next h ha hok
    · rw [if_neg hok, if_neg (by omega)]
      exact h
  · rw [if_neg ha, if_neg (by omega)]
    exact h
theorem inv_st {o : Opn} (h : Inv o) (acts : List Ac) : ∀ i, Inv (stO o acts i)
  | 0 => h
  | i + 1 => inv_after (inv_st h acts i) _
theorem inv_first : Inv (openL blankB []) := by
  obtain ⟨S, e, hst⟩ := st_first
  rw [e]
  exact ⟨hst.right, hst.bk⟩
end Go.Proofs.Ytocdlibnmlcokaa
namespace Go.Proofs.Ytocdlibnmlcokaa
open Go.RowKit Go.Proofs.YtocdlibnmlcokaaW.PrintWords Go.Proofs.YtocdlibnmlcokaaW.PrintLast
set_option linter.unusedVariables false
set_option linter.unusedSimpArgs false
theorem row_set8 {w : World} {g n c : Nat} {xs : List Int} {f : List Nat} (hf : rB.Row 5 w (.slice (some ⟨g, 0, none⟩) n c) xs f) (hn : f.Nodup) {j : Nat} (hj : j < xs.length) :
    w.cell? ⟨g, j, none⟩ = some (.int .u8 xs[j]) ∧ w.frozen? ⟨g, j, none⟩ = false ∧ g ∈ f ∧ ∀ x, rB.Row 5 (w.setCell ⟨g, j, none⟩ (.int .u8 x)) (.slice (some ⟨g, 0, none⟩) n c) (xs.set j x) f := by
  obtain ⟨cs, f0, hP, _, _, hgb, hcell, hfr, _, hst⟩ := Rp.Row_elem hf hn j hj
  obtain ⟨hcs, hf0⟩ := hP
  subst hcs; subst hf0
  have e0 : j * rB.d.sz + 0 = j := Nat.mul_one _
  have c1 := hcell 0 _ rfl
  rw [e0] at c1
  refine ⟨c1, hfr j, hgb, fun x => ?_⟩
  obtain ⟨fp', hr', hn', _, he⟩ := hst 0 (.int .u8 x) x [] (by decide) ⟨rfl, rfl⟩ (by simp) (by simp) (.inl rfl)
  rw [he rfl, e0] at hr'
  exact hr'
theorem row_set88 {w : World} {g n c : Nat} {S : List (List Int)} {f : List Nat} (hf : rBS.Row 22 w (.slice (some ⟨g, 0, none⟩) n c) S f) (hn : f.Nodup) {i j : Nat} (hi : i < S.length) (hj : j < S[i].length) :
    ∃ g1 c1, w.cell? ⟨g, i, none⟩ = some (.slice (some ⟨g1, 0, none⟩) S[i].length c1) ∧ w.cell? ⟨g1, j, none⟩ = some (.int .u8 (S[i])[j]) ∧ w.frozen? ⟨g1, j, none⟩ = false ∧ g1 ∈ f ∧ ∀ x, rBS.Row 22 (w.setCell ⟨g1, j, none⟩ (.int .u8 x)) (.slice (some ⟨g, 0, none⟩) n c) (S.set i (S[i].set j x)) f := by
  obtain ⟨cs, f0, hP, hn0, hff, hgb, hcell, hfr, hin, _⟩ := Rp.Row_elem hf hn i hi
  obtain ⟨v, rfl, hr⟩ := hP
  obtain ⟨g1, c1, rfl, hg1, _⟩ := Rp.Row_form hr (by omega)
  have e0 : i * rBS.d.sz + 0 = i := Nat.mul_one _
  have k1 := hcell 0 _ rfl
  rw [e0] at k1
  obtain ⟨k2, k3, k4, k5⟩ := row_set8 hr hn0 hj
  refine ⟨g1, c1, k1, k2, k3, (hff g1 k4).1, fun x => ?_⟩
  refine hin _ _ ((Kp.set _ _ _ _).mono (fun b hb _ => by rw [List.mem_singleton] at hb; subst hb; exact k4)) ⟨_, rfl, ?_⟩
  have := k5 x
  exact this
theorem Own.set88 {w0 w : World} {L : List Rs} {A : Option Addr} {n c : Nat} {S : List (List Int)} (h : Own w0 w (Rs.row rBS 22 (.slice A n c) S :: L)) {i j : Nat} (hi : i < S.length) (hj : j < S[i].length) :
    ∃ g g1 c1, A = some ⟨g, 0, none⟩ ∧ n = S.length ∧ w.cell? ⟨g, i, none⟩ = some (.slice (some ⟨g1, 0, none⟩) S[i].length c1) ∧ w.cell? ⟨g1, j, none⟩ = some (.int .u8 (S[i])[j]) ∧ w.frozen? ⟨g1, j, none⟩ = false ∧
      ∀ x, Own w0 (w.setCell ⟨g1, j, none⟩ (.int .u8 x)) (Rs.row rBS 22 (.slice A n c) (S.set i (S[i].set j x)) :: L) := by
  obtain ⟨f, hf, hn, _⟩ := h.r0
  obtain ⟨g, cap, hv, _, _⟩ := Rp.Row_form hf (by omega)
  injection hv with hA hnn hc
  subst hA
  obtain ⟨g1, c1, k1, k2, k3, _, _⟩ := row_set88 hf hn hi hj
  refine ⟨g, g1, c1, rfl, hnn, k1, k2, k3, fun x => h.turn fun f hf hn => ?_⟩
  obtain ⟨g2, c2, q1, _, _, q4, q5⟩ := row_set88 hf hn hi hj
  rw [k1] at q1
  injection q1 with q1
  injection q1 with q1 _ _
  injection q1 with q1
  injection q1 with q1 _ _
  subst q1
  exact ⟨f, q5 x, hn, fun b hb => .inl hb, (Kp.set _ _ _ _).mono (fun b hb _ => by rw [List.mem_singleton] at hb; subst hb; exact q4)⟩
end Go.Proofs.Ytocdlibnmlcokaa
namespace Go.Proofs.Ytocdlibnmlcokaa
open Go.RowKit Go.Proofs.YtocdlibnmlcokaaW.PrintWords Go.Proofs.YtocdlibnmlcokaaW.PrintLast
set_option linter.unusedVariables false
set_option linter.unusedSimpArgs false
def setCells (w : World) (g k : Nat) : List Value → World
  | [] => w
  | u :: r => setCells (w.setCell ⟨g, k, none⟩ u) g (k + 1) r
def setsL (l : List Value) (k : Nat) : List Value → List Value
  | [] => l
  | u :: r => setsL (l.set k u) (k + 1) r
theorem setCells_block (g : Nat) : ∀ (us : List Value) (w : World) (k b : Nat), b ≠ g → (setCells w g k us).heap[b]? = w.heap[b]?
  | [], w, k, b, _ => rfl
  | u :: r, w, k, b, h => by
    show (setCells (w.setCell ⟨g, k, none⟩ u) g (k + 1) r).heap[b]? = _
    rw [setCells_block g r _ _ b h]
    exact Below.heap_setCell w _ u b (by simpa using h)
theorem setCells_kp (g : Nat) : ∀ (us : List Value) (w : World) (k : Nat), Kp w (setCells w g k us) [g]
  | [], w, k => (Kp.refl w).mono (by simp)
  | u :: r, w, k => (Kp.set w g k u).trans (setCells_kp g r _ (k + 1)) (fun _ hb _ => hb)
theorem setCells_own {g e sz n cap : Nat} : ∀ (us : List Value) (w : World) (k : Nat) (cells : List Value), w.ownsRow 0 e sz (.slice (some ⟨g, 0, none⟩) n cap) n cells → (setCells w g k us).ownsRow 0 e sz (.slice (some ⟨g, 0, none⟩) n cap) n (setsL cells k us)
  | [], w, k, cells, h => h
  | u :: r, w, k, cells, h => setCells_own r _ (k + 1) _ (h.stored _ u).1
theorem setsL_flat {n : Nat} : ∀ (us : List Value) {css : List (List Value)}, (∀ c ∈ css, c.length = n) → ∀ (i j : Nat) (hi : i < css.length), j + us.length ≤ n → setsL css.flatten (i * n + j) us = (css.set i (setsL css[i] j us)).flatten
  | [], css, _, i, j, hi, _ => by
    show css.flatten = (css.set i css[i]).flatten
    rw [List.set_getElem_self]
  | u :: r, css, h, i, j, hi, hl => by
    simp only [List.length_cons] at hl
    show setsL (css.flatten.set (i * n + j) u) (i * n + j + 1) r = _
    rw [flat_set u h i j hi (by omega), show i * n + j + 1 = i * n + (j + 1) by omega]
    rw [setsL_flat r (fun c hc => ?_) i (j + 1) (by rw [List.length_set]; exact hi) (by omega)]
    · rw [List.getElem_set_self, List.set_set]; rfl
    · rcases List.mem_or_eq_of_mem_set hc with hc | rfl
      · exact h c hc
      · rw [List.length_set]; exact h _ (List.getElem_mem hi)
theorem setsL_skip (a : Value) : ∀ (us l : List Value) (k : Nat), setsL (a :: l) (k + 1) us = a :: setsL l k us
  | [], l, k => rfl
  | u :: r, l, k => by
    show setsL (a :: l.set k u) (k + 1 + 1) r = a :: setsL (l.set k u) (k + 1) r
    exact setsL_skip a r _ _
theorem setsL_all : ∀ (us l : List Value), l.length = us.length → setsL l 0 us = us
  | [], l, h => by
    show l = []
    exact List.length_eq_zero_iff.1 (by simpa using h)
  | u :: r, [], h => by simp at h
  | u :: r, a :: l, h => by
    show setsL (u :: l) (0 + 1) r = u :: r
    rw [setsL_skip, setsL_all r l (by simpa using h)]
namespace Rp
theorem Row_put {α : Type} {r : Rp α} {e g n cap : Nat} {w : World} {xs : List α} {fp : List Nat} (h : r.Row e w (.slice (some ⟨g, 0, none⟩) n cap) xs fp) (hnd : fp.Nodup) {i : Nat} (hi : i < xs.length) {cs : List Value} {x : α} {f : List Nat}
    (hp : r.P w x cs f) (hf : f.Nodup) (hd : ∀ b ∈ f, b ∉ fp) :
    g ∈ fp ∧ ∃ fp', r.Row e (setCells w g (i * r.d.sz) cs) (.slice (some ⟨g, 0, none⟩) n cap) (xs.set i x) fp' ∧ fp'.Nodup ∧ ∀ b ∈ fp', b ∈ fp ∨ b ∈ f := by
  obtain ⟨css, fps, ho, ha, rfl⟩ := h
  have hnn : n = xs.length := by
    rcases ho.2 with ⟨h0, _⟩ | ⟨g', cap', cur, h0, _⟩
    · injection h0 with h0; cases h0
    · injection h0
  subst hnn
  have hl1 := ha.len1
  have hl2 := ha.len2
  have hall := all_len ha
  have hcs := r.len hp
  simp only [Value.ownBlock, Option.toList_some, List.singleton_append] at hnd hd ⊢
  rw [List.nodup_cons] at hnd
  have hgf : g ∉ f := fun hg => hd g hg List.mem_cons_self
  refine ⟨List.mem_cons_self, g :: (fps.set i f).flatten, ⟨css.set i cs, fps.set i f, ?_, ?_, by simp [Value.ownBlock]⟩, ?_, ?_⟩
  · have h1 := setCells_own cs w (i * r.d.sz) _ ho
    have h2 := setsL_flat cs (css := css) hall i 0 (by omega) (by omega)
    rw [Nat.add_zero] at h2
    rw [h2, setsL_all cs _ (by rw [hall _ (List.getElem_mem (by omega)), hcs])] at h1
    rw [List.length_set]
    exact h1
  · have hp' : r.P (setCells w g (i * r.d.sz) cs) x cs f := r.loc hp fun b hb => setCells_block g cs w _ b (fun hbg => hgf (hbg ▸ hb))
    have ha' : All3 (r.P (setCells w g (i * r.d.sz) cs)) xs css fps := ha.imp fun a b c hc hP => r.loc hP fun k hk => setCells_block g cs w _ k (fun hkg => hnd.1 (hkg ▸ List.mem_flatten.2 ⟨c, hc, hk⟩))
    exact ha'.set i hp'
  · exact List.nodup_cons.2 ⟨fun hm => (mem_set_flat hm).elim hnd.1 hgf, nodup_set_flat hnd.2 hf (fun b hb hm => hd b hb (List.mem_cons_of_mem _ hm))⟩
  · intro b hb
    rcases List.mem_cons.1 hb with rfl | hb
    · exact .inl List.mem_cons_self
    · rcases mem_set_flat hb with hb | hb
      · exact .inl (List.mem_cons_of_mem _ hb)
      · exact .inr hb
end Rp
theorem Own.elem {w0 w : World} {L : List Rs} {α : Type} {r : Rp α} {e n c : Nat} {A : Option Addr} {xs : List α} (h : Own w0 w (Rs.row r e (.slice A n c) xs :: L)) {i : Nat} (hi : i < xs.length) :
    ∃ g, A = some ⟨g, 0, none⟩ ∧ n = xs.length ∧ (∀ j, j < r.d.sz → ∃ u, w.cell? ⟨g, i * r.d.sz + j, none⟩ = some u) ∧ ∀ j, w.frozen? ⟨g, j, none⟩ = false := by
  obtain ⟨f, hf, hn, _⟩ := h.r0
  obtain ⟨g, cap, hv, _, _⟩ := Rp.Row_form hf (by omega)
  injection hv with hA hnn hc
  subst hA
  obtain ⟨cs, f0, hP, _, _, _, hcell, hfr, _, _⟩ := Rp.Row_elem hf hn i hi
  have hcs := r.len hP
  exact ⟨g, rfl, hnn, fun j hj => ⟨_, hcell j _ (List.getElem?_eq_getElem (by omega))⟩, hfr⟩
theorem Own.put {w0 w : World} {L : List Rs} {α : Type} {r : Rp α} {e g n c : Nat} {xs : List α} {cs : List Value} {x : α} (h : Own w0 w (Rs.row r e (.slice (some ⟨g, 0, none⟩) n c) xs :: Rs.cel r cs x :: L)) {i : Nat} (hi : i < xs.length) :
    Own w0 (setCells w g (i * r.d.sz) cs) (Rs.row r e (.slice (some ⟨g, 0, none⟩) n c) (xs.set i x) :: L) := by
  obtain ⟨f, f2, hf, hf2, hn, hl, k⟩ := h.take2
  obtain ⟨n1, n2, n3⟩ := List.nodup_append.1 hn
  obtain ⟨hg, fp', h1, h2, h3⟩ := Rp.Row_put hf n1 hi hf2 n2 (fun b hb hm => n3 b hm b hb rfl)
  refine k (M := [Rs.row r e (.slice (some ⟨g, 0, none⟩) n c) (xs.set i x)]) ⟨fp', [], by simp, h1, rfl⟩ h2 (fun b hb => .inl ?_) ((setCells_kp g cs w _).mono (fun b hb _ => ?_))
  · rcases h3 b hb with hb | hb
    · exact List.mem_append_left _ hb
    · exact List.mem_append_right _ hb
  · rw [List.mem_singleton] at hb; subst hb; exact List.mem_append_left _ hg
end Go.Proofs.Ytocdlibnmlcokaa
namespace Go.Proofs.Ytocdlibnmlcokaa
open Go.RowKit Go.Proofs.YtocdlibnmlcokaaW.PrintWords Go.Proofs.YtocdlibnmlcokaaW.PrintLast
set_option linter.unusedVariables false
set_option linter.unusedSimpArgs false
abbrev rBl : Rp (List Bool) := Rp.slice 4 Rp.bool
abbrev rIs : Rp (List Int) := Rp.slice 3 rI
abbrev rAc : Rp Ac := Rp.iso (Rp.pair (Rp.int .i64) (Rp.pair rN (Rp.pair rBl (Rp.pair rN (Rp.pair (Rp.int .i64) (Rp.int .i64)))))) (fun x => (x.op, x.note, x.kept, x.ask, x.pos, x.amt))
abbrev rAd : Rp Ad := Rp.iso (Rp.pair (Rp.int .i64) (Rp.pair (Rp.int .i64) (Rp.pair (Rp.int .i64) rIs))) (fun x => (x.code, x.notes, x.safe, x.found))
def cAc (x : Ac) (v : Value) : List Value := (.int .i64 x.op :: cN x.note) ++ (v :: cN x.ask) ++ [.int .i64 x.pos, .int .i64 x.amt]
def cAd (x : Ad) (v : Value) : List Value := [.int .i64 x.code, .int .i64 x.notes, .int .i64 x.safe, v]
theorem info38 : (Try.prog.info? 38).map (fun i => (i.zero, i.size, i.bytes)) = some (some (.agg #[.int .i64 0, .int .i64 0, .int .i64 0, .int .i64 0, .int .i64 0, .string { data := #[] }, .slice none 0 0, .int .i64 0, .int .i64 0, .int .i64 0, .int .i64 0, .string { data := #[] }, .int .i64 0, .int .i64 0]), 14, 144) := by kernel_rfl
theorem info30 : (Try.prog.info? 30).map (fun i => (i.zero, i.size, i.bytes)) = some (some (.agg #[.int .i64 0, .int .i64 0, .int .i64 0, .slice none 0 0]), 4, 48) := by kernel_rfl
theorem Ac_mk {w : World} {v : Value} {f : List Nat} (x : Ac) (h : Rp.bool.Row 4 w v x.kept f) : rAc.P w x (cAc x v) f :=
  ⟨[.int .i64 x.op], cN x.note ++ (v :: (cN x.ask ++ [.int .i64 x.pos, .int .i64 x.amt])), [], f, rfl, rfl, ⟨rfl, rfl⟩,
    cN x.note, v :: (cN x.ask ++ [.int .i64 x.pos, .int .i64 x.amt]), [], f, rfl, rfl, N_mk w x.note,
    [v], cN x.ask ++ [.int .i64 x.pos, .int .i64 x.amt], f, [], rfl, (List.append_nil f).symm, ⟨v, rfl, h⟩,
    cN x.ask, [.int .i64 x.pos, .int .i64 x.amt], [], [], rfl, rfl, N_mk w x.ask, [.int .i64 x.pos], [.int .i64 x.amt], [], [], rfl, rfl, ⟨rfl, rfl⟩, ⟨rfl, rfl⟩⟩
theorem Ac_open {w : World} {cs : List Value} {f : List Nat} {x : Ac} (h : rAc.P w x cs f) : ∃ v, cs = cAc x v ∧ Rp.bool.Row 4 w v x.kept f := by
  obtain ⟨_, _, _, _, rfl, rfl, ⟨rfl, rfl⟩, _, _, _, _, rfl, rfl, hn, _, _, _, _, rfl, rfl, ⟨v, rfl, h⟩, _, _, _, _, rfl, rfl, ha, _, _, _, _, rfl, rfl, ⟨rfl, rfl⟩, ⟨rfl, rfl⟩⟩ := h
  obtain ⟨rfl, rfl⟩ := N_open hn
  obtain ⟨rfl, rfl⟩ := N_open ha
  exact ⟨v, rfl, by simpa using h⟩
theorem Ad_mk {w : World} {v : Value} {f : List Nat} (x : Ad) (h : rI.Row 3 w v x.found f) : rAd.P w x (cAd x v) f :=
  ⟨[.int .i64 x.code], [.int .i64 x.notes, .int .i64 x.safe, v], [], f, rfl, rfl, ⟨rfl, rfl⟩, [.int .i64 x.notes], [.int .i64 x.safe, v], [], f, rfl, rfl, ⟨rfl, rfl⟩, [.int .i64 x.safe], [v], [], f, rfl, rfl, ⟨rfl, rfl⟩, ⟨v, rfl, h⟩⟩
theorem Ad_open {w : World} {cs : List Value} {f : List Nat} {x : Ad} (h : rAd.P w x cs f) : ∃ v, cs = cAd x v ∧ rI.Row 3 w v x.found f := by
  obtain ⟨_, _, _, _, rfl, rfl, ⟨rfl, rfl⟩, _, _, _, _, rfl, rfl, ⟨rfl, rfl⟩, _, _, _, _, rfl, rfl, ⟨rfl, rfl⟩, ⟨v, rfl, h⟩⟩ := h
  exact ⟨v, rfl, h⟩
def gD (xs : List Ad) (i : Int) : Ad := xs.getD i.toNat ⟨0, 0, 0, []⟩
theorem gA_eq {xs : List Ac} {i : Int} (h : i.toNat < xs.length) : gA xs i = xs[i.toNat] := by simp [gA, List.getD_eq_getElem?_getD, h]
theorem gD_eq {xs : List Ad} {i : Int} (h : i.toNat < xs.length) : gD xs i = xs[i.toNat] := by simp [gD, List.getD_eq_getElem?_getD, h]
theorem at_Ac {w : World} {A : Option Addr} {n : Nat} {xs : List Ac} (h : rAc.d.C w A n xs) (i : Int) (h0 : 0 ≤ i) (h1 : i < n) : ∃ ad K kc, A = some ad ∧ w.cell? (ad.add (i.toNat * 14)) = some (.int .i64 (gA xs i).op) ∧ w.cell? ⟨(ad.add (i.toNat * 14)).block, (ad.add (i.toNat * 14)).off + 1, none⟩ = some (.int .i64 (gA xs i).note.tick) ∧ w.cell? ⟨(ad.add (i.toNat * 14)).block, (ad.add (i.toNat * 14)).off + 2, none⟩ = some (.int .i64 (gA xs i).note.kind) ∧ w.cell? ⟨(ad.add (i.toNat * 14)).block, (ad.add (i.toNat * 14)).off + 3, none⟩ = some (.int .i64 (gA xs i).note.who) ∧ w.cell? ⟨(ad.add (i.toNat * 14)).block, (ad.add (i.toNat * 14)).off + 4, none⟩ = some (.int .i64 (gA xs i).note.n) ∧ w.cell? ⟨(ad.add (i.toNat * 14)).block, (ad.add (i.toNat * 14)).off + 5, none⟩ = some (.string (gA xs i).note.text) ∧ w.cell? ⟨(ad.add (i.toNat * 14)).block, (ad.add (i.toNat * 14)).off + 6, none⟩ = some (.slice K (gA xs i).kept.length kc) ∧ w.cell? ⟨(ad.add (i.toNat * 14)).block, (ad.add (i.toNat * 14)).off + 7, none⟩ = some (.int .i64 (gA xs i).ask.tick) ∧ w.cell? ⟨(ad.add (i.toNat * 14)).block, (ad.add (i.toNat * 14)).off + 8, none⟩ = some (.int .i64 (gA xs i).ask.kind) ∧ w.cell? ⟨(ad.add (i.toNat * 14)).block, (ad.add (i.toNat * 14)).off + 9, none⟩ = some (.int .i64 (gA xs i).ask.who) ∧ w.cell? ⟨(ad.add (i.toNat * 14)).block, (ad.add (i.toNat * 14)).off + 10, none⟩ = some (.int .i64 (gA xs i).ask.n) ∧ w.cell? ⟨(ad.add (i.toNat * 14)).block, (ad.add (i.toNat * 14)).off + 11, none⟩ = some (.string (gA xs i).ask.text) ∧ w.cell? ⟨(ad.add (i.toNat * 14)).block, (ad.add (i.toNat * 14)).off + 12, none⟩ = some (.int .i64 (gA xs i).pos) ∧ w.cell? ⟨(ad.add (i.toNat * 14)).block, (ad.add (i.toNat * 14)).off + 13, none⟩ = some (.int .i64 (gA xs i).amt) ∧ (gA xs i).kept.length ≤ kc ∧ Kd.bool.C w K (gA xs i).kept.length (gA xs i).kept := by
  obtain ⟨ad, c, e, _, hK, hc0⟩ := Kd.C_get h (⟨0, zN, [], zN, 0, 0⟩ : Ac) i h0 h1
  have hc : ∀ j u, c[j]? = some u → w.cell? (ad.add (i.toNat * 14 + j)) = some u := hc0
  obtain ⟨_, _, rfl, rfl, _, _, rfl, hn, _, _, rfl, ⟨K, kc, rfl, lk, gk⟩, _, _, rfl, ha, _, _, rfl, rfl, rfl⟩ := hK
  obtain ⟨_, _, rfl, rfl, _, _, rfl, rfl, _, _, rfl, rfl, _, _, rfl, rfl, rfl⟩ := hn
  obtain ⟨_, _, rfl, rfl, _, _, rfl, rfl, _, _, rfl, rfl, _, _, rfl, rfl, rfl⟩ := ha
  exact ⟨ad, K, kc, e, hc 0 _ rfl, by rw [← add_field _ _ 1 (by omega)]; exact hc 1 _ rfl, by rw [← add_field _ _ 2 (by omega)]; exact hc 2 _ rfl, by rw [← add_field _ _ 3 (by omega)]; exact hc 3 _ rfl, by rw [← add_field _ _ 4 (by omega)]; exact hc 4 _ rfl, by rw [← add_field _ _ 5 (by omega)]; exact hc 5 _ rfl, by rw [← add_field _ _ 6 (by omega)]; exact hc 6 _ rfl, by rw [← add_field _ _ 7 (by omega)]; exact hc 7 _ rfl, by rw [← add_field _ _ 8 (by omega)]; exact hc 8 _ rfl, by rw [← add_field _ _ 9 (by omega)]; exact hc 9 _ rfl, by rw [← add_field _ _ 10 (by omega)]; exact hc 10 _ rfl, by rw [← add_field _ _ 11 (by omega)]; exact hc 11 _ rfl, by rw [← add_field _ _ 12 (by omega)]; exact hc 12 _ rfl, by rw [← add_field _ _ 13 (by omega)]; exact hc 13 _ rfl, lk, gk⟩
theorem at_Ad {w : World} {A : Option Addr} {n : Nat} {xs : List Ad} (h : rAd.d.C w A n xs) (i : Int) (h0 : 0 ≤ i) (h1 : i < n) : ∃ ad K kc, A = some ad ∧ w.cell? (ad.add (i.toNat * 4)) = some (.int .i64 (gD xs i).code) ∧ w.cell? ⟨(ad.add (i.toNat * 4)).block, (ad.add (i.toNat * 4)).off + 1, none⟩ = some (.int .i64 (gD xs i).notes) ∧ w.cell? ⟨(ad.add (i.toNat * 4)).block, (ad.add (i.toNat * 4)).off + 2, none⟩ = some (.int .i64 (gD xs i).safe) ∧ w.cell? ⟨(ad.add (i.toNat * 4)).block, (ad.add (i.toNat * 4)).off + 3, none⟩ = some (.slice K (gD xs i).found.length kc) ∧ (gD xs i).found.length ≤ kc ∧ kI.C w K (gD xs i).found.length (gD xs i).found := by
  obtain ⟨ad, c, e, _, hK, hc0⟩ := Kd.C_get h (⟨0, 0, 0, []⟩ : Ad) i h0 h1
  have hc : ∀ j u, c[j]? = some u → w.cell? (ad.add (i.toNat * 4 + j)) = some u := hc0
  obtain ⟨_, _, rfl, rfl, _, _, rfl, rfl, _, _, rfl, rfl, ⟨K, kc, rfl, lk, gk⟩⟩ := hK
  exact ⟨ad, K, kc, e, hc 0 _ rfl, by rw [← add_field _ _ 1 (by omega)]; exact hc 1 _ rfl, by rw [← add_field _ _ 2 (by omega)]; exact hc 2 _ rfl, by rw [← add_field _ _ 3 (by omega)]; exact hc 3 _ rfl, lk, gk⟩
end Go.Proofs.Ytocdlibnmlcokaa
namespace Go.Proofs.Ytocdlibnmlcokaa
open Go.RowKit Go.Proofs.YtocdlibnmlcokaaW.PrintWords Go.Proofs.YtocdlibnmlcokaaW.PrintLast
set_option linter.unusedVariables false
set_option linter.unusedSimpArgs false
def vAc (x : Ac) (v : Value) : Value := .agg #[.int .i64 x.op, .int .i64 x.note.tick, .int .i64 x.note.kind, .int .i64 x.note.who, .int .i64 x.note.n, .string x.note.text, v, .int .i64 x.ask.tick, .int .i64 x.ask.kind, .int .i64 x.ask.who, .int .i64 x.ask.n, .string x.ask.text, .int .i64 x.pos, .int .i64 x.amt]
theorem szBoolS_c (A : Option Addr) (c n : Nat) (left : Int) (w : World) (hn : n ≤ 9223372036854775807) (h0 : 0 ≤ left) (h1 : left ≤ 1048576) :
    Calls Try.prog 159 #[.slice A n c, .int .i64 left] w (Num w (szR n left)) := by
  by_cases h : (n : Int) ≤ left
  · have HR := Aside0.mk (szR_yes h)
    go_enter Try.func159, Try.ntmps159
    go_wp2
    go_ret
    exact ⟨by rw [HR.out]; rfl, Below.refl _ _⟩
  · have HR := Aside0.mk (szR_no h)
    go_enter Try.func159, Try.ntmps159
    go_wp2
    go_ret
    exact ⟨by rw [HR.out]; rfl, Below.refl _ _⟩
def cnA (x : Ac) : Int := x.note.text.size + x.kept.length + x.ask.text.size
theorem cnA_nonneg (x : Ac) : 0 ≤ cnA x := by unfold cnA; omega
def AcTx (x : Ac) : Prop := x.note.text.size ≤ 9223372036854775807 ∧ x.ask.text.size ≤ 9223372036854775807
set_option maxHeartbeats 2000000 in
theorem szAct_c (x : Ac) (K : Option Addr) (kc : Nat) (left : Int) (w : World) (ht : AcTx x) (hk : x.kept.length ≤ 9223372036854775807) (h0 : 0 ≤ left) (h1 : left ≤ 1048576) :
    Calls Try.prog 137 #[vAc x (.slice K x.kept.length kc), .int .i64 left] w (Num w (szR (cnA x) left)) := by
  obtain ⟨op, ⟨n0, n1, n2, n3, n4⟩, kl, ⟨a0, a1, a2, a3, a4⟩, pos, amt⟩ := x
  obtain ⟨ht1, ht2⟩ := ht
  simp only [vAc, cnA] at *
  suffices H : ∀ Q : Ending → World → Prop, (∀ e w', Num w (szR ((n4.size : Int) + kl.length + a4.size) left) e w' → Q e w') → Calls Try.prog 137 #[.agg #[.int .i64 op, .int .i64 n0, .int .i64 n1, .int .i64 n2, .int .i64 n3, .string n4, .slice K kl.length kc, .int .i64 a0, .int .i64 a1, .int .i64 a2, .int .i64 a3, .string a4, .int .i64 pos, .int .i64 amt], .int .i64 left] w Q from H _ (fun e w' h => h)
  intro Q hQ
  have HQ := Aside0.mk hQ; clear hQ
  go_enter Try.func137, Try.ntmps137
  go_upto_region 1 with (fail)
  generalize hw : World.alloc _ _ = w1
  have O := Aside0.mk ((Own.nil w).of hw); clear hw
  generalize w.heap.size = g at O ⊢
  have p0 := (blk_cell O.out.b0 0).trans rfl; have p1 := (blk_cell O.out.b0 1).trans rfl; have p2 := (blk_cell O.out.b0 2).trans rfl; have p3 := (blk_cell O.out.b0 3).trans rfl; have p4 := (blk_cell O.out.b0 4).trans rfl; have p5 := (blk_cell O.out.b0 5).trans rfl; have p6 := (blk_cell O.out.b0 6).trans rfl; have p7 := (blk_cell O.out.b0 7).trans rfl; have p8 := (blk_cell O.out.b0 8).trans rfl; have p9 := (blk_cell O.out.b0 9).trans rfl; have p10 := (blk_cell O.out.b0 10).trans rfl; have p11 := (blk_cell O.out.b0 11).trans rfl; have p12 := (blk_cell O.out.b0 12).trans rfl; have p13 := (blk_cell O.out.b0 13).trans rfl
  go_wp2_with fail
  refine (szNote_c ⟨n0, n1, n2, n3, n4⟩ left _ ht1 h0 h1).mono ?_
  rintro e w2 ⟨rfl, hb⟩
  replace O := Aside0.mk (O.out.below hb); clear hb p0 p1 p2 p3 p4 p5 p6 p7 p8 p9 p10 p11 p12 p13
  simp only
  by_cases c1 : (n4.size : Int) ≤ left
  rotate_left
  · rw [szR_no c1]
    have e : szR ((n4.size : Int) + kl.length + a4.size) left = -1 := szR_no (by omega)
    rw [e] at HQ
    clear c1 e
    go_wp2
    exact HQ.out _ _ ⟨rfl, O.out.bel⟩
  rw [szR_yes c1]
  have hp1 : 0 ≤ left - (n4.size : Int) := by omega
  have p0 := (blk_cell O.out.b0 0).trans rfl; have p1 := (blk_cell O.out.b0 1).trans rfl; have p2 := (blk_cell O.out.b0 2).trans rfl; have p3 := (blk_cell O.out.b0 3).trans rfl; have p4 := (blk_cell O.out.b0 4).trans rfl; have p5 := (blk_cell O.out.b0 5).trans rfl; have p6 := (blk_cell O.out.b0 6).trans rfl; have p7 := (blk_cell O.out.b0 7).trans rfl; have p8 := (blk_cell O.out.b0 8).trans rfl; have p9 := (blk_cell O.out.b0 9).trans rfl; have p10 := (blk_cell O.out.b0 10).trans rfl; have p11 := (blk_cell O.out.b0 11).trans rfl; have p12 := (blk_cell O.out.b0 12).trans rfl; have p13 := (blk_cell O.out.b0 13).trans rfl
  go_wp2_with fail
  refine (szBoolS_c K kc kl.length (left - n4.size) _ hk (by omega) (by omega)).mono ?_
  rintro e w3 ⟨rfl, hb⟩
  replace O := Aside0.mk (O.out.below hb); clear hb p0 p1 p2 p3 p4 p5 p6 p7 p8 p9 p10 p11 p12 p13
  by_cases c2 : (kl.length : Int) ≤ left - n4.size
  rotate_left
  · rw [szR_no c2]
    have e : szR ((n4.size : Int) + kl.length + a4.size) left = -1 := szR_no (by omega)
    rw [e] at HQ
    clear c1 c2 e
    go_wp2
    exact HQ.out _ _ ⟨rfl, O.out.bel⟩
  rw [szR_yes c2]
  have hp2 : 0 ≤ left - (n4.size : Int) - kl.length := by omega
  have p0 := (blk_cell O.out.b0 0).trans rfl; have p1 := (blk_cell O.out.b0 1).trans rfl; have p2 := (blk_cell O.out.b0 2).trans rfl; have p3 := (blk_cell O.out.b0 3).trans rfl; have p4 := (blk_cell O.out.b0 4).trans rfl; have p5 := (blk_cell O.out.b0 5).trans rfl; have p6 := (blk_cell O.out.b0 6).trans rfl; have p7 := (blk_cell O.out.b0 7).trans rfl; have p8 := (blk_cell O.out.b0 8).trans rfl; have p9 := (blk_cell O.out.b0 9).trans rfl; have p10 := (blk_cell O.out.b0 10).trans rfl; have p11 := (blk_cell O.out.b0 11).trans rfl; have p12 := (blk_cell O.out.b0 12).trans rfl; have p13 := (blk_cell O.out.b0 13).trans rfl
  go_wp2_with fail
  refine (szAsk_c ⟨a0, a1, a2, a3, a4⟩ (left - n4.size - kl.length) _ ht2 (by omega) (by omega)).mono ?_
  rintro e w4 ⟨rfl, hb⟩
  replace O := Aside0.mk (O.out.below hb); clear hb p0 p1 p2 p3 p4 p5 p6 p7 p8 p9 p10 p11 p12 p13
  simp only
  by_cases c3 : (a4.size : Int) ≤ left - n4.size - kl.length
  rotate_left
  · rw [szR_no c3]
    have e : szR ((n4.size : Int) + kl.length + a4.size) left = -1 := szR_no (by omega)
    rw [e] at HQ
    clear c1 c2 c3 e
    go_wp2
    exact HQ.out _ _ ⟨rfl, O.out.bel⟩
  rw [szR_yes c3]
  have e : szR ((n4.size : Int) + kl.length + a4.size) left = left - n4.size - kl.length - a4.size := by rw [szR_yes (by omega)]; omega
  rw [e] at HQ
  have hp3 : 0 ≤ left - (n4.size : Int) - kl.length - a4.size := by omega
  clear e
  go_wp2
  exact HQ.out _ _ ⟨rfl, O.out.bel⟩
theorem eqAsk_t (x : Nt) (w : World) : Calls Try.prog 160 #[vN x, vN x] w (Yes w) := by
  obtain ⟨tick, kind, who, n, text⟩ := x
  simp only [vN]
  have hb := below_alloc (below_alloc (Below.refl w.heap.size w) (.cells #[.int .i64 tick, .int .i64 kind, .int .i64 who, .int .i64 n, .string text] 36)) (.cells #[.int .i64 tick, .int .i64 kind, .int .i64 who, .int .i64 n, .string text] 36)
  have HB := Aside0.mk hb; clear hb
  go_enter Try.func160, Try.ntmps160
  go_wp2
  go_ret
  exact ⟨rfl, HB.out⟩
set_option maxHeartbeats 4000000 in
theorem eqAct_t (x : Ac) (K K' : Option Addr) (kc kc' : Nat) (w : World) (hx : Kd.bool.C w K x.kept.length x.kept) (hy : Kd.bool.C w K' x.kept.length x.kept) :
    Calls Try.prog 140 #[vAc x (.slice K x.kept.length kc), vAc x (.slice K' x.kept.length kc')] w (Yes w) := by
  obtain ⟨op, ⟨n0, n1, n2, n3, n4⟩, kl, ⟨a0, a1, a2, a3, a4⟩, pos, amt⟩ := x
  simp only [vAc] at *
  have HX := Aside0.mk hx; have HY := Aside0.mk hy; clear hx hy
  go_enter Try.func140, Try.ntmps140
  go_upto_region 1 with (fail)
  generalize hw : World.alloc _ _ = w1
  have O := Aside0.mk ((Own.nil w).of2 hw); clear hw
  generalize w.heap.size + 1 = g3 at O ⊢
  generalize w.heap.size = g2 at O ⊢
  have p0 := (blk_cell O.out.b1 0).trans rfl; have p1 := (blk_cell O.out.b1 1).trans rfl; have p2 := (blk_cell O.out.b1 2).trans rfl; have p3 := (blk_cell O.out.b1 3).trans rfl; have p4 := (blk_cell O.out.b1 4).trans rfl; have p5 := (blk_cell O.out.b1 5).trans rfl; have p6 := (blk_cell O.out.b1 6).trans rfl; have p7 := (blk_cell O.out.b1 7).trans rfl; have p8 := (blk_cell O.out.b1 8).trans rfl; have p9 := (blk_cell O.out.b1 9).trans rfl; have p10 := (blk_cell O.out.b1 10).trans rfl; have p11 := (blk_cell O.out.b1 11).trans rfl; have p12 := (blk_cell O.out.b1 12).trans rfl; have p13 := (blk_cell O.out.b1 13).trans rfl; have q0 := (blk_cell O.out.b0 0).trans rfl; have q1 := (blk_cell O.out.b0 1).trans rfl; have q2 := (blk_cell O.out.b0 2).trans rfl; have q3 := (blk_cell O.out.b0 3).trans rfl; have q4 := (blk_cell O.out.b0 4).trans rfl; have q5 := (blk_cell O.out.b0 5).trans rfl; have q6 := (blk_cell O.out.b0 6).trans rfl; have q7 := (blk_cell O.out.b0 7).trans rfl; have q8 := (blk_cell O.out.b0 8).trans rfl; have q9 := (blk_cell O.out.b0 9).trans rfl; have q10 := (blk_cell O.out.b0 10).trans rfl; have q11 := (blk_cell O.out.b0 11).trans rfl; have q12 := (blk_cell O.out.b0 12).trans rfl; have q13 := (blk_cell O.out.b0 13).trans rfl
  go_wp2_with fail
  refine (eqNote_t ⟨n0, n1, n2, n3, n4⟩ _).mono ?_
  rintro e w2 ⟨rfl, hb⟩
  replace O := Aside0.mk (O.out.below hb); clear hb p0 p1 p2 p3 p4 p5 p6 p7 p8 p9 p10 p11 p12 p13 q0 q1 q2 q3 q4 q5 q6 q7 q8 q9 q10 q11 q12 q13
  have p0 := (blk_cell O.out.b1 0).trans rfl; have p1 := (blk_cell O.out.b1 1).trans rfl; have p2 := (blk_cell O.out.b1 2).trans rfl; have p3 := (blk_cell O.out.b1 3).trans rfl; have p4 := (blk_cell O.out.b1 4).trans rfl; have p5 := (blk_cell O.out.b1 5).trans rfl; have p6 := (blk_cell O.out.b1 6).trans rfl; have p7 := (blk_cell O.out.b1 7).trans rfl; have p8 := (blk_cell O.out.b1 8).trans rfl; have p9 := (blk_cell O.out.b1 9).trans rfl; have p10 := (blk_cell O.out.b1 10).trans rfl; have p11 := (blk_cell O.out.b1 11).trans rfl; have p12 := (blk_cell O.out.b1 12).trans rfl; have p13 := (blk_cell O.out.b1 13).trans rfl; have q0 := (blk_cell O.out.b0 0).trans rfl; have q1 := (blk_cell O.out.b0 1).trans rfl; have q2 := (blk_cell O.out.b0 2).trans rfl; have q3 := (blk_cell O.out.b0 3).trans rfl; have q4 := (blk_cell O.out.b0 4).trans rfl; have q5 := (blk_cell O.out.b0 5).trans rfl; have q6 := (blk_cell O.out.b0 6).trans rfl; have q7 := (blk_cell O.out.b0 7).trans rfl; have q8 := (blk_cell O.out.b0 8).trans rfl; have q9 := (blk_cell O.out.b0 9).trans rfl; have q10 := (blk_cell O.out.b0 10).trans rfl; have q11 := (blk_cell O.out.b0 11).trans rfl; have q12 := (blk_cell O.out.b0 12).trans rfl; have q13 := (blk_cell O.out.b0 13).trans rfl
  go_wp2_with fail
  refine (eqBoolS_t _ _ _ _ kl _ (Kd.C_below HX.out O.out.bel) (Kd.C_below HY.out O.out.bel)).mono ?_
  rintro e w3 ⟨rfl, hb⟩
  replace O := Aside0.mk (O.out.below hb); clear hb p0 p1 p2 p3 p4 p5 p6 p7 p8 p9 p10 p11 p12 p13 q0 q1 q2 q3 q4 q5 q6 q7 q8 q9 q10 q11 q12 q13
  have p0 := (blk_cell O.out.b1 0).trans rfl; have p1 := (blk_cell O.out.b1 1).trans rfl; have p2 := (blk_cell O.out.b1 2).trans rfl; have p3 := (blk_cell O.out.b1 3).trans rfl; have p4 := (blk_cell O.out.b1 4).trans rfl; have p5 := (blk_cell O.out.b1 5).trans rfl; have p6 := (blk_cell O.out.b1 6).trans rfl; have p7 := (blk_cell O.out.b1 7).trans rfl; have p8 := (blk_cell O.out.b1 8).trans rfl; have p9 := (blk_cell O.out.b1 9).trans rfl; have p10 := (blk_cell O.out.b1 10).trans rfl; have p11 := (blk_cell O.out.b1 11).trans rfl; have p12 := (blk_cell O.out.b1 12).trans rfl; have p13 := (blk_cell O.out.b1 13).trans rfl; have q0 := (blk_cell O.out.b0 0).trans rfl; have q1 := (blk_cell O.out.b0 1).trans rfl; have q2 := (blk_cell O.out.b0 2).trans rfl; have q3 := (blk_cell O.out.b0 3).trans rfl; have q4 := (blk_cell O.out.b0 4).trans rfl; have q5 := (blk_cell O.out.b0 5).trans rfl; have q6 := (blk_cell O.out.b0 6).trans rfl; have q7 := (blk_cell O.out.b0 7).trans rfl; have q8 := (blk_cell O.out.b0 8).trans rfl; have q9 := (blk_cell O.out.b0 9).trans rfl; have q10 := (blk_cell O.out.b0 10).trans rfl; have q11 := (blk_cell O.out.b0 11).trans rfl; have q12 := (blk_cell O.out.b0 12).trans rfl; have q13 := (blk_cell O.out.b0 13).trans rfl
  go_wp2_with fail
  refine (eqAsk_t ⟨a0, a1, a2, a3, a4⟩ _).mono ?_
  rintro e w4 ⟨rfl, hb⟩
  replace O := Aside0.mk (O.out.below hb); clear hb p0 p1 p2 p3 p4 p5 p6 p7 p8 p9 p10 p11 p12 p13 q0 q1 q2 q3 q4 q5 q6 q7 q8 q9 q10 q11 q12 q13
  have p0 := (blk_cell O.out.b1 0).trans rfl; have p1 := (blk_cell O.out.b1 1).trans rfl; have p2 := (blk_cell O.out.b1 2).trans rfl; have p3 := (blk_cell O.out.b1 3).trans rfl; have p4 := (blk_cell O.out.b1 4).trans rfl; have p5 := (blk_cell O.out.b1 5).trans rfl; have p6 := (blk_cell O.out.b1 6).trans rfl; have p7 := (blk_cell O.out.b1 7).trans rfl; have p8 := (blk_cell O.out.b1 8).trans rfl; have p9 := (blk_cell O.out.b1 9).trans rfl; have p10 := (blk_cell O.out.b1 10).trans rfl; have p11 := (blk_cell O.out.b1 11).trans rfl; have p12 := (blk_cell O.out.b1 12).trans rfl; have p13 := (blk_cell O.out.b1 13).trans rfl; have q0 := (blk_cell O.out.b0 0).trans rfl; have q1 := (blk_cell O.out.b0 1).trans rfl; have q2 := (blk_cell O.out.b0 2).trans rfl; have q3 := (blk_cell O.out.b0 3).trans rfl; have q4 := (blk_cell O.out.b0 4).trans rfl; have q5 := (blk_cell O.out.b0 5).trans rfl; have q6 := (blk_cell O.out.b0 6).trans rfl; have q7 := (blk_cell O.out.b0 7).trans rfl; have q8 := (blk_cell O.out.b0 8).trans rfl; have q9 := (blk_cell O.out.b0 9).trans rfl; have q10 := (blk_cell O.out.b0 10).trans rfl; have q11 := (blk_cell O.out.b0 11).trans rfl; have q12 := (blk_cell O.out.b0 12).trans rfl; have q13 := (blk_cell O.out.b0 13).trans rfl
  go_wp2
  go_ret
  exact ⟨rfl, O.out.bel⟩
set_option maxHeartbeats 2000000 in
theorem eqActed_t (x : Ad) (K K' : Option Addr) (kc kc' : Nat) (w : World) (hx : kI.C w K x.found.length x.found) (hy : kI.C w K' x.found.length x.found) :
    Calls Try.prog 139 #[.agg #[.int .i64 x.code, .int .i64 x.notes, .int .i64 x.safe, .slice K x.found.length kc], .agg #[.int .i64 x.code, .int .i64 x.notes, .int .i64 x.safe, .slice K' x.found.length kc']] w (Yes w) := by
  obtain ⟨c0, c1, c2, fl⟩ := x
  simp only at *
  have HX := Aside0.mk hx; have HY := Aside0.mk hy; clear hx hy
  go_enter Try.func139, Try.ntmps139
  go_upto_region 1 with (fail)
  generalize hw : World.alloc _ _ = w1
  have O := Aside0.mk ((Own.nil w).of2 hw); clear hw
  generalize w.heap.size + 1 = g3 at O ⊢
  generalize w.heap.size = g2 at O ⊢
  have p0 := (blk_cell O.out.b1 0).trans rfl; have p1 := (blk_cell O.out.b1 1).trans rfl; have p2 := (blk_cell O.out.b1 2).trans rfl; have p3 := (blk_cell O.out.b1 3).trans rfl; have q0 := (blk_cell O.out.b0 0).trans rfl; have q1 := (blk_cell O.out.b0 1).trans rfl; have q2 := (blk_cell O.out.b0 2).trans rfl; have q3 := (blk_cell O.out.b0 3).trans rfl
  go_wp2_with fail
  refine (eqIntS_t _ _ _ _ fl _ (Kd.C_below HX.out O.out.bel) (Kd.C_below HY.out O.out.bel)).mono ?_
  rintro e w3 ⟨rfl, hb⟩
  replace O := Aside0.mk (O.out.below hb)
  go_wp2
  go_ret
  exact ⟨rfl, O.out.bel⟩
end Go.Proofs.Ytocdlibnmlcokaa
namespace Go.Proofs.Ytocdlibnmlcokaa
open Go.RowKit Go.Proofs.YtocdlibnmlcokaaW.PrintWords Go.Proofs.YtocdlibnmlcokaaW.PrintLast
set_option linter.unusedVariables false
set_option linter.unusedSimpArgs false
set_option maxHeartbeats 4000000 in
theorem l4act_c (x : Ac) (K : Option Addr) (kc : Nat) (b : Bool) (hb : b = true ↔ AcOk x) (w : World) (hs : x.note.text.size ≤ 9223372036854775807) (hk : x.kept.length ≤ 9223372036854775807) :
    Calls Try.prog 98 #[vAc x (.slice K x.kept.length kc)] w (YesNo b w) := by
  suffices H : ∀ Q : Ending → World → Prop, (∀ e w', YesNo b w e w' → Q e w') → Calls Try.prog 98 #[vAc x (.slice K x.kept.length kc)] w Q from H _ (fun e w' h => h)
  intro Q hQ
  have HQ := Aside0.mk hQ; have HB := Aside0.mk hb; clear hQ hb
  obtain ⟨op, ⟨n0, n1, n2, n3, n4⟩, kl, ⟨a0, a1, a2, a3, a4⟩, pos, amt⟩ := x
  simp only [vAc] at *
  by_cases h1 : op = 1
  · subst h1
    replace HB : Aside0 (b = true ↔ NtOk ⟨n0, n1, n2, n3, n4⟩) := ⟨by rw [HB.out]; simp [AcOk]⟩
    go_enter Try.func98, Try.ntmps98
    go_upto_region 1 with (fail)
    generalize hw : World.alloc _ _ = w1
    have O := Aside0.mk ((Own.nil w).of hw); clear hw
    generalize w.heap.size = g at O ⊢
    have p0 := (blk_cell O.out.b0 0).trans rfl; have p1 := (blk_cell O.out.b0 1).trans rfl; have p2 := (blk_cell O.out.b0 2).trans rfl; have p3 := (blk_cell O.out.b0 3).trans rfl; have p4 := (blk_cell O.out.b0 4).trans rfl; have p5 := (blk_cell O.out.b0 5).trans rfl; have p6 := (blk_cell O.out.b0 6).trans rfl; have p7 := (blk_cell O.out.b0 7).trans rfl; have p8 := (blk_cell O.out.b0 8).trans rfl; have p9 := (blk_cell O.out.b0 9).trans rfl; have p10 := (blk_cell O.out.b0 10).trans rfl; have p11 := (blk_cell O.out.b0 11).trans rfl; have p12 := (blk_cell O.out.b0 12).trans rfl; have p13 := (blk_cell O.out.b0 13).trans rfl
    go_wp2_with fail
    refine (specNoteOk_c ⟨n0, n1, n2, n3, n4⟩ b HB.out _ hs).mono ?_
    rintro e w2 ⟨rfl, hb⟩
    replace O := Aside0.mk (O.out.below hb)
    go_wp2
    exact HQ.out _ _ ⟨rfl, O.out.bel⟩
  by_cases h2 : op = 2
  · subst h2
    replace HB : Aside0 (b = true ↔ True) := ⟨by rw [HB.out]; simp [AcOk]⟩
    go_enter Try.func98, Try.ntmps98
    go_upto_region 1 with (fail)
    generalize hw : World.alloc _ _ = w1
    have O := Aside0.mk ((Own.nil w).of hw); clear hw
    generalize w.heap.size = g at O ⊢
    have p0 := (blk_cell O.out.b0 0).trans rfl; have p1 := (blk_cell O.out.b0 1).trans rfl; have p2 := (blk_cell O.out.b0 2).trans rfl; have p3 := (blk_cell O.out.b0 3).trans rfl; have p4 := (blk_cell O.out.b0 4).trans rfl; have p5 := (blk_cell O.out.b0 5).trans rfl; have p6 := (blk_cell O.out.b0 6).trans rfl; have p7 := (blk_cell O.out.b0 7).trans rfl; have p8 := (blk_cell O.out.b0 8).trans rfl; have p9 := (blk_cell O.out.b0 9).trans rfl; have p10 := (blk_cell O.out.b0 10).trans rfl; have p11 := (blk_cell O.out.b0 11).trans rfl; have p12 := (blk_cell O.out.b0 12).trans rfl; have p13 := (blk_cell O.out.b0 13).trans rfl
    have eb : b = true := HB.out.2 trivial
    subst eb
    go_wp2
    exact HQ.out _ _ ⟨rfl, O.out.bel⟩
  by_cases h3 : op = 3
  · subst h3
    replace HB : Aside0 (b = true ↔ kl.length ≤ 200) := ⟨by rw [HB.out]; simp [AcOk]⟩
    go_enter Try.func98, Try.ntmps98
    go_upto_region 1 with (fail)
    generalize hw : World.alloc _ _ = w1
    have O := Aside0.mk ((Own.nil w).of hw); clear hw
    generalize w.heap.size = g at O ⊢
    have p0 := (blk_cell O.out.b0 0).trans rfl; have p1 := (blk_cell O.out.b0 1).trans rfl; have p2 := (blk_cell O.out.b0 2).trans rfl; have p3 := (blk_cell O.out.b0 3).trans rfl; have p4 := (blk_cell O.out.b0 4).trans rfl; have p5 := (blk_cell O.out.b0 5).trans rfl; have p6 := (blk_cell O.out.b0 6).trans rfl; have p7 := (blk_cell O.out.b0 7).trans rfl; have p8 := (blk_cell O.out.b0 8).trans rfl; have p9 := (blk_cell O.out.b0 9).trans rfl; have p10 := (blk_cell O.out.b0 10).trans rfl; have p11 := (blk_cell O.out.b0 11).trans rfl; have p12 := (blk_cell O.out.b0 12).trans rfl; have p13 := (blk_cell O.out.b0 13).trans rfl
    have eb : decide ((kl.length : Int) ≤ 200) = b := by
      by_cases hl : kl.length ≤ 200
      · rw [HB.out.2 hl]; exact decide_eq_true (by omega)
      · have : b = false := by cases b; rfl; exact absurd (HB.out.1 rfl) hl
        rw [this]; exact decide_eq_false (by omega)
    go_wp2
    exact HQ.out _ _ ⟨by first | rfl | rw [eb] | (simp only [eb]), O.out.bel⟩
  by_cases h4 : op = 4
  · subst h4
    replace HB : Aside0 (b = true ↔ True) := ⟨by rw [HB.out]; simp [AcOk]⟩
    go_enter Try.func98, Try.ntmps98
    go_upto_region 1 with (fail)
    generalize hw : World.alloc _ _ = w1
    have O := Aside0.mk ((Own.nil w).of hw); clear hw
    generalize w.heap.size = g at O ⊢
    have p0 := (blk_cell O.out.b0 0).trans rfl; have p1 := (blk_cell O.out.b0 1).trans rfl; have p2 := (blk_cell O.out.b0 2).trans rfl; have p3 := (blk_cell O.out.b0 3).trans rfl; have p4 := (blk_cell O.out.b0 4).trans rfl; have p5 := (blk_cell O.out.b0 5).trans rfl; have p6 := (blk_cell O.out.b0 6).trans rfl; have p7 := (blk_cell O.out.b0 7).trans rfl; have p8 := (blk_cell O.out.b0 8).trans rfl; have p9 := (blk_cell O.out.b0 9).trans rfl; have p10 := (blk_cell O.out.b0 10).trans rfl; have p11 := (blk_cell O.out.b0 11).trans rfl; have p12 := (blk_cell O.out.b0 12).trans rfl; have p13 := (blk_cell O.out.b0 13).trans rfl
    have eb : b = true := HB.out.2 trivial
    subst eb
    go_wp2
    exact HQ.out _ _ ⟨rfl, O.out.bel⟩
  by_cases h5 : op = 5
  · subst h5
    replace HB : Aside0 (b = true ↔ (0 ≤ pos ∧ pos ≤ 8191) ∧ (1 ≤ amt ∧ amt ≤ 255)) := ⟨by rw [HB.out]; simp [AcOk]; omega⟩
    go_enter Try.func98, Try.ntmps98
    go_upto_region 1 with (fail)
    generalize hw : World.alloc _ _ = w1
    have O := Aside0.mk ((Own.nil w).of hw); clear hw
    generalize w.heap.size = g at O ⊢
    have p0 := (blk_cell O.out.b0 0).trans rfl; have p1 := (blk_cell O.out.b0 1).trans rfl; have p2 := (blk_cell O.out.b0 2).trans rfl; have p3 := (blk_cell O.out.b0 3).trans rfl; have p4 := (blk_cell O.out.b0 4).trans rfl; have p5 := (blk_cell O.out.b0 5).trans rfl; have p6 := (blk_cell O.out.b0 6).trans rfl; have p7 := (blk_cell O.out.b0 7).trans rfl; have p8 := (blk_cell O.out.b0 8).trans rfl; have p9 := (blk_cell O.out.b0 9).trans rfl; have p10 := (blk_cell O.out.b0 10).trans rfl; have p11 := (blk_cell O.out.b0 11).trans rfl; have p12 := (blk_cell O.out.b0 12).trans rfl; have p13 := (blk_cell O.out.b0 13).trans rfl
    go_wp2_with fail
    refine (l1in_c _ _ _ _).mono ?_
    rintro e w2 ⟨rfl, hE⟩
    subst hE
    by_cases hp : 0 ≤ pos ∧ pos ≤ 8191
    · rw [show (decide (0 ≤ pos) && decide (pos ≤ 8191)) = true by simp [hp]]
      go_wp2_with fail
      refine (l1in_c _ _ _ _).mono ?_
      rintro e w3 ⟨rfl, hE⟩
      subst hE
      have eb : (decide (1 ≤ amt) && decide (amt ≤ 255)) = b := by
        by_cases ha : 1 ≤ amt ∧ amt ≤ 255
        · rw [HB.out.2 ⟨hp, ha⟩]; simp [ha]
        · have : b = false := by cases b; rfl; exact absurd (HB.out.1 rfl).2 ha
          rw [this]
          rcases Classical.not_and_iff_not_or_not.1 ha with h | h
          · rw [decide_eq_false h]; rfl
          · rw [decide_eq_false h, Bool.and_false]
      rw [eb]
      clear eb hp
      go_wp2
      exact HQ.out _ _ ⟨rfl, O.out.bel⟩
    · have e1 : (decide (0 ≤ pos) && decide (pos ≤ 8191)) = false := by
        rcases Classical.not_and_iff_not_or_not.1 hp with h | h
        · rw [decide_eq_false h]; rfl
        · rw [decide_eq_false h, Bool.and_false]
      have eb : b = false := by cases b; rfl; exact absurd (HB.out.1 rfl).1 hp
      subst eb
      rw [e1]
      clear e1 hp
      go_wp2
      exact HQ.out _ _ ⟨rfl, O.out.bel⟩
  have eb : b = false := by
    cases b; rfl
    have := HB.out.1 rfl
    simp only [AcOk] at this
    omega
  subst eb
  obtain ⟨E1, _⟩ := eqF h1; obtain ⟨E2, _⟩ := eqF h2; obtain ⟨E3, _⟩ := eqF h3; obtain ⟨E4, _⟩ := eqF h4; obtain ⟨E5, _⟩ := eqF h5
  clear h1 h2 h3 h4 h5
  go_enter Try.func98, Try.ntmps98
  go_upto_region 1 with (fail)
  generalize hw : World.alloc _ _ = w1
  have O := Aside0.mk ((Own.nil w).of hw); clear hw
  generalize w.heap.size = g at O ⊢
  have p0 := (blk_cell O.out.b0 0).trans rfl; have p1 := (blk_cell O.out.b0 1).trans rfl; have p2 := (blk_cell O.out.b0 2).trans rfl; have p3 := (blk_cell O.out.b0 3).trans rfl; have p4 := (blk_cell O.out.b0 4).trans rfl; have p5 := (blk_cell O.out.b0 5).trans rfl; have p6 := (blk_cell O.out.b0 6).trans rfl; have p7 := (blk_cell O.out.b0 7).trans rfl; have p8 := (blk_cell O.out.b0 8).trans rfl; have p9 := (blk_cell O.out.b0 9).trans rfl; have p10 := (blk_cell O.out.b0 10).trans rfl; have p11 := (blk_cell O.out.b0 11).trans rfl; have p12 := (blk_cell O.out.b0 12).trans rfl; have p13 := (blk_cell O.out.b0 13).trans rfl
  go_wp2
  exact HQ.out _ _ ⟨rfl, O.out.bel⟩
end Go.Proofs.Ytocdlibnmlcokaa
namespace Go.Proofs.Ytocdlibnmlcokaa
open Go.RowKit Go.Proofs.YtocdlibnmlcokaaW.PrintWords Go.Proofs.YtocdlibnmlcokaaW.PrintLast
set_option linter.unusedVariables false
set_option linter.unusedSimpArgs false
def setsA (cells : Array Value) (k : Nat) : List Value → Array Value
  | [] => cells
  | u :: r => setsA (cells.setIfInBounds k u) (k + 1) r
theorem Own.boxN {w0 : World} {L : List Rs} {g t : Nat} : ∀ (us : List Value) {w : World} {k : Nat} {cells : Array Value}, Own w0 w (Rs.box g t cells :: L) → Own w0 (setCells w g k us) (Rs.box g t (setsA cells k us) :: L)
  | [], w, k, cells, h => h
  | u :: r, w, k, cells, h => Own.boxN r (h.set k u)
theorem Own.stm {w0 w w1 : World} {L : List Rs} {g t : Nat} {cells : Array Value} (h : Own w0 w (Rs.box g t cells :: L)) (k : Nat) (us : List Value) (e : setCells w g k us = w1) (cells' : Array Value) (ec : setsA cells k us = cells') : Own w0 w1 (Rs.box g t cells' :: L) := by
  subst e; subst ec; exact Own.boxN us h
def zAc : Ac := ⟨0, zN, [], zN, 0, 0⟩
def GotAct (w : World) (x : Ac) (e : Ending) (w' : World) : Prop := ∃ v, e = .returned (vAc x v) ∧ Own w w' [Rs.row Rp.bool 4 v x.kept]
abbrev zero14 : Array Value := #[.int .i64 0, .int .i64 0, .int .i64 0, .int .i64 0, .int .i64 0, .string { data := #[] }, .slice none 0 0, .int .i64 0, .int .i64 0, .int .i64 0, .int .i64 0, .string { data := #[] }, .int .i64 0, .int .i64 0]
set_option maxHeartbeats 4000000 in
set_option maxRecDepth 100000 in
theorem toAct_c (x : Ac) (K : Option Addr) (kc : Nat) (w : World) (hx : Kd.bool.C w K x.kept.length x.kept) (hm : x.kept.length ≤ 10000000) :
    Calls Try.prog 138 #[vAc x (.slice K x.kept.length kc)] w (GotAct w x) := by
  suffices H : ∀ Q : Ending → World → Prop, (∀ e w', GotAct w x e w' → Q e w') → Calls Try.prog 138 #[vAc x (.slice K x.kept.length kc)] w Q from H _ (fun e w' h => h)
  intro Q hQ
  have HQ := Aside0.mk hQ; clear hQ
  obtain ⟨op, ⟨n0, n1, n2, n3, n4⟩, kl, ⟨a0, a1, a2, a3, a4⟩, pos, amt⟩ := x
  simp only [vAc, GotAct] at *
  have HX := Aside0.mk hx; clear hx
  go_enter Try.func138, Try.ntmps138
  go_upto_region 2 with (fail)
  generalize hw : World.alloc _ _ = w1
  have O := Aside0.mk ((Own.nil w).of3 hw); clear hw
  generalize w.heap.size + 1 + 1 = g3 at O ⊢
  generalize w.heap.size + 1 = g2 at O ⊢
  generalize w.heap.size = g1 at O ⊢
  replace O := Aside0.mk O.out.p2
  have p0 := (blk_cell O.out.b0 0).trans rfl; have p1 := (blk_cell O.out.b0 1).trans rfl; have p2 := (blk_cell O.out.b0 2).trans rfl; have p3 := (blk_cell O.out.b0 3).trans rfl; have p4 := (blk_cell O.out.b0 4).trans rfl; have p5 := (blk_cell O.out.b0 5).trans rfl; have p6 := (blk_cell O.out.b0 6).trans rfl; have p7 := (blk_cell O.out.b0 7).trans rfl; have p8 := (blk_cell O.out.b0 8).trans rfl; have p9 := (blk_cell O.out.b0 9).trans rfl; have p10 := (blk_cell O.out.b0 10).trans rfl; have p11 := (blk_cell O.out.b0 11).trans rfl; have p12 := (blk_cell O.out.b0 12).trans rfl; have p13 := (blk_cell O.out.b0 13).trans rfl
  have q0 := (blk_cell O.out.b1 0).trans rfl; have z0 := blk_frozen O.out.b1 0
  go_upto_region 3 with (fail)
  generalize hw : World.setCell _ _ _ = w2
  replace O := Aside0.mk (O.out.p1.stm 0 [.int .i64 op] hw #[.int .i64 op, .int .i64 0, .int .i64 0, .int .i64 0, .int .i64 0, .string { data := #[] }, .slice none 0 0, .int .i64 0, .int .i64 0, .int .i64 0, .int .i64 0, .string { data := #[] }, .int .i64 0, .int .i64 0] rfl).p1; clear hw q0 z0 p0 p1 p2 p3 p4 p5 p6 p7 p8 p9 p10 p11 p12 p13
  have p0 := (blk_cell O.out.b0 0).trans rfl; have p1 := (blk_cell O.out.b0 1).trans rfl; have p2 := (blk_cell O.out.b0 2).trans rfl; have p3 := (blk_cell O.out.b0 3).trans rfl; have p4 := (blk_cell O.out.b0 4).trans rfl; have p5 := (blk_cell O.out.b0 5).trans rfl; have p6 := (blk_cell O.out.b0 6).trans rfl; have p7 := (blk_cell O.out.b0 7).trans rfl; have p8 := (blk_cell O.out.b0 8).trans rfl; have p9 := (blk_cell O.out.b0 9).trans rfl; have p10 := (blk_cell O.out.b0 10).trans rfl; have p11 := (blk_cell O.out.b0 11).trans rfl; have p12 := (blk_cell O.out.b0 12).trans rfl; have p13 := (blk_cell O.out.b0 13).trans rfl
  go_wp2_with fail
  refine (toNote_c ⟨n0, n1, n2, n3, n4⟩ _).mono ?_
  rintro e w3 ⟨rfl, hb⟩
  replace O := Aside0.mk (O.out.below hb); clear hb p0 p1 p2 p3 p4 p5 p6 p7 p8 p9 p10 p11 p12 p13
  simp only [vN]
  have q0 := (blk_cell O.out.b1 0).trans rfl; have q1 := (blk_cell O.out.b1 1).trans rfl; have q2 := (blk_cell O.out.b1 2).trans rfl; have q3 := (blk_cell O.out.b1 3).trans rfl; have q4 := (blk_cell O.out.b1 4).trans rfl; have q5 := (blk_cell O.out.b1 5).trans rfl; have q6 := (blk_cell O.out.b1 6).trans rfl; have q7 := (blk_cell O.out.b1 7).trans rfl; have q8 := (blk_cell O.out.b1 8).trans rfl; have q9 := (blk_cell O.out.b1 9).trans rfl; have q10 := (blk_cell O.out.b1 10).trans rfl; have q11 := (blk_cell O.out.b1 11).trans rfl; have q12 := (blk_cell O.out.b1 12).trans rfl; have q13 := (blk_cell O.out.b1 13).trans rfl
  have z0 := blk_frozen O.out.b1 0; have z1 := blk_frozen O.out.b1 1; have z2 := blk_frozen O.out.b1 2; have z3 := blk_frozen O.out.b1 3; have z4 := blk_frozen O.out.b1 4; have z5 := blk_frozen O.out.b1 5; have z6 := blk_frozen O.out.b1 6; have z7 := blk_frozen O.out.b1 7; have z8 := blk_frozen O.out.b1 8; have z9 := blk_frozen O.out.b1 9; have z10 := blk_frozen O.out.b1 10; have z11 := blk_frozen O.out.b1 11; have z12 := blk_frozen O.out.b1 12; have z13 := blk_frozen O.out.b1 13
  go_upto_region 4 with (fail)
  generalize hw : World.setCell _ _ _ = w4
  replace O := Aside0.mk (O.out.p1.stm 1 [.int .i64 n0, .int .i64 n1, .int .i64 n2, .int .i64 n3, .string n4] hw #[.int .i64 op, .int .i64 n0, .int .i64 n1, .int .i64 n2, .int .i64 n3, .string n4, .slice none 0 0, .int .i64 0, .int .i64 0, .int .i64 0, .int .i64 0, .string { data := #[] }, .int .i64 0, .int .i64 0] rfl).p1; clear hw q0 q1 q2 q3 q4 q5 q6 q7 q8 q9 q10 q11 q12 q13 z0 z1 z2 z3 z4 z5 z6 z7 z8 z9 z10 z11 z12 z13
  have p0 := (blk_cell O.out.b0 0).trans rfl; have p1 := (blk_cell O.out.b0 1).trans rfl; have p2 := (blk_cell O.out.b0 2).trans rfl; have p3 := (blk_cell O.out.b0 3).trans rfl; have p4 := (blk_cell O.out.b0 4).trans rfl; have p5 := (blk_cell O.out.b0 5).trans rfl; have p6 := (blk_cell O.out.b0 6).trans rfl; have p7 := (blk_cell O.out.b0 7).trans rfl; have p8 := (blk_cell O.out.b0 8).trans rfl; have p9 := (blk_cell O.out.b0 9).trans rfl; have p10 := (blk_cell O.out.b0 10).trans rfl; have p11 := (blk_cell O.out.b0 11).trans rfl; have p12 := (blk_cell O.out.b0 12).trans rfl; have p13 := (blk_cell O.out.b0 13).trans rfl
  go_wp2_with fail
  refine (toBoolS_c _ _ kl _ (Kd.C_below HX.out O.out.bel) hm).mono ?_
  intro e w5 hg
  obtain ⟨v, rfl, k⟩ := own_row hg
  obtain ⟨Av, cv, rfl, _⟩ := (O.out.app1 k).f0
  replace O := Aside0.mk (O.out.app1 k).p1.p2; clear k hg p0 p1 p2 p3 p4 p5 p6 p7 p8 p9 p10 p11 p12 p13
  replace O := Aside0.mk O.out.p1
  have q0 := (blk_cell O.out.b1 0).trans rfl; have q1 := (blk_cell O.out.b1 1).trans rfl; have q2 := (blk_cell O.out.b1 2).trans rfl; have q3 := (blk_cell O.out.b1 3).trans rfl; have q4 := (blk_cell O.out.b1 4).trans rfl; have q5 := (blk_cell O.out.b1 5).trans rfl; have q6 := (blk_cell O.out.b1 6).trans rfl; have q7 := (blk_cell O.out.b1 7).trans rfl; have q8 := (blk_cell O.out.b1 8).trans rfl; have q9 := (blk_cell O.out.b1 9).trans rfl; have q10 := (blk_cell O.out.b1 10).trans rfl; have q11 := (blk_cell O.out.b1 11).trans rfl; have q12 := (blk_cell O.out.b1 12).trans rfl; have q13 := (blk_cell O.out.b1 13).trans rfl
  have z0 := blk_frozen O.out.b1 0; have z1 := blk_frozen O.out.b1 1; have z2 := blk_frozen O.out.b1 2; have z3 := blk_frozen O.out.b1 3; have z4 := blk_frozen O.out.b1 4; have z5 := blk_frozen O.out.b1 5; have z6 := blk_frozen O.out.b1 6; have z7 := blk_frozen O.out.b1 7; have z8 := blk_frozen O.out.b1 8; have z9 := blk_frozen O.out.b1 9; have z10 := blk_frozen O.out.b1 10; have z11 := blk_frozen O.out.b1 11; have z12 := blk_frozen O.out.b1 12; have z13 := blk_frozen O.out.b1 13
  go_upto_region 5 with (fail)
  generalize hw : World.setCell _ _ _ = w6
  replace O := Aside0.mk (O.out.p1.stm 6 [.slice Av kl.length cv] hw #[.int .i64 op, .int .i64 n0, .int .i64 n1, .int .i64 n2, .int .i64 n3, .string n4, .slice Av kl.length cv, .int .i64 0, .int .i64 0, .int .i64 0, .int .i64 0, .string { data := #[] }, .int .i64 0, .int .i64 0] rfl).p1; clear hw q0 q1 q2 q3 q4 q5 q6 q7 q8 q9 q10 q11 q12 q13 z0 z1 z2 z3 z4 z5 z6 z7 z8 z9 z10 z11 z12 z13
  have p0 := (blk_cell O.out.b0 0).trans rfl; have p1 := (blk_cell O.out.b0 1).trans rfl; have p2 := (blk_cell O.out.b0 2).trans rfl; have p3 := (blk_cell O.out.b0 3).trans rfl; have p4 := (blk_cell O.out.b0 4).trans rfl; have p5 := (blk_cell O.out.b0 5).trans rfl; have p6 := (blk_cell O.out.b0 6).trans rfl; have p7 := (blk_cell O.out.b0 7).trans rfl; have p8 := (blk_cell O.out.b0 8).trans rfl; have p9 := (blk_cell O.out.b0 9).trans rfl; have p10 := (blk_cell O.out.b0 10).trans rfl; have p11 := (blk_cell O.out.b0 11).trans rfl; have p12 := (blk_cell O.out.b0 12).trans rfl; have p13 := (blk_cell O.out.b0 13).trans rfl
  go_wp2_with fail
  refine (toAsk_c ⟨a0, a1, a2, a3, a4⟩ _).mono ?_
  rintro e w7 ⟨rfl, hb⟩
  replace O := Aside0.mk (O.out.below hb); clear hb p0 p1 p2 p3 p4 p5 p6 p7 p8 p9 p10 p11 p12 p13
  simp only [vN]
  have q0 := (blk_cell O.out.b1 0).trans rfl; have q1 := (blk_cell O.out.b1 1).trans rfl; have q2 := (blk_cell O.out.b1 2).trans rfl; have q3 := (blk_cell O.out.b1 3).trans rfl; have q4 := (blk_cell O.out.b1 4).trans rfl; have q5 := (blk_cell O.out.b1 5).trans rfl; have q6 := (blk_cell O.out.b1 6).trans rfl; have q7 := (blk_cell O.out.b1 7).trans rfl; have q8 := (blk_cell O.out.b1 8).trans rfl; have q9 := (blk_cell O.out.b1 9).trans rfl; have q10 := (blk_cell O.out.b1 10).trans rfl; have q11 := (blk_cell O.out.b1 11).trans rfl; have q12 := (blk_cell O.out.b1 12).trans rfl; have q13 := (blk_cell O.out.b1 13).trans rfl
  have z0 := blk_frozen O.out.b1 0; have z1 := blk_frozen O.out.b1 1; have z2 := blk_frozen O.out.b1 2; have z3 := blk_frozen O.out.b1 3; have z4 := blk_frozen O.out.b1 4; have z5 := blk_frozen O.out.b1 5; have z6 := blk_frozen O.out.b1 6; have z7 := blk_frozen O.out.b1 7; have z8 := blk_frozen O.out.b1 8; have z9 := blk_frozen O.out.b1 9; have z10 := blk_frozen O.out.b1 10; have z11 := blk_frozen O.out.b1 11; have z12 := blk_frozen O.out.b1 12; have z13 := blk_frozen O.out.b1 13
  go_upto_region 6 with (fail)
  generalize hw : World.setCell _ _ _ = w8
  replace O := Aside0.mk (O.out.p1.stm 7 [.int .i64 a0, .int .i64 a1, .int .i64 a2, .int .i64 a3, .string a4] hw #[.int .i64 op, .int .i64 n0, .int .i64 n1, .int .i64 n2, .int .i64 n3, .string n4, .slice Av kl.length cv, .int .i64 a0, .int .i64 a1, .int .i64 a2, .int .i64 a3, .string a4, .int .i64 0, .int .i64 0] rfl).p1; clear hw q0 q1 q2 q3 q4 q5 q6 q7 q8 q9 q10 q11 q12 q13 z0 z1 z2 z3 z4 z5 z6 z7 z8 z9 z10 z11 z12 z13
  have p0 := (blk_cell O.out.b0 0).trans rfl; have p1 := (blk_cell O.out.b0 1).trans rfl; have p2 := (blk_cell O.out.b0 2).trans rfl; have p3 := (blk_cell O.out.b0 3).trans rfl; have p4 := (blk_cell O.out.b0 4).trans rfl; have p5 := (blk_cell O.out.b0 5).trans rfl; have p6 := (blk_cell O.out.b0 6).trans rfl; have p7 := (blk_cell O.out.b0 7).trans rfl; have p8 := (blk_cell O.out.b0 8).trans rfl; have p9 := (blk_cell O.out.b0 9).trans rfl; have p10 := (blk_cell O.out.b0 10).trans rfl; have p11 := (blk_cell O.out.b0 11).trans rfl; have p12 := (blk_cell O.out.b0 12).trans rfl; have p13 := (blk_cell O.out.b0 13).trans rfl
  have q0 := (blk_cell O.out.b1 0).trans rfl; have q1 := (blk_cell O.out.b1 1).trans rfl; have q2 := (blk_cell O.out.b1 2).trans rfl; have q3 := (blk_cell O.out.b1 3).trans rfl; have q4 := (blk_cell O.out.b1 4).trans rfl; have q5 := (blk_cell O.out.b1 5).trans rfl; have q6 := (blk_cell O.out.b1 6).trans rfl; have q7 := (blk_cell O.out.b1 7).trans rfl; have q8 := (blk_cell O.out.b1 8).trans rfl; have q9 := (blk_cell O.out.b1 9).trans rfl; have q10 := (blk_cell O.out.b1 10).trans rfl; have q11 := (blk_cell O.out.b1 11).trans rfl; have q12 := (blk_cell O.out.b1 12).trans rfl; have q13 := (blk_cell O.out.b1 13).trans rfl
  have z0 := blk_frozen O.out.b1 0; have z1 := blk_frozen O.out.b1 1; have z2 := blk_frozen O.out.b1 2; have z3 := blk_frozen O.out.b1 3; have z4 := blk_frozen O.out.b1 4; have z5 := blk_frozen O.out.b1 5; have z6 := blk_frozen O.out.b1 6; have z7 := blk_frozen O.out.b1 7; have z8 := blk_frozen O.out.b1 8; have z9 := blk_frozen O.out.b1 9; have z10 := blk_frozen O.out.b1 10; have z11 := blk_frozen O.out.b1 11; have z12 := blk_frozen O.out.b1 12; have z13 := blk_frozen O.out.b1 13
  go_upto_region 7 with (fail)
  generalize hw : World.setCell _ _ _ = w9
  replace O := Aside0.mk (O.out.p1.stm 12 [.int .i64 pos] hw #[.int .i64 op, .int .i64 n0, .int .i64 n1, .int .i64 n2, .int .i64 n3, .string n4, .slice Av kl.length cv, .int .i64 a0, .int .i64 a1, .int .i64 a2, .int .i64 a3, .string a4, .int .i64 pos, .int .i64 0] rfl).p1; clear hw q0 q1 q2 q3 q4 q5 q6 q7 q8 q9 q10 q11 q12 q13 z0 z1 z2 z3 z4 z5 z6 z7 z8 z9 z10 z11 z12 z13 p0 p1 p2 p3 p4 p5 p6 p7 p8 p9 p10 p11 p12 p13
  have p0 := (blk_cell O.out.b0 0).trans rfl; have p1 := (blk_cell O.out.b0 1).trans rfl; have p2 := (blk_cell O.out.b0 2).trans rfl; have p3 := (blk_cell O.out.b0 3).trans rfl; have p4 := (blk_cell O.out.b0 4).trans rfl; have p5 := (blk_cell O.out.b0 5).trans rfl; have p6 := (blk_cell O.out.b0 6).trans rfl; have p7 := (blk_cell O.out.b0 7).trans rfl; have p8 := (blk_cell O.out.b0 8).trans rfl; have p9 := (blk_cell O.out.b0 9).trans rfl; have p10 := (blk_cell O.out.b0 10).trans rfl; have p11 := (blk_cell O.out.b0 11).trans rfl; have p12 := (blk_cell O.out.b0 12).trans rfl; have p13 := (blk_cell O.out.b0 13).trans rfl
  have q0 := (blk_cell O.out.b1 0).trans rfl; have q1 := (blk_cell O.out.b1 1).trans rfl; have q2 := (blk_cell O.out.b1 2).trans rfl; have q3 := (blk_cell O.out.b1 3).trans rfl; have q4 := (blk_cell O.out.b1 4).trans rfl; have q5 := (blk_cell O.out.b1 5).trans rfl; have q6 := (blk_cell O.out.b1 6).trans rfl; have q7 := (blk_cell O.out.b1 7).trans rfl; have q8 := (blk_cell O.out.b1 8).trans rfl; have q9 := (blk_cell O.out.b1 9).trans rfl; have q10 := (blk_cell O.out.b1 10).trans rfl; have q11 := (blk_cell O.out.b1 11).trans rfl; have q12 := (blk_cell O.out.b1 12).trans rfl; have q13 := (blk_cell O.out.b1 13).trans rfl
  have z0 := blk_frozen O.out.b1 0; have z1 := blk_frozen O.out.b1 1; have z2 := blk_frozen O.out.b1 2; have z3 := blk_frozen O.out.b1 3; have z4 := blk_frozen O.out.b1 4; have z5 := blk_frozen O.out.b1 5; have z6 := blk_frozen O.out.b1 6; have z7 := blk_frozen O.out.b1 7; have z8 := blk_frozen O.out.b1 8; have z9 := blk_frozen O.out.b1 9; have z10 := blk_frozen O.out.b1 10; have z11 := blk_frozen O.out.b1 11; have z12 := blk_frozen O.out.b1 12; have z13 := blk_frozen O.out.b1 13
  go_upto_region 8 with (fail)
  generalize hw : World.setCell _ _ _ = w10
  replace O := Aside0.mk (O.out.p1.stm 13 [.int .i64 amt] hw #[.int .i64 op, .int .i64 n0, .int .i64 n1, .int .i64 n2, .int .i64 n3, .string n4, .slice Av kl.length cv, .int .i64 a0, .int .i64 a1, .int .i64 a2, .int .i64 a3, .string a4, .int .i64 pos, .int .i64 amt] rfl).p1; clear hw q0 q1 q2 q3 q4 q5 q6 q7 q8 q9 q10 q11 q12 q13 z0 z1 z2 z3 z4 z5 z6 z7 z8 z9 z10 z11 z12 z13 p0 p1 p2 p3 p4 p5 p6 p7 p8 p9 p10 p11 p12 p13
  have q0 := (blk_cell O.out.b1 0).trans rfl; have q1 := (blk_cell O.out.b1 1).trans rfl; have q2 := (blk_cell O.out.b1 2).trans rfl; have q3 := (blk_cell O.out.b1 3).trans rfl; have q4 := (blk_cell O.out.b1 4).trans rfl; have q5 := (blk_cell O.out.b1 5).trans rfl; have q6 := (blk_cell O.out.b1 6).trans rfl; have q7 := (blk_cell O.out.b1 7).trans rfl; have q8 := (blk_cell O.out.b1 8).trans rfl; have q9 := (blk_cell O.out.b1 9).trans rfl; have q10 := (blk_cell O.out.b1 10).trans rfl; have q11 := (blk_cell O.out.b1 11).trans rfl; have q12 := (blk_cell O.out.b1 12).trans rfl; have q13 := (blk_cell O.out.b1 13).trans rfl
  have p0 := (blk_cell O.out.b3 0).trans rfl; have p1 := (blk_cell O.out.b3 1).trans rfl; have p2 := (blk_cell O.out.b3 2).trans rfl; have p3 := (blk_cell O.out.b3 3).trans rfl; have p4 := (blk_cell O.out.b3 4).trans rfl; have p5 := (blk_cell O.out.b3 5).trans rfl; have p6 := (blk_cell O.out.b3 6).trans rfl; have p7 := (blk_cell O.out.b3 7).trans rfl; have p8 := (blk_cell O.out.b3 8).trans rfl; have p9 := (blk_cell O.out.b3 9).trans rfl; have p10 := (blk_cell O.out.b3 10).trans rfl; have p11 := (blk_cell O.out.b3 11).trans rfl; have p12 := (blk_cell O.out.b3 12).trans rfl; have p13 := (blk_cell O.out.b3 13).trans rfl
  have z0 := blk_frozen O.out.b3 0; have z1 := blk_frozen O.out.b3 1; have z2 := blk_frozen O.out.b3 2; have z3 := blk_frozen O.out.b3 3; have z4 := blk_frozen O.out.b3 4; have z5 := blk_frozen O.out.b3 5; have z6 := blk_frozen O.out.b3 6; have z7 := blk_frozen O.out.b3 7; have z8 := blk_frozen O.out.b3 8; have z9 := blk_frozen O.out.b3 9; have z10 := blk_frozen O.out.b3 10; have z11 := blk_frozen O.out.b3 11; have z12 := blk_frozen O.out.b3 12; have z13 := blk_frozen O.out.b3 13
  go_wp2
  generalize hw : World.setCell _ _ _ = w11
  clear q0 q1 q2 q3 q4 q5 q6 q7 q8 q9 q10 q11 q12 q13 p0 p1 p2 p3 p4 p5 p6 p7 p8 p9 p10 p11 p12 p13 z0 z1 z2 z3 z4 z5 z6 z7 z8 z9 z10 z11 z12 z13
  have hw2 : setCells w10 g2 0 [.int .i64 op, .int .i64 n0, .int .i64 n1, .int .i64 n2, .int .i64 n3, .string n4, .slice Av kl.length cv, .int .i64 a0, .int .i64 a1, .int .i64 a2, .int .i64 a3, .string a4, .int .i64 pos, .int .i64 amt] = w11 := by simp only [setCells, Nat.reduceAdd]; exact hw
  clear hw
  have hec : setsA zero14 0 [.int .i64 op, .int .i64 n0, .int .i64 n1, .int .i64 n2, .int .i64 n3, .string n4, .slice Av kl.length cv, .int .i64 a0, .int .i64 a1, .int .i64 a2, .int .i64 a3, .string a4, .int .i64 pos, .int .i64 amt] = #[.int .i64 op, .int .i64 n0, .int .i64 n1, .int .i64 n2, .int .i64 n3, .string n4, .slice Av kl.length cv, .int .i64 a0, .int .i64 a1, .int .i64 a2, .int .i64 a3, .string a4, .int .i64 pos, .int .i64 amt] := by simp [setsA, zero14]
  replace O := Aside0.mk (O.out.p3.stm 0 _ hw2 _ hec); clear hw2 hec
  refine bodyPost_ret (results_cell_row rfl _ _ g2 38 #[.int .i64 op, .int .i64 n0, .int .i64 n1, .int .i64 n2, .int .i64 n3, .string n4, .slice Av kl.length cv, .int .i64 a0, .int .i64 a1, .int .i64 a2, .int .i64 a3, .string a4, .int .i64 pos, .int .i64 amt] (0, 0) _ rfl O.out.b0 Try.underlying38 rfl (by kernel_rfl)) rfl ?_
  exact HQ.out _ _ ⟨.slice Av kl.length cv, rfl, Own.only [_] O.out.p3⟩
end Go.Proofs.Ytocdlibnmlcokaa
namespace Go.Proofs.Ytocdlibnmlcokaa
open Go.RowKit Go.Proofs.YtocdlibnmlcokaaW.PrintWords Go.Proofs.YtocdlibnmlcokaaW.PrintLast
set_option linter.unusedVariables false
set_option linter.unusedSimpArgs false
set_option maxRecDepth 100000 in
set_option maxHeartbeats 2000000 in
theorem szActS_c (A : Option Addr) (c : Nat) (xs : List Ac) (left : Int) (w : World) (hx : rAc.d.C w A xs.length xs) (ht : ∀ x ∈ xs, AcTx x) (h0 : 0 ≤ left) (h1 : left ≤ 1048576) :
    Calls Try.prog 88 #[.slice A xs.length c, .int .i64 left] w (Num w (szR (xs.length + cntL cnA xs) left)) := by
  have hl : xs.length ≤ 9223372036854775807 := hx.2.1
  have HX := Aside0.mk hx; have HT := Aside0.mk ht; clear hx ht
  have hnn := cntL_nonneg (cnt := cnA) cnA_nonneg xs
  by_cases hq : (xs.length : Int) ≤ left
  · go_enter Try.func88, Try.ntmps88
    go_wp2
    go_loopg [1, 5] xs.length (fun m vl vi wr => ∃ i lc : Int, vi = .int .i64 i ∧ vl = .int .i64 lc ∧ Aside0 (0 ≤ i ∧ i ≤ xs.length ∧ xs.length - i.toNat ≤ m ∧ lc = left - xs.length - cntL cnA (xs.take i.toNat)) ∧ Aside0 (0 ≤ lc) ∧ Aside0 (Below w.heap.size w wr))
    case atStart => exact ⟨0, left - xs.length, rfl, rfl, ⟨by simp [cntL]⟩, ⟨by omega⟩, ⟨Below.refl _ _⟩⟩
    case round =>
      obtain ⟨i, lc, rfl, rfl, HI, HL, HB⟩ := hrel
      by_cases hlt : i < (xs.length : Int)
      · have hi0 : 0 ≤ i := HI.out.1
        have hs1 := cntL_succ (cnt := cnA) xs (i := i.toNat) (by omega)
        have hs2 := cntL_le (cnt := cnA) cnA_nonneg xs (i.toNat + 1)
        have hs3 := cntL_nonneg (cnt := cnA) cnA_nonneg (xs.take i.toNat)
        have hll : 0 ≤ lc ∧ lc ≤ 1048576 := ⟨HL.out, by have := HI.out; omega⟩
        obtain ⟨ad, K, kc, hA, a0, a1, a2, a3, a4, a5, a6, a7, a8, a9, a10, a11, a12, a13, _, hC⟩ := at_Ac (Kd.C_below HX.out HB.out) i hi0 hlt
        cases hA
        have htx : AcTx (gA xs i) := by rw [gA_eq (by omega)]; exact HT.out _ (List.getElem_mem _)
        have hg := gA_eq (xs := xs) (i := i) (by omega)
        by_cases hf : cnA (gA xs i) ≤ lc
        · have hr := szR_yes hf
          have hs : lc - cnA (gA xs i) = left - xs.length - cntL cnA (xs.take (i + 1).toNat) := by rw [show (i + 1).toNat = i.toNat + 1 by omega, hs1, hg]; have := HI.out; omega
          have HS := Aside0.mk hs; have HR := Aside0.mk hr; have HC := Aside0.mk hC
          have hpos : 0 ≤ lc - cnA (gA xs i) := by omega
          clear hs1 hs2 hs3 hg hs hr hf hC
          go_wp2_with (go_at_call 137; refine (szAct_c (gA xs i) K kc lc _ htx HC.out.2.1 hll.1 hll.2).mono ?_; rintro e w1 ⟨rfl, hb1⟩; rw [HR.out]; have HB1 := Aside0.mk (below_then HB.out HB.out.size hb1); clear hb1)
          go_roundg (gk - 1)
          case measure => have := HI.out; omega
          case rel => exact ⟨i + 1, _, rfl, rfl, ⟨by have := HI.out; omega, by have := HI.out; omega, by have := HI.out; omega, HS.out⟩, ⟨hpos⟩, HB1⟩
        · have hr := szR_no hf
          have hs : szR (xs.length + cntL cnA xs) left = -1 := szR_no (by rw [hg] at hf; have := HI.out; omega)
          have HS := Aside0.mk hs; have HR := Aside0.mk hr; have HC := Aside0.mk hC
          clear hs1 hs2 hs3 hg hs hr hf hC
          go_wp2_with (go_at_call 137; refine (szAct_c (gA xs i) K kc lc _ htx HC.out.2.1 hll.1 hll.2).mono ?_; rintro e w1 ⟨rfl, hb1⟩; rw [HR.out]; have HB1 := Aside0.mk (below_then HB.out HB.out.size hb1); clear hb1)
          go_ret
          exact ⟨by rw [HS.out]; rfl, HB1.out⟩
      · have hi := HI.out
        have hs : szR (xs.length + cntL cnA xs) left = lc := by
          have e : xs.take i.toNat = xs := List.take_of_length_le (by omega)
          rw [e] at hi
          rw [szR_yes (by have := HL.out; omega)]; omega
        have HS := Aside0.mk hs; clear hs hi
        go_wp2
        go_ret
        exact ⟨by rw [HS.out]; rfl, HB.out⟩
  · have HR := Aside0.mk (szR_no (cost := xs.length + cntL cnA xs) (left := left) (by omega))
    go_enter Try.func88, Try.ntmps88
    go_wp2
    go_ret
    exact ⟨by rw [HR.out]; rfl, Below.refl _ _⟩
set_option maxRecDepth 100000 in
set_option maxHeartbeats 4000000 in
theorem eqActS_t (A A' : Option Addr) (c c' : Nat) (xs : List Ac) (w : World) (hx : rAc.d.C w A xs.length xs) (hy : rAc.d.C w A' xs.length xs) :
    Calls Try.prog 91 #[.slice A xs.length c, .slice A' xs.length c'] w (Yes w) := by
  have hl : xs.length ≤ 9223372036854775807 := hx.2.1
  have HX := Aside0.mk hx; have HY := Aside0.mk hy; clear hx hy
  go_enter Try.func91, Try.ntmps91
  go_wp2
  go_loopg [5] xs.length (fun k v w' => ∃ i : Int, v = .int .i64 i ∧ Aside0 (0 ≤ i ∧ i ≤ xs.length ∧ xs.length - i.toNat ≤ k) ∧ Aside0 (Below w.heap.size w w'))
  case atStart => exact ⟨0, rfl, ⟨by simp⟩, ⟨Below.refl _ _⟩⟩
  case round =>
    obtain ⟨i, rfl, HI, HB⟩ := hrel
    by_cases h1 : i < (xs.length : Int)
    · have h0 : 0 ≤ i := HI.out.1
      obtain ⟨ad, K, kc, e1, a0, a1, a2, a3, a4, a5, a6, a7, a8, a9, a10, a11, a12, a13, _, hC1⟩ := at_Ac (Kd.C_drew (Kd.C_below HX.out HB.out)) i h0 h1
      obtain ⟨ad', K', kc', e2, b0, b1, b2, b3, b4, b5, b6, b7, b8, b9, b10, b11, b12, b13, _, hC2⟩ := at_Ac (Kd.C_drew (Kd.C_below HY.out HB.out)) i h0 h1
      cases e1; cases e2
      have hb := below_drew HB.out
      have HC1 := Aside0.mk hC1; have HC2 := Aside0.mk hC2
      clear hC1 hC2
      generalize gA xs i = x at a0 a1 a2 a3 a4 a5 a6 a7 a8 a9 a10 a11 a12 a13 b0 b1 b2 b3 b4 b5 b6 b7 b8 b9 b10 b11 b12 b13 HC1 HC2
      go_wp2
      refine sta (fun w' => (w'.cell? (ad.add (i.toNat * 14)) = some (.int .i64 x.op) ∧ w'.cell? ⟨(ad.add (i.toNat * 14)).block, (ad.add (i.toNat * 14)).off + 1, none⟩ = some (.int .i64 x.note.tick) ∧ w'.cell? ⟨(ad.add (i.toNat * 14)).block, (ad.add (i.toNat * 14)).off + 2, none⟩ = some (.int .i64 x.note.kind) ∧ w'.cell? ⟨(ad.add (i.toNat * 14)).block, (ad.add (i.toNat * 14)).off + 3, none⟩ = some (.int .i64 x.note.who) ∧ w'.cell? ⟨(ad.add (i.toNat * 14)).block, (ad.add (i.toNat * 14)).off + 4, none⟩ = some (.int .i64 x.note.n) ∧ w'.cell? ⟨(ad.add (i.toNat * 14)).block, (ad.add (i.toNat * 14)).off + 5, none⟩ = some (.string x.note.text) ∧ w'.cell? ⟨(ad.add (i.toNat * 14)).block, (ad.add (i.toNat * 14)).off + 6, none⟩ = some (.slice K x.kept.length kc) ∧ w'.cell? ⟨(ad.add (i.toNat * 14)).block, (ad.add (i.toNat * 14)).off + 7, none⟩ = some (.int .i64 x.ask.tick) ∧ w'.cell? ⟨(ad.add (i.toNat * 14)).block, (ad.add (i.toNat * 14)).off + 8, none⟩ = some (.int .i64 x.ask.kind) ∧ w'.cell? ⟨(ad.add (i.toNat * 14)).block, (ad.add (i.toNat * 14)).off + 9, none⟩ = some (.int .i64 x.ask.who) ∧ w'.cell? ⟨(ad.add (i.toNat * 14)).block, (ad.add (i.toNat * 14)).off + 10, none⟩ = some (.int .i64 x.ask.n) ∧ w'.cell? ⟨(ad.add (i.toNat * 14)).block, (ad.add (i.toNat * 14)).off + 11, none⟩ = some (.string x.ask.text) ∧ w'.cell? ⟨(ad.add (i.toNat * 14)).block, (ad.add (i.toNat * 14)).off + 12, none⟩ = some (.int .i64 x.pos) ∧ w'.cell? ⟨(ad.add (i.toNat * 14)).block, (ad.add (i.toNat * 14)).off + 13, none⟩ = some (.int .i64 x.amt)) ∧ (w'.cell? (ad'.add (i.toNat * 14)) = some (.int .i64 x.op) ∧ w'.cell? ⟨(ad'.add (i.toNat * 14)).block, (ad'.add (i.toNat * 14)).off + 1, none⟩ = some (.int .i64 x.note.tick) ∧ w'.cell? ⟨(ad'.add (i.toNat * 14)).block, (ad'.add (i.toNat * 14)).off + 2, none⟩ = some (.int .i64 x.note.kind) ∧ w'.cell? ⟨(ad'.add (i.toNat * 14)).block, (ad'.add (i.toNat * 14)).off + 3, none⟩ = some (.int .i64 x.note.who) ∧ w'.cell? ⟨(ad'.add (i.toNat * 14)).block, (ad'.add (i.toNat * 14)).off + 4, none⟩ = some (.int .i64 x.note.n) ∧ w'.cell? ⟨(ad'.add (i.toNat * 14)).block, (ad'.add (i.toNat * 14)).off + 5, none⟩ = some (.string x.note.text) ∧ w'.cell? ⟨(ad'.add (i.toNat * 14)).block, (ad'.add (i.toNat * 14)).off + 6, none⟩ = some (.slice K' x.kept.length kc') ∧ w'.cell? ⟨(ad'.add (i.toNat * 14)).block, (ad'.add (i.toNat * 14)).off + 7, none⟩ = some (.int .i64 x.ask.tick) ∧ w'.cell? ⟨(ad'.add (i.toNat * 14)).block, (ad'.add (i.toNat * 14)).off + 8, none⟩ = some (.int .i64 x.ask.kind) ∧ w'.cell? ⟨(ad'.add (i.toNat * 14)).block, (ad'.add (i.toNat * 14)).off + 9, none⟩ = some (.int .i64 x.ask.who) ∧ w'.cell? ⟨(ad'.add (i.toNat * 14)).block, (ad'.add (i.toNat * 14)).off + 10, none⟩ = some (.int .i64 x.ask.n) ∧ w'.cell? ⟨(ad'.add (i.toNat * 14)).block, (ad'.add (i.toNat * 14)).off + 11, none⟩ = some (.string x.ask.text) ∧ w'.cell? ⟨(ad'.add (i.toNat * 14)).block, (ad'.add (i.toNat * 14)).off + 12, none⟩ = some (.int .i64 x.pos) ∧ w'.cell? ⟨(ad'.add (i.toNat * 14)).block, (ad'.add (i.toNat * 14)).off + 13, none⟩ = some (.int .i64 x.amt))) [] 10 ⟨⟨a0, a1, a2, a3, a4, a5, a6, a7, a8, a9, a10, a11, a12, a13⟩, ⟨b0, b1, b2, b3, b4, b5, b6, b7, b8, b9, b10, b11, b12, b13⟩⟩ (fun hS => ?_)
      clear a0 a1 a2 a3 a4 a5 a6 a7 a8 a9 a10 a11 a12 a13 b0 b1 b2 b3 b4 b5 b6 b7 b8 b9 b10 b11 b12 b13 HB
      generalize wr.drew = wd at HC1 HC2 hb hS ⊢
      refine pu 0 1 ?_
      refine pu 1 3 ?_
      refine pu 2 7 ?_
      refine pu 4 23 ?_
      refine pu 5 55 ?_
      refine pu 6 119 ?_
      refine tk 3 127 hS ?_
      refine tk 7 255 hS ?_
      refine on 8 511 (fun K hK => ?_)
      refine ca (eqAct_t x _ _ _ _ _ HC1.out HC2.out) Try.func140 ?_
      rintro e wa ⟨rfl, hba⟩
      refine ⟨_, rfl, nx hK ⟨⟨pw_cell_below hba hS.1.1, pw_cell_below hba hS.1.2.1, pw_cell_below hba hS.1.2.2.1, pw_cell_below hba hS.1.2.2.2.1, pw_cell_below hba hS.1.2.2.2.2.1, pw_cell_below hba hS.1.2.2.2.2.2.1, pw_cell_below hba hS.1.2.2.2.2.2.2.1, pw_cell_below hba hS.1.2.2.2.2.2.2.2.1, pw_cell_below hba hS.1.2.2.2.2.2.2.2.2.1, pw_cell_below hba hS.1.2.2.2.2.2.2.2.2.2.1, pw_cell_below hba hS.1.2.2.2.2.2.2.2.2.2.2.1, pw_cell_below hba hS.1.2.2.2.2.2.2.2.2.2.2.2.1, pw_cell_below hba hS.1.2.2.2.2.2.2.2.2.2.2.2.2.1, pw_cell_below hba hS.1.2.2.2.2.2.2.2.2.2.2.2.2.2⟩, ⟨pw_cell_below hba hS.2.1, pw_cell_below hba hS.2.2.1, pw_cell_below hba hS.2.2.2.1, pw_cell_below hba hS.2.2.2.2.1, pw_cell_below hba hS.2.2.2.2.2.1, pw_cell_below hba hS.2.2.2.2.2.2.1, pw_cell_below hba hS.2.2.2.2.2.2.2.1, pw_cell_below hba hS.2.2.2.2.2.2.2.2.1, pw_cell_below hba hS.2.2.2.2.2.2.2.2.2.1, pw_cell_below hba hS.2.2.2.2.2.2.2.2.2.2.1, pw_cell_below hba hS.2.2.2.2.2.2.2.2.2.2.2.1, pw_cell_below hba hS.2.2.2.2.2.2.2.2.2.2.2.2.1, pw_cell_below hba hS.2.2.2.2.2.2.2.2.2.2.2.2.2.1, pw_cell_below hba hS.2.2.2.2.2.2.2.2.2.2.2.2.2.2⟩⟩ (fun hS => ?_)⟩
      refine pu 9 1023 ?_
      refine dn ?_
      clear hK K hS
      have HB := Aside0.mk (below_then hb hb.size hba)
      clear hba hb HC1 HC2
      go_wp2
      go_roundg (gk - 1)
      case measure => have := HI.out; omega
      case rel => exact ⟨i + 1, rfl, ⟨by have := HI.out; omega, by have := HI.out; omega, by have := HI.out; omega⟩, HB⟩
    · go_wp2
      go_ret
      exact ⟨rfl, HB.out⟩
set_option maxRecDepth 100000 in
set_option maxHeartbeats 4000000 in
theorem eqActedS_t (A A' : Option Addr) (c c' : Nat) (xs : List Ad) (w : World) (hx : rAd.d.C w A xs.length xs) (hy : rAd.d.C w A' xs.length xs) :
    Calls Try.prog 90 #[.slice A xs.length c, .slice A' xs.length c'] w (Yes w) := by
  have hl : xs.length ≤ 9223372036854775807 := hx.2.1
  have HX := Aside0.mk hx; have HY := Aside0.mk hy; clear hx hy
  go_enter Try.func90, Try.ntmps90
  go_wp2
  go_loopg [5] xs.length (fun k v w' => ∃ i : Int, v = .int .i64 i ∧ Aside0 (0 ≤ i ∧ i ≤ xs.length ∧ xs.length - i.toNat ≤ k) ∧ Aside0 (Below w.heap.size w w'))
  case atStart => exact ⟨0, rfl, ⟨by simp⟩, ⟨Below.refl _ _⟩⟩
  case round =>
    obtain ⟨i, rfl, HI, HB⟩ := hrel
    by_cases h1 : i < (xs.length : Int)
    · have h0 : 0 ≤ i := HI.out.1
      obtain ⟨ad, K, kc, e1, a0, a1, a2, a3, _, hC1⟩ := at_Ad (Kd.C_drew (Kd.C_below HX.out HB.out)) i h0 h1
      obtain ⟨ad', K', kc', e2, b0, b1, b2, b3, _, hC2⟩ := at_Ad (Kd.C_drew (Kd.C_below HY.out HB.out)) i h0 h1
      cases e1; cases e2
      have hb := below_drew HB.out
      have HC1 := Aside0.mk hC1; have HC2 := Aside0.mk hC2
      clear hC1 hC2
      generalize gD xs i = x at a0 a1 a2 a3 b0 b1 b2 b3 HC1 HC2
      go_wp2
      refine sta (fun w' => (w'.cell? (ad.add (i.toNat * 4)) = some (.int .i64 x.code) ∧ w'.cell? ⟨(ad.add (i.toNat * 4)).block, (ad.add (i.toNat * 4)).off + 1, none⟩ = some (.int .i64 x.notes) ∧ w'.cell? ⟨(ad.add (i.toNat * 4)).block, (ad.add (i.toNat * 4)).off + 2, none⟩ = some (.int .i64 x.safe) ∧ w'.cell? ⟨(ad.add (i.toNat * 4)).block, (ad.add (i.toNat * 4)).off + 3, none⟩ = some (.slice K x.found.length kc)) ∧ (w'.cell? (ad'.add (i.toNat * 4)) = some (.int .i64 x.code) ∧ w'.cell? ⟨(ad'.add (i.toNat * 4)).block, (ad'.add (i.toNat * 4)).off + 1, none⟩ = some (.int .i64 x.notes) ∧ w'.cell? ⟨(ad'.add (i.toNat * 4)).block, (ad'.add (i.toNat * 4)).off + 2, none⟩ = some (.int .i64 x.safe) ∧ w'.cell? ⟨(ad'.add (i.toNat * 4)).block, (ad'.add (i.toNat * 4)).off + 3, none⟩ = some (.slice K' x.found.length kc'))) [] 10 ⟨⟨a0, a1, a2, a3⟩, ⟨b0, b1, b2, b3⟩⟩ (fun hS => ?_)
      clear a0 a1 a2 a3 b0 b1 b2 b3 HB
      generalize wr.drew = wd at HC1 HC2 hb hS ⊢
      refine pu 0 1 ?_
      refine pu 1 3 ?_
      refine pu 2 7 ?_
      refine pu 4 23 ?_
      refine pu 5 55 ?_
      refine pu 6 119 ?_
      refine tk 3 127 hS ?_
      refine tk 7 255 hS ?_
      refine on 8 511 (fun K hK => ?_)
      refine ca (eqActed_t x _ _ _ _ _ HC1.out HC2.out) Try.func139 ?_
      rintro e wa ⟨rfl, hba⟩
      refine ⟨_, rfl, nx hK ⟨⟨pw_cell_below hba hS.1.1, pw_cell_below hba hS.1.2.1, pw_cell_below hba hS.1.2.2.1, pw_cell_below hba hS.1.2.2.2⟩, ⟨pw_cell_below hba hS.2.1, pw_cell_below hba hS.2.2.1, pw_cell_below hba hS.2.2.2.1, pw_cell_below hba hS.2.2.2.2⟩⟩ (fun hS => ?_)⟩
      refine pu 9 1023 ?_
      refine dn ?_
      clear hK K hS
      have HB := Aside0.mk (below_then hb hb.size hba)
      clear hba hb HC1 HC2
      go_wp2
      go_roundg (gk - 1)
      case measure => have := HI.out; omega
      case rel => exact ⟨i + 1, rfl, ⟨by have := HI.out; omega, by have := HI.out; omega, by have := HI.out; omega⟩, HB⟩
    · go_wp2
      go_ret
      exact ⟨rfl, HB.out⟩
set_option maxRecDepth 100000 in
set_option maxHeartbeats 4000000 in
theorem toActS_c (A : Option Addr) (c : Nat) (xs : List Ac) (w : World) (hx : rAc.d.C w A xs.length xs) (hm : xs.length ≤ 1048576) (hm2 : ∀ x ∈ xs, x.kept.length ≤ 10000000) :
    Calls Try.prog 89 #[.slice A xs.length c] w (GotRow rAc 38 w xs) := by
  suffices H : ∀ Q : Ending → World → Prop, (∀ e w', GotRow rAc 38 w xs e w' → Q e w') → Calls Try.prog 89 #[.slice A xs.length c] w Q from H _ (fun e w' h => h)
  intro Q hQ
  have HX := Aside0.mk hx; have HM2 := Aside0.mk hm2; have HQ := Aside0.mk hQ; clear hx hm2 hQ
  have O := Aside0.mk (Own.nil w)
  go_enter Try.func89, Try.ntmps89
  go_wp2_with ((with_reducible refine gate_dst (N := 7) rfl ?_); refine Own.mk_row rAc rfl (N := 7) rfl 23 38 _ _ rfl (xs.length : Int) rfl rfl Try.underlying23 (.agg #[.int .i64 0, .int .i64 0, .int .i64 0, .int .i64 0, .int .i64 0, .string { data := #[] }, .slice none 0 0, .int .i64 0, .int .i64 0, .int .i64 0, .int .i64 0, .string { data := #[] }, .int .i64 0, .int .i64 0]) 144 info38 rfl (by decide) (by omega) zAc (fun w => Ac_mk zAc (Rp.Row_nil Rp.bool 4 w)) (by omega) (by omega) O.out ?_; intro g w1 hO; have O1 := Aside0.mk hO; clear hO O)
  have hr0 := O1.out
  simp only [Int.toNat_natCast] at hr0
  rw [← fillTo_zero] at hr0
  have O := Aside0.mk hr0; clear hr0 O1
  go_loopg [4] xs.length (fun m vi wr => ∃ i : Int, vi = .int .i64 i ∧ Aside0 (0 ≤ i ∧ i ≤ xs.length ∧ xs.length - i.toNat ≤ m) ∧ Aside0 (Own w wr [Rs.row rAc 38 (.slice (some ⟨g, 0, none⟩) xs.length xs.length) (fillTo zAc xs i.toNat)]))
  case atStart => exact ⟨0, rfl, ⟨by simp⟩, O⟩
  case round =>
    clear O
    obtain ⟨i, rfl, HI, O⟩ := hrel
    by_cases h1 : i < (xs.length : Int)
    · have h0 : 0 ≤ i := HI.out.1
      obtain ⟨ad, K, kc, e1, a0, a1, a2, a3, a4, a5, a6, a7, a8, a9, a10, a11, a12, a13, _, hC1⟩ := at_Ac (Kd.C_below HX.out O.out.bel) i h0 h1
      cases e1
      have HC1 := Aside0.mk hC1; clear hC1
      have hkl : (gA xs i).kept.length ≤ 10000000 := by rw [gA_eq (by omega)]; exact HM2.out _ (List.getElem_mem _)
      have hset : (fillTo zAc xs i.toNat).set i.toNat (gA xs i) = fillTo zAc xs (i + 1).toNat := by rw [gA_eq (by omega), fillTo_succ _ _ (by omega), show (i + 1).toNat = i.toNat + 1 by omega]
      have hfl : i.toNat < (fillTo zAc xs i.toNat).length := by rw [fillTo_len _ _ _ (by omega)]; omega
      have HSET := Aside0.mk hset; have HFL := Aside0.mk hfl; clear hset hfl
      generalize gA xs i = x at a0 a1 a2 a3 a4 a5 a6 a7 a8 a9 a10 a11 a12 a13 HC1 hkl HSET
      go_wp2_with fail
      refine (toAct_c x _ _ _ HC1.out hkl).mono ?_
      rintro e wa ⟨v, rfl, k⟩
      obtain ⟨Av, cv, rfl, _⟩ := k.f0
      replace O := Aside0.mk (O.out.app1 k); clear k a0 a1 a2 a3 a4 a5 a6 a7 a8 a9 a10 a11 a12 a13
      simp only [vAc]
      replace O := Aside0.mk (O.out.as (R := Rs.cel rAc (cAc x (.slice Av x.kept.length cv)) x) (fun f hf => Ac_mk x hf)).p1
      obtain ⟨g', e', hnn, hc, hz⟩ := O.out.elem HFL.out
      clear hnn
      injection e' with e'
      injection e' with e' _ _
      subst e'
      have hput := O.out.put HFL.out
      rw [HSET.out] at hput
      have hput2 : Own w (setCells wa g (i.toNat * 14) [.int .i64 x.op, .int .i64 x.note.tick, .int .i64 x.note.kind, .int .i64 x.note.who, .int .i64 x.note.n, .string x.note.text, .slice Av x.kept.length cv, .int .i64 x.ask.tick, .int .i64 x.ask.kind, .int .i64 x.ask.who, .int .i64 x.ask.n, .string x.ask.text, .int .i64 x.pos, .int .i64 x.amt]) [Rs.row rAc 38 (.slice (some ⟨g, 0, none⟩) xs.length xs.length) (fillTo zAc xs (i + 1).toNat)] := hput
      simp only [setCells, Nat.add_assoc, Nat.reduceAdd] at hput2
      have HP := Aside0.mk hput2
      clear hput hput2 O HC1
      obtain ⟨u0, c0⟩ := hc 0 (by decide); obtain ⟨u1, c1⟩ := hc 1 (by decide); obtain ⟨u2, c2⟩ := hc 2 (by decide); obtain ⟨u3, c3⟩ := hc 3 (by decide); obtain ⟨u4, c4⟩ := hc 4 (by decide); obtain ⟨u5, c5⟩ := hc 5 (by decide); obtain ⟨u6, c6⟩ := hc 6 (by decide); obtain ⟨u7, c7⟩ := hc 7 (by decide); obtain ⟨u8, c8⟩ := hc 8 (by decide); obtain ⟨u9, c9⟩ := hc 9 (by decide); obtain ⟨u10, c10⟩ := hc 10 (by decide); obtain ⟨u11, c11⟩ := hc 11 (by decide); obtain ⟨u12, c12⟩ := hc 12 (by decide); obtain ⟨u13, c13⟩ := hc 13 (by decide)
      rw [show i.toNat * rAc.d.sz + 0 = i.toNat * 14 from rfl] at c0
      rw [show i.toNat * rAc.d.sz + 1 = i.toNat * 14 + 1 from rfl] at c1; rw [show i.toNat * rAc.d.sz + 2 = i.toNat * 14 + 2 from rfl] at c2; rw [show i.toNat * rAc.d.sz + 3 = i.toNat * 14 + 3 from rfl] at c3; rw [show i.toNat * rAc.d.sz + 4 = i.toNat * 14 + 4 from rfl] at c4; rw [show i.toNat * rAc.d.sz + 5 = i.toNat * 14 + 5 from rfl] at c5; rw [show i.toNat * rAc.d.sz + 6 = i.toNat * 14 + 6 from rfl] at c6; rw [show i.toNat * rAc.d.sz + 7 = i.toNat * 14 + 7 from rfl] at c7; rw [show i.toNat * rAc.d.sz + 8 = i.toNat * 14 + 8 from rfl] at c8; rw [show i.toNat * rAc.d.sz + 9 = i.toNat * 14 + 9 from rfl] at c9; rw [show i.toNat * rAc.d.sz + 10 = i.toNat * 14 + 10 from rfl] at c10; rw [show i.toNat * rAc.d.sz + 11 = i.toNat * 14 + 11 from rfl] at c11; rw [show i.toNat * rAc.d.sz + 12 = i.toNat * 14 + 12 from rfl] at c12; rw [show i.toNat * rAc.d.sz + 13 = i.toNat * 14 + 13 from rfl] at c13
      clear hc
      have z0 := hz (i.toNat * 14); have z1 := hz (i.toNat * 14 + 1); have z2 := hz (i.toNat * 14 + 2); have z3 := hz (i.toNat * 14 + 3); have z4 := hz (i.toNat * 14 + 4); have z5 := hz (i.toNat * 14 + 5); have z6 := hz (i.toNat * 14 + 6); have z7 := hz (i.toNat * 14 + 7); have z8 := hz (i.toNat * 14 + 8); have z9 := hz (i.toNat * 14 + 9); have z10 := hz (i.toNat * 14 + 10); have z11 := hz (i.toNat * 14 + 11); have z12 := hz (i.toNat * 14 + 12); have z13 := hz (i.toNat * 14 + 13)
      clear hz
      go_upto_region 4 with (fail)
      generalize hw : World.setCell _ _ _ = w3 at HP ⊢
      clear hw c0 c1 c2 c3 c4 c5 c6 c7 c8 c9 c10 c11 c12 c13 z0 z1 z2 z3 z4 z5 z6 z7 z8 z9 z10 z11 z12 z13
      go_wp2
      go_roundg (gk - 1)
      case measure => have := HI.out; omega
      case rel => exact ⟨i + 1, rfl, ⟨by have := HI.out; omega, by have := HI.out; omega, by have := HI.out; omega⟩, HP⟩
    · have e1 := fillTo_end zAc xs (i := i.toNat) (by have := HI.out; omega)
      replace O := O.out; rw [e1] at O
      have O := Aside0.mk O
      clear e1
      go_wp2
      obtain ⟨f, hf, hnd, hl2, hc⟩ := O.out.take
      exact HQ.out _ _ ⟨_, rfl, ⟨f, hf, hnd, hl2⟩, O.out.bel⟩
end Go.Proofs.Ytocdlibnmlcokaa
namespace Go.Proofs.Ytocdlibnmlcokaa
open Go.RowKit Go.Proofs.YtocdlibnmlcokaaW.PrintWords Go.Proofs.YtocdlibnmlcokaaW.PrintLast
set_option linter.unusedVariables false
set_option linter.unusedSimpArgs false
section
variable {w0 w : World} {L : List Rs} {e g n c i : Nat}
theorem Own.setI {α : Type} {r : Rp α} {ys : List α} {x : α} (h : Own w0 w (Rs.row r e (.slice (some ⟨g, 0, none⟩) n c) (ys.set i x) :: L)) (hi : i < ys.length) (j : Nat) (hj : j < r.d.sz) (u : Value) (x' : α)
    (hp : ∀ {w : World} {cs : List Value} {f : List Nat}, r.P w x cs f → r.P w x' (cs.set j u) f) :
    Own w0 (w.setCell ⟨g, i * r.d.sz + j, none⟩ u) (Rs.row r e (.slice (some ⟨g, 0, none⟩) n c) (ys.set i x') :: L) := by
  refine h.turn fun f hf hn => ?_
  obtain ⟨cs, f0, hP, hn0, hff, hg, _, _, _, hst⟩ := Rp.Row_elem hf hn i (by rw [List.length_set]; exact hi)
  rw [List.getElem_set_self] at hP
  have hP' : r.P (w.setCell ⟨g, i * r.d.sz + j, none⟩ u) x cs f0 := r.loc hP fun b hb => Below.heap_setCell w _ u b (fun h => (hff b hb).2 h)
  obtain ⟨fp', hr', _, _, he⟩ := hst j u x' f0 hj (hp hP') hn0 (fun b hb => .inl hb) (.inl rfl)
  have he := he rfl
  subst he
  rw [List.set_set] at hr'
  exact ⟨_, hr', hn, fun b hb => .inl hb, (Kp.set _ _ _ _).mono (fun b hb _ => by rw [List.mem_singleton] at hb; subst hb; exact hg)⟩
theorem Own.setI0 {α : Type} {r : Rp α} {ys : List α} {v : Value} (h : Own w0 w (Rs.row r e v ys :: L)) (hi : i < ys.length) {x : α} (hx : ys[i] = x) : Own w0 w (Rs.row r e v (ys.set i x) :: L) := by
  subst hx; rw [List.set_getElem_self]; exact h
theorem Own.elemI {α : Type} {r : Rp α} {ys : List α} {x : α} {A : Option Addr} (h : Own w0 w (Rs.row r e (.slice A n c) (ys.set i x) :: L)) (hi : i < ys.length) :
    ∃ g, A = some ⟨g, 0, none⟩ ∧ n = ys.length ∧ (∀ j, j < r.d.sz → ∃ u, w.cell? ⟨g, i * r.d.sz + j, none⟩ = some u) ∧ ∀ j, w.frozen? ⟨g, j, none⟩ = false := by
  have := h.elem (i := i) (by rw [List.length_set]; exact hi)
  rwa [List.length_set] at this
theorem Ac_hp {x x' : Ac} {j : Nat} {u : Value} (hk : x'.kept = x.kept) (hc : ∀ v, (cAc x v).set j u = cAc x' v) {w : World} {cs : List Value} {f : List Nat} (h : rAc.P w x cs f) : rAc.P w x' (cs.set j u) f := by
  obtain ⟨v, rfl, hr⟩ := Ac_open h
  rw [hc]
  exact Ac_mk x' (by rw [hk]; exact hr)
theorem Ad_hp {x x' : Ad} {j : Nat} {u : Value} (hk : x'.found = x.found) (hc : ∀ v, (cAd x v).set j u = cAd x' v) {w : World} {cs : List Value} {f : List Nat} (h : rAd.P w x cs f) : rAd.P w x' (cs.set j u) f := by
  obtain ⟨v, rfl, hr⟩ := Ad_open h
  rw [hc]
  exact Ad_mk x' (by rw [hk]; exact hr)
theorem Own.innerAc {ys : List Ac} {x : Ac} (h : Own w0 w (Rs.row rAc e (.slice (some ⟨g, 0, none⟩) n c) (ys.set i x) :: L)) (hi : i < ys.length) :
    ∃ (K : Option Addr) (kc : Nat) (f : List Nat), w.cell? ⟨g, i * 14 + 6, none⟩ = some (.slice K x.kept.length kc) ∧ Rp.bool.Row 4 w (.slice K x.kept.length kc) x.kept f ∧ f.Nodup ∧
      ∀ {w' : World} {kl : List Bool}, Rp.bool.Row 4 w' (.slice K x.kept.length kc) kl f → Kp w w' f → Own w0 w' (Rs.row rAc e (.slice (some ⟨g, 0, none⟩) n c) (ys.set i ⟨x.op, x.note, kl, x.ask, x.pos, x.amt⟩) :: L) := by
  obtain ⟨fp, hf, hn, hl, k⟩ := h.take
  obtain ⟨cs, f0, hP, hn0, hff, hg, hcell, _, hup, _⟩ := Rp.Row_elem hf hn i (by rw [List.length_set]; exact hi)
  rw [List.getElem_set_self] at hP
  obtain ⟨v, rfl, hr⟩ := Ac_open hP
  obtain ⟨K, kc, rfl, _, _⟩ := Rp.Row_reads hr
  refine ⟨K, kc, f0, hcell 6 _ rfl, hr, hn0, fun {w'} {kl} hr' hk => ?_⟩
  have := hup w' ⟨x.op, x.note, kl, x.ask, x.pos, x.amt⟩ hk (Ac_mk _ hr')
  rw [List.set_set] at this
  exact k (M := [Rs.row rAc e (.slice (some ⟨g, 0, none⟩) n c) (ys.set i ⟨x.op, x.note, kl, x.ask, x.pos, x.amt⟩)]) ⟨fp, [], by simp, this, rfl⟩ hn (fun b hb => .inl hb) (hk.mono (fun b hb _ => (hff b hb).1))
theorem Own.innerAd {ys : List Ad} {x : Ad} (h : Own w0 w (Rs.row rAd e (.slice (some ⟨g, 0, none⟩) n c) (ys.set i x) :: L)) (hi : i < ys.length) :
    ∃ (K : Option Addr) (kc : Nat) (f : List Nat), w.cell? ⟨g, i * 4 + 3, none⟩ = some (.slice K x.found.length kc) ∧ rI.Row 3 w (.slice K x.found.length kc) x.found f ∧ f.Nodup ∧
      ∀ {w' : World} {fl : List Int}, rI.Row 3 w' (.slice K x.found.length kc) fl f → Kp w w' f → Own w0 w' (Rs.row rAd e (.slice (some ⟨g, 0, none⟩) n c) (ys.set i ⟨x.code, x.notes, x.safe, fl⟩) :: L) := by
  obtain ⟨fp, hf, hn, hl, k⟩ := h.take
  obtain ⟨cs, f0, hP, hn0, hff, hg, hcell, _, hup, _⟩ := Rp.Row_elem hf hn i (by rw [List.length_set]; exact hi)
  rw [List.getElem_set_self] at hP
  obtain ⟨v, rfl, hr⟩ := Ad_open hP
  obtain ⟨K, kc, rfl, _, _⟩ := Rp.Row_reads hr
  refine ⟨K, kc, f0, hcell 3 _ rfl, hr, hn0, fun {w'} {fl} hr' hk => ?_⟩
  have := hup w' ⟨x.code, x.notes, x.safe, fl⟩ hk (Ad_mk _ hr')
  rw [List.set_set] at this
  exact k (M := [Rs.row rAd e (.slice (some ⟨g, 0, none⟩) n c) (ys.set i ⟨x.code, x.notes, x.safe, fl⟩)]) ⟨fp, [], by simp, this, rfl⟩ hn (fun b hb => .inl hb) (hk.mono (fun b hb _ => (hff b hb).1))
end
end Go.Proofs.Ytocdlibnmlcokaa
namespace Go.Proofs.Ytocdlibnmlcokaa
open Go.RowKit Go.Proofs.YtocdlibnmlcokaaW.PrintWords Go.Proofs.YtocdlibnmlcokaaW.PrintLast
set_option linter.unusedVariables false
set_option linter.unusedSimpArgs false
def mkAd (k : Int) (x : Ad) : Ad := ⟨k, k + 1, k + 1 + 1, markL mkI cn1 (k + 1 + 1 + 1) x.found⟩
def cnAd (x : Ad) : Int := 3 + x.found.length
theorem cnAd_nonneg (x : Ad) : 0 ≤ cnAd x := by unfold cnAd; omega
set_option maxRecDepth 100000 in
set_option maxHeartbeats 2000000 in
theorem own_markActedS {w0 w : World} {L : List Rs} {v : Value} {xs : List Ad} (h : Own w0 w (Rs.row rAd 30 v xs :: L)) (k : Int) (h0 : 0 ≤ k) (h1 : k + cntL cnAd xs ≤ 1000000000) :
    Calls Try.prog 93 #[v, .int .i64 k] w (fun e w' => e = .returned (.int .i64 (k + cntL cnAd xs)) ∧ Own w0 w' (Rs.row rAd 30 v (markL mkAd cnAd k xs) :: L)) := by
  suffices H : ∀ Q : Ending → World → Prop, (∀ e w', e = .returned (.int .i64 (k + cntL cnAd xs)) ∧ Own w0 w' (Rs.row rAd 30 v (markL mkAd cnAd k xs) :: L) → Q e w') → Calls Try.prog 93 #[v, .int .i64 k] w Q from H _ (fun e w' h => h)
  intro Q hQ
  obtain ⟨A, c, rfl, _⟩ := h.f0
  have hl : xs.length ≤ 9223372036854775807 := h.c0.2.1
  have O := Aside0.mk h; have HQ := Aside0.mk hQ; have H1 := Aside0.mk h1; clear h hQ h1
  go_enter Try.func93, Try.ntmps93
  go_wp2
  go_loopg [1, 5] (xs.length + 1) (fun m vk vi wr => ∃ (i : Nat) (kc : Int) (ys : List Ad), vi = .int .i64 i ∧ vk = .int .i64 kc ∧ Aside0 (i ≤ xs.length ∧ xs.length + 1 - i ≤ m ∧ kc = k + cntL cnAd (xs.take i) ∧ ys = markTo mkAd cnAd k xs i) ∧ Aside0 (Own w0 wr (Rs.row rAd 30 (.slice A xs.length c) ys :: L)))
  case atStart => exact ⟨0, k, xs, rfl, rfl, ⟨by omega, by omega, by simp [cntL], (markTo_zero _ _).symm⟩, O⟩
  case round =>
    clear O
    obtain ⟨i, kc, ys, rfl, rfl, HI, O⟩ := hrel
    by_cases hi : i < xs.length
    · have hs1 := cntL_succ (cnt := cnAd) xs (i := i) hi
      have hs2 := cntL_le (cnt := cnAd) cnAd_nonneg xs (i + 1)
      have hs3 := cntL_nonneg (cnt := cnAd) cnAd_nonneg (xs.take i)
      have hyl : ys.length = xs.length := by rw [HI.out.2.2.2, markTo_len]
      have hil : i < ys.length := by omega
      obtain ⟨x, hx⟩ : ∃ x, x = xs[i] := ⟨_, rfl⟩
      have hyx : ys[i] = x := by
        have h3 := markTo_get (mk := mkAd) (cnt := cnAd) k xs hi
        have h4 := HI.out.2.2.2
        subst h4
        rw [h3, hx]
      have hns : markTo mkAd cnAd k xs (i + 1) = ys.set i (mkAd kc x) := by
        rw [HI.out.2.2.1, HI.out.2.2.2, hx]; exact (markTo_succ k xs hi).symm
      rw [← hx] at hs1
      have hkc : 0 ≤ kc ∧ kc + 3 + x.found.length ≤ 1000000000 := by have := HI.out; have := H1.out; unfold cnAd at *; omega
      have hkn : kc + 1 + 1 + 1 + (x.found.length : Int) = k + cntL cnAd (xs.take (i + 1)) := by have := HI.out; unfold cnAd at *; omega
      have HNS := Aside0.mk hns; have HKN := Aside0.mk hkn; have HIL := Aside0.mk hil
      replace O := Aside0.mk (O.out.setI0 hil hyx)
      clear hs1 hs2 hs3 hx hyx hns hkn
      obtain ⟨g, e', hnn, hc, hz⟩ := O.out.elemI HIL.out
      subst e'
      clear hnn hyl
      obtain ⟨x0, x1, x2, fl⟩ := x
      simp only at hkc HKN
      have hk0 := hkc.1; have hk1 : kc + 3 ≤ 1000000000 := by omega
      have HKC := Aside0.mk hkc
      clear hkc hil
      obtain ⟨u0, c0⟩ := hc 0 (by decide); rw [show i * rAd.d.sz + 0 = i * 4 from rfl] at c0
      have z0 := hz (i * 4)
      clear hc hz
      go_upto_region 5 with (fail)
      have hO : Own w0 (wr.setCell ⟨g, i * 4, none⟩ (.int .i64 kc)) (Rs.row rAd 30 (.slice (some ⟨g, 0, none⟩) xs.length c) (ys.set i ⟨kc, x1, x2, fl⟩) :: L) := O.out.setI HIL.out 0 (by decide) _ _ (fun hP => by refine Ad_hp ?_ (fun v => ?_) hP <;> rfl)
      generalize hw : World.setCell _ _ _ = w1 at hO ⊢
      replace O := Aside0.mk hO; clear hO hw c0 z0
      obtain ⟨g', e', hnn, hc, hz⟩ := O.out.elemI HIL.out
      injection e' with e'; injection e' with e' _ _; subst e'
      obtain ⟨u1, c1⟩ := hc 1 (by decide); rw [show i * rAd.d.sz + 1 = i * 4 + 1 from rfl] at c1
      have z1 := hz (i * 4 + 1)
      clear hc hz hnn
      go_upto_region 7 with (fail)
      have hO : Own w0 (w1.setCell ⟨g, i * 4 + 1, none⟩ (.int .i64 (kc + 1))) (Rs.row rAd 30 (.slice (some ⟨g, 0, none⟩) xs.length c) (ys.set i ⟨kc, kc + 1, x2, fl⟩) :: L) := O.out.setI HIL.out 1 (by decide) _ _ (fun hP => by refine Ad_hp ?_ (fun v => ?_) hP <;> rfl)
      generalize hw : World.setCell _ _ _ = w2 at hO ⊢
      replace O := Aside0.mk hO; clear hO hw c1 z1
      obtain ⟨g', e', hnn, hc, hz⟩ := O.out.elemI HIL.out
      injection e' with e'; injection e' with e' _ _; subst e'
      obtain ⟨u2, c2⟩ := hc 2 (by decide); rw [show i * rAd.d.sz + 2 = i * 4 + 2 from rfl] at c2
      have z2 := hz (i * 4 + 2)
      clear hc hz hnn
      go_upto_region 9 with (fail)
      have hO : Own w0 (w2.setCell ⟨g, i * 4 + 2, none⟩ (.int .i64 (kc + 1 + 1))) (Rs.row rAd 30 (.slice (some ⟨g, 0, none⟩) xs.length c) (ys.set i ⟨kc, kc + 1, kc + 1 + 1, fl⟩) :: L) := O.out.setI HIL.out 2 (by decide) _ _ (fun hP => by refine Ad_hp ?_ (fun v => ?_) hP <;> rfl)
      generalize hw : World.setCell _ _ _ = w3 at hO ⊢
      replace O := Aside0.mk hO; clear hO hw c2 z2
      obtain ⟨K, fc, f, c3, hr, hnf, hup⟩ := O.out.innerAd HIL.out
      simp only at c3 hr hup
      have HUP : Aside0 (∀ {w' : World} {fl' : List Int}, rI.Row 3 w' (.slice K fl.length fc) fl' f → Kp w3 w' f → Own w0 w' (Rs.row rAd 30 (.slice (some ⟨g, 0, none⟩) xs.length c) (ys.set i ⟨kc, kc + 1, kc + 1 + 1, fl'⟩) :: L)) := ⟨hup⟩
      have HR := Aside0.mk hr; have HNF := Aside0.mk hnf
      clear hup hr hnf
      go_wp2_with fail
      refine (markIntS_c _ fl f (kc + 1 + 1 + 1) _ HR.out HNF.out (by omega) (by have := HKC.out; omega)).mono ?_
      rintro e w4 ⟨rfl, hr4, hk4⟩
      clear O
      have O := Aside0.mk (HUP.out hr4 hk4)
      clear HUP HR HNF hr4 hk4 c3
      rw [HKN.out]
      rw [show (ys.set i ⟨kc, kc + 1, kc + 1 + 1, markL mkI cn1 (kc + 1 + 1 + 1) fl⟩) = markTo mkAd cnAd k xs (i + 1) from HNS.out.symm] at O
      obtain ⟨kn, hkn⟩ : ∃ kn, kn = k + cntL cnAd (xs.take (i + 1)) := ⟨_, rfl⟩
      rw [← hkn]
      have HKN2 := Aside0.mk hkn; clear hkn
      go_wp2
      go_roundg (gk - 1)
      case measure => have := HI.out; omega
      case rel => exact ⟨i + 1, kn, _, by first | rfl | (congr 1; omega), rfl, ⟨by omega, by have := HI.out; omega, HKN2.out, rfl⟩, O⟩
    · have hi2 := HI.out
      have e1 := markTo_end (mk := mkAd) (cnt := cnAd) k xs (i := i) (by omega)
      have e2 : kc = k + cntL cnAd xs := by rw [hi2.2.2.1, List.take_of_length_le (by omega)]
      rw [hi2.2.2.2, e1] at O
      subst e2
      clear e1 hi2
      go_wp2
      exact HQ.out _ _ ⟨rfl, O.out⟩
set_option maxRecDepth 100000 in
set_option maxHeartbeats 2000000 in
theorem heldActedS_c (A : Option Addr) (c : Nat) (xs : List Ad) (k : Int) (w : World) (n : Nat) (hn : xs.length = n) (hx : rAd.d.C w A n (markL mkAd cnAd k xs)) (h0 : 0 ≤ k) (h1 : k + cntL cnAd xs ≤ 1000000000) :
    Calls Try.prog 94 #[.slice A n c, .int .i64 k] w fun e w' => e = .returned (.int .i64 (k + cntL cnAd xs)) ∧ w' = w := by
  subst hn
  have hl : xs.length ≤ 9223372036854775807 := hx.2.1
  have HX := Aside0.mk hx; have H1 := Aside0.mk h1; clear hx h1
  go_enter Try.func94, Try.ntmps94
  go_wp2
  go_loopg [1, 5] xs.length (fun m vk vi wr => ∃ i kc : Int, vi = .int .i64 i ∧ vk = .int .i64 kc ∧ Aside0 (0 ≤ i ∧ i ≤ xs.length ∧ xs.length - i.toNat ≤ m ∧ kc = k + cntL cnAd (xs.take i.toNat)) ∧ wr = w)
  case atStart => exact ⟨0, k, rfl, rfl, ⟨by simp [cntL]⟩, rfl⟩
  case round =>
    obtain ⟨i, kc, rfl, rfl, HI, rfl⟩ := hrel
    by_cases hlt : i < (xs.length : Int)
    · have hi0 : 0 ≤ i := HI.out.1
      have hs1 := cntL_succ (cnt := cnAd) xs (i := i.toNat) (by omega)
      have hs2 := cntL_le (cnt := cnAd) cnAd_nonneg xs (i.toNat + 1)
      have hs3 := cntL_nonneg (cnt := cnAd) cnAd_nonneg (xs.take i.toNat)
      have hkc : 0 ≤ kc ∧ kc + 1 + 1 + 1 + (xs[i.toNat]'(by omega)).found.length ≤ 1000000000 := by have := HI.out; have := H1.out; unfold cnAd at *; omega
      have hs1 := Aside0.mk hs1
      clear hs2 hs3
      obtain ⟨ad, K, fc, hA, c0, c1, c2, c3, _, hC⟩ := at_Ad HX.out i hi0 hlt
      cases hA
      have hkk := HI.out.2.2.2
      rw [gD_eq (by rw [markL_len]; omega), markL_get k xs (by omega), ← hkk] at c0 c1 c2 c3 hC
      generalize hxi : xs[i.toNat]'(by omega) = xi at c0 c1 c2 c3 hC hkc hs1
      simp only [mkAd] at c0 c1 c2 c3 hC
      have hlx : xi.found.length = (markL mkI cn1 (kc + 1 + 1 + 1) xi.found).length := by rw [markL_len]
      generalize (markL mkI cn1 (kc + 1 + 1 + 1) xi.found).length = nn at c3 hC hlx
      have Hxi := Aside0.mk hxi; have HC := Aside0.mk hC; have HL := Aside0.mk hlx; have hk0 := hkc.1; have HKC := Aside0.mk hkc; have hpos : 0 ≤ kc + 1 + 1 + 1 + (xi.found.length : Int) := by omega
      have hk1 : kc + 3 ≤ 1000000000 := by omega
      clear hxi hC hlx hkk hkc
      go_wp2_with (go_at_call 49; refine (heldIntS_c _ _ xi.found (kc + 1 + 1 + 1) _ nn HL.out HC.out (by omega) HKC.out.2).mono ?_; rintro e w1 ⟨rfl, rfl⟩)
      go_roundg (gk - 1)
      case measure => have := HI.out; omega
      case rel =>
        have hi := HI.out; have hs := hs1.out; have hx := Hxi.out
        refine ⟨i + 1, _, rfl, rfl, ⟨by omega, by omega, by omega, ?_⟩, rfl⟩
        rw [show (i + 1).toNat = i.toNat + 1 by omega, hs]; unfold cnAd at *; omega
    · have hi := HI.out
      have e2 : kc = k + cntL cnAd xs := by rw [hi.2.2.2, List.take_of_length_le (by omega)]
      subst e2
      clear hi
      go_wp2
      go_ret
      exact ⟨rfl, rfl⟩
end Go.Proofs.Ytocdlibnmlcokaa
namespace Go.Proofs.Ytocdlibnmlcokaa
open Go.RowKit Go.Proofs.YtocdlibnmlcokaaW.PrintWords Go.Proofs.YtocdlibnmlcokaaW.PrintLast
set_option linter.unusedVariables false
set_option linter.unusedSimpArgs false
def mA (k : Int) (x : Ac) : Int := k + 1 + 1 + 1 + 1 + 1 + 1 + x.kept.length
def mkAc (k : Int) (x : Ac) : Ac := ⟨k, ⟨k + 1, k + 1 + 1, k + 1 + 1 + 1, k + 1 + 1 + 1 + 1, mtx (k + 1 + 1 + 1 + 1 + 1)⟩, markL mkO cn1 (k + 1 + 1 + 1 + 1 + 1 + 1) x.kept, ⟨mA k x, mA k x + 1, mA k x + 1 + 1, mA k x + 1 + 1 + 1, mtx (mA k x + 1 + 1 + 1 + 1)⟩, mA k x + 1 + 1 + 1 + 1 + 1, mA k x + 1 + 1 + 1 + 1 + 1 + 1⟩
def cnAc (x : Ac) : Int := 13 + x.kept.length
theorem cnAc_nonneg (x : Ac) : 0 ≤ cnAc x := by unfold cnAc; omega
set_option maxRecDepth 100000 in
set_option maxHeartbeats 8000000 in
theorem own_markActS {w0 w : World} {L : List Rs} {v : Value} {xs : List Ac} (h : Own w0 w (Rs.row rAc 38 v xs :: L)) (k : Int) (h0 : 0 ≤ k) (h1 : k + cntL cnAc xs ≤ 1000000000) :
    Calls Try.prog 92 #[v, .int .i64 k] w (fun e w' => e = .returned (.int .i64 (k + cntL cnAc xs)) ∧ Own w0 w' (Rs.row rAc 38 v (markL mkAc cnAc k xs) :: L)) := by
  suffices H : ∀ Q : Ending → World → Prop, (∀ e w', e = .returned (.int .i64 (k + cntL cnAc xs)) ∧ Own w0 w' (Rs.row rAc 38 v (markL mkAc cnAc k xs) :: L) → Q e w') → Calls Try.prog 92 #[v, .int .i64 k] w Q from H _ (fun e w' h => h)
  intro Q hQ
  obtain ⟨A, c, rfl, _⟩ := h.f0
  have hl : xs.length ≤ 9223372036854775807 := h.c0.2.1
  have O := Aside0.mk h; have HQ := Aside0.mk hQ; have H1 := Aside0.mk h1; clear h hQ h1
  go_enter Try.func92, Try.ntmps92
  go_wp2
  go_loopg [1, 5] (xs.length + 1) (fun m vk vi wr => ∃ (i : Nat) (kc : Int) (ys : List Ac), vi = .int .i64 i ∧ vk = .int .i64 kc ∧ Aside0 (i ≤ xs.length ∧ xs.length + 1 - i ≤ m ∧ kc = k + cntL cnAc (xs.take i) ∧ ys = markTo mkAc cnAc k xs i) ∧ Aside0 (Own w0 wr (Rs.row rAc 38 (.slice A xs.length c) ys :: L)))
  case atStart => exact ⟨0, k, xs, rfl, rfl, ⟨by omega, by omega, by simp [cntL], (markTo_zero _ _).symm⟩, O⟩
  case round =>
    clear O
    obtain ⟨i, kc, ys, rfl, rfl, HI, O⟩ := hrel
    by_cases hi : i < xs.length
    · have hs1 := cntL_succ (cnt := cnAc) xs (i := i) hi
      have hs2 := cntL_le (cnt := cnAc) cnAc_nonneg xs (i + 1)
      have hs3 := cntL_nonneg (cnt := cnAc) cnAc_nonneg (xs.take i)
      have hyl : ys.length = xs.length := by rw [HI.out.2.2.2, markTo_len]
      have hil : i < ys.length := by omega
      obtain ⟨x, hx⟩ : ∃ x, x = xs[i] := ⟨_, rfl⟩
      have hyx : ys[i] = x := by
        have h3 := markTo_get (mk := mkAc) (cnt := cnAc) k xs hi
        have h4 := HI.out.2.2.2
        subst h4
        rw [h3, hx]
      have hns : markTo mkAc cnAc k xs (i + 1) = ys.set i (mkAc kc x) := by
        rw [HI.out.2.2.1, HI.out.2.2.2, hx]; exact (markTo_succ k xs hi).symm
      rw [← hx] at hs1
      have hkc : 0 ≤ kc ∧ kc + 13 + x.kept.length ≤ 1000000000 := by have := HI.out; have := H1.out; unfold cnAc at *; omega
      obtain ⟨mm, hmm⟩ : ∃ mm, mm = kc + 1 + 1 + 1 + 1 + 1 + 1 + (x.kept.length : Int) := ⟨_, rfl⟩
      have hkn : mm + 1 + 1 + 1 + 1 + 1 + 1 + 1 = k + cntL cnAc (xs.take (i + 1)) := by have := HI.out; unfold cnAc at *; omega
      have HNS := Aside0.mk hns; have HKN := Aside0.mk hkn; have HIL := Aside0.mk hil
      replace O := Aside0.mk (O.out.setI0 hil hyx)
      clear hs1 hs2 hs3 hx hyx hns hkn
      obtain ⟨g, e', hnn, _, _⟩ := O.out.elemI HIL.out
      subst e'
      clear hnn hyl
      obtain ⟨x0, ⟨n0, n1, n2, n3, n4⟩, kl, ⟨a0, a1, a2, a3, a4⟩, p, q⟩ := x
      simp only [mkAc, mA] at hkc hmm HNS
      rw [← hmm] at HNS
      have hk0 := hkc.1; have hk1 : kc + 13 ≤ 1000000000 := by omega
      have hm0 : 0 ≤ mm ∧ mm + 7 ≤ 1000000000 := by omega
      have HKC := Aside0.mk hkc; have HMM := Aside0.mk hmm
      clear hkc hil hmm
      obtain ⟨g', e', hnn, hc, hz⟩ := O.out.elemI HIL.out
      injection e' with e'; injection e' with e' _ _; subst e'
      obtain ⟨u0, c0⟩ := hc 0 (by decide); rw [show i * rAc.d.sz + 0 = i * 14 from rfl] at c0
      have z0 := hz (i * 14)
      clear hc hz hnn
      go_upto_region 5 with (fail)
      have hO : Own w0 (wr.setCell ⟨g, i * 14, none⟩ (.int .i64 (kc))) (Rs.row rAc 38 (.slice (some ⟨g, 0, none⟩) xs.length c) (ys.set i ⟨kc, ⟨n0, n1, n2, n3, n4⟩, kl, ⟨a0, a1, a2, a3, a4⟩, p, q⟩) :: L) := O.out.setI HIL.out 0 (by decide) _ _ (fun hP => by refine Ac_hp ?_ (fun v => ?_) hP <;> rfl)
      generalize hw : World.setCell _ _ _ = w1_ at hO ⊢
      replace O := Aside0.mk hO; clear hO hw c0 z0
      obtain ⟨g', e', hnn, hc, hz⟩ := O.out.elemI HIL.out
      injection e' with e'; injection e' with e' _ _; subst e'
      obtain ⟨u1, c1⟩ := hc 1 (by decide); rw [show i * rAc.d.sz + 1 = i * 14 + 1 from rfl] at c1
      have z1 := hz (i * 14 + 1)
      clear hc hz hnn
      go_upto_region 7 with (fail)
      have hO : Own w0 (w1_.setCell ⟨g, i * 14 + 1, none⟩ (.int .i64 (kc + 1))) (Rs.row rAc 38 (.slice (some ⟨g, 0, none⟩) xs.length c) (ys.set i ⟨kc, ⟨kc + 1, n1, n2, n3, n4⟩, kl, ⟨a0, a1, a2, a3, a4⟩, p, q⟩) :: L) := O.out.setI HIL.out 1 (by decide) _ _ (fun hP => by refine Ac_hp ?_ (fun v => ?_) hP <;> rfl)
      generalize hw : World.setCell _ _ _ = w2_ at hO ⊢
      replace O := Aside0.mk hO; clear hO hw c1 z1
      obtain ⟨g', e', hnn, hc, hz⟩ := O.out.elemI HIL.out
      injection e' with e'; injection e' with e' _ _; subst e'
      obtain ⟨u2, c2⟩ := hc 2 (by decide); rw [show i * rAc.d.sz + 2 = i * 14 + 2 from rfl] at c2
      have z2 := hz (i * 14 + 2)
      clear hc hz hnn
      go_upto_region 9 with (fail)
      have hO : Own w0 (w2_.setCell ⟨g, i * 14 + 2, none⟩ (.int .i64 (kc + 1 + 1))) (Rs.row rAc 38 (.slice (some ⟨g, 0, none⟩) xs.length c) (ys.set i ⟨kc, ⟨kc + 1, kc + 1 + 1, n2, n3, n4⟩, kl, ⟨a0, a1, a2, a3, a4⟩, p, q⟩) :: L) := O.out.setI HIL.out 2 (by decide) _ _ (fun hP => by refine Ac_hp ?_ (fun v => ?_) hP <;> rfl)
      generalize hw : World.setCell _ _ _ = w3_ at hO ⊢
      replace O := Aside0.mk hO; clear hO hw c2 z2
      obtain ⟨g', e', hnn, hc, hz⟩ := O.out.elemI HIL.out
      injection e' with e'; injection e' with e' _ _; subst e'
      obtain ⟨u3, c3⟩ := hc 3 (by decide); rw [show i * rAc.d.sz + 3 = i * 14 + 3 from rfl] at c3
      have z3 := hz (i * 14 + 3)
      clear hc hz hnn
      go_upto_region 11 with (fail)
      have hO : Own w0 (w3_.setCell ⟨g, i * 14 + 3, none⟩ (.int .i64 (kc + 1 + 1 + 1))) (Rs.row rAc 38 (.slice (some ⟨g, 0, none⟩) xs.length c) (ys.set i ⟨kc, ⟨kc + 1, kc + 1 + 1, kc + 1 + 1 + 1, n3, n4⟩, kl, ⟨a0, a1, a2, a3, a4⟩, p, q⟩) :: L) := O.out.setI HIL.out 3 (by decide) _ _ (fun hP => by refine Ac_hp ?_ (fun v => ?_) hP <;> rfl)
      generalize hw : World.setCell _ _ _ = w4_ at hO ⊢
      replace O := Aside0.mk hO; clear hO hw c3 z3
      obtain ⟨g', e', hnn, hc, hz⟩ := O.out.elemI HIL.out
      injection e' with e'; injection e' with e' _ _; subst e'
      obtain ⟨u4, c4⟩ := hc 4 (by decide); rw [show i * rAc.d.sz + 4 = i * 14 + 4 from rfl] at c4
      have z4 := hz (i * 14 + 4)
      clear hc hz hnn
      go_upto_region 13 with (fail)
      have hO : Own w0 (w4_.setCell ⟨g, i * 14 + 4, none⟩ (.int .i64 (kc + 1 + 1 + 1 + 1))) (Rs.row rAc 38 (.slice (some ⟨g, 0, none⟩) xs.length c) (ys.set i ⟨kc, ⟨kc + 1, kc + 1 + 1, kc + 1 + 1 + 1, kc + 1 + 1 + 1 + 1, n4⟩, kl, ⟨a0, a1, a2, a3, a4⟩, p, q⟩) :: L) := O.out.setI HIL.out 4 (by decide) _ _ (fun hP => by refine Ac_hp ?_ (fun v => ?_) hP <;> rfl)
      generalize hw : World.setCell _ _ _ = w5_ at hO ⊢
      replace O := Aside0.mk hO; clear hO hw c4 z4
      go_wp2_with fail
      refine (markText_m (kc + 1 + 1 + 1 + 1 + 1) _ (by omega) (by omega)).mono ?_
      rintro e w6_ ⟨rfl, hb⟩
      replace O := Aside0.mk (O.out.below hb); clear hb
      obtain ⟨g', e', hnn, hc, hz⟩ := O.out.elemI HIL.out
      injection e' with e'; injection e' with e' _ _; subst e'
      obtain ⟨u5, c5⟩ := hc 5 (by decide); rw [show i * rAc.d.sz + 5 = i * 14 + 5 from rfl] at c5
      have z5 := hz (i * 14 + 5)
      clear hc hz hnn
      go_upto_region 15 with (fail)
      have hO : Own w0 (w6_.setCell ⟨g, i * 14 + 5, none⟩ (.string (mtx (kc + 1 + 1 + 1 + 1 + 1)))) (Rs.row rAc 38 (.slice (some ⟨g, 0, none⟩) xs.length c) (ys.set i ⟨kc, ⟨kc + 1, kc + 1 + 1, kc + 1 + 1 + 1, kc + 1 + 1 + 1 + 1, mtx (kc + 1 + 1 + 1 + 1 + 1)⟩, kl, ⟨a0, a1, a2, a3, a4⟩, p, q⟩) :: L) := O.out.setI HIL.out 5 (by decide) _ _ (fun hP => by refine Ac_hp ?_ (fun v => ?_) hP <;> rfl)
      generalize hw : World.setCell _ _ _ = w7_ at hO ⊢
      replace O := Aside0.mk hO; clear hO hw c5 z5
      obtain ⟨K6, c6_, f6, c6, hr, hnf, hup⟩ := O.out.innerAc HIL.out
      simp only at c6 hr hup
      have HUP : Aside0 (∀ {w' : World} {kl' : List Bool}, Rp.bool.Row 4 w' (.slice K6 kl.length c6_) kl' f6 → Kp w7_ w' f6 → Own w0 w' (Rs.row rAc 38 (.slice (some ⟨g, 0, none⟩) xs.length c) (ys.set i ⟨kc, ⟨kc + 1, kc + 1 + 1, kc + 1 + 1 + 1, kc + 1 + 1 + 1 + 1, mtx (kc + 1 + 1 + 1 + 1 + 1)⟩, kl', ⟨a0, a1, a2, a3, a4⟩, p, q⟩) :: L)) := ⟨hup⟩
      have HR := Aside0.mk hr; have HNF := Aside0.mk hnf
      clear hup hr hnf
      go_wp2_with fail
      refine (markBoolS_c _ kl f6 (kc + 1 + 1 + 1 + 1 + 1 + 1) _ HR.out HNF.out (by omega) (by have := HKC.out; omega)).mono ?_
      rintro e w8_ ⟨rfl, hr4, hk4⟩
      clear O
      have O := Aside0.mk (HUP.out hr4 hk4)
      clear HUP HR HNF hr4 hk4 c6
      rw [← HMM.out]
      obtain ⟨g', e', hnn, hc, hz⟩ := O.out.elemI HIL.out
      injection e' with e'; injection e' with e' _ _; subst e'
      obtain ⟨u7, c7⟩ := hc 7 (by decide); rw [show i * rAc.d.sz + 7 = i * 14 + 7 from rfl] at c7
      have z7 := hz (i * 14 + 7)
      clear hc hz hnn
      go_upto_region 18 with (fail)
      have hO : Own w0 (w8_.setCell ⟨g, i * 14 + 7, none⟩ (.int .i64 (mm))) (Rs.row rAc 38 (.slice (some ⟨g, 0, none⟩) xs.length c) (ys.set i ⟨kc, ⟨kc + 1, kc + 1 + 1, kc + 1 + 1 + 1, kc + 1 + 1 + 1 + 1, mtx (kc + 1 + 1 + 1 + 1 + 1)⟩, markL mkO cn1 (kc + 1 + 1 + 1 + 1 + 1 + 1) kl, ⟨mm, a1, a2, a3, a4⟩, p, q⟩) :: L) := O.out.setI HIL.out 7 (by decide) _ _ (fun hP => by refine Ac_hp ?_ (fun v => ?_) hP <;> rfl)
      generalize hw : World.setCell _ _ _ = w9_ at hO ⊢
      replace O := Aside0.mk hO; clear hO hw c7 z7
      obtain ⟨g', e', hnn, hc, hz⟩ := O.out.elemI HIL.out
      injection e' with e'; injection e' with e' _ _; subst e'
      obtain ⟨u8, c8⟩ := hc 8 (by decide); rw [show i * rAc.d.sz + 8 = i * 14 + 8 from rfl] at c8
      have z8 := hz (i * 14 + 8)
      clear hc hz hnn
      go_upto_region 20 with (fail)
      have hO : Own w0 (w9_.setCell ⟨g, i * 14 + 8, none⟩ (.int .i64 (mm + 1))) (Rs.row rAc 38 (.slice (some ⟨g, 0, none⟩) xs.length c) (ys.set i ⟨kc, ⟨kc + 1, kc + 1 + 1, kc + 1 + 1 + 1, kc + 1 + 1 + 1 + 1, mtx (kc + 1 + 1 + 1 + 1 + 1)⟩, markL mkO cn1 (kc + 1 + 1 + 1 + 1 + 1 + 1) kl, ⟨mm, mm + 1, a2, a3, a4⟩, p, q⟩) :: L) := O.out.setI HIL.out 8 (by decide) _ _ (fun hP => by refine Ac_hp ?_ (fun v => ?_) hP <;> rfl)
      generalize hw : World.setCell _ _ _ = w10_ at hO ⊢
      replace O := Aside0.mk hO; clear hO hw c8 z8
      obtain ⟨g', e', hnn, hc, hz⟩ := O.out.elemI HIL.out
      injection e' with e'; injection e' with e' _ _; subst e'
      obtain ⟨u9, c9⟩ := hc 9 (by decide); rw [show i * rAc.d.sz + 9 = i * 14 + 9 from rfl] at c9
      have z9 := hz (i * 14 + 9)
      clear hc hz hnn
      go_upto_region 22 with (fail)
      have hO : Own w0 (w10_.setCell ⟨g, i * 14 + 9, none⟩ (.int .i64 (mm + 1 + 1))) (Rs.row rAc 38 (.slice (some ⟨g, 0, none⟩) xs.length c) (ys.set i ⟨kc, ⟨kc + 1, kc + 1 + 1, kc + 1 + 1 + 1, kc + 1 + 1 + 1 + 1, mtx (kc + 1 + 1 + 1 + 1 + 1)⟩, markL mkO cn1 (kc + 1 + 1 + 1 + 1 + 1 + 1) kl, ⟨mm, mm + 1, mm + 1 + 1, a3, a4⟩, p, q⟩) :: L) := O.out.setI HIL.out 9 (by decide) _ _ (fun hP => by refine Ac_hp ?_ (fun v => ?_) hP <;> rfl)
      generalize hw : World.setCell _ _ _ = w11_ at hO ⊢
      replace O := Aside0.mk hO; clear hO hw c9 z9
      obtain ⟨g', e', hnn, hc, hz⟩ := O.out.elemI HIL.out
      injection e' with e'; injection e' with e' _ _; subst e'
      obtain ⟨u10, c10⟩ := hc 10 (by decide); rw [show i * rAc.d.sz + 10 = i * 14 + 10 from rfl] at c10
      have z10 := hz (i * 14 + 10)
      clear hc hz hnn
      go_upto_region 24 with (fail)
      have hO : Own w0 (w11_.setCell ⟨g, i * 14 + 10, none⟩ (.int .i64 (mm + 1 + 1 + 1))) (Rs.row rAc 38 (.slice (some ⟨g, 0, none⟩) xs.length c) (ys.set i ⟨kc, ⟨kc + 1, kc + 1 + 1, kc + 1 + 1 + 1, kc + 1 + 1 + 1 + 1, mtx (kc + 1 + 1 + 1 + 1 + 1)⟩, markL mkO cn1 (kc + 1 + 1 + 1 + 1 + 1 + 1) kl, ⟨mm, mm + 1, mm + 1 + 1, mm + 1 + 1 + 1, a4⟩, p, q⟩) :: L) := O.out.setI HIL.out 10 (by decide) _ _ (fun hP => by refine Ac_hp ?_ (fun v => ?_) hP <;> rfl)
      generalize hw : World.setCell _ _ _ = w12_ at hO ⊢
      replace O := Aside0.mk hO; clear hO hw c10 z10
      go_wp2_with fail
      refine (markText_m (mm + 1 + 1 + 1 + 1) _ (by omega) (by omega)).mono ?_
      rintro e w13_ ⟨rfl, hb⟩
      replace O := Aside0.mk (O.out.below hb); clear hb
      obtain ⟨g', e', hnn, hc, hz⟩ := O.out.elemI HIL.out
      injection e' with e'; injection e' with e' _ _; subst e'
      obtain ⟨u11, c11⟩ := hc 11 (by decide); rw [show i * rAc.d.sz + 11 = i * 14 + 11 from rfl] at c11
      have z11 := hz (i * 14 + 11)
      clear hc hz hnn
      go_upto_region 26 with (fail)
      have hO : Own w0 (w13_.setCell ⟨g, i * 14 + 11, none⟩ (.string (mtx (mm + 1 + 1 + 1 + 1)))) (Rs.row rAc 38 (.slice (some ⟨g, 0, none⟩) xs.length c) (ys.set i ⟨kc, ⟨kc + 1, kc + 1 + 1, kc + 1 + 1 + 1, kc + 1 + 1 + 1 + 1, mtx (kc + 1 + 1 + 1 + 1 + 1)⟩, markL mkO cn1 (kc + 1 + 1 + 1 + 1 + 1 + 1) kl, ⟨mm, mm + 1, mm + 1 + 1, mm + 1 + 1 + 1, mtx (mm + 1 + 1 + 1 + 1)⟩, p, q⟩) :: L) := O.out.setI HIL.out 11 (by decide) _ _ (fun hP => by refine Ac_hp ?_ (fun v => ?_) hP <;> rfl)
      generalize hw : World.setCell _ _ _ = w14_ at hO ⊢
      replace O := Aside0.mk hO; clear hO hw c11 z11
      obtain ⟨g', e', hnn, hc, hz⟩ := O.out.elemI HIL.out
      injection e' with e'; injection e' with e' _ _; subst e'
      obtain ⟨u12, c12⟩ := hc 12 (by decide); rw [show i * rAc.d.sz + 12 = i * 14 + 12 from rfl] at c12
      have z12 := hz (i * 14 + 12)
      clear hc hz hnn
      go_upto_region 28 with (fail)
      have hO : Own w0 (w14_.setCell ⟨g, i * 14 + 12, none⟩ (.int .i64 (mm + 1 + 1 + 1 + 1 + 1))) (Rs.row rAc 38 (.slice (some ⟨g, 0, none⟩) xs.length c) (ys.set i ⟨kc, ⟨kc + 1, kc + 1 + 1, kc + 1 + 1 + 1, kc + 1 + 1 + 1 + 1, mtx (kc + 1 + 1 + 1 + 1 + 1)⟩, markL mkO cn1 (kc + 1 + 1 + 1 + 1 + 1 + 1) kl, ⟨mm, mm + 1, mm + 1 + 1, mm + 1 + 1 + 1, mtx (mm + 1 + 1 + 1 + 1)⟩, mm + 1 + 1 + 1 + 1 + 1, q⟩) :: L) := O.out.setI HIL.out 12 (by decide) _ _ (fun hP => by refine Ac_hp ?_ (fun v => ?_) hP <;> rfl)
      generalize hw : World.setCell _ _ _ = w15_ at hO ⊢
      replace O := Aside0.mk hO; clear hO hw c12 z12
      obtain ⟨g', e', hnn, hc, hz⟩ := O.out.elemI HIL.out
      injection e' with e'; injection e' with e' _ _; subst e'
      obtain ⟨u13, c13⟩ := hc 13 (by decide); rw [show i * rAc.d.sz + 13 = i * 14 + 13 from rfl] at c13
      have z13 := hz (i * 14 + 13)
      clear hc hz hnn
      go_upto_region 30 with (fail)
      have hO : Own w0 (w15_.setCell ⟨g, i * 14 + 13, none⟩ (.int .i64 (mm + 1 + 1 + 1 + 1 + 1 + 1))) (Rs.row rAc 38 (.slice (some ⟨g, 0, none⟩) xs.length c) (ys.set i ⟨kc, ⟨kc + 1, kc + 1 + 1, kc + 1 + 1 + 1, kc + 1 + 1 + 1 + 1, mtx (kc + 1 + 1 + 1 + 1 + 1)⟩, markL mkO cn1 (kc + 1 + 1 + 1 + 1 + 1 + 1) kl, ⟨mm, mm + 1, mm + 1 + 1, mm + 1 + 1 + 1, mtx (mm + 1 + 1 + 1 + 1)⟩, mm + 1 + 1 + 1 + 1 + 1, mm + 1 + 1 + 1 + 1 + 1 + 1⟩) :: L) := O.out.setI HIL.out 13 (by decide) _ _ (fun hP => by refine Ac_hp ?_ (fun v => ?_) hP <;> rfl)
      generalize hw : World.setCell _ _ _ = w16_ at hO ⊢
      replace O := Aside0.mk hO; clear hO hw c13 z13
      obtain ⟨kn, hkn⟩ : ∃ kn, kn = k + cntL cnAc (xs.take (i + 1)) := ⟨_, rfl⟩
      have HKN2 : Aside0 (mm + 1 + 1 + 1 + 1 + 1 + 1 + 1 = kn) := ⟨by rw [HKN.out, hkn]⟩
      have HKN3 := Aside0.mk hkn; clear hkn
      rw [← HNS.out] at O
      go_wp2
      go_roundg (gk - 1)
      case measure => have := HI.out; omega
      case rel => exact ⟨i + 1, kn, _, by first | rfl | (congr 1; omega), by rw [← HKN2.out], ⟨by omega, by have := HI.out; omega, HKN3.out, rfl⟩, O⟩
    · have hi2 := HI.out
      have e1 := markTo_end (mk := mkAc) (cnt := cnAc) k xs (i := i) (by omega)
      have e2 : kc = k + cntL cnAc xs := by rw [hi2.2.2.1, List.take_of_length_le (by omega)]
      rw [hi2.2.2.2, e1] at O
      subst e2
      clear e1 hi2
      go_wp2
      exact HQ.out _ _ ⟨rfl, O.out⟩
end Go.Proofs.Ytocdlibnmlcokaa
namespace Go.Proofs.Ytocdlibnmlcokaa
open Go.RowKit Go.Proofs.YtocdlibnmlcokaaW.PrintWords Go.Proofs.YtocdlibnmlcokaaW.PrintLast
set_option linter.unusedVariables false
set_option linter.unusedSimpArgs false
set_option maxHeartbeats 16000000 in
set_option maxRecDepth 100000 in
theorem specFind_c (A : Option Addr) (c : Nat) (xs : List Nt) (a : Nt) (w : World) (hx : rN.d.C w A xs.length xs) (ht : ∀ x ∈ xs, x.text.size < 4294967281) (ha : a.text.size < 4294967281) (hl : xs.length ≤ 1048576) :
    Calls Try.prog 34 #[.slice A xs.length c, vN a] w (GotRow rI 3 w (findL a xs)) := by
  suffices H : ∀ Q : Ending → World → Prop, (∀ e w', GotRow rI 3 w (findL a xs) e w' → Q e w') → Calls Try.prog 34 #[.slice A xs.length c, vN a] w Q from H _ (fun e w' h => h)
  intro Q hQ
  have HX := Aside0.mk hx; have HT := Aside0.mk ht; have HQ := Aside0.mk hQ; clear hx ht hQ
  obtain ⟨tick, kind, who, n, text⟩ := a
  simp only [vN] at *
  go_enter Try.func34, Try.ntmps34
  go_upto_region 1 with (fail)
  generalize hw : w.alloc _ = w1
  have O := Aside0.mk ((Own.nil w).of hw); clear hw
  go_upto_region 2 with (fail)
  replace O := Aside0.mk (O.out.nilRow rI 3)
  go_wp2
  go_loopg [5, 10] xs.length (fun m vr vi wr => ∃ i : Nat, vi = .int .i64 i ∧ Aside0 (i ≤ xs.length ∧ xs.length - i ≤ m) ∧ Aside0 (Own w wr [Rs.row rI 3 vr (findTo ⟨tick, kind, who, n, text⟩ xs i), Rs.box w.heap.size 36 #[.int .i64 tick, .int .i64 kind, .int .i64 who, .int .i64 n, .string text]]))
  case atStart => exact ⟨0, rfl, ⟨by simp⟩, O⟩
  case round =>
    clear O
    obtain ⟨i, rfl, HI, O⟩ := hrel
    by_cases hi : i < xs.length
    · obtain ⟨ad, e1, a0, a1, a2, a3, a4⟩ := at_N (Kd.C_below HX.out O.out.bel) (i : Int) (by omega) (by omega)
      cases e1
      simp only [Int.toNat_natCast] at a0 a1 a2 a3 a4
      have htx : (gN xs i).text.size < 4294967281 := by rw [gN_eq (by omega)]; exact HT.out _ (List.getElem_mem _)
      obtain ⟨x, hxe⟩ : ∃ x, x = gN xs i := ⟨_, rfl⟩
      rw [← hxe] at a0 a1 a2 a3 a4 htx
      have HXE := Aside0.mk hxe; clear hxe
      go_upto_region 5 with (fail)
      generalize hw : wr.alloc _ = w2
      replace O := Aside0.mk (O.out.of hw); clear hw
      generalize wr.heap.size = g2 at O ⊢
      have b0 := (blk_cell O.out.b0 0).trans rfl; have b1 := (blk_cell O.out.b0 1).trans rfl; have b2 := (blk_cell O.out.b0 2).trans rfl; have b3 := (blk_cell O.out.b0 3).trans rfl; have b4 := (blk_cell O.out.b0 4).trans rfl
      have c0 := (blk_cell O.out.b2 0).trans rfl; have c1 := (blk_cell O.out.b2 1).trans rfl; have c2 := (blk_cell O.out.b2 2).trans rfl; have c3 := (blk_cell O.out.b2 3).trans rfl; have c4 := (blk_cell O.out.b2 4).trans rfl
      by_cases h1 : tick ≤ x.tick
      · by_cases h2 : x.tick ≤ kind
        · have H1 := Aside0.mk h1; have H2 := Aside0.mk h2
          by_cases h3 : who = -1
          · have HWH : Aside0 (who = -1 ∨ who = x.kind) := ⟨.inl h3⟩
            obtain ⟨E3, _⟩ := eqT h3; clear h3
            by_cases h5 : n = -1
            · have HNN : Aside0 (n = -1 ∨ n = x.who) := ⟨.inl h5⟩
              obtain ⟨E5, _⟩ := eqT h5; clear h5
              go_wp2_with fail
              refine (l4has_c _ _ _ htx ha).mono ?_
              rintro e w3 ⟨rfl, rfl⟩
              generalize hb : hasB x.text text = b
              have HBQ := Aside0.mk hb; clear hb
              cases b with
              | true =>
                have HFY : Aside0 (fits ⟨tick, kind, who, n, text⟩ x = true) := ⟨fits_b (x := x) H1.out H2.out HWH.out HNN.out HBQ.out⟩
                clear a0 a1 a2 a3 a4 b0 b1 b2 b3 b4 c0 c1 c2 c3 c4
                replace O := Aside0.mk (O.out.p1.cel0 (r := rI) (cs := [.int .i64 i]) (x := (i : Int)) ⟨rfl, rfl⟩).p1
                go_upto_region 7 with (at_builtin; go_loud (refine Own.app_one rI rfl (.tmp 58) (.tmp 60) 28 3 (.int .i64 0) 8 rfl Try.underlying28 info3 rfl (by decide) (by decide) _ _ (i : Int) _ rfl rfl O.out (Nat.le_trans (Nat.mul_le_mul_right 8 (Nat.add_le_add_right (findTo_len ⟨tick, kind, who, n, text⟩ xs i) 1)) (by omega)) ?_); intro v5 w5 hX; have O5 := Aside0.mk hX; clear hX)
                clear O
                go_wp2
                go_roundg (gk - 1)
                case measure => have := HI.out; omega
                case rel => exact ⟨i + 1, by first | rfl | (congr 1; omega), ⟨by have := HI.out; omega⟩, ⟨by rw [findTo_yes (HXE.out ▸ HFY.out)]; exact O5.out.p1.drop⟩⟩
              | false =>
                have HFN : Aside0 (fits ⟨tick, kind, who, n, text⟩ x = false) := ⟨fits_b (x := x) H1.out H2.out HWH.out HNN.out HBQ.out⟩
                clear a0 a1 a2 a3 a4 b0 b1 b2 b3 b4 c0 c1 c2 c3 c4
                go_wp2
                go_roundg (gk - 1)
                case measure => have := HI.out; omega
                case rel => exact ⟨i + 1, by first | rfl | (congr 1; omega), ⟨by have := HI.out; omega⟩, ⟨by rw [findTo_no (HXE.out ▸ HFN.out)]; exact O.out.drop⟩⟩
            · by_cases h6 : n = x.who
              · have HNN : Aside0 (n = -1 ∨ n = x.who) := ⟨.inr h6⟩
                obtain ⟨E5, _⟩ := eqF h5; obtain ⟨E6, _⟩ := eqT h6; clear h5 h6
                go_wp2_with fail
                refine (l4has_c _ _ _ htx ha).mono ?_
                rintro e w3 ⟨rfl, rfl⟩
                generalize hb : hasB x.text text = b
                have HBQ := Aside0.mk hb; clear hb
                cases b with
                | true =>
                  have HFY : Aside0 (fits ⟨tick, kind, who, n, text⟩ x = true) := ⟨fits_b (x := x) H1.out H2.out HWH.out HNN.out HBQ.out⟩
                  clear a0 a1 a2 a3 a4 b0 b1 b2 b3 b4 c0 c1 c2 c3 c4
                  replace O := Aside0.mk (O.out.p1.cel0 (r := rI) (cs := [.int .i64 i]) (x := (i : Int)) ⟨rfl, rfl⟩).p1
                  go_upto_region 7 with (at_builtin; go_loud (refine Own.app_one rI rfl (.tmp 58) (.tmp 60) 28 3 (.int .i64 0) 8 rfl Try.underlying28 info3 rfl (by decide) (by decide) _ _ (i : Int) _ rfl rfl O.out (Nat.le_trans (Nat.mul_le_mul_right 8 (Nat.add_le_add_right (findTo_len ⟨tick, kind, who, n, text⟩ xs i) 1)) (by omega)) ?_); intro v5 w5 hX; have O5 := Aside0.mk hX; clear hX)
                  clear O
                  go_wp2
                  go_roundg (gk - 1)
                  case measure => have := HI.out; omega
                  case rel => exact ⟨i + 1, by first | rfl | (congr 1; omega), ⟨by have := HI.out; omega⟩, ⟨by rw [findTo_yes (HXE.out ▸ HFY.out)]; exact O5.out.p1.drop⟩⟩
                | false =>
                  have HFN : Aside0 (fits ⟨tick, kind, who, n, text⟩ x = false) := ⟨fits_b (x := x) H1.out H2.out HWH.out HNN.out HBQ.out⟩
                  clear a0 a1 a2 a3 a4 b0 b1 b2 b3 b4 c0 c1 c2 c3 c4
                  go_wp2
                  go_roundg (gk - 1)
                  case measure => have := HI.out; omega
                  case rel => exact ⟨i + 1, by first | rfl | (congr 1; omega), ⟨by have := HI.out; omega⟩, ⟨by rw [findTo_no (HXE.out ▸ HFN.out)]; exact O.out.drop⟩⟩
              · have HNO : Aside0 (¬ (tick ≤ x.tick ∧ x.tick ≤ kind ∧ (who = -1 ∨ who = x.kind) ∧ (n = -1 ∨ n = x.who))) := ⟨by omega⟩
                obtain ⟨E5, _⟩ := eqF h5; obtain ⟨E6, _⟩ := eqF h6; clear h5 h6
                have HFN : Aside0 (fits ⟨tick, kind, who, n, text⟩ x = false) := ⟨fits_no HNO.out⟩
                go_wp2
                go_roundg (gk - 1)
                case measure => have := HI.out; omega
                case rel => exact ⟨i + 1, by first | rfl | (congr 1; omega), ⟨by have := HI.out; omega⟩, ⟨by rw [findTo_no (HXE.out ▸ HFN.out)]; exact O.out.drop⟩⟩
          · by_cases h4 : who = x.kind
            · have HWH : Aside0 (who = -1 ∨ who = x.kind) := ⟨.inr h4⟩
              obtain ⟨E3, _⟩ := eqF h3; obtain ⟨E4, _⟩ := eqT h4; clear h3 h4
              by_cases h5 : n = -1
              · have HNN : Aside0 (n = -1 ∨ n = x.who) := ⟨.inl h5⟩
                obtain ⟨E5, _⟩ := eqT h5; clear h5
                go_wp2_with fail
                refine (l4has_c _ _ _ htx ha).mono ?_
                rintro e w3 ⟨rfl, rfl⟩
                generalize hb : hasB x.text text = b
                have HBQ := Aside0.mk hb; clear hb
                cases b with
                | true =>
                  have HFY : Aside0 (fits ⟨tick, kind, who, n, text⟩ x = true) := ⟨fits_b (x := x) H1.out H2.out HWH.out HNN.out HBQ.out⟩
                  clear a0 a1 a2 a3 a4 b0 b1 b2 b3 b4 c0 c1 c2 c3 c4
                  replace O := Aside0.mk (O.out.p1.cel0 (r := rI) (cs := [.int .i64 i]) (x := (i : Int)) ⟨rfl, rfl⟩).p1
                  go_upto_region 7 with (at_builtin; go_loud (refine Own.app_one rI rfl (.tmp 58) (.tmp 60) 28 3 (.int .i64 0) 8 rfl Try.underlying28 info3 rfl (by decide) (by decide) _ _ (i : Int) _ rfl rfl O.out (Nat.le_trans (Nat.mul_le_mul_right 8 (Nat.add_le_add_right (findTo_len ⟨tick, kind, who, n, text⟩ xs i) 1)) (by omega)) ?_); intro v5 w5 hX; have O5 := Aside0.mk hX; clear hX)
                  clear O
                  go_wp2
                  go_roundg (gk - 1)
                  case measure => have := HI.out; omega
                  case rel => exact ⟨i + 1, by first | rfl | (congr 1; omega), ⟨by have := HI.out; omega⟩, ⟨by rw [findTo_yes (HXE.out ▸ HFY.out)]; exact O5.out.p1.drop⟩⟩
                | false =>
                  have HFN : Aside0 (fits ⟨tick, kind, who, n, text⟩ x = false) := ⟨fits_b (x := x) H1.out H2.out HWH.out HNN.out HBQ.out⟩
                  clear a0 a1 a2 a3 a4 b0 b1 b2 b3 b4 c0 c1 c2 c3 c4
                  go_wp2
                  go_roundg (gk - 1)
                  case measure => have := HI.out; omega
                  case rel => exact ⟨i + 1, by first | rfl | (congr 1; omega), ⟨by have := HI.out; omega⟩, ⟨by rw [findTo_no (HXE.out ▸ HFN.out)]; exact O.out.drop⟩⟩
              · by_cases h6 : n = x.who
                · have HNN : Aside0 (n = -1 ∨ n = x.who) := ⟨.inr h6⟩
                  obtain ⟨E5, _⟩ := eqF h5; obtain ⟨E6, _⟩ := eqT h6; clear h5 h6
                  go_wp2_with fail
                  refine (l4has_c _ _ _ htx ha).mono ?_
                  rintro e w3 ⟨rfl, rfl⟩
                  generalize hb : hasB x.text text = b
                  have HBQ := Aside0.mk hb; clear hb
                  cases b with
                  | true =>
                    have HFY : Aside0 (fits ⟨tick, kind, who, n, text⟩ x = true) := ⟨fits_b (x := x) H1.out H2.out HWH.out HNN.out HBQ.out⟩
                    clear a0 a1 a2 a3 a4 b0 b1 b2 b3 b4 c0 c1 c2 c3 c4
                    replace O := Aside0.mk (O.out.p1.cel0 (r := rI) (cs := [.int .i64 i]) (x := (i : Int)) ⟨rfl, rfl⟩).p1
                    go_upto_region 7 with (at_builtin; go_loud (refine Own.app_one rI rfl (.tmp 58) (.tmp 60) 28 3 (.int .i64 0) 8 rfl Try.underlying28 info3 rfl (by decide) (by decide) _ _ (i : Int) _ rfl rfl O.out (Nat.le_trans (Nat.mul_le_mul_right 8 (Nat.add_le_add_right (findTo_len ⟨tick, kind, who, n, text⟩ xs i) 1)) (by omega)) ?_); intro v5 w5 hX; have O5 := Aside0.mk hX; clear hX)
                    clear O
                    go_wp2
                    go_roundg (gk - 1)
                    case measure => have := HI.out; omega
                    case rel => exact ⟨i + 1, by first | rfl | (congr 1; omega), ⟨by have := HI.out; omega⟩, ⟨by rw [findTo_yes (HXE.out ▸ HFY.out)]; exact O5.out.p1.drop⟩⟩
                  | false =>
                    have HFN : Aside0 (fits ⟨tick, kind, who, n, text⟩ x = false) := ⟨fits_b (x := x) H1.out H2.out HWH.out HNN.out HBQ.out⟩
                    clear a0 a1 a2 a3 a4 b0 b1 b2 b3 b4 c0 c1 c2 c3 c4
                    go_wp2
                    go_roundg (gk - 1)
                    case measure => have := HI.out; omega
                    case rel => exact ⟨i + 1, by first | rfl | (congr 1; omega), ⟨by have := HI.out; omega⟩, ⟨by rw [findTo_no (HXE.out ▸ HFN.out)]; exact O.out.drop⟩⟩
                · have HNO : Aside0 (¬ (tick ≤ x.tick ∧ x.tick ≤ kind ∧ (who = -1 ∨ who = x.kind) ∧ (n = -1 ∨ n = x.who))) := ⟨by omega⟩
                  obtain ⟨E5, _⟩ := eqF h5; obtain ⟨E6, _⟩ := eqF h6; clear h5 h6
                  have HFN : Aside0 (fits ⟨tick, kind, who, n, text⟩ x = false) := ⟨fits_no HNO.out⟩
                  go_wp2
                  go_roundg (gk - 1)
                  case measure => have := HI.out; omega
                  case rel => exact ⟨i + 1, by first | rfl | (congr 1; omega), ⟨by have := HI.out; omega⟩, ⟨by rw [findTo_no (HXE.out ▸ HFN.out)]; exact O.out.drop⟩⟩
            · have HNO : Aside0 (¬ (tick ≤ x.tick ∧ x.tick ≤ kind ∧ (who = -1 ∨ who = x.kind) ∧ (n = -1 ∨ n = x.who))) := ⟨by omega⟩
              obtain ⟨E3, _⟩ := eqF h3; obtain ⟨E4, _⟩ := eqF h4; clear h3 h4
              have HFN : Aside0 (fits ⟨tick, kind, who, n, text⟩ x = false) := ⟨fits_no HNO.out⟩
              go_wp2
              go_roundg (gk - 1)
              case measure => have := HI.out; omega
              case rel => exact ⟨i + 1, by first | rfl | (congr 1; omega), ⟨by have := HI.out; omega⟩, ⟨by rw [findTo_no (HXE.out ▸ HFN.out)]; exact O.out.drop⟩⟩
        · have HNO : Aside0 (¬ (tick ≤ x.tick ∧ x.tick ≤ kind ∧ (who = -1 ∨ who = x.kind) ∧ (n = -1 ∨ n = x.who))) := ⟨by omega⟩
          have HFN : Aside0 (fits ⟨tick, kind, who, n, text⟩ x = false) := ⟨fits_no HNO.out⟩
          go_wp2
          go_roundg (gk - 1)
          case measure => have := HI.out; omega
          case rel => exact ⟨i + 1, by first | rfl | (congr 1; omega), ⟨by have := HI.out; omega⟩, ⟨by rw [findTo_no (HXE.out ▸ HFN.out)]; exact O.out.drop⟩⟩
      · have HNO : Aside0 (¬ (tick ≤ x.tick ∧ x.tick ≤ kind ∧ (who = -1 ∨ who = x.kind) ∧ (n = -1 ∨ n = x.who))) := ⟨by omega⟩
        have HFN : Aside0 (fits ⟨tick, kind, who, n, text⟩ x = false) := ⟨fits_no HNO.out⟩
        go_wp2
        go_roundg (gk - 1)
        case measure => have := HI.out; omega
        case rel => exact ⟨i + 1, by first | rfl | (congr 1; omega), ⟨by have := HI.out; omega⟩, ⟨by rw [findTo_no (HXE.out ▸ HFN.out)]; exact O.out.drop⟩⟩
    · have h9 : i = xs.length := by have := HI.out; omega
      have HI9 := Aside0.mk h9; clear h9
      go_wp2
      obtain ⟨f, hf, hn, hl2, hc⟩ := O.out.take
      rw [HI9.out] at hf
      exact HQ.out _ _ ⟨_, rfl, ⟨f, hf, hn, hl2⟩, O.out.bel⟩
end Go.Proofs.Ytocdlibnmlcokaa
namespace Go.Proofs.Ytocdlibnmlcokaa
open Go.RowKit Go.Proofs.YtocdlibnmlcokaaW.PrintWords Go.Proofs.YtocdlibnmlcokaaW.PrintLast
set_option linter.unusedVariables false
set_option linter.unusedSimpArgs false
abbrev oB (o : Opn) (vn v0 v1 : Value) : Array Value := #[.bool o.ok, .bool o.lg.ok, vn, .int .i64 o.lg.len, .int .i64 o.lg.gen, .int .i64 o.lg.safe, v0, v1]
def RunCut (w wc : World) (g3 g7 g8 : Nat) (vo : Value) (out : List Ad) (o : Opn) (a : Ac) (vn v0 v1 : Value) : Prop :=
  (¬ AcOk a ∧ Own w wc [Rs.box g7 30 #[.int .i64 1, .int .i64 0, .int .i64 0, .slice none 0 0], Rs.row rAd 30 vo out, Rs.box g3 61 (oB o vn v0 v1), Rs.row rN 33 vn o.lg.notes, Rs.row rBS 22 v0 o.bs, Rs.row rW 147 v1 o.ws]) ∨
  (AcOk a ∧ a.op ≠ 4 ∧ ∃ m n0 n1, Own w wc [Rs.box g7 30 #[.int .i64 0, .int .i64 0, .int .i64 0, .slice none 0 0], Rs.box g8 61 (oB (nextL o a) m n0 n1), Rs.row rN 33 m (nextL o a).lg.notes, Rs.row rBS 22 n0 (nextL o a).bs, Rs.row rW 147 n1 (nextL o a).ws, Rs.row rAd 30 vo out, Rs.box g3 61 (oB o vn v0 v1), Rs.row rN 33 vn o.lg.notes, Rs.row rBS 22 v0 o.bs, Rs.row rW 147 v1 o.ws]) ∨
  (a.op = 4 ∧ ∃ fv, Own w wc [Rs.box g7 30 #[.int .i64 0, .int .i64 0, .int .i64 0, fv], Rs.row rI 3 fv (findL a.ask o.lg.notes), Rs.box g8 61 (oB o vn v0 v1), Rs.row rAd 30 vo out, Rs.box g3 61 (oB o vn v0 v1), Rs.row rN 33 vn o.lg.notes, Rs.row rBS 22 v0 o.bs, Rs.row rW 147 v1 o.ws])
theorem cut_next {w wc : World} {g3 g6 g7 g8 : Nat} {vo : Value} {out : List Ad} {o nx : Opn} {a : Ac} {vn v0 v1 m n0 n1 : Value} {c6 : Array Value} (hok : AcOk a) (h4 : a.op ≠ 4) (hn : nextL o a = nx)
    (O : Own w wc [Rs.box g8 61 (oB nx m n0 n1), Rs.row rN 33 m nx.lg.notes, Rs.row rBS 22 n0 nx.bs, Rs.row rW 147 n1 nx.ws, Rs.box g6 38 c6, Rs.box g7 30 #[.int .i64 0, .int .i64 0, .int .i64 0, .slice none 0 0], Rs.row rAd 30 vo out, Rs.box g3 61 (oB o vn v0 v1), Rs.row rN 33 vn o.lg.notes, Rs.row rBS 22 v0 o.bs, Rs.row rW 147 v1 o.ws]) : RunCut w wc g3 g7 g8 vo out o a vn v0 v1 := by
  subst hn
  exact .inr (.inl ⟨hok, h4, m, n0, n1, O.p4.drop.p4⟩)
theorem Inv.lgok {o : Opn} (h : Inv o) : o.ok = true ∧ o.lg.ok = true := ⟨h.1.1, by rw [h.1.2.2.1]; rfl⟩
theorem spoil_eq {T : List (List Int)} {p a : Int} {i j : Nat} (hi : i < T.length) (hj : j < T[i].length) (ei : (i : Int) = p / 64) (ej : (j : Int) = p % 64) : T.set i (T[i].set j (xorB T[i][j] a)) = spoilS T p a := by
  have h1 : (p / 64).toNat = i := by omega
  have h2 : (p % 64).toNat = j := by omega
  have hg : gBS T (p / 64) = T[i] := by rw [gBS_eq (by omega)]; simp only [h1]
  have hr : rd T[i] (p % 64) = T[i][j] := by
    show T[i].getD (p % 64).toNat 0 = _
    rw [h2, List.getD_eq_getElem?_getD, List.getElem?_eq_getElem hj]; rfl
  unfold spoilS spoilB
  rw [h1, h2, hg, hr]
theorem step_code1 {o : Opn} {a : Ac} (h : ¬ AcOk a) : afterL o a = o ∧ stepL o a = ⟨1, o.lg.notes.length, o.lg.safe, []⟩ := by
  have h4 : ¬ a.op = 4 := fun e => h (.inr (.inr (.inr (.inl e))))
  have hc : codeL o a = 1 := if_neg h
  have ha : afterL o a = o := by unfold afterL; rw [hc, if_neg (by omega)]
  refine ⟨ha, ?_⟩
  unfold stepL askL
  rw [hc, ha, if_neg h4]
theorem step_code2 {o : Opn} {a : Ac} (h : AcOk a) (h4 : a.op ≠ 4) (hn : (nextL o a).ok = false) : afterL o a = o ∧ stepL o a = ⟨2, o.lg.notes.length, o.lg.safe, []⟩ := by
  have hc : codeL o a = 2 := by unfold codeL; rw [if_pos h, if_neg (by rw [hn]; decide)]
  have ha : afterL o a = o := by unfold afterL; rw [hc, if_neg (by omega)]
  refine ⟨ha, ?_⟩
  unfold stepL askL
  rw [hc, ha, if_neg h4]
theorem step_code0 {o : Opn} {a : Ac} (h : AcOk a) (h4 : a.op ≠ 4) (hn : (nextL o a).ok = true) : afterL o a = nextL o a ∧ stepL o a = ⟨0, (nextL o a).lg.notes.length, (nextL o a).lg.safe, []⟩ := by
  have hc : codeL o a = 0 := by unfold codeL; rw [if_pos h, if_pos hn]
  have ha : afterL o a = nextL o a := by unfold afterL; rw [hc, if_pos rfl]
  refine ⟨ha, ?_⟩
  unfold stepL askL
  rw [hc, ha, if_neg h4]
theorem step_ask {o : Opn} {a : Ac} (h4 : a.op = 4) (ho : o.ok = true) : afterL o a = o ∧ stepL o a = ⟨0, o.lg.notes.length, o.lg.safe, findL a.ask o.lg.notes⟩ := by
  have h : AcOk a := .inr (.inr (.inr (.inl h4)))
  have hn : nextL o a = o := by unfold nextL; rw [if_neg (by omega), if_neg (by omega), if_neg (by omega), if_pos h4]
  have hc : codeL o a = 0 := by unfold codeL; rw [if_pos h, hn, if_pos ho]
  have ha : afterL o a = o := by unfold afterL; rw [hc, if_pos rfl, hn]
  refine ⟨ha, ?_⟩
  unfold stepL askL
  rw [hc, ha, if_pos h4]
end Go.Proofs.Ytocdlibnmlcokaa
