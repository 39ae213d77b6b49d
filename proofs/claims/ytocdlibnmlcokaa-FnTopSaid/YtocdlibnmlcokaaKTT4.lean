/- Contracts and words that the laws rest on, part 4: for every world; conditions as each theorem says. -/
import Derived.Shelf.Strings.Search1
import Derived.Shelf.Strings.Search2
import Derived.Shelf.Strings.Search3
import Derived.Shelf.LaysM
import Derived.Shelf.Strings.Shaped
import Derived.Test.YtocdlibnmlcokaaProg
import Derived.Laws.Strings2
import Derived.Lib.IndexBytes
import Derived.Test.YtocdlibnmlcokaaKTT3
namespace Go.Proofs.Ytocdlibnmlcokaa
open Go.RowKit Go.Proofs.YtocdlibnmlcokaaW.PrintWords Go.Proofs.YtocdlibnmlcokaaW.PrintLast
set_option linter.unusedVariables false
set_option linter.unusedSimpArgs false
set_option maxHeartbeats 8000000 in
set_option maxRecDepth 100000 in
theorem specAppend_yes (An A0 A1 : Option Addr) (cn c0 c1 : Nat) (ok lok : Bool) (notes : List Nt) (len gen safe : Int) (bs : List (List Int)) (ws : List Wr) (x : Nt) (w : World)
    (hn : rN.d.C w An notes.length notes) (hx : rBS.d.C w A0 bs.length bs) (hy : rW.d.C w A1 ws.length ws) (hc : bs.length ≤ c0) (hk : BkOk bs ws) (ht : x.text.size ≤ 9223372036854775807) (hr : RightP ⟨ok, ⟨lok, notes, len, gen, safe⟩, bs, ws⟩) (hno : NtOk x) :
    Calls Try.prog 86 #[.agg #[.bool ok, .bool lok, .slice An notes.length cn, .int .i64 len, .int .i64 gen, .int .i64 safe, .slice A0 bs.length c0, .slice A1 ws.length c1], vN x] w (GotOp (appendO bs ws x) w) := by
  obtain ⟨S, hS⟩ : ∃ S, S = settleL bs ws (kfL true []) := ⟨_, rfl⟩
  obtain ⟨N, hN⟩ : ∃ N, N = (foundL S).1 := ⟨_, rfl⟩
  obtain ⟨L, hL⟩ : ∃ L, L = (foundL S).2 := ⟨_, rfl⟩
  obtain ⟨Y, hY⟩ : ∃ Y, Y = (logBytes S).take L := ⟨_, rfl⟩
  obtain ⟨G, hG⟩ : ∃ G, G = logGen S := ⟨_, rfl⟩
  obtain ⟨F, hF⟩ : ∃ F, F = frameL x := ⟨_, rfl⟩
  obtain ⟨X, hX⟩ : ∃ X, X = Y ++ F := ⟨_, rfl⟩
  have hSok : BlOk S := hS ▸ sync_ok hr.2.1 hk
  have htf := take_found hSok
  rw [← hL, ← hY] at htf
  have hYl : Y.length = L := htf.2
  have hLl : L ≤ 7112 := htf.1
  have hFl : F.length = 17 + x.text.size := by rw [hF]; exact frameL_len x
  have ht2 : x.text.size ≤ 200 := hno.2.2.2
  have hXl : X.length = L + F.length := by rw [hX, List.length_append, hYl]
  have hXok : BsOk X := by rw [hX, hY, hF]; exact BsOk.append (fun y hy => (logBytes_ok hSok).1 y (List.mem_of_mem_take hy)) (frameL_ok hno)
  have hGr : 1 ≤ G ∧ G ≤ 1000000000 := by
    have h1 := @logGen_range S
    have h2 := hr.2.2.2
    rw [hr.2.2.1] at h2
    change logGen (syncL bs ws) ≠ 0 at h2
    unfold syncL at h2
    rw [← hS] at h2
    rw [hG]; omega
  obtain ⟨fr, hfr⟩ : ∃ fr : Nat, fr = L / 56 := ⟨_, rfl⟩
  obtain ⟨tt, hto⟩ : ∃ tt : Nat, tt = (X.length - 1) / 56 := ⟨_, rfl⟩
  obtain ⟨n, hn9⟩ : ∃ n : Nat, n = tt - fr + 1 := ⟨_, rfl⟩
  obtain ⟨V, hV⟩ : ∃ V, V = ws ++ pagesW X G fr n := ⟨_, rfl⟩
  have hle : fr ≤ tt := by omega
  have happ : appendO bs ws x = if X.length ≤ 7112 ∧ ws.length + n ≤ 200 then ⟨true, scanL bs V, bs, V⟩ else op0 := by
    unfold appendO appX appN syncL
    rw [← hS, ← hL, ← hY, ← hG, ← hF, ← hX, ← hfr, ← hto, ← hn9, ← hV]
  obtain ⟨R0, hR0⟩ : ∃ R0, R0 = appendO bs ws x := ⟨_, rfl⟩
  rw [← hR0]
  rw [← hR0] at happ
  suffices H : ∀ Q : Ending → World → Prop, (∀ e w', GotOp R0 w e w' → Q e w') → Calls Try.prog 86 #[.agg #[.bool ok, .bool lok, .slice An notes.length cn, .int .i64 len, .int .i64 gen, .int .i64 safe, .slice A0 bs.length c0, .slice A1 ws.length c1], vN x] w Q from H _ (fun e w' h => h)
  intro Q hQ
  have HAPP := Aside0.mk happ; have HS := Aside0.mk hS; have HN := Aside0.mk hN; have HL := Aside0.mk hL; have HYb := Aside0.mk hY; have HG := Aside0.mk hG; have HF := Aside0.mk hF; have HXe := Aside0.mk hX; have HSok := Aside0.mk hSok; have HXok := Aside0.mk hXok; have HFR := Aside0.mk hfr; have HTO := Aside0.mk hto; have HN9 := Aside0.mk hn9; have HV := Aside0.mk hV; have HLE := Aside0.mk hle
  have HYl := Aside0.mk hYl; have HFl := Aside0.mk hFl; have HXl := Aside0.mk hXl; have HQ := Aside0.mk hQ; have HR := Aside0.mk hr; have HNO := Aside0.mk hno; have HGr := Aside0.mk hGr
  clear happ hS hN hL hY hG hF hX hSok hXok hfr hto hn9 hV hQ hr hno hGr hR0 htf hYl hFl hXl hle
  have HNN := Aside0.mk hn; have HX := Aside0.mk hx; have HY := Aside0.mk hy; have HC := Aside0.mk hc; have HK0 := Aside0.mk hk; clear hn hx hy hc hk
  simp only [vN]
  go_enter Try.func86, Try.ntmps86
  go_upto_region 1 with (fail)
  generalize hw : World.alloc (World.alloc (World.alloc w _) _) _ = w1
  have O := Aside0.mk ((Own.nil w).of3 hw); clear hw
  have p0 := (blk_cell O.out.b2 0).trans rfl; have p1 := (blk_cell O.out.b2 1).trans rfl; have p2 := (blk_cell O.out.b2 2).trans rfl; have p3 := (blk_cell O.out.b2 3).trans rfl; have p4 := (blk_cell O.out.b2 4).trans rfl; have p5 := (blk_cell O.out.b2 5).trans rfl; have p6 := (blk_cell O.out.b2 6).trans rfl; have p7 := (blk_cell O.out.b2 7).trans rfl
  go_wp2_with fail
  refine (l3open_c _ _ _ _ _ _ _ _ _ _ _ _ _ _ true ⟨fun _ => HR.out, fun _ => rfl⟩ _ (Kd.C_below HNN.out O.out.bel) (Kd.C_below HX.out O.out.bel) (Kd.C_below HY.out O.out.bel) HC.out HK0.out).mono ?_
  rintro e w2 ⟨rfl, hb⟩
  replace O := Aside0.mk (O.out.below hb)
  clear p0 p1 p2 p3 p4 p5 p6 p7 hb
  have n0 := (blk_cell O.out.b1 0).trans rfl; have n1 := (blk_cell O.out.b1 1).trans rfl; have n2 := (blk_cell O.out.b1 2).trans rfl; have n3 := (blk_cell O.out.b1 3).trans rfl; have n4 := (blk_cell O.out.b1 4).trans rfl
  go_wp2_with fail
  refine (specNoteOk_c x true ⟨fun _ => HNO.out, fun _ => rfl⟩ _ ht).mono ?_
  rintro e w2 ⟨rfl, hb⟩
  replace O := Aside0.mk (O.out.below hb)
  clear n0 n1 n2 n3 n4 hb
  have hlen : len = L := by have := HR.out.2.2.1; have h2 := congrArg Lg.len this; simp only [scanL, syncL] at h2; rw [← HS.out, ← HL.out] at h2; exact h2
  have hgen : gen = G := by have := HR.out.2.2.1; have h2 := congrArg Lg.gen this; simp only [scanL, syncL] at h2; rw [← HS.out, ← HG.out] at h2; exact h2
  subst hlen; subst hgen
  have p6 := (blk_cell O.out.b2 6).trans rfl; have p7 := (blk_cell O.out.b2 7).trans rfl
  go_wp2_with fail
  refine (specSeen_yes _ _ _ _ bs ws _ (Kd.C_below HX.out O.out.bel) (Kd.C_below HY.out O.out.bel) HR.out.2.1).mono ?_
  intro e w3 hg
  obtain ⟨v, rfl, k⟩ := own_row hg
  rw [← HS.out] at k
  replace O := Aside0.mk (O.out.app1 k); clear k hg p6 p7
  obtain ⟨As, cs, rfl, hcs⟩ := O.out.f0
  have HCS := Aside0.mk hcs; clear hcs
  go_wp2_with fail
  refine (l3bytes_c _ _ S _ O.out.c0 HCS.out HSok.out).mono ?_
  intro e w4 hg
  obtain ⟨B, hB⟩ : ∃ B, B = logBytes S := ⟨_, rfl⟩
  rw [← hB, ← HG.out] at hg
  rw [← hB] at HYb
  clear hB
  obtain ⟨vb, rfl, k⟩ := own_by hg
  replace O := Aside0.mk (O.out.app1 k).p1.drop; clear k hg
  obtain ⟨Ab, cb, rfl, hcb⟩ := O.out.f0
  have hLB : L ≤ B.length := by have := HYl.out; rw [HYb.out, List.length_take] at this; omega
  have hF300 : F.length ≤ 300 := by have := HFl.out; omega
  have HF300 := Aside0.mk hF300; clear hF300
  go_upto_region 4 with (fail)
  have hto := to_c (A := Ab) (c := cb) L hLB hcb
  have p3 := (blk_cell O.out.b3 3).trans rfl
  have n0 := (blk_cell O.out.b2 0).trans rfl; have n1 := (blk_cell O.out.b2 1).trans rfl; have n2 := (blk_cell O.out.b2 2).trans rfl; have n3 := (blk_cell O.out.b2 3).trans rfl; have n4 := (blk_cell O.out.b2 4).trans rfl
  refine sta (fun w' => w'.cell? ⟨w.heap.size, 3, none⟩ = some (.int .i64 L) ∧ w'.cell? ⟨w.heap.size + 1, 0, none⟩ = some (.int .i64 x.tick) ∧ w'.cell? ⟨w.heap.size + 1, 1, none⟩ = some (.int .i64 x.kind) ∧ w'.cell? ⟨w.heap.size + 1, 2, none⟩ = some (.int .i64 x.who) ∧ w'.cell? ⟨w.heap.size + 1, 3, none⟩ = some (.int .i64 x.n) ∧ w'.cell? ⟨w.heap.size + 1, 4, none⟩ = some (.string x.text)) [] 11 ⟨p3, n0, n1, n2, n3, n4⟩ (fun hS => ?_)
  clear p3 n0 n1 n2 n3 n4
  replace O := Aside0.mk O.out.drew
  generalize w4.drew = wd at O hS ⊢
  refine pu 1 2 ?_
  refine pu 2 6 ?_
  refine pu 3 14 ?_
  refine tk 4 30 hS ?_
  refine pu 5 62 ?_
  refine tk 7 190 hS ?_
  clear hto
  refine on 0 191 (fun K hK => ?_)
  refine va ?_
  replace O := Aside0.mk O.out.empty
  have HYC : Aside0 (kB.C (wd.alloc (.cells #[] 5)) Ab L Y) := ⟨by have h := (O.out.p1.take_row hLB).c0; rw [← HYb.out, HYl.out] at h; exact h⟩
  generalize wd.heap.size = ge at O ⊢
  generalize wd.alloc _ = we at O HYC ⊢
  refine nx hK ⟨(blk_cell O.out.b4 3).trans rfl, (blk_cell O.out.b3 0).trans rfl, (blk_cell O.out.b3 1).trans rfl, (blk_cell O.out.b3 2).trans rfl, (blk_cell O.out.b3 3).trans rfl, (blk_cell O.out.b3 4).trans rfl⟩ (fun hS => ?_)
  clear hK K
  refine on 6 255 (fun K hK => ?_)
  refine Own.app_row_step (by rfl) (.tmp 26) (.tmp 31) 22 5 (.int .u8 0) 1 (by rfl) Try.underlying22 info5 rfl (by decide) _ [] Y Ab L cb (by rfl) (by rfl) O.out HYC.out (by simp; omega) ?_
  intro v5 w5 hO
  rw [List.nil_append] at hO
  clear O HYC hS
  obtain ⟨Ac, cc, rfl, _⟩ := hO.f0
  have O := Aside0.mk hO.p1.drop; clear hO
  refine nx hK ⟨(blk_cell O.out.b3 3).trans rfl, (blk_cell O.out.b2 0).trans rfl, (blk_cell O.out.b2 1).trans rfl, (blk_cell O.out.b2 2).trans rfl, (blk_cell O.out.b2 3).trans rfl, (blk_cell O.out.b2 4).trans rfl⟩ (fun hS => ?_)
  clear hK K
  refine on 8 511 (fun K hK => ?_)
  refine ca (specFrame_yes x _ HNO.out) Try.func136 ?_
  intro e w6 hg
  rw [← HF.out] at hg
  obtain ⟨vf, rfl, k⟩ := own_row hg
  replace O := Aside0.mk (O.out.app1 k); clear k hg
  obtain ⟨Af, cf, rfl, _⟩ := O.out.f0
  refine ⟨_, rfl, nx hK ⟨(blk_cell O.out.b4 3).trans rfl, (blk_cell O.out.b3 0).trans rfl, (blk_cell O.out.b3 1).trans rfl, (blk_cell O.out.b3 2).trans rfl, (blk_cell O.out.b3 3).trans rfl, (blk_cell O.out.b3 4).trans rfl⟩ (fun hS => ?_)⟩
  clear hK K hS
  replace O := Aside0.mk O.out.p1
  refine on 9 1023 (fun K hK => ?_)
  refine Own.app_row_step (by rfl) (.tmp 32) (.tmp 34) 22 5 (.int .u8 0) 1 (by rfl) Try.underlying22 info5 rfl (by decide) _ Y F Af F.length cf (by rfl) (by rfl) O.out O.out.c1 (by have := HYl.out; have := HF300.out; omega) ?_
  intro v7 w7 hO
  rw [← HXe.out] at hO
  clear O
  obtain ⟨Ax, cx, rfl, hcx⟩ := hO.f0
  refine nx hK ⟨(blk_cell hO.b4 3).trans rfl, (blk_cell hO.b3 0).trans rfl, (blk_cell hO.b3 1).trans rfl, (blk_cell hO.b3 2).trans rfl, (blk_cell hO.b3 3).trans rfl, (blk_cell hO.b3 4).trans rfl⟩ (fun hS => ?_)
  clear hK K hS
  have O : Aside0 (Own w w7 [Rs.row rB 5 (.slice Ax X.length cx) X, Rs.box (w.heap.size + 1 + 1) 61 zero8, Rs.box w.heap.size 61 #[.bool ok, .bool lok, .slice An notes.length cn, .int .i64 L, .int .i64 gen, .int .i64 safe, .slice A0 bs.length c0, .slice A1 ws.length c1]]) := ⟨hO.p1.drop.p2.drop⟩
  have HCX := Aside0.mk hcx; clear hcx hO
  refine pu 10 2047 (dn ?_)
  by_cases hbig : (X.length : Int) > 7112
  · have E0 : Aside0 (R0 = op0) := ⟨by rw [HAPP.out, if_neg (fun h => by omega)]⟩
    have u0 := (blk_cell O.out.b1 0).trans rfl; have u1 := (blk_cell O.out.b1 1).trans rfl; have u2 := (blk_cell O.out.b1 2).trans rfl; have u3 := (blk_cell O.out.b1 3).trans rfl; have u4 := (blk_cell O.out.b1 4).trans rfl; have u5 := (blk_cell O.out.b1 5).trans rfl; have u6 := (blk_cell O.out.b1 6).trans rfl; have u7 := (blk_cell O.out.b1 7).trans rfl
    have z0 := blk_frozen O.out.b1 0; have z1 := blk_frozen O.out.b1 1; have z2 := blk_frozen O.out.b1 2; have z3 := blk_frozen O.out.b1 3; have z4 := blk_frozen O.out.b1 4; have z5 := blk_frozen O.out.b1 5; have z6 := blk_frozen O.out.b1 6; have z7 := blk_frozen O.out.b1 7
    go_wp2
    generalize hw : World.setCell _ _ _ = w90
    replace O := Aside0.mk (O.out.p1.st8 hw); clear hw
    refine bodyPost_ret (results_cell_row rfl _ _ (w.heap.size + 1 + 1) 61 _ (0, 0) _ rfl O.out.b0 Try.underlying61 rfl (by kernel_rfl)) rfl ?_
    refine HQ.out _ _ ?_
    rw [E0.out]
    exact ⟨_, _, _, rfl, (((O.out.only []).nilRow rW 147).nilRow rBS 22).nilRow rN 33⟩
  · have hX1 : 17 ≤ X.length := by have := HXl.out; have := HFl.out; omega
    go_upto_region 7 with fail
    have p6 := (blk_cell O.out.b2 6).trans rfl; have p7 := (blk_cell O.out.b2 7).trans rfl; have p3 := (blk_cell O.out.b2 3).trans rfl
    go_upto_region 8 with fail
    generalize hw : w7.alloc _ = w8
    replace O := Aside0.mk (O.out.of hw); clear hw p3 p6 p7
    generalize w7.heap.size = g8 at O ⊢
    have p3 := (blk_cell O.out.b3 3).trans rfl
    go_wp2_with fail
    have htt : tt ≤ 126 := by have := HTO.out; omega
    have hfr2 : fr ≤ tt := HLE.out
    rw [show ((L : Int) / 56) = (fr : Int) by have := HFR.out; omega]
    have hg1 : 1 ≤ gen := HGr.out.1
    have hg2 : gen ≤ 1000000000 := HGr.out.2
    have HDK : Aside0 (∀ i, i ≤ n → ws.length + i ≤ 200 → DkOk bs (ws ++ pagesW X gen fr i) ∧ BkOk bs (ws ++ pagesW X gen fr i)) := ⟨fun i hi hi2 => by
      refine dk_of (bl_ok HR.out.2.1 HK0.out) (by rw [List.length_append, pagesW_len]; omega) (fun y hy => ?_)
      rcases List.mem_append.1 hy with h | h
      · exact ⟨HR.out.2.1.2.2.2 y h, HK0.out.2 y h⟩
      · exact pagesW_ok HXok.out gen fr i (by have := HN9.out; omega) y h⟩
    have HBL : Aside0 (∀ wr : World, Own w wr [Rs.box g8 43 #[.slice A0 bs.length c0, .slice A1 ws.length c1], Rs.row rB 5 (.slice Ax X.length cx) X, Rs.box (w.heap.size + 1 + 1) 61 zero8, Rs.box w.heap.size 61 #[.bool ok, .bool lok, .slice An notes.length cn, .int .i64 L, .int .i64 gen, .int .i64 safe, .slice A0 bs.length c0, .slice A1 ws.length c1]] → rBS.d.C wr A0 bs.length bs ∧ rW.d.C wr A1 ws.length ws) := ⟨fun wr h => ⟨Kd.C_below HX.out h.bel, Kd.C_below HY.out h.bel⟩⟩
    go_loopg [9] (n + 1) (fun m v9 wr => ∃ (i : Nat) (F0 F1 : Option Addr) (h0 h1 : Nat), v9 = .int .i64 ((fr + i : Nat) : Int) ∧ Aside0 (i ≤ n ∧ n - i < m ∧ ws.length + i ≤ 200 ∧ bs.length ≤ h0)
      ∧ Aside0 (Own w wr [Rs.box g8 43 #[.slice F0 bs.length h0, .slice F1 (ws ++ pagesW X gen fr i).length h1], Rs.row rB 5 (.slice Ax X.length cx) X, Rs.box (w.heap.size + 1 + 1) 61 zero8, Rs.box w.heap.size 61 #[.bool ok, .bool lok, .slice An notes.length cn, .int .i64 L, .int .i64 gen, .int .i64 safe, .slice A0 bs.length c0, .slice A1 ws.length c1]])
      ∧ Aside0 (rBS.d.C wr F0 bs.length bs ∧ rW.d.C wr F1 (ws ++ pagesW X gen fr i).length (ws ++ pagesW X gen fr i))
      ∧ Aside0 (0 < i → Own w wr [Rs.row rBS 22 (.slice F0 bs.length h0) bs, Rs.row rW 147 (.slice F1 (ws ++ pagesW X gen fr i).length h1) (ws ++ pagesW X gen fr i), Rs.box g8 43 #[.slice F0 bs.length h0, .slice F1 (ws ++ pagesW X gen fr i).length h1], Rs.box (w.heap.size + 1 + 1) 61 zero8]))
    case atStart =>
      have e : ws ++ pagesW X gen fr 0 = ws := by simp [pagesW]
      have hw2 : ws.length ≤ 200 := HR.out.2.1.2.1
      refine ⟨0, A0, A1, c0, c1, rfl, ⟨by omega, by omega, by omega, HC.out⟩, ⟨?_⟩, ⟨?_⟩, ⟨fun h => by omega⟩⟩
      · rw [e]; exact O.out
      · rw [e]; exact HBL.out _ O.out
    case round =>
      clear O p3
      obtain ⟨i, F0, F1, h0, h1, rfl, HI, O, HCC, OR⟩ := hrel
      obtain ⟨U, hU⟩ : ∃ U, U = ws ++ pagesW X gen fr i := ⟨_, rfl⟩
      obtain ⟨kk, hkk⟩ : ∃ kk : Nat, kk = fr + i := ⟨_, rfl⟩
      rw [← hU] at O HCC OR
      rw [← hkk]
      have HU := Aside0.mk hU; have HKK := Aside0.mk hkk; clear hU hkk
      have hkx : kk * 56 < X.length ↔ i < n := by have := HTO.out; have := HN9.out; have := HKK.out; omega
      have HKX := Aside0.mk hkx; clear hkx
      have hk127 : kk ≤ 127 := by have := HN9.out; have := HKK.out; have := HI.out; omega
      by_cases hi : (kk : Int) * 56 < X.length
      · have hin : Aside0 (i < n) := ⟨HKX.out.1 (by omega)⟩
        have hk126 : kk ≤ 126 := by have := HN9.out; have := HKK.out; have := hin.out; omega
        have hX7 : X.length ≤ 7112 := by omega
        have p0 := (blk_cell O.out.b0 0).trans rfl; have p1 := (blk_cell O.out.b0 1).trans rfl; have p4 := (blk_cell O.out.b3 4).trans rfl
        have hUl : U.length = ws.length + i := by rw [HU.out, List.length_append, pagesW_len]
        have HUl := Aside0.mk hUl; clear hUl
        by_cases hful : U.length < 200
        · have HFUL := Aside0.mk hful; clear hful
          go_wp2_with fail
          refine (l3page_yes _ _ _ _ _ _ bs U X kk gen _ HCC.out.1 HCC.out.2 O.out.c1 HCX.out (by have := (HDK.out i HI.out.1 HI.out.2.2.1).1; rw [HU.out]; exact this) HFUL.out (by omega) hg1 hg2 (by omega)).mono ?_
          intro e w11 hg
          obtain ⟨W2, hW2⟩ : ∃ W2, W2 = U ++ [⟨(kk : Int) + 1, pageB X kk gen⟩] := ⟨_, rfl⟩
          rw [← hW2] at hg
          have HW2 := Aside0.mk hW2; clear hW2
          obtain ⟨v0, v1, rfl, k⟩ := own_disk hg
          replace O := Aside0.mk (O.out.app2 k); clear k hg p0 p1 p4
          obtain ⟨D0, d0, rfl, hd0⟩ := O.out.f0
          obtain ⟨D1, d1, rfl, _⟩ := O.out.f1
          have HD0 := Aside0.mk hd0; clear hd0
          have u0 := (blk_cell O.out.b2 0).trans rfl; have u1 := (blk_cell O.out.b2 1).trans rfl
          have z0 := blk_frozen O.out.b2 0; have z1 := blk_frozen O.out.b2 1
          have hW : Aside0 (W2 = ws ++ pagesW X gen fr (i + 1)) := ⟨by rw [HW2.out, pagesW_succ, ← List.append_assoc, ← HU.out, ← HKK.out]⟩
          go_upto_region 12 with fail
          generalize hw : World.setCell _ _ _ = w12
          replace O := Aside0.mk (O.out.p2.st2 hw); clear hw u0 u1 z0 z1
          have hdok := (HDK.out (i + 1) (by have := hin.out; omega) (by have := HFUL.out; have := HUl.out; omega)).1
          rw [← hW.out] at hdok
          have HDOK := Aside0.mk hdok; clear hdok
          have p0 := (blk_cell O.out.b0 0).trans rfl; have p1 := (blk_cell O.out.b0 1).trans rfl
          go_wp2_with fail
          refine (specDiskOk_c _ _ _ _ bs W2 true ⟨fun _ => HDOK.out, fun _ => rfl⟩ _ O.out.c1 O.out.c2).mono ?_
          rintro e w13 ⟨rfl, hb⟩
          replace O := Aside0.mk (O.out.below hb); clear hb p0 p1
          go_wp2
          go_roundg (gk - 1)
          case measure => have := HI.out; have := hin.out; omega
          case rel =>
            have e1 := hW.out
            refine ⟨i + 1, D0, D1, d0, d1, ?_, ⟨by have := hin.out; omega, by have := HI.out; have := hin.out; omega, by have := HFUL.out; have := HUl.out; omega, HD0.out⟩, ⟨?_⟩, ⟨?_⟩, ⟨fun _ => ?_⟩⟩
            · have := HKK.out
              first | rfl | (congr 1; omega)
            · rw [← e1]; exact O.out.p1.drop.p1.drop
            · rw [← e1]; exact ⟨O.out.c1, O.out.c2⟩
            · rw [← e1]; exact O.out.q2.p3.drop.only [_, _, _, _]
        · have HFUL := Aside0.mk hful; clear hful
          have E0 : Aside0 (R0 = op0) := ⟨by rw [HAPP.out, if_neg (fun h => by have := HFUL.out; have := HUl.out; have := hin.out; omega)]⟩
          go_wp2_with fail
          refine (l3page_no _ _ _ _ _ _ bs U X kk gen _ HCC.out.1 HCC.out.2 O.out.c1 HCX.out HFUL.out (by omega) hg1 hg2 (by omega)).mono ?_
          intro e w11 hg
          obtain ⟨v0, v1, rfl, k⟩ := own_disk hg
          replace O := Aside0.mk (O.out.app2 k); clear k hg p0 p1 p4
          obtain ⟨D0, d0, rfl, hd0⟩ := O.out.f0
          obtain ⟨D1, d1, rfl, _⟩ := O.out.f1
          have u0 := (blk_cell O.out.b2 0).trans rfl; have u1 := (blk_cell O.out.b2 1).trans rfl
          have z0 := blk_frozen O.out.b2 0; have z1 := blk_frozen O.out.b2 1
          go_upto_region 12 with fail
          generalize hw : World.setCell _ _ _ = w12
          replace O := Aside0.mk (O.out.p2.st2 hw); clear hw u0 u1 z0 z1
          have p0 := (blk_cell O.out.b0 0).trans rfl; have p1 := (blk_cell O.out.b0 1).trans rfl
          go_wp2_with fail
          refine (specDiskOk_c _ _ _ _ [] [] false ⟨fun h => (by cases h), fun h => by have := h.1; simp at this⟩ _ O.out.c1 O.out.c2).mono ?_
          rintro e w13 ⟨rfl, hb⟩
          replace O := Aside0.mk (O.out.below hb); clear hb p0 p1
          have u0 := (blk_cell O.out.b4 0).trans rfl; have u1 := (blk_cell O.out.b4 1).trans rfl; have u2 := (blk_cell O.out.b4 2).trans rfl; have u3 := (blk_cell O.out.b4 3).trans rfl; have u4 := (blk_cell O.out.b4 4).trans rfl; have u5 := (blk_cell O.out.b4 5).trans rfl; have u6 := (blk_cell O.out.b4 6).trans rfl; have u7 := (blk_cell O.out.b4 7).trans rfl
          have z0 := blk_frozen O.out.b4 0; have z1 := blk_frozen O.out.b4 1; have z2 := blk_frozen O.out.b4 2; have z3 := blk_frozen O.out.b4 3; have z4 := blk_frozen O.out.b4 4; have z5 := blk_frozen O.out.b4 5; have z6 := blk_frozen O.out.b4 6; have z7 := blk_frozen O.out.b4 7
          go_wp2
          generalize hw : World.setCell _ _ _ = w90
          replace O := Aside0.mk (O.out.p4.st8 hw); clear hw
          refine bodyPost_ret (results_cell_row rfl _ _ (w.heap.size + 1 + 1) 61 _ (0, 0) _ rfl O.out.b0 Try.underlying61 rfl (by kernel_rfl)) rfl ?_
          refine HQ.out _ _ ?_
          rw [E0.out]
          exact ⟨_, _, _, rfl, (((O.out.only []).nilRow rW 147).nilRow rBS 22).nilRow rN 33⟩
      · have e : i = n := by have h := HKX.out; have := HI.out.1; omega
        subst e
        have hpos : 0 < i := by have := HN9.out; omega
        have O4 := OR.out hpos
        clear O
        have O := Aside0.mk O4.p2; clear O4 OR
        have HU2 : Aside0 (U = V) := ⟨by rw [HU.out, HV.out]⟩
        have HDV := HDK.out i (Nat.le_refl _) HI.out.2.2.1
        rw [← HU.out] at HDV
        have HDV := Aside0.mk HDV
        have HAP : Aside0 (R0 = ⟨true, scanL bs U, bs, U⟩) := ⟨by rw [HAPP.out, if_pos (by have := HI.out; omega), ← HU2.out]⟩
        have HD0 := Aside0.mk HI.out.2.2.2
        go_upto_region 14 with fail
        have p0 := (blk_cell O.out.b0 0).trans rfl; have p1 := (blk_cell O.out.b0 1).trans rfl
        refine sta (fun w' => w'.cell? ⟨g8, 0, none⟩ = some (.slice F0 bs.length h0) ∧ w'.cell? ⟨g8, 1, none⟩ = some (.slice F1 U.length h1)) [4] 5 ⟨p0, p1⟩ (fun hS => ?_)
        clear p0 p1
        replace O := Aside0.mk O.out.drew
        generalize wr.drew = wd at O hS ⊢
        obtain ⟨R, hR⟩ : ∃ R, R = scanL bs U := ⟨_, rfl⟩
        have HRR := Aside0.mk hR; clear hR
        refine tk 0 1 hS ?_
        refine tk 2 5 hS ?_
        refine on 1 7 (fun K hK => ?_)
        refine ca (specScan_yes _ _ _ _ bs U _ O.out.c1 O.out.c2 HD0.out HDV.out.1 HDV.out.2) Try.func73 ?_
        intro e w13 hg
        rw [← HRR.out] at hg
        obtain ⟨vn, rfl, k⟩ := hg
        replace O := Aside0.mk (O.out.app1 k); clear k
        obtain ⟨Cn, cn2, rfl, _⟩ := O.out.f0
        refine ⟨_, rfl, nx hK ⟨(blk_cell O.out.b1 0).trans rfl, (blk_cell O.out.b1 1).trans rfl⟩ (fun hS => ?_)⟩
        clear hK K hS
        refine pu 3 15 ?_
        have u0 := (blk_cell O.out.b4 0).trans rfl; have u1 := (blk_cell O.out.b4 1).trans rfl; have u2 := (blk_cell O.out.b4 2).trans rfl; have u3 := (blk_cell O.out.b4 3).trans rfl; have u4 := (blk_cell O.out.b4 4).trans rfl; have u5 := (blk_cell O.out.b4 5).trans rfl; have u6 := (blk_cell O.out.b4 6).trans rfl; have u7 := (blk_cell O.out.b4 7).trans rfl
        have z0 := blk_frozen O.out.b4 0; have z1 := blk_frozen O.out.b4 1; have z2 := blk_frozen O.out.b4 2; have z3 := blk_frozen O.out.b4 3; have z4 := blk_frozen O.out.b4 4; have z5 := blk_frozen O.out.b4 5; have z6 := blk_frozen O.out.b4 6; have z7 := blk_frozen O.out.b4 7
        refine la 4 31 (fun K hK => ?_)
        refine st ?_
        generalize hw : World.setCell _ _ _ = w14
        replace O := Aside0.mk (O.out.p4.st8 hw); clear hw
        refine nl hK (dn ?_)
        clear hK K u0 u1 u2 u3 u4 u5 u6 u7 z0 z1 z2 z3 z4 z5 z6 z7
        go_wp2
        refine bodyPost_ret (results_cell_row rfl _ _ (w.heap.size + 1 + 1) 61 _ (0, 0) _ rfl O.out.b0 Try.underlying61 rfl (by kernel_rfl)) rfl ?_
        refine HQ.out _ _ ?_
        rw [HAP.out, ← HRR.out]
        exact ⟨_, _, _, rfl, O.out.drop.p1.drop.only [_, _, _]⟩
end Go.Proofs.Ytocdlibnmlcokaa
namespace Go.Proofs.Ytocdlibnmlcokaa
open Go.RowKit Go.Proofs.YtocdlibnmlcokaaW.PrintWords Go.Proofs.YtocdlibnmlcokaaW.PrintLast
set_option linter.unusedVariables false
set_option linter.unusedSimpArgs false
end Go.Proofs.Ytocdlibnmlcokaa
namespace Go.Proofs.Ytocdlibnmlcokaa
open Go.RowKit Go.Proofs.YtocdlibnmlcokaaW.PrintWords Go.Proofs.YtocdlibnmlcokaaW.PrintLast
set_option linter.unusedVariables false
set_option linter.unusedSimpArgs false
end Go.Proofs.Ytocdlibnmlcokaa
namespace Go.Proofs.Ytocdlibnmlcokaa
open Go.RowKit Go.Proofs.YtocdlibnmlcokaaW.PrintWords Go.Proofs.YtocdlibnmlcokaaW.PrintLast
set_option linter.unusedVariables false
namespace Own
theorem p9 {w0 w : World} {L : List Rs} {R R1 R2 R3 R4 R5 R6 R7 R8 R9 : Rs} (h : Own w0 w (R1 :: R2 :: R3 :: R4 :: R5 :: R6 :: R7 :: R8 :: R9 :: R :: L)) : Own w0 w (R :: R1 :: R2 :: R3 :: R4 :: R5 :: R6 :: R7 :: R8 :: R9 :: L) := swap [R1, R2, R3, R4, R5, R6, R7, R8, R9] h
theorem p10 {w0 w : World} {L : List Rs} {R R1 R2 R3 R4 R5 R6 R7 R8 R9 R10 : Rs} (h : Own w0 w (R1 :: R2 :: R3 :: R4 :: R5 :: R6 :: R7 :: R8 :: R9 :: R10 :: R :: L)) : Own w0 w (R :: R1 :: R2 :: R3 :: R4 :: R5 :: R6 :: R7 :: R8 :: R9 :: R10 :: L) := swap [R1, R2, R3, R4, R5, R6, R7, R8, R9, R10] h
theorem p11 {w0 w : World} {L : List Rs} {R R1 R2 R3 R4 R5 R6 R7 R8 R9 R10 R11 : Rs} (h : Own w0 w (R1 :: R2 :: R3 :: R4 :: R5 :: R6 :: R7 :: R8 :: R9 :: R10 :: R11 :: R :: L)) : Own w0 w (R :: R1 :: R2 :: R3 :: R4 :: R5 :: R6 :: R7 :: R8 :: R9 :: R10 :: R11 :: L) := swap [R1, R2, R3, R4, R5, R6, R7, R8, R9, R10, R11] h
theorem p12 {w0 w : World} {L : List Rs} {R R1 R2 R3 R4 R5 R6 R7 R8 R9 R10 R11 R12 : Rs} (h : Own w0 w (R1 :: R2 :: R3 :: R4 :: R5 :: R6 :: R7 :: R8 :: R9 :: R10 :: R11 :: R12 :: R :: L)) : Own w0 w (R :: R1 :: R2 :: R3 :: R4 :: R5 :: R6 :: R7 :: R8 :: R9 :: R10 :: R11 :: R12 :: L) := swap [R1, R2, R3, R4, R5, R6, R7, R8, R9, R10, R11, R12] h
theorem p13 {w0 w : World} {L : List Rs} {R R1 R2 R3 R4 R5 R6 R7 R8 R9 R10 R11 R12 R13 : Rs} (h : Own w0 w (R1 :: R2 :: R3 :: R4 :: R5 :: R6 :: R7 :: R8 :: R9 :: R10 :: R11 :: R12 :: R13 :: R :: L)) : Own w0 w (R :: R1 :: R2 :: R3 :: R4 :: R5 :: R6 :: R7 :: R8 :: R9 :: R10 :: R11 :: R12 :: R13 :: L) := swap [R1, R2, R3, R4, R5, R6, R7, R8, R9, R10, R11, R12, R13] h
theorem p14 {w0 w : World} {L : List Rs} {R R1 R2 R3 R4 R5 R6 R7 R8 R9 R10 R11 R12 R13 R14 : Rs} (h : Own w0 w (R1 :: R2 :: R3 :: R4 :: R5 :: R6 :: R7 :: R8 :: R9 :: R10 :: R11 :: R12 :: R13 :: R14 :: R :: L)) : Own w0 w (R :: R1 :: R2 :: R3 :: R4 :: R5 :: R6 :: R7 :: R8 :: R9 :: R10 :: R11 :: R12 :: R13 :: R14 :: L) := swap [R1, R2, R3, R4, R5, R6, R7, R8, R9, R10, R11, R12, R13, R14] h
theorem b9 {w0 w : World} {L : List Rs} {R1 R2 R3 R4 R5 R6 R7 R8 R9 : Rs} {g t : Nat} {c : Array Value} (h : Own w0 w (R1 :: R2 :: R3 :: R4 :: R5 :: R6 :: R7 :: R8 :: R9 :: Rs.box g t c :: L)) : w.heap[g]? = some (.cells c t (0, 0)) := h.p9.b0
theorem b10 {w0 w : World} {L : List Rs} {R1 R2 R3 R4 R5 R6 R7 R8 R9 R10 : Rs} {g t : Nat} {c : Array Value} (h : Own w0 w (R1 :: R2 :: R3 :: R4 :: R5 :: R6 :: R7 :: R8 :: R9 :: R10 :: Rs.box g t c :: L)) : w.heap[g]? = some (.cells c t (0, 0)) := h.p10.b0
theorem b11 {w0 w : World} {L : List Rs} {R1 R2 R3 R4 R5 R6 R7 R8 R9 R10 R11 : Rs} {g t : Nat} {c : Array Value} (h : Own w0 w (R1 :: R2 :: R3 :: R4 :: R5 :: R6 :: R7 :: R8 :: R9 :: R10 :: R11 :: Rs.box g t c :: L)) : w.heap[g]? = some (.cells c t (0, 0)) := h.p11.b0
theorem b12 {w0 w : World} {L : List Rs} {R1 R2 R3 R4 R5 R6 R7 R8 R9 R10 R11 R12 : Rs} {g t : Nat} {c : Array Value} (h : Own w0 w (R1 :: R2 :: R3 :: R4 :: R5 :: R6 :: R7 :: R8 :: R9 :: R10 :: R11 :: R12 :: Rs.box g t c :: L)) : w.heap[g]? = some (.cells c t (0, 0)) := h.p12.b0
theorem b13 {w0 w : World} {L : List Rs} {R1 R2 R3 R4 R5 R6 R7 R8 R9 R10 R11 R12 R13 : Rs} {g t : Nat} {c : Array Value} (h : Own w0 w (R1 :: R2 :: R3 :: R4 :: R5 :: R6 :: R7 :: R8 :: R9 :: R10 :: R11 :: R12 :: R13 :: Rs.box g t c :: L)) : w.heap[g]? = some (.cells c t (0, 0)) := h.p13.b0
theorem c9 {w0 w : World} {L : List Rs} {R1 R2 R3 R4 R5 R6 R7 R8 R9 : Rs} {α : Type} {r : Rp α} {e n c : Nat} {A : Option Addr} {xs : List α} (h : Own w0 w (R1 :: R2 :: R3 :: R4 :: R5 :: R6 :: R7 :: R8 :: R9 :: Rs.row r e (.slice A n c) xs :: L)) : r.d.C w A xs.length xs := h.p9.c0
theorem c10 {w0 w : World} {L : List Rs} {R1 R2 R3 R4 R5 R6 R7 R8 R9 R10 : Rs} {α : Type} {r : Rp α} {e n c : Nat} {A : Option Addr} {xs : List α} (h : Own w0 w (R1 :: R2 :: R3 :: R4 :: R5 :: R6 :: R7 :: R8 :: R9 :: R10 :: Rs.row r e (.slice A n c) xs :: L)) : r.d.C w A xs.length xs := h.p10.c0
theorem c11 {w0 w : World} {L : List Rs} {R1 R2 R3 R4 R5 R6 R7 R8 R9 R10 R11 : Rs} {α : Type} {r : Rp α} {e n c : Nat} {A : Option Addr} {xs : List α} (h : Own w0 w (R1 :: R2 :: R3 :: R4 :: R5 :: R6 :: R7 :: R8 :: R9 :: R10 :: R11 :: Rs.row r e (.slice A n c) xs :: L)) : r.d.C w A xs.length xs := h.p11.c0
theorem c12 {w0 w : World} {L : List Rs} {R1 R2 R3 R4 R5 R6 R7 R8 R9 R10 R11 R12 : Rs} {α : Type} {r : Rp α} {e n c : Nat} {A : Option Addr} {xs : List α} (h : Own w0 w (R1 :: R2 :: R3 :: R4 :: R5 :: R6 :: R7 :: R8 :: R9 :: R10 :: R11 :: R12 :: Rs.row r e (.slice A n c) xs :: L)) : r.d.C w A xs.length xs := h.p12.c0
theorem c13 {w0 w : World} {L : List Rs} {R1 R2 R3 R4 R5 R6 R7 R8 R9 R10 R11 R12 R13 : Rs} {α : Type} {r : Rp α} {e n c : Nat} {A : Option Addr} {xs : List α} (h : Own w0 w (R1 :: R2 :: R3 :: R4 :: R5 :: R6 :: R7 :: R8 :: R9 :: R10 :: R11 :: R12 :: R13 :: Rs.row r e (.slice A n c) xs :: L)) : r.d.C w A xs.length xs := h.p13.c0
theorem c14 {w0 w : World} {L : List Rs} {R1 R2 R3 R4 R5 R6 R7 R8 R9 R10 R11 R12 R13 R14 : Rs} {α : Type} {r : Rp α} {e n c : Nat} {A : Option Addr} {xs : List α} (h : Own w0 w (R1 :: R2 :: R3 :: R4 :: R5 :: R6 :: R7 :: R8 :: R9 :: R10 :: R11 :: R12 :: R13 :: R14 :: Rs.row r e (.slice A n c) xs :: L)) : r.d.C w A xs.length xs := h.p14.c0
end Own
end Go.Proofs.Ytocdlibnmlcokaa
namespace Go.Proofs.Ytocdlibnmlcokaa
open Go.RowKit Go.Proofs.YtocdlibnmlcokaaW.PrintWords Go.Proofs.YtocdlibnmlcokaaW.PrintLast Go.Proofs.Ytocdlibnmlcokaa.Open
set_option linter.unusedVariables false
set_option linter.unusedSimpArgs false
theorem u8_of {x : Int} (h : (Lit.int .u8 x).wf = true) : 0 ≤ x ∧ x < 256 := by
  simp [Lit.wf] at h
  have e1 : IntKind.u8.min = 0 := by decide
  have e2 : IntKind.u8.max = 255 := by decide
  rw [e1, e2] at h
  omega
theorem found_notes {S : List (List Int)} (h : BlOk S) : (foundL S).1.length ≤ 7112 := by
  have h1 := logBytes_ok h
  have h2 := frames_len (logBytes S).length (logBytes S) h1.1
  unfold foundL framesL; omega
end Go.Proofs.Ytocdlibnmlcokaa
namespace Go.Proofs.Ytocdlibnmlcokaa
open Go.RowKit Go.Proofs.YtocdlibnmlcokaaW.PrintWords Go.Proofs.YtocdlibnmlcokaaW.PrintLast
set_option linter.unusedVariables false
set_option linter.unusedSimpArgs false
structure Cu where
  p : Int
  s : Int
def nxS (xs : List Int) (q : Cu) : Int :=
  if q.p < xs.length then IntKind.u64.wrap (IntKind.u64.wrap (IntKind.u64.wrap (q.s * 6364136223846793005) + rd xs q.p) + 1442695040888963407) else IntKind.u64.wrap (IntKind.u64.wrap (q.s * 6364136223846793005) + 1442695040888963407)
def nxC (xs : List Int) (q : Cu) : Cu := ⟨q.p + 1, nxS xs q⟩
def nxV (xs : List Int) (q : Cu) : Int := if q.p < xs.length then rd xs q.p else nxS xs q / 1099511627776 % 256
theorem nxV_range {xs : List Int} (hb : BsOk xs) (q : Cu) : 0 ≤ nxV xs q ∧ nxV xs q < 256 := by
  unfold nxV
  split
  · exact hb.rd _
  · omega
abbrev cuB (A : Option Addr) (n c : Nat) (q : Cu) : Array Value := #[.slice A n c, .int .i64 q.p, .int .u64 q.s]
theorem Own.st12 {w0 w : World} {L : List Rs} {g t : Nat} {a b c x y : Value} (h : Own w0 w (Rs.box g t #[a, b, c] :: L)) : Own w0 ((w.setCell ⟨g, 1, none⟩ x).setCell ⟨g, 2, none⟩ y) (Rs.box g t #[a, x, y] :: L) :=
  Own.st (j := 2) (u := y) (Own.st (j := 1) (u := x) h rfl #[a, x, c] rfl) rfl #[a, x, y] rfl
theorem Own.st21 {w0 w : World} {L : List Rs} {g t : Nat} {a b c x y : Value} (h : Own w0 w (Rs.box g t #[a, b, c] :: L)) : Own w0 ((w.setCell ⟨g, 2, none⟩ y).setCell ⟨g, 1, none⟩ x) (Rs.box g t #[a, x, y] :: L) :=
  Own.st (j := 1) (u := x) (Own.st (j := 2) (u := y) h rfl #[a, b, y] rfl) rfl #[a, x, y] rfl
set_option maxHeartbeats 4000000 in
set_option maxRecDepth 100000 in
theorem next_c (A : Option Addr) (c : Nat) (xs : List Int) (q : Cu) (g : Nat) {w0 w : World} {L : List Rs} (h : Own w0 w (Rs.box g 123 (cuB A xs.length c q) :: L)) (hx : kB.C w A xs.length xs) (hb : BsOk xs) (h0 : 0 ≤ q.p) (h1 : q.p ≤ 2000000000) :
    Calls Try.prog 141 #[.pointer (some ⟨g, 0, none⟩)] w (fun e w' => e = .returned (.int .i64 (nxV xs q)) ∧ Own w0 w' (Rs.box g 123 (cuB A xs.length c (nxC xs q)) :: L)) := by
  have hl : xs.length ≤ 9223372036854775807 := hx.2.1
  obtain ⟨p, s⟩ := q
  simp only [cuB] at h ⊢ h0 h1
  have O := Aside0.mk h; have HB := Aside0.mk hb; clear h hb
  have q0 := (blk_cell O.out.b0 0).trans rfl; have q1 := (blk_cell O.out.b0 1).trans rfl; have q2 := (blk_cell O.out.b0 2).trans rfl
  have z1 := blk_frozen O.out.b0 1; have z2 := blk_frozen O.out.b0 2
  by_cases hp : p < (xs.length : Int)
  · have HS : Aside0 (nxS xs ⟨p, s⟩ = IntKind.u64.wrap (IntKind.u64.wrap (IntKind.u64.wrap (s * 6364136223846793005) + rd xs p) + 1442695040888963407)) := ⟨if_pos hp⟩
    have HV : Aside0 (nxV xs ⟨p, s⟩ = rd xs p) := ⟨if_pos hp⟩
    obtain ⟨ad, e1, hc1⟩ := Kd.at_int hx p h0 hp
    cases e1
    have hr := HB.out.rd p
    generalize rd xs p = b at hc1 hr HS HV
    have HX := Aside0.mk hx; clear hx
    go_enter Try.func141, Try.ntmps141
    go_wp2
    go_quiet (fail)
    clear q0 q1 q2 z1 z2
    replace O := Aside0.mk (O.out.drewN nq)
    have hc2 := hc1
    generalize hw1 : w.drewN nq = w1 at O ⊢
    replace hc1 : w1.cell? (ad.add p.toNat) = some (.int .u8 b) := by rw [← hw1]; simpa using hc2
    clear hc2 hw1
    have q0 := (blk_cell O.out.b0 0).trans rfl; have q1 := (blk_cell O.out.b0 1).trans rfl
    go_wp2
    go_quiet (fail)
    clear q0 q1 hc1
    replace O := Aside0.mk (O.out.drewN nq)
    generalize hw1 : w1.drewN nq = w2 at O ⊢
    clear hw1
    have q1 := (blk_cell O.out.b0 1).trans rfl; have q2 := (blk_cell O.out.b0 2).trans rfl
    have z1 := blk_frozen O.out.b0 1; have z2 := blk_frozen O.out.b0 2
    go_wp2
    go_ret
    refine ⟨by rw [HV.out]; rfl, ?_⟩
    unfold nxC
    rw [HS.out]
    exact O.out.st12
  · have HS : Aside0 (nxS xs ⟨p, s⟩ = IntKind.u64.wrap (IntKind.u64.wrap (s * 6364136223846793005) + 1442695040888963407)) := ⟨if_neg hp⟩
    have HV : Aside0 (nxV xs ⟨p, s⟩ = nxS xs ⟨p, s⟩ / 1099511627776 % 256) := ⟨if_neg hp⟩
    have HX := Aside0.mk hx; clear hx
    go_enter Try.func141, Try.ntmps141
    go_wp2
    go_quiet (fail)
    clear q0 q1 q2 z1 z2
    replace O := Aside0.mk (O.out.drewN nq)
    generalize hw1 : w.drewN nq = w1 at O ⊢
    clear hw1
    have q1 := (blk_cell O.out.b0 1).trans rfl; have q2 := (blk_cell O.out.b0 2).trans rfl
    have z1 := blk_frozen O.out.b0 1; have z2 := blk_frozen O.out.b0 2
    go_wp2
    go_ret
    refine ⟨?_, ?_⟩
    · rw [HV.out, HS.out]
      generalize u64_wrapE : IntKind.u64.wrap (IntKind.u64.wrap (s * 6364136223846793005) + 1442695040888963407) = S
      have hS : 0 ≤ S ∧ S < 18446744073709551616 := by rw [← u64_wrapE, Math.u64_wrap]; omega
      show Ending.returned (.int .i64 (wrap64 (Go.bits .and .u64 (S / 1099511627776) 255))) = _
      rw [Math.and255 _ (by omega) (by omega), Math.w64 (by omega) (by omega)]
    · unfold nxC
      rw [HS.out]
      exact O.out.st21
def pkV (xs : List Int) (k : Int) (q : Cu) : Int := if k ≤ 1 then 0 else if 200 < k then (nxV xs q * 256 + nxV xs (nxC xs q)) % k else nxV xs q % k
def pkC (xs : List Int) (k : Int) (q : Cu) : Cu := if k ≤ 1 then q else if 200 < k then nxC xs (nxC xs q) else nxC xs q
theorem pkV_range (xs : List Int) (q : Cu) {k : Int} (hk : 1 ≤ k) : 0 ≤ pkV xs k q ∧ pkV xs k q < k := by
  unfold pkV
  split
  · omega
  · split
    · exact ⟨Int.emod_nonneg _ (by omega), Int.emod_lt_of_pos _ (by omega)⟩
    · exact ⟨Int.emod_nonneg _ (by omega), Int.emod_lt_of_pos _ (by omega)⟩
theorem pkC_p (xs : List Int) (k : Int) (q : Cu) : q.p ≤ (pkC xs k q).p ∧ (pkC xs k q).p ≤ q.p + 2 := by
  unfold pkC
  split
  · omega
  · split
    · show _ ≤ q.p + 1 + 1 ∧ q.p + 1 + 1 ≤ _; omega
    · show _ ≤ q.p + 1 ∧ q.p + 1 ≤ _; omega
set_option maxHeartbeats 4000000 in
set_option maxRecDepth 100000 in
theorem pick_c (A : Option Addr) (c : Nat) (xs : List Int) (q : Cu) (g : Nat) (k : Int) {w0 w : World} {L : List Rs} (h : Own w0 w (Rs.box g 123 (cuB A xs.length c q) :: L)) (hx : kB.C w0 A xs.length xs) (hb : BsOk xs) (h0 : 0 ≤ q.p) (h1 : q.p ≤ 1000000000) (hk : 0 ≤ k) (hk2 : k ≤ 100000) :
    Calls Try.prog 95 #[.pointer (some ⟨g, 0, none⟩), .int .i64 k] w (fun e w' => e = .returned (.int .i64 (pkV xs k q)) ∧ Own w0 w' (Rs.box g 123 (cuB A xs.length c (pkC xs k q)) :: L)) := by
  have O := Aside0.mk h; have HB := Aside0.mk hb; have HX := Aside0.mk hx; clear h hb hx
  by_cases k1 : k ≤ 1
  · have HV : Aside0 (pkV xs k q = 0) := ⟨if_pos k1⟩
    have HC : Aside0 (pkC xs k q = q) := ⟨if_pos k1⟩
    go_enter Try.func95, Try.ntmps95
    go_wp2_with fail
    go_ret
    exact ⟨by rw [HV.out]; rfl, by rw [HC.out]; exact O.out⟩
  · have hr1 := nxV_range HB.out q
    have hr2 := nxV_range HB.out (nxC xs q)
    by_cases k2 : 200 < k
    · have HV : Aside0 (pkV xs k q = (nxV xs q * 256 + nxV xs (nxC xs q)) % k) := ⟨(if_neg k1).trans (if_pos k2)⟩
      have HC : Aside0 (pkC xs k q = nxC xs (nxC xs q)) := ⟨(if_neg k1).trans (if_pos k2)⟩
      go_enter Try.func95, Try.ntmps95
      go_wp2_with fail
      refine (next_c A c xs q g O.out (Kd.C_below HX.out O.out.bel) HB.out h0 (by omega)).mono ?_
      rintro e w1 ⟨rfl, hO⟩
      clear O
      have O := Aside0.mk hO; clear hO
      go_wp2_with fail
      refine (next_c A c xs (nxC xs q) g O.out (Kd.C_below HX.out O.out.bel) HB.out (by show 0 ≤ q.p + 1; omega) (by show q.p + 1 ≤ _; omega)).mono ?_
      rintro e w1 ⟨rfl, hO⟩
      clear O
      have O := Aside0.mk hO; clear hO
      have ht : Int.tmod (nxV xs q * 256 + nxV xs (nxC xs q)) k = (nxV xs q * 256 + nxV xs (nxC xs q)) % k := Int.tmod_eq_emod_of_nonneg (by omega)
      have hm0 := Int.emod_nonneg (nxV xs q * 256 + nxV xs (nxC xs q)) (by omega : k ≠ 0)
      have hm1 := Int.emod_lt_of_pos (nxV xs q * 256 + nxV xs (nxC xs q)) (by omega : 0 < k)
      have hz : ¬ k = 0 := by omega
      generalize (nxV xs q * 256 + nxV xs (nxC xs q)) % k = r at ht hm0 hm1 HV
      go_wp2
      go_ret
      exact ⟨by rw [HV.out]; rfl, by rw [HC.out]; exact O.out⟩
    · have HV : Aside0 (pkV xs k q = nxV xs q % k) := ⟨(if_neg k1).trans (if_neg k2)⟩
      have HC : Aside0 (pkC xs k q = nxC xs q) := ⟨(if_neg k1).trans (if_neg k2)⟩
      go_enter Try.func95, Try.ntmps95
      go_wp2_with fail
      refine (next_c A c xs q g O.out (Kd.C_below HX.out O.out.bel) HB.out h0 (by omega)).mono ?_
      rintro e w1 ⟨rfl, hO⟩
      clear O
      have O := Aside0.mk hO; clear hO
      have ht : Int.tmod (nxV xs q) k = nxV xs q % k := Int.tmod_eq_emod_of_nonneg (by omega)
      have hm0 := Int.emod_nonneg (nxV xs q) (by omega : k ≠ 0)
      have hm1 := Int.emod_lt_of_pos (nxV xs q) (by omega : 0 < k)
      have hz : ¬ k = 0 := by omega
      generalize nxV xs q % k = r at ht hm0 hm1 HV
      go_wp2
      go_ret
      exact ⟨by rw [HV.out]; rfl, by rw [HC.out]; exact O.out⟩
end Go.Proofs.Ytocdlibnmlcokaa
namespace Go.Proofs.Ytocdlibnmlcokaa
open Go.RowKit Go.Proofs.YtocdlibnmlcokaaW.PrintWords Go.Proofs.YtocdlibnmlcokaaW.PrintLast
set_option linter.unusedVariables false
set_option linter.unusedSimpArgs false
def ifV (b : Bool) (x y : Int) : Int := if b then x else y
def ifC (b : Bool) (x y : Cu) : Cu := if b then x else y
def tx1C (xs : List Int) (q : Cu) : Cu := pkC xs 6 (pkC xs 9 q)
def tx1B (xs : List Int) (q : Cu) : Bool := decide (pkV xs 6 (pkC xs 9 q) = 0)
def tx2N (xs : List Int) (q : Cu) : Int := ifV (tx1B xs q) (pkV xs 80 (tx1C xs q)) (pkV xs 9 q)
def tx2C (xs : List Int) (q : Cu) : Cu := ifC (tx1B xs q) (pkC xs 80 (tx1C xs q)) (tx1C xs q)
def tx3B (xs : List Int) (q : Cu) : Bool := decide (pkV xs 30 (tx2C xs q) = 0)
def tx3C (xs : List Int) (q : Cu) : Cu := pkC xs 30 (tx2C xs q)
def txN (xs : List Int) (q : Cu) : Int := ifV (tx3B xs q) (200 - pkV xs 2 (tx3C xs q)) (tx2N xs q)
def txQ (xs : List Int) (q : Cu) : Cu := ifC (tx3B xs q) (pkC xs 2 (tx3C xs q)) (tx3C xs q)
def ltr (v : Int) : ByteArray := ⟨[UInt8.ofNat (97 + v).toNat].toArray⟩
theorem ltr_size (v : Int) : (ltr v).size = 1 := rfl
theorem ltr_c (w : World) (v : Int) (h0 : 0 ≤ v) (h1 : v < 100) : (convert 22 9 (.slice (some ⟨w.heap.size, 0, none⟩) 1 1)).run Try.prog (w.alloc (.cells #[.int .u8 (97 + v)] 5)) = .ok (.string (ltr v)) (w.alloc (.cells #[.int .u8 (97 + v)] 5)) := by
  refine run_convert_bytes_back _ 22 9 5 ⟨w.heap.size, 0, none⟩ 1 [UInt8.ofNat (97 + v).toNat] Try.underlying22 Try.underlying5 Try.underlying9 (fun j hj => ?_)
  obtain rfl : j = 0 := by simp at hj; omega
  have e : (((UInt8.ofNat (97 + v).toNat).toNat : Nat) : Int) = 97 + v := by
    rw [UInt8.toNat_ofNat']; omega
  show _ = some (Value.int .u8 (((UInt8.ofNat (97 + v).toNat).toNat : Nat) : Int))
  rw [e]
  exact (blk_cell (blk_new w (.cells #[.int .u8 (97 + v)] 5)) 0).trans rfl
def txL (xs : List Int) : Nat → ByteArray → Cu → ByteArray × Cu
  | 0, s, q => (s, q)
  | k + 1, s, q => txL xs k (s ++ ltr (pkV xs 4 q)) (pkC xs 4 q)
set_option maxHeartbeats 4000000 in
set_option maxRecDepth 100000 in
theorem text_c (A : Option Addr) (c : Nat) (xs : List Int) (q : Cu) (g : Nat) {w0 w : World} {L : List Rs} (h : Own w0 w (Rs.box g 123 (cuB A xs.length c q) :: L)) (hx : kB.C w0 A xs.length xs) (hb : BsOk xs) (h0 : 0 ≤ q.p) (h1 : q.p ≤ 900000000) :
    Calls Try.prog 143 #[.pointer (some ⟨g, 0, none⟩)] w (fun e w' => e = .returned (.string (txL xs (txN xs q).toNat { data := #[] } (txQ xs q)).1) ∧ Own w0 w' (Rs.box g 123 (cuB A xs.length c (txL xs (txN xs q).toNat { data := #[] } (txQ xs q)).2) :: L)) := by
  obtain ⟨R, hR⟩ : ∃ R, R = txL xs (txN xs q).toNat { data := #[] } (txQ xs q) := ⟨_, rfl⟩
  rw [← hR]
  suffices H : ∀ Q : Ending → World → Prop, (∀ e w', e = .returned (.string R.1) ∧ Own w0 w' (Rs.box g 123 (cuB A xs.length c R.2) :: L) → Q e w') → Calls Try.prog 143 #[.pointer (some ⟨g, 0, none⟩)] w Q from H _ (fun e w' h => h)
  intro Q hQ
  have O := Aside0.mk h; have HB := Aside0.mk hb; have HX := Aside0.mk hx; have HQ := Aside0.mk hQ; have HR := Aside0.mk hR; clear h hb hx hQ hR
  have r1 := pkV_range xs q (k := 9) (by omega)
  have p1 := pkC_p xs 9 q
  go_enter Try.func143, Try.ntmps143
  go_upto_region 2 with (fail)
  rename_i K hK
  have HK := Aside0.mk hK; clear hK
  go_wp2_with fail
  refine (pick_c A c xs q g 9 O.out HX.out HB.out h0 (by omega) (by omega) (by omega)).mono ?_
  rintro e w1 ⟨rfl, hO⟩
  clear O; have O := Aside0.mk hO; clear hO
  go_wp2
  refine HK.out _ _ ?_
  clear HK K
  go_step
  go_cut [4] from 5 (fun v wc => v = .int .i64 (tx2N xs q) ∧ Aside0 (0 ≤ tx2N xs q ∧ tx2N xs q < 80) ∧ Aside0 (q.p ≤ (tx2C xs q).p ∧ (tx2C xs q).p ≤ q.p + 6) ∧ Aside0 (Own w0 wc (Rs.box g 123 (cuB A xs.length c (tx2C xs q)) :: L)))
  case first =>
    have p2 := pkC_p xs 6 (pkC xs 9 q)
    have hq2 : q.p ≤ (tx1C xs q).p ∧ (tx1C xs q).p ≤ q.p + 4 := by unfold tx1C; omega
    have hB : decide (pkV xs 6 (pkC xs 9 q) = 0) = tx1B xs q := rfl
    have hN : tx2N xs q = ifV (tx1B xs q) (pkV xs 80 (tx1C xs q)) (pkV xs 9 q) := rfl
    have hC : tx2C xs q = ifC (tx1B xs q) (pkC xs 80 (tx1C xs q)) (tx1C xs q) := rfl
    go_wp2_with fail
    refine (pick_c A c xs _ g 6 O.out HX.out HB.out (by omega) (by omega) (by omega) (by omega)).mono ?_
    rintro e w1 ⟨rfl, hO⟩
    clear O; have O := Aside0.mk hO; clear hO
    rw [show pkC xs 6 (pkC xs 9 q) = tx1C xs q from rfl] at O
    generalize pkV xs 6 (pkC xs 9 q) = v6 at hB ⊢
    generalize tx1B xs q = b1 at hB hN hC
    generalize pkV xs 9 q = n0 at r1 hN ⊢
    generalize tx1C xs q = q2 at hq2 hN hC O
    have HN := Aside0.mk hN; have HC := Aside0.mk hC; clear hN hC p1 p2
    by_cases h6 : v6 = 0
    · have hb1 : b1 = true := by rw [← hB]; exact decide_eq_true h6
      subst hb1
      have HC' : Aside0 (tx2C xs q = pkC xs 80 q2) := ⟨HC.out⟩
      have HN' : Aside0 (tx2N xs q = pkV xs 80 q2) := ⟨HN.out⟩
      have r2 := pkV_range xs q2 (k := 80) (by omega)
      have p3 := pkC_p xs 80 q2
      obtain ⟨E6, _⟩ := eqT h6
      clear h6 hB
      go_wp2_with fail
      refine (pick_c A c xs _ g 80 O.out HX.out HB.out (by omega) (by omega) (by omega) (by omega)).mono ?_
      rintro e w1 ⟨rfl, hO⟩
      clear O; have O := Aside0.mk hO; clear hO
      go_wp2
      go_meet
      case rel => exact ⟨by rw [HN'.out], ⟨by rw [HN'.out]; omega⟩, ⟨by rw [HC'.out]; omega⟩, ⟨by rw [HC'.out]; exact O.out⟩⟩
    · have hb1 : b1 = false := by rw [← hB]; exact decide_eq_false h6
      subst hb1
      have HC' : Aside0 (tx2C xs q = q2) := ⟨HC.out⟩
      have HN' : Aside0 (tx2N xs q = n0) := ⟨HN.out⟩
      obtain ⟨E6, _⟩ := eqF h6
      clear h6 hB
      go_wp2
      go_meet
      case rel => exact ⟨by rw [HN'.out], ⟨by rw [HN'.out]; omega⟩, ⟨by rw [HC'.out]; omega⟩, ⟨by rw [HC'.out]; exact O.out⟩⟩
  case rest =>
    clear O p1 r1
    obtain ⟨rfl, r2, p2, O⟩ := hcut
    rename_i K hK
    refine hK _ _ ?_
    clear hK K
    go_step
    go_cut [4] from 7 (fun v wc => v = .int .i64 (txN xs q) ∧ Aside0 (0 ≤ txN xs q ∧ txN xs q ≤ 200) ∧ Aside0 (q.p ≤ (txQ xs q).p ∧ (txQ xs q).p ≤ q.p + 10) ∧ Aside0 (Own w0 wc (Rs.box g 123 (cuB A xs.length c (txQ xs q)) :: L)))
    case first =>
      have p3 := pkC_p xs 30 (tx2C xs q)
      have hB : decide (pkV xs 30 (tx2C xs q) = 0) = tx3B xs q := rfl
      have hN : txN xs q = ifV (tx3B xs q) (200 - pkV xs 2 (tx3C xs q)) (tx2N xs q) := rfl
      have hC : txQ xs q = ifC (tx3B xs q) (pkC xs 2 (tx3C xs q)) (tx3C xs q) := rfl
      have hq2 : q.p ≤ (tx3C xs q).p ∧ (tx3C xs q).p ≤ q.p + 8 := by have := p2.out; unfold tx3C; omega
      have p2' := p2.out; have r2' := r2.out
      go_wp2_with fail
      refine (pick_c A c xs _ g 30 O.out HX.out HB.out (by omega) (by omega) (by omega) (by omega)).mono ?_
      rintro e w1 ⟨rfl, hO⟩
      clear O; have O := Aside0.mk hO; clear hO
      rw [show pkC xs 30 (tx2C xs q) = tx3C xs q from rfl] at O
      generalize pkV xs 30 (tx2C xs q) = v6 at hB ⊢
      generalize tx3B xs q = b1 at hB hN hC
      generalize tx2N xs q = n0 at r2 hN r2' ⊢
      generalize tx3C xs q = q2 at hq2 hN hC O
      have HN := Aside0.mk hN; have HC := Aside0.mk hC; clear hN hC p2 p2' p3 r2
      by_cases h6 : v6 = 0
      · have hb1 : b1 = true := by rw [← hB]; exact decide_eq_true h6
        subst hb1
        have HC' : Aside0 (txQ xs q = pkC xs 2 q2) := ⟨HC.out⟩
        have HN' : Aside0 (txN xs q = 200 - pkV xs 2 q2) := ⟨HN.out⟩
        have r2 := pkV_range xs q2 (k := 2) (by omega)
        have p3 := pkC_p xs 2 q2
        obtain ⟨E6, _⟩ := eqT h6
        clear h6 hB
        go_wp2_with fail
        refine (pick_c A c xs _ g 2 O.out HX.out HB.out (by omega) (by omega) (by omega) (by omega)).mono ?_
        rintro e w1 ⟨rfl, hO⟩
        clear O; have O := Aside0.mk hO; clear hO
        go_wp2
        go_meet
        case rel => exact ⟨by rw [HN'.out], ⟨by rw [HN'.out]; omega⟩, ⟨by rw [HC'.out]; omega⟩, ⟨by rw [HC'.out]; exact O.out⟩⟩
      · have hb1 : b1 = false := by rw [← hB]; exact decide_eq_false h6
        subst hb1
        have HC' : Aside0 (txQ xs q = q2) := ⟨HC.out⟩
        have HN' : Aside0 (txN xs q = n0) := ⟨HN.out⟩
        obtain ⟨E6, _⟩ := eqF h6
        clear h6 hB
        go_wp2
        go_meet
        case rel => exact ⟨by rw [HN'.out], ⟨by rw [HN'.out]; omega⟩, ⟨by rw [HC'.out]; omega⟩, ⟨by rw [HC'.out]; exact O.out⟩⟩
    case rest =>
      clear O p2 r2
      obtain ⟨rfl, r2, p2, O⟩ := hcut
      obtain ⟨q5, hq5⟩ : ∃ q5, q5 = txQ xs q := ⟨_, rfl⟩
      obtain ⟨n, hn⟩ : ∃ n : Nat, (n : Int) = txN xs q := ⟨(txN xs q).toNat, by have := r2.out; omega⟩
      have hn2 : (txN xs q).toNat = n := by omega
      rw [hn2, ← hq5] at HR
      rw [← hq5] at O p2
      rw [← hn] at r2
      have hn200 : n ≤ 200 := by have := r2.out; omega
      have hp5 : 0 ≤ q5.p ∧ q5.p ≤ 900000010 := by have := p2.out; omega
      rw [show (Value.int .i64 (txN xs q)) = .int .i64 (n : Int) by rw [hn]]
      clear hn hn2 hq5 r2 p2
      rename_i K hK
      refine hK _ _ ?_
      clear hK K
      go_step
      go_wp2
      go_loopg [3, 4] (n + 1) (fun m vs vi wr => ∃ (j : Nat) (s : ByteArray) (q' : Cu), vi = .int .i64 j ∧ vs = .string s ∧ Aside0 (j ≤ n ∧ j + 1 ≤ m ∧ s.size + j = n ∧ 0 ≤ q'.p ∧ q'.p + 2 * j ≤ q5.p + 2 * n) ∧ Aside0 (R = txL xs j s q') ∧ Aside0 (Own w0 wr (Rs.box g 123 (cuB A xs.length c q') :: L)))
      case atStart => exact ⟨n, { data := #[] }, q5, rfl, rfl, ⟨by omega, by omega, by simp [ByteArray.size], by omega, by omega⟩, HR, O⟩
      case round =>
        clear O HR
        obtain ⟨j, s, q', rfl, rfl, HJ, HR, O⟩ := hrel
        cases j with
        | zero =>
          go_wp2
          exact HQ.out _ _ ⟨by rw [HR.out]; rfl, by rw [HR.out]; exact O.out⟩
        | succ j =>
          have hj := HJ.out
          have r3 := pkV_range xs q' (k := 4) (by omega)
          have p3 := pkC_p xs 4 q'
          go_wp2_with fail
          refine (pick_c A c xs _ g 4 O.out HX.out HB.out (by omega) (by omega) (by omega) (by omega)).mono ?_
          rintro e w1 ⟨rfl, hO⟩
          clear O; have O := Aside0.mk hO; clear hO
          have hcv := ltr_c w1 (pkV xs 4 q') r3.1 (by omega)
          have hss : s.size + (ltr (pkV xs 4 q')).size ≤ 9223372036854775807 := by rw [ltr_size]; omega
          generalize hl : ltr (pkV xs 4 q') = lt at hcv hss
          have HL := Aside0.mk hl; clear hl
          go_upto_region 8 with (fail)
          generalize hw : w1.alloc _ = w2
          replace O := Aside0.mk (O.out.of hw).drop; clear hw hcv
          go_wp2
          have hls : lt.size = 1 := by rw [← HL.out]; rfl
          go_roundg (gk - 1)
          case measure => omega
          case rel => exact ⟨j, s ++ lt, pkC xs 4 q', by first | rfl | (congr 1; omega), rfl, ⟨by omega, by omega, by rw [ByteArray.size_append]; omega, by omega, by omega⟩, ⟨by rw [HR.out, ← HL.out]; rfl⟩, O⟩
end Go.Proofs.Ytocdlibnmlcokaa
namespace Go.Proofs.Ytocdlibnmlcokaa
open Go.RowKit Go.Proofs.YtocdlibnmlcokaaW.PrintWords Go.Proofs.YtocdlibnmlcokaaW.PrintLast
set_option linter.unusedVariables false
set_option linter.unusedSimpArgs false
def txS (xs : List Int) (q : Cu) : ByteArray := (txL xs (txN xs q).toNat { data := #[] } (txQ xs q)).1
def txE (xs : List Int) (q : Cu) : Cu := (txL xs (txN xs q).toNat { data := #[] } (txQ xs q)).2
theorem txL_size (xs : List Int) : ∀ n s q, (txL xs n s q).1.size = s.size + n
  | 0, s, q => rfl
  | n + 1, s, q => by
    show (txL xs n (s ++ ltr (pkV xs 4 q)) (pkC xs 4 q)).1.size = _
    rw [txL_size xs n, ByteArray.size_append, ltr_size]; omega
theorem txL_p (xs : List Int) : ∀ n s q, q.p ≤ (txL xs n s q).2.p ∧ (txL xs n s q).2.p ≤ q.p + 2 * n
  | 0, s, q => ⟨Int.le_refl _, by show q.p ≤ _; omega⟩
  | n + 1, s, q => by
    have h := txL_p xs n (s ++ ltr (pkV xs 4 q)) (pkC xs 4 q)
    have h2 := pkC_p xs 4 q
    show q.p ≤ (txL xs n (s ++ ltr (pkV xs 4 q)) (pkC xs 4 q)).2.p ∧ (txL xs n (s ++ ltr (pkV xs 4 q)) (pkC xs 4 q)).2.p ≤ _
    omega
theorem ifC_p (b : Bool) (x y : Cu) (lo hi : Int) (hx : lo ≤ x.p ∧ x.p ≤ hi) (hy : lo ≤ y.p ∧ y.p ≤ hi) : lo ≤ (ifC b x y).p ∧ (ifC b x y).p ≤ hi := by cases b <;> assumption
theorem ifV_r (b : Bool) (x y lo hi : Int) (hx : lo ≤ x ∧ x ≤ hi) (hy : lo ≤ y ∧ y ≤ hi) : lo ≤ ifV b x y ∧ ifV b x y ≤ hi := by cases b <;> assumption
theorem txN_range (xs : List Int) (q : Cu) : 0 ≤ txN xs q ∧ txN xs q ≤ 200 := by
  have a := pkV_range xs q (k := 9) (by omega)
  have b := pkV_range xs (tx1C xs q) (k := 80) (by omega)
  have c := pkV_range xs (tx3C xs q) (k := 2) (by omega)
  have d : 0 ≤ tx2N xs q ∧ tx2N xs q ≤ 200 := ifV_r _ _ _ _ _ (by omega) (by omega)
  exact ifV_r _ _ _ _ _ (by omega) d
theorem txQ_p (xs : List Int) (q : Cu) : q.p ≤ (txQ xs q).p ∧ (txQ xs q).p ≤ q.p + 10 := by
  have a := pkC_p xs 9 q
  have b : q.p ≤ (tx1C xs q).p ∧ (tx1C xs q).p ≤ q.p + 4 := by have := pkC_p xs 6 (pkC xs 9 q); unfold tx1C; omega
  have c : q.p ≤ (tx2C xs q).p ∧ (tx2C xs q).p ≤ q.p + 6 := by
    have := pkC_p xs 80 (tx1C xs q)
    exact ifC_p _ _ _ _ _ (by omega) (by omega)
  have d : q.p ≤ (tx3C xs q).p ∧ (tx3C xs q).p ≤ q.p + 8 := by have := pkC_p xs 30 (tx2C xs q); unfold tx3C; omega
  have := pkC_p xs 2 (tx3C xs q)
  exact ifC_p _ _ _ _ _ (by omega) (by omega)
theorem txS_size (xs : List Int) (q : Cu) : (txS xs q).size ≤ 200 := by
  have := txN_range xs q
  unfold txS
  rw [txL_size]
  show 0 + _ ≤ _
  omega
theorem txE_p (xs : List Int) (q : Cu) : q.p ≤ (txE xs q).p ∧ (txE xs q).p ≤ q.p + 410 := by
  have a := txN_range xs q
  have b := txQ_p xs q
  have c := txL_p xs (txN xs q).toNat { data := #[] } (txQ xs q)
  unfold txE; omega
def whV (xs : List Int) (q : Cu) : Int :=
  if pkV xs 6 q = 0 then 9223372036854775807 - pkV xs 3 (pkC xs 6 q) else if pkV xs 6 q = 1 then -9223372036854775808 + pkV xs 3 (pkC xs 6 q) else if pkV xs 6 q = 2 then pkV xs 70000 (pkC xs 6 q) - 35000 else pkV xs 12 (pkC xs 6 q) - 3
def whC (xs : List Int) (q : Cu) : Cu :=
  if pkV xs 6 q = 0 then pkC xs 3 (pkC xs 6 q) else if pkV xs 6 q = 1 then pkC xs 3 (pkC xs 6 q) else if pkV xs 6 q = 2 then pkC xs 70000 (pkC xs 6 q) else pkC xs 12 (pkC xs 6 q)
theorem whV_range (xs : List Int) (q : Cu) : -9223372036854775808 ≤ whV xs q ∧ whV xs q ≤ 9223372036854775807 := by
  have a := pkV_range xs (pkC xs 6 q) (k := 3) (by omega)
  have b := pkV_range xs (pkC xs 6 q) (k := 70000) (by omega)
  have c := pkV_range xs (pkC xs 6 q) (k := 12) (by omega)
  unfold whV
  repeat' split
  all_goals omega
theorem whC_p (xs : List Int) (q : Cu) : q.p ≤ (whC xs q).p ∧ (whC xs q).p ≤ q.p + 4 := by
  have a := pkC_p xs 6 q
  have b := pkC_p xs 3 (pkC xs 6 q)
  have c := pkC_p xs 70000 (pkC xs 6 q)
  have d := pkC_p xs 12 (pkC xs 6 q)
  unfold whC
  repeat' split
  all_goals omega
set_option maxHeartbeats 4000000 in
set_option maxRecDepth 100000 in
theorem whole_c (A : Option Addr) (c : Nat) (xs : List Int) (q : Cu) (g : Nat) {w0 w : World} {L : List Rs} (h : Own w0 w (Rs.box g 123 (cuB A xs.length c q) :: L)) (hx : kB.C w0 A xs.length xs) (hb : BsOk xs) (h0 : 0 ≤ q.p) (h1 : q.p ≤ 900000000) :
    Calls Try.prog 144 #[.pointer (some ⟨g, 0, none⟩)] w (fun e w' => e = .returned (.int .i64 (whV xs q)) ∧ Own w0 w' (Rs.box g 123 (cuB A xs.length c (whC xs q)) :: L)) := by
  obtain ⟨V, hV⟩ : ∃ V, V = whV xs q := ⟨_, rfl⟩
  obtain ⟨C, hC⟩ : ∃ C, C = whC xs q := ⟨_, rfl⟩
  rw [← hV, ← hC]
  have O := Aside0.mk h; have HB := Aside0.mk hb; have HX := Aside0.mk hx; clear h hb hx
  have r1 := pkV_range xs q (k := 6) (by omega)
  have p1 := pkC_p xs 6 q
  unfold whV at hV
  unfold whC at hC
  have HV := Aside0.mk hV; have HC := Aside0.mk hC; clear hV hC
  go_enter Try.func144, Try.ntmps144
  go_wp2_with fail
  refine (pick_c A c xs q g 6 O.out HX.out HB.out h0 (by omega) (by omega) (by omega)).mono ?_
  rintro e w1 ⟨rfl, hO⟩
  clear O; have O := Aside0.mk hO; clear hO
  generalize pkV xs 6 q = v at r1 HV HC ⊢
  generalize pkC xs 6 q = q1 at p1 HV HC O
  by_cases v0 : v = 0
  · replace HV : Aside0 (V = 9223372036854775807 - pkV xs 3 q1) := ⟨by have := HV.out; rwa [if_pos v0] at this⟩
    replace HC : Aside0 (C = pkC xs 3 q1) := ⟨by have := HC.out; rwa [if_pos v0] at this⟩
    have r2 := pkV_range xs q1 (k := 3) (by omega)
    obtain ⟨E, _⟩ := eqT v0
    clear v0
    go_wp2_with fail
    refine (pick_c A c xs q1 g 3 O.out HX.out HB.out (by omega) (by omega) (by omega) (by omega)).mono ?_
    rintro e w1 ⟨rfl, hO⟩
    clear O; have O := Aside0.mk hO; clear hO
    go_wp2
    go_ret
    exact ⟨by rw [HV.out]; rfl, by rw [HC.out]; exact O.out⟩
  · by_cases v1 : v = 1
    · replace HV : Aside0 (V = -9223372036854775808 + pkV xs 3 q1) := ⟨by have := HV.out; rwa [if_neg v0, if_pos v1] at this⟩
      replace HC : Aside0 (C = pkC xs 3 q1) := ⟨by have := HC.out; rwa [if_neg v0, if_pos v1] at this⟩
      have r2 := pkV_range xs q1 (k := 3) (by omega)
      obtain ⟨E0, _⟩ := eqF v0
      obtain ⟨E, _⟩ := eqT v1
      clear v0 v1
      go_wp2_with fail
      refine (pick_c A c xs q1 g 3 O.out HX.out HB.out (by omega) (by omega) (by omega) (by omega)).mono ?_
      rintro e w1 ⟨rfl, hO⟩
      clear O; have O := Aside0.mk hO; clear hO
      go_wp2
      go_ret
      exact ⟨by rw [HV.out]; rfl, by rw [HC.out]; exact O.out⟩
    · by_cases v2 : v = 2
      · replace HV : Aside0 (V = pkV xs 70000 q1 - 35000) := ⟨by have := HV.out; rwa [if_neg v0, if_neg v1, if_pos v2] at this⟩
        replace HC : Aside0 (C = pkC xs 70000 q1) := ⟨by have := HC.out; rwa [if_neg v0, if_neg v1, if_pos v2] at this⟩
        have r2 := pkV_range xs q1 (k := 70000) (by omega)
        obtain ⟨E0, _⟩ := eqF v0
        obtain ⟨E1, _⟩ := eqF v1
        obtain ⟨E, _⟩ := eqT v2
        clear v0 v1 v2
        go_wp2_with fail
        refine (pick_c A c xs q1 g 70000 O.out HX.out HB.out (by omega) (by omega) (by omega) (by omega)).mono ?_
        rintro e w1 ⟨rfl, hO⟩
        clear O; have O := Aside0.mk hO; clear hO
        go_wp2
        go_ret
        exact ⟨by rw [HV.out]; rfl, by rw [HC.out]; exact O.out⟩
      · replace HV : Aside0 (V = pkV xs 12 q1 - 3) := ⟨by have := HV.out; rwa [if_neg v0, if_neg v1, if_neg v2] at this⟩
        replace HC : Aside0 (C = pkC xs 12 q1) := ⟨by have := HC.out; rwa [if_neg v0, if_neg v1, if_neg v2] at this⟩
        have r2 := pkV_range xs q1 (k := 12) (by omega)
        obtain ⟨E0, _⟩ := eqF v0
        obtain ⟨E1, _⟩ := eqF v1
        obtain ⟨E, _⟩ := eqF v2
        clear v0 v1 v2
        go_wp2_with fail
        refine (pick_c A c xs q1 g 12 O.out HX.out HB.out (by omega) (by omega) (by omega) (by omega)).mono ?_
        rintro e w1 ⟨rfl, hO⟩
        clear O; have O := Aside0.mk hO; clear hO
        go_wp2
        go_ret
        exact ⟨by rw [HV.out]; rfl, by rw [HC.out]; exact O.out⟩
def nt1 (xs : List Int) (q : Cu) : Cu := pkC xs 200 q
def nt2 (xs : List Int) (q : Cu) : Cu := pkC xs 5 (nt1 xs q)
def nt3 (xs : List Int) (q : Cu) : Cu := pkC xs 6 (nt2 xs q)
def nt4 (xs : List Int) (q : Cu) : Cu := pkC xs 50 (nt3 xs q)
def nt5 (xs : List Int) (q : Cu) : Cu := txE xs (nt4 xs q)
def nt6 (xs : List Int) (q : Cu) : Cu := pkC xs 8 (nt5 xs q)
def ntB (xs : List Int) (q : Cu) : Bool := decide (pkV xs 8 (nt5 xs q) = 0)
def ntV (xs : List Int) (q : Cu) : Nt := ⟨pkV xs 200 q, pkV xs 5 (nt1 xs q), pkV xs 6 (nt2 xs q), ifV (ntB xs q) (whV xs (nt6 xs q)) (pkV xs 50 (nt3 xs q) - 10), txS xs (nt4 xs q)⟩
def ntC (xs : List Int) (q : Cu) : Cu := ifC (ntB xs q) (whC xs (nt6 xs q)) (nt6 xs q)
theorem ntV_ok (xs : List Int) (q : Cu) : NtOk (ntV xs q) ∧ -9223372036854775808 ≤ (ntV xs q).n ∧ (ntV xs q).n ≤ 9223372036854775807 := by
  have a := pkV_range xs q (k := 200) (by omega)
  have b := pkV_range xs (nt1 xs q) (k := 5) (by omega)
  have c := pkV_range xs (nt2 xs q) (k := 6) (by omega)
  have d := pkV_range xs (nt3 xs q) (k := 50) (by omega)
  have e := whV_range xs (nt6 xs q)
  have f := txS_size xs (nt4 xs q)
  refine ⟨⟨?_, ?_, ?_, f⟩, ifV_r _ _ _ _ _ e (by omega)⟩
  · show 0 ≤ pkV xs 200 q ∧ pkV xs 200 q ≤ _; omega
  · show 0 ≤ pkV xs 5 (nt1 xs q) ∧ pkV xs 5 (nt1 xs q) ≤ _; omega
  · show 0 ≤ pkV xs 6 (nt2 xs q) ∧ pkV xs 6 (nt2 xs q) ≤ _; omega
theorem nt_p (xs : List Int) (q : Cu) : (q.p ≤ (nt1 xs q).p ∧ (nt1 xs q).p ≤ q.p + 2) ∧ (q.p ≤ (nt2 xs q).p ∧ (nt2 xs q).p ≤ q.p + 4) ∧ (q.p ≤ (nt3 xs q).p ∧ (nt3 xs q).p ≤ q.p + 6) ∧ (q.p ≤ (nt4 xs q).p ∧ (nt4 xs q).p ≤ q.p + 8) ∧ (q.p ≤ (nt5 xs q).p ∧ (nt5 xs q).p ≤ q.p + 418) ∧ (q.p ≤ (nt6 xs q).p ∧ (nt6 xs q).p ≤ q.p + 420) ∧ (q.p ≤ (ntC xs q).p ∧ (ntC xs q).p ≤ q.p + 424) := by
  have h1 : q.p ≤ (nt1 xs q).p ∧ (nt1 xs q).p ≤ q.p + 2 := pkC_p xs 200 q
  have h2 : (nt1 xs q).p ≤ (nt2 xs q).p ∧ (nt2 xs q).p ≤ (nt1 xs q).p + 2 := pkC_p xs 5 _
  have h3 : (nt2 xs q).p ≤ (nt3 xs q).p ∧ (nt3 xs q).p ≤ (nt2 xs q).p + 2 := pkC_p xs 6 _
  have h4 : (nt3 xs q).p ≤ (nt4 xs q).p ∧ (nt4 xs q).p ≤ (nt3 xs q).p + 2 := pkC_p xs 50 _
  have h5 : (nt4 xs q).p ≤ (nt5 xs q).p ∧ (nt5 xs q).p ≤ (nt4 xs q).p + 410 := txE_p xs _
  have h6 : (nt5 xs q).p ≤ (nt6 xs q).p ∧ (nt6 xs q).p ≤ (nt5 xs q).p + 2 := pkC_p xs 8 _
  have h7 := whC_p xs (nt6 xs q)
  have h8 : q.p ≤ (ntC xs q).p ∧ (ntC xs q).p ≤ q.p + 424 := ifC_p _ _ _ _ _ (by omega) (by omega)
  omega
set_option maxHeartbeats 4000000 in
set_option maxRecDepth 100000 in
theorem note_c (A : Option Addr) (c : Nat) (xs : List Int) (q : Cu) (g : Nat) {w0 w : World} {L : List Rs} (h : Own w0 w (Rs.box g 123 (cuB A xs.length c q) :: L)) (hx : kB.C w0 A xs.length xs) (hb : BsOk xs) (h0 : 0 ≤ q.p) (h1 : q.p ≤ 800000000) :
    Calls Try.prog 104 #[.pointer (some ⟨g, 0, none⟩)] w (fun e w' => e = .returned (vN (ntV xs q)) ∧ Own w0 w' (Rs.box g 123 (cuB A xs.length c (ntC xs q)) :: L)) := by
  suffices H : ∀ Q : Ending → World → Prop, (∀ e w', e = .returned (vN (ntV xs q)) ∧ Own w0 w' (Rs.box g 123 (cuB A xs.length c (ntC xs q)) :: L) → Q e w') → Calls Try.prog 104 #[.pointer (some ⟨g, 0, none⟩)] w Q from H _ (fun e w' h => h)
  intro Q hQ
  have O := Aside0.mk h; have HB := Aside0.mk hb; have HX := Aside0.mk hx; have HQ := Aside0.mk hQ; clear h hb hx hQ
  obtain ⟨b1, b2, b3, b4, b5, b6, b7⟩ := nt_p xs q
  have r4 := pkV_range xs (nt3 xs q) (k := 50) (by omega)
  have hws := whV_range xs (nt6 xs q)
  go_enter Try.func104, Try.ntmps104
  go_upto_region 1 with (fail)
  generalize hw : w.alloc _ = w1
  replace O := Aside0.mk (O.out.of hw).p1; clear hw
  generalize w.heap.size = g2 at O ⊢
  go_wp2_with fail
  refine (pick_c A c xs q g 200 O.out HX.out HB.out (by omega) (by omega) (by omega) (by omega)).mono ?_
  rintro e w2 ⟨rfl, hO⟩
  clear O; have O := Aside0.mk hO; clear hO
  go_wp2_with fail
  refine (pick_c A c xs (nt1 xs q) g 5 O.out HX.out HB.out (by omega) (by omega) (by omega) (by omega)).mono ?_
  rintro e w2 ⟨rfl, hO⟩
  clear O; have O := Aside0.mk hO; clear hO
  go_wp2_with fail
  refine (pick_c A c xs (nt2 xs q) g 6 O.out HX.out HB.out (by omega) (by omega) (by omega) (by omega)).mono ?_
  rintro e w2 ⟨rfl, hO⟩
  clear O; have O := Aside0.mk hO; clear hO
  go_wp2_with fail
  refine (pick_c A c xs (nt3 xs q) g 50 O.out HX.out HB.out (by omega) (by omega) (by omega) (by omega)).mono ?_
  rintro e w2 ⟨rfl, hO⟩
  clear O; have O := Aside0.mk hO; clear hO
  go_wp2_with fail
  refine (text_c A c xs (nt4 xs q) g O.out HX.out HB.out (by omega) (by omega)).mono ?_
  rintro e w3 ⟨rfl, hO⟩
  clear O; have O := Aside0.mk hO; clear hO
  rw [show (txL xs (txN xs (nt4 xs q)).toNat { data := #[] } (txQ xs (nt4 xs q))).2 = nt5 xs q from rfl] at O
  rw [show (txL xs (txN xs (nt4 xs q)).toNat { data := #[] } (txQ xs (nt4 xs q))).1 = txS xs (nt4 xs q) from rfl]
  have HV : Aside0 (ntV xs q = ⟨pkV xs 200 q, pkV xs 5 (nt1 xs q), pkV xs 6 (nt2 xs q), ifV (ntB xs q) (whV xs (nt6 xs q)) (pkV xs 50 (nt3 xs q) - 10), txS xs (nt4 xs q)⟩) := ⟨rfl⟩
  generalize pkV xs 200 q = v1 at HV ⊢
  generalize pkV xs 5 (nt1 xs q) = v2 at HV ⊢
  generalize pkV xs 6 (nt2 xs q) = v3 at HV ⊢
  generalize pkV xs 50 (nt3 xs q) = v4 at HV r4 ⊢
  generalize txS xs (nt4 xs q) = v5 at HV ⊢
  go_upto_region 2 with (fail)
  generalize hw : w3.alloc _ = w4
  replace O := Aside0.mk (O.out.of hw).p1; clear hw
  generalize w3.heap.size = g3 at O ⊢
  go_wp2_with fail
  refine (pick_c A c xs (nt5 xs q) g 8 O.out HX.out HB.out (by omega) (by omega) (by omega) (by omega)).mono ?_
  rintro e w5 ⟨rfl, hO⟩
  clear O; have O := Aside0.mk hO; clear hO
  rw [show pkC xs 8 (nt5 xs q) = nt6 xs q from rfl] at O
  have HBB : Aside0 (decide (pkV xs 8 (nt5 xs q) = 0) = ntB xs q) := ⟨rfl⟩
  have HC : Aside0 (ntC xs q = ifC (ntB xs q) (whC xs (nt6 xs q)) (nt6 xs q)) := ⟨rfl⟩
  generalize pkV xs 8 (nt5 xs q) = v6 at HBB ⊢
  generalize ntB xs q = bb at HBB HC HV
  by_cases h6 : v6 = 0
  · obtain rfl : bb = true := by rw [← HBB.out]; exact decide_eq_true h6
    obtain ⟨E6, _⟩ := eqT h6
    clear h6 HBB
    go_wp2_with fail
    refine (whole_c A c xs (nt6 xs q) g O.out HX.out HB.out (by omega) (by omega)).mono ?_
    rintro e w6 ⟨rfl, hO⟩
    clear O; have O := Aside0.mk hO; clear hO
    replace HV : Aside0 (ntV xs q = ⟨v1, v2, v3, whV xs (nt6 xs q), v5⟩) := ⟨HV.out⟩
    replace HC : Aside0 (ntC xs q = whC xs (nt6 xs q)) := ⟨HC.out⟩
    generalize whV xs (nt6 xs q) = v7 at HV hws ⊢
    have z3 := blk_frozen O.out.b1 3; have c3 := (blk_cell O.out.b1 3).trans rfl
    go_upto_region 4 with (fail)
    generalize hw : World.setCell _ _ _ = w7
    replace O := Aside0.mk (O.out.p1.st hw #[.int .i64 v1, .int .i64 v2, .int .i64 v3, .int .i64 v7, .string v5] rfl).p1; clear hw z3 c3
    have c0 := (blk_cell O.out.b1 0).trans rfl; have c1 := (blk_cell O.out.b1 1).trans rfl; have c2 := (blk_cell O.out.b1 2).trans rfl; have c3 := (blk_cell O.out.b1 3).trans rfl; have c4 := (blk_cell O.out.b1 4).trans rfl
    have d0 := (blk_cell O.out.b2 0).trans rfl; have d1 := (blk_cell O.out.b2 1).trans rfl; have d2 := (blk_cell O.out.b2 2).trans rfl; have d3 := (blk_cell O.out.b2 3).trans rfl; have d4 := (blk_cell O.out.b2 4).trans rfl
    have z0 := blk_frozen O.out.b2 0; have z1 := blk_frozen O.out.b2 1; have z2 := blk_frozen O.out.b2 2; have z3 := blk_frozen O.out.b2 3; have z4 := blk_frozen O.out.b2 4
    go_wp2
    generalize hw : World.setCell _ _ _ = w8
    replace O := Aside0.mk (O.out.p2.st5 hw); clear hw
    refine bodyPost_ret (results_cell_row rfl _ _ g2 33 #[.int .i64 v1, .int .i64 v2, .int .i64 v3, .int .i64 v7, .string v5] (0, 0) _ rfl O.out.b0 Try.underlying33 rfl (by kernel_rfl)) rfl ?_
    exact HQ.out _ _ ⟨by rw [HV.out]; rfl, by rw [HC.out]; exact O.out.drop.p1.drop⟩
  · obtain rfl : bb = false := by rw [← HBB.out]; exact decide_eq_false h6
    obtain ⟨E6, _⟩ := eqF h6
    clear h6 HBB
    replace HV : Aside0 (ntV xs q = ⟨v1, v2, v3, v4 - 10, v5⟩) := ⟨HV.out⟩
    replace HC : Aside0 (ntC xs q = nt6 xs q) := ⟨HC.out⟩
    have c0 := (blk_cell O.out.b1 0).trans rfl; have c1 := (blk_cell O.out.b1 1).trans rfl; have c2 := (blk_cell O.out.b1 2).trans rfl; have c3 := (blk_cell O.out.b1 3).trans rfl; have c4 := (blk_cell O.out.b1 4).trans rfl
    have d0 := (blk_cell O.out.b2 0).trans rfl; have d1 := (blk_cell O.out.b2 1).trans rfl; have d2 := (blk_cell O.out.b2 2).trans rfl; have d3 := (blk_cell O.out.b2 3).trans rfl; have d4 := (blk_cell O.out.b2 4).trans rfl
    have z0 := blk_frozen O.out.b2 0; have z1 := blk_frozen O.out.b2 1; have z2 := blk_frozen O.out.b2 2; have z3 := blk_frozen O.out.b2 3; have z4 := blk_frozen O.out.b2 4
    go_wp2
    generalize hw : World.setCell _ _ _ = w8
    replace O := Aside0.mk (O.out.p2.st5 hw); clear hw
    refine bodyPost_ret (results_cell_row rfl _ _ g2 33 #[.int .i64 v1, .int .i64 v2, .int .i64 v3, .int .i64 (v4 - 10), .string v5] (0, 0) _ rfl O.out.b0 Try.underlying33 rfl (by kernel_rfl)) rfl ?_
    exact HQ.out _ _ ⟨by rw [HV.out]; rfl, by rw [HC.out]; exact O.out.drop.p1.drop⟩
end Go.Proofs.Ytocdlibnmlcokaa
namespace Go.Proofs.Ytocdlibnmlcokaa
open Go.RowKit Go.Proofs.YtocdlibnmlcokaaW.PrintWords Go.Proofs.YtocdlibnmlcokaaW.PrintLast Go.Proofs.Ytocdlibnmlcokaa.Math
set_option linter.unusedVariables false
set_option linter.unusedSimpArgs false
theorem BsOk.bs {l : List Int} (h : BsOk l) : Bs l := fun x hx => by have := h x hx; omega
theorem Bs.ok {l : List Int} (h : Bs l) : BsOk l := fun x hx => by have := h x hx; omega
theorem shTo_div (v : Int) : ∀ i, shTo (v / 256) i = shTo v (i + 1)
  | 0 => rfl
  | i + 1 => by
    have := shTo_div v i
    show shTo (v / 256) i / 256 = shTo v (i + 1) / 256
    rw [this]
theorem lowTo_cons (v : Int) : ∀ n, lowTo v (n + 1) = v % 256 :: lowTo (v / 256) n
  | 0 => rfl
  | n + 1 => by
    have := lowTo_cons v n
    show lowTo v (n + 1) ++ [shTo v (n + 1) % 256] = v % 256 :: (lowTo (v / 256) n ++ [shTo (v / 256) n % 256])
    rw [this, shTo_div]; rfl
theorem lowTo_eq : ∀ (n : Nat) (v : Int), lowTo v n = lowB v n
  | 0, v => rfl
  | n + 1, v => by rw [lowTo_cons, lowTo_eq n]; rfl
theorem numL_eq : ∀ {l : List Int}, Bs l → l.length ≤ 8 → numL l = numM l
  | [], _, _ => rfl
  | x :: r, h, hl => by
    have hr : Bs r := fun y hy => h y (List.mem_cons_of_mem _ hy)
    have h1 := h x List.mem_cons_self
    simp only [List.length_cons] at hl
    have h2 := numM_nonneg hr
    have h3 := numM_lt7 hr (by omega)
    show step8 (numL r) x = x + 256 * numM r
    rw [numL_eq hr (by omega)]
    exact or_join h2 h3 h1.1 h1.2
theorem u8_w (x : Int) : IntKind.u8.wrap x = x % 256 := by
  unfold IntKind.wrap
  simp [IntKind.signed, IntKind.bits]
theorem sumTo_eq (xs : List Int) : ∀ (k i : Nat), i + k = xs.length → checkFrom i (sumTo xs i) (xs.drop i) = sumTo xs xs.length
  | 0, i, h => by
    rw [List.drop_eq_nil_of_le (by omega), show i = xs.length by omega]; rfl
  | k + 1, i, h => by
    rw [List.drop_eq_getElem_cons (by omega : i < xs.length)]
    have := sumTo_eq xs k (i + 1) (by omega)
    rw [← this]
    show checkFrom (i + 1) (if i = 1 then sumTo xs i else (sumTo xs i + xs[i]) % 256) (xs.drop (i + 1)) = _
    congr 1
    show _ = if i = 1 then sumTo xs i else IntKind.u8.wrap (sumTo xs i + rd xs i)
    rw [u8_w, rd_nat, List.getD_eq_getElem?_getD, List.getElem?_eq_getElem (by omega : i < xs.length)]
    rfl
theorem preL_eq {g : Int} {p : List Int} (h : p.length ≤ 56) : preL g p = rawPage g p := by
  unfold preL
  rw [pre0_len, show 64 - (8 + p.length) = 56 - p.length by omega]
  unfold pre0 rawPage
  rw [lowTo_eq]
theorem blockL_eq {g : Int} {p : List Int} (h1 : 1 ≤ g) (h2 : g ≤ 1000000000) (h : p.length ≤ 56) : blockL g p = pageM true g p := by
  unfold blockL pageM
  rw [if_pos ⟨rfl, h1, h2, h⟩, preL_eq h]
  congr 1
  exact (sumTo_eq (rawPage g p) (rawPage g p).length 0 (by omega)).symm
theorem genOf_eq {b : List Int} (hb : BsOk b) : genOf b = numM ((b.take 6).drop 2) := by
  have h1 : Bs ((b.take 6).drop 2) := (hb.bs.take 6).drop 2
  have hl : ((b.take 6).drop 2).length ≤ 4 := by simp only [List.length_drop, List.length_take]; omega
  show wrap64 (numL ((b.take 6).drop 2)) = _
  rw [numL_eq h1 (by omega)]
  have h2 := numM_nonneg h1
  have h3 := numM_lt7 h1 (by omega)
  exact Math.w64 (by omega) (by omega)
theorem bytesOf_eq {b : List Int} (hb : BsOk b) : bytesOf b = (b.take (8 + b.getD 6 0).toNat).drop 8 := by
  have := hb.rd 6
  have e : rd b 6 = b.getD 6 0 := rfl
  show (b.take (8 + (rd b 6).toNat)).drop 8 = _
  rw [show 8 + (rd b 6).toNat = (8 + b.getD 6 0).toNat by rw [← e]; omega]
theorem pg_iff {b : List Int} (hb : BsOk b) : PgIs b ↔ (pageOfM b).1 = true := by
  unfold PgIs
  rw [genOf_eq hb, bytesOf_eq hb]
  have e : rd b 6 = b.getD 6 0 := rfl
  rw [e]
  constructor
  · rintro ⟨h1, h2, ⟨_, h3, h4, h5⟩, h6⟩
    rw [pageOfM_eq h1 h2, ← blockL_eq h3 h4 h5, if_pos h6]
  · intro h
    by_cases hc : b.length = 64 ∧ b.getD 6 0 ≤ 56
    · rw [pageOfM_eq hc.1 hc.2] at h
      by_cases h3 : pageM true (numM ((b.take 6).drop 2)) ((b.take (8 + b.getD 6 0).toNat).drop 8) = b
      · obtain ⟨_, _, _, g1, g2, g3⟩ := pageM_is h3 (fun e => by rw [e] at hc; simp at hc)
        exact ⟨hc.1, hc.2, ⟨rfl, g1, g2, g3⟩, by rw [blockL_eq g1 g2 g3]; exact h3⟩
      · rw [if_neg h3] at h; simp at h
    · rw [pageOfM_no hc] at h; simp at h
theorem pg_block {g : Int} {p : List Int} (h1 : 1 ≤ g) (h2 : g ≤ 1000000000) (h3 : p.length ≤ 56) (hp : BsOk p) : PgIs (blockL g p) ∧ genOf (blockL g p) = g ∧ bytesOf (blockL g p) = p := by
  have hb : BsOk (blockL g p) := block_ok hp h3
  have e := pageOf_pageM h1 h2 h3
  rw [← blockL_eq h1 h2 h3] at e
  have hi : PgIs (blockL g p) := (pg_iff hb).2 (by rw [e])
  refine ⟨hi, ?_, ?_⟩
  · rw [genOf_eq hb]
    have h64 : (blockL g p).length = 64 := hi.1
    have h6 : (blockL g p).getD 6 0 ≤ 56 := hi.2.1
    rw [pageOfM_eq h64 h6] at e
    split at e
    · simpa using congrArg (fun x => x.2.1) e
    · simp at e
  · rw [bytesOf_eq hb]
    have h64 : (blockL g p).length = 64 := hi.1
    have h6 : (blockL g p).getD 6 0 ≤ 56 := hi.2.1
    rw [pageOfM_eq h64 h6] at e
    split at e
    · simpa using congrArg (fun x => x.2.2) e
    · simp at e
theorem not_zeroB : ¬ PgIs zeroB := by
  rw [pg_iff zeroB_ok]
  intro h
  obtain ⟨_, e⟩ := pageOfM_ok h
  have h1 : ((pageM true (pageOfM zeroB).2.1 (pageOfM zeroB).2.2)).getD 0 0 = 0 := by rw [e]; rfl
  have h2 : (pageM true (pageOfM zeroB).2.1 (pageOfM zeroB).2.2).getD 0 0 = 76 := by
    have hne : pageM true (pageOfM zeroB).2.1 (pageOfM zeroB).2.2 ≠ [] := fun he => by rw [he] at e; simp [zeroB] at e
    unfold pageM at hne ⊢
    split
    · rw [rawPage_parts]; rfl
    · rename_i hn; rw [if_neg hn] at hne; exact absurd rfl hne
  rw [h1] at h2; exact absurd h2 (by decide)
def NtR (x : Nt) : Prop := NtOk x ∧ -9223372036854775808 ≤ x.n ∧ x.n ≤ 9223372036854775807
theorem ntOk_b {x : Nt} (h : NtOk x) : noteOk x.tick x.kind x.who x.text = true := by
  obtain ⟨h1, h2, h3, h4⟩ := h
  unfold noteOk
  exact decide_eq_true ⟨h1.1, h1.2, h2.1, h2.2, h3.1, h3.2, h4⟩
theorem frameL_eq {x : Nt} (h : NtOk x) : frameL x = frameM x.tick x.kind x.who x.n x.text := by
  rw [frameM_ok (ntOk_b h)]
  unfold frameL headM
  rw [lowTo_eq, lowTo_eq, lowTo_eq, u64_wrap]
theorem read_is {b : List Int} (hb : BsOk b) : (FrIs b ↔ (readM b).1 = true) ∧ (FrIs b → readM b = (true, (noteOf b).tick, (noteOf b).kind, (noteOf b).who, (noteOf b).n, (noteOf b).text, frLen b)) := by
  have e0 : rd b 0 = b.getD 0 0 := rfl
  have e1 : rd b 1 = b.getD 1 0 := rfl
  have e6 : rd b 6 = b.getD 6 0 := rfl
  have r1 := hb.rd 1; have r6 := hb.rd 6
  have q : ∀ i j, j - i ≤ 8 → numL (seg b i j) = numM ((b.take j).drop i) := fun i j h => numL_eq (l := (b.take j).drop i) ((hb.bs.take j).drop i) (by simp only [List.length_drop, List.length_take]; omega)
  have hw : ∀ i j, j - i ≤ 4 → wrap64 (numL (seg b i j)) = numM ((b.take j).drop i) := fun i j h => by
    rw [q i j (by omega)]
    have h1 : Bs ((b.take j).drop i) := (hb.bs.take j).drop i
    have h2 := numM_nonneg h1
    have h3 := numM_lt7 h1 (by simp only [List.length_drop, List.length_take]; omega)
    exact Math.w64 (by omega) (by omega)
  have n0 : noteOf b = ⟨numM ((b.take 6).drop 2), b.getD 6 0, numM ((b.take 9).drop 7), wrap64 (numM ((b.take 17).drop 9)), strOfNums ((b.take (17 + b.getD 1 0).toNat).drop 17)⟩ := by
    unfold noteOf
    rw [hw 2 6 (by omega), hw 7 9 (by omega), q 9 17 (by omega), e6, Math.w64 (x := b.getD 6 0) (by omega) (by omega)]
    show _ = _
    rw [show 17 + (rd b 1).toNat = (17 + b.getD 1 0).toNat by rw [← e1]; omega]
    rfl
  have hi : FrIs b → readM b = (true, (noteOf b).tick, (noteOf b).kind, (noteOf b).who, (noteOf b).n, (noteOf b).text, frLen b) := by
    rintro ⟨h1, h2, h3, h4⟩
    have h5 := ntOk_b h4
    rw [n0] at h5 ⊢
    exact readM_yes h1 h2 h3 h5
  refine ⟨⟨fun h => by rw [hi h], fun h => ?_⟩, hi⟩
  unfold readM at h
  simp only at h
  split at h
  · rename_i hc
    refine ⟨hc.1, hc.2.1, hc.2.2.1, ?_⟩
    rw [n0]
    have := noteOk_is hc.2.2.2
    exact ⟨⟨this.1, this.2.1⟩, ⟨this.2.2.1, this.2.2.2.1⟩, ⟨this.2.2.2.2.1, this.2.2.2.2.2.1⟩, this.2.2.2.2.2.2⟩
  · simp at h
theorem fr_read {x : Nt} (h : NtR x) (r : List Int) (hr : BsOk r) : FrIs (frameL x ++ r) ∧ noteOf (frameL x ++ r) = x ∧ frLen (frameL x ++ r) = 17 + x.text.size := by
  have hb : BsOk (frameL x ++ r) := (frameL_ok h.1).append hr
  have e := readM_frame (ntOk_b h.1) h.2 r
  rw [← frameL_eq h.1] at e
  obtain ⟨h1, h2⟩ := read_is hb
  have hi := h1.2 (by rw [e])
  have e2 := h2 hi
  rw [e] at e2
  simp only [Prod.mk.injEq, true_and] at e2
  obtain ⟨a, b, c, d, f, g⟩ := e2
  refine ⟨hi, ?_, g.symm⟩
  cases x; simp only at a b c d f
  cases hn : noteOf (frameL ⟨_, _, _, _, _⟩ ++ r)
  rw [hn] at a b c d f
  simp only at a b c d f
  rw [a, b, c, d, f]
theorem fr_short {x : Nt} (h : NtOk x) (m : Nat) (hm : m < 17 + x.text.size) : ¬ FrIs ((frameL x).take m) := by
  have hb : BsOk ((frameL x).take m) := fun y hy => frameL_ok h y (List.mem_of_mem_take hy)
  rw [(read_is hb).1, frameL_eq h, readM_short (ntOk_b h) m hm]
  simp
end Go.Proofs.Ytocdlibnmlcokaa
namespace Go.Proofs.Ytocdlibnmlcokaa
open Go.RowKit Go.Proofs.YtocdlibnmlcokaaW.PrintWords Go.Proofs.YtocdlibnmlcokaaW.PrintLast Go.Proofs.Ytocdlibnmlcokaa.Math
set_option linter.unusedVariables false
set_option linter.unusedSimpArgs false
def Ch (G : Int) : Int → List Int → List (List Int) → Prop
  | _, X, [] => X = []
  | last, X, b :: r =>
    if 56 ≤ X.length then PgIs b ∧ last ≤ genOf b ∧ genOf b ≤ G ∧ bytesOf b = X.take 56 ∧ Ch G (genOf b) (X.drop 56) r
    else (X = [] ∧ ¬ (PgIs b ∧ last ≤ genOf b ∧ genOf b ≤ G) ∨ X ≠ [] ∧ PgIs b ∧ last ≤ G ∧ genOf b = G ∧ bytesOf b = X) ∧ ∀ c ∈ r, ¬ (PgIs c ∧ G ≤ genOf c)
theorem ch_stale {G : Int} : ∀ {r : List (List Int)}, (∀ c ∈ r, ¬ (PgIs c ∧ G ≤ genOf c)) → Ch G G [] r
  | [], _ => rfl
  | c :: r, h => by
    unfold Ch
    rw [if_neg (by simp)]
    exact ⟨.inl ⟨rfl, fun ⟨h1, h2, _⟩ => h c List.mem_cons_self ⟨h1, h2⟩⟩, fun d hd => h d (List.mem_cons_of_mem _ hd)⟩
theorem ch_read {G : Int} : ∀ {bl : List (List Int)} {last : Int} {X : List Int}, Ch G last X bl → bodyL G last bl = X
  | [], last, X, h => by
    have h : X = [] := h
    rw [h]; rfl
  | b :: r, last, X, h => by
    unfold Ch at h
    by_cases h56 : 56 ≤ X.length
    · rw [if_pos h56] at h
      obtain ⟨h1, h2, h3, h4, h5⟩ := h
      rw [bodyL_yes ⟨h1, h2, h3⟩, if_neg (by rw [h4, List.length_take]; omega), ch_read h5, h4, List.take_append_drop]
    · rw [if_neg h56] at h
      obtain ⟨h1 | h1, _⟩ := h
      · rw [bodyL_no h1.2, h1.1]
      · obtain ⟨_, h2, h3, h4, h5⟩ := h1
        rw [bodyL_yes ⟨h2, by omega, by omega⟩, if_pos (by rw [h5]; omega), h5]
theorem pageB_shift (X : List Int) (k : Nat) (G : Int) : pageB X (k + 1) G = pageB (X.drop 56) k G := by
  unfold pageB
  rw [List.length_drop]
  by_cases h : (k + 1) * 56 < X.length
  · rw [if_pos h, if_pos (by omega)]
    congr 1
    unfold seg
    rw [List.take_drop, List.drop_drop]
    congr 1
    · omega
    · congr 1; omega
  · rw [if_neg h, if_neg (by omega)]
theorem pageB_zero {X : List Int} (G : Int) (h : X ≠ []) : pageB X 0 G = blockL G (X.take 56) := by
  unfold pageB
  have : 0 < X.length := List.length_pos_iff.2 h
  rw [if_pos (by omega)]
  congr 1
  unfold seg
  rw [Nat.zero_mul, List.drop_zero, Nat.zero_add]
  rcases Nat.le_total X.length 56 with h1 | h1
  · rw [Nat.min_eq_left h1, List.take_length, List.take_of_length_le h1]
  · rw [Nat.min_eq_right h1]
theorem page_is {X : List Int} {G : Int} (h : X ≠ []) (h1 : 1 ≤ G) (h2 : G ≤ 1000000000) (hb : BsOk X) : PgIs (pageB X 0 G) ∧ genOf (pageB X 0 G) = G ∧ bytesOf (pageB X 0 G) = X.take 56 := by
  rw [pageB_zero G h]
  exact pg_block h1 h2 (by rw [List.length_take]; omega) (fun x hx => hb x (List.mem_of_mem_take hx))
theorem same_of {r r' : List (List Int)} (hl : r'.length = r.length) (h : ∀ k, k < r.length → r'.getD k [] = r.getD k []) : r' = r := by
  refine List.ext_getElem hl fun k h1 h2 => ?_
  have := h k h2
  rw [List.getD_eq_getElem?_getD, List.getD_eq_getElem?_getD, List.getElem?_eq_getElem h1, List.getElem?_eq_getElem h2] at this
  exact this
theorem pre_take {X Y : List Int} (h : X <+: Y) (n : Nat) (hn : n ≤ X.length) : X.take n = Y.take n := by
  obtain ⟨t, rfl⟩ := h
  rw [List.take_append_of_le_length hn]
theorem pre_drop {X Y : List Int} (h : X <+: Y) (n : Nat) : X.drop n <+: Y.drop n := by
  obtain ⟨t, rfl⟩ := h
  rw [List.drop_append]
  exact List.prefix_append _ _
theorem ch_app {G : Int} (hg1 : 1 ≤ G) (hg2 : G ≤ 1000000000) : ∀ {bl bl' : List (List Int)} {last : Int} {X X' : List Int}, bl'.length = bl.length → Ch G last X bl → last ≤ G → X <+: X' → X.length < X'.length → X'.length ≤ 56 * bl.length → BsOk X' →
    (∀ k, k < bl.length → bl'.getD k [] = if X.length / 56 ≤ k ∧ k ≤ (X'.length - 1) / 56 then pageB X' k G else bl.getD k []) → Ch G last X' bl'
  | [], bl', last, X, X', hl, hc, hla, hp, hlt, hle, hb, h => by simp only [List.length_nil] at hle; omega
  | b :: r, [], last, X, X', hl, hc, hla, hp, hlt, hle, hb, h => by simp at hl
  | b :: r, b' :: r', last, X, X', hl, hc, hla, hp, hlt, hle, hb, h => by
    simp only [List.length_cons] at hl hle h
    have h0 := h 0 (by omega)
    simp only [List.getD_cons_zero] at h0
    have hs : ∀ k, k < r.length → r'.getD k [] = if X.length / 56 ≤ k + 1 ∧ k + 1 ≤ (X'.length - 1) / 56 then pageB (X'.drop 56) k G else r.getD k [] := fun k hk => by
      have := h (k + 1) (by omega)
      simp only [List.getD_cons_succ] at this
      rw [this, pageB_shift]
    unfold Ch at hc ⊢
    by_cases h56 : 56 ≤ X.length
    · rw [if_pos h56] at hc
      rw [if_pos (by omega)]
      obtain ⟨h1, h2, h3, h4, h5⟩ := hc
      rw [if_neg (by omega)] at h0
      subst h0
      refine ⟨h1, h2, h3, by rw [h4]; exact pre_take hp 56 h56, ch_app hg1 hg2 (by omega) h5 h3 (pre_drop hp 56) (by simp only [List.length_drop]; omega) (by simp only [List.length_drop]; omega) (fun x hx => hb x (List.mem_of_mem_drop hx)) (fun k hk => ?_)⟩
      rw [hs k hk]
      simp only [List.length_drop]
      by_cases hq : X.length / 56 ≤ k + 1 ∧ k + 1 ≤ (X'.length - 1) / 56
      · rw [if_pos hq, if_pos (by omega)]
      · rw [if_neg hq, if_neg (by omega)]
    · rw [if_neg h56] at hc
      obtain ⟨_, hst⟩ := hc
      rw [if_pos (by omega)] at h0
      have hne : X' ≠ [] := fun e => by rw [e] at hlt; simp at hlt
      obtain ⟨p1, p2, p3⟩ := page_is hne hg1 hg2 hb
      rw [← h0] at p1 p2 p3
      by_cases h57 : 56 ≤ X'.length
      · rw [if_pos h57]
        refine ⟨p1, by omega, by omega, p3, ?_⟩
        rw [p2]
        by_cases h58 : X'.length = 56
        · have : r' = r := same_of (by omega) (fun k hk => by rw [hs k hk, if_neg (by omega)])
          rw [this, List.drop_eq_nil_of_le (by omega)]
          exact ch_stale hst
        · refine ch_app hg1 hg2 (X := []) (by omega) (ch_stale hst) (by omega) List.nil_prefix (by simp only [List.length_drop, List.length_nil]; omega) (by simp only [List.length_drop]; omega) (fun x hx => hb x (List.mem_of_mem_drop hx)) (fun k hk => ?_)
          rw [hs k hk]
          simp only [List.length_drop, List.length_nil]
          by_cases hq : k + 1 ≤ (X'.length - 1) / 56
          · rw [if_pos (by omega), if_pos (by omega)]
          · rw [if_neg (by omega), if_neg (by omega)]
      · rw [if_neg h57]
        have : r' = r := same_of (by omega) (fun k hk => by rw [hs k hk, if_neg (by omega)])
        rw [this]
        exact ⟨.inr ⟨hne, p1, hla, p2, by rw [p3, List.take_of_length_le (by omega)]⟩, hst⟩
def flatF : List Nt → List Int
  | [] => []
  | x :: r => frameL x ++ flatF r
def fitN : Nat → List Nt → Nat
  | _, [] => 0
  | m, x :: r => if 17 + x.text.size ≤ m then fitN (m - (17 + x.text.size)) r + 1 else 0
theorem flatF_ok : ∀ {ns : List Nt}, (∀ x ∈ ns, NtR x) → BsOk (flatF ns)
  | [], _ => fun x hx => by simp [flatF] at hx
  | x :: r, h => (frameL_ok (h x List.mem_cons_self).1).append (flatF_ok (fun y hy => h y (List.mem_cons_of_mem _ hy)))
theorem frames_cut : ∀ {ns : List Nt} (hns : ∀ x ∈ ns, NtR x) (m k : Nat), min m (flatF ns).length ≤ k → framesF k ((flatF ns).take m) = (ns.take (fitN m ns), (flatF (ns.take (fitN m ns))).length)
  | [], _, m, k, _ => by
    have e : (flatF []).take m = [] := by simp [flatF]
    rw [e, framesF_no (fun h => by have := h.1; simp at this)]
    simp [fitN, flatF]
  | x :: r, h, m, k, hk => by
    have hx := h x List.mem_cons_self
    have hr : ∀ y ∈ r, NtR y := fun y hy => h y (List.mem_cons_of_mem _ hy)
    have hl := frameL_len x
    simp only [flatF, List.length_append] at hk ⊢
    by_cases hm : 17 + x.text.size ≤ m
    · have et : (frameL x ++ flatF r).take m = frameL x ++ (flatF r).take (m - (17 + x.text.size)) := by
        rw [List.take_append, hl, List.take_of_length_le (by omega)]
      obtain ⟨a1, a2, a3⟩ := fr_read hx ((flatF r).take (m - (17 + x.text.size))) (fun y hy => flatF_ok hr y (List.mem_of_mem_take hy))
      obtain ⟨k', rfl⟩ : ∃ k', k = k' + 1 := ⟨k - 1, by omega⟩
      rw [et, framesF_yes a1, a2, a3, show (17 + (x.text.size : Int)).toNat = 17 + x.text.size by omega, List.drop_left' hl, frames_cut hr _ k' (by omega)]
      simp only [fitN, if_pos hm, List.take_succ_cons, flatF, List.length_append, hl]
    · have et : (frameL x ++ flatF r).take m = (frameL x).take m := by rw [List.take_append_of_le_length (by omega)]
      rw [et, framesF_no (fr_short hx.1 m (by omega))]
      simp [fitN, if_neg hm, flatF]
theorem fitN_le : ∀ (ns : List Nt) (m : Nat), fitN m ns ≤ ns.length
  | [], m => by simp [fitN]
  | x :: r, m => by
    simp only [fitN, List.length_cons]
    split
    · have := fitN_le r (m - (17 + x.text.size)); omega
    · omega
theorem fitN_ge : ∀ (ns : List Nt) (m j : Nat), j ≤ ns.length → (flatF (ns.take j)).length ≤ m → j ≤ fitN m ns
  | [], m, j, hj, _ => by
    have : j = 0 := by simpa using hj
    omega
  | x :: r, m, 0, _, _ => Nat.zero_le _
  | x :: r, m, j + 1, hj, hm => by
    simp only [List.take_succ_cons, flatF, List.length_append, frameL_len] at hm
    simp only [List.length_cons] at hj
    simp only [fitN]
    rw [if_pos (by omega)]
    have := fitN_ge r (m - (17 + x.text.size)) j (by omega) (by omega)
    omega
theorem flatF_app : ∀ (a b : List Nt), flatF (a ++ b) = flatF a ++ flatF b
  | [], b => rfl
  | x :: r, b => by simp only [List.cons_append, flatF, flatF_app r b, List.append_assoc]
theorem flatF_pre (ns : List Nt) (j : Nat) : flatF (ns.take j) <+: flatF ns := by
  conv => rhs; rw [← List.take_append_drop j ns]
  rw [flatF_app]
  exact List.prefix_append _ _
theorem frames_all {ns : List Nt} (h : ∀ x ∈ ns, NtR x) : framesL (flatF ns) = (ns, (flatF ns).length) := by
  have e := frames_cut h (flatF ns).length (flatF ns).length (by omega)
  rw [List.take_length] at e
  have h1 := fitN_ge ns (flatF ns).length ns.length (Nat.le_refl _) (by rw [List.take_length]; exact Nat.le_refl _)
  have h2 := fitN_le ns (flatF ns).length
  rw [show fitN (flatF ns).length ns = ns.length by omega, List.take_length] at e
  exact e
end Go.Proofs.Ytocdlibnmlcokaa
namespace Go.Proofs.Ytocdlibnmlcokaa
open Go.RowKit Go.Proofs.YtocdlibnmlcokaaW.PrintWords Go.Proofs.YtocdlibnmlcokaaW.PrintLast Go.Proofs.Ytocdlibnmlcokaa.Math
set_option linter.unusedVariables false
set_option linter.unusedSimpArgs false
structure Good (S : List (List Int)) (X : List Int) (G : Int) : Prop where
  bl : BlOk S
  head : gBS S 0 = blockL G []
  ch : Ch G 1 X (S.drop 1)
  elder : ∀ c ∈ S.drop 1, PgIs c → genOf c ≤ G
  g1 : 1 ≤ G
  g2 : G ≤ 1000000000
theorem Good.head_is {S : List (List Int)} {X : List Int} {G : Int} (h : Good S X G) : headOk S ∧ genOf (gBS S 0) = G := by
  obtain ⟨a, b, c⟩ := pg_block (p := []) h.g1 h.g2 (by simp) (fun x hx => by simp at hx)
  rw [← h.head] at a b c
  exact ⟨⟨a, by rw [c]; rfl⟩, b⟩
theorem Good.gen {S : List (List Int)} {X : List Int} {G : Int} (h : Good S X G) : logGen S = G := by
  unfold logGen; rw [if_pos h.head_is.1, h.head_is.2]
theorem Good.bytes {S : List (List Int)} {X : List Int} {G : Int} (h : Good S X G) : logBytes S = X := by
  unfold logBytes; rw [if_pos h.head_is.1, h.head_is.2, ch_read h.ch]
def applyW (S : List (List Int)) (ws : List Wr) : List (List Int) := ws.foldl (fun s w => s.set w.block.toNat w.bytes) S
theorem applyW_len : ∀ (ws : List Wr) (S : List (List Int)), (applyW S ws).length = S.length
  | [], S => rfl
  | w :: r, S => by
    show (applyW (S.set w.block.toNat w.bytes) r).length = _
    rw [applyW_len r, List.length_set]
theorem applyW_app (S : List (List Int)) (a b : List Wr) : applyW S (a ++ b) = applyW (applyW S a) b := by unfold applyW; rw [List.foldl_append]
theorem setTo_apply (bs : List (List Int)) (ws : List Wr) : ∀ i, i ≤ ws.length → setTo bs ws (kfL true []) i = applyW bs (ws.take i)
  | 0, _ => rfl
  | i + 1, h => by
    have e : ws.take (i + 1) = ws.take i ++ [ws.getD i ⟨0, []⟩] := by
      rw [List.take_succ_eq_append_getElem (by omega), List.getD_eq_getElem?_getD, List.getElem?_eq_getElem (by omega)]; rfl
    rw [e, applyW_app, ← setTo_apply bs ws i (by omega)]
    rfl
theorem sync_apply (bs : List (List Int)) (ws : List Wr) : syncL bs ws = applyW bs ws := by
  have := setTo_apply bs ws ws.length (Nat.le_refl _)
  rw [List.take_length] at this
  exact this
theorem sync_app (bs : List (List Int)) (a b : List Wr) : syncL bs (a ++ b) = applyW (syncL bs a) b := by rw [sync_apply, sync_apply, applyW_app]
theorem getD_set {S : List (List Int)} {i j : Nat} {x : List Int} (hj : j < S.length) : (S.set i x).getD j [] = if i = j then x else S.getD j [] := by
  rw [List.getD_eq_getElem?_getD, List.getD_eq_getElem?_getD, List.getElem?_set]
  by_cases h : i = j
  · rw [if_pos h, if_pos h, if_pos (by omega)]; rfl
  · rw [if_neg h, if_neg h]
theorem apply_pages (S : List (List Int)) (X : List Int) (G : Int) (fr j : Nat) (hj : j < S.length) : ∀ n, (applyW S (pagesW X G fr n)).getD j [] = if fr + 1 ≤ j ∧ j ≤ fr + n then pageB X (j - 1) G else S.getD j []
  | 0 => by
    rw [if_neg (by omega)]; rfl
  | n + 1 => by
    rw [pagesW_succ, applyW_app]
    show ((applyW S (pagesW X G fr n)).set (((fr + n : Nat) : Int) + 1).toNat (pageB X (fr + n) G)).getD j [] = _
    rw [getD_set (by rw [applyW_len]; exact hj), apply_pages S X G fr j hj n, show (((fr + n : Nat) : Int) + 1).toNat = fr + n + 1 by omega]
    by_cases h : fr + n + 1 = j
    · rw [if_pos h, if_pos (by omega), show j - 1 = fr + n by omega]
    · rw [if_neg h]
      by_cases h2 : fr + 1 ≤ j ∧ j ≤ fr + n
      · rw [if_pos h2, if_pos (by omega)]
      · rw [if_neg h2, if_neg (by omega)]
theorem apply_zeros (S : List (List Int)) (j : Nat) (hj : j < S.length) : ∀ n, (applyW S (zerosW n)).getD j [] = if 1 ≤ j ∧ j ≤ n then zeroB else S.getD j []
  | 0 => by rw [if_neg (by omega)]; rfl
  | n + 1 => by
    rw [zerosW_succ, applyW_app]
    show ((applyW S (zerosW n)).set ((n : Int) + 1).toNat zeroB).getD j [] = _
    rw [getD_set (by rw [applyW_len]; exact hj), apply_zeros S j hj n, show ((n : Int) + 1).toNat = n + 1 by omega]
    by_cases h : n + 1 = j
    · rw [if_pos h, if_pos (by omega)]
    · rw [if_neg h]
      by_cases h2 : 1 ≤ j ∧ j ≤ n
      · rw [if_pos h2, if_pos (by omega)]
      · rw [if_neg h2, if_neg (by omega)]
theorem drop_getD (S : List (List Int)) (k : Nat) : (S.drop 1).getD k [] = S.getD (k + 1) [] := by
  rw [List.getD_eq_getElem?_getD, List.getD_eq_getElem?_getD, List.getElem?_drop, Nat.add_comm]
theorem mem_getD {l : List (List Int)} {c : List Int} (h : c ∈ l) : ∃ k, k < l.length ∧ l.getD k [] = c := by
  obtain ⟨k, hk, e⟩ := List.mem_iff_getElem.1 h
  exact ⟨k, hk, by rw [List.getD_eq_getElem?_getD, List.getElem?_eq_getElem hk]; exact e⟩
theorem gen_page (X : List Int) (k : Nat) {G : Int} (h1 : 1 ≤ G) (h2 : G ≤ 1000000000) (hb : BsOk X) : PgIs (pageB X k G) → genOf (pageB X k G) ≤ G := by
  intro h
  unfold pageB at h ⊢
  split
  · rw [(pg_block h1 h2 (seg_short X k) (hb.seg _ _)).2.1]; exact Int.le_refl _
  · rename_i hn
    rw [if_neg hn] at h
    exact absurd h not_zeroB
theorem chL {S : List (List Int)} (h : BlOk S) : (S.drop 1).length = 127 := by rw [List.length_drop, h.1]
theorem good_app {S : List (List Int)} {X X' : List Int} {G : Int} (h : Good S X G) (hp : X <+: X') (hlt : X.length < X'.length) (hle : X'.length ≤ 7112) (hb : BsOk X') :
    Good (applyW S (pagesW X' G (X.length / 56) (appN X.length X'.length))) X' G := by
  have hl := h.bl.1
  have hn : X.length / 56 + appN X.length X'.length = (X'.length - 1) / 56 + 1 := by unfold appN; omega
  have hg := fun j hj => apply_pages S X' G (X.length / 56) j hj (appN X.length X'.length)
  have hgd : ∀ k, k < 127 → ((applyW S (pagesW X' G (X.length / 56) (appN X.length X'.length))).drop 1).getD k [] = if X.length / 56 ≤ k ∧ k ≤ (X'.length - 1) / 56 then pageB X' k G else (S.drop 1).getD k [] := fun k hk => by
    rw [drop_getD, hg (k + 1) (by omega), drop_getD]
    by_cases hq : X.length / 56 ≤ k ∧ k ≤ (X'.length - 1) / 56
    · rw [if_pos hq, if_pos (by omega), Nat.add_sub_cancel]
    · rw [if_neg hq, if_neg (by omega)]
  have hbl : BlOk (applyW S (pagesW X' G (X.length / 56) (appN X.length X'.length))) := by
    have := sync_ok (bs := S) (ws := pagesW X' G (X.length / 56) (appN X.length X'.length)) (dk_of h.bl (by rw [pagesW_len]; omega) (pagesW_ok hb G _ _ (by omega))).1 (dk_of h.bl (by rw [pagesW_len]; omega) (pagesW_ok hb G _ _ (by omega))).2
    rwa [sync_apply] at this
  refine ⟨hbl, ?_, ?_, ?_, h.g1, h.g2⟩
  · have := hg 0 (by omega)
    rw [if_neg (by omega)] at this
    exact this.trans h.head
  · exact ch_app h.g1 h.g2 (by rw [chL hbl, chL h.bl]) h.ch h.g1 hp hlt (by rw [chL h.bl]; omega) hb (fun k hk => hgd k (by rw [chL h.bl] at hk; exact hk))
  · intro c hc hP
    obtain ⟨k, hk, e⟩ := mem_getD hc
    rw [chL hbl] at hk
    rw [hgd k hk] at e
    split at e
    · rw [← e] at hP ⊢
      exact gen_page X' k h.g1 h.g2 hb hP
    · refine h.elder c ?_ hP
      rw [← e, List.getD_eq_getElem?_getD, List.getElem?_eq_getElem (by rw [chL h.bl]; exact hk)]
      exact List.getElem_mem _
theorem good_new {S : List (List Int)} (h : BlOk S) : Good (applyW (S.set 0 (blockL 1 [])) (zerosW 127)) [] 1 := by
  have hz1 := zerosW_len 127
  have hz2 := zerosW_ok 127 (by omega)
  have hz3 := fun j hj => apply_zeros (S.set 0 (blockL 1 [])) j hj 127
  generalize zerosW 127 = Z at hz1 hz2 hz3 ⊢
  have hb1 : BlOk (applyW S (⟨0, blockL 1 []⟩ :: Z)) := by
    have hw : ∀ x ∈ (⟨0, blockL 1 []⟩ : Wr) :: Z, WrOk x := fun x hx => by
      rcases List.mem_cons.1 hx with rfl | hx
      · exact head_ok 1
      · exact hz2 x hx
    have := sync_ok (dk_of h (by simp only [List.length_cons]; omega) hw).1 (dk_of h (by simp only [List.length_cons]; omega) hw).2
    rwa [sync_apply] at this
  have hbl : BlOk (applyW (S.set 0 (blockL 1 [])) (Z)) := hb1
  have hl := h.1
  have hg := hz3
  have hgd : ∀ k, k < 127 → ((applyW (S.set 0 (blockL 1 [])) (Z)).drop 1).getD k [] = zeroB := fun k hk => by
    rw [drop_getD, hg (k + 1) (by rw [List.length_set]; omega), if_pos (by omega)]
  have hall : ∀ c ∈ (applyW (S.set 0 (blockL 1 [])) (Z)).drop 1, c = zeroB := fun c hc => by
    obtain ⟨k, hk, e⟩ := mem_getD hc
    rw [chL hbl] at hk
    rw [← e, hgd k hk]
  refine ⟨hbl, ?_, ch_stale (fun c hc hP => by rw [hall c hc] at hP; exact not_zeroB hP.1), (fun c hc hP => by rw [hall c hc] at hP; exact absurd hP not_zeroB), by omega, by omega⟩
  have := hg 0 (by rw [List.length_set]; omega)
  rw [if_neg (by omega), getD_set (by omega), if_pos rfl] at this
  exact this
end Go.Proofs.Ytocdlibnmlcokaa
namespace Go.Proofs.Ytocdlibnmlcokaa
open Go.RowKit Go.Proofs.YtocdlibnmlcokaaW.PrintWords Go.Proofs.YtocdlibnmlcokaaW.PrintLast
set_option linter.unusedVariables false
set_option linter.unusedSimpArgs false
def blankB : List (List Int) := List.replicate 128 (List.replicate 64 0)
set_option maxRecDepth 100000 in
set_option maxHeartbeats 1000000 in
theorem implBlank_c (w : World) : Calls Try.prog 27 #[] w (GotDisk w blankB []) := by
  have hb := below_alloc (below_alloc (Below.refl w.heap.size w) (.cells #[.slice none 0 0, .slice none 0 0] 43)) (.cells #[.slice none 0 0, .slice none 0 0] 43)
  go_enter Try.func27, Try.ntmps27
  go_wp2
  generalize hw1 : World.alloc (World.alloc w _) _ = w1
  obtain ⟨K1, K2, hB, _⟩ := alloc2 hw1
  clear hw1 hb
  have BK1 := Aside0.mk K1; have BK2 := Aside0.mk K2; have HB := Aside0.mk hB; clear K1 K2 hB
  go_loopg [2] 128 (fun k v wr => ∃ (i : Int) (u : Value) (f0 : List Nat), v = .int .i64 i ∧ Aside0 (0 ≤ i ∧ i ≤ 128 ∧ 128 - i.toNat ≤ k) ∧ Aside0 (rBS.Row 22 wr u (List.replicate i.toNat (List.replicate 64 0)) f0) ∧ Aside0 (f0.Nodup ∧ ∀ b ∈ f0, w.heap.size ≤ b)
     ∧ Aside0 (wr.heap[w.heap.size]? = some (Obj.cells #[.slice none 0 0, .slice none 0 0] 43)) ∧ Aside0 (wr.heap[w.heap.size + 1]? = some (Obj.cells #[u, .slice none 0 0] 43)) ∧ Aside0 (Below w.heap.size w wr))
  case atStart => exact ⟨0, _, [], rfl, ⟨by simp⟩, ⟨Rp.Row_nil _ _ _⟩, ⟨by simp⟩, BK1, BK2, HB⟩
  case round =>
    clear BK1 BK2 HB
    obtain ⟨i, u, f0, rfl, HI, HO, HF, BK1, BK2, HB⟩ := hrel
    by_cases h1 : i < 128
    · have h0 : 0 ≤ i := HI.out.1
      go_wp2
      refine sta (fun w' => w'.cell? ⟨w.heap.size + 1, 0, none⟩ = some u) [6] 7 ((blk_cell BK2.out 0).trans rfl) (fun hS => ?_)
      replace HO := Aside0.mk (Rp.Row_drew HO.out)
      replace BK1 := Aside0.mk (blk_drew BK1.out)
      replace BK2 := Aside0.mk (blk_drew BK2.out)
      replace HB := Aside0.mk (below_drew HB.out)
      generalize wr.drew = wd at HO BK1 BK2 HB hS ⊢
      refine pu 0 1 ?_
      refine tk 1 3 hS ?_
      refine on 2 7 (fun K hK => ?_)
      refine Rp.mk_row_step rB (by rfl) 22 5 _ _ (by rfl) 64 (by rfl) (by rfl) Try.underlying22 (.int .u8 0) 1 info5 rfl (by decide) (by omega) 0 (fun _ => ⟨rfl, rfl⟩) (by omega) (by decide) ?_
      intro ga wa hga hra hba
      have nfa : ga ∉ f0 := fun h => by have := Rp.Row_lt HO.out _ h; omega
      have fa : w.heap.size ≤ ga := by have := HB.out.size; omega
      refine nx hK (pw_cell_below hba hS) (fun hS => ?_)
      clear hK K hga
      refine on 3 15 (fun K hK => ?_)
      refine va ?_
      refine nx hK (pw_cell_below (below_alloc (Below.refl _ _) _) hS) (fun hS => ?_)
      clear hK K
      have HOa := Rp.Row_below HO.out hba
      have BKa := blk_below BK2.out hba
      refine on 4 31 (fun K hK => ?_)
      refine Rp.app_one_step rBS (by rfl) (.tmp 5) (.tmp 7) 40 22 (.slice none 0 0) 24 (by rfl) Try.underlying40 info22 rfl (by decide) (by omega) u (List.replicate i.toNat (List.replicate 64 0)) (List.replicate 64 0) [.slice (some ⟨ga, 0, none⟩) 64 64] (by rfl) (by rfl) HOa ⟨_, rfl, hra⟩ (by rw [List.nodup_append]; exact ⟨HF.out.1, by simp, fun a ha b hb he => by simp at hb; subst hb; subst he; exact nfa ha⟩) (by simp; omega) ?_
      intro v1 w2 fp1 hr1 hn1 hf1 hg1
      generalize hL : List.replicate i.toNat (List.replicate 64 (0 : Int)) ++ [List.replicate 64 0] = L at hr1
      have HL := Aside0.mk hL; clear hL
      obtain ⟨Av, cv, rfl, _, _⟩ := Rp.Row_reads hr1
      obtain ⟨hr3, hk3, kp3⟩ := box_app HOa BKa (by decide) hg1 hr1 0
      have BKw := blk_grown BKa hg1 (Rp.Row_ne HOa (Rp.Row_not HOa BKa (by decide)))
      refine nx hK ((blk_cell BKw 0).trans rfl) (fun hS => ?_)
      clear hK K
      refine pu 5 63 ?_
      refine la 6 127 (fun K hK => ?_)
      have z := blk_frozen BKw 0
      refine st ?_
      refine nl hK (dn ?_)
      clear hK K z hS
      generalize w2.setCell _ _ = wf at hr3 hk3 kp3 ⊢
      have kp : Kp wd wf (f0 ++ [w.heap.size + 1]) := ((Kp.below hba).mono (by simp)).trans kp3 (fun b hb _ => hb)
      have BK1 := Aside0.mk (kp.blk BK1.out (by have := Rp.Row_not HO.out BK1.out (by decide); simp; exact this))
      have HB1 := Aside0.mk (kp.toBelow HB.out HB.out.size (fun b hb => by rcases List.mem_append.1 hb with h | h; exact HF.out.2 b h; simp at h; omega))
      have HF1 : Aside0 (fp1.Nodup ∧ ∀ b ∈ fp1, w.heap.size ≤ b) := ⟨hn1, fun b hb => by
        rcases hf1 b hb with h | h | h
        · exact HF.out.2 b h
        · simp at h; omega
        · have := hba.size; have := HB.out.size; omega⟩
      have HR1 := Aside0.mk hr3; have BK2 := Aside0.mk hk3
      clear hn1 hf1 hg1 hr1 hba hra hr3 hk3 kp kp3 HOa BKa BKw HO HB
      go_wp2
      go_roundg (gk - 1)
      case measure => have := HI.out; omega
      case rel =>
        refine ⟨i + 1, _, fp1, rfl, ⟨by have := HI.out; omega, by have := HI.out; omega, by have := HI.out; omega⟩, ?_, HF1, BK1, BK2, HB1⟩
        have := HR1.out; rw [show (i + 1).toNat = i.toNat + 1 by omega, List.replicate_succ', HL.out]; exact ⟨this⟩
    · have e1 : i = 128 := by have := HI.out; omega
      subst e1
      have HO2 := HO.out
      have e2 : List.replicate (128 : Int).toNat (List.replicate 64 (0 : Int)) = blankB := rfl
      rw [e2] at HO2
      obtain ⟨Au, cu, rfl, _, _⟩ := Rp.Row_reads HO2
      have c0_ := (blk_cell BK2.out 0).trans rfl
      have c1_ := (blk_cell BK2.out 1).trans rfl
      have c2_ := (blk_cell BK1.out 0).trans rfl
      have c3_ := (blk_cell BK1.out 1).trans rfl
      have z0_ := blk_frozen BK1.out 0
      have z1_ := blk_frozen BK1.out 1
      obtain ⟨K5, kp⟩ := set2 BK1.out (.slice Au blankB.length cu) (.slice none 0 0)
      have H2 := Aside0.mk HO2; clear HO2 e2 HO
      have K5 := Aside0.mk K5; have kp := Aside0.mk kp
      go_wp2
      refine bodyPost_ret (results_cell_row rfl _ _ (w.heap.size) 43 #[.slice Au blankB.length cu, .slice none 0 0] (0, 0) _ rfl K5.out Try.underlying43 rfl (by kernel_rfl)) rfl ?_
      have n2 := Rp.Row_not H2.out BK1.out (by decide)
      exact ⟨_, _, f0, [], rfl, kp.out.row H2.out (fun b hb h => by simp at h; exact n2 (h ▸ hb)), Rp.Row_nil _ _ _, by simpa using HF.out.1, by simpa using HF.out.2, kp.out.toBelow HB.out HB.out.size (fun b hb => by simp at hb; omega)⟩
set_option maxRecDepth 100000 in
set_option maxHeartbeats 1000000 in
theorem specBlank_c (w : World) : Calls Try.prog 26 #[] w (GotDisk w blankB []) := by
  have hb := below_alloc (below_alloc (Below.refl w.heap.size w) (.cells #[.slice none 0 0, .slice none 0 0] 43)) (.cells #[.slice none 0 0, .slice none 0 0] 43)
  go_enter Try.func26, Try.ntmps26
  go_wp2
  generalize hw1 : World.alloc (World.alloc w _) _ = w1
  obtain ⟨K1, K2, hB, _⟩ := alloc2 hw1
  clear hw1 hb
  have BK1 := Aside0.mk K1; have BK2 := Aside0.mk K2; have HB := Aside0.mk hB; clear K1 K2 hB
  go_loopg [2] 128 (fun k v wr => ∃ (i : Int) (u : Value) (f0 : List Nat), v = .int .i64 i ∧ Aside0 (0 ≤ i ∧ i ≤ 128 ∧ 128 - i.toNat ≤ k) ∧ Aside0 (rBS.Row 22 wr u (List.replicate i.toNat (List.replicate 64 0)) f0) ∧ Aside0 (f0.Nodup ∧ ∀ b ∈ f0, w.heap.size ≤ b)
     ∧ Aside0 (wr.heap[w.heap.size]? = some (Obj.cells #[.slice none 0 0, .slice none 0 0] 43)) ∧ Aside0 (wr.heap[w.heap.size + 1]? = some (Obj.cells #[u, .slice none 0 0] 43)) ∧ Aside0 (Below w.heap.size w wr))
  case atStart => exact ⟨0, _, [], rfl, ⟨by simp⟩, ⟨Rp.Row_nil _ _ _⟩, ⟨by simp⟩, BK1, BK2, HB⟩
  case round =>
    clear BK1 BK2 HB
    obtain ⟨i, u, f0, rfl, HI, HO, HF, BK1, BK2, HB⟩ := hrel
    by_cases h1 : i < 128
    · have h0 : 0 ≤ i := HI.out.1
      go_wp2
      refine sta (fun w' => w'.cell? ⟨w.heap.size + 1, 0, none⟩ = some u) [6] 7 ((blk_cell BK2.out 0).trans rfl) (fun hS => ?_)
      replace HO := Aside0.mk (Rp.Row_drew HO.out)
      replace BK1 := Aside0.mk (blk_drew BK1.out)
      replace BK2 := Aside0.mk (blk_drew BK2.out)
      replace HB := Aside0.mk (below_drew HB.out)
      generalize wr.drew = wd at HO BK1 BK2 HB hS ⊢
      refine pu 0 1 ?_
      refine tk 1 3 hS ?_
      refine on 2 7 (fun K hK => ?_)
      refine Rp.mk_row_step rB (by rfl) 22 5 _ _ (by rfl) 64 (by rfl) (by rfl) Try.underlying22 (.int .u8 0) 1 info5 rfl (by decide) (by omega) 0 (fun _ => ⟨rfl, rfl⟩) (by omega) (by decide) ?_
      intro ga wa hga hra hba
      have nfa : ga ∉ f0 := fun h => by have := Rp.Row_lt HO.out _ h; omega
      have fa : w.heap.size ≤ ga := by have := HB.out.size; omega
      refine nx hK (pw_cell_below hba hS) (fun hS => ?_)
      clear hK K hga
      refine on 3 15 (fun K hK => ?_)
      refine va ?_
      refine nx hK (pw_cell_below (below_alloc (Below.refl _ _) _) hS) (fun hS => ?_)
      clear hK K
      have HOa := Rp.Row_below HO.out hba
      have BKa := blk_below BK2.out hba
      refine on 4 31 (fun K hK => ?_)
      refine Rp.app_one_step rBS (by rfl) (.tmp 8) (.tmp 10) 40 22 (.slice none 0 0) 24 (by rfl) Try.underlying40 info22 rfl (by decide) (by omega) u (List.replicate i.toNat (List.replicate 64 0)) (List.replicate 64 0) [.slice (some ⟨ga, 0, none⟩) 64 64] (by rfl) (by rfl) HOa ⟨_, rfl, hra⟩ (by rw [List.nodup_append]; exact ⟨HF.out.1, by simp, fun a ha b hb he => by simp at hb; subst hb; subst he; exact nfa ha⟩) (by simp; omega) ?_
      intro v1 w2 fp1 hr1 hn1 hf1 hg1
      generalize hL : List.replicate i.toNat (List.replicate 64 (0 : Int)) ++ [List.replicate 64 0] = L at hr1
      have HL := Aside0.mk hL; clear hL
      obtain ⟨Av, cv, rfl, _, _⟩ := Rp.Row_reads hr1
      obtain ⟨hr3, hk3, kp3⟩ := box_app HOa BKa (by decide) hg1 hr1 0
      have BKw := blk_grown BKa hg1 (Rp.Row_ne HOa (Rp.Row_not HOa BKa (by decide)))
      refine nx hK ((blk_cell BKw 0).trans rfl) (fun hS => ?_)
      clear hK K
      refine pu 5 63 ?_
      refine la 6 127 (fun K hK => ?_)
      have z := blk_frozen BKw 0
      refine st ?_
      refine nl hK (dn ?_)
      clear hK K z hS
      generalize w2.setCell _ _ = wf at hr3 hk3 kp3 ⊢
      have kp : Kp wd wf (f0 ++ [w.heap.size + 1]) := ((Kp.below hba).mono (by simp)).trans kp3 (fun b hb _ => hb)
      have BK1 := Aside0.mk (kp.blk BK1.out (by have := Rp.Row_not HO.out BK1.out (by decide); simp; exact this))
      have HB1 := Aside0.mk (kp.toBelow HB.out HB.out.size (fun b hb => by rcases List.mem_append.1 hb with h | h; exact HF.out.2 b h; simp at h; omega))
      have HF1 : Aside0 (fp1.Nodup ∧ ∀ b ∈ fp1, w.heap.size ≤ b) := ⟨hn1, fun b hb => by
        rcases hf1 b hb with h | h | h
        · exact HF.out.2 b h
        · simp at h; omega
        · have := hba.size; have := HB.out.size; omega⟩
      have HR1 := Aside0.mk hr3; have BK2 := Aside0.mk hk3
      clear hn1 hf1 hg1 hr1 hba hra hr3 hk3 kp kp3 HOa BKa BKw HO HB
      go_wp2
      go_roundg (gk - 1)
      case measure => have := HI.out; omega
      case rel =>
        refine ⟨i + 1, _, fp1, rfl, ⟨by have := HI.out; omega, by have := HI.out; omega, by have := HI.out; omega⟩, ?_, HF1, BK1, BK2, HB1⟩
        have := HR1.out; rw [show (i + 1).toNat = i.toNat + 1 by omega, List.replicate_succ', HL.out]; exact ⟨this⟩
    · have e1 : i = 128 := by have := HI.out; omega
      subst e1
      have HO2 := HO.out
      have e2 : List.replicate (128 : Int).toNat (List.replicate 64 (0 : Int)) = blankB := rfl
      rw [e2] at HO2
      obtain ⟨Au, cu, rfl, _, _⟩ := Rp.Row_reads HO2
      have c0_ := (blk_cell BK2.out 0).trans rfl
      have c1_ := (blk_cell BK2.out 1).trans rfl
      have c2_ := (blk_cell BK1.out 0).trans rfl
      have c3_ := (blk_cell BK1.out 1).trans rfl
      have z0_ := blk_frozen BK1.out 0
      have z1_ := blk_frozen BK1.out 1
      obtain ⟨K5, kp⟩ := set2 BK1.out (.slice Au blankB.length cu) (.slice none 0 0)
      have H2 := Aside0.mk HO2; clear HO2 e2 HO
      have K5 := Aside0.mk K5; have kp := Aside0.mk kp
      go_wp2
      refine bodyPost_ret (results_cell_row rfl _ _ (w.heap.size) 43 #[.slice Au blankB.length cu, .slice none 0 0] (0, 0) _ rfl K5.out Try.underlying43 rfl (by kernel_rfl)) rfl ?_
      have n2 := Rp.Row_not H2.out BK1.out (by decide)
      exact ⟨_, _, f0, [], rfl, kp.out.row H2.out (fun b hb h => by simp at h; exact n2 (h ▸ hb)), Rp.Row_nil _ _ _, by simpa using HF.out.1, by simpa using HF.out.2, kp.out.toBelow HB.out HB.out.size (fun b hb => by simp at hb; omega)⟩
end Go.Proofs.Ytocdlibnmlcokaa
namespace Go.Proofs.Ytocdlibnmlcokaa
open Go.RowKit Go.Proofs.YtocdlibnmlcokaaW.PrintWords Go.Proofs.YtocdlibnmlcokaaW.PrintLast Go.Proofs.Ytocdlibnmlcokaa.Math
set_option linter.unusedVariables false
set_option linter.unusedSimpArgs false
structure St (o : Opn) (ns : List Nt) (s : Nat) (G : Int) : Prop where
  ok : o.ok = true
  lg : o.lg = scanL o.bs o.ws
  dk : DkOk o.bs o.ws
  bk : BkOk o.bs o.ws
  nr : ∀ x ∈ ns, NtR x
  sl : s ≤ ns.length
  good0 : Good o.bs (flatF (ns.take s)) G
  good1 : Good (syncL o.bs o.ws) (flatF ns) G
  len : (flatF ns).length ≤ 7112
  ver : ∀ x ∈ o.ws, ∃ (k : Nat) (Y : List Int), x.block = k + 1 ∧ k < 127 ∧ x.bytes = pageB Y k G ∧ flatF (ns.take s) <+: Y ∧ Y <+: flatF ns ∧ k * 56 < Y.length ∧ (flatF (ns.take s)).length / 56 ≤ k
theorem sameN_take : ∀ (ns : List Nt) (s : Nat), s ≤ ns.length → sameN ns (ns.take s) = s
  | [], s, h => by
    have : s = 0 := by simpa using h
    subst this; rfl
  | x :: r, 0, h => rfl
  | x :: r, s + 1, h => by
    simp only [List.length_cons] at h
    simp only [List.take_succ_cons, sameN, if_true, sameN_take r s (by omega)]
theorem nr_take {ns : List Nt} (h : ∀ x ∈ ns, NtR x) (s : Nat) : ∀ x ∈ ns.take s, NtR x := fun x hx => h x (List.mem_of_mem_take hx)
theorem St.found1 {o : Opn} {ns : List Nt} {s : Nat} {G : Int} (h : St o ns s G) : foundL (syncL o.bs o.ws) = (ns, (flatF ns).length) := by
  unfold foundL; rw [h.good1.bytes, frames_all h.nr]
theorem St.lg_is {o : Opn} {ns : List Nt} {s : Nat} {G : Int} (h : St o ns s G) : o.lg = ⟨true, ns, (flatF ns).length, G, s⟩ := by
  have h0 : foundL o.bs = (ns.take s, (flatF (ns.take s)).length) := by unfold foundL; rw [h.good0.bytes, frames_all (nr_take h.nr s)]
  rw [h.lg]
  unfold scanL
  rw [h.found1, h0, h.good1.gen]
  simp only [sameN_take ns s h.sl]
theorem St.is {o : Opn} {ns : List Nt} {s : Nat} {G : Int} (h : St o ns s G) : o = ⟨true, ⟨true, ns, (flatF ns).length, G, s⟩, o.bs, o.ws⟩ := by
  have h1 := h.lg_is; have h2 := h.ok
  cases o; simp only at h1 h2; subst h1; subst h2; rfl
theorem St.right {o : Opn} {ns : List Nt} {s : Nat} {G : Int} (h : St o ns s G) : RightP o := ⟨h.ok, h.dk, h.lg, by rw [h.lg_is]; have := h.good1.g1; simp only; omega⟩
theorem st_of {S : List (List Int)} {ns : List Nt} {G : Int} (h : Good S (flatF ns) G) (hn : ∀ x ∈ ns, NtR x) (hl : (flatF ns).length ≤ 7112) : St ⟨true, scanL S [], S, []⟩ ns ns.length G :=
  { ok := rfl, lg := rfl, dk := (dk_of h.bl (by simp) (fun x hx => by simp at hx)).1, bk := (dk_of h.bl (by simp) (fun x hx => by simp at hx)).2, nr := hn, sl := Nat.le_refl _,
    good0 := by rw [List.take_length]; exact h, good1 := h, len := hl, ver := fun x hx => by simp at hx }
theorem st_new {S : List (List Int)} (h : BlOk S) (hg : logGen S = 0) : St (openS S) [] 0 1 := by
  have hgd := good_new h
  have hS : syncL S (openWs S) = applyW (S.set 0 (blockL 1 [])) (zerosW 127) := by
    rw [sync_apply]
    unfold openWs
    rw [if_pos hg, hg]
    generalize zerosW 127 = Z
    show applyW (S.set (0 : Int).toNat (blockL (0 + 1) [])) Z = _
    rw [show (0 : Int) + 1 = 1 from rfl, show (0 : Int).toNat = 0 from rfl]
  generalize applyW (S.set 0 (blockL 1 [])) (zerosW 127) = T at hgd hS
  have he : openS S = ⟨true, scanL (syncL S (openWs S)) [], syncL S (openWs S), []⟩ := by unfold openS; rw [if_neg (by rw [hg]; decide)]
  rw [he, hS]
  exact st_of (ns := []) hgd (fun x hx => by simp at hx) (by simp [flatF])
theorem St.commit {o : Opn} {ns : List Nt} {s : Nat} {G : Int} (h : St o ns s G) : St (commitS (syncL o.bs o.ws)) ns ns.length G := st_of h.good1 h.nr h.len
theorem St.fits {o : Opn} {ns : List Nt} {s : Nat} {G : Int} (h : St o ns s G) {x : Nt} : (appX o.bs o.ws x) = flatF (ns ++ [x]) ∧ (flatF (ns ++ [x])).length = (flatF ns).length + (17 + x.text.size) := by
  unfold appX
  rw [h.good1.bytes, h.found1]
  simp only [List.take_length, flatF_app, flatF, List.append_nil, List.length_append, frameL_len]
  exact ⟨trivial, trivial⟩
theorem St.append {o : Opn} {ns : List Nt} {s : Nat} {G : Int} (h : St o ns s G) {x : Nt} (hx : NtR x) (hl : (flatF (ns ++ [x])).length ≤ 7112) (hw : o.ws.length + appN (flatF ns).length (flatF (ns ++ [x])).length ≤ 200) :
    St (appendO o.bs o.ws x) (ns ++ [x]) s G := by
  obtain ⟨e1, e2⟩ := h.fits (x := x)
  have eo : appendO o.bs o.ws x = ⟨true, scanL o.bs (o.ws ++ pagesW (flatF (ns ++ [x])) G ((flatF ns).length / 56) (appN (flatF ns).length (flatF (ns ++ [x])).length)), o.bs, o.ws ++ pagesW (flatF (ns ++ [x])) G ((flatF ns).length / 56) (appN (flatF ns).length (flatF (ns ++ [x])).length)⟩ := by
    unfold appendO
    rw [e1, h.found1, h.good1.gen]
    simp only
    rw [if_pos ⟨hl, hw⟩]
  rw [eo]
  have hnr : ∀ y ∈ ns ++ [x], NtR y := fun y hy => by
    rcases List.mem_append.1 hy with h1 | h1
    · exact h.nr y h1
    · rw [List.mem_singleton] at h1; rw [h1]; exact hx
  have hts : (ns ++ [x]).take s = ns.take s := List.take_append_of_le_length h.sl
  have hb := flatF_ok hnr
  have hpre : flatF ns <+: flatF (ns ++ [x]) := by rw [flatF_app]; exact List.prefix_append _ _
  have hn : (flatF ns).length / 56 + appN (flatF ns).length (flatF (ns ++ [x])).length = ((flatF (ns ++ [x])).length - 1) / 56 + 1 := by unfold appN; omega
  have hpo := pagesW_ok hb G ((flatF ns).length / 56) (appN (flatF ns).length (flatF (ns ++ [x])).length) (by omega)
  have hdd : DkOk o.bs (o.ws ++ pagesW (flatF (ns ++ [x])) G ((flatF ns).length / 56) (appN (flatF ns).length (flatF (ns ++ [x])).length)) ∧ BkOk o.bs (o.ws ++ pagesW (flatF (ns ++ [x])) G ((flatF ns).length / 56) (appN (flatF ns).length (flatF (ns ++ [x])).length)) :=
    dk_of h.good0.bl (by rw [List.length_append, pagesW_len]; exact hw) (fun y hy => by
      rcases List.mem_append.1 hy with h1 | h1
      · exact ⟨h.dk.2.2.2 y h1, h.bk.2 y h1⟩
      · exact hpo y h1)
  exact { ok := rfl, lg := rfl, dk := hdd.1, bk := hdd.2, nr := hnr, sl := by rw [List.length_append]; have := h.sl; omega,
          good0 := by rw [hts]; exact h.good0
          good1 := by
            simp only [sync_app]
            exact good_app h.good1 hpre (by omega) hl hb
          len := hl
          ver := fun y hy => by
            rw [hts]
            rcases List.mem_append.1 hy with h1 | h1
            · obtain ⟨k, Y, a1, a2, a3, a4, a5, a6, a7⟩ := h.ver y h1
              exact ⟨k, Y, a1, a2, a3, a4, a5.trans hpre, a6, a7⟩
            · simp only [pagesW, List.mem_map, List.mem_range] at h1
              obtain ⟨i, hi, rfl⟩ := h1
              refine ⟨(flatF ns).length / 56 + i, flatF (ns ++ [x]), rfl, by omega, rfl, (flatF_pre ns s).trans hpre, List.prefix_rfl, by omega, ?_⟩
              have := (flatF_pre ns s).length_le
              omega }
theorem setTo_ver (bs : List (List Int)) (ws : List Wr) (kf : Nat → Bool) (j : Nat) (hj : j < bs.length) : ∀ i, i ≤ ws.length → (setTo bs ws kf i).getD j [] = bs.getD j [] ∨ ∃ x ∈ ws, x.block.toNat = j ∧ (setTo bs ws kf i).getD j [] = x.bytes
  | 0, _ => .inl rfl
  | i + 1, h => by
    simp only [setTo]
    split
    · rw [getD_set (by rw [setTo_len]; exact hj)]
      have hm : ws.getD i ⟨0, []⟩ ∈ ws := by rw [List.getD_eq_getElem?_getD, List.getElem?_eq_getElem (by omega)]; exact List.getElem_mem _
      by_cases e : (ws.getD i ⟨0, []⟩).block.toNat = j
      · rw [if_pos e]; exact .inr ⟨_, hm, e, rfl⟩
      · rw [if_neg e]; exact setTo_ver bs ws kf j hj i (by omega)
    · exact setTo_ver bs ws kf j hj i (by omega)
theorem settle_bytes {bs : List (List Int)} {ws : List Wr} (kf : Nat → Bool) (hd : DkOk bs ws) (hk : BkOk bs ws) : BlOk (settleL bs ws kf) := by
  obtain ⟨h1, h2⟩ := settle_ok kf hd
  refine ⟨h1, fun b hb => ⟨h2 b hb, ?_⟩⟩
  obtain ⟨j, hj, e⟩ := mem_getD hb
  rcases setTo_ver bs ws kf j (by rw [h1] at hj; rw [hd.1]; exact hj) ws.length (Nat.le_refl _) with h | ⟨x, hx, _, h⟩
  · rw [← e]
    show BsOk ((setTo bs ws kf ws.length).getD j [])
    rw [h, List.getD_eq_getElem?_getD, List.getElem?_eq_getElem (by rw [h1] at hj; rw [hd.1]; exact hj)]
    exact hk.1 _ (List.getElem_mem _)
  · rw [← e]
    show BsOk ((setTo bs ws kf ws.length).getD j [])
    rw [h]
    exact hk.2 x hx
theorem blank_gen : logGen blankB = 0 := by
  have : ¬ headOk blankB := fun h => not_zeroB h.1
  unfold logGen
  rw [if_neg this]
theorem blank_ok : BlOk blankB := ⟨by simp [blankB], fun b hb => by
  rw [List.eq_of_mem_replicate hb]
  exact ⟨by simp, zeroB_ok⟩⟩
end Go.Proofs.Ytocdlibnmlcokaa
namespace Go.Proofs.Ytocdlibnmlcokaa
open Go.RowKit Go.Proofs.YtocdlibnmlcokaaW.PrintWords Go.Proofs.YtocdlibnmlcokaaW.PrintLast
set_option linter.unusedVariables false
set_option linter.unusedSimpArgs false
def cu0 : Cu := ⟨0, 0⟩
end Go.Proofs.Ytocdlibnmlcokaa
namespace Go.Proofs.Ytocdlibnmlcokaa
open Go.RowKit Go.Proofs.YtocdlibnmlcokaaW.PrintWords Go.Proofs.YtocdlibnmlcokaaW.PrintLast
attribute [local go_sem high] eqN33
set_option linter.unusedVariables false
set_option linter.unusedSimpArgs false
def kpL (xs : List Int) : Nat → Cu → List Bool
  | 0, _ => []
  | k + 1, q => decide (0 < pkV xs 3 q) :: kpL xs k (pkC xs 3 q)
def kpQ (xs : List Int) : Nat → Cu → Cu
  | 0, q => q
  | k + 1, q => kpQ xs k (pkC xs 3 q)
def kpV (xs : List Int) (q : Cu) : List Bool := kpL xs (pkV xs 30 q).toNat (pkC xs 30 q)
def kpC (xs : List Int) (q : Cu) : Cu := kpQ xs (pkV xs 30 q).toNat (pkC xs 30 q)
theorem kpL_len (xs : List Int) : ∀ k q, (kpL xs k q).length = k
  | 0, _ => rfl
  | k + 1, q => by simp only [kpL, List.length_cons, kpL_len xs k]
theorem kpV_len (xs : List Int) (q : Cu) : (kpV xs q).length ≤ 29 := by
  have := pkV_range xs q (k := 30) (by omega)
  unfold kpV
  rw [kpL_len]; omega
theorem kpQ_p (xs : List Int) : ∀ k q, q.p ≤ (kpQ xs k q).p ∧ (kpQ xs k q).p ≤ q.p + 2 * k
  | 0, q => ⟨Int.le_refl _, by show q.p ≤ _; omega⟩
  | k + 1, q => by
    have h := kpQ_p xs k (pkC xs 3 q)
    have h2 := pkC_p xs 3 q
    show q.p ≤ (kpQ xs k (pkC xs 3 q)).p ∧ (kpQ xs k (pkC xs 3 q)).p ≤ _
    omega
theorem kpC_p (xs : List Int) (q : Cu) : q.p ≤ (kpC xs q).p ∧ (kpC xs q).p ≤ q.p + 60 := by
  have a := pkV_range xs q (k := 30) (by omega)
  have b := pkC_p xs 30 q
  have c := kpQ_p xs (pkV xs 30 q).toNat (pkC xs 30 q)
  unfold kpC; omega
set_option maxHeartbeats 4000000 in
set_option maxRecDepth 100000 in
theorem kept_c (A : Option Addr) (c : Nat) (xs : List Int) (q : Cu) (g : Nat) {w0 w : World} {L : List Rs} (h : Own w0 w (Rs.box g 123 (cuB A xs.length c q) :: L)) (hx : kB.C w0 A xs.length xs) (hb : BsOk xs) (h0 : 0 ≤ q.p) (h1 : q.p ≤ 800000000) :
    Calls Try.prog 126 #[.pointer (some ⟨g, 0, none⟩)] w (fun e w' => ∃ v, e = .returned v ∧ Own w0 w' (Rs.row Rp.bool 4 v (kpV xs q) :: Rs.box g 123 (cuB A xs.length c (kpC xs q)) :: L)) := by
  obtain ⟨R, hR⟩ : ∃ R, R = kpV xs q := ⟨_, rfl⟩
  obtain ⟨C, hC⟩ : ∃ C, C = kpC xs q := ⟨_, rfl⟩
  rw [← hR, ← hC]
  suffices H : ∀ Q : Ending → World → Prop, (∀ e w', (∃ v, e = .returned v ∧ Own w0 w' (Rs.row Rp.bool 4 v R :: Rs.box g 123 (cuB A xs.length c C) :: L)) → Q e w') → Calls Try.prog 126 #[.pointer (some ⟨g, 0, none⟩)] w Q from H _ (fun e w' h => h)
  intro Q hQ
  have O := Aside0.mk h; have HB := Aside0.mk hb; have HX := Aside0.mk hx; have HQ := Aside0.mk hQ; clear h hb hx hQ
  have r1 := pkV_range xs q (k := 30) (by omega)
  have p1 := pkC_p xs 30 q
  unfold kpV at hR
  unfold kpC at hC
  obtain ⟨n, hn⟩ : ∃ n : Nat, (n : Int) = pkV xs 30 q := ⟨(pkV xs 30 q).toNat, by omega⟩
  have hn2 : (pkV xs 30 q).toNat = n := by omega
  rw [hn2] at hR hC
  have HR := Aside0.mk hR; have HC := Aside0.mk hC; clear hR hC
  go_enter Try.func126, Try.ntmps126
  go_upto_region 2 with (fail)
  go_wp2_with fail
  refine (pick_c A c xs q g 30 O.out HX.out HB.out (by omega) (by omega) (by omega) (by omega)).mono ?_
  rintro e w2 ⟨rfl, hO⟩
  clear O; have O := Aside0.mk (hO.nilRow Rp.bool 4); clear hO
  generalize pkC xs 30 q = q1 at HR HC O p1
  rw [← hn]
  have hn11 : n ≤ 29 := by omega
  clear hn hn2 r1
  go_wp2
  go_loopg [3, 4] (n + 1) (fun m vr vi wr => ∃ (j : Nat) (ns : List Bool) (q' : Cu), vi = .int .i64 j ∧ Aside0 (j ≤ n ∧ j + 1 ≤ m ∧ ns.length + j = n ∧ 0 ≤ q'.p ∧ q'.p + 2 * j ≤ q.p + 100) ∧ Aside0 (R = ns ++ kpL xs j q' ∧ C = kpQ xs j q') ∧ Aside0 (Own w0 wr (Rs.row Rp.bool 4 vr ns :: Rs.box g 123 (cuB A xs.length c q') :: L)))
  case atStart => exact ⟨n, [], q1, rfl, ⟨by omega, by omega, by simp, by omega, by omega⟩, ⟨HR.out, HC.out⟩, O⟩
  case round =>
    clear O HR HC
    obtain ⟨j, ns, q', rfl, HJ, HR, O⟩ := hrel
    cases j with
    | zero =>
      go_wp2
      have e : R = ns := by rw [HR.out.1]; simp [kpL]
      have e2 : C = q' := HR.out.2
      exact HQ.out _ _ ⟨_, rfl, by rw [e, e2]; exact O.out⟩
    | succ j =>
      have hj := HJ.out
      obtain ⟨An, cn, rfl, _⟩ := O.out.f0
      have p2 := pkC_p xs 3 q'
      have r2 := pkV_range xs q' (k := 3) (by omega)
      go_wp2_with fail
      refine (pick_c A c xs q' g 3 O.out.p1 HX.out HB.out (by omega) (by omega) (by omega) (by omega)).mono ?_
      rintro e w3 ⟨rfl, hO⟩
      clear O
      have HR2 : Aside0 (R = (ns ++ [decide (0 < pkV xs 3 q')]) ++ kpL xs j (pkC xs 3 q') ∧ C = kpQ xs j (pkC xs 3 q')) := ⟨by rw [HR.out.1]; simp [kpL], HR.out.2⟩
      have O := Aside0.mk ((hO.p1.cel0 (r := Rp.bool) (cs := [.bool (decide (0 < pkV xs 3 q'))]) (x := decide (0 < pkV xs 3 q')) ⟨rfl, rfl⟩).p1); clear hO HR
      generalize pkV xs 3 q' = v at O HR2 r2 ⊢
      generalize pkC xs 3 q' = q2 at O HR2 p2
      go_upto_region 4 with (at_builtin; go_loud (refine Own.app_one Rp.bool rfl (.tmp 11) (.tmp 15) 34 4 (.bool false) 1 rfl Try.underlying34 info4 rfl (by decide) (by decide) (.slice An ns.length cn) ns (decide (0 < v)) _ rfl rfl O.out (by omega) ?_); intro v5 w5 hX; have O5 := Aside0.mk hX; clear hX)
      clear O
      go_wp2
      go_roundg (gk - 1)
      case measure => omega
      case rel => exact ⟨j, ns ++ [decide (0 < v)], q2, by first | rfl | (congr 1; omega), ⟨by omega, by omega, by rw [List.length_append]; simp; omega, by omega, by omega⟩, HR2, O5⟩
end Go.Proofs.Ytocdlibnmlcokaa
namespace Go.Proofs.Ytocdlibnmlcokaa
open Go.RowKit Go.Proofs.YtocdlibnmlcokaaW.PrintWords Go.Proofs.YtocdlibnmlcokaaW.PrintLast
set_option linter.unusedVariables false
set_option linter.unusedSimpArgs false
def wB (xs : List Int) (i : Int) : Int := if xs.length = 0 then 0 else rd xs (i % xs.length)
end Go.Proofs.Ytocdlibnmlcokaa
namespace Go.Proofs.Ytocdlibnmlcokaa
open Go.RowKit Go.Proofs.YtocdlibnmlcokaaW.PrintWords Go.Proofs.YtocdlibnmlcokaaW.PrintLast
set_option linter.unusedVariables false
set_option linter.unusedSimpArgs false
def xS : Nat → ByteArray
  | 0 => { data := #[] }
  | k + 1 => xS k ++ { data := #[120] }
theorem xS_size : ∀ k, (xS k).size = k
  | 0 => rfl
  | k + 1 => by
    show (xS k ++ { data := #[120] }).size = _
    rw [ByteArray.size_append, xS_size k]; rfl
def xN (m : Nat) : Nt := ⟨5, 0, 0, 0, xS m⟩
theorem flat_len (m : Nat) : ∀ k, (flatF (List.replicate k (xN m))).length = k * (17 + m)
  | 0 => by simp [flatF]
  | k + 1 => by
    rw [List.replicate_succ]
    have h1 : (xN m).text.size = m := xS_size m
    simp only [flatF, List.length_append, frameL_len, flat_len m k, h1]
    rw [Nat.add_mul]; omega
theorem openS_ws (S : List (List Int)) : (openS S).ws = [] := by unfold openS; split <;> rfl
end Go.Proofs.Ytocdlibnmlcokaa
namespace Go.Proofs.Ytocdlibnmlcokaa
open Go.RowKit Go.Proofs.YtocdlibnmlcokaaW.PrintWords Go.Proofs.YtocdlibnmlcokaaW.PrintLast
set_option linter.unusedVariables false
set_option linter.unusedSimpArgs false
theorem St.safe {S : List (List Int)} {ws : List Wr} {ns : List Nt} {L G : Int} {s : Nat} (h : St ⟨true, ⟨true, ns, L, G, s⟩, S, ws⟩ ns s G) :
    ∃ S2, commitS (syncL S ws) = ⟨true, ⟨true, ns, L, G, (ns.length : Nat)⟩, S2, []⟩ ∧ St ⟨true, ⟨true, ns, L, G, (ns.length : Nat)⟩, S2, []⟩ ns ns.length G := by
  have hst := h.commit
  simp only at hst
  have hi := hst.is
  have hL : ((flatF ns).length : Nat) = L := by have := h.lg_is; injection this with _ _ h3; exact h3.symm
  have hw : (commitS (syncL S ws)).ws = [] := rfl
  rw [hw, hL] at hi
  refine ⟨(commitS (syncL S ws)).bs, hi, ?_⟩
  rw [hi] at hst
  exact hst
theorem st_first : ∃ S, openL blankB [] = ⟨true, ⟨true, [], 0, 1, (0 : Nat)⟩, S, []⟩ ∧ St ⟨true, ⟨true, [], 0, 1, (0 : Nat)⟩, S, []⟩ [] 0 1 := by
  have hst : St (openL blankB []) [] 0 1 := by
    show St (openS blankB) [] 0 1
    exact st_new blank_ok blank_gen
  have hi := hst.is
  have hw : (openL blankB []).ws = [] := openS_ws _
  rw [hw] at hi
  refine ⟨(openL blankB []).bs, hi, ?_⟩
  rw [hi] at hst
  exact hst
end Go.Proofs.Ytocdlibnmlcokaa
namespace Go.Proofs.Ytocdlibnmlcokaa
open Go.Shelf
def Try.lays144_ren : Go.Shelf.Ren := ⟨fun | 144 => 106 | 143 => 145 | 219 => 161 | 217 => 164 | 225 => 165 | 224 => 166 | 267 => 167 | 266 => 168 | 314 => 169 | n => n, fun | 9 => 9 | 4 => 4 | 3 => 3 | 5 => 5 | 46 => 179 | 146 => 183 | 51 => 182 | n => n, fun | 1 => 0 | n => n⟩
theorem Try.lays144 : Go.Proofs.Lays.n144 Try.prog Try.lays144_ren := {
  mixed := by kernel_rfl
  f143 := Try.func145.trans (congrArg some (by kernel_rfl))
  f144 := Try.func106.trans (congrArg some (by kernel_rfl))
  f217 := Try.func164.trans (congrArg some (by kernel_rfl))
  f219 := Try.func161.trans (congrArg some (by kernel_rfl))
  f224 := Try.func166.trans (congrArg some (by kernel_rfl))
  f225 := Try.func165.trans (congrArg some (by kernel_rfl))
  f266 := Try.func168.trans (congrArg some (by kernel_rfl))
  f267 := Try.func167.trans (congrArg some (by kernel_rfl))
  f314 := Try.func169.trans (congrArg some (by kernel_rfl))
  t3 := Try.underlying3
  a3 := Try.isAgg3
  z3 := Try.sizeOf3
  v3 := Try.zeroValue3
  t4 := Try.underlying4
  a4 := Try.isAgg4
  z4 := Try.sizeOf4
  v4 := Try.zeroValue4
  t5 := Try.underlying5
  a5 := Try.isAgg5
  z5 := Try.sizeOf5
  v5 := Try.zeroValue5
  t9 := Try.underlying9
  a9 := Try.isAgg9
  z9 := Try.sizeOf9
  v9 := Try.zeroValue9
  t46 := Try.underlying179
  a46 := Try.isAgg179
  z46 := Try.sizeOf179
  v46 := Try.zeroValue179
  t51 := Try.underlying182
  a51 := Try.isAgg182
  z51 := Try.sizeOf182
  v51 := Try.zeroValue182
  t146 := Try.underlying183
  a146 := Try.isAgg183
  z146 := Try.sizeOf183
  v146 := Try.zeroValue183
  g1 := by kernel_rfl }
open Go.RowKit Go.Lib in
theorem Try.strings_Contains (s sub : ByteArray) (m : Int) (w : World) (hs : s.size < 4294967281) (hm : w.cell? ⟨0, 0, none⟩ = some (.int .i64 m)) :
    Calls Try.prog 106 #[.string s, .string sub] w fun e w' => e = .returned (.bool (Lib.contains s.data.toList sub.data.toList)) ∧ w' = w := Any.strings_Contains Try.lays144 s sub m w hs hm
def Try.laysM144_ren : Go.Shelf.Ren := ⟨fun | 144 => 106 | 143 => 145 | 219 => 161 | 217 => 164 | 225 => 165 | 224 => 166 | 267 => 167 | 266 => 168 | 314 => 169 | n => n, fun | 9 => 9 | 4 => 4 | 3 => 3 | 5 => 5 | 46 => 179 | 146 => 183 | 51 => 182 | n => n, fun | 1 => 0 | n => n⟩
theorem Try.laysM144 : Go.Proofs.LaysM.n144 Try.prog Try.laysM144_ren := {
  mixed := by kernel_rfl
  f143 := Try.func145.trans (congrArg some (by kernel_rfl))
  f144 := Try.func106.trans (congrArg some (by kernel_rfl))
  f217 := Try.func164.trans (congrArg some (by kernel_rfl))
  f219 := Try.func161.trans (congrArg some (by kernel_rfl))
  f224 := Try.func166.trans (congrArg some (by kernel_rfl))
  f225 := Try.func165.trans (congrArg some (by kernel_rfl))
  f266 := Try.func168.trans (congrArg some (by kernel_rfl))
  f267 := Try.func167.trans (congrArg some (by kernel_rfl))
  f314 := Try.func169.trans (congrArg some (by kernel_rfl))
  t3 := Try.underlying3
  a3 := Try.isAgg3
  z3 := Try.sizeOf3
  v3 := Try.zeroValue3
  t4 := Try.underlying4
  a4 := Try.isAgg4
  z4 := Try.sizeOf4
  v4 := Try.zeroValue4
  t5 := Try.underlying5
  a5 := Try.isAgg5
  z5 := Try.sizeOf5
  v5 := Try.zeroValue5
  t9 := Try.underlying9
  a9 := Try.isAgg9
  z9 := Try.sizeOf9
  v9 := Try.zeroValue9
  t46 := Try.underlying179
  a46 := Try.isAgg179
  z46 := Try.sizeOf179
  v46 := Try.zeroValue179
  t51 := Try.underlying182
  a51 := Try.isAgg182
  z51 := Try.sizeOf182
  v51 := Try.zeroValue182
  t146 := Try.underlying183
  a146 := Try.isAgg183
  z146 := Try.sizeOf183
  v146 := Try.zeroValue183
  g1 := by kernel_rfl
  i3 := by kernel_rfl
  i4 := by kernel_rfl
  i5 := by kernel_rfl
  i9 := by kernel_rfl
  i46 := by kernel_rfl
  i51 := by kernel_rfl
  i146 := by kernel_rfl
  m1 := by kernel_rfl
  s1_3 := fun w h => Go.Proofs.cell_of_shapedOpen_int (zero := #[.int .i64 0]) (t := 3) h (of_decide_eq_true (by kernel_rfl)) (by kernel_rfl) rfl (by kernel_rfl) (by kernel_rfl) Try.underlying3 }
end Go.Proofs.Ytocdlibnmlcokaa
namespace Go.Proofs.Ytocdlibnmlcokaa
open Go.RowKit Go.Proofs.YtocdlibnmlcokaaW.PrintWords Go.Proofs.YtocdlibnmlcokaaW.PrintLast
set_option linter.unusedVariables false
set_option linter.unusedSimpArgs false
def HasMax (w : World) : Prop := ∃ m : Int, w.cell? ⟨0, 0, none⟩ = some (.int .i64 m)
theorem HasMax.below {w w1 : World} (h : HasMax w) (hb : Below w.heap.size w w1) : HasMax w1 := by
  obtain ⟨m, hm⟩ := h
  exact ⟨m, pw_cell_below hb hm⟩
theorem HasMax.of {w : World} (h : w.ShapedOpen Try.prog) : HasMax w := Try.laysM144.s1_3 w h
def hasB (s part : ByteArray) : Bool := Lib.contains s.data.toList part.data.toList
theorem hasB_yes {s part : ByteArray} {i : Nat} (hi : i + part.size ≤ s.size) (ho : Lib.occAt s.data.toList part.data.toList i = true) : hasB s part = true := by
  unfold hasB Lib.contains
  have hs : s.data.toList.length = s.size := data_length s
  rcases Lib.index_spec s.data.toList part.data.toList with ⟨_, h2⟩ | ⟨j, h1, _⟩
  · rw [h2 i (by omega)] at ho; cases ho
  · rw [h1]; simp
theorem hasB_no {s part : ByteArray} (h : ∀ i, i + part.size ≤ s.size → Lib.occAt s.data.toList part.data.toList i = false) : hasB s part = false := by
  unfold hasB Lib.contains
  have hl : part.data.toList.length = part.size := data_length part
  have hs : s.data.toList.length = s.size := data_length s
  rcases Lib.index_spec s.data.toList part.data.toList with ⟨h1, _⟩ | ⟨j, h1, h2, h3, _⟩
  · rw [h1]; decide
  · exfalso
    have h5 : j + part.size ≤ s.size := by
      rcases Lib.occAt_room h3 with h4 | h4
      · omega
      · rw [h4] at hl; simp at hl; omega
    rw [h j h5] at h3
    cases h3
theorem contains_c (s part : ByteArray) (w : World) (hs : s.size < 4294967281) (hm : HasMax w) :
    Calls Try.prog 106 #[.string s, .string part] w fun e w' => e = .returned (.bool (hasB s part)) ∧ w' = w := by
  obtain ⟨m, hm⟩ := hm
  exact Try.strings_Contains s part m w hs hm
set_option maxHeartbeats 2000000 in
set_option maxRecDepth 100000 in
theorem l4has_c (s part : ByteArray) (w : World) (hs : s.size < 4294967281) (hp : part.size < 4294967281) :
    Calls Try.prog 107 #[.string s, .string part] w fun e w' => e = .returned (.bool (hasB s part)) ∧ w' = w := by
  go_enter Try.func107, Try.ntmps107
  go_wp2
  go_loopg [5] (s.size + 1) (fun m v wr => ∃ i : Nat, v = .int .i64 i ∧ Aside0 (s.size + 1 - i ≤ m ∧ ∀ j, j < i → j + part.size ≤ s.size → Lib.occAt s.data.toList part.data.toList j = false) ∧ Aside0 (i ≤ s.size + 1) ∧ wr = w)
  case atStart => exact ⟨0, rfl, ⟨by simp, fun j h => by omega⟩, ⟨by omega⟩, rfl⟩
  case round =>
    obtain ⟨i, rfl, HI, HI2, rfl⟩ := hrel
    have hi2 := HI2.out
    by_cases h : i + part.size ≤ s.size
    · have hcut : ∀ W, (Instr.slice 9 (.string s) (some (.int .i64 i)) (some (.int .i64 ((i:Int) + part.size))) none).run Try.prog W = .ok (.string (s.extract i (i + part.size))) W := by
        intro W
        have e := run_slice_string (P := Try.prog) (w := W) 9 s .i64 .i64 (i:Int) ((i:Int) + part.size) Try.underlying9 (by omega) (by omega) (by omega)
        rw [e]
        simp only [Int.toNat_natCast, show ((i:Int) + part.size).toNat = i + part.size by omega]
      have ho := Lib.occ_of_piece s part i h
      generalize hbb : ((s.extract i (i + part.size)).toList == part.toList) = b at ho
      have HO := Aside0.mk ho; clear ho
      cases b with
      | true =>
        go_wp2
        go_ret
        exact ⟨by rw [hasB_yes h HO.out]; rfl, rfl⟩
      | false =>
        go_wp2
        go_roundg (gk - 1)
        case measure => have := HI.out.1; omega
        case rel => exact ⟨i + 1, by first | rfl | (congr 1; omega), ⟨by have := HI.out.1; omega, fun j h1 h2 => by
            rcases Nat.lt_or_ge j i with h3 | h3
            · exact HI.out.2 j h3 h2
            · rw [show j = i by omega]; exact HO.out⟩, ⟨by omega⟩, rfl⟩
    · go_wp2
      go_ret
      exact ⟨by rw [hasB_no (fun j hj => HI.out.2 j (by omega) hj)]; rfl, rfl⟩
end Go.Proofs.Ytocdlibnmlcokaa
namespace Go.Proofs.Ytocdlibnmlcokaa
open Go.RowKit Go.Proofs.YtocdlibnmlcokaaW.PrintWords Go.Proofs.YtocdlibnmlcokaaW.PrintLast
set_option linter.unusedVariables false
set_option linter.unusedSimpArgs false
def fits (a x : Nt) : Bool := decide (a.tick ≤ x.tick) && decide (x.tick ≤ a.kind) && (decide (a.who = -1) || decide (a.who = x.kind)) && (decide (a.n = -1) || decide (a.n = x.who)) && hasB x.text a.text
def findTo (a : Nt) (xs : List Nt) (i : Nat) : List Int := ((List.range i).filter (fun (j : Nat) => fits a (gN xs (j : Int)))).map (fun (j : Nat) => (j : Int))
def findL (a : Nt) (xs : List Nt) : List Int := findTo a xs xs.length
theorem findTo_yes {a : Nt} {xs : List Nt} {i : Nat} (h : fits a (gN xs i) = true) : findTo a xs (i + 1) = findTo a xs i ++ [(i : Int)] := by
  unfold findTo
  rw [List.range_succ, List.filter_append, List.map_append]
  simp [h]
theorem findTo_no {a : Nt} {xs : List Nt} {i : Nat} (h : fits a (gN xs i) = false) : findTo a xs (i + 1) = findTo a xs i := by
  unfold findTo
  rw [List.range_succ, List.filter_append, List.map_append]
  simp [h]
theorem findTo_len (a : Nt) (xs : List Nt) (i : Nat) : (findTo a xs i).length ≤ i := by
  unfold findTo
  rw [List.length_map]
  exact Nat.le_trans (List.length_filter_le _ _) (by simp)
theorem fits_b {tick kind who n : Int} {text : ByteArray} {x : Nt} {b : Bool} (h1 : tick ≤ x.tick) (h2 : x.tick ≤ kind) (h3 : who = -1 ∨ who = x.kind) (h4 : n = -1 ∨ n = x.who) (hb : hasB x.text text = b) : fits ⟨tick, kind, who, n, text⟩ x = b := by
  unfold fits
  simp only [hb]
  have e3 : (decide (who = -1) || decide (who = x.kind)) = true := by rcases h3 with h | h <;> simp [h]
  have e4 : (decide (n = -1) || decide (n = x.who)) = true := by rcases h4 with h | h <;> simp [h]
  rw [e3, e4]
  simp [h1, h2]
theorem fits_no {tick kind who n : Int} {text : ByteArray} {x : Nt} (h : ¬ (tick ≤ x.tick ∧ x.tick ≤ kind ∧ (who = -1 ∨ who = x.kind) ∧ (n = -1 ∨ n = x.who))) : fits ⟨tick, kind, who, n, text⟩ x = false := by
  cases hb : fits ⟨tick, kind, who, n, text⟩ x
  · rfl
  · exfalso
    apply h
    unfold fits at hb
    simp only [Bool.and_eq_true, Bool.or_eq_true, decide_eq_true_eq] at hb
    exact ⟨hb.1.1.1.1, hb.1.1.1.2, hb.1.1.2, hb.1.2⟩
theorem info3 : (Try.prog.info? 3).map (fun i => (i.zero, i.size, i.bytes)) = some (some (.int .i64 0), 1, 8) := by kernel_rfl
set_option maxHeartbeats 16000000 in
set_option maxRecDepth 100000 in
theorem implFind_c (A : Option Addr) (c : Nat) (xs : List Nt) (a : Nt) (w : World) (hx : rN.d.C w A xs.length xs) (ht : ∀ x ∈ xs, x.text.size < 4294967281) (ha : a.text.size < 4294967281) (hl : xs.length ≤ 1048576) (hm : HasMax w) :
    Calls Try.prog 33 #[.slice A xs.length c, vN a] w (GotRow rI 3 w (findL a xs)) := by
  suffices H : ∀ Q : Ending → World → Prop, (∀ e w', GotRow rI 3 w (findL a xs) e w' → Q e w') → Calls Try.prog 33 #[.slice A xs.length c, vN a] w Q from H _ (fun e w' h => h)
  intro Q hQ
  have HX := Aside0.mk hx; have HT := Aside0.mk ht; have HQ := Aside0.mk hQ; clear hx ht hQ; have HM := Aside0.mk hm; clear hm
  obtain ⟨tick, kind, who, n, text⟩ := a
  simp only [vN] at *
  go_enter Try.func33, Try.ntmps33
  go_upto_region 1 with (fail)
  generalize hw : w.alloc _ = w1
  have O := Aside0.mk ((Own.nil w).of hw); clear hw
  go_upto_region 2 with (fail)
  replace O := Aside0.mk (O.out.nilRow rI 3)
  go_wp2
  go_loopg [5, 10] xs.length (fun m vr vi wr => ∃ i : Nat, vi = .int .i64 i ∧ Aside0 (i ≤ xs.length ∧ xs.length - i ≤ m) ∧ Aside0 (Own w wr [Rs.row rI 3 vr (findTo ⟨tick, kind, who, n, text⟩ xs i), Rs.box w.heap.size 36 #[.int .i64 tick, .int .i64 kind, .int .i64 who, .int .i64 n, .string text]]))
  case atStart => exact ⟨0, rfl, ⟨by simp⟩, O⟩
  case round =>
    clear O
    obtain ⟨i, rfl, HI, O⟩ := hrel
    by_cases hi : i < xs.length
    · obtain ⟨ad, e1, a0, a1, a2, a3, a4⟩ := at_N (Kd.C_below HX.out O.out.bel) (i : Int) (by omega) (by omega)
      cases e1
      simp only [Int.toNat_natCast] at a0 a1 a2 a3 a4
      have htx : (gN xs i).text.size < 4294967281 := by rw [gN_eq (by omega)]; exact HT.out _ (List.getElem_mem _)
      obtain ⟨x, hxe⟩ : ∃ x, x = gN xs i := ⟨_, rfl⟩
      rw [← hxe] at a0 a1 a2 a3 a4 htx
      have HXE := Aside0.mk hxe; clear hxe
      go_upto_region 5 with (fail)
      generalize hw : wr.alloc _ = w2
      replace O := Aside0.mk (O.out.of hw); clear hw
      generalize wr.heap.size = g2 at O ⊢
      have b0 := (blk_cell O.out.b0 0).trans rfl; have b1 := (blk_cell O.out.b0 1).trans rfl; have b2 := (blk_cell O.out.b0 2).trans rfl; have b3 := (blk_cell O.out.b0 3).trans rfl; have b4 := (blk_cell O.out.b0 4).trans rfl
      have c0 := (blk_cell O.out.b2 0).trans rfl; have c1 := (blk_cell O.out.b2 1).trans rfl; have c2 := (blk_cell O.out.b2 2).trans rfl; have c3 := (blk_cell O.out.b2 3).trans rfl; have c4 := (blk_cell O.out.b2 4).trans rfl
      by_cases h1 : tick ≤ x.tick
      · by_cases h2 : x.tick ≤ kind
        · have H1 := Aside0.mk h1; have H2 := Aside0.mk h2
          by_cases h3 : who = -1
          · have HWH : Aside0 (who = -1 ∨ who = x.kind) := ⟨.inl h3⟩
            obtain ⟨E3, _⟩ := eqT h3; clear h3
            by_cases h5 : n = -1
            · have HNN : Aside0 (n = -1 ∨ n = x.who) := ⟨.inl h5⟩
              obtain ⟨E5, _⟩ := eqT h5; clear h5
              go_wp2_with fail
              refine (contains_c _ _ _ htx (HM.out.below O.out.bel)).mono ?_
              rintro e w3 ⟨rfl, rfl⟩
              generalize hb : hasB x.text text = b
              have HBQ := Aside0.mk hb; clear hb
              cases b with
              | true =>
                have HFY : Aside0 (fits ⟨tick, kind, who, n, text⟩ x = true) := ⟨fits_b (x := x) H1.out H2.out HWH.out HNN.out HBQ.out⟩
                clear a0 a1 a2 a3 a4 b0 b1 b2 b3 b4 c0 c1 c2 c3 c4
                replace O := Aside0.mk (O.out.p1.cel0 (r := rI) (cs := [.int .i64 i]) (x := (i : Int)) ⟨rfl, rfl⟩).p1
                go_upto_region 7 with (at_builtin; go_loud (refine Own.app_one rI rfl (.tmp 58) (.tmp 60) 28 3 (.int .i64 0) 8 rfl Try.underlying28 info3 rfl (by decide) (by decide) _ _ (i : Int) _ rfl rfl O.out (Nat.le_trans (Nat.mul_le_mul_right 8 (Nat.add_le_add_right (findTo_len ⟨tick, kind, who, n, text⟩ xs i) 1)) (by omega)) ?_); intro v5 w5 hX; have O5 := Aside0.mk hX; clear hX)
                clear O
                go_wp2
                go_roundg (gk - 1)
                case measure => have := HI.out; omega
                case rel => exact ⟨i + 1, by first | rfl | (congr 1; omega), ⟨by have := HI.out; omega⟩, ⟨by rw [findTo_yes (HXE.out ▸ HFY.out)]; exact O5.out.p1.drop⟩⟩
              | false =>
                have HFN : Aside0 (fits ⟨tick, kind, who, n, text⟩ x = false) := ⟨fits_b (x := x) H1.out H2.out HWH.out HNN.out HBQ.out⟩
                clear a0 a1 a2 a3 a4 b0 b1 b2 b3 b4 c0 c1 c2 c3 c4
                go_wp2
                go_roundg (gk - 1)
                case measure => have := HI.out; omega
                case rel => exact ⟨i + 1, by first | rfl | (congr 1; omega), ⟨by have := HI.out; omega⟩, ⟨by rw [findTo_no (HXE.out ▸ HFN.out)]; exact O.out.drop⟩⟩
            · by_cases h6 : n = x.who
              · have HNN : Aside0 (n = -1 ∨ n = x.who) := ⟨.inr h6⟩
                obtain ⟨E5, _⟩ := eqF h5; obtain ⟨E6, _⟩ := eqT h6; clear h5 h6
                go_wp2_with fail
                refine (contains_c _ _ _ htx (HM.out.below O.out.bel)).mono ?_
                rintro e w3 ⟨rfl, rfl⟩
                generalize hb : hasB x.text text = b
                have HBQ := Aside0.mk hb; clear hb
                cases b with
                | true =>
                  have HFY : Aside0 (fits ⟨tick, kind, who, n, text⟩ x = true) := ⟨fits_b (x := x) H1.out H2.out HWH.out HNN.out HBQ.out⟩
                  clear a0 a1 a2 a3 a4 b0 b1 b2 b3 b4 c0 c1 c2 c3 c4
                  replace O := Aside0.mk (O.out.p1.cel0 (r := rI) (cs := [.int .i64 i]) (x := (i : Int)) ⟨rfl, rfl⟩).p1
                  go_upto_region 7 with (at_builtin; go_loud (refine Own.app_one rI rfl (.tmp 58) (.tmp 60) 28 3 (.int .i64 0) 8 rfl Try.underlying28 info3 rfl (by decide) (by decide) _ _ (i : Int) _ rfl rfl O.out (Nat.le_trans (Nat.mul_le_mul_right 8 (Nat.add_le_add_right (findTo_len ⟨tick, kind, who, n, text⟩ xs i) 1)) (by omega)) ?_); intro v5 w5 hX; have O5 := Aside0.mk hX; clear hX)
                  clear O
                  go_wp2
                  go_roundg (gk - 1)
                  case measure => have := HI.out; omega
                  case rel => exact ⟨i + 1, by first | rfl | (congr 1; omega), ⟨by have := HI.out; omega⟩, ⟨by rw [findTo_yes (HXE.out ▸ HFY.out)]; exact O5.out.p1.drop⟩⟩
                | false =>
                  have HFN : Aside0 (fits ⟨tick, kind, who, n, text⟩ x = false) := ⟨fits_b (x := x) H1.out H2.out HWH.out HNN.out HBQ.out⟩
                  clear a0 a1 a2 a3 a4 b0 b1 b2 b3 b4 c0 c1 c2 c3 c4
                  go_wp2
                  go_roundg (gk - 1)
                  case measure => have := HI.out; omega
                  case rel => exact ⟨i + 1, by first | rfl | (congr 1; omega), ⟨by have := HI.out; omega⟩, ⟨by rw [findTo_no (HXE.out ▸ HFN.out)]; exact O.out.drop⟩⟩
              · have HNO : Aside0 (¬ (tick ≤ x.tick ∧ x.tick ≤ kind ∧ (who = -1 ∨ who = x.kind) ∧ (n = -1 ∨ n = x.who))) := ⟨by omega⟩
                obtain ⟨E5, _⟩ := eqF h5; obtain ⟨E6, _⟩ := eqF h6; clear h5 h6
                have HFN : Aside0 (fits ⟨tick, kind, who, n, text⟩ x = false) := ⟨fits_no HNO.out⟩
                go_wp2
                go_roundg (gk - 1)
                case measure => have := HI.out; omega
                case rel => exact ⟨i + 1, by first | rfl | (congr 1; omega), ⟨by have := HI.out; omega⟩, ⟨by rw [findTo_no (HXE.out ▸ HFN.out)]; exact O.out.drop⟩⟩
          · by_cases h4 : who = x.kind
            · have HWH : Aside0 (who = -1 ∨ who = x.kind) := ⟨.inr h4⟩
              obtain ⟨E3, _⟩ := eqF h3; obtain ⟨E4, _⟩ := eqT h4; clear h3 h4
              by_cases h5 : n = -1
              · have HNN : Aside0 (n = -1 ∨ n = x.who) := ⟨.inl h5⟩
                obtain ⟨E5, _⟩ := eqT h5; clear h5
                go_wp2_with fail
                refine (contains_c _ _ _ htx (HM.out.below O.out.bel)).mono ?_
                rintro e w3 ⟨rfl, rfl⟩
                generalize hb : hasB x.text text = b
                have HBQ := Aside0.mk hb; clear hb
                cases b with
                | true =>
                  have HFY : Aside0 (fits ⟨tick, kind, who, n, text⟩ x = true) := ⟨fits_b (x := x) H1.out H2.out HWH.out HNN.out HBQ.out⟩
                  clear a0 a1 a2 a3 a4 b0 b1 b2 b3 b4 c0 c1 c2 c3 c4
                  replace O := Aside0.mk (O.out.p1.cel0 (r := rI) (cs := [.int .i64 i]) (x := (i : Int)) ⟨rfl, rfl⟩).p1
                  go_upto_region 7 with (at_builtin; go_loud (refine Own.app_one rI rfl (.tmp 58) (.tmp 60) 28 3 (.int .i64 0) 8 rfl Try.underlying28 info3 rfl (by decide) (by decide) _ _ (i : Int) _ rfl rfl O.out (Nat.le_trans (Nat.mul_le_mul_right 8 (Nat.add_le_add_right (findTo_len ⟨tick, kind, who, n, text⟩ xs i) 1)) (by omega)) ?_); intro v5 w5 hX; have O5 := Aside0.mk hX; clear hX)
                  clear O
                  go_wp2
                  go_roundg (gk - 1)
                  case measure => have := HI.out; omega
                  case rel => exact ⟨i + 1, by first | rfl | (congr 1; omega), ⟨by have := HI.out; omega⟩, ⟨by rw [findTo_yes (HXE.out ▸ HFY.out)]; exact O5.out.p1.drop⟩⟩
                | false =>
                  have HFN : Aside0 (fits ⟨tick, kind, who, n, text⟩ x = false) := ⟨fits_b (x := x) H1.out H2.out HWH.out HNN.out HBQ.out⟩
                  clear a0 a1 a2 a3 a4 b0 b1 b2 b3 b4 c0 c1 c2 c3 c4
                  go_wp2
                  go_roundg (gk - 1)
                  case measure => have := HI.out; omega
                  case rel => exact ⟨i + 1, by first | rfl | (congr 1; omega), ⟨by have := HI.out; omega⟩, ⟨by rw [findTo_no (HXE.out ▸ HFN.out)]; exact O.out.drop⟩⟩
              · by_cases h6 : n = x.who
                · have HNN : Aside0 (n = -1 ∨ n = x.who) := ⟨.inr h6⟩
                  obtain ⟨E5, _⟩ := eqF h5; obtain ⟨E6, _⟩ := eqT h6; clear h5 h6
                  go_wp2_with fail
                  refine (contains_c _ _ _ htx (HM.out.below O.out.bel)).mono ?_
                  rintro e w3 ⟨rfl, rfl⟩
                  generalize hb : hasB x.text text = b
                  have HBQ := Aside0.mk hb; clear hb
                  cases b with
                  | true =>
                    have HFY : Aside0 (fits ⟨tick, kind, who, n, text⟩ x = true) := ⟨fits_b (x := x) H1.out H2.out HWH.out HNN.out HBQ.out⟩
                    clear a0 a1 a2 a3 a4 b0 b1 b2 b3 b4 c0 c1 c2 c3 c4
                    replace O := Aside0.mk (O.out.p1.cel0 (r := rI) (cs := [.int .i64 i]) (x := (i : Int)) ⟨rfl, rfl⟩).p1
                    go_upto_region 7 with (at_builtin; go_loud (refine Own.app_one rI rfl (.tmp 58) (.tmp 60) 28 3 (.int .i64 0) 8 rfl Try.underlying28 info3 rfl (by decide) (by decide) _ _ (i : Int) _ rfl rfl O.out (Nat.le_trans (Nat.mul_le_mul_right 8 (Nat.add_le_add_right (findTo_len ⟨tick, kind, who, n, text⟩ xs i) 1)) (by omega)) ?_); intro v5 w5 hX; have O5 := Aside0.mk hX; clear hX)
                    clear O
                    go_wp2
                    go_roundg (gk - 1)
                    case measure => have := HI.out; omega
                    case rel => exact ⟨i + 1, by first | rfl | (congr 1; omega), ⟨by have := HI.out; omega⟩, ⟨by rw [findTo_yes (HXE.out ▸ HFY.out)]; exact O5.out.p1.drop⟩⟩
                  | false =>
                    have HFN : Aside0 (fits ⟨tick, kind, who, n, text⟩ x = false) := ⟨fits_b (x := x) H1.out H2.out HWH.out HNN.out HBQ.out⟩
                    clear a0 a1 a2 a3 a4 b0 b1 b2 b3 b4 c0 c1 c2 c3 c4
                    go_wp2
                    go_roundg (gk - 1)
                    case measure => have := HI.out; omega
                    case rel => exact ⟨i + 1, by first | rfl | (congr 1; omega), ⟨by have := HI.out; omega⟩, ⟨by rw [findTo_no (HXE.out ▸ HFN.out)]; exact O.out.drop⟩⟩
                · have HNO : Aside0 (¬ (tick ≤ x.tick ∧ x.tick ≤ kind ∧ (who = -1 ∨ who = x.kind) ∧ (n = -1 ∨ n = x.who))) := ⟨by omega⟩
                  obtain ⟨E5, _⟩ := eqF h5; obtain ⟨E6, _⟩ := eqF h6; clear h5 h6
                  have HFN : Aside0 (fits ⟨tick, kind, who, n, text⟩ x = false) := ⟨fits_no HNO.out⟩
                  go_wp2
                  go_roundg (gk - 1)
                  case measure => have := HI.out; omega
                  case rel => exact ⟨i + 1, by first | rfl | (congr 1; omega), ⟨by have := HI.out; omega⟩, ⟨by rw [findTo_no (HXE.out ▸ HFN.out)]; exact O.out.drop⟩⟩
            · have HNO : Aside0 (¬ (tick ≤ x.tick ∧ x.tick ≤ kind ∧ (who = -1 ∨ who = x.kind) ∧ (n = -1 ∨ n = x.who))) := ⟨by omega⟩
              obtain ⟨E3, _⟩ := eqF h3; obtain ⟨E4, _⟩ := eqF h4; clear h3 h4
              have HFN : Aside0 (fits ⟨tick, kind, who, n, text⟩ x = false) := ⟨fits_no HNO.out⟩
              go_wp2
              go_roundg (gk - 1)
              case measure => have := HI.out; omega
              case rel => exact ⟨i + 1, by first | rfl | (congr 1; omega), ⟨by have := HI.out; omega⟩, ⟨by rw [findTo_no (HXE.out ▸ HFN.out)]; exact O.out.drop⟩⟩
        · have HNO : Aside0 (¬ (tick ≤ x.tick ∧ x.tick ≤ kind ∧ (who = -1 ∨ who = x.kind) ∧ (n = -1 ∨ n = x.who))) := ⟨by omega⟩
          have HFN : Aside0 (fits ⟨tick, kind, who, n, text⟩ x = false) := ⟨fits_no HNO.out⟩
          go_wp2
          go_roundg (gk - 1)
          case measure => have := HI.out; omega
          case rel => exact ⟨i + 1, by first | rfl | (congr 1; omega), ⟨by have := HI.out; omega⟩, ⟨by rw [findTo_no (HXE.out ▸ HFN.out)]; exact O.out.drop⟩⟩
      · have HNO : Aside0 (¬ (tick ≤ x.tick ∧ x.tick ≤ kind ∧ (who = -1 ∨ who = x.kind) ∧ (n = -1 ∨ n = x.who))) := ⟨by omega⟩
        have HFN : Aside0 (fits ⟨tick, kind, who, n, text⟩ x = false) := ⟨fits_no HNO.out⟩
        go_wp2
        go_roundg (gk - 1)
        case measure => have := HI.out; omega
        case rel => exact ⟨i + 1, by first | rfl | (congr 1; omega), ⟨by have := HI.out; omega⟩, ⟨by rw [findTo_no (HXE.out ▸ HFN.out)]; exact O.out.drop⟩⟩
    · have h9 : i = xs.length := by have := HI.out; omega
      have HI9 := Aside0.mk h9; clear h9
      go_wp2
      obtain ⟨f, hf, hn, hl2, hc⟩ := O.out.take
      rw [HI9.out] at hf
      exact HQ.out _ _ ⟨_, rfl, ⟨f, hf, hn, hl2⟩, O.out.bel⟩
end Go.Proofs.Ytocdlibnmlcokaa
namespace Go.Proofs.Ytocdlibnmlcokaa
open Go.RowKit Go.Proofs.YtocdlibnmlcokaaW.PrintWords Go.Proofs.YtocdlibnmlcokaaW.PrintLast
set_option linter.unusedVariables false
set_option linter.unusedSimpArgs false
structure Ac where
  op : Int
  note : Nt
  kept : List Bool
  ask : Nt
  pos : Int
  amt : Int
structure Ad where
  code : Int
  notes : Int
  safe : Int
  found : List Int
def AcOk (a : Ac) : Prop := (a.op = 1 ∧ NtOk a.note) ∨ a.op = 2 ∨ (a.op = 3 ∧ a.kept.length ≤ 200) ∨ a.op = 4 ∨ (a.op = 5 ∧ 0 ≤ a.pos ∧ a.pos ≤ 8191 ∧ 1 ≤ a.amt ∧ a.amt ≤ 255)
instance (x : Nt) : Decidable (NtOk x) := by unfold NtOk; exact inferInstance
instance (a : Ac) : Decidable (AcOk a) := by unfold AcOk; exact inferInstance
def xorB (x y : Int) : Int := bits BinOp.xor IntKind.u8 x (IntKind.u8.wrap y)
def spoilB (b : List Int) (p a : Int) : List Int := b.set (p % 64).toNat (xorB (rd b (p % 64)) a)
def spoilS (S : List (List Int)) (p a : Int) : List (List Int) := S.set (p / 64).toNat (spoilB (gBS S (p / 64)) p a)
def nextL (o : Opn) (a : Ac) : Opn :=
  if a.op = 1 then appendO o.bs o.ws a.note else if a.op = 2 then commitS (syncL o.bs o.ws) else if a.op = 3 then openL (settleL o.bs o.ws (kfL false a.kept)) [] else if a.op = 4 then o else openL (spoilS (syncL o.bs o.ws) a.pos a.amt) []
def codeL (o : Opn) (a : Ac) : Int := if AcOk a then (if (nextL o a).ok = true then 0 else 2) else 1
def afterL (o : Opn) (a : Ac) : Opn := if codeL o a = 0 then nextL o a else o
def askL (o : Opn) (a : Ac) : List Int := if a.op = 4 then findL a.ask o.lg.notes else []
def stepL (o : Opn) (a : Ac) : Ad := ⟨codeL o a, (afterL o a).lg.notes.length, (afterL o a).lg.safe, askL o a⟩
def gA (xs : List Ac) (i : Int) : Ac := xs.getD i.toNat ⟨0, zN, [], zN, 0, 0⟩
def stO (o : Opn) (acts : List Ac) : Nat → Opn
  | 0 => o
  | i + 1 => afterL (stO o acts i) (gA acts (i : Nat))
def outL (o : Opn) (acts : List Ac) : Nat → List Ad
  | 0 => []
  | i + 1 => outL o acts i ++ [stepL (stO o acts i) (gA acts (i : Nat))]
theorem outL_len (o : Opn) (acts : List Ac) : ∀ i, (outL o acts i).length = i
  | 0 => rfl
  | i + 1 => by simp only [outL, List.length_append, List.length_cons, List.length_nil, outL_len o acts i]
def runL (acts : List Ac) : List Ad := if 300 < acts.length then [] else outL (openL blankB []) acts acts.length
def Inv (o : Opn) : Prop := RightP o ∧ BkOk o.bs o.ws
theorem xorB_range (x y : Int) : 0 ≤ xorB x y ∧ xorB x y < 256 := by
  unfold xorB Go.bits
  simp only []
  rw [u8_w]
  omega
theorem frames_ok : ∀ (k : Nat) (b : List Int), ∀ x ∈ (framesF k b).1, NtOk x
  | 0, b, x, h => by simp [framesF] at h
  | k + 1, b, x, h => by
    by_cases hf : FrIs b
    · rw [framesF_yes hf] at h
      rcases List.mem_cons.1 h with rfl | h
      · exact hf.2.2.2
      · exact frames_ok k _ x h
    · rw [framesF_no hf] at h; simp at h
theorem Inv.notes {o : Opn} (h : Inv o) : (∀ x ∈ o.lg.notes, NtOk x) ∧ o.lg.notes.length ≤ 7112 := by
  rw [h.1.2.2.1]
  exact ⟨frames_ok _ _, found_notes (sync_ok h.1.2.1 h.2)⟩
theorem apply_far {j : Nat} : ∀ (ws : List Wr) (S : List (List Int)), j < S.length → (∀ x ∈ ws, x.block.toNat ≠ j) → (applyW S ws).getD j [] = S.getD j []
  | [], S, _, _ => rfl
  | w :: r, S, hj, h => by
    show (applyW (S.set w.block.toNat w.bytes) r).getD j [] = _
    rw [apply_far r _ (by rw [List.length_set]; exact hj) (fun x hx => h x (List.mem_cons_of_mem _ hx)), getD_set hj, if_neg (h w List.mem_cons_self)]
theorem gen_head {S : List (List Int)} {G : Int} (h1 : 1 ≤ G) (h2 : G ≤ 1000000000) (h : S.getD 0 [] = blockL G []) : logGen S = G := by
  obtain ⟨a, b, c⟩ := pg_block (p := []) h1 h2 (by simp) (fun x hx => by simp at hx)
  rw [← h] at a b c
  unfold logGen
  rw [if_pos (show headOk S from ⟨a, by show (bytesOf (S.getD 0 [])).length = 0; rw [c]; rfl⟩)]
  exact b
theorem gen_same {S T : List (List Int)} (h : T.getD 0 [] = S.getD 0 []) : logGen T = logGen S := by
  have e : gBS T 0 = gBS S 0 := h
  have hi : headOk T ↔ headOk S := by unfold headOk; rw [e]
  unfold logGen
  by_cases hh : headOk S
  · rw [if_pos hh, if_pos (hi.2 hh), e]
  · rw [if_neg hh, if_neg (fun k => hh (hi.1 k))]
theorem openWs_far (S : List (List Int)) : ∃ r, openWs S = ⟨0, blockL (logGen S + 1) []⟩ :: r ∧ ∀ x ∈ r, x.block.toNat ≠ 0 := by
  refine ⟨_, rfl, fun x hx => ?_⟩
  split at hx
  · simp only [zerosW, List.mem_map, List.mem_range] at hx
    obtain ⟨k, _, rfl⟩ := hx
    simp only; omega
  · split at hx
    · rw [List.mem_singleton] at hx; subst hx; simp only; omega
    · simp at hx
theorem inv_open {S : List (List Int)} (h : BlOk S) (hok : (openS S).ok = true) : Inv (openS S) := by
  unfold openS at hok ⊢
  by_cases hm : logGen S = 1000000000
  · rw [if_pos hm] at hok; simp [op0] at hok
  · rw [if_neg hm]
    have hb := openWs_ok h
    have hS := sync_ok hb.1 hb.2
    have hd := dk_of hS (ws := []) (by simp) (fun x hx => by simp at hx)
    have hg := logGen_range (bs := S)
    refine ⟨⟨rfl, hd.1, rfl, ?_⟩, hd.2⟩
    show logGen (syncL (syncL S (openWs S)) []) ≠ 0
    rw [show syncL (syncL S (openWs S)) [] = syncL S (openWs S) from sync_nil _]
    obtain ⟨r, er, hr⟩ := openWs_far S
    have hl := h.1
    rw [gen_head (G := logGen S + 1) (by omega) (by omega)]
    · omega
    · rw [er, sync_apply]
      show (applyW (S.set 0 (blockL (logGen S + 1) [])) r).getD 0 [] = _
      rw [apply_far r _ (by rw [List.length_set]; omega) hr, getD_set (by omega), if_pos rfl]
theorem inv_commit {o : Opn} (h : Inv o) : Inv (commitS (syncL o.bs o.ws)) := by
  have hS := sync_ok h.1.2.1 h.2
  have hd := dk_of hS (ws := []) (by simp) (fun x hx => by simp at hx)
  refine ⟨⟨rfl, hd.1, rfl, ?_⟩, hd.2⟩
  have h4 := h.1.2.2.2
  rw [h.1.2.2.1] at h4
  exact h4
theorem inv_append {o : Opn} (h : Inv o) {x : Nt} (hx : NtOk x) (hok : (appendO o.bs o.ws x).ok = true) : Inv (appendO o.bs o.ws x) := by
  have hS := sync_ok h.1.2.1 h.2
  have h4 := h.1.2.2.2
  rw [h.1.2.2.1] at h4
  have hX : BsOk (appX o.bs o.ws x) := BsOk.append (fun y hy => (logBytes_ok hS).1 y (List.mem_of_mem_take hy)) (frameL_ok hx)
  have hlen := frameL_len x
  have htf := take_found hS
  have hXl : (appX o.bs o.ws x).length = (foundL (syncL o.bs o.ws)).2 + (17 + x.text.size) := by unfold appX; rw [List.length_append, htf.2, hlen]
  unfold appendO at hok ⊢
  by_cases hc : (appX o.bs o.ws x).length ≤ 7112 ∧ o.ws.length + appN (foundL (syncL o.bs o.ws)).2 (appX o.bs o.ws x).length ≤ 200
  · rw [if_pos hc]
    have hp := pagesW_ok hX (logGen (syncL o.bs o.ws)) ((foundL (syncL o.bs o.ws)).2 / 56) (appN (foundL (syncL o.bs o.ws)).2 (appX o.bs o.ws x).length) (by unfold appN; omega)
    have hw : ∀ y ∈ o.ws, WrOk y := fun y hy => ⟨h.1.2.1.2.2.2 y hy, h.2.2 y hy⟩
    have hd := dk_of (bl_ok h.1.2.1 h.2) (ws := o.ws ++ pagesW (appX o.bs o.ws x) (logGen (syncL o.bs o.ws)) ((foundL (syncL o.bs o.ws)).2 / 56) (appN (foundL (syncL o.bs o.ws)).2 (appX o.bs o.ws x).length)) (by rw [List.length_append, pagesW_len]; omega) (fun y hy => (List.mem_append.1 hy).elim (hw y) (hp y))
    refine ⟨⟨rfl, hd.1, rfl, ?_⟩, hd.2⟩
    show logGen (syncL o.bs _) ≠ 0
    rw [sync_app, gen_same (S := syncL o.bs o.ws)]
    · exact h4
    · refine apply_far _ _ (by rw [hS.1]; omega) (fun y hy => ?_)
      simp only [pagesW, List.mem_map, List.mem_range] at hy
      obtain ⟨k, _, rfl⟩ := hy
      simp only; omega
  · rw [if_neg hc] at hok; simp [op0] at hok
theorem spoil_ok {S : List (List Int)} (h : BlOk S) {p a : Int} (h0 : 0 ≤ p) (h1 : p ≤ 8191) : BlOk (spoilS S p a) := by
  have hg := h.g (i := p / 64) (by omega) (by omega)
  refine ⟨by unfold spoilS; rw [List.length_set]; exact h.1, fun b hb => ?_⟩
  unfold spoilS at hb
  rcases List.mem_or_eq_of_mem_set hb with hb | rfl
  · exact h.2 b hb
  · refine ⟨by unfold spoilB; rw [List.length_set]; exact hg.1, fun y hy => ?_⟩
    unfold spoilB at hy
    rcases List.mem_or_eq_of_mem_set hy with hy | rfl
    · exact hg.2 y hy
    · exact xorB_range _ _
theorem inv_next {o : Opn} (h : Inv o) {a : Ac} (ha : AcOk a) (hok : (nextL o a).ok = true) : Inv (nextL o a) := by
  have hS := sync_ok h.1.2.1 h.2
  rcases ha with ⟨e, hn⟩ | e | ⟨e, hk⟩ | e | ⟨e, h0, h1, h2, h3⟩
  · unfold nextL at hok ⊢
    rw [if_pos e] at hok ⊢
    exact inv_append h hn hok
  · unfold nextL
    rw [if_neg (by omega), if_pos e]
    exact inv_commit h
  · unfold nextL at hok ⊢
    rw [if_neg (by omega), if_neg (by omega), if_pos e] at hok ⊢
    exact inv_open (S := settleL o.bs o.ws (kfL false a.kept)) (settle_bytes _ h.1.2.1 h.2) hok
  · unfold nextL
    rw [if_neg (by omega), if_neg (by omega), if_neg (by omega), if_pos e]
    exact h
  · unfold nextL at hok ⊢
    rw [if_neg (by omega), if_neg (by omega), if_neg (by omega), if_neg (by omega)] at hok ⊢
    exact inv_open (S := spoilS (syncL o.bs o.ws) a.pos a.amt) (spoil_ok hS h0 h1) hok
theorem inv_after {o : Opn} (h : Inv o) (a : Ac) : Inv (afterL o a) := by
  unfold afterL codeL
  by_cases ha : AcOk a
  · rw [if_pos ha]
    by_cases hok : (nextL o a).ok = true
    · rw [if_pos hok, if_pos rfl]
      exact inv_next h ha hok
    · rw [if_neg hok, if_neg (by omega)]
      exact h
  · rw [if_neg ha, if_neg (by omega)]
    exact h
theorem inv_st {o : Opn} (h : Inv o) (acts : List Ac) : ∀ i, Inv (stO o acts i)
  | 0 => h
  | i + 1 => inv_after (inv_st h acts i) _
theorem inv_first : Inv (openL blankB []) := by
  obtain ⟨S, e, hst⟩ := st_first
  rw [e]
  exact ⟨hst.right, hst.bk⟩
end Go.Proofs.Ytocdlibnmlcokaa
namespace Go.Proofs.Ytocdlibnmlcokaa
open Go.RowKit Go.Proofs.YtocdlibnmlcokaaW.PrintWords Go.Proofs.YtocdlibnmlcokaaW.PrintLast
set_option linter.unusedVariables false
set_option linter.unusedSimpArgs false
theorem row_set8 {w : World} {g n c : Nat} {xs : List Int} {f : List Nat} (hf : rB.Row 5 w (.slice (some ⟨g, 0, none⟩) n c) xs f) (hn : f.Nodup) {j : Nat} (hj : j < xs.length) :
    w.cell? ⟨g, j, none⟩ = some (.int .u8 xs[j]) ∧ w.frozen? ⟨g, j, none⟩ = false ∧ g ∈ f ∧ ∀ x, rB.Row 5 (w.setCell ⟨g, j, none⟩ (.int .u8 x)) (.slice (some ⟨g, 0, none⟩) n c) (xs.set j x) f := by
  obtain ⟨cs, f0, hP, _, _, hgb, hcell, hfr, _, hst⟩ := Rp.Row_elem hf hn j hj
  obtain ⟨hcs, hf0⟩ := hP
  subst hcs; subst hf0
  have e0 : j * rB.d.sz + 0 = j := Nat.mul_one _
  have c1 := hcell 0 _ rfl
  rw [e0] at c1
  refine ⟨c1, hfr j, hgb, fun x => ?_⟩
  obtain ⟨fp', hr', hn', _, he⟩ := hst 0 (.int .u8 x) x [] (by decide) ⟨rfl, rfl⟩ (by simp) (by simp) (.inl rfl)
  rw [he rfl, e0] at hr'
  exact hr'
theorem row_set88 {w : World} {g n c : Nat} {S : List (List Int)} {f : List Nat} (hf : rBS.Row 22 w (.slice (some ⟨g, 0, none⟩) n c) S f) (hn : f.Nodup) {i j : Nat} (hi : i < S.length) (hj : j < S[i].length) :
    ∃ g1 c1, w.cell? ⟨g, i, none⟩ = some (.slice (some ⟨g1, 0, none⟩) S[i].length c1) ∧ w.cell? ⟨g1, j, none⟩ = some (.int .u8 (S[i])[j]) ∧ w.frozen? ⟨g1, j, none⟩ = false ∧ g1 ∈ f ∧ ∀ x, rBS.Row 22 (w.setCell ⟨g1, j, none⟩ (.int .u8 x)) (.slice (some ⟨g, 0, none⟩) n c) (S.set i (S[i].set j x)) f := by
  obtain ⟨cs, f0, hP, hn0, hff, hgb, hcell, hfr, hin, _⟩ := Rp.Row_elem hf hn i hi
  obtain ⟨v, rfl, hr⟩ := hP
  obtain ⟨g1, c1, rfl, hg1, _⟩ := Rp.Row_form hr (by omega)
  have e0 : i * rBS.d.sz + 0 = i := Nat.mul_one _
  have k1 := hcell 0 _ rfl
  rw [e0] at k1
  obtain ⟨k2, k3, k4, k5⟩ := row_set8 hr hn0 hj
  refine ⟨g1, c1, k1, k2, k3, (hff g1 k4).1, fun x => ?_⟩
  refine hin _ _ ((Kp.set _ _ _ _).mono (fun b hb _ => by rw [List.mem_singleton] at hb; subst hb; exact k4)) ⟨_, rfl, ?_⟩
  have := k5 x
  exact this
theorem Own.set88 {w0 w : World} {L : List Rs} {A : Option Addr} {n c : Nat} {S : List (List Int)} (h : Own w0 w (Rs.row rBS 22 (.slice A n c) S :: L)) {i j : Nat} (hi : i < S.length) (hj : j < S[i].length) :
    ∃ g g1 c1, A = some ⟨g, 0, none⟩ ∧ n = S.length ∧ w.cell? ⟨g, i, none⟩ = some (.slice (some ⟨g1, 0, none⟩) S[i].length c1) ∧ w.cell? ⟨g1, j, none⟩ = some (.int .u8 (S[i])[j]) ∧ w.frozen? ⟨g1, j, none⟩ = false ∧
      ∀ x, Own w0 (w.setCell ⟨g1, j, none⟩ (.int .u8 x)) (Rs.row rBS 22 (.slice A n c) (S.set i (S[i].set j x)) :: L) := by
  obtain ⟨f, hf, hn, _⟩ := h.r0
  obtain ⟨g, cap, hv, _, _⟩ := Rp.Row_form hf (by omega)
  injection hv with hA hnn hc
  subst hA
  obtain ⟨g1, c1, k1, k2, k3, _, _⟩ := row_set88 hf hn hi hj
  refine ⟨g, g1, c1, rfl, hnn, k1, k2, k3, fun x => h.turn fun f hf hn => ?_⟩
  obtain ⟨g2, c2, q1, _, _, q4, q5⟩ := row_set88 hf hn hi hj
  rw [k1] at q1
  injection q1 with q1
  injection q1 with q1 _ _
  injection q1 with q1
  injection q1 with q1 _ _
  subst q1
  exact ⟨f, q5 x, hn, fun b hb => .inl hb, (Kp.set _ _ _ _).mono (fun b hb _ => by rw [List.mem_singleton] at hb; subst hb; exact q4)⟩
end Go.Proofs.Ytocdlibnmlcokaa
namespace Go.Proofs.Ytocdlibnmlcokaa
open Go.RowKit Go.Proofs.YtocdlibnmlcokaaW.PrintWords Go.Proofs.YtocdlibnmlcokaaW.PrintLast
set_option linter.unusedVariables false
set_option linter.unusedSimpArgs false
def setCells (w : World) (g k : Nat) : List Value → World
  | [] => w
  | u :: r => setCells (w.setCell ⟨g, k, none⟩ u) g (k + 1) r
def setsL (l : List Value) (k : Nat) : List Value → List Value
  | [] => l
  | u :: r => setsL (l.set k u) (k + 1) r
theorem setCells_block (g : Nat) : ∀ (us : List Value) (w : World) (k b : Nat), b ≠ g → (setCells w g k us).heap[b]? = w.heap[b]?
  | [], w, k, b, _ => rfl
  | u :: r, w, k, b, h => by
    show (setCells (w.setCell ⟨g, k, none⟩ u) g (k + 1) r).heap[b]? = _
    rw [setCells_block g r _ _ b h]
    exact Below.heap_setCell w _ u b (by simpa using h)
theorem setCells_kp (g : Nat) : ∀ (us : List Value) (w : World) (k : Nat), Kp w (setCells w g k us) [g]
  | [], w, k => (Kp.refl w).mono (by simp)
  | u :: r, w, k => (Kp.set w g k u).trans (setCells_kp g r _ (k + 1)) (fun _ hb _ => hb)
theorem setCells_own {g e sz n cap : Nat} : ∀ (us : List Value) (w : World) (k : Nat) (cells : List Value), w.ownsRow 0 e sz (.slice (some ⟨g, 0, none⟩) n cap) n cells → (setCells w g k us).ownsRow 0 e sz (.slice (some ⟨g, 0, none⟩) n cap) n (setsL cells k us)
  | [], w, k, cells, h => h
  | u :: r, w, k, cells, h => setCells_own r _ (k + 1) _ (h.stored _ u).1
theorem setsL_flat {n : Nat} : ∀ (us : List Value) {css : List (List Value)}, (∀ c ∈ css, c.length = n) → ∀ (i j : Nat) (hi : i < css.length), j + us.length ≤ n → setsL css.flatten (i * n + j) us = (css.set i (setsL css[i] j us)).flatten
  | [], css, _, i, j, hi, _ => by
    show css.flatten = (css.set i css[i]).flatten
    rw [List.set_getElem_self]
  | u :: r, css, h, i, j, hi, hl => by
    simp only [List.length_cons] at hl
    show setsL (css.flatten.set (i * n + j) u) (i * n + j + 1) r = _
    rw [flat_set u h i j hi (by omega), show i * n + j + 1 = i * n + (j + 1) by omega]
    rw [setsL_flat r (fun c hc => ?_) i (j + 1) (by rw [List.length_set]; exact hi) (by omega)]
    · rw [List.getElem_set_self, List.set_set]; rfl
    · rcases List.mem_or_eq_of_mem_set hc with hc | rfl
      · exact h c hc
      · rw [List.length_set]; exact h _ (List.getElem_mem hi)
theorem setsL_skip (a : Value) : ∀ (us l : List Value) (k : Nat), setsL (a :: l) (k + 1) us = a :: setsL l k us
  | [], l, k => rfl
  | u :: r, l, k => by
    show setsL (a :: l.set k u) (k + 1 + 1) r = a :: setsL (l.set k u) (k + 1) r
    exact setsL_skip a r _ _
theorem setsL_all : ∀ (us l : List Value), l.length = us.length → setsL l 0 us = us
  | [], l, h => by
    show l = []
    exact List.length_eq_zero_iff.1 (by simpa using h)
  | u :: r, [], h => by simp at h
  | u :: r, a :: l, h => by
    show setsL (u :: l) (0 + 1) r = u :: r
    rw [setsL_skip, setsL_all r l (by simpa using h)]
namespace Rp
theorem Row_put {α : Type} {r : Rp α} {e g n cap : Nat} {w : World} {xs : List α} {fp : List Nat} (h : r.Row e w (.slice (some ⟨g, 0, none⟩) n cap) xs fp) (hnd : fp.Nodup) {i : Nat} (hi : i < xs.length) {cs : List Value} {x : α} {f : List Nat}
    (hp : r.P w x cs f) (hf : f.Nodup) (hd : ∀ b ∈ f, b ∉ fp) :
    g ∈ fp ∧ ∃ fp', r.Row e (setCells w g (i * r.d.sz) cs) (.slice (some ⟨g, 0, none⟩) n cap) (xs.set i x) fp' ∧ fp'.Nodup ∧ ∀ b ∈ fp', b ∈ fp ∨ b ∈ f := by
  obtain ⟨css, fps, ho, ha, rfl⟩ := h
  have hnn : n = xs.length := by
    rcases ho.2 with ⟨h0, _⟩ | ⟨g', cap', cur, h0, _⟩
    · injection h0 with h0; cases h0
    · injection h0
  subst hnn
  have hl1 := ha.len1
  have hl2 := ha.len2
  have hall := all_len ha
  have hcs := r.len hp
  simp only [Value.ownBlock, Option.toList_some, List.singleton_append] at hnd hd ⊢
  rw [List.nodup_cons] at hnd
  have hgf : g ∉ f := fun hg => hd g hg List.mem_cons_self
  refine ⟨List.mem_cons_self, g :: (fps.set i f).flatten, ⟨css.set i cs, fps.set i f, ?_, ?_, by simp [Value.ownBlock]⟩, ?_, ?_⟩
  · have h1 := setCells_own cs w (i * r.d.sz) _ ho
    have h2 := setsL_flat cs (css := css) hall i 0 (by omega) (by omega)
    rw [Nat.add_zero] at h2
    rw [h2, setsL_all cs _ (by rw [hall _ (List.getElem_mem (by omega)), hcs])] at h1
    rw [List.length_set]
    exact h1
  · have hp' : r.P (setCells w g (i * r.d.sz) cs) x cs f := r.loc hp fun b hb => setCells_block g cs w _ b (fun hbg => hgf (hbg ▸ hb))
    have ha' : All3 (r.P (setCells w g (i * r.d.sz) cs)) xs css fps := ha.imp fun a b c hc hP => r.loc hP fun k hk => setCells_block g cs w _ k (fun hkg => hnd.1 (hkg ▸ List.mem_flatten.2 ⟨c, hc, hk⟩))
    exact ha'.set i hp'
  · exact List.nodup_cons.2 ⟨fun hm => (mem_set_flat hm).elim hnd.1 hgf, nodup_set_flat hnd.2 hf (fun b hb hm => hd b hb (List.mem_cons_of_mem _ hm))⟩
  · intro b hb
    rcases List.mem_cons.1 hb with rfl | hb
    · exact .inl List.mem_cons_self
    · rcases mem_set_flat hb with hb | hb
      · exact .inl (List.mem_cons_of_mem _ hb)
      · exact .inr hb
end Rp
theorem Own.elem {w0 w : World} {L : List Rs} {α : Type} {r : Rp α} {e n c : Nat} {A : Option Addr} {xs : List α} (h : Own w0 w (Rs.row r e (.slice A n c) xs :: L)) {i : Nat} (hi : i < xs.length) :
    ∃ g, A = some ⟨g, 0, none⟩ ∧ n = xs.length ∧ (∀ j, j < r.d.sz → ∃ u, w.cell? ⟨g, i * r.d.sz + j, none⟩ = some u) ∧ ∀ j, w.frozen? ⟨g, j, none⟩ = false := by
  obtain ⟨f, hf, hn, _⟩ := h.r0
  obtain ⟨g, cap, hv, _, _⟩ := Rp.Row_form hf (by omega)
  injection hv with hA hnn hc
  subst hA
  obtain ⟨cs, f0, hP, _, _, _, hcell, hfr, _, _⟩ := Rp.Row_elem hf hn i hi
  have hcs := r.len hP
  exact ⟨g, rfl, hnn, fun j hj => ⟨_, hcell j _ (List.getElem?_eq_getElem (by omega))⟩, hfr⟩
theorem Own.put {w0 w : World} {L : List Rs} {α : Type} {r : Rp α} {e g n c : Nat} {xs : List α} {cs : List Value} {x : α} (h : Own w0 w (Rs.row r e (.slice (some ⟨g, 0, none⟩) n c) xs :: Rs.cel r cs x :: L)) {i : Nat} (hi : i < xs.length) :
    Own w0 (setCells w g (i * r.d.sz) cs) (Rs.row r e (.slice (some ⟨g, 0, none⟩) n c) (xs.set i x) :: L) := by
  obtain ⟨f, f2, hf, hf2, hn, hl, k⟩ := h.take2
  obtain ⟨n1, n2, n3⟩ := List.nodup_append.1 hn
  obtain ⟨hg, fp', h1, h2, h3⟩ := Rp.Row_put hf n1 hi hf2 n2 (fun b hb hm => n3 b hm b hb rfl)
  refine k (M := [Rs.row r e (.slice (some ⟨g, 0, none⟩) n c) (xs.set i x)]) ⟨fp', [], by simp, h1, rfl⟩ h2 (fun b hb => .inl ?_) ((setCells_kp g cs w _).mono (fun b hb _ => ?_))
  · rcases h3 b hb with hb | hb
    · exact List.mem_append_left _ hb
    · exact List.mem_append_right _ hb
  · rw [List.mem_singleton] at hb; subst hb; exact List.mem_append_left _ hg
end Go.Proofs.Ytocdlibnmlcokaa
namespace Go.Proofs.Ytocdlibnmlcokaa
open Go.RowKit Go.Proofs.YtocdlibnmlcokaaW.PrintWords Go.Proofs.YtocdlibnmlcokaaW.PrintLast
set_option linter.unusedVariables false
set_option linter.unusedSimpArgs false
abbrev rBl : Rp (List Bool) := Rp.slice 4 Rp.bool
abbrev rIs : Rp (List Int) := Rp.slice 3 rI
abbrev rAc : Rp Ac := Rp.iso (Rp.pair (Rp.int .i64) (Rp.pair rN (Rp.pair rBl (Rp.pair rN (Rp.pair (Rp.int .i64) (Rp.int .i64)))))) (fun x => (x.op, x.note, x.kept, x.ask, x.pos, x.amt))
abbrev rAd : Rp Ad := Rp.iso (Rp.pair (Rp.int .i64) (Rp.pair (Rp.int .i64) (Rp.pair (Rp.int .i64) rIs))) (fun x => (x.code, x.notes, x.safe, x.found))
def cAc (x : Ac) (v : Value) : List Value := (.int .i64 x.op :: cN x.note) ++ (v :: cN x.ask) ++ [.int .i64 x.pos, .int .i64 x.amt]
def cAd (x : Ad) (v : Value) : List Value := [.int .i64 x.code, .int .i64 x.notes, .int .i64 x.safe, v]
theorem info38 : (Try.prog.info? 38).map (fun i => (i.zero, i.size, i.bytes)) = some (some (.agg #[.int .i64 0, .int .i64 0, .int .i64 0, .int .i64 0, .int .i64 0, .string { data := #[] }, .slice none 0 0, .int .i64 0, .int .i64 0, .int .i64 0, .int .i64 0, .string { data := #[] }, .int .i64 0, .int .i64 0]), 14, 144) := by kernel_rfl
theorem info30 : (Try.prog.info? 30).map (fun i => (i.zero, i.size, i.bytes)) = some (some (.agg #[.int .i64 0, .int .i64 0, .int .i64 0, .slice none 0 0]), 4, 48) := by kernel_rfl
theorem Ac_mk {w : World} {v : Value} {f : List Nat} (x : Ac) (h : Rp.bool.Row 4 w v x.kept f) : rAc.P w x (cAc x v) f :=
  ⟨[.int .i64 x.op], cN x.note ++ (v :: (cN x.ask ++ [.int .i64 x.pos, .int .i64 x.amt])), [], f, rfl, rfl, ⟨rfl, rfl⟩,
    cN x.note, v :: (cN x.ask ++ [.int .i64 x.pos, .int .i64 x.amt]), [], f, rfl, rfl, N_mk w x.note,
    [v], cN x.ask ++ [.int .i64 x.pos, .int .i64 x.amt], f, [], rfl, (List.append_nil f).symm, ⟨v, rfl, h⟩,
    cN x.ask, [.int .i64 x.pos, .int .i64 x.amt], [], [], rfl, rfl, N_mk w x.ask, [.int .i64 x.pos], [.int .i64 x.amt], [], [], rfl, rfl, ⟨rfl, rfl⟩, ⟨rfl, rfl⟩⟩
theorem Ad_mk {w : World} {v : Value} {f : List Nat} (x : Ad) (h : rI.Row 3 w v x.found f) : rAd.P w x (cAd x v) f :=
  ⟨[.int .i64 x.code], [.int .i64 x.notes, .int .i64 x.safe, v], [], f, rfl, rfl, ⟨rfl, rfl⟩, [.int .i64 x.notes], [.int .i64 x.safe, v], [], f, rfl, rfl, ⟨rfl, rfl⟩, [.int .i64 x.safe], [v], [], f, rfl, rfl, ⟨rfl, rfl⟩, ⟨v, rfl, h⟩⟩
theorem Ad_open {w : World} {cs : List Value} {f : List Nat} {x : Ad} (h : rAd.P w x cs f) : ∃ v, cs = cAd x v ∧ rI.Row 3 w v x.found f := by
  obtain ⟨_, _, _, _, rfl, rfl, ⟨rfl, rfl⟩, _, _, _, _, rfl, rfl, ⟨rfl, rfl⟩, _, _, _, _, rfl, rfl, ⟨rfl, rfl⟩, ⟨v, rfl, h⟩⟩ := h
  exact ⟨v, rfl, h⟩
def gD (xs : List Ad) (i : Int) : Ad := xs.getD i.toNat ⟨0, 0, 0, []⟩
theorem gA_eq {xs : List Ac} {i : Int} (h : i.toNat < xs.length) : gA xs i = xs[i.toNat] := by simp [gA, List.getD_eq_getElem?_getD, h]
theorem gD_eq {xs : List Ad} {i : Int} (h : i.toNat < xs.length) : gD xs i = xs[i.toNat] := by simp [gD, List.getD_eq_getElem?_getD, h]
theorem at_Ac {w : World} {A : Option Addr} {n : Nat} {xs : List Ac} (h : rAc.d.C w A n xs) (i : Int) (h0 : 0 ≤ i) (h1 : i < n) : ∃ ad K kc, A = some ad ∧ w.cell? (ad.add (i.toNat * 14)) = some (.int .i64 (gA xs i).op) ∧ w.cell? ⟨(ad.add (i.toNat * 14)).block, (ad.add (i.toNat * 14)).off + 1, none⟩ = some (.int .i64 (gA xs i).note.tick) ∧ w.cell? ⟨(ad.add (i.toNat * 14)).block, (ad.add (i.toNat * 14)).off + 2, none⟩ = some (.int .i64 (gA xs i).note.kind) ∧ w.cell? ⟨(ad.add (i.toNat * 14)).block, (ad.add (i.toNat * 14)).off + 3, none⟩ = some (.int .i64 (gA xs i).note.who) ∧ w.cell? ⟨(ad.add (i.toNat * 14)).block, (ad.add (i.toNat * 14)).off + 4, none⟩ = some (.int .i64 (gA xs i).note.n) ∧ w.cell? ⟨(ad.add (i.toNat * 14)).block, (ad.add (i.toNat * 14)).off + 5, none⟩ = some (.string (gA xs i).note.text) ∧ w.cell? ⟨(ad.add (i.toNat * 14)).block, (ad.add (i.toNat * 14)).off + 6, none⟩ = some (.slice K (gA xs i).kept.length kc) ∧ w.cell? ⟨(ad.add (i.toNat * 14)).block, (ad.add (i.toNat * 14)).off + 7, none⟩ = some (.int .i64 (gA xs i).ask.tick) ∧ w.cell? ⟨(ad.add (i.toNat * 14)).block, (ad.add (i.toNat * 14)).off + 8, none⟩ = some (.int .i64 (gA xs i).ask.kind) ∧ w.cell? ⟨(ad.add (i.toNat * 14)).block, (ad.add (i.toNat * 14)).off + 9, none⟩ = some (.int .i64 (gA xs i).ask.who) ∧ w.cell? ⟨(ad.add (i.toNat * 14)).block, (ad.add (i.toNat * 14)).off + 10, none⟩ = some (.int .i64 (gA xs i).ask.n) ∧ w.cell? ⟨(ad.add (i.toNat * 14)).block, (ad.add (i.toNat * 14)).off + 11, none⟩ = some (.string (gA xs i).ask.text) ∧ w.cell? ⟨(ad.add (i.toNat * 14)).block, (ad.add (i.toNat * 14)).off + 12, none⟩ = some (.int .i64 (gA xs i).pos) ∧ w.cell? ⟨(ad.add (i.toNat * 14)).block, (ad.add (i.toNat * 14)).off + 13, none⟩ = some (.int .i64 (gA xs i).amt) ∧ (gA xs i).kept.length ≤ kc ∧ Kd.bool.C w K (gA xs i).kept.length (gA xs i).kept := by
  obtain ⟨ad, c, e, _, hK, hc0⟩ := Kd.C_get h (⟨0, zN, [], zN, 0, 0⟩ : Ac) i h0 h1
  have hc : ∀ j u, c[j]? = some u → w.cell? (ad.add (i.toNat * 14 + j)) = some u := hc0
  obtain ⟨_, _, rfl, rfl, _, _, rfl, hn, _, _, rfl, ⟨K, kc, rfl, lk, gk⟩, _, _, rfl, ha, _, _, rfl, rfl, rfl⟩ := hK
  obtain ⟨_, _, rfl, rfl, _, _, rfl, rfl, _, _, rfl, rfl, _, _, rfl, rfl, rfl⟩ := hn
  obtain ⟨_, _, rfl, rfl, _, _, rfl, rfl, _, _, rfl, rfl, _, _, rfl, rfl, rfl⟩ := ha
  exact ⟨ad, K, kc, e, hc 0 _ rfl, by rw [← add_field _ _ 1 (by omega)]; exact hc 1 _ rfl, by rw [← add_field _ _ 2 (by omega)]; exact hc 2 _ rfl, by rw [← add_field _ _ 3 (by omega)]; exact hc 3 _ rfl, by rw [← add_field _ _ 4 (by omega)]; exact hc 4 _ rfl, by rw [← add_field _ _ 5 (by omega)]; exact hc 5 _ rfl, by rw [← add_field _ _ 6 (by omega)]; exact hc 6 _ rfl, by rw [← add_field _ _ 7 (by omega)]; exact hc 7 _ rfl, by rw [← add_field _ _ 8 (by omega)]; exact hc 8 _ rfl, by rw [← add_field _ _ 9 (by omega)]; exact hc 9 _ rfl, by rw [← add_field _ _ 10 (by omega)]; exact hc 10 _ rfl, by rw [← add_field _ _ 11 (by omega)]; exact hc 11 _ rfl, by rw [← add_field _ _ 12 (by omega)]; exact hc 12 _ rfl, by rw [← add_field _ _ 13 (by omega)]; exact hc 13 _ rfl, lk, gk⟩
theorem at_Ad {w : World} {A : Option Addr} {n : Nat} {xs : List Ad} (h : rAd.d.C w A n xs) (i : Int) (h0 : 0 ≤ i) (h1 : i < n) : ∃ ad K kc, A = some ad ∧ w.cell? (ad.add (i.toNat * 4)) = some (.int .i64 (gD xs i).code) ∧ w.cell? ⟨(ad.add (i.toNat * 4)).block, (ad.add (i.toNat * 4)).off + 1, none⟩ = some (.int .i64 (gD xs i).notes) ∧ w.cell? ⟨(ad.add (i.toNat * 4)).block, (ad.add (i.toNat * 4)).off + 2, none⟩ = some (.int .i64 (gD xs i).safe) ∧ w.cell? ⟨(ad.add (i.toNat * 4)).block, (ad.add (i.toNat * 4)).off + 3, none⟩ = some (.slice K (gD xs i).found.length kc) ∧ (gD xs i).found.length ≤ kc ∧ kI.C w K (gD xs i).found.length (gD xs i).found := by
  obtain ⟨ad, c, e, _, hK, hc0⟩ := Kd.C_get h (⟨0, 0, 0, []⟩ : Ad) i h0 h1
  have hc : ∀ j u, c[j]? = some u → w.cell? (ad.add (i.toNat * 4 + j)) = some u := hc0
  obtain ⟨_, _, rfl, rfl, _, _, rfl, rfl, _, _, rfl, rfl, ⟨K, kc, rfl, lk, gk⟩⟩ := hK
  exact ⟨ad, K, kc, e, hc 0 _ rfl, by rw [← add_field _ _ 1 (by omega)]; exact hc 1 _ rfl, by rw [← add_field _ _ 2 (by omega)]; exact hc 2 _ rfl, by rw [← add_field _ _ 3 (by omega)]; exact hc 3 _ rfl, lk, gk⟩
end Go.Proofs.Ytocdlibnmlcokaa
namespace Go.Proofs.Ytocdlibnmlcokaa
open Go.RowKit Go.Proofs.YtocdlibnmlcokaaW.PrintWords Go.Proofs.YtocdlibnmlcokaaW.PrintLast
set_option linter.unusedVariables false
set_option linter.unusedSimpArgs false
def vAc (x : Ac) (v : Value) : Value := .agg #[.int .i64 x.op, .int .i64 x.note.tick, .int .i64 x.note.kind, .int .i64 x.note.who, .int .i64 x.note.n, .string x.note.text, v, .int .i64 x.ask.tick, .int .i64 x.ask.kind, .int .i64 x.ask.who, .int .i64 x.ask.n, .string x.ask.text, .int .i64 x.pos, .int .i64 x.amt]
end Go.Proofs.Ytocdlibnmlcokaa
namespace Go.Proofs.Ytocdlibnmlcokaa
open Go.RowKit Go.Proofs.YtocdlibnmlcokaaW.PrintWords Go.Proofs.YtocdlibnmlcokaaW.PrintLast
set_option linter.unusedVariables false
set_option linter.unusedSimpArgs false
def setsA (cells : Array Value) (k : Nat) : List Value → Array Value
  | [] => cells
  | u :: r => setsA (cells.setIfInBounds k u) (k + 1) r
theorem Own.boxN {w0 : World} {L : List Rs} {g t : Nat} : ∀ (us : List Value) {w : World} {k : Nat} {cells : Array Value}, Own w0 w (Rs.box g t cells :: L) → Own w0 (setCells w g k us) (Rs.box g t (setsA cells k us) :: L)
  | [], w, k, cells, h => h
  | u :: r, w, k, cells, h => Own.boxN r (h.set k u)
theorem Own.stm {w0 w w1 : World} {L : List Rs} {g t : Nat} {cells : Array Value} (h : Own w0 w (Rs.box g t cells :: L)) (k : Nat) (us : List Value) (e : setCells w g k us = w1) (cells' : Array Value) (ec : setsA cells k us = cells') : Own w0 w1 (Rs.box g t cells' :: L) := by
  subst e; subst ec; exact Own.boxN us h
def zAc : Ac := ⟨0, zN, [], zN, 0, 0⟩
abbrev zero14 : Array Value := #[.int .i64 0, .int .i64 0, .int .i64 0, .int .i64 0, .int .i64 0, .string { data := #[] }, .slice none 0 0, .int .i64 0, .int .i64 0, .int .i64 0, .int .i64 0, .string { data := #[] }, .int .i64 0, .int .i64 0]
end Go.Proofs.Ytocdlibnmlcokaa
namespace Go.Proofs.Ytocdlibnmlcokaa
open Go.RowKit Go.Proofs.YtocdlibnmlcokaaW.PrintWords Go.Proofs.YtocdlibnmlcokaaW.PrintLast
set_option linter.unusedVariables false
set_option linter.unusedSimpArgs false
end Go.Proofs.Ytocdlibnmlcokaa
namespace Go.Proofs.Ytocdlibnmlcokaa
open Go.RowKit Go.Proofs.YtocdlibnmlcokaaW.PrintWords Go.Proofs.YtocdlibnmlcokaaW.PrintLast
set_option linter.unusedVariables false
set_option linter.unusedSimpArgs false
section
variable {w0 w : World} {L : List Rs} {e g n c i : Nat}
theorem Own.setI0 {α : Type} {r : Rp α} {ys : List α} {v : Value} (h : Own w0 w (Rs.row r e v ys :: L)) (hi : i < ys.length) {x : α} (hx : ys[i] = x) : Own w0 w (Rs.row r e v (ys.set i x) :: L) := by
  subst hx; rw [List.set_getElem_self]; exact h
theorem Own.elemI {α : Type} {r : Rp α} {ys : List α} {x : α} {A : Option Addr} (h : Own w0 w (Rs.row r e (.slice A n c) (ys.set i x) :: L)) (hi : i < ys.length) :
    ∃ g, A = some ⟨g, 0, none⟩ ∧ n = ys.length ∧ (∀ j, j < r.d.sz → ∃ u, w.cell? ⟨g, i * r.d.sz + j, none⟩ = some u) ∧ ∀ j, w.frozen? ⟨g, j, none⟩ = false := by
  have := h.elem (i := i) (by rw [List.length_set]; exact hi)
  rwa [List.length_set] at this
theorem Own.innerAd {ys : List Ad} {x : Ad} (h : Own w0 w (Rs.row rAd e (.slice (some ⟨g, 0, none⟩) n c) (ys.set i x) :: L)) (hi : i < ys.length) :
    ∃ (K : Option Addr) (kc : Nat) (f : List Nat), w.cell? ⟨g, i * 4 + 3, none⟩ = some (.slice K x.found.length kc) ∧ rI.Row 3 w (.slice K x.found.length kc) x.found f ∧ f.Nodup ∧
      ∀ {w' : World} {fl : List Int}, rI.Row 3 w' (.slice K x.found.length kc) fl f → Kp w w' f → Own w0 w' (Rs.row rAd e (.slice (some ⟨g, 0, none⟩) n c) (ys.set i ⟨x.code, x.notes, x.safe, fl⟩) :: L) := by
  obtain ⟨fp, hf, hn, hl, k⟩ := h.take
  obtain ⟨cs, f0, hP, hn0, hff, hg, hcell, _, hup, _⟩ := Rp.Row_elem hf hn i (by rw [List.length_set]; exact hi)
  rw [List.getElem_set_self] at hP
  obtain ⟨v, rfl, hr⟩ := Ad_open hP
  obtain ⟨K, kc, rfl, _, _⟩ := Rp.Row_reads hr
  refine ⟨K, kc, f0, hcell 3 _ rfl, hr, hn0, fun {w'} {fl} hr' hk => ?_⟩
  have := hup w' ⟨x.code, x.notes, x.safe, fl⟩ hk (Ad_mk _ hr')
  rw [List.set_set] at this
  exact k (M := [Rs.row rAd e (.slice (some ⟨g, 0, none⟩) n c) (ys.set i ⟨x.code, x.notes, x.safe, fl⟩)]) ⟨fp, [], by simp, this, rfl⟩ hn (fun b hb => .inl hb) (hk.mono (fun b hb _ => (hff b hb).1))
end
end Go.Proofs.Ytocdlibnmlcokaa
namespace Go.Proofs.Ytocdlibnmlcokaa
open Go.RowKit Go.Proofs.YtocdlibnmlcokaaW.PrintWords Go.Proofs.YtocdlibnmlcokaaW.PrintLast
set_option linter.unusedVariables false
set_option linter.unusedSimpArgs false
def ak1 (xs : List Int) (q : Cu) : Cu := pkC xs 150 q
def ak2 (xs : List Int) (q : Cu) : Cu := pkC xs 220 (ak1 xs q)
def ak3 (xs : List Int) (q : Cu) : Cu := pkC xs 6 (ak2 xs q)
def ak4 (xs : List Int) (q : Cu) : Cu := pkC xs 7 (ak3 xs q)
def ak5 (xs : List Int) (q : Cu) : Cu := pkC xs 3 (ak4 xs q)
def akT (xs : List Int) (q : Cu) : ByteArray × Cu := txL xs (pkV xs 3 (ak4 xs q)).toNat { data := #[] } (ak5 xs q)
def akB (xs : List Int) (q : Cu) : Bool := decide (pkV xs 3 (akT xs q).2 = 0)
def akV (xs : List Int) (q : Cu) : Nt := ⟨ifV (akB xs q) 0 (pkV xs 150 q), ifV (akB xs q) 500 (pkV xs 220 (ak1 xs q)), pkV xs 6 (ak2 xs q) - 1, pkV xs 7 (ak3 xs q) - 1, (akT xs q).1⟩
def akC (xs : List Int) (q : Cu) : Cu := pkC xs 3 (akT xs q).2
theorem ak_p (xs : List Int) (q : Cu) : (q.p ≤ (ak1 xs q).p ∧ (ak1 xs q).p ≤ q.p + 2) ∧ (q.p ≤ (ak2 xs q).p ∧ (ak2 xs q).p ≤ q.p + 4) ∧ (q.p ≤ (ak3 xs q).p ∧ (ak3 xs q).p ≤ q.p + 6) ∧ (q.p ≤ (ak4 xs q).p ∧ (ak4 xs q).p ≤ q.p + 8) ∧ (q.p ≤ (ak5 xs q).p ∧ (ak5 xs q).p ≤ q.p + 10) ∧ (q.p ≤ (akT xs q).2.p ∧ (akT xs q).2.p ≤ q.p + 14) ∧ (q.p ≤ (akC xs q).p ∧ (akC xs q).p ≤ q.p + 16) := by
  have h1 : q.p ≤ (ak1 xs q).p ∧ (ak1 xs q).p ≤ q.p + 2 := pkC_p xs 150 q
  have h2 : (ak1 xs q).p ≤ (ak2 xs q).p ∧ (ak2 xs q).p ≤ (ak1 xs q).p + 2 := pkC_p xs 220 _
  have h3 : (ak2 xs q).p ≤ (ak3 xs q).p ∧ (ak3 xs q).p ≤ (ak2 xs q).p + 2 := pkC_p xs 6 _
  have h4 : (ak3 xs q).p ≤ (ak4 xs q).p ∧ (ak4 xs q).p ≤ (ak3 xs q).p + 2 := pkC_p xs 7 _
  have h5 : (ak4 xs q).p ≤ (ak5 xs q).p ∧ (ak5 xs q).p ≤ (ak4 xs q).p + 2 := pkC_p xs 3 _
  have h6 := txL_p xs (pkV xs 3 (ak4 xs q)).toNat { data := #[] } (ak5 xs q)
  have r := pkV_range xs (ak4 xs q) (k := 3) (by omega)
  have h7 : (akT xs q).2.p ≤ (akC xs q).p ∧ (akC xs q).p ≤ (akT xs q).2.p + 2 := pkC_p xs 3 _
  have h8 : (ak5 xs q).p ≤ (akT xs q).2.p ∧ (akT xs q).2.p ≤ (ak5 xs q).p + 4 := by unfold akT; omega
  omega
theorem akV_ok (xs : List Int) (q : Cu) : (0 ≤ (akV xs q).tick ∧ (akV xs q).tick ≤ 500) ∧ (0 ≤ (akV xs q).kind ∧ (akV xs q).kind ≤ 500) ∧ (-1 ≤ (akV xs q).who ∧ (akV xs q).who ≤ 500) ∧ (-1 ≤ (akV xs q).n ∧ (akV xs q).n ≤ 500) ∧ (akV xs q).text.size ≤ 2 := by
  have a := pkV_range xs q (k := 150) (by omega)
  have b := pkV_range xs (ak1 xs q) (k := 220) (by omega)
  have c := pkV_range xs (ak2 xs q) (k := 6) (by omega)
  have d := pkV_range xs (ak3 xs q) (k := 7) (by omega)
  have e := pkV_range xs (ak4 xs q) (k := 3) (by omega)
  have f := txL_size xs (pkV xs 3 (ak4 xs q)).toNat { data := #[] } (ak5 xs q)
  have f0 : (({ data := #[] } : ByteArray)).size = 0 := rfl
  refine ⟨ifV_r _ _ _ 0 500 ⟨by omega, by omega⟩ ⟨by omega, by omega⟩, ifV_r _ _ _ 0 500 ⟨by omega, by omega⟩ ⟨by omega, by omega⟩, ?_, ?_, ?_⟩
  · show -1 ≤ pkV xs 6 (ak2 xs q) - 1 ∧ pkV xs 6 (ak2 xs q) - 1 ≤ 500; omega
  · show -1 ≤ pkV xs 7 (ak3 xs q) - 1 ∧ pkV xs 7 (ak3 xs q) - 1 ≤ 500; omega
  · show (akT xs q).1.size ≤ 2
    unfold akT; omega
set_option maxHeartbeats 4000000 in
set_option maxRecDepth 100000 in
theorem ask_c (A : Option Addr) (c : Nat) (xs : List Int) (q : Cu) (g : Nat) {w0 w : World} {L : List Rs} (h : Own w0 w (Rs.box g 123 (cuB A xs.length c q) :: L)) (hx : kB.C w0 A xs.length xs) (hb : BsOk xs) (h0 : 0 ≤ q.p) (h1 : q.p ≤ 800000000) :
    Calls Try.prog 105 #[.pointer (some ⟨g, 0, none⟩)] w (fun e w' => e = .returned (vN (akV xs q)) ∧ Own w0 w' (Rs.box g 123 (cuB A xs.length c (akC xs q)) :: L)) := by
  suffices H : ∀ Q : Ending → World → Prop, (∀ e w', e = .returned (vN (akV xs q)) ∧ Own w0 w' (Rs.box g 123 (cuB A xs.length c (akC xs q)) :: L) → Q e w') → Calls Try.prog 105 #[.pointer (some ⟨g, 0, none⟩)] w Q from H _ (fun e w' h => h)
  intro Q hQ
  have O := Aside0.mk h; have HB := Aside0.mk hb; have HX := Aside0.mk hx; have HQ := Aside0.mk hQ; clear h hb hx hQ
  obtain ⟨b1, b2, b3, b4, b5, b6, b7⟩ := ak_p xs q
  go_enter Try.func105, Try.ntmps105
  go_upto_region 1 with (fail)
  generalize hw : w.alloc _ = w1
  replace O := Aside0.mk (O.out.of hw).p1; clear hw
  generalize w.heap.size = g2 at O ⊢
  go_wp2_with fail
  refine (pick_c A c xs q g 150 O.out HX.out HB.out (by omega) (by omega) (by omega) (by omega)).mono ?_
  rintro e w2 ⟨rfl, hO⟩
  clear O; have O := Aside0.mk hO; clear hO
  go_wp2_with fail
  refine (pick_c A c xs (ak1 xs q) g 220 O.out HX.out HB.out (by omega) (by omega) (by omega) (by omega)).mono ?_
  rintro e w2 ⟨rfl, hO⟩
  clear O; have O := Aside0.mk hO; clear hO
  have r6 := pkV_range xs (ak2 xs q) (k := 6) (by omega)
  have r7 := pkV_range xs (ak3 xs q) (k := 7) (by omega)
  go_wp2_with fail
  refine (pick_c A c xs (ak2 xs q) g 6 O.out HX.out HB.out (by omega) (by omega) (by omega) (by omega)).mono ?_
  rintro e w2 ⟨rfl, hO⟩
  clear O; have O := Aside0.mk hO; clear hO
  go_wp2_with fail
  refine (pick_c A c xs (ak3 xs q) g 7 O.out HX.out HB.out (by omega) (by omega) (by omega) (by omega)).mono ?_
  rintro e w2 ⟨rfl, hO⟩
  clear O; have O := Aside0.mk hO; clear hO
  have HV : Aside0 (akV xs q = ⟨ifV (akB xs q) 0 (pkV xs 150 q), ifV (akB xs q) 500 (pkV xs 220 (ak1 xs q)), pkV xs 6 (ak2 xs q) - 1, pkV xs 7 (ak3 xs q) - 1, (akT xs q).1⟩) := ⟨rfl⟩
  generalize pkV xs 150 q = v1 at HV ⊢
  generalize pkV xs 220 (ak1 xs q) = v2 at HV ⊢
  generalize pkV xs 6 (ak2 xs q) = v3 at HV r6 ⊢
  generalize pkV xs 7 (ak3 xs q) = v4 at HV r7 ⊢
  go_upto_region 2 with (fail)
  generalize hw : World.alloc _ _ = w4
  replace O := Aside0.mk (O.out.of hw).p1; clear hw
  generalize w2.heap.size = g3 at O ⊢
  go_wp2_with fail
  refine (pick_c A c xs (ak4 xs q) g 3 O.out HX.out HB.out (by omega) (by omega) (by omega) (by omega)).mono ?_
  rintro e w5 ⟨rfl, hO⟩
  clear O; have O := Aside0.mk hO; clear hO
  rw [show pkC xs 3 (ak4 xs q) = ak5 xs q from rfl] at O
  have r3 := pkV_range xs (ak4 xs q) (k := 3) (by omega)
  obtain ⟨n, hn⟩ : ∃ n : Nat, (n : Int) = pkV xs 3 (ak4 xs q) := ⟨(pkV xs 3 (ak4 xs q)).toNat, by omega⟩
  have hn2 : n ≤ 2 := by omega
  have HT : Aside0 (akT xs q = txL xs n { data := #[] } (ak5 xs q)) := ⟨by unfold akT; rw [show (pkV xs 3 (ak4 xs q)).toNat = n by omega]⟩
  rw [← hn]
  clear hn r3
  generalize ak5 xs q = q5 at O HT b5
  have HBB : Aside0 (akB xs q = decide (pkV xs 3 (akT xs q).2 = 0)) := ⟨rfl⟩
  have HCC : Aside0 (akC xs q = pkC xs 3 (akT xs q).2) := ⟨rfl⟩
  go_wp2
  go_loopg [4] (n + 1) (fun m vi wr => ∃ (j : Nat) (s : ByteArray) (q' : Cu), vi = .int .i64 j ∧ Aside0 (j ≤ n ∧ j + 1 ≤ m ∧ s.size + j = n ∧ 0 ≤ q'.p ∧ q'.p + 2 * j ≤ q5.p + 2 * n) ∧ Aside0 (akT xs q = txL xs j s q') ∧ Aside0 (Own w0 wr (Rs.box g 123 (cuB A xs.length c q') :: Rs.box g3 36 #[.int .i64 v1, .int .i64 v2, .int .i64 (v3 - 1), .int .i64 (v4 - 1), .string s] :: Rs.box g2 36 #[.int .i64 0, .int .i64 0, .int .i64 0, .int .i64 0, .string { data := #[] }] :: L)))
  case atStart => exact ⟨n, { data := #[] }, q5, rfl, ⟨by omega, by omega, by simp [ByteArray.size], by omega, by omega⟩, HT, O⟩
  case round =>
    clear O HT
    obtain ⟨j, s, q', rfl, HJ, HT, O⟩ := hrel
    cases j with
    | zero =>
      have hT : akT xs q = (s, q') := HT.out
      replace HBB : Aside0 (akB xs q = decide (pkV xs 3 q' = 0)) := ⟨by rw [HBB.out, hT]⟩
      replace HCC : Aside0 (akC xs q = pkC xs 3 q') := ⟨by rw [HCC.out, hT]⟩
      replace HV : Aside0 (akV xs q = ⟨ifV (akB xs q) 0 v1, ifV (akB xs q) 500 v2, v3 - 1, v4 - 1, s⟩) := ⟨by rw [HV.out, hT]⟩
      have hj := HJ.out
      clear hT HT
      go_wp2_with fail
      refine (pick_c A c xs q' g 3 O.out HX.out HB.out (by omega) (by omega) (by omega) (by omega)).mono ?_
      rintro e w6 ⟨rfl, hO⟩
      clear O; have O := Aside0.mk hO; clear hO
      generalize pkV xs 3 q' = v6 at HBB ⊢
      by_cases h6 : v6 = 0
      · have hb1 : akB xs q = true := by rw [HBB.out]; exact decide_eq_true h6
        rw [hb1] at HV
        replace HV : Aside0 (akV xs q = ⟨0, 500, v3 - 1, v4 - 1, s⟩) := ⟨HV.out⟩
        obtain ⟨E6, _⟩ := eqT h6
        clear h6 hb1 HBB
        have z0 := blk_frozen O.out.b1 0; have z1 := blk_frozen O.out.b1 1; have c0 := (blk_cell O.out.b1 0).trans rfl; have c1 := (blk_cell O.out.b1 1).trans rfl
        go_upto_region 8 with (fail)
        generalize hw : World.setCell _ _ _ = w7
        replace O := Aside0.mk (O.out.p1.st hw #[.int .i64 0, .int .i64 v2, .int .i64 (v3 - 1), .int .i64 (v4 - 1), .string s] rfl).p1; clear hw z0 c0 c1 z1
        have z1 := blk_frozen O.out.b1 1; have c1 := (blk_cell O.out.b1 1).trans rfl
        go_upto_region 9 with (fail)
        generalize hw : World.setCell _ _ _ = w8
        replace O := Aside0.mk (O.out.p1.st hw #[.int .i64 0, .int .i64 500, .int .i64 (v3 - 1), .int .i64 (v4 - 1), .string s] rfl).p1; clear hw c1 z1
        have c0 := (blk_cell O.out.b1 0).trans rfl; have c1 := (blk_cell O.out.b1 1).trans rfl; have c2 := (blk_cell O.out.b1 2).trans rfl; have c3 := (blk_cell O.out.b1 3).trans rfl; have c4 := (blk_cell O.out.b1 4).trans rfl
        have d0 := (blk_cell O.out.b2 0).trans rfl; have d1 := (blk_cell O.out.b2 1).trans rfl; have d2 := (blk_cell O.out.b2 2).trans rfl; have d3 := (blk_cell O.out.b2 3).trans rfl; have d4 := (blk_cell O.out.b2 4).trans rfl
        have z0 := blk_frozen O.out.b2 0; have z1 := blk_frozen O.out.b2 1; have z2 := blk_frozen O.out.b2 2; have z3 := blk_frozen O.out.b2 3; have z4 := blk_frozen O.out.b2 4
        go_wp2
        generalize hw : World.setCell _ _ _ = w9
        replace O := Aside0.mk (O.out.p2.st5 hw); clear hw
        refine bodyPost_ret (results_cell_row rfl _ _ g2 36 #[.int .i64 0, .int .i64 500, .int .i64 (v3 - 1), .int .i64 (v4 - 1), .string s] (0, 0) _ rfl O.out.b0 Try.underlying36 rfl (by kernel_rfl)) rfl ?_
        exact HQ.out _ _ ⟨by rw [HV.out]; rfl, by rw [HCC.out]; exact O.out.drop.p1.drop⟩
      · have hb1 : akB xs q = false := by rw [HBB.out]; exact decide_eq_false h6
        rw [hb1] at HV
        replace HV : Aside0 (akV xs q = ⟨v1, v2, v3 - 1, v4 - 1, s⟩) := ⟨HV.out⟩
        obtain ⟨E6, _⟩ := eqF h6
        clear h6 hb1 HBB
        have c0 := (blk_cell O.out.b1 0).trans rfl; have c1 := (blk_cell O.out.b1 1).trans rfl; have c2 := (blk_cell O.out.b1 2).trans rfl; have c3 := (blk_cell O.out.b1 3).trans rfl; have c4 := (blk_cell O.out.b1 4).trans rfl
        have d0 := (blk_cell O.out.b2 0).trans rfl; have d1 := (blk_cell O.out.b2 1).trans rfl; have d2 := (blk_cell O.out.b2 2).trans rfl; have d3 := (blk_cell O.out.b2 3).trans rfl; have d4 := (blk_cell O.out.b2 4).trans rfl
        have z0 := blk_frozen O.out.b2 0; have z1 := blk_frozen O.out.b2 1; have z2 := blk_frozen O.out.b2 2; have z3 := blk_frozen O.out.b2 3; have z4 := blk_frozen O.out.b2 4
        go_wp2
        generalize hw : World.setCell _ _ _ = w9
        replace O := Aside0.mk (O.out.p2.st5 hw); clear hw
        refine bodyPost_ret (results_cell_row rfl _ _ g2 36 #[.int .i64 v1, .int .i64 v2, .int .i64 (v3 - 1), .int .i64 (v4 - 1), .string s] (0, 0) _ rfl O.out.b0 Try.underlying36 rfl (by kernel_rfl)) rfl ?_
        exact HQ.out _ _ ⟨by rw [HV.out]; rfl, by rw [HCC.out]; exact O.out.drop.p1.drop⟩
    | succ j =>
      have hj := HJ.out
      have r4 := pkV_range xs q' (k := 4) (by omega)
      have p3 := pkC_p xs 4 q'
      go_upto_region 5 with (fail)
      have c4 := (blk_cell O.out.b1 4).trans rfl
      refine sta (fun w' => w'.cell? ⟨g3, 4, none⟩ = some (.string s)) [10] 11 c4 (fun hS => ?_)
      clear c4
      replace O := Aside0.mk O.out.drew
      generalize World.drew _ = wd at O hS ⊢
      refine pu 0 1 ?_
      refine tk 1 3 hS ?_
      refine pu 2 7 ?_
      refine on 3 15 (fun K hK => ?_)
      refine ca (pick_c A c xs q' g 4 O.out HX.out HB.out (by omega) (by omega) (by omega) (by omega)) Try.func95 ?_
      rintro e w1 ⟨rfl, hO⟩
      clear O; have O := Aside0.mk hO; clear hO
      refine ⟨_, rfl, nx hK ((blk_cell O.out.b1 4).trans rfl) (fun hS => ?_)⟩
      clear hK K
      have hcv := ltr_c w1 (pkV xs 4 q') r4.1 (by omega)
      have hss : s.size + (ltr (pkV xs 4 q')).size ≤ 9223372036854775807 := by rw [ltr_size]; omega
      have HT2 : Aside0 (akT xs q = txL xs j (s ++ ltr (pkV xs 4 q')) (pkC xs 4 q')) := ⟨HT.out⟩
      have hls : (ltr (pkV xs 4 q')).size = 1 := rfl
      generalize ltr (pkV xs 4 q') = lt at hcv hss HT2 hls
      generalize pkV xs 4 q' = v at hcv r4 ⊢
      refine pu 4 31 ?_
      refine pu 5 63 ?_
      refine on 6 127 (fun K hK => ?_)
      refine va ?_
      have e97 : IntKind.u8.wrap (wrap64 (97 + v)) = 97 + v := by
        rw [show wrap64 (97 + v) = 97 + v by unfold wrap64; omega]
        unfold IntKind.wrap; simp [IntKind.signed, IntKind.bits]; omega
      rw [e97]
      generalize hw : w1.alloc _ = w2 at hcv ⊢
      replace O := Aside0.mk (O.out.of hw).drop; clear hw e97
      refine nx hK ((blk_cell O.out.b1 4).trans rfl) (fun hS => ?_)
      clear hK K
      refine on 7 255 (fun K hK => ?_)
      refine va (v := .string lt) (w1 := w2) ?_ (hrun := by go_simp)
      refine nx hK hS (fun hS => ?_)
      clear hK K
      refine pu (v := .string (s ++ lt)) 8 511 ?_ (hr := fun w' => by go_simp; all_goals (first | rfl | omega))
      refine pu 9 1023 ?_
      have c4 := (blk_cell O.out.b1 4).trans rfl; have z4 := blk_frozen O.out.b1 4
      refine la 10 2047 (fun K hK => ?_)
      refine st ?_
      generalize hw : World.setCell _ _ _ = w3
      replace O := Aside0.mk (O.out.p1.st hw #[.int .i64 v1, .int .i64 v2, .int .i64 (v3 - 1), .int .i64 (v4 - 1), .string (s ++ lt)] rfl).p1; clear hw c4 z4
      refine nl hK (dn ?_)
      clear hK K
      go_wp2
      go_roundg (gk - 1)
      case measure => omega
      case rel => exact ⟨j, s ++ lt, pkC xs 4 q', by first | rfl | (congr 1; omega), ⟨by omega, by omega, by rw [ByteArray.size_append]; omega, by omega, by omega⟩, HT2, O⟩
end Go.Proofs.Ytocdlibnmlcokaa
namespace Go.Proofs.Ytocdlibnmlcokaa
open Go.RowKit Go.Proofs.YtocdlibnmlcokaaW.PrintWords Go.Proofs.YtocdlibnmlcokaaW.PrintLast
set_option linter.unusedVariables false
set_option linter.unusedSimpArgs false
set_option maxRecDepth 100000 in
theorem wInts_t (A A' : Option Addr) (c c' : Nat) (xs : List Int) (w : World) (hx : kI.C w A xs.length xs) (hy : kI.C w A' xs.length xs) :
    Calls Try.prog 25 #[.slice A xs.length c, .slice A' xs.length c'] w (Yes w) := by
  have hl : xs.length ≤ 9223372036854775807 := hx.2.1
  have HX := Aside0.mk hx; have HY := Aside0.mk hy; clear hx hy
  go_enter Try.func25, Try.ntmps25
  go_wp2
  go_loopg [13] xs.length (fun k v w' => ∃ i : Int, v = .int .i64 i ∧ Aside0 (0 ≤ i ∧ i ≤ xs.length ∧ xs.length - i.toNat ≤ k) ∧ Drawn0 w w')
  case atStart => exact ⟨0, rfl, ⟨by simp⟩, Drawn0.refl _⟩
  case round =>
    obtain ⟨i, rfl, HI, ⟨m, rfl⟩⟩ := hrel
    by_cases h1 : i < (xs.length : Int)
    · have h0 : 0 ≤ i := HI.out.1
      obtain ⟨ad, e1, hc1⟩ := Kd.at_int HX.out i h0 h1
      obtain ⟨ad', e2, hc2⟩ := Kd.at_int HY.out i h0 h1
      cases e1; cases e2
      go_wp2
      repeat (go_quiet (fail); try go_wp2)
      go_roundg (gk - 1)
      case measure => have := HI.out; omega
      case rel => exact ⟨i + 1, rfl, ⟨by have := HI.out; omega, by have := HI.out; omega, by have := HI.out; omega⟩, by repeat (first | exact Drawn0.refl _ | apply Drawn0.step)⟩
    · go_wp2
      go_ret
      exact ⟨rfl, Drawn0.below (by repeat (first | exact Drawn0.refl _ | apply Drawn0.step))⟩
end Go.Proofs.Ytocdlibnmlcokaa
namespace Go.Proofs.Ytocdlibnmlcokaa
open Go.RowKit Go.Proofs.YtocdlibnmlcokaaW.PrintWords Go.Proofs.YtocdlibnmlcokaaW.PrintLast
set_option linter.unusedVariables false
set_option linter.unusedSimpArgs false
theorem row_set64 {w : World} {g n c : Nat} {xs : List Int} {f : List Nat} (hf : rI.Row 3 w (.slice (some ⟨g, 0, none⟩) n c) xs f) (hn : f.Nodup) {j : Nat} (hj : j < xs.length) :
    w.cell? ⟨g, j, none⟩ = some (.int .i64 xs[j]) ∧ w.frozen? ⟨g, j, none⟩ = false ∧ g ∈ f ∧ ∀ x, rI.Row 3 (w.setCell ⟨g, j, none⟩ (.int .i64 x)) (.slice (some ⟨g, 0, none⟩) n c) (xs.set j x) f := by
  obtain ⟨cs, f0, hP, _, _, hgb, hcell, hfr, _, hst⟩ := Rp.Row_elem hf hn j hj
  obtain ⟨hcs, hf0⟩ := hP
  subst hcs; subst hf0
  have e0 : j * rI.d.sz + 0 = j := Nat.mul_one _
  have c1 := hcell 0 _ rfl
  rw [e0] at c1
  refine ⟨c1, hfr j, hgb, fun x => ?_⟩
  obtain ⟨fp', hr', hn', _, he⟩ := hst 0 (.int .i64 x) x [] (by decide) ⟨rfl, rfl⟩ (by simp) (by simp) (.inl rfl)
  rw [he rfl, e0] at hr'
  exact hr'
theorem Own.setFound {w0 w : World} {L : List Rs} {e g n c i : Nat} {ys : List Ad} {x : Ad} (h : Own w0 w (Rs.row rAd e (.slice (some ⟨g, 0, none⟩) n c) (ys.set i x) :: L)) (hi : i < ys.length) {k : Nat} (hk : k < x.found.length) :
    ∃ gf kc, w.cell? ⟨g, i * 4 + 3, none⟩ = some (.slice (some ⟨gf, 0, none⟩) x.found.length kc) ∧ (∃ u, w.cell? ⟨gf, k, none⟩ = some u) ∧ w.frozen? ⟨gf, k, none⟩ = false ∧
      ∀ u, Own w0 (w.setCell ⟨gf, k, none⟩ (.int .i64 u)) (Rs.row rAd e (.slice (some ⟨g, 0, none⟩) n c) (ys.set i ⟨x.code, x.notes, x.safe, x.found.set k u⟩) :: L) := by
  obtain ⟨K, kc, f, c3, hr, hnf, hup⟩ := h.innerAd hi
  obtain ⟨gf, cap, hv, hgf, _⟩ := Rp.Row_form hr (by omega)
  injection hv with hA hnn hc
  subst hA
  obtain ⟨k1, k2, k3, k4⟩ := row_set64 hr hnf hk
  exact ⟨gf, kc, c3, ⟨_, k1⟩, k2, fun u => hup (k4 u) ((Kp.set _ _ _ _).mono (fun b hb _ => by rw [List.mem_singleton] at hb; subst hb; exact k3))⟩
set_option maxRecDepth 100000 in
set_option maxHeartbeats 8000000 in
theorem wActed_t (A A' : Option Addr) (c c' : Nat) (xs : List Ad) (w : World) (hx : rAd.d.C w A xs.length xs) (hy : rAd.d.C w A' xs.length xs) :
    Calls Try.prog 24 #[.slice A xs.length c, .slice A' xs.length c'] w (Yes w) := by
  have hl : xs.length ≤ 9223372036854775807 := hx.2.1
  have HX := Aside0.mk hx; have HY := Aside0.mk hy; clear hx hy
  go_enter Try.func24, Try.ntmps24
  go_wp2
  go_loopg [13] xs.length (fun k v w' => ∃ i : Int, v = .int .i64 i ∧ Aside0 (0 ≤ i ∧ i ≤ xs.length ∧ xs.length - i.toNat ≤ k) ∧ Aside0 (Below w.heap.size w w'))
  case atStart => exact ⟨0, rfl, ⟨by simp⟩, ⟨Below.refl _ _⟩⟩
  case round =>
    obtain ⟨i, rfl, HI, HB⟩ := hrel
    by_cases h1 : i < (xs.length : Int)
    · have h0 : 0 ≤ i := HI.out.1
      obtain ⟨ad, K, kc, e1, a0, a1, a2, a3, _, hC1⟩ := at_Ad (Kd.C_drew (Kd.C_below HX.out HB.out)) i h0 h1
      obtain ⟨ad', K', kc', e2, b0, b1, b2, b3, _, hC2⟩ := at_Ad (Kd.C_drew (Kd.C_below HY.out HB.out)) i h0 h1
      cases e1; cases e2
      have hb := below_drew HB.out
      have HC1 := Aside0.mk hC1; have HC2 := Aside0.mk hC2
      clear hC1 hC2
      generalize gD xs i = x at a0 a1 a2 a3 b0 b1 b2 b3 HC1 HC2
      go_wp2
      refine sta (fun w' => (w'.cell? (ad.add (i.toNat * 4)) = some (.int .i64 x.code) ∧ w'.cell? ⟨(ad.add (i.toNat * 4)).block, (ad.add (i.toNat * 4)).off + 1, none⟩ = some (.int .i64 x.notes) ∧ w'.cell? ⟨(ad.add (i.toNat * 4)).block, (ad.add (i.toNat * 4)).off + 2, none⟩ = some (.int .i64 x.safe) ∧ w'.cell? ⟨(ad.add (i.toNat * 4)).block, (ad.add (i.toNat * 4)).off + 3, none⟩ = some (.slice K x.found.length kc)) ∧ (w'.cell? (ad'.add (i.toNat * 4)) = some (.int .i64 x.code) ∧ w'.cell? ⟨(ad'.add (i.toNat * 4)).block, (ad'.add (i.toNat * 4)).off + 1, none⟩ = some (.int .i64 x.notes) ∧ w'.cell? ⟨(ad'.add (i.toNat * 4)).block, (ad'.add (i.toNat * 4)).off + 2, none⟩ = some (.int .i64 x.safe) ∧ w'.cell? ⟨(ad'.add (i.toNat * 4)).block, (ad'.add (i.toNat * 4)).off + 3, none⟩ = some (.slice K' x.found.length kc'))) [] 51 ⟨⟨a0, a1, a2, a3⟩, ⟨b0, b1, b2, b3⟩⟩ (fun hS => ?_)
      clear a0 a1 a2 a3 b0 b1 b2 b3 HB
      generalize wr.drew = wd at HC1 HC2 hb hS ⊢
      refine pu 0 1 ?_
      refine pu 1 3 ?_
      refine pu 2 7 ?_
      refine pu 3 15 ?_
      refine tk 4 31 hS ?_
      refine pu 5 63 ?_
      refine pu 6 127 ?_
      refine pu 7 255 ?_
      refine pu 8 511 ?_
      refine tk 9 1023 hS ?_
      refine pu (v := .bool false) 10 2047 ?_ (hr := fun w' => by go_simp; all_goals (first | rfl | simp))
      refine pu 11 4095 ?_
      refine pu 12 8191 ?_
      refine pu 13 16383 ?_
      refine pu 14 32767 ?_
      refine pu 15 65535 ?_
      refine tk 16 131071 hS ?_
      refine pu 17 262143 ?_
      refine pu 18 524287 ?_
      refine pu 19 1048575 ?_
      refine pu 20 2097151 ?_
      refine tk 21 4194303 hS ?_
      refine pu (v := .bool false) 22 8388607 ?_ (hr := fun w' => by go_simp; all_goals (first | rfl | simp))
      refine pu 23 16777215 ?_
      refine pu 24 33554431 ?_
      refine pu 25 67108863 ?_
      refine pu 26 134217727 ?_
      refine pu 27 268435455 ?_
      refine pu 28 536870911 ?_
      refine tk 29 1073741823 hS ?_
      refine pu 30 2147483647 ?_
      refine pu 31 4294967295 ?_
      refine pu 32 8589934591 ?_
      refine pu 33 17179869183 ?_
      refine tk 34 34359738367 hS ?_
      refine pu (v := .bool false) 35 68719476735 ?_ (hr := fun w' => by go_simp; all_goals (first | rfl | simp))
      refine pu 36 137438953471 ?_
      refine pu 37 274877906943 ?_
      refine pu 38 549755813887 ?_
      refine pu 39 1099511627775 ?_
      refine pu 40 2199023255551 ?_
      refine pu 41 4398046511103 ?_
      refine tk 42 8796093022207 hS ?_
      refine pu 43 17592186044415 ?_
      refine pu 44 35184372088831 ?_
      refine pu 45 70368744177663 ?_
      refine pu 46 140737488355327 ?_
      refine tk 47 281474976710655 hS ?_
      refine on 48 562949953421311 (fun K hK => ?_)
      refine ca (wInts_t _ _ _ _ x.found _ HC1.out HC2.out) Try.func25 ?_
      rintro e wa ⟨rfl, hba⟩
      refine ⟨_, rfl, nx hK ⟨⟨pw_cell_below hba hS.1.1, pw_cell_below hba hS.1.2.1, pw_cell_below hba hS.1.2.2.1, pw_cell_below hba hS.1.2.2.2⟩, ⟨pw_cell_below hba hS.2.1, pw_cell_below hba hS.2.2.1, pw_cell_below hba hS.2.2.2.1, pw_cell_below hba hS.2.2.2.2⟩⟩ (fun hS => ?_)⟩
      clear hK K
      refine pu 49 1125899906842623 ?_
      refine pu 50 2251799813685247 ?_
      refine dn ?_
      clear hS
      have HB := Aside0.mk (below_then hb hb.size hba)
      clear hba hb HC1 HC2
      go_wp2
      go_roundg (gk - 1)
      case measure => have := HI.out; omega
      case rel => exact ⟨i + 1, rfl, ⟨by have := HI.out; omega, by have := HI.out; omega, by have := HI.out; omega⟩, HB⟩
    · go_wp2
      go_ret
      exact ⟨rfl, HB.out⟩
end Go.Proofs.Ytocdlibnmlcokaa
namespace Go.Proofs.Ytocdlibnmlcokaa
open Go.RowKit Go.Proofs.YtocdlibnmlcokaaW.PrintWords Go.Proofs.YtocdlibnmlcokaaW.PrintLast
set_option linter.unusedVariables false
set_option linter.unusedSimpArgs false
def oB1 : ByteArray := { data := #[111] }
def padN : Nat → ByteArray → ByteArray
  | 0, s => s
  | n + 1, s => padN n (s ++ oB1)
theorem padN_size : ∀ n s, (padN n s).size = s.size + n
  | 0, s => rfl
  | n + 1, s => by
    show (padN n (s ++ oB1)).size = _
    rw [padN_size n, ByteArray.size_append]
    show s.size + 1 + n = _
    omega
def pick3 (a b c v : Int) : Int := if v = 0 then a else if v = 1 then b else c
def pick4 (a b c d v : Int) : Int := if v = 0 then a else if v = 1 then b else if v = 2 then c else d
def odP (xs : List Int) (q : Cu) : Int := pkV xs 5 (ntC xs q)
def od2 (xs : List Int) (q : Cu) : Cu := pkC xs 5 (ntC xs q)
def odV (xs : List Int) (q : Cu) : Nt :=
  if odP xs q = 4 then ⟨(ntV xs q).tick, (ntV xs q).kind, (ntV xs q).who, (ntV xs q).n, padN (200 + pkV xs 2 (od2 xs q) - (ntV xs q).text.size).toNat (ntV xs q).text⟩
  else if odP xs q = 0 then ⟨pick3 (-1) 1000000000 1000000001 (pkV xs 3 (od2 xs q)), (ntV xs q).kind, (ntV xs q).who, (ntV xs q).n, (ntV xs q).text⟩
  else if odP xs q = 1 then ⟨(ntV xs q).tick, pick4 (-1) 99 100 101 (pkV xs 4 (od2 xs q)), (ntV xs q).who, (ntV xs q).n, (ntV xs q).text⟩
  else if odP xs q = 2 then ⟨(ntV xs q).tick, (ntV xs q).kind, pick3 (-1) 1000 1001 (pkV xs 3 (od2 xs q)), (ntV xs q).n, (ntV xs q).text⟩
  else ntV xs q
def odC (xs : List Int) (q : Cu) : Cu :=
  if odP xs q = 4 then pkC xs 2 (od2 xs q) else if odP xs q = 0 then pkC xs 3 (od2 xs q) else if odP xs q = 1 then pkC xs 4 (od2 xs q) else if odP xs q = 2 then pkC xs 3 (od2 xs q) else od2 xs q
theorem od_p (xs : List Int) (q : Cu) : (q.p ≤ (ntC xs q).p ∧ (ntC xs q).p ≤ q.p + 424) ∧ (q.p ≤ (od2 xs q).p ∧ (od2 xs q).p ≤ q.p + 426) ∧ (q.p ≤ (odC xs q).p ∧ (odC xs q).p ≤ q.p + 428) := by
  obtain ⟨_, _, _, _, _, _, h7⟩ := nt_p xs q
  have h2 : (ntC xs q).p ≤ (od2 xs q).p ∧ (od2 xs q).p ≤ (ntC xs q).p + 2 := pkC_p xs 5 _
  have a := pkC_p xs 2 (od2 xs q)
  have b := pkC_p xs 3 (od2 xs q)
  have c := pkC_p xs 4 (od2 xs q)
  refine ⟨by omega, by omega, ?_⟩
  unfold odC
  repeat' split
  all_goals omega
theorem odV_text (xs : List Int) (q : Cu) : (odV xs q).text.size ≤ 4000 := by
  have h := (ntV_ok xs q).1.2.2.2
  have r := pkV_range xs (od2 xs q) (k := 2) (by omega)
  unfold odV
  repeat' split
  · show (padN _ _).size ≤ 4000
    rw [padN_size]; omega
  all_goals first | (simp only; omega) | omega
set_option maxHeartbeats 8000000 in
set_option maxRecDepth 100000 in
theorem oddnote_c (A : Option Addr) (c : Nat) (xs : List Int) (q : Cu) (g : Nat) {w0 w : World} {L : List Rs} (h : Own w0 w (Rs.box g 123 (cuB A xs.length c q) :: L)) (hx : kB.C w0 A xs.length xs) (hb : BsOk xs) (h0 : 0 ≤ q.p) (h1 : q.p ≤ 800000000) :
    Calls Try.prog 97 #[.pointer (some ⟨g, 0, none⟩)] w (fun e w' => e = .returned (vN (odV xs q)) ∧ Own w0 w' (Rs.box g 123 (cuB A xs.length c (odC xs q)) :: L)) := by
  suffices H : ∀ Q : Ending → World → Prop, (∀ e w', e = .returned (vN (odV xs q)) ∧ Own w0 w' (Rs.box g 123 (cuB A xs.length c (odC xs q)) :: L) → Q e w') → Calls Try.prog 97 #[.pointer (some ⟨g, 0, none⟩)] w Q from H _ (fun e w' h => h)
  intro Q hQ
  have O := Aside0.mk h; have HB := Aside0.mk hb; have HX := Aside0.mk hx; have HQ := Aside0.mk hQ; clear h hb hx hQ
  obtain ⟨b1, b2, b3⟩ := od_p xs q
  have hts := (ntV_ok xs q).1.2.2.2
  go_enter Try.func97, Try.ntmps97
  go_upto_region 1 with (fail)
  rename_i Kq hKq
  have HKq := Aside0.mk hKq; clear hKq
  generalize hw : w.alloc _ = w1
  replace O := Aside0.mk (O.out.of hw).p1; clear hw
  generalize w.heap.size = g2 at O ⊢
  go_wp2_with fail
  refine (note_c A c xs q g O.out HX.out HB.out (by omega) (by omega)).mono ?_
  rintro e w2 ⟨rfl, hO⟩
  clear O; have O := Aside0.mk hO; clear hO
  have HV : Aside0 (odV xs q = if odP xs q = 4 then ⟨(ntV xs q).tick, (ntV xs q).kind, (ntV xs q).who, (ntV xs q).n, padN (200 + pkV xs 2 (od2 xs q) - (ntV xs q).text.size).toNat (ntV xs q).text⟩
    else if odP xs q = 0 then ⟨pick3 (-1) 1000000000 1000000001 (pkV xs 3 (od2 xs q)), (ntV xs q).kind, (ntV xs q).who, (ntV xs q).n, (ntV xs q).text⟩
    else if odP xs q = 1 then ⟨(ntV xs q).tick, pick4 (-1) 99 100 101 (pkV xs 4 (od2 xs q)), (ntV xs q).who, (ntV xs q).n, (ntV xs q).text⟩
    else if odP xs q = 2 then ⟨(ntV xs q).tick, (ntV xs q).kind, pick3 (-1) 1000 1001 (pkV xs 3 (od2 xs q)), (ntV xs q).n, (ntV xs q).text⟩
    else ntV xs q) := ⟨rfl⟩
  have HC : Aside0 (odC xs q = if odP xs q = 4 then pkC xs 2 (od2 xs q) else if odP xs q = 0 then pkC xs 3 (od2 xs q) else if odP xs q = 1 then pkC xs 4 (od2 xs q) else if odP xs q = 2 then pkC xs 3 (od2 xs q) else od2 xs q) := ⟨rfl⟩
  have HP : Aside0 (odP xs q = pkV xs 5 (ntC xs q)) := ⟨rfl⟩
  have H2 : Aside0 (pkC xs 5 (ntC xs q) = od2 xs q) := ⟨rfl⟩
  have hrp := pkV_range xs (ntC xs q) (k := 5) (by omega)
  rw [← HP.out] at hrp
  generalize ntV xs q = nt at HV hts ⊢
  generalize odV xs q = R at HQ HV
  generalize odC xs q = CC at HQ HC b3
  obtain ⟨n0, n1, n2, n3, n4⟩ := nt
  obtain ⟨R0, R1, R2, R3, R4⟩ := R
  simp only [vN] at HQ ⊢
  simp only at hts
  replace HV := Aside0.mk HV.out
  go_wp2_with fail
  generalize hw : w2.alloc _ = w3
  replace O := Aside0.mk (O.out.of hw).p1; clear hw
  generalize w2.heap.size = g3 at O ⊢
  refine HKq.out _ _ ?_
  clear HKq Kq
  go_step
  go_cut [4] from 7 (fun v4 wc => Aside0 (Own w0 wc (Rs.box g 123 (cuB A xs.length c CC) :: Rs.box g3 33 #[.int .i64 R0, .int .i64 R1, .int .i64 R2, .int .i64 R3, .string R4] :: Rs.box g2 33 #[.int .i64 0, .int .i64 0, .int .i64 0, .int .i64 0, .string { data := #[] }] :: L)))
  case first =>
    go_wp2_with fail
    refine (pick_c A c xs (ntC xs q) g 5 O.out HX.out HB.out (by omega) (by omega) (by omega) (by omega)).mono ?_
    rintro e w4 ⟨rfl, hO⟩
    clear O; have O := Aside0.mk hO; clear hO
    rw [H2.out] at O
    rw [← HP.out]
    generalize odP xs q = p5 at HV HC hrp ⊢
    generalize od2 xs q = q2 at HV HC b2 O
    by_cases e4 : p5 = 4
    · have hV := HV.out; have hC := HC.out
      rw [if_pos e4] at hV hC
      clear HV HC
      obtain ⟨E4, _⟩ := eqT e4
      clear e4
      have r2 := pkV_range xs q2 (k := 2) (by omega)
      have HV := Aside0.mk hV; have HC := Aside0.mk hC; clear hV hC
      go_wp2_with fail
      refine (pick_c A c xs q2 g 2 O.out HX.out HB.out (by omega) (by omega) (by omega) (by omega)).mono ?_
      rintro e w5 ⟨rfl, hO⟩
      clear O; have O := Aside0.mk hO; clear hO
      rw [← HC.out] at O
      generalize pkV xs 2 q2 = v2 at HV r2 ⊢
      go_wp2
      go_loopg [] 300 (fun m wr => ∃ (s : ByteArray), Aside0 (200 + v2 - s.size < m ∧ s.size ≤ 201 ∧ padN (200 + v2 - s.size).toNat s = R4) ∧ Aside0 (Own w0 wr (Rs.box g 123 (cuB A xs.length c CC) :: Rs.box g3 33 #[.int .i64 n0, .int .i64 n1, .int .i64 n2, .int .i64 n3, .string s] :: Rs.box g2 33 #[.int .i64 0, .int .i64 0, .int .i64 0, .int .i64 0, .string { data := #[] }] :: L)))
      case atStart => exact ⟨n4, ⟨by omega, by omega, by have := HV.out; injection this with _ _ _ _ h5; exact h5.symm⟩, O⟩
      case round =>
        clear O
        obtain ⟨s, HS, O⟩ := hrel
        have c4 := (blk_cell O.out.b1 4).trans rfl; have z4 := blk_frozen O.out.b1 4
        have hs := HS.out.2.1
        by_cases hlt : (s.size : Int) < 200 + v2
        · have hpad : padN (200 + v2 - ((s ++ oB1).size : Nat)).toNat (s ++ oB1) = R4 := by
            rw [← HS.out.2.2]
            have e : (200 + v2 - (s.size : Int)).toNat = (200 + v2 - ((s ++ oB1).size : Nat)).toNat + 1 := by
              rw [ByteArray.size_append]; have : oB1.size = 1 := rfl; omega
            rw [e]; rfl
          have hsz : (s ++ oB1).size = s.size + 1 := by rw [ByteArray.size_append]; rfl
          have HPAD := Aside0.mk hpad; have HSZ := Aside0.mk hsz
          have HH := HS.out.1
          have HHH : Aside0 (200 + v2 - s.size < gk) := ⟨HH⟩
          clear hpad hsz HH
          go_wp2
          generalize hw : World.setCell _ _ _ = w6
          replace O := Aside0.mk (O.out.p1.st hw #[.int .i64 n0, .int .i64 n1, .int .i64 n2, .int .i64 n3, .string (s ++ oB1)] rfl).p1; clear hw c4 z4
          go_roundg (gk - 1)
          case measure => have := HHH.out; omega
          case rel => exact ⟨s ++ oB1, ⟨by rw [HSZ.out]; have := HHH.out; omega, by rw [HSZ.out]; omega, HPAD.out⟩, O⟩
        · have e0 : s = R4 := by
            have := HS.out.2.2
            rw [show (200 + v2 - (s.size : Int)).toNat = 0 by omega] at this
            exact this
          have hV := HV.out
          injection hV with h0_ h1_ h2_ h3_ h4_
          subst h0_; subst h1_; subst h2_; subst h3_; subst e0
          clear HV h4_
          go_wp2
          go_meet
          case rel => exact O
    by_cases e0 : p5 = 0
    · have hV := HV.out; have hC := HC.out
      rw [if_neg e4, if_pos e0] at hV hC
      clear HV HC
      obtain ⟨E4, _⟩ := eqF e4
      obtain ⟨E0, _⟩ := eqT e0
      clear e0 e4
      have r2 := pkV_range xs q2 (k := 3) (by omega)
      have HV := Aside0.mk hV; have HC := Aside0.mk hC; clear hV hC
      go_wp2_with fail
      refine (pick_c A c xs q2 g 3 (O.out.alloc _ _).p1 HX.out HB.out (by omega) (by omega) (by omega) (by omega)).mono ?_
      rintro e w5 ⟨rfl, hO⟩
      clear O; have O := Aside0.mk hO; clear hO
      rw [← HC.out] at O
      generalize pkV xs 3 q2 = v2 at HV r2 ⊢
      generalize w4.heap.size = gl at O ⊢
      by_cases k0 : v2 = 0
      · skip
        subst k0
        have hV := HV.out
        clear HV HC
        injection hV with h0_ h1_ h2_ h3_ h4_
        have hp_ : pick3 (-1) 1000000000 1000000001 0 = -1 := by decide
        rw [hp_] at h0_
        subst h0_; subst h1_; subst h2_; subst h3_; subst h4_
        clear hp_
        have cl := (blk_cell O.out.b1 0).trans rfl; have cj := (blk_cell O.out.b2 0).trans rfl; have zj := blk_frozen O.out.b2 0
        go_wp2
        generalize hw : World.setCell _ _ _ = w6
        replace O := Aside0.mk (O.out.p2.st hw #[.int .i64 (-1), .int .i64 R1, .int .i64 R2, .int .i64 R3, .string R4] rfl).p1.p2.drop; clear hw cl cj zj
        go_meet
        case rel => exact O
      by_cases k1 : v2 = 1
      · skip
        subst k1
        have hV := HV.out
        clear HV HC
        injection hV with h0_ h1_ h2_ h3_ h4_
        have hp_ : pick3 (-1) 1000000000 1000000001 1 = 1000000000 := by decide
        rw [hp_] at h0_
        subst h0_; subst h1_; subst h2_; subst h3_; subst h4_
        clear hp_
        have cl := (blk_cell O.out.b1 1).trans rfl; have cj := (blk_cell O.out.b2 0).trans rfl; have zj := blk_frozen O.out.b2 0
        go_wp2
        generalize hw : World.setCell _ _ _ = w6
        replace O := Aside0.mk (O.out.p2.st hw #[.int .i64 1000000000, .int .i64 R1, .int .i64 R2, .int .i64 R3, .string R4] rfl).p1.p2.drop; clear hw cl cj zj
        go_meet
        case rel => exact O
      obtain rfl : v2 = 2 := by omega
      have hV := HV.out
      clear HV HC k0 k1
      injection hV with h0_ h1_ h2_ h3_ h4_
      have hp_ : pick3 (-1) 1000000000 1000000001 2 = 1000000001 := by decide
      rw [hp_] at h0_
      subst h0_; subst h1_; subst h2_; subst h3_; subst h4_
      clear hp_
      have cl := (blk_cell O.out.b1 2).trans rfl; have cj := (blk_cell O.out.b2 0).trans rfl; have zj := blk_frozen O.out.b2 0
      go_wp2
      generalize hw : World.setCell _ _ _ = w6
      replace O := Aside0.mk (O.out.p2.st hw #[.int .i64 1000000001, .int .i64 R1, .int .i64 R2, .int .i64 R3, .string R4] rfl).p1.p2.drop; clear hw cl cj zj
      go_meet
      case rel => exact O
    by_cases e1 : p5 = 1
    · have hV := HV.out; have hC := HC.out
      rw [if_neg e4, if_neg e0, if_pos e1] at hV hC
      clear HV HC
      obtain ⟨E4, _⟩ := eqF e4; obtain ⟨E0, _⟩ := eqF e0
      obtain ⟨E1, _⟩ := eqT e1
      clear e1 e4 e0
      have r2 := pkV_range xs q2 (k := 4) (by omega)
      have HV := Aside0.mk hV; have HC := Aside0.mk hC; clear hV hC
      go_wp2_with fail
      refine (pick_c A c xs q2 g 4 (O.out.alloc _ _).p1 HX.out HB.out (by omega) (by omega) (by omega) (by omega)).mono ?_
      rintro e w5 ⟨rfl, hO⟩
      clear O; have O := Aside0.mk hO; clear hO
      rw [← HC.out] at O
      generalize pkV xs 4 q2 = v2 at HV r2 ⊢
      generalize w4.heap.size = gl at O ⊢
      by_cases k0 : v2 = 0
      · skip
        subst k0
        have hV := HV.out
        clear HV HC
        injection hV with h0_ h1_ h2_ h3_ h4_
        have hp_ : pick4 (-1) 99 100 101 0 = -1 := by decide
        rw [hp_] at h1_
        subst h0_; subst h1_; subst h2_; subst h3_; subst h4_
        clear hp_
        have cl := (blk_cell O.out.b1 0).trans rfl; have cj := (blk_cell O.out.b2 1).trans rfl; have zj := blk_frozen O.out.b2 1
        go_wp2
        generalize hw : World.setCell _ _ _ = w6
        replace O := Aside0.mk (O.out.p2.st hw #[.int .i64 R0, .int .i64 (-1), .int .i64 R2, .int .i64 R3, .string R4] rfl).p1.p2.drop; clear hw cl cj zj
        go_meet
        case rel => exact O
      by_cases k1 : v2 = 1
      · skip
        subst k1
        have hV := HV.out
        clear HV HC
        injection hV with h0_ h1_ h2_ h3_ h4_
        have hp_ : pick4 (-1) 99 100 101 1 = 99 := by decide
        rw [hp_] at h1_
        subst h0_; subst h1_; subst h2_; subst h3_; subst h4_
        clear hp_
        have cl := (blk_cell O.out.b1 1).trans rfl; have cj := (blk_cell O.out.b2 1).trans rfl; have zj := blk_frozen O.out.b2 1
        go_wp2
        generalize hw : World.setCell _ _ _ = w6
        replace O := Aside0.mk (O.out.p2.st hw #[.int .i64 R0, .int .i64 99, .int .i64 R2, .int .i64 R3, .string R4] rfl).p1.p2.drop; clear hw cl cj zj
        go_meet
        case rel => exact O
      by_cases k2 : v2 = 2
      · skip
        subst k2
        have hV := HV.out
        clear HV HC
        injection hV with h0_ h1_ h2_ h3_ h4_
        have hp_ : pick4 (-1) 99 100 101 2 = 100 := by decide
        rw [hp_] at h1_
        subst h0_; subst h1_; subst h2_; subst h3_; subst h4_
        clear hp_
        have cl := (blk_cell O.out.b1 2).trans rfl; have cj := (blk_cell O.out.b2 1).trans rfl; have zj := blk_frozen O.out.b2 1
        go_wp2
        generalize hw : World.setCell _ _ _ = w6
        replace O := Aside0.mk (O.out.p2.st hw #[.int .i64 R0, .int .i64 100, .int .i64 R2, .int .i64 R3, .string R4] rfl).p1.p2.drop; clear hw cl cj zj
        go_meet
        case rel => exact O
      obtain rfl : v2 = 3 := by omega
      have hV := HV.out
      clear HV HC k0 k1 k2
      injection hV with h0_ h1_ h2_ h3_ h4_
      have hp_ : pick4 (-1) 99 100 101 3 = 101 := by decide
      rw [hp_] at h1_
      subst h0_; subst h1_; subst h2_; subst h3_; subst h4_
      clear hp_
      have cl := (blk_cell O.out.b1 3).trans rfl; have cj := (blk_cell O.out.b2 1).trans rfl; have zj := blk_frozen O.out.b2 1
      go_wp2
      generalize hw : World.setCell _ _ _ = w6
      replace O := Aside0.mk (O.out.p2.st hw #[.int .i64 R0, .int .i64 101, .int .i64 R2, .int .i64 R3, .string R4] rfl).p1.p2.drop; clear hw cl cj zj
      go_meet
      case rel => exact O
    by_cases e2 : p5 = 2
    · have hV := HV.out; have hC := HC.out
      rw [if_neg e4, if_neg e0, if_neg e1, if_pos e2] at hV hC
      clear HV HC
      obtain ⟨E4, _⟩ := eqF e4; obtain ⟨E0, _⟩ := eqF e0; obtain ⟨E1, _⟩ := eqF e1
      obtain ⟨E2, _⟩ := eqT e2
      clear e2 e4 e0 e1
      have r2 := pkV_range xs q2 (k := 3) (by omega)
      have HV := Aside0.mk hV; have HC := Aside0.mk hC; clear hV hC
      go_wp2_with fail
      refine (pick_c A c xs q2 g 3 (O.out.alloc _ _).p1 HX.out HB.out (by omega) (by omega) (by omega) (by omega)).mono ?_
      rintro e w5 ⟨rfl, hO⟩
      clear O; have O := Aside0.mk hO; clear hO
      rw [← HC.out] at O
      generalize pkV xs 3 q2 = v2 at HV r2 ⊢
      generalize w4.heap.size = gl at O ⊢
      by_cases k0 : v2 = 0
      · skip
        subst k0
        have hV := HV.out
        clear HV HC
        injection hV with h0_ h1_ h2_ h3_ h4_
        have hp_ : pick3 (-1) 1000 1001 0 = -1 := by decide
        rw [hp_] at h2_
        subst h0_; subst h1_; subst h2_; subst h3_; subst h4_
        clear hp_
        have cl := (blk_cell O.out.b1 0).trans rfl; have cj := (blk_cell O.out.b2 2).trans rfl; have zj := blk_frozen O.out.b2 2
        go_wp2
        generalize hw : World.setCell _ _ _ = w6
        replace O := Aside0.mk (O.out.p2.st hw #[.int .i64 R0, .int .i64 R1, .int .i64 (-1), .int .i64 R3, .string R4] rfl).p1.p2.drop; clear hw cl cj zj
        go_meet
        case rel => exact O
      by_cases k1 : v2 = 1
      · skip
        subst k1
        have hV := HV.out
        clear HV HC
        injection hV with h0_ h1_ h2_ h3_ h4_
        have hp_ : pick3 (-1) 1000 1001 1 = 1000 := by decide
        rw [hp_] at h2_
        subst h0_; subst h1_; subst h2_; subst h3_; subst h4_
        clear hp_
        have cl := (blk_cell O.out.b1 1).trans rfl; have cj := (blk_cell O.out.b2 2).trans rfl; have zj := blk_frozen O.out.b2 2
        go_wp2
        generalize hw : World.setCell _ _ _ = w6
        replace O := Aside0.mk (O.out.p2.st hw #[.int .i64 R0, .int .i64 R1, .int .i64 1000, .int .i64 R3, .string R4] rfl).p1.p2.drop; clear hw cl cj zj
        go_meet
        case rel => exact O
      obtain rfl : v2 = 2 := by omega
      have hV := HV.out
      clear HV HC k0 k1
      injection hV with h0_ h1_ h2_ h3_ h4_
      have hp_ : pick3 (-1) 1000 1001 2 = 1001 := by decide
      rw [hp_] at h2_
      subst h0_; subst h1_; subst h2_; subst h3_; subst h4_
      clear hp_
      have cl := (blk_cell O.out.b1 2).trans rfl; have cj := (blk_cell O.out.b2 2).trans rfl; have zj := blk_frozen O.out.b2 2
      go_wp2
      generalize hw : World.setCell _ _ _ = w6
      replace O := Aside0.mk (O.out.p2.st hw #[.int .i64 R0, .int .i64 R1, .int .i64 1001, .int .i64 R3, .string R4] rfl).p1.p2.drop; clear hw cl cj zj
      go_meet
      case rel => exact O
    have hV := HV.out; have hC := HC.out
    rw [if_neg e4, if_neg e0, if_neg e1, if_neg e2] at hV hC
    clear HV HC
    obtain ⟨E4, _⟩ := eqF e4; obtain ⟨E0, _⟩ := eqF e0; obtain ⟨E1, _⟩ := eqF e1; obtain ⟨E2, _⟩ := eqF e2
    clear e4 e0 e1 e2
    rw [← hC] at O
    injection hV with h0_ h1_ h2_ h3_ h4_
    subst h0_; subst h1_; subst h2_; subst h3_; subst h4_
    clear hC
    go_wp2
    go_meet
    case rel => exact O
  case rest =>
    clear O HV HC HP H2
    have O := hcut; clear hcut
    rename_i K hK
    refine hK _ _ ?_
    clear hK K
    go_step
    have c0 := (blk_cell O.out.b1 0).trans rfl; have c1 := (blk_cell O.out.b1 1).trans rfl; have c2 := (blk_cell O.out.b1 2).trans rfl; have c3 := (blk_cell O.out.b1 3).trans rfl; have c4 := (blk_cell O.out.b1 4).trans rfl
    have d0 := (blk_cell O.out.b2 0).trans rfl; have d1 := (blk_cell O.out.b2 1).trans rfl; have d2 := (blk_cell O.out.b2 2).trans rfl; have d3 := (blk_cell O.out.b2 3).trans rfl; have d4 := (blk_cell O.out.b2 4).trans rfl
    have z0 := blk_frozen O.out.b2 0; have z1 := blk_frozen O.out.b2 1; have z2 := blk_frozen O.out.b2 2; have z3 := blk_frozen O.out.b2 3; have z4 := blk_frozen O.out.b2 4
    go_wp2
    generalize hw : World.setCell _ _ _ = w9
    replace O := Aside0.mk (O.out.p2.st5 hw); clear hw
    refine bodyPost_ret (results_cell_row rfl _ _ g2 33 #[.int .i64 R0, .int .i64 R1, .int .i64 R2, .int .i64 R3, .string R4] (0, 0) _ rfl O.out.b0 Try.underlying33 rfl (by kernel_rfl)) rfl ?_
    exact HQ.out _ _ ⟨rfl, O.out.drop.p1.drop⟩
end Go.Proofs.Ytocdlibnmlcokaa
namespace Go.Proofs.Ytocdlibnmlcokaa
open Go.RowKit Go.Proofs.YtocdlibnmlcokaaW.PrintWords Go.Proofs.YtocdlibnmlcokaaW.PrintLast
set_option linter.unusedVariables false
set_option linter.unusedSimpArgs false
def acP (xs : List Int) (q : Cu) : Int := pkV xs 12 q
def ac1 (xs : List Int) (q : Cu) : Cu := pkC xs 12 q
def acS0 (xs : List Int) (q : Cu) : Cu := pkC xs 3 (ac1 xs q)
def acS1 (xs : List Int) (q : Cu) : Cu := pkC xs 200 (acS0 xs q)
def acS2 (xs : List Int) (q : Cu) : Cu := pkC xs 3 (acS1 xs q)
def acK (xs : List Int) (q : Cu) : Nat :=
  if acP xs q = 0 then 0 else if acP xs q = 1 then 0 else if acP xs q = 2 then 2 else if acP xs q = 3 then 3 else if acP xs q = 4 then (if pkV xs 3 (ac1 xs q) = 0 then 4 else 5) else 6
def acV (xs : List Int) (q : Cu) : Ac :=
  match acK xs q with
  | 0 => ⟨2, zN, [], zN, 0, 0⟩
  | 2 => ⟨3, zN, kpV xs (ac1 xs q), zN, 0, 0⟩
  | 3 => ⟨4, zN, [], akV xs (ac1 xs q), 0, 0⟩
  | 4 => ⟨5, zN, [], zN, pkV xs 200 (acS0 xs q) * (1 + pkV xs 3 (acS1 xs q)), 1 + pkV xs 255 (acS2 xs q)⟩
  | 5 => ⟨1, ntV xs (acS0 xs q), [], zN, 0, 0⟩
  | _ => ⟨1, ntV xs (ac1 xs q), [], zN, 0, 0⟩
def acC (xs : List Int) (q : Cu) : Cu :=
  match acK xs q with
  | 0 => ac1 xs q
  | 2 => kpC xs (ac1 xs q)
  | 3 => akC xs (ac1 xs q)
  | 4 => pkC xs 255 (acS2 xs q)
  | 5 => ntC xs (acS0 xs q)
  | _ => ntC xs (ac1 xs q)
theorem ac_p (xs : List Int) (q : Cu) : (q.p ≤ (ac1 xs q).p ∧ (ac1 xs q).p ≤ q.p + 2) ∧ (q.p ≤ (acS0 xs q).p ∧ (acS0 xs q).p ≤ q.p + 4) ∧ (q.p ≤ (acS1 xs q).p ∧ (acS1 xs q).p ≤ q.p + 6) ∧ (q.p ≤ (acS2 xs q).p ∧ (acS2 xs q).p ≤ q.p + 8) ∧ (q.p ≤ (acC xs q).p ∧ (acC xs q).p ≤ q.p + 430) := by
  have h1 : q.p ≤ (ac1 xs q).p ∧ (ac1 xs q).p ≤ q.p + 2 := pkC_p xs 12 q
  have h2 : (ac1 xs q).p ≤ (acS0 xs q).p ∧ (acS0 xs q).p ≤ (ac1 xs q).p + 2 := pkC_p xs 3 _
  have h3 : (acS0 xs q).p ≤ (acS1 xs q).p ∧ (acS1 xs q).p ≤ (acS0 xs q).p + 2 := pkC_p xs 200 _
  have h4 : (acS1 xs q).p ≤ (acS2 xs q).p ∧ (acS2 xs q).p ≤ (acS1 xs q).p + 2 := pkC_p xs 3 _
  have a := kpC_p xs (ac1 xs q)
  obtain ⟨_, _, _, _, _, _, b⟩ := ak_p xs (ac1 xs q)
  have c := pkC_p xs 255 (acS2 xs q)
  obtain ⟨_, _, _, _, _, _, d⟩ := nt_p xs (acS0 xs q)
  obtain ⟨_, _, _, _, _, _, e⟩ := nt_p xs (ac1 xs q)
  refine ⟨h1, by omega, by omega, by omega, ?_⟩
  unfold acC
  split <;> omega
theorem acV_tx (xs : List Int) (q : Cu) : (acV xs q).note.text.size ≤ 4000 ∧ (acV xs q).ask.text.size ≤ 4000 ∧ (acV xs q).kept.length ≤ 4000 := by
  have z : zN.text.size = 0 := rfl
  have a := (akV_ok xs (ac1 xs q)).2.2.2.2
  have b := (ntV_ok xs (acS0 xs q)).1.2.2.2
  have c := (ntV_ok xs (ac1 xs q)).1.2.2.2
  have d := kpV_len xs (ac1 xs q)
  unfold acV
  split <;> simp only [List.length_nil] <;> omega
set_option maxHeartbeats 8000000 in
set_option maxRecDepth 100000 in
theorem act_c (A : Option Addr) (c : Nat) (xs : List Int) (q : Cu) (g : Nat) {w0 w : World} {L : List Rs} (h : Own w0 w (Rs.box g 123 (cuB A xs.length c q) :: L)) (hx : kB.C w0 A xs.length xs) (hb : BsOk xs) (h0 : 0 ≤ q.p) (h1 : q.p ≤ 700000000) :
    Calls Try.prog 96 #[.pointer (some ⟨g, 0, none⟩)] w (fun e w' => ∃ v, e = .returned (vAc (acV xs q) v) ∧ Own w0 w' (Rs.row Rp.bool 4 v (acV xs q).kept :: Rs.box g 123 (cuB A xs.length c (acC xs q)) :: L)) := by
  suffices H : ∀ Q : Ending → World → Prop, (∀ e w', (∃ v, e = .returned (vAc (acV xs q) v) ∧ Own w0 w' (Rs.row Rp.bool 4 v (acV xs q).kept :: Rs.box g 123 (cuB A xs.length c (acC xs q)) :: L)) → Q e w') → Calls Try.prog 96 #[.pointer (some ⟨g, 0, none⟩)] w Q from H _ (fun e w' h => h)
  intro Q hQ
  have O := Aside0.mk h; have HB := Aside0.mk hb; have HX := Aside0.mk hx; have HQ := Aside0.mk hQ; clear h hb hx hQ
  obtain ⟨b1, b2, b3, b4, b5⟩ := ac_p xs q
  have HK : Aside0 (acK xs q = if acP xs q = 0 then 0 else if acP xs q = 1 then 0 else if acP xs q = 2 then 2 else if acP xs q = 3 then 3 else if acP xs q = 4 then (if pkV xs 3 (ac1 xs q) = 0 then 4 else 5) else 6) := ⟨rfl⟩
  have HV : Aside0 (acV xs q = match acK xs q with
    | 0 => ⟨2, zN, [], zN, 0, 0⟩
    | 2 => ⟨3, zN, kpV xs (ac1 xs q), zN, 0, 0⟩
    | 3 => ⟨4, zN, [], akV xs (ac1 xs q), 0, 0⟩
    | 4 => ⟨5, zN, [], zN, pkV xs 200 (acS0 xs q) * (1 + pkV xs 3 (acS1 xs q)), 1 + pkV xs 255 (acS2 xs q)⟩
    | 5 => ⟨1, ntV xs (acS0 xs q), [], zN, 0, 0⟩
    | _ => ⟨1, ntV xs (ac1 xs q), [], zN, 0, 0⟩) := ⟨rfl⟩
  have HC : Aside0 (acC xs q = match acK xs q with
    | 0 => ac1 xs q
    | 2 => kpC xs (ac1 xs q)
    | 3 => akC xs (ac1 xs q)
    | 4 => pkC xs 255 (acS2 xs q)
    | 5 => ntC xs (acS0 xs q)
    | _ => ntC xs (ac1 xs q)) := ⟨rfl⟩
  have hrp := pkV_range xs q (k := 12) (by omega)
  go_enter Try.func96, Try.ntmps96
  go_upto_region 1 with (fail)
  generalize hw : w.alloc _ = w1
  replace O := Aside0.mk (O.out.of hw).p1; clear hw
  generalize w.heap.size = g2 at O ⊢
  go_wp2_with fail
  refine (pick_c A c xs q g 12 O.out HX.out HB.out (by omega) (by omega) (by omega) (by omega)).mono ?_
  rintro e w2 ⟨rfl, hO⟩
  clear O; have O := Aside0.mk hO; clear hO
  rw [show pkC xs 12 q = ac1 xs q from rfl] at O
  have HP : Aside0 (acP xs q = pkV xs 12 q) := ⟨rfl⟩
  rw [← HP.out] at hrp ⊢
  generalize acP xs q = p at HK hrp ⊢
  clear HP
  by_cases h0 : p = 0
  · skip
    have hk : acK xs q = 0 := by rw [HK.out, if_pos h0]
    have hV := Aside0.mk HV.out; have hC := Aside0.mk HC.out
    rw [hk] at hV hC
    simp only at hV hC
    clear hk HK HV HC
    obtain ⟨E0, _⟩ := eqT h0
    clear h0
    have d0 := (blk_cell O.out.b1 0).trans rfl; have d1 := (blk_cell O.out.b1 1).trans rfl; have d2 := (blk_cell O.out.b1 2).trans rfl; have d3 := (blk_cell O.out.b1 3).trans rfl; have d4 := (blk_cell O.out.b1 4).trans rfl; have d5 := (blk_cell O.out.b1 5).trans rfl; have d6 := (blk_cell O.out.b1 6).trans rfl; have d7 := (blk_cell O.out.b1 7).trans rfl; have d8 := (blk_cell O.out.b1 8).trans rfl; have d9 := (blk_cell O.out.b1 9).trans rfl; have d10 := (blk_cell O.out.b1 10).trans rfl; have d11 := (blk_cell O.out.b1 11).trans rfl; have d12 := (blk_cell O.out.b1 12).trans rfl; have d13 := (blk_cell O.out.b1 13).trans rfl
    have z0 := blk_frozen O.out.b1 0; have z1 := blk_frozen O.out.b1 1; have z2 := blk_frozen O.out.b1 2; have z3 := blk_frozen O.out.b1 3; have z4 := blk_frozen O.out.b1 4; have z5 := blk_frozen O.out.b1 5; have z6 := blk_frozen O.out.b1 6; have z7 := blk_frozen O.out.b1 7; have z8 := blk_frozen O.out.b1 8; have z9 := blk_frozen O.out.b1 9; have z10 := blk_frozen O.out.b1 10; have z11 := blk_frozen O.out.b1 11; have z12 := blk_frozen O.out.b1 12; have z13 := blk_frozen O.out.b1 13
    go_wp2
    generalize hw : World.setCell _ _ _ = wR
    clear d0 d1 d2 d3 d4 d5 d6 d7 d8 d9 d10 d11 d12 d13 z0 z1 z2 z3 z4 z5 z6 z7 z8 z9 z10 z11 z12 z13
    have hw2 : setCells w2 g2 0 [.int .i64 2, .int .i64 0, .int .i64 0, .int .i64 0, .int .i64 0, .string { data := #[] }, .slice none 0 0, .int .i64 0, .int .i64 0, .int .i64 0, .int .i64 0, .string { data := #[] }, .int .i64 0, .int .i64 0] = wR := by simp only [setCells, Nat.reduceAdd]; exact hw
    clear hw
    have hec : setsA zero14 0 [.int .i64 2, .int .i64 0, .int .i64 0, .int .i64 0, .int .i64 0, .string { data := #[] }, .slice none 0 0, .int .i64 0, .int .i64 0, .int .i64 0, .int .i64 0, .string { data := #[] }, .int .i64 0, .int .i64 0] = #[.int .i64 2, .int .i64 0, .int .i64 0, .int .i64 0, .int .i64 0, .string { data := #[] }, .slice none 0 0, .int .i64 0, .int .i64 0, .int .i64 0, .int .i64 0, .string { data := #[] }, .int .i64 0, .int .i64 0] := by simp [setsA, zero14]
    replace O := Aside0.mk (O.out.p1.stm 0 _ hw2 _ hec); clear hw2 hec
    refine bodyPost_ret (results_cell_row rfl _ _ g2 38 #[.int .i64 2, .int .i64 0, .int .i64 0, .int .i64 0, .int .i64 0, .string { data := #[] }, .slice none 0 0, .int .i64 0, .int .i64 0, .int .i64 0, .int .i64 0, .string { data := #[] }, .int .i64 0, .int .i64 0] (0, 0) _ rfl O.out.b0 Try.underlying38 rfl (by kernel_rfl)) rfl ?_
    exact HQ.out _ _ ⟨.slice none 0 0, by rw [hV.out]; rfl, by rw [hV.out, hC.out]; exact O.out.drop.nilRow Rp.bool 4⟩
  by_cases h1 : p = 1
  · skip
    have hk : acK xs q = 0 := by rw [HK.out, if_neg h0, if_pos h1]
    have hV := Aside0.mk HV.out; have hC := Aside0.mk HC.out
    rw [hk] at hV hC
    simp only at hV hC
    clear hk HK HV HC
    obtain ⟨E0, _⟩ := eqF h0
    obtain ⟨E1, _⟩ := eqT h1
    clear h0 h1
    have d0 := (blk_cell O.out.b1 0).trans rfl; have d1 := (blk_cell O.out.b1 1).trans rfl; have d2 := (blk_cell O.out.b1 2).trans rfl; have d3 := (blk_cell O.out.b1 3).trans rfl; have d4 := (blk_cell O.out.b1 4).trans rfl; have d5 := (blk_cell O.out.b1 5).trans rfl; have d6 := (blk_cell O.out.b1 6).trans rfl; have d7 := (blk_cell O.out.b1 7).trans rfl; have d8 := (blk_cell O.out.b1 8).trans rfl; have d9 := (blk_cell O.out.b1 9).trans rfl; have d10 := (blk_cell O.out.b1 10).trans rfl; have d11 := (blk_cell O.out.b1 11).trans rfl; have d12 := (blk_cell O.out.b1 12).trans rfl; have d13 := (blk_cell O.out.b1 13).trans rfl
    have z0 := blk_frozen O.out.b1 0; have z1 := blk_frozen O.out.b1 1; have z2 := blk_frozen O.out.b1 2; have z3 := blk_frozen O.out.b1 3; have z4 := blk_frozen O.out.b1 4; have z5 := blk_frozen O.out.b1 5; have z6 := blk_frozen O.out.b1 6; have z7 := blk_frozen O.out.b1 7; have z8 := blk_frozen O.out.b1 8; have z9 := blk_frozen O.out.b1 9; have z10 := blk_frozen O.out.b1 10; have z11 := blk_frozen O.out.b1 11; have z12 := blk_frozen O.out.b1 12; have z13 := blk_frozen O.out.b1 13
    go_wp2
    generalize hw : World.setCell _ _ _ = wR
    clear d0 d1 d2 d3 d4 d5 d6 d7 d8 d9 d10 d11 d12 d13 z0 z1 z2 z3 z4 z5 z6 z7 z8 z9 z10 z11 z12 z13
    have hw2 : setCells w2 g2 0 [.int .i64 2, .int .i64 0, .int .i64 0, .int .i64 0, .int .i64 0, .string { data := #[] }, .slice none 0 0, .int .i64 0, .int .i64 0, .int .i64 0, .int .i64 0, .string { data := #[] }, .int .i64 0, .int .i64 0] = wR := by simp only [setCells, Nat.reduceAdd]; exact hw
    clear hw
    have hec : setsA zero14 0 [.int .i64 2, .int .i64 0, .int .i64 0, .int .i64 0, .int .i64 0, .string { data := #[] }, .slice none 0 0, .int .i64 0, .int .i64 0, .int .i64 0, .int .i64 0, .string { data := #[] }, .int .i64 0, .int .i64 0] = #[.int .i64 2, .int .i64 0, .int .i64 0, .int .i64 0, .int .i64 0, .string { data := #[] }, .slice none 0 0, .int .i64 0, .int .i64 0, .int .i64 0, .int .i64 0, .string { data := #[] }, .int .i64 0, .int .i64 0] := by simp [setsA, zero14]
    replace O := Aside0.mk (O.out.p1.stm 0 _ hw2 _ hec); clear hw2 hec
    refine bodyPost_ret (results_cell_row rfl _ _ g2 38 #[.int .i64 2, .int .i64 0, .int .i64 0, .int .i64 0, .int .i64 0, .string { data := #[] }, .slice none 0 0, .int .i64 0, .int .i64 0, .int .i64 0, .int .i64 0, .string { data := #[] }, .int .i64 0, .int .i64 0] (0, 0) _ rfl O.out.b0 Try.underlying38 rfl (by kernel_rfl)) rfl ?_
    exact HQ.out _ _ ⟨.slice none 0 0, by rw [hV.out]; rfl, by rw [hV.out, hC.out]; exact O.out.drop.nilRow Rp.bool 4⟩
  by_cases h2 : p = 2
  · skip
    have hk : acK xs q = 2 := by rw [HK.out, if_neg h0, if_neg h1, if_pos h2]
    have hV := Aside0.mk HV.out; have hC := Aside0.mk HC.out
    rw [hk] at hV hC
    simp only at hV hC
    clear hk HK HV HC
    obtain ⟨E0, _⟩ := eqF h0
    obtain ⟨E1, _⟩ := eqF h1
    obtain ⟨E2, _⟩ := eqT h2
    clear h0 h1 h2
    go_wp2_with fail
    refine (kept_c A c xs (ac1 xs q) g O.out HX.out HB.out (by omega) (by omega)).mono ?_
    rintro e w3 ⟨v, rfl, hO⟩
    clear O; have O := Aside0.mk hO; clear hO
    obtain ⟨kl, hkl⟩ : ∃ kl, kl = kpV xs (ac1 xs q) := ⟨_, rfl⟩
    rw [← hkl] at O hV
    clear hkl
    obtain ⟨Kv, kvc, rfl, _⟩ := O.out.f0
    have d0 := (blk_cell O.out.b2 0).trans rfl; have d1 := (blk_cell O.out.b2 1).trans rfl; have d2 := (blk_cell O.out.b2 2).trans rfl; have d3 := (blk_cell O.out.b2 3).trans rfl; have d4 := (blk_cell O.out.b2 4).trans rfl; have d5 := (blk_cell O.out.b2 5).trans rfl; have d6 := (blk_cell O.out.b2 6).trans rfl; have d7 := (blk_cell O.out.b2 7).trans rfl; have d8 := (blk_cell O.out.b2 8).trans rfl; have d9 := (blk_cell O.out.b2 9).trans rfl; have d10 := (blk_cell O.out.b2 10).trans rfl; have d11 := (blk_cell O.out.b2 11).trans rfl; have d12 := (blk_cell O.out.b2 12).trans rfl; have d13 := (blk_cell O.out.b2 13).trans rfl
    have z0 := blk_frozen O.out.b2 0; have z1 := blk_frozen O.out.b2 1; have z2 := blk_frozen O.out.b2 2; have z3 := blk_frozen O.out.b2 3; have z4 := blk_frozen O.out.b2 4; have z5 := blk_frozen O.out.b2 5; have z6 := blk_frozen O.out.b2 6; have z7 := blk_frozen O.out.b2 7; have z8 := blk_frozen O.out.b2 8; have z9 := blk_frozen O.out.b2 9; have z10 := blk_frozen O.out.b2 10; have z11 := blk_frozen O.out.b2 11; have z12 := blk_frozen O.out.b2 12; have z13 := blk_frozen O.out.b2 13
    go_wp2
    generalize hw : World.setCell _ _ _ = wR
    clear d0 d1 d2 d3 d4 d5 d6 d7 d8 d9 d10 d11 d12 d13 z0 z1 z2 z3 z4 z5 z6 z7 z8 z9 z10 z11 z12 z13
    have hw2 : setCells w3 g2 0 [.int .i64 3, .int .i64 0, .int .i64 0, .int .i64 0, .int .i64 0, .string { data := #[] }, .slice Kv kl.length kvc, .int .i64 0, .int .i64 0, .int .i64 0, .int .i64 0, .string { data := #[] }, .int .i64 0, .int .i64 0] = wR := by simp only [setCells, Nat.reduceAdd]; exact hw
    clear hw
    have hec : setsA zero14 0 [.int .i64 3, .int .i64 0, .int .i64 0, .int .i64 0, .int .i64 0, .string { data := #[] }, .slice Kv kl.length kvc, .int .i64 0, .int .i64 0, .int .i64 0, .int .i64 0, .string { data := #[] }, .int .i64 0, .int .i64 0] = #[.int .i64 3, .int .i64 0, .int .i64 0, .int .i64 0, .int .i64 0, .string { data := #[] }, .slice Kv kl.length kvc, .int .i64 0, .int .i64 0, .int .i64 0, .int .i64 0, .string { data := #[] }, .int .i64 0, .int .i64 0] := by simp [setsA, zero14]
    replace O := Aside0.mk (O.out.p2.stm 0 _ hw2 _ hec); clear hw2 hec
    refine bodyPost_ret (results_cell_row rfl _ _ g2 38 #[.int .i64 3, .int .i64 0, .int .i64 0, .int .i64 0, .int .i64 0, .string { data := #[] }, .slice Kv kl.length kvc, .int .i64 0, .int .i64 0, .int .i64 0, .int .i64 0, .string { data := #[] }, .int .i64 0, .int .i64 0] (0, 0) _ rfl O.out.b0 Try.underlying38 rfl (by kernel_rfl)) rfl ?_
    exact HQ.out _ _ ⟨.slice Kv kl.length kvc, by rw [hV.out]; rfl, by rw [hV.out, hC.out]; exact O.out.drop⟩
  by_cases h3 : p = 3
  · skip
    have hk : acK xs q = 3 := by rw [HK.out, if_neg h0, if_neg h1, if_neg h2, if_pos h3]
    have hV := Aside0.mk HV.out; have hC := Aside0.mk HC.out
    rw [hk] at hV hC
    simp only at hV hC
    clear hk HK HV HC
    obtain ⟨E0, _⟩ := eqF h0
    obtain ⟨E1, _⟩ := eqF h1
    obtain ⟨E2, _⟩ := eqF h2
    obtain ⟨E3, _⟩ := eqT h3
    clear h0 h1 h2 h3
    go_wp2_with fail
    refine (ask_c A c xs (ac1 xs q) g O.out HX.out HB.out (by omega) (by omega)).mono ?_
    rintro e w3 ⟨rfl, hO⟩
    clear O; have O := Aside0.mk hO; clear hO
    generalize akV xs (ac1 xs q) = aa at hV ⊢
    obtain ⟨a0, a1, a2, a3, a4⟩ := aa
    simp only [vN]
    have d0 := (blk_cell O.out.b1 0).trans rfl; have d1 := (blk_cell O.out.b1 1).trans rfl; have d2 := (blk_cell O.out.b1 2).trans rfl; have d3 := (blk_cell O.out.b1 3).trans rfl; have d4 := (blk_cell O.out.b1 4).trans rfl; have d5 := (blk_cell O.out.b1 5).trans rfl; have d6 := (blk_cell O.out.b1 6).trans rfl; have d7 := (blk_cell O.out.b1 7).trans rfl; have d8 := (blk_cell O.out.b1 8).trans rfl; have d9 := (blk_cell O.out.b1 9).trans rfl; have d10 := (blk_cell O.out.b1 10).trans rfl; have d11 := (blk_cell O.out.b1 11).trans rfl; have d12 := (blk_cell O.out.b1 12).trans rfl; have d13 := (blk_cell O.out.b1 13).trans rfl
    have z0 := blk_frozen O.out.b1 0; have z1 := blk_frozen O.out.b1 1; have z2 := blk_frozen O.out.b1 2; have z3 := blk_frozen O.out.b1 3; have z4 := blk_frozen O.out.b1 4; have z5 := blk_frozen O.out.b1 5; have z6 := blk_frozen O.out.b1 6; have z7 := blk_frozen O.out.b1 7; have z8 := blk_frozen O.out.b1 8; have z9 := blk_frozen O.out.b1 9; have z10 := blk_frozen O.out.b1 10; have z11 := blk_frozen O.out.b1 11; have z12 := blk_frozen O.out.b1 12; have z13 := blk_frozen O.out.b1 13
    go_wp2
    generalize hw : World.setCell _ _ _ = wR
    clear d0 d1 d2 d3 d4 d5 d6 d7 d8 d9 d10 d11 d12 d13 z0 z1 z2 z3 z4 z5 z6 z7 z8 z9 z10 z11 z12 z13
    have hw2 : setCells w3 g2 0 [.int .i64 4, .int .i64 0, .int .i64 0, .int .i64 0, .int .i64 0, .string { data := #[] }, .slice none 0 0, .int .i64 (a0), .int .i64 (a1), .int .i64 (a2), .int .i64 (a3), .string a4, .int .i64 0, .int .i64 0] = wR := by simp only [setCells, Nat.reduceAdd]; exact hw
    clear hw
    have hec : setsA zero14 0 [.int .i64 4, .int .i64 0, .int .i64 0, .int .i64 0, .int .i64 0, .string { data := #[] }, .slice none 0 0, .int .i64 (a0), .int .i64 (a1), .int .i64 (a2), .int .i64 (a3), .string a4, .int .i64 0, .int .i64 0] = #[.int .i64 4, .int .i64 0, .int .i64 0, .int .i64 0, .int .i64 0, .string { data := #[] }, .slice none 0 0, .int .i64 (a0), .int .i64 (a1), .int .i64 (a2), .int .i64 (a3), .string a4, .int .i64 0, .int .i64 0] := by simp [setsA, zero14]
    replace O := Aside0.mk (O.out.p1.stm 0 _ hw2 _ hec); clear hw2 hec
    refine bodyPost_ret (results_cell_row rfl _ _ g2 38 #[.int .i64 4, .int .i64 0, .int .i64 0, .int .i64 0, .int .i64 0, .string { data := #[] }, .slice none 0 0, .int .i64 (a0), .int .i64 (a1), .int .i64 (a2), .int .i64 (a3), .string a4, .int .i64 0, .int .i64 0] (0, 0) _ rfl O.out.b0 Try.underlying38 rfl (by kernel_rfl)) rfl ?_
    exact HQ.out _ _ ⟨.slice none 0 0, by rw [hV.out]; rfl, by rw [hV.out, hC.out]; exact O.out.drop.nilRow Rp.bool 4⟩
  by_cases h4 : p = 4
  · skip
    obtain ⟨E0, _⟩ := eqF h0
    obtain ⟨E1, _⟩ := eqF h1
    obtain ⟨E2, _⟩ := eqF h2
    obtain ⟨E3, _⟩ := eqF h3
    obtain ⟨E4, _⟩ := eqT h4
    go_wp2_with fail
    refine (pick_c A c xs (ac1 xs q) g 3 O.out HX.out HB.out (by omega) (by omega) (by omega) (by omega)).mono ?_
    rintro e w3 ⟨rfl, hO⟩
    clear O; have O := Aside0.mk hO; clear hO
    rw [show pkC xs 3 (ac1 xs q) = acS0 xs q from rfl] at O
    by_cases hs : pkV xs 3 (ac1 xs q) = 0
    · skip
      have hk : acK xs q = 4 := by rw [HK.out, if_neg h0, if_neg h1, if_neg h2, if_neg h3, if_pos h4, if_pos hs]
      have hV := Aside0.mk HV.out; have hC := Aside0.mk HC.out
      rw [hk] at hV hC
      simp only at hV hC
      clear hk HK HV HC
      obtain ⟨ES, _⟩ := eqT hs
      clear h0 h1 h2 h3 h4 hs
      have r1 := pkV_range xs (acS0 xs q) (k := 200) (by omega)
      have r2 := pkV_range xs (acS1 xs q) (k := 3) (by omega)
      have r3 := pkV_range xs (acS2 xs q) (k := 255) (by omega)
      go_wp2_with fail
      refine (pick_c A c xs (acS0 xs q) g 200 O.out HX.out HB.out (by omega) (by omega) (by omega) (by omega)).mono ?_
      rintro e w4 ⟨rfl, hO⟩
      clear O; have O := Aside0.mk hO; clear hO
      rw [show pkC xs 200 (acS0 xs q) = acS1 xs q from rfl] at O
      go_wp2_with fail
      refine (pick_c A c xs (acS1 xs q) g 3 O.out HX.out HB.out (by omega) (by omega) (by omega) (by omega)).mono ?_
      rintro e w5 ⟨rfl, hO⟩
      clear O; have O := Aside0.mk hO; clear hO
      rw [show pkC xs 3 (acS1 xs q) = acS2 xs q from rfl] at O
      have hmul : 0 ≤ pkV xs 200 (acS0 xs q) * (1 + pkV xs 3 (acS1 xs q)) ∧ pkV xs 200 (acS0 xs q) * (1 + pkV xs 3 (acS1 xs q)) ≤ 600 := by
        have c3 : pkV xs 3 (acS1 xs q) = 0 ∨ pkV xs 3 (acS1 xs q) = 1 ∨ pkV xs 3 (acS1 xs q) = 2 := by omega
        rcases c3 with e | e | e <;> rw [e] <;> omega
      go_wp2_with fail
      refine (pick_c A c xs (acS2 xs q) g 255 O.out HX.out HB.out (by omega) (by omega) (by omega) (by omega)).mono ?_
      rintro e w6 ⟨rfl, hO⟩
      clear O; have O := Aside0.mk hO; clear hO
      generalize pkV xs 200 (acS0 xs q) = v1 at hV r1 hmul ⊢
      generalize pkV xs 3 (acS1 xs q) = v2 at hV r2 hmul ⊢
      generalize pkV xs 255 (acS2 xs q) = v3 at hV r3 ⊢
      have d0 := (blk_cell O.out.b1 0).trans rfl; have d1 := (blk_cell O.out.b1 1).trans rfl; have d2 := (blk_cell O.out.b1 2).trans rfl; have d3 := (blk_cell O.out.b1 3).trans rfl; have d4 := (blk_cell O.out.b1 4).trans rfl; have d5 := (blk_cell O.out.b1 5).trans rfl; have d6 := (blk_cell O.out.b1 6).trans rfl; have d7 := (blk_cell O.out.b1 7).trans rfl; have d8 := (blk_cell O.out.b1 8).trans rfl; have d9 := (blk_cell O.out.b1 9).trans rfl; have d10 := (blk_cell O.out.b1 10).trans rfl; have d11 := (blk_cell O.out.b1 11).trans rfl; have d12 := (blk_cell O.out.b1 12).trans rfl; have d13 := (blk_cell O.out.b1 13).trans rfl
      have z0 := blk_frozen O.out.b1 0; have z1 := blk_frozen O.out.b1 1; have z2 := blk_frozen O.out.b1 2; have z3 := blk_frozen O.out.b1 3; have z4 := blk_frozen O.out.b1 4; have z5 := blk_frozen O.out.b1 5; have z6 := blk_frozen O.out.b1 6; have z7 := blk_frozen O.out.b1 7; have z8 := blk_frozen O.out.b1 8; have z9 := blk_frozen O.out.b1 9; have z10 := blk_frozen O.out.b1 10; have z11 := blk_frozen O.out.b1 11; have z12 := blk_frozen O.out.b1 12; have z13 := blk_frozen O.out.b1 13
      go_wp2
      generalize hw : World.setCell _ _ _ = wR
      clear d0 d1 d2 d3 d4 d5 d6 d7 d8 d9 d10 d11 d12 d13 z0 z1 z2 z3 z4 z5 z6 z7 z8 z9 z10 z11 z12 z13
      have hw2 : setCells w6 g2 0 [.int .i64 5, .int .i64 0, .int .i64 0, .int .i64 0, .int .i64 0, .string { data := #[] }, .slice none 0 0, .int .i64 0, .int .i64 0, .int .i64 0, .int .i64 0, .string { data := #[] }, .int .i64 (v1 * (1 + v2)), .int .i64 (1 + v3)] = wR := by simp only [setCells, Nat.reduceAdd]; exact hw
      clear hw
      have hec : setsA zero14 0 [.int .i64 5, .int .i64 0, .int .i64 0, .int .i64 0, .int .i64 0, .string { data := #[] }, .slice none 0 0, .int .i64 0, .int .i64 0, .int .i64 0, .int .i64 0, .string { data := #[] }, .int .i64 (v1 * (1 + v2)), .int .i64 (1 + v3)] = #[.int .i64 5, .int .i64 0, .int .i64 0, .int .i64 0, .int .i64 0, .string { data := #[] }, .slice none 0 0, .int .i64 0, .int .i64 0, .int .i64 0, .int .i64 0, .string { data := #[] }, .int .i64 (v1 * (1 + v2)), .int .i64 (1 + v3)] := by simp [setsA, zero14]
      replace O := Aside0.mk (O.out.p1.stm 0 _ hw2 _ hec); clear hw2 hec
      refine bodyPost_ret (results_cell_row rfl _ _ g2 38 #[.int .i64 5, .int .i64 0, .int .i64 0, .int .i64 0, .int .i64 0, .string { data := #[] }, .slice none 0 0, .int .i64 0, .int .i64 0, .int .i64 0, .int .i64 0, .string { data := #[] }, .int .i64 (v1 * (1 + v2)), .int .i64 (1 + v3)] (0, 0) _ rfl O.out.b0 Try.underlying38 rfl (by kernel_rfl)) rfl ?_
      exact HQ.out _ _ ⟨.slice none 0 0, by rw [hV.out]; rfl, by rw [hV.out, hC.out]; exact O.out.drop.nilRow Rp.bool 4⟩
    have hk : acK xs q = 5 := by rw [HK.out, if_neg h0, if_neg h1, if_neg h2, if_neg h3, if_pos h4, if_neg hs]
    have hV := Aside0.mk HV.out; have hC := Aside0.mk HC.out
    rw [hk] at hV hC
    simp only at hV hC
    clear hk HK HV HC
    obtain ⟨ES, _⟩ := eqF hs
    clear h0 h1 h2 h3 h4 hs
    go_wp2_with fail
    refine (note_c A c xs (acS0 xs q) g O.out HX.out HB.out (by omega) (by omega)).mono ?_
    rintro e w4 ⟨rfl, hO⟩
    clear O; have O := Aside0.mk hO; clear hO
    generalize ntV xs (acS0 xs q) = nn at hV ⊢
    obtain ⟨n0, n1, n2, n3, n4⟩ := nn
    simp only [vN]
    have d0 := (blk_cell O.out.b1 0).trans rfl; have d1 := (blk_cell O.out.b1 1).trans rfl; have d2 := (blk_cell O.out.b1 2).trans rfl; have d3 := (blk_cell O.out.b1 3).trans rfl; have d4 := (blk_cell O.out.b1 4).trans rfl; have d5 := (blk_cell O.out.b1 5).trans rfl; have d6 := (blk_cell O.out.b1 6).trans rfl; have d7 := (blk_cell O.out.b1 7).trans rfl; have d8 := (blk_cell O.out.b1 8).trans rfl; have d9 := (blk_cell O.out.b1 9).trans rfl; have d10 := (blk_cell O.out.b1 10).trans rfl; have d11 := (blk_cell O.out.b1 11).trans rfl; have d12 := (blk_cell O.out.b1 12).trans rfl; have d13 := (blk_cell O.out.b1 13).trans rfl
    have z0 := blk_frozen O.out.b1 0; have z1 := blk_frozen O.out.b1 1; have z2 := blk_frozen O.out.b1 2; have z3 := blk_frozen O.out.b1 3; have z4 := blk_frozen O.out.b1 4; have z5 := blk_frozen O.out.b1 5; have z6 := blk_frozen O.out.b1 6; have z7 := blk_frozen O.out.b1 7; have z8 := blk_frozen O.out.b1 8; have z9 := blk_frozen O.out.b1 9; have z10 := blk_frozen O.out.b1 10; have z11 := blk_frozen O.out.b1 11; have z12 := blk_frozen O.out.b1 12; have z13 := blk_frozen O.out.b1 13
    go_wp2
    generalize hw : World.setCell _ _ _ = wR
    clear d0 d1 d2 d3 d4 d5 d6 d7 d8 d9 d10 d11 d12 d13 z0 z1 z2 z3 z4 z5 z6 z7 z8 z9 z10 z11 z12 z13
    have hw2 : setCells w4 g2 0 [.int .i64 1, .int .i64 (n0), .int .i64 (n1), .int .i64 (n2), .int .i64 (n3), .string n4, .slice none 0 0, .int .i64 0, .int .i64 0, .int .i64 0, .int .i64 0, .string { data := #[] }, .int .i64 0, .int .i64 0] = wR := by simp only [setCells, Nat.reduceAdd]; exact hw
    clear hw
    have hec : setsA zero14 0 [.int .i64 1, .int .i64 (n0), .int .i64 (n1), .int .i64 (n2), .int .i64 (n3), .string n4, .slice none 0 0, .int .i64 0, .int .i64 0, .int .i64 0, .int .i64 0, .string { data := #[] }, .int .i64 0, .int .i64 0] = #[.int .i64 1, .int .i64 (n0), .int .i64 (n1), .int .i64 (n2), .int .i64 (n3), .string n4, .slice none 0 0, .int .i64 0, .int .i64 0, .int .i64 0, .int .i64 0, .string { data := #[] }, .int .i64 0, .int .i64 0] := by simp [setsA, zero14]
    replace O := Aside0.mk (O.out.p1.stm 0 _ hw2 _ hec); clear hw2 hec
    refine bodyPost_ret (results_cell_row rfl _ _ g2 38 #[.int .i64 1, .int .i64 (n0), .int .i64 (n1), .int .i64 (n2), .int .i64 (n3), .string n4, .slice none 0 0, .int .i64 0, .int .i64 0, .int .i64 0, .int .i64 0, .string { data := #[] }, .int .i64 0, .int .i64 0] (0, 0) _ rfl O.out.b0 Try.underlying38 rfl (by kernel_rfl)) rfl ?_
    exact HQ.out _ _ ⟨.slice none 0 0, by rw [hV.out]; rfl, by rw [hV.out, hC.out]; exact O.out.drop.nilRow Rp.bool 4⟩
  have hk : acK xs q = 6 := by rw [HK.out, if_neg h0, if_neg h1, if_neg h2, if_neg h3, if_neg h4]
  have hV := Aside0.mk HV.out; have hC := Aside0.mk HC.out
  rw [hk] at hV hC
  simp only at hV hC
  clear hk HK HV HC
  obtain ⟨E0, _⟩ := eqF h0
  obtain ⟨E1, _⟩ := eqF h1
  obtain ⟨E2, _⟩ := eqF h2
  obtain ⟨E3, _⟩ := eqF h3
  obtain ⟨E4, _⟩ := eqF h4
  clear h0 h1 h2 h3 h4
  go_wp2_with fail
  refine (note_c A c xs (ac1 xs q) g O.out HX.out HB.out (by omega) (by omega)).mono ?_
  rintro e w4 ⟨rfl, hO⟩
  clear O; have O := Aside0.mk hO; clear hO
  generalize ntV xs (ac1 xs q) = nn at hV ⊢
  obtain ⟨n0, n1, n2, n3, n4⟩ := nn
  simp only [vN]
  have d0 := (blk_cell O.out.b1 0).trans rfl; have d1 := (blk_cell O.out.b1 1).trans rfl; have d2 := (blk_cell O.out.b1 2).trans rfl; have d3 := (blk_cell O.out.b1 3).trans rfl; have d4 := (blk_cell O.out.b1 4).trans rfl; have d5 := (blk_cell O.out.b1 5).trans rfl; have d6 := (blk_cell O.out.b1 6).trans rfl; have d7 := (blk_cell O.out.b1 7).trans rfl; have d8 := (blk_cell O.out.b1 8).trans rfl; have d9 := (blk_cell O.out.b1 9).trans rfl; have d10 := (blk_cell O.out.b1 10).trans rfl; have d11 := (blk_cell O.out.b1 11).trans rfl; have d12 := (blk_cell O.out.b1 12).trans rfl; have d13 := (blk_cell O.out.b1 13).trans rfl
  have z0 := blk_frozen O.out.b1 0; have z1 := blk_frozen O.out.b1 1; have z2 := blk_frozen O.out.b1 2; have z3 := blk_frozen O.out.b1 3; have z4 := blk_frozen O.out.b1 4; have z5 := blk_frozen O.out.b1 5; have z6 := blk_frozen O.out.b1 6; have z7 := blk_frozen O.out.b1 7; have z8 := blk_frozen O.out.b1 8; have z9 := blk_frozen O.out.b1 9; have z10 := blk_frozen O.out.b1 10; have z11 := blk_frozen O.out.b1 11; have z12 := blk_frozen O.out.b1 12; have z13 := blk_frozen O.out.b1 13
  go_wp2
  generalize hw : World.setCell _ _ _ = wR
  clear d0 d1 d2 d3 d4 d5 d6 d7 d8 d9 d10 d11 d12 d13 z0 z1 z2 z3 z4 z5 z6 z7 z8 z9 z10 z11 z12 z13
  have hw2 : setCells w4 g2 0 [.int .i64 1, .int .i64 (n0), .int .i64 (n1), .int .i64 (n2), .int .i64 (n3), .string n4, .slice none 0 0, .int .i64 0, .int .i64 0, .int .i64 0, .int .i64 0, .string { data := #[] }, .int .i64 0, .int .i64 0] = wR := by simp only [setCells, Nat.reduceAdd]; exact hw
  clear hw
  have hec : setsA zero14 0 [.int .i64 1, .int .i64 (n0), .int .i64 (n1), .int .i64 (n2), .int .i64 (n3), .string n4, .slice none 0 0, .int .i64 0, .int .i64 0, .int .i64 0, .int .i64 0, .string { data := #[] }, .int .i64 0, .int .i64 0] = #[.int .i64 1, .int .i64 (n0), .int .i64 (n1), .int .i64 (n2), .int .i64 (n3), .string n4, .slice none 0 0, .int .i64 0, .int .i64 0, .int .i64 0, .int .i64 0, .string { data := #[] }, .int .i64 0, .int .i64 0] := by simp [setsA, zero14]
  replace O := Aside0.mk (O.out.p1.stm 0 _ hw2 _ hec); clear hw2 hec
  refine bodyPost_ret (results_cell_row rfl _ _ g2 38 #[.int .i64 1, .int .i64 (n0), .int .i64 (n1), .int .i64 (n2), .int .i64 (n3), .string n4, .slice none 0 0, .int .i64 0, .int .i64 0, .int .i64 0, .int .i64 0, .string { data := #[] }, .int .i64 0, .int .i64 0] (0, 0) _ rfl O.out.b0 Try.underlying38 rfl (by kernel_rfl)) rfl ?_
  exact HQ.out _ _ ⟨.slice none 0 0, by rw [hV.out]; rfl, by rw [hV.out, hC.out]; exact O.out.drop.nilRow Rp.bool 4⟩
end Go.Proofs.Ytocdlibnmlcokaa
namespace Go.Proofs.Ytocdlibnmlcokaa
open Go.RowKit Go.Proofs.YtocdlibnmlcokaaW.PrintWords Go.Proofs.YtocdlibnmlcokaaW.PrintLast
set_option linter.unusedVariables false
set_option linter.unusedSimpArgs false
def drP (xs : List Int) (q : Cu) : Int := pkV xs 20 (acC xs q)
def dr1 (xs : List Int) (q : Cu) : Cu := pkC xs 20 (acC xs q)
def dr2 (xs : List Int) (q : Cu) : Cu := pkC xs 7 (dr1 xs q)
def dr3 (xs : List Int) (q : Cu) : Cu := odC xs (dr2 xs q)
def dr4 (xs : List Int) (q : Cu) : Cu := pkC xs 4 (dr3 xs q)
def dr5 (xs : List Int) (q : Cu) : Cu := pkC xs 3 (dr4 xs q)
def drV (xs : List Int) (q : Cu) : Ac :=
  if drP xs q = 0 then ⟨pkV xs 7 (dr1 xs q), odV xs (dr2 xs q), (acV xs q).kept, (acV xs q).ask, pick4 (-1) 0 8191 8192 (pkV xs 4 (dr3 xs q)), pkV xs 3 (dr4 xs q) * 128⟩ else acV xs q
def drC (xs : List Int) (q : Cu) : Cu := if drP xs q = 0 then dr5 xs q else dr1 xs q
theorem dr_p (xs : List Int) (q : Cu) : (q.p ≤ (acC xs q).p ∧ (acC xs q).p ≤ q.p + 430) ∧ (q.p ≤ (dr1 xs q).p ∧ (dr1 xs q).p ≤ q.p + 432) ∧ (q.p ≤ (dr2 xs q).p ∧ (dr2 xs q).p ≤ q.p + 434) ∧ (q.p ≤ (dr3 xs q).p ∧ (dr3 xs q).p ≤ q.p + 862) ∧ (q.p ≤ (dr4 xs q).p ∧ (dr4 xs q).p ≤ q.p + 864) ∧ (q.p ≤ (drC xs q).p ∧ (drC xs q).p ≤ q.p + 866) := by
  obtain ⟨_, _, _, _, h0⟩ := ac_p xs q
  have h1 : (acC xs q).p ≤ (dr1 xs q).p ∧ (dr1 xs q).p ≤ (acC xs q).p + 2 := pkC_p xs 20 _
  have h2 : (dr1 xs q).p ≤ (dr2 xs q).p ∧ (dr2 xs q).p ≤ (dr1 xs q).p + 2 := pkC_p xs 7 _
  obtain ⟨_, _, h3⟩ := od_p xs (dr2 xs q)
  have h3 : (dr2 xs q).p ≤ (dr3 xs q).p ∧ (dr3 xs q).p ≤ (dr2 xs q).p + 428 := h3
  have h4 : (dr3 xs q).p ≤ (dr4 xs q).p ∧ (dr4 xs q).p ≤ (dr3 xs q).p + 2 := pkC_p xs 4 _
  have h5 : (dr4 xs q).p ≤ (dr5 xs q).p ∧ (dr5 xs q).p ≤ (dr4 xs q).p + 2 := pkC_p xs 3 _
  refine ⟨by omega, by omega, by omega, by omega, by omega, ?_⟩
  unfold drC
  split <;> omega
def AcSm (x : Ac) : Prop := x.note.text.size ≤ 4000 ∧ x.ask.text.size ≤ 4000 ∧ x.kept.length ≤ 4000
theorem drV_sm (xs : List Int) (q : Cu) : AcSm (drV xs q) := by
  have a := acV_tx xs q
  have b := odV_text xs (dr2 xs q)
  unfold drV
  split
  · exact ⟨b, a.2.1, a.2.2⟩
  · exact a
def drL (xs : List Int) : Nat → Cu → List Ac
  | 0, _ => []
  | k + 1, q => drV xs q :: drL xs k (drC xs q)
def drQ (xs : List Int) : Nat → Cu → Cu
  | 0, q => q
  | k + 1, q => drQ xs k (drC xs q)
theorem drL_sm (xs : List Int) : ∀ k q, ∀ x ∈ drL xs k q, AcSm x
  | 0, _, x, h => by simp [drL] at h
  | k + 1, q, x, h => by
    simp only [drL] at h
    rcases List.mem_cons.1 h with rfl | h
    · exact drV_sm xs q
    · exact drL_sm xs k _ x h
def drN (xs : List Int) : Nat := (pkV xs 16 cu0).toNat
def drA (xs : List Int) : List Ac := drL xs (drN xs) (pkC xs 16 cu0)
def drE (xs : List Int) : Cu := drQ xs (drN xs) (pkC xs 16 cu0)
def drB (xs : List Int) : List Ac := if pkV xs 30 (drE xs) = 0 then drA xs ++ [⟨3, zN, List.replicate (200 + pkV xs 2 (pkC xs 30 (drE xs))).toNat false, zN, 0, 0⟩] else drA xs
def drF (xs : List Int) : Cu := if pkV xs 30 (drE xs) = 0 then pkC xs 2 (pkC xs 30 (drE xs)) else pkC xs 30 (drE xs)
def drawOf (xs : List Int) : List Ac := if pkV xs 60 (drF xs) = 0 then List.replicate (300 + pkV xs 2 (pkC xs 60 (drF xs))).toNat zAc else drB xs
theorem drawOf_sm (xs : List Int) : ∀ x ∈ drawOf xs, AcSm x := by
  have r := pkV_range xs (pkC xs 30 (drE xs)) (k := 2) (by omega)
  have hz : AcSm zAc := by refine ⟨?_, ?_, ?_⟩ <;> decide
  intro x hx
  unfold drawOf at hx
  split at hx
  · rw [List.eq_of_mem_replicate hx]; exact hz
  · unfold drB at hx
    split at hx
    · rcases List.mem_append.1 hx with hx | hx
      · exact drL_sm xs _ _ x hx
      · rw [List.mem_singleton] at hx
        subst hx
        exact ⟨hz.1, hz.2.1, by simp only [List.length_replicate]; omega⟩
    · exact drL_sm xs _ _ x hx
set_option maxHeartbeats 8000000 in
set_option maxRecDepth 100000 in
theorem drawRun_c (A : Option Addr) (c : Nat) (xs : List Int) (w : World) (hx : kB.C w A xs.length xs) (hb : BsOk xs) :
    Calls Try.prog 21 #[.slice A xs.length c] w (GotRow rAc 38 w (drawOf xs)) := by
  suffices H : ∀ Q : Ending → World → Prop, (∀ e w', GotRow rAc 38 w (drawOf xs) e w' → Q e w') → Calls Try.prog 21 #[.slice A xs.length c] w Q from H _ (fun e w' h => h)
  intro Q hQ
  have HB := Aside0.mk hb; have HX := Aside0.mk hx; have HQ := Aside0.mk hQ; clear hb hx hQ
  have r1 := pkV_range xs cu0 (k := 16) (by omega)
  have p1 : 0 ≤ (pkC xs 16 cu0).p ∧ (pkC xs 16 cu0).p ≤ 2 := pkC_p xs 16 cu0
  obtain ⟨n, hn⟩ : ∃ n : Nat, (n : Int) = pkV xs 16 cu0 := ⟨(pkV xs 16 cu0).toNat, by omega⟩
  have HA : Aside0 (drA xs = drL xs n (pkC xs 16 cu0) ∧ drE xs = drQ xs n (pkC xs 16 cu0)) := ⟨by unfold drA drE drN; rw [show (pkV xs 16 cu0).toNat = n by omega]; exact ⟨rfl, rfl⟩⟩
  have hn15 : n ≤ 15 := by omega
  go_enter Try.func21, Try.ntmps21
  go_upto_region 2 with (fail)
  generalize hw : w.alloc _ = w1
  have O := Aside0.mk ((Own.nil w).of hw); clear hw
  generalize w.heap.size = g at O ⊢
  go_upto_region 3 with (fail)
  go_wp2_with fail
  refine (pick_c A c xs cu0 g 16 O.out HX.out HB.out (by show (0:Int) ≤ 0; omega) (by show (0:Int) ≤ _; omega) (by omega) (by omega)).mono ?_
  rintro e w2 ⟨rfl, hO⟩
  clear O; have O := Aside0.mk (hO.nilRow rAc 38); clear hO
  rw [← hn]
  clear hn r1
  generalize pkC xs 16 cu0 = q1 at HA O p1
  go_wp2
  go_loopg [4, 5] (n + 1) (fun m vr vi wr => ∃ (j : Nat) (ys : List Ac) (q : Cu), vi = .int .i64 j ∧ Aside0 (j ≤ n ∧ j + 1 ≤ m ∧ ys.length + j = n ∧ 0 ≤ q.p ∧ q.p + 866 * j ≤ 20000) ∧ Aside0 (drA xs = ys ++ drL xs j q ∧ drE xs = drQ xs j q) ∧ Aside0 (Own w wr [Rs.row rAc 38 vr ys, Rs.box g 123 (cuB A xs.length c q)]))
  case atStart => exact ⟨n, [], q1, rfl, ⟨by omega, by omega, by simp, by omega, by omega⟩, HA, O⟩
  case round =>
    clear O HA
    obtain ⟨j, ys, q, rfl, HJ, HA, O⟩ := hrel
    obtain ⟨Po, pc, rfl, _⟩ := O.out.f0
    cases j with
    | zero =>
      have hyl : ys.length ≤ 15 := by have := HJ.out; omega
      have HA2 : Aside0 (drA xs = ys ∧ drE xs = q) := ⟨by rw [HA.out.1]; simp [drL], HA.out.2⟩
      have hq := HJ.out
      clear HA
      have HDB : Aside0 (drB xs = if pkV xs 30 q = 0 then ys ++ [⟨3, zN, List.replicate (200 + pkV xs 2 (pkC xs 30 q)).toNat false, zN, 0, 0⟩] else ys) := ⟨by unfold drB; rw [HA2.out.1, HA2.out.2]⟩
      have HDF : Aside0 (drF xs = if pkV xs 30 q = 0 then pkC xs 2 (pkC xs 30 q) else pkC xs 30 q) := ⟨by unfold drF; rw [HA2.out.2]⟩
      rename_i Ka hKa J_ Kb hJ_ hKb hr_
      have HKa := Aside0.mk hKa; clear hKa
      go_wp2
      refine HKa.out _ _ ?_
      clear HKa
      go_step
      obtain ⟨BB, hBB⟩ : ∃ BB, BB = drB xs := ⟨_, rfl⟩
      obtain ⟨FF, hFF⟩ : ∃ FF, FF = drF xs := ⟨_, rfl⟩
      rw [← hBB] at HDB
      rw [← hFF] at HDF
      have HR0 : Aside0 (drawOf xs = if pkV xs 60 FF = 0 then List.replicate (300 + pkV xs 2 (pkC xs 60 FF)).toNat zAc else BB) := ⟨by rw [hFF, hBB]; rfl⟩
      clear hBB hFF HA2
      replace O := Aside0.mk O.out.p1
      go_cut [4] from 41 (fun v4 wc => ∃ (Qn : Option Addr) (Qc : Nat), v4 = .slice Qn BB.length Qc ∧ Aside0 (0 ≤ FF.p ∧ FF.p ≤ 30000) ∧ Aside0 (Own w wc [Rs.box g 123 (cuB A xs.length c FF), Rs.row rAc 38 (.slice Qn BB.length Qc) BB]))
      case first =>
        have p1 := pkC_p xs 30 q
        go_wp2_with fail
        refine (pick_c A c xs q g 30 O.out HX.out HB.out (by omega) (by omega) (by omega) (by omega)).mono ?_
        rintro e w3 ⟨rfl, hO⟩
        clear O; have O := Aside0.mk hO; clear hO
        by_cases h30 : pkV xs 30 q = 0
        · have hB := HDB.out; have hF := HDF.out
          rw [if_pos h30] at hB hF
          obtain ⟨E0, _⟩ := eqT h30
          clear h30 HDB HDF
          have HDB := Aside0.mk hB; have HDF := Aside0.mk hF; clear hB hF
          generalize pkC xs 30 q = q3 at HDB HDF O p1
          have p2 := pkC_p xs 2 q3
          have r2 := pkV_range xs q3 (k := 2) (by omega)
          have HFB : Aside0 (0 ≤ FF.p ∧ FF.p ≤ 30000) := ⟨by rw [HDF.out]; omega⟩
          go_wp2_with fail
          refine (pick_c A c xs q3 g 2 O.out HX.out HB.out (by omega) (by omega) (by omega) (by omega)).mono ?_
          rintro e w4 ⟨rfl, hO⟩
          clear O; have O := Aside0.mk hO; clear hO
          rw [← HDF.out] at O
          generalize pkV xs 2 q3 = v at HDB r2 ⊢
          go_wp2_with (first
            | ((with_reducible refine gate_dst (N := 48) rfl ?_); refine Own.mk_row Rp.bool rfl (N := 48) rfl 34 4 _ _ rfl (200 + v) rfl rfl Try.underlying34 (.bool false) 1 info4 rfl (by decide) (by omega) false (fun _ => ⟨rfl, rfl⟩) (by omega) (by omega) O.out ?_; intro gm wm hO; have O2 := Aside0.mk hO; clear hO O)
            | (at_builtin; go_loud (refine Own.app_one rAc rfl (.tmp 44) (.tmp 50) 23 38 (.agg #[.int .i64 0, .int .i64 0, .int .i64 0, .int .i64 0, .int .i64 0, .string { data := #[] }, .slice none 0 0, .int .i64 0, .int .i64 0, .int .i64 0, .int .i64 0, .string { data := #[] }, .int .i64 0, .int .i64 0]) 144 rfl Try.underlying23 info38 rfl (by decide) (by decide) (.slice Po ys.length pc) ys (⟨3, zN, List.replicate (200 + v).toNat false, zN, 0, 0⟩ : Ac) _ rfl rfl (O2.out.as (R := Rs.cel rAc (cAc (⟨3, zN, List.replicate (200 + v).toNat false, zN, 0, 0⟩ : Ac) (.slice (some ⟨gm, 0, none⟩) (200 + v).toNat (200 + v).toNat)) (⟨3, zN, List.replicate (200 + v).toNat false, zN, 0, 0⟩ : Ac)) (fun f hf => Ac_mk (⟨3, zN, List.replicate (200 + v).toNat false, zN, 0, 0⟩ : Ac) hf)).p2 (by omega) ?_); intro v5 w5 hX; have O5 := Aside0.mk hX; clear hX O2))
          rw [← HDB.out] at O5
          obtain ⟨Qn, Qc, rfl, _⟩ := O5.out.f0
          go_meet
          case rel => exact ⟨Qn, Qc, rfl, HFB, ⟨O5.out.p1⟩⟩
        · have hB := HDB.out; have hF := HDF.out
          rw [if_neg h30] at hB hF
          obtain ⟨E0, _⟩ := eqF h30
          clear h30 HDB HDF
          have HFB : Aside0 (0 ≤ FF.p ∧ FF.p ≤ 30000) := ⟨by rw [hF]; omega⟩
          rw [← hF] at O
          obtain rfl : ys = BB := hB.symm
          clear hF hB
          go_wp2
          go_meet
          case rel => exact ⟨Po, pc, rfl, HFB, O⟩
      case rest =>
        clear O
        obtain ⟨Qn, Qc, rfl, HFB, O⟩ := hcut
        rename_i K hK
        refine hK _ _ ?_
        clear hK K
        go_step
        have hfb := HFB.out
        have p1 := pkC_p xs 60 FF
        go_wp2_with fail
        refine (pick_c A c xs FF g 60 O.out HX.out HB.out (by omega) (by omega) (by omega) (by omega)).mono ?_
        rintro e w3 ⟨rfl, hO⟩
        clear O; have O := Aside0.mk hO; clear hO
        by_cases h60 : pkV xs 60 FF = 0
        · have hR := HR0.out
          rw [if_pos h60] at hR
          obtain ⟨E0, _⟩ := eqT h60
          clear h60 HR0
          have HR0 := Aside0.mk hR; clear hR
          generalize pkC xs 60 FF = q3 at HR0 O p1
          have r2 := pkV_range xs q3 (k := 2) (by omega)
          go_wp2_with fail
          refine (pick_c A c xs q3 g 2 O.out HX.out HB.out (by omega) (by omega) (by omega) (by omega)).mono ?_
          rintro e w4 ⟨rfl, hO⟩
          clear O; have O := Aside0.mk hO; clear hO
          generalize pkV xs 2 q3 = v at HR0 r2 ⊢
          go_wp2_with ((with_reducible refine gate_dst (N := 58) rfl ?_); refine Own.mk_row rAc rfl (N := 58) rfl 23 38 _ _ rfl (300 + v) rfl rfl Try.underlying23 (.agg #[.int .i64 0, .int .i64 0, .int .i64 0, .int .i64 0, .int .i64 0, .string { data := #[] }, .slice none 0 0, .int .i64 0, .int .i64 0, .int .i64 0, .int .i64 0, .string { data := #[] }, .int .i64 0, .int .i64 0]) 144 info38 rfl (by decide) (by omega) zAc (fun w => Ac_mk zAc (Rp.Row_nil Rp.bool 4 w)) (by omega) (by omega) O.out ?_; intro gm wm hO; have O2 := Aside0.mk hO; clear hO O)
          rw [← HR0.out] at O2
          obtain ⟨f, hf, hnd, hl2, hc⟩ := O2.out.take
          exact HQ.out _ _ ⟨_, rfl, ⟨f, hf, hnd, hl2⟩, O2.out.bel⟩
        · have hR := HR0.out
          rw [if_neg h60] at hR
          obtain ⟨E0, _⟩ := eqF h60
          clear h60 HR0
          have HR0 := Aside0.mk hR; clear hR
          go_wp2
          obtain ⟨f, hf, hnd, hl2, hc⟩ := O.out.p1.take
          exact HQ.out _ _ ⟨_, rfl, by rw [HR0.out]; exact ⟨f, hf, hnd, hl2⟩, O.out.bel⟩
    | succ j =>
      have hj := HJ.out
      obtain ⟨b0, b1, b2, b3, b4, b5⟩ := dr_p xs q
      go_upto_region 6 with (fail)
      rename_i Kq hKq
      have HKq := Aside0.mk hKq; clear hKq
      go_wp2_with fail
      refine (act_c A c xs q g O.out.p1 HX.out HB.out (by omega) (by omega)).mono ?_
      rintro e w3 ⟨v, rfl, hO⟩
      clear O; have O := Aside0.mk hO; clear hO
      have HV : Aside0 (drV xs q = if drP xs q = 0 then ⟨pkV xs 7 (dr1 xs q), odV xs (dr2 xs q), (acV xs q).kept, (acV xs q).ask, pick4 (-1) 0 8191 8192 (pkV xs 4 (dr3 xs q)), pkV xs 3 (dr4 xs q) * 128⟩ else acV xs q) := ⟨rfl⟩
      have HC : Aside0 (drC xs q = if drP xs q = 0 then dr5 xs q else dr1 xs q) := ⟨rfl⟩
      have HP : Aside0 (drP xs q = pkV xs 20 (acC xs q)) := ⟨rfl⟩
      generalize acV xs q = aa at HV O ⊢
      obtain ⟨y, hy⟩ : ∃ y, y = drV xs q := ⟨_, rfl⟩
      obtain ⟨CC, hCC⟩ : ∃ CC, CC = drC xs q := ⟨_, rfl⟩
      have HR2 : Aside0 (drA xs = (ys ++ [y]) ++ drL xs j CC ∧ drE xs = drQ xs j CC) := ⟨by rw [HA.out.1, hy, hCC]; simp [drL], by rw [HA.out.2, hCC]; rfl⟩
      rw [← hy] at HV
      rw [← hCC] at HC b5
      clear hy hCC HA
      obtain ⟨x0, ⟨n0, n1, n2, n3, n4⟩, kl, ⟨a0, a1, a2, a3, a4⟩, xp, xq⟩ := aa
      obtain ⟨y0, ⟨m0, m1, m2, m3, m4⟩, yl, ⟨e0, e1, e2, e3, e4⟩, yp, yq⟩ := y
      obtain ⟨Kv, kvc, rfl, _⟩ := O.out.f0
      simp only [vAc] at HV ⊢
      go_wp2
      generalize hw : World.alloc _ _ = w4
      replace O := Aside0.mk (O.out.of hw).p2; clear hw
      generalize w3.heap.size = g6 at O ⊢
      obtain rfl : kl = yl := by
        have h := HV.out
        by_cases hp : drP xs q = 0
        · rw [if_pos hp] at h; exact (congrArg Ac.kept h).symm
        · rw [if_neg hp] at h; exact (congrArg Ac.kept h).symm
      refine HKq.out _ _ ?_
      clear HKq Kq
      go_step
      go_cut [] from 12 to 40 (fun wc => Aside0 (Own w wc [Rs.box g 123 (cuB A xs.length c CC), Rs.box g6 38 #[.int .i64 y0, .int .i64 m0, .int .i64 m1, .int .i64 m2, .int .i64 m3, .string m4, .slice Kv kl.length kvc, .int .i64 e0, .int .i64 e1, .int .i64 e2, .int .i64 e3, .string e4, .int .i64 yp, .int .i64 yq], Rs.row Rp.bool 4 (.slice Kv kl.length kvc) kl, Rs.row rAc 38 (.slice Po ys.length pc) ys]))
      case first =>
        go_wp2_with fail
        refine (pick_c A c xs (acC xs q) g 20 O.out HX.out HB.out (by omega) (by omega) (by omega) (by omega)).mono ?_
        rintro e w5 ⟨rfl, hO⟩
        clear O; have O := Aside0.mk hO; clear hO
        rw [show pkC xs 20 (acC xs q) = dr1 xs q from rfl] at O
        rw [← HP.out]
        clear HP
        generalize drP xs q = p20 at HV HC ⊢
        by_cases hp : p20 = 0
        · have hV := HV.out; have hC := HC.out
          rw [if_pos hp] at hV hC
          clear HV HC
          have HV := Aside0.mk hV; have HC := Aside0.mk hC; clear hV hC
          obtain ⟨E0, _⟩ := eqT hp
          clear hp
          go_wp2_with fail
          refine (pick_c A c xs (dr1 xs q) g 7 O.out HX.out HB.out (by omega) (by omega) (by omega) (by omega)).mono ?_
          rintro e w6 ⟨rfl, hO⟩
          clear O; have O := Aside0.mk hO; clear hO
          rw [show pkC xs 7 (dr1 xs q) = dr2 xs q from rfl] at O
          generalize pkV xs 7 (dr1 xs q) = v7 at HV ⊢
          have c0 := (blk_cell O.out.b1 0).trans rfl; have z0 := blk_frozen O.out.b1 0
          go_upto_region 9 with (fail)
          generalize hw : World.setCell _ _ _ = w7
          replace O := Aside0.mk (O.out.p1.stm 0 [.int .i64 v7] hw #[.int .i64 v7, .int .i64 n0, .int .i64 n1, .int .i64 n2, .int .i64 n3, .string n4, .slice Kv kl.length kvc, .int .i64 a0, .int .i64 a1, .int .i64 a2, .int .i64 a3, .string a4, .int .i64 xp, .int .i64 xq] rfl).p1; clear hw c0 z0
          go_wp2_with fail
          refine (oddnote_c A c xs (dr2 xs q) g O.out HX.out HB.out (by omega) (by omega)).mono ?_
          rintro e w8 ⟨rfl, hO⟩
          clear O; have O := Aside0.mk hO; clear hO
          rw [show odC xs (dr2 xs q) = dr3 xs q from rfl] at O
          generalize odV xs (dr2 xs q) = on at HV ⊢
          obtain ⟨o0, o1, o2, o3, o4⟩ := on
          simp only [vN]
          have c1 := (blk_cell O.out.b1 1).trans rfl; have c2 := (blk_cell O.out.b1 2).trans rfl; have c3 := (blk_cell O.out.b1 3).trans rfl; have c4 := (blk_cell O.out.b1 4).trans rfl; have c5 := (blk_cell O.out.b1 5).trans rfl
          have z1 := blk_frozen O.out.b1 1; have z2 := blk_frozen O.out.b1 2; have z3 := blk_frozen O.out.b1 3; have z4 := blk_frozen O.out.b1 4; have z5 := blk_frozen O.out.b1 5
          go_upto_region 10 with (fail)
          generalize hw : World.setCell _ _ _ = w9
          replace O := Aside0.mk (O.out.p1.stm 1 [.int .i64 o0, .int .i64 o1, .int .i64 o2, .int .i64 o3, .string o4] hw #[.int .i64 v7, .int .i64 o0, .int .i64 o1, .int .i64 o2, .int .i64 o3, .string o4, .slice Kv kl.length kvc, .int .i64 a0, .int .i64 a1, .int .i64 a2, .int .i64 a3, .string a4, .int .i64 xp, .int .i64 xq] rfl).p1; clear hw c1 c2 c3 c4 c5 z1 z2 z3 z4 z5
          go_wp2_with fail
          refine (pick_c A c xs (dr3 xs q) g 4 (O.out.alloc _ _).p1 HX.out HB.out (by omega) (by omega) (by omega) (by omega)).mono ?_
          rintro e w10 ⟨rfl, hO⟩
          clear O; have O := Aside0.mk hO; clear hO
          rw [show pkC xs 4 (dr3 xs q) = dr4 xs q from rfl] at O
          have r4 := pkV_range xs (dr3 xs q) (k := 4) (by omega)
          obtain ⟨jv, hjv⟩ : ∃ jv : Nat, (jv : Int) = pkV xs 4 (dr3 xs q) := ⟨(pkV xs 4 (dr3 xs q)).toNat, by omega⟩
          rw [← hjv] at HV r4 ⊢
          clear hjv
          generalize w9.heap.size = gl at O ⊢
          have cl : w10.cell? ⟨gl, jv, none⟩ = some (.int .i64 (pick4 (-1) 0 8191 8192 (jv : Int))) := by
            have hj4 : jv = 0 ∨ jv = 1 ∨ jv = 2 ∨ jv = 3 := by omega
            rcases hj4 with rfl | rfl | rfl | rfl
            · exact (blk_cell O.out.b1 0).trans rfl
            · exact (blk_cell O.out.b1 1).trans rfl
            · exact (blk_cell O.out.b1 2).trans rfl
            · exact (blk_cell O.out.b1 3).trans rfl
          generalize pick4 (-1) 0 8191 8192 (jv : Int) = pv at HV cl
          have c12 := (blk_cell O.out.b2 12).trans rfl; have z12 := blk_frozen O.out.b2 12
          go_upto_region 11 with (fail)
          generalize hw : World.setCell _ _ _ = w11
          replace O := Aside0.mk (O.out.p2.stm 12 [.int .i64 pv] hw #[.int .i64 v7, .int .i64 o0, .int .i64 o1, .int .i64 o2, .int .i64 o3, .string o4, .slice Kv kl.length kvc, .int .i64 a0, .int .i64 a1, .int .i64 a2, .int .i64 a3, .string a4, .int .i64 pv, .int .i64 xq] rfl).p1.p2.drop; clear hw c12 z12 cl
          go_wp2_with fail
          refine (pick_c A c xs (dr4 xs q) g 3 O.out HX.out HB.out (by omega) (by omega) (by omega) (by omega)).mono ?_
          rintro e w12 ⟨rfl, hO⟩
          clear O; have O := Aside0.mk hO; clear hO
          rw [show pkC xs 3 (dr4 xs q) = dr5 xs q from rfl, ← HC.out] at O
          have r3 := pkV_range xs (dr4 xs q) (k := 3) (by omega)
          generalize pkV xs 3 (dr4 xs q) = v3 at HV r3 ⊢
          have c13 := (blk_cell O.out.b1 13).trans rfl; have z13 := blk_frozen O.out.b1 13
          go_wp2
          generalize hw : World.setCell _ _ _ = w13
          replace O := Aside0.mk (O.out.p1.stm 13 [.int .i64 (v3 * 128)] hw #[.int .i64 v7, .int .i64 o0, .int .i64 o1, .int .i64 o2, .int .i64 o3, .string o4, .slice Kv kl.length kvc, .int .i64 a0, .int .i64 a1, .int .i64 a2, .int .i64 a3, .string a4, .int .i64 pv, .int .i64 (v3 * 128)] rfl).p1; clear hw c13 z13
          go_meet
          case rel =>
            have hV := HV.out
            injection hV with i0 i1 i2 i3 i4 i5
            injection i1 with k0 k1 k2 k3 k4
            injection i3 with l0 l1 l2 l3 l4
            rw [i0, k0, k1, k2, k3, k4, l0, l1, l2, l3, l4, i4, i5]
            exact O
        · have hV := HV.out; have hC := HC.out
          rw [if_neg hp] at hV hC
          clear HV HC
          have HV := Aside0.mk hV; have HC := Aside0.mk hC; clear hV hC
          obtain ⟨E0, _⟩ := eqF hp
          clear hp
          rw [← HC.out] at O
          go_wp2
          go_meet
          case rel =>
            have hV := HV.out
            injection hV with i0 i1 i2 i3 i4 i5
            injection i1 with k0 k1 k2 k3 k4
            injection i3 with l0 l1 l2 l3 l4
            rw [i0, k0, k1, k2, k3, k4, l0, l1, l2, l3, l4, i4, i5]
            exact O
      case rest =>
        clear O HV HC HP
        have O := hcut; clear hcut
        rename_i K hK
        refine hK _ _ ?_
        clear hK K
        go_step
        have c0 := (blk_cell O.out.b1 0).trans rfl; have c1 := (blk_cell O.out.b1 1).trans rfl; have c2 := (blk_cell O.out.b1 2).trans rfl; have c3 := (blk_cell O.out.b1 3).trans rfl; have c4 := (blk_cell O.out.b1 4).trans rfl; have c5 := (blk_cell O.out.b1 5).trans rfl; have c6 := (blk_cell O.out.b1 6).trans rfl; have c7 := (blk_cell O.out.b1 7).trans rfl; have c8 := (blk_cell O.out.b1 8).trans rfl; have c9 := (blk_cell O.out.b1 9).trans rfl; have c10 := (blk_cell O.out.b1 10).trans rfl; have c11 := (blk_cell O.out.b1 11).trans rfl; have c12 := (blk_cell O.out.b1 12).trans rfl; have c13 := (blk_cell O.out.b1 13).trans rfl
        replace O := Aside0.mk (O.out.p2.as (R := Rs.cel rAc (cAc (⟨y0, ⟨m0, m1, m2, m3, m4⟩, kl, ⟨e0, e1, e2, e3, e4⟩, yp, yq⟩ : Ac) (.slice Kv kl.length kvc)) (⟨y0, ⟨m0, m1, m2, m3, m4⟩, kl, ⟨e0, e1, e2, e3, e4⟩, yp, yq⟩ : Ac)) (fun f hf => Ac_mk (⟨y0, ⟨m0, m1, m2, m3, m4⟩, kl, ⟨e0, e1, e2, e3, e4⟩, yp, yq⟩ : Ac) hf)).p3
        have hyl15 : ys.length ≤ 15 := by omega
        go_upto_region 5 with (at_builtin; go_loud (refine Own.app_one rAc rfl (.tmp 37) (.tmp 39) 23 38 (.agg #[.int .i64 0, .int .i64 0, .int .i64 0, .int .i64 0, .int .i64 0, .string { data := #[] }, .slice none 0 0, .int .i64 0, .int .i64 0, .int .i64 0, .int .i64 0, .string { data := #[] }, .int .i64 0, .int .i64 0]) 144 rfl Try.underlying23 info38 rfl (by decide) (by decide) (.slice Po ys.length pc) ys (⟨y0, ⟨m0, m1, m2, m3, m4⟩, kl, ⟨e0, e1, e2, e3, e4⟩, yp, yq⟩ : Ac) _ rfl rfl O.out (by omega) ?_); intro v5 w5 hX; have O5 := Aside0.mk hX; clear hX)
        clear O c0 c1 c2 c3 c4 c5 c6 c7 c8 c9 c10 c11 c12 c13
        replace O5 := Aside0.mk (Own.only [_, _] O5.out)
        go_wp2
        go_roundg (gk - 1)
        case measure => omega
        case rel => exact ⟨j, ys ++ [(⟨y0, ⟨m0, m1, m2, m3, m4⟩, kl, ⟨e0, e1, e2, e3, e4⟩, yp, yq⟩ : Ac)], CC, by first | rfl | (congr 1; omega), ⟨by omega, by omega, by rw [List.length_append]; simp; omega, by omega, by omega⟩, HR2, O5⟩
end Go.Proofs.Ytocdlibnmlcokaa
