/- copyDisk. -/
import Derived.Test.YtocdlibnmlcokaaA4
import Derived.Test.YtocdlibnmlcokaaAR
namespace Go.Proofs.Ytocdlibnmlcokaa
open Go.RowKit Go.Proofs.YtocdlibnmlcokaaW.PrintWords Go.Proofs.YtocdlibnmlcokaaW.PrintLast
set_option linter.unusedVariables false
set_option linter.unusedSimpArgs false
theorem info22 : (Try.prog.info? 22).map (fun i => (i.zero, i.size, i.bytes)) = some (some (.slice none 0 0), 1, 24) := by kernel_rfl
theorem info147 : (Try.prog.info? 147).map (fun i => (i.zero, i.size, i.bytes)) = some (some (.agg #[(.int .i64 0), (.slice none 0 0)]), 2, 32) := by kernel_rfl
def gBS (xs : List (List Int)) (i : Int) : List Int := xs.getD i.toNat []
structure Wr where
  block : Int
  bytes : List Int
def gW (xs : List Wr) (i : Int) : Wr := xs.getD i.toNat ⟨0, []⟩
abbrev rBS : Rp (List Int) := Rp.slice 5 rB
abbrev rW : Rp Wr := Rp.iso (Rp.pair (Rp.int .i64) rBS) (fun x => (x.block, x.bytes))
theorem at_BS {w : World} {A : Option Addr} {n : Nat} {xs : List (List Int)} (h : rBS.d.C w A n xs) (i : Int) (h0 : 0 ≤ i) (h1 : i < n) : ∃ ad A0 c0, A = some ad ∧ w.cell? (ad.add i.toNat) = some (.slice A0 (gBS xs i).length c0) ∧ (gBS xs i).length ≤ c0 ∧ kB.C w A0 (gBS xs i).length (gBS xs i) := by
  obtain ⟨ad, c, e, _, hK, hc0⟩ := Kd.C_get h ([] : List Int) i h0 h1
  have hc : ∀ j u, c[j]? = some u → w.cell? (ad.add (i.toNat * 1 + j)) = some u := hc0
  obtain ⟨A0, c0, rfl, l0, g0⟩ := hK
  exact ⟨ad, A0, c0, e, by have hq := hc 0 _ rfl; rwa [Nat.mul_one, Nat.add_zero] at hq, l0, g0⟩
theorem at_W {w : World} {A : Option Addr} {n : Nat} {xs : List Wr} (h : rW.d.C w A n xs) (i : Int) (h0 : 0 ≤ i) (h1 : i < n) : ∃ ad A1 c1, A = some ad ∧ w.cell? (ad.add (i.toNat * 2)) = some (.int .i64 (gW xs i).block) ∧ w.cell? ⟨(ad.add (i.toNat * 2)).block, (ad.add (i.toNat * 2)).off + 1, none⟩ = some (.slice A1 (gW xs i).bytes.length c1) ∧ (gW xs i).bytes.length ≤ c1 ∧ kB.C w A1 (gW xs i).bytes.length (gW xs i).bytes := by
  obtain ⟨ad, c, e, _, hK, hc0⟩ := Kd.C_get h (⟨0, []⟩ : Wr) i h0 h1
  have hc : ∀ j u, c[j]? = some u → w.cell? (ad.add (i.toNat * 2 + j)) = some u := hc0
  obtain ⟨_, _, rfl, rfl, ⟨A1, c1, rfl, l1, g1⟩⟩ := hK
  exact ⟨ad, A1, c1, e, hc 0 _ rfl, by rw [← add_field _ _ 1 (by omega)]; exact hc 1 _ rfl, l1, g1⟩
theorem W_mk {w : World} {v : Value} {fp : List Nat} (x : Wr) (h : rB.Row 5 w v x.bytes fp) : rW.P w x [.int .i64 x.block, v] fp := ⟨[.int .i64 x.block], [v], [], fp, rfl, rfl, ⟨rfl, rfl⟩, ⟨v, rfl, h⟩⟩
theorem W_open {w : World} {cs : List Value} {fp : List Nat} {x : Wr} (h : rW.P w x cs fp) : ∃ v, cs = [.int .i64 x.block, v] ∧ rB.Row 5 w v x.bytes fp := by
  obtain ⟨c0, c1, f0, f1, rfl, rfl, ⟨rfl, rfl⟩, ⟨v, rfl, h⟩⟩ := h
  exact ⟨v, rfl, h⟩
theorem take_snoc_g {xs : List (List Int)} {i : Int} (h : i.toNat < xs.length) : xs.take (i.toNat + 1) = xs.take i.toNat ++ [gBS xs i] := by
  rw [List.take_succ_eq_append_getElem h]; simp [gBS, List.getD_eq_getElem?_getD, h]
theorem take_snoc_w {xs : List Wr} {i : Int} (h : i.toNat < xs.length) : xs.take (i.toNat + 1) = xs.take i.toNat ++ [gW xs i] := by
  rw [List.take_succ_eq_append_getElem h]; simp [gW, List.getD_eq_getElem?_getD, h]
/-- A disk of the call's own is handed back. -/
def GotDisk (w : World) (bs : List (List Int)) (ws : List Wr) (e : Ending) (w' : World) : Prop :=
  ∃ v0 v1 f0 f1, e = .returned (.agg #[v0, v1]) ∧ rBS.Row 22 w' v0 bs f0 ∧ rW.Row 147 w' v1 ws f1 ∧ (f0 ++ f1).Nodup ∧ (∀ b ∈ f0 ++ f1, w.heap.size ≤ b) ∧ Below w.heap.size w w'
set_option maxHeartbeats 1000000 in
set_option maxRecDepth 100000 in
theorem copyDisk_c (A0 : Option Addr) (c0 : Nat) (bs : List (List Int)) (A1 : Option Addr) (c1 : Nat) (ws : List Wr) (w : World) (hb : rBS.d.C w A0 bs.length bs) (hw : rW.d.C w A1 ws.length ws)
    (hm : bs.length ≤ 1000) (hm1 : ws.length ≤ 1000) (hm2 : ∀ x ∈ bs, x.length ≤ 1000) (hm3 : ∀ x ∈ ws, x.bytes.length ≤ 1000) :
    Calls Try.prog 115 #[.agg #[.slice A0 bs.length c0, .slice A1 ws.length c1]] w (GotDisk w bs ws) := by
  have HX := Aside0.mk hb; have HY := Aside0.mk hw; clear hb hw
  have HM := Aside0.mk hm; have HM1 := Aside0.mk hm1; have HM2 := Aside0.mk hm2; have HM3 := Aside0.mk hm3; clear hm hm1 hm2 hm3
  go_enter Try.func115, Try.ntmps115
  go_wp2
  generalize hw1 : World.alloc (World.alloc (World.alloc w _) _) _ = w1
  obtain ⟨K1, K2, K3, hB, _⟩ := alloc3 hw1
  clear hw1
  have BK1 := Aside0.mk K1; have BK2 := Aside0.mk K2; have BK3 := Aside0.mk K3; have HB := Aside0.mk hB; clear K1 K2 K3 hB
  go_loopg [11] bs.length (fun k v wr => ∃ (i : Int) (u : Value) (f0 : List Nat), v = .int .i64 i ∧ Aside0 (0 ≤ i ∧ i ≤ bs.length ∧ bs.length - i.toNat ≤ k) ∧ Aside0 (rBS.Row 22 wr u (bs.take i.toNat) f0) ∧ Aside0 (f0.Nodup ∧ ∀ b ∈ f0, w.heap.size ≤ b)
     ∧ Aside0 (wr.heap[w.heap.size]? = some (Obj.cells #[Value.slice A0 bs.length c0, Value.slice A1 ws.length c1] 43)) ∧ Aside0 (wr.heap[w.heap.size + 1]? = some (Obj.cells #[Value.slice none 0 0, Value.slice none 0 0] 43)) ∧ Aside0 (wr.heap[w.heap.size + 1 + 1]? = some (Obj.cells #[u, Value.slice none 0 0] 43)) ∧ Aside0 (Below w.heap.size w wr))
  case atStart => exact ⟨0, _, [], rfl, ⟨by simp⟩, ⟨Rp.Row_nil _ _ _⟩, ⟨by simp⟩, BK1, BK2, BK3, HB⟩
  case round =>
    clear BK1 BK2 BK3 HB
    obtain ⟨i, u, f0, rfl, HI, HO, HF, BK1, BK2, BK3, HB⟩ := hrel
    by_cases h1 : i < (bs.length : Int)
    · have h0 : 0 ≤ i := HI.out.1
      obtain ⟨ad, Ai, ci, e1, hc1, hl1, hC1⟩ := at_BS (Kd.C_below HX.out HB.out) i h0 h1
      cases e1
      have HC1 := Aside0.mk hC1; have HL1 := Aside0.mk hl1; clear hC1 hl1
      go_wp2
      have HLi : Aside0 ((gBS bs i).length ≤ 1000) := ⟨by have := HM2.out; exact this _ (by unfold gBS; rw [List.getD_eq_getElem?_getD, List.getElem?_eq_getElem (by omega)]; simp)⟩
      refine sta (fun w' => w'.cell? ⟨w.heap.size + 1 + 1, 0, none⟩ = some u) [7] 8 ((blk_cell BK3.out 0).trans rfl) (fun hS => ?_)
      replace HO := Aside0.mk (Rp.Row_drew HO.out)
      replace HC1 := Aside0.mk (Kd.C_drew HC1.out)
      replace BK1 := Aside0.mk (blk_drew BK1.out)
      replace BK2 := Aside0.mk (blk_drew BK2.out)
      replace BK3 := Aside0.mk (blk_drew BK3.out)
      replace HB := Aside0.mk (below_drew HB.out)
      generalize wr.drew = wd at HO HC1 BK1 BK2 BK3 HB hS ⊢
      refine pu 0 1 ?_
      refine pu 2 5 ?_
      refine tk 1 7 hS ?_
      refine on 3 15 (fun K hK => ?_)
      refine ca (cp_c _ _ (gBS bs i) _ HC1.out (by have := HLi.out; omega)) Try.func114 ?_
      rintro e wa ⟨va_, rfl, ⟨fa, hra, hna, hfa⟩, hba⟩
      obtain ⟨Aa, ca_, rfl, _, _⟩ := Rp.Row_reads hra
      refine ⟨_, rfl, nx hK (pw_cell_below hba hS) (fun hS => ?_)⟩
      clear hK K
      refine on 4 31 (fun K hK => ?_)
      refine va ?_
      refine nx hK (pw_cell_below (below_alloc (Below.refl _ _) _) hS) (fun hS => ?_)
      clear hK K
      have HOa := Rp.Row_below HO.out hba
      have BKa := blk_below BK3.out hba
      refine on 5 63 (fun K hK => ?_)
      refine Rp.app_one_step rBS (by rfl) (.tmp 16) (.tmp 19) 40 22 (.slice none 0 0) 24 (by rfl) Try.underlying40 info22 rfl (by decide) (by omega) u (bs.take i.toNat) (gBS bs i) [.slice Aa (gBS bs i).length ca_] (by rfl) (by rfl) HOa ⟨_, rfl, hra⟩ (Rp.nodup_new HF.out.1 hna (Rp.Row_lt HO.out) hfa) (by have := HM.out; have := HI.out; simp; omega) ?_
      intro v1 w2 fp1 hr1 hn1 hf1 hg1
      generalize hL : List.take i.toNat bs ++ [gBS bs i] = L at hr1
      have HL := Aside0.mk hL; clear hL
      obtain ⟨Av, cv, rfl, _, _⟩ := Rp.Row_reads hr1
      obtain ⟨hr3, hk3, kp3⟩ := box_app HOa BKa (by decide) hg1 hr1 0
      have BKw := blk_grown BKa hg1 (Rp.Row_ne HOa (Rp.Row_not HOa BKa (by decide)))
      refine nx hK ((blk_cell BKw 0).trans rfl) (fun hS => ?_)
      clear hK K
      refine pu 6 127 ?_
      refine la 7 255 (fun K hK => ?_)
      have z := blk_frozen BKw 0
      refine st ?_
      refine nl hK (dn ?_)
      clear hK K z hS
      generalize w2.setCell _ _ = wf at hr3 hk3 kp3 ⊢
      have kp : Kp wd wf (f0 ++ [w.heap.size + 1 + 1]) := ((Kp.below hba).mono (by simp)).trans kp3 (fun b hb _ => hb)
      have BK1 := Aside0.mk (kp.blk BK1.out (by have := Rp.Row_not HO.out BK1.out (by decide); simp; exact ⟨this, by omega⟩))
      have BK2 := Aside0.mk (kp.blk BK2.out (by have := Rp.Row_not HO.out BK2.out (by decide); simp; exact this))
      have HB1 := Aside0.mk (kp.toBelow HB.out HB.out.size (fun b hb => by rcases List.mem_append.1 hb with h | h; exact HF.out.2 b h; simp at h; omega))
      have HF1 : Aside0 (fp1.Nodup ∧ ∀ b ∈ fp1, w.heap.size ≤ b) := ⟨hn1, fun b hb => by
        rcases hf1 b hb with h | h | h
        · exact HF.out.2 b h
        · have := hfa b h; have := HB.out.size; omega
        · have := hba.size; have := HB.out.size; omega⟩
      have HR1 := Aside0.mk hr3; have BK3 := Aside0.mk hk3
      clear hn1 hf1 hg1 hr1 hba hfa hna hra hr3 hk3 kp kp3 HOa BKa BKw HO HB
      go_wp2
      go_roundg (gk - 1)
      case measure => have := HI.out; omega
      case rel =>
        refine ⟨i + 1, _, fp1, ?_, ⟨by have := HI.out; omega, by have := HI.out; omega, by have := HI.out; omega⟩, ?_, HF1, BK1, BK2, BK3, HB1⟩
        · first | rfl | (rw [wrap_succ (by omega) (by have := HM.out; omega)])
        · have := HR1.out; rw [show (i + 1).toNat = i.toNat + 1 by omega]; exact ⟨by rw [take_snoc_g (by have := HI.out; omega), HL.out]; exact this⟩
    · have hi := HI.out
      have e1 : bs.take i.toNat = bs := List.take_of_length_le (by omega)
      replace HO := HO.out; rw [e1] at HO; replace HO := Aside0.mk HO
      clear e1 hi
      have c1_ := (blk_cell BK1.out 1).trans rfl
      go_wp2
      clear c1_
      obtain ⟨wo, hwo⟩ : ∃ wo : World, wo = wr := ⟨_, rfl⟩
      rw [← hwo] at HO BK1 BK2 BK3 HB
      rw [← hwo]
      clear hwo
      go_loopg [26] ws.length (fun k v wr => ∃ (i : Int) (u2 : Value) (f1 : List Nat), v = .int .i64 i ∧ Aside0 (0 ≤ i ∧ i ≤ ws.length ∧ ws.length - i.toNat ≤ k) ∧ Aside0 (rBS.Row 22 wr u bs f0) ∧ Aside0 (rW.Row 147 wr u2 (ws.take i.toNat) f1) ∧ Aside0 ((f0 ++ f1).Nodup ∧ ∀ b ∈ f0 ++ f1, w.heap.size ≤ b)
         ∧ Aside0 (wr.heap[w.heap.size]? = some (Obj.cells #[Value.slice A0 bs.length c0, Value.slice A1 ws.length c1] 43)) ∧ Aside0 (wr.heap[w.heap.size + 1]? = some (Obj.cells #[Value.slice none 0 0, Value.slice none 0 0] 43)) ∧ Aside0 (wr.heap[w.heap.size + 1 + 1]? = some (Obj.cells #[u, u2] 43)) ∧ Aside0 (Below w.heap.size w wr))
      case atStart => exact ⟨0, _, [], rfl, ⟨by simp⟩, HO, ⟨Rp.Row_nil _ _ _⟩, ⟨by simpa using HF.out⟩, BK1, BK2, BK3, HB⟩
      case round =>
        clear BK1 BK2 BK3 HB HO HF
        obtain ⟨i, u2, f1, rfl, HI, HO, HO2, HF, BK1, BK2, BK3, HB⟩ := hrel
        by_cases h1 : i < (ws.length : Int)
        · have h0 : 0 ≤ i := HI.out.1
          obtain ⟨ad, Ai, ci, e1, hc1, hc2, hl1, hC1⟩ := at_W (Kd.C_below HY.out HB.out) i h0 h1
          cases e1
          have HC1 := Aside0.mk hC1; have HL1 := Aside0.mk hl1; clear hC1 hl1
          go_wp2
          have HLi : Aside0 ((gW ws i).bytes.length ≤ 1000) := ⟨by have := HM3.out; exact this _ (by unfold gW; rw [List.getD_eq_getElem?_getD, List.getElem?_eq_getElem (by omega)]; simp)⟩
          have BKe := Aside0.mk (blk_new wr (Obj.cells #[Value.int IntKind.i64 (gW ws i).block, Value.slice Ai (gW ws i).bytes.length ci] 147))
          have HLo := Aside0.mk (Rp.Row_lt HO.out); have HLo2 := Aside0.mk (Rp.Row_lt HO2.out)
          have ne3 : w.heap.size + 1 + 1 < wr.heap.size := blk_lt BK3.out
          replace HO := Aside0.mk (Rp.Row_drew (Rp.Row_alloc HO.out (Obj.cells #[Value.int IntKind.i64 (gW ws i).block, Value.slice Ai (gW ws i).bytes.length ci] 147)))
          replace HO2 := Aside0.mk (Rp.Row_drew (Rp.Row_alloc HO2.out (Obj.cells #[Value.int IntKind.i64 (gW ws i).block, Value.slice Ai (gW ws i).bytes.length ci] 147)))
          replace HC1 := Aside0.mk (Kd.C_drew (Kd.C_alloc HC1.out (Obj.cells #[Value.int IntKind.i64 (gW ws i).block, Value.slice Ai (gW ws i).bytes.length ci] 147)))
          replace BKe := Aside0.mk (blk_drew BKe.out)
          replace BK1 := Aside0.mk (blk_drew (blk_alloc BK1.out (Obj.cells #[Value.int IntKind.i64 (gW ws i).block, Value.slice Ai (gW ws i).bytes.length ci] 147)))
          replace BK2 := Aside0.mk (blk_drew (blk_alloc BK2.out (Obj.cells #[Value.int IntKind.i64 (gW ws i).block, Value.slice Ai (gW ws i).bytes.length ci] 147)))
          replace BK3 := Aside0.mk (blk_drew (blk_alloc BK3.out (Obj.cells #[Value.int IntKind.i64 (gW ws i).block, Value.slice Ai (gW ws i).bytes.length ci] 147)))
          replace HB := Aside0.mk (below_drew (below_then HB.out HB.out.size (below_alloc (Below.refl _ wr) (Obj.cells #[Value.int IntKind.i64 (gW ws i).block, Value.slice Ai (gW ws i).bytes.length ci] 147))))
          clear hc1 hc2
          refine sta (fun w' => w'.cell? ⟨w.heap.size + 1 + 1, 1, none⟩ = some u2 ∧ w'.cell? ⟨wr.heap.size, 0, none⟩ = some (.int .i64 (gW ws i).block) ∧ w'.cell? ⟨wr.heap.size, 1, none⟩ = some (.slice Ai (gW ws i).bytes.length ci)) [11] 12 ⟨(blk_cell BK3.out 1).trans rfl, (blk_cell BKe.out 0).trans rfl, (blk_cell BKe.out 1).trans rfl⟩ (fun hS => ?_)
          generalize hwd : (wr.alloc _).drew = wd at HO HO2 HC1 BKe BK1 BK2 BK3 HB hS ⊢
          clear hwd
          generalize wr.heap.size = gb at HLo HLo2 ne3 BKe hS ⊢
          refine pu 0 1 ?_
          refine pu 2 5 ?_
          refine pu 4 21 ?_
          refine tk 1 23 hS ?_
          refine tk 3 31 hS ?_
          refine tk 5 63 hS ?_
          refine on 6 127 (fun K hK => ?_)
          refine ca (cp_c _ _ (gW ws i).bytes _ HC1.out (by have := HLi.out; omega)) Try.func114 ?_
          rintro e wa ⟨va_, rfl, ⟨fa, hra, hna, hfa⟩, hba⟩
          obtain ⟨Aa, ca_, rfl, _, _⟩ := Rp.Row_reads hra
          refine ⟨_, rfl, nx hK ⟨pw_cell_below hba hS.1, pw_cell_below hba hS.2.1, pw_cell_below hba hS.2.2⟩ (fun hS => ?_)⟩
          clear hK K
          have hSa := hS
          refine pu 7 255 ?_
          refine on 8 511 (fun K hK => ?_)
          refine va ?_
          refine nx hK ⟨pw_cell_below (below_alloc (Below.refl _ _) _) hS.1, pw_cell_below (below_alloc (Below.refl _ _) _) hS.2.1, pw_cell_below (below_alloc (Below.refl _ _) _) hS.2.2⟩ (fun hS => ?_)
          clear hK K
          have HOa := Rp.Row_below HO.out hba
          have HO2a := Rp.Row_below HO2.out hba
          have BKa := blk_below BK3.out hba
          have hnd := List.nodup_append.1 HF.out.1
          refine on 9 1023 (fun K hK => ?_)
          refine Rp.app_one_step rW (by rfl) (.tmp 31) (.tmp 38) 41 147 (.agg #[(.int .i64 0), (.slice none 0 0)]) 32 (by rfl) Try.underlying41 info147 rfl (by decide) (by omega) u2 (ws.take i.toNat) (⟨(gW ws i).block, (gW ws i).bytes⟩ : Wr) [.int .i64 (gW ws i).block, .slice Aa (gW ws i).bytes.length ca_] (by rfl) (by rfl) HO2a (W_mk ⟨(gW ws i).block, (gW ws i).bytes⟩ hra) (Rp.nodup_new hnd.2.1 hna (Rp.Row_lt HO2.out) hfa) (by have := HM1.out; have := HI.out; simp; omega) ?_
          intro v1 w2 fp1 hr1 hn1 hf1 hg1
          generalize hL : List.take i.toNat ws ++ [(⟨(gW ws i).block, (gW ws i).bytes⟩ : Wr)] = L at hr1
          have HL := Aside0.mk hL; clear hL
          obtain ⟨Av, cv, rfl, _, _⟩ := Rp.Row_reads hr1
          obtain ⟨hr3, hk3, kp3⟩ := box_app HO2a BKa (by decide) hg1 hr1 1
          have BKw := blk_grown BKa hg1 (Rp.Row_ne HO2a (Rp.Row_not HO2a BKa (by decide)))
          refine nx hK ?_ (fun hS => ?_)
          · refine ⟨(blk_cell BKw 1).trans rfl, hg1.cell hSa.2.1 ?_, hg1.cell hSa.2.2 ?_⟩
            · exact Rp.Row_ne HO2a (fun h => by have := HLo2.out gb h; omega)
            · exact Rp.Row_ne HO2a (fun h => by have := HLo2.out gb h; omega)
          clear hK K
          refine pu 10 2047 ?_
          refine la 11 4095 (fun K hK => ?_)
          have z := blk_frozen BKw 1
          refine st ?_
          refine nl hK (dn ?_)
          clear hK K z hS hSa
          generalize w2.setCell _ _ = wf at hr3 hk3 kp3 ⊢
          have kp : Kp wd wf (f1 ++ [w.heap.size + 1 + 1]) := ((Kp.below hba).mono (by simp)).trans kp3 (fun b hb _ => hb)
          have n1 := Rp.Row_not HO2.out BK1.out (by decide)
          have n2 := Rp.Row_not HO2.out BK2.out (by decide)
          have n3 := Rp.Row_not HO.out BK3.out (by decide)
          have BK1 := Aside0.mk (kp.blk BK1.out (by simp; exact ⟨n1, by omega⟩))
          have BK2 := Aside0.mk (kp.blk BK2.out (by simp; exact n2))
          have HO1 := Aside0.mk (kp.row HO.out (fun b hb hm => by
            rcases List.mem_append.1 hm with h | h
            · exact hnd.2.2 b hb b h rfl
            · simp at h; exact n3 (h ▸ hb)))
          have HB1 := Aside0.mk (kp.toBelow HB.out HB.out.size (fun b hb => by rcases List.mem_append.1 hb with h | h; exact HF.out.2 b (List.mem_append_right _ h); simp at h; omega))
          have HF1 : Aside0 ((f0 ++ fp1).Nodup ∧ ∀ b ∈ f0 ++ fp1, w.heap.size ≤ b) := ⟨List.nodup_append.2 ⟨hnd.1, hn1, fun a ha b hb he => by
              subst he
              have h5 := Rp.Row_lt HO.out a ha
              rcases hf1 a hb with h | h | h
              · exact hnd.2.2 a ha a h rfl
              · have := hfa a h; omega
              · have := hba.size; omega⟩, fun b hb => by
            rcases List.mem_append.1 hb with h | h
            · exact HF.out.2 b (List.mem_append_left _ h)
            rcases hf1 b h with h | h | h
            · exact HF.out.2 b (List.mem_append_right _ h)
            · have := hfa b h; have := HB.out.size; omega
            · have := hba.size; have := HB.out.size; omega⟩
          have HR1 := Aside0.mk hr3; have BK3 := Aside0.mk hk3
          clear hn1 hf1 hg1 hr1 hba hfa hna hra hr3 hk3 kp kp3 HOa HO2a BKa BKw HO HB n1 n2 n3 hnd
          go_wp2
          go_roundg (gk - 1)
          case measure => have := HI.out; omega
          case rel =>
            refine ⟨i + 1, _, fp1, ?_, ⟨by have := HI.out; omega, by have := HI.out; omega, by have := HI.out; omega⟩, HO1, ?_, HF1, BK1, BK2, BK3, HB1⟩
            · first | rfl | (rw [wrap_succ (by omega) (by have := HM1.out; omega)])
            · have := HR1.out; rw [show (i + 1).toNat = i.toNat + 1 by omega]; exact ⟨by rw [take_snoc_w (by have := HI.out; omega)]; rw [show [gW ws i] = [(⟨(gW ws i).block, (gW ws i).bytes⟩ : Wr)] from rfl, HL.out]; exact this⟩
        · have hi := HI.out
          have e1 : ws.take i.toNat = ws := List.take_of_length_le (by omega)
          replace HO2 := HO2.out; rw [e1] at HO2
          obtain ⟨Av, cv, rfl, _, _⟩ := Rp.Row_reads HO2
          obtain ⟨Au, cu, rfl, _, _⟩ := Rp.Row_reads HO.out
          clear e1 hi
          have c0_ := (blk_cell BK3.out 0).trans rfl
          have c1_ := (blk_cell BK3.out 1).trans rfl
          have c2_ := (blk_cell BK2.out 0).trans rfl
          have c3_ := (blk_cell BK2.out 1).trans rfl
          have z0_ := blk_frozen BK2.out 0
          have z1_ := blk_frozen BK2.out 1
          obtain ⟨K5, kp⟩ := set2 BK2.out (.slice Au bs.length cu) (.slice Av ws.length cv)
          have H2 := Aside0.mk HO2; clear HO2
          have K5 := Aside0.mk K5; have kp := Aside0.mk kp
          go_wp2
          refine bodyPost_ret (results_cell_row rfl _ _ (w.heap.size + 1) 43 #[.slice Au bs.length cu, .slice Av ws.length cv] (0, 0) _ rfl K5.out Try.underlying43 rfl (by kernel_rfl)) rfl ?_
          have n2 := Rp.Row_not HO.out BK2.out (by decide)
          have n3 := Rp.Row_not H2.out BK2.out (by decide)
          exact ⟨_, _, f0, f1, rfl, kp.out.row HO.out (fun b hb h => by simp at h; exact n2 (h ▸ hb)), kp.out.row H2.out (fun b hb h => by simp at h; exact n3 (h ▸ hb)), HF.out.1, HF.out.2, kp.out.toBelow HB.out HB.out.size (fun b hb => by simp at hb; omega)⟩
end Go.Proofs.Ytocdlibnmlcokaa
