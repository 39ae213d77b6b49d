/- The laws' own copies. -/
import Derived.Test.YtocdlibnmlcokaaA8
namespace Go.Proofs.Ytocdlibnmlcokaa
open Go.RowKit Go.Proofs.YtocdlibnmlcokaaW.PrintWords Go.Proofs.YtocdlibnmlcokaaW.PrintLast
set_option linter.unusedVariables false
set_option linter.unusedSimpArgs false
/-- A made row, filled up to i. -/
def fillTo {α : Type} (z : α) (xs : List α) (i : Nat) : List α := xs.take i ++ List.replicate (xs.length - i) z
theorem fillTo_len {α : Type} (z : α) (xs : List α) (i : Nat) (h : i ≤ xs.length) : (fillTo z xs i).length = xs.length := by
  simp only [fillTo, List.length_append, List.length_take, List.length_replicate]; omega
theorem fillTo_zero {α : Type} (z : α) (xs : List α) : fillTo z xs 0 = List.replicate xs.length z := by simp [fillTo]
theorem fillTo_end {α : Type} (z : α) (xs : List α) {i : Nat} (h : xs.length ≤ i) : fillTo z xs i = xs := by
  simp [fillTo, List.take_of_length_le h, Nat.sub_eq_zero_of_le h]
theorem fillTo_succ {α : Type} (z : α) (xs : List α) {i : Nat} (h : i < xs.length) : (fillTo z xs i).set i xs[i] = fillTo z xs (i + 1) := by
  have hl : (xs.take i).length = i := by rw [List.length_take]; omega
  unfold fillTo
  rw [List.set_append, hl, if_neg (by omega), Nat.sub_self, show xs.length - i = (xs.length - (i + 1)) + 1 by omega, List.replicate_succ, List.set_cons_zero, List.take_succ_eq_append_getElem h, List.append_assoc]
  rfl
def GotRow {α : Type} (r : Rp α) (e : Nat) (w : World) (xs : List α) (en : Ending) (w' : World) : Prop :=
  ∃ v, en = .returned v ∧ Rp.Got r e w.heap.size w' v xs ∧ Below w.heap.size w w'
set_option maxRecDepth 100000 in
set_option maxHeartbeats 1000000 in
theorem toByteS_c (A : Option Addr) (c : Nat) (xs : List Int) (w : World) (hx : kB.C w A xs.length xs) (hm : xs.length ≤ 10000000) :
    Calls Try.prog 53 #[.slice A xs.length c] w (GotRow rB 5 w xs) := by
  have HX := Aside0.mk hx; have HM := Aside0.mk hm; clear hx
  go_enter Try.func53, Try.ntmps53
  go_wp2_with ((with_reducible refine gate_dst (N := 7) rfl ?_); refine Rp.mk_row rB rfl (N := 7) rfl 22 5 _ _ rfl (xs.length : Int) rfl rfl Try.underlying22 (.int .u8 0) 1 info5 rfl (by decide) (by omega) 0 (fun _ => ⟨rfl, rfl⟩) (by omega) (by have := HM.out; omega) ?_; intro g w1 hg hr hb; have HG := Aside0.mk hg; have HR := Aside0.mk hr; have HB := Aside0.mk hb; clear hg hr hb)
  have hr0 := HR.out
  simp only [Int.toNat_natCast] at hr0
  rw [← fillTo_zero] at hr0
  replace HR := Aside0.mk hr0; clear hr0
  go_loopg [4] xs.length (fun m vi wr => ∃ i : Int, vi = .int .i64 i ∧ Aside0 (0 ≤ i ∧ i ≤ xs.length ∧ xs.length - i.toNat ≤ m) ∧ Aside0 (rB.Row 5 wr (.slice (some ⟨g, 0, none⟩) xs.length xs.length) (fillTo 0 xs i.toNat) [g]) ∧ Aside0 (Below w.heap.size w wr))
  case atStart => exact ⟨0, rfl, ⟨by simp⟩, HR, HB⟩
  case round =>
    clear HR HB
    obtain ⟨i, rfl, HI, HO, HB⟩ := hrel
    by_cases hlt : i < (xs.length : Int)
    · have hi0 : 0 ≤ i := HI.out.1
      obtain ⟨ad, hA, c1⟩ := Kd.at_int (Kd.C_below HX.out HB.out) i hi0 hlt
      cases hA
      obtain ⟨cs, f, hP, _, _, hg, hcell, hfr, _, hst⟩ := Rp.Row_elem HO.out (by simp) i.toNat (by rw [fillTo_len _ _ _ (by omega)]; omega)
      obtain ⟨hcs, hf⟩ := hP
      subst hcs; subst hf
      have e0 : i.toNat * rB.d.sz + 0 = i.toNat := Nat.mul_one _
      have c2 := hcell 0 _ rfl
      rw [e0] at c2
      have z1 := hfr i.toNat
      clear hcell hfr
      obtain ⟨fp', hr', _, _, he⟩ := hst 0 (.int .u8 (rd xs i)) (rd xs i) [] (by decide) ⟨rfl, rfl⟩ (by simp) (by simp) (.inl rfl)
      have he := he rfl
      subst he
      rw [e0, rd_eq (by omega), fillTo_succ _ _ (by omega), ← rd_eq (by omega)] at hr'
      have HO' := Aside0.mk hr'
      have hb' := HB.out.setCell (p := ⟨g, i.toNat, none⟩) (by rw [HG.out]; exact Nat.le_refl _) (.int .u8 (rd xs i))
      have HB' := Aside0.mk hb'
      clear hst hr' e0 hg hb'
      go_wp2
      go_roundg (gk - 1)
      case measure => have := HI.out; omega
      case rel => exact ⟨i + 1, rfl, ⟨by have := HI.out; omega, by have := HI.out; omega, by have := HI.out; omega⟩, by rw [show (i + 1).toNat = i.toNat + 1 by omega]; exact HO', HB'⟩
    · have e1 := fillTo_end 0 xs (i := i.toNat) (by have := HI.out; omega)
      replace HO := HO.out; rw [e1] at HO
      have HO := Aside0.mk HO
      clear e1
      go_wp2
      go_ret
      exact ⟨_, rfl, ⟨[g], HO.out, by simp, fun b hb => by simp at hb; have := HG.out; omega⟩, HB.out⟩
set_option maxRecDepth 100000 in
set_option maxHeartbeats 1000000 in
theorem toByteSS_c (A : Option Addr) (c : Nat) (xs : List (List Int)) (w : World) (hx : rBS.d.C w A xs.length xs) (hm : xs.length ≤ 10000000) (hm2 : ∀ x ∈ xs, x.length ≤ 10000000) :
    Calls Try.prog 122 #[.slice A xs.length c] w (GotRow rBS 22 w xs) := by
  have HX := Aside0.mk hx; have HM := Aside0.mk hm; have HM2 := Aside0.mk hm2; clear hx hm2
  go_enter Try.func122, Try.ntmps122
  go_wp2_with ((with_reducible refine gate_dst (N := 7) rfl ?_); refine Rp.mk_row rBS rfl (N := 7) rfl 40 22 _ _ rfl (xs.length : Int) rfl rfl Try.underlying40 (.slice none 0 0) 24 info22 rfl (by decide) (by omega) [] (fun w => ⟨_, rfl, Rp.Row_nil rB 5 w⟩) (by omega) (by have := HM.out; omega) ?_; intro g w1 hg hr hb; have HG := Aside0.mk hg; have HR := Aside0.mk hr; have HB := Aside0.mk hb; clear hg hr hb)
  have hr0 := HR.out
  simp only [Int.toNat_natCast] at hr0
  rw [← fillTo_zero] at hr0
  replace HR := Aside0.mk hr0; clear hr0
  go_loopg [4] xs.length (fun m vi wr => ∃ (i : Int) (fp : List Nat), vi = .int .i64 i ∧ Aside0 (0 ≤ i ∧ i ≤ xs.length ∧ xs.length - i.toNat ≤ m) ∧ Aside0 (rBS.Row 22 wr (.slice (some ⟨g, 0, none⟩) xs.length xs.length) (fillTo [] xs i.toNat) fp) ∧ Aside0 (fp.Nodup ∧ ∀ b ∈ fp, w.heap.size ≤ b) ∧ Aside0 (Below w.heap.size w wr))
  case atStart => exact ⟨0, [g], rfl, ⟨by simp⟩, HR, ⟨by simp, fun b hb => by simp at hb; have := HG.out; omega⟩, HB⟩
  case round =>
    clear HR HB
    obtain ⟨i, fp, rfl, HI, HO, HF, HB⟩ := hrel
    by_cases hlt : i < (xs.length : Int)
    · have hi0 : 0 ≤ i := HI.out.1
      obtain ⟨ad, A0, c0, hA, c1, _, hC⟩ := at_BS (Kd.C_below HX.out HB.out) i hi0 hlt
      cases hA
      have HC := Aside0.mk hC; clear hC
      have HLi : Aside0 ((gBS xs i).length ≤ 10000000) := ⟨by rw [gBS_eq (by omega)]; exact HM2.out _ (List.getElem_mem _)⟩
      go_wp2_with fail
      refine (toByteS_c _ _ (gBS xs i) _ HC.out HLi.out).mono ?_
      rintro e wa ⟨va, rfl, ⟨fa, hra, hna, hfa⟩, hba⟩
      obtain ⟨Aa, ca, rfl, _, _⟩ := Rp.Row_reads hra
      have HOa := Rp.Row_below HO.out hba
      have hltf := Rp.Row_lt HO.out
      obtain ⟨cs, f, hP, _, hff, hg, hcell, hfr, _, hst⟩ := Rp.Row_elem HOa HF.out.1 i.toNat (by rw [fillTo_len _ _ _ (by omega)]; omega)
      obtain ⟨v, rfl, _⟩ := hP
      have e0 : i.toNat * rBS.d.sz + 0 = i.toNat := Nat.mul_one _
      have c2 := hcell 0 _ rfl
      rw [e0] at c2
      have z1 := hfr i.toNat
      have hnot : ∀ b ∈ fa, b ∉ fp := fun b hb hm => by have := hfa b hb; have := hltf b hm; omega
      have hgw : w.heap.size ≤ g := HF.out.2 g hg
      have hga : g ∉ fa := fun h => hnot g h hg
      obtain ⟨fp', hr', hn', hf', _⟩ := hst 0 (.slice Aa (gBS xs i).length ca) (gBS xs i) fa (by decide) ⟨_, rfl, Rp.Row_far hra (p := ⟨g, i.toNat * rBS.d.sz + 0, none⟩) hga _⟩ hna (fun b hb => .inr (hnot b hb)) (.inr hnot)
      rw [e0] at hr'
      have hset : (fillTo [] xs i.toNat).set i.toNat (gBS xs i) = fillTo [] xs (i + 1).toNat := by rw [gBS_eq (by omega), fillTo_succ _ _ (by omega), show (i + 1).toNat = i.toNat + 1 by omega]
      rw [hset] at hr'
      have HO' := Aside0.mk hr'
      have HB' := Aside0.mk ((below_then HB.out HB.out.size hba).setCell (p := ⟨g, i.toNat, none⟩) hgw (.slice Aa (gBS xs i).length ca))
      have HF' : Aside0 (fp'.Nodup ∧ ∀ b ∈ fp', w.heap.size ≤ b) := ⟨hn', fun b hb => by
        rcases hf' b hb with h | h
        · exact HF.out.2 b h
        · have := hfa b h; have := HB.out.size; omega⟩
      clear hst hr' e0 hg hra hba hfa hna HOa hnot hgw hga hn' hf' hset hff hcell hfr hltf
      go_wp2
      go_roundg (gk - 1)
      case measure => have := HI.out; omega
      case rel => exact ⟨i + 1, fp', rfl, ⟨by have := HI.out; omega, by have := HI.out; omega, by have := HI.out; omega⟩, HO', HF', HB'⟩
    · have e1 := fillTo_end [] xs (i := i.toNat) (by have := HI.out; omega)
      replace HO := HO.out; rw [e1] at HO
      have HO := Aside0.mk HO
      clear e1
      go_wp2
      go_ret
      exact ⟨_, rfl, ⟨fp, HO.out, HF.out.1, HF.out.2⟩, HB.out⟩
def GotWr (w : World) (x : Wr) (e : Ending) (w' : World) : Prop :=
  ∃ v, e = .returned (.agg #[.int .i64 x.block, v]) ∧ Rp.Got rB 5 w.heap.size w' v x.bytes ∧ Below w.heap.size w w'
set_option maxRecDepth 100000 in
set_option maxHeartbeats 1000000 in
theorem toWrite_c (A : Option Addr) (c : Nat) (b : Int) (xs : List Int) (w : World) (hx : kB.C w A xs.length xs) (hm : xs.length ≤ 10000000) :
    Calls Try.prog 153 #[.agg #[.int .i64 b, .slice A xs.length c]] w (GotWr w ⟨b, xs⟩) := by
  have HX := Aside0.mk hx; have HM := Aside0.mk hm; clear hx
  go_enter Try.func153, Try.ntmps153
  go_wp2_with fail
  generalize hw1 : World.alloc (World.alloc (World.alloc w _) _) _ = w1
  obtain ⟨K1, K2, K3, hB, hs⟩ := alloc3 hw1
  clear hw1
  refine (toByteS_c _ _ xs _ (Kd.C_below HX.out hB) HM.out).mono ?_
  rintro e wa ⟨va, rfl, ⟨fa, hra, hna, hfa⟩, hba⟩
  obtain ⟨Aa, ca, rfl, _, _⟩ := Rp.Row_reads hra
  have K1 := blk_below K1 hba; have K2 := blk_below K2 hba; have K3 := blk_below K3 hba
  have n2 := Rp.Row_not hra K2 (by decide); have n3 := Rp.Row_not hra K3 (by decide)
  obtain ⟨J3, q3⟩ := set1 K3 1 (.slice Aa xs.length ca)
  have J2 := q3.blk K2 (by simp)
  obtain ⟨I2, q2⟩ := set2 J2 (.int .i64 b) (.slice Aa xs.length ca)
  have hr := q2.row (q3.row hra (fun x hx hm => n3 (by simp at hm; exact hm ▸ hx))) (fun x hx hm => n2 (by simp at hm; exact hm ▸ hx))
  have hb := q2.toBelow (q3.toBelow (below_then hB hB.size hba) (Nat.le_trans hB.size hba.size) (fun x hx => by simp at hx; omega)) (Nat.le_trans hB.size (Nat.le_trans hba.size q3.size)) (fun x hx => by simp at hx; omega)
  have c1 := (blk_cell K3 1).trans rfl; have z1 := blk_frozen K3 1
  have c2 := (blk_cell J3 0).trans rfl; have c3 := (blk_cell J3 1).trans rfl
  have d2 := (blk_cell J2 0).trans rfl; have d3 := (blk_cell J2 1).trans rfl
  have y2 := blk_frozen J2 0; have y3 := blk_frozen J2 1
  have HR := Aside0.mk hr; have HB := Aside0.mk hb; have II := Aside0.mk I2; have HN := Aside0.mk hna; have HF := Aside0.mk hfa; have HS := Aside0.mk hs; have hsz := Aside0.mk hB.size
  clear hr hb I2 hna hfa K1 K2 K3 n2 n3 J3 q3 J2 q2 hra hba hB hs
  go_wp2
  refine bodyPost_ret (results_cell_row rfl _ _ (w.heap.size + 1) 147 #[.int .i64 b, .slice Aa xs.length ca] (0, 0) _ rfl II.out Try.underlying147 rfl (by kernel_rfl)) rfl ?_
  exact ⟨_, rfl, ⟨fa, HR.out, HN.out, fun x hx => by have := HF.out x hx; have := HS.out; omega⟩, HB.out⟩
def zW : Wr := ⟨0, []⟩
set_option maxRecDepth 100000 in
set_option maxHeartbeats 1000000 in
theorem toWriteS_c (A : Option Addr) (c : Nat) (xs : List Wr) (w : World) (hx : rW.d.C w A xs.length xs) (hm : xs.length ≤ 10000000) (hm2 : ∀ x ∈ xs, x.bytes.length ≤ 10000000) :
    Calls Try.prog 123 #[.slice A xs.length c] w (GotRow rW 147 w xs) := by
  have HX := Aside0.mk hx; have HM := Aside0.mk hm; have HM2 := Aside0.mk hm2; clear hx hm2
  go_enter Try.func123, Try.ntmps123
  go_wp2_with ((with_reducible refine gate_dst (N := 7) rfl ?_); refine Rp.mk_row rW rfl (N := 7) rfl 41 147 _ _ rfl (xs.length : Int) rfl rfl Try.underlying41 (.agg #[(.int .i64 0), (.slice none 0 0)]) 32 info147 rfl (by decide) (by omega) zW (fun w => W_mk zW (Rp.Row_nil rB 5 w)) (by omega) (by have := HM.out; omega) ?_; intro g w1 hg hr hb; have HG := Aside0.mk hg; have HR := Aside0.mk hr; have HB := Aside0.mk hb; clear hg hr hb)
  have hr0 := HR.out
  simp only [Int.toNat_natCast] at hr0
  rw [← fillTo_zero] at hr0
  replace HR := Aside0.mk hr0; clear hr0
  go_loopg [4] xs.length (fun m vi wr => ∃ (i : Int) (fp : List Nat), vi = .int .i64 i ∧ Aside0 (0 ≤ i ∧ i ≤ xs.length ∧ xs.length - i.toNat ≤ m) ∧ Aside0 (rW.Row 147 wr (.slice (some ⟨g, 0, none⟩) xs.length xs.length) (fillTo zW xs i.toNat) fp) ∧ Aside0 (fp.Nodup ∧ ∀ b ∈ fp, w.heap.size ≤ b) ∧ Aside0 (Below w.heap.size w wr))
  case atStart => exact ⟨0, [g], rfl, ⟨by simp⟩, HR, ⟨by simp, fun b hb => by simp at hb; have := HG.out; omega⟩, HB⟩
  case round =>
    clear HR HB
    obtain ⟨i, fp, rfl, HI, HO, HF, HB⟩ := hrel
    by_cases hlt : i < (xs.length : Int)
    · have hi0 : 0 ≤ i := HI.out.1
      obtain ⟨ad, A0, c0, hA, c1, c1', _, hC⟩ := at_W (Kd.C_below HX.out HB.out) i hi0 hlt
      cases hA
      have HC := Aside0.mk hC; clear hC
      have HLi : Aside0 ((gW xs i).bytes.length ≤ 10000000) := ⟨by rw [gW_eq (by omega)]; exact HM2.out _ (List.getElem_mem _)⟩
      go_wp2_with fail
      refine (toWrite_c _ _ (gW xs i).block (gW xs i).bytes _ HC.out HLi.out).mono ?_
      rintro e wa ⟨va, rfl, ⟨fa, hra, hna, hfa⟩, hba⟩
      obtain ⟨Aa, ca, rfl, _, _⟩ := Rp.Row_reads hra
      have HOa := Rp.Row_below HO.out hba
      have hltf := Rp.Row_lt HO.out
      have hnot : ∀ b ∈ fa, b ∉ fp := fun b hb hm => by have := hfa b hb; have := hltf b hm; omega
      obtain ⟨cs, f, hP, hnf, hff, hg, hcell, hfr, _, hst⟩ := Rp.Row_elem HOa HF.out.1 i.toNat (by rw [fillTo_len _ _ _ (by omega)]; omega)
      generalize (fillTo zW xs i.toNat)[i.toNat]'_ = ye at hP
      obtain ⟨v, rfl, hv⟩ := W_open hP
      have hgw : w.heap.size ≤ g := HF.out.2 g hg
      have hga : g ∉ fa := fun h => hnot g h hg
      have c2 : wa.cell? ⟨g, i.toNat * 2, none⟩ = _ := hcell 0 _ rfl
      have c3 : wa.cell? ⟨g, i.toNat * 2 + 1, none⟩ = _ := hcell 1 _ rfl
      have z1 := hfr (i.toNat * 2)
      have z2 := hfr (i.toNat * 2 + 1)
      obtain ⟨fp1, hr1, hn1, hf1, he1⟩ := hst 0 (.int .i64 (gW xs i).block) ⟨(gW xs i).block, ye.bytes⟩ f (by decide) (W_mk ⟨(gW xs i).block, ye.bytes⟩ (Rp.Row_far hv (p := ⟨g, i.toNat * rW.d.sz + 0, none⟩) (fun h => (hff g h).2 rfl) _)) hnf (fun b hb => .inl hb) (.inl rfl)
      have he1 := he1 rfl
      subst he1
      clear hst hcell hfr
      have hra1 := Rp.Row_far hra (p := ⟨g, i.toNat * 2, none⟩) hga (.int .i64 (gW xs i).block)
      obtain ⟨cs, f2, hP2, _, _, _, _, _, _, hst⟩ := Rp.Row_elem hr1 HF.out.1 i.toNat (by rw [List.length_set, fillTo_len _ _ _ (by omega)]; omega)
      rw [List.getElem_set_self] at hP2
      obtain ⟨v2, rfl, hv2⟩ := W_open hP2
      obtain ⟨fp', hr', hn', hf', _⟩ := hst 1 (.slice Aa (gW xs i).bytes.length ca) (gW xs i) fa (by decide) (W_mk (gW xs i) (Rp.Row_far hra1 (p := ⟨g, i.toNat * rW.d.sz + 1, none⟩) hga _)) hna (fun b hb => .inr (hnot b hb)) (.inr hnot)
      have hset : ((fillTo zW xs i.toNat).set i.toNat ⟨(gW xs i).block, ye.bytes⟩).set i.toNat (gW xs i) = fillTo zW xs (i + 1).toNat := by rw [List.set_set, gW_eq (by omega), fillTo_succ _ _ (by omega), show (i + 1).toNat = i.toNat + 1 by omega]
      have hr' : rW.Row 147 ((wa.setCell ⟨g, i.toNat * 2, none⟩ (.int .i64 (gW xs i).block)).setCell ⟨g, i.toNat * 2 + 1, none⟩ (.slice Aa (gW xs i).bytes.length ca)) (.slice (some ⟨g, 0, none⟩) xs.length xs.length) _ fp' := hr'
      rw [hset] at hr'
      have HO' := Aside0.mk hr'
      have HB' := Aside0.mk (((below_then HB.out HB.out.size hba).setCell (p := ⟨g, i.toNat * 2, none⟩) hgw (.int .i64 (gW xs i).block)).setCell (p := ⟨g, i.toNat * 2 + 1, none⟩) hgw (.slice Aa (gW xs i).bytes.length ca))
      have HF' : Aside0 (fp'.Nodup ∧ ∀ b ∈ fp', w.heap.size ≤ b) := ⟨hn', fun b hb => by
        rcases hf' b hb with h | h
        · exact HF.out.2 b h
        · have := hfa b h; have := HB.out.size; omega⟩
      clear hst hr' hr1 hra1 hP hP2 hv hv2 hn1 hf1 hg hra hba hfa hna HOa hnot hgw hga hn' hf' hset hff hltf
      go_wp2
      go_roundg (gk - 1)
      case measure => have := HI.out; omega
      case rel => exact ⟨i + 1, fp', rfl, ⟨by have := HI.out; omega, by have := HI.out; omega, by have := HI.out; omega⟩, HO', HF', HB'⟩
    · have e1 := fillTo_end zW xs (i := i.toNat) (by have := HI.out; omega)
      replace HO := HO.out; rw [e1] at HO
      have HO := Aside0.mk HO
      clear e1
      go_wp2
      go_ret
      exact ⟨_, rfl, ⟨fp, HO.out, HF.out.1, HF.out.2⟩, HB.out⟩
set_option maxRecDepth 100000 in
set_option maxHeartbeats 1000000 in
theorem toDisk_c (A0 A1 : Option Addr) (c0 c1 : Nat) (bs : List (List Int)) (ws : List Wr) (w : World) (hx : rBS.d.C w A0 bs.length bs) (hy : rW.d.C w A1 ws.length ws) (hm0 : bs.length ≤ 10000000) (hm1 : ws.length ≤ 10000000) (hm2 : ∀ x ∈ bs, x.length ≤ 10000000) (hm3 : ∀ x ∈ ws, x.bytes.length ≤ 10000000) :
    Calls Try.prog 52 #[.agg #[.slice A0 bs.length c0, .slice A1 ws.length c1]] w (GotDisk w bs ws) := by
  have HX := Aside0.mk hx; have HY := Aside0.mk hy; have HM0 := Aside0.mk hm0; have HM1 := Aside0.mk hm1; have HM2 := Aside0.mk hm2; have HM3 := Aside0.mk hm3; clear hx hy hm2 hm3
  go_enter Try.func52, Try.ntmps52
  go_wp2_with fail
  generalize hw1 : World.alloc (World.alloc (World.alloc w _) _) _ = w1
  obtain ⟨K1, K2, K3, hB, hs⟩ := alloc3 hw1
  clear hw1
  refine (toByteSS_c _ _ bs _ (Kd.C_below HX.out hB) HM0.out HM2.out).mono ?_
  rintro e wa ⟨va, rfl, ⟨fa, hra, hna, hfa⟩, hba⟩
  obtain ⟨Aa, ca, rfl, _, _⟩ := Rp.Row_reads hra
  have K1 := blk_below K1 hba; have K2 := blk_below K2 hba; have K3 := blk_below K3 hba
  have n3 := Rp.Row_not hra K3 (by decide)
  obtain ⟨J3, q3⟩ := set1 K3 0 (.slice Aa bs.length ca)
  have J2 := q3.blk K2 (by simp)
  have J1 := q3.blk K1 (by simp; omega)
  have hr := q3.row hra (fun x hx hm => n3 (by simp at hm; exact hm ▸ hx))
  have hb := q3.toBelow (below_then hB hB.size hba) (Nat.le_trans hB.size hba.size) (fun x hx => by simp at hx; omega)
  have c1 := (blk_cell K3 0).trans rfl; have z1 := blk_frozen K3 0
  have k1 := (blk_cell J1 1).trans rfl
  have HR := Aside0.mk hr; have HB := Aside0.mk hb; have HN := Aside0.mk hna; have HF := Aside0.mk hfa; have HS := Aside0.mk hs; have J1 := Aside0.mk J1; have J2 := Aside0.mk J2; have J3 := Aside0.mk J3
  clear hr hb hna hfa K1 K2 K3 n3 q3 hra hba hB hs
  go_wp2_with fail
  clear c1 z1 k1
  generalize wa.setCell _ _ = wb at HR HB J1 J2 J3 ⊢
  refine (toWriteS_c _ _ ws _ (Kd.C_below HY.out HB.out) HM1.out HM3.out).mono ?_
  rintro e wc ⟨vc, rfl, ⟨fc, hrc, hnc, hfc⟩, hbc⟩
  obtain ⟨Ac, cc, rfl, _, _⟩ := Rp.Row_reads hrc
  have K2 := blk_below J2.out hbc; have K3 := blk_below J3.out hbc
  have hra := Rp.Row_below HR.out hbc
  have n2 := Rp.Row_not hrc K2 (by decide); have n3 := Rp.Row_not hrc K3 (by decide)
  have m2 := Rp.Row_not hra K2 (by decide); have m3 := Rp.Row_not hra K3 (by decide)
  obtain ⟨L3, q3⟩ := set1 K3 1 (.slice Ac ws.length cc)
  have L2 := q3.blk K2 (by simp)
  obtain ⟨M2, q2⟩ := set2 L2 (.slice Aa bs.length ca) (.slice Ac ws.length cc)
  have r1 := q2.row (q3.row hrc (fun x hx hm => n3 (by simp at hm; exact hm ▸ hx))) (fun x hx hm => n2 (by simp at hm; exact hm ▸ hx))
  have r0 := q2.row (q3.row hra (fun x hx hm => m3 (by simp at hm; exact hm ▸ hx))) (fun x hx hm => m2 (by simp at hm; exact hm ▸ hx))
  have hb := q2.toBelow (q3.toBelow (below_then HB.out HB.out.size hbc) (Nat.le_trans HB.out.size hbc.size) (fun x hx => by simp at hx; omega)) (Nat.le_trans HB.out.size (Nat.le_trans hbc.size q3.size)) (fun x hx => by simp at hx; omega)
  have c1 := (blk_cell K3 1).trans rfl; have z1 := blk_frozen K3 1
  have c2 := (blk_cell L3 0).trans rfl; have c3 := (blk_cell L3 1).trans rfl
  have d2 := (blk_cell L2 0).trans rfl; have d3 := (blk_cell L2 1).trans rfl
  have y2 := blk_frozen L2 0; have y3 := blk_frozen L2 1
  have hlt := Rp.Row_lt HR.out
  have hnd : (fa ++ fc).Nodup := Rp.nodup_new HN.out hnc hlt hfc
  have hge : ∀ b ∈ fa ++ fc, w.heap.size ≤ b := fun b hb => by
    rcases List.mem_append.1 hb with h | h
    · have := HF.out b h; have := HS.out; omega
    · have := hfc b h; have := HB.out.size; omega
  have R0 := Aside0.mk r0; have R1 := Aside0.mk r1; have HB := Aside0.mk hb; have MM := Aside0.mk M2; have HN := Aside0.mk hnd; have HF := Aside0.mk hge
  clear r0 r1 hb M2 hnd hge K2 K3 n2 n3 m2 m3 L3 q3 L2 q2 hra hrc hbc hnc hfc hlt
  go_wp2
  refine bodyPost_ret (results_cell_row rfl _ _ (w.heap.size + 1) 43 #[.slice Aa bs.length ca, .slice Ac ws.length cc] (0, 0) _ rfl MM.out Try.underlying43 rfl (by kernel_rfl)) rfl ?_
  exact ⟨_, _, fa, fc, rfl, R0.out, R1.out, HN.out, HF.out, HB.out⟩
end Go.Proofs.Ytocdlibnmlcokaa
