/- Blank. -/
import Derived.Test.YtocdlibnmlcokaaA5
namespace Go.Proofs.Ytocdlibnmlcokaa
open Go.RowKit Go.Proofs.YtocdlibnmlcokaaW.PrintWords Go.Proofs.YtocdlibnmlcokaaW.PrintLast
set_option linter.unusedVariables false
set_option linter.unusedSimpArgs false
def blankB : List (List Int) := List.replicate 128 (List.replicate 64 0)
set_option maxRecDepth 100000 in
set_option maxHeartbeats 1000000 in
theorem implBlank_c (w : World) : Calls Try.prog 27 #[] w (GotDisk w blankB []) := by
  have hb := below_alloc (below_alloc (Below.refl w.heap.size w) (.cells #[.slice none 0 0, .slice none 0 0] 43)) (.cells #[.slice none 0 0, .slice none 0 0] 43)
  go_enter Try.func27, Try.ntmps27
  go_wp2
  generalize hw1 : World.alloc (World.alloc w _) _ = w1
  obtain ⟨K1, K2, hB, _⟩ := alloc2 hw1
  clear hw1 hb
  have BK1 := Aside0.mk K1; have BK2 := Aside0.mk K2; have HB := Aside0.mk hB; clear K1 K2 hB
  go_loopg [2] 128 (fun k v wr => ∃ (i : Int) (u : Value) (f0 : List Nat), v = .int .i64 i ∧ Aside0 (0 ≤ i ∧ i ≤ 128 ∧ 128 - i.toNat ≤ k) ∧ Aside0 (rBS.Row 22 wr u (List.replicate i.toNat (List.replicate 64 0)) f0) ∧ Aside0 (f0.Nodup ∧ ∀ b ∈ f0, w.heap.size ≤ b)
     ∧ Aside0 (wr.heap[w.heap.size]? = some (Obj.cells #[.slice none 0 0, .slice none 0 0] 43)) ∧ Aside0 (wr.heap[w.heap.size + 1]? = some (Obj.cells #[u, .slice none 0 0] 43)) ∧ Aside0 (Below w.heap.size w wr))
  case atStart => exact ⟨0, _, [], rfl, ⟨by simp⟩, ⟨Rp.Row_nil _ _ _⟩, ⟨by simp⟩, BK1, BK2, HB⟩
  case round =>
    clear BK1 BK2 HB
    obtain ⟨i, u, f0, rfl, HI, HO, HF, BK1, BK2, HB⟩ := hrel
    by_cases h1 : i < 128
    · have h0 : 0 ≤ i := HI.out.1
      go_wp2
      refine sta (fun w' => w'.cell? ⟨w.heap.size + 1, 0, none⟩ = some u) [6] 7 ((blk_cell BK2.out 0).trans rfl) (fun hS => ?_)
      replace HO := Aside0.mk (Rp.Row_drew HO.out)
      replace BK1 := Aside0.mk (blk_drew BK1.out)
      replace BK2 := Aside0.mk (blk_drew BK2.out)
      replace HB := Aside0.mk (below_drew HB.out)
      generalize wr.drew = wd at HO BK1 BK2 HB hS ⊢
      refine pu 0 1 ?_
      refine tk 1 3 hS ?_
      refine on 2 7 (fun K hK => ?_)
      refine Rp.mk_row_step rB (by rfl) 22 5 _ _ (by rfl) 64 (by rfl) (by rfl) Try.underlying22 (.int .u8 0) 1 info5 rfl (by decide) (by omega) 0 (fun _ => ⟨rfl, rfl⟩) (by omega) (by decide) ?_
      intro ga wa hga hra hba
      have nfa : ga ∉ f0 := fun h => by have := Rp.Row_lt HO.out _ h; omega
      have fa : w.heap.size ≤ ga := by have := HB.out.size; omega
      refine nx hK (pw_cell_below hba hS) (fun hS => ?_)
      clear hK K hga
      refine on 3 15 (fun K hK => ?_)
      refine va ?_
      refine nx hK (pw_cell_below (below_alloc (Below.refl _ _) _) hS) (fun hS => ?_)
      clear hK K
      have HOa := Rp.Row_below HO.out hba
      have BKa := blk_below BK2.out hba
      refine on 4 31 (fun K hK => ?_)
      refine Rp.app_one_step rBS (by rfl) (.tmp 5) (.tmp 7) 40 22 (.slice none 0 0) 24 (by rfl) Try.underlying40 info22 rfl (by decide) (by omega) u (List.replicate i.toNat (List.replicate 64 0)) (List.replicate 64 0) [.slice (some ⟨ga, 0, none⟩) 64 64] (by rfl) (by rfl) HOa ⟨_, rfl, hra⟩ (by rw [List.nodup_append]; exact ⟨HF.out.1, by simp, fun a ha b hb he => by simp at hb; subst hb; subst he; exact nfa ha⟩) (by simp; omega) ?_
      intro v1 w2 fp1 hr1 hn1 hf1 hg1
      generalize hL : List.replicate i.toNat (List.replicate 64 (0 : Int)) ++ [List.replicate 64 0] = L at hr1
      have HL := Aside0.mk hL; clear hL
      obtain ⟨Av, cv, rfl, _, _⟩ := Rp.Row_reads hr1
      obtain ⟨hr3, hk3, kp3⟩ := box_app HOa BKa (by decide) hg1 hr1 0
      have BKw := blk_grown BKa hg1 (Rp.Row_ne HOa (Rp.Row_not HOa BKa (by decide)))
      refine nx hK ((blk_cell BKw 0).trans rfl) (fun hS => ?_)
      clear hK K
      refine pu 5 63 ?_
      refine la 6 127 (fun K hK => ?_)
      have z := blk_frozen BKw 0
      refine st ?_
      refine nl hK (dn ?_)
      clear hK K z hS
      generalize w2.setCell _ _ = wf at hr3 hk3 kp3 ⊢
      have kp : Kp wd wf (f0 ++ [w.heap.size + 1]) := ((Kp.below hba).mono (by simp)).trans kp3 (fun b hb _ => hb)
      have BK1 := Aside0.mk (kp.blk BK1.out (by have := Rp.Row_not HO.out BK1.out (by decide); simp; exact this))
      have HB1 := Aside0.mk (kp.toBelow HB.out HB.out.size (fun b hb => by rcases List.mem_append.1 hb with h | h; exact HF.out.2 b h; simp at h; omega))
      have HF1 : Aside0 (fp1.Nodup ∧ ∀ b ∈ fp1, w.heap.size ≤ b) := ⟨hn1, fun b hb => by
        rcases hf1 b hb with h | h | h
        · exact HF.out.2 b h
        · simp at h; omega
        · have := hba.size; have := HB.out.size; omega⟩
      have HR1 := Aside0.mk hr3; have BK2 := Aside0.mk hk3
      clear hn1 hf1 hg1 hr1 hba hra hr3 hk3 kp kp3 HOa BKa BKw HO HB
      go_wp2
      go_roundg (gk - 1)
      case measure => have := HI.out; omega
      case rel =>
        refine ⟨i + 1, _, fp1, rfl, ⟨by have := HI.out; omega, by have := HI.out; omega, by have := HI.out; omega⟩, ?_, HF1, BK1, BK2, HB1⟩
        have := HR1.out; rw [show (i + 1).toNat = i.toNat + 1 by omega, List.replicate_succ', HL.out]; exact ⟨this⟩
    · have e1 : i = 128 := by have := HI.out; omega
      subst e1
      have HO2 := HO.out
      have e2 : List.replicate (128 : Int).toNat (List.replicate 64 (0 : Int)) = blankB := rfl
      rw [e2] at HO2
      obtain ⟨Au, cu, rfl, _, _⟩ := Rp.Row_reads HO2
      have c0_ := (blk_cell BK2.out 0).trans rfl
      have c1_ := (blk_cell BK2.out 1).trans rfl
      have c2_ := (blk_cell BK1.out 0).trans rfl
      have c3_ := (blk_cell BK1.out 1).trans rfl
      have z0_ := blk_frozen BK1.out 0
      have z1_ := blk_frozen BK1.out 1
      obtain ⟨K5, kp⟩ := set2 BK1.out (.slice Au blankB.length cu) (.slice none 0 0)
      have H2 := Aside0.mk HO2; clear HO2 e2 HO
      have K5 := Aside0.mk K5; have kp := Aside0.mk kp
      go_wp2
      refine bodyPost_ret (results_cell_row rfl _ _ (w.heap.size) 43 #[.slice Au blankB.length cu, .slice none 0 0] (0, 0) _ rfl K5.out Try.underlying43 rfl (by kernel_rfl)) rfl ?_
      have n2 := Rp.Row_not H2.out BK1.out (by decide)
      exact ⟨_, _, f0, [], rfl, kp.out.row H2.out (fun b hb h => by simp at h; exact n2 (h ▸ hb)), Rp.Row_nil _ _ _, by simpa using HF.out.1, by simpa using HF.out.2, kp.out.toBelow HB.out HB.out.size (fun b hb => by simp at hb; omega)⟩
set_option maxRecDepth 100000 in
set_option maxHeartbeats 1000000 in
theorem specBlank_c (w : World) : Calls Try.prog 26 #[] w (GotDisk w blankB []) := by
  have hb := below_alloc (below_alloc (Below.refl w.heap.size w) (.cells #[.slice none 0 0, .slice none 0 0] 43)) (.cells #[.slice none 0 0, .slice none 0 0] 43)
  go_enter Try.func26, Try.ntmps26
  go_wp2
  generalize hw1 : World.alloc (World.alloc w _) _ = w1
  obtain ⟨K1, K2, hB, _⟩ := alloc2 hw1
  clear hw1 hb
  have BK1 := Aside0.mk K1; have BK2 := Aside0.mk K2; have HB := Aside0.mk hB; clear K1 K2 hB
  go_loopg [2] 128 (fun k v wr => ∃ (i : Int) (u : Value) (f0 : List Nat), v = .int .i64 i ∧ Aside0 (0 ≤ i ∧ i ≤ 128 ∧ 128 - i.toNat ≤ k) ∧ Aside0 (rBS.Row 22 wr u (List.replicate i.toNat (List.replicate 64 0)) f0) ∧ Aside0 (f0.Nodup ∧ ∀ b ∈ f0, w.heap.size ≤ b)
     ∧ Aside0 (wr.heap[w.heap.size]? = some (Obj.cells #[.slice none 0 0, .slice none 0 0] 43)) ∧ Aside0 (wr.heap[w.heap.size + 1]? = some (Obj.cells #[u, .slice none 0 0] 43)) ∧ Aside0 (Below w.heap.size w wr))
  case atStart => exact ⟨0, _, [], rfl, ⟨by simp⟩, ⟨Rp.Row_nil _ _ _⟩, ⟨by simp⟩, BK1, BK2, HB⟩
  case round =>
    clear BK1 BK2 HB
    obtain ⟨i, u, f0, rfl, HI, HO, HF, BK1, BK2, HB⟩ := hrel
    by_cases h1 : i < 128
    · have h0 : 0 ≤ i := HI.out.1
      go_wp2
      refine sta (fun w' => w'.cell? ⟨w.heap.size + 1, 0, none⟩ = some u) [6] 7 ((blk_cell BK2.out 0).trans rfl) (fun hS => ?_)
      replace HO := Aside0.mk (Rp.Row_drew HO.out)
      replace BK1 := Aside0.mk (blk_drew BK1.out)
      replace BK2 := Aside0.mk (blk_drew BK2.out)
      replace HB := Aside0.mk (below_drew HB.out)
      generalize wr.drew = wd at HO BK1 BK2 HB hS ⊢
      refine pu 0 1 ?_
      refine tk 1 3 hS ?_
      refine on 2 7 (fun K hK => ?_)
      refine Rp.mk_row_step rB (by rfl) 22 5 _ _ (by rfl) 64 (by rfl) (by rfl) Try.underlying22 (.int .u8 0) 1 info5 rfl (by decide) (by omega) 0 (fun _ => ⟨rfl, rfl⟩) (by omega) (by decide) ?_
      intro ga wa hga hra hba
      have nfa : ga ∉ f0 := fun h => by have := Rp.Row_lt HO.out _ h; omega
      have fa : w.heap.size ≤ ga := by have := HB.out.size; omega
      refine nx hK (pw_cell_below hba hS) (fun hS => ?_)
      clear hK K hga
      refine on 3 15 (fun K hK => ?_)
      refine va ?_
      refine nx hK (pw_cell_below (below_alloc (Below.refl _ _) _) hS) (fun hS => ?_)
      clear hK K
      have HOa := Rp.Row_below HO.out hba
      have BKa := blk_below BK2.out hba
      refine on 4 31 (fun K hK => ?_)
      refine Rp.app_one_step rBS (by rfl) (.tmp 8) (.tmp 10) 40 22 (.slice none 0 0) 24 (by rfl) Try.underlying40 info22 rfl (by decide) (by omega) u (List.replicate i.toNat (List.replicate 64 0)) (List.replicate 64 0) [.slice (some ⟨ga, 0, none⟩) 64 64] (by rfl) (by rfl) HOa ⟨_, rfl, hra⟩ (by rw [List.nodup_append]; exact ⟨HF.out.1, by simp, fun a ha b hb he => by simp at hb; subst hb; subst he; exact nfa ha⟩) (by simp; omega) ?_
      intro v1 w2 fp1 hr1 hn1 hf1 hg1
      generalize hL : List.replicate i.toNat (List.replicate 64 (0 : Int)) ++ [List.replicate 64 0] = L at hr1
      have HL := Aside0.mk hL; clear hL
      obtain ⟨Av, cv, rfl, _, _⟩ := Rp.Row_reads hr1
      obtain ⟨hr3, hk3, kp3⟩ := box_app HOa BKa (by decide) hg1 hr1 0
      have BKw := blk_grown BKa hg1 (Rp.Row_ne HOa (Rp.Row_not HOa BKa (by decide)))
      refine nx hK ((blk_cell BKw 0).trans rfl) (fun hS => ?_)
      clear hK K
      refine pu 5 63 ?_
      refine la 6 127 (fun K hK => ?_)
      have z := blk_frozen BKw 0
      refine st ?_
      refine nl hK (dn ?_)
      clear hK K z hS
      generalize w2.setCell _ _ = wf at hr3 hk3 kp3 ⊢
      have kp : Kp wd wf (f0 ++ [w.heap.size + 1]) := ((Kp.below hba).mono (by simp)).trans kp3 (fun b hb _ => hb)
      have BK1 := Aside0.mk (kp.blk BK1.out (by have := Rp.Row_not HO.out BK1.out (by decide); simp; exact this))
      have HB1 := Aside0.mk (kp.toBelow HB.out HB.out.size (fun b hb => by rcases List.mem_append.1 hb with h | h; exact HF.out.2 b h; simp at h; omega))
      have HF1 : Aside0 (fp1.Nodup ∧ ∀ b ∈ fp1, w.heap.size ≤ b) := ⟨hn1, fun b hb => by
        rcases hf1 b hb with h | h | h
        · exact HF.out.2 b h
        · simp at h; omega
        · have := hba.size; have := HB.out.size; omega⟩
      have HR1 := Aside0.mk hr3; have BK2 := Aside0.mk hk3
      clear hn1 hf1 hg1 hr1 hba hra hr3 hk3 kp kp3 HOa BKa BKw HO HB
      go_wp2
      go_roundg (gk - 1)
      case measure => have := HI.out; omega
      case rel =>
        refine ⟨i + 1, _, fp1, rfl, ⟨by have := HI.out; omega, by have := HI.out; omega, by have := HI.out; omega⟩, ?_, HF1, BK1, BK2, HB1⟩
        have := HR1.out; rw [show (i + 1).toNat = i.toNat + 1 by omega, List.replicate_succ', HL.out]; exact ⟨this⟩
    · have e1 : i = 128 := by have := HI.out; omega
      subst e1
      have HO2 := HO.out
      have e2 : List.replicate (128 : Int).toNat (List.replicate 64 (0 : Int)) = blankB := rfl
      rw [e2] at HO2
      obtain ⟨Au, cu, rfl, _, _⟩ := Rp.Row_reads HO2
      have c0_ := (blk_cell BK2.out 0).trans rfl
      have c1_ := (blk_cell BK2.out 1).trans rfl
      have c2_ := (blk_cell BK1.out 0).trans rfl
      have c3_ := (blk_cell BK1.out 1).trans rfl
      have z0_ := blk_frozen BK1.out 0
      have z1_ := blk_frozen BK1.out 1
      obtain ⟨K5, kp⟩ := set2 BK1.out (.slice Au blankB.length cu) (.slice none 0 0)
      have H2 := Aside0.mk HO2; clear HO2 e2 HO
      have K5 := Aside0.mk K5; have kp := Aside0.mk kp
      go_wp2
      refine bodyPost_ret (results_cell_row rfl _ _ (w.heap.size) 43 #[.slice Au blankB.length cu, .slice none 0 0] (0, 0) _ rfl K5.out Try.underlying43 rfl (by kernel_rfl)) rfl ?_
      have n2 := Rp.Row_not H2.out BK1.out (by decide)
      exact ⟨_, _, f0, [], rfl, kp.out.row H2.out (fun b hb h => by simp at h; exact n2 (h ▸ hb)), Rp.Row_nil _ _ _, by simpa using HF.out.1, by simpa using HF.out.2, kp.out.toBelow HB.out HB.out.size (fun b hb => by simp at hb; omega)⟩
end Go.Proofs.Ytocdlibnmlcokaa
