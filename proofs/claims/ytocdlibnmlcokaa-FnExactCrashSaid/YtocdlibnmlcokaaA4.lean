/- cp, copyDisk. -/
import Derived.Test.YtocdlibnmlcokaaA3
namespace Go.Proofs.Ytocdlibnmlcokaa
open Go.RowKit Go.Proofs.YtocdlibnmlcokaaW.PrintWords Go.Proofs.YtocdlibnmlcokaaW.PrintLast
set_option linter.unusedVariables false
set_option linter.unusedSimpArgs false
theorem info5 : (Try.prog.info? 5).map (fun i => (i.zero, i.size, i.bytes)) = some (some (.int .u8 0), 1, 1) := by kernel_rfl
abbrev rB : Rp Int := Rp.int .u8
abbrev kB : Kd Int := Kd.int .u8
theorem cp_c (A : Option Addr) (c : Nat) (xs : List Int) (w : World) (hx : kB.C w A xs.length xs) (hm : xs.length ≤ 140737488355328) :
    Calls Try.prog 114 #[.slice A xs.length c] w fun e w' => ∃ v, e = .returned v ∧ Rp.Got rB 5 w.heap.size w' v xs ∧ Below w.heap.size w w' := by
  have HX := Aside0.mk hx; have HM := Aside0.mk hm; clear hx hm
  go_enter Try.func114, Try.ntmps114
  go_wp2_with (at_builtin; refine Rp.app_row (enc := Value.int .u8) (h1 := fun _ => rfl) 0 rfl _ _ 22 5 (.int .u8 0) 1 rfl Try.underlying22 info5 rfl (by omega) (.slice none 0 0) [] xs A xs.length c rfl rfl (Rp.Row_nil rB 5 _) HX.out (by have := HM.out; simp; omega) ?_; intro v1 w1 fp1 hr hn hf hg; have HR := Aside0.mk hr; have HN := Aside0.mk hn; have HF := Aside0.mk hf; have HG := Aside0.mk hg; clear hr hn hf hg)
  go_ret
  exact ⟨_, rfl, ⟨fp1, HR.out, HN.out, fun b hb => by simpa using HF.out b hb⟩, (Below.refl _ _).grown HG.out (Nat.le_refl _) (by simp [Value.ownBlock])⟩
end Go.Proofs.Ytocdlibnmlcokaa
