-- The row of the law laws_FnExactDiskOk, out of its pure statement and its walk: written by this session's program.
import Derived.Test.YtkhakdggfknlpaaRows
import Derived.Test.YtkhakdggfknlpaaPFnExactDiskOkx4
import Derived.Test.YtkhakdggfknlpaaOpen
import Derived.WalkKit
import Derived.ProofKit
import Derived.OpenShut
import Derived.ShutString
import Derived.ChangeOld
import Derived.Below
import Derived.SizedLaws
import Derived.Carry
namespace Go.Proofs.Ytkhakdggfknlpaa.fnExactDiskOk
open Go.ChangeShapes Go.WideShapes Go.ChangeAt Go.RowKit
open Go.Proofs.Ytkhakdggfknlpaa.Open Go.Proofs.Ytkhakdggfknlpaa.PFnExactDiskOk Go.Proofs.YtkhakdggfknlpaaW.PrintWords Go.Proofs.YtkhakdggfknlpaaW.PrintLast
set_option linter.unusedVariables false
set_option linter.unusedSimpArgs false
theorem own : ownKnob Try.prog.godebug = none := by kernel_rfl
theorem laidOut : laidOutB Try.prog = true := by kernel_rfl
theorem op0 : Opens Try.prog 61 k61 (fun x => ((x.f0.length ≤ maxLen ∧ ∀ x199 ∈ x.f0, (x199.length ≤ maxLen ∧ ∀ x200 ∈ x199, (Lit.int .u8 x200).wf = true)) ∧ (x.f1.length ≤ maxLen ∧ ∀ x201 ∈ x.f1, ((Lit.int .i64 x201.f0).wf = true ∧ (x201.f1.length ≤ maxLen ∧ ∀ x202 ∈ x201.f1, (Lit.int .u8 x202).wf = true))))) := (opens_iso (ok' := fun x : S61 => ((x.f0.length ≤ maxLen ∧ ∀ x203 ∈ x.f0, (x203.length ≤ maxLen ∧ ∀ x204 ∈ x203, (Lit.int .u8 x204).wf = true)) ∧ (x.f1.length ≤ maxLen ∧ ∀ x205 ∈ x.f1, ((Lit.int .i64 x205.f0).wf = true ∧ (x205.f1.length ≤ maxLen ∧ ∀ x206 ∈ x205.f1, (Lit.int .u8 x206).wf = true))))) (opens_struct Try.underlying61 (by kernel_rfl) (opensF_cons (by kernel_rfl) (by kernel_rfl) (opens_slice 30 Try.underlying51 (by kernel_rfl) (opens_slice 5 Try.underlying30 (by kernel_rfl) (opens_int Try.underlying5))) (opensF_one (by kernel_rfl) (by kernel_rfl) (opens_slice 119 Try.underlying59 (by kernel_rfl) (opens_iso (ok' := fun x : S119 => ((Lit.int .i64 x.f0).wf = true ∧ (x.f1.length ≤ maxLen ∧ ∀ x207 ∈ x.f1, (Lit.int .u8 x207).wf = true))) (opens_struct Try.underlying119 (by kernel_rfl) (opensF_cons (by kernel_rfl) (by kernel_rfl) (opens_int Try.underlying3) (opensF_one (by kernel_rfl) (by kernel_rfl) (opens_slice 5 Try.underlying30 (by kernel_rfl) (opens_int Try.underlying5))))) (fun x hx => ⟨⟨x.1, x.2⟩, rfl, hx⟩)))))) (fun x hx => ⟨⟨x.1, x.2⟩, rfl, hx⟩))
set_option maxRecDepth 100000 in
theorem lifted (PURE : laws_FnExactDiskOk.Pure) (os : Os) (started : os.Started) (H : Type) (enc : TypeId × Value → H) :
    ReturnsInHanded {} Try.checked os 12 .any (Rows.fnExactDiskOkSpec.pre6 enc Try.prog Try.f12 Rows.fnExactDiskOkRow.domain false) (Rows.fnExactDiskOkSpec.post enc Try.prog Try.f12 false true false false) := by
  refine returnsInHanded_of_change_sized (C := Try.checked) own started (by kernel_rfl) Try.func12
    (ChangeSpec.witness6 (enc := enc) (C := Try.checked) false ⟨#[], #[.agg #[.slice none 0 0, .slice none 0 0]], []⟩ 8 (by kernel_rfl) (by kernel_rfl) (by kernel_rfl) (by kernel_rfl)) ?_
  intro W base args ds gs before hval0 hW hcnd hsz0 _
  have hval : ∀ (j : Nat) t v, Try.f12.params[j]? = some t → args[j]? = some v → Value.okWide Try.prog W .any base t v := hval0
  have hW' := hW
  obtain ⟨p, q, hA0, hV, rfl, hfz, hnd⟩ := hW
  have hA : DataW.TrodAll enc Try.prog W 0 (fun _ => true) true Try.f12.params.toList args.toList ds p := hA0
  rw [Try.params12] at hA hval
  obtain ⟨v0, vs0, d0, ds0, p0, q0, hargs, rfl, rfl, h0, r0⟩ := trodAll_cons hA
  obtain ⟨rfl, rfl, rfl⟩ := trodAll_nil r0
  obtain rfl : args = #[v0] := by cases args; simp_all
  obtain ⟨rfl, rfl⟩ := trodVars_none hV
  have k0 := h0
  have lt0 : ∀ x ∈ p0, x.block < W.heap.size := by obtain ⟨m, hm⟩ := k0; exact DataW.trod_lt m _ _ _ hm
  obtain ⟨y0, hK0, hy0⟩ := opens_Trod op0 h0
  obtain ⟨A0_0, c0_0, A0_1, c0_1, e0, hl0_0, hr0_0, hl0_1, hr0_1⟩ := k61_open hK0
  obtain rfl := agg_of Try.underlying61 (hval 0 61 v0 rfl rfl) e0
  obtain ⟨k, hk⟩ := PURE y0.f0 y0.f1 hy0
  refine (PFnExactDiskOk.laws_FnExactDiskOk.calls k _ _ y0.f0 _ _ y0.f1 true W hr0_0 hl0_0 hr0_1 hl0_1 hk).mono fun e W' ⟨he, bel0⟩ => ?_
  have bel : Below W.heap.size W W' := bel0
  subst he
  exact ⟨_, rfl, _, _, _, [], _, [], hW', trodAll_mk1 (shut_bool Try.underlying4 _), (trodAll_cons_mk (Below.trod laidOut (by kernel_rfl) (of_decide_eq_true (by kernel_rfl)) k0 bel lt0) trodAll_mk0), rfl, bel.frame _, fun h => by cases h⟩
theorem over (PURE : laws_FnExactDiskOk.Pure) : Rows.fnExactDiskOkRow.holds Try.pinned (OpenSpec.ofChange Rows.fnExactDiskOkSpec) :=
  OpenClaim.holds_of_wide 12 Try.f12 rfl rfl rfl rfl rfl rfl rfl ⟨rfl, rfl, rfl, rfl, rfl⟩ rfl rfl rfl rfl rfl (by kernel_rfl) Try.func12 (by kernel_rfl)
    (of_decide_eq_true (by kernel_rfl)) (by unfold Func.isWrapper; first | (rw [if_pos (by decide +kernel)]; kernel_rfl) | (rw [if_neg (by decide +kernel)]; exact ⟨rfl, rfl⟩))
    (fun os started H enc _ => lifted PURE os started H enc)
theorem proved (PURE : laws_FnExactDiskOk.Pure) : Rows.FnExactDiskOkSaid := over PURE
end Go.Proofs.Ytkhakdggfknlpaa.fnExactDiskOk
