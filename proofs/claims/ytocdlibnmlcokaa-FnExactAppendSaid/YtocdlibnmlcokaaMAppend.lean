/- FnExactAppend: whatever the input. -/
import Derived.Test.YtocdlibnmlcokaaKA4
import Derived.Test.YtocdlibnmlcokaaLAppend
namespace Go.Proofs.Ytocdlibnmlcokaa
open Go.RowKit Go.Proofs.YtocdlibnmlcokaaW.PrintWords Go.Proofs.YtocdlibnmlcokaaW.PrintLast
set_option linter.unusedVariables false
set_option linter.unusedSimpArgs false
theorem cnO_small {notes : List Nt} {bs : List (List Int)} {ws : List Wr} (h : costO notes bs ws ≤ 1048576) : cnO notes bs ws ≤ 100000000 := by
  have h0 := costD_nonneg bs ws
  have h1 := costN_nonneg notes
  unfold costO at h
  have h2 := small_note (xs := notes) (by omega)
  have h3 := cntL_nonneg (cnt := cnB) cnB_nonneg bs
  have h4 := cntL_nonneg (cnt := cnV) cnV_nonneg ws
  have h5 := cntW_V ws
  unfold costD costBS costWS at *
  unfold cnO cnD
  omega
theorem append_cn {bs : List (List Int)} {ws : List Wr} {x : Nt} (hd : DkOk bs ws) (hk : BkOk bs ws) (hx : NtOk x) : cnO (appendO bs ws x).lg.notes (appendO bs ws x).bs (appendO bs ws x).ws ≤ 100000000 := by
  have hs := sync_ok hd hk
  have hf := take_found hs
  have hXok : BsOk (appX bs ws x) := BsOk.append (fun y hy => (logBytes_ok hs).1 y (List.mem_of_mem_take hy)) (frameL_ok hx)
  have hXl : (appX bs ws x).length = (foundL (syncL bs ws)).2 + (17 + x.text.size) := by unfold appX; rw [List.length_append, hf.2, frameL_len]
  unfold appendO
  split
  · next h =>
    have hw : ∀ y ∈ ws ++ pagesW (appX bs ws x) (logGen (syncL bs ws)) ((foundL (syncL bs ws)).2 / 56) (appN (foundL (syncL bs ws)).2 (appX bs ws x).length), WrOk y := by
      intro y hy
      rcases List.mem_append.1 hy with h1 | h1
      · exact ⟨hd.2.2.2 y h1, hk.2 y h1⟩
      · exact pagesW_ok hXok _ _ _ (by unfold appN; omega) y h1
    have hl : (ws ++ pagesW (appX bs ws x) (logGen (syncL bs ws)) ((foundL (syncL bs ws)).2 / 56) (appN (foundL (syncL bs ws)).2 (appX bs ws x).length)).length ≤ 200 := by rw [List.length_append, pagesW_len]; exact h.2
    have hk2 := dk_of (bl_ok hd hk) hl hw
    have h4 := found_notes (sync_ok hk2.1 hk2.2)
    have h5 := cnB_of ⟨hd.1, hd.2.2.1⟩
    have h6 := cnW_of hl (fun y hy => (hw y hy).1.2.2)
    unfold cnO cnD scanL
    simp only
    rw [cntN]
    omega
  · unfold op0 lg0 cnO cnD; simp [cntL]
theorem fnExactAppend_c (An A0 A1 : Option Addr) (cn c0 c1 : Nat) (ok lok : Bool) (notes : List Nt) (len gen safe : Int) (bs : List (List Int)) (ws : List Wr) (x : Nt) (w : World) (hn : rN.d.C w An notes.length notes) (hx : rBS.d.C w A0 bs.length bs) (hy : rW.d.C w A1 ws.length ws) (ht : ∀ x ∈ notes, TxOk x) (hk : BkOk bs ws) (htx : TxOk x) :
    Calls Try.prog 19 #[.agg #[.bool ok, .bool lok, .slice An notes.length cn, .int .i64 len, .int .i64 gen, .int .i64 safe, .slice A0 bs.length c0, .slice A1 ws.length c1], vN x] w (Yes w) := by
  by_cases hsz : costO notes bs ws ≤ 1048576
  rotate_left
  · exact fnExactAppend_l An cn A0 c0 A1 c1 ok lok notes len gen safe bs ws x w hn hx hy ht htx hsz
  by_cases hsx : (x.text.size : Int) ≤ 1048576 - costO notes bs ws
  rotate_left
  · exact fnExactAppend_lx An cn A0 c0 A1 c1 ok lok notes len gen safe bs ws x w hn hx hy ht htx hsz hsx
  have hcD := costD_nonneg bs ws
  have hcN := costN_nonneg notes
  obtain ⟨hm, hc⟩ := small_of (bs := bs) (ws := ws) (by unfold costO at hsz; omega)
  obtain ⟨hmn, hcn⟩ := small_note (xs := notes) (by unfold costO at hsz; omega)
  have hcx : cnO notes bs ws ≤ 100000000 := cnO_small hsz
  by_cases hr : RightP ⟨ok, ⟨lok, notes, len, gen, safe⟩, bs, ws⟩ ∧ NtOk x
  · have hcr := append_cn (bs := bs) (ws := ws) hr.1.2.1 hk hr.2
    have h1 := fun (Bn B0 B1 : Option Addr) (Bcn Bc0 Bc1 : Nat) (w : World) h h0 h1 hc => specAppend_yes Bn B0 B1 Bcn Bc0 Bc1 ok lok notes len gen safe bs ws x w h h0 h1 hc hk htx hr.1 hr.2
    have h2 := fun (Bn B0 B1 : Option Addr) (Bcn Bc0 Bc1 : Nat) (w : World) h h0 h1 hc => implAppend_yes Bn B0 B1 Bcn Bc0 Bc1 ok lok notes len gen safe bs ws x w h h0 h1 hc hk htx hr.1 hr.2
    generalize appendO bs ws x = R at hcr h1 h2
    obtain ⟨rok, ⟨rlok, rns, rlen, rgen, rsafe⟩, rbs, rws⟩ := R
    exact fnExactAppend_w An cn A0 c0 A1 c1 ok lok notes len gen safe bs ws rok rlok rns rlen rgen rsafe rbs rws x w hn hx hy ht htx hsz hsx hm hmn hcx hcr (fun Bn Bcn B0 Bc0 B1 Bc1 w => h1 Bn B0 B1 Bcn Bc0 Bc1 w) (fun Bn Bcn B0 Bc0 B1 Bc1 w => h2 Bn B0 B1 Bcn Bc0 Bc1 w)
  · exact fnExactAppend_w An cn A0 c0 A1 c1 ok lok notes len gen safe bs ws false false [] 0 0 0 [] [] x w hn hx hy ht htx hsz hsx hm hmn hcx (by unfold cnO cnD; simp [cntL])
      (fun _ _ _ _ _ _ w h h0 h1 hc => specAppend_no _ _ _ _ _ _ ok lok notes len gen safe bs ws x w h h0 h1 hc hk htx hr) (fun _ _ _ _ _ _ w h h0 h1 hc => implAppend_no _ _ _ _ _ _ ok lok notes len gen safe bs ws x w h h0 h1 hc hk htx hr)
end Go.Proofs.Ytocdlibnmlcokaa
