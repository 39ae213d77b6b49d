/- FnExactRoom: whatever the input. -/
import Derived.Test.YtocdlibnmlcokaaKL4
import Derived.Test.YtocdlibnmlcokaaLRoom
namespace Go.Proofs.Ytocdlibnmlcokaa
open Go.RowKit Go.Proofs.YtocdlibnmlcokaaW.PrintWords Go.Proofs.YtocdlibnmlcokaaW.PrintLast
set_option linter.unusedVariables false
set_option linter.unusedSimpArgs false
theorem cnO_small {notes : List Nt} {bs : List (List Int)} {ws : List Wr} (h : costO notes bs ws ≤ 1048576) : cnO notes bs ws ≤ 100000000 := by
  have h0 := costD_nonneg bs ws
  have h1 := costN_nonneg notes
  unfold costO at h
  have h2 := small_note (xs := notes) (by omega)
  have h3 := cntL_nonneg (cnt := cnB) cnB_nonneg bs
  have h4 := cntL_nonneg (cnt := cnV) cnV_nonneg ws
  have h5 := cntW_V ws
  unfold costD costBS costWS at *
  unfold cnO cnD
  omega
theorem fnExactRoom_c (An A0 A1 : Option Addr) (cn c0 c1 : Nat) (ok lok : Bool) (notes : List Nt) (len gen safe : Int) (bs : List (List Int)) (ws : List Wr) (w : World) (hn : rN.d.C w An notes.length notes) (hx : rBS.d.C w A0 bs.length bs) (hy : rW.d.C w A1 ws.length ws) (ht : ∀ x ∈ notes, TxOk x) (hk : BkOk bs ws) :
    Calls Try.prog 16 #[.agg #[.bool ok, .bool lok, .slice An notes.length cn, .int .i64 len, .int .i64 gen, .int .i64 safe, .slice A0 bs.length c0, .slice A1 ws.length c1]] w (Yes w) := by
  by_cases hsz : costO notes bs ws ≤ 1048576
  rotate_left
  · exact fnExactRoom_l An cn A0 c0 A1 c1 ok lok notes len gen safe bs ws w hn hx hy ht hsz
  have hcD := costD_nonneg bs ws
  have hcN := costN_nonneg notes
  obtain ⟨hm, hc⟩ := small_of (bs := bs) (ws := ws) (by unfold costO at hsz; omega)
  obtain ⟨hmn, hcn⟩ := small_note (xs := notes) (by unfold costO at hsz; omega)
  have hcx : cnO notes bs ws ≤ 100000000 := cnO_small hsz
  by_cases hr : RightP ⟨ok, ⟨lok, notes, len, gen, safe⟩, bs, ws⟩
  · have hf := take_found (sync_ok (bs := bs) (ws := ws) hr.2.1 hk)
    have hlen : len = ((foundL (syncL bs ws)).2 : Int) := congrArg Lg.len hr.2.2.1
    exact fnExactRoom_w An cn A0 c0 A1 c1 ok lok notes len gen safe bs ws (7112 - len) w hn hx hy ht hsz hm hmn hcx
      (fun _ _ _ _ _ _ w h h0 h1 hc => specRoom_yes _ _ _ _ _ _ ok lok notes len gen safe bs ws w h h0 h1 hc hk hr (by omega) (by omega)) (fun _ _ _ _ _ _ w h h0 h1 hc => implRoom_yes _ _ _ _ _ _ ok lok notes len gen safe bs ws w h h0 h1 hc hk hr (by omega) (by omega))
  · exact fnExactRoom_w An cn A0 c0 A1 c1 ok lok notes len gen safe bs ws (-1) w hn hx hy ht hsz hm hmn hcx
      (fun _ _ _ _ _ _ w h h0 h1 hc => specRoom_no _ _ _ _ _ _ ok lok notes len gen safe bs ws w h h0 h1 hc hk hr) (fun _ _ _ _ _ _ w h h0 h1 hc => implRoom_no _ _ _ _ _ _ ok lok notes len gen safe bs ws w h h0 h1 hc hk hr)
end Go.Proofs.Ytocdlibnmlcokaa
