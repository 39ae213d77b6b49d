/- FnExactOpen: whatever the input. -/
import Derived.Test.YtocdlibnmlcokaaKL4
import Derived.Test.YtocdlibnmlcokaaLOpen
namespace Go.Proofs.Ytocdlibnmlcokaa
open Go.RowKit Go.Proofs.YtocdlibnmlcokaaW.PrintWords Go.Proofs.YtocdlibnmlcokaaW.PrintLast
set_option linter.unusedVariables false
set_option linter.unusedSimpArgs false
theorem openL_cn {bs : List (List Int)} {ws : List Wr} (hd : DkOk bs ws) (hk : BkOk bs ws) : cnO (openL bs ws).lg.notes (openL bs ws).bs (openL bs ws).ws ≤ 100000000 := by
  have hs := sync_ok hd hk
  unfold openL openS
  split
  · unfold op0 lg0 cnO cnD; simp [cntL]
  · have h := openWs_ok hs
    have h2 := sync_ok h.1 h.2
    have h3 : BlOk (syncL (syncL (syncL bs ws) (openWs (syncL bs ws))) []) := h2
    have h4 := found_notes h3
    have h5 := cnD_of h2
    unfold cnO scanL
    simp only
    rw [cntN]
    omega
theorem fnExactOpen_c (A0 A1 : Option Addr) (c0 c1 : Nat) (bs : List (List Int)) (ws : List Wr) (w : World) (hx : rBS.d.C w A0 bs.length bs) (hy : rW.d.C w A1 ws.length ws) (hk : BkOk bs ws) :
    Calls Try.prog 17 #[.agg #[.slice A0 bs.length c0, .slice A1 ws.length c1]] w (Yes w) := by
  by_cases hsz : costD bs ws ≤ 1048576
  rotate_left
  · exact fnExactOpen_l A0 c0 A1 c1 bs ws w hx hy hsz
  obtain ⟨hm, hc⟩ := small_of hsz
  by_cases hd : DkOk bs ws
  · exact fnExactOpen_w A0 c0 A1 c1 bs ws (openL bs ws).ok (openL bs ws).lg.ok (openL bs ws).lg.notes (openL bs ws).lg.len (openL bs ws).lg.gen (openL bs ws).lg.safe (openL bs ws).bs (openL bs ws).ws w hx hy hsz hm hc (openL_cn hd hk)
      (fun _ _ _ _ w h0 h1 _ => specOpen_yes _ _ _ _ bs ws w h0 h1 hd hk) (fun _ _ _ _ w h0 h1 _ => implOpen_yes _ _ _ _ bs ws w h0 h1 hd hk)
  · exact fnExactOpen_w A0 c0 A1 c1 bs ws false false [] 0 0 0 [] [] w hx hy hsz hm hc (by unfold cnO cnD; simp [cntL])
      (fun _ _ _ _ w h0 h1 _ => specOpen_no _ _ _ _ bs ws w h0 h1 hd) (fun _ _ _ _ w h0 h1 _ => implOpen_no _ _ _ _ bs ws w h0 h1 hd)
end Go.Proofs.Ytocdlibnmlcokaa
