/- FnExactSync: every input. -/
import Derived.Test.YtocdlibnmlcokaaAQ
import Derived.Test.YtocdlibnmlcokaaL10
namespace Go.Proofs.Ytocdlibnmlcokaa
open Go.RowKit Go.Proofs.YtocdlibnmlcokaaW.PrintWords Go.Proofs.YtocdlibnmlcokaaW.PrintLast
set_option linter.unusedVariables false
set_option linter.unusedSimpArgs false
theorem fnExactSync_l (A0 A1 : Option Addr) (c0 c1 : Nat) (bs : List (List Int)) (ws : List Wr) (w : World) (hx : rBS.d.C w A0 bs.length bs) (hy : rW.d.C w A1 ws.length ws) (hsz : ¬ costD bs ws ≤ 1048576) :
    Calls Try.prog 10 #[.agg #[.slice A0 bs.length c0, .slice A1 ws.length c1]] w (Yes w) := by
  have HSZ := Aside0.mk (szR_no hsz)
  have HX := Aside0.mk hx; have HY := Aside0.mk hy
  clear hx hy hsz
  have BA := Aside0.mk (blk_new w (.cells #[.slice A0 bs.length c0, .slice A1 ws.length c1] 78))
  have B := Aside0.mk (below_alloc (Below.refl w.heap.size w) (.cells #[.slice A0 bs.length c0, .slice A1 ws.length c1] 78))
  go_enter Try.func10, Try.ntmps10
  go_upto_region 1 with (fail)
  generalize w.alloc _ = w0 at BA B ⊢
  have pa0 := (blk_cell BA.out 0).trans rfl; have pa1 := (blk_cell BA.out 1).trans rfl
  go_wp2_with fail
  have X0 := Aside0.mk (Kd.C_below HX.out B.out); have Y0 := Aside0.mk (Kd.C_below HY.out B.out)
  refine (szDisk_c _ _ _ _ bs ws 1048576 _ X0.out Y0.out (by omega) (by omega)).mono ?_
  rintro e wx1 ⟨rfl, hb⟩
  rw [HSZ.out]
  replace B := Aside0.mk (below_then B.out B.out.size hb)
  clear X0 Y0 pa0 pa1 hb
  go_wp2_with fail
  go_ret
  exact ⟨rfl, B.out⟩
theorem fnExactSync_c (A0 A1 : Option Addr) (c0 c1 : Nat) (bs : List (List Int)) (ws : List Wr) (w : World) (hx : rBS.d.C w A0 bs.length bs) (hy : rW.d.C w A1 ws.length ws) :
    Calls Try.prog 10 #[.agg #[.slice A0 bs.length c0, .slice A1 ws.length c1]] w (Yes w) := by
  by_cases hsz : costD bs ws ≤ 1048576
  · obtain ⟨hm, hc⟩ := small_of hsz
    by_cases hd : DkOk bs ws
    · exact fnExactSync_w A0 A1 c0 c1 bs _ ws [] w hx hy hsz hm hc (cnD_settle _ hd) (fun _ _ _ _ w h0 h1 => specSync_yes _ _ _ _ bs ws w h0 h1 hd) (fun _ _ _ _ w h0 h1 => implSync_yes _ _ _ _ bs ws w h0 h1 hd)
    · exact fnExactSync_w A0 A1 c0 c1 bs [] ws [] w hx hy hsz hm hc cnD_nil (fun _ _ _ _ w h0 h1 => specSync_no _ _ _ _ bs ws w h0 h1 hd) (fun _ _ _ _ w h0 h1 => implSync_no _ _ _ _ bs ws w h0 h1 hm.2.1 hd)
  · exact fnExactSync_l A0 A1 c0 c1 bs ws w hx hy hsz
end Go.Proofs.Ytocdlibnmlcokaa
