/- DiskOk. -/
import Derived.Test.YtocdlibnmlcokaaA8
import Derived.Test.YtocdlibnmlcokaaASz
namespace Go.Proofs.Ytocdlibnmlcokaa
open Go.RowKit Go.Proofs.YtocdlibnmlcokaaW.PrintWords Go.Proofs.YtocdlibnmlcokaaW.PrintLast
set_option linter.unusedVariables false
set_option linter.unusedSimpArgs false
theorem eqT {a b : Int} (h : a = b) : (a == b) = true ∧ (a != b) = false := by simp [h]
theorem eqF {a b : Int} (h : ¬ a = b) : (a == b) = false ∧ (a != b) = true := by simp [h]
/-- A disk that is right. -/
def DkOk (bs : List (List Int)) (ws : List Wr) : Prop := bs.length = 128 ∧ ws.length ≤ 200 ∧ (∀ b ∈ bs, b.length = 64) ∧ ∀ x ∈ ws, 0 ≤ x.block ∧ x.block < 128 ∧ x.bytes.length = 64
def YesNo (b : Bool) (w : World) (e : Ending) (w' : World) : Prop := e = .returned (.bool b) ∧ Below w.heap.size w w'
theorem not_b {b : Bool} {p : Prop} (hb : b = true ↔ p) (h : ¬ p) : b = false := by cases b; rfl; exact absurd (hb.1 rfl) h
set_option maxRecDepth 100000 in
theorem l1in_c (x a b : Int) (w : World) : Calls Try.prog 120 #[.int .i64 x, .int .i64 a, .int .i64 b] w fun e w' => e = .returned (.bool (decide (a ≤ x) && decide (x ≤ b))) ∧ w' = w := by
  by_cases h : a ≤ x
  · have h1 : decide (a ≤ x) = true := decide_eq_true h
    by_cases h2 : x ≤ b
    · have h3 : decide (x ≤ b) = true := decide_eq_true h2
      rw [h1, h3]
      go_enter Try.func120, Try.ntmps120
      go_wp2
      go_ret
      exact ⟨rfl, rfl⟩
    · have h3 : decide (x ≤ b) = false := decide_eq_false h2
      rw [h1, h3]
      go_enter Try.func120, Try.ntmps120
      go_wp2
      go_ret
      exact ⟨rfl, rfl⟩
  · have h1 : decide (a ≤ x) = false := decide_eq_false h
    rw [h1]
    go_enter Try.func120, Try.ntmps120
    go_wp2
    go_ret
    exact ⟨rfl, rfl⟩
set_option maxRecDepth 100000 in
set_option maxHeartbeats 2000000 in
theorem implDiskOk_c (A0 A1 : Option Addr) (c0 c1 : Nat) (bs : List (List Int)) (ws : List Wr) (b : Bool) (hb : b = true ↔ DkOk bs ws) (w : World) (hx : rBS.d.C w A0 bs.length bs) (hy : rW.d.C w A1 ws.length ws) :
    Calls Try.prog 108 #[.agg #[.slice A0 bs.length c0, .slice A1 ws.length c1]] w (YesNo b w) := by
  have hb0 := below_alloc (Below.refl w.heap.size w) (.cells #[.slice A0 bs.length c0, .slice A1 ws.length c1] 43)
  have hbk := blk_new w (.cells #[.slice A0 bs.length c0, .slice A1 ws.length c1] 43)
  have hl0 : bs.length ≤ 9223372036854775807 := hx.2.1
  have hl1 : ws.length ≤ 9223372036854775807 := hy.2.1
  have HX := Aside0.mk hx; have HY := Aside0.mk hy; have HBB := Aside0.mk hb; have HB0 := Aside0.mk hb0; have HBK := Aside0.mk hbk; clear hx hy hb hb0 hbk
  by_cases h1 : (bs.length : Int) = 128
  · by_cases h2 : (ws.length : Int) ≤ 200
    · have b1 := eqT h1
      have H1 := Aside0.mk h1; clear h1
      go_enter Try.func108, Try.ntmps108
      go_wp2
      generalize World.alloc w _ = w1 at HB0 HBK ⊢
      clear b1
      go_loopg [20] bs.length (fun m vi wr => ∃ i : Int, vi = .int .i64 i ∧ Aside0 (0 ≤ i ∧ i ≤ bs.length ∧ bs.length - i.toNat ≤ m ∧ ∀ x ∈ bs.take i.toNat, x.length = 64) ∧ Aside0 (wr.heap[w.heap.size]? = some (.cells #[.slice A0 bs.length c0, .slice A1 ws.length c1] 43 (0, 0))) ∧ Aside0 (Below w.heap.size w wr))
      case atStart => exact ⟨0, rfl, ⟨by simp⟩, HBK, HB0⟩
      case round =>
        clear HB0 HBK
        obtain ⟨i, rfl, HI, BK, HB⟩ := hrel
        by_cases hlt : i < (bs.length : Int)
        · have hi0 : 0 ≤ i := HI.out.1
          obtain ⟨ad, E0, d0, hA, k1, _, _⟩ := at_BS (Kd.C_below HX.out HB.out) i hi0 hlt
          cases hA
          have hg := gBS_eq (xs := bs) (i := i) (by omega)
          by_cases he : ((gBS bs i).length : Int) = 64
          · have b2 := eqT he
            have hall : ∀ x ∈ bs.take (i + 1).toNat, x.length = 64 := by
              rw [show (i + 1).toNat = i.toNat + 1 by omega, take_snoc_g (by omega)]
              intro x hx
              rcases List.mem_append.1 hx with h | h
              · exact HI.out.2.2.2 x h
              · simp at h; subst h; omega
            have HA := Aside0.mk hall
            clear hall he hg
            go_wp2
            go_roundg (gk - 1)
            case measure => have := HI.out; omega
            case rel => exact ⟨i + 1, rfl, ⟨by have := HI.out; omega, by have := HI.out; omega, by have := HI.out; omega, HA.out⟩, BK, HB⟩
          · have b2 := eqF he
            have hf := not_b HBB.out (fun hd => he (by rw [hg]; have := hd.2.2.1 _ (List.getElem_mem (l := bs) (n := i.toNat) (by omega)); omega))
            subst hf
            clear he hg
            go_wp2
            go_ret
            exact ⟨rfl, HB.out⟩
        · have hall : ∀ x ∈ bs, x.length = 64 := by have h := HI.out.2.2.2; rwa [List.take_of_length_le (by omega)] at h
          have HALL := Aside0.mk hall; clear hall
          have k1 := (blk_cell BK.out 1).trans rfl
          go_wp2
          clear k1
          obtain ⟨wo, hwo⟩ : ∃ wo : World, wo = wr := ⟨_, rfl⟩
          rw [← hwo] at HB BK
          rw [← hwo]
          clear hwo
          go_loopg [31] ws.length (fun m vi wr => ∃ i : Int, vi = .int .i64 i ∧ Aside0 (0 ≤ i ∧ i ≤ ws.length ∧ ws.length - i.toNat ≤ m ∧ ∀ x ∈ ws.take i.toNat, 0 ≤ x.block ∧ x.block < 128 ∧ x.bytes.length = 64) ∧ Aside0 (Below w.heap.size w wr))
          case atStart => exact ⟨0, rfl, ⟨by simp⟩, HB⟩
          case round =>
            clear HB BK
            obtain ⟨i, rfl, HI, HB⟩ := hrel
            by_cases hlt : i < (ws.length : Int)
            · have hi0 : 0 ≤ i := HI.out.1
              obtain ⟨ad, E0, d0, hA, k1, k2, _, _⟩ := at_W (Kd.C_below HY.out HB.out) i hi0 hlt
              cases hA
              have hg := gW_eq (xs := ws) (i := i) (by omega)
              have HB1 := Aside0.mk (below_then HB.out HB.out.size (below_alloc (Below.refl _ wr) (.cells #[.int .i64 (gW ws i).block, .slice E0 (gW ws i).bytes.length d0] 147)))
              have hno : ¬ (0 ≤ (gW ws i).block ∧ (gW ws i).block < 128 ∧ (gW ws i).bytes.length = 64) → b = false := fun hn => not_b HBB.out (fun hd => hn (by rw [hg]; exact hd.2.2.2 _ (List.getElem_mem (l := ws) (n := i.toNat) (by omega))))
              by_cases ha : 0 ≤ (gW ws i).block
              · by_cases hc : (gW ws i).block < 128
                · by_cases hd : ((gW ws i).bytes.length : Int) = 64
                  · have b3 := eqT hd
                    have hall : ∀ x ∈ ws.take (i + 1).toNat, 0 ≤ x.block ∧ x.block < 128 ∧ x.bytes.length = 64 := by
                      rw [show (i + 1).toNat = i.toNat + 1 by omega, take_snoc_w (by omega)]
                      intro x hx
                      rcases List.mem_append.1 hx with h | h
                      · exact HI.out.2.2.2 x h
                      · simp at h; subst h; omega
                    have HA := Aside0.mk hall
                    clear hall hg hno
                    clear hd
                    go_wp2
                    go_roundg (gk - 1)
                    case measure => have := HI.out; omega
                    case rel => exact ⟨i + 1, rfl, ⟨by have := HI.out; omega, by have := HI.out; omega, by have := HI.out; omega, HA.out⟩, HB1⟩
                  · have b3 := eqF hd
                    have hf := hno (by omega)
                    subst hf
                    clear hd hg hno
                    go_wp2
                    go_ret
                    exact ⟨rfl, HB1.out⟩
                · have hf := hno (by omega)
                  subst hf
                  clear hg hno
                  go_wp2
                  go_ret
                  exact ⟨rfl, HB1.out⟩
              · have hf := hno (by omega)
                subst hf
                clear hg hno
                go_wp2
                go_ret
                exact ⟨rfl, HB1.out⟩
            · have hall : ∀ x ∈ ws, 0 ≤ x.block ∧ x.block < 128 ∧ x.bytes.length = 64 := by have h := HI.out.2.2.2; rwa [List.take_of_length_le (by omega)] at h
              have ht : b = true := HBB.out.2 ⟨by have := H1.out; omega, by omega, HALL.out, hall⟩
              subst ht
              go_wp2
              go_ret
              exact ⟨rfl, HB.out⟩
    · have b1 := eqT h1
      have hf := not_b HBB.out (fun hd => h2 (by have := hd.2.1; omega))
      subst hf
      go_enter Try.func108, Try.ntmps108
      go_wp2
      go_ret
      exact ⟨rfl, HB0.out⟩
  · have b1 := eqF h1
    have hf := not_b HBB.out (fun hd => h1 (by have := hd.1; omega))
    subst hf
    go_enter Try.func108, Try.ntmps108
    go_wp2
    go_ret
    exact ⟨rfl, HB0.out⟩
set_option maxRecDepth 100000 in
set_option maxHeartbeats 2000000 in
theorem specDiskOk_c (A0 A1 : Option Addr) (c0 c1 : Nat) (bs : List (List Int)) (ws : List Wr) (b : Bool) (hb : b = true ↔ DkOk bs ws) (w : World) (hx : rBS.d.C w A0 bs.length bs) (hy : rW.d.C w A1 ws.length ws) :
    Calls Try.prog 99 #[.agg #[.slice A0 bs.length c0, .slice A1 ws.length c1]] w (YesNo b w) := by
  have hb0 := below_alloc (Below.refl w.heap.size w) (.cells #[.slice A0 bs.length c0, .slice A1 ws.length c1] 43)
  have hbk := blk_new w (.cells #[.slice A0 bs.length c0, .slice A1 ws.length c1] 43)
  have hl0 : bs.length ≤ 9223372036854775807 := hx.2.1
  have hl1 : ws.length ≤ 9223372036854775807 := hy.2.1
  have HX := Aside0.mk hx; have HY := Aside0.mk hy; have HBB := Aside0.mk hb; have HB0 := Aside0.mk hb0; have HBK := Aside0.mk hbk; clear hx hy hb hb0 hbk
  by_cases h1 : (bs.length : Int) = 128
  · by_cases h2 : (ws.length : Int) ≤ 200
    · have b1 := eqT h1
      have H1 := Aside0.mk h1; clear h1
      go_enter Try.func99, Try.ntmps99
      go_wp2
      generalize World.alloc w _ = w1 at HB0 HBK ⊢
      clear b1
      go_loopg [20] bs.length (fun m vi wr => ∃ i : Int, vi = .int .i64 i ∧ Aside0 (0 ≤ i ∧ i ≤ bs.length ∧ bs.length - i.toNat ≤ m ∧ ∀ x ∈ bs.take i.toNat, x.length = 64) ∧ Aside0 (wr.heap[w.heap.size]? = some (.cells #[.slice A0 bs.length c0, .slice A1 ws.length c1] 43 (0, 0))) ∧ Aside0 (Below w.heap.size w wr))
      case atStart => exact ⟨0, rfl, ⟨by simp⟩, HBK, HB0⟩
      case round =>
        clear HB0 HBK
        obtain ⟨i, rfl, HI, BK, HB⟩ := hrel
        by_cases hlt : i < (bs.length : Int)
        · have hi0 : 0 ≤ i := HI.out.1
          obtain ⟨ad, E0, d0, hA, k1, _, _⟩ := at_BS (Kd.C_below HX.out HB.out) i hi0 hlt
          cases hA
          have hg := gBS_eq (xs := bs) (i := i) (by omega)
          by_cases he : ((gBS bs i).length : Int) = 64
          · have b2 := eqT he
            have hall : ∀ x ∈ bs.take (i + 1).toNat, x.length = 64 := by
              rw [show (i + 1).toNat = i.toNat + 1 by omega, take_snoc_g (by omega)]
              intro x hx
              rcases List.mem_append.1 hx with h | h
              · exact HI.out.2.2.2 x h
              · simp at h; subst h; omega
            have HA := Aside0.mk hall
            clear hall he hg
            go_wp2
            go_roundg (gk - 1)
            case measure => have := HI.out; omega
            case rel => exact ⟨i + 1, rfl, ⟨by have := HI.out; omega, by have := HI.out; omega, by have := HI.out; omega, HA.out⟩, BK, HB⟩
          · have b2 := eqF he
            have hf := not_b HBB.out (fun hd => he (by rw [hg]; have := hd.2.2.1 _ (List.getElem_mem (l := bs) (n := i.toNat) (by omega)); omega))
            subst hf
            clear he hg
            go_wp2
            go_ret
            exact ⟨rfl, HB.out⟩
        · have hall : ∀ x ∈ bs, x.length = 64 := by have h := HI.out.2.2.2; rwa [List.take_of_length_le (by omega)] at h
          have HALL := Aside0.mk hall; clear hall
          have k1 := (blk_cell BK.out 1).trans rfl
          go_wp2
          clear k1
          obtain ⟨wo, hwo⟩ : ∃ wo : World, wo = wr := ⟨_, rfl⟩
          rw [← hwo] at HB BK
          rw [← hwo]
          clear hwo
          go_loopg [31] ws.length (fun m vi wr => ∃ i : Int, vi = .int .i64 i ∧ Aside0 (0 ≤ i ∧ i ≤ ws.length ∧ ws.length - i.toNat ≤ m ∧ ∀ x ∈ ws.take i.toNat, 0 ≤ x.block ∧ x.block < 128 ∧ x.bytes.length = 64) ∧ Aside0 (Below w.heap.size w wr))
          case atStart => exact ⟨0, rfl, ⟨by simp⟩, HB⟩
          case round =>
            clear HB BK
            obtain ⟨i, rfl, HI, HB⟩ := hrel
            by_cases hlt : i < (ws.length : Int)
            · have hi0 : 0 ≤ i := HI.out.1
              obtain ⟨ad, E0, d0, hA, k1, k2, _, _⟩ := at_W (Kd.C_below HY.out HB.out) i hi0 hlt
              cases hA
              have hg := gW_eq (xs := ws) (i := i) (by omega)
              have HB1 := Aside0.mk (below_then HB.out HB.out.size (below_alloc (Below.refl _ wr) (.cells #[.int .i64 (gW ws i).block, .slice E0 (gW ws i).bytes.length d0] 147)))
              have hno : ¬ (0 ≤ (gW ws i).block ∧ (gW ws i).block < 128 ∧ (gW ws i).bytes.length = 64) → b = false := fun hn => not_b HBB.out (fun hd => hn (by rw [hg]; exact hd.2.2.2 _ (List.getElem_mem (l := ws) (n := i.toNat) (by omega))))
              by_cases ha : 0 ≤ (gW ws i).block ∧ (gW ws i).block ≤ 127
              · have hr : (decide (0 ≤ (gW ws i).block) && decide ((gW ws i).block ≤ 127)) = true := by simp; exact ha
                have HR := Aside0.mk hr; clear hr
                by_cases hd : ((gW ws i).bytes.length : Int) = 64
                · have b3 := eqT hd
                  have hall : ∀ x ∈ ws.take (i + 1).toNat, 0 ≤ x.block ∧ x.block < 128 ∧ x.bytes.length = 64 := by
                    rw [show (i + 1).toNat = i.toNat + 1 by omega, take_snoc_w (by omega)]
                    intro x hx
                    rcases List.mem_append.1 hx with h | h
                    · exact HI.out.2.2.2 x h
                    · simp at h; subst h; omega
                  have HA := Aside0.mk hall
                  clear hall hg hno
                  clear hd ha
                  go_wp2_with (go_at_call 120; refine (l1in_c _ 0 127 _).mono ?_; rintro e w1 ⟨rfl, rfl⟩; rw [HR.out])
                  go_roundg (gk - 1)
                  case measure => have := HI.out; omega
                  case rel => exact ⟨i + 1, rfl, ⟨by have := HI.out; omega, by have := HI.out; omega, by have := HI.out; omega, HA.out⟩, HB1⟩
                · have b3 := eqF hd
                  have hf := hno (by omega)
                  subst hf
                  clear hd hg hno ha
                  go_wp2_with (go_at_call 120; refine (l1in_c _ 0 127 _).mono ?_; rintro e w1 ⟨rfl, rfl⟩; rw [HR.out])
                  go_ret
                  exact ⟨rfl, HB1.out⟩
              · have hr : (decide (0 ≤ (gW ws i).block) && decide ((gW ws i).block ≤ 127)) = false := by rw [Bool.and_eq_false_iff]; simp; omega
                have HR := Aside0.mk hr; clear hr
                have hf := hno (by omega)
                subst hf
                clear hg hno ha
                go_wp2_with (go_at_call 120; refine (l1in_c _ 0 127 _).mono ?_; rintro e w1 ⟨rfl, rfl⟩; rw [HR.out])
                go_ret
                exact ⟨rfl, HB1.out⟩
            · have hall : ∀ x ∈ ws, 0 ≤ x.block ∧ x.block < 128 ∧ x.bytes.length = 64 := by have h := HI.out.2.2.2; rwa [List.take_of_length_le (by omega)] at h
              have ht : b = true := HBB.out.2 ⟨by have := H1.out; omega, by omega, HALL.out, hall⟩
              subst ht
              go_wp2
              go_ret
              exact ⟨rfl, HB.out⟩
    · have b1 := eqT h1
      have hf := not_b HBB.out (fun hd => h2 (by have := hd.2.1; omega))
      subst hf
      go_enter Try.func99, Try.ntmps99
      go_wp2
      go_ret
      exact ⟨rfl, HB0.out⟩
  · have b1 := eqF h1
    have hf := not_b HBB.out (fun hd => h1 (by have := hd.1; omega))
    subst hf
    go_enter Try.func99, Try.ntmps99
    go_wp2
    go_ret
    exact ⟨rfl, HB0.out⟩
end Go.Proofs.Ytocdlibnmlcokaa
