/- Contracts and words that the laws rest on, part 2: for every world; conditions as each theorem says. -/
import Derived.Test.YtocdlibnmlcokaaKTT1
namespace Go.Proofs.Ytocdlibnmlcokaa
open Go.RowKit Go.Proofs.YtocdlibnmlcokaaW.PrintWords Go.Proofs.YtocdlibnmlcokaaW.PrintLast
set_option linter.unusedVariables false
set_option linter.unusedSimpArgs false
def seg (xs : List Int) (a b : Nat) : List Int := (xs.take b).drop a
theorem seg_len (xs : List Int) {a b : Nat} (hb : b ≤ xs.length) : (seg xs a b).length = b - a := by simp [seg]; omega
theorem mid_c {A : Option Addr} {c : Nat} {xs : List Int} (a b : Int) (x y : Nat) (ha : a.toNat = x) (hb : b.toNat = y) (h0 : 0 ≤ a) (h1 : a ≤ b) (hm : b ≤ xs.length) (hc : xs.length ≤ c) :
    ∃ A' : Option Addr, (∀ W : World, (Instr.slice 22 (.slice A xs.length c) (some (.int .i64 a)) (some (.int .i64 b)) none).run Try.prog W = .ok (.slice A' (seg xs x y).length (c - x)) W) ∧
      (∀ w : World, kB.C w A xs.length xs → kB.C w A' (seg xs x y).length (seg xs x y)) ∧ (seg xs x y).length ≤ c - x := by
  subst ha; subst hb
  obtain ⟨i0, hi, hzz⟩ := Option.map_eq_some_iff.1 info5
  simp only [Prod.mk.injEq] at hzz
  obtain ⟨A', h2, h3, h4⟩ := print_mid_of (P := Try.prog) (Value.int .u8) 0 22 5 .i64 .i64 Try.underlying22 hi hzz.2.1 A c xs a b h0 h1 hm hc
  exact ⟨A', h2, fun w h => Kd.C_of_reads (h1 := fun _ => rfl) (h3 w (Kd.reads_of_C h)), h4⟩
def genOf (b : List Int) : Int := wrap64 (numL (seg b 2 6))
def bytesOf (b : List Int) : List Int := seg b 8 (8 + (rd b 6).toNat)
def PgIs (b : List Int) : Prop := b.length = 64 ∧ rd b 6 ≤ 56 ∧ PgOk true (genOf b) (bytesOf b) ∧ blockL (genOf b) (bytesOf b) = b
def GotPg (w : World) (ok : Bool) (gen : Int) (bytes : List Int) (e : Ending) (w' : World) : Prop :=
  ∃ v f, e = .returned (.agg #[.bool ok, .int .i64 gen, v]) ∧ rB.Row 5 w' v bytes f ∧ f.Nodup ∧ (∀ b ∈ f, w.heap.size ≤ b) ∧ Below w.heap.size w w'
def BsOk (xs : List Int) : Prop := ∀ x ∈ xs, 0 ≤ x ∧ x < 256
theorem BsOk.rd {xs : List Int} (h : BsOk xs) (i : Int) : 0 ≤ rd xs i ∧ rd xs i < 256 := by
  unfold Go.Proofs.YtocdlibnmlcokaaW.PrintWords.rd
  rw [List.getD_eq_getElem?_getD]
  by_cases hi : i.toNat < xs.length
  · rw [List.getElem?_eq_getElem hi]; exact h _ (List.getElem_mem _)
  · rw [List.getElem?_eq_none (by omega)]; simp
theorem got_below {lo : Nat} {w w1 : World} {v : Value} {xs : List Int} (h : Rp.Got rB 5 lo w v xs) (hb : Below w.heap.size w w1) : Rp.Got rB 5 lo w1 v xs := by
  obtain ⟨f, hr, hn, hf⟩ := h
  exact ⟨f, Rp.Row_below hr hb, hn, hf⟩
set_option maxHeartbeats 8000000 in
set_option maxRecDepth 100000 in
theorem implPageOf_y (A : Option Addr) (c : Nat) (b X : List Int) (w : World) (hx : kB.C w A b.length b) (hc : b.length ≤ c) (hb : BsOk b) (h64 : b.length = 64) (h56 : rd b 6 ≤ 56)
    (hp : ∀ (A : Option Addr) (c : Nat) (w : World), kB.C w A (bytesOf b).length (bytesOf b) → Calls Try.prog 110 #[.agg #[.bool true, .int .i64 (genOf b), .slice A (bytesOf b).length c]] w (GotRow rB 5 w X))
    (hs : ((strOfNums X).toList == (strOfNums b).toList) = true) :
    Calls Try.prog 146 #[.slice A b.length c] w (GotPg w true (genOf b) (bytesOf b)) := by
  have hb6 := (hb.rd 6).1
  have hl1 : 63 < b.length := by omega
  have hl2 : b.length ≤ 64 := by omega
  have HX := Aside0.mk hx; have HP := Aside0.mk hp; clear hx hb h64 hp
  have hE2 : wrap64 (8 + wrap64 (rd b 6)) = 8 + rd b 6 := by unfold wrap64; omega
  obtain ⟨A1, hcut1, hC1, hle1⟩ := mid_c (A := A) (c := c) (xs := b) 2 6 2 6 rfl rfl (by omega) (by omega) (by omega) hc
  obtain ⟨A2, hcut2, hC2, hle2⟩ := mid_c (A := A) (c := c) (xs := b) 8 (wrap64 (8 + wrap64 (rd b 6))) 8 _ rfl rfl (by omega) (by omega) (by omega) hc
  have hsg : seg b 8 (wrap64 (8 + wrap64 (rd b 6))).toNat = bytesOf b := by rw [hE2]; unfold bytesOf; congr 1; omega
  rw [hsg] at hcut2 hC2
  have hbl : (bytesOf b).length ≤ 56 := by unfold bytesOf; rw [seg_len b (by omega)]; omega
  clear hE2 hsg
  obtain ⟨ad, e1, c6⟩ := Kd.at_int HX.out 6 (by omega) (by omega)
  cases e1
  have HC1 := Aside0.mk hC1; have HC2 := Aside0.mk hC2; clear hC1 hC2
  simp only [show (6 : Int).toNat = 6 from rfl, Go.Addr.add, Nat.reduceEqDiff, if_false] at c6
  have C6 := Aside0.mk c6
  have BK := Aside0.mk (blk_new w (.cells #[.bool false, .int .i64 0, .slice none 0 0] 138))
  have HB := Aside0.mk (below_alloc (Below.refl w.heap.size w) (.cells #[.bool false, .int .i64 0, .slice none 0 0] 138))
  go_enter Try.func146, Try.ntmps146
  go_upto_region 1 with (fail)
  replace c6 := pw_cell_below HB.out c6
  generalize w.alloc _ = w0 at BK HB c6 ⊢
  go_upto_region 3 with (fail)
  refine sta (fun w' => w'.cell? ⟨ad.block, ad.off + 6, none⟩ = some (.int .u8 (rd b 6))) [] 15 c6 (fun hS => ?_)
  replace BK := Aside0.mk (blk_drew BK.out); replace HB := Aside0.mk (below_drew HB.out)
  clear c6
  generalize w0.drew = w1 at BK HB hS ⊢
  refine pu 0 1 ?_
  refine pu 1 3 ?_
  refine pu 4 19 ?_
  refine pu 5 51 ?_
  refine pu 6 115 ?_
  refine tk 7 243 hS ?_
  refine pu 8 499 ?_
  refine pu 9 1011 ?_
  refine pu 10 2035 ?_
  refine join_ (σ := Value × Nat) 1 (bl 15 16383) (fun s => [(16, .int .u64 (numL (seg b 2 6))), (17, .int .i64 (wrap64 (numL (seg b 2 6)))), (25, s.1), (26, .agg #[.bool true, .int .i64 (wrap64 (numL (seg b 2 6))), s.1]), (3, .pointer (some ⟨s.2, 0, none⟩))]) (fun s w' => w'.cell? ⟨ad.block, ad.off + 6, none⟩ = some (.int .u8 (rd b 6)) ∧ Rp.Got rB 5 w.heap.size w' s.1 (bytesOf b) ∧ w'.heap[w.heap.size]? = some (.cells #[.bool false, .int .i64 0, .slice none 0 0] 138 (0, 0)) ∧ w'.heap[s.2]? = some (.cells #[.bool false, .int .i64 0, .slice none 0 0] 138 (0, 0)) ∧ w.heap.size < s.2 ∧ Below w.heap.size w w') ?_ ?_
  rotate_left
  · intro hCont
    refine tw 2 13 2039 10227 (fun K hK => ?_) (fun K hK => ?_)
    · skip
      refine ca (num_c _ _ _ _ (HC1.out _ (Kd.C_below HX.out HB.out))) Try.func162 ?_
      rintro e wd1 ⟨rfl, hE⟩
      have hE := hE.symm
      subst hE
      refine ⟨_, rfl, nx hK hS (fun hS => ?_)⟩
      clear hK K
      refine pu 3 2047 ?_
      refine tw 11 13 4095 10239 (fun K hK => ?_) (fun K hK => ?_)
      · skip
        refine ca (cp_c _ _ _ _ (HC2.out _ (Kd.C_below HX.out HB.out)) (by omega)) Try.func114 ?_
        rintro e wd2 ⟨v, rfl, ⟨f, hr, hn, hf⟩, hb2⟩
        obtain ⟨A3, c3, rfl, _, _⟩ := Rp.Row_reads hr
        refine ⟨_, rfl, nx hK (pw_cell_below hb2 hS) (fun hS => ?_)⟩
        clear hK K
        have GR0 : Aside0 (Rp.Got rB 5 w.heap.size wd2 (.slice A3 (bytesOf b).length c3) (bytesOf b)) := ⟨⟨f, hr, hn, fun x hx => Nat.le_trans HB.out.size (hf x hx)⟩⟩
        replace BK := Aside0.mk (blk_below BK.out hb2)
        replace HB := Aside0.mk (below_then HB.out HB.out.size hb2)
        have GR := GR0
        clear GR0 hr hn hf hb2
        refine pu 12 8191 ?_
        refine on 13 16383 (fun K hK => ?_)
        refine va ?_
        refine nx hK (pw_cell_below (below_alloc (Below.refl _ _) _) hS) (fun hS => ?_)
        clear hK K
        generalize hg : wd2.heap.size = g at hS ⊢
        generalize hw3 : wd2.alloc _ = wd3 at hS ⊢
        obtain ⟨K3, hb3, hsz⟩ := alloc1 hw3
        clear hw3 hsz
        rw [hg] at K3
        have GW : Aside0 (w.heap.size < g) := ⟨by rw [← hg]; exact blk_lt BK.out⟩
        replace BK := Aside0.mk (blk_below BK.out hb3)
        replace GR := Aside0.mk (got_below GR.out hb3)
        replace HB := Aside0.mk (below_then HB.out HB.out.size hb3)
        have GK := Aside0.mk K3
        clear K3 hb3 hg
        exact norm_ (by simp only [putAll, Act.put, List.setIfInBounds_toArray, List.set_cons_zero, List.set_cons_succ]) (hCont (.slice A3 (bytesOf b).length c3, g) _ ⟨hS, GR.out, BK.out, GK.out, GW.out, HB.out⟩)
      · skip
        refine va ?_
        refine nx hK (pw_cell_below (below_alloc (Below.refl _ _) _) hS) (fun hS => ?_)
        clear hK K
        generalize hg : w1.heap.size = g at hS ⊢
        generalize hw3 : w1.alloc _ = wd4 at hS ⊢
        obtain ⟨K3, hb3, hsz⟩ := alloc1 hw3
        clear hw3 hsz
        rw [hg] at K3
        have GW : Aside0 (w.heap.size < g) := ⟨by rw [← hg]; exact blk_lt BK.out⟩
        replace BK := Aside0.mk (blk_below BK.out hb3)
        replace HB := Aside0.mk (below_then HB.out HB.out.size hb3)
        have GK := Aside0.mk K3
        clear K3 hb3 hg
        refine on 11 12287 (fun K hK => ?_)
        refine ca (cp_c _ _ _ _ (HC2.out _ (Kd.C_below HX.out HB.out)) (by omega)) Try.func114 ?_
        rintro e wd5 ⟨v, rfl, ⟨f, hr, hn, hf⟩, hb2⟩
        obtain ⟨A3, c3, rfl, _, _⟩ := Rp.Row_reads hr
        refine ⟨_, rfl, nx hK (pw_cell_below hb2 hS) (fun hS => ?_)⟩
        clear hK K
        have GR0 : Aside0 (Rp.Got rB 5 w.heap.size wd5 (.slice A3 (bytesOf b).length c3) (bytesOf b)) := ⟨⟨f, hr, hn, fun x hx => Nat.le_trans HB.out.size (hf x hx)⟩⟩
        replace BK := Aside0.mk (blk_below BK.out hb2)
        replace GK := Aside0.mk (blk_below GK.out hb2)
        replace HB := Aside0.mk (below_then HB.out HB.out.size hb2)
        have GR := GR0
        clear GR0 hr hn hf hb2
        refine pu 12 16383 ?_
        exact norm_ (by simp only [putAll, Act.put, List.setIfInBounds_toArray, List.set_cons_zero, List.set_cons_succ]) (hCont (.slice A3 (bytesOf b).length c3, g) _ ⟨hS, GR.out, BK.out, GK.out, GW.out, HB.out⟩)
    · skip
      refine va ?_
      refine nx hK (pw_cell_below (below_alloc (Below.refl _ _) _) hS) (fun hS => ?_)
      clear hK K
      generalize hg : w1.heap.size = g at hS ⊢
      generalize hw3 : w1.alloc _ = wd6 at hS ⊢
      obtain ⟨K3, hb3, hsz⟩ := alloc1 hw3
      clear hw3 hsz
      rw [hg] at K3
      have GW : Aside0 (w.heap.size < g) := ⟨by rw [← hg]; exact blk_lt BK.out⟩
      replace BK := Aside0.mk (blk_below BK.out hb3)
      replace HB := Aside0.mk (below_then HB.out HB.out.size hb3)
      have GK := Aside0.mk K3
      clear K3 hb3 hg
      refine on 2 10231 (fun K hK => ?_)
      refine ca (num_c _ _ _ _ (HC1.out _ (Kd.C_below HX.out HB.out))) Try.func162 ?_
      rintro e wd7 ⟨rfl, hE⟩
      have hE := hE.symm
      subst hE
      refine ⟨_, rfl, nx hK hS (fun hS => ?_)⟩
      clear hK K
      refine pu 3 10239 ?_
      refine on 11 12287 (fun K hK => ?_)
      refine ca (cp_c _ _ _ _ (HC2.out _ (Kd.C_below HX.out HB.out)) (by omega)) Try.func114 ?_
      rintro e wd8 ⟨v, rfl, ⟨f, hr, hn, hf⟩, hb2⟩
      obtain ⟨A3, c3, rfl, _, _⟩ := Rp.Row_reads hr
      refine ⟨_, rfl, nx hK (pw_cell_below hb2 hS) (fun hS => ?_)⟩
      clear hK K
      have GR0 : Aside0 (Rp.Got rB 5 w.heap.size wd8 (.slice A3 (bytesOf b).length c3) (bytesOf b)) := ⟨⟨f, hr, hn, fun x hx => Nat.le_trans HB.out.size (hf x hx)⟩⟩
      replace BK := Aside0.mk (blk_below BK.out hb2)
      replace GK := Aside0.mk (blk_below GK.out hb2)
      replace HB := Aside0.mk (below_then HB.out HB.out.size hb2)
      have GR := GR0
      clear GR0 hr hn hf hb2
      refine pu 12 16383 ?_
      exact norm_ (by simp only [putAll, Act.put, List.setIfInBounds_toArray, List.set_cons_zero, List.set_cons_succ]) (hCont (.slice A3 (bytesOf b).length c3, g) _ ⟨hS, GR.out, BK.out, GK.out, GW.out, HB.out⟩)
  rintro ⟨v, g⟩ wj ⟨hS, GR, BK0, GK, GW, HB0⟩
  clear BK HB
  have GW : w.heap.size < g := GW
  have GK : wj.heap[g]? = some (.cells #[.bool false, .int .i64 0, .slice none 0 0] 138 (0, 0)) := GK
  refine norm_ (a' := ?_) ?_ ?_
  rotate_left
  · simp only [putAll, Act.put, List.setIfInBounds_toArray, List.set_cons_zero, List.set_cons_succ]
    rfl
  obtain ⟨f, hr, hn, hf⟩ := GR
  obtain ⟨A3, c3, rfl, _, _⟩ := Rp.Row_reads hr
  have d0 := (blk_cell GK 0).trans rfl; have d1 := (blk_cell GK 1).trans rfl; have d2 := (blk_cell GK 2).trans rfl
  have z0 := blk_frozen GK 0; have z1 := blk_frozen GK 1; have z2 := blk_frozen GK 2
  obtain ⟨GK2, q3⟩ := set3 GK (.bool true) (.int .i64 (wrap64 (numL (seg b 2 6)))) (.slice A3 (bytesOf b).length c3)
  refine on 14 32767 (fun K hK => ?_)
  refine st ?_
  have HR := Aside0.mk (q3.row hr (fun x hx hm => Rp.Row_not hr GK (by decide) (by simp at hm; exact hm ▸ hx)))
  have BK := Aside0.mk (q3.blk BK0 (by simp; omega))
  have HB := Aside0.mk (q3.toBelow HB0 HB0.size (fun x hx => by simp at hx; omega))
  have GK := Aside0.mk GK2
  have HN := Aside0.mk hn; have HF := Aside0.mk hf
  refine nx hK (pw_cell_below HB.out C6.out) (fun hS => dn ?_)
  clear hK K hS d0 d1 d2 z0 z1 z2 q3 GK2 hr hn hf BK0 HB0
  generalize ((wj.setCell _ _).setCell _ _).setCell _ _ = w3 at HR BK HB GK ⊢
  go_upto_region 4 with (fail)
  have hs1 : ((strOfNums X).toList != (strOfNums b).toList) = false := by simp only [bne, hs]; rfl
  refine sta (fun w' => w'.cell? ⟨g, 0, none⟩ = some (.bool true) ∧ w'.cell? ⟨g, 1, none⟩ = some (.int .i64 (wrap64 (numL (seg b 2 6)))) ∧ w'.cell? ⟨g, 2, none⟩ = some (.slice A3 (bytesOf b).length c3) ∧ (convert 22 9 (.slice (some ad) b.length c)).run Try.prog w' = .ok (.string (strOfNums b)) w') [] 6 ⟨(blk_cell GK.out 0).trans rfl, (blk_cell GK.out 1).trans rfl, (blk_cell GK.out 2).trans rfl, Kd.C_string (P := Try.prog) Try.underlying22 Try.underlying5 Try.underlying9 (Kd.C_drew (Kd.C_below HX.out HB.out))⟩ (fun hS => ?_)
  replace HR := Aside0.mk (Rp.Row_drew HR.out); replace BK := Aside0.mk (blk_drew BK.out); replace HB := Aside0.mk (below_drew HB.out); replace GK := Aside0.mk (blk_drew GK.out)
  generalize w3.drew = w4 at HR BK HB GK hS ⊢
  refine pu 3 8 ?_
  refine tk 0 9 hS ?_ (hr := by rintro w' ⟨s0, s1, s2, s3⟩; go_simp; with_reducible rfl)
  refine tk 4 25 hS ?_ (hr := by rintro w' ⟨s0, s1, s2, s3⟩; go_simp; with_reducible rfl)
  refine on 1 27 (fun K hK => ?_)
  refine ca (HP.out _ _ _ (Rp.Row_C HR.out).2.2) Try.func110 ?_
  rintro e w5 ⟨vX, rfl, ⟨fX, hrX, hnX, hfX⟩, hb5⟩
  obtain ⟨AX, cX, rfl, _, _⟩ := Rp.Row_reads hrX
  replace HR := Aside0.mk (Rp.Row_below HR.out hb5); replace BK := Aside0.mk (blk_below BK.out hb5); replace GK := Aside0.mk (blk_below GK.out hb5); replace HB := Aside0.mk (below_then HB.out HB.out.size hb5)
  have hcv := Kd.C_string (P := Try.prog) (c := cX) Try.underlying22 Try.underlying5 Try.underlying9 (Rp.Row_C hrX).2.2
  clear hb5 hrX hnX hfX
  have hS2 : w5.cell? ⟨g, 0, none⟩ = some (.bool true) ∧ w5.cell? ⟨g, 1, none⟩ = some (.int .i64 (wrap64 (numL (seg b 2 6)))) ∧ w5.cell? ⟨g, 2, none⟩ = some (.slice A3 (bytesOf b).length c3) ∧ (convert 22 9 (.slice (some ad) b.length c)).run Try.prog w5 = .ok (.string (strOfNums b)) w5 := ⟨(blk_cell GK.out 0).trans rfl, (blk_cell GK.out 1).trans rfl, (blk_cell GK.out 2).trans rfl, Kd.C_string (P := Try.prog) Try.underlying22 Try.underlying5 Try.underlying9 (Kd.C_below HX.out HB.out)⟩
  refine ⟨_, rfl, nx hK hS2 (fun hS => ?_)⟩
  clear hK K
  refine on 2 31 (fun K hK => ?_)
  refine va ?_
  clear hcv
  refine nx hK hS2 (fun hS => ?_)
  clear hK K hS2
  refine pu 5 63 ?_
  refine dn ?_
  clear hS
  have y0 := (blk_cell GK.out 0).trans rfl; have y1 := (blk_cell GK.out 1).trans rfl; have y2 := (blk_cell GK.out 2).trans rfl
  have d0 := (blk_cell BK.out 0).trans rfl; have d1 := (blk_cell BK.out 1).trans rfl; have d2 := (blk_cell BK.out 2).trans rfl
  have z0 := blk_frozen BK.out 0; have z1 := blk_frozen BK.out 1; have z2 := blk_frozen BK.out 2
  go_wp2
  obtain ⟨BK2, q⟩ := set3 BK.out (.bool true) (.int .i64 (wrap64 (numL (seg b 2 6)))) (.slice A3 (bytesOf b).length c3)
  refine bodyPost_ret (results_cell_row rfl _ _ w.heap.size 138 #[.bool true, .int .i64 (wrap64 (numL (seg b 2 6))), .slice A3 (bytesOf b).length c3] (0, 0) _ rfl BK2 Try.underlying138 rfl (by kernel_rfl)) rfl ?_
  exact ⟨_, f, rfl, q.row HR.out (fun x hx hm => Rp.Row_not HR.out BK.out (by decide) (by simp at hm; exact hm ▸ hx)), HN.out, HF.out, q.toBelow HB.out HB.out.size (fun x hx => by simp at hx; omega)⟩
set_option maxHeartbeats 8000000 in
set_option maxRecDepth 100000 in
theorem implPageOf_n (A : Option Addr) (c : Nat) (b X : List Int) (w : World) (hx : kB.C w A b.length b) (hc : b.length ≤ c) (hb : BsOk b) (h64 : b.length = 64) (h56 : rd b 6 ≤ 56)
    (hp : ∀ (A : Option Addr) (c : Nat) (w : World), kB.C w A (bytesOf b).length (bytesOf b) → Calls Try.prog 110 #[.agg #[.bool true, .int .i64 (genOf b), .slice A (bytesOf b).length c]] w (GotRow rB 5 w X))
    (hs : ((strOfNums X).toList == (strOfNums b).toList) = false) :
    Calls Try.prog 146 #[.slice A b.length c] w (GotPg w false 0 []) := by
  have hb6 := (hb.rd 6).1
  have hl1 : 63 < b.length := by omega
  have hl2 : b.length ≤ 64 := by omega
  have HX := Aside0.mk hx; have HP := Aside0.mk hp; clear hx hb h64 hp
  have hE2 : wrap64 (8 + wrap64 (rd b 6)) = 8 + rd b 6 := by unfold wrap64; omega
  obtain ⟨A1, hcut1, hC1, hle1⟩ := mid_c (A := A) (c := c) (xs := b) 2 6 2 6 rfl rfl (by omega) (by omega) (by omega) hc
  obtain ⟨A2, hcut2, hC2, hle2⟩ := mid_c (A := A) (c := c) (xs := b) 8 (wrap64 (8 + wrap64 (rd b 6))) 8 _ rfl rfl (by omega) (by omega) (by omega) hc
  have hsg : seg b 8 (wrap64 (8 + wrap64 (rd b 6))).toNat = bytesOf b := by rw [hE2]; unfold bytesOf; congr 1; omega
  rw [hsg] at hcut2 hC2
  have hbl : (bytesOf b).length ≤ 56 := by unfold bytesOf; rw [seg_len b (by omega)]; omega
  clear hE2 hsg
  obtain ⟨ad, e1, c6⟩ := Kd.at_int HX.out 6 (by omega) (by omega)
  cases e1
  have HC1 := Aside0.mk hC1; have HC2 := Aside0.mk hC2; clear hC1 hC2
  simp only [show (6 : Int).toNat = 6 from rfl, Go.Addr.add, Nat.reduceEqDiff, if_false] at c6
  have C6 := Aside0.mk c6
  have BK := Aside0.mk (blk_new w (.cells #[.bool false, .int .i64 0, .slice none 0 0] 138))
  have HB := Aside0.mk (below_alloc (Below.refl w.heap.size w) (.cells #[.bool false, .int .i64 0, .slice none 0 0] 138))
  go_enter Try.func146, Try.ntmps146
  go_upto_region 1 with (fail)
  replace c6 := pw_cell_below HB.out c6
  generalize w.alloc _ = w0 at BK HB c6 ⊢
  go_upto_region 3 with (fail)
  refine sta (fun w' => w'.cell? ⟨ad.block, ad.off + 6, none⟩ = some (.int .u8 (rd b 6))) [] 15 c6 (fun hS => ?_)
  replace BK := Aside0.mk (blk_drew BK.out); replace HB := Aside0.mk (below_drew HB.out)
  clear c6
  generalize w0.drew = w1 at BK HB hS ⊢
  refine pu 0 1 ?_
  refine pu 1 3 ?_
  refine pu 4 19 ?_
  refine pu 5 51 ?_
  refine pu 6 115 ?_
  refine tk 7 243 hS ?_
  refine pu 8 499 ?_
  refine pu 9 1011 ?_
  refine pu 10 2035 ?_
  refine join_ (σ := Value × Nat) 1 (bl 15 16383) (fun s => [(16, .int .u64 (numL (seg b 2 6))), (17, .int .i64 (wrap64 (numL (seg b 2 6)))), (25, s.1), (26, .agg #[.bool true, .int .i64 (wrap64 (numL (seg b 2 6))), s.1]), (3, .pointer (some ⟨s.2, 0, none⟩))]) (fun s w' => w'.cell? ⟨ad.block, ad.off + 6, none⟩ = some (.int .u8 (rd b 6)) ∧ Rp.Got rB 5 w.heap.size w' s.1 (bytesOf b) ∧ w'.heap[w.heap.size]? = some (.cells #[.bool false, .int .i64 0, .slice none 0 0] 138 (0, 0)) ∧ w'.heap[s.2]? = some (.cells #[.bool false, .int .i64 0, .slice none 0 0] 138 (0, 0)) ∧ w.heap.size < s.2 ∧ Below w.heap.size w w') ?_ ?_
  rotate_left
  · intro hCont
    refine tw 2 13 2039 10227 (fun K hK => ?_) (fun K hK => ?_)
    · skip
      refine ca (num_c _ _ _ _ (HC1.out _ (Kd.C_below HX.out HB.out))) Try.func162 ?_
      rintro e wd1 ⟨rfl, hE⟩
      have hE := hE.symm
      subst hE
      refine ⟨_, rfl, nx hK hS (fun hS => ?_)⟩
      clear hK K
      refine pu 3 2047 ?_
      refine tw 11 13 4095 10239 (fun K hK => ?_) (fun K hK => ?_)
      · skip
        refine ca (cp_c _ _ _ _ (HC2.out _ (Kd.C_below HX.out HB.out)) (by omega)) Try.func114 ?_
        rintro e wd2 ⟨v, rfl, ⟨f, hr, hn, hf⟩, hb2⟩
        obtain ⟨A3, c3, rfl, _, _⟩ := Rp.Row_reads hr
        refine ⟨_, rfl, nx hK (pw_cell_below hb2 hS) (fun hS => ?_)⟩
        clear hK K
        have GR0 : Aside0 (Rp.Got rB 5 w.heap.size wd2 (.slice A3 (bytesOf b).length c3) (bytesOf b)) := ⟨⟨f, hr, hn, fun x hx => Nat.le_trans HB.out.size (hf x hx)⟩⟩
        replace BK := Aside0.mk (blk_below BK.out hb2)
        replace HB := Aside0.mk (below_then HB.out HB.out.size hb2)
        have GR := GR0
        clear GR0 hr hn hf hb2
        refine pu 12 8191 ?_
        refine on 13 16383 (fun K hK => ?_)
        refine va ?_
        refine nx hK (pw_cell_below (below_alloc (Below.refl _ _) _) hS) (fun hS => ?_)
        clear hK K
        generalize hg : wd2.heap.size = g at hS ⊢
        generalize hw3 : wd2.alloc _ = wd3 at hS ⊢
        obtain ⟨K3, hb3, hsz⟩ := alloc1 hw3
        clear hw3 hsz
        rw [hg] at K3
        have GW : Aside0 (w.heap.size < g) := ⟨by rw [← hg]; exact blk_lt BK.out⟩
        replace BK := Aside0.mk (blk_below BK.out hb3)
        replace GR := Aside0.mk (got_below GR.out hb3)
        replace HB := Aside0.mk (below_then HB.out HB.out.size hb3)
        have GK := Aside0.mk K3
        clear K3 hb3 hg
        exact norm_ (by simp only [putAll, Act.put, List.setIfInBounds_toArray, List.set_cons_zero, List.set_cons_succ]) (hCont (.slice A3 (bytesOf b).length c3, g) _ ⟨hS, GR.out, BK.out, GK.out, GW.out, HB.out⟩)
      · skip
        refine va ?_
        refine nx hK (pw_cell_below (below_alloc (Below.refl _ _) _) hS) (fun hS => ?_)
        clear hK K
        generalize hg : w1.heap.size = g at hS ⊢
        generalize hw3 : w1.alloc _ = wd4 at hS ⊢
        obtain ⟨K3, hb3, hsz⟩ := alloc1 hw3
        clear hw3 hsz
        rw [hg] at K3
        have GW : Aside0 (w.heap.size < g) := ⟨by rw [← hg]; exact blk_lt BK.out⟩
        replace BK := Aside0.mk (blk_below BK.out hb3)
        replace HB := Aside0.mk (below_then HB.out HB.out.size hb3)
        have GK := Aside0.mk K3
        clear K3 hb3 hg
        refine on 11 12287 (fun K hK => ?_)
        refine ca (cp_c _ _ _ _ (HC2.out _ (Kd.C_below HX.out HB.out)) (by omega)) Try.func114 ?_
        rintro e wd5 ⟨v, rfl, ⟨f, hr, hn, hf⟩, hb2⟩
        obtain ⟨A3, c3, rfl, _, _⟩ := Rp.Row_reads hr
        refine ⟨_, rfl, nx hK (pw_cell_below hb2 hS) (fun hS => ?_)⟩
        clear hK K
        have GR0 : Aside0 (Rp.Got rB 5 w.heap.size wd5 (.slice A3 (bytesOf b).length c3) (bytesOf b)) := ⟨⟨f, hr, hn, fun x hx => Nat.le_trans HB.out.size (hf x hx)⟩⟩
        replace BK := Aside0.mk (blk_below BK.out hb2)
        replace GK := Aside0.mk (blk_below GK.out hb2)
        replace HB := Aside0.mk (below_then HB.out HB.out.size hb2)
        have GR := GR0
        clear GR0 hr hn hf hb2
        refine pu 12 16383 ?_
        exact norm_ (by simp only [putAll, Act.put, List.setIfInBounds_toArray, List.set_cons_zero, List.set_cons_succ]) (hCont (.slice A3 (bytesOf b).length c3, g) _ ⟨hS, GR.out, BK.out, GK.out, GW.out, HB.out⟩)
    · skip
      refine va ?_
      refine nx hK (pw_cell_below (below_alloc (Below.refl _ _) _) hS) (fun hS => ?_)
      clear hK K
      generalize hg : w1.heap.size = g at hS ⊢
      generalize hw3 : w1.alloc _ = wd6 at hS ⊢
      obtain ⟨K3, hb3, hsz⟩ := alloc1 hw3
      clear hw3 hsz
      rw [hg] at K3
      have GW : Aside0 (w.heap.size < g) := ⟨by rw [← hg]; exact blk_lt BK.out⟩
      replace BK := Aside0.mk (blk_below BK.out hb3)
      replace HB := Aside0.mk (below_then HB.out HB.out.size hb3)
      have GK := Aside0.mk K3
      clear K3 hb3 hg
      refine on 2 10231 (fun K hK => ?_)
      refine ca (num_c _ _ _ _ (HC1.out _ (Kd.C_below HX.out HB.out))) Try.func162 ?_
      rintro e wd7 ⟨rfl, hE⟩
      have hE := hE.symm
      subst hE
      refine ⟨_, rfl, nx hK hS (fun hS => ?_)⟩
      clear hK K
      refine pu 3 10239 ?_
      refine on 11 12287 (fun K hK => ?_)
      refine ca (cp_c _ _ _ _ (HC2.out _ (Kd.C_below HX.out HB.out)) (by omega)) Try.func114 ?_
      rintro e wd8 ⟨v, rfl, ⟨f, hr, hn, hf⟩, hb2⟩
      obtain ⟨A3, c3, rfl, _, _⟩ := Rp.Row_reads hr
      refine ⟨_, rfl, nx hK (pw_cell_below hb2 hS) (fun hS => ?_)⟩
      clear hK K
      have GR0 : Aside0 (Rp.Got rB 5 w.heap.size wd8 (.slice A3 (bytesOf b).length c3) (bytesOf b)) := ⟨⟨f, hr, hn, fun x hx => Nat.le_trans HB.out.size (hf x hx)⟩⟩
      replace BK := Aside0.mk (blk_below BK.out hb2)
      replace GK := Aside0.mk (blk_below GK.out hb2)
      replace HB := Aside0.mk (below_then HB.out HB.out.size hb2)
      have GR := GR0
      clear GR0 hr hn hf hb2
      refine pu 12 16383 ?_
      exact norm_ (by simp only [putAll, Act.put, List.setIfInBounds_toArray, List.set_cons_zero, List.set_cons_succ]) (hCont (.slice A3 (bytesOf b).length c3, g) _ ⟨hS, GR.out, BK.out, GK.out, GW.out, HB.out⟩)
  rintro ⟨v, g⟩ wj ⟨hS, GR, BK0, GK, GW, HB0⟩
  clear BK HB
  have GW : w.heap.size < g := GW
  have GK : wj.heap[g]? = some (.cells #[.bool false, .int .i64 0, .slice none 0 0] 138 (0, 0)) := GK
  refine norm_ (a' := ?_) ?_ ?_
  rotate_left
  · simp only [putAll, Act.put, List.setIfInBounds_toArray, List.set_cons_zero, List.set_cons_succ]
    rfl
  obtain ⟨f, hr, hn, hf⟩ := GR
  obtain ⟨A3, c3, rfl, _, _⟩ := Rp.Row_reads hr
  have d0 := (blk_cell GK 0).trans rfl; have d1 := (blk_cell GK 1).trans rfl; have d2 := (blk_cell GK 2).trans rfl
  have z0 := blk_frozen GK 0; have z1 := blk_frozen GK 1; have z2 := blk_frozen GK 2
  obtain ⟨GK2, q3⟩ := set3 GK (.bool true) (.int .i64 (wrap64 (numL (seg b 2 6)))) (.slice A3 (bytesOf b).length c3)
  refine on 14 32767 (fun K hK => ?_)
  refine st ?_
  have HR := Aside0.mk (q3.row hr (fun x hx hm => Rp.Row_not hr GK (by decide) (by simp at hm; exact hm ▸ hx)))
  have BK := Aside0.mk (q3.blk BK0 (by simp; omega))
  have HB := Aside0.mk (q3.toBelow HB0 HB0.size (fun x hx => by simp at hx; omega))
  have GK := Aside0.mk GK2
  have HN := Aside0.mk hn; have HF := Aside0.mk hf
  refine nx hK (pw_cell_below HB.out C6.out) (fun hS => dn ?_)
  clear hK K hS d0 d1 d2 z0 z1 z2 q3 GK2 hr hn hf BK0 HB0
  generalize ((wj.setCell _ _).setCell _ _).setCell _ _ = w3 at HR BK HB GK ⊢
  go_upto_region 4 with (fail)
  have hs1 : ((strOfNums X).toList != (strOfNums b).toList) = true := by simp only [bne, hs]; rfl
  refine sta (fun w' => w'.cell? ⟨g, 0, none⟩ = some (.bool true) ∧ w'.cell? ⟨g, 1, none⟩ = some (.int .i64 (wrap64 (numL (seg b 2 6)))) ∧ w'.cell? ⟨g, 2, none⟩ = some (.slice A3 (bytesOf b).length c3) ∧ (convert 22 9 (.slice (some ad) b.length c)).run Try.prog w' = .ok (.string (strOfNums b)) w') [] 6 ⟨(blk_cell GK.out 0).trans rfl, (blk_cell GK.out 1).trans rfl, (blk_cell GK.out 2).trans rfl, Kd.C_string (P := Try.prog) Try.underlying22 Try.underlying5 Try.underlying9 (Kd.C_drew (Kd.C_below HX.out HB.out))⟩ (fun hS => ?_)
  replace HR := Aside0.mk (Rp.Row_drew HR.out); replace BK := Aside0.mk (blk_drew BK.out); replace HB := Aside0.mk (below_drew HB.out); replace GK := Aside0.mk (blk_drew GK.out)
  generalize w3.drew = w4 at HR BK HB GK hS ⊢
  refine pu 3 8 ?_
  refine tk 0 9 hS ?_ (hr := by rintro w' ⟨s0, s1, s2, s3⟩; go_simp; with_reducible rfl)
  refine tk 4 25 hS ?_ (hr := by rintro w' ⟨s0, s1, s2, s3⟩; go_simp; with_reducible rfl)
  refine on 1 27 (fun K hK => ?_)
  refine ca (HP.out _ _ _ (Rp.Row_C HR.out).2.2) Try.func110 ?_
  rintro e w5 ⟨vX, rfl, ⟨fX, hrX, hnX, hfX⟩, hb5⟩
  obtain ⟨AX, cX, rfl, _, _⟩ := Rp.Row_reads hrX
  replace HR := Aside0.mk (Rp.Row_below HR.out hb5); replace BK := Aside0.mk (blk_below BK.out hb5); replace GK := Aside0.mk (blk_below GK.out hb5); replace HB := Aside0.mk (below_then HB.out HB.out.size hb5)
  have hcv := Kd.C_string (P := Try.prog) (c := cX) Try.underlying22 Try.underlying5 Try.underlying9 (Rp.Row_C hrX).2.2
  clear hb5 hrX hnX hfX
  have hS2 : w5.cell? ⟨g, 0, none⟩ = some (.bool true) ∧ w5.cell? ⟨g, 1, none⟩ = some (.int .i64 (wrap64 (numL (seg b 2 6)))) ∧ w5.cell? ⟨g, 2, none⟩ = some (.slice A3 (bytesOf b).length c3) ∧ (convert 22 9 (.slice (some ad) b.length c)).run Try.prog w5 = .ok (.string (strOfNums b)) w5 := ⟨(blk_cell GK.out 0).trans rfl, (blk_cell GK.out 1).trans rfl, (blk_cell GK.out 2).trans rfl, Kd.C_string (P := Try.prog) Try.underlying22 Try.underlying5 Try.underlying9 (Kd.C_below HX.out HB.out)⟩
  refine ⟨_, rfl, nx hK hS2 (fun hS => ?_)⟩
  clear hK K
  refine on 2 31 (fun K hK => ?_)
  refine va ?_
  clear hcv
  refine nx hK hS2 (fun hS => ?_)
  clear hK K hS2
  refine pu 5 63 ?_
  refine dn ?_
  clear hS
  have d0 := (blk_cell BK.out 0).trans rfl; have d1 := (blk_cell BK.out 1).trans rfl; have d2 := (blk_cell BK.out 2).trans rfl
  have z0 := blk_frozen BK.out 0; have z1 := blk_frozen BK.out 1; have z2 := blk_frozen BK.out 2
  go_wp2
  obtain ⟨BK2, q⟩ := set3 BK.out (.bool false) (.int .i64 0) (.slice none 0 0)
  refine bodyPost_ret (results_cell_row rfl _ _ w.heap.size 138 #[.bool false, .int .i64 0, .slice none 0 0] (0, 0) _ rfl BK2 Try.underlying138 rfl (by kernel_rfl)) rfl ?_
  exact ⟨_, [], rfl, Rp.Row_nil _ _ _, by simp, by simp, q.toBelow HB.out HB.out.size (fun x hx => by simp at hx; omega)⟩
set_option maxHeartbeats 1000000 in
theorem implPageOf_early (A : Option Addr) (c : Nat) (b : List Int) (w : World) (hx : kB.C w A b.length b) (hb : BsOk b) (hno : ¬ (b.length = 64 ∧ rd b 6 ≤ 56)) :
    Calls Try.prog 146 #[.slice A b.length c] w (GotPg w false 0 []) := by
  have hbl : b.length ≤ 9223372036854775807 := hx.2.1
  have hb6 := hb.rd 6
  have hb60 := hb6.1
  have hb61 := hb6.2
  have HX := Aside0.mk hx; have HN := Aside0.mk hno; clear hx hb hno hb6
  have BK := Aside0.mk (blk_new w (.cells #[.bool false, .int .i64 0, .slice none 0 0] 138))
  have HB := Aside0.mk (below_alloc (Below.refl w.heap.size w) (.cells #[.bool false, .int .i64 0, .slice none 0 0] 138))
  go_enter Try.func146, Try.ntmps146
  go_upto_region 1 with (fail)
  generalize w.alloc _ = w0 at BK HB ⊢
  have d0 := (blk_cell BK.out 0).trans rfl; have d1 := (blk_cell BK.out 1).trans rfl; have d2 := (blk_cell BK.out 2).trans rfl
  have z0 := blk_frozen BK.out 0; have z1 := blk_frozen BK.out 1; have z2 := blk_frozen BK.out 2
  by_cases h : (b.length : Int) = 64
  · have h56 : 56 < rd b 6 := by
      have := HN.out
      rcases Int.lt_or_le 56 (rd b 6) with h' | h'
      · exact h'
      · exact absurd ⟨by omega, h'⟩ this
    have hl1 : 63 < b.length := by omega
    have hl2 : b.length ≤ 64 := by omega
    clear h
    obtain ⟨ad, e1, c6⟩ := Kd.at_int HX.out 6 (by omega) (by omega)
    cases e1
    simp only [show (6 : Int).toNat = 6 from rfl, Go.Addr.add, Nat.reduceEqDiff, if_false] at c6
    replace c6 := pw_cell_below HB.out c6
    go_wp2
    obtain ⟨BK2, q⟩ := set3 BK.out (.bool false) (.int .i64 0) (.slice none 0 0)
    refine bodyPost_ret (results_cell_row rfl _ _ w.heap.size 138 #[.bool false, .int .i64 0, .slice none 0 0] (0, 0) _ rfl BK2 Try.underlying138 rfl (by kernel_rfl)) rfl ?_
    exact ⟨_, [], rfl, Rp.Row_nil _ _ _, by simp, by simp, q.toBelow HB.out HB.out.size (fun x hx => by simp at hx; omega)⟩
  · have h' := eqF h
    go_wp2
    obtain ⟨BK2, q⟩ := set3 BK.out (.bool false) (.int .i64 0) (.slice none 0 0)
    refine bodyPost_ret (results_cell_row rfl _ _ w.heap.size 138 #[.bool false, .int .i64 0, .slice none 0 0] (0, 0) _ rfl BK2 Try.underlying138 rfl (by kernel_rfl)) rfl ?_
    exact ⟨_, [], rfl, Rp.Row_nil _ _ _, by simp, by simp, q.toBelow HB.out HB.out.size (fun x hx => by simp at hx; omega)⟩
theorem str_same {a b : List Int} (ha : BsOk a) (hb : BsOk b) : ((strOfNums a).toList == (strOfNums b).toList) = decide (a = b) := by
  by_cases h : a = b
  · subst h; simp
  · rw [decide_eq_false h]
    exact beq_eq_false_iff_ne.mpr (fun e => h (Math.strOfNums_inj (fun x hx => by have := ha x hx; omega) (fun x hx => by have := hb x hx; omega) (Math.toList_inj e)))
theorem BsOk.append {a b : List Int} (ha : BsOk a) (hb : BsOk b) : BsOk (a ++ b) := fun x hx => (List.mem_append.1 hx).elim (ha x) (hb x)
theorem BsOk.seg {a : List Int} (ha : BsOk a) (i j : Nat) : BsOk (seg a i j) := fun x hx => ha x (List.mem_of_mem_take (List.mem_of_mem_drop hx))
theorem BsOk.low (v : Int) : ∀ i, BsOk (lowTo v i)
  | 0 => fun x hx => by cases hx
  | i + 1 => (BsOk.low v i).append fun x hx => by simp at hx; subst hx; omega
theorem sumTo_ok (xs : List Int) : ∀ i, 0 ≤ sumTo xs i ∧ sumTo xs i < 256
  | 0 => by simp [sumTo]
  | i + 1 => by
    simp only [sumTo]
    split
    · exact sumTo_ok xs i
    · rw [IntKind.wrap_u8]; omega
theorem block_ok {gen : Int} {bytes : List Int} (hb : BsOk bytes) (hl : bytes.length ≤ 56) : BsOk (blockL gen bytes) := by
  have h1 : BsOk (preL gen bytes) := by
    unfold preL pre0
    refine ((((BsOk.append ?_ (BsOk.low _ _)).append ?_).append hb).append ?_)
    · intro x hx; simp at hx; omega
    · intro x hx; simp at hx; omega
    · intro x hx; rw [List.mem_replicate] at hx; omega
  intro x hx
  unfold blockL at hx
  rcases List.mem_or_eq_of_mem_set hx with h | h
  · exact h1 x h
  · rw [h]; exact sumTo_ok _ _
theorem bytesOf_len {b : List Int} (hb : BsOk b) (h64 : b.length = 64) (h56 : rd b 6 ≤ 56) : (bytesOf b).length ≤ 56 := by
  have := (hb.rd 6).1
  unfold bytesOf; rw [seg_len b (by omega)]; omega
theorem implPageOf_yes (A : Option Addr) (c : Nat) (b : List Int) (w : World) (hx : kB.C w A b.length b) (hc : b.length ≤ c) (hb : BsOk b) (h : PgIs b) :
    Calls Try.prog 146 #[.slice A b.length c] w (GotPg w true (genOf b) (bytesOf b)) := by
  obtain ⟨h64, h56, hok, he⟩ := h
  refine implPageOf_y A c b b w hx hc hb h64 h56 (fun A c w hx => ?_) (by simp)
  have := implPageBlock_yes A c (genOf b) (bytesOf b) w hx hok
  rw [he] at this
  exact this
theorem implPageOf_no (A : Option Addr) (c : Nat) (b : List Int) (w : World) (hx : kB.C w A b.length b) (hc : b.length ≤ c) (hb : BsOk b) (h : ¬ PgIs b) :
    Calls Try.prog 146 #[.slice A b.length c] w (GotPg w false 0 []) := by
  by_cases h1 : b.length = 64 ∧ rd b 6 ≤ 56
  · obtain ⟨h64, h56⟩ := h1
    have hl := bytesOf_len hb h64 h56
    by_cases hok : PgOk true (genOf b) (bytesOf b)
    · refine implPageOf_n A c b (blockL (genOf b) (bytesOf b)) w hx hc hb h64 h56 (fun A c w hx => implPageBlock_yes A c _ _ w hx hok) ?_
      rw [str_same (block_ok (show BsOk (bytesOf b) from hb.seg _ _) hl) hb]
      exact decide_eq_false (fun e => h ⟨h64, h56, hok, e⟩)
    · refine implPageOf_n A c b [] w hx hc hb h64 h56 (fun A c w hx => implPageBlock_no A c _ _ _ w (by omega) hok) ?_
      rw [str_same (fun x hx => by cases hx) hb]
      exact decide_eq_false (fun e => by rw [← e] at h64; cases h64)
  · exact implPageOf_early A c b w hx hb h1
end Go.Proofs.Ytocdlibnmlcokaa
namespace Go.Proofs.Ytocdlibnmlcokaa
open Go.RowKit Go.Proofs.YtocdlibnmlcokaaW.PrintWords Go.Proofs.YtocdlibnmlcokaaW.PrintLast
set_option linter.unusedVariables false
set_option linter.unusedSimpArgs false
set_option maxHeartbeats 8000000 in
set_option maxRecDepth 100000 in
theorem specPageOf_y (A : Option Addr) (c : Nat) (b X : List Int) (w : World) (hx : kB.C w A b.length b) (hc : b.length ≤ c) (hb : BsOk b) (h64 : b.length = 64) (h56 : rd b 6 ≤ 56)
    (hp : ∀ (A : Option Addr) (c : Nat) (w : World), kB.C w A (bytesOf b).length (bytesOf b) → Calls Try.prog 132 #[.agg #[.bool true, .int .i64 (genOf b), .slice A (bytesOf b).length c]] w (GotRow rB 5 w X))
    (hs : X = b) :
    Calls Try.prog 158 #[.slice A b.length c] w (GotPg w true (genOf b) (bytesOf b)) := by
  have hb6 := (hb.rd 6).1
  have hl1 : 63 < b.length := by omega
  have hl2 : b.length ≤ 64 := by omega
  have HX := Aside0.mk hx; have HP := Aside0.mk hp; clear hx hb h64 hp
  have hE2 : wrap64 (8 + wrap64 (rd b 6)) = 8 + rd b 6 := by unfold wrap64; omega
  obtain ⟨A1, hcut1, hC1, hle1⟩ := mid_c (A := A) (c := c) (xs := b) 2 6 2 6 rfl rfl (by omega) (by omega) (by omega) hc
  obtain ⟨A2, hcut2, hC2, hle2⟩ := mid_c (A := A) (c := c) (xs := b) 8 (wrap64 (8 + wrap64 (rd b 6))) 8 _ rfl rfl (by omega) (by omega) (by omega) hc
  have hsg : seg b 8 (wrap64 (8 + wrap64 (rd b 6))).toNat = bytesOf b := by rw [hE2]; unfold bytesOf; congr 1; omega
  rw [hsg] at hcut2 hC2
  have hbl : (bytesOf b).length ≤ 56 := by unfold bytesOf; rw [seg_len b (by omega)]; omega
  clear hE2 hsg
  obtain ⟨ad, e1, c6⟩ := Kd.at_int HX.out 6 (by omega) (by omega)
  cases e1
  have HC1 := Aside0.mk hC1; have HC2 := Aside0.mk hC2; clear hC1 hC2
  simp only [show (6 : Int).toNat = 6 from rfl, Go.Addr.add, Nat.reduceEqDiff, if_false] at c6
  have C6 := Aside0.mk c6
  have BK := Aside0.mk (blk_new w (.cells #[.bool false, .int .i64 0, .slice none 0 0] 138))
  have HB := Aside0.mk (below_alloc (Below.refl w.heap.size w) (.cells #[.bool false, .int .i64 0, .slice none 0 0] 138))
  go_enter Try.func158, Try.ntmps158
  go_upto_region 1 with (fail)
  replace c6 := pw_cell_below HB.out c6
  generalize w.alloc _ = w0 at BK HB c6 ⊢
  go_upto_region 3 with (fail)
  refine sta (fun w' => w'.cell? ⟨ad.block, ad.off + 6, none⟩ = some (.int .u8 (rd b 6))) [] 16 c6 (fun hS => ?_)
  replace BK := Aside0.mk (blk_drew BK.out); replace HB := Aside0.mk (below_drew HB.out)
  clear c6
  generalize w0.drew = w1 at BK HB hS ⊢
  refine pu 0 1 ?_
  refine pu 1 3 ?_
  refine pu 5 35 ?_
  refine pu 6 99 ?_
  refine pu 7 227 ?_
  refine tk 8 483 hS ?_
  refine pu 9 995 ?_
  refine pu 10 2019 ?_
  refine pu 11 4067 ?_
  refine join_ (σ := Value × Nat × Nat) 1 (bl 16 32767) (fun s => [(19, .int .u64 (numL (seg b 2 6))), (20, .int .i64 (wrap64 (numL (seg b 2 6)))), (21, .slice (some ⟨s.2.2, 0, none⟩) 0 0), (29, s.1), (30, .agg #[.bool true, .int .i64 (wrap64 (numL (seg b 2 6))), s.1]), (3, .pointer (some ⟨s.2.1, 0, none⟩))]) (fun s w' => w'.cell? ⟨ad.block, ad.off + 6, none⟩ = some (.int .u8 (rd b 6)) ∧ Rp.Got rB 5 w.heap.size w' s.1 (bytesOf b) ∧ w'.heap[w.heap.size]? = some (.cells #[.bool false, .int .i64 0, .slice none 0 0] 138 (0, 0)) ∧ w'.heap[s.2.1]? = some (.cells #[.bool false, .int .i64 0, .slice none 0 0] 138 (0, 0)) ∧ w.heap.size < s.2.1 ∧ Below w.heap.size w w') ?_ ?_
  rotate_left
  · intro hCont
    refine th 2 4 14 4071 4083 20451 (fun K hK => ?_) (fun K hK => ?_) (fun K hK => ?_)
    · skip
      refine ca (l1get_c _ _ _ _ (HC1.out _ (Kd.C_below HX.out HB.out))) Try.func163 ?_
      rintro e wd1 ⟨rfl, hE⟩
      have hE := hE.symm
      subst hE
      refine ⟨_, rfl, nx hK hS (fun hS => ?_)⟩
      clear hK K
      refine pu 3 4079 ?_
      refine tw 4 14 4095 20463 (fun K hK => ?_) (fun K hK => ?_)
      · skip
        refine va ?_
        refine nx hK (pw_cell_below (below_alloc (Below.refl _ _) _) hS) (fun hS => ?_)
        clear hK K
        have EM0 := empty_row w1
        have hb3 := below_alloc (Below.refl _ w1) (.cells #[] 5)
        have EW : Aside0 (w.heap.size ≤ w1.heap.size) := ⟨HB.out.size⟩
        generalize w1.alloc _ = wd2 at hS EM0 hb3 ⊢
        replace BK := Aside0.mk (blk_below BK.out hb3)
        replace HB := Aside0.mk (below_then HB.out HB.out.size hb3)
        clear hb3
        generalize w1.heap.size = ge at EM0 EW hS ⊢
        have EM := Aside0.mk EM0
        clear EM0
        refine tw 12 14 8191 20479 (fun K hK => ?_) (fun K hK => ?_)
        · skip
          refine Rp.app_row_step (enc := Value.int .u8) (h1 := fun _ => rfl) (by rfl) (.tmp 21) (.tmp 28) 22 5 (.int .u8 0) 1 (by rfl) Try.underlying22 info5 rfl (by decide) (.slice (some ⟨ge, 0, none⟩) 0 0) [] (bytesOf b) A2 (bytesOf b).length (c - 8) (by rfl) (by rfl) EM.out (HC2.out _ (Kd.C_below HX.out HB.out)) (by simp; omega) ?_
          intro v wd3 f hr hn hf hg
          rw [List.nil_append] at hr
          have kp := Kp.grown hg
          have hee : ∀ x ∈ (Value.slice (some ⟨ge, 0, none⟩) 0 0).ownBlock.toList, x = ge := fun x hx => by simp [Value.ownBlock] at hx; omega
          have nbk : w.heap.size ∉ (Value.slice (some ⟨ge, 0, none⟩) 0 0).ownBlock.toList := fun hm => Rp.Row_not EM.out BK.out (by decide) (by rw [hee _ hm]; simp)
          have hS1 : wd3.cell? ⟨ad.block, ad.off + 6, none⟩ = some (.int .u8 (rd b 6)) := pw_cell_below (kp.toBelow HB.out HB.out.size (fun x hx => by rw [hee x hx]; exact EW.out)) C6.out
          refine nx hK hS1 (fun hS => ?_)
          clear hK K hS1
          obtain ⟨A3, c3, rfl, _, _⟩ := Rp.Row_reads hr
          have hfw : ∀ x ∈ f, w.heap.size ≤ x := fun x hx => (hf x hx).elim (fun h => by simp at h; rw [h]; exact EW.out) (fun h => Nat.le_trans HB.out.size h)
          have GR : Aside0 (Rp.Got rB 5 w.heap.size wd3 (.slice A3 (bytesOf b).length c3) (bytesOf b)) := ⟨⟨f, hr, hn, hfw⟩⟩
          clear hfw
          replace BK := Aside0.mk (kp.blk BK.out nbk)
          replace HB := Aside0.mk (kp.toBelow HB.out HB.out.size (fun x hx => by rw [hee x hx]; exact EW.out))
          clear EM EW nbk hee kp hg hf hn hr
          refine pu 13 16383 ?_
          refine on 14 32767 (fun K hK => ?_)
          refine va ?_
          refine nx hK (pw_cell_below (below_alloc (Below.refl _ _) _) hS) (fun hS => ?_)
          clear hK K
          generalize hg : wd3.heap.size = g at hS ⊢
          generalize hw3 : wd3.alloc _ = wd4 at hS ⊢
          obtain ⟨K3, hb3, hsz⟩ := alloc1 hw3
          clear hw3 hsz
          rw [hg] at K3
          have GW : Aside0 (w.heap.size < g) := ⟨by rw [← hg]; exact blk_lt BK.out⟩
          replace BK := Aside0.mk (blk_below BK.out hb3)
          replace GR := Aside0.mk (got_below GR.out hb3)
          replace HB := Aside0.mk (below_then HB.out HB.out.size hb3)
          have GK := Aside0.mk K3
          clear K3 hb3 hg
          exact norm_ (by simp only [putAll, Act.put, List.setIfInBounds_toArray, List.set_cons_zero, List.set_cons_succ]) (hCont (.slice A3 (bytesOf b).length c3, g, ge) _ ⟨hS, GR.out, BK.out, GK.out, GW.out, HB.out⟩)
        · skip
          refine va ?_
          refine nx hK (pw_cell_below (below_alloc (Below.refl _ _) _) hS) (fun hS => ?_)
          clear hK K
          generalize hg : wd2.heap.size = g at hS ⊢
          generalize hw3 : wd2.alloc _ = wd5 at hS ⊢
          obtain ⟨K3, hb3, hsz⟩ := alloc1 hw3
          clear hw3 hsz
          rw [hg] at K3
          have GW : Aside0 (w.heap.size < g) := ⟨by rw [← hg]; exact blk_lt BK.out⟩
          replace BK := Aside0.mk (blk_below BK.out hb3)
          replace EM := Aside0.mk (Rp.Row_below EM.out hb3)
          replace HB := Aside0.mk (below_then HB.out HB.out.size hb3)
          have GK := Aside0.mk K3
          clear K3 hb3 hg
          refine on 12 24575 (fun K hK => ?_)
          refine Rp.app_row_step (enc := Value.int .u8) (h1 := fun _ => rfl) (by rfl) (.tmp 21) (.tmp 28) 22 5 (.int .u8 0) 1 (by rfl) Try.underlying22 info5 rfl (by decide) (.slice (some ⟨ge, 0, none⟩) 0 0) [] (bytesOf b) A2 (bytesOf b).length (c - 8) (by rfl) (by rfl) EM.out (HC2.out _ (Kd.C_below HX.out HB.out)) (by simp; omega) ?_
          intro v wd6 f hr hn hf hg
          rw [List.nil_append] at hr
          have kp := Kp.grown hg
          have hee : ∀ x ∈ (Value.slice (some ⟨ge, 0, none⟩) 0 0).ownBlock.toList, x = ge := fun x hx => by simp [Value.ownBlock] at hx; omega
          have nbk : w.heap.size ∉ (Value.slice (some ⟨ge, 0, none⟩) 0 0).ownBlock.toList := fun hm => Rp.Row_not EM.out BK.out (by decide) (by rw [hee _ hm]; simp)
          have hS1 : wd6.cell? ⟨ad.block, ad.off + 6, none⟩ = some (.int .u8 (rd b 6)) := pw_cell_below (kp.toBelow HB.out HB.out.size (fun x hx => by rw [hee x hx]; exact EW.out)) C6.out
          refine nx hK hS1 (fun hS => ?_)
          clear hK K hS1
          obtain ⟨A3, c3, rfl, _, _⟩ := Rp.Row_reads hr
          have hfw : ∀ x ∈ f, w.heap.size ≤ x := fun x hx => (hf x hx).elim (fun h => by simp at h; rw [h]; exact EW.out) (fun h => Nat.le_trans HB.out.size h)
          have GR : Aside0 (Rp.Got rB 5 w.heap.size wd6 (.slice A3 (bytesOf b).length c3) (bytesOf b)) := ⟨⟨f, hr, hn, hfw⟩⟩
          clear hfw
          replace GK := Aside0.mk (kp.blk GK.out (fun hm => Rp.Row_not EM.out GK.out (by decide) (by rw [hee _ hm]; simp)))
          replace BK := Aside0.mk (kp.blk BK.out nbk)
          replace HB := Aside0.mk (kp.toBelow HB.out HB.out.size (fun x hx => by rw [hee x hx]; exact EW.out))
          clear EM EW nbk hee kp hg hf hn hr
          refine pu 13 32767 ?_
          exact norm_ (by simp only [putAll, Act.put, List.setIfInBounds_toArray, List.set_cons_zero, List.set_cons_succ]) (hCont (.slice A3 (bytesOf b).length c3, g, ge) _ ⟨hS, GR.out, BK.out, GK.out, GW.out, HB.out⟩)
      · skip
        refine va ?_
        refine nx hK (pw_cell_below (below_alloc (Below.refl _ _) _) hS) (fun hS => ?_)
        clear hK K
        generalize hg : w1.heap.size = g at hS ⊢
        generalize hw3 : w1.alloc _ = wd7 at hS ⊢
        obtain ⟨K3, hb3, hsz⟩ := alloc1 hw3
        clear hw3 hsz
        rw [hg] at K3
        have GW : Aside0 (w.heap.size < g) := ⟨by rw [← hg]; exact blk_lt BK.out⟩
        replace BK := Aside0.mk (blk_below BK.out hb3)
        replace HB := Aside0.mk (below_then HB.out HB.out.size hb3)
        have GK := Aside0.mk K3
        clear K3 hb3 hg
        refine on 4 20479 (fun K hK => ?_)
        refine va ?_
        refine nx hK (pw_cell_below (below_alloc (Below.refl _ _) _) hS) (fun hS => ?_)
        clear hK K
        have EM0 := empty_row wd7
        have hb3 := below_alloc (Below.refl _ wd7) (.cells #[] 5)
        have EW : Aside0 (w.heap.size ≤ wd7.heap.size) := ⟨HB.out.size⟩
        generalize wd7.alloc _ = wd8 at hS EM0 hb3 ⊢
        replace BK := Aside0.mk (blk_below BK.out hb3)
        replace GK := Aside0.mk (blk_below GK.out hb3)
        replace HB := Aside0.mk (below_then HB.out HB.out.size hb3)
        clear hb3
        generalize wd7.heap.size = ge at EM0 EW hS ⊢
        have EM := Aside0.mk EM0
        clear EM0
        refine on 12 24575 (fun K hK => ?_)
        refine Rp.app_row_step (enc := Value.int .u8) (h1 := fun _ => rfl) (by rfl) (.tmp 21) (.tmp 28) 22 5 (.int .u8 0) 1 (by rfl) Try.underlying22 info5 rfl (by decide) (.slice (some ⟨ge, 0, none⟩) 0 0) [] (bytesOf b) A2 (bytesOf b).length (c - 8) (by rfl) (by rfl) EM.out (HC2.out _ (Kd.C_below HX.out HB.out)) (by simp; omega) ?_
        intro v wd9 f hr hn hf hg
        rw [List.nil_append] at hr
        have kp := Kp.grown hg
        have hee : ∀ x ∈ (Value.slice (some ⟨ge, 0, none⟩) 0 0).ownBlock.toList, x = ge := fun x hx => by simp [Value.ownBlock] at hx; omega
        have nbk : w.heap.size ∉ (Value.slice (some ⟨ge, 0, none⟩) 0 0).ownBlock.toList := fun hm => Rp.Row_not EM.out BK.out (by decide) (by rw [hee _ hm]; simp)
        have hS1 : wd9.cell? ⟨ad.block, ad.off + 6, none⟩ = some (.int .u8 (rd b 6)) := pw_cell_below (kp.toBelow HB.out HB.out.size (fun x hx => by rw [hee x hx]; exact EW.out)) C6.out
        refine nx hK hS1 (fun hS => ?_)
        clear hK K hS1
        obtain ⟨A3, c3, rfl, _, _⟩ := Rp.Row_reads hr
        have hfw : ∀ x ∈ f, w.heap.size ≤ x := fun x hx => (hf x hx).elim (fun h => by simp at h; rw [h]; exact EW.out) (fun h => Nat.le_trans HB.out.size h)
        have GR : Aside0 (Rp.Got rB 5 w.heap.size wd9 (.slice A3 (bytesOf b).length c3) (bytesOf b)) := ⟨⟨f, hr, hn, hfw⟩⟩
        clear hfw
        replace GK := Aside0.mk (kp.blk GK.out (fun hm => Rp.Row_not EM.out GK.out (by decide) (by rw [hee _ hm]; simp)))
        replace BK := Aside0.mk (kp.blk BK.out nbk)
        replace HB := Aside0.mk (kp.toBelow HB.out HB.out.size (fun x hx => by rw [hee x hx]; exact EW.out))
        clear EM EW nbk hee kp hg hf hn hr
        refine pu 13 32767 ?_
        exact norm_ (by simp only [putAll, Act.put, List.setIfInBounds_toArray, List.set_cons_zero, List.set_cons_succ]) (hCont (.slice A3 (bytesOf b).length c3, g, ge) _ ⟨hS, GR.out, BK.out, GK.out, GW.out, HB.out⟩)
    · skip
      refine va ?_
      refine nx hK (pw_cell_below (below_alloc (Below.refl _ _) _) hS) (fun hS => ?_)
      clear hK K
      have EM0 := empty_row w1
      have hb3 := below_alloc (Below.refl _ w1) (.cells #[] 5)
      have EW : Aside0 (w.heap.size ≤ w1.heap.size) := ⟨HB.out.size⟩
      generalize w1.alloc _ = wd10 at hS EM0 hb3 ⊢
      replace BK := Aside0.mk (blk_below BK.out hb3)
      replace HB := Aside0.mk (below_then HB.out HB.out.size hb3)
      clear hb3
      generalize w1.heap.size = ge at EM0 EW hS ⊢
      have EM := Aside0.mk EM0
      clear EM0
      refine tw 2 14 4087 20467 (fun K hK => ?_) (fun K hK => ?_)
      · skip
        refine ca (l1get_c _ _ _ _ (HC1.out _ (Kd.C_below HX.out HB.out))) Try.func163 ?_
        rintro e wd11 ⟨rfl, hE⟩
        have hE := hE.symm
        subst hE
        refine ⟨_, rfl, nx hK hS (fun hS => ?_)⟩
        clear hK K
        refine pu 3 4095 ?_
        refine tw 12 14 8191 20479 (fun K hK => ?_) (fun K hK => ?_)
        · skip
          refine Rp.app_row_step (enc := Value.int .u8) (h1 := fun _ => rfl) (by rfl) (.tmp 21) (.tmp 28) 22 5 (.int .u8 0) 1 (by rfl) Try.underlying22 info5 rfl (by decide) (.slice (some ⟨ge, 0, none⟩) 0 0) [] (bytesOf b) A2 (bytesOf b).length (c - 8) (by rfl) (by rfl) EM.out (HC2.out _ (Kd.C_below HX.out HB.out)) (by simp; omega) ?_
          intro v wd12 f hr hn hf hg
          rw [List.nil_append] at hr
          have kp := Kp.grown hg
          have hee : ∀ x ∈ (Value.slice (some ⟨ge, 0, none⟩) 0 0).ownBlock.toList, x = ge := fun x hx => by simp [Value.ownBlock] at hx; omega
          have nbk : w.heap.size ∉ (Value.slice (some ⟨ge, 0, none⟩) 0 0).ownBlock.toList := fun hm => Rp.Row_not EM.out BK.out (by decide) (by rw [hee _ hm]; simp)
          have hS1 : wd12.cell? ⟨ad.block, ad.off + 6, none⟩ = some (.int .u8 (rd b 6)) := pw_cell_below (kp.toBelow HB.out HB.out.size (fun x hx => by rw [hee x hx]; exact EW.out)) C6.out
          refine nx hK hS1 (fun hS => ?_)
          clear hK K hS1
          obtain ⟨A3, c3, rfl, _, _⟩ := Rp.Row_reads hr
          have hfw : ∀ x ∈ f, w.heap.size ≤ x := fun x hx => (hf x hx).elim (fun h => by simp at h; rw [h]; exact EW.out) (fun h => Nat.le_trans HB.out.size h)
          have GR : Aside0 (Rp.Got rB 5 w.heap.size wd12 (.slice A3 (bytesOf b).length c3) (bytesOf b)) := ⟨⟨f, hr, hn, hfw⟩⟩
          clear hfw
          replace BK := Aside0.mk (kp.blk BK.out nbk)
          replace HB := Aside0.mk (kp.toBelow HB.out HB.out.size (fun x hx => by rw [hee x hx]; exact EW.out))
          clear EM EW nbk hee kp hg hf hn hr
          refine pu 13 16383 ?_
          refine on 14 32767 (fun K hK => ?_)
          refine va ?_
          refine nx hK (pw_cell_below (below_alloc (Below.refl _ _) _) hS) (fun hS => ?_)
          clear hK K
          generalize hg : wd12.heap.size = g at hS ⊢
          generalize hw3 : wd12.alloc _ = wd13 at hS ⊢
          obtain ⟨K3, hb3, hsz⟩ := alloc1 hw3
          clear hw3 hsz
          rw [hg] at K3
          have GW : Aside0 (w.heap.size < g) := ⟨by rw [← hg]; exact blk_lt BK.out⟩
          replace BK := Aside0.mk (blk_below BK.out hb3)
          replace GR := Aside0.mk (got_below GR.out hb3)
          replace HB := Aside0.mk (below_then HB.out HB.out.size hb3)
          have GK := Aside0.mk K3
          clear K3 hb3 hg
          exact norm_ (by simp only [putAll, Act.put, List.setIfInBounds_toArray, List.set_cons_zero, List.set_cons_succ]) (hCont (.slice A3 (bytesOf b).length c3, g, ge) _ ⟨hS, GR.out, BK.out, GK.out, GW.out, HB.out⟩)
        · skip
          refine va ?_
          refine nx hK (pw_cell_below (below_alloc (Below.refl _ _) _) hS) (fun hS => ?_)
          clear hK K
          generalize hg : wd10.heap.size = g at hS ⊢
          generalize hw3 : wd10.alloc _ = wd14 at hS ⊢
          obtain ⟨K3, hb3, hsz⟩ := alloc1 hw3
          clear hw3 hsz
          rw [hg] at K3
          have GW : Aside0 (w.heap.size < g) := ⟨by rw [← hg]; exact blk_lt BK.out⟩
          replace BK := Aside0.mk (blk_below BK.out hb3)
          replace EM := Aside0.mk (Rp.Row_below EM.out hb3)
          replace HB := Aside0.mk (below_then HB.out HB.out.size hb3)
          have GK := Aside0.mk K3
          clear K3 hb3 hg
          refine on 12 24575 (fun K hK => ?_)
          refine Rp.app_row_step (enc := Value.int .u8) (h1 := fun _ => rfl) (by rfl) (.tmp 21) (.tmp 28) 22 5 (.int .u8 0) 1 (by rfl) Try.underlying22 info5 rfl (by decide) (.slice (some ⟨ge, 0, none⟩) 0 0) [] (bytesOf b) A2 (bytesOf b).length (c - 8) (by rfl) (by rfl) EM.out (HC2.out _ (Kd.C_below HX.out HB.out)) (by simp; omega) ?_
          intro v wd15 f hr hn hf hg
          rw [List.nil_append] at hr
          have kp := Kp.grown hg
          have hee : ∀ x ∈ (Value.slice (some ⟨ge, 0, none⟩) 0 0).ownBlock.toList, x = ge := fun x hx => by simp [Value.ownBlock] at hx; omega
          have nbk : w.heap.size ∉ (Value.slice (some ⟨ge, 0, none⟩) 0 0).ownBlock.toList := fun hm => Rp.Row_not EM.out BK.out (by decide) (by rw [hee _ hm]; simp)
          have hS1 : wd15.cell? ⟨ad.block, ad.off + 6, none⟩ = some (.int .u8 (rd b 6)) := pw_cell_below (kp.toBelow HB.out HB.out.size (fun x hx => by rw [hee x hx]; exact EW.out)) C6.out
          refine nx hK hS1 (fun hS => ?_)
          clear hK K hS1
          obtain ⟨A3, c3, rfl, _, _⟩ := Rp.Row_reads hr
          have hfw : ∀ x ∈ f, w.heap.size ≤ x := fun x hx => (hf x hx).elim (fun h => by simp at h; rw [h]; exact EW.out) (fun h => Nat.le_trans HB.out.size h)
          have GR : Aside0 (Rp.Got rB 5 w.heap.size wd15 (.slice A3 (bytesOf b).length c3) (bytesOf b)) := ⟨⟨f, hr, hn, hfw⟩⟩
          clear hfw
          replace GK := Aside0.mk (kp.blk GK.out (fun hm => Rp.Row_not EM.out GK.out (by decide) (by rw [hee _ hm]; simp)))
          replace BK := Aside0.mk (kp.blk BK.out nbk)
          replace HB := Aside0.mk (kp.toBelow HB.out HB.out.size (fun x hx => by rw [hee x hx]; exact EW.out))
          clear EM EW nbk hee kp hg hf hn hr
          refine pu 13 32767 ?_
          exact norm_ (by simp only [putAll, Act.put, List.setIfInBounds_toArray, List.set_cons_zero, List.set_cons_succ]) (hCont (.slice A3 (bytesOf b).length c3, g, ge) _ ⟨hS, GR.out, BK.out, GK.out, GW.out, HB.out⟩)
      · skip
        refine va ?_
        refine nx hK (pw_cell_below (below_alloc (Below.refl _ _) _) hS) (fun hS => ?_)
        clear hK K
        generalize hg : wd10.heap.size = g at hS ⊢
        generalize hw3 : wd10.alloc _ = wd16 at hS ⊢
        obtain ⟨K3, hb3, hsz⟩ := alloc1 hw3
        clear hw3 hsz
        rw [hg] at K3
        have GW : Aside0 (w.heap.size < g) := ⟨by rw [← hg]; exact blk_lt BK.out⟩
        replace BK := Aside0.mk (blk_below BK.out hb3)
        replace EM := Aside0.mk (Rp.Row_below EM.out hb3)
        replace HB := Aside0.mk (below_then HB.out HB.out.size hb3)
        have GK := Aside0.mk K3
        clear K3 hb3 hg
        refine on 2 20471 (fun K hK => ?_)
        refine ca (l1get_c _ _ _ _ (HC1.out _ (Kd.C_below HX.out HB.out))) Try.func163 ?_
        rintro e wd17 ⟨rfl, hE⟩
        have hE := hE.symm
        subst hE
        refine ⟨_, rfl, nx hK hS (fun hS => ?_)⟩
        clear hK K
        refine pu 3 20479 ?_
        refine on 12 24575 (fun K hK => ?_)
        refine Rp.app_row_step (enc := Value.int .u8) (h1 := fun _ => rfl) (by rfl) (.tmp 21) (.tmp 28) 22 5 (.int .u8 0) 1 (by rfl) Try.underlying22 info5 rfl (by decide) (.slice (some ⟨ge, 0, none⟩) 0 0) [] (bytesOf b) A2 (bytesOf b).length (c - 8) (by rfl) (by rfl) EM.out (HC2.out _ (Kd.C_below HX.out HB.out)) (by simp; omega) ?_
        intro v wd18 f hr hn hf hg
        rw [List.nil_append] at hr
        have kp := Kp.grown hg
        have hee : ∀ x ∈ (Value.slice (some ⟨ge, 0, none⟩) 0 0).ownBlock.toList, x = ge := fun x hx => by simp [Value.ownBlock] at hx; omega
        have nbk : w.heap.size ∉ (Value.slice (some ⟨ge, 0, none⟩) 0 0).ownBlock.toList := fun hm => Rp.Row_not EM.out BK.out (by decide) (by rw [hee _ hm]; simp)
        have hS1 : wd18.cell? ⟨ad.block, ad.off + 6, none⟩ = some (.int .u8 (rd b 6)) := pw_cell_below (kp.toBelow HB.out HB.out.size (fun x hx => by rw [hee x hx]; exact EW.out)) C6.out
        refine nx hK hS1 (fun hS => ?_)
        clear hK K hS1
        obtain ⟨A3, c3, rfl, _, _⟩ := Rp.Row_reads hr
        have hfw : ∀ x ∈ f, w.heap.size ≤ x := fun x hx => (hf x hx).elim (fun h => by simp at h; rw [h]; exact EW.out) (fun h => Nat.le_trans HB.out.size h)
        have GR : Aside0 (Rp.Got rB 5 w.heap.size wd18 (.slice A3 (bytesOf b).length c3) (bytesOf b)) := ⟨⟨f, hr, hn, hfw⟩⟩
        clear hfw
        replace GK := Aside0.mk (kp.blk GK.out (fun hm => Rp.Row_not EM.out GK.out (by decide) (by rw [hee _ hm]; simp)))
        replace BK := Aside0.mk (kp.blk BK.out nbk)
        replace HB := Aside0.mk (kp.toBelow HB.out HB.out.size (fun x hx => by rw [hee x hx]; exact EW.out))
        clear EM EW nbk hee kp hg hf hn hr
        refine pu 13 32767 ?_
        exact norm_ (by simp only [putAll, Act.put, List.setIfInBounds_toArray, List.set_cons_zero, List.set_cons_succ]) (hCont (.slice A3 (bytesOf b).length c3, g, ge) _ ⟨hS, GR.out, BK.out, GK.out, GW.out, HB.out⟩)
    · skip
      refine va ?_
      refine nx hK (pw_cell_below (below_alloc (Below.refl _ _) _) hS) (fun hS => ?_)
      clear hK K
      generalize hg : w1.heap.size = g at hS ⊢
      generalize hw3 : w1.alloc _ = wd19 at hS ⊢
      obtain ⟨K3, hb3, hsz⟩ := alloc1 hw3
      clear hw3 hsz
      rw [hg] at K3
      have GW : Aside0 (w.heap.size < g) := ⟨by rw [← hg]; exact blk_lt BK.out⟩
      replace BK := Aside0.mk (blk_below BK.out hb3)
      replace HB := Aside0.mk (below_then HB.out HB.out.size hb3)
      have GK := Aside0.mk K3
      clear K3 hb3 hg
      refine tw 2 4 20455 20467 (fun K hK => ?_) (fun K hK => ?_)
      · skip
        refine ca (l1get_c _ _ _ _ (HC1.out _ (Kd.C_below HX.out HB.out))) Try.func163 ?_
        rintro e wd20 ⟨rfl, hE⟩
        have hE := hE.symm
        subst hE
        refine ⟨_, rfl, nx hK hS (fun hS => ?_)⟩
        clear hK K
        refine pu 3 20463 ?_
        refine on 4 20479 (fun K hK => ?_)
        refine va ?_
        refine nx hK (pw_cell_below (below_alloc (Below.refl _ _) _) hS) (fun hS => ?_)
        clear hK K
        have EM0 := empty_row wd19
        have hb3 := below_alloc (Below.refl _ wd19) (.cells #[] 5)
        have EW : Aside0 (w.heap.size ≤ wd19.heap.size) := ⟨HB.out.size⟩
        generalize wd19.alloc _ = wd21 at hS EM0 hb3 ⊢
        replace BK := Aside0.mk (blk_below BK.out hb3)
        replace GK := Aside0.mk (blk_below GK.out hb3)
        replace HB := Aside0.mk (below_then HB.out HB.out.size hb3)
        clear hb3
        generalize wd19.heap.size = ge at EM0 EW hS ⊢
        have EM := Aside0.mk EM0
        clear EM0
        refine on 12 24575 (fun K hK => ?_)
        refine Rp.app_row_step (enc := Value.int .u8) (h1 := fun _ => rfl) (by rfl) (.tmp 21) (.tmp 28) 22 5 (.int .u8 0) 1 (by rfl) Try.underlying22 info5 rfl (by decide) (.slice (some ⟨ge, 0, none⟩) 0 0) [] (bytesOf b) A2 (bytesOf b).length (c - 8) (by rfl) (by rfl) EM.out (HC2.out _ (Kd.C_below HX.out HB.out)) (by simp; omega) ?_
        intro v wd22 f hr hn hf hg
        rw [List.nil_append] at hr
        have kp := Kp.grown hg
        have hee : ∀ x ∈ (Value.slice (some ⟨ge, 0, none⟩) 0 0).ownBlock.toList, x = ge := fun x hx => by simp [Value.ownBlock] at hx; omega
        have nbk : w.heap.size ∉ (Value.slice (some ⟨ge, 0, none⟩) 0 0).ownBlock.toList := fun hm => Rp.Row_not EM.out BK.out (by decide) (by rw [hee _ hm]; simp)
        have hS1 : wd22.cell? ⟨ad.block, ad.off + 6, none⟩ = some (.int .u8 (rd b 6)) := pw_cell_below (kp.toBelow HB.out HB.out.size (fun x hx => by rw [hee x hx]; exact EW.out)) C6.out
        refine nx hK hS1 (fun hS => ?_)
        clear hK K hS1
        obtain ⟨A3, c3, rfl, _, _⟩ := Rp.Row_reads hr
        have hfw : ∀ x ∈ f, w.heap.size ≤ x := fun x hx => (hf x hx).elim (fun h => by simp at h; rw [h]; exact EW.out) (fun h => Nat.le_trans HB.out.size h)
        have GR : Aside0 (Rp.Got rB 5 w.heap.size wd22 (.slice A3 (bytesOf b).length c3) (bytesOf b)) := ⟨⟨f, hr, hn, hfw⟩⟩
        clear hfw
        replace GK := Aside0.mk (kp.blk GK.out (fun hm => Rp.Row_not EM.out GK.out (by decide) (by rw [hee _ hm]; simp)))
        replace BK := Aside0.mk (kp.blk BK.out nbk)
        replace HB := Aside0.mk (kp.toBelow HB.out HB.out.size (fun x hx => by rw [hee x hx]; exact EW.out))
        clear EM EW nbk hee kp hg hf hn hr
        refine pu 13 32767 ?_
        exact norm_ (by simp only [putAll, Act.put, List.setIfInBounds_toArray, List.set_cons_zero, List.set_cons_succ]) (hCont (.slice A3 (bytesOf b).length c3, g, ge) _ ⟨hS, GR.out, BK.out, GK.out, GW.out, HB.out⟩)
      · skip
        refine va ?_
        refine nx hK (pw_cell_below (below_alloc (Below.refl _ _) _) hS) (fun hS => ?_)
        clear hK K
        have EM0 := empty_row wd19
        have hb3 := below_alloc (Below.refl _ wd19) (.cells #[] 5)
        have EW : Aside0 (w.heap.size ≤ wd19.heap.size) := ⟨HB.out.size⟩
        generalize wd19.alloc _ = wd23 at hS EM0 hb3 ⊢
        replace BK := Aside0.mk (blk_below BK.out hb3)
        replace GK := Aside0.mk (blk_below GK.out hb3)
        replace HB := Aside0.mk (below_then HB.out HB.out.size hb3)
        clear hb3
        generalize wd19.heap.size = ge at EM0 EW hS ⊢
        have EM := Aside0.mk EM0
        clear EM0
        refine on 2 20471 (fun K hK => ?_)
        refine ca (l1get_c _ _ _ _ (HC1.out _ (Kd.C_below HX.out HB.out))) Try.func163 ?_
        rintro e wd24 ⟨rfl, hE⟩
        have hE := hE.symm
        subst hE
        refine ⟨_, rfl, nx hK hS (fun hS => ?_)⟩
        clear hK K
        refine pu 3 20479 ?_
        refine on 12 24575 (fun K hK => ?_)
        refine Rp.app_row_step (enc := Value.int .u8) (h1 := fun _ => rfl) (by rfl) (.tmp 21) (.tmp 28) 22 5 (.int .u8 0) 1 (by rfl) Try.underlying22 info5 rfl (by decide) (.slice (some ⟨ge, 0, none⟩) 0 0) [] (bytesOf b) A2 (bytesOf b).length (c - 8) (by rfl) (by rfl) EM.out (HC2.out _ (Kd.C_below HX.out HB.out)) (by simp; omega) ?_
        intro v wd25 f hr hn hf hg
        rw [List.nil_append] at hr
        have kp := Kp.grown hg
        have hee : ∀ x ∈ (Value.slice (some ⟨ge, 0, none⟩) 0 0).ownBlock.toList, x = ge := fun x hx => by simp [Value.ownBlock] at hx; omega
        have nbk : w.heap.size ∉ (Value.slice (some ⟨ge, 0, none⟩) 0 0).ownBlock.toList := fun hm => Rp.Row_not EM.out BK.out (by decide) (by rw [hee _ hm]; simp)
        have hS1 : wd25.cell? ⟨ad.block, ad.off + 6, none⟩ = some (.int .u8 (rd b 6)) := pw_cell_below (kp.toBelow HB.out HB.out.size (fun x hx => by rw [hee x hx]; exact EW.out)) C6.out
        refine nx hK hS1 (fun hS => ?_)
        clear hK K hS1
        obtain ⟨A3, c3, rfl, _, _⟩ := Rp.Row_reads hr
        have hfw : ∀ x ∈ f, w.heap.size ≤ x := fun x hx => (hf x hx).elim (fun h => by simp at h; rw [h]; exact EW.out) (fun h => Nat.le_trans HB.out.size h)
        have GR : Aside0 (Rp.Got rB 5 w.heap.size wd25 (.slice A3 (bytesOf b).length c3) (bytesOf b)) := ⟨⟨f, hr, hn, hfw⟩⟩
        clear hfw
        replace GK := Aside0.mk (kp.blk GK.out (fun hm => Rp.Row_not EM.out GK.out (by decide) (by rw [hee _ hm]; simp)))
        replace BK := Aside0.mk (kp.blk BK.out nbk)
        replace HB := Aside0.mk (kp.toBelow HB.out HB.out.size (fun x hx => by rw [hee x hx]; exact EW.out))
        clear EM EW nbk hee kp hg hf hn hr
        refine pu 13 32767 ?_
        exact norm_ (by simp only [putAll, Act.put, List.setIfInBounds_toArray, List.set_cons_zero, List.set_cons_succ]) (hCont (.slice A3 (bytesOf b).length c3, g, ge) _ ⟨hS, GR.out, BK.out, GK.out, GW.out, HB.out⟩)
  rintro ⟨v, g, ge⟩ wj ⟨hS, GR, BK0, GK, GW, HB0⟩
  clear BK HB
  have GW : w.heap.size < g := GW
  have GK : wj.heap[g]? = some (.cells #[.bool false, .int .i64 0, .slice none 0 0] 138 (0, 0)) := GK
  refine norm_ (a' := ?_) ?_ ?_
  rotate_left
  · simp only [putAll, Act.put, List.setIfInBounds_toArray, List.set_cons_zero, List.set_cons_succ]
    rfl
  obtain ⟨f, hr, hn, hf⟩ := GR
  obtain ⟨A3, c3, rfl, _, _⟩ := Rp.Row_reads hr
  have d0 := (blk_cell GK 0).trans rfl; have d1 := (blk_cell GK 1).trans rfl; have d2 := (blk_cell GK 2).trans rfl
  have z0 := blk_frozen GK 0; have z1 := blk_frozen GK 1; have z2 := blk_frozen GK 2
  obtain ⟨GK2, q3⟩ := set3 GK (.bool true) (.int .i64 (wrap64 (numL (seg b 2 6)))) (.slice A3 (bytesOf b).length c3)
  refine on 15 65535 (fun K hK => ?_)
  refine st ?_
  have HR := Aside0.mk (q3.row hr (fun x hx hm => Rp.Row_not hr GK (by decide) (by simp at hm; exact hm ▸ hx)))
  have BK := Aside0.mk (q3.blk BK0 (by simp; omega))
  have HB := Aside0.mk (q3.toBelow HB0 HB0.size (fun x hx => by simp at hx; omega))
  have GK := Aside0.mk GK2
  have HN := Aside0.mk hn; have HF := Aside0.mk hf
  refine nx hK (pw_cell_below HB.out C6.out) (fun hS => dn ?_)
  clear hK K hS d0 d1 d2 z0 z1 z2 q3 GK2 hr hn hf BK0 HB0
  generalize ((wj.setCell _ _).setCell _ _).setCell _ _ = w3 at HR BK HB GK ⊢
  have HS := Aside0.mk hs; clear hs
  go_upto_region 4 with (fail)
  have y0 := (blk_cell GK.out 0).trans rfl; have y1 := (blk_cell GK.out 1).trans rfl; have y2 := (blk_cell GK.out 2).trans rfl
  go_wp2_with fail
  refine (HP.out _ _ _ (Rp.Row_C HR.out).2.2).mono ?_
  rintro e w5 ⟨vX, rfl, ⟨fX, hrX, hnX, hfX⟩, hb5⟩
  obtain ⟨AX, cX, rfl, _, _⟩ := Rp.Row_reads hrX
  replace HR := Aside0.mk (Rp.Row_below HR.out hb5); replace BK := Aside0.mk (blk_below BK.out hb5); replace GK := Aside0.mk (blk_below GK.out hb5); replace HB := Aside0.mk (below_then HB.out HB.out.size hb5)
  have HXX := Aside0.mk (Rp.Row_C hrX).2.2
  clear hb5 hrX hnX hfX y0 y1 y2
  have HBX := Aside0.mk (Kd.C_below HX.out HB.out)
  have hs := HS.out.symm
  subst hs
  clear HS HP
  go_wp2
  go_loopg [41] b.length (fun m vi wr => ∃ i : Int, vi = .int .i64 i ∧ Aside0 (0 ≤ i ∧ i ≤ b.length ∧ b.length - i.toNat ≤ m) ∧ Drawn0 w5 wr)
  case atStart => exact ⟨0, rfl, ⟨by simp⟩, Drawn0.refl _⟩
  case round =>
    obtain ⟨i, rfl, HI, ⟨m, rfl⟩⟩ := hrel
    by_cases hi : i < (b.length : Int)
    · have hi0 : 0 ≤ i := HI.out.1
      obtain ⟨ae, e1, x1⟩ := Kd.at_int HXX.out i hi0 hi
      cases e1
      obtain ⟨ab, e2, x2⟩ := Kd.at_int HBX.out i hi0 hi
      cases e2
      go_wp2
      repeat (go_quiet (fail); try go_wp2)
      go_roundg (gk - 1)
      case measure => have := HI.out; omega
      case rel => exact ⟨i + 1, rfl, ⟨by have := HI.out; omega, by have := HI.out; omega, by have := HI.out; omega⟩, by repeat (first | exact Drawn0.refl _ | apply Drawn0.step)⟩
    · replace HR := Aside0.mk (Rp.Row_drewN HR.out m); replace BK := Aside0.mk (blk_drewN BK.out m); replace GK := Aside0.mk (blk_drewN GK.out m); replace HB := Aside0.mk (pw_below_drewN HB.out m)
      generalize w5.drewN m = w5 at HR BK GK HB ⊢
      have y0 := (blk_cell GK.out 0).trans rfl; have y1 := (blk_cell GK.out 1).trans rfl; have y2 := (blk_cell GK.out 2).trans rfl
      have d0 := (blk_cell BK.out 0).trans rfl; have d1 := (blk_cell BK.out 1).trans rfl; have d2 := (blk_cell BK.out 2).trans rfl
      have z0 := blk_frozen BK.out 0; have z1 := blk_frozen BK.out 1; have z2 := blk_frozen BK.out 2
      go_wp2
      obtain ⟨BK2, q⟩ := set3 BK.out (.bool true) (.int .i64 (wrap64 (numL (seg b 2 6)))) (.slice A3 (bytesOf b).length c3)
      refine bodyPost_ret (results_cell_row rfl _ _ w.heap.size 138 #[.bool true, .int .i64 (wrap64 (numL (seg b 2 6))), .slice A3 (bytesOf b).length c3] (0, 0) _ rfl BK2 Try.underlying138 rfl (by kernel_rfl)) rfl ?_
      exact ⟨_, f, rfl, q.row HR.out (fun x hx hm => Rp.Row_not HR.out BK.out (by decide) (by simp at hm; exact hm ▸ hx)), HN.out, HF.out, q.toBelow HB.out HB.out.size (fun x hx => by simp at hx; omega)⟩
set_option maxHeartbeats 8000000 in
set_option maxRecDepth 100000 in
theorem specPageOf_n (A : Option Addr) (c : Nat) (b X : List Int) (w : World) (hx : kB.C w A b.length b) (hc : b.length ≤ c) (hb : BsOk b) (h64 : b.length = 64) (h56 : rd b 6 ≤ 56)
    (hp : ∀ (A : Option Addr) (c : Nat) (w : World), kB.C w A (bytesOf b).length (bytesOf b) → Calls Try.prog 132 #[.agg #[.bool true, .int .i64 (genOf b), .slice A (bytesOf b).length c]] w (GotRow rB 5 w X))
    (hlX : X.length ≤ 1000) (hs : X ≠ b) :
    Calls Try.prog 158 #[.slice A b.length c] w (GotPg w false 0 []) := by
  have hb6 := (hb.rd 6).1
  have hl1 : 63 < b.length := by omega
  have hl2 : b.length ≤ 64 := by omega
  have HX := Aside0.mk hx; have HP := Aside0.mk hp; clear hx hb h64 hp
  have hE2 : wrap64 (8 + wrap64 (rd b 6)) = 8 + rd b 6 := by unfold wrap64; omega
  obtain ⟨A1, hcut1, hC1, hle1⟩ := mid_c (A := A) (c := c) (xs := b) 2 6 2 6 rfl rfl (by omega) (by omega) (by omega) hc
  obtain ⟨A2, hcut2, hC2, hle2⟩ := mid_c (A := A) (c := c) (xs := b) 8 (wrap64 (8 + wrap64 (rd b 6))) 8 _ rfl rfl (by omega) (by omega) (by omega) hc
  have hsg : seg b 8 (wrap64 (8 + wrap64 (rd b 6))).toNat = bytesOf b := by rw [hE2]; unfold bytesOf; congr 1; omega
  rw [hsg] at hcut2 hC2
  have hbl : (bytesOf b).length ≤ 56 := by unfold bytesOf; rw [seg_len b (by omega)]; omega
  clear hE2 hsg
  obtain ⟨ad, e1, c6⟩ := Kd.at_int HX.out 6 (by omega) (by omega)
  cases e1
  have HC1 := Aside0.mk hC1; have HC2 := Aside0.mk hC2; clear hC1 hC2
  simp only [show (6 : Int).toNat = 6 from rfl, Go.Addr.add, Nat.reduceEqDiff, if_false] at c6
  have C6 := Aside0.mk c6
  have BK := Aside0.mk (blk_new w (.cells #[.bool false, .int .i64 0, .slice none 0 0] 138))
  have HB := Aside0.mk (below_alloc (Below.refl w.heap.size w) (.cells #[.bool false, .int .i64 0, .slice none 0 0] 138))
  go_enter Try.func158, Try.ntmps158
  go_upto_region 1 with (fail)
  replace c6 := pw_cell_below HB.out c6
  generalize w.alloc _ = w0 at BK HB c6 ⊢
  go_upto_region 3 with (fail)
  refine sta (fun w' => w'.cell? ⟨ad.block, ad.off + 6, none⟩ = some (.int .u8 (rd b 6))) [] 16 c6 (fun hS => ?_)
  replace BK := Aside0.mk (blk_drew BK.out); replace HB := Aside0.mk (below_drew HB.out)
  clear c6
  generalize w0.drew = w1 at BK HB hS ⊢
  refine pu 0 1 ?_
  refine pu 1 3 ?_
  refine pu 5 35 ?_
  refine pu 6 99 ?_
  refine pu 7 227 ?_
  refine tk 8 483 hS ?_
  refine pu 9 995 ?_
  refine pu 10 2019 ?_
  refine pu 11 4067 ?_
  refine join_ (σ := Value × Nat × Nat) 1 (bl 16 32767) (fun s => [(19, .int .u64 (numL (seg b 2 6))), (20, .int .i64 (wrap64 (numL (seg b 2 6)))), (21, .slice (some ⟨s.2.2, 0, none⟩) 0 0), (29, s.1), (30, .agg #[.bool true, .int .i64 (wrap64 (numL (seg b 2 6))), s.1]), (3, .pointer (some ⟨s.2.1, 0, none⟩))]) (fun s w' => w'.cell? ⟨ad.block, ad.off + 6, none⟩ = some (.int .u8 (rd b 6)) ∧ Rp.Got rB 5 w.heap.size w' s.1 (bytesOf b) ∧ w'.heap[w.heap.size]? = some (.cells #[.bool false, .int .i64 0, .slice none 0 0] 138 (0, 0)) ∧ w'.heap[s.2.1]? = some (.cells #[.bool false, .int .i64 0, .slice none 0 0] 138 (0, 0)) ∧ w.heap.size < s.2.1 ∧ Below w.heap.size w w') ?_ ?_
  rotate_left
  · intro hCont
    refine th 2 4 14 4071 4083 20451 (fun K hK => ?_) (fun K hK => ?_) (fun K hK => ?_)
    · skip
      refine ca (l1get_c _ _ _ _ (HC1.out _ (Kd.C_below HX.out HB.out))) Try.func163 ?_
      rintro e wd1 ⟨rfl, hE⟩
      have hE := hE.symm
      subst hE
      refine ⟨_, rfl, nx hK hS (fun hS => ?_)⟩
      clear hK K
      refine pu 3 4079 ?_
      refine tw 4 14 4095 20463 (fun K hK => ?_) (fun K hK => ?_)
      · skip
        refine va ?_
        refine nx hK (pw_cell_below (below_alloc (Below.refl _ _) _) hS) (fun hS => ?_)
        clear hK K
        have EM0 := empty_row w1
        have hb3 := below_alloc (Below.refl _ w1) (.cells #[] 5)
        have EW : Aside0 (w.heap.size ≤ w1.heap.size) := ⟨HB.out.size⟩
        generalize w1.alloc _ = wd2 at hS EM0 hb3 ⊢
        replace BK := Aside0.mk (blk_below BK.out hb3)
        replace HB := Aside0.mk (below_then HB.out HB.out.size hb3)
        clear hb3
        generalize w1.heap.size = ge at EM0 EW hS ⊢
        have EM := Aside0.mk EM0
        clear EM0
        refine tw 12 14 8191 20479 (fun K hK => ?_) (fun K hK => ?_)
        · skip
          refine Rp.app_row_step (enc := Value.int .u8) (h1 := fun _ => rfl) (by rfl) (.tmp 21) (.tmp 28) 22 5 (.int .u8 0) 1 (by rfl) Try.underlying22 info5 rfl (by decide) (.slice (some ⟨ge, 0, none⟩) 0 0) [] (bytesOf b) A2 (bytesOf b).length (c - 8) (by rfl) (by rfl) EM.out (HC2.out _ (Kd.C_below HX.out HB.out)) (by simp; omega) ?_
          intro v wd3 f hr hn hf hg
          rw [List.nil_append] at hr
          have kp := Kp.grown hg
          have hee : ∀ x ∈ (Value.slice (some ⟨ge, 0, none⟩) 0 0).ownBlock.toList, x = ge := fun x hx => by simp [Value.ownBlock] at hx; omega
          have nbk : w.heap.size ∉ (Value.slice (some ⟨ge, 0, none⟩) 0 0).ownBlock.toList := fun hm => Rp.Row_not EM.out BK.out (by decide) (by rw [hee _ hm]; simp)
          have hS1 : wd3.cell? ⟨ad.block, ad.off + 6, none⟩ = some (.int .u8 (rd b 6)) := pw_cell_below (kp.toBelow HB.out HB.out.size (fun x hx => by rw [hee x hx]; exact EW.out)) C6.out
          refine nx hK hS1 (fun hS => ?_)
          clear hK K hS1
          obtain ⟨A3, c3, rfl, _, _⟩ := Rp.Row_reads hr
          have hfw : ∀ x ∈ f, w.heap.size ≤ x := fun x hx => (hf x hx).elim (fun h => by simp at h; rw [h]; exact EW.out) (fun h => Nat.le_trans HB.out.size h)
          have GR : Aside0 (Rp.Got rB 5 w.heap.size wd3 (.slice A3 (bytesOf b).length c3) (bytesOf b)) := ⟨⟨f, hr, hn, hfw⟩⟩
          clear hfw
          replace BK := Aside0.mk (kp.blk BK.out nbk)
          replace HB := Aside0.mk (kp.toBelow HB.out HB.out.size (fun x hx => by rw [hee x hx]; exact EW.out))
          clear EM EW nbk hee kp hg hf hn hr
          refine pu 13 16383 ?_
          refine on 14 32767 (fun K hK => ?_)
          refine va ?_
          refine nx hK (pw_cell_below (below_alloc (Below.refl _ _) _) hS) (fun hS => ?_)
          clear hK K
          generalize hg : wd3.heap.size = g at hS ⊢
          generalize hw3 : wd3.alloc _ = wd4 at hS ⊢
          obtain ⟨K3, hb3, hsz⟩ := alloc1 hw3
          clear hw3 hsz
          rw [hg] at K3
          have GW : Aside0 (w.heap.size < g) := ⟨by rw [← hg]; exact blk_lt BK.out⟩
          replace BK := Aside0.mk (blk_below BK.out hb3)
          replace GR := Aside0.mk (got_below GR.out hb3)
          replace HB := Aside0.mk (below_then HB.out HB.out.size hb3)
          have GK := Aside0.mk K3
          clear K3 hb3 hg
          exact norm_ (by simp only [putAll, Act.put, List.setIfInBounds_toArray, List.set_cons_zero, List.set_cons_succ]) (hCont (.slice A3 (bytesOf b).length c3, g, ge) _ ⟨hS, GR.out, BK.out, GK.out, GW.out, HB.out⟩)
        · skip
          refine va ?_
          refine nx hK (pw_cell_below (below_alloc (Below.refl _ _) _) hS) (fun hS => ?_)
          clear hK K
          generalize hg : wd2.heap.size = g at hS ⊢
          generalize hw3 : wd2.alloc _ = wd5 at hS ⊢
          obtain ⟨K3, hb3, hsz⟩ := alloc1 hw3
          clear hw3 hsz
          rw [hg] at K3
          have GW : Aside0 (w.heap.size < g) := ⟨by rw [← hg]; exact blk_lt BK.out⟩
          replace BK := Aside0.mk (blk_below BK.out hb3)
          replace EM := Aside0.mk (Rp.Row_below EM.out hb3)
          replace HB := Aside0.mk (below_then HB.out HB.out.size hb3)
          have GK := Aside0.mk K3
          clear K3 hb3 hg
          refine on 12 24575 (fun K hK => ?_)
          refine Rp.app_row_step (enc := Value.int .u8) (h1 := fun _ => rfl) (by rfl) (.tmp 21) (.tmp 28) 22 5 (.int .u8 0) 1 (by rfl) Try.underlying22 info5 rfl (by decide) (.slice (some ⟨ge, 0, none⟩) 0 0) [] (bytesOf b) A2 (bytesOf b).length (c - 8) (by rfl) (by rfl) EM.out (HC2.out _ (Kd.C_below HX.out HB.out)) (by simp; omega) ?_
          intro v wd6 f hr hn hf hg
          rw [List.nil_append] at hr
          have kp := Kp.grown hg
          have hee : ∀ x ∈ (Value.slice (some ⟨ge, 0, none⟩) 0 0).ownBlock.toList, x = ge := fun x hx => by simp [Value.ownBlock] at hx; omega
          have nbk : w.heap.size ∉ (Value.slice (some ⟨ge, 0, none⟩) 0 0).ownBlock.toList := fun hm => Rp.Row_not EM.out BK.out (by decide) (by rw [hee _ hm]; simp)
          have hS1 : wd6.cell? ⟨ad.block, ad.off + 6, none⟩ = some (.int .u8 (rd b 6)) := pw_cell_below (kp.toBelow HB.out HB.out.size (fun x hx => by rw [hee x hx]; exact EW.out)) C6.out
          refine nx hK hS1 (fun hS => ?_)
          clear hK K hS1
          obtain ⟨A3, c3, rfl, _, _⟩ := Rp.Row_reads hr
          have hfw : ∀ x ∈ f, w.heap.size ≤ x := fun x hx => (hf x hx).elim (fun h => by simp at h; rw [h]; exact EW.out) (fun h => Nat.le_trans HB.out.size h)
          have GR : Aside0 (Rp.Got rB 5 w.heap.size wd6 (.slice A3 (bytesOf b).length c3) (bytesOf b)) := ⟨⟨f, hr, hn, hfw⟩⟩
          clear hfw
          replace GK := Aside0.mk (kp.blk GK.out (fun hm => Rp.Row_not EM.out GK.out (by decide) (by rw [hee _ hm]; simp)))
          replace BK := Aside0.mk (kp.blk BK.out nbk)
          replace HB := Aside0.mk (kp.toBelow HB.out HB.out.size (fun x hx => by rw [hee x hx]; exact EW.out))
          clear EM EW nbk hee kp hg hf hn hr
          refine pu 13 32767 ?_
          exact norm_ (by simp only [putAll, Act.put, List.setIfInBounds_toArray, List.set_cons_zero, List.set_cons_succ]) (hCont (.slice A3 (bytesOf b).length c3, g, ge) _ ⟨hS, GR.out, BK.out, GK.out, GW.out, HB.out⟩)
      · skip
        refine va ?_
        refine nx hK (pw_cell_below (below_alloc (Below.refl _ _) _) hS) (fun hS => ?_)
        clear hK K
        generalize hg : w1.heap.size = g at hS ⊢
        generalize hw3 : w1.alloc _ = wd7 at hS ⊢
        obtain ⟨K3, hb3, hsz⟩ := alloc1 hw3
        clear hw3 hsz
        rw [hg] at K3
        have GW : Aside0 (w.heap.size < g) := ⟨by rw [← hg]; exact blk_lt BK.out⟩
        replace BK := Aside0.mk (blk_below BK.out hb3)
        replace HB := Aside0.mk (below_then HB.out HB.out.size hb3)
        have GK := Aside0.mk K3
        clear K3 hb3 hg
        refine on 4 20479 (fun K hK => ?_)
        refine va ?_
        refine nx hK (pw_cell_below (below_alloc (Below.refl _ _) _) hS) (fun hS => ?_)
        clear hK K
        have EM0 := empty_row wd7
        have hb3 := below_alloc (Below.refl _ wd7) (.cells #[] 5)
        have EW : Aside0 (w.heap.size ≤ wd7.heap.size) := ⟨HB.out.size⟩
        generalize wd7.alloc _ = wd8 at hS EM0 hb3 ⊢
        replace BK := Aside0.mk (blk_below BK.out hb3)
        replace GK := Aside0.mk (blk_below GK.out hb3)
        replace HB := Aside0.mk (below_then HB.out HB.out.size hb3)
        clear hb3
        generalize wd7.heap.size = ge at EM0 EW hS ⊢
        have EM := Aside0.mk EM0
        clear EM0
        refine on 12 24575 (fun K hK => ?_)
        refine Rp.app_row_step (enc := Value.int .u8) (h1 := fun _ => rfl) (by rfl) (.tmp 21) (.tmp 28) 22 5 (.int .u8 0) 1 (by rfl) Try.underlying22 info5 rfl (by decide) (.slice (some ⟨ge, 0, none⟩) 0 0) [] (bytesOf b) A2 (bytesOf b).length (c - 8) (by rfl) (by rfl) EM.out (HC2.out _ (Kd.C_below HX.out HB.out)) (by simp; omega) ?_
        intro v wd9 f hr hn hf hg
        rw [List.nil_append] at hr
        have kp := Kp.grown hg
        have hee : ∀ x ∈ (Value.slice (some ⟨ge, 0, none⟩) 0 0).ownBlock.toList, x = ge := fun x hx => by simp [Value.ownBlock] at hx; omega
        have nbk : w.heap.size ∉ (Value.slice (some ⟨ge, 0, none⟩) 0 0).ownBlock.toList := fun hm => Rp.Row_not EM.out BK.out (by decide) (by rw [hee _ hm]; simp)
        have hS1 : wd9.cell? ⟨ad.block, ad.off + 6, none⟩ = some (.int .u8 (rd b 6)) := pw_cell_below (kp.toBelow HB.out HB.out.size (fun x hx => by rw [hee x hx]; exact EW.out)) C6.out
        refine nx hK hS1 (fun hS => ?_)
        clear hK K hS1
        obtain ⟨A3, c3, rfl, _, _⟩ := Rp.Row_reads hr
        have hfw : ∀ x ∈ f, w.heap.size ≤ x := fun x hx => (hf x hx).elim (fun h => by simp at h; rw [h]; exact EW.out) (fun h => Nat.le_trans HB.out.size h)
        have GR : Aside0 (Rp.Got rB 5 w.heap.size wd9 (.slice A3 (bytesOf b).length c3) (bytesOf b)) := ⟨⟨f, hr, hn, hfw⟩⟩
        clear hfw
        replace GK := Aside0.mk (kp.blk GK.out (fun hm => Rp.Row_not EM.out GK.out (by decide) (by rw [hee _ hm]; simp)))
        replace BK := Aside0.mk (kp.blk BK.out nbk)
        replace HB := Aside0.mk (kp.toBelow HB.out HB.out.size (fun x hx => by rw [hee x hx]; exact EW.out))
        clear EM EW nbk hee kp hg hf hn hr
        refine pu 13 32767 ?_
        exact norm_ (by simp only [putAll, Act.put, List.setIfInBounds_toArray, List.set_cons_zero, List.set_cons_succ]) (hCont (.slice A3 (bytesOf b).length c3, g, ge) _ ⟨hS, GR.out, BK.out, GK.out, GW.out, HB.out⟩)
    · skip
      refine va ?_
      refine nx hK (pw_cell_below (below_alloc (Below.refl _ _) _) hS) (fun hS => ?_)
      clear hK K
      have EM0 := empty_row w1
      have hb3 := below_alloc (Below.refl _ w1) (.cells #[] 5)
      have EW : Aside0 (w.heap.size ≤ w1.heap.size) := ⟨HB.out.size⟩
      generalize w1.alloc _ = wd10 at hS EM0 hb3 ⊢
      replace BK := Aside0.mk (blk_below BK.out hb3)
      replace HB := Aside0.mk (below_then HB.out HB.out.size hb3)
      clear hb3
      generalize w1.heap.size = ge at EM0 EW hS ⊢
      have EM := Aside0.mk EM0
      clear EM0
      refine tw 2 14 4087 20467 (fun K hK => ?_) (fun K hK => ?_)
      · skip
        refine ca (l1get_c _ _ _ _ (HC1.out _ (Kd.C_below HX.out HB.out))) Try.func163 ?_
        rintro e wd11 ⟨rfl, hE⟩
        have hE := hE.symm
        subst hE
        refine ⟨_, rfl, nx hK hS (fun hS => ?_)⟩
        clear hK K
        refine pu 3 4095 ?_
        refine tw 12 14 8191 20479 (fun K hK => ?_) (fun K hK => ?_)
        · skip
          refine Rp.app_row_step (enc := Value.int .u8) (h1 := fun _ => rfl) (by rfl) (.tmp 21) (.tmp 28) 22 5 (.int .u8 0) 1 (by rfl) Try.underlying22 info5 rfl (by decide) (.slice (some ⟨ge, 0, none⟩) 0 0) [] (bytesOf b) A2 (bytesOf b).length (c - 8) (by rfl) (by rfl) EM.out (HC2.out _ (Kd.C_below HX.out HB.out)) (by simp; omega) ?_
          intro v wd12 f hr hn hf hg
          rw [List.nil_append] at hr
          have kp := Kp.grown hg
          have hee : ∀ x ∈ (Value.slice (some ⟨ge, 0, none⟩) 0 0).ownBlock.toList, x = ge := fun x hx => by simp [Value.ownBlock] at hx; omega
          have nbk : w.heap.size ∉ (Value.slice (some ⟨ge, 0, none⟩) 0 0).ownBlock.toList := fun hm => Rp.Row_not EM.out BK.out (by decide) (by rw [hee _ hm]; simp)
          have hS1 : wd12.cell? ⟨ad.block, ad.off + 6, none⟩ = some (.int .u8 (rd b 6)) := pw_cell_below (kp.toBelow HB.out HB.out.size (fun x hx => by rw [hee x hx]; exact EW.out)) C6.out
          refine nx hK hS1 (fun hS => ?_)
          clear hK K hS1
          obtain ⟨A3, c3, rfl, _, _⟩ := Rp.Row_reads hr
          have hfw : ∀ x ∈ f, w.heap.size ≤ x := fun x hx => (hf x hx).elim (fun h => by simp at h; rw [h]; exact EW.out) (fun h => Nat.le_trans HB.out.size h)
          have GR : Aside0 (Rp.Got rB 5 w.heap.size wd12 (.slice A3 (bytesOf b).length c3) (bytesOf b)) := ⟨⟨f, hr, hn, hfw⟩⟩
          clear hfw
          replace BK := Aside0.mk (kp.blk BK.out nbk)
          replace HB := Aside0.mk (kp.toBelow HB.out HB.out.size (fun x hx => by rw [hee x hx]; exact EW.out))
          clear EM EW nbk hee kp hg hf hn hr
          refine pu 13 16383 ?_
          refine on 14 32767 (fun K hK => ?_)
          refine va ?_
          refine nx hK (pw_cell_below (below_alloc (Below.refl _ _) _) hS) (fun hS => ?_)
          clear hK K
          generalize hg : wd12.heap.size = g at hS ⊢
          generalize hw3 : wd12.alloc _ = wd13 at hS ⊢
          obtain ⟨K3, hb3, hsz⟩ := alloc1 hw3
          clear hw3 hsz
          rw [hg] at K3
          have GW : Aside0 (w.heap.size < g) := ⟨by rw [← hg]; exact blk_lt BK.out⟩
          replace BK := Aside0.mk (blk_below BK.out hb3)
          replace GR := Aside0.mk (got_below GR.out hb3)
          replace HB := Aside0.mk (below_then HB.out HB.out.size hb3)
          have GK := Aside0.mk K3
          clear K3 hb3 hg
          exact norm_ (by simp only [putAll, Act.put, List.setIfInBounds_toArray, List.set_cons_zero, List.set_cons_succ]) (hCont (.slice A3 (bytesOf b).length c3, g, ge) _ ⟨hS, GR.out, BK.out, GK.out, GW.out, HB.out⟩)
        · skip
          refine va ?_
          refine nx hK (pw_cell_below (below_alloc (Below.refl _ _) _) hS) (fun hS => ?_)
          clear hK K
          generalize hg : wd10.heap.size = g at hS ⊢
          generalize hw3 : wd10.alloc _ = wd14 at hS ⊢
          obtain ⟨K3, hb3, hsz⟩ := alloc1 hw3
          clear hw3 hsz
          rw [hg] at K3
          have GW : Aside0 (w.heap.size < g) := ⟨by rw [← hg]; exact blk_lt BK.out⟩
          replace BK := Aside0.mk (blk_below BK.out hb3)
          replace EM := Aside0.mk (Rp.Row_below EM.out hb3)
          replace HB := Aside0.mk (below_then HB.out HB.out.size hb3)
          have GK := Aside0.mk K3
          clear K3 hb3 hg
          refine on 12 24575 (fun K hK => ?_)
          refine Rp.app_row_step (enc := Value.int .u8) (h1 := fun _ => rfl) (by rfl) (.tmp 21) (.tmp 28) 22 5 (.int .u8 0) 1 (by rfl) Try.underlying22 info5 rfl (by decide) (.slice (some ⟨ge, 0, none⟩) 0 0) [] (bytesOf b) A2 (bytesOf b).length (c - 8) (by rfl) (by rfl) EM.out (HC2.out _ (Kd.C_below HX.out HB.out)) (by simp; omega) ?_
          intro v wd15 f hr hn hf hg
          rw [List.nil_append] at hr
          have kp := Kp.grown hg
          have hee : ∀ x ∈ (Value.slice (some ⟨ge, 0, none⟩) 0 0).ownBlock.toList, x = ge := fun x hx => by simp [Value.ownBlock] at hx; omega
          have nbk : w.heap.size ∉ (Value.slice (some ⟨ge, 0, none⟩) 0 0).ownBlock.toList := fun hm => Rp.Row_not EM.out BK.out (by decide) (by rw [hee _ hm]; simp)
          have hS1 : wd15.cell? ⟨ad.block, ad.off + 6, none⟩ = some (.int .u8 (rd b 6)) := pw_cell_below (kp.toBelow HB.out HB.out.size (fun x hx => by rw [hee x hx]; exact EW.out)) C6.out
          refine nx hK hS1 (fun hS => ?_)
          clear hK K hS1
          obtain ⟨A3, c3, rfl, _, _⟩ := Rp.Row_reads hr
          have hfw : ∀ x ∈ f, w.heap.size ≤ x := fun x hx => (hf x hx).elim (fun h => by simp at h; rw [h]; exact EW.out) (fun h => Nat.le_trans HB.out.size h)
          have GR : Aside0 (Rp.Got rB 5 w.heap.size wd15 (.slice A3 (bytesOf b).length c3) (bytesOf b)) := ⟨⟨f, hr, hn, hfw⟩⟩
          clear hfw
          replace GK := Aside0.mk (kp.blk GK.out (fun hm => Rp.Row_not EM.out GK.out (by decide) (by rw [hee _ hm]; simp)))
          replace BK := Aside0.mk (kp.blk BK.out nbk)
          replace HB := Aside0.mk (kp.toBelow HB.out HB.out.size (fun x hx => by rw [hee x hx]; exact EW.out))
          clear EM EW nbk hee kp hg hf hn hr
          refine pu 13 32767 ?_
          exact norm_ (by simp only [putAll, Act.put, List.setIfInBounds_toArray, List.set_cons_zero, List.set_cons_succ]) (hCont (.slice A3 (bytesOf b).length c3, g, ge) _ ⟨hS, GR.out, BK.out, GK.out, GW.out, HB.out⟩)
      · skip
        refine va ?_
        refine nx hK (pw_cell_below (below_alloc (Below.refl _ _) _) hS) (fun hS => ?_)
        clear hK K
        generalize hg : wd10.heap.size = g at hS ⊢
        generalize hw3 : wd10.alloc _ = wd16 at hS ⊢
        obtain ⟨K3, hb3, hsz⟩ := alloc1 hw3
        clear hw3 hsz
        rw [hg] at K3
        have GW : Aside0 (w.heap.size < g) := ⟨by rw [← hg]; exact blk_lt BK.out⟩
        replace BK := Aside0.mk (blk_below BK.out hb3)
        replace EM := Aside0.mk (Rp.Row_below EM.out hb3)
        replace HB := Aside0.mk (below_then HB.out HB.out.size hb3)
        have GK := Aside0.mk K3
        clear K3 hb3 hg
        refine on 2 20471 (fun K hK => ?_)
        refine ca (l1get_c _ _ _ _ (HC1.out _ (Kd.C_below HX.out HB.out))) Try.func163 ?_
        rintro e wd17 ⟨rfl, hE⟩
        have hE := hE.symm
        subst hE
        refine ⟨_, rfl, nx hK hS (fun hS => ?_)⟩
        clear hK K
        refine pu 3 20479 ?_
        refine on 12 24575 (fun K hK => ?_)
        refine Rp.app_row_step (enc := Value.int .u8) (h1 := fun _ => rfl) (by rfl) (.tmp 21) (.tmp 28) 22 5 (.int .u8 0) 1 (by rfl) Try.underlying22 info5 rfl (by decide) (.slice (some ⟨ge, 0, none⟩) 0 0) [] (bytesOf b) A2 (bytesOf b).length (c - 8) (by rfl) (by rfl) EM.out (HC2.out _ (Kd.C_below HX.out HB.out)) (by simp; omega) ?_
        intro v wd18 f hr hn hf hg
        rw [List.nil_append] at hr
        have kp := Kp.grown hg
        have hee : ∀ x ∈ (Value.slice (some ⟨ge, 0, none⟩) 0 0).ownBlock.toList, x = ge := fun x hx => by simp [Value.ownBlock] at hx; omega
        have nbk : w.heap.size ∉ (Value.slice (some ⟨ge, 0, none⟩) 0 0).ownBlock.toList := fun hm => Rp.Row_not EM.out BK.out (by decide) (by rw [hee _ hm]; simp)
        have hS1 : wd18.cell? ⟨ad.block, ad.off + 6, none⟩ = some (.int .u8 (rd b 6)) := pw_cell_below (kp.toBelow HB.out HB.out.size (fun x hx => by rw [hee x hx]; exact EW.out)) C6.out
        refine nx hK hS1 (fun hS => ?_)
        clear hK K hS1
        obtain ⟨A3, c3, rfl, _, _⟩ := Rp.Row_reads hr
        have hfw : ∀ x ∈ f, w.heap.size ≤ x := fun x hx => (hf x hx).elim (fun h => by simp at h; rw [h]; exact EW.out) (fun h => Nat.le_trans HB.out.size h)
        have GR : Aside0 (Rp.Got rB 5 w.heap.size wd18 (.slice A3 (bytesOf b).length c3) (bytesOf b)) := ⟨⟨f, hr, hn, hfw⟩⟩
        clear hfw
        replace GK := Aside0.mk (kp.blk GK.out (fun hm => Rp.Row_not EM.out GK.out (by decide) (by rw [hee _ hm]; simp)))
        replace BK := Aside0.mk (kp.blk BK.out nbk)
        replace HB := Aside0.mk (kp.toBelow HB.out HB.out.size (fun x hx => by rw [hee x hx]; exact EW.out))
        clear EM EW nbk hee kp hg hf hn hr
        refine pu 13 32767 ?_
        exact norm_ (by simp only [putAll, Act.put, List.setIfInBounds_toArray, List.set_cons_zero, List.set_cons_succ]) (hCont (.slice A3 (bytesOf b).length c3, g, ge) _ ⟨hS, GR.out, BK.out, GK.out, GW.out, HB.out⟩)
    · skip
      refine va ?_
      refine nx hK (pw_cell_below (below_alloc (Below.refl _ _) _) hS) (fun hS => ?_)
      clear hK K
      generalize hg : w1.heap.size = g at hS ⊢
      generalize hw3 : w1.alloc _ = wd19 at hS ⊢
      obtain ⟨K3, hb3, hsz⟩ := alloc1 hw3
      clear hw3 hsz
      rw [hg] at K3
      have GW : Aside0 (w.heap.size < g) := ⟨by rw [← hg]; exact blk_lt BK.out⟩
      replace BK := Aside0.mk (blk_below BK.out hb3)
      replace HB := Aside0.mk (below_then HB.out HB.out.size hb3)
      have GK := Aside0.mk K3
      clear K3 hb3 hg
      refine tw 2 4 20455 20467 (fun K hK => ?_) (fun K hK => ?_)
      · skip
        refine ca (l1get_c _ _ _ _ (HC1.out _ (Kd.C_below HX.out HB.out))) Try.func163 ?_
        rintro e wd20 ⟨rfl, hE⟩
        have hE := hE.symm
        subst hE
        refine ⟨_, rfl, nx hK hS (fun hS => ?_)⟩
        clear hK K
        refine pu 3 20463 ?_
        refine on 4 20479 (fun K hK => ?_)
        refine va ?_
        refine nx hK (pw_cell_below (below_alloc (Below.refl _ _) _) hS) (fun hS => ?_)
        clear hK K
        have EM0 := empty_row wd19
        have hb3 := below_alloc (Below.refl _ wd19) (.cells #[] 5)
        have EW : Aside0 (w.heap.size ≤ wd19.heap.size) := ⟨HB.out.size⟩
        generalize wd19.alloc _ = wd21 at hS EM0 hb3 ⊢
        replace BK := Aside0.mk (blk_below BK.out hb3)
        replace GK := Aside0.mk (blk_below GK.out hb3)
        replace HB := Aside0.mk (below_then HB.out HB.out.size hb3)
        clear hb3
        generalize wd19.heap.size = ge at EM0 EW hS ⊢
        have EM := Aside0.mk EM0
        clear EM0
        refine on 12 24575 (fun K hK => ?_)
        refine Rp.app_row_step (enc := Value.int .u8) (h1 := fun _ => rfl) (by rfl) (.tmp 21) (.tmp 28) 22 5 (.int .u8 0) 1 (by rfl) Try.underlying22 info5 rfl (by decide) (.slice (some ⟨ge, 0, none⟩) 0 0) [] (bytesOf b) A2 (bytesOf b).length (c - 8) (by rfl) (by rfl) EM.out (HC2.out _ (Kd.C_below HX.out HB.out)) (by simp; omega) ?_
        intro v wd22 f hr hn hf hg
        rw [List.nil_append] at hr
        have kp := Kp.grown hg
        have hee : ∀ x ∈ (Value.slice (some ⟨ge, 0, none⟩) 0 0).ownBlock.toList, x = ge := fun x hx => by simp [Value.ownBlock] at hx; omega
        have nbk : w.heap.size ∉ (Value.slice (some ⟨ge, 0, none⟩) 0 0).ownBlock.toList := fun hm => Rp.Row_not EM.out BK.out (by decide) (by rw [hee _ hm]; simp)
        have hS1 : wd22.cell? ⟨ad.block, ad.off + 6, none⟩ = some (.int .u8 (rd b 6)) := pw_cell_below (kp.toBelow HB.out HB.out.size (fun x hx => by rw [hee x hx]; exact EW.out)) C6.out
        refine nx hK hS1 (fun hS => ?_)
        clear hK K hS1
        obtain ⟨A3, c3, rfl, _, _⟩ := Rp.Row_reads hr
        have hfw : ∀ x ∈ f, w.heap.size ≤ x := fun x hx => (hf x hx).elim (fun h => by simp at h; rw [h]; exact EW.out) (fun h => Nat.le_trans HB.out.size h)
        have GR : Aside0 (Rp.Got rB 5 w.heap.size wd22 (.slice A3 (bytesOf b).length c3) (bytesOf b)) := ⟨⟨f, hr, hn, hfw⟩⟩
        clear hfw
        replace GK := Aside0.mk (kp.blk GK.out (fun hm => Rp.Row_not EM.out GK.out (by decide) (by rw [hee _ hm]; simp)))
        replace BK := Aside0.mk (kp.blk BK.out nbk)
        replace HB := Aside0.mk (kp.toBelow HB.out HB.out.size (fun x hx => by rw [hee x hx]; exact EW.out))
        clear EM EW nbk hee kp hg hf hn hr
        refine pu 13 32767 ?_
        exact norm_ (by simp only [putAll, Act.put, List.setIfInBounds_toArray, List.set_cons_zero, List.set_cons_succ]) (hCont (.slice A3 (bytesOf b).length c3, g, ge) _ ⟨hS, GR.out, BK.out, GK.out, GW.out, HB.out⟩)
      · skip
        refine va ?_
        refine nx hK (pw_cell_below (below_alloc (Below.refl _ _) _) hS) (fun hS => ?_)
        clear hK K
        have EM0 := empty_row wd19
        have hb3 := below_alloc (Below.refl _ wd19) (.cells #[] 5)
        have EW : Aside0 (w.heap.size ≤ wd19.heap.size) := ⟨HB.out.size⟩
        generalize wd19.alloc _ = wd23 at hS EM0 hb3 ⊢
        replace BK := Aside0.mk (blk_below BK.out hb3)
        replace GK := Aside0.mk (blk_below GK.out hb3)
        replace HB := Aside0.mk (below_then HB.out HB.out.size hb3)
        clear hb3
        generalize wd19.heap.size = ge at EM0 EW hS ⊢
        have EM := Aside0.mk EM0
        clear EM0
        refine on 2 20471 (fun K hK => ?_)
        refine ca (l1get_c _ _ _ _ (HC1.out _ (Kd.C_below HX.out HB.out))) Try.func163 ?_
        rintro e wd24 ⟨rfl, hE⟩
        have hE := hE.symm
        subst hE
        refine ⟨_, rfl, nx hK hS (fun hS => ?_)⟩
        clear hK K
        refine pu 3 20479 ?_
        refine on 12 24575 (fun K hK => ?_)
        refine Rp.app_row_step (enc := Value.int .u8) (h1 := fun _ => rfl) (by rfl) (.tmp 21) (.tmp 28) 22 5 (.int .u8 0) 1 (by rfl) Try.underlying22 info5 rfl (by decide) (.slice (some ⟨ge, 0, none⟩) 0 0) [] (bytesOf b) A2 (bytesOf b).length (c - 8) (by rfl) (by rfl) EM.out (HC2.out _ (Kd.C_below HX.out HB.out)) (by simp; omega) ?_
        intro v wd25 f hr hn hf hg
        rw [List.nil_append] at hr
        have kp := Kp.grown hg
        have hee : ∀ x ∈ (Value.slice (some ⟨ge, 0, none⟩) 0 0).ownBlock.toList, x = ge := fun x hx => by simp [Value.ownBlock] at hx; omega
        have nbk : w.heap.size ∉ (Value.slice (some ⟨ge, 0, none⟩) 0 0).ownBlock.toList := fun hm => Rp.Row_not EM.out BK.out (by decide) (by rw [hee _ hm]; simp)
        have hS1 : wd25.cell? ⟨ad.block, ad.off + 6, none⟩ = some (.int .u8 (rd b 6)) := pw_cell_below (kp.toBelow HB.out HB.out.size (fun x hx => by rw [hee x hx]; exact EW.out)) C6.out
        refine nx hK hS1 (fun hS => ?_)
        clear hK K hS1
        obtain ⟨A3, c3, rfl, _, _⟩ := Rp.Row_reads hr
        have hfw : ∀ x ∈ f, w.heap.size ≤ x := fun x hx => (hf x hx).elim (fun h => by simp at h; rw [h]; exact EW.out) (fun h => Nat.le_trans HB.out.size h)
        have GR : Aside0 (Rp.Got rB 5 w.heap.size wd25 (.slice A3 (bytesOf b).length c3) (bytesOf b)) := ⟨⟨f, hr, hn, hfw⟩⟩
        clear hfw
        replace GK := Aside0.mk (kp.blk GK.out (fun hm => Rp.Row_not EM.out GK.out (by decide) (by rw [hee _ hm]; simp)))
        replace BK := Aside0.mk (kp.blk BK.out nbk)
        replace HB := Aside0.mk (kp.toBelow HB.out HB.out.size (fun x hx => by rw [hee x hx]; exact EW.out))
        clear EM EW nbk hee kp hg hf hn hr
        refine pu 13 32767 ?_
        exact norm_ (by simp only [putAll, Act.put, List.setIfInBounds_toArray, List.set_cons_zero, List.set_cons_succ]) (hCont (.slice A3 (bytesOf b).length c3, g, ge) _ ⟨hS, GR.out, BK.out, GK.out, GW.out, HB.out⟩)
  rintro ⟨v, g, ge⟩ wj ⟨hS, GR, BK0, GK, GW, HB0⟩
  clear BK HB
  have GW : w.heap.size < g := GW
  have GK : wj.heap[g]? = some (.cells #[.bool false, .int .i64 0, .slice none 0 0] 138 (0, 0)) := GK
  refine norm_ (a' := ?_) ?_ ?_
  rotate_left
  · simp only [putAll, Act.put, List.setIfInBounds_toArray, List.set_cons_zero, List.set_cons_succ]
    rfl
  obtain ⟨f, hr, hn, hf⟩ := GR
  obtain ⟨A3, c3, rfl, _, _⟩ := Rp.Row_reads hr
  have d0 := (blk_cell GK 0).trans rfl; have d1 := (blk_cell GK 1).trans rfl; have d2 := (blk_cell GK 2).trans rfl
  have z0 := blk_frozen GK 0; have z1 := blk_frozen GK 1; have z2 := blk_frozen GK 2
  obtain ⟨GK2, q3⟩ := set3 GK (.bool true) (.int .i64 (wrap64 (numL (seg b 2 6)))) (.slice A3 (bytesOf b).length c3)
  refine on 15 65535 (fun K hK => ?_)
  refine st ?_
  have HR := Aside0.mk (q3.row hr (fun x hx hm => Rp.Row_not hr GK (by decide) (by simp at hm; exact hm ▸ hx)))
  have BK := Aside0.mk (q3.blk BK0 (by simp; omega))
  have HB := Aside0.mk (q3.toBelow HB0 HB0.size (fun x hx => by simp at hx; omega))
  have GK := Aside0.mk GK2
  have HN := Aside0.mk hn; have HF := Aside0.mk hf
  refine nx hK (pw_cell_below HB.out C6.out) (fun hS => dn ?_)
  clear hK K hS d0 d1 d2 z0 z1 z2 q3 GK2 hr hn hf BK0 HB0
  generalize ((wj.setCell _ _).setCell _ _).setCell _ _ = w3 at HR BK HB GK ⊢
  have HS := Aside0.mk hs; clear hs
  go_upto_region 4 with (fail)
  have y0 := (blk_cell GK.out 0).trans rfl; have y1 := (blk_cell GK.out 1).trans rfl; have y2 := (blk_cell GK.out 2).trans rfl
  go_wp2_with fail
  refine (HP.out _ _ _ (Rp.Row_C HR.out).2.2).mono ?_
  rintro e w5 ⟨vX, rfl, ⟨fX, hrX, hnX, hfX⟩, hb5⟩
  obtain ⟨AX, cX, rfl, _, _⟩ := Rp.Row_reads hrX
  replace HR := Aside0.mk (Rp.Row_below HR.out hb5); replace BK := Aside0.mk (blk_below BK.out hb5); replace GK := Aside0.mk (blk_below GK.out hb5); replace HB := Aside0.mk (below_then HB.out HB.out.size hb5)
  have HXX := Aside0.mk (Rp.Row_C hrX).2.2
  clear hb5 hrX hnX hfX y0 y1 y2
  have HBX := Aside0.mk (Kd.C_below HX.out HB.out)
  clear HP
  have d0 := (blk_cell BK.out 0).trans rfl; have d1 := (blk_cell BK.out 1).trans rfl; have d2 := (blk_cell BK.out 2).trans rfl
  have z0 := blk_frozen BK.out 0; have z1 := blk_frozen BK.out 1; have z2 := blk_frozen BK.out 2
  by_cases hlen : (X.length : Int) = b.length
  rotate_left
  · have h' := eqF hlen
    go_wp2
    obtain ⟨BK2, q⟩ := set3 BK.out (.bool false) (.int .i64 0) (.slice none 0 0)
    refine bodyPost_ret (results_cell_row rfl _ _ w.heap.size 138 #[.bool false, .int .i64 0, .slice none 0 0] (0, 0) _ rfl BK2 Try.underlying138 rfl (by kernel_rfl)) rfl ?_
    exact ⟨_, [], rfl, Rp.Row_nil _ _ _, by simp, by simp, q.toBelow HB.out HB.out.size (fun x hx => by simp at hx; omega)⟩
  have HLE := Aside0.mk hlen
  have h' := eqT hlen
  have hle1 : (X.length : Int) ≤ b.length := by omega
  have hle2 : (b.length : Int) ≤ X.length := by omega
  clear hlen
  go_wp2
  go_loopg [41] X.length (fun m vi wr => ∃ i : Int, vi = .int .i64 i ∧ Aside0 (0 ≤ i ∧ i ≤ X.length ∧ X.length - i.toNat ≤ m) ∧ Aside0 (X.take i.toNat = b.take i.toNat) ∧ Drawn0 w5 wr)
  case atStart => exact ⟨0, rfl, ⟨by simp⟩, ⟨by simp⟩, Drawn0.refl _⟩
  case round =>
    obtain ⟨i, rfl, HI, HE, ⟨m, rfl⟩⟩ := hrel
    by_cases hi : i < (X.length : Int)
    · have hi0 : 0 ≤ i := HI.out.1
      have hib : i < (b.length : Int) := by omega
      obtain ⟨ae, e1, x1⟩ := Kd.at_int HXX.out i hi0 hi
      cases e1
      obtain ⟨ab, e2, x2⟩ := Kd.at_int HBX.out i hi0 hib
      cases e2
      by_cases hq : rd X i = rd b i
      · have HQ := Aside0.mk hq
        have h2 := eqT hq
        clear hq
        go_wp2
        repeat (go_quiet (fail); try go_wp2)
        go_roundg (gk - 1)
        case measure => have := HI.out; omega
        case rel =>
          refine ⟨i + 1, rfl, ⟨by have := HI.out; omega, by have := HI.out; omega, by have := HI.out; omega⟩, ⟨?_⟩, by repeat (first | exact Drawn0.refl _ | apply Drawn0.step)⟩
          rw [show (i + 1).toNat = i.toNat + 1 by omega]
          refine take_succ_eq (by omega) (by omega) HE.out ?_
          have := HQ.out
          rw [rd_eq (by omega), rd_eq (by omega)] at this
          exact this
      · have h2 := eqF hq
        go_wp2
        repeat (go_quiet (fail); try go_wp2)
        generalize hgw : w5.drewN _ = wq
        replace BK : Aside0 (wq.heap[w.heap.size]? = some (.cells #[.bool false, .int .i64 0, .slice none 0 0] 138 (0, 0))) := ⟨hgw ▸ blk_drewN BK.out _⟩
        replace HB : Aside0 (Below w.heap.size w wq) := ⟨hgw ▸ pw_below_drewN HB.out _⟩
        obtain ⟨BK2, q⟩ := set3 BK.out (.bool false) (.int .i64 0) (.slice none 0 0)
        refine bodyPost_ret (results_cell_row rfl _ _ w.heap.size 138 #[.bool false, .int .i64 0, .slice none 0 0] (0, 0) _ rfl BK2 Try.underlying138 rfl (by kernel_rfl)) rfl ?_
        exact ⟨_, [], rfl, Rp.Row_nil _ _ _, by simp, by simp, q.toBelow HB.out HB.out.size (fun x hx => by simp at hx; omega)⟩
    · refine absurd ?_ HS.out
      have h1 := HI.out
      have h2 := HE.out
      rw [List.take_of_length_le (by omega), List.take_of_length_le (by omega)] at h2
      exact h2
set_option maxHeartbeats 1000000 in
theorem specPageOf_early (A : Option Addr) (c : Nat) (b : List Int) (w : World) (hx : kB.C w A b.length b) (hb : BsOk b) (hno : ¬ (b.length = 64 ∧ rd b 6 ≤ 56)) :
    Calls Try.prog 158 #[.slice A b.length c] w (GotPg w false 0 []) := by
  have hbl : b.length ≤ 9223372036854775807 := hx.2.1
  have hb6 := hb.rd 6
  have hb60 := hb6.1
  have hb61 := hb6.2
  have HX := Aside0.mk hx; have HN := Aside0.mk hno; clear hx hb hno hb6
  have BK := Aside0.mk (blk_new w (.cells #[.bool false, .int .i64 0, .slice none 0 0] 138))
  have HB := Aside0.mk (below_alloc (Below.refl w.heap.size w) (.cells #[.bool false, .int .i64 0, .slice none 0 0] 138))
  go_enter Try.func158, Try.ntmps158
  go_upto_region 1 with (fail)
  generalize w.alloc _ = w0 at BK HB ⊢
  have d0 := (blk_cell BK.out 0).trans rfl; have d1 := (blk_cell BK.out 1).trans rfl; have d2 := (blk_cell BK.out 2).trans rfl
  have z0 := blk_frozen BK.out 0; have z1 := blk_frozen BK.out 1; have z2 := blk_frozen BK.out 2
  by_cases h : (b.length : Int) = 64
  · have h56 : 56 < rd b 6 := by
      have := HN.out
      rcases Int.lt_or_le 56 (rd b 6) with h' | h'
      · exact h'
      · exact absurd ⟨by omega, h'⟩ this
    have hl1 : 63 < b.length := by omega
    have hl2 : b.length ≤ 64 := by omega
    clear h
    obtain ⟨ad, e1, c6⟩ := Kd.at_int HX.out 6 (by omega) (by omega)
    cases e1
    simp only [show (6 : Int).toNat = 6 from rfl, Go.Addr.add, Nat.reduceEqDiff, if_false] at c6
    replace c6 := pw_cell_below HB.out c6
    go_wp2
    obtain ⟨BK2, q⟩ := set3 BK.out (.bool false) (.int .i64 0) (.slice none 0 0)
    refine bodyPost_ret (results_cell_row rfl _ _ w.heap.size 138 #[.bool false, .int .i64 0, .slice none 0 0] (0, 0) _ rfl BK2 Try.underlying138 rfl (by kernel_rfl)) rfl ?_
    exact ⟨_, [], rfl, Rp.Row_nil _ _ _, by simp, by simp, q.toBelow HB.out HB.out.size (fun x hx => by simp at hx; omega)⟩
  · have h' := eqF h
    go_wp2
    obtain ⟨BK2, q⟩ := set3 BK.out (.bool false) (.int .i64 0) (.slice none 0 0)
    refine bodyPost_ret (results_cell_row rfl _ _ w.heap.size 138 #[.bool false, .int .i64 0, .slice none 0 0] (0, 0) _ rfl BK2 Try.underlying138 rfl (by kernel_rfl)) rfl ?_
    exact ⟨_, [], rfl, Rp.Row_nil _ _ _, by simp, by simp, q.toBelow HB.out HB.out.size (fun x hx => by simp at hx; omega)⟩
theorem block_len {gen : Int} {bytes : List Int} (hl : bytes.length ≤ 56) : (blockL gen bytes).length = 64 := by
  have := pre0_len gen bytes
  unfold blockL preL
  rw [List.length_set, List.length_append, List.length_replicate]; omega
theorem specPageOf_yes (A : Option Addr) (c : Nat) (b : List Int) (w : World) (hx : kB.C w A b.length b) (hc : b.length ≤ c) (hb : BsOk b) (h : PgIs b) :
    Calls Try.prog 158 #[.slice A b.length c] w (GotPg w true (genOf b) (bytesOf b)) := by
  obtain ⟨h64, h56, hok, he⟩ := h
  refine specPageOf_y A c b b w hx hc hb h64 h56 (fun A c w hx => ?_) rfl
  have := specPageBlock_yes A c (genOf b) (bytesOf b) w hx hok
  rw [he] at this
  exact this
theorem specPageOf_no (A : Option Addr) (c : Nat) (b : List Int) (w : World) (hx : kB.C w A b.length b) (hc : b.length ≤ c) (hb : BsOk b) (h : ¬ PgIs b) :
    Calls Try.prog 158 #[.slice A b.length c] w (GotPg w false 0 []) := by
  by_cases h1 : b.length = 64 ∧ rd b 6 ≤ 56
  · obtain ⟨h64, h56⟩ := h1
    have hl := bytesOf_len hb h64 h56
    by_cases hok : PgOk true (genOf b) (bytesOf b)
    · exact specPageOf_n A c b (blockL (genOf b) (bytesOf b)) w hx hc hb h64 h56 (fun A c w hx => specPageBlock_yes A c _ _ w hx hok) (by rw [block_len hl]; omega) (fun e => h ⟨h64, h56, hok, e⟩)
    · exact specPageOf_n A c b [] w hx hc hb h64 h56 (fun A c w hx => specPageBlock_no A c _ _ _ w (by omega) hok) (by simp) (fun e => by rw [← e] at h64; cases h64)
  · exact specPageOf_early A c b w hx hb h1
end Go.Proofs.Ytocdlibnmlcokaa
namespace Go.Proofs.Ytocdlibnmlcokaa
open Go.RowKit Go.Proofs.YtocdlibnmlcokaaW.PrintWords Go.Proofs.YtocdlibnmlcokaaW.PrintLast
set_option linter.unusedVariables false
set_option linter.unusedSimpArgs false
structure Nt where
  tick : Int
  kind : Int
  who : Int
  n : Int
  text : ByteArray
abbrev rN : Rp Nt := Rp.iso (Rp.pair (Rp.int .i64) (Rp.pair (Rp.int .i64) (Rp.pair (Rp.int .i64) (Rp.pair (Rp.int .i64) Rp.string)))) (fun x => (x.tick, x.kind, x.who, x.n, x.text))
def vN (x : Nt) : Value := .agg #[.int .i64 x.tick, .int .i64 x.kind, .int .i64 x.who, .int .i64 x.n, .string x.text]
def NtOk (x : Nt) : Prop := (0 ≤ x.tick ∧ x.tick ≤ 1000000000) ∧ (0 ≤ x.kind ∧ x.kind ≤ 100) ∧ (0 ≤ x.who ∧ x.who ≤ 1000) ∧ x.text.size ≤ 200
theorem yn (b X : Bool) (P : Prop) (hb : b = true ↔ P) (hX : X = true ↔ P) : X = b := by
  cases b <;> cases X <;> simp_all
set_option maxHeartbeats 4000000 in
theorem implNoteOk_c (x : Nt) (b : Bool) (hb : b = true ↔ NtOk x) (w : World) (hs : x.text.size ≤ 9223372036854775807) :
    Calls Try.prog 100 #[vN x] w (YesNo b w) := by
  have HB := Aside0.mk hb; clear hb
  obtain ⟨tick, kind, who, n, text⟩ := x
  simp only [vN] at *
  have BK := Aside0.mk (blk_new w (.cells #[.int .i64 tick, .int .i64 kind, .int .i64 who, .int .i64 n, .string text] 33))
  have BL := Aside0.mk (below_alloc (Below.refl w.heap.size w) (.cells #[.int .i64 tick, .int .i64 kind, .int .i64 who, .int .i64 n, .string text] 33))
  go_enter Try.func100, Try.ntmps100
  go_upto_region 1 with (fail)
  generalize w.alloc _ = w0 at BK BL ⊢
  have q0 := (blk_cell BK.out 0).trans rfl; have q1 := (blk_cell BK.out 1).trans rfl; have q2 := (blk_cell BK.out 2).trans rfl; have q4 := (blk_cell BK.out 4).trans rfl
  go_wp2
  all_goals go_ret
  all_goals refine ⟨congrArg (fun x => Ending.returned (Value.bool x)) (yn b _ _ HB.out ?_), BL.out⟩
  all_goals (simp only [NtOk, decide_eq_true_eq, Bool.false_eq_true, false_iff, true_iff]; omega)
set_option maxHeartbeats 4000000 in
theorem specNoteOk_c (x : Nt) (b : Bool) (hb : b = true ↔ NtOk x) (w : World) (hs : x.text.size ≤ 9223372036854775807) :
    Calls Try.prog 135 #[vN x] w (YesNo b w) := by
  have HB := Aside0.mk hb; clear hb
  obtain ⟨tick, kind, who, n, text⟩ := x
  simp only [vN] at *
  have BK := Aside0.mk (blk_new w (.cells #[.int .i64 tick, .int .i64 kind, .int .i64 who, .int .i64 n, .string text] 33))
  have BL := Aside0.mk (below_alloc (Below.refl w.heap.size w) (.cells #[.int .i64 tick, .int .i64 kind, .int .i64 who, .int .i64 n, .string text] 33))
  go_enter Try.func135, Try.ntmps135
  go_upto_region 1 with (fail)
  generalize w.alloc _ = w0 at BK BL ⊢
  have q0 := (blk_cell BK.out 0).trans rfl; have q1 := (blk_cell BK.out 1).trans rfl; have q2 := (blk_cell BK.out 2).trans rfl; have q4 := (blk_cell BK.out 4).trans rfl
  have R0 : Aside0 ((decide (0 ≤ tick) && decide (tick ≤ 1000000000)) = decide (0 ≤ tick ∧ tick ≤ 1000000000)) := ⟨by simp⟩
  have R1 : Aside0 ((decide (0 ≤ kind) && decide (kind ≤ 100)) = decide (0 ≤ kind ∧ kind ≤ 100)) := ⟨by simp⟩
  have R2 : Aside0 ((decide (0 ≤ who) && decide (who ≤ 1000)) = decide (0 ≤ who ∧ who ≤ 1000)) := ⟨by simp⟩
  go_wp2_with (go_at_call 120; refine (l1in_c _ _ _ _).mono ?_; rintro e w9 ⟨rfl, hE⟩; have hE := hE.symm; subst hE; first | rw [R0.out] | rw [R1.out] | rw [R2.out])
  all_goals go_ret
  all_goals refine ⟨congrArg (fun x => Ending.returned (Value.bool x)) (yn b _ _ HB.out ?_), BL.out⟩
  all_goals (simp only [NtOk, decide_eq_true_eq, Bool.false_eq_true, false_iff, true_iff]; omega)
end Go.Proofs.Ytocdlibnmlcokaa
namespace Go.Proofs.Ytocdlibnmlcokaa
open Go.RowKit Go.Proofs.YtocdlibnmlcokaaW.PrintWords Go.Proofs.YtocdlibnmlcokaaW.PrintLast
set_option linter.unusedVariables false
set_option linter.unusedSimpArgs false
theorem set5 {w : World} {g t : Nat} {a b c d e : Value} (h : w.heap[g]? = some (.cells #[a, b, c, d, e] t (0, 0))) (x y z u v : Value) : (((((w.setCell ⟨g, 0, none⟩ x).setCell ⟨g, 1, none⟩ y).setCell ⟨g, 2, none⟩ z).setCell ⟨g, 3, none⟩ u).setCell ⟨g, 4, none⟩ v).heap[g]? = some (.cells #[x, y, z, u, v] t (0, 0)) ∧ Kp w (((((w.setCell ⟨g, 0, none⟩ x).setCell ⟨g, 1, none⟩ y).setCell ⟨g, 2, none⟩ z).setCell ⟨g, 3, none⟩ u).setCell ⟨g, 4, none⟩ v) [g] :=
  ⟨blk_set (blk_set (blk_set (blk_set (blk_set h 0 x) 1 y) 2 z) 3 u) 4 v, ((((Kp.set _ _ _ _).trans (Kp.set _ _ _ _) (fun _ hb _ => hb)).trans (Kp.set _ _ _ _) (fun _ hb _ => hb)).trans (Kp.set _ _ _ _) (fun _ hb _ => hb)).trans (Kp.set _ _ _ _) (fun _ hb _ => hb)⟩
theorem set7 {w : World} {g t : Nat} {a b c d e f i : Value} (h : w.heap[g]? = some (.cells #[a, b, c, d, e, f, i] t (0, 0))) (x y z u v r s : Value) : (((((((w.setCell ⟨g, 0, none⟩ x).setCell ⟨g, 1, none⟩ y).setCell ⟨g, 2, none⟩ z).setCell ⟨g, 3, none⟩ u).setCell ⟨g, 4, none⟩ v).setCell ⟨g, 5, none⟩ r).setCell ⟨g, 6, none⟩ s).heap[g]? = some (.cells #[x, y, z, u, v, r, s] t (0, 0)) ∧ Kp w (((((((w.setCell ⟨g, 0, none⟩ x).setCell ⟨g, 1, none⟩ y).setCell ⟨g, 2, none⟩ z).setCell ⟨g, 3, none⟩ u).setCell ⟨g, 4, none⟩ v).setCell ⟨g, 5, none⟩ r).setCell ⟨g, 6, none⟩ s) [g] := by
  have h1 : (w.setCell ⟨g, 0, none⟩ x).heap[g]? = some (.cells #[x, b, c, d, e, f, i] t (0, 0)) := blk_set h 0 x
  have k1 : Kp w (w.setCell ⟨g, 0, none⟩ x) [g] := Kp.set _ _ _ _
  have h2 : ((w.setCell ⟨g, 0, none⟩ x).setCell ⟨g, 1, none⟩ y).heap[g]? = some (.cells #[x, y, c, d, e, f, i] t (0, 0)) := blk_set h1 1 y
  have k2 : Kp w ((w.setCell ⟨g, 0, none⟩ x).setCell ⟨g, 1, none⟩ y) [g] := k1.trans (Kp.set _ _ _ _) (fun _ hb _ => hb)
  have h3 : (((w.setCell ⟨g, 0, none⟩ x).setCell ⟨g, 1, none⟩ y).setCell ⟨g, 2, none⟩ z).heap[g]? = some (.cells #[x, y, z, d, e, f, i] t (0, 0)) := blk_set h2 2 z
  have k3 : Kp w (((w.setCell ⟨g, 0, none⟩ x).setCell ⟨g, 1, none⟩ y).setCell ⟨g, 2, none⟩ z) [g] := k2.trans (Kp.set _ _ _ _) (fun _ hb _ => hb)
  have h4 : ((((w.setCell ⟨g, 0, none⟩ x).setCell ⟨g, 1, none⟩ y).setCell ⟨g, 2, none⟩ z).setCell ⟨g, 3, none⟩ u).heap[g]? = some (.cells #[x, y, z, u, e, f, i] t (0, 0)) := blk_set h3 3 u
  have k4 : Kp w ((((w.setCell ⟨g, 0, none⟩ x).setCell ⟨g, 1, none⟩ y).setCell ⟨g, 2, none⟩ z).setCell ⟨g, 3, none⟩ u) [g] := k3.trans (Kp.set _ _ _ _) (fun _ hb _ => hb)
  have h5 : (((((w.setCell ⟨g, 0, none⟩ x).setCell ⟨g, 1, none⟩ y).setCell ⟨g, 2, none⟩ z).setCell ⟨g, 3, none⟩ u).setCell ⟨g, 4, none⟩ v).heap[g]? = some (.cells #[x, y, z, u, v, f, i] t (0, 0)) := blk_set h4 4 v
  have k5 : Kp w (((((w.setCell ⟨g, 0, none⟩ x).setCell ⟨g, 1, none⟩ y).setCell ⟨g, 2, none⟩ z).setCell ⟨g, 3, none⟩ u).setCell ⟨g, 4, none⟩ v) [g] := k4.trans (Kp.set _ _ _ _) (fun _ hb _ => hb)
  have h6 : ((((((w.setCell ⟨g, 0, none⟩ x).setCell ⟨g, 1, none⟩ y).setCell ⟨g, 2, none⟩ z).setCell ⟨g, 3, none⟩ u).setCell ⟨g, 4, none⟩ v).setCell ⟨g, 5, none⟩ r).heap[g]? = some (.cells #[x, y, z, u, v, r, i] t (0, 0)) := blk_set h5 5 r
  have k6 : Kp w ((((((w.setCell ⟨g, 0, none⟩ x).setCell ⟨g, 1, none⟩ y).setCell ⟨g, 2, none⟩ z).setCell ⟨g, 3, none⟩ u).setCell ⟨g, 4, none⟩ v).setCell ⟨g, 5, none⟩ r) [g] := k5.trans (Kp.set _ _ _ _) (fun _ hb _ => hb)
  have h7 : (((((((w.setCell ⟨g, 0, none⟩ x).setCell ⟨g, 1, none⟩ y).setCell ⟨g, 2, none⟩ z).setCell ⟨g, 3, none⟩ u).setCell ⟨g, 4, none⟩ v).setCell ⟨g, 5, none⟩ r).setCell ⟨g, 6, none⟩ s).heap[g]? = some (.cells #[x, y, z, u, v, r, s] t (0, 0)) := blk_set h6 6 s
  have k7 : Kp w (((((((w.setCell ⟨g, 0, none⟩ x).setCell ⟨g, 1, none⟩ y).setCell ⟨g, 2, none⟩ z).setCell ⟨g, 3, none⟩ u).setCell ⟨g, 4, none⟩ v).setCell ⟨g, 5, none⟩ r).setCell ⟨g, 6, none⟩ s) [g] := k6.trans (Kp.set _ _ _ _) (fun _ hb _ => hb)
  exact ⟨h7, k7⟩
def noteOf (b : List Int) : Nt := ⟨wrap64 (numL (seg b 2 6)), wrap64 (rd b 6), wrap64 (numL (seg b 7 9)), wrap64 (numL (seg b 9 17)), strOfNums (seg b 17 (17 + (rd b 1).toNat))⟩
def FrIs (b : List Int) : Prop := 17 ≤ b.length ∧ rd b 0 = 78 ∧ 17 + rd b 1 ≤ b.length ∧ NtOk (noteOf b)
def frLen (b : List Int) : Int := 17 + rd b 1
def GotFr (w : World) (ok : Bool) (x : Nt) (len : Int) (e : Ending) (w' : World) : Prop :=
  e = .returned (.agg #[.bool ok, .int .i64 x.tick, .int .i64 x.kind, .int .i64 x.who, .int .i64 x.n, .string x.text, .int .i64 len]) ∧ Below w.heap.size w w'
def noNt : Nt := ⟨0, 0, 0, 0, { data := #[] }⟩
theorem str_size (l : List Int) : (strOfNums l).size = l.length := by simp [strOfNums, ByteArray.size]
set_option maxHeartbeats 8000000 in
set_option maxRecDepth 100000 in
theorem implReadFrame_y (A : Option Addr) (c : Nat) (b : List Int) (w : World) (hx : kB.C w A b.length b) (hc : b.length ≤ c) (hb : BsOk b) (h17 : 17 ≤ b.length) (h0 : rd b 0 = 78) (hk : 17 + rd b 1 ≤ b.length)
    (hok : NtOk (noteOf b)) :
    Calls Try.prog 147 #[.slice A b.length c] w (GotFr w true (noteOf b) (frLen b)) := by
  have hbl : b.length ≤ 9223372036854775807 := hx.2.1
  have hb10 := (hb.rd 1).1
  have hb11 := (hb.rd 1).2
  have hb60 := (hb.rd 6).1
  have hb61 := (hb.rd 6).2
  have HX := Aside0.mk hx; have HO := Aside0.mk hok; clear hx hb hok
  have hE2 : wrap64 (17 + wrap64 (rd b 1)) = 17 + rd b 1 := by unfold wrap64; omega
  have hE3 : wrap64 (17 + rd b 1) = 17 + rd b 1 := by unfold wrap64; omega
  obtain ⟨A1, hcut1, hC1, hle1⟩ := mid_c (A := A) (c := c) (xs := b) 2 6 2 6 rfl rfl (by omega) (by omega) (by omega) hc
  obtain ⟨A2, hcut2, hC2, hle2⟩ := mid_c (A := A) (c := c) (xs := b) 7 9 7 9 rfl rfl (by omega) (by omega) (by omega) hc
  obtain ⟨A3, hcut3, hC3, hle3⟩ := mid_c (A := A) (c := c) (xs := b) 9 17 9 17 rfl rfl (by omega) (by omega) (by omega) hc
  obtain ⟨A4, hcut4, hC4, hle4⟩ := mid_c (A := A) (c := c) (xs := b) 17 (wrap64 (17 + wrap64 (rd b 1))) 17 (17 + (rd b 1).toNat) rfl (by omega) (by omega) (by omega) (by omega) hc
  clear hE2 hE3 hle1 hle2 hle3 hle4
  have HT : Aside0 ((strOfNums (seg b 17 (17 + (rd b 1).toNat))).size = (rd b 1).toNat) := ⟨by rw [str_size, seg_len b (by omega)]; omega⟩
  obtain ⟨ad, e1, c6⟩ := Kd.at_int HX.out 6 (by omega) (by omega)
  cases e1
  obtain ⟨ad1, e1, c1⟩ := Kd.at_int HX.out 1 (by omega) (by omega)
  cases e1
  obtain ⟨ad1, e1, c0⟩ := Kd.at_int HX.out 0 (by omega) (by omega)
  cases e1
  have HC1 := Aside0.mk hC1; have HC2 := Aside0.mk hC2; have HC3 := Aside0.mk hC3; have HC4 := Aside0.mk hC4; clear hC1 hC2 hC3 hC4
  simp only [show (6 : Int).toNat = 6 from rfl, show (1 : Int).toNat = 1 from rfl, show (0 : Int).toNat = 0 from rfl, Go.Addr.add, Nat.reduceEqDiff, if_false, if_true] at c6 c1 c0
  have C6 := Aside0.mk c6; have C1 := Aside0.mk c1
  have h78 := eqT h0
  have BK := Aside0.mk (blk_new w (.cells #[.bool false, .int .i64 0, .int .i64 0, .int .i64 0, .int .i64 0, .string { data := #[] }, .int .i64 0] 171))
  have HB := Aside0.mk (below_alloc (Below.refl w.heap.size w) (.cells #[.bool false, .int .i64 0, .int .i64 0, .int .i64 0, .int .i64 0, .string { data := #[] }, .int .i64 0] 171))
  clear h0
  go_enter Try.func147, Try.ntmps147
  go_upto_region 1 with (fail)
  replace c6 := pw_cell_below HB.out c6; replace c1 := pw_cell_below HB.out c1; replace c0 := pw_cell_below HB.out c0
  generalize w.alloc _ = w0 at BK HB c6 c1 c0 ⊢
  go_upto_region 3 with (fail)
  refine sta (fun w' => w'.cell? ⟨ad.block, ad.off + 6, none⟩ = some (.int .u8 (rd b 6)) ∧ w'.cell? ⟨ad.block, ad.off + 1, none⟩ = some (.int .u8 (rd b 1)) ∧ (convert 22 9 (.slice A4 (seg b 17 (17 + (rd b 1).toNat)).length (c - 17))).run Try.prog w' = .ok (.string (strOfNums (seg b 17 (17 + (rd b 1).toNat)))) w') [] 27 ⟨c6, c1, Kd.C_string (P := Try.prog) Try.underlying22 Try.underlying5 Try.underlying9 (Kd.C_drew (HC4.out _ (Kd.C_below HX.out HB.out)))⟩ (fun hS => ?_)
  replace BK := Aside0.mk (blk_drew BK.out); replace HB := Aside0.mk (below_drew HB.out)
  clear c6 c1 c0
  generalize w0.drew = w1 at BK HB hS ⊢
  have l6 : ((6 : Int) < (b.length : Int)) = True := eq_true (by omega)
  have l1 : ((1 : Int) < (b.length : Int)) = True := eq_true (by omega)
  refine pu 0 1 ?_
  refine pu 1 3 ?_
  refine pu 4 19 ?_
  refine pu 5 51 ?_
  refine tk 6 115 hS ?_ (hr := by rintro w' ⟨s0, s1, s2⟩; go_simp; with_reducible rfl)
  refine pu 7 243 ?_
  refine pu 8 499 ?_
  refine pu 9 1011 ?_
  refine pu 12 5107 ?_
  refine pu 13 13299 ?_
  refine pu 16 78835 ?_
  refine pu 17 209907 ?_
  refine pu 18 472051 ?_
  refine tk 19 996339 hS ?_ (hr := by rintro w' ⟨s0, s1, s2⟩; go_simp; with_reducible rfl)
  refine pu 20 2044915 ?_
  refine pu 21 4142067 ?_
  refine pu 22 8336371 ?_
  refine tk 23 16724979 hS ?_ (hr := by rintro w' ⟨s0, s1, s2⟩; go_simp; with_reducible rfl)
  refine join_ (σ := Nat) 1 (bl 27 67108863) (fun s => [(26, .int .u64 (numL (seg b 2 6))), (27, .int .i64 (wrap64 (numL (seg b 2 6)))), (34, .int .u64 (numL (seg b 7 9))), (35, .int .i64 (wrap64 (numL (seg b 7 9)))), (38, .int .u64 (numL (seg b 9 17))), (39, .int .i64 (wrap64 (numL (seg b 9 17)))), (48, .agg #[.int .i64 (wrap64 (numL (seg b 2 6))), .int .i64 (wrap64 (rd b 6)), .int .i64 (wrap64 (numL (seg b 7 9))), .int .i64 (wrap64 (numL (seg b 9 17))), .string (strOfNums (seg b 17 (17 + (rd b 1).toNat)))]), (3, .pointer (some ⟨s, 0, none⟩))]) (fun s w' => (w'.cell? ⟨ad.block, ad.off + 6, none⟩ = some (.int .u8 (rd b 6)) ∧ w'.cell? ⟨ad.block, ad.off + 1, none⟩ = some (.int .u8 (rd b 1)) ∧ (convert 22 9 (.slice A4 (seg b 17 (17 + (rd b 1).toNat)).length (c - 17))).run Try.prog w' = .ok (.string (strOfNums (seg b 17 (17 + (rd b 1).toNat)))) w') ∧ w'.heap[w.heap.size]? = some (.cells #[.bool false, .int .i64 0, .int .i64 0, .int .i64 0, .int .i64 0, .string { data := #[] }, .int .i64 0] 171 (0, 0)) ∧ w'.heap[s]? = some (.cells #[.int .i64 0, .int .i64 0, .int .i64 0, .int .i64 0, .string { data := #[] }] 33 (0, 0)) ∧ w.heap.size < s ∧ Below w.heap.size w w') ?_ ?_
  rotate_left
  · intro hCont
    refine tw 2 25 16724983 50279411 (fun K hK => ?_) (fun K hK => ?_)
    · skip
      refine ca (num_c _ _ _ _ (HC1.out _ (Kd.C_below HX.out HB.out))) Try.func162 ?_
      rintro e wd1 ⟨rfl, hE⟩
      have hE := hE.symm
      subst hE
      refine ⟨_, rfl, nx hK hS (fun hS => ?_)⟩
      clear hK K
      refine pu 3 16724991 ?_
      refine tw 10 25 16726015 50279423 (fun K hK => ?_) (fun K hK => ?_)
      · skip
        refine ca (num_c _ _ _ _ (HC2.out _ (Kd.C_below HX.out HB.out))) Try.func162 ?_
        rintro e wd2 ⟨rfl, hE⟩
        have hE := hE.symm
        subst hE
        refine ⟨_, rfl, nx hK hS (fun hS => ?_)⟩
        clear hK K
        refine pu 11 16728063 ?_
        refine tw 14 25 16744447 50282495 (fun K hK => ?_) (fun K hK => ?_)
        · skip
          refine ca (num_c _ _ _ _ (HC3.out _ (Kd.C_below HX.out HB.out))) Try.func162 ?_
          rintro e wd3 ⟨rfl, hE⟩
          have hE := hE.symm
          subst hE
          refine ⟨_, rfl, nx hK hS (fun hS => ?_)⟩
          clear hK K
          refine pu 15 16777215 ?_
          refine pu 24 33554431 ?_
          refine on 25 67108863 (fun K hK => ?_)
          refine va ?_
          refine nx hK ⟨pw_cell_below (below_then HB.out HB.out.size (below_alloc (Below.refl _ _) _)) C6.out, pw_cell_below (below_then HB.out HB.out.size (below_alloc (Below.refl _ _) _)) C1.out, Kd.C_string (P := Try.prog) Try.underlying22 Try.underlying5 Try.underlying9 (HC4.out _ (Kd.C_below HX.out (below_then HB.out HB.out.size (below_alloc (Below.refl _ _) _))))⟩ (fun hS => ?_)
          clear hK K
          generalize hg : w1.heap.size = g at hS ⊢
          generalize hw3 : w1.alloc _ = wd4 at hS ⊢
          obtain ⟨K3, hb3, hsz⟩ := alloc1 hw3
          clear hw3 hsz
          rw [hg] at K3
          have GW : Aside0 (w.heap.size < g) := ⟨by rw [← hg]; exact blk_lt BK.out⟩
          replace BK := Aside0.mk (blk_below BK.out hb3)
          replace HB := Aside0.mk (below_then HB.out HB.out.size hb3)
          have GK := Aside0.mk K3
          clear K3 hb3 hg
          exact norm_ (by simp only [putAll, Act.put, List.setIfInBounds_toArray, List.set_cons_zero, List.set_cons_succ]) (hCont g _ ⟨hS, BK.out, GK.out, GW.out, HB.out⟩)
        · skip
          refine va ?_
          refine nx hK ⟨pw_cell_below (below_then HB.out HB.out.size (below_alloc (Below.refl _ _) _)) C6.out, pw_cell_below (below_then HB.out HB.out.size (below_alloc (Below.refl _ _) _)) C1.out, Kd.C_string (P := Try.prog) Try.underlying22 Try.underlying5 Try.underlying9 (HC4.out _ (Kd.C_below HX.out (below_then HB.out HB.out.size (below_alloc (Below.refl _ _) _))))⟩ (fun hS => ?_)
          clear hK K
          generalize hg : w1.heap.size = g at hS ⊢
          generalize hw3 : w1.alloc _ = wd5 at hS ⊢
          obtain ⟨K3, hb3, hsz⟩ := alloc1 hw3
          clear hw3 hsz
          rw [hg] at K3
          have GW : Aside0 (w.heap.size < g) := ⟨by rw [← hg]; exact blk_lt BK.out⟩
          replace BK := Aside0.mk (blk_below BK.out hb3)
          replace HB := Aside0.mk (below_then HB.out HB.out.size hb3)
          have GK := Aside0.mk K3
          clear K3 hb3 hg
          refine on 14 50298879 (fun K hK => ?_)
          refine ca (num_c _ _ _ _ (HC3.out _ (Kd.C_below HX.out HB.out))) Try.func162 ?_
          rintro e wd6 ⟨rfl, hE⟩
          have hE := hE.symm
          subst hE
          refine ⟨_, rfl, nx hK hS (fun hS => ?_)⟩
          clear hK K
          refine pu 15 50331647 ?_
          refine pu 24 67108863 ?_
          exact norm_ (by simp only [putAll, Act.put, List.setIfInBounds_toArray, List.set_cons_zero, List.set_cons_succ]) (hCont g _ ⟨hS, BK.out, GK.out, GW.out, HB.out⟩)
      · skip
        refine va ?_
        refine nx hK ⟨pw_cell_below (below_then HB.out HB.out.size (below_alloc (Below.refl _ _) _)) C6.out, pw_cell_below (below_then HB.out HB.out.size (below_alloc (Below.refl _ _) _)) C1.out, Kd.C_string (P := Try.prog) Try.underlying22 Try.underlying5 Try.underlying9 (HC4.out _ (Kd.C_below HX.out (below_then HB.out HB.out.size (below_alloc (Below.refl _ _) _))))⟩ (fun hS => ?_)
        clear hK K
        generalize hg : w1.heap.size = g at hS ⊢
        generalize hw3 : w1.alloc _ = wd7 at hS ⊢
        obtain ⟨K3, hb3, hsz⟩ := alloc1 hw3
        clear hw3 hsz
        rw [hg] at K3
        have GW : Aside0 (w.heap.size < g) := ⟨by rw [← hg]; exact blk_lt BK.out⟩
        replace BK := Aside0.mk (blk_below BK.out hb3)
        replace HB := Aside0.mk (below_then HB.out HB.out.size hb3)
        have GK := Aside0.mk K3
        clear K3 hb3 hg
        refine on 10 50280447 (fun K hK => ?_)
        refine ca (num_c _ _ _ _ (HC2.out _ (Kd.C_below HX.out HB.out))) Try.func162 ?_
        rintro e wd8 ⟨rfl, hE⟩
        have hE := hE.symm
        subst hE
        refine ⟨_, rfl, nx hK hS (fun hS => ?_)⟩
        clear hK K
        refine pu 11 50282495 ?_
        refine on 14 50298879 (fun K hK => ?_)
        refine ca (num_c _ _ _ _ (HC3.out _ (Kd.C_below HX.out HB.out))) Try.func162 ?_
        rintro e wd9 ⟨rfl, hE⟩
        have hE := hE.symm
        subst hE
        refine ⟨_, rfl, nx hK hS (fun hS => ?_)⟩
        clear hK K
        refine pu 15 50331647 ?_
        refine pu 24 67108863 ?_
        exact norm_ (by simp only [putAll, Act.put, List.setIfInBounds_toArray, List.set_cons_zero, List.set_cons_succ]) (hCont g _ ⟨hS, BK.out, GK.out, GW.out, HB.out⟩)
    · skip
      refine va ?_
      refine nx hK ⟨pw_cell_below (below_then HB.out HB.out.size (below_alloc (Below.refl _ _) _)) C6.out, pw_cell_below (below_then HB.out HB.out.size (below_alloc (Below.refl _ _) _)) C1.out, Kd.C_string (P := Try.prog) Try.underlying22 Try.underlying5 Try.underlying9 (HC4.out _ (Kd.C_below HX.out (below_then HB.out HB.out.size (below_alloc (Below.refl _ _) _))))⟩ (fun hS => ?_)
      clear hK K
      generalize hg : w1.heap.size = g at hS ⊢
      generalize hw3 : w1.alloc _ = wd10 at hS ⊢
      obtain ⟨K3, hb3, hsz⟩ := alloc1 hw3
      clear hw3 hsz
      rw [hg] at K3
      have GW : Aside0 (w.heap.size < g) := ⟨by rw [← hg]; exact blk_lt BK.out⟩
      replace BK := Aside0.mk (blk_below BK.out hb3)
      replace HB := Aside0.mk (below_then HB.out HB.out.size hb3)
      have GK := Aside0.mk K3
      clear K3 hb3 hg
      refine on 2 50279415 (fun K hK => ?_)
      refine ca (num_c _ _ _ _ (HC1.out _ (Kd.C_below HX.out HB.out))) Try.func162 ?_
      rintro e wd11 ⟨rfl, hE⟩
      have hE := hE.symm
      subst hE
      refine ⟨_, rfl, nx hK hS (fun hS => ?_)⟩
      clear hK K
      refine pu 3 50279423 ?_
      refine on 10 50280447 (fun K hK => ?_)
      refine ca (num_c _ _ _ _ (HC2.out _ (Kd.C_below HX.out HB.out))) Try.func162 ?_
      rintro e wd12 ⟨rfl, hE⟩
      have hE := hE.symm
      subst hE
      refine ⟨_, rfl, nx hK hS (fun hS => ?_)⟩
      clear hK K
      refine pu 11 50282495 ?_
      refine on 14 50298879 (fun K hK => ?_)
      refine ca (num_c _ _ _ _ (HC3.out _ (Kd.C_below HX.out HB.out))) Try.func162 ?_
      rintro e wd13 ⟨rfl, hE⟩
      have hE := hE.symm
      subst hE
      refine ⟨_, rfl, nx hK hS (fun hS => ?_)⟩
      clear hK K
      refine pu 15 50331647 ?_
      refine pu 24 67108863 ?_
      exact norm_ (by simp only [putAll, Act.put, List.setIfInBounds_toArray, List.set_cons_zero, List.set_cons_succ]) (hCont g _ ⟨hS, BK.out, GK.out, GW.out, HB.out⟩)
  rintro g wj ⟨hS, BK0, GK, GW, HB0⟩
  clear BK HB
  refine norm_ (a' := ?_) ?_ ?_
  rotate_left
  · simp only [putAll, Act.put, List.setIfInBounds_toArray, List.set_cons_zero, List.set_cons_succ]
    rfl
  have d0 := (blk_cell GK 0).trans rfl; have z0 := blk_frozen GK 0
  have d1 := (blk_cell GK 1).trans rfl; have z1 := blk_frozen GK 1
  have d2 := (blk_cell GK 2).trans rfl; have z2 := blk_frozen GK 2
  have d3 := (blk_cell GK 3).trans rfl; have z3 := blk_frozen GK 3
  have d4 := (blk_cell GK 4).trans rfl; have z4 := blk_frozen GK 4
  obtain ⟨GK2, q5⟩ := set5 GK (.int .i64 (wrap64 (numL (seg b 2 6)))) (.int .i64 (wrap64 (rd b 6))) (.int .i64 (wrap64 (numL (seg b 7 9)))) (.int .i64 (wrap64 (numL (seg b 9 17)))) (.string (strOfNums (seg b 17 (17 + (rd b 1).toNat))))
  refine on 26 134217727 (fun K hK => ?_)
  refine st ?_
  have BK := Aside0.mk (q5.blk BK0 (by simp; omega))
  have HB := Aside0.mk (q5.toBelow HB0 HB0.size (fun x hx => by simp at hx; omega))
  have GK := Aside0.mk GK2
  refine nx hK ⟨pw_cell_below HB.out C6.out, pw_cell_below HB.out C1.out, Kd.C_string (P := Try.prog) Try.underlying22 Try.underlying5 Try.underlying9 (HC4.out _ (Kd.C_below HX.out HB.out))⟩ (fun hS => dn ?_)
  clear hK K hS l6 l1 d0 d1 d2 d3 d4 z0 z1 z2 z3 z4 q5 GK2 BK0 HB0
  generalize (((((wj.setCell _ _).setCell _ _).setCell _ _).setCell _ _).setCell _ _) = w3 at BK HB GK ⊢
  go_upto_region 4 with (fail)
  have d0 := (blk_cell GK.out 0).trans rfl
  have d1 := (blk_cell GK.out 1).trans rfl
  have d2 := (blk_cell GK.out 2).trans rfl
  have d3 := (blk_cell GK.out 3).trans rfl
  have d4 := (blk_cell GK.out 4).trans rfl
  go_wp2_with fail
  refine (implNoteOk_c (noteOf b) true ⟨fun _ => HO.out, fun _ => rfl⟩ _ (by show (strOfNums (seg b 17 (17 + (rd b 1).toNat))).size ≤ _; rw [HT.out]; omega)).mono ?_
  rintro e w4 ⟨rfl, hb4⟩
  replace BK := Aside0.mk (blk_below BK.out hb4); replace GK := Aside0.mk (blk_below GK.out hb4); replace HB := Aside0.mk (below_then HB.out HB.out.size hb4)
  clear hb4 d0 d1 d2 d3 d4
  have d0 := (blk_cell GK.out 0).trans rfl
  have d1 := (blk_cell GK.out 1).trans rfl
  have d2 := (blk_cell GK.out 2).trans rfl
  have d3 := (blk_cell GK.out 3).trans rfl
  have d4 := (blk_cell GK.out 4).trans rfl
  have e0 := (blk_cell BK.out 0).trans rfl; have z0 := blk_frozen BK.out 0
  have e1 := (blk_cell BK.out 1).trans rfl; have z1 := blk_frozen BK.out 1
  have e2 := (blk_cell BK.out 2).trans rfl; have z2 := blk_frozen BK.out 2
  have e3 := (blk_cell BK.out 3).trans rfl; have z3 := blk_frozen BK.out 3
  have e4 := (blk_cell BK.out 4).trans rfl; have z4 := blk_frozen BK.out 4
  have e5 := (blk_cell BK.out 5).trans rfl; have z5 := blk_frozen BK.out 5
  have e6 := (blk_cell BK.out 6).trans rfl; have z6 := blk_frozen BK.out 6
  have htx : (strOfNums (seg b 17 (17 + (rd b 1).toNat))).size ≤ 255 := by rw [HT.out]; omega
  go_wp2
  obtain ⟨BK2, q⟩ := set7 BK.out (.bool true) (.int .i64 (wrap64 (numL (seg b 2 6)))) (.int .i64 (wrap64 (rd b 6))) (.int .i64 (wrap64 (numL (seg b 7 9)))) (.int .i64 (wrap64 (numL (seg b 9 17)))) (.string (strOfNums (seg b 17 (17 + (rd b 1).toNat)))) (.int .i64 (17 + ((strOfNums (seg b 17 (17 + (rd b 1).toNat))).size : Int)))
  refine bodyPost_ret (results_cell_row rfl _ _ w.heap.size 171 #[.bool true, .int .i64 (wrap64 (numL (seg b 2 6))), .int .i64 (wrap64 (rd b 6)), .int .i64 (wrap64 (numL (seg b 7 9))), .int .i64 (wrap64 (numL (seg b 9 17))), .string (strOfNums (seg b 17 (17 + (rd b 1).toNat))), .int .i64 (17 + ((strOfNums (seg b 17 (17 + (rd b 1).toNat))).size : Int))] (0, 0) _ rfl BK2 Try.underlying171 rfl (by kernel_rfl)) rfl ?_
  have hlen : (17 + ((strOfNums (seg b 17 (17 + (rd b 1).toNat))).size : Int)) = frLen b := by unfold frLen; rw [HT.out]; omega
  refine ⟨by rw [hlen]; rfl, q.toBelow HB.out HB.out.size (fun x hx => by simp at hx; omega)⟩
set_option maxHeartbeats 8000000 in
set_option maxRecDepth 100000 in
theorem implReadFrame_n (A : Option Addr) (c : Nat) (b : List Int) (w : World) (hx : kB.C w A b.length b) (hc : b.length ≤ c) (hb : BsOk b) (h17 : 17 ≤ b.length) (h0 : rd b 0 = 78) (hk : 17 + rd b 1 ≤ b.length)
    (hok : ¬ NtOk (noteOf b)) :
    Calls Try.prog 147 #[.slice A b.length c] w (GotFr w false noNt 0) := by
  have hbl : b.length ≤ 9223372036854775807 := hx.2.1
  have hb10 := (hb.rd 1).1
  have hb11 := (hb.rd 1).2
  have hb60 := (hb.rd 6).1
  have hb61 := (hb.rd 6).2
  have HX := Aside0.mk hx; have HO := Aside0.mk hok; clear hx hb hok
  have hE2 : wrap64 (17 + wrap64 (rd b 1)) = 17 + rd b 1 := by unfold wrap64; omega
  have hE3 : wrap64 (17 + rd b 1) = 17 + rd b 1 := by unfold wrap64; omega
  obtain ⟨A1, hcut1, hC1, hle1⟩ := mid_c (A := A) (c := c) (xs := b) 2 6 2 6 rfl rfl (by omega) (by omega) (by omega) hc
  obtain ⟨A2, hcut2, hC2, hle2⟩ := mid_c (A := A) (c := c) (xs := b) 7 9 7 9 rfl rfl (by omega) (by omega) (by omega) hc
  obtain ⟨A3, hcut3, hC3, hle3⟩ := mid_c (A := A) (c := c) (xs := b) 9 17 9 17 rfl rfl (by omega) (by omega) (by omega) hc
  obtain ⟨A4, hcut4, hC4, hle4⟩ := mid_c (A := A) (c := c) (xs := b) 17 (wrap64 (17 + wrap64 (rd b 1))) 17 (17 + (rd b 1).toNat) rfl (by omega) (by omega) (by omega) (by omega) hc
  clear hE2 hE3 hle1 hle2 hle3 hle4
  have HT : Aside0 ((strOfNums (seg b 17 (17 + (rd b 1).toNat))).size = (rd b 1).toNat) := ⟨by rw [str_size, seg_len b (by omega)]; omega⟩
  obtain ⟨ad, e1, c6⟩ := Kd.at_int HX.out 6 (by omega) (by omega)
  cases e1
  obtain ⟨ad1, e1, c1⟩ := Kd.at_int HX.out 1 (by omega) (by omega)
  cases e1
  obtain ⟨ad1, e1, c0⟩ := Kd.at_int HX.out 0 (by omega) (by omega)
  cases e1
  have HC1 := Aside0.mk hC1; have HC2 := Aside0.mk hC2; have HC3 := Aside0.mk hC3; have HC4 := Aside0.mk hC4; clear hC1 hC2 hC3 hC4
  simp only [show (6 : Int).toNat = 6 from rfl, show (1 : Int).toNat = 1 from rfl, show (0 : Int).toNat = 0 from rfl, Go.Addr.add, Nat.reduceEqDiff, if_false, if_true] at c6 c1 c0
  have C6 := Aside0.mk c6; have C1 := Aside0.mk c1
  have h78 := eqT h0
  have BK := Aside0.mk (blk_new w (.cells #[.bool false, .int .i64 0, .int .i64 0, .int .i64 0, .int .i64 0, .string { data := #[] }, .int .i64 0] 171))
  have HB := Aside0.mk (below_alloc (Below.refl w.heap.size w) (.cells #[.bool false, .int .i64 0, .int .i64 0, .int .i64 0, .int .i64 0, .string { data := #[] }, .int .i64 0] 171))
  clear h0
  go_enter Try.func147, Try.ntmps147
  go_upto_region 1 with (fail)
  replace c6 := pw_cell_below HB.out c6; replace c1 := pw_cell_below HB.out c1; replace c0 := pw_cell_below HB.out c0
  generalize w.alloc _ = w0 at BK HB c6 c1 c0 ⊢
  go_upto_region 3 with (fail)
  refine sta (fun w' => w'.cell? ⟨ad.block, ad.off + 6, none⟩ = some (.int .u8 (rd b 6)) ∧ w'.cell? ⟨ad.block, ad.off + 1, none⟩ = some (.int .u8 (rd b 1)) ∧ (convert 22 9 (.slice A4 (seg b 17 (17 + (rd b 1).toNat)).length (c - 17))).run Try.prog w' = .ok (.string (strOfNums (seg b 17 (17 + (rd b 1).toNat)))) w') [] 27 ⟨c6, c1, Kd.C_string (P := Try.prog) Try.underlying22 Try.underlying5 Try.underlying9 (Kd.C_drew (HC4.out _ (Kd.C_below HX.out HB.out)))⟩ (fun hS => ?_)
  replace BK := Aside0.mk (blk_drew BK.out); replace HB := Aside0.mk (below_drew HB.out)
  clear c6 c1 c0
  generalize w0.drew = w1 at BK HB hS ⊢
  have l6 : ((6 : Int) < (b.length : Int)) = True := eq_true (by omega)
  have l1 : ((1 : Int) < (b.length : Int)) = True := eq_true (by omega)
  refine pu 0 1 ?_
  refine pu 1 3 ?_
  refine pu 4 19 ?_
  refine pu 5 51 ?_
  refine tk 6 115 hS ?_ (hr := by rintro w' ⟨s0, s1, s2⟩; go_simp; with_reducible rfl)
  refine pu 7 243 ?_
  refine pu 8 499 ?_
  refine pu 9 1011 ?_
  refine pu 12 5107 ?_
  refine pu 13 13299 ?_
  refine pu 16 78835 ?_
  refine pu 17 209907 ?_
  refine pu 18 472051 ?_
  refine tk 19 996339 hS ?_ (hr := by rintro w' ⟨s0, s1, s2⟩; go_simp; with_reducible rfl)
  refine pu 20 2044915 ?_
  refine pu 21 4142067 ?_
  refine pu 22 8336371 ?_
  refine tk 23 16724979 hS ?_ (hr := by rintro w' ⟨s0, s1, s2⟩; go_simp; with_reducible rfl)
  refine join_ (σ := Nat) 1 (bl 27 67108863) (fun s => [(26, .int .u64 (numL (seg b 2 6))), (27, .int .i64 (wrap64 (numL (seg b 2 6)))), (34, .int .u64 (numL (seg b 7 9))), (35, .int .i64 (wrap64 (numL (seg b 7 9)))), (38, .int .u64 (numL (seg b 9 17))), (39, .int .i64 (wrap64 (numL (seg b 9 17)))), (48, .agg #[.int .i64 (wrap64 (numL (seg b 2 6))), .int .i64 (wrap64 (rd b 6)), .int .i64 (wrap64 (numL (seg b 7 9))), .int .i64 (wrap64 (numL (seg b 9 17))), .string (strOfNums (seg b 17 (17 + (rd b 1).toNat)))]), (3, .pointer (some ⟨s, 0, none⟩))]) (fun s w' => (w'.cell? ⟨ad.block, ad.off + 6, none⟩ = some (.int .u8 (rd b 6)) ∧ w'.cell? ⟨ad.block, ad.off + 1, none⟩ = some (.int .u8 (rd b 1)) ∧ (convert 22 9 (.slice A4 (seg b 17 (17 + (rd b 1).toNat)).length (c - 17))).run Try.prog w' = .ok (.string (strOfNums (seg b 17 (17 + (rd b 1).toNat)))) w') ∧ w'.heap[w.heap.size]? = some (.cells #[.bool false, .int .i64 0, .int .i64 0, .int .i64 0, .int .i64 0, .string { data := #[] }, .int .i64 0] 171 (0, 0)) ∧ w'.heap[s]? = some (.cells #[.int .i64 0, .int .i64 0, .int .i64 0, .int .i64 0, .string { data := #[] }] 33 (0, 0)) ∧ w.heap.size < s ∧ Below w.heap.size w w') ?_ ?_
  rotate_left
  · intro hCont
    refine tw 2 25 16724983 50279411 (fun K hK => ?_) (fun K hK => ?_)
    · skip
      refine ca (num_c _ _ _ _ (HC1.out _ (Kd.C_below HX.out HB.out))) Try.func162 ?_
      rintro e wd1 ⟨rfl, hE⟩
      have hE := hE.symm
      subst hE
      refine ⟨_, rfl, nx hK hS (fun hS => ?_)⟩
      clear hK K
      refine pu 3 16724991 ?_
      refine tw 10 25 16726015 50279423 (fun K hK => ?_) (fun K hK => ?_)
      · skip
        refine ca (num_c _ _ _ _ (HC2.out _ (Kd.C_below HX.out HB.out))) Try.func162 ?_
        rintro e wd2 ⟨rfl, hE⟩
        have hE := hE.symm
        subst hE
        refine ⟨_, rfl, nx hK hS (fun hS => ?_)⟩
        clear hK K
        refine pu 11 16728063 ?_
        refine tw 14 25 16744447 50282495 (fun K hK => ?_) (fun K hK => ?_)
        · skip
          refine ca (num_c _ _ _ _ (HC3.out _ (Kd.C_below HX.out HB.out))) Try.func162 ?_
          rintro e wd3 ⟨rfl, hE⟩
          have hE := hE.symm
          subst hE
          refine ⟨_, rfl, nx hK hS (fun hS => ?_)⟩
          clear hK K
          refine pu 15 16777215 ?_
          refine pu 24 33554431 ?_
          refine on 25 67108863 (fun K hK => ?_)
          refine va ?_
          refine nx hK ⟨pw_cell_below (below_then HB.out HB.out.size (below_alloc (Below.refl _ _) _)) C6.out, pw_cell_below (below_then HB.out HB.out.size (below_alloc (Below.refl _ _) _)) C1.out, Kd.C_string (P := Try.prog) Try.underlying22 Try.underlying5 Try.underlying9 (HC4.out _ (Kd.C_below HX.out (below_then HB.out HB.out.size (below_alloc (Below.refl _ _) _))))⟩ (fun hS => ?_)
          clear hK K
          generalize hg : w1.heap.size = g at hS ⊢
          generalize hw3 : w1.alloc _ = wd4 at hS ⊢
          obtain ⟨K3, hb3, hsz⟩ := alloc1 hw3
          clear hw3 hsz
          rw [hg] at K3
          have GW : Aside0 (w.heap.size < g) := ⟨by rw [← hg]; exact blk_lt BK.out⟩
          replace BK := Aside0.mk (blk_below BK.out hb3)
          replace HB := Aside0.mk (below_then HB.out HB.out.size hb3)
          have GK := Aside0.mk K3
          clear K3 hb3 hg
          exact norm_ (by simp only [putAll, Act.put, List.setIfInBounds_toArray, List.set_cons_zero, List.set_cons_succ]) (hCont g _ ⟨hS, BK.out, GK.out, GW.out, HB.out⟩)
        · skip
          refine va ?_
          refine nx hK ⟨pw_cell_below (below_then HB.out HB.out.size (below_alloc (Below.refl _ _) _)) C6.out, pw_cell_below (below_then HB.out HB.out.size (below_alloc (Below.refl _ _) _)) C1.out, Kd.C_string (P := Try.prog) Try.underlying22 Try.underlying5 Try.underlying9 (HC4.out _ (Kd.C_below HX.out (below_then HB.out HB.out.size (below_alloc (Below.refl _ _) _))))⟩ (fun hS => ?_)
          clear hK K
          generalize hg : w1.heap.size = g at hS ⊢
          generalize hw3 : w1.alloc _ = wd5 at hS ⊢
          obtain ⟨K3, hb3, hsz⟩ := alloc1 hw3
          clear hw3 hsz
          rw [hg] at K3
          have GW : Aside0 (w.heap.size < g) := ⟨by rw [← hg]; exact blk_lt BK.out⟩
          replace BK := Aside0.mk (blk_below BK.out hb3)
          replace HB := Aside0.mk (below_then HB.out HB.out.size hb3)
          have GK := Aside0.mk K3
          clear K3 hb3 hg
          refine on 14 50298879 (fun K hK => ?_)
          refine ca (num_c _ _ _ _ (HC3.out _ (Kd.C_below HX.out HB.out))) Try.func162 ?_
          rintro e wd6 ⟨rfl, hE⟩
          have hE := hE.symm
          subst hE
          refine ⟨_, rfl, nx hK hS (fun hS => ?_)⟩
          clear hK K
          refine pu 15 50331647 ?_
          refine pu 24 67108863 ?_
          exact norm_ (by simp only [putAll, Act.put, List.setIfInBounds_toArray, List.set_cons_zero, List.set_cons_succ]) (hCont g _ ⟨hS, BK.out, GK.out, GW.out, HB.out⟩)
      · skip
        refine va ?_
        refine nx hK ⟨pw_cell_below (below_then HB.out HB.out.size (below_alloc (Below.refl _ _) _)) C6.out, pw_cell_below (below_then HB.out HB.out.size (below_alloc (Below.refl _ _) _)) C1.out, Kd.C_string (P := Try.prog) Try.underlying22 Try.underlying5 Try.underlying9 (HC4.out _ (Kd.C_below HX.out (below_then HB.out HB.out.size (below_alloc (Below.refl _ _) _))))⟩ (fun hS => ?_)
        clear hK K
        generalize hg : w1.heap.size = g at hS ⊢
        generalize hw3 : w1.alloc _ = wd7 at hS ⊢
        obtain ⟨K3, hb3, hsz⟩ := alloc1 hw3
        clear hw3 hsz
        rw [hg] at K3
        have GW : Aside0 (w.heap.size < g) := ⟨by rw [← hg]; exact blk_lt BK.out⟩
        replace BK := Aside0.mk (blk_below BK.out hb3)
        replace HB := Aside0.mk (below_then HB.out HB.out.size hb3)
        have GK := Aside0.mk K3
        clear K3 hb3 hg
        refine on 10 50280447 (fun K hK => ?_)
        refine ca (num_c _ _ _ _ (HC2.out _ (Kd.C_below HX.out HB.out))) Try.func162 ?_
        rintro e wd8 ⟨rfl, hE⟩
        have hE := hE.symm
        subst hE
        refine ⟨_, rfl, nx hK hS (fun hS => ?_)⟩
        clear hK K
        refine pu 11 50282495 ?_
        refine on 14 50298879 (fun K hK => ?_)
        refine ca (num_c _ _ _ _ (HC3.out _ (Kd.C_below HX.out HB.out))) Try.func162 ?_
        rintro e wd9 ⟨rfl, hE⟩
        have hE := hE.symm
        subst hE
        refine ⟨_, rfl, nx hK hS (fun hS => ?_)⟩
        clear hK K
        refine pu 15 50331647 ?_
        refine pu 24 67108863 ?_
        exact norm_ (by simp only [putAll, Act.put, List.setIfInBounds_toArray, List.set_cons_zero, List.set_cons_succ]) (hCont g _ ⟨hS, BK.out, GK.out, GW.out, HB.out⟩)
    · skip
      refine va ?_
      refine nx hK ⟨pw_cell_below (below_then HB.out HB.out.size (below_alloc (Below.refl _ _) _)) C6.out, pw_cell_below (below_then HB.out HB.out.size (below_alloc (Below.refl _ _) _)) C1.out, Kd.C_string (P := Try.prog) Try.underlying22 Try.underlying5 Try.underlying9 (HC4.out _ (Kd.C_below HX.out (below_then HB.out HB.out.size (below_alloc (Below.refl _ _) _))))⟩ (fun hS => ?_)
      clear hK K
      generalize hg : w1.heap.size = g at hS ⊢
      generalize hw3 : w1.alloc _ = wd10 at hS ⊢
      obtain ⟨K3, hb3, hsz⟩ := alloc1 hw3
      clear hw3 hsz
      rw [hg] at K3
      have GW : Aside0 (w.heap.size < g) := ⟨by rw [← hg]; exact blk_lt BK.out⟩
      replace BK := Aside0.mk (blk_below BK.out hb3)
      replace HB := Aside0.mk (below_then HB.out HB.out.size hb3)
      have GK := Aside0.mk K3
      clear K3 hb3 hg
      refine on 2 50279415 (fun K hK => ?_)
      refine ca (num_c _ _ _ _ (HC1.out _ (Kd.C_below HX.out HB.out))) Try.func162 ?_
      rintro e wd11 ⟨rfl, hE⟩
      have hE := hE.symm
      subst hE
      refine ⟨_, rfl, nx hK hS (fun hS => ?_)⟩
      clear hK K
      refine pu 3 50279423 ?_
      refine on 10 50280447 (fun K hK => ?_)
      refine ca (num_c _ _ _ _ (HC2.out _ (Kd.C_below HX.out HB.out))) Try.func162 ?_
      rintro e wd12 ⟨rfl, hE⟩
      have hE := hE.symm
      subst hE
      refine ⟨_, rfl, nx hK hS (fun hS => ?_)⟩
      clear hK K
      refine pu 11 50282495 ?_
      refine on 14 50298879 (fun K hK => ?_)
      refine ca (num_c _ _ _ _ (HC3.out _ (Kd.C_below HX.out HB.out))) Try.func162 ?_
      rintro e wd13 ⟨rfl, hE⟩
      have hE := hE.symm
      subst hE
      refine ⟨_, rfl, nx hK hS (fun hS => ?_)⟩
      clear hK K
      refine pu 15 50331647 ?_
      refine pu 24 67108863 ?_
      exact norm_ (by simp only [putAll, Act.put, List.setIfInBounds_toArray, List.set_cons_zero, List.set_cons_succ]) (hCont g _ ⟨hS, BK.out, GK.out, GW.out, HB.out⟩)
  rintro g wj ⟨hS, BK0, GK, GW, HB0⟩
  clear BK HB
  refine norm_ (a' := ?_) ?_ ?_
  rotate_left
  · simp only [putAll, Act.put, List.setIfInBounds_toArray, List.set_cons_zero, List.set_cons_succ]
    rfl
  have d0 := (blk_cell GK 0).trans rfl; have z0 := blk_frozen GK 0
  have d1 := (blk_cell GK 1).trans rfl; have z1 := blk_frozen GK 1
  have d2 := (blk_cell GK 2).trans rfl; have z2 := blk_frozen GK 2
  have d3 := (blk_cell GK 3).trans rfl; have z3 := blk_frozen GK 3
  have d4 := (blk_cell GK 4).trans rfl; have z4 := blk_frozen GK 4
  obtain ⟨GK2, q5⟩ := set5 GK (.int .i64 (wrap64 (numL (seg b 2 6)))) (.int .i64 (wrap64 (rd b 6))) (.int .i64 (wrap64 (numL (seg b 7 9)))) (.int .i64 (wrap64 (numL (seg b 9 17)))) (.string (strOfNums (seg b 17 (17 + (rd b 1).toNat))))
  refine on 26 134217727 (fun K hK => ?_)
  refine st ?_
  have BK := Aside0.mk (q5.blk BK0 (by simp; omega))
  have HB := Aside0.mk (q5.toBelow HB0 HB0.size (fun x hx => by simp at hx; omega))
  have GK := Aside0.mk GK2
  refine nx hK ⟨pw_cell_below HB.out C6.out, pw_cell_below HB.out C1.out, Kd.C_string (P := Try.prog) Try.underlying22 Try.underlying5 Try.underlying9 (HC4.out _ (Kd.C_below HX.out HB.out))⟩ (fun hS => dn ?_)
  clear hK K hS l6 l1 d0 d1 d2 d3 d4 z0 z1 z2 z3 z4 q5 GK2 BK0 HB0
  generalize (((((wj.setCell _ _).setCell _ _).setCell _ _).setCell _ _).setCell _ _) = w3 at BK HB GK ⊢
  go_upto_region 4 with (fail)
  have d0 := (blk_cell GK.out 0).trans rfl
  have d1 := (blk_cell GK.out 1).trans rfl
  have d2 := (blk_cell GK.out 2).trans rfl
  have d3 := (blk_cell GK.out 3).trans rfl
  have d4 := (blk_cell GK.out 4).trans rfl
  go_wp2_with fail
  refine (implNoteOk_c (noteOf b) false ⟨fun h => (by cases h), fun h => absurd h HO.out⟩ _ (by show (strOfNums (seg b 17 (17 + (rd b 1).toNat))).size ≤ _; rw [HT.out]; omega)).mono ?_
  rintro e w4 ⟨rfl, hb4⟩
  replace BK := Aside0.mk (blk_below BK.out hb4); replace GK := Aside0.mk (blk_below GK.out hb4); replace HB := Aside0.mk (below_then HB.out HB.out.size hb4)
  clear hb4 d0 d1 d2 d3 d4
  have e0 := (blk_cell BK.out 0).trans rfl; have z0 := blk_frozen BK.out 0
  have e1 := (blk_cell BK.out 1).trans rfl; have z1 := blk_frozen BK.out 1
  have e2 := (blk_cell BK.out 2).trans rfl; have z2 := blk_frozen BK.out 2
  have e3 := (blk_cell BK.out 3).trans rfl; have z3 := blk_frozen BK.out 3
  have e4 := (blk_cell BK.out 4).trans rfl; have z4 := blk_frozen BK.out 4
  have e5 := (blk_cell BK.out 5).trans rfl; have z5 := blk_frozen BK.out 5
  have e6 := (blk_cell BK.out 6).trans rfl; have z6 := blk_frozen BK.out 6
  go_wp2
  obtain ⟨BK2, q⟩ := set7 BK.out (.bool false) (.int .i64 0) (.int .i64 0) (.int .i64 0) (.int .i64 0) (.string { data := #[] }) (.int .i64 0)
  refine bodyPost_ret (results_cell_row rfl _ _ w.heap.size 171 #[.bool false, .int .i64 0, .int .i64 0, .int .i64 0, .int .i64 0, .string { data := #[] }, .int .i64 0] (0, 0) _ rfl BK2 Try.underlying171 rfl (by kernel_rfl)) rfl ?_
  exact ⟨rfl, q.toBelow HB.out HB.out.size (fun x hx => by simp at hx; omega)⟩
end Go.Proofs.Ytocdlibnmlcokaa
namespace Go.Proofs.Ytocdlibnmlcokaa
open Go.RowKit Go.Proofs.YtocdlibnmlcokaaW.PrintWords Go.Proofs.YtocdlibnmlcokaaW.PrintLast
set_option linter.unusedVariables false
set_option linter.unusedSimpArgs false
set_option maxHeartbeats 8000000 in
set_option maxRecDepth 100000 in
theorem specReadFrame_y (A : Option Addr) (c : Nat) (b : List Int) (w : World) (hx : kB.C w A b.length b) (hc : b.length ≤ c) (hb : BsOk b) (h17 : 17 ≤ b.length) (h0 : rd b 0 = 78) (hk : 17 + rd b 1 ≤ b.length)
    (hok : NtOk (noteOf b)) :
    Calls Try.prog 154 #[.slice A b.length c] w (GotFr w true (noteOf b) (frLen b)) := by
  have hbl : b.length ≤ 9223372036854775807 := hx.2.1
  have hb10 := (hb.rd 1).1
  have hb11 := (hb.rd 1).2
  have hb60 := (hb.rd 6).1
  have hb61 := (hb.rd 6).2
  have HX := Aside0.mk hx; have HO := Aside0.mk hok; clear hx hb hok
  have hE2 : wrap64 (17 + wrap64 (rd b 1)) = 17 + rd b 1 := by unfold wrap64; omega
  have hE3 : wrap64 (17 + rd b 1) = 17 + rd b 1 := by unfold wrap64; omega
  obtain ⟨A1, hcut1, hC1, hle1⟩ := mid_c (A := A) (c := c) (xs := b) 2 6 2 6 rfl rfl (by omega) (by omega) (by omega) hc
  obtain ⟨A2, hcut2, hC2, hle2⟩ := mid_c (A := A) (c := c) (xs := b) 7 9 7 9 rfl rfl (by omega) (by omega) (by omega) hc
  obtain ⟨A3, hcut3, hC3, hle3⟩ := mid_c (A := A) (c := c) (xs := b) 9 17 9 17 rfl rfl (by omega) (by omega) (by omega) hc
  obtain ⟨A4, hcut4, hC4, hle4⟩ := mid_c (A := A) (c := c) (xs := b) 17 (wrap64 (17 + rd b 1)) 17 (17 + (rd b 1).toNat) rfl (by omega) (by omega) (by omega) (by omega) hc
  clear hE2 hE3 hle1 hle2 hle3 hle4
  have HT : Aside0 ((strOfNums (seg b 17 (17 + (rd b 1).toNat))).size = (rd b 1).toNat) := ⟨by rw [str_size, seg_len b (by omega)]; omega⟩
  obtain ⟨ad, e1, c6⟩ := Kd.at_int HX.out 6 (by omega) (by omega)
  cases e1
  obtain ⟨ad1, e1, c1⟩ := Kd.at_int HX.out 1 (by omega) (by omega)
  cases e1
  obtain ⟨ad1, e1, c0⟩ := Kd.at_int HX.out 0 (by omega) (by omega)
  cases e1
  have HC1 := Aside0.mk hC1; have HC2 := Aside0.mk hC2; have HC3 := Aside0.mk hC3; have HC4 := Aside0.mk hC4; clear hC1 hC2 hC3 hC4
  simp only [show (6 : Int).toNat = 6 from rfl, show (1 : Int).toNat = 1 from rfl, show (0 : Int).toNat = 0 from rfl, Go.Addr.add, Nat.reduceEqDiff, if_false, if_true] at c6 c1 c0
  have C6 := Aside0.mk c6; have C1 := Aside0.mk c1
  have h78 := eqT h0
  have BK := Aside0.mk (blk_new w (.cells #[.bool false, .int .i64 0, .int .i64 0, .int .i64 0, .int .i64 0, .string { data := #[] }, .int .i64 0] 171))
  have HB := Aside0.mk (below_alloc (Below.refl w.heap.size w) (.cells #[.bool false, .int .i64 0, .int .i64 0, .int .i64 0, .int .i64 0, .string { data := #[] }, .int .i64 0] 171))
  clear h0
  go_enter Try.func154, Try.ntmps154
  go_upto_region 1 with (fail)
  replace c6 := pw_cell_below HB.out c6; replace c1 := pw_cell_below HB.out c1; replace c0 := pw_cell_below HB.out c0
  generalize w.alloc _ = w0 at BK HB c6 c1 c0 ⊢
  go_upto_region 6 with (fail)
  refine sta (fun w' => w'.cell? ⟨ad.block, ad.off + 6, none⟩ = some (.int .u8 (rd b 6)) ∧ w'.cell? ⟨ad.block, ad.off + 1, none⟩ = some (.int .u8 (rd b 1)) ∧ (convert 22 9 (.slice A4 (seg b 17 (17 + (rd b 1).toNat)).length (c - 17))).run Try.prog w' = .ok (.string (strOfNums (seg b 17 (17 + (rd b 1).toNat)))) w') [] 24 ⟨c6, c1, Kd.C_string (P := Try.prog) Try.underlying22 Try.underlying5 Try.underlying9 (Kd.C_drew (HC4.out _ (Kd.C_below HX.out HB.out)))⟩ (fun hS => ?_)
  replace BK := Aside0.mk (blk_drew BK.out); replace HB := Aside0.mk (below_drew HB.out)
  clear c6 c1 c0
  generalize w0.drew = w1 at BK HB hS ⊢
  have l6 : ((6 : Int) < (b.length : Int)) = True := eq_true (by omega)
  have l1 : ((1 : Int) < (b.length : Int)) = True := eq_true (by omega)
  refine pu 0 1 ?_
  refine pu 1 3 ?_
  refine pu 4 19 ?_
  refine pu 5 51 ?_
  refine tk 6 115 hS ?_ (hr := by rintro w' ⟨s0, s1, s2⟩; go_simp; with_reducible rfl)
  refine pu 7 243 ?_
  refine pu 8 499 ?_
  refine pu 9 1011 ?_
  refine pu 12 5107 ?_
  refine pu 13 13299 ?_
  refine pu 16 78835 ?_
  refine pu 17 209907 ?_
  refine pu 18 472051 ?_
  refine pu 19 996339 ?_
  refine tk 20 2044915 hS ?_ (hr := by rintro w' ⟨s0, s1, s2⟩; go_simp; with_reducible rfl)
  refine join_ (σ := Nat) 1 (bl 24 8388607) (fun s => [(27, .int .u64 (numL (seg b 2 6))), (28, .int .i64 (wrap64 (numL (seg b 2 6)))), (35, .int .u64 (numL (seg b 7 9))), (36, .int .i64 (wrap64 (numL (seg b 7 9)))), (39, .int .u64 (numL (seg b 9 17))), (40, .int .i64 (wrap64 (numL (seg b 9 17)))), (46, .agg #[.int .i64 (wrap64 (numL (seg b 2 6))), .int .i64 (wrap64 (rd b 6)), .int .i64 (wrap64 (numL (seg b 7 9))), .int .i64 (wrap64 (numL (seg b 9 17))), .string (strOfNums (seg b 17 (17 + (rd b 1).toNat)))]), (4, .pointer (some ⟨s, 0, none⟩))]) (fun s w' => (w'.cell? ⟨ad.block, ad.off + 6, none⟩ = some (.int .u8 (rd b 6)) ∧ w'.cell? ⟨ad.block, ad.off + 1, none⟩ = some (.int .u8 (rd b 1)) ∧ (convert 22 9 (.slice A4 (seg b 17 (17 + (rd b 1).toNat)).length (c - 17))).run Try.prog w' = .ok (.string (strOfNums (seg b 17 (17 + (rd b 1).toNat)))) w') ∧ w'.heap[w.heap.size]? = some (.cells #[.bool false, .int .i64 0, .int .i64 0, .int .i64 0, .int .i64 0, .string { data := #[] }, .int .i64 0] 171 (0, 0)) ∧ w'.heap[s]? = some (.cells #[.int .i64 0, .int .i64 0, .int .i64 0, .int .i64 0, .string { data := #[] }] 33 (0, 0)) ∧ w.heap.size < s ∧ Below w.heap.size w w') ?_ ?_
  rotate_left
  · intro hCont
    refine tw 2 22 2044919 6239219 (fun K hK => ?_) (fun K hK => ?_)
    · skip
      refine ca (l1get_c _ _ _ _ (HC1.out _ (Kd.C_below HX.out HB.out))) Try.func163 ?_
      rintro e wd1 ⟨rfl, hE⟩
      have hE := hE.symm
      subst hE
      refine ⟨_, rfl, nx hK hS (fun hS => ?_)⟩
      clear hK K
      refine pu 3 2044927 ?_
      refine tw 10 22 2045951 6239231 (fun K hK => ?_) (fun K hK => ?_)
      · skip
        refine ca (l1get_c _ _ _ _ (HC2.out _ (Kd.C_below HX.out HB.out))) Try.func163 ?_
        rintro e wd2 ⟨rfl, hE⟩
        have hE := hE.symm
        subst hE
        refine ⟨_, rfl, nx hK hS (fun hS => ?_)⟩
        clear hK K
        refine pu 11 2047999 ?_
        refine tw 14 22 2064383 6242303 (fun K hK => ?_) (fun K hK => ?_)
        · skip
          refine ca (l1get_c _ _ _ _ (HC3.out _ (Kd.C_below HX.out HB.out))) Try.func163 ?_
          rintro e wd3 ⟨rfl, hE⟩
          have hE := hE.symm
          subst hE
          refine ⟨_, rfl, nx hK hS (fun hS => ?_)⟩
          clear hK K
          refine pu 15 2097151 ?_
          refine pu 21 4194303 ?_
          refine on 22 8388607 (fun K hK => ?_)
          refine va ?_
          refine nx hK ⟨pw_cell_below (below_then HB.out HB.out.size (below_alloc (Below.refl _ _) _)) C6.out, pw_cell_below (below_then HB.out HB.out.size (below_alloc (Below.refl _ _) _)) C1.out, Kd.C_string (P := Try.prog) Try.underlying22 Try.underlying5 Try.underlying9 (HC4.out _ (Kd.C_below HX.out (below_then HB.out HB.out.size (below_alloc (Below.refl _ _) _))))⟩ (fun hS => ?_)
          clear hK K
          generalize hg : w1.heap.size = g at hS ⊢
          generalize hw3 : w1.alloc _ = wd4 at hS ⊢
          obtain ⟨K3, hb3, hsz⟩ := alloc1 hw3
          clear hw3 hsz
          rw [hg] at K3
          have GW : Aside0 (w.heap.size < g) := ⟨by rw [← hg]; exact blk_lt BK.out⟩
          replace BK := Aside0.mk (blk_below BK.out hb3)
          replace HB := Aside0.mk (below_then HB.out HB.out.size hb3)
          have GK := Aside0.mk K3
          clear K3 hb3 hg
          exact norm_ (by simp only [putAll, Act.put, List.setIfInBounds_toArray, List.set_cons_zero, List.set_cons_succ]) (hCont g _ ⟨hS, BK.out, GK.out, GW.out, HB.out⟩)
        · skip
          refine va ?_
          refine nx hK ⟨pw_cell_below (below_then HB.out HB.out.size (below_alloc (Below.refl _ _) _)) C6.out, pw_cell_below (below_then HB.out HB.out.size (below_alloc (Below.refl _ _) _)) C1.out, Kd.C_string (P := Try.prog) Try.underlying22 Try.underlying5 Try.underlying9 (HC4.out _ (Kd.C_below HX.out (below_then HB.out HB.out.size (below_alloc (Below.refl _ _) _))))⟩ (fun hS => ?_)
          clear hK K
          generalize hg : w1.heap.size = g at hS ⊢
          generalize hw3 : w1.alloc _ = wd5 at hS ⊢
          obtain ⟨K3, hb3, hsz⟩ := alloc1 hw3
          clear hw3 hsz
          rw [hg] at K3
          have GW : Aside0 (w.heap.size < g) := ⟨by rw [← hg]; exact blk_lt BK.out⟩
          replace BK := Aside0.mk (blk_below BK.out hb3)
          replace HB := Aside0.mk (below_then HB.out HB.out.size hb3)
          have GK := Aside0.mk K3
          clear K3 hb3 hg
          refine on 14 6258687 (fun K hK => ?_)
          refine ca (l1get_c _ _ _ _ (HC3.out _ (Kd.C_below HX.out HB.out))) Try.func163 ?_
          rintro e wd6 ⟨rfl, hE⟩
          have hE := hE.symm
          subst hE
          refine ⟨_, rfl, nx hK hS (fun hS => ?_)⟩
          clear hK K
          refine pu 15 6291455 ?_
          refine pu 21 8388607 ?_
          exact norm_ (by simp only [putAll, Act.put, List.setIfInBounds_toArray, List.set_cons_zero, List.set_cons_succ]) (hCont g _ ⟨hS, BK.out, GK.out, GW.out, HB.out⟩)
      · skip
        refine va ?_
        refine nx hK ⟨pw_cell_below (below_then HB.out HB.out.size (below_alloc (Below.refl _ _) _)) C6.out, pw_cell_below (below_then HB.out HB.out.size (below_alloc (Below.refl _ _) _)) C1.out, Kd.C_string (P := Try.prog) Try.underlying22 Try.underlying5 Try.underlying9 (HC4.out _ (Kd.C_below HX.out (below_then HB.out HB.out.size (below_alloc (Below.refl _ _) _))))⟩ (fun hS => ?_)
        clear hK K
        generalize hg : w1.heap.size = g at hS ⊢
        generalize hw3 : w1.alloc _ = wd7 at hS ⊢
        obtain ⟨K3, hb3, hsz⟩ := alloc1 hw3
        clear hw3 hsz
        rw [hg] at K3
        have GW : Aside0 (w.heap.size < g) := ⟨by rw [← hg]; exact blk_lt BK.out⟩
        replace BK := Aside0.mk (blk_below BK.out hb3)
        replace HB := Aside0.mk (below_then HB.out HB.out.size hb3)
        have GK := Aside0.mk K3
        clear K3 hb3 hg
        refine on 10 6240255 (fun K hK => ?_)
        refine ca (l1get_c _ _ _ _ (HC2.out _ (Kd.C_below HX.out HB.out))) Try.func163 ?_
        rintro e wd8 ⟨rfl, hE⟩
        have hE := hE.symm
        subst hE
        refine ⟨_, rfl, nx hK hS (fun hS => ?_)⟩
        clear hK K
        refine pu 11 6242303 ?_
        refine on 14 6258687 (fun K hK => ?_)
        refine ca (l1get_c _ _ _ _ (HC3.out _ (Kd.C_below HX.out HB.out))) Try.func163 ?_
        rintro e wd9 ⟨rfl, hE⟩
        have hE := hE.symm
        subst hE
        refine ⟨_, rfl, nx hK hS (fun hS => ?_)⟩
        clear hK K
        refine pu 15 6291455 ?_
        refine pu 21 8388607 ?_
        exact norm_ (by simp only [putAll, Act.put, List.setIfInBounds_toArray, List.set_cons_zero, List.set_cons_succ]) (hCont g _ ⟨hS, BK.out, GK.out, GW.out, HB.out⟩)
    · skip
      refine va ?_
      refine nx hK ⟨pw_cell_below (below_then HB.out HB.out.size (below_alloc (Below.refl _ _) _)) C6.out, pw_cell_below (below_then HB.out HB.out.size (below_alloc (Below.refl _ _) _)) C1.out, Kd.C_string (P := Try.prog) Try.underlying22 Try.underlying5 Try.underlying9 (HC4.out _ (Kd.C_below HX.out (below_then HB.out HB.out.size (below_alloc (Below.refl _ _) _))))⟩ (fun hS => ?_)
      clear hK K
      generalize hg : w1.heap.size = g at hS ⊢
      generalize hw3 : w1.alloc _ = wd10 at hS ⊢
      obtain ⟨K3, hb3, hsz⟩ := alloc1 hw3
      clear hw3 hsz
      rw [hg] at K3
      have GW : Aside0 (w.heap.size < g) := ⟨by rw [← hg]; exact blk_lt BK.out⟩
      replace BK := Aside0.mk (blk_below BK.out hb3)
      replace HB := Aside0.mk (below_then HB.out HB.out.size hb3)
      have GK := Aside0.mk K3
      clear K3 hb3 hg
      refine on 2 6239223 (fun K hK => ?_)
      refine ca (l1get_c _ _ _ _ (HC1.out _ (Kd.C_below HX.out HB.out))) Try.func163 ?_
      rintro e wd11 ⟨rfl, hE⟩
      have hE := hE.symm
      subst hE
      refine ⟨_, rfl, nx hK hS (fun hS => ?_)⟩
      clear hK K
      refine pu 3 6239231 ?_
      refine on 10 6240255 (fun K hK => ?_)
      refine ca (l1get_c _ _ _ _ (HC2.out _ (Kd.C_below HX.out HB.out))) Try.func163 ?_
      rintro e wd12 ⟨rfl, hE⟩
      have hE := hE.symm
      subst hE
      refine ⟨_, rfl, nx hK hS (fun hS => ?_)⟩
      clear hK K
      refine pu 11 6242303 ?_
      refine on 14 6258687 (fun K hK => ?_)
      refine ca (l1get_c _ _ _ _ (HC3.out _ (Kd.C_below HX.out HB.out))) Try.func163 ?_
      rintro e wd13 ⟨rfl, hE⟩
      have hE := hE.symm
      subst hE
      refine ⟨_, rfl, nx hK hS (fun hS => ?_)⟩
      clear hK K
      refine pu 15 6291455 ?_
      refine pu 21 8388607 ?_
      exact norm_ (by simp only [putAll, Act.put, List.setIfInBounds_toArray, List.set_cons_zero, List.set_cons_succ]) (hCont g _ ⟨hS, BK.out, GK.out, GW.out, HB.out⟩)
  rintro g wj ⟨hS, BK0, GK, GW, HB0⟩
  clear BK HB
  refine norm_ (a' := ?_) ?_ ?_
  rotate_left
  · simp only [putAll, Act.put, List.setIfInBounds_toArray, List.set_cons_zero, List.set_cons_succ]
    rfl
  have d0 := (blk_cell GK 0).trans rfl; have z0 := blk_frozen GK 0
  have d1 := (blk_cell GK 1).trans rfl; have z1 := blk_frozen GK 1
  have d2 := (blk_cell GK 2).trans rfl; have z2 := blk_frozen GK 2
  have d3 := (blk_cell GK 3).trans rfl; have z3 := blk_frozen GK 3
  have d4 := (blk_cell GK 4).trans rfl; have z4 := blk_frozen GK 4
  obtain ⟨GK2, q5⟩ := set5 GK (.int .i64 (wrap64 (numL (seg b 2 6)))) (.int .i64 (wrap64 (rd b 6))) (.int .i64 (wrap64 (numL (seg b 7 9)))) (.int .i64 (wrap64 (numL (seg b 9 17)))) (.string (strOfNums (seg b 17 (17 + (rd b 1).toNat))))
  refine on 23 16777215 (fun K hK => ?_)
  refine st ?_
  have BK := Aside0.mk (q5.blk BK0 (by simp; omega))
  have HB := Aside0.mk (q5.toBelow HB0 HB0.size (fun x hx => by simp at hx; omega))
  have GK := Aside0.mk GK2
  refine nx hK ⟨pw_cell_below HB.out C6.out, pw_cell_below HB.out C1.out, Kd.C_string (P := Try.prog) Try.underlying22 Try.underlying5 Try.underlying9 (HC4.out _ (Kd.C_below HX.out HB.out))⟩ (fun hS => dn ?_)
  clear hK K hS l6 l1 d0 d1 d2 d3 d4 z0 z1 z2 z3 z4 q5 GK2 BK0 HB0
  generalize (((((wj.setCell _ _).setCell _ _).setCell _ _).setCell _ _).setCell _ _) = w3 at BK HB GK ⊢
  go_upto_region 7 with (fail)
  have d0 := (blk_cell GK.out 0).trans rfl
  have d1 := (blk_cell GK.out 1).trans rfl
  have d2 := (blk_cell GK.out 2).trans rfl
  have d3 := (blk_cell GK.out 3).trans rfl
  have d4 := (blk_cell GK.out 4).trans rfl
  go_wp2_with fail
  refine (specNoteOk_c (noteOf b) true ⟨fun _ => HO.out, fun _ => rfl⟩ _ (by show (strOfNums (seg b 17 (17 + (rd b 1).toNat))).size ≤ _; rw [HT.out]; omega)).mono ?_
  rintro e w4 ⟨rfl, hb4⟩
  replace BK := Aside0.mk (blk_below BK.out hb4); replace GK := Aside0.mk (blk_below GK.out hb4); replace HB := Aside0.mk (below_then HB.out HB.out.size hb4)
  clear hb4 d0 d1 d2 d3 d4
  have d0 := (blk_cell GK.out 0).trans rfl
  have d1 := (blk_cell GK.out 1).trans rfl
  have d2 := (blk_cell GK.out 2).trans rfl
  have d3 := (blk_cell GK.out 3).trans rfl
  have d4 := (blk_cell GK.out 4).trans rfl
  have e0 := (blk_cell BK.out 0).trans rfl; have z0 := blk_frozen BK.out 0
  have e1 := (blk_cell BK.out 1).trans rfl; have z1 := blk_frozen BK.out 1
  have e2 := (blk_cell BK.out 2).trans rfl; have z2 := blk_frozen BK.out 2
  have e3 := (blk_cell BK.out 3).trans rfl; have z3 := blk_frozen BK.out 3
  have e4 := (blk_cell BK.out 4).trans rfl; have z4 := blk_frozen BK.out 4
  have e5 := (blk_cell BK.out 5).trans rfl; have z5 := blk_frozen BK.out 5
  have e6 := (blk_cell BK.out 6).trans rfl; have z6 := blk_frozen BK.out 6
  go_wp2
  obtain ⟨BK2, q⟩ := set7 BK.out (.bool true) (.int .i64 (wrap64 (numL (seg b 2 6)))) (.int .i64 (wrap64 (rd b 6))) (.int .i64 (wrap64 (numL (seg b 7 9)))) (.int .i64 (wrap64 (numL (seg b 9 17)))) (.string (strOfNums (seg b 17 (17 + (rd b 1).toNat)))) (.int .i64 (17 + rd b 1))
  refine bodyPost_ret (results_cell_row rfl _ _ w.heap.size 171 #[.bool true, .int .i64 (wrap64 (numL (seg b 2 6))), .int .i64 (wrap64 (rd b 6)), .int .i64 (wrap64 (numL (seg b 7 9))), .int .i64 (wrap64 (numL (seg b 9 17))), .string (strOfNums (seg b 17 (17 + (rd b 1).toNat))), .int .i64 (17 + rd b 1)] (0, 0) _ rfl BK2 Try.underlying171 rfl (by kernel_rfl)) rfl ?_
  have hlen : (17 + rd b 1) = frLen b := by unfold frLen; rfl
  refine ⟨by rw [hlen]; rfl, q.toBelow HB.out HB.out.size (fun x hx => by simp at hx; omega)⟩
set_option maxHeartbeats 8000000 in
set_option maxRecDepth 100000 in
theorem specReadFrame_n (A : Option Addr) (c : Nat) (b : List Int) (w : World) (hx : kB.C w A b.length b) (hc : b.length ≤ c) (hb : BsOk b) (h17 : 17 ≤ b.length) (h0 : rd b 0 = 78) (hk : 17 + rd b 1 ≤ b.length)
    (hok : ¬ NtOk (noteOf b)) :
    Calls Try.prog 154 #[.slice A b.length c] w (GotFr w false noNt 0) := by
  have hbl : b.length ≤ 9223372036854775807 := hx.2.1
  have hb10 := (hb.rd 1).1
  have hb11 := (hb.rd 1).2
  have hb60 := (hb.rd 6).1
  have hb61 := (hb.rd 6).2
  have HX := Aside0.mk hx; have HO := Aside0.mk hok; clear hx hb hok
  have hE2 : wrap64 (17 + wrap64 (rd b 1)) = 17 + rd b 1 := by unfold wrap64; omega
  have hE3 : wrap64 (17 + rd b 1) = 17 + rd b 1 := by unfold wrap64; omega
  obtain ⟨A1, hcut1, hC1, hle1⟩ := mid_c (A := A) (c := c) (xs := b) 2 6 2 6 rfl rfl (by omega) (by omega) (by omega) hc
  obtain ⟨A2, hcut2, hC2, hle2⟩ := mid_c (A := A) (c := c) (xs := b) 7 9 7 9 rfl rfl (by omega) (by omega) (by omega) hc
  obtain ⟨A3, hcut3, hC3, hle3⟩ := mid_c (A := A) (c := c) (xs := b) 9 17 9 17 rfl rfl (by omega) (by omega) (by omega) hc
  obtain ⟨A4, hcut4, hC4, hle4⟩ := mid_c (A := A) (c := c) (xs := b) 17 (wrap64 (17 + rd b 1)) 17 (17 + (rd b 1).toNat) rfl (by omega) (by omega) (by omega) (by omega) hc
  clear hE2 hE3 hle1 hle2 hle3 hle4
  have HT : Aside0 ((strOfNums (seg b 17 (17 + (rd b 1).toNat))).size = (rd b 1).toNat) := ⟨by rw [str_size, seg_len b (by omega)]; omega⟩
  obtain ⟨ad, e1, c6⟩ := Kd.at_int HX.out 6 (by omega) (by omega)
  cases e1
  obtain ⟨ad1, e1, c1⟩ := Kd.at_int HX.out 1 (by omega) (by omega)
  cases e1
  obtain ⟨ad1, e1, c0⟩ := Kd.at_int HX.out 0 (by omega) (by omega)
  cases e1
  have HC1 := Aside0.mk hC1; have HC2 := Aside0.mk hC2; have HC3 := Aside0.mk hC3; have HC4 := Aside0.mk hC4; clear hC1 hC2 hC3 hC4
  simp only [show (6 : Int).toNat = 6 from rfl, show (1 : Int).toNat = 1 from rfl, show (0 : Int).toNat = 0 from rfl, Go.Addr.add, Nat.reduceEqDiff, if_false, if_true] at c6 c1 c0
  have C6 := Aside0.mk c6; have C1 := Aside0.mk c1
  have h78 := eqT h0
  have BK := Aside0.mk (blk_new w (.cells #[.bool false, .int .i64 0, .int .i64 0, .int .i64 0, .int .i64 0, .string { data := #[] }, .int .i64 0] 171))
  have HB := Aside0.mk (below_alloc (Below.refl w.heap.size w) (.cells #[.bool false, .int .i64 0, .int .i64 0, .int .i64 0, .int .i64 0, .string { data := #[] }, .int .i64 0] 171))
  clear h0
  go_enter Try.func154, Try.ntmps154
  go_upto_region 1 with (fail)
  replace c6 := pw_cell_below HB.out c6; replace c1 := pw_cell_below HB.out c1; replace c0 := pw_cell_below HB.out c0
  generalize w.alloc _ = w0 at BK HB c6 c1 c0 ⊢
  go_upto_region 6 with (fail)
  refine sta (fun w' => w'.cell? ⟨ad.block, ad.off + 6, none⟩ = some (.int .u8 (rd b 6)) ∧ w'.cell? ⟨ad.block, ad.off + 1, none⟩ = some (.int .u8 (rd b 1)) ∧ (convert 22 9 (.slice A4 (seg b 17 (17 + (rd b 1).toNat)).length (c - 17))).run Try.prog w' = .ok (.string (strOfNums (seg b 17 (17 + (rd b 1).toNat)))) w') [] 24 ⟨c6, c1, Kd.C_string (P := Try.prog) Try.underlying22 Try.underlying5 Try.underlying9 (Kd.C_drew (HC4.out _ (Kd.C_below HX.out HB.out)))⟩ (fun hS => ?_)
  replace BK := Aside0.mk (blk_drew BK.out); replace HB := Aside0.mk (below_drew HB.out)
  clear c6 c1 c0
  generalize w0.drew = w1 at BK HB hS ⊢
  have l6 : ((6 : Int) < (b.length : Int)) = True := eq_true (by omega)
  have l1 : ((1 : Int) < (b.length : Int)) = True := eq_true (by omega)
  refine pu 0 1 ?_
  refine pu 1 3 ?_
  refine pu 4 19 ?_
  refine pu 5 51 ?_
  refine tk 6 115 hS ?_ (hr := by rintro w' ⟨s0, s1, s2⟩; go_simp; with_reducible rfl)
  refine pu 7 243 ?_
  refine pu 8 499 ?_
  refine pu 9 1011 ?_
  refine pu 12 5107 ?_
  refine pu 13 13299 ?_
  refine pu 16 78835 ?_
  refine pu 17 209907 ?_
  refine pu 18 472051 ?_
  refine pu 19 996339 ?_
  refine tk 20 2044915 hS ?_ (hr := by rintro w' ⟨s0, s1, s2⟩; go_simp; with_reducible rfl)
  refine join_ (σ := Nat) 1 (bl 24 8388607) (fun s => [(27, .int .u64 (numL (seg b 2 6))), (28, .int .i64 (wrap64 (numL (seg b 2 6)))), (35, .int .u64 (numL (seg b 7 9))), (36, .int .i64 (wrap64 (numL (seg b 7 9)))), (39, .int .u64 (numL (seg b 9 17))), (40, .int .i64 (wrap64 (numL (seg b 9 17)))), (46, .agg #[.int .i64 (wrap64 (numL (seg b 2 6))), .int .i64 (wrap64 (rd b 6)), .int .i64 (wrap64 (numL (seg b 7 9))), .int .i64 (wrap64 (numL (seg b 9 17))), .string (strOfNums (seg b 17 (17 + (rd b 1).toNat)))]), (4, .pointer (some ⟨s, 0, none⟩))]) (fun s w' => (w'.cell? ⟨ad.block, ad.off + 6, none⟩ = some (.int .u8 (rd b 6)) ∧ w'.cell? ⟨ad.block, ad.off + 1, none⟩ = some (.int .u8 (rd b 1)) ∧ (convert 22 9 (.slice A4 (seg b 17 (17 + (rd b 1).toNat)).length (c - 17))).run Try.prog w' = .ok (.string (strOfNums (seg b 17 (17 + (rd b 1).toNat)))) w') ∧ w'.heap[w.heap.size]? = some (.cells #[.bool false, .int .i64 0, .int .i64 0, .int .i64 0, .int .i64 0, .string { data := #[] }, .int .i64 0] 171 (0, 0)) ∧ w'.heap[s]? = some (.cells #[.int .i64 0, .int .i64 0, .int .i64 0, .int .i64 0, .string { data := #[] }] 33 (0, 0)) ∧ w.heap.size < s ∧ Below w.heap.size w w') ?_ ?_
  rotate_left
  · intro hCont
    refine tw 2 22 2044919 6239219 (fun K hK => ?_) (fun K hK => ?_)
    · skip
      refine ca (l1get_c _ _ _ _ (HC1.out _ (Kd.C_below HX.out HB.out))) Try.func163 ?_
      rintro e wd1 ⟨rfl, hE⟩
      have hE := hE.symm
      subst hE
      refine ⟨_, rfl, nx hK hS (fun hS => ?_)⟩
      clear hK K
      refine pu 3 2044927 ?_
      refine tw 10 22 2045951 6239231 (fun K hK => ?_) (fun K hK => ?_)
      · skip
        refine ca (l1get_c _ _ _ _ (HC2.out _ (Kd.C_below HX.out HB.out))) Try.func163 ?_
        rintro e wd2 ⟨rfl, hE⟩
        have hE := hE.symm
        subst hE
        refine ⟨_, rfl, nx hK hS (fun hS => ?_)⟩
        clear hK K
        refine pu 11 2047999 ?_
        refine tw 14 22 2064383 6242303 (fun K hK => ?_) (fun K hK => ?_)
        · skip
          refine ca (l1get_c _ _ _ _ (HC3.out _ (Kd.C_below HX.out HB.out))) Try.func163 ?_
          rintro e wd3 ⟨rfl, hE⟩
          have hE := hE.symm
          subst hE
          refine ⟨_, rfl, nx hK hS (fun hS => ?_)⟩
          clear hK K
          refine pu 15 2097151 ?_
          refine pu 21 4194303 ?_
          refine on 22 8388607 (fun K hK => ?_)
          refine va ?_
          refine nx hK ⟨pw_cell_below (below_then HB.out HB.out.size (below_alloc (Below.refl _ _) _)) C6.out, pw_cell_below (below_then HB.out HB.out.size (below_alloc (Below.refl _ _) _)) C1.out, Kd.C_string (P := Try.prog) Try.underlying22 Try.underlying5 Try.underlying9 (HC4.out _ (Kd.C_below HX.out (below_then HB.out HB.out.size (below_alloc (Below.refl _ _) _))))⟩ (fun hS => ?_)
          clear hK K
          generalize hg : w1.heap.size = g at hS ⊢
          generalize hw3 : w1.alloc _ = wd4 at hS ⊢
          obtain ⟨K3, hb3, hsz⟩ := alloc1 hw3
          clear hw3 hsz
          rw [hg] at K3
          have GW : Aside0 (w.heap.size < g) := ⟨by rw [← hg]; exact blk_lt BK.out⟩
          replace BK := Aside0.mk (blk_below BK.out hb3)
          replace HB := Aside0.mk (below_then HB.out HB.out.size hb3)
          have GK := Aside0.mk K3
          clear K3 hb3 hg
          exact norm_ (by simp only [putAll, Act.put, List.setIfInBounds_toArray, List.set_cons_zero, List.set_cons_succ]) (hCont g _ ⟨hS, BK.out, GK.out, GW.out, HB.out⟩)
        · skip
          refine va ?_
          refine nx hK ⟨pw_cell_below (below_then HB.out HB.out.size (below_alloc (Below.refl _ _) _)) C6.out, pw_cell_below (below_then HB.out HB.out.size (below_alloc (Below.refl _ _) _)) C1.out, Kd.C_string (P := Try.prog) Try.underlying22 Try.underlying5 Try.underlying9 (HC4.out _ (Kd.C_below HX.out (below_then HB.out HB.out.size (below_alloc (Below.refl _ _) _))))⟩ (fun hS => ?_)
          clear hK K
          generalize hg : w1.heap.size = g at hS ⊢
          generalize hw3 : w1.alloc _ = wd5 at hS ⊢
          obtain ⟨K3, hb3, hsz⟩ := alloc1 hw3
          clear hw3 hsz
          rw [hg] at K3
          have GW : Aside0 (w.heap.size < g) := ⟨by rw [← hg]; exact blk_lt BK.out⟩
          replace BK := Aside0.mk (blk_below BK.out hb3)
          replace HB := Aside0.mk (below_then HB.out HB.out.size hb3)
          have GK := Aside0.mk K3
          clear K3 hb3 hg
          refine on 14 6258687 (fun K hK => ?_)
          refine ca (l1get_c _ _ _ _ (HC3.out _ (Kd.C_below HX.out HB.out))) Try.func163 ?_
          rintro e wd6 ⟨rfl, hE⟩
          have hE := hE.symm
          subst hE
          refine ⟨_, rfl, nx hK hS (fun hS => ?_)⟩
          clear hK K
          refine pu 15 6291455 ?_
          refine pu 21 8388607 ?_
          exact norm_ (by simp only [putAll, Act.put, List.setIfInBounds_toArray, List.set_cons_zero, List.set_cons_succ]) (hCont g _ ⟨hS, BK.out, GK.out, GW.out, HB.out⟩)
      · skip
        refine va ?_
        refine nx hK ⟨pw_cell_below (below_then HB.out HB.out.size (below_alloc (Below.refl _ _) _)) C6.out, pw_cell_below (below_then HB.out HB.out.size (below_alloc (Below.refl _ _) _)) C1.out, Kd.C_string (P := Try.prog) Try.underlying22 Try.underlying5 Try.underlying9 (HC4.out _ (Kd.C_below HX.out (below_then HB.out HB.out.size (below_alloc (Below.refl _ _) _))))⟩ (fun hS => ?_)
        clear hK K
        generalize hg : w1.heap.size = g at hS ⊢
        generalize hw3 : w1.alloc _ = wd7 at hS ⊢
        obtain ⟨K3, hb3, hsz⟩ := alloc1 hw3
        clear hw3 hsz
        rw [hg] at K3
        have GW : Aside0 (w.heap.size < g) := ⟨by rw [← hg]; exact blk_lt BK.out⟩
        replace BK := Aside0.mk (blk_below BK.out hb3)
        replace HB := Aside0.mk (below_then HB.out HB.out.size hb3)
        have GK := Aside0.mk K3
        clear K3 hb3 hg
        refine on 10 6240255 (fun K hK => ?_)
        refine ca (l1get_c _ _ _ _ (HC2.out _ (Kd.C_below HX.out HB.out))) Try.func163 ?_
        rintro e wd8 ⟨rfl, hE⟩
        have hE := hE.symm
        subst hE
        refine ⟨_, rfl, nx hK hS (fun hS => ?_)⟩
        clear hK K
        refine pu 11 6242303 ?_
        refine on 14 6258687 (fun K hK => ?_)
        refine ca (l1get_c _ _ _ _ (HC3.out _ (Kd.C_below HX.out HB.out))) Try.func163 ?_
        rintro e wd9 ⟨rfl, hE⟩
        have hE := hE.symm
        subst hE
        refine ⟨_, rfl, nx hK hS (fun hS => ?_)⟩
        clear hK K
        refine pu 15 6291455 ?_
        refine pu 21 8388607 ?_
        exact norm_ (by simp only [putAll, Act.put, List.setIfInBounds_toArray, List.set_cons_zero, List.set_cons_succ]) (hCont g _ ⟨hS, BK.out, GK.out, GW.out, HB.out⟩)
    · skip
      refine va ?_
      refine nx hK ⟨pw_cell_below (below_then HB.out HB.out.size (below_alloc (Below.refl _ _) _)) C6.out, pw_cell_below (below_then HB.out HB.out.size (below_alloc (Below.refl _ _) _)) C1.out, Kd.C_string (P := Try.prog) Try.underlying22 Try.underlying5 Try.underlying9 (HC4.out _ (Kd.C_below HX.out (below_then HB.out HB.out.size (below_alloc (Below.refl _ _) _))))⟩ (fun hS => ?_)
      clear hK K
      generalize hg : w1.heap.size = g at hS ⊢
      generalize hw3 : w1.alloc _ = wd10 at hS ⊢
      obtain ⟨K3, hb3, hsz⟩ := alloc1 hw3
      clear hw3 hsz
      rw [hg] at K3
      have GW : Aside0 (w.heap.size < g) := ⟨by rw [← hg]; exact blk_lt BK.out⟩
      replace BK := Aside0.mk (blk_below BK.out hb3)
      replace HB := Aside0.mk (below_then HB.out HB.out.size hb3)
      have GK := Aside0.mk K3
      clear K3 hb3 hg
      refine on 2 6239223 (fun K hK => ?_)
      refine ca (l1get_c _ _ _ _ (HC1.out _ (Kd.C_below HX.out HB.out))) Try.func163 ?_
      rintro e wd11 ⟨rfl, hE⟩
      have hE := hE.symm
      subst hE
      refine ⟨_, rfl, nx hK hS (fun hS => ?_)⟩
      clear hK K
      refine pu 3 6239231 ?_
      refine on 10 6240255 (fun K hK => ?_)
      refine ca (l1get_c _ _ _ _ (HC2.out _ (Kd.C_below HX.out HB.out))) Try.func163 ?_
      rintro e wd12 ⟨rfl, hE⟩
      have hE := hE.symm
      subst hE
      refine ⟨_, rfl, nx hK hS (fun hS => ?_)⟩
      clear hK K
      refine pu 11 6242303 ?_
      refine on 14 6258687 (fun K hK => ?_)
      refine ca (l1get_c _ _ _ _ (HC3.out _ (Kd.C_below HX.out HB.out))) Try.func163 ?_
      rintro e wd13 ⟨rfl, hE⟩
      have hE := hE.symm
      subst hE
      refine ⟨_, rfl, nx hK hS (fun hS => ?_)⟩
      clear hK K
      refine pu 15 6291455 ?_
      refine pu 21 8388607 ?_
      exact norm_ (by simp only [putAll, Act.put, List.setIfInBounds_toArray, List.set_cons_zero, List.set_cons_succ]) (hCont g _ ⟨hS, BK.out, GK.out, GW.out, HB.out⟩)
  rintro g wj ⟨hS, BK0, GK, GW, HB0⟩
  clear BK HB
  refine norm_ (a' := ?_) ?_ ?_
  rotate_left
  · simp only [putAll, Act.put, List.setIfInBounds_toArray, List.set_cons_zero, List.set_cons_succ]
    rfl
  have d0 := (blk_cell GK 0).trans rfl; have z0 := blk_frozen GK 0
  have d1 := (blk_cell GK 1).trans rfl; have z1 := blk_frozen GK 1
  have d2 := (blk_cell GK 2).trans rfl; have z2 := blk_frozen GK 2
  have d3 := (blk_cell GK 3).trans rfl; have z3 := blk_frozen GK 3
  have d4 := (blk_cell GK 4).trans rfl; have z4 := blk_frozen GK 4
  obtain ⟨GK2, q5⟩ := set5 GK (.int .i64 (wrap64 (numL (seg b 2 6)))) (.int .i64 (wrap64 (rd b 6))) (.int .i64 (wrap64 (numL (seg b 7 9)))) (.int .i64 (wrap64 (numL (seg b 9 17)))) (.string (strOfNums (seg b 17 (17 + (rd b 1).toNat))))
  refine on 23 16777215 (fun K hK => ?_)
  refine st ?_
  have BK := Aside0.mk (q5.blk BK0 (by simp; omega))
  have HB := Aside0.mk (q5.toBelow HB0 HB0.size (fun x hx => by simp at hx; omega))
  have GK := Aside0.mk GK2
  refine nx hK ⟨pw_cell_below HB.out C6.out, pw_cell_below HB.out C1.out, Kd.C_string (P := Try.prog) Try.underlying22 Try.underlying5 Try.underlying9 (HC4.out _ (Kd.C_below HX.out HB.out))⟩ (fun hS => dn ?_)
  clear hK K hS l6 l1 d0 d1 d2 d3 d4 z0 z1 z2 z3 z4 q5 GK2 BK0 HB0
  generalize (((((wj.setCell _ _).setCell _ _).setCell _ _).setCell _ _).setCell _ _) = w3 at BK HB GK ⊢
  go_upto_region 7 with (fail)
  have d0 := (blk_cell GK.out 0).trans rfl
  have d1 := (blk_cell GK.out 1).trans rfl
  have d2 := (blk_cell GK.out 2).trans rfl
  have d3 := (blk_cell GK.out 3).trans rfl
  have d4 := (blk_cell GK.out 4).trans rfl
  go_wp2_with fail
  refine (specNoteOk_c (noteOf b) false ⟨fun h => (by cases h), fun h => absurd h HO.out⟩ _ (by show (strOfNums (seg b 17 (17 + (rd b 1).toNat))).size ≤ _; rw [HT.out]; omega)).mono ?_
  rintro e w4 ⟨rfl, hb4⟩
  replace BK := Aside0.mk (blk_below BK.out hb4); replace GK := Aside0.mk (blk_below GK.out hb4); replace HB := Aside0.mk (below_then HB.out HB.out.size hb4)
  clear hb4 d0 d1 d2 d3 d4
  have e0 := (blk_cell BK.out 0).trans rfl; have z0 := blk_frozen BK.out 0
  have e1 := (blk_cell BK.out 1).trans rfl; have z1 := blk_frozen BK.out 1
  have e2 := (blk_cell BK.out 2).trans rfl; have z2 := blk_frozen BK.out 2
  have e3 := (blk_cell BK.out 3).trans rfl; have z3 := blk_frozen BK.out 3
  have e4 := (blk_cell BK.out 4).trans rfl; have z4 := blk_frozen BK.out 4
  have e5 := (blk_cell BK.out 5).trans rfl; have z5 := blk_frozen BK.out 5
  have e6 := (blk_cell BK.out 6).trans rfl; have z6 := blk_frozen BK.out 6
  go_wp2
  obtain ⟨BK2, q⟩ := set7 BK.out (.bool false) (.int .i64 0) (.int .i64 0) (.int .i64 0) (.int .i64 0) (.string { data := #[] }) (.int .i64 0)
  refine bodyPost_ret (results_cell_row rfl _ _ w.heap.size 171 #[.bool false, .int .i64 0, .int .i64 0, .int .i64 0, .int .i64 0, .string { data := #[] }, .int .i64 0] (0, 0) _ rfl BK2 Try.underlying171 rfl (by kernel_rfl)) rfl ?_
  exact ⟨rfl, q.toBelow HB.out HB.out.size (fun x hx => by simp at hx; omega)⟩
end Go.Proofs.Ytocdlibnmlcokaa
namespace Go.Proofs.Ytocdlibnmlcokaa
open Go.RowKit Go.Proofs.YtocdlibnmlcokaaW.PrintWords Go.Proofs.YtocdlibnmlcokaaW.PrintLast
set_option linter.unusedVariables false
set_option linter.unusedSimpArgs false
set_option maxHeartbeats 4000000 in
set_option maxRecDepth 100000 in
theorem implReadFrame_early (A : Option Addr) (c : Nat) (b : List Int) (w : World) (hx : kB.C w A b.length b) (hb : BsOk b) (hno : ¬ (17 ≤ b.length ∧ rd b 0 = 78 ∧ 17 + rd b 1 ≤ b.length)) :
    Calls Try.prog 147 #[.slice A b.length c] w (GotFr w false noNt 0) := by
  have hbl : b.length ≤ 9223372036854775807 := hx.2.1
  have hb10 := (hb.rd 1).1
  have hb11 := (hb.rd 1).2
  have HX := Aside0.mk hx; have HN := Aside0.mk hno; clear hx hb hno
  have BK := Aside0.mk (blk_new w (.cells #[.bool false, .int .i64 0, .int .i64 0, .int .i64 0, .int .i64 0, .string { data := #[] }, .int .i64 0] 171))
  have HB := Aside0.mk (below_alloc (Below.refl w.heap.size w) (.cells #[.bool false, .int .i64 0, .int .i64 0, .int .i64 0, .int .i64 0, .string { data := #[] }, .int .i64 0] 171))
  go_enter Try.func147, Try.ntmps147
  go_upto_region 1 with (fail)
  generalize w.alloc _ = w0 at BK HB ⊢
  have e0 := (blk_cell BK.out 0).trans rfl; have z0 := blk_frozen BK.out 0
  have e1 := (blk_cell BK.out 1).trans rfl; have z1 := blk_frozen BK.out 1
  have e2 := (blk_cell BK.out 2).trans rfl; have z2 := blk_frozen BK.out 2
  have e3 := (blk_cell BK.out 3).trans rfl; have z3 := blk_frozen BK.out 3
  have e4 := (blk_cell BK.out 4).trans rfl; have z4 := blk_frozen BK.out 4
  have e5 := (blk_cell BK.out 5).trans rfl; have z5 := blk_frozen BK.out 5
  have e6 := (blk_cell BK.out 6).trans rfl; have z6 := blk_frozen BK.out 6
  by_cases h17 : b.length < 17
  · go_wp2
    obtain ⟨BK2, q⟩ := set7 BK.out (.bool false) (.int .i64 0) (.int .i64 0) (.int .i64 0) (.int .i64 0) (.string { data := #[] }) (.int .i64 0)
    refine bodyPost_ret (results_cell_row rfl _ _ w.heap.size 171 #[.bool false, .int .i64 0, .int .i64 0, .int .i64 0, .int .i64 0, .string { data := #[] }, .int .i64 0] (0, 0) _ rfl BK2 Try.underlying171 rfl (by kernel_rfl)) rfl ?_
    exact ⟨rfl, q.toBelow HB.out HB.out.size (fun x hx => by simp at hx; omega)⟩
  obtain ⟨ad, e_, c0⟩ := Kd.at_int HX.out 0 (by omega) (by omega)
  cases e_
  obtain ⟨ad, e_, c1⟩ := Kd.at_int HX.out 1 (by omega) (by omega)
  cases e_
  simp only [show (1 : Int).toNat = 1 from rfl, show (0 : Int).toNat = 0 from rfl, Go.Addr.add, Nat.reduceEqDiff, if_false, if_true] at c1 c0
  replace c0 := pw_cell_below HB.out c0; replace c1 := pw_cell_below HB.out c1
  have h17' : 17 ≤ b.length := by omega
  clear h17
  by_cases h0 : rd b 0 = 78
  · have h78 := eqT h0
    have hk : (b.length : Int) < 17 + rd b 1 := by
      have := HN.out
      rcases Int.lt_or_le (b.length : Int) (17 + rd b 1) with h | h
      · exact h
      · exact absurd ⟨h17', h0, h⟩ this
    clear h0
    go_wp2
    obtain ⟨BK2, q⟩ := set7 BK.out (.bool false) (.int .i64 0) (.int .i64 0) (.int .i64 0) (.int .i64 0) (.string { data := #[] }) (.int .i64 0)
    refine bodyPost_ret (results_cell_row rfl _ _ w.heap.size 171 #[.bool false, .int .i64 0, .int .i64 0, .int .i64 0, .int .i64 0, .string { data := #[] }, .int .i64 0] (0, 0) _ rfl BK2 Try.underlying171 rfl (by kernel_rfl)) rfl ?_
    exact ⟨rfl, q.toBelow HB.out HB.out.size (fun x hx => by simp at hx; omega)⟩
  · have h78 := eqF h0
    go_wp2
    obtain ⟨BK2, q⟩ := set7 BK.out (.bool false) (.int .i64 0) (.int .i64 0) (.int .i64 0) (.int .i64 0) (.string { data := #[] }) (.int .i64 0)
    refine bodyPost_ret (results_cell_row rfl _ _ w.heap.size 171 #[.bool false, .int .i64 0, .int .i64 0, .int .i64 0, .int .i64 0, .string { data := #[] }, .int .i64 0] (0, 0) _ rfl BK2 Try.underlying171 rfl (by kernel_rfl)) rfl ?_
    exact ⟨rfl, q.toBelow HB.out HB.out.size (fun x hx => by simp at hx; omega)⟩
set_option maxHeartbeats 4000000 in
set_option maxRecDepth 100000 in
theorem specReadFrame_early (A : Option Addr) (c : Nat) (b : List Int) (w : World) (hx : kB.C w A b.length b) (hb : BsOk b) (hno : ¬ (17 ≤ b.length ∧ rd b 0 = 78 ∧ 17 + rd b 1 ≤ b.length)) :
    Calls Try.prog 154 #[.slice A b.length c] w (GotFr w false noNt 0) := by
  have hbl : b.length ≤ 9223372036854775807 := hx.2.1
  have hb10 := (hb.rd 1).1
  have hb11 := (hb.rd 1).2
  have HX := Aside0.mk hx; have HN := Aside0.mk hno; clear hx hb hno
  have BK := Aside0.mk (blk_new w (.cells #[.bool false, .int .i64 0, .int .i64 0, .int .i64 0, .int .i64 0, .string { data := #[] }, .int .i64 0] 171))
  have HB := Aside0.mk (below_alloc (Below.refl w.heap.size w) (.cells #[.bool false, .int .i64 0, .int .i64 0, .int .i64 0, .int .i64 0, .string { data := #[] }, .int .i64 0] 171))
  go_enter Try.func154, Try.ntmps154
  go_upto_region 1 with (fail)
  generalize w.alloc _ = w0 at BK HB ⊢
  have e0 := (blk_cell BK.out 0).trans rfl; have z0 := blk_frozen BK.out 0
  have e1 := (blk_cell BK.out 1).trans rfl; have z1 := blk_frozen BK.out 1
  have e2 := (blk_cell BK.out 2).trans rfl; have z2 := blk_frozen BK.out 2
  have e3 := (blk_cell BK.out 3).trans rfl; have z3 := blk_frozen BK.out 3
  have e4 := (blk_cell BK.out 4).trans rfl; have z4 := blk_frozen BK.out 4
  have e5 := (blk_cell BK.out 5).trans rfl; have z5 := blk_frozen BK.out 5
  have e6 := (blk_cell BK.out 6).trans rfl; have z6 := blk_frozen BK.out 6
  by_cases h17 : b.length < 17
  · go_wp2
    obtain ⟨BK2, q⟩ := set7 BK.out (.bool false) (.int .i64 0) (.int .i64 0) (.int .i64 0) (.int .i64 0) (.string { data := #[] }) (.int .i64 0)
    refine bodyPost_ret (results_cell_row rfl _ _ w.heap.size 171 #[.bool false, .int .i64 0, .int .i64 0, .int .i64 0, .int .i64 0, .string { data := #[] }, .int .i64 0] (0, 0) _ rfl BK2 Try.underlying171 rfl (by kernel_rfl)) rfl ?_
    exact ⟨rfl, q.toBelow HB.out HB.out.size (fun x hx => by simp at hx; omega)⟩
  obtain ⟨ad, e_, c0⟩ := Kd.at_int HX.out 0 (by omega) (by omega)
  cases e_
  obtain ⟨ad, e_, c1⟩ := Kd.at_int HX.out 1 (by omega) (by omega)
  cases e_
  simp only [show (1 : Int).toNat = 1 from rfl, show (0 : Int).toNat = 0 from rfl, Go.Addr.add, Nat.reduceEqDiff, if_false, if_true] at c1 c0
  replace c0 := pw_cell_below HB.out c0; replace c1 := pw_cell_below HB.out c1
  have h17' : 17 ≤ b.length := by omega
  clear h17
  by_cases h0 : rd b 0 = 78
  · have h78 := eqT h0
    have hk : (b.length : Int) < 17 + rd b 1 := by
      have := HN.out
      rcases Int.lt_or_le (b.length : Int) (17 + rd b 1) with h | h
      · exact h
      · exact absurd ⟨h17', h0, h⟩ this
    clear h0
    go_wp2
    obtain ⟨BK2, q⟩ := set7 BK.out (.bool false) (.int .i64 0) (.int .i64 0) (.int .i64 0) (.int .i64 0) (.string { data := #[] }) (.int .i64 0)
    refine bodyPost_ret (results_cell_row rfl _ _ w.heap.size 171 #[.bool false, .int .i64 0, .int .i64 0, .int .i64 0, .int .i64 0, .string { data := #[] }, .int .i64 0] (0, 0) _ rfl BK2 Try.underlying171 rfl (by kernel_rfl)) rfl ?_
    exact ⟨rfl, q.toBelow HB.out HB.out.size (fun x hx => by simp at hx; omega)⟩
  · have h78 := eqF h0
    go_wp2
    obtain ⟨BK2, q⟩ := set7 BK.out (.bool false) (.int .i64 0) (.int .i64 0) (.int .i64 0) (.int .i64 0) (.string { data := #[] }) (.int .i64 0)
    refine bodyPost_ret (results_cell_row rfl _ _ w.heap.size 171 #[.bool false, .int .i64 0, .int .i64 0, .int .i64 0, .int .i64 0, .string { data := #[] }, .int .i64 0] (0, 0) _ rfl BK2 Try.underlying171 rfl (by kernel_rfl)) rfl ?_
    exact ⟨rfl, q.toBelow HB.out HB.out.size (fun x hx => by simp at hx; omega)⟩
theorem implReadFrame_yes (A : Option Addr) (c : Nat) (b : List Int) (w : World) (hx : kB.C w A b.length b) (hc : b.length ≤ c) (hb : BsOk b) (h : FrIs b) :
    Calls Try.prog 147 #[.slice A b.length c] w (GotFr w true (noteOf b) (frLen b)) :=
  implReadFrame_y A c b w hx hc hb h.1 h.2.1 h.2.2.1 h.2.2.2
theorem implReadFrame_no (A : Option Addr) (c : Nat) (b : List Int) (w : World) (hx : kB.C w A b.length b) (hc : b.length ≤ c) (hb : BsOk b) (h : ¬ FrIs b) :
    Calls Try.prog 147 #[.slice A b.length c] w (GotFr w false noNt 0) := by
  by_cases h1 : 17 ≤ b.length ∧ rd b 0 = 78 ∧ 17 + rd b 1 ≤ b.length
  · exact implReadFrame_n A c b w hx hc hb h1.1 h1.2.1 h1.2.2 (fun hn => h ⟨h1.1, h1.2.1, h1.2.2, hn⟩)
  · exact implReadFrame_early A c b w hx hb h1
theorem specReadFrame_yes (A : Option Addr) (c : Nat) (b : List Int) (w : World) (hx : kB.C w A b.length b) (hc : b.length ≤ c) (hb : BsOk b) (h : FrIs b) :
    Calls Try.prog 154 #[.slice A b.length c] w (GotFr w true (noteOf b) (frLen b)) :=
  specReadFrame_y A c b w hx hc hb h.1 h.2.1 h.2.2.1 h.2.2.2
theorem specReadFrame_no (A : Option Addr) (c : Nat) (b : List Int) (w : World) (hx : kB.C w A b.length b) (hc : b.length ≤ c) (hb : BsOk b) (h : ¬ FrIs b) :
    Calls Try.prog 154 #[.slice A b.length c] w (GotFr w false noNt 0) := by
  by_cases h1 : 17 ≤ b.length ∧ rd b 0 = 78 ∧ 17 + rd b 1 ≤ b.length
  · exact specReadFrame_n A c b w hx hc hb h1.1 h1.2.1 h1.2.2 (fun hn => h ⟨h1.1, h1.2.1, h1.2.2, hn⟩)
  · exact specReadFrame_early A c b w hx hb h1
end Go.Proofs.Ytocdlibnmlcokaa
namespace Go.Proofs.Ytocdlibnmlcokaa
open Go.RowKit Go.Proofs.YtocdlibnmlcokaaW.PrintWords Go.Proofs.YtocdlibnmlcokaaW.PrintLast
set_option linter.unusedVariables false
set_option linter.unusedSimpArgs false
abbrev strL (s : ByteArray) : List Int := Go.Proofs.YtocdlibnmlcokaaW.PrintWords.bytesOf s
theorem str_at {w w' : World} {v v' : Value} {n : Nat} {xs : List Value} {s : ByteArray} {ty : TypeId} {i : TypeInfo} (hi : Try.prog.info? 5 = some i) (hz : i.zero = some (.int .u8 0)) (hsize : i.size = 1) (hby : i.bytes = 1)
    (hown : w.ownsRow 0 5 1 v n xs) (hl : n + s.size ≤ 100000) (hr : (Builtin.append_ #[22, 9] ty #[v, .string s]).run Try.prog w = .ok v' w') (hnil : v' = .slice none 0 0 ↔ v = .slice none 0 0 ∧ s.size = 0) :
    v'.ownBlock = v.ownBlock ∨ v'.ownBlock = some w.heap.size := by
  have hxl : xs.length = n := by simpa using hown.1
  rcases hown.2 with ⟨rfl, rfl⟩ | ⟨g, cap, cur, rfl, hbg, hg, hnc, hcm, hcs, htake⟩
  · by_cases hm : s.size = 0
    · rw [hnil.2 ⟨rfl, hm⟩]; exact .inl rfl
    · have h2 := run_append_nil_string (P := Try.prog) w 22 9 ty 5 i (.int .u8 0) Try.underlying22 Try.underlying9 hi hz s (by omega) (by omega) (by rw [hby]; omega)
      rw [hr] at h2
      injection h2 with h2 _
      rw [h2]; exact .inr rfl
  · by_cases hroom : n + s.size ≤ cap
    · have h2 := Lib.run_append_room_string (P := Try.prog) w 22 9 ty 5 i Try.underlying22 Try.underlying9 hi hsize g n cap cur hg s hroom (by simp only [maxLen] at hcm; omega)
      rw [hr] at h2
      injection h2 with h2 _
      rw [h2]; exact .inl rfl
    · have h2 := Lib.run_append_grow_string (P := Try.prog) w 22 9 ty 5 i (.int .u8 0) Try.underlying22 Try.underlying9 hi hz ⟨g, 0, none⟩ n cap xs (by rw [hsize]; simpa using hxl) (hown.cells (g := g) rfl) s (by omega) (by omega) (by rw [hby]; exact growslice_fits (by omega) (by omega))
      rw [hr] at h2
      injection h2 with h2 _
      rw [h2]; exact .inr rfl
section
variable {ops : Array Oper} {rest : List Oper} {o : Oper} {a : Act} {Q : Exit → Act → World → Prop} {w W : World} {g t : Nat} {cells : Array Value}
theorem Bx.app_str (ht : t ≠ 5) (hgd : o.guard = none) (s x : Operand)
    (ho : o.op = .call { callee := .builtin .append, args := #[s, x], argTypes := #[22, 9] })
    (v : Value) (xs : List Int) (y : ByteArray) (hs : a.eval s = v) (hx : a.eval x = .string y)
    (HO : Bx w g t cells W v xs) (hl : xs.length + y.size ≤ 100000)
    (h : ∀ v1 w1, Bx w g t cells w1 v1 (xs ++ strL y) → wpList Try.prog ops Q rest (a.put o.dst v1) w1) :
    wpList Try.prog ops Q (o :: rest) a W := by
  obtain ⟨f, hr, hn, hf⟩ := HO.row
  obtain ⟨hown, e⟩ := Rp.own_Row hr
  subst e
  obtain ⟨i0, hi, hzz⟩ := Option.map_eq_some_iff.1 info5
  simp only [Prod.mk.injEq] at hzz
  obtain ⟨hz0, hz1, hz2⟩ := hzz
  obtain ⟨v1, w1, hrun, hown1, hg, hnil⟩ := Lib.run_append_own_string (P := Try.prog) W 0 22 9 o.type 5 i0 Try.underlying22 Try.underlying9 hi hz0 hz1 hz2 v xs.length _ hown y (by simp only [maxLen]; omega) (by omega) (Nat.zero_le _)
  have hat := str_at hi hz0 hz1 hz2 hown hl hrun hnil
  have hc : encs (Value.int .u8) (xs ++ strL y) = encs (Value.int .u8) xs ++ Lib.strCells y := by
    simp [encs, strL, Go.Proofs.YtocdlibnmlcokaaW.PrintWords.bytesOf, Lib.strCells]
  have h3 : w1.ownsRow 0 5 1 v1 (xs ++ strL y).length (encs (Value.int .u8) (xs ++ strL y)) := by
    rw [hc, List.length_append, bytesOf_length]; exact hown1
  refine wpList_plain hgd fun K hK => ?_
  unfold Oper.wp execOp
  simp only [ho, resolve, invoke, builtin, Sem.run_bind, Sem.run_pure, Result.andThen_ok, List.map_toArray, List.map_cons, List.map_nil, hs, hx, hrun]
  refine hK _ _ (h v1 w1 (HO.app ht (Rp.Row_own (enc := Value.int .u8) (h1 := fun _ => rfl) h3) (Rp.nodup_toList _) (fun b hb => ?_) hg))
  rcases hat with hat | hat
  · rw [hat] at hb; exact .inl hb
  · rw [hat] at hb; simp at hb; exact .inr (by omega)
end
def frameL (x : Nt) : List Int := ((((([78, (x.text.size : Int)] : List Int) ++ lowTo x.tick 4) ++ [x.kind]) ++ lowTo x.who 2) ++ lowTo (IntKind.u64.wrap x.n) 8) ++ strL x.text
set_option maxHeartbeats 8000000 in
set_option maxRecDepth 100000 in
theorem implFrame_yes (x : Nt) (w : World) (hok : NtOk x) :
    Calls Try.prog 113 #[vN x] w (GotRow rB 5 w (frameL x)) := by
  have g1 := hok.1.1; have g2 := hok.1.2; have g3 := hok.2.1.1; have g4 := hok.2.1.2; have g5 := hok.2.2.1.1; have g6 := hok.2.2.1.2; have g7 := hok.2.2.2
  have HO := Aside0.mk hok; clear hok
  simp only [vN] at *
  have BK := Aside0.mk (blk_new w (.cells #[.int .i64 x.tick, .int .i64 x.kind, .int .i64 x.who, .int .i64 x.n, .string x.text] 33))
  have HB := Aside0.mk (below_alloc (Below.refl w.heap.size w) (.cells #[.int .i64 x.tick, .int .i64 x.kind, .int .i64 x.who, .int .i64 x.n, .string x.text] 33))
  go_enter Try.func113, Try.ntmps113
  go_upto_region 1 with (fail)
  generalize w.alloc _ = w0 at BK HB ⊢
  have q0 := (blk_cell BK.out 0).trans rfl; have q1 := (blk_cell BK.out 1).trans rfl; have q2 := (blk_cell BK.out 2).trans rfl; have q3 := (blk_cell BK.out 3).trans rfl; have q4 := (blk_cell BK.out 4).trans rfl
  go_wp2_with fail
  refine (implNoteOk_c x true ⟨fun _ => HO.out, fun _ => rfl⟩ _ (by omega)).mono ?_
  rintro e w1 ⟨rfl, hb1⟩
  replace BK := Aside0.mk (blk_below BK.out hb1)
  replace HB := Aside0.mk (below_then HB.out HB.out.size hb1)
  clear hb1 q0 q1 q2 q3 q4
  have q4 := (blk_cell BK.out 4).trans rfl
  go_upto_region 4 with (fail)
  have hX : Bx w w.heap.size 33 #[.int .i64 x.tick, .int .i64 x.kind, .int .i64 x.who, .int .i64 x.n, .string x.text] (w1.alloc (.cells #[.int .u8 78, .int .u8 (x.text.size : Int)] 5)) (.slice (some ⟨w1.heap.size, 0, none⟩) 2 2) [78, (x.text.size : Int)] := Bx.lit HB.out BK.out [78, (x.text.size : Int)] (by simp)
  generalize w1.alloc _ = w2 at hX ⊢
  generalize (some (⟨w1.heap.size, 0, none⟩ : Addr)) = B1 at hX ⊢
  have X1 := Aside0.mk hX
  clear hX BK HB q4
  have q0 := (blk_cell X1.out.box 0).trans rfl
  go_wp2_with fail
  refine (X1.out.low_c (by decide) _ 4 (by simp [lowTo_len]) (by decide)).mono ?_
  rintro e w11 ⟨v2, rfl, hX⟩
  have X2 := Aside0.mk hX
  clear hX X1 q0
  have q0 := (blk_cell X2.out.box 1).trans rfl
  go_wp2_with fail
  refine (X2.out.low_c (by decide) _ 1 (by simp [lowTo_len]) (by decide)).mono ?_
  rintro e w12 ⟨v3, rfl, hX⟩
  have X3 := Aside0.mk hX
  clear hX X2 q0
  have q0 := (blk_cell X3.out.box 2).trans rfl
  go_wp2_with fail
  refine (X3.out.low_c (by decide) _ 2 (by simp [lowTo_len]) (by decide)).mono ?_
  rintro e w13 ⟨v4, rfl, hX⟩
  have X4 := Aside0.mk hX
  clear hX X3 q0
  have q0 := (blk_cell X4.out.box 3).trans rfl
  go_wp2_with fail
  refine (X4.out.low_c (by decide) _ 8 (by simp [lowTo_len]) (by decide)).mono ?_
  rintro e w14 ⟨v5, rfl, hX⟩
  have X5 := Aside0.mk hX
  clear hX X4 q0
  have q0 := (blk_cell X5.out.box 4).trans rfl
  go_wp2_with (at_builtin; go_loud (refine Bx.app_str (t := 33) (by decide) rfl (.tmp 32) (.tmp 34) rfl v5 _ x.text rfl rfl X5.out (by simp [lowTo_len]; omega) ?_); intro v6 w15 hX; have X6 := Aside0.mk hX; clear hX)
  go_ret
  have hX := X6.out
  rw [show lowTo x.kind 1 = [x.kind] by simp [lowTo, shTo]; omega] at hX
  refine ⟨_, rfl, hX.done⟩
set_option maxHeartbeats 8000000 in
set_option maxRecDepth 100000 in
theorem specFrame_yes (x : Nt) (w : World) (hok : NtOk x) :
    Calls Try.prog 136 #[vN x] w (GotRow rB 5 w (frameL x)) := by
  have g1 := hok.1.1; have g2 := hok.1.2; have g3 := hok.2.1.1; have g4 := hok.2.1.2; have g5 := hok.2.2.1.1; have g6 := hok.2.2.1.2; have g7 := hok.2.2.2
  have HO := Aside0.mk hok; clear hok
  simp only [vN] at *
  have BK := Aside0.mk (blk_new w (.cells #[.int .i64 x.tick, .int .i64 x.kind, .int .i64 x.who, .int .i64 x.n, .string x.text] 33))
  have HB := Aside0.mk (below_alloc (Below.refl w.heap.size w) (.cells #[.int .i64 x.tick, .int .i64 x.kind, .int .i64 x.who, .int .i64 x.n, .string x.text] 33))
  go_enter Try.func136, Try.ntmps136
  go_upto_region 1 with (fail)
  generalize w.alloc _ = w0 at BK HB ⊢
  have q0 := (blk_cell BK.out 0).trans rfl; have q1 := (blk_cell BK.out 1).trans rfl; have q2 := (blk_cell BK.out 2).trans rfl; have q3 := (blk_cell BK.out 3).trans rfl; have q4 := (blk_cell BK.out 4).trans rfl
  go_wp2_with fail
  refine (specNoteOk_c x true ⟨fun _ => HO.out, fun _ => rfl⟩ _ (by omega)).mono ?_
  rintro e w1 ⟨rfl, hb1⟩
  replace BK := Aside0.mk (blk_below BK.out hb1)
  replace HB := Aside0.mk (below_then HB.out HB.out.size hb1)
  clear hb1 q0 q1 q2 q3 q4
  have q4 := (blk_cell BK.out 4).trans rfl
  go_upto_region 4 with (fail)
  have hX : Bx w w.heap.size 33 #[.int .i64 x.tick, .int .i64 x.kind, .int .i64 x.who, .int .i64 x.n, .string x.text] (w1.alloc (.cells #[.int .u8 78, .int .u8 (x.text.size : Int)] 5)) (.slice (some ⟨w1.heap.size, 0, none⟩) 2 2) [78, (x.text.size : Int)] := Bx.lit HB.out BK.out [78, (x.text.size : Int)] (by simp)
  generalize w1.alloc _ = w2 at hX ⊢
  generalize (some (⟨w1.heap.size, 0, none⟩ : Addr)) = B1 at hX ⊢
  have X1 := Aside0.mk hX
  clear hX BK HB q4
  have q0 := (blk_cell X1.out.box 0).trans rfl
  go_wp2_with fail
  refine (X1.out.l1put_c (by decide) _ 4 (by simp [lowTo_len]) (by decide)).mono ?_
  rintro e w11 ⟨v2, rfl, hX⟩
  have X2 := Aside0.mk hX
  clear hX X1 q0
  have q0 := (blk_cell X2.out.box 1).trans rfl
  go_upto_region 6 with (at_builtin; go_loud (refine Bx.app_lit (t := 33) (by decide) rfl (.tmp 17) (.tmp 21) rfl v2 _ [x.kind] (by simp) X2.out rfl rfl rfl (by simp [lowTo_len]) ?_); intro v3 w12 hX; have X3 := Aside0.mk hX; clear hX)
  clear X2 q0
  have q0 := (blk_cell X3.out.box 2).trans rfl
  go_wp2_with fail
  refine (X3.out.l1put_c (by decide) _ 2 (by simp [lowTo_len]) (by decide)).mono ?_
  rintro e w13 ⟨v4, rfl, hX⟩
  have X4 := Aside0.mk hX
  clear hX X3 q0
  have q0 := (blk_cell X4.out.box 3).trans rfl
  go_wp2_with fail
  refine (X4.out.l1put_c (by decide) _ 8 (by simp [lowTo_len]) (by decide)).mono ?_
  rintro e w14 ⟨v5, rfl, hX⟩
  have X5 := Aside0.mk hX
  clear hX X4 q0
  have q0 := (blk_cell X5.out.box 4).trans rfl
  go_wp2_with (at_builtin; go_loud (refine Bx.app_str (t := 33) (by decide) rfl (.tmp 33) (.tmp 35) rfl v5 _ x.text rfl rfl X5.out (by simp [lowTo_len]; omega) ?_); intro v6 w15 hX; have X6 := Aside0.mk hX; clear hX)
  go_ret
  have hX := X6.out
  refine ⟨_, rfl, hX.done⟩
end Go.Proofs.Ytocdlibnmlcokaa
namespace Go.Proofs.Ytocdlibnmlcokaa
open Go.RowKit Go.Proofs.YtocdlibnmlcokaaW.PrintWords Go.Proofs.YtocdlibnmlcokaaW.PrintLast
set_option linter.unusedVariables false
set_option linter.unusedSimpArgs false
instance (b : List Int) : Decidable (PgIs b) := by unfold PgIs PgOk; infer_instance
def bodyL (gen : Int) : Int → List (List Int) → List Int
  | _, [] => []
  | last, b :: r => if PgIs b ∧ last ≤ genOf b ∧ genOf b ≤ gen then (if (bytesOf b).length < 56 then bytesOf b else bytesOf b ++ bodyL gen (genOf b) r) else []
def headOk (bs : List (List Int)) : Prop := PgIs (gBS bs 0) ∧ (bytesOf (gBS bs 0)).length = 0
def BlOk (bs : List (List Int)) : Prop := bs.length = 128 ∧ ∀ b ∈ bs, b.length = 64 ∧ BsOk b
theorem BlOk.g {bs : List (List Int)} (h : BlOk bs) {i : Int} (h0 : 0 ≤ i) (h1 : i < 128) : (gBS bs i).length = 64 ∧ BsOk (gBS bs i) := by
  have := h.1
  rw [gBS_eq (by omega)]; exact h.2 _ (List.getElem_mem _)
theorem from_c (A : Option Addr) (n c : Nat) (h : 1 ≤ n) : ∀ W : World, (Instr.slice 40 (.slice A n c) (some (.int .i64 1)) none none).run Try.prog W = .ok (.slice (if c = 1 then A else A.map (·.add 1)) (n - 1) (c - 1)) W := by
  obtain ⟨i0, hi, hzz⟩ := Option.map_eq_some_iff.1 info22
  simp only [Prod.mk.injEq] at hzz
  exact cut_from 40 22 .i64 Try.underlying40 hi 1 hzz.2.1 A n c 1 (by omega) (by omega)
section
variable {P : Program} {ops : Array Oper} {rest : List Oper} {o : Oper} {a : Act} {Q : Exit → Act → World → Prop} {w W : World} {g t g2 t2 : Nat} {cells cells2 : Array Value}
theorem Bx.app_row2 (ht : t ≠ 5) (ht2 : t2 ≠ 5) (hgd : o.guard = none) (s x : Operand)
    (ho : o.op = .call { callee := .builtin .append, args := #[s, x], argTypes := #[22, 22] })
    (v : Value) (xs ys : List Int) (A : Option Addr) (m c : Nat) (hs : a.eval s = v) (hx : a.eval x = .slice A m c)
    (HO : Bx w g t cells W v xs) (H2 : W.heap[g2]? = some (.cells cells2 t2 (0, 0))) (HR : kB.C W A m ys) (hl : xs.length + m ≤ 100000)
    (h : ∀ v1 w1, Bx w g t cells w1 v1 (xs ++ ys) → w1.heap[g2]? = some (.cells cells2 t2 (0, 0)) → wpList Try.prog ops Q rest (a.put o.dst v1) w1) :
    wpList Try.prog ops Q (o :: rest) a W := by
  obtain ⟨f, hr, hn, hf⟩ := HO.row
  have e := (Rp.own_Row hr).2
  subst e
  refine Rp.app_row (enc := Value.int .u8) (h1 := fun _ => rfl) 0 hgd s x 22 5 (.int .u8 0) 1 ho Try.underlying22 info5 rfl (by omega) v xs ys A m c hs hx hr HR (by omega) ?_
  intro v1 w1 fp1 hr1 hn1 hf1 hg1
  exact h v1 w1 (HO.app ht hr1 hn1 hf1 hg1) ((Kp.grown hg1).blk H2 (Rp.Row_not hr H2 (by show t2 ∉ [5]; simpa using ht2)))
end
def GotBy (w : World) (xs : List Int) (gen : Int) (e : Ending) (w' : World) : Prop :=
  ∃ v f, e = .returned (.tuple #[v, .int .i64 gen]) ∧ rB.Row 5 w' v xs f ∧ f.Nodup ∧ (∀ b ∈ f, w.heap.size ≤ b) ∧ Below w.heap.size w w'
theorem GotBy.of {w wi : World} {g t : Nat} {cells : Array Value} {v : Value} {xs : List Int} (gen : Int) (n : Nat) (X : Bx w g t cells wi v xs) : GotBy w xs gen (.returned (.tuple #[v, .int .i64 gen])) (wi.drewN n) := by
  obtain ⟨f, hr, hn, hf⟩ := X.row
  exact ⟨v, f, rfl, Rp.Row_drewN hr n, hn, hf, pw_below_drewN X.bel n⟩
theorem bodyL_no {gen last : Int} {b : List Int} {r : List (List Int)} (h : ¬ (PgIs b ∧ last ≤ genOf b ∧ genOf b ≤ gen)) : bodyL gen last (b :: r) = [] := by simp only [bodyL, if_neg h]
theorem bodyL_yes {gen last : Int} {b : List Int} {r : List (List Int)} (h : PgIs b ∧ last ≤ genOf b ∧ genOf b ≤ gen) : bodyL gen last (b :: r) = if (bytesOf b).length < 56 then bytesOf b else bytesOf b ++ bodyL gen (genOf b) r := by simp only [bodyL, if_pos h]
set_option maxHeartbeats 8000000 in
set_option maxRecDepth 100000 in
theorem l3bytes_yes (A : Option Addr) (c : Nat) (bs : List (List Int)) (w : World) (hx : rBS.d.C w A bs.length bs) (hc : bs.length ≤ c) (hb : BlOk bs) (hh : headOk bs) :
    Calls Try.prog 133 #[.slice A bs.length c] w (GotBy w (bodyL (genOf (gBS bs 0)) 1 (bs.drop 1)) (genOf (gBS bs 0))) := by
  have hl1 : 127 < bs.length := by have := hb.1; omega
  have hl2 : bs.length ≤ 128 := by have := hb.1; omega
  have HX := Aside0.mk hx; have HBL := Aside0.mk hb; have HH := Aside0.mk hh; clear hx hb hh
  have HB := Aside0.mk (Below.refl w.heap.size w)
  go_enter Try.func133, Try.ntmps133
  obtain ⟨ad, A0, c0, e1, hc1, hle, hC1⟩ := at_BS HX.out 0 (by omega) (by omega)
  cases e1
  simp only [show (0 : Int).toNat = 0 from rfl, Go.Addr.add, if_true] at hc1
  have HC1 := Aside0.mk hC1; have HLE := Aside0.mk hle
  clear hC1 hle
  go_wp2_with fail
  refine (specPageOf_yes _ _ _ _ HC1.out HLE.out (HBL.out.g (by omega) (by omega)).2 HH.out.1).mono ?_
  rintro e w1 ⟨v, f, rfl, hr, hn, hf, hb1⟩
  obtain ⟨P0, hP⟩ : ∃ P, P = bytesOf (gBS bs 0) := ⟨_, rfl⟩
  have hp0 : P0.length ≤ 0 := by rw [hP, HH.out.2]; exact Nat.le_refl _
  rw [← hP] at hr
  obtain ⟨A1, c1, rfl, _, _⟩ := Rp.Row_reads hr
  generalize hG : genOf (gBS bs 0) = gen
  have HG := Aside0.mk hG
  clear hG hP hr hn hf
  go_upto_region 2 with (fail)
  generalize hg : w1.heap.size = g
  generalize hw2 : w1.alloc _ = w2
  obtain ⟨K2, hb2, hsz⟩ := alloc1 hw2
  rw [hg] at K2
  have BK := Aside0.mk K2
  replace HB := Aside0.mk (below_then (below_then HB.out HB.out.size hb1) (Nat.le_trans HB.out.size hb1.size) hb2)
  clear hw2 hsz hg K2 hb1 hb2 hc1
  have q0 := (blk_cell BK.out 0).trans rfl; have q1 := (blk_cell BK.out 1).trans rfl; have q2 := (blk_cell BK.out 2).trans rfl
  have hcut := from_c (some ad) bs.length c (by omega)
  go_wp2
  clear hcut q0 q1 q2
  obtain ⟨T, hT⟩ : ∃ T, T = bs.drop 1 := ⟨_, rfl⟩
  have eT : bs.length - 1 = T.length := by rw [hT, List.length_drop]
  have HTC : Aside0 (rBS.d.C w (some ⟨ad.block, ad.off + 1, none⟩) T.length T) := ⟨by
    have h1 := Kd.C_drop (m := 1) HX.out (by omega) hc
    rw [if_neg (by omega), ← hT] at h1
    exact h1⟩
  have HTB : Aside0 (∀ b ∈ T, b.length = 64 ∧ BsOk b) := ⟨fun b hb => HBL.out.2 b (List.mem_of_mem_drop (hT ▸ hb))⟩
  have hT1 : T.length ≤ 127 := by omega
  have HGT : Aside0 (bodyL (genOf (gBS bs 0)) 1 (List.drop 1 bs) = bodyL gen 1 T ∧ genOf (gBS bs 0) = gen) := ⟨by rw [HG.out, hT], HG.out⟩
  rw [eT, ← hT, HG.out]
  generalize hA : (⟨ad.block, ad.off + 1, none⟩ : Addr) = ad1 at HTC ⊢
  clear hA
  have X0 : Aside0 (Bx w g 138 #[.bool true, .int .i64 gen, .slice A1 P0.length c1] w2 (.slice none 0 0) []) := ⟨⟨⟨[], Rp.Row_nil _ _ _, by simp, by simp⟩, HB.out, BK.out⟩⟩
  rw [show decide (0 < P0.length) = false from decide_eq_false (by omega)]
  clear hT eT HG HX HBL HH HC1 HLE hl1 hl2 hc HB BK
  go_loopg [5, 6, 26] T.length (fun m vu vl vi wr => ∃ (i last : Int) (xs : List Int), vi = .int .i64 i ∧ vl = .int .i64 last ∧ Aside0 (0 ≤ i ∧ i ≤ T.length ∧ T.length - i.toNat ≤ m) ∧ Aside0 (xs.length ≤ 56 * i) ∧ Aside0 (bodyL gen 1 T = xs ++ bodyL gen last (T.drop i.toNat)) ∧ Aside0 (Bx w g 138 #[.bool true, .int .i64 gen, .slice A1 P0.length c1] wr vu xs))
  case atStart => exact ⟨0, 1, [], rfl, rfl, ⟨by simp⟩, ⟨by simp⟩, ⟨by simp⟩, X0⟩
  case round =>
    clear X0
    obtain ⟨i, last, xs, rfl, rfl, HI, HL, HE, XI⟩ := hrel
    by_cases hi : i < (T.length : Int)
    · have h0 : 0 ≤ i := HI.out.1
      obtain ⟨at_, Ai, ci, e1, hc1, hle, hC1⟩ := at_BS (Kd.C_below HTC.out XI.out.bel) i h0 hi
      cases e1
      have HC1 := Aside0.mk hC1; have HLE := Aside0.mk hle
      clear hC1 hle
      have HE2 : Aside0 (T.drop i.toNat = gBS T i :: T.drop (i.toNat + 1)) := ⟨by rw [gBS_eq (by omega)]; exact List.drop_eq_getElem_cons (by omega)⟩
      have HB2 := Aside0.mk (HTB.out (gBS T i) (by rw [gBS_eq (by omega)]; exact List.getElem_mem _))
      by_cases hp : PgIs (gBS T i)
      · have HP := Aside0.mk hp; clear hp
        go_wp2_with fail
        refine (specPageOf_yes _ _ _ _ HC1.out HLE.out HB2.out.2 HP.out).mono ?_
        rintro e w3 ⟨v, f, rfl, hr, hn, hf, hb1⟩
        obtain ⟨P1, hP⟩ : ∃ P, P = bytesOf (gBS T i) := ⟨_, rfl⟩
        rw [← hP] at hr
        have HP1 := Aside0.mk hP
        have hp1 : P1.length ≤ 56 := by rw [hP]; exact bytesOf_len HB2.out.2 HB2.out.1 HP.out.2.1
        clear hP
        obtain ⟨A2, c2, rfl, _, _⟩ := Rp.Row_reads hr
        obtain ⟨gen2, hG⟩ : ∃ G, G = genOf (gBS T i) := ⟨_, rfl⟩
        rw [← hG]
        have HG2 := Aside0.mk hG
        clear hG
        go_upto_region 10 with (fail)
        generalize hg9 : w3.heap.size = g9
        generalize hw4 : w3.alloc _ = w4
        obtain ⟨K4, hb4, hsz⟩ := alloc1 hw4
        rw [hg9] at K4
        have BK9 := Aside0.mk K4
        have HR := Aside0.mk (Rp.Row_C (Rp.Row_below hr hb4)).2.2
        replace XI := Aside0.mk ((XI.out.below hb1).below hb4)
        clear hw4 hsz hg9 K4 hb1 hb4 hc1 hr hn hf
        have q1 := (blk_cell XI.out.box 1).trans rfl
        have y0 := (blk_cell BK9.out 0).trans rfl; have y1 := (blk_cell BK9.out 1).trans rfl; have y2 := (blk_cell BK9.out 2).trans rfl
        by_cases hrng : last ≤ gen2 ∧ gen2 ≤ gen
        · obtain ⟨hl, hu⟩ := hrng
          have HE3 : Aside0 (bodyL gen last (T.drop i.toNat) = if P1.length < 56 then P1 else P1 ++ bodyL gen gen2 (T.drop (i.toNat + 1))) := ⟨by rw [HE2.out, bodyL_yes ⟨HP.out, by rw [← HG2.out]; exact hl, by rw [← HG2.out]; exact hu⟩, ← HG2.out, ← HP1.out]⟩
          go_upto_region 13 with (at_builtin; go_loud (refine Bx.app_row2 (t := 138) (t2 := 138) (by decide) (by decide) rfl (.tmp 51) (.tmp 53) rfl _ xs P1 A2 P1.length c2 rfl rfl XI.out BK9.out HR.out (by have := HL.out; have := HI.out; omega) ?_); intro v5 w5 hX hK; have X5 := Aside0.mk hX; have K5 := Aside0.mk hK; clear hX hK)
          clear q1 y0 y1 y2
          have q1 := (blk_cell X5.out.box 1).trans rfl
          have y1 := (blk_cell K5.out 1).trans rfl; have y2 := (blk_cell K5.out 2).trans rfl
          by_cases h56 : P1.length < 56
          · go_wp2
            repeat (go_quiet (fail); try go_wp2)
            refine bodyPost_ret (results_tmp2 rfl _ _ _) rfl ?_
            rw [HE.out, HE3.out, if_pos h56]
            exact GotBy.of gen _ X5.out
          · go_wp2
            go_roundg (gk - 1)
            case measure => have := HI.out; omega
            case rel =>
              refine ⟨i + 1, gen2, xs ++ P1, ?_, rfl, ⟨by have := HI.out; omega, by have := HI.out; omega, by have := HI.out; omega⟩, ⟨?_⟩, ⟨?_⟩, X5⟩
              · first | rfl | (rw [wrap_succ (by omega) (by omega)])
              · have := HL.out; rw [List.length_append]; omega
              · rw [HE.out, HE3.out, if_neg h56, show (i + 1).toNat = i.toNat + 1 by omega, List.append_assoc]
        · have HE3 : Aside0 (bodyL gen last (T.drop i.toNat) = []) := ⟨by rw [HE2.out]; exact bodyL_no (fun h => hrng ⟨by rw [HG2.out]; exact h.2.1, by rw [HG2.out]; exact h.2.2⟩)⟩
          by_cases hl : last ≤ gen2
          · have hu : ¬ gen2 ≤ gen := fun h => hrng ⟨hl, h⟩
            clear hrng
            go_wp2
            repeat (go_quiet (fail); try go_wp2)
            refine bodyPost_ret (results_tmp2 rfl _ _ _) rfl ?_
            rw [HE.out, HE3.out, List.append_nil]
            exact GotBy.of gen _ XI.out
          · clear hrng
            go_wp2
            repeat (go_quiet (fail); try go_wp2)
            refine bodyPost_ret (results_tmp2 rfl _ _ _) rfl ?_
            rw [HE.out, HE3.out, List.append_nil]
            exact GotBy.of gen _ XI.out
      · have HP := Aside0.mk hp; clear hp
        have HE3 : Aside0 (bodyL gen last (T.drop i.toNat) = []) := ⟨by rw [HE2.out]; exact bodyL_no (fun h => HP.out h.1)⟩
        go_wp2_with fail
        refine (specPageOf_no _ _ _ _ HC1.out HLE.out HB2.out.2 HP.out).mono ?_
        rintro e w3 ⟨v, f, rfl, hr, hn, hf, hb1⟩
        obtain ⟨A2, c2, rfl, _, _⟩ := Rp.Row_reads hr
        go_upto_region 10 with (fail)
        generalize hg9 : w3.heap.size = g9
        generalize hw4 : w3.alloc _ = w4
        obtain ⟨K4, hb4, hsz⟩ := alloc1 hw4
        rw [hg9] at K4
        have BK9 := Aside0.mk K4
        replace XI := Aside0.mk ((XI.out.below hb1).below hb4)
        clear hw4 hsz hg9 K4 hb1 hb4 hc1 hr hn hf
        have q1 := (blk_cell XI.out.box 1).trans rfl
        have y0 := (blk_cell BK9.out 0).trans rfl
        go_wp2
        repeat (go_quiet (fail); try go_wp2)
        refine bodyPost_ret (results_tmp2 rfl _ _ _) rfl ?_
        rw [HE.out, HE3.out, List.append_nil]
        exact GotBy.of gen _ XI.out
    · have HE3 : Aside0 (bodyL gen last (T.drop i.toNat) = []) := ⟨by rw [List.drop_of_length_le (by omega)]; rfl⟩
      have q1 := (blk_cell XI.out.box 1).trans rfl
      go_wp2
      repeat (go_quiet (fail); try go_wp2)
      refine bodyPost_ret (results_tmp2 rfl _ _ _) rfl ?_
      rw [HGT.out.1, HGT.out.2, HE.out, HE3.out, List.append_nil]
      exact GotBy.of gen _ XI.out
set_option maxHeartbeats 4000000 in
set_option maxRecDepth 100000 in
theorem l3bytes_no (A : Option Addr) (c : Nat) (bs : List (List Int)) (w : World) (hx : rBS.d.C w A bs.length bs) (hc : bs.length ≤ c) (hb : BlOk bs) (hh : ¬ headOk bs) :
    Calls Try.prog 133 #[.slice A bs.length c] w (GotBy w [] 0) := by
  have hl1 : 127 < bs.length := by have := hb.1; omega
  have hl2 : bs.length ≤ 128 := by have := hb.1; omega
  have HX := Aside0.mk hx; have HBL := Aside0.mk hb; have HH := Aside0.mk hh; clear hx hb hh
  have HB := Aside0.mk (Below.refl w.heap.size w)
  go_enter Try.func133, Try.ntmps133
  obtain ⟨ad, A0, c0, e1, hc1, hle, hC1⟩ := at_BS HX.out 0 (by omega) (by omega)
  cases e1
  simp only [show (0 : Int).toNat = 0 from rfl, Go.Addr.add, if_true] at hc1
  have HC1 := Aside0.mk hC1; have HLE := Aside0.mk hle
  clear hC1 hle
  by_cases hp : PgIs (gBS bs 0)
  · have HP := Aside0.mk hp; clear hp
    go_wp2_with fail
    refine (specPageOf_yes _ _ _ _ HC1.out HLE.out (HBL.out.g (by omega) (by omega)).2 HP.out).mono ?_
    rintro e w1 ⟨v, f, rfl, hr, hn, hf, hb1⟩
    obtain ⟨P0, hP⟩ : ∃ P, P = bytesOf (gBS bs 0) := ⟨_, rfl⟩
    have hp0 : 0 < P0.length := Nat.pos_of_ne_zero (fun h => HH.out ⟨HP.out, by rw [← hP]; exact h⟩)
    have hp1 : P0.length ≤ 56 := by rw [hP]; exact bytesOf_len (HBL.out.g (by omega) (by omega)).2 (HBL.out.g (by omega) (by omega)).1 HP.out.2.1
    rw [← hP] at hr
    obtain ⟨A1, c1, rfl, _, _⟩ := Rp.Row_reads hr
    clear hP hr hn hf
    go_upto_region 2 with (fail)
    generalize hg : w1.heap.size = g
    generalize hw2 : w1.alloc _ = w2
    obtain ⟨K2, hb2, hsz⟩ := alloc1 hw2
    rw [hg] at K2
    have BK := Aside0.mk K2
    replace HB := Aside0.mk (below_then (below_then HB.out HB.out.size hb1) (Nat.le_trans HB.out.size hb1.size) hb2)
    clear hw2 hsz hg K2 hb1 hb2 hc1
    have q0 := (blk_cell BK.out 0).trans rfl; have q1 := (blk_cell BK.out 1).trans rfl; have q2 := (blk_cell BK.out 2).trans rfl
    go_wp2
    refine bodyPost_ret (results_tmp2 rfl _ _ _) rfl ?_
    exact ⟨.slice none 0 0, [], rfl, Rp.Row_nil _ _ _, by simp, by simp, HB.out⟩
  · have HP := Aside0.mk hp; clear hp
    go_wp2_with fail
    refine (specPageOf_no _ _ _ _ HC1.out HLE.out (HBL.out.g (by omega) (by omega)).2 HP.out).mono ?_
    rintro e w1 ⟨v, f, rfl, hr, hn, hf, hb1⟩
    obtain ⟨A1, c1, rfl, _, _⟩ := Rp.Row_reads hr
    clear hr hn hf
    go_upto_region 2 with (fail)
    generalize hg : w1.heap.size = g
    generalize hw2 : w1.alloc _ = w2
    obtain ⟨K2, hb2, hsz⟩ := alloc1 hw2
    rw [hg] at K2
    have BK := Aside0.mk K2
    replace HB := Aside0.mk (below_then (below_then HB.out HB.out.size hb1) (Nat.le_trans HB.out.size hb1.size) hb2)
    clear hw2 hsz hg K2 hb1 hb2 hc1
    have q0 := (blk_cell BK.out 0).trans rfl; have q1 := (blk_cell BK.out 1).trans rfl; have q2 := (blk_cell BK.out 2).trans rfl
    go_wp2
    refine bodyPost_ret (results_tmp2 rfl _ _ _) rfl ?_
    exact ⟨.slice none 0 0, [], rfl, Rp.Row_nil _ _ _, by simp, by simp, HB.out⟩
end Go.Proofs.Ytocdlibnmlcokaa
namespace Go.Proofs.Ytocdlibnmlcokaa
open Go.RowKit Go.Proofs.YtocdlibnmlcokaaW.PrintWords Go.Proofs.YtocdlibnmlcokaaW.PrintLast
set_option linter.unusedVariables false
set_option linter.unusedSimpArgs false
instance (b : List Int) : Decidable (FrIs b) := by unfold FrIs NtOk; infer_instance
def framesF : Nat → List Int → List Nt × Nat
  | 0, _ => ([], 0)
  | k + 1, b => if FrIs b then (noteOf b :: (framesF k (b.drop (frLen b).toNat)).1, (frLen b).toNat + (framesF k (b.drop (frLen b).toNat)).2) else ([], 0)
def framesL (b : List Int) : List Nt × Nat := framesF b.length b
theorem framesF_no {b : List Int} (h : ¬ FrIs b) : ∀ k, framesF k b = ([], 0)
  | 0 => rfl
  | k + 1 => by simp only [framesF, if_neg h]
theorem framesF_yes {b : List Int} (h : FrIs b) (k : Nat) : framesF (k + 1) b = (noteOf b :: (framesF k (b.drop (frLen b).toNat)).1, (frLen b).toNat + (framesF k (b.drop (frLen b).toNat)).2) := by simp only [framesF, if_pos h]
theorem fr_len {b : List Int} (hb : BsOk b) (h : FrIs b) : 17 ≤ frLen b ∧ frLen b ≤ b.length := ⟨by have := (hb.rd 1).1; unfold frLen; omega, h.2.2.1⟩
theorem BsOk.drop {b : List Int} (h : BsOk b) (n : Nat) : BsOk (b.drop n) := fun x hx => h x (List.mem_of_mem_drop hx)
theorem low_cut {A : Option Addr} {c : Nat} {xs : List Int} (l : Nat) (h : l ≤ xs.length) (hc : xs.length ≤ c) :
    ∃ A' : Option Addr, (∀ W : World, (Instr.slice 22 (.slice A xs.length c) (some (.int .i64 l)) none none).run Try.prog W = .ok (.slice A' (xs.drop l).length (c - l)) W) ∧
      (∀ w : World, kB.C w A xs.length xs → kB.C w A' (xs.drop l).length (xs.drop l)) ∧ (xs.drop l).length ≤ c - l := by
  obtain ⟨i0, hi, hzz⟩ := Option.map_eq_some_iff.1 info5
  simp only [Prod.mk.injEq] at hzz
  have h1 := cut_from (P := Try.prog) 22 5 .i64 Try.underlying22 hi 1 hzz.2.1 A xs.length c (l : Int) (by omega) (by omega)
  have h2 : (xs.drop l).length = xs.length - l := List.length_drop
  refine ⟨if c = l then A else A.map (·.add (l * 1)), fun W => by rw [h1 W, h2]; simp, fun w h => Kd.C_drop h (by omega) hc, by omega⟩
def GotLog (w : World) (notes : List Nt) (len gen safe : Int) (e : Ending) (w' : World) : Prop :=
  ∃ v f, e = .returned (.agg #[.bool true, v, .int .i64 len, .int .i64 gen, .int .i64 safe]) ∧ rN.Row 33 w' v notes f ∧ f.Nodup ∧ (∀ b ∈ f, w.heap.size ≤ b) ∧ Below w.heap.size w w'
theorem info33 : (Try.prog.info? 33).map (fun i => (i.zero, i.size, i.bytes)) = some (some (.agg #[.int .i64 0, .int .i64 0, .int .i64 0, .int .i64 0, .string { data := #[] }]), 5, 48) := by kernel_rfl
theorem N_mk (w : World) (x : Nt) : rN.P w x [.int .i64 x.tick, .int .i64 x.kind, .int .i64 x.who, .int .i64 x.n, .string x.text] [] :=
  ⟨[.int .i64 x.tick], [.int .i64 x.kind, .int .i64 x.who, .int .i64 x.n, .string x.text], [], [], rfl, rfl, ⟨rfl, rfl⟩,
    ⟨[.int .i64 x.kind], [.int .i64 x.who, .int .i64 x.n, .string x.text], [], [], rfl, rfl, ⟨rfl, rfl⟩,
      ⟨[.int .i64 x.who], [.int .i64 x.n, .string x.text], [], [], rfl, rfl, ⟨rfl, rfl⟩,
        ⟨[.int .i64 x.n], [.string x.text], [], [], rfl, rfl, ⟨rfl, rfl⟩, ⟨rfl, rfl⟩⟩⟩⟩⟩
set_option maxHeartbeats 8000000 in
set_option maxRecDepth 100000 in
theorem l3scan_w (A : Option Addr) (c : Nat) (bs : List (List Int)) (X : List Int) (gen : Int) (w : World) (hx : rBS.d.C w A bs.length bs) (hX : BsOk X) (hXl : X.length ≤ 10000)
    (hby : ∀ w : World, rBS.d.C w A bs.length bs → Calls Try.prog 133 #[.slice A bs.length c] w (GotBy w X gen)) :
    Calls Try.prog 127 #[.slice A bs.length c] w (GotLog w (framesL X).1 (framesL X).2 gen 0) := by
  have HX := Aside0.mk hx; have HOK := Aside0.mk hX; have HBY := Aside0.mk hby; clear hx hX hby
  have BK := Aside0.mk (blk_new w (.cells #[.bool false, .slice none 0 0, .int .i64 0, .int .i64 0, .int .i64 0] 59))
  have HB := Aside0.mk (below_alloc (Below.refl w.heap.size w) (.cells #[.bool false, .slice none 0 0, .int .i64 0, .int .i64 0, .int .i64 0] 59))
  go_enter Try.func127, Try.ntmps127
  go_upto_region 1 with (fail)
  generalize w.alloc _ = w0 at BK HB ⊢
  go_wp2_with fail
  refine (HBY.out _ (Kd.C_below HX.out HB.out)).mono ?_
  rintro e w1 ⟨v, f, rfl, hr, hn, hf, hb1⟩
  obtain ⟨Ab, cb, rfl, hcb, _⟩ := Rp.Row_reads hr
  have HR := Aside0.mk hr
  have HF : Aside0 (∀ b ∈ f, w.heap.size ≤ b) := ⟨fun b hb => Nat.le_trans HB.out.size (hf b hb)⟩
  replace BK := Aside0.mk (blk_below BK.out hb1)
  replace HB := Aside0.mk (below_then HB.out HB.out.size hb1)
  clear hr hn hf hb1
  go_wp2
  generalize hg : w1.heap.size = g
  generalize hw2 : w1.alloc _ = w2
  obtain ⟨K2, hb2, hsz⟩ := alloc1 hw2
  rw [hg] at K2
  have HG : Aside0 (w.heap.size < g) := ⟨by rw [← hg]; exact blk_lt BK.out⟩
  replace BK := Aside0.mk (blk_below BK.out hb2)
  replace HR := Aside0.mk (Rp.Row_below HR.out hb2)
  replace HB := Aside0.mk (below_then HB.out HB.out.size hb2)
  have GK := Aside0.mk K2
  clear hw2 hsz hg K2 hb2
  go_loopg [6] (X.length + 1) (fun m v6 wr => ∃ (len : Nat) (notes : List Nt) (k : Nat) (vn : Value) (fn : List Nat), Aside0 (len ≤ X.length ∧ X.length - len ≤ k ∧ X.length - len < m + 1 ∧ notes.length ≤ len) ∧ Aside0 (framesL X = (notes ++ (framesF k (X.drop len)).1, len + (framesF k (X.drop len)).2))
    ∧ Aside0 (rN.Row 33 wr vn notes fn ∧ fn.Nodup ∧ ∀ b ∈ fn, w.heap.size ≤ b) ∧ Aside0 (wr.heap[g]? = some (.cells #[.bool true, vn, .int .i64 len, .int .i64 gen, .int .i64 0] 59 (0, 0))) ∧ Aside0 (wr.heap[w.heap.size]? = some (.cells #[.bool false, .slice none 0 0, .int .i64 0, .int .i64 0, .int .i64 0] 59 (0, 0))) ∧ Aside0 (rB.Row 5 wr (.slice Ab X.length cb) X f) ∧ Aside0 (Below w.heap.size w wr))
  case atStart => exact ⟨0, [], X.length, .slice none 0 0, [], ⟨by simp; omega⟩, ⟨by simp [framesL]⟩, ⟨Rp.Row_nil _ _ _, by simp, by simp⟩, GK, BK, HR, HB⟩
  case round =>
    clear GK BK HR HB
    obtain ⟨len, notes, k, vn, fn, HI, HE, HN, GK, BK, HR, HB⟩ := hrel
    obtain ⟨A', hcut, hC, hle⟩ := low_cut (A := Ab) (c := cb) (xs := X) len HI.out.1 hcb
    obtain ⟨Y, hY⟩ : ∃ Y, Y = X.drop len := ⟨_, rfl⟩
    have HYok : Aside0 (BsOk Y) := ⟨by rw [hY]; exact HOK.out.drop _⟩
    have HCY : Aside0 (kB.C wr A' Y.length Y) := ⟨by rw [hY]; exact hC _ (Rp.Row_C HR.out).2.2⟩
    rw [← hY] at hcut hle
    have HY := Aside0.mk hY
    have HLE := Aside0.mk hle
    clear hY hC hle
    obtain ⟨An, cn, rfl, _, _⟩ := Rp.Row_reads HN.out.1
    have q1 := (blk_cell GK.out 1).trans rfl; have q2 := (blk_cell GK.out 2).trans rfl
    by_cases hfr : FrIs Y
    · have HFR := Aside0.mk hfr
      obtain ⟨hf17, hflen⟩ := fr_len HYok.out hfr
      clear hfr
      go_wp2_with fail
      refine (specReadFrame_yes _ _ _ _ HCY.out HLE.out HYok.out HFR.out).mono ?_
      rintro e w3 ⟨rfl, hb3⟩
      obtain ⟨x, hx⟩ : ∃ x, x = noteOf Y := ⟨_, rfl⟩
      obtain ⟨fl, hfl⟩ : ∃ fl, fl = frLen Y := ⟨_, rfl⟩
      rw [← hx, ← hfl]
      rw [← hfl] at hf17 hflen
      have HX1 := Aside0.mk hx; have HFL := Aside0.mk hfl
      clear hx hfl hcut q1 q2
      have hYl : Y.length ≤ 10000 := by rw [HY.out, List.length_drop]; omega
      go_upto_region 4 with (fail)
      generalize hg6 : w3.heap.size = g6
      generalize hw4 : w3.alloc _ = w4
      obtain ⟨K4, hb4, hsz⟩ := alloc1 hw4
      rw [hg6] at K4
      have K6 := Aside0.mk K4
      have hb34 := below_then hb3 hb3.size hb4
      replace HN : Aside0 (rN.Row 33 w4 (.slice An notes.length cn) notes fn ∧ fn.Nodup ∧ ∀ b ∈ fn, w.heap.size ≤ b) := ⟨Rp.Row_below HN.out.1 hb34, HN.out.2⟩
      replace GK := Aside0.mk (blk_below GK.out hb34); replace BK := Aside0.mk (blk_below BK.out hb34); replace HR := Aside0.mk (Rp.Row_below HR.out hb34)
      replace HB := Aside0.mk (below_then HB.out HB.out.size hb34)
      clear hw4 hsz hg6 K4 hb3 hb4 hb34
      have q1 := (blk_cell GK.out 1).trans rfl; have zq1 := blk_frozen GK.out 1
      have y0 := (blk_cell K6.out 0).trans rfl; have y1 := (blk_cell K6.out 1).trans rfl; have y2 := (blk_cell K6.out 2).trans rfl; have y3 := (blk_cell K6.out 3).trans rfl; have y4 := (blk_cell K6.out 4).trans rfl; have y5 := (blk_cell K6.out 5).trans rfl
      go_upto_region 7 with (at_builtin; go_loud (refine Rp.app_one rN rfl (.tmp 24) (.tmp 27) 48 33 (.agg #[.int .i64 0, .int .i64 0, .int .i64 0, .int .i64 0, .string { data := #[] }]) 48 rfl Try.underlying48 info33 rfl (by decide) (by decide) (.slice An notes.length cn) notes x _ rfl rfl HN.out.1 (N_mk _ x) (by simpa using HN.out.2.1) (by have := HI.out; omega) ?_); intro v5 w5 f5 hr5 hn5 hf5 hg5; obtain ⟨A5, c5, rfl, hc5, _⟩ := Rp.Row_reads hr5; have R5 := Aside0.mk hr5; have N5 := Aside0.mk hn5; have F5 := Aside0.mk hf5; have kp := Aside0.mk ((Kp.grown hg5).mono (S' := fn) (fun b hb _ => Rp.Row_block HN.out.1 (Option.mem_toList.1 hb))); have GK5 := Aside0.mk (kp.out.blk GK.out (Rp.Row_not HN.out.1 GK.out (by decide))); have u1 := (blk_cell GK5.out 1).trans rfl; have zu1 := blk_frozen GK5.out 1; clear hr5 hn5 hf5 hg5)
      clear q1 zq1 y0 y1 y2 y3 y4 y5 u1 zu1
      have BK5 := Aside0.mk (kp.out.blk BK.out (Rp.Row_not HN.out.1 BK.out (by decide)))
      have K65 := Aside0.mk (kp.out.blk K6.out (Rp.Row_not HN.out.1 K6.out (by decide)))
      have HR5 := Aside0.mk (kp.out.row HR.out (fun b hb hm => by
        obtain ⟨q, hq, cells, hc⟩ := Rp.Row_ty HR.out b hb
        exact Rp.Row_not HN.out.1 hc (by have : q ∈ [5] := hq
                                         simp at this; subst this; decide) hm))
      have HB5 := Aside0.mk (kp.out.toBelow HB.out HB.out.size HN.out.2.2)
      have F6 : Aside0 (∀ b ∈ f5, w.heap.size ≤ b) := ⟨fun b hb => by
        rcases F5.out b hb with h | h | h
        · exact HN.out.2.2 b h
        · cases h
        · have := HB.out.size; omega⟩
      clear kp F5 HN GK BK K6 HR HB
      obtain ⟨GK6, k6⟩ := set1 GK5.out 1 (.slice A5 (notes.length + 1) c5)
      have GK7 : Aside0 ((w5.setCell ⟨g, 1, none⟩ (.slice A5 (notes.length + 1) c5)).heap[g]? = some (.cells #[.bool true, .slice A5 (notes.length + 1) c5, .int .i64 len, .int .i64 gen, .int .i64 0] 59 (0, 0))) := ⟨GK6⟩
      have hgf5 : g ∉ f5 := Rp.Row_not R5.out GK5.out (by decide)
      replace R5 := Aside0.mk (k6.row R5.out (fun b hb hm => hgf5 (by simp at hm; exact hm ▸ hb)))
      have hgf : g ∉ f := Rp.Row_not HR5.out GK5.out (by decide)
      replace HR5 := Aside0.mk (k6.row HR5.out (fun b hb hm => hgf (by simp at hm; exact hm ▸ hb)))
      have hne6 : g6 ≠ g := fun he => by have h1 := K65.out; rw [he, GK5.out] at h1; injection h1 with h1; injection h1 with _ h1 _; cases h1
      replace K65 := Aside0.mk (k6.blk K65.out (by simpa using hne6))
      replace BK5 := Aside0.mk (k6.blk BK5.out (by have := HG.out; simp; omega))
      replace HB5 := Aside0.mk (k6.toBelow HB5.out HB5.out.size (fun b hb => by have := HG.out; simp at hb; omega))
      clear GK5 GK6 k6 hgf5 hgf hne6
      generalize w5.setCell _ _ = w6 at GK7 R5 HR5 K65 BK5 HB5 ⊢
      have R7 : Aside0 (rN.Row 33 w6 (.slice A5 (notes.length + 1) c5) (notes ++ [x]) f5) := ⟨by have := R5.out; rw [show (notes ++ [x]).length = notes.length + 1 by simp] at this; exact this⟩
      have q2 := (blk_cell GK7.out 2).trans rfl; have zq2 := blk_frozen GK7.out 2
      have y6 := (blk_cell K65.out 6).trans rfl
      have hlenX := HI.out.1
      go_wp2
      obtain ⟨GK8, k8⟩ := set1 GK7.out 2 (.int .i64 (len + fl))
      have hgf5 : g ∉ f5 := Rp.Row_not R5.out GK7.out (by decide)
      have hgf : g ∉ f := Rp.Row_not HR5.out GK7.out (by decide)
      go_roundg (gk - 1)
      case measure => have := HI.out; have := congrArg List.length HY.out; rw [List.length_drop] at this; omega
      case rel =>
        have hYl2 := congrArg List.length HY.out
        rw [List.length_drop] at hYl2
        have hi := HI.out
        obtain ⟨k', rfl⟩ : ∃ k', k = k' + 1 := ⟨k - 1, by omega⟩
        have ecast : ((len + fl.toNat : Nat) : Int) = len + fl := by omega
        refine ⟨len + fl.toNat, notes ++ [x], k', .slice A5 (notes.length + 1) c5, f5, ⟨by omega, by omega, by omega, by simp; omega⟩, ⟨?_⟩, ⟨k8.row R7.out (fun b hb hm => hgf5 (by simp at hm; exact hm ▸ hb)), N5.out, F6.out⟩, ⟨by rw [ecast]; exact GK8⟩, ⟨k8.blk BK5.out (by have := HG.out; simp; omega)⟩, ⟨k8.row HR5.out (fun b hb hm => hgf (by simp at hm; exact hm ▸ hb))⟩, ⟨k8.toBelow HB5.out HB5.out.size (fun b hb => by have := HG.out; simp at hb; omega)⟩⟩
        have hd : Y.drop fl.toNat = X.drop (len + fl.toNat) := by rw [HY.out, List.drop_drop]
        rw [HE.out, ← HY.out, framesF_yes HFR.out, ← HFL.out, hd, ← HX1.out]
        simp [Nat.add_assoc]
    · have HFR := Aside0.mk hfr
      clear hfr
      go_wp2_with fail
      refine (specReadFrame_no _ _ _ _ HCY.out HLE.out HYok.out HFR.out).mono ?_
      rintro e w3 ⟨rfl, hb3⟩
      have HE2 : Aside0 (framesL X = (notes, len)) := ⟨by rw [HE.out, ← HY.out, framesF_no HFR.out]; simp⟩
      clear hcut q1 q2
      go_upto_region 4 with (fail)
      generalize hg6 : w3.heap.size = g6
      generalize hw4 : w3.alloc _ = w4
      obtain ⟨K4, hb4, hsz⟩ := alloc1 hw4
      rw [hg6] at K4
      have K6 := Aside0.mk K4
      have hb34 := below_then hb3 hb3.size hb4
      replace HN : Aside0 (rN.Row 33 w4 (.slice An notes.length cn) notes fn ∧ fn.Nodup ∧ ∀ b ∈ fn, w.heap.size ≤ b) := ⟨Rp.Row_below HN.out.1 hb34, HN.out.2⟩
      replace GK := Aside0.mk (blk_below GK.out hb34); replace BK := Aside0.mk (blk_below BK.out hb34)
      replace HB := Aside0.mk (below_then HB.out HB.out.size hb34)
      clear hw4 hsz hg6 K4 hb3 hb4 hb34
      have q0 := (blk_cell GK.out 0).trans rfl; have q1 := (blk_cell GK.out 1).trans rfl; have q2 := (blk_cell GK.out 2).trans rfl; have q3 := (blk_cell GK.out 3).trans rfl; have q4 := (blk_cell GK.out 4).trans rfl
      have e0 := (blk_cell BK.out 0).trans rfl; have e1 := (blk_cell BK.out 1).trans rfl; have e2 := (blk_cell BK.out 2).trans rfl; have e3 := (blk_cell BK.out 3).trans rfl; have e4 := (blk_cell BK.out 4).trans rfl
      have z0 := blk_frozen BK.out 0; have z1 := blk_frozen BK.out 1; have z2 := blk_frozen BK.out 2; have z3 := blk_frozen BK.out 3; have z4 := blk_frozen BK.out 4
      have y0 := (blk_cell K6.out 0).trans rfl
      go_wp2
      obtain ⟨BK2, q⟩ := set5 BK.out (.bool true) (.slice An notes.length cn) (.int .i64 len) (.int .i64 gen) (.int .i64 0)
      refine bodyPost_ret (results_cell_row rfl _ _ w.heap.size 59 #[.bool true, .slice An notes.length cn, .int .i64 len, .int .i64 gen, .int .i64 0] (0, 0) _ rfl BK2 Try.underlying59 rfl (by kernel_rfl)) rfl ?_
      rw [HE2.out]
      exact ⟨_, fn, rfl, q.row HN.out.1 (fun b hb hm => Rp.Row_not HN.out.1 BK.out (by decide) (by simp at hm; exact hm ▸ hb)), HN.out.2.1, HN.out.2.2, q.toBelow HB.out HB.out.size (fun b hb => by simp at hb; omega)⟩
end Go.Proofs.Ytocdlibnmlcokaa
namespace Go.Proofs.Ytocdlibnmlcokaa
open Go.RowKit Go.Proofs.YtocdlibnmlcokaaW.PrintWords Go.Proofs.YtocdlibnmlcokaaW.PrintLast
set_option linter.unusedVariables false
set_option linter.unusedSimpArgs false
instance (bs : List (List Int)) : Decidable (headOk bs) := by unfold headOk; infer_instance
def logGen (bs : List (List Int)) : Int := if headOk bs then genOf (gBS bs 0) else 0
def logBytes (bs : List (List Int)) : List Int := if headOk bs then bodyL (genOf (gBS bs 0)) 1 (bs.drop 1) else []
theorem bodyL_ok {gen : Int} : ∀ (last : Int) (r : List (List Int)), (∀ b ∈ r, b.length = 64 ∧ BsOk b) → BsOk (bodyL gen last r) ∧ (bodyL gen last r).length ≤ 56 * r.length
  | _, [], _ => ⟨fun x hx => (by cases hx), by simp [bodyL]⟩
  | last, b :: r, h => by
    have hb := h b (List.mem_cons_self ..)
    have ih := bodyL_ok (gen := gen) (genOf b) r (fun x hx => h x (List.mem_cons_of_mem _ hx))
    by_cases hp : PgIs b ∧ last ≤ genOf b ∧ genOf b ≤ gen
    · have hl := bytesOf_len hb.2 hb.1 hp.1.2.1
      have hk : BsOk (bytesOf b) := hb.2.seg _ _
      rw [bodyL_yes hp]
      split
      · exact ⟨hk, by simp; omega⟩
      · exact ⟨hk.append ih.1, by simp; omega⟩
    · rw [bodyL_no hp]
      exact ⟨fun x hx => (by cases hx), by simp⟩
theorem bl_tail {bs : List (List Int)} (h : BlOk bs) : ∀ b ∈ bs.drop 1, b.length = 64 ∧ BsOk b := fun b hb => h.2 b (List.mem_of_mem_drop hb)
theorem logBytes_ok {bs : List (List Int)} (h : BlOk bs) : BsOk (logBytes bs) ∧ (logBytes bs).length ≤ 7112 := by
  unfold logBytes
  split
  · have := bodyL_ok (gen := genOf (gBS bs 0)) 1 (bs.drop 1) (bl_tail h)
    have h1 := h.1
    rw [List.length_drop] at this
    exact ⟨this.1, by omega⟩
  · exact ⟨fun x hx => (by cases hx), by simp⟩
theorem l3bytes_c (A : Option Addr) (c : Nat) (bs : List (List Int)) (w : World) (hx : rBS.d.C w A bs.length bs) (hc : bs.length ≤ c) (hb : BlOk bs) :
    Calls Try.prog 133 #[.slice A bs.length c] w (GotBy w (logBytes bs) (logGen bs)) := by
  unfold logBytes logGen
  by_cases hh : headOk bs
  · rw [if_pos hh, if_pos hh]; exact l3bytes_yes A c bs w hx hc hb hh
  · rw [if_neg hh, if_neg hh]; exact l3bytes_no A c bs w hx hc hb hh
theorem l3scan_c (A : Option Addr) (c : Nat) (bs : List (List Int)) (w : World) (hx : rBS.d.C w A bs.length bs) (hc : bs.length ≤ c) (hb : BlOk bs) :
    Calls Try.prog 127 #[.slice A bs.length c] w (GotLog w (framesL (logBytes bs)).1 (framesL (logBytes bs)).2 (logGen bs) 0) :=
  l3scan_w A c bs (logBytes bs) (logGen bs) w hx (logBytes_ok hb).1 (by have := (logBytes_ok hb).2; omega) (fun w hx => l3bytes_c A c bs w hx hc hb)
theorem bodyL_zero {gen : Int} (r : List (List Int)) : bodyL gen 0 r = bodyL gen 1 r := by
  cases r with
  | nil => rfl
  | cons b r =>
    by_cases hp : PgIs b ∧ 1 ≤ genOf b ∧ genOf b ≤ gen
    · rw [bodyL_yes hp, bodyL_yes ⟨hp.1, by omega, hp.2.2⟩]
    · rw [bodyL_no hp, bodyL_no (fun h => hp ⟨h.1, h.1.2.2.1.2.1, h.2.2⟩)]
end Go.Proofs.Ytocdlibnmlcokaa
namespace Go.Proofs.Ytocdlibnmlcokaa
open Go.RowKit Go.Proofs.YtocdlibnmlcokaaW.PrintWords Go.Proofs.YtocdlibnmlcokaaW.PrintLast
set_option linter.unusedVariables false
set_option linter.unusedSimpArgs false
def Yes (w : World) (e : Ending) (w' : World) : Prop := e = .returned (.bool true) ∧ Below w.heap.size w w'
end Go.Proofs.Ytocdlibnmlcokaa
namespace Go.Proofs.Ytocdlibnmlcokaa
open Go.RowKit Go.Proofs.YtocdlibnmlcokaaW.PrintWords Go.Proofs.YtocdlibnmlcokaaW.PrintLast
set_option linter.unusedVariables false
set_option linter.unusedSimpArgs false
def gN (xs : List Nt) (i : Int) : Nt := xs.getD i.toNat ⟨0, 0, 0, 0, { data := #[] }⟩
theorem at_N {w : World} {A : Option Addr} {n : Nat} {xs : List Nt} (h : rN.d.C w A n xs) (i : Int) (h0 : 0 ≤ i) (h1 : i < n) : ∃ ad, A = some ad ∧ w.cell? (ad.add (i.toNat * 5)) = some (.int .i64 (gN xs i).tick)
    ∧ w.cell? ⟨(ad.add (i.toNat * 5)).block, (ad.add (i.toNat * 5)).off + 1, none⟩ = some (.int .i64 (gN xs i).kind) ∧ w.cell? ⟨(ad.add (i.toNat * 5)).block, (ad.add (i.toNat * 5)).off + 2, none⟩ = some (.int .i64 (gN xs i).who)
    ∧ w.cell? ⟨(ad.add (i.toNat * 5)).block, (ad.add (i.toNat * 5)).off + 3, none⟩ = some (.int .i64 (gN xs i).n) ∧ w.cell? ⟨(ad.add (i.toNat * 5)).block, (ad.add (i.toNat * 5)).off + 4, none⟩ = some (.string (gN xs i).text) := by
  obtain ⟨ad, c, e, _, hK, hc0⟩ := Kd.C_get h ⟨0, 0, 0, 0, { data := #[] }⟩ i h0 h1
  have hc : ∀ j u, c[j]? = some u → w.cell? (ad.add (i.toNat * 5 + j)) = some u := hc0
  obtain ⟨_, _, rfl, rfl, _, _, rfl, rfl, _, _, rfl, rfl, _, _, rfl, rfl, rfl⟩ := hK
  exact ⟨ad, e, hc 0 _ rfl, by rw [← add_field _ _ 1 (by omega)]; exact hc 1 _ rfl, by rw [← add_field _ _ 2 (by omega)]; exact hc 2 _ rfl, by rw [← add_field _ _ 3 (by omega)]; exact hc 3 _ rfl, by rw [← add_field _ _ 4 (by omega)]; exact hc 4 _ rfl⟩
end Go.Proofs.Ytocdlibnmlcokaa
namespace Go.Proofs.Ytocdlibnmlcokaa
open Go.RowKit Go.Proofs.YtocdlibnmlcokaaW.PrintWords Go.Proofs.YtocdlibnmlcokaaW.PrintLast
set_option linter.unusedVariables false
set_option linter.unusedSimpArgs false
def cN (x : Nt) : List Value := [.int .i64 x.tick, .int .i64 x.kind, .int .i64 x.who, .int .i64 x.n, .string x.text]
section
variable {w : World} {g n cap i : Nat} {xs : List Nt} {fp : List Nat}
end
def zN : Nt := ⟨0, 0, 0, 0, { data := #[] }⟩
theorem gN_eq {xs : List Nt} {i : Int} (h : i.toNat < xs.length) : gN xs i = xs[i.toNat] := by simp [gN, List.getD_eq_getElem?_getD, h]
end Go.Proofs.Ytocdlibnmlcokaa
namespace Go.Proofs.Ytocdlibnmlcokaa
open Go.RowKit Go.Proofs.YtocdlibnmlcokaaW.PrintWords Go.Proofs.YtocdlibnmlcokaaW.PrintLast
set_option linter.unusedVariables false
set_option linter.unusedSimpArgs false
end Go.Proofs.Ytocdlibnmlcokaa
namespace Go.Proofs.Ytocdlibnmlcokaa
open Go.RowKit Go.Proofs.YtocdlibnmlcokaaW.PrintWords Go.Proofs.YtocdlibnmlcokaaW.PrintLast
set_option linter.unusedVariables false
set_option linter.unusedSimpArgs false
end Go.Proofs.Ytocdlibnmlcokaa
namespace Go.Proofs.Ytocdlibnmlcokaa
open Go.RowKit Go.Proofs.YtocdlibnmlcokaaW.PrintWords Go.Proofs.YtocdlibnmlcokaaW.PrintLast
set_option linter.unusedVariables false
set_option linter.unusedSimpArgs false
end Go.Proofs.Ytocdlibnmlcokaa
namespace Go.Proofs.Ytocdlibnmlcokaa
open Go.RowKit Go.Proofs.YtocdlibnmlcokaaW.PrintWords Go.Proofs.YtocdlibnmlcokaaW.PrintLast
set_option linter.unusedVariables false
set_option linter.unusedSimpArgs false
end Go.Proofs.Ytocdlibnmlcokaa
namespace Go.Proofs.Ytocdlibnmlcokaa
open Go.RowKit Go.Proofs.YtocdlibnmlcokaaW.PrintWords Go.Proofs.YtocdlibnmlcokaaW.PrintLast
set_option linter.unusedVariables false
set_option linter.unusedSimpArgs false
end Go.Proofs.Ytocdlibnmlcokaa
namespace Go.Proofs.Ytocdlibnmlcokaa
open Go.RowKit Go.Proofs.YtocdlibnmlcokaaW.PrintWords Go.Proofs.YtocdlibnmlcokaaW.PrintLast
set_option linter.unusedVariables false
set_option linter.unusedSimpArgs false
abbrev rI : Rp Int := Rp.int .i64
abbrev kI : Kd Int := Kd.int .i64
end Go.Proofs.Ytocdlibnmlcokaa
namespace Go.Proofs.Ytocdlibnmlcokaa
open Go.RowKit Go.Proofs.YtocdlibnmlcokaaW.PrintWords Go.Proofs.YtocdlibnmlcokaaW.PrintLast
set_option linter.unusedVariables false
set_option linter.unusedSimpArgs false
end Go.Proofs.Ytocdlibnmlcokaa
namespace Go.Proofs.Ytocdlibnmlcokaa
open Go.RowKit Go.Proofs.YtocdlibnmlcokaaW.PrintWords Go.Proofs.YtocdlibnmlcokaaW.PrintLast
set_option linter.unusedVariables false
set_option linter.unusedSimpArgs false
structure Rs where
  P : World → List Nat → Prop
  loc : ∀ {w w1 : World} {f : List Nat}, P w f → (∀ b ∈ f, w1.heap[b]? = w.heap[b]?) → P w1 f
  lt : ∀ {w : World} {f : List Nat}, P w f → ∀ b ∈ f, b < w.heap.size
namespace Rs
def box (g t : Nat) (cells : Array Value) : Rs where
  P := fun w f => f = [g] ∧ w.heap[g]? = some (.cells cells t (0, 0))
  loc := fun h hm => ⟨h.1, (hm g (by rw [h.1]; simp)).trans h.2⟩
  lt := fun h b hb => by rw [h.1] at hb; simp at hb; subst hb; exact blk_lt h.2
def row {α : Type} (r : Rp α) (e : Nat) (v : Value) (xs : List α) : Rs where
  P := fun w f => r.Row e w v xs f
  loc := fun h hm => Rp.Row_loc h hm
  lt := fun h => Rp.Row_lt h
def cel {α : Type} (r : Rp α) (cs : List Value) (x : α) : Rs where
  P := fun w f => r.P w x cs f
  loc := fun h hm => r.loc h hm
  lt := fun h => Rp.P_lt h
def sep (A B : Rs) : Rs where
  P := fun w f => ∃ a b, f = a ++ b ∧ A.P w a ∧ B.P w b
  loc := fun ⟨a, b, e, h1, h2⟩ hm => ⟨a, b, e, A.loc h1 (fun x hx => hm x (by rw [e]; exact List.mem_append_left _ hx)), B.loc h2 (fun x hx => hm x (by rw [e]; exact List.mem_append_right _ hx))⟩
  lt := fun ⟨a, b, e, h1, h2⟩ x hx => by
    rw [e] at hx
    rcases List.mem_append.1 hx with hx | hx
    · exact A.lt h1 x hx
    · exact B.lt h2 x hx
end Rs
def Holds (w : World) : List Rs → List Nat → Prop
  | [], f => f = []
  | R :: L, f => ∃ a b, f = a ++ b ∧ R.P w a ∧ Holds w L b
theorem Holds.loc {w w1 : World} : ∀ {L : List Rs} {f : List Nat}, Holds w L f → (∀ b ∈ f, w1.heap[b]? = w.heap[b]?) → Holds w1 L f
  | [], _, h, _ => h
  | R :: L, _, ⟨a, b, e, ha, hb⟩, hm => by subst e; exact ⟨a, b, rfl, R.loc ha (fun x hx => hm x (List.mem_append_left _ hx)), Holds.loc hb (fun x hx => hm x (List.mem_append_right _ hx))⟩
theorem Holds.lt {w : World} : ∀ {L : List Rs} {f : List Nat}, Holds w L f → ∀ b ∈ f, b < w.heap.size
  | [], _, h, x, hx => by have h : _ = [] := h; subst h; cases hx
  | R :: L, _, ⟨a, b, e, ha, hb⟩, x, hx => by
    subst e
    rcases List.mem_append.1 hx with hx | hx
    · exact R.lt ha x hx
    · exact Holds.lt hb x hx
theorem Holds.append {w : World} : ∀ {L M : List Rs} {f g : List Nat}, Holds w L f → Holds w M g → Holds w (L ++ M) (f ++ g)
  | [], _, _, _, h, k => by have h : _ = [] := h; subst h; exact k
  | R :: L, M, _, g, ⟨a, b, e, ha, hb⟩, k => by subst e; exact ⟨a, b ++ g, List.append_assoc .., ha, Holds.append hb k⟩
structure Own (w0 w : World) (L : List Rs) : Prop where
  ex : ∃ f, Holds w L f ∧ f.Nodup ∧ ∀ b ∈ f, w0.heap.size ≤ b
  bel : Below w0.heap.size w0 w
namespace Own
variable {w0 w w1 : World} {L M : List Rs} {R R' R1 R2 R3 R4 R5 R6 R7 R8 R9 : Rs}
theorem nil (w : World) : Own w w [] := ⟨⟨[], rfl, by simp, by simp⟩, Below.refl _ _⟩
theorem size (h : Own w0 w L) : w0.heap.size ≤ w.heap.size := h.bel.size
theorem below (h : Own w0 w L) (hb : Below w.heap.size w w1) : Own w0 w1 L := by
  obtain ⟨f, hf, hn, hl⟩ := h.ex
  exact ⟨⟨f, hf.loc (fun b hb' => hb.block b (hf.lt b hb')), hn, hl⟩, below_then h.bel h.bel.size hb⟩
theorem drew (h : Own w0 w L) : Own w0 w.drew L := h.below (below_drew (Below.refl _ _))
theorem drewN (h : Own w0 w L) (n : Nat) : Own w0 (w.drewN n) L := h.below (pw_below_drewN (Below.refl _ _) n)
theorem app (h : Own w0 w L) (k : Own w w1 M) : Own w0 w1 (M ++ L) := by
  obtain ⟨f, hf, hn, hl⟩ := (h.below k.bel).ex
  obtain ⟨f0, hf0, _, _⟩ := h.ex
  obtain ⟨g, hg, hgn, hgl⟩ := k.ex
  obtain ⟨f, hf, hn, hl⟩ := h.ex
  have hlt := hf.lt
  refine ⟨⟨g ++ f, hg.append (hf.loc (fun b hb => k.bel.block b (hlt b hb))), ?_, fun b hb => ?_⟩, below_then h.bel h.bel.size k.bel⟩
  · exact List.nodup_append.2 ⟨hgn, hn, fun a ha b hb he => by have := hgl a ha; have := hlt b hb; omega⟩
  · rcases List.mem_append.1 hb with hb | hb
    · exact Nat.le_trans h.size (hgl b hb)
    · exact hl b hb
theorem app1 (h : Own w0 w L) (k : Own w w1 [R1]) : Own w0 w1 (R1 :: L) := h.app k
theorem app2 (h : Own w0 w L) (k : Own w w1 [R1, R2]) : Own w0 w1 (R1 :: R2 :: L) := h.app k
theorem app3 (h : Own w0 w L) (k : Own w w1 [R1, R2, R3]) : Own w0 w1 (R1 :: R2 :: R3 :: L) := h.app k
theorem one {f : List Nat} (hb : Below w0.heap.size w0 w) (hR : R.P w f) (hn : f.Nodup) (hl : ∀ b ∈ f, w0.heap.size ≤ b) : Own w0 w [R] := ⟨⟨f, ⟨f, [], by simp, hR, rfl⟩, hn, hl⟩, hb⟩
theorem two {f g : List Nat} (hb : Below w0.heap.size w0 w) (hR : R1.P w f) (hG : R2.P w g) (hn : (f ++ g).Nodup) (hl : ∀ b ∈ f ++ g, w0.heap.size ≤ b) : Own w0 w [R1, R2] := ⟨⟨f ++ g, ⟨f, g, rfl, hR, g, [], by simp, hG, rfl⟩, hn, hl⟩, hb⟩
theorem alloc (h : Own w0 w L) (cells : Array Value) (t : Nat) : Own w0 (w.alloc (.cells cells t)) (Rs.box w.heap.size t cells :: L) :=
  h.app1 (one (f := [w.heap.size]) (below_alloc (Below.refl _ _) _) ⟨rfl, blk_new w _⟩ (by simp) (by simp))
theorem take (h : Own w0 w (R :: L)) : ∃ f, R.P w f ∧ f.Nodup ∧ (∀ b ∈ f, w0.heap.size ≤ b) ∧ ∀ {w1 : World} {M : List Rs} {f' : List Nat}, Holds w1 M f' → f'.Nodup → (∀ b ∈ f', b ∈ f ∨ w.heap.size ≤ b) → Kp w w1 f → Own w0 w1 (M ++ L) := by
  obtain ⟨_, ⟨f, g, rfl, hf, hg⟩, hn, hl⟩ := h.ex
  obtain ⟨n1, n2, n3⟩ := List.nodup_append.1 hn
  refine ⟨f, hf, n1, fun b hb => hl b (List.mem_append_left _ hb), fun {w1 M f'} hM hn' hf' k => ⟨⟨f' ++ g, hM.append (hg.loc (fun b hb => k.block b (hg.lt b hb) (fun hm => n3 b hm b hb rfl))), ?_, fun b hb => ?_⟩, ?_⟩⟩
  · refine List.nodup_append.2 ⟨hn', n2, fun a ha b hb he => ?_⟩
    subst he
    rcases hf' a ha with h1 | h1
    · exact n3 a h1 a hb rfl
    · have := hg.lt a hb; omega
  · rcases List.mem_append.1 hb with hb | hb
    · rcases hf' b hb with h1 | h1
      · exact hl b (List.mem_append_left _ h1)
      · exact Nat.le_trans h.size h1
    · exact hl b (List.mem_append_right _ hb)
  · exact k.toBelow h.bel h.size (fun b hb => hl b (List.mem_append_left _ hb))
theorem take2 (h : Own w0 w (R1 :: R2 :: L)) : ∃ f g, R1.P w f ∧ R2.P w g ∧ (f ++ g).Nodup ∧ (∀ b ∈ f ++ g, w0.heap.size ≤ b) ∧ ∀ {w1 : World} {M : List Rs} {f' : List Nat}, Holds w1 M f' → f'.Nodup → (∀ b ∈ f', b ∈ f ++ g ∨ w.heap.size ≤ b) → Kp w w1 (f ++ g) → Own w0 w1 (M ++ L) := by
  obtain ⟨_, ⟨f, _, rfl, hf, g, u, rfl, hg, hu⟩, hn, hl⟩ := h.ex
  have h2 : Own w0 w (Rs.sep R1 R2 :: L) := ⟨⟨(f ++ g) ++ u, ⟨f ++ g, u, rfl, ⟨f, g, rfl, hf, hg⟩, hu⟩, by rw [List.append_assoc]; exact hn, fun b hb => hl b (by rw [← List.append_assoc]; exact hb)⟩, h.bel⟩
  obtain ⟨x, ⟨a, b, rfl, h1, h3⟩, hx2, hx3, hx4⟩ := h2.take
  exact ⟨a, b, h1, h3, hx2, hx3, hx4⟩
theorem turn (h : Own w0 w (R :: L)) (k : ∀ f, R.P w f → f.Nodup → ∃ f', R'.P w1 f' ∧ f'.Nodup ∧ (∀ b ∈ f', b ∈ f ∨ w.heap.size ≤ b) ∧ Kp w w1 f) : Own w0 w1 (R' :: L) := by
  obtain ⟨f, hf, hn, hl, c⟩ := h.take
  obtain ⟨f', h1, h2, h3, h4⟩ := k f hf hn
  exact c (M := [R']) ⟨f', [], by simp, h1, rfl⟩ h2 h3 h4
theorem set {g t : Nat} {cells : Array Value} (h : Own w0 w (Rs.box g t cells :: L)) (j : Nat) (u : Value) : Own w0 (w.setCell ⟨g, j, none⟩ u) (Rs.box g t (cells.setIfInBounds j u) :: L) :=
  h.turn fun f hf hn => ⟨f, ⟨hf.1, blk_set hf.2 j u⟩, hn, fun b hb => .inl hb, by rw [hf.1]; exact Kp.set _ _ _ _⟩
theorem drop (h : Own w0 w (R :: L)) : Own w0 w L := by
  obtain ⟨f, hf, hn, hl, c⟩ := h.take
  exact c (w1 := w) (M := []) (f' := []) rfl (by simp) (by simp) ((Kp.refl w).mono (by simp))
theorem only1 (h : Own w0 w (R1 :: L)) : Own w0 w [R1] := by
  obtain ⟨_, ⟨f, g, rfl, hf, hg⟩, hn, hl⟩ := h.ex
  exact one h.bel hf (List.nodup_append.1 hn).1 (fun b hb => hl b (List.mem_append_left _ hb))
theorem only2 (h : Own w0 w (R1 :: R2 :: L)) : Own w0 w [R1, R2] := by
  obtain ⟨_, ⟨f, _, rfl, hf, g, u, rfl, hg, hu⟩, hn, hl⟩ := h.ex
  rw [← List.append_assoc] at hn hl
  exact two h.bel hf hg (List.nodup_append.1 hn).1 (fun b hb => hl b (List.mem_append_left _ hb))
theorem only (M : List Rs) (h : Own w0 w (M ++ L)) : Own w0 w M := by
  obtain ⟨f, hf, hn, hl⟩ := h.ex
  have key : ∀ (M : List Rs) (f : List Nat), Holds w (M ++ L) f → ∃ a b, f = a ++ b ∧ Holds w M a := by
    intro M
    induction M with
    | nil => intro f _; exact ⟨[], f, rfl, rfl⟩
    | cons R M ih =>
      rintro _ ⟨a, b, rfl, ha, hb⟩
      obtain ⟨c, d, rfl, hc⟩ := ih b hb
      exact ⟨a ++ c, d, by rw [List.append_assoc], a, c, rfl, ha, hc⟩
  obtain ⟨a, b, rfl, ha⟩ := key M f hf
  exact ⟨⟨a, ha, (List.nodup_append.1 hn).1, fun x hx => hl x (List.mem_append_left _ hx)⟩, h.bel⟩
theorem swap (A : List Rs) (h : Own w0 w (A ++ R :: L)) : Own w0 w (R :: (A ++ L)) := by
  obtain ⟨f, hf, hn, hl⟩ := h.ex
  have key : ∀ (A : List Rs) (f : List Nat), Holds w (A ++ R :: L) f → ∃ a b, Holds w (A ++ L) b ∧ R.P w a ∧ (a ++ b).Perm f := by
    intro A
    induction A with
    | nil => rintro _ ⟨a, b, rfl, ha, hb⟩; exact ⟨a, b, hb, ha, List.Perm.refl _⟩
    | cons S A ih =>
      rintro _ ⟨a, b, rfl, ha, hb⟩
      obtain ⟨c, d, hd, hc, hp⟩ := ih b hb
      refine ⟨c, a ++ d, ⟨a, d, rfl, ha, hd⟩, hc, ?_⟩
      rw [← List.append_assoc]
      exact (List.Perm.append_right d List.perm_append_comm).trans (by rw [List.append_assoc]; exact List.Perm.append_left a hp)
  obtain ⟨a, b, hb, ha, hp⟩ := key A f hf
  exact ⟨⟨a ++ b, ⟨a, b, rfl, ha, hb⟩, hp.nodup_iff.2 hn, fun x hx => hl x (hp.mem_iff.1 hx)⟩, h.bel⟩
theorem p1 (h : Own w0 w (R1 :: R :: L)) : Own w0 w (R :: R1 :: L) := swap [R1] h
theorem p2 (h : Own w0 w (R1 :: R2 :: R :: L)) : Own w0 w (R :: R1 :: R2 :: L) := swap [R1, R2] h
theorem p3 (h : Own w0 w (R1 :: R2 :: R3 :: R :: L)) : Own w0 w (R :: R1 :: R2 :: R3 :: L) := swap [R1, R2, R3] h
theorem p4 (h : Own w0 w (R1 :: R2 :: R3 :: R4 :: R :: L)) : Own w0 w (R :: R1 :: R2 :: R3 :: R4 :: L) := swap [R1, R2, R3, R4] h
theorem p5 (h : Own w0 w (R1 :: R2 :: R3 :: R4 :: R5 :: R :: L)) : Own w0 w (R :: R1 :: R2 :: R3 :: R4 :: R5 :: L) := swap [R1, R2, R3, R4, R5] h
theorem p6 (h : Own w0 w (R1 :: R2 :: R3 :: R4 :: R5 :: R6 :: R :: L)) : Own w0 w (R :: R1 :: R2 :: R3 :: R4 :: R5 :: R6 :: L) := swap [R1, R2, R3, R4, R5, R6] h
theorem p7 (h : Own w0 w (R1 :: R2 :: R3 :: R4 :: R5 :: R6 :: R7 :: R :: L)) : Own w0 w (R :: R1 :: R2 :: R3 :: R4 :: R5 :: R6 :: R7 :: L) := swap [R1, R2, R3, R4, R5, R6, R7] h
theorem p8 (h : Own w0 w (R1 :: R2 :: R3 :: R4 :: R5 :: R6 :: R7 :: R8 :: R :: L)) : Own w0 w (R :: R1 :: R2 :: R3 :: R4 :: R5 :: R6 :: R7 :: R8 :: L) := swap [R1, R2, R3, R4, R5, R6, R7, R8] h
theorem b0 {g t : Nat} {c : Array Value} (h : Own w0 w (Rs.box g t c :: L)) : w.heap[g]? = some (.cells c t (0, 0)) := by
  obtain ⟨_, ⟨f, _, rfl, hf, _⟩, _, _⟩ := h.ex; exact hf.2
theorem b1 {g t : Nat} {c : Array Value} (h : Own w0 w (R1 :: Rs.box g t c :: L)) : w.heap[g]? = some (.cells c t (0, 0)) := h.p1.b0
theorem b2 {g t : Nat} {c : Array Value} (h : Own w0 w (R1 :: R2 :: Rs.box g t c :: L)) : w.heap[g]? = some (.cells c t (0, 0)) := h.p2.b0
theorem b3 {g t : Nat} {c : Array Value} (h : Own w0 w (R1 :: R2 :: R3 :: Rs.box g t c :: L)) : w.heap[g]? = some (.cells c t (0, 0)) := h.p3.b0
theorem b4 {g t : Nat} {c : Array Value} (h : Own w0 w (R1 :: R2 :: R3 :: R4 :: Rs.box g t c :: L)) : w.heap[g]? = some (.cells c t (0, 0)) := h.p4.b0
theorem b5 {g t : Nat} {c : Array Value} (h : Own w0 w (R1 :: R2 :: R3 :: R4 :: R5 :: Rs.box g t c :: L)) : w.heap[g]? = some (.cells c t (0, 0)) := h.p5.b0
theorem b6 {g t : Nat} {c : Array Value} (h : Own w0 w (R1 :: R2 :: R3 :: R4 :: R5 :: R6 :: Rs.box g t c :: L)) : w.heap[g]? = some (.cells c t (0, 0)) := h.p6.b0
theorem b7 {g t : Nat} {c : Array Value} (h : Own w0 w (R1 :: R2 :: R3 :: R4 :: R5 :: R6 :: R7 :: Rs.box g t c :: L)) : w.heap[g]? = some (.cells c t (0, 0)) := h.p7.b0
theorem b8 {g t : Nat} {c : Array Value} (h : Own w0 w (R1 :: R2 :: R3 :: R4 :: R5 :: R6 :: R7 :: R8 :: Rs.box g t c :: L)) : w.heap[g]? = some (.cells c t (0, 0)) := h.p8.b0
theorem of (h : Own w0 w L) {cells : Array Value} {t : Nat} (e : w.alloc (.cells cells t) = w1) : Own w0 w1 (Rs.box w.heap.size t cells :: L) := e ▸ h.alloc cells t
theorem al (h : Own w0 w L) (cells : Array Value) (t n : Nat) (hn : w.heap.size = n) : Own w0 (w.alloc (.cells cells t)) (Rs.box n t cells :: L) := hn ▸ h.alloc cells t
theorem of2 (h : Own w0 w L) {c1 c2 : Array Value} {t1 t2 : Nat} (e : (w.alloc (.cells c1 t1)).alloc (.cells c2 t2) = w1) : Own w0 w1 (Rs.box (w.heap.size + 1) t2 c2 :: Rs.box w.heap.size t1 c1 :: L) := e ▸ (h.alloc c1 t1).al c2 t2 _ (by simp)
theorem of3 (h : Own w0 w L) {c1 c2 c3 : Array Value} {t1 t2 t3 : Nat} (e : ((w.alloc (.cells c1 t1)).alloc (.cells c2 t2)).alloc (.cells c3 t3) = w1) : Own w0 w1 (Rs.box (w.heap.size + 1 + 1) t3 c3 :: Rs.box (w.heap.size + 1) t2 c2 :: Rs.box w.heap.size t1 c1 :: L) := e ▸ ((h.alloc c1 t1).al c2 t2 _ (by simp)).al c3 t3 _ (by simp)
theorem st {g t j : Nat} {cells : Array Value} {u : Value} (h : Own w0 w (Rs.box g t cells :: L)) (e : w.setCell ⟨g, j, none⟩ u = w1) (cells' : Array Value) (ec : cells.setIfInBounds j u = cells') : Own w0 w1 (Rs.box g t cells' :: L) := by
  subst e; subst ec; exact h.set j u
section
variable {α : Type} {r : Rp α} {e : Nat} {v : Value} {xs : List α}
theorem r0 (h : Own w0 w (Rs.row r e v xs :: L)) : ∃ f, r.Row e w v xs f ∧ f.Nodup ∧ ∀ b ∈ f, w0.heap.size ≤ b := by
  obtain ⟨_, ⟨f, g, rfl, hf, _⟩, hn, hl⟩ := h.ex; exact ⟨f, hf, (List.nodup_append.1 hn).1, fun b hb => hl b (List.mem_append_left _ hb)⟩
theorem f0 (h : Own w0 w (Rs.row r e v xs :: L)) : ∃ A c, v = .slice A xs.length c ∧ xs.length ≤ c := by
  obtain ⟨f, hr, _⟩ := h.r0; obtain ⟨A, c, e, hl, _⟩ := Rp.Row_reads hr; exact ⟨A, c, e, hl⟩
theorem f1 (h : Own w0 w (R1 :: Rs.row r e v xs :: L)) : ∃ A c, v = .slice A xs.length c ∧ xs.length ≤ c := h.p1.f0
theorem f2 (h : Own w0 w (R1 :: R2 :: Rs.row r e v xs :: L)) : ∃ A c, v = .slice A xs.length c ∧ xs.length ≤ c := h.p2.f0
theorem f3 (h : Own w0 w (R1 :: R2 :: R3 :: Rs.row r e v xs :: L)) : ∃ A c, v = .slice A xs.length c ∧ xs.length ≤ c := h.p3.f0
end
section
variable {α : Type} {r : Rp α} {e n c : Nat} {A : Option Addr} {xs : List α}
theorem c0 (h : Own w0 w (Rs.row r e (.slice A n c) xs :: L)) : r.d.C w A xs.length xs := by obtain ⟨f, hr, _⟩ := h.r0; exact (Rp.Row_C hr).2.2
theorem c1 (h : Own w0 w (R1 :: Rs.row r e (.slice A n c) xs :: L)) : r.d.C w A xs.length xs := h.p1.c0
theorem c2 (h : Own w0 w (R1 :: R2 :: Rs.row r e (.slice A n c) xs :: L)) : r.d.C w A xs.length xs := h.p2.c0
theorem c3 (h : Own w0 w (R1 :: R2 :: R3 :: Rs.row r e (.slice A n c) xs :: L)) : r.d.C w A xs.length xs := h.p3.c0
theorem c4 (h : Own w0 w (R1 :: R2 :: R3 :: R4 :: Rs.row r e (.slice A n c) xs :: L)) : r.d.C w A xs.length xs := h.p4.c0
theorem c5 (h : Own w0 w (R1 :: R2 :: R3 :: R4 :: R5 :: Rs.row r e (.slice A n c) xs :: L)) : r.d.C w A xs.length xs := h.p5.c0
theorem c6 (h : Own w0 w (R1 :: R2 :: R3 :: R4 :: R5 :: R6 :: Rs.row r e (.slice A n c) xs :: L)) : r.d.C w A xs.length xs := h.p6.c0
theorem c7 (h : Own w0 w (R1 :: R2 :: R3 :: R4 :: R5 :: R6 :: R7 :: Rs.row r e (.slice A n c) xs :: L)) : r.d.C w A xs.length xs := h.p7.c0
theorem c8 (h : Own w0 w (R1 :: R2 :: R3 :: R4 :: R5 :: R6 :: R7 :: R8 :: Rs.row r e (.slice A n c) xs :: L)) : r.d.C w A xs.length xs := h.p8.c0
end
theorem nilRow {α : Type} (r : Rp α) (e : Nat) (h : Own w0 w L) : Own w0 w (Rs.row r e (.slice none 0 0) [] :: L) :=
  h.app1 (one (f := []) (Below.refl _ _) (Rp.Row_nil r e w) (by simp) (by simp))
end Own
section
variable {P : Program} {ops : Array Oper} {rest : List Oper} {o : Oper} {a : Act} {Q : Exit → Act → World → Prop} {w0 W : World} {L : List Rs} {α : Type}
theorem Own.app_one (r : Rp α) (hgd : o.guard = none) (s x : Operand) (t e : TypeId) (z : Value) (bytes : Nat)
    (ho : o.op = .call { callee := .builtin .append, args := #[s, x], argTypes := #[t, t] })
    (ht : P.underlying t = some (.slice e)) (hinfo : (P.info? e).map (fun i => (i.zero, i.size, i.bytes)) = some (some z, r.d.sz, bytes)) (hz : z.cells.size = r.d.sz) (hs0 : 0 < r.d.sz) (hb0 : 0 < bytes)
    (v : Value) (xs : List α) (p : α) (cs : List Value) (hs : a.eval s = v) (hx : a.eval x = .slice (some ⟨W.heap.size, 0, none⟩) 1 1)
    (HO : Own w0 W (Rs.row r e v xs :: Rs.cel r cs p :: L)) (hl : (xs.length + 1) * bytes ≤ 140737488355328)
    (h : ∀ v1 w1, Own w0 w1 (Rs.row r e v1 (xs ++ [p]) :: L) → wpList P ops Q rest (a.put o.dst v1) w1) :
    wpList P ops Q (o :: rest) a (W.alloc (.cells cs.toArray e)) := by
  obtain ⟨f, g, hf, hg, hn, hl2, c⟩ := HO.take2
  refine Rp.app_one r hgd s x t e z bytes ho ht hinfo hz hs0 hb0 v xs p cs hs hx hf hg hn hl ?_
  intro v1 w1 fp1 hr1 hn1 hf1 hg1
  refine h v1 w1 (c (M := [Rs.row r e v1 (xs ++ [p])]) ⟨fp1, [], by simp, hr1, rfl⟩ hn1 (fun b hb => ?_) ((Kp.grown hg1).mono (fun b hb _ => List.mem_append_left _ (Rp.Row_block hf (Option.mem_toList.1 hb)))))
  rcases hf1 b hb with h | h | h
  · exact .inl (List.mem_append_left _ h)
  · exact .inl (List.mem_append_right _ h)
  · exact .inr h
theorem Own.app_one_step (r : Rp α) {K : Act → World → Prop} {E : Prop} (hgd : o.guard = none) (s x : Operand) (t e : TypeId) (z : Value) (bytes : Nat)
    (ho : o.op = .call { callee := .builtin .append, args := #[s, x], argTypes := #[t, t] })
    (ht : P.underlying t = some (.slice e)) (hinfo : (P.info? e).map (fun i => (i.zero, i.size, i.bytes)) = some (some z, r.d.sz, bytes)) (hz : z.cells.size = r.d.sz) (hs0 : 0 < r.d.sz) (hb0 : 0 < bytes)
    (v : Value) (xs : List α) (p : α) (cs : List Value) (hs : a.eval s = v) (hx : a.eval x = .slice (some ⟨W.heap.size, 0, none⟩) 1 1)
    (HO : Own w0 W (Rs.row r e v xs :: Rs.cel r cs p :: L)) (hl : (xs.length + 1) * bytes ≤ 140737488355328)
    (h : ∀ v1 w1, Own w0 w1 (Rs.row r e v1 (xs ++ [p]) :: L) → K (a.put o.dst v1) w1) :
    if Region.wanted o (yielded ops a.tmps) = true then Oper.wp P o a (W.alloc (.cells cs.toArray e)) K Q else E := by
  obtain ⟨f, g, hf, hg, hn, hl2, c⟩ := HO.take2
  refine Rp.app_one_step r hgd s x t e z bytes ho ht hinfo hz hs0 hb0 v xs p cs hs hx hf hg hn hl ?_
  intro v1 w1 fp1 hr1 hn1 hf1 hg1
  refine h v1 w1 (c (M := [Rs.row r e v1 (xs ++ [p])]) ⟨fp1, [], by simp, hr1, rfl⟩ hn1 (fun b hb => ?_) ((Kp.grown hg1).mono (fun b hb _ => List.mem_append_left _ (Rp.Row_block hf (Option.mem_toList.1 hb)))))
  rcases hf1 b hb with h | h | h
  · exact .inl (List.mem_append_left _ h)
  · exact .inl (List.mem_append_right _ h)
  · exact .inr h
theorem Own.app_row {enc : α → Value} {h1 : ∀ x, (enc x).oneCell' = true} (d : α) (hgd : o.guard = none) (s x : Operand) (t e : TypeId) (z : Value) (bytes : Nat)
    (ho : o.op = .call { callee := .builtin .append, args := #[s, x], argTypes := #[t, t] })
    (ht : P.underlying t = some (.slice e)) (hinfo : (P.info? e).map (fun i => (i.zero, i.size, i.bytes)) = some (some z, 1, bytes)) (hz : z.cells.size = 1) (hb0 : 0 < bytes)
    (v : Value) (xs ys : List α) (A : Option Addr) (m c : Nat) (hs : a.eval s = v) (hx : a.eval x = .slice A m c)
    (HO : Own w0 W (Rs.row (Rp.scalar enc h1) e v xs :: L)) (HR : (Kd.scalar enc h1).C W A m ys) (hl : (xs.length + m) * bytes ≤ 140737488355328)
    (h : ∀ v1 w1, Own w0 w1 (Rs.row (Rp.scalar enc h1) e v1 (xs ++ ys) :: L) → wpList P ops Q rest (a.put o.dst v1) w1) :
    wpList P ops Q (o :: rest) a W := by
  obtain ⟨f, hf, hn, hl2, c⟩ := HO.take
  refine Rp.app_row (enc := enc) (h1 := h1) d hgd s x t e z bytes ho ht hinfo hz hb0 v xs ys A m _ hs hx hf HR hl ?_
  intro v1 w1 fp1 hr1 hn1 hf1 hg1
  exact h v1 w1 (c (M := [Rs.row (Rp.scalar enc h1) e v1 (xs ++ ys)]) ⟨fp1, [], by simp, hr1, rfl⟩ hn1 hf1 ((Kp.grown hg1).mono (fun b hb _ => Rp.Row_block hf (Option.mem_toList.1 hb))))
theorem Own.app_row_step {enc : α → Value} {h1 : ∀ x, (enc x).oneCell' = true} {K : Act → World → Prop} {E : Prop} (hgd : o.guard = none) (s x : Operand) (t e : TypeId) (z : Value) (bytes : Nat)
    (ho : o.op = .call { callee := .builtin .append, args := #[s, x], argTypes := #[t, t] })
    (ht : P.underlying t = some (.slice e)) (hinfo : (P.info? e).map (fun i => (i.zero, i.size, i.bytes)) = some (some z, 1, bytes)) (hz : z.cells.size = 1) (hb0 : 0 < bytes)
    (v : Value) (xs ys : List α) (A : Option Addr) (m c : Nat) (hs : a.eval s = v) (hx : a.eval x = .slice A m c)
    (HO : Own w0 W (Rs.row (Rp.scalar enc h1) e v xs :: L)) (HR : (Kd.scalar enc h1).C W A m ys) (hl : (xs.length + m) * bytes ≤ 140737488355328)
    (h : ∀ v1 w1, Own w0 w1 (Rs.row (Rp.scalar enc h1) e v1 (xs ++ ys) :: L) → K (a.put o.dst v1) w1) :
    if Region.wanted o (yielded ops a.tmps) = true then Oper.wp P o a W K Q else E := by
  obtain ⟨f, hf, hn, hl2, c⟩ := HO.take
  refine Rp.app_row_step (enc := enc) (h1 := h1) hgd s x t e z bytes ho ht hinfo hz hb0 v xs ys A m _ hs hx hf HR hl ?_
  intro v1 w1 fp1 hr1 hn1 hf1 hg1
  exact h v1 w1 (c (M := [Rs.row (Rp.scalar enc h1) e v1 (xs ++ ys)]) ⟨fp1, [], by simp, hr1, rfl⟩ hn1 hf1 ((Kp.grown hg1).mono (fun b hb _ => Rp.Row_block hf (Option.mem_toList.1 hb))))
end
theorem Own.cel0 {w0 w : World} {L : List Rs} {α : Type} {r : Rp α} {cs : List Value} {x : α} (h : Own w0 w L) (hp : r.P w x cs []) : Own w0 w (Rs.cel r cs x :: L) :=
  h.app1 (Own.one (f := []) (Below.refl _ _) hp (by simp) (by simp))
theorem Own.as {w0 w : World} {L : List Rs} {R R1 : Rs} (h : Own w0 w (R1 :: L)) (k : ∀ f, R1.P w f → R.P w f) : Own w0 w (R :: L) :=
  h.turn fun f hf hn => ⟨f, k f hf, hn, fun b hb => .inl hb, (Kp.refl w).mono (by simp)⟩
theorem own_disk {w w1 : World} {bs : List (List Int)} {ws : List Wr} {e : Ending} (h : GotDisk w bs ws e w1) : ∃ v0 v1, e = .returned (.agg #[v0, v1]) ∧ Own w w1 [Rs.row rBS 22 v0 bs, Rs.row rW 147 v1 ws] := by
  obtain ⟨v0, v1, f0, f1, rfl, h0, h1, hn, hl, hb⟩ := h
  exact ⟨v0, v1, rfl, Own.two hb h0 h1 hn hl⟩
theorem own_row {α : Type} {r : Rp α} {e : Nat} {w w1 : World} {xs : List α} {en : Ending} (h : GotRow r e w xs en w1) : ∃ v, en = .returned v ∧ Own w w1 [Rs.row r e v xs] := by
  obtain ⟨v, rfl, ⟨f, hr, hn, hl⟩, hb⟩ := h
  exact ⟨v, rfl, Own.one hb hr hn hl⟩
theorem own_log {w w1 : World} {notes : List Nt} {len gen safe : Int} {e : Ending} (h : GotLog w notes len gen safe e w1) : ∃ v, e = .returned (.agg #[.bool true, v, .int .i64 len, .int .i64 gen, .int .i64 safe]) ∧ Own w w1 [Rs.row rN 33 v notes] := by
  obtain ⟨v, f, rfl, hr, hn, hl, hb⟩ := h
  exact ⟨v, rfl, Own.one hb hr hn hl⟩
theorem own_by {w w1 : World} {xs : List Int} {gen : Int} {e : Ending} (h : GotBy w xs gen e w1) : ∃ v, e = .returned (.tuple #[v, .int .i64 gen]) ∧ Own w w1 [Rs.row rB 5 v xs] := by
  obtain ⟨v, f, rfl, hr, hn, hl, hb⟩ := h
  exact ⟨v, rfl, Own.one hb hr hn hl⟩
theorem own_pg {w w1 : World} {ok : Bool} {gen : Int} {bytes : List Int} {e : Ending} (h : GotPg w ok gen bytes e w1) : ∃ v, e = .returned (.agg #[.bool ok, .int .i64 gen, v]) ∧ Own w w1 [Rs.row rB 5 v bytes] := by
  obtain ⟨v, f, rfl, hr, hn, hl, hb⟩ := h
  exact ⟨v, rfl, Own.one hb hr hn hl⟩
end Go.Proofs.Ytocdlibnmlcokaa
namespace Go.Proofs.Ytocdlibnmlcokaa
open Go.RowKit Go.Proofs.YtocdlibnmlcokaaW.PrintWords Go.Proofs.YtocdlibnmlcokaaW.PrintLast
set_option linter.unusedVariables false
set_option linter.unusedSimpArgs false
theorem Own.take_row {w0 w : World} {L : List Rs} {A : Option Addr} {n c : Nat} {xs : List Int} (h : Own w0 w (Rs.row rB 5 (.slice A n c) xs :: L)) {m : Nat} (hm : m ≤ n) : Own w0 w (Rs.row rB 5 (.slice A m c) (xs.take m) :: L) :=
  h.as fun f hf => by
    have hn := (Rp.Row_C hf).1
    obtain ⟨ho, rfl⟩ := Rp.own_Row hf
    have h2 := own_take (m := m) (by rw [← hn] at ho; exact ho) hm
    have h3 : w.ownsRow 0 5 1 (.slice A m c) (xs.take m).length (encs (Value.int .u8) (xs.take m)) := by
      rw [List.length_take, show min m xs.length = m by omega]
      simpa [encs, List.map_take] using h2
    have e : (Value.slice A m c).ownBlock = (Value.slice A n c).ownBlock := by cases A <;> rfl
    rw [← e]
    exact Rp.Row_own (enc := Value.int .u8) (h1 := fun _ => rfl) h3
theorem to_c {A : Option Addr} {n c : Nat} (j : Nat) (hm : j ≤ n) (hc : n ≤ c) : ∀ W : World, (Instr.slice 22 (.slice A n c) none (some (.int .i64 j)) none).run Try.prog W = .ok (.slice A j c) W := by
  obtain ⟨i5, hi5, _⟩ := Option.map_eq_some_iff.1 info5
  have h := cut_to (P := Try.prog) 22 5 .i64 Try.underlying22 hi5 A n c (j : Int) (by omega) (by omega) hc
  simpa using h
def GotFound (w : World) (notes : List Nt) (len gen : Int) (xs : List Int) (e : Ending) (w' : World) : Prop :=
  ∃ vn vb, e = .returned (.tuple #[.agg #[.bool true, vn, .int .i64 len, .int .i64 gen, .int .i64 0], vb]) ∧ Own w w' [Rs.row rN 33 vn notes, Rs.row rB 5 vb xs]
set_option maxHeartbeats 4000000 in
set_option maxRecDepth 100000 in
theorem found_no (A : Option Addr) (c : Nat) (bs : List (List Int)) (w : World) (hx : rBS.d.C w A bs.length bs) (hc : bs.length ≤ c) (hb : BlOk bs) (hh : ¬ headOk bs) :
    Calls Try.prog 109 #[.slice A bs.length c] w (GotFound w [] 0 0 []) := by
  have hl1 : 127 < bs.length := by have := hb.1; omega
  have hl2 : bs.length ≤ 128 := by have := hb.1; omega
  have HX := Aside0.mk hx; have HBL := Aside0.mk hb; have HH := Aside0.mk hh; clear hx hb hh
  go_enter Try.func109, Try.ntmps109
  go_upto_region 2 with (fail)
  generalize hw : World.alloc (World.alloc w _) _ = w1
  have O := Aside0.mk ((Own.nil w).of2 hw); clear hw
  obtain ⟨ad, A0, c0, e1, hc1, hle, hC1⟩ := at_BS (Kd.C_below HX.out O.out.bel) 0 (by omega) (by omega)
  cases e1
  simp only [show (0 : Int).toNat = 0 from rfl, Go.Addr.add, if_true] at hc1
  have HC1 := Aside0.mk hC1; have HLE := Aside0.mk hle
  clear hC1 hle
  have fin : ∀ {w2 : World} {g : Nat} {cs : Array Value} {v : Value} {P : List Int}, Own w w2 [Rs.box g 138 cs, Rs.row rB 5 v P, Rs.box (w.heap.size + 1) 59 #[.bool true, .slice none 0 0, .int .i64 0, .int .i64 0, .int .i64 0], Rs.box w.heap.size 59 #[.bool false, .slice none 0 0, .int .i64 0, .int .i64 0, .int .i64 0]] →
      ∀ w3, (((((w2.setCell ⟨w.heap.size, 0, none⟩ (.bool true)).setCell ⟨w.heap.size, 1, none⟩ (.slice none 0 0)).setCell ⟨w.heap.size, 2, none⟩ (.int .i64 0)).setCell ⟨w.heap.size, 3, none⟩ (.int .i64 0)).setCell ⟨w.heap.size, 4, none⟩ (.int .i64 0)) = w3 →
        w3.heap[w.heap.size]? = some (.cells #[.bool true, .slice none 0 0, .int .i64 0, .int .i64 0, .int .i64 0] 59 (0, 0)) ∧ Own w w3 [Rs.row rN 33 (.slice none 0 0) [], Rs.row rB 5 (.slice none 0 0) []] := by
    intro w2 g cs v P h w3 e
    subst e
    have h5 := ((((h.p3.set 0 (.bool true)).set 1 (.slice none 0 0)).set 2 (.int .i64 0)).set 3 (.int .i64 0)).set 4 (.int .i64 0)
    exact ⟨h5.b0, (((h5.only []).nilRow rB 5).nilRow rN 33)⟩
  have FIN := Aside0.mk @fin; clear fin
  by_cases hp : PgIs (gBS bs 0)
  · have HP := Aside0.mk hp; clear hp
    go_wp2_with fail
    refine (implPageOf_yes _ _ _ _ HC1.out HLE.out (HBL.out.g (by omega) (by omega)).2 HP.out).mono ?_
    intro e w2 hg
    obtain ⟨v, rfl, k⟩ := own_pg hg
    replace O := Aside0.mk (O.out.app1 k); clear k hg
    obtain ⟨P0, hP⟩ : ∃ P, P = bytesOf (gBS bs 0) := ⟨_, rfl⟩
    have hp0 : 0 < P0.length := Nat.pos_of_ne_zero (fun h => HH.out ⟨HP.out, by rw [← hP]; exact h⟩)
    have hp1 : P0.length ≤ 56 := by rw [hP]; exact bytesOf_len (HBL.out.g (by omega) (by omega)).2 (HBL.out.g (by omega) (by omega)).1 HP.out.2.1
    rw [← hP] at O; clear hP
    obtain ⟨A1, c1, rfl, _⟩ := O.out.f0
    go_upto_region 3 with (fail)
    generalize hw : w2.alloc _ = w3
    replace O := Aside0.mk (O.out.of hw); clear hw hc1
    generalize w2.heap.size = g5 at O ⊢
    have q0 := (blk_cell O.out.b0 0).trans rfl; have q1 := (blk_cell O.out.b0 1).trans rfl; have q2 := (blk_cell O.out.b0 2).trans rfl
    have s0 := (blk_cell O.out.b2 0).trans rfl; have s1 := (blk_cell O.out.b2 1).trans rfl; have s2 := (blk_cell O.out.b2 2).trans rfl; have s3 := (blk_cell O.out.b2 3).trans rfl; have s4 := (blk_cell O.out.b2 4).trans rfl
    have u0 := (blk_cell O.out.b3 0).trans rfl; have u1 := (blk_cell O.out.b3 1).trans rfl; have u2 := (blk_cell O.out.b3 2).trans rfl; have u3 := (blk_cell O.out.b3 3).trans rfl; have u4 := (blk_cell O.out.b3 4).trans rfl
    have z0 := blk_frozen O.out.b3 0; have z1 := blk_frozen O.out.b3 1; have z2 := blk_frozen O.out.b3 2; have z3 := blk_frozen O.out.b3 3; have z4 := blk_frozen O.out.b3 4
    go_wp2
    obtain ⟨K, F⟩ := FIN.out O.out _ rfl
    refine bodyPost_ret (results_ct rfl _ _ w.heap.size 59 _ (0, 0) _ rfl K Try.underlying59 rfl (by kernel_rfl)) rfl ?_
    exact ⟨_, _, rfl, F⟩
  · have HP := Aside0.mk hp; clear hp
    go_wp2_with fail
    refine (implPageOf_no _ _ _ _ HC1.out HLE.out (HBL.out.g (by omega) (by omega)).2 HP.out).mono ?_
    intro e w2 hg
    obtain ⟨v, rfl, k⟩ := own_pg hg
    replace O := Aside0.mk (O.out.app1 k); clear k hg
    obtain ⟨A1, c1, rfl, _⟩ := O.out.f0
    go_upto_region 3 with (fail)
    generalize hw : w2.alloc _ = w3
    replace O := Aside0.mk (O.out.of hw); clear hw hc1
    generalize w2.heap.size = g5 at O ⊢
    have q0 := (blk_cell O.out.b0 0).trans rfl
    have s0 := (blk_cell O.out.b2 0).trans rfl; have s1 := (blk_cell O.out.b2 1).trans rfl; have s2 := (blk_cell O.out.b2 2).trans rfl; have s3 := (blk_cell O.out.b2 3).trans rfl; have s4 := (blk_cell O.out.b2 4).trans rfl
    have u0 := (blk_cell O.out.b3 0).trans rfl; have u1 := (blk_cell O.out.b3 1).trans rfl; have u2 := (blk_cell O.out.b3 2).trans rfl; have u3 := (blk_cell O.out.b3 3).trans rfl; have u4 := (blk_cell O.out.b3 4).trans rfl
    have z0 := blk_frozen O.out.b3 0; have z1 := blk_frozen O.out.b3 1; have z2 := blk_frozen O.out.b3 2; have z3 := blk_frozen O.out.b3 3; have z4 := blk_frozen O.out.b3 4
    go_wp2
    obtain ⟨K, F⟩ := FIN.out O.out _ rfl
    refine bodyPost_ret (results_ct rfl _ _ w.heap.size 59 _ (0, 0) _ rfl K Try.underlying59 rfl (by kernel_rfl)) rfl ?_
    exact ⟨_, _, rfl, F⟩
end Go.Proofs.Ytocdlibnmlcokaa
