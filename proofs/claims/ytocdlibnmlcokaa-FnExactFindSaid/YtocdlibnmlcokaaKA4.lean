/- Contracts and words that the laws rest on, part 4: for every world; conditions as each theorem says. -/
import Derived.Shelf.Strings.Search1
import Derived.Shelf.Strings.Search2
import Derived.Shelf.Strings.Search3
import Derived.Shelf.LaysM
import Derived.Shelf.Strings.Shaped
import Derived.Test.YtocdlibnmlcokaaProg
import Derived.Laws.Strings2
import Derived.Lib.IndexBytes
import Derived.Test.YtocdlibnmlcokaaKA3
namespace Go.Proofs.Ytocdlibnmlcokaa
open Go.RowKit Go.Proofs.YtocdlibnmlcokaaW.PrintWords Go.Proofs.YtocdlibnmlcokaaW.PrintLast
set_option linter.unusedVariables false
namespace Own
theorem p9 {w0 w : World} {L : List Rs} {R R1 R2 R3 R4 R5 R6 R7 R8 R9 : Rs} (h : Own w0 w (R1 :: R2 :: R3 :: R4 :: R5 :: R6 :: R7 :: R8 :: R9 :: R :: L)) : Own w0 w (R :: R1 :: R2 :: R3 :: R4 :: R5 :: R6 :: R7 :: R8 :: R9 :: L) := swap [R1, R2, R3, R4, R5, R6, R7, R8, R9] h
theorem p10 {w0 w : World} {L : List Rs} {R R1 R2 R3 R4 R5 R6 R7 R8 R9 R10 : Rs} (h : Own w0 w (R1 :: R2 :: R3 :: R4 :: R5 :: R6 :: R7 :: R8 :: R9 :: R10 :: R :: L)) : Own w0 w (R :: R1 :: R2 :: R3 :: R4 :: R5 :: R6 :: R7 :: R8 :: R9 :: R10 :: L) := swap [R1, R2, R3, R4, R5, R6, R7, R8, R9, R10] h
theorem p11 {w0 w : World} {L : List Rs} {R R1 R2 R3 R4 R5 R6 R7 R8 R9 R10 R11 : Rs} (h : Own w0 w (R1 :: R2 :: R3 :: R4 :: R5 :: R6 :: R7 :: R8 :: R9 :: R10 :: R11 :: R :: L)) : Own w0 w (R :: R1 :: R2 :: R3 :: R4 :: R5 :: R6 :: R7 :: R8 :: R9 :: R10 :: R11 :: L) := swap [R1, R2, R3, R4, R5, R6, R7, R8, R9, R10, R11] h
theorem p12 {w0 w : World} {L : List Rs} {R R1 R2 R3 R4 R5 R6 R7 R8 R9 R10 R11 R12 : Rs} (h : Own w0 w (R1 :: R2 :: R3 :: R4 :: R5 :: R6 :: R7 :: R8 :: R9 :: R10 :: R11 :: R12 :: R :: L)) : Own w0 w (R :: R1 :: R2 :: R3 :: R4 :: R5 :: R6 :: R7 :: R8 :: R9 :: R10 :: R11 :: R12 :: L) := swap [R1, R2, R3, R4, R5, R6, R7, R8, R9, R10, R11, R12] h
theorem p13 {w0 w : World} {L : List Rs} {R R1 R2 R3 R4 R5 R6 R7 R8 R9 R10 R11 R12 R13 : Rs} (h : Own w0 w (R1 :: R2 :: R3 :: R4 :: R5 :: R6 :: R7 :: R8 :: R9 :: R10 :: R11 :: R12 :: R13 :: R :: L)) : Own w0 w (R :: R1 :: R2 :: R3 :: R4 :: R5 :: R6 :: R7 :: R8 :: R9 :: R10 :: R11 :: R12 :: R13 :: L) := swap [R1, R2, R3, R4, R5, R6, R7, R8, R9, R10, R11, R12, R13] h
theorem p14 {w0 w : World} {L : List Rs} {R R1 R2 R3 R4 R5 R6 R7 R8 R9 R10 R11 R12 R13 R14 : Rs} (h : Own w0 w (R1 :: R2 :: R3 :: R4 :: R5 :: R6 :: R7 :: R8 :: R9 :: R10 :: R11 :: R12 :: R13 :: R14 :: R :: L)) : Own w0 w (R :: R1 :: R2 :: R3 :: R4 :: R5 :: R6 :: R7 :: R8 :: R9 :: R10 :: R11 :: R12 :: R13 :: R14 :: L) := swap [R1, R2, R3, R4, R5, R6, R7, R8, R9, R10, R11, R12, R13, R14] h
theorem p15 {w0 w : World} {L : List Rs} {R R1 R2 R3 R4 R5 R6 R7 R8 R9 R10 R11 R12 R13 R14 R15 : Rs} (h : Own w0 w (R1 :: R2 :: R3 :: R4 :: R5 :: R6 :: R7 :: R8 :: R9 :: R10 :: R11 :: R12 :: R13 :: R14 :: R15 :: R :: L)) : Own w0 w (R :: R1 :: R2 :: R3 :: R4 :: R5 :: R6 :: R7 :: R8 :: R9 :: R10 :: R11 :: R12 :: R13 :: R14 :: R15 :: L) := swap [R1, R2, R3, R4, R5, R6, R7, R8, R9, R10, R11, R12, R13, R14, R15] h
theorem p16 {w0 w : World} {L : List Rs} {R R1 R2 R3 R4 R5 R6 R7 R8 R9 R10 R11 R12 R13 R14 R15 R16 : Rs} (h : Own w0 w (R1 :: R2 :: R3 :: R4 :: R5 :: R6 :: R7 :: R8 :: R9 :: R10 :: R11 :: R12 :: R13 :: R14 :: R15 :: R16 :: R :: L)) : Own w0 w (R :: R1 :: R2 :: R3 :: R4 :: R5 :: R6 :: R7 :: R8 :: R9 :: R10 :: R11 :: R12 :: R13 :: R14 :: R15 :: R16 :: L) := swap [R1, R2, R3, R4, R5, R6, R7, R8, R9, R10, R11, R12, R13, R14, R15, R16] h
theorem b9 {w0 w : World} {L : List Rs} {R1 R2 R3 R4 R5 R6 R7 R8 R9 : Rs} {g t : Nat} {c : Array Value} (h : Own w0 w (R1 :: R2 :: R3 :: R4 :: R5 :: R6 :: R7 :: R8 :: R9 :: Rs.box g t c :: L)) : w.heap[g]? = some (.cells c t (0, 0)) := h.p9.b0
theorem b10 {w0 w : World} {L : List Rs} {R1 R2 R3 R4 R5 R6 R7 R8 R9 R10 : Rs} {g t : Nat} {c : Array Value} (h : Own w0 w (R1 :: R2 :: R3 :: R4 :: R5 :: R6 :: R7 :: R8 :: R9 :: R10 :: Rs.box g t c :: L)) : w.heap[g]? = some (.cells c t (0, 0)) := h.p10.b0
theorem b11 {w0 w : World} {L : List Rs} {R1 R2 R3 R4 R5 R6 R7 R8 R9 R10 R11 : Rs} {g t : Nat} {c : Array Value} (h : Own w0 w (R1 :: R2 :: R3 :: R4 :: R5 :: R6 :: R7 :: R8 :: R9 :: R10 :: R11 :: Rs.box g t c :: L)) : w.heap[g]? = some (.cells c t (0, 0)) := h.p11.b0
theorem b12 {w0 w : World} {L : List Rs} {R1 R2 R3 R4 R5 R6 R7 R8 R9 R10 R11 R12 : Rs} {g t : Nat} {c : Array Value} (h : Own w0 w (R1 :: R2 :: R3 :: R4 :: R5 :: R6 :: R7 :: R8 :: R9 :: R10 :: R11 :: R12 :: Rs.box g t c :: L)) : w.heap[g]? = some (.cells c t (0, 0)) := h.p12.b0
theorem b13 {w0 w : World} {L : List Rs} {R1 R2 R3 R4 R5 R6 R7 R8 R9 R10 R11 R12 R13 : Rs} {g t : Nat} {c : Array Value} (h : Own w0 w (R1 :: R2 :: R3 :: R4 :: R5 :: R6 :: R7 :: R8 :: R9 :: R10 :: R11 :: R12 :: R13 :: Rs.box g t c :: L)) : w.heap[g]? = some (.cells c t (0, 0)) := h.p13.b0
theorem b14 {w0 w : World} {L : List Rs} {R1 R2 R3 R4 R5 R6 R7 R8 R9 R10 R11 R12 R13 R14 : Rs} {g t : Nat} {c : Array Value} (h : Own w0 w (R1 :: R2 :: R3 :: R4 :: R5 :: R6 :: R7 :: R8 :: R9 :: R10 :: R11 :: R12 :: R13 :: R14 :: Rs.box g t c :: L)) : w.heap[g]? = some (.cells c t (0, 0)) := h.p14.b0
theorem b15 {w0 w : World} {L : List Rs} {R1 R2 R3 R4 R5 R6 R7 R8 R9 R10 R11 R12 R13 R14 R15 : Rs} {g t : Nat} {c : Array Value} (h : Own w0 w (R1 :: R2 :: R3 :: R4 :: R5 :: R6 :: R7 :: R8 :: R9 :: R10 :: R11 :: R12 :: R13 :: R14 :: R15 :: Rs.box g t c :: L)) : w.heap[g]? = some (.cells c t (0, 0)) := h.p15.b0
theorem b16 {w0 w : World} {L : List Rs} {R1 R2 R3 R4 R5 R6 R7 R8 R9 R10 R11 R12 R13 R14 R15 R16 : Rs} {g t : Nat} {c : Array Value} (h : Own w0 w (R1 :: R2 :: R3 :: R4 :: R5 :: R6 :: R7 :: R8 :: R9 :: R10 :: R11 :: R12 :: R13 :: R14 :: R15 :: R16 :: Rs.box g t c :: L)) : w.heap[g]? = some (.cells c t (0, 0)) := h.p16.b0
theorem c9 {w0 w : World} {L : List Rs} {R1 R2 R3 R4 R5 R6 R7 R8 R9 : Rs} {α : Type} {r : Rp α} {e n c : Nat} {A : Option Addr} {xs : List α} (h : Own w0 w (R1 :: R2 :: R3 :: R4 :: R5 :: R6 :: R7 :: R8 :: R9 :: Rs.row r e (.slice A n c) xs :: L)) : r.d.C w A xs.length xs := h.p9.c0
theorem c10 {w0 w : World} {L : List Rs} {R1 R2 R3 R4 R5 R6 R7 R8 R9 R10 : Rs} {α : Type} {r : Rp α} {e n c : Nat} {A : Option Addr} {xs : List α} (h : Own w0 w (R1 :: R2 :: R3 :: R4 :: R5 :: R6 :: R7 :: R8 :: R9 :: R10 :: Rs.row r e (.slice A n c) xs :: L)) : r.d.C w A xs.length xs := h.p10.c0
theorem c11 {w0 w : World} {L : List Rs} {R1 R2 R3 R4 R5 R6 R7 R8 R9 R10 R11 : Rs} {α : Type} {r : Rp α} {e n c : Nat} {A : Option Addr} {xs : List α} (h : Own w0 w (R1 :: R2 :: R3 :: R4 :: R5 :: R6 :: R7 :: R8 :: R9 :: R10 :: R11 :: Rs.row r e (.slice A n c) xs :: L)) : r.d.C w A xs.length xs := h.p11.c0
end Own
end Go.Proofs.Ytocdlibnmlcokaa
namespace Go.Proofs.Ytocdlibnmlcokaa
open Go.RowKit Go.Proofs.YtocdlibnmlcokaaW.PrintWords Go.Proofs.YtocdlibnmlcokaaW.PrintLast Go.Proofs.Ytocdlibnmlcokaa.Open
set_option linter.unusedVariables false
set_option linter.unusedSimpArgs false
theorem u8_of {x : Int} (h : (Lit.int .u8 x).wf = true) : 0 ≤ x ∧ x < 256 := by
  simp [Lit.wf] at h
  have e1 : IntKind.u8.min = 0 := by decide
  have e2 : IntKind.u8.max = 255 := by decide
  rw [e1, e2] at h
  omega
theorem op78b : Opens Try.prog 78 (Kd.pair (Kd.slice 22 rBS.d) (Kd.slice 147 rW.d)) (fun y => BkOk y.1 y.2) :=
  opens_mono (opens_struct Try.underlying78 (by kernel_rfl) (opensF_cons (by kernel_rfl) (by kernel_rfl) (opens_slice 22 Try.underlying40 (by kernel_rfl) op22)
    (opensF_one (by kernel_rfl) (by kernel_rfl) (opens_slice 147 Try.underlying76 (by kernel_rfl) (opens_iso (ok' := fun x : Wr => ∀ b ∈ x.bytes, (Lit.int .u8 b).wf = true) (f := fun x : Wr => (x.block, x.bytes)) (opens_struct Try.underlying176 (by kernel_rfl) (opensF_cons (by kernel_rfl) (by kernel_rfl) (opens_int Try.underlying3) (opensF_one (by kernel_rfl) (by kernel_rfl) op22)))
      (fun x hx => ⟨⟨x.1, x.2⟩, rfl, hx.2.2⟩)))))) (fun y hy => ⟨fun b hb x hx => u8_of ((hy.1.2 b hb).2 x hx), fun x hx b hb => u8_of (hy.2.2 x hx b hb)⟩)
def TxOk (x : Nt) : Prop := x.text.size ≤ 9223372036854775807
theorem op109 : Opens Try.prog 109 rN.d TxOk :=
  opens_iso (opens_struct Try.underlying109 (by kernel_rfl) (opensF_cons (by kernel_rfl) (by kernel_rfl) (opens_int Try.underlying3) (opensF_cons (by kernel_rfl) (by kernel_rfl) (opens_int Try.underlying3) (opensF_cons (by kernel_rfl) (by kernel_rfl) (opens_int Try.underlying3)
    (opensF_cons (by kernel_rfl) (by kernel_rfl) (opens_int Try.underlying2) (opensF_one (by kernel_rfl) (by kernel_rfl) (opens_string Try.underlying9)))))))
    (fun x hx => ⟨⟨x.1, x.2.1, x.2.2.1, x.2.2.2.1, x.2.2.2.2⟩, rfl, by have := hx.2.2.2.2; unfold TxOk maxLen at *; simp only at *; omega⟩)
theorem op66 : Opens Try.prog 66 (Kd.slice 33 rN.d) (fun xs => ∀ x ∈ xs, TxOk x) := opens_mono (opens_slice 33 Try.underlying66 (by kernel_rfl) op109) (fun xs h => h.2)
def kLog : Kd (Bool × List Nt × Int × Int × Int) := Kd.pair Kd.bool (Kd.pair (Kd.slice 33 rN.d) (Kd.pair (Kd.int .i64) (Kd.pair (Kd.int .i64) (Kd.int .i64))))
theorem op101 : Opens Try.prog 101 kLog (fun y => ∀ x ∈ y.2.1, TxOk x) :=
  opens_mono (opens_struct Try.underlying101 (by kernel_rfl) (opensF_cons (by kernel_rfl) (by kernel_rfl) (opens_bool Try.underlying4) (opensF_cons (by kernel_rfl) (by kernel_rfl) op66 (opensF_cons (by kernel_rfl) (by kernel_rfl) (opens_int Try.underlying3) (opensF_cons (by kernel_rfl) (by kernel_rfl) (opens_int Try.underlying3) (opensF_one (by kernel_rfl) (by kernel_rfl) (opens_int Try.underlying3))))))) (fun y hy => hy.2.1)
def kOpn : Kd (Bool × (Bool × List Nt × Int × Int × Int) × (List (List Int) × List Wr)) := Kd.pair Kd.bool (Kd.pair kLog (Kd.pair (Kd.slice 22 rBS.d) (Kd.slice 147 rW.d)))
theorem op103 : Opens Try.prog 103 kOpn (fun y => (∀ x ∈ y.2.1.2.1, TxOk x) ∧ BkOk y.2.2.1 y.2.2.2) :=
  opens_mono (opens_struct Try.underlying103 (by kernel_rfl) (opensF_cons (by kernel_rfl) (by kernel_rfl) (opens_bool Try.underlying4) (opensF_cons (by kernel_rfl) (by kernel_rfl) op101 (opensF_one (by kernel_rfl) (by kernel_rfl) op78b)))) (fun y hy => hy.2)
theorem open103 {w : World} {y : Bool × (Bool × List Nt × Int × Int × Int) × (List (List Int) × List Wr)} {cs : List Value} (h : kOpn.K w y cs) :
    ∃ An cn A0 c0 A1 c1, cs = [.bool y.1, .bool y.2.1.1, .slice An y.2.1.2.1.length cn, .int .i64 y.2.1.2.2.1, .int .i64 y.2.1.2.2.2.1, .int .i64 y.2.1.2.2.2.2, .slice A0 y.2.2.1.length c0, .slice A1 y.2.2.2.length c1] ∧ rN.d.C w An y.2.1.2.1.length y.2.1.2.1 ∧ rBS.d.C w A0 y.2.2.1.length y.2.2.1 ∧ rW.d.C w A1 y.2.2.2.length y.2.2.2 := by
  obtain ⟨_, _, rfl, rfl, _, _, rfl, ⟨_, _, rfl, rfl, _, _, rfl, ⟨An, cn, rfl, _, hn⟩, _, _, rfl, rfl, _, _, rfl, rfl, rfl⟩, ⟨_, _, rfl, ⟨A0, c0, rfl, _, h0⟩, ⟨A1, c1, rfl, _, h1⟩⟩⟩ := h
  exact ⟨An, cn, A0, c0, A1, c1, rfl, hn, h0, h1⟩
theorem open109 {w : World} {x : Nt} {cs : List Value} (h : rN.d.K w x cs) : cs = cN x := by
  obtain ⟨_, _, rfl, rfl, _, _, rfl, rfl, _, _, rfl, rfl, _, _, rfl, rfl, rfl⟩ := h
  rfl
theorem open66 {w : World} {y : List Nt} {cs : List Value} (h : (Kd.slice 33 rN.d).K w y cs) : ∃ A c, cs = [.slice A y.length c] ∧ rN.d.C w A y.length y := by
  obtain ⟨A, c, rfl, _, h0⟩ := h
  exact ⟨A, c, rfl, h0⟩
theorem small_note {xs : List Nt} (h : costN xs ≤ 1048576) : xs.length ≤ 10000000 ∧ cntL cnN xs ≤ 10000000 := by
  have := cntL_nonneg (cnt := cnS) cnS_nonneg xs
  unfold costN at h
  rw [cntN]
  omega
theorem found_notes {S : List (List Int)} (h : BlOk S) : (foundL S).1.length ≤ 7112 := by
  have h1 := logBytes_ok h
  have h2 := frames_len (logBytes S).length (logBytes S) h1.1
  unfold foundL framesL; omega
theorem cnW_of {ws : List Wr} (hl : ws.length ≤ 200) (hw : ∀ x ∈ ws, x.bytes.length = 64) : cntL cnW ws ≤ 20000 := by
  have := cntL_bound (cnt := cnW) (m := 65) (by omega) ws (fun x hx => by have := hw x hx; unfold cnW; omega)
  omega
end Go.Proofs.Ytocdlibnmlcokaa
namespace Go.Proofs.Ytocdlibnmlcokaa
open Go.Shelf
def Try.lays144_ren : Go.Shelf.Ren := ⟨fun | 144 => 106 | 143 => 145 | 219 => 161 | 217 => 164 | 225 => 165 | 224 => 166 | 267 => 167 | 266 => 168 | 314 => 169 | n => n, fun | 9 => 9 | 4 => 4 | 3 => 3 | 5 => 5 | 46 => 179 | 146 => 183 | 51 => 182 | n => n, fun | 1 => 0 | n => n⟩
theorem Try.lays144 : Go.Proofs.Lays.n144 Try.prog Try.lays144_ren := {
  mixed := by kernel_rfl
  f143 := Try.func145.trans (congrArg some (by kernel_rfl))
  f144 := Try.func106.trans (congrArg some (by kernel_rfl))
  f217 := Try.func164.trans (congrArg some (by kernel_rfl))
  f219 := Try.func161.trans (congrArg some (by kernel_rfl))
  f224 := Try.func166.trans (congrArg some (by kernel_rfl))
  f225 := Try.func165.trans (congrArg some (by kernel_rfl))
  f266 := Try.func168.trans (congrArg some (by kernel_rfl))
  f267 := Try.func167.trans (congrArg some (by kernel_rfl))
  f314 := Try.func169.trans (congrArg some (by kernel_rfl))
  t3 := Try.underlying3
  a3 := Try.isAgg3
  z3 := Try.sizeOf3
  v3 := Try.zeroValue3
  t4 := Try.underlying4
  a4 := Try.isAgg4
  z4 := Try.sizeOf4
  v4 := Try.zeroValue4
  t5 := Try.underlying5
  a5 := Try.isAgg5
  z5 := Try.sizeOf5
  v5 := Try.zeroValue5
  t9 := Try.underlying9
  a9 := Try.isAgg9
  z9 := Try.sizeOf9
  v9 := Try.zeroValue9
  t46 := Try.underlying179
  a46 := Try.isAgg179
  z46 := Try.sizeOf179
  v46 := Try.zeroValue179
  t51 := Try.underlying182
  a51 := Try.isAgg182
  z51 := Try.sizeOf182
  v51 := Try.zeroValue182
  t146 := Try.underlying183
  a146 := Try.isAgg183
  z146 := Try.sizeOf183
  v146 := Try.zeroValue183
  g1 := by kernel_rfl }
open Go.RowKit Go.Lib in
theorem Try.strings_Contains (s sub : ByteArray) (m : Int) (w : World) (hs : s.size < 4294967281) (hm : w.cell? ⟨0, 0, none⟩ = some (.int .i64 m)) :
    Calls Try.prog 106 #[.string s, .string sub] w fun e w' => e = .returned (.bool (Lib.contains s.data.toList sub.data.toList)) ∧ w' = w := Any.strings_Contains Try.lays144 s sub m w hs hm
def Try.laysM144_ren : Go.Shelf.Ren := ⟨fun | 144 => 106 | 143 => 145 | 219 => 161 | 217 => 164 | 225 => 165 | 224 => 166 | 267 => 167 | 266 => 168 | 314 => 169 | n => n, fun | 9 => 9 | 4 => 4 | 3 => 3 | 5 => 5 | 46 => 179 | 146 => 183 | 51 => 182 | n => n, fun | 1 => 0 | n => n⟩
theorem Try.laysM144 : Go.Proofs.LaysM.n144 Try.prog Try.laysM144_ren := {
  mixed := by kernel_rfl
  f143 := Try.func145.trans (congrArg some (by kernel_rfl))
  f144 := Try.func106.trans (congrArg some (by kernel_rfl))
  f217 := Try.func164.trans (congrArg some (by kernel_rfl))
  f219 := Try.func161.trans (congrArg some (by kernel_rfl))
  f224 := Try.func166.trans (congrArg some (by kernel_rfl))
  f225 := Try.func165.trans (congrArg some (by kernel_rfl))
  f266 := Try.func168.trans (congrArg some (by kernel_rfl))
  f267 := Try.func167.trans (congrArg some (by kernel_rfl))
  f314 := Try.func169.trans (congrArg some (by kernel_rfl))
  t3 := Try.underlying3
  a3 := Try.isAgg3
  z3 := Try.sizeOf3
  v3 := Try.zeroValue3
  t4 := Try.underlying4
  a4 := Try.isAgg4
  z4 := Try.sizeOf4
  v4 := Try.zeroValue4
  t5 := Try.underlying5
  a5 := Try.isAgg5
  z5 := Try.sizeOf5
  v5 := Try.zeroValue5
  t9 := Try.underlying9
  a9 := Try.isAgg9
  z9 := Try.sizeOf9
  v9 := Try.zeroValue9
  t46 := Try.underlying179
  a46 := Try.isAgg179
  z46 := Try.sizeOf179
  v46 := Try.zeroValue179
  t51 := Try.underlying182
  a51 := Try.isAgg182
  z51 := Try.sizeOf182
  v51 := Try.zeroValue182
  t146 := Try.underlying183
  a146 := Try.isAgg183
  z146 := Try.sizeOf183
  v146 := Try.zeroValue183
  g1 := by kernel_rfl
  i3 := by kernel_rfl
  i4 := by kernel_rfl
  i5 := by kernel_rfl
  i9 := by kernel_rfl
  i46 := by kernel_rfl
  i51 := by kernel_rfl
  i146 := by kernel_rfl
  m1 := by kernel_rfl
  s1_3 := fun w h => Go.Proofs.cell_of_shapedOpen_int (zero := #[.int .i64 0]) (t := 3) h (of_decide_eq_true (by kernel_rfl)) (by kernel_rfl) rfl (by kernel_rfl) (by kernel_rfl) Try.underlying3 }
end Go.Proofs.Ytocdlibnmlcokaa
namespace Go.Proofs.Ytocdlibnmlcokaa
open Go.RowKit Go.Proofs.YtocdlibnmlcokaaW.PrintWords Go.Proofs.YtocdlibnmlcokaaW.PrintLast
set_option linter.unusedVariables false
set_option linter.unusedSimpArgs false
def HasMax (w : World) : Prop := ∃ m : Int, w.cell? ⟨0, 0, none⟩ = some (.int .i64 m)
theorem HasMax.below {w w1 : World} (h : HasMax w) (hb : Below w.heap.size w w1) : HasMax w1 := by
  obtain ⟨m, hm⟩ := h
  exact ⟨m, pw_cell_below hb hm⟩
theorem HasMax.of {w : World} (h : w.ShapedOpen Try.prog) : HasMax w := Try.laysM144.s1_3 w h
def hasB (s part : ByteArray) : Bool := Lib.contains s.data.toList part.data.toList
theorem hasB_yes {s part : ByteArray} {i : Nat} (hi : i + part.size ≤ s.size) (ho : Lib.occAt s.data.toList part.data.toList i = true) : hasB s part = true := by
  unfold hasB Lib.contains
  have hs : s.data.toList.length = s.size := data_length s
  rcases Lib.index_spec s.data.toList part.data.toList with ⟨_, h2⟩ | ⟨j, h1, _⟩
  · rw [h2 i (by omega)] at ho; cases ho
  · rw [h1]; simp
theorem hasB_no {s part : ByteArray} (h : ∀ i, i + part.size ≤ s.size → Lib.occAt s.data.toList part.data.toList i = false) : hasB s part = false := by
  unfold hasB Lib.contains
  have hl : part.data.toList.length = part.size := data_length part
  have hs : s.data.toList.length = s.size := data_length s
  rcases Lib.index_spec s.data.toList part.data.toList with ⟨h1, _⟩ | ⟨j, h1, h2, h3, _⟩
  · rw [h1]; decide
  · exfalso
    have h5 : j + part.size ≤ s.size := by
      rcases Lib.occAt_room h3 with h4 | h4
      · omega
      · rw [h4] at hl; simp at hl; omega
    rw [h j h5] at h3
    cases h3
theorem contains_c (s part : ByteArray) (w : World) (hs : s.size < 4294967281) (hm : HasMax w) :
    Calls Try.prog 106 #[.string s, .string part] w fun e w' => e = .returned (.bool (hasB s part)) ∧ w' = w := by
  obtain ⟨m, hm⟩ := hm
  exact Try.strings_Contains s part m w hs hm
set_option maxHeartbeats 2000000 in
set_option maxRecDepth 100000 in
theorem l4has_c (s part : ByteArray) (w : World) (hs : s.size < 4294967281) (hp : part.size < 4294967281) :
    Calls Try.prog 107 #[.string s, .string part] w fun e w' => e = .returned (.bool (hasB s part)) ∧ w' = w := by
  go_enter Try.func107, Try.ntmps107
  go_wp2
  go_loopg [5] (s.size + 1) (fun m v wr => ∃ i : Nat, v = .int .i64 i ∧ Aside0 (s.size + 1 - i ≤ m ∧ ∀ j, j < i → j + part.size ≤ s.size → Lib.occAt s.data.toList part.data.toList j = false) ∧ Aside0 (i ≤ s.size + 1) ∧ wr = w)
  case atStart => exact ⟨0, rfl, ⟨by simp, fun j h => by omega⟩, ⟨by omega⟩, rfl⟩
  case round =>
    obtain ⟨i, rfl, HI, HI2, rfl⟩ := hrel
    have hi2 := HI2.out
    by_cases h : i + part.size ≤ s.size
    · have hcut : ∀ W, (Instr.slice 9 (.string s) (some (.int .i64 i)) (some (.int .i64 ((i:Int) + part.size))) none).run Try.prog W = .ok (.string (s.extract i (i + part.size))) W := by
        intro W
        have e := run_slice_string (P := Try.prog) (w := W) 9 s .i64 .i64 (i:Int) ((i:Int) + part.size) Try.underlying9 (by omega) (by omega) (by omega)
        rw [e]
        simp only [Int.toNat_natCast, show ((i:Int) + part.size).toNat = i + part.size by omega]
      have ho := Lib.occ_of_piece s part i h
      generalize hbb : ((s.extract i (i + part.size)).toList == part.toList) = b at ho
      have HO := Aside0.mk ho; clear ho
      cases b with
      | true =>
        go_wp2
        go_ret
        exact ⟨by rw [hasB_yes h HO.out]; rfl, rfl⟩
      | false =>
        go_wp2
        go_roundg (gk - 1)
        case measure => have := HI.out.1; omega
        case rel => exact ⟨i + 1, by first | rfl | (congr 1; omega), ⟨by have := HI.out.1; omega, fun j h1 h2 => by
            rcases Nat.lt_or_ge j i with h3 | h3
            · exact HI.out.2 j h3 h2
            · rw [show j = i by omega]; exact HO.out⟩, ⟨by omega⟩, rfl⟩
    · go_wp2
      go_ret
      exact ⟨by rw [hasB_no (fun j hj => HI.out.2 j (by omega) hj)]; rfl, rfl⟩
end Go.Proofs.Ytocdlibnmlcokaa
namespace Go.Proofs.Ytocdlibnmlcokaa
open Go.RowKit Go.Proofs.YtocdlibnmlcokaaW.PrintWords Go.Proofs.YtocdlibnmlcokaaW.PrintLast
set_option linter.unusedVariables false
set_option linter.unusedSimpArgs false
def fits (a x : Nt) : Bool := decide (a.tick ≤ x.tick) && decide (x.tick ≤ a.kind) && (decide (a.who = -1) || decide (a.who = x.kind)) && (decide (a.n = -1) || decide (a.n = x.who)) && hasB x.text a.text
def findTo (a : Nt) (xs : List Nt) (i : Nat) : List Int := ((List.range i).filter (fun (j : Nat) => fits a (gN xs (j : Int)))).map (fun (j : Nat) => (j : Int))
def findL (a : Nt) (xs : List Nt) : List Int := findTo a xs xs.length
theorem findTo_yes {a : Nt} {xs : List Nt} {i : Nat} (h : fits a (gN xs i) = true) : findTo a xs (i + 1) = findTo a xs i ++ [(i : Int)] := by
  unfold findTo
  rw [List.range_succ, List.filter_append, List.map_append]
  simp [h]
theorem findTo_no {a : Nt} {xs : List Nt} {i : Nat} (h : fits a (gN xs i) = false) : findTo a xs (i + 1) = findTo a xs i := by
  unfold findTo
  rw [List.range_succ, List.filter_append, List.map_append]
  simp [h]
theorem findTo_len (a : Nt) (xs : List Nt) (i : Nat) : (findTo a xs i).length ≤ i := by
  unfold findTo
  rw [List.length_map]
  exact Nat.le_trans (List.length_filter_le _ _) (by simp)
theorem fits_b {tick kind who n : Int} {text : ByteArray} {x : Nt} {b : Bool} (h1 : tick ≤ x.tick) (h2 : x.tick ≤ kind) (h3 : who = -1 ∨ who = x.kind) (h4 : n = -1 ∨ n = x.who) (hb : hasB x.text text = b) : fits ⟨tick, kind, who, n, text⟩ x = b := by
  unfold fits
  simp only [hb]
  have e3 : (decide (who = -1) || decide (who = x.kind)) = true := by rcases h3 with h | h <;> simp [h]
  have e4 : (decide (n = -1) || decide (n = x.who)) = true := by rcases h4 with h | h <;> simp [h]
  rw [e3, e4]
  simp [h1, h2]
theorem fits_no {tick kind who n : Int} {text : ByteArray} {x : Nt} (h : ¬ (tick ≤ x.tick ∧ x.tick ≤ kind ∧ (who = -1 ∨ who = x.kind) ∧ (n = -1 ∨ n = x.who))) : fits ⟨tick, kind, who, n, text⟩ x = false := by
  cases hb : fits ⟨tick, kind, who, n, text⟩ x
  · rfl
  · exfalso
    apply h
    unfold fits at hb
    simp only [Bool.and_eq_true, Bool.or_eq_true, decide_eq_true_eq] at hb
    exact ⟨hb.1.1.1.1, hb.1.1.1.2, hb.1.1.2, hb.1.2⟩
theorem info3 : (Try.prog.info? 3).map (fun i => (i.zero, i.size, i.bytes)) = some (some (.int .i64 0), 1, 8) := by kernel_rfl
set_option maxHeartbeats 16000000 in
set_option maxRecDepth 100000 in
theorem implFind_c (A : Option Addr) (c : Nat) (xs : List Nt) (a : Nt) (w : World) (hx : rN.d.C w A xs.length xs) (ht : ∀ x ∈ xs, x.text.size < 4294967281) (ha : a.text.size < 4294967281) (hl : xs.length ≤ 1048576) (hm : HasMax w) :
    Calls Try.prog 33 #[.slice A xs.length c, vN a] w (GotRow rI 3 w (findL a xs)) := by
  suffices H : ∀ Q : Ending → World → Prop, (∀ e w', GotRow rI 3 w (findL a xs) e w' → Q e w') → Calls Try.prog 33 #[.slice A xs.length c, vN a] w Q from H _ (fun e w' h => h)
  intro Q hQ
  have HX := Aside0.mk hx; have HT := Aside0.mk ht; have HQ := Aside0.mk hQ; clear hx ht hQ; have HM := Aside0.mk hm; clear hm
  obtain ⟨tick, kind, who, n, text⟩ := a
  simp only [vN] at *
  go_enter Try.func33, Try.ntmps33
  go_upto_region 1 with (fail)
  generalize hw : w.alloc _ = w1
  have O := Aside0.mk ((Own.nil w).of hw); clear hw
  go_upto_region 2 with (fail)
  replace O := Aside0.mk (O.out.nilRow rI 3)
  go_wp2
  go_loopg [5, 10] xs.length (fun m vr vi wr => ∃ i : Nat, vi = .int .i64 i ∧ Aside0 (i ≤ xs.length ∧ xs.length - i ≤ m) ∧ Aside0 (Own w wr [Rs.row rI 3 vr (findTo ⟨tick, kind, who, n, text⟩ xs i), Rs.box w.heap.size 36 #[.int .i64 tick, .int .i64 kind, .int .i64 who, .int .i64 n, .string text]]))
  case atStart => exact ⟨0, rfl, ⟨by simp⟩, O⟩
  case round =>
    clear O
    obtain ⟨i, rfl, HI, O⟩ := hrel
    by_cases hi : i < xs.length
    · obtain ⟨ad, e1, a0, a1, a2, a3, a4⟩ := at_N (Kd.C_below HX.out O.out.bel) (i : Int) (by omega) (by omega)
      cases e1
      simp only [Int.toNat_natCast] at a0 a1 a2 a3 a4
      have htx : (gN xs i).text.size < 4294967281 := by rw [gN_eq (by omega)]; exact HT.out _ (List.getElem_mem _)
      obtain ⟨x, hxe⟩ : ∃ x, x = gN xs i := ⟨_, rfl⟩
      rw [← hxe] at a0 a1 a2 a3 a4 htx
      have HXE := Aside0.mk hxe; clear hxe
      go_upto_region 5 with (fail)
      generalize hw : wr.alloc _ = w2
      replace O := Aside0.mk (O.out.of hw); clear hw
      generalize wr.heap.size = g2 at O ⊢
      have b0 := (blk_cell O.out.b0 0).trans rfl; have b1 := (blk_cell O.out.b0 1).trans rfl; have b2 := (blk_cell O.out.b0 2).trans rfl; have b3 := (blk_cell O.out.b0 3).trans rfl; have b4 := (blk_cell O.out.b0 4).trans rfl
      have c0 := (blk_cell O.out.b2 0).trans rfl; have c1 := (blk_cell O.out.b2 1).trans rfl; have c2 := (blk_cell O.out.b2 2).trans rfl; have c3 := (blk_cell O.out.b2 3).trans rfl; have c4 := (blk_cell O.out.b2 4).trans rfl
      by_cases h1 : tick ≤ x.tick
      · by_cases h2 : x.tick ≤ kind
        · have H1 := Aside0.mk h1; have H2 := Aside0.mk h2
          by_cases h3 : who = -1
          · have HWH : Aside0 (who = -1 ∨ who = x.kind) := ⟨.inl h3⟩
            obtain ⟨E3, _⟩ := eqT h3; clear h3
            by_cases h5 : n = -1
            · have HNN : Aside0 (n = -1 ∨ n = x.who) := ⟨.inl h5⟩
              obtain ⟨E5, _⟩ := eqT h5; clear h5
              go_wp2_with fail
              refine (contains_c _ _ _ htx (HM.out.below O.out.bel)).mono ?_
              rintro e w3 ⟨rfl, rfl⟩
              generalize hb : hasB x.text text = b
              have HBQ := Aside0.mk hb; clear hb
              cases b with
              | true =>
                have HFY : Aside0 (fits ⟨tick, kind, who, n, text⟩ x = true) := ⟨fits_b (x := x) H1.out H2.out HWH.out HNN.out HBQ.out⟩
                clear a0 a1 a2 a3 a4 b0 b1 b2 b3 b4 c0 c1 c2 c3 c4
                replace O := Aside0.mk (O.out.p1.cel0 (r := rI) (cs := [.int .i64 i]) (x := (i : Int)) ⟨rfl, rfl⟩).p1
                go_upto_region 7 with (at_builtin; go_loud (refine Own.app_one rI rfl (.tmp 58) (.tmp 60) 28 3 (.int .i64 0) 8 rfl Try.underlying28 info3 rfl (by decide) (by decide) _ _ (i : Int) _ rfl rfl O.out (Nat.le_trans (Nat.mul_le_mul_right 8 (Nat.add_le_add_right (findTo_len ⟨tick, kind, who, n, text⟩ xs i) 1)) (by omega)) ?_); intro v5 w5 hX; have O5 := Aside0.mk hX; clear hX)
                clear O
                go_wp2
                go_roundg (gk - 1)
                case measure => have := HI.out; omega
                case rel => exact ⟨i + 1, by first | rfl | (congr 1; omega), ⟨by have := HI.out; omega⟩, ⟨by rw [findTo_yes (HXE.out ▸ HFY.out)]; exact O5.out.p1.drop⟩⟩
              | false =>
                have HFN : Aside0 (fits ⟨tick, kind, who, n, text⟩ x = false) := ⟨fits_b (x := x) H1.out H2.out HWH.out HNN.out HBQ.out⟩
                clear a0 a1 a2 a3 a4 b0 b1 b2 b3 b4 c0 c1 c2 c3 c4
                go_wp2
                go_roundg (gk - 1)
                case measure => have := HI.out; omega
                case rel => exact ⟨i + 1, by first | rfl | (congr 1; omega), ⟨by have := HI.out; omega⟩, ⟨by rw [findTo_no (HXE.out ▸ HFN.out)]; exact O.out.drop⟩⟩
            · by_cases h6 : n = x.who
              · have HNN : Aside0 (n = -1 ∨ n = x.who) := ⟨.inr h6⟩
                obtain ⟨E5, _⟩ := eqF h5; obtain ⟨E6, _⟩ := eqT h6; clear h5 h6
                go_wp2_with fail
                refine (contains_c _ _ _ htx (HM.out.below O.out.bel)).mono ?_
                rintro e w3 ⟨rfl, rfl⟩
                generalize hb : hasB x.text text = b
                have HBQ := Aside0.mk hb; clear hb
                cases b with
                | true =>
                  have HFY : Aside0 (fits ⟨tick, kind, who, n, text⟩ x = true) := ⟨fits_b (x := x) H1.out H2.out HWH.out HNN.out HBQ.out⟩
                  clear a0 a1 a2 a3 a4 b0 b1 b2 b3 b4 c0 c1 c2 c3 c4
                  replace O := Aside0.mk (O.out.p1.cel0 (r := rI) (cs := [.int .i64 i]) (x := (i : Int)) ⟨rfl, rfl⟩).p1
                  go_upto_region 7 with (at_builtin; go_loud (refine Own.app_one rI rfl (.tmp 58) (.tmp 60) 28 3 (.int .i64 0) 8 rfl Try.underlying28 info3 rfl (by decide) (by decide) _ _ (i : Int) _ rfl rfl O.out (Nat.le_trans (Nat.mul_le_mul_right 8 (Nat.add_le_add_right (findTo_len ⟨tick, kind, who, n, text⟩ xs i) 1)) (by omega)) ?_); intro v5 w5 hX; have O5 := Aside0.mk hX; clear hX)
                  clear O
                  go_wp2
                  go_roundg (gk - 1)
                  case measure => have := HI.out; omega
                  case rel => exact ⟨i + 1, by first | rfl | (congr 1; omega), ⟨by have := HI.out; omega⟩, ⟨by rw [findTo_yes (HXE.out ▸ HFY.out)]; exact O5.out.p1.drop⟩⟩
                | false =>
                  have HFN : Aside0 (fits ⟨tick, kind, who, n, text⟩ x = false) := ⟨fits_b (x := x) H1.out H2.out HWH.out HNN.out HBQ.out⟩
                  clear a0 a1 a2 a3 a4 b0 b1 b2 b3 b4 c0 c1 c2 c3 c4
                  go_wp2
                  go_roundg (gk - 1)
                  case measure => have := HI.out; omega
                  case rel => exact ⟨i + 1, by first | rfl | (congr 1; omega), ⟨by have := HI.out; omega⟩, ⟨by rw [findTo_no (HXE.out ▸ HFN.out)]; exact O.out.drop⟩⟩
              · have HNO : Aside0 (¬ (tick ≤ x.tick ∧ x.tick ≤ kind ∧ (who = -1 ∨ who = x.kind) ∧ (n = -1 ∨ n = x.who))) := ⟨by omega⟩
                obtain ⟨E5, _⟩ := eqF h5; obtain ⟨E6, _⟩ := eqF h6; clear h5 h6
                have HFN : Aside0 (fits ⟨tick, kind, who, n, text⟩ x = false) := ⟨fits_no HNO.out⟩
                go_wp2
                go_roundg (gk - 1)
                case measure => have := HI.out; omega
                case rel => exact ⟨i + 1, by first | rfl | (congr 1; omega), ⟨by have := HI.out; omega⟩, ⟨by rw [findTo_no (HXE.out ▸ HFN.out)]; exact O.out.drop⟩⟩
          · by_cases h4 : who = x.kind
            · have HWH : Aside0 (who = -1 ∨ who = x.kind) := ⟨.inr h4⟩
              obtain ⟨E3, _⟩ := eqF h3; obtain ⟨E4, _⟩ := eqT h4; clear h3 h4
              by_cases h5 : n = -1
              · have HNN : Aside0 (n = -1 ∨ n = x.who) := ⟨.inl h5⟩
                obtain ⟨E5, _⟩ := eqT h5; clear h5
                go_wp2_with fail
                refine (contains_c _ _ _ htx (HM.out.below O.out.bel)).mono ?_
                rintro e w3 ⟨rfl, rfl⟩
                generalize hb : hasB x.text text = b
                have HBQ := Aside0.mk hb; clear hb
                cases b with
                | true =>
                  have HFY : Aside0 (fits ⟨tick, kind, who, n, text⟩ x = true) := ⟨fits_b (x := x) H1.out H2.out HWH.out HNN.out HBQ.out⟩
                  clear a0 a1 a2 a3 a4 b0 b1 b2 b3 b4 c0 c1 c2 c3 c4
                  replace O := Aside0.mk (O.out.p1.cel0 (r := rI) (cs := [.int .i64 i]) (x := (i : Int)) ⟨rfl, rfl⟩).p1
                  go_upto_region 7 with (at_builtin; go_loud (refine Own.app_one rI rfl (.tmp 58) (.tmp 60) 28 3 (.int .i64 0) 8 rfl Try.underlying28 info3 rfl (by decide) (by decide) _ _ (i : Int) _ rfl rfl O.out (Nat.le_trans (Nat.mul_le_mul_right 8 (Nat.add_le_add_right (findTo_len ⟨tick, kind, who, n, text⟩ xs i) 1)) (by omega)) ?_); intro v5 w5 hX; have O5 := Aside0.mk hX; clear hX)
                  clear O
                  go_wp2
                  go_roundg (gk - 1)
                  case measure => have := HI.out; omega
                  case rel => exact ⟨i + 1, by first | rfl | (congr 1; omega), ⟨by have := HI.out; omega⟩, ⟨by rw [findTo_yes (HXE.out ▸ HFY.out)]; exact O5.out.p1.drop⟩⟩
                | false =>
                  have HFN : Aside0 (fits ⟨tick, kind, who, n, text⟩ x = false) := ⟨fits_b (x := x) H1.out H2.out HWH.out HNN.out HBQ.out⟩
                  clear a0 a1 a2 a3 a4 b0 b1 b2 b3 b4 c0 c1 c2 c3 c4
                  go_wp2
                  go_roundg (gk - 1)
                  case measure => have := HI.out; omega
                  case rel => exact ⟨i + 1, by first | rfl | (congr 1; omega), ⟨by have := HI.out; omega⟩, ⟨by rw [findTo_no (HXE.out ▸ HFN.out)]; exact O.out.drop⟩⟩
              · by_cases h6 : n = x.who
                · have HNN : Aside0 (n = -1 ∨ n = x.who) := ⟨.inr h6⟩
                  obtain ⟨E5, _⟩ := eqF h5; obtain ⟨E6, _⟩ := eqT h6; clear h5 h6
                  go_wp2_with fail
                  refine (contains_c _ _ _ htx (HM.out.below O.out.bel)).mono ?_
                  rintro e w3 ⟨rfl, rfl⟩
                  generalize hb : hasB x.text text = b
                  have HBQ := Aside0.mk hb; clear hb
                  cases b with
                  | true =>
                    have HFY : Aside0 (fits ⟨tick, kind, who, n, text⟩ x = true) := ⟨fits_b (x := x) H1.out H2.out HWH.out HNN.out HBQ.out⟩
                    clear a0 a1 a2 a3 a4 b0 b1 b2 b3 b4 c0 c1 c2 c3 c4
                    replace O := Aside0.mk (O.out.p1.cel0 (r := rI) (cs := [.int .i64 i]) (x := (i : Int)) ⟨rfl, rfl⟩).p1
                    go_upto_region 7 with (at_builtin; go_loud (refine Own.app_one rI rfl (.tmp 58) (.tmp 60) 28 3 (.int .i64 0) 8 rfl Try.underlying28 info3 rfl (by decide) (by decide) _ _ (i : Int) _ rfl rfl O.out (Nat.le_trans (Nat.mul_le_mul_right 8 (Nat.add_le_add_right (findTo_len ⟨tick, kind, who, n, text⟩ xs i) 1)) (by omega)) ?_); intro v5 w5 hX; have O5 := Aside0.mk hX; clear hX)
                    clear O
                    go_wp2
                    go_roundg (gk - 1)
                    case measure => have := HI.out; omega
                    case rel => exact ⟨i + 1, by first | rfl | (congr 1; omega), ⟨by have := HI.out; omega⟩, ⟨by rw [findTo_yes (HXE.out ▸ HFY.out)]; exact O5.out.p1.drop⟩⟩
                  | false =>
                    have HFN : Aside0 (fits ⟨tick, kind, who, n, text⟩ x = false) := ⟨fits_b (x := x) H1.out H2.out HWH.out HNN.out HBQ.out⟩
                    clear a0 a1 a2 a3 a4 b0 b1 b2 b3 b4 c0 c1 c2 c3 c4
                    go_wp2
                    go_roundg (gk - 1)
                    case measure => have := HI.out; omega
                    case rel => exact ⟨i + 1, by first | rfl | (congr 1; omega), ⟨by have := HI.out; omega⟩, ⟨by rw [findTo_no (HXE.out ▸ HFN.out)]; exact O.out.drop⟩⟩
                · have HNO : Aside0 (¬ (tick ≤ x.tick ∧ x.tick ≤ kind ∧ (who = -1 ∨ who = x.kind) ∧ (n = -1 ∨ n = x.who))) := ⟨by omega⟩
                  obtain ⟨E5, _⟩ := eqF h5; obtain ⟨E6, _⟩ := eqF h6; clear h5 h6
                  have HFN : Aside0 (fits ⟨tick, kind, who, n, text⟩ x = false) := ⟨fits_no HNO.out⟩
                  go_wp2
                  go_roundg (gk - 1)
                  case measure => have := HI.out; omega
                  case rel => exact ⟨i + 1, by first | rfl | (congr 1; omega), ⟨by have := HI.out; omega⟩, ⟨by rw [findTo_no (HXE.out ▸ HFN.out)]; exact O.out.drop⟩⟩
            · have HNO : Aside0 (¬ (tick ≤ x.tick ∧ x.tick ≤ kind ∧ (who = -1 ∨ who = x.kind) ∧ (n = -1 ∨ n = x.who))) := ⟨by omega⟩
              obtain ⟨E3, _⟩ := eqF h3; obtain ⟨E4, _⟩ := eqF h4; clear h3 h4
              have HFN : Aside0 (fits ⟨tick, kind, who, n, text⟩ x = false) := ⟨fits_no HNO.out⟩
              go_wp2
              go_roundg (gk - 1)
              case measure => have := HI.out; omega
              case rel => exact ⟨i + 1, by first | rfl | (congr 1; omega), ⟨by have := HI.out; omega⟩, ⟨by rw [findTo_no (HXE.out ▸ HFN.out)]; exact O.out.drop⟩⟩
        · have HNO : Aside0 (¬ (tick ≤ x.tick ∧ x.tick ≤ kind ∧ (who = -1 ∨ who = x.kind) ∧ (n = -1 ∨ n = x.who))) := ⟨by omega⟩
          have HFN : Aside0 (fits ⟨tick, kind, who, n, text⟩ x = false) := ⟨fits_no HNO.out⟩
          go_wp2
          go_roundg (gk - 1)
          case measure => have := HI.out; omega
          case rel => exact ⟨i + 1, by first | rfl | (congr 1; omega), ⟨by have := HI.out; omega⟩, ⟨by rw [findTo_no (HXE.out ▸ HFN.out)]; exact O.out.drop⟩⟩
      · have HNO : Aside0 (¬ (tick ≤ x.tick ∧ x.tick ≤ kind ∧ (who = -1 ∨ who = x.kind) ∧ (n = -1 ∨ n = x.who))) := ⟨by omega⟩
        have HFN : Aside0 (fits ⟨tick, kind, who, n, text⟩ x = false) := ⟨fits_no HNO.out⟩
        go_wp2
        go_roundg (gk - 1)
        case measure => have := HI.out; omega
        case rel => exact ⟨i + 1, by first | rfl | (congr 1; omega), ⟨by have := HI.out; omega⟩, ⟨by rw [findTo_no (HXE.out ▸ HFN.out)]; exact O.out.drop⟩⟩
    · have h9 : i = xs.length := by have := HI.out; omega
      have HI9 := Aside0.mk h9; clear h9
      go_wp2
      obtain ⟨f, hf, hn, hl2, hc⟩ := O.out.take
      rw [HI9.out] at hf
      exact HQ.out _ _ ⟨_, rfl, ⟨f, hf, hn, hl2⟩, O.out.bel⟩
end Go.Proofs.Ytocdlibnmlcokaa
namespace Go.Proofs.Ytocdlibnmlcokaa
open Go.RowKit Go.Proofs.YtocdlibnmlcokaaW.PrintWords Go.Proofs.YtocdlibnmlcokaaW.PrintLast
set_option linter.unusedVariables false
set_option linter.unusedSimpArgs false
set_option maxHeartbeats 16000000 in
set_option maxRecDepth 100000 in
theorem specFind_c (A : Option Addr) (c : Nat) (xs : List Nt) (a : Nt) (w : World) (hx : rN.d.C w A xs.length xs) (ht : ∀ x ∈ xs, x.text.size < 4294967281) (ha : a.text.size < 4294967281) (hl : xs.length ≤ 1048576) :
    Calls Try.prog 34 #[.slice A xs.length c, vN a] w (GotRow rI 3 w (findL a xs)) := by
  suffices H : ∀ Q : Ending → World → Prop, (∀ e w', GotRow rI 3 w (findL a xs) e w' → Q e w') → Calls Try.prog 34 #[.slice A xs.length c, vN a] w Q from H _ (fun e w' h => h)
  intro Q hQ
  have HX := Aside0.mk hx; have HT := Aside0.mk ht; have HQ := Aside0.mk hQ; clear hx ht hQ
  obtain ⟨tick, kind, who, n, text⟩ := a
  simp only [vN] at *
  go_enter Try.func34, Try.ntmps34
  go_upto_region 1 with (fail)
  generalize hw : w.alloc _ = w1
  have O := Aside0.mk ((Own.nil w).of hw); clear hw
  go_upto_region 2 with (fail)
  replace O := Aside0.mk (O.out.nilRow rI 3)
  go_wp2
  go_loopg [5, 10] xs.length (fun m vr vi wr => ∃ i : Nat, vi = .int .i64 i ∧ Aside0 (i ≤ xs.length ∧ xs.length - i ≤ m) ∧ Aside0 (Own w wr [Rs.row rI 3 vr (findTo ⟨tick, kind, who, n, text⟩ xs i), Rs.box w.heap.size 36 #[.int .i64 tick, .int .i64 kind, .int .i64 who, .int .i64 n, .string text]]))
  case atStart => exact ⟨0, rfl, ⟨by simp⟩, O⟩
  case round =>
    clear O
    obtain ⟨i, rfl, HI, O⟩ := hrel
    by_cases hi : i < xs.length
    · obtain ⟨ad, e1, a0, a1, a2, a3, a4⟩ := at_N (Kd.C_below HX.out O.out.bel) (i : Int) (by omega) (by omega)
      cases e1
      simp only [Int.toNat_natCast] at a0 a1 a2 a3 a4
      have htx : (gN xs i).text.size < 4294967281 := by rw [gN_eq (by omega)]; exact HT.out _ (List.getElem_mem _)
      obtain ⟨x, hxe⟩ : ∃ x, x = gN xs i := ⟨_, rfl⟩
      rw [← hxe] at a0 a1 a2 a3 a4 htx
      have HXE := Aside0.mk hxe; clear hxe
      go_upto_region 5 with (fail)
      generalize hw : wr.alloc _ = w2
      replace O := Aside0.mk (O.out.of hw); clear hw
      generalize wr.heap.size = g2 at O ⊢
      have b0 := (blk_cell O.out.b0 0).trans rfl; have b1 := (blk_cell O.out.b0 1).trans rfl; have b2 := (blk_cell O.out.b0 2).trans rfl; have b3 := (blk_cell O.out.b0 3).trans rfl; have b4 := (blk_cell O.out.b0 4).trans rfl
      have c0 := (blk_cell O.out.b2 0).trans rfl; have c1 := (blk_cell O.out.b2 1).trans rfl; have c2 := (blk_cell O.out.b2 2).trans rfl; have c3 := (blk_cell O.out.b2 3).trans rfl; have c4 := (blk_cell O.out.b2 4).trans rfl
      by_cases h1 : tick ≤ x.tick
      · by_cases h2 : x.tick ≤ kind
        · have H1 := Aside0.mk h1; have H2 := Aside0.mk h2
          by_cases h3 : who = -1
          · have HWH : Aside0 (who = -1 ∨ who = x.kind) := ⟨.inl h3⟩
            obtain ⟨E3, _⟩ := eqT h3; clear h3
            by_cases h5 : n = -1
            · have HNN : Aside0 (n = -1 ∨ n = x.who) := ⟨.inl h5⟩
              obtain ⟨E5, _⟩ := eqT h5; clear h5
              go_wp2_with fail
              refine (l4has_c _ _ _ htx ha).mono ?_
              rintro e w3 ⟨rfl, rfl⟩
              generalize hb : hasB x.text text = b
              have HBQ := Aside0.mk hb; clear hb
              cases b with
              | true =>
                have HFY : Aside0 (fits ⟨tick, kind, who, n, text⟩ x = true) := ⟨fits_b (x := x) H1.out H2.out HWH.out HNN.out HBQ.out⟩
                clear a0 a1 a2 a3 a4 b0 b1 b2 b3 b4 c0 c1 c2 c3 c4
                replace O := Aside0.mk (O.out.p1.cel0 (r := rI) (cs := [.int .i64 i]) (x := (i : Int)) ⟨rfl, rfl⟩).p1
                go_upto_region 7 with (at_builtin; go_loud (refine Own.app_one rI rfl (.tmp 58) (.tmp 60) 28 3 (.int .i64 0) 8 rfl Try.underlying28 info3 rfl (by decide) (by decide) _ _ (i : Int) _ rfl rfl O.out (Nat.le_trans (Nat.mul_le_mul_right 8 (Nat.add_le_add_right (findTo_len ⟨tick, kind, who, n, text⟩ xs i) 1)) (by omega)) ?_); intro v5 w5 hX; have O5 := Aside0.mk hX; clear hX)
                clear O
                go_wp2
                go_roundg (gk - 1)
                case measure => have := HI.out; omega
                case rel => exact ⟨i + 1, by first | rfl | (congr 1; omega), ⟨by have := HI.out; omega⟩, ⟨by rw [findTo_yes (HXE.out ▸ HFY.out)]; exact O5.out.p1.drop⟩⟩
              | false =>
                have HFN : Aside0 (fits ⟨tick, kind, who, n, text⟩ x = false) := ⟨fits_b (x := x) H1.out H2.out HWH.out HNN.out HBQ.out⟩
                clear a0 a1 a2 a3 a4 b0 b1 b2 b3 b4 c0 c1 c2 c3 c4
                go_wp2
                go_roundg (gk - 1)
                case measure => have := HI.out; omega
                case rel => exact ⟨i + 1, by first | rfl | (congr 1; omega), ⟨by have := HI.out; omega⟩, ⟨by rw [findTo_no (HXE.out ▸ HFN.out)]; exact O.out.drop⟩⟩
            · by_cases h6 : n = x.who
              · have HNN : Aside0 (n = -1 ∨ n = x.who) := ⟨.inr h6⟩
                obtain ⟨E5, _⟩ := eqF h5; obtain ⟨E6, _⟩ := eqT h6; clear h5 h6
                go_wp2_with fail
                refine (l4has_c _ _ _ htx ha).mono ?_
                rintro e w3 ⟨rfl, rfl⟩
                generalize hb : hasB x.text text = b
                have HBQ := Aside0.mk hb; clear hb
                cases b with
                | true =>
                  have HFY : Aside0 (fits ⟨tick, kind, who, n, text⟩ x = true) := ⟨fits_b (x := x) H1.out H2.out HWH.out HNN.out HBQ.out⟩
                  clear a0 a1 a2 a3 a4 b0 b1 b2 b3 b4 c0 c1 c2 c3 c4
                  replace O := Aside0.mk (O.out.p1.cel0 (r := rI) (cs := [.int .i64 i]) (x := (i : Int)) ⟨rfl, rfl⟩).p1
                  go_upto_region 7 with (at_builtin; go_loud (refine Own.app_one rI rfl (.tmp 58) (.tmp 60) 28 3 (.int .i64 0) 8 rfl Try.underlying28 info3 rfl (by decide) (by decide) _ _ (i : Int) _ rfl rfl O.out (Nat.le_trans (Nat.mul_le_mul_right 8 (Nat.add_le_add_right (findTo_len ⟨tick, kind, who, n, text⟩ xs i) 1)) (by omega)) ?_); intro v5 w5 hX; have O5 := Aside0.mk hX; clear hX)
                  clear O
                  go_wp2
                  go_roundg (gk - 1)
                  case measure => have := HI.out; omega
                  case rel => exact ⟨i + 1, by first | rfl | (congr 1; omega), ⟨by have := HI.out; omega⟩, ⟨by rw [findTo_yes (HXE.out ▸ HFY.out)]; exact O5.out.p1.drop⟩⟩
                | false =>
                  have HFN : Aside0 (fits ⟨tick, kind, who, n, text⟩ x = false) := ⟨fits_b (x := x) H1.out H2.out HWH.out HNN.out HBQ.out⟩
                  clear a0 a1 a2 a3 a4 b0 b1 b2 b3 b4 c0 c1 c2 c3 c4
                  go_wp2
                  go_roundg (gk - 1)
                  case measure => have := HI.out; omega
                  case rel => exact ⟨i + 1, by first | rfl | (congr 1; omega), ⟨by have := HI.out; omega⟩, ⟨by rw [findTo_no (HXE.out ▸ HFN.out)]; exact O.out.drop⟩⟩
              · have HNO : Aside0 (¬ (tick ≤ x.tick ∧ x.tick ≤ kind ∧ (who = -1 ∨ who = x.kind) ∧ (n = -1 ∨ n = x.who))) := ⟨by omega⟩
                obtain ⟨E5, _⟩ := eqF h5; obtain ⟨E6, _⟩ := eqF h6; clear h5 h6
                have HFN : Aside0 (fits ⟨tick, kind, who, n, text⟩ x = false) := ⟨fits_no HNO.out⟩
                go_wp2
                go_roundg (gk - 1)
                case measure => have := HI.out; omega
                case rel => exact ⟨i + 1, by first | rfl | (congr 1; omega), ⟨by have := HI.out; omega⟩, ⟨by rw [findTo_no (HXE.out ▸ HFN.out)]; exact O.out.drop⟩⟩
          · by_cases h4 : who = x.kind
            · have HWH : Aside0 (who = -1 ∨ who = x.kind) := ⟨.inr h4⟩
              obtain ⟨E3, _⟩ := eqF h3; obtain ⟨E4, _⟩ := eqT h4; clear h3 h4
              by_cases h5 : n = -1
              · have HNN : Aside0 (n = -1 ∨ n = x.who) := ⟨.inl h5⟩
                obtain ⟨E5, _⟩ := eqT h5; clear h5
                go_wp2_with fail
                refine (l4has_c _ _ _ htx ha).mono ?_
                rintro e w3 ⟨rfl, rfl⟩
                generalize hb : hasB x.text text = b
                have HBQ := Aside0.mk hb; clear hb
                cases b with
                | true =>
                  have HFY : Aside0 (fits ⟨tick, kind, who, n, text⟩ x = true) := ⟨fits_b (x := x) H1.out H2.out HWH.out HNN.out HBQ.out⟩
                  clear a0 a1 a2 a3 a4 b0 b1 b2 b3 b4 c0 c1 c2 c3 c4
                  replace O := Aside0.mk (O.out.p1.cel0 (r := rI) (cs := [.int .i64 i]) (x := (i : Int)) ⟨rfl, rfl⟩).p1
                  go_upto_region 7 with (at_builtin; go_loud (refine Own.app_one rI rfl (.tmp 58) (.tmp 60) 28 3 (.int .i64 0) 8 rfl Try.underlying28 info3 rfl (by decide) (by decide) _ _ (i : Int) _ rfl rfl O.out (Nat.le_trans (Nat.mul_le_mul_right 8 (Nat.add_le_add_right (findTo_len ⟨tick, kind, who, n, text⟩ xs i) 1)) (by omega)) ?_); intro v5 w5 hX; have O5 := Aside0.mk hX; clear hX)
                  clear O
                  go_wp2
                  go_roundg (gk - 1)
                  case measure => have := HI.out; omega
                  case rel => exact ⟨i + 1, by first | rfl | (congr 1; omega), ⟨by have := HI.out; omega⟩, ⟨by rw [findTo_yes (HXE.out ▸ HFY.out)]; exact O5.out.p1.drop⟩⟩
                | false =>
                  have HFN : Aside0 (fits ⟨tick, kind, who, n, text⟩ x = false) := ⟨fits_b (x := x) H1.out H2.out HWH.out HNN.out HBQ.out⟩
                  clear a0 a1 a2 a3 a4 b0 b1 b2 b3 b4 c0 c1 c2 c3 c4
                  go_wp2
                  go_roundg (gk - 1)
                  case measure => have := HI.out; omega
                  case rel => exact ⟨i + 1, by first | rfl | (congr 1; omega), ⟨by have := HI.out; omega⟩, ⟨by rw [findTo_no (HXE.out ▸ HFN.out)]; exact O.out.drop⟩⟩
              · by_cases h6 : n = x.who
                · have HNN : Aside0 (n = -1 ∨ n = x.who) := ⟨.inr h6⟩
                  obtain ⟨E5, _⟩ := eqF h5; obtain ⟨E6, _⟩ := eqT h6; clear h5 h6
                  go_wp2_with fail
                  refine (l4has_c _ _ _ htx ha).mono ?_
                  rintro e w3 ⟨rfl, rfl⟩
                  generalize hb : hasB x.text text = b
                  have HBQ := Aside0.mk hb; clear hb
                  cases b with
                  | true =>
                    have HFY : Aside0 (fits ⟨tick, kind, who, n, text⟩ x = true) := ⟨fits_b (x := x) H1.out H2.out HWH.out HNN.out HBQ.out⟩
                    clear a0 a1 a2 a3 a4 b0 b1 b2 b3 b4 c0 c1 c2 c3 c4
                    replace O := Aside0.mk (O.out.p1.cel0 (r := rI) (cs := [.int .i64 i]) (x := (i : Int)) ⟨rfl, rfl⟩).p1
                    go_upto_region 7 with (at_builtin; go_loud (refine Own.app_one rI rfl (.tmp 58) (.tmp 60) 28 3 (.int .i64 0) 8 rfl Try.underlying28 info3 rfl (by decide) (by decide) _ _ (i : Int) _ rfl rfl O.out (Nat.le_trans (Nat.mul_le_mul_right 8 (Nat.add_le_add_right (findTo_len ⟨tick, kind, who, n, text⟩ xs i) 1)) (by omega)) ?_); intro v5 w5 hX; have O5 := Aside0.mk hX; clear hX)
                    clear O
                    go_wp2
                    go_roundg (gk - 1)
                    case measure => have := HI.out; omega
                    case rel => exact ⟨i + 1, by first | rfl | (congr 1; omega), ⟨by have := HI.out; omega⟩, ⟨by rw [findTo_yes (HXE.out ▸ HFY.out)]; exact O5.out.p1.drop⟩⟩
                  | false =>
                    have HFN : Aside0 (fits ⟨tick, kind, who, n, text⟩ x = false) := ⟨fits_b (x := x) H1.out H2.out HWH.out HNN.out HBQ.out⟩
                    clear a0 a1 a2 a3 a4 b0 b1 b2 b3 b4 c0 c1 c2 c3 c4
                    go_wp2
                    go_roundg (gk - 1)
                    case measure => have := HI.out; omega
                    case rel => exact ⟨i + 1, by first | rfl | (congr 1; omega), ⟨by have := HI.out; omega⟩, ⟨by rw [findTo_no (HXE.out ▸ HFN.out)]; exact O.out.drop⟩⟩
                · have HNO : Aside0 (¬ (tick ≤ x.tick ∧ x.tick ≤ kind ∧ (who = -1 ∨ who = x.kind) ∧ (n = -1 ∨ n = x.who))) := ⟨by omega⟩
                  obtain ⟨E5, _⟩ := eqF h5; obtain ⟨E6, _⟩ := eqF h6; clear h5 h6
                  have HFN : Aside0 (fits ⟨tick, kind, who, n, text⟩ x = false) := ⟨fits_no HNO.out⟩
                  go_wp2
                  go_roundg (gk - 1)
                  case measure => have := HI.out; omega
                  case rel => exact ⟨i + 1, by first | rfl | (congr 1; omega), ⟨by have := HI.out; omega⟩, ⟨by rw [findTo_no (HXE.out ▸ HFN.out)]; exact O.out.drop⟩⟩
            · have HNO : Aside0 (¬ (tick ≤ x.tick ∧ x.tick ≤ kind ∧ (who = -1 ∨ who = x.kind) ∧ (n = -1 ∨ n = x.who))) := ⟨by omega⟩
              obtain ⟨E3, _⟩ := eqF h3; obtain ⟨E4, _⟩ := eqF h4; clear h3 h4
              have HFN : Aside0 (fits ⟨tick, kind, who, n, text⟩ x = false) := ⟨fits_no HNO.out⟩
              go_wp2
              go_roundg (gk - 1)
              case measure => have := HI.out; omega
              case rel => exact ⟨i + 1, by first | rfl | (congr 1; omega), ⟨by have := HI.out; omega⟩, ⟨by rw [findTo_no (HXE.out ▸ HFN.out)]; exact O.out.drop⟩⟩
        · have HNO : Aside0 (¬ (tick ≤ x.tick ∧ x.tick ≤ kind ∧ (who = -1 ∨ who = x.kind) ∧ (n = -1 ∨ n = x.who))) := ⟨by omega⟩
          have HFN : Aside0 (fits ⟨tick, kind, who, n, text⟩ x = false) := ⟨fits_no HNO.out⟩
          go_wp2
          go_roundg (gk - 1)
          case measure => have := HI.out; omega
          case rel => exact ⟨i + 1, by first | rfl | (congr 1; omega), ⟨by have := HI.out; omega⟩, ⟨by rw [findTo_no (HXE.out ▸ HFN.out)]; exact O.out.drop⟩⟩
      · have HNO : Aside0 (¬ (tick ≤ x.tick ∧ x.tick ≤ kind ∧ (who = -1 ∨ who = x.kind) ∧ (n = -1 ∨ n = x.who))) := ⟨by omega⟩
        have HFN : Aside0 (fits ⟨tick, kind, who, n, text⟩ x = false) := ⟨fits_no HNO.out⟩
        go_wp2
        go_roundg (gk - 1)
        case measure => have := HI.out; omega
        case rel => exact ⟨i + 1, by first | rfl | (congr 1; omega), ⟨by have := HI.out; omega⟩, ⟨by rw [findTo_no (HXE.out ▸ HFN.out)]; exact O.out.drop⟩⟩
    · have h9 : i = xs.length := by have := HI.out; omega
      have HI9 := Aside0.mk h9; clear h9
      go_wp2
      obtain ⟨f, hf, hn, hl2, hc⟩ := O.out.take
      rw [HI9.out] at hf
      exact HQ.out _ _ ⟨_, rfl, ⟨f, hf, hn, hl2⟩, O.out.bel⟩
end Go.Proofs.Ytocdlibnmlcokaa
