/- What a machine, a block, a fact that came in are, in cells. -/
import Derived.Test.YtdlgkmnloijnbaaC1Qx0
import Derived.WalkKit
import Derived.ProofKit
import Derived.OpenShut
import Derived.SizedLaws
import Derived.Deep.Slices
import Derived.Deep.Fields
import Derived.ChangeSame
import Derived.ChangeArms
set_option linter.unusedVariables false
set_option linter.unusedSimpArgs false
namespace Go.Proofs.Ytdlgkmnloijnbaa.Q
open Go.RowKit Go.ChangeShapes Go.WideShapes Go.Deep Go.Proofs.YtdlgkmnloijnbaaW.PrintWords Go.Proofs.YtdlgkmnloijnbaaW.PrintLast Go.Proofs.YtdlgkmnloijnbaaW.PrintMore
section
variable {H : Type} {enc : TypeId × Value → H} {w : World} {base : Nat} {spare : Nat → Bool} {held : Bool}
/-- A datum is within the reach. -/
def Small (t : TypeId) (d : DataW H) : Prop := ∀ n ∈ d.weights Try.prog t, n ≤ reachBytes
theorem weights_all {e : TypeId} : ∀ {l : List (DataW H)} {d : DataW H}, d ∈ l → ∀ n ∈ d.weights Try.prog e, n ∈ DataW.weightsAll Try.prog e l
 | x :: l, d, hd, n, hn => by
  simp only [DataW.weightsAll, List.mem_append]
  rcases List.mem_cons.1 hd with rfl | hd
  ·exact .inl hn
  ·exact .inr (weights_all hd n hn)
def Opens (enc : TypeId × Value → H) (w : World) (base : Nat) (spare : Nat → Bool) (held : Bool) {α : Type} (t : TypeId) (d : Kd α) (ok : α → Prop) : Prop :=
 ∀ {fuel : Nat} {cs : List Value} {x : DataW H × List MemPlace}, DataW.trod enc Try.prog w base spare held fuel t cs = some x → Small t x.1 → ∃ a, d.K w a cs ∧ ok a
theorem opens_int {t : TypeId} (h : Try.prog.underlying t = some (.int .i64)) : Opens enc w base spare held t (Kd.int .i64) (fun _ => True) := by
 intro fuel cs x h1 _
 obtain ⟨n, rfl, _, _⟩ := DataW.trod_int h h1
 exact ⟨n, rfl, trivial⟩
theorem build_list {α : Type} {Q : Nat → α → Prop} : ∀ len, (∀ i, i < len → ∃ x, Q i x) → ∃ xs : List α, xs.length = len ∧ ∀ i x, xs[i]? = some x → Q i x
 | 0, _ => ⟨[], rfl, fun i x h => by simp at h⟩
 | len + 1, h => by
  obtain ⟨xs, hl, hx⟩ := build_list len (fun i hi => h i (by omega))
  obtain ⟨x, hq⟩ := h len (by omega)
  refine ⟨xs ++ [x], by simp [hl], fun i y hy => ?_⟩
  rcases Nat.lt_or_ge i xs.length with hi | hi
  ·rw [List.getElem?_append_left hi] at hy
   exact hx i y hy
  ·rw [List.getElem?_append_right hi] at hy
   have h0 : i - xs.length = 0 := by
    rcases Nat.eq_zero_or_pos (i - xs.length) with h0 | h0
    ·exact h0
    ·rw [List.getElem?_eq_none (by simp only [List.length_cons, List.length_nil]; omega)] at hy; cases hy
   rw [h0] at hy
   obtain rfl : x = y := by simpa using hy
   rw [show i = len by omega]
   exact hq
theorem opens_slice {α : Type} {t e : TypeId} {d : Kd α} {ok : α → Prop} (hu : Try.prog.underlying t = some (.slice e)) (hsz : Try.prog.cellsOf e = d.sz) (hb : 8 ≤ Try.prog.bytesOf e) (ho : Opens enc w base spare held e d ok) :
  Opens enc w base spare held t (Kd.slice e d) (fun l => l.length ≤ 17592186044416 ∧ ∀ x ∈ l, ok x) := by
 intro fuel cs x h1 hw
 rcases open_slice hu h1 with ⟨rfl, rfl⟩ | ⟨a, len, cap, m, n, D, Pl, rfl, hbs, hl, hm, hmm, rfl, hi⟩
 ·exact ⟨[], ⟨none, 0, rfl, by simp, Kd.C_nil _ _⟩, by simp, by simp⟩
 ·have hlm : len ≤ m := by rw [hmm]; split <;> omega
  have hwl : ∀ n ∈ (((List.range len).map D).length + ((List.range (m - len)).map fun j => D (len + j)).length) * Try.prog.bytesOf e :: (DataW.weightsAll Try.prog e ((List.range len).map D) ++ DataW.weightsAll Try.prog e ((List.range (m - len)).map fun j => D (len + j))), n ≤ reachBytes := by
   intro n hn
   refine hw n ?_
   simp only [DataW.weights, hu]
   exact hn
  have h0 := hwl _ (List.mem_cons_self)
  have hlen : len ≤ 17592186044416 := by
   simp only [List.length_map, List.length_range] at h0
   have h2 : len * 8 ≤ (len + (m - len)) * Try.prog.bytesOf e := Nat.mul_le_mul (by omega) hb
   have h3 : len * 8 ≤ 140737488351232 := Nat.le_trans h2 h0
   omega
  obtain ⟨xs, hxl, hx⟩ := build_list (Q := fun i (x : α) => ∃ cs', w.cells? base (a.add (i * Try.prog.cellsOf e)) (Try.prog.cellsOf e) = some cs' ∧ d.K w x cs' ∧ ok x) len (fun i hil => by
   obtain ⟨cs', hc, ht⟩ := hi i (by omega)
   obtain ⟨b, hk, hok⟩ := ho ht (fun n hn => hwl n (List.mem_cons_of_mem _ (List.mem_append_left _ (weights_all (List.mem_map.2 ⟨i, List.mem_range.2 hil, rfl⟩) n hn))))
   exact ⟨b, cs', hc, hk, hok⟩)
  refine ⟨xs, ⟨some a, cap, by rw [hxl], by omega, rfl, by rw [hxl]; omega, fun _ => ⟨a, rfl, fun j p hj => ?_⟩⟩, by omega, fun x hxm => ?_⟩
  ·obtain ⟨cs', hc, hk, _⟩ := hx j p hj
   obtain ⟨_, hcl, hat⟩ := World.cells?_some hc
   refine ⟨cs', hcl.trans hsz, hk, fun i u hu => ?_⟩
   have hil : i < Try.prog.cellsOf e := by rw [← hcl]; exact (List.getElem?_eq_some_iff.1 hu).1
   have h4 := hat i hil
   rw [← hu, ← h4, hsz, Go.Deep.add_add]
  ·obtain ⟨i, hi2⟩ := List.mem_iff_getElem?.1 hxm
   obtain ⟨_, _, _, hok⟩ := hx i x hi2
   exact hok
theorem opens_ints {t : TypeId} (hu : Try.prog.underlying t = some (.slice 3)) : Opens enc w base spare held t (Kd.slice 3 (Kd.int .i64)) (fun l => l.length ≤ 17592186044416 ∧ ∀ x ∈ l, True) :=
 opens_slice hu (by kernel_rfl) (of_decide_eq_true (by kernel_rfl)) (opens_int Try.underlying3)
theorem int_cell {n : Nat} {t : TypeId} {c : Value} {y : DataW H × List MemPlace} (hu : Try.prog.underlying t = some (.int .i64)) (h : DataW.trod enc Try.prog w base spare held n t [c] = some y) : ∃ i, c = .int .i64 i := by
 obtain ⟨i, hc, _, _⟩ := DataW.trod_int hu h
 exact ⟨i, by simpa using hc⟩
set_option maxRecDepth 100000 in
theorem opens_56 : Opens enc w base spare held 56 k56 (fun x => x.f6.length ≤ 17592186044416) := by
 intro fuel cs x h1 hw
 obtain ⟨xs, n, _, rfl, hl, hlen, hf⟩ := DataW.trod_struct Try.underlying56 h1
 have k3 : Try.prog.cellsOf 3 = 1 := by kernel_rfl
 have k54 : Try.prog.cellsOf 54 = 1 := by kernel_rfl
 have k22 : Try.prog.cellsOf 22 = 1 := by kernel_rfl
 have hl8 : cs.length = 8 := hl.trans (by kernel_rfl)
 match cs, hl8, xs, hlen with
 | [c0, c1, c2, c3, c4, c5, c6, c7], _, [y0, y1, y2, y3, y4, y5, y6, y7], _ =>
  obtain ⟨i0, rfl⟩ := int_cell (enc := enc) (w := w) (base := base) (spare := spare) (held := held) (n := n) (c := c0) (y := y0) Try.underlying54 (by have := hf 0 _ rfl; simpa [k54] using this)
  obtain ⟨i1, rfl⟩ := int_cell (enc := enc) (w := w) (base := base) (spare := spare) (held := held) (n := n) (c := c1) (y := y1) Try.underlying3 (by have := hf 1 _ rfl; simpa [k3] using this)
  obtain ⟨i2, rfl⟩ := int_cell (enc := enc) (w := w) (base := base) (spare := spare) (held := held) (n := n) (c := c2) (y := y2) Try.underlying3 (by have := hf 2 _ rfl; simpa [k3] using this)
  obtain ⟨i3, rfl⟩ := int_cell (enc := enc) (w := w) (base := base) (spare := spare) (held := held) (n := n) (c := c3) (y := y3) Try.underlying3 (by have := hf 3 _ rfl; simpa [k3] using this)
  obtain ⟨i4, rfl⟩ := int_cell (enc := enc) (w := w) (base := base) (spare := spare) (held := held) (n := n) (c := c4) (y := y4) Try.underlying3 (by have := hf 4 _ rfl; simpa [k3] using this)
  obtain ⟨i5, rfl⟩ := int_cell (enc := enc) (w := w) (base := base) (spare := spare) (held := held) (n := n) (c := c5) (y := y5) Try.underlying3 (by have := hf 5 _ rfl; simpa [k3] using this)
  obtain ⟨i7, rfl⟩ := int_cell (enc := enc) (w := w) (base := base) (spare := spare) (held := held) (n := n) (c := c7) (y := y7) Try.underlying3 (by have := hf 7 _ rfl; simpa [k3] using this)
  have e6 : DataW.trod enc Try.prog w base spare held n 22 [c6] = some y6 := by have := hf 6 _ rfl; simpa [k22] using this
  obtain ⟨l6, ⟨A6, c6', hc, hl6, hC6⟩, hk6⟩ := opens_ints Try.underlying22 e6 (fun m hm => hw m (by
   simp only [DataW.weights, Try.underlying56]
   exact DataW.weights_mem_each (j := 6) (t := 22) (d := y6.1) rfl rfl m hm))
  obtain rfl : c6 = _ := by simpa using hc
  exact ⟨⟨i0, i1, i2, i3, i4, i5, l6, i7⟩, k56_mk w ⟨i0, i1, i2, i3, i4, i5, l6, i7⟩ hl6 hC6, hk6.1⟩
set_option maxRecDepth 100000 in
theorem open_m {fuel : Nat} {cs : List Value} {x : DataW H × List MemPlace} (h1 : DataW.trod enc Try.prog w base spare held fuel 24 cs = some x) (hw : Small 24 x.1) :
  ∃ a0_0 A0_1 c0_1 l0_1 a0_2 A0_3 c0_3 l0_3, cs = [.int .i64 a0_0, .slice A0_1 (l0_1 : List Int).length c0_1, .int .i64 a0_2, .slice A0_3 (l0_3 : List Int).length c0_3] ∧ l0_1.length ≤ c0_1 ∧ Kd.C (Kd.int .i64) w A0_1 l0_1.length l0_1 ∧ l0_3.length ≤ c0_3 ∧ Kd.C (Kd.int .i64) w A0_3 l0_3.length l0_3 ∧ l0_1.length ≤ 17592186044416 ∧ l0_3.length ≤ 17592186044416 := by
 obtain ⟨xs, n, _, rfl, hl, hlen, hf⟩ := DataW.trod_struct Try.underlying24 h1
 have k3 : Try.prog.cellsOf 3 = 1 := by kernel_rfl
 have k22 : Try.prog.cellsOf 22 = 1 := by kernel_rfl
 have hl8 : cs.length = 4 := hl.trans (by kernel_rfl)
 match cs, hl8, xs, hlen with
 | [c0, c1, c2, c3], _, [y0, y1, y2, y3], _ =>
  obtain ⟨i0, rfl⟩ := int_cell (enc := enc) (w := w) (base := base) (spare := spare) (held := held) (n := n) (c := c0) (y := y0) Try.underlying3 (by have := hf 0 _ rfl; simpa [k3] using this)
  obtain ⟨i2, rfl⟩ := int_cell (enc := enc) (w := w) (base := base) (spare := spare) (held := held) (n := n) (c := c2) (y := y2) Try.underlying3 (by have := hf 2 _ rfl; simpa [k3] using this)
  have e1 : DataW.trod enc Try.prog w base spare held n 22 [c1] = some y1 := by have := hf 1 _ rfl; simpa [k22] using this
  obtain ⟨l1, ⟨A1, c1', hc, hl1, hC1⟩, hk1⟩ := opens_ints Try.underlying22 e1 (fun m hm => hw m (by
   simp only [DataW.weights, Try.underlying24]
   exact DataW.weights_mem_each (j := 1) (t := 22) (d := y1.1) rfl rfl m hm))
  obtain rfl : c1 = _ := by simpa using hc
  have e3 : DataW.trod enc Try.prog w base spare held n 22 [c3] = some y3 := by have := hf 3 _ rfl; simpa [k22] using this
  obtain ⟨l3, ⟨A3, c3', hc, hl3, hC3⟩, hk3⟩ := opens_ints Try.underlying22 e3 (fun m hm => hw m (by
   simp only [DataW.weights, Try.underlying24]
   exact DataW.weights_mem_each (j := 3) (t := 22) (d := y3.1) rfl rfl m hm))
  obtain rfl : c3 = _ := by simpa using hc
  exact ⟨i0, A1, c1', l1, i2, A3, c3', l3, rfl, hl1, hC1, hl3, hC3, hk1.1, hk3.1⟩
set_option maxRecDepth 100000 in
theorem open_29 {fuel : Nat} {cs : List Value} {x : DataW H × List MemPlace} (h1 : DataW.trod enc Try.prog w base spare held fuel 29 cs = some x) : ∃ a b c d, cs = [.int .i64 a, .int .i64 b, .int .i64 c, .int .i64 d] := by
 obtain ⟨xs, n, _, rfl, hl, hlen, hf⟩ := DataW.trod_struct Try.underlying29 h1
 have k3 : Try.prog.cellsOf 3 = 1 := by kernel_rfl
 have k26 : Try.prog.cellsOf 26 = 1 := by kernel_rfl
 have k27 : Try.prog.cellsOf 27 = 2 := by kernel_rfl
 have hl8 : cs.length = 4 := hl.trans (by kernel_rfl)
 match cs, hl8, xs, hlen with
 | [c0, c1, c2, c3], _, [y0, y1, y2], _ =>
  obtain ⟨i0, rfl⟩ := int_cell (enc := enc) (w := w) (base := base) (spare := spare) (held := held) (n := n) (c := c0) (y := y0) Try.underlying26 (by have := hf 0 _ rfl; simpa [k26] using this)
  obtain ⟨i1, rfl⟩ := int_cell (enc := enc) (w := w) (base := base) (spare := spare) (held := held) (n := n) (c := c1) (y := y1) Try.underlying3 (by have := hf 1 _ rfl; simpa [k3] using this)
  have e2 : DataW.trod enc Try.prog w base spare held n 27 [c2, c3] = some y2 := by have := hf 2 _ rfl; simpa [k27] using this
  obtain ⟨zs, m, _, rfl, _, hzl, hz⟩ := DataW.trod_array Try.underlying27 e2
  match zs, hzl with
  | [z0, z1], _ =>
   obtain ⟨i2, rfl⟩ := int_cell (enc := enc) (w := w) (base := base) (spare := spare) (held := held) (n := m) (c := c2) (y := z0) Try.underlying3 (by have := hz 0 (by omega); simpa [k3] using this)
   obtain ⟨i3, rfl⟩ := int_cell (enc := enc) (w := w) (base := base) (spare := spare) (held := held) (n := m) (c := c3) (y := z1) Try.underlying3 (by have := hz 1 (by omega); simpa [k3] using this)
   exact ⟨i0, i1, i2, i3, rfl⟩
set_option maxRecDepth 100000 in
theorem open_b {fuel : Nat} {cs : List Value} {x : DataW H × List MemPlace} (h1 : DataW.trod enc Try.prog w base spare held fuel 31 cs = some x) (hw : Small 31 x.1) :
  ∃ A c l a1 a2 a3 a4, cs = [.slice A (l : List S56).length c, .int .i64 a1, .int .i64 a2, .int .i64 a3, .int .i64 a4] ∧ l.length ≤ c ∧ Kd.C k56 w A l.length l ∧ l.length ≤ 17592186044416 ∧ ∀ x ∈ l, x.f6.length ≤ 17592186044416 := by
 obtain ⟨xs, n, _, rfl, hl, hlen, hf⟩ := DataW.trod_struct Try.underlying31 h1
 have k25 : Try.prog.cellsOf 25 = 1 := by kernel_rfl
 have k29 : Try.prog.cellsOf 29 = 4 := by kernel_rfl
 have hl8 : cs.length = 5 := hl.trans (by kernel_rfl)
 match cs, hl8, xs, hlen with
 | [c0, c1, c2, c3, c4], _, [y0, y1], _ =>
  have e0 : DataW.trod enc Try.prog w base spare held n 25 [c0] = some y0 := by have := hf 0 _ rfl; simpa [k25] using this
  have e1 : DataW.trod enc Try.prog w base spare held n 29 [c1, c2, c3, c4] = some y1 := by have := hf 1 _ rfl; simpa [k29] using this
  obtain ⟨l0, ⟨A0, c0', hc, hl0, hC0⟩, hk0⟩ := opens_slice (t := 25) (e := 56) (d := k56) Try.underlying25 (by kernel_rfl) (of_decide_eq_true (by kernel_rfl)) opens_56 e0 (fun m hm => hw m (by
   simp only [DataW.weights, Try.underlying31]
   exact DataW.weights_mem_each (j := 0) (t := 25) (d := y0.1) rfl rfl m hm))
  obtain rfl : c0 = _ := by simpa using hc
  obtain ⟨a, b, c, d, he⟩ := open_29 e1
  simp only [List.cons.injEq, and_true] at he
  obtain ⟨rfl, rfl, rfl, rfl⟩ := he
  exact ⟨A0, c0', l0, a, b, c, d, rfl, hl0, hC0, hk0.1, hk0.2⟩
set_option maxRecDepth 100000 in
theorem open_f {fuel : Nat} {cs : List Value} {x : DataW H × List MemPlace} (h1 : DataW.trod enc Try.prog w base spare held fuel 35 cs = some x) : ∃ a b c, cs = [.int .i64 a, .bool b, .int .i64 c] := by
 obtain ⟨xs, n, _, rfl, hl, hlen, hf⟩ := DataW.trod_struct Try.underlying35 h1
 have k3 : Try.prog.cellsOf 3 = 1 := by kernel_rfl
 have k4 : Try.prog.cellsOf 4 = 1 := by kernel_rfl
 have k33 : Try.prog.cellsOf 33 = 2 := by kernel_rfl
 have hl8 : cs.length = 3 := hl.trans (by kernel_rfl)
 match cs, hl8, xs, hlen with
 | [c0, c1, c2], _, [y0, y1], _ =>
  obtain ⟨i0, rfl⟩ := int_cell (enc := enc) (w := w) (base := base) (spare := spare) (held := held) (n := n) (c := c0) (y := y0) Try.underlying3 (by have := hf 0 _ rfl; simpa [k3] using this)
  have e1 : DataW.trod enc Try.prog w base spare held n 33 [c1, c2] = some y1 := by have := hf 1 _ rfl; simpa [k33] using this
  obtain ⟨zs, m, _, rfl, _, hzl, hz⟩ := DataW.trod_struct Try.underlying33 e1
  match zs, hzl with
  | [z0, z1], _ =>
   obtain ⟨b, hb, _⟩ := DataW.trod_bool (enc := enc) (w := w) (base := base) (spare := spare) (held := held) (fuel := m) (cs := [c1]) (x := z0) Try.underlying4 (by have := hz 0 _ rfl; simpa [k4] using this)
   obtain rfl : c1 = _ := by simpa using hb
   obtain ⟨i2, rfl⟩ := int_cell (enc := enc) (w := w) (base := base) (spare := spare) (held := held) (n := m) (c := c2) (y := z1) Try.underlying3 (by have := hz 1 _ rfl; simpa [k3] using this)
   exact ⟨i0, b, i2, rfl⟩
end
end Go.Proofs.Ytdlgkmnloijnbaa.Q
