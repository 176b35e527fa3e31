/- Rows of the call's own whose elements lead to what came in: told by what the elements' cells said in the world as it was. -/
import Derived.Test.YtdlgkmnloijnbaaC1Qx0
import Derived.Deep.MidRow
import Derived.Lib.SliceRun
set_option linter.unusedVariables false
set_option linter.unusedSimpArgs false
namespace Go.Proofs.Ytdlgkmnloijnbaa.Q
open Go.RowKit Go.Proofs.YtdlgkmnloijnbaaW.PrintWords Go.Proofs.YtdlgkmnloijnbaaW.PrintLast Go.Proofs.YtdlgkmnloijnbaaW.PrintMore

/-- A kind whose values are told in one fixed world. -/
def frz {α : Type} (d : Kd α) (w0 : World) : Kd α where
 sz := d.sz
 E := []
 K := fun _ x cs => d.K w0 x cs
 M := fun _ _ _ x cs => d.K w0 x cs
 K_len := fun h => d.K_len h
 K_one := fun h => d.K_one h
 K_below := fun _ h => h
 K_of_M := fun h => h
 M_mono := fun _ h => h
 M_bound := fun h => h
 M_move := fun _ h => h
 M_lower := fun _ h => h
section
variable {α : Type} {d : Kd α} {w0 w : World} {A : Option Addr} {n : Nat} {xs : List α}
theorem frz_C (h : (frz d w0).C w A n xs) (hb : Below w0.heap.size w0 w) : d.C w A n xs := ReadsRow.imp_ h (Below.refl _ _) (fun _ _ hk => d.K_below hb hk)
theorem C_frz (h : d.C w0 A n xs) (hb : Below w0.heap.size w0 w) : (frz d w0).C w A n xs := ReadsRow.imp_ h hb (fun _ _ hk => hk)
end

/-- Cells written over, one behind the other. -/
def setL (xs : List Value) : Nat → List Value → List Value
 | _, [] => xs
 | o, v :: r => setL (xs.set o v) (o + 1) r
theorem setL_get : ∀ (vs : List Value) (o : Nat) (xs : List Value) (j : Nat), o + vs.length ≤ xs.length → (setL xs o vs)[j]? = if o ≤ j ∧ j < o + vs.length then vs[j - o]? else xs[j]?
 | [], o, xs, j, _ => by rw [setL, if_neg (by simp)]
 | v :: r, o, xs, j, h => by
  simp only [List.length_cons] at h
  rw [setL, setL_get r (o + 1) (xs.set o v) j (by rw [List.length_set]; omega)]
  by_cases h1 : o + 1 ≤ j ∧ j < o + 1 + r.length
  ·rw [if_pos h1, if_pos (by simp only [List.length_cons]; omega)]
   rw [show j - o = (j - (o + 1)) + 1 by omega, List.getElem?_cons_succ]
  ·rw [if_neg h1]
   by_cases h2 : j = o
   ·subst h2
    rw [if_pos (by simp only [List.length_cons]; omega), List.getElem?_set_self (by omega), Nat.sub_self]
    rfl
   ·rw [if_neg (by simp only [List.length_cons]; omega), List.getElem?_set_ne (Ne.symm h2)]
theorem setL_eq (vs : List Value) (o : Nat) (xs : List Value) (h : o + vs.length ≤ xs.length) : setL xs o vs = xs.take o ++ vs ++ xs.drop (o + vs.length) := by
 apply List.ext_getElem?
 intro j
 rw [setL_get vs o xs j h]
 by_cases h1 : o ≤ j ∧ j < o + vs.length
 ·rw [if_pos h1, List.append_assoc, List.getElem?_append_right (by rw [List.length_take]; omega), List.getElem?_append_left (by rw [List.length_take]; omega)]
  congr 1
  rw [List.length_take]; omega
 ·rw [if_neg h1]
  by_cases h2 : j < o
  ·rw [List.append_assoc, List.getElem?_append_left (by rw [List.length_take]; omega), List.getElem?_take, if_pos h2]
  ·rw [List.getElem?_append_right (by rw [List.length_append, List.length_take]; omega), List.getElem?_drop]
   congr 1
   rw [List.length_append, List.length_take]; omega
theorem own_setCells {base g n cap : Nat} {e : TypeId} {size : Nat} : ∀ (vs : List Value) (o : Nat) (w : World) (xs : List Value), w.ownsRow base e size (.slice (some ⟨g, 0, none⟩) n cap) n xs →
  (w.setCells g o vs).ownsRow base e size (.slice (some ⟨g, 0, none⟩) n cap) n (setL xs o vs) ∧ w.grownBy (w.setCells g o vs) (some g)
 | [], _, w, _, h => ⟨h, World.grownBy.refl w _⟩
 | v :: r, o, w, xs, h => by
  have h1 := h.stored o v
  have h2 := own_setCells r (o + 1) _ _ h1.1
  exact ⟨h2.1, World.grownBy.trans h1.2 h2.2⟩
section
variable {α : Type} {d : Kd α} {w0 w : World} {base g n cap : Nat} {ok : Nat → Prop} {xs : List α} {e : TypeId}
/-- Element i becomes another one. -/
theorem frz_put (h : (frz d w0).R e w base ok (.slice (some ⟨g, 0, none⟩) n cap) xs) (i : Nat) (hi : i < xs.length) {x : α} {c : List Value} (hk : d.K w0 x c) :
  (frz d w0).R e (w.setCells g (i * d.sz) c) base ok (.slice (some ⟨g, 0, none⟩) n cap) (xs.set i x) ∧ w.grownBy (w.setCells g (i * d.sz) c) (some g) := by
 obtain ⟨h0, inner, ho, hr⟩ := h
 have hn : n = xs.length := by
  rcases ho.2 with ⟨hv, _⟩ | ⟨g', cap', cur, hv, _⟩
  ·cases hv
  ·injection hv with _ h2 _
 subst hn
 have hlen : c.length = d.sz := d.K_len hk
 have hfit : i * d.sz + d.sz ≤ inner.length := by
  have h1 := hr.1
  rw [show (frz d w0).sz = d.sz from rfl] at h1
  rw [h1, ← Nat.succ_mul]; exact Nat.mul_le_mul_right _ hi
 have hs := own_setCells (g := g) (n := xs.length) (cap := cap) c (i * d.sz) w inner ho
 refine ⟨⟨h0, setL inner (i * d.sz) c, by rw [List.length_set]; exact hs.1, ?_⟩, hs.2⟩
 rw [setL_eq _ _ _ (by omega)]
 exact Kd.reps_set (size := d.sz) hr hi hk hlen
/-- The cells of element i. -/
theorem frz_chunk (h : (frz d w0).R e w base ok (.slice (some ⟨g, 0, none⟩) n cap) xs) (i : Nat) {x : α} (hx : xs[i]? = some x) :
  ∃ c, c.length = d.sz ∧ d.K w0 x c ∧ w.rangeAt g (i * d.sz) c := by
 obtain ⟨h0, inner, ho, hr⟩ := h
 have hi : i < xs.length := (List.getElem?_eq_some_iff.1 hx).1
 have hK := hr.2 i x hx
 rw [show (frz d w0).sz = d.sz from rfl] at hK
 refine ⟨(inner.drop (i * d.sz)).take d.sz, d.K_len hK, hK, fun j v hv => ?_⟩
 have hj : j < d.sz := by
  have := (List.getElem?_eq_some_iff.1 hv).1
  rw [List.length_take] at this; omega
 rw [List.getElem?_take, if_pos hj, List.getElem?_drop] at hv
 have hc := ho.cells (g := g) rfl _ _ hv
 rwa [add_plain] at hc
theorem frz_there (h : (frz d w0).R e w base ok (.slice (some ⟨g, 0, none⟩) n cap) xs) (o m : Nat) (hfit : o + m ≤ xs.length * d.sz) : w.there g o m := fun j hj => by
 obtain ⟨h0, inner, ho, hr⟩ := h
 have hl : o + j < inner.length := by
  have h1 := hr.1
  rw [show (frz d w0).sz = d.sz from rfl] at h1; omega
 have hc := ho.cells (g := g) rfl _ _ (List.getElem?_eq_getElem hl)
 rw [add_plain] at hc
 refine ⟨by rw [hc]; rfl, ?_⟩
 rcases ho.2 with ⟨hv, _⟩ | ⟨g', cap', cur, hv, _, hh, _⟩
 ·cases hv
 ·injection hv with hv
  injection hv with hv
  injection hv with hv
  subst hv
  exact blk_frozen hh _
/-- The first m elements, behind whatever was stored from there on. -/
theorem frz_cut (h : (frz d w0).R e w base ok (.slice (some ⟨g, 0, none⟩) n cap) xs) (m : Nat) (hm : m ≤ xs.length) (vs : List Value) :
  (frz d w0).C (w.setCells g (m * d.sz) vs) (some ⟨g, 0, none⟩) m (xs.take m) := by
 have hmax : xs.length ≤ 9223372036854775807 := by
  obtain ⟨_, _, _, _, hC⟩ := Kd.R_reads h
  exact hC.2.1
 refine ⟨by rw [List.length_take]; omega, by omega, fun _ => ⟨_, rfl, fun j p hj => ?_⟩⟩
 have hjm : j < m := by
  have := (List.getElem?_eq_some_iff.1 hj).1
  rw [List.length_take] at this; omega
 rw [List.getElem?_take, if_pos hjm] at hj
 obtain ⟨c, hl, hK, hR⟩ := frz_chunk h j hj
 refine ⟨c, hl, hK, fun i u hu => ?_⟩
 have hi : i < d.sz := by
  have := (List.getElem?_eq_some_iff.1 hu).1; omega
 rw [add_plain]
 show (w.setCells g (m * d.sz) vs).cell? ⟨g, j * d.sz + i, none⟩ = some u
 rw [World.cell?_setCells_out g vs (m * d.sz) w ⟨g, j * d.sz + i, none⟩ (fun _ _ => .inl (by
  show j * d.sz + i < m * d.sz
  have : j * d.sz + d.sz ≤ m * d.sz := by rw [← Nat.succ_mul]; exact Nat.mul_le_mul_right _ hjm
  omega))]
 exact hR i u hu
end
/-- 'clear(s)', s a slice of n elements of as many cells as the element type has. -/
theorem run_clear_cells {P : Program} (w : World) (t e ty : TypeId) (z : Value) (ht : P.underlying t = some (.slice e)) (hv : ∀ w, (zeroValue e).run P w = .ok z w) (b o n c : Nat)
  (ha : w.there b o (Builtin.zeroCells z.cells n).toList.length) (h1 : ∀ v ∈ (Builtin.zeroCells z.cells n).toList, v.oneCell' = true) :
  ∃ vs, (Builtin.clear_ #[t] ty #[.slice (some ⟨b, o, none⟩) n c]).run P w = .ok (.tuple #[]) (w.setCells b o vs) := by
 have hst := run_storeCells_cells (P := P) b o (Builtin.zeroCells z.cells n).toList 0 w (fun j hj => (ha j hj).1) (fun j hj => (ha j hj).2) h1
 simp only [Nat.add_zero] at hst
 cases n with
 | zero => exact ⟨[], by simp [Builtin.clear_, run_underlying ht, World.setCells]⟩
 | succ m => exact ⟨_, by simp only [Builtin.clear_]; simp [run_underlying ht, hv]; simp [hst]; rfl⟩
end Go.Proofs.Ytdlgkmnloijnbaa.Q
