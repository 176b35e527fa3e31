/- slices.DeleteFunc of instructions, at the two function literals of check.Does: what is left are those that are not so, in order. -/
import Derived.Test.YtdlgkmnloijnbaaC1HClone
import Derived.Test.YtdlgkmnloijnbaaC1HFn
import Derived.Test.YtdlgkmnloijnbaaC1HMach
set_option linter.unusedVariables false
set_option linter.unusedSimpArgs false
namespace Go.Proofs.Ytdlgkmnloijnbaa.Q
open Go.RowKit Go.Proofs.YtdlgkmnloijnbaaW.PrintWords Go.Proofs.YtdlgkmnloijnbaaW.PrintLast Go.Proofs.YtdlgkmnloijnbaaW.PrintMore

def insB (o : Int) : Bool := o == 15 || (o == 16 || o == 17)
theorem inserted_f (o : Int) : mir_Inserted.f o = some (insB o) := by
 unfold mir_Inserted.f insB
 by_cases h1 : o = 15
 ·simp [h1]
 ·by_cases h2 : o = 16
  ·simp [h2]
  ·by_cases h3 : o = 17
   ·simp [h3]
   ·simp [h1, h2, h3]
def isCopy (x : S56) : Bool := x.f0 == 14
def isIns (x : S56) : Bool := insB x.f0
theorem does1_f (x : S56) : check_Does_1.f x.f0 x.f1 x.f2 x.f3 x.f4 x.f5 x.f6 x.f7 = some (isCopy x) := rfl
theorem does2_f (x : S56) : check_Does_2.f x.f0 x.f1 x.f2 x.f3 x.f4 x.f5 x.f6 x.f7 = some (isIns x) := by
 unfold check_Does_2.f; rw [inserted_f]; rfl
theorem rd_T56_nat (l : List S56) (k : Nat) (x : S56) (h : l[k]? = some x) : rd_T56 l (k : Int) = x := by
 unfold rd_T56
 simp [List.getD_eq_getElem?_getD, h]
theorem index30_l0 (l : List S56) (hl : l.length ≤ 1000000) : ∀ (m k i : Nat), l.length - i = m → m < k → i ≤ l.length → index_ins_copies.l0 k l (l.length : Int) (i : Int) = some (if idxOf isCopy (l.drop i) < 0 then -1 else idxOf isCopy (l.drop i) + i) := by
 intro m
 induction m with
 | zero =>
  intro k i hm hk hi
  obtain ⟨k, rfl⟩ : ∃ m, k = m + 1 := ⟨k - 1, by omega⟩
  have : l.drop i = [] := List.drop_eq_nil_of_le (by omega)
  simp only [index_ins_copies.l0]
  rw [if_neg (by omega), this]
  simp [idxOf]
 | succ m ih =>
  intro k i hm hk hi
  obtain ⟨k, rfl⟩ : ∃ m, k = m + 1 := ⟨k - 1, by omega⟩
  obtain ⟨x, hx⟩ : ∃ x, l[i]? = some x := ⟨_, List.getElem?_eq_getElem (by omega)⟩
  have hd : l.drop i = x :: l.drop (i + 1) := by
   rw [List.drop_eq_getElem_cons (by omega)]
   congr 1
   rw [List.getElem?_eq_getElem (by omega)] at hx
   exact Option.some.inj hx
  have hw : wrap64 ((i : Int) + 1) = ((i + 1 : Nat) : Int) := by unfold wrap64; omega
  simp only [index_ins_copies.l0]
  rw [if_pos (by omega), if_pos (by omega), if_pos (by omega), rd_T56_nat l i x hx, does1_f, hw, hd]
  simp only [Option.bind_some]
  have h3 := idxOf_ge isCopy (l.drop (i + 1))
  rw [idxOf]
  by_cases hp : isCopy x = true
  ·rw [if_pos hp, if_pos hp, if_neg (by omega)]; simp
  ·rw [if_neg hp, if_neg hp, ih k (i + 1) (by omega) (by omega) (by omega)]
   split
   ·rw [if_pos (by omega)]
   ·rw [if_neg (by omega)]; congr 1; push_cast; omega
theorem index30_f (l : List S56) (hl : l.length ≤ 1000000) : index_ins_copies.f (l.length + 1) l = some (idxOf isCopy l) := by
 unfold index_ins_copies.f
 have h := index30_l0 l hl (l.length - 0) (l.length + 1) 0 rfl (by omega) (by omega)
 have h3 := idxOf_ge isCopy l
 rw [show ((0 : Nat) : Int) = 0 from rfl] at h
 rw [h, List.drop_zero]
 congr 1
 split <;> omega
theorem index31_l0 (l : List S56) (hl : l.length ≤ 1000000) : ∀ (m k i : Nat), l.length - i = m → m < k → i ≤ l.length → index_ins_inserted.l0 k l (l.length : Int) (i : Int) = some (if idxOf isIns (l.drop i) < 0 then -1 else idxOf isIns (l.drop i) + i) := by
 intro m
 induction m with
 | zero =>
  intro k i hm hk hi
  obtain ⟨k, rfl⟩ : ∃ m, k = m + 1 := ⟨k - 1, by omega⟩
  have : l.drop i = [] := List.drop_eq_nil_of_le (by omega)
  simp only [index_ins_inserted.l0]
  rw [if_neg (by omega), this]
  simp [idxOf]
 | succ m ih =>
  intro k i hm hk hi
  obtain ⟨k, rfl⟩ : ∃ m, k = m + 1 := ⟨k - 1, by omega⟩
  obtain ⟨x, hx⟩ : ∃ x, l[i]? = some x := ⟨_, List.getElem?_eq_getElem (by omega)⟩
  have hd : l.drop i = x :: l.drop (i + 1) := by
   rw [List.drop_eq_getElem_cons (by omega)]
   congr 1
   rw [List.getElem?_eq_getElem (by omega)] at hx
   exact Option.some.inj hx
  have hw : wrap64 ((i : Int) + 1) = ((i + 1 : Nat) : Int) := by unfold wrap64; omega
  simp only [index_ins_inserted.l0]
  rw [if_pos (by omega), if_pos (by omega), if_pos (by omega), rd_T56_nat l i x hx, does2_f, hw, hd]
  simp only [Option.bind_some]
  have h3 := idxOf_ge isIns (l.drop (i + 1))
  rw [idxOf]
  by_cases hp : isIns x = true
  ·rw [if_pos hp, if_pos hp, if_neg (by omega)]; simp
  ·rw [if_neg hp, if_neg hp, ih k (i + 1) (by omega) (by omega) (by omega)]
   split
   ·rw [if_pos (by omega)]
   ·rw [if_neg (by omega)]; congr 1; push_cast; omega
theorem index31_f (l : List S56) (hl : l.length ≤ 1000000) : index_ins_inserted.f (l.length + 1) l = some (idxOf isIns l) := by
 unfold index_ins_inserted.f
 have h := index31_l0 l hl (l.length - 0) (l.length + 1) 0 rfl (by omega) (by omega)
 have h3 := idxOf_ge isIns l
 rw [show ((0 : Nat) : Int) = 0 from rfl] at h
 rw [h, List.drop_zero]
 congr 1
 split <;> omega

theorem idxOf_spec {α : Type} (p : α → Bool) : ∀ (l : List α) (k : Nat), idxOf p l = (k : Int) → ∃ x, l[k]? = some x ∧ p x = true ∧ ∀ y ∈ l.take k, p y = false
 | [], k, h => by simp [idxOf] at h
 | y :: l, k, h => by
  rw [idxOf] at h
  by_cases hy : p y = true
  ·rw [if_pos hy] at h
   obtain rfl : k = 0 := by omega
   exact ⟨y, rfl, hy, fun z hz => by simp at hz⟩
  ·rw [if_neg hy] at h
   by_cases h2 : idxOf p l < 0
   ·rw [if_pos h2] at h; omega
   ·rw [if_neg h2] at h
    obtain ⟨k, rfl⟩ : ∃ m, k = m + 1 := ⟨k - 1, by omega⟩
    obtain ⟨x, h3, h4, h5⟩ := idxOf_spec p l k (by omega)
    refine ⟨x, by simpa using h3, h4, fun z hz => ?_⟩
    rw [List.take_succ_cons] at hz
    rcases List.mem_cons.1 hz with rfl | hz
    ·simpa using hy
    ·exact h5 z hz
theorem filter_take {α : Type} (p : α → Bool) (l : List α) (k : Nat) (x : α) (hx : l[k]? = some x) : (l.take (k + 1)).filter p = (l.take k).filter p ++ (if p x then [x] else []) := by
 have hk : k < l.length := (List.getElem?_eq_some_iff.1 hx).1
 rw [List.take_succ_eq_append_getElem hk, List.filter_append]
 have : l[k] = x := by rw [List.getElem?_eq_getElem hk] at hx; exact Option.some.inj hx
 rw [this]
 by_cases hp : p x = true <;> simp [hp]
/-- What stands in the row while it is gone through. -/
def Mid (p : S56 → Bool) (l : List S56) (j : Nat) (ys : List S56) : Prop :=
 ∃ M, ys = (l.take j).filter (fun x => !p x) ++ M ++ l.drop j ∧ ((l.take j).filter (fun x => !p x)).length + M.length = j
theorem Mid.at_ {p : S56 → Bool} {l ys : List S56} {j : Nat} (h : Mid p l j ys) (hj : j ≤ l.length) : ys[j]? = l[j]? := by
 obtain ⟨M, rfl, hl⟩ := h
 rw [List.getElem?_append_right (by rw [List.length_append]; omega), List.length_append, hl, Nat.sub_self, List.getElem?_drop, Nat.add_zero]
theorem Mid.len {p : S56 → Bool} {l ys : List S56} {j : Nat} (h : Mid p l j ys) (hj : j ≤ l.length) : ys.length = l.length := by
 obtain ⟨M, rfl, hl⟩ := h
 rw [List.length_append, List.length_append, List.length_drop]; omega
theorem Mid.skip {p : S56 → Bool} {l ys : List S56} {j : Nat} {x : S56} (h : Mid p l j ys) (hx : l[j]? = some x) (hp : p x = true) : Mid p l (j + 1) ys := by
 obtain ⟨M, rfl, hl⟩ := h
 have hk : j < l.length := (List.getElem?_eq_some_iff.1 hx).1
 have hxx : l[j] = x := by rw [List.getElem?_eq_getElem hk] at hx; exact Option.some.inj hx
 refine ⟨M ++ [x], ?_, ?_⟩
 ·rw [filter_take _ l j x hx, if_neg (by simp [hp]), List.append_nil, List.drop_eq_getElem_cons hk, hxx]
  simp
 ·rw [filter_take _ l j x hx, if_neg (by simp [hp]), List.append_nil, List.length_append]; simp; omega
theorem Mid.keep {p : S56 → Bool} {l ys : List S56} {j : Nat} {x : S56} (h : Mid p l j ys) (hx : l[j]? = some x) (hp : p x = false) (hlt : ((l.take j).filter (fun x => !p x)).length < j) :
  Mid p l (j + 1) (ys.set ((l.take j).filter (fun x => !p x)).length x) := by
 obtain ⟨M, rfl, hl⟩ := h
 have hk : j < l.length := (List.getElem?_eq_some_iff.1 hx).1
 have hxx : l[j] = x := by rw [List.getElem?_eq_getElem hk] at hx; exact Option.some.inj hx
 cases M with
 | nil => simp at hl; omega
 | cons y M =>
  refine ⟨M ++ [x], ?_, ?_⟩
  ·rw [filter_take _ l j x hx, if_pos (by simp [hp]), List.append_assoc, List.set_append_right _ _ (Nat.le_refl _), Nat.sub_self]
   rw [List.drop_eq_getElem_cons hk, hxx]
   simp
  ·rw [filter_take _ l j x hx, if_pos (by simp [hp])]
   simp only [List.length_append, List.length_cons, List.length_nil] at hl ⊢; omega

theorem zero56_len (m : Nat) : (Builtin.zeroCells (Value.agg #[.int .i64 0, .int .i64 0, .int .i64 0, .int .i64 0, .int .i64 0, .int .i64 0, .slice none 0 0, .int .i64 0]).cells m).toList.length = m * 8 := by
 rw [Array.length_toList, size_zeroCells]; rfl
theorem zero56_one (m : Nat) : ∀ v ∈ (Builtin.zeroCells (Value.agg #[.int .i64 0, .int .i64 0, .int .i64 0, .int .i64 0, .int .i64 0, .int .i64 0, .slice none 0 0, .int .i64 0]).cells m).toList, v.oneCell' = true := by
 intro v hv
 rw [Array.mem_toList_iff] at hv
 simp only [Builtin.zeroCells] at hv
 obtain ⟨i, _, rfl⟩ := Array.mem_map.1 hv
 have hk : i % (Value.agg #[.int .i64 0, .int .i64 0, .int .i64 0, .int .i64 0, .int .i64 0, .int .i64 0, .slice none 0 0, .int .i64 0]).cells.size < 8 := Nat.mod_lt _ (by decide)
 generalize i % (Value.agg #[.int .i64 0, .int .i64 0, .int .i64 0, .int .i64 0, .int .i64 0, .int .i64 0, .slice none 0 0, .int .i64 0]).cells.size = k at hk ⊢
 match k, hk with
 | 0, _ => rfl
 | 1, _ => rfl
 | 2, _ => rfl
 | 3, _ => rfl
 | 4, _ => rfl
 | 5, _ => rfl
 | 6, _ => rfl
 | 7, _ => rfl

theorem one56 (x : S56) (A6 : Option Addr) (c6 : Nat) : (#[Value.int .i64 x.f0, .int .i64 x.f1, .int .i64 x.f2, .int .i64 x.f3, .int .i64 x.f4, .int .i64 x.f5, .slice A6 x.f6.length c6, .int .i64 x.f7].all (·.oneCell')) = true := by simp [Value.oneCell']
theorem info56s : (Try.prog.info? 56).map (·.size) = some 8 := by kernel_rfl
section
variable {α : Type} {d : Kd α} {w0 w w1 : World} {base g n cap : Nat} {ok : Nat → Prop} {xs : List α} {e : TypeId}
theorem ne_new (h : (frz d w0).R e w base ok (.slice (some ⟨g, 0, none⟩) n cap) xs) {g7 : Nat} (hg : g7 = w.heap.size) : g7 ≠ g ∧ ¬ g7 < w.heap.size := by
 obtain ⟨inner, ho⟩ := Kd.R_own h
 have := own_lt ho g rfl
 exact ⟨by omega, by omega⟩
theorem keep_setRow (w : World) (g : Nat) (S : Array Value) : (∀ k, k ≠ g → (w.setRow g S).heap[k]? = w.heap[k]?) ∧ ((w.setRow g S).os = w.os ∧ (w.setRow g S).tape = w.tape ∧ (w.setRow g S).output = w.output ∧ (w.setRow g S).heap.size = w.heap.size) := by
 refine ⟨fun k hk => ?_, rfl, rfl, rfl, by simp⟩
 simp only [World.setRow]
 rw [Array.getElem?_modify, if_neg (fun e => hk e.symm)]
theorem R_at (h : (frz d w0).R e w base ok (.slice (some ⟨g, 0, none⟩) n cap) xs) (hg : w1.heap[g]? = w.heap[g]?) : (frz d w0).R e w1 base ok (.slice (some ⟨g, 0, none⟩) n cap) xs := by
 obtain ⟨h0, inner, ho, hr⟩ := h
 exact ⟨h0, inner, own_move ho (fun k hk => by simp [Value.ownBlock] at hk; subst hk; exact hg), hr⟩
theorem grown_at {W : World} {row : Option Nat} (h : W.grownBy w row) (hs : w1.os = w.os ∧ w1.tape = w.tape ∧ w1.output = w.output ∧ w1.heap.size = w.heap.size) (hk : ∀ k, k < W.heap.size → w1.heap[k]? = w.heap[k]?) : W.grownBy w1 row :=
 ⟨hs.1.trans h.os, hs.2.1.trans h.tape, hs.2.2.1.trans h.output, by rw [hs.2.2.2]; exact h.size, fun i hi hne => (hk i hi).trans (h.block i hi hne)⟩
theorem below_at {B : Nat} {W : World} (h : Below B W w) (hs : w1.os = w.os ∧ w1.tape = w.tape ∧ w1.output = w.output ∧ w1.heap.size = w.heap.size) (hk : ∀ k, k < B → w1.heap[k]? = w.heap[k]?) : Below B W w1 :=
 ⟨hs.1.trans h.os, hs.2.1.trans h.tape, hs.2.2.1.trans h.output, by rw [hs.2.2.2]; exact h.size, fun i hi => (hk i hi).trans (h.block i hi)⟩
end
set_option maxHeartbeats 3200000 in
set_option maxRecDepth 100000 in
theorem delete_ins_30 (v : Value) (l : List S56) (w0 w : World) (hB : Below w0.heap.size w0 w) (hR : Kd.R (frz k56 w0) 56 w w0.heap.size (fun _ => True) v l) (hl : l.length ≤ 1000000) :
  Calls Try.prog 33 #[v, .func (.func 30) #[] #[]] w fun e w' => ∃ A c, e = .returned (.slice A (l.filter fun x => !isCopy x).length c) ∧ (l.filter fun x => !isCopy x).length ≤ c ∧ (frz k56 w0).C w' A (l.filter fun x => !isCopy x).length (l.filter fun x => !isCopy x) ∧ w.grownBy w' v.ownBlock := by
 obtain ⟨A, c, rfl, hc, hC⟩ := Kd.R_reads hR
 have HC := Aside0.mk hC
 have HCC := Aside0.mk (frz_C hC hB)
 have HL := Aside0.mk hc
 have HR := Aside0.mk hR
 have HB := Aside0.mk hB
 have HI := Aside0.mk (index30_f l hl)
 have hge := idxOf_ge isCopy l
 clear hc hC hR hB
 by_cases hi : idxOf isCopy l = -1
 ·have hF : l.filter (fun x => !isCopy x) = l := by
   refine List.filter_eq_self.2 fun x hx => ?_
   rcases hq : isCopy x with _ | _
   ·rfl
   ·exfalso
    have h1 := idxOf_any isCopy l
    rw [hi, decide_eq_false (by omega)] at h1
    have h2 := List.any_eq_false.1 h1.symm x hx
    exact h2 hq
  rw [hF]
  rw [hi] at HI
  clear hi hge hF
  go_enter Try.func33, Try.ntmps33
  go_wp2_with (first | (go_at_call 57; refine (index_ins_copies.calls (l.length + 1) A c l (-1) _ HCC.out HL.out HI.out).mono ?_; rintro e w1 ⟨rfl, hb⟩; have HB1 := Aside0.mk hb; clear hb))
  go_ret
  exact ⟨_, _, rfl, HL.out, Kd.C_below HC.out HB1.out, grown_of_below HB1.out _⟩
 ·obtain ⟨k0, hk0⟩ : ∃ k0 : Nat, idxOf isCopy l = (k0 : Int) := ⟨(idxOf isCopy l).toNat, by omega⟩
  rw [hk0] at HI
  obtain ⟨x0, hx0, hpx0, hno0⟩ := idxOf_spec isCopy l k0 hk0
  have hk0l : k0 < l.length := (List.getElem?_eq_some_iff.1 hx0).1
  obtain ⟨g, cap, hv⟩ : ∃ g cap, A = some ⟨g, 0, none⟩ ∧ c = cap := by
   obtain ⟨inner, ho⟩ := Kd.R_own HR.out
   obtain ⟨g, cap, he, _⟩ := ho.form (by omega)
   injection he with h1 h2 h3
   exact ⟨g, cap, h1, h3⟩
  obtain ⟨rfl, rfl⟩ := hv
  have hF0 : (l.take k0).filter (fun x => !isCopy x) = l.take k0 := List.filter_eq_self.2 fun x hx => by rw [hno0 x hx]; rfl
  have hM0 : Mid isCopy l (k0 + 1) l := by
   refine Mid.skip (x := x0) ⟨[], ?_, ?_⟩ hx0 hpx0
   ·rw [hF0, List.append_nil, List.take_append_drop]
   ·rw [hF0, List.length_take]; simp; omega
  have HM0 := Aside0.mk hM0
  have HF1 : Aside0 (((l.take (k0 + 1)).filter (fun x => !isCopy x)).length = k0) := ⟨by rw [filter_take _ l k0 x0 hx0, if_neg (by simp [hpx0]), List.append_nil, hF0, List.length_take]; omega⟩
  clear hM0 hF0 hno0 hpx0 hx0 hge hi hk0
  have hu56 := Try.underlying56
  have hkm : ((k0 : Int) == -1) = false := by rw [beq_eq_false_iff_ne]; omega
  go_enter Try.func33, Try.ntmps33
  go_wp2_with (first | (go_at_call 57; refine (index_ins_copies.calls (l.length + 1) _ c l k0 _ HCC.out HL.out HI.out).mono ?_; rintro e w1 ⟨rfl, hb⟩; have HB1 := Aside0.mk hb; clear hb))
  go_loopw [5, 6] (fun vi vj wr => ∃ (j : Nat) (ys : List S56), k0 + 1 ≤ j ∧ j ≤ l.length ∧ vi = .int .i64 (((l.take j).filter (fun x => !isCopy x)).length : Int) ∧ vj = .int .i64 j ∧ Aside0 (Mid isCopy l j ys) ∧ Aside0 (((l.take j).filter (fun x => !isCopy x)).length < j) ∧ Aside0 (Kd.R (frz k56 w0) 56 wr w0.heap.size (fun _ => True) (.slice (some ⟨g, 0, none⟩) l.length c) ys) ∧ Aside0 (w.grownBy wr (some g)) ∧ Aside0 (Below w0.heap.size w0 wr)) (fun _ vj _ => l.length - (intOf vj).toNat)
  case atStart => exact ⟨k0 + 1, l, by omega, by omega, by rw [HF1.out], rfl, HM0, ⟨by rw [HF1.out]; omega⟩, ⟨Kd.R_below HR.out HB1.out⟩, ⟨grown_of_below HB1.out _⟩, ⟨below_then HB.out HB.out.size HB1.out⟩⟩
  case round =>
   obtain ⟨j, ys, hj0, hj1, rfl, rfl, HMr, HLr, HRr, HGr, HBr⟩ := hrel
   clear HM0 HF1 HR HB HC HCC HI
   by_cases hlt : j < l.length
   ·obtain ⟨x, hx⟩ : ∃ x, l[j]? = some x := ⟨_, List.getElem?_eq_getElem hlt⟩
    obtain ⟨c8, hl8, hK, hra⟩ := frz_chunk HRr.out j ((HMr.out.at_ hj1).trans hx)
    obtain ⟨A6, c6, rfl, hl6, hi6⟩ := k56_open hK
    have HK := Aside0.mk hK
    have HRA := Aside0.mk (show wr.rangeAt g (j * 8) _ from hra)
    have HX := Aside0.mk hx
    have H6 := Aside0.mk hi6
    have HL6 := Aside0.mk hl6
    have HFT := Aside0.mk (filter_take (fun x => !isCopy x) l j x hx)
    obtain ⟨b, hb⟩ : ∃ b, isCopy x = b := ⟨_, rfl⟩
    have HP := Aside0.mk hb
    have hij : ((l.take j).filter (fun x => !isCopy x)).length < l.length := by have := HLr.out; omega
    have hfl : ((l.take j).filter (fun x => !isCopy x)).length ≤ 1000000 := by omega
    clear hx hl8 hK hra hl6 hi6 hb
    generalize hii : ((l.take j).filter (fun x => !isCopy x)).length = i at *
    have HII := Aside0.mk hii
    clear hii
    cases b with
    | true =>
     go_wp2_with (first
     | ((with_reducible refine gate_load (x := .tmp 24) 56 rfl ?_); refine wpList_load_mid rfl 56 (.tmp 24) rfl g (j * 8) rfl _ _ HRA.out hu56 rfl info56s ?_)
     | ((with_reducible refine gate_dst (N := 7) rfl ?_); refine box_event ?hg (N := 7) ?hd (cs := #[.int .i64 0, .int .i64 0, .int .i64 0, .int .i64 0, .int .i64 0, .int .i64 0, .slice none 0 0, .int .i64 0]) (t := 56) ?hr ?_; (case hd => rfl); (case hg => rfl); (case hr => first | (go_simp; done) | (go_simp; rfl)); intro g7 hg w5 hbox hb; have HX5 := Aside0.mk hbox; have HR5 := Aside0.mk (Kd.R_below HRr.out hb); have HG5 := Aside0.mk (World.grownBy.trans HGr.out (grown_of_below hb (some g))); have HB5 := Aside0.mk (below_then HBr.out HBr.out.size hb); have HN5 := Aside0.mk (ne_new HRr.out hg); clear hb hbox hg)
     | ((with_reducible refine gate_stores (x := .tmp 7) (y := .tmp 25) 56 rfl ?_); refine wpList_store_row rfl 56 (.tmp 7) (.tmp 25) rfl g7 _ rfl rfl 56 _ HX5.out info56s rfl (one56 x A6 c6) ?_; have HX7 := Aside0.mk (setRow_heap _ _ _ #[.int .i64 x.f0, .int .i64 x.f1, .int .i64 x.f2, .int .i64 x.f3, .int .i64 x.f4, .int .i64 x.f5, .slice A6 x.f6.length c6, .int .i64 x.f7] _ _ HX5.out); have hk7 := keep_setRow w5 g7 #[.int .i64 x.f0, .int .i64 x.f1, .int .i64 x.f2, .int .i64 x.f3, .int .i64 x.f4, .int .i64 x.f5, .slice A6 x.f6.length c6, .int .i64 x.f7]; have HR7 := Aside0.mk (R_at HR5.out (hk7.1 g HN5.out.1.symm)); have HG7 := Aside0.mk (grown_at HG5.out hk7.2 (fun k hk => hk7.1 k (by rintro rfl; exact HN5.out.2 (Nat.lt_of_lt_of_le hk HGr.out.size)))); have HB7 := Aside0.mk (below_at HB5.out hk7.2 (fun k hk => hk7.1 k (by rintro rfl; exact HN5.out.2 (Nat.lt_of_lt_of_le hk HBr.out.size)))); clear hk7 HX5 HR5 HG5 HB5; generalize w5.setRow g7 #[.int .i64 x.f0, .int .i64 x.f1, .int .i64 x.f2, .int .i64 x.f3, .int .i64 x.f4, .int .i64 x.f5, .slice A6 x.f6.length c6, .int .i64 x.f7] = w7 at *)
     | ((with_reducible refine gate_load (x := .tmp 7) 56 rfl ?_); refine wpList_load_row rfl 56 (.tmp 7) rfl g7 rfl 56 _ (0, 0) _ HX7.out hu56 rfl info56s ?_)
     | (go_at_call 30; refine (check_Does_1.calls x.f0 x.f1 x.f2 x.f3 x.f4 x.f5 A6 c6 x.f6 x.f7 _ _ (Kd.C_below H6.out HB7.out) HL6.out (HP.out ▸ does1_f x)).mono ?_; rintro e w8 ⟨rfl, hb⟩; have HX8 := Aside0.mk (blk_below HX7.out hb); have HR8 := Aside0.mk (Kd.R_below HR7.out hb); have HG8 := Aside0.mk (World.grownBy.trans HG7.out (grown_of_below hb (some g))); have HB8 := Aside0.mk (below_then HB7.out HB7.out.size hb); clear hb HX7))
     go_roundw
     case rel => exact ⟨j + 1, ys, by omega, by omega, by rw [HFT.out, HP.out]; simp [HII.out], by go_num, ⟨Mid.skip HMr.out HX.out HP.out⟩, ⟨by rw [HFT.out, HP.out]; have := HLr.out; simp [HII.out]; omega⟩, HR8, HG8, HB8⟩
     case measure => simp [intOf]; omega
    | false =>
     go_wp2_with (first
     | ((with_reducible refine gate_load (x := .tmp 24) 56 rfl ?_); refine wpList_load_mid rfl 56 (.tmp 24) rfl g (j * 8) rfl _ _ HRA.out hu56 rfl info56s ?_)
     | ((with_reducible refine gate_dst (N := 7) rfl ?_); refine box_event ?hg (N := 7) ?hd (cs := #[.int .i64 0, .int .i64 0, .int .i64 0, .int .i64 0, .int .i64 0, .int .i64 0, .slice none 0 0, .int .i64 0]) (t := 56) ?hr ?_; (case hd => rfl); (case hg => rfl); (case hr => first | (go_simp; done) | (go_simp; rfl)); intro g7 hg w5 hbox hb; have HX5 := Aside0.mk hbox; have HR5 := Aside0.mk (Kd.R_below HRr.out hb); have HG5 := Aside0.mk (World.grownBy.trans HGr.out (grown_of_below hb (some g))); have HB5 := Aside0.mk (below_then HBr.out HBr.out.size hb); have HN5 := Aside0.mk (ne_new HRr.out hg); clear hb hbox hg)
     | ((with_reducible refine gate_stores (x := .tmp 7) (y := .tmp 25) 56 rfl ?_); refine wpList_store_row rfl 56 (.tmp 7) (.tmp 25) rfl g7 _ rfl rfl 56 _ HX5.out info56s rfl (one56 x A6 c6) ?_; have HX7 := Aside0.mk (setRow_heap _ _ _ #[.int .i64 x.f0, .int .i64 x.f1, .int .i64 x.f2, .int .i64 x.f3, .int .i64 x.f4, .int .i64 x.f5, .slice A6 x.f6.length c6, .int .i64 x.f7] _ _ HX5.out); have hk7 := keep_setRow w5 g7 #[.int .i64 x.f0, .int .i64 x.f1, .int .i64 x.f2, .int .i64 x.f3, .int .i64 x.f4, .int .i64 x.f5, .slice A6 x.f6.length c6, .int .i64 x.f7]; have HR7 := Aside0.mk (R_at HR5.out (hk7.1 g HN5.out.1.symm)); have HG7 := Aside0.mk (grown_at HG5.out hk7.2 (fun k hk => hk7.1 k (by rintro rfl; exact HN5.out.2 (Nat.lt_of_lt_of_le hk HGr.out.size)))); have HB7 := Aside0.mk (below_at HB5.out hk7.2 (fun k hk => hk7.1 k (by rintro rfl; exact HN5.out.2 (Nat.lt_of_lt_of_le hk HBr.out.size)))); clear hk7 HX5 HR5 HG5 HB5; generalize w5.setRow g7 #[.int .i64 x.f0, .int .i64 x.f1, .int .i64 x.f2, .int .i64 x.f3, .int .i64 x.f4, .int .i64 x.f5, .slice A6 x.f6.length c6, .int .i64 x.f7] = w7 at *)
     | ((with_reducible refine gate_load (x := .tmp 7) 56 rfl ?_); refine wpList_load_row rfl 56 (.tmp 7) rfl g7 rfl 56 _ (0, 0) _ HX7.out hu56 rfl info56s ?_)
     | (go_at_call 30; refine (check_Does_1.calls x.f0 x.f1 x.f2 x.f3 x.f4 x.f5 A6 c6 x.f6 x.f7 _ _ (Kd.C_below H6.out HB7.out) HL6.out (HP.out ▸ does1_f x)).mono ?_; rintro e w8 ⟨rfl, hb⟩; have HX8 := Aside0.mk (blk_below HX7.out hb); have HR8 := Aside0.mk (Kd.R_below HR7.out hb); have HG8 := Aside0.mk (World.grownBy.trans HG7.out (grown_of_below hb (some g))); have HB8 := Aside0.mk (below_then HB7.out HB7.out.size hb); clear hb HX7)
     | ((with_reducible refine gate_load (x := .tmp 7) 56 rfl ?_); refine wpList_load_row rfl 56 (.tmp 7) rfl g7 rfl 56 _ (0, 0) _ HX8.out hu56 rfl info56s ?_)
     | ((with_reducible refine gate_stores (x := .tmp 33) (y := .tmp 32) 56 rfl ?_); refine wpList_store_mid rfl 56 (.tmp 33) (.tmp 32) rfl g (i * 8) #[.int .i64 x.f0, .int .i64 x.f1, .int .i64 x.f2, .int .i64 x.f3, .int .i64 x.f4, .int .i64 x.f5, .slice A6 x.f6.length c6, .int .i64 x.f7] rfl rfl (frz_there HR8.out (i * 8) 8 (by rw [HMr.out.len hj1]; show i * 8 + 8 ≤ l.length * 8; omega)) info56s (one56 x A6 c6) ?_; have hp : (frz k56 w0).R 56 (w8.setCells g (i * 8) (#[.int .i64 x.f0, .int .i64 x.f1, .int .i64 x.f2, .int .i64 x.f3, .int .i64 x.f4, .int .i64 x.f5, .slice A6 x.f6.length c6, .int .i64 x.f7] : Array Value).toList) w0.heap.size (fun _ => True) (.slice (some ⟨g, 0, none⟩) l.length c) (ys.set i x) ∧ w8.grownBy (w8.setCells g (i * 8) (#[.int .i64 x.f0, .int .i64 x.f1, .int .i64 x.f2, .int .i64 x.f3, .int .i64 x.f4, .int .i64 x.f5, .slice A6 x.f6.length c6, .int .i64 x.f7] : Array Value).toList) (some g) := frz_put HR8.out i (by rw [HMr.out.len hj1]; exact hij) HK.out; have HR9 := Aside0.mk hp.1; have HG9 := Aside0.mk (World.grownBy.trans HG8.out hp.2); have HB9 := Aside0.mk (pw_below_grown HB8.out (some g) HB8.out.size hp.2 (fun k hk => by injection hk with hk; subst hk; exact own_base (Kd.R_own HR8.out).choose_spec g rfl)); clear hp HR8 HG8 HB8; generalize w8.setCells g (i * 8) (#[.int .i64 x.f0, .int .i64 x.f1, .int .i64 x.f2, .int .i64 x.f3, .int .i64 x.f4, .int .i64 x.f5, .slice A6 x.f6.length c6, .int .i64 x.f7] : Array Value).toList = w9 at *))
     go_roundw
     case rel => exact ⟨j + 1, ys.set i x, by omega, by omega, by rw [HFT.out, HP.out]; simp [HII.out], by go_num, ⟨by have h2 := Mid.keep HMr.out HX.out HP.out (by rw [HII.out]; exact HLr.out); rw [HII.out] at h2; exact h2⟩, ⟨by rw [HFT.out, HP.out]; have := HLr.out; simp [HII.out]; omega⟩, HR9, HG9, HB9⟩
     case measure => simp [intOf]; omega
   ·obtain rfl : j = l.length := by omega
    have hlen := HMr.out.len (Nat.le_refl _)
    have hft : (l.take l.length).filter (fun x => !isCopy x) = l.filter (fun x => !isCopy x) := by rw [List.take_length]
    have HYS : Aside0 (ys.take (l.filter (fun x => !isCopy x)).length = l.filter (fun x => !isCopy x)) := ⟨by
     obtain ⟨M, he, hl2⟩ := HMr.out
     rw [hft] at he
     rw [he, List.append_assoc, List.take_left']
     rfl⟩
    rw [hft] at HLr
    simp only [hft]
    have hfl : (l.filter (fun x => !isCopy x)).length < l.length := HLr.out
    obtain ⟨vs, hclr⟩ := run_clear_cells (P := Try.prog) wr 25 56 0 (.agg #[.int .i64 0, .int .i64 0, .int .i64 0, .int .i64 0, .int .i64 0, .int .i64 0, .slice none 0 0, .int .i64 0]) Try.underlying25 (fun w => by first | (go_simp; done) | (go_simp; rfl)) g ((l.filter (fun x => !isCopy x)).length * 8) (l.length - (l.filter (fun x => !isCopy x)).length) (c - (l.filter (fun x => !isCopy x)).length) (frz_there HRr.out _ _ (by rw [zero56_len, hlen]; show _ ≤ l.length * 8; omega)) (zero56_one _)
    have HCUT := Aside0.mk (show (frz k56 w0).C (wr.setCells g ((l.filter (fun x => !isCopy x)).length * 8) vs) _ _ _ from frz_cut HRr.out (l.filter (fun x => !isCopy x)).length (by rw [hlen]; omega) vs)
    have HGE : Aside0 (wr.grownBy (wr.setCells g ((l.filter (fun x => !isCopy x)).length * 8) vs) (some g)) := ⟨by
     obtain ⟨inner, ho⟩ := Kd.R_own HRr.out
     rw [hlen] at ho
     exact (own_setCells vs _ wr _ ho).2⟩
    have HFLL : Aside0 ((l.filter (fun x => !isCopy x)).length ≤ c) := ⟨by have := HL.out; omega⟩
    clear HRr HBr HMr hft hlen
    generalize hn : (l.filter (fun x => !isCopy x)).length = n at *
    have HN := Aside0.mk hn
    clear hn
    have hnc : n ≤ c := HFLL.out
    have hnci : (n : Int) ≤ (c : Int) := by exact_mod_cast hnc
    have HGA := Aside0.mk (World.grownBy.trans HGr.out HGE.out)
    have HCT := Aside0.mk (HYS.out ▸ HCUT.out)
    clear HGr HGE HYS HCUT
    go_wp2_with fail
    ·exfalso; have h2 := HL.out; omega
    ·go_ret
     exact ⟨some ⟨g, 0, none⟩, c, by rw [HN.out]; rfl, by rw [HN.out]; exact hnc, by rw [HN.out]; exact HCT.out, HGA.out⟩
set_option maxHeartbeats 3200000 in
set_option maxRecDepth 100000 in
theorem delete_ins_31 (v : Value) (l : List S56) (w0 w : World) (hB : Below w0.heap.size w0 w) (hR : Kd.R (frz k56 w0) 56 w w0.heap.size (fun _ => True) v l) (hl : l.length ≤ 1000000) :
  Calls Try.prog 33 #[v, .func (.func 31) #[] #[]] w fun e w' => ∃ A c, e = .returned (.slice A (l.filter fun x => !isIns x).length c) ∧ (l.filter fun x => !isIns x).length ≤ c ∧ (frz k56 w0).C w' A (l.filter fun x => !isIns x).length (l.filter fun x => !isIns x) ∧ w.grownBy w' v.ownBlock := by
 obtain ⟨A, c, rfl, hc, hC⟩ := Kd.R_reads hR
 have HC := Aside0.mk hC
 have HCC := Aside0.mk (frz_C hC hB)
 have HL := Aside0.mk hc
 have HR := Aside0.mk hR
 have HB := Aside0.mk hB
 have HI := Aside0.mk (index31_f l hl)
 have hge := idxOf_ge isIns l
 clear hc hC hR hB
 by_cases hi : idxOf isIns l = -1
 ·have hF : l.filter (fun x => !isIns x) = l := by
   refine List.filter_eq_self.2 fun x hx => ?_
   rcases hq : isIns x with _ | _
   ·rfl
   ·exfalso
    have h1 := idxOf_any isIns l
    rw [hi, decide_eq_false (by omega)] at h1
    have h2 := List.any_eq_false.1 h1.symm x hx
    exact h2 hq
  rw [hF]
  rw [hi] at HI
  clear hi hge hF
  go_enter Try.func33, Try.ntmps33
  go_wp2_with (first | (go_at_call 57; refine (index_ins_inserted.calls (l.length + 1) A c l (-1) _ HCC.out HL.out HI.out).mono ?_; rintro e w1 ⟨rfl, hb⟩; have HB1 := Aside0.mk hb; clear hb))
  go_ret
  exact ⟨_, _, rfl, HL.out, Kd.C_below HC.out HB1.out, grown_of_below HB1.out _⟩
 ·obtain ⟨k0, hk0⟩ : ∃ k0 : Nat, idxOf isIns l = (k0 : Int) := ⟨(idxOf isIns l).toNat, by omega⟩
  rw [hk0] at HI
  obtain ⟨x0, hx0, hpx0, hno0⟩ := idxOf_spec isIns l k0 hk0
  have hk0l : k0 < l.length := (List.getElem?_eq_some_iff.1 hx0).1
  obtain ⟨g, cap, hv⟩ : ∃ g cap, A = some ⟨g, 0, none⟩ ∧ c = cap := by
   obtain ⟨inner, ho⟩ := Kd.R_own HR.out
   obtain ⟨g, cap, he, _⟩ := ho.form (by omega)
   injection he with h1 h2 h3
   exact ⟨g, cap, h1, h3⟩
  obtain ⟨rfl, rfl⟩ := hv
  have hF0 : (l.take k0).filter (fun x => !isIns x) = l.take k0 := List.filter_eq_self.2 fun x hx => by rw [hno0 x hx]; rfl
  have hM0 : Mid isIns l (k0 + 1) l := by
   refine Mid.skip (x := x0) ⟨[], ?_, ?_⟩ hx0 hpx0
   ·rw [hF0, List.append_nil, List.take_append_drop]
   ·rw [hF0, List.length_take]; simp; omega
  have HM0 := Aside0.mk hM0
  have HF1 : Aside0 (((l.take (k0 + 1)).filter (fun x => !isIns x)).length = k0) := ⟨by rw [filter_take _ l k0 x0 hx0, if_neg (by simp [hpx0]), List.append_nil, hF0, List.length_take]; omega⟩
  clear hM0 hF0 hno0 hpx0 hx0 hge hi hk0
  have hu56 := Try.underlying56
  have hkm : ((k0 : Int) == -1) = false := by rw [beq_eq_false_iff_ne]; omega
  go_enter Try.func33, Try.ntmps33
  go_wp2_with (first | (go_at_call 57; refine (index_ins_inserted.calls (l.length + 1) _ c l k0 _ HCC.out HL.out HI.out).mono ?_; rintro e w1 ⟨rfl, hb⟩; have HB1 := Aside0.mk hb; clear hb))
  go_loopw [5, 6] (fun vi vj wr => ∃ (j : Nat) (ys : List S56), k0 + 1 ≤ j ∧ j ≤ l.length ∧ vi = .int .i64 (((l.take j).filter (fun x => !isIns x)).length : Int) ∧ vj = .int .i64 j ∧ Aside0 (Mid isIns l j ys) ∧ Aside0 (((l.take j).filter (fun x => !isIns x)).length < j) ∧ Aside0 (Kd.R (frz k56 w0) 56 wr w0.heap.size (fun _ => True) (.slice (some ⟨g, 0, none⟩) l.length c) ys) ∧ Aside0 (w.grownBy wr (some g)) ∧ Aside0 (Below w0.heap.size w0 wr)) (fun _ vj _ => l.length - (intOf vj).toNat)
  case atStart => exact ⟨k0 + 1, l, by omega, by omega, by rw [HF1.out], rfl, HM0, ⟨by rw [HF1.out]; omega⟩, ⟨Kd.R_below HR.out HB1.out⟩, ⟨grown_of_below HB1.out _⟩, ⟨below_then HB.out HB.out.size HB1.out⟩⟩
  case round =>
   obtain ⟨j, ys, hj0, hj1, rfl, rfl, HMr, HLr, HRr, HGr, HBr⟩ := hrel
   clear HM0 HF1 HR HB HC HCC HI
   by_cases hlt : j < l.length
   ·obtain ⟨x, hx⟩ : ∃ x, l[j]? = some x := ⟨_, List.getElem?_eq_getElem hlt⟩
    obtain ⟨c8, hl8, hK, hra⟩ := frz_chunk HRr.out j ((HMr.out.at_ hj1).trans hx)
    obtain ⟨A6, c6, rfl, hl6, hi6⟩ := k56_open hK
    have HK := Aside0.mk hK
    have HRA := Aside0.mk (show wr.rangeAt g (j * 8) _ from hra)
    have HX := Aside0.mk hx
    have H6 := Aside0.mk hi6
    have HL6 := Aside0.mk hl6
    have HFT := Aside0.mk (filter_take (fun x => !isIns x) l j x hx)
    obtain ⟨b, hb⟩ : ∃ b, isIns x = b := ⟨_, rfl⟩
    have HP := Aside0.mk hb
    have hij : ((l.take j).filter (fun x => !isIns x)).length < l.length := by have := HLr.out; omega
    have hfl : ((l.take j).filter (fun x => !isIns x)).length ≤ 1000000 := by omega
    clear hx hl8 hK hra hl6 hi6 hb
    generalize hii : ((l.take j).filter (fun x => !isIns x)).length = i at *
    have HII := Aside0.mk hii
    clear hii
    cases b with
    | true =>
     go_wp2_with (first
     | ((with_reducible refine gate_load (x := .tmp 24) 56 rfl ?_); refine wpList_load_mid rfl 56 (.tmp 24) rfl g (j * 8) rfl _ _ HRA.out hu56 rfl info56s ?_)
     | ((with_reducible refine gate_dst (N := 7) rfl ?_); refine box_event ?hg (N := 7) ?hd (cs := #[.int .i64 0, .int .i64 0, .int .i64 0, .int .i64 0, .int .i64 0, .int .i64 0, .slice none 0 0, .int .i64 0]) (t := 56) ?hr ?_; (case hd => rfl); (case hg => rfl); (case hr => first | (go_simp; done) | (go_simp; rfl)); intro g7 hg w5 hbox hb; have HX5 := Aside0.mk hbox; have HR5 := Aside0.mk (Kd.R_below HRr.out hb); have HG5 := Aside0.mk (World.grownBy.trans HGr.out (grown_of_below hb (some g))); have HB5 := Aside0.mk (below_then HBr.out HBr.out.size hb); have HN5 := Aside0.mk (ne_new HRr.out hg); clear hb hbox hg)
     | ((with_reducible refine gate_stores (x := .tmp 7) (y := .tmp 25) 56 rfl ?_); refine wpList_store_row rfl 56 (.tmp 7) (.tmp 25) rfl g7 _ rfl rfl 56 _ HX5.out info56s rfl (one56 x A6 c6) ?_; have HX7 := Aside0.mk (setRow_heap _ _ _ #[.int .i64 x.f0, .int .i64 x.f1, .int .i64 x.f2, .int .i64 x.f3, .int .i64 x.f4, .int .i64 x.f5, .slice A6 x.f6.length c6, .int .i64 x.f7] _ _ HX5.out); have hk7 := keep_setRow w5 g7 #[.int .i64 x.f0, .int .i64 x.f1, .int .i64 x.f2, .int .i64 x.f3, .int .i64 x.f4, .int .i64 x.f5, .slice A6 x.f6.length c6, .int .i64 x.f7]; have HR7 := Aside0.mk (R_at HR5.out (hk7.1 g HN5.out.1.symm)); have HG7 := Aside0.mk (grown_at HG5.out hk7.2 (fun k hk => hk7.1 k (by rintro rfl; exact HN5.out.2 (Nat.lt_of_lt_of_le hk HGr.out.size)))); have HB7 := Aside0.mk (below_at HB5.out hk7.2 (fun k hk => hk7.1 k (by rintro rfl; exact HN5.out.2 (Nat.lt_of_lt_of_le hk HBr.out.size)))); clear hk7 HX5 HR5 HG5 HB5; generalize w5.setRow g7 #[.int .i64 x.f0, .int .i64 x.f1, .int .i64 x.f2, .int .i64 x.f3, .int .i64 x.f4, .int .i64 x.f5, .slice A6 x.f6.length c6, .int .i64 x.f7] = w7 at *)
     | ((with_reducible refine gate_load (x := .tmp 7) 56 rfl ?_); refine wpList_load_row rfl 56 (.tmp 7) rfl g7 rfl 56 _ (0, 0) _ HX7.out hu56 rfl info56s ?_)
     | (go_at_call 31; refine (check_Does_2.calls x.f0 x.f1 x.f2 x.f3 x.f4 x.f5 A6 c6 x.f6 x.f7 _ _ (Kd.C_below H6.out HB7.out) HL6.out (HP.out ▸ does2_f x)).mono ?_; rintro e w8 ⟨rfl, hb⟩; have HX8 := Aside0.mk (blk_below HX7.out hb); have HR8 := Aside0.mk (Kd.R_below HR7.out hb); have HG8 := Aside0.mk (World.grownBy.trans HG7.out (grown_of_below hb (some g))); have HB8 := Aside0.mk (below_then HB7.out HB7.out.size hb); clear hb HX7))
     go_roundw
     case rel => exact ⟨j + 1, ys, by omega, by omega, by rw [HFT.out, HP.out]; simp [HII.out], by go_num, ⟨Mid.skip HMr.out HX.out HP.out⟩, ⟨by rw [HFT.out, HP.out]; have := HLr.out; simp [HII.out]; omega⟩, HR8, HG8, HB8⟩
     case measure => simp [intOf]; omega
    | false =>
     go_wp2_with (first
     | ((with_reducible refine gate_load (x := .tmp 24) 56 rfl ?_); refine wpList_load_mid rfl 56 (.tmp 24) rfl g (j * 8) rfl _ _ HRA.out hu56 rfl info56s ?_)
     | ((with_reducible refine gate_dst (N := 7) rfl ?_); refine box_event ?hg (N := 7) ?hd (cs := #[.int .i64 0, .int .i64 0, .int .i64 0, .int .i64 0, .int .i64 0, .int .i64 0, .slice none 0 0, .int .i64 0]) (t := 56) ?hr ?_; (case hd => rfl); (case hg => rfl); (case hr => first | (go_simp; done) | (go_simp; rfl)); intro g7 hg w5 hbox hb; have HX5 := Aside0.mk hbox; have HR5 := Aside0.mk (Kd.R_below HRr.out hb); have HG5 := Aside0.mk (World.grownBy.trans HGr.out (grown_of_below hb (some g))); have HB5 := Aside0.mk (below_then HBr.out HBr.out.size hb); have HN5 := Aside0.mk (ne_new HRr.out hg); clear hb hbox hg)
     | ((with_reducible refine gate_stores (x := .tmp 7) (y := .tmp 25) 56 rfl ?_); refine wpList_store_row rfl 56 (.tmp 7) (.tmp 25) rfl g7 _ rfl rfl 56 _ HX5.out info56s rfl (one56 x A6 c6) ?_; have HX7 := Aside0.mk (setRow_heap _ _ _ #[.int .i64 x.f0, .int .i64 x.f1, .int .i64 x.f2, .int .i64 x.f3, .int .i64 x.f4, .int .i64 x.f5, .slice A6 x.f6.length c6, .int .i64 x.f7] _ _ HX5.out); have hk7 := keep_setRow w5 g7 #[.int .i64 x.f0, .int .i64 x.f1, .int .i64 x.f2, .int .i64 x.f3, .int .i64 x.f4, .int .i64 x.f5, .slice A6 x.f6.length c6, .int .i64 x.f7]; have HR7 := Aside0.mk (R_at HR5.out (hk7.1 g HN5.out.1.symm)); have HG7 := Aside0.mk (grown_at HG5.out hk7.2 (fun k hk => hk7.1 k (by rintro rfl; exact HN5.out.2 (Nat.lt_of_lt_of_le hk HGr.out.size)))); have HB7 := Aside0.mk (below_at HB5.out hk7.2 (fun k hk => hk7.1 k (by rintro rfl; exact HN5.out.2 (Nat.lt_of_lt_of_le hk HBr.out.size)))); clear hk7 HX5 HR5 HG5 HB5; generalize w5.setRow g7 #[.int .i64 x.f0, .int .i64 x.f1, .int .i64 x.f2, .int .i64 x.f3, .int .i64 x.f4, .int .i64 x.f5, .slice A6 x.f6.length c6, .int .i64 x.f7] = w7 at *)
     | ((with_reducible refine gate_load (x := .tmp 7) 56 rfl ?_); refine wpList_load_row rfl 56 (.tmp 7) rfl g7 rfl 56 _ (0, 0) _ HX7.out hu56 rfl info56s ?_)
     | (go_at_call 31; refine (check_Does_2.calls x.f0 x.f1 x.f2 x.f3 x.f4 x.f5 A6 c6 x.f6 x.f7 _ _ (Kd.C_below H6.out HB7.out) HL6.out (HP.out ▸ does2_f x)).mono ?_; rintro e w8 ⟨rfl, hb⟩; have HX8 := Aside0.mk (blk_below HX7.out hb); have HR8 := Aside0.mk (Kd.R_below HR7.out hb); have HG8 := Aside0.mk (World.grownBy.trans HG7.out (grown_of_below hb (some g))); have HB8 := Aside0.mk (below_then HB7.out HB7.out.size hb); clear hb HX7)
     | ((with_reducible refine gate_load (x := .tmp 7) 56 rfl ?_); refine wpList_load_row rfl 56 (.tmp 7) rfl g7 rfl 56 _ (0, 0) _ HX8.out hu56 rfl info56s ?_)
     | ((with_reducible refine gate_stores (x := .tmp 33) (y := .tmp 32) 56 rfl ?_); refine wpList_store_mid rfl 56 (.tmp 33) (.tmp 32) rfl g (i * 8) #[.int .i64 x.f0, .int .i64 x.f1, .int .i64 x.f2, .int .i64 x.f3, .int .i64 x.f4, .int .i64 x.f5, .slice A6 x.f6.length c6, .int .i64 x.f7] rfl rfl (frz_there HR8.out (i * 8) 8 (by rw [HMr.out.len hj1]; show i * 8 + 8 ≤ l.length * 8; omega)) info56s (one56 x A6 c6) ?_; have hp : (frz k56 w0).R 56 (w8.setCells g (i * 8) (#[.int .i64 x.f0, .int .i64 x.f1, .int .i64 x.f2, .int .i64 x.f3, .int .i64 x.f4, .int .i64 x.f5, .slice A6 x.f6.length c6, .int .i64 x.f7] : Array Value).toList) w0.heap.size (fun _ => True) (.slice (some ⟨g, 0, none⟩) l.length c) (ys.set i x) ∧ w8.grownBy (w8.setCells g (i * 8) (#[.int .i64 x.f0, .int .i64 x.f1, .int .i64 x.f2, .int .i64 x.f3, .int .i64 x.f4, .int .i64 x.f5, .slice A6 x.f6.length c6, .int .i64 x.f7] : Array Value).toList) (some g) := frz_put HR8.out i (by rw [HMr.out.len hj1]; exact hij) HK.out; have HR9 := Aside0.mk hp.1; have HG9 := Aside0.mk (World.grownBy.trans HG8.out hp.2); have HB9 := Aside0.mk (pw_below_grown HB8.out (some g) HB8.out.size hp.2 (fun k hk => by injection hk with hk; subst hk; exact own_base (Kd.R_own HR8.out).choose_spec g rfl)); clear hp HR8 HG8 HB8; generalize w8.setCells g (i * 8) (#[.int .i64 x.f0, .int .i64 x.f1, .int .i64 x.f2, .int .i64 x.f3, .int .i64 x.f4, .int .i64 x.f5, .slice A6 x.f6.length c6, .int .i64 x.f7] : Array Value).toList = w9 at *))
     go_roundw
     case rel => exact ⟨j + 1, ys.set i x, by omega, by omega, by rw [HFT.out, HP.out]; simp [HII.out], by go_num, ⟨by have h2 := Mid.keep HMr.out HX.out HP.out (by rw [HII.out]; exact HLr.out); rw [HII.out] at h2; exact h2⟩, ⟨by rw [HFT.out, HP.out]; have := HLr.out; simp [HII.out]; omega⟩, HR9, HG9, HB9⟩
     case measure => simp [intOf]; omega
   ·obtain rfl : j = l.length := by omega
    have hlen := HMr.out.len (Nat.le_refl _)
    have hft : (l.take l.length).filter (fun x => !isIns x) = l.filter (fun x => !isIns x) := by rw [List.take_length]
    have HYS : Aside0 (ys.take (l.filter (fun x => !isIns x)).length = l.filter (fun x => !isIns x)) := ⟨by
     obtain ⟨M, he, hl2⟩ := HMr.out
     rw [hft] at he
     rw [he, List.append_assoc, List.take_left']
     rfl⟩
    rw [hft] at HLr
    simp only [hft]
    have hfl : (l.filter (fun x => !isIns x)).length < l.length := HLr.out
    obtain ⟨vs, hclr⟩ := run_clear_cells (P := Try.prog) wr 25 56 0 (.agg #[.int .i64 0, .int .i64 0, .int .i64 0, .int .i64 0, .int .i64 0, .int .i64 0, .slice none 0 0, .int .i64 0]) Try.underlying25 (fun w => by first | (go_simp; done) | (go_simp; rfl)) g ((l.filter (fun x => !isIns x)).length * 8) (l.length - (l.filter (fun x => !isIns x)).length) (c - (l.filter (fun x => !isIns x)).length) (frz_there HRr.out _ _ (by rw [zero56_len, hlen]; show _ ≤ l.length * 8; omega)) (zero56_one _)
    have HCUT := Aside0.mk (show (frz k56 w0).C (wr.setCells g ((l.filter (fun x => !isIns x)).length * 8) vs) _ _ _ from frz_cut HRr.out (l.filter (fun x => !isIns x)).length (by rw [hlen]; omega) vs)
    have HGE : Aside0 (wr.grownBy (wr.setCells g ((l.filter (fun x => !isIns x)).length * 8) vs) (some g)) := ⟨by
     obtain ⟨inner, ho⟩ := Kd.R_own HRr.out
     rw [hlen] at ho
     exact (own_setCells vs _ wr _ ho).2⟩
    have HFLL : Aside0 ((l.filter (fun x => !isIns x)).length ≤ c) := ⟨by have := HL.out; omega⟩
    clear HRr HBr HMr hft hlen
    generalize hn : (l.filter (fun x => !isIns x)).length = n at *
    have HN := Aside0.mk hn
    clear hn
    have hnc : n ≤ c := HFLL.out
    have hnci : (n : Int) ≤ (c : Int) := by exact_mod_cast hnc
    have HGA := Aside0.mk (World.grownBy.trans HGr.out HGE.out)
    have HCT := Aside0.mk (HYS.out ▸ HCUT.out)
    clear HGr HGE HYS HCUT
    go_wp2_with fail
    ·exfalso; have h2 := HL.out; omega
    ·go_ret
     exact ⟨some ⟨g, 0, none⟩, c, by rw [HN.out]; rfl, by rw [HN.out]; exact hnc, by rw [HN.out]; exact HCT.out, HGA.out⟩
end Go.Proofs.Ytdlgkmnloijnbaa.Q
