/- What the functions of flat tell is there: for all facts, for all blocks that do each other. -/
import Derived.Test.YtdlgkmnloijnbaaC1HFlatBe
set_option linter.unusedVariables false
set_option linter.unusedSimpArgs false
namespace Go.Proofs.Ytdlgkmnloijnbaa.Q
open Go.RowKit Go.Proofs.YtdlgkmnloijnbaaW.PrintWords Go.Proofs.YtdlgkmnloijnbaaW.PrintLast Go.Proofs.YtdlgkmnloijnbaaW.PrintMore

theorem bind_tot {α β : Type} {a : Option α} {f : α → Option β} (h : ∃ r, a = some r) (k : ∀ x, ∃ r, f x = some r) : ∃ r, a.bind f = some r := by
 obtain ⟨x, rfl⟩ := h
 exact k x
theorem ite_tot {α : Type} {c : Prop} [Decidable c] {a b : Option α} (h : c → ∃ r, a = some r) (k : ¬ c → ∃ r, b = some r) : ∃ r, (if c then a else b) = some r := by
 split
 ·exact h ‹_›
 ·exact k ‹_›
theorem fits_tot (a : Bool) (b : Int) : ∃ r, ir_fits.f a b = some r := by
 unfold ir_fits.f ir_variable.f
 repeat' first
  | exact ⟨_, rfl⟩
  | refine ite_tot (fun _ => ?_) (fun _ => ?_)
  | refine bind_tot ?_ (fun _ => ?_)
theorem none_tot (l : List Int) : ∃ r, ir_none.f l = some r := by
 unfold ir_none.f contains_int_95.f
 repeat' first
  | exact ⟨_, rfl⟩
  | refine bind_tot ?_ (fun _ => ?_)
theorem isins_tot (k : Nat) (a b c d e f : Int) (l : List Int) (g : Int) : ∃ r, ir_IsIns.f (k + 2) a b c d e f l g = some r := by
 unfold ir_IsIns.f ir_IsIns.j0 ir_IsIns.j1 ir_shaped.f contains_int_90.f
 repeat' first
  | exact ⟨_, rfl⟩
  | exact fits_tot _ _
  | exact none_tot _
  | refine ite_tot (fun _ => ?_) (fun _ => ?_)
  | refine bind_tot ?_ (fun _ => ?_)
theorem defines_tot (k : Nat) (a b c d e f : Int) (l : List Int) (g : Int) : ∃ r, ir_Defines.f (k + 2) a b c d e f l g = some r := by
 unfold ir_Defines.f
 repeat' first
  | exact ⟨_, rfl⟩
  | exact isins_tot _ _ _ _ _ _ _ _ _
  | refine ite_tot (fun _ => ?_) (fun _ => ?_)
  | refine bind_tot ?_ (fun _ => ?_)
theorem places_1 (k : Nat) (a : Int) : mir_places.f (k + 2) [a] = some [⟨false, a⟩] := by
 simp [mir_places.f, mir_places.l0, wrap64, rd]
theorem places_2 (k : Nat) (a b : Int) : mir_places.f (k + 3) [a, b] = some [⟨false, a⟩, ⟨false, b⟩] := by
 simp [mir_places.f, mir_places.l0, wrap64, rd]
theorem writes_tot (k : Nat) (m : S24) (x : S56) : ∃ r, mir_Writes.f (k + 2) m.f0 m.f1 m.f2 m.f3 x.f0 x.f1 x.f2 x.f3 x.f4 x.f5 x.f6 x.f7 = some r ∧ r.length ≤ 1 := by
 unfold mir_Writes.f mir_has.f mir_parts_with.f
 simp only [Option.bind_some, places_1]
 repeat' split
 all_goals exact ⟨_, rfl, by simp⟩
theorem loc_tot (k : Nat) (l : List S33) (s : Bool) (n : Int) (h : l.length ≤ 1) : ∃ r, api_Loc_74.f (k + 2) l s n = some r := by
 unfold api_Loc_74.f api_Loc_83.f
 refine bind_tot ?_ (fun _ => ⟨_, rfl⟩)
 match l, h with
 | [], _ => exact ⟨_, by simp [api_Loc_83.l0]; rfl⟩
 | [a], _ =>
  simp only [api_Loc_83.l0, List.length_cons, List.length_nil]
  rw [if_pos (by simp), if_pos (by simp), if_pos (by simp)]
  split
  ·exact ⟨_, rfl⟩
  ·exact ⟨_, by rw [if_neg (by simp [wrap64])]⟩
theorem index_tot (x : Int) (l : List Int) (hl : l.length ≤ 1000000) : ∀ (d k j : Nat), l.length - j ≤ d → j ≤ l.length → ∃ r, slices_Index_int_int.l0 (k + d + 1) l x (l.length : Int) (j : Int) = some r
 | 0, k, j, h, hj => by
  simp only [slices_Index_int_int.l0]
  rw [if_neg (by omega)]
  exact ⟨_, rfl⟩
 | d + 1, k, j, h, hj => by
  rw [show k + (d + 1) + 1 = (k + d + 1) + 1 by omega]
  simp only [slices_Index_int_int.l0]
  refine ite_tot (fun h1 => ?_) (fun _ => ⟨_, rfl⟩)
  refine ite_tot (fun h2 => ?_) (fun h2 => absurd h2 (by omega))
  refine ite_tot (fun h3 => ?_) (fun h3 => absurd h3 (by omega))
  refine ite_tot (fun _ => ⟨_, rfl⟩) (fun _ => ?_)
  rw [show wrap64 ((j : Int) + 1) = ((j + 1 : Nat) : Int) by unfold wrap64; omega]
  exact index_tot x l hl d k (j + 1) (by omega) (by omega)
theorem contains_tot (k : Nat) (x : Int) (l : List Int) (hl : l.length ≤ 64) : ∃ r, slices_Contains_int_int.f (k + 65) l x = some r := by
 unfold slices_Contains_int_int.f slices_Index_int_int.f
 refine bind_tot ?_ (fun _ => ⟨_, rfl⟩)
 have h := index_tot x l (by omega) 64 k 0 (by omega) (by omega)
 exact h
theorem lost_len (m : S24) : ∃ r, mach_Lost.f m.f0 m.f1 m.f2 m.f3 = some r ∧ r.length ≤ 64 := by
 refine ⟨_, rfl, ?_⟩
 split
 ·rename_i h
  have h1 : m.f0 ≤ 64 := by
   simp only [rightB, Bool.and_eq_true, decide_eq_true_eq] at h
   exact h.2.1
  unfold lostTo
  refine Nat.le_trans (List.length_filter_le _ _) ?_
  simp
  omega
 ·simp
theorem ask_tot (k : Nat) (i j : S56) (l : Bool) (m : S24) (x : Int) (s : Bool) (n : Int) : ∃ r, flat_done_ask.f (k + 100) i.f0 i.f1 i.f2 i.f3 i.f4 i.f5 i.f6 i.f7 j.f0 j.f1 j.f2 j.f3 j.f4 j.f5 j.f6 j.f7 l m.f0 m.f1 m.f2 m.f3 x s n = some r := by
 obtain ⟨ws, hw, hwl⟩ := writes_tot (k + 98) m j
 obtain ⟨lo, hlo, hll⟩ := lost_len m
 unfold flat_done_ask.f
 rw [hw]
 simp only [Option.bind_some]
 refine bind_tot (defines_tot _ _ _ _ _ _ _ _ _) (fun v => ?_)
 have h2 : ∀ b, ∃ r, flat_done_ask.j2 (k + 98) b i.f0 i.f1 i.f2 i.f3 i.f4 i.f5 i.f6 i.f7 j.f0 j.f1 j.f2 j.f3 j.f4 j.f5 j.f6 j.f7 l m.f0 m.f1 m.f2 m.f3 x s n = some r := by
  intro b
  simp only [flat_done_ask.j2, hlo, Option.bind_some]
  repeat' first
   | exact ⟨_, rfl⟩
   | exact contains_tot (k + 32) _ _ hll
   | refine ite_tot (fun _ => ?_) (fun _ => ?_)
   | refine bind_tot ?_ (fun _ => ?_)
 have h1 : ∀ o b, ∃ r, flat_done_ask.j1 (k + 99) ws o b i.f0 i.f1 i.f2 i.f3 i.f4 i.f5 i.f6 i.f7 j.f0 j.f1 j.f2 j.f3 j.f4 j.f5 j.f6 j.f7 l m.f0 m.f1 m.f2 m.f3 x s n = some r := by
  intro o b
  simp only [flat_done_ask.j1]
  repeat' first
   | exact ⟨_, rfl⟩
   | exact h2 _
   | exact loc_tot (k + 96) _ _ _ hwl
   | refine ite_tot (fun _ => ?_) (fun _ => ?_)
   | refine bind_tot ?_ (fun _ => ?_)
 have h0 : ∀ o, ∃ r, flat_done_ask.j0 (k + 100) ws o i.f0 i.f1 i.f2 i.f3 i.f4 i.f5 i.f6 i.f7 j.f0 j.f1 j.f2 j.f3 j.f4 j.f5 j.f6 j.f7 l m.f0 m.f1 m.f2 m.f3 x s n = some r := by
  intro o
  simp only [flat_done_ask.j0]
  refine ite_tot (fun _ => ?_) (fun _ => h1 _ _)
  refine ite_tot (fun hp => ?_) (fun _ => h1 _ _)
  refine ite_tot (fun _ => h1 _ _) (fun hq => absurd hp (by omega))
 exact ite_tot (fun _ => h0 _) (fun _ => h0 _)
theorem fuelOf_le (l : List S56) : 100 ≤ fuelOf l := by unfold fuelOf; omega
theorem ahead_tot (k : Nat) (hk : 100 ≤ k) (m : S24) (e : Ev) (x : Int) (s : Bool) (n : Int) : (aheadE k m e x s n).isSome = true := by
 obtain ⟨k, rfl⟩ : ∃ j, k = j + 100 := ⟨k - 100, by omega⟩
 cases e with
 | cp a b => rfl
 | mv a b => rfl
 | fin => rfl
 | dn i j l =>
  obtain ⟨r, hr⟩ := ask_tot k i j l m x s n
  rw [show aheadE (k + 100) m (.dn i j l) x s n = (flat_done_ask.f (k + 100) i.f0 i.f1 i.f2 i.f3 i.f4 i.f5 i.f6 i.f7 j.f0 j.f1 j.f2 j.f3 j.f4 j.f5 j.f6 j.f7 l m.f0 m.f1 m.f2 m.f3 x s n).map fun r => (r, x, s, n) from rfl, hr]
  rfl
theorem before_tot (k : Nat) (hk : 100 ≤ k) (m : S24) : ∀ (l : List Ev) (x : Int) (s : Bool) (n : Int), ∃ r y t q, beforeE k m l x s n = some (r, y, t, q) ∧ (r = 3 ∨ (y = 0 ∧ t = false ∧ q = 0))
 | [], x, s, n => ⟨3, x, s, n, rfl, .inl rfl⟩
 | e :: l, x, s, n => by
  obtain ⟨⟨r, y, t, q⟩, ha⟩ := Option.isSome_iff_exists.1 (ahead_tot k hk m e x s n)
  by_cases h3 : r = 3
  ·obtain ⟨r2, y2, t2, q2, h, h'⟩ := before_tot k hk m l y t q
   exact ⟨r2, y2, t2, q2, by rw [beforeE, ha]; simp only [Option.bind_some]; rw [if_pos h3]; exact h, h'⟩
  ·exact ⟨r, 0, false, 0, by rw [beforeE, ha]; simp only [Option.bind_some]; rw [if_neg h3], .inr ⟨rfl, rfl, rfl⟩⟩
theorem insev_tot (k : Nat) (m : S24) (x : S56) (h : insB x.f0 = true) : ∃ r, insEv (k + 3) m x = some r := by
 have h3 : x.f0 = 15 ∨ x.f0 = 16 ∨ x.f0 = 17 := by simpa [insB] using h
 have b3_32 : (Go.bits .and .u8 3 32 != 0) = false := by kernel_rfl
 have b3_4 : (Go.bits .and .u8 3 4 != 0) = false := by kernel_rfl
 have b3_2 : (Go.bits .and .u8 3 2 != 0) = true := by kernel_rfl
 have b3_16 : (Go.bits .and .u8 3 16 != 0) = false := by kernel_rfl
 have b3_1 : (Go.bits .and .u8 3 1 != 0) = true := by kernel_rfl
 have b18_32 : (Go.bits .and .u8 18 32 != 0) = false := by kernel_rfl
 have b18_4 : (Go.bits .and .u8 18 4 != 0) = false := by kernel_rfl
 have b18_2 : (Go.bits .and .u8 18 2 != 0) = true := by kernel_rfl
 have b18_16 : (Go.bits .and .u8 18 16 != 0) = true := by kernel_rfl
 have b18_1 : (Go.bits .and .u8 18 1 != 0) = false := by kernel_rfl
 have b17_32 : (Go.bits .and .u8 17 32 != 0) = false := by kernel_rfl
 have b17_4 : (Go.bits .and .u8 17 4 != 0) = false := by kernel_rfl
 have b17_2 : (Go.bits .and .u8 17 2 != 0) = false := by kernel_rfl
 have b17_16 : (Go.bits .and .u8 17 16 != 0) = true := by kernel_rfl
 have b17_1 : (Go.bits .and .u8 17 1 != 0) = true := by kernel_rfl
 have t5 : hasI 15 = 3 := by kernel_rfl
 have t6 : hasI 16 = 18 := by kernel_rfl
 have t7 : hasI 17 = 17 := by kernel_rfl
 unfold insEv mir_Reads.f mir_Writes.f mir_has.f mir_parts_with.f
 rcases h3 with e | e | e <;> rw [e] <;> simp only [t5, t6, t7, Option.bind_some, b3_32, b3_4, b3_2, b3_16, b3_1, b18_32, b18_4, b18_2, b18_16, b18_1, b17_32, b17_4, b17_2, b17_16, b17_1, if_true, if_false, Bool.false_eq_true, places_1, places_2, List.length_cons, List.length_nil, true_and, and_self, Nat.zero_lt_one, Nat.lt_irrefl] <;> simp
theorem skip_tot (k : Nat) (m : S24) : ∀ (l : List S56), ∃ n es, skipL (k + 3) m l = some (n, es) ∧ n ≤ l.length ∧ (leftT (l.drop n)).length = (leftT l).length ∧ (∀ y t, l.drop n = y :: t → insB y.f0 = false)
 | [] => ⟨0, [], rfl, by simp, by simp, by simp⟩
 | x :: l => by
  by_cases hx : insB x.f0 = true
  ·obtain ⟨e, he⟩ := insev_tot k m x hx
   obtain ⟨n, es, h1, h2, h3, h4⟩ := skip_tot k m l
   refine ⟨n + 1, e :: es, ?_, ?_, ?_, ?_⟩
   ·rw [skipL, if_pos hx, he]; simp only [Option.bind_some]; rw [h1]; rfl
   ·simp; omega
   ·rw [List.drop_succ_cons, h3]
    simp [leftT, isIns, hx]
   ·intro y t; rw [List.drop_succ_cons]; exact h4 y t
  ·refine ⟨0, [], ?_, by simp, by simp, ?_⟩
   ·rw [skipL, if_neg hx]
   ·intro y t e
    rw [List.drop_zero] at e
    injection e with e1 e2
    subst e1
    simpa using hx
theorem events_tot (k : Nat) (m : S24) : ∀ (s t : List S56), (leftS s).length ≤ (leftT t).length → ∃ es, eventsL (k + 3) m s t = some es
 | [], t, _ => by
  obtain ⟨n, es, h1, _⟩ := skip_tot k m t
  exact ⟨_, by rw [eventsL, h1]; rfl⟩
 | i :: s, t, h => by
  by_cases hi : i.f0 = 14
  ·obtain ⟨es, he⟩ := events_tot k m s t (by simpa [leftS, isCopy, hi] using h)
   exact ⟨_, by rw [eventsL, if_pos hi, he]; rfl⟩
  ·obtain ⟨n, es, h1, h2, h3, h4⟩ := skip_tot k m t
   have h5 : (leftS s).length + 1 ≤ (leftT t).length := by simpa [leftS, isCopy, hi] using h
   cases hd : t.drop n with
   | nil => rw [hd] at h3; have h7 : (leftT ([] : List S56)).length = 0 := rfl; omega
   | cons y t' =>
    have h6 := h4 y t' hd
    rw [hd] at h3
    rw [show leftT (y :: t') = y :: leftT t' by simp [leftT, isIns, h6], List.length_cons] at h3
    obtain ⟨es2, he⟩ := events_tot k m s t' (by omega)
    exact ⟨_, by rw [eventsL, if_neg hi, h1]; simp only [Option.bind_some]; rw [hd]; simp only [Option.bind_some]; rw [he]; rfl⟩
theorem alike_tot (i j : S56) : ∃ r, check_alike.f i.f0 i.f1 i.f2 i.f3 i.f4 i.f5 i.f6 i.f7 j.f0 j.f1 j.f2 j.f3 j.f4 j.f5 j.f6 j.f7 = some r := by
 unfold check_alike.f
 repeat' first
  | exact ⟨_, rfl⟩
  | refine ite_tot (fun _ => ?_) (fun _ => ?_)
theorem equal_tot (a b : List S56) (he : a.length = b.length) (hl : a.length ≤ 1000000) : ∀ (d j : Nat), a.length - j ≤ d → j ≤ a.length → ∃ r, equal_ins_alike.l0 (d + 1) b a (a.length : Int) (j : Int) = some r
 | 0, j, h, hj => by
  simp only [equal_ins_alike.l0]
  rw [if_neg (by omega)]
  exact ⟨_, rfl⟩
 | d + 1, j, h, hj => by
  rw [equal_ins_alike.l0]
  refine ite_tot (fun h1 => ?_) (fun _ => ⟨_, rfl⟩)
  refine ite_tot (fun h2 => ?_) (fun h2 => absurd h2 (by omega))
  refine ite_tot (fun h3 => ?_) (fun h3 => absurd h3 (by omega))
  refine ite_tot (fun h4 => ?_) (fun h4 => absurd h4 (by omega))
  refine bind_tot (alike_tot _ _) (fun _ => ?_)
  refine ite_tot (fun _ => ?_) (fun _ => ⟨_, rfl⟩)
  rw [show wrap64 ((j : Int) + 1) = ((j + 1 : Nat) : Int) by unfold wrap64; omega]
  exact equal_tot a b he hl d (j + 1) (by omega) (by omega)
theorem left_len (l : List S56) : (leftS l).length ≤ l.length := List.length_filter_le _ _
theorem does_tot (m : S24) (s t : List S56) (a1 a2 a3 a4 b1 b2 b3 b4 : Int) (hs : s.length ≤ 1000000) (ht : t.length ≤ 1000000) :
  ∃ d, check_Does.f m.f0 m.f1 m.f2 m.f3 s a1 a2 a3 a4 t b1 b2 b3 b4 = some d ∧ (d = true → (leftS s).length = (leftT t).length) := by
 unfold check_Does.f
 rw [if_pos ⟨hs, ht⟩]
 by_cases hr : rightB m.f0 m.f1 m.f2 m.f3 = true
 ·rw [if_pos hr]
  by_cases hl : (leftS s).length = (leftT t).length
  ·obtain ⟨r, h⟩ : ∃ r, equal_ins_alike.f ((leftS s).length + 1) (leftS s) (leftT t) = some r := by
    unfold equal_ins_alike.f
    rw [if_pos (by omega)]
    exact equal_tot _ _ hl (Nat.le_trans (left_len s) hs) _ 0 (by omega) (by omega)
   rw [h]
   exact ⟨_, rfl, fun _ => hl⟩
  ·have h : equal_ins_alike.f ((leftS s).length + 1) (leftS s) (leftT t) = some false := by
    unfold equal_ins_alike.f
    rw [if_neg (by omega)]
   rw [h]
   exact ⟨_, rfl, fun h => by simp at h⟩
 ·rw [if_neg hr]
  exact ⟨_, rfl, fun h => by cases h⟩
theorem pick_tot (a n : Int) (h : 0 < n) (hn : n ≤ 4000000) : ∃ r, intarsiakit_Pick.f a n = some r ∧ 0 ≤ r ∧ r < n := by
 have h1 := Int.tmod_lt_of_pos a h
 have h2 : -n < Int.tmod a n := by
  have h3 := Int.tmod_lt_of_pos (-a) h
  rw [Int.neg_tmod] at h3
  omega
 unfold intarsiakit_Pick.f
 rw [if_neg (by omega), if_neg (by omega)]
 split
 ·exact ⟨_, rfl, by unfold wrap64; omega, by unfold wrap64; omega⟩
 ·exact ⟨_, rfl, by omega, h1⟩
theorem blocks_in (x0 : List S31) (i : Nat) (hi : i < x0.length) (hx : x0.length ≤ 2) (hl : ((rd_T31 x0 i).f0).length ≤ 17592186044416) (ha : ∀ x ∈ (rd_T31 x0 i).f0, x.f6.length ≤ 17592186044416) :
  ∀ (d j : Nat) (n : Int), ((rd_T31 x0 i).f0).length - j ≤ d → 0 ≤ n → n ≤ 70368744177664 → ∃ n', n ≤ n' ∧ n' ≤ 70368744177664 ∧ ∀ K r, intarsiakit_BlocksOf.l0 K x0 300 n' ((i : Int) + 1) = some r → ∃ K', intarsiakit_BlocksOf.l1 K' x0 300 n i j = some r
 | d, j, n, hd, h0, hn => by
  have hw : wrap64 ((i : Int) + 1) = (i : Int) + 1 := by unfold wrap64; omega
  by_cases hj : j < ((rd_T31 x0 i).f0).length
  ·by_cases h3 : n ≤ 300
   ·match d, hd with
    | 0, hd => omega
    | d + 1, hd =>
     have hm : (rd_T56 ((rd_T31 x0 i).f0) j) ∈ (rd_T31 x0 i).f0 := by
      unfold rd_T56
      rw [List.getD_eq_getElem?_getD, Int.toNat_natCast, List.getElem?_eq_getElem hj]
      exact List.getElem_mem hj
     have hb := ha _ hm
     obtain ⟨n', h1, h2, h4⟩ := blocks_in x0 i hi hx hl ha d (j + 1) (n + ((rd_T56 ((rd_T31 x0 i).f0) j).f6).length) (by omega) (by omega) (by omega)
     refine ⟨n', by omega, h2, fun K r hr => ?_⟩
     obtain ⟨K', hk⟩ := h4 K r hr
     refine ⟨K' + 1, ?_⟩
     rw [intarsiakit_BlocksOf.l1, if_pos (by omega), if_pos (by omega), if_pos (by omega), if_pos h3, if_pos (by omega)]
     rw [show wrap64 (n + (((rd_T56 ((rd_T31 x0 i).f0) j).f6).length : Int)) = n + ((rd_T56 ((rd_T31 x0 i).f0) j).f6).length by unfold wrap64; omega, show wrap64 ((j : Int) + 1) = ((j + 1 : Nat) : Int) by unfold wrap64; omega]
     exact hk
   ·refine ⟨n, by omega, hn, fun K r hr => ⟨K + 1, ?_⟩⟩
    rw [intarsiakit_BlocksOf.l1, if_pos (by omega), if_pos (by omega), if_pos (by omega), if_neg h3, hw]
    exact hr
  ·refine ⟨n, by omega, hn, fun K r hr => ⟨K + 1, ?_⟩⟩
   rw [intarsiakit_BlocksOf.l1, if_pos (by omega), if_pos (by omega), if_neg (by omega), hw]
   exact hr
theorem blocks_tot (s t : S31) (hs : s.f0.length ≤ 17592186044416) (ht : t.f0.length ≤ 17592186044416) (ax : ∀ x ∈ s.f0, x.f6.length ≤ 17592186044416) (at_ : ∀ x ∈ t.f0, x.f6.length ≤ 17592186044416) :
  ∃ k v, intarsiakit_BlocksOf.f k [s, t] 300 = some v ∧ 0 ≤ v ∧ v ≤ 70368744177664 ∧ (v ≤ 300 → s.f0.length ≤ 300 ∧ t.f0.length ≤ 300) := by
 have e0 : rd_T31 [s, t] ((0 : Nat) : Int) = s := rfl
 have e1 : rd_T31 [s, t] ((1 : Nat) : Int) = t := rfl
 obtain ⟨n1, a1, b1, c1⟩ := blocks_in [s, t] 0 (by simp) (by simp) (by rw [e0]; exact hs) (by rw [e0]; exact ax) s.f0.length 0 (1 + s.f0.length) (by rw [e0]; omega) (by omega) (by omega)
 have st : ∀ K r, intarsiakit_BlocksOf.l0 K [s, t] 300 n1 1 = some r → ∃ k, intarsiakit_BlocksOf.f k [s, t] 300 = some r := by
  intro K r hr
  obtain ⟨K', h⟩ := c1 K r hr
  refine ⟨K' + 2, ?_⟩
  rw [intarsiakit_BlocksOf.f, intarsiakit_BlocksOf.l0, if_pos (by simp), intarsiakit_BlocksOf.j1, if_pos (by simp), if_pos (by simp), if_pos (by simp)]
  rw [show wrap64 (wrap64 ((0 : Int) + 1) + (((rd_T31 [s, t] 0).f0).length : Int)) = 1 + s.f0.length by rw [show rd_T31 [s, t] 0 = s from rfl]; unfold wrap64; omega]
  exact h
 by_cases h3 : n1 ≤ 300
 ·obtain ⟨n2, a2, b2, c2⟩ := blocks_in [s, t] 1 (by simp) (by simp) (by rw [e1]; exact ht) (by rw [e1]; exact at_) t.f0.length 0 (n1 + 1 + t.f0.length) (by rw [e1]; omega) (by omega) (by omega)
  obtain ⟨K', h⟩ := c2 2 n2 (by rw [intarsiakit_BlocksOf.l0, if_neg (by simp), intarsiakit_BlocksOf.j1, if_neg (by simp)])
  obtain ⟨k, hk⟩ := st (K' + 2) n2 (by
   rw [intarsiakit_BlocksOf.l0, if_pos (by simp), intarsiakit_BlocksOf.j1, if_pos (by simpa using h3), if_pos (by simp), if_pos (by simp)]
   rw [show wrap64 (wrap64 (n1 + 1) + (((rd_T31 [s, t] 1).f0).length : Int)) = n1 + 1 + t.f0.length by rw [show rd_T31 [s, t] 1 = t from rfl]; unfold wrap64; omega]
   exact h)
  exact ⟨k, n2, hk, by omega, b2, fun _ => by omega⟩
 ·obtain ⟨k, hk⟩ := st 2 n1 (by rw [intarsiakit_BlocksOf.l0, if_pos (by simp), intarsiakit_BlocksOf.j1, if_neg (by simpa using h3)])
  exact ⟨k, n1, hk, by omega, b1, fun _ => by omega⟩
end Go.Proofs.Ytdlgkmnloijnbaa.Q
