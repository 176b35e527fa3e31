/- slices.ContainsFunc over numbers, at the two function literals of ir: whether one of them is so. -/
import Derived.Test.YtdlgkmnloijnbaaC1Qx3
set_option linter.unusedVariables false
set_option linter.unusedSimpArgs false
namespace Go.Proofs.Ytdlgkmnloijnbaa.Q
open Go.RowKit Go.Proofs.YtdlgkmnloijnbaaW.PrintWords Go.Proofs.YtdlgkmnloijnbaaW.PrintLast Go.Proofs.YtdlgkmnloijnbaaW.PrintMore

/-- The place of the first that is so; -1: there is none. -/
def idxOf {α : Type} (p : α → Bool) : List α → Int
 | [] => -1
 | x :: l => if p x then 0 else if idxOf p l < 0 then -1 else idxOf p l + 1
theorem idxOf_ge {α : Type} (p : α → Bool) : ∀ l : List α, -1 ≤ idxOf p l
 | [] => by simp [idxOf]
 | x :: l => by
  have := idxOf_ge p l
  unfold idxOf
  split
  ·omega
  ·split <;> omega
theorem idxOf_any {α : Type} (p : α → Bool) : ∀ l : List α, decide (0 ≤ idxOf p l) = l.any p
 | [] => by simp [idxOf]
 | x :: l => by
  have := idxOf_any p l
  unfold idxOf
  rw [List.any_cons]
  by_cases h : p x = true
  ·simp [h]
  ·rw [if_neg h]
   simp only [Bool.not_eq_true] at h
   rw [h, Bool.false_or, ← this]
   split
   ·rename_i h2
    rw [decide_eq_false (by omega), decide_eq_false (by omega)]
   ·rw [decide_eq_true (by omega), decide_eq_true (by omega)]
/-- Behind k that are not so. -/
theorem idxOf_at {α : Type} (p : α → Bool) (l : List α) (k : Nat) (x : α) (hx : l[k]? = some x) (hp : p x = true) (hno : ∀ y ∈ l.take k, p y = false) : idxOf p l = k := by
 induction l generalizing k with
 | nil => simp at hx
 | cons y l ih =>
  cases k with
  | zero =>
   simp at hx
   subst hx
   simp [idxOf, hp]
  | succ k =>
   have hy := hno y (by simp)
   have h2 := ih k (by simpa using hx) (fun z hz => hno z (by simp [hz]))
   unfold idxOf
   rw [if_neg (by rw [hy]; simp), h2, if_neg (by omega)]
   omega
theorem idxOf_none {α : Type} (p : α → Bool) (l : List α) (hno : ∀ y ∈ l, p y = false) : idxOf p l = -1 := by
 induction l with
 | nil => rfl
 | cons y l ih =>
  unfold idxOf
  rw [if_neg (by rw [hno y (by simp)]; simp), ih (fun z hz => hno z (by simp [hz])), if_pos (by omega)]

def varB (x : Int) : Bool := decide (1 ≤ x) && decide (x ≤ 200)
theorem variable_f (x : Int) : ir_variable.f x = some (varB x) := by
 unfold ir_variable.f varB
 by_cases h : x ≥ 1
 ·rw [if_pos h, decide_eq_true (show 1 ≤ x from h)]; simp
 ·rw [if_neg h, decide_eq_false (show ¬ 1 ≤ x from h)]; simp
theorem fn95 (x : Int) (w : World) : Calls Try.prog 95 #[.int .i64 x] w fun e w' => e = .returned (.bool (x != 0)) ∧ Drawn0 w w' := by
 go_enter Try.func95, Try.ntmps95
 go_wp2
 go_ret
 exact ⟨rfl, Drawn0.refl _⟩
theorem fn90 (x : Int) (w : World) : Calls Try.prog 90 #[.int .i64 x] w fun e w' => e = .returned (.bool (!varB x)) ∧ Drawn0 w w' := by
 have HV := Aside0.mk (variable_f x)
 go_enter Try.func90, Try.ntmps90
 go_wp2_with (first | (go_at_call 91; refine (ir_variable.calls x (varB x) _ HV.out).mono ?_; rintro e w' ⟨rfl, ⟨nd, rfl⟩⟩))
 go_ret
 exact ⟨rfl, ⟨_, rfl⟩⟩
set_option maxHeartbeats 800000 in
set_option maxRecDepth 100000 in
theorem index_int_95 (A : Option Addr) (c : Nat) (l : List Int) (w : World) (hr : Kd.C (Kd.int .i64) w A l.length l) (hc : l.length ≤ c) :
  Calls Try.prog 96 #[.slice A l.length c, .func (.func 95) #[] #[]] w fun e w' => e = .returned (.int .i64 (idxOf (fun x => x != 0) l)) ∧ Drawn0 w w' := by
 have HR := Aside0.mk hr
 have hL : l.length ≤ 9223372036854775807 := hr.2.1
 clear hr
 go_enter Try.func96, Try.ntmps96
 go_wp2_with fail
 go_loopw [8] (fun i wr => ∃ k : Nat, k ≤ l.length ∧ i = .int .i64 k ∧ Aside0 (∀ y ∈ l.take k, (fun x => x != 0) y = false) ∧ Aside0 (Drawn0 w wr)) (fun i _ => l.length - (intOf i).toNat)
 case atStart => exact ⟨0, Nat.zero_le _, rfl, ⟨by simp⟩, ⟨Drawn0.refl _⟩⟩
 case round =>
  obtain ⟨k, hk, rfl, HN, HD⟩ := hrel
  by_cases hlt : k < l.length
  ·obtain ⟨ad, rfl, hcell⟩ := Kd.at_int (Kd.C_below HR.out HD.out.below) (k : Int) (by omega) (by omega)
   simp only [Int.toNat_natCast] at hcell
   have HG : Aside0 (l[k]? = some (rd l k)) := ⟨by simp [rd, List.getD_eq_getElem?_getD, List.getElem?_eq_getElem hlt]⟩
   have HT : Aside0 (l.take (k + 1) = l.take k ++ [rd l k]) := ⟨by rw [List.take_succ_eq_append_getElem hlt]; simp [rd, List.getD_eq_getElem?_getD, List.getElem?_eq_getElem hlt]⟩
   generalize rd l (k : Int) = x at *
   obtain ⟨b, hb⟩ : ∃ b, (fun x => x != 0) x = b := ⟨_, rfl⟩
   have HBB := Aside0.mk hb
   have hcon : ∀ W, Calls Try.prog 95 #[.int .i64 x] W fun e w' => e = .returned (.bool b) ∧ Drawn0 W w' := fun W => by rw [← hb]; exact fn95 x W
   have HCON := Aside0.mk hcon
   clear hb hcon
   cases b with
   | true =>
    go_wp2_with (first | (go_at_call 95; refine (HCON.out _).mono ?_; rintro e w' ⟨rfl, ⟨nd, rfl⟩⟩))
    go_ret
    exact ⟨by rw [idxOf_at (fun x => x != 0) l k x HG.out HBB.out HN.out]; rfl, HD.out.step nd⟩
   | false =>
    go_wp2_with (first | (go_at_call 95; refine (HCON.out _).mono ?_; rintro e w' ⟨rfl, ⟨nd, rfl⟩⟩))
    go_roundw
    case rel => exact ⟨k + 1, by omega, by go_num, ⟨by rw [HT.out]; intro y hy; rcases List.mem_append.1 hy with hy | hy; exact HN.out y hy; rw [List.mem_singleton.1 hy]; exact HBB.out⟩, ⟨HD.out.step nd⟩⟩
    case measure => simp [intOf]; omega
  ·obtain rfl : k = l.length := by omega
   rw [List.take_length] at HN
   go_wp2_with fail
   go_ret
   exact ⟨by rw [idxOf_none (fun x => x != 0) l HN.out]; rfl, HD.out⟩
/-- slices.ContainsFunc at that literal. -/
def contains_int_95.f (l0 : List Int) : Option Bool := some (l0.any (fun x => x != 0))
theorem contains_int_95.calls (A0 : Option Addr) (c0 : Nat) (l0 : List Int) (r : Bool) (w : World) (hr0 : Kd.C (Kd.int .i64) w A0 l0.length l0) (hc0 : l0.length ≤ c0) (h : contains_int_95.f l0 = some r) :
  Calls Try.prog 94 #[.slice A0 l0.length c0, .func (.func 95) #[] #[]] w fun e w' => e = .returned (.bool r) ∧ Drawn0 w w' := by
 have HI := Aside0.mk (fun W (hb : Drawn0 w W) => index_int_95 A0 c0 l0 W (Kd.C_below hr0 hb.below) hc0)
 have hrr : l0.any (fun x => x != 0) = r := Option.some.inj h
 have HH := Aside0.mk hrr
 clear h hrr hr0
 go_enter Try.func94, Try.ntmps94
 go_wp2_with (first | (go_at_call 96; refine (HI.out _ (Drawn0.refl _)).mono ?_; rintro e w' ⟨rfl, ⟨nd, rfl⟩⟩))
 go_ret
 exact ⟨by rw [← HH.out, ← idxOf_any]; rfl, ⟨nd, rfl⟩⟩
set_option maxHeartbeats 800000 in
set_option maxRecDepth 100000 in
theorem index_int_90 (A : Option Addr) (c : Nat) (l : List Int) (w : World) (hr : Kd.C (Kd.int .i64) w A l.length l) (hc : l.length ≤ c) :
  Calls Try.prog 96 #[.slice A l.length c, .func (.func 90) #[] #[]] w fun e w' => e = .returned (.int .i64 (idxOf (fun x => !varB x) l)) ∧ Drawn0 w w' := by
 have HR := Aside0.mk hr
 have hL : l.length ≤ 9223372036854775807 := hr.2.1
 clear hr
 go_enter Try.func96, Try.ntmps96
 go_wp2_with fail
 go_loopw [8] (fun i wr => ∃ k : Nat, k ≤ l.length ∧ i = .int .i64 k ∧ Aside0 (∀ y ∈ l.take k, (fun x => !varB x) y = false) ∧ Aside0 (Drawn0 w wr)) (fun i _ => l.length - (intOf i).toNat)
 case atStart => exact ⟨0, Nat.zero_le _, rfl, ⟨by simp⟩, ⟨Drawn0.refl _⟩⟩
 case round =>
  obtain ⟨k, hk, rfl, HN, HD⟩ := hrel
  by_cases hlt : k < l.length
  ·obtain ⟨ad, rfl, hcell⟩ := Kd.at_int (Kd.C_below HR.out HD.out.below) (k : Int) (by omega) (by omega)
   simp only [Int.toNat_natCast] at hcell
   have HG : Aside0 (l[k]? = some (rd l k)) := ⟨by simp [rd, List.getD_eq_getElem?_getD, List.getElem?_eq_getElem hlt]⟩
   have HT : Aside0 (l.take (k + 1) = l.take k ++ [rd l k]) := ⟨by rw [List.take_succ_eq_append_getElem hlt]; simp [rd, List.getD_eq_getElem?_getD, List.getElem?_eq_getElem hlt]⟩
   generalize rd l (k : Int) = x at *
   obtain ⟨b, hb⟩ : ∃ b, (fun x => !varB x) x = b := ⟨_, rfl⟩
   have HBB := Aside0.mk hb
   have hcon : ∀ W, Calls Try.prog 90 #[.int .i64 x] W fun e w' => e = .returned (.bool b) ∧ Drawn0 W w' := fun W => by rw [← hb]; exact fn90 x W
   have HCON := Aside0.mk hcon
   clear hb hcon
   cases b with
   | true =>
    go_wp2_with (first | (go_at_call 90; refine (HCON.out _).mono ?_; rintro e w' ⟨rfl, ⟨nd, rfl⟩⟩))
    go_ret
    exact ⟨by rw [idxOf_at (fun x => !varB x) l k x HG.out HBB.out HN.out]; rfl, HD.out.step nd⟩
   | false =>
    go_wp2_with (first | (go_at_call 90; refine (HCON.out _).mono ?_; rintro e w' ⟨rfl, ⟨nd, rfl⟩⟩))
    go_roundw
    case rel => exact ⟨k + 1, by omega, by go_num, ⟨by rw [HT.out]; intro y hy; rcases List.mem_append.1 hy with hy | hy; exact HN.out y hy; rw [List.mem_singleton.1 hy]; exact HBB.out⟩, ⟨HD.out.step nd⟩⟩
    case measure => simp [intOf]; omega
  ·obtain rfl : k = l.length := by omega
   rw [List.take_length] at HN
   go_wp2_with fail
   go_ret
   exact ⟨by rw [idxOf_none (fun x => !varB x) l HN.out]; rfl, HD.out⟩
/-- slices.ContainsFunc at that literal. -/
def contains_int_90.f (l0 : List Int) : Option Bool := some (l0.any (fun x => !varB x))
theorem contains_int_90.calls (A0 : Option Addr) (c0 : Nat) (l0 : List Int) (r : Bool) (w : World) (hr0 : Kd.C (Kd.int .i64) w A0 l0.length l0) (hc0 : l0.length ≤ c0) (h : contains_int_90.f l0 = some r) :
  Calls Try.prog 94 #[.slice A0 l0.length c0, .func (.func 90) #[] #[]] w fun e w' => e = .returned (.bool r) ∧ Drawn0 w w' := by
 have HI := Aside0.mk (fun W (hb : Drawn0 w W) => index_int_90 A0 c0 l0 W (Kd.C_below hr0 hb.below) hc0)
 have hrr : l0.any (fun x => !varB x) = r := Option.some.inj h
 have HH := Aside0.mk hrr
 clear h hrr hr0
 go_enter Try.func94, Try.ntmps94
 go_wp2_with (first | (go_at_call 96; refine (HI.out _ (Drawn0.refl _)).mono ?_; rintro e w' ⟨rfl, ⟨nd, rfl⟩⟩))
 go_ret
 exact ⟨by rw [← HH.out, ← idxOf_any]; rfl, ⟨nd, rfl⟩⟩
end Go.Proofs.Ytdlgkmnloijnbaa.Q
