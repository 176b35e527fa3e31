/- mach.Lost returns the registers that a machine's calls lose, in order; nothing, if it isn't right. -/
import Derived.Test.YtdlgkmnloijnbaaC1HMach
set_option linter.unusedVariables false
set_option linter.unusedSimpArgs false
namespace Go.Proofs.Ytdlgkmnloijnbaa.Q
open Go.RowKit Go.Proofs.YtdlgkmnloijnbaaW.PrintWords Go.Proofs.YtdlgkmnloijnbaaW.PrintLast Go.Proofs.YtdlgkmnloijnbaaW.PrintMore

/-- The first k numbers that are none of some. -/
def lostTo (saved : List Int) (k : Nat) : List Int := ((List.range k).map fun i : Nat => (i : Int)).filter fun r => !decide (r ∈ saved)
theorem lostTo_succ (saved : List Int) (k : Nat) : lostTo saved (k + 1) = lostTo saved k ++ (if (k : Int) ∈ saved then [] else [(k : Int)]) := by
 unfold lostTo
 rw [List.range_succ, List.map_append, List.filter_append]
 by_cases h : (k : Int) ∈ saved <;> simp [h]
theorem lostTo_le (saved : List Int) (k : Nat) : (lostTo saved k).length ≤ k := by
 unfold lostTo
 refine Nat.le_trans (List.length_filter_le _ _) (by simp)
def mach_Lost.f (a0_0 : Int) (l0_1 : List Int) (a0_2 : Int) (l0_3 : List Int) : Option (List Int) := some (if rightB a0_0 l0_1 a0_2 l0_3 = true then lostTo l0_3 a0_0.toNat else [])

theorem ofB_tail {regs : Int} : ∀ (l seen : List Int) (x : Int), ofB regs (x :: seen) l = true → ofB regs seen l = true
 | [], _, _, _ => rfl
 | r :: l, seen, x, h => by
  simp only [ofB, Bool.and_eq_true, Bool.not_eq_true', decide_eq_false_iff_not, decide_eq_true_eq, List.mem_cons, not_or] at h ⊢
  exact ⟨⟨⟨h.1.1.1, h.1.1.2⟩, h.1.2.2⟩, ofB_tail l (seen ++ [r]) x h.2⟩
theorem ofB_range {regs : Int} : ∀ (l seen : List Int), ofB regs seen l = true → ∀ r ∈ l, 0 ≤ r ∧ r < regs
 | [], _, _, _, h => by cases h
 | x :: l, seen, h, r, hr => by
  simp only [ofB, Bool.and_eq_true, decide_eq_true_eq] at h
  rcases List.mem_cons.1 hr with rfl | hr
  ·exact ⟨h.1.1.1, h.1.1.2⟩
  ·exact ofB_range l _ h.2 r hr
theorem right_saved {a0_0 : Int} {l0_1 : List Int} {a0_2 : Int} {l0_3 : List Int} (h : rightB a0_0 l0_1 a0_2 l0_3 = true) : 1 ≤ a0_0 ∧ a0_0 ≤ 64 ∧ l0_1.length ≤ 8 ∧ (l0_3.length : Int) ≤ a0_0 ∧ ofB a0_0 [] l0_3 = true := by
 simp only [rightB, Bool.and_eq_true, decide_eq_true_eq] at h
 refine ⟨h.1, h.2.1, h.2.2.1, h.2.2.2.1, ?_⟩
 have h2 := h.2.2.2.2.2.2
 simp only [ofB, Bool.and_eq_true] at h2
 exact ofB_tail l0_3 [] a0_2 h2.2

theorem bits_at (s : List Int) (i : Nat) (hi : i < 64) : (bits s)[i]? = some (.bool (decide ((i : Int) ∈ s))) := by
 have h := bits_get s (i : Int) (by omega) (by omega)
 simpa using h
theorem lit64_eq : lit64 = Array.replicate 64 (.bool false) := rfl
theorem lit64_at (i : Nat) (hi : i < 64) : lit64[i]? = some (.bool false) := by
 rw [lit64_eq]
 simp [hi]
theorem eqItems_bits (d : Nat) (s : List Int) (w : World) : ∀ is : List Nat, (∀ i ∈ is, i < 64) → (Op.eqItems (d + 1) 4 1 (bits s) lit64 is).run Try.prog w = .ok (is.all fun i : Nat => !decide ((i : Int) ∈ s)) w
 | [], _ => by simp [Op.eqItems]
 | i :: is, h => by
  have hi := h i (by simp)
  have p1 := run_part_plain (P := Try.prog) (e := 4) w (by kernel_rfl) (off := i * 1) (by rw [Nat.mul_one]; exact bits_at s i hi)
  have p2 := run_part_plain (P := Try.prog) (e := 4) w (by kernel_rfl) (off := i * 1) (by rw [Nat.mul_one]; exact lit64_at i hi)
  have p3 := run_equalIn_bool' (P := Try.prog) w d 4 (decide ((i : Int) ∈ s)) false Try.underlying4
  have ih := eqItems_bits d s w is (fun j hj => h j (by simp [hj]))
  simp only [Op.eqItems, Sem.run_bind, p1, p2, p3, Result.andThen_ok]
  by_cases hm : (i : Int) ∈ s
  ·simp [hm]
  ·simpa [hm] using ih
theorem none_in (s : List Int) (h : ∀ r ∈ s, 0 ≤ r ∧ r < 64) : ((List.range 64).all fun i : Nat => !decide ((i : Int) ∈ s)) = decide (s = []) := by
 cases s with
 | nil => simp
 | cons r l =>
  have hr := h r (by simp)
  rw [decide_eq_false (by simp)]
  rw [List.all_eq_false]
  refine ⟨r.toNat, by rw [List.mem_range]; omega, ?_⟩
  rw [Int.toNat_of_nonneg hr.1]
  simp
/-- 'saved == (set{})'. -/
theorem eq_bits (s : List Int) (h : ∀ r ∈ s, 0 ≤ r ∧ r < 64) (w : World) : (binOp .eql 99 (.agg (bits s)) (.agg lit64)).run Try.prog w = .ok (.bool (decide (s = []))) w := by
 obtain ⟨i_, hi_⟩ : ∃ i_, Try.prog.info? 4 = some i_ := by
  have h_ : (Try.prog.info? 4).isSome = true := by kernel_rfl
  exact Option.isSome_iff_exists.mp h_
 have hc_ : Try.prog.cellsOf 4 = 1 := by kernel_rfl
 have e1 := run_equalIn_array (P := Try.prog) w 9999 (bits s) lit64 Try.underlying99 hi_
 rw [hc_, eqItems_bits 9998 s w _ (fun i hi => List.mem_range.1 hi), none_in s h] at e1
 simp only [binOp]
 simp [Op.equal, Op.maxDepth, e1]

set_option maxHeartbeats 1600000 in
set_option maxRecDepth 100000 in
theorem mach_Lost.calls (a0_0 : Int) (A0_1 : Option Addr) (c0_1 : Nat) (l0_1 : List Int) (a0_2 : Int) (A0_3 : Option Addr) (c0_3 : Nat) (l0_3 : List Int) (r : List Int) (w : World) (hr0_1 : Kd.C (Kd.int .i64) w A0_1 l0_1.length l0_1) (hc0_1 : l0_1.length ≤ c0_1) (hr0_3 : Kd.C (Kd.int .i64) w A0_3 l0_3.length l0_3) (hc0_3 : l0_3.length ≤ c0_3) (h : mach_Lost.f a0_0 l0_1 a0_2 l0_3 = some r) :
  Calls Try.prog 76 #[.agg #[.int .i64 a0_0, .slice A0_1 l0_1.length c0_1, .int .i64 a0_2, .slice A0_3 l0_3.length c0_3]] w fun e w' => ∃ v0_ : Value, e = .returned (v0_) ∧ Kd.R (Kd.int .i64) 3 w' w.heap.size (fun _ => True) v0_ r ∧ Below w.heap.size w w' := by
 have HR1 := Aside0.mk hr0_1
 have HR3 := Aside0.mk hr0_3
 have HC1 := Aside0.mk hc0_1
 have HC3 := Aside0.mk hc0_3
 have HB := Aside0.mk (Below.refl w.heap.size w)
 have hrr : (if rightB a0_0 l0_1 a0_2 l0_3 = true then lostTo l0_3 a0_0.toNat else []) = r := Option.some.inj h
 obtain ⟨b, hb⟩ : ∃ b, rightB a0_0 l0_1 a0_2 l0_3 = b := ⟨_, rfl⟩
 have HF : Aside0 (mach_Right.f a0_0 l0_1 a0_2 l0_3 = some b) := ⟨by rw [← hb]; rfl⟩
 rw [hb] at hrr
 have HBR := Aside0.mk hb
 have HH := Aside0.mk hrr
 clear h hr0_1 hr0_3 hrr hb hc0_1 hc0_3
 cases b with
 | false =>
  go_enter Try.func76, Try.ntmps76
  go_wp2_with (first
   | ((with_reducible refine gate_dst (N := 1) rfl ?_); refine box_event ?hg (N := 1) ?hd (cs := #[.int .i64 a0_0, .slice A0_1 l0_1.length c0_1, .int .i64 a0_2, .slice A0_3 l0_3.length c0_3]) (t := 24) ?hr ?_; (case hd => rfl); (case hg => rfl); (case hr => first | (go_simp; done) | (go_simp; rfl)); intro gb hg w3 hbox hb; have HB := Aside0.mk hb; have HX := Aside0.mk hbox; have hx0 := (blk_cell hbox 0).trans rfl; have hx1 := (blk_cell hbox 1).trans rfl; have hx2 := (blk_cell hbox 2).trans rfl; have hx3 := (blk_cell hbox 3).trans rfl; clear hb hbox hg)
   | (go_at_call 36; refine (mach_Right.calls a0_0 _ _ l0_1 a0_2 _ _ l0_3 false _ (Kd.C_below HR1.out HB.out) HC1.out (Kd.C_below HR3.out HB.out) HC3.out HF.out).mono ?_; rintro e w4 ⟨rfl, hb⟩; have HB4 := Aside0.mk (below_step HB.out hb); clear hb))
  go_ret
  exact ⟨_, rfl, by rw [← HH.out]; exact Kd.R_nil _ _ _ _ _, HB4.out⟩
 | true =>
  have hs := right_saved HBR.out
  have HS5 := Aside0.mk hs.2.2.2.2
  have hrg := ofB_range _ _ hs.2.2.2.2
  have hEQ := eq_bits l0_3 (fun x hx => ⟨(hrg x hx).1, by have := (hrg x hx).2; omega⟩)
  have hSE := Aside0.mk (ofSeen_all a0_0 l0_3 [] hs.2.2.2.2)
  have h64 : a0_0 ≤ 64 := hs.2.1
  have h1 : 1 ≤ a0_0 := hs.1
  have hL3 : l0_3.length ≤ 1000 := by have := hs.2.2.2.1; omega
  have HOF := Aside0.mk (fun (A : Option Addr) (c : Nat) (l : List Int) W (hr : Kd.C (Kd.int .i64) W A l.length l) (hc : l.length ≤ c) (hl : l.length ≤ 1000) => mach_of.calls a0_0 A c l W hr hc h64 hl)
  have hEQ2 : ∀ W : World, (binOp .eql 99 (.agg (bits (ofSeen a0_0 [] l0_3))) (.agg #[.bool false, .bool false, .bool false, .bool false, .bool false, .bool false, .bool false, .bool false, .bool false, .bool false, .bool false, .bool false, .bool false, .bool false, .bool false, .bool false, .bool false, .bool false, .bool false, .bool false, .bool false, .bool false, .bool false, .bool false, .bool false, .bool false, .bool false, .bool false, .bool false, .bool false, .bool false, .bool false, .bool false, .bool false, .bool false, .bool false, .bool false, .bool false, .bool false, .bool false, .bool false, .bool false, .bool false, .bool false, .bool false, .bool false, .bool false, .bool false, .bool false, .bool false, .bool false, .bool false, .bool false, .bool false, .bool false, .bool false, .bool false, .bool false, .bool false, .bool false, .bool false, .bool false, .bool false, .bool false])).run Try.prog W = .ok (.bool (decide (l0_3 = []))) W := fun W => by rw [hSE.out]; exact hEQ W
  clear hs hrg hEQ
  obtain ⟨z, hz⟩ : ∃ z, decide (l0_3 = []) = z := ⟨_, rfl⟩
  simp only [hz] at hEQ2
  have HZ := Aside0.mk hz
  clear hz
  cases z with
  | true =>
   have HN : Aside0 (l0_3 = []) := ⟨of_decide_eq_true HZ.out⟩
   have hu99 := Try.underlying99
   go_enter Try.func76, Try.ntmps76
   go_wp2_with (first
    | ((with_reducible refine gate_dst (N := 1) rfl ?_); refine box_event ?hg (N := 1) ?hd (cs := #[.int .i64 a0_0, .slice A0_1 l0_1.length c0_1, .int .i64 a0_2, .slice A0_3 l0_3.length c0_3]) (t := 24) ?hr ?_; (case hd => rfl); (case hg => rfl); (case hr => first | (go_simp; done) | (go_simp; rfl)); intro gb hg w3 hbox hb; have HB := Aside0.mk hb; have HX := Aside0.mk hbox; have hx0 := (blk_cell hbox 0).trans rfl; have hx1 := (blk_cell hbox 1).trans rfl; have hx2 := (blk_cell hbox 2).trans rfl; have hx3 := (blk_cell hbox 3).trans rfl; clear hb hbox hg)
    | (go_at_call 36; refine (mach_Right.calls a0_0 _ _ l0_1 a0_2 _ _ l0_3 true _ (Kd.C_below HR1.out HB.out) HC1.out (Kd.C_below HR3.out HB.out) HC3.out HF.out).mono ?_; rintro e w4 ⟨rfl, hb⟩; have HB4 := Aside0.mk (below_step HB.out hb); have HX4 := Aside0.mk (blk_below HX.out hb); clear hb hx0 hx1 hx2 hx3; have hx0 := (blk_cell HX4.out 0).trans rfl; have hx3 := (blk_cell HX4.out 3).trans rfl)
    | (go_at_call 59; refine (HOF.out _ _ l0_3 _ (Kd.C_below HR3.out HB4.out) HC3.out hL3).mono ?_; rintro e w5 ⟨rfl, hb⟩; have HB5 := Aside0.mk (below_step HB4.out hb); have HX5 := Aside0.mk (blk_below HX4.out hb); clear hb hx0 hx3)
    | ((with_reducible refine gate_dst (N := 3) rfl ?_); refine box_event ?hg (N := 3) ?hd (cs := #[.bool false, .bool false, .bool false, .bool false, .bool false, .bool false, .bool false, .bool false, .bool false, .bool false, .bool false, .bool false, .bool false, .bool false, .bool false, .bool false, .bool false, .bool false, .bool false, .bool false, .bool false, .bool false, .bool false, .bool false, .bool false, .bool false, .bool false, .bool false, .bool false, .bool false, .bool false, .bool false, .bool false, .bool false, .bool false, .bool false, .bool false, .bool false, .bool false, .bool false, .bool false, .bool false, .bool false, .bool false, .bool false, .bool false, .bool false, .bool false, .bool false, .bool false, .bool false, .bool false, .bool false, .bool false, .bool false, .bool false, .bool false, .bool false, .bool false, .bool false, .bool false, .bool false, .bool false, .bool false]) (t := 99) ?hr ?_; (case hd => rfl); (case hg => rfl); (case hr => first | (go_simp; done) | (go_simp; rfl)); intro g6 hg w6 hbox hb; have HB6 := Aside0.mk (below_step HB5.out hb); have HZ6 := Aside0.mk hbox; have HG6 := Aside0.mk (Nat.le_trans (below_size HB5.out) (Nat.le_of_eq hg.symm)); have HX6 := Aside0.mk (blk_below HX5.out hb); clear hb hbox hg)
    | ((with_reducible refine gate_stores 99 rfl ?_); refine wpList_store_row rfl 99 (.tmp 3) (.tmp 17) rfl g6 _ rfl rfl 99 _ HZ6.out (by rw [bits_size]; exact info99) (by rw [bits_size]; rfl) (bits_one _) ?_; have HB7 := Aside0.mk (setRow_below (bits (ofSeen a0_0 [] l0_3)) HB6.out HG6.out); have HZ7 := Aside0.mk (setRow_heap _ _ _ (bits (ofSeen a0_0 [] l0_3)) _ _ HZ6.out); have HX7 := Aside0.mk (blk_setRow_far (S := bits (ofSeen a0_0 [] l0_3)) HX6.out (blk_ne HX6.out HZ6.out (by decide))); clear HB6 HZ6 HX6; generalize w6.setRow g6 (bits (ofSeen a0_0 [] l0_3)) = w7 at *; have hx0 := (blk_cell HX7.out 0).trans rfl)
    | ((with_reducible refine gate_load 99 rfl ?_); refine wpList_load_row rfl 99 (.tmp 3) rfl g6 rfl 99 _ (0, 0) _ HZ7.out hu99 rfl (by rw [bits_size]; exact info99) ?_))

   go_loopw [2, 24] (fun v i wr => ∃ k : Nat, (k : Int) ≤ a0_0 ∧ i = .int .i64 k ∧ Aside0 (Kd.R (Kd.int .i64) 3 wr w.heap.size (fun _ => True) v (lostTo l0_3 k)) ∧ Aside0 (Below w.heap.size w wr) ∧ Aside0 (wr.heap[g6]? = some (.cells (bits (ofSeen a0_0 [] l0_3)) 99 (0, 0)))) (fun _ i _ => (a0_0 - intOf i).toNat)
   case atStart => exact ⟨0, by omega, rfl, ⟨Kd.R_nil _ _ _ _ _⟩, HB7, HZ7⟩
   case round =>
    obtain ⟨k, hk, rfl, HO, HBr, HZr⟩ := hrel
    clear HB7 HZ7 HB5 HX5 HB4 HX4 HX7 hx0 HB
    have HS := Aside0.mk (lostTo_succ l0_3 k)
    have HL := Aside0.mk (lostTo_le l0_3 k)
    by_cases hlt : (k : Int) < a0_0
    ·go_wp2_with (first
      | (at_builtin; refine Kd.R_append (Kd.int .i64) (w0 := w) w.heap.size rfl (.tmp 27) (.tmp 29) 22 3 (.int .i64 0) 8 rfl Try.underlying22 info3 rfl (by decide) (by omega) _ (lostTo l0_3 k) (k : Int) [.int .i64 (k : Int)] (fun _ => True) (fun _ => False) rfl rfl rfl (fun _ h => h.elim) (fun _ _ => trivial) HO.out HBr.out (below_size HBr.out) (by have := HL.out; omega) ?_; intro v1 w1 ho hb hg hn; have HO1 := Aside0.mk ho; have HB1 := Aside0.mk hb; have HZ1 := Aside0.mk (blk_grown HZr.out hg (Kd.R_ne HO.out HZr.out (by decide))); clear ho hb hg hn))
     go_roundw
     case rel => exact ⟨k + 1, by omega, by go_num, ⟨by rw [HS.out, if_neg (by rw [HN.out]; simp)]; exact HO1.out⟩, HB1, HZ1⟩
     case measure => simp [intOf]; omega
    ·obtain rfl : a0_0 = (k : Int) := by omega
     go_wp2_with fail
     go_ret
     exact ⟨_, rfl, by rw [← HH.out]; simp only [if_true, Int.toNat_natCast]; exact HO.out, HBr.out⟩
  | false =>
   have hsl : ∀ (g : Nat) (W : World), (Instr.sliceAt 99 (.pointer (some ⟨g, 0, none⟩)) none (some (.int .i64 a0_0)) none).run Try.prog W = .ok (.slice (some ⟨g, 0, none⟩) a0_0.toNat 64) W := fun g W => by
    have e1 : Try.prog.arrayLen 99 = 64 := by kernel_rfl
    have e2 : Try.prog.elem 99 = 4 := by kernel_rfl
    obtain ⟨i_, hi_⟩ : ∃ i_, Try.prog.info? 4 = some i_ := by
     have h_ : (Try.prog.info? 4).isSome = true := by kernel_rfl
     exact Option.isSome_iff_exists.mp h_
    rw [run_sliceAt_array_h (P := Try.prog) W 99 ⟨g, 0, none⟩ (by rw [e1, e2]; exact Try.underlying99) .i64 a0_0 (by omega) (by rw [e1]; omega), e1, e2, run_sizeOf W hi_]
    simp [slicedAt, Addr.add]
   have h0' : 0 ≤ a0_0 := by omega
   have hmx : max a0_0 0 = a0_0 := by omega
   have hu99 := Try.underlying99
   go_enter Try.func76, Try.ntmps76
   go_wp2_with (first
    | ((with_reducible refine gate_dst (N := 1) rfl ?_); refine box_event ?hg (N := 1) ?hd (cs := #[.int .i64 a0_0, .slice A0_1 l0_1.length c0_1, .int .i64 a0_2, .slice A0_3 l0_3.length c0_3]) (t := 24) ?hr ?_; (case hd => rfl); (case hg => rfl); (case hr => first | (go_simp; done) | (go_simp; rfl)); intro gb hg w3 hbox hb; have HB := Aside0.mk hb; have HX := Aside0.mk hbox; have hx0 := (blk_cell hbox 0).trans rfl; have hx1 := (blk_cell hbox 1).trans rfl; have hx2 := (blk_cell hbox 2).trans rfl; have hx3 := (blk_cell hbox 3).trans rfl; clear hb hbox hg)
    | (go_at_call 36; refine (mach_Right.calls a0_0 _ _ l0_1 a0_2 _ _ l0_3 true _ (Kd.C_below HR1.out HB.out) HC1.out (Kd.C_below HR3.out HB.out) HC3.out HF.out).mono ?_; rintro e w4 ⟨rfl, hb⟩; have HB4 := Aside0.mk (below_step HB.out hb); have HX4 := Aside0.mk (blk_below HX.out hb); clear hb hx0 hx1 hx2 hx3; have hx0 := (blk_cell HX4.out 0).trans rfl; have hx3 := (blk_cell HX4.out 3).trans rfl)
    | (go_at_call 59; refine (HOF.out _ _ l0_3 _ (Kd.C_below HR3.out HB4.out) HC3.out hL3).mono ?_; rintro e w5 ⟨rfl, hb⟩; have HB5 := Aside0.mk (below_step HB4.out hb); have HX5 := Aside0.mk (blk_below HX4.out hb); clear hb hx0 hx3)
    | ((with_reducible refine gate_dst (N := 3) rfl ?_); refine box_event ?hg (N := 3) ?hd (cs := #[.bool false, .bool false, .bool false, .bool false, .bool false, .bool false, .bool false, .bool false, .bool false, .bool false, .bool false, .bool false, .bool false, .bool false, .bool false, .bool false, .bool false, .bool false, .bool false, .bool false, .bool false, .bool false, .bool false, .bool false, .bool false, .bool false, .bool false, .bool false, .bool false, .bool false, .bool false, .bool false, .bool false, .bool false, .bool false, .bool false, .bool false, .bool false, .bool false, .bool false, .bool false, .bool false, .bool false, .bool false, .bool false, .bool false, .bool false, .bool false, .bool false, .bool false, .bool false, .bool false, .bool false, .bool false, .bool false, .bool false, .bool false, .bool false, .bool false, .bool false, .bool false, .bool false, .bool false, .bool false]) (t := 99) ?hr ?_; (case hd => rfl); (case hg => rfl); (case hr => first | (go_simp; done) | (go_simp; rfl)); intro g6 hg w6 hbox hb; have HB6 := Aside0.mk (below_step HB5.out hb); have HZ6 := Aside0.mk hbox; have HG6 := Aside0.mk (Nat.le_trans (below_size HB5.out) (Nat.le_of_eq hg.symm)); have HX6 := Aside0.mk (blk_below HX5.out hb); clear hb hbox hg)
    | ((with_reducible refine gate_stores 99 rfl ?_); refine wpList_store_row rfl 99 (.tmp 3) (.tmp 17) rfl g6 _ rfl rfl 99 _ HZ6.out (by rw [bits_size]; exact info99) (by rw [bits_size]; rfl) (bits_one _) ?_; have HB7 := Aside0.mk (setRow_below (bits (ofSeen a0_0 [] l0_3)) HB6.out HG6.out); have HZ7 := Aside0.mk (setRow_heap _ _ _ (bits (ofSeen a0_0 [] l0_3)) _ _ HZ6.out); have HX7 := Aside0.mk (blk_setRow_far (S := bits (ofSeen a0_0 [] l0_3)) HX6.out (blk_ne HX6.out HZ6.out (by decide))); clear HB6 HZ6 HX6; generalize w6.setRow g6 (bits (ofSeen a0_0 [] l0_3)) = w7 at *; have hx0 := (blk_cell HX7.out 0).trans rfl)
    | ((with_reducible refine gate_load 99 rfl ?_); refine wpList_load_row rfl 99 (.tmp 3) rfl g6 rfl 99 _ (0, 0) _ HZ7.out hu99 rfl (by rw [bits_size]; exact info99) ?_))

   go_loopw [2, 37] (fun v i wr => ∃ k : Nat, (k : Int) ≤ a0_0 ∧ i = .int .i64 k ∧ Aside0 (Kd.R (Kd.int .i64) 3 wr w.heap.size (fun _ => True) v (lostTo l0_3 k)) ∧ Aside0 (Below w.heap.size w wr) ∧ Aside0 (wr.heap[g6]? = some (.cells (bits (ofSeen a0_0 [] l0_3)) 99 (0, 0)))) (fun _ i _ => (a0_0 - intOf i).toNat)
   case atStart => exact ⟨0, by omega, rfl, ⟨Kd.R_nil _ _ _ _ _⟩, HB7, HZ7⟩
   case round =>
    obtain ⟨k, hk, rfl, HO, HBr, HZr⟩ := hrel
    clear HB7 HZ7 HB5 HX5 HB4 HX4 HX7 hx0 HB hEQ2 hsl
    have HS := Aside0.mk (lostTo_succ l0_3 k)
    have HL := Aside0.mk (lostTo_le l0_3 k)
    by_cases hlt : (k : Int) < a0_0
    ·have hcell := (blk_cell HZr.out k).trans (show (bits (ofSeen a0_0 [] l0_3))[k]? = some (.bool (decide ((k : Int) ∈ l0_3))) by rw [hSE.out, List.nil_append]; exact bits_at l0_3 k (by omega))
     have hkn : k < a0_0.toNat := by omega
     by_cases hm : (k : Int) ∈ l0_3
     ·rw [decide_eq_true hm] at hcell
      have HM := Aside0.mk hm
      clear hm
      go_wp2_with fail
      go_roundw
      case rel => exact ⟨k + 1, by omega, by go_num, ⟨by rw [HS.out, if_pos HM.out, List.append_nil]; exact HO.out⟩, HBr, HZr⟩
      case measure => simp [intOf]; omega
     ·rw [decide_eq_false hm] at hcell
      have HM := Aside0.mk hm
      clear hm
      go_wp2_with (first
       | (at_builtin; refine Kd.R_append (Kd.int .i64) (w0 := w) w.heap.size rfl (.tmp 44) (.tmp 46) 22 3 (.int .i64 0) 8 rfl Try.underlying22 info3 rfl (by decide) (by omega) _ (lostTo l0_3 k) (k : Int) [.int .i64 (k : Int)] (fun _ => True) (fun _ => False) rfl rfl rfl (fun _ h => h.elim) (fun _ _ => trivial) HO.out HBr.out (below_size HBr.out) (by have := HL.out; omega) ?_; intro v1 w1 ho hb hg hn; have HO1 := Aside0.mk ho; have HB1 := Aside0.mk hb; have HZ1 := Aside0.mk (blk_grown HZr.out hg (Kd.R_ne HO.out HZr.out (by decide))); clear ho hb hg hn))
      go_roundw
      case rel => exact ⟨k + 1, by omega, by go_num, ⟨by rw [HS.out, if_neg HM.out]; exact HO1.out⟩, HB1, HZ1⟩
      case measure => simp [intOf]; omega
    ·obtain rfl : a0_0 = (k : Int) := by omega
     go_wp2_with fail
     go_ret
     exact ⟨_, rfl, by rw [← HH.out]; simp only [if_true, Int.toNat_natCast]; exact HO.out, HBr.out⟩
end Go.Proofs.Ytdlgkmnloijnbaa.Q
