/- flat.Before. -/
import Derived.Test.YtdlgkmnloijnbaaC1HBef
import Derived.Test.YtdlgkmnloijnbaaC1HFlatEv
set_option linter.unusedVariables false
set_option linter.unusedSimpArgs false
namespace Go.Proofs.Ytdlgkmnloijnbaa.Q
open Go.RowKit Go.Proofs.YtdlgkmnloijnbaaW.PrintWords Go.Proofs.YtdlgkmnloijnbaaW.PrintLast Go.Proofs.YtdlgkmnloijnbaaW.PrintMore

theorem results_tct {P : Program} {fn : Func} {p u v : Tmp} {ty : TypeId} (h : fn.results = #[.tmp u, .cell p ty, .tmp v]) (tmps : Array Value) (w : World) (g : Nat) (t : TypeId) (cs : Array Value) (fr : Nat × Nat) (d : TypeDesc)
  (hp : tmps.getD p undef = .pointer (some ⟨g, 0, none⟩)) (hg : w.heap[g]? = some (.cells cs t fr))
  (hu : P.underlying ty = some d) (hd : (match d with | .struct _ | .array _ _ => true | _ => false) = true) (hi : (P.info? ty).map (·.size) = some cs.size) :
  (results fn tmps).run P w = .ok (.tuple #[tmps.getD u undef, .agg cs, tmps.getD v undef]) w := by
 have hp' : tmps[p]?.getD undef = .pointer (some ⟨g, 0, none⟩) := by simpa using hp
 simp [results, h, hp', asAddr, run_loadVar_row w g t ty cs fr d hg hu hd hi]
theorem eventsL_pos (k : Nat) (m : S24) : ∀ (s t : List S56) (es : List Ev), eventsL k m s t = some es → 0 < es.length
 | [], t, es, h => by
  rw [eventsL] at h
  obtain ⟨p, _, h⟩ := Option.bind_eq_some_iff.1 h
  obtain rfl := Option.some.inj h
  simp
 | i :: s, t, es, h => by
  rw [eventsL] at h
  split at h
  ·obtain ⟨p, _, h⟩ := Option.bind_eq_some_iff.1 h
   obtain rfl := Option.some.inj h
   simp
  ·obtain ⟨p, _, h⟩ := Option.bind_eq_some_iff.1 h
   split at h
   ·cases h
   ·obtain ⟨p, _, h⟩ := Option.bind_eq_some_iff.1 h
    obtain rfl := Option.some.inj h
    simp only [List.length_append, List.length_cons]
    omega
theorem skipL_le (k : Nat) (m : S24) : ∀ (l : List S56) (n : Nat) (es : List Ev), skipL k m l = some (n, es) → es.length = n ∧ n ≤ l.length
 | [], n, es, h => by
  have h2 := Option.some.inj h
  simp only [Prod.mk.injEq] at h2
  obtain ⟨rfl, rfl⟩ := h2
  simp
 | x :: l, n, es, h => by
  rw [skipL] at h
  split at h
  ·obtain ⟨e, _, h⟩ := Option.bind_eq_some_iff.1 h
   obtain ⟨p, hp, h⟩ := Option.bind_eq_some_iff.1 h
   have h3 := skipL_le k m l p.1 p.2 hp
   have h2 := Option.some.inj h
   simp only [Prod.mk.injEq] at h2
   obtain ⟨rfl, rfl⟩ := h2
   simp; omega
  ·have h2 := Option.some.inj h
   simp only [Prod.mk.injEq] at h2
   obtain ⟨rfl, rfl⟩ := h2
   simp
theorem eventsL_le (k : Nat) (m : S24) : ∀ (s t : List S56) (es : List Ev), eventsL k m s t = some es → es.length ≤ s.length + t.length + 1
 | [], t, es, h => by
  rw [eventsL] at h
  obtain ⟨p, hp, h⟩ := Option.bind_eq_some_iff.1 h
  obtain rfl := Option.some.inj h
  have := skipL_le k m t p.1 p.2 hp
  simp; omega
 | i :: s, t, es, h => by
  rw [eventsL] at h
  split at h
  ·obtain ⟨p, hp, h⟩ := Option.bind_eq_some_iff.1 h
   obtain rfl := Option.some.inj h
   have := eventsL_le k m s t p hp
   simp; omega
  ·obtain ⟨p, hp, h⟩ := Option.bind_eq_some_iff.1 h
   have h1 := skipL_le k m t p.1 p.2 hp
   split at h
   ·cases h
   ·rename_i y t' ht
    obtain ⟨p2, hp2, h⟩ := Option.bind_eq_some_iff.1 h
    obtain rfl := Option.some.inj h
    have h3 := eventsL_le k m s t' p2 hp2
    have h4 := congrArg List.length ht
    simp at h4 ⊢; omega
theorem eventsL_len (k : Nat) (m : S24) (s t : List S56) (es : List Ev) (h : eventsL k m s t = some es) (h1 : s.length ≤ 1000000) (h2 : t.length ≤ 1000000) : es.length ≤ 3000000 := by
 have := eventsL_le k m s t es h
 omega
def fb6_T : Bool × List (List Nat × List Nat) := (true, [([], []), ([], []), ([], []), ([1, 2], [1, 2]), ([], []), ([0, 3, 4], [0, 3, 4]), ([5], [5]), ([6], [6]), ([6], [6]), ([], []), ([7, 5, 0, 1, 2, 3, 4, 5, 6, 7, 9], [7]), ([9, 8, 10, 0, 1, 2, 3, 4, 5, 6, 7, 8, 9, 10], [8, 9])])
def fb6_B : List Nat := [0, 0, 0, 6, 0, 31, 63, 127, 127, 0, 767, 2047]
theorem fb6_tab : rtab .any (opsOf Try.f10 6) = fb6_T := by kernel_rfl
theorem fb6_bits : waitsOk fb6_T.2 fb6_B = true := by kernel_rfl
def fb7_T : Bool × List (List Nat × List Nat) := (true, [([], []), ([], []), ([0, 0], [0]), ([1, 2, 0, 1, 2], [1]), ([3, 0, 1, 2, 3], [])])
def fb7_B : List Nat := [0, 0, 1, 7, 15]
theorem fb7_tab : rtab .any (opsOf Try.f10 7) = fb7_T := by kernel_rfl
theorem fb7_bits : waitsOk fb7_T.2 fb7_B = true := by kernel_rfl
set_option maxHeartbeats 3200000 in
set_option maxRecDepth 100000 in
theorem before_no (a0_0 : Int) (A0_1 : Option Addr) (c0_1 : Nat) (l0_1 : List Int) (a0_2 : Int) (A0_3 : Option Addr) (c0_3 : Nat) (l0_3 : List Int) (A1_0 : Option Addr) (c1_0 : Nat) (l1_0 : List (S56)) (a1_1 : Int) (a1_2 : Int) (a1_3 : Int) (a1_4 : Int) (A2_0 : Option Addr) (c2_0 : Nat) (l2_0 : List (S56)) (a2_1 : Int) (a2_2 : Int) (a2_3 : Int) (a2_4 : Int) (a3 : Int) (a4_0 : Int) (a4_1 : Bool) (a4_2 : Int) (w : World) (hr0_1 : Kd.C (Kd.int .i64) w A0_1 l0_1.length l0_1) (hc0_1 : l0_1.length ≤ c0_1) (hr0_3 : Kd.C (Kd.int .i64) w A0_3 l0_3.length l0_3) (hc0_3 : l0_3.length ≤ c0_3) (hr1_0 : Kd.C k56 w A1_0 l1_0.length l1_0) (hc1_0 : l1_0.length ≤ c1_0) (hr2_0 : Kd.C k56 w A2_0 l2_0.length l2_0) (hc2_0 : l2_0.length ≤ c2_0) (hd : check_Does.f a0_0 l0_1 a0_2 l0_3 l1_0 a1_1 a1_2 a1_3 a1_4 l2_0 a2_1 a2_2 a2_3 a2_4 = some false) :
  Calls Try.prog 10 #[.agg #[.int .i64 a0_0, .slice A0_1 l0_1.length c0_1, .int .i64 a0_2, .slice A0_3 l0_3.length c0_3], .agg #[.slice A1_0 l1_0.length c1_0, .int .i64 a1_1, .int .i64 a1_2, .int .i64 a1_3, .int .i64 a1_4], .agg #[.slice A2_0 l2_0.length c2_0, .int .i64 a2_1, .int .i64 a2_2, .int .i64 a2_3, .int .i64 a2_4], .int .i64 a3, .agg #[.int .i64 a4_0, .bool a4_1, .int .i64 a4_2]] w fun e w' => e = .returned (.tuple #[.int .i64 0, .agg #[.int .i64 0, .bool false, .int .i64 0], .int .i64 13]) ∧ Below w.heap.size w w' := by
 have HD := Aside0.mk hd
 have HN := Aside0.mk (does_bounds hd)
 have H01 := Aside0.mk hr0_1
 have H03 := Aside0.mk hr0_3
 have H1 := Aside0.mk hr1_0
 have H2 := Aside0.mk hr2_0
 have HL := Aside0.mk (And.intro hc0_1 (And.intro hc0_3 (And.intro hc1_0 hc2_0)))
 clear hd hr0_1 hr0_3 hr1_0 hr2_0 hc0_1 hc0_3 hc1_0 hc2_0
 go_enter Try.func10, Try.ntmps10
 go_wp2_with (first
   | ((with_reducible refine gate_dst (N := 5) rfl ?_); refine box_event ?hg (N := 5) ?hd (cs := #[.int .i64 a0_0, .slice A0_1 l0_1.length c0_1, .int .i64 a0_2, .slice A0_3 l0_3.length c0_3]) (t := 24) ?hr ?_; (case hd => rfl); (case hg => rfl); (case hr => first | (go_simp; done) | (go_simp; rfl)); intro g5 hg w5 hbox hb; have HB := Aside0.mk hb; have X5 := Aside0.mk hbox; clear hb hbox hg)
   | ((with_reducible refine gate_dst (N := 6) rfl ?_); refine box_event ?hg (N := 6) ?hd (cs := #[.slice A1_0 l1_0.length c1_0, .int .i64 a1_1, .int .i64 a1_2, .int .i64 a1_3, .int .i64 a1_4]) (t := 31) ?hr ?_; (case hd => rfl); (case hg => rfl); (case hr => first | (go_simp; done) | (go_simp; rfl)); intro g6 hg w6 hbox hb; have G6 : Aside0 (w.heap.size ≤ g6) := ⟨by have := HB.out.size; omega⟩; have N5_6 : Aside0 (g5 ≠ g6) := ⟨by have := blk_lt X5.out; omega⟩; have nB := Aside0.mk (below_step HB.out hb); have n5 := Aside0.mk (blk_below X5.out hb); clear HB X5; have HB := nB; have X5 := n5; clear nB n5; have X6 := Aside0.mk hbox; clear hb hbox hg)
   | ((with_reducible refine gate_dst (N := 7) rfl ?_); refine box_event ?hg (N := 7) ?hd (cs := #[.slice A2_0 l2_0.length c2_0, .int .i64 a2_1, .int .i64 a2_2, .int .i64 a2_3, .int .i64 a2_4]) (t := 31) ?hr ?_; (case hd => rfl); (case hg => rfl); (case hr => first | (go_simp; done) | (go_simp; rfl)); intro g7 hg w7 hbox hb; have G7 : Aside0 (w.heap.size ≤ g7) := ⟨by have := HB.out.size; omega⟩; have N5_7 : Aside0 (g5 ≠ g7) := ⟨by have := blk_lt X5.out; omega⟩; have N6_7 : Aside0 (g6 ≠ g7) := ⟨by have := blk_lt X6.out; omega⟩; have nB := Aside0.mk (below_step HB.out hb); have n5 := Aside0.mk (blk_below X5.out hb); have n6 := Aside0.mk (blk_below X6.out hb); clear HB X5 X6; have HB := nB; have X5 := n5; have X6 := n6; clear nB n5 n6; have X7 := Aside0.mk hbox; clear hb hbox hg)
   | ((with_reducible refine gate_dst (N := 9) rfl ?_); refine box_event ?hg (N := 9) ?hd (cs := #[.int .i64 a4_0, .bool a4_1, .int .i64 a4_2]) (t := 35) ?hr ?_; (case hd => rfl); (case hg => rfl); (case hr => first | (go_simp; done) | (go_simp; rfl)); intro g9 hg w9 hbox hb; have G9 : Aside0 (w.heap.size ≤ g9) := ⟨by have := HB.out.size; omega⟩; have N5_9 : Aside0 (g5 ≠ g9) := ⟨by have := blk_lt X5.out; omega⟩; have N6_9 : Aside0 (g6 ≠ g9) := ⟨by have := blk_lt X6.out; omega⟩; have N7_9 : Aside0 (g7 ≠ g9) := ⟨by have := blk_lt X7.out; omega⟩; have nB := Aside0.mk (below_step HB.out hb); have n5 := Aside0.mk (blk_below X5.out hb); have n6 := Aside0.mk (blk_below X6.out hb); have n7 := Aside0.mk (blk_below X7.out hb); clear HB X5 X6 X7; have HB := nB; have X5 := n5; have X6 := n6; have X7 := n7; clear nB n5 n6 n7; have X9 := Aside0.mk hbox; clear hb hbox hg)
   | ((with_reducible refine gate_dst (N := 11) rfl ?_); refine box_event ?hg (N := 11) ?hd (cs := #[.int .i64 0, .bool false, .int .i64 0]) (t := 35) ?hr ?_; (case hd => rfl); (case hg => rfl); (case hr => first | (go_simp; done) | (go_simp; rfl)); intro g11 hg w11 hbox hb; have G11 : Aside0 (w.heap.size ≤ g11) := ⟨by have := HB.out.size; omega⟩; have N5_11 : Aside0 (g5 ≠ g11) := ⟨by have := blk_lt X5.out; omega⟩; have N6_11 : Aside0 (g6 ≠ g11) := ⟨by have := blk_lt X6.out; omega⟩; have N7_11 : Aside0 (g7 ≠ g11) := ⟨by have := blk_lt X7.out; omega⟩; have N9_11 : Aside0 (g9 ≠ g11) := ⟨by have := blk_lt X9.out; omega⟩; have nB := Aside0.mk (below_step HB.out hb); have n5 := Aside0.mk (blk_below X5.out hb); have n6 := Aside0.mk (blk_below X6.out hb); have n7 := Aside0.mk (blk_below X7.out hb); have n9 := Aside0.mk (blk_below X9.out hb); clear HB X5 X6 X7 X9; have HB := nB; have X5 := n5; have X6 := n6; have X7 := n7; have X9 := n9; clear nB n5 n6 n7 n9; have X11 := Aside0.mk hbox; clear hb hbox hg; have q5_0 := (blk_cell X5.out 0).trans rfl; have q5_1 := (blk_cell X5.out 1).trans rfl; have q5_2 := (blk_cell X5.out 2).trans rfl; have q5_3 := (blk_cell X5.out 3).trans rfl; have q6_0 := (blk_cell X6.out 0).trans rfl; have q6_1 := (blk_cell X6.out 1).trans rfl; have q6_2 := (blk_cell X6.out 2).trans rfl; have q6_3 := (blk_cell X6.out 3).trans rfl; have q6_4 := (blk_cell X6.out 4).trans rfl; have q7_0 := (blk_cell X7.out 0).trans rfl; have q7_1 := (blk_cell X7.out 1).trans rfl; have q7_2 := (blk_cell X7.out 2).trans rfl; have q7_3 := (blk_cell X7.out 3).trans rfl; have q7_4 := (blk_cell X7.out 4).trans rfl)
   | (go_at_call 16; with_reducible refine (check_Does.calls a0_0 A0_1 c0_1 l0_1 a0_2 A0_3 c0_3 l0_3 A1_0 c1_0 l1_0 a1_1 a1_2 a1_3 a1_4 A2_0 c2_0 l2_0 a2_1 a2_2 a2_3 a2_4 _ _ (Kd.C_below H01.out HB.out) HL.out.1 (Kd.C_below H03.out HB.out) HL.out.2.1 (Kd.C_below H1.out HB.out) HL.out.2.2.1 (Kd.C_below H2.out HB.out) HL.out.2.2.2 HD.out).mono ?_; rintro e wn ⟨rfl, hb⟩; clear q5_0 q5_1 q5_2 q5_3 q6_0 q6_1 q6_2 q6_3 q6_4 q7_0 q7_1 q7_2 q7_3 q7_4; have nB := Aside0.mk (below_step HB.out hb); have n5 := Aside0.mk (blk_below X5.out hb); have n6 := Aside0.mk (blk_below X6.out hb); have n7 := Aside0.mk (blk_below X7.out hb); have n9 := Aside0.mk (blk_below X9.out hb); have n11 := Aside0.mk (blk_below X11.out hb); clear HB X5 X6 X7 X9 X11; have HB := nB; have X5 := n5; have X6 := n6; have X7 := n7; have X9 := n9; have X11 := n11; clear nB n5 n6 n7 n9 n11; clear hb; have q5_0 := (blk_cell X5.out 0).trans rfl; have q5_1 := (blk_cell X5.out 1).trans rfl; have q5_2 := (blk_cell X5.out 2).trans rfl; have q5_3 := (blk_cell X5.out 3).trans rfl; have q6_0 := (blk_cell X6.out 0).trans rfl; have q6_1 := (blk_cell X6.out 1).trans rfl; have q6_2 := (blk_cell X6.out 2).trans rfl; have q6_3 := (blk_cell X6.out 3).trans rfl; have q6_4 := (blk_cell X6.out 4).trans rfl; have q7_0 := (blk_cell X7.out 0).trans rfl; have q7_1 := (blk_cell X7.out 1).trans rfl; have q7_2 := (blk_cell X7.out 2).trans rfl; have q7_3 := (blk_cell X7.out 3).trans rfl; have q7_4 := (blk_cell X7.out 4).trans rfl)
   | ((with_reducible refine gate_stores (x := .tmp 11) (y := .tmp 21) 35 rfl ?_); refine wpList_store_row rfl 35 (.tmp 11) (.tmp 21) rfl g11 #[.int .i64 0, .bool false, .int .i64 0] rfl rfl 35 _ X11.out info35s rfl (by simp [Value.oneCell']) ?_; have Y11 := Aside0.mk (setRow_heap _ g11 _ #[.int .i64 0, .bool false, .int .i64 0] 35 (0, 0) X11.out); have YB := Aside0.mk (below_setRow #[.int .i64 0, .bool false, .int .i64 0] HB.out G11.out)))
 refine bodyPost_ret (results_tct rfl _ _ g11 35 #[.int .i64 0, .bool false, .int .i64 0] (0, 0) _ rfl Y11.out Try.underlying35 rfl info35s) rfl ?_
 exact ⟨by first | rfl | (simp; done) | (simp; rfl), YB.out⟩
set_option maxHeartbeats 3200000 in
set_option maxRecDepth 100000 in
theorem before_neg (a0_0 : Int) (A0_1 : Option Addr) (c0_1 : Nat) (l0_1 : List Int) (a0_2 : Int) (A0_3 : Option Addr) (c0_3 : Nat) (l0_3 : List Int) (A1_0 : Option Addr) (c1_0 : Nat) (l1_0 : List (S56)) (a1_1 : Int) (a1_2 : Int) (a1_3 : Int) (a1_4 : Int) (A2_0 : Option Addr) (c2_0 : Nat) (l2_0 : List (S56)) (a2_1 : Int) (a2_2 : Int) (a2_3 : Int) (a2_4 : Int) (a3 : Int) (a4_0 : Int) (a4_1 : Bool) (a4_2 : Int) (w : World) (hr0_1 : Kd.C (Kd.int .i64) w A0_1 l0_1.length l0_1) (hc0_1 : l0_1.length ≤ c0_1) (hr0_3 : Kd.C (Kd.int .i64) w A0_3 l0_3.length l0_3) (hc0_3 : l0_3.length ≤ c0_3) (hr1_0 : Kd.C k56 w A1_0 l1_0.length l1_0) (hc1_0 : l1_0.length ≤ c1_0) (hr2_0 : Kd.C k56 w A2_0 l2_0.length l2_0) (hc2_0 : l2_0.length ≤ c2_0) (hd : check_Does.f a0_0 l0_1 a0_2 l0_3 l1_0 a1_1 a1_2 a1_3 a1_4 l2_0 a2_1 a2_2 a2_3 a2_4 = some true) (es : List Ev) (he : eventsL (fuelOf l1_0 + fuelOf l2_0) ⟨a0_0, l0_1, a0_2, l0_3⟩ l1_0 l2_0 = some es) (hn : a3 < 0) :
  Calls Try.prog 10 #[.agg #[.int .i64 a0_0, .slice A0_1 l0_1.length c0_1, .int .i64 a0_2, .slice A0_3 l0_3.length c0_3], .agg #[.slice A1_0 l1_0.length c1_0, .int .i64 a1_1, .int .i64 a1_2, .int .i64 a1_3, .int .i64 a1_4], .agg #[.slice A2_0 l2_0.length c2_0, .int .i64 a2_1, .int .i64 a2_2, .int .i64 a2_3, .int .i64 a2_4], .int .i64 a3, .agg #[.int .i64 a4_0, .bool a4_1, .int .i64 a4_2]] w fun e w' => e = .returned (.tuple #[.int .i64 0, .agg #[.int .i64 0, .bool false, .int .i64 0], .int .i64 2]) ∧ Below w.heap.size w w' := by
 have HD := Aside0.mk hd
 have HN := Aside0.mk (does_bounds hd)
 have H01 := Aside0.mk hr0_1
 have H03 := Aside0.mk hr0_3
 have H1 := Aside0.mk hr1_0
 have H2 := Aside0.mk hr2_0
 have HL := Aside0.mk (And.intro hc0_1 (And.intro hc0_3 (And.intro hc1_0 hc2_0)))
 clear hd hr0_1 hr0_3 hr1_0 hr2_0 hc0_1 hc0_3 hc1_0 hc2_0
 have HE := Aside0.mk he
 clear he
 go_enter Try.func10, Try.ntmps10
 go_wp2_with (first
   | ((with_reducible refine gate_dst (N := 5) rfl ?_); refine box_event ?hg (N := 5) ?hd (cs := #[.int .i64 a0_0, .slice A0_1 l0_1.length c0_1, .int .i64 a0_2, .slice A0_3 l0_3.length c0_3]) (t := 24) ?hr ?_; (case hd => rfl); (case hg => rfl); (case hr => first | (go_simp; done) | (go_simp; rfl)); intro g5 hg w5 hbox hb; have HB := Aside0.mk hb; have X5 := Aside0.mk hbox; clear hb hbox hg)
   | ((with_reducible refine gate_dst (N := 6) rfl ?_); refine box_event ?hg (N := 6) ?hd (cs := #[.slice A1_0 l1_0.length c1_0, .int .i64 a1_1, .int .i64 a1_2, .int .i64 a1_3, .int .i64 a1_4]) (t := 31) ?hr ?_; (case hd => rfl); (case hg => rfl); (case hr => first | (go_simp; done) | (go_simp; rfl)); intro g6 hg w6 hbox hb; have G6 : Aside0 (w.heap.size ≤ g6) := ⟨by have := HB.out.size; omega⟩; have N5_6 : Aside0 (g5 ≠ g6) := ⟨by have := blk_lt X5.out; omega⟩; have nB := Aside0.mk (below_step HB.out hb); have n5 := Aside0.mk (blk_below X5.out hb); clear HB X5; have HB := nB; have X5 := n5; clear nB n5; have X6 := Aside0.mk hbox; clear hb hbox hg)
   | ((with_reducible refine gate_dst (N := 7) rfl ?_); refine box_event ?hg (N := 7) ?hd (cs := #[.slice A2_0 l2_0.length c2_0, .int .i64 a2_1, .int .i64 a2_2, .int .i64 a2_3, .int .i64 a2_4]) (t := 31) ?hr ?_; (case hd => rfl); (case hg => rfl); (case hr => first | (go_simp; done) | (go_simp; rfl)); intro g7 hg w7 hbox hb; have G7 : Aside0 (w.heap.size ≤ g7) := ⟨by have := HB.out.size; omega⟩; have N5_7 : Aside0 (g5 ≠ g7) := ⟨by have := blk_lt X5.out; omega⟩; have N6_7 : Aside0 (g6 ≠ g7) := ⟨by have := blk_lt X6.out; omega⟩; have nB := Aside0.mk (below_step HB.out hb); have n5 := Aside0.mk (blk_below X5.out hb); have n6 := Aside0.mk (blk_below X6.out hb); clear HB X5 X6; have HB := nB; have X5 := n5; have X6 := n6; clear nB n5 n6; have X7 := Aside0.mk hbox; clear hb hbox hg)
   | ((with_reducible refine gate_dst (N := 9) rfl ?_); refine box_event ?hg (N := 9) ?hd (cs := #[.int .i64 a4_0, .bool a4_1, .int .i64 a4_2]) (t := 35) ?hr ?_; (case hd => rfl); (case hg => rfl); (case hr => first | (go_simp; done) | (go_simp; rfl)); intro g9 hg w9 hbox hb; have G9 : Aside0 (w.heap.size ≤ g9) := ⟨by have := HB.out.size; omega⟩; have N5_9 : Aside0 (g5 ≠ g9) := ⟨by have := blk_lt X5.out; omega⟩; have N6_9 : Aside0 (g6 ≠ g9) := ⟨by have := blk_lt X6.out; omega⟩; have N7_9 : Aside0 (g7 ≠ g9) := ⟨by have := blk_lt X7.out; omega⟩; have nB := Aside0.mk (below_step HB.out hb); have n5 := Aside0.mk (blk_below X5.out hb); have n6 := Aside0.mk (blk_below X6.out hb); have n7 := Aside0.mk (blk_below X7.out hb); clear HB X5 X6 X7; have HB := nB; have X5 := n5; have X6 := n6; have X7 := n7; clear nB n5 n6 n7; have X9 := Aside0.mk hbox; clear hb hbox hg)
   | ((with_reducible refine gate_dst (N := 11) rfl ?_); refine box_event ?hg (N := 11) ?hd (cs := #[.int .i64 0, .bool false, .int .i64 0]) (t := 35) ?hr ?_; (case hd => rfl); (case hg => rfl); (case hr => first | (go_simp; done) | (go_simp; rfl)); intro g11 hg w11 hbox hb; have G11 : Aside0 (w.heap.size ≤ g11) := ⟨by have := HB.out.size; omega⟩; have N5_11 : Aside0 (g5 ≠ g11) := ⟨by have := blk_lt X5.out; omega⟩; have N6_11 : Aside0 (g6 ≠ g11) := ⟨by have := blk_lt X6.out; omega⟩; have N7_11 : Aside0 (g7 ≠ g11) := ⟨by have := blk_lt X7.out; omega⟩; have N9_11 : Aside0 (g9 ≠ g11) := ⟨by have := blk_lt X9.out; omega⟩; have nB := Aside0.mk (below_step HB.out hb); have n5 := Aside0.mk (blk_below X5.out hb); have n6 := Aside0.mk (blk_below X6.out hb); have n7 := Aside0.mk (blk_below X7.out hb); have n9 := Aside0.mk (blk_below X9.out hb); clear HB X5 X6 X7 X9; have HB := nB; have X5 := n5; have X6 := n6; have X7 := n7; have X9 := n9; clear nB n5 n6 n7 n9; have X11 := Aside0.mk hbox; clear hb hbox hg; have q5_0 := (blk_cell X5.out 0).trans rfl; have q5_1 := (blk_cell X5.out 1).trans rfl; have q5_2 := (blk_cell X5.out 2).trans rfl; have q5_3 := (blk_cell X5.out 3).trans rfl; have q6_0 := (blk_cell X6.out 0).trans rfl; have q6_1 := (blk_cell X6.out 1).trans rfl; have q6_2 := (blk_cell X6.out 2).trans rfl; have q6_3 := (blk_cell X6.out 3).trans rfl; have q6_4 := (blk_cell X6.out 4).trans rfl; have q7_0 := (blk_cell X7.out 0).trans rfl; have q7_1 := (blk_cell X7.out 1).trans rfl; have q7_2 := (blk_cell X7.out 2).trans rfl; have q7_3 := (blk_cell X7.out 3).trans rfl; have q7_4 := (blk_cell X7.out 4).trans rfl)
   | (go_at_call 16; with_reducible refine (check_Does.calls a0_0 A0_1 c0_1 l0_1 a0_2 A0_3 c0_3 l0_3 A1_0 c1_0 l1_0 a1_1 a1_2 a1_3 a1_4 A2_0 c2_0 l2_0 a2_1 a2_2 a2_3 a2_4 _ _ (Kd.C_below H01.out HB.out) HL.out.1 (Kd.C_below H03.out HB.out) HL.out.2.1 (Kd.C_below H1.out HB.out) HL.out.2.2.1 (Kd.C_below H2.out HB.out) HL.out.2.2.2 HD.out).mono ?_; rintro e wn ⟨rfl, hb⟩; clear q5_0 q5_1 q5_2 q5_3 q6_0 q6_1 q6_2 q6_3 q6_4 q7_0 q7_1 q7_2 q7_3 q7_4; have nB := Aside0.mk (below_step HB.out hb); have n5 := Aside0.mk (blk_below X5.out hb); have n6 := Aside0.mk (blk_below X6.out hb); have n7 := Aside0.mk (blk_below X7.out hb); have n9 := Aside0.mk (blk_below X9.out hb); have n11 := Aside0.mk (blk_below X11.out hb); clear HB X5 X6 X7 X9 X11; have HB := nB; have X5 := n5; have X6 := n6; have X7 := n7; have X9 := n9; have X11 := n11; clear nB n5 n6 n7 n9 n11; clear hb; have q5_0 := (blk_cell X5.out 0).trans rfl; have q5_1 := (blk_cell X5.out 1).trans rfl; have q5_2 := (blk_cell X5.out 2).trans rfl; have q5_3 := (blk_cell X5.out 3).trans rfl; have q6_0 := (blk_cell X6.out 0).trans rfl; have q6_1 := (blk_cell X6.out 1).trans rfl; have q6_2 := (blk_cell X6.out 2).trans rfl; have q6_3 := (blk_cell X6.out 3).trans rfl; have q6_4 := (blk_cell X6.out 4).trans rfl; have q7_0 := (blk_cell X7.out 0).trans rfl; have q7_1 := (blk_cell X7.out 1).trans rfl; have q7_2 := (blk_cell X7.out 2).trans rfl; have q7_3 := (blk_cell X7.out 3).trans rfl; have q7_4 := (blk_cell X7.out 4).trans rfl)
   | (go_at_call 21; refine (events_calls (fuelOf l1_0 + fuelOf l2_0) ⟨a0_0, l0_1, a0_2, l0_3⟩ A0_1 c0_1 A0_3 c0_3 l1_0 l2_0 A1_0 A2_0 c1_0 c2_0 a1_1 a1_2 a1_3 a1_4 a2_1 a2_2 a2_3 a2_4 _ es (Kd.C_below H01.out HB.out) HL.out.1 (Kd.C_below H03.out HB.out) HL.out.2.1 (Kd.C_below H1.out HB.out) HL.out.2.2.1 (Kd.C_below H2.out HB.out) HL.out.2.2.2 HN.out.1 HN.out.2 HE.out).mono ?_; rintro e we ⟨v, rfl, hr, hb⟩; obtain ⟨Av, cv, rfl, hv1, hv2⟩ := Kd.R_reads hr; have HV := Aside0.mk hv2; have HBE := Aside0.mk HB.out; clear hv2 hr; clear q5_0 q5_1 q5_2 q5_3 q6_0 q6_1 q6_2 q6_3 q6_4 q7_0 q7_1 q7_2 q7_3 q7_4; have nB := Aside0.mk (below_step HB.out hb); have n5 := Aside0.mk (blk_below X5.out hb); have n6 := Aside0.mk (blk_below X6.out hb); have n7 := Aside0.mk (blk_below X7.out hb); have n9 := Aside0.mk (blk_below X9.out hb); have n11 := Aside0.mk (blk_below X11.out hb); clear HB X5 X6 X7 X9 X11; have HB := nB; have X5 := n5; have X6 := n6; have X7 := n7; have X9 := n9; have X11 := n11; clear nB n5 n6 n7 n9 n11; clear hb; have HVC : Aside0 (es.length ≤ cv) := ⟨hv1⟩; clear hv1)
   | ((with_reducible refine gate_stores (x := .tmp 11) (y := .tmp 34) 35 rfl ?_); refine wpList_store_row rfl 35 (.tmp 11) (.tmp 34) rfl g11 #[.int .i64 0, .bool false, .int .i64 0] rfl rfl 35 _ X11.out info35s rfl (by simp [Value.oneCell']) ?_; have Y11 := Aside0.mk (setRow_heap _ g11 _ #[.int .i64 0, .bool false, .int .i64 0] 35 (0, 0) X11.out); have YB := Aside0.mk (below_setRow #[.int .i64 0, .bool false, .int .i64 0] HB.out G11.out)))
 refine bodyPost_ret (results_tct rfl _ _ g11 35 #[.int .i64 0, .bool false, .int .i64 0] (0, 0) _ rfl Y11.out Try.underlying35 rfl info35s) rfl ?_
 exact ⟨by first | rfl | (simp; done) | (simp; rfl), YB.out⟩
set_option maxHeartbeats 3200000 in
set_option maxRecDepth 100000 in
theorem before_far (a0_0 : Int) (A0_1 : Option Addr) (c0_1 : Nat) (l0_1 : List Int) (a0_2 : Int) (A0_3 : Option Addr) (c0_3 : Nat) (l0_3 : List Int) (A1_0 : Option Addr) (c1_0 : Nat) (l1_0 : List (S56)) (a1_1 : Int) (a1_2 : Int) (a1_3 : Int) (a1_4 : Int) (A2_0 : Option Addr) (c2_0 : Nat) (l2_0 : List (S56)) (a2_1 : Int) (a2_2 : Int) (a2_3 : Int) (a2_4 : Int) (a3 : Int) (a4_0 : Int) (a4_1 : Bool) (a4_2 : Int) (w : World) (hr0_1 : Kd.C (Kd.int .i64) w A0_1 l0_1.length l0_1) (hc0_1 : l0_1.length ≤ c0_1) (hr0_3 : Kd.C (Kd.int .i64) w A0_3 l0_3.length l0_3) (hc0_3 : l0_3.length ≤ c0_3) (hr1_0 : Kd.C k56 w A1_0 l1_0.length l1_0) (hc1_0 : l1_0.length ≤ c1_0) (hr2_0 : Kd.C k56 w A2_0 l2_0.length l2_0) (hc2_0 : l2_0.length ≤ c2_0) (hd : check_Does.f a0_0 l0_1 a0_2 l0_3 l1_0 a1_1 a1_2 a1_3 a1_4 l2_0 a2_1 a2_2 a2_3 a2_4 = some true) (es : List Ev) (he : eventsL (fuelOf l1_0 + fuelOf l2_0) ⟨a0_0, l0_1, a0_2, l0_3⟩ l1_0 l2_0 = some es) (hn : (es.length : Int) < a3) :
  Calls Try.prog 10 #[.agg #[.int .i64 a0_0, .slice A0_1 l0_1.length c0_1, .int .i64 a0_2, .slice A0_3 l0_3.length c0_3], .agg #[.slice A1_0 l1_0.length c1_0, .int .i64 a1_1, .int .i64 a1_2, .int .i64 a1_3, .int .i64 a1_4], .agg #[.slice A2_0 l2_0.length c2_0, .int .i64 a2_1, .int .i64 a2_2, .int .i64 a2_3, .int .i64 a2_4], .int .i64 a3, .agg #[.int .i64 a4_0, .bool a4_1, .int .i64 a4_2]] w fun e w' => e = .returned (.tuple #[.int .i64 0, .agg #[.int .i64 0, .bool false, .int .i64 0], .int .i64 2]) ∧ Below w.heap.size w w' := by
 have HD := Aside0.mk hd
 have HN := Aside0.mk (does_bounds hd)
 have H01 := Aside0.mk hr0_1
 have H03 := Aside0.mk hr0_3
 have H1 := Aside0.mk hr1_0
 have H2 := Aside0.mk hr2_0
 have HL := Aside0.mk (And.intro hc0_1 (And.intro hc0_3 (And.intro hc1_0 hc2_0)))
 clear hd hr0_1 hr0_3 hr1_0 hr2_0 hc0_1 hc0_3 hc1_0 hc2_0
 have HE := Aside0.mk he
 clear he
 have hn0 : (0 : Int) ≤ a3 := by omega
 go_enter Try.func10, Try.ntmps10
 go_wp2_with (first
   | ((with_reducible refine gate_dst (N := 5) rfl ?_); refine box_event ?hg (N := 5) ?hd (cs := #[.int .i64 a0_0, .slice A0_1 l0_1.length c0_1, .int .i64 a0_2, .slice A0_3 l0_3.length c0_3]) (t := 24) ?hr ?_; (case hd => rfl); (case hg => rfl); (case hr => first | (go_simp; done) | (go_simp; rfl)); intro g5 hg w5 hbox hb; have HB := Aside0.mk hb; have X5 := Aside0.mk hbox; clear hb hbox hg)
   | ((with_reducible refine gate_dst (N := 6) rfl ?_); refine box_event ?hg (N := 6) ?hd (cs := #[.slice A1_0 l1_0.length c1_0, .int .i64 a1_1, .int .i64 a1_2, .int .i64 a1_3, .int .i64 a1_4]) (t := 31) ?hr ?_; (case hd => rfl); (case hg => rfl); (case hr => first | (go_simp; done) | (go_simp; rfl)); intro g6 hg w6 hbox hb; have G6 : Aside0 (w.heap.size ≤ g6) := ⟨by have := HB.out.size; omega⟩; have N5_6 : Aside0 (g5 ≠ g6) := ⟨by have := blk_lt X5.out; omega⟩; have nB := Aside0.mk (below_step HB.out hb); have n5 := Aside0.mk (blk_below X5.out hb); clear HB X5; have HB := nB; have X5 := n5; clear nB n5; have X6 := Aside0.mk hbox; clear hb hbox hg)
   | ((with_reducible refine gate_dst (N := 7) rfl ?_); refine box_event ?hg (N := 7) ?hd (cs := #[.slice A2_0 l2_0.length c2_0, .int .i64 a2_1, .int .i64 a2_2, .int .i64 a2_3, .int .i64 a2_4]) (t := 31) ?hr ?_; (case hd => rfl); (case hg => rfl); (case hr => first | (go_simp; done) | (go_simp; rfl)); intro g7 hg w7 hbox hb; have G7 : Aside0 (w.heap.size ≤ g7) := ⟨by have := HB.out.size; omega⟩; have N5_7 : Aside0 (g5 ≠ g7) := ⟨by have := blk_lt X5.out; omega⟩; have N6_7 : Aside0 (g6 ≠ g7) := ⟨by have := blk_lt X6.out; omega⟩; have nB := Aside0.mk (below_step HB.out hb); have n5 := Aside0.mk (blk_below X5.out hb); have n6 := Aside0.mk (blk_below X6.out hb); clear HB X5 X6; have HB := nB; have X5 := n5; have X6 := n6; clear nB n5 n6; have X7 := Aside0.mk hbox; clear hb hbox hg)
   | ((with_reducible refine gate_dst (N := 9) rfl ?_); refine box_event ?hg (N := 9) ?hd (cs := #[.int .i64 a4_0, .bool a4_1, .int .i64 a4_2]) (t := 35) ?hr ?_; (case hd => rfl); (case hg => rfl); (case hr => first | (go_simp; done) | (go_simp; rfl)); intro g9 hg w9 hbox hb; have G9 : Aside0 (w.heap.size ≤ g9) := ⟨by have := HB.out.size; omega⟩; have N5_9 : Aside0 (g5 ≠ g9) := ⟨by have := blk_lt X5.out; omega⟩; have N6_9 : Aside0 (g6 ≠ g9) := ⟨by have := blk_lt X6.out; omega⟩; have N7_9 : Aside0 (g7 ≠ g9) := ⟨by have := blk_lt X7.out; omega⟩; have nB := Aside0.mk (below_step HB.out hb); have n5 := Aside0.mk (blk_below X5.out hb); have n6 := Aside0.mk (blk_below X6.out hb); have n7 := Aside0.mk (blk_below X7.out hb); clear HB X5 X6 X7; have HB := nB; have X5 := n5; have X6 := n6; have X7 := n7; clear nB n5 n6 n7; have X9 := Aside0.mk hbox; clear hb hbox hg)
   | ((with_reducible refine gate_dst (N := 11) rfl ?_); refine box_event ?hg (N := 11) ?hd (cs := #[.int .i64 0, .bool false, .int .i64 0]) (t := 35) ?hr ?_; (case hd => rfl); (case hg => rfl); (case hr => first | (go_simp; done) | (go_simp; rfl)); intro g11 hg w11 hbox hb; have G11 : Aside0 (w.heap.size ≤ g11) := ⟨by have := HB.out.size; omega⟩; have N5_11 : Aside0 (g5 ≠ g11) := ⟨by have := blk_lt X5.out; omega⟩; have N6_11 : Aside0 (g6 ≠ g11) := ⟨by have := blk_lt X6.out; omega⟩; have N7_11 : Aside0 (g7 ≠ g11) := ⟨by have := blk_lt X7.out; omega⟩; have N9_11 : Aside0 (g9 ≠ g11) := ⟨by have := blk_lt X9.out; omega⟩; have nB := Aside0.mk (below_step HB.out hb); have n5 := Aside0.mk (blk_below X5.out hb); have n6 := Aside0.mk (blk_below X6.out hb); have n7 := Aside0.mk (blk_below X7.out hb); have n9 := Aside0.mk (blk_below X9.out hb); clear HB X5 X6 X7 X9; have HB := nB; have X5 := n5; have X6 := n6; have X7 := n7; have X9 := n9; clear nB n5 n6 n7 n9; have X11 := Aside0.mk hbox; clear hb hbox hg; have q5_0 := (blk_cell X5.out 0).trans rfl; have q5_1 := (blk_cell X5.out 1).trans rfl; have q5_2 := (blk_cell X5.out 2).trans rfl; have q5_3 := (blk_cell X5.out 3).trans rfl; have q6_0 := (blk_cell X6.out 0).trans rfl; have q6_1 := (blk_cell X6.out 1).trans rfl; have q6_2 := (blk_cell X6.out 2).trans rfl; have q6_3 := (blk_cell X6.out 3).trans rfl; have q6_4 := (blk_cell X6.out 4).trans rfl; have q7_0 := (blk_cell X7.out 0).trans rfl; have q7_1 := (blk_cell X7.out 1).trans rfl; have q7_2 := (blk_cell X7.out 2).trans rfl; have q7_3 := (blk_cell X7.out 3).trans rfl; have q7_4 := (blk_cell X7.out 4).trans rfl)
   | (go_at_call 16; with_reducible refine (check_Does.calls a0_0 A0_1 c0_1 l0_1 a0_2 A0_3 c0_3 l0_3 A1_0 c1_0 l1_0 a1_1 a1_2 a1_3 a1_4 A2_0 c2_0 l2_0 a2_1 a2_2 a2_3 a2_4 _ _ (Kd.C_below H01.out HB.out) HL.out.1 (Kd.C_below H03.out HB.out) HL.out.2.1 (Kd.C_below H1.out HB.out) HL.out.2.2.1 (Kd.C_below H2.out HB.out) HL.out.2.2.2 HD.out).mono ?_; rintro e wn ⟨rfl, hb⟩; clear q5_0 q5_1 q5_2 q5_3 q6_0 q6_1 q6_2 q6_3 q6_4 q7_0 q7_1 q7_2 q7_3 q7_4; have nB := Aside0.mk (below_step HB.out hb); have n5 := Aside0.mk (blk_below X5.out hb); have n6 := Aside0.mk (blk_below X6.out hb); have n7 := Aside0.mk (blk_below X7.out hb); have n9 := Aside0.mk (blk_below X9.out hb); have n11 := Aside0.mk (blk_below X11.out hb); clear HB X5 X6 X7 X9 X11; have HB := nB; have X5 := n5; have X6 := n6; have X7 := n7; have X9 := n9; have X11 := n11; clear nB n5 n6 n7 n9 n11; clear hb; have q5_0 := (blk_cell X5.out 0).trans rfl; have q5_1 := (blk_cell X5.out 1).trans rfl; have q5_2 := (blk_cell X5.out 2).trans rfl; have q5_3 := (blk_cell X5.out 3).trans rfl; have q6_0 := (blk_cell X6.out 0).trans rfl; have q6_1 := (blk_cell X6.out 1).trans rfl; have q6_2 := (blk_cell X6.out 2).trans rfl; have q6_3 := (blk_cell X6.out 3).trans rfl; have q6_4 := (blk_cell X6.out 4).trans rfl; have q7_0 := (blk_cell X7.out 0).trans rfl; have q7_1 := (blk_cell X7.out 1).trans rfl; have q7_2 := (blk_cell X7.out 2).trans rfl; have q7_3 := (blk_cell X7.out 3).trans rfl; have q7_4 := (blk_cell X7.out 4).trans rfl)
   | (go_at_call 21; refine (events_calls (fuelOf l1_0 + fuelOf l2_0) ⟨a0_0, l0_1, a0_2, l0_3⟩ A0_1 c0_1 A0_3 c0_3 l1_0 l2_0 A1_0 A2_0 c1_0 c2_0 a1_1 a1_2 a1_3 a1_4 a2_1 a2_2 a2_3 a2_4 _ es (Kd.C_below H01.out HB.out) HL.out.1 (Kd.C_below H03.out HB.out) HL.out.2.1 (Kd.C_below H1.out HB.out) HL.out.2.2.1 (Kd.C_below H2.out HB.out) HL.out.2.2.2 HN.out.1 HN.out.2 HE.out).mono ?_; rintro e we ⟨v, rfl, hr, hb⟩; obtain ⟨Av, cv, rfl, hv1, hv2⟩ := Kd.R_reads hr; have HV := Aside0.mk hv2; have HBE := Aside0.mk HB.out; clear hv2 hr; clear q5_0 q5_1 q5_2 q5_3 q6_0 q6_1 q6_2 q6_3 q6_4 q7_0 q7_1 q7_2 q7_3 q7_4; have nB := Aside0.mk (below_step HB.out hb); have n5 := Aside0.mk (blk_below X5.out hb); have n6 := Aside0.mk (blk_below X6.out hb); have n7 := Aside0.mk (blk_below X7.out hb); have n9 := Aside0.mk (blk_below X9.out hb); have n11 := Aside0.mk (blk_below X11.out hb); clear HB X5 X6 X7 X9 X11; have HB := nB; have X5 := n5; have X6 := n6; have X7 := n7; have X9 := n9; have X11 := n11; clear nB n5 n6 n7 n9 n11; clear hb; have HVC : Aside0 (es.length ≤ cv) := ⟨hv1⟩; clear hv1)
   | ((with_reducible refine gate_stores (x := .tmp 11) (y := .tmp 34) 35 rfl ?_); refine wpList_store_row rfl 35 (.tmp 11) (.tmp 34) rfl g11 #[.int .i64 0, .bool false, .int .i64 0] rfl rfl 35 _ X11.out info35s rfl (by simp [Value.oneCell']) ?_; have Y11 := Aside0.mk (setRow_heap _ g11 _ #[.int .i64 0, .bool false, .int .i64 0] 35 (0, 0) X11.out); have YB := Aside0.mk (below_setRow #[.int .i64 0, .bool false, .int .i64 0] HB.out G11.out)))
 refine bodyPost_ret (results_tct rfl _ _ g11 35 #[.int .i64 0, .bool false, .int .i64 0] (0, 0) _ rfl Y11.out Try.underlying35 rfl info35s) rfl ?_
 exact ⟨by first | rfl | (simp; done) | (simp; rfl), YB.out⟩
set_option maxHeartbeats 3200000 in
set_option maxRecDepth 100000 in
theorem before_yes (a0_0 : Int) (A0_1 : Option Addr) (c0_1 : Nat) (l0_1 : List Int) (a0_2 : Int) (A0_3 : Option Addr) (c0_3 : Nat) (l0_3 : List Int) (A1_0 : Option Addr) (c1_0 : Nat) (l1_0 : List (S56)) (a1_1 : Int) (a1_2 : Int) (a1_3 : Int) (a1_4 : Int) (A2_0 : Option Addr) (c2_0 : Nat) (l2_0 : List (S56)) (a2_1 : Int) (a2_2 : Int) (a2_3 : Int) (a2_4 : Int) (a3 : Int) (a4_0 : Int) (a4_1 : Bool) (a4_2 : Int) (r1 r2 : Int) (r3 : Bool) (r4 : Int) (w : World) (hr0_1 : Kd.C (Kd.int .i64) w A0_1 l0_1.length l0_1) (hc0_1 : l0_1.length ≤ c0_1) (hr0_3 : Kd.C (Kd.int .i64) w A0_3 l0_3.length l0_3) (hc0_3 : l0_3.length ≤ c0_3) (hr1_0 : Kd.C k56 w A1_0 l1_0.length l1_0) (hc1_0 : l1_0.length ≤ c1_0) (hr2_0 : Kd.C k56 w A2_0 l2_0.length l2_0) (hc2_0 : l2_0.length ≤ c2_0) (hd : check_Does.f a0_0 l0_1 a0_2 l0_3 l1_0 a1_1 a1_2 a1_3 a1_4 l2_0 a2_1 a2_2 a2_3 a2_4 = some true) (es : List Ev) (he : eventsL (fuelOf l1_0 + fuelOf l2_0) ⟨a0_0, l0_1, a0_2, l0_3⟩ l1_0 l2_0 = some es) (q : Nat) (hn : q ≤ es.length) (hq : a3 = (q : Int))
  (hok : ∀ e ∈ es, ∀ x s n, (aheadE (fuelOf l1_0 + fuelOf l2_0) ⟨a0_0, l0_1, a0_2, l0_3⟩ e x s n).isSome = true) (h : beforeE (fuelOf l1_0 + fuelOf l2_0) ⟨a0_0, l0_1, a0_2, l0_3⟩ (es.take q).reverse a4_0 a4_1 a4_2 = some (r1, r2, r3, r4)) :
  Calls Try.prog 10 #[.agg #[.int .i64 a0_0, .slice A0_1 l0_1.length c0_1, .int .i64 a0_2, .slice A0_3 l0_3.length c0_3], .agg #[.slice A1_0 l1_0.length c1_0, .int .i64 a1_1, .int .i64 a1_2, .int .i64 a1_3, .int .i64 a1_4], .agg #[.slice A2_0 l2_0.length c2_0, .int .i64 a2_1, .int .i64 a2_2, .int .i64 a2_3, .int .i64 a2_4], .int .i64 a3, .agg #[.int .i64 a4_0, .bool a4_1, .int .i64 a4_2]] w fun e w' => e = .returned (.tuple #[.int .i64 r1, .agg #[.int .i64 r2, .bool r3, .int .i64 r4], .int .i64 0]) ∧ Below w.heap.size w w' := by
 have HD := Aside0.mk hd
 have HN := Aside0.mk (does_bounds hd)
 have H01 := Aside0.mk hr0_1
 have H03 := Aside0.mk hr0_3
 have H1 := Aside0.mk hr1_0
 have H2 := Aside0.mk hr2_0
 have HL := Aside0.mk (And.intro hc0_1 (And.intro hc0_3 (And.intro hc1_0 hc2_0)))
 clear hd hr0_1 hr0_3 hr1_0 hr2_0 hc0_1 hc0_3 hc1_0 hc2_0
 have HE := Aside0.mk he
 have HOK := Aside0.mk hok
 have HH := Aside0.mk h
 have HQ := Aside0.mk hn
 subst hq
 have hn0 : (0 : Int) ≤ (q : Int) := by omega
 have hn1 : (q : Int) ≤ (es.length : Int) := by omega
 clear he hok h hn
 go_enter Try.func10, Try.ntmps10
 go_wp2_with (first
   | ((with_reducible refine gate_dst (N := 5) rfl ?_); refine box_event ?hg (N := 5) ?hd (cs := #[.int .i64 a0_0, .slice A0_1 l0_1.length c0_1, .int .i64 a0_2, .slice A0_3 l0_3.length c0_3]) (t := 24) ?hr ?_; (case hd => rfl); (case hg => rfl); (case hr => first | (go_simp; done) | (go_simp; rfl)); intro g5 hg w5 hbox hb; have HB := Aside0.mk hb; have X5 := Aside0.mk hbox; clear hb hbox hg)
   | ((with_reducible refine gate_dst (N := 6) rfl ?_); refine box_event ?hg (N := 6) ?hd (cs := #[.slice A1_0 l1_0.length c1_0, .int .i64 a1_1, .int .i64 a1_2, .int .i64 a1_3, .int .i64 a1_4]) (t := 31) ?hr ?_; (case hd => rfl); (case hg => rfl); (case hr => first | (go_simp; done) | (go_simp; rfl)); intro g6 hg w6 hbox hb; have G6 : Aside0 (w.heap.size ≤ g6) := ⟨by have := HB.out.size; omega⟩; have N5_6 : Aside0 (g5 ≠ g6) := ⟨by have := blk_lt X5.out; omega⟩; have nB := Aside0.mk (below_step HB.out hb); have n5 := Aside0.mk (blk_below X5.out hb); clear HB X5; have HB := nB; have X5 := n5; clear nB n5; have X6 := Aside0.mk hbox; clear hb hbox hg)
   | ((with_reducible refine gate_dst (N := 7) rfl ?_); refine box_event ?hg (N := 7) ?hd (cs := #[.slice A2_0 l2_0.length c2_0, .int .i64 a2_1, .int .i64 a2_2, .int .i64 a2_3, .int .i64 a2_4]) (t := 31) ?hr ?_; (case hd => rfl); (case hg => rfl); (case hr => first | (go_simp; done) | (go_simp; rfl)); intro g7 hg w7 hbox hb; have G7 : Aside0 (w.heap.size ≤ g7) := ⟨by have := HB.out.size; omega⟩; have N5_7 : Aside0 (g5 ≠ g7) := ⟨by have := blk_lt X5.out; omega⟩; have N6_7 : Aside0 (g6 ≠ g7) := ⟨by have := blk_lt X6.out; omega⟩; have nB := Aside0.mk (below_step HB.out hb); have n5 := Aside0.mk (blk_below X5.out hb); have n6 := Aside0.mk (blk_below X6.out hb); clear HB X5 X6; have HB := nB; have X5 := n5; have X6 := n6; clear nB n5 n6; have X7 := Aside0.mk hbox; clear hb hbox hg)
   | ((with_reducible refine gate_dst (N := 9) rfl ?_); refine box_event ?hg (N := 9) ?hd (cs := #[.int .i64 a4_0, .bool a4_1, .int .i64 a4_2]) (t := 35) ?hr ?_; (case hd => rfl); (case hg => rfl); (case hr => first | (go_simp; done) | (go_simp; rfl)); intro g9 hg w9 hbox hb; have G9 : Aside0 (w.heap.size ≤ g9) := ⟨by have := HB.out.size; omega⟩; have N5_9 : Aside0 (g5 ≠ g9) := ⟨by have := blk_lt X5.out; omega⟩; have N6_9 : Aside0 (g6 ≠ g9) := ⟨by have := blk_lt X6.out; omega⟩; have N7_9 : Aside0 (g7 ≠ g9) := ⟨by have := blk_lt X7.out; omega⟩; have nB := Aside0.mk (below_step HB.out hb); have n5 := Aside0.mk (blk_below X5.out hb); have n6 := Aside0.mk (blk_below X6.out hb); have n7 := Aside0.mk (blk_below X7.out hb); clear HB X5 X6 X7; have HB := nB; have X5 := n5; have X6 := n6; have X7 := n7; clear nB n5 n6 n7; have X9 := Aside0.mk hbox; clear hb hbox hg)
   | ((with_reducible refine gate_dst (N := 11) rfl ?_); refine box_event ?hg (N := 11) ?hd (cs := #[.int .i64 0, .bool false, .int .i64 0]) (t := 35) ?hr ?_; (case hd => rfl); (case hg => rfl); (case hr => first | (go_simp; done) | (go_simp; rfl)); intro g11 hg w11 hbox hb; have G11 : Aside0 (w.heap.size ≤ g11) := ⟨by have := HB.out.size; omega⟩; have N5_11 : Aside0 (g5 ≠ g11) := ⟨by have := blk_lt X5.out; omega⟩; have N6_11 : Aside0 (g6 ≠ g11) := ⟨by have := blk_lt X6.out; omega⟩; have N7_11 : Aside0 (g7 ≠ g11) := ⟨by have := blk_lt X7.out; omega⟩; have N9_11 : Aside0 (g9 ≠ g11) := ⟨by have := blk_lt X9.out; omega⟩; have nB := Aside0.mk (below_step HB.out hb); have n5 := Aside0.mk (blk_below X5.out hb); have n6 := Aside0.mk (blk_below X6.out hb); have n7 := Aside0.mk (blk_below X7.out hb); have n9 := Aside0.mk (blk_below X9.out hb); clear HB X5 X6 X7 X9; have HB := nB; have X5 := n5; have X6 := n6; have X7 := n7; have X9 := n9; clear nB n5 n6 n7 n9; have X11 := Aside0.mk hbox; clear hb hbox hg; have q5_0 := (blk_cell X5.out 0).trans rfl; have q5_1 := (blk_cell X5.out 1).trans rfl; have q5_2 := (blk_cell X5.out 2).trans rfl; have q5_3 := (blk_cell X5.out 3).trans rfl; have q6_0 := (blk_cell X6.out 0).trans rfl; have q6_1 := (blk_cell X6.out 1).trans rfl; have q6_2 := (blk_cell X6.out 2).trans rfl; have q6_3 := (blk_cell X6.out 3).trans rfl; have q6_4 := (blk_cell X6.out 4).trans rfl; have q7_0 := (blk_cell X7.out 0).trans rfl; have q7_1 := (blk_cell X7.out 1).trans rfl; have q7_2 := (blk_cell X7.out 2).trans rfl; have q7_3 := (blk_cell X7.out 3).trans rfl; have q7_4 := (blk_cell X7.out 4).trans rfl)
   | (go_at_call 16; with_reducible refine (check_Does.calls a0_0 A0_1 c0_1 l0_1 a0_2 A0_3 c0_3 l0_3 A1_0 c1_0 l1_0 a1_1 a1_2 a1_3 a1_4 A2_0 c2_0 l2_0 a2_1 a2_2 a2_3 a2_4 _ _ (Kd.C_below H01.out HB.out) HL.out.1 (Kd.C_below H03.out HB.out) HL.out.2.1 (Kd.C_below H1.out HB.out) HL.out.2.2.1 (Kd.C_below H2.out HB.out) HL.out.2.2.2 HD.out).mono ?_; rintro e wn ⟨rfl, hb⟩; clear q5_0 q5_1 q5_2 q5_3 q6_0 q6_1 q6_2 q6_3 q6_4 q7_0 q7_1 q7_2 q7_3 q7_4; have nB := Aside0.mk (below_step HB.out hb); have n5 := Aside0.mk (blk_below X5.out hb); have n6 := Aside0.mk (blk_below X6.out hb); have n7 := Aside0.mk (blk_below X7.out hb); have n9 := Aside0.mk (blk_below X9.out hb); have n11 := Aside0.mk (blk_below X11.out hb); clear HB X5 X6 X7 X9 X11; have HB := nB; have X5 := n5; have X6 := n6; have X7 := n7; have X9 := n9; have X11 := n11; clear nB n5 n6 n7 n9 n11; clear hb; have q5_0 := (blk_cell X5.out 0).trans rfl; have q5_1 := (blk_cell X5.out 1).trans rfl; have q5_2 := (blk_cell X5.out 2).trans rfl; have q5_3 := (blk_cell X5.out 3).trans rfl; have q6_0 := (blk_cell X6.out 0).trans rfl; have q6_1 := (blk_cell X6.out 1).trans rfl; have q6_2 := (blk_cell X6.out 2).trans rfl; have q6_3 := (blk_cell X6.out 3).trans rfl; have q6_4 := (blk_cell X6.out 4).trans rfl; have q7_0 := (blk_cell X7.out 0).trans rfl; have q7_1 := (blk_cell X7.out 1).trans rfl; have q7_2 := (blk_cell X7.out 2).trans rfl; have q7_3 := (blk_cell X7.out 3).trans rfl; have q7_4 := (blk_cell X7.out 4).trans rfl)
   | (go_at_call 21; refine (events_calls (fuelOf l1_0 + fuelOf l2_0) ⟨a0_0, l0_1, a0_2, l0_3⟩ A0_1 c0_1 A0_3 c0_3 l1_0 l2_0 A1_0 A2_0 c1_0 c2_0 a1_1 a1_2 a1_3 a1_4 a2_1 a2_2 a2_3 a2_4 _ es (Kd.C_below H01.out HB.out) HL.out.1 (Kd.C_below H03.out HB.out) HL.out.2.1 (Kd.C_below H1.out HB.out) HL.out.2.2.1 (Kd.C_below H2.out HB.out) HL.out.2.2.2 HN.out.1 HN.out.2 HE.out).mono ?_; rintro e we ⟨v, rfl, hr, hb⟩; obtain ⟨Av, cv, rfl, hv1, hv2⟩ := Kd.R_reads hr; have HV := Aside0.mk hv2; have HBN := Aside0.mk hb; clear hv2 hr; clear q5_0 q5_1 q5_2 q5_3 q6_0 q6_1 q6_2 q6_3 q6_4 q7_0 q7_1 q7_2 q7_3 q7_4; have nB := Aside0.mk (below_step HB.out hb); have n5 := Aside0.mk (blk_below X5.out hb); have n6 := Aside0.mk (blk_below X6.out hb); have n7 := Aside0.mk (blk_below X7.out hb); have n9 := Aside0.mk (blk_below X9.out hb); have n11 := Aside0.mk (blk_below X11.out hb); clear HB X5 X6 X7 X9 X11; have HB := nB; have X5 := n5; have X6 := n6; have X7 := n7; have X9 := n9; have X11 := n11; clear nB n5 n6 n7 n9 n11; clear hb; have HVC : Aside0 (es.length ≤ cv) := ⟨hv1⟩; clear hv1))
 have HLE : Aside0 (es.length ≤ 3000000) := ⟨eventsL_len _ _ _ _ _ HE.out HN.out.1 HN.out.2⟩
 have HNE : Aside0 (∃ b off, Av = some ⟨b, off, none⟩ ∧ b < we.heap.size) := ⟨by
  obtain ⟨ad, e, hc⟩ := HV.out.2.2 (eventsL_pos _ _ _ _ _ HE.out)
  obtain ⟨c, _, ⟨v, rfl, hv⟩, hcell⟩ := hc 0 (es[0]'(eventsL_pos _ _ _ _ _ HE.out)) (List.getElem?_eq_getElem (eventsL_pos _ _ _ _ _ HE.out))
  have h0 := hcell 0 v rfl
  obtain ⟨b, off, sp⟩ := ad
  have h1 : we.cell? ⟨b, off, sp⟩ = some v := by simpa [Addr.add] using h0
  unfold World.cell? at h1
  cases hh : we.heap[b]? with
  | none => rw [hh] at h1; cases h1
  | some o =>
   have hlt := blk_lt hh
   cases sp with
   | none => exact ⟨b, off, e, hlt⟩
   | some i => rw [hh] at h1; cases o <;> simp at h1⟩
 rename_i K7 hK7
 obtain ⟨b, off, rfl, hb1⟩ := HNE.out
 have HSS : Aside0 (∀ w' : World, w'.heap[g5]? = some (.cells #[.int .i64 a0_0, .slice A0_1 l0_1.length c0_1, .int .i64 a0_2, .slice A0_3 l0_3.length c0_3] 24 (0, 0)) → w'.heap[g9]? = some (.cells #[.int .i64 a4_0, .bool a4_1, .int .i64 a4_2] 35 (0, 0)) → w'.cell? ⟨g5, 0, none⟩ = some (.int .i64 a0_0) ∧ w'.cell? ⟨g5, 1, none⟩ = some (.slice A0_1 l0_1.length c0_1) ∧ w'.cell? ⟨g5, 2, none⟩ = some (.int .i64 a0_2) ∧ w'.cell? ⟨g5, 3, none⟩ = some (.slice A0_3 l0_3.length c0_3) ∧ w'.cell? ⟨g9, 0, none⟩ = some (.int .i64 a4_0) ∧ w'.cell? ⟨g9, 1, none⟩ = some (.bool a4_1) ∧ w'.cell? ⟨g9, 2, none⟩ = some (.int .i64 a4_2)) := ⟨fun w' h5 h9 => ⟨(blk_cell h5 0).trans rfl, (blk_cell h5 1).trans rfl, (blk_cell h5 2).trans rfl, (blk_cell h5 3).trans rfl, (blk_cell h9 0).trans rfl, (blk_cell h9 1).trans rfl, (blk_cell h9 2).trans rfl⟩⟩
 have HB1 : Aside0 (b < we.heap.size) := ⟨hb1⟩
 have hn2 : (q : Int) ≤ (cv : Int) := by have := HVC.out; omega
 have HTL : Aside0 ((es.take q).length = q) := ⟨by rw [List.length_take]; omega⟩
 clear hb1 HNE X6 X7
 refine wp_mono (Q := fun e a' w' => match e with | .normal => ∃ g15, a' = { tmps := #[.agg #[.int .i64 a0_0, .slice A0_1 l0_1.length c0_1, .int .i64 a0_2, .slice A0_3 l0_3.length c0_3], .agg #[.slice A1_0 l1_0.length c1_0, .int .i64 a1_1, .int .i64 a1_2, .int .i64 a1_3, .int .i64 a1_4], .agg #[.slice A2_0 l2_0.length c2_0, .int .i64 a2_1, .int .i64 a2_2, .int .i64 a2_3, .int .i64 a2_4], .int .i64 (q : Int), .agg #[.int .i64 a4_0, .bool a4_1, .int .i64 a4_2], .pointer (some ⟨g5, 0, none⟩), .pointer (some ⟨g6, 0, none⟩), .pointer (some ⟨g7, 0, none⟩), undef, .pointer (some ⟨g9, 0, none⟩), .int .i64 0, .pointer (some ⟨g11, 0, none⟩), .int .i64 0, .slice (some ⟨b, off, none⟩) es.length cv, .int .i64 r1, .pointer (some ⟨g15, 0, none⟩), .agg #[.int .i64 a0_0, .slice A0_1 l0_1.length c0_1, .int .i64 a0_2, .slice A0_3 l0_3.length c0_3], .agg #[.slice A1_0 l1_0.length c1_0, .int .i64 a1_1, .int .i64 a1_2, .int .i64 a1_3, .int .i64 a1_4], .agg #[.slice A2_0 l2_0.length c2_0, .int .i64 a2_1, .int .i64 a2_2, .int .i64 a2_3, .int .i64 a2_4], .bool true, .bool false, undef, .agg #[.int .i64 a0_0, .slice A0_1 l0_1.length c0_1, .int .i64 a0_2, .slice A0_3 l0_3.length c0_3], .agg #[.slice A1_0 l1_0.length c1_0, .int .i64 a1_1, .int .i64 a1_2, .int .i64 a1_3, .int .i64 a1_4], .agg #[.slice A2_0 l2_0.length c2_0, .int .i64 a2_1, .int .i64 a2_2, .int .i64 a2_3, .int .i64 a2_4], .slice (some ⟨b, off, none⟩) es.length cv, .int .i64 (q : Int), .bool (decide ((q : Int) < 0)), .bool (decide ((q : Int) < 0)), .int .i64 (q : Int), .slice (some ⟨b, off, none⟩) es.length cv, .int .i64 (es.length : Int), .bool (decide (es.length < q)), .bool (decide ((q : Int) < 0) || decide (es.length < q)), undef, .tuple #[.int .i64 r1, .agg #[.int .i64 r2, .bool r3, .int .i64 r4]], .agg #[.int .i64 a0_0, .slice A0_1 l0_1.length c0_1, .int .i64 a0_2, .slice A0_3 l0_3.length c0_3], .slice (some ⟨b, off, none⟩) es.length cv, .int .i64 (q : Int), .slice (some ⟨b, off, none⟩) q cv, .agg #[.int .i64 a4_0, .bool a4_1, .int .i64 a4_2], .tuple #[.int .i64 r1, .agg #[.int .i64 r2, .bool r3, .int .i64 r4]], .int .i64 r1, .agg #[.int .i64 r2, .bool r3, .int .i64 r4], undef, undef], defers := [] } ∧ w'.heap[g15]? = some (.cells #[.int .i64 r2, .bool r3, .int .i64 r4] 35 (0, 0)) ∧ w'.heap[g11]? = some (.cells #[.int .i64 0, .bool false, .int .i64 0] 35 (0, 0)) ∧ Below w.heap.size w w' ∧ g11 ≠ g15 | _ => False) ?_ ?_
 rotate_left
 ·rintro e a' w' h
  cases e <;> first | exact h.elim | skip
  obtain ⟨g15, rfl, X15, X11, HB, N15⟩ := h
  refine hK7 _ _ ?_
  have HSS7 : Aside0 (∀ w' : World, w'.heap[g15]? = some (.cells #[.int .i64 r2, .bool r3, .int .i64 r4] 35 (0, 0)) → w'.cell? ⟨g15, 0, none⟩ = some (.int .i64 r2) ∧ w'.cell? ⟨g15, 1, none⟩ = some (.bool r3) ∧ w'.cell? ⟨g15, 2, none⟩ = some (.int .i64 r4)) := ⟨fun w' h => ⟨(blk_cell h 0).trans rfl, (blk_cell h 1).trans rfl, (blk_cell h 2).trans rfl⟩⟩
  have D15 := Aside0.mk (blk_drew X15)
  have D11 := Aside0.mk (blk_drew X11)
  have DB := Aside0.mk (below_drew1 HB)
  clear X15 X11 HB
  refine wp_seq ?_
  refine start_ (n := 5) (S := fun w' => w'.cell? ⟨g15, 0, none⟩ = some (.int .i64 r2) ∧ w'.cell? ⟨g15, 1, none⟩ = some (.bool r3) ∧ w'.cell? ⟨g15, 2, none⟩ = some (.int .i64 r4)) (ds := []) #[false, false, false, false, false] (by kernel_rfl) rfl rfl (HSS7.out _ D15.out) (fun hHeld => ?_); refine with_tabW fb7_tab fb7_bits (fun HT_ HW_ => ?_)
  generalize w'.drew = w1 at D15 D11 DB hHeld ⊢
  refine pure_ (i := 0) (N := some 44) (v := ?_) (a' := ?_) #[true, false, false, false, false] rfl rfl (any_of HT_.out (by kernel_rfl)) (fun _ _ _ h => h) (Or.inl ⟨by rfl, ?_⟩) ?_ ?_
  rotate_left
  ·intro w'
   go_simp
   with_reducible rfl
  rotate_left
  ·simp only [Act.put, lz1, lz2, lz3, i64_w, i32_w]
   rfl
  refine take_ (i := 1) (N := some 45) (v := ?_) (a' := ?_) #[true, true, false, false, false] rfl rfl (take_ofW HT_.out HW_.out (by kernel_rfl)) (fun _ _ _ h => h) (Or.inl ⟨by rfl, ?_⟩) hHeld ?_ ?_
  rotate_left
  ·rintro w' ⟨s0, s1, s2⟩
   go_simp
   with_reducible rfl
  rotate_left
  ·simp only [Act.put, lz1, lz2, lz3, i64_w, i32_w]
   rfl
  refine pure_ (i := 2) (N := some 10) (v := ?_) (a' := ?_) #[true, true, true, false, false] rfl rfl (any_of HT_.out (by kernel_rfl)) (fun _ _ _ h => h) (Or.inl ⟨by rfl, ?_⟩) ?_ ?_
  rotate_left
  ·intro w'
   go_simp
   with_reducible rfl
  rotate_left
  ·simp only [Act.put, lz1, lz2, lz3, i64_w, i32_w]
   rfl
  refine one_ (i := 3) (N := none) #[true, true, true, true, false] rfl rfl (one_of HT_.out (by kernel_rfl)) (by decide) (fun K hK => ?_)
  rw [if_pos (by rfl)]
  refine wp_store_row 35 (.tmp 11) (.tmp 45) rfl g11 #[.int .i64 r2, .bool r3, .int .i64 r4] rfl rfl 35 _ D11.out info35s rfl (by simp [Value.oneCell']) ?_
  have E15 := Aside0.mk ((setRow_other w1 g11 g15 #[.int .i64 r2, .bool r3, .int .i64 r4] (Ne.symm N15)).trans D15.out)
  have E11 := Aside0.mk (setRow_heap w1 g11 _ #[.int .i64 r2, .bool r3, .int .i64 r4] 35 (0, 0) D11.out)
  have EB := Aside0.mk (below_setRow #[.int .i64 r2, .bool r3, .int .i64 r4] DB.out G11.out)
  clear D15 D11 DB
  refine hK.out _ _ (HSS7.out _ E15.out) (fun hHeld => ?_)
  clear hK K
  generalize w1.setRow g11 #[.int .i64 r2, .bool r3, .int .i64 r4] = w2 at E15 E11 EB hHeld ⊢
  refine norm_ (a' := ?_) ?_ ?_
  rotate_left
  ·show Act.put _ (none) _ = _
   simp only [Act.put, lz1, lz2, lz3, i64_w, i32_w]
   rfl
  refine pure_ (i := 4) (N := some 12) (v := ?_) (a' := ?_) #[true, true, true, true, true] rfl rfl (any_of HT_.out (by kernel_rfl)) (fun _ _ _ h => h) (Or.inl ⟨by rfl, ?_⟩) ?_ ?_
  rotate_left
  ·intro w'
   go_simp
   with_reducible rfl
  rotate_left
  ·simp only [Act.put, lz1, lz2, lz3, i64_w, i32_w]
   rfl
  refine done_ (done_of HT_.out (by kernel_rfl)) ?_
  go_wp2_with fail
  refine bodyPost_ret (results_tct rfl _ _ g11 35 #[.int .i64 r2, .bool r3, .int .i64 r4] (0, 0) _ rfl E11.out Try.underlying35 rfl info35s) rfl ?_
  exact ⟨by first | rfl | (simp; done) | (simp; rfl), EB.out⟩
 clear hK7 K7
 have D5 := Aside0.mk (blk_drew X5.out)
 have D9 := Aside0.mk (blk_drew X9.out)
 have D11 := Aside0.mk (blk_drew X11.out)
 have DB := Aside0.mk (below_drew1 HB.out)
 have DE := Aside0.mk (below_drew1 (Below.refl we.heap.size we))
 have DN := Aside0.mk (below_drew1 HBN.out)
 clear X5 X9 X11 HB HBN
 have X5 := D5
 have X9 := D9
 have X11 := D11
 have HB := DB
 have HBN := DN
 clear D5 D9 D11 DB DN
 refine start_ (n := 12) (S := fun w' => w'.cell? ⟨g5, 0, none⟩ = some (.int .i64 a0_0) ∧ w'.cell? ⟨g5, 1, none⟩ = some (.slice A0_1 l0_1.length c0_1) ∧ w'.cell? ⟨g5, 2, none⟩ = some (.int .i64 a0_2) ∧ w'.cell? ⟨g5, 3, none⟩ = some (.slice A0_3 l0_3.length c0_3) ∧ w'.cell? ⟨g9, 0, none⟩ = some (.int .i64 a4_0) ∧ w'.cell? ⟨g9, 1, none⟩ = some (.bool a4_1) ∧ w'.cell? ⟨g9, 2, none⟩ = some (.int .i64 a4_2)) (ds := [11]) #[false, false, false, false, false, false, false, false, false, false, false, false] (by kernel_rfl) rfl rfl (HSS.out _ X5.out X9.out) (fun hHeld => ?_); refine with_tabW fb6_tab fb6_bits (fun HT_ HW_ => ?_)
 generalize we.drew = wd at X5 X9 X11 HB HBN DE hHeld ⊢
 refine take_ (i := 0) (N := some 36) (v := ?_) (a' := ?_) #[true, false, false, false, false, false, false, false, false, false, false, false] rfl rfl (take_ofW HT_.out HW_.out (by kernel_rfl)) (fun _ _ _ h => h) (Or.inl ⟨by rfl, ?_⟩) hHeld ?_ ?_
 rotate_left
 ·rintro w' ⟨s0, s1, s2, s3, s4, s5, s6⟩
  go_simp
  with_reducible rfl
 rotate_left
 ·simp only [Act.put, lz1, lz2, lz3, i64_w, i32_w]
  rfl
 refine pure_ (i := 1) (N := some 37) (v := ?_) (a' := ?_) #[true, true, false, false, false, false, false, false, false, false, false, false] rfl rfl (any_of HT_.out (by kernel_rfl)) (fun _ _ _ h => h) (Or.inl ⟨by rfl, ?_⟩) ?_ ?_
 rotate_left
 ·intro w'
  go_simp
  with_reducible rfl
 rotate_left
 ·simp only [Act.put, lz1, lz2, lz3, i64_w, i32_w]
  rfl
 refine pure_ (i := 2) (N := some 38) (v := ?_) (a' := ?_) #[true, true, true, false, false, false, false, false, false, false, false, false] rfl rfl (any_of HT_.out (by kernel_rfl)) (fun _ _ _ h => h) (Or.inl ⟨by rfl, ?_⟩) ?_ ?_
 rotate_left
 ·intro w'
  go_simp
  with_reducible rfl
 rotate_left
 ·simp only [Act.put, lz1, lz2, lz3, i64_w, i32_w]
  rfl
 refine pure_ (i := 3) (N := some 39) (v := ?_) (a' := ?_) #[true, true, true, true, false, false, false, false, false, false, false, false] rfl rfl (any_of HT_.out (by kernel_rfl)) (fun _ _ _ h => h) (Or.inl ⟨by rfl, ?_⟩) ?_ ?_
 rotate_left
 ·intro w'
  go_simp
  with_reducible rfl
 rotate_left
 ·simp only [Act.put, lz1, lz2, lz3, i64_w, i32_w]
  rfl
 refine take_ (i := 4) (N := some 40) (v := ?_) (a' := ?_) #[true, true, true, true, true, false, false, false, false, false, false, false] rfl rfl (take_ofW HT_.out HW_.out (by kernel_rfl)) (fun _ _ _ h => h) (Or.inl ⟨by rfl, ?_⟩) hHeld ?_ ?_
 rotate_left
 ·rintro w' ⟨s0, s1, s2, s3, s4, s5, s6⟩
  go_simp
  with_reducible rfl
 rotate_left
 ·simp only [Act.put, lz1, lz2, lz3, i64_w, i32_w]
  rfl
 refine two_ (i := 5) (j := 9) (Ni := some 41) (Nj := some 15) #[true, true, true, true, true, true, false, false, false, false, false, false] #[true, true, true, true, true, false, false, false, false, true, false, false] rfl rfl rfl rfl (two_of HT_.out (by kernel_rfl)) (by decide) (by decide) (fun K hK => ?_) (fun K hK => ?_)
 ·skip
  refine goes_ Try.func22 (by kernel_rfl) rfl #[.agg #[.int .i64 a0_0, .slice A0_1 l0_1.length c0_1, .int .i64 a0_2, .slice A0_3 l0_3.length c0_3], .slice (some ⟨b, off, none⟩) q cv, .agg #[.int .i64 a4_0, .bool a4_1, .int .i64 a4_2]] (by rfl) rfl rfl (by (try simp only [List.map_toArray, List.map_cons, List.map_nil]); first | done | rfl) ?_
  have hbc := before_calls (fuelOf l1_0 + fuelOf l2_0) ⟨a0_0, l0_1, a0_2, l0_3⟩ A0_1 c0_1 A0_3 c0_3 (es.take q) b off cv a4_0 a4_1 a4_2 r1 r2 r3 r4 wn wd HBN.out (by have := HB1.out; have := DE.out.size; omega) (Kd.C_below H01.out HB.out) HL.out.1 (Kd.C_below H03.out HB.out) HL.out.2.1 (by have := HTL.out; have := HLE.out; omega) (Kd.C_take (Kd.C_below HV.out DE.out) HQ.out) (fun e h => HOK.out e (List.mem_of_mem_take h)) HH.out
  rw [HTL.out] at hbc
  refine hbc.mono ?_
  clear hbc
  rintro e wc ⟨rfl, hb⟩
  refine ⟨_, rfl, ?_⟩
  have nB := Aside0.mk (below_step HB.out hb)
  have n5 := Aside0.mk (blk_below X5.out hb)
  have n9 := Aside0.mk (blk_below X9.out hb)
  have n11 := Aside0.mk (blk_below X11.out hb)
  clear HB X5 X9 X11
  have HB := nB
  have X5 := n5
  have X9 := n9
  have X11 := n11
  clear nB n5 n9 n11
  clear hb
  refine hK.out _ _ (HSS.out _ X5.out X9.out) (fun hHeld => ?_)
  clear hK K
  refine norm_ (a' := ?_) ?_ ?_
  rotate_left
  ·show Act.put _ (some 41) _ = _
   simp only [Act.put, lz1, lz2, lz3, i64_w, i32_w]
   rfl
  refine pure_ (i := 6) (N := some 35) (v := ?_) (a' := ?_) #[true, true, true, true, true, true, true, false, false, false, false, false] rfl rfl (any_of HT_.out (by kernel_rfl)) (fun _ _ _ h => h) (Or.inl ⟨by rfl, ?_⟩) ?_ ?_
  rotate_left
  ·intro w'
   go_simp
   with_reducible rfl
  rotate_left
  ·simp only [Act.put, lz1, lz2, lz3, i64_w, i32_w]
   rfl
  refine pure_ (i := 7) (N := some 42) (v := ?_) (a' := ?_) #[true, true, true, true, true, true, true, true, false, false, false, false] rfl rfl (any_of HT_.out (by kernel_rfl)) (fun _ _ _ h => h) (Or.inl ⟨by rfl, ?_⟩) ?_ ?_
  rotate_left
  ·intro w'
   go_simp
   with_reducible rfl
  rotate_left
  ·simp only [Act.put, lz1, lz2, lz3, i64_w, i32_w]
   rfl
  refine pure_ (i := 8) (N := some 43) (v := ?_) (a' := ?_) #[true, true, true, true, true, true, true, true, true, false, false, false] rfl rfl (any_of HT_.out (by kernel_rfl)) (fun _ _ _ h => h) (Or.inl ⟨by rfl, ?_⟩) ?_ ?_
  rotate_left
  ·intro w'
   go_simp
   with_reducible rfl
  rotate_left
  ·simp only [Act.put, lz1, lz2, lz3, i64_w, i32_w]
   rfl
  refine one_ (i := 9) (N := some 15) #[true, true, true, true, true, true, true, true, true, true, false, false] rfl rfl (one_of HT_.out (by kernel_rfl)) (by decide) (fun K hK => ?_)
  refine box_step ?hg (N := 15) ?hd (cs := #[.int .i64 0, .bool false, .int .i64 0]) (t := 35) ?hr ?_
  (case hd => rfl)
  (case hg => rfl)
  (case hr => first | (go_simp; done) | (go_simp; rfl))
  intro g15 hg wf hbox hb
  have G15 : Aside0 (w.heap.size ≤ g15) := ⟨by have := HB.out.size; omega⟩
  have N5_15 : Aside0 (g5 ≠ g15) := ⟨by have := blk_lt X5.out; omega⟩
  have N9_15 : Aside0 (g9 ≠ g15) := ⟨by have := blk_lt X9.out; omega⟩
  have N11_15 : Aside0 (g11 ≠ g15) := ⟨by have := blk_lt X11.out; omega⟩
  have nB := Aside0.mk (below_step HB.out hb)
  have n5 := Aside0.mk (blk_below X5.out hb)
  have n9 := Aside0.mk (blk_below X9.out hb)
  have n11 := Aside0.mk (blk_below X11.out hb)
  clear HB X5 X9 X11
  have HB := nB
  have X5 := n5
  have X9 := n9
  have X11 := n11
  clear nB n5 n9 n11
  have X15 := Aside0.mk hbox
  clear hb hbox hg
  refine hK.out _ _ (HSS.out _ X5.out X9.out) (fun hHeld => ?_)
  clear hK K
  refine norm_ (a' := ?_) ?_ ?_
  rotate_left
  ·show Act.put _ (some 15) _ = _
   simp only [Act.put, lz1, lz2, lz3, i64_w, i32_w]
   rfl
  refine pure_ (i := 10) (N := some 14) (v := ?_) (a' := ?_) #[true, true, true, true, true, true, true, true, true, true, true, false] rfl rfl (any_of HT_.out (by kernel_rfl)) (fun _ _ _ h => h) (Or.inl ⟨by rfl, ?_⟩) ?_ ?_
  rotate_left
  ·intro w'
   go_simp
   with_reducible rfl
  rotate_left
  ·simp only [Act.put, lz1, lz2, lz3, i64_w, i32_w]
   rfl
  refine last_ (i := 11) (N := none) #[true, true, true, true, true, true, true, true, true, true, true, true] rfl rfl (one_of HT_.out (by kernel_rfl)) (by decide) (fun K hK => ?_)
  rw [if_pos (by rfl)]
  refine wp_store_row 35 (.tmp 15) (.tmp 43) rfl g15 #[.int .i64 r2, .bool r3, .int .i64 r4] rfl rfl 35 _ X15.out info35s rfl (by simp [Value.oneCell']) ?_
  refine hK.out _ _ ?_
  clear hK K
  refine done_ (done_of HT_.out (by kernel_rfl)) ?_
  exact ⟨g15, rfl, setRow_heap _ g15 _ _ 35 (0, 0) X15.out, (setRow_other _ g15 g11 _ N11_15.out).trans X11.out, below_setRow _ HB.out G15.out, N11_15.out⟩
 ·skip
  refine box_step ?hg (N := 15) ?hd (cs := #[.int .i64 0, .bool false, .int .i64 0]) (t := 35) ?hr ?_
  (case hd => rfl)
  (case hg => rfl)
  (case hr => first | (go_simp; done) | (go_simp; rfl))
  intro g15 hg wf hbox hb
  have G15 : Aside0 (w.heap.size ≤ g15) := ⟨by have := HB.out.size; omega⟩
  have N5_15 : Aside0 (g5 ≠ g15) := ⟨by have := blk_lt X5.out; omega⟩
  have N9_15 : Aside0 (g9 ≠ g15) := ⟨by have := blk_lt X9.out; omega⟩
  have N11_15 : Aside0 (g11 ≠ g15) := ⟨by have := blk_lt X11.out; omega⟩
  have nB := Aside0.mk (below_step HB.out hb)
  have n5 := Aside0.mk (blk_below X5.out hb)
  have n9 := Aside0.mk (blk_below X9.out hb)
  have n11 := Aside0.mk (blk_below X11.out hb)
  clear HB X5 X9 X11
  have HB := nB
  have X5 := n5
  have X9 := n9
  have X11 := n11
  clear nB n5 n9 n11
  have HBN' := Aside0.mk (HBN.out.trans (hb.mono HBN.out.size))
  have DE' := Aside0.mk (below_step DE.out hb)
  clear HBN DE
  have HBN := HBN'
  have DE := DE'
  clear HBN' DE'
  have X15 := Aside0.mk hbox
  clear hb hbox hg
  refine hK.out _ _ (HSS.out _ X5.out X9.out) (fun hHeld => ?_)
  clear hK K
  refine norm_ (a' := ?_) ?_ ?_
  rotate_left
  ·show Act.put _ (some 15) _ = _
   simp only [Act.put, lz1, lz2, lz3, i64_w, i32_w]
   rfl
  refine one_ (i := 5) (N := some 41) #[true, true, true, true, true, true, false, false, false, true, false, false] rfl rfl (one_of HT_.out (by kernel_rfl)) (by decide) (fun K hK => ?_)
  refine goes_ Try.func22 (by kernel_rfl) rfl #[.agg #[.int .i64 a0_0, .slice A0_1 l0_1.length c0_1, .int .i64 a0_2, .slice A0_3 l0_3.length c0_3], .slice (some ⟨b, off, none⟩) q cv, .agg #[.int .i64 a4_0, .bool a4_1, .int .i64 a4_2]] (by rfl) rfl rfl (by (try simp only [List.map_toArray, List.map_cons, List.map_nil]); first | done | rfl) ?_
  have hbc := before_calls (fuelOf l1_0 + fuelOf l2_0) ⟨a0_0, l0_1, a0_2, l0_3⟩ A0_1 c0_1 A0_3 c0_3 (es.take q) b off cv a4_0 a4_1 a4_2 r1 r2 r3 r4 wn wf HBN.out (by have := HB1.out; have := DE.out.size; omega) (Kd.C_below H01.out HB.out) HL.out.1 (Kd.C_below H03.out HB.out) HL.out.2.1 (by have := HTL.out; have := HLE.out; omega) (Kd.C_take (Kd.C_below HV.out DE.out) HQ.out) (fun e h => HOK.out e (List.mem_of_mem_take h)) HH.out
  rw [HTL.out] at hbc
  refine hbc.mono ?_
  clear hbc
  rintro e wc ⟨rfl, hb⟩
  refine ⟨_, rfl, ?_⟩
  have nB := Aside0.mk (below_step HB.out hb)
  have n5 := Aside0.mk (blk_below X5.out hb)
  have n9 := Aside0.mk (blk_below X9.out hb)
  have n11 := Aside0.mk (blk_below X11.out hb)
  have n15 := Aside0.mk (blk_below X15.out hb)
  clear HB X5 X9 X11 X15
  have HB := nB
  have X5 := n5
  have X9 := n9
  have X11 := n11
  have X15 := n15
  clear nB n5 n9 n11 n15
  clear hb
  refine hK.out _ _ (HSS.out _ X5.out X9.out) (fun hHeld => ?_)
  clear hK K
  refine norm_ (a' := ?_) ?_ ?_
  rotate_left
  ·show Act.put _ (some 41) _ = _
   simp only [Act.put, lz1, lz2, lz3, i64_w, i32_w]
   rfl
  refine pure_ (i := 6) (N := some 35) (v := ?_) (a' := ?_) #[true, true, true, true, true, true, true, false, false, true, false, false] rfl rfl (any_of HT_.out (by kernel_rfl)) (fun _ _ _ h => h) (Or.inl ⟨by rfl, ?_⟩) ?_ ?_
  rotate_left
  ·intro w'
   go_simp
   with_reducible rfl
  rotate_left
  ·simp only [Act.put, lz1, lz2, lz3, i64_w, i32_w]
   rfl
  refine pure_ (i := 7) (N := some 42) (v := ?_) (a' := ?_) #[true, true, true, true, true, true, true, true, false, true, false, false] rfl rfl (any_of HT_.out (by kernel_rfl)) (fun _ _ _ h => h) (Or.inl ⟨by rfl, ?_⟩) ?_ ?_
  rotate_left
  ·intro w'
   go_simp
   with_reducible rfl
  rotate_left
  ·simp only [Act.put, lz1, lz2, lz3, i64_w, i32_w]
   rfl
  refine pure_ (i := 8) (N := some 43) (v := ?_) (a' := ?_) #[true, true, true, true, true, true, true, true, true, true, false, false] rfl rfl (any_of HT_.out (by kernel_rfl)) (fun _ _ _ h => h) (Or.inl ⟨by rfl, ?_⟩) ?_ ?_
  rotate_left
  ·intro w'
   go_simp
   with_reducible rfl
  rotate_left
  ·simp only [Act.put, lz1, lz2, lz3, i64_w, i32_w]
   rfl
  refine pure_ (i := 10) (N := some 14) (v := ?_) (a' := ?_) #[true, true, true, true, true, true, true, true, true, true, true, false] rfl rfl (any_of HT_.out (by kernel_rfl)) (fun _ _ _ h => h) (Or.inl ⟨by rfl, ?_⟩) ?_ ?_
  rotate_left
  ·intro w'
   go_simp
   with_reducible rfl
  rotate_left
  ·simp only [Act.put, lz1, lz2, lz3, i64_w, i32_w]
   rfl
  refine last_ (i := 11) (N := none) #[true, true, true, true, true, true, true, true, true, true, true, true] rfl rfl (one_of HT_.out (by kernel_rfl)) (by decide) (fun K hK => ?_)
  rw [if_pos (by rfl)]
  refine wp_store_row 35 (.tmp 15) (.tmp 43) rfl g15 #[.int .i64 r2, .bool r3, .int .i64 r4] rfl rfl 35 _ X15.out info35s rfl (by simp [Value.oneCell']) ?_
  refine hK.out _ _ ?_
  clear hK K
  refine done_ (done_of HT_.out (by kernel_rfl)) ?_
  exact ⟨g15, rfl, setRow_heap _ g15 _ _ 35 (0, 0) X15.out, (setRow_other _ g15 g11 _ N11_15.out).trans X11.out, below_setRow _ HB.out G15.out, N11_15.out⟩
def flat_Before.f (a0_0 : Int) (l0_1 : List Int) (a0_2 : Int) (l0_3 : List Int) (l1_0 : List (S56)) (a1_1 : Int) (a1_2 : Int) (a1_3 : Int) (a1_4 : Int) (l2_0 : List (S56)) (a2_1 : Int) (a2_2 : Int) (a2_3 : Int) (a2_4 : Int) (a3 : Int) (a4_0 : Int) (a4_1 : Bool) (a4_2 : Int) : Option (Int × Int × Bool × Int × Int) :=
 (check_Does.f a0_0 l0_1 a0_2 l0_3 l1_0 a1_1 a1_2 a1_3 a1_4 l2_0 a2_1 a2_2 a2_3 a2_4).bind fun d => if d = true then (eventsL (fuelOf l1_0 + fuelOf l2_0) ⟨a0_0, l0_1, a0_2, l0_3⟩ l1_0 l2_0).bind fun es => if a3 < 0 ∨ (es.length : Int) < a3 then some (0, 0, false, 0, 2) else (beforeE (fuelOf l1_0 + fuelOf l2_0) ⟨a0_0, l0_1, a0_2, l0_3⟩ (es.take a3.toNat).reverse a4_0 a4_1 a4_2).bind fun p => some (p.1, p.2.1, p.2.2.1, p.2.2.2, 0) else some (0, 0, false, 0, 13)
theorem flat_Before.calls (a0_0 : Int) (A0_1 : Option Addr) (c0_1 : Nat) (l0_1 : List Int) (a0_2 : Int) (A0_3 : Option Addr) (c0_3 : Nat) (l0_3 : List Int) (A1_0 : Option Addr) (c1_0 : Nat) (l1_0 : List (S56)) (a1_1 : Int) (a1_2 : Int) (a1_3 : Int) (a1_4 : Int) (A2_0 : Option Addr) (c2_0 : Nat) (l2_0 : List (S56)) (a2_1 : Int) (a2_2 : Int) (a2_3 : Int) (a2_4 : Int) (a3 : Int) (a4_0 : Int) (a4_1 : Bool) (a4_2 : Int) (r1 : Int) (r2 : Int) (r3 : Bool) (r4 : Int) (r5 : Int) (w : World) (hr0_1 : Kd.C (Kd.int .i64) w A0_1 l0_1.length l0_1) (hc0_1 : l0_1.length ≤ c0_1) (hr0_3 : Kd.C (Kd.int .i64) w A0_3 l0_3.length l0_3) (hc0_3 : l0_3.length ≤ c0_3) (hr1_0 : Kd.C k56 w A1_0 l1_0.length l1_0) (hc1_0 : l1_0.length ≤ c1_0) (hr2_0 : Kd.C k56 w A2_0 l2_0.length l2_0) (hc2_0 : l2_0.length ≤ c2_0)
  (hok : ∀ es, eventsL (fuelOf l1_0 + fuelOf l2_0) ⟨a0_0, l0_1, a0_2, l0_3⟩ l1_0 l2_0 = some es → ∀ e ∈ es, ∀ x s n, (aheadE (fuelOf l1_0 + fuelOf l2_0) ⟨a0_0, l0_1, a0_2, l0_3⟩ e x s n).isSome = true) (h : flat_Before.f a0_0 l0_1 a0_2 l0_3 l1_0 a1_1 a1_2 a1_3 a1_4 l2_0 a2_1 a2_2 a2_3 a2_4 a3 a4_0 a4_1 a4_2 = some (r1, r2, r3, r4, r5)) :
  Calls Try.prog 10 #[.agg #[.int .i64 a0_0, .slice A0_1 l0_1.length c0_1, .int .i64 a0_2, .slice A0_3 l0_3.length c0_3], .agg #[.slice A1_0 l1_0.length c1_0, .int .i64 a1_1, .int .i64 a1_2, .int .i64 a1_3, .int .i64 a1_4], .agg #[.slice A2_0 l2_0.length c2_0, .int .i64 a2_1, .int .i64 a2_2, .int .i64 a2_3, .int .i64 a2_4], .int .i64 a3, .agg #[.int .i64 a4_0, .bool a4_1, .int .i64 a4_2]] w fun e w' => e = .returned (.tuple #[.int .i64 r1, .agg #[.int .i64 r2, .bool r3, .int .i64 r4], .int .i64 r5]) ∧ Below w.heap.size w w' := by
 obtain ⟨d, hd, h⟩ := Option.bind_eq_some_iff.1 h
 cases d with
 | false =>
  rw [if_neg (by simp)] at h
  have h2 := Option.some.inj h
  simp only [Prod.mk.injEq] at h2
  obtain ⟨rfl, rfl, rfl, rfl, rfl⟩ := h2
  exact before_no a0_0 A0_1 c0_1 l0_1 a0_2 A0_3 c0_3 l0_3 A1_0 c1_0 l1_0 a1_1 a1_2 a1_3 a1_4 A2_0 c2_0 l2_0 a2_1 a2_2 a2_3 a2_4 a3 a4_0 a4_1 a4_2 w hr0_1 hc0_1 hr0_3 hc0_3 hr1_0 hc1_0 hr2_0 hc2_0 hd
 | true =>
  rw [if_pos rfl] at h
  obtain ⟨es, he, h⟩ := Option.bind_eq_some_iff.1 h
  by_cases hn : a3 < 0
  ·rw [if_pos (.inl hn)] at h
   have h2 := Option.some.inj h
   simp only [Prod.mk.injEq] at h2
   obtain ⟨rfl, rfl, rfl, rfl, rfl⟩ := h2
   exact before_neg a0_0 A0_1 c0_1 l0_1 a0_2 A0_3 c0_3 l0_3 A1_0 c1_0 l1_0 a1_1 a1_2 a1_3 a1_4 A2_0 c2_0 l2_0 a2_1 a2_2 a2_3 a2_4 a3 a4_0 a4_1 a4_2 w hr0_1 hc0_1 hr0_3 hc0_3 hr1_0 hc1_0 hr2_0 hc2_0 hd es he hn
  ·by_cases hf : (es.length : Int) < a3
   ·rw [if_pos (.inr hf)] at h
    have h2 := Option.some.inj h
    simp only [Prod.mk.injEq] at h2
    obtain ⟨rfl, rfl, rfl, rfl, rfl⟩ := h2
    exact before_far a0_0 A0_1 c0_1 l0_1 a0_2 A0_3 c0_3 l0_3 A1_0 c1_0 l1_0 a1_1 a1_2 a1_3 a1_4 A2_0 c2_0 l2_0 a2_1 a2_2 a2_3 a2_4 a3 a4_0 a4_1 a4_2 w hr0_1 hc0_1 hr0_3 hc0_3 hr1_0 hc1_0 hr2_0 hc2_0 hd es he hf
   ·rw [if_neg (by omega)] at h
    obtain ⟨⟨p1, p2, p3, p4⟩, hp, h⟩ := Option.bind_eq_some_iff.1 h
    have h2 := Option.some.inj h
    simp only [Prod.mk.injEq] at h2
    obtain ⟨rfl, rfl, rfl, rfl, rfl⟩ := h2
    exact before_yes a0_0 A0_1 c0_1 l0_1 a0_2 A0_3 c0_3 l0_3 A1_0 c1_0 l1_0 a1_1 a1_2 a1_3 a1_4 A2_0 c2_0 l2_0 a2_1 a2_2 a2_3 a2_4 a3 a4_0 a4_1 a4_2 p1 p2 p3 p4 w hr0_1 hc0_1 hr0_3 hc0_3 hr1_0 hc1_0 hr2_0 hc2_0 hd es he a3.toNat (by omega) (by omega) (hok es he) hp
end Go.Proofs.Ytdlgkmnloijnbaa.Q
