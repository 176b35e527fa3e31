/- intarsialaw30.FlatFirst: the walk. -/
import Derived.Test.YtdlgkmnloijnbaaC1HAwake
import Derived.Test.YtdlgkmnloijnbaaC1HTot
set_option linter.unusedVariables false
set_option linter.unusedSimpArgs false
namespace Go.Proofs.Ytdlgkmnloijnbaa.Q
open Go.RowKit Go.Proofs.YtdlgkmnloijnbaaW.PrintWords Go.Proofs.YtdlgkmnloijnbaaW.PrintLast Go.Proofs.YtdlgkmnloijnbaaW.PrintMore

theorem add_zero_block (g n : Nat) : (⟨g, 0, none⟩ : Addr).add n = ⟨g, n, none⟩ := by
 unfold Addr.add
 split <;> simp_all
theorem C2_of_blk {α : Type} (d : Kd α) {w : World} {g e : Nat} {cs : Array Value} (h : w.heap[g]? = some (.cells cs e (0, 0))) (p q : α) (x y : List Value) (hcs : cs = (x ++ y).toArray) (h1 : x.length = d.sz) (h2 : y.length = d.sz) (k1 : d.K w p x) (k2 : d.K w q y) : d.C w (some ⟨g, 0, none⟩) 2 [p, q] := by
 refine ⟨rfl, by omega, fun _ => ⟨_, rfl, fun j p' hj => ?_⟩⟩
 subst hcs
 match j, hj with
 | 0, hj =>
  obtain rfl : p = p' := by simpa using hj
  refine ⟨x, h1, k1, fun i u hi => ?_⟩
  rw [add_zero_block, blk_cell h]
  have hlt : i < x.length := (List.getElem?_eq_some_iff.1 hi).1
  simp only [Nat.zero_mul, Nat.zero_add, List.getElem?_toArray]
  rw [List.getElem?_append_left hlt]; exact hi
 | 1, hj =>
  obtain rfl : q = p' := by simpa using hj
  refine ⟨y, h2, k2, fun i u hi => ?_⟩
  rw [add_zero_block, blk_cell h]
  simp only [Nat.one_mul, List.getElem?_toArray, ← h1]
  rw [List.getElem?_append_right (by omega)]
  rw [Nat.add_sub_cancel_left]; exact hi
 | j + 2, hj => simp at hj
theorem lit_step {P : Program} {ops : Array Oper} {o : Oper} {a : Act} {Q : Exit → Act → World → Prop} {Kc : Act → World → Prop} {W : World} {n : Nat} {cs : Array Value} {e : TypeId} (hw : Region.wanted o (yielded ops a.tmps) = true)
  (hrun : (execOp a.eval o).run P W = .ok (.value (.slice (some ⟨W.heap.size, 0, none⟩) n n)) (W.alloc (.cells cs e (0, 0))))
  (h : ∀ g, g = W.heap.size → ∀ w1, w1.heap[g]? = some (.cells cs e (0, 0)) → Below W.heap.size W w1 → Kc (a.put o.dst (.slice (some ⟨g, 0, none⟩) n n)) w1) : if Region.wanted o (yielded ops a.tmps) = true then Oper.wp P o a W Kc Q else Kc (a.put o.dst undef) W :=
 event_step hw hrun (h _ rfl _ (blk_new W _) (below_alloc (Below.refl _ _) _))
def ff3_T : Bool × List (List Nat × List Nat) := (true, [([], []), ([0], [0]), ([], []), ([], []), ([2, 3], [2, 3]), ([4, 1], [4]), ([1, 5], [1, 5]), ([6], [6])])
def ff3_B : List Nat := [0, 1, 0, 0, 12, 31, 63, 127]
theorem ff3_tab : rtab .any (opsOf Try.f4 3) = ff3_T := by kernel_rfl
theorem ff3_bits : waitsOk ff3_T.2 ff3_B = true := by kernel_rfl
set_option maxHeartbeats 3200000 in
set_option maxRecDepth 100000 in
theorem FlatFirst_walk (a0_0 : Int) (A0_1 : Option Addr) (c0_1 : Nat) (l0_1 : List Int) (a0_2 : Int) (A0_3 : Option Addr) (c0_3 : Nat) (l0_3 : List Int) (A1_0 : Option Addr) (c1_0 : Nat) (l1_0 : List (S56)) (a1_1 : Int) (a1_2 : Int) (a1_3 : Int) (a1_4 : Int) (A2_0 : Option Addr) (c2_0 : Nat) (l2_0 : List (S56)) (a2_1 : Int) (a2_2 : Int) (a2_3 : Int) (a2_4 : Int) (a3 : Int) (a4_0 : Int) (a4_1 : Bool) (a4_2 : Int) (w : World) (hr0_1 : Kd.C (Kd.int .i64) w A0_1 l0_1.length l0_1) (hc0_1 : l0_1.length ≤ c0_1) (hr0_3 : Kd.C (Kd.int .i64) w A0_3 l0_3.length l0_3) (hc0_3 : l0_3.length ≤ c0_3) (hr1_0 : Kd.C k56 w A1_0 l1_0.length l1_0) (hc1_0 : l1_0.length ≤ c1_0) (hr2_0 : Kd.C k56 w A2_0 l2_0.length l2_0) (hc2_0 : l2_0.length ≤ c2_0) (z1 : l0_1.length ≤ 17592186044416) (z3 : l0_3.length ≤ 17592186044416) (zs : l1_0.length ≤ 17592186044416) (zt : l2_0.length ≤ 17592186044416) (ys : ∀ x ∈ l1_0, x.f6.length ≤ 17592186044416) (yt : ∀ x ∈ l2_0, x.f6.length ≤ 17592186044416) :
  Calls Try.prog 4 #[.agg #[.int .i64 a0_0, .slice A0_1 l0_1.length c0_1, .int .i64 a0_2, .slice A0_3 l0_3.length c0_3], .agg #[.slice A1_0 l1_0.length c1_0, .int .i64 a1_1, .int .i64 a1_2, .int .i64 a1_3, .int .i64 a1_4], .agg #[.slice A2_0 l2_0.length c2_0, .int .i64 a2_1, .int .i64 a2_2, .int .i64 a2_3, .int .i64 a2_4], .int .i64 a3, .agg #[.int .i64 a4_0, .bool a4_1, .int .i64 a4_2]] w fun e w' => e = .returned (.bool true) ∧ Below w.heap.size w w' := by
 have HMV := Aside0.mk (show intarsiakit_MachineOf.f a0_0 l0_1 a0_2 l0_3 = some ((l0_1.length : Int) + (l0_3.length : Int)) from congrArg some (by unfold wrap64; omega))
 obtain ⟨kb, bv, hbv, hb0, hb1, hb3⟩ := blocks_tot ⟨l1_0, ⟨a1_1, a1_2, ⟨a1_3, a1_4⟩⟩⟩ ⟨l2_0, ⟨a2_1, a2_2, ⟨a2_3, a2_4⟩⟩⟩ zs zt ys yt
 obtain ⟨mv, hmv⟩ : ∃ mv : Int, mv = (l0_1.length : Int) + (l0_3.length : Int) := ⟨_, rfl⟩
 rw [← hmv] at HMV
 have HSUM : Aside0 (wrap64 (mv + bv) = mv + bv ∧ 0 ≤ mv) := ⟨by unfold wrap64; omega, by omega⟩
 have HBV := Aside0.mk hbv
 have HB3 := Aside0.mk hb3
 clear hbv hb3 hb1 hb0 hmv z1 z3 zs zt ys yt
 have H01 := Aside0.mk hr0_1
 have H03 := Aside0.mk hr0_3
 have H1 := Aside0.mk hr1_0
 have H2 := Aside0.mk hr2_0
 have HL := Aside0.mk (And.intro hc0_1 (And.intro hc0_3 (And.intro hc1_0 hc2_0)))
 clear hr0_1 hr0_3 hr1_0 hr2_0 hc0_1 hc0_3 hc1_0 hc2_0
 have HB := Aside0.mk (Below.refl w.heap.size w)
 go_enter Try.func4, Try.ntmps4
 go_wp2_with (first
  | ((with_reducible refine gate_dst (N := 5) rfl ?_); refine box_event ?hg (N := 5) ?hd (cs := #[.int .i64 a0_0, .slice A0_1 l0_1.length c0_1, .int .i64 a0_2, .slice A0_3 l0_3.length c0_3]) (t := 24) ?hr ?_; (case hd => rfl); (case hg => rfl); (case hr => first | (go_simp; done) | (go_simp; rfl)); intro g5 hg w_1 hbox hb; have G_g5_HB : Aside0 (w.heap.size ≤ g5) := ⟨by have := HB.out.size; omega⟩; have n_HB := Aside0.mk (below_step HB.out hb); clear HB; have HB := n_HB; clear n_HB; have X_g5 := Aside0.mk hbox; clear hb hbox hg)
  | ((with_reducible refine gate_dst (N := 6) rfl ?_); refine box_event ?hg (N := 6) ?hd (cs := #[.slice A1_0 l1_0.length c1_0, .int .i64 a1_1, .int .i64 a1_2, .int .i64 a1_3, .int .i64 a1_4]) (t := 31) ?hr ?_; (case hd => rfl); (case hg => rfl); (case hr => first | (go_simp; done) | (go_simp; rfl)); intro g6 hg w_2 hbox hb; have G_g6_HB : Aside0 (w.heap.size ≤ g6) := ⟨by have := HB.out.size; omega⟩; have N_g5_g6 : Aside0 (g5 ≠ g6) := ⟨by have := blk_lt X_g5.out; omega⟩; have n_HB := Aside0.mk (below_step HB.out hb); have n_X_g5 := Aside0.mk (blk_below X_g5.out hb); clear HB X_g5; have HB := n_HB; have X_g5 := n_X_g5; clear n_HB n_X_g5; have X_g6 := Aside0.mk hbox; clear hb hbox hg)
  | ((with_reducible refine gate_dst (N := 7) rfl ?_); refine box_event ?hg (N := 7) ?hd (cs := #[.slice A2_0 l2_0.length c2_0, .int .i64 a2_1, .int .i64 a2_2, .int .i64 a2_3, .int .i64 a2_4]) (t := 31) ?hr ?_; (case hd => rfl); (case hg => rfl); (case hr => first | (go_simp; done) | (go_simp; rfl)); intro g7 hg w_3 hbox hb; have G_g7_HB : Aside0 (w.heap.size ≤ g7) := ⟨by have := HB.out.size; omega⟩; have N_g5_g7 : Aside0 (g5 ≠ g7) := ⟨by have := blk_lt X_g5.out; omega⟩; have N_g6_g7 : Aside0 (g6 ≠ g7) := ⟨by have := blk_lt X_g6.out; omega⟩; have n_HB := Aside0.mk (below_step HB.out hb); have n_X_g5 := Aside0.mk (blk_below X_g5.out hb); have n_X_g6 := Aside0.mk (blk_below X_g6.out hb); clear HB X_g5 X_g6; have HB := n_HB; have X_g5 := n_X_g5; have X_g6 := n_X_g6; clear n_HB n_X_g5 n_X_g6; have X_g7 := Aside0.mk hbox; clear hb hbox hg)
  | ((with_reducible refine gate_dst (N := 9) rfl ?_); refine box_event ?hg (N := 9) ?hd (cs := #[.int .i64 a4_0, .bool a4_1, .int .i64 a4_2]) (t := 35) ?hr ?_; (case hd => rfl); (case hg => rfl); (case hr => first | (go_simp; done) | (go_simp; rfl)); intro g9 hg w_4 hbox hb; have G_g9_HB : Aside0 (w.heap.size ≤ g9) := ⟨by have := HB.out.size; omega⟩; have N_g5_g9 : Aside0 (g5 ≠ g9) := ⟨by have := blk_lt X_g5.out; omega⟩; have N_g6_g9 : Aside0 (g6 ≠ g9) := ⟨by have := blk_lt X_g6.out; omega⟩; have N_g7_g9 : Aside0 (g7 ≠ g9) := ⟨by have := blk_lt X_g7.out; omega⟩; have n_HB := Aside0.mk (below_step HB.out hb); have n_X_g5 := Aside0.mk (blk_below X_g5.out hb); have n_X_g6 := Aside0.mk (blk_below X_g6.out hb); have n_X_g7 := Aside0.mk (blk_below X_g7.out hb); clear HB X_g5 X_g6 X_g7; have HB := n_HB; have X_g5 := n_X_g5; have X_g6 := n_X_g6; have X_g7 := n_X_g7; clear n_HB n_X_g5 n_X_g6 n_X_g7; have X_g9 := Aside0.mk hbox; clear hb hbox hg)
  | (go_at_call 7; with_reducible refine (intarsialaw30_awake.calls _).mono ?_; rintro e w_5 ⟨rfl, hb⟩; have n_HB := Aside0.mk (below_step HB.out hb); have n_X_g5 := Aside0.mk (blk_below X_g5.out hb); have n_X_g6 := Aside0.mk (blk_below X_g6.out hb); have n_X_g7 := Aside0.mk (blk_below X_g7.out hb); have n_X_g9 := Aside0.mk (blk_below X_g9.out hb); clear HB X_g5 X_g6 X_g7 X_g9; have HB := n_HB; have X_g5 := n_X_g5; have X_g6 := n_X_g6; have X_g7 := n_X_g7; have X_g9 := n_X_g9; clear n_HB n_X_g5 n_X_g6 n_X_g7 n_X_g9; clear hb))
 rename_i K hK
 have HSS : Aside0 (∀ w' : World, w'.heap[g5]? = some (.cells #[.int .i64 a0_0, .slice A0_1 l0_1.length c0_1, .int .i64 a0_2, .slice A0_3 l0_3.length c0_3] 24 (0, 0)) → w'.heap[g6]? = some (.cells #[.slice A1_0 l1_0.length c1_0, .int .i64 a1_1, .int .i64 a1_2, .int .i64 a1_3, .int .i64 a1_4] 31 (0, 0)) → w'.heap[g7]? = some (.cells #[.slice A2_0 l2_0.length c2_0, .int .i64 a2_1, .int .i64 a2_2, .int .i64 a2_3, .int .i64 a2_4] 31 (0, 0)) → w'.cell? ⟨g5, 0, none⟩ = some (.int .i64 a0_0) ∧ w'.cell? ⟨g5, 1, none⟩ = some (.slice A0_1 l0_1.length c0_1) ∧ w'.cell? ⟨g5, 2, none⟩ = some (.int .i64 a0_2) ∧ w'.cell? ⟨g5, 3, none⟩ = some (.slice A0_3 l0_3.length c0_3) ∧ w'.cell? ⟨g6, 0, none⟩ = some (.slice A1_0 l1_0.length c1_0) ∧ w'.cell? ⟨g6, 1, none⟩ = some (.int .i64 a1_1) ∧ w'.cell? ⟨g6, 2, none⟩ = some (.int .i64 a1_2) ∧ w'.cell? ⟨g6, 3, none⟩ = some (.int .i64 a1_3) ∧ w'.cell? ⟨g6, 4, none⟩ = some (.int .i64 a1_4) ∧ w'.cell? ⟨g7, 0, none⟩ = some (.slice A2_0 l2_0.length c2_0) ∧ w'.cell? ⟨g7, 1, none⟩ = some (.int .i64 a2_1) ∧ w'.cell? ⟨g7, 2, none⟩ = some (.int .i64 a2_2) ∧ w'.cell? ⟨g7, 3, none⟩ = some (.int .i64 a2_3) ∧ w'.cell? ⟨g7, 4, none⟩ = some (.int .i64 a2_4)) := ⟨fun w' h1 h3 h4 => ⟨(blk_cell h1 0).trans rfl, (blk_cell h1 1).trans rfl, (blk_cell h1 2).trans rfl, (blk_cell h1 3).trans rfl, (blk_cell h3 0).trans rfl, (blk_cell h3 1).trans rfl, (blk_cell h3 2).trans rfl, (blk_cell h3 3).trans rfl, (blk_cell h3 4).trans rfl, (blk_cell h4 0).trans rfl, (blk_cell h4 1).trans rfl, (blk_cell h4 2).trans rfl, (blk_cell h4 3).trans rfl, (blk_cell h4 4).trans rfl⟩⟩
 refine wp_mono (Q := fun e a' w' => match e with | .normal => ∃ gb, a' = { tmps := #[.agg #[.int .i64 a0_0, .slice A0_1 l0_1.length c0_1, .int .i64 a0_2, .slice A0_3 l0_3.length c0_3], .agg #[.slice A1_0 l1_0.length c1_0, .int .i64 a1_1, .int .i64 a1_2, .int .i64 a1_3, .int .i64 a1_4], .agg #[.slice A2_0 l2_0.length c2_0, .int .i64 a2_1, .int .i64 a2_2, .int .i64 a2_3, .int .i64 a2_4], .int .i64 a3, .agg #[.int .i64 a4_0, .bool a4_1, .int .i64 a4_2], .pointer (some ⟨g5, 0, none⟩), .pointer (some ⟨g6, 0, none⟩), .pointer (some ⟨g7, 0, none⟩), undef, .pointer (some ⟨g9, 0, none⟩), .bool false, undef, undef, undef, undef, undef, undef, undef, undef, undef, undef, undef, undef, undef, undef, undef, undef, undef, .bool true, .bool false, .agg #[.int .i64 a0_0, .slice A0_1 l0_1.length c0_1, .int .i64 a0_2, .slice A0_3 l0_3.length c0_3], .int .i64 mv, .agg #[.slice A1_0 l1_0.length c1_0, .int .i64 a1_1, .int .i64 a1_2, .int .i64 a1_3, .int .i64 a1_4], .agg #[.slice A2_0 l2_0.length c2_0, .int .i64 a2_1, .int .i64 a2_2, .int .i64 a2_3, .int .i64 a2_4], .slice (some ⟨gb, 0, none⟩) 2 2, .int .i64 bv, .int .i64 (wrap64 (mv + bv)), .bool (decide (wrap64 (mv + bv) > 300)), undef, undef, undef, undef, undef, undef, undef, undef, undef, undef, undef, undef, undef, undef, undef, undef, undef, undef, undef, undef, undef, undef, undef, undef, undef, undef, undef, undef, undef, undef, undef, undef, undef, undef, undef, undef, undef, undef, undef, undef, undef, undef, undef, undef, undef, undef, undef, undef, undef, undef, undef, undef, undef, undef, undef, undef, undef, undef, undef, undef, undef, undef, undef, undef, undef, undef, undef, undef, undef, undef, undef, undef, undef, undef, undef, undef, undef, undef, undef, undef, undef, undef, undef, undef, undef, undef, undef, undef, undef, undef, undef, undef, undef, undef, undef, undef, undef, undef, undef, undef, undef, undef, undef, undef, undef, undef, undef, undef, undef, undef, undef, undef, undef, undef, undef], defers := [] } ∧ Below w.heap.size w w' ∧ w'.heap[g5]? = some (.cells #[.int .i64 a0_0, .slice A0_1 l0_1.length c0_1, .int .i64 a0_2, .slice A0_3 l0_3.length c0_3] 24 (0, 0)) ∧ w'.heap[g6]? = some (.cells #[.slice A1_0 l1_0.length c1_0, .int .i64 a1_1, .int .i64 a1_2, .int .i64 a1_3, .int .i64 a1_4] 31 (0, 0)) ∧ w'.heap[g7]? = some (.cells #[.slice A2_0 l2_0.length c2_0, .int .i64 a2_1, .int .i64 a2_2, .int .i64 a2_3, .int .i64 a2_4] 31 (0, 0)) ∧ w'.heap[g9]? = some (.cells #[.int .i64 a4_0, .bool a4_1, .int .i64 a4_2] 35 (0, 0)) | _ => False) ?_ ?_
 rotate_left
 ·rintro e a' w' h
  cases e <;> first | exact h.elim | skip
  obtain ⟨gb, rfl, i_HB, i_X_g5, i_X_g6, i_X_g7, i_X_g9⟩ := h
  clear HB X_g5 X_g6 X_g7 X_g9
  have HB := Aside0.mk i_HB
  have X_g5 := Aside0.mk i_X_g5
  have X_g6 := Aside0.mk i_X_g6
  have X_g7 := Aside0.mk i_X_g7
  have X_g9 := Aside0.mk i_X_g9
  clear i_HB i_X_g5 i_X_g6 i_X_g7 i_X_g9
  refine hK _ _ ?_
  clear hK K
  by_cases hlong : wrap64 (mv + bv) > 300
  ·rw [decide_eq_true hlong]
   go_wp2_with fail
   go_ret
   exact ⟨rfl, HB.out⟩
  ·rw [decide_eq_false hlong]
   have hlen := HB3.out (by have := HSUM.out; omega)
   obtain ⟨d, hd, hdl⟩ := does_tot ⟨a0_0, l0_1, a0_2, l0_3⟩ l1_0 l2_0 a1_1 a1_2 a1_3 a1_4 a2_1 a2_2 a2_3 a2_4 (by have := hlen.1; omega) (by have := hlen.2; omega)
   have hd : check_Does.f a0_0 l0_1 a0_2 l0_3 l1_0 a1_1 a1_2 a1_3 a1_4 l2_0 a2_1 a2_2 a2_3 a2_4 = some d := hd
   clear hlong HB3 HSUM
   have q_g5_0 := (blk_cell X_g5.out 0).trans rfl
   have q_g5_1 := (blk_cell X_g5.out 1).trans rfl
   have q_g5_2 := (blk_cell X_g5.out 2).trans rfl
   have q_g5_3 := (blk_cell X_g5.out 3).trans rfl
   have q_g6_0 := (blk_cell X_g6.out 0).trans rfl
   have q_g6_1 := (blk_cell X_g6.out 1).trans rfl
   have q_g6_2 := (blk_cell X_g6.out 2).trans rfl
   have q_g6_3 := (blk_cell X_g6.out 3).trans rfl
   have q_g6_4 := (blk_cell X_g6.out 4).trans rfl
   have q_g7_0 := (blk_cell X_g7.out 0).trans rfl
   have q_g7_1 := (blk_cell X_g7.out 1).trans rfl
   have q_g7_2 := (blk_cell X_g7.out 2).trans rfl
   have q_g7_3 := (blk_cell X_g7.out 3).trans rfl
   have q_g7_4 := (blk_cell X_g7.out 4).trans rfl
   have q_g9_0 := (blk_cell X_g9.out 0).trans rfl
   have q_g9_1 := (blk_cell X_g9.out 1).trans rfl
   have q_g9_2 := (blk_cell X_g9.out 2).trans rfl
   cases d with
   | false =>
    have HE := Aside0.mk (show flat_Events.f a0_0 l0_1 a0_2 l0_3 l1_0 a1_1 a1_2 a1_3 a1_4 l2_0 a2_1 a2_2 a2_3 a2_4 = some 0 by unfold flat_Events.f; rw [hd]; rfl)
    have HB0 := Aside0.mk (show flat_Before.f a0_0 l0_1 a0_2 l0_3 l1_0 a1_1 a1_2 a1_3 a1_4 l2_0 a2_1 a2_2 a2_3 a2_4 0 a4_0 a4_1 a4_2 = some (0, 0, false, 0, 13) by unfold flat_Before.f; rw [hd]; rfl)
    have HD := Aside0.mk hd
    clear hd hdl
    go_wp2_with (first
     | (go_at_call 12; with_reducible refine (flat_Events.calls a0_0 A0_1 c0_1 l0_1 a0_2 A0_3 c0_3 l0_3 A1_0 c1_0 l1_0 a1_1 a1_2 a1_3 a1_4 A2_0 c2_0 l2_0 a2_1 a2_2 a2_3 a2_4 0 _ (Kd.C_below H01.out HB.out) HL.out.1 (Kd.C_below H03.out HB.out) HL.out.2.1 (Kd.C_below H1.out HB.out) HL.out.2.2.1 (Kd.C_below H2.out HB.out) HL.out.2.2.2 HE.out).mono ?_; rintro e w_6 ⟨rfl, hb⟩; clear q_g5_0 q_g5_1 q_g5_2 q_g5_3 q_g6_0 q_g6_1 q_g6_2 q_g6_3 q_g6_4 q_g7_0 q_g7_1 q_g7_2 q_g7_3 q_g7_4 q_g9_0 q_g9_1 q_g9_2; have n_HB := Aside0.mk (below_step HB.out hb); have n_X_g5 := Aside0.mk (blk_below X_g5.out hb); have n_X_g6 := Aside0.mk (blk_below X_g6.out hb); have n_X_g7 := Aside0.mk (blk_below X_g7.out hb); have n_X_g9 := Aside0.mk (blk_below X_g9.out hb); clear HB X_g5 X_g6 X_g7 X_g9; have HB := n_HB; have X_g5 := n_X_g5; have X_g6 := n_X_g6; have X_g7 := n_X_g7; have X_g9 := n_X_g9; clear n_HB n_X_g5 n_X_g6 n_X_g7 n_X_g9; have q_g5_0 := (blk_cell X_g5.out 0).trans rfl; have q_g5_1 := (blk_cell X_g5.out 1).trans rfl; have q_g5_2 := (blk_cell X_g5.out 2).trans rfl; have q_g5_3 := (blk_cell X_g5.out 3).trans rfl; have q_g6_0 := (blk_cell X_g6.out 0).trans rfl; have q_g6_1 := (blk_cell X_g6.out 1).trans rfl; have q_g6_2 := (blk_cell X_g6.out 2).trans rfl; have q_g6_3 := (blk_cell X_g6.out 3).trans rfl; have q_g6_4 := (blk_cell X_g6.out 4).trans rfl; have q_g7_0 := (blk_cell X_g7.out 0).trans rfl; have q_g7_1 := (blk_cell X_g7.out 1).trans rfl; have q_g7_2 := (blk_cell X_g7.out 2).trans rfl; have q_g7_3 := (blk_cell X_g7.out 3).trans rfl; have q_g7_4 := (blk_cell X_g7.out 4).trans rfl; have q_g9_0 := (blk_cell X_g9.out 0).trans rfl; have q_g9_1 := (blk_cell X_g9.out 1).trans rfl; have q_g9_2 := (blk_cell X_g9.out 2).trans rfl; clear hb)
     | (go_at_call 10; with_reducible refine (flat_Before.calls a0_0 A0_1 c0_1 l0_1 a0_2 A0_3 c0_3 l0_3 A1_0 c1_0 l1_0 a1_1 a1_2 a1_3 a1_4 A2_0 c2_0 l2_0 a2_1 a2_2 a2_3 a2_4 (0) a4_0 a4_1 a4_2 0 0 false 0 13 _ (Kd.C_below H01.out HB.out) HL.out.1 (Kd.C_below H03.out HB.out) HL.out.2.1 (Kd.C_below H1.out HB.out) HL.out.2.2.1 (Kd.C_below H2.out HB.out) HL.out.2.2.2 (fun es _ e _ x s n => ahead_tot _ (by have := fuelOf_le l1_0; omega) _ e x s n) HB0.out).mono ?_; rintro e w_7 ⟨rfl, hb⟩; clear q_g5_0 q_g5_1 q_g5_2 q_g5_3 q_g6_0 q_g6_1 q_g6_2 q_g6_3 q_g6_4 q_g7_0 q_g7_1 q_g7_2 q_g7_3 q_g7_4 q_g9_0 q_g9_1 q_g9_2; have n_HB := Aside0.mk (below_step HB.out hb); have n_X_g5 := Aside0.mk (blk_below X_g5.out hb); have n_X_g6 := Aside0.mk (blk_below X_g6.out hb); have n_X_g7 := Aside0.mk (blk_below X_g7.out hb); have n_X_g9 := Aside0.mk (blk_below X_g9.out hb); clear HB X_g5 X_g6 X_g7 X_g9; have HB := n_HB; have X_g5 := n_X_g5; have X_g6 := n_X_g6; have X_g7 := n_X_g7; have X_g9 := n_X_g9; clear n_HB n_X_g5 n_X_g6 n_X_g7 n_X_g9; have q_g5_0 := (blk_cell X_g5.out 0).trans rfl; have q_g5_1 := (blk_cell X_g5.out 1).trans rfl; have q_g5_2 := (blk_cell X_g5.out 2).trans rfl; have q_g5_3 := (blk_cell X_g5.out 3).trans rfl; have q_g6_0 := (blk_cell X_g6.out 0).trans rfl; have q_g6_1 := (blk_cell X_g6.out 1).trans rfl; have q_g6_2 := (blk_cell X_g6.out 2).trans rfl; have q_g6_3 := (blk_cell X_g6.out 3).trans rfl; have q_g6_4 := (blk_cell X_g6.out 4).trans rfl; have q_g7_0 := (blk_cell X_g7.out 0).trans rfl; have q_g7_1 := (blk_cell X_g7.out 1).trans rfl; have q_g7_2 := (blk_cell X_g7.out 2).trans rfl; have q_g7_3 := (blk_cell X_g7.out 3).trans rfl; have q_g7_4 := (blk_cell X_g7.out 4).trans rfl; have q_g9_0 := (blk_cell X_g9.out 0).trans rfl; have q_g9_1 := (blk_cell X_g9.out 1).trans rfl; have q_g9_2 := (blk_cell X_g9.out 2).trans rfl; clear hb)
     | ((with_reducible refine gate_dst (N := 13) rfl ?_); refine box_event ?hg (N := 13) ?hd (cs := #[.int .i64 0, .bool false, .int .i64 0]) (t := 35) ?hr ?_; (case hd => rfl); (case hg => rfl); (case hr => first | (go_simp; done) | (go_simp; rfl)); intro g13 hg w_8 hbox hb; have G_g13_HB : Aside0 (w.heap.size ≤ g13) := ⟨by have := HB.out.size; omega⟩; have N_g5_g13 : Aside0 (g5 ≠ g13) := ⟨by have := blk_lt X_g5.out; omega⟩; have N_g6_g13 : Aside0 (g6 ≠ g13) := ⟨by have := blk_lt X_g6.out; omega⟩; have N_g7_g13 : Aside0 (g7 ≠ g13) := ⟨by have := blk_lt X_g7.out; omega⟩; have N_g9_g13 : Aside0 (g9 ≠ g13) := ⟨by have := blk_lt X_g9.out; omega⟩; clear q_g5_0 q_g5_1 q_g5_2 q_g5_3 q_g6_0 q_g6_1 q_g6_2 q_g6_3 q_g6_4 q_g7_0 q_g7_1 q_g7_2 q_g7_3 q_g7_4 q_g9_0 q_g9_1 q_g9_2; have n_HB := Aside0.mk (below_step HB.out hb); have n_X_g5 := Aside0.mk (blk_below X_g5.out hb); have n_X_g6 := Aside0.mk (blk_below X_g6.out hb); have n_X_g7 := Aside0.mk (blk_below X_g7.out hb); have n_X_g9 := Aside0.mk (blk_below X_g9.out hb); clear HB X_g5 X_g6 X_g7 X_g9; have HB := n_HB; have X_g5 := n_X_g5; have X_g6 := n_X_g6; have X_g7 := n_X_g7; have X_g9 := n_X_g9; clear n_HB n_X_g5 n_X_g6 n_X_g7 n_X_g9; have q_g5_0 := (blk_cell X_g5.out 0).trans rfl; have q_g5_1 := (blk_cell X_g5.out 1).trans rfl; have q_g5_2 := (blk_cell X_g5.out 2).trans rfl; have q_g5_3 := (blk_cell X_g5.out 3).trans rfl; have q_g6_0 := (blk_cell X_g6.out 0).trans rfl; have q_g6_1 := (blk_cell X_g6.out 1).trans rfl; have q_g6_2 := (blk_cell X_g6.out 2).trans rfl; have q_g6_3 := (blk_cell X_g6.out 3).trans rfl; have q_g6_4 := (blk_cell X_g6.out 4).trans rfl; have q_g7_0 := (blk_cell X_g7.out 0).trans rfl; have q_g7_1 := (blk_cell X_g7.out 1).trans rfl; have q_g7_2 := (blk_cell X_g7.out 2).trans rfl; have q_g7_3 := (blk_cell X_g7.out 3).trans rfl; have q_g7_4 := (blk_cell X_g7.out 4).trans rfl; have q_g9_0 := (blk_cell X_g9.out 0).trans rfl; have q_g9_1 := (blk_cell X_g9.out 1).trans rfl; have q_g9_2 := (blk_cell X_g9.out 2).trans rfl; have X_g13 := Aside0.mk hbox; clear hb hbox hg)
     | ((with_reducible refine gate_stores (x := .tmp 13) (y := .tmp 49) 35 rfl ?_); refine wpList_store_row rfl 35 (.tmp 13) (.tmp 49) rfl g13 #[.int .i64 0, .bool false, .int .i64 0] rfl rfl 35 _ X_g13.out info35s rfl (by simp [Value.oneCell']) ?_; change wpList _ _ _ _ _ (w_8.setRow g13 #[.int .i64 0, .bool false, .int .i64 0]); clear q_g5_0 q_g5_1 q_g5_2 q_g5_3 q_g6_0 q_g6_1 q_g6_2 q_g6_3 q_g6_4 q_g7_0 q_g7_1 q_g7_2 q_g7_3 q_g7_4 q_g9_0 q_g9_1 q_g9_2; have n_HB := Aside0.mk (below_setRow #[.int .i64 0, .bool false, .int .i64 0] HB.out G_g13_HB.out); have n_X_g5 := Aside0.mk ((setRow_other w_8 g13 g5 #[.int .i64 0, .bool false, .int .i64 0] N_g5_g13.out).trans X_g5.out); have n_X_g6 := Aside0.mk ((setRow_other w_8 g13 g6 #[.int .i64 0, .bool false, .int .i64 0] N_g6_g13.out).trans X_g6.out); have n_X_g7 := Aside0.mk ((setRow_other w_8 g13 g7 #[.int .i64 0, .bool false, .int .i64 0] N_g7_g13.out).trans X_g7.out); have n_X_g9 := Aside0.mk ((setRow_other w_8 g13 g9 #[.int .i64 0, .bool false, .int .i64 0] N_g9_g13.out).trans X_g9.out); have n_X_g13 := Aside0.mk (setRow_heap w_8 g13 _ #[.int .i64 0, .bool false, .int .i64 0] 35 (0, 0) X_g13.out); clear HB X_g5 X_g6 X_g7 X_g9 X_g13; have HB := n_HB; have X_g5 := n_X_g5; have X_g6 := n_X_g6; have X_g7 := n_X_g7; have X_g9 := n_X_g9; have X_g13 := n_X_g13; clear n_HB n_X_g5 n_X_g6 n_X_g7 n_X_g9 n_X_g13; generalize w_8.setRow g13 #[.int .i64 0, .bool false, .int .i64 0] = w_9 at HB X_g5 X_g6 X_g7 X_g9 X_g13 ⊢; have q_g5_0 := (blk_cell X_g5.out 0).trans rfl; have q_g5_1 := (blk_cell X_g5.out 1).trans rfl; have q_g5_2 := (blk_cell X_g5.out 2).trans rfl; have q_g5_3 := (blk_cell X_g5.out 3).trans rfl; have q_g6_0 := (blk_cell X_g6.out 0).trans rfl; have q_g6_1 := (blk_cell X_g6.out 1).trans rfl; have q_g6_2 := (blk_cell X_g6.out 2).trans rfl; have q_g6_3 := (blk_cell X_g6.out 3).trans rfl; have q_g6_4 := (blk_cell X_g6.out 4).trans rfl; have q_g7_0 := (blk_cell X_g7.out 0).trans rfl; have q_g7_1 := (blk_cell X_g7.out 1).trans rfl; have q_g7_2 := (blk_cell X_g7.out 2).trans rfl; have q_g7_3 := (blk_cell X_g7.out 3).trans rfl; have q_g7_4 := (blk_cell X_g7.out 4).trans rfl; have q_g9_0 := (blk_cell X_g9.out 0).trans rfl; have q_g9_1 := (blk_cell X_g9.out 1).trans rfl; have q_g9_2 := (blk_cell X_g9.out 2).trans rfl)
     | (go_at_call 16; with_reducible refine (check_Does.calls a0_0 A0_1 c0_1 l0_1 a0_2 A0_3 c0_3 l0_3 A1_0 c1_0 l1_0 a1_1 a1_2 a1_3 a1_4 A2_0 c2_0 l2_0 a2_1 a2_2 a2_3 a2_4 false _ (Kd.C_below H01.out HB.out) HL.out.1 (Kd.C_below H03.out HB.out) HL.out.2.1 (Kd.C_below H1.out HB.out) HL.out.2.2.1 (Kd.C_below H2.out HB.out) HL.out.2.2.2 HD.out).mono ?_; rintro e w_10 ⟨rfl, hb⟩; clear q_g5_0 q_g5_1 q_g5_2 q_g5_3 q_g6_0 q_g6_1 q_g6_2 q_g6_3 q_g6_4 q_g7_0 q_g7_1 q_g7_2 q_g7_3 q_g7_4 q_g9_0 q_g9_1 q_g9_2; have n_HB := Aside0.mk (below_step HB.out hb); have n_X_g5 := Aside0.mk (blk_below X_g5.out hb); have n_X_g6 := Aside0.mk (blk_below X_g6.out hb); have n_X_g7 := Aside0.mk (blk_below X_g7.out hb); have n_X_g9 := Aside0.mk (blk_below X_g9.out hb); have n_X_g13 := Aside0.mk (blk_below X_g13.out hb); clear HB X_g5 X_g6 X_g7 X_g9 X_g13; have HB := n_HB; have X_g5 := n_X_g5; have X_g6 := n_X_g6; have X_g7 := n_X_g7; have X_g9 := n_X_g9; have X_g13 := n_X_g13; clear n_HB n_X_g5 n_X_g6 n_X_g7 n_X_g9 n_X_g13; have q_g5_0 := (blk_cell X_g5.out 0).trans rfl; have q_g5_1 := (blk_cell X_g5.out 1).trans rfl; have q_g5_2 := (blk_cell X_g5.out 2).trans rfl; have q_g5_3 := (blk_cell X_g5.out 3).trans rfl; have q_g6_0 := (blk_cell X_g6.out 0).trans rfl; have q_g6_1 := (blk_cell X_g6.out 1).trans rfl; have q_g6_2 := (blk_cell X_g6.out 2).trans rfl; have q_g6_3 := (blk_cell X_g6.out 3).trans rfl; have q_g6_4 := (blk_cell X_g6.out 4).trans rfl; have q_g7_0 := (blk_cell X_g7.out 0).trans rfl; have q_g7_1 := (blk_cell X_g7.out 1).trans rfl; have q_g7_2 := (blk_cell X_g7.out 2).trans rfl; have q_g7_3 := (blk_cell X_g7.out 3).trans rfl; have q_g7_4 := (blk_cell X_g7.out 4).trans rfl; have q_g9_0 := (blk_cell X_g9.out 0).trans rfl; have q_g9_1 := (blk_cell X_g9.out 1).trans rfl; have q_g9_2 := (blk_cell X_g9.out 2).trans rfl; clear hb))
    go_ret
    exact ⟨by first | rfl | (simp; done), HB.out⟩
   | true =>
    obtain ⟨es, he⟩ : ∃ es, eventsL (fuelOf l1_0 + fuelOf l2_0) ⟨a0_0, l0_1, a0_2, l0_3⟩ l1_0 l2_0 = some es := by
     obtain ⟨k, hk⟩ : ∃ k, (fuelOf l1_0 + fuelOf l2_0) = k + 3 := ⟨(fuelOf l1_0 + fuelOf l2_0) - 3, by have := fuelOf_le l1_0; omega⟩
     rw [hk]
     exact events_tot k _ _ _ (Nat.le_of_eq (hdl rfl))
    have hpos := eventsL_pos _ _ _ _ _ he
    have hle := eventsL_le _ _ _ _ _ he
    have HE := Aside0.mk (show flat_Events.f a0_0 l0_1 a0_2 l0_3 l1_0 a1_1 a1_2 a1_3 a1_4 l2_0 a2_1 a2_2 a2_3 a2_4 = some (es.length : Int) by unfold flat_Events.f; rw [hd]; simp only [Option.bind_some, if_true]; rw [he]; rfl)
    have hbf : ∀ n : Int, 0 ≤ n → n ≤ es.length → ∃ b y s q, flat_Before.f a0_0 l0_1 a0_2 l0_3 l1_0 a1_1 a1_2 a1_3 a1_4 l2_0 a2_1 a2_2 a2_3 a2_4 n a4_0 a4_1 a4_2 = some (b, y, s, q, 0) ∧ (b = 3 ∨ (y = 0 ∧ s = false ∧ q = 0)) := by
     intro n h0 h1
     obtain ⟨b, y, s, q, hbe, hor⟩ := before_tot (fuelOf l1_0 + fuelOf l2_0) (by have := fuelOf_le l1_0; omega) ⟨a0_0, l0_1, a0_2, l0_3⟩ (es.take n.toNat).reverse a4_0 a4_1 a4_2
     refine ⟨b, y, s, q, ?_, hor⟩
     unfold flat_Before.f
     rw [hd]; simp only [Option.bind_some, if_true]; rw [he]; simp only [Option.bind_some]; rw [if_neg (by omega), hbe]; rfl
    have HB0 := Aside0.mk (show flat_Before.f a0_0 l0_1 a0_2 l0_3 l1_0 a1_1 a1_2 a1_3 a1_4 l2_0 a2_1 a2_2 a2_3 a2_4 0 a4_0 a4_1 a4_2 = some (3, a4_0, a4_1, a4_2, 0) by unfold flat_Before.f; rw [hd]; simp only [Option.bind_some, if_true]; rw [he]; simp only [Option.bind_some]; rw [if_neg (by omega)]; rfl)
    have HB1 := Aside0.mk (show flat_Before.f a0_0 l0_1 a0_2 l0_3 l1_0 a1_1 a1_2 a1_3 a1_4 l2_0 a2_1 a2_2 a2_3 a2_4 ((es.length : Int) + 1) a4_0 a4_1 a4_2 = some (0, 0, false, 0, 2) by unfold flat_Before.f; rw [hd]; simp only [Option.bind_some, if_true]; rw [he]; simp only [Option.bind_some]; rw [if_pos (by omega)])
    have HB2 := Aside0.mk (show flat_Before.f a0_0 l0_1 a0_2 l0_3 l1_0 a1_1 a1_2 a1_3 a1_4 l2_0 a2_1 a2_2 a2_3 a2_4 (-1) a4_0 a4_1 a4_2 = some (0, 0, false, 0, 2) by unfold flat_Before.f; rw [hd]; simp only [Option.bind_some, if_true]; rw [he]; simp only [Option.bind_some]; rw [if_pos (by omega)])
    obtain ⟨pk, hpk, hp0, hp1⟩ := pick_tot a3 (es.length : Int) (by omega) (by omega)
    obtain ⟨b3, y3, s3, q3, hb3, hor3⟩ := hbf pk (by omega) (by omega)
    obtain ⟨b4, y4, s4, q4, hb4, hor4⟩ := hbf (pk + 1) (by omega) (by omega)
    have HD := Aside0.mk hd
    have HPK := Aside0.mk hpk
    have HBK := Aside0.mk hb3
    have HBL := Aside0.mk hb4
    have HN := Aside0.mk hlen
    obtain ⟨N, hN⟩ : ∃ N : Int, N = (es.length : Int) := ⟨_, rfl⟩
    rw [← hN] at HE HB1 HPK hp1
    have hN0 : 0 < N := by omega
    have hN1 : N ≤ 3000000 := by omega
    clear hd hdl he hbf hpk hb3 hb4 hlen hpos hle hN
    go_wp2_with (first
     | (go_at_call 12; with_reducible refine (flat_Events.calls a0_0 A0_1 c0_1 l0_1 a0_2 A0_3 c0_3 l0_3 A1_0 c1_0 l1_0 a1_1 a1_2 a1_3 a1_4 A2_0 c2_0 l2_0 a2_1 a2_2 a2_3 a2_4 N _ (Kd.C_below H01.out HB.out) HL.out.1 (Kd.C_below H03.out HB.out) HL.out.2.1 (Kd.C_below H1.out HB.out) HL.out.2.2.1 (Kd.C_below H2.out HB.out) HL.out.2.2.2 HE.out).mono ?_; rintro e w_11 ⟨rfl, hb⟩; clear q_g5_0 q_g5_1 q_g5_2 q_g5_3 q_g6_0 q_g6_1 q_g6_2 q_g6_3 q_g6_4 q_g7_0 q_g7_1 q_g7_2 q_g7_3 q_g7_4 q_g9_0 q_g9_1 q_g9_2; have n_HB := Aside0.mk (below_step HB.out hb); have n_X_g5 := Aside0.mk (blk_below X_g5.out hb); have n_X_g6 := Aside0.mk (blk_below X_g6.out hb); have n_X_g7 := Aside0.mk (blk_below X_g7.out hb); have n_X_g9 := Aside0.mk (blk_below X_g9.out hb); clear HB X_g5 X_g6 X_g7 X_g9; have HB := n_HB; have X_g5 := n_X_g5; have X_g6 := n_X_g6; have X_g7 := n_X_g7; have X_g9 := n_X_g9; clear n_HB n_X_g5 n_X_g6 n_X_g7 n_X_g9; have q_g5_0 := (blk_cell X_g5.out 0).trans rfl; have q_g5_1 := (blk_cell X_g5.out 1).trans rfl; have q_g5_2 := (blk_cell X_g5.out 2).trans rfl; have q_g5_3 := (blk_cell X_g5.out 3).trans rfl; have q_g6_0 := (blk_cell X_g6.out 0).trans rfl; have q_g6_1 := (blk_cell X_g6.out 1).trans rfl; have q_g6_2 := (blk_cell X_g6.out 2).trans rfl; have q_g6_3 := (blk_cell X_g6.out 3).trans rfl; have q_g6_4 := (blk_cell X_g6.out 4).trans rfl; have q_g7_0 := (blk_cell X_g7.out 0).trans rfl; have q_g7_1 := (blk_cell X_g7.out 1).trans rfl; have q_g7_2 := (blk_cell X_g7.out 2).trans rfl; have q_g7_3 := (blk_cell X_g7.out 3).trans rfl; have q_g7_4 := (blk_cell X_g7.out 4).trans rfl; have q_g9_0 := (blk_cell X_g9.out 0).trans rfl; have q_g9_1 := (blk_cell X_g9.out 1).trans rfl; have q_g9_2 := (blk_cell X_g9.out 2).trans rfl; clear hb)
     | (go_at_call 10; with_reducible refine (flat_Before.calls a0_0 A0_1 c0_1 l0_1 a0_2 A0_3 c0_3 l0_3 A1_0 c1_0 l1_0 a1_1 a1_2 a1_3 a1_4 A2_0 c2_0 l2_0 a2_1 a2_2 a2_3 a2_4 (0) a4_0 a4_1 a4_2 3 a4_0 a4_1 a4_2 0 _ (Kd.C_below H01.out HB.out) HL.out.1 (Kd.C_below H03.out HB.out) HL.out.2.1 (Kd.C_below H1.out HB.out) HL.out.2.2.1 (Kd.C_below H2.out HB.out) HL.out.2.2.2 (fun es _ e _ x s n => ahead_tot _ (by have := fuelOf_le l1_0; omega) _ e x s n) HB0.out).mono ?_; rintro e w_12 ⟨rfl, hb⟩; clear q_g5_0 q_g5_1 q_g5_2 q_g5_3 q_g6_0 q_g6_1 q_g6_2 q_g6_3 q_g6_4 q_g7_0 q_g7_1 q_g7_2 q_g7_3 q_g7_4 q_g9_0 q_g9_1 q_g9_2; have n_HB := Aside0.mk (below_step HB.out hb); have n_X_g5 := Aside0.mk (blk_below X_g5.out hb); have n_X_g6 := Aside0.mk (blk_below X_g6.out hb); have n_X_g7 := Aside0.mk (blk_below X_g7.out hb); have n_X_g9 := Aside0.mk (blk_below X_g9.out hb); clear HB X_g5 X_g6 X_g7 X_g9; have HB := n_HB; have X_g5 := n_X_g5; have X_g6 := n_X_g6; have X_g7 := n_X_g7; have X_g9 := n_X_g9; clear n_HB n_X_g5 n_X_g6 n_X_g7 n_X_g9; have q_g5_0 := (blk_cell X_g5.out 0).trans rfl; have q_g5_1 := (blk_cell X_g5.out 1).trans rfl; have q_g5_2 := (blk_cell X_g5.out 2).trans rfl; have q_g5_3 := (blk_cell X_g5.out 3).trans rfl; have q_g6_0 := (blk_cell X_g6.out 0).trans rfl; have q_g6_1 := (blk_cell X_g6.out 1).trans rfl; have q_g6_2 := (blk_cell X_g6.out 2).trans rfl; have q_g6_3 := (blk_cell X_g6.out 3).trans rfl; have q_g6_4 := (blk_cell X_g6.out 4).trans rfl; have q_g7_0 := (blk_cell X_g7.out 0).trans rfl; have q_g7_1 := (blk_cell X_g7.out 1).trans rfl; have q_g7_2 := (blk_cell X_g7.out 2).trans rfl; have q_g7_3 := (blk_cell X_g7.out 3).trans rfl; have q_g7_4 := (blk_cell X_g7.out 4).trans rfl; have q_g9_0 := (blk_cell X_g9.out 0).trans rfl; have q_g9_1 := (blk_cell X_g9.out 1).trans rfl; have q_g9_2 := (blk_cell X_g9.out 2).trans rfl; clear hb)
     | ((with_reducible refine gate_dst (N := 13) rfl ?_); refine box_event ?hg (N := 13) ?hd (cs := #[.int .i64 0, .bool false, .int .i64 0]) (t := 35) ?hr ?_; (case hd => rfl); (case hg => rfl); (case hr => first | (go_simp; done) | (go_simp; rfl)); intro g13 hg w_13 hbox hb; have G_g13_HB : Aside0 (w.heap.size ≤ g13) := ⟨by have := HB.out.size; omega⟩; have N_g5_g13 : Aside0 (g5 ≠ g13) := ⟨by have := blk_lt X_g5.out; omega⟩; have N_g6_g13 : Aside0 (g6 ≠ g13) := ⟨by have := blk_lt X_g6.out; omega⟩; have N_g7_g13 : Aside0 (g7 ≠ g13) := ⟨by have := blk_lt X_g7.out; omega⟩; have N_g9_g13 : Aside0 (g9 ≠ g13) := ⟨by have := blk_lt X_g9.out; omega⟩; clear q_g5_0 q_g5_1 q_g5_2 q_g5_3 q_g6_0 q_g6_1 q_g6_2 q_g6_3 q_g6_4 q_g7_0 q_g7_1 q_g7_2 q_g7_3 q_g7_4 q_g9_0 q_g9_1 q_g9_2; have n_HB := Aside0.mk (below_step HB.out hb); have n_X_g5 := Aside0.mk (blk_below X_g5.out hb); have n_X_g6 := Aside0.mk (blk_below X_g6.out hb); have n_X_g7 := Aside0.mk (blk_below X_g7.out hb); have n_X_g9 := Aside0.mk (blk_below X_g9.out hb); clear HB X_g5 X_g6 X_g7 X_g9; have HB := n_HB; have X_g5 := n_X_g5; have X_g6 := n_X_g6; have X_g7 := n_X_g7; have X_g9 := n_X_g9; clear n_HB n_X_g5 n_X_g6 n_X_g7 n_X_g9; have q_g5_0 := (blk_cell X_g5.out 0).trans rfl; have q_g5_1 := (blk_cell X_g5.out 1).trans rfl; have q_g5_2 := (blk_cell X_g5.out 2).trans rfl; have q_g5_3 := (blk_cell X_g5.out 3).trans rfl; have q_g6_0 := (blk_cell X_g6.out 0).trans rfl; have q_g6_1 := (blk_cell X_g6.out 1).trans rfl; have q_g6_2 := (blk_cell X_g6.out 2).trans rfl; have q_g6_3 := (blk_cell X_g6.out 3).trans rfl; have q_g6_4 := (blk_cell X_g6.out 4).trans rfl; have q_g7_0 := (blk_cell X_g7.out 0).trans rfl; have q_g7_1 := (blk_cell X_g7.out 1).trans rfl; have q_g7_2 := (blk_cell X_g7.out 2).trans rfl; have q_g7_3 := (blk_cell X_g7.out 3).trans rfl; have q_g7_4 := (blk_cell X_g7.out 4).trans rfl; have q_g9_0 := (blk_cell X_g9.out 0).trans rfl; have q_g9_1 := (blk_cell X_g9.out 1).trans rfl; have q_g9_2 := (blk_cell X_g9.out 2).trans rfl; have X_g13 := Aside0.mk hbox; clear hb hbox hg)
     | ((with_reducible refine gate_stores (x := .tmp 13) (y := .tmp 49) 35 rfl ?_); refine wpList_store_row rfl 35 (.tmp 13) (.tmp 49) rfl g13 #[.int .i64 a4_0, .bool a4_1, .int .i64 a4_2] rfl rfl 35 _ X_g13.out info35s rfl (by simp [Value.oneCell']) ?_; change wpList _ _ _ _ _ (w_13.setRow g13 #[.int .i64 a4_0, .bool a4_1, .int .i64 a4_2]); clear q_g5_0 q_g5_1 q_g5_2 q_g5_3 q_g6_0 q_g6_1 q_g6_2 q_g6_3 q_g6_4 q_g7_0 q_g7_1 q_g7_2 q_g7_3 q_g7_4 q_g9_0 q_g9_1 q_g9_2; have n_HB := Aside0.mk (below_setRow #[.int .i64 a4_0, .bool a4_1, .int .i64 a4_2] HB.out G_g13_HB.out); have n_X_g5 := Aside0.mk ((setRow_other w_13 g13 g5 #[.int .i64 a4_0, .bool a4_1, .int .i64 a4_2] N_g5_g13.out).trans X_g5.out); have n_X_g6 := Aside0.mk ((setRow_other w_13 g13 g6 #[.int .i64 a4_0, .bool a4_1, .int .i64 a4_2] N_g6_g13.out).trans X_g6.out); have n_X_g7 := Aside0.mk ((setRow_other w_13 g13 g7 #[.int .i64 a4_0, .bool a4_1, .int .i64 a4_2] N_g7_g13.out).trans X_g7.out); have n_X_g9 := Aside0.mk ((setRow_other w_13 g13 g9 #[.int .i64 a4_0, .bool a4_1, .int .i64 a4_2] N_g9_g13.out).trans X_g9.out); have n_X_g13 := Aside0.mk (setRow_heap w_13 g13 _ #[.int .i64 a4_0, .bool a4_1, .int .i64 a4_2] 35 (0, 0) X_g13.out); clear HB X_g5 X_g6 X_g7 X_g9 X_g13; have HB := n_HB; have X_g5 := n_X_g5; have X_g6 := n_X_g6; have X_g7 := n_X_g7; have X_g9 := n_X_g9; have X_g13 := n_X_g13; clear n_HB n_X_g5 n_X_g6 n_X_g7 n_X_g9 n_X_g13; generalize w_13.setRow g13 #[.int .i64 a4_0, .bool a4_1, .int .i64 a4_2] = w_14 at HB X_g5 X_g6 X_g7 X_g9 X_g13 ⊢; have q_g5_0 := (blk_cell X_g5.out 0).trans rfl; have q_g5_1 := (blk_cell X_g5.out 1).trans rfl; have q_g5_2 := (blk_cell X_g5.out 2).trans rfl; have q_g5_3 := (blk_cell X_g5.out 3).trans rfl; have q_g6_0 := (blk_cell X_g6.out 0).trans rfl; have q_g6_1 := (blk_cell X_g6.out 1).trans rfl; have q_g6_2 := (blk_cell X_g6.out 2).trans rfl; have q_g6_3 := (blk_cell X_g6.out 3).trans rfl; have q_g6_4 := (blk_cell X_g6.out 4).trans rfl; have q_g7_0 := (blk_cell X_g7.out 0).trans rfl; have q_g7_1 := (blk_cell X_g7.out 1).trans rfl; have q_g7_2 := (blk_cell X_g7.out 2).trans rfl; have q_g7_3 := (blk_cell X_g7.out 3).trans rfl; have q_g7_4 := (blk_cell X_g7.out 4).trans rfl; have q_g9_0 := (blk_cell X_g9.out 0).trans rfl; have q_g9_1 := (blk_cell X_g9.out 1).trans rfl; have q_g9_2 := (blk_cell X_g9.out 2).trans rfl)
     | (go_at_call 16; with_reducible refine (check_Does.calls a0_0 A0_1 c0_1 l0_1 a0_2 A0_3 c0_3 l0_3 A1_0 c1_0 l1_0 a1_1 a1_2 a1_3 a1_4 A2_0 c2_0 l2_0 a2_1 a2_2 a2_3 a2_4 true _ (Kd.C_below H01.out HB.out) HL.out.1 (Kd.C_below H03.out HB.out) HL.out.2.1 (Kd.C_below H1.out HB.out) HL.out.2.2.1 (Kd.C_below H2.out HB.out) HL.out.2.2.2 HD.out).mono ?_; rintro e w_15 ⟨rfl, hb⟩; clear q_g5_0 q_g5_1 q_g5_2 q_g5_3 q_g6_0 q_g6_1 q_g6_2 q_g6_3 q_g6_4 q_g7_0 q_g7_1 q_g7_2 q_g7_3 q_g7_4 q_g9_0 q_g9_1 q_g9_2; have n_HB := Aside0.mk (below_step HB.out hb); have n_X_g5 := Aside0.mk (blk_below X_g5.out hb); have n_X_g6 := Aside0.mk (blk_below X_g6.out hb); have n_X_g7 := Aside0.mk (blk_below X_g7.out hb); have n_X_g9 := Aside0.mk (blk_below X_g9.out hb); have n_X_g13 := Aside0.mk (blk_below X_g13.out hb); clear HB X_g5 X_g6 X_g7 X_g9 X_g13; have HB := n_HB; have X_g5 := n_X_g5; have X_g6 := n_X_g6; have X_g7 := n_X_g7; have X_g9 := n_X_g9; have X_g13 := n_X_g13; clear n_HB n_X_g5 n_X_g6 n_X_g7 n_X_g9 n_X_g13; have q_g5_0 := (blk_cell X_g5.out 0).trans rfl; have q_g5_1 := (blk_cell X_g5.out 1).trans rfl; have q_g5_2 := (blk_cell X_g5.out 2).trans rfl; have q_g5_3 := (blk_cell X_g5.out 3).trans rfl; have q_g6_0 := (blk_cell X_g6.out 0).trans rfl; have q_g6_1 := (blk_cell X_g6.out 1).trans rfl; have q_g6_2 := (blk_cell X_g6.out 2).trans rfl; have q_g6_3 := (blk_cell X_g6.out 3).trans rfl; have q_g6_4 := (blk_cell X_g6.out 4).trans rfl; have q_g7_0 := (blk_cell X_g7.out 0).trans rfl; have q_g7_1 := (blk_cell X_g7.out 1).trans rfl; have q_g7_2 := (blk_cell X_g7.out 2).trans rfl; have q_g7_3 := (blk_cell X_g7.out 3).trans rfl; have q_g7_4 := (blk_cell X_g7.out 4).trans rfl; have q_g9_0 := (blk_cell X_g9.out 0).trans rfl; have q_g9_1 := (blk_cell X_g9.out 1).trans rfl; have q_g9_2 := (blk_cell X_g9.out 2).trans rfl; clear hb)
     | (go_at_call 10; with_reducible refine (flat_Before.calls a0_0 A0_1 c0_1 l0_1 a0_2 A0_3 c0_3 l0_3 A1_0 c1_0 l1_0 a1_1 a1_2 a1_3 a1_4 A2_0 c2_0 l2_0 a2_1 a2_2 a2_3 a2_4 (N + 1) a4_0 a4_1 a4_2 0 0 false 0 2 _ (Kd.C_below H01.out HB.out) HL.out.1 (Kd.C_below H03.out HB.out) HL.out.2.1 (Kd.C_below H1.out HB.out) HL.out.2.2.1 (Kd.C_below H2.out HB.out) HL.out.2.2.2 (fun es _ e _ x s n => ahead_tot _ (by have := fuelOf_le l1_0; omega) _ e x s n) HB1.out).mono ?_; rintro e w_16 ⟨rfl, hb⟩; clear q_g5_0 q_g5_1 q_g5_2 q_g5_3 q_g6_0 q_g6_1 q_g6_2 q_g6_3 q_g6_4 q_g7_0 q_g7_1 q_g7_2 q_g7_3 q_g7_4 q_g9_0 q_g9_1 q_g9_2; have n_HB := Aside0.mk (below_step HB.out hb); have n_X_g5 := Aside0.mk (blk_below X_g5.out hb); have n_X_g6 := Aside0.mk (blk_below X_g6.out hb); have n_X_g7 := Aside0.mk (blk_below X_g7.out hb); have n_X_g9 := Aside0.mk (blk_below X_g9.out hb); have n_X_g13 := Aside0.mk (blk_below X_g13.out hb); clear HB X_g5 X_g6 X_g7 X_g9 X_g13; have HB := n_HB; have X_g5 := n_X_g5; have X_g6 := n_X_g6; have X_g7 := n_X_g7; have X_g9 := n_X_g9; have X_g13 := n_X_g13; clear n_HB n_X_g5 n_X_g6 n_X_g7 n_X_g9 n_X_g13; have q_g5_0 := (blk_cell X_g5.out 0).trans rfl; have q_g5_1 := (blk_cell X_g5.out 1).trans rfl; have q_g5_2 := (blk_cell X_g5.out 2).trans rfl; have q_g5_3 := (blk_cell X_g5.out 3).trans rfl; have q_g6_0 := (blk_cell X_g6.out 0).trans rfl; have q_g6_1 := (blk_cell X_g6.out 1).trans rfl; have q_g6_2 := (blk_cell X_g6.out 2).trans rfl; have q_g6_3 := (blk_cell X_g6.out 3).trans rfl; have q_g6_4 := (blk_cell X_g6.out 4).trans rfl; have q_g7_0 := (blk_cell X_g7.out 0).trans rfl; have q_g7_1 := (blk_cell X_g7.out 1).trans rfl; have q_g7_2 := (blk_cell X_g7.out 2).trans rfl; have q_g7_3 := (blk_cell X_g7.out 3).trans rfl; have q_g7_4 := (blk_cell X_g7.out 4).trans rfl; have q_g9_0 := (blk_cell X_g9.out 0).trans rfl; have q_g9_1 := (blk_cell X_g9.out 1).trans rfl; have q_g9_2 := (blk_cell X_g9.out 2).trans rfl; clear hb)
     | ((with_reducible refine gate_dst (N := 16) rfl ?_); refine box_event ?hg (N := 16) ?hd (cs := #[.int .i64 0, .bool false, .int .i64 0]) (t := 35) ?hr ?_; (case hd => rfl); (case hg => rfl); (case hr => first | (go_simp; done) | (go_simp; rfl)); intro g16 hg w_17 hbox hb; have G_g16_HB : Aside0 (w.heap.size ≤ g16) := ⟨by have := HB.out.size; omega⟩; have N_g5_g16 : Aside0 (g5 ≠ g16) := ⟨by have := blk_lt X_g5.out; omega⟩; have N_g6_g16 : Aside0 (g6 ≠ g16) := ⟨by have := blk_lt X_g6.out; omega⟩; have N_g7_g16 : Aside0 (g7 ≠ g16) := ⟨by have := blk_lt X_g7.out; omega⟩; have N_g9_g16 : Aside0 (g9 ≠ g16) := ⟨by have := blk_lt X_g9.out; omega⟩; have N_g13_g16 : Aside0 (g13 ≠ g16) := ⟨by have := blk_lt X_g13.out; omega⟩; clear q_g5_0 q_g5_1 q_g5_2 q_g5_3 q_g6_0 q_g6_1 q_g6_2 q_g6_3 q_g6_4 q_g7_0 q_g7_1 q_g7_2 q_g7_3 q_g7_4 q_g9_0 q_g9_1 q_g9_2; have n_HB := Aside0.mk (below_step HB.out hb); have n_X_g5 := Aside0.mk (blk_below X_g5.out hb); have n_X_g6 := Aside0.mk (blk_below X_g6.out hb); have n_X_g7 := Aside0.mk (blk_below X_g7.out hb); have n_X_g9 := Aside0.mk (blk_below X_g9.out hb); have n_X_g13 := Aside0.mk (blk_below X_g13.out hb); clear HB X_g5 X_g6 X_g7 X_g9 X_g13; have HB := n_HB; have X_g5 := n_X_g5; have X_g6 := n_X_g6; have X_g7 := n_X_g7; have X_g9 := n_X_g9; have X_g13 := n_X_g13; clear n_HB n_X_g5 n_X_g6 n_X_g7 n_X_g9 n_X_g13; have q_g5_0 := (blk_cell X_g5.out 0).trans rfl; have q_g5_1 := (blk_cell X_g5.out 1).trans rfl; have q_g5_2 := (blk_cell X_g5.out 2).trans rfl; have q_g5_3 := (blk_cell X_g5.out 3).trans rfl; have q_g6_0 := (blk_cell X_g6.out 0).trans rfl; have q_g6_1 := (blk_cell X_g6.out 1).trans rfl; have q_g6_2 := (blk_cell X_g6.out 2).trans rfl; have q_g6_3 := (blk_cell X_g6.out 3).trans rfl; have q_g6_4 := (blk_cell X_g6.out 4).trans rfl; have q_g7_0 := (blk_cell X_g7.out 0).trans rfl; have q_g7_1 := (blk_cell X_g7.out 1).trans rfl; have q_g7_2 := (blk_cell X_g7.out 2).trans rfl; have q_g7_3 := (blk_cell X_g7.out 3).trans rfl; have q_g7_4 := (blk_cell X_g7.out 4).trans rfl; have q_g9_0 := (blk_cell X_g9.out 0).trans rfl; have q_g9_1 := (blk_cell X_g9.out 1).trans rfl; have q_g9_2 := (blk_cell X_g9.out 2).trans rfl; have X_g16 := Aside0.mk hbox; clear hb hbox hg)
     | ((with_reducible refine gate_stores (x := .tmp 16) (y := .tmp 71) 35 rfl ?_); refine wpList_store_row rfl 35 (.tmp 16) (.tmp 71) rfl g16 #[.int .i64 0, .bool false, .int .i64 0] rfl rfl 35 _ X_g16.out info35s rfl (by simp [Value.oneCell']) ?_; change wpList _ _ _ _ _ (w_17.setRow g16 #[.int .i64 0, .bool false, .int .i64 0]); clear q_g5_0 q_g5_1 q_g5_2 q_g5_3 q_g6_0 q_g6_1 q_g6_2 q_g6_3 q_g6_4 q_g7_0 q_g7_1 q_g7_2 q_g7_3 q_g7_4 q_g9_0 q_g9_1 q_g9_2; have n_HB := Aside0.mk (below_setRow #[.int .i64 0, .bool false, .int .i64 0] HB.out G_g16_HB.out); have n_X_g5 := Aside0.mk ((setRow_other w_17 g16 g5 #[.int .i64 0, .bool false, .int .i64 0] N_g5_g16.out).trans X_g5.out); have n_X_g6 := Aside0.mk ((setRow_other w_17 g16 g6 #[.int .i64 0, .bool false, .int .i64 0] N_g6_g16.out).trans X_g6.out); have n_X_g7 := Aside0.mk ((setRow_other w_17 g16 g7 #[.int .i64 0, .bool false, .int .i64 0] N_g7_g16.out).trans X_g7.out); have n_X_g9 := Aside0.mk ((setRow_other w_17 g16 g9 #[.int .i64 0, .bool false, .int .i64 0] N_g9_g16.out).trans X_g9.out); have n_X_g13 := Aside0.mk ((setRow_other w_17 g16 g13 #[.int .i64 0, .bool false, .int .i64 0] N_g13_g16.out).trans X_g13.out); have n_X_g16 := Aside0.mk (setRow_heap w_17 g16 _ #[.int .i64 0, .bool false, .int .i64 0] 35 (0, 0) X_g16.out); clear HB X_g5 X_g6 X_g7 X_g9 X_g13 X_g16; have HB := n_HB; have X_g5 := n_X_g5; have X_g6 := n_X_g6; have X_g7 := n_X_g7; have X_g9 := n_X_g9; have X_g13 := n_X_g13; have X_g16 := n_X_g16; clear n_HB n_X_g5 n_X_g6 n_X_g7 n_X_g9 n_X_g13 n_X_g16; generalize w_17.setRow g16 #[.int .i64 0, .bool false, .int .i64 0] = w_18 at HB X_g5 X_g6 X_g7 X_g9 X_g13 X_g16 ⊢; have q_g5_0 := (blk_cell X_g5.out 0).trans rfl; have q_g5_1 := (blk_cell X_g5.out 1).trans rfl; have q_g5_2 := (blk_cell X_g5.out 2).trans rfl; have q_g5_3 := (blk_cell X_g5.out 3).trans rfl; have q_g6_0 := (blk_cell X_g6.out 0).trans rfl; have q_g6_1 := (blk_cell X_g6.out 1).trans rfl; have q_g6_2 := (blk_cell X_g6.out 2).trans rfl; have q_g6_3 := (blk_cell X_g6.out 3).trans rfl; have q_g6_4 := (blk_cell X_g6.out 4).trans rfl; have q_g7_0 := (blk_cell X_g7.out 0).trans rfl; have q_g7_1 := (blk_cell X_g7.out 1).trans rfl; have q_g7_2 := (blk_cell X_g7.out 2).trans rfl; have q_g7_3 := (blk_cell X_g7.out 3).trans rfl; have q_g7_4 := (blk_cell X_g7.out 4).trans rfl; have q_g9_0 := (blk_cell X_g9.out 0).trans rfl; have q_g9_1 := (blk_cell X_g9.out 1).trans rfl; have q_g9_2 := (blk_cell X_g9.out 2).trans rfl; clear X_g16)
     | (go_at_call 10; with_reducible refine (flat_Before.calls a0_0 A0_1 c0_1 l0_1 a0_2 A0_3 c0_3 l0_3 A1_0 c1_0 l1_0 a1_1 a1_2 a1_3 a1_4 A2_0 c2_0 l2_0 a2_1 a2_2 a2_3 a2_4 (-1) a4_0 a4_1 a4_2 0 0 false 0 2 _ (Kd.C_below H01.out HB.out) HL.out.1 (Kd.C_below H03.out HB.out) HL.out.2.1 (Kd.C_below H1.out HB.out) HL.out.2.2.1 (Kd.C_below H2.out HB.out) HL.out.2.2.2 (fun es _ e _ x s n => ahead_tot _ (by have := fuelOf_le l1_0; omega) _ e x s n) HB2.out).mono ?_; rintro e w_19 ⟨rfl, hb⟩; clear q_g5_0 q_g5_1 q_g5_2 q_g5_3 q_g6_0 q_g6_1 q_g6_2 q_g6_3 q_g6_4 q_g7_0 q_g7_1 q_g7_2 q_g7_3 q_g7_4 q_g9_0 q_g9_1 q_g9_2; have n_HB := Aside0.mk (below_step HB.out hb); have n_X_g5 := Aside0.mk (blk_below X_g5.out hb); have n_X_g6 := Aside0.mk (blk_below X_g6.out hb); have n_X_g7 := Aside0.mk (blk_below X_g7.out hb); have n_X_g9 := Aside0.mk (blk_below X_g9.out hb); have n_X_g13 := Aside0.mk (blk_below X_g13.out hb); clear HB X_g5 X_g6 X_g7 X_g9 X_g13; have HB := n_HB; have X_g5 := n_X_g5; have X_g6 := n_X_g6; have X_g7 := n_X_g7; have X_g9 := n_X_g9; have X_g13 := n_X_g13; clear n_HB n_X_g5 n_X_g6 n_X_g7 n_X_g9 n_X_g13; have q_g5_0 := (blk_cell X_g5.out 0).trans rfl; have q_g5_1 := (blk_cell X_g5.out 1).trans rfl; have q_g5_2 := (blk_cell X_g5.out 2).trans rfl; have q_g5_3 := (blk_cell X_g5.out 3).trans rfl; have q_g6_0 := (blk_cell X_g6.out 0).trans rfl; have q_g6_1 := (blk_cell X_g6.out 1).trans rfl; have q_g6_2 := (blk_cell X_g6.out 2).trans rfl; have q_g6_3 := (blk_cell X_g6.out 3).trans rfl; have q_g6_4 := (blk_cell X_g6.out 4).trans rfl; have q_g7_0 := (blk_cell X_g7.out 0).trans rfl; have q_g7_1 := (blk_cell X_g7.out 1).trans rfl; have q_g7_2 := (blk_cell X_g7.out 2).trans rfl; have q_g7_3 := (blk_cell X_g7.out 3).trans rfl; have q_g7_4 := (blk_cell X_g7.out 4).trans rfl; have q_g9_0 := (blk_cell X_g9.out 0).trans rfl; have q_g9_1 := (blk_cell X_g9.out 1).trans rfl; have q_g9_2 := (blk_cell X_g9.out 2).trans rfl; clear hb)
     | ((with_reducible refine gate_dst (N := 19) rfl ?_); refine box_event ?hg (N := 19) ?hd (cs := #[.int .i64 0, .bool false, .int .i64 0]) (t := 35) ?hr ?_; (case hd => rfl); (case hg => rfl); (case hr => first | (go_simp; done) | (go_simp; rfl)); intro g19 hg w_20 hbox hb; have G_g19_HB : Aside0 (w.heap.size ≤ g19) := ⟨by have := HB.out.size; omega⟩; have N_g5_g19 : Aside0 (g5 ≠ g19) := ⟨by have := blk_lt X_g5.out; omega⟩; have N_g6_g19 : Aside0 (g6 ≠ g19) := ⟨by have := blk_lt X_g6.out; omega⟩; have N_g7_g19 : Aside0 (g7 ≠ g19) := ⟨by have := blk_lt X_g7.out; omega⟩; have N_g9_g19 : Aside0 (g9 ≠ g19) := ⟨by have := blk_lt X_g9.out; omega⟩; have N_g13_g19 : Aside0 (g13 ≠ g19) := ⟨by have := blk_lt X_g13.out; omega⟩; clear q_g5_0 q_g5_1 q_g5_2 q_g5_3 q_g6_0 q_g6_1 q_g6_2 q_g6_3 q_g6_4 q_g7_0 q_g7_1 q_g7_2 q_g7_3 q_g7_4 q_g9_0 q_g9_1 q_g9_2; have n_HB := Aside0.mk (below_step HB.out hb); have n_X_g5 := Aside0.mk (blk_below X_g5.out hb); have n_X_g6 := Aside0.mk (blk_below X_g6.out hb); have n_X_g7 := Aside0.mk (blk_below X_g7.out hb); have n_X_g9 := Aside0.mk (blk_below X_g9.out hb); have n_X_g13 := Aside0.mk (blk_below X_g13.out hb); clear HB X_g5 X_g6 X_g7 X_g9 X_g13; have HB := n_HB; have X_g5 := n_X_g5; have X_g6 := n_X_g6; have X_g7 := n_X_g7; have X_g9 := n_X_g9; have X_g13 := n_X_g13; clear n_HB n_X_g5 n_X_g6 n_X_g7 n_X_g9 n_X_g13; have q_g5_0 := (blk_cell X_g5.out 0).trans rfl; have q_g5_1 := (blk_cell X_g5.out 1).trans rfl; have q_g5_2 := (blk_cell X_g5.out 2).trans rfl; have q_g5_3 := (blk_cell X_g5.out 3).trans rfl; have q_g6_0 := (blk_cell X_g6.out 0).trans rfl; have q_g6_1 := (blk_cell X_g6.out 1).trans rfl; have q_g6_2 := (blk_cell X_g6.out 2).trans rfl; have q_g6_3 := (blk_cell X_g6.out 3).trans rfl; have q_g6_4 := (blk_cell X_g6.out 4).trans rfl; have q_g7_0 := (blk_cell X_g7.out 0).trans rfl; have q_g7_1 := (blk_cell X_g7.out 1).trans rfl; have q_g7_2 := (blk_cell X_g7.out 2).trans rfl; have q_g7_3 := (blk_cell X_g7.out 3).trans rfl; have q_g7_4 := (blk_cell X_g7.out 4).trans rfl; have q_g9_0 := (blk_cell X_g9.out 0).trans rfl; have q_g9_1 := (blk_cell X_g9.out 1).trans rfl; have q_g9_2 := (blk_cell X_g9.out 2).trans rfl; have X_g19 := Aside0.mk hbox; clear hb hbox hg)
     | ((with_reducible refine gate_stores (x := .tmp 19) (y := .tmp 80) 35 rfl ?_); refine wpList_store_row rfl 35 (.tmp 19) (.tmp 80) rfl g19 #[.int .i64 0, .bool false, .int .i64 0] rfl rfl 35 _ X_g19.out info35s rfl (by simp [Value.oneCell']) ?_; change wpList _ _ _ _ _ (w_20.setRow g19 #[.int .i64 0, .bool false, .int .i64 0]); clear q_g5_0 q_g5_1 q_g5_2 q_g5_3 q_g6_0 q_g6_1 q_g6_2 q_g6_3 q_g6_4 q_g7_0 q_g7_1 q_g7_2 q_g7_3 q_g7_4 q_g9_0 q_g9_1 q_g9_2; have n_HB := Aside0.mk (below_setRow #[.int .i64 0, .bool false, .int .i64 0] HB.out G_g19_HB.out); have n_X_g5 := Aside0.mk ((setRow_other w_20 g19 g5 #[.int .i64 0, .bool false, .int .i64 0] N_g5_g19.out).trans X_g5.out); have n_X_g6 := Aside0.mk ((setRow_other w_20 g19 g6 #[.int .i64 0, .bool false, .int .i64 0] N_g6_g19.out).trans X_g6.out); have n_X_g7 := Aside0.mk ((setRow_other w_20 g19 g7 #[.int .i64 0, .bool false, .int .i64 0] N_g7_g19.out).trans X_g7.out); have n_X_g9 := Aside0.mk ((setRow_other w_20 g19 g9 #[.int .i64 0, .bool false, .int .i64 0] N_g9_g19.out).trans X_g9.out); have n_X_g13 := Aside0.mk ((setRow_other w_20 g19 g13 #[.int .i64 0, .bool false, .int .i64 0] N_g13_g19.out).trans X_g13.out); have n_X_g19 := Aside0.mk (setRow_heap w_20 g19 _ #[.int .i64 0, .bool false, .int .i64 0] 35 (0, 0) X_g19.out); clear HB X_g5 X_g6 X_g7 X_g9 X_g13 X_g19; have HB := n_HB; have X_g5 := n_X_g5; have X_g6 := n_X_g6; have X_g7 := n_X_g7; have X_g9 := n_X_g9; have X_g13 := n_X_g13; have X_g19 := n_X_g19; clear n_HB n_X_g5 n_X_g6 n_X_g7 n_X_g9 n_X_g13 n_X_g19; generalize w_20.setRow g19 #[.int .i64 0, .bool false, .int .i64 0] = w_21 at HB X_g5 X_g6 X_g7 X_g9 X_g13 X_g19 ⊢; have q_g5_0 := (blk_cell X_g5.out 0).trans rfl; have q_g5_1 := (blk_cell X_g5.out 1).trans rfl; have q_g5_2 := (blk_cell X_g5.out 2).trans rfl; have q_g5_3 := (blk_cell X_g5.out 3).trans rfl; have q_g6_0 := (blk_cell X_g6.out 0).trans rfl; have q_g6_1 := (blk_cell X_g6.out 1).trans rfl; have q_g6_2 := (blk_cell X_g6.out 2).trans rfl; have q_g6_3 := (blk_cell X_g6.out 3).trans rfl; have q_g6_4 := (blk_cell X_g6.out 4).trans rfl; have q_g7_0 := (blk_cell X_g7.out 0).trans rfl; have q_g7_1 := (blk_cell X_g7.out 1).trans rfl; have q_g7_2 := (blk_cell X_g7.out 2).trans rfl; have q_g7_3 := (blk_cell X_g7.out 3).trans rfl; have q_g7_4 := (blk_cell X_g7.out 4).trans rfl; have q_g9_0 := (blk_cell X_g9.out 0).trans rfl; have q_g9_1 := (blk_cell X_g9.out 1).trans rfl; have q_g9_2 := (blk_cell X_g9.out 2).trans rfl; clear X_g19)
     | (go_at_call 17; with_reducible refine (intarsiakit_Pick.calls a3 N pk _ HPK.out).mono ?_; rintro e w_22 ⟨rfl, hdr⟩; have hb := hdr.below; clear hdr; clear q_g5_0 q_g5_1 q_g5_2 q_g5_3 q_g6_0 q_g6_1 q_g6_2 q_g6_3 q_g6_4 q_g7_0 q_g7_1 q_g7_2 q_g7_3 q_g7_4 q_g9_0 q_g9_1 q_g9_2; have n_HB := Aside0.mk (below_step HB.out hb); have n_X_g5 := Aside0.mk (blk_below X_g5.out hb); have n_X_g6 := Aside0.mk (blk_below X_g6.out hb); have n_X_g7 := Aside0.mk (blk_below X_g7.out hb); have n_X_g9 := Aside0.mk (blk_below X_g9.out hb); have n_X_g13 := Aside0.mk (blk_below X_g13.out hb); clear HB X_g5 X_g6 X_g7 X_g9 X_g13; have HB := n_HB; have X_g5 := n_X_g5; have X_g6 := n_X_g6; have X_g7 := n_X_g7; have X_g9 := n_X_g9; have X_g13 := n_X_g13; clear n_HB n_X_g5 n_X_g6 n_X_g7 n_X_g9 n_X_g13; have q_g5_0 := (blk_cell X_g5.out 0).trans rfl; have q_g5_1 := (blk_cell X_g5.out 1).trans rfl; have q_g5_2 := (blk_cell X_g5.out 2).trans rfl; have q_g5_3 := (blk_cell X_g5.out 3).trans rfl; have q_g6_0 := (blk_cell X_g6.out 0).trans rfl; have q_g6_1 := (blk_cell X_g6.out 1).trans rfl; have q_g6_2 := (blk_cell X_g6.out 2).trans rfl; have q_g6_3 := (blk_cell X_g6.out 3).trans rfl; have q_g6_4 := (blk_cell X_g6.out 4).trans rfl; have q_g7_0 := (blk_cell X_g7.out 0).trans rfl; have q_g7_1 := (blk_cell X_g7.out 1).trans rfl; have q_g7_2 := (blk_cell X_g7.out 2).trans rfl; have q_g7_3 := (blk_cell X_g7.out 3).trans rfl; have q_g7_4 := (blk_cell X_g7.out 4).trans rfl; have q_g9_0 := (blk_cell X_g9.out 0).trans rfl; have q_g9_1 := (blk_cell X_g9.out 1).trans rfl; have q_g9_2 := (blk_cell X_g9.out 2).trans rfl; clear hb)
     | (go_at_call 10; with_reducible refine (flat_Before.calls a0_0 A0_1 c0_1 l0_1 a0_2 A0_3 c0_3 l0_3 A1_0 c1_0 l1_0 a1_1 a1_2 a1_3 a1_4 A2_0 c2_0 l2_0 a2_1 a2_2 a2_3 a2_4 (pk) a4_0 a4_1 a4_2 b3 y3 s3 q3 0 _ (Kd.C_below H01.out HB.out) HL.out.1 (Kd.C_below H03.out HB.out) HL.out.2.1 (Kd.C_below H1.out HB.out) HL.out.2.2.1 (Kd.C_below H2.out HB.out) HL.out.2.2.2 (fun es _ e _ x s n => ahead_tot _ (by have := fuelOf_le l1_0; omega) _ e x s n) HBK.out).mono ?_; rintro e w_23 ⟨rfl, hb⟩; clear q_g5_0 q_g5_1 q_g5_2 q_g5_3 q_g6_0 q_g6_1 q_g6_2 q_g6_3 q_g6_4 q_g7_0 q_g7_1 q_g7_2 q_g7_3 q_g7_4 q_g9_0 q_g9_1 q_g9_2; have n_HB := Aside0.mk (below_step HB.out hb); have n_X_g5 := Aside0.mk (blk_below X_g5.out hb); have n_X_g6 := Aside0.mk (blk_below X_g6.out hb); have n_X_g7 := Aside0.mk (blk_below X_g7.out hb); have n_X_g9 := Aside0.mk (blk_below X_g9.out hb); have n_X_g13 := Aside0.mk (blk_below X_g13.out hb); clear HB X_g5 X_g6 X_g7 X_g9 X_g13; have HB := n_HB; have X_g5 := n_X_g5; have X_g6 := n_X_g6; have X_g7 := n_X_g7; have X_g9 := n_X_g9; have X_g13 := n_X_g13; clear n_HB n_X_g5 n_X_g6 n_X_g7 n_X_g9 n_X_g13; have q_g5_0 := (blk_cell X_g5.out 0).trans rfl; have q_g5_1 := (blk_cell X_g5.out 1).trans rfl; have q_g5_2 := (blk_cell X_g5.out 2).trans rfl; have q_g5_3 := (blk_cell X_g5.out 3).trans rfl; have q_g6_0 := (blk_cell X_g6.out 0).trans rfl; have q_g6_1 := (blk_cell X_g6.out 1).trans rfl; have q_g6_2 := (blk_cell X_g6.out 2).trans rfl; have q_g6_3 := (blk_cell X_g6.out 3).trans rfl; have q_g6_4 := (blk_cell X_g6.out 4).trans rfl; have q_g7_0 := (blk_cell X_g7.out 0).trans rfl; have q_g7_1 := (blk_cell X_g7.out 1).trans rfl; have q_g7_2 := (blk_cell X_g7.out 2).trans rfl; have q_g7_3 := (blk_cell X_g7.out 3).trans rfl; have q_g7_4 := (blk_cell X_g7.out 4).trans rfl; have q_g9_0 := (blk_cell X_g9.out 0).trans rfl; have q_g9_1 := (blk_cell X_g9.out 1).trans rfl; have q_g9_2 := (blk_cell X_g9.out 2).trans rfl; clear hb)
     | ((with_reducible refine gate_dst (N := 23) rfl ?_); refine box_event ?hg (N := 23) ?hd (cs := #[.int .i64 0, .bool false, .int .i64 0]) (t := 35) ?hr ?_; (case hd => rfl); (case hg => rfl); (case hr => first | (go_simp; done) | (go_simp; rfl)); intro g23 hg w_24 hbox hb; have G_g23_HB : Aside0 (w.heap.size ≤ g23) := ⟨by have := HB.out.size; omega⟩; have N_g5_g23 : Aside0 (g5 ≠ g23) := ⟨by have := blk_lt X_g5.out; omega⟩; have N_g6_g23 : Aside0 (g6 ≠ g23) := ⟨by have := blk_lt X_g6.out; omega⟩; have N_g7_g23 : Aside0 (g7 ≠ g23) := ⟨by have := blk_lt X_g7.out; omega⟩; have N_g9_g23 : Aside0 (g9 ≠ g23) := ⟨by have := blk_lt X_g9.out; omega⟩; have N_g13_g23 : Aside0 (g13 ≠ g23) := ⟨by have := blk_lt X_g13.out; omega⟩; clear q_g5_0 q_g5_1 q_g5_2 q_g5_3 q_g6_0 q_g6_1 q_g6_2 q_g6_3 q_g6_4 q_g7_0 q_g7_1 q_g7_2 q_g7_3 q_g7_4 q_g9_0 q_g9_1 q_g9_2; have n_HB := Aside0.mk (below_step HB.out hb); have n_X_g5 := Aside0.mk (blk_below X_g5.out hb); have n_X_g6 := Aside0.mk (blk_below X_g6.out hb); have n_X_g7 := Aside0.mk (blk_below X_g7.out hb); have n_X_g9 := Aside0.mk (blk_below X_g9.out hb); have n_X_g13 := Aside0.mk (blk_below X_g13.out hb); clear HB X_g5 X_g6 X_g7 X_g9 X_g13; have HB := n_HB; have X_g5 := n_X_g5; have X_g6 := n_X_g6; have X_g7 := n_X_g7; have X_g9 := n_X_g9; have X_g13 := n_X_g13; clear n_HB n_X_g5 n_X_g6 n_X_g7 n_X_g9 n_X_g13; have q_g5_0 := (blk_cell X_g5.out 0).trans rfl; have q_g5_1 := (blk_cell X_g5.out 1).trans rfl; have q_g5_2 := (blk_cell X_g5.out 2).trans rfl; have q_g5_3 := (blk_cell X_g5.out 3).trans rfl; have q_g6_0 := (blk_cell X_g6.out 0).trans rfl; have q_g6_1 := (blk_cell X_g6.out 1).trans rfl; have q_g6_2 := (blk_cell X_g6.out 2).trans rfl; have q_g6_3 := (blk_cell X_g6.out 3).trans rfl; have q_g6_4 := (blk_cell X_g6.out 4).trans rfl; have q_g7_0 := (blk_cell X_g7.out 0).trans rfl; have q_g7_1 := (blk_cell X_g7.out 1).trans rfl; have q_g7_2 := (blk_cell X_g7.out 2).trans rfl; have q_g7_3 := (blk_cell X_g7.out 3).trans rfl; have q_g7_4 := (blk_cell X_g7.out 4).trans rfl; have q_g9_0 := (blk_cell X_g9.out 0).trans rfl; have q_g9_1 := (blk_cell X_g9.out 1).trans rfl; have q_g9_2 := (blk_cell X_g9.out 2).trans rfl; have X_g23 := Aside0.mk hbox; clear hb hbox hg)
     | ((with_reducible refine gate_stores (x := .tmp 23) (y := .tmp 93) 35 rfl ?_); refine wpList_store_row rfl 35 (.tmp 23) (.tmp 93) rfl g23 #[.int .i64 y3, .bool s3, .int .i64 q3] rfl rfl 35 _ X_g23.out info35s rfl (by simp [Value.oneCell']) ?_; change wpList _ _ _ _ _ (w_24.setRow g23 #[.int .i64 y3, .bool s3, .int .i64 q3]); clear q_g5_0 q_g5_1 q_g5_2 q_g5_3 q_g6_0 q_g6_1 q_g6_2 q_g6_3 q_g6_4 q_g7_0 q_g7_1 q_g7_2 q_g7_3 q_g7_4 q_g9_0 q_g9_1 q_g9_2; have n_HB := Aside0.mk (below_setRow #[.int .i64 y3, .bool s3, .int .i64 q3] HB.out G_g23_HB.out); have n_X_g5 := Aside0.mk ((setRow_other w_24 g23 g5 #[.int .i64 y3, .bool s3, .int .i64 q3] N_g5_g23.out).trans X_g5.out); have n_X_g6 := Aside0.mk ((setRow_other w_24 g23 g6 #[.int .i64 y3, .bool s3, .int .i64 q3] N_g6_g23.out).trans X_g6.out); have n_X_g7 := Aside0.mk ((setRow_other w_24 g23 g7 #[.int .i64 y3, .bool s3, .int .i64 q3] N_g7_g23.out).trans X_g7.out); have n_X_g9 := Aside0.mk ((setRow_other w_24 g23 g9 #[.int .i64 y3, .bool s3, .int .i64 q3] N_g9_g23.out).trans X_g9.out); have n_X_g13 := Aside0.mk ((setRow_other w_24 g23 g13 #[.int .i64 y3, .bool s3, .int .i64 q3] N_g13_g23.out).trans X_g13.out); have n_X_g23 := Aside0.mk (setRow_heap w_24 g23 _ #[.int .i64 y3, .bool s3, .int .i64 q3] 35 (0, 0) X_g23.out); clear HB X_g5 X_g6 X_g7 X_g9 X_g13 X_g23; have HB := n_HB; have X_g5 := n_X_g5; have X_g6 := n_X_g6; have X_g7 := n_X_g7; have X_g9 := n_X_g9; have X_g13 := n_X_g13; have X_g23 := n_X_g23; clear n_HB n_X_g5 n_X_g6 n_X_g7 n_X_g9 n_X_g13 n_X_g23; generalize w_24.setRow g23 #[.int .i64 y3, .bool s3, .int .i64 q3] = w_25 at HB X_g5 X_g6 X_g7 X_g9 X_g13 X_g23 ⊢; have q_g5_0 := (blk_cell X_g5.out 0).trans rfl; have q_g5_1 := (blk_cell X_g5.out 1).trans rfl; have q_g5_2 := (blk_cell X_g5.out 2).trans rfl; have q_g5_3 := (blk_cell X_g5.out 3).trans rfl; have q_g6_0 := (blk_cell X_g6.out 0).trans rfl; have q_g6_1 := (blk_cell X_g6.out 1).trans rfl; have q_g6_2 := (blk_cell X_g6.out 2).trans rfl; have q_g6_3 := (blk_cell X_g6.out 3).trans rfl; have q_g6_4 := (blk_cell X_g6.out 4).trans rfl; have q_g7_0 := (blk_cell X_g7.out 0).trans rfl; have q_g7_1 := (blk_cell X_g7.out 1).trans rfl; have q_g7_2 := (blk_cell X_g7.out 2).trans rfl; have q_g7_3 := (blk_cell X_g7.out 3).trans rfl; have q_g7_4 := (blk_cell X_g7.out 4).trans rfl; have q_g9_0 := (blk_cell X_g9.out 0).trans rfl; have q_g9_1 := (blk_cell X_g9.out 1).trans rfl; have q_g9_2 := (blk_cell X_g9.out 2).trans rfl)
     | (go_at_call 10; with_reducible refine (flat_Before.calls a0_0 A0_1 c0_1 l0_1 a0_2 A0_3 c0_3 l0_3 A1_0 c1_0 l1_0 a1_1 a1_2 a1_3 a1_4 A2_0 c2_0 l2_0 a2_1 a2_2 a2_3 a2_4 (pk + 1) a4_0 a4_1 a4_2 b4 y4 s4 q4 0 _ (Kd.C_below H01.out HB.out) HL.out.1 (Kd.C_below H03.out HB.out) HL.out.2.1 (Kd.C_below H1.out HB.out) HL.out.2.2.1 (Kd.C_below H2.out HB.out) HL.out.2.2.2 (fun es _ e _ x s n => ahead_tot _ (by have := fuelOf_le l1_0; omega) _ e x s n) HBL.out).mono ?_; rintro e w_26 ⟨rfl, hb⟩; clear q_g5_0 q_g5_1 q_g5_2 q_g5_3 q_g6_0 q_g6_1 q_g6_2 q_g6_3 q_g6_4 q_g7_0 q_g7_1 q_g7_2 q_g7_3 q_g7_4 q_g9_0 q_g9_1 q_g9_2; have n_HB := Aside0.mk (below_step HB.out hb); have n_X_g5 := Aside0.mk (blk_below X_g5.out hb); have n_X_g6 := Aside0.mk (blk_below X_g6.out hb); have n_X_g7 := Aside0.mk (blk_below X_g7.out hb); have n_X_g9 := Aside0.mk (blk_below X_g9.out hb); have n_X_g13 := Aside0.mk (blk_below X_g13.out hb); have n_X_g23 := Aside0.mk (blk_below X_g23.out hb); clear HB X_g5 X_g6 X_g7 X_g9 X_g13 X_g23; have HB := n_HB; have X_g5 := n_X_g5; have X_g6 := n_X_g6; have X_g7 := n_X_g7; have X_g9 := n_X_g9; have X_g13 := n_X_g13; have X_g23 := n_X_g23; clear n_HB n_X_g5 n_X_g6 n_X_g7 n_X_g9 n_X_g13 n_X_g23; have q_g5_0 := (blk_cell X_g5.out 0).trans rfl; have q_g5_1 := (blk_cell X_g5.out 1).trans rfl; have q_g5_2 := (blk_cell X_g5.out 2).trans rfl; have q_g5_3 := (blk_cell X_g5.out 3).trans rfl; have q_g6_0 := (blk_cell X_g6.out 0).trans rfl; have q_g6_1 := (blk_cell X_g6.out 1).trans rfl; have q_g6_2 := (blk_cell X_g6.out 2).trans rfl; have q_g6_3 := (blk_cell X_g6.out 3).trans rfl; have q_g6_4 := (blk_cell X_g6.out 4).trans rfl; have q_g7_0 := (blk_cell X_g7.out 0).trans rfl; have q_g7_1 := (blk_cell X_g7.out 1).trans rfl; have q_g7_2 := (blk_cell X_g7.out 2).trans rfl; have q_g7_3 := (blk_cell X_g7.out 3).trans rfl; have q_g7_4 := (blk_cell X_g7.out 4).trans rfl; have q_g9_0 := (blk_cell X_g9.out 0).trans rfl; have q_g9_1 := (blk_cell X_g9.out 1).trans rfl; have q_g9_2 := (blk_cell X_g9.out 2).trans rfl; clear hb)
     | ((with_reducible refine gate_dst (N := 26) rfl ?_); refine box_event ?hg (N := 26) ?hd (cs := #[.int .i64 0, .bool false, .int .i64 0]) (t := 35) ?hr ?_; (case hd => rfl); (case hg => rfl); (case hr => first | (go_simp; done) | (go_simp; rfl)); intro g26 hg w_27 hbox hb; have G_g26_HB : Aside0 (w.heap.size ≤ g26) := ⟨by have := HB.out.size; omega⟩; have N_g5_g26 : Aside0 (g5 ≠ g26) := ⟨by have := blk_lt X_g5.out; omega⟩; have N_g6_g26 : Aside0 (g6 ≠ g26) := ⟨by have := blk_lt X_g6.out; omega⟩; have N_g7_g26 : Aside0 (g7 ≠ g26) := ⟨by have := blk_lt X_g7.out; omega⟩; have N_g9_g26 : Aside0 (g9 ≠ g26) := ⟨by have := blk_lt X_g9.out; omega⟩; have N_g13_g26 : Aside0 (g13 ≠ g26) := ⟨by have := blk_lt X_g13.out; omega⟩; have N_g23_g26 : Aside0 (g23 ≠ g26) := ⟨by have := blk_lt X_g23.out; omega⟩; clear q_g5_0 q_g5_1 q_g5_2 q_g5_3 q_g6_0 q_g6_1 q_g6_2 q_g6_3 q_g6_4 q_g7_0 q_g7_1 q_g7_2 q_g7_3 q_g7_4 q_g9_0 q_g9_1 q_g9_2; have n_HB := Aside0.mk (below_step HB.out hb); have n_X_g5 := Aside0.mk (blk_below X_g5.out hb); have n_X_g6 := Aside0.mk (blk_below X_g6.out hb); have n_X_g7 := Aside0.mk (blk_below X_g7.out hb); have n_X_g9 := Aside0.mk (blk_below X_g9.out hb); have n_X_g13 := Aside0.mk (blk_below X_g13.out hb); have n_X_g23 := Aside0.mk (blk_below X_g23.out hb); clear HB X_g5 X_g6 X_g7 X_g9 X_g13 X_g23; have HB := n_HB; have X_g5 := n_X_g5; have X_g6 := n_X_g6; have X_g7 := n_X_g7; have X_g9 := n_X_g9; have X_g13 := n_X_g13; have X_g23 := n_X_g23; clear n_HB n_X_g5 n_X_g6 n_X_g7 n_X_g9 n_X_g13 n_X_g23; have q_g5_0 := (blk_cell X_g5.out 0).trans rfl; have q_g5_1 := (blk_cell X_g5.out 1).trans rfl; have q_g5_2 := (blk_cell X_g5.out 2).trans rfl; have q_g5_3 := (blk_cell X_g5.out 3).trans rfl; have q_g6_0 := (blk_cell X_g6.out 0).trans rfl; have q_g6_1 := (blk_cell X_g6.out 1).trans rfl; have q_g6_2 := (blk_cell X_g6.out 2).trans rfl; have q_g6_3 := (blk_cell X_g6.out 3).trans rfl; have q_g6_4 := (blk_cell X_g6.out 4).trans rfl; have q_g7_0 := (blk_cell X_g7.out 0).trans rfl; have q_g7_1 := (blk_cell X_g7.out 1).trans rfl; have q_g7_2 := (blk_cell X_g7.out 2).trans rfl; have q_g7_3 := (blk_cell X_g7.out 3).trans rfl; have q_g7_4 := (blk_cell X_g7.out 4).trans rfl; have q_g9_0 := (blk_cell X_g9.out 0).trans rfl; have q_g9_1 := (blk_cell X_g9.out 1).trans rfl; have q_g9_2 := (blk_cell X_g9.out 2).trans rfl; have X_g26 := Aside0.mk hbox; clear hb hbox hg)
     | ((with_reducible refine gate_stores (x := .tmp 26) (y := .tmp 104) 35 rfl ?_); refine wpList_store_row rfl 35 (.tmp 26) (.tmp 104) rfl g26 #[.int .i64 y4, .bool s4, .int .i64 q4] rfl rfl 35 _ X_g26.out info35s rfl (by simp [Value.oneCell']) ?_; change wpList _ _ _ _ _ (w_27.setRow g26 #[.int .i64 y4, .bool s4, .int .i64 q4]); clear q_g5_0 q_g5_1 q_g5_2 q_g5_3 q_g6_0 q_g6_1 q_g6_2 q_g6_3 q_g6_4 q_g7_0 q_g7_1 q_g7_2 q_g7_3 q_g7_4 q_g9_0 q_g9_1 q_g9_2; have n_HB := Aside0.mk (below_setRow #[.int .i64 y4, .bool s4, .int .i64 q4] HB.out G_g26_HB.out); have n_X_g5 := Aside0.mk ((setRow_other w_27 g26 g5 #[.int .i64 y4, .bool s4, .int .i64 q4] N_g5_g26.out).trans X_g5.out); have n_X_g6 := Aside0.mk ((setRow_other w_27 g26 g6 #[.int .i64 y4, .bool s4, .int .i64 q4] N_g6_g26.out).trans X_g6.out); have n_X_g7 := Aside0.mk ((setRow_other w_27 g26 g7 #[.int .i64 y4, .bool s4, .int .i64 q4] N_g7_g26.out).trans X_g7.out); have n_X_g9 := Aside0.mk ((setRow_other w_27 g26 g9 #[.int .i64 y4, .bool s4, .int .i64 q4] N_g9_g26.out).trans X_g9.out); have n_X_g13 := Aside0.mk ((setRow_other w_27 g26 g13 #[.int .i64 y4, .bool s4, .int .i64 q4] N_g13_g26.out).trans X_g13.out); have n_X_g23 := Aside0.mk ((setRow_other w_27 g26 g23 #[.int .i64 y4, .bool s4, .int .i64 q4] N_g23_g26.out).trans X_g23.out); have n_X_g26 := Aside0.mk (setRow_heap w_27 g26 _ #[.int .i64 y4, .bool s4, .int .i64 q4] 35 (0, 0) X_g26.out); clear HB X_g5 X_g6 X_g7 X_g9 X_g13 X_g23 X_g26; have HB := n_HB; have X_g5 := n_X_g5; have X_g6 := n_X_g6; have X_g7 := n_X_g7; have X_g9 := n_X_g9; have X_g13 := n_X_g13; have X_g23 := n_X_g23; have X_g26 := n_X_g26; clear n_HB n_X_g5 n_X_g6 n_X_g7 n_X_g9 n_X_g13 n_X_g23 n_X_g26; generalize w_27.setRow g26 #[.int .i64 y4, .bool s4, .int .i64 q4] = w_28 at HB X_g5 X_g6 X_g7 X_g9 X_g13 X_g23 X_g26 ⊢; have q_g5_0 := (blk_cell X_g5.out 0).trans rfl; have q_g5_1 := (blk_cell X_g5.out 1).trans rfl; have q_g5_2 := (blk_cell X_g5.out 2).trans rfl; have q_g5_3 := (blk_cell X_g5.out 3).trans rfl; have q_g6_0 := (blk_cell X_g6.out 0).trans rfl; have q_g6_1 := (blk_cell X_g6.out 1).trans rfl; have q_g6_2 := (blk_cell X_g6.out 2).trans rfl; have q_g6_3 := (blk_cell X_g6.out 3).trans rfl; have q_g6_4 := (blk_cell X_g6.out 4).trans rfl; have q_g7_0 := (blk_cell X_g7.out 0).trans rfl; have q_g7_1 := (blk_cell X_g7.out 1).trans rfl; have q_g7_2 := (blk_cell X_g7.out 2).trans rfl; have q_g7_3 := (blk_cell X_g7.out 3).trans rfl; have q_g7_4 := (blk_cell X_g7.out 4).trans rfl; have q_g9_0 := (blk_cell X_g9.out 0).trans rfl; have q_g9_1 := (blk_cell X_g9.out 1).trans rfl; have q_g9_2 := (blk_cell X_g9.out 2).trans rfl; clear q_g5_0 q_g5_1 q_g5_2 q_g5_3 q_g6_0 q_g6_1 q_g6_2 q_g6_3 q_g6_4 q_g7_0 q_g7_1 q_g7_2 q_g7_3 q_g7_4 q_g9_0 q_g9_1 q_g9_2; have q_g9_0 := (blk_cell X_g9.out 0).trans rfl; have q_g9_1 := (blk_cell X_g9.out 1).trans rfl; have q_g9_2 := (blk_cell X_g9.out 2).trans rfl; have q_g13_0 := (blk_cell X_g13.out 0).trans rfl; have q_g13_1 := (blk_cell X_g13.out 1).trans rfl; have q_g13_2 := (blk_cell X_g13.out 2).trans rfl; have q_g23_0 := (blk_cell X_g23.out 0).trans rfl; have q_g23_1 := (blk_cell X_g23.out 1).trans rfl; have q_g23_2 := (blk_cell X_g23.out 2).trans rfl; have q_g26_0 := (blk_cell X_g26.out 0).trans rfl; have q_g26_1 := (blk_cell X_g26.out 1).trans rfl; have q_g26_2 := (blk_cell X_g26.out 2).trans rfl))
    all_goals (rcases hor3 with rfl | ⟨rfl, rfl, rfl⟩ <;> rcases hor4 with rfl | ⟨rfl, rfl, rfl⟩ <;> first | contradiction | omega | (go_ret; exact ⟨by first | rfl | (simp; done) | (simp_all; done), HB.out⟩))
 clear hK
 have n_HB := Aside0.mk (below_drew1' HB.out)
 have n_X_g5 := Aside0.mk (blk_drew X_g5.out)
 have n_X_g6 := Aside0.mk (blk_drew X_g6.out)
 have n_X_g7 := Aside0.mk (blk_drew X_g7.out)
 have n_X_g9 := Aside0.mk (blk_drew X_g9.out)
 clear HB X_g5 X_g6 X_g7 X_g9
 have HB := n_HB
 have X_g5 := n_X_g5
 have X_g6 := n_X_g6
 have X_g7 := n_X_g7
 have X_g9 := n_X_g9
 clear n_HB n_X_g5 n_X_g6 n_X_g7 n_X_g9
 refine start_ (n := 8) (S := fun w' => w'.cell? ⟨g5, 0, none⟩ = some (.int .i64 a0_0) ∧ w'.cell? ⟨g5, 1, none⟩ = some (.slice A0_1 l0_1.length c0_1) ∧ w'.cell? ⟨g5, 2, none⟩ = some (.int .i64 a0_2) ∧ w'.cell? ⟨g5, 3, none⟩ = some (.slice A0_3 l0_3.length c0_3) ∧ w'.cell? ⟨g6, 0, none⟩ = some (.slice A1_0 l1_0.length c1_0) ∧ w'.cell? ⟨g6, 1, none⟩ = some (.int .i64 a1_1) ∧ w'.cell? ⟨g6, 2, none⟩ = some (.int .i64 a1_2) ∧ w'.cell? ⟨g6, 3, none⟩ = some (.int .i64 a1_3) ∧ w'.cell? ⟨g6, 4, none⟩ = some (.int .i64 a1_4) ∧ w'.cell? ⟨g7, 0, none⟩ = some (.slice A2_0 l2_0.length c2_0) ∧ w'.cell? ⟨g7, 1, none⟩ = some (.int .i64 a2_1) ∧ w'.cell? ⟨g7, 2, none⟩ = some (.int .i64 a2_2) ∧ w'.cell? ⟨g7, 3, none⟩ = some (.int .i64 a2_3) ∧ w'.cell? ⟨g7, 4, none⟩ = some (.int .i64 a2_4)) (ds := []) #[false, false, false, false, false, false, false, false] (by kernel_rfl) rfl rfl (HSS.out _ X_g5.out X_g6.out X_g7.out) (fun hHeld => ?_); refine with_tabW ff3_tab ff3_bits (fun HT_ HW_ => ?_)
 generalize World.drew _ = wd at HB X_g5 X_g6 X_g7 X_g9 hHeld ⊢
 refine take_ (i := 0) (N := some 30) (v := ?_) (a' := ?_) #[true, false, false, false, false, false, false, false] rfl rfl (take_ofW HT_.out HW_.out (by kernel_rfl)) (fun _ _ _ h => h) (Or.inl ⟨by rfl, ?_⟩) hHeld ?_ ?_
 rotate_left
 ·rintro w' ⟨s0, s1, s2, s3, s4, s5, s6, s7, s8, s9, s10, s11, s12, s13⟩
  go_simp
  with_reducible rfl
 rotate_left
 ·simp only [Act.put, lz1, lz2, lz3, i64_w, i32_w]
  rfl
 refine take_ (i := 2) (N := some 32) (v := ?_) (a' := ?_) #[true, false, true, false, false, false, false, false] rfl rfl (take_ofW HT_.out HW_.out (by kernel_rfl)) (fun _ _ _ h => h) (Or.inl ⟨by rfl, ?_⟩) hHeld ?_ ?_
 rotate_left
 ·rintro w' ⟨s0, s1, s2, s3, s4, s5, s6, s7, s8, s9, s10, s11, s12, s13⟩
  go_simp
  with_reducible rfl
 rotate_left
 ·simp only [Act.put, lz1, lz2, lz3, i64_w, i32_w]
  rfl
 refine take_ (i := 3) (N := some 33) (v := ?_) (a' := ?_) #[true, false, true, true, false, false, false, false] rfl rfl (take_ofW HT_.out HW_.out (by kernel_rfl)) (fun _ _ _ h => h) (Or.inl ⟨by rfl, ?_⟩) hHeld ?_ ?_
 rotate_left
 ·rintro w' ⟨s0, s1, s2, s3, s4, s5, s6, s7, s8, s9, s10, s11, s12, s13⟩
  go_simp
  with_reducible rfl
 rotate_left
 ·simp only [Act.put, lz1, lz2, lz3, i64_w, i32_w]
  rfl
 refine two_ (i := 1) (j := 4) (Ni := some 31) (Nj := some 34) #[true, true, true, true, false, false, false, false] #[true, false, true, true, true, false, false, false] rfl rfl rfl rfl (two_of HT_.out (by kernel_rfl)) (by decide) (by decide) (fun K hK => ?_) (fun K hK => ?_)
 ·skip
  refine goes_ Try.func5 (by kernel_rfl) rfl #[.agg #[.int .i64 a0_0, .slice A0_1 l0_1.length c0_1, .int .i64 a0_2, .slice A0_3 l0_3.length c0_3]] (by rfl) rfl rfl (by (try simp only [List.map_toArray, List.map_cons, List.map_nil]); first | done | rfl) ?_
  refine (intarsiakit_MachineOf.calls a0_0 A0_1 c0_1 l0_1 a0_2 A0_3 c0_3 l0_3 mv wd (Kd.C_below H01.out HB.out) HL.out.1 (Kd.C_below H03.out HB.out) HL.out.2.1 HMV.out).mono ?_
  rintro e we1 ⟨rfl, hb⟩
  refine ⟨_, rfl, ?_⟩
  have n_HB := Aside0.mk (below_step HB.out hb)
  have n_X_g5 := Aside0.mk (blk_below X_g5.out hb)
  have n_X_g6 := Aside0.mk (blk_below X_g6.out hb)
  have n_X_g7 := Aside0.mk (blk_below X_g7.out hb)
  have n_X_g9 := Aside0.mk (blk_below X_g9.out hb)
  clear HB X_g5 X_g6 X_g7 X_g9
  have HB := n_HB
  have X_g5 := n_X_g5
  have X_g6 := n_X_g6
  have X_g7 := n_X_g7
  have X_g9 := n_X_g9
  clear n_HB n_X_g5 n_X_g6 n_X_g7 n_X_g9
  clear hb
  refine hK.out _ _ (HSS.out _ X_g5.out X_g6.out X_g7.out) (fun hHeld => ?_)
  clear hK K
  refine norm_ (a' := ?_) ?_ ?_
  rotate_left
  ·show Act.put _ (some 31) _ = _
   simp only [Act.put, lz1, lz2, lz3, i64_w, i32_w]
   rfl
  refine one_ (i := 4) (N := some 34) #[true, true, true, true, true, false, false, false] rfl rfl (one_of HT_.out (by kernel_rfl)) (by decide) (fun K hK => ?_)
  refine lit_step (by rfl) (n := 2) (cs := #[.slice A1_0 l1_0.length c1_0, .int .i64 a1_1, .int .i64 a1_2, .int .i64 a1_3, .int .i64 a1_4, .slice A2_0 l2_0.length c2_0, .int .i64 a2_1, .int .i64 a2_2, .int .i64 a2_3, .int .i64 a2_4]) (e := 31) ?hr ?_
  (case hr => first | (go_simp; done) | (go_simp; rfl))
  intro gb hg we2 hbox hb
  have G_gb_HB : Aside0 (w.heap.size ≤ gb) := ⟨by have := HB.out.size; omega⟩
  have N_g5_gb : Aside0 (g5 ≠ gb) := ⟨by have := blk_lt X_g5.out; omega⟩
  have N_g6_gb : Aside0 (g6 ≠ gb) := ⟨by have := blk_lt X_g6.out; omega⟩
  have N_g7_gb : Aside0 (g7 ≠ gb) := ⟨by have := blk_lt X_g7.out; omega⟩
  have N_g9_gb : Aside0 (g9 ≠ gb) := ⟨by have := blk_lt X_g9.out; omega⟩
  have n_HB := Aside0.mk (below_step HB.out hb)
  have n_X_g5 := Aside0.mk (blk_below X_g5.out hb)
  have n_X_g6 := Aside0.mk (blk_below X_g6.out hb)
  have n_X_g7 := Aside0.mk (blk_below X_g7.out hb)
  have n_X_g9 := Aside0.mk (blk_below X_g9.out hb)
  clear HB X_g5 X_g6 X_g7 X_g9
  have HB := n_HB
  have X_g5 := n_X_g5
  have X_g6 := n_X_g6
  have X_g7 := n_X_g7
  have X_g9 := n_X_g9
  clear n_HB n_X_g5 n_X_g6 n_X_g7 n_X_g9
  have X_gb := Aside0.mk hbox
  clear hb hg hbox
  refine hK.out _ _ (HSS.out _ X_g5.out X_g6.out X_g7.out) (fun hHeld => ?_)
  clear hK K
  refine norm_ (a' := ?_) ?_ ?_
  rotate_left
  ·show Act.put _ (some 34) _ = _
   simp only [Act.put, lz1, lz2, lz3, i64_w, i32_w]
   rfl
  refine one_ (i := 5) (N := some 35) #[true, true, true, true, true, true, false, false] rfl rfl (one_of HT_.out (by kernel_rfl)) (by decide) (fun K hK => ?_)
  refine goes_ Try.func6 (by kernel_rfl) rfl #[.slice (some ⟨gb, 0, none⟩) 2 2, .int .i64 300] (by rfl) rfl rfl (by (try simp only [List.map_toArray, List.map_cons, List.map_nil]); first | done | rfl) ?_
  have hbk : Calls Try.prog 6 #[.slice (some ⟨gb, 0, none⟩) 2 2, .int .i64 300] we2 fun e w' => e = .returned (.int .i64 bv) ∧ Drawn0 we2 w' := intarsiakit_BlocksOf.calls kb (some ⟨gb, 0, none⟩) 2 [⟨l1_0, ⟨a1_1, a1_2, ⟨a1_3, a1_4⟩⟩⟩, ⟨l2_0, ⟨a2_1, a2_2, ⟨a2_3, a2_4⟩⟩⟩] 300 bv we2 (C2_of_blk k31 X_gb.out _ _ [.slice A1_0 l1_0.length c1_0, .int .i64 a1_1, .int .i64 a1_2, .int .i64 a1_3, .int .i64 a1_4] [.slice A2_0 l2_0.length c2_0, .int .i64 a2_1, .int .i64 a2_2, .int .i64 a2_3, .int .i64 a2_4] rfl rfl rfl (k31_mk _ _ HL.out.2.2.1 (Kd.C_below H1.out HB.out)) (k31_mk _ _ HL.out.2.2.2 (Kd.C_below H2.out HB.out))) (Nat.le_refl _) HBV.out
  refine hbk.mono ?_
  clear hbk
  rintro e we3 ⟨rfl, hd⟩
  have hb := hd.below
  clear hd
  refine ⟨_, rfl, ?_⟩
  have n_HB := Aside0.mk (below_step HB.out hb)
  have n_X_g5 := Aside0.mk (blk_below X_g5.out hb)
  have n_X_g6 := Aside0.mk (blk_below X_g6.out hb)
  have n_X_g7 := Aside0.mk (blk_below X_g7.out hb)
  have n_X_g9 := Aside0.mk (blk_below X_g9.out hb)
  have n_X_gb := Aside0.mk (blk_below X_gb.out hb)
  clear HB X_g5 X_g6 X_g7 X_g9 X_gb
  have HB := n_HB
  have X_g5 := n_X_g5
  have X_g6 := n_X_g6
  have X_g7 := n_X_g7
  have X_g9 := n_X_g9
  have X_gb := n_X_gb
  clear n_HB n_X_g5 n_X_g6 n_X_g7 n_X_g9 n_X_gb
  clear hb
  refine hK.out _ _ (HSS.out _ X_g5.out X_g6.out X_g7.out) (fun hHeld => ?_)
  clear hK K
  refine norm_ (a' := ?_) ?_ ?_
  rotate_left
  ·show Act.put _ (some 35) _ = _
   simp only [Act.put, lz1, lz2, lz3, i64_w, i32_w]
   rfl
  refine pure_ (i := 6) (N := some 36) (v := ?_) (a' := ?_) #[true, true, true, true, true, true, true, false] rfl rfl (any_of HT_.out (by kernel_rfl)) (fun _ _ _ h => h) (Or.inl ⟨by rfl, ?_⟩) ?_ ?_
  rotate_left
  ·intro w'
   go_simp
   with_reducible rfl
  rotate_left
  ·simp only [Act.put, lz1, lz2, lz3, i64_w, i32_w]
   rfl
  refine pure_ (i := 7) (N := some 37) (v := ?_) (a' := ?_) #[true, true, true, true, true, true, true, true] rfl rfl (any_of HT_.out (by kernel_rfl)) (fun _ _ _ h => h) (Or.inl ⟨by rfl, ?_⟩) ?_ ?_
  rotate_left
  ·intro w'
   go_simp
   with_reducible rfl
  rotate_left
  ·simp only [Act.put, lz1, lz2, lz3, i64_w, i32_w]
   rfl
  refine done_ (done_of HT_.out (by kernel_rfl)) ?_
  exact ⟨gb, rfl, HB.out, X_g5.out, X_g6.out, X_g7.out, X_g9.out⟩
 ·skip
  refine lit_step (by rfl) (n := 2) (cs := #[.slice A1_0 l1_0.length c1_0, .int .i64 a1_1, .int .i64 a1_2, .int .i64 a1_3, .int .i64 a1_4, .slice A2_0 l2_0.length c2_0, .int .i64 a2_1, .int .i64 a2_2, .int .i64 a2_3, .int .i64 a2_4]) (e := 31) ?hr ?_
  (case hr => first | (go_simp; done) | (go_simp; rfl))
  intro gb hg we1 hbox hb
  have G_gb_HB : Aside0 (w.heap.size ≤ gb) := ⟨by have := HB.out.size; omega⟩
  have N_g5_gb : Aside0 (g5 ≠ gb) := ⟨by have := blk_lt X_g5.out; omega⟩
  have N_g6_gb : Aside0 (g6 ≠ gb) := ⟨by have := blk_lt X_g6.out; omega⟩
  have N_g7_gb : Aside0 (g7 ≠ gb) := ⟨by have := blk_lt X_g7.out; omega⟩
  have N_g9_gb : Aside0 (g9 ≠ gb) := ⟨by have := blk_lt X_g9.out; omega⟩
  have n_HB := Aside0.mk (below_step HB.out hb)
  have n_X_g5 := Aside0.mk (blk_below X_g5.out hb)
  have n_X_g6 := Aside0.mk (blk_below X_g6.out hb)
  have n_X_g7 := Aside0.mk (blk_below X_g7.out hb)
  have n_X_g9 := Aside0.mk (blk_below X_g9.out hb)
  clear HB X_g5 X_g6 X_g7 X_g9
  have HB := n_HB
  have X_g5 := n_X_g5
  have X_g6 := n_X_g6
  have X_g7 := n_X_g7
  have X_g9 := n_X_g9
  clear n_HB n_X_g5 n_X_g6 n_X_g7 n_X_g9
  have X_gb := Aside0.mk hbox
  clear hb hg hbox
  refine hK.out _ _ (HSS.out _ X_g5.out X_g6.out X_g7.out) (fun hHeld => ?_)
  clear hK K
  refine norm_ (a' := ?_) ?_ ?_
  rotate_left
  ·show Act.put _ (some 34) _ = _
   simp only [Act.put, lz1, lz2, lz3, i64_w, i32_w]
   rfl
  refine one_ (i := 1) (N := some 31) #[true, true, true, true, true, false, false, false] rfl rfl (one_of HT_.out (by kernel_rfl)) (by decide) (fun K hK => ?_)
  refine goes_ Try.func5 (by kernel_rfl) rfl #[.agg #[.int .i64 a0_0, .slice A0_1 l0_1.length c0_1, .int .i64 a0_2, .slice A0_3 l0_3.length c0_3]] (by rfl) rfl rfl (by (try simp only [List.map_toArray, List.map_cons, List.map_nil]); first | done | rfl) ?_
  refine (intarsiakit_MachineOf.calls a0_0 A0_1 c0_1 l0_1 a0_2 A0_3 c0_3 l0_3 mv we1 (Kd.C_below H01.out HB.out) HL.out.1 (Kd.C_below H03.out HB.out) HL.out.2.1 HMV.out).mono ?_
  rintro e we2 ⟨rfl, hb⟩
  refine ⟨_, rfl, ?_⟩
  have n_HB := Aside0.mk (below_step HB.out hb)
  have n_X_g5 := Aside0.mk (blk_below X_g5.out hb)
  have n_X_g6 := Aside0.mk (blk_below X_g6.out hb)
  have n_X_g7 := Aside0.mk (blk_below X_g7.out hb)
  have n_X_g9 := Aside0.mk (blk_below X_g9.out hb)
  have n_X_gb := Aside0.mk (blk_below X_gb.out hb)
  clear HB X_g5 X_g6 X_g7 X_g9 X_gb
  have HB := n_HB
  have X_g5 := n_X_g5
  have X_g6 := n_X_g6
  have X_g7 := n_X_g7
  have X_g9 := n_X_g9
  have X_gb := n_X_gb
  clear n_HB n_X_g5 n_X_g6 n_X_g7 n_X_g9 n_X_gb
  clear hb
  refine hK.out _ _ (HSS.out _ X_g5.out X_g6.out X_g7.out) (fun hHeld => ?_)
  clear hK K
  refine norm_ (a' := ?_) ?_ ?_
  rotate_left
  ·show Act.put _ (some 31) _ = _
   simp only [Act.put, lz1, lz2, lz3, i64_w, i32_w]
   rfl
  refine one_ (i := 5) (N := some 35) #[true, true, true, true, true, true, false, false] rfl rfl (one_of HT_.out (by kernel_rfl)) (by decide) (fun K hK => ?_)
  refine goes_ Try.func6 (by kernel_rfl) rfl #[.slice (some ⟨gb, 0, none⟩) 2 2, .int .i64 300] (by rfl) rfl rfl (by (try simp only [List.map_toArray, List.map_cons, List.map_nil]); first | done | rfl) ?_
  have hbk : Calls Try.prog 6 #[.slice (some ⟨gb, 0, none⟩) 2 2, .int .i64 300] we2 fun e w' => e = .returned (.int .i64 bv) ∧ Drawn0 we2 w' := intarsiakit_BlocksOf.calls kb (some ⟨gb, 0, none⟩) 2 [⟨l1_0, ⟨a1_1, a1_2, ⟨a1_3, a1_4⟩⟩⟩, ⟨l2_0, ⟨a2_1, a2_2, ⟨a2_3, a2_4⟩⟩⟩] 300 bv we2 (C2_of_blk k31 X_gb.out _ _ [.slice A1_0 l1_0.length c1_0, .int .i64 a1_1, .int .i64 a1_2, .int .i64 a1_3, .int .i64 a1_4] [.slice A2_0 l2_0.length c2_0, .int .i64 a2_1, .int .i64 a2_2, .int .i64 a2_3, .int .i64 a2_4] rfl rfl rfl (k31_mk _ _ HL.out.2.2.1 (Kd.C_below H1.out HB.out)) (k31_mk _ _ HL.out.2.2.2 (Kd.C_below H2.out HB.out))) (Nat.le_refl _) HBV.out
  refine hbk.mono ?_
  clear hbk
  rintro e we3 ⟨rfl, hd⟩
  have hb := hd.below
  clear hd
  refine ⟨_, rfl, ?_⟩
  have n_HB := Aside0.mk (below_step HB.out hb)
  have n_X_g5 := Aside0.mk (blk_below X_g5.out hb)
  have n_X_g6 := Aside0.mk (blk_below X_g6.out hb)
  have n_X_g7 := Aside0.mk (blk_below X_g7.out hb)
  have n_X_g9 := Aside0.mk (blk_below X_g9.out hb)
  have n_X_gb := Aside0.mk (blk_below X_gb.out hb)
  clear HB X_g5 X_g6 X_g7 X_g9 X_gb
  have HB := n_HB
  have X_g5 := n_X_g5
  have X_g6 := n_X_g6
  have X_g7 := n_X_g7
  have X_g9 := n_X_g9
  have X_gb := n_X_gb
  clear n_HB n_X_g5 n_X_g6 n_X_g7 n_X_g9 n_X_gb
  clear hb
  refine hK.out _ _ (HSS.out _ X_g5.out X_g6.out X_g7.out) (fun hHeld => ?_)
  clear hK K
  refine norm_ (a' := ?_) ?_ ?_
  rotate_left
  ·show Act.put _ (some 35) _ = _
   simp only [Act.put, lz1, lz2, lz3, i64_w, i32_w]
   rfl
  refine pure_ (i := 6) (N := some 36) (v := ?_) (a' := ?_) #[true, true, true, true, true, true, true, false] rfl rfl (any_of HT_.out (by kernel_rfl)) (fun _ _ _ h => h) (Or.inl ⟨by rfl, ?_⟩) ?_ ?_
  rotate_left
  ·intro w'
   go_simp
   with_reducible rfl
  rotate_left
  ·simp only [Act.put, lz1, lz2, lz3, i64_w, i32_w]
   rfl
  refine pure_ (i := 7) (N := some 37) (v := ?_) (a' := ?_) #[true, true, true, true, true, true, true, true] rfl rfl (any_of HT_.out (by kernel_rfl)) (fun _ _ _ h => h) (Or.inl ⟨by rfl, ?_⟩) ?_ ?_
  rotate_left
  ·intro w'
   go_simp
   with_reducible rfl
  rotate_left
  ·simp only [Act.put, lz1, lz2, lz3, i64_w, i32_w]
   rfl
  refine done_ (done_of HT_.out (by kernel_rfl)) ?_
  exact ⟨gb, rfl, HB.out, X_g5.out, X_g6.out, X_g7.out, X_g9.out⟩
end Go.Proofs.Ytdlgkmnloijnbaa.Q
