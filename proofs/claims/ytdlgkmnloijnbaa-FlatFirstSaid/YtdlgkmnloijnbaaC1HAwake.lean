/- intarsialaw30.awake: true. -/
import Derived.Test.YtdlgkmnloijnbaaC1HTot
set_option linter.unusedVariables false
set_option linter.unusedSimpArgs false
namespace Go.Proofs.Ytdlgkmnloijnbaa.Q
open Go.RowKit Go.Proofs.YtdlgkmnloijnbaaW.PrintWords Go.Proofs.YtdlgkmnloijnbaaW.PrintLast Go.Proofs.YtdlgkmnloijnbaaW.PrintMore
def awS : List S56 := [⟨1, 5, 0, 0, 0, 0, [], 0⟩]
def awT : List S56 := [⟨1, 0, 0, 0, 0, 0, [], 0⟩, ⟨15, 0, 1, 0, 0, 0, [], 0⟩]
theorem aw_ev : flat_Events.f 2 [] 0 [] awS 4 0 0 0 awT 4 0 0 0 = some 3 := by kernel_rfl
theorem aw_1 : flat_Before.f 2 [] 0 [] awS 4 0 0 0 awT 4 0 0 0 2 5 false 0 = some (2, 0, false, 0, 0) := by kernel_rfl
theorem aw_2 : flat_Before.f 2 [] 0 [] awS 4 0 0 0 awT 4 0 0 0 1 5 false 0 = some (1, 0, false, 0, 0) := by kernel_rfl
theorem aw_3 : flat_Before.f 2 [] 0 [] awS 4 0 0 0 awT 4 0 0 0 1 4 false 1 = some (3, 4, false, 1, 0) := by kernel_rfl
theorem eqA35 (d : Nat) (w : World) (x0 y0 : Int) (x1 y1 : Bool) (x2 y2 : Int) :
  (Op.equalIn (d + 4) 35 (.agg #[.int .i64 x0, .bool x1, .int .i64 x2]) (.agg #[.int .i64 y0, .bool y1, .int .i64 y2])).run Try.prog w = .ok (x0 == y0 && (x1 == y1 && (x2 == y2))) w := by
 refine eqA_of Try.underlying35 (by kernel_rfl) ?_
 refine eqf_cons (by rfl) (by first | (go_simp; done) | (go_simp; rfl)) (by first | (go_simp; done) | (go_simp; rfl)) (by go_simp) ?_
 exact eqf_last (by rfl) (by first | (go_simp; done) | (go_simp; rfl)) (by first | (go_simp; done) | (go_simp; rfl)) (eqA33 _ _ _ _ _ _)
theorem info24s : (Try.prog.info? 24).map (·.size) = some 4 := by kernel_rfl
theorem info29s : (Try.prog.info? 29).map (·.size) = some 4 := by kernel_rfl
theorem info31s : (Try.prog.info? 31).map (·.size) = some 5 := by kernel_rfl
theorem grown_below {W W' : World} (h : W.grownBy W' none) : Below W.heap.size W W' := (Below.refl _ W).grown h (Nat.le_refl _) (fun k e => by cases e)
def aw6_T : Bool × List (List Nat × List Nat) := (true, [([], []), ([], []), ([], []), ([], []), ([0, 1, 2, 3, 3], [0, 1, 2, 3]), ([4], [4]), ([5], [5]), ([5], [5]), ([5], [5]), ([], []), ([6, 4, 0, 1, 2, 3, 4, 5, 6, 9], [6]), ([9, 7, 10, 0, 1, 2, 3, 4, 5, 6, 7, 9, 10], [7, 9]), ([8, 11, 0, 1, 2, 3, 4, 5, 6, 7, 8, 9, 10, 11], [8])])
def aw6_B : List Nat := [0, 0, 0, 0, 15, 31, 63, 63, 63, 0, 639, 1791, 4095]
theorem aw6_tab : rtab .any (opsOf Try.f7 6) = aw6_T := by kernel_rfl
theorem aw6_bits : waitsOk aw6_T.2 aw6_B = true := by kernel_rfl
def aw7_T : Bool × List (List Nat × List Nat) := (true, [([], []), ([], []), ([], []), ([], []), ([0, 1, 2, 3, 3], [0, 1, 2, 3]), ([4], [4]), ([5], [5]), ([5], [5]), ([5], [5]), ([], []), ([6, 4, 0, 1, 2, 3, 4, 5, 6, 9], [6]), ([9, 7, 10, 0, 1, 2, 3, 4, 5, 6, 7, 9, 10], [7, 9]), ([8, 11, 0, 1, 2, 3, 4, 5, 6, 7, 8, 9, 10, 11], [8])])
def aw7_B : List Nat := [0, 0, 0, 0, 15, 31, 63, 63, 63, 0, 639, 1791, 4095]
theorem aw7_tab : rtab .any (opsOf Try.f7 7) = aw7_T := by kernel_rfl
theorem aw7_bits : waitsOk aw7_T.2 aw7_B = true := by kernel_rfl
def aw8_T : Bool × List (List Nat × List Nat) := (true, [([], []), ([], []), ([], []), ([], []), ([0, 1, 2, 3, 3], [0, 1, 2, 3]), ([4], [4]), ([5], [5]), ([5], [5]), ([5], [5]), ([], []), ([6, 4, 0, 1, 2, 3, 4, 5, 6, 9], [6]), ([9, 7, 10, 0, 1, 2, 3, 4, 5, 6, 7, 9, 10], [7, 9]), ([8, 11, 0, 1, 2, 3, 4, 5, 6, 7, 8, 9, 10, 11], [8])])
def aw8_B : List Nat := [0, 0, 0, 0, 15, 31, 63, 63, 63, 0, 639, 1791, 4095]
theorem aw8_tab : rtab .any (opsOf Try.f7 8) = aw8_T := by kernel_rfl
theorem aw8_bits : waitsOk aw8_T.2 aw8_B = true := by kernel_rfl
attribute [local go_sem high] eqA35
set_option maxHeartbeats 3200000 in
set_option maxRecDepth 100000 in
theorem intarsialaw30_awake.calls (w : World) : Calls Try.prog 7 #[] w fun e w' => e = .returned (.bool true) ∧ Below w.heap.size w w' := by
 have HB := Aside0.mk (Below.refl w.heap.size w)
 go_enter Try.func7, Try.ntmps7
 go_wp2_with (first
  | ((with_reducible refine gate_dst (N := 1) rfl ?_); refine box_event ?hg (N := 1) ?hd (cs := #[.int .i64 0, .slice none 0 0, .int .i64 0, .slice none 0 0]) (t := 24) ?hr ?_; (case hd => rfl); (case hg => rfl); (case hr => first | (go_simp; done) | (go_simp; rfl)); intro g1 hg w_1 hbox hb; have G_g1_HB : Aside0 (w.heap.size ≤ g1) := ⟨by have := HB.out.size; omega⟩; have n_HB := Aside0.mk (below_step HB.out hb); clear HB; have HB := n_HB; clear n_HB; have X_g1 := Aside0.mk hbox; clear hb hbox hg)
  | ((with_reducible refine gate_stores (x := .tmp 1) (y := .tmp 15) 24 rfl ?_); refine wpList_store_row rfl 24 (.tmp 1) (.tmp 15) rfl g1 #[.int .i64 2, .slice none 0 0, .int .i64 0, .slice none 0 0] rfl rfl 24 _ X_g1.out info24s rfl (by simp [Value.oneCell']) ?_; change wpList _ _ _ _ _ (w_1.setRow g1 #[.int .i64 2, .slice none 0 0, .int .i64 0, .slice none 0 0]); have n_HB := Aside0.mk (below_setRow #[.int .i64 2, .slice none 0 0, .int .i64 0, .slice none 0 0] HB.out G_g1_HB.out); have n_X_g1 := Aside0.mk (setRow_heap w_1 g1 _ #[.int .i64 2, .slice none 0 0, .int .i64 0, .slice none 0 0] 24 (0, 0) X_g1.out); clear HB X_g1; have HB := n_HB; have X_g1 := n_X_g1; clear n_HB n_X_g1; generalize w_1.setRow g1 #[.int .i64 2, .slice none 0 0, .int .i64 0, .slice none 0 0] = w_2 at HB X_g1 ⊢)
  | ((with_reducible refine gate_dst (N := 2) rfl ?_); refine box_event ?hg (N := 2) ?hd (cs := #[.int .i64 0, .int .i64 0, .int .i64 0, .int .i64 0]) (t := 29) ?hr ?_; (case hd => rfl); (case hg => rfl); (case hr => first | (go_simp; done) | (go_simp; rfl)); intro g2 hg w_3 hbox hb; have G_g2_HB : Aside0 (w.heap.size ≤ g2) := ⟨by have := HB.out.size; omega⟩; have N_g1_g2 : Aside0 (g1 ≠ g2) := ⟨by have := blk_lt X_g1.out; omega⟩; have n_HB := Aside0.mk (below_step HB.out hb); have n_X_g1 := Aside0.mk (blk_below X_g1.out hb); clear HB X_g1; have HB := n_HB; have X_g1 := n_X_g1; clear n_HB n_X_g1; have X_g2 := Aside0.mk hbox; clear hb hbox hg)
  | ((with_reducible refine gate_stores (x := .tmp 2) (y := .tmp 16) 29 rfl ?_); refine wpList_store_row rfl 29 (.tmp 2) (.tmp 16) rfl g2 #[.int .i64 4, .int .i64 0, .int .i64 0, .int .i64 0] rfl rfl 29 _ X_g2.out info29s rfl (by simp [Value.oneCell']) ?_; change wpList _ _ _ _ _ (w_3.setRow g2 #[.int .i64 4, .int .i64 0, .int .i64 0, .int .i64 0]); have n_HB := Aside0.mk (below_setRow #[.int .i64 4, .int .i64 0, .int .i64 0, .int .i64 0] HB.out G_g2_HB.out); have n_X_g1 := Aside0.mk ((setRow_other w_3 g2 g1 #[.int .i64 4, .int .i64 0, .int .i64 0, .int .i64 0] N_g1_g2.out).trans X_g1.out); have n_X_g2 := Aside0.mk (setRow_heap w_3 g2 _ #[.int .i64 4, .int .i64 0, .int .i64 0, .int .i64 0] 29 (0, 0) X_g2.out); clear HB X_g1 X_g2; have HB := n_HB; have X_g1 := n_X_g1; have X_g2 := n_X_g2; clear n_HB n_X_g1 n_X_g2; generalize w_3.setRow g2 #[.int .i64 4, .int .i64 0, .int .i64 0, .int .i64 0] = w_4 at HB X_g1 X_g2 ⊢; have q_g2_0 := (blk_cell X_g2.out 0).trans rfl; have q_g2_1 := (blk_cell X_g2.out 1).trans rfl; have q_g2_2 := (blk_cell X_g2.out 2).trans rfl; have q_g2_3 := (blk_cell X_g2.out 3).trans rfl)
  | ((with_reducible refine gate_dst (N := 18) rfl ?_); refine Kd.R_lit k56 (w0 := w) w.heap.size 56 ?hg (N := 18) ?hd (xs := awS) (inner := [.int .i64 1, .int .i64 5, .int .i64 0, .int .i64 0, .int .i64 0, .int .i64 0, .slice none 0 0, .int .i64 0]) (ok := fun _ => True) (okp := fun _ => True) ?hr ?hp (fun _ hk => hk) trivial HB.out HB.out.size (by decide) ?_; (case hd => rfl); (case hg => rfl); (case hr => first | (go_simp; done) | (go_simp; rfl)); (case hp => exact (Reps.snoc (Reps.none _ _) (k56_mkM _ _ _ ⟨1, 5, 0, 0, 0, 0, [], 0⟩ (Kd.R_nil _ _ _ _ _)) rfl)); intro v1 w_5 hR hB hg hn; obtain ⟨As, cs, rfl, hc1, hC1⟩ := Kd.R_reads hR; clear hR hB hn; have hb := grown_below hg; clear q_g2_0 q_g2_1 q_g2_2 q_g2_3; have n_HB := Aside0.mk (below_step HB.out hb); have n_X_g1 := Aside0.mk (blk_below X_g1.out hb); have n_X_g2 := Aside0.mk (blk_below X_g2.out hb); clear HB X_g1 X_g2; have HB := n_HB; have X_g1 := n_X_g1; have X_g2 := n_X_g2; clear n_HB n_X_g1 n_X_g2; have q_g2_0 := (blk_cell X_g2.out 0).trans rfl; have q_g2_1 := (blk_cell X_g2.out 1).trans rfl; have q_g2_2 := (blk_cell X_g2.out 2).trans rfl; have q_g2_3 := (blk_cell X_g2.out 3).trans rfl; have CS := Aside0.mk hC1; have LS := Aside0.mk hc1; have BS := Aside0.mk (Below.refl w_5.heap.size w_5); clear hb hg hc1 hC1)
  | ((with_reducible refine gate_dst (N := 3) rfl ?_); refine box_event ?hg (N := 3) ?hd (cs := #[.slice none 0 0, .int .i64 0, .int .i64 0, .int .i64 0, .int .i64 0]) (t := 31) ?hr ?_; (case hd => rfl); (case hg => rfl); (case hr => first | (go_simp; done) | (go_simp; rfl)); intro g3 hg w_6 hbox hb; have G_g3_HB : Aside0 (w.heap.size ≤ g3) := ⟨by have := HB.out.size; omega⟩; have G_g3_BS : Aside0 (w_5.heap.size ≤ g3) := ⟨by have := BS.out.size; omega⟩; have N_g1_g3 : Aside0 (g1 ≠ g3) := ⟨by have := blk_lt X_g1.out; omega⟩; have N_g2_g3 : Aside0 (g2 ≠ g3) := ⟨by have := blk_lt X_g2.out; omega⟩; clear q_g2_0 q_g2_1 q_g2_2 q_g2_3; have n_HB := Aside0.mk (below_step HB.out hb); have n_BS := Aside0.mk (below_step BS.out hb); have n_X_g1 := Aside0.mk (blk_below X_g1.out hb); have n_X_g2 := Aside0.mk (blk_below X_g2.out hb); clear HB BS X_g1 X_g2; have HB := n_HB; have BS := n_BS; have X_g1 := n_X_g1; have X_g2 := n_X_g2; clear n_HB n_BS n_X_g1 n_X_g2; have q_g2_0 := (blk_cell X_g2.out 0).trans rfl; have q_g2_1 := (blk_cell X_g2.out 1).trans rfl; have q_g2_2 := (blk_cell X_g2.out 2).trans rfl; have q_g2_3 := (blk_cell X_g2.out 3).trans rfl; have X_g3 := Aside0.mk hbox; clear hb hbox hg)
  | ((with_reducible refine gate_stores (x := .tmp 3) (y := .tmp 20) 31 rfl ?_); refine wpList_store_row rfl 31 (.tmp 3) (.tmp 20) rfl g3 #[.slice As awS.length cs, .int .i64 4, .int .i64 0, .int .i64 0, .int .i64 0] rfl rfl 31 _ X_g3.out info31s rfl (by simp [Value.oneCell']) ?_; change wpList _ _ _ _ _ (w_6.setRow g3 #[.slice As awS.length cs, .int .i64 4, .int .i64 0, .int .i64 0, .int .i64 0]); clear q_g2_0 q_g2_1 q_g2_2 q_g2_3; have n_HB := Aside0.mk (below_setRow #[.slice As awS.length cs, .int .i64 4, .int .i64 0, .int .i64 0, .int .i64 0] HB.out G_g3_HB.out); have n_BS := Aside0.mk (below_setRow #[.slice As awS.length cs, .int .i64 4, .int .i64 0, .int .i64 0, .int .i64 0] BS.out G_g3_BS.out); have n_X_g1 := Aside0.mk ((setRow_other w_6 g3 g1 #[.slice As awS.length cs, .int .i64 4, .int .i64 0, .int .i64 0, .int .i64 0] N_g1_g3.out).trans X_g1.out); have n_X_g2 := Aside0.mk ((setRow_other w_6 g3 g2 #[.slice As awS.length cs, .int .i64 4, .int .i64 0, .int .i64 0, .int .i64 0] N_g2_g3.out).trans X_g2.out); have n_X_g3 := Aside0.mk (setRow_heap w_6 g3 _ #[.slice As awS.length cs, .int .i64 4, .int .i64 0, .int .i64 0, .int .i64 0] 31 (0, 0) X_g3.out); clear HB BS X_g1 X_g2 X_g3; have HB := n_HB; have BS := n_BS; have X_g1 := n_X_g1; have X_g2 := n_X_g2; have X_g3 := n_X_g3; clear n_HB n_BS n_X_g1 n_X_g2 n_X_g3; generalize w_6.setRow g3 #[.slice As awS.length cs, .int .i64 4, .int .i64 0, .int .i64 0, .int .i64 0] = w_7 at HB BS X_g1 X_g2 X_g3 ⊢; have q_g2_0 := (blk_cell X_g2.out 0).trans rfl; have q_g2_1 := (blk_cell X_g2.out 1).trans rfl; have q_g2_2 := (blk_cell X_g2.out 2).trans rfl; have q_g2_3 := (blk_cell X_g2.out 3).trans rfl)
  | ((with_reducible refine gate_dst (N := 23) rfl ?_); refine Kd.R_lit k56 (w0 := w) w.heap.size 56 ?hg (N := 23) ?hd (xs := awT) (inner := ([.int .i64 1, .int .i64 0, .int .i64 0, .int .i64 0, .int .i64 0, .int .i64 0, .slice none 0 0, .int .i64 0] ++ [.int .i64 15, .int .i64 0, .int .i64 1, .int .i64 0, .int .i64 0, .int .i64 0, .slice none 0 0, .int .i64 0])) (ok := fun _ => True) (okp := fun _ => True) ?hr ?hp (fun _ hk => hk) trivial HB.out HB.out.size (by decide) ?_; (case hd => rfl); (case hg => rfl); (case hr => first | (go_simp; done) | (go_simp; rfl)); (case hp => exact (Reps.snoc (Reps.snoc (Reps.none _ _) (k56_mkM _ _ _ ⟨1, 0, 0, 0, 0, 0, [], 0⟩ (Kd.R_nil _ _ _ _ _)) rfl) (k56_mkM _ _ _ ⟨15, 0, 1, 0, 0, 0, [], 0⟩ (Kd.R_nil _ _ _ _ _)) rfl)); intro v1 w_8 hR hB hg hn; obtain ⟨At, ct, rfl, hc1, hC1⟩ := Kd.R_reads hR; clear hR hB hn; have hb := grown_below hg; clear q_g2_0 q_g2_1 q_g2_2 q_g2_3; have n_HB := Aside0.mk (below_step HB.out hb); have n_BS := Aside0.mk (below_step BS.out hb); have n_X_g1 := Aside0.mk (blk_below X_g1.out hb); have n_X_g2 := Aside0.mk (blk_below X_g2.out hb); have n_X_g3 := Aside0.mk (blk_below X_g3.out hb); clear HB BS X_g1 X_g2 X_g3; have HB := n_HB; have BS := n_BS; have X_g1 := n_X_g1; have X_g2 := n_X_g2; have X_g3 := n_X_g3; clear n_HB n_BS n_X_g1 n_X_g2 n_X_g3; have q_g2_0 := (blk_cell X_g2.out 0).trans rfl; have q_g2_1 := (blk_cell X_g2.out 1).trans rfl; have q_g2_2 := (blk_cell X_g2.out 2).trans rfl; have q_g2_3 := (blk_cell X_g2.out 3).trans rfl; have CT := Aside0.mk hC1; have LT := Aside0.mk hc1; have BT := Aside0.mk (Below.refl w_8.heap.size w_8); clear hb hg hc1 hC1)
  | ((with_reducible refine gate_dst (N := 4) rfl ?_); refine box_event ?hg (N := 4) ?hd (cs := #[.slice none 0 0, .int .i64 0, .int .i64 0, .int .i64 0, .int .i64 0]) (t := 31) ?hr ?_; (case hd => rfl); (case hg => rfl); (case hr => first | (go_simp; done) | (go_simp; rfl)); intro g4 hg w_9 hbox hb; have G_g4_HB : Aside0 (w.heap.size ≤ g4) := ⟨by have := HB.out.size; omega⟩; have G_g4_BS : Aside0 (w_5.heap.size ≤ g4) := ⟨by have := BS.out.size; omega⟩; have G_g4_BT : Aside0 (w_8.heap.size ≤ g4) := ⟨by have := BT.out.size; omega⟩; have N_g1_g4 : Aside0 (g1 ≠ g4) := ⟨by have := blk_lt X_g1.out; omega⟩; have N_g2_g4 : Aside0 (g2 ≠ g4) := ⟨by have := blk_lt X_g2.out; omega⟩; have N_g3_g4 : Aside0 (g3 ≠ g4) := ⟨by have := blk_lt X_g3.out; omega⟩; clear q_g2_0 q_g2_1 q_g2_2 q_g2_3; have n_HB := Aside0.mk (below_step HB.out hb); have n_BS := Aside0.mk (below_step BS.out hb); have n_BT := Aside0.mk (below_step BT.out hb); have n_X_g1 := Aside0.mk (blk_below X_g1.out hb); have n_X_g2 := Aside0.mk (blk_below X_g2.out hb); have n_X_g3 := Aside0.mk (blk_below X_g3.out hb); clear HB BS BT X_g1 X_g2 X_g3; have HB := n_HB; have BS := n_BS; have BT := n_BT; have X_g1 := n_X_g1; have X_g2 := n_X_g2; have X_g3 := n_X_g3; clear n_HB n_BS n_BT n_X_g1 n_X_g2 n_X_g3; have q_g2_0 := (blk_cell X_g2.out 0).trans rfl; have q_g2_1 := (blk_cell X_g2.out 1).trans rfl; have q_g2_2 := (blk_cell X_g2.out 2).trans rfl; have q_g2_3 := (blk_cell X_g2.out 3).trans rfl; have X_g4 := Aside0.mk hbox; clear hb hbox hg)
  | ((with_reducible refine gate_stores (x := .tmp 4) (y := .tmp 25) 31 rfl ?_); refine wpList_store_row rfl 31 (.tmp 4) (.tmp 25) rfl g4 #[.slice At awT.length ct, .int .i64 4, .int .i64 0, .int .i64 0, .int .i64 0] rfl rfl 31 _ X_g4.out info31s rfl (by simp [Value.oneCell']) ?_; change wpList _ _ _ _ _ (w_9.setRow g4 #[.slice At awT.length ct, .int .i64 4, .int .i64 0, .int .i64 0, .int .i64 0]); clear q_g2_0 q_g2_1 q_g2_2 q_g2_3; have n_HB := Aside0.mk (below_setRow #[.slice At awT.length ct, .int .i64 4, .int .i64 0, .int .i64 0, .int .i64 0] HB.out G_g4_HB.out); have n_BS := Aside0.mk (below_setRow #[.slice At awT.length ct, .int .i64 4, .int .i64 0, .int .i64 0, .int .i64 0] BS.out G_g4_BS.out); have n_BT := Aside0.mk (below_setRow #[.slice At awT.length ct, .int .i64 4, .int .i64 0, .int .i64 0, .int .i64 0] BT.out G_g4_BT.out); have n_X_g1 := Aside0.mk ((setRow_other w_9 g4 g1 #[.slice At awT.length ct, .int .i64 4, .int .i64 0, .int .i64 0, .int .i64 0] N_g1_g4.out).trans X_g1.out); have n_X_g2 := Aside0.mk ((setRow_other w_9 g4 g2 #[.slice At awT.length ct, .int .i64 4, .int .i64 0, .int .i64 0, .int .i64 0] N_g2_g4.out).trans X_g2.out); have n_X_g3 := Aside0.mk ((setRow_other w_9 g4 g3 #[.slice At awT.length ct, .int .i64 4, .int .i64 0, .int .i64 0, .int .i64 0] N_g3_g4.out).trans X_g3.out); have n_X_g4 := Aside0.mk (setRow_heap w_9 g4 _ #[.slice At awT.length ct, .int .i64 4, .int .i64 0, .int .i64 0, .int .i64 0] 31 (0, 0) X_g4.out); clear HB BS BT X_g1 X_g2 X_g3 X_g4; have HB := n_HB; have BS := n_BS; have BT := n_BT; have X_g1 := n_X_g1; have X_g2 := n_X_g2; have X_g3 := n_X_g3; have X_g4 := n_X_g4; clear n_HB n_BS n_BT n_X_g1 n_X_g2 n_X_g3 n_X_g4; generalize w_9.setRow g4 #[.slice At awT.length ct, .int .i64 4, .int .i64 0, .int .i64 0, .int .i64 0] = w_10 at HB BS BT X_g1 X_g2 X_g3 X_g4 ⊢; have q_g2_0 := (blk_cell X_g2.out 0).trans rfl; have q_g2_1 := (blk_cell X_g2.out 1).trans rfl; have q_g2_2 := (blk_cell X_g2.out 2).trans rfl; have q_g2_3 := (blk_cell X_g2.out 3).trans rfl; clear q_g2_0 q_g2_1 q_g2_2 q_g2_3; clear X_g2; have q_g1_0 := (blk_cell X_g1.out 0).trans rfl; have q_g1_1 := (blk_cell X_g1.out 1).trans rfl; have q_g1_2 := (blk_cell X_g1.out 2).trans rfl; have q_g1_3 := (blk_cell X_g1.out 3).trans rfl; have q_g3_0 := (blk_cell X_g3.out 0).trans rfl; have q_g3_1 := (blk_cell X_g3.out 1).trans rfl; have q_g3_2 := (blk_cell X_g3.out 2).trans rfl; have q_g3_3 := (blk_cell X_g3.out 3).trans rfl; have q_g3_4 := (blk_cell X_g3.out 4).trans rfl; have q_g4_0 := (blk_cell X_g4.out 0).trans rfl; have q_g4_1 := (blk_cell X_g4.out 1).trans rfl; have q_g4_2 := (blk_cell X_g4.out 2).trans rfl; have q_g4_3 := (blk_cell X_g4.out 3).trans rfl; have q_g4_4 := (blk_cell X_g4.out 4).trans rfl)
  | (go_at_call 12; refine (flat_Events.calls 2 none 0 [] 0 none 0 [] As cs awS 4 0 0 0 At ct awT 4 0 0 0 3 _ (Kd.C_nil _ _) (Nat.le_refl _) (Kd.C_nil _ _) (Nat.le_refl _) (Kd.C_below CS.out BS.out) LS.out (Kd.C_below CT.out BT.out) LT.out aw_ev).mono ?_; rintro e w_11 ⟨rfl, hb⟩; clear q_g1_0 q_g1_1 q_g1_2 q_g1_3 q_g3_0 q_g3_1 q_g3_2 q_g3_3 q_g3_4 q_g4_0 q_g4_1 q_g4_2 q_g4_3 q_g4_4; have n_HB := Aside0.mk (below_step HB.out hb); have n_BS := Aside0.mk (below_step BS.out hb); have n_BT := Aside0.mk (below_step BT.out hb); have n_X_g1 := Aside0.mk (blk_below X_g1.out hb); have n_X_g3 := Aside0.mk (blk_below X_g3.out hb); have n_X_g4 := Aside0.mk (blk_below X_g4.out hb); clear HB BS BT X_g1 X_g3 X_g4; have HB := n_HB; have BS := n_BS; have BT := n_BT; have X_g1 := n_X_g1; have X_g3 := n_X_g3; have X_g4 := n_X_g4; clear n_HB n_BS n_BT n_X_g1 n_X_g3 n_X_g4; have q_g1_0 := (blk_cell X_g1.out 0).trans rfl; have q_g1_1 := (blk_cell X_g1.out 1).trans rfl; have q_g1_2 := (blk_cell X_g1.out 2).trans rfl; have q_g1_3 := (blk_cell X_g1.out 3).trans rfl; have q_g3_0 := (blk_cell X_g3.out 0).trans rfl; have q_g3_1 := (blk_cell X_g3.out 1).trans rfl; have q_g3_2 := (blk_cell X_g3.out 2).trans rfl; have q_g3_3 := (blk_cell X_g3.out 3).trans rfl; have q_g3_4 := (blk_cell X_g3.out 4).trans rfl; have q_g4_0 := (blk_cell X_g4.out 0).trans rfl; have q_g4_1 := (blk_cell X_g4.out 1).trans rfl; have q_g4_2 := (blk_cell X_g4.out 2).trans rfl; have q_g4_3 := (blk_cell X_g4.out 3).trans rfl; have q_g4_4 := (blk_cell X_g4.out 4).trans rfl; clear hb))
 rename_i K hK
 clear q_g1_0 q_g1_1 q_g1_2 q_g1_3 q_g3_0 q_g3_1 q_g3_2 q_g3_3 q_g3_4 q_g4_0 q_g4_1 q_g4_2 q_g4_3 q_g4_4
 have HSS : Aside0 (∀ w' : World, w'.heap[g1]? = some (.cells #[.int .i64 2, .slice none 0 0, .int .i64 0, .slice none 0 0] 24 (0, 0)) → w'.heap[g3]? = some (.cells #[.slice As awS.length cs, .int .i64 4, .int .i64 0, .int .i64 0, .int .i64 0] 31 (0, 0)) → w'.heap[g4]? = some (.cells #[.slice At awT.length ct, .int .i64 4, .int .i64 0, .int .i64 0, .int .i64 0] 31 (0, 0)) → w'.cell? ⟨g1, 0, none⟩ = some (.int .i64 2) ∧ w'.cell? ⟨g1, 1, none⟩ = some (.slice none 0 0) ∧ w'.cell? ⟨g1, 2, none⟩ = some (.int .i64 0) ∧ w'.cell? ⟨g1, 3, none⟩ = some (.slice none 0 0) ∧ w'.cell? ⟨g3, 0, none⟩ = some (.slice As awS.length cs) ∧ w'.cell? ⟨g3, 1, none⟩ = some (.int .i64 4) ∧ w'.cell? ⟨g3, 2, none⟩ = some (.int .i64 0) ∧ w'.cell? ⟨g3, 3, none⟩ = some (.int .i64 0) ∧ w'.cell? ⟨g3, 4, none⟩ = some (.int .i64 0) ∧ w'.cell? ⟨g4, 0, none⟩ = some (.slice At awT.length ct) ∧ w'.cell? ⟨g4, 1, none⟩ = some (.int .i64 4) ∧ w'.cell? ⟨g4, 2, none⟩ = some (.int .i64 0) ∧ w'.cell? ⟨g4, 3, none⟩ = some (.int .i64 0) ∧ w'.cell? ⟨g4, 4, none⟩ = some (.int .i64 0)) := ⟨fun w' h1 h3 h4 => ⟨(blk_cell h1 0).trans rfl, (blk_cell h1 1).trans rfl, (blk_cell h1 2).trans rfl, (blk_cell h1 3).trans rfl, (blk_cell h3 0).trans rfl, (blk_cell h3 1).trans rfl, (blk_cell h3 2).trans rfl, (blk_cell h3 3).trans rfl, (blk_cell h3 4).trans rfl, (blk_cell h4 0).trans rfl, (blk_cell h4 1).trans rfl, (blk_cell h4 2).trans rfl, (blk_cell h4 3).trans rfl, (blk_cell h4 4).trans rfl⟩⟩
 refine wp_mono (Q := fun e a' w' => match e with | .normal => ∃ g7, a' = { tmps := #[.bool false, .pointer (some ⟨g1, 0, none⟩), .pointer (some ⟨g2, 0, none⟩), .pointer (some ⟨g3, 0, none⟩), .pointer (some ⟨g4, 0, none⟩), .int .i64 3, .int .i64 2, .pointer (some ⟨g7, 0, none⟩), .int .i64 0, undef, undef, undef, undef, undef, undef, .agg #[.int .i64 2, .slice none 0 0, .int .i64 0, .slice none 0 0], .agg #[.int .i64 4, .int .i64 0, .int .i64 0, .int .i64 0], .agg #[.int .i64 1, .int .i64 5, .int .i64 0, .int .i64 0, .int .i64 0, .int .i64 0, .slice none 0 0, .int .i64 0], .slice As awS.length cs, .agg #[.int .i64 4, .int .i64 0, .int .i64 0, .int .i64 0], .agg #[.slice As awS.length cs, .int .i64 4, .int .i64 0, .int .i64 0, .int .i64 0], .agg #[.int .i64 1, .int .i64 0, .int .i64 0, .int .i64 0, .int .i64 0, .int .i64 0, .slice none 0 0, .int .i64 0], .agg #[.int .i64 15, .int .i64 0, .int .i64 1, .int .i64 0, .int .i64 0, .int .i64 0, .slice none 0 0, .int .i64 0], .slice At awT.length ct, .agg #[.int .i64 4, .int .i64 0, .int .i64 0, .int .i64 0], .agg #[.slice At awT.length ct, .int .i64 4, .int .i64 0, .int .i64 0, .int .i64 0], .agg #[.int .i64 2, .slice none 0 0, .int .i64 0, .slice none 0 0], .agg #[.slice As awS.length cs, .int .i64 4, .int .i64 0, .int .i64 0, .int .i64 0], .agg #[.slice At awT.length ct, .int .i64 4, .int .i64 0, .int .i64 0, .int .i64 0], .int .i64 3, .tuple #[.int .i64 2, .agg #[.int .i64 0, .bool false, .int .i64 0], .int .i64 0], .agg #[.int .i64 2, .slice none 0 0, .int .i64 0, .slice none 0 0], .agg #[.slice As awS.length cs, .int .i64 4, .int .i64 0, .int .i64 0, .int .i64 0], .agg #[.slice At awT.length ct, .int .i64 4, .int .i64 0, .int .i64 0, .int .i64 0], .agg #[.int .i64 5, .bool false, .int .i64 0], .tuple #[.int .i64 2, .agg #[.int .i64 0, .bool false, .int .i64 0], .int .i64 0], .int .i64 2, .agg #[.int .i64 0, .bool false, .int .i64 0], .int .i64 0, undef, undef, undef, undef, undef, undef, undef, undef, undef, undef, undef, undef, undef, undef, undef, undef, undef, undef, undef, undef, undef, undef, undef, undef, undef, undef, undef, undef, undef, undef, undef, undef, undef, undef, undef, undef, undef, undef, undef, undef, undef, undef, undef, undef, undef, undef, undef, undef, undef, undef, undef, undef, undef, undef], defers := [] } ∧ Below w.heap.size w w' ∧ Below w_5.heap.size w_5 w' ∧ Below w_8.heap.size w_8 w' ∧ w'.heap[g1]? = some (.cells #[.int .i64 2, .slice none 0 0, .int .i64 0, .slice none 0 0] 24 (0, 0)) ∧ w'.heap[g3]? = some (.cells #[.slice As awS.length cs, .int .i64 4, .int .i64 0, .int .i64 0, .int .i64 0] 31 (0, 0)) ∧ w'.heap[g4]? = some (.cells #[.slice At awT.length ct, .int .i64 4, .int .i64 0, .int .i64 0, .int .i64 0] 31 (0, 0)) ∧ w'.heap[g7]? = some (.cells #[.int .i64 0, .bool false, .int .i64 0] 35 (0, 0)) ∧ g1 ≠ g7 ∧ g3 ≠ g7 ∧ g4 ≠ g7 ∧ w.heap.size ≤ g7 ∧ w_5.heap.size ≤ g7 ∧ w_8.heap.size ≤ g7 | _ => False) ?_ ?_
 rotate_left
 ·rintro e a' w' h
  cases e <;> first | exact h.elim | skip
  obtain ⟨g7, rfl, i_HB, i_BS, i_BT, i_X_g1, i_X_g3, i_X_g4, i_X_g7, i_N_g1_g7, i_N_g3_g7, i_N_g4_g7, i_G_g7_HB, i_G_g7_BS, i_G_g7_BT⟩ := h
  clear HB BS BT X_g1 X_g3 X_g4
  have HB := Aside0.mk i_HB
  have BS := Aside0.mk i_BS
  have BT := Aside0.mk i_BT
  have X_g1 := Aside0.mk i_X_g1
  have X_g3 := Aside0.mk i_X_g3
  have X_g4 := Aside0.mk i_X_g4
  have X_g7 := Aside0.mk i_X_g7
  have N_g1_g7 := Aside0.mk i_N_g1_g7
  have N_g3_g7 := Aside0.mk i_N_g3_g7
  have N_g4_g7 := Aside0.mk i_N_g4_g7
  have G_g7_HB := Aside0.mk i_G_g7_HB
  have G_g7_BS := Aside0.mk i_G_g7_BS
  have G_g7_BT := Aside0.mk i_G_g7_BT
  clear i_HB i_BS i_BT i_X_g1 i_X_g3 i_X_g4 i_X_g7 i_N_g1_g7 i_N_g3_g7 i_N_g4_g7 i_G_g7_HB i_G_g7_BS i_G_g7_BT
  refine hK _ _ ?_
  clear hK K
  refine wp_seq_k (fun K hK => ?_)
  refine wp_mono (Q := fun e a' w' => match e with | .normal => ∃ g10, a' = { tmps := #[.bool false, .pointer (some ⟨g1, 0, none⟩), .pointer (some ⟨g2, 0, none⟩), .pointer (some ⟨g3, 0, none⟩), .pointer (some ⟨g4, 0, none⟩), .int .i64 3, .int .i64 2, .pointer (some ⟨g7, 0, none⟩), .int .i64 0, .int .i64 1, .pointer (some ⟨g10, 0, none⟩), .int .i64 0, undef, undef, undef, .agg #[.int .i64 2, .slice none 0 0, .int .i64 0, .slice none 0 0], .agg #[.int .i64 4, .int .i64 0, .int .i64 0, .int .i64 0], .agg #[.int .i64 1, .int .i64 5, .int .i64 0, .int .i64 0, .int .i64 0, .int .i64 0, .slice none 0 0, .int .i64 0], .slice As awS.length cs, .agg #[.int .i64 4, .int .i64 0, .int .i64 0, .int .i64 0], .agg #[.slice As awS.length cs, .int .i64 4, .int .i64 0, .int .i64 0, .int .i64 0], .agg #[.int .i64 1, .int .i64 0, .int .i64 0, .int .i64 0, .int .i64 0, .int .i64 0, .slice none 0 0, .int .i64 0], .agg #[.int .i64 15, .int .i64 0, .int .i64 1, .int .i64 0, .int .i64 0, .int .i64 0, .slice none 0 0, .int .i64 0], .slice At awT.length ct, .agg #[.int .i64 4, .int .i64 0, .int .i64 0, .int .i64 0], .agg #[.slice At awT.length ct, .int .i64 4, .int .i64 0, .int .i64 0, .int .i64 0], .agg #[.int .i64 2, .slice none 0 0, .int .i64 0, .slice none 0 0], .agg #[.slice As awS.length cs, .int .i64 4, .int .i64 0, .int .i64 0, .int .i64 0], .agg #[.slice At awT.length ct, .int .i64 4, .int .i64 0, .int .i64 0, .int .i64 0], .int .i64 3, .tuple #[.int .i64 2, .agg #[.int .i64 0, .bool false, .int .i64 0], .int .i64 0], .agg #[.int .i64 2, .slice none 0 0, .int .i64 0, .slice none 0 0], .agg #[.slice As awS.length cs, .int .i64 4, .int .i64 0, .int .i64 0, .int .i64 0], .agg #[.slice At awT.length ct, .int .i64 4, .int .i64 0, .int .i64 0, .int .i64 0], .agg #[.int .i64 5, .bool false, .int .i64 0], .tuple #[.int .i64 2, .agg #[.int .i64 0, .bool false, .int .i64 0], .int .i64 0], .int .i64 2, .agg #[.int .i64 0, .bool false, .int .i64 0], .int .i64 0, .tuple #[.int .i64 1, .agg #[.int .i64 0, .bool false, .int .i64 0], .int .i64 0], .agg #[.int .i64 2, .slice none 0 0, .int .i64 0, .slice none 0 0], .agg #[.slice As awS.length cs, .int .i64 4, .int .i64 0, .int .i64 0, .int .i64 0], .agg #[.slice At awT.length ct, .int .i64 4, .int .i64 0, .int .i64 0, .int .i64 0], .agg #[.int .i64 5, .bool false, .int .i64 0], .tuple #[.int .i64 1, .agg #[.int .i64 0, .bool false, .int .i64 0], .int .i64 0], .int .i64 1, .agg #[.int .i64 0, .bool false, .int .i64 0], .int .i64 0, undef, undef, undef, undef, undef, undef, undef, undef, undef, undef, undef, undef, undef, undef, undef, undef, undef, undef, undef, undef, undef, undef, undef, undef, undef, undef, undef, undef, undef, undef, undef, undef, undef, undef, undef, undef, undef, undef, undef, undef, undef, undef, undef, undef, undef], defers := [] } ∧ Below w.heap.size w w' ∧ Below w_5.heap.size w_5 w' ∧ Below w_8.heap.size w_8 w' ∧ w'.heap[g1]? = some (.cells #[.int .i64 2, .slice none 0 0, .int .i64 0, .slice none 0 0] 24 (0, 0)) ∧ w'.heap[g3]? = some (.cells #[.slice As awS.length cs, .int .i64 4, .int .i64 0, .int .i64 0, .int .i64 0] 31 (0, 0)) ∧ w'.heap[g4]? = some (.cells #[.slice At awT.length ct, .int .i64 4, .int .i64 0, .int .i64 0, .int .i64 0] 31 (0, 0)) ∧ w'.heap[g7]? = some (.cells #[.int .i64 0, .bool false, .int .i64 0] 35 (0, 0)) ∧ w'.heap[g10]? = some (.cells #[.int .i64 0, .bool false, .int .i64 0] 35 (0, 0)) ∧ g1 ≠ g10 ∧ g3 ≠ g10 ∧ g4 ≠ g10 ∧ g7 ≠ g10 ∧ w.heap.size ≤ g10 ∧ w_5.heap.size ≤ g10 ∧ w_8.heap.size ≤ g10 | _ => False) ?_ ?_
  rotate_left
  ·rintro e a' w' h
   cases e <;> first | exact h.elim | skip
   obtain ⟨g10, rfl, i_HB, i_BS, i_BT, i_X_g1, i_X_g3, i_X_g4, i_X_g7, i_X_g10, i_N_g1_g10, i_N_g3_g10, i_N_g4_g10, i_N_g7_g10, i_G_g10_HB, i_G_g10_BS, i_G_g10_BT⟩ := h
   clear HB BS BT X_g1 X_g3 X_g4 X_g7
   have HB := Aside0.mk i_HB
   have BS := Aside0.mk i_BS
   have BT := Aside0.mk i_BT
   have X_g1 := Aside0.mk i_X_g1
   have X_g3 := Aside0.mk i_X_g3
   have X_g4 := Aside0.mk i_X_g4
   have X_g7 := Aside0.mk i_X_g7
   have X_g10 := Aside0.mk i_X_g10
   have N_g1_g10 := Aside0.mk i_N_g1_g10
   have N_g3_g10 := Aside0.mk i_N_g3_g10
   have N_g4_g10 := Aside0.mk i_N_g4_g10
   have N_g7_g10 := Aside0.mk i_N_g7_g10
   have G_g10_HB := Aside0.mk i_G_g10_HB
   have G_g10_BS := Aside0.mk i_G_g10_BS
   have G_g10_BT := Aside0.mk i_G_g10_BT
   clear i_HB i_BS i_BT i_X_g1 i_X_g3 i_X_g4 i_X_g7 i_X_g10 i_N_g1_g10 i_N_g3_g10 i_N_g4_g10 i_N_g7_g10 i_G_g10_HB i_G_g10_BS i_G_g10_BT
   refine hK _ _ ?_
   clear hK K
   refine wp_seq_k (fun K hK => ?_)
   refine wp_mono (Q := fun e a' w' => match e with | .normal => ∃ g13, a' = { tmps := #[.bool false, .pointer (some ⟨g1, 0, none⟩), .pointer (some ⟨g2, 0, none⟩), .pointer (some ⟨g3, 0, none⟩), .pointer (some ⟨g4, 0, none⟩), .int .i64 3, .int .i64 2, .pointer (some ⟨g7, 0, none⟩), .int .i64 0, .int .i64 1, .pointer (some ⟨g10, 0, none⟩), .int .i64 0, .int .i64 3, .pointer (some ⟨g13, 0, none⟩), .int .i64 0, .agg #[.int .i64 2, .slice none 0 0, .int .i64 0, .slice none 0 0], .agg #[.int .i64 4, .int .i64 0, .int .i64 0, .int .i64 0], .agg #[.int .i64 1, .int .i64 5, .int .i64 0, .int .i64 0, .int .i64 0, .int .i64 0, .slice none 0 0, .int .i64 0], .slice As awS.length cs, .agg #[.int .i64 4, .int .i64 0, .int .i64 0, .int .i64 0], .agg #[.slice As awS.length cs, .int .i64 4, .int .i64 0, .int .i64 0, .int .i64 0], .agg #[.int .i64 1, .int .i64 0, .int .i64 0, .int .i64 0, .int .i64 0, .int .i64 0, .slice none 0 0, .int .i64 0], .agg #[.int .i64 15, .int .i64 0, .int .i64 1, .int .i64 0, .int .i64 0, .int .i64 0, .slice none 0 0, .int .i64 0], .slice At awT.length ct, .agg #[.int .i64 4, .int .i64 0, .int .i64 0, .int .i64 0], .agg #[.slice At awT.length ct, .int .i64 4, .int .i64 0, .int .i64 0, .int .i64 0], .agg #[.int .i64 2, .slice none 0 0, .int .i64 0, .slice none 0 0], .agg #[.slice As awS.length cs, .int .i64 4, .int .i64 0, .int .i64 0, .int .i64 0], .agg #[.slice At awT.length ct, .int .i64 4, .int .i64 0, .int .i64 0, .int .i64 0], .int .i64 3, .tuple #[.int .i64 2, .agg #[.int .i64 0, .bool false, .int .i64 0], .int .i64 0], .agg #[.int .i64 2, .slice none 0 0, .int .i64 0, .slice none 0 0], .agg #[.slice As awS.length cs, .int .i64 4, .int .i64 0, .int .i64 0, .int .i64 0], .agg #[.slice At awT.length ct, .int .i64 4, .int .i64 0, .int .i64 0, .int .i64 0], .agg #[.int .i64 5, .bool false, .int .i64 0], .tuple #[.int .i64 2, .agg #[.int .i64 0, .bool false, .int .i64 0], .int .i64 0], .int .i64 2, .agg #[.int .i64 0, .bool false, .int .i64 0], .int .i64 0, .tuple #[.int .i64 1, .agg #[.int .i64 0, .bool false, .int .i64 0], .int .i64 0], .agg #[.int .i64 2, .slice none 0 0, .int .i64 0, .slice none 0 0], .agg #[.slice As awS.length cs, .int .i64 4, .int .i64 0, .int .i64 0, .int .i64 0], .agg #[.slice At awT.length ct, .int .i64 4, .int .i64 0, .int .i64 0, .int .i64 0], .agg #[.int .i64 5, .bool false, .int .i64 0], .tuple #[.int .i64 1, .agg #[.int .i64 0, .bool false, .int .i64 0], .int .i64 0], .int .i64 1, .agg #[.int .i64 0, .bool false, .int .i64 0], .int .i64 0, .tuple #[.int .i64 3, .agg #[.int .i64 4, .bool false, .int .i64 1], .int .i64 0], .agg #[.int .i64 2, .slice none 0 0, .int .i64 0, .slice none 0 0], .agg #[.slice As awS.length cs, .int .i64 4, .int .i64 0, .int .i64 0, .int .i64 0], .agg #[.slice At awT.length ct, .int .i64 4, .int .i64 0, .int .i64 0, .int .i64 0], .agg #[.int .i64 4, .bool false, .int .i64 1], .tuple #[.int .i64 3, .agg #[.int .i64 4, .bool false, .int .i64 1], .int .i64 0], .int .i64 3, .agg #[.int .i64 4, .bool false, .int .i64 1], .int .i64 0, undef, undef, undef, undef, undef, undef, undef, undef, undef, undef, undef, undef, undef, undef, undef, undef, undef, undef, undef, undef, undef, undef, undef, undef, undef, undef, undef, undef, undef, undef, undef, undef, undef, undef, undef, undef], defers := [] } ∧ Below w.heap.size w w' ∧ Below w_5.heap.size w_5 w' ∧ Below w_8.heap.size w_8 w' ∧ w'.heap[g1]? = some (.cells #[.int .i64 2, .slice none 0 0, .int .i64 0, .slice none 0 0] 24 (0, 0)) ∧ w'.heap[g3]? = some (.cells #[.slice As awS.length cs, .int .i64 4, .int .i64 0, .int .i64 0, .int .i64 0] 31 (0, 0)) ∧ w'.heap[g4]? = some (.cells #[.slice At awT.length ct, .int .i64 4, .int .i64 0, .int .i64 0, .int .i64 0] 31 (0, 0)) ∧ w'.heap[g7]? = some (.cells #[.int .i64 0, .bool false, .int .i64 0] 35 (0, 0)) ∧ w'.heap[g10]? = some (.cells #[.int .i64 0, .bool false, .int .i64 0] 35 (0, 0)) ∧ w'.heap[g13]? = some (.cells #[.int .i64 4, .bool false, .int .i64 1] 35 (0, 0)) ∧ g1 ≠ g13 ∧ g3 ≠ g13 ∧ g4 ≠ g13 ∧ g7 ≠ g13 ∧ g10 ≠ g13 ∧ w.heap.size ≤ g13 ∧ w_5.heap.size ≤ g13 ∧ w_8.heap.size ≤ g13 | _ => False) ?_ ?_
   rotate_left
   ·rintro e a' w' h
    cases e <;> first | exact h.elim | skip
    obtain ⟨g13, rfl, i_HB, i_BS, i_BT, i_X_g1, i_X_g3, i_X_g4, i_X_g7, i_X_g10, i_X_g13, i_N_g1_g13, i_N_g3_g13, i_N_g4_g13, i_N_g7_g13, i_N_g10_g13, i_G_g13_HB, i_G_g13_BS, i_G_g13_BT⟩ := h
    clear HB BS BT X_g1 X_g3 X_g4 X_g7 X_g10
    have HB := Aside0.mk i_HB
    have BS := Aside0.mk i_BS
    have BT := Aside0.mk i_BT
    have X_g1 := Aside0.mk i_X_g1
    have X_g3 := Aside0.mk i_X_g3
    have X_g4 := Aside0.mk i_X_g4
    have X_g7 := Aside0.mk i_X_g7
    have X_g10 := Aside0.mk i_X_g10
    have X_g13 := Aside0.mk i_X_g13
    have N_g1_g13 := Aside0.mk i_N_g1_g13
    have N_g3_g13 := Aside0.mk i_N_g3_g13
    have N_g4_g13 := Aside0.mk i_N_g4_g13
    have N_g7_g13 := Aside0.mk i_N_g7_g13
    have N_g10_g13 := Aside0.mk i_N_g10_g13
    have G_g13_HB := Aside0.mk i_G_g13_HB
    have G_g13_BS := Aside0.mk i_G_g13_BS
    have G_g13_BT := Aside0.mk i_G_g13_BT
    clear i_HB i_BS i_BT i_X_g1 i_X_g3 i_X_g4 i_X_g7 i_X_g10 i_X_g13 i_N_g1_g13 i_N_g3_g13 i_N_g4_g13 i_N_g7_g13 i_N_g10_g13 i_G_g13_HB i_G_g13_BS i_G_g13_BT
    refine hK _ _ ?_
    clear hK K
    refine wp_seq ?_
    have HS9 : Aside0 (∀ W : World, W.heap[g7]? = some (.cells #[.int .i64 0, .bool false, .int .i64 0] 35 (0, 0)) → W.heap[g13]? = some (.cells #[.int .i64 4, .bool false, .int .i64 1] 35 (0, 0)) → W.cell? ⟨g7, 0, none⟩ = some (.int .i64 0) ∧ W.cell? ⟨g7, 1, none⟩ = some (.bool false) ∧ W.cell? ⟨g7, 2, none⟩ = some (.int .i64 0) ∧ W.cell? ⟨g13, 0, none⟩ = some (.int .i64 4) ∧ W.cell? ⟨g13, 1, none⟩ = some (.bool false) ∧ W.cell? ⟨g13, 2, none⟩ = some (.int .i64 1)) := ⟨fun w' h1 h3 => ⟨(blk_cell h1 0).trans rfl, (blk_cell h1 1).trans rfl, (blk_cell h1 2).trans rfl, (blk_cell h3 0).trans rfl, (blk_cell h3 1).trans rfl, (blk_cell h3 2).trans rfl⟩⟩
    have DB := Aside0.mk (below_drew1' HB.out)
    have D7 := Aside0.mk (blk_drew X_g7.out)
    have D13 := Aside0.mk (blk_drew X_g13.out)
    go_region_held3 (fun W => W.cell? ⟨g7, 0, none⟩ = some (.int .i64 0) ∧ W.cell? ⟨g7, 1, none⟩ = some (.bool false) ∧ W.cell? ⟨g7, 2, none⟩ = some (.int .i64 0) ∧ W.cell? ⟨g13, 0, none⟩ = some (.int .i64 4) ∧ W.cell? ⟨g13, 1, none⟩ = some (.bool false) ∧ W.cell? ⟨g13, 2, none⟩ = some (.int .i64 1))
     (first
      | exact HS9.out _ X_g7.out X_g13.out
      | exact HS9.out _ D7.out D13.out
      | exact HS9.out _ E7.out E13.out)
     (first
      | (go_at_call 18; with_reducible refine (intarsialaw30_at.calls 4 1 4 false 1 _ rfl).mono ?_; rintro e wf ⟨rfl, hb⟩; have E7 := Aside0.mk (blk_below D7.out hb); have E13 := Aside0.mk (blk_below D13.out hb); have EB := Aside0.mk (below_step DB.out hb); clear hb))
    go_wp2_with fail
    go_ret
    exact ⟨by first | rfl | (simp; done), EB.out⟩
   clear hK
   have n_HB := Aside0.mk (below_drew1' HB.out)
   have n_BS := Aside0.mk (below_drew1' BS.out)
   have n_BT := Aside0.mk (below_drew1' BT.out)
   have n_X_g1 := Aside0.mk (blk_drew X_g1.out)
   have n_X_g3 := Aside0.mk (blk_drew X_g3.out)
   have n_X_g4 := Aside0.mk (blk_drew X_g4.out)
   have n_X_g7 := Aside0.mk (blk_drew X_g7.out)
   have n_X_g10 := Aside0.mk (blk_drew X_g10.out)
   clear HB BS BT X_g1 X_g3 X_g4 X_g7 X_g10
   have HB := n_HB
   have BS := n_BS
   have BT := n_BT
   have X_g1 := n_X_g1
   have X_g3 := n_X_g3
   have X_g4 := n_X_g4
   have X_g7 := n_X_g7
   have X_g10 := n_X_g10
   clear n_HB n_BS n_BT n_X_g1 n_X_g3 n_X_g4 n_X_g7 n_X_g10
   refine start_ (n := 13) (S := fun w' => w'.cell? ⟨g1, 0, none⟩ = some (.int .i64 2) ∧ w'.cell? ⟨g1, 1, none⟩ = some (.slice none 0 0) ∧ w'.cell? ⟨g1, 2, none⟩ = some (.int .i64 0) ∧ w'.cell? ⟨g1, 3, none⟩ = some (.slice none 0 0) ∧ w'.cell? ⟨g3, 0, none⟩ = some (.slice As awS.length cs) ∧ w'.cell? ⟨g3, 1, none⟩ = some (.int .i64 4) ∧ w'.cell? ⟨g3, 2, none⟩ = some (.int .i64 0) ∧ w'.cell? ⟨g3, 3, none⟩ = some (.int .i64 0) ∧ w'.cell? ⟨g3, 4, none⟩ = some (.int .i64 0) ∧ w'.cell? ⟨g4, 0, none⟩ = some (.slice At awT.length ct) ∧ w'.cell? ⟨g4, 1, none⟩ = some (.int .i64 4) ∧ w'.cell? ⟨g4, 2, none⟩ = some (.int .i64 0) ∧ w'.cell? ⟨g4, 3, none⟩ = some (.int .i64 0) ∧ w'.cell? ⟨g4, 4, none⟩ = some (.int .i64 0)) (ds := [11]) #[false, false, false, false, false, false, false, false, false, false, false, false, false] (by kernel_rfl) rfl rfl (HSS.out _ X_g1.out X_g3.out X_g4.out) (fun hHeld => ?_); refine with_tabW aw8_tab aw8_bits (fun HT_ HW_ => ?_)
   generalize World.drew _ = wd at HB BS BT X_g1 X_g3 X_g4 X_g7 X_g10 hHeld ⊢
   refine take_ (i := 0) (N := some 49) (v := ?_) (a' := ?_) #[true, false, false, false, false, false, false, false, false, false, false, false, false] rfl rfl (take_ofW HT_.out HW_.out (by kernel_rfl)) (fun _ _ _ h => h) (Or.inl ⟨by rfl, ?_⟩) hHeld ?_ ?_
   rotate_left
   ·rintro w' ⟨s0, s1, s2, s3, s4, s5, s6, s7, s8, s9, s10, s11, s12, s13⟩
    go_simp
    with_reducible rfl
   rotate_left
   ·simp only [Act.put, lz1, lz2, lz3, i64_w, i32_w]
    rfl
   refine take_ (i := 1) (N := some 50) (v := ?_) (a' := ?_) #[true, true, false, false, false, false, false, false, false, false, false, false, false] rfl rfl (take_ofW HT_.out HW_.out (by kernel_rfl)) (fun _ _ _ h => h) (Or.inl ⟨by rfl, ?_⟩) hHeld ?_ ?_
   rotate_left
   ·rintro w' ⟨s0, s1, s2, s3, s4, s5, s6, s7, s8, s9, s10, s11, s12, s13⟩
    go_simp
    with_reducible rfl
   rotate_left
   ·simp only [Act.put, lz1, lz2, lz3, i64_w, i32_w]
    rfl
   refine take_ (i := 2) (N := some 51) (v := ?_) (a' := ?_) #[true, true, true, false, false, false, false, false, false, false, false, false, false] rfl rfl (take_ofW HT_.out HW_.out (by kernel_rfl)) (fun _ _ _ h => h) (Or.inl ⟨by rfl, ?_⟩) hHeld ?_ ?_
   rotate_left
   ·rintro w' ⟨s0, s1, s2, s3, s4, s5, s6, s7, s8, s9, s10, s11, s12, s13⟩
    go_simp
    with_reducible rfl
   rotate_left
   ·simp only [Act.put, lz1, lz2, lz3, i64_w, i32_w]
    rfl
   refine two_ (i := 3) (j := 9) (Ni := some 52) (Nj := some 13) #[true, true, true, true, false, false, false, false, false, false, false, false, false] #[true, true, true, false, false, false, false, false, false, true, false, false, false] rfl rfl rfl rfl (two_of HT_.out (by kernel_rfl)) (by decide) (by decide) (fun K hK => ?_) (fun K hK => ?_)
   ·skip
    refine goes_ Try.func18 (by kernel_rfl) rfl #[.int .i64 4, .int .i64 1] (by rfl) rfl rfl (by (try simp only [List.map_toArray, List.map_cons, List.map_nil]); first | done | rfl) ?_
    refine (intarsialaw30_at.calls 4 1 4 false 1 wd rfl).mono ?_
    rintro e we1 ⟨rfl, hb⟩
    refine ⟨_, rfl, ?_⟩
    have n_HB := Aside0.mk (below_step HB.out hb)
    have n_BS := Aside0.mk (below_step BS.out hb)
    have n_BT := Aside0.mk (below_step BT.out hb)
    have n_X_g1 := Aside0.mk (blk_below X_g1.out hb)
    have n_X_g3 := Aside0.mk (blk_below X_g3.out hb)
    have n_X_g4 := Aside0.mk (blk_below X_g4.out hb)
    have n_X_g7 := Aside0.mk (blk_below X_g7.out hb)
    have n_X_g10 := Aside0.mk (blk_below X_g10.out hb)
    clear HB BS BT X_g1 X_g3 X_g4 X_g7 X_g10
    have HB := n_HB
    have BS := n_BS
    have BT := n_BT
    have X_g1 := n_X_g1
    have X_g3 := n_X_g3
    have X_g4 := n_X_g4
    have X_g7 := n_X_g7
    have X_g10 := n_X_g10
    clear n_HB n_BS n_BT n_X_g1 n_X_g3 n_X_g4 n_X_g7 n_X_g10
    clear hb
    refine hK.out _ _ (HSS.out _ X_g1.out X_g3.out X_g4.out) (fun hHeld => ?_)
    clear hK K
    refine norm_ (a' := ?_) ?_ ?_
    rotate_left
    ·show Act.put _ (some 52) _ = _
     simp only [Act.put, lz1, lz2, lz3, i64_w, i32_w]
     rfl
    refine two_ (i := 4) (j := 9) (Ni := some 53) (Nj := some 13) #[true, true, true, true, true, false, false, false, false, false, false, false, false] #[true, true, true, true, false, false, false, false, false, true, false, false, false] rfl rfl rfl rfl (two_of HT_.out (by kernel_rfl)) (by decide) (by decide) (fun K hK => ?_) (fun K hK => ?_)
    ·skip
     refine goes_ Try.func10 (by kernel_rfl) rfl #[.agg #[.int .i64 2, .slice none 0 0, .int .i64 0, .slice none 0 0], .agg #[.slice As awS.length cs, .int .i64 4, .int .i64 0, .int .i64 0, .int .i64 0], .agg #[.slice At awT.length ct, .int .i64 4, .int .i64 0, .int .i64 0, .int .i64 0], .int .i64 1, .agg #[.int .i64 4, .bool false, .int .i64 1]] (by rfl) rfl rfl (by (try simp only [List.map_toArray, List.map_cons, List.map_nil]); first | done | rfl) ?_
     refine (flat_Before.calls 2 none 0 [] 0 none 0 [] As cs awS 4 0 0 0 At ct awT 4 0 0 0 1 4 false 1 3 4 false 1 0 we1 (Kd.C_nil _ _) (Nat.le_refl _) (Kd.C_nil _ _) (Nat.le_refl _) (Kd.C_below CS.out BS.out) LS.out (Kd.C_below CT.out BT.out) LT.out (fun es _ e _ x s n => ahead_tot _ (by have := fuelOf_le awS; omega) _ e x s n) aw_3).mono ?_
     rintro e we2 ⟨rfl, hb⟩
     refine ⟨_, rfl, ?_⟩
     have n_HB := Aside0.mk (below_step HB.out hb)
     have n_BS := Aside0.mk (below_step BS.out hb)
     have n_BT := Aside0.mk (below_step BT.out hb)
     have n_X_g1 := Aside0.mk (blk_below X_g1.out hb)
     have n_X_g3 := Aside0.mk (blk_below X_g3.out hb)
     have n_X_g4 := Aside0.mk (blk_below X_g4.out hb)
     have n_X_g7 := Aside0.mk (blk_below X_g7.out hb)
     have n_X_g10 := Aside0.mk (blk_below X_g10.out hb)
     clear HB BS BT X_g1 X_g3 X_g4 X_g7 X_g10
     have HB := n_HB
     have BS := n_BS
     have BT := n_BT
     have X_g1 := n_X_g1
     have X_g3 := n_X_g3
     have X_g4 := n_X_g4
     have X_g7 := n_X_g7
     have X_g10 := n_X_g10
     clear n_HB n_BS n_BT n_X_g1 n_X_g3 n_X_g4 n_X_g7 n_X_g10
     clear hb
     refine hK.out _ _ (HSS.out _ X_g1.out X_g3.out X_g4.out) (fun hHeld => ?_)
     clear hK K
     refine norm_ (a' := ?_) ?_ ?_
     rotate_left
     ·show Act.put _ (some 53) _ = _
      simp only [Act.put, lz1, lz2, lz3, i64_w, i32_w]
      rfl
     refine pure_ (i := 5) (N := some 48) (v := ?_) (a' := ?_) #[true, true, true, true, true, true, false, false, false, false, false, false, false] rfl rfl (any_of HT_.out (by kernel_rfl)) (fun _ _ _ h => h) (Or.inl ⟨by rfl, ?_⟩) ?_ ?_
     rotate_left
     ·intro w'
      go_simp
      with_reducible rfl
     rotate_left
     ·simp only [Act.put, lz1, lz2, lz3, i64_w, i32_w]
      rfl
     refine pure_ (i := 6) (N := some 54) (v := ?_) (a' := ?_) #[true, true, true, true, true, true, true, false, false, false, false, false, false] rfl rfl (any_of HT_.out (by kernel_rfl)) (fun _ _ _ h => h) (Or.inl ⟨by rfl, ?_⟩) ?_ ?_
     rotate_left
     ·intro w'
      go_simp
      with_reducible rfl
     rotate_left
     ·simp only [Act.put, lz1, lz2, lz3, i64_w, i32_w]
      rfl
     refine pure_ (i := 7) (N := some 55) (v := ?_) (a' := ?_) #[true, true, true, true, true, true, true, true, false, false, false, false, false] rfl rfl (any_of HT_.out (by kernel_rfl)) (fun _ _ _ h => h) (Or.inl ⟨by rfl, ?_⟩) ?_ ?_
     rotate_left
     ·intro w'
      go_simp
      with_reducible rfl
     rotate_left
     ·simp only [Act.put, lz1, lz2, lz3, i64_w, i32_w]
      rfl
     refine pure_ (i := 8) (N := some 56) (v := ?_) (a' := ?_) #[true, true, true, true, true, true, true, true, true, false, false, false, false] rfl rfl (any_of HT_.out (by kernel_rfl)) (fun _ _ _ h => h) (Or.inl ⟨by rfl, ?_⟩) ?_ ?_
     rotate_left
     ·intro w'
      go_simp
      with_reducible rfl
     rotate_left
     ·simp only [Act.put, lz1, lz2, lz3, i64_w, i32_w]
      rfl
     refine one_ (i := 9) (N := some 13) #[true, true, true, true, true, true, true, true, true, true, false, false, false] rfl rfl (one_of HT_.out (by kernel_rfl)) (by decide) (fun K hK => ?_)
     refine box_step ?hg (N := 13) ?hd (cs := #[.int .i64 0, .bool false, .int .i64 0]) (t := 35) ?hr ?_
     (case hd => rfl)
     (case hg => rfl)
     (case hr => first | (go_simp; done) | (go_simp; rfl))
     intro g13 hg we3 hbox hb
     have G_g13_HB : Aside0 (w.heap.size ≤ g13) := ⟨by have := HB.out.size; omega⟩
     have G_g13_BS : Aside0 (w_5.heap.size ≤ g13) := ⟨by have := BS.out.size; omega⟩
     have G_g13_BT : Aside0 (w_8.heap.size ≤ g13) := ⟨by have := BT.out.size; omega⟩
     have N_g1_g13 : Aside0 (g1 ≠ g13) := ⟨by have := blk_lt X_g1.out; omega⟩
     have N_g3_g13 : Aside0 (g3 ≠ g13) := ⟨by have := blk_lt X_g3.out; omega⟩
     have N_g4_g13 : Aside0 (g4 ≠ g13) := ⟨by have := blk_lt X_g4.out; omega⟩
     have N_g7_g13 : Aside0 (g7 ≠ g13) := ⟨by have := blk_lt X_g7.out; omega⟩
     have N_g10_g13 : Aside0 (g10 ≠ g13) := ⟨by have := blk_lt X_g10.out; omega⟩
     have n_HB := Aside0.mk (below_step HB.out hb)
     have n_BS := Aside0.mk (below_step BS.out hb)
     have n_BT := Aside0.mk (below_step BT.out hb)
     have n_X_g1 := Aside0.mk (blk_below X_g1.out hb)
     have n_X_g3 := Aside0.mk (blk_below X_g3.out hb)
     have n_X_g4 := Aside0.mk (blk_below X_g4.out hb)
     have n_X_g7 := Aside0.mk (blk_below X_g7.out hb)
     have n_X_g10 := Aside0.mk (blk_below X_g10.out hb)
     clear HB BS BT X_g1 X_g3 X_g4 X_g7 X_g10
     have HB := n_HB
     have BS := n_BS
     have BT := n_BT
     have X_g1 := n_X_g1
     have X_g3 := n_X_g3
     have X_g4 := n_X_g4
     have X_g7 := n_X_g7
     have X_g10 := n_X_g10
     clear n_HB n_BS n_BT n_X_g1 n_X_g3 n_X_g4 n_X_g7 n_X_g10
     have X_g13 := Aside0.mk hbox
     clear hb hg hbox
     refine hK.out _ _ (HSS.out _ X_g1.out X_g3.out X_g4.out) (fun hHeld => ?_)
     clear hK K
     refine norm_ (a' := ?_) ?_ ?_
     rotate_left
     ·show Act.put _ (some 13) _ = _
      simp only [Act.put, lz1, lz2, lz3, i64_w, i32_w]
      rfl
     refine pure_ (i := 10) (N := some 12) (v := ?_) (a' := ?_) #[true, true, true, true, true, true, true, true, true, true, true, false, false] rfl rfl (any_of HT_.out (by kernel_rfl)) (fun _ _ _ h => h) (Or.inl ⟨by rfl, ?_⟩) ?_ ?_
     rotate_left
     ·intro w'
      go_simp
      with_reducible rfl
     rotate_left
     ·simp only [Act.put, lz1, lz2, lz3, i64_w, i32_w]
      rfl
     refine last_ (i := 11) (N := none) #[true, true, true, true, true, true, true, true, true, true, true, true, false] rfl rfl (one_of HT_.out (by kernel_rfl)) (by decide) (fun K hK => ?_)
     rw [if_pos (by rfl)]
     refine wp_store_row 35 (.tmp 13) (.tmp 55) rfl g13 #[.int .i64 4, .bool false, .int .i64 1] rfl rfl 35 _ X_g13.out info35s rfl (by simp [Value.oneCell']) ?_
     refine hK.out _ _ ?_
     clear hK K
     refine pure_ (i := 12) (N := some 14) (v := ?_) (a' := ?_) #[true, true, true, true, true, true, true, true, true, true, true, true, true] rfl rfl (any_of HT_.out (by kernel_rfl)) (fun _ _ _ h => h) (Or.inl ⟨by rfl, ?_⟩) ?_ ?_
     rotate_left
     ·intro w'
      go_simp
      with_reducible rfl
     rotate_left
     ·simp only [Act.put, lz1, lz2, lz3, i64_w, i32_w]
      rfl
     refine done_ (done_of HT_.out (by kernel_rfl)) ?_
     exact ⟨g13, rfl, below_setRow _ HB.out G_g13_HB.out, below_setRow _ BS.out G_g13_BS.out, below_setRow _ BT.out G_g13_BT.out, (setRow_other _ g13 g1 _ N_g1_g13.out).trans X_g1.out, (setRow_other _ g13 g3 _ N_g3_g13.out).trans X_g3.out, (setRow_other _ g13 g4 _ N_g4_g13.out).trans X_g4.out, (setRow_other _ g13 g7 _ N_g7_g13.out).trans X_g7.out, (setRow_other _ g13 g10 _ N_g10_g13.out).trans X_g10.out, setRow_heap _ g13 _ _ 35 (0, 0) X_g13.out, N_g1_g13.out, N_g3_g13.out, N_g4_g13.out, N_g7_g13.out, N_g10_g13.out, G_g13_HB.out, G_g13_BS.out, G_g13_BT.out⟩
    ·skip
     refine box_step ?hg (N := 13) ?hd (cs := #[.int .i64 0, .bool false, .int .i64 0]) (t := 35) ?hr ?_
     (case hd => rfl)
     (case hg => rfl)
     (case hr => first | (go_simp; done) | (go_simp; rfl))
     intro g13 hg we2 hbox hb
     have G_g13_HB : Aside0 (w.heap.size ≤ g13) := ⟨by have := HB.out.size; omega⟩
     have G_g13_BS : Aside0 (w_5.heap.size ≤ g13) := ⟨by have := BS.out.size; omega⟩
     have G_g13_BT : Aside0 (w_8.heap.size ≤ g13) := ⟨by have := BT.out.size; omega⟩
     have N_g1_g13 : Aside0 (g1 ≠ g13) := ⟨by have := blk_lt X_g1.out; omega⟩
     have N_g3_g13 : Aside0 (g3 ≠ g13) := ⟨by have := blk_lt X_g3.out; omega⟩
     have N_g4_g13 : Aside0 (g4 ≠ g13) := ⟨by have := blk_lt X_g4.out; omega⟩
     have N_g7_g13 : Aside0 (g7 ≠ g13) := ⟨by have := blk_lt X_g7.out; omega⟩
     have N_g10_g13 : Aside0 (g10 ≠ g13) := ⟨by have := blk_lt X_g10.out; omega⟩
     have n_HB := Aside0.mk (below_step HB.out hb)
     have n_BS := Aside0.mk (below_step BS.out hb)
     have n_BT := Aside0.mk (below_step BT.out hb)
     have n_X_g1 := Aside0.mk (blk_below X_g1.out hb)
     have n_X_g3 := Aside0.mk (blk_below X_g3.out hb)
     have n_X_g4 := Aside0.mk (blk_below X_g4.out hb)
     have n_X_g7 := Aside0.mk (blk_below X_g7.out hb)
     have n_X_g10 := Aside0.mk (blk_below X_g10.out hb)
     clear HB BS BT X_g1 X_g3 X_g4 X_g7 X_g10
     have HB := n_HB
     have BS := n_BS
     have BT := n_BT
     have X_g1 := n_X_g1
     have X_g3 := n_X_g3
     have X_g4 := n_X_g4
     have X_g7 := n_X_g7
     have X_g10 := n_X_g10
     clear n_HB n_BS n_BT n_X_g1 n_X_g3 n_X_g4 n_X_g7 n_X_g10
     have X_g13 := Aside0.mk hbox
     clear hb hg hbox
     refine hK.out _ _ (HSS.out _ X_g1.out X_g3.out X_g4.out) (fun hHeld => ?_)
     clear hK K
     refine norm_ (a' := ?_) ?_ ?_
     rotate_left
     ·show Act.put _ (some 13) _ = _
      simp only [Act.put, lz1, lz2, lz3, i64_w, i32_w]
      rfl
     refine one_ (i := 4) (N := some 53) #[true, true, true, true, true, false, false, false, false, true, false, false, false] rfl rfl (one_of HT_.out (by kernel_rfl)) (by decide) (fun K hK => ?_)
     refine goes_ Try.func10 (by kernel_rfl) rfl #[.agg #[.int .i64 2, .slice none 0 0, .int .i64 0, .slice none 0 0], .agg #[.slice As awS.length cs, .int .i64 4, .int .i64 0, .int .i64 0, .int .i64 0], .agg #[.slice At awT.length ct, .int .i64 4, .int .i64 0, .int .i64 0, .int .i64 0], .int .i64 1, .agg #[.int .i64 4, .bool false, .int .i64 1]] (by rfl) rfl rfl (by (try simp only [List.map_toArray, List.map_cons, List.map_nil]); first | done | rfl) ?_
     refine (flat_Before.calls 2 none 0 [] 0 none 0 [] As cs awS 4 0 0 0 At ct awT 4 0 0 0 1 4 false 1 3 4 false 1 0 we2 (Kd.C_nil _ _) (Nat.le_refl _) (Kd.C_nil _ _) (Nat.le_refl _) (Kd.C_below CS.out BS.out) LS.out (Kd.C_below CT.out BT.out) LT.out (fun es _ e _ x s n => ahead_tot _ (by have := fuelOf_le awS; omega) _ e x s n) aw_3).mono ?_
     rintro e we3 ⟨rfl, hb⟩
     refine ⟨_, rfl, ?_⟩
     have n_HB := Aside0.mk (below_step HB.out hb)
     have n_BS := Aside0.mk (below_step BS.out hb)
     have n_BT := Aside0.mk (below_step BT.out hb)
     have n_X_g1 := Aside0.mk (blk_below X_g1.out hb)
     have n_X_g3 := Aside0.mk (blk_below X_g3.out hb)
     have n_X_g4 := Aside0.mk (blk_below X_g4.out hb)
     have n_X_g7 := Aside0.mk (blk_below X_g7.out hb)
     have n_X_g10 := Aside0.mk (blk_below X_g10.out hb)
     have n_X_g13 := Aside0.mk (blk_below X_g13.out hb)
     clear HB BS BT X_g1 X_g3 X_g4 X_g7 X_g10 X_g13
     have HB := n_HB
     have BS := n_BS
     have BT := n_BT
     have X_g1 := n_X_g1
     have X_g3 := n_X_g3
     have X_g4 := n_X_g4
     have X_g7 := n_X_g7
     have X_g10 := n_X_g10
     have X_g13 := n_X_g13
     clear n_HB n_BS n_BT n_X_g1 n_X_g3 n_X_g4 n_X_g7 n_X_g10 n_X_g13
     clear hb
     refine hK.out _ _ (HSS.out _ X_g1.out X_g3.out X_g4.out) (fun hHeld => ?_)
     clear hK K
     refine norm_ (a' := ?_) ?_ ?_
     rotate_left
     ·show Act.put _ (some 53) _ = _
      simp only [Act.put, lz1, lz2, lz3, i64_w, i32_w]
      rfl
     refine pure_ (i := 5) (N := some 48) (v := ?_) (a' := ?_) #[true, true, true, true, true, true, false, false, false, true, false, false, false] rfl rfl (any_of HT_.out (by kernel_rfl)) (fun _ _ _ h => h) (Or.inl ⟨by rfl, ?_⟩) ?_ ?_
     rotate_left
     ·intro w'
      go_simp
      with_reducible rfl
     rotate_left
     ·simp only [Act.put, lz1, lz2, lz3, i64_w, i32_w]
      rfl
     refine pure_ (i := 6) (N := some 54) (v := ?_) (a' := ?_) #[true, true, true, true, true, true, true, false, false, true, false, false, false] rfl rfl (any_of HT_.out (by kernel_rfl)) (fun _ _ _ h => h) (Or.inl ⟨by rfl, ?_⟩) ?_ ?_
     rotate_left
     ·intro w'
      go_simp
      with_reducible rfl
     rotate_left
     ·simp only [Act.put, lz1, lz2, lz3, i64_w, i32_w]
      rfl
     refine pure_ (i := 7) (N := some 55) (v := ?_) (a' := ?_) #[true, true, true, true, true, true, true, true, false, true, false, false, false] rfl rfl (any_of HT_.out (by kernel_rfl)) (fun _ _ _ h => h) (Or.inl ⟨by rfl, ?_⟩) ?_ ?_
     rotate_left
     ·intro w'
      go_simp
      with_reducible rfl
     rotate_left
     ·simp only [Act.put, lz1, lz2, lz3, i64_w, i32_w]
      rfl
     refine pure_ (i := 8) (N := some 56) (v := ?_) (a' := ?_) #[true, true, true, true, true, true, true, true, true, true, false, false, false] rfl rfl (any_of HT_.out (by kernel_rfl)) (fun _ _ _ h => h) (Or.inl ⟨by rfl, ?_⟩) ?_ ?_
     rotate_left
     ·intro w'
      go_simp
      with_reducible rfl
     rotate_left
     ·simp only [Act.put, lz1, lz2, lz3, i64_w, i32_w]
      rfl
     refine pure_ (i := 10) (N := some 12) (v := ?_) (a' := ?_) #[true, true, true, true, true, true, true, true, true, true, true, false, false] rfl rfl (any_of HT_.out (by kernel_rfl)) (fun _ _ _ h => h) (Or.inl ⟨by rfl, ?_⟩) ?_ ?_
     rotate_left
     ·intro w'
      go_simp
      with_reducible rfl
     rotate_left
     ·simp only [Act.put, lz1, lz2, lz3, i64_w, i32_w]
      rfl
     refine last_ (i := 11) (N := none) #[true, true, true, true, true, true, true, true, true, true, true, true, false] rfl rfl (one_of HT_.out (by kernel_rfl)) (by decide) (fun K hK => ?_)
     rw [if_pos (by rfl)]
     refine wp_store_row 35 (.tmp 13) (.tmp 55) rfl g13 #[.int .i64 4, .bool false, .int .i64 1] rfl rfl 35 _ X_g13.out info35s rfl (by simp [Value.oneCell']) ?_
     refine hK.out _ _ ?_
     clear hK K
     refine pure_ (i := 12) (N := some 14) (v := ?_) (a' := ?_) #[true, true, true, true, true, true, true, true, true, true, true, true, true] rfl rfl (any_of HT_.out (by kernel_rfl)) (fun _ _ _ h => h) (Or.inl ⟨by rfl, ?_⟩) ?_ ?_
     rotate_left
     ·intro w'
      go_simp
      with_reducible rfl
     rotate_left
     ·simp only [Act.put, lz1, lz2, lz3, i64_w, i32_w]
      rfl
     refine done_ (done_of HT_.out (by kernel_rfl)) ?_
     exact ⟨g13, rfl, below_setRow _ HB.out G_g13_HB.out, below_setRow _ BS.out G_g13_BS.out, below_setRow _ BT.out G_g13_BT.out, (setRow_other _ g13 g1 _ N_g1_g13.out).trans X_g1.out, (setRow_other _ g13 g3 _ N_g3_g13.out).trans X_g3.out, (setRow_other _ g13 g4 _ N_g4_g13.out).trans X_g4.out, (setRow_other _ g13 g7 _ N_g7_g13.out).trans X_g7.out, (setRow_other _ g13 g10 _ N_g10_g13.out).trans X_g10.out, setRow_heap _ g13 _ _ 35 (0, 0) X_g13.out, N_g1_g13.out, N_g3_g13.out, N_g4_g13.out, N_g7_g13.out, N_g10_g13.out, G_g13_HB.out, G_g13_BS.out, G_g13_BT.out⟩
   ·skip
    refine box_step ?hg (N := 13) ?hd (cs := #[.int .i64 0, .bool false, .int .i64 0]) (t := 35) ?hr ?_
    (case hd => rfl)
    (case hg => rfl)
    (case hr => first | (go_simp; done) | (go_simp; rfl))
    intro g13 hg we1 hbox hb
    have G_g13_HB : Aside0 (w.heap.size ≤ g13) := ⟨by have := HB.out.size; omega⟩
    have G_g13_BS : Aside0 (w_5.heap.size ≤ g13) := ⟨by have := BS.out.size; omega⟩
    have G_g13_BT : Aside0 (w_8.heap.size ≤ g13) := ⟨by have := BT.out.size; omega⟩
    have N_g1_g13 : Aside0 (g1 ≠ g13) := ⟨by have := blk_lt X_g1.out; omega⟩
    have N_g3_g13 : Aside0 (g3 ≠ g13) := ⟨by have := blk_lt X_g3.out; omega⟩
    have N_g4_g13 : Aside0 (g4 ≠ g13) := ⟨by have := blk_lt X_g4.out; omega⟩
    have N_g7_g13 : Aside0 (g7 ≠ g13) := ⟨by have := blk_lt X_g7.out; omega⟩
    have N_g10_g13 : Aside0 (g10 ≠ g13) := ⟨by have := blk_lt X_g10.out; omega⟩
    have n_HB := Aside0.mk (below_step HB.out hb)
    have n_BS := Aside0.mk (below_step BS.out hb)
    have n_BT := Aside0.mk (below_step BT.out hb)
    have n_X_g1 := Aside0.mk (blk_below X_g1.out hb)
    have n_X_g3 := Aside0.mk (blk_below X_g3.out hb)
    have n_X_g4 := Aside0.mk (blk_below X_g4.out hb)
    have n_X_g7 := Aside0.mk (blk_below X_g7.out hb)
    have n_X_g10 := Aside0.mk (blk_below X_g10.out hb)
    clear HB BS BT X_g1 X_g3 X_g4 X_g7 X_g10
    have HB := n_HB
    have BS := n_BS
    have BT := n_BT
    have X_g1 := n_X_g1
    have X_g3 := n_X_g3
    have X_g4 := n_X_g4
    have X_g7 := n_X_g7
    have X_g10 := n_X_g10
    clear n_HB n_BS n_BT n_X_g1 n_X_g3 n_X_g4 n_X_g7 n_X_g10
    have X_g13 := Aside0.mk hbox
    clear hb hg hbox
    refine hK.out _ _ (HSS.out _ X_g1.out X_g3.out X_g4.out) (fun hHeld => ?_)
    clear hK K
    refine norm_ (a' := ?_) ?_ ?_
    rotate_left
    ·show Act.put _ (some 13) _ = _
     simp only [Act.put, lz1, lz2, lz3, i64_w, i32_w]
     rfl
    refine one_ (i := 3) (N := some 52) #[true, true, true, true, false, false, false, false, false, true, false, false, false] rfl rfl (one_of HT_.out (by kernel_rfl)) (by decide) (fun K hK => ?_)
    refine goes_ Try.func18 (by kernel_rfl) rfl #[.int .i64 4, .int .i64 1] (by rfl) rfl rfl (by (try simp only [List.map_toArray, List.map_cons, List.map_nil]); first | done | rfl) ?_
    refine (intarsialaw30_at.calls 4 1 4 false 1 we1 rfl).mono ?_
    rintro e we2 ⟨rfl, hb⟩
    refine ⟨_, rfl, ?_⟩
    have n_HB := Aside0.mk (below_step HB.out hb)
    have n_BS := Aside0.mk (below_step BS.out hb)
    have n_BT := Aside0.mk (below_step BT.out hb)
    have n_X_g1 := Aside0.mk (blk_below X_g1.out hb)
    have n_X_g3 := Aside0.mk (blk_below X_g3.out hb)
    have n_X_g4 := Aside0.mk (blk_below X_g4.out hb)
    have n_X_g7 := Aside0.mk (blk_below X_g7.out hb)
    have n_X_g10 := Aside0.mk (blk_below X_g10.out hb)
    have n_X_g13 := Aside0.mk (blk_below X_g13.out hb)
    clear HB BS BT X_g1 X_g3 X_g4 X_g7 X_g10 X_g13
    have HB := n_HB
    have BS := n_BS
    have BT := n_BT
    have X_g1 := n_X_g1
    have X_g3 := n_X_g3
    have X_g4 := n_X_g4
    have X_g7 := n_X_g7
    have X_g10 := n_X_g10
    have X_g13 := n_X_g13
    clear n_HB n_BS n_BT n_X_g1 n_X_g3 n_X_g4 n_X_g7 n_X_g10 n_X_g13
    clear hb
    refine hK.out _ _ (HSS.out _ X_g1.out X_g3.out X_g4.out) (fun hHeld => ?_)
    clear hK K
    refine norm_ (a' := ?_) ?_ ?_
    rotate_left
    ·show Act.put _ (some 52) _ = _
     simp only [Act.put, lz1, lz2, lz3, i64_w, i32_w]
     rfl
    refine one_ (i := 4) (N := some 53) #[true, true, true, true, true, false, false, false, false, true, false, false, false] rfl rfl (one_of HT_.out (by kernel_rfl)) (by decide) (fun K hK => ?_)
    refine goes_ Try.func10 (by kernel_rfl) rfl #[.agg #[.int .i64 2, .slice none 0 0, .int .i64 0, .slice none 0 0], .agg #[.slice As awS.length cs, .int .i64 4, .int .i64 0, .int .i64 0, .int .i64 0], .agg #[.slice At awT.length ct, .int .i64 4, .int .i64 0, .int .i64 0, .int .i64 0], .int .i64 1, .agg #[.int .i64 4, .bool false, .int .i64 1]] (by rfl) rfl rfl (by (try simp only [List.map_toArray, List.map_cons, List.map_nil]); first | done | rfl) ?_
    refine (flat_Before.calls 2 none 0 [] 0 none 0 [] As cs awS 4 0 0 0 At ct awT 4 0 0 0 1 4 false 1 3 4 false 1 0 we2 (Kd.C_nil _ _) (Nat.le_refl _) (Kd.C_nil _ _) (Nat.le_refl _) (Kd.C_below CS.out BS.out) LS.out (Kd.C_below CT.out BT.out) LT.out (fun es _ e _ x s n => ahead_tot _ (by have := fuelOf_le awS; omega) _ e x s n) aw_3).mono ?_
    rintro e we3 ⟨rfl, hb⟩
    refine ⟨_, rfl, ?_⟩
    have n_HB := Aside0.mk (below_step HB.out hb)
    have n_BS := Aside0.mk (below_step BS.out hb)
    have n_BT := Aside0.mk (below_step BT.out hb)
    have n_X_g1 := Aside0.mk (blk_below X_g1.out hb)
    have n_X_g3 := Aside0.mk (blk_below X_g3.out hb)
    have n_X_g4 := Aside0.mk (blk_below X_g4.out hb)
    have n_X_g7 := Aside0.mk (blk_below X_g7.out hb)
    have n_X_g10 := Aside0.mk (blk_below X_g10.out hb)
    have n_X_g13 := Aside0.mk (blk_below X_g13.out hb)
    clear HB BS BT X_g1 X_g3 X_g4 X_g7 X_g10 X_g13
    have HB := n_HB
    have BS := n_BS
    have BT := n_BT
    have X_g1 := n_X_g1
    have X_g3 := n_X_g3
    have X_g4 := n_X_g4
    have X_g7 := n_X_g7
    have X_g10 := n_X_g10
    have X_g13 := n_X_g13
    clear n_HB n_BS n_BT n_X_g1 n_X_g3 n_X_g4 n_X_g7 n_X_g10 n_X_g13
    clear hb
    refine hK.out _ _ (HSS.out _ X_g1.out X_g3.out X_g4.out) (fun hHeld => ?_)
    clear hK K
    refine norm_ (a' := ?_) ?_ ?_
    rotate_left
    ·show Act.put _ (some 53) _ = _
     simp only [Act.put, lz1, lz2, lz3, i64_w, i32_w]
     rfl
    refine pure_ (i := 5) (N := some 48) (v := ?_) (a' := ?_) #[true, true, true, true, true, true, false, false, false, true, false, false, false] rfl rfl (any_of HT_.out (by kernel_rfl)) (fun _ _ _ h => h) (Or.inl ⟨by rfl, ?_⟩) ?_ ?_
    rotate_left
    ·intro w'
     go_simp
     with_reducible rfl
    rotate_left
    ·simp only [Act.put, lz1, lz2, lz3, i64_w, i32_w]
     rfl
    refine pure_ (i := 6) (N := some 54) (v := ?_) (a' := ?_) #[true, true, true, true, true, true, true, false, false, true, false, false, false] rfl rfl (any_of HT_.out (by kernel_rfl)) (fun _ _ _ h => h) (Or.inl ⟨by rfl, ?_⟩) ?_ ?_
    rotate_left
    ·intro w'
     go_simp
     with_reducible rfl
    rotate_left
    ·simp only [Act.put, lz1, lz2, lz3, i64_w, i32_w]
     rfl
    refine pure_ (i := 7) (N := some 55) (v := ?_) (a' := ?_) #[true, true, true, true, true, true, true, true, false, true, false, false, false] rfl rfl (any_of HT_.out (by kernel_rfl)) (fun _ _ _ h => h) (Or.inl ⟨by rfl, ?_⟩) ?_ ?_
    rotate_left
    ·intro w'
     go_simp
     with_reducible rfl
    rotate_left
    ·simp only [Act.put, lz1, lz2, lz3, i64_w, i32_w]
     rfl
    refine pure_ (i := 8) (N := some 56) (v := ?_) (a' := ?_) #[true, true, true, true, true, true, true, true, true, true, false, false, false] rfl rfl (any_of HT_.out (by kernel_rfl)) (fun _ _ _ h => h) (Or.inl ⟨by rfl, ?_⟩) ?_ ?_
    rotate_left
    ·intro w'
     go_simp
     with_reducible rfl
    rotate_left
    ·simp only [Act.put, lz1, lz2, lz3, i64_w, i32_w]
     rfl
    refine pure_ (i := 10) (N := some 12) (v := ?_) (a' := ?_) #[true, true, true, true, true, true, true, true, true, true, true, false, false] rfl rfl (any_of HT_.out (by kernel_rfl)) (fun _ _ _ h => h) (Or.inl ⟨by rfl, ?_⟩) ?_ ?_
    rotate_left
    ·intro w'
     go_simp
     with_reducible rfl
    rotate_left
    ·simp only [Act.put, lz1, lz2, lz3, i64_w, i32_w]
     rfl
    refine last_ (i := 11) (N := none) #[true, true, true, true, true, true, true, true, true, true, true, true, false] rfl rfl (one_of HT_.out (by kernel_rfl)) (by decide) (fun K hK => ?_)
    rw [if_pos (by rfl)]
    refine wp_store_row 35 (.tmp 13) (.tmp 55) rfl g13 #[.int .i64 4, .bool false, .int .i64 1] rfl rfl 35 _ X_g13.out info35s rfl (by simp [Value.oneCell']) ?_
    refine hK.out _ _ ?_
    clear hK K
    refine pure_ (i := 12) (N := some 14) (v := ?_) (a' := ?_) #[true, true, true, true, true, true, true, true, true, true, true, true, true] rfl rfl (any_of HT_.out (by kernel_rfl)) (fun _ _ _ h => h) (Or.inl ⟨by rfl, ?_⟩) ?_ ?_
    rotate_left
    ·intro w'
     go_simp
     with_reducible rfl
    rotate_left
    ·simp only [Act.put, lz1, lz2, lz3, i64_w, i32_w]
     rfl
    refine done_ (done_of HT_.out (by kernel_rfl)) ?_
    exact ⟨g13, rfl, below_setRow _ HB.out G_g13_HB.out, below_setRow _ BS.out G_g13_BS.out, below_setRow _ BT.out G_g13_BT.out, (setRow_other _ g13 g1 _ N_g1_g13.out).trans X_g1.out, (setRow_other _ g13 g3 _ N_g3_g13.out).trans X_g3.out, (setRow_other _ g13 g4 _ N_g4_g13.out).trans X_g4.out, (setRow_other _ g13 g7 _ N_g7_g13.out).trans X_g7.out, (setRow_other _ g13 g10 _ N_g10_g13.out).trans X_g10.out, setRow_heap _ g13 _ _ 35 (0, 0) X_g13.out, N_g1_g13.out, N_g3_g13.out, N_g4_g13.out, N_g7_g13.out, N_g10_g13.out, G_g13_HB.out, G_g13_BS.out, G_g13_BT.out⟩
  clear hK
  have n_HB := Aside0.mk (below_drew1' HB.out)
  have n_BS := Aside0.mk (below_drew1' BS.out)
  have n_BT := Aside0.mk (below_drew1' BT.out)
  have n_X_g1 := Aside0.mk (blk_drew X_g1.out)
  have n_X_g3 := Aside0.mk (blk_drew X_g3.out)
  have n_X_g4 := Aside0.mk (blk_drew X_g4.out)
  have n_X_g7 := Aside0.mk (blk_drew X_g7.out)
  clear HB BS BT X_g1 X_g3 X_g4 X_g7
  have HB := n_HB
  have BS := n_BS
  have BT := n_BT
  have X_g1 := n_X_g1
  have X_g3 := n_X_g3
  have X_g4 := n_X_g4
  have X_g7 := n_X_g7
  clear n_HB n_BS n_BT n_X_g1 n_X_g3 n_X_g4 n_X_g7
  refine start_ (n := 13) (S := fun w' => w'.cell? ⟨g1, 0, none⟩ = some (.int .i64 2) ∧ w'.cell? ⟨g1, 1, none⟩ = some (.slice none 0 0) ∧ w'.cell? ⟨g1, 2, none⟩ = some (.int .i64 0) ∧ w'.cell? ⟨g1, 3, none⟩ = some (.slice none 0 0) ∧ w'.cell? ⟨g3, 0, none⟩ = some (.slice As awS.length cs) ∧ w'.cell? ⟨g3, 1, none⟩ = some (.int .i64 4) ∧ w'.cell? ⟨g3, 2, none⟩ = some (.int .i64 0) ∧ w'.cell? ⟨g3, 3, none⟩ = some (.int .i64 0) ∧ w'.cell? ⟨g3, 4, none⟩ = some (.int .i64 0) ∧ w'.cell? ⟨g4, 0, none⟩ = some (.slice At awT.length ct) ∧ w'.cell? ⟨g4, 1, none⟩ = some (.int .i64 4) ∧ w'.cell? ⟨g4, 2, none⟩ = some (.int .i64 0) ∧ w'.cell? ⟨g4, 3, none⟩ = some (.int .i64 0) ∧ w'.cell? ⟨g4, 4, none⟩ = some (.int .i64 0)) (ds := [11]) #[false, false, false, false, false, false, false, false, false, false, false, false, false] (by kernel_rfl) rfl rfl (HSS.out _ X_g1.out X_g3.out X_g4.out) (fun hHeld => ?_); refine with_tabW aw7_tab aw7_bits (fun HT_ HW_ => ?_)
  generalize World.drew _ = wd at HB BS BT X_g1 X_g3 X_g4 X_g7 hHeld ⊢
  refine take_ (i := 0) (N := some 40) (v := ?_) (a' := ?_) #[true, false, false, false, false, false, false, false, false, false, false, false, false] rfl rfl (take_ofW HT_.out HW_.out (by kernel_rfl)) (fun _ _ _ h => h) (Or.inl ⟨by rfl, ?_⟩) hHeld ?_ ?_
  rotate_left
  ·rintro w' ⟨s0, s1, s2, s3, s4, s5, s6, s7, s8, s9, s10, s11, s12, s13⟩
   go_simp
   with_reducible rfl
  rotate_left
  ·simp only [Act.put, lz1, lz2, lz3, i64_w, i32_w]
   rfl
  refine take_ (i := 1) (N := some 41) (v := ?_) (a' := ?_) #[true, true, false, false, false, false, false, false, false, false, false, false, false] rfl rfl (take_ofW HT_.out HW_.out (by kernel_rfl)) (fun _ _ _ h => h) (Or.inl ⟨by rfl, ?_⟩) hHeld ?_ ?_
  rotate_left
  ·rintro w' ⟨s0, s1, s2, s3, s4, s5, s6, s7, s8, s9, s10, s11, s12, s13⟩
   go_simp
   with_reducible rfl
  rotate_left
  ·simp only [Act.put, lz1, lz2, lz3, i64_w, i32_w]
   rfl
  refine take_ (i := 2) (N := some 42) (v := ?_) (a' := ?_) #[true, true, true, false, false, false, false, false, false, false, false, false, false] rfl rfl (take_ofW HT_.out HW_.out (by kernel_rfl)) (fun _ _ _ h => h) (Or.inl ⟨by rfl, ?_⟩) hHeld ?_ ?_
  rotate_left
  ·rintro w' ⟨s0, s1, s2, s3, s4, s5, s6, s7, s8, s9, s10, s11, s12, s13⟩
   go_simp
   with_reducible rfl
  rotate_left
  ·simp only [Act.put, lz1, lz2, lz3, i64_w, i32_w]
   rfl
  refine two_ (i := 3) (j := 9) (Ni := some 43) (Nj := some 10) #[true, true, true, true, false, false, false, false, false, false, false, false, false] #[true, true, true, false, false, false, false, false, false, true, false, false, false] rfl rfl rfl rfl (two_of HT_.out (by kernel_rfl)) (by decide) (by decide) (fun K hK => ?_) (fun K hK => ?_)
  ·skip
   refine goes_ Try.func18 (by kernel_rfl) rfl #[.int .i64 5, .int .i64 0] (by rfl) rfl rfl (by (try simp only [List.map_toArray, List.map_cons, List.map_nil]); first | done | rfl) ?_
   refine (intarsialaw30_at.calls 5 0 5 false 0 wd rfl).mono ?_
   rintro e we1 ⟨rfl, hb⟩
   refine ⟨_, rfl, ?_⟩
   have n_HB := Aside0.mk (below_step HB.out hb)
   have n_BS := Aside0.mk (below_step BS.out hb)
   have n_BT := Aside0.mk (below_step BT.out hb)
   have n_X_g1 := Aside0.mk (blk_below X_g1.out hb)
   have n_X_g3 := Aside0.mk (blk_below X_g3.out hb)
   have n_X_g4 := Aside0.mk (blk_below X_g4.out hb)
   have n_X_g7 := Aside0.mk (blk_below X_g7.out hb)
   clear HB BS BT X_g1 X_g3 X_g4 X_g7
   have HB := n_HB
   have BS := n_BS
   have BT := n_BT
   have X_g1 := n_X_g1
   have X_g3 := n_X_g3
   have X_g4 := n_X_g4
   have X_g7 := n_X_g7
   clear n_HB n_BS n_BT n_X_g1 n_X_g3 n_X_g4 n_X_g7
   clear hb
   refine hK.out _ _ (HSS.out _ X_g1.out X_g3.out X_g4.out) (fun hHeld => ?_)
   clear hK K
   refine norm_ (a' := ?_) ?_ ?_
   rotate_left
   ·show Act.put _ (some 43) _ = _
    simp only [Act.put, lz1, lz2, lz3, i64_w, i32_w]
    rfl
   refine two_ (i := 4) (j := 9) (Ni := some 44) (Nj := some 10) #[true, true, true, true, true, false, false, false, false, false, false, false, false] #[true, true, true, true, false, false, false, false, false, true, false, false, false] rfl rfl rfl rfl (two_of HT_.out (by kernel_rfl)) (by decide) (by decide) (fun K hK => ?_) (fun K hK => ?_)
   ·skip
    refine goes_ Try.func10 (by kernel_rfl) rfl #[.agg #[.int .i64 2, .slice none 0 0, .int .i64 0, .slice none 0 0], .agg #[.slice As awS.length cs, .int .i64 4, .int .i64 0, .int .i64 0, .int .i64 0], .agg #[.slice At awT.length ct, .int .i64 4, .int .i64 0, .int .i64 0, .int .i64 0], .int .i64 1, .agg #[.int .i64 5, .bool false, .int .i64 0]] (by rfl) rfl rfl (by (try simp only [List.map_toArray, List.map_cons, List.map_nil]); first | done | rfl) ?_
    refine (flat_Before.calls 2 none 0 [] 0 none 0 [] As cs awS 4 0 0 0 At ct awT 4 0 0 0 1 5 false 0 1 0 false 0 0 we1 (Kd.C_nil _ _) (Nat.le_refl _) (Kd.C_nil _ _) (Nat.le_refl _) (Kd.C_below CS.out BS.out) LS.out (Kd.C_below CT.out BT.out) LT.out (fun es _ e _ x s n => ahead_tot _ (by have := fuelOf_le awS; omega) _ e x s n) aw_2).mono ?_
    rintro e we2 ⟨rfl, hb⟩
    refine ⟨_, rfl, ?_⟩
    have n_HB := Aside0.mk (below_step HB.out hb)
    have n_BS := Aside0.mk (below_step BS.out hb)
    have n_BT := Aside0.mk (below_step BT.out hb)
    have n_X_g1 := Aside0.mk (blk_below X_g1.out hb)
    have n_X_g3 := Aside0.mk (blk_below X_g3.out hb)
    have n_X_g4 := Aside0.mk (blk_below X_g4.out hb)
    have n_X_g7 := Aside0.mk (blk_below X_g7.out hb)
    clear HB BS BT X_g1 X_g3 X_g4 X_g7
    have HB := n_HB
    have BS := n_BS
    have BT := n_BT
    have X_g1 := n_X_g1
    have X_g3 := n_X_g3
    have X_g4 := n_X_g4
    have X_g7 := n_X_g7
    clear n_HB n_BS n_BT n_X_g1 n_X_g3 n_X_g4 n_X_g7
    clear hb
    refine hK.out _ _ (HSS.out _ X_g1.out X_g3.out X_g4.out) (fun hHeld => ?_)
    clear hK K
    refine norm_ (a' := ?_) ?_ ?_
    rotate_left
    ·show Act.put _ (some 44) _ = _
     simp only [Act.put, lz1, lz2, lz3, i64_w, i32_w]
     rfl
    refine pure_ (i := 5) (N := some 39) (v := ?_) (a' := ?_) #[true, true, true, true, true, true, false, false, false, false, false, false, false] rfl rfl (any_of HT_.out (by kernel_rfl)) (fun _ _ _ h => h) (Or.inl ⟨by rfl, ?_⟩) ?_ ?_
    rotate_left
    ·intro w'
     go_simp
     with_reducible rfl
    rotate_left
    ·simp only [Act.put, lz1, lz2, lz3, i64_w, i32_w]
     rfl
    refine pure_ (i := 6) (N := some 45) (v := ?_) (a' := ?_) #[true, true, true, true, true, true, true, false, false, false, false, false, false] rfl rfl (any_of HT_.out (by kernel_rfl)) (fun _ _ _ h => h) (Or.inl ⟨by rfl, ?_⟩) ?_ ?_
    rotate_left
    ·intro w'
     go_simp
     with_reducible rfl
    rotate_left
    ·simp only [Act.put, lz1, lz2, lz3, i64_w, i32_w]
     rfl
    refine pure_ (i := 7) (N := some 46) (v := ?_) (a' := ?_) #[true, true, true, true, true, true, true, true, false, false, false, false, false] rfl rfl (any_of HT_.out (by kernel_rfl)) (fun _ _ _ h => h) (Or.inl ⟨by rfl, ?_⟩) ?_ ?_
    rotate_left
    ·intro w'
     go_simp
     with_reducible rfl
    rotate_left
    ·simp only [Act.put, lz1, lz2, lz3, i64_w, i32_w]
     rfl
    refine pure_ (i := 8) (N := some 47) (v := ?_) (a' := ?_) #[true, true, true, true, true, true, true, true, true, false, false, false, false] rfl rfl (any_of HT_.out (by kernel_rfl)) (fun _ _ _ h => h) (Or.inl ⟨by rfl, ?_⟩) ?_ ?_
    rotate_left
    ·intro w'
     go_simp
     with_reducible rfl
    rotate_left
    ·simp only [Act.put, lz1, lz2, lz3, i64_w, i32_w]
     rfl
    refine one_ (i := 9) (N := some 10) #[true, true, true, true, true, true, true, true, true, true, false, false, false] rfl rfl (one_of HT_.out (by kernel_rfl)) (by decide) (fun K hK => ?_)
    refine box_step ?hg (N := 10) ?hd (cs := #[.int .i64 0, .bool false, .int .i64 0]) (t := 35) ?hr ?_
    (case hd => rfl)
    (case hg => rfl)
    (case hr => first | (go_simp; done) | (go_simp; rfl))
    intro g10 hg we3 hbox hb
    have G_g10_HB : Aside0 (w.heap.size ≤ g10) := ⟨by have := HB.out.size; omega⟩
    have G_g10_BS : Aside0 (w_5.heap.size ≤ g10) := ⟨by have := BS.out.size; omega⟩
    have G_g10_BT : Aside0 (w_8.heap.size ≤ g10) := ⟨by have := BT.out.size; omega⟩
    have N_g1_g10 : Aside0 (g1 ≠ g10) := ⟨by have := blk_lt X_g1.out; omega⟩
    have N_g3_g10 : Aside0 (g3 ≠ g10) := ⟨by have := blk_lt X_g3.out; omega⟩
    have N_g4_g10 : Aside0 (g4 ≠ g10) := ⟨by have := blk_lt X_g4.out; omega⟩
    have N_g7_g10 : Aside0 (g7 ≠ g10) := ⟨by have := blk_lt X_g7.out; omega⟩
    have n_HB := Aside0.mk (below_step HB.out hb)
    have n_BS := Aside0.mk (below_step BS.out hb)
    have n_BT := Aside0.mk (below_step BT.out hb)
    have n_X_g1 := Aside0.mk (blk_below X_g1.out hb)
    have n_X_g3 := Aside0.mk (blk_below X_g3.out hb)
    have n_X_g4 := Aside0.mk (blk_below X_g4.out hb)
    have n_X_g7 := Aside0.mk (blk_below X_g7.out hb)
    clear HB BS BT X_g1 X_g3 X_g4 X_g7
    have HB := n_HB
    have BS := n_BS
    have BT := n_BT
    have X_g1 := n_X_g1
    have X_g3 := n_X_g3
    have X_g4 := n_X_g4
    have X_g7 := n_X_g7
    clear n_HB n_BS n_BT n_X_g1 n_X_g3 n_X_g4 n_X_g7
    have X_g10 := Aside0.mk hbox
    clear hb hg hbox
    refine hK.out _ _ (HSS.out _ X_g1.out X_g3.out X_g4.out) (fun hHeld => ?_)
    clear hK K
    refine norm_ (a' := ?_) ?_ ?_
    rotate_left
    ·show Act.put _ (some 10) _ = _
     simp only [Act.put, lz1, lz2, lz3, i64_w, i32_w]
     rfl
    refine pure_ (i := 10) (N := some 9) (v := ?_) (a' := ?_) #[true, true, true, true, true, true, true, true, true, true, true, false, false] rfl rfl (any_of HT_.out (by kernel_rfl)) (fun _ _ _ h => h) (Or.inl ⟨by rfl, ?_⟩) ?_ ?_
    rotate_left
    ·intro w'
     go_simp
     with_reducible rfl
    rotate_left
    ·simp only [Act.put, lz1, lz2, lz3, i64_w, i32_w]
     rfl
    refine last_ (i := 11) (N := none) #[true, true, true, true, true, true, true, true, true, true, true, true, false] rfl rfl (one_of HT_.out (by kernel_rfl)) (by decide) (fun K hK => ?_)
    rw [if_pos (by rfl)]
    refine wp_store_row 35 (.tmp 10) (.tmp 46) rfl g10 #[.int .i64 0, .bool false, .int .i64 0] rfl rfl 35 _ X_g10.out info35s rfl (by simp [Value.oneCell']) ?_
    refine hK.out _ _ ?_
    clear hK K
    refine pure_ (i := 12) (N := some 11) (v := ?_) (a' := ?_) #[true, true, true, true, true, true, true, true, true, true, true, true, true] rfl rfl (any_of HT_.out (by kernel_rfl)) (fun _ _ _ h => h) (Or.inl ⟨by rfl, ?_⟩) ?_ ?_
    rotate_left
    ·intro w'
     go_simp
     with_reducible rfl
    rotate_left
    ·simp only [Act.put, lz1, lz2, lz3, i64_w, i32_w]
     rfl
    refine done_ (done_of HT_.out (by kernel_rfl)) ?_
    exact ⟨g10, rfl, below_setRow _ HB.out G_g10_HB.out, below_setRow _ BS.out G_g10_BS.out, below_setRow _ BT.out G_g10_BT.out, (setRow_other _ g10 g1 _ N_g1_g10.out).trans X_g1.out, (setRow_other _ g10 g3 _ N_g3_g10.out).trans X_g3.out, (setRow_other _ g10 g4 _ N_g4_g10.out).trans X_g4.out, (setRow_other _ g10 g7 _ N_g7_g10.out).trans X_g7.out, setRow_heap _ g10 _ _ 35 (0, 0) X_g10.out, N_g1_g10.out, N_g3_g10.out, N_g4_g10.out, N_g7_g10.out, G_g10_HB.out, G_g10_BS.out, G_g10_BT.out⟩
   ·skip
    refine box_step ?hg (N := 10) ?hd (cs := #[.int .i64 0, .bool false, .int .i64 0]) (t := 35) ?hr ?_
    (case hd => rfl)
    (case hg => rfl)
    (case hr => first | (go_simp; done) | (go_simp; rfl))
    intro g10 hg we2 hbox hb
    have G_g10_HB : Aside0 (w.heap.size ≤ g10) := ⟨by have := HB.out.size; omega⟩
    have G_g10_BS : Aside0 (w_5.heap.size ≤ g10) := ⟨by have := BS.out.size; omega⟩
    have G_g10_BT : Aside0 (w_8.heap.size ≤ g10) := ⟨by have := BT.out.size; omega⟩
    have N_g1_g10 : Aside0 (g1 ≠ g10) := ⟨by have := blk_lt X_g1.out; omega⟩
    have N_g3_g10 : Aside0 (g3 ≠ g10) := ⟨by have := blk_lt X_g3.out; omega⟩
    have N_g4_g10 : Aside0 (g4 ≠ g10) := ⟨by have := blk_lt X_g4.out; omega⟩
    have N_g7_g10 : Aside0 (g7 ≠ g10) := ⟨by have := blk_lt X_g7.out; omega⟩
    have n_HB := Aside0.mk (below_step HB.out hb)
    have n_BS := Aside0.mk (below_step BS.out hb)
    have n_BT := Aside0.mk (below_step BT.out hb)
    have n_X_g1 := Aside0.mk (blk_below X_g1.out hb)
    have n_X_g3 := Aside0.mk (blk_below X_g3.out hb)
    have n_X_g4 := Aside0.mk (blk_below X_g4.out hb)
    have n_X_g7 := Aside0.mk (blk_below X_g7.out hb)
    clear HB BS BT X_g1 X_g3 X_g4 X_g7
    have HB := n_HB
    have BS := n_BS
    have BT := n_BT
    have X_g1 := n_X_g1
    have X_g3 := n_X_g3
    have X_g4 := n_X_g4
    have X_g7 := n_X_g7
    clear n_HB n_BS n_BT n_X_g1 n_X_g3 n_X_g4 n_X_g7
    have X_g10 := Aside0.mk hbox
    clear hb hg hbox
    refine hK.out _ _ (HSS.out _ X_g1.out X_g3.out X_g4.out) (fun hHeld => ?_)
    clear hK K
    refine norm_ (a' := ?_) ?_ ?_
    rotate_left
    ·show Act.put _ (some 10) _ = _
     simp only [Act.put, lz1, lz2, lz3, i64_w, i32_w]
     rfl
    refine one_ (i := 4) (N := some 44) #[true, true, true, true, true, false, false, false, false, true, false, false, false] rfl rfl (one_of HT_.out (by kernel_rfl)) (by decide) (fun K hK => ?_)
    refine goes_ Try.func10 (by kernel_rfl) rfl #[.agg #[.int .i64 2, .slice none 0 0, .int .i64 0, .slice none 0 0], .agg #[.slice As awS.length cs, .int .i64 4, .int .i64 0, .int .i64 0, .int .i64 0], .agg #[.slice At awT.length ct, .int .i64 4, .int .i64 0, .int .i64 0, .int .i64 0], .int .i64 1, .agg #[.int .i64 5, .bool false, .int .i64 0]] (by rfl) rfl rfl (by (try simp only [List.map_toArray, List.map_cons, List.map_nil]); first | done | rfl) ?_
    refine (flat_Before.calls 2 none 0 [] 0 none 0 [] As cs awS 4 0 0 0 At ct awT 4 0 0 0 1 5 false 0 1 0 false 0 0 we2 (Kd.C_nil _ _) (Nat.le_refl _) (Kd.C_nil _ _) (Nat.le_refl _) (Kd.C_below CS.out BS.out) LS.out (Kd.C_below CT.out BT.out) LT.out (fun es _ e _ x s n => ahead_tot _ (by have := fuelOf_le awS; omega) _ e x s n) aw_2).mono ?_
    rintro e we3 ⟨rfl, hb⟩
    refine ⟨_, rfl, ?_⟩
    have n_HB := Aside0.mk (below_step HB.out hb)
    have n_BS := Aside0.mk (below_step BS.out hb)
    have n_BT := Aside0.mk (below_step BT.out hb)
    have n_X_g1 := Aside0.mk (blk_below X_g1.out hb)
    have n_X_g3 := Aside0.mk (blk_below X_g3.out hb)
    have n_X_g4 := Aside0.mk (blk_below X_g4.out hb)
    have n_X_g7 := Aside0.mk (blk_below X_g7.out hb)
    have n_X_g10 := Aside0.mk (blk_below X_g10.out hb)
    clear HB BS BT X_g1 X_g3 X_g4 X_g7 X_g10
    have HB := n_HB
    have BS := n_BS
    have BT := n_BT
    have X_g1 := n_X_g1
    have X_g3 := n_X_g3
    have X_g4 := n_X_g4
    have X_g7 := n_X_g7
    have X_g10 := n_X_g10
    clear n_HB n_BS n_BT n_X_g1 n_X_g3 n_X_g4 n_X_g7 n_X_g10
    clear hb
    refine hK.out _ _ (HSS.out _ X_g1.out X_g3.out X_g4.out) (fun hHeld => ?_)
    clear hK K
    refine norm_ (a' := ?_) ?_ ?_
    rotate_left
    ·show Act.put _ (some 44) _ = _
     simp only [Act.put, lz1, lz2, lz3, i64_w, i32_w]
     rfl
    refine pure_ (i := 5) (N := some 39) (v := ?_) (a' := ?_) #[true, true, true, true, true, true, false, false, false, true, false, false, false] rfl rfl (any_of HT_.out (by kernel_rfl)) (fun _ _ _ h => h) (Or.inl ⟨by rfl, ?_⟩) ?_ ?_
    rotate_left
    ·intro w'
     go_simp
     with_reducible rfl
    rotate_left
    ·simp only [Act.put, lz1, lz2, lz3, i64_w, i32_w]
     rfl
    refine pure_ (i := 6) (N := some 45) (v := ?_) (a' := ?_) #[true, true, true, true, true, true, true, false, false, true, false, false, false] rfl rfl (any_of HT_.out (by kernel_rfl)) (fun _ _ _ h => h) (Or.inl ⟨by rfl, ?_⟩) ?_ ?_
    rotate_left
    ·intro w'
     go_simp
     with_reducible rfl
    rotate_left
    ·simp only [Act.put, lz1, lz2, lz3, i64_w, i32_w]
     rfl
    refine pure_ (i := 7) (N := some 46) (v := ?_) (a' := ?_) #[true, true, true, true, true, true, true, true, false, true, false, false, false] rfl rfl (any_of HT_.out (by kernel_rfl)) (fun _ _ _ h => h) (Or.inl ⟨by rfl, ?_⟩) ?_ ?_
    rotate_left
    ·intro w'
     go_simp
     with_reducible rfl
    rotate_left
    ·simp only [Act.put, lz1, lz2, lz3, i64_w, i32_w]
     rfl
    refine pure_ (i := 8) (N := some 47) (v := ?_) (a' := ?_) #[true, true, true, true, true, true, true, true, true, true, false, false, false] rfl rfl (any_of HT_.out (by kernel_rfl)) (fun _ _ _ h => h) (Or.inl ⟨by rfl, ?_⟩) ?_ ?_
    rotate_left
    ·intro w'
     go_simp
     with_reducible rfl
    rotate_left
    ·simp only [Act.put, lz1, lz2, lz3, i64_w, i32_w]
     rfl
    refine pure_ (i := 10) (N := some 9) (v := ?_) (a' := ?_) #[true, true, true, true, true, true, true, true, true, true, true, false, false] rfl rfl (any_of HT_.out (by kernel_rfl)) (fun _ _ _ h => h) (Or.inl ⟨by rfl, ?_⟩) ?_ ?_
    rotate_left
    ·intro w'
     go_simp
     with_reducible rfl
    rotate_left
    ·simp only [Act.put, lz1, lz2, lz3, i64_w, i32_w]
     rfl
    refine last_ (i := 11) (N := none) #[true, true, true, true, true, true, true, true, true, true, true, true, false] rfl rfl (one_of HT_.out (by kernel_rfl)) (by decide) (fun K hK => ?_)
    rw [if_pos (by rfl)]
    refine wp_store_row 35 (.tmp 10) (.tmp 46) rfl g10 #[.int .i64 0, .bool false, .int .i64 0] rfl rfl 35 _ X_g10.out info35s rfl (by simp [Value.oneCell']) ?_
    refine hK.out _ _ ?_
    clear hK K
    refine pure_ (i := 12) (N := some 11) (v := ?_) (a' := ?_) #[true, true, true, true, true, true, true, true, true, true, true, true, true] rfl rfl (any_of HT_.out (by kernel_rfl)) (fun _ _ _ h => h) (Or.inl ⟨by rfl, ?_⟩) ?_ ?_
    rotate_left
    ·intro w'
     go_simp
     with_reducible rfl
    rotate_left
    ·simp only [Act.put, lz1, lz2, lz3, i64_w, i32_w]
     rfl
    refine done_ (done_of HT_.out (by kernel_rfl)) ?_
    exact ⟨g10, rfl, below_setRow _ HB.out G_g10_HB.out, below_setRow _ BS.out G_g10_BS.out, below_setRow _ BT.out G_g10_BT.out, (setRow_other _ g10 g1 _ N_g1_g10.out).trans X_g1.out, (setRow_other _ g10 g3 _ N_g3_g10.out).trans X_g3.out, (setRow_other _ g10 g4 _ N_g4_g10.out).trans X_g4.out, (setRow_other _ g10 g7 _ N_g7_g10.out).trans X_g7.out, setRow_heap _ g10 _ _ 35 (0, 0) X_g10.out, N_g1_g10.out, N_g3_g10.out, N_g4_g10.out, N_g7_g10.out, G_g10_HB.out, G_g10_BS.out, G_g10_BT.out⟩
  ·skip
   refine box_step ?hg (N := 10) ?hd (cs := #[.int .i64 0, .bool false, .int .i64 0]) (t := 35) ?hr ?_
   (case hd => rfl)
   (case hg => rfl)
   (case hr => first | (go_simp; done) | (go_simp; rfl))
   intro g10 hg we1 hbox hb
   have G_g10_HB : Aside0 (w.heap.size ≤ g10) := ⟨by have := HB.out.size; omega⟩
   have G_g10_BS : Aside0 (w_5.heap.size ≤ g10) := ⟨by have := BS.out.size; omega⟩
   have G_g10_BT : Aside0 (w_8.heap.size ≤ g10) := ⟨by have := BT.out.size; omega⟩
   have N_g1_g10 : Aside0 (g1 ≠ g10) := ⟨by have := blk_lt X_g1.out; omega⟩
   have N_g3_g10 : Aside0 (g3 ≠ g10) := ⟨by have := blk_lt X_g3.out; omega⟩
   have N_g4_g10 : Aside0 (g4 ≠ g10) := ⟨by have := blk_lt X_g4.out; omega⟩
   have N_g7_g10 : Aside0 (g7 ≠ g10) := ⟨by have := blk_lt X_g7.out; omega⟩
   have n_HB := Aside0.mk (below_step HB.out hb)
   have n_BS := Aside0.mk (below_step BS.out hb)
   have n_BT := Aside0.mk (below_step BT.out hb)
   have n_X_g1 := Aside0.mk (blk_below X_g1.out hb)
   have n_X_g3 := Aside0.mk (blk_below X_g3.out hb)
   have n_X_g4 := Aside0.mk (blk_below X_g4.out hb)
   have n_X_g7 := Aside0.mk (blk_below X_g7.out hb)
   clear HB BS BT X_g1 X_g3 X_g4 X_g7
   have HB := n_HB
   have BS := n_BS
   have BT := n_BT
   have X_g1 := n_X_g1
   have X_g3 := n_X_g3
   have X_g4 := n_X_g4
   have X_g7 := n_X_g7
   clear n_HB n_BS n_BT n_X_g1 n_X_g3 n_X_g4 n_X_g7
   have X_g10 := Aside0.mk hbox
   clear hb hg hbox
   refine hK.out _ _ (HSS.out _ X_g1.out X_g3.out X_g4.out) (fun hHeld => ?_)
   clear hK K
   refine norm_ (a' := ?_) ?_ ?_
   rotate_left
   ·show Act.put _ (some 10) _ = _
    simp only [Act.put, lz1, lz2, lz3, i64_w, i32_w]
    rfl
   refine one_ (i := 3) (N := some 43) #[true, true, true, true, false, false, false, false, false, true, false, false, false] rfl rfl (one_of HT_.out (by kernel_rfl)) (by decide) (fun K hK => ?_)
   refine goes_ Try.func18 (by kernel_rfl) rfl #[.int .i64 5, .int .i64 0] (by rfl) rfl rfl (by (try simp only [List.map_toArray, List.map_cons, List.map_nil]); first | done | rfl) ?_
   refine (intarsialaw30_at.calls 5 0 5 false 0 we1 rfl).mono ?_
   rintro e we2 ⟨rfl, hb⟩
   refine ⟨_, rfl, ?_⟩
   have n_HB := Aside0.mk (below_step HB.out hb)
   have n_BS := Aside0.mk (below_step BS.out hb)
   have n_BT := Aside0.mk (below_step BT.out hb)
   have n_X_g1 := Aside0.mk (blk_below X_g1.out hb)
   have n_X_g3 := Aside0.mk (blk_below X_g3.out hb)
   have n_X_g4 := Aside0.mk (blk_below X_g4.out hb)
   have n_X_g7 := Aside0.mk (blk_below X_g7.out hb)
   have n_X_g10 := Aside0.mk (blk_below X_g10.out hb)
   clear HB BS BT X_g1 X_g3 X_g4 X_g7 X_g10
   have HB := n_HB
   have BS := n_BS
   have BT := n_BT
   have X_g1 := n_X_g1
   have X_g3 := n_X_g3
   have X_g4 := n_X_g4
   have X_g7 := n_X_g7
   have X_g10 := n_X_g10
   clear n_HB n_BS n_BT n_X_g1 n_X_g3 n_X_g4 n_X_g7 n_X_g10
   clear hb
   refine hK.out _ _ (HSS.out _ X_g1.out X_g3.out X_g4.out) (fun hHeld => ?_)
   clear hK K
   refine norm_ (a' := ?_) ?_ ?_
   rotate_left
   ·show Act.put _ (some 43) _ = _
    simp only [Act.put, lz1, lz2, lz3, i64_w, i32_w]
    rfl
   refine one_ (i := 4) (N := some 44) #[true, true, true, true, true, false, false, false, false, true, false, false, false] rfl rfl (one_of HT_.out (by kernel_rfl)) (by decide) (fun K hK => ?_)
   refine goes_ Try.func10 (by kernel_rfl) rfl #[.agg #[.int .i64 2, .slice none 0 0, .int .i64 0, .slice none 0 0], .agg #[.slice As awS.length cs, .int .i64 4, .int .i64 0, .int .i64 0, .int .i64 0], .agg #[.slice At awT.length ct, .int .i64 4, .int .i64 0, .int .i64 0, .int .i64 0], .int .i64 1, .agg #[.int .i64 5, .bool false, .int .i64 0]] (by rfl) rfl rfl (by (try simp only [List.map_toArray, List.map_cons, List.map_nil]); first | done | rfl) ?_
   refine (flat_Before.calls 2 none 0 [] 0 none 0 [] As cs awS 4 0 0 0 At ct awT 4 0 0 0 1 5 false 0 1 0 false 0 0 we2 (Kd.C_nil _ _) (Nat.le_refl _) (Kd.C_nil _ _) (Nat.le_refl _) (Kd.C_below CS.out BS.out) LS.out (Kd.C_below CT.out BT.out) LT.out (fun es _ e _ x s n => ahead_tot _ (by have := fuelOf_le awS; omega) _ e x s n) aw_2).mono ?_
   rintro e we3 ⟨rfl, hb⟩
   refine ⟨_, rfl, ?_⟩
   have n_HB := Aside0.mk (below_step HB.out hb)
   have n_BS := Aside0.mk (below_step BS.out hb)
   have n_BT := Aside0.mk (below_step BT.out hb)
   have n_X_g1 := Aside0.mk (blk_below X_g1.out hb)
   have n_X_g3 := Aside0.mk (blk_below X_g3.out hb)
   have n_X_g4 := Aside0.mk (blk_below X_g4.out hb)
   have n_X_g7 := Aside0.mk (blk_below X_g7.out hb)
   have n_X_g10 := Aside0.mk (blk_below X_g10.out hb)
   clear HB BS BT X_g1 X_g3 X_g4 X_g7 X_g10
   have HB := n_HB
   have BS := n_BS
   have BT := n_BT
   have X_g1 := n_X_g1
   have X_g3 := n_X_g3
   have X_g4 := n_X_g4
   have X_g7 := n_X_g7
   have X_g10 := n_X_g10
   clear n_HB n_BS n_BT n_X_g1 n_X_g3 n_X_g4 n_X_g7 n_X_g10
   clear hb
   refine hK.out _ _ (HSS.out _ X_g1.out X_g3.out X_g4.out) (fun hHeld => ?_)
   clear hK K
   refine norm_ (a' := ?_) ?_ ?_
   rotate_left
   ·show Act.put _ (some 44) _ = _
    simp only [Act.put, lz1, lz2, lz3, i64_w, i32_w]
    rfl
   refine pure_ (i := 5) (N := some 39) (v := ?_) (a' := ?_) #[true, true, true, true, true, true, false, false, false, true, false, false, false] rfl rfl (any_of HT_.out (by kernel_rfl)) (fun _ _ _ h => h) (Or.inl ⟨by rfl, ?_⟩) ?_ ?_
   rotate_left
   ·intro w'
    go_simp
    with_reducible rfl
   rotate_left
   ·simp only [Act.put, lz1, lz2, lz3, i64_w, i32_w]
    rfl
   refine pure_ (i := 6) (N := some 45) (v := ?_) (a' := ?_) #[true, true, true, true, true, true, true, false, false, true, false, false, false] rfl rfl (any_of HT_.out (by kernel_rfl)) (fun _ _ _ h => h) (Or.inl ⟨by rfl, ?_⟩) ?_ ?_
   rotate_left
   ·intro w'
    go_simp
    with_reducible rfl
   rotate_left
   ·simp only [Act.put, lz1, lz2, lz3, i64_w, i32_w]
    rfl
   refine pure_ (i := 7) (N := some 46) (v := ?_) (a' := ?_) #[true, true, true, true, true, true, true, true, false, true, false, false, false] rfl rfl (any_of HT_.out (by kernel_rfl)) (fun _ _ _ h => h) (Or.inl ⟨by rfl, ?_⟩) ?_ ?_
   rotate_left
   ·intro w'
    go_simp
    with_reducible rfl
   rotate_left
   ·simp only [Act.put, lz1, lz2, lz3, i64_w, i32_w]
    rfl
   refine pure_ (i := 8) (N := some 47) (v := ?_) (a' := ?_) #[true, true, true, true, true, true, true, true, true, true, false, false, false] rfl rfl (any_of HT_.out (by kernel_rfl)) (fun _ _ _ h => h) (Or.inl ⟨by rfl, ?_⟩) ?_ ?_
   rotate_left
   ·intro w'
    go_simp
    with_reducible rfl
   rotate_left
   ·simp only [Act.put, lz1, lz2, lz3, i64_w, i32_w]
    rfl
   refine pure_ (i := 10) (N := some 9) (v := ?_) (a' := ?_) #[true, true, true, true, true, true, true, true, true, true, true, false, false] rfl rfl (any_of HT_.out (by kernel_rfl)) (fun _ _ _ h => h) (Or.inl ⟨by rfl, ?_⟩) ?_ ?_
   rotate_left
   ·intro w'
    go_simp
    with_reducible rfl
   rotate_left
   ·simp only [Act.put, lz1, lz2, lz3, i64_w, i32_w]
    rfl
   refine last_ (i := 11) (N := none) #[true, true, true, true, true, true, true, true, true, true, true, true, false] rfl rfl (one_of HT_.out (by kernel_rfl)) (by decide) (fun K hK => ?_)
   rw [if_pos (by rfl)]
   refine wp_store_row 35 (.tmp 10) (.tmp 46) rfl g10 #[.int .i64 0, .bool false, .int .i64 0] rfl rfl 35 _ X_g10.out info35s rfl (by simp [Value.oneCell']) ?_
   refine hK.out _ _ ?_
   clear hK K
   refine pure_ (i := 12) (N := some 11) (v := ?_) (a' := ?_) #[true, true, true, true, true, true, true, true, true, true, true, true, true] rfl rfl (any_of HT_.out (by kernel_rfl)) (fun _ _ _ h => h) (Or.inl ⟨by rfl, ?_⟩) ?_ ?_
   rotate_left
   ·intro w'
    go_simp
    with_reducible rfl
   rotate_left
   ·simp only [Act.put, lz1, lz2, lz3, i64_w, i32_w]
    rfl
   refine done_ (done_of HT_.out (by kernel_rfl)) ?_
   exact ⟨g10, rfl, below_setRow _ HB.out G_g10_HB.out, below_setRow _ BS.out G_g10_BS.out, below_setRow _ BT.out G_g10_BT.out, (setRow_other _ g10 g1 _ N_g1_g10.out).trans X_g1.out, (setRow_other _ g10 g3 _ N_g3_g10.out).trans X_g3.out, (setRow_other _ g10 g4 _ N_g4_g10.out).trans X_g4.out, (setRow_other _ g10 g7 _ N_g7_g10.out).trans X_g7.out, setRow_heap _ g10 _ _ 35 (0, 0) X_g10.out, N_g1_g10.out, N_g3_g10.out, N_g4_g10.out, N_g7_g10.out, G_g10_HB.out, G_g10_BS.out, G_g10_BT.out⟩
 clear hK
 have n_HB := Aside0.mk (below_drew1' HB.out)
 have n_BS := Aside0.mk (below_drew1' BS.out)
 have n_BT := Aside0.mk (below_drew1' BT.out)
 have n_X_g1 := Aside0.mk (blk_drew X_g1.out)
 have n_X_g3 := Aside0.mk (blk_drew X_g3.out)
 have n_X_g4 := Aside0.mk (blk_drew X_g4.out)
 clear HB BS BT X_g1 X_g3 X_g4
 have HB := n_HB
 have BS := n_BS
 have BT := n_BT
 have X_g1 := n_X_g1
 have X_g3 := n_X_g3
 have X_g4 := n_X_g4
 clear n_HB n_BS n_BT n_X_g1 n_X_g3 n_X_g4
 refine start_ (n := 13) (S := fun w' => w'.cell? ⟨g1, 0, none⟩ = some (.int .i64 2) ∧ w'.cell? ⟨g1, 1, none⟩ = some (.slice none 0 0) ∧ w'.cell? ⟨g1, 2, none⟩ = some (.int .i64 0) ∧ w'.cell? ⟨g1, 3, none⟩ = some (.slice none 0 0) ∧ w'.cell? ⟨g3, 0, none⟩ = some (.slice As awS.length cs) ∧ w'.cell? ⟨g3, 1, none⟩ = some (.int .i64 4) ∧ w'.cell? ⟨g3, 2, none⟩ = some (.int .i64 0) ∧ w'.cell? ⟨g3, 3, none⟩ = some (.int .i64 0) ∧ w'.cell? ⟨g3, 4, none⟩ = some (.int .i64 0) ∧ w'.cell? ⟨g4, 0, none⟩ = some (.slice At awT.length ct) ∧ w'.cell? ⟨g4, 1, none⟩ = some (.int .i64 4) ∧ w'.cell? ⟨g4, 2, none⟩ = some (.int .i64 0) ∧ w'.cell? ⟨g4, 3, none⟩ = some (.int .i64 0) ∧ w'.cell? ⟨g4, 4, none⟩ = some (.int .i64 0)) (ds := [11]) #[false, false, false, false, false, false, false, false, false, false, false, false, false] (by kernel_rfl) rfl rfl (HSS.out _ X_g1.out X_g3.out X_g4.out) (fun hHeld => ?_); refine with_tabW aw6_tab aw6_bits (fun HT_ HW_ => ?_)
 generalize World.drew _ = wd at HB BS BT X_g1 X_g3 X_g4 hHeld ⊢
 refine take_ (i := 0) (N := some 31) (v := ?_) (a' := ?_) #[true, false, false, false, false, false, false, false, false, false, false, false, false] rfl rfl (take_ofW HT_.out HW_.out (by kernel_rfl)) (fun _ _ _ h => h) (Or.inl ⟨by rfl, ?_⟩) hHeld ?_ ?_
 rotate_left
 ·rintro w' ⟨s0, s1, s2, s3, s4, s5, s6, s7, s8, s9, s10, s11, s12, s13⟩
  go_simp
  with_reducible rfl
 rotate_left
 ·simp only [Act.put, lz1, lz2, lz3, i64_w, i32_w]
  rfl
 refine take_ (i := 1) (N := some 32) (v := ?_) (a' := ?_) #[true, true, false, false, false, false, false, false, false, false, false, false, false] rfl rfl (take_ofW HT_.out HW_.out (by kernel_rfl)) (fun _ _ _ h => h) (Or.inl ⟨by rfl, ?_⟩) hHeld ?_ ?_
 rotate_left
 ·rintro w' ⟨s0, s1, s2, s3, s4, s5, s6, s7, s8, s9, s10, s11, s12, s13⟩
  go_simp
  with_reducible rfl
 rotate_left
 ·simp only [Act.put, lz1, lz2, lz3, i64_w, i32_w]
  rfl
 refine take_ (i := 2) (N := some 33) (v := ?_) (a' := ?_) #[true, true, true, false, false, false, false, false, false, false, false, false, false] rfl rfl (take_ofW HT_.out HW_.out (by kernel_rfl)) (fun _ _ _ h => h) (Or.inl ⟨by rfl, ?_⟩) hHeld ?_ ?_
 rotate_left
 ·rintro w' ⟨s0, s1, s2, s3, s4, s5, s6, s7, s8, s9, s10, s11, s12, s13⟩
  go_simp
  with_reducible rfl
 rotate_left
 ·simp only [Act.put, lz1, lz2, lz3, i64_w, i32_w]
  rfl
 refine two_ (i := 3) (j := 9) (Ni := some 34) (Nj := some 7) #[true, true, true, true, false, false, false, false, false, false, false, false, false] #[true, true, true, false, false, false, false, false, false, true, false, false, false] rfl rfl rfl rfl (two_of HT_.out (by kernel_rfl)) (by decide) (by decide) (fun K hK => ?_) (fun K hK => ?_)
 ·skip
  refine goes_ Try.func18 (by kernel_rfl) rfl #[.int .i64 5, .int .i64 0] (by rfl) rfl rfl (by (try simp only [List.map_toArray, List.map_cons, List.map_nil]); first | done | rfl) ?_
  refine (intarsialaw30_at.calls 5 0 5 false 0 wd rfl).mono ?_
  rintro e we1 ⟨rfl, hb⟩
  refine ⟨_, rfl, ?_⟩
  have n_HB := Aside0.mk (below_step HB.out hb)
  have n_BS := Aside0.mk (below_step BS.out hb)
  have n_BT := Aside0.mk (below_step BT.out hb)
  have n_X_g1 := Aside0.mk (blk_below X_g1.out hb)
  have n_X_g3 := Aside0.mk (blk_below X_g3.out hb)
  have n_X_g4 := Aside0.mk (blk_below X_g4.out hb)
  clear HB BS BT X_g1 X_g3 X_g4
  have HB := n_HB
  have BS := n_BS
  have BT := n_BT
  have X_g1 := n_X_g1
  have X_g3 := n_X_g3
  have X_g4 := n_X_g4
  clear n_HB n_BS n_BT n_X_g1 n_X_g3 n_X_g4
  clear hb
  refine hK.out _ _ (HSS.out _ X_g1.out X_g3.out X_g4.out) (fun hHeld => ?_)
  clear hK K
  refine norm_ (a' := ?_) ?_ ?_
  rotate_left
  ·show Act.put _ (some 34) _ = _
   simp only [Act.put, lz1, lz2, lz3, i64_w, i32_w]
   rfl
  refine two_ (i := 4) (j := 9) (Ni := some 35) (Nj := some 7) #[true, true, true, true, true, false, false, false, false, false, false, false, false] #[true, true, true, true, false, false, false, false, false, true, false, false, false] rfl rfl rfl rfl (two_of HT_.out (by kernel_rfl)) (by decide) (by decide) (fun K hK => ?_) (fun K hK => ?_)
  ·skip
   refine goes_ Try.func10 (by kernel_rfl) rfl #[.agg #[.int .i64 2, .slice none 0 0, .int .i64 0, .slice none 0 0], .agg #[.slice As awS.length cs, .int .i64 4, .int .i64 0, .int .i64 0, .int .i64 0], .agg #[.slice At awT.length ct, .int .i64 4, .int .i64 0, .int .i64 0, .int .i64 0], .int .i64 2, .agg #[.int .i64 5, .bool false, .int .i64 0]] (by rfl) rfl rfl (by (try simp only [List.map_toArray, List.map_cons, List.map_nil]); first | done | rfl) ?_
   refine (flat_Before.calls 2 none 0 [] 0 none 0 [] As cs awS 4 0 0 0 At ct awT 4 0 0 0 2 5 false 0 2 0 false 0 0 we1 (Kd.C_nil _ _) (Nat.le_refl _) (Kd.C_nil _ _) (Nat.le_refl _) (Kd.C_below CS.out BS.out) LS.out (Kd.C_below CT.out BT.out) LT.out (fun es _ e _ x s n => ahead_tot _ (by have := fuelOf_le awS; omega) _ e x s n) aw_1).mono ?_
   rintro e we2 ⟨rfl, hb⟩
   refine ⟨_, rfl, ?_⟩
   have n_HB := Aside0.mk (below_step HB.out hb)
   have n_BS := Aside0.mk (below_step BS.out hb)
   have n_BT := Aside0.mk (below_step BT.out hb)
   have n_X_g1 := Aside0.mk (blk_below X_g1.out hb)
   have n_X_g3 := Aside0.mk (blk_below X_g3.out hb)
   have n_X_g4 := Aside0.mk (blk_below X_g4.out hb)
   clear HB BS BT X_g1 X_g3 X_g4
   have HB := n_HB
   have BS := n_BS
   have BT := n_BT
   have X_g1 := n_X_g1
   have X_g3 := n_X_g3
   have X_g4 := n_X_g4
   clear n_HB n_BS n_BT n_X_g1 n_X_g3 n_X_g4
   clear hb
   refine hK.out _ _ (HSS.out _ X_g1.out X_g3.out X_g4.out) (fun hHeld => ?_)
   clear hK K
   refine norm_ (a' := ?_) ?_ ?_
   rotate_left
   ·show Act.put _ (some 35) _ = _
    simp only [Act.put, lz1, lz2, lz3, i64_w, i32_w]
    rfl
   refine pure_ (i := 5) (N := some 30) (v := ?_) (a' := ?_) #[true, true, true, true, true, true, false, false, false, false, false, false, false] rfl rfl (any_of HT_.out (by kernel_rfl)) (fun _ _ _ h => h) (Or.inl ⟨by rfl, ?_⟩) ?_ ?_
   rotate_left
   ·intro w'
    go_simp
    with_reducible rfl
   rotate_left
   ·simp only [Act.put, lz1, lz2, lz3, i64_w, i32_w]
    rfl
   refine pure_ (i := 6) (N := some 36) (v := ?_) (a' := ?_) #[true, true, true, true, true, true, true, false, false, false, false, false, false] rfl rfl (any_of HT_.out (by kernel_rfl)) (fun _ _ _ h => h) (Or.inl ⟨by rfl, ?_⟩) ?_ ?_
   rotate_left
   ·intro w'
    go_simp
    with_reducible rfl
   rotate_left
   ·simp only [Act.put, lz1, lz2, lz3, i64_w, i32_w]
    rfl
   refine pure_ (i := 7) (N := some 37) (v := ?_) (a' := ?_) #[true, true, true, true, true, true, true, true, false, false, false, false, false] rfl rfl (any_of HT_.out (by kernel_rfl)) (fun _ _ _ h => h) (Or.inl ⟨by rfl, ?_⟩) ?_ ?_
   rotate_left
   ·intro w'
    go_simp
    with_reducible rfl
   rotate_left
   ·simp only [Act.put, lz1, lz2, lz3, i64_w, i32_w]
    rfl
   refine pure_ (i := 8) (N := some 38) (v := ?_) (a' := ?_) #[true, true, true, true, true, true, true, true, true, false, false, false, false] rfl rfl (any_of HT_.out (by kernel_rfl)) (fun _ _ _ h => h) (Or.inl ⟨by rfl, ?_⟩) ?_ ?_
   rotate_left
   ·intro w'
    go_simp
    with_reducible rfl
   rotate_left
   ·simp only [Act.put, lz1, lz2, lz3, i64_w, i32_w]
    rfl
   refine one_ (i := 9) (N := some 7) #[true, true, true, true, true, true, true, true, true, true, false, false, false] rfl rfl (one_of HT_.out (by kernel_rfl)) (by decide) (fun K hK => ?_)
   refine box_step ?hg (N := 7) ?hd (cs := #[.int .i64 0, .bool false, .int .i64 0]) (t := 35) ?hr ?_
   (case hd => rfl)
   (case hg => rfl)
   (case hr => first | (go_simp; done) | (go_simp; rfl))
   intro g7 hg we3 hbox hb
   have G_g7_HB : Aside0 (w.heap.size ≤ g7) := ⟨by have := HB.out.size; omega⟩
   have G_g7_BS : Aside0 (w_5.heap.size ≤ g7) := ⟨by have := BS.out.size; omega⟩
   have G_g7_BT : Aside0 (w_8.heap.size ≤ g7) := ⟨by have := BT.out.size; omega⟩
   have N_g1_g7 : Aside0 (g1 ≠ g7) := ⟨by have := blk_lt X_g1.out; omega⟩
   have N_g3_g7 : Aside0 (g3 ≠ g7) := ⟨by have := blk_lt X_g3.out; omega⟩
   have N_g4_g7 : Aside0 (g4 ≠ g7) := ⟨by have := blk_lt X_g4.out; omega⟩
   have n_HB := Aside0.mk (below_step HB.out hb)
   have n_BS := Aside0.mk (below_step BS.out hb)
   have n_BT := Aside0.mk (below_step BT.out hb)
   have n_X_g1 := Aside0.mk (blk_below X_g1.out hb)
   have n_X_g3 := Aside0.mk (blk_below X_g3.out hb)
   have n_X_g4 := Aside0.mk (blk_below X_g4.out hb)
   clear HB BS BT X_g1 X_g3 X_g4
   have HB := n_HB
   have BS := n_BS
   have BT := n_BT
   have X_g1 := n_X_g1
   have X_g3 := n_X_g3
   have X_g4 := n_X_g4
   clear n_HB n_BS n_BT n_X_g1 n_X_g3 n_X_g4
   have X_g7 := Aside0.mk hbox
   clear hb hg hbox
   refine hK.out _ _ (HSS.out _ X_g1.out X_g3.out X_g4.out) (fun hHeld => ?_)
   clear hK K
   refine norm_ (a' := ?_) ?_ ?_
   rotate_left
   ·show Act.put _ (some 7) _ = _
    simp only [Act.put, lz1, lz2, lz3, i64_w, i32_w]
    rfl
   refine pure_ (i := 10) (N := some 6) (v := ?_) (a' := ?_) #[true, true, true, true, true, true, true, true, true, true, true, false, false] rfl rfl (any_of HT_.out (by kernel_rfl)) (fun _ _ _ h => h) (Or.inl ⟨by rfl, ?_⟩) ?_ ?_
   rotate_left
   ·intro w'
    go_simp
    with_reducible rfl
   rotate_left
   ·simp only [Act.put, lz1, lz2, lz3, i64_w, i32_w]
    rfl
   refine last_ (i := 11) (N := none) #[true, true, true, true, true, true, true, true, true, true, true, true, false] rfl rfl (one_of HT_.out (by kernel_rfl)) (by decide) (fun K hK => ?_)
   rw [if_pos (by rfl)]
   refine wp_store_row 35 (.tmp 7) (.tmp 37) rfl g7 #[.int .i64 0, .bool false, .int .i64 0] rfl rfl 35 _ X_g7.out info35s rfl (by simp [Value.oneCell']) ?_
   refine hK.out _ _ ?_
   clear hK K
   refine pure_ (i := 12) (N := some 8) (v := ?_) (a' := ?_) #[true, true, true, true, true, true, true, true, true, true, true, true, true] rfl rfl (any_of HT_.out (by kernel_rfl)) (fun _ _ _ h => h) (Or.inl ⟨by rfl, ?_⟩) ?_ ?_
   rotate_left
   ·intro w'
    go_simp
    with_reducible rfl
   rotate_left
   ·simp only [Act.put, lz1, lz2, lz3, i64_w, i32_w]
    rfl
   refine done_ (done_of HT_.out (by kernel_rfl)) ?_
   exact ⟨g7, rfl, below_setRow _ HB.out G_g7_HB.out, below_setRow _ BS.out G_g7_BS.out, below_setRow _ BT.out G_g7_BT.out, (setRow_other _ g7 g1 _ N_g1_g7.out).trans X_g1.out, (setRow_other _ g7 g3 _ N_g3_g7.out).trans X_g3.out, (setRow_other _ g7 g4 _ N_g4_g7.out).trans X_g4.out, setRow_heap _ g7 _ _ 35 (0, 0) X_g7.out, N_g1_g7.out, N_g3_g7.out, N_g4_g7.out, G_g7_HB.out, G_g7_BS.out, G_g7_BT.out⟩
  ·skip
   refine box_step ?hg (N := 7) ?hd (cs := #[.int .i64 0, .bool false, .int .i64 0]) (t := 35) ?hr ?_
   (case hd => rfl)
   (case hg => rfl)
   (case hr => first | (go_simp; done) | (go_simp; rfl))
   intro g7 hg we2 hbox hb
   have G_g7_HB : Aside0 (w.heap.size ≤ g7) := ⟨by have := HB.out.size; omega⟩
   have G_g7_BS : Aside0 (w_5.heap.size ≤ g7) := ⟨by have := BS.out.size; omega⟩
   have G_g7_BT : Aside0 (w_8.heap.size ≤ g7) := ⟨by have := BT.out.size; omega⟩
   have N_g1_g7 : Aside0 (g1 ≠ g7) := ⟨by have := blk_lt X_g1.out; omega⟩
   have N_g3_g7 : Aside0 (g3 ≠ g7) := ⟨by have := blk_lt X_g3.out; omega⟩
   have N_g4_g7 : Aside0 (g4 ≠ g7) := ⟨by have := blk_lt X_g4.out; omega⟩
   have n_HB := Aside0.mk (below_step HB.out hb)
   have n_BS := Aside0.mk (below_step BS.out hb)
   have n_BT := Aside0.mk (below_step BT.out hb)
   have n_X_g1 := Aside0.mk (blk_below X_g1.out hb)
   have n_X_g3 := Aside0.mk (blk_below X_g3.out hb)
   have n_X_g4 := Aside0.mk (blk_below X_g4.out hb)
   clear HB BS BT X_g1 X_g3 X_g4
   have HB := n_HB
   have BS := n_BS
   have BT := n_BT
   have X_g1 := n_X_g1
   have X_g3 := n_X_g3
   have X_g4 := n_X_g4
   clear n_HB n_BS n_BT n_X_g1 n_X_g3 n_X_g4
   have X_g7 := Aside0.mk hbox
   clear hb hg hbox
   refine hK.out _ _ (HSS.out _ X_g1.out X_g3.out X_g4.out) (fun hHeld => ?_)
   clear hK K
   refine norm_ (a' := ?_) ?_ ?_
   rotate_left
   ·show Act.put _ (some 7) _ = _
    simp only [Act.put, lz1, lz2, lz3, i64_w, i32_w]
    rfl
   refine one_ (i := 4) (N := some 35) #[true, true, true, true, true, false, false, false, false, true, false, false, false] rfl rfl (one_of HT_.out (by kernel_rfl)) (by decide) (fun K hK => ?_)
   refine goes_ Try.func10 (by kernel_rfl) rfl #[.agg #[.int .i64 2, .slice none 0 0, .int .i64 0, .slice none 0 0], .agg #[.slice As awS.length cs, .int .i64 4, .int .i64 0, .int .i64 0, .int .i64 0], .agg #[.slice At awT.length ct, .int .i64 4, .int .i64 0, .int .i64 0, .int .i64 0], .int .i64 2, .agg #[.int .i64 5, .bool false, .int .i64 0]] (by rfl) rfl rfl (by (try simp only [List.map_toArray, List.map_cons, List.map_nil]); first | done | rfl) ?_
   refine (flat_Before.calls 2 none 0 [] 0 none 0 [] As cs awS 4 0 0 0 At ct awT 4 0 0 0 2 5 false 0 2 0 false 0 0 we2 (Kd.C_nil _ _) (Nat.le_refl _) (Kd.C_nil _ _) (Nat.le_refl _) (Kd.C_below CS.out BS.out) LS.out (Kd.C_below CT.out BT.out) LT.out (fun es _ e _ x s n => ahead_tot _ (by have := fuelOf_le awS; omega) _ e x s n) aw_1).mono ?_
   rintro e we3 ⟨rfl, hb⟩
   refine ⟨_, rfl, ?_⟩
   have n_HB := Aside0.mk (below_step HB.out hb)
   have n_BS := Aside0.mk (below_step BS.out hb)
   have n_BT := Aside0.mk (below_step BT.out hb)
   have n_X_g1 := Aside0.mk (blk_below X_g1.out hb)
   have n_X_g3 := Aside0.mk (blk_below X_g3.out hb)
   have n_X_g4 := Aside0.mk (blk_below X_g4.out hb)
   have n_X_g7 := Aside0.mk (blk_below X_g7.out hb)
   clear HB BS BT X_g1 X_g3 X_g4 X_g7
   have HB := n_HB
   have BS := n_BS
   have BT := n_BT
   have X_g1 := n_X_g1
   have X_g3 := n_X_g3
   have X_g4 := n_X_g4
   have X_g7 := n_X_g7
   clear n_HB n_BS n_BT n_X_g1 n_X_g3 n_X_g4 n_X_g7
   clear hb
   refine hK.out _ _ (HSS.out _ X_g1.out X_g3.out X_g4.out) (fun hHeld => ?_)
   clear hK K
   refine norm_ (a' := ?_) ?_ ?_
   rotate_left
   ·show Act.put _ (some 35) _ = _
    simp only [Act.put, lz1, lz2, lz3, i64_w, i32_w]
    rfl
   refine pure_ (i := 5) (N := some 30) (v := ?_) (a' := ?_) #[true, true, true, true, true, true, false, false, false, true, false, false, false] rfl rfl (any_of HT_.out (by kernel_rfl)) (fun _ _ _ h => h) (Or.inl ⟨by rfl, ?_⟩) ?_ ?_
   rotate_left
   ·intro w'
    go_simp
    with_reducible rfl
   rotate_left
   ·simp only [Act.put, lz1, lz2, lz3, i64_w, i32_w]
    rfl
   refine pure_ (i := 6) (N := some 36) (v := ?_) (a' := ?_) #[true, true, true, true, true, true, true, false, false, true, false, false, false] rfl rfl (any_of HT_.out (by kernel_rfl)) (fun _ _ _ h => h) (Or.inl ⟨by rfl, ?_⟩) ?_ ?_
   rotate_left
   ·intro w'
    go_simp
    with_reducible rfl
   rotate_left
   ·simp only [Act.put, lz1, lz2, lz3, i64_w, i32_w]
    rfl
   refine pure_ (i := 7) (N := some 37) (v := ?_) (a' := ?_) #[true, true, true, true, true, true, true, true, false, true, false, false, false] rfl rfl (any_of HT_.out (by kernel_rfl)) (fun _ _ _ h => h) (Or.inl ⟨by rfl, ?_⟩) ?_ ?_
   rotate_left
   ·intro w'
    go_simp
    with_reducible rfl
   rotate_left
   ·simp only [Act.put, lz1, lz2, lz3, i64_w, i32_w]
    rfl
   refine pure_ (i := 8) (N := some 38) (v := ?_) (a' := ?_) #[true, true, true, true, true, true, true, true, true, true, false, false, false] rfl rfl (any_of HT_.out (by kernel_rfl)) (fun _ _ _ h => h) (Or.inl ⟨by rfl, ?_⟩) ?_ ?_
   rotate_left
   ·intro w'
    go_simp
    with_reducible rfl
   rotate_left
   ·simp only [Act.put, lz1, lz2, lz3, i64_w, i32_w]
    rfl
   refine pure_ (i := 10) (N := some 6) (v := ?_) (a' := ?_) #[true, true, true, true, true, true, true, true, true, true, true, false, false] rfl rfl (any_of HT_.out (by kernel_rfl)) (fun _ _ _ h => h) (Or.inl ⟨by rfl, ?_⟩) ?_ ?_
   rotate_left
   ·intro w'
    go_simp
    with_reducible rfl
   rotate_left
   ·simp only [Act.put, lz1, lz2, lz3, i64_w, i32_w]
    rfl
   refine last_ (i := 11) (N := none) #[true, true, true, true, true, true, true, true, true, true, true, true, false] rfl rfl (one_of HT_.out (by kernel_rfl)) (by decide) (fun K hK => ?_)
   rw [if_pos (by rfl)]
   refine wp_store_row 35 (.tmp 7) (.tmp 37) rfl g7 #[.int .i64 0, .bool false, .int .i64 0] rfl rfl 35 _ X_g7.out info35s rfl (by simp [Value.oneCell']) ?_
   refine hK.out _ _ ?_
   clear hK K
   refine pure_ (i := 12) (N := some 8) (v := ?_) (a' := ?_) #[true, true, true, true, true, true, true, true, true, true, true, true, true] rfl rfl (any_of HT_.out (by kernel_rfl)) (fun _ _ _ h => h) (Or.inl ⟨by rfl, ?_⟩) ?_ ?_
   rotate_left
   ·intro w'
    go_simp
    with_reducible rfl
   rotate_left
   ·simp only [Act.put, lz1, lz2, lz3, i64_w, i32_w]
    rfl
   refine done_ (done_of HT_.out (by kernel_rfl)) ?_
   exact ⟨g7, rfl, below_setRow _ HB.out G_g7_HB.out, below_setRow _ BS.out G_g7_BS.out, below_setRow _ BT.out G_g7_BT.out, (setRow_other _ g7 g1 _ N_g1_g7.out).trans X_g1.out, (setRow_other _ g7 g3 _ N_g3_g7.out).trans X_g3.out, (setRow_other _ g7 g4 _ N_g4_g7.out).trans X_g4.out, setRow_heap _ g7 _ _ 35 (0, 0) X_g7.out, N_g1_g7.out, N_g3_g7.out, N_g4_g7.out, G_g7_HB.out, G_g7_BS.out, G_g7_BT.out⟩
 ·skip
  refine box_step ?hg (N := 7) ?hd (cs := #[.int .i64 0, .bool false, .int .i64 0]) (t := 35) ?hr ?_
  (case hd => rfl)
  (case hg => rfl)
  (case hr => first | (go_simp; done) | (go_simp; rfl))
  intro g7 hg we1 hbox hb
  have G_g7_HB : Aside0 (w.heap.size ≤ g7) := ⟨by have := HB.out.size; omega⟩
  have G_g7_BS : Aside0 (w_5.heap.size ≤ g7) := ⟨by have := BS.out.size; omega⟩
  have G_g7_BT : Aside0 (w_8.heap.size ≤ g7) := ⟨by have := BT.out.size; omega⟩
  have N_g1_g7 : Aside0 (g1 ≠ g7) := ⟨by have := blk_lt X_g1.out; omega⟩
  have N_g3_g7 : Aside0 (g3 ≠ g7) := ⟨by have := blk_lt X_g3.out; omega⟩
  have N_g4_g7 : Aside0 (g4 ≠ g7) := ⟨by have := blk_lt X_g4.out; omega⟩
  have n_HB := Aside0.mk (below_step HB.out hb)
  have n_BS := Aside0.mk (below_step BS.out hb)
  have n_BT := Aside0.mk (below_step BT.out hb)
  have n_X_g1 := Aside0.mk (blk_below X_g1.out hb)
  have n_X_g3 := Aside0.mk (blk_below X_g3.out hb)
  have n_X_g4 := Aside0.mk (blk_below X_g4.out hb)
  clear HB BS BT X_g1 X_g3 X_g4
  have HB := n_HB
  have BS := n_BS
  have BT := n_BT
  have X_g1 := n_X_g1
  have X_g3 := n_X_g3
  have X_g4 := n_X_g4
  clear n_HB n_BS n_BT n_X_g1 n_X_g3 n_X_g4
  have X_g7 := Aside0.mk hbox
  clear hb hg hbox
  refine hK.out _ _ (HSS.out _ X_g1.out X_g3.out X_g4.out) (fun hHeld => ?_)
  clear hK K
  refine norm_ (a' := ?_) ?_ ?_
  rotate_left
  ·show Act.put _ (some 7) _ = _
   simp only [Act.put, lz1, lz2, lz3, i64_w, i32_w]
   rfl
  refine one_ (i := 3) (N := some 34) #[true, true, true, true, false, false, false, false, false, true, false, false, false] rfl rfl (one_of HT_.out (by kernel_rfl)) (by decide) (fun K hK => ?_)
  refine goes_ Try.func18 (by kernel_rfl) rfl #[.int .i64 5, .int .i64 0] (by rfl) rfl rfl (by (try simp only [List.map_toArray, List.map_cons, List.map_nil]); first | done | rfl) ?_
  refine (intarsialaw30_at.calls 5 0 5 false 0 we1 rfl).mono ?_
  rintro e we2 ⟨rfl, hb⟩
  refine ⟨_, rfl, ?_⟩
  have n_HB := Aside0.mk (below_step HB.out hb)
  have n_BS := Aside0.mk (below_step BS.out hb)
  have n_BT := Aside0.mk (below_step BT.out hb)
  have n_X_g1 := Aside0.mk (blk_below X_g1.out hb)
  have n_X_g3 := Aside0.mk (blk_below X_g3.out hb)
  have n_X_g4 := Aside0.mk (blk_below X_g4.out hb)
  have n_X_g7 := Aside0.mk (blk_below X_g7.out hb)
  clear HB BS BT X_g1 X_g3 X_g4 X_g7
  have HB := n_HB
  have BS := n_BS
  have BT := n_BT
  have X_g1 := n_X_g1
  have X_g3 := n_X_g3
  have X_g4 := n_X_g4
  have X_g7 := n_X_g7
  clear n_HB n_BS n_BT n_X_g1 n_X_g3 n_X_g4 n_X_g7
  clear hb
  refine hK.out _ _ (HSS.out _ X_g1.out X_g3.out X_g4.out) (fun hHeld => ?_)
  clear hK K
  refine norm_ (a' := ?_) ?_ ?_
  rotate_left
  ·show Act.put _ (some 34) _ = _
   simp only [Act.put, lz1, lz2, lz3, i64_w, i32_w]
   rfl
  refine one_ (i := 4) (N := some 35) #[true, true, true, true, true, false, false, false, false, true, false, false, false] rfl rfl (one_of HT_.out (by kernel_rfl)) (by decide) (fun K hK => ?_)
  refine goes_ Try.func10 (by kernel_rfl) rfl #[.agg #[.int .i64 2, .slice none 0 0, .int .i64 0, .slice none 0 0], .agg #[.slice As awS.length cs, .int .i64 4, .int .i64 0, .int .i64 0, .int .i64 0], .agg #[.slice At awT.length ct, .int .i64 4, .int .i64 0, .int .i64 0, .int .i64 0], .int .i64 2, .agg #[.int .i64 5, .bool false, .int .i64 0]] (by rfl) rfl rfl (by (try simp only [List.map_toArray, List.map_cons, List.map_nil]); first | done | rfl) ?_
  refine (flat_Before.calls 2 none 0 [] 0 none 0 [] As cs awS 4 0 0 0 At ct awT 4 0 0 0 2 5 false 0 2 0 false 0 0 we2 (Kd.C_nil _ _) (Nat.le_refl _) (Kd.C_nil _ _) (Nat.le_refl _) (Kd.C_below CS.out BS.out) LS.out (Kd.C_below CT.out BT.out) LT.out (fun es _ e _ x s n => ahead_tot _ (by have := fuelOf_le awS; omega) _ e x s n) aw_1).mono ?_
  rintro e we3 ⟨rfl, hb⟩
  refine ⟨_, rfl, ?_⟩
  have n_HB := Aside0.mk (below_step HB.out hb)
  have n_BS := Aside0.mk (below_step BS.out hb)
  have n_BT := Aside0.mk (below_step BT.out hb)
  have n_X_g1 := Aside0.mk (blk_below X_g1.out hb)
  have n_X_g3 := Aside0.mk (blk_below X_g3.out hb)
  have n_X_g4 := Aside0.mk (blk_below X_g4.out hb)
  have n_X_g7 := Aside0.mk (blk_below X_g7.out hb)
  clear HB BS BT X_g1 X_g3 X_g4 X_g7
  have HB := n_HB
  have BS := n_BS
  have BT := n_BT
  have X_g1 := n_X_g1
  have X_g3 := n_X_g3
  have X_g4 := n_X_g4
  have X_g7 := n_X_g7
  clear n_HB n_BS n_BT n_X_g1 n_X_g3 n_X_g4 n_X_g7
  clear hb
  refine hK.out _ _ (HSS.out _ X_g1.out X_g3.out X_g4.out) (fun hHeld => ?_)
  clear hK K
  refine norm_ (a' := ?_) ?_ ?_
  rotate_left
  ·show Act.put _ (some 35) _ = _
   simp only [Act.put, lz1, lz2, lz3, i64_w, i32_w]
   rfl
  refine pure_ (i := 5) (N := some 30) (v := ?_) (a' := ?_) #[true, true, true, true, true, true, false, false, false, true, false, false, false] rfl rfl (any_of HT_.out (by kernel_rfl)) (fun _ _ _ h => h) (Or.inl ⟨by rfl, ?_⟩) ?_ ?_
  rotate_left
  ·intro w'
   go_simp
   with_reducible rfl
  rotate_left
  ·simp only [Act.put, lz1, lz2, lz3, i64_w, i32_w]
   rfl
  refine pure_ (i := 6) (N := some 36) (v := ?_) (a' := ?_) #[true, true, true, true, true, true, true, false, false, true, false, false, false] rfl rfl (any_of HT_.out (by kernel_rfl)) (fun _ _ _ h => h) (Or.inl ⟨by rfl, ?_⟩) ?_ ?_
  rotate_left
  ·intro w'
   go_simp
   with_reducible rfl
  rotate_left
  ·simp only [Act.put, lz1, lz2, lz3, i64_w, i32_w]
   rfl
  refine pure_ (i := 7) (N := some 37) (v := ?_) (a' := ?_) #[true, true, true, true, true, true, true, true, false, true, false, false, false] rfl rfl (any_of HT_.out (by kernel_rfl)) (fun _ _ _ h => h) (Or.inl ⟨by rfl, ?_⟩) ?_ ?_
  rotate_left
  ·intro w'
   go_simp
   with_reducible rfl
  rotate_left
  ·simp only [Act.put, lz1, lz2, lz3, i64_w, i32_w]
   rfl
  refine pure_ (i := 8) (N := some 38) (v := ?_) (a' := ?_) #[true, true, true, true, true, true, true, true, true, true, false, false, false] rfl rfl (any_of HT_.out (by kernel_rfl)) (fun _ _ _ h => h) (Or.inl ⟨by rfl, ?_⟩) ?_ ?_
  rotate_left
  ·intro w'
   go_simp
   with_reducible rfl
  rotate_left
  ·simp only [Act.put, lz1, lz2, lz3, i64_w, i32_w]
   rfl
  refine pure_ (i := 10) (N := some 6) (v := ?_) (a' := ?_) #[true, true, true, true, true, true, true, true, true, true, true, false, false] rfl rfl (any_of HT_.out (by kernel_rfl)) (fun _ _ _ h => h) (Or.inl ⟨by rfl, ?_⟩) ?_ ?_
  rotate_left
  ·intro w'
   go_simp
   with_reducible rfl
  rotate_left
  ·simp only [Act.put, lz1, lz2, lz3, i64_w, i32_w]
   rfl
  refine last_ (i := 11) (N := none) #[true, true, true, true, true, true, true, true, true, true, true, true, false] rfl rfl (one_of HT_.out (by kernel_rfl)) (by decide) (fun K hK => ?_)
  rw [if_pos (by rfl)]
  refine wp_store_row 35 (.tmp 7) (.tmp 37) rfl g7 #[.int .i64 0, .bool false, .int .i64 0] rfl rfl 35 _ X_g7.out info35s rfl (by simp [Value.oneCell']) ?_
  refine hK.out _ _ ?_
  clear hK K
  refine pure_ (i := 12) (N := some 8) (v := ?_) (a' := ?_) #[true, true, true, true, true, true, true, true, true, true, true, true, true] rfl rfl (any_of HT_.out (by kernel_rfl)) (fun _ _ _ h => h) (Or.inl ⟨by rfl, ?_⟩) ?_ ?_
  rotate_left
  ·intro w'
   go_simp
   with_reducible rfl
  rotate_left
  ·simp only [Act.put, lz1, lz2, lz3, i64_w, i32_w]
   rfl
  refine done_ (done_of HT_.out (by kernel_rfl)) ?_
  exact ⟨g7, rfl, below_setRow _ HB.out G_g7_HB.out, below_setRow _ BS.out G_g7_BS.out, below_setRow _ BT.out G_g7_BT.out, (setRow_other _ g7 g1 _ N_g1_g7.out).trans X_g1.out, (setRow_other _ g7 g3 _ N_g3_g7.out).trans X_g3.out, (setRow_other _ g7 g4 _ N_g4_g7.out).trans X_g4.out, setRow_heap _ g7 _ _ 35 (0, 0) X_g7.out, N_g1_g7.out, N_g3_g7.out, N_g4_g7.out, G_g7_HB.out, G_g7_BS.out, G_g7_BT.out⟩
end Go.Proofs.Ytdlgkmnloijnbaa.Q
