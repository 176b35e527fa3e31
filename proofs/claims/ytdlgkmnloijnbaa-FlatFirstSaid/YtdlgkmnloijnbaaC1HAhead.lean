/- flat.ahead. -/
import Derived.Test.YtdlgkmnloijnbaaC1HSkip
set_option linter.unusedVariables false
set_option linter.unusedSimpArgs false
namespace Go.Proofs.Ytdlgkmnloijnbaa.Q
open Go.RowKit Go.Proofs.YtdlgkmnloijnbaaW.PrintWords Go.Proofs.YtdlgkmnloijnbaaW.PrintLast Go.Proofs.YtdlgkmnloijnbaaW.PrintMore

/-- What a fact asks for ahead of an event. -/
def aheadE (k : Nat) (m : S24) : Ev → Int → Bool → Int → Option (Int × Int × Bool × Int)
 | .cp d a, x, s, n => some (3, if x = d then a else x, s, n)
 | .mv f t, x, s, n => some (3, x, if s = t.f0 ∧ n = t.f1 then f.f0 else s, if s = t.f0 ∧ n = t.f1 then f.f1 else n)
 | .dn i j l, x, s, n => (flat_done_ask.f k i.f0 i.f1 i.f2 i.f3 i.f4 i.f5 i.f6 i.f7 j.f0 j.f1 j.f2 j.f3 j.f4 j.f5 j.f6 j.f7 l m.f0 m.f1 m.f2 m.f3 x s n).map fun r => (r, x, s, n)
 | .fin, x, s, n => some (3, x, s, n)
theorem ta_hit (t : TypeId) (v : Value) (W : World) {fs : Array Field} (hu : Try.prog.underlying t = some (.struct fs)) : (Instr.typeAssert (.iface t v) 20 t true).run Try.prog W = .ok (.tuple #[v, .bool true]) W := by
 simp [Instr.typeAssert, run_underlying hu, Sem.run_pure]
theorem ta_miss (t t' : TypeId) (v z : Value) (W : World) {fs : Array Field} (hne : t ≠ t') (hu : Try.prog.underlying t' = some (.struct fs)) (hz : ∀ W, (zeroValue t').run Try.prog W = .ok z W) : (Instr.typeAssert (.iface t v) 20 t' true).run Try.prog W = .ok (.tuple #[z, .bool false]) W := by
 simp [Instr.typeAssert, run_underlying hu, hne, hz, Sem.run_pure]
attribute [local go_sem high] eqA33
theorem info84s : (Try.prog.info? 84).map (·.size) = some 2 := by kernel_rfl
theorem info82s : (Try.prog.info? 82).map (·.size) = some 4 := by kernel_rfl
theorem info86s : (Try.prog.info? 86).map (·.size) = some 17 := by kernel_rfl
theorem zero84 (W : World) : (zeroValue 84).run Try.prog W = .ok (.agg #[.int .i64 0, .int .i64 0]) W := by first | (go_simp; done) | (go_simp; rfl)
theorem zero82 (W : World) : (zeroValue 82).run Try.prog W = .ok (.agg #[.bool false, .int .i64 0, .bool false, .int .i64 0]) W := by first | (go_simp; done) | (go_simp; rfl)
theorem zero86 (W : World) : (zeroValue 86).run Try.prog W = .ok (.agg #[.int .i64 0, .int .i64 0, .int .i64 0, .int .i64 0, .int .i64 0, .int .i64 0, .slice none 0 0, .int .i64 0, .int .i64 0, .int .i64 0, .int .i64 0, .int .i64 0, .int .i64 0, .int .i64 0, .slice none 0 0, .int .i64 0, .bool false]) W := by first | (go_simp; done) | (go_simp; rfl)
def ah12_T : Bool × List (List Nat × List Nat) := (true, [([], []), ([], []), ([], []), ([0, 1, 2], [0, 1, 2]), ([], []), ([3, 3, 0, 1, 2, 3], [3]), ([4, 5, 0, 1, 2, 3, 4, 5], [4])])
def ah12_B : List Nat := [0, 0, 0, 7, 0, 15, 63]
theorem ah12_tab : rtab .any (opsOf Try.f47 12) = ah12_T := by kernel_rfl
theorem ah12_bits : waitsOk ah12_T.2 ah12_B = true := by kernel_rfl
theorem info35s : (Try.prog.info? 35).map (·.size) = some 3 := by kernel_rfl
def ah13_T : Bool × List (List Nat × List Nat) := (true, [([], []), ([], []), ([0, 1, 0, 1], [0])])
def ah13_B : List Nat := [0, 0, 3]
theorem ah13_tab : rtab .any (opsOf Try.f47 13) = ah13_T := by kernel_rfl
theorem ah13_bits : waitsOk ah13_T.2 ah13_B = true := by kernel_rfl
set_option maxHeartbeats 3200000 in
set_option maxRecDepth 100000 in
theorem ahead_cp (k : Nat) (m : S24) (A1 : Option Addr) (c1 : Nat) (A3 : Option Addr) (c3 : Nat) (d a : Int) (x : Int) (s : Bool) (n : Int) (w : World) :
  Calls Try.prog 47 #[.agg #[.int .i64 m.f0, .slice A1 m.f1.length c1, .int .i64 m.f2, .slice A3 m.f3.length c3], .iface 84 (.agg #[.int .i64 d, .int .i64 a]), .agg #[.int .i64 x, .bool s, .int .i64 n]] w fun e w' => e = .returned (.tuple #[.int .i64 3, .agg #[.int .i64 (if x = d then a else x), .bool s, .int .i64 n]]) ∧ Below w.heap.size w w' := by
 by_cases hxd : x = d
 ·subst hxd
  have hta := fun (v : Value) (W : World) => ta_hit 84 v W Try.underlying84
  go_enter Try.func47, Try.ntmps47
  go_wp2_with (first
   | ((with_reducible refine gate_dst (N := 3) rfl ?_); refine box_event ?hg (N := 3) ?hd (cs := #[.int .i64 m.f0, .slice A1 m.f1.length c1, .int .i64 m.f2, .slice A3 m.f3.length c3]) (t := 24) ?hr ?_; (case hd => rfl); (case hg => rfl); (case hr => first | (go_simp; done) | (go_simp; rfl)); intro g3 hg w3 hbox hb; have HB3 := Aside0.mk hb; have X3 := Aside0.mk hbox; clear hb hbox hg)
   | ((with_reducible refine gate_dst (N := 5) rfl ?_); refine box_event ?hg (N := 5) ?hd (cs := #[.int .i64 x, .bool s, .int .i64 n]) (t := 35) ?hr ?_; (case hd => rfl); (case hg => rfl); (case hr => first | (go_simp; done) | (go_simp; rfl)); intro g5 hg w5 hbox hb; have HB5 := Aside0.mk (below_step HB3.out hb); have X35 := Aside0.mk (blk_below X3.out hb); have X5 := Aside0.mk hbox; have G5 : Aside0 (w.heap.size ≤ g5) := ⟨by have := HB3.out.size; omega⟩; clear hb hbox hg HB3 X3)
   | ((with_reducible refine gate_dst (N := 7) rfl ?_); refine box_event ?hg (N := 7) ?hd (cs := #[.int .i64 0, .bool false, .int .i64 0]) (t := 35) ?hr ?_; (case hd => rfl); (case hg => rfl); (case hr => first | (go_simp; done) | (go_simp; rfl)); intro g7 hg w7 hbox hb; have HB7 := Aside0.mk (below_step HB5.out hb); have X7 := Aside0.mk hbox; have X37 := Aside0.mk (blk_below X35.out hb); have X57 := Aside0.mk (blk_below X5.out hb); have N57 : Aside0 (g5 ≠ g7) := ⟨by have := blk_lt X5.out; omega⟩; have G7 : Aside0 (w.heap.size ≤ g7) := ⟨by have := HB5.out.size; omega⟩; clear hb hbox hg HB5 X5 X35)
   | ((with_reducible refine gate_dst (N := 8) rfl ?_); refine box_event ?hg (N := 8) ?hd (cs := #[.int .i64 0, .int .i64 0]) (t := 84) ?hr ?_; (case hd => rfl); (case hg => rfl); (case hr => first | (go_simp; done) | (go_simp; rfl)); intro g8 hg w8 hbox hb; have HB8 := Aside0.mk (below_step HB7.out hb); have X88 := Aside0.mk hbox; have X78 := Aside0.mk (blk_below X7.out hb); have X58 := Aside0.mk (blk_below X57.out hb); have X38 := Aside0.mk (blk_below X37.out hb); have G8 : Aside0 (w.heap.size ≤ g8) := ⟨by have := HB7.out.size; omega⟩; clear hb hbox hg HB7 X7 X57 X37)
   | ((with_reducible refine gate_stores (x := .tmp 8) (y := .tmp 14) 84 rfl ?_); refine wpList_store_row rfl 84 (.tmp 8) (.tmp 14) rfl g8 #[.int .i64 x, .int .i64 a] rfl rfl 84 _ X88.out info84s rfl (by simp [Value.oneCell']) ?_; have Y8 := Aside0.mk (setRow_heap _ _ _ #[.int .i64 x, .int .i64 a] _ _ X88.out); have Y5 := Aside0.mk ((setRow_other w8 g8 g5 #[.int .i64 x, .int .i64 a] (blk_ne X58.out X88.out (by decide))).trans X58.out); have Y7 := Aside0.mk ((setRow_other w8 g8 g7 #[.int .i64 x, .int .i64 a] (blk_ne X78.out X88.out (by decide))).trans X78.out); have Y3 := Aside0.mk ((setRow_other w8 g8 g3 #[.int .i64 x, .int .i64 a] (blk_ne X38.out X88.out (by decide))).trans X38.out); have YB := Aside0.mk (setRow_below #[.int .i64 x, .int .i64 a] HB8.out G8.out); clear X88 X58 X78 X38 HB8; generalize w8.setRow g8 #[.int .i64 x, .int .i64 a] = w9_ at Y8 Y5 Y7 Y3 YB ⊢; have y50 := (blk_cell Y5.out 0).trans rfl; have y80 := (blk_cell Y8.out 0).trans rfl; have y81 := (blk_cell Y8.out 1).trans rfl; have f50 := blk_frozen Y5.out 0))
  have Z5 : Aside0 ((w9_.setCell ⟨g5, 0, none⟩ (.int .i64 a)).heap[g5]? = some (.cells #[.int .i64 a, .bool s, .int .i64 n] 35 (0, 0))) := ⟨by rw [setCell_eq_setRow w9_ g5 0 _ 35 (0, 0) _ Y5.out]; exact setRow_heap _ _ _ _ _ _ Y5.out⟩
  have Z7 : Aside0 ((w9_.setCell ⟨g5, 0, none⟩ (.int .i64 a)).heap[g7]? = some (.cells #[.int .i64 0, .bool false, .int .i64 0] 35 (0, 0))) := ⟨by rw [setCell_eq_setRow w9_ g5 0 _ 35 (0, 0) _ Y5.out]; exact (setRow_other _ _ _ _ N57.out.symm).trans Y7.out⟩
  have ZB : Aside0 (Below w.heap.size w (w9_.setCell ⟨g5, 0, none⟩ (.int .i64 a))) := ⟨by rw [setCell_eq_setRow w9_ g5 0 _ 35 (0, 0) _ Y5.out]; exact setRow_below _ YB.out G5.out⟩
  clear Y5 Y7 YB y50
  generalize w9_.setCell ⟨g5, 0, none⟩ (.int .i64 a) = w10 at Z5 Z7 ZB ⊢
  have HSS : Aside0 (∀ w' : World, w'.heap[g5]? = some (.cells #[.int .i64 a, .bool s, .int .i64 n] 35 (0, 0)) → w'.cell? ⟨g5, 0, none⟩ = some (.int .i64 a) ∧ w'.cell? ⟨g5, 1, none⟩ = some (.bool s) ∧ w'.cell? ⟨g5, 2, none⟩ = some (.int .i64 n)) := ⟨fun w' h => ⟨(blk_cell h 0).trans rfl, (blk_cell h 1).trans rfl, (blk_cell h 2).trans rfl⟩⟩
  have D5 := Aside0.mk (blk_drew Z5.out)
  have D7 := Aside0.mk (blk_drew Z7.out)
  have DB := Aside0.mk (below_drew1 ZB.out)
  refine start_ (n := 3) (S := fun w' => w'.cell? ⟨g5, 0, none⟩ = some (.int .i64 a) ∧ w'.cell? ⟨g5, 1, none⟩ = some (.bool s) ∧ w'.cell? ⟨g5, 2, none⟩ = some (.int .i64 n)) (ds := [2]) #[false, false, false] (by kernel_rfl) rfl rfl (HSS.out _ D5.out) (fun hHeld => ?_); refine with_tabW ah13_tab ah13_bits (fun HT_ HW_ => ?_)
  generalize w10.drew = w11 at D5 D7 DB hHeld ⊢
  refine take_ (i := 0) (N := some 42) (v := ?_) (a' := ?_) #[true, false, false] rfl rfl (take_ofW HT_.out HW_.out (by kernel_rfl)) (fun _ _ _ h => h) (Or.inl ⟨by rfl, ?_⟩) hHeld ?_ ?_
  rotate_left
  ·rintro w' ⟨s0, s1, s2⟩
   go_simp
   with_reducible rfl
  rotate_left
  ·simp only [Act.put, lz1, lz2, lz3, i64_w, i32_w]
   rfl
  refine pure_ (i := 1) (N := some 6) (v := ?_) (a' := ?_) #[true, true, false] rfl rfl (any_of HT_.out (by kernel_rfl)) (fun _ _ _ h => h) (Or.inl ⟨by rfl, ?_⟩) ?_ ?_
  rotate_left
  ·intro w'
   go_simp
   with_reducible rfl
  rotate_left
  ·simp only [Act.put, lz1, lz2, lz3, i64_w, i32_w]
   rfl
  refine last_ (i := 2) (N := none) #[true, true, true] rfl rfl (one_of HT_.out (by kernel_rfl)) (by decide) (fun K hK => ?_)
  rw [if_pos (by rfl)]
  refine wp_store_row 35 (.tmp 7) (.tmp 42) rfl g7 #[.int .i64 a, .bool s, .int .i64 n] rfl rfl 35 _ D7.out info35s rfl (by simp [Value.oneCell']) ?_
  refine hK.out _ _ ?_
  clear hK K
  refine done_ (done_of HT_.out (by kernel_rfl)) ?_
  have E7 := Aside0.mk (setRow_heap _ _ _ #[.int .i64 a, .bool s, .int .i64 n] _ _ D7.out)
  have EB := Aside0.mk (setRow_below #[.int .i64 a, .bool s, .int .i64 n] DB.out G7.out)
  clear D5 D7 DB hHeld HSS
  generalize w11.setRow g7 #[.int .i64 a, .bool s, .int .i64 n] = w12 at E7 EB ⊢
  go_wp2_with fail
  refine bodyPost_ret (results_tc rfl _ _ g7 35 #[.int .i64 a, .bool s, .int .i64 n] (0, 0) _ rfl E7.out Try.underlying35 rfl info35s) rfl ?_
  exact ⟨by first | rfl | (simp; done) | (simp; rfl), EB.out⟩
 ·have hxb : (x == d) = false := by rw [beq_eq_false_iff_ne]; exact hxd
  rw [if_neg hxd]
  clear hxd
  have hta := fun (v : Value) (W : World) => ta_hit 84 v W Try.underlying84
  go_enter Try.func47, Try.ntmps47
  go_wp2_with (first
   | ((with_reducible refine gate_dst (N := 3) rfl ?_); refine box_event ?hg (N := 3) ?hd (cs := #[.int .i64 m.f0, .slice A1 m.f1.length c1, .int .i64 m.f2, .slice A3 m.f3.length c3]) (t := 24) ?hr ?_; (case hd => rfl); (case hg => rfl); (case hr => first | (go_simp; done) | (go_simp; rfl)); intro g3 hg w3 hbox hb; have HB3 := Aside0.mk hb; have X3 := Aside0.mk hbox; clear hb hbox hg)
   | ((with_reducible refine gate_dst (N := 5) rfl ?_); refine box_event ?hg (N := 5) ?hd (cs := #[.int .i64 x, .bool s, .int .i64 n]) (t := 35) ?hr ?_; (case hd => rfl); (case hg => rfl); (case hr => first | (go_simp; done) | (go_simp; rfl)); intro g5 hg w5 hbox hb; have HB5 := Aside0.mk (below_step HB3.out hb); have X35 := Aside0.mk (blk_below X3.out hb); have X5 := Aside0.mk hbox; have G5 : Aside0 (w.heap.size ≤ g5) := ⟨by have := HB3.out.size; omega⟩; clear hb hbox hg HB3 X3)
   | ((with_reducible refine gate_dst (N := 7) rfl ?_); refine box_event ?hg (N := 7) ?hd (cs := #[.int .i64 0, .bool false, .int .i64 0]) (t := 35) ?hr ?_; (case hd => rfl); (case hg => rfl); (case hr => first | (go_simp; done) | (go_simp; rfl)); intro g7 hg w7 hbox hb; have HB7 := Aside0.mk (below_step HB5.out hb); have X7 := Aside0.mk hbox; have X37 := Aside0.mk (blk_below X35.out hb); have X57 := Aside0.mk (blk_below X5.out hb); have N57 : Aside0 (g5 ≠ g7) := ⟨by have := blk_lt X5.out; omega⟩; have G7 : Aside0 (w.heap.size ≤ g7) := ⟨by have := HB5.out.size; omega⟩; clear hb hbox hg HB5 X5 X35)
   | ((with_reducible refine gate_dst (N := 8) rfl ?_); refine box_event ?hg (N := 8) ?hd (cs := #[.int .i64 0, .int .i64 0]) (t := 84) ?hr ?_; (case hd => rfl); (case hg => rfl); (case hr => first | (go_simp; done) | (go_simp; rfl)); intro g8 hg w8 hbox hb; have HB8 := Aside0.mk (below_step HB7.out hb); have X88 := Aside0.mk hbox; have X78 := Aside0.mk (blk_below X7.out hb); have X58 := Aside0.mk (blk_below X57.out hb); have X38 := Aside0.mk (blk_below X37.out hb); have G8 : Aside0 (w.heap.size ≤ g8) := ⟨by have := HB7.out.size; omega⟩; clear hb hbox hg HB7 X7 X57 X37)
   | ((with_reducible refine gate_stores (x := .tmp 8) (y := .tmp 14) 84 rfl ?_); refine wpList_store_row rfl 84 (.tmp 8) (.tmp 14) rfl g8 #[.int .i64 d, .int .i64 a] rfl rfl 84 _ X88.out info84s rfl (by simp [Value.oneCell']) ?_; have Y8 := Aside0.mk (setRow_heap _ _ _ #[.int .i64 d, .int .i64 a] _ _ X88.out); have Y5 := Aside0.mk ((setRow_other w8 g8 g5 #[.int .i64 d, .int .i64 a] (blk_ne X58.out X88.out (by decide))).trans X58.out); have Y7 := Aside0.mk ((setRow_other w8 g8 g7 #[.int .i64 d, .int .i64 a] (blk_ne X78.out X88.out (by decide))).trans X78.out); have Y3 := Aside0.mk ((setRow_other w8 g8 g3 #[.int .i64 d, .int .i64 a] (blk_ne X38.out X88.out (by decide))).trans X38.out); have YB := Aside0.mk (setRow_below #[.int .i64 d, .int .i64 a] HB8.out G8.out); clear X88 X58 X78 X38 HB8; generalize w8.setRow g8 #[.int .i64 d, .int .i64 a] = w9_ at Y8 Y5 Y7 Y3 YB ⊢; have y50 := (blk_cell Y5.out 0).trans rfl; have y80 := (blk_cell Y8.out 0).trans rfl; have y81 := (blk_cell Y8.out 1).trans rfl; have f50 := blk_frozen Y5.out 0))
  have Z5 := Y5
  have Z7 := Y7
  have ZB := YB
  clear Y5 Y7 YB
  generalize w9_ = w10 at Z5 Z7 ZB ⊢
  have HSS : Aside0 (∀ w' : World, w'.heap[g5]? = some (.cells #[.int .i64 x, .bool s, .int .i64 n] 35 (0, 0)) → w'.cell? ⟨g5, 0, none⟩ = some (.int .i64 x) ∧ w'.cell? ⟨g5, 1, none⟩ = some (.bool s) ∧ w'.cell? ⟨g5, 2, none⟩ = some (.int .i64 n)) := ⟨fun w' h => ⟨(blk_cell h 0).trans rfl, (blk_cell h 1).trans rfl, (blk_cell h 2).trans rfl⟩⟩
  have D5 := Aside0.mk (blk_drew Z5.out)
  have D7 := Aside0.mk (blk_drew Z7.out)
  have DB := Aside0.mk (below_drew1 ZB.out)
  refine start_ (n := 3) (S := fun w' => w'.cell? ⟨g5, 0, none⟩ = some (.int .i64 x) ∧ w'.cell? ⟨g5, 1, none⟩ = some (.bool s) ∧ w'.cell? ⟨g5, 2, none⟩ = some (.int .i64 n)) (ds := [2]) #[false, false, false] (by kernel_rfl) rfl rfl (HSS.out _ D5.out) (fun hHeld => ?_); refine with_tabW ah13_tab ah13_bits (fun HT_ HW_ => ?_)
  generalize w10.drew = w11 at D5 D7 DB hHeld ⊢
  refine take_ (i := 0) (N := some 42) (v := ?_) (a' := ?_) #[true, false, false] rfl rfl (take_ofW HT_.out HW_.out (by kernel_rfl)) (fun _ _ _ h => h) (Or.inl ⟨by rfl, ?_⟩) hHeld ?_ ?_
  rotate_left
  ·rintro w' ⟨s0, s1, s2⟩
   go_simp
   with_reducible rfl
  rotate_left
  ·simp only [Act.put, lz1, lz2, lz3, i64_w, i32_w]
   rfl
  refine pure_ (i := 1) (N := some 6) (v := ?_) (a' := ?_) #[true, true, false] rfl rfl (any_of HT_.out (by kernel_rfl)) (fun _ _ _ h => h) (Or.inl ⟨by rfl, ?_⟩) ?_ ?_
  rotate_left
  ·intro w'
   go_simp
   with_reducible rfl
  rotate_left
  ·simp only [Act.put, lz1, lz2, lz3, i64_w, i32_w]
   rfl
  refine last_ (i := 2) (N := none) #[true, true, true] rfl rfl (one_of HT_.out (by kernel_rfl)) (by decide) (fun K hK => ?_)
  rw [if_pos (by rfl)]
  refine wp_store_row 35 (.tmp 7) (.tmp 42) rfl g7 #[.int .i64 x, .bool s, .int .i64 n] rfl rfl 35 _ D7.out info35s rfl (by simp [Value.oneCell']) ?_
  refine hK.out _ _ ?_
  clear hK K
  refine done_ (done_of HT_.out (by kernel_rfl)) ?_
  have E7 := Aside0.mk (setRow_heap _ _ _ #[.int .i64 x, .bool s, .int .i64 n] _ _ D7.out)
  have EB := Aside0.mk (setRow_below #[.int .i64 x, .bool s, .int .i64 n] DB.out G7.out)
  clear D5 D7 DB hHeld HSS
  generalize w11.setRow g7 #[.int .i64 x, .bool s, .int .i64 n] = w12 at E7 EB ⊢
  go_wp2_with fail
  refine bodyPost_ret (results_tc rfl _ _ g7 35 #[.int .i64 x, .bool s, .int .i64 n] (0, 0) _ rfl E7.out Try.underlying35 rfl info35s) rfl ?_
  exact ⟨by first | rfl | (simp; done) | (simp; rfl), EB.out⟩
set_option maxHeartbeats 3200000 in
set_option maxRecDepth 100000 in
theorem ahead_fin (k : Nat) (m : S24) (A1 : Option Addr) (c1 : Nat) (A3 : Option Addr) (c3 : Nat)  (x : Int) (s : Bool) (n : Int) (w : World) :
  Calls Try.prog 47 #[.agg #[.int .i64 m.f0, .slice A1 m.f1.length c1, .int .i64 m.f2, .slice A3 m.f3.length c3], .iface 88 (.agg #[]), .agg #[.int .i64 x, .bool s, .int .i64 n]] w fun e w' => e = .returned (.tuple #[.int .i64 3, .agg #[.int .i64 x, .bool s, .int .i64 n]]) ∧ Below w.heap.size w w' := by
 have hta4 := fun (v : Value) (W : World) => ta_miss 88 84 v _ W (by decide) Try.underlying84 zero84
 have hta2 := fun (v : Value) (W : World) => ta_miss 88 82 v _ W (by decide) Try.underlying82 zero82
 have hta6 := fun (v : Value) (W : World) => ta_miss 88 86 v _ W (by decide) Try.underlying86 zero86
 go_enter Try.func47, Try.ntmps47
 go_wp2_with (first
  | ((with_reducible refine gate_dst (N := 3) rfl ?_); refine box_event ?hg (N := 3) ?hd (cs := #[.int .i64 m.f0, .slice A1 m.f1.length c1, .int .i64 m.f2, .slice A3 m.f3.length c3]) (t := 24) ?hr ?_; (case hd => rfl); (case hg => rfl); (case hr => first | (go_simp; done) | (go_simp; rfl)); intro g3 hg w3 hbox hb; have HB3 := Aside0.mk hb; have X3 := Aside0.mk hbox; clear hb hbox hg)
  | ((with_reducible refine gate_dst (N := 5) rfl ?_); refine box_event ?hg (N := 5) ?hd (cs := #[.int .i64 x, .bool s, .int .i64 n]) (t := 35) ?hr ?_; (case hd => rfl); (case hg => rfl); (case hr => first | (go_simp; done) | (go_simp; rfl)); intro g5 hg w5 hbox hb; have HB5 := Aside0.mk (below_step HB3.out hb); have X35 := Aside0.mk (blk_below X3.out hb); have X5 := Aside0.mk hbox; have G5 : Aside0 (w.heap.size ≤ g5) := ⟨by have := HB3.out.size; omega⟩; clear hb hbox hg HB3 X3)
  | ((with_reducible refine gate_dst (N := 7) rfl ?_); refine box_event ?hg (N := 7) ?hd (cs := #[.int .i64 0, .bool false, .int .i64 0]) (t := 35) ?hr ?_; (case hd => rfl); (case hg => rfl); (case hr => first | (go_simp; done) | (go_simp; rfl)); intro g7 hg w7 hbox hb; have HB7 := Aside0.mk (below_step HB5.out hb); have X7 := Aside0.mk hbox; have X37 := Aside0.mk (blk_below X35.out hb); have X57 := Aside0.mk (blk_below X5.out hb); have N57 : Aside0 (g5 ≠ g7) := ⟨by have := blk_lt X5.out; omega⟩; have G7 : Aside0 (w.heap.size ≤ g7) := ⟨by have := HB5.out.size; omega⟩; clear hb hbox hg HB5 X5 X35))
 have Z5 := X57
 have Z7 := X7
 have ZB := HB7
 clear X57 X7 HB7
 generalize w7 = w10 at Z5 Z7 ZB ⊢
 have HSS : Aside0 (∀ w' : World, w'.heap[g5]? = some (.cells #[.int .i64 x, .bool s, .int .i64 n] 35 (0, 0)) → w'.cell? ⟨g5, 0, none⟩ = some (.int .i64 x) ∧ w'.cell? ⟨g5, 1, none⟩ = some (.bool s) ∧ w'.cell? ⟨g5, 2, none⟩ = some (.int .i64 n)) := ⟨fun w' h => ⟨(blk_cell h 0).trans rfl, (blk_cell h 1).trans rfl, (blk_cell h 2).trans rfl⟩⟩
 have D5 := Aside0.mk (blk_drew Z5.out)
 have D7 := Aside0.mk (blk_drew Z7.out)
 have DB := Aside0.mk (below_drew1 ZB.out)
 refine start_ (n := 3) (S := fun w' => w'.cell? ⟨g5, 0, none⟩ = some (.int .i64 x) ∧ w'.cell? ⟨g5, 1, none⟩ = some (.bool s) ∧ w'.cell? ⟨g5, 2, none⟩ = some (.int .i64 n)) (ds := [2]) #[false, false, false] (by kernel_rfl) rfl rfl (HSS.out _ D5.out) (fun hHeld => ?_); refine with_tabW ah13_tab ah13_bits (fun HT_ HW_ => ?_)
 generalize w10.drew = w11 at D5 D7 DB hHeld ⊢
 refine take_ (i := 0) (N := some 42) (v := ?_) (a' := ?_) #[true, false, false] rfl rfl (take_ofW HT_.out HW_.out (by kernel_rfl)) (fun _ _ _ h => h) (Or.inl ⟨by rfl, ?_⟩) hHeld ?_ ?_
 rotate_left
 ·rintro w' ⟨s0, s1, s2⟩
  go_simp
  with_reducible rfl
 rotate_left
 ·simp only [Act.put, lz1, lz2, lz3, i64_w, i32_w]
  rfl
 refine pure_ (i := 1) (N := some 6) (v := ?_) (a' := ?_) #[true, true, false] rfl rfl (any_of HT_.out (by kernel_rfl)) (fun _ _ _ h => h) (Or.inl ⟨by rfl, ?_⟩) ?_ ?_
 rotate_left
 ·intro w'
  go_simp
  with_reducible rfl
 rotate_left
 ·simp only [Act.put, lz1, lz2, lz3, i64_w, i32_w]
  rfl
 refine last_ (i := 2) (N := none) #[true, true, true] rfl rfl (one_of HT_.out (by kernel_rfl)) (by decide) (fun K hK => ?_)
 rw [if_pos (by rfl)]
 refine wp_store_row 35 (.tmp 7) (.tmp 42) rfl g7 #[.int .i64 x, .bool s, .int .i64 n] rfl rfl 35 _ D7.out info35s rfl (by simp [Value.oneCell']) ?_
 refine hK.out _ _ ?_
 clear hK K
 refine done_ (done_of HT_.out (by kernel_rfl)) ?_
 have E7 := Aside0.mk (setRow_heap _ _ _ #[.int .i64 x, .bool s, .int .i64 n] _ _ D7.out)
 have EB := Aside0.mk (setRow_below #[.int .i64 x, .bool s, .int .i64 n] DB.out G7.out)
 clear D5 D7 DB hHeld HSS
 generalize w11.setRow g7 #[.int .i64 x, .bool s, .int .i64 n] = w12 at E7 EB ⊢
 go_wp2_with fail
 refine bodyPost_ret (results_tc rfl _ _ g7 35 #[.int .i64 x, .bool s, .int .i64 n] (0, 0) _ rfl E7.out Try.underlying35 rfl info35s) rfl ?_
 exact ⟨by first | rfl | (simp; done) | (simp; rfl), EB.out⟩
set_option maxHeartbeats 3200000 in
set_option maxRecDepth 100000 in
theorem ahead_mv (k : Nat) (m : S24) (A1 : Option Addr) (c1 : Nat) (A3 : Option Addr) (c3 : Nat) (f0 : Bool) (f1 : Int) (t0 : Bool) (t1 : Int) (x : Int) (s : Bool) (n : Int) (w : World) :
  Calls Try.prog 47 #[.agg #[.int .i64 m.f0, .slice A1 m.f1.length c1, .int .i64 m.f2, .slice A3 m.f3.length c3], .iface 82 (.agg #[.bool f0, .int .i64 f1, .bool t0, .int .i64 t1]), .agg #[.int .i64 x, .bool s, .int .i64 n]] w fun e w' => e = .returned (.tuple #[.int .i64 3, .agg #[.int .i64 x, .bool (if s = t0 ∧ n = t1 then f0 else s), .int .i64 (if s = t0 ∧ n = t1 then f1 else n)]]) ∧ Below w.heap.size w w' := by
 by_cases hst : s = t0 ∧ n = t1
 ·rw [if_pos hst, if_pos hst]
  have hsb : (s == t0 && n == t1) = true := by rw [hst.1, hst.2]; simp
  clear hst
  have hta4 := fun (v : Value) (W : World) => ta_miss 82 84 v _ W (by decide) Try.underlying84 zero84
  have hta2 := fun (v : Value) (W : World) => ta_hit 82 v W Try.underlying82
  go_enter Try.func47, Try.ntmps47
  go_wp2_with (first
   | ((with_reducible refine gate_dst (N := 3) rfl ?_); refine box_event ?hg (N := 3) ?hd (cs := #[.int .i64 m.f0, .slice A1 m.f1.length c1, .int .i64 m.f2, .slice A3 m.f3.length c3]) (t := 24) ?hr ?_; (case hd => rfl); (case hg => rfl); (case hr => first | (go_simp; done) | (go_simp; rfl)); intro g3 hg w3 hbox hb; have HB3 := Aside0.mk hb; have X3 := Aside0.mk hbox; clear hb hbox hg)
   | ((with_reducible refine gate_dst (N := 5) rfl ?_); refine box_event ?hg (N := 5) ?hd (cs := #[.int .i64 x, .bool s, .int .i64 n]) (t := 35) ?hr ?_; (case hd => rfl); (case hg => rfl); (case hr => first | (go_simp; done) | (go_simp; rfl)); intro g5 hg w5 hbox hb; have HB5 := Aside0.mk (below_step HB3.out hb); have X35 := Aside0.mk (blk_below X3.out hb); have X5 := Aside0.mk hbox; have G5 : Aside0 (w.heap.size ≤ g5) := ⟨by have := HB3.out.size; omega⟩; clear hb hbox hg HB3 X3)
   | ((with_reducible refine gate_dst (N := 7) rfl ?_); refine box_event ?hg (N := 7) ?hd (cs := #[.int .i64 0, .bool false, .int .i64 0]) (t := 35) ?hr ?_; (case hd => rfl); (case hg => rfl); (case hr => first | (go_simp; done) | (go_simp; rfl)); intro g7 hg w7 hbox hb; have HB7 := Aside0.mk (below_step HB5.out hb); have X7 := Aside0.mk hbox; have X37 := Aside0.mk (blk_below X35.out hb); have X57 := Aside0.mk (blk_below X5.out hb); have N57 : Aside0 (g5 ≠ g7) := ⟨by have := blk_lt X5.out; omega⟩; have G7 : Aside0 (w.heap.size ≤ g7) := ⟨by have := HB5.out.size; omega⟩; clear hb hbox hg HB5 X5 X35)
   | ((with_reducible refine gate_dst (N := 9) rfl ?_); refine box_event ?hg (N := 9) ?hd (cs := #[.bool false, .int .i64 0, .bool false, .int .i64 0]) (t := 82) ?hr ?_; (case hd => rfl); (case hg => rfl); (case hr => first | (go_simp; done) | (go_simp; rfl)); intro g9 hg w9 hbox hb; have HB8 := Aside0.mk (below_step HB7.out hb); have X88 := Aside0.mk hbox; have X78 := Aside0.mk (blk_below X7.out hb); have X58 := Aside0.mk (blk_below X57.out hb); have X38 := Aside0.mk (blk_below X37.out hb); have G8 : Aside0 (w.heap.size ≤ g9) := ⟨by have := HB7.out.size; omega⟩; clear hb hbox hg HB7 X7 X57 X37)
   | ((with_reducible refine gate_stores (x := .tmp 9) (y := .tmp 25) 82 rfl ?_); refine wpList_store_row rfl 82 (.tmp 9) (.tmp 25) rfl g9 #[.bool f0, .int .i64 f1, .bool t0, .int .i64 t1] rfl rfl 82 _ X88.out info82s rfl (by simp [Value.oneCell']) ?_; have Y8 := Aside0.mk (setRow_heap _ _ _ #[.bool f0, .int .i64 f1, .bool t0, .int .i64 t1] _ _ X88.out); have Y5 := Aside0.mk ((setRow_other w9 g9 g5 #[.bool f0, .int .i64 f1, .bool t0, .int .i64 t1] (blk_ne X58.out X88.out (by decide))).trans X58.out); have Y7 := Aside0.mk ((setRow_other w9 g9 g7 #[.bool f0, .int .i64 f1, .bool t0, .int .i64 t1] (blk_ne X78.out X88.out (by decide))).trans X78.out); have Y3 := Aside0.mk ((setRow_other w9 g9 g3 #[.bool f0, .int .i64 f1, .bool t0, .int .i64 t1] (blk_ne X38.out X88.out (by decide))).trans X38.out); have YB := Aside0.mk (setRow_below #[.bool f0, .int .i64 f1, .bool t0, .int .i64 t1] HB8.out G8.out); clear X88 X58 X78 X38 HB8; generalize w9.setRow g9 #[.bool f0, .int .i64 f1, .bool t0, .int .i64 t1] = w9_ at Y8 Y5 Y7 Y3 YB ⊢; have y51 := (blk_cell Y5.out 1).trans rfl; have f51 := blk_frozen Y5.out 1; have y52 := (blk_cell Y5.out 2).trans rfl; have f52 := blk_frozen Y5.out 2; have y80 := (blk_cell Y8.out 0).trans rfl; have y81 := (blk_cell Y8.out 1).trans rfl; have y82 := (blk_cell Y8.out 2).trans rfl; have y83 := (blk_cell Y8.out 3).trans rfl))
  have V5 : Aside0 ((w9_.setCell ⟨g5, 1, none⟩ (.bool f0)).heap[g5]? = some (.cells #[.int .i64 x, .bool f0, .int .i64 n] 35 (0, 0))) := ⟨by rw [setCell_eq_setRow w9_ g5 1 _ 35 (0, 0) _ Y5.out]; exact setRow_heap _ _ _ _ _ _ Y5.out⟩
  have V7 : Aside0 ((w9_.setCell ⟨g5, 1, none⟩ (.bool f0)).heap[g7]? = some (.cells #[.int .i64 0, .bool false, .int .i64 0] 35 (0, 0))) := ⟨by rw [setCell_eq_setRow w9_ g5 1 _ 35 (0, 0) _ Y5.out]; exact (setRow_other _ _ _ _ N57.out.symm).trans Y7.out⟩
  have VB : Aside0 (Below w.heap.size w (w9_.setCell ⟨g5, 1, none⟩ (.bool f0))) := ⟨by rw [setCell_eq_setRow w9_ g5 1 _ 35 (0, 0) _ Y5.out]; exact setRow_below _ YB.out G5.out⟩
  clear Y5 Y7 YB y51 y52
  generalize w9_.setCell ⟨g5, 1, none⟩ (.bool f0) = wv at V5 V7 VB ⊢
  have Z5 : Aside0 ((wv.setCell ⟨g5, 2, none⟩ (.int .i64 f1)).heap[g5]? = some (.cells #[.int .i64 x, .bool f0, .int .i64 f1] 35 (0, 0))) := ⟨by rw [setCell_eq_setRow wv g5 2 _ 35 (0, 0) _ V5.out]; exact setRow_heap _ _ _ _ _ _ V5.out⟩
  have Z7 : Aside0 ((wv.setCell ⟨g5, 2, none⟩ (.int .i64 f1)).heap[g7]? = some (.cells #[.int .i64 0, .bool false, .int .i64 0] 35 (0, 0))) := ⟨by rw [setCell_eq_setRow wv g5 2 _ 35 (0, 0) _ V5.out]; exact (setRow_other _ _ _ _ N57.out.symm).trans V7.out⟩
  have ZB : Aside0 (Below w.heap.size w (wv.setCell ⟨g5, 2, none⟩ (.int .i64 f1))) := ⟨by rw [setCell_eq_setRow wv g5 2 _ 35 (0, 0) _ V5.out]; exact setRow_below _ VB.out G5.out⟩
  clear V5 V7 VB
  generalize wv.setCell ⟨g5, 2, none⟩ (.int .i64 f1) = w10 at Z5 Z7 ZB ⊢
  have HSS : Aside0 (∀ w' : World, w'.heap[g5]? = some (.cells #[.int .i64 x, .bool f0, .int .i64 f1] 35 (0, 0)) → w'.cell? ⟨g5, 0, none⟩ = some (.int .i64 x) ∧ w'.cell? ⟨g5, 1, none⟩ = some (.bool f0) ∧ w'.cell? ⟨g5, 2, none⟩ = some (.int .i64 f1)) := ⟨fun w' h => ⟨(blk_cell h 0).trans rfl, (blk_cell h 1).trans rfl, (blk_cell h 2).trans rfl⟩⟩
  have D5 := Aside0.mk (blk_drew Z5.out)
  have D7 := Aside0.mk (blk_drew Z7.out)
  have DB := Aside0.mk (below_drew1 ZB.out)
  refine start_ (n := 3) (S := fun w' => w'.cell? ⟨g5, 0, none⟩ = some (.int .i64 x) ∧ w'.cell? ⟨g5, 1, none⟩ = some (.bool f0) ∧ w'.cell? ⟨g5, 2, none⟩ = some (.int .i64 f1)) (ds := [2]) #[false, false, false] (by kernel_rfl) rfl rfl (HSS.out _ D5.out) (fun hHeld => ?_); refine with_tabW ah13_tab ah13_bits (fun HT_ HW_ => ?_)
  generalize w10.drew = w11 at D5 D7 DB hHeld ⊢
  refine take_ (i := 0) (N := some 42) (v := ?_) (a' := ?_) #[true, false, false] rfl rfl (take_ofW HT_.out HW_.out (by kernel_rfl)) (fun _ _ _ h => h) (Or.inl ⟨by rfl, ?_⟩) hHeld ?_ ?_
  rotate_left
  ·rintro w' ⟨s0, s1, s2⟩
   go_simp
   with_reducible rfl
  rotate_left
  ·simp only [Act.put, lz1, lz2, lz3, i64_w, i32_w]
   rfl
  refine pure_ (i := 1) (N := some 6) (v := ?_) (a' := ?_) #[true, true, false] rfl rfl (any_of HT_.out (by kernel_rfl)) (fun _ _ _ h => h) (Or.inl ⟨by rfl, ?_⟩) ?_ ?_
  rotate_left
  ·intro w'
   go_simp
   with_reducible rfl
  rotate_left
  ·simp only [Act.put, lz1, lz2, lz3, i64_w, i32_w]
   rfl
  refine last_ (i := 2) (N := none) #[true, true, true] rfl rfl (one_of HT_.out (by kernel_rfl)) (by decide) (fun K hK => ?_)
  rw [if_pos (by rfl)]
  refine wp_store_row 35 (.tmp 7) (.tmp 42) rfl g7 #[.int .i64 x, .bool f0, .int .i64 f1] rfl rfl 35 _ D7.out info35s rfl (by simp [Value.oneCell']) ?_
  refine hK.out _ _ ?_
  clear hK K
  refine done_ (done_of HT_.out (by kernel_rfl)) ?_
  have E7 := Aside0.mk (setRow_heap _ _ _ #[.int .i64 x, .bool f0, .int .i64 f1] _ _ D7.out)
  have EB := Aside0.mk (setRow_below #[.int .i64 x, .bool f0, .int .i64 f1] DB.out G7.out)
  clear D5 D7 DB hHeld HSS
  generalize w11.setRow g7 #[.int .i64 x, .bool f0, .int .i64 f1] = w12 at E7 EB ⊢
  go_wp2_with fail
  refine bodyPost_ret (results_tc rfl _ _ g7 35 #[.int .i64 x, .bool f0, .int .i64 f1] (0, 0) _ rfl E7.out Try.underlying35 rfl info35s) rfl ?_
  exact ⟨by first | rfl | (simp; done) | (simp; rfl), EB.out⟩
 ·rw [if_neg hst, if_neg hst]
  have hsb : (s == t0 && n == t1) = false := by
   rw [Bool.eq_false_iff]
   intro h
   simp only [Bool.and_eq_true, beq_iff_eq] at h
   exact hst h
  clear hst
  have hta4 := fun (v : Value) (W : World) => ta_miss 82 84 v _ W (by decide) Try.underlying84 zero84
  have hta2 := fun (v : Value) (W : World) => ta_hit 82 v W Try.underlying82
  go_enter Try.func47, Try.ntmps47
  go_wp2_with (first
   | ((with_reducible refine gate_dst (N := 3) rfl ?_); refine box_event ?hg (N := 3) ?hd (cs := #[.int .i64 m.f0, .slice A1 m.f1.length c1, .int .i64 m.f2, .slice A3 m.f3.length c3]) (t := 24) ?hr ?_; (case hd => rfl); (case hg => rfl); (case hr => first | (go_simp; done) | (go_simp; rfl)); intro g3 hg w3 hbox hb; have HB3 := Aside0.mk hb; have X3 := Aside0.mk hbox; clear hb hbox hg)
   | ((with_reducible refine gate_dst (N := 5) rfl ?_); refine box_event ?hg (N := 5) ?hd (cs := #[.int .i64 x, .bool s, .int .i64 n]) (t := 35) ?hr ?_; (case hd => rfl); (case hg => rfl); (case hr => first | (go_simp; done) | (go_simp; rfl)); intro g5 hg w5 hbox hb; have HB5 := Aside0.mk (below_step HB3.out hb); have X35 := Aside0.mk (blk_below X3.out hb); have X5 := Aside0.mk hbox; have G5 : Aside0 (w.heap.size ≤ g5) := ⟨by have := HB3.out.size; omega⟩; clear hb hbox hg HB3 X3)
   | ((with_reducible refine gate_dst (N := 7) rfl ?_); refine box_event ?hg (N := 7) ?hd (cs := #[.int .i64 0, .bool false, .int .i64 0]) (t := 35) ?hr ?_; (case hd => rfl); (case hg => rfl); (case hr => first | (go_simp; done) | (go_simp; rfl)); intro g7 hg w7 hbox hb; have HB7 := Aside0.mk (below_step HB5.out hb); have X7 := Aside0.mk hbox; have X37 := Aside0.mk (blk_below X35.out hb); have X57 := Aside0.mk (blk_below X5.out hb); have N57 : Aside0 (g5 ≠ g7) := ⟨by have := blk_lt X5.out; omega⟩; have G7 : Aside0 (w.heap.size ≤ g7) := ⟨by have := HB5.out.size; omega⟩; clear hb hbox hg HB5 X5 X35)
   | ((with_reducible refine gate_dst (N := 9) rfl ?_); refine box_event ?hg (N := 9) ?hd (cs := #[.bool false, .int .i64 0, .bool false, .int .i64 0]) (t := 82) ?hr ?_; (case hd => rfl); (case hg => rfl); (case hr => first | (go_simp; done) | (go_simp; rfl)); intro g9 hg w9 hbox hb; have HB8 := Aside0.mk (below_step HB7.out hb); have X88 := Aside0.mk hbox; have X78 := Aside0.mk (blk_below X7.out hb); have X58 := Aside0.mk (blk_below X57.out hb); have X38 := Aside0.mk (blk_below X37.out hb); have G8 : Aside0 (w.heap.size ≤ g9) := ⟨by have := HB7.out.size; omega⟩; clear hb hbox hg HB7 X7 X57 X37)
   | ((with_reducible refine gate_stores (x := .tmp 9) (y := .tmp 25) 82 rfl ?_); refine wpList_store_row rfl 82 (.tmp 9) (.tmp 25) rfl g9 #[.bool f0, .int .i64 f1, .bool t0, .int .i64 t1] rfl rfl 82 _ X88.out info82s rfl (by simp [Value.oneCell']) ?_; have Y8 := Aside0.mk (setRow_heap _ _ _ #[.bool f0, .int .i64 f1, .bool t0, .int .i64 t1] _ _ X88.out); have Y5 := Aside0.mk ((setRow_other w9 g9 g5 #[.bool f0, .int .i64 f1, .bool t0, .int .i64 t1] (blk_ne X58.out X88.out (by decide))).trans X58.out); have Y7 := Aside0.mk ((setRow_other w9 g9 g7 #[.bool f0, .int .i64 f1, .bool t0, .int .i64 t1] (blk_ne X78.out X88.out (by decide))).trans X78.out); have Y3 := Aside0.mk ((setRow_other w9 g9 g3 #[.bool f0, .int .i64 f1, .bool t0, .int .i64 t1] (blk_ne X38.out X88.out (by decide))).trans X38.out); have YB := Aside0.mk (setRow_below #[.bool f0, .int .i64 f1, .bool t0, .int .i64 t1] HB8.out G8.out); clear X88 X58 X78 X38 HB8; generalize w9.setRow g9 #[.bool f0, .int .i64 f1, .bool t0, .int .i64 t1] = w9_ at Y8 Y5 Y7 Y3 YB ⊢; have y51 := (blk_cell Y5.out 1).trans rfl; have f51 := blk_frozen Y5.out 1; have y52 := (blk_cell Y5.out 2).trans rfl; have f52 := blk_frozen Y5.out 2; have y80 := (blk_cell Y8.out 0).trans rfl; have y81 := (blk_cell Y8.out 1).trans rfl; have y82 := (blk_cell Y8.out 2).trans rfl; have y83 := (blk_cell Y8.out 3).trans rfl))
  have Z5 := Y5
  have Z7 := Y7
  have ZB := YB
  clear Y5 Y7 YB
  generalize w9_ = w10 at Z5 Z7 ZB ⊢
  have HSS : Aside0 (∀ w' : World, w'.heap[g5]? = some (.cells #[.int .i64 x, .bool s, .int .i64 n] 35 (0, 0)) → w'.cell? ⟨g5, 0, none⟩ = some (.int .i64 x) ∧ w'.cell? ⟨g5, 1, none⟩ = some (.bool s) ∧ w'.cell? ⟨g5, 2, none⟩ = some (.int .i64 n)) := ⟨fun w' h => ⟨(blk_cell h 0).trans rfl, (blk_cell h 1).trans rfl, (blk_cell h 2).trans rfl⟩⟩
  have D5 := Aside0.mk (blk_drew Z5.out)
  have D7 := Aside0.mk (blk_drew Z7.out)
  have DB := Aside0.mk (below_drew1 ZB.out)
  refine start_ (n := 3) (S := fun w' => w'.cell? ⟨g5, 0, none⟩ = some (.int .i64 x) ∧ w'.cell? ⟨g5, 1, none⟩ = some (.bool s) ∧ w'.cell? ⟨g5, 2, none⟩ = some (.int .i64 n)) (ds := [2]) #[false, false, false] (by kernel_rfl) rfl rfl (HSS.out _ D5.out) (fun hHeld => ?_); refine with_tabW ah13_tab ah13_bits (fun HT_ HW_ => ?_)
  generalize w10.drew = w11 at D5 D7 DB hHeld ⊢
  refine take_ (i := 0) (N := some 42) (v := ?_) (a' := ?_) #[true, false, false] rfl rfl (take_ofW HT_.out HW_.out (by kernel_rfl)) (fun _ _ _ h => h) (Or.inl ⟨by rfl, ?_⟩) hHeld ?_ ?_
  rotate_left
  ·rintro w' ⟨s0, s1, s2⟩
   go_simp
   with_reducible rfl
  rotate_left
  ·simp only [Act.put, lz1, lz2, lz3, i64_w, i32_w]
   rfl
  refine pure_ (i := 1) (N := some 6) (v := ?_) (a' := ?_) #[true, true, false] rfl rfl (any_of HT_.out (by kernel_rfl)) (fun _ _ _ h => h) (Or.inl ⟨by rfl, ?_⟩) ?_ ?_
  rotate_left
  ·intro w'
   go_simp
   with_reducible rfl
  rotate_left
  ·simp only [Act.put, lz1, lz2, lz3, i64_w, i32_w]
   rfl
  refine last_ (i := 2) (N := none) #[true, true, true] rfl rfl (one_of HT_.out (by kernel_rfl)) (by decide) (fun K hK => ?_)
  rw [if_pos (by rfl)]
  refine wp_store_row 35 (.tmp 7) (.tmp 42) rfl g7 #[.int .i64 x, .bool s, .int .i64 n] rfl rfl 35 _ D7.out info35s rfl (by simp [Value.oneCell']) ?_
  refine hK.out _ _ ?_
  clear hK K
  refine done_ (done_of HT_.out (by kernel_rfl)) ?_
  have E7 := Aside0.mk (setRow_heap _ _ _ #[.int .i64 x, .bool s, .int .i64 n] _ _ D7.out)
  have EB := Aside0.mk (setRow_below #[.int .i64 x, .bool s, .int .i64 n] DB.out G7.out)
  clear D5 D7 DB hHeld HSS
  generalize w11.setRow g7 #[.int .i64 x, .bool s, .int .i64 n] = w12 at E7 EB ⊢
  go_wp2_with fail
  refine bodyPost_ret (results_tc rfl _ _ g7 35 #[.int .i64 x, .bool s, .int .i64 n] (0, 0) _ rfl E7.out Try.underlying35 rfl info35s) rfl ?_
  exact ⟨by first | rfl | (simp; done) | (simp; rfl), EB.out⟩
set_option maxHeartbeats 3200000 in
set_option maxRecDepth 100000 in
theorem ahead_dn (k : Nat) (m : S24) (A1 : Option Addr) (c1 : Nat) (A3 : Option Addr) (c3 : Nat) (i j : S56) (Ai : Option Addr) (ci : Nat) (Aj : Option Addr) (cj : Nat) (l : Bool) (x : Int) (s : Bool) (n r : Int) (w : World)
  (hC1 : Kd.C (Kd.int .i64) w A1 m.f1.length m.f1) (hl1 : m.f1.length ≤ c1) (hC3 : Kd.C (Kd.int .i64) w A3 m.f3.length m.f3) (hl3 : m.f3.length ≤ c3) (hCi : Kd.C (Kd.int .i64) w Ai i.f6.length i.f6) (hli : i.f6.length ≤ ci) (hCj : Kd.C (Kd.int .i64) w Aj j.f6.length j.f6) (hlj : j.f6.length ≤ cj)
  (h : flat_done_ask.f k i.f0 i.f1 i.f2 i.f3 i.f4 i.f5 i.f6 i.f7 j.f0 j.f1 j.f2 j.f3 j.f4 j.f5 j.f6 j.f7 l m.f0 m.f1 m.f2 m.f3 x s n = some r) :
  Calls Try.prog 47 #[.agg #[.int .i64 m.f0, .slice A1 m.f1.length c1, .int .i64 m.f2, .slice A3 m.f3.length c3], .iface 86 (.agg #[.int .i64 i.f0, .int .i64 i.f1, .int .i64 i.f2, .int .i64 i.f3, .int .i64 i.f4, .int .i64 i.f5, .slice Ai i.f6.length ci, .int .i64 i.f7, .int .i64 j.f0, .int .i64 j.f1, .int .i64 j.f2, .int .i64 j.f3, .int .i64 j.f4, .int .i64 j.f5, .slice Aj j.f6.length cj, .int .i64 j.f7, .bool l]), .agg #[.int .i64 x, .bool s, .int .i64 n]] w fun e w' => e = .returned (.tuple #[.int .i64 r, .agg #[.int .i64 x, .bool s, .int .i64 n]]) ∧ Below w.heap.size w w' := by
 have HC1 := Aside0.mk hC1
 have HC3 := Aside0.mk hC3
 have HCi := Aside0.mk hCi
 have HCj := Aside0.mk hCj
 have HL := Aside0.mk (And.intro hli (And.intro hlj (And.intro hl1 hl3)))
 have HA := Aside0.mk h
 clear hC1 hC3 hCi hCj hli hlj hl1 hl3 h
 have hta4 := fun (v : Value) (W : World) => ta_miss 86 84 v _ W (by decide) Try.underlying84 zero84
 have hta2 := fun (v : Value) (W : World) => ta_miss 86 82 v _ W (by decide) Try.underlying82 zero82
 have hta6 := fun (v : Value) (W : World) => ta_hit 86 v W Try.underlying86
 go_enter Try.func47, Try.ntmps47
 go_wp2_with (first
  | ((with_reducible refine gate_dst (N := 3) rfl ?_); refine box_event ?hg (N := 3) ?hd (cs := #[.int .i64 m.f0, .slice A1 m.f1.length c1, .int .i64 m.f2, .slice A3 m.f3.length c3]) (t := 24) ?hr ?_; (case hd => rfl); (case hg => rfl); (case hr => first | (go_simp; done) | (go_simp; rfl)); intro g3 hg w3 hbox hb; have HB3 := Aside0.mk hb; have X3 := Aside0.mk hbox; clear hb hbox hg)
  | ((with_reducible refine gate_dst (N := 5) rfl ?_); refine box_event ?hg (N := 5) ?hd (cs := #[.int .i64 x, .bool s, .int .i64 n]) (t := 35) ?hr ?_; (case hd => rfl); (case hg => rfl); (case hr => first | (go_simp; done) | (go_simp; rfl)); intro g5 hg w5 hbox hb; have HB5 := Aside0.mk (below_step HB3.out hb); have X35 := Aside0.mk (blk_below X3.out hb); have X5 := Aside0.mk hbox; have G5 : Aside0 (w.heap.size ≤ g5) := ⟨by have := HB3.out.size; omega⟩; clear hb hbox hg HB3 X3)
  | ((with_reducible refine gate_dst (N := 7) rfl ?_); refine box_event ?hg (N := 7) ?hd (cs := #[.int .i64 0, .bool false, .int .i64 0]) (t := 35) ?hr ?_; (case hd => rfl); (case hg => rfl); (case hr => first | (go_simp; done) | (go_simp; rfl)); intro g7 hg w7 hbox hb; have HB7 := Aside0.mk (below_step HB5.out hb); have X7 := Aside0.mk hbox; have X37 := Aside0.mk (blk_below X35.out hb); have X57 := Aside0.mk (blk_below X5.out hb); have N57 : Aside0 (g5 ≠ g7) := ⟨by have := blk_lt X5.out; omega⟩; have G7 : Aside0 (w.heap.size ≤ g7) := ⟨by have := HB5.out.size; omega⟩; clear hb hbox hg HB5 X5 X35)
  | ((with_reducible refine gate_dst (N := 10) rfl ?_); refine box_event ?hg (N := 10) ?hd (cs := #[.int .i64 0, .int .i64 0, .int .i64 0, .int .i64 0, .int .i64 0, .int .i64 0, .slice none 0 0, .int .i64 0, .int .i64 0, .int .i64 0, .int .i64 0, .int .i64 0, .int .i64 0, .int .i64 0, .slice none 0 0, .int .i64 0, .bool false]) (t := 86) ?hr ?_; (case hd => rfl); (case hg => rfl); (case hr => first | (go_simp; done) | (go_simp; rfl)); intro g10 hg w10 hbox hb; have HB8 := Aside0.mk (below_step HB7.out hb); have X88 := Aside0.mk hbox; have X78 := Aside0.mk (blk_below X7.out hb); have X58 := Aside0.mk (blk_below X57.out hb); have X38 := Aside0.mk (blk_below X37.out hb); have G8 : Aside0 (w.heap.size ≤ g10) := ⟨by have := HB7.out.size; omega⟩; clear hb hbox hg HB7 X7 X57 X37)
  | ((with_reducible refine gate_stores (x := .tmp 10) (y := .tmp 36) 86 rfl ?_); refine wpList_store_row rfl 86 (.tmp 10) (.tmp 36) rfl g10 #[.int .i64 i.f0, .int .i64 i.f1, .int .i64 i.f2, .int .i64 i.f3, .int .i64 i.f4, .int .i64 i.f5, .slice Ai i.f6.length ci, .int .i64 i.f7, .int .i64 j.f0, .int .i64 j.f1, .int .i64 j.f2, .int .i64 j.f3, .int .i64 j.f4, .int .i64 j.f5, .slice Aj j.f6.length cj, .int .i64 j.f7, .bool l] rfl rfl 86 _ X88.out info86s rfl (by simp [Value.oneCell']) ?_; have Y8 := Aside0.mk (setRow_heap _ _ _ #[.int .i64 i.f0, .int .i64 i.f1, .int .i64 i.f2, .int .i64 i.f3, .int .i64 i.f4, .int .i64 i.f5, .slice Ai i.f6.length ci, .int .i64 i.f7, .int .i64 j.f0, .int .i64 j.f1, .int .i64 j.f2, .int .i64 j.f3, .int .i64 j.f4, .int .i64 j.f5, .slice Aj j.f6.length cj, .int .i64 j.f7, .bool l] _ _ X88.out); have Y5 := Aside0.mk ((setRow_other w10 g10 g5 #[.int .i64 i.f0, .int .i64 i.f1, .int .i64 i.f2, .int .i64 i.f3, .int .i64 i.f4, .int .i64 i.f5, .slice Ai i.f6.length ci, .int .i64 i.f7, .int .i64 j.f0, .int .i64 j.f1, .int .i64 j.f2, .int .i64 j.f3, .int .i64 j.f4, .int .i64 j.f5, .slice Aj j.f6.length cj, .int .i64 j.f7, .bool l] (blk_ne X58.out X88.out (by decide))).trans X58.out); have Y7 := Aside0.mk ((setRow_other w10 g10 g7 #[.int .i64 i.f0, .int .i64 i.f1, .int .i64 i.f2, .int .i64 i.f3, .int .i64 i.f4, .int .i64 i.f5, .slice Ai i.f6.length ci, .int .i64 i.f7, .int .i64 j.f0, .int .i64 j.f1, .int .i64 j.f2, .int .i64 j.f3, .int .i64 j.f4, .int .i64 j.f5, .slice Aj j.f6.length cj, .int .i64 j.f7, .bool l] (blk_ne X78.out X88.out (by decide))).trans X78.out); have Y3 := Aside0.mk ((setRow_other w10 g10 g3 #[.int .i64 i.f0, .int .i64 i.f1, .int .i64 i.f2, .int .i64 i.f3, .int .i64 i.f4, .int .i64 i.f5, .slice Ai i.f6.length ci, .int .i64 i.f7, .int .i64 j.f0, .int .i64 j.f1, .int .i64 j.f2, .int .i64 j.f3, .int .i64 j.f4, .int .i64 j.f5, .slice Aj j.f6.length cj, .int .i64 j.f7, .bool l] (blk_ne X38.out X88.out (by decide))).trans X38.out); have YB := Aside0.mk (setRow_below #[.int .i64 i.f0, .int .i64 i.f1, .int .i64 i.f2, .int .i64 i.f3, .int .i64 i.f4, .int .i64 i.f5, .slice Ai i.f6.length ci, .int .i64 i.f7, .int .i64 j.f0, .int .i64 j.f1, .int .i64 j.f2, .int .i64 j.f3, .int .i64 j.f4, .int .i64 j.f5, .slice Aj j.f6.length cj, .int .i64 j.f7, .bool l] HB8.out G8.out); clear X88 X58 X78 X38 HB8; generalize w10.setRow g10 #[.int .i64 i.f0, .int .i64 i.f1, .int .i64 i.f2, .int .i64 i.f3, .int .i64 i.f4, .int .i64 i.f5, .slice Ai i.f6.length ci, .int .i64 i.f7, .int .i64 j.f0, .int .i64 j.f1, .int .i64 j.f2, .int .i64 j.f3, .int .i64 j.f4, .int .i64 j.f5, .slice Aj j.f6.length cj, .int .i64 j.f7, .bool l] = w9_ at Y8 Y5 Y7 Y3 YB ⊢))
 have HSS : Aside0 (∀ w' : World, w'.heap[g10]? = some (.cells #[.int .i64 i.f0, .int .i64 i.f1, .int .i64 i.f2, .int .i64 i.f3, .int .i64 i.f4, .int .i64 i.f5, .slice Ai i.f6.length ci, .int .i64 i.f7, .int .i64 j.f0, .int .i64 j.f1, .int .i64 j.f2, .int .i64 j.f3, .int .i64 j.f4, .int .i64 j.f5, .slice Aj j.f6.length cj, .int .i64 j.f7, .bool l] 86 (0, 0)) → w'.heap[g3]? = some (.cells #[.int .i64 m.f0, .slice A1 m.f1.length c1, .int .i64 m.f2, .slice A3 m.f3.length c3] 24 (0, 0)) → w'.heap[g5]? = some (.cells #[.int .i64 x, .bool s, .int .i64 n] 35 (0, 0)) → w'.cell? ⟨g10, 0, none⟩ = some (.int .i64 i.f0) ∧ w'.cell? ⟨g10, 1, none⟩ = some (.int .i64 i.f1) ∧ w'.cell? ⟨g10, 2, none⟩ = some (.int .i64 i.f2) ∧ w'.cell? ⟨g10, 3, none⟩ = some (.int .i64 i.f3) ∧ w'.cell? ⟨g10, 4, none⟩ = some (.int .i64 i.f4) ∧ w'.cell? ⟨g10, 5, none⟩ = some (.int .i64 i.f5) ∧ w'.cell? ⟨g10, 6, none⟩ = some (.slice Ai i.f6.length ci) ∧ w'.cell? ⟨g10, 7, none⟩ = some (.int .i64 i.f7) ∧ w'.cell? ⟨g10, 8, none⟩ = some (.int .i64 j.f0) ∧ w'.cell? ⟨g10, 9, none⟩ = some (.int .i64 j.f1) ∧ w'.cell? ⟨g10, 10, none⟩ = some (.int .i64 j.f2) ∧ w'.cell? ⟨g10, 11, none⟩ = some (.int .i64 j.f3) ∧ w'.cell? ⟨g10, 12, none⟩ = some (.int .i64 j.f4) ∧ w'.cell? ⟨g10, 13, none⟩ = some (.int .i64 j.f5) ∧ w'.cell? ⟨g10, 14, none⟩ = some (.slice Aj j.f6.length cj) ∧ w'.cell? ⟨g10, 15, none⟩ = some (.int .i64 j.f7) ∧ w'.cell? ⟨g10, 16, none⟩ = some (.bool l) ∧ w'.cell? ⟨g3, 0, none⟩ = some (.int .i64 m.f0) ∧ w'.cell? ⟨g3, 1, none⟩ = some (.slice A1 m.f1.length c1) ∧ w'.cell? ⟨g3, 2, none⟩ = some (.int .i64 m.f2) ∧ w'.cell? ⟨g3, 3, none⟩ = some (.slice A3 m.f3.length c3) ∧ w'.cell? ⟨g5, 0, none⟩ = some (.int .i64 x) ∧ w'.cell? ⟨g5, 1, none⟩ = some (.bool s) ∧ w'.cell? ⟨g5, 2, none⟩ = some (.int .i64 n)) := ⟨fun w' h10 h3 h5 => ⟨(blk_cell h10 0).trans rfl, (blk_cell h10 1).trans rfl, (blk_cell h10 2).trans rfl, (blk_cell h10 3).trans rfl, (blk_cell h10 4).trans rfl, (blk_cell h10 5).trans rfl, (blk_cell h10 6).trans rfl, (blk_cell h10 7).trans rfl, (blk_cell h10 8).trans rfl, (blk_cell h10 9).trans rfl, (blk_cell h10 10).trans rfl, (blk_cell h10 11).trans rfl, (blk_cell h10 12).trans rfl, (blk_cell h10 13).trans rfl, (blk_cell h10 14).trans rfl, (blk_cell h10 15).trans rfl, (blk_cell h10 16).trans rfl, (blk_cell h3 0).trans rfl, (blk_cell h3 1).trans rfl, (blk_cell h3 2).trans rfl, (blk_cell h3 3).trans rfl, (blk_cell h5 0).trans rfl, (blk_cell h5 1).trans rfl, (blk_cell h5 2).trans rfl⟩⟩
 have D8 := Aside0.mk (blk_drew Y8.out)
 have D5 := Aside0.mk (blk_drew Y5.out)
 have D7 := Aside0.mk (blk_drew Y7.out)
 have D3 := Aside0.mk (blk_drew Y3.out)
 have DB := Aside0.mk (below_drew1 YB.out)
 clear Y8 Y5 Y7 Y3 YB
 refine start_ (n := 7) (S := fun w' => w'.cell? ⟨g10, 0, none⟩ = some (.int .i64 i.f0) ∧ w'.cell? ⟨g10, 1, none⟩ = some (.int .i64 i.f1) ∧ w'.cell? ⟨g10, 2, none⟩ = some (.int .i64 i.f2) ∧ w'.cell? ⟨g10, 3, none⟩ = some (.int .i64 i.f3) ∧ w'.cell? ⟨g10, 4, none⟩ = some (.int .i64 i.f4) ∧ w'.cell? ⟨g10, 5, none⟩ = some (.int .i64 i.f5) ∧ w'.cell? ⟨g10, 6, none⟩ = some (.slice Ai i.f6.length ci) ∧ w'.cell? ⟨g10, 7, none⟩ = some (.int .i64 i.f7) ∧ w'.cell? ⟨g10, 8, none⟩ = some (.int .i64 j.f0) ∧ w'.cell? ⟨g10, 9, none⟩ = some (.int .i64 j.f1) ∧ w'.cell? ⟨g10, 10, none⟩ = some (.int .i64 j.f2) ∧ w'.cell? ⟨g10, 11, none⟩ = some (.int .i64 j.f3) ∧ w'.cell? ⟨g10, 12, none⟩ = some (.int .i64 j.f4) ∧ w'.cell? ⟨g10, 13, none⟩ = some (.int .i64 j.f5) ∧ w'.cell? ⟨g10, 14, none⟩ = some (.slice Aj j.f6.length cj) ∧ w'.cell? ⟨g10, 15, none⟩ = some (.int .i64 j.f7) ∧ w'.cell? ⟨g10, 16, none⟩ = some (.bool l) ∧ w'.cell? ⟨g3, 0, none⟩ = some (.int .i64 m.f0) ∧ w'.cell? ⟨g3, 1, none⟩ = some (.slice A1 m.f1.length c1) ∧ w'.cell? ⟨g3, 2, none⟩ = some (.int .i64 m.f2) ∧ w'.cell? ⟨g3, 3, none⟩ = some (.slice A3 m.f3.length c3) ∧ w'.cell? ⟨g5, 0, none⟩ = some (.int .i64 x) ∧ w'.cell? ⟨g5, 1, none⟩ = some (.bool s) ∧ w'.cell? ⟨g5, 2, none⟩ = some (.int .i64 n)) (ds := [6]) #[false, false, false, false, false, false, false] (by kernel_rfl) rfl rfl (HSS.out _ D8.out D3.out D5.out) (fun hHeld => ?_); refine with_tabW ah12_tab ah12_bits (fun HT_ HW_ => ?_)
 generalize w9_.drew = w11 at D8 D5 D7 D3 DB hHeld ⊢
 refine take_ (i := 0) (N := some 37) (v := ?_) (a' := ?_) #[true, false, false, false, false, false, false] rfl rfl (take_ofW HT_.out HW_.out (by kernel_rfl)) (fun _ _ _ h => h) (Or.inl ⟨by rfl, ?_⟩) hHeld ?_ ?_
 rotate_left
 ·rintro w' ⟨s0, s1, s2, s3, s4, s5, s6, s7, s8, s9, s10, s11, s12, s13, s14, s15, s16, s17, s18, s19, s20, s21, s22, s23⟩
  go_simp
  with_reducible rfl
 rotate_left
 ·simp only [Act.put, lz1, lz2, lz3, i64_w, i32_w]
  rfl
 refine take_ (i := 1) (N := some 38) (v := ?_) (a' := ?_) #[true, true, false, false, false, false, false] rfl rfl (take_ofW HT_.out HW_.out (by kernel_rfl)) (fun _ _ _ h => h) (Or.inl ⟨by rfl, ?_⟩) hHeld ?_ ?_
 rotate_left
 ·rintro w' ⟨s0, s1, s2, s3, s4, s5, s6, s7, s8, s9, s10, s11, s12, s13, s14, s15, s16, s17, s18, s19, s20, s21, s22, s23⟩
  go_simp
  with_reducible rfl
 rotate_left
 ·simp only [Act.put, lz1, lz2, lz3, i64_w, i32_w]
  rfl
 refine take_ (i := 2) (N := some 39) (v := ?_) (a' := ?_) #[true, true, true, false, false, false, false] rfl rfl (take_ofW HT_.out HW_.out (by kernel_rfl)) (fun _ _ _ h => h) (Or.inl ⟨by rfl, ?_⟩) hHeld ?_ ?_
 rotate_left
 ·rintro w' ⟨s0, s1, s2, s3, s4, s5, s6, s7, s8, s9, s10, s11, s12, s13, s14, s15, s16, s17, s18, s19, s20, s21, s22, s23⟩
  go_simp
  with_reducible rfl
 rotate_left
 ·simp only [Act.put, lz1, lz2, lz3, i64_w, i32_w]
  rfl
 refine take_ (i := 4) (N := some 41) (v := ?_) (a' := ?_) #[true, true, true, false, true, false, false] rfl rfl (take_ofW HT_.out HW_.out (by kernel_rfl)) (fun _ _ _ h => h) (Or.inl ⟨by rfl, ?_⟩) hHeld ?_ ?_
 rotate_left
 ·rintro w' ⟨s0, s1, s2, s3, s4, s5, s6, s7, s8, s9, s10, s11, s12, s13, s14, s15, s16, s17, s18, s19, s20, s21, s22, s23⟩
  go_simp
  with_reducible rfl
 rotate_left
 ·simp only [Act.put, lz1, lz2, lz3, i64_w, i32_w]
  rfl
 refine one_ (i := 3) (N := some 40) #[true, true, true, true, true, false, false] rfl rfl (one_of HT_.out (by kernel_rfl)) (by decide) (fun K hK => ?_)
 refine goes_ Try.func64 (by kernel_rfl) rfl #[.agg #[.int .i64 i.f0, .int .i64 i.f1, .int .i64 i.f2, .int .i64 i.f3, .int .i64 i.f4, .int .i64 i.f5, .slice Ai i.f6.length ci, .int .i64 i.f7, .int .i64 j.f0, .int .i64 j.f1, .int .i64 j.f2, .int .i64 j.f3, .int .i64 j.f4, .int .i64 j.f5, .slice Aj j.f6.length cj, .int .i64 j.f7, .bool l], .agg #[.int .i64 m.f0, .slice A1 m.f1.length c1, .int .i64 m.f2, .slice A3 m.f3.length c3], .agg #[.int .i64 x, .bool s, .int .i64 n]] (by rfl) rfl rfl (by (try simp only [List.map_toArray, List.map_cons, List.map_nil]); first | done | rfl) ?_
 refine (flat_done_ask.calls k i.f0 i.f1 i.f2 i.f3 i.f4 i.f5 Ai ci i.f6 i.f7 j.f0 j.f1 j.f2 j.f3 j.f4 j.f5 Aj cj j.f6 j.f7 l m.f0 A1 c1 m.f1 m.f2 A3 c3 m.f3 x s n r _ (Kd.C_below HCi.out DB.out) HL.out.1 (Kd.C_below HCj.out DB.out) HL.out.2.1 (Kd.C_below HC1.out DB.out) HL.out.2.2.1 (Kd.C_below HC3.out DB.out) HL.out.2.2.2 HA.out).mono ?_
 rintro e w12 ⟨rfl, hb⟩
 refine ⟨_, rfl, ?_⟩
 have F8 := Aside0.mk (blk_below D8.out hb)
 have F5 := Aside0.mk (blk_below D5.out hb)
 have F7 := Aside0.mk (blk_below D7.out hb)
 have F3 := Aside0.mk (blk_below D3.out hb)
 have FB := Aside0.mk (below_step DB.out hb)
 clear hb D8 D5 D7 D3 DB
 refine hK.out _ _ (HSS.out _ F8.out F3.out F5.out) (fun hHeld => ?_)
 clear hK K
 refine norm_ (a' := ?_) ?_ ?_
 rotate_left
 ·show Act.put _ (some 40) _ = _
  simp only [Act.put, lz1, lz2, lz3, i64_w, i32_w]
  rfl
 refine pure_ (i := 5) (N := some 6) (v := ?_) (a' := ?_) #[true, true, true, true, true, true, false] rfl rfl (any_of HT_.out (by kernel_rfl)) (fun _ _ _ h => h) (Or.inl ⟨by rfl, ?_⟩) ?_ ?_
 rotate_left
 ·intro w'
  go_simp
  with_reducible rfl
 rotate_left
 ·simp only [Act.put, lz1, lz2, lz3, i64_w, i32_w]
  rfl
 refine last_ (i := 6) (N := none) #[true, true, true, true, true, true, true] rfl rfl (one_of HT_.out (by kernel_rfl)) (by decide) (fun K hK => ?_)
 rw [if_pos (by rfl)]
 refine wp_store_row 35 (.tmp 7) (.tmp 41) rfl g7 #[.int .i64 x, .bool s, .int .i64 n] rfl rfl 35 _ F7.out info35s rfl (by simp [Value.oneCell']) ?_
 refine hK.out _ _ ?_
 clear hK K
 refine done_ (done_of HT_.out (by kernel_rfl)) ?_
 have E7 := Aside0.mk (setRow_heap _ _ _ #[.int .i64 x, .bool s, .int .i64 n] _ _ F7.out)
 have EB := Aside0.mk (setRow_below #[.int .i64 x, .bool s, .int .i64 n] FB.out G7.out)
 clear F8 F5 F7 F3 FB hHeld HSS
 generalize w12.setRow g7 #[.int .i64 x, .bool s, .int .i64 n] = w13 at E7 EB ⊢
 go_wp2_with fail
 refine bodyPost_ret (results_tc rfl _ _ g7 35 #[.int .i64 x, .bool s, .int .i64 n] (0, 0) _ rfl E7.out Try.underlying35 rfl info35s) rfl ?_
 exact ⟨by first | rfl | (simp; done) | (simp; rfl), EB.out⟩
/-- flat.ahead of any event. -/
theorem ahead_calls (k : Nat) (m : S24) (A1 : Option Addr) (c1 : Nat) (A3 : Option Addr) (c3 : Nat) (ev : Ev) (v : Value) (x : Int) (s : Bool) (n : Int) (r y : Int) (t : Bool) (q : Int) (w0 w : World) (hB : Below w0.heap.size w0 w) (hv : evV w0 ev v)
  (hC1 : Kd.C (Kd.int .i64) w A1 m.f1.length m.f1) (hl1 : m.f1.length ≤ c1) (hC3 : Kd.C (Kd.int .i64) w A3 m.f3.length m.f3) (hl3 : m.f3.length ≤ c3) (h : aheadE k m ev x s n = some (r, y, t, q)) :
  Calls Try.prog 47 #[.agg #[.int .i64 m.f0, .slice A1 m.f1.length c1, .int .i64 m.f2, .slice A3 m.f3.length c3], v, .agg #[.int .i64 x, .bool s, .int .i64 n]] w fun e w' => e = .returned (.tuple #[.int .i64 r, .agg #[.int .i64 y, .bool t, .int .i64 q]]) ∧ Below w.heap.size w w' := by
 cases ev with
 | cp a b =>
  obtain rfl : v = _ := hv
  have h2 := Option.some.inj h
  simp only [Prod.mk.injEq] at h2
  obtain ⟨rfl, rfl, rfl, rfl⟩ := h2
  exact ahead_cp k m A1 c1 A3 c3 a b x s n w
 | mv a b =>
  obtain rfl : v = _ := hv
  have h2 := Option.some.inj h
  simp only [Prod.mk.injEq] at h2
  obtain ⟨rfl, rfl, rfl, rfl⟩ := h2
  exact ahead_mv k m A1 c1 A3 c3 a.f0 a.f1 b.f0 b.f1 x s n w
 | dn i j l =>
  obtain ⟨Ai, ci, Aj, cj, hli, hCi, hlj, hCj, rfl⟩ := hv
  obtain ⟨r', hr, h2⟩ := Option.map_eq_some_iff.1 h
  simp only [Prod.mk.injEq] at h2
  obtain ⟨rfl, rfl, rfl, rfl⟩ := h2
  exact ahead_dn k m A1 c1 A3 c3 i j Ai ci Aj cj l x s n r' w hC1 hl1 hC3 hl3 (Kd.C_below hCi hB) hli (Kd.C_below hCj hB) hlj hr
 | fin =>
  obtain rfl : v = _ := hv
  have h2 := Option.some.inj h
  simp only [Prod.mk.injEq] at h2
  obtain ⟨rfl, rfl, rfl, rfl⟩ := h2
  exact ahead_fin k m A1 c1 A3 c3 x s n w
end Go.Proofs.Ytdlgkmnloijnbaa.Q
