/- Printed by a program of this place's own. -/
import Derived.Test.YtdlgkmnloijnbaaC1Qx0
import Derived.Test.YtdlgkmnloijnbaaC1Qx3
import Derived.Test.YtdlgkmnloijnbaaC1Qx5
import Derived.Test.YtdlgkmnloijnbaaC1HFn
namespace Go.Proofs.Ytdlgkmnloijnbaa.Q
open Go.RowKit Go.Proofs.YtdlgkmnloijnbaaW.PrintWords Go.Proofs.YtdlgkmnloijnbaaW.PrintLast Go.Proofs.YtdlgkmnloijnbaaW.PrintMore
attribute [local go_sem] max2_int min2_int max_two min_two max_three min_three max_four min_four
set_option linter.unusedVariables false
set_option linter.unusedSimpArgs false

/-! ### ir_IsIns: function 82 -/
mutual
def ir_IsIns.j0 : Nat → Bool → Int → Int → Int → Int → Int → Int → List Int → Int → Bool → Bool → Bool → Bool → Bool → Option (Bool)
 | 0, _, _, _, _, _, _, _, _, _, _, _, _, _, _ => none
 | k + 1, x18, x161000, x161001, x161002, x161003, x161004, x161005, x161006, x161007, x168000, x168001, x168002, x168003, x168004 => if x18 = true then (some false) else (if x168004 = true then ((ir_none.f (([x161002, x161003, x161004] : List Int))).bind fun t171 => (if t171 = true then (if (IntKind.u64.wrap (x161005)) ≤ 99 then ((ir_fits.f (x161001 != 0) x161001).bind fun t172 => (if t172 = true then (if (x161006.length : Int) ≤ 8 then ((contains_int_90.f x161006).bind fun t173 => (some (!t173))) else (some false)) else (some false))) else (some false)) else (some false))) else (if x168003 = true then (if x161004 < (-1099511627776) then (ir_IsIns.j1 k true x161000 x161001 x161002 x161003 x161004 x161005 x161006 x161007 x168000 x168001 x168002 x168003 x168004) else (ir_IsIns.j1 k (decide (x161004 > 1099511627776)) x161000 x161001 x161002 x161003 x161004 x161005 x161006 x161007 x168000 x168001 x168002 x168003 x168004)) else (if x161004 = 0 then (if x161004 < (-1099511627776) then (ir_IsIns.j1 k true x161000 x161001 x161002 x161003 x161004 x161005 x161006 x161007 x168000 x168001 x168002 x168003 x168004) else (ir_IsIns.j1 k (decide (x161004 > 1099511627776)) x161000 x161001 x161002 x161003 x161004 x161005 x161006 x161007 x168000 x168001 x168002 x168003 x168004)) else (ir_IsIns.j1 k true x161000 x161001 x161002 x161003 x161004 x161005 x161006 x161007 x168000 x168001 x168002 x168003 x168004))))
def ir_IsIns.j1 : Nat → Bool → Int → Int → Int → Int → Int → Int → List Int → Int → Bool → Bool → Bool → Bool → Bool → Option (Bool)
 | 0, _, _, _, _, _, _, _, _, _, _, _, _, _, _ => none
 | k + 1, x73, x161000, x161001, x161002, x161003, x161004, x161005, x161006, x161007, x168000, x168001, x168002, x168003, x168004 => if x73 = true then (some false) else (if x161005 = 0 then (if (x161006.length : Int) = 0 then ((ir_fits.f x168000 x161001).bind fun t174 => (if t174 = true then ((ir_fits.f x168001 x161002).bind fun t175 => (if t175 = true then ((ir_fits.f x168002 x161003).bind fun t176 => (some t176)) else (some false))) else (some false))) else (some false)) else (some false))
end
def ir_IsIns.f (k : Nat) (a0_0 : Int) (a0_1 : Int) (a0_2 : Int) (a0_3 : Int) (a0_4 : Int) (a0_5 : Int) (l0_6 : List Int) (a0_7 : Int) : Option (Bool) := (ir_shaped.f a0_0).bind fun bt161 => (if bt161.2.2.2.2.2 = true then (ir_IsIns.j0 k (a0_7 != 0) a0_0 a0_1 a0_2 a0_3 a0_4 a0_5 l0_6 a0_7 bt161.1 bt161.2.1 bt161.2.2.1 bt161.2.2.2.1 bt161.2.2.2.2.1) else (ir_IsIns.j0 k true a0_0 a0_1 a0_2 a0_3 a0_4 a0_5 l0_6 a0_7 bt161.1 bt161.2.1 bt161.2.2.1 bt161.2.2.2.1 bt161.2.2.2.2.1))
set_option maxHeartbeats 8000000 in
set_option maxRecDepth 100000 in
theorem ir_IsIns.calls (k : Nat) (a0_0 : Int) (a0_1 : Int) (a0_2 : Int) (a0_3 : Int) (a0_4 : Int) (a0_5 : Int) (A0_6 : Option Addr) (c0_6 : Nat) (l0_6 : List Int) (a0_7 : Int) (r : Bool) (w : World) (hr0_6 : Kd.C (Kd.int .i64) w A0_6 l0_6.length l0_6) (hc0_6 : l0_6.length ≤ c0_6) (h : ir_IsIns.f k a0_0 a0_1 a0_2 a0_3 a0_4 a0_5 l0_6 a0_7 = some r) :
  Calls Try.prog 82 #[.agg #[.int .i64 a0_0, .int .i64 a0_1, .int .i64 a0_2, .int .i64 a0_3, .int .i64 a0_4, .int .i64 a0_5, .slice A0_6 l0_6.length c0_6, .int .i64 a0_7]] w fun e w' => e = .returned (.bool r) ∧ Below w.heap.size w w' := by
 have hu56 := Try.underlying56
 have hu123 := Try.underlying123
 have HR0_6 := Aside0.mk hr0_6
 have HC0_6 := Aside0.mk hc0_6
 clear hr0_6 hc0_6
 have HB := Aside0.mk (Below.refl w.heap.size w)
 have H : ((ir_shaped.f a0_0).bind fun bt161 => (if bt161.2.2.2.2.2 = true then (ir_IsIns.j0 k (a0_7 != 0) a0_0 a0_1 a0_2 a0_3 a0_4 a0_5 l0_6 a0_7 bt161.1 bt161.2.1 bt161.2.2.1 bt161.2.2.2.1 bt161.2.2.2.2.1) else (ir_IsIns.j0 k true a0_0 a0_1 a0_2 a0_3 a0_4 a0_5 l0_6 a0_7 bt161.1 bt161.2.1 bt161.2.2.1 bt161.2.2.2.1 bt161.2.2.2.2.1))) = some r := h
 clear h
 replace H := Option.bind_eq_some_iff.mp H
 obtain ⟨⟨t161, t162, t163, t164, t165, t166⟩, A20, H⟩ := H
 replace H : (if t166 = true then (ir_IsIns.j0 k (a0_7 != 0) a0_0 a0_1 a0_2 a0_3 a0_4 a0_5 l0_6 a0_7 t161 t162 t163 t164 t165) else (ir_IsIns.j0 k true a0_0 a0_1 a0_2 a0_3 a0_4 a0_5 l0_6 a0_7 t161 t162 t163 t164 t165)) = some r := H
 have A2 := Aside0.mk A20
 clear A20
 have HC3 := Aside0.mk H
 clear H
 go_enter Try.func82, Try.ntmps82
 go_upto_region 2 with (first | ((with_reducible refine gate_dst (N := 1) rfl ?_); (try (refine gate_guard (by rfl) ?_; dsimp only)); refine box_event ?hg (N := 1) ?hd (cs := #[.int .i64 a0_0, .int .i64 a0_1, .int .i64 a0_2, .int .i64 a0_3, .int .i64 a0_4, .int .i64 a0_5, .slice A0_6 l0_6.length c0_6, .int .i64 a0_7]) (t := 56) ?hr ?_; (case hd => rfl); (case hg => rfl); (case hr => first | (go_simp; done) | (go_simp; rfl)); intro gb160 hg w4 hbox hb; have n0_ := Aside0.mk (below_step (by repeat (first | (with_reducible first | exact HB.out | apply below_alloc | apply pw_below_drewN | apply below_drew1) | exact HB.out)) hb); have n1_ := Aside0.mk (hbox); have n2_ := Aside0.mk ((by rw [hg]; exact (below_size (by repeat (first | (with_reducible first | exact HB.out | apply below_alloc | apply pw_below_drewN | apply below_drew1) | exact HB.out))) : w.heap.size ≤ gb160)); have n3_ := Aside0.mk ((by rw [hg]; exact (below_size (by repeat (first | (with_reducible first | exact HB.out | apply below_alloc | apply pw_below_drewN | apply below_drew1) | exact HB.out))) : w.heap.size ≤ gb160)); clear HB; have HB := n0_; have BK160 := n1_; have GW160 := n2_; have GE160 := n3_; clear n0_ n1_ n2_ n3_; clear hb hbox hg; have hcz5_0 : w4.cell? ⟨gb160, 0, none⟩ = some (.int .i64 a0_0) := (blk_cell BK160.out 0).trans rfl; have hcz5_1 : w4.cell? ⟨gb160, 1, none⟩ = some (.int .i64 a0_1) := (blk_cell BK160.out 1).trans rfl; have hcz5_2 : w4.cell? ⟨gb160, 2, none⟩ = some (.int .i64 a0_2) := (blk_cell BK160.out 2).trans rfl; have hcz5_3 : w4.cell? ⟨gb160, 3, none⟩ = some (.int .i64 a0_3) := (blk_cell BK160.out 3).trans rfl; have hcz5_4 : w4.cell? ⟨gb160, 4, none⟩ = some (.int .i64 a0_4) := (blk_cell BK160.out 4).trans rfl; have hcz5_5 : w4.cell? ⟨gb160, 5, none⟩ = some (.int .i64 a0_5) := (blk_cell BK160.out 5).trans rfl; have hcz5_6 : w4.cell? ⟨gb160, 6, none⟩ = some (.slice A0_6 l0_6.length c0_6) := (blk_cell BK160.out 6).trans rfl; have hcz5_7 : w4.cell? ⟨gb160, 7, none⟩ = some (.int .i64 a0_7) := (blk_cell BK160.out 7).trans rfl; have hfz5_0 := blk_frozen BK160.out 0; have hfz5_1 := blk_frozen BK160.out 1; have hfz5_2 := blk_frozen BK160.out 2; have hfz5_3 := blk_frozen BK160.out 3; have hfz5_4 := blk_frozen BK160.out 4; have hfz5_5 := blk_frozen BK160.out 5; have hfz5_6 := blk_frozen BK160.out 6; have hfz5_7 := blk_frozen BK160.out 7) | ((with_reducible refine gate_callee (f := 89) rfl ?_); refine goesL_ (some 9) rfl rfl Try.func89 (by kernel_rfl) rfl #[.int .i64 a0_0] rfl (by (try simp only [List.map_toArray, List.map_cons, List.map_nil]); first | done | rfl | (simp only [List.length_drop, List.length_take]; rfl)) ?_; (with_reducible refine (ir_shaped.calls a0_0 t161 t162 t163 t164 t165 t166 _ A2.out).mono ?_); rintro e w6 ⟨rfl, hb⟩; refine ⟨_, rfl, ?_⟩; have n0_ := Aside0.mk (blk_below (g := gb160) (o := .cells #[.int .i64 a0_0, .int .i64 a0_1, .int .i64 a0_2, .int .i64 a0_3, .int .i64 a0_4, .int .i64 a0_5, .slice A0_6 l0_6.length c0_6, .int .i64 a0_7] 56 (0, 0)) (by (with_reducible repeat (first | refine blk_drewN ?_ _ | refine blk_drew ?_ | refine blk_alloc ?_ _)); exact BK160.out) hb); have n1_ := Aside0.mk (below_step (by repeat (first | (with_reducible first | exact HB.out | apply below_alloc | apply pw_below_drewN | apply below_drew1 | refine below_set ?_ GE160.out) | exact HB.out)) hb); clear BK160; clear HB; have BK160 := n0_; have HB := n1_; clear n0_ n1_; (try clear hb); (try clear hb2); (try clear hk); (try clear hi)) | ((with_reducible refine gate_dst (N := 3) rfl ?_); (try (refine gate_guard (by rfl) ?_; dsimp only)); refine box_event ?hg (N := 3) ?hd (cs := #[.bool false, .bool false, .bool false, .bool false, .bool false]) (t := 123) ?hr ?_; (case hd => rfl); (case hg => rfl); (case hr => first | (go_simp; done) | (go_simp; rfl)); intro gb167 hg w7 hbox hb; have n0_ := Aside0.mk (blk_below (g := gb160) (o := .cells #[.int .i64 a0_0, .int .i64 a0_1, .int .i64 a0_2, .int .i64 a0_3, .int .i64 a0_4, .int .i64 a0_5, .slice A0_6 l0_6.length c0_6, .int .i64 a0_7] 56 (0, 0)) (by (with_reducible repeat (first | refine blk_drewN ?_ _ | refine blk_drew ?_ | refine blk_alloc ?_ _)); exact BK160.out) hb); have n1_ := Aside0.mk (below_step (by repeat (first | (with_reducible first | exact HB.out | apply below_alloc | apply pw_below_drewN | apply below_drew1 | refine below_set ?_ GE160.out) | exact HB.out)) hb); have n2_ := Aside0.mk (hbox); have n3_ := Aside0.mk ((by rw [hg]; exact (below_size (by repeat (first | (with_reducible first | exact HB.out | apply below_alloc | apply pw_below_drewN | apply below_drew1 | refine below_set ?_ GE160.out) | exact HB.out))) : w.heap.size ≤ gb167)); have n4_ := Aside0.mk ((by rw [hg]; exact (below_size (by repeat (first | (with_reducible first | exact HB.out | apply below_alloc | apply pw_below_drewN | apply below_drew1 | refine below_set ?_ GE160.out) | exact HB.out))) : w.heap.size ≤ gb167)); have n5_ := Aside0.mk ((by rw [hg]; exact Nat.ne_of_lt (blk_lt (g := gb160) (o := .cells #[.int .i64 a0_0, .int .i64 a0_1, .int .i64 a0_2, .int .i64 a0_3, .int .i64 a0_4, .int .i64 a0_5, .slice A0_6 l0_6.length c0_6, .int .i64 a0_7] 56 (0, 0)) (by (with_reducible repeat (first | refine blk_drewN ?_ _ | refine blk_drew ?_ | refine blk_alloc ?_ _)); exact BK160.out)) : gb160 ≠ gb167)); have n6_ := Aside0.mk ((by rw [hg]; exact Nat.ne_of_gt (blk_lt (g := gb160) (o := .cells #[.int .i64 a0_0, .int .i64 a0_1, .int .i64 a0_2, .int .i64 a0_3, .int .i64 a0_4, .int .i64 a0_5, .slice A0_6 l0_6.length c0_6, .int .i64 a0_7] 56 (0, 0)) (by (with_reducible repeat (first | refine blk_drewN ?_ _ | refine blk_drew ?_ | refine blk_alloc ?_ _)); exact BK160.out)) : gb167 ≠ gb160)); clear BK160; clear HB; have BK160 := n0_; have HB := n1_; have BK167 := n2_; have GW167 := n3_; have GE167 := n4_; have NB160_167 := n5_; have NB167_160 := n6_; clear n0_ n1_ n2_ n3_ n4_ n5_ n6_; clear hb hbox hg; have hnb8 := NB167_160.out; have hnc8 := NB160_167.out; have hcz9_0 : w7.cell? ⟨gb167, 0, none⟩ = some (.bool false) := (blk_cell BK167.out 0).trans rfl; have hcz9_1 : w7.cell? ⟨gb167, 1, none⟩ = some (.bool false) := (blk_cell BK167.out 1).trans rfl; have hcz9_2 : w7.cell? ⟨gb167, 2, none⟩ = some (.bool false) := (blk_cell BK167.out 2).trans rfl; have hcz9_3 : w7.cell? ⟨gb167, 3, none⟩ = some (.bool false) := (blk_cell BK167.out 3).trans rfl; have hcz9_4 : w7.cell? ⟨gb167, 4, none⟩ = some (.bool false) := (blk_cell BK167.out 4).trans rfl; have hfz9_0 := blk_frozen BK167.out 0; have hfz9_1 := blk_frozen BK167.out 1; have hfz9_2 := blk_frozen BK167.out 2; have hfz9_3 := blk_frozen BK167.out 3; have hfz9_4 := blk_frozen BK167.out 4))
 (try simp only [Act.put, lz1, lz2, lz3])
 go_cut [18] (fun v18 wc => ∃ (kq : Nat) (x18_2 : Bool), v18 = .bool x18_2 ∧ Aside0 (ir_IsIns.j0 kq x18_2 a0_0 a0_1 a0_2 a0_3 a0_4 a0_5 l0_6 a0_7 t161 t162 t163 t164 t165 = some r) ∧ Aside0 (kq ≤ k) ∧ Aside0 (wc.heap[gb160]? = some (.cells #[.int .i64 a0_0, .int .i64 a0_1, .int .i64 a0_2, .int .i64 a0_3, .int .i64 a0_4, .int .i64 a0_5, (.slice A0_6 l0_6.length c0_6), .int .i64 a0_7] 56 (0, 0))) ∧ Aside0 (wc.heap[gb167]? = some (.cells #[.bool t161, .bool t162, .bool t163, .bool t164, .bool t165] 123 (0, 0))) ∧ Aside0 (Below w.heap.size w wc))
 case first =>
  have H := HC3.out
  clear HC3
  by_cases c10 : t166 = true
  ·subst c10
   rw [if_pos rfl] at H
   have H' := Aside0.mk H
   clear H
   have hnb11 := NB160_167.out
   have hnc11 := NB167_160.out
   have hcz12_0 : w7.cell? ⟨gb160, 0, none⟩ = some (.int .i64 a0_0) := (blk_cell BK160.out 0).trans rfl
   have hcz12_1 : w7.cell? ⟨gb160, 1, none⟩ = some (.int .i64 a0_1) := (blk_cell BK160.out 1).trans rfl
   have hcz12_2 : w7.cell? ⟨gb160, 2, none⟩ = some (.int .i64 a0_2) := (blk_cell BK160.out 2).trans rfl
   have hcz12_3 : w7.cell? ⟨gb160, 3, none⟩ = some (.int .i64 a0_3) := (blk_cell BK160.out 3).trans rfl
   have hcz12_4 : w7.cell? ⟨gb160, 4, none⟩ = some (.int .i64 a0_4) := (blk_cell BK160.out 4).trans rfl
   have hcz12_5 : w7.cell? ⟨gb160, 5, none⟩ = some (.int .i64 a0_5) := (blk_cell BK160.out 5).trans rfl
   have hcz12_6 : w7.cell? ⟨gb160, 6, none⟩ = some (.slice A0_6 l0_6.length c0_6) := (blk_cell BK160.out 6).trans rfl
   have hcz12_7 : w7.cell? ⟨gb160, 7, none⟩ = some (.int .i64 a0_7) := (blk_cell BK160.out 7).trans rfl
   have hfz12_0 := blk_frozen BK160.out 0
   have hfz12_1 := blk_frozen BK160.out 1
   have hfz12_2 := blk_frozen BK160.out 2
   have hfz12_3 := blk_frozen BK160.out 3
   have hfz12_4 := blk_frozen BK160.out 4
   have hfz12_5 := blk_frozen BK160.out 5
   have hfz12_6 := blk_frozen BK160.out 6
   have hfz12_7 := blk_frozen BK160.out 7
   go_wp2
   go_meet
   case rel => exact ⟨_, ((a0_7 != 0)), (by first | rfl | (simp; done) | (simp [*]; done)), H', ⟨by first | omega | exact Nat.le_refl _⟩, ⟨by (with_reducible repeat (first | refine blk_drewN ?_ _ | refine blk_drew ?_ | refine blk_alloc ?_ _)); refine blk_far ?_ NB160_167.out _; (with_reducible repeat (first | refine blk_drewN ?_ _ | refine blk_drew ?_ | refine blk_alloc ?_ _)); refine blk_far ?_ NB160_167.out _; (with_reducible repeat (first | refine blk_drewN ?_ _ | refine blk_drew ?_ | refine blk_alloc ?_ _)); refine blk_far ?_ NB160_167.out _; (with_reducible repeat (first | refine blk_drewN ?_ _ | refine blk_drew ?_ | refine blk_alloc ?_ _)); refine blk_far ?_ NB160_167.out _; (with_reducible repeat (first | refine blk_drewN ?_ _ | refine blk_drew ?_ | refine blk_alloc ?_ _)); refine blk_far ?_ NB160_167.out _; (with_reducible repeat (first | refine blk_drewN ?_ _ | refine blk_drew ?_ | refine blk_alloc ?_ _)); exact BK160.out⟩, ⟨by (with_reducible repeat (first | refine blk_drewN ?_ _ | refine blk_drew ?_ | refine blk_alloc ?_ _)); refine blk_put (cs := #[.bool t161, .bool t162, .bool t163, .bool t164, .bool false]) ?_ 4 _ rfl; (with_reducible repeat (first | refine blk_drewN ?_ _ | refine blk_drew ?_ | refine blk_alloc ?_ _)); refine blk_put (cs := #[.bool t161, .bool t162, .bool t163, .bool false, .bool false]) ?_ 3 _ rfl; (with_reducible repeat (first | refine blk_drewN ?_ _ | refine blk_drew ?_ | refine blk_alloc ?_ _)); refine blk_put (cs := #[.bool t161, .bool t162, .bool false, .bool false, .bool false]) ?_ 2 _ rfl; (with_reducible repeat (first | refine blk_drewN ?_ _ | refine blk_drew ?_ | refine blk_alloc ?_ _)); refine blk_put (cs := #[.bool t161, .bool false, .bool false, .bool false, .bool false]) ?_ 1 _ rfl; (with_reducible repeat (first | refine blk_drewN ?_ _ | refine blk_drew ?_ | refine blk_alloc ?_ _)); refine blk_put (cs := #[.bool false, .bool false, .bool false, .bool false, .bool false]) ?_ 0 _ rfl; (with_reducible repeat (first | refine blk_drewN ?_ _ | refine blk_drew ?_ | refine blk_alloc ?_ _)); exact BK167.out⟩, ⟨by repeat (first | (with_reducible first | exact HB.out | apply below_alloc | apply pw_below_drewN | apply below_drew1 | refine below_set ?_ GE160.out | refine below_set ?_ GE167.out) | exact HB.out)⟩⟩
  ·replace c10 := Bool.eq_false_iff.mpr c10
   subst c10
   rw [if_neg (show ¬ (false = true) by decide)] at H
   have H' := Aside0.mk H
   clear H
   go_wp2
   go_meet
   case rel => exact ⟨_, (true), (by first | rfl | (simp; done) | (simp [*]; done)), H', ⟨by first | omega | exact Nat.le_refl _⟩, ⟨by (with_reducible repeat (first | refine blk_drewN ?_ _ | refine blk_drew ?_ | refine blk_alloc ?_ _)); refine blk_far ?_ NB160_167.out _; (with_reducible repeat (first | refine blk_drewN ?_ _ | refine blk_drew ?_ | refine blk_alloc ?_ _)); refine blk_far ?_ NB160_167.out _; (with_reducible repeat (first | refine blk_drewN ?_ _ | refine blk_drew ?_ | refine blk_alloc ?_ _)); refine blk_far ?_ NB160_167.out _; (with_reducible repeat (first | refine blk_drewN ?_ _ | refine blk_drew ?_ | refine blk_alloc ?_ _)); refine blk_far ?_ NB160_167.out _; (with_reducible repeat (first | refine blk_drewN ?_ _ | refine blk_drew ?_ | refine blk_alloc ?_ _)); refine blk_far ?_ NB160_167.out _; (with_reducible repeat (first | refine blk_drewN ?_ _ | refine blk_drew ?_ | refine blk_alloc ?_ _)); exact BK160.out⟩, ⟨by (with_reducible repeat (first | refine blk_drewN ?_ _ | refine blk_drew ?_ | refine blk_alloc ?_ _)); refine blk_put (cs := #[.bool t161, .bool t162, .bool t163, .bool t164, .bool false]) ?_ 4 _ rfl; (with_reducible repeat (first | refine blk_drewN ?_ _ | refine blk_drew ?_ | refine blk_alloc ?_ _)); refine blk_put (cs := #[.bool t161, .bool t162, .bool t163, .bool false, .bool false]) ?_ 3 _ rfl; (with_reducible repeat (first | refine blk_drewN ?_ _ | refine blk_drew ?_ | refine blk_alloc ?_ _)); refine blk_put (cs := #[.bool t161, .bool t162, .bool false, .bool false, .bool false]) ?_ 2 _ rfl; (with_reducible repeat (first | refine blk_drewN ?_ _ | refine blk_drew ?_ | refine blk_alloc ?_ _)); refine blk_put (cs := #[.bool t161, .bool false, .bool false, .bool false, .bool false]) ?_ 1 _ rfl; (with_reducible repeat (first | refine blk_drewN ?_ _ | refine blk_drew ?_ | refine blk_alloc ?_ _)); refine blk_put (cs := #[.bool false, .bool false, .bool false, .bool false, .bool false]) ?_ 0 _ rfl; (with_reducible repeat (first | refine blk_drewN ?_ _ | refine blk_drew ?_ | refine blk_alloc ?_ _)); exact BK167.out⟩, ⟨by repeat (first | (with_reducible first | exact HB.out | apply below_alloc | apply pw_below_drewN | apply below_drew1 | refine below_set ?_ GE160.out | refine below_set ?_ GE167.out) | exact HB.out)⟩⟩
 case rest =>
  clear HC3
  obtain ⟨kq, x18_2, rfl, HA, HJ2, BK160, BK167, HB⟩ := hcut
  cases kq with
  | zero => exact absurd HA.out (by simp [ir_IsIns.j0])
  | succ kj2 =>
   have H := HA.out
   clear HA
   simp only [ir_IsIns.j0] at H
   by_cases c13 : x18_2 = true
   ·subst c13
    rw [if_pos rfl] at H
    obtain rfl := Option.some.inj H
    go_wp2
    go_ret
    exact ⟨by first | rfl | (simp [errW_none, errW_some] <;> rfl) | (simp [*, errW_none, errW_some] <;> rfl), by repeat (first | (with_reducible first | exact HB.out | apply below_alloc | apply pw_below_drewN | apply below_drew1 | refine below_set ?_ GE160.out | refine below_set ?_ GE167.out) | exact HB.out)⟩
   ·replace c13 := Bool.eq_false_iff.mpr c13
    subst c13
    rw [if_neg (show ¬ (false = true) by decide)] at H
    by_cases c14 : t165 = true
    ·subst c14
     rw [if_pos rfl] at H
     obtain ⟨y168, hy168⟩ : ∃ y_ : List Int, y_ = (([a0_2, a0_3, a0_4] : List Int)) := ⟨_, rfl⟩
     replace H : ((ir_none.f y168).bind fun t171 => (if t171 = true then (if (IntKind.u64.wrap (a0_5)) ≤ 99 then ((ir_fits.f (a0_1 != 0) a0_1).bind fun t172 => (if t172 = true then (if (l0_6.length : Int) ≤ 8 then ((contains_int_90.f l0_6).bind fun t173 => (some (!t173))) else (some false)) else (some false))) else (some false)) else (some false))) = some r := by first | (rw [hy168]; with_reducible exact H) | (have H2_ := (Option.bind_some _ _).symm.trans H; rw [hy168]; with_reducible exact H2_) | (have H2_ := (Option.bind_some _ _).symm.trans H; with_reducible exact H2_) | with_reducible exact H | (rw [hy168]; exact H) | exact H
     have Ny168 := Aside0.mk hy168
     clear hy168
     replace H := Option.bind_eq_some_iff.mp H
     obtain ⟨t171, A150, H⟩ := H
     replace H : (if t171 = true then (if (IntKind.u64.wrap (a0_5)) ≤ 99 then ((ir_fits.f (a0_1 != 0) a0_1).bind fun t172 => (if t172 = true then (if (l0_6.length : Int) ≤ 8 then ((contains_int_90.f l0_6).bind fun t173 => (some (!t173))) else (some false)) else (some false))) else (some false)) else (some false)) = some r := H
     have A15 := Aside0.mk A150
     clear A150
     by_cases c16 : t171 = true
     ·subst c16
      rw [if_pos rfl] at H
      by_cases c17 : (IntKind.u64.wrap (a0_5)) ≤ 99
      ·rw [if_pos c17] at H
       have c17b0 : decide ((IntKind.u64.wrap (a0_5)) ≤ 99) = true := decide_eq_true c17
       clear c17
       replace H := Option.bind_eq_some_iff.mp H
       obtain ⟨t172, A180, H⟩ := H
       replace H : (if t172 = true then (if (l0_6.length : Int) ≤ 8 then ((contains_int_90.f l0_6).bind fun t173 => (some (!t173))) else (some false)) else (some false)) = some r := H
       have A18 := Aside0.mk A180
       clear A180
       by_cases c19 : t172 = true
       ·subst c19
        rw [if_pos rfl] at H
        by_cases c20 : (l0_6.length : Int) ≤ 8
        ·rw [if_pos c20] at H
         have c20b0 : decide ((l0_6.length : Int) ≤ 8) = true := decide_eq_true c20
         have c20b1 : decide (l0_6.length ≤ 8) = true := decide_eq_true (by omega)
         clear c20
         replace H := Option.bind_eq_some_iff.mp H
         obtain ⟨t173, A210, H⟩ := H
         replace H : (some (!t173)) = some r := H
         have A21 := Aside0.mk A210
         clear A210
         obtain rfl := Option.some.inj H
         have hnb22 := NB167_160.out
         have hnc22 := NB160_167.out
         have hcz23_0 : wc.cell? ⟨gb167, 0, none⟩ = some (.bool t161) := (blk_cell BK167.out 0).trans rfl
         have hcz23_1 : wc.cell? ⟨gb167, 1, none⟩ = some (.bool t162) := (blk_cell BK167.out 1).trans rfl
         have hcz23_2 : wc.cell? ⟨gb167, 2, none⟩ = some (.bool t163) := (blk_cell BK167.out 2).trans rfl
         have hcz23_3 : wc.cell? ⟨gb167, 3, none⟩ = some (.bool t164) := (blk_cell BK167.out 3).trans rfl
         have hcz23_4 : wc.cell? ⟨gb167, 4, none⟩ = some (.bool true) := (blk_cell BK167.out 4).trans rfl
         have hfz23_0 := blk_frozen BK167.out 0
         have hfz23_1 := blk_frozen BK167.out 1
         have hfz23_2 := blk_frozen BK167.out 2
         have hfz23_3 := blk_frozen BK167.out 3
         have hfz23_4 := blk_frozen BK167.out 4
         have hcz24_0 : wc.cell? ⟨gb160, 0, none⟩ = some (.int .i64 a0_0) := (blk_cell BK160.out 0).trans rfl
         have hcz24_1 : wc.cell? ⟨gb160, 1, none⟩ = some (.int .i64 a0_1) := (blk_cell BK160.out 1).trans rfl
         have hcz24_2 : wc.cell? ⟨gb160, 2, none⟩ = some (.int .i64 a0_2) := (blk_cell BK160.out 2).trans rfl
         have hcz24_3 : wc.cell? ⟨gb160, 3, none⟩ = some (.int .i64 a0_3) := (blk_cell BK160.out 3).trans rfl
         have hcz24_4 : wc.cell? ⟨gb160, 4, none⟩ = some (.int .i64 a0_4) := (blk_cell BK160.out 4).trans rfl
         have hcz24_5 : wc.cell? ⟨gb160, 5, none⟩ = some (.int .i64 a0_5) := (blk_cell BK160.out 5).trans rfl
         have hcz24_6 : wc.cell? ⟨gb160, 6, none⟩ = some (.slice A0_6 l0_6.length c0_6) := (blk_cell BK160.out 6).trans rfl
         have hcz24_7 : wc.cell? ⟨gb160, 7, none⟩ = some (.int .i64 a0_7) := (blk_cell BK160.out 7).trans rfl
         have hfz24_0 := blk_frozen BK160.out 0
         have hfz24_1 := blk_frozen BK160.out 1
         have hfz24_2 := blk_frozen BK160.out 2
         have hfz24_3 := blk_frozen BK160.out 3
         have hfz24_4 := blk_frozen BK160.out 4
         have hfz24_5 := blk_frozen BK160.out 5
         have hfz24_6 := blk_frozen BK160.out 6
         have hfz24_7 := blk_frozen BK160.out 7
         go_wp2_with (first | ((with_reducible refine gate_dst (N := 27) rfl ?_); (try (refine gate_guard (by rfl) ?_; dsimp only)); refine Kd.R_lit (Kd.int .i64) _ 3 ?hg (N := 27) ?hd (xs := ([a0_2, a0_3, a0_4] : List Int)) (inner := [.int .i64 a0_2, .int .i64 a0_3, .int .i64 a0_4]) (ok := fun _ => True) (okp := fun _ => True) ?hr ?hp (fun _ hk => hk) trivial (Below.refl _ _) (Nat.le_refl _) (by simp) ?_; (case hd => rfl); (case hg => rfl); (case hr => first | (go_simp; done) | (go_simp; rfl)); (case hp => exact (Reps.one (show Kd.M (Kd.int .i64) _ _ _ a0_2 [.int .i64 a0_2] from rfl) (Reps.one (show Kd.M (Kd.int .i64) _ _ _ a0_3 [.int .i64 a0_3] from rfl) (Reps.one (show Kd.M (Kd.int .i64) _ _ _ a0_4 [.int .i64 a0_4] from rfl) (Reps.none _ _))))); intro v169 w25 ho26 hb hg_ hnew_; clear hg_ hnew_; (first | rw [← Ny168.out] at ho26 | (simp only [Int.reduceToNat] at ho26; rw [← Ny168.out] at ho26)); have n0_ := Aside0.mk (Kd.R_lower ho26 (below_size (by repeat (first | (with_reducible first | exact HB.out | apply below_alloc | apply pw_below_drewN | apply below_drew1 | refine below_set ?_ GE160.out | refine below_set ?_ GE167.out) | exact HB.out)))); have n1_ := Aside0.mk (blk_below (g := gb160) (o := .cells #[.int .i64 a0_0, .int .i64 a0_1, .int .i64 a0_2, .int .i64 a0_3, .int .i64 a0_4, .int .i64 a0_5, .slice A0_6 l0_6.length c0_6, .int .i64 a0_7] 56 (0, 0)) (by (with_reducible repeat (first | refine blk_drewN ?_ _ | refine blk_drew ?_ | refine blk_alloc ?_ _)); exact BK160.out) hb); have n2_ := Aside0.mk (blk_below (g := gb167) (o := .cells #[.bool t161, .bool t162, .bool t163, .bool t164, .bool true] 123 (0, 0)) (by (with_reducible repeat (first | refine blk_drewN ?_ _ | refine blk_drew ?_ | refine blk_alloc ?_ _)); exact BK167.out) hb); have n3_ := Aside0.mk (below_step (by repeat (first | (with_reducible first | exact HB.out | apply below_alloc | apply pw_below_drewN | apply below_drew1 | refine below_set ?_ GE160.out | refine below_set ?_ GE167.out) | exact HB.out)) hb); clear BK160; clear BK167; clear HB; have HO170 := n0_; have BK160 := n1_; have BK167 := n2_; have HB := n3_; clear n0_ n1_ n2_ n3_; clear hb ho26; obtain ⟨Ao27, co27, eo27⟩ := Kd.R_slice HO170.out; subst eo27) | ((with_reducible refine gate_callee (f := 92) rfl ?_); refine goesL_ (some 28) rfl rfl Try.func92 (by kernel_rfl) rfl #[.slice Ao27 y168.length co27] rfl (by (try simp only [List.map_toArray, List.map_cons, List.map_nil]); first | done | rfl | (simp only [List.length_drop, List.length_take]; rfl)) ?_; (with_reducible refine (ir_none.calls _ _ y168 true _ ?side1 ?side2 A15.out).mono ?_); (case side1 => repeat (first | exact (Kd.R_reads' HO170.out).2.2 | (with_reducible refine Kd.C_alloc ?_ _) | (with_reducible refine Kd.C_drewN ?_ _) | (with_reducible refine Kd.C_drew ?_))); (case side2 => exact (Kd.R_reads' HO170.out).2.1); rintro e w' ⟨rfl, ⟨nd, rfl⟩⟩; refine ⟨_, rfl, ?_⟩; have hcz28_0 : w25.cell? ⟨gb160, 0, none⟩ = some (.int .i64 a0_0) := (blk_cell BK160.out 0).trans rfl; have hcz28_1 : w25.cell? ⟨gb160, 1, none⟩ = some (.int .i64 a0_1) := (blk_cell BK160.out 1).trans rfl; have hcz28_2 : w25.cell? ⟨gb160, 2, none⟩ = some (.int .i64 a0_2) := (blk_cell BK160.out 2).trans rfl; have hcz28_3 : w25.cell? ⟨gb160, 3, none⟩ = some (.int .i64 a0_3) := (blk_cell BK160.out 3).trans rfl; have hcz28_4 : w25.cell? ⟨gb160, 4, none⟩ = some (.int .i64 a0_4) := (blk_cell BK160.out 4).trans rfl; have hcz28_5 : w25.cell? ⟨gb160, 5, none⟩ = some (.int .i64 a0_5) := (blk_cell BK160.out 5).trans rfl; have hcz28_6 : w25.cell? ⟨gb160, 6, none⟩ = some (.slice A0_6 l0_6.length c0_6) := (blk_cell BK160.out 6).trans rfl; have hcz28_7 : w25.cell? ⟨gb160, 7, none⟩ = some (.int .i64 a0_7) := (blk_cell BK160.out 7).trans rfl; have hfz28_0 := blk_frozen BK160.out 0; have hfz28_1 := blk_frozen BK160.out 1; have hfz28_2 := blk_frozen BK160.out 2; have hfz28_3 := blk_frozen BK160.out 3; have hfz28_4 := blk_frozen BK160.out 4; have hfz28_5 := blk_frozen BK160.out 5; have hfz28_6 := blk_frozen BK160.out 6; have hfz28_7 := blk_frozen BK160.out 7) | (go_at_call 93; (with_reducible refine (ir_fits.calls (a0_1 != 0) a0_1 true _ A18.out).mono ?_); rintro e w' ⟨rfl, ⟨nd, rfl⟩⟩) | (go_at_call 94; (with_reducible refine (contains_int_90.calls _ _ l0_6 t173 _ ?side1 ?side2 A21.out).mono ?_); (case side1 => repeat (first | exact (Kd.C_below HR0_6.out (by repeat (first | (with_reducible first | exact HB.out | apply below_alloc | apply pw_below_drewN | apply below_drew1 | refine below_set ?_ GE160.out | refine below_set ?_ GE167.out) | exact HB.out))) | (with_reducible refine Kd.C_alloc ?_ _) | (with_reducible refine Kd.C_drewN ?_ _) | (with_reducible refine Kd.C_drew ?_))); (case side2 => exact HC0_6.out); rintro e w' ⟨rfl, ⟨nd, rfl⟩⟩))
         go_ret
         exact ⟨by first | rfl | (simp [errW_none, errW_some] <;> rfl) | (simp [*, errW_none, errW_some] <;> rfl), by repeat (first | (with_reducible first | exact HB.out | apply below_alloc | apply pw_below_drewN | apply below_drew1 | refine below_set ?_ GE160.out | refine below_set ?_ GE167.out) | exact HB.out)⟩
        ·rw [if_neg c20] at H
         have c20b0 : decide ((l0_6.length : Int) ≤ 8) = false := decide_eq_false c20
         have c20b1 : decide (l0_6.length ≤ 8) = false := decide_eq_false (by omega)
         clear c20
         obtain rfl := Option.some.inj H
         have hnb29 := NB167_160.out
         have hnc29 := NB160_167.out
         have hcz30_0 : wc.cell? ⟨gb167, 0, none⟩ = some (.bool t161) := (blk_cell BK167.out 0).trans rfl
         have hcz30_1 : wc.cell? ⟨gb167, 1, none⟩ = some (.bool t162) := (blk_cell BK167.out 1).trans rfl
         have hcz30_2 : wc.cell? ⟨gb167, 2, none⟩ = some (.bool t163) := (blk_cell BK167.out 2).trans rfl
         have hcz30_3 : wc.cell? ⟨gb167, 3, none⟩ = some (.bool t164) := (blk_cell BK167.out 3).trans rfl
         have hcz30_4 : wc.cell? ⟨gb167, 4, none⟩ = some (.bool true) := (blk_cell BK167.out 4).trans rfl
         have hfz30_0 := blk_frozen BK167.out 0
         have hfz30_1 := blk_frozen BK167.out 1
         have hfz30_2 := blk_frozen BK167.out 2
         have hfz30_3 := blk_frozen BK167.out 3
         have hfz30_4 := blk_frozen BK167.out 4
         have hcz31_0 : wc.cell? ⟨gb160, 0, none⟩ = some (.int .i64 a0_0) := (blk_cell BK160.out 0).trans rfl
         have hcz31_1 : wc.cell? ⟨gb160, 1, none⟩ = some (.int .i64 a0_1) := (blk_cell BK160.out 1).trans rfl
         have hcz31_2 : wc.cell? ⟨gb160, 2, none⟩ = some (.int .i64 a0_2) := (blk_cell BK160.out 2).trans rfl
         have hcz31_3 : wc.cell? ⟨gb160, 3, none⟩ = some (.int .i64 a0_3) := (blk_cell BK160.out 3).trans rfl
         have hcz31_4 : wc.cell? ⟨gb160, 4, none⟩ = some (.int .i64 a0_4) := (blk_cell BK160.out 4).trans rfl
         have hcz31_5 : wc.cell? ⟨gb160, 5, none⟩ = some (.int .i64 a0_5) := (blk_cell BK160.out 5).trans rfl
         have hcz31_6 : wc.cell? ⟨gb160, 6, none⟩ = some (.slice A0_6 l0_6.length c0_6) := (blk_cell BK160.out 6).trans rfl
         have hcz31_7 : wc.cell? ⟨gb160, 7, none⟩ = some (.int .i64 a0_7) := (blk_cell BK160.out 7).trans rfl
         have hfz31_0 := blk_frozen BK160.out 0
         have hfz31_1 := blk_frozen BK160.out 1
         have hfz31_2 := blk_frozen BK160.out 2
         have hfz31_3 := blk_frozen BK160.out 3
         have hfz31_4 := blk_frozen BK160.out 4
         have hfz31_5 := blk_frozen BK160.out 5
         have hfz31_6 := blk_frozen BK160.out 6
         have hfz31_7 := blk_frozen BK160.out 7
         go_wp2_with (first | ((with_reducible refine gate_dst (N := 27) rfl ?_); (try (refine gate_guard (by rfl) ?_; dsimp only)); refine Kd.R_lit (Kd.int .i64) _ 3 ?hg (N := 27) ?hd (xs := ([a0_2, a0_3, a0_4] : List Int)) (inner := [.int .i64 a0_2, .int .i64 a0_3, .int .i64 a0_4]) (ok := fun _ => True) (okp := fun _ => True) ?hr ?hp (fun _ hk => hk) trivial (Below.refl _ _) (Nat.le_refl _) (by simp) ?_; (case hd => rfl); (case hg => rfl); (case hr => first | (go_simp; done) | (go_simp; rfl)); (case hp => exact (Reps.one (show Kd.M (Kd.int .i64) _ _ _ a0_2 [.int .i64 a0_2] from rfl) (Reps.one (show Kd.M (Kd.int .i64) _ _ _ a0_3 [.int .i64 a0_3] from rfl) (Reps.one (show Kd.M (Kd.int .i64) _ _ _ a0_4 [.int .i64 a0_4] from rfl) (Reps.none _ _))))); intro v169 w32 ho33 hb hg_ hnew_; clear hg_ hnew_; (first | rw [← Ny168.out] at ho33 | (simp only [Int.reduceToNat] at ho33; rw [← Ny168.out] at ho33)); have n0_ := Aside0.mk (Kd.R_lower ho33 (below_size (by repeat (first | (with_reducible first | exact HB.out | apply below_alloc | apply pw_below_drewN | apply below_drew1 | refine below_set ?_ GE160.out | refine below_set ?_ GE167.out) | exact HB.out)))); have n1_ := Aside0.mk (blk_below (g := gb160) (o := .cells #[.int .i64 a0_0, .int .i64 a0_1, .int .i64 a0_2, .int .i64 a0_3, .int .i64 a0_4, .int .i64 a0_5, .slice A0_6 l0_6.length c0_6, .int .i64 a0_7] 56 (0, 0)) (by (with_reducible repeat (first | refine blk_drewN ?_ _ | refine blk_drew ?_ | refine blk_alloc ?_ _)); exact BK160.out) hb); have n2_ := Aside0.mk (blk_below (g := gb167) (o := .cells #[.bool t161, .bool t162, .bool t163, .bool t164, .bool true] 123 (0, 0)) (by (with_reducible repeat (first | refine blk_drewN ?_ _ | refine blk_drew ?_ | refine blk_alloc ?_ _)); exact BK167.out) hb); have n3_ := Aside0.mk (below_step (by repeat (first | (with_reducible first | exact HB.out | apply below_alloc | apply pw_below_drewN | apply below_drew1 | refine below_set ?_ GE160.out | refine below_set ?_ GE167.out) | exact HB.out)) hb); clear BK160; clear BK167; clear HB; have HO170 := n0_; have BK160 := n1_; have BK167 := n2_; have HB := n3_; clear n0_ n1_ n2_ n3_; clear hb ho33; obtain ⟨Ao34, co34, eo34⟩ := Kd.R_slice HO170.out; subst eo34) | ((with_reducible refine gate_callee (f := 92) rfl ?_); refine goesL_ (some 28) rfl rfl Try.func92 (by kernel_rfl) rfl #[.slice Ao34 y168.length co34] rfl (by (try simp only [List.map_toArray, List.map_cons, List.map_nil]); first | done | rfl | (simp only [List.length_drop, List.length_take]; rfl)) ?_; (with_reducible refine (ir_none.calls _ _ y168 true _ ?side1 ?side2 A15.out).mono ?_); (case side1 => repeat (first | exact (Kd.R_reads' HO170.out).2.2 | (with_reducible refine Kd.C_alloc ?_ _) | (with_reducible refine Kd.C_drewN ?_ _) | (with_reducible refine Kd.C_drew ?_))); (case side2 => exact (Kd.R_reads' HO170.out).2.1); rintro e w' ⟨rfl, ⟨nd, rfl⟩⟩; refine ⟨_, rfl, ?_⟩; have hcz35_0 : w32.cell? ⟨gb160, 0, none⟩ = some (.int .i64 a0_0) := (blk_cell BK160.out 0).trans rfl; have hcz35_1 : w32.cell? ⟨gb160, 1, none⟩ = some (.int .i64 a0_1) := (blk_cell BK160.out 1).trans rfl; have hcz35_2 : w32.cell? ⟨gb160, 2, none⟩ = some (.int .i64 a0_2) := (blk_cell BK160.out 2).trans rfl; have hcz35_3 : w32.cell? ⟨gb160, 3, none⟩ = some (.int .i64 a0_3) := (blk_cell BK160.out 3).trans rfl; have hcz35_4 : w32.cell? ⟨gb160, 4, none⟩ = some (.int .i64 a0_4) := (blk_cell BK160.out 4).trans rfl; have hcz35_5 : w32.cell? ⟨gb160, 5, none⟩ = some (.int .i64 a0_5) := (blk_cell BK160.out 5).trans rfl; have hcz35_6 : w32.cell? ⟨gb160, 6, none⟩ = some (.slice A0_6 l0_6.length c0_6) := (blk_cell BK160.out 6).trans rfl; have hcz35_7 : w32.cell? ⟨gb160, 7, none⟩ = some (.int .i64 a0_7) := (blk_cell BK160.out 7).trans rfl; have hfz35_0 := blk_frozen BK160.out 0; have hfz35_1 := blk_frozen BK160.out 1; have hfz35_2 := blk_frozen BK160.out 2; have hfz35_3 := blk_frozen BK160.out 3; have hfz35_4 := blk_frozen BK160.out 4; have hfz35_5 := blk_frozen BK160.out 5; have hfz35_6 := blk_frozen BK160.out 6; have hfz35_7 := blk_frozen BK160.out 7) | (go_at_call 93; (with_reducible refine (ir_fits.calls (a0_1 != 0) a0_1 true _ A18.out).mono ?_); rintro e w' ⟨rfl, ⟨nd, rfl⟩⟩))
         go_ret
         exact ⟨by first | rfl | (simp [errW_none, errW_some] <;> rfl) | (simp [*, errW_none, errW_some] <;> rfl), by repeat (first | (with_reducible first | exact HB.out | apply below_alloc | apply pw_below_drewN | apply below_drew1 | refine below_set ?_ GE160.out | refine below_set ?_ GE167.out) | exact HB.out)⟩
       ·replace c19 := Bool.eq_false_iff.mpr c19
        subst c19
        rw [if_neg (show ¬ (false = true) by decide)] at H
        obtain rfl := Option.some.inj H
        have hnb36 := NB167_160.out
        have hnc36 := NB160_167.out
        have hcz37_0 : wc.cell? ⟨gb167, 0, none⟩ = some (.bool t161) := (blk_cell BK167.out 0).trans rfl
        have hcz37_1 : wc.cell? ⟨gb167, 1, none⟩ = some (.bool t162) := (blk_cell BK167.out 1).trans rfl
        have hcz37_2 : wc.cell? ⟨gb167, 2, none⟩ = some (.bool t163) := (blk_cell BK167.out 2).trans rfl
        have hcz37_3 : wc.cell? ⟨gb167, 3, none⟩ = some (.bool t164) := (blk_cell BK167.out 3).trans rfl
        have hcz37_4 : wc.cell? ⟨gb167, 4, none⟩ = some (.bool true) := (blk_cell BK167.out 4).trans rfl
        have hfz37_0 := blk_frozen BK167.out 0
        have hfz37_1 := blk_frozen BK167.out 1
        have hfz37_2 := blk_frozen BK167.out 2
        have hfz37_3 := blk_frozen BK167.out 3
        have hfz37_4 := blk_frozen BK167.out 4
        have hcz38_0 : wc.cell? ⟨gb160, 0, none⟩ = some (.int .i64 a0_0) := (blk_cell BK160.out 0).trans rfl
        have hcz38_1 : wc.cell? ⟨gb160, 1, none⟩ = some (.int .i64 a0_1) := (blk_cell BK160.out 1).trans rfl
        have hcz38_2 : wc.cell? ⟨gb160, 2, none⟩ = some (.int .i64 a0_2) := (blk_cell BK160.out 2).trans rfl
        have hcz38_3 : wc.cell? ⟨gb160, 3, none⟩ = some (.int .i64 a0_3) := (blk_cell BK160.out 3).trans rfl
        have hcz38_4 : wc.cell? ⟨gb160, 4, none⟩ = some (.int .i64 a0_4) := (blk_cell BK160.out 4).trans rfl
        have hcz38_5 : wc.cell? ⟨gb160, 5, none⟩ = some (.int .i64 a0_5) := (blk_cell BK160.out 5).trans rfl
        have hcz38_6 : wc.cell? ⟨gb160, 6, none⟩ = some (.slice A0_6 l0_6.length c0_6) := (blk_cell BK160.out 6).trans rfl
        have hcz38_7 : wc.cell? ⟨gb160, 7, none⟩ = some (.int .i64 a0_7) := (blk_cell BK160.out 7).trans rfl
        have hfz38_0 := blk_frozen BK160.out 0
        have hfz38_1 := blk_frozen BK160.out 1
        have hfz38_2 := blk_frozen BK160.out 2
        have hfz38_3 := blk_frozen BK160.out 3
        have hfz38_4 := blk_frozen BK160.out 4
        have hfz38_5 := blk_frozen BK160.out 5
        have hfz38_6 := blk_frozen BK160.out 6
        have hfz38_7 := blk_frozen BK160.out 7
        go_wp2_with (first | ((with_reducible refine gate_dst (N := 27) rfl ?_); (try (refine gate_guard (by rfl) ?_; dsimp only)); refine Kd.R_lit (Kd.int .i64) _ 3 ?hg (N := 27) ?hd (xs := ([a0_2, a0_3, a0_4] : List Int)) (inner := [.int .i64 a0_2, .int .i64 a0_3, .int .i64 a0_4]) (ok := fun _ => True) (okp := fun _ => True) ?hr ?hp (fun _ hk => hk) trivial (Below.refl _ _) (Nat.le_refl _) (by simp) ?_; (case hd => rfl); (case hg => rfl); (case hr => first | (go_simp; done) | (go_simp; rfl)); (case hp => exact (Reps.one (show Kd.M (Kd.int .i64) _ _ _ a0_2 [.int .i64 a0_2] from rfl) (Reps.one (show Kd.M (Kd.int .i64) _ _ _ a0_3 [.int .i64 a0_3] from rfl) (Reps.one (show Kd.M (Kd.int .i64) _ _ _ a0_4 [.int .i64 a0_4] from rfl) (Reps.none _ _))))); intro v169 w39 ho40 hb hg_ hnew_; clear hg_ hnew_; (first | rw [← Ny168.out] at ho40 | (simp only [Int.reduceToNat] at ho40; rw [← Ny168.out] at ho40)); have n0_ := Aside0.mk (Kd.R_lower ho40 (below_size (by repeat (first | (with_reducible first | exact HB.out | apply below_alloc | apply pw_below_drewN | apply below_drew1 | refine below_set ?_ GE160.out | refine below_set ?_ GE167.out) | exact HB.out)))); have n1_ := Aside0.mk (blk_below (g := gb160) (o := .cells #[.int .i64 a0_0, .int .i64 a0_1, .int .i64 a0_2, .int .i64 a0_3, .int .i64 a0_4, .int .i64 a0_5, .slice A0_6 l0_6.length c0_6, .int .i64 a0_7] 56 (0, 0)) (by (with_reducible repeat (first | refine blk_drewN ?_ _ | refine blk_drew ?_ | refine blk_alloc ?_ _)); exact BK160.out) hb); have n2_ := Aside0.mk (blk_below (g := gb167) (o := .cells #[.bool t161, .bool t162, .bool t163, .bool t164, .bool true] 123 (0, 0)) (by (with_reducible repeat (first | refine blk_drewN ?_ _ | refine blk_drew ?_ | refine blk_alloc ?_ _)); exact BK167.out) hb); have n3_ := Aside0.mk (below_step (by repeat (first | (with_reducible first | exact HB.out | apply below_alloc | apply pw_below_drewN | apply below_drew1 | refine below_set ?_ GE160.out | refine below_set ?_ GE167.out) | exact HB.out)) hb); clear BK160; clear BK167; clear HB; have HO170 := n0_; have BK160 := n1_; have BK167 := n2_; have HB := n3_; clear n0_ n1_ n2_ n3_; clear hb ho40; obtain ⟨Ao41, co41, eo41⟩ := Kd.R_slice HO170.out; subst eo41) | ((with_reducible refine gate_callee (f := 92) rfl ?_); refine goesL_ (some 28) rfl rfl Try.func92 (by kernel_rfl) rfl #[.slice Ao41 y168.length co41] rfl (by (try simp only [List.map_toArray, List.map_cons, List.map_nil]); first | done | rfl | (simp only [List.length_drop, List.length_take]; rfl)) ?_; (with_reducible refine (ir_none.calls _ _ y168 true _ ?side1 ?side2 A15.out).mono ?_); (case side1 => repeat (first | exact (Kd.R_reads' HO170.out).2.2 | (with_reducible refine Kd.C_alloc ?_ _) | (with_reducible refine Kd.C_drewN ?_ _) | (with_reducible refine Kd.C_drew ?_))); (case side2 => exact (Kd.R_reads' HO170.out).2.1); rintro e w' ⟨rfl, ⟨nd, rfl⟩⟩; refine ⟨_, rfl, ?_⟩; have hcz42_0 : w39.cell? ⟨gb160, 0, none⟩ = some (.int .i64 a0_0) := (blk_cell BK160.out 0).trans rfl; have hcz42_1 : w39.cell? ⟨gb160, 1, none⟩ = some (.int .i64 a0_1) := (blk_cell BK160.out 1).trans rfl; have hcz42_2 : w39.cell? ⟨gb160, 2, none⟩ = some (.int .i64 a0_2) := (blk_cell BK160.out 2).trans rfl; have hcz42_3 : w39.cell? ⟨gb160, 3, none⟩ = some (.int .i64 a0_3) := (blk_cell BK160.out 3).trans rfl; have hcz42_4 : w39.cell? ⟨gb160, 4, none⟩ = some (.int .i64 a0_4) := (blk_cell BK160.out 4).trans rfl; have hcz42_5 : w39.cell? ⟨gb160, 5, none⟩ = some (.int .i64 a0_5) := (blk_cell BK160.out 5).trans rfl; have hcz42_6 : w39.cell? ⟨gb160, 6, none⟩ = some (.slice A0_6 l0_6.length c0_6) := (blk_cell BK160.out 6).trans rfl; have hcz42_7 : w39.cell? ⟨gb160, 7, none⟩ = some (.int .i64 a0_7) := (blk_cell BK160.out 7).trans rfl; have hfz42_0 := blk_frozen BK160.out 0; have hfz42_1 := blk_frozen BK160.out 1; have hfz42_2 := blk_frozen BK160.out 2; have hfz42_3 := blk_frozen BK160.out 3; have hfz42_4 := blk_frozen BK160.out 4; have hfz42_5 := blk_frozen BK160.out 5; have hfz42_6 := blk_frozen BK160.out 6; have hfz42_7 := blk_frozen BK160.out 7) | (go_at_call 93; (with_reducible refine (ir_fits.calls (a0_1 != 0) a0_1 false _ A18.out).mono ?_); rintro e w' ⟨rfl, ⟨nd, rfl⟩⟩))
        go_ret
        exact ⟨by first | rfl | (simp [errW_none, errW_some] <;> rfl) | (simp [*, errW_none, errW_some] <;> rfl), by repeat (first | (with_reducible first | exact HB.out | apply below_alloc | apply pw_below_drewN | apply below_drew1 | refine below_set ?_ GE160.out | refine below_set ?_ GE167.out) | exact HB.out)⟩
      ·rw [if_neg c17] at H
       have c17b0 : decide ((IntKind.u64.wrap (a0_5)) ≤ 99) = false := decide_eq_false c17
       clear c17
       obtain rfl := Option.some.inj H
       have hnb43 := NB167_160.out
       have hnc43 := NB160_167.out
       have hcz44_0 : wc.cell? ⟨gb167, 0, none⟩ = some (.bool t161) := (blk_cell BK167.out 0).trans rfl
       have hcz44_1 : wc.cell? ⟨gb167, 1, none⟩ = some (.bool t162) := (blk_cell BK167.out 1).trans rfl
       have hcz44_2 : wc.cell? ⟨gb167, 2, none⟩ = some (.bool t163) := (blk_cell BK167.out 2).trans rfl
       have hcz44_3 : wc.cell? ⟨gb167, 3, none⟩ = some (.bool t164) := (blk_cell BK167.out 3).trans rfl
       have hcz44_4 : wc.cell? ⟨gb167, 4, none⟩ = some (.bool true) := (blk_cell BK167.out 4).trans rfl
       have hfz44_0 := blk_frozen BK167.out 0
       have hfz44_1 := blk_frozen BK167.out 1
       have hfz44_2 := blk_frozen BK167.out 2
       have hfz44_3 := blk_frozen BK167.out 3
       have hfz44_4 := blk_frozen BK167.out 4
       have hcz45_0 : wc.cell? ⟨gb160, 0, none⟩ = some (.int .i64 a0_0) := (blk_cell BK160.out 0).trans rfl
       have hcz45_1 : wc.cell? ⟨gb160, 1, none⟩ = some (.int .i64 a0_1) := (blk_cell BK160.out 1).trans rfl
       have hcz45_2 : wc.cell? ⟨gb160, 2, none⟩ = some (.int .i64 a0_2) := (blk_cell BK160.out 2).trans rfl
       have hcz45_3 : wc.cell? ⟨gb160, 3, none⟩ = some (.int .i64 a0_3) := (blk_cell BK160.out 3).trans rfl
       have hcz45_4 : wc.cell? ⟨gb160, 4, none⟩ = some (.int .i64 a0_4) := (blk_cell BK160.out 4).trans rfl
       have hcz45_5 : wc.cell? ⟨gb160, 5, none⟩ = some (.int .i64 a0_5) := (blk_cell BK160.out 5).trans rfl
       have hcz45_6 : wc.cell? ⟨gb160, 6, none⟩ = some (.slice A0_6 l0_6.length c0_6) := (blk_cell BK160.out 6).trans rfl
       have hcz45_7 : wc.cell? ⟨gb160, 7, none⟩ = some (.int .i64 a0_7) := (blk_cell BK160.out 7).trans rfl
       have hfz45_0 := blk_frozen BK160.out 0
       have hfz45_1 := blk_frozen BK160.out 1
       have hfz45_2 := blk_frozen BK160.out 2
       have hfz45_3 := blk_frozen BK160.out 3
       have hfz45_4 := blk_frozen BK160.out 4
       have hfz45_5 := blk_frozen BK160.out 5
       have hfz45_6 := blk_frozen BK160.out 6
       have hfz45_7 := blk_frozen BK160.out 7
       go_wp2_with (first | ((with_reducible refine gate_dst (N := 27) rfl ?_); (try (refine gate_guard (by rfl) ?_; dsimp only)); refine Kd.R_lit (Kd.int .i64) _ 3 ?hg (N := 27) ?hd (xs := ([a0_2, a0_3, a0_4] : List Int)) (inner := [.int .i64 a0_2, .int .i64 a0_3, .int .i64 a0_4]) (ok := fun _ => True) (okp := fun _ => True) ?hr ?hp (fun _ hk => hk) trivial (Below.refl _ _) (Nat.le_refl _) (by simp) ?_; (case hd => rfl); (case hg => rfl); (case hr => first | (go_simp; done) | (go_simp; rfl)); (case hp => exact (Reps.one (show Kd.M (Kd.int .i64) _ _ _ a0_2 [.int .i64 a0_2] from rfl) (Reps.one (show Kd.M (Kd.int .i64) _ _ _ a0_3 [.int .i64 a0_3] from rfl) (Reps.one (show Kd.M (Kd.int .i64) _ _ _ a0_4 [.int .i64 a0_4] from rfl) (Reps.none _ _))))); intro v169 w46 ho47 hb hg_ hnew_; clear hg_ hnew_; (first | rw [← Ny168.out] at ho47 | (simp only [Int.reduceToNat] at ho47; rw [← Ny168.out] at ho47)); have n0_ := Aside0.mk (Kd.R_lower ho47 (below_size (by repeat (first | (with_reducible first | exact HB.out | apply below_alloc | apply pw_below_drewN | apply below_drew1 | refine below_set ?_ GE160.out | refine below_set ?_ GE167.out) | exact HB.out)))); have n1_ := Aside0.mk (blk_below (g := gb160) (o := .cells #[.int .i64 a0_0, .int .i64 a0_1, .int .i64 a0_2, .int .i64 a0_3, .int .i64 a0_4, .int .i64 a0_5, .slice A0_6 l0_6.length c0_6, .int .i64 a0_7] 56 (0, 0)) (by (with_reducible repeat (first | refine blk_drewN ?_ _ | refine blk_drew ?_ | refine blk_alloc ?_ _)); exact BK160.out) hb); have n2_ := Aside0.mk (blk_below (g := gb167) (o := .cells #[.bool t161, .bool t162, .bool t163, .bool t164, .bool true] 123 (0, 0)) (by (with_reducible repeat (first | refine blk_drewN ?_ _ | refine blk_drew ?_ | refine blk_alloc ?_ _)); exact BK167.out) hb); have n3_ := Aside0.mk (below_step (by repeat (first | (with_reducible first | exact HB.out | apply below_alloc | apply pw_below_drewN | apply below_drew1 | refine below_set ?_ GE160.out | refine below_set ?_ GE167.out) | exact HB.out)) hb); clear BK160; clear BK167; clear HB; have HO170 := n0_; have BK160 := n1_; have BK167 := n2_; have HB := n3_; clear n0_ n1_ n2_ n3_; clear hb ho47; obtain ⟨Ao48, co48, eo48⟩ := Kd.R_slice HO170.out; subst eo48) | ((with_reducible refine gate_callee (f := 92) rfl ?_); refine goesL_ (some 28) rfl rfl Try.func92 (by kernel_rfl) rfl #[.slice Ao48 y168.length co48] rfl (by (try simp only [List.map_toArray, List.map_cons, List.map_nil]); first | done | rfl | (simp only [List.length_drop, List.length_take]; rfl)) ?_; (with_reducible refine (ir_none.calls _ _ y168 true _ ?side1 ?side2 A15.out).mono ?_); (case side1 => repeat (first | exact (Kd.R_reads' HO170.out).2.2 | (with_reducible refine Kd.C_alloc ?_ _) | (with_reducible refine Kd.C_drewN ?_ _) | (with_reducible refine Kd.C_drew ?_))); (case side2 => exact (Kd.R_reads' HO170.out).2.1); rintro e w' ⟨rfl, ⟨nd, rfl⟩⟩; refine ⟨_, rfl, ?_⟩; have hcz49_0 : w46.cell? ⟨gb160, 0, none⟩ = some (.int .i64 a0_0) := (blk_cell BK160.out 0).trans rfl; have hcz49_1 : w46.cell? ⟨gb160, 1, none⟩ = some (.int .i64 a0_1) := (blk_cell BK160.out 1).trans rfl; have hcz49_2 : w46.cell? ⟨gb160, 2, none⟩ = some (.int .i64 a0_2) := (blk_cell BK160.out 2).trans rfl; have hcz49_3 : w46.cell? ⟨gb160, 3, none⟩ = some (.int .i64 a0_3) := (blk_cell BK160.out 3).trans rfl; have hcz49_4 : w46.cell? ⟨gb160, 4, none⟩ = some (.int .i64 a0_4) := (blk_cell BK160.out 4).trans rfl; have hcz49_5 : w46.cell? ⟨gb160, 5, none⟩ = some (.int .i64 a0_5) := (blk_cell BK160.out 5).trans rfl; have hcz49_6 : w46.cell? ⟨gb160, 6, none⟩ = some (.slice A0_6 l0_6.length c0_6) := (blk_cell BK160.out 6).trans rfl; have hcz49_7 : w46.cell? ⟨gb160, 7, none⟩ = some (.int .i64 a0_7) := (blk_cell BK160.out 7).trans rfl; have hfz49_0 := blk_frozen BK160.out 0; have hfz49_1 := blk_frozen BK160.out 1; have hfz49_2 := blk_frozen BK160.out 2; have hfz49_3 := blk_frozen BK160.out 3; have hfz49_4 := blk_frozen BK160.out 4; have hfz49_5 := blk_frozen BK160.out 5; have hfz49_6 := blk_frozen BK160.out 6; have hfz49_7 := blk_frozen BK160.out 7))
       go_ret
       exact ⟨by first | rfl | (simp [errW_none, errW_some] <;> rfl) | (simp [*, errW_none, errW_some] <;> rfl), by repeat (first | (with_reducible first | exact HB.out | apply below_alloc | apply pw_below_drewN | apply below_drew1 | refine below_set ?_ GE160.out | refine below_set ?_ GE167.out) | exact HB.out)⟩
     ·replace c16 := Bool.eq_false_iff.mpr c16
      subst c16
      rw [if_neg (show ¬ (false = true) by decide)] at H
      obtain rfl := Option.some.inj H
      have hnb50 := NB167_160.out
      have hnc50 := NB160_167.out
      have hcz51_0 : wc.cell? ⟨gb167, 0, none⟩ = some (.bool t161) := (blk_cell BK167.out 0).trans rfl
      have hcz51_1 : wc.cell? ⟨gb167, 1, none⟩ = some (.bool t162) := (blk_cell BK167.out 1).trans rfl
      have hcz51_2 : wc.cell? ⟨gb167, 2, none⟩ = some (.bool t163) := (blk_cell BK167.out 2).trans rfl
      have hcz51_3 : wc.cell? ⟨gb167, 3, none⟩ = some (.bool t164) := (blk_cell BK167.out 3).trans rfl
      have hcz51_4 : wc.cell? ⟨gb167, 4, none⟩ = some (.bool true) := (blk_cell BK167.out 4).trans rfl
      have hfz51_0 := blk_frozen BK167.out 0
      have hfz51_1 := blk_frozen BK167.out 1
      have hfz51_2 := blk_frozen BK167.out 2
      have hfz51_3 := blk_frozen BK167.out 3
      have hfz51_4 := blk_frozen BK167.out 4
      have hcz52_0 : wc.cell? ⟨gb160, 0, none⟩ = some (.int .i64 a0_0) := (blk_cell BK160.out 0).trans rfl
      have hcz52_1 : wc.cell? ⟨gb160, 1, none⟩ = some (.int .i64 a0_1) := (blk_cell BK160.out 1).trans rfl
      have hcz52_2 : wc.cell? ⟨gb160, 2, none⟩ = some (.int .i64 a0_2) := (blk_cell BK160.out 2).trans rfl
      have hcz52_3 : wc.cell? ⟨gb160, 3, none⟩ = some (.int .i64 a0_3) := (blk_cell BK160.out 3).trans rfl
      have hcz52_4 : wc.cell? ⟨gb160, 4, none⟩ = some (.int .i64 a0_4) := (blk_cell BK160.out 4).trans rfl
      have hcz52_5 : wc.cell? ⟨gb160, 5, none⟩ = some (.int .i64 a0_5) := (blk_cell BK160.out 5).trans rfl
      have hcz52_6 : wc.cell? ⟨gb160, 6, none⟩ = some (.slice A0_6 l0_6.length c0_6) := (blk_cell BK160.out 6).trans rfl
      have hcz52_7 : wc.cell? ⟨gb160, 7, none⟩ = some (.int .i64 a0_7) := (blk_cell BK160.out 7).trans rfl
      have hfz52_0 := blk_frozen BK160.out 0
      have hfz52_1 := blk_frozen BK160.out 1
      have hfz52_2 := blk_frozen BK160.out 2
      have hfz52_3 := blk_frozen BK160.out 3
      have hfz52_4 := blk_frozen BK160.out 4
      have hfz52_5 := blk_frozen BK160.out 5
      have hfz52_6 := blk_frozen BK160.out 6
      have hfz52_7 := blk_frozen BK160.out 7
      go_wp2_with (first | ((with_reducible refine gate_dst (N := 27) rfl ?_); (try (refine gate_guard (by rfl) ?_; dsimp only)); refine Kd.R_lit (Kd.int .i64) _ 3 ?hg (N := 27) ?hd (xs := ([a0_2, a0_3, a0_4] : List Int)) (inner := [.int .i64 a0_2, .int .i64 a0_3, .int .i64 a0_4]) (ok := fun _ => True) (okp := fun _ => True) ?hr ?hp (fun _ hk => hk) trivial (Below.refl _ _) (Nat.le_refl _) (by simp) ?_; (case hd => rfl); (case hg => rfl); (case hr => first | (go_simp; done) | (go_simp; rfl)); (case hp => exact (Reps.one (show Kd.M (Kd.int .i64) _ _ _ a0_2 [.int .i64 a0_2] from rfl) (Reps.one (show Kd.M (Kd.int .i64) _ _ _ a0_3 [.int .i64 a0_3] from rfl) (Reps.one (show Kd.M (Kd.int .i64) _ _ _ a0_4 [.int .i64 a0_4] from rfl) (Reps.none _ _))))); intro v169 w53 ho54 hb hg_ hnew_; clear hg_ hnew_; (first | rw [← Ny168.out] at ho54 | (simp only [Int.reduceToNat] at ho54; rw [← Ny168.out] at ho54)); have n0_ := Aside0.mk (Kd.R_lower ho54 (below_size (by repeat (first | (with_reducible first | exact HB.out | apply below_alloc | apply pw_below_drewN | apply below_drew1 | refine below_set ?_ GE160.out | refine below_set ?_ GE167.out) | exact HB.out)))); have n1_ := Aside0.mk (blk_below (g := gb160) (o := .cells #[.int .i64 a0_0, .int .i64 a0_1, .int .i64 a0_2, .int .i64 a0_3, .int .i64 a0_4, .int .i64 a0_5, .slice A0_6 l0_6.length c0_6, .int .i64 a0_7] 56 (0, 0)) (by (with_reducible repeat (first | refine blk_drewN ?_ _ | refine blk_drew ?_ | refine blk_alloc ?_ _)); exact BK160.out) hb); have n2_ := Aside0.mk (blk_below (g := gb167) (o := .cells #[.bool t161, .bool t162, .bool t163, .bool t164, .bool true] 123 (0, 0)) (by (with_reducible repeat (first | refine blk_drewN ?_ _ | refine blk_drew ?_ | refine blk_alloc ?_ _)); exact BK167.out) hb); have n3_ := Aside0.mk (below_step (by repeat (first | (with_reducible first | exact HB.out | apply below_alloc | apply pw_below_drewN | apply below_drew1 | refine below_set ?_ GE160.out | refine below_set ?_ GE167.out) | exact HB.out)) hb); clear BK160; clear BK167; clear HB; have HO170 := n0_; have BK160 := n1_; have BK167 := n2_; have HB := n3_; clear n0_ n1_ n2_ n3_; clear hb ho54; obtain ⟨Ao55, co55, eo55⟩ := Kd.R_slice HO170.out; subst eo55) | ((with_reducible refine gate_callee (f := 92) rfl ?_); refine goesL_ (some 28) rfl rfl Try.func92 (by kernel_rfl) rfl #[.slice Ao55 y168.length co55] rfl (by (try simp only [List.map_toArray, List.map_cons, List.map_nil]); first | done | rfl | (simp only [List.length_drop, List.length_take]; rfl)) ?_; (with_reducible refine (ir_none.calls _ _ y168 false _ ?side1 ?side2 A15.out).mono ?_); (case side1 => repeat (first | exact (Kd.R_reads' HO170.out).2.2 | (with_reducible refine Kd.C_alloc ?_ _) | (with_reducible refine Kd.C_drewN ?_ _) | (with_reducible refine Kd.C_drew ?_))); (case side2 => exact (Kd.R_reads' HO170.out).2.1); rintro e w' ⟨rfl, ⟨nd, rfl⟩⟩; refine ⟨_, rfl, ?_⟩))
      go_ret
      exact ⟨by first | rfl | (simp [errW_none, errW_some] <;> rfl) | (simp [*, errW_none, errW_some] <;> rfl), by repeat (first | (with_reducible first | exact HB.out | apply below_alloc | apply pw_below_drewN | apply below_drew1 | refine below_set ?_ GE160.out | refine below_set ?_ GE167.out) | exact HB.out)⟩
    ·replace c14 := Bool.eq_false_iff.mpr c14
     subst c14
     rw [if_neg (show ¬ (false = true) by decide)] at H
     have HC56 := Aside0.mk H
     clear H
     have hnb57 := NB167_160.out
     have hnc57 := NB160_167.out
     have hcz58_0 : wc.cell? ⟨gb167, 0, none⟩ = some (.bool t161) := (blk_cell BK167.out 0).trans rfl
     have hcz58_1 : wc.cell? ⟨gb167, 1, none⟩ = some (.bool t162) := (blk_cell BK167.out 1).trans rfl
     have hcz58_2 : wc.cell? ⟨gb167, 2, none⟩ = some (.bool t163) := (blk_cell BK167.out 2).trans rfl
     have hcz58_3 : wc.cell? ⟨gb167, 3, none⟩ = some (.bool t164) := (blk_cell BK167.out 3).trans rfl
     have hcz58_4 : wc.cell? ⟨gb167, 4, none⟩ = some (.bool false) := (blk_cell BK167.out 4).trans rfl
     have hfz58_0 := blk_frozen BK167.out 0
     have hfz58_1 := blk_frozen BK167.out 1
     have hfz58_2 := blk_frozen BK167.out 2
     have hfz58_3 := blk_frozen BK167.out 3
     have hfz58_4 := blk_frozen BK167.out 4
     go_upto_region 7 with (fail)
     go_cut [73] (fun v73 wc => ∃ (kq : Nat) (x73_55 : Bool), v73 = .bool x73_55 ∧ Aside0 (ir_IsIns.j1 kq x73_55 a0_0 a0_1 a0_2 a0_3 a0_4 a0_5 l0_6 a0_7 t161 t162 t163 t164 false = some r) ∧ Aside0 (kq ≤ kj2) ∧ Aside0 (wc.heap[gb160]? = some (.cells #[.int .i64 a0_0, .int .i64 a0_1, .int .i64 a0_2, .int .i64 a0_3, .int .i64 a0_4, .int .i64 a0_5, (.slice A0_6 l0_6.length c0_6), .int .i64 a0_7] 56 (0, 0))) ∧ Aside0 (wc.heap[gb167]? = some (.cells #[.bool t161, .bool t162, .bool t163, .bool t164, .bool false] 123 (0, 0))) ∧ Aside0 (Below w.heap.size w wc))
     case first =>
      have H := HC56.out
      clear HC56
      by_cases c59 : t164 = true
      ·subst c59
       rw [if_pos rfl] at H
       by_cases c60 : a0_4 < (-1099511627776)
       ·rw [if_pos c60] at H
        have c60b0 : decide (a0_4 < (-1099511627776)) = true := decide_eq_true c60
        clear c60
        (first | rw [c60b0] | (simp only [i64_w, i32_w]; rw [c60b0]) | skip)
        have H' := Aside0.mk H
        clear H
        have hnb61 := NB167_160.out
        have hnc61 := NB160_167.out
        have hcz62_0 : wc.cell? ⟨gb167, 0, none⟩ = some (.bool t161) := (blk_cell BK167.out 0).trans rfl
        have hcz62_1 : wc.cell? ⟨gb167, 1, none⟩ = some (.bool t162) := (blk_cell BK167.out 1).trans rfl
        have hcz62_2 : wc.cell? ⟨gb167, 2, none⟩ = some (.bool t163) := (blk_cell BK167.out 2).trans rfl
        have hcz62_3 : wc.cell? ⟨gb167, 3, none⟩ = some (.bool true) := (blk_cell BK167.out 3).trans rfl
        have hcz62_4 : wc.cell? ⟨gb167, 4, none⟩ = some (.bool false) := (blk_cell BK167.out 4).trans rfl
        have hfz62_0 := blk_frozen BK167.out 0
        have hfz62_1 := blk_frozen BK167.out 1
        have hfz62_2 := blk_frozen BK167.out 2
        have hfz62_3 := blk_frozen BK167.out 3
        have hfz62_4 := blk_frozen BK167.out 4
        have hcz63_0 : wc.cell? ⟨gb160, 0, none⟩ = some (.int .i64 a0_0) := (blk_cell BK160.out 0).trans rfl
        have hcz63_1 : wc.cell? ⟨gb160, 1, none⟩ = some (.int .i64 a0_1) := (blk_cell BK160.out 1).trans rfl
        have hcz63_2 : wc.cell? ⟨gb160, 2, none⟩ = some (.int .i64 a0_2) := (blk_cell BK160.out 2).trans rfl
        have hcz63_3 : wc.cell? ⟨gb160, 3, none⟩ = some (.int .i64 a0_3) := (blk_cell BK160.out 3).trans rfl
        have hcz63_4 : wc.cell? ⟨gb160, 4, none⟩ = some (.int .i64 a0_4) := (blk_cell BK160.out 4).trans rfl
        have hcz63_5 : wc.cell? ⟨gb160, 5, none⟩ = some (.int .i64 a0_5) := (blk_cell BK160.out 5).trans rfl
        have hcz63_6 : wc.cell? ⟨gb160, 6, none⟩ = some (.slice A0_6 l0_6.length c0_6) := (blk_cell BK160.out 6).trans rfl
        have hcz63_7 : wc.cell? ⟨gb160, 7, none⟩ = some (.int .i64 a0_7) := (blk_cell BK160.out 7).trans rfl
        have hfz63_0 := blk_frozen BK160.out 0
        have hfz63_1 := blk_frozen BK160.out 1
        have hfz63_2 := blk_frozen BK160.out 2
        have hfz63_3 := blk_frozen BK160.out 3
        have hfz63_4 := blk_frozen BK160.out 4
        have hfz63_5 := blk_frozen BK160.out 5
        have hfz63_6 := blk_frozen BK160.out 6
        have hfz63_7 := blk_frozen BK160.out 7
        go_wp2
        go_meet
        case rel => exact ⟨_, (true), (by first | rfl | (simp; done) | (simp [*]; done)), H', ⟨by have := HJ2.out; first | omega | exact Nat.le_refl _⟩, ⟨by (with_reducible repeat (first | refine blk_drewN ?_ _ | refine blk_drew ?_ | refine blk_alloc ?_ _)); exact BK160.out⟩, ⟨by (with_reducible repeat (first | refine blk_drewN ?_ _ | refine blk_drew ?_ | refine blk_alloc ?_ _)); exact BK167.out⟩, ⟨by repeat (first | (with_reducible first | exact HB.out | apply below_alloc | apply pw_below_drewN | apply below_drew1 | refine below_set ?_ GE160.out | refine below_set ?_ GE167.out) | exact HB.out)⟩⟩
       ·rw [if_neg c60] at H
        have c60b0 : decide (a0_4 < (-1099511627776)) = false := decide_eq_false c60
        clear c60
        (first | rw [c60b0] | (simp only [i64_w, i32_w]; rw [c60b0]) | skip)
        have H' := Aside0.mk H
        clear H
        have hnb64 := NB167_160.out
        have hnc64 := NB160_167.out
        have hcz65_0 : wc.cell? ⟨gb167, 0, none⟩ = some (.bool t161) := (blk_cell BK167.out 0).trans rfl
        have hcz65_1 : wc.cell? ⟨gb167, 1, none⟩ = some (.bool t162) := (blk_cell BK167.out 1).trans rfl
        have hcz65_2 : wc.cell? ⟨gb167, 2, none⟩ = some (.bool t163) := (blk_cell BK167.out 2).trans rfl
        have hcz65_3 : wc.cell? ⟨gb167, 3, none⟩ = some (.bool true) := (blk_cell BK167.out 3).trans rfl
        have hcz65_4 : wc.cell? ⟨gb167, 4, none⟩ = some (.bool false) := (blk_cell BK167.out 4).trans rfl
        have hfz65_0 := blk_frozen BK167.out 0
        have hfz65_1 := blk_frozen BK167.out 1
        have hfz65_2 := blk_frozen BK167.out 2
        have hfz65_3 := blk_frozen BK167.out 3
        have hfz65_4 := blk_frozen BK167.out 4
        have hcz66_0 : wc.cell? ⟨gb160, 0, none⟩ = some (.int .i64 a0_0) := (blk_cell BK160.out 0).trans rfl
        have hcz66_1 : wc.cell? ⟨gb160, 1, none⟩ = some (.int .i64 a0_1) := (blk_cell BK160.out 1).trans rfl
        have hcz66_2 : wc.cell? ⟨gb160, 2, none⟩ = some (.int .i64 a0_2) := (blk_cell BK160.out 2).trans rfl
        have hcz66_3 : wc.cell? ⟨gb160, 3, none⟩ = some (.int .i64 a0_3) := (blk_cell BK160.out 3).trans rfl
        have hcz66_4 : wc.cell? ⟨gb160, 4, none⟩ = some (.int .i64 a0_4) := (blk_cell BK160.out 4).trans rfl
        have hcz66_5 : wc.cell? ⟨gb160, 5, none⟩ = some (.int .i64 a0_5) := (blk_cell BK160.out 5).trans rfl
        have hcz66_6 : wc.cell? ⟨gb160, 6, none⟩ = some (.slice A0_6 l0_6.length c0_6) := (blk_cell BK160.out 6).trans rfl
        have hcz66_7 : wc.cell? ⟨gb160, 7, none⟩ = some (.int .i64 a0_7) := (blk_cell BK160.out 7).trans rfl
        have hfz66_0 := blk_frozen BK160.out 0
        have hfz66_1 := blk_frozen BK160.out 1
        have hfz66_2 := blk_frozen BK160.out 2
        have hfz66_3 := blk_frozen BK160.out 3
        have hfz66_4 := blk_frozen BK160.out 4
        have hfz66_5 := blk_frozen BK160.out 5
        have hfz66_6 := blk_frozen BK160.out 6
        have hfz66_7 := blk_frozen BK160.out 7
        go_wp2
        go_meet
        case rel => exact ⟨_, (decide (a0_4 > 1099511627776)), (by first | rfl | (simp; done) | (simp [*]; done)), H', ⟨by have := HJ2.out; first | omega | exact Nat.le_refl _⟩, ⟨by (with_reducible repeat (first | refine blk_drewN ?_ _ | refine blk_drew ?_ | refine blk_alloc ?_ _)); exact BK160.out⟩, ⟨by (with_reducible repeat (first | refine blk_drewN ?_ _ | refine blk_drew ?_ | refine blk_alloc ?_ _)); exact BK167.out⟩, ⟨by repeat (first | (with_reducible first | exact HB.out | apply below_alloc | apply pw_below_drewN | apply below_drew1 | refine below_set ?_ GE160.out | refine below_set ?_ GE167.out) | exact HB.out)⟩⟩
      ·replace c59 := Bool.eq_false_iff.mpr c59
       subst c59
       rw [if_neg (show ¬ (false = true) by decide)] at H
       by_cases c67 : a0_4 = 0
       ·rw [if_pos c67] at H
        have c67b0 : (a0_4 == 0) = true := beq_iff_eq.mpr c67
        have c67b1 : (a0_4 != 0) = false := bne_eq_false_iff_eq.mpr c67
        clear c67
        by_cases c68 : a0_4 < (-1099511627776)
        ·rw [if_pos c68] at H
         have c68b0 : decide (a0_4 < (-1099511627776)) = true := decide_eq_true c68
         clear c68
         have H' := Aside0.mk H
         clear H
         have hnb69 := NB167_160.out
         have hnc69 := NB160_167.out
         have hcz70_0 : wc.cell? ⟨gb167, 0, none⟩ = some (.bool t161) := (blk_cell BK167.out 0).trans rfl
         have hcz70_1 : wc.cell? ⟨gb167, 1, none⟩ = some (.bool t162) := (blk_cell BK167.out 1).trans rfl
         have hcz70_2 : wc.cell? ⟨gb167, 2, none⟩ = some (.bool t163) := (blk_cell BK167.out 2).trans rfl
         have hcz70_3 : wc.cell? ⟨gb167, 3, none⟩ = some (.bool false) := (blk_cell BK167.out 3).trans rfl
         have hcz70_4 : wc.cell? ⟨gb167, 4, none⟩ = some (.bool false) := (blk_cell BK167.out 4).trans rfl
         have hfz70_0 := blk_frozen BK167.out 0
         have hfz70_1 := blk_frozen BK167.out 1
         have hfz70_2 := blk_frozen BK167.out 2
         have hfz70_3 := blk_frozen BK167.out 3
         have hfz70_4 := blk_frozen BK167.out 4
         have hcz71_0 : wc.cell? ⟨gb160, 0, none⟩ = some (.int .i64 a0_0) := (blk_cell BK160.out 0).trans rfl
         have hcz71_1 : wc.cell? ⟨gb160, 1, none⟩ = some (.int .i64 a0_1) := (blk_cell BK160.out 1).trans rfl
         have hcz71_2 : wc.cell? ⟨gb160, 2, none⟩ = some (.int .i64 a0_2) := (blk_cell BK160.out 2).trans rfl
         have hcz71_3 : wc.cell? ⟨gb160, 3, none⟩ = some (.int .i64 a0_3) := (blk_cell BK160.out 3).trans rfl
         have hcz71_4 : wc.cell? ⟨gb160, 4, none⟩ = some (.int .i64 a0_4) := (blk_cell BK160.out 4).trans rfl
         have hcz71_5 : wc.cell? ⟨gb160, 5, none⟩ = some (.int .i64 a0_5) := (blk_cell BK160.out 5).trans rfl
         have hcz71_6 : wc.cell? ⟨gb160, 6, none⟩ = some (.slice A0_6 l0_6.length c0_6) := (blk_cell BK160.out 6).trans rfl
         have hcz71_7 : wc.cell? ⟨gb160, 7, none⟩ = some (.int .i64 a0_7) := (blk_cell BK160.out 7).trans rfl
         have hfz71_0 := blk_frozen BK160.out 0
         have hfz71_1 := blk_frozen BK160.out 1
         have hfz71_2 := blk_frozen BK160.out 2
         have hfz71_3 := blk_frozen BK160.out 3
         have hfz71_4 := blk_frozen BK160.out 4
         have hfz71_5 := blk_frozen BK160.out 5
         have hfz71_6 := blk_frozen BK160.out 6
         have hfz71_7 := blk_frozen BK160.out 7
         go_wp2
         go_meet
         case rel => exact ⟨_, (true), (by first | rfl | (simp; done) | (simp [*]; done)), H', ⟨by have := HJ2.out; first | omega | exact Nat.le_refl _⟩, ⟨by (with_reducible repeat (first | refine blk_drewN ?_ _ | refine blk_drew ?_ | refine blk_alloc ?_ _)); exact BK160.out⟩, ⟨by (with_reducible repeat (first | refine blk_drewN ?_ _ | refine blk_drew ?_ | refine blk_alloc ?_ _)); exact BK167.out⟩, ⟨by repeat (first | (with_reducible first | exact HB.out | apply below_alloc | apply pw_below_drewN | apply below_drew1 | refine below_set ?_ GE160.out | refine below_set ?_ GE167.out) | exact HB.out)⟩⟩
        ·rw [if_neg c68] at H
         have c68b0 : decide (a0_4 < (-1099511627776)) = false := decide_eq_false c68
         clear c68
         have H' := Aside0.mk H
         clear H
         have hnb72 := NB167_160.out
         have hnc72 := NB160_167.out
         have hcz73_0 : wc.cell? ⟨gb167, 0, none⟩ = some (.bool t161) := (blk_cell BK167.out 0).trans rfl
         have hcz73_1 : wc.cell? ⟨gb167, 1, none⟩ = some (.bool t162) := (blk_cell BK167.out 1).trans rfl
         have hcz73_2 : wc.cell? ⟨gb167, 2, none⟩ = some (.bool t163) := (blk_cell BK167.out 2).trans rfl
         have hcz73_3 : wc.cell? ⟨gb167, 3, none⟩ = some (.bool false) := (blk_cell BK167.out 3).trans rfl
         have hcz73_4 : wc.cell? ⟨gb167, 4, none⟩ = some (.bool false) := (blk_cell BK167.out 4).trans rfl
         have hfz73_0 := blk_frozen BK167.out 0
         have hfz73_1 := blk_frozen BK167.out 1
         have hfz73_2 := blk_frozen BK167.out 2
         have hfz73_3 := blk_frozen BK167.out 3
         have hfz73_4 := blk_frozen BK167.out 4
         have hcz74_0 : wc.cell? ⟨gb160, 0, none⟩ = some (.int .i64 a0_0) := (blk_cell BK160.out 0).trans rfl
         have hcz74_1 : wc.cell? ⟨gb160, 1, none⟩ = some (.int .i64 a0_1) := (blk_cell BK160.out 1).trans rfl
         have hcz74_2 : wc.cell? ⟨gb160, 2, none⟩ = some (.int .i64 a0_2) := (blk_cell BK160.out 2).trans rfl
         have hcz74_3 : wc.cell? ⟨gb160, 3, none⟩ = some (.int .i64 a0_3) := (blk_cell BK160.out 3).trans rfl
         have hcz74_4 : wc.cell? ⟨gb160, 4, none⟩ = some (.int .i64 a0_4) := (blk_cell BK160.out 4).trans rfl
         have hcz74_5 : wc.cell? ⟨gb160, 5, none⟩ = some (.int .i64 a0_5) := (blk_cell BK160.out 5).trans rfl
         have hcz74_6 : wc.cell? ⟨gb160, 6, none⟩ = some (.slice A0_6 l0_6.length c0_6) := (blk_cell BK160.out 6).trans rfl
         have hcz74_7 : wc.cell? ⟨gb160, 7, none⟩ = some (.int .i64 a0_7) := (blk_cell BK160.out 7).trans rfl
         have hfz74_0 := blk_frozen BK160.out 0
         have hfz74_1 := blk_frozen BK160.out 1
         have hfz74_2 := blk_frozen BK160.out 2
         have hfz74_3 := blk_frozen BK160.out 3
         have hfz74_4 := blk_frozen BK160.out 4
         have hfz74_5 := blk_frozen BK160.out 5
         have hfz74_6 := blk_frozen BK160.out 6
         have hfz74_7 := blk_frozen BK160.out 7
         go_wp2
         go_meet
         case rel => exact ⟨_, (decide (a0_4 > 1099511627776)), (by first | rfl | (simp; done) | (simp [*]; done)), H', ⟨by have := HJ2.out; first | omega | exact Nat.le_refl _⟩, ⟨by (with_reducible repeat (first | refine blk_drewN ?_ _ | refine blk_drew ?_ | refine blk_alloc ?_ _)); exact BK160.out⟩, ⟨by (with_reducible repeat (first | refine blk_drewN ?_ _ | refine blk_drew ?_ | refine blk_alloc ?_ _)); exact BK167.out⟩, ⟨by repeat (first | (with_reducible first | exact HB.out | apply below_alloc | apply pw_below_drewN | apply below_drew1 | refine below_set ?_ GE160.out | refine below_set ?_ GE167.out) | exact HB.out)⟩⟩
       ·rw [if_neg c67] at H
        have c67b0 : (a0_4 == 0) = false := beq_eq_false_iff_ne.mpr c67
        have c67b1 : (a0_4 != 0) = true := bne_iff_ne.mpr c67
        have H' := Aside0.mk H
        clear H
        have hnb75 := NB167_160.out
        have hnc75 := NB160_167.out
        have hcz76_0 : wc.cell? ⟨gb167, 0, none⟩ = some (.bool t161) := (blk_cell BK167.out 0).trans rfl
        have hcz76_1 : wc.cell? ⟨gb167, 1, none⟩ = some (.bool t162) := (blk_cell BK167.out 1).trans rfl
        have hcz76_2 : wc.cell? ⟨gb167, 2, none⟩ = some (.bool t163) := (blk_cell BK167.out 2).trans rfl
        have hcz76_3 : wc.cell? ⟨gb167, 3, none⟩ = some (.bool false) := (blk_cell BK167.out 3).trans rfl
        have hcz76_4 : wc.cell? ⟨gb167, 4, none⟩ = some (.bool false) := (blk_cell BK167.out 4).trans rfl
        have hfz76_0 := blk_frozen BK167.out 0
        have hfz76_1 := blk_frozen BK167.out 1
        have hfz76_2 := blk_frozen BK167.out 2
        have hfz76_3 := blk_frozen BK167.out 3
        have hfz76_4 := blk_frozen BK167.out 4
        have hcz77_0 : wc.cell? ⟨gb160, 0, none⟩ = some (.int .i64 a0_0) := (blk_cell BK160.out 0).trans rfl
        have hcz77_1 : wc.cell? ⟨gb160, 1, none⟩ = some (.int .i64 a0_1) := (blk_cell BK160.out 1).trans rfl
        have hcz77_2 : wc.cell? ⟨gb160, 2, none⟩ = some (.int .i64 a0_2) := (blk_cell BK160.out 2).trans rfl
        have hcz77_3 : wc.cell? ⟨gb160, 3, none⟩ = some (.int .i64 a0_3) := (blk_cell BK160.out 3).trans rfl
        have hcz77_4 : wc.cell? ⟨gb160, 4, none⟩ = some (.int .i64 a0_4) := (blk_cell BK160.out 4).trans rfl
        have hcz77_5 : wc.cell? ⟨gb160, 5, none⟩ = some (.int .i64 a0_5) := (blk_cell BK160.out 5).trans rfl
        have hcz77_6 : wc.cell? ⟨gb160, 6, none⟩ = some (.slice A0_6 l0_6.length c0_6) := (blk_cell BK160.out 6).trans rfl
        have hcz77_7 : wc.cell? ⟨gb160, 7, none⟩ = some (.int .i64 a0_7) := (blk_cell BK160.out 7).trans rfl
        have hfz77_0 := blk_frozen BK160.out 0
        have hfz77_1 := blk_frozen BK160.out 1
        have hfz77_2 := blk_frozen BK160.out 2
        have hfz77_3 := blk_frozen BK160.out 3
        have hfz77_4 := blk_frozen BK160.out 4
        have hfz77_5 := blk_frozen BK160.out 5
        have hfz77_6 := blk_frozen BK160.out 6
        have hfz77_7 := blk_frozen BK160.out 7
        go_wp2
        go_meet
        case rel => exact ⟨_, (true), (by first | rfl | (simp; done) | (simp [*]; done)), H', ⟨by have := HJ2.out; first | omega | exact Nat.le_refl _⟩, ⟨by (with_reducible repeat (first | refine blk_drewN ?_ _ | refine blk_drew ?_ | refine blk_alloc ?_ _)); exact BK160.out⟩, ⟨by (with_reducible repeat (first | refine blk_drewN ?_ _ | refine blk_drew ?_ | refine blk_alloc ?_ _)); exact BK167.out⟩, ⟨by repeat (first | (with_reducible first | exact HB.out | apply below_alloc | apply pw_below_drewN | apply below_drew1 | refine below_set ?_ GE160.out | refine below_set ?_ GE167.out) | exact HB.out)⟩⟩
     case rest =>
      clear HC56
      obtain ⟨kq, x73_55, rfl, HA, HJ55, BK160, BK167, HB⟩ := hcut
      cases kq with
      | zero => exact absurd HA.out (by simp [ir_IsIns.j1])
      | succ kj55 =>
       have H := HA.out
       clear HA
       simp only [ir_IsIns.j1] at H
       by_cases c78 : x73_55 = true
       ·subst c78
        rw [if_pos rfl] at H
        obtain rfl := Option.some.inj H
        go_wp2
        go_ret
        exact ⟨by first | rfl | (simp [errW_none, errW_some] <;> rfl) | (simp [*, errW_none, errW_some] <;> rfl), by repeat (first | (with_reducible first | exact HB.out | apply below_alloc | apply pw_below_drewN | apply below_drew1 | refine below_set ?_ GE160.out | refine below_set ?_ GE167.out) | exact HB.out)⟩
       ·replace c78 := Bool.eq_false_iff.mpr c78
        subst c78
        rw [if_neg (show ¬ (false = true) by decide)] at H
        by_cases c79 : a0_5 = 0
        ·rw [if_pos c79] at H
         have c79b0 : (a0_5 == 0) = true := beq_iff_eq.mpr c79
         have c79b1 : (a0_5 != 0) = false := bne_eq_false_iff_eq.mpr c79
         clear c79
         by_cases c80 : (l0_6.length : Int) = 0
         ·rw [if_pos c80] at H
          have c80b0 : ((l0_6.length : Int) == 0) = true := beq_iff_eq.mpr c80
          have c80b1 : ((l0_6.length : Int) != 0) = false := bne_eq_false_iff_eq.mpr c80
          clear c80
          replace H := Option.bind_eq_some_iff.mp H
          obtain ⟨t174, A810, H⟩ := H
          replace H : (if t174 = true then ((ir_fits.f t162 a0_2).bind fun t175 => (if t175 = true then ((ir_fits.f t163 a0_3).bind fun t176 => (some t176)) else (some false))) else (some false)) = some r := H
          have A81 := Aside0.mk A810
          clear A810
          by_cases c82 : t174 = true
          ·subst c82
           rw [if_pos rfl] at H
           replace H := Option.bind_eq_some_iff.mp H
           obtain ⟨t175, A830, H⟩ := H
           replace H : (if t175 = true then ((ir_fits.f t163 a0_3).bind fun t176 => (some t176)) else (some false)) = some r := H
           have A83 := Aside0.mk A830
           clear A830
           by_cases c84 : t175 = true
           ·subst c84
            rw [if_pos rfl] at H
            replace H := Option.bind_eq_some_iff.mp H
            obtain ⟨t176, A850, H⟩ := H
            replace H : (some t176) = some r := H
            have A85 := Aside0.mk A850
            clear A850
            obtain rfl := Option.some.inj H
            have hnb86 := NB160_167.out
            have hnc86 := NB167_160.out
            have hcz87_0 : wc.cell? ⟨gb160, 0, none⟩ = some (.int .i64 a0_0) := (blk_cell BK160.out 0).trans rfl
            have hcz87_1 : wc.cell? ⟨gb160, 1, none⟩ = some (.int .i64 a0_1) := (blk_cell BK160.out 1).trans rfl
            have hcz87_2 : wc.cell? ⟨gb160, 2, none⟩ = some (.int .i64 a0_2) := (blk_cell BK160.out 2).trans rfl
            have hcz87_3 : wc.cell? ⟨gb160, 3, none⟩ = some (.int .i64 a0_3) := (blk_cell BK160.out 3).trans rfl
            have hcz87_4 : wc.cell? ⟨gb160, 4, none⟩ = some (.int .i64 a0_4) := (blk_cell BK160.out 4).trans rfl
            have hcz87_5 : wc.cell? ⟨gb160, 5, none⟩ = some (.int .i64 a0_5) := (blk_cell BK160.out 5).trans rfl
            have hcz87_6 : wc.cell? ⟨gb160, 6, none⟩ = some (.slice A0_6 l0_6.length c0_6) := (blk_cell BK160.out 6).trans rfl
            have hcz87_7 : wc.cell? ⟨gb160, 7, none⟩ = some (.int .i64 a0_7) := (blk_cell BK160.out 7).trans rfl
            have hfz87_0 := blk_frozen BK160.out 0
            have hfz87_1 := blk_frozen BK160.out 1
            have hfz87_2 := blk_frozen BK160.out 2
            have hfz87_3 := blk_frozen BK160.out 3
            have hfz87_4 := blk_frozen BK160.out 4
            have hfz87_5 := blk_frozen BK160.out 5
            have hfz87_6 := blk_frozen BK160.out 6
            have hfz87_7 := blk_frozen BK160.out 7
            have hcz88_0 : wc.cell? ⟨gb167, 0, none⟩ = some (.bool t161) := (blk_cell BK167.out 0).trans rfl
            have hcz88_1 : wc.cell? ⟨gb167, 1, none⟩ = some (.bool t162) := (blk_cell BK167.out 1).trans rfl
            have hcz88_2 : wc.cell? ⟨gb167, 2, none⟩ = some (.bool t163) := (blk_cell BK167.out 2).trans rfl
            have hcz88_3 : wc.cell? ⟨gb167, 3, none⟩ = some (.bool t164) := (blk_cell BK167.out 3).trans rfl
            have hcz88_4 : wc.cell? ⟨gb167, 4, none⟩ = some (.bool false) := (blk_cell BK167.out 4).trans rfl
            have hfz88_0 := blk_frozen BK167.out 0
            have hfz88_1 := blk_frozen BK167.out 1
            have hfz88_2 := blk_frozen BK167.out 2
            have hfz88_3 := blk_frozen BK167.out 3
            have hfz88_4 := blk_frozen BK167.out 4
            go_wp2_with (first | (go_at_call 93; (with_reducible refine (ir_fits.calls t161 a0_1 true _ A81.out).mono ?_); rintro e w' ⟨rfl, ⟨nd, rfl⟩⟩) | (go_at_call 93; (with_reducible refine (ir_fits.calls t162 a0_2 true _ A83.out).mono ?_); rintro e w' ⟨rfl, ⟨nd, rfl⟩⟩) | (go_at_call 93; (with_reducible refine (ir_fits.calls t163 a0_3 t176 _ A85.out).mono ?_); rintro e w' ⟨rfl, ⟨nd, rfl⟩⟩))
            go_ret
            exact ⟨by first | rfl | (simp [errW_none, errW_some] <;> rfl) | (simp [*, errW_none, errW_some] <;> rfl), by repeat (first | (with_reducible first | exact HB.out | apply below_alloc | apply pw_below_drewN | apply below_drew1 | refine below_set ?_ GE160.out | refine below_set ?_ GE167.out) | exact HB.out)⟩
           ·replace c84 := Bool.eq_false_iff.mpr c84
            subst c84
            rw [if_neg (show ¬ (false = true) by decide)] at H
            obtain rfl := Option.some.inj H
            have hnb89 := NB160_167.out
            have hnc89 := NB167_160.out
            have hcz90_0 : wc.cell? ⟨gb160, 0, none⟩ = some (.int .i64 a0_0) := (blk_cell BK160.out 0).trans rfl
            have hcz90_1 : wc.cell? ⟨gb160, 1, none⟩ = some (.int .i64 a0_1) := (blk_cell BK160.out 1).trans rfl
            have hcz90_2 : wc.cell? ⟨gb160, 2, none⟩ = some (.int .i64 a0_2) := (blk_cell BK160.out 2).trans rfl
            have hcz90_3 : wc.cell? ⟨gb160, 3, none⟩ = some (.int .i64 a0_3) := (blk_cell BK160.out 3).trans rfl
            have hcz90_4 : wc.cell? ⟨gb160, 4, none⟩ = some (.int .i64 a0_4) := (blk_cell BK160.out 4).trans rfl
            have hcz90_5 : wc.cell? ⟨gb160, 5, none⟩ = some (.int .i64 a0_5) := (blk_cell BK160.out 5).trans rfl
            have hcz90_6 : wc.cell? ⟨gb160, 6, none⟩ = some (.slice A0_6 l0_6.length c0_6) := (blk_cell BK160.out 6).trans rfl
            have hcz90_7 : wc.cell? ⟨gb160, 7, none⟩ = some (.int .i64 a0_7) := (blk_cell BK160.out 7).trans rfl
            have hfz90_0 := blk_frozen BK160.out 0
            have hfz90_1 := blk_frozen BK160.out 1
            have hfz90_2 := blk_frozen BK160.out 2
            have hfz90_3 := blk_frozen BK160.out 3
            have hfz90_4 := blk_frozen BK160.out 4
            have hfz90_5 := blk_frozen BK160.out 5
            have hfz90_6 := blk_frozen BK160.out 6
            have hfz90_7 := blk_frozen BK160.out 7
            have hcz91_0 : wc.cell? ⟨gb167, 0, none⟩ = some (.bool t161) := (blk_cell BK167.out 0).trans rfl
            have hcz91_1 : wc.cell? ⟨gb167, 1, none⟩ = some (.bool t162) := (blk_cell BK167.out 1).trans rfl
            have hcz91_2 : wc.cell? ⟨gb167, 2, none⟩ = some (.bool t163) := (blk_cell BK167.out 2).trans rfl
            have hcz91_3 : wc.cell? ⟨gb167, 3, none⟩ = some (.bool t164) := (blk_cell BK167.out 3).trans rfl
            have hcz91_4 : wc.cell? ⟨gb167, 4, none⟩ = some (.bool false) := (blk_cell BK167.out 4).trans rfl
            have hfz91_0 := blk_frozen BK167.out 0
            have hfz91_1 := blk_frozen BK167.out 1
            have hfz91_2 := blk_frozen BK167.out 2
            have hfz91_3 := blk_frozen BK167.out 3
            have hfz91_4 := blk_frozen BK167.out 4
            go_wp2_with (first | (go_at_call 93; (with_reducible refine (ir_fits.calls t161 a0_1 true _ A81.out).mono ?_); rintro e w' ⟨rfl, ⟨nd, rfl⟩⟩) | (go_at_call 93; (with_reducible refine (ir_fits.calls t162 a0_2 false _ A83.out).mono ?_); rintro e w' ⟨rfl, ⟨nd, rfl⟩⟩))
            go_ret
            exact ⟨by first | rfl | (simp [errW_none, errW_some] <;> rfl) | (simp [*, errW_none, errW_some] <;> rfl), by repeat (first | (with_reducible first | exact HB.out | apply below_alloc | apply pw_below_drewN | apply below_drew1 | refine below_set ?_ GE160.out | refine below_set ?_ GE167.out) | exact HB.out)⟩
          ·replace c82 := Bool.eq_false_iff.mpr c82
           subst c82
           rw [if_neg (show ¬ (false = true) by decide)] at H
           obtain rfl := Option.some.inj H
           have hnb92 := NB160_167.out
           have hnc92 := NB167_160.out
           have hcz93_0 : wc.cell? ⟨gb160, 0, none⟩ = some (.int .i64 a0_0) := (blk_cell BK160.out 0).trans rfl
           have hcz93_1 : wc.cell? ⟨gb160, 1, none⟩ = some (.int .i64 a0_1) := (blk_cell BK160.out 1).trans rfl
           have hcz93_2 : wc.cell? ⟨gb160, 2, none⟩ = some (.int .i64 a0_2) := (blk_cell BK160.out 2).trans rfl
           have hcz93_3 : wc.cell? ⟨gb160, 3, none⟩ = some (.int .i64 a0_3) := (blk_cell BK160.out 3).trans rfl
           have hcz93_4 : wc.cell? ⟨gb160, 4, none⟩ = some (.int .i64 a0_4) := (blk_cell BK160.out 4).trans rfl
           have hcz93_5 : wc.cell? ⟨gb160, 5, none⟩ = some (.int .i64 a0_5) := (blk_cell BK160.out 5).trans rfl
           have hcz93_6 : wc.cell? ⟨gb160, 6, none⟩ = some (.slice A0_6 l0_6.length c0_6) := (blk_cell BK160.out 6).trans rfl
           have hcz93_7 : wc.cell? ⟨gb160, 7, none⟩ = some (.int .i64 a0_7) := (blk_cell BK160.out 7).trans rfl
           have hfz93_0 := blk_frozen BK160.out 0
           have hfz93_1 := blk_frozen BK160.out 1
           have hfz93_2 := blk_frozen BK160.out 2
           have hfz93_3 := blk_frozen BK160.out 3
           have hfz93_4 := blk_frozen BK160.out 4
           have hfz93_5 := blk_frozen BK160.out 5
           have hfz93_6 := blk_frozen BK160.out 6
           have hfz93_7 := blk_frozen BK160.out 7
           have hcz94_0 : wc.cell? ⟨gb167, 0, none⟩ = some (.bool t161) := (blk_cell BK167.out 0).trans rfl
           have hcz94_1 : wc.cell? ⟨gb167, 1, none⟩ = some (.bool t162) := (blk_cell BK167.out 1).trans rfl
           have hcz94_2 : wc.cell? ⟨gb167, 2, none⟩ = some (.bool t163) := (blk_cell BK167.out 2).trans rfl
           have hcz94_3 : wc.cell? ⟨gb167, 3, none⟩ = some (.bool t164) := (blk_cell BK167.out 3).trans rfl
           have hcz94_4 : wc.cell? ⟨gb167, 4, none⟩ = some (.bool false) := (blk_cell BK167.out 4).trans rfl
           have hfz94_0 := blk_frozen BK167.out 0
           have hfz94_1 := blk_frozen BK167.out 1
           have hfz94_2 := blk_frozen BK167.out 2
           have hfz94_3 := blk_frozen BK167.out 3
           have hfz94_4 := blk_frozen BK167.out 4
           go_wp2_with (first | (go_at_call 93; (with_reducible refine (ir_fits.calls t161 a0_1 false _ A81.out).mono ?_); rintro e w' ⟨rfl, ⟨nd, rfl⟩⟩))
           go_ret
           exact ⟨by first | rfl | (simp [errW_none, errW_some] <;> rfl) | (simp [*, errW_none, errW_some] <;> rfl), by repeat (first | (with_reducible first | exact HB.out | apply below_alloc | apply pw_below_drewN | apply below_drew1 | refine below_set ?_ GE160.out | refine below_set ?_ GE167.out) | exact HB.out)⟩
         ·rw [if_neg c80] at H
          have c80b0 : ((l0_6.length : Int) == 0) = false := beq_eq_false_iff_ne.mpr c80
          have c80b1 : ((l0_6.length : Int) != 0) = true := bne_iff_ne.mpr c80
          have c80b2 : ¬ (l0_6 = []) := fun h_ => c80 (by rw [h_]; rfl)
          obtain rfl := Option.some.inj H
          have hnb95 := NB160_167.out
          have hnc95 := NB167_160.out
          have hcz96_0 : wc.cell? ⟨gb160, 0, none⟩ = some (.int .i64 a0_0) := (blk_cell BK160.out 0).trans rfl
          have hcz96_1 : wc.cell? ⟨gb160, 1, none⟩ = some (.int .i64 a0_1) := (blk_cell BK160.out 1).trans rfl
          have hcz96_2 : wc.cell? ⟨gb160, 2, none⟩ = some (.int .i64 a0_2) := (blk_cell BK160.out 2).trans rfl
          have hcz96_3 : wc.cell? ⟨gb160, 3, none⟩ = some (.int .i64 a0_3) := (blk_cell BK160.out 3).trans rfl
          have hcz96_4 : wc.cell? ⟨gb160, 4, none⟩ = some (.int .i64 a0_4) := (blk_cell BK160.out 4).trans rfl
          have hcz96_5 : wc.cell? ⟨gb160, 5, none⟩ = some (.int .i64 a0_5) := (blk_cell BK160.out 5).trans rfl
          have hcz96_6 : wc.cell? ⟨gb160, 6, none⟩ = some (.slice A0_6 l0_6.length c0_6) := (blk_cell BK160.out 6).trans rfl
          have hcz96_7 : wc.cell? ⟨gb160, 7, none⟩ = some (.int .i64 a0_7) := (blk_cell BK160.out 7).trans rfl
          have hfz96_0 := blk_frozen BK160.out 0
          have hfz96_1 := blk_frozen BK160.out 1
          have hfz96_2 := blk_frozen BK160.out 2
          have hfz96_3 := blk_frozen BK160.out 3
          have hfz96_4 := blk_frozen BK160.out 4
          have hfz96_5 := blk_frozen BK160.out 5
          have hfz96_6 := blk_frozen BK160.out 6
          have hfz96_7 := blk_frozen BK160.out 7
          go_wp2
          go_ret
          exact ⟨by first | rfl | (simp [errW_none, errW_some] <;> rfl) | (simp [*, errW_none, errW_some] <;> rfl), by repeat (first | (with_reducible first | exact HB.out | apply below_alloc | apply pw_below_drewN | apply below_drew1 | refine below_set ?_ GE160.out | refine below_set ?_ GE167.out) | exact HB.out)⟩
        ·rw [if_neg c79] at H
         have c79b0 : (a0_5 == 0) = false := beq_eq_false_iff_ne.mpr c79
         have c79b1 : (a0_5 != 0) = true := bne_iff_ne.mpr c79
         obtain rfl := Option.some.inj H
         have hnb97 := NB160_167.out
         have hnc97 := NB167_160.out
         have hcz98_0 : wc.cell? ⟨gb160, 0, none⟩ = some (.int .i64 a0_0) := (blk_cell BK160.out 0).trans rfl
         have hcz98_1 : wc.cell? ⟨gb160, 1, none⟩ = some (.int .i64 a0_1) := (blk_cell BK160.out 1).trans rfl
         have hcz98_2 : wc.cell? ⟨gb160, 2, none⟩ = some (.int .i64 a0_2) := (blk_cell BK160.out 2).trans rfl
         have hcz98_3 : wc.cell? ⟨gb160, 3, none⟩ = some (.int .i64 a0_3) := (blk_cell BK160.out 3).trans rfl
         have hcz98_4 : wc.cell? ⟨gb160, 4, none⟩ = some (.int .i64 a0_4) := (blk_cell BK160.out 4).trans rfl
         have hcz98_5 : wc.cell? ⟨gb160, 5, none⟩ = some (.int .i64 a0_5) := (blk_cell BK160.out 5).trans rfl
         have hcz98_6 : wc.cell? ⟨gb160, 6, none⟩ = some (.slice A0_6 l0_6.length c0_6) := (blk_cell BK160.out 6).trans rfl
         have hcz98_7 : wc.cell? ⟨gb160, 7, none⟩ = some (.int .i64 a0_7) := (blk_cell BK160.out 7).trans rfl
         have hfz98_0 := blk_frozen BK160.out 0
         have hfz98_1 := blk_frozen BK160.out 1
         have hfz98_2 := blk_frozen BK160.out 2
         have hfz98_3 := blk_frozen BK160.out 3
         have hfz98_4 := blk_frozen BK160.out 4
         have hfz98_5 := blk_frozen BK160.out 5
         have hfz98_6 := blk_frozen BK160.out 6
         have hfz98_7 := blk_frozen BK160.out 7
         go_wp2
         go_ret
         exact ⟨by first | rfl | (simp [errW_none, errW_some] <;> rfl) | (simp [*, errW_none, errW_some] <;> rfl), by repeat (first | (with_reducible first | exact HB.out | apply below_alloc | apply pw_below_drewN | apply below_drew1 | refine below_set ?_ GE160.out | refine below_set ?_ GE167.out) | exact HB.out)⟩

end Go.Proofs.Ytdlgkmnloijnbaa.Q
