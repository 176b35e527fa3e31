/- flat.Events. -/
import Derived.Test.YtdlgkmnloijnbaaC1HEvents
set_option linter.unusedVariables false
set_option linter.unusedSimpArgs false
namespace Go.Proofs.Ytdlgkmnloijnbaa.Q
open Go.RowKit Go.Proofs.YtdlgkmnloijnbaaW.PrintWords Go.Proofs.YtdlgkmnloijnbaaW.PrintLast Go.Proofs.YtdlgkmnloijnbaaW.PrintMore

def fuelOf (l : List S56) : Nat := (l.map fun x => x.f6.length).sum + 100
theorem does_bounds {a0_0 : Int} {l0_1 : List Int} {a0_2 : Int} {l0_3 : List Int} {l1_0 : List (S56)} {a1_1 a1_2 a1_3 a1_4 : Int} {l2_0 : List (S56)} {a2_1 a2_2 a2_3 a2_4 : Int} {d : Bool} (h : check_Does.f a0_0 l0_1 a0_2 l0_3 l1_0 a1_1 a1_2 a1_3 a1_4 l2_0 a2_1 a2_2 a2_3 a2_4 = some d) : l1_0.length ≤ 1000000 ∧ l2_0.length ≤ 1000000 := by
 unfold check_Does.f at h
 by_cases hb : l1_0.length ≤ 1000000 ∧ l2_0.length ≤ 1000000
 ·exact hb
 ·rw [if_neg hb] at h; exact absurd h (by simp)
def flat_Events.f (a0_0 : Int) (l0_1 : List Int) (a0_2 : Int) (l0_3 : List Int) (l1_0 : List (S56)) (a1_1 : Int) (a1_2 : Int) (a1_3 : Int) (a1_4 : Int) (l2_0 : List (S56)) (a2_1 : Int) (a2_2 : Int) (a2_3 : Int) (a2_4 : Int) : Option (Int) :=
 (check_Does.f a0_0 l0_1 a0_2 l0_3 l1_0 a1_1 a1_2 a1_3 a1_4 l2_0 a2_1 a2_2 a2_3 a2_4).bind fun d => if d = true then (eventsL (fuelOf l1_0 + fuelOf l2_0) ⟨a0_0, l0_1, a0_2, l0_3⟩ l1_0 l2_0).bind fun es => some (es.length : Int) else some 0
set_option maxHeartbeats 3200000 in
set_option maxRecDepth 100000 in
theorem flat_Events.calls (a0_0 : Int) (A0_1 : Option Addr) (c0_1 : Nat) (l0_1 : List Int) (a0_2 : Int) (A0_3 : Option Addr) (c0_3 : Nat) (l0_3 : List Int) (A1_0 : Option Addr) (c1_0 : Nat) (l1_0 : List (S56)) (a1_1 : Int) (a1_2 : Int) (a1_3 : Int) (a1_4 : Int) (A2_0 : Option Addr) (c2_0 : Nat) (l2_0 : List (S56)) (a2_1 : Int) (a2_2 : Int) (a2_3 : Int) (a2_4 : Int) (r : Int) (w : World) (hr0_1 : Kd.C (Kd.int .i64) w A0_1 l0_1.length l0_1) (hc0_1 : l0_1.length ≤ c0_1) (hr0_3 : Kd.C (Kd.int .i64) w A0_3 l0_3.length l0_3) (hc0_3 : l0_3.length ≤ c0_3) (hr1_0 : Kd.C k56 w A1_0 l1_0.length l1_0) (hc1_0 : l1_0.length ≤ c1_0) (hr2_0 : Kd.C k56 w A2_0 l2_0.length l2_0) (hc2_0 : l2_0.length ≤ c2_0) (h : flat_Events.f a0_0 l0_1 a0_2 l0_3 l1_0 a1_1 a1_2 a1_3 a1_4 l2_0 a2_1 a2_2 a2_3 a2_4 = some r) :
  Calls Try.prog 12 #[.agg #[.int .i64 a0_0, .slice A0_1 l0_1.length c0_1, .int .i64 a0_2, .slice A0_3 l0_3.length c0_3], .agg #[.slice A1_0 l1_0.length c1_0, .int .i64 a1_1, .int .i64 a1_2, .int .i64 a1_3, .int .i64 a1_4], .agg #[.slice A2_0 l2_0.length c2_0, .int .i64 a2_1, .int .i64 a2_2, .int .i64 a2_3, .int .i64 a2_4]] w fun e w' => e = .returned (.int .i64 r) ∧ Below w.heap.size w w' := by
 obtain ⟨d, hd, h⟩ := Option.bind_eq_some_iff.1 h
 have HD := Aside0.mk hd
 have HN := Aside0.mk (does_bounds hd)
 have H01 := Aside0.mk hr0_1
 have H03 := Aside0.mk hr0_3
 have H1 := Aside0.mk hr1_0
 have H2 := Aside0.mk hr2_0
 have HL := Aside0.mk (And.intro hc0_1 (And.intro hc0_3 (And.intro hc1_0 hc2_0)))
 clear hd hr0_1 hr0_3 hr1_0 hr2_0 hc0_1 hc0_3 hc1_0 hc2_0
 cases d with
 | false =>
  rw [if_neg (by simp)] at h
  obtain rfl := Option.some.inj h
  go_enter Try.func12, Try.ntmps12
  go_wp2_with (first
   | ((with_reducible refine gate_dst (N := 3) rfl ?_); refine box_event ?hg (N := 3) ?hd (cs := #[.int .i64 a0_0, .slice A0_1 l0_1.length c0_1, .int .i64 a0_2, .slice A0_3 l0_3.length c0_3]) (t := 24) ?hr ?_; (case hd => rfl); (case hg => rfl); (case hr => first | (go_simp; done) | (go_simp; rfl)); intro g3 hg w3 hbox hb; have HB := Aside0.mk hb; have X3 := Aside0.mk hbox; clear hb hbox hg)
   | ((with_reducible refine gate_dst (N := 4) rfl ?_); refine box_event ?hg (N := 4) ?hd (cs := #[.slice A1_0 l1_0.length c1_0, .int .i64 a1_1, .int .i64 a1_2, .int .i64 a1_3, .int .i64 a1_4]) (t := 31) ?hr ?_; (case hd => rfl); (case hg => rfl); (case hr => first | (go_simp; done) | (go_simp; rfl)); intro g4 hg w4 hbox hb; have nB := Aside0.mk (below_step HB.out hb); have n3 := Aside0.mk (blk_below X3.out hb); have X4 := Aside0.mk hbox; clear hb hbox hg HB X3; have HB := nB; have X3 := n3; clear nB n3)
   | ((with_reducible refine gate_dst (N := 5) rfl ?_); refine box_event ?hg (N := 5) ?hd (cs := #[.slice A2_0 l2_0.length c2_0, .int .i64 a2_1, .int .i64 a2_2, .int .i64 a2_3, .int .i64 a2_4]) (t := 31) ?hr ?_; (case hd => rfl); (case hg => rfl); (case hr => first | (go_simp; done) | (go_simp; rfl)); intro g5 hg w5 hbox hb; have nB := Aside0.mk (below_step HB.out hb); have n3 := Aside0.mk (blk_below X3.out hb); have n4 := Aside0.mk (blk_below X4.out hb); have X5 := Aside0.mk hbox; clear hb hbox hg HB X3 X4; have HB := nB; have X3 := n3; have X4 := n4; clear nB n3 n4; have q30 := (blk_cell X3.out 0).trans rfl; have q31 := (blk_cell X3.out 1).trans rfl; have q32 := (blk_cell X3.out 2).trans rfl; have q33 := (blk_cell X3.out 3).trans rfl; have q40 := (blk_cell X4.out 0).trans rfl; have q41 := (blk_cell X4.out 1).trans rfl; have q42 := (blk_cell X4.out 2).trans rfl; have q43 := (blk_cell X4.out 3).trans rfl; have q44 := (blk_cell X4.out 4).trans rfl; have q50 := (blk_cell X5.out 0).trans rfl; have q51 := (blk_cell X5.out 1).trans rfl; have q52 := (blk_cell X5.out 2).trans rfl; have q53 := (blk_cell X5.out 3).trans rfl; have q54 := (blk_cell X5.out 4).trans rfl)
   | (go_at_call 16; with_reducible refine (check_Does.calls a0_0 A0_1 c0_1 l0_1 a0_2 A0_3 c0_3 l0_3 A1_0 c1_0 l1_0 a1_1 a1_2 a1_3 a1_4 A2_0 c2_0 l2_0 a2_1 a2_2 a2_3 a2_4 _ _ (Kd.C_below H01.out HB.out) HL.out.1 (Kd.C_below H03.out HB.out) HL.out.2.1 (Kd.C_below H1.out HB.out) HL.out.2.2.1 (Kd.C_below H2.out HB.out) HL.out.2.2.2 HD.out).mono ?_; rintro e wn ⟨rfl, hb⟩; have nB := Aside0.mk (below_step HB.out hb); have n3 := Aside0.mk (blk_below X3.out hb); have n4 := Aside0.mk (blk_below X4.out hb); have n5 := Aside0.mk (blk_below X5.out hb); clear hb HB X3 X4 X5; clear q30 q31 q32 q33 q40 q41 q42 q43 q44 q50 q51 q52 q53 q54; have HB := nB; have X3 := n3; have X4 := n4; have X5 := n5; clear nB n3 n4 n5; have q30 := (blk_cell X3.out 0).trans rfl; have q31 := (blk_cell X3.out 1).trans rfl; have q32 := (blk_cell X3.out 2).trans rfl; have q33 := (blk_cell X3.out 3).trans rfl; have q40 := (blk_cell X4.out 0).trans rfl; have q41 := (blk_cell X4.out 1).trans rfl; have q42 := (blk_cell X4.out 2).trans rfl; have q43 := (blk_cell X4.out 3).trans rfl; have q44 := (blk_cell X4.out 4).trans rfl; have q50 := (blk_cell X5.out 0).trans rfl; have q51 := (blk_cell X5.out 1).trans rfl; have q52 := (blk_cell X5.out 2).trans rfl; have q53 := (blk_cell X5.out 3).trans rfl; have q54 := (blk_cell X5.out 4).trans rfl))
  go_ret
  exact ⟨rfl, HB.out⟩
 | true =>
  rw [if_pos rfl] at h
  obtain ⟨es, he, h⟩ := Option.bind_eq_some_iff.1 h
  obtain rfl := Option.some.inj h
  have HE := Aside0.mk he
  clear he h
  go_enter Try.func12, Try.ntmps12
  go_wp2_with (first
   | ((with_reducible refine gate_dst (N := 3) rfl ?_); refine box_event ?hg (N := 3) ?hd (cs := #[.int .i64 a0_0, .slice A0_1 l0_1.length c0_1, .int .i64 a0_2, .slice A0_3 l0_3.length c0_3]) (t := 24) ?hr ?_; (case hd => rfl); (case hg => rfl); (case hr => first | (go_simp; done) | (go_simp; rfl)); intro g3 hg w3 hbox hb; have HB := Aside0.mk hb; have X3 := Aside0.mk hbox; clear hb hbox hg)
   | ((with_reducible refine gate_dst (N := 4) rfl ?_); refine box_event ?hg (N := 4) ?hd (cs := #[.slice A1_0 l1_0.length c1_0, .int .i64 a1_1, .int .i64 a1_2, .int .i64 a1_3, .int .i64 a1_4]) (t := 31) ?hr ?_; (case hd => rfl); (case hg => rfl); (case hr => first | (go_simp; done) | (go_simp; rfl)); intro g4 hg w4 hbox hb; have nB := Aside0.mk (below_step HB.out hb); have n3 := Aside0.mk (blk_below X3.out hb); have X4 := Aside0.mk hbox; clear hb hbox hg HB X3; have HB := nB; have X3 := n3; clear nB n3)
   | ((with_reducible refine gate_dst (N := 5) rfl ?_); refine box_event ?hg (N := 5) ?hd (cs := #[.slice A2_0 l2_0.length c2_0, .int .i64 a2_1, .int .i64 a2_2, .int .i64 a2_3, .int .i64 a2_4]) (t := 31) ?hr ?_; (case hd => rfl); (case hg => rfl); (case hr => first | (go_simp; done) | (go_simp; rfl)); intro g5 hg w5 hbox hb; have nB := Aside0.mk (below_step HB.out hb); have n3 := Aside0.mk (blk_below X3.out hb); have n4 := Aside0.mk (blk_below X4.out hb); have X5 := Aside0.mk hbox; clear hb hbox hg HB X3 X4; have HB := nB; have X3 := n3; have X4 := n4; clear nB n3 n4; have q30 := (blk_cell X3.out 0).trans rfl; have q31 := (blk_cell X3.out 1).trans rfl; have q32 := (blk_cell X3.out 2).trans rfl; have q33 := (blk_cell X3.out 3).trans rfl; have q40 := (blk_cell X4.out 0).trans rfl; have q41 := (blk_cell X4.out 1).trans rfl; have q42 := (blk_cell X4.out 2).trans rfl; have q43 := (blk_cell X4.out 3).trans rfl; have q44 := (blk_cell X4.out 4).trans rfl; have q50 := (blk_cell X5.out 0).trans rfl; have q51 := (blk_cell X5.out 1).trans rfl; have q52 := (blk_cell X5.out 2).trans rfl; have q53 := (blk_cell X5.out 3).trans rfl; have q54 := (blk_cell X5.out 4).trans rfl)
   | (go_at_call 16; with_reducible refine (check_Does.calls a0_0 A0_1 c0_1 l0_1 a0_2 A0_3 c0_3 l0_3 A1_0 c1_0 l1_0 a1_1 a1_2 a1_3 a1_4 A2_0 c2_0 l2_0 a2_1 a2_2 a2_3 a2_4 _ _ (Kd.C_below H01.out HB.out) HL.out.1 (Kd.C_below H03.out HB.out) HL.out.2.1 (Kd.C_below H1.out HB.out) HL.out.2.2.1 (Kd.C_below H2.out HB.out) HL.out.2.2.2 HD.out).mono ?_; rintro e wn ⟨rfl, hb⟩; have nB := Aside0.mk (below_step HB.out hb); have n3 := Aside0.mk (blk_below X3.out hb); have n4 := Aside0.mk (blk_below X4.out hb); have n5 := Aside0.mk (blk_below X5.out hb); clear hb HB X3 X4 X5; clear q30 q31 q32 q33 q40 q41 q42 q43 q44 q50 q51 q52 q53 q54; have HB := nB; have X3 := n3; have X4 := n4; have X5 := n5; clear nB n3 n4 n5; have q30 := (blk_cell X3.out 0).trans rfl; have q31 := (blk_cell X3.out 1).trans rfl; have q32 := (blk_cell X3.out 2).trans rfl; have q33 := (blk_cell X3.out 3).trans rfl; have q40 := (blk_cell X4.out 0).trans rfl; have q41 := (blk_cell X4.out 1).trans rfl; have q42 := (blk_cell X4.out 2).trans rfl; have q43 := (blk_cell X4.out 3).trans rfl; have q44 := (blk_cell X4.out 4).trans rfl; have q50 := (blk_cell X5.out 0).trans rfl; have q51 := (blk_cell X5.out 1).trans rfl; have q52 := (blk_cell X5.out 2).trans rfl; have q53 := (blk_cell X5.out 3).trans rfl; have q54 := (blk_cell X5.out 4).trans rfl)
   | (go_at_call 21; refine (events_calls (fuelOf l1_0 + fuelOf l2_0) ⟨a0_0, l0_1, a0_2, l0_3⟩ A0_1 c0_1 A0_3 c0_3 l1_0 l2_0 A1_0 A2_0 c1_0 c2_0 a1_1 a1_2 a1_3 a1_4 a2_1 a2_2 a2_3 a2_4 _ es (Kd.C_below H01.out HB.out) HL.out.1 (Kd.C_below H03.out HB.out) HL.out.2.1 (Kd.C_below H1.out HB.out) HL.out.2.2.1 (Kd.C_below H2.out HB.out) HL.out.2.2.2 HN.out.1 HN.out.2 HE.out).mono ?_; rintro e we ⟨v, rfl, hr, hb⟩; obtain ⟨Av, cv, rfl, hv1, hv2⟩ := Kd.R_reads hr; have HBe := Aside0.mk (below_step HB.out hb); clear hb hr hv1 hv2))
  go_ret
  exact ⟨rfl, HBe.out⟩
end Go.Proofs.Ytdlgkmnloijnbaa.Q
