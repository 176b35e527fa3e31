/- slices.Clone and slices.DeleteFunc of instructions: what is left lies in new memory, and leads to what came in. -/
import Derived.Test.YtdlgkmnloijnbaaC1Qx2
import Derived.Test.YtdlgkmnloijnbaaC1HRow
import Derived.Laws.Tables
set_option linter.unusedVariables false
set_option linter.unusedSimpArgs false
namespace Go.Proofs.Ytdlgkmnloijnbaa.Q
open Go.RowKit Go.Proofs.YtdlgkmnloijnbaaW.PrintWords Go.Proofs.YtdlgkmnloijnbaaW.PrintLast Go.Proofs.YtdlgkmnloijnbaaW.PrintMore

theorem info56 : (Try.prog.info? 56).map (fun i => (i.zero, i.size, i.bytes)) = some (some (.agg #[.int .i64 0, .int .i64 0, .int .i64 0, .int .i64 0, .int .i64 0, .int .i64 0, .slice none 0 0, .int .i64 0]), 8, 80) := by kernel_rfl
set_option maxHeartbeats 800000 in
set_option maxRecDepth 100000 in
theorem clone_ins (A : Option Addr) (c : Nat) (l : List S56) (w0 w : World) (hB : Below w0.heap.size w0 w) (hr : Kd.C k56 w0 A l.length l) (hc : l.length ≤ c) (hl : l.length ≤ 1000000) :
  Calls Try.prog 34 #[.slice A l.length c] w fun e w' => ∃ v, e = .returned v ∧ Kd.R (frz k56 w0) 56 w' w.heap.size (fun _ => True) v l ∧ Below w.heap.size w w' := by
 have hq : ∀ (n : Nat) (W : World), (binOp .eql 25 (.slice A n c) (.slice none 0 0)).run Try.prog W = .ok (.bool A.isNone) W := fun n W => Lib.run_eql_slice_nil W 25 56 A n c 0 0 Try.underlying25
 have HC := Aside0.mk (C_frz hr hB)
 cases A with
 | none =>
  have h0 : l = [] := by
   rcases Nat.eq_zero_or_pos l.length with h | h
   ·exact List.eq_nil_of_length_eq_zero h
   ·obtain ⟨_, h2, _⟩ := hr.2.2 h
    cases h2
  subst h0
  simp only [Option.isNone_none] at hq
  clear hB hr hc hl
  go_enter Try.func34, Try.ntmps34
  go_wp2_with fail
  go_ret
  exact ⟨_, rfl, Kd.R_nil _ _ _ _ _, Below.refl _ _⟩
 | some a =>
  simp only [Option.isNone_some] at hq
  clear hB hr hc
  go_enter Try.func34, Try.ntmps34
  go_wp2_with (first
   | ((with_reducible refine gate_dst (N := 5) rfl ?_); refine Kd.R_lit (frz k56 w0) w.heap.size 56 ?hg (N := 5) ?hd (xs := []) (inner := []) (ok := fun _ => True) (okp := fun _ => True) ?hr ?hp (fun _ hk => hk) trivial (Below.refl _ _) (Nat.le_refl _) (by simp) ?_; (case hd => rfl); (case hg => rfl); (case hr => first | (go_simp; done) | (go_simp; rfl)); (case hp => exact (Reps.none _ _)); intro v7 w7 ho hb hg_ hnew_; have HO := Aside0.mk ho; have HB7 := Aside0.mk hb; clear ho hb hg_ hnew_)
   | ((with_reducible refine gate_builtin (b := .append) (xs := #[.tmp 5, .tmp 6]) rfl ?_); at_builtin; refine Kd.R_append_rows (frz k56 w0) (Rr := k56.K w0) (w0 := w) w.heap.size rfl (.tmp 5) (.tmp 6) 25 56 _ 80 rfl Try.underlying25 info56 rfl (by show 0 < 8; omega) (by omega) v7 [] l (some a) l.length c (fun _ => True) (fun _ => False) rfl rfl HO.out ?aR (fun _ _ h => h) (fun _ h => h.elim) (fun _ _ => trivial) HB7.out (below_size HB7.out) (by simp; omega) ?_; (case aR => exact Kd.C_below HC.out HB7.out); intro v8 w8 ho hb hg hat; have HO8 := Aside0.mk ho; have HB8 := Aside0.mk hb; clear ho hb hg hat))
  go_ret
  exact ⟨_, rfl, HO8.out, HB8.out⟩
end Go.Proofs.Ytdlgkmnloijnbaa.Q
