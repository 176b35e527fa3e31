/- FlatFirst: whatever the input, it returns true, and the input reads as it did. -/
import Derived.Test.YtdlgkmnloijnbaaRows
import Derived.Test.YtdlgkmnloijnbaaC1HFirst
import Derived.Test.YtdlgkmnloijnbaaC1HOpen
import Derived.WalkKit
import Derived.ProofKit
import Derived.OpenShut
import Derived.ShutString
import Derived.ChangeOld
import Derived.Below
import Derived.SizedLaws
set_option linter.unusedVariables false
namespace Go.Proofs.Ytdlgkmnloijnbaa.flatFirst
open Go.ChangeShapes Go.WideShapes Go.ChangeAt Go.RowKit
theorem own : ownKnob Try.prog.godebug = none := by kernel_rfl
theorem laidOut : laidOutB Try.prog = true := by kernel_rfl
set_option maxRecDepth 100000 in
theorem lifted (os : Os) (started : os.Started) (H : Type) (enc : TypeId × Value → H) :
  ReturnsInHanded {} Try.checked os 4 .any (Rows.flatFirstSpec.pre6 enc Try.prog Try.f4 Rows.flatFirstRow.domain false) (Rows.flatFirstSpec.post enc Try.prog Try.f4 false true false false) := by
 refine returnsInHanded_of_change_sized (C := Try.checked) own started (by kernel_rfl) Try.func4
  (ChangeSpec.witness6 (enc := enc) (C := Try.checked) false ⟨#[], #[.agg #[.int .i64 0, .slice none 0 0, .int .i64 0, .slice none 0 0], .agg #[.slice none 0 0, .int .i64 0, .int .i64 0, .int .i64 0, .int .i64 0], .agg #[.slice none 0 0, .int .i64 0, .int .i64 0, .int .i64 0, .int .i64 0], .int .i64 0, .agg #[.int .i64 0, .bool false, .int .i64 0]], []⟩ 8 (by kernel_rfl) (by kernel_rfl) (by kernel_rfl) (by kernel_rfl)) ?_
 intro W base args ds gs before hval0 hW hcnd hsz0 _
 have hsz : (DataW.weightsEach Try.prog (Try.f4.params.toList ++ Rows.flatFirstSpec.plain.varTypes Try.prog) (ds ++ gs)).all (· ≤ reachBytes) = true := hsz0
 have hval : ∀ (j : Nat) t v, Try.f4.params[j]? = some t → args[j]? = some v → Value.okWide Try.prog W .any base t v := hval0
 have hW' := hW
 obtain ⟨p, q, hA0, hV, rfl, hfz, hnd⟩ := hW
 have hA : DataW.TrodAll enc Try.prog W 0 (fun _ => true) true Try.f4.params.toList args.toList ds p := hA0
 rw [Try.params4] at hA hval hsz
 obtain ⟨v0, vs0, d0, ds0, p0, q0, hargs, rfl, rfl, h0, r0⟩ := trodAll_cons hA
 obtain ⟨v1, vs1, d1, ds1, p1, q1, rfl, rfl, rfl, h1, r1⟩ := trodAll_cons r0
 obtain ⟨v2, vs2, d2, ds2, p2, q2, rfl, rfl, rfl, h2, r2⟩ := trodAll_cons r1
 obtain ⟨v3, vs3, d3, ds3, p3, q3, rfl, rfl, rfl, h3, r3⟩ := trodAll_cons r2
 obtain ⟨v4, vs4, d4, ds4, p4, q4, rfl, rfl, rfl, h4, r4⟩ := trodAll_cons r3
 obtain ⟨rfl, rfl, rfl⟩ := trodAll_nil r4
 obtain rfl : args = #[v0, v1, v2, v3, v4] := by cases args; simp_all
 obtain ⟨rfl, rfl⟩ := trodVars_none hV
 have hs := List.all_eq_true.1 hsz
 have k0 := h0
 have k1 := h1
 have k2 := h2
 have k4 := h4
 have lt0 : ∀ x ∈ p0, x.block < W.heap.size := by obtain ⟨m, hm⟩ := k0; exact DataW.trod_lt m _ _ _ hm
 have lt1 : ∀ x ∈ p1, x.block < W.heap.size := by obtain ⟨m, hm⟩ := k1; exact DataW.trod_lt m _ _ _ hm
 have lt2 : ∀ x ∈ p2, x.block < W.heap.size := by obtain ⟨m, hm⟩ := k2; exact DataW.trod_lt m _ _ _ hm
 have lt4 : ∀ x ∈ p4, x.block < W.heap.size := by obtain ⟨m, hm⟩ := k4; exact DataW.trod_lt m _ _ _ hm
 obtain ⟨cs0, rfl, _⟩ := okWide_struct Try.underlying24 (hval 0 24 v0 rfl rfl)
 obtain ⟨cs1, rfl, _⟩ := okWide_struct Try.underlying31 (hval 1 31 v1 rfl rfl)
 obtain ⟨cs2, rfl, _⟩ := okWide_struct Try.underlying31 (hval 2 31 v2 rfl rfl)
 obtain ⟨cs4, rfl, _⟩ := okWide_struct Try.underlying35 (hval 4 35 v4 rfl rfl)
 obtain ⟨a3, rfl, rfl, rfl, w3⟩ := open_int Try.underlying3 (hval 3 3 v3 rfl rfl) h3
 obtain ⟨l0⟩ := cs0
 obtain ⟨l1⟩ := cs1
 obtain ⟨l2⟩ := cs2
 obtain ⟨l4⟩ := cs4
 obtain ⟨f0, g0⟩ := h0
 obtain ⟨f1, g1⟩ := h1
 obtain ⟨f2, g2⟩ := h2
 obtain ⟨f4, g4⟩ := h4
 obtain ⟨a0_0, A0_1, c0_1, l0_1, a0_2, A0_3, c0_3, l0_3, rfl, hc0_1, hr0_1, hc0_3, hr0_3, z1, z3⟩ := Q.open_m g0 (fun n hn => by simpa using hs n (DataW.weights_mem_each (j := 0) (t := 24) (d := d0) rfl rfl n hn))
 obtain ⟨A1_0, c1_0, l1_0, a1_1, a1_2, a1_3, a1_4, rfl, hc1_0, hr1_0, zs, ys⟩ := Q.open_b g1 (fun n hn => by simpa using hs n (DataW.weights_mem_each (j := 1) (t := 31) (d := d1) rfl rfl n hn))
 obtain ⟨A2_0, c2_0, l2_0, a2_1, a2_2, a2_3, a2_4, rfl, hc2_0, hr2_0, zt, yt⟩ := Q.open_b g2 (fun n hn => by simpa using hs n (DataW.weights_mem_each (j := 2) (t := 31) (d := d2) rfl rfl n hn))
 obtain ⟨a4_0, a4_1, a4_2, rfl⟩ := Q.open_f g4
 clear hA0 hval0 hsz0 hsz hs g0 g1 g2 g4
 refine (Q.FlatFirst_walk a0_0 A0_1 c0_1 l0_1 a0_2 A0_3 c0_3 l0_3 A1_0 c1_0 l1_0 a1_1 a1_2 a1_3 a1_4 A2_0 c2_0 l2_0 a2_1 a2_2 a2_3 a2_4 a3 a4_0 a4_1 a4_2 W hr0_1 hc0_1 hr0_3 hc0_3 hr1_0 hc1_0 hr2_0 hc2_0 z1 z3 zs zt ys yt).mono fun e W' ⟨he, bel⟩ => ?_
 subst he
 exact ⟨_, rfl, _, _, _, [], _, [], hW', trodAll_mk1 (shut_bool Try.underlying4 _), (trodAll_cons_mk (Below.trod laidOut (by kernel_rfl) (of_decide_eq_true (by kernel_rfl)) k0 bel lt0) (trodAll_cons_mk (Below.trod laidOut (by kernel_rfl) (of_decide_eq_true (by kernel_rfl)) k1 bel lt1) (trodAll_cons_mk (Below.trod laidOut (by kernel_rfl) (of_decide_eq_true (by kernel_rfl)) k2 bel lt2) (trodAll_cons_mk (shut_int Try.underlying3 w3) (trodAll_cons_mk (Below.trod laidOut (by kernel_rfl) (of_decide_eq_true (by kernel_rfl)) k4 bel lt4) trodAll_mk0))))), rfl, bel.frame _, fun h => by cases h⟩
theorem over : Rows.flatFirstRow.holds Try.pinned (OpenSpec.ofChange Rows.flatFirstSpec) :=
 OpenClaim.holds_of_wide 4 Try.f4 rfl rfl rfl rfl rfl rfl rfl ⟨rfl, rfl, rfl, rfl, rfl⟩ rfl rfl rfl rfl rfl (by kernel_rfl) Try.func4 (by kernel_rfl)
  (of_decide_eq_true (by kernel_rfl)) (by unfold Func.isWrapper; first | (rw [if_pos (by decide +kernel)]; kernel_rfl) | (rw [if_neg (by decide +kernel)]; exact ⟨rfl, rfl⟩))
  (fun os started H enc _ => lifted os started H enc)
theorem proved : Rows.FlatFirstSaid := over
end Go.Proofs.Ytdlgkmnloijnbaa.flatFirst
namespace Go.Proofs.Ytdlgkmnloijnbaa
/-- The row, under a short name, for the claim. -/
theorem flatFirst_holds : Rows.FlatFirstSaid := flatFirst.proved
end Go.Proofs.Ytdlgkmnloijnbaa
