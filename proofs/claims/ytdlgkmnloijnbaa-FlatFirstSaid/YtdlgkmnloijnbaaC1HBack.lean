/- slices.Backward's closure, for every loop body that keeps what lay below n₀. -/
import Derived.RangeFuncBox
import Derived.RangeFuncLeaves
import Derived.RangeFuncNested
import Derived.RangeFuncCalls
import Derived.RangeFuncWrites
import Derived.Shelf.Abstract
import Derived.WalkKit
import Derived.OwnWalkIn
import Derived.TacticsInMore
import Derived.LoopNIn
import Derived.LoopIn
import Derived.Test.YtdlgkmnloijnbaaC1HBefore
set_option linter.unusedVariables false
set_option linter.unusedSimpArgs false
namespace Go.Proofs.Ytdlgkmnloijnbaa.Q
open Go.RowKit Go.Shelf Go.Proofs.YtdlgkmnloijnbaaW.PrintWords Go.Proofs.YtdlgkmnloijnbaaW.PrintLast Go.Proofs.YtdlgkmnloijnbaaW.PrintMore

attribute [local go_sem] Oper.semAt_some
/-- What has come when k rounds are over. -/
def upto {α : Type} (f : Nat → α) (k : Nat) : List α := (List.range k).map f
theorem upto_succ {α : Type} (f : Nat → α) (k : Nat) : upto f (k + 1) = upto f k ++ [f k] := by simp [upto, List.range_succ]
theorem upto_length {α : Type} (f : Nat → α) (k : Nat) : (upto f k).length = k := by simp [upto]
/-- What a round keeps: what lay below n₀, and the box that the closure has captured. -/
def Kpb (n₀ Bs : Nat) (A B : World) : Prop := Below n₀ A B ∧ B.cell? ⟨Bs, 0, none⟩ = A.cell? ⟨Bs, 0, none⟩
theorem kpb_t {n₀ Bs : Nat} {A B C : World} (h : Kpb n₀ Bs A B) (k : Kpb n₀ Bs B C) : Kpb n₀ Bs A C := ⟨h.1.trans k.1, k.2.trans h.2⟩
theorem kpb_b {n₀ Bs : Nat} {w : World} (hn : n₀ ≤ w.heap.size) (hB : Bs < w.heap.size) (W : World) (l : Nat) (o o' : Obj) (hl : w.heap.size ≤ l) (h : W.heap[l]? = some o) (hc : o.isCells = false) (hw : o.isWalk = false) : Kpb n₀ Bs W (W.putObj l o') :=
 ⟨belowK_b hn W l o o' hl h hc hw, (belowK_b (Nat.le_refl _) W l o o' hl h hc hw).cell (p := ⟨Bs, 0, none⟩) hB⟩
set_option maxRecDepth 100000 in
set_option maxHeartbeats 2000000 in
theorem back1_in {α : Type} (ix : α → Int) (vl : α → Value) (F : Fence) (n : Nat) (h63 : F.fn 63) (hro : F.round = none) (hn : 1 ≤ n) (l Bs n₀ b off len cap : Nat) (hb : b < n₀) (zs : Nat → α) (hix : ∀ j, j < len → ix (zs j) = (len : Int) - 1 - j) (hreach : len ≤ 1000000000) (J Jx : List α → World → Prop)
  (hY : ∀ pre x W, J pre W → pre.length < len → YieldAt F (n - 1) Try.prog l #[.int .i64 (ix x), vl x] W fun e W' =>
   (e = .returned (.bool true) ∧ J (pre ++ [x]) W' ∧ Kpb n₀ Bs W W') ∨ (e = .returned (.bool false) ∧ Jx (pre ++ [x]) W'))
  (W : World) (hB : W.cell? ⟨Bs, 0, none⟩ = some (.slice (some ⟨b, off, none⟩) len cap)) (hc : ∀ j, j < len → W.cell? ⟨b, off + (len - 1 - j), none⟩ = some (vl (zs j))) (h0 : J [] W) :
  CallsIn F n Try.prog 63 #[.func (.yield l) #[] #[], .pointer (some ⟨Bs, 0, none⟩)] W fun e W' => (∃ v, e = .returned v) ∧
   ((∃ ys, ys = upto zs len ∧ J ys W') ∨ (∃ pre, (∃ k, k ≤ len ∧ pre = upto zs k) ∧ Jx pre W')) := by
 refine callsIn_of_wp Try.func63 rfl h63 ?_ hro
 simp only [Try.ntmps63, List.size_toArray, List.length_cons, List.length_nil, Nat.reduceAdd, Nat.reduceSub, Array.replicate_succ, Array.replicate_zero, List.push_toArray, List.append_toArray, List.nil_append, List.cons_append]
 gi_wp2
 gi_loopw [3] (fun i wr => ∃ k : Nat, k ≤ len ∧ i = .int .i64 ((len : Int) - 1 - k) ∧ J (upto zs k) wr ∧ Kpb n₀ Bs W wr)
  (fun i _ => ((intOf i) + 1).toNat)
 case atStart => exact ⟨0, Nat.zero_le _, by go_num, h0, ⟨Below.refl _ _, rfl⟩⟩
 case round =>
  obtain ⟨k, hk, rfl, hJs, hnx⟩ := hrel
  have hBr : wr.cell? ⟨Bs, 0, none⟩ = some (.slice (some ⟨b, off, none⟩) len cap) := hnx.2.trans hB
  by_cases hlt : k < len
  ·have hcx : wr.cell? ⟨b, off + (len - 1 - k), none⟩ = some (vl (zs k)) := (hnx.1.cell (p := ⟨b, off + (len - 1 - k), none⟩) hb).trans (hc k hlt)
   obtain ⟨fn, tmps, assign, body, hy, hR⟩ := hY _ (zs k) wr hJs (by rw [upto_length]; exact hlt)
   rw [hix k hlt] at hy
   obtain ⟨i, hi⟩ : ∃ i : Nat, i = len - 1 - k := ⟨_, rfl⟩
   have hii : (len : Int) - 1 - k = (i : Int) := by omega
   have hil : (i : Int) < (len : Int) := by omega
   rw [← hi] at hcx
   rw [hii] at hy ⊢
   have HI := Aside0.mk hi
   have HII := Aside0.mk hii
   clear hi hii
   gi_wp2
   refine hR.mono ?_
   rintro e W3 (⟨rfl, hJ3, hk3⟩ | ⟨rfl, hJx3⟩)
   ·gi_wp2
    go_roundw
    case rel => exact ⟨k + 1, by omega, (by have h1 := HII.out; first | rfl | (congr 1; push_cast; omega) | go_num), by rw [upto_succ]; exact hJ3, kpb_t hnx hk3⟩
    case measure => have h1 := HII.out; first | omega | (simp [intOf]; done) | (simp [intOf]; omega)
   ·gi_wp2
    refine bodyPost_ret (results_none rfl _ _ _) rfl ?_
    exact ⟨⟨_, rfl⟩, .inr ⟨_, ⟨k + 1, by omega, (upto_succ _ _).symm⟩, hJx3⟩⟩
  ·obtain rfl : k = len := by omega
   have hneg : ¬ (0 : Int) ≤ (k : Int) - 1 - (k : Int) := by omega
   gi_wp2
   go_end0
   first
    | exact ⟨⟨_, rfl⟩, .inl ⟨_, rfl, hJs⟩⟩
    | exact ⟨⟨_, rfl⟩, .inl hJs⟩
/-- slices.Backward hands back a value that runs from the last element to the first, or stops. -/
theorem back_stops {α : Type} (ix : α → Int) (vl : α → Value) (F : Fence) (n : Nat) (h63 : F.fn 63) (hro : F.round = none) (hn : 1 ≤ n) (Bs n₀ b off len cap : Nat) (zs : Nat → α) (hix : ∀ j, j < len → ix (zs j) = (len : Int) - 1 - j) (hreach : len ≤ 1000000000) (hb : b < n₀) (w : World) (hBs : Bs < w.heap.size) (hn₀ : n₀ ≤ w.heap.size)
  (hB : w.cell? ⟨Bs, 0, none⟩ = some (.slice (some ⟨b, off, none⟩) len cap)) (hc : ∀ j, j < len → w.cell? ⟨b, off + (len - 1 - j), none⟩ = some (vl (zs j))) :
  SeqStopsK F n Try.prog 63 #[.pointer (some ⟨Bs, 0, none⟩)] (fun x : α => #[Value.int .i64 (ix x), vl x]) (Kpb n₀ Bs) (fun ys => ys = upto zs len) (fun pre => ∃ k, k ≤ len ∧ pre = upto zs k) len w := fun l J Jx W hW _ _ hY h0 =>
 back1_in ix vl F n h63 hro hn l Bs n₀ b off len cap hb zs hix hreach J Jx hY W ((hW.cell (p := ⟨Bs, 0, none⟩) hBs).trans hB) (fun j hj => (hW.cell (p := ⟨b, off + (len - 1 - j), none⟩) (Nat.lt_of_lt_of_le hb hn₀)).trans (hc j hj)) h0
end Go.Proofs.Ytdlgkmnloijnbaa.Q
