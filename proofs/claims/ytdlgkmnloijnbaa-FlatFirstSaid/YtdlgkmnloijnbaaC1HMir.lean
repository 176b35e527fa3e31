/- mir.has returns what an Op has, as bits, out of its table. -/
import Derived.Test.YtdlgkmnloijnbaaC1Qx0
import Derived.Laws.Tables
set_option linter.unusedVariables false
set_option linter.unusedSimpArgs false
namespace Go.Proofs.Ytdlgkmnloijnbaa.Q
open Go.RowKit Go.Proofs.YtdlgkmnloijnbaaW.PrintWords Go.Proofs.YtdlgkmnloijnbaaW.PrintLast Go.Proofs.YtdlgkmnloijnbaaW.PrintMore

/-- What each Op has. -/
def hasT : List Int := [0, 9, 7, 7, 7, 7, 7, 7, 7, 7, 7, 11, 14, 32, 0, 3, 18, 17]
def hasI (o : Int) : Int := if o < 0 then 0 else hasT.getD o.toNat 0
def mir_has.f (a0 : Int) : Option (Int) := some (hasI a0)

/-- The table, behind so many rounds. -/
def tab (k : Nat) : List Int := [0, 9] ++ List.replicate k 7 ++ List.replicate (9 - k) 0 ++ [11, 14, 32, 0, 3, 18, 17]
def tabA (k : Nat) : Array Value := ((tab k).map (Value.int .u8)).toArray
theorem tabA_set (k : Nat) (hk : k < 9) : (tabA k).setIfInBounds (k + 2) (.int .u8 7) = tabA (k + 1) := by
 have h : ∀ j : Fin 9, (tab j.val).set (j.val + 2) 7 = tab (j.val + 1) := by decide
 have := h ⟨k, hk⟩
 simp only [tabA]
 rw [← this]
 simp
theorem tabA_size (k : Nat) (hk : k ≤ 9) : (tabA k).size = 18 := by
 simp [tabA, tab]; omega
theorem tabA_end (o : Nat) (ho : o < 18) : (tabA 9)[o]? = some (.int .u8 (hasT.getD o 0)) := by
 have h : tab 9 = hasT := by decide
 simp only [tabA, h, List.getElem?_toArray, List.getElem?_map]
 rw [List.getElem?_eq_getElem (show o < hasT.length from ho)]
 simp [List.getD_eq_getElem?_getD, List.getElem?_eq_getElem (show o < hasT.length from ho)]
theorem hasT_out (o : Nat) (ho : 18 ≤ o) : hasT.getD o 0 = 0 := by
 rw [List.getD_eq_getElem?_getD, List.getElem?_eq_none (show hasT.length ≤ o from ho)]; rfl
attribute [irreducible] tabA

set_option maxHeartbeats 1600000 in
set_option maxRecDepth 100000 in
theorem mir_has.calls (a0 : Int) (r : Int) (w : World) (h : mir_has.f a0 = some r) :
  Calls Try.prog 60 #[.int .i64 a0] w fun e w' => e = .returned (.int .u8 r) ∧ Below w.heap.size w w' := by
 have hrr : hasI a0 = r := Option.some.inj h
 have HH := Aside0.mk hrr
 clear h hrr
 have h0 : tabA 0 = #[.int .u8 0, .int .u8 9, .int .u8 0, .int .u8 0, .int .u8 0, .int .u8 0, .int .u8 0, .int .u8 0, .int .u8 0, .int .u8 0, .int .u8 0, .int .u8 11, .int .u8 14, .int .u8 32, .int .u8 0, .int .u8 3, .int .u8 18, .int .u8 17] := by unfold tabA; rfl
 have H0 := Aside0.mk h0
 clear h0
 go_enter Try.func60, Try.ntmps60
 go_wp2_with fail
 go_loopw [4] (fun i wr => ∃ k : Nat, k ≤ 9 ∧ i = .int .i64 ((k : Int) + 2) ∧ Aside0 (wr.heap[w.heap.size]? = some (.cells (tabA k) 113 (0, 0))) ∧ Aside0 (Below w.heap.size w wr)) (fun i _ => (11 - intOf i).toNat)
 case atStart => exact ⟨0, by omega, rfl, ⟨by rw [H0.out]; exact blk_new w _⟩, ⟨below_alloc (Below.refl _ _) _⟩⟩
 case round =>
  obtain ⟨k, hk, rfl, HX, HB⟩ := hrel
  by_cases hlt : k < 9
  ·have hs := tabA_set k hlt
   have HS := Aside0.mk hs
   clear hs
   have hsz := tabA_size k hk
   have HSZ := Aside0.mk hsz
   clear hsz
   have hc : wr.cell? ⟨w.heap.size, k + 2, none⟩ = (tabA k)[k + 2]? := blk_cell HX.out (k + 2)
   obtain ⟨v, hv⟩ : ∃ v, (tabA k)[k + 2]? = some v := ⟨_, Array.getElem?_eq_getElem (by rw [HSZ.out]; omega)⟩
   rw [hv] at hc
   have hf := blk_frozen HX.out (k + 2)
   have hcond : ((k : Int) + 2 ≤ 10) = True := eq_true (by omega)
   have hto : ((k : Int) + 2).toNat = k + 2 := by omega
   have h18 : ((k : Int) + 2 < 18) = True := eq_true (by omega)
   clear hv
   go_wp2_with fail
   go_roundw
   case rel => exact ⟨k + 1, by omega, by go_num, ⟨by rw [← HS.out]; exact blk_set HX.out _ _⟩, ⟨below_set HB.out (Nat.le_refl _)⟩⟩
   case measure => simp [intOf]; omega
  ·obtain rfl : k = 9 := by omega
   by_cases c1 : a0 < 0
   ·have hz : r = 0 := by rw [← HH.out]; simp [hasI, c1]
    subst hz
    go_wp2_with fail
    go_ret
    exact ⟨rfl, HB.out⟩
   ·by_cases c2 : 18 ≤ a0
    ·have hz : r = 0 := by rw [← HH.out]; unfold hasI; rw [if_neg c1, hasT_out _ (by omega)]
     subst hz
     go_wp2_with fail
     go_ret
     exact ⟨rfl, HB.out⟩
    ·have hc : wr.cell? ⟨w.heap.size, a0.toNat, none⟩ = some (.int .u8 (hasT.getD a0.toNat 0)) := (blk_cell HX.out _).trans (tabA_end _ (by omega))
     have hz : hasT.getD a0.toNat 0 = r := by rw [← HH.out]; unfold hasI; rw [if_neg c1]
     rw [hz] at hc
     clear hz
     have h0' : 0 ≤ a0 := by omega
     have h18' : a0 < 18 := by omega
     go_wp2_with fail
     go_ret
     exact ⟨rfl, HB.out⟩
end Go.Proofs.Ytdlgkmnloijnbaa.Q
