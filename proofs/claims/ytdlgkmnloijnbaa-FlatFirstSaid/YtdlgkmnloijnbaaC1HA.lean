import Derived.Test.YtdlgkmnloijnbaaC1Qx0
import Derived.Laws.Tables
set_option linter.unusedVariables false
set_option linter.unusedSimpArgs false
namespace Go.Proofs.Ytdlgkmnloijnbaa.Q
open Go.RowKit Go.Proofs.YtdlgkmnloijnbaaW.PrintWords Go.Proofs.YtdlgkmnloijnbaaW.PrintLast Go.Proofs.YtdlgkmnloijnbaaW.PrintMore

/-- The cells of a set of registers. -/
def bits (seen : List Int) : Array Value := ((List.range 64).map fun i : Nat => Value.bool (decide ((i : Int) ∈ seen))).toArray
theorem bits_size (l : List Int) : (bits l).size = 64 := by simp [bits]
theorem bits_get (l : List Int) (i : Int) (h0 : 0 ≤ i) (h1 : i < 64) : (bits l)[i.toNat]? = some (.bool (decide (i ∈ l))) := by
 simp only [bits, List.getElem?_toArray, List.getElem?_map]
 rw [List.getElem?_range (by omega)]
 simp only [Option.map_some, Int.toNat_of_nonneg h0]
theorem bits_set (l : List Int) (i : Int) (h0 : 0 ≤ i) (h1 : i < 64) : (bits l).setIfInBounds i.toNat (.bool true) = bits (l ++ [i]) := by
 apply Array.ext
 ·simp [bits]
 ·intro j hj hj'
  rw [Array.getElem_setIfInBounds (by simpa using hj)]
  simp only [bits, List.getElem_toArray, List.getElem_map, List.getElem_range, List.mem_append, List.mem_singleton]
  by_cases h : i.toNat = j
  ·have : (j : Int) = i := by omega
   rw [if_pos h]
   simp [this]
  ·have : ¬ ((j : Int) = i) := by omega
   rw [if_neg h]
   simp [this]
theorem bits_nil : bits [] = (Array.replicate 64 (Value.bool false)) := by
 apply Array.ext
 ·simp [bits]
 ·intro j h1 h2
  simp [bits]
theorem bits_one (l : List Int) : (bits l).all (·.oneCell') = true := by
 rw [Array.all_eq_true]
 intro i hi
 simp only [bits, List.getElem_toArray, List.getElem_map]
 rfl

attribute [irreducible] bits
/-- What a set of registers may hold. -/
def ofB (regs : Int) : List Int → List Int → Bool
 | _, [] => true
 | seen, r :: l => decide (0 ≤ r) && decide (r < regs) && !decide (r ∈ seen) && ofB regs (seen ++ [r]) l

/-- The set as it stands where it ends. -/
def ofSeen (regs : Int) : List Int → List Int → List Int
 | seen, [] => seen
 | seen, r :: l => if decide (0 ≤ r) && decide (r < regs) && !decide (r ∈ seen) then ofSeen regs (seen ++ [r]) l else seen
theorem ofSeen_all (regs : Int) : ∀ (l seen : List Int), ofB regs seen l = true → ofSeen regs seen l = seen ++ l
 | [], seen, _ => by simp [ofSeen]
 | r :: l, seen, h => by
  simp only [ofB, Bool.and_eq_true] at h
  obtain ⟨⟨⟨h1, h2⟩, h3⟩, h4⟩ := h
  rw [ofSeen, if_pos (by simp [h1, h2, h3]), ofSeen_all regs l _ h4, List.append_assoc]
  rfl
theorem drop_rd (l : List Int) (k : Nat) (hk : k < l.length) : l.drop k = rd l k :: l.drop (k + 1) := by
 rw [List.drop_eq_getElem_cons hk]; simp [rd, List.getD_eq_getElem?_getD, List.getElem?_eq_getElem hk]
theorem take_rd (l : List Int) (k : Nat) (hk : k < l.length) : l.take (k + 1) = l.take k ++ [rd l k] := by
 rw [List.take_succ_eq_append_getElem hk]; simp [rd, List.getD_eq_getElem?_getD, List.getElem?_eq_getElem hk]

section
variable {P : Program} {ops : Array Oper} {rest : List Oper} {o : Oper} {a : Act} {Q : Exit → Act → World → Prop} {W : World}
theorem gate_load {x : Operand} (t : TypeId) (_ho : o.op = .load t x) (h : wpList P ops Q (o :: rest) a W) : wpList P ops Q (o :: rest) a W := h
theorem gate_stores {x y : Operand} (t : TypeId) (_ho : o.op = .store t x y) (h : wpList P ops Q (o :: rest) a W) : wpList P ops Q (o :: rest) a W := h
end
theorem results_cell_tmp {P : Program} {fn : Func} {p q : Tmp} {ty : TypeId} (h : fn.results = #[.cell p ty, .tmp q]) (tmps : Array Value) (w : World) (g : Nat) (t : TypeId) (cs : Array Value) (fr : Nat × Nat) (d : TypeDesc) (v : Value)
  (hp : tmps.getD p undef = .pointer (some ⟨g, 0, none⟩)) (hv : tmps.getD q undef = v) (hg : w.heap[g]? = some (.cells cs t fr))
  (hu : P.underlying ty = some d) (hd : (match d with | .struct _ | .array _ _ => true | _ => false) = true) (hi : (P.info? ty).map (·.size) = some cs.size) :
  (results fn tmps).run P w = .ok (.tuple #[.agg cs, v]) w := by
 have hp' : tmps[p]?.getD undef = .pointer (some ⟨g, 0, none⟩) := by simpa using hp
 have hv' : tmps[q]?.getD undef = v := by simpa using hv
 simp [results, h, hp', hv', asAddr, run_loadVar_row w g t ty cs fr d hg hu hd hi]
theorem info99 : (Try.prog.info? 99).map (·.size) = some 64 := by kernel_rfl
theorem setRow_below {w W : World} {g : Nat} (S : Array Value) (h : Below w.heap.size w W) (hg : w.heap.size ≤ g) : Below w.heap.size w (W.setRow g S) := by
 refine ⟨h.os, h.tape, h.output, by simpa using h.size, fun b hb => ?_⟩
 rw [← h.block b hb]
 simp only [World.setRow]
 rw [Array.getElem?_modify]
 rw [if_neg (by omega)]

set_option maxHeartbeats 1600000 in
set_option maxRecDepth 100000 in
theorem mach_of.calls (regs : Int) (A : Option Addr) (c : Nat) (l : List Int) (w : World) (hr : Kd.C (Kd.int .i64) w A l.length l) (hc : l.length ≤ c) (hreg : regs ≤ 64) (hl : l.length ≤ 1000) :
  Calls Try.prog 59 #[.int .i64 regs, .slice A l.length c] w fun e w' => e = .returned (.tuple #[.agg (bits (ofSeen regs [] l)), .bool (ofB regs [] l)]) ∧ Below w.heap.size w w' := by
 have HR := Aside0.mk hr
 have HB := Aside0.mk (Below.refl w.heap.size w)
 clear hr
 have hu99 := Try.underlying99
 go_enter Try.func59, Try.ntmps59
 go_wp2_with (first | ((with_reducible refine gate_dst (N := 4) rfl ?_); refine box_event ?hg (N := 4) ?hd (cs := Array.replicate 64 (Value.bool false)) (t := 99) ?hr ?_; (case hd => rfl); (case hg => rfl); (case hr => first | (go_simp; done) | (go_simp; rfl)); intro gb hg w3 hbox hb; have HB := Aside0.mk hb; have HX := Aside0.mk hbox; have HG := Aside0.mk (Nat.le_of_eq hg.symm); clear hb hbox hg))
 go_loopw [10] (fun i wr => ∃ k : Nat, k ≤ l.length ∧ i = .int .i64 k ∧ Aside0 (wr.heap[gb]? = some (.cells (bits (l.take k)) 99 (0, 0))) ∧ Aside0 (Below w.heap.size w wr) ∧ Aside0 (ofB regs [] l = ofB regs (l.take k) (l.drop k) ∧ ofSeen regs [] l = ofSeen regs (l.take k) (l.drop k))) (fun i _ => l.length - (intOf i).toNat)
 case atStart => exact ⟨0, Nat.zero_le _, rfl, ⟨by rw [List.take_zero, bits_nil]; exact HX.out⟩, HB, ⟨by simp, by simp⟩⟩
 case round =>
  obtain ⟨k, hk, rfl, HXr, HBr, HO⟩ := hrel
  clear HB HX
  by_cases hlt : k < l.length
  ·obtain ⟨ad, rfl, hcell⟩ := Kd.at_int (Kd.C_below HR.out HBr.out) (k : Int) (by omega) (by omega)
   simp only [Int.toNat_natCast] at hcell
   have hO : ofB regs [] l = (decide (0 ≤ rd l k) && decide (rd l k < regs) && !decide (rd l k ∈ l.take k) && ofB regs (l.take k ++ [rd l k]) (l.drop (k + 1))) ∧ ofSeen regs [] l = (if decide (0 ≤ rd l k) && decide (rd l k < regs) && !decide (rd l k ∈ l.take k) then ofSeen regs (l.take k ++ [rd l k]) (l.drop (k + 1)) else l.take k) := by rw [HO.out.1, HO.out.2, drop_rd l k hlt]; exact ⟨rfl, rfl⟩
   have hT := Aside0.mk (take_rd l k hlt)
   generalize hrr : rd l (k : Int) = r at *
   clear hrr
   have HOO := Aside0.mk hO
   clear hO HO
   by_cases h0 : r < 0
   ·go_wp2_with (first | ((with_reducible refine gate_load 99 rfl ?_); refine wpList_load_row rfl 99 (.tmp 4) rfl gb rfl 99 _ (0, 0) _ HXr.out hu99 rfl (by rw [bits_size]; exact info99) ?_) | ((with_reducible refine gate_stores 99 rfl ?_); refine wpList_store_row rfl 99 (.tmp 4) (.tmp 26) rfl gb _ rfl rfl 99 _ HXr.out (by rw [bits_size]; exact info99) rfl (bits_one _) ?_))
    refine bodyPost_ret (results_cell_tmp rfl _ _ gb 99 _ (0, 0) _ (.bool false) rfl rfl (setRow_heap _ gb _ _ 99 (0, 0) HXr.out) Try.underlying99 rfl (by rw [bits_size]; exact info99)) rfl ?_
    exact ⟨by rw [HOO.out.1, HOO.out.2]; simp [show ¬ 0 ≤ r by omega], setRow_below _ HBr.out HG.out⟩
   ·by_cases h1 : regs ≤ r
    ·go_wp2_with (first | ((with_reducible refine gate_load 99 rfl ?_); refine wpList_load_row rfl 99 (.tmp 4) rfl gb rfl 99 _ (0, 0) _ HXr.out hu99 rfl (by rw [bits_size]; exact info99) ?_) | ((with_reducible refine gate_stores 99 rfl ?_); refine wpList_store_row rfl 99 (.tmp 4) (.tmp 26) rfl gb _ rfl rfl 99 _ HXr.out (by rw [bits_size]; exact info99) rfl (bits_one _) ?_))
     refine bodyPost_ret (results_cell_tmp rfl _ _ gb 99 _ (0, 0) _ (.bool false) rfl rfl (setRow_heap _ gb _ _ 99 (0, 0) HXr.out) Try.underlying99 rfl (by rw [bits_size]; exact info99)) rfl ?_
     exact ⟨by rw [HOO.out.1, HOO.out.2]; simp [show ¬ r < regs by omega], setRow_below _ HBr.out HG.out⟩
    ·have hget := (blk_cell HXr.out r.toNat).trans (bits_get (l.take k) r (by omega) (by omega))
     have hfz := blk_frozen HXr.out r.toNat
     have h0' : 0 ≤ r := by omega
     have h64 : r < 64 := by omega
     have hi64 : (r < (64 : Int)) = True := eq_true h64
     by_cases h2 : r ∈ l.take k
     ·simp only [h2, decide_true] at hget
      have HM := Aside0.mk h2
      clear h2
      go_wp2_with (first | ((with_reducible refine gate_load 99 rfl ?_); refine wpList_load_row rfl 99 (.tmp 4) rfl gb rfl 99 _ (0, 0) _ HXr.out hu99 rfl (by rw [bits_size]; exact info99) ?_) | ((with_reducible refine gate_stores 99 rfl ?_); refine wpList_store_row rfl 99 (.tmp 4) (.tmp 26) rfl gb _ rfl rfl 99 _ HXr.out (by rw [bits_size]; exact info99) rfl (bits_one _) ?_))
      refine bodyPost_ret (results_cell_tmp rfl _ _ gb 99 _ (0, 0) _ (.bool false) rfl rfl (setRow_heap _ gb _ _ 99 (0, 0) HXr.out) Try.underlying99 rfl (by rw [bits_size]; exact info99)) rfl ?_
      exact ⟨by rw [HOO.out.1, HOO.out.2]; simp [HM.out], setRow_below _ HBr.out HG.out⟩
     ·simp only [h2, decide_false] at hget
      have HM := Aside0.mk h2
      clear h2
      go_wp2_with (first | ((with_reducible refine gate_load 99 rfl ?_); refine wpList_load_row rfl 99 (.tmp 4) rfl gb rfl 99 _ (0, 0) _ HXr.out hu99 rfl (by rw [bits_size]; exact info99) ?_) | ((with_reducible refine gate_stores 99 rfl ?_); refine wpList_store_row rfl 99 (.tmp 4) (.tmp 26) rfl gb _ rfl rfl 99 _ HXr.out (by rw [bits_size]; exact info99) rfl (bits_one _) ?_))
      go_roundw
      case rel => exact ⟨k + 1, by omega, by go_num, ⟨by rw [hT.out, ← bits_set _ r h0' h64]; exact blk_set HXr.out _ _⟩, ⟨below_set HBr.out HG.out⟩, ⟨by rw [HOO.out.1, hT.out]; simp [HM.out, h0', show r < regs by omega], by rw [HOO.out.2, hT.out]; simp [HM.out, h0', show r < regs by omega]⟩⟩
      case measure => simp [intOf]; omega
  ·obtain rfl : k = l.length := by omega
   have hE : ofB regs [] l = true := by rw [HO.out.1]; simp [ofB]
   have HN := Aside0.mk (ofSeen_all regs l [] hE)
   have HE := Aside0.mk hE
   clear hE HO
   rw [List.take_length] at HXr
   go_wp2_with (first | ((with_reducible refine gate_load 99 rfl ?_); refine wpList_load_row rfl 99 (.tmp 4) rfl gb rfl 99 _ (0, 0) _ HXr.out hu99 rfl (by rw [bits_size]; exact info99) ?_) | ((with_reducible refine gate_stores 99 rfl ?_); refine wpList_store_row rfl 99 (.tmp 4) (.tmp 30) rfl gb _ rfl rfl 99 _ HXr.out (by rw [bits_size]; exact info99) rfl (bits_one _) ?_))
   refine bodyPost_ret (results_cell_tmp rfl _ _ gb 99 _ (0, 0) _ (.bool true) rfl rfl (setRow_heap _ gb _ _ 99 (0, 0) HXr.out) Try.underlying99 rfl (by rw [bits_size]; exact info99)) rfl ?_
   exact ⟨by rw [HE.out, HN.out]; rfl, setRow_below _ HBr.out HG.out⟩
end Go.Proofs.Ytdlgkmnloijnbaa.Q
