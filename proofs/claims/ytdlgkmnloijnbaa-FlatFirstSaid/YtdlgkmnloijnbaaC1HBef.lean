/- flat.before: what a fact asks for ahead of events. -/
import Derived.Test.YtdlgkmnloijnbaaC1HBack
import Derived.Test.YtdlgkmnloijnbaaC1HEvents
set_option linter.unusedVariables false
set_option linter.unusedSimpArgs false
namespace Go.Proofs.Ytdlgkmnloijnbaa.Q
open Go.RowKit Go.Shelf Go.Proofs.YtdlgkmnloijnbaaW.PrintWords Go.Proofs.YtdlgkmnloijnbaaW.PrintLast Go.Proofs.YtdlgkmnloijnbaaW.PrintMore
attribute [local go_sem] Oper.semAt_some

/-- A step that holds of a plain frame holds in a round, where the operation is no defer statement. -/
theorem wide_oper (l n : Nat) {P : Program} {o : Oper} {a : Act} {w : World} {K : Act → World → Prop} {Q : Exit → Act → World → Prop} (ho : ∀ c, o.op ≠ .defer c) (h : o.wp P a w K Q) : o.wpIn (Fence.wide.inRound l) n P a w K Q := by
 unfold Oper.wp at h
 refine ⟨fun _ _ => trivial, ?_⟩
 rw [Oper.semAt_eq _ _ _ ho]
 generalize (execOp a.eval o).run P w = r at h ⊢
 cases r with
 | ok x w' =>
  cases x with
  | value v => exact h
  | skip => exact h
  | defer d => exact h
  | enter f args => exact ⟨fun hd => absurd hd (by simp [Fence.wide]), CallsIn.inRound l (callsIn_wide.2 h)⟩
  | row r args => exact ⟨fun hd => absurd hd (by simp [Fence.wide]), fun c cs _ => let ⟨v, w2, r1, s⟩ := h c cs; ⟨v, w2, r1, stepsIn_wide.2 s⟩⟩
  | _ => exact h.elim
 | halt x w' =>
  cases x with
  | panic v => exact h
  | _ => exact h.elim
theorem wide_list (l n : Nat) {P : Program} {ops : Array Oper} {Q : Exit → Act → World → Prop} (hL : ¬ LetsOut Q) : ∀ (rest : List Oper) (a : Act) (w : World), (∀ o ∈ rest, ∀ c, o.op ≠ .defer c) → wpList P ops Q rest a w → wpListIn (Fence.wide.inRound l) n P ops Q rest a w
 | [], _, _, _, h => h
 | o :: rest, a, w, ho, h => by
  unfold wpListIn
  unfold wpList at h
  by_cases hw : Region.wanted o (yielded ops a.tmps) = true
  ·rw [if_pos hw] at h ⊢
   refine wide_oper l n (ho o (by simp)) ?_
   exact Oper.wp_mono (fun a w q => wide_list l n hL rest a w (fun o' h' => ho o' (by simp [h'])) q) (h.resolve_right (fun x => hL x.2))
  ·rw [if_neg hw] at h ⊢
   exact ⟨fun _ _ => trivial, wide_list l n hL rest _ w (fun o' h' => ho o' (by simp [h'])) h⟩

/-- What lies in `before`'s own boxes. -/
structure BfSt (mc : Array Value) (sv : Value) (g3 g5 g6 g7 gB : Nat) (fc : Array Value) (W : World) : Prop where
 hm : W.heap[g3]? = some (.cells mc 24 (0, 0))
 hx : W.heap[g5]? = some (.cells fc 35 (0, 0))
 ho : W.heap[g6]? = some (.cells #[.int .i64 0] 42 (0, 0))
 hy : W.heap[g7]? = some (.cells #[.int .i64 0, .bool false, .int .i64 0] 35 (0, 0))
 hb : W.heap[gB]? = some (.cells #[sv] 60 (0, 0))
theorem BfSt.below {mc : Array Value} {sv : Value} {g3 g5 g6 g7 gB : Nat} {fc : Array Value} {W W' : World} (h : BfSt mc sv g3 g5 g6 g7 gB fc W) (hb : Below W.heap.size W W') : BfSt mc sv g3 g5 g6 g7 gB fc W' :=
 ⟨blk_below h.hm hb, blk_below h.hx hb, blk_below h.ho hb, blk_below h.hy hb, blk_below h.hb hb⟩
theorem blk_kept {W W' : World} {row : Option Nat} {g : Nat} {o : Obj} (h : W.heap[g]? = some o) (hc : o.isCells = true) (hg : W.grownBy W' row) (hr : ∀ r, row = some r → ∃ o : Obj, W.heap[r]? = some o ∧ o.isCells = false) : W'.heap[g]? = some o := (grownBy_keeps_cells hg hr h hc).trans h
theorem BfSt.kept {mc : Array Value} {sv : Value} {g3 g5 g6 g7 gB : Nat} {fc : Array Value} {W W' : World} {row : Option Nat} (h : BfSt mc sv g3 g5 g6 g7 gB fc W) (hg : W.grownBy W' row) (hr : ∀ r, row = some r → ∃ o : Obj, W.heap[r]? = some o ∧ o.isCells = false) : BfSt mc sv g3 g5 g6 g7 gB fc W' :=
 ⟨blk_kept h.hm rfl hg hr, blk_kept h.hx rfl hg hr, blk_kept h.ho rfl hg hr, blk_kept h.hy rfl hg hr, blk_kept h.hb rfl hg hr⟩
theorem BfSt.setFact {mc : Array Value} {sv : Value} {g3 g5 g6 g7 gB : Nat} {fc : Array Value} {W : World} (h : BfSt mc sv g3 g5 g6 g7 gB fc W) (h57 : g5 ≠ g7) (fc' : Array Value) : BfSt mc sv g3 g5 g6 g7 gB fc' (W.setRow g5 fc') :=
 ⟨(setRow_other W g5 g3 fc' (blk_ne h.hm h.hx (by decide))).trans h.hm, setRow_heap W g5 _ fc' 35 (0, 0) h.hx, (setRow_other W g5 g6 fc' (blk_ne h.ho h.hx (by decide))).trans h.ho, (setRow_other W g5 g7 fc' (Ne.symm h57)).trans h.hy, (setRow_other W g5 gB fc' (blk_ne h.hb h.hx (by decide))).trans h.hb⟩
theorem BfSt.setNew {mc : Array Value} {sv : Value} {g3 g5 g6 g7 gB : Nat} {fc : Array Value} {W : World} (h : BfSt mc sv g3 g5 g6 g7 gB fc W) {g : Nat} (S : Array Value) (h3 : g ≠ g3) (h5 : g ≠ g5) (h6 : g ≠ g6) (h7 : g ≠ g7) (hB : g ≠ gB) : BfSt mc sv g3 g5 g6 g7 gB fc (W.setRow g S) :=
 ⟨(setRow_other W g g3 S h3.symm).trans h.hm, (setRow_other W g g5 S h5.symm).trans h.hx, (setRow_other W g g6 S h6.symm).trans h.ho, (setRow_other W g g7 S h7.symm).trans h.hy, (setRow_other W g gB S hB.symm).trans h.hb⟩
theorem keepsFrom_below {B : Nat} {W W' : World} (h : Below W.heap.size W W') : KeepsFrom B W W' := ⟨h.size, fun k o _ hk _ => blk_below hk h⟩
theorem keepsFrom_setRow {B : Nat} {W W' : World} {g t : Nat} {cs : Array Value} (S : Array Value) (h : KeepsFrom B W W') (hg : W.heap[g]? = some (.cells cs t (0, 0))) : KeepsFrom B W (W'.setRow g S) :=
 ⟨by rw [setRow_size]; exact h.size, fun k o hB hk ho => (setRow_other W' g k S (by rintro rfl; rw [hg] at hk; cases hk; cases ho)).trans (h.same k o hB hk ho)⟩
theorem below_setRow {n₀ : Nat} {W W' : World} {g : Nat} (S : Array Value) (h : Below n₀ W W') (hg : n₀ ≤ g) : Below n₀ W (W'.setRow g S) :=
 ⟨h.os, h.tape, h.output, by simpa using h.size, fun b hb => by rw [← h.block b hb]; exact setRow_other _ _ _ _ (by omega)⟩
theorem results_c1c {P : Program} {fn : Func} {p p' : Tmp} {ty ty' : TypeId} (h : fn.results = #[.cell p ty, .cell p' ty']) (tmps : Array Value) (w : World) (g g' : Nat) (t t' : TypeId) (v : Value) (cs' : Array Value) (fr fr' : Nat × Nat) (d d' : TypeDesc)
  (hp : tmps.getD p undef = .pointer (some ⟨g, 0, none⟩)) (hg : w.heap[g]? = some (.cells #[v] t fr))
  (hu : P.underlying ty = some d) (hd : (match d with | .struct _ | .array _ _ => true | _ => false) = false)
  (hp' : tmps.getD p' undef = .pointer (some ⟨g', 0, none⟩)) (hg' : w.heap[g']? = some (.cells cs' t' fr'))
  (hu' : P.underlying ty' = some d') (hd' : (match d' with | .struct _ | .array _ _ => true | _ => false) = true) (hi' : (P.info? ty').map (·.size) = some cs'.size) :
  (results fn tmps).run P w = .ok (.tuple #[v, .agg cs']) w := by
 have h1 : tmps[p]?.getD undef = .pointer (some ⟨g, 0, none⟩) := by simpa using hp
 have h2 : tmps[p']?.getD undef = .pointer (some ⟨g', 0, none⟩) := by simpa using hp'
 have hl : w.cell? ⟨g, 0, none⟩ = some v := cell_of_row w g 0 #[v] t fr hg
 have ha : (isAgg ty).run P w = .ok false w := by
  simp only [isAgg]
  cases d <;> first | (simp at hd; done) | simp [run_underlying hu]
 have hq : (load ⟨g, 0, none⟩).run P w = .ok v w := by
  go_simp
 have hv1 : (loadVar ty ⟨g, 0, none⟩).run P w = .ok v w := by simp [loadVar, ha, hq, hl]
 have hv2 := run_loadVar_row w g' t' ty' cs' fr' d' hg' hu' hd' hi'
 simp [results, h, h1, h2, asAddr, hv1, hv2]
theorem below_drew1' {n₀ : Nat} {W W' : World} (h : Below n₀ W W') : Below n₀ W W'.drew := ⟨h.os, h.tape, h.output, h.size, h.block⟩
def bf7_T : Bool × List (List Nat × List Nat) := (true, [([], []), ([], []), ([0, 1, 0, 1], [0])])
def bf7_B : List Nat := [0, 0, 3]
theorem bf7_tab : rtab .any (opsOf Try.f22 7) = bf7_T := by kernel_rfl
theorem bf7_bits : waitsOk bf7_T.2 bf7_B = true := by kernel_rfl
theorem info42s : (Try.prog.info? 42).map (·.size) = some 1 := by kernel_rfl

abbrev BEv (k : Nat) (m : S24) (w0 : World) := Int × { p : Value × Ev // evV w0 p.2 p.1 ∧ ∀ x s n, (aheadE k m p.2 x s n).isSome = true }
theorem before_rows (k : Nat) (m : S24) (evs : List Ev) (b off : Nat) (w0 w : World) (hE : Kd.C (kEv w0) w (some ⟨b, off, none⟩) evs.length evs) (hok : ∀ e ∈ evs, ∀ x s n, (aheadE k m e x s n).isSome = true) :
  ∃ zs : Nat → BEv k m w0, ∀ j, j < evs.length → (zs j).1 = (evs.length : Int) - 1 - j ∧ w.cell? ⟨b, off + (evs.length - 1 - j), none⟩ = some (zs j).2.1.1 ∧ evs.reverse[j]? = some (zs j).2.1.2 := by
 have hx : ∀ j, ∃ z : BEv k m w0, j < evs.length → z.1 = (evs.length : Int) - 1 - j ∧ w.cell? ⟨b, off + (evs.length - 1 - j), none⟩ = some z.2.1.1 ∧ evs.reverse[j]? = some z.2.1.2 := by
  intro j
  by_cases hj : j < evs.length
  ·obtain ⟨ad, e, hc⟩ := hE.2.2 (by omega)
   injection e with e
   subst e
   have hlt : evs.length - 1 - j < evs.length := by omega
   obtain ⟨c, _, ⟨v, rfl, hv⟩, hcell⟩ := hc (evs.length - 1 - j) evs[evs.length - 1 - j] (List.getElem?_eq_getElem hlt)
   have h0 := hcell 0 v rfl
   have hadd : (⟨b, off, none⟩ : Addr).add ((evs.length - 1 - j) * (kEv w0).sz + 0) = ⟨b, off + (evs.length - 1 - j), none⟩ := by
    show (⟨b, off, none⟩ : Addr).add ((evs.length - 1 - j) * 1 + 0) = _
    unfold Addr.add
    by_cases he : evs.length - 1 - j = 0
    ·simp [he]
    ·simp [he]
   rw [hadd] at h0
   refine ⟨((evs.length : Int) - 1 - j, ⟨(v, evs[evs.length - 1 - j]), hv, hok _ (List.getElem_mem hlt)⟩), fun _ => ⟨rfl, h0, ?_⟩⟩
   rw [List.getElem?_reverse hj, List.getElem?_eq_getElem hlt]
  ·exact ⟨(0, ⟨(.iface 88 (.agg #[]), .fin), rfl, fun _ _ _ => rfl⟩), fun h => absurd h hj⟩
 exact ⟨fun j => Classical.choose (hx j), fun j => Classical.choose_spec (hx j)⟩
set_option maxHeartbeats 3200000 in
set_option maxRecDepth 100000 in
theorem before_calls (k : Nat) (m : S24) (A1 : Option Addr) (c1 : Nat) (A3 : Option Addr) (c3 : Nat) (evs : List Ev) (b off c : Nat) (x0 : Int) (s0 : Bool) (n0 : Int) (r y : Int) (t : Bool) (q : Int) (w0 w : World) (hB : Below w0.heap.size w0 w) (hb : b < w.heap.size)
  (hC1 : Kd.C (Kd.int .i64) w A1 m.f1.length m.f1) (hl1 : m.f1.length ≤ c1) (hC3 : Kd.C (Kd.int .i64) w A3 m.f3.length m.f3) (hl3 : m.f3.length ≤ c3) (hlen : evs.length ≤ 1000000000)
  (hE : Kd.C (kEv w0) w (some ⟨b, off, none⟩) evs.length evs) (hok : ∀ e ∈ evs, ∀ x s n, (aheadE k m e x s n).isSome = true) (h : beforeE k m evs.reverse x0 s0 n0 = some (r, y, t, q)) :
  Calls Try.prog 22 #[.agg #[.int .i64 m.f0, .slice A1 m.f1.length c1, .int .i64 m.f2, .slice A3 m.f3.length c3], .slice (some ⟨b, off, none⟩) evs.length c, .agg #[.int .i64 x0, .bool s0, .int .i64 n0]] w fun e w' => e = .returned (.tuple #[.int .i64 r, .agg #[.int .i64 y, .bool t, .int .i64 q]]) ∧ Below w.heap.size w w' := by
 obtain ⟨zs, hzs⟩ := before_rows k m evs b off w0 w hE hok
 have HZ := Aside0.mk hzs
 have HC1 := Aside0.mk (And.intro hC1 hl1)
 have HC3 := Aside0.mk (And.intro hC3 hl3)
 have HB0 := Aside0.mk hB
 have HLb := Aside0.mk hb
 have HLN := Aside0.mk hlen
 have HH := Aside0.mk h
 clear hzs hC1 hC3 hl1 hl3 hB hb hlen hE hok h
 refine (callsIn_wide (n := 3)).1 ?_
 refine callsIn_of_wp_marks Try.func22 rfl trivial ?_ rfl
 simp only [Try.ntmps22, List.size_toArray, List.length_cons, List.length_nil, Nat.reduceAdd, Nat.reduceSub, Array.replicate_succ, Array.replicate_zero, List.push_toArray, List.append_toArray, List.nil_append, List.cons_append]
 refine wpIn_wide.2 ?_
 go_wp2_with (first
  | ((with_reducible refine gate_dst (N := 3) rfl ?_); refine box_event ?hg (N := 3) ?hd (cs := #[.int .i64 m.f0, .slice A1 m.f1.length c1, .int .i64 m.f2, .slice A3 m.f3.length c3]) (t := 24) ?hr ?_; (case hd => rfl); (case hg => rfl); (case hr => first | (go_simp; done) | (go_simp; rfl)); intro g3 hg w3 hbox hb; have HB3 := Aside0.mk hb; have X33 := Aside0.mk hbox; have G3 := Aside0.mk (Nat.le_of_eq hg.symm); clear hb hbox hg)
  | ((with_reducible refine gate_dst (N := 5) rfl ?_); refine box_event ?hg (N := 5) ?hd (cs := #[.int .i64 x0, .bool s0, .int .i64 n0]) (t := 35) ?hr ?_; (case hd => rfl); (case hg => rfl); (case hr => first | (go_simp; done) | (go_simp; rfl)); intro g5 hg w5 hbox hb; have HB5 := Aside0.mk (below_step HB3.out hb); have X35 := Aside0.mk (blk_below X33.out hb); have X55 := Aside0.mk hbox; have G5 : Aside0 (w.heap.size ≤ g5) := ⟨by have := HB3.out.size; omega⟩; clear hb hbox hg HB3 X33)
  | ((with_reducible refine gate_dst (N := 6) rfl ?_); refine box_event ?hg (N := 6) ?hd (cs := #[.int .i64 0]) (t := 42) ?hr ?_; (case hd => rfl); (case hg => rfl); (case hr => first | (go_simp; done) | (go_simp; rfl)); intro g6 hg w6 hbox hb; have HB6 := Aside0.mk (below_step HB5.out hb); have X36 := Aside0.mk (blk_below X35.out hb); have X56 := Aside0.mk (blk_below X55.out hb); have X66 := Aside0.mk hbox; have G6 : Aside0 (w.heap.size ≤ g6) := ⟨by have := HB5.out.size; omega⟩; clear hb hbox hg HB5 X35 X55)
  | ((with_reducible refine gate_dst (N := 7) rfl ?_); refine box_event ?hg (N := 7) ?hd (cs := #[.int .i64 0, .bool false, .int .i64 0]) (t := 35) ?hr ?_; (case hd => rfl); (case hg => rfl); (case hr => first | (go_simp; done) | (go_simp; rfl)); intro g7 hg w7 hbox hb; have HB7 := Aside0.mk (below_step HB6.out hb); have X37 := Aside0.mk (blk_below X36.out hb); have X57 := Aside0.mk (blk_below X56.out hb); have X67 := Aside0.mk (blk_below X66.out hb); have X77 := Aside0.mk hbox; have G7 : Aside0 (w.heap.size ≤ g7 ∧ g5 ≠ g7) := ⟨by have := HB6.out.size; have := blk_lt X56.out; omega⟩; clear hb hbox hg HB6 X36 X56 X66)
  | (go_at_call 46; refine (backward_calls _ _ _ _).mono ?_; rintro e wB ⟨gB, rfl, hgB, hXB, hbB⟩; have HB8 := Aside0.mk (below_step HB7.out hbB); have HS : Aside0 (BfSt #[.int .i64 m.f0, .slice A1 m.f1.length c1, .int .i64 m.f2, .slice A3 m.f3.length c3] (.slice (some ⟨b, off, none⟩) evs.length c) g3 g5 g6 g7 gB #[.int .i64 x0, .bool s0, .int .i64 n0] wB) := ⟨⟨blk_below X37.out hbB, blk_below X57.out hbB, blk_below X67.out hbB, blk_below X77.out hbB, hXB⟩⟩; clear hgB hXB hbB HB7 X37 X57 X67 X77))
 have hrev : Aside0 (∀ rest : List (BEv k m w0), (([] : List (BEv k m w0)) ++ rest).map (fun z => z.2.1.2) = evs.reverse → beforeE k m (rest.map fun z => z.2.1.2) x0 s0 n0 = some (r, y, t, q)) := ⟨fun rest e => by rw [List.nil_append] at e; rw [e]; exact HH.out⟩
 have HS1 := HS.out
 have hall : Aside0 ((upto zs evs.length).map (fun z => z.2.1.2) = evs.reverse) := ⟨by
  apply List.ext_getElem?
  intro i
  simp only [upto, List.map_map, List.getElem?_map]
  by_cases hi : i < evs.length
  ·rw [List.getElem?_range hi, (HZ.out i hi).2.2]; rfl
  ·rw [List.getElem?_eq_none (by simp; omega), List.getElem?_eq_none (by simp; omega)]; rfl⟩
 rename_i Q7 K7 hK7
 refine (wpIn_wide (n := 3)).1 ?_
 refine wpIn_rangeFunc_ownG rfl (by omega) (gf := 63) (lb := #[.pointer (some ⟨gB, 0, none⟩)]) rfl trivial (enters_of Try.func63 (by kernel_rfl) rfl)
  (back_stops (α := BEv k m w0) (fun z => z.1) (fun z => z.2.1.1) Fence.wide 2 trivial rfl (by omega) gB w.heap.size b off evs.length c zs (fun j hj => (HZ.out j hj).1) HLN.out HLb.out wB (blk_lt HS1.hb) HB8.out.size ((blk_cell HS1.hb 0).trans rfl) (fun j hj => (HB8.out.cell (p := ⟨b, off + (evs.length - 1 - j), none⟩) HLb.out).trans (HZ.out j hj).2.1)) kpb_t (kpb_b HB8.out.size (blk_lt HS1.hb)) (Below.refl _ _) (fun _ => rfl)
  (fun pre W => (∃ x s n, BfSt #[.int .i64 m.f0, .slice A1 m.f1.length c1, .int .i64 m.f2, .slice A3 m.f3.length c3] (.slice (some ⟨b, off, none⟩) evs.length c) g3 g5 g6 g7 gB #[.int .i64 x, .bool s, .int .i64 n] W ∧ ∀ rest : List (BEv k m w0), (pre ++ rest).map (fun z => z.2.1.2) = evs.reverse → beforeE k m (rest.map fun z => z.2.1.2) x s n = some (r, y, t, q)) ∧ Below w.heap.size w W)
  (fun co pre W => (co = .ret ∧ ∃ r1, W.heap[g6]? = some (.cells #[.int .i64 r1] 42 (0, 0)) ∧ W.heap[g7]? = some (.cells #[.int .i64 0, .bool false, .int .i64 0] 35 (0, 0)) ∧ ∀ rest : List (BEv k m w0), (pre ++ rest).map (fun z => z.2.1.2) = evs.reverse → (r1, (0 : Int), false, (0 : Int)) = (r, y, t, q)) ∧ Below w.heap.size w W)
  (OwnFrom.and (Own.from (fun s A B row hs hg hr => by obtain ⟨x, s1, n, h1, h2⟩ := hs; exact ⟨x, s1, n, h1.kept hg hr, h2⟩) _) (ownFrom_below (Nat.le_refl _) HB8.out.size))
  (fun co => OwnFrom.and (Own.from (fun s A B row hs hg hr => by obtain ⟨h0, r1, h1, h2, h3⟩ := hs; exact ⟨h0, r1, blk_kept h1 rfl hg hr, blk_kept h2 rfl hg hr, h3⟩) _) (ownFrom_below (Nat.le_refl _) HB8.out.size))
  ⟨⟨x0, s0, n0, HS1, hrev.out⟩, HB8.out⟩
  (fun z => { tmps := #[.agg #[.int .i64 m.f0, .slice A1 m.f1.length c1, .int .i64 m.f2, .slice A3 m.f3.length c3], .slice (some ⟨b, off, none⟩) evs.length c, .agg #[.int .i64 x0, .bool s0, .int .i64 n0], .pointer (some ⟨g3, 0, none⟩), undef, .pointer (some ⟨g5, 0, none⟩), .pointer (some ⟨g6, 0, none⟩), .pointer (some ⟨g7, 0, none⟩), undef, z.2.1.1, undef, undef, .slice (some ⟨b, off, none⟩) evs.length c, .func (.func 63) #[] #[.pointer (some ⟨gB, 0, none⟩)], .int .i64 z.1, z.2.1.1, undef, undef, undef, undef, undef, undef, undef, undef, undef, undef, undef, undef, undef], defers := [] }) ?assign ?body ?done ?stop
 case assign =>
  intro l z W K hK
  gi_wp2
  exact hK
 case body =>
  rintro l pre z W ⟨⟨x, s, n, HS2, HR2⟩, HB2⟩ _
  obtain ⟨⟨r1, y1, t1, q1⟩, ha⟩ := Option.isSome_iff_exists.1 (z.2.2.2 x s n)
  have hze := z.2.2.1
  have HZE := Aside0.mk hze
  have HA := Aside0.mk ha
  have HR := Aside0.mk HR2
  have HT := Aside0.mk HS2
  have HD := Aside0.mk HB2
  have q30 := (blk_cell HT.out.hm 0).trans rfl
  have q31 := (blk_cell HT.out.hm 1).trans rfl
  have q32 := (blk_cell HT.out.hm 2).trans rfl
  have q33 := (blk_cell HT.out.hm 3).trans rfl
  have q50 := (blk_cell HT.out.hx 0).trans rfl
  have q51 := (blk_cell HT.out.hx 1).trans rfl
  have q52 := (blk_cell HT.out.hx 2).trans rfl
  clear hze ha HR2 HS2 HB2
  refine wpIn_block ?_
  refine wpIn_seq ?_
  refine wpIn_region_lit (wide_list l _ (by rintro ⟨_, _, h⟩; exact h) _ _ _ (by simp) ?_)
  go_wp2_with (first
   | (go_at_call 47; refine (ahead_calls k m A1 c1 A3 c3 z.2.1.2 z.2.1.1 x s n r1 y1 t1 q1 w0 W (below_step HB0.out HD.out) HZE.out (Kd.C_below HC1.out.1 HD.out) HC1.out.2 (Kd.C_below HC3.out.1 HD.out) HC3.out.2 HA.out).mono ?_; rintro e W1 ⟨rfl, hb1⟩; have HT1 := Aside0.mk (HT.out.below hb1); have HK1 := Aside0.mk hb1; clear hb1 q30 q31 q32 q33 q50 q51 q52)
   | ((with_reducible refine gate_dst (N := 11) rfl ?_); refine box_event ?hg (N := 11) ?hd (cs := #[.int .i64 0, .bool false, .int .i64 0]) (t := 35) ?hr ?_; (case hd => rfl); (case hg => rfl); (case hr => first | (go_simp; done) | (go_simp; rfl)); intro g11 hg W2 hbox hb; have HK2 := Aside0.mk (below_step HK1.out hb); have HT2 := Aside0.mk (HT1.out.below hb); have X11 := Aside0.mk hbox; have G11 : Aside0 (g11 = W1.heap.size) := ⟨hg⟩; clear hb hbox hg)
   | ((with_reducible refine gate_stores (x := .tmp 11) (y := .tmp 22) 35 rfl ?_); refine wpList_store_row rfl 35 (.tmp 11) (.tmp 22) rfl g11 #[.int .i64 y1, .bool t1, .int .i64 q1] rfl rfl 35 _ X11.out info35s rfl (by simp [Value.oneCell']) ?_))
  have HT3 : Aside0 (BfSt #[.int .i64 m.f0, .slice A1 m.f1.length c1, .int .i64 m.f2, .slice A3 m.f3.length c3] (.slice (some ⟨b, off, none⟩) evs.length c) g3 g5 g6 g7 gB #[.int .i64 x, .bool s, .int .i64 n] (W2.setRow g11 #[.int .i64 y1, .bool t1, .int .i64 q1])) := ⟨HT2.out.setNew _ (by have := blk_lt HT1.out.hm; have := G11.out; omega) (by have := blk_lt HT1.out.hx; have := G11.out; omega) (by have := blk_lt HT1.out.ho; have := G11.out; omega) (by have := blk_lt HT1.out.hy; have := G11.out; omega) (by have := blk_lt HT1.out.hb; have := G11.out; omega)⟩
  have HG11 : Aside0 (W.heap.size ≤ g11 ∧ w.heap.size ≤ g11) := ⟨by have := HK1.out.size; have := HD.out.size; have := G11.out; omega⟩
  have HK3 : Aside0 (Below W.heap.size W (W2.setRow g11 #[.int .i64 y1, .bool t1, .int .i64 q1])) := ⟨below_setRow _ HK2.out HG11.out.1⟩
  have X113 := Aside0.mk (setRow_heap W2 g11 _ #[.int .i64 y1, .bool t1, .int .i64 q1] 35 (0, 0) X11.out)
  clear HT1 HT2 HK1 HK2 X11 G11
  generalize W2.setRow g11 #[.int .i64 y1, .bool t1, .int .i64 q1] = W3 at HT3 HK3 X113 ⊢
  by_cases hr3 : r1 = 3
  ·obtain rfl := hr3
   have c110 := (blk_cell X113.out 0).trans rfl
   have c111 := (blk_cell X113.out 1).trans rfl
   have c112 := (blk_cell X113.out 2).trans rfl
   refine wpIn_seq ?_
   refine wpIn_seq ?_
   refine wpIn_region_lit (wide_list l _ (by rintro ⟨_, _, h⟩; exact h) _ _ _ (by simp) ?_)
   go_wp2_with fail
   refine wpIn_cond_false rfl ?_
   refine wpIn_skip ?_
   refine wpIn_region_lit (wide_list l _ (by rintro ⟨_, _, h⟩; exact h) _ _ _ (by simp) ?_)
   go_wp2_with (first
    | ((with_reducible refine gate_stores (x := .tmp 5) (y := .tmp 27) 35 rfl ?_); refine wpList_store_row rfl 35 (.tmp 5) (.tmp 27) rfl g5 #[.int .i64 y1, .bool t1, .int .i64 q1] rfl rfl 35 _ HT3.out.hx info35s rfl (by simp [Value.oneCell']) ?_))
   refine ⟨keepsFrom_setRow _ (keepsFrom_below HK3.out) HT.out.hx, ⟨below_setRow _ ((HK3.out.mono HD.out.size)) G5.out, ?_⟩, ⟨y1, t1, q1, HT3.out.setFact G7.out.2 _, fun rest e => ?_⟩, ?_⟩
   ·exact ((blk_cell (HT3.out.setFact G7.out.2 _).hb 0).trans (blk_cell HT.out.hb 0).symm)
   ·have h2 := HR.out (z :: rest) (by simpa using e)
    rw [List.map_cons, beforeE, HA.out] at h2
    simpa using h2
   ·exact HD.out.trans (below_setRow _ (HK3.out.mono HD.out.size) G5.out)
  ·have HN3 : Aside0 ((r1 != 3) = true) := ⟨by simpa using hr3⟩
   have HR3 := Aside0.mk hr3
   clear hr3
   refine wpIn_seq ?_
   refine wpIn_seq ?_
   refine wpIn_region_lit (wide_list l _ (by rintro ⟨_, _, h⟩; exact h) _ _ _ (by simp) ?_)
   go_wp2_with fail
   refine wpIn_cond_true (congrArg Value.bool HN3.out) ?_
   refine wpIn_seq ?_
   refine wpIn_region_lit (wide_list l _ (by rintro ⟨_, _, h⟩; exact h) _ _ _ (by simp) ?_)
   go_wp2_with (first
    | ((with_reducible refine gate_stores (x := .tmp 6) (y := .tmp 25) 42 rfl ?_); refine wpList_store_one rfl 42 (.tmp 6) (.tmp 25) rfl g6 (.int .i64 r1) rfl rfl 42 (.int .i64 0) HT3.out.ho info42s rfl rfl ?_)
    | ((with_reducible refine gate_stores (x := .tmp 7) (y := .tmp 26) 35 rfl ?_); refine wpList_store_row rfl 35 (.tmp 7) (.tmp 26) rfl g7 #[.int .i64 0, .bool false, .int .i64 0] rfl rfl 35 _ ((setRow_other W3 g6 g7 _ (blk_ne HT3.out.hy HT3.out.ho (by decide))).trans HT3.out.hy) info35s rfl (by simp [Value.oneCell']) ?_))
   refine wpIn_ret ⟨keepsFrom_setRow _ (keepsFrom_setRow _ (keepsFrom_below HK3.out) HT.out.ho) HT.out.hy, ⟨rfl, r1, ?_, setRow_heap _ g7 _ _ 35 (0, 0) ((setRow_other W3 g6 g7 _ (blk_ne HT3.out.hy HT3.out.ho (by decide))).trans HT3.out.hy), fun rest e => ?_⟩, ?_⟩
   ·exact (setRow_other _ g7 g6 _ (blk_ne HT3.out.ho HT3.out.hy (by decide))).trans (setRow_heap W3 g6 _ _ 42 (0, 0) HT3.out.ho)
   ·have h2 := HR.out (z :: rest) (by simpa using e)
    rw [List.map_cons, beforeE, HA.out, Option.bind_some, if_neg HR3.out] at h2
    exact Option.some.inj h2
   ·exact HD.out.trans (below_setRow _ (below_setRow _ (HK3.out.mono HD.out.size) G6.out) G7.out.1)
 case done =>
  rintro D ys W hD rfl ⟨⟨x, s, n, HS2, HR2⟩, HB2⟩ hK
  refine hK7 _ _ ?_
  refine wp_mono (Q := fun e a w => match e with | .ret => Q7 .ret a w | _ => False) ?_ (fun e a w h => by cases e <;> first | exact h | exact h.elim)
  refine wp_seq ?_
  have HSS : Aside0 (∀ w' : World, w'.heap[g5]? = some (.cells #[.int .i64 x, .bool s, .int .i64 n] 35 (0, 0)) → w'.cell? ⟨g5, 0, none⟩ = some (.int .i64 x) ∧ w'.cell? ⟨g5, 1, none⟩ = some (.bool s) ∧ w'.cell? ⟨g5, 2, none⟩ = some (.int .i64 n)) := ⟨fun w' h => ⟨(blk_cell h 0).trans rfl, (blk_cell h 1).trans rfl, (blk_cell h 2).trans rfl⟩⟩
  have D5 := Aside0.mk (blk_drew HS2.hx)
  have D6 := Aside0.mk (blk_drew HS2.ho)
  have D7 := Aside0.mk (blk_drew HS2.hy)
  have DB := Aside0.mk (below_drew1' HB2)
  have DK := Aside0.mk (blk_drew hK)
  have HF := Aside0.mk (HR2 [] (by rw [List.append_nil]; exact hall.out))
  clear HS2 HB2 hK HR2
  refine start_ (n := 3) (S := fun w' => w'.cell? ⟨g5, 0, none⟩ = some (.int .i64 x) ∧ w'.cell? ⟨g5, 1, none⟩ = some (.bool s) ∧ w'.cell? ⟨g5, 2, none⟩ = some (.int .i64 n)) (ds := [2]) #[false, false, false] (by kernel_rfl) rfl rfl (HSS.out _ D5.out) (fun hHeld => ?_); refine with_tabW bf7_tab bf7_bits (fun HT_ HW_ => ?_)
  generalize W.drew = W1 at D5 D6 D7 DB DK hHeld ⊢
  refine take_ (i := 0) (N := some 28) (v := ?_) (a' := ?_) #[true, false, false] rfl rfl (take_ofW HT_.out HW_.out (by kernel_rfl)) (fun _ _ _ h => h) (Or.inl ⟨by rfl, ?_⟩) hHeld ?_ ?_
  rotate_left
  ·rintro w' ⟨s0, s1, s2⟩
   go_simp
   with_reducible rfl
  rotate_left
  ·simp only [Act.put, lz1, lz2, lz3, i64_w, i32_w]
   rfl
  refine one_ (i := 1) (N := none) #[true, true, false] rfl rfl (one_of HT_.out (by kernel_rfl)) (by decide) (fun K hK => ?_)
  rw [if_pos (by rfl)]
  refine wp_store_one 42 (.tmp 6) (.const (.int .i64 3)) rfl g6 (.int .i64 3) rfl rfl 42 (.int .i64 0) D6.out info42s rfl rfl ?_
  have E5 := Aside0.mk ((setRow_other W1 g6 g5 #[.int .i64 3] (blk_ne D5.out D6.out (by decide))).trans D5.out)
  have E6 := Aside0.mk (setRow_heap W1 g6 _ #[.int .i64 3] 42 (0, 0) D6.out)
  have E7 := Aside0.mk ((setRow_other W1 g6 g7 #[.int .i64 3] (blk_ne D7.out D6.out (by decide))).trans D7.out)
  have EB := Aside0.mk (below_setRow #[.int .i64 3] DB.out G6.out)
  have EK := Aside0.mk ((setRow_other W1 g6 D #[.int .i64 3] (by rintro rfl; have h1 := DK.out; rw [D6.out] at h1; cases h1)).trans DK.out)
  refine hK.out _ _ (HSS.out _ E5.out) (fun hHeld => ?_)
  clear hK K D5 D6 D7 DB DK
  generalize W1.setRow g6 #[.int .i64 3] = W2 at E5 E6 E7 EB EK hHeld ⊢
  refine norm_ (a' := ?_) ?_ ?_
  rotate_left
  ·show Act.put _ (none) _ = _
   simp only [Act.put, lz1, lz2, lz3, i64_w, i32_w]
   rfl
  refine last_ (i := 2) (N := none) #[true, true, true] rfl rfl (one_of HT_.out (by kernel_rfl)) (by decide) (fun K hK => ?_)
  rw [if_pos (by rfl)]
  refine wp_store_row 35 (.tmp 7) (.tmp 28) rfl g7 #[.int .i64 x, .bool s, .int .i64 n] rfl rfl 35 _ E7.out info35s rfl (by simp [Value.oneCell']) ?_
  refine hK.out _ _ ?_
  clear hK K
  refine done_ (done_of HT_.out (by kernel_rfl)) ?_
  have L6 := Aside0.mk ((setRow_other W2 g7 g6 #[.int .i64 x, .bool s, .int .i64 n] (blk_ne E6.out E7.out (by decide))).trans E6.out)
  have L7 := Aside0.mk (setRow_heap W2 g7 _ #[.int .i64 x, .bool s, .int .i64 n] 35 (0, 0) E7.out)
  have LB := Aside0.mk (below_setRow #[.int .i64 x, .bool s, .int .i64 n] EB.out G7.out.1)
  have LK := Aside0.mk ((setRow_other W2 g7 D #[.int .i64 x, .bool s, .int .i64 n] (by rintro rfl; have h1 := EK.out; rw [E7.out] at h1; cases h1)).trans EK.out)
  clear E5 E6 E7 EB EK hHeld HSS
  generalize W2.setRow g7 #[.int .i64 x, .bool s, .int .i64 n] = W3 at L6 L7 LB LK ⊢
  refine wp_ret ?_
  refine ⟨by simp, .inl ⟨_, _, rfl, run_takeDeferred LK.out, ?_⟩⟩
  have hg := grownBy_putObj' W3 D (.deferred none)
  have hrw : ∀ r, some D = some r → ∃ o : Obj, W3.heap[r]? = some o ∧ o.isCells = false := fun r e => by cases e; exact ⟨_, LK.out, rfl⟩
  have h3 := Option.some.inj HF.out
  simp only [Prod.mk.injEq] at h3
  obtain ⟨rfl, rfl, rfl, rfl⟩ := h3
  exact ⟨_, results_c1c rfl _ _ g6 g7 42 35 (.int .i64 3) _ (0, 0) (0, 0) _ _ rfl (blk_kept L6.out rfl hg hrw) Try.underlying42 rfl rfl (blk_kept L7.out rfl hg hrw) Try.underlying35 rfl info35s, rfl, LB.out.trans (belowK_b (w := wB) HB8.out.size W3 D _ _ hD LK.out rfl rfl)⟩
 case stop =>
  rintro D co pre W hD ⟨j, hj, rfl⟩ ⟨⟨rfl, r1, h6, h7, HR2⟩, HB2⟩ hK
  refine wpIn_ret ?_
  have L6 := Aside0.mk h6
  have L7 := Aside0.mk h7
  refine ⟨by simp, .inl ⟨_, _, rfl, run_takeDeferred hK, ?_⟩⟩
  have hg := grownBy_putObj' W D (.deferred none)
  have hrw : ∀ r, some D = some r → ∃ o : Obj, W.heap[r]? = some o ∧ o.isCells = false := fun r e => by cases e; exact ⟨_, hK, rfl⟩
  have h3 := HR2 ((List.range' j (evs.length - j)).map zs) (by rw [← hall.out]; congr 1; simp only [upto, ← List.map_append]; congr 1; rw [List.range_eq_range', List.range_eq_range']; have := List.range'_append (s := 0) (m := j) (n := evs.length - j) (step := 1); simp only [Nat.zero_add, Nat.one_mul] at this; rw [this]; congr 1; omega)
  simp only [Prod.mk.injEq] at h3
  obtain ⟨rfl, rfl, rfl, rfl⟩ := h3
  exact ⟨_, results_c1c rfl _ _ g6 g7 42 35 (.int .i64 r1) _ (0, 0) (0, 0) _ _ rfl (blk_kept h6 rfl hg hrw) Try.underlying42 rfl rfl (blk_kept h7 rfl hg hrw) Try.underlying35 rfl info35s, rfl, HB2.trans (belowK_b (w := wB) HB8.out.size W D _ _ hD hK rfl rfl)⟩
end Go.Proofs.Ytdlgkmnloijnbaa.Q
