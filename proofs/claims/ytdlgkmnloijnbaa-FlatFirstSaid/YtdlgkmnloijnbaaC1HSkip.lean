/- flat.events: the events of a block; first the literal that it skips by. -/
import Derived.Test.YtdlgkmnloijnbaaC1HDoes
import Derived.Test.YtdlgkmnloijnbaaC1Qx8
set_option linter.unusedVariables false
set_option linter.unusedSimpArgs false
namespace Go.Proofs.Ytdlgkmnloijnbaa.Q
open Go.RowKit Go.Proofs.YtdlgkmnloijnbaaW.PrintWords Go.Proofs.YtdlgkmnloijnbaaW.PrintLast Go.Proofs.YtdlgkmnloijnbaaW.PrintMore

inductive Ev where
 | cp (a b : Int)
 | mv (a b : S33)
 | dn (x y : S56) (k : Bool)
 | fin
def evV (w0 : World) : Ev → Value → Prop
 | .cp a b, v => v = .iface 84 (.agg #[.int .i64 a, .int .i64 b])
 | .mv a b, v => v = .iface 82 (.agg #[.bool a.f0, .int .i64 a.f1, .bool b.f0, .int .i64 b.f1])
 | .dn x y k, v => ∃ A c A' c', x.f6.length ≤ c ∧ (Kd.int .i64).C w0 A x.f6.length x.f6 ∧ y.f6.length ≤ c' ∧ (Kd.int .i64).C w0 A' y.f6.length y.f6 ∧ v = .iface 86 (.agg #[.int .i64 x.f0, .int .i64 x.f1, .int .i64 x.f2, .int .i64 x.f3, .int .i64 x.f4, .int .i64 x.f5, .slice A x.f6.length c, .int .i64 x.f7, .int .i64 y.f0, .int .i64 y.f1, .int .i64 y.f2, .int .i64 y.f3, .int .i64 y.f4, .int .i64 y.f5, .slice A' y.f6.length c', .int .i64 y.f7, .bool k])
 | .fin, v => v = .iface 88 (.agg #[])
theorem evV_one {w0 : World} {e : Ev} {v : Value} (h : evV w0 e v) : v.oneCell' = true := by
 cases e with
 | cp a b => rw [show v = _ from h]; rfl
 | mv a b => rw [show v = _ from h]; rfl
 | dn x y k => obtain ⟨_, _, _, _, _, _, _, _, rfl⟩ := h; rfl
 | fin => rw [show v = _ from h]; rfl
/-- Events whose instructions are told in one fixed world. -/
def kEv (w0 : World) : Kd Ev where
 sz := 1
 E := []
 K := fun _ x cs => ∃ v, cs = [v] ∧ evV w0 x v
 M := fun _ _ _ x cs => ∃ v, cs = [v] ∧ evV w0 x v
 K_len := by rintro _ _ _ ⟨v, rfl, _⟩; rfl
 K_one := by rintro _ _ _ ⟨v, rfl, h⟩ u hu; rw [List.mem_singleton.1 hu]; exact evV_one h
 K_below := fun _ h => h
 K_of_M := fun h => h
 M_mono := fun _ h => h
 M_bound := fun h => h
 M_move := fun _ h => h
 M_lower := fun _ h => h

def insEv (k : Nat) (m : S24) (x : S56) : Option Ev :=
 (mir_Reads.f k m.f0 m.f1 m.f2 m.f3 x.f0 x.f1 x.f2 x.f3 x.f4 x.f5 x.f6 x.f7).bind fun r =>
  (mir_Writes.f k m.f0 m.f1 m.f2 m.f3 x.f0 x.f1 x.f2 x.f3 x.f4 x.f5 x.f6 x.f7).bind fun s =>
   if 0 < r.length ∧ 0 < s.length then some (.mv (rd_T33 r 0) (rd_T33 s 0)) else none
def skipL (k : Nat) (m : S24) : List S56 → Option (Nat × List Ev)
 | [] => some (0, [])
 | x :: l => if insB x.f0 = true then (insEv k m x).bind fun e => (skipL k m l).bind fun p => some (p.1 + 1, e :: p.2) else some (0, [])
def eventsL (k : Nat) (m : S24) : List S56 → List S56 → Option (List Ev)
 | [], t => (skipL k m t).bind fun p => some (p.2 ++ [.fin])
 | i :: s, t =>
  if i.f0 = 14 then (eventsL k m s t).bind fun es => some (.cp i.f1 i.f2 :: es)
  else (skipL k m t).bind fun p => match t.drop p.1 with
   | [] => none
   | y :: t' => (eventsL k m s t').bind fun es => some (p.2 ++ .dn i y (i.f0 == 13) :: es)
structure EvSt (m : S24) (A1 : Option Addr) (c1 : Nat) (A3 : Option Addr) (c3 : Nat) (A2 : Option Addr) (n2 c2 : Nat) (b1 b2 b3 b4 : Int) (g3 g5 g6 g7 : Nat) (w0 : World) (q : Nat) (v : Value) (W : World) : Prop where
 hm : W.heap[g3]? = some (.cells #[.int .i64 m.f0, .slice A1 m.f1.length c1, .int .i64 m.f2, .slice A3 m.f3.length c3] 24 (0, 0))
 ht : W.heap[g5]? = some (.cells #[.slice A2 n2 c2, .int .i64 b1, .int .i64 b2, .int .i64 b3, .int .i64 b4] 31 (0, 0))
 ho : W.heap[g6]? = some (.cells #[v] 60 (0, 0))
 ha : W.heap[g7]? = some (.cells #[.int .i64 (q : Int)] 3 (0, 0))
 hb : Below w0.heap.size w0 W
theorem EvSt.below {m : S24} {A1 : Option Addr} {c1 : Nat} {A3 : Option Addr} {c3 : Nat} {A2 : Option Addr} {n2 c2 : Nat} {b1 b2 b3 b4 : Int} {g3 g5 g6 g7 : Nat} {w0 : World} {q : Nat} {v : Value} {W W' : World} (h : EvSt m A1 c1 A3 c3 A2 n2 c2 b1 b2 b3 b4 g3 g5 g6 g7 w0 q v W) (hb : Below W.heap.size W W') : EvSt m A1 c1 A3 c3 A2 n2 c2 b1 b2 b3 b4 g3 g5 g6 g7 w0 q v W' :=
 ⟨blk_below h.hm hb, blk_below h.ht hb, blk_below h.ho hb, blk_below h.ha hb, below_then h.hb h.hb.size hb⟩
theorem run_storeVar_one {P : Program} (w : World) (g : Nat) (t ty : TypeId) (old v : Value) (hg : w.heap[g]? = some (.cells #[old] t (0, 0))) (hi : (P.info? ty).map (·.size) = some 1) (hv : v.cells = #[v]) (h1 : v.oneCell' = true) :
  (storeVar ty ⟨g, 0, none⟩ v).run P w = .ok () (w.setRow g #[v]) := by
 have := run_storeCells_from (P := P) g t [v] 0 #[old] w hg (by simp) (fun x hx => by rw [List.mem_singleton.1 hx]; exact h1)
 cases hq : P.info? ty with
 | none => simp [hq] at hi
 | some i =>
  have hs : i.size = 1 := by simp [hq] at hi; omega
  simp [storeVar, sizeOf, typeInfo, hq, hv, hs]
  simpa using this
theorem wp_store_one {P : Program} {o : Oper} {a : Act} {w : World} {K : Act → World → Prop} {Q : Exit → Act → World → Prop} (ty : TypeId) (x y : Operand) (ho : o.op = .store ty x y)
  (g : Nat) (v : Value) (hx : a.eval x = .pointer (some ⟨g, 0, none⟩)) (hy : a.eval y = v)
  (t : TypeId) (old : Value) (hg : w.heap[g]? = some (.cells #[old] t (0, 0))) (hi : (P.info? ty).map (·.size) = some 1) (hv : v.cells = #[v]) (h1 : v.oneCell' = true)
  (h : K (a.put o.dst undef) (w.setRow g #[v])) : o.wp P a w K Q := by
 unfold Oper.wp execOp
 simp only [ho, hx, hy, Instr.storeAt, Instr.sureAddr, Sem.run_bind, Sem.run_pure, Result.andThen_ok, run_storeVar_one w g t ty old v hg hi hv h1]
 exact h
theorem step_store_one {P : Program} {ops : Array Oper} {o : Oper} {a : Act} {w : World} {K : Act → World → Prop} {Q : Exit → Act → World → Prop} (hw : Region.wanted o (yielded ops a.tmps) = true) (ty : TypeId) (x y : Operand) (ho : o.op = .store ty x y)
  (g : Nat) (v : Value) (hx : a.eval x = .pointer (some ⟨g, 0, none⟩)) (hy : a.eval y = v)
  (t : TypeId) (old : Value) (hg : w.heap[g]? = some (.cells #[old] t (0, 0))) (hi : (P.info? ty).map (·.size) = some 1) (hv : v.cells = #[v]) (h1 : v.oneCell' = true)
  (h : K (a.put o.dst undef) (w.setRow g #[v])) : if Region.wanted o (yielded ops a.tmps) = true then o.wp P a w K Q else K (a.put o.dst undef) w := by
 rw [if_pos hw]; exact wp_store_one ty x y ho g v hx hy t old hg hi hv h1 h
theorem wpList_store_one {P : Program} {ops : Array Oper} {rest : List Oper} {o : Oper} {a : Act} {w : World} {Q : Exit → Act → World → Prop} (hgd : o.guard = none) (ty : TypeId) (x y : Operand) (ho : o.op = .store ty x y)
  (g : Nat) (v : Value) (hx : a.eval x = .pointer (some ⟨g, 0, none⟩)) (hy : a.eval y = v)
  (t : TypeId) (old : Value) (hg : w.heap[g]? = some (.cells #[old] t (0, 0))) (hi : (P.info? ty).map (·.size) = some 1) (hv : v.cells = #[v]) (h1 : v.oneCell' = true)
  (h : wpList P ops Q rest (a.put o.dst undef) (w.setRow g #[v])) : wpList P ops Q (o :: rest) a w :=
 wpList_plain hgd fun _ hK => wp_store_one ty x y ho g v hx hy t old hg hi hv h1 (hK _ _ h)
theorem info60s : (Try.prog.info? 60).map (·.size) = some 1 := by kernel_rfl
theorem info3s : (Try.prog.info? 3).map (·.size) = some 1 := by kernel_rfl
theorem EvSt.setOut {m : S24} {A1 : Option Addr} {c1 : Nat} {A3 : Option Addr} {c3 : Nat} {A2 : Option Addr} {n2 c2 : Nat} {b1 b2 b3 b4 : Int} {g3 g5 g6 g7 : Nat} {w0 : World} {q : Nat} {v : Value} {W : World} (h : EvSt m A1 c1 A3 c3 A2 n2 c2 b1 b2 b3 b4 g3 g5 g6 g7 w0 q v W) (h6 : w0.heap.size ≤ g6) (v' : Value) : EvSt m A1 c1 A3 c3 A2 n2 c2 b1 b2 b3 b4 g3 g5 g6 g7 w0 q v' (W.setRow g6 #[v']) :=
 have n3 := blk_ne h.hm h.ho (by decide)
 have n5 := blk_ne h.ht h.ho (by decide)
 have n7 := blk_ne h.ha h.ho (by decide)
 ⟨(setRow_other W g6 g3 _ n3).trans h.hm, (setRow_other W g6 g5 _ n5).trans h.ht, setRow_heap W g6 _ _ _ _ h.ho, (setRow_other W g6 g7 _ n7).trans h.ha, setRow_below _ h.hb h6⟩
theorem EvSt.setAt {m : S24} {A1 : Option Addr} {c1 : Nat} {A3 : Option Addr} {c3 : Nat} {A2 : Option Addr} {n2 c2 : Nat} {b1 b2 b3 b4 : Int} {g3 g5 g6 g7 : Nat} {w0 : World} {q : Nat} {v : Value} {W : World} (h : EvSt m A1 c1 A3 c3 A2 n2 c2 b1 b2 b3 b4 g3 g5 g6 g7 w0 q v W) (h7 : w0.heap.size ≤ g7) (q' : Nat) : EvSt m A1 c1 A3 c3 A2 n2 c2 b1 b2 b3 b4 g3 g5 g6 g7 w0 q' v (W.setRow g7 #[.int .i64 (q' : Int)]) :=
 have n3 := blk_ne h.hm h.ha (by decide)
 have n5 := blk_ne h.ht h.ha (by decide)
 have n6 := blk_ne h.ho h.ha (by decide)
 ⟨(setRow_other W g7 g3 _ n3).trans h.hm, (setRow_other W g7 g5 _ n5).trans h.ht, (setRow_other W g7 g6 _ n6).trans h.ho, setRow_heap W g7 _ _ _ _ h.ha, setRow_below _ h.hb h7⟩
theorem EvSt.stepAt {m : S24} {A1 : Option Addr} {c1 : Nat} {A3 : Option Addr} {c3 : Nat} {A2 : Option Addr} {n2 c2 : Nat} {b1 b2 b3 b4 : Int} {g3 g5 g6 g7 : Nat} {w0 : World} {q : Nat} {v : Value} {W : World} (h : EvSt m A1 c1 A3 c3 A2 n2 c2 b1 b2 b3 b4 g3 g5 g6 g7 w0 q v W) (h7 : w0.heap.size ≤ g7) : EvSt m A1 c1 A3 c3 A2 n2 c2 b1 b2 b3 b4 g3 g5 g6 g7 w0 (q + 1) v (W.setCell ⟨g7, 0, none⟩ (.int .i64 ((q : Int) + 1))) := by
 rw [setCell_eq_setRow W g7 0 _ 3 (0, 0) _ h.ha]
 have := h.setAt h7 (q + 1)
 simpa using this
theorem R_setRow {w0 : World} {w : World} {base : Nat} {v : Value} {xs : List Ev} (h : (kEv w0).R 20 w base (fun _ => True) v xs) {g t : Nat} {cs : Array Value} (hb : w.heap[g]? = some (.cells cs t (0, 0))) (ht : (20 : TypeId) ≠ t) (S : Array Value) : (kEv w0).R 20 (w.setRow g S) base (fun _ => True) v xs := by
 have hne := Kd.R_ne h hb ht
 obtain ⟨h0, inner, ho, hr⟩ := h
 exact ⟨h0, inner, own_move ho (fun k hk => setRow_other w g k S (fun he => hne (by rw [hk, he]))), hr⟩
def skip_T : Bool × List (List Nat × List Nat) := (true, [([], []), ([], []), ([], []), ([2], [2]), ([], []), ([3, 4], [3, 4]), ([5], [5]), ([1, 6], [1, 6]), ([7], [7]), ([8], [8]), ([], []), ([], []), ([11], [11]), ([], []), ([12, 13], [12, 13]), ([14], [14]), ([10, 15, 7], [10, 15]), ([16], [16]), ([17], [17]), ([9, 18], [9, 18]), ([19], [19]), ([20], [20]), ([0, 21, 16], [0, 21]), ([22, 22, 0, 1, 2, 3, 4, 5, 6, 7, 8, 9, 10, 11, 12, 13, 14, 15, 16, 17, 18, 19, 20, 21, 22], [22])])
def skip_B : List Nat := [0, 0, 0, 4, 0, 28, 60, 126, 254, 510, 0, 0, 2048, 0, 14336, 30720, 64766, 130302, 261374, 524286, 1048574, 2097150, 4194303, 8388607]
theorem skip_tab : rtab .any (opsOf Try.f43 2) = skip_T := by kernel_rfl
theorem skip_bits : waitsOk skip_T.2 skip_B = true := by kernel_rfl
theorem step_load_33 {ops : Array Oper} {oi : Oper} {N : Option Tmp} {a : Act} {w : World} {K : Act → World → Prop} {Q : Exit → Act → World → Prop} (hw : Region.wanted oi (yielded ops a.tmps) = true) (hN : oi.dst = N) (x : Operand) (ho : oi.op = .load 33 x) (ad : Addr) (b : Bool) (n : Int) (hx : a.eval x = .pointer (some ad)) (h0 : w.cell? ad = some (.bool b)) (h1 : w.cell? ⟨ad.block, ad.off + 1, none⟩ = some (.int .i64 n)) (h : K (a.put N (.agg #[.bool b, .int .i64 n])) w) : if Region.wanted oi (yielded ops a.tmps) = true then Oper.wp Try.prog oi a w K Q else K (a.put N undef) w := by
 subst hN
 rw [if_pos hw]
 have hrun : (execOp a.eval oi).run Try.prog w = .ok (.value (.agg #[.bool b, .int .i64 n])) w := by
  unfold execOp
  rw [ho]
  simp only [hx]
  go_simp
 unfold Oper.wp
 rw [hrun]
 exact h
theorem info20 : (Try.prog.info? 20).map (fun i => (i.zero, i.size, i.bytes)) = some (some .nilIface, 1, 16) := by kernel_rfl
set_option maxHeartbeats 3200000 in
set_option maxRecDepth 100000 in
theorem skip_calls (k : Nat) (m : S24) (A1 : Option Addr) (c1 : Nat) (A3 : Option Addr) (c3 : Nat) (T : List S56) (A2 : Option Addr) (c2 : Nat) (b1 b2 b3 b4 : Int) (g3 g5 g6 g7 : Nat) (w0 w : World) (p n : Nat) (v : Value) (evs es : List Ev)
  (hm : w.heap[g3]? = some (.cells #[.int .i64 m.f0, .slice A1 m.f1.length c1, .int .i64 m.f2, .slice A3 m.f3.length c3] 24 (0, 0)))
  (ht : w.heap[g5]? = some (.cells #[.slice A2 T.length c2, .int .i64 b1, .int .i64 b2, .int .i64 b3, .int .i64 b4] 31 (0, 0)))
  (ho : w.heap[g6]? = some (.cells #[v] 60 (0, 0))) (ha : w.heap[g7]? = some (.cells #[.int .i64 (p : Int)] 3 (0, 0)))
  (g6b : w0.heap.size ≤ g6) (g7b : w0.heap.size ≤ g7)
  (hC1 : Kd.C (Kd.int .i64) w0 A1 m.f1.length m.f1) (hl1 : m.f1.length ≤ c1) (hC3 : Kd.C (Kd.int .i64) w0 A3 m.f3.length m.f3) (hl3 : m.f3.length ≤ c3)
  (hC2 : Kd.C k56 w0 A2 T.length T) (hl2 : T.length ≤ c2) (hlT : T.length ≤ 1000000) (hp : p ≤ T.length)
  (hR : (kEv w0).R 20 w w0.heap.size (fun _ => True) v evs) (hB : Below w0.heap.size w0 w) (hes : evs.length + T.length ≤ 3000000)
  (hs : skipL k m (T.drop p) = some (n, es)) :
  Calls Try.prog 43 #[.pointer (some ⟨g7, 0, none⟩), .pointer (some ⟨g5, 0, none⟩), .pointer (some ⟨g6, 0, none⟩), .pointer (some ⟨g3, 0, none⟩)] w fun e w' => e = .returned (.tuple #[]) ∧ ∃ v', 
   w'.heap[g3]? = some (.cells #[.int .i64 m.f0, .slice A1 m.f1.length c1, .int .i64 m.f2, .slice A3 m.f3.length c3] 24 (0, 0)) ∧
   w'.heap[g5]? = some (.cells #[.slice A2 T.length c2, .int .i64 b1, .int .i64 b2, .int .i64 b3, .int .i64 b4] 31 (0, 0)) ∧
   w'.heap[g6]? = some (.cells #[v'] 60 (0, 0)) ∧ w'.heap[g7]? = some (.cells #[.int .i64 ((p + n : Nat) : Int)] 3 (0, 0)) ∧
   (kEv w0).R 20 w' w0.heap.size (fun _ => True) v' (evs ++ es) ∧ Below w0.heap.size w0 w' ∧ p + n ≤ T.length ∧
   (∀ g o q, w.heap[g]? = some (.cells o q (0, 0)) → q ≠ 20 → g ≠ g6 → g ≠ g7 → w'.heap[g]? = some (.cells o q (0, 0))) := by
 have HC1 := Aside0.mk hC1
 have HC3 := Aside0.mk hC3
 have HC2 := Aside0.mk hC2
 have HL := Aside0.mk (And.intro hl1 (And.intro hl3 (And.intro hl2 hlT)))
 have HES := Aside0.mk hes
 have HG := Aside0.mk (And.intro g6b g7b)
 clear hC1 hC3 hC2 hl1 hl3 hl2 hes g6b g7b
 have HM0 := Aside0.mk hm
 have HT0 := Aside0.mk ht
 have HO0 := Aside0.mk ho
 have HA0 := Aside0.mk ha
 have HS0 := Aside0.mk hs
 have HR0 := Aside0.mk hR
 have HB0 := Aside0.mk hB
 clear hm ht ho ha hs hR hB
 go_enter Try.func43, Try.ntmps43
 go_wp2_with fail
 go_loopg [] (T.length + 1) (fun kq wr => ∃ (q nq : Nat) (vq : Value) (evq eq : List Ev), q ≤ T.length ∧ Aside0 (T.length < q + kq ∧ kq ≤ T.length + 1) ∧ Aside0 (wr.heap[g3]? = some (.cells #[.int .i64 m.f0, .slice A1 m.f1.length c1, .int .i64 m.f2, .slice A3 m.f3.length c3] 24 (0, 0))) ∧ Aside0 (wr.heap[g5]? = some (.cells #[.slice A2 T.length c2, .int .i64 b1, .int .i64 b2, .int .i64 b3, .int .i64 b4] 31 (0, 0))) ∧ Aside0 (wr.heap[g6]? = some (.cells #[vq] 60 (0, 0))) ∧ Aside0 (wr.heap[g7]? = some (.cells #[.int .i64 (q : Int)] 3 (0, 0))) ∧ Aside0 ((kEv w0).R 20 wr w0.heap.size (fun _ => True) vq evq) ∧ Aside0 (Below w0.heap.size w0 wr) ∧ Aside0 (evq.length ≤ evs.length + q) ∧ Aside0 (skipL k m (T.drop q) = some (nq, eq)) ∧ Aside0 (q + nq = p + n) ∧ Aside0 (evq ++ eq = evs ++ es) ∧ Aside0 (∀ g o t, w.heap[g]? = some (.cells o t (0, 0)) → t ≠ 20 → g ≠ g6 → g ≠ g7 → wr.heap[g]? = some (.cells o t (0, 0))))
 case atStart => exact ⟨p, n, v, evs, es, hp, ⟨by omega, Nat.le_refl _⟩, HM0, HT0, HO0, HA0, HR0, HB0, ⟨by omega⟩, HS0, ⟨rfl⟩, ⟨rfl⟩, ⟨fun g o t h _ _ _ => h⟩⟩
 case round =>
  clear HM0 HT0 HO0 HA0 HR0 HB0 HS0
  obtain ⟨q, nq, vq, evq, eq, hq, HK, HM, HT, HO, HA, HR, HB, HN, HS, HSum, HApp, HKeep⟩ := hrel
  have c50 := (blk_cell HT.out 0).trans rfl
  have f50 := blk_frozen HT.out 0
  have c70 := (blk_cell HA.out 0).trans rfl
  have f70 := blk_frozen HA.out 0
  cases gk with
  | zero => exfalso; have := HK.out.1; omega
  | succ kq =>
   by_cases hlt : q < T.length
   ·obtain ⟨x, hx⟩ : ∃ x, T[q]? = some x := ⟨_, List.getElem?_eq_getElem hlt⟩
    have hrd := rd_T56_nat T q x hx
    obtain ⟨ad, A6, c6, rfl, h0, h1, h2, h3, h4, h5, h6, h7, hl6, hi6⟩ := at_T56 HC2.out (q : Int) (by omega) (by omega)
    rw [hrd] at h0 h1 h2 h3 h4 h5 h6 h7 hl6 hi6
    simp only [Int.toNat_natCast] at h0 h1 h2 h3 h4 h5 h6 h7
    have HY := Aside0.mk (And.intro h0 (And.intro h1 (And.intro h2 (And.intro h3 (And.intro h4 (And.intro h5 (And.intro h6 h7)))))))
    replace h0 := (HB.out.cell (World.block_lt_of_cell? w0 _ h0)).trans h0
    clear h1 h2 h3 h4 h5 h6 h7
    replace hi6 := Kd.C_below hi6 HB.out
    have HX6 := Aside0.mk (And.intro hl6 hi6)
    have HTQ := Aside0.mk hx
    have hd : T.drop q = x :: T.drop (q + 1) := by
     rw [List.drop_eq_getElem_cons hlt]
     congr 1
     rw [List.getElem?_eq_getElem hlt] at hx
     exact Option.some.inj hx
    have hqi : (q : Int) < (T.length : Int) := by exact_mod_cast hlt
    have hs := HS.out
    rw [hd, skipL] at hs
    clear hrd hx hl6 hi6 hd
    by_cases hins : insB x.f0 = true
    ·rw [if_pos hins] at hs
     obtain ⟨e1, he1, hs⟩ := Option.bind_eq_some_iff.1 hs
     obtain ⟨⟨n1, es1⟩, hs1, hs⟩ := Option.bind_eq_some_iff.1 hs
     have hsp := Option.some.inj hs
     have HI : Aside0 (mir_Inserted.f x.f0 = some true) := ⟨by rw [inserted_f, hins]⟩
     clear hins hs
     go_wp2_with (first | (go_at_call 32; with_reducible refine (mir_Inserted.calls x.f0 true _ HI.out).mono ?_; rintro e w' ⟨rfl, ⟨nd, rfl⟩⟩))
     unfold insEv at he1
     obtain ⟨r1, hr1, he1⟩ := Option.bind_eq_some_iff.1 he1
     obtain ⟨r2, hr2, he1⟩ := Option.bind_eq_some_iff.1 he1
     have hlr : 0 < r1.length ∧ 0 < r2.length := by
      by_cases hlr : 0 < r1.length ∧ 0 < r2.length
      ·exact hlr
      ·rw [if_neg hlr] at he1; exact absurd he1 (by simp)
     rw [if_pos hlr] at he1
     obtain ⟨hlr1, hlr2⟩ := hlr
     have HE := Aside0.mk (Option.some.inj he1)
     have HR1 := Aside0.mk hr1
     have HR2 := Aside0.mk hr2
     have HS1 := Aside0.mk hs1
     have HNQ := Aside0.mk (congrArg Prod.fst hsp)
     have HEQ : Aside0 (e1 :: es1 = eq) := ⟨congrArg Prod.snd hsp⟩
     have hi1 : (0 : Int) < (r1.length : Int) := by omega
     have hi2 : (0 : Int) < (r2.length : Int) := by omega
     have HW := Aside0.mk (EvSt.below (EvSt.mk HM.out HT.out HO.out HA.out HB.out) (W' := wr.drewN nd) (pw_below_drewN (Below.refl _ _) _))
     have HKP : Aside0 (∀ g o t, w.heap[g]? = some (.cells o t (0, 0)) → t ≠ 20 → g ≠ g6 → g ≠ g7 → (wr.drewN nd).heap[g]? = some (.cells o t (0, 0))) := ⟨fun g o t hg ht h6 h7 => blk_drewN (HKeep.out g o t hg ht h6 h7) _⟩
     have HC6 := Aside0.mk (Kd.C_below HX6.out.2 (pw_below_drewN (Below.refl _ _) nd))
     have HL6 := Aside0.mk HX6.out.1
     have HRW := Aside0.mk (Kd.R_drewN HR.out nd)
     clear hr1 hr2 he1 hs1 hsp HM HT HO HA HR HB HKeep HX6 HS
     clear c50 f50 c70 f70 h0
     generalize wr.drewN nd = wb at *
     have hEL : ∀ W, Below wb.heap.size wb W → EvSt m A1 c1 A3 c3 (some ad) T.length c2 b1 b2 b3 b4 g3 g5 g6 g7 w0 q vq W := fun W h => HW.out.below h
     have HEL := Aside0.mk hEL
     have hSS : ∀ w', EvSt m A1 c1 A3 c3 (some ad) T.length c2 b1 b2 b3 b4 g3 g5 g6 g7 w0 q vq w' → w'.cell? ⟨g6, 0, none⟩ = some vq ∧ w'.cell? ⟨g3, 0, none⟩ = some (.int .i64 m.f0) ∧ w'.cell? ⟨g3, 1, none⟩ = some (.slice A1 m.f1.length c1) ∧ w'.cell? ⟨g3, 2, none⟩ = some (.int .i64 m.f2) ∧ w'.cell? ⟨g3, 3, none⟩ = some (.slice A3 m.f3.length c3) ∧ w'.cell? ⟨g5, 0, none⟩ = some (.slice (some ad) T.length c2) ∧ w'.cell? ⟨g7, 0, none⟩ = some (.int .i64 (q : Int)) ∧ w'.cell? (ad.add (q * 8)) = some (.int .i64 x.f0) ∧ w'.cell? ⟨(ad.add (q * 8)).block, (ad.add (q * 8)).off + 1, none⟩ = some (.int .i64 x.f1) ∧ w'.cell? ⟨(ad.add (q * 8)).block, (ad.add (q * 8)).off + 2, none⟩ = some (.int .i64 x.f2) ∧ w'.cell? ⟨(ad.add (q * 8)).block, (ad.add (q * 8)).off + 3, none⟩ = some (.int .i64 x.f3) ∧ w'.cell? ⟨(ad.add (q * 8)).block, (ad.add (q * 8)).off + 4, none⟩ = some (.int .i64 x.f4) ∧ w'.cell? ⟨(ad.add (q * 8)).block, (ad.add (q * 8)).off + 5, none⟩ = some (.int .i64 x.f5) ∧ w'.cell? ⟨(ad.add (q * 8)).block, (ad.add (q * 8)).off + 6, none⟩ = some (.slice A6 x.f6.length c6) ∧ w'.cell? ⟨(ad.add (q * 8)).block, (ad.add (q * 8)).off + 7, none⟩ = some (.int .i64 x.f7) := fun w' h => by
      obtain ⟨y0, y1, y2, y3, y4, y5, y6, y7⟩ := HY.out
      have hz : ∀ {a : Addr} {u : Value}, w0.cell? a = some u → w'.cell? a = some u := fun hy => (h.hb.cell (World.block_lt_of_cell? w0 _ hy)).trans hy
      exact ⟨(blk_cell h.ho 0).trans rfl, (blk_cell h.hm 0).trans rfl, (blk_cell h.hm 1).trans rfl, (blk_cell h.hm 2).trans rfl, (blk_cell h.hm 3).trans rfl, (blk_cell h.ht 0).trans rfl, (blk_cell h.ha 0).trans rfl, hz y0, hz y1, hz y2, hz y3, hz y4, hz y5, hz y6, hz y7⟩
     have HSS := Aside0.mk hSS
     have HB0 : Aside0 (Below wb.heap.size wb wb.drew) := ⟨below_drew1 (Below.refl _ _)⟩
     clear hEL hSS
     refine start_ (n := 24) (S := fun w' => w'.cell? ⟨g6, 0, none⟩ = some vq ∧ w'.cell? ⟨g3, 0, none⟩ = some (.int .i64 m.f0) ∧ w'.cell? ⟨g3, 1, none⟩ = some (.slice A1 m.f1.length c1) ∧ w'.cell? ⟨g3, 2, none⟩ = some (.int .i64 m.f2) ∧ w'.cell? ⟨g3, 3, none⟩ = some (.slice A3 m.f3.length c3) ∧ w'.cell? ⟨g5, 0, none⟩ = some (.slice (some ad) T.length c2) ∧ w'.cell? ⟨g7, 0, none⟩ = some (.int .i64 (q : Int)) ∧ w'.cell? (ad.add (q * 8)) = some (.int .i64 x.f0) ∧ w'.cell? ⟨(ad.add (q * 8)).block, (ad.add (q * 8)).off + 1, none⟩ = some (.int .i64 x.f1) ∧ w'.cell? ⟨(ad.add (q * 8)).block, (ad.add (q * 8)).off + 2, none⟩ = some (.int .i64 x.f2) ∧ w'.cell? ⟨(ad.add (q * 8)).block, (ad.add (q * 8)).off + 3, none⟩ = some (.int .i64 x.f3) ∧ w'.cell? ⟨(ad.add (q * 8)).block, (ad.add (q * 8)).off + 4, none⟩ = some (.int .i64 x.f4) ∧ w'.cell? ⟨(ad.add (q * 8)).block, (ad.add (q * 8)).off + 5, none⟩ = some (.int .i64 x.f5) ∧ w'.cell? ⟨(ad.add (q * 8)).block, (ad.add (q * 8)).off + 6, none⟩ = some (.slice A6 x.f6.length c6) ∧ w'.cell? ⟨(ad.add (q * 8)).block, (ad.add (q * 8)).off + 7, none⟩ = some (.int .i64 x.f7)) (ds := [23]) #[false, false, false, false, false, false, false, false, false, false, false, false, false, false, false, false, false, false, false, false, false, false, false, false] (by kernel_rfl) rfl rfl (HSS.out _ (HEL.out _ HB0.out)) (fun hHeld => ?_); refine with_tabW skip_tab skip_bits (fun HT_ HW_ => ?_)
     generalize wb.drew = wc at HB0 hHeld ⊢
     refine take_ (i := 0) (N := some 20) (v := ?_) (a' := ?_) #[true, false, false, false, false, false, false, false, false, false, false, false, false, false, false, false, false, false, false, false, false, false, false, false] rfl rfl (take_ofW HT_.out HW_.out (by kernel_rfl)) (fun _ _ _ h => h) (Or.inl ⟨by rfl, ?_⟩) hHeld ?_ ?_
     rotate_left
     ·rintro w' ⟨s0, s1, s2, s3, s4, s5, s6, s7, s8, s9, s10, s11, s12, s13, s14⟩
      go_simp
      with_reducible rfl
     rotate_left
     ·simp only [Act.put, lz1, lz2, lz3, i64_w, i32_w]
      rfl
     refine take_ (i := 1) (N := some 21) (v := ?_) (a' := ?_) #[true, true, false, false, false, false, false, false, false, false, false, false, false, false, false, false, false, false, false, false, false, false, false, false] rfl rfl (take_ofW HT_.out HW_.out (by kernel_rfl)) (fun _ _ _ h => h) (Or.inl ⟨by rfl, ?_⟩) hHeld ?_ ?_
     rotate_left
     ·rintro w' ⟨s0, s1, s2, s3, s4, s5, s6, s7, s8, s9, s10, s11, s12, s13, s14⟩
      go_simp
      with_reducible rfl
     rotate_left
     ·simp only [Act.put, lz1, lz2, lz3, i64_w, i32_w]
      rfl
     refine pure_ (i := 2) (N := some 22) (v := ?_) (a' := ?_) #[true, true, true, false, false, false, false, false, false, false, false, false, false, false, false, false, false, false, false, false, false, false, false, false] rfl rfl (any_of HT_.out (by kernel_rfl)) (fun _ _ _ h => h) (Or.inl ⟨by rfl, ?_⟩) ?_ ?_
     rotate_left
     ·intro w'
      go_simp
      with_reducible rfl
     rotate_left
     ·simp only [Act.put, lz1, lz2, lz3, i64_w, i32_w]
      rfl
     refine take_ (i := 3) (N := some 23) (v := ?_) (a' := ?_) #[true, true, true, true, false, false, false, false, false, false, false, false, false, false, false, false, false, false, false, false, false, false, false, false] rfl rfl (take_ofW HT_.out HW_.out (by kernel_rfl)) (fun _ _ _ h => h) (Or.inl ⟨by rfl, ?_⟩) hHeld ?_ ?_
     rotate_left
     ·rintro w' ⟨s0, s1, s2, s3, s4, s5, s6, s7, s8, s9, s10, s11, s12, s13, s14⟩
      go_simp
      with_reducible rfl
     rotate_left
     ·simp only [Act.put, lz1, lz2, lz3, i64_w, i32_w]
      rfl
     refine take_ (i := 4) (N := some 24) (v := ?_) (a' := ?_) #[true, true, true, true, true, false, false, false, false, false, false, false, false, false, false, false, false, false, false, false, false, false, false, false] rfl rfl (take_ofW HT_.out HW_.out (by kernel_rfl)) (fun _ _ _ h => h) (Or.inl ⟨by rfl, ?_⟩) hHeld ?_ ?_
     rotate_left
     ·rintro w' ⟨s0, s1, s2, s3, s4, s5, s6, s7, s8, s9, s10, s11, s12, s13, s14⟩
      go_simp
      with_reducible rfl
     rotate_left
     ·simp only [Act.put, lz1, lz2, lz3, i64_w, i32_w]
      rfl
     refine pure_ (i := 5) (N := some 25) (v := ?_) (a' := ?_) #[true, true, true, true, true, true, false, false, false, false, false, false, false, false, false, false, false, false, false, false, false, false, false, false] rfl rfl (any_of HT_.out (by kernel_rfl)) (fun _ _ _ h => h) (Or.inl ⟨by rfl, ?_⟩) ?_ ?_
     rotate_left
     ·intro w'
      go_simp
      with_reducible rfl
     rotate_left
     ·simp only [Act.put, lz1, lz2, lz3, i64_w, i32_w]
      rfl
     refine take_ (i := 6) (N := some 26) (v := ?_) (a' := ?_) #[true, true, true, true, true, true, true, false, false, false, false, false, false, false, false, false, false, false, false, false, false, false, false, false] rfl rfl (take_ofW HT_.out HW_.out (by kernel_rfl)) (fun _ _ _ h => h) (Or.inl ⟨by rfl, ?_⟩) hHeld ?_ ?_
     rotate_left
     ·rintro w' ⟨s0, s1, s2, s3, s4, s5, s6, s7, s8, s9, s10, s11, s12, s13, s14⟩
      go_simp
      with_reducible rfl
     rotate_left
     ·simp only [Act.put, lz1, lz2, lz3, i64_w, i32_w]
      rfl
     refine take_ (i := 10) (N := some 30) (v := ?_) (a' := ?_) #[true, true, true, true, true, true, true, false, false, false, true, false, false, false, false, false, false, false, false, false, false, false, false, false] rfl rfl (take_ofW HT_.out HW_.out (by kernel_rfl)) (fun _ _ _ h => h) (Or.inl ⟨by rfl, ?_⟩) hHeld ?_ ?_
     rotate_left
     ·rintro w' ⟨s0, s1, s2, s3, s4, s5, s6, s7, s8, s9, s10, s11, s12, s13, s14⟩
      go_simp
      with_reducible rfl
     rotate_left
     ·simp only [Act.put, lz1, lz2, lz3, i64_w, i32_w]
      rfl
     refine pure_ (i := 11) (N := some 31) (v := ?_) (a' := ?_) #[true, true, true, true, true, true, true, false, false, false, true, true, false, false, false, false, false, false, false, false, false, false, false, false] rfl rfl (any_of HT_.out (by kernel_rfl)) (fun _ _ _ h => h) (Or.inl ⟨by rfl, ?_⟩) ?_ ?_
     rotate_left
     ·intro w'
      go_simp
      with_reducible rfl
     rotate_left
     ·simp only [Act.put, lz1, lz2, lz3, i64_w, i32_w]
      rfl
     refine take_ (i := 12) (N := some 32) (v := ?_) (a' := ?_) #[true, true, true, true, true, true, true, false, false, false, true, true, true, false, false, false, false, false, false, false, false, false, false, false] rfl rfl (take_ofW HT_.out HW_.out (by kernel_rfl)) (fun _ _ _ h => h) (Or.inl ⟨by rfl, ?_⟩) hHeld ?_ ?_
     rotate_left
     ·rintro w' ⟨s0, s1, s2, s3, s4, s5, s6, s7, s8, s9, s10, s11, s12, s13, s14⟩
      go_simp
      with_reducible rfl
     rotate_left
     ·simp only [Act.put, lz1, lz2, lz3, i64_w, i32_w]
      rfl
     refine take_ (i := 13) (N := some 33) (v := ?_) (a' := ?_) #[true, true, true, true, true, true, true, false, false, false, true, true, true, true, false, false, false, false, false, false, false, false, false, false] rfl rfl (take_ofW HT_.out HW_.out (by kernel_rfl)) (fun _ _ _ h => h) (Or.inl ⟨by rfl, ?_⟩) hHeld ?_ ?_
     rotate_left
     ·rintro w' ⟨s0, s1, s2, s3, s4, s5, s6, s7, s8, s9, s10, s11, s12, s13, s14⟩
      go_simp
      with_reducible rfl
     rotate_left
     ·simp only [Act.put, lz1, lz2, lz3, i64_w, i32_w]
      rfl
     refine pure_ (i := 14) (N := some 34) (v := ?_) (a' := ?_) #[true, true, true, true, true, true, true, false, false, false, true, true, true, true, true, false, false, false, false, false, false, false, false, false] rfl rfl (any_of HT_.out (by kernel_rfl)) (fun _ _ _ h => h) (Or.inl ⟨by rfl, ?_⟩) ?_ ?_
     rotate_left
     ·intro w'
      go_simp
      with_reducible rfl
     rotate_left
     ·simp only [Act.put, lz1, lz2, lz3, i64_w, i32_w]
      rfl
     refine take_ (i := 15) (N := some 35) (v := ?_) (a' := ?_) #[true, true, true, true, true, true, true, false, false, false, true, true, true, true, true, true, false, false, false, false, false, false, false, false] rfl rfl (take_ofW HT_.out HW_.out (by kernel_rfl)) (fun _ _ _ h => h) (Or.inl ⟨by rfl, ?_⟩) hHeld ?_ ?_
     rotate_left
     ·rintro w' ⟨s0, s1, s2, s3, s4, s5, s6, s7, s8, s9, s10, s11, s12, s13, s14⟩
      go_simp
      with_reducible rfl
     rotate_left
     ·simp only [Act.put, lz1, lz2, lz3, i64_w, i32_w]
      rfl
     refine one_ (i := 7) (N := some 27) #[true, true, true, true, true, true, true, true, false, false, true, true, true, true, true, true, false, false, false, false, false, false, false, false] rfl rfl (one_of HT_.out (by kernel_rfl)) (by decide) (fun K hK => ?_)
     refine goes_ Try.func44 (by kernel_rfl) rfl #[.agg #[.int .i64 m.f0, .slice A1 m.f1.length c1, .int .i64 m.f2, .slice A3 m.f3.length c3], .agg #[.int .i64 x.f0, .int .i64 x.f1, .int .i64 x.f2, .int .i64 x.f3, .int .i64 x.f4, .int .i64 x.f5, .slice A6 x.f6.length c6, .int .i64 x.f7]] (by rfl) rfl rfl (by (try simp only [List.map_toArray, List.map_cons, List.map_nil]); first | done | rfl) ?_
     refine (mir_Reads.calls k m.f0 A1 c1 m.f1 m.f2 A3 c3 m.f3 x.f0 x.f1 x.f2 x.f3 x.f4 x.f5 A6 c6 x.f6 x.f7 r1 _ (Kd.C_below HC1.out (HEL.out _ HB0.out).hb) HL.out.1 (Kd.C_below HC3.out (HEL.out _ HB0.out).hb) HL.out.2.1 (Kd.C_below HC6.out HB0.out) HL6.out HR1.out).mono ?_
     rintro e wa ⟨va, rfl, hra, hba⟩
     refine ⟨_, rfl, ?_⟩
     have HBa := Aside0.mk (below_step HB0.out hba)
     obtain ⟨Aa, ca, rfl, hla, hCa⟩ := Kd.R_reads hra
     obtain ⟨ada, rfl, ya0, ya1⟩ := at_T33 hCa 0 (by omega) hi1
     simp only [Int.toNat_zero, Nat.zero_mul, Addr.add_zero'] at ya0 ya1
     clear hra hba hCa hla
     refine hK.out _ _ (HSS.out _ (HEL.out _ HBa.out)) (fun hHeld => ?_)
     clear hK K
     refine norm_ (a' := ?_) ?_ ?_
     rotate_left
     ·show Act.put _ (some 27) _ = _
      simp only [Act.put, lz1, lz2, lz3, i64_w, i32_w]
      rfl
     refine pure_ (i := 8) (N := some 28) (v := ?_) (a' := ?_) #[true, true, true, true, true, true, true, true, true, false, true, true, true, true, true, true, false, false, false, false, false, false, false, false] rfl rfl (any_of HT_.out (by kernel_rfl)) (fun _ _ _ h => h) (Or.inl ⟨by rfl, ?_⟩) ?_ ?_
     rotate_left
     ·intro w'
      go_simp
      with_reducible rfl
     rotate_left
     ·simp only [Act.put, lz1, lz2, lz3, i64_w, i32_w]
      rfl
     refine two_ (i := 9) (j := 16) (Ni := some 29) (Nj := some 36) #[true, true, true, true, true, true, true, true, true, true, true, true, true, true, true, true, false, false, false, false, false, false, false, false] #[true, true, true, true, true, true, true, true, true, false, true, true, true, true, true, true, true, false, false, false, false, false, false, false] rfl rfl rfl rfl (two_of HT_.out (by kernel_rfl)) (by decide) (by decide) (fun K hK => ?_) (fun K hK => ?_)
     ·skip
      refine step_load_33 (by rfl) rfl (.tmp 28) rfl ada (rd_T33 r1 0).f0 (rd_T33 r1 0).f1 rfl ya0 ya1 ?_
      refine hK.out _ _ (HSS.out _ (HEL.out _ HBa.out)) (fun hHeld => ?_)
      clear hK K
      refine norm_ (a' := ?_) ?_ ?_
      rotate_left
      ·show Act.put _ (some 29) _ = _
       simp only [Act.put, lz1, lz2, lz3, i64_w, i32_w]
       rfl
      refine one_ (i := 16) (N := some 36) #[true, true, true, true, true, true, true, true, true, true, true, true, true, true, true, true, true, false, false, false, false, false, false, false] rfl rfl (one_of HT_.out (by kernel_rfl)) (by decide) (fun K hK => ?_)
      refine goes_ Try.func45 (by kernel_rfl) rfl #[.agg #[.int .i64 m.f0, .slice A1 m.f1.length c1, .int .i64 m.f2, .slice A3 m.f3.length c3], .agg #[.int .i64 x.f0, .int .i64 x.f1, .int .i64 x.f2, .int .i64 x.f3, .int .i64 x.f4, .int .i64 x.f5, .slice A6 x.f6.length c6, .int .i64 x.f7]] (by rfl) rfl rfl (by (try simp only [List.map_toArray, List.map_cons, List.map_nil]); first | done | rfl) ?_
      refine (mir_Writes.calls k m.f0 A1 c1 m.f1 m.f2 A3 c3 m.f3 x.f0 x.f1 x.f2 x.f3 x.f4 x.f5 A6 c6 x.f6 x.f7 r2 _ (Kd.C_below HC1.out (HEL.out _ HBa.out).hb) HL.out.1 (Kd.C_below HC3.out (HEL.out _ HBa.out).hb) HL.out.2.1 (Kd.C_below HC6.out HBa.out) HL6.out HR2.out).mono ?_
      rintro e wb2 ⟨vb, rfl, hrb, hbb⟩
      refine ⟨_, rfl, ?_⟩
      have HBb := Aside0.mk (below_step HBa.out hbb)
      obtain ⟨Ab, cb, rfl, hlb, hCb⟩ := Kd.R_reads hrb
      obtain ⟨adb, rfl, yb0, yb1⟩ := at_T33 hCb 0 (by omega) hi2
      simp only [Int.toNat_zero, Nat.zero_mul, Addr.add_zero'] at yb0 yb1
      replace ya0 := pw_cell_below hbb ya0
      replace ya1 := pw_cell_below hbb ya1
      clear hrb hbb hCb hlb
      refine hK.out _ _ (HSS.out _ (HEL.out _ HBb.out)) (fun hHeld => ?_)
      clear hK K
      refine norm_ (a' := ?_) ?_ ?_
      rotate_left
      ·show Act.put _ (some 36) _ = _
       simp only [Act.put, lz1, lz2, lz3, i64_w, i32_w]
       rfl
      refine pure_ (i := 17) (N := some 37) (v := ?_) (a' := ?_) #[true, true, true, true, true, true, true, true, true, true, true, true, true, true, true, true, true, true, false, false, false, false, false, false] rfl rfl (any_of HT_.out (by kernel_rfl)) (fun _ _ _ h => h) (Or.inl ⟨by rfl, ?_⟩) ?_ ?_
      rotate_left
      ·intro w'
       go_simp
       with_reducible rfl
      rotate_left
      ·simp only [Act.put, lz1, lz2, lz3, i64_w, i32_w]
       rfl
      refine one_ (i := 18) (N := some 38) #[true, true, true, true, true, true, true, true, true, true, true, true, true, true, true, true, true, true, true, false, false, false, false, false] rfl rfl (one_of HT_.out (by kernel_rfl)) (by decide) (fun K hK => ?_)
      refine step_load_33 (by rfl) rfl (.tmp 37) rfl adb (rd_T33 r2 0).f0 (rd_T33 r2 0).f1 rfl yb0 yb1 ?_
      refine hK.out _ _ (HSS.out _ (HEL.out _ HBb.out)) (fun hHeld => ?_)
      clear hK K
      refine norm_ (a' := ?_) ?_ ?_
      rotate_left
      ·show Act.put _ (some 38) _ = _
       simp only [Act.put, lz1, lz2, lz3, i64_w, i32_w]
       rfl
      refine pure_ (i := 19) (N := some 39) (v := ?_) (a' := ?_) #[true, true, true, true, true, true, true, true, true, true, true, true, true, true, true, true, true, true, true, true, false, false, false, false] rfl rfl (any_of HT_.out (by kernel_rfl)) (fun _ _ _ h => h) (Or.inl ⟨by rfl, ?_⟩) ?_ ?_
      rotate_left
      ·intro w'
       go_simp
       with_reducible rfl
      rotate_left
      ·simp only [Act.put, lz1, lz2, lz3, i64_w, i32_w]
       rfl
      refine pure_ (i := 20) (N := some 40) (v := ?_) (a' := ?_) #[true, true, true, true, true, true, true, true, true, true, true, true, true, true, true, true, true, true, true, true, true, false, false, false] rfl rfl (any_of HT_.out (by kernel_rfl)) (fun _ _ _ h => h) (Or.inl ⟨by rfl, ?_⟩) ?_ ?_
      rotate_left
      ·intro w'
       go_simp
       with_reducible rfl
      rotate_left
      ·simp only [Act.put, lz1, lz2, lz3, i64_w, i32_w]
       rfl
      refine one_ (i := 21) (N := some 41) #[true, true, true, true, true, true, true, true, true, true, true, true, true, true, true, true, true, true, true, true, true, true, false, false] rfl rfl (one_of HT_.out (by kernel_rfl)) (by decide) (fun K hK => ?_)
      rw [if_pos (by rfl)]
      unfold Oper.wp execOp
      go_simp
      refine hK.out _ _ (HSS.out _ (HEL.out _ (below_alloc HBb.out _))) (fun hHeld => ?_)
      clear hK K
      refine one_ (i := 22) (N := some 42) #[true, true, true, true, true, true, true, true, true, true, true, true, true, true, true, true, true, true, true, true, true, true, true, false] rfl rfl (one_of HT_.out (by kernel_rfl)) (by decide) (fun K hK => ?_)
      refine Kd.R_append_step (kEv w0) (w0 := w0) w0.heap.size (by rfl) (.tmp 20) (.tmp 41) 60 20 .nilIface 16 rfl Try.underlying60 info20 rfl (by show 0 < 1; omega) (by omega) vq evq (.mv (rd_T33 r1 0) (rd_T33 r2 0)) [.iface 82 (.agg #[.bool (rd_T33 r1 0).f0, .int .i64 (rd_T33 r1 0).f1, .bool (rd_T33 r2 0).f0, .int .i64 (rd_T33 r2 0).f1])] (fun _ => True) (fun _ => False) rfl rfl ⟨_, rfl, rfl⟩ (fun _ h => h.elim) (fun _ _ => trivial) (Kd.R_below HRW.out HBb.out) (HEL.out _ HBb.out).hb (HEL.out _ HBb.out).hb.size (by have := HES.out; have := HN.out; omega) ?_
      intro v1 w1 ho hb hg hn
      have HRb := Aside0.mk (Kd.R_below HRW.out HBb.out)
      have HSb := Aside0.mk (HEL.out _ HBb.out)
      have HWc : Aside0 (EvSt m A1 c1 A3 c3 (some ad) T.length c2 b1 b2 b3 b4 g3 g5 g6 g7 w0 q vq w1) := ⟨⟨blk_grown HSb.out.hm hg (Kd.R_ne HRb.out HSb.out.hm (by decide)), blk_grown HSb.out.ht hg (Kd.R_ne HRb.out HSb.out.ht (by decide)), blk_grown HSb.out.ho hg (Kd.R_ne HRb.out HSb.out.ho (by decide)), blk_grown HSb.out.ha hg (Kd.R_ne HRb.out HSb.out.ha (by decide)), hb⟩⟩
      have HKc : Aside0 (∀ g o t, w.heap[g]? = some (.cells o t (0, 0)) → t ≠ 20 → g ≠ g6 → g ≠ g7 → w1.heap[g]? = some (.cells o t (0, 0))) := ⟨fun g o t h1 h2 h3 h4 => blk_grown (blk_below (HKP.out g o t h1 h2 h3 h4) HBb.out) hg (Kd.R_ne HRb.out (blk_below (HKP.out g o t h1 h2 h3 h4) HBb.out) (fun he => h2 he.symm))⟩
      have HR1c := Aside0.mk ho
      obtain ⟨Az, cz, rfl, hz1, hz2⟩ := Kd.R_reads ho
      clear ho hb hg hn hz1 hz2
      refine hK.out _ _ (HSS.out _ HWc.out) (fun hHeld => ?_)
      clear hK K
      refine norm_ (a' := ?_) ?_ ?_
      rotate_left
      ·show Act.put _ (some 42) _ = _
       simp only [Act.put, lz1, lz2, lz3, i64_w, i32_w]
       rfl
      refine last_ (i := 23) (N := none) #[true, true, true, true, true, true, true, true, true, true, true, true, true, true, true, true, true, true, true, true, true, true, true, true] rfl rfl (one_of HT_.out (by kernel_rfl)) (by decide) (fun K hK => ?_)
      refine step_store_one (by rfl) 60 (.tmp 2) (.tmp 42) rfl g6 (.slice Az (evq ++ [Ev.mv (rd_T33 r1 0) (rd_T33 r2 0)]).length cz) rfl rfl 60 vq HWc.out.ho info60s rfl rfl ?_
      refine hK.out _ _ ?_
      clear hK K
      refine done_ (done_of HT_.out (by kernel_rfl)) ?_
      have HF := Aside0.mk (HWc.out.setOut HG.out.1 (.slice Az (evq ++ [Ev.mv (rd_T33 r1 0) (rd_T33 r2 0)]).length cz))
      have HFR := Aside0.mk (R_setRow HR1c.out HWc.out.ho (by decide) #[.slice Az (evq ++ [Ev.mv (rd_T33 r1 0) (rd_T33 r2 0)]).length cz])
      have HFK : Aside0 (∀ g o t, w.heap[g]? = some (.cells o t (0, 0)) → t ≠ 20 → g ≠ g6 → g ≠ g7 → (w1.setRow g6 #[.slice Az (evq ++ [Ev.mv (rd_T33 r1 0) (rd_T33 r2 0)]).length cz]).heap[g]? = some (.cells o t (0, 0))) := ⟨fun g o t h1 h2 h3 h4 => (setRow_other w1 g6 g _ h3).trans (HKc.out g o t h1 h2 h3 h4)⟩
      clear HWc HKc HR1c HSb HRb hHeld
      generalize (evq ++ [Ev.mv (rd_T33 r1 0) (rd_T33 r2 0)]).length = nz at HF HFR HFK ⊢
      generalize w1.setRow g6 #[.slice Az nz cz] = w6 at HF HFR HFK ⊢
      have c70 : w6.cell? ⟨g7, 0, none⟩ = some (.int .i64 (q : Int)) := (blk_cell HF.out.ha 0).trans rfl
      have f70 := blk_frozen HF.out.ha 0
      go_wp2_with fail
      go_roundg kq
      case measure => (have h1 := HK.out.2; omega)
      case rel => exact ⟨q + 1, n1, .slice Az nz cz, evq ++ [.mv (rd_T33 r1 0) (rd_T33 r2 0)], es1, hlt, ⟨by have := HK.out; omega, by have := HK.out; omega⟩, ⟨(HF.out.stepAt HG.out.2).hm⟩, ⟨(HF.out.stepAt HG.out.2).ht⟩, ⟨(HF.out.stepAt HG.out.2).ho⟩, ⟨(HF.out.stepAt HG.out.2).ha⟩, ⟨by rw [setCell_eq_setRow w6 g7 0 _ 3 (0, 0) _ HF.out.ha]; exact R_setRow HFR.out HF.out.ha (by decide) _⟩, ⟨(HF.out.stepAt HG.out.2).hb⟩, ⟨by rw [List.length_append]; have := HN.out; simp; omega⟩, HS1, ⟨by have h1 := HSum.out; have h2 : n1 + 1 = nq := HNQ.out; omega⟩, ⟨by rw [← HApp.out, ← HEQ.out, HE.out, List.append_assoc]; rfl⟩, ⟨fun g o t h1 h2 h3 h4 => by rw [setCell_eq_setRow w6 g7 0 _ 3 (0, 0) _ HF.out.ha]; exact (setRow_other w6 g7 g _ h4).trans (HFK.out g o t h1 h2 h3 h4)⟩⟩
     ·skip
      refine goes_ Try.func45 (by kernel_rfl) rfl #[.agg #[.int .i64 m.f0, .slice A1 m.f1.length c1, .int .i64 m.f2, .slice A3 m.f3.length c3], .agg #[.int .i64 x.f0, .int .i64 x.f1, .int .i64 x.f2, .int .i64 x.f3, .int .i64 x.f4, .int .i64 x.f5, .slice A6 x.f6.length c6, .int .i64 x.f7]] (by rfl) rfl rfl (by (try simp only [List.map_toArray, List.map_cons, List.map_nil]); first | done | rfl) ?_
      refine (mir_Writes.calls k m.f0 A1 c1 m.f1 m.f2 A3 c3 m.f3 x.f0 x.f1 x.f2 x.f3 x.f4 x.f5 A6 c6 x.f6 x.f7 r2 _ (Kd.C_below HC1.out (HEL.out _ HBa.out).hb) HL.out.1 (Kd.C_below HC3.out (HEL.out _ HBa.out).hb) HL.out.2.1 (Kd.C_below HC6.out HBa.out) HL6.out HR2.out).mono ?_
      rintro e wb2 ⟨vb, rfl, hrb, hbb⟩
      refine ⟨_, rfl, ?_⟩
      have HBb := Aside0.mk (below_step HBa.out hbb)
      obtain ⟨Ab, cb, rfl, hlb, hCb⟩ := Kd.R_reads hrb
      obtain ⟨adb, rfl, yb0, yb1⟩ := at_T33 hCb 0 (by omega) hi2
      simp only [Int.toNat_zero, Nat.zero_mul, Addr.add_zero'] at yb0 yb1
      replace ya0 := pw_cell_below hbb ya0
      replace ya1 := pw_cell_below hbb ya1
      clear hrb hbb hCb hlb
      refine hK.out _ _ (HSS.out _ (HEL.out _ HBb.out)) (fun hHeld => ?_)
      clear hK K
      refine norm_ (a' := ?_) ?_ ?_
      rotate_left
      ·show Act.put _ (some 36) _ = _
       simp only [Act.put, lz1, lz2, lz3, i64_w, i32_w]
       rfl
      refine pure_ (i := 17) (N := some 37) (v := ?_) (a' := ?_) #[true, true, true, true, true, true, true, true, true, false, true, true, true, true, true, true, true, true, false, false, false, false, false, false] rfl rfl (any_of HT_.out (by kernel_rfl)) (fun _ _ _ h => h) (Or.inl ⟨by rfl, ?_⟩) ?_ ?_
      rotate_left
      ·intro w'
       go_simp
       with_reducible rfl
      rotate_left
      ·simp only [Act.put, lz1, lz2, lz3, i64_w, i32_w]
       rfl
      refine two_ (i := 9) (j := 18) (Ni := some 29) (Nj := some 38) #[true, true, true, true, true, true, true, true, true, true, true, true, true, true, true, true, true, true, false, false, false, false, false, false] #[true, true, true, true, true, true, true, true, true, false, true, true, true, true, true, true, true, true, true, false, false, false, false, false] rfl rfl rfl rfl (two_of HT_.out (by kernel_rfl)) (by decide) (by decide) (fun K hK => ?_) (fun K hK => ?_)
      ·skip
       refine step_load_33 (by rfl) rfl (.tmp 28) rfl ada (rd_T33 r1 0).f0 (rd_T33 r1 0).f1 rfl ya0 ya1 ?_
       refine hK.out _ _ (HSS.out _ (HEL.out _ HBb.out)) (fun hHeld => ?_)
       clear hK K
       refine norm_ (a' := ?_) ?_ ?_
       rotate_left
       ·show Act.put _ (some 29) _ = _
        simp only [Act.put, lz1, lz2, lz3, i64_w, i32_w]
        rfl
       refine one_ (i := 18) (N := some 38) #[true, true, true, true, true, true, true, true, true, true, true, true, true, true, true, true, true, true, true, false, false, false, false, false] rfl rfl (one_of HT_.out (by kernel_rfl)) (by decide) (fun K hK => ?_)
       refine step_load_33 (by rfl) rfl (.tmp 37) rfl adb (rd_T33 r2 0).f0 (rd_T33 r2 0).f1 rfl yb0 yb1 ?_
       refine hK.out _ _ (HSS.out _ (HEL.out _ HBb.out)) (fun hHeld => ?_)
       clear hK K
       refine norm_ (a' := ?_) ?_ ?_
       rotate_left
       ·show Act.put _ (some 38) _ = _
        simp only [Act.put, lz1, lz2, lz3, i64_w, i32_w]
        rfl
       refine pure_ (i := 19) (N := some 39) (v := ?_) (a' := ?_) #[true, true, true, true, true, true, true, true, true, true, true, true, true, true, true, true, true, true, true, true, false, false, false, false] rfl rfl (any_of HT_.out (by kernel_rfl)) (fun _ _ _ h => h) (Or.inl ⟨by rfl, ?_⟩) ?_ ?_
       rotate_left
       ·intro w'
        go_simp
        with_reducible rfl
       rotate_left
       ·simp only [Act.put, lz1, lz2, lz3, i64_w, i32_w]
        rfl
       refine pure_ (i := 20) (N := some 40) (v := ?_) (a' := ?_) #[true, true, true, true, true, true, true, true, true, true, true, true, true, true, true, true, true, true, true, true, true, false, false, false] rfl rfl (any_of HT_.out (by kernel_rfl)) (fun _ _ _ h => h) (Or.inl ⟨by rfl, ?_⟩) ?_ ?_
       rotate_left
       ·intro w'
        go_simp
        with_reducible rfl
       rotate_left
       ·simp only [Act.put, lz1, lz2, lz3, i64_w, i32_w]
        rfl
       refine one_ (i := 21) (N := some 41) #[true, true, true, true, true, true, true, true, true, true, true, true, true, true, true, true, true, true, true, true, true, true, false, false] rfl rfl (one_of HT_.out (by kernel_rfl)) (by decide) (fun K hK => ?_)
       rw [if_pos (by rfl)]
       unfold Oper.wp execOp
       go_simp
       refine hK.out _ _ (HSS.out _ (HEL.out _ (below_alloc HBb.out _))) (fun hHeld => ?_)
       clear hK K
       refine one_ (i := 22) (N := some 42) #[true, true, true, true, true, true, true, true, true, true, true, true, true, true, true, true, true, true, true, true, true, true, true, false] rfl rfl (one_of HT_.out (by kernel_rfl)) (by decide) (fun K hK => ?_)
       refine Kd.R_append_step (kEv w0) (w0 := w0) w0.heap.size (by rfl) (.tmp 20) (.tmp 41) 60 20 .nilIface 16 rfl Try.underlying60 info20 rfl (by show 0 < 1; omega) (by omega) vq evq (.mv (rd_T33 r1 0) (rd_T33 r2 0)) [.iface 82 (.agg #[.bool (rd_T33 r1 0).f0, .int .i64 (rd_T33 r1 0).f1, .bool (rd_T33 r2 0).f0, .int .i64 (rd_T33 r2 0).f1])] (fun _ => True) (fun _ => False) rfl rfl ⟨_, rfl, rfl⟩ (fun _ h => h.elim) (fun _ _ => trivial) (Kd.R_below HRW.out HBb.out) (HEL.out _ HBb.out).hb (HEL.out _ HBb.out).hb.size (by have := HES.out; have := HN.out; omega) ?_
       intro v1 w1 ho hb hg hn
       have HRb := Aside0.mk (Kd.R_below HRW.out HBb.out)
       have HSb := Aside0.mk (HEL.out _ HBb.out)
       have HWc : Aside0 (EvSt m A1 c1 A3 c3 (some ad) T.length c2 b1 b2 b3 b4 g3 g5 g6 g7 w0 q vq w1) := ⟨⟨blk_grown HSb.out.hm hg (Kd.R_ne HRb.out HSb.out.hm (by decide)), blk_grown HSb.out.ht hg (Kd.R_ne HRb.out HSb.out.ht (by decide)), blk_grown HSb.out.ho hg (Kd.R_ne HRb.out HSb.out.ho (by decide)), blk_grown HSb.out.ha hg (Kd.R_ne HRb.out HSb.out.ha (by decide)), hb⟩⟩
       have HKc : Aside0 (∀ g o t, w.heap[g]? = some (.cells o t (0, 0)) → t ≠ 20 → g ≠ g6 → g ≠ g7 → w1.heap[g]? = some (.cells o t (0, 0))) := ⟨fun g o t h1 h2 h3 h4 => blk_grown (blk_below (HKP.out g o t h1 h2 h3 h4) HBb.out) hg (Kd.R_ne HRb.out (blk_below (HKP.out g o t h1 h2 h3 h4) HBb.out) (fun he => h2 he.symm))⟩
       have HR1c := Aside0.mk ho
       obtain ⟨Az, cz, rfl, hz1, hz2⟩ := Kd.R_reads ho
       clear ho hb hg hn hz1 hz2
       refine hK.out _ _ (HSS.out _ HWc.out) (fun hHeld => ?_)
       clear hK K
       refine norm_ (a' := ?_) ?_ ?_
       rotate_left
       ·show Act.put _ (some 42) _ = _
        simp only [Act.put, lz1, lz2, lz3, i64_w, i32_w]
        rfl
       refine last_ (i := 23) (N := none) #[true, true, true, true, true, true, true, true, true, true, true, true, true, true, true, true, true, true, true, true, true, true, true, true] rfl rfl (one_of HT_.out (by kernel_rfl)) (by decide) (fun K hK => ?_)
       refine step_store_one (by rfl) 60 (.tmp 2) (.tmp 42) rfl g6 (.slice Az (evq ++ [Ev.mv (rd_T33 r1 0) (rd_T33 r2 0)]).length cz) rfl rfl 60 vq HWc.out.ho info60s rfl rfl ?_
       refine hK.out _ _ ?_
       clear hK K
       refine done_ (done_of HT_.out (by kernel_rfl)) ?_
       have HF := Aside0.mk (HWc.out.setOut HG.out.1 (.slice Az (evq ++ [Ev.mv (rd_T33 r1 0) (rd_T33 r2 0)]).length cz))
       have HFR := Aside0.mk (R_setRow HR1c.out HWc.out.ho (by decide) #[.slice Az (evq ++ [Ev.mv (rd_T33 r1 0) (rd_T33 r2 0)]).length cz])
       have HFK : Aside0 (∀ g o t, w.heap[g]? = some (.cells o t (0, 0)) → t ≠ 20 → g ≠ g6 → g ≠ g7 → (w1.setRow g6 #[.slice Az (evq ++ [Ev.mv (rd_T33 r1 0) (rd_T33 r2 0)]).length cz]).heap[g]? = some (.cells o t (0, 0))) := ⟨fun g o t h1 h2 h3 h4 => (setRow_other w1 g6 g _ h3).trans (HKc.out g o t h1 h2 h3 h4)⟩
       clear HWc HKc HR1c HSb HRb hHeld
       generalize (evq ++ [Ev.mv (rd_T33 r1 0) (rd_T33 r2 0)]).length = nz at HF HFR HFK ⊢
       generalize w1.setRow g6 #[.slice Az nz cz] = w6 at HF HFR HFK ⊢
       have c70 : w6.cell? ⟨g7, 0, none⟩ = some (.int .i64 (q : Int)) := (blk_cell HF.out.ha 0).trans rfl
       have f70 := blk_frozen HF.out.ha 0
       go_wp2_with fail
       go_roundg kq
       case measure => (have h1 := HK.out.2; omega)
       case rel => exact ⟨q + 1, n1, .slice Az nz cz, evq ++ [.mv (rd_T33 r1 0) (rd_T33 r2 0)], es1, hlt, ⟨by have := HK.out; omega, by have := HK.out; omega⟩, ⟨(HF.out.stepAt HG.out.2).hm⟩, ⟨(HF.out.stepAt HG.out.2).ht⟩, ⟨(HF.out.stepAt HG.out.2).ho⟩, ⟨(HF.out.stepAt HG.out.2).ha⟩, ⟨by rw [setCell_eq_setRow w6 g7 0 _ 3 (0, 0) _ HF.out.ha]; exact R_setRow HFR.out HF.out.ha (by decide) _⟩, ⟨(HF.out.stepAt HG.out.2).hb⟩, ⟨by rw [List.length_append]; have := HN.out; simp; omega⟩, HS1, ⟨by have h1 := HSum.out; have h2 : n1 + 1 = nq := HNQ.out; omega⟩, ⟨by rw [← HApp.out, ← HEQ.out, HE.out, List.append_assoc]; rfl⟩, ⟨fun g o t h1 h2 h3 h4 => by rw [setCell_eq_setRow w6 g7 0 _ 3 (0, 0) _ HF.out.ha]; exact (setRow_other w6 g7 g _ h4).trans (HFK.out g o t h1 h2 h3 h4)⟩⟩
      ·skip
       refine step_load_33 (by rfl) rfl (.tmp 37) rfl adb (rd_T33 r2 0).f0 (rd_T33 r2 0).f1 rfl yb0 yb1 ?_
       refine hK.out _ _ (HSS.out _ (HEL.out _ HBb.out)) (fun hHeld => ?_)
       clear hK K
       refine norm_ (a' := ?_) ?_ ?_
       rotate_left
       ·show Act.put _ (some 38) _ = _
        simp only [Act.put, lz1, lz2, lz3, i64_w, i32_w]
        rfl
       refine one_ (i := 9) (N := some 29) #[true, true, true, true, true, true, true, true, true, true, true, true, true, true, true, true, true, true, true, false, false, false, false, false] rfl rfl (one_of HT_.out (by kernel_rfl)) (by decide) (fun K hK => ?_)
       refine step_load_33 (by rfl) rfl (.tmp 28) rfl ada (rd_T33 r1 0).f0 (rd_T33 r1 0).f1 rfl ya0 ya1 ?_
       refine hK.out _ _ (HSS.out _ (HEL.out _ HBb.out)) (fun hHeld => ?_)
       clear hK K
       refine norm_ (a' := ?_) ?_ ?_
       rotate_left
       ·show Act.put _ (some 29) _ = _
        simp only [Act.put, lz1, lz2, lz3, i64_w, i32_w]
        rfl
       refine pure_ (i := 19) (N := some 39) (v := ?_) (a' := ?_) #[true, true, true, true, true, true, true, true, true, true, true, true, true, true, true, true, true, true, true, true, false, false, false, false] rfl rfl (any_of HT_.out (by kernel_rfl)) (fun _ _ _ h => h) (Or.inl ⟨by rfl, ?_⟩) ?_ ?_
       rotate_left
       ·intro w'
        go_simp
        with_reducible rfl
       rotate_left
       ·simp only [Act.put, lz1, lz2, lz3, i64_w, i32_w]
        rfl
       refine pure_ (i := 20) (N := some 40) (v := ?_) (a' := ?_) #[true, true, true, true, true, true, true, true, true, true, true, true, true, true, true, true, true, true, true, true, true, false, false, false] rfl rfl (any_of HT_.out (by kernel_rfl)) (fun _ _ _ h => h) (Or.inl ⟨by rfl, ?_⟩) ?_ ?_
       rotate_left
       ·intro w'
        go_simp
        with_reducible rfl
       rotate_left
       ·simp only [Act.put, lz1, lz2, lz3, i64_w, i32_w]
        rfl
       refine one_ (i := 21) (N := some 41) #[true, true, true, true, true, true, true, true, true, true, true, true, true, true, true, true, true, true, true, true, true, true, false, false] rfl rfl (one_of HT_.out (by kernel_rfl)) (by decide) (fun K hK => ?_)
       rw [if_pos (by rfl)]
       unfold Oper.wp execOp
       go_simp
       refine hK.out _ _ (HSS.out _ (HEL.out _ (below_alloc HBb.out _))) (fun hHeld => ?_)
       clear hK K
       refine one_ (i := 22) (N := some 42) #[true, true, true, true, true, true, true, true, true, true, true, true, true, true, true, true, true, true, true, true, true, true, true, false] rfl rfl (one_of HT_.out (by kernel_rfl)) (by decide) (fun K hK => ?_)
       refine Kd.R_append_step (kEv w0) (w0 := w0) w0.heap.size (by rfl) (.tmp 20) (.tmp 41) 60 20 .nilIface 16 rfl Try.underlying60 info20 rfl (by show 0 < 1; omega) (by omega) vq evq (.mv (rd_T33 r1 0) (rd_T33 r2 0)) [.iface 82 (.agg #[.bool (rd_T33 r1 0).f0, .int .i64 (rd_T33 r1 0).f1, .bool (rd_T33 r2 0).f0, .int .i64 (rd_T33 r2 0).f1])] (fun _ => True) (fun _ => False) rfl rfl ⟨_, rfl, rfl⟩ (fun _ h => h.elim) (fun _ _ => trivial) (Kd.R_below HRW.out HBb.out) (HEL.out _ HBb.out).hb (HEL.out _ HBb.out).hb.size (by have := HES.out; have := HN.out; omega) ?_
       intro v1 w1 ho hb hg hn
       have HRb := Aside0.mk (Kd.R_below HRW.out HBb.out)
       have HSb := Aside0.mk (HEL.out _ HBb.out)
       have HWc : Aside0 (EvSt m A1 c1 A3 c3 (some ad) T.length c2 b1 b2 b3 b4 g3 g5 g6 g7 w0 q vq w1) := ⟨⟨blk_grown HSb.out.hm hg (Kd.R_ne HRb.out HSb.out.hm (by decide)), blk_grown HSb.out.ht hg (Kd.R_ne HRb.out HSb.out.ht (by decide)), blk_grown HSb.out.ho hg (Kd.R_ne HRb.out HSb.out.ho (by decide)), blk_grown HSb.out.ha hg (Kd.R_ne HRb.out HSb.out.ha (by decide)), hb⟩⟩
       have HKc : Aside0 (∀ g o t, w.heap[g]? = some (.cells o t (0, 0)) → t ≠ 20 → g ≠ g6 → g ≠ g7 → w1.heap[g]? = some (.cells o t (0, 0))) := ⟨fun g o t h1 h2 h3 h4 => blk_grown (blk_below (HKP.out g o t h1 h2 h3 h4) HBb.out) hg (Kd.R_ne HRb.out (blk_below (HKP.out g o t h1 h2 h3 h4) HBb.out) (fun he => h2 he.symm))⟩
       have HR1c := Aside0.mk ho
       obtain ⟨Az, cz, rfl, hz1, hz2⟩ := Kd.R_reads ho
       clear ho hb hg hn hz1 hz2
       refine hK.out _ _ (HSS.out _ HWc.out) (fun hHeld => ?_)
       clear hK K
       refine norm_ (a' := ?_) ?_ ?_
       rotate_left
       ·show Act.put _ (some 42) _ = _
        simp only [Act.put, lz1, lz2, lz3, i64_w, i32_w]
        rfl
       refine last_ (i := 23) (N := none) #[true, true, true, true, true, true, true, true, true, true, true, true, true, true, true, true, true, true, true, true, true, true, true, true] rfl rfl (one_of HT_.out (by kernel_rfl)) (by decide) (fun K hK => ?_)
       refine step_store_one (by rfl) 60 (.tmp 2) (.tmp 42) rfl g6 (.slice Az (evq ++ [Ev.mv (rd_T33 r1 0) (rd_T33 r2 0)]).length cz) rfl rfl 60 vq HWc.out.ho info60s rfl rfl ?_
       refine hK.out _ _ ?_
       clear hK K
       refine done_ (done_of HT_.out (by kernel_rfl)) ?_
       have HF := Aside0.mk (HWc.out.setOut HG.out.1 (.slice Az (evq ++ [Ev.mv (rd_T33 r1 0) (rd_T33 r2 0)]).length cz))
       have HFR := Aside0.mk (R_setRow HR1c.out HWc.out.ho (by decide) #[.slice Az (evq ++ [Ev.mv (rd_T33 r1 0) (rd_T33 r2 0)]).length cz])
       have HFK : Aside0 (∀ g o t, w.heap[g]? = some (.cells o t (0, 0)) → t ≠ 20 → g ≠ g6 → g ≠ g7 → (w1.setRow g6 #[.slice Az (evq ++ [Ev.mv (rd_T33 r1 0) (rd_T33 r2 0)]).length cz]).heap[g]? = some (.cells o t (0, 0))) := ⟨fun g o t h1 h2 h3 h4 => (setRow_other w1 g6 g _ h3).trans (HKc.out g o t h1 h2 h3 h4)⟩
       clear HWc HKc HR1c HSb HRb hHeld
       generalize (evq ++ [Ev.mv (rd_T33 r1 0) (rd_T33 r2 0)]).length = nz at HF HFR HFK ⊢
       generalize w1.setRow g6 #[.slice Az nz cz] = w6 at HF HFR HFK ⊢
       have c70 : w6.cell? ⟨g7, 0, none⟩ = some (.int .i64 (q : Int)) := (blk_cell HF.out.ha 0).trans rfl
       have f70 := blk_frozen HF.out.ha 0
       go_wp2_with fail
       go_roundg kq
       case measure => (have h1 := HK.out.2; omega)
       case rel => exact ⟨q + 1, n1, .slice Az nz cz, evq ++ [.mv (rd_T33 r1 0) (rd_T33 r2 0)], es1, hlt, ⟨by have := HK.out; omega, by have := HK.out; omega⟩, ⟨(HF.out.stepAt HG.out.2).hm⟩, ⟨(HF.out.stepAt HG.out.2).ht⟩, ⟨(HF.out.stepAt HG.out.2).ho⟩, ⟨(HF.out.stepAt HG.out.2).ha⟩, ⟨by rw [setCell_eq_setRow w6 g7 0 _ 3 (0, 0) _ HF.out.ha]; exact R_setRow HFR.out HF.out.ha (by decide) _⟩, ⟨(HF.out.stepAt HG.out.2).hb⟩, ⟨by rw [List.length_append]; have := HN.out; simp; omega⟩, HS1, ⟨by have h1 := HSum.out; have h2 : n1 + 1 = nq := HNQ.out; omega⟩, ⟨by rw [← HApp.out, ← HEQ.out, HE.out, List.append_assoc]; rfl⟩, ⟨fun g o t h1 h2 h3 h4 => by rw [setCell_eq_setRow w6 g7 0 _ 3 (0, 0) _ HF.out.ha]; exact (setRow_other w6 g7 g _ h4).trans (HFK.out g o t h1 h2 h3 h4)⟩⟩
    ·rw [if_neg hins] at hs
     have hsp := Option.some.inj hs
     have HI : Aside0 (mir_Inserted.f x.f0 = some false) := ⟨by rw [inserted_f]; simpa using hins⟩
     clear hins hs
     go_wp2_with (first | (go_at_call 32; with_reducible refine (mir_Inserted.calls x.f0 false _ HI.out).mono ?_; rintro e w' ⟨rfl, ⟨nd, rfl⟩⟩))
     refine bodyPost_end (results_none rfl _ _ _) rfl ?_
     injection hsp with e1 e2
     subst e1 e2
     have h1 := HSum.out
     have h2 := HApp.out
     rw [List.append_nil] at h2
     refine ⟨rfl, vq, blk_drewN HM.out _, blk_drewN HT.out _, blk_drewN HO.out _, ?_, ?_, pw_below_drewN HB.out _, by omega, fun g o t hg ht h6 h7 => blk_drewN (HKeep.out g o t hg ht h6 h7) _⟩
     ·rw [← h1]; exact blk_drewN HA.out _
     ·rw [← h2]; exact Kd.R_drewN HR.out _
   ·have hqe : q = T.length := by omega
    have hs := HS.out
    rw [hqe, List.drop_length, skipL] at hs
    have hsp := Option.some.inj hs
    have hlt2 : ¬ (q : Int) < (T.length : Int) := by omega
    clear hs
    go_wp2_with fail
    refine bodyPost_end (results_none rfl _ _ _) rfl ?_
    injection hsp with e1 e2
    subst e1 e2
    have h1 := HSum.out
    have h2 := HApp.out
    rw [List.append_nil] at h2
    refine ⟨rfl, HM.out, HT.out, vq, HO.out, ?_, ?_, HB.out, by omega, HKeep.out⟩
    ·have h5 : (p : Int) + (n : Int) = (q : Int) := by omega
     rw [h5]; exact HA.out
    ·rw [← h2]; exact HR.out
end Go.Proofs.Ytdlgkmnloijnbaa.Q
