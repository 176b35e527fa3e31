/- flat.events. -/
import Derived.Test.YtdlgkmnloijnbaaC1HSkip
set_option linter.unusedVariables false
set_option linter.unusedSimpArgs false
namespace Go.Proofs.Ytdlgkmnloijnbaa.Q
open Go.RowKit Go.Proofs.YtdlgkmnloijnbaaW.PrintWords Go.Proofs.YtdlgkmnloijnbaaW.PrintLast Go.Proofs.YtdlgkmnloijnbaaW.PrintMore

theorem results_cell_one {P : Program} {fn : Func} {p : Tmp} {ty : TypeId} (h : fn.results = #[.cell p ty]) (tmps : Array Value) (w : World) (g : Nat) (t : TypeId) (v : Value) (fr : Nat × Nat) (e : TypeId)
  (hp : tmps.getD p undef = .pointer (some ⟨g, 0, none⟩)) (hg : w.heap[g]? = some (.cells #[v] t fr))
  (hu : P.underlying ty = some (.slice e)) :
  (results fn tmps).run P w = .ok v w := by
 have hp' : tmps[p]?.getD undef = .pointer (some ⟨g, 0, none⟩) := by simpa using hp
 have hl : w.cell? ⟨g, 0, none⟩ = some v := cell_of_row w g 0 #[v] t fr hg
 have ha : (isAgg ty).run P w = .ok false w := by
  simp only [isAgg]
  simp [run_underlying hu]
 have hq : (load ⟨g, 0, none⟩).run P w = .ok v w := by
  go_simp
 simp [results, h, hp', asAddr, loadVar, ha, hq, hl]
def ev9_T : Bool × List (List Nat × List Nat) := (true, [([], []), ([], []), ([], []), ([2], [2]), ([], []), ([3, 4], [3, 4]), ([5], [5]), ([], []), ([7], [7]), ([8], [8]), ([1, 6, 9], [1, 6, 9]), ([10], [10]), ([11], [11]), ([0, 12], [0, 12]), ([13, 13, 0, 1, 2, 3, 4, 5, 6, 7, 8, 9, 10, 11, 12, 13], [13])])
def ev9_B : List Nat := [0, 0, 0, 4, 0, 28, 60, 0, 128, 384, 1022, 2046, 4094, 8191, 16383]
theorem ev9_tab : rtab .any (opsOf Try.f21 9) = ev9_T := by kernel_rfl
theorem ev9_bits : waitsOk ev9_T.2 ev9_B = true := by kernel_rfl
theorem skipL_len (k : Nat) (m : S24) : ∀ (l : List S56) (n : Nat) (es : List Ev), skipL k m l = some (n, es) → es.length = n
 | [], n, es, h => by
  rw [skipL] at h
  injection h with h
  injection h with h1 h2
  subst h1 h2
  rfl
 | x :: l, n, es, h => by
  rw [skipL] at h
  by_cases hi : insB x.f0 = true
  ·rw [if_pos hi] at h
   obtain ⟨e, _, h⟩ := Option.bind_eq_some_iff.1 h
   obtain ⟨⟨n1, es1⟩, h1, h⟩ := Option.bind_eq_some_iff.1 h
   have ih := skipL_len k m l n1 es1 h1
   injection h with h
   injection h with h2 h3
   subst h2 h3
   simp [ih]
  ·rw [if_neg hi] at h
   injection h with h
   injection h with h1 h2
   subst h1 h2
   rfl
theorem EvSt.setNew {m : S24} {A1 : Option Addr} {c1 : Nat} {A3 : Option Addr} {c3 : Nat} {A2 : Option Addr} {n2 c2 : Nat} {b1 b2 b3 b4 : Int} {g3 g5 g6 g7 : Nat} {w0 : World} {q : Nat} {v : Value} {W : World} (h : EvSt m A1 c1 A3 c3 A2 n2 c2 b1 b2 b3 b4 g3 g5 g6 g7 w0 q v W) {g : Nat} {cs : Array Value} (hg : W.heap[g]? = some (.cells cs 56 (0, 0))) (hb : w0.heap.size ≤ g) (S : Array Value) : EvSt m A1 c1 A3 c3 A2 n2 c2 b1 b2 b3 b4 g3 g5 g6 g7 w0 q v (W.setRow g S) :=
 ⟨(setRow_other W g g3 _ (blk_ne h.hm hg (by decide))).trans h.hm, (setRow_other W g g5 _ (blk_ne h.ht hg (by decide))).trans h.ht, (setRow_other W g g6 _ (blk_ne h.ho hg (by decide))).trans h.ho, (setRow_other W g g7 _ (blk_ne h.ha hg (by decide))).trans h.ha, setRow_below _ h.hb hb⟩
theorem EvSt.grown {m : S24} {A1 : Option Addr} {c1 : Nat} {A3 : Option Addr} {c3 : Nat} {A2 : Option Addr} {n2 c2 : Nat} {b1 b2 b3 b4 : Int} {g3 g5 g6 g7 : Nat} {w0 : World} {q : Nat} {v : Value} {W W1 : World} (h : EvSt m A1 c1 A3 c3 A2 n2 c2 b1 b2 b3 b4 g3 g5 g6 g7 w0 q v W) {u : Value} {evs : List Ev} (hR : (kEv w0).R 20 W w0.heap.size (fun _ => True) u evs) (hg : W.grownBy W1 u.ownBlock) (hb : Below w0.heap.size w0 W1) : EvSt m A1 c1 A3 c3 A2 n2 c2 b1 b2 b3 b4 g3 g5 g6 g7 w0 q v W1 :=
 ⟨blk_grown h.hm hg (Kd.R_ne hR h.hm (by decide)), blk_grown h.ht hg (Kd.R_ne hR h.ht (by decide)), blk_grown h.ho hg (Kd.R_ne hR h.ho (by decide)), blk_grown h.ha hg (Kd.R_ne hR h.ha (by decide)), hb⟩
set_option maxHeartbeats 3200000 in
set_option maxRecDepth 100000 in
theorem events_calls (k : Nat) (m : S24) (A1 : Option Addr) (c1 : Nat) (A3 : Option Addr) (c3 : Nat) (S T : List S56) (As At : Option Addr) (cs ct : Nat) (a1 a2 a3 a4 b1 b2 b3 b4 : Int) (w0 : World) (evs : List Ev)
  (hC1 : Kd.C (Kd.int .i64) w0 A1 m.f1.length m.f1) (hl1 : m.f1.length ≤ c1) (hC3 : Kd.C (Kd.int .i64) w0 A3 m.f3.length m.f3) (hl3 : m.f3.length ≤ c3)
  (hCs : Kd.C k56 w0 As S.length S) (hls : S.length ≤ cs) (hCt : Kd.C k56 w0 At T.length T) (hlt : T.length ≤ ct) (hS : S.length ≤ 1000000) (hT : T.length ≤ 1000000)
  (he : eventsL k m S T = some evs) :
  Calls Try.prog 21 #[.agg #[.int .i64 m.f0, .slice A1 m.f1.length c1, .int .i64 m.f2, .slice A3 m.f3.length c3], .agg #[.slice As S.length cs, .int .i64 a1, .int .i64 a2, .int .i64 a3, .int .i64 a4], .agg #[.slice At T.length ct, .int .i64 b1, .int .i64 b2, .int .i64 b3, .int .i64 b4]] w0 fun e w' => ∃ v, e = .returned v ∧ (kEv w0).R 20 w' w0.heap.size (fun _ => True) v evs ∧ Below w0.heap.size w0 w' := by
 have HC1 := Aside0.mk hC1
 have HC3 := Aside0.mk hC3
 have HCs := Aside0.mk hCs
 have HCt := Aside0.mk hCt
 have HL := Aside0.mk (And.intro hl1 (And.intro hl3 (And.intro hls (And.intro hlt (And.intro hS hT)))))
 have HE0 := Aside0.mk he
 have hmf : ∀ (fn : Fn) (first cap : Array Value) (w : World), (Instr.makeFunc fn first cap).run Try.prog w = .ok (.func fn first cap) w := fun _ _ _ _ => rfl
 clear hC1 hC3 hCs hCt hl1 hl3 hls hlt he
 go_enter Try.func21, Try.ntmps21
 go_wp2_with (first
  | ((with_reducible refine gate_dst (N := 3) rfl ?_); refine box_event ?hg (N := 3) ?hd (cs := #[.int .i64 m.f0, .slice A1 m.f1.length c1, .int .i64 m.f2, .slice A3 m.f3.length c3]) (t := 24) ?hr ?_; (case hd => rfl); (case hg => rfl); (case hr => first | (go_simp; done) | (go_simp; rfl)); intro g3 hg w3 hbox hb; have HB3 := Aside0.mk hb; have X33 := Aside0.mk hbox; clear hb hbox hg)
  | ((with_reducible refine gate_dst (N := 4) rfl ?_); refine box_event ?hg (N := 4) ?hd (cs := #[.slice As S.length cs, .int .i64 a1, .int .i64 a2, .int .i64 a3, .int .i64 a4]) (t := 31) ?hr ?_; (case hd => rfl); (case hg => rfl); (case hr => first | (go_simp; done) | (go_simp; rfl)); intro g4 hg w4 hbox hb; have HB4 := Aside0.mk (below_step HB3.out hb); have X34 := Aside0.mk (blk_below X33.out hb); have X44 := Aside0.mk hbox; clear hb hbox hg HB3 X33)
  | ((with_reducible refine gate_dst (N := 5) rfl ?_); refine box_event ?hg (N := 5) ?hd (cs := #[.slice At T.length ct, .int .i64 b1, .int .i64 b2, .int .i64 b3, .int .i64 b4]) (t := 31) ?hr ?_; (case hd => rfl); (case hg => rfl); (case hr => first | (go_simp; done) | (go_simp; rfl)); intro g5 hg w5 hbox hb; have HB5 := Aside0.mk (below_step HB4.out hb); have X35 := Aside0.mk (blk_below X34.out hb); have X45 := Aside0.mk (blk_below X44.out hb); have X55 := Aside0.mk hbox; have N45 : Aside0 (g4 ≠ g5) := ⟨by have := blk_lt X44.out; omega⟩; clear hb hbox hg HB4 X34 X44)
  | ((with_reducible refine gate_dst (N := 6) rfl ?_); refine box_event ?hg (N := 6) ?hd (cs := #[.slice none 0 0]) (t := 60) ?hr ?_; (case hd => rfl); (case hg => rfl); (case hr => first | (go_simp; done) | (go_simp; rfl)); intro g6 hg w6 hbox hb; have HB6 := Aside0.mk (below_step HB5.out hb); have X36 := Aside0.mk (blk_below X35.out hb); have X46 := Aside0.mk (blk_below X45.out hb); have X56 := Aside0.mk (blk_below X55.out hb); have X66 := Aside0.mk hbox; have G6 : Aside0 (w0.heap.size ≤ g6) := ⟨by have := HB5.out.size; omega⟩; clear hb hbox hg HB5 X35 X45 X55)
  | ((with_reducible refine gate_dst (N := 7) rfl ?_); refine box_event ?hg (N := 7) ?hd (cs := #[.int .i64 0]) (t := 3) ?hr ?_; (case hd => rfl); (case hg => rfl); (case hr => first | (go_simp; done) | (go_simp; rfl)); intro g7 hg w7 hbox hb; have HB7 := Aside0.mk (below_step HB6.out hb); have X37 := Aside0.mk (blk_below X36.out hb); have X47 := Aside0.mk (blk_below X46.out hb); have X57 := Aside0.mk (blk_below X56.out hb); have X67 := Aside0.mk (blk_below X66.out hb); have X77 := Aside0.mk hbox; have G7 : Aside0 (w0.heap.size ≤ g7) := ⟨by have := HB6.out.size; omega⟩; clear hb hbox hg HB6 X36 X46 X56 X66)
  | ((with_reducible refine gate_stores (x := .tmp 7) (y := .const (.int .i64 0)) 3 rfl ?_); refine wpList_store_one rfl 3 (.tmp 7) (.const (.int .i64 0)) rfl g7 (.int .i64 0) rfl rfl 3 (.int .i64 0) X77.out info3s rfl rfl ?_; have HW : Aside0 (EvSt m A1 c1 A3 c3 At T.length ct b1 b2 b3 b4 g3 g5 g6 g7 w0 0 (.slice none 0 0) (w7.setRow g7 #[.int .i64 ((0 : Nat) : Int)])) := ⟨EvSt.setAt (EvSt.mk X37.out X57.out X67.out (q := 0) X77.out HB7.out) G7.out 0⟩; have X48 := Aside0.mk ((setRow_other w7 g7 g4 #[.int .i64 ((0 : Nat) : Int)] (blk_ne X47.out X77.out (by decide))).trans X47.out); change wpList _ _ _ _ _ (w7.setRow g7 #[.int .i64 ((0 : Nat) : Int)]); clear X37 X47 X57 X67 X77 HB7; generalize w7.setRow g7 #[.int .i64 ((0 : Nat) : Int)] = w8 at HW X48 ⊢; have c40 := (blk_cell X48.out 0).trans rfl; have f40 := blk_frozen X48.out 0))
 go_loopw [15] (fun vi wr => ∃ (j q : Nat) (vq : Value) (evq rest : List Ev), j ≤ S.length ∧ vi = .int .i64 (j : Int) ∧ q ≤ T.length ∧ Aside0 (EvSt m A1 c1 A3 c3 At T.length ct b1 b2 b3 b4 g3 g5 g6 g7 w0 q vq wr) ∧ Aside0 ((kEv w0).R 20 wr w0.heap.size (fun _ => True) vq evq) ∧ Aside0 (wr.heap[g4]? = some (.cells #[.slice As S.length cs, .int .i64 a1, .int .i64 a2, .int .i64 a3, .int .i64 a4] 31 (0, 0))) ∧ Aside0 (eventsL k m (S.drop j) (T.drop q) = some rest) ∧ Aside0 (evq ++ rest = evs) ∧ Aside0 (evq.length ≤ j + q)) (fun vi _ => S.length - (intOf vi).toNat)
 case atStart => exact ⟨0, 0, .slice none 0 0, [], evs, Nat.zero_le _, rfl, Nat.zero_le _, HW, ⟨Kd.R_nil _ _ _ _ _⟩, X48, HE0, ⟨rfl⟩, ⟨Nat.le_refl _⟩⟩
 case round =>
  clear HW X48 HE0
  obtain ⟨j, q, vq, evq, rest, hj, rfl, hq, HWr, HRr, H4r, HEr, HAr, HNr⟩ := hrel
  by_cases hlt : j < S.length
  ·obtain ⟨x, hx⟩ : ∃ x, S[j]? = some x := ⟨_, List.getElem?_eq_getElem hlt⟩
   obtain ⟨ad, A6, c6, rfl, h0, h1, h2, h3, h4, h5, h6, h7, hl6, hi6⟩ := at_T56 HCs.out (j : Int) (by omega) (by omega)
   rw [rd_T56_nat S j x hx] at h0 h1 h2 h3 h4 h5 h6 h7 hl6 hi6
   simp only [Int.toNat_natCast] at h0 h1 h2 h3 h4 h5 h6 h7
   have hz : ∀ {a : Addr} {u : Value}, w0.cell? a = some u → wr.cell? a = some u := fun hy => (HWr.out.hb.cell (World.block_lt_of_cell? w0 _ hy)).trans hy
   replace h0 := hz h0
   replace h1 := hz h1
   replace h2 := hz h2
   replace h3 := hz h3
   replace h4 := hz h4
   replace h5 := hz h5
   replace h6 := hz h6
   replace h7 := hz h7
   have HX6 := Aside0.mk (And.intro hl6 hi6)
   clear hz
   have hd : S.drop j = x :: S.drop (j + 1) := by
    rw [List.drop_eq_getElem_cons hlt]
    congr 1
    rw [List.getElem?_eq_getElem hlt] at hx
    exact Option.some.inj hx
   have hji : (j : Int) < (S.length : Int) := by exact_mod_cast hlt
   have he := HEr.out
   rw [hd, eventsL] at he
   clear hd hx
   by_cases hop : x.f0 = 14
   ·rw [if_pos hop] at he
    obtain ⟨es, hes, he⟩ := Option.bind_eq_some_iff.1 he
    have HES := Aside0.mk hes
    have HER : Aside0 (Ev.cp x.f1 x.f2 :: es = rest) := ⟨Option.some.inj he⟩
    have hopb : (x.f0 == 14) = true := by rw [hop]; rfl
    clear he hes hl6 hi6 hop
    go_wp2_with (first
     | ((with_reducible refine gate_dst (N := 10) rfl ?_); refine box_event ?hg (N := 10) ?hd (cs := #[.int .i64 0, .int .i64 0, .int .i64 0, .int .i64 0, .int .i64 0, .int .i64 0, .slice none 0 0, .int .i64 0]) (t := 56) ?hr ?_; (case hd => rfl); (case hg => rfl); (case hr => first | (go_simp; done) | (go_simp; rfl)); intro g10 hg w10 hbox hb; have HX10 := Aside0.mk hbox; have HW1 := Aside0.mk (HWr.out.below hb); have HR1 := Aside0.mk (Kd.R_below HRr.out hb); have H41 := Aside0.mk (blk_below H4r.out hb); have G10 : Aside0 (w0.heap.size ≤ g10) := ⟨by have := HWr.out.hb.size; omega⟩; clear hb hbox hg)
     | ((with_reducible refine gate_stores (x := .tmp 10) (y := .tmp 18) 56 rfl ?_); refine wpList_store_row rfl 56 (.tmp 10) (.tmp 18) rfl g10 #[.int .i64 x.f0, .int .i64 x.f1, .int .i64 x.f2, .int .i64 x.f3, .int .i64 x.f4, .int .i64 x.f5, .slice A6 x.f6.length c6, .int .i64 x.f7] rfl rfl 56 _ HX10.out info56s rfl (one56 x A6 c6) ?_; have X10 := Aside0.mk (setRow_heap _ _ _ #[.int .i64 x.f0, .int .i64 x.f1, .int .i64 x.f2, .int .i64 x.f3, .int .i64 x.f4, .int .i64 x.f5, .slice A6 x.f6.length c6, .int .i64 x.f7] _ _ HX10.out); have HW2 := Aside0.mk (HW1.out.setNew HX10.out G10.out #[.int .i64 x.f0, .int .i64 x.f1, .int .i64 x.f2, .int .i64 x.f3, .int .i64 x.f4, .int .i64 x.f5, .slice A6 x.f6.length c6, .int .i64 x.f7]); have HR2 := Aside0.mk (R_setRow HR1.out HX10.out (by decide) #[.int .i64 x.f0, .int .i64 x.f1, .int .i64 x.f2, .int .i64 x.f3, .int .i64 x.f4, .int .i64 x.f5, .slice A6 x.f6.length c6, .int .i64 x.f7]); have H42 := Aside0.mk ((setRow_other w10 g10 g4 #[.int .i64 x.f0, .int .i64 x.f1, .int .i64 x.f2, .int .i64 x.f3, .int .i64 x.f4, .int .i64 x.f5, .slice A6 x.f6.length c6, .int .i64 x.f7] (blk_ne H41.out HX10.out (by decide))).trans H41.out); clear HX10 HW1 HR1 H41; generalize w10.setRow g10 #[.int .i64 x.f0, .int .i64 x.f1, .int .i64 x.f2, .int .i64 x.f3, .int .i64 x.f4, .int .i64 x.f5, .slice A6 x.f6.length c6, .int .i64 x.f7] = w11 at X10 HW2 HR2 H42 ⊢; have x0 := (blk_cell X10.out 0).trans rfl; have x1 := (blk_cell X10.out 1).trans rfl; have x2 := (blk_cell X10.out 2).trans rfl; have c60 : w11.cell? ⟨g6, 0, none⟩ = some vq := (blk_cell HW2.out.ho 0).trans rfl; have f60 := blk_frozen HW2.out.ho 0)
     | (at_builtin; refine Kd.R_append (kEv w0) (w0 := w0) w0.heap.size rfl (.tmp 22) (.tmp 29) 60 20 .nilIface 16 rfl Try.underlying60 info20 rfl (by show 0 < 1; omega) (by omega) vq evq (.cp x.f1 x.f2) [.iface 84 (.agg #[.int .i64 x.f1, .int .i64 x.f2])] (fun _ => True) (fun _ => False) rfl rfl ⟨_, rfl, rfl⟩ (fun _ h => h.elim) (fun _ _ => trivial) HR2.out HW2.out.hb HW2.out.hb.size (by have := HNr.out; have := HL.out; omega) ?_; intro v1 w12 ho hb hg hn; have HW3 := Aside0.mk (HW2.out.grown HR2.out hg hb); have HR3 := Aside0.mk ho; have H43 := Aside0.mk (blk_grown H42.out hg (Kd.R_ne HR2.out H42.out (by decide))); obtain ⟨Az, cz, rfl, hz1, hz2⟩ := Kd.R_reads ho; clear ho hb hg hn hz1 hz2)
     | ((with_reducible refine gate_stores (x := .tmp 6) (y := .tmp 30) 60 rfl ?_); refine wpList_store_one rfl 60 (.tmp 6) (.tmp 30) rfl g6 (.slice Az (evq ++ [Ev.cp x.f1 x.f2]).length cz) rfl rfl 60 vq HW3.out.ho info60s rfl rfl ?_; have HW4 := Aside0.mk (HW3.out.setOut G6.out (.slice Az (evq ++ [Ev.cp x.f1 x.f2]).length cz)); have HR4 := Aside0.mk (R_setRow HR3.out HW3.out.ho (by decide) #[.slice Az (evq ++ [Ev.cp x.f1 x.f2]).length cz]); have H44 := Aside0.mk ((setRow_other w12 g6 g4 #[.slice Az (evq ++ [Ev.cp x.f1 x.f2]).length cz] (blk_ne H43.out HW3.out.ho (by decide))).trans H43.out); clear HW3 HR3 H43; generalize (evq ++ [Ev.cp x.f1 x.f2]).length = nz at HW4 HR4 H44 ⊢; generalize w12.setRow g6 #[.slice Az nz cz] = w13 at HW4 HR4 H44 ⊢))
    go_roundw
    case rel => exact ⟨j + 1, q, .slice Az nz cz, evq ++ [Ev.cp x.f1 x.f2], es, hlt, by go_num, hq, HW4, HR4, H44, HES, ⟨by rw [← HAr.out, ← HER.out, List.append_assoc]; rfl⟩, ⟨by rw [List.length_append]; have := HNr.out; simp; omega⟩⟩
    case measure => simp [intOf]; omega
   ·skip
    have hopb : (x.f0 == 14) = false := by rw [beq_eq_false_iff_ne]; exact hop
    rw [if_neg hop] at he
    obtain ⟨⟨n, es⟩, hsk, he⟩ := Option.bind_eq_some_iff.1 he
    have HSK := Aside0.mk hsk
    have HLE : Aside0 ((evq ++ es).length ≤ j + q + n) := ⟨by have := HNr.out; have := skipL_len k m _ _ _ hsk; rw [List.length_append]; omega⟩
    obtain ⟨q2, hq2⟩ : ∃ q2, q2 = q + n := ⟨_, rfl⟩
    have HQ2 := Aside0.mk hq2
    simp only [List.drop_drop] at he
    rw [← hq2] at he
    have hex : ∃ y, T[q2]? = some y := by
     rcases hy : T[q2]? with _ | y
     ·rw [List.drop_eq_nil_of_le (List.getElem?_eq_none_iff.1 hy)] at he
      exact absurd he (by simp)
     ·exact ⟨y, rfl⟩
    obtain ⟨y, hy⟩ := hex
    have hq2t : q2 < T.length := (List.getElem?_eq_some_iff.1 hy).1
    have hd2 : T.drop q2 = y :: T.drop (q2 + 1) := by
     rw [List.drop_eq_getElem_cons hq2t]
     congr 1
     rw [List.getElem?_eq_getElem hq2t] at hy
     exact Option.some.inj hy
    rw [hd2] at he
    obtain ⟨es2, hes2, he⟩ := Option.bind_eq_some_iff.1 he
    have HES2 := Aside0.mk hes2
    have HER : Aside0 (es ++ Ev.dn x y (x.f0 == 13) :: es2 = rest) := ⟨Option.some.inj he⟩
    obtain ⟨ad2, A7, c7, rfl, z0, z1, z2, z3, z4, z5, z6, z7, zl, zi⟩ := at_T56 HCt.out (q2 : Int) (by omega) (by omega)
    rw [rd_T56_nat T q2 y hy] at z0 z1 z2 z3 z4 z5 z6 z7 zl zi
    simp only [Int.toNat_natCast] at z0 z1 z2 z3 z4 z5 z6 z7
    have HY := Aside0.mk (And.intro z0 (And.intro z1 (And.intro z2 (And.intro z3 (And.intro z4 (And.intro z5 (And.intro z6 z7)))))))
    have HY6 := Aside0.mk (And.intro zl zi)
    have hq2i : (q2 : Int) < (T.length : Int) := by exact_mod_cast hq2t
    clear he hes2 hsk hl6 hi6 hop hd2 hy hq2 z0 z1 z2 z3 z4 z5 z6 z7 zl zi
    go_wp2_with (first
     | ((with_reducible refine gate_dst (N := 10) rfl ?_); refine box_event ?hg (N := 10) ?hd (cs := #[.int .i64 0, .int .i64 0, .int .i64 0, .int .i64 0, .int .i64 0, .int .i64 0, .slice none 0 0, .int .i64 0]) (t := 56) ?hr ?_; (case hd => rfl); (case hg => rfl); (case hr => first | (go_simp; done) | (go_simp; rfl)); intro g10 hg w10 hbox hb; have HX10 := Aside0.mk hbox; have HW1 := Aside0.mk (HWr.out.below hb); have HR1 := Aside0.mk (Kd.R_below HRr.out hb); have H41 := Aside0.mk (blk_below H4r.out hb); have G10 : Aside0 (w0.heap.size ≤ g10) := ⟨by have := HWr.out.hb.size; omega⟩; clear hb hbox hg)
     | ((with_reducible refine gate_stores (x := .tmp 10) (y := .tmp 18) 56 rfl ?_); refine wpList_store_row rfl 56 (.tmp 10) (.tmp 18) rfl g10 #[.int .i64 x.f0, .int .i64 x.f1, .int .i64 x.f2, .int .i64 x.f3, .int .i64 x.f4, .int .i64 x.f5, .slice A6 x.f6.length c6, .int .i64 x.f7] rfl rfl 56 _ HX10.out info56s rfl (one56 x A6 c6) ?_; have X10 := Aside0.mk (setRow_heap _ _ _ #[.int .i64 x.f0, .int .i64 x.f1, .int .i64 x.f2, .int .i64 x.f3, .int .i64 x.f4, .int .i64 x.f5, .slice A6 x.f6.length c6, .int .i64 x.f7] _ _ HX10.out); have HW2 := Aside0.mk (HW1.out.setNew HX10.out G10.out #[.int .i64 x.f0, .int .i64 x.f1, .int .i64 x.f2, .int .i64 x.f3, .int .i64 x.f4, .int .i64 x.f5, .slice A6 x.f6.length c6, .int .i64 x.f7]); have HR2 := Aside0.mk (R_setRow HR1.out HX10.out (by decide) #[.int .i64 x.f0, .int .i64 x.f1, .int .i64 x.f2, .int .i64 x.f3, .int .i64 x.f4, .int .i64 x.f5, .slice A6 x.f6.length c6, .int .i64 x.f7]); have H42 := Aside0.mk ((setRow_other w10 g10 g4 #[.int .i64 x.f0, .int .i64 x.f1, .int .i64 x.f2, .int .i64 x.f3, .int .i64 x.f4, .int .i64 x.f5, .slice A6 x.f6.length c6, .int .i64 x.f7] (blk_ne H41.out HX10.out (by decide))).trans H41.out); clear HX10 HW1 HR1 H41; generalize w10.setRow g10 #[.int .i64 x.f0, .int .i64 x.f1, .int .i64 x.f2, .int .i64 x.f3, .int .i64 x.f4, .int .i64 x.f5, .slice A6 x.f6.length c6, .int .i64 x.f7] = w11 at X10 HW2 HR2 H42 ⊢; have x0 := (blk_cell X10.out 0).trans rfl; have x1 := (blk_cell X10.out 1).trans rfl; have x2 := (blk_cell X10.out 2).trans rfl; have c60 : w11.cell? ⟨g6, 0, none⟩ = some vq := (blk_cell HW2.out.ho 0).trans rfl; have f60 := blk_frozen HW2.out.ho 0)
     | (go_at_call 43; refine (skip_calls k m A1 c1 A3 c3 T (some ad2) ct b1 b2 b3 b4 g3 g5 g6 g7 w0 _ q n vq evq es HW2.out.hm HW2.out.ht HW2.out.ho HW2.out.ha G6.out G7.out HC1.out HL.out.1 HC3.out HL.out.2.1 HCt.out HL.out.2.2.2.1 hT hq HR2.out HW2.out.hb (by have := HNr.out; have := HL.out; omega) HSK.out).mono ?_; rintro e w12 ⟨rfl, v12, km, kt, ko, ka, kr, kb, kle, kkeep⟩; rw [← HQ2.out] at ka; have HW3 : Aside0 (EvSt m A1 c1 A3 c3 (some ad2) T.length ct b1 b2 b3 b4 g3 g5 g6 g7 w0 q2 v12 w12) := ⟨EvSt.mk km kt ko ka kb⟩; have HR3 := Aside0.mk kr; have H43 := Aside0.mk (kkeep g4 _ 31 H42.out (by decide) (blk_ne H42.out HW2.out.ho (by decide)) (blk_ne H42.out HW2.out.ha (by decide))); have X103 := Aside0.mk (kkeep g10 _ 56 X10.out (by decide) (blk_ne X10.out HW2.out.ho (by decide)) (blk_ne X10.out HW2.out.ha (by decide))); clear km kt ko ka kr kb kle kkeep))
    clear x0 x1 x2 c60 f60 h0 h1 h2 h3 h4 h5 h6 h7 HW2 HR2 H42 X10 HWr HRr H4r
    have hSS : ∀ w', EvSt m A1 c1 A3 c3 (some ad2) T.length ct b1 b2 b3 b4 g3 g5 g6 g7 w0 q2 v12 w' → w'.heap[g10]? = some (.cells #[.int .i64 x.f0, .int .i64 x.f1, .int .i64 x.f2, .int .i64 x.f3, .int .i64 x.f4, .int .i64 x.f5, .slice A6 x.f6.length c6, .int .i64 x.f7] 56 (0, 0)) → w'.cell? ⟨g6, 0, none⟩ = some v12 ∧ w'.cell? ⟨g10, 0, none⟩ = some (.int .i64 x.f0) ∧ w'.cell? ⟨g10, 1, none⟩ = some (.int .i64 x.f1) ∧ w'.cell? ⟨g10, 2, none⟩ = some (.int .i64 x.f2) ∧ w'.cell? ⟨g10, 3, none⟩ = some (.int .i64 x.f3) ∧ w'.cell? ⟨g10, 4, none⟩ = some (.int .i64 x.f4) ∧ w'.cell? ⟨g10, 5, none⟩ = some (.int .i64 x.f5) ∧ w'.cell? ⟨g10, 6, none⟩ = some (.slice A6 x.f6.length c6) ∧ w'.cell? ⟨g10, 7, none⟩ = some (.int .i64 x.f7) ∧ w'.cell? ⟨g5, 0, none⟩ = some (.slice (some ad2) T.length ct) ∧ w'.cell? ⟨g7, 0, none⟩ = some (.int .i64 (q2 : Int)) ∧ w'.cell? (ad2.add (q2 * 8)) = some (.int .i64 y.f0) ∧ w'.cell? ⟨(ad2.add (q2 * 8)).block, (ad2.add (q2 * 8)).off + 1, none⟩ = some (.int .i64 y.f1) ∧ w'.cell? ⟨(ad2.add (q2 * 8)).block, (ad2.add (q2 * 8)).off + 2, none⟩ = some (.int .i64 y.f2) ∧ w'.cell? ⟨(ad2.add (q2 * 8)).block, (ad2.add (q2 * 8)).off + 3, none⟩ = some (.int .i64 y.f3) ∧ w'.cell? ⟨(ad2.add (q2 * 8)).block, (ad2.add (q2 * 8)).off + 4, none⟩ = some (.int .i64 y.f4) ∧ w'.cell? ⟨(ad2.add (q2 * 8)).block, (ad2.add (q2 * 8)).off + 5, none⟩ = some (.int .i64 y.f5) ∧ w'.cell? ⟨(ad2.add (q2 * 8)).block, (ad2.add (q2 * 8)).off + 6, none⟩ = some (.slice A7 y.f6.length c7) ∧ w'.cell? ⟨(ad2.add (q2 * 8)).block, (ad2.add (q2 * 8)).off + 7, none⟩ = some (.int .i64 y.f7) := fun w' h h10 => by
     obtain ⟨y0, y1, y2, y3, y4, y5, y6, y7⟩ := HY.out
     have hz : ∀ {a : Addr} {u : Value}, w0.cell? a = some u → w'.cell? a = some u := fun hy => (h.hb.cell (World.block_lt_of_cell? w0 _ hy)).trans hy
     exact ⟨(blk_cell h.ho 0).trans rfl, (blk_cell h10 0).trans rfl, (blk_cell h10 1).trans rfl, (blk_cell h10 2).trans rfl, (blk_cell h10 3).trans rfl, (blk_cell h10 4).trans rfl, (blk_cell h10 5).trans rfl, (blk_cell h10 6).trans rfl, (blk_cell h10 7).trans rfl, (blk_cell h.ht 0).trans rfl, (blk_cell h.ha 0).trans rfl, hz y0, hz y1, hz y2, hz y3, hz y4, hz y5, hz y6, hz y7⟩
    have HSS := Aside0.mk hSS
    clear hSS
    have HWd := Aside0.mk (HW3.out.below (W' := w12.drew) (below_drew1 (Below.refl _ _)))
    have HRd := Aside0.mk (Kd.R_below HR3.out (below_drew1 (Below.refl _ _)))
    have H4d := Aside0.mk (blk_below H43.out (below_drew1 (Below.refl w12.heap.size w12)))
    have Xd := Aside0.mk (blk_below X103.out (below_drew1 (Below.refl w12.heap.size w12)))
    refine start_ (n := 15) (S := fun w' => w'.cell? ⟨g6, 0, none⟩ = some v12 ∧ w'.cell? ⟨g10, 0, none⟩ = some (.int .i64 x.f0) ∧ w'.cell? ⟨g10, 1, none⟩ = some (.int .i64 x.f1) ∧ w'.cell? ⟨g10, 2, none⟩ = some (.int .i64 x.f2) ∧ w'.cell? ⟨g10, 3, none⟩ = some (.int .i64 x.f3) ∧ w'.cell? ⟨g10, 4, none⟩ = some (.int .i64 x.f4) ∧ w'.cell? ⟨g10, 5, none⟩ = some (.int .i64 x.f5) ∧ w'.cell? ⟨g10, 6, none⟩ = some (.slice A6 x.f6.length c6) ∧ w'.cell? ⟨g10, 7, none⟩ = some (.int .i64 x.f7) ∧ w'.cell? ⟨g5, 0, none⟩ = some (.slice (some ad2) T.length ct) ∧ w'.cell? ⟨g7, 0, none⟩ = some (.int .i64 (q2 : Int)) ∧ w'.cell? (ad2.add (q2 * 8)) = some (.int .i64 y.f0) ∧ w'.cell? ⟨(ad2.add (q2 * 8)).block, (ad2.add (q2 * 8)).off + 1, none⟩ = some (.int .i64 y.f1) ∧ w'.cell? ⟨(ad2.add (q2 * 8)).block, (ad2.add (q2 * 8)).off + 2, none⟩ = some (.int .i64 y.f2) ∧ w'.cell? ⟨(ad2.add (q2 * 8)).block, (ad2.add (q2 * 8)).off + 3, none⟩ = some (.int .i64 y.f3) ∧ w'.cell? ⟨(ad2.add (q2 * 8)).block, (ad2.add (q2 * 8)).off + 4, none⟩ = some (.int .i64 y.f4) ∧ w'.cell? ⟨(ad2.add (q2 * 8)).block, (ad2.add (q2 * 8)).off + 5, none⟩ = some (.int .i64 y.f5) ∧ w'.cell? ⟨(ad2.add (q2 * 8)).block, (ad2.add (q2 * 8)).off + 6, none⟩ = some (.slice A7 y.f6.length c7) ∧ w'.cell? ⟨(ad2.add (q2 * 8)).block, (ad2.add (q2 * 8)).off + 7, none⟩ = some (.int .i64 y.f7)) (ds := [14]) #[false, false, false, false, false, false, false, false, false, false, false, false, false, false, false] (by kernel_rfl) rfl rfl (HSS.out _ HWd.out Xd.out) (fun hHeld => ?_); refine with_tabW ev9_tab ev9_bits (fun HT_ HW_ => ?_)
    generalize w12.drew = wc at HWd HRd H4d Xd hHeld ⊢
    clear HW3 HR3 H43 X103
    refine take_ (i := 0) (N := some 33) (v := ?_) (a' := ?_) #[true, false, false, false, false, false, false, false, false, false, false, false, false, false, false] rfl rfl (take_ofW HT_.out HW_.out (by kernel_rfl)) (fun _ _ _ h => h) (Or.inl ⟨by rfl, ?_⟩) hHeld ?_ ?_
    rotate_left
    ·rintro w' ⟨s0, s1, s2, s3, s4, s5, s6, s7, s8, s9, s10, s11, s12, s13, s14, s15, s16, s17, s18⟩
     go_simp
     with_reducible rfl
    rotate_left
    ·simp only [Act.put, lz1, lz2, lz3, i64_w, i32_w]
     rfl
    refine take_ (i := 1) (N := some 34) (v := ?_) (a' := ?_) #[true, true, false, false, false, false, false, false, false, false, false, false, false, false, false] rfl rfl (take_ofW HT_.out HW_.out (by kernel_rfl)) (fun _ _ _ h => h) (Or.inl ⟨by rfl, ?_⟩) hHeld ?_ ?_
    rotate_left
    ·rintro w' ⟨s0, s1, s2, s3, s4, s5, s6, s7, s8, s9, s10, s11, s12, s13, s14, s15, s16, s17, s18⟩
     go_simp
     with_reducible rfl
    rotate_left
    ·simp only [Act.put, lz1, lz2, lz3, i64_w, i32_w]
     rfl
    refine pure_ (i := 2) (N := some 35) (v := ?_) (a' := ?_) #[true, true, true, false, false, false, false, false, false, false, false, false, false, false, false] rfl rfl (any_of HT_.out (by kernel_rfl)) (fun _ _ _ h => h) (Or.inl ⟨by rfl, ?_⟩) ?_ ?_
    rotate_left
    ·intro w'
     go_simp
     with_reducible rfl
    rotate_left
    ·simp only [Act.put, lz1, lz2, lz3, i64_w, i32_w]
     rfl
    refine take_ (i := 3) (N := some 36) (v := ?_) (a' := ?_) #[true, true, true, true, false, false, false, false, false, false, false, false, false, false, false] rfl rfl (take_ofW HT_.out HW_.out (by kernel_rfl)) (fun _ _ _ h => h) (Or.inl ⟨by rfl, ?_⟩) hHeld ?_ ?_
    rotate_left
    ·rintro w' ⟨s0, s1, s2, s3, s4, s5, s6, s7, s8, s9, s10, s11, s12, s13, s14, s15, s16, s17, s18⟩
     go_simp
     with_reducible rfl
    rotate_left
    ·simp only [Act.put, lz1, lz2, lz3, i64_w, i32_w]
     rfl
    refine take_ (i := 4) (N := some 37) (v := ?_) (a' := ?_) #[true, true, true, true, true, false, false, false, false, false, false, false, false, false, false] rfl rfl (take_ofW HT_.out HW_.out (by kernel_rfl)) (fun _ _ _ h => h) (Or.inl ⟨by rfl, ?_⟩) hHeld ?_ ?_
    rotate_left
    ·rintro w' ⟨s0, s1, s2, s3, s4, s5, s6, s7, s8, s9, s10, s11, s12, s13, s14, s15, s16, s17, s18⟩
     go_simp
     with_reducible rfl
    rotate_left
    ·simp only [Act.put, lz1, lz2, lz3, i64_w, i32_w]
     rfl
    refine pure_ (i := 5) (N := some 38) (v := ?_) (a' := ?_) #[true, true, true, true, true, true, false, false, false, false, false, false, false, false, false] rfl rfl (any_of HT_.out (by kernel_rfl)) (fun _ _ _ h => h) (Or.inl ⟨by rfl, ?_⟩) ?_ ?_
    rotate_left
    ·intro w'
     go_simp
     with_reducible rfl
    rotate_left
    ·simp only [Act.put, lz1, lz2, lz3, i64_w, i32_w]
     rfl
    refine take_ (i := 6) (N := some 39) (v := ?_) (a' := ?_) #[true, true, true, true, true, true, true, false, false, false, false, false, false, false, false] rfl rfl (take_ofW HT_.out HW_.out (by kernel_rfl)) (fun _ _ _ h => h) (Or.inl ⟨by rfl, ?_⟩) hHeld ?_ ?_
    rotate_left
    ·rintro w' ⟨s0, s1, s2, s3, s4, s5, s6, s7, s8, s9, s10, s11, s12, s13, s14, s15, s16, s17, s18⟩
     go_simp
     with_reducible rfl
    rotate_left
    ·simp only [Act.put, lz1, lz2, lz3, i64_w, i32_w]
     rfl
    refine pure_ (i := 7) (N := some 40) (v := ?_) (a' := ?_) #[true, true, true, true, true, true, true, true, false, false, false, false, false, false, false] rfl rfl (any_of HT_.out (by kernel_rfl)) (fun _ _ _ h => h) (Or.inl ⟨by rfl, ?_⟩) ?_ ?_
    rotate_left
    ·intro w'
     go_simp
     with_reducible rfl
    rotate_left
    ·simp only [Act.put, lz1, lz2, lz3, i64_w, i32_w]
     rfl
    refine take_ (i := 8) (N := some 41) (v := ?_) (a' := ?_) #[true, true, true, true, true, true, true, true, true, false, false, false, false, false, false] rfl rfl (take_ofW HT_.out HW_.out (by kernel_rfl)) (fun _ _ _ h => h) (Or.inl ⟨by rfl, ?_⟩) hHeld ?_ ?_
    rotate_left
    ·rintro w' ⟨s0, s1, s2, s3, s4, s5, s6, s7, s8, s9, s10, s11, s12, s13, s14, s15, s16, s17, s18⟩
     go_simp
     with_reducible rfl
    rotate_left
    ·simp only [Act.put, lz1, lz2, lz3, i64_w, i32_w]
     rfl
    refine pure_ (i := 9) (N := some 42) (v := ?_) (a' := ?_) #[true, true, true, true, true, true, true, true, true, true, false, false, false, false, false] rfl rfl (any_of HT_.out (by kernel_rfl)) (fun _ _ _ h => h) (Or.inl ⟨by rfl, ?_⟩) ?_ ?_
    rotate_left
    ·intro w'
     go_simp
     with_reducible rfl
    rotate_left
    ·simp only [Act.put, lz1, lz2, lz3, i64_w, i32_w]
     rfl
    refine pure_ (i := 10) (N := some 43) (v := ?_) (a' := ?_) #[true, true, true, true, true, true, true, true, true, true, true, false, false, false, false] rfl rfl (any_of HT_.out (by kernel_rfl)) (fun _ _ _ h => h) (Or.inl ⟨by rfl, ?_⟩) ?_ ?_
    rotate_left
    ·intro w'
     go_simp
     with_reducible rfl
    rotate_left
    ·simp only [Act.put, lz1, lz2, lz3, i64_w, i32_w]
     rfl
    refine pure_ (i := 11) (N := some 44) (v := ?_) (a' := ?_) #[true, true, true, true, true, true, true, true, true, true, true, true, false, false, false] rfl rfl (any_of HT_.out (by kernel_rfl)) (fun _ _ _ h => h) (Or.inl ⟨by rfl, ?_⟩) ?_ ?_
    rotate_left
    ·intro w'
     go_simp
     with_reducible rfl
    rotate_left
    ·simp only [Act.put, lz1, lz2, lz3, i64_w, i32_w]
     rfl
    refine one_ (i := 12) (N := some 45) #[true, true, true, true, true, true, true, true, true, true, true, true, true, false, false] rfl rfl (one_of HT_.out (by kernel_rfl)) (by decide) (fun K hK => ?_)
    rw [if_pos (by rfl)]
    unfold Oper.wp execOp
    go_simp
    refine hK.out _ _ (HSS.out _ (HWd.out.below (below_alloc (Below.refl _ _) _)) (blk_below Xd.out (below_alloc (Below.refl _ _) _))) (fun hHeld => ?_)
    clear hK K
    refine one_ (i := 13) (N := some 46) #[true, true, true, true, true, true, true, true, true, true, true, true, true, true, false] rfl rfl (one_of HT_.out (by kernel_rfl)) (by decide) (fun K hK => ?_)
    refine Kd.R_append_step (kEv w0) (w0 := w0) w0.heap.size (by rfl) (.tmp 33) (.tmp 45) 60 20 .nilIface 16 rfl Try.underlying60 info20 rfl (by show 0 < 1; omega) (by omega) v12 (evq ++ es) (Ev.dn x y (x.f0 == 13)) [.iface 86 (.agg #[.int .i64 x.f0, .int .i64 x.f1, .int .i64 x.f2, .int .i64 x.f3, .int .i64 x.f4, .int .i64 x.f5, .slice A6 x.f6.length c6, .int .i64 x.f7, .int .i64 y.f0, .int .i64 y.f1, .int .i64 y.f2, .int .i64 y.f3, .int .i64 y.f4, .int .i64 y.f5, .slice A7 y.f6.length c7, .int .i64 y.f7, .bool (x.f0 == 13)])] (fun _ => True) (fun _ => False) rfl rfl ⟨_, rfl, A6, c6, A7, c7, HX6.out.1, HX6.out.2, HY6.out.1, HY6.out.2, rfl⟩ (fun _ h => h.elim) (fun _ _ => trivial) HRd.out HWd.out.hb HWd.out.hb.size (by have h1 := HLE.out; have h2 := HQ2.out; omega) ?_
    intro v1 w13 ho hb hg hn
    have HW5 := Aside0.mk (HWd.out.grown HRd.out hg hb)
    have HR5 := Aside0.mk ho
    have H45 := Aside0.mk (blk_grown H4d.out hg (Kd.R_ne HRd.out H4d.out (by decide)))
    have X5 := Aside0.mk (blk_grown Xd.out hg (Kd.R_ne HRd.out Xd.out (by decide)))
    obtain ⟨Az, cz, rfl, hz1, hz2⟩ := Kd.R_reads ho
    clear ho hb hg hn hz1 hz2
    refine hK.out _ _ (HSS.out _ HW5.out X5.out) (fun hHeld => ?_)
    clear hK K
    refine norm_ (a' := ?_) ?_ ?_
    rotate_left
    ·show Act.put _ (some 46) _ = _
     simp only [Act.put, lz1, lz2, lz3, i64_w, i32_w]
     rfl
    refine last_ (i := 14) (N := none) #[true, true, true, true, true, true, true, true, true, true, true, true, true, true, true] rfl rfl (one_of HT_.out (by kernel_rfl)) (by decide) (fun K hK => ?_)
    refine step_store_one (by rfl) 60 (.tmp 6) (.tmp 46) rfl g6 (.slice Az (evq ++ es ++ [Ev.dn x y (x.f0 == 13)]).length cz) rfl rfl 60 v12 HW5.out.ho info60s rfl rfl ?_
    refine hK.out _ _ ?_
    clear hK K
    refine done_ (done_of HT_.out (by kernel_rfl)) ?_
    have HF := Aside0.mk (HW5.out.setOut G6.out (.slice Az (evq ++ es ++ [Ev.dn x y (x.f0 == 13)]).length cz))
    have HFR := Aside0.mk (R_setRow HR5.out HW5.out.ho (by decide) #[.slice Az (evq ++ es ++ [Ev.dn x y (x.f0 == 13)]).length cz])
    have HF4 := Aside0.mk ((setRow_other w13 g6 g4 #[.slice Az (evq ++ es ++ [Ev.dn x y (x.f0 == 13)]).length cz] (blk_ne H45.out HW5.out.ho (by decide))).trans H45.out)
    clear HW5 HR5 H45 X5 hHeld HWd HRd H4d Xd
    generalize (evq ++ es ++ [Ev.dn x y (x.f0 == 13)]).length = nz at HF HFR HF4 ⊢
    generalize w13.setRow g6 #[.slice Az nz cz] = w14 at HF HFR HF4 ⊢
    have c70 : w14.cell? ⟨g7, 0, none⟩ = some (.int .i64 (q2 : Int)) := (blk_cell HF.out.ha 0).trans rfl
    have f70 := blk_frozen HF.out.ha 0
    go_wp2_with fail
    go_roundw
    case rel => exact ⟨j + 1, q2 + 1, .slice Az nz cz, evq ++ es ++ [Ev.dn x y (x.f0 == 13)], es2, hlt, by go_num, hq2t, ⟨HF.out.stepAt G7.out⟩, ⟨by rw [setCell_eq_setRow w14 g7 0 _ 3 (0, 0) _ HF.out.ha]; exact R_setRow HFR.out HF.out.ha (by decide) _⟩, ⟨by rw [setCell_eq_setRow w14 g7 0 _ 3 (0, 0) _ HF.out.ha]; exact (setRow_other w14 g7 g4 _ (blk_ne HF4.out HF.out.ha (by decide))).trans HF4.out⟩, HES2, ⟨by rw [← HAr.out, ← HER.out]; simp⟩, ⟨by have := HLE.out; have := HQ2.out; simp only [List.length_append, List.length_cons, List.length_nil] at *; omega⟩⟩
    case measure => simp [intOf]; omega
  ·have hje : j = S.length := by omega
   have he := HEr.out
   rw [hje, List.drop_length, eventsL] at he
   obtain ⟨⟨n, es⟩, hsk, he⟩ := Option.bind_eq_some_iff.1 he
   have HSK := Aside0.mk hsk
   have HLE : Aside0 ((evq ++ es).length ≤ j + q + n) := ⟨by have := HNr.out; have := skipL_len k m _ _ _ hsk; rw [List.length_append]; omega⟩
   have HEV : Aside0 (evq ++ es ++ [Ev.fin] = evs) := ⟨by rw [← HAr.out, ← Option.some.inj he, List.append_assoc]⟩
   have hjn : ¬ (j : Int) < (S.length : Int) := by omega
   clear he hsk
   go_wp2_with (first
    | (go_at_call 43; refine (skip_calls k m A1 c1 A3 c3 T At ct b1 b2 b3 b4 g3 g5 g6 g7 w0 _ q n vq evq es HWr.out.hm HWr.out.ht HWr.out.ho HWr.out.ha G6.out G7.out HC1.out HL.out.1 HC3.out HL.out.2.1 HCt.out HL.out.2.2.2.1 hT hq HRr.out HWr.out.hb (by have := HNr.out; have := HL.out; omega) HSK.out).mono ?_; rintro e w12 ⟨rfl, v12, km, kt, ko, ka, kr, kb, kle, kkeep⟩; have HW3 : Aside0 (EvSt m A1 c1 A3 c3 At T.length ct b1 b2 b3 b4 g3 g5 g6 g7 w0 (q + n) v12 w12) := ⟨EvSt.mk km kt ko ka kb⟩; have HR3 := Aside0.mk kr; have hqn := Aside0.mk kle; clear km kt ko ka kr kb kle kkeep; have c60 : w12.cell? ⟨g6, 0, none⟩ = some v12 := (blk_cell HW3.out.ho 0).trans rfl)
    | (at_builtin; refine Kd.R_append (kEv w0) (w0 := w0) w0.heap.size rfl (.tmp 52) (.tmp 55) 60 20 .nilIface 16 rfl Try.underlying60 info20 rfl (by show 0 < 1; omega) (by omega) v12 (evq ++ es) Ev.fin [.iface 88 (.agg #[])] (fun _ => True) (fun _ => False) rfl rfl ⟨_, rfl, rfl⟩ (fun _ h => h.elim) (fun _ _ => trivial) HR3.out HW3.out.hb HW3.out.hb.size (by have h1 := HLE.out; have h2 := hqn.out; omega) ?_; intro v1 w13 ho hb hg hn; have HW4 := Aside0.mk (HW3.out.grown HR3.out hg hb); have HR4 := Aside0.mk ho; obtain ⟨Az, cz, rfl, hz1, hz2⟩ := Kd.R_reads ho; clear ho hb hg hn hz1 hz2)
    | ((with_reducible refine gate_stores (x := .tmp 6) (y := .tmp 56) 60 rfl ?_); refine wpList_store_one rfl 60 (.tmp 6) (.tmp 56) rfl g6 (.slice Az (evq ++ es ++ [Ev.fin]).length cz) rfl rfl 60 v12 HW4.out.ho info60s rfl rfl ?_; have HW5 := Aside0.mk (HW4.out.setOut G6.out (.slice Az (evq ++ es ++ [Ev.fin]).length cz)); have HR5 := Aside0.mk (R_setRow HR4.out HW4.out.ho (by decide) #[.slice Az (evq ++ es ++ [Ev.fin]).length cz]); clear HW3 HR3 HW4 HR4; generalize (evq ++ es ++ [Ev.fin]).length = nz at HW5 HR5 ⊢; generalize w13.setRow g6 #[.slice Az nz cz] = w14 at HW5 HR5 ⊢))
   refine bodyPost_ret (results_cell_one rfl _ _ g6 60 (.slice Az nz cz) (0, 0) 20 rfl HW5.out.ho Try.underlying60) rfl ?_
   exact ⟨_, rfl, by rw [← HEV.out]; exact HR5.out, HW5.out.hb⟩
end Go.Proofs.Ytdlgkmnloijnbaa.Q
