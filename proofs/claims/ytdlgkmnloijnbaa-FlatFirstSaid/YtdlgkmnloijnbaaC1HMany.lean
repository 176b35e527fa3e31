/- slices.ContainsFunc of instructions at check.Does's third literal, that has captured the machine's box. -/
import Derived.Test.YtdlgkmnloijnbaaC1HDel
set_option linter.unusedVariables false
set_option linter.unusedSimpArgs false
namespace Go.Proofs.Ytdlgkmnloijnbaa.Q
open Go.RowKit Go.Proofs.YtdlgkmnloijnbaaW.PrintWords Go.Proofs.YtdlgkmnloijnbaaW.PrintLast Go.Proofs.YtdlgkmnloijnbaaW.PrintMore

def manyB (m : S24) (x : S56) : Bool := decide (x.f7 > (m.f1.length : Int))
def box24 (w : World) (gm : Nat) (m : S24) (A1 : Option Addr) (c1 : Nat) (A3 : Option Addr) (c3 : Nat) : Prop := w.heap[gm]? = some (.cells #[.int .i64 m.f0, .slice A1 m.f1.length c1, .int .i64 m.f2, .slice A3 m.f3.length c3] 24 (0, 0))
set_option maxHeartbeats 1600000 in
set_option maxRecDepth 100000 in
theorem fn35 (x : S56) (A6 : Option Addr) (c6 : Nat) (gm : Nat) (m : S24) (A1 : Option Addr) (c1 : Nat) (A3 : Option Addr) (c3 : Nat) (w : World) (hm : box24 w gm m A1 c1 A3 c3) :
  Calls Try.prog 35 #[.agg #[.int .i64 x.f0, .int .i64 x.f1, .int .i64 x.f2, .int .i64 x.f3, .int .i64 x.f4, .int .i64 x.f5, .slice A6 x.f6.length c6, .int .i64 x.f7], .pointer (some ⟨gm, 0, none⟩)] w fun e w' => e = .returned (.bool (manyB m x)) ∧ Below w.heap.size w w' := by
 have HM := Aside0.mk (show w.heap[gm]? = some (.cells #[.int .i64 m.f0, .slice A1 m.f1.length c1, .int .i64 m.f2, .slice A3 m.f3.length c3] 24 (0, 0)) from hm)
 clear hm
 go_enter Try.func35, Try.ntmps35
 go_wp2_with (first | ((with_reducible refine gate_dst (N := 2) rfl ?_); refine box_event ?hg (N := 2) ?hd (cs := #[.int .i64 x.f0, .int .i64 x.f1, .int .i64 x.f2, .int .i64 x.f3, .int .i64 x.f4, .int .i64 x.f5, .slice A6 x.f6.length c6, .int .i64 x.f7]) (t := 56) ?hr ?_; (case hd => rfl); (case hg => rfl); (case hr => first | (go_simp; done) | (go_simp; rfl)); intro gb hg w3 hbox hb; have HB := Aside0.mk hb; have HX := Aside0.mk (blk_below HM.out hb); have HY := Aside0.mk hbox; clear hb hbox hg HM; have hx1 : w3.cell? ⟨gm, 1, none⟩ = some (.slice A1 m.f1.length c1) := (blk_cell HX.out 1).trans rfl; have hy7 : w3.cell? ⟨gb, 7, none⟩ = some (.int .i64 x.f7) := (blk_cell HY.out 7).trans rfl; have hf1 := blk_frozen HX.out 1; have hf7 := blk_frozen HY.out 7))
 go_ret
 exact ⟨rfl, HB.out⟩

set_option maxHeartbeats 1600000 in
set_option maxRecDepth 100000 in
theorem index_ins_35 (A : Option Addr) (c : Nat) (l : List S56) (gm : Nat) (m : S24) (A1 : Option Addr) (c1 : Nat) (A3 : Option Addr) (c3 : Nat) (w : World) (hr : Kd.C k56 w A l.length l) (hc : l.length ≤ c) (hm : box24 w gm m A1 c1 A3 c3) :
  Calls Try.prog 57 #[.slice A l.length c, .func (.func 35) #[] #[.pointer (some ⟨gm, 0, none⟩)]] w fun e w' => e = .returned (.int .i64 (idxOf (manyB m) l)) ∧ Below w.heap.size w w' := by
 have HR := Aside0.mk hr
 have HM := Aside0.mk hm
 have hL : l.length ≤ 9223372036854775807 := hr.2.1
 have hu56 := Try.underlying56
 clear hr hm
 go_enter Try.func57, Try.ntmps57
 go_wp2_with fail
 go_loopw [8] (fun i wr => ∃ k : Nat, k ≤ l.length ∧ i = .int .i64 k ∧ Aside0 (∀ y ∈ l.take k, manyB m y = false) ∧ Aside0 (Below w.heap.size w wr)) (fun i _ => l.length - (intOf i).toNat)
 case atStart => exact ⟨0, Nat.zero_le _, rfl, ⟨by simp⟩, ⟨Below.refl _ _⟩⟩
 case round =>
  obtain ⟨k, hk, rfl, HN, HD⟩ := hrel
  by_cases hlt : k < l.length
  ·obtain ⟨x, hx⟩ : ∃ x, l[k]? = some x := ⟨_, List.getElem?_eq_getElem hlt⟩
   have hrd := rd_T56_nat l k x hx
   obtain ⟨ad, A6, c6, rfl, h0, h1, h2, h3, h4, h5, h6, h7, hl6, hi6⟩ := at_T56 (Kd.C_below HR.out HD.out) (k : Int) (by omega) (by omega)
   rw [hrd] at h0 h1 h2 h3 h4 h5 h6 h7 hl6 hi6
   simp only [Int.toNat_natCast] at h0 h1 h2 h3 h4 h5 h6 h7
   have HG := Aside0.mk hx
   have HT : Aside0 (l.take (k + 1) = l.take k ++ [x]) := ⟨by rw [List.take_succ_eq_append_getElem hlt]; congr 2; rw [List.getElem?_eq_getElem hlt] at hx; exact Option.some.inj hx⟩
   obtain ⟨b, hb⟩ : ∃ b, manyB m x = b := ⟨_, rfl⟩
   have HBB := Aside0.mk hb
   have HCON := Aside0.mk (fun W (hW : Below w.heap.size w W) => hb ▸ fn35 x A6 c6 gm m A1 c1 A3 c3 W (blk_below HM.out hW))
   clear hb hx hrd hl6 hi6
   cases b with
   | true =>
    go_wp2_with (first | (go_at_call 35; refine (HCON.out _ HD.out).mono ?_; rintro e w' ⟨rfl, hb⟩; have HE := Aside0.mk (below_step HD.out hb); clear hb))
    go_ret
    exact ⟨by rw [idxOf_at (manyB m) l k x HG.out HBB.out HN.out]; rfl, HE.out⟩
   | false =>
    go_wp2_with (first | (go_at_call 35; refine (HCON.out _ HD.out).mono ?_; rintro e w' ⟨rfl, hb⟩; have HE := Aside0.mk (below_step HD.out hb); clear hb))
    go_roundw
    case rel => exact ⟨k + 1, by omega, by go_num, ⟨by rw [HT.out]; intro y hy; rcases List.mem_append.1 hy with hy | hy; exact HN.out y hy; rw [List.mem_singleton.1 hy]; exact HBB.out⟩, HE⟩
    case measure => simp [intOf]; omega
  ·obtain rfl : k = l.length := by omega
   rw [List.take_length] at HN
   go_wp2_with fail
   go_ret
   exact ⟨by rw [idxOf_none (manyB m) l HN.out]; rfl, HD.out⟩
theorem contains_ins_35 (A : Option Addr) (c : Nat) (l : List S56) (gm : Nat) (m : S24) (A1 : Option Addr) (c1 : Nat) (A3 : Option Addr) (c3 : Nat) (w : World) (hr : Kd.C k56 w A l.length l) (hc : l.length ≤ c) (hm : box24 w gm m A1 c1 A3 c3) :
  Calls Try.prog 39 #[.slice A l.length c, .func (.func 35) #[] #[.pointer (some ⟨gm, 0, none⟩)]] w fun e w' => e = .returned (.bool (l.any (manyB m))) ∧ Below w.heap.size w w' := by
 have HI := Aside0.mk (index_ins_35 A c l gm m A1 c1 A3 c3 w hr hc hm)
 clear hr hc hm
 go_enter Try.func39, Try.ntmps39
 go_wp2_with (first | (go_at_call 57; refine HI.out.mono ?_; rintro e w' ⟨rfl, hb⟩; have HE := Aside0.mk hb; clear hb))
 go_ret
 exact ⟨by rw [← idxOf_any]; rfl, HE.out⟩
end Go.Proofs.Ytdlgkmnloijnbaa.Q
