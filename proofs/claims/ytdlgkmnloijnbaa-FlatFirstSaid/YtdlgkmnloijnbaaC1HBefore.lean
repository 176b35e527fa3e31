/- slices.Backward of events: the value it hands back. -/
import Derived.Test.YtdlgkmnloijnbaaC1HAhead
set_option linter.unusedVariables false
set_option linter.unusedSimpArgs false
namespace Go.Proofs.Ytdlgkmnloijnbaa.Q
open Go.RowKit Go.Proofs.YtdlgkmnloijnbaaW.PrintWords Go.Proofs.YtdlgkmnloijnbaaW.PrintLast Go.Proofs.YtdlgkmnloijnbaaW.PrintMore

theorem backward_calls (A : Option Addr) (nv c : Nat) (w : World) : Calls Try.prog 46 #[.slice A nv c] w fun e w' => ∃ g, e = .returned (.func (.func 63) #[] #[.pointer (some ⟨g, 0, none⟩)]) ∧ g = w.heap.size ∧ w'.heap[g]? = some (.cells #[.slice A nv c] 60 (0, 0)) ∧ Below w.heap.size w w' := by
 have hmf : ∀ (fn : Fn) (first cap : Array Value) (w : World), (Instr.makeFunc fn first cap).run Try.prog w = .ok (.func fn first cap) w := fun _ _ _ _ => rfl
 go_enter Try.func46, Try.ntmps46
 go_wp2_with (first | ((with_reducible refine gate_dst (N := 1) rfl ?_); refine box_event ?hg (N := 1) ?hd (cs := #[.slice A nv c]) (t := 60) ?hr ?_; (case hd => rfl); (case hg => rfl); (case hr => first | (go_simp; done) | (go_simp; rfl)); intro g1 hg w1 hbox hb; have HB := Aside0.mk hb; have HX := Aside0.mk hbox; have HG := Aside0.mk hg; clear hb hbox hg))
 go_ret
 exact ⟨g1, rfl, HG.out, HX.out, HB.out⟩
/-- What a fact asks for ahead of events, from the last on. -/
def beforeE (k : Nat) (m : S24) : List Ev → Int → Bool → Int → Option (Int × Int × Bool × Int)
 | [], x, s, n => some (3, x, s, n)
 | e :: l, x, s, n => (aheadE k m e x s n).bind fun p => if p.1 = 3 then beforeE k m l p.2.1 p.2.2.1 p.2.2.2 else some (p.1, 0, false, 0)
end Go.Proofs.Ytdlgkmnloijnbaa.Q
