/- Plans with their sides exchanged: what both sides compute, and that it is undone by itself. -/
import Derived.Test.YtkcpcmobmalijaaIb
set_option linter.unusedSimpArgs false
set_option linter.unusedVariables false
namespace Go.Pc
open Go Go.Proofs

theorem W8_map (f : AV → AV) (a b c d e g h i : AV) (l : List AV) : (W8 a b c d e g h i l).map f = W8 (f a) (f b) (f c) (f d) (f e) (f g) (f h) (f i) (l.map f) := rfl
theorem freeL_frzm (r k : Nat) (es : List (List AV)) {l : List AV} (h : freeL l = true) : l.map (AV.frz r k es) = l := by rw [← frzL_map]; exact freeL_frz r k es h
theorem Work.frzm (r k : Nat) (es : List (List AV)) (w : Work) : w.cs.map (AV.frz r k es) = w.cs := freeL_frzm r k es w.free
theorem Plan.frzm (r k : Nat) (es : List (List AV)) (w : Plan) : w.cs.map (AV.frz r k es) = w.cs := freeL_frzm r k es w.free

def Pane.swap (q : Pane) : Pane := ⟨q.H, q.W, q.Tu, q.Ki⟩
def Work.swap (k : Work) : Work := ⟨k.H, k.W, k.Ps.map Pane.swap⟩
def Box.swap (b : Box) : Box := ⟨b.Y, b.X, b.H, b.W⟩
/-- Both kinds of cuts exchanged. -/
def Plan.trans : Plan → Plan
  | .mk op at_ pa tu ks => if op = 2 ∨ op = 3 then match ks with | [x, y] => .mk (if op = 2 then 3 else 2) at_ 0 false [x.trans, y.trans] | _ => .mk op at_ pa tu ks else .mk op at_ pa tu ks
theorem acall_frz {P : Program} {fx : List Nat} {g : FuncId} {args : List AV} {r k : Nat} {es : List (List AV)} {s : AS} {K : AV → AS → Prop} (hL : s.L[r]? = some (.vec k es)) (hfx : r ∉ fx) (h : ACall P fx (.fn g []) (args.map (AV.frz r k es)) (s.frz r k es) K) : ACall P fx (.fn g []) args s K :=
  acall_wk (by simp) (by have := wk_frz (fx := fx) (s := { s with tm := s.tm ++ args }) hL hfx; simpa [AS.frz] using this) h

end Go.Pc
