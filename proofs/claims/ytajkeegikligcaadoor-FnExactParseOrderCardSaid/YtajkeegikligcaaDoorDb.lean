/- The reader of the reference's generators. -/
import Derived.Test.YtajkeegikligcaaDoorBc
set_option linter.unusedSimpArgs false
set_option linter.unusedVariables false
namespace Go.Pc
open Go Go.Proofs

end Go.Pc

/- Works; plans that fit. -/
namespace Go.Pc
open Go Go.Proofs

structure Work where
  W : Int
  H : Int
  Ps : List Pane

def Work.cs (k : Work) : List AV := [.val (.int .i64 k.W), .val (.int .i64 k.H), .sl (k.Ps.map Pane.cs)]
theorem Work.len (k : Work) : k.cs.length = 3 := rfl
theorem Work.take (k : Work) : k.cs.take 3 = k.cs := rfl
theorem Work.g0 (k : Work) : k.cs[0]? = some (.val (.int .i64 k.W)) := rfl
theorem Work.g1 (k : Work) : k.cs[1]? = some (.val (.int .i64 k.H)) := rfl
theorem Work.g2 (k : Work) : k.cs[2]? = some (.sl (k.Ps.map Pane.cs)) := rfl
theorem Work.free (k : Work) : freeL k.cs = true := rfl

theorem Work.one (k : Work) : k.cs.all AV.one = true := rfl
theorem Work.pure (k : Work) : k.cs.all AV.pure = true := rfl
theorem Work.filtd (f : Nat → Bool) (p : Work) : filtL f p.cs = p.cs := (free_filt_aux f).2 _ p.free
theorem Work.rend (f : Nat → Nat) (p : Work) : renL f p.cs = p.cs := freeL_rend f p.free
theorem DDb0 : type_of% @Work.one ∧ type_of% @Work.pure ∧ type_of% @Work.rend ∧ type_of% @Work.filtd ∧ type_of% @Work.len ∧ type_of% @Work.take ∧ type_of% @Work.g0 ∧ type_of% @Work.g1 ∧ type_of% @Work.g2 := ⟨@Work.one, @Work.pure, @Work.rend, @Work.filtd, @Work.len, @Work.take, @Work.g0, @Work.g1, @Work.g2⟩
/-- A pane fills a glass. -/
def fills (k : Work) (pa : Int) (tu : Bool) (w h : Int) : Bool :=
  if pa < 0 then false else
  match k.Ps[pa.toNat]? with
  | none => false
  | some q => if tu then q.Tu && decide (q.W ≠ q.H) && decide (q.H = w) && decide (q.W = h) else decide (q.W = w) && decide (q.H = h)

/-- A plan fits a glass. -/
def Plan.fits (k : Work) : Plan → Int → Int → Bool
  | .mk op at_ pa tu ks, w, h =>
    if op = 1 then fills k pa tu w h
    else if op = 2 then
      match ks with
      | [a, b] => decide (1 ≤ at_ ∧ at_ ≤ w - 1) && a.fits k at_ h && b.fits k (w - at_) h
      | _ => false
    else if op = 3 then
      match ks with
      | [a, b] => decide (1 ≤ at_ ∧ at_ ≤ h - 1) && a.fits k w at_ && b.fits k w (h - at_)
      | _ => false
    else true

end Go.Pc
