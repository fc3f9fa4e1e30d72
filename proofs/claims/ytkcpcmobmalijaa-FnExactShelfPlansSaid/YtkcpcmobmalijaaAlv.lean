/- The abstract logic: a region in the order of the text in which several own rows are put into rows. -/
import Derived.Test.YtkcpcmobmalijaaAlr
set_option linter.unusedSimpArgs false
set_option linter.unusedVariables false
namespace Go.Pc
open Go Go.Proofs

section
variable {P : Program} {T : TypeId → Ty} {bl : List Nat}

/-- A region cut at several places: behind the first n operations the own row in temporary t is told exactly; at the region's end it is the last cell of row q. -/
def sxCut (P : Program) (T : TypeId → Ty) (bl : List Nat) (all : List Oper) : List (Nat × Nat × Nat) → List Nat → List Oper → AS → (AS → Prop) → Prop
  | [], fx, l, s, K => sxOps P T fx bl all l s K
  | (n, q, t) :: sc, fx, l, s, K => sxOps P T fx bl all (l.take n) s fun s1 => ∃ r k off m, s1.tm[t]? = some (.os r k off m) ∧ ∀ v, v.oneCell' = true → sxCut P T bl all sc (r :: fx) (l.drop n) { s1 with tm := s1.tm.set t (.val v) } (TieK q t v (.os r k off m) K)

theorem sxCut_sound (hT : TTOk P T) (all : List Oper) : ∀ (sc : List (Nat × Nat × Nat)) (fx : List Nat) (l : List Oper) (s : AS) (K : AS → Prop) (ρ : Env) (a : Act) (w : World), sxCut P T bl all sc fx l s K → Rel ρ s a w →
    wpList P all.toArray (fun e a' w' => ∃ s' ρ', (match e with | .normal => K s' | _ => False) ∧ Rel ρ' s' a' w' ∧ St fx ρ w ρ' w') l a w
  | [], fx, l, s, K, ρ, a, w, h, hr => by
    have := sxOps_gen (fx := fx) hT all [] (K := K) (B := K) (ρ0 := ρ) (w0 := w) (fun s1 ρ1 a1 w1 hb hr1 hst => ⟨s1, ρ1, hb, hr1, hst⟩) l s ρ a w h hr .refl
    rwa [List.append_nil] at this
  | (n, q, t) :: sc, fx, l, s, K, ρ, a, w, h, hr => by
    simp only [sxCut] at h
    have := sxOps_gen (fx := fx) hT all (l.drop n) (K := K) (B := fun s1 => ∃ r k off m, s1.tm[t]? = some (.os r k off m) ∧ ∀ v, v.oneCell' = true → sxCut P T bl all sc (r :: fx) (l.drop n) { s1 with tm := s1.tm.set t (.val v) } (TieK q t v (.os r k off m) K)) (ρ0 := ρ) (w0 := w) (fun s1 ρ1 a1 w1 hb hr1 hst => by
      obtain ⟨r, k, off, m, h1, h2⟩ := hb
      have htl : t < a1.tmps.size := by rw [hr1.size]; exact (List.getElem?_eq_some_iff.1 h1).1
      have hget := Array.getElem?_eq_getElem htl
      have hv := hr1.tm t _ _ hget h1
      have hr2 : Rel ρ1 { s1 with tm := s1.tm.set t (.val a1.tmps[t]) } a1 w1 := ⟨hr1.dfr, by simpa using hr1.size, fun i u y h4 h5 => by
        by_cases hi : t = i
        · subst hi
          simp only at h5
          rw [List.getElem?_set_self (List.getElem?_eq_some_iff.1 h1).1] at h5
          cases h5
          rw [hget] at h4
          cases h4
          exact .pr (.val _)
        · simp only at h5
          rw [List.getElem?_set_ne hi] at h5
          exact hr1.tm i u y h4 h5, hr1.hr⟩
      refine wpList_post (sxCut_sound hT all sc (r :: fx) (l.drop n) _ _ ρ1 a1 w1 (h2 a1.tmps[t] (one_sound hv rfl)) hr2) fun e a' w' ⟨s', ρ', g1, g2, g3⟩ => ?_
      cases e with
      | normal =>
        obtain ⟨s2, k1, k2⟩ := tie_rel g1 g2 (hv.osfix g3)
        exact ⟨s2, ρ', k1, k2, hst.trans g3.tail⟩
      | _ => exact g1.elim) (l.take n) s ρ a w h hr .refl
    rwa [List.take_append_drop] at this

theorem awp_scut (hT : TTOk P T) {fx : List Nat} (sc : List (Nat × Nat × Nat)) {id : Nat} {ops : List Oper} {Q : Exit → AS → Prop} {s : AS} (h : sxCut P T bl ops sc fx ops s (Q .normal)) : awp P fx (.region id ops.toArray false) Q s := fun ρ a w hr => by
  refine wp_mono (wp_region_list (id := id) (ops := ops.toArray) (Q := fun e a' w' => ∃ s' ρ', (match e with | .normal => Q .normal s' | _ => False) ∧ Rel ρ' s' a' w' ∧ St fx ρ w ρ' w') ?_) fun e a' w' ⟨s', ρ', h1, h2⟩ => ?_
  · simpa using sxCut_sound hT ops sc fx ops s (Q .normal) ρ a w h hr
  · cases e <;> first | exact ⟨s', ρ', h1, h2⟩ | cases h1

/-- What is asked at a cut. -/
def CutS (P : Program) (T : TypeId → Ty) (bl : List Nat) (all : List Oper) (sc : List (Nat × Nat × Nat)) (fx : List Nat) (l2 : List Oper) (q t : Nat) (K : AS → Prop) (s1 : AS) : Prop := ∃ r k off m, s1.tm[t]? = some (.os r k off m) ∧ ∀ v, v.oneCell' = true → sxCut P T bl all sc (r :: fx) l2 { s1 with tm := s1.tm.set t (.val v) } (TieK q t v (.os r k off m) K)
theorem cutS {all : List Oper} {sc : List (Nat × Nat × Nat)} {fx : List Nat} {l2 : List Oper} {q t : Nat} {K : AS → Prop} {s1 : AS} {r k off m : Nat} (h1 : s1.tm[t]? = some (.os r k off m)) (h2 : ∀ v, v.oneCell' = true → sxCut P T bl all sc (r :: fx) l2 { s1 with tm := s1.tm.set t (.val v) } (TieK q t v (.os r k off m) K)) : CutS P T bl all sc fx l2 q t K s1 := ⟨r, k, off, m, h1, h2⟩
theorem sxCut_nil (all : List Oper) (fx : List Nat) (l : List Oper) (s : AS) (K : AS → Prop) : sxCut P T bl all [] fx l s K = sxOps P T fx bl all l s K := nrf rfl
theorem sxCut_cons (all : List Oper) (n q t : Nat) (sc : List (Nat × Nat × Nat)) (fx : List Nat) (l : List Oper) (s : AS) (K : AS → Prop) : sxCut P T bl all ((n, q, t) :: sc) fx l s K = sxOps P T fx bl all (l.take n) s (CutS P T bl all sc fx (l.drop n) q t K) := nrf rfl
theorem DAlv0 : type_of% @sxCut_nil ∧ type_of% @sxCut_cons := ⟨@sxCut_nil, @sxCut_cons⟩
variable {fx : List Nat}
theorem awp_condB {d : Nat} {x y : Code} {Q : Exit → AS → Prop} {s : AS} (b : Bool) (h : s.tm.getD d .any = .val (.bool b)) (h1 : b = true → awp P fx x Q s) (h2 : b = false → awp P fx y Q s) : awp P fx (.cond (.tmp d) x y) Q s := fun ρ a w hr => by
  have hv := hr.ev (.tmp d)
  have he : s.ev (.tmp d) = .val (.bool b) := h
  rw [he] at hv
  have := val_inv hv
  cases b
  · exact wp_cond_false this (h2 rfl ρ a w hr)
  · exact wp_cond_true this (h1 rfl ρ a w hr)
end

end Go.Pc
