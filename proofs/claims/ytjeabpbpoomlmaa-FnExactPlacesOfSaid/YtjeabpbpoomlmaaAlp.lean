/- The abstract logic, thirteenth part: calls that are handed several own blocks; nil slices; results frozen; states weakened before a call. -/
import Derived.Test.YtjeabpbpoomlmaaAln
set_option linter.unusedSimpArgs false
set_option linter.unusedVariables false
namespace Go.Pc
open Go

section
variable {P : Program} {T : TypeId → Ty} {fx bl : List Nat}

/-! ### Regions all of whose operations are quiet -/

def sxQA (P : Program) (T : TypeId → Ty) (all l : List Oper) (s : AS) (K : AS → Prop) : Prop := sxQs P T all l.length l s K
theorem sxQs_len (all l : List Oper) (s : AS) (K : AS → Prop) : sxQs P T all l.length l s K = sxQA P T all l s K := nrf rfl
theorem sxQA_nil (all : List Oper) (s : AS) (K : AS → Prop) : sxQA P T all [] s K = K s := nrf rfl
theorem sxQA_cons (all : List Oper) (dst : Option Tmp) (op : Op) (ty : TypeId) (pos : String) (after : Array Edge) (rest : List Oper) (s : AS) (K : AS → Prop) :
    sxQA P T all ({ dst := dst, op := op, type := ty, pos := pos, after := after, guard := none } :: rest) s K = qOp P T op s (QN P T all rest.length rest dst s K) := nrf rfl
theorem sxQA_guard (all : List Oper) (dst : Option Tmp) (op : Op) (ty : TypeId) (pos : String) (after : Array Edge) (g : Nat) (want : Bool) (rest : List Oper) (s : AS) (K : AS → Prop) :
    sxQA P T all ({ dst := dst, op := op, type := ty, pos := pos, after := after, guard := some (g, want) } :: rest) s K = QG P T all rest.length dst op g want rest s K := sxQs_guard all rest.length dst op ty pos after g want rest s K

/-- The kinds of operations that may be quiet. -/
def quietB (ops : List Oper) : Bool := ops.all fun o => match o.op with
  | .store .. | .alloc .. | .buildSlice .. | .makeSlice .. | .box .. => false
  | .call { callee := .builtin .append, .. } => false
  | .call { callee := .builtin .copy, .. } => false
  | _ => true

theorem awp_drawA (hT : TTOk P T) (hm : P.follows .mixedOrders = true) {id : Nat} {ops : List Oper} {Q : Exit → AS → Prop} {s : AS} (_ : quietB ops = true) (hB : headB ops.toArray ops.length = true)
    (hseq : Region.seqB .any ops.toArray (ops.length - ops.length) ops.length ((List.range ops.length).map (fun k => decide (k < ops.length))).toArray = true)
    (h : sxQA P T ops ops s (Q .normal)) : awp P fx (.region id ops.toArray true) Q s :=
  awp_draw (bl := []) hT hm ops.length (Nat.le_refl _) hB (.inl rfl) hseq (by rw [List.drop_length]; exact h)

theorem vT {p : Prop} [Decidable p] (h : p) : AV.val (.bool true) = AV.val (.bool (decide p)) := by rw [decide_eq_true h]
theorem vF {p : Prop} [Decidable p] (h : ¬ p) : AV.val (.bool false) = AV.val (.bool (decide p)) := by rw [decide_eq_false h]

/-- A contract whose result is told otherwise. -/
theorem ACalls.fin {f : FuncId} {args : List AV} {L0 : List OB} {R R' : AV → List OB → Prop} (h : ACalls P f args L0 fx R) (hh : ∀ r L, R r L → L0.length ≤ L.length → Fin fx L0.length R' ⟨[], L⟩ r) : ACalls P f args L0 fx R' :=
  ⟨h.1, fun ρ w vs h1 h2 h3 => (h.2 ρ w vs h1 h2 h3).mono fun _ _ ⟨v, res, L', ρ', e, hr, hl, hv, hhr, hst⟩ => by
    obtain ⟨x', L2, ⟨g1, g2⟩, ρ2, k1, k2, k3⟩ := hh res L' hr hl ρ' { tmps := #[], defers := [] } _ v ⟨rfl, rfl, fun i v x h => by simp at h, hhr⟩ hv
    exact ⟨v, x', L2, ρ2, e, g1, g2, k1, k2, hst.trans k3⟩⟩

/-- Before a call the state may be weakened, with the arguments. -/
theorem acall_wk {f : FuncId} {args args' : List AV} {s t : AS} {K : AV → AS → Prop} (hl : args.length = args'.length) (hw : Wk fx { s with tm := s.tm ++ args } { t with tm := t.tm ++ args' }) (h : ACall P fx (.fn f []) args' t K) : ACall P fx (.fn f []) args s K := by
  intro ρ a w vf vs hr hvf hvl hv
  have hr' : Rel ρ { s with tm := s.tm ++ args } { a with tmps := a.tmps ++ vs } w := by
    refine ⟨hr.dfr, by simp [hr.size, hvl], fun i u x h1 h2 => ?_, hr.hr⟩
    simp only at h1 h2
    by_cases hi : i < s.tm.length
    · rw [List.getElem?_append_left hi] at h2
      rw [Array.getElem?_append_left (by rw [hr.size]; exact hi)] at h1
      exact hr.tm i u x h1 h2
    · rw [List.getElem?_append_right (by omega)] at h2
      rw [Array.getElem?_append_right (by rw [hr.size]; omega), hr.size] at h1
      exact hv _ u x h1 h2
  obtain ⟨ρ1, h1, g1⟩ := hw ρ _ w hr'
  have hts : a.tmps.size = t.tm.length := by
    have := h1.size
    simp only [Array.size_append, List.length_append] at this
    omega
  have hf : VR w ρ1 vf (.fn f []) := by
    cases hvf with
    | pr hp => cases hp
    | fn f cv _ hs hc => exact .fn _ _ _ hs (fun i v x h3 h4 => by simp at h4)
  refine (h ρ1 a w vf vs ⟨h1.dfr, hts, fun i u x h3 h4 => ?_, h1.hr⟩ hf (by omega) fun i u x h3 h4 => ?_).mono fun u w' ⟨r, s', ρ', k1, k2, k3, k4⟩ => ⟨r, s', ρ', k1, k2, k3, g1.trans k4⟩
  · have hi : i < t.tm.length := (List.getElem?_eq_some_iff.1 h4).1
    exact h1.tm i u x (by show (a.tmps ++ vs)[i]? = _; rw [Array.getElem?_append_left (by omega)]; exact h3) (by show (t.tm ++ args')[i]? = _; rw [List.getElem?_append_left hi]; exact h4)
  · refine h1.tm (t.tm.length + i) u x ?_ ?_
    · show (a.tmps ++ vs)[t.tm.length + i]? = _
      rw [Array.getElem?_append_right (by omega), hts, Nat.add_sub_cancel_left]; exact h3
    · show (t.tm ++ args')[t.tm.length + i]? = _
      rw [List.getElem?_append_right (by omega), Nat.add_sub_cancel_left]; exact h4

/-- Nil slices handed over read as empty ones. -/
theorem acall_nrm {f : FuncId} {args : List AV} {s : AS} {K : AV → AS → Prop} (h : ACall P fx (.fn f []) (args.map AV.nrm) s K) : ACall P fx (.fn f []) args s K :=
  fun ρ a w vf vs hr hvf hvl hv => h ρ a w vf vs hr hvf (by simpa using hvl) fun i v x h1 h2 => by
    rw [List.getElem?_map] at h2
    cases hq : args[i]? with
    | none => simp [hq] at h2
    | some y => simp [hq] at h2; subst h2; exact (hv i v y h1 hq).nrm

theorem keepL_in {σ : Nat → Nat} {L : List OB} {rs : List Nat} {os : List OB} (h : keepL σ L rs os) : rs.length = os.length ∧ ∀ (j r : Nat) o, rs[j]? = some r → os[j]? = some o → L[r]? = some (o.ren σ) := ⟨(keepL_get h).1.symm, (keepL_get h).2⟩

/-- A call that is handed several own blocks. -/
theorem acall_ks {f : FuncId} {args argsC : List AV} {L0 : List OB} {fxc : List Nat} {R : AV → List OB → Prop} (h : ACalls P f args L0 fxc R) (rs : List Nat) {s : AS} (hk : keepL (nameIn rs s.L.length) s.L rs L0) (hn : rs.Nodup)
    (hfx : (rs.zipIdx.all fun p => !fx.contains p.1 || fxc.contains p.2) = true) (hargs : argsC = args.map (AV.ren (nameIn rs s.L.length))) {K : AV → AS → Prop} (hK : ∀ res L', R res L' → K (res.ren (nameIn rs s.L.length)) (s.back rs fxc L')) : ACall P fx (.fn f []) argsC s K :=
  acall h s rs hn (keepL_in hk).1 (keepL_in hk).2 (fun j r hj hr => by
    have := List.all_eq_true.1 hfx (r, j) (List.mem_zipIdx_iff_getElem?.2 hj)
    simp only [Bool.or_eq_true, Bool.not_eq_true', List.contains_eq_mem, decide_eq_true_eq, decide_eq_false_iff_not] at this
    rcases this with h1 | h1
    · exact absurd hr h1
    · exact h1) (by rw [List.append_nil]; exact hargs) fun res L' hR _ => hK res L' hR

/-- A nil slice in an own row of cells is an own row with nothing in it. -/
theorem wk_nilc {s : AS} (r i k : Nat) (cs : List AV) (hk : 0 < k) (hL : s.L[r]? = some (.cells cs)) (hc : cs[i]? = some (.val (.slice none 0 0))) :
    Wk fx s { tm := s.tm, L := s.L.set r (.cells (cs.set i (.os s.L.length k 0 0))) ++ [.vec k []] } := fun ρ a w hr => by
  have hp := hr.push Fr.refl none (fun b base hh => by cases hh) (.vec k []) ⟨hk, by simp, .inl ⟨rfl, rfl⟩⟩
  have hrl : r < s.L.length := (List.getElem?_eq_some_iff.1 hL).1
  have hfo : ∀ {q : Nat} {S : Nat → Prop} {items : List (Value × AV)}, (s.L.set r (.cells (cs.set i (.os s.L.length k 0 0))) ++ [OB.vec k []])[q]? = some (OB.forest S items) → (s.push (OB.vec k [])).L[q]? = some (OB.forest S items) := fun {q S items} hh => by
    have h1 := AS.push_forest (s := { s with L := s.L.set r (.cells (cs.set i (.os s.L.length k 0 0))) }) (o := .vec k []) (fun _ _ e => by cases e) hh
    simp only at h1
    by_cases e : r = q
    · subst e
      rw [List.getElem?_set_self hrl] at h1; cases h1
    · rw [List.getElem?_set_ne e] at h1
      have hql := (List.getElem?_eq_some_iff.1 h1).1
      simp only [AS.push]
      rw [List.getElem?_append_left hql]; exact h1
  refine ⟨ρ.push none, ⟨hp.dfr, hp.size, hp.tm, ⟨by have := hp.hr.len; simpa [AS.push] using this, hp.hr.xlt, hp.hr.disj, hp.hr.inj, fun q o l h1 h2 => ?_, ⟨hp.hr.t.lt, hp.hr.t.dl, fun q S items b h1 => hp.hr.t.sub q S items b (hfo h1), fun q q' S S' items items' b h1 h2 => hp.hr.t.dis q q' S S' items items' b (hfo h1) (hfo h2)⟩⟩⟩, .push Fr.refl (fun b base hh => by cases hh)⟩
  by_cases hq : q = r
  · subst hq
    rw [List.getElem?_append_left (by simpa using hrl), List.getElem?_set_self hrl] at h1
    cases h1
    have he := hp.hr.ent q (.cells cs) l (by simp only [AS.push]; rw [List.getElem?_append_left hrl]; exact hL) h2
    obtain ⟨b, c, e, g1, g2, g3, g4⟩ := he
    refine ⟨b, c, e, g1, g2, by simpa using g3, fun j v x h5 h6 => ?_⟩
    by_cases hj : i = j
    · subst hj
      have hil : i < cs.length := (List.getElem?_eq_some_iff.1 hc).1
      rw [List.getElem?_set_self hil] at h6
      cases h6
      have := val_inv (g4 i v _ h5 hc)
      subst this
      exact .osnil _ _ (by rw [← hr.hr.len]; exact push_get _ _)
    · rw [List.getElem?_set_ne hj] at h6
      exact g4 j v x h5 h6
  · refine hp.hr.ent q o l ?_ h2
    simp only [AS.push]
    by_cases hql : q < s.L.length
    · rw [List.getElem?_append_left (by simpa using hql), List.getElem?_set_ne (fun e => hq e.symm)] at h1
      rw [List.getElem?_append_left hql]; exact h1
    · rw [List.getElem?_append_right (by simpa using Nat.le_of_not_lt hql)] at h1
      rw [List.getElem?_append_right (Nat.le_of_not_lt hql)]; simpa using h1

/-! ### What is forgotten behind a call -/

/-- An own part of such a number is forgotten. -/
def keepR (ms : List Nat) (r : Nat) : Bool := !ms.contains r
theorem free_filt_aux (p : Nat → Bool) : (∀ x : AV, x.free = true → x.filt p = x) ∧ ∀ l : List AV, freeL l = true → filtL p l = l := by
  refine ⟨fun x => AV.rec (motive_1 := fun x => x.free = true → x.filt p = x) (motive_2 := fun l => freeL l = true → filtL p l = l) (motive_3 := fun _ => True) ?_ ?_ ?_ ?_ ?_ ?_ ?_ ?_ ?_ ?_ ?_ ?_ ?_ ?_ x, fun l => AV.rec_1 (motive_1 := fun x => x.free = true → x.filt p = x) (motive_2 := fun l => freeL l = true → filtL p l = l) (motive_3 := fun _ => True) ?_ ?_ ?_ ?_ ?_ ?_ ?_ ?_ ?_ ?_ ?_ ?_ ?_ ?_ l⟩
  all_goals simp_all [AV.filt, filtL, AV.free, freeL]
theorem AV.free_filt {p : Nat → Bool} {x : AV} (h : x.free = true) : x.filt p = x := (free_filt_aux p).1 x h
theorem freeL_filt {p : Nat → Bool} {l : List AV} (h : freeL l = true) : l.map (AV.filt p) = l := by rw [← filtL_map]; exact (free_filt_aux p).2 l h

end
end Go.Pc
