/- From a contract to a given statement: rows over arguments of any plain types (numbers, bools, texts, structs and slices of such). -/
import Derived.Test.YtajkeegikligcaaDoorRow
import Derived.Deep.Slices
set_option linter.unusedSimpArgs false
set_option linter.unusedVariables false
namespace Go.Pc
open Go Go.Proofs Go.ChangeShapes Go.WideShapes Go.ChangeAt Go.RowKit

/-- Cells read as abstract values without own parts. -/
def CR (w : World) (o : Nat → Prop) (cs : List Value) (xs : List AV) : Prop := cs.length = xs.length ∧ ∀ (i : Nat) v x, cs[i]? = some v → xs[i]? = some x → PR w o v x

/-- The shape of a type's abstract cells. -/
def Shp (P : Program) : Nat → TypeId → List AV → Prop
  | 0, _, _ => False
  | n + 1, t, xs => match P.underlying t with
    | some (.int k) => ∃ z, xs = [.val (.int k z)] ∧ (Lit.int k z).wf = true
    | some .bool => ∃ b, xs = [.val (.bool b)]
    | some .string => ∃ s : ByteArray, xs = [.val (.string s)] ∧ s.size ≤ maxLen
    | some (.slice e) => ∃ es, xs = [.sl es] ∧ es.length ≤ maxLen ∧ ∀ c ∈ es, Shp P n e c
    | some (.struct fs) => xs.length = P.cellsOf t ∧ ∀ f ∈ fs.toList, Shp P n f.type ((xs.drop f.offset).take (P.cellsOf f.type))
    | _ => False

def tileB (P : Program) (tot : Nat) : List Field → Nat → Bool
  | [], o => o == tot
  | f :: fs, o => f.offset == o && tileB P tot fs (o + P.cellsOf f.type)
def plainB (P : Program) (S : List TypeId) (t : TypeId) : Bool := match P.underlying t with
  | some (.int _) | some .bool | some .string => true
  | some (.slice e) => S.contains e && decide (0 < P.cellsOf e)
  | some (.struct fs) => fs.toList.all (fun f => S.contains f.type) && tileB P (P.cellsOf t) fs.toList 0
  | _ => false

theorem tile_le {P : Program} {tot : Nat} : ∀ {fs : List Field} {o : Nat}, tileB P tot fs o = true → o ≤ tot
  | [], o, h => by simp [tileB] at h; omega
  | f :: fs, o, h => by
    simp only [tileB, Bool.and_eq_true] at h
    have := tile_le h.2
    omega

theorem tile_build {P : Program} {w : World} {o : Nat → Prop} {n tot : Nat} {cs : List Value} (hl : cs.length = tot) : ∀ (fs : List Field) (at_ : Nat), tileB P tot fs at_ = true →
    (∀ f ∈ fs, ∃ xs, CR w o ((cs.drop f.offset).take (P.cellsOf f.type)) xs ∧ Shp P n f.type xs) →
    ∃ xs, CR w o (cs.drop at_) xs ∧ ∀ f ∈ fs, at_ ≤ f.offset ∧ Shp P n f.type ((xs.drop (f.offset - at_)).take (P.cellsOf f.type))
  | [], at_, h, _ => ⟨[], by
      simp [tileB] at h
      refine ⟨by simp; omega, fun i v x h1 h2 => by simp at h2⟩, fun f hf => by cases hf⟩
  | f :: fs, at_, h, hf => by
    simp only [tileB, Bool.and_eq_true, beq_iff_eq] at h
    have hle := tile_le h.2
    obtain ⟨ys, hy1, hy2⟩ := hf f (by simp)
    obtain ⟨xs, hx1, hx2⟩ := tile_build hl fs _ h.2 fun g hg => hf g (by simp [hg])
    rw [h.1] at hy1
    have hyl : ys.length = P.cellsOf f.type := by rw [← hy1.1]; simp; omega
    have hxl : xs.length = tot - (at_ + P.cellsOf f.type) := by rw [← hx1.1]; simp; omega
    refine ⟨ys ++ xs, ⟨by simp; omega, fun i v x h1 h2 => ?_⟩, fun g hg => ?_⟩
    · rw [List.getElem?_drop] at h1
      by_cases hi : i < ys.length
      · rw [List.getElem?_append_left hi] at h2
        refine hy1.2 i v x ?_ h2
        rw [List.getElem?_take, if_pos (by omega), List.getElem?_drop]; exact h1
      · rw [List.getElem?_append_right (by omega)] at h2
        refine hx1.2 (i - ys.length) v x ?_ h2
        rw [List.getElem?_drop, show at_ + P.cellsOf f.type + (i - ys.length) = at_ + i by omega]; exact h1
    · rcases List.mem_cons.1 hg with rfl | hg
      · refine ⟨by omega, ?_⟩
        rw [h.1, Nat.sub_self, List.drop_zero, List.take_append_of_le_length (by omega), List.take_of_length_le (by omega)]
        exact hy2
      · obtain ⟨h1, h2⟩ := hx2 g hg
        refine ⟨by omega, ?_⟩
        rw [List.drop_append, List.drop_of_length_le (by omega), List.nil_append, hyl, show g.offset - at_ - P.cellsOf f.type = g.offset - (at_ + P.cellsOf f.type) by omega]
        exact h2

/-- An argument of a plain type, opened. -/
theorem trod_shp {H : Type} {enc : TypeId × Value → H} {P : Program} {w : World} {base : Nat} {spare : Nat → Bool} {held : Bool} {o : Nat → Prop} (ho : ∀ b, ¬ o b) {S : List TypeId} (hS : ∀ t ∈ S, plainB P S t = true) :
    ∀ (fuel : Nat) (t : TypeId) (cs : List Value) (x : DataW H × List MemPlace), t ∈ S → DataW.trod enc P w base spare held fuel t cs = some x → ∃ xs, CR w o cs xs ∧ Shp P fuel t xs := by
  intro fuel
  induction fuel with
  | zero => intro t cs x _ h; simp [DataW.trod] at h
  | succ fuel ih =>
  intro t cs x ht h
  have hp := hS t ht
  unfold plainB at hp
  have one : ∀ v : Value, CR w o [v] [.val v] := fun v => ⟨rfl, fun i u x h1 h2 => by
    cases i with
    | zero => simp at h1 h2; subst h1; subst h2; exact .val _
    | succ i => simp at h1⟩
  cases hu : P.underlying t with
  | none => rw [hu] at hp; cases hp
  | some d =>
  rw [hu] at hp
  cases d with
  | int k =>
    obtain ⟨n, rfl, _, hw⟩ := DataW.trod_int hu h
    exact ⟨_, one _, by simp only [Shp, hu]; exact ⟨n, rfl, hw⟩⟩
  | bool =>
    obtain ⟨b, rfl, _⟩ := DataW.trod_bool hu h
    exact ⟨_, one _, by simp only [Shp, hu]; exact ⟨b, rfl⟩⟩
  | string =>
    obtain ⟨s, rfl, _, hs⟩ := DataW.trod_string hu h
    exact ⟨_, one _, by simp only [Shp, hu]; exact ⟨s, rfl, hs⟩⟩
  | slice e =>
    simp only [Bool.and_eq_true, List.contains_iff_mem, decide_eq_true_eq] at hp
    rcases DataW.trod_slice hu h with ⟨rfl, _⟩ | ⟨a, len, cap, elems, rest, n, hn, rfl, _, _, hl, hm, hlen, hel, _, _⟩
    · refine ⟨[.sl []], ⟨rfl, fun i v x h1 h2 => ?_⟩, by simp only [Shp, hu]; exact ⟨[], rfl, by simp, fun c hc => by cases hc⟩⟩
      cases i with
      | zero => simp at h1 h2; subst h1; subst h2; exact .slnil _ _
      | succ i => simp at h1
    · cases hn
      obtain ⟨E, hE⟩ := Go.Deep.choose_lt (α := List Value × List AV) (n := len) (p := fun i q => w.cells? base (a.add (i * P.cellsOf e)) (P.cellsOf e) = some q.1 ∧ CR w o q.1 q.2 ∧ Shp P fuel e q.2) (fun i hi => by
        have h1 := hel i hi
        rw [List.getElem?_eq_getElem (by omega)] at h1
        obtain ⟨cs', h2, h3⟩ := Option.bind_eq_some_iff.1 h1
        obtain ⟨xs, h4, h5⟩ := ih e cs' _ hp.1 h3
        exact ⟨(cs', xs), h2, h4, h5⟩)
      refine ⟨[.sl ((List.range len).map fun i => (E i).2)], ⟨rfl, fun i v x h1 h2 => ?_⟩, by
        simp only [Shp, hu]
        refine ⟨_, rfl, by simp; omega, fun c hc => ?_⟩
        simp only [List.mem_map, List.mem_range] at hc
        obtain ⟨i, hi, rfl⟩ := hc
        exact (hE i hi).2.2⟩
      cases i with
      | succ i => simp at h1
      | zero =>
        simp at h1 h2; subst h1; subst h2
        by_cases h0 : len = 0
        · subst h0; exact .slnil _ _
        · have hcl : ∀ i, i < len → ∀ j, j < P.cellsOf e → w.cell? ((a.add (i * P.cellsOf e)).add j) = (E i).1[j]? := fun i hi => (World.cells?_some (hE i hi).1).2.2
          have hln : ∀ i, i < len → (E i).1.length = P.cellsOf e := fun i hi => (World.cells?_some (hE i hi).1).2.1
          have hl0 := hln 0 (by omega)
          obtain ⟨b, of, s⟩ := a
          have h00 : ∃ v, w.cell? (((⟨b, of, s⟩ : Addr).add (0 * P.cellsOf e)).add 0) = some v := ⟨_, by rw [hcl 0 (by omega) 0 hp.2]; exact List.getElem?_eq_getElem (by omega)⟩
          obtain ⟨v0, hv0⟩ := h00
          obtain rfl : s = none := by simpa [Addr.add] using World.cell?_spot hv0
          have hcl' : ∀ i, i < len → ∀ j, j < P.cellsOf e → w.cell? ⟨b, of + i * P.cellsOf e + j, none⟩ = (E i).1[j]? := fun i hi j hj => by
            rw [← hcl i hi j hj, add_plain, add_plain]
          have hlt : b < w.heap.size := by
            have := World.block_lt_of_cell? _ _ hv0
            simpa [Addr.add] using this
          have hget : ∀ (i : Nat) c, ((List.range len).map fun i => (E i).2)[i]? = some c → i < len ∧ c = (E i).2 := fun i c hc => by
            rw [List.getElem?_map] at hc
            by_cases hi : i < len
            · rw [List.getElem?_range hi] at hc; exact ⟨hi, (Option.some.inj hc).symm⟩
            · rw [List.getElem?_eq_none (by simp; omega)] at hc; cases hc
          have hE2 : ∀ i, i < len → (E i).2.length = P.cellsOf e := fun i hi => by rw [← (hE i hi).2.1.1]; exact hln i hi
          refine .sl b of (P.cellsOf e) len cap _ (fun i j => ((E i).1[j]?).getD undef) (by simp) (by omega) hl hp.2 (ho b) hlt (fun i c hc => ?_) (fun i j c x hc hx => ?_) (fun i j c x hc hx => ?_)
          · obtain ⟨hi, rfl⟩ := hget i c hc; exact hE2 i hi
          · obtain ⟨hi, rfl⟩ := hget i c hc
            have hj : j < P.cellsOf e := by rw [← hE2 i hi]; exact (List.getElem?_eq_some_iff.1 hx).1
            rw [hcl' i hi j hj, List.getElem?_eq_getElem (by rw [hln i hi]; exact hj)]; rfl
          · obtain ⟨hi, rfl⟩ := hget i c hc
            have hj : j < P.cellsOf e := by rw [← hE2 i hi]; exact (List.getElem?_eq_some_iff.1 hx).1
            have hg := List.getElem?_eq_getElem (l := (E i).1) (i := j) (by rw [hln i hi]; exact hj)
            rw [hg]
            exact (hE i hi).2.1.2 j _ x hg hx
  | struct fs =>
    simp only [Bool.and_eq_true, List.all_eq_true, List.contains_iff_mem] at hp
    obtain ⟨ys, n, hn, _, hl, hys, hf⟩ := DataW.trod_struct hu h
    cases hn
    obtain ⟨xs, h1, h2⟩ := tile_build (P := P) (w := w) (o := o) (n := fuel) hl fs.toList 0 hp.2 (fun f hfm => by
      obtain ⟨i, hi⟩ := List.mem_iff_getElem?.1 hfm
      have h3 := hf i f (by simpa using hi)
      have hil : i < ys.length := by rw [hys]; have := (List.getElem?_eq_some_iff.1 hi).1; simpa using this
      rw [List.getElem?_eq_getElem hil] at h3
      exact ih _ _ _ (hp.1 f hfm) h3)
    rw [List.drop_zero] at h1
    refine ⟨xs, h1, ?_⟩
    simp only [Shp, hu]
    exact ⟨by rw [← h1.1]; exact hl, fun f hfm => by have := (h2 f hfm).2; rwa [Nat.sub_zero] at this⟩
  | _ => cases hp

def rho0 : Env := { l := [], X := fun _ => False }
theorem rho0_no : ∀ b, ¬ no rho0 b := fun b hb => by
  rcases hb with (⟨j, base, hj⟩ | hb) | hb
  · simp [rho0] at hj
  · exact hb
  · exact hb

/-- A contract met by arguments that read as its own. -/
theorem ACalls.run {F : FuncId} {args : List AV} (h : ACalls Tryd.prog F args [] [] (fun r L => r = .val (.bool true) ∧ L = [])) {W : World} {vals : Array Value} (hs : vals.size = args.length) (hv : ∀ (i : Nat) v x, vals[i]? = some v → args[i]? = some x → VR W rho0 v x) :
    Calls Tryd.prog F vals W (fun e W' => e = .returned (.bool true) ∧ Below W.heap.size W W') := by
  refine h.2 rho0 W vals ⟨rfl, fun b hb => hb.elim, fun b hb => (rho0_no b (.inl hb)).elim, fun j j' b base base' h1 => by simp [rho0] at h1, fun j o l h1 => by simp at h1, ⟨fun b hb => False.elim hb, fun b j base hb => False.elim hb, fun j S items b h1 => by simp at h1, fun j j' S S' items items' b h1 => by simp at h1⟩⟩ hs hv |>.mono fun e W' ⟨v, res, L', ρ', he, ⟨hR, hL⟩, _, hvr, hhr, hst⟩ => ?_
  subst hR
  have := val_inv hvr
  subst this
  exact ⟨he, hst.fr.os, hst.fr.tape, hst.fr.out, hst.fr.le, fun k hk => hst.fr.same k hk fun hb => rho0_no k (.inl hb)⟩

/-- Any other plain value handed in. -/
theorem cell_opened {H : Type} {enc : TypeId × Value → H} {P : Program} {W : World} {S : List TypeId} (hS : ∀ t ∈ S, plainB P S t = true) {t : TypeId} (ht : t ∈ S) {v : Value} (hv : v.cells = #[v]) {d : DataW H} {p : List MemPlace}
    (h : DataW.Trod enc P W 0 (fun _ => true) true t v d p) : ∃ fuel x, Shp P fuel t [x] ∧ VR W rho0 v x := by
  obtain ⟨fuel, hf⟩ := h
  rw [hv] at hf
  obtain ⟨xs, h1, h2⟩ := trod_shp (o := no rho0) rho0_no hS fuel t _ _ ht hf
  match xs, h1 with
  | [x], h1 => exact ⟨fuel, x, h2, .pr (h1.2 0 v x rfl rfl)⟩

end Go.Pc
