/- Texts of orders: the program's FormatOrder. -/
import Derived.Test.YtajkeegikligcaaDoorCql
set_option linter.unusedSimpArgs false
set_option linter.unusedVariables false
namespace Go.Pc
open Go Go.Proofs Go.Lib Go.RowKit

/-- A builder stays as it is where nothing that was there has changed. -/
theorem isB_below {T e : TypeId} {B b : Nat} {bs : List Value} {w w' : World} (h : IsBuilderF T e B b bs w) (hb : Below w.heap.size w w') : IsBuilderF T e B b bs w' := by
  have key : ∀ p, BuilderAtF T e B b p bs w → BuilderAtF T e B b p bs w' := fun p hp => by
    obtain ⟨hB, v, hv, hown, hne⟩ := hp
    have hlt : b < w.heap.size := by
      rcases Nat.lt_or_ge b w.heap.size with h' | h'
      · exact h'
      · simp [Array.getElem?_eq_none h'] at hv
    exact ⟨hB, v, by rw [hb.block b hlt]; exact hv, hown.kept (row := none) ⟨hb.os, hb.tape, hb.output, hb.size, fun j hj _ => hb.block j hj⟩ (by cases hv : v.ownBlock <;> simp), hne⟩
  exact h.imp (key _) (key _)

theorem ktab_of {w : World} (htab : TabIs Tryd.prog w "internal/strconv.uint64pow10" .u64 pow10Tab) : KTab rhoE w :=
  ⟨htab, fun g hg => ⟨fun ho => rhoE_no g (.inl ho), by
    unfold Lib.TabIs World.var? at htab
    rw [hg, Option.bind_some] at htab
    rcases Nat.lt_or_ge g w.heap.size with h' | h'
    · exact h'
    · rw [Array.getElem?_eq_none h'] at htab; cases htab⟩⟩

def Ln.cv (x : Ln) : Value := .agg #[.int .i64 x.P.W, .int .i64 x.P.H, .bool x.P.Tu, .int .i64 x.P.Ki, .int .i64 x.N]
theorem Ln.vr (x : Ln) (w : World) (ρ : Env) : VR w ρ x.cv (.agg x.cs) := by
  refine .agg _ _ rfl fun j v z hv hz => ?_
  match j, hv, hz with
  | 0, hv, hz => cases hv; cases hz; exact .pr (.val _)
  | 1, hv, hz => cases hv; cases hz; exact .pr (.val _)
  | 2, hv, hz => cases hv; cases hz; exact .pr (.val _)
  | 3, hv, hz => cases hv; cases hz; exact .pr (.val _)
  | 4, hv, hz => cases hv; cases hz; exact .pr (.val _)
  | j + 5, _, hz => simp [Ln.cs] at hz

theorem lineText_raw (x : Ln) (h : x.P.ok ∧ 1 ≤ x.N ∧ x.N ≤ 24) (w : World) (htab : TabIs Tryd.prog w "internal/strconv.uint64pow10" .u64 pow10Tab) :
    Calls Tryd.prog 35 #[x.cv] w fun e w' => e = .returned (.string (strB x.txt)) ∧ Below w.heap.size w w' := by
  refine (lineText_k x h rhoE w #[x.cv] (ktab_of htab) (rhoE_hr w) rfl fun i v' x' h1 h2 => ?_).mono fun e w' ⟨v', res, L', ρ', he, ⟨hr, _⟩, _, hvr, _, hst⟩ => ?_
  · match i, h1, h2 with
    | 0, h1, h2 => cases h1; cases h2; exact x.vr w rhoE
    | i + 1, h1, _ => simp at h1
  · subst hr
    rw [val_inv hvr] at he
    exact ⟨he, St.belowE hst⟩

theorem lines_val {w : World} {v : Value} {l : List Ln} (h : VR w rhoE v (.sl (l.map Ln.cs))) : (l = [] ∧ ∃ a c, v = .slice a 0 c) ∨ ∃ bk o c, v = .slice (some ⟨bk, o, none⟩) l.length c ∧ l.length ≤ c ∧ bk < w.heap.size ∧ ∀ (i : Nat) x, l[i]? = some x →
    w.cell? ⟨bk, o + i * 5, none⟩ = some (.int .i64 x.P.W) ∧ w.cell? ⟨bk, o + i * 5 + 1, none⟩ = some (.int .i64 x.P.H) ∧ w.cell? ⟨bk, o + i * 5 + 2, none⟩ = some (.bool x.P.Tu) ∧ w.cell? ⟨bk, o + i * 5 + 3, none⟩ = some (.int .i64 x.P.Ki) ∧ w.cell? ⟨bk, o + i * 5 + 4, none⟩ = some (.int .i64 x.N) := by
  generalize hes : l.map Ln.cs = es at h
  cases h with
  | pr hp =>
    cases hp with
    | slnil a c => exact .inl ⟨by simpa using hes, a, c, rfl⟩
    | sl bk o k n c es cv hn h0 hc hk hown hlt hl hcell hread =>
      subst hes
      rw [List.length_map] at hn
      subst hn
      have hk5 : k = 5 := by
        obtain ⟨x, hx⟩ : ∃ x, l[0]? = some x := ⟨_, List.getElem?_eq_getElem h0⟩
        rw [← hl 0 x.cs (by simp [hx]), Ln.len]
      subst hk5
      refine .inr ⟨bk, o, c, rfl, hc, hlt, fun i x hx => ?_⟩
      have hi : (l.map Ln.cs)[i]? = some x.cs := by simp [hx]
      have get : ∀ (j : Nat) u, x.cs[j]? = some (.val u) → w.cell? ⟨bk, o + i * 5 + j, none⟩ = some u := fun j u hu => by
        rw [hcell i j _ _ hi hu, val_inv (.pr (hread i j _ _ hi hu))]
      exact ⟨get 0 _ rfl, get 1 _ rfl, get 2 _ rfl, get 3 _ rfl, get 4 _ rfl⟩

set_option maxHeartbeats 4000000 in
set_option maxRecDepth 100000 in
theorem formatOrder_raw (l : List Ln) (hl : l.length ≤ 1048576) (hr : ∀ x ∈ l, -9223372036854775808 ≤ x.N ∧ x.N ≤ 9223372036854775807) (w : World) (v : Value) (hv : VR w rhoE v (.sl (l.map Ln.cs))) (htab : TabIs Tryd.prog w "internal/strconv.uint64pow10" .u64 pow10Tab) :
    Calls Tryd.prog 14 #[v] w fun e w' => e = .returned (.string (strB (ordT l))) ∧ Below w.heap.size w w' := by
  have mixed := mixed
  have tb := tabBelow_of_tabIs htab
  rcases lines_val hv with ⟨rfl, a, c, rfl⟩ | ⟨bk, o, c, rfl, hc, hlt, hcells⟩
  · go_enter Tryd.func14, Tryd.ntmps14
    go_wp2_with (go_at_call 33; refine (raw_of (validOrderI_c [] hl hr) hv).mono ?_)
    first | rintro e W1 rfl q1 | rintro e W1 ⟨rfl, q1⟩
    have hok : ordOk [] := by unfold ordOk; simp [sumN]
    rw [decide_eq_true hok]
    have h0 : IsBuilderF 51 5 W1.heap.size W1.heap.size [] (W1.alloc (.cells #[.pointer none, .slice none 0 0] 51)) := .of (fresh_isBuilder 51 5 W1)
    have z0 : Below W1.heap.size W1 (W1.alloc (.cells #[.pointer none, .slice none 0 0] 51)) := (Below.refl _ W1).alloc (Nat.le_refl _) _
    go_wp2
    refine wp_loop_rounds 1 ?_
    rw [rounds_succ]
    go_wp2_with (go_at_call 28; refine (Tryd.Builder_String_any_k W1.heap.size W1.heap.size [] _ h0 z0.size).mono ?_)
    first | rintro e W5 rfl g5 q5 r5 | rintro e W5 ⟨rfl, g5, q5, r5⟩
    go_wp2
    go_ret
    exact ⟨rfl, q1.trans (Below.up (z0.trans q5) q1.size)⟩
  · go_enter Tryd.func14, Tryd.ntmps14
    go_wp2_with (go_at_call 33; refine (raw_of (validOrderI_c l hl hr) hv).mono ?_)
    first | rintro e W1 rfl q1 | rintro e W1 ⟨rfl, q1⟩
    by_cases hok : ordOk l
    · have ht : ordT l = linesT l := by unfold ordT; rw [if_pos hok]
      rw [decide_eq_true hok]
      have hN := ordOk_N hok
      have hl8 := hok.2.2.1
      have h0 : IsBuilderF 51 5 W1.heap.size W1.heap.size [] (W1.alloc (.cells #[.pointer none, .slice none 0 0] 51)) := .of (fresh_isBuilder 51 5 W1)
      have z0 : Below W1.heap.size W1 (W1.alloc (.cells #[.pointer none, .slice none 0 0] 51)) := (Below.refl _ W1).alloc (Nat.le_refl _) _
      go_wp2
      go_loopw [11] (fun i wr => ∃ k : Nat, k ≤ l.length ∧ i = .int .i64 k ∧ IsBuilderF 51 5 W1.heap.size W1.heap.size (byteCells (linesT (l.take k))) wr ∧ Below W1.heap.size W1 wr) (fun i _ => l.length - (RowKit.intOf i).toNat)
      case atStart => exact ⟨0, Nat.zero_le _, rfl, h0, z0⟩
      case round =>
        obtain ⟨k, hk, rfl, hb, hbw⟩ := hrel
        by_cases hkl : k < l.length
        · obtain ⟨x, hx⟩ := get_lt (l := l) (i := k) hkl
          obtain ⟨c0, c1, c2, c3, c4⟩ := hcells k x hx
          have q := q1.trans (Below.up hbw q1.size)
          have onW : ∀ j, wr.cell? ⟨bk, j, none⟩ = w.cell? ⟨bk, j, none⟩ := fun j => by simp only [World.cell?, q.block bk hlt]
          rw [← onW] at c0 c1 c2 c3 c4
          have zz : ∀ ob : Obj, Below wr.heap.size wr (wr.alloc ob) := fun ob => (Below.refl _ wr).alloc (Nat.le_refl _) ob
          have tw := tabBelow_of_tabIs (tb wr q)
          have hxm := List.mem_of_getElem? hx
          have hlen := Ln.txt_len (hN x hxm).1 (hN x hxm).2.2
          have hlen2 := linesT_len (l := l.take k) fun y hy => Ln.txt_len (hN y (List.mem_of_mem_take hy)).1 (hN y (List.mem_of_mem_take hy)).2.2
          rw [List.length_take] at hlen2
          go_wp2_with (go_at_call 35; refine (lineText_raw x (hN x hxm) _ (tw.on (zz _)).here).mono ?_)
          first | rintro e W2 rfl q2 | rintro e W2 ⟨rfl, q2⟩
          have b2 := isB_below (isB_below hb (zz _)) q2
          have p2 := hbw.trans (Below.up ((zz _).trans (Below.up q2 (zz _).size)) hbw.size)
          go_wp2_with (go_at_call 34; refine (Tryd.wStr W1.heap.size W1.heap.size _ _ _ b2 (by rw [strB_size, byteCells_length]; omega) p2.size).mono ?_)
          first | rintro e W3 rfl g3 q3 r3 | rintro e W3 ⟨rfl, g3, q3, r3⟩
          have p3 := p2.trans q3
          go_wp2_with (go_at_call 36; refine (Tryd.wByte W1.heap.size W1.heap.size _ _ _ (.inr g3) (by rw [List.length_append, byteCells_length, strCells_length, strB_size]; omega) p3.size).mono ?_)
          first | rintro e W4 rfl g4 q4 r4 | rintro e W4 ⟨rfl, g4, q4, r4⟩
          have p4 := p3.trans q4
          go_wp2
          refine ⟨⟨k + 1, by omega, rfl, ?_, p4⟩, ?_⟩
          · have e : byteCells (linesT (l.take (k + 1))) = byteCells (linesT (l.take k)) ++ strCells (strB x.txt) ++ [.int .u8 10] := by
              rw [linesT_next hx]
              simp [byteCells, strCells, strB]
            rw [e]
            exact .inr g4
          · simp only [RowKit.intOf]
            omega
        · have hkl2 : k = l.length := by omega
          subst hkl2
          rw [List.take_length] at hb
          go_wp2_with (go_at_call 28; refine (Tryd.Builder_String_any_k W1.heap.size W1.heap.size (linesT l) _ hb hbw.size).mono ?_)
          first | rintro e W5 rfl g5 q5 r5 | rintro e W5 ⟨rfl, g5, q5, r5⟩
          go_wp2
          go_ret
          exact ⟨by rw [ht]; rfl, q1.trans (Below.up (hbw.trans q5) q1.size)⟩
    · have ht : ordT l = [] := by unfold ordT; rw [if_neg hok]
      rw [decide_eq_false hok]
      go_wp2
      go_ret
      exact ⟨by rw [ht]; rfl, q1⟩
end Go.Pc
