/- Texts of plans: the program's writer. -/
import Derived.Test.YtajkeegikligcaaDoorCpa
import Derived.Test.YtajkeegikligcaaDoorShb
import Derived.Test.YtajkeegikligcaaDoorRow
import Derived.WalkKit
import Derived.BigCall
import Derived.Lib.AppendIntMem
set_option linter.unusedSimpArgs false
set_option linter.unusedVariables false
namespace Go.Pc
open Go Go.Proofs Go.Lib Go.RowKit

/-- Memory of the call's own begins at a block. -/
def rhoB (B : Nat) : Env := { l := [], X := fun b => B ≤ b }
theorem rhoB_no (B b : Nat) : no (rhoB B) b ↔ B ≤ b := by
  simp [no, own, ownl, rhoB]

theorem plan_val {w : World} {ρ : Env} {v : Value} {p : Plan} (h : VR w ρ v (.agg p.cs)) : ∃ kv, v = .agg #[.int .i64 p.op, .int .i64 p.at_, .int .i64 p.pa, .bool p.tu, kv] ∧ VR w ρ kv (.sl (p.ks.map Plan.cs)) := by
  rw [Plan.cs_eq] at h
  cases h with
  | pr hp => cases hp
  | agg c l hs hc =>
    obtain ⟨l⟩ := c
    match l, hs with
    | [v0, v1, v2, v3, v4], _ =>
      have e0 := val_inv (hc 0 v0 _ rfl rfl)
      have e1 := val_inv (hc 1 v1 _ rfl rfl)
      have e2 := val_inv (hc 2 v2 _ rfl rfl)
      have e3 := val_inv (hc 3 v3 _ rfl rfl)
      exact ⟨v4, by subst e0; subst e1; subst e2; subst e3; rfl, hc 4 v4 _ rfl rfl⟩

/-- The two parts of a cut, as they lie. -/
theorem kids_val {w : World} {B : Nat} {kv : Value} {x y : Plan} (h : VR w (rhoB B) kv (.sl [x.cs, y.cs])) : ∃ bk o c, kv = .slice (some ⟨bk, o, none⟩) 2 c ∧ 2 ≤ c ∧ bk < B ∧ bk < w.heap.size ∧ ∃ vx vy : Nat → Value,
    (∀ j, j < 5 → w.cell? ⟨bk, o + j, none⟩ = some (vx j)) ∧ (∀ j, j < 5 → w.cell? ⟨bk, o + 5 + j, none⟩ = some (vy j)) ∧ VR w (rhoB B) (.agg #[vx 0, vx 1, vx 2, vx 3, vx 4]) (.agg x.cs) ∧ VR w (rhoB B) (.agg #[vy 0, vy 1, vy 2, vy 3, vy 4]) (.agg y.cs) := by
  cases h with
  | pr hp =>
    cases hp with
    | sl bk o k n c es cv hn h0 hc hk hown hlt hl hcell hread =>
      have hk5 : k = 5 := by rw [← hl 0 _ rfl, Plan.len]
      subst hk5
      simp only [List.length_cons, List.length_nil] at hn
      subst hn
      have hB : bk < B := Nat.lt_of_not_le fun h => hown ((rhoB_no B bk).2 h)
      have get : ∀ (q : Plan) (i j : Nat), [x.cs, y.cs][i]? = some q.cs → j < 5 → ∃ z, q.cs[j]? = some z := fun q i j _ hj => ⟨_, List.getElem?_eq_getElem (by rw [Plan.len]; exact hj)⟩
      have val : ∀ (q : Plan) (i : Nat), [x.cs, y.cs][i]? = some q.cs → VR w (rhoB B) (.agg #[cv i 0, cv i 1, cv i 2, cv i 3, cv i 4]) (.agg q.cs) := fun q i hi => by
        refine .agg _ _ (by simp [Plan.len]) fun j v z hv hz => ?_
        have hj : j < 5 := by have := (List.getElem?_eq_some_iff.1 hz).1; rw [Plan.len] at this; exact this
        have hr := hread i j _ z hi hz
        match j, hj, hv with
        | 0, _, hv => simp at hv; subst hv; exact .pr hr
        | 1, _, hv => simp at hv; subst hv; exact .pr hr
        | 2, _, hv => simp at hv; subst hv; exact .pr hr
        | 3, _, hv => simp at hv; subst hv; exact .pr hr
        | 4, _, hv => simp at hv; subst hv; exact .pr hr
      refine ⟨bk, o, c, rfl, hc, hB, hlt, cv 0, cv 1, fun j hj => ?_, fun j hj => ?_, val x 0 rfl, val y 1 rfl⟩
      · obtain ⟨z, hz⟩ := get x 0 j rfl hj
        have := hcell 0 j _ z rfl hz
        simpa using this
      · obtain ⟨z, hz⟩ := get y 1 j rfl hj
        have := hcell 1 j _ z rfl hz
        simpa using this

theorem VR.belowB {w W : World} {B : Nat} {v : Value} {p : Plan} (h : VR w (rhoB B) v (.agg p.cs)) (hb : Below B w W) : VR W (rhoB B) v (.agg p.cs) := by
  obtain ⟨kv, rfl, hk⟩ := plan_val h
  rw [Plan.cs_eq]
  refine .agg _ _ (by simp) fun j v z hv hz => ?_
  match j, hv, hz with
  | 0, hv, hz => simp at hv hz; subst hv; subst hz; exact .pr (.val _)
  | 1, hv, hz => simp at hv hz; subst hv; subst hz; exact .pr (.val _)
  | 2, hv, hz => simp at hv hz; subst hv; subst hz; exact .pr (.val _)
  | 3, hv, hz => simp at hv hz; subst hv; subst hz; exact .pr (.val _)
  | 4, hv, hz =>
    simp at hv hz
    subst hv; subst hz
    cases hk with
    | pr hp => exact .pr (hp.mono (fun k _ hn => hb.block k (Nat.lt_of_not_le fun h => hn ((rhoB_no B k).2 h))) hb.size fun k _ h => h)
  | j + 5, _, hz => simp at hz

/-- Numbers in the program's texts. -/
theorem itoa_raw (n : Nat) (hn : n ≤ 200) (W : World) (htab : TabIs Tryd.prog W "internal/strconv.uint64pow10" .u64 pow10Tab) :
    Calls Tryd.prog 46 #[.int .i64 n] W fun e W' => e = .returned (.string (strB (decDigits n))) ∧ ∃ k os, W' = Go.Sort.grow (W.drewN k) os := by
  refine (Tryd.strconv_Itoa n (by omega) (by omega) W htab).mono fun e W' ⟨h1, h2⟩ => ⟨?_, h2⟩
  rw [h1]
  have : Lib.itoa (n : Int) = decDigits n := by
    unfold Lib.itoa
    rw [if_neg (by omega)]
    rfl
  rw [this]
  rfl

theorem BuilderAtF.grow {T e : TypeId} {B b : Nat} {p : Value} {bs : List Value} {w : World} (h : BuilderAtF T e B b p bs w) (k : Nat) (os : Array Obj) : BuilderAtF T e B b p bs (Go.Sort.grow (w.drewN k) os) := by
  obtain ⟨hB, v, hb, hown, hne⟩ := h
  have hlt : b < w.heap.size := by
    rcases Nat.lt_or_ge b w.heap.size with h' | h'
    · exact h'
    · simp [Array.getElem?_eq_none h'] at hb
  exact ⟨hB, v, by rw [Lib.heap_grow_old w k os b hlt]; exact hb, hown.kept (row := none) ⟨rfl, rfl, rfl, Lib.size_grow w k os, fun j hj _ => Lib.heap_grow_old w k os j hj⟩ (by cases hv : v.ownBlock <;> simp), hne⟩
theorem kept_grow {e : TypeId} {b : Option Nat} (w : World) (k : Nat) (os : Array Obj) : OthersKept e b w (Go.Sort.grow (w.drewN k) os) := fun j o hj _ _ => by
  have hlt : j < w.heap.size := by
    rcases Nat.lt_or_ge j w.heap.size with h' | h'
    · exact h'
    · simp [Array.getElem?_eq_none h'] at hj
  rw [Lib.heap_grow_old w k os j hlt]; exact hj

set_option maxHeartbeats 4000000 in
set_option maxRecDepth 100000 in
theorem writePlan_raw : ∀ (n : Nat) (p : Plan), p.nodes ≤ n → p.nodes ≤ 255 → p.wf = true → p.cb = true → ∀ (B b : Nat) (bs : List Value) (w : World) (v : Value), IsBuilderF 51 5 B b bs w → bs.length + p.txt.length ≤ 1099511627776 → B ≤ w.heap.size → TabBelow Tryd.prog B w "internal/strconv.uint64pow10" .u64 pow10Tab → VR w (rhoB B) v (.agg p.cs) →
    Calls Tryd.prog 27 #[.pointer (some ⟨b, 0, none⟩), v] w fun e w' => e = .returned (.tuple #[]) ∧ BuilderAtF 51 5 B b (.pointer (some ⟨b, 0, none⟩)) (bs ++ byteCells p.txt) w' ∧ Below B w w' ∧ OthersKept 5 (some b) w w' := by
  intro n
  induction n with
  | zero => intro p h; have := p.nodes_pos; omega
  | succ n ih =>
  intro p hn hn2 hw hc B b bs w v h hlen hBw htab hv
  obtain ⟨b1, b2, b3⟩ := (Plan.cb_iff p).1 hc
  obtain ⟨ho, hks⟩ := wf_op hw
  have hte := p.txt_eq
  have mixed := mixed
  obtain ⟨kv, rfl, hkv⟩ := plan_val hv
  have hbl : b < w.heap.size := by
    rcases h with h | h <;> exact h.lt
  -- the part's own copy
  have hbox : ∀ {op : Int}, (w.alloc (.cells #[.int .i64 op, .int .i64 p.at_, .int .i64 p.pa, .bool p.tu, kv] 29)).heap[w.heap.size]? = some (.cells #[.int .i64 op, .int .i64 p.at_, .int .i64 p.pa, .bool p.tu, kv] 29 (0, 0)) := fun {op} => by
    show (w.heap.push _)[w.heap.size]? = _
    simp
  have hsz0 : ∀ o : Obj, (w.alloc o).heap.size = w.heap.size + 1 := fun o => by rw [Go.Sort.alloc_eq_grow]; simp [Go.Sort.grow]
  have keep : ∀ {op : Int} {W : World}, OthersKept 5 (some b) (w.alloc (.cells #[.int .i64 op, .int .i64 p.at_, .int .i64 p.pa, .bool p.tu, kv] 29)) W → W.heap[w.heap.size]? = some (.cells #[.int .i64 op, .int .i64 p.at_, .int .i64 p.pa, .bool p.tu, kv] 29 (0, 0)) := fun {op W} k => k _ _ hbox (by simp; omega) (fun c fz e => by cases e)
  have b0 : ∀ o : Obj, Below B w (w.alloc o) := fun o => (Below.refl B w).alloc hBw o
  have k0 : ∀ o : Obj, OthersKept 5 (some b) w (w.alloc o) := fun o => (OthersKept.refl 5 (some b) w).alloc o
  by_cases h0 : p.op = 0
  · rw [if_pos h0] at hte
    rw [hte] at hlen ⊢
    rw [h0]
    go_enter Tryd.func27, Tryd.ntmps27
    go_wp2_with (go_at_call 36; refine (Tryd.wByte B b bs _ _ (h.alloc _) (by simp at hlen; omega) (by simp; omega)).mono ?_)
    rintro e W1 ⟨rfl, g1, q1, r1⟩
    go_wp2
    refine bodyPost_ret (results_none rfl _ _ _) rfl ?_
    exact ⟨rfl, g1, (b0 _).trans q1, (k0 _).trans r1⟩
  rw [if_neg h0] at hte
  by_cases h1 : p.op = 1
  · rw [if_pos h1] at hte
    obtain ⟨m, hm⟩ : ∃ m : Nat, p.pa = (m : Int) := ⟨p.pa.toNat, by omega⟩
    have em : p.pa.toNat = m := by omega
    rw [em] at hte
    have hln := dec_len m
    rw [hte] at hlen ⊢
    rw [hm] at hbox keep ⊢
    rw [h1]
    have hsz1 := hsz0 (.cells #[.int .i64 1, .int .i64 p.at_, .int .i64 m, .bool p.tu, kv] 29)
    cases htu : p.tu
    · rw [htu] at hlen hbox keep hsz1
      go_enter Tryd.func27, Tryd.ntmps27
      go_wp2_with (go_at_call 36; refine (Tryd.wByte B b bs _ _ (h.alloc _) (by simp at hlen; omega) (by simp; omega)).mono ?_)
      first | rintro e W1 rfl g1 q1 r1 | rintro e W1 ⟨rfl, g1, q1, r1⟩
      have c2 : W1.cell? ⟨w.heap.size, 2, none⟩ = some (.int .i64 (m : Nat)) := by rw [Lib.cell_of_heap (keep r1)]; rfl
      have hB1 : B ≤ W1.heap.size := Nat.le_trans hBw (Nat.le_trans (b0 _).size q1.size)
      go_wp2_with (go_at_call 46; refine (itoa_raw m (by omega) W1 (htab.on ((b0 _).trans q1)).here).mono ?_)
      rintro e W2 ⟨rfl, k2, os2, rfl⟩
      have hB2 : B ≤ (Go.Sort.grow (W1.drewN k2) os2).heap.size := Nat.le_trans hB1 (Lib.size_grow W1 k2 os2)
      have hl2 : (bs ++ [Value.int .u8 112]).length + (strB (decDigits m)).size ≤ 140737488355328 := by
        rw [strB_size, List.length_append]
        simp only [List.length_cons, List.length_nil, Bool.false_eq_true, if_false, if_true] at hlen ⊢
        omega
      go_wp2_with (go_at_call 34; refine (Tryd.wStr B b _ _ _ (.inr (BuilderAtF.grow g1 k2 os2)) hl2 hB2).mono ?_)
      first | rintro e W3 rfl g3 q3 r3 | rintro e W3 ⟨rfl, g3, q3, r3⟩
      go_wp2
      refine bodyPost_ret (results_none rfl _ _ _) rfl ?_
      refine ⟨rfl, ?_, (b0 _).trans (q1.trans ((Lib.below_grow B W1 hB1 k2 os2).trans q3)), (k0 _).trans (r1.trans ((kept_grow W1 k2 os2).trans r3))⟩
      have : bs ++ byteCells (112 :: decDigits m) = bs ++ [.int .u8 112] ++ strCells (strB (decDigits m)) := by rw [List.append_assoc]; rfl
      show BuilderAtF 51 5 B b _ (bs ++ byteCells (112 :: decDigits m)) W3
      rw [this]
      exact g3
    · rw [htu] at hlen hbox keep hsz1
      go_enter Tryd.func27, Tryd.ntmps27
      go_wp2_with (go_at_call 36; refine (Tryd.wByte B b bs _ _ (h.alloc _) (by simp at hlen; omega) (by simp; omega)).mono ?_)
      first | rintro e W1 rfl g1 q1 r1 | rintro e W1 ⟨rfl, g1, q1, r1⟩
      have c2 : W1.cell? ⟨w.heap.size, 2, none⟩ = some (.int .i64 (m : Nat)) := by rw [Lib.cell_of_heap (keep r1)]; rfl
      have hB1 : B ≤ W1.heap.size := Nat.le_trans hBw (Nat.le_trans (b0 _).size q1.size)
      go_wp2_with (go_at_call 46; refine (itoa_raw m (by omega) W1 (htab.on ((b0 _).trans q1)).here).mono ?_)
      rintro e W2 ⟨rfl, k2, os2, rfl⟩
      have hB2 : B ≤ (Go.Sort.grow (W1.drewN k2) os2).heap.size := Nat.le_trans hB1 (Lib.size_grow W1 k2 os2)
      have hl2 : (bs ++ [Value.int .u8 116]).length + (strB (decDigits m)).size ≤ 140737488355328 := by
        rw [strB_size, List.length_append]
        simp only [List.length_cons, List.length_nil, Bool.false_eq_true, if_false, if_true] at hlen ⊢
        omega
      go_wp2_with (go_at_call 34; refine (Tryd.wStr B b _ _ _ (.inr (BuilderAtF.grow g1 k2 os2)) hl2 hB2).mono ?_)
      first | rintro e W3 rfl g3 q3 r3 | rintro e W3 ⟨rfl, g3, q3, r3⟩
      go_wp2
      refine bodyPost_ret (results_none rfl _ _ _) rfl ?_
      refine ⟨rfl, ?_, (b0 _).trans (q1.trans ((Lib.below_grow B W1 hB1 k2 os2).trans q3)), (k0 _).trans (r1.trans ((kept_grow W1 k2 os2).trans r3))⟩
      have : bs ++ byteCells (116 :: decDigits m) = bs ++ [.int .u8 116] ++ strCells (strB (decDigits m)) := by rw [List.append_assoc]; rfl
      show BuilderAtF 51 5 B b _ (bs ++ byteCells (116 :: decDigits m)) W3
      rw [this]
      exact g3
  · rw [if_neg h1] at hte
    have hcut : p.cut := by unfold Plan.cut; omega
    obtain ⟨x, y, hk, hx, hy, nx, ny⟩ := Plan.two hw hcut
    have bx := b3 x (by rw [hk]; simp)
    have bY := b3 y (by rw [hk]; simp)
    rw [hk] at hkv hte
    simp only [List.map_cons, List.map_nil, kidsT] at hkv hte
    obtain ⟨m, hm⟩ : ∃ m : Nat, p.at_ = (m : Int) := ⟨p.at_.toNat, by omega⟩
    have em : p.at_.toNat = m := by omega
    rw [em] at hte
    have hln := dec_len m
    rw [hm] at hbox keep ⊢
    obtain ⟨bk, o, c, rfl, hc2, hbB, hbw, vx, vy, gx, gy, rx, ry⟩ := kids_val hkv
    have onW : ∀ {W : World}, Below B w W → ∀ j, W.cell? ⟨bk, j, none⟩ = w.cell? ⟨bk, j, none⟩ := fun {W} hb j => by simp only [World.cell?, hb.block bk hbB]
    have hop : p.op = 2 ∨ p.op = 3 := hcut
    rcases hop with h2 | h3
    · rw [h2] at hte ⊢
      rw [if_pos rfl] at hte
      rw [hte] at hlen ⊢
      go_enter Tryd.func27, Tryd.ntmps27
      go_wp2_with (go_at_call 36; refine (Tryd.wByte B b bs _ _ (h.alloc _) (by simp at hlen; omega) (by simp; omega)).mono ?_)
      first | rintro e W1 rfl g1 q1 r1 | rintro e W1 ⟨rfl, g1, q1, r1⟩
      have c2 : W1.cell? ⟨w.heap.size, 1, none⟩ = some (.int .i64 (m : Nat)) := by rw [Lib.cell_of_heap (keep r1)]; rfl
      have hB1 : B ≤ W1.heap.size := Nat.le_trans hBw (Nat.le_trans (b0 _).size q1.size)
      go_wp2_with (go_at_call 46; refine (itoa_raw m (by omega) W1 (htab.on ((b0 _).trans q1)).here).mono ?_)
      rintro e W2 ⟨rfl, k2, os2, rfl⟩
      have hB2 : B ≤ (Go.Sort.grow (W1.drewN k2) os2).heap.size := Nat.le_trans hB1 (Lib.size_grow W1 k2 os2)
      have hl2 : (bs ++ [Value.int .u8 100]).length + (strB (decDigits m)).size ≤ 140737488355328 := by
        rw [strB_size, List.length_append]
        simp only [List.length_cons, List.length_nil, List.length_append] at hlen ⊢
        omega
      go_wp2_with (go_at_call 34; refine (Tryd.wStr B b _ _ _ (.inr (BuilderAtF.grow g1 k2 os2)) hl2 hB2).mono ?_)
      first | rintro e W3 rfl g3 q3 r3 | rintro e W3 ⟨rfl, g3, q3, r3⟩
      have q13 := (b0 (.cells #[.int .i64 2, .int .i64 m, .int .i64 p.pa, .bool p.tu, .slice (some ⟨bk, o, none⟩) 2 c] 29)).trans (q1.trans ((Lib.below_grow B W1 hB1 k2 os2).trans q3))
      have r13 := r1.trans ((kept_grow W1 k2 os2).trans r3)
      go_wp2_with (go_at_call 36; refine (Tryd.wByte B b _ _ _ (.inr g3) (by simp [strCells_length, strB_size] at hlen ⊢; omega) (Nat.le_trans hBw q13.size)).mono ?_)
      first | rintro e W4 rfl g4 q4 r4 | rintro e W4 ⟨rfl, g4, q4, r4⟩
      have q14 := q13.trans q4
      have r14 := r13.trans r4
      have d4 : W4.cell? ⟨w.heap.size, 4, none⟩ = some (.slice (some ⟨bk, o, none⟩) 2 c) := by rw [Lib.cell_of_heap (keep r14)]; rfl
      have e0 : W4.cell? ⟨bk, o, none⟩ = some (vx 0) := by rw [onW q14]; exact gx 0 (by omega)
      have e1 : W4.cell? ⟨bk, o + 1, none⟩ = some (vx 1) := by rw [onW q14]; exact gx 1 (by omega)
      have e2 : W4.cell? ⟨bk, o + 2, none⟩ = some (vx 2) := by rw [onW q14]; exact gx 2 (by omega)
      have e3 : W4.cell? ⟨bk, o + 3, none⟩ = some (vx 3) := by rw [onW q14]; exact gx 3 (by omega)
      have e4 : W4.cell? ⟨bk, o + 4, none⟩ = some (vx 4) := by rw [onW q14]; exact gx 4 (by omega)
      go_wp2_with (go_at_call 27; refine (ih x (by omega) (by omega) hx bx B b _ W4 _ (.inr g4) (by simp [strCells_length, strB_size] at hlen ⊢; omega) (Nat.le_trans hBw q14.size) (htab.on q14) (rx.belowB q14)).mono ?_)
      first | rintro e W5 rfl g5 q5 r5 | rintro e W5 ⟨rfl, g5, q5, r5⟩
      have q15 := q14.trans q5
      have r15 := r14.trans r5
      go_wp2_with (go_at_call 36; refine (Tryd.wByte B b _ _ _ (.inr g5) (by simp [strCells_length, strB_size, byteCells_length] at hlen ⊢; omega) (Nat.le_trans hBw q15.size)).mono ?_)
      first | rintro e W6 rfl g6 q6 r6 | rintro e W6 ⟨rfl, g6, q6, r6⟩
      have q16 := q15.trans q6
      have r16 := r15.trans r6
      have d6 : W6.cell? ⟨w.heap.size, 4, none⟩ = some (.slice (some ⟨bk, o, none⟩) 2 c) := by rw [Lib.cell_of_heap (keep r16)]; rfl
      have f0 : W6.cell? ⟨bk, o + 5, none⟩ = some (vy 0) := by rw [onW q16]; exact gy 0 (by omega)
      have f1 : W6.cell? ⟨bk, o + 5 + 1, none⟩ = some (vy 1) := by rw [onW q16]; exact gy 1 (by omega)
      have f2 : W6.cell? ⟨bk, o + 5 + 2, none⟩ = some (vy 2) := by rw [onW q16]; exact gy 2 (by omega)
      have f3 : W6.cell? ⟨bk, o + 5 + 3, none⟩ = some (vy 3) := by rw [onW q16]; exact gy 3 (by omega)
      have f4 : W6.cell? ⟨bk, o + 5 + 4, none⟩ = some (vy 4) := by rw [onW q16]; exact gy 4 (by omega)
      go_wp2_with (go_at_call 27; refine (ih y (by omega) (by omega) hy bY B b _ W6 _ (.inr g6) (by simp [strCells_length, strB_size, byteCells_length] at hlen ⊢; omega) (Nat.le_trans hBw q16.size) (htab.on q16) (ry.belowB q16)).mono ?_)
      first | rintro e W7 rfl g7 q7 r7 | rintro e W7 ⟨rfl, g7, q7, r7⟩
      have q17 := q16.trans q7
      go_wp2_with (go_at_call 36; refine (Tryd.wByte B b _ _ _ (.inr g7) (by simp [strCells_length, strB_size, byteCells_length] at hlen ⊢; omega) (Nat.le_trans hBw q17.size)).mono ?_)
      first | rintro e W8 rfl g8 q8 r8 | rintro e W8 ⟨rfl, g8, q8, r8⟩
      go_wp2
      go_end0
      refine ⟨rfl, ?_, q17.trans q8, (k0 _).trans (r16.trans (r7.trans r8))⟩
      have : bs ++ byteCells (100 :: (decDigits m ++ 40 :: (x.txt ++ 44 :: (y.txt ++ [41])))) = bs ++ [.int .u8 100] ++ strCells (strB (decDigits m)) ++ [.int .u8 40] ++ byteCells x.txt ++ [.int .u8 44] ++ byteCells y.txt ++ [.int .u8 41] := by
        simp [byteCells, strCells, strB]
      rw [this]
      exact g8
    · rw [h3] at hte ⊢
      rw [if_neg (by decide)] at hte
      rw [hte] at hlen ⊢
      go_enter Tryd.func27, Tryd.ntmps27
      go_wp2_with (go_at_call 36; refine (Tryd.wByte B b bs _ _ (h.alloc _) (by simp at hlen; omega) (by simp; omega)).mono ?_)
      first | rintro e W1 rfl g1 q1 r1 | rintro e W1 ⟨rfl, g1, q1, r1⟩
      have c2 : W1.cell? ⟨w.heap.size, 1, none⟩ = some (.int .i64 (m : Nat)) := by rw [Lib.cell_of_heap (keep r1)]; rfl
      have hB1 : B ≤ W1.heap.size := Nat.le_trans hBw (Nat.le_trans (b0 _).size q1.size)
      go_wp2_with (go_at_call 46; refine (itoa_raw m (by omega) W1 (htab.on ((b0 _).trans q1)).here).mono ?_)
      rintro e W2 ⟨rfl, k2, os2, rfl⟩
      have hB2 : B ≤ (Go.Sort.grow (W1.drewN k2) os2).heap.size := Nat.le_trans hB1 (Lib.size_grow W1 k2 os2)
      have hl2 : (bs ++ [Value.int .u8 97]).length + (strB (decDigits m)).size ≤ 140737488355328 := by
        rw [strB_size, List.length_append]
        simp only [List.length_cons, List.length_nil, List.length_append] at hlen ⊢
        omega
      go_wp2_with (go_at_call 34; refine (Tryd.wStr B b _ _ _ (.inr (BuilderAtF.grow g1 k2 os2)) hl2 hB2).mono ?_)
      first | rintro e W3 rfl g3 q3 r3 | rintro e W3 ⟨rfl, g3, q3, r3⟩
      have q13 := (b0 (.cells #[.int .i64 3, .int .i64 m, .int .i64 p.pa, .bool p.tu, .slice (some ⟨bk, o, none⟩) 2 c] 29)).trans (q1.trans ((Lib.below_grow B W1 hB1 k2 os2).trans q3))
      have r13 := r1.trans ((kept_grow W1 k2 os2).trans r3)
      go_wp2_with (go_at_call 36; refine (Tryd.wByte B b _ _ _ (.inr g3) (by simp [strCells_length, strB_size] at hlen ⊢; omega) (Nat.le_trans hBw q13.size)).mono ?_)
      first | rintro e W4 rfl g4 q4 r4 | rintro e W4 ⟨rfl, g4, q4, r4⟩
      have q14 := q13.trans q4
      have r14 := r13.trans r4
      have d4 : W4.cell? ⟨w.heap.size, 4, none⟩ = some (.slice (some ⟨bk, o, none⟩) 2 c) := by rw [Lib.cell_of_heap (keep r14)]; rfl
      have e0 : W4.cell? ⟨bk, o, none⟩ = some (vx 0) := by rw [onW q14]; exact gx 0 (by omega)
      have e1 : W4.cell? ⟨bk, o + 1, none⟩ = some (vx 1) := by rw [onW q14]; exact gx 1 (by omega)
      have e2 : W4.cell? ⟨bk, o + 2, none⟩ = some (vx 2) := by rw [onW q14]; exact gx 2 (by omega)
      have e3 : W4.cell? ⟨bk, o + 3, none⟩ = some (vx 3) := by rw [onW q14]; exact gx 3 (by omega)
      have e4 : W4.cell? ⟨bk, o + 4, none⟩ = some (vx 4) := by rw [onW q14]; exact gx 4 (by omega)
      go_wp2_with (go_at_call 27; refine (ih x (by omega) (by omega) hx bx B b _ W4 _ (.inr g4) (by simp [strCells_length, strB_size] at hlen ⊢; omega) (Nat.le_trans hBw q14.size) (htab.on q14) (rx.belowB q14)).mono ?_)
      first | rintro e W5 rfl g5 q5 r5 | rintro e W5 ⟨rfl, g5, q5, r5⟩
      have q15 := q14.trans q5
      have r15 := r14.trans r5
      go_wp2_with (go_at_call 36; refine (Tryd.wByte B b _ _ _ (.inr g5) (by simp [strCells_length, strB_size, byteCells_length] at hlen ⊢; omega) (Nat.le_trans hBw q15.size)).mono ?_)
      first | rintro e W6 rfl g6 q6 r6 | rintro e W6 ⟨rfl, g6, q6, r6⟩
      have q16 := q15.trans q6
      have r16 := r15.trans r6
      have d6 : W6.cell? ⟨w.heap.size, 4, none⟩ = some (.slice (some ⟨bk, o, none⟩) 2 c) := by rw [Lib.cell_of_heap (keep r16)]; rfl
      have f0 : W6.cell? ⟨bk, o + 5, none⟩ = some (vy 0) := by rw [onW q16]; exact gy 0 (by omega)
      have f1 : W6.cell? ⟨bk, o + 5 + 1, none⟩ = some (vy 1) := by rw [onW q16]; exact gy 1 (by omega)
      have f2 : W6.cell? ⟨bk, o + 5 + 2, none⟩ = some (vy 2) := by rw [onW q16]; exact gy 2 (by omega)
      have f3 : W6.cell? ⟨bk, o + 5 + 3, none⟩ = some (vy 3) := by rw [onW q16]; exact gy 3 (by omega)
      have f4 : W6.cell? ⟨bk, o + 5 + 4, none⟩ = some (vy 4) := by rw [onW q16]; exact gy 4 (by omega)
      go_wp2_with (go_at_call 27; refine (ih y (by omega) (by omega) hy bY B b _ W6 _ (.inr g6) (by simp [strCells_length, strB_size, byteCells_length] at hlen ⊢; omega) (Nat.le_trans hBw q16.size) (htab.on q16) (ry.belowB q16)).mono ?_)
      first | rintro e W7 rfl g7 q7 r7 | rintro e W7 ⟨rfl, g7, q7, r7⟩
      have q17 := q16.trans q7
      go_wp2_with (go_at_call 36; refine (Tryd.wByte B b _ _ _ (.inr g7) (by simp [strCells_length, strB_size, byteCells_length] at hlen ⊢; omega) (Nat.le_trans hBw q17.size)).mono ?_)
      first | rintro e W8 rfl g8 q8 r8 | rintro e W8 ⟨rfl, g8, q8, r8⟩
      go_wp2
      go_end0
      refine ⟨rfl, ?_, q17.trans q8, (k0 _).trans (r16.trans (r7.trans r8))⟩
      have : bs ++ byteCells (97 :: (decDigits m ++ 40 :: (x.txt ++ 44 :: (y.txt ++ [41])))) = bs ++ [.int .u8 97] ++ strCells (strB (decDigits m)) ++ [.int .u8 40] ++ byteCells x.txt ++ [.int .u8 44] ++ byteCells y.txt ++ [.int .u8 41] := by
        simp [byteCells, strCells, strB]
      rw [this]
      exact g8
end Go.Pc
