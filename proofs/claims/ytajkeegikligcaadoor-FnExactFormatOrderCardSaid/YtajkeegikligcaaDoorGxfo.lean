/- FnExactFormatOrder as its card states it is proved: whatever order it is handed, on whatever machine of the model, where the library's tables are laid as its text lays them, the law answers true; and the card ties those tables to the program's text. -/
import Derived.Test.YtajkeegikligcaaDoorCqn
import Derived.Test.YtajkeegikligcaaDoorCqr
import Derived.Test.YtajkeegikligcaaDoorCards
import Derived.Test.YtajkeegikligcaaDoorTie
import Derived.ProofKit
import Derived.LaidMore
import Derived.OpenShut
import Derived.Stop.Joined
import Derived.SevenTiedAt
set_option linter.unusedSimpArgs false
set_option linter.unusedVariables false
namespace Go.Proofs.YtajkeegikligcaaDoor
open Go Go.Proofs Go.Pc Go.ChangeShapes Go.WideShapes Go.ChangeAt Go.RowKit

theorem gPow : Tryd.prog.globalNamed "internal/strconv.uint64pow10" = some 1 := by kernel_rfl
theorem tPow : (Tryd.prog.globals[1]?).map (·.type) = some 119 := by kernel_rfl

theorem tab_of {W : World} (h : laidMetH Tryd.prog Rows.fnExactFormatOrderRow.laid W) : Lib.TabIs Tryd.prog W "internal/strconv.uint64pow10" .u64 Lib.pow10Tab := by
  rw [MakeChecks.laidMetH_plain _ _ _ (by kernel_rfl)] at h
  obtain ⟨ps, ⟨_, _, _, _, _, _, _, _, _, _, ⟨_, _, _, _, _, _, _, _, _, _, ⟨g, t, cs, fuel, p, q, hg, ht, hvar, hd, _, _⟩, _⟩, _⟩, _⟩ := h
  obtain rfl := Option.some.inj (gPow.symm.trans hg)
  obtain rfl := Option.some.inj (tPow.symm.trans ht)
  have e : (Rows.laid_internal_strconv_uint64pow10 : DataW Unit) = Lib.tabData .u64 Lib.pow10Tab := rfl
  rw [e] at hd
  unfold Lib.TabIs
  rw [hvar, ← Lib.cells_of_tab Tryd.underlying119 Tryd.underlying107 (by kernel_rfl) (by kernel_rfl) hd]

/-- The door's own heap meets the condition. -/
theorem door_met (os : Os) (args : Array Value) : laidMetH Tryd.prog Rows.fnExactFormatOrderRow.laid ((World.doorLaid Tryd.prog 34 os).forCall (fun _ _ => 0) ⟨#[], args, []⟩).memory :=
  laidMetH_of_parts3 (fuel := 8) (laidMet_of_run' 8 (by kernel_rfl) (by kernel_rfl)) (by kernel_rfl) (by kernel_rfl)

set_option maxHeartbeats 800000 in
set_option maxRecDepth 100000 in
theorem lifted (os : Os) (started : os.Started) (H : Type) (enc : TypeId × Value → H) :
    ReturnsInHanded {} Tryd.checked os 4 .any (fun w args => (Rows.fnExactFormatOrderSpec.pre enc Tryd.prog Tryd.f4 Rows.fnExactFormatOrderRow.domain false w args ∧ laidMetH Tryd.prog Rows.fnExactFormatOrderRow.laid w) ∧ sizedMet enc Tryd.prog Tryd.f4 (OpenSpec.ofChange Rows.fnExactFormatOrderSpec) false w args)
      (Rows.fnExactFormatOrderSpec.post enc Tryd.prog Tryd.f4 false true false false) := by
  refine returnsInHanded_of_change_and (C := Tryd.checked) (X := fun w _ => laidMetH Tryd.prog Rows.fnExactFormatOrderRow.laid w) (fun _ _ _ hh h => h.of_heap hh) knob started (by kernel_rfl) Tryd.func4
    (ChangeSpec.witness_shaped (enc := enc) (C := Tryd.checked) (os := os) (X := fun w _ => laidMetH Tryd.prog Rows.fnExactFormatOrderRow.laid w) false (World.doorLaid Tryd.prog 34 os) #[.slice none 0 0] 8 rfl (World.shaped_of_RefB (by kernel_rfl) (by kernel_rfl)) (by kernel_rfl) (by kernel_rfl) (by kernel_rfl) (door_met os _)) ?_
  intro W base args ds gs before hval0 hW _ _ hLd _
  have hval : ∀ (j : Nat) t v, Tryd.f4.params[j]? = some t → args[j]? = some v → Value.okWide Tryd.prog W .any base t v := hval0
  have hW' := hW
  obtain ⟨p, q, hA0, hV, rfl, _, _⟩ := hW
  have hA : DataW.TrodAll enc Tryd.prog W 0 (fun _ => true) true Tryd.f4.params.toList args.toList ds p := hA0
  rw [Tryd.params4] at hA hval
  obtain ⟨v0, d0, rfl, rfl, h0⟩ := trodAll_one hA
  obtain ⟨rfl, rfl⟩ := trodVars_none hV
  clear hA0 hval0
  simp only [List.append_nil] at hW'
  have hlt : ∀ x ∈ p, x.block < W.heap.size := fun x hx => by simpa using hW'.lt x (by simpa using hx)
  obtain ⟨x0, y0, z0, n0⟩ := opened_lines (hval 0 33 v0 rfl rfl) h0
  have hr0 : HR W rho0 [] := ⟨rfl, fun b hb => hb.elim, fun b hb => (rho0_no b (.inl hb)).elim, fun j j' b base base' h1 => by simp [rho0] at h1, fun j o l h1 => by simp at h1, ⟨fun b hb => False.elim hb, fun b j base hb => False.elim hb, fun j S items b h1 => by simp at h1, fun j j' S S' items items' b h1 => by simp at h1⟩⟩
  have htab := tab_of hLd
  have hk : KTab rho0 W := ⟨htab, fun g hg => ⟨fun ho => rho0_no g (.inl ho), by
    unfold Lib.TabIs World.var? at htab
    rw [hg, Option.bind_some] at htab
    rcases Nat.lt_or_ge g W.heap.size with h' | h'
    · exact h'
    · rw [Array.getElem?_eq_none h'] at htab; cases htab⟩⟩
  refine (fnExactFormatOrder_k x0 z0 n0 rho0 W #[v0] hk hr0 rfl (fun i v x h1 h2 => ?_)).mono fun e W' ⟨v, res, L', ρ', he, ⟨hR, _⟩, _, hvr, _, hst⟩ => ?_
  · match i, h1, h2 with
    | 0, h1, h2 => cases h1; cases h2; exact y0
    | n + 1, h1, _ => simp at h1
  subst hR
  rw [val_inv hvr] at he
  subst he
  have hw : Below W.heap.size W W' := ⟨hst.fr.os, hst.fr.tape, hst.fr.out, hst.fr.le, fun k hk => hst.fr.same k hk fun hb => rho0_no k (.inl hb)⟩
  have k0 := Below.trod laid (by kernel_rfl) (of_decide_eq_true (by kernel_rfl)) h0 hw (fun x hx => hlt x hx)
  exact ⟨_, rfl, _, _, _, [], p, [], hW', trodAll_mk1 (shut_bool Tryd.underlying4 true), trodAll_mk1 k0, rfl, hw.frame _, fun h => by cases h⟩

set_option maxRecDepth 100000 in
theorem FnExactFormatOrder_row : Rows.FnExactFormatOrderSaid :=
  OpenClaim.holds_of_wide 4 Tryd.f4 rfl rfl rfl rfl rfl rfl rfl ⟨rfl, rfl, rfl, rfl, rfl⟩ rfl rfl rfl rfl rfl (by kernel_rfl) Tryd.func4 (by kernel_rfl)
    (of_decide_eq_true (by kernel_rfl)) (by unfold Func.isWrapper; first | (rw [if_pos (by decide +kernel)]; kernel_rfl) | (rw [if_neg (by decide +kernel)]; exact ⟨rfl, rfl⟩))
    (fun os started H enc _ => lifted os started H enc)

theorem FnExactFormatOrderCard_proved : Rows.FnExactFormatOrderCardSaid :=
  Claim7.holds_tied_plain_at .later [] [.data, .data, .data] true (true, "a993e2da95c6f5867de34748a18e9828ef1c2a1653c9c4e32177ea756da3eef7") false
    FnExactFormatOrder_row (fun _ h => by cases h) (by kernel_rfl) (fun _ h => by cases h) fnExactFormatOrder_row_tie rfl ⟨rfl, rfl⟩ (by kernel_rfl) rfl
    (fun f fn hf hfn => by
      obtain rfl : f = 4 := Option.some.inj ((show Tryd.prog.funcNamed "loop.example/panecutter/laws.FnExactFormatOrder" = some 4 by kernel_rfl).symm.trans hf) |>.symm
      obtain rfl : fn = Tryd.f4 := (Option.some.inj (Tryd.func4.symm.trans hfn)).symm
      exact ⟨by kernel_rfl, fun j t ht => by
        rw [Tryd.params4] at ht
        have hm : t ∈ [33] := by simpa using Array.mem_of_getElem? ht
        have hall : ([33].all fun u => !Tryd.prog.wantsStandIn u) = true := by kernel_rfl
        exact (show Tryd.prog.wantsStandIn t = false by simpa using List.all_eq_true.1 hall t hm)⟩)
    (by kernel_rfl)
end Go.Proofs.YtajkeegikligcaaDoor
