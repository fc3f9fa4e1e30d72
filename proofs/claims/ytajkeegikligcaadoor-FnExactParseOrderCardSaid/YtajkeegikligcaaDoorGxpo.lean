/- FnExactParseOrder as its card states it is proved: whatever text it is handed, on whatever machine of the model, where the library's tables are laid as its text lays them, the law answers true; and the card ties those tables to the program's text. -/
import Derived.Test.YtajkeegikligcaaDoorCrg
import Derived.Test.YtajkeegikligcaaDoorRx
import Derived.Test.YtajkeegikligcaaDoorCg
import Derived.Test.YtajkeegikligcaaDoorCards
import Derived.Test.YtajkeegikligcaaDoorTie
import Derived.ProofKit
import Derived.LaidMore
import Derived.Lay
import Derived.OpenShut
import Derived.Stop.Joined
import Derived.SevenTiedAt
set_option linter.unusedSimpArgs false
set_option linter.unusedVariables false
namespace Go.Proofs.YtajkeegikligcaaDoor
open Go Go.Proofs Go.Pc Go.ChangeShapes Go.WideShapes Go.ChangeAt Go.RowKit

/-- A world in which the tables are laid meets the condition. -/
theorem world_met (os : Os) (args : Array Value) : laidMetH Tryd.prog Rows.fnExactParseOrderRow.laid ((World.laidAll Tryd.prog os Rows.fnExactParseOrderRow.laid).forCall (fun _ _ => 0) ⟨#[], args, []⟩).memory := by
  rw [MakeChecks.laidMetH_plain _ _ _ (by kernel_rfl)]
  exact laidMet_laidAll _ (by kernel_rfl) (by kernel_rfl)

theorem low_le {w : World} (h : w.ShapedOpen Tryd.prog) : Tryd.prog.low ≤ w.heap.size := by
  have hg : Tryd.prog.globals.size < Tryd.prog.low := of_decide_eq_true (by kernel_rfl)
  obtain ⟨o, _, h1, _, _⟩ := h.2 (Tryd.prog.low - 1) (by omega) (by unfold Program.low at *; omega)
  have := (Array.getElem?_eq_some_iff.1 h1).1
  omega

set_option maxHeartbeats 800000 in
set_option maxRecDepth 100000 in
theorem lifted (os : Os) (started : os.Started) (H : Type) (enc : TypeId × Value → H) :
    ReturnsInHanded {} Tryd.checked os 5 .any (fun w args => (Rows.fnExactParseOrderSpec.pre enc Tryd.prog Tryd.f5 Rows.fnExactParseOrderRow.domain false w args ∧ laidMetH Tryd.prog Rows.fnExactParseOrderRow.laid w) ∧ sizedMet enc Tryd.prog Tryd.f5 (OpenSpec.ofChange Rows.fnExactParseOrderSpec) false w args)
      (Rows.fnExactParseOrderSpec.post enc Tryd.prog Tryd.f5 false true false false) := by
  refine returnsInHanded_of_calls knob started (by kernel_rfl)
    (ChangeSpec.witness_shaped (enc := enc) (C := Tryd.checked) (os := os) (X := fun w _ => laidMetH Tryd.prog Rows.fnExactParseOrderRow.laid w) false (World.laidAll Tryd.prog os Rows.fnExactParseOrderRow.laid) #[.string ⟨#[]⟩] 8 (World.laidAll_os _ _ _) (World.shaped_of_ZipB (by kernel_rfl) (by kernel_rfl)) (by kernel_rfl) (by kernel_rfl) (by kernel_rfl) (world_met os _)) ?_
  intro w tape i _ hsh _ hok hpre _
  obtain ⟨_, _, _, fn', hfn', _, _, _, _, hval0⟩ := hok
  obtain rfl : fn' = Tryd.f5 := Option.some.inj (hfn'.symm.trans Tryd.func5)
  obtain ⟨⟨⟨ds, gs, before, hw0, _⟩, _⟩, _⟩ := hpre
  have hW := DataW.Whole.of_heap (w' := w.forCall tape i) (by rfl) hw0
  clear hw0
  have key : Calls Tryd.prog 5 i.args (w.forCall tape i) fun e W' => ∃ v, e = .returned v ∧ Rows.fnExactParseOrderSpec.post enc Tryd.prog Tryd.f5 false true false false (w.forCall tape i) i.args v W' := by
    generalize w.forCall tape i = W at hsh hval0 hW ⊢
    generalize i.args = args at hval0 hW ⊢
    have hval : ∀ (j : Nat) t v, Tryd.f5.params[j]? = some t → args[j]? = some v → Value.okWide Tryd.prog W .any _ t v := hval0
    have hW' := hW
    obtain ⟨p, q, hA0, hV, rfl, _, _⟩ := hW
    have hA : DataW.TrodAll enc Tryd.prog W 0 (fun _ => true) true Tryd.f5.params.toList args.toList ds p := hA0
    rw [Tryd.params5] at hA hval
    obtain ⟨v0, d0, rfl, rfl, h0⟩ := trodAll_one hA
    obtain ⟨rfl, rfl⟩ := trodVars_none hV
    clear hA0 hval0
    simp only [List.append_nil] at hW'
    have hlt : ∀ x ∈ p, x.block < W.heap.size := fun x hx => by simpa using hW'.lt x (by simpa using hx)
    obtain ⟨s, rfl⟩ := okWide_string Tryd.underlying9 (hval 0 9 v0 rfl rfl)
    have hr0 : HR W rho0 [] := ⟨rfl, fun b hb => hb.elim, fun b hb => (rho0_no b (.inl hb)).elim, fun j j' b base base' h1 => by simp [rho0] at h1, fun j o l h1 => by simp at h1, ⟨fun b hb => False.elim hb, fun b j base hb => False.elim hb, fun j S items b h1 => by simp at h1, fun j j' S S' items items' b h1 => by simp at h1⟩⟩
    have hk : KShp rho0 W := ⟨hsh, low_le hsh, fun b _ ho => rho0_no b (.inl ho)⟩
    refine (fnExactParseOrder_k s.data.toList rho0 W #[.string s] hk hr0 rfl (fun i v x h1 h2 => ?_)).mono fun e W' ⟨v, res, L', ρ', he, ⟨hR, _⟩, _, hvr, _, hst⟩ => ?_
    · match i, h1, h2 with
      | 0, h1, h2 => cases h1; cases h2; rw [data_strB]; exact .pr (.val _)
      | n + 1, h1, _ => simp at h1
    subst hR
    rw [val_inv hvr] at he
    subst he
    have hw : Below W.heap.size W W' := ⟨hst.fr.os, hst.fr.tape, hst.fr.out, hst.fr.le, fun k hk => hst.fr.same k hk fun hb => rho0_no k (.inl hb)⟩
    have k0 := Below.trod laid (by kernel_rfl) (of_decide_eq_true (by kernel_rfl)) h0 hw (fun x hx => hlt x hx)
    exact ⟨_, rfl, _, _, _, [], p, [], hW', trodAll_mk1 (shut_bool Tryd.underlying4 true), trodAll_mk1 k0, rfl, hw.frame _, fun h => by cases h⟩
  refine key.mono fun e W' ⟨v, he, hp⟩ => ?_
  subst he
  exact ChangeSpec.post_blind hp

set_option maxRecDepth 100000 in
theorem FnExactParseOrder_row : Rows.FnExactParseOrderSaid :=
  OpenClaim.holds_of_wide 5 Tryd.f5 rfl rfl rfl rfl rfl rfl rfl ⟨rfl, rfl, rfl, rfl, rfl⟩ rfl rfl rfl rfl rfl (by kernel_rfl) Tryd.func5 (by kernel_rfl)
    (of_decide_eq_true (by kernel_rfl)) (by unfold Func.isWrapper; first | (rw [if_pos (by decide +kernel)]; kernel_rfl) | (rw [if_neg (by decide +kernel)]; exact ⟨rfl, rfl⟩))
    (fun os started H enc _ => lifted os started H enc)

theorem FnExactParseOrderCard_proved : Rows.FnExactParseOrderCardSaid :=
  Claim7.holds_tied_plain_at .later [] [.data, .pinned] true (true, "a993e2da95c6f5867de34748a18e9828ef1c2a1653c9c4e32177ea756da3eef7") false
    FnExactParseOrder_row (fun _ h => by cases h) (by kernel_rfl) (fun _ h => by cases h) fnExactParseOrder_row_tie rfl ⟨rfl, rfl⟩ (by kernel_rfl) rfl
    (fun f fn hf hfn => by
      obtain rfl : f = 5 := Option.some.inj ((show Tryd.prog.funcNamed "loop.example/panecutter/laws.FnExactParseOrder" = some 5 by kernel_rfl).symm.trans hf) |>.symm
      obtain rfl : fn = Tryd.f5 := (Option.some.inj (Tryd.func5.symm.trans hfn)).symm
      exact ⟨by kernel_rfl, fun j t ht => by
        rw [Tryd.params5] at ht
        have hm : t ∈ [9] := by simpa using Array.mem_of_getElem? ht
        have hall : ([9].all fun u => !Tryd.prog.wantsStandIn u) = true := by kernel_rfl
        exact (show Tryd.prog.wantsStandIn t = false by simpa using List.all_eq_true.1 hall t hm)⟩)
    (by kernel_rfl)
end Go.Proofs.YtajkeegikligcaaDoor
