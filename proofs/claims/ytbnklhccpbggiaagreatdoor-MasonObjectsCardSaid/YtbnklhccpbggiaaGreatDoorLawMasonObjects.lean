/- Parts of an abstract machine and its proofs: LawMasonObjects. -/
import Derived.Test.YtbnklhccpbggiaaGreatDoorLift
import Derived.Test.YtbnklhccpbggiaaGreatDoorZ3

set_option linter.unusedSimpArgs false
set_option linter.unusedVariables false
/- The row MasonObjects and its tied card. -/
namespace Go.Proofs.YtbnklhccpbggiaaGreatDoor.masonObjects
open Go
theorem goes_false {P : Program} (h : P.funcs.any Func.goes = false) (f : FuncId) : P.goes f = false := by
  have h1 : ∀ g : Nat, (P.funcs[g]?).any Func.goes = false := by
    intro g
    cases hg : P.funcs[g]? with
    | none => rfl
    | some fn =>
      rw [Array.any_eq_false] at h
      obtain ⟨hi, he⟩ := Array.getElem?_eq_some_iff.1 hg
      have := h g hi
      rw [he] at this
      simpa using this
  unfold Program.goes
  simp [h, h1]
theorem over : Rows.masonObjectsRow.holds Tryz.pinned (OpenSpec.ofChange Rows.masonObjectsSpec) :=
  OpenClaim.holds_of_wide 3 Tryz.f3 rfl rfl rfl rfl rfl rfl rfl ⟨rfl, rfl, rfl, rfl, rfl⟩ rfl rfl rfl rfl rfl (by kernel_rfl) Tryz.func3 closed
    (of_decide_eq_true (by kernel_rfl)) (by unfold Func.isWrapper; first | (rw [if_pos (by decide +kernel)]; kernel_rfl) | (rw [if_neg (by decide +kernel)]; exact ⟨rfl, rfl⟩))
    (fun os started H enc _ => lifted os started H enc)
theorem noStandIn (t : TypeId) (h : t = 9 ∨ t = 3) : Tryz.prog.wantsStandIn t = false := by
  have hall : ([9, 3].all fun u => !Tryz.prog.wantsStandIn u) = true := by kernel_rfl
  have := List.all_eq_true.1 hall t (by simpa using h)
  cases hw : Tryz.prog.wantsStandIn t with
  | false => rfl
  | true => rw [hw] at this; cases this
theorem goesNot : false = Rows.masonObjectsRow.goesBy Tryz.prog := by
  have hn : Tryz.prog.funcNamed "arbour/arbourlaw22.MasonObjects" = some 3 := by kernel_rfl
  have h : Tryz.prog.goesFrom "arbour/arbourlaw22.MasonObjects" = false := by
    unfold Program.goesFrom
    rw [hn, Option.any_some]
    exact goes_false (P := Tryz.prog) fact_goes _
  have e : Rows.masonObjectsRow.goesBy Tryz.prog = (Tryz.prog.goesFrom "arbour/arbourlaw22.MasonObjects" || false) := rfl
  rw [e, h]; rfl
theorem looked (f : FuncId) (fn : Func) (hf : Tryz.prog.funcNamed "arbour/arbourlaw22.MasonObjects" = some f) (hfn : Tryz.prog.funcs[f]? = some fn) : false = Tryz.prog.looks [] ∧ ∀ (j : Nat) t, fn.params[j]? = some t → Tryz.prog.wantsStandIn t = false := by
  obtain rfl : f = 3 := Option.some.inj ((show Tryz.prog.funcNamed "arbour/arbourlaw22.MasonObjects" = some 3 by kernel_rfl).symm.trans hf) |>.symm
  obtain rfl : fn = Tryz.f3 := (Option.some.inj (Tryz.func3.symm.trans hfn)).symm
  refine ⟨by kernel_rfl, fun j t ht => noStandIn t ?_⟩
  rw [Tryz.params3] at ht
  have hm : t ∈ [9, 3] := by simpa using Array.mem_of_getElem? ht
  simpa using hm
theorem byText : Rows.masonObjectsRow.wfByText (OpenSpec.ofChange Rows.masonObjectsSpec) = true := by kernel_rfl
theorem mainIs : Tryz.prog.mainIs = some (true, "0a40517000fcc02029b9796f92f5ef8adddd1fbdb78dc037384981a45eda4f11".toList) := by kernel_rfl
theorem proved : Rows.MasonObjectsCardSaid :=
  Claim7.holds_tied_plain_at .later [] [.data, .pinned] true (true, "0a40517000fcc02029b9796f92f5ef8adddd1fbdb78dc037384981a45eda4f11") false over (fun _ h => by cases h) byText (fun _ h => by cases h) masonObjects_row_tie rfl ⟨rfl, rfl⟩ mainIs rfl looked goesNot
end Go.Proofs.YtbnklhccpbggiaaGreatDoor.masonObjects
namespace Go.Proofs.YtbnklhccpbggiaaGreatDoor
/-- The card, under a short name, for the claim. -/
theorem masonObjects_holds : Rows.MasonObjectsCardSaid := masonObjects.proved
end Go.Proofs.YtbnklhccpbggiaaGreatDoor
