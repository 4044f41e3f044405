/- Parts of an abstract machine and its proofs: LawMasonAdopts. -/
import Derived.Test.YtnfcebbbbhnpiaaGreatDoorLift
import Derived.Test.YtnfcebbbbhnpiaaGreatDoorZ3

set_option linter.unusedSimpArgs false
set_option linter.unusedVariables false
/- The row MasonAdopts and its tied card. -/
namespace Go.Proofs.YtnfcebbbbhnpiaaGreatDoor.masonAdopts
open Go
theorem goes_false {P : Program} (h : P.funcs.any Func.goes = false) (f : FuncId) : P.goes f = false := by
  have h1 : ∀ g : Nat, (P.funcs[g]?).any Func.goes = false := by
    intro g
    cases hg : P.funcs[g]? with
    | none => rfl
    | some fn =>
      rw [Array.any_eq_false] at h
      obtain ⟨hi, he⟩ := Array.getElem?_eq_some_iff.1 hg
      have := h g hi
      rw [he] at this
      simpa using this
  unfold Program.goes
  simp [h, h1]
theorem over : Rows.masonAdoptsRow.holds Tryz.pinned (OpenSpec.ofChange Rows.masonAdoptsSpec) :=
  OpenClaim.holds_of_wide 3 Tryz.f3 rfl rfl rfl rfl rfl rfl rfl ⟨rfl, rfl, rfl, rfl, rfl⟩ rfl rfl rfl rfl rfl (by kernel_rfl) Tryz.func3 closed
    (of_decide_eq_true (by kernel_rfl)) (by unfold Func.isWrapper; first | (rw [if_pos (by decide +kernel)]; kernel_rfl) | (rw [if_neg (by decide +kernel)]; exact ⟨rfl, rfl⟩))
    (fun os started H enc _ => lifted os started H enc)
theorem noStandIn (t : TypeId) (h : t = 22 ∨ t = 9) : Tryz.prog.wantsStandIn t = false := by
  have hall : ([22, 9].all fun u => !Tryz.prog.wantsStandIn u) = true := by kernel_rfl
  have := List.all_eq_true.1 hall t (by simpa using h)
  cases hw : Tryz.prog.wantsStandIn t with
  | false => rfl
  | true => rw [hw] at this; cases this
theorem goesNot : false = Rows.masonAdoptsRow.goesBy Tryz.prog := by
  have hn : Tryz.prog.funcNamed "arbour/arbourlaw22.MasonAdopts" = some 3 := by kernel_rfl
  have h : Tryz.prog.goesFrom "arbour/arbourlaw22.MasonAdopts" = false := by
    unfold Program.goesFrom
    rw [hn, Option.any_some]
    exact goes_false (P := Tryz.prog) fact_goes _
  have e : Rows.masonAdoptsRow.goesBy Tryz.prog = (Tryz.prog.goesFrom "arbour/arbourlaw22.MasonAdopts" || false) := rfl
  rw [e, h]; rfl
theorem looked (f : FuncId) (fn : Func) (hf : Tryz.prog.funcNamed "arbour/arbourlaw22.MasonAdopts" = some f) (hfn : Tryz.prog.funcs[f]? = some fn) : false = Tryz.prog.looks [] ∧ ∀ (j : Nat) t, fn.params[j]? = some t → Tryz.prog.wantsStandIn t = false := by
  obtain rfl : f = 3 := Option.some.inj ((show Tryz.prog.funcNamed "arbour/arbourlaw22.MasonAdopts" = some 3 by kernel_rfl).symm.trans hf) |>.symm
  obtain rfl : fn = Tryz.f3 := (Option.some.inj (Tryz.func3.symm.trans hfn)).symm
  refine ⟨by kernel_rfl, fun j t ht => noStandIn t ?_⟩
  rw [Tryz.params3] at ht
  have hm : t ∈ [22, 9] := by simpa using Array.mem_of_getElem? ht
  simpa using hm
theorem byText : Rows.masonAdoptsRow.wfByText (OpenSpec.ofChange Rows.masonAdoptsSpec) = true := by kernel_rfl
theorem mainIs : Tryz.prog.mainIs = some (true, "a03f160c849072a717786803f3cf3521d238cb31bb2553fa307e9139b50f0706".toList) := by kernel_rfl
theorem proved : Rows.MasonAdoptsCardSaid :=
  Claim7.holds_tied_plain_at .later [] [.data, .pinned] true (true, "a03f160c849072a717786803f3cf3521d238cb31bb2553fa307e9139b50f0706") false over (fun _ h => by cases h) byText (fun _ h => by cases h) masonAdopts_row_tie rfl ⟨rfl, rfl⟩ mainIs rfl looked goesNot
end Go.Proofs.YtnfcebbbbhnpiaaGreatDoor.masonAdopts
namespace Go.Proofs.YtnfcebbbbhnpiaaGreatDoor
/-- The card, under a short name, for the claim. -/
theorem masonAdopts_holds : Rows.MasonAdoptsCardSaid := masonAdopts.proved
end Go.Proofs.YtnfcebbbbhnpiaaGreatDoor
