/- Parts of an abstract machine and its proofs: LawMasonLinks. -/
import Derived.Test.YtakfgolgfgdeaaaGreatDoorLkLift
import Derived.Test.YtakfgolgfgdeaaaGreatDoorLkZ3

set_option linter.unusedSimpArgs false
set_option linter.unusedVariables false
namespace Go.Proofs.YtakfgolgfgdeaaaGreatDoor.masonLinks
open Go
theorem goes_false {P : Program} (h : P.funcs.any Func.goes = false) (f : FuncId) : P.goes f = false := by
  have h1 : ∀ g : Nat, (P.funcs[g]?).any Func.goes = false := by
    intro g
    cases hg : P.funcs[g]? with
    | none => rfl
    | some fn =>
      rw [Array.any_eq_false] at h
      obtain ⟨hi, he⟩ := Array.getElem?_eq_some_iff.1 hg
      have := h g hi
      rw [he] at this
      simpa using this
  unfold Program.goes
  simp [h, h1]
theorem over : Rows.masonLinksRow.holds Tryz.pinned (OpenSpec.ofChange Rows.masonLinksSpec) :=
  OpenClaim.holds_of_wide 6 Tryz.f6 rfl rfl rfl rfl rfl rfl rfl ⟨rfl, rfl, rfl, rfl, rfl⟩ rfl rfl rfl rfl rfl (by kernel_rfl) Tryz.func6 closed
    (of_decide_eq_true (by kernel_rfl)) (by unfold Func.isWrapper; first | (rw [if_pos (by decide +kernel)]; kernel_rfl) | (rw [if_neg (by decide +kernel)]; exact ⟨rfl, rfl⟩))
    (fun os started H enc _ => lifted os started H enc)
theorem noStandIn (t : TypeId) (h : t = 3 ∨ t = 9) : Tryz.prog.wantsStandIn t = false := by
  have hall : ([3, 9].all fun u => !Tryz.prog.wantsStandIn u) = true := by kernel_rfl
  have := List.all_eq_true.1 hall t (by simpa using h)
  cases hw : Tryz.prog.wantsStandIn t with
  | false => rfl
  | true => rw [hw] at this; cases this
theorem goesNot : false = Rows.masonLinksRow.goesBy Tryz.prog := by
  have hn : Tryz.prog.funcNamed "arbour/arbourlaw22.MasonLinks" = some 6 := by kernel_rfl
  have h : Tryz.prog.goesFrom "arbour/arbourlaw22.MasonLinks" = false := by
    unfold Program.goesFrom
    rw [hn, Option.any_some]
    exact goes_false (P := Tryz.prog) fact_goes _
  have e : Rows.masonLinksRow.goesBy Tryz.prog = (Tryz.prog.goesFrom "arbour/arbourlaw22.MasonLinks" || false) := rfl
  rw [e, h]; rfl
theorem looked (f : FuncId) (fn : Func) (hf : Tryz.prog.funcNamed "arbour/arbourlaw22.MasonLinks" = some f) (hfn : Tryz.prog.funcs[f]? = some fn) : false = Tryz.prog.looks [] ∧ ∀ (j : Nat) t, fn.params[j]? = some t → Tryz.prog.wantsStandIn t = false := by
  obtain rfl : f = 6 := Option.some.inj ((show Tryz.prog.funcNamed "arbour/arbourlaw22.MasonLinks" = some 6 by kernel_rfl).symm.trans hf) |>.symm
  obtain rfl : fn = Tryz.f6 := (Option.some.inj (Tryz.func6.symm.trans hfn)).symm
  refine ⟨by kernel_rfl, fun j t ht => noStandIn t ?_⟩
  rw [Tryz.params6] at ht
  have hm : t ∈ [3, 9] := by simpa using Array.mem_of_getElem? ht
  simpa using hm
theorem byText : Rows.masonLinksRow.wfByText (OpenSpec.ofChange Rows.masonLinksSpec) = true := by kernel_rfl
theorem mainIs : Tryz.prog.mainIs = some (true, "69207b71f270f6e004baede40bc2a757e5501e00935df98c05ff6c95e5762f7c".toList) := by kernel_rfl
theorem proved : Rows.MasonLinksCardSaid :=
  Claim7.holds_tied_plain_at .later [] [.data, .pinned] true (true, "69207b71f270f6e004baede40bc2a757e5501e00935df98c05ff6c95e5762f7c") false over (fun _ h => by cases h) byText (fun _ h => by cases h) masonLinks_row_tie rfl ⟨rfl, rfl⟩ mainIs rfl looked goesNot
end Go.Proofs.YtakfgolgfgdeaaaGreatDoor.masonLinks
namespace Go.Proofs.YtakfgolgfgdeaaaGreatDoor
theorem masonLinks_holds : Rows.MasonLinksCardSaid := masonLinks.proved
end Go.Proofs.YtakfgolgfgdeaaaGreatDoor
