/- Parts of an abstract machine and its proofs: MaO. -/
import Derived.Test.YtcgejflifhjajaaGreatDoorMaT
import Derived.Test.YtcgejflifhjajaaGreatDoorAmF2
import Derived.Test.YtcgejflifhjajaaGreatDoorAmSim
import Derived.Test.YtcgejflifhjajaaGreatDoorProg

set_option linter.unusedSimpArgs false
set_option linter.unusedVariables false
namespace Go.Am
open Go.Fm
noncomputable def okAt (n : Nat) : Bool := match Ma.code n with
  | some c => okFun Go.Proofs.Tryz.prog id n (trF c.2) && Go.Fm.okF c.1 c.2
  | none => true
noncomputable def okRange (a n : Nat) : Bool := Nat.rec (motive := fun _ => Nat → Bool) (fun _ => true) (fun _ ih a => cond (okAt a) (ih (Nat.succ a)) false) n a
theorem okRange_at : ∀ (n a : Nat), okRange a n = true → ∀ m, a ≤ m → m < a + n → okAt m = true
  | 0, a, _, m, h1, h2 => absurd h2 (by omega)
  | n + 1, a, h, m, h1, h2 => by
    have h : cond (okAt a) (okRange (a + 1) n) false = true := h
    cases ha : okAt a with
    | false => rw [ha] at h; cases h
    | true =>
      rw [ha] at h
      by_cases q : m = a
      · rw [q]; exact ha
      · exact okRange_at n (a + 1) h m (by omega) (by omega)
end Go.Am
