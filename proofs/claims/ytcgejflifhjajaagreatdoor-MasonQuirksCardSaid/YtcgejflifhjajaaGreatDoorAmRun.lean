/- Parts of an abstract machine and its proofs: AmRun. -/
import Derived.Test.YtcgejflifhjajaaGreatDoorAmAm

set_option linter.unusedSimpArgs false
set_option linter.unusedVariables false
namespace Go.Am
theorem exec_succ (fns : Fns) (n base : Nat) (c : ACode) (e : Env) (h : H) : exec fns (n + 1) base c e h = match c with
    | .skip => some (.normal, e, h)
    | .region ops chk => match runOps (callSem fns (exec fns n)) base ops chk ops e h with
      | some (e, h) => some (.normal, e, h)
      | none => none
    | .seq a b => match exec fns n base a e h with
      | some (.normal, e, h) => exec fns n base b e h
      | r => r
    | .cond x a b => match x.ev e with
      | .bool t => bif t then exec fns n base a e h else exec fns n base b e h
      | _ => none
    | .block id b => match exec fns n base b e h with
      | some (.exit i, e, h) => if i = id then some (.normal, e, h) else some (.exit i, e, h)
      | r => r
    | .loop b => match exec fns n base b e h with
      | some (.normal, e, h) => exec fns n base (.loop b) e h
      | r => r
    | .exit id => some (.exit id, e, h)
    | .ret => some (.ret, e, h)
    | .ghost g => match ghost base g e h with
      | some (e, h) => some (.normal, e, h)
      | none => none := rfl
def CLe (a b : CallSem) : Prop := ∀ k f args base h r, a k f args base h = some r → b k f args base h = some r
def XLe (a b : Ex) : Prop := ∀ base c e h r, a base c e h = some r → b base c e h = some r
theorem opSem_le {a b : CallSem} (l : CLe a b) {base : Nat} {e : Env} {h : H} (o : AOp) {r : AV × H} (hs : opSem a base e h o = some r) : opSem b base e h o = some r := by
  unfold opSem at hs ⊢
  split at hs
  · exact l _ _ _ _ _ _ hs
  · split at hs
    · cases hs
    · split at hs
      · split at hs
        · rename_i hc
          simp only [l _ _ _ _ _ _ hc]
          exact hs
        · cases hs
      · cases hs
  · split at hs
    · exact l _ _ _ _ _ _ hs
    · cases hs
  · exact hs
theorem runOp_le {a b : CallSem} (l : CLe a b) {base : Nat} {e : Env} {h : H} (o : AOper) {r : Env × H} (hs : runOp a base o e h = some r) : runOp b base o e h = some r := by
  unfold runOp at hs ⊢
  split at hs
  · split at hs
    · rename_i hc
      rw [opSem_le l _ hc]; exact hs
    · cases hs
  · exact hs
  · cases hs
theorem again_le {a b : CallSem} (l : CLe a b) {base : Nat} {e : Env} {h : H} (o : AOper) (hs : again a base o e h = true) : again b base o e h = true := by
  unfold again at hs ⊢
  split at hs
  · split at hs
    · rename_i hc
      rw [opSem_le l _ hc]; exact hs
    · cases hs
  · rfl
  · cases hs
theorem recheck_le {a b : CallSem} (l : CLe a b) {base : Nat} {ops : List (Nat × AOper)} {w : Nat} {e : Env} {h : H} : ∀ {chk : List (Nat × Nat)}, recheck a base ops w e h chk = true → recheck b base ops w e h chk = true
  | [], _ => rfl
  | (i, j) :: cs, hs => by
    simp only [recheck, Bool.and_eq_true] at hs ⊢
    refine ⟨?_, recheck_le l hs.2⟩
    have h1 := hs.1
    cases hj : j.beq w with
    | false => rfl
    | true =>
      rw [hj] at h1
      simp only [cond_true] at h1 ⊢
      split at h1
      · exact again_le l _ h1
      · cases h1
theorem runOps_le {a b : CallSem} (l : CLe a b) {base : Nat} {all : List (Nat × AOper)} {chk : List (Nat × Nat)} : ∀ {ops : List (Nat × AOper)} {e : Env} {h : H} {r : Env × H},
    runOps a base all chk ops e h = some r → runOps b base all chk ops e h = some r
  | [], _, _, _, hs => hs
  | (i, o) :: ops, e, h, r, hs => by
    simp only [runOps] at hs ⊢
    split at hs
    · rename_i hc
      rw [runOp_le l _ hc]
      split at hs
      · rename_i hr
        simp only [recheck_le l hr, if_true]
        exact runOps_le l hs
      · cases hs
    · cases hs
theorem callF_le {fns : Fns} {a b : Ex} (l : XLe a b) {f : Nat} {args : List AV} {base : Nat} {h : H} {r : AV × H} (hs : callF fns a f args base h = some r) : callF fns b f args base h = some r := by
  unfold callF at hs ⊢
  split at hs
  · split at hs
    · rename_i hc
      simp only [l _ _ _ _ _ hc]
      exact hs
    · cases hs
  · exact hs
  · cases hs
theorem callSem_le {fns : Fns} {a b : Ex} (l : XLe a b) : CLe (callSem fns a) (callSem fns b) := by
  intro k f args base h r hs
  cases k with
  | wr => exact callF_le l hs
  | ro =>
    simp only [callSem] at hs ⊢
    split at hs
    · rename_i hc
      rw [callF_le l hc]; exact hs
    · cases hs
  | pure =>
    simp only [callSem] at hs ⊢
    split at hs
    · rename_i hu
      rw [if_pos hu]
      split at hs
      · rename_i hc
        rw [callF_le l hc]; exact hs
      · cases hs
    · cases hs
theorem exec_le_succ (fns : Fns) : ∀ n, XLe (exec fns n) (exec fns (n + 1)) := by
  intro n
  induction n with
  | zero => intro base c e h r hs; simp [exec] at hs
  | succ n ih =>
    intro base c e h r hs
    rw [exec_succ] at hs
    rw [exec_succ]
    cases c with
    | skip => exact hs
    | exit i => exact hs
    | ret => exact hs
    | ghost g => exact hs
    | region ops chk =>
      simp only at hs ⊢
      split at hs
      · rename_i hr
        rw [runOps_le (callSem_le ih) hr]; exact hs
      · cases hs
    | seq a b =>
      simp only at hs ⊢
      split at hs
      · rename_i ha
        rw [ih _ _ _ _ _ ha]
        exact ih _ _ _ _ _ hs
      · rename_i hno
        rw [ih _ _ _ _ _ hs]
        split
        · rename_i heq; cases heq; exact absurd hs (hno _ _)
        · rfl
    | cond x a b =>
      simp only at hs ⊢
      split at hs
      · rename_i t ht
        cases t
        · exact ih _ _ _ _ _ hs
        · exact ih _ _ _ _ _ hs
      · cases hs
    | block i a =>
      simp only at hs ⊢
      split at hs
      · rename_i ha
        rw [ih _ _ _ _ _ ha]; exact hs
      · rename_i hno
        rw [ih _ _ _ _ _ hs]
        split
        · rename_i heq; cases heq; exact absurd hs (hno _ _ _)
        · rfl
    | loop a =>
      simp only at hs ⊢
      split at hs
      · rename_i ha
        rw [ih _ _ _ _ _ ha]
        exact ih _ _ _ _ _ hs
      · rename_i hno
        rw [ih _ _ _ _ _ hs]
        split
        · rename_i heq; cases heq; exact absurd hs (hno _ _)
        · rfl
theorem exec_le (fns : Fns) {n : Nat} : ∀ {m : Nat}, n ≤ m → XLe (exec fns n) (exec fns m)
  | 0, h => by have : n = 0 := by omega
               subst this; exact fun _ _ _ _ _ h => h
  | m + 1, h => by
    by_cases e : n = m + 1
    · subst e; exact fun _ _ _ _ _ h => h
    · exact fun _ _ _ _ _ hs => exec_le_succ fns m _ _ _ _ _ (exec_le fns (by omega : n ≤ m) _ _ _ _ _ hs)
end Go.Am
namespace Go.Am
def execT (T : CallSem) : Nat → Ex
  | 0, _, _, _, _ => none
  | n + 1, base, c, e, h =>
    match c with
    | .skip => some (.normal, e, h)
    | .region ops chk => match runOps T base ops chk ops e h with
      | some (e, h) => some (.normal, e, h)
      | none => none
    | .seq a b => match execT T n base a e h with
      | some (.normal, e, h) => execT T n base b e h
      | r => r
    | .cond x a b => match x.ev e with
      | .bool t => bif t then execT T n base a e h else execT T n base b e h
      | _ => none
    | .block id b => match execT T n base b e h with
      | some (.exit i, e, h) => if i = id then some (.normal, e, h) else some (.exit i, e, h)
      | r => r
    | .loop b => match execT T n base b e h with
      | some (.normal, e, h) => execT T n base (.loop b) e h
      | r => r
    | .exit id => some (.exit id, e, h)
    | .ret => some (.ret, e, h)
    | .ghost g => match ghost base g e h with
      | some (e, h) => some (.normal, e, h)
      | none => none
section
variable {fns : Fns} {T : CallSem}
def Good (fns : Fns) (T : CallSem) : Prop := ∀ k f args base h r, T k f args base h = some r → ∃ N, callSem fns (exec fns N) k f args base h = some r
def From (p : Nat → Prop) : Prop := ∃ N, ∀ m, N ≤ m → p m
theorem From.and {p q : Nat → Prop} (hp : From p) (hq : From q) : From fun m => p m ∧ q m :=
  let ⟨a, ha⟩ := hp
  let ⟨b, hb⟩ := hq
  ⟨a + b, fun m hm => ⟨ha m (by omega), hb m (by omega)⟩⟩
theorem From.mono {p q : Nat → Prop} (hp : From p) (h : ∀ m, p m → q m) : From q := let ⟨a, ha⟩ := hp; ⟨a, fun m hm => h m (ha m hm)⟩
theorem From.of {p : Nat → Prop} (h : ∀ m, p m) : From p := ⟨0, fun m _ => h m⟩
theorem Good.from (g : Good fns T) {k : CK} {f : Nat} {args : List AV} {base : Nat} {h : H} {r : AV × H} (ht : T k f args base h = some r) :
    From fun m => callSem fns (exec fns m) k f args base h = some r :=
  let ⟨N, hN⟩ := g k f args base h r ht
  ⟨N, fun _ hm => callSem_le (exec_le fns hm) _ _ _ _ _ _ hN⟩
theorem opSem_T (g : Good fns T) {base : Nat} {e : Env} {h : H} {o : AOp} {r : AV × H} (hs : opSem T base e h o = some r) : From fun m => opSem (callSem fns (exec fns m)) base e h o = some r := by
  unfold opSem at hs ⊢
  split at hs
  · exact g.from hs
  · split at hs
    · cases hs
    · split at hs
      · split at hs
        · rename_i hc
          refine (g.from hc).mono fun m hm => ?_
          simp only [hm]
          exact hs
        · cases hs
      · cases hs
  · split at hs
    · exact g.from hs
    · cases hs
  · exact .of fun _ => hs
theorem runOp_T (g : Good fns T) {base : Nat} {e : Env} {h : H} {o : AOper} {r : Env × H} (hs : runOp T base o e h = some r) : From fun m => runOp (callSem fns (exec fns m)) base o e h = some r := by
  unfold runOp at hs ⊢
  split at hs
  · split at hs
    · rename_i hc
      refine (opSem_T g hc).mono fun m hm => ?_
      simp only [hm]; exact hs
    · cases hs
  · exact .of fun _ => hs
  · cases hs
theorem again_T (g : Good fns T) {base : Nat} {e : Env} {h : H} {o : AOper} (hs : again T base o e h = true) : From fun m => again (callSem fns (exec fns m)) base o e h = true := by
  unfold again at hs ⊢
  split at hs
  · split at hs
    · rename_i hc
      refine (opSem_T g hc).mono fun m hm => ?_
      simp only [hm]; exact hs
    · cases hs
  · exact .of fun _ => rfl
  · cases hs
theorem recheck_T (g : Good fns T) {base : Nat} {ops : List (Nat × AOper)} {w : Nat} {e : Env} {h : H} : ∀ {chk : List (Nat × Nat)}, recheck T base ops w e h chk = true →
    From fun m => recheck (callSem fns (exec fns m)) base ops w e h chk = true
  | [], _ => .of fun _ => rfl
  | (i, j) :: cs, hs => by
    simp only [recheck, Bool.and_eq_true] at hs ⊢
    refine From.and ?_ (recheck_T g hs.2)
    have h1 := hs.1
    cases hj : j.beq w with
    | false => exact .of fun _ => rfl
    | true =>
      rw [hj] at h1
      simp only [cond_true] at h1 ⊢
      split at h1
      · exact again_T g h1
      · cases h1
theorem runOps_T (g : Good fns T) {base : Nat} {all : List (Nat × AOper)} {chk : List (Nat × Nat)} : ∀ {ops : List (Nat × AOper)} {e : Env} {h : H} {r : Env × H},
    runOps T base all chk ops e h = some r → From fun m => runOps (callSem fns (exec fns m)) base all chk ops e h = some r
  | [], _, _, _, hs => .of fun _ => hs
  | (i, o) :: ops, e, h, r, hs => by
    simp only [runOps] at hs
    split at hs
    · rename_i e1 h1 hc
      split at hs
      · rename_i hr
        refine (((runOp_T g hc).and (recheck_T g hr)).and (runOps_T g hs)).mono fun m hm => ?_
        simp only [runOps, hm.1.1, hm.1.2, if_true, hm.2]
      · cases hs
    · cases hs
theorem execT_sound (g : Good fns T) : ∀ n base c e h r, execT T n base c e h = some r → From fun m => exec fns m base c e h = some r := by
  have step : ∀ {p : Nat → Prop}, From (fun m => p (m + 1)) → From p := fun ⟨N, hN⟩ => ⟨N + 1, fun m hm => by
    obtain ⟨k, rfl⟩ : ∃ k, m = k + 1 := ⟨m - 1, by omega⟩
    exact hN k (by omega)⟩
  intro n
  induction n with
  | zero => intro base c e h r hs; simp [execT] at hs
  | succ n ih =>
    intro base c e h r hs
    refine step ?_
    simp only [exec_succ]
    cases c with
    | skip => exact .of fun _ => hs
    | exit i => exact .of fun _ => hs
    | ret => exact .of fun _ => hs
    | ghost g => exact .of fun _ => hs
    | region ops chk =>
      simp only [execT] at hs
      split at hs
      · rename_i hr
        refine (runOps_T g hr).mono fun m hm => ?_
        simp only [hm]; exact hs
      · cases hs
    | seq a b =>
      simp only [execT] at hs
      split at hs
      · rename_i ha
        refine ((ih _ _ _ _ _ ha).and (ih _ _ _ _ _ hs)).mono fun m hm => ?_
        simp only [hm.1]; exact hm.2
      · rename_i hno
        refine (ih _ _ _ _ _ hs).mono fun m hm => ?_
        simp only [hm]
        split
        · rename_i heq; cases heq; exact absurd hs (hno _ _)
        · rfl
    | cond x a b =>
      simp only [execT] at hs
      split at hs
      · rename_i t ht
        cases t
        · exact (ih _ _ _ _ _ hs).mono fun m hm => by simp only [ht, cond_false]; exact hm
        · exact (ih _ _ _ _ _ hs).mono fun m hm => by simp only [ht, cond_true]; exact hm
      · cases hs
    | block i a =>
      simp only [execT] at hs
      split at hs
      · rename_i ha
        refine (ih _ _ _ _ _ ha).mono fun m hm => ?_
        simp only [hm]; exact hs
      · rename_i hno
        refine (ih _ _ _ _ _ hs).mono fun m hm => ?_
        simp only [hm]
        split
        · rename_i heq; cases heq; exact absurd hs (hno _ _ _)
        · rfl
    | loop a =>
      simp only [execT] at hs
      split at hs
      · rename_i ha
        refine ((ih _ _ _ _ _ ha).and (ih _ _ _ _ _ hs)).mono fun m hm => ?_
        simp only [hm.1]; exact hm.2
      · rename_i hno
        refine (ih _ _ _ _ _ hs).mono fun m hm => ?_
        simp only [hm]
        split
        · rename_i heq; cases heq; exact absurd hs (hno _ _)
        · rfl
end
end Go.Am
