/- Parts of an abstract machine and its proofs: MaP. -/
import Derived.Test.YtbnklhccpbggiaaGreatDoorK9
import Derived.Test.YtbnklhccpbggiaaGreatDoorMaO1
import Derived.Test.YtbnklhccpbggiaaGreatDoorMaO2
import Derived.Test.YtbnklhccpbggiaaGreatDoorMaW
import Derived.Test.YtbnklhccpbggiaaGreatDoorMaL2
import Derived.ProofKit
import Derived.Test.YtbnklhccpbggiaaGreatDoorK0
import Derived.Test.YtbnklhccpbggiaaGreatDoorK1
import Derived.Test.YtbnklhccpbggiaaGreatDoorK2

set_option linter.unusedSimpArgs false
set_option linter.unusedVariables false
/- The tables of the Mason rows are right. -/
namespace Go.Am
open Go.Fm
open Go (IntKind)
theorem okAt_all (n : Nat) (hn : n ≤ 484) : okAt n = true := by
  by_cases h1 : n < 80
  · exact okRange_at _ _ ok_range_0 n (by omega) (by omega)
  by_cases h2 : n < 160
  · exact okRange_at _ _ ok_range_1 n (by omega) (by omega)
  by_cases h3 : n < 250
  · exact okRange_at _ _ ok_range_2 n (by omega) (by omega)
  by_cases h4 : n < 360
  · exact okRange_at _ _ ok_range_3 n (by omega) (by omega)
  · exact okRange_at _ _ ok_range_4 n (by omega) (by omega)
theorem cd_ok {n : Nat} {c : Nat × FFun} (h : cd n = some c) : okFun Go.Proofs.Tryz.prog id n (trF c.2) = true ∧ Go.Fm.okF c.1 c.2 = true := by
  unfold cd at h
  cases hb : Nat.ble n 484 with
  | false => rw [hb] at h; cases h
  | true =>
    rw [hb] at h
    have h : Ma.code n = some c := h
    have := okAt_all n (Nat.le_of_ble_eq_true hb)
    unfold okAt at this
    rw [h] at this
    exact Bool.and_eq_true_iff.1 this
def Sp (n : Nat) : Prop := n = 4 ∨ n = 5 ∨ n = 9 ∨ n = 176 ∨ n = 333 ∨ n = 173 ∨ n = 73 ∨ n = 104 ∨ n = 106 ∨ n = 85 ∨ n = 339 ∨ n = 397 ∨ n = 443 ∨ n = 444 ∨ n = 36 ∨ n = 341
theorem fnsM_def {n : Nat} (h : ¬ Sp n) : fnsM n = match cd n with
    | some c => some (.code (trF c.2))
    | none => none := by
  unfold fnsM
  split <;> first | (exfalso; exact h (by unfold Sp; omega)) | rfl
theorem TK_def {n : Nat} (h : ¬ Sp n) : TK n = match cd n with
    | some c => some (.code c.1 c.2)
    | none => none := by
  unfold TK
  split <;> first | (exfalso; exact h (by unfold Sp; omega)) | rfl
theorem kWord : okFun Go.Proofs.Tryz.prog id 4 c_arbourlaw22_word = true := by kernel_rfl
theorem kWi : okFun Go.Proofs.Tryz.prog id 5 c_arbourbook_Within = true := by kernel_rfl
theorem kHead : okFun Go.Proofs.Tryz.prog id 9 c_arbourkeep_Head = true := by kernel_rfl
theorem mixedM : Go.Proofs.Tryz.prog.follows .mixedOrders = true := by kernel_rfl

theorem fnsM_ok {γ : Nat → Option Go.Obj} (hm : MaxL γ) : FnsOk Go.Proofs.Tryz.prog id γ fnsM := by
  refine ⟨mixedM, fun f fn h => ?_, fun f s h => ?_⟩
  · by_cases hs : Sp f
    · unfold Sp at hs
      rcases hs with rfl | rfl | rfl | rfl | rfl | rfl | rfl | rfl | rfl | rfl | rfl | rfl | rfl | rfl | rfl | rfl
      · have h : some (AFn.code c_arbourlaw22_word) = some (.code fn) := h
        simp only [Option.some.injEq, AFn.code.injEq] at h
        subst h; exact kWord
      · have h : some (AFn.code c_arbourbook_Within) = some (.code fn) := h
        simp only [Option.some.injEq, AFn.code.injEq] at h
        subst h; exact kWi
      · have h : some (AFn.code c_arbourkeep_Head) = some (.code fn) := h
        simp only [Option.some.injEq, AFn.code.injEq] at h
        subst h; exact kHead
      all_goals (cases (show some (AFn.spec _) = some (.code fn) from h))
    · rw [fnsM_def hs] at h
      split at h
      · rename_i c hc
        simp only [Option.some.injEq, AFn.code.injEq] at h
        subst h
        exact (cd_ok hc).1
      · cases h
  · by_cases hs : Sp f
    · unfold Sp at hs
      rcases hs with rfl | rfl | rfl | rfl | rfl | rfl | rfl | rfl | rfl | rfl | rfl | rfl | rfl | rfl | rfl | rfl
      · cases (show some (AFn.code _) = some (.spec s) from h)
      · cases (show some (AFn.code _) = some (.spec s) from h)
      · cases (show some (AFn.code _) = some (.spec s) from h)
      · have h : some (AFn.spec sIdx) = some (.spec s) := h
        simp only [Option.some.injEq, AFn.spec.injEq] at h
        subst h; exact spec176 hm
      · have h : some (AFn.spec sIdxB) = some (.spec s) := h
        simp only [Option.some.injEq, AFn.spec.injEq] at h
        subst h; exact spec333.g
      · have h : some (AFn.spec sCnt) = some (.spec s) := h
        simp only [Option.some.injEq, AFn.spec.injEq] at h
        subst h; exact spec173.g
      · have h : some (AFn.spec sStr) = some (.spec s) := h
        simp only [Option.some.injEq, AFn.spec.injEq] at h
        subst h; exact spec73.g
      · have h : some (AFn.spec (sBW 166 5)) = some (.spec s) := h
        simp only [Option.some.injEq, AFn.spec.injEq] at h
        subst h; exact spec104.g
      · have h : some (AFn.spec (sBS 166 5)) = some (.spec s) := h
        simp only [Option.some.injEq, AFn.spec.injEq] at h
        subst h; exact spec106.g
      · have h : some (AFn.spec (sDel 2)) = some (.spec s) := h
        simp only [Option.some.injEq, AFn.spec.injEq] at h
        subst h; exact spec85.g
      · have h : some (AFn.spec (sDel 4)) = some (.spec s) := h
        simp only [Option.some.injEq, AFn.spec.injEq] at h
        subst h; exact spec339.g
      · have h : some (AFn.spec (sDel 4)) = some (.spec s) := h
        simp only [Option.some.injEq, AFn.spec.injEq] at h
        subst h; exact spec397.g
      · have h : some (AFn.spec (sIns 4)) = some (.spec s) := h
        simp only [Option.some.injEq, AFn.spec.injEq] at h
        subst h; exact spec443.g
      · have h : some (AFn.spec (sIns 4)) = some (.spec s) := h
        simp only [Option.some.injEq, AFn.spec.injEq] at h
        subst h; exact spec444.g
      · have h : some (AFn.spec (sCl 2)) = some (.spec s) := h
        simp only [Option.some.injEq, AFn.spec.injEq] at h
        subst h; exact spec36.g
      · have h : some (AFn.spec (sCl 4)) = some (.spec s) := h
        simp only [Option.some.injEq, AFn.spec.injEq] at h
        subst h; exact spec341.g
    · rw [fnsM_def hs] at h
      split at h
      · cases h
      · cases h

theorem spF {s0 s : FSpec} (h : some (FFn.spec s0) = some (.spec s)) : s = s0 := by
  simp only [Option.some.injEq, FFn.spec.injEq] at h
  exact h.symm
theorem TK_ok (S : Sg) : TabOK S fnsM TK := by
  refine ⟨fun f p fn h => ?_, fun f s h args => ?_, fun f s h => ?_⟩
  · by_cases hs : Sp f
    · unfold Sp at hs
      rcases hs with rfl | rfl | rfl | rfl | rfl | rfl | rfl | rfl | rfl | rfl | rfl | rfl | rfl | rfl | rfl | rfl
      · cases (show (none : Option FFn) = some (.code p fn) from h)
      · cases (show (none : Option FFn) = some (.code p fn) from h)
      · cases (show (none : Option FFn) = some (.code p fn) from h)
      all_goals (cases (show some (FFn.spec _) = some (.code p fn) from h))
    · rw [TK_def hs] at h
      split at h
      · rename_i c hc
        simp only [Option.some.injEq, FFn.code.injEq] at h
        obtain ⟨rfl, rfl⟩ := h
        exact ⟨by rw [fnsM_def hs, hc], (cd_ok hc).2⟩
      · cases h
  · by_cases hs : Sp f
    · unfold Sp at hs
      rcases hs with rfl | rfl | rfl | rfl | rfl | rfl | rfl | rfl | rfl | rfl | rfl | rfl | rfl | rfl | rfl | rfl
      · cases (show (none : Option FFn) = some (.spec s) from h)
      · cases (show (none : Option FFn) = some (.spec s) from h)
      · cases (show (none : Option FFn) = some (.spec s) from h)
      · obtain rfl := spF (s0 := fIdx) h; exact (fIdx_ok S).go (f := 176) rfl args
      · obtain rfl := spF (s0 := fIdxB) h; exact (fIdxB_ok S).go (f := 333) rfl args
      · obtain rfl := spF (s0 := fCnt) h; exact (fCnt_ok S).go (f := 173) rfl args
      · obtain rfl := spF (s0 := fStr) h; exact (fStr_ok S).go (f := 73) rfl args
      · obtain rfl := spF (s0 := fBW 166 5) h; exact (fBW_ok S 166 5).go (f := 104) rfl args
      · obtain rfl := spF (s0 := fBS 166 5) h; exact (fBS_ok S 166 5).go (f := 106) rfl args
      · obtain rfl := spF (s0 := fDel 2) h; exact (fDel_ok S 2).go (f := 85) rfl args
      · obtain rfl := spF (s0 := fDel 4) h; exact (fDel_ok S 4).go (f := 339) rfl args
      · obtain rfl := spF (s0 := fDel 4) h; exact (fDel_ok S 4).go (f := 397) rfl args
      · obtain rfl := spF (s0 := fIns 4) h; exact (fIns_ok S 4).go (f := 443) rfl args
      · obtain rfl := spF (s0 := fIns 4) h; exact (fIns_ok S 4).go (f := 444) rfl args
      · obtain rfl := spF (s0 := fCl 2) h; exact (fCl_ok S 2).go (f := 36) rfl args
      · obtain rfl := spF (s0 := fCl 4) h; exact (fCl_ok S 4).go (f := 341) rfl args
    · rw [TK_def hs] at h
      split at h
      · cases h
      · cases h
  · by_cases hs : Sp f
    · unfold Sp at hs
      rcases hs with rfl | rfl | rfl | rfl | rfl | rfl | rfl | rfl | rfl | rfl | rfl | rfl | rfl | rfl | rfl | rfl
      · cases (show (none : Option FFn) = some (.pure s) from h)
      · cases (show (none : Option FFn) = some (.pure s) from h)
      · cases (show (none : Option FFn) = some (.pure s) from h)
      all_goals (cases (show some (FFn.spec _) = some (.pure s) from h))
    · rw [TK_def hs] at h
      split at h
      · cases h
      · cases h

/-! What word, Within and known answer. -/
def TNm : TV := fun _ _ _ _ _ _ _ => none
theorem good_TNm : GoodV fnsM TNm := fun _ _ _ _ _ _ _ _ hk => by cases hk
theorem good_TW : GoodV fnsM TW := by
  intro k f vs b h os K z hk
  unfold TW at hk
  split at hk
  · refine ⟨_, _, _, hk, cg_pure (fun_ok good_TNm (fn := c_arbourkeep_Head) rfl (n := 0) (.inr rfl) (Head_run _ _ _ _)) (fun v hv => ?_) (.str _)⟩
    simp only [List.mem_cons, List.mem_nil_iff, or_false] at hv
    rcases hv with rfl | rfl
    · exact .str _
    · exact .int _ _
  · cases hk
theorem word_m1 (s : List Nat) : ∃ h1, From fun m => Am.callF fnsM (exec fnsM m) 4 [.str s] 0 H.emp = some (.str (119 :: lets 9 (s.take 9)), h1) := by
  obtain ⟨v1, h1, θ, q1, q2, _, _⟩ := fun_ok good_TW (f := 4) (fn := c_arbourlaw22_word) rfl (ba := pu) (fr := []) (n := 10) (.inr rfl) (word_run s) (fun _ => none) 0 [.str s] H.emp (.cons (.flat (.cell (.str s))) .nil) RH.emp
  cases q2 with | flat q2 =>
  cases q2 with | cell q2 =>
  cases q2
  exact ⟨h1, q1⟩
theorem within_m1 (n : Nat) : ∃ h1, From fun m => Am.callF fnsM (exec fnsM m) 5 [.int .i64 (n : Int), .int .i64 0, .int .i64 100] 0 H.emp = some (.int .i64 ((n % 101 : Nat) : Int), h1) := by
  obtain ⟨v1, h1, θ, q1, q2, _, _⟩ := fun_ok good_TW (f := 5) (fn := c_arbourbook_Within) rfl (ba := pu) (fr := []) (n := 0) (.inr rfl) (within_run _ n) (fun _ => none) 0 [.int .i64 (n : Int), .int .i64 0, .int .i64 100] H.emp
    (.cons (.flat (.cell (.int _ _))) (.cons (.flat (.cell (.int _ _))) (.cons (.flat (.cell (.int _ _))) .nil))) RH.emp
  cases q2 with | flat q2 =>
  cases q2 with | cell q2 =>
  cases q2
  exact ⟨h1, q1⟩
theorem known_m1 (S : Sg) : ∃ h1, From fun m => Am.callF fnsM (exec fnsM m) 8 [] 0 H.emp = some (.bool true, h1) := by
  obtain ⟨fh, hk⟩ := isT_some known_run
  obtain ⟨v, fh', h1, k1, k2, k3⟩ := callF_ok (TK_ok S) 60 0 .emp _ .wr 8 [] _ H.emp hk HR.emp
  simp only [Option.some.injEq, Prod.mk.injEq] at k1
  obtain ⟨rfl, _⟩ := k1
  exact ⟨h1, k3⟩
theorem mc_pure {f : Nat} {args : List AV} {v : AV} {h1 : H} (ha : AV.underL 0 args = true) (hv : v.under 0 = true) (q : From fun m => Am.callF fnsM (exec fnsM m) f args 0 H.emp = some (v, h1)) (base : Nat) (h : H) :
    From fun m => MC fnsM m .pure f args base h = some (v, h) :=
  q.mono fun m q => by simp only [MC, callSem, ha, if_true, q, hv]

theorem pureF {s0 s : List FV → (FV → R) → R} (h : some (FFn.pure s0) = some (.pure s)) : s = s0 := by
  simp only [Option.some.injEq, FFn.pure.injEq] at h
  exact h.symm
theorem wF_map {S : Sg} {ls : List Nat} (hσ : ∀ j, S.σ j = ls.getD j 97) : (wF ls.length).map (gB S) = 119 :: ls := by
  have key : ∀ (n i : Nat), i + n = ls.length → (Nat.rec (motive := fun _ => Nat → List FB) (fun _ => []) (fun _ ih i => .sym i :: ih (Nat.succ i)) n i).map (gB S) = ls.drop i := by
    intro n
    induction n with
    | zero => intro i hi; rw [List.drop_eq_nil_of_le (by omega)]; rfl
    | succ n ih =>
      intro i hi
      have h := ih (i + 1) (by omega)
      show gB S (.sym i) :: List.map (gB S) (Nat.rec (motive := fun _ => Nat → List FB) (fun _ => []) (fun _ ih i => .sym i :: ih (Nat.succ i)) n (i + 1)) = _
      rw [h]
      have hlt : i < ls.length := by omega
      rw [← List.getElem_cons_drop (h := hlt)]
      congr 1
      show S.σ i = _
      rw [hσ, List.getD_eq_getElem?_getD, List.getElem?_eq_getElem hlt]; rfl
  show 119 :: List.map (gB S) _ = _
  rw [key ls.length 0 (by omega), List.drop_zero]
end Go.Am

/- What stands in a world. -/
namespace Go.Am
open Go.RowKit

/-- What stands in a world's blocks: all are to stay; MaxLen's is named. -/
def pwOf (W : World) : Pw := ⟨fun b => W.heap[b]?, World.io W, fun b => if b = 2 then W.heap[2]? else none, fun b x h => by
  by_cases q : b = 2
  · rw [if_pos q] at h; rw [q]; exact h
  · rw [if_neg q] at h; cases h⟩
theorem maxL_of {W : World} {m : Int} (h : W.cell? ⟨2, 0, none⟩ = some (.int .i64 m)) : MaxL (pwOf W).gl := by
  unfold World.cell? at h
  split at h
  · rename_i c t fr hb
    refine ⟨c, t, fr, m, ?_, by simpa using h⟩
    show (if 2 = 2 then W.heap[2]? else none) = _
    rw [if_pos rfl]; exact hb
  · cases h
theorem rel_imm (W : World) {I : Nat → Option (List Value)} (hI : ∀ b cells, I b = some cells → ∃ c e fr, W.heap[b]? = some (.cells c e fr) ∧ c.toList.take cells.length = cells) : Rel id (pwOf W) 0 ⟨fun _ => none, I⟩ H.emp W :=
  ⟨fun o x e => by simp at e, fun o o' x x' b k C k' C' e => by simp at e, hI, fun o x b k C e => by simp at e, fun o x e => by simp at e, fun _ _ e => e, fun o x b k C _ e => by simp at e, rfl, fun o b k C e => by cases e⟩
/-- All that was there stays. -/
def Stays (W W' : World) : Prop := (∀ (b : Nat) (x : Go.Obj), W.heap[b]? = some x → W'.heap[b]? = some x) ∧ World.io W' = World.io W
end Go.Am

/- What the law MasonObjects answers in the first machine, and in the program. -/
namespace Go.Am
open Go.Fm
open Go (IntKind)
theorem withinN_m1 (n : Int) : ∃ i : Nat, i ≤ 2 ∧ ∃ h1, From fun m => Am.callF fnsM (exec fnsM m) 5 [.int .i64 n, .int .i64 0, .int .i64 2] 0 H.emp = some (.int .i64 (i : Int), h1) := by
  obtain ⟨i, hi, hr⟩ := within_run2 (lpV TW [] pu 0) n
  obtain ⟨v1, h1, θ, q1, q2, _, _⟩ := fun_ok good_TW (f := 5) (fn := c_arbourbook_Within) rfl (ba := pu) (fr := []) (n := 0) (.inr rfl) hr (fun _ => none) 0 [.int .i64 n, .int .i64 0, .int .i64 2] H.emp
    (.cons (.flat (.cell (.int _ _))) (.cons (.flat (.cell (.int _ _))) (.cons (.flat (.cell (.int _ _))) .nil))) RH.emp
  cases q2 with | flat q2 =>
  cases q2 with | cell q2 =>
  cases q2
  exact ⟨i, hi, h1, q1⟩
theorem TN_def {w : List FB} {i n : Nat} (h : n ≠ 4 ∧ n ≠ 5 ∧ n ≠ 8) : TN w i n = TK n := by
  unfold TN
  split <;> first | rfl | (exfalso; omega)
theorem TN_ok (S : Sg) {w : List FB} {i : Nat} {s : List Nat} {n : Int} (h0 : S.ω 0 = .str s) (hw : w.map (gB S) = 119 :: lets 9 (s.take 9)) (hn : S.ν 5000 = n)
    (hi : ∃ h1, From fun m => Am.callF fnsM (exec fnsM m) 5 [.int .i64 n, .int .i64 0, .int .i64 2] 0 H.emp = some (.int .i64 (i : Int), h1)) : TabOK S fnsM (TN w i) := by
  refine ⟨fun f p fn h => ?_, fun f s h args => ?_, fun f s h => ?_⟩
  · by_cases hs : f ≠ 4 ∧ f ≠ 5 ∧ f ≠ 8
    · rw [TN_def hs] at h; exact (TK_ok S).code f p fn h
    · have hs : f = 4 ∨ f = 5 ∨ f = 8 := by omega
      rcases hs with rfl | rfl | rfl <;> cases (show some (FFn.pure _) = some (.code p fn) from h)
  · by_cases hs : f ≠ 4 ∧ f ≠ 5 ∧ f ≠ 8
    · rw [TN_def hs] at h; exact (TK_ok S).spec f s h args
    · have hs : f = 4 ∨ f = 5 ∨ f = 8 := by omega
      rcases hs with rfl | rfl | rfl <;> cases (show some (FFn.pure _) = some (.spec s) from h)
  · by_cases hs : f ≠ 4 ∧ f ≠ 5 ∧ f ≠ 8
    · rw [TN_def hs] at h; exact (TK_ok S).pure f s h
    · have hs : f = 4 ∨ f = 5 ∨ f = 8 := by omega
      rcases hs with rfl | rfl | rfl
      · obtain rfl := pureF (s0 := pWord w) h
        intro args K z hk
        unfold pWord at hk
        split at hk
        · obtain ⟨h1, q⟩ := word_m1 ‹List Nat›
          refine ⟨_, hk, fun base h => ?_⟩
          simp only [gL, g, h0, hw]
          exact mc_pure rfl rfl q base h
        · cases hk
      · obtain rfl := pureF (s0 := pWiN i) h
        intro args K z hk
        unfold pWiN at hk
        split at hk
        · obtain ⟨h1, q⟩ := hi
          refine ⟨_, hk, fun base h => ?_⟩
          simp only [gL, g, gI, hn]
          exact mc_pure rfl rfl q base h
        · cases hk
      · obtain rfl := pureF (s0 := pKnown) h
        intro args K z hk
        unfold pKnown at hk
        split at hk
        · obtain ⟨h1, q⟩ := known_m1 S
          exact ⟨_, hk, fun base h => mc_pure rfl rfl q base h⟩
        · cases hk
def nuN (n : Int) (q : Nat) : Int := if q = 5000 then n else Int.ofNat (q % 1048576)
def sgN (s : List Nat) (n : Int) : Sg where
  σ := fun i => (lets 9 (s.take 9)).getD i 97
  ω := fun j => match j with
    | 0 => .str s
    | j => .vs false (List.replicate j [])
  lo := fun i => by
    rw [List.getD_eq_getElem?_getD]
    cases h : (lets 9 (s.take 9))[i]? with
    | none => exact Nat.le_refl _
    | some x => exact (lets_range _ _ x (List.mem_of_getElem? h)).1
  hi := fun i => by
    rw [List.getD_eq_getElem?_getD]
    cases h : (lets 9 (s.take 9))[i]? with
    | none => decide
    | some x => exact (lets_range _ _ x (List.mem_of_getElem? h)).2
  ν := nuN n
  md := fun q m h1 h2 => by
    unfold nuN
    rw [if_neg (by intro e; subst e; omega)]
    show Int.ofNat (q % 1048576 % m) = _
    rw [Nat.mod_eq_of_lt h2]
  sl := fun j hj => by
    refine ⟨false, List.replicate (j + 1) [], rfl, ?_⟩
    rw [List.length_replicate]
    unfold nuN
    rw [if_neg (by omega), Nat.mod_eq_of_lt (by omega)]
    rfl
theorem masonObjects_m1 (s : List Nat) (n : Int) : ∃ h', From fun m => Am.callF fnsM (exec fnsM m) 3 [.str s, .int .i64 n] 0 H.emp = some (.bool true, h') := by
  obtain ⟨i, hi, hin⟩ := withinN_m1 n
  obtain ⟨S, hS⟩ : ∃ S, S = sgN s n := ⟨_, rfl⟩
  have h0 : S.ω 0 = .str s := by rw [hS]; rfl
  have hσ : ∀ j, S.σ j = (lets 9 (s.take 9)).getD j 97 := fun j => by rw [hS]; rfl
  have hn : S.ν 5000 = n := by rw [hS]; rfl
  clear hS
  have hlen : (lets 9 (s.take 9)).length < 10 := by
    have := lets_len 9 (s.take 9)
    rw [List.length_take] at this
    omega
  have ok := TN_ok S (w := wF (lets 9 (s.take 9)).length) (i := i) h0 (wF_map hσ) hn hin
  have run : isT (rowRunN (lets 9 (s.take 9)).length i) = 1 := by
    generalize (lets 9 (s.take 9)).length = n at hlen
    have h : i = 0 ∨ i = 1 ∨ i = 2 := by omega
    rcases h with rfl | rfl | rfl
    · exact runN_all_0 n hlen
    · exact runN_all_1 n hlen
    · exact runN_all_2 n hlen
  obtain ⟨fh, hk⟩ := isT_some run
  obtain ⟨v, fh', h', k1, k2, k3⟩ := callF_ok ok 60 0 .emp _ .wr 3 [.opq 0, .int .i64 (.num 5000)] _ H.emp hk HR.emp
  simp only [Option.some.injEq, Prod.mk.injEq] at k1
  obtain ⟨rfl, _⟩ := k1
  have e : gL S [.opq 0, .int .i64 (.num 5000)] = [.str s, .int .i64 n] := by simp only [gL, g, gI, h0, hn]
  rw [e] at k3
  exact ⟨h', k3⟩
theorem masonObjects_tie {W : World} {m : Int} (hm : W.cell? ⟨2, 0, none⟩ = some (.int .i64 m)) (s : ByteArray) (n : Int) : Calls Go.Proofs.Tryz.prog 3 #[.string s, .int .i64 n] W fun e W' => e = .returned (.bool true) ∧ Stays W W' := by
  obtain ⟨h', N, q⟩ := masonObjects_m1 (bytesOf s) n
  have h := acall_sim (pw := pwOf W) (fnsM_ok (maxL_of hm)) (n := N) (q N (Nat.le_refl _)) (.cons _ _ _ _ (.cell _ _ (.str s)) (.cons _ _ _ _ (.cell _ _ (.int _ _)) .nil)) (rel_imm W (I := fun _ => none) (fun b cells e => by cases e))
  rcases h with ⟨-, h⟩ | ⟨v, w', h, -⟩
  · refine h.mono fun e W' ⟨G', v', _, he, hv', r⟩ => ?_
    cases hv' with | cell _ _ hv' =>
    cases hv'
    exact ⟨he, fun b x hb => r.pwh b x hb, r.io⟩
  · have hc : (callFunc 3 #[.string s, .int .i64 n]).run Go.Proofs.Tryz.prog W = .ok (.enter 3 #[.string s, .int .i64 n]) W := by kernel_rfl
    exact absurd (h.symm.trans hc) (by simp)
end Go.Am
