/- Parts of an abstract machine and its proofs: MaP. -/
import Derived.Test.YtcgejflifhjajaaGreatDoorK9
import Derived.Test.YtcgejflifhjajaaGreatDoorMaO1
import Derived.Test.YtcgejflifhjajaaGreatDoorMaO2
import Derived.Test.YtcgejflifhjajaaGreatDoorMaW
import Derived.Test.YtcgejflifhjajaaGreatDoorMaL2
import Derived.ProofKit

set_option linter.unusedSimpArgs false
set_option linter.unusedVariables false
namespace Go.Am
open Go.Fm
open Go (IntKind)
theorem okAt_all (n : Nat) (hn : n ≤ 494) : okAt n = true := by
  by_cases h1 : n < 80
  · exact okRange_at _ _ ok_range_0 n (by omega) (by omega)
  by_cases h2 : n < 160
  · exact okRange_at _ _ ok_range_1 n (by omega) (by omega)
  by_cases h3 : n < 250
  · exact okRange_at _ _ ok_range_2 n (by omega) (by omega)
  by_cases h4 : n < 360
  · exact okRange_at _ _ ok_range_3 n (by omega) (by omega)
  · exact okRange_at _ _ ok_range_4 n (by omega) (by omega)
theorem cd_ok {n : Nat} {c : Nat × FFun} (h : cd n = some c) : okFun Go.Proofs.Tryz.prog id n (trF c.2) = true ∧ Go.Fm.okF c.1 c.2 = true := by
  unfold cd at h
  cases hb : Nat.ble n 494 with
  | false => rw [hb] at h; cases h
  | true =>
    rw [hb] at h
    have h : Ma.code n = some c := h
    have := okAt_all n (Nat.le_of_ble_eq_true hb)
    unfold okAt at this
    rw [h] at this
    exact Bool.and_eq_true_iff.1 this
def Sp (n : Nat) : Prop := n = 7 ∨ n = 8 ∨ n = 20 ∨ n = 228 ∨ n = 363 ∨ n = 225 ∨ n = 106 ∨ n = 146 ∨ n = 148 ∨ n = 118 ∨ n = 367 ∨ n = 412 ∨ n = 455 ∨ n = 456 ∨ n = 33 ∨ n = 369
theorem fnsM_def {n : Nat} (h : ¬ Sp n) : fnsM n = match cd n with
    | some c => some (.code (trF c.2))
    | none => none := by
  unfold fnsM
  split <;> first | (exfalso; exact h (by unfold Sp; omega)) | rfl
theorem TK_def {n : Nat} (h : ¬ Sp n) : TK n = match cd n with
    | some c => some (.code c.1 c.2)
    | none => none := by
  unfold TK
  split <;> first | (exfalso; exact h (by unfold Sp; omega)) | rfl
theorem kWord : okFun Go.Proofs.Tryz.prog id 7 c_arbourlaw22_word = true := by kernel_rfl
theorem kWi : okFun Go.Proofs.Tryz.prog id 8 c_arbourbook_Within = true := by kernel_rfl
theorem kHead : okFun Go.Proofs.Tryz.prog id 20 c_arbourkeep_Head = true := by kernel_rfl
theorem mixedM : Go.Proofs.Tryz.prog.follows .mixedOrders = true := by kernel_rfl
theorem fnsM_ok {γ : Nat → Option Go.Obj} (hm : MaxL γ) : FnsOk Go.Proofs.Tryz.prog id γ fnsM := by
  refine ⟨mixedM, fun f fn h => ?_, fun f s h => ?_⟩
  · by_cases hs : Sp f
    · unfold Sp at hs
      rcases hs with rfl | rfl | rfl | rfl | rfl | rfl | rfl | rfl | rfl | rfl | rfl | rfl | rfl | rfl | rfl | rfl
      · have h : some (AFn.code c_arbourlaw22_word) = some (.code fn) := h
        simp only [Option.some.injEq, AFn.code.injEq] at h
        subst h; exact kWord
      · have h : some (AFn.code c_arbourbook_Within) = some (.code fn) := h
        simp only [Option.some.injEq, AFn.code.injEq] at h
        subst h; exact kWi
      · have h : some (AFn.code c_arbourkeep_Head) = some (.code fn) := h
        simp only [Option.some.injEq, AFn.code.injEq] at h
        subst h; exact kHead
      all_goals (cases (show some (AFn.spec _) = some (.code fn) from h))
    · rw [fnsM_def hs] at h
      split at h
      · rename_i c hc
        simp only [Option.some.injEq, AFn.code.injEq] at h
        subst h
        exact (cd_ok hc).1
      · cases h
  · by_cases hs : Sp f
    · unfold Sp at hs
      rcases hs with rfl | rfl | rfl | rfl | rfl | rfl | rfl | rfl | rfl | rfl | rfl | rfl | rfl | rfl | rfl | rfl
      · cases (show some (AFn.code _) = some (.spec s) from h)
      · cases (show some (AFn.code _) = some (.spec s) from h)
      · cases (show some (AFn.code _) = some (.spec s) from h)
      · have h : some (AFn.spec sIdx) = some (.spec s) := h
        simp only [Option.some.injEq, AFn.spec.injEq] at h
        subst h; exact spec176 hm
      · have h : some (AFn.spec sIdxB) = some (.spec s) := h
        simp only [Option.some.injEq, AFn.spec.injEq] at h
        subst h; exact spec333.g
      · have h : some (AFn.spec sCnt) = some (.spec s) := h
        simp only [Option.some.injEq, AFn.spec.injEq] at h
        subst h; exact spec173.g
      · have h : some (AFn.spec sStr) = some (.spec s) := h
        simp only [Option.some.injEq, AFn.spec.injEq] at h
        subst h; exact spec73.g
      · have h : some (AFn.spec (sBW 199 5)) = some (.spec s) := h
        simp only [Option.some.injEq, AFn.spec.injEq] at h
        subst h; exact spec104.g
      · have h : some (AFn.spec (sBS 199 5)) = some (.spec s) := h
        simp only [Option.some.injEq, AFn.spec.injEq] at h
        subst h; exact spec106.g
      · have h : some (AFn.spec (sDel 2)) = some (.spec s) := h
        simp only [Option.some.injEq, AFn.spec.injEq] at h
        subst h; exact spec85.g
      · have h : some (AFn.spec (sDel 4)) = some (.spec s) := h
        simp only [Option.some.injEq, AFn.spec.injEq] at h
        subst h; exact spec339.g
      · have h : some (AFn.spec (sDel 4)) = some (.spec s) := h
        simp only [Option.some.injEq, AFn.spec.injEq] at h
        subst h; exact spec397.g
      · have h : some (AFn.spec (sIns 4)) = some (.spec s) := h
        simp only [Option.some.injEq, AFn.spec.injEq] at h
        subst h; exact spec443.g
      · have h : some (AFn.spec (sIns 4)) = some (.spec s) := h
        simp only [Option.some.injEq, AFn.spec.injEq] at h
        subst h; exact spec444.g
      · have h : some (AFn.spec (sCl 2)) = some (.spec s) := h
        simp only [Option.some.injEq, AFn.spec.injEq] at h
        subst h; exact spec36.g
      · have h : some (AFn.spec (sCl 4)) = some (.spec s) := h
        simp only [Option.some.injEq, AFn.spec.injEq] at h
        subst h; exact spec341.g
    · rw [fnsM_def hs] at h
      split at h
      · cases h
      · cases h
theorem spF {s0 s : FSpec} (h : some (FFn.spec s0) = some (.spec s)) : s = s0 := by
  simp only [Option.some.injEq, FFn.spec.injEq] at h
  exact h.symm
theorem TK_ok (S : Sg) : TabOK S fnsM TK := by
  refine ⟨fun f p fn h => ?_, fun f s h args => ?_, fun f s h => ?_⟩
  · by_cases hs : Sp f
    · unfold Sp at hs
      rcases hs with rfl | rfl | rfl | rfl | rfl | rfl | rfl | rfl | rfl | rfl | rfl | rfl | rfl | rfl | rfl | rfl
      · cases (show (none : Option FFn) = some (.code p fn) from h)
      · cases (show (none : Option FFn) = some (.code p fn) from h)
      · cases (show (none : Option FFn) = some (.code p fn) from h)
      all_goals (cases (show some (FFn.spec _) = some (.code p fn) from h))
    · rw [TK_def hs] at h
      split at h
      · rename_i c hc
        simp only [Option.some.injEq, FFn.code.injEq] at h
        obtain ⟨rfl, rfl⟩ := h
        exact ⟨by rw [fnsM_def hs, hc], (cd_ok hc).2⟩
      · cases h
  · by_cases hs : Sp f
    · unfold Sp at hs
      rcases hs with rfl | rfl | rfl | rfl | rfl | rfl | rfl | rfl | rfl | rfl | rfl | rfl | rfl | rfl | rfl | rfl
      · cases (show (none : Option FFn) = some (.spec s) from h)
      · cases (show (none : Option FFn) = some (.spec s) from h)
      · cases (show (none : Option FFn) = some (.spec s) from h)
      · obtain rfl := spF (s0 := fIdx) h; exact (fIdx_ok S).go (f := 228) rfl args
      · obtain rfl := spF (s0 := fIdxB) h; exact (fIdxB_ok S).go (f := 363) rfl args
      · obtain rfl := spF (s0 := fCnt) h; exact (fCnt_ok S).go (f := 225) rfl args
      · obtain rfl := spF (s0 := fStr) h; exact (fStr_ok S).go (f := 106) rfl args
      · obtain rfl := spF (s0 := fBW 199 5) h; exact (fBW_ok S 199 5).go (f := 146) rfl args
      · obtain rfl := spF (s0 := fBS 199 5) h; exact (fBS_ok S 199 5).go (f := 148) rfl args
      · obtain rfl := spF (s0 := fDel 2) h; exact (fDel_ok S 2).go (f := 118) rfl args
      · obtain rfl := spF (s0 := fDel 4) h; exact (fDel_ok S 4).go (f := 367) rfl args
      · obtain rfl := spF (s0 := fDel 4) h; exact (fDel_ok S 4).go (f := 412) rfl args
      · obtain rfl := spF (s0 := fIns 4) h; exact (fIns_ok S 4).go (f := 455) rfl args
      · obtain rfl := spF (s0 := fIns 4) h; exact (fIns_ok S 4).go (f := 456) rfl args
      · obtain rfl := spF (s0 := fCl 2) h; exact (fCl_ok S 2).go (f := 33) rfl args
      · obtain rfl := spF (s0 := fCl 4) h; exact (fCl_ok S 4).go (f := 369) rfl args
    · rw [TK_def hs] at h
      split at h
      · cases h
      · cases h
  · by_cases hs : Sp f
    · unfold Sp at hs
      rcases hs with rfl | rfl | rfl | rfl | rfl | rfl | rfl | rfl | rfl | rfl | rfl | rfl | rfl | rfl | rfl | rfl
      · cases (show (none : Option FFn) = some (.pure s) from h)
      · cases (show (none : Option FFn) = some (.pure s) from h)
      · cases (show (none : Option FFn) = some (.pure s) from h)
      all_goals (cases (show some (FFn.spec _) = some (.pure s) from h))
    · rw [TK_def hs] at h
      split at h
      · cases h
      · cases h
def TNm : TV := fun _ _ _ _ _ _ _ => none
theorem good_TNm : GoodV fnsM TNm := fun _ _ _ _ _ _ _ _ hk => by cases hk
theorem good_TW : GoodV fnsM TW := by
  intro k f vs b h os K z hk
  unfold TW at hk
  split at hk
  · refine ⟨_, _, _, hk, cg_pure (fun_ok good_TNm (fn := c_arbourkeep_Head) rfl (n := 0) (.inr rfl) (Head_run _ _ _ _)) (fun v hv => ?_) (.str _)⟩
    simp only [List.mem_cons, List.mem_nil_iff, or_false] at hv
    rcases hv with rfl | rfl
    · exact .str _
    · exact .int _ _
  · cases hk
theorem word_m1 (s : List Nat) : ∃ h1, From fun m => Am.callF fnsM (exec fnsM m) 7 [.str s] 0 H.emp = some (.str (119 :: lets 9 (s.take 9)), h1) := by
  obtain ⟨v1, h1, θ, q1, q2, _, _⟩ := fun_ok good_TW (f := 7) (fn := c_arbourlaw22_word) rfl (ba := pu) (fr := []) (n := 10) (.inr rfl) (word_run s) (fun _ => none) 0 [.str s] H.emp (.cons (.flat (.cell (.str s))) .nil) RH.emp
  cases q2 with | flat q2 =>
  cases q2 with | cell q2 =>
  cases q2
  exact ⟨h1, q1⟩
theorem known_m1 (S : Sg) : ∃ h1, From fun m => Am.callF fnsM (exec fnsM m) 11 [] 0 H.emp = some (.bool true, h1) := by
  obtain ⟨fh, hk⟩ := isT_some known_run
  obtain ⟨v, fh', h1, k1, k2, k3⟩ := callF_ok (TK_ok S) 60 0 .emp _ .wr 11 [] _ H.emp hk HR.emp
  simp only [Option.some.injEq, Prod.mk.injEq] at k1
  obtain ⟨rfl, _⟩ := k1
  exact ⟨h1, k3⟩
theorem mc_pure {f : Nat} {args : List AV} {v : AV} {h1 : H} (ha : AV.underL 0 args = true) (hv : v.under 0 = true) (q : From fun m => Am.callF fnsM (exec fnsM m) f args 0 H.emp = some (v, h1)) (base : Nat) (h : H) :
    From fun m => MC fnsM m .pure f args base h = some (v, h) :=
  q.mono fun m q => by simp only [MC, callSem, ha, if_true, q, hv]
theorem pureF {s0 s : List FV → (FV → R) → R} (h : some (FFn.pure s0) = some (.pure s)) : s = s0 := by
  simp only [Option.some.injEq, FFn.pure.injEq] at h
  exact h.symm
theorem wF_map {S : Sg} {ls : List Nat} (hσ : ∀ j, S.σ j = ls.getD j 97) : (wF ls.length).map (gB S) = 119 :: ls := by
  have key : ∀ (n i : Nat), i + n = ls.length → (Nat.rec (motive := fun _ => Nat → List FB) (fun _ => []) (fun _ ih i => .sym i :: ih (Nat.succ i)) n i).map (gB S) = ls.drop i := by
    intro n
    induction n with
    | zero => intro i hi; rw [List.drop_eq_nil_of_le (by omega)]; rfl
    | succ n ih =>
      intro i hi
      have h := ih (i + 1) (by omega)
      show gB S (.sym i) :: List.map (gB S) (Nat.rec (motive := fun _ => Nat → List FB) (fun _ => []) (fun _ ih i => .sym i :: ih (Nat.succ i)) n (i + 1)) = _
      rw [h]
      have hlt : i < ls.length := by omega
      rw [← List.getElem_cons_drop (h := hlt)]
      congr 1
      show S.σ i = _
      rw [hσ, List.getD_eq_getElem?_getD, List.getElem?_eq_getElem hlt]; rfl
  show 119 :: List.map (gB S) _ = _
  rw [key ls.length 0 (by omega), List.drop_zero]
end Go.Am
namespace Go.Am
open Go.RowKit
def pwOf (W : World) : Pw := ⟨fun b => W.heap[b]?, World.io W, fun b => if b = 2 then W.heap[2]? else none, fun b x h => by
  by_cases q : b = 2
  · rw [if_pos q] at h; rw [q]; exact h
  · rw [if_neg q] at h; cases h⟩
theorem maxL_of {W : World} {m : Int} (h : W.cell? ⟨2, 0, none⟩ = some (.int .i64 m)) : MaxL (pwOf W).gl := by
  unfold World.cell? at h
  split at h
  · rename_i c t fr hb
    refine ⟨c, t, fr, m, ?_, by simpa using h⟩
    show (if 2 = 2 then W.heap[2]? else none) = _
    rw [if_pos rfl]; exact hb
  · cases h
theorem rel_imm (W : World) {I : Nat → Option (List Value)} (hI : ∀ b cells, I b = some cells → ∃ c e fr, W.heap[b]? = some (.cells c e fr) ∧ c.toList.take cells.length = cells) : Rel id (pwOf W) 0 ⟨fun _ => none, I⟩ H.emp W :=
  ⟨fun o x e => by simp at e, fun o o' x x' b k C k' C' e => by simp at e, hI, fun o x b k C e => by simp at e, fun o x e => by simp at e, fun _ _ e => e, fun o x b k C _ e => by simp at e, rfl, fun o b k C e => by cases e⟩
def Stays (W W' : World) : Prop := (∀ (b : Nat) (x : Go.Obj), W.heap[b]? = some x → W'.heap[b]? = some x) ∧ World.io W' = World.io W
end Go.Am
