/- Parts of an abstract machine and its proofs: MaP. -/
import Derived.Test.YtnfcebbbbhnpiaaGreatDoorK0
import Derived.Test.YtnfcebbbbhnpiaaGreatDoorK1
import Derived.Test.YtnfcebbbbhnpiaaGreatDoorK2
import Derived.Test.YtnfcebbbbhnpiaaGreatDoorK3
import Derived.Test.YtnfcebbbbhnpiaaGreatDoorK4
import Derived.Test.YtnfcebbbbhnpiaaGreatDoorK5
import Derived.Test.YtnfcebbbbhnpiaaGreatDoorK6
import Derived.Test.YtnfcebbbbhnpiaaGreatDoorMaO1
import Derived.Test.YtnfcebbbbhnpiaaGreatDoorMaO2
import Derived.Test.YtnfcebbbbhnpiaaGreatDoorMaW
import Derived.Test.YtnfcebbbbhnpiaaGreatDoorMaL2
import Derived.ProofKit

set_option linter.unusedSimpArgs false
set_option linter.unusedVariables false
/- The tables of the Mason rows are right; what the law MasonAdopts answers in the first machine. -/
namespace Go.Am
open Go.Fm
open Go (IntKind)
theorem okAt_all (n : Nat) (hn : n ≤ 484) : okAt n = true := by
  by_cases h1 : n < 80
  · exact okRange_at _ _ ok_range_0 n (by omega) (by omega)
  by_cases h2 : n < 160
  · exact okRange_at _ _ ok_range_1 n (by omega) (by omega)
  by_cases h3 : n < 250
  · exact okRange_at _ _ ok_range_2 n (by omega) (by omega)
  by_cases h4 : n < 360
  · exact okRange_at _ _ ok_range_3 n (by omega) (by omega)
  · exact okRange_at _ _ ok_range_4 n (by omega) (by omega)
theorem cd_ok {n : Nat} {c : Nat × FFun} (h : cd n = some c) : okFun Go.Proofs.Tryz.prog id n (trF c.2) = true ∧ Go.Fm.okF c.1 c.2 = true := by
  unfold cd at h
  cases hb : Nat.ble n 484 with
  | false => rw [hb] at h; cases h
  | true =>
    rw [hb] at h
    have h : Ma.code n = some c := h
    have := okAt_all n (Nat.le_of_ble_eq_true hb)
    unfold okAt at this
    rw [h] at this
    exact Bool.and_eq_true_iff.1 this
def Sp (n : Nat) : Prop := n = 4 ∨ n = 5 ∨ n = 9 ∨ n = 176 ∨ n = 333 ∨ n = 173 ∨ n = 73 ∨ n = 104 ∨ n = 106 ∨ n = 85 ∨ n = 339 ∨ n = 397 ∨ n = 443 ∨ n = 444 ∨ n = 36 ∨ n = 341
theorem fnsM_def {n : Nat} (h : ¬ Sp n) : fnsM n = match cd n with
    | some c => some (.code (trF c.2))
    | none => none := by
  unfold fnsM
  split <;> first | (exfalso; exact h (by unfold Sp; omega)) | rfl
theorem TK_def {n : Nat} (h : ¬ Sp n) : TK n = match cd n with
    | some c => some (.code c.1 c.2)
    | none => none := by
  unfold TK
  split <;> first | (exfalso; exact h (by unfold Sp; omega)) | rfl
theorem kWord : okFun Go.Proofs.Tryz.prog id 4 c_arbourlaw22_word = true := by kernel_rfl
theorem kWi : okFun Go.Proofs.Tryz.prog id 5 c_arbourbook_Within = true := by kernel_rfl
theorem kHead : okFun Go.Proofs.Tryz.prog id 9 c_arbourkeep_Head = true := by kernel_rfl
theorem mixedM : Go.Proofs.Tryz.prog.follows .mixedOrders = true := by kernel_rfl

theorem fnsM_ok {γ : Nat → Option Go.Obj} (hm : MaxL γ) : FnsOk Go.Proofs.Tryz.prog id γ fnsM := by
  refine ⟨mixedM, fun f fn h => ?_, fun f s h => ?_⟩
  · by_cases hs : Sp f
    · unfold Sp at hs
      rcases hs with rfl | rfl | rfl | rfl | rfl | rfl | rfl | rfl | rfl | rfl | rfl | rfl | rfl | rfl | rfl | rfl
      · have h : some (AFn.code c_arbourlaw22_word) = some (.code fn) := h
        simp only [Option.some.injEq, AFn.code.injEq] at h
        subst h; exact kWord
      · have h : some (AFn.code c_arbourbook_Within) = some (.code fn) := h
        simp only [Option.some.injEq, AFn.code.injEq] at h
        subst h; exact kWi
      · have h : some (AFn.code c_arbourkeep_Head) = some (.code fn) := h
        simp only [Option.some.injEq, AFn.code.injEq] at h
        subst h; exact kHead
      all_goals (cases (show some (AFn.spec _) = some (.code fn) from h))
    · rw [fnsM_def hs] at h
      split at h
      · rename_i c hc
        simp only [Option.some.injEq, AFn.code.injEq] at h
        subst h
        exact (cd_ok hc).1
      · cases h
  · by_cases hs : Sp f
    · unfold Sp at hs
      rcases hs with rfl | rfl | rfl | rfl | rfl | rfl | rfl | rfl | rfl | rfl | rfl | rfl | rfl | rfl | rfl | rfl
      · cases (show some (AFn.code _) = some (.spec s) from h)
      · cases (show some (AFn.code _) = some (.spec s) from h)
      · cases (show some (AFn.code _) = some (.spec s) from h)
      · have h : some (AFn.spec sIdx) = some (.spec s) := h
        simp only [Option.some.injEq, AFn.spec.injEq] at h
        subst h; exact spec176 hm
      · have h : some (AFn.spec sIdxB) = some (.spec s) := h
        simp only [Option.some.injEq, AFn.spec.injEq] at h
        subst h; exact spec333.g
      · have h : some (AFn.spec sCnt) = some (.spec s) := h
        simp only [Option.some.injEq, AFn.spec.injEq] at h
        subst h; exact spec173.g
      · have h : some (AFn.spec sStr) = some (.spec s) := h
        simp only [Option.some.injEq, AFn.spec.injEq] at h
        subst h; exact spec73.g
      · have h : some (AFn.spec (sBW 166 5)) = some (.spec s) := h
        simp only [Option.some.injEq, AFn.spec.injEq] at h
        subst h; exact spec104.g
      · have h : some (AFn.spec (sBS 166 5)) = some (.spec s) := h
        simp only [Option.some.injEq, AFn.spec.injEq] at h
        subst h; exact spec106.g
      · have h : some (AFn.spec (sDel 2)) = some (.spec s) := h
        simp only [Option.some.injEq, AFn.spec.injEq] at h
        subst h; exact spec85.g
      · have h : some (AFn.spec (sDel 4)) = some (.spec s) := h
        simp only [Option.some.injEq, AFn.spec.injEq] at h
        subst h; exact spec339.g
      · have h : some (AFn.spec (sDel 4)) = some (.spec s) := h
        simp only [Option.some.injEq, AFn.spec.injEq] at h
        subst h; exact spec397.g
      · have h : some (AFn.spec (sIns 4)) = some (.spec s) := h
        simp only [Option.some.injEq, AFn.spec.injEq] at h
        subst h; exact spec443.g
      · have h : some (AFn.spec (sIns 4)) = some (.spec s) := h
        simp only [Option.some.injEq, AFn.spec.injEq] at h
        subst h; exact spec444.g
      · have h : some (AFn.spec (sCl 2)) = some (.spec s) := h
        simp only [Option.some.injEq, AFn.spec.injEq] at h
        subst h; exact spec36.g
      · have h : some (AFn.spec (sCl 4)) = some (.spec s) := h
        simp only [Option.some.injEq, AFn.spec.injEq] at h
        subst h; exact spec341.g
    · rw [fnsM_def hs] at h
      split at h
      · cases h
      · cases h

theorem spF {s0 s : FSpec} (h : some (FFn.spec s0) = some (.spec s)) : s = s0 := by
  simp only [Option.some.injEq, FFn.spec.injEq] at h
  exact h.symm
theorem TK_ok (S : Sg) : TabOK S fnsM TK := by
  refine ⟨fun f p fn h => ?_, fun f s h args => ?_, fun f s h => ?_⟩
  · by_cases hs : Sp f
    · unfold Sp at hs
      rcases hs with rfl | rfl | rfl | rfl | rfl | rfl | rfl | rfl | rfl | rfl | rfl | rfl | rfl | rfl | rfl | rfl
      · cases (show (none : Option FFn) = some (.code p fn) from h)
      · cases (show (none : Option FFn) = some (.code p fn) from h)
      · cases (show (none : Option FFn) = some (.code p fn) from h)
      all_goals (cases (show some (FFn.spec _) = some (.code p fn) from h))
    · rw [TK_def hs] at h
      split at h
      · rename_i c hc
        simp only [Option.some.injEq, FFn.code.injEq] at h
        obtain ⟨rfl, rfl⟩ := h
        exact ⟨by rw [fnsM_def hs, hc], (cd_ok hc).2⟩
      · cases h
  · by_cases hs : Sp f
    · unfold Sp at hs
      rcases hs with rfl | rfl | rfl | rfl | rfl | rfl | rfl | rfl | rfl | rfl | rfl | rfl | rfl | rfl | rfl | rfl
      · cases (show (none : Option FFn) = some (.spec s) from h)
      · cases (show (none : Option FFn) = some (.spec s) from h)
      · cases (show (none : Option FFn) = some (.spec s) from h)
      · obtain rfl := spF (s0 := fIdx) h; exact (fIdx_ok S).go (f := 176) rfl args
      · obtain rfl := spF (s0 := fIdxB) h; exact (fIdxB_ok S).go (f := 333) rfl args
      · obtain rfl := spF (s0 := fCnt) h; exact (fCnt_ok S).go (f := 173) rfl args
      · obtain rfl := spF (s0 := fStr) h; exact (fStr_ok S).go (f := 73) rfl args
      · obtain rfl := spF (s0 := fBW 166 5) h; exact (fBW_ok S 166 5).go (f := 104) rfl args
      · obtain rfl := spF (s0 := fBS 166 5) h; exact (fBS_ok S 166 5).go (f := 106) rfl args
      · obtain rfl := spF (s0 := fDel 2) h; exact (fDel_ok S 2).go (f := 85) rfl args
      · obtain rfl := spF (s0 := fDel 4) h; exact (fDel_ok S 4).go (f := 339) rfl args
      · obtain rfl := spF (s0 := fDel 4) h; exact (fDel_ok S 4).go (f := 397) rfl args
      · obtain rfl := spF (s0 := fIns 4) h; exact (fIns_ok S 4).go (f := 443) rfl args
      · obtain rfl := spF (s0 := fIns 4) h; exact (fIns_ok S 4).go (f := 444) rfl args
      · obtain rfl := spF (s0 := fCl 2) h; exact (fCl_ok S 2).go (f := 36) rfl args
      · obtain rfl := spF (s0 := fCl 4) h; exact (fCl_ok S 4).go (f := 341) rfl args
    · rw [TK_def hs] at h
      split at h
      · cases h
      · cases h
  · by_cases hs : Sp f
    · unfold Sp at hs
      rcases hs with rfl | rfl | rfl | rfl | rfl | rfl | rfl | rfl | rfl | rfl | rfl | rfl | rfl | rfl | rfl | rfl
      · cases (show (none : Option FFn) = some (.pure s) from h)
      · cases (show (none : Option FFn) = some (.pure s) from h)
      · cases (show (none : Option FFn) = some (.pure s) from h)
      all_goals (cases (show some (FFn.spec _) = some (.pure s) from h))
    · rw [TK_def hs] at h
      split at h
      · cases h
      · cases h

/-! What word, Within and known answer. -/
def TNm : TV := fun _ _ _ _ _ _ _ => none
theorem good_TNm : GoodV fnsM TNm := fun _ _ _ _ _ _ _ _ hk => by cases hk
theorem good_TW : GoodV fnsM TW := by
  intro k f vs b h os K z hk
  unfold TW at hk
  split at hk
  · refine ⟨_, _, _, hk, cg_pure (fun_ok good_TNm (fn := c_arbourkeep_Head) rfl (n := 0) (.inr rfl) (Head_run _ _ _ _)) (fun v hv => ?_) (.str _)⟩
    simp only [List.mem_cons, List.mem_nil_iff, or_false] at hv
    rcases hv with rfl | rfl
    · exact .str _
    · exact .int _ _
  · cases hk
theorem word_m1 (s : List Nat) : ∃ h1, From fun m => Am.callF fnsM (exec fnsM m) 4 [.str s] 0 H.emp = some (.str (119 :: lets 9 (s.take 9)), h1) := by
  obtain ⟨v1, h1, θ, q1, q2, _, _⟩ := fun_ok good_TW (f := 4) (fn := c_arbourlaw22_word) rfl (ba := pu) (fr := []) (n := 10) (.inr rfl) (word_run s) (fun _ => none) 0 [.str s] H.emp (.cons (.flat (.cell (.str s))) .nil) RH.emp
  cases q2 with | flat q2 =>
  cases q2 with | cell q2 =>
  cases q2
  exact ⟨h1, q1⟩
theorem within_m1 (n : Nat) : ∃ h1, From fun m => Am.callF fnsM (exec fnsM m) 5 [.int .i64 (n : Int), .int .i64 0, .int .i64 100] 0 H.emp = some (.int .i64 ((n % 101 : Nat) : Int), h1) := by
  obtain ⟨v1, h1, θ, q1, q2, _, _⟩ := fun_ok good_TW (f := 5) (fn := c_arbourbook_Within) rfl (ba := pu) (fr := []) (n := 0) (.inr rfl) (within_run _ n) (fun _ => none) 0 [.int .i64 (n : Int), .int .i64 0, .int .i64 100] H.emp
    (.cons (.flat (.cell (.int _ _))) (.cons (.flat (.cell (.int _ _))) (.cons (.flat (.cell (.int _ _))) .nil))) RH.emp
  cases q2 with | flat q2 =>
  cases q2 with | cell q2 =>
  cases q2
  exact ⟨h1, q1⟩
theorem known_m1 (S : Sg) : ∃ h1, From fun m => Am.callF fnsM (exec fnsM m) 8 [] 0 H.emp = some (.bool true, h1) := by
  obtain ⟨fh, hk⟩ := isT_some known_run
  obtain ⟨v, fh', h1, k1, k2, k3⟩ := callF_ok (TK_ok S) 60 0 .emp _ .wr 8 [] _ H.emp hk HR.emp
  simp only [Option.some.injEq, Prod.mk.injEq] at k1
  obtain ⟨rfl, _⟩ := k1
  exact ⟨h1, k3⟩
theorem mc_pure {f : Nat} {args : List AV} {v : AV} {h1 : H} (ha : AV.underL 0 args = true) (hv : v.under 0 = true) (q : From fun m => Am.callF fnsM (exec fnsM m) f args 0 H.emp = some (v, h1)) (base : Nat) (h : H) :
    From fun m => MC fnsM m .pure f args base h = some (v, h) :=
  q.mono fun m q => by simp only [MC, callSem, ha, if_true, q, hv]

theorem TM_def {w : List FB} {i n : Nat} (h : n ≠ 4 ∧ n ≠ 5 ∧ n ≠ 8) : TM w i n = TK n := by
  unfold TM
  split <;> first | rfl | (exfalso; omega)
theorem pureF {s0 s : List FV → (FV → R) → R} (h : some (FFn.pure s0) = some (.pure s)) : s = s0 := by
  simp only [Option.some.injEq, FFn.pure.injEq] at h
  exact h.symm
theorem TM_ok (S : Sg) {w : List FB} {i : Nat} {s : List Nat} (h0 : S.ω 0 = .str s) (hw : w.map (gB S) = 119 :: lets 9 (s.take 9)) (hi : S.ν (7340032 + i) = S.ν 1 % 101) : TabOK S fnsM (TM w i) := by
  refine ⟨fun f p fn h => ?_, fun f s h args => ?_, fun f s h => ?_⟩
  · by_cases hs : f ≠ 4 ∧ f ≠ 5 ∧ f ≠ 8
    · rw [TM_def hs] at h; exact (TK_ok S).code f p fn h
    · have hs : f = 4 ∨ f = 5 ∨ f = 8 := by omega
      rcases hs with rfl | rfl | rfl <;> cases (show some (FFn.pure _) = some (.code p fn) from h)
  · by_cases hs : f ≠ 4 ∧ f ≠ 5 ∧ f ≠ 8
    · rw [TM_def hs] at h; exact (TK_ok S).spec f s h args
    · have hs : f = 4 ∨ f = 5 ∨ f = 8 := by omega
      rcases hs with rfl | rfl | rfl <;> cases (show some (FFn.pure _) = some (.spec s) from h)
  · by_cases hs : f ≠ 4 ∧ f ≠ 5 ∧ f ≠ 8
    · rw [TM_def hs] at h; exact (TK_ok S).pure f s h
    · have hs : f = 4 ∨ f = 5 ∨ f = 8 := by omega
      rcases hs with rfl | rfl | rfl
      · obtain rfl := pureF (s0 := pWord w) h
        intro args K z hk
        unfold pWord at hk
        split at hk
        · obtain ⟨h1, q⟩ := word_m1 ‹List Nat›
          refine ⟨_, hk, fun base h => ?_⟩
          simp only [gL, g, h0, hw]
          exact mc_pure rfl rfl q base h
        · cases hk
      · obtain rfl := pureF (s0 := pWi i) h
        intro args K z hk
        unfold pWi at hk
        split at hk
        · obtain ⟨h1, q⟩ := within_m1 (S.ν 1)
          refine ⟨_, hk, fun base h => ?_⟩
          have e : g S (.int .i64 (.num (Nat.add 7340032 i))) = .int .i64 ((S.ν 1 % 101 : Nat) : Int) := by
            simp only [g, gI]
            rw [show Nat.add 7340032 i = 7340032 + i from rfl, hi]
          rw [e]
          exact mc_pure rfl rfl q base h
        · cases hk
      · obtain rfl := pureF (s0 := pKnown) h
        intro args K z hk
        unfold pKnown at hk
        split at hk
        · obtain ⟨h1, q⟩ := known_m1 S
          exact ⟨_, hk, fun base h => mc_pure rfl rfl q base h⟩
        · cases hk

/-! The law. -/
theorem wF_map {S : Sg} {ls : List Nat} (hσ : ∀ j, S.σ j = ls.getD j 97) : (wF ls.length).map (gB S) = 119 :: ls := by
  have key : ∀ (n i : Nat), i + n = ls.length → (Nat.rec (motive := fun _ => Nat → List FB) (fun _ => []) (fun _ ih i => .sym i :: ih (Nat.succ i)) n i).map (gB S) = ls.drop i := by
    intro n
    induction n with
    | zero => intro i hi; rw [List.drop_eq_nil_of_le (by omega)]; rfl
    | succ n ih =>
      intro i hi
      have h := ih (i + 1) (by omega)
      show gB S (.sym i) :: List.map (gB S) (Nat.rec (motive := fun _ => Nat → List FB) (fun _ => []) (fun _ ih i => .sym i :: ih (Nat.succ i)) n (i + 1)) = _
      rw [h]
      have hlt : i < ls.length := by omega
      rw [← List.getElem_cons_drop (h := hlt)]
      congr 1
      show S.σ i = _
      rw [hσ, List.getD_eq_getElem?_getD, List.getElem?_eq_getElem hlt]; rfl
  show 119 :: List.map (gB S) _ = _
  rw [key ls.length 0 (by omega), List.drop_zero]
def nuM (rows : List (List AV)) (q : Nat) : Nat := if q = 1 then rows.length else if q = 7340032 + rows.length % 101 % 6 then rows.length % 101 else q % 1048576
theorem nuM_md (rows : List (List AV)) (q m : Nat) (h1 : q / 1048576 = m + 1) (h2 : q % 1048576 < m) : nuM rows q % m = q % 1048576 := by
  unfold nuM
  have hq : q ≠ 1 := by intro e; subst e; omega
  rw [if_neg hq]
  generalize rows.length % 101 = x
  by_cases e : q = 7340032 + x % 6
  · rw [if_pos e]
    have hx : x % 6 < 6 := Nat.mod_lt _ (by decide)
    generalize hy : x % 6 = y at e hx
    subst e
    have h3 : (7340032 + y) / 1048576 = 7 := by omega
    have h4 : (7340032 + y) % 1048576 = y := by omega
    have h5 : m = 6 := by omega
    subst h5
    rw [h4, hy]
  · rw [if_neg e]; exact Nat.mod_eq_of_lt h2
def sgM (s : List Nat) (rows : List (List AV)) : Sg where
  σ := fun i => (lets 9 (s.take 9)).getD i 97
  ω := fun j => match j with
    | 0 => .str s
    | 1 => .vs false rows
    | j => .vs false (List.replicate (nuM rows j) [])
  lo := fun i => by
    rw [List.getD_eq_getElem?_getD]
    cases h : (lets 9 (s.take 9))[i]? with
    | none => exact Nat.le_refl _
    | some x => exact (lets_range _ _ x (List.mem_of_getElem? h)).1
  hi := fun i => by
    rw [List.getD_eq_getElem?_getD]
    cases h : (lets 9 (s.take 9))[i]? with
    | none => decide
    | some x => exact (lets_range _ _ x (List.mem_of_getElem? h)).2
  ν := nuM rows
  md := nuM_md rows
  sl := fun j => by
    cases j with
    | zero => exact ⟨false, rows, rfl, rfl⟩
    | succ j => exact ⟨false, _, rfl, List.length_replicate⟩
theorem adopts_m1 (s : List Nat) (rows : List (List AV)) : ∃ h', From fun m => Am.callF fnsM (exec fnsM m) 3 [.vs false rows, .str s] 0 H.emp = some (.bool true, h') := by
  obtain ⟨S, hS⟩ : ∃ S, S = sgM s rows := ⟨_, rfl⟩
  have h0 : S.ω 0 = .str s := by rw [hS]; rfl
  have h1 : S.ω 1 = .vs false rows := by rw [hS]; rfl
  have hσ : ∀ j, S.σ j = (lets 9 (s.take 9)).getD j 97 := fun j => by rw [hS]; rfl
  have hn1 : S.ν 1 = rows.length := by rw [hS]; rfl
  have hn2 : S.ν (7340032 + rows.length % 101 % 6) = S.ν 1 % 101 := by
    rw [hn1, hS]
    show nuM rows _ = _
    unfold nuM
    rw [if_neg (by omega), if_pos rfl]
  clear hS
  have hlen : (lets 9 (s.take 9)).length < 10 := by
    have := lets_len 9 (s.take 9)
    rw [List.length_take] at this
    omega
  have hi : rows.length % 101 % 6 < 6 := Nat.mod_lt _ (by decide)
  have ok := TM_ok S (w := wF (lets 9 (s.take 9)).length) (i := rows.length % 101 % 6) h0 (wF_map hσ) hn2
  have run : isT (rowRun (lets 9 (s.take 9)).length (rows.length % 101 % 6)) = 1 := by
    generalize (lets 9 (s.take 9)).length = n at hlen
    generalize rows.length % 101 % 6 = i at hi
    have h : i = 0 ∨ i = 1 ∨ i = 2 ∨ i = 3 ∨ i = 4 ∨ i = 5 := by omega
    rcases h with rfl | rfl | rfl | rfl | rfl | rfl
    · exact run_all_0 n hlen
    · exact run_all_1 n hlen
    · exact run_all_2 n hlen
    · exact run_all_3 n hlen
    · exact run_all_4 n hlen
    · exact run_all_5 n hlen
  obtain ⟨fh, hk⟩ := isT_some run
  obtain ⟨v, fh', h', k1, k2, k3⟩ := callF_ok ok 60 0 .emp _ .wr 3 [.opq 1, .opq 0] _ H.emp hk HR.emp
  simp only [Option.some.injEq, Prod.mk.injEq] at k1
  obtain ⟨rfl, _⟩ := k1
  have e : gL S [.opq 1, .opq 0] = [.vs false rows, .str s] := by simp only [gL, g, h0, h1]
  rw [e] at k3
  exact ⟨h', k3⟩
end Go.Am

/- What the law MasonAdopts answers in the program. -/
namespace Go.Am
open Go.RowKit

/-- What stands in a world's blocks: all are to stay; MaxLen's is named. -/
def pwOf (W : World) : Pw := ⟨fun b => W.heap[b]?, World.io W, fun b => if b = 2 then W.heap[2]? else none, fun b x h => by
  by_cases q : b = 2
  · rw [if_pos q] at h; rw [q]; exact h
  · rw [if_neg q] at h; cases h⟩
theorem maxL_of {W : World} {m : Int} (h : W.cell? ⟨2, 0, none⟩ = some (.int .i64 m)) : MaxL (pwOf W).gl := by
  unfold World.cell? at h
  split at h
  · rename_i c t fr hb
    refine ⟨c, t, fr, m, ?_, by simpa using h⟩
    show (if 2 = 2 then W.heap[2]? else none) = _
    rw [if_pos rfl]; exact hb
  · cases h
theorem rel_imm (W : World) {I : Nat → Option (List Value)} (hI : ∀ b cells, I b = some cells → ∃ c e fr, W.heap[b]? = some (.cells c e fr) ∧ c.toList.take cells.length = cells) : Rel id (pwOf W) 0 ⟨fun _ => none, I⟩ H.emp W :=
  ⟨fun o x e => by simp at e, fun o o' x x' b k C k' C' e => by simp at e, hI, fun o x b k C e => by simp at e, fun o x e => by simp at e, fun _ _ e => e, fun o x b k C _ e => by simp at e, rfl, fun o b k C e => by cases e⟩
/-- All that was there stays. -/
def Stays (W W' : World) : Prop := (∀ (b : Nat) (x : Go.Obj), W.heap[b]? = some x → W'.heap[b]? = some x) ∧ World.io W' = World.io W
theorem adopts_tie {W : World} {m : Int} (hm : W.cell? ⟨2, 0, none⟩ = some (.int .i64 m)) {I : Nat → Option (List Value)} (hI : ∀ b cells, I b = some cells → ∃ c e fr, W.heap[b]? = some (.cells c e fr) ∧ c.toList.take cells.length = cells)
    {rows : List (List AV)} {lv : Value} (hl : RV id ⟨fun _ => none, I⟩ (.vs false rows) lv) (s : ByteArray) : Calls Go.Proofs.Tryz.prog 3 #[lv, .string s] W fun e W' => e = .returned (.bool true) ∧ Stays W W' := by
  obtain ⟨h', N, q⟩ := adopts_m1 (bytesOf s) rows
  have h := acall_sim (pw := pwOf W) (fnsM_ok (maxL_of hm)) (n := N) (q N (Nat.le_refl _)) (.cons _ _ _ _ hl (.cons _ _ _ _ (.cell _ _ (.str s)) .nil)) (rel_imm W hI)
  rcases h with ⟨-, h⟩ | ⟨v, w', h, -⟩
  · refine h.mono fun e W' ⟨G', v', _, he, hv', r⟩ => ?_
    cases hv' with | cell _ _ hv' =>
    cases hv'
    exact ⟨he, fun b x hb => r.pwh b x hb, r.io⟩
  · have hc : (callFunc 3 #[lv, .string s]).run Go.Proofs.Tryz.prog W = .ok (.enter 3 #[lv, .string s]) W := by kernel_rfl
    exact absurd (h.symm.trans hc) (by simp)
/-- A slice of numbers. -/
theorem rv_ints {W : World} {a : Addr} {len cap : Nat} {zs : List Int} (hlc : len ≤ cap) (hz : len ≤ zs.length) (hcell : ∀ i, i < zs.length → W.cell? (a.add i) = some (.int .i64 (zs.getD i 0))) :
    ∃ I, (∀ b cells, I b = some cells → ∃ c e fr, W.heap[b]? = some (.cells c e fr) ∧ c.toList.take cells.length = cells) ∧ RV id ⟨fun _ => none, I⟩ (.vs false ((zs.take len).map fun n => [.int .i64 n])) (.slice (some a) len cap) := by
  by_cases h0 : len = 0
  · subst h0
    refine ⟨fun _ => none, (fun b cells e => by cases e), ?_⟩
    simpa using RV.cell (ρ := id) (G := ⟨fun _ => none, fun _ => none⟩) _ _ (.vsE false (some a) cap (fun e => by cases e))
  · have h1 := hcell 0 (by omega)
    obtain ⟨b, off, sp⟩ := a
    have hsp : sp = none := by
      cases sp with
      | none => rfl
      | some x =>
        simp only [Addr.add, if_true, World.cell?] at h1
        split at h1
        · simp at h1
        · cases h1
    subst hsp
    have hadd : ∀ i, (⟨b, off, none⟩ : Addr).add i = ⟨b, off + i, none⟩ := fun i => add_plain b off i
    obtain ⟨c, e, fr, hb⟩ : ∃ c e fr, W.heap[b]? = some (.cells c e fr) := by
      rw [hadd] at h1
      unfold World.cell? at h1
      split at h1
      · rename_i c e fr hb; exact ⟨c, e, fr, hb⟩
      · cases h1
    have hc : ∀ i, i < zs.length → c.toList[off + i]? = some (.int .i64 (zs.getD i 0)) := fun i hi => by
      have := hcell i hi
      rw [hadd, cell_at hb] at this
      rw [Array.getElem?_toList]; exact this
    refine ⟨fun x => if x = b then some c.toList else none, fun x cells hx => ?_, .cell _ _ ?_⟩
    · have hx : (if x = b then some c.toList else none) = some cells := hx
      by_cases q : x = b
      · rw [if_pos q] at hx; cases hx
        exact ⟨c, e, fr, by rw [q]; exact hb, List.take_length⟩
      · rw [if_neg q] at hx; cases hx
    · have hl : ((zs.take len).map fun n => [AV.int .i64 n]).length = len := by rw [List.length_map, List.length_take]; omega
      have hf : (((zs.take len).map fun n => [AV.int .i64 n])).flatten = (zs.take len).map fun n => AV.int .i64 n := by
        generalize zs.take len = l
        induction l with
        | nil => rfl
        | cons x l ih => rw [List.map_cons, List.flatten_cons, ih]; rfl
      have hcl : (c.toList.drop off).take (((zs.take len).map fun n => [AV.int .i64 n]).length * 1) = (zs.take len).map fun n => Value.int .i64 n := by
        rw [hl, Nat.mul_one]
        apply List.ext_getElem?
        intro i
        rw [List.getElem?_take, List.getElem?_map, List.getElem?_take]
        by_cases hi : i < len
        · rw [if_pos hi, if_pos hi, List.getElem?_drop, hc i (by omega), List.getElem?_eq_getElem (by omega), List.getD_eq_getElem?_getD, List.getElem?_eq_getElem (by omega)]
          rfl
        · rw [if_neg hi, if_neg hi]; rfl
      have key : ∀ l : List Int, RVCL id ⟨fun _ => none, fun x => if x = b then some c.toList else none⟩ (l.map fun n => AV.int .i64 n) (l.map fun n => Value.int .i64 n) := by
        intro l
        induction l with
        | nil => exact .nil
        | cons x l ih => exact .cons _ _ _ _ (.int _ _) ih
      have := RVC.vs (ρ := id) (G := ⟨fun _ => none, fun x => if x = b then some c.toList else none⟩) false ((zs.take len).map fun n => [AV.int .i64 n]) 1 b off cap c.toList (fun e => by
          have := congrArg List.length e
          rw [hl] at this; exact h0 this) (Nat.le_refl _) (fun r hr => by
          obtain ⟨n, _, rfl⟩ := List.mem_map.1 hr; rfl) (by simp) (by rw [hf, hcl]; exact key _) (by rw [hl]; exact hlc) (fun e => by cases e)
      rw [hl] at this
      exact this
end Go.Am
