/- Parts of an abstract machine and its proofs: QuP. -/
import Derived.Test.YtcgejflifhjajaaGreatDoorMaP
import Derived.Test.YtcgejflifhjajaaGreatDoorQuK0
import Derived.Test.YtcgejflifhjajaaGreatDoorQuK1
import Derived.Test.YtcgejflifhjajaaGreatDoorQuK2
import Derived.Test.YtcgejflifhjajaaGreatDoorQuK3
import Derived.Test.YtcgejflifhjajaaGreatDoorQuK4
import Derived.Test.YtcgejflifhjajaaGreatDoorQuK5
import Derived.Test.YtcgejflifhjajaaGreatDoorQuK6
import Derived.Test.YtcgejflifhjajaaGreatDoorQuK7
import Derived.Test.YtcgejflifhjajaaGreatDoorQuK8
import Derived.Test.YtcgejflifhjajaaGreatDoorQuK9
import Derived.Test.YtcgejflifhjajaaGreatDoorQuK10
import Derived.Test.YtcgejflifhjajaaGreatDoorQuK11
import Derived.Test.YtcgejflifhjajaaGreatDoorQuK12
import Derived.Test.YtcgejflifhjajaaGreatDoorQuK13
import Derived.Test.YtcgejflifhjajaaGreatDoorQuK14
import Derived.Test.YtcgejflifhjajaaGreatDoorQuK15
import Derived.Test.YtcgejflifhjajaaGreatDoorQuK16
import Derived.Test.YtcgejflifhjajaaGreatDoorQuK17
import Derived.Test.YtcgejflifhjajaaGreatDoorQuK18
import Derived.Test.YtcgejflifhjajaaGreatDoorQuK19
import Derived.Test.YtcgejflifhjajaaGreatDoorQuK20
import Derived.Test.YtcgejflifhjajaaGreatDoorQuK21
import Derived.ProofKit

set_option linter.unusedSimpArgs false
set_option linter.unusedVariables false
namespace Go.Am
open Go.Fm
open Go (IntKind)
theorem runN_even (n : Nat) (b1 : Bool) (hn : n < 10) : isT (rowRunE n b1) = 1 := by
  cases b1
  · exact r_e_false n hn
  · exact r_e_true n hn
theorem runN_cases (n m : Nat) (b1 : Bool) (hm : m < 10) (hn : n < 10) : isT (rowRunO n (wG m) b1) = 1 := by
  have q : m = 0 ∨ m = 1 ∨ m = 2 ∨ m = 3 ∨ m = 4 ∨ m = 5 ∨ m = 6 ∨ m = 7 ∨ m = 8 ∨ m = 9 := by omega
  rcases q with rfl | rfl | rfl | rfl | rfl | rfl | rfl | rfl | rfl | rfl <;> cases b1
  · exact r_0_false n hn
  · exact r_0_true n hn
  · exact r_1_false n hn
  · exact r_1_true n hn
  · exact r_2_false n hn
  · exact r_2_true n hn
  · exact r_3_false n hn
  · exact r_3_true n hn
  · exact r_4_false n hn
  · exact r_4_true n hn
  · exact r_5_false n hn
  · exact r_5_true n hn
  · exact r_6_false n hn
  · exact r_6_true n hn
  · exact r_7_false n hn
  · exact r_7_true n hn
  · exact r_8_false n hn
  · exact r_8_true n hn
  · exact r_9_false n hn
  · exact r_9_true n hn
theorem TNE_def {w : List FB} {n : Nat} (h : n ≠ 7 ∧ n ≠ 11) : TNE w n = TK n := by
  unfold TNE
  split <;> first | rfl | (exfalso; omega)
theorem TNE_ok (S : Sg) {w : List FB} {s u : List Nat} (h0 : S.ω 0 = .str s) (hw : w.map (gB S) = 119 :: lets 9 (s.take 9)) (h1 : S.ω 3145728 = .str u) (h2 : S.ω 2001 = .str (119 :: lets 9 (u.take 9))) : TabOK S fnsM (TNE w) := by
  refine ⟨fun f p fn h => ?_, fun f s h args => ?_, fun f s' h => ?_⟩
  · by_cases hs : f ≠ 7 ∧ f ≠ 11
    · rw [TNE_def hs] at h; exact (TK_ok S).code f p fn h
    · have hs : f = 7 ∨ f = 11 := by omega
      rcases hs with rfl | rfl <;> cases (show some (FFn.pure _) = some (.code p fn) from h)
  · by_cases hs : f ≠ 7 ∧ f ≠ 11
    · rw [TNE_def hs] at h; exact (TK_ok S).spec f s h args
    · have hs : f = 7 ∨ f = 11 := by omega
      rcases hs with rfl | rfl <;> cases (show some (FFn.pure _) = some (.spec s) from h)
  · by_cases hs : f ≠ 7 ∧ f ≠ 11
    · rw [TNE_def hs] at h; exact (TK_ok S).pure f s' h
    · have hs : f = 7 ∨ f = 11 := by omega
      rcases hs with rfl | rfl
      · obtain rfl := pureF (s0 := pWordsE w) h
        intro args K z hk
        unfold pWordsE at hk
        split at hk
        · obtain ⟨h1, q⟩ := word_m1 s
          refine ⟨_, hk, fun base h => ?_⟩
          simp only [gL, g, h0, hw]
          exact mc_pure rfl rfl q base h
        · obtain ⟨h1', q⟩ := word_m1 u
          refine ⟨_, hk, fun base h => ?_⟩
          simp only [gL, g, h1, h2]
          exact mc_pure rfl rfl q base h
        · cases hk
      · obtain rfl := pureF (s0 := pKnown) h
        intro args K z hk
        unfold pKnown at hk
        split at hk
        · obtain ⟨h1, q⟩ := known_m1 S
          exact ⟨_, hk, fun base h => mc_pure rfl rfl q base h⟩
        · cases hk
theorem TNO_def {w x : List FB} {n : Nat} (h : n ≠ 7 ∧ n ≠ 11) : TNO w x n = TK n := by
  unfold TNO
  split <;> first | rfl | (exfalso; omega)
theorem TNO_ok (S : Sg) {w x : List FB} {s u : List Nat} (h0 : S.ω 0 = .str s) (hw : w.map (gB S) = 119 :: lets 9 (s.take 9)) (h1 : S.ω 3145729 = .str u) (hx : x.map (gB S) = 119 :: lets 9 (u.take 9)) : TabOK S fnsM (TNO w x) := by
  refine ⟨fun f p fn h => ?_, fun f s h args => ?_, fun f s' h => ?_⟩
  · by_cases hs : f ≠ 7 ∧ f ≠ 11
    · rw [TNO_def hs] at h; exact (TK_ok S).code f p fn h
    · have hs : f = 7 ∨ f = 11 := by omega
      rcases hs with rfl | rfl <;> cases (show some (FFn.pure _) = some (.code p fn) from h)
  · by_cases hs : f ≠ 7 ∧ f ≠ 11
    · rw [TNO_def hs] at h; exact (TK_ok S).spec f s h args
    · have hs : f = 7 ∨ f = 11 := by omega
      rcases hs with rfl | rfl <;> cases (show some (FFn.pure _) = some (.spec s) from h)
  · by_cases hs : f ≠ 7 ∧ f ≠ 11
    · rw [TNO_def hs] at h; exact (TK_ok S).pure f s' h
    · have hs : f = 7 ∨ f = 11 := by omega
      rcases hs with rfl | rfl
      · obtain rfl := pureF (s0 := pWordsO w x) h
        intro args K z hk
        unfold pWordsO at hk
        split at hk
        · obtain ⟨h1, q⟩ := word_m1 s
          refine ⟨_, hk, fun base h => ?_⟩
          simp only [gL, g, h0, hw]
          exact mc_pure rfl rfl q base h
        · obtain ⟨h1', q⟩ := word_m1 u
          refine ⟨_, hk, fun base h => ?_⟩
          simp only [gL, g, h1, hx]
          exact mc_pure rfl rfl q base h
        · cases hk
      · obtain rfl := pureF (s0 := pKnown) h
        intro args K z hk
        unfold pKnown at hk
        split at hk
        · obtain ⟨h1, q⟩ := known_m1 S
          exact ⟨_, hk, fun base h => mc_pure rfl rfl q base h⟩
        · cases hk
theorem wG_map {S : Sg} {ls : List Nat} (hσ : ∀ j, S.σ (j + 10) = ls.getD j 97) : (wG ls.length).map (gB S) = 119 :: ls := by
  have key : ∀ (n i : Nat), i + n = ls.length → (Nat.rec (motive := fun _ => Nat → List FB) (fun _ => []) (fun _ ih i => .sym i :: ih (Nat.succ i)) n (i + 10)).map (gB S) = ls.drop i := by
    intro n
    induction n with
    | zero => intro i hi; rw [List.drop_eq_nil_of_le (by omega)]; rfl
    | succ n ih =>
      intro i hi
      have h := ih (i + 1) (by omega)
      rw [show i + 1 + 10 = (i + 10) + 1 by omega] at h
      show gB S (.sym (i + 10)) :: List.map (gB S) (Nat.rec (motive := fun _ => Nat → List FB) (fun _ => []) (fun _ ih i => .sym i :: ih (Nat.succ i)) n (i + 10 + 1)) = _
      rw [h]
      have hlt : i < ls.length := by omega
      rw [← List.getElem_cons_drop (h := hlt)]
      congr 1
      show S.σ (i + 10) = _
      rw [hσ, List.getD_eq_getElem?_getD, List.getElem?_eq_getElem hlt]; rfl
  show 119 :: List.map (gB S) _ = _
  have := key ls.length 0 (by omega)
  rw [List.drop_zero] at this
  exact congrArg (List.cons 119) this
def ltr (l : List Nat) (i : Nat) : Nat := l.getD i 97
theorem ltr_in (s : List Nat) (i : Nat) : 97 ≤ ltr (lets 9 (s.take 9)) i ∧ ltr (lets 9 (s.take 9)) i ≤ 122 := by
  unfold ltr
  rw [List.getD_eq_getElem?_getD]
  cases h : (lets 9 (s.take 9))[i]? with
  | none => exact ⟨Nat.le_refl _, by decide⟩
  | some x => exact lets_range _ _ x (List.mem_of_getElem? h)
def nuN (u : List Nat) (q : Nat) : Int := Int.ofNat (if q = 3145728 + u.length % 2 then u.length else q % 1048576)
def omN (u s : List Nat) (j : Nat) : AV := if j = 0 then .str s else if j = 2001 then .str (119 :: lets 9 (u.take 9)) else if j = 3145728 + u.length % 2 then .str u else if 1048576 ≤ j then .str (List.replicate (j % 1048576) 0) else .vs false (List.replicate j [])
def sgN (u s : List Nat) : Sg where
  σ := fun i => if i < 10 then ltr (lets 9 (s.take 9)) i else ltr (lets 9 (u.take 9)) (i - 10)
  ω := omN u s
  lo := fun i => by
    split
    · exact (ltr_in s i).1
    · exact (ltr_in u _).1
  hi := fun i => by
    split
    · exact (ltr_in s i).2
    · exact (ltr_in u _).2
  ν := nuN u
  md := fun q m h1 h2 => by
    unfold nuN
    by_cases hq : q = 3145728 + u.length % 2
    · rw [if_pos hq]
      have hm : m = 2 := by omega
      subst hm
      show Int.ofNat (u.length % 2) = _
      congr 1
      omega
    · rw [if_neg hq]
      show Int.ofNat (q % 1048576 % m) = _
      rw [Nat.mod_eq_of_lt h2]
  st := fun j hj => by
    by_cases hq : j = 3145728 + u.length % 2
    · refine ⟨u, by unfold omN; rw [if_neg (by omega), if_neg (by omega), if_pos hq], ?_⟩
      unfold nuN; rw [if_pos hq]; rfl
    · refine ⟨List.replicate (j % 1048576) 0, by unfold omN; rw [if_neg (by omega), if_neg (by omega), if_neg hq, if_pos hj], ?_⟩
      unfold nuN; rw [if_neg hq, List.length_replicate]; rfl
  sl := fun j hj => by
    refine ⟨false, List.replicate (j + 1) [], by unfold omN; rw [if_neg (by omega), if_neg (by omega), if_neg (by omega)]; rw [if_neg (by omega)], ?_⟩
    rw [List.length_replicate]
    unfold nuN
    rw [if_neg (by omega), Nat.mod_eq_of_lt (by omega)]; rfl
theorem wF_map10 {S : Sg} {ls : List Nat} (hσ : ∀ j, j < 10 → S.σ j = ls.getD j 97) (hl : ls.length < 10) : (wF ls.length).map (gB S) = 119 :: ls := by
  have key : ∀ (n i : Nat), i + n = ls.length → (Nat.rec (motive := fun _ => Nat → List FB) (fun _ => []) (fun _ ih i => .sym i :: ih (Nat.succ i)) n i).map (gB S) = ls.drop i := by
    intro n
    induction n with
    | zero => intro i hi; rw [List.drop_eq_nil_of_le (by omega)]; rfl
    | succ n ih =>
      intro i hi
      have h := ih (i + 1) (by omega)
      show gB S (.sym i) :: List.map (gB S) (Nat.rec (motive := fun _ => Nat → List FB) (fun _ => []) (fun _ ih i => .sym i :: ih (Nat.succ i)) n (i + 1)) = _
      rw [h]
      have hlt : i < ls.length := by omega
      rw [← List.getElem_cons_drop (h := hlt)]
      congr 1
      show S.σ i = _
      rw [hσ i (by omega), List.getD_eq_getElem?_getD, List.getElem?_eq_getElem hlt]; rfl
  show 119 :: List.map (gB S) _ = _
  rw [key ls.length 0 (by omega), List.drop_zero]
theorem masonQuirks_m1 (u s : List Nat) (b1 : Bool) : ∃ h', From fun m => Am.callF fnsM (exec fnsM m) 4 [.str u, .str s, .bool b1] 0 H.emp = some (.bool true, h') := by
  obtain ⟨S, hS⟩ : ∃ S, S = sgN u s := ⟨_, rfl⟩
  have h0 : S.ω 0 = .str s := by rw [hS]; rfl
  have hσ : ∀ j, j < 10 → S.σ j = (lets 9 (s.take 9)).getD j 97 := fun j hj => by rw [hS]; show (if j < 10 then _ else _) = _; rw [if_pos hj]; rfl
  have hτ : ∀ j, S.σ (j + 10) = (lets 9 (u.take 9)).getD j 97 := fun j => by
    rw [hS]; show (if j + 10 < 10 then ltr (lets 9 (s.take 9)) (j + 10) else ltr (lets 9 (u.take 9)) (j + 10 - 10)) = _; rw [if_neg (by omega), Nat.add_sub_cancel]; rfl
  have h2 : S.ω 2001 = .str (119 :: lets 9 (u.take 9)) := by rw [hS]; rfl
  have h3 : S.ω (3145728 + u.length % 2) = .str u := by
    rw [hS]; show omN u s _ = _; unfold omN; rw [if_neg (by omega), if_neg (by omega), if_pos rfl]
  clear hS
  have hlen : (lets 9 (s.take 9)).length < 10 := by
    have := lets_len 9 (s.take 9)
    rw [List.length_take] at this
    omega
  have hlen2 : (lets 9 (u.take 9)).length < 10 := by
    have := lets_len 9 (u.take 9)
    rw [List.length_take] at this
    omega
  have hw := wF_map10 hσ hlen
  rcases (show u.length % 2 = 0 ∨ u.length % 2 = 1 by omega) with hp | hp
  · have h1 : S.ω 3145728 = .str u := by rw [← h3, hp]
    have run : isT (rowRunE (lets 9 (s.take 9)).length b1) = 1 := runN_even _ b1 hlen
    have ok := TNE_ok S (w := wF (lets 9 (s.take 9)).length) h0 hw h1 h2
    obtain ⟨fh, hk⟩ := isT_some run
    obtain ⟨v, fh', h', k1, k2, k3⟩ := callF_ok ok 60 0 .emp _ .wr 4 [.opq 3145728, .opq 0, .bool b1] _ H.emp hk HR.emp
    simp only [Option.some.injEq, Prod.mk.injEq] at k1
    obtain ⟨rfl, _⟩ := k1
    have e : gL S [.opq 3145728, .opq 0, .bool b1] = [.str u, .str s, .bool b1] := by simp only [gL, g, h0, h1]
    rw [e] at k3
    exact ⟨h', k3⟩
  · have h1 : S.ω 3145729 = .str u := by rw [← h3, hp]
    have run : isT (rowRunO (lets 9 (s.take 9)).length (wG (lets 9 (u.take 9)).length) b1) = 1 := runN_cases _ _ b1 hlen2 hlen
    have ok := TNO_ok S (w := wF (lets 9 (s.take 9)).length) (x := wG (lets 9 (u.take 9)).length) h0 hw h1 (wG_map hτ)
    obtain ⟨fh, hk⟩ := isT_some run
    obtain ⟨v, fh', h', k1, k2, k3⟩ := callF_ok ok 60 0 .emp _ .wr 4 [.opq 3145729, .opq 0, .bool b1] _ H.emp hk HR.emp
    simp only [Option.some.injEq, Prod.mk.injEq] at k1
    obtain ⟨rfl, _⟩ := k1
    have e : gL S [.opq 3145729, .opq 0, .bool b1] = [.str u, .str s, .bool b1] := by simp only [gL, g, h0, h1]
    rw [e] at k3
    exact ⟨h', k3⟩
theorem masonQuirks_tie {W : World} {m : Int} (hm : W.cell? ⟨2, 0, none⟩ = some (.int .i64 m)) (u s : ByteArray) (b1 : Bool) : Calls Go.Proofs.Tryz.prog 4 #[.string u, .string s, .bool b1] W fun e W' => e = .returned (.bool true) ∧ Stays W W' := by
  obtain ⟨h', N, q⟩ := masonQuirks_m1 (bytesOf u) (bytesOf s) b1
  have h := acall_sim (pw := pwOf W) (fnsM_ok (maxL_of hm)) (n := N) (q N (Nat.le_refl _)) (.cons _ _ _ _ (.cell _ _ (.str u)) (.cons _ _ _ _ (.cell _ _ (.str s)) (.cons _ _ _ _ (.cell _ _ (.bool _)) .nil))) (rel_imm W (I := fun _ => none) (fun b cells e => by cases e))
  rcases h with ⟨-, h⟩ | ⟨v, w', h, -⟩
  · refine h.mono fun e W' ⟨G', v', _, he, hv', r⟩ => ?_
    cases hv' with | cell _ _ hv' =>
    cases hv'
    exact ⟨he, fun b x hb => r.pwh b x hb, r.io⟩
  · have hc : (callFunc 4 #[.string u, .string s, .bool b1]).run Go.Proofs.Tryz.prog W = .ok (.enter 4 #[.string u, .string s, .bool b1]) W := by kernel_rfl
    exact absurd (h.symm.trans hc) (by simp)
end Go.Am
