/- Parts of an abstract machine and its proofs: ReP. -/
import Derived.Test.YtcgejflifhjajaaGreatDoorMaP
import Derived.Test.YtcgejflifhjajaaGreatDoorReK0
import Derived.Test.YtcgejflifhjajaaGreatDoorReK1
import Derived.Test.YtcgejflifhjajaaGreatDoorReK2
import Derived.Test.YtcgejflifhjajaaGreatDoorReK3
import Derived.Test.YtcgejflifhjajaaGreatDoorReK4
import Derived.Test.YtcgejflifhjajaaGreatDoorReK5
import Derived.Test.YtcgejflifhjajaaGreatDoorReK6
import Derived.Test.YtcgejflifhjajaaGreatDoorReK7
import Derived.Test.YtcgejflifhjajaaGreatDoorReK8
import Derived.Test.YtcgejflifhjajaaGreatDoorReK9
import Derived.Test.YtcgejflifhjajaaGreatDoorReK10
import Derived.Test.YtcgejflifhjajaaGreatDoorReK11
import Derived.Test.YtcgejflifhjajaaGreatDoorReK12
import Derived.Test.YtcgejflifhjajaaGreatDoorReK13
import Derived.Test.YtcgejflifhjajaaGreatDoorReK14
import Derived.ProofKit

set_option linter.unusedSimpArgs false
set_option linter.unusedVariables false
namespace Go.Am
open Go.Fm
open Go (IntKind)
theorem runN_cases (n i j : Nat) (hi : i ≤ 5) (hj : j ≤ 4) (hn : n < 10) : isT (rowRunN n i j) = 1 := by
  have q0 : i = 0 ∨ i = 1 ∨ i = 2 ∨ i = 3 ∨ i = 4 ∨ i = 5 := by omega
  rcases q0 with rfl | rfl | rfl | rfl | rfl | rfl
  ·
    have q1 : j = 0 ∨ j = 1 ∨ j = 2 ∨ j = 3 ∨ j = 4 := by omega
    rcases q1 with rfl | rfl | rfl | rfl | rfl
    ·
      exact r_0_0 n hn
    ·
      exact r_0_1 n hn
    ·
      exact r_0_2 n hn
    ·
      exact r_0_3 n hn
    ·
      exact r_0_4 n hn
  ·
    have q1 : j = 0 ∨ j = 1 ∨ j = 2 ∨ j = 3 ∨ j = 4 := by omega
    rcases q1 with rfl | rfl | rfl | rfl | rfl
    ·
      exact r_1_0 n hn
    ·
      exact r_1_1 n hn
    ·
      exact r_1_2 n hn
    ·
      exact r_1_3 n hn
    ·
      exact r_1_4 n hn
  ·
    have q1 : j = 0 ∨ j = 1 ∨ j = 2 ∨ j = 3 ∨ j = 4 := by omega
    rcases q1 with rfl | rfl | rfl | rfl | rfl
    ·
      exact r_2_0 n hn
    ·
      exact r_2_1 n hn
    ·
      exact r_2_2 n hn
    ·
      exact r_2_3 n hn
    ·
      exact r_2_4 n hn
  ·
    have q1 : j = 0 ∨ j = 1 ∨ j = 2 ∨ j = 3 ∨ j = 4 := by omega
    rcases q1 with rfl | rfl | rfl | rfl | rfl
    ·
      exact r_3_0 n hn
    ·
      exact r_3_1 n hn
    ·
      exact r_3_2 n hn
    ·
      exact r_3_3 n hn
    ·
      exact r_3_4 n hn
  ·
    have q1 : j = 0 ∨ j = 1 ∨ j = 2 ∨ j = 3 ∨ j = 4 := by omega
    rcases q1 with rfl | rfl | rfl | rfl | rfl
    ·
      exact r_4_0 n hn
    ·
      exact r_4_1 n hn
    ·
      exact r_4_2 n hn
    ·
      exact r_4_3 n hn
    ·
      exact r_4_4 n hn
  ·
    have q1 : j = 0 ∨ j = 1 ∨ j = 2 ∨ j = 3 ∨ j = 4 := by omega
    rcases q1 with rfl | rfl | rfl | rfl | rfl
    ·
      exact r_5_0 n hn
    ·
      exact r_5_1 n hn
    ·
      exact r_5_2 n hn
    ·
      exact r_5_3 n hn
    ·
      exact r_5_4 n hn
theorem Wi_tree5 (LK : LKT) (n : Int) : elV TW [] pu LK c_arbourbook_Within.body ([.int .i64 n, .int .i64 0, .int .i64 5] ++ undefsV 21) HV.emp (retV c_arbourbook_Within.res) =
    bif decide (n.tmod (IntKind.i64.wrap (IntKind.i64.wrap (5 - 0) + 1)) < 0) then
      some (V.int IntKind.i64 (IntKind.i64.wrap (0 + IntKind.i64.wrap (IntKind.i64.wrap (IntKind.i64.wrap (n.tmod 6 + 5) - 0) + 1))), (hL 0 (loL [])), [])
    else
      some (V.int IntKind.i64 (IntKind.i64.wrap (0 + n.tmod 6)), (hL 0 (loL [])), []) := by
  kernel_rfl
theorem within_run5 (LK : LKT) (n : Int) : ∃ i : Nat, i ≤ 5 ∧ elV TW [] pu LK c_arbourbook_Within.body ([.int .i64 n, .int .i64 0, .int .i64 5] ++ undefsV 21) HV.emp (retV c_arbourbook_Within.res) = some (.int .i64 (i : Int), HV.emp, []) := by
  rw [Wi_tree5]
  have h1 : IntKind.i64.wrap (IntKind.i64.wrap (5 - 0) + 1) = 6 := by decide +kernel
  rw [h1]
  have b1 : n.tmod 6 < 6 := Int.tmod_lt_of_pos n (by decide)
  have b2 : -6 < n.tmod 6 := by
    have := Int.tmod_lt_of_pos (-n) (show (0 : Int) < 6 by decide)
    rw [Int.neg_tmod] at this
    omega
  generalize n.tmod 6 = x at b1 b2
  by_cases hx : x < 0
  · refine ⟨(x + 6).toNat, by omega, ?_⟩
    rw [decide_eq_true hx, cond_true]
    simp only [IntKind.wrap_i64]
    have h3 : ((0 + (((((x + 5 + 9223372036854775808) % 18446744073709551616 - 9223372036854775808) - 0 + 9223372036854775808) % 18446744073709551616 - 9223372036854775808) + 1 + 9223372036854775808) % 18446744073709551616 - 9223372036854775808) + 9223372036854775808) % 18446744073709551616 - 9223372036854775808 = ((x + 6).toNat : Int) := by omega
    first | (rw [h3]; rfl) | (congr 3; omega)
  · refine ⟨x.toNat, by omega, ?_⟩
    rw [decide_eq_false hx, cond_false]
    simp only [IntKind.wrap_i64]
    have h3 : ((0 + x + 9223372036854775808) % 18446744073709551616 - 9223372036854775808) = (x.toNat : Int) := by omega
    first | (rw [h3]; rfl) | (congr 3; omega)
theorem withinN5_m1 (n : Int) : ∃ i : Nat, i ≤ 5 ∧ ∃ h1, From fun m => Am.callF fnsM (exec fnsM m) 8 [.int .i64 n, .int .i64 0, .int .i64 5] 0 H.emp = some (.int .i64 (i : Int), h1) := by
  obtain ⟨i, hi, hr⟩ := within_run5 (lpV TW [] pu 0) n
  obtain ⟨v1, h1, θ, q1, q2, _, _⟩ := fun_ok good_TW (f := 8) (fn := c_arbourbook_Within) rfl (ba := pu) (fr := []) (n := 0) (.inr rfl) hr (fun _ => none) 0 [.int .i64 n, .int .i64 0, .int .i64 5] H.emp
    (.cons (.flat (.cell (.int _ _))) (.cons (.flat (.cell (.int _ _))) (.cons (.flat (.cell (.int _ _))) .nil))) RH.emp
  cases q2 with | flat q2 =>
  cases q2 with | cell q2 =>
  cases q2
  exact ⟨i, hi, h1, q1⟩
theorem Wi_tree4 (LK : LKT) (n : Int) : elV TW [] pu LK c_arbourbook_Within.body ([.int .i64 n, .int .i64 0, .int .i64 4] ++ undefsV 21) HV.emp (retV c_arbourbook_Within.res) =
    bif decide (n.tmod (IntKind.i64.wrap (IntKind.i64.wrap (4 - 0) + 1)) < 0) then
      some (V.int IntKind.i64 (IntKind.i64.wrap (0 + IntKind.i64.wrap (IntKind.i64.wrap (IntKind.i64.wrap (n.tmod 5 + 4) - 0) + 1))), (hL 0 (loL [])), [])
    else
      some (V.int IntKind.i64 (IntKind.i64.wrap (0 + n.tmod 5)), (hL 0 (loL [])), []) := by
  kernel_rfl
theorem within_run4 (LK : LKT) (n : Int) : ∃ i : Nat, i ≤ 4 ∧ elV TW [] pu LK c_arbourbook_Within.body ([.int .i64 n, .int .i64 0, .int .i64 4] ++ undefsV 21) HV.emp (retV c_arbourbook_Within.res) = some (.int .i64 (i : Int), HV.emp, []) := by
  rw [Wi_tree4]
  have h1 : IntKind.i64.wrap (IntKind.i64.wrap (4 - 0) + 1) = 5 := by decide +kernel
  rw [h1]
  have b1 : n.tmod 5 < 5 := Int.tmod_lt_of_pos n (by decide)
  have b2 : -5 < n.tmod 5 := by
    have := Int.tmod_lt_of_pos (-n) (show (0 : Int) < 5 by decide)
    rw [Int.neg_tmod] at this
    omega
  generalize n.tmod 5 = x at b1 b2
  by_cases hx : x < 0
  · refine ⟨(x + 5).toNat, by omega, ?_⟩
    rw [decide_eq_true hx, cond_true]
    simp only [IntKind.wrap_i64]
    have h3 : ((0 + (((((x + 4 + 9223372036854775808) % 18446744073709551616 - 9223372036854775808) - 0 + 9223372036854775808) % 18446744073709551616 - 9223372036854775808) + 1 + 9223372036854775808) % 18446744073709551616 - 9223372036854775808) + 9223372036854775808) % 18446744073709551616 - 9223372036854775808 = ((x + 5).toNat : Int) := by omega
    first | (rw [h3]; rfl) | (congr 3; omega)
  · refine ⟨x.toNat, by omega, ?_⟩
    rw [decide_eq_false hx, cond_false]
    simp only [IntKind.wrap_i64]
    have h3 : ((0 + x + 9223372036854775808) % 18446744073709551616 - 9223372036854775808) = (x.toNat : Int) := by omega
    first | (rw [h3]; rfl) | (congr 3; omega)
theorem withinN4_m1 (n : Int) : ∃ i : Nat, i ≤ 4 ∧ ∃ h1, From fun m => Am.callF fnsM (exec fnsM m) 8 [.int .i64 n, .int .i64 0, .int .i64 4] 0 H.emp = some (.int .i64 (i : Int), h1) := by
  obtain ⟨i, hi, hr⟩ := within_run4 (lpV TW [] pu 0) n
  obtain ⟨v1, h1, θ, q1, q2, _, _⟩ := fun_ok good_TW (f := 8) (fn := c_arbourbook_Within) rfl (ba := pu) (fr := []) (n := 0) (.inr rfl) hr (fun _ => none) 0 [.int .i64 n, .int .i64 0, .int .i64 4] H.emp
    (.cons (.flat (.cell (.int _ _))) (.cons (.flat (.cell (.int _ _))) (.cons (.flat (.cell (.int _ _))) .nil))) RH.emp
  cases q2 with | flat q2 =>
  cases q2 with | cell q2 =>
  cases q2
  exact ⟨i, hi, h1, q1⟩
theorem TN_def {w : List FB} {i j : Nat} {n : Nat} (h : n ≠ 7 ∧ n ≠ 8 ∧ n ≠ 11) : TN w i j n = TK n := by
  unfold TN
  split <;> first | rfl | (exfalso; omega)
theorem TN_ok (S : Sg) {w : List FB} {i j : Nat} {s : List Nat} {n1 n2 : Int} (h0 : S.ω 0 = .str s) (hw : w.map (gB S) = 119 :: lets 9 (s.take 9)) (hn0 : S.ν 5000 = n1) (hn1 : S.ν 5001 = n2)
    (hii : ∃ h1, From fun m => Am.callF fnsM (exec fnsM m) 8 [.int .i64 n1, .int .i64 0, .int .i64 5] 0 H.emp = some (.int .i64 (i : Int), h1))
    (hij : ∃ h1, From fun m => Am.callF fnsM (exec fnsM m) 8 [.int .i64 n2, .int .i64 0, .int .i64 4] 0 H.emp = some (.int .i64 (j : Int), h1)) : TabOK S fnsM (TN w i j) := by
  refine ⟨fun f p fn h => ?_, fun f s h args => ?_, fun f s h => ?_⟩
  · by_cases hs : f ≠ 7 ∧ f ≠ 8 ∧ f ≠ 11
    · rw [TN_def hs] at h; exact (TK_ok S).code f p fn h
    · have hs : f = 7 ∨ f = 8 ∨ f = 11 := by omega
      rcases hs with rfl | rfl | rfl <;> cases (show some (FFn.pure _) = some (.code p fn) from h)
  · by_cases hs : f ≠ 7 ∧ f ≠ 8 ∧ f ≠ 11
    · rw [TN_def hs] at h; exact (TK_ok S).spec f s h args
    · have hs : f = 7 ∨ f = 8 ∨ f = 11 := by omega
      rcases hs with rfl | rfl | rfl <;> cases (show some (FFn.pure _) = some (.spec s) from h)
  · by_cases hs : f ≠ 7 ∧ f ≠ 8 ∧ f ≠ 11
    · rw [TN_def hs] at h; exact (TK_ok S).pure f s h
    · have hs : f = 7 ∨ f = 8 ∨ f = 11 := by omega
      rcases hs with rfl | rfl | rfl
      · obtain rfl := pureF (s0 := pWord w) h
        intro args K z hk
        unfold pWord at hk
        split at hk
        · obtain ⟨h1, q⟩ := word_m1 ‹List Nat›
          refine ⟨_, hk, fun base h => ?_⟩
          simp only [gL, g, h0, hw]
          exact mc_pure rfl rfl q base h
        · cases hk
      · obtain rfl := pureF (s0 := pWiN i j) h
        intro args K z hk
        unfold pWiN at hk
        split at hk
        · obtain ⟨h1, q⟩ := hii
          refine ⟨_, hk, fun base h => ?_⟩
          simp only [gL, g, gI, hn0]
          exact mc_pure rfl rfl q base h
        · obtain ⟨h1, q⟩ := hij
          refine ⟨_, hk, fun base h => ?_⟩
          simp only [gL, g, gI, hn1]
          exact mc_pure rfl rfl q base h
        · cases hk
      · obtain rfl := pureF (s0 := pKnown) h
        intro args K z hk
        unfold pKnown at hk
        split at hk
        · obtain ⟨h1, q⟩ := known_m1 S
          exact ⟨_, hk, fun base h => mc_pure rfl rfl q base h⟩
        · cases hk
def nuN (n1 n2 : Int) (q : Nat) : Int := if q = 5000 then n1 else if q = 5001 then n2 else Int.ofNat (q % 1048576)
def sgN (s : List Nat) (n1 n2 : Int) : Sg where
  σ := fun i => (lets 9 (s.take 9)).getD i 97
  ω := fun j => if j = 0 then .str s else if 1048576 ≤ j then .str (List.replicate (j % 1048576) 0) else .vs false (List.replicate j [])
  lo := fun i => by
    rw [List.getD_eq_getElem?_getD]
    cases h : (lets 9 (s.take 9))[i]? with
    | none => exact Nat.le_refl _
    | some x => exact (lets_range _ _ x (List.mem_of_getElem? h)).1
  hi := fun i => by
    rw [List.getD_eq_getElem?_getD]
    cases h : (lets 9 (s.take 9))[i]? with
    | none => decide
    | some x => exact (lets_range _ _ x (List.mem_of_getElem? h)).2
  ν := nuN n1 n2
  md := fun q m h1 h2 => by
    unfold nuN
    rw [if_neg (by intro e; subst e; omega), if_neg (by intro e; subst e; omega)]
    show Int.ofNat (q % 1048576 % m) = _
    rw [Nat.mod_eq_of_lt h2]
  st := fun j hj => by
    refine ⟨List.replicate (j % 1048576) 0, by rw [if_neg (by omega), if_pos hj], ?_⟩
    rw [List.length_replicate]
    unfold nuN
    rw [if_neg (by omega), if_neg (by omega)]
    rfl
  sl := fun j hj => by
    refine ⟨false, List.replicate (j + 1) [], by rw [if_neg (by omega), if_neg (by omega)], ?_⟩
    rw [List.length_replicate]
    unfold nuN
    rw [if_neg (by omega), if_neg (by omega), Nat.mod_eq_of_lt (by omega)]
    rfl
theorem masonReopens_m1 (s : List Nat) (n1 n2 : Int) : ∃ h', From fun m => Am.callF fnsM (exec fnsM m) 3 [.int .i64 n1, .int .i64 n2, .str s] 0 H.emp = some (.bool true, h') := by
  obtain ⟨i, hi, hini⟩ := withinN5_m1 n1
  obtain ⟨j, hj, hinj⟩ := withinN4_m1 n2
  obtain ⟨S, hS⟩ : ∃ S, S = sgN s n1 n2 := ⟨_, rfl⟩
  have h0 : S.ω 0 = .str s := by rw [hS]; rfl
  have hσ : ∀ j, S.σ j = (lets 9 (s.take 9)).getD j 97 := fun j => by rw [hS]; rfl
  have hn0 : S.ν 5000 = n1 := by rw [hS]; rfl
  have hn1 : S.ν 5001 = n2 := by rw [hS]; rfl
  clear hS
  have hlen : (lets 9 (s.take 9)).length < 10 := by
    have := lets_len 9 (s.take 9)
    rw [List.length_take] at this
    omega
  have ok := TN_ok S (w := wF (lets 9 (s.take 9)).length) (i := i) (j := j) h0 (wF_map hσ) hn0 hn1 hini hinj
  have run : isT (rowRunN (lets 9 (s.take 9)).length i j) = 1 := runN_cases _ i j hi hj hlen
  obtain ⟨fh, hk⟩ := isT_some run
  obtain ⟨v, fh', h', k1, k2, k3⟩ := callF_ok ok 60 0 .emp _ .wr 3 [.int .i64 (.num 5000), .int .i64 (.num 5001), .opq 0] _ H.emp hk HR.emp
  simp only [Option.some.injEq, Prod.mk.injEq] at k1
  obtain ⟨rfl, _⟩ := k1
  have e : gL S [.int .i64 (.num 5000), .int .i64 (.num 5001), .opq 0] = [.int .i64 n1, .int .i64 n2, .str s] := by simp only [gL, g, gI, h0, hn0, hn1]
  rw [e] at k3
  exact ⟨h', k3⟩
theorem masonReopens_tie {W : World} {m : Int} (hm : W.cell? ⟨2, 0, none⟩ = some (.int .i64 m)) (s : ByteArray) (n1 n2 : Int) : Calls Go.Proofs.Tryz.prog 3 #[.int .i64 n1, .int .i64 n2, .string s] W fun e W' => e = .returned (.bool true) ∧ Stays W W' := by
  obtain ⟨h', N, q⟩ := masonReopens_m1 (bytesOf s) n1 n2
  have h := acall_sim (pw := pwOf W) (fnsM_ok (maxL_of hm)) (n := N) (q N (Nat.le_refl _)) (.cons _ _ _ _ (.cell _ _ (.int _ _)) (.cons _ _ _ _ (.cell _ _ (.int _ _)) (.cons _ _ _ _ (.cell _ _ (.str s)) .nil))) (rel_imm W (I := fun _ => none) (fun b cells e => by cases e))
  rcases h with ⟨-, h⟩ | ⟨v, w', h, -⟩
  · refine h.mono fun e W' ⟨G', v', _, he, hv', r⟩ => ?_
    cases hv' with | cell _ _ hv' =>
    cases hv'
    exact ⟨he, fun b x hb => r.pwh b x hb, r.io⟩
  · have hc : (callFunc 3 #[.int .i64 n1, .int .i64 n2, .string s]).run Go.Proofs.Tryz.prog W = .ok (.enter 3 #[.int .i64 n1, .int .i64 n2, .string s]) W := by kernel_rfl
    exact absurd (h.symm.trans hc) (by simp)
end Go.Am
