/- Parts of an abstract machine and its proofs: LkP. -/
import Derived.Test.YtakfgolgfgdeaaaGreatDoorMaP
import Derived.Test.YtakfgolgfgdeaaaGreatDoorLkK0
import Derived.Test.YtakfgolgfgdeaaaGreatDoorLkK1
import Derived.Test.YtakfgolgfgdeaaaGreatDoorLkK2
import Derived.Test.YtakfgolgfgdeaaaGreatDoorLkK3
import Derived.Test.YtakfgolgfgdeaaaGreatDoorLkK4
import Derived.Test.YtakfgolgfgdeaaaGreatDoorLkK5
import Derived.Test.YtakfgolgfgdeaaaGreatDoorLkK6
import Derived.Test.YtakfgolgfgdeaaaGreatDoorLkK7
import Derived.Test.YtakfgolgfgdeaaaGreatDoorLkK8
import Derived.Test.YtakfgolgfgdeaaaGreatDoorLkK9
import Derived.Test.YtakfgolgfgdeaaaGreatDoorLkK10
import Derived.Test.YtakfgolgfgdeaaaGreatDoorLkK11
import Derived.Test.YtakfgolgfgdeaaaGreatDoorLkK12
import Derived.ProofKit

set_option linter.unusedSimpArgs false
set_option linter.unusedVariables false
namespace Go.Am
open Go.Fm
open Go (IntKind)
theorem runN_cases (n i : Nat) (hi : i ≤ 12) (hn : n < 10) : isT (rowRunN n i) = 1 := by
  have q0 : i = 0 ∨ i = 1 ∨ i = 2 ∨ i = 3 ∨ i = 4 ∨ i = 5 ∨ i = 6 ∨ i = 7 ∨ i = 8 ∨ i = 9 ∨ i = 10 ∨ i = 11 ∨ i = 12 := by omega
  rcases q0 with rfl | rfl | rfl | rfl | rfl | rfl | rfl | rfl | rfl | rfl | rfl | rfl | rfl
  ·
    exact r_0 n hn
  ·
    exact r_1 n hn
  ·
    exact r_2 n hn
  ·
    exact r_3 n hn
  ·
    exact r_4 n hn
  ·
    exact r_5 n hn
  ·
    exact r_6 n hn
  ·
    exact r_7 n hn
  ·
    exact r_8 n hn
  ·
    exact r_9 n hn
  ·
    exact r_10 n hn
  ·
    exact r_11 n hn
  ·
    exact r_12 n hn
theorem Wi_tree12 (LK : LKT) (n : Int) : elV TW [] pu LK c_arbourbook_Within.body ([.int .i64 n, .int .i64 0, .int .i64 12] ++ undefsV 21) HV.emp (retV c_arbourbook_Within.res) =
    bif decide (n.tmod (IntKind.i64.wrap (IntKind.i64.wrap (12 - 0) + 1)) < 0) then
      some (V.int IntKind.i64 (IntKind.i64.wrap (0 + IntKind.i64.wrap (IntKind.i64.wrap (IntKind.i64.wrap (n.tmod 13 + 12) - 0) + 1))), (hL 0 (loL [])), [])
    else
      some (V.int IntKind.i64 (IntKind.i64.wrap (0 + n.tmod 13)), (hL 0 (loL [])), []) := by
  kernel_rfl
theorem within_run12 (LK : LKT) (n : Int) : ∃ i : Nat, i ≤ 12 ∧ elV TW [] pu LK c_arbourbook_Within.body ([.int .i64 n, .int .i64 0, .int .i64 12] ++ undefsV 21) HV.emp (retV c_arbourbook_Within.res) = some (.int .i64 (i : Int), HV.emp, []) := by
  rw [Wi_tree12]
  have h1 : IntKind.i64.wrap (IntKind.i64.wrap (12 - 0) + 1) = 13 := by decide +kernel
  rw [h1]
  have b1 : n.tmod 13 < 13 := Int.tmod_lt_of_pos n (by decide)
  have b2 : -13 < n.tmod 13 := by
    have := Int.tmod_lt_of_pos (-n) (show (0 : Int) < 13 by decide)
    rw [Int.neg_tmod] at this
    omega
  generalize n.tmod 13 = x at b1 b2
  by_cases hx : x < 0
  · refine ⟨(x + 13).toNat, by omega, ?_⟩
    rw [decide_eq_true hx, cond_true]
    simp only [IntKind.wrap_i64]
    have h3 : ((0 + (((((x + 12 + 9223372036854775808) % 18446744073709551616 - 9223372036854775808) - 0 + 9223372036854775808) % 18446744073709551616 - 9223372036854775808) + 1 + 9223372036854775808) % 18446744073709551616 - 9223372036854775808) + 9223372036854775808) % 18446744073709551616 - 9223372036854775808 = ((x + 13).toNat : Int) := by omega
    first | (rw [h3]; rfl) | (congr 3; omega)
  · refine ⟨x.toNat, by omega, ?_⟩
    rw [decide_eq_false hx, cond_false]
    simp only [IntKind.wrap_i64]
    have h3 : ((0 + x + 9223372036854775808) % 18446744073709551616 - 9223372036854775808) = (x.toNat : Int) := by omega
    first | (rw [h3]; rfl) | (congr 3; omega)
theorem withinN12_m1 (n : Int) : ∃ i : Nat, i ≤ 12 ∧ ∃ h1, From fun m => Am.callF fnsM (exec fnsM m) 11 [.int .i64 n, .int .i64 0, .int .i64 12] 0 H.emp = some (.int .i64 (i : Int), h1) := by
  obtain ⟨i, hi, hr⟩ := within_run12 (lpV TW [] pu 0) n
  obtain ⟨v1, h1, θ, q1, q2, _, _⟩ := fun_ok good_TW (f := 11) (fn := c_arbourbook_Within) rfl (ba := pu) (fr := []) (n := 0) (.inr rfl) hr (fun _ => none) 0 [.int .i64 n, .int .i64 0, .int .i64 12] H.emp
    (.cons (.flat (.cell (.int _ _))) (.cons (.flat (.cell (.int _ _))) (.cons (.flat (.cell (.int _ _))) .nil))) RH.emp
  cases q2 with | flat q2 =>
  cases q2 with | cell q2 =>
  cases q2
  exact ⟨i, hi, h1, q1⟩
theorem TN_def {w : List FB} {i : Nat} {n : Nat} (h : n ≠ 10 ∧ n ≠ 11 ∧ n ≠ 14) : TN w i n = TK n := by
  unfold TN
  split <;> first | rfl | (exfalso; omega)
theorem TN_ok (S : Sg) {w : List FB} {i : Nat} {s : List Nat} {n1 : Int} (h0 : S.ω 0 = .str s) (hw : w.map (gB S) = 119 :: lets 9 (s.take 9)) (hn0 : S.ν 5000 = n1)
    (hii : ∃ h1, From fun m => Am.callF fnsM (exec fnsM m) 11 [.int .i64 n1, .int .i64 0, .int .i64 12] 0 H.emp = some (.int .i64 (i : Int), h1)) : TabOK S fnsM (TN w i) := by
  refine ⟨fun f p fn h => ?_, fun f s h args => ?_, fun f s h => ?_⟩
  · by_cases hs : f ≠ 10 ∧ f ≠ 11 ∧ f ≠ 14
    · rw [TN_def hs] at h; exact (TK_ok S).code f p fn h
    · have hs : f = 10 ∨ f = 11 ∨ f = 14 := by omega
      rcases hs with rfl | rfl | rfl <;> cases (show some (FFn.pure _) = some (.code p fn) from h)
  · by_cases hs : f ≠ 10 ∧ f ≠ 11 ∧ f ≠ 14
    · rw [TN_def hs] at h; exact (TK_ok S).spec f s h args
    · have hs : f = 10 ∨ f = 11 ∨ f = 14 := by omega
      rcases hs with rfl | rfl | rfl <;> cases (show some (FFn.pure _) = some (.spec s) from h)
  · by_cases hs : f ≠ 10 ∧ f ≠ 11 ∧ f ≠ 14
    · rw [TN_def hs] at h; exact (TK_ok S).pure f s h
    · have hs : f = 10 ∨ f = 11 ∨ f = 14 := by omega
      rcases hs with rfl | rfl | rfl
      · obtain rfl := pureF (s0 := pWord w) h
        intro args K z hk
        unfold pWord at hk
        split at hk
        · obtain ⟨h1, q⟩ := word_m1 ‹List Nat›
          refine ⟨_, hk, fun base h => ?_⟩
          simp only [gL, g, h0, hw]
          exact mc_pure rfl rfl q base h
        · cases hk
      · obtain rfl := pureF (s0 := pWiN i) h
        intro args K z hk
        unfold pWiN at hk
        split at hk
        · obtain ⟨h1, q⟩ := hii
          refine ⟨_, hk, fun base h => ?_⟩
          simp only [gL, g, gI, hn0]
          exact mc_pure rfl rfl q base h
        · cases hk
      · obtain rfl := pureF (s0 := pKnown) h
        intro args K z hk
        unfold pKnown at hk
        split at hk
        · obtain ⟨h1, q⟩ := known_m1 S
          exact ⟨_, hk, fun base h => mc_pure rfl rfl q base h⟩
        · cases hk
def nuN (n1 : Int) (q : Nat) : Int := if q = 5000 then n1 else Int.ofNat (q % 1048576)
def sgN (s : List Nat) (n1 : Int) : Sg where
  σ := fun i => (lets 9 (s.take 9)).getD i 97
  ω := fun j => if j = 0 then .str s else if 1048576 ≤ j then .str (List.replicate (j % 1048576) 0) else .vs false (List.replicate j [])
  lo := fun i => by
    rw [List.getD_eq_getElem?_getD]
    cases h : (lets 9 (s.take 9))[i]? with
    | none => exact Nat.le_refl _
    | some x => exact (lets_range _ _ x (List.mem_of_getElem? h)).1
  hi := fun i => by
    rw [List.getD_eq_getElem?_getD]
    cases h : (lets 9 (s.take 9))[i]? with
    | none => decide
    | some x => exact (lets_range _ _ x (List.mem_of_getElem? h)).2
  ν := nuN n1
  md := fun q m h1 h2 => by
    unfold nuN
    rw [if_neg (by intro e; subst e; omega)]
    show Int.ofNat (q % 1048576 % m) = _
    rw [Nat.mod_eq_of_lt h2]
  st := fun j hj => by
    refine ⟨List.replicate (j % 1048576) 0, by rw [if_neg (by omega), if_pos hj], ?_⟩
    rw [List.length_replicate]
    unfold nuN
    rw [if_neg (by omega)]
    rfl
  sl := fun j hj => by
    refine ⟨false, List.replicate (j + 1) [], by rw [if_neg (by omega), if_neg (by omega)], ?_⟩
    rw [List.length_replicate]
    unfold nuN
    rw [if_neg (by omega), Nat.mod_eq_of_lt (by omega)]
    rfl
theorem masonLinks_m1 (s : List Nat) (n1 : Int) : ∃ h', From fun m => Am.callF fnsM (exec fnsM m) 6 [.int .i64 n1, .str s] 0 H.emp = some (.bool true, h') := by
  obtain ⟨i, hi, hini⟩ := withinN12_m1 n1
  obtain ⟨S, hS⟩ : ∃ S, S = sgN s n1 := ⟨_, rfl⟩
  have h0 : S.ω 0 = .str s := by rw [hS]; rfl
  have hσ : ∀ j, S.σ j = (lets 9 (s.take 9)).getD j 97 := fun j => by rw [hS]; rfl
  have hn0 : S.ν 5000 = n1 := by rw [hS]; rfl
  clear hS
  have hlen : (lets 9 (s.take 9)).length < 10 := by
    have := lets_len 9 (s.take 9)
    rw [List.length_take] at this
    omega
  have ok := TN_ok S (w := wF (lets 9 (s.take 9)).length) (i := i) h0 (wF_map hσ) hn0 hini
  have run : isT (rowRunN (lets 9 (s.take 9)).length i) = 1 := runN_cases _ i hi hlen
  obtain ⟨fh, hk⟩ := isT_some run
  obtain ⟨v, fh', h', k1, k2, k3⟩ := callF_ok ok 60 0 .emp _ .wr 6 [.int .i64 (.num 5000), .opq 0] _ H.emp hk HR.emp
  simp only [Option.some.injEq, Prod.mk.injEq] at k1
  obtain ⟨rfl, _⟩ := k1
  have e : gL S [.int .i64 (.num 5000), .opq 0] = [.int .i64 n1, .str s] := by simp only [gL, g, gI, h0, hn0]
  rw [e] at k3
  exact ⟨h', k3⟩
theorem masonLinks_tie {W : World} {m : Int} (hm : W.cell? ⟨2, 0, none⟩ = some (.int .i64 m)) (s : ByteArray) (n1 : Int) : Calls Go.Proofs.Tryz.prog 6 #[.int .i64 n1, .string s] W fun e W' => e = .returned (.bool true) ∧ Stays W W' := by
  obtain ⟨h', N, q⟩ := masonLinks_m1 (bytesOf s) n1
  have h := acall_sim (pw := pwOf W) (fnsM_ok (maxL_of hm)) (n := N) (q N (Nat.le_refl _)) (.cons _ _ _ _ (.cell _ _ (.int _ _)) (.cons _ _ _ _ (.cell _ _ (.str s)) .nil)) (rel_imm W (I := fun _ => none) (fun b cells e => by cases e))
  rcases h with ⟨-, h⟩ | ⟨v, w', h, -⟩
  · refine h.mono fun e W' ⟨G', v', _, he, hv', r⟩ => ?_
    cases hv' with | cell _ _ hv' =>
    cases hv'
    exact ⟨he, fun b x hb => r.pwh b x hb, r.io⟩
  · have hc : (callFunc 6 #[.int .i64 n1, .string s]).run Go.Proofs.Tryz.prog W = .ok (.enter 6 #[.int .i64 n1, .string s]) W := by kernel_rfl
    exact absurd (h.symm.trans hc) (by simp)
end Go.Am
