/- Parts of an abstract machine and its proofs: MaW. -/
import Derived.Test.YtcgejflifhjajaaGreatDoorAmAm
import Derived.Test.YtcgejflifhjajaaGreatDoorAmV2
import Derived.KernelRfl
import Derived.Laws.BitsLemmas

set_option linter.unusedSimpArgs false
set_option linter.unusedVariables false
namespace Go.Am
def c_arbourkeep_Head : AFun := ⟨13, [.slot 4],
  .seq (.region [(0, ⟨some 4, .mov (.c (.str [])), none⟩)] [])
  (.seq (.seq (.region [(0, ⟨some 5, .mov (.s 0), none⟩),
    (1, ⟨some 6, .len true (.s 5), none⟩),
    (2, ⟨some 7, .mov (.s 1), none⟩),
    (3, ⟨some 8, .bin .gtr (.s 6) (.s 7), none⟩)] [])
  (.cond (.s 8)
  (.seq (.region [(0, ⟨some 9, .mov (.s 0), none⟩),
    (1, ⟨some 10, .mov (.s 1), none⟩),
    (2, ⟨some 11, .slice (.s 9) 0 none (some (.s 10)) none, none⟩),
    (3, ⟨some 4, .mov (.s 11), none⟩)] [])
  (.seq (.ghost (.keep [4])) .ret))
  .skip))
  (.seq (.region [(0, ⟨some 12, .mov (.s 0), none⟩),
    (1, ⟨some 4, .mov (.s 12), none⟩)] [])
  (.seq (.ghost (.keep [4])) .ret)))⟩
def c_arbourbook_Within : AFun := ⟨24, [.slot 6],
  .seq (.region [(0, ⟨some 6, .mov (.c (.int .i64 0)), none⟩)] [])
  (.seq (.region [(0, ⟨some 7, .mov (.s 0), none⟩),
    (1, ⟨some 8, .mov (.s 2), none⟩),
    (2, ⟨some 9, .mov (.s 1), none⟩),
    (3, ⟨some 10, .bin .sub (.s 8) (.s 9), none⟩),
    (4, ⟨some 11, .bin .add (.s 10) (.c (.int .i64 1)), none⟩),
    (5, ⟨some 12, .bin .rem (.s 7) (.s 11), none⟩),
    (6, ⟨some 0, .mov (.s 12), none⟩)] [])
  (.seq (.seq (.region [(0, ⟨some 13, .mov (.s 0), none⟩),
    (1, ⟨some 14, .bin .lss (.s 13) (.c (.int .i64 0)), none⟩)] [])
  (.cond (.s 14)
  (.region [(0, ⟨some 15, .mov (.s 0), none⟩),
    (1, ⟨some 16, .mov (.s 2), none⟩),
    (2, ⟨some 17, .bin .add (.s 15) (.s 16), none⟩),
    (3, ⟨some 18, .mov (.s 1), none⟩),
    (4, ⟨some 19, .bin .sub (.s 17) (.s 18), none⟩),
    (5, ⟨some 20, .bin .add (.s 19) (.c (.int .i64 1)), none⟩),
    (6, ⟨some 0, .mov (.s 20), none⟩)] [])
  .skip))
  (.seq (.region [(0, ⟨some 21, .mov (.s 1), none⟩),
    (1, ⟨some 22, .mov (.s 0), none⟩),
    (2, ⟨some 23, .bin .add (.s 21) (.s 22), none⟩),
    (3, ⟨some 6, .mov (.s 23), none⟩)] [])
  (.seq (.ghost (.keep [6])) .ret))))⟩
def l_arbourlaw22_word_0 : ACode := .seq (.ghost (.keep [3, 8]))
  (.seq (.seq (.region [(0, ⟨some 9, .next (.s 8), none⟩),
    (1, ⟨some 10, .extract (.s 9) 0, none⟩)] [])
  (.seq (.cond (.s 10)
  .skip
  (.seq (.ghost (.keep [3])) (.exit 0)))
  (.block 1 (.seq (.region [(0, ⟨some 11, .extract (.s 9) 2, none⟩),
    (1, ⟨some 5, .mov (.s 11), none⟩)] [])
  (.seq (.region [(0, ⟨some 12, .mov (.s 5), none⟩),
    (1, ⟨some 13, .bin .geq (.s 12) (.c (.int .i32 97)), none⟩),
    (2, ⟨some 14, .mov (.s 13), none⟩),
    (3, ⟨some 15, .mov (.s 5), (some (14, true))⟩),
    (4, ⟨some 16, .bin .leq (.s 15) (.c (.int .i32 122)), (some (14, true))⟩),
    (5, ⟨some 17, .pick (.s 14) (.s 16) (.c (.bool false)), none⟩)] [])
  (.cond (.s 17)
  (.region [(0, ⟨some 18, .mov (.s 3), none⟩),
    (1, ⟨some 19, .mov (.s 5), none⟩),
    (2, ⟨some 20, .conv (.i2s) (.s 19), none⟩),
    (3, ⟨some 21, .bin .add (.s 18) (.s 20), none⟩),
    (4, ⟨some 3, .mov (.s 21), none⟩)] [])
  .skip))))))
  (.ghost (.keep [3, 8])))
def c_arbourlaw22_word : AFun := ⟨23, [.slot 2],
  .seq (.region [(0, ⟨some 2, .mov (.c (.str [])), none⟩)] [])
  (.seq (.region [(0, ⟨some 3, .mov (.c (.str [119])), none⟩)] [])
  (.seq (.seq (.region [(0, ⟨some 6, .mov (.s 0), none⟩),
    (1, ⟨some 7, .call .pure 20 [(.s 6), (.c (.int .i64 9))] [], none⟩),
    (2, ⟨some 8, .range (.s 7), none⟩)] [])
  (.seq (.ghost (.keep [3, 8])) (.block 0 (.loop l_arbourlaw22_word_0))))
  (.seq (.region [(0, ⟨some 22, .mov (.s 3), none⟩),
    (1, ⟨some 2, .mov (.s 22), none⟩)] [])
  (.seq (.ghost (.keep [2])) .ret))))⟩
end Go.Am
namespace Go.Am
def mkE (n : Nat) (l : List (Nat × V)) : List V := l.foldl (fun e p => e.set p.1 p.2) (List.replicate n .any)
def loL (l : List (Nat × O2)) : Tq O2 := l.foldl (fun t p => t.set p.1 (some p.2)) .lf
def hL (n : Nat) (lo : Tq O2) : HV := ⟨n, .lf, .lf, lo⟩
def pu : Ba := ⟨0, false⟩
abbrev LKT := ACode → List V → HV → KT → Option RA
def run (T : TV) (n : Nat) (c : AFun) (vs : List V) : Option RA := elV T [] pu (lpV T [] pu n) c.body (vs ++ undefsV (c.slots - vs.length)) HV.emp (retV c.res)
def kS (T : TV) (fr : Fr) (ba : Ba) (LK : LKT) (b : ACode) (K : KT) : KT := fun x e h => match x with
  | .normal => elV T fr ba LK b e h K
  | x => K x e h
def kB (i : Nat) (K : KT) : KT := fun x e h => match x with
  | .exit j => bif j.beq i then K .normal e h else K (.exit j) e h
  | x => K x e h
def kL (T : TV) (fr : Fr) (ba : Ba) (n : Nat) (a : ACode) (K : KT) : KT := fun x e h => match x with
  | .normal => lpV T fr ba n a e h K
  | x => K x e h
theorem lpV_succ (T : TV) (fr : Fr) (ba : Ba) (n : Nat) (a : ACode) (e : List V) (h : HV) (K : KT) :
    lpV T fr ba (n + 1) a e h K = elV T fr ba (lpV T fr ba n) a e h (kL T fr ba n a K) := rfl
theorem kL_n (T : TV) (fr : Fr) (ba : Ba) (n : Nat) (a : ACode) (e : List V) (h : HV) (K : KT) : kL T fr ba n a K .normal e h = lpV T fr ba n a e h K := rfl
theorem kL_e (T : TV) (fr : Fr) (ba : Ba) (n : Nat) (a : ACode) (e : List V) (h : HV) (K : KT) (i : Nat) : kL T fr ba n a K (.exit i) e h = K (.exit i) e h := rfl
theorem kL_r (T : TV) (fr : Fr) (ba : Ba) (n : Nat) (a : ACode) (e : List V) (h : HV) (K : KT) : kL T fr ba n a K .ret e h = K .ret e h := rfl
def ACode.fst : ACode → ACode
  | .seq a _ => a
  | _ => .skip
def ACode.snd : ACode → ACode
  | .seq _ b => b
  | _ => .skip
theorem decode_cases (s : List Nat) : (decode s = (s.getD 0 0, 1) ∧ s.getD 0 0 < 128) ∨ (128 ≤ s.getD 0 0 ∧ 128 ≤ (decode s).1 ∧ 1 ≤ (decode s).2 ∧ ∀ j, 1 ≤ j → j < (decode s).2 → j < s.length ∧ 128 ≤ s.getD j 0) := by
  have cont : ∀ k, (decide (k < s.length) && (s.getD k 0 / 64 == 2)) = true → k < s.length ∧ 128 ≤ s.getD k 0 := by
    intro k hk
    simp only [Bool.and_eq_true, decide_eq_true_eq, beq_iff_eq] at hk
    exact ⟨hk.1, by omega⟩
  unfold decode
  simp only
  split
  · rename_i h; exact .inl ⟨rfl, h⟩
  · rename_i h
    right
    refine ⟨by omega, ?_⟩
    split
    · rename_i h2
      simp only [Bool.and_eq_true] at h2
      have c1 := cont 1 (by simpa using h2.2)
      split
      · rename_i h3
        exact ⟨h3, by simp, fun j h4 h5 => by have : j = 1 := by omega
                                              subst this; exact c1⟩
      · exact ⟨by simp, by simp, fun j h4 h5 => by omega⟩
    · split
      · rename_i h2
        simp only [Bool.and_eq_true] at h2
        have c1 := cont 1 (by simpa using h2.1.2)
        have c2 := cont 2 (by simpa using h2.2)
        split
        · rename_i h3
          simp only [Bool.and_eq_true, decide_eq_true_eq] at h3
          refine ⟨by omega, by simp, fun j h4 h5 => ?_⟩
          rcases (show j = 1 ∨ j = 2 by omega) with rfl | rfl
          · exact c1
          · exact c2
        · exact ⟨by simp, by simp, fun j h4 h5 => by omega⟩
      · split
        · rename_i h2
          simp only [Bool.and_eq_true] at h2
          have c1 := cont 1 (by simpa using h2.1.1.2)
          have c2 := cont 2 (by simpa using h2.1.2)
          have c3 := cont 3 (by simpa using h2.2)
          split
          · rename_i h3
            simp only [Bool.and_eq_true, decide_eq_true_eq] at h3
            refine ⟨by omega, by simp, fun j h4 h5 => ?_⟩
            rcases (show j = 1 ∨ j = 2 ∨ j = 3 by omega) with rfl | rfl | rfl
            · exact c1
            · exact c2
            · exact c3
          · exact ⟨by simp, by simp, fun j h4 h5 => by omega⟩
        · exact ⟨by simp, by simp, fun j h4 h5 => by omega⟩
theorem decode_width2 (b : Nat) (bs : List Nat) : 1 ≤ (decode (b :: bs)).2 ∧ (decode (b :: bs)).2 ≤ (b :: bs).length := by
  rcases decode_cases (b :: bs) with ⟨h, _⟩ | ⟨_, _, h1, h2⟩
  · rw [h]; simp
  · refine ⟨h1, ?_⟩
    by_cases hw : (decode (b :: bs)).2 ≤ 1
    · simp; omega
    · have := (h2 ((decode (b :: bs)).2 - 1) (by omega) (by omega)).1
      omega
theorem Head_run (T : TV) (LK : LKT) (s : List Nat) (n : Nat) : elV T [] pu LK c_arbourkeep_Head.body ([.str s, .int .i64 (.ofNat n)] ++ undefsV 11) HV.emp (retV c_arbourkeep_Head.res) = some (.str (s.take n), HV.emp, []) := by
  have h : elV T [] pu LK c_arbourkeep_Head.body ([.str s, .int .i64 (.ofNat n)] ++ undefsV 11) HV.emp (retV c_arbourkeep_Head.res) =
    bif decide (↑s.length > Int.ofNat n) then
        bif n.ble s.length then
          some (V.str (List.take n s), (hL 0 (loL [])), [])
        else
          none
      else
        some (V.str s, (hL 0 (loL [])), []) := by kernel_rfl
  rw [h]
  by_cases hn : n < s.length
  · have h1 : decide (((s.length : Nat) : Int) > Int.ofNat n) = true := by simp; omega
    have h2 : n.ble s.length = true := by simp; omega
    rw [h1, h2]; rfl
  · have h1 : decide (((s.length : Nat) : Int) > Int.ofNat n) = false := by simp; omega
    rw [h1, List.take_of_length_le (by omega)]; rfl
def TW : TV := fun k f vs _ h _ K => match k, f, vs with
  | .pure, 20, [.str s, .int .i64 (.ofNat n)] => K (.str (s.take n)) h []
  | _, _, _ => none
end Go.Am
namespace Go.Am
def lets : Nat → List Nat → List Nat
  | 0, _ => []
  | _ + 1, [] => []
  | f + 1, b :: bs => (if 97 ≤ (decode (b :: bs)).1 ∧ (decode (b :: bs)).1 ≤ 122 then [(decode (b :: bs)).1] else []) ++ lets f ((b :: bs).drop (decode (b :: bs)).2)
theorem lets_range : ∀ (f : Nat) (s : List Nat), ∀ x ∈ lets f s, 97 ≤ x ∧ x ≤ 122
  | 0, _, x, h => by cases h
  | _ + 1, [], x, h => by cases h
  | f + 1, b :: bs, x, h => by
    simp only [lets, List.mem_append] at h
    rcases h with h | h
    · split at h
      · rename_i hc; rw [List.mem_singleton] at h; subst h; exact hc
      · cases h
    · exact lets_range f _ x h
theorem lets_len : ∀ (f : Nat) (s : List Nat), (lets f s).length ≤ s.length
  | 0, _ => Nat.zero_le _
  | _ + 1, [] => Nat.zero_le _
  | f + 1, b :: bs => by
    have := lets_len f ((b :: bs).drop (decode (b :: bs)).2)
    obtain ⟨w1, w2⟩ := decode_width2 b bs
    simp only [lets, List.length_append, List.length_drop, List.length_cons] at this w2 ⊢
    split
    · simp only [List.length_cons, List.length_nil]; omega
    · simp only [List.length_nil]; omega
theorem utf8_letter {n : Nat} (h1 : 97 ≤ n) (h2 : n ≤ 122) : utf8 (Int.ofNat n) = [n] := by
  have h : n = 97 ∨ n = 98 ∨ n = 99 ∨ n = 100 ∨ n = 101 ∨ n = 102 ∨ n = 103 ∨ n = 104 ∨ n = 105 ∨ n = 106 ∨ n = 107 ∨ n = 108 ∨ n = 109 ∨ n = 110 ∨ n = 111 ∨ n = 112 ∨ n = 113 ∨ n = 114 ∨ n = 115 ∨ n = 116 ∨ n = 117 ∨ n = 118 ∨ n = 119 ∨ n = 120 ∨ n = 121 ∨ n = 122 := by omega
  rcases h with h | h | h | h | h | h | h | h | h | h | h | h | h | h | h | h | h | h | h | h | h | h | h | h | h | h <;> subst h <;> decide +kernel
def l_gen (cv : ACode) : ACode := .seq (.ghost (.keep [3, 8]))
  (.seq (.seq (.region [(0, ⟨some 9, .next (.s 8), none⟩),
    (1, ⟨some 10, .extract (.s 9) 0, none⟩)] [])
  (.seq (.cond (.s 10)
  .skip
  (.seq (.ghost (.keep [3])) (.exit 0)))
  (.block 1 (.seq (.region [(0, ⟨some 11, .extract (.s 9) 2, none⟩),
    (1, ⟨some 5, .mov (.s 11), none⟩)] []) cv))))
  (.ghost (.keep [3, 8])))
def cR4 : ACode := (.region [(0, ⟨some 18, .mov (.s 3), none⟩),
    (1, ⟨some 19, .mov (.s 5), none⟩),
    (2, ⟨some 20, .conv (.i2s) (.s 19), none⟩),
    (3, ⟨some 21, .bin .add (.s 18) (.s 20), none⟩),
    (4, ⟨some 3, .mov (.s 21), none⟩)] [])
def cR3 : ACode := (.seq (.region [(0, ⟨some 12, .mov (.s 5), none⟩),
    (1, ⟨some 13, .bin .geq (.s 12) (.c (.int .i32 97)), none⟩),
    (2, ⟨some 14, .mov (.s 13), none⟩),
    (3, ⟨some 15, .mov (.s 5), (some (14, true))⟩),
    (4, ⟨some 16, .bin .leq (.s 15) (.c (.int .i32 122)), (some (14, true))⟩),
    (5, ⟨some 17, .pick (.s 14) (.s 16) (.c (.bool false)), none⟩)] [])
  (.cond (.s 17) cR4 .skip))
theorem gen_eq : l_arbourlaw22_word_0 = l_gen cR3 := rfl
theorem W_s1 (cv : ACode) (LK : LKT) (K : KT) (x : List Nat) (b : Nat) (bs : List Nat) (pos : Nat) : elV TW [] pu LK (l_gen cv) (mkE 23 [(3, .str x), (8, .ptr (.loc 8) 0)]) (hL 0 (loL [(8, .iter (b :: bs) pos)])) K =
   elV TW [] pu LK cv (mkE 23 [(3, .str x), (5, .int .i32 (Int.ofNat (decode (b :: bs)).fst)), (8, .ptr (.loc 8) 0), (9, .tup [.bool true, .int .i64 (Int.ofNat pos), .int .i32 (Int.ofNat (decode (b :: bs)).fst)]), (10, .bool true), (11, .int .i32 (Int.ofNat (decode (b :: bs)).fst))]) (hL 0 (loL [(8, O2.iter (List.drop (decode (b :: bs)).snd (b :: bs)) (pos + (decode (b :: bs)).snd))]))
     (kB 1 (kS TW [] pu LK (.ghost (.keep [3, 8])) K)) := by
  kernel_rfl
theorem W_s2 (LK : LKT) (K : KT) (x : List Nat) (r : Int) (p : Nat) (rest : List Nat) (q : Nat) : elV TW [] pu LK cR3 (mkE 23 [(3, .str x), (5, .int .i32 r), (8, .ptr (.loc 8) 0), (9, .tup [.bool true, .int .i64 (Int.ofNat p), .int .i32 r]), (10, .bool true), (11, .int .i32 r)]) (hL 0 (loL [(8, O2.iter rest q)]))
     (kB 1 (kS TW [] pu LK (.ghost (.keep [3, 8])) K)) =
    bif decide (r ≥ 97) then
      bif decide (r ≤ 122) then
        bif (x.length + (utf8 r).length).ble 9223372036854775807 then
          K (AEx.normal) (mkE 23 [(3, V.str (x ++ utf8 r)), (8, V.ptr (Cd.loc 8) 0)]) (hL 0 (loL [(8, O2.iter rest q)]))
        else
          none
      else
        K (AEx.normal) (mkE 23 [(3, V.str x), (8, V.ptr (Cd.loc 8) 0)]) (hL 0 (loL [(8, O2.iter rest q)]))
    else
      K (AEx.normal) (mkE 23 [(3, V.str x), (8, V.ptr (Cd.loc 8) 0)]) (hL 0 (loL [(8, O2.iter rest q)])) := by
  kernel_rfl
theorem W_step (LK : LKT) (K : KT) (x : List Nat) (b : Nat) (bs : List Nat) (pos : Nat) (r : Int) (hr : r = Int.ofNat (decode (b :: bs)).fst) (rest : List Nat) (hrest : rest = List.drop (decode (b :: bs)).snd (b :: bs)) (q : Nat) (hq : q = pos + (decode (b :: bs)).snd) : elV TW [] pu LK l_arbourlaw22_word_0 (mkE 23 [(3, .str x), (8, .ptr (.loc 8) 0)]) (hL 0 (loL [(8, .iter (b :: bs) pos)])) K =
    bif decide (r ≥ 97) then
      bif decide (r ≤ 122) then
        bif (x.length + (utf8 r).length).ble 9223372036854775807 then
          K (AEx.normal) (mkE 23 [(3, V.str (x ++ utf8 r)), (8, V.ptr (Cd.loc 8) 0)]) (hL 0 (loL [(8, O2.iter rest q)]))
        else
          none
      else
        K (AEx.normal) (mkE 23 [(3, V.str x), (8, V.ptr (Cd.loc 8) 0)]) (hL 0 (loL [(8, O2.iter rest q)]))
    else
      K (AEx.normal) (mkE 23 [(3, V.str x), (8, V.ptr (Cd.loc 8) 0)]) (hL 0 (loL [(8, O2.iter rest q)])) := by
  subst hr hrest hq
  rw [gen_eq, W_s1]
  exact W_s2 LK K x _ pos _ _
theorem W_end (LK : LKT) (K : KT) (x : List Nat) (pos : Nat) : elV TW [] pu LK l_arbourlaw22_word_0 (mkE 23 [(3, .str x), (8, .ptr (.loc 8) 0)]) (hL 0 (loL [(8, .iter [] pos)])) K = K (AEx.exit 0) (mkE 23 [(3, V.str x)]) (hL 0 (loL [])) := by
  kernel_rfl
theorem W_loop (K : KT) : ∀ (f : Nat) (rest x : List Nat) (pos : Nat), rest.length ≤ f → x.length + rest.length ≤ 1000 →
    lpV TW [] pu (f + 1) l_arbourlaw22_word_0 (mkE 23 [(3, .str x), (8, .ptr (.loc 8) 0)]) (hL 0 (loL [(8, .iter rest pos)])) K = K (.exit 0) (mkE 23 [(3, .str (x ++ lets f rest))]) (hL 0 (loL [])) := by
  intro f
  induction f with
  | zero =>
    intro rest x pos hl _
    have : rest = [] := List.length_eq_zero_iff.1 (by omega)
    subst this
    rw [lpV_succ, W_end, kL_e, lets, List.append_nil]
  | succ f ih =>
    intro rest x pos hl hx
    rw [lpV_succ]
    cases rest with
    | nil => rw [W_end, kL_e, lets, List.append_nil]
    | cons b bs =>
      obtain ⟨w1, w2⟩ := decode_width2 b bs
      rw [W_step _ _ _ _ _ _ _ rfl _ rfl _ rfl]
      have hd : ((b :: bs).drop (decode (b :: bs)).2).length ≤ f := by rw [List.length_drop]; simp only [List.length_cons] at hl ⊢; omega
      have hd2 : ((b :: bs).drop (decode (b :: bs)).2).length + 1 ≤ (b :: bs).length := by rw [List.length_drop]; omega
      simp only [lets]
      by_cases h1 : 97 ≤ (decode (b :: bs)).1
      · by_cases h2 : (decode (b :: bs)).1 ≤ 122
        · rw [decide_eq_true (by rw [Int.ofNat_eq_natCast]; omega : (Int.ofNat (decode (b :: bs)).1) ≥ 97), decide_eq_true (by rw [Int.ofNat_eq_natCast]; omega : (Int.ofNat (decode (b :: bs)).1) ≤ 122), utf8_letter h1 h2, if_pos ⟨h1, h2⟩]
          simp only [cond_true]
          have h3 : (x.length + [(decode (b :: bs)).fst].length).ble 9223372036854775807 = true := by
            rw [Nat.ble_eq]; simp only [List.length_cons, List.length_nil]; omega
          rw [h3]
          simp only [cond_true, kL_n]
          rw [ih _ _ _ hd (by rw [List.length_append]; simp only [List.length_cons, List.length_nil] at hx hd2 ⊢; omega), List.append_assoc]
        · rw [decide_eq_true (by rw [Int.ofNat_eq_natCast]; omega : (Int.ofNat (decode (b :: bs)).1) ≥ 97), decide_eq_false (by rw [Int.ofNat_eq_natCast]; omega : ¬ (Int.ofNat (decode (b :: bs)).1) ≤ 122), if_neg (fun h => h2 h.2)]
          simp only [cond_true, cond_false, kL_n, List.nil_append]
          exact ih _ _ _ hd (by omega)
      · rw [decide_eq_false (by rw [Int.ofNat_eq_natCast]; omega : ¬ (Int.ofNat (decode (b :: bs)).1) ≥ 97), if_neg (fun h => h1 h.1)]
        simp only [cond_false, kL_n, List.nil_append]
        exact ih _ _ _ hd (by omega)
theorem W_start (LK : LKT) (K : KT) (s : List Nat) : elV TW [] pu LK c_arbourlaw22_word.body ([.str s] ++ undefsV 22) HV.emp K =
    LK l_arbourlaw22_word_0 (mkE 23 [(3, V.str [119]), (8, V.ptr (Cd.loc 8) 0)]) (hL 0 (loL [(8, O2.iter (List.take 9 s) 0)])) (kB 0 (kS TW [] pu LK c_arbourlaw22_word.body.snd.snd.snd K)) := by
  kernel_rfl
theorem W_fin (LK : LKT) (x : List Nat) : kB 0 (kS TW [] pu LK c_arbourlaw22_word.body.snd.snd.snd (retV c_arbourlaw22_word.res)) (.exit 0) (mkE 23 [(3, .str x)]) (hL 0 (loL [])) = some (V.str x, (hL 0 (loL [])), []) := by
  kernel_rfl
theorem word_run (s : List Nat) : elV TW [] pu (lpV TW [] pu 10) c_arbourlaw22_word.body ([.str s] ++ undefsV 22) HV.emp (retV c_arbourlaw22_word.res) = some (.str (119 :: lets 9 (s.take 9)), HV.emp, []) := by
  refine (W_start _ _ s).trans ?_
  rw [W_loop _ 9 (s.take 9) [119] 0 (by rw [List.length_take]; omega) (by rw [List.length_take]; simp only [List.length_cons, List.length_nil]; omega), W_fin]
  rfl
end Go.Am
