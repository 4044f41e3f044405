/- Parts of an abstract machine and its proofs: Runs. -/
import Derived.Test.YtjkolhdcgidmnaaCodes
import Derived.Test.YtjkolhdcgidmnaaAmV2
import Derived.KernelRfl
import Derived.Laws.DeepBits32
import Derived.Laws.Runes

set_option linter.unusedSimpArgs false
set_option linter.unusedVariables false
/- Models of the chars functions, by their numbers. -/
namespace Go.Am

/-- Slots in short: those that are told; of the others nothing is known. -/
def mkE (n : Nat) (l : List (Nat × V)) : List V := l.foldl (fun e p => e.set p.1 p.2) (List.replicate n .any)
/-- Objects of slots in short. -/
def loL (l : List (Nat × O2)) : Tq O2 := l.foldl (fun t p => t.set p.1 (some p.2)) .lf
def hL (n : Nat) (lo : Tq O2) : HV := ⟨n, .lf, .lf, lo⟩
def pu : Ba := ⟨0, false⟩
abbrev LKT := ACode → List V → HV → KT → Option RA
def run (T : TV) (n : Nat) (c : AFun) (vs : List V) : Option RA := elV T [] pu (lpV T [] pu n) c.body (vs ++ undefsV (c.slots - vs.length)) HV.emp (retV c.res)

def kS (T : TV) (fr : Fr) (ba : Ba) (LK : LKT) (b : ACode) (K : KT) : KT := fun x e h => match x with
  | .normal => elV T fr ba LK b e h K
  | x => K x e h
def kB (i : Nat) (K : KT) : KT := fun x e h => match x with
  | .exit j => bif j.beq i then K .normal e h else K (.exit j) e h
  | x => K x e h
def kL (T : TV) (fr : Fr) (ba : Ba) (n : Nat) (a : ACode) (K : KT) : KT := fun x e h => match x with
  | .normal => lpV T fr ba n a e h K
  | x => K x e h
theorem lpV_succ (T : TV) (fr : Fr) (ba : Ba) (n : Nat) (a : ACode) (e : List V) (h : HV) (K : KT) :
    lpV T fr ba (n + 1) a e h K = elV T fr ba (lpV T fr ba n) a e h (kL T fr ba n a K) := rfl
theorem kL_n (T : TV) (fr : Fr) (ba : Ba) (n : Nat) (a : ACode) (e : List V) (h : HV) (K : KT) : kL T fr ba n a K .normal e h = lpV T fr ba n a e h K := rfl
theorem kL_e (T : TV) (fr : Fr) (ba : Ba) (n : Nat) (a : ACode) (e : List V) (h : HV) (K : KT) (i : Nat) : kL T fr ba n a K (.exit i) e h = K (.exit i) e h := rfl
theorem kL_r (T : TV) (fr : Fr) (ba : Ba) (n : Nat) (a : ACode) (e : List V) (h : HV) (K : KT) : kL T fr ba n a K .ret e h = K .ret e h := rfl
def ACode.fst : ACode → ACode
  | .seq a _ => a
  | _ => .skip
def ACode.snd : ACode → ACode
  | .seq _ b => b
  | _ => .skip

def isSpace (r : Int) : Bool := bif r == 9 then true else bif r == 10 then true else bif r == 12 then true else bif r == 13 then true else r == 32
def isLetter (r : Int) : Bool := bif decide (97 ≤ r) && decide (r ≤ 122) then true else decide (65 ≤ r) && decide (r ≤ 90)
def isDigit (r : Int) : Bool := decide (48 ≤ r) && decide (r ≤ 57)
def hexN (r : Int) : Int :=
  bif isDigit r then r - 48 else bif decide (97 ≤ r) && decide (r ≤ 102) then r - 97 + 10 else bif decide (65 ≤ r) && decide (r ≤ 70) then r - 65 + 10 else 0
def hexB (r : Int) : Bool :=
  bif isDigit r then true else bif decide (97 ≤ r) && decide (r ≤ 102) then true else decide (65 ≤ r) && decide (r ≤ 70)
def lowB (b : Nat) : Nat := bif decide (65 ≤ b) && decide (b ≤ 90) then b + 32 else b
def lower (s : List Nat) : List Nat := s.map lowB

/-- Runes of a text: is each a Space? -/
def spacesF : Nat → List Nat → Bool
  | 0, _ => true
  | _ + 1, [] => true
  | f + 1, b :: bs => bif isSpace (decode (b :: bs)).1 then spacesF f ((b :: bs).drop (decode (b :: bs)).2) else false
def spaces (s : List Nat) : Bool := spacesF s.length s
def rspaces (s : List Nat) : Bool := s.all fun b => isSpace (b : Int)

def TC0 : TV := fun k f vs _ h _ K => match k, f, vs with
  | .pure, 10, [.int .i32 r] => K (.bool (isSpace r)) h []
  | .pure, 23, [.int .i32 r] => K (.bool (isSpace r)) h []
  | .pure, 18, [.int .i32 r] => K (.bool (isLetter r)) h []
  | .pure, 24, [.int .i32 r] => K (.bool (isLetter r)) h []
  | .pure, 19, [.int .i32 r] => K (.bool (isDigit r)) h []
  | .pure, 25, [.int .i32 r] => K (.bool (isDigit r)) h []
  | .pure, 20, [.str s] => bif s.length.ble 100000 then K (.str s) h [] else none
  | _, _, _ => none
end Go.Am

/- The loops of the chars functions. -/
namespace Go.Am

/-! What decode tells. -/
theorem decode_cases (s : List Nat) : (decode s = (s.getD 0 0, 1) ∧ s.getD 0 0 < 128) ∨ (128 ≤ s.getD 0 0 ∧ 128 ≤ (decode s).1 ∧ 1 ≤ (decode s).2 ∧ ∀ j, 1 ≤ j → j < (decode s).2 → j < s.length ∧ 128 ≤ s.getD j 0) := by
  have cont : ∀ k, (decide (k < s.length) && (s.getD k 0 / 64 == 2)) = true → k < s.length ∧ 128 ≤ s.getD k 0 := by
    intro k hk
    simp only [Bool.and_eq_true, decide_eq_true_eq, beq_iff_eq] at hk
    exact ⟨hk.1, by omega⟩
  unfold decode
  simp only
  split
  · rename_i h; exact .inl ⟨rfl, h⟩
  · rename_i h
    right
    refine ⟨by omega, ?_⟩
    split
    · rename_i h2
      simp only [Bool.and_eq_true] at h2
      have c1 := cont 1 (by simpa using h2.2)
      split
      · rename_i h3
        exact ⟨h3, by simp, fun j h4 h5 => by have : j = 1 := by omega
                                              subst this; exact c1⟩
      · exact ⟨by simp, by simp, fun j h4 h5 => by omega⟩
    · split
      · rename_i h2
        simp only [Bool.and_eq_true] at h2
        have c1 := cont 1 (by simpa using h2.1.2)
        have c2 := cont 2 (by simpa using h2.2)
        split
        · rename_i h3
          simp only [Bool.and_eq_true, decide_eq_true_eq] at h3
          refine ⟨by omega, by simp, fun j h4 h5 => ?_⟩
          rcases (show j = 1 ∨ j = 2 by omega) with rfl | rfl
          · exact c1
          · exact c2
        · exact ⟨by simp, by simp, fun j h4 h5 => by omega⟩
      · split
        · rename_i h2
          simp only [Bool.and_eq_true] at h2
          have c1 := cont 1 (by simpa using h2.1.1.2)
          have c2 := cont 2 (by simpa using h2.1.2)
          have c3 := cont 3 (by simpa using h2.2)
          split
          · rename_i h3
            simp only [Bool.and_eq_true, decide_eq_true_eq] at h3
            refine ⟨by omega, by simp, fun j h4 h5 => ?_⟩
            rcases (show j = 1 ∨ j = 2 ∨ j = 3 by omega) with rfl | rfl | rfl
            · exact c1
            · exact c2
            · exact c3
          · exact ⟨by simp, by simp, fun j h4 h5 => by omega⟩
        · exact ⟨by simp, by simp, fun j h4 h5 => by omega⟩

theorem isSpace_big {r : Int} (h : 128 ≤ r) : isSpace r = false := by
  unfold isSpace
  have h1 : (r == 9) = false := by simp; omega
  have h2 : (r == 10) = false := by simp; omega
  have h3 : (r == 12) = false := by simp; omega
  have h4 : (r == 13) = false := by simp; omega
  have h5 : (r == 32) = false := by simp; omega
  rw [h1, h2, h3, h4, h5]; rfl

theorem decode_width2 (b : Nat) (bs : List Nat) : 1 ≤ (decode (b :: bs)).2 ∧ (decode (b :: bs)).2 ≤ (b :: bs).length := by
  rcases decode_cases (b :: bs) with ⟨h, _⟩ | ⟨_, _, h1, h2⟩
  · rw [h]; simp
  · refine ⟨h1, ?_⟩
    by_cases hw : (decode (b :: bs)).2 ≤ 1
    · simp; omega
    · have := (h2 ((decode (b :: bs)).2 - 1) (by omega) (by omega)).1
      omega

/-- All bytes of a rune are of its kind. -/
theorem decode_kind (b : Nat) (bs : List Nat) : ∀ x ∈ (b :: bs).take (decode (b :: bs)).2, isSpace (x : Int) = isSpace ((decode (b :: bs)).1 : Int) := by
  rcases decode_cases (b :: bs) with ⟨h, _⟩ | ⟨h0, h3, h1, h2⟩
  · intro x hx
    rw [h] at hx ⊢
    simp at hx
    subst hx; rfl
  · intro x hx
    rw [isSpace_big (r := ((decode (b :: bs)).1 : Int)) (by omega), isSpace_big]
    rw [List.mem_take_iff_getElem] at hx
    obtain ⟨j, hj, rfl⟩ := hx
    by_cases hj0 : j = 0
    · subst hj0
      have : (b :: bs).getD 0 0 = b := rfl
      rw [this] at h0
      simp; omega
    · have := (h2 j (by omega) (by omega)).2
      rw [List.getD_eq_getElem?_getD, List.getElem?_eq_getElem (by omega)] at this
      simp only [Option.getD_some] at this
      omega

/-! Spaces. -/
theorem Spaces_step (LK : LKT) (b : Nat) (bs : List Nat) (pos : Nat) (K : KT) :
    elV TC0 [] pu LK l_chars_Spaces_0 (mkE 13 [(6, .ptr (.loc 6) 0)]) (hL 0 (loL [(6, .iter (b :: bs) pos)])) K =
      bif !isSpace ↑(decode (b :: bs)).fst then
        K (AEx.ret) (mkE 13 [(2, V.bool false)]) (hL 0 (loL []))
      else
        K (AEx.normal) (mkE 13 [(6, V.ptr (Cd.loc 6) 0)]) (hL 0 (loL [(6, O2.iter (List.drop (decode (b :: bs)).snd (b :: bs)) (pos + (decode (b :: bs)).snd))])) := by
  kernel_rfl
theorem Spaces_end (LK : LKT) (pos : Nat) (K : KT) :
    elV TC0 [] pu LK l_chars_Spaces_0 (mkE 13 [(6, .ptr (.loc 6) 0)]) (hL 0 (loL [(6, .iter [] pos)])) K = K (AEx.exit 0) (mkE 13 []) (hL 0 (loL [])) := by
  kernel_rfl

theorem Spaces_loop (K : KT) : ∀ (f : Nat) (rest : List Nat) (pos : Nat), rest.length ≤ f →
    lpV TC0 [] pu (f + 1) l_chars_Spaces_0 (mkE 13 [(6, .ptr (.loc 6) 0)]) (hL 0 (loL [(6, .iter rest pos)])) K =
      bif rspaces rest then K (.exit 0) (mkE 13 []) (hL 0 (loL [])) else K .ret (mkE 13 [(2, .bool false)]) (hL 0 (loL [])) := by
  intro f
  induction f with
  | zero =>
    intro rest pos hl
    have : rest = [] := List.length_eq_zero_iff.1 (by omega)
    subst this
    rw [lpV_succ, Spaces_end]
    rfl
  | succ f ih =>
    intro rest pos hl
    rw [lpV_succ]
    cases rest with
    | nil => rw [Spaces_end]; rfl
    | cons b bs =>
      obtain ⟨w1, w2⟩ := decode_width2 b bs
      have hk := decode_kind b bs
      have hsplit : rspaces (b :: bs) = (isSpace ((decode (b :: bs)).1 : Int) && rspaces ((b :: bs).drop (decode (b :: bs)).2)) := by
        have h0 : (b :: bs) = (b :: bs).take (decode (b :: bs)).2 ++ (b :: bs).drop (decode (b :: bs)).2 := (List.take_append_drop _ _).symm
        unfold rspaces
        conv => lhs; rw [h0]
        rw [List.all_append]
        congr 1
        cases hs : isSpace ((decode (b :: bs)).1 : Int) with
        | true =>
          rw [List.all_eq_true]
          intro x hx; rw [hk x hx, hs]
        | false =>
          rw [← Bool.not_eq_true, List.all_eq_true]
          intro hall
          have hb : b ∈ (b :: bs).take (decode (b :: bs)).2 := by
            obtain ⟨m, hm⟩ : ∃ m, (decode (b :: bs)).2 = m + 1 := ⟨_, (Nat.succ_pred_eq_of_pos w1).symm⟩
            rw [hm]; simp
          have := hall b hb
          rw [hk b hb, hs] at this; cases this
      rw [Spaces_step, hsplit]
      cases isSpace ((decode (b :: bs)).1 : Int) with
      | true =>
        simp only [Bool.not_true, cond_false, Bool.true_and, kL_n]
        exact ih _ _ (by rw [List.length_drop]; simp only [List.length_cons] at hl ⊢; omega)
      | false => rfl

theorem Spaces_start (LK : LKT) (s : List Nat) (K : KT) : elV TC0 [] pu LK c_chars_Spaces.body ([.str s] ++ undefsV 12) HV.emp K = LK l_chars_Spaces_0 (mkE 13 [(6, .ptr (.loc 6) 0)]) (hL 0 (loL [(6, .iter s 0)]))
      (kB 0 (kS TC0 [] pu LK c_chars_Spaces.body.snd.snd K)) := by
  kernel_rfl
theorem Spaces_run (s : List Nat) : run TC0 (s.length + 1) c_chars_Spaces [.str s] = some (.bool (rspaces s), HV.emp, []) := by
  refine (Spaces_start _ s _).trans ?_
  rw [Spaces_loop _ s.length s 0 (Nat.le_refl _)]
  generalize rspaces s = b
  cases b
  · show (_ : Option RA) = _
    kernel_rfl
  · show (_ : Option RA) = _
    kernel_rfl
end Go.Am

/- Lower, Same, the reference's Spaces. -/
namespace Go.Am

theorem w64 {n : Nat} (h : n < 4611686018427387904) : IntKind.i64.wrap ((n : Int) + 1) = ((n + 1 : Nat) : Int) := by
  rw [wrap_small _ (by omega) (by omega)]; simp
theorem w8 {n : Int} (h0 : 0 ≤ n) (h1 : n < 256) : IntKind.u8.wrap n = n := by
  have hm : n % 256 = n := by omega
  unfold IntKind.wrap
  simp [IntKind.bits, IntKind.signed, hm]

def okS (s : List Nat) : Bool := decide (s.length ≤ 100000) && s.all fun b => decide (b < 256)

/-! Lower. -/
theorem Lower_step (LK : LKT) (l : List Int) (i m : Nat) (K : KT) :
    elV TC0 [] pu LK l_chars_Lower_0 (mkE 30 [(3, .whole (.loc 7)), (8, .whole (.loc 7)), (9, .int .i64 m), (10, .int .i64 i)]) (hL 0 (loL [(7, .seq (.ty .bytes l) false)])) K =
  bif decide ((i : Int) < m) then
    bif i.blt (Sq.ty U.bytes l).len && true then
      (match l[i]? with
      | .none  => none
      | .some v3_0 => bif decide (v3_0 ≥ 65) then
          bif decide (v3_0 ≤ 90) then
            bif i.blt (Sq.ty U.bytes l).len && true then
              (match l[i]? with
              | .none  => none
              | .some _ => K (AEx.normal) (mkE 30 [(3, V.whole (Cd.loc 7)), (8, V.whole (Cd.loc 7)), (9, V.int IntKind.i64 ↑m), (10, V.int IntKind.i64 (IntKind.i64.wrap (↑i + 1)))]) (hL 0 (loL [(7, O2.seq (Sq.ty U.bytes (l.set i (IntKind.u8.wrap (IntKind.u8.wrap (v3_0 + 97) - 65)))) false)])))
            else
              none
          else
            K (AEx.normal) (mkE 30 [(3, V.whole (Cd.loc 7)), (8, V.whole (Cd.loc 7)), (9, V.int IntKind.i64 ↑m), (10, V.int IntKind.i64 (IntKind.i64.wrap (↑i + 1)))]) (hL 0 (loL [(7, O2.seq (Sq.ty U.bytes l) false)]))
        else
          K (AEx.normal) (mkE 30 [(3, V.whole (Cd.loc 7)), (8, V.whole (Cd.loc 7)), (9, V.int IntKind.i64 ↑m), (10, V.int IntKind.i64 (IntKind.i64.wrap (↑i + 1)))]) (hL 0 (loL [(7, O2.seq (Sq.ty U.bytes l) false)])))
    else
      none
  else
    K (AEx.exit 0) (mkE 30 [(3, V.whole (Cd.loc 7))]) (hL 0 (loL [(7, O2.seq (Sq.ty U.bytes l) false)])) := by
  kernel_rfl

theorem rLower_step (LK : LKT) (l : List Int) (i : Nat) (K : KT) :
    elV TC0 [] pu LK l_arbourref4_Lower_0 (mkE 35 [(3, .whole (.loc 6)), (4, .int .i64 i)]) (hL 0 (loL [(6, .seq (.ty .bytes l) false)])) K =
  bif decide ((i : Int) < ((Sq.ty U.bytes l).len : Nat)) then
    bif i.blt (Sq.ty U.bytes l).len && true then
      (match l[i]? with
      | .none  => none
      | .some v3_0 => bif decide (v3_0 ≥ 65) then
          bif i.blt (Sq.ty U.bytes l).len && true then
            (match l[i]? with
            | .none  => none
            | .some v6_0 => bif decide (v6_0 ≤ 90) then
                bif i.blt (Sq.ty U.bytes l).len && true then
                  (match l[i]? with
                  | .none  => none
                  | .some v9_0 => bif i.blt (Sq.ty U.bytes l).len && true then
                      (match l[i]? with
                      | .none  => none
                      | .some _ => K (AEx.normal) (mkE 35 [(3, V.whole (Cd.loc 6)), (4, V.int IntKind.i64 (IntKind.i64.wrap (↑i + 1)))]) (hL 0 (loL [(6, O2.seq (Sq.ty U.bytes (l.set i (IntKind.u8.wrap (v9_0 + 32)))) false)])))
                    else
                      none)
                else
                  none
              else
                K (AEx.normal) (mkE 35 [(3, V.whole (Cd.loc 6)), (4, V.int IntKind.i64 (IntKind.i64.wrap (↑i + 1)))]) (hL 0 (loL [(6, O2.seq (Sq.ty U.bytes l) false)])))
          else
            none
        else
          K (AEx.normal) (mkE 35 [(3, V.whole (Cd.loc 6)), (4, V.int IntKind.i64 (IntKind.i64.wrap (↑i + 1)))]) (hL 0 (loL [(6, O2.seq (Sq.ty U.bytes l) false)])))
    else
      none
  else
    K (AEx.exit 0) (mkE 35 [(3, V.whole (Cd.loc 6))]) (hL 0 (loL [(6, O2.seq (Sq.ty U.bytes l) false)])) := by
  kernel_rfl

def lowI (c : Int) : Int := bif decide (c ≥ 65) && decide (c ≤ 90) then c + 32 else c
def lowFrom (i : Nat) (l : List Int) : List Int := l.take i ++ (l.drop i).map lowI

theorem lowFrom_set {l : List Int} {i : Nat} {c : Int} (h : l[i]? = some c) : lowFrom (i + 1) (l.set i (lowI c)) = lowFrom i l := by
  rw [List.getElem?_eq_some_iff] at h
  obtain ⟨hi, hc⟩ := h
  have h0 : l = l.take i ++ c :: l.drop (i + 1) := by
    rw [← hc, List.getElem_cons_drop, List.take_append_drop]
  have hl : (l.take i).length = i := by rw [List.length_take]; omega
  unfold lowFrom
  generalize l.take i = a at *
  generalize l.drop (i + 1) = b at *
  subst hl
  subst h0
  simp [List.take_append, List.drop_append, List.set_append]
  rw [List.take_of_length_le (by omega), List.drop_eq_nil_of_le (by simp)]
  simp
theorem lowFrom_same {l : List Int} {i : Nat} {c : Int} (h : l[i]? = some c) (hc : lowI c = c) : lowFrom (i + 1) l = lowFrom i l := by
  have := lowFrom_set h
  rw [hc] at this
  rw [← this]
  congr 1
  refine (List.ext_getElem? fun j => ?_)
  rw [List.getElem?_set]
  split
  · rename_i hj; subst hj
    split
    · exact h
    · rename_i hl; rw [List.getElem?_eq_some_iff] at h; exact absurd h.1 hl
  · rfl
theorem lowFrom_end (l : List Int) : lowFrom l.length l = l := by simp [lowFrom]

def byt (l : List Int) : Prop := ∀ c ∈ l, 0 ≤ c ∧ c < 256
theorem lowI_byt {c : Int} (h : 0 ≤ c ∧ c < 256) : 0 ≤ lowI c ∧ lowI c < 256 := by
  unfold lowI
  cases hc : decide (c ≥ 65) && decide (c ≤ 90) with
  | true => simp at hc; simp; omega
  | false => exact h
theorem byt_set {l : List Int} (h : byt l) {i : Nat} {c : Int} (hc : 0 ≤ c ∧ c < 256) : byt (l.set i c) := fun x hx => by
  rcases List.mem_or_eq_of_mem_set hx with hx | rfl
  · exact h x hx
  · exact hc

theorem Lower_loop (K : KT) : ∀ (f : Nat) (l : List Int) (i m : Nat), m = l.length → m ≤ 100000 → m ≤ i + f → i ≤ m → byt l →
    lpV TC0 [] pu (f + 1) l_chars_Lower_0 (mkE 30 [(3, .whole (.loc 7)), (8, .whole (.loc 7)), (9, .int .i64 m), (10, .int .i64 i)]) (hL 0 (loL [(7, .seq (.ty .bytes l) false)])) K =
      K (.exit 0) (mkE 30 [(3, .whole (.loc 7))]) (hL 0 (loL [(7, .seq (.ty .bytes (lowFrom i l)) false)])) := by
  intro f
  induction f with
  | zero =>
    intro l i m hm hb hi hle hy
    rw [lpV_succ, Lower_step]
    have : decide ((i : Int) < m) = false := by simp; omega
    rw [this, show i = l.length by omega, lowFrom_end]; rfl
  | succ f ih =>
    intro l i m hm hb hi hle hy
    rw [lpV_succ, Lower_step]
    by_cases hlt : i < m
    case neg =>
      have : decide ((i : Int) < m) = false := by simp; omega
      rw [this, show i = l.length by omega, lowFrom_end]; rfl
    have h1 : decide ((i : Int) < m) = true := by simp; omega
    have h2 : (i.blt (Sq.ty U.bytes l).len && true) = true := by simp [Sq.len, Nat.blt_eq]; omega
    obtain ⟨c, hc⟩ : ∃ c, l[i]? = some c := ⟨l[i]'(by omega), List.getElem?_eq_getElem (by omega)⟩
    have hcb := hy c (List.mem_of_getElem? hc)
    rw [h1, h2, hc]
    simp only [cond_true, kL_n, kL_e, kL_r]
    rw [w64 (by omega)]
    cases h3 : decide (c ≥ 65) with
    | false =>
      simp only [cond_false, kL_n, kL_e, kL_r]
      rw [ih l (i + 1) m hm hb (by omega) (by omega) hy, lowFrom_same hc (by unfold lowI; rw [h3]; rfl)]
    | true =>
      simp only [cond_true, kL_n, kL_e, kL_r]
      cases h4 : decide (c ≤ 90) with
      | false =>
        simp only [cond_false, kL_n, kL_e, kL_r]
        rw [ih l (i + 1) m hm hb (by omega) (by omega) hy, lowFrom_same hc (by unfold lowI; rw [h3, h4]; rfl)]
      | true =>
        simp only [cond_true, kL_n, kL_e, kL_r]
        have h5 := of_decide_eq_true h3
        have h6 := of_decide_eq_true h4
        have h7 : IntKind.u8.wrap (IntKind.u8.wrap (c + 97) - 65) = lowI c := by
          rw [w8 (n := c + 97) (by omega) (by omega), w8 (by omega) (by omega)]
          unfold lowI; rw [h3, h4]; simp; omega
        rw [h7, ih _ (i + 1) m (by simp [hm]) hb (by omega) (by omega) (byt_set hy (lowI_byt hcb)), lowFrom_set hc]

theorem rLower_loop (K : KT) : ∀ (f : Nat) (l : List Int) (i : Nat), l.length ≤ 100000 → l.length ≤ i + f → i ≤ l.length → byt l →
    lpV TC0 [] pu (f + 1) l_arbourref4_Lower_0 (mkE 35 [(3, .whole (.loc 6)), (4, .int .i64 i)]) (hL 0 (loL [(6, .seq (.ty .bytes l) false)])) K =
      K (.exit 0) (mkE 35 [(3, .whole (.loc 6))]) (hL 0 (loL [(6, .seq (.ty .bytes (lowFrom i l)) false)])) := by
  intro f
  induction f with
  | zero =>
    intro l i hb hi hle hy
    rw [lpV_succ, rLower_step]
    have : decide ((i : Int) < ((Sq.ty U.bytes l).len : Nat)) = false := by simp [Sq.len]; omega
    rw [this, show i = l.length by omega, lowFrom_end]; rfl
  | succ f ih =>
    intro l i hb hi hle hy
    rw [lpV_succ, rLower_step]
    by_cases hlt : i < l.length
    case neg =>
      have : decide ((i : Int) < ((Sq.ty U.bytes l).len : Nat)) = false := by simp [Sq.len]; omega
      rw [this, show i = l.length by omega, lowFrom_end]; rfl
    have h1 : decide ((i : Int) < ((Sq.ty U.bytes l).len : Nat)) = true := by simp [Sq.len]; omega
    have h2 : (i.blt (Sq.ty U.bytes l).len && true) = true := by simp [Sq.len, Nat.blt_eq]; omega
    obtain ⟨c, hc⟩ : ∃ c, l[i]? = some c := ⟨l[i]'(by omega), List.getElem?_eq_getElem (by omega)⟩
    have hcb := hy c (List.mem_of_getElem? hc)
    rw [h1, h2, hc]
    simp only [cond_true, kL_n, kL_e, kL_r]
    rw [w64 (by omega)]
    cases h3 : decide (c ≥ 65) with
    | false =>
      simp only [cond_false, kL_n, kL_e, kL_r]
      rw [ih l (i + 1) hb (by omega) (by omega) hy, lowFrom_same hc (by unfold lowI; rw [h3]; rfl)]
    | true =>
      simp only [cond_true, kL_n, kL_e, kL_r]
      cases h4 : decide (c ≤ 90) with
      | false =>
        simp only [cond_false, kL_n, kL_e, kL_r]
        rw [ih l (i + 1) hb (by omega) (by omega) hy, lowFrom_same hc (by unfold lowI; rw [h3, h4]; rfl)]
      | true =>
        simp only [cond_true, kL_n, kL_e, kL_r]
        have h5 := of_decide_eq_true h3
        have h6 := of_decide_eq_true h4
        have h7 : IntKind.u8.wrap (c + 32) = lowI c := by
          rw [w8 (n := c + 32) (by omega) (by omega)]
          unfold lowI; rw [h3, h4]; simp
        rw [h7, ih _ (i + 1) (by simpa using hb) (by simp; omega) (by simp; omega) (byt_set hy (lowI_byt hcb)), lowFrom_set hc]

theorem bytesOk_byt {l : List Int} (h : byt l) : bytesOk l = true := by
  induction l with
  | nil => rfl
  | cons c l ih =>
    have := h c (by simp)
    simp only [bytesOk, ih (fun x hx => h x (by simp [hx])), Bool.and_true, Bool.and_eq_true, decide_eq_true_eq]
    exact this
theorem okS_byt {s : List Nat} (h : okS s = true) : byt (s.map fun (b : Nat) => (b : Int)) ∧ s.length ≤ 100000 := by
  simp only [okS, Bool.and_eq_true, decide_eq_true_eq, List.all_eq_true] at h
  refine ⟨fun c hc => ?_, h.1⟩
  rw [List.mem_map] at hc
  obtain ⟨b, hb, rfl⟩ := hc
  have := h.2 b hb
  omega
theorem lowFrom_byt {l : List Int} (h : byt l) : byt (lowFrom 0 l) := fun c hc => by
  simp only [lowFrom, List.take_zero, List.drop_zero, List.nil_append, List.mem_map] at hc
  obtain ⟨x, hx, rfl⟩ := hc
  exact lowI_byt (h x hx)
theorem lowFrom_str (s : List Nat) : (lowFrom 0 (s.map fun (b : Nat) => (b : Int))).map Int.toNat = lower s := by
  simp only [lowFrom, List.take_zero, List.drop_zero, List.nil_append, List.map_map, lower]
  refine List.map_congr_left fun b _ => ?_
  simp only [Function.comp, lowI, lowB]
  have h1 : decide ((b : Int) ≥ 65) = decide (65 ≤ b) := by congr 1; exact propext ⟨fun h => by omega, fun h => by omega⟩
  have h2 : decide ((b : Int) ≤ 90) = decide (b ≤ 90) := by congr 1; exact propext ⟨fun h => by omega, fun h => by omega⟩
  rw [h1, h2]
  cases decide (65 ≤ b) && decide (b ≤ 90) with
  | true => simp; omega
  | false => simp

theorem Lower_start (LK : LKT) (s : List Nat) (K : KT) : elV TC0 [] pu LK c_chars_Lower.body ([.str s] ++ undefsV 29) HV.emp K = LK l_chars_Lower_0 (mkE 30 [(3, .whole (.loc 7)), (8, .whole (.loc 7)), (9, .int .i64 ((s.map fun (b : Nat) => (b : Int)).length : Nat)), (10, .int .i64 (0 : Nat))]) (hL 0 (loL [(7, .seq (.ty .bytes (s.map fun (b : Nat) => (b : Int))) false)]))
      (kB 0 (kS TC0 [] pu LK c_chars_Lower.body.snd.snd.snd K)) := by
  kernel_rfl
theorem Lower_fin (LK : LKT) (L : List Int) : kB 0 (kS TC0 [] pu LK c_chars_Lower.body.snd.snd.snd (retV c_chars_Lower.res)) (.exit 0) (mkE 30 [(3, .whole (.loc 7))]) (hL 0 (loL [(7, .seq (.ty .bytes L) false)])) =
      bif bytesOk L then some (.str (L.map Int.toNat), HV.emp, []) else none := by
  kernel_rfl
theorem Lower_run (s : List Nat) (hs : okS s = true) : run TC0 (s.length + 1) c_chars_Lower [.str s] = some (.str (lower s), HV.emp, []) := by
  obtain ⟨hy, hl⟩ := okS_byt hs
  have hlen : (s.map fun (b : Nat) => (b : Int)).length = s.length := by simp
  refine (Lower_start _ s _).trans ?_
  rw [Lower_loop _ s.length _ 0 _ rfl (by omega) (by omega) (by omega) hy, Lower_fin, bytesOk_byt (lowFrom_byt hy), lowFrom_str]; rfl

theorem rLower_start (LK : LKT) (s : List Nat) (K : KT) : elV TC0 [] pu LK c_arbourref4_Lower.body ([.str s] ++ undefsV 34) HV.emp K = LK l_arbourref4_Lower_0 (mkE 35 [(3, .whole (.loc 6)), (4, .int .i64 (0 : Nat))]) (hL 0 (loL [(6, .seq (.ty .bytes (s.map fun (b : Nat) => (b : Int))) false)]))
      (kB 0 (kS TC0 [] pu LK c_arbourref4_Lower.body.snd.snd.snd K)) := by
  kernel_rfl
theorem rLower_fin (LK : LKT) (L : List Int) : kB 0 (kS TC0 [] pu LK c_arbourref4_Lower.body.snd.snd.snd (retV c_arbourref4_Lower.res)) (.exit 0) (mkE 35 [(3, .whole (.loc 6))]) (hL 0 (loL [(6, .seq (.ty .bytes L) false)])) =
      bif bytesOk L then some (.str (L.map Int.toNat), HV.emp, []) else none := by
  kernel_rfl
theorem rLower_run (s : List Nat) (hs : okS s = true) : run TC0 (s.length + 1) c_arbourref4_Lower [.str s] = some (.str (lower s), HV.emp, []) := by
  obtain ⟨hy, hl⟩ := okS_byt hs
  have hlen : (s.map fun (b : Nat) => (b : Int)).length = s.length := by simp
  refine (rLower_start _ s _).trans ?_
  rw [rLower_loop _ s.length _ 0 (by omega) (by omega) (by omega) hy, rLower_fin, bytesOk_byt (lowFrom_byt hy), lowFrom_str]; rfl

/-! The reference's Spaces. -/
theorem rSpaces_step (LK : LKT) (s : List Nat) (i : Nat) (K : KT) :
   elV TC0 [] pu LK l_arbourref4_Spaces_0 (mkE 16 [(0, .str s), (3, .int .i64 i)]) (hL 0 (loL [])) K =
  bif decide ((i : Int) < (s.length : Nat)) then
    (match s[i]? with
    | .none  => none
    | .some v2_0 => bif !isSpace (IntKind.i32.wrap ↑v2_0) then
        K (AEx.ret) (mkE 16 [(2, V.bool false)]) (hL 0 (loL []))
      else
        K (AEx.normal) (mkE 16 [(0, V.str s), (3, V.int IntKind.i64 (IntKind.i64.wrap (↑i + 1)))]) (hL 0 (loL [])))
  else
    K (AEx.exit 0) (mkE 16 []) (hL 0 (loL [])) := by
  kernel_rfl

theorem rSpaces_loop (s : List Nat) (hs : okS s = true) (K : KT) : ∀ (f : Nat) (i : Nat), s.length ≤ i + f → i ≤ s.length →
    lpV TC0 [] pu (f + 1) l_arbourref4_Spaces_0 (mkE 16 [(0, .str s), (3, .int .i64 i)]) (hL 0 (loL [])) K =
      bif rspaces (s.drop i) then K (.exit 0) (mkE 16 []) (hL 0 (loL [])) else K .ret (mkE 16 [(2, .bool false)]) (hL 0 (loL [])) := by
  simp only [okS, Bool.and_eq_true, decide_eq_true_eq, List.all_eq_true] at hs
  have fin : ∀ (LK : LKT) (i : Nat) (K : KT), i = s.length → elV TC0 [] pu LK l_arbourref4_Spaces_0 (mkE 16 [(0, .str s), (3, .int .i64 i)]) (hL 0 (loL [])) K = K (.exit 0) (mkE 16 []) (hL 0 (loL [])) := by
    intro LK i K hi
    rw [rSpaces_step]
    have : decide ((i : Int) < (s.length : Nat)) = false := by simp; omega
    rw [this]; rfl
  intro f
  induction f with
  | zero =>
    intro i hi hle
    rw [lpV_succ, fin _ i _ (by omega), show i = s.length by omega, List.drop_length]; rfl
  | succ f ih =>
    intro i hi hle
    rw [lpV_succ]
    by_cases hlt : i < s.length
    case neg => rw [fin _ i _ (by omega), show i = s.length by omega, List.drop_length]; rfl
    rw [rSpaces_step]
    have h1 : decide ((i : Int) < (s.length : Nat)) = true := by simp; omega
    have hg : s[i]? = some s[i] := List.getElem?_eq_getElem hlt
    have hb := hs.2 s[i] (List.getElem_mem hlt)
    rw [h1, hg, show s.drop i = s[i] :: s.drop (i + 1) from (List.getElem_cons_drop (h := hlt)).symm]
    simp only [cond_true, kL_n, kL_e, kL_r]
    rw [wrap_i32_small _ (by omega) (by omega), w64 (by omega)]
    have hr : rspaces (s[i] :: s.drop (i + 1)) = (isSpace (s[i] : Int) && rspaces (s.drop (i + 1))) := rfl
    rw [hr]
    cases isSpace (s[i] : Int) with
    | true =>
      simp only [Bool.not_true, cond_false, Bool.true_and, kL_n]
      exact ih (i + 1) (by omega) (by omega)
    | false => rfl

theorem rSpaces_start (LK : LKT) (s : List Nat) (K : KT) : elV TC0 [] pu LK c_arbourref4_Spaces.body ([.str s] ++ undefsV 15) HV.emp K = LK l_arbourref4_Spaces_0 (mkE 16 [(0, .str s), (3, .int .i64 (0 : Nat))]) (hL 0 (loL []))
      (kB 0 (kS TC0 [] pu LK c_arbourref4_Spaces.body.snd.snd K)) := by
  kernel_rfl
theorem rSpaces_run (s : List Nat) (hs : okS s = true) : run TC0 (s.length + 1) c_arbourref4_Spaces [.str s] = some (.bool (rspaces s), HV.emp, []) := by
  refine (rSpaces_start _ s _).trans ?_
  rw [rSpaces_loop s hs _ s.length 0 (by omega) (by omega), List.drop_zero]
  generalize rspaces s = b
  cases b
  · show (_ : Option RA) = _
    kernel_rfl
  · show (_ : Option RA) = _
    kernel_rfl

/-! Same. -/
theorem Same_step (LK : LKT) (x y : List (List Nat)) (f g : Bool) (i : Nat) (K : KT) :
   elV TC0 [] pu LK l_arbourbook_Same_string_0 (mkE 26 [(0, .vs f (.ty .strs x)), (1, .vs g (.ty .strs y)), (5, .int .i64 i)]) (hL 0 (loL [])) K =
  bif decide ((i : Int) < ((Sq.ty U.strs x).len : Nat)) then
    (match x[i]? with
    | .none  => none
    | .some v2_0 => (match y[i]? with
      | .none  => none
      | .some v3_0 => bif !v2_0 == v3_0 then
          K (AEx.ret) (mkE 26 [(4, V.bool false)]) (hL 0 (loL []))
        else
          K (AEx.normal) (mkE 26 [(0, V.vs f (Sq.ty U.strs x)), (1, V.vs g (Sq.ty U.strs y)), (5, V.int IntKind.i64 (IntKind.i64.wrap (↑i + 1)))]) (hL 0 (loL []))))
  else
    K (AEx.exit 0) (mkE 26 []) (hL 0 (loL [])) := by
  kernel_rfl

theorem Same_loop (x y : List (List Nat)) (f g : Bool) (hx : x.length ≤ 100000) (hxy : x.length = y.length) (K : KT) : ∀ (m : Nat) (i : Nat), x.length ≤ i + m → i ≤ x.length →
    lpV TC0 [] pu (m + 1) l_arbourbook_Same_string_0 (mkE 26 [(0, .vs f (.ty .strs x)), (1, .vs g (.ty .strs y)), (5, .int .i64 i)]) (hL 0 (loL [])) K =
      bif x.drop i == y.drop i then K (.exit 0) (mkE 26 []) (hL 0 (loL [])) else K .ret (mkE 26 [(4, .bool false)]) (hL 0 (loL [])) := by
  have fin : ∀ (LK : LKT) (i : Nat) (K : KT), i = x.length → elV TC0 [] pu LK l_arbourbook_Same_string_0 (mkE 26 [(0, .vs f (.ty .strs x)), (1, .vs g (.ty .strs y)), (5, .int .i64 i)]) (hL 0 (loL [])) K = K (.exit 0) (mkE 26 []) (hL 0 (loL [])) := by
    intro LK i K hi
    rw [Same_step]
    have : decide ((i : Int) < ((Sq.ty U.strs x).len : Nat)) = false := by simp [Sq.len]; omega
    rw [this]; rfl
  intro m
  induction m with
  | zero =>
    intro i hi hle
    rw [lpV_succ, fin _ i _ (by omega), List.drop_eq_nil_of_le (by omega), List.drop_eq_nil_of_le (by omega)]; rfl
  | succ m ih =>
    intro i hi hle
    rw [lpV_succ]
    by_cases hlt : i < x.length
    case neg => rw [fin _ i _ (by omega), List.drop_eq_nil_of_le (by omega), List.drop_eq_nil_of_le (by omega)]; rfl
    rw [Same_step]
    have h1 : decide ((i : Int) < ((Sq.ty U.strs x).len : Nat)) = true := by simp [Sq.len]; omega
    have hg : x[i]? = some x[i] := List.getElem?_eq_getElem hlt
    have hg2 : y[i]? = some (y[i]'(by omega)) := List.getElem?_eq_getElem (by omega)
    rw [h1, hg, hg2, show x.drop i = x[i] :: x.drop (i + 1) from (List.getElem_cons_drop (h := hlt)).symm, show y.drop i = y[i]'(by omega) :: y.drop (i + 1) from (List.getElem_cons_drop (h := by omega)).symm]
    simp only [cond_true, kL_n, kL_e, kL_r]
    rw [w64 (by omega)]
    have hc : (x[i] :: x.drop (i + 1) == y[i]'(by omega) :: y.drop (i + 1)) = ((x[i] == y[i]'(by omega)) && (x.drop (i + 1) == y.drop (i + 1))) := rfl
    rw [hc]
    cases (x[i] == y[i]'(by omega)) with
    | true =>
      simp only [Bool.not_true, cond_false, Bool.true_and, kL_n]
      exact ih (i + 1) (by omega) (by omega)
    | false => rfl
theorem Same_start (LK : LKT) (x y : List (List Nat)) (f g : Bool) (K : KT) : elV TC0 [] pu LK c_arbourbook_Same_string.body ([.vs f (.ty .strs x), .vs g (.ty .strs y)] ++ undefsV 24) HV.emp K =
    bif !((x.length : Int) == (y.length : Int)) then K .ret (mkE 26 [(4, .bool false)]) (hL 0 (loL [])) else
    LK l_arbourbook_Same_string_0 (mkE 26 [(0, .vs f (.ty .strs x)), (1, .vs g (.ty .strs y)), (5, .int .i64 (0 : Nat))]) (hL 0 (loL []))
      (kB 0 (kS TC0 [] pu LK c_arbourbook_Same_string.body.snd.snd.snd.snd.snd K)) := by
  kernel_rfl
theorem Same_run (x y : List (List Nat)) (f g : Bool) (hx : x.length ≤ 100000) : run TC0 (x.length + 1) c_arbourbook_Same_string [.vs f (.ty .strs x), .vs g (.ty .strs y)] = some (.bool (x == y), HV.emp, []) := by
  refine (Same_start _ x y f g _).trans ?_
  cases hl : !((x.length : Int) == (y.length : Int)) with
  | true =>
    have hne : (x == y) = false := by
      simp only [Bool.not_eq_true', beq_eq_false_iff_ne, ne_eq] at hl
      simp only [beq_eq_false_iff_ne, ne_eq]
      intro h; subst h; exact hl rfl
    rw [hne]; rfl
  | false =>
    have hxy : x.length = y.length := by simp at hl; omega
    simp only [cond_false]
    rw [Same_loop x y f g hx hxy _ x.length 0 (by omega) (by omega), List.drop_zero, List.drop_zero]
    generalize (x == y) = b
    cases b
    · show (_ : Option RA) = _
      kernel_rfl
    · show (_ : Option RA) = _
      kernel_rfl
end Go.Am

/- Split. -/
namespace Go.Am

/-- Runs of one kind: the run so far, its kind. -/
def runs (k : Bool) (cur : List Nat) : List Nat → List (List Nat)
  | [] => [cur]
  | b :: bs => bif isSpace (b : Int) == k then runs k (cur ++ [b]) bs else cur :: runs (isSpace (b : Int)) [b] bs
def split : List Nat → List (List Nat)
  | [] => []
  | b :: bs => runs (isSpace (b : Int)) [b] bs

theorem runs_same (k : Bool) : ∀ (a cur rest : List Nat), (∀ x ∈ a, isSpace (x : Int) = k) → runs k cur (a ++ rest) = runs k (cur ++ a) rest
  | [], cur, rest, _ => by simp
  | b :: a, cur, rest, h => by
    have hb := h b (by simp)
    simp only [List.cons_append, runs, hb, beq_self_eq_true, cond_true]
    rw [runs_same k a (cur ++ [b]) rest fun x hx => h x (by simp [hx])]
    simp

theorem runs_other {k : Bool} {b : Nat} {a cur rest : List Nat} (hk : isSpace (b : Int) ≠ k) (h : ∀ x ∈ b :: a, isSpace (x : Int) = isSpace (b : Int)) : runs k cur (b :: a ++ rest) = cur :: runs (isSpace (b : Int)) (b :: a) rest := by
  have hq : (isSpace (b : Int) == k) = false := by simpa using hk
  simp only [List.cons_append, runs, hq, cond_false]
  rw [runs_same _ a [b] rest fun x hx => h x (by simp [hx])]
  rfl

theorem split_same {b : Nat} {a rest : List Nat} (h : ∀ x ∈ b :: a, isSpace (x : Int) = isSpace (b : Int)) : split (b :: a ++ rest) = runs (isSpace (b : Int)) (b :: a) rest := by
  simp only [List.cons_append, split]
  rw [runs_same _ a [b] rest fun x hx => h x (by simp [hx])]
  rfl

/-! The program's. -/
theorem Split_step (LK : LKT) (b : Nat) (bs : List Nat) (pos : Nat) (s : List Nat) (l : List (List Nat)) (fr : Nat) (was : Bool) (fl : Bool) (K : KT) :
   elV TC0 [] pu LK l_chars_Split_0 (mkE 44 [(0, .str s), (3, .whole (.loc 3)), (4, .int .i64 fr), (5, .bool was), (10, .ptr (.loc 10) 0)]) (hL 0 (loL [(3, .seq (.ty .strs l) fl), (10, .iter (b :: bs) pos)])) K =
  bif decide ((pos : Int) > 0) then
    bif !isSpace ↑(decode (b :: bs)).fst == was then
      bif fr.ble pos then
        bif pos.ble s.length then
          bif (List.take (pos - fr) (List.drop fr s)).length.ble 100000 then
          bif (Sq.ty U.strs (l ++ [List.take (pos - fr) (List.drop fr s)])).len.ble 1000000 && true then
            K (AEx.normal) (mkE 44 [(0, V.str s), (3, V.whole (Cd.loc 3)), (4, V.int IntKind.i64 ↑pos), (5, V.bool (isSpace ↑(decode (b :: bs)).fst)), (10, V.ptr (Cd.loc 10) 0)]) (hL 0 (loL [(3, O2.seq (Sq.ty U.strs (l ++ [List.take (pos - fr) (List.drop fr s)])) fl), (10, O2.iter (List.drop (decode (b :: bs)).snd (b :: bs)) (pos + (decode (b :: bs)).snd))]))
          else
            none
          else
            none
        else
          none
      else
        none
    else
      K (AEx.normal) (mkE 44 [(0, V.str s), (3, V.whole (Cd.loc 3)), (4, V.int IntKind.i64 ↑fr), (5, V.bool (isSpace ↑(decode (b :: bs)).fst)), (10, V.ptr (Cd.loc 10) 0)]) (hL 0 (loL [(3, O2.seq (Sq.ty U.strs l) fl), (10, O2.iter (List.drop (decode (b :: bs)).snd (b :: bs)) (pos + (decode (b :: bs)).snd))]))
  else
    K (AEx.normal) (mkE 44 [(0, V.str s), (3, V.whole (Cd.loc 3)), (4, V.int IntKind.i64 ↑fr), (5, V.bool (isSpace ↑(decode (b :: bs)).fst)), (10, V.ptr (Cd.loc 10) 0)]) (hL 0 (loL [(3, O2.seq (Sq.ty U.strs l) fl), (10, O2.iter (List.drop (decode (b :: bs)).snd (b :: bs)) (pos + (decode (b :: bs)).snd))])) := by
  kernel_rfl
theorem Split_end (LK : LKT) (pos : Nat) (s : List Nat) (l : List (List Nat)) (fr : Nat) (was : Bool) (fl : Bool) (K : KT) :
   elV TC0 [] pu LK l_chars_Split_0 (mkE 44 [(0, .str s), (3, .whole (.loc 3)), (4, .int .i64 fr), (5, .bool was), (10, .ptr (.loc 10) 0)]) (hL 0 (loL [(3, .seq (.ty .strs l) fl), (10, .iter [] pos)])) K =
   K (AEx.exit 0) (mkE 44 [(0, V.str s), (3, V.whole (Cd.loc 3)), (4, V.int IntKind.i64 ↑fr)]) (hL 0 (loL [(3, O2.seq (Sq.ty U.strs l) fl)])) := by
  kernel_rfl

/-- What the loop leaves: the runs that are over, the place where the last one begins. -/
theorem Split_loop (s : List Nat) (hs : s.length ≤ 100000) (fl : Bool) (K : KT) : ∀ (f pos fr : Nat) (was : Bool) (l : List (List Nat)), s.length ≤ pos + f → pos ≤ s.length → fr ≤ pos → l.length ≤ pos →
    (pos = 0 → fr = 0) →
    ∃ l' fr', lpV TC0 [] pu (f + 1) l_chars_Split_0 (mkE 44 [(0, .str s), (3, .whole (.loc 3)), (4, .int .i64 fr), (5, .bool was), (10, .ptr (.loc 10) 0)]) (hL 0 (loL [(3, .seq (.ty .strs l) fl), (10, .iter (s.drop pos) pos)])) K =
      K (.exit 0) (mkE 44 [(0, .str s), (3, .whole (.loc 3)), (4, .int .i64 (fr' : Nat))]) (hL 0 (loL [(3, .seq (.ty .strs l') fl)])) ∧ fr' ≤ s.length ∧ l'.length ≤ s.length ∧
      (0 < pos → l' ++ [s.drop fr'] = l ++ runs was (s.drop fr |>.take (pos - fr)) (s.drop pos)) ∧ (pos = 0 → l = [] → s ≠ [] → l' ++ [s.drop fr'] = split s) ∧ (s = [] → l' = l) := by
  have fin : ∀ (n pos fr : Nat) (was : Bool) (l : List (List Nat)), pos = s.length → fr ≤ pos → l.length ≤ pos → ∃ l' fr', lpV TC0 [] pu (n + 1) l_chars_Split_0 (mkE 44 [(0, .str s), (3, .whole (.loc 3)), (4, .int .i64 fr), (5, .bool was), (10, .ptr (.loc 10) 0)]) (hL 0 (loL [(3, .seq (.ty .strs l) fl), (10, .iter (s.drop pos) pos)])) K =
      K (.exit 0) (mkE 44 [(0, .str s), (3, .whole (.loc 3)), (4, .int .i64 (fr' : Nat))]) (hL 0 (loL [(3, .seq (.ty .strs l') fl)])) ∧ fr' ≤ s.length ∧ l'.length ≤ s.length ∧
      (0 < pos → l' ++ [s.drop fr'] = l ++ runs was (s.drop fr |>.take (pos - fr)) (s.drop pos)) ∧ (pos = 0 → l = [] → s ≠ [] → l' ++ [s.drop fr'] = split s) ∧ (s = [] → l' = l) := by
    intro n pos fr was l hp hfr hl
    refine ⟨l, fr, ?_, by omega, by omega, fun _ => ?_, fun h0 _ hne => ?_, fun _ => rfl⟩
    · rw [lpV_succ, List.drop_eq_nil_of_le (by omega), Split_end]; rfl
    · rw [List.drop_eq_nil_of_le (by omega : s.length ≤ pos), List.take_of_length_le (by rw [List.length_drop]; omega)]
      rfl
    · exfalso; apply hne; apply List.length_eq_zero_iff.1; omega
  intro f
  induction f with
  | zero =>
    intro pos fr was l hf hp hfr hl h0
    exact fin 0 pos fr was l (by omega) hfr hl
  | succ f ih =>
    intro pos fr was l hf hp hfr hl h0
    by_cases hlt : pos < s.length
    case neg => exact fin (f + 1) pos fr was l (by omega) hfr hl
    -- the next rune
    obtain ⟨b, bs, hbs⟩ : ∃ b bs, s.drop pos = b :: bs := ⟨s[pos], s.drop (pos + 1), (List.getElem_cons_drop (h := hlt)).symm⟩
    obtain ⟨w1, w2⟩ := decode_width2 b bs
    have hk := decode_kind b bs
    rw [hbs]
    have hdrop : (b :: bs).drop (decode (b :: bs)).2 = s.drop (pos + (decode (b :: bs)).2) := by rw [← hbs, List.drop_drop]
    have hlen : (b :: bs).length = s.length - pos := by rw [← hbs, List.length_drop]
    generalize hw : (decode (b :: bs)).2 = w at *
    generalize hr : (decode (b :: bs)).1 = r at *
    obtain ⟨a, ha⟩ : ∃ a, (b :: bs).take w = b :: a := by
      obtain ⟨m, rfl⟩ : ∃ m, w = m + 1 := ⟨w - 1, by omega⟩
      exact ⟨bs.take m, rfl⟩
    rw [ha] at hk
    have hb := hk b (by simp)
    have hk' : ∀ x ∈ b :: a, isSpace (x : Int) = isSpace (b : Int) := fun x hx => by rw [hk x hx, hb]
    have hsp : s.drop pos = b :: a ++ s.drop (pos + w) := by rw [hbs, ← ha, ← hdrop, List.take_append_drop]
    have hbl : b :: bs = b :: a ++ s.drop (pos + w) := by rw [← hbs]; exact hsp
    have hal : (b :: a).length = w := by rw [← ha, List.length_take]; omega
    have hcur : fr ≤ pos → (s.drop fr).take (pos + w - fr) = (s.drop fr).take (pos - fr) ++ (b :: a) := by
      intro _
      have e1 : s.drop fr = (s.drop fr).take (pos - fr) ++ s.drop pos := by
        conv => lhs; rw [← List.take_append_drop (pos - fr) (s.drop fr)]
        rw [List.drop_drop, show fr + (pos - fr) = pos by omega]
      have e2 : ((s.drop fr).take (pos - fr)).length = pos - fr := by rw [List.length_take, List.length_drop]; omega
      generalize (s.drop fr).take (pos - fr) = c at *
      rw [e1, hsp, ← List.append_assoc, List.take_left' (by rw [List.length_append, e2, hal]; omega)]
    have hnew : (s.drop pos).take (pos + w - pos) = b :: a := by
      rw [hsp, show pos + w - pos = w by omega, List.take_left' hal]
    rw [lpV_succ, Split_step, hw, hr, hdrop]
    by_cases hpos : 0 < pos
    · have d1 : decide ((pos : Int) > 0) = true := by simp; omega
      rw [d1]
      simp only [cond_true, kL_n]
      cases hq : (!isSpace (r : Int) == was) with
      | false =>
        simp only [cond_false]
        have hqs : isSpace (r : Int) = was := by simpa using hq
        obtain ⟨l', fr', k1, k2, k3, k4, k5, k6⟩ := ih (pos + w) fr (isSpace (r : Int)) l (by omega) (by omega) (by omega) (by omega) (by omega)
        refine ⟨l', fr', k1, k2, k3, fun _ => ?_, fun h => by omega, k6⟩
        rw [k4 (by omega), hcur hfr, hqs, hbl, runs_same was (b :: a) _ _ (fun x hx => by rw [hk x hx, hqs])]
      | true =>
        simp only [cond_true]
        have hqs : isSpace (r : Int) ≠ was := by simpa using hq
        have d2 : fr.ble pos = true := by simpa using hfr
        have d3 : pos.ble s.length = true := by simpa using hp
        have d4 : ((Sq.ty U.strs (l ++ [List.take (pos - fr) (List.drop fr s)])).len.ble 1000000 && true) = true := by simp [Sq.len]; omega
        have d5 : (List.take (pos - fr) (List.drop fr s)).length.ble 100000 = true := by rw [Nat.ble_eq, List.length_take, List.length_drop]; omega
        rw [d2, d3, d4, d5]
        simp only [cond_true]
        obtain ⟨l', fr', k1, k2, k3, k4, k5, k6⟩ := ih (pos + w) pos (isSpace (r : Int)) (l ++ [List.take (pos - fr) (List.drop fr s)]) (by omega) (by omega) (by omega) (by simp; omega) (by omega)
        refine ⟨l', fr', k1, k2, k3, fun _ => ?_, fun h => by omega, fun h => by subst h; simp at hlt⟩
        rw [k4 (by omega), hnew, hbl, runs_other (by rw [hb]; exact hqs) hk', hb]
        simp
    · have d1 : decide ((pos : Int) > 0) = false := by simp; omega
      rw [d1]
      simp only [cond_false, kL_n]
      have hp0 : pos = 0 := by omega
      obtain ⟨l', fr', k1, k2, k3, k4, k5, k6⟩ := ih (pos + w) fr (isSpace (r : Int)) l (by omega) (by omega) (by omega) (by omega) (by omega)
      refine ⟨l', fr', k1, k2, k3, fun h => by omega, fun _ hl0 _ => ?_, k6⟩
      have hf0 := h0 hp0
      subst hp0 hf0 hl0
      rw [k4 (by omega), hcur (Nat.le_refl _)]
      simp only [List.drop_zero, Nat.sub_self, List.take_zero, List.nil_append] at *
      conv => rhs; rw [hsp]
      rw [split_same hk', hb]

theorem Split_start (LK : LKT) (s : List Nat) (K : KT) : elV TC0 [] pu LK c_chars_Split.body ([.str s] ++ undefsV 43) HV.emp K = LK l_chars_Split_0 (mkE 44 [(0, .str s), (3, .whole (.loc 3)), (4, .int .i64 (0 : Nat)), (5, .bool false), (10, .ptr (.loc 10) 0)]) (hL 0 (loL [(3, .seq (.ty .strs []) true), (10, .iter s 0)]))
      (kB 0 (kS TC0 [] pu LK c_chars_Split.body.snd.snd.snd.snd K)) := by
  kernel_rfl
theorem Split_fin (LK : LKT) (s : List Nat) (fr' : Nat) (l' : List (List Nat)) : kB 0 (kS TC0 [] pu LK c_chars_Split.body.snd.snd.snd.snd (retV c_chars_Split.res)) (.exit 0) (mkE 44 [(0, .str s), (3, .whole (.loc 3)), (4, .int .i64 (fr' : Nat))]) (hL 0 (loL [(3, .seq (.ty .strs l') true)])) =
    bif !(s.length == 0) then bif fr'.ble s.length then (bif s.length.ble s.length then (bif (List.take (s.length - fr') (List.drop fr' s)).length.ble 100000 then (bif (Sq.ty U.strs (l' ++ [List.take (s.length - fr') (List.drop fr' s)])).len.ble 1000000 && true then
          some (.vs false (.ty .strs (l' ++ [List.take (s.length - fr') (List.drop fr' s)])), HV.emp, []) else none) else none) else none) else none else some (.vs false (.ty .strs l'), HV.emp, []) := by
  cases s with
  | nil => show (_ : Option RA) = _
           kernel_rfl
  | cons b bs => show (_ : Option RA) = _
                 kernel_rfl
theorem Split_run (s : List Nat) (hs : s.length ≤ 100000) : run TC0 (s.length + 1) c_chars_Split [.str s] = some (.vs false (.ty .strs (split s)), HV.emp, []) := by
  refine (Split_start _ s _).trans ?_
  obtain ⟨l', fr', k1, k2, k3, k4, k5, k6⟩ := Split_loop s hs true (kB 0 (kS TC0 [] pu (lpV TC0 [] pu (s.length + 1)) c_chars_Split.body.snd.snd.snd.snd (retV c_chars_Split.res))) s.length 0 0 false [] (by omega) (by omega) (by omega) (by simp) (fun _ => rfl)
  refine k1.trans ?_
  rw [Split_fin]
  cases s with
  | nil =>
    have := k6 rfl
    subst this
    rfl
  | cons b bs =>
    have e := k5 rfl rfl (by simp)
    rw [← e]
    have d1 : fr'.ble (b :: bs).length = true := by simpa using k2
    have d2 : (b :: bs).length.ble (b :: bs).length = true := by simp
    have d3 : ((Sq.ty U.strs (l' ++ [List.take ((b :: bs).length - fr') (List.drop fr' (b :: bs))])).len.ble 1000000 && true) = true := by simp [Sq.len] at *; omega
    have d4 : (List.take ((b :: bs).length - fr') (List.drop fr' (b :: bs))).length.ble 100000 = true := by rw [Nat.ble_eq, List.length_take, List.length_drop]; omega
    rw [d1, d2, d4, d3, List.take_of_length_le (by rw [List.length_drop]; exact Nat.le_refl _)]
    rfl
end Go.Am

/- The reference's Split. -/
namespace Go.Am

theorem rSplit_step (LK : LKT) (s : List Nat) (l : List (List Nat)) (fl : Bool) (fr i : Nat) (K : KT) :
   elV TC0 [] pu LK l_arbourref4_Split_0 (mkE 39 [(0, .str s), (3, .whole (.loc 3)), (4, .int .i64 fr), (5, .int .i64 (i + 1 : Nat))]) (hL 0 (loL [(3, .seq (.ty .strs l) fl)])) K =
  bif decide (((i + 1 : Nat) : Int) ≤ (s.length : Nat)) then
    bif ((i + 1 : Nat) : Int) == (s.length : Nat) then
      bif fr.ble (i + 1) then
        bif (i + 1).ble s.length then
          bif (Sq.ty U.strs (l ++ [List.take (i + 1 - fr) (List.drop fr s)])).len.ble 1000000 && true then
            K (AEx.normal) (mkE 39 [(0, V.str s), (3, V.whole (Cd.loc 3)), (4, V.int IntKind.i64 ↑(i + 1)), (5, V.int IntKind.i64 (IntKind.i64.wrap (↑(i + 1) + 1)))]) (hL 0 (loL [(3, O2.seq (Sq.ty U.strs (l ++ [List.take (i + 1 - fr) (List.drop fr s)])) fl)]))
          else
            none
        else
          none
      else
        none
    else
      (match s[i + 1]? with
      | .none  => none
      | .some v3_0 => (match IntKind.i64.wrap (((i + 1 : Nat) : Int) - 1) with
        | .ofNat v4_0 => (match s[v4_0]? with
          | .none  => none
          | .some v5_0 => bif !isSpace (IntKind.i32.wrap ↑v3_0) == isSpace (IntKind.i32.wrap ↑v5_0) then
              bif fr.ble (i + 1) then
                bif (i + 1).ble s.length then
                  bif (Sq.ty U.strs (l ++ [List.take (i + 1 - fr) (List.drop fr s)])).len.ble 1000000 && true then
                    K (AEx.normal) (mkE 39 [(0, V.str s), (3, V.whole (Cd.loc 3)), (4, V.int IntKind.i64 ↑(i + 1)), (5, V.int IntKind.i64 (IntKind.i64.wrap (↑(i + 1) + 1)))]) (hL 0 (loL [(3, O2.seq (Sq.ty U.strs (l ++ [List.take (i + 1 - fr) (List.drop fr s)])) fl)]))
                  else
                    none
                else
                  none
              else
                none
            else
              K (AEx.normal) (mkE 39 [(0, V.str s), (3, V.whole (Cd.loc 3)), (4, V.int IntKind.i64 ↑fr), (5, V.int IntKind.i64 (IntKind.i64.wrap (↑(i + 1) + 1)))]) (hL 0 (loL [(3, O2.seq (Sq.ty U.strs l) fl)])))
        | .negSucc v4_0 => none))
  else
    K (AEx.exit 0) (mkE 39 [(3, V.whole (Cd.loc 3))]) (hL 0 (loL [(3, O2.seq (Sq.ty U.strs l) fl)])) := by
  kernel_rfl

theorem rSplit_loop (s : List Nat) (hs : okS s = true) (fl : Bool) (K : KT) : ∀ (f i fr : Nat) (l : List (List Nat)), s.length ≤ i + f → i ≤ s.length → fr ≤ i → l.length ≤ i →
    lpV TC0 [] pu (f + 1) l_arbourref4_Split_0 (mkE 39 [(0, .str s), (3, .whole (.loc 3)), (4, .int .i64 fr), (5, .int .i64 (i + 1 : Nat))]) (hL 0 (loL [(3, .seq (.ty .strs l) fl)])) K =
      K (.exit 0) (mkE 39 [(3, .whole (.loc 3))]) (hL 0 (loL [(3, .seq (.ty .strs (match s[i]? with
        | some c => l ++ runs (isSpace (c : Int)) ((s.drop fr).take (i + 1 - fr)) (s.drop (i + 1))
        | none => l)) fl)])) := by
  simp only [okS, Bool.and_eq_true, decide_eq_true_eq, List.all_eq_true] at hs
  have fin : ∀ (n i fr : Nat) (l : List (List Nat)), i = s.length → lpV TC0 [] pu (n + 1) l_arbourref4_Split_0 (mkE 39 [(0, .str s), (3, .whole (.loc 3)), (4, .int .i64 fr), (5, .int .i64 (i + 1 : Nat))]) (hL 0 (loL [(3, .seq (.ty .strs l) fl)])) K =
      K (.exit 0) (mkE 39 [(3, .whole (.loc 3))]) (hL 0 (loL [(3, .seq (.ty .strs (match s[i]? with
        | some c => l ++ runs (isSpace (c : Int)) ((s.drop fr).take (i + 1 - fr)) (s.drop (i + 1))
        | none => l)) fl)])) := by
    intro n i fr l hi
    rw [lpV_succ, rSplit_step]
    have : decide (((i + 1 : Nat) : Int) ≤ (s.length : Nat)) = false := by simp; omega
    have hn : s[i]? = none := List.getElem?_eq_none (by omega)
    rw [this, cond_false, hn]; rfl
  intro f
  induction f with
  | zero => intro i fr l hf hi hfr hl; exact fin 0 i fr l (by omega)
  | succ f ih =>
    intro i fr l hf hi hfr hl
    by_cases hlt : i < s.length
    case neg => exact fin (f + 1) i fr l (by omega)
    have hg : s[i]? = some s[i] := List.getElem?_eq_getElem hlt
    have hb := hs.2 s[i] (List.getElem_mem hlt)
    have d1 : decide (((i + 1 : Nat) : Int) ≤ (s.length : Nat)) = true := by simp; omega
    have d2 : fr.ble (i + 1) = true := by simp; omega
    have d3 : (i + 1).ble s.length = true := by simp; omega
    have d4 : ((Sq.ty U.strs (l ++ [List.take (i + 1 - fr) (List.drop fr s)])).len.ble 1000000 && true) = true := by simp [Sq.len]; omega
    rw [lpV_succ, rSplit_step, d1, w64 (by omega)]
    simp only [cond_true, hg]
    by_cases he : i + 1 = s.length
    · have d5 : (((i + 1 : Nat) : Int) == (s.length : Nat)) = true := by simp; omega
      rw [d5, d2, d3, d4]
      simp only [cond_true]
      show lpV TC0 [] pu (f + 1) l_arbourref4_Split_0 _ _ K = _
      rw [ih (i + 1) (i + 1) _ (by omega) (by omega) (Nat.le_refl _) (by simp; omega), List.getElem?_eq_none (by omega : s.length ≤ i + 1), List.drop_eq_nil_of_le (by omega : s.length ≤ i + 1)]
      rfl
    · have d5 : (((i + 1 : Nat) : Int) == (s.length : Nat)) = false := by simp; omega
      have hg1 : s[i + 1]? = some (s[i + 1]'(by omega)) := List.getElem?_eq_getElem (by omega)
      have hb1 := hs.2 (s[i + 1]'(by omega)) (List.getElem_mem (by omega))
      have hw : IntKind.i64.wrap (((i + 1 : Nat) : Int) - 1) = Int.ofNat i := by rw [wrap_small _ (by omega) (by omega)]; simp
      rw [d5, hg1, hw]
      simp only [cond_false, hg]
      rw [wrap_i32_small _ (by omega) (by omega), wrap_i32_small _ (by omega) (by omega)]
      have hd1 : s.drop (i + 1) = s[i + 1]'(by omega) :: s.drop (i + 1 + 1) := (List.getElem_cons_drop (h := by omega)).symm
      have htake : (s.drop fr).take (i + 1 + 1 - fr) = (s.drop fr).take (i + 1 - fr) ++ [s[i + 1]'(by omega)] := by
        rw [show i + 1 + 1 - fr = (i + 1 - fr) + 1 by omega, List.take_add_one]
        congr 1
        rw [List.getElem?_drop, show fr + (i + 1 - fr) = i + 1 by omega, hg1]; rfl
      cases hq : (!isSpace ((s[i + 1]'(by omega) : Nat) : Int) == isSpace (s[i] : Int)) with
      | false =>
        simp only [cond_false]
        show lpV TC0 [] pu (f + 1) l_arbourref4_Split_0 _ _ K = _
        have hqs : isSpace ((s[i + 1]'(by omega) : Nat) : Int) = isSpace (s[i] : Int) := by simpa using hq
        rw [ih (i + 1) fr l (by omega) (by omega) (by omega) (by omega), hg1, htake]
        simp only
        rw [hd1]
        simp only [runs, hqs, beq_self_eq_true, cond_true]
      | true =>
        simp only [cond_true]
        have hqs : isSpace ((s[i + 1]'(by omega) : Nat) : Int) ≠ isSpace (s[i] : Int) := by simpa using hq
        rw [d2, d3, d4]
        simp only [cond_true]
        show lpV TC0 [] pu (f + 1) l_arbourref4_Split_0 _ _ K = _
        rw [ih (i + 1) (i + 1) _ (by omega) (by omega) (Nat.le_refl _) (by simp; omega), hg1]
        simp only
        rw [hd1]
        have hq2 : (isSpace ((s[i + 1]'(by omega) : Nat) : Int) == isSpace (s[i] : Int)) = false := by simpa using hqs
        simp only [runs, hq2, cond_false]
        have ht1 : (s.drop (i + 1)).take 1 = [s[i + 1]'(by omega)] := by rw [hd1]; rfl
        rw [hd1] at ht1
        rw [show i + 1 + 1 - (i + 1) = 1 by omega, ht1]
        simp

theorem rSplit_start (LK : LKT) (s : List Nat) (K : KT) : elV TC0 [] pu LK c_arbourref4_Split.body ([.str s] ++ undefsV 38) HV.emp K = LK l_arbourref4_Split_0 (mkE 39 [(0, .str s), (3, .whole (.loc 3)), (4, .int .i64 (0 : Nat)), (5, .int .i64 (0 + 1 : Nat))]) (hL 0 (loL [(3, .seq (.ty .strs []) true)]))
      (kB 0 (kS TC0 [] pu LK c_arbourref4_Split.body.snd.snd.snd.snd K)) := by
  kernel_rfl
theorem rSplit_fin (LK : LKT) (L : List (List Nat)) : kB 0 (kS TC0 [] pu LK c_arbourref4_Split.body.snd.snd.snd.snd (retV c_arbourref4_Split.res)) (.exit 0) (mkE 39 [(3, .whole (.loc 3))]) (hL 0 (loL [(3, .seq (.ty .strs L) true)])) = some (.vs false (.ty .strs L), HV.emp, []) := by
  kernel_rfl
theorem rSplit_run (s : List Nat) (hs : okS s = true) : run TC0 (s.length + 1) c_arbourref4_Split [.str s] = some (.vs false (.ty .strs (split s)), HV.emp, []) := by
  refine (rSplit_start _ s _).trans ?_
  rw [rSplit_loop s hs true _ s.length 0 0 [] (by omega) (by omega) (by omega) (by simp), rSplit_fin]
  cases s with
  | nil => rfl
  | cons b bs => simp [split]
end Go.Am

/- The functions without loops: tables. -/
namespace Go.Am

def okR (r : Int) : Bool := decide (-2147483648 ≤ r) && decide (r ≤ 2147483647)
def TC1 : TV := fun k f vs b h os K => match k, f, vs with
  | .pure, 7, [.str s, .int .i64 (.ofNat n)] => K (.str (s.take n)) h []
  | .pure, 8, [.str s] => bif okS s then K (.vs false (.ty .strs (split s))) h [] else none
  | .pure, 27, [.str s] => bif okS s then K (.vs false (.ty .strs (split s))) h [] else none
  | .pure, 9, [.str s] => bif okS s then K (.bool (rspaces s)) h [] else none
  | .pure, 26, [.str s] => bif okS s then K (.bool (rspaces s)) h [] else none
  | .pure, 11, [.str s] => bif okS s then K (.str (lower s)) h [] else none
  | .pure, 16, [.str s] => bif okS s then K (.str (lower s)) h [] else none
  | .pure, 17, [.int .i32 r] => bif okR r then K (.tup [.int .i64 (hexN r), .bool (hexB r)]) h [] else none
  | .pure, 22, [.int .i32 r] => bif okR r then K (.tup [.int .i64 (hexN r), .bool (hexB r)]) h [] else none
  | .pure, 21, [.vs _ x, .vs _ y] => x.tyK .strs fun x => y.tyK .strs fun y => match x, y with
    | .ty .strs a, .ty .strs b => bif a.length.ble 100000 then K (.bool (a == b)) h [] else none
    | _, _ => none
  | k, f, vs => TC0 k f vs b h os K
theorem Space_run (T : TV) (LK : LKT) (r : Int) : elV T [] pu LK c_chars_Space.body ([.int .i32 r] ++ undefsV 9) HV.emp (retV c_chars_Space.res) = some (.bool (isSpace r), HV.emp, []) := by
  have h : elV T [] pu LK c_chars_Space.body ([.int .i32 r] ++ undefsV 9) HV.emp (retV c_chars_Space.res) =
    bif r == 9 then
        some (V.bool true, (hL 0 (loL [])), [])
      else
        bif r == 10 then
          some (V.bool true, (hL 0 (loL [])), [])
        else
          bif r == 12 then
            some (V.bool true, (hL 0 (loL [])), [])
          else
            bif r == 13 then
              some (V.bool true, (hL 0 (loL [])), [])
            else
              bif r == 32 then
                some (V.bool true, (hL 0 (loL [])), [])
              else
                some (V.bool false, (hL 0 (loL [])), []) := by kernel_rfl
  rw [h]
  unfold isSpace
  cases r == 9 <;> cases r == 10 <;> cases r == 12 <;> cases r == 13 <;> cases r == 32 <;> rfl
theorem rSpace_run (T : TV) (LK : LKT) (r : Int) : elV T [] pu LK c_arbourref4_Space.body ([.int .i32 r] ++ undefsV (c_arbourref4_Space.slots - 1)) HV.emp (retV c_arbourref4_Space.res) = some (.bool (isSpace r), HV.emp, []) := by
  have h : elV T [] pu LK c_arbourref4_Space.body ([.int .i32 r] ++ undefsV (c_arbourref4_Space.slots - 1)) HV.emp (retV c_arbourref4_Space.res) =
    bif r == 9 then
        some (V.bool true, (hL 0 (loL [])), [])
      else
        bif r == 10 then
          some (V.bool true, (hL 0 (loL [])), [])
        else
          bif r == 12 then
            some (V.bool true, (hL 0 (loL [])), [])
          else
            bif r == 13 then
              some (V.bool true, (hL 0 (loL [])), [])
            else
              some (V.bool (r == 32), (hL 0 (loL [])), []) := by kernel_rfl
  rw [h]
  unfold isSpace
  cases r == 9 <;> cases r == 10 <;> cases r == 12 <;> cases r == 13 <;> cases r == 32 <;> rfl
theorem Letter_run (T : TV) (LK : LKT) (r : Int) : elV T [] pu LK c_chars_Letter.body ([.int .i32 r] ++ undefsV 16) HV.emp (retV c_chars_Letter.res) = some (.bool (isLetter r), HV.emp, []) := by
  have h : elV T [] pu LK c_chars_Letter.body ([.int .i32 r] ++ undefsV 16) HV.emp (retV c_chars_Letter.res) =
    bif decide (r ≥ 97) then
        bif decide (r ≤ 122) then
          some (V.bool true, (hL 0 (loL [])), [])
        else
          bif decide (r ≥ 65) then
            some (V.bool (decide (r ≤ 90)), (hL 0 (loL [])), [])
          else
            some (V.bool false, (hL 0 (loL [])), [])
      else
        bif decide (r ≥ 65) then
          some (V.bool (decide (r ≤ 90)), (hL 0 (loL [])), [])
        else
          some (V.bool false, (hL 0 (loL [])), []) := by kernel_rfl
  rw [h]
  simp only [isLetter, ge_iff_le]
  cases decide (97 ≤ r) <;> cases decide (r ≤ 122) <;> cases decide (65 ≤ r) <;> cases decide (r ≤ 90) <;> rfl
theorem Digit_run (T : TV) (LK : LKT) (r : Int) : elV T [] pu LK c_chars_Digit.body ([.int .i32 r] ++ undefsV 8) HV.emp (retV c_chars_Digit.res) = some (.bool (isDigit r), HV.emp, []) := by
  have h : elV T [] pu LK c_chars_Digit.body ([.int .i32 r] ++ undefsV 8) HV.emp (retV c_chars_Digit.res) =
    bif decide (r ≥ 48) then
        some (V.bool (decide (r ≤ 57)), (hL 0 (loL [])), [])
      else
        some (V.bool false, (hL 0 (loL [])), []) := by kernel_rfl
  rw [h]
  simp only [isDigit, ge_iff_le]
  cases decide (48 ≤ r) <;> cases decide (r ≤ 57) <;> rfl
theorem Hex_tree (LK : LKT) (r : Int) : elV TC0 [] pu LK c_chars_Hex.body ([.int .i32 r] ++ undefsV 31) HV.emp (retV c_chars_Hex.res) =
    bif isDigit r then
        some (V.tup [V.int IntKind.i64 (IntKind.i64.wrap (IntKind.i32.wrap (r - 48))), V.bool true], (hL 0 (loL [])), [])
      else
        bif decide (r ≥ 97) then
          bif decide (r ≤ 102) then
            some (V.tup [V.int IntKind.i64 (IntKind.i64.wrap (IntKind.i64.wrap (IntKind.i32.wrap (r - 97)) + 10)), V.bool true], (hL 0 (loL [])), [])
          else
            bif decide (r ≥ 65) then
              bif decide (r ≤ 70) then
                some (V.tup [V.int IntKind.i64 (IntKind.i64.wrap (IntKind.i64.wrap (IntKind.i32.wrap (r - 65)) + 10)), V.bool true], (hL 0 (loL [])), [])
              else
                some (V.tup [V.int IntKind.i64 0, V.bool false], (hL 0 (loL [])), [])
            else
              some (V.tup [V.int IntKind.i64 0, V.bool false], (hL 0 (loL [])), [])
        else
          bif decide (r ≥ 65) then
            bif decide (r ≤ 70) then
              some (V.tup [V.int IntKind.i64 (IntKind.i64.wrap (IntKind.i64.wrap (IntKind.i32.wrap (r - 65)) + 10)), V.bool true], (hL 0 (loL [])), [])
            else
              some (V.tup [V.int IntKind.i64 0, V.bool false], (hL 0 (loL [])), [])
          else
            some (V.tup [V.int IntKind.i64 0, V.bool false], (hL 0 (loL [])), []) := by kernel_rfl
theorem Hex_run (LK : LKT) (r : Int) (h : okR r = true) : elV TC0 [] pu LK c_chars_Hex.body ([.int .i32 r] ++ undefsV 31) HV.emp (retV c_chars_Hex.res) = some (.tup [.int .i64 (hexN r), .bool (hexB r)], HV.emp, []) := by
  rw [Hex_tree]
  simp only [okR, Bool.and_eq_true, decide_eq_true_eq] at h
  unfold hexN hexB
  simp only [ge_iff_le]
  cases hd : isDigit r with
  | true =>
    simp only [isDigit, Bool.and_eq_true, decide_eq_true_eq] at hd
    rw [wrap_i32_small _ (by omega) (by omega), wrap_small _ (by omega) (by omega)]; rfl
  | false =>
    cases h1 : decide (97 ≤ r) <;> cases h2 : decide (r ≤ 102) <;> cases h3 : decide (65 ≤ r) <;> cases h4 : decide (r ≤ 70) <;> simp only [cond_true, cond_false, Bool.and_true, Bool.and_false, Bool.true_and, Bool.false_and] <;> simp only [decide_eq_true_eq, decide_eq_false_iff_not] at h1 h2 h3 h4 <;> first | rfl | (exfalso; omega) | (rw [wrap_i32_small _ (by omega) (by omega), wrap_small (_ - _) (by omega) (by omega), wrap_small _ (by omega) (by omega)]; rfl)
theorem rHex_tree (LK : LKT) (r : Int) : elV TC0 [] pu LK c_arbourref4_Hex.body ([.int .i32 r] ++ undefsV 31) HV.emp (retV c_arbourref4_Hex.res) =
    bif isDigit r then
        some (V.tup [V.int IntKind.i64 (IntKind.i64.wrap (IntKind.i32.wrap (r - 48))), V.bool true], (hL 0 (loL [])), [])
      else
        bif decide (r ≥ 97) then
          bif decide (r ≤ 102) then
            some (V.tup [V.int IntKind.i64 (IntKind.i64.wrap (IntKind.i64.wrap (IntKind.i32.wrap (r - 97)) + 10)), V.bool true], (hL 0 (loL [])), [])
          else
            bif decide (r ≥ 65) then
              bif decide (r ≤ 70) then
                some (V.tup [V.int IntKind.i64 (IntKind.i64.wrap (IntKind.i64.wrap (IntKind.i32.wrap (r - 65)) + 10)), V.bool true], (hL 0 (loL [])), [])
              else
                some (V.tup [V.int IntKind.i64 0, V.bool false], (hL 0 (loL [])), [])
            else
              some (V.tup [V.int IntKind.i64 0, V.bool false], (hL 0 (loL [])), [])
        else
          bif decide (r ≥ 65) then
            bif decide (r ≤ 70) then
              some (V.tup [V.int IntKind.i64 (IntKind.i64.wrap (IntKind.i64.wrap (IntKind.i32.wrap (r - 65)) + 10)), V.bool true], (hL 0 (loL [])), [])
            else
              some (V.tup [V.int IntKind.i64 0, V.bool false], (hL 0 (loL [])), [])
          else
            some (V.tup [V.int IntKind.i64 0, V.bool false], (hL 0 (loL [])), []) := by kernel_rfl
theorem rHex_run (LK : LKT) (r : Int) (h : okR r = true) : elV TC0 [] pu LK c_arbourref4_Hex.body ([.int .i32 r] ++ undefsV 31) HV.emp (retV c_arbourref4_Hex.res) = some (.tup [.int .i64 (hexN r), .bool (hexB r)], HV.emp, []) := by
  rw [rHex_tree]
  simp only [okR, Bool.and_eq_true, decide_eq_true_eq] at h
  unfold hexN hexB
  simp only [ge_iff_le]
  cases hd : isDigit r with
  | true =>
    simp only [isDigit, Bool.and_eq_true, decide_eq_true_eq] at hd
    rw [wrap_i32_small _ (by omega) (by omega), wrap_small _ (by omega) (by omega)]; rfl
  | false =>
    cases h1 : decide (97 ≤ r) <;> cases h2 : decide (r ≤ 102) <;> cases h3 : decide (65 ≤ r) <;> cases h4 : decide (r ≤ 70) <;> simp only [cond_true, cond_false, Bool.and_true, Bool.and_false, Bool.true_and, Bool.false_and] <;> simp only [decide_eq_true_eq, decide_eq_false_iff_not] at h1 h2 h3 h4 <;> first | rfl | (exfalso; omega) | (rw [wrap_i32_small _ (by omega) (by omega), wrap_small (_ - _) (by omega) (by omega), wrap_small _ (by omega) (by omega)]; rfl)
theorem Head_run (T : TV) (LK : LKT) (s : List Nat) (n : Nat) : elV T [] pu LK c_arbourkeep_Head.body ([.str s, .int .i64 (.ofNat n)] ++ undefsV 11) HV.emp (retV c_arbourkeep_Head.res) = some (.str (s.take n), HV.emp, []) := by
  have h : elV T [] pu LK c_arbourkeep_Head.body ([.str s, .int .i64 (.ofNat n)] ++ undefsV 11) HV.emp (retV c_arbourkeep_Head.res) =
    bif decide (↑s.length > Int.ofNat n) then
        bif n.ble s.length then
          some (V.str (List.take n s), (hL 0 (loL [])), [])
        else
          none
      else
        some (V.str s, (hL 0 (loL [])), []) := by kernel_rfl
  rw [h]
  by_cases hn : n < s.length
  · have h1 : decide (((s.length : Nat) : Int) > Int.ofNat n) = true := by simp; omega
    have h2 : n.ble s.length = true := by simp; omega
    rw [h1, h2]; rfl
  · have h1 : decide (((s.length : Nat) : Int) > Int.ofNat n) = false := by simp; omega
    rw [h1, List.take_of_length_le (by omega)]; rfl
theorem cSame_run (LK : LKT) (s t : List Nat) (hs : okS s = true) (ht : okS t = true) : elV TC1 [] pu LK c_chars_Same.body ([.str s, .str t] ++ undefsV 8) HV.emp (retV c_chars_Same.res) = some (.bool (lower s == lower t), HV.emp, []) := by
  have h : elV TC1 [] pu LK c_chars_Same.body ([.str s, .str t] ++ undefsV 8) HV.emp (retV c_chars_Same.res) =
    bif okS s then
        bif okS t then
          some (V.bool (lower s == lower t), (hL 0 (loL [])), [])
        else
          none
      else
        none := by kernel_rfl
  rw [h, hs, ht]; rfl
theorem runs_length (k : Bool) : ∀ (l cur : List Nat), (runs k cur l).length ≤ l.length + 1
  | [], cur => by simp [runs]
  | b :: l, cur => by
    unfold runs
    cases isSpace (b : Int) == k with
    | true => have := runs_length k l (cur ++ [b]); simp only [cond_true, List.length_cons]; omega
    | false => have := runs_length (isSpace (b : Int)) l [b]; simp only [cond_false, List.length_cons]; omega
theorem split_length (s : List Nat) : (split s).length ≤ s.length := by
  cases s with
  | nil => simp [split]
  | cons b l => have := runs_length (isSpace (b : Int)) l [b]; simpa [split] using this
theorem beq_b (b : Bool) : (bif false then !b == b else b == b) = true := by cases b <;> rfl
theorem same_tree (LK : LKT) (s : List Nat) : elV TC1 [] pu LK c_arbourlaw4_same.body ([.str s] ++ undefsV 21) HV.emp (retV c_arbourlaw4_same.res) =
    bif okS s then
        bif okS s then
          bif lower s == lower s then
            bif okS s then
              bif okS s then
                bif bif false then !rspaces s == rspaces s else rspaces s == rspaces s then
                  bif okS s then
                    bif okS s then
                      bif (split s).length.ble 100000 then
                        some (V.bool (split s == split s), (hL 0 (loL [])), [])
                      else
                        none
                    else
                      none
                  else
                    none
                else
                  some (V.bool false, (hL 0 (loL [])), [])
              else
                none
            else
              none
          else
            some (V.bool false, (hL 0 (loL [])), [])
        else
          none
      else
        none := by kernel_rfl
theorem same_run (LK : LKT) (s : List Nat) (hs : okS s = true) : elV TC1 [] pu LK c_arbourlaw4_same.body ([.str s] ++ undefsV 21) HV.emp (retV c_arbourlaw4_same.res) = some (.bool true, HV.emp, []) := by
  have hl : (split s).length.ble 100000 = true := by
    have h1 := split_length s
    simp only [okS, Bool.and_eq_true, decide_eq_true_eq] at hs
    simp; omega
  rw [same_tree, hs, hl, beq_b, beq_self_eq_true, beq_self_eq_true]; rfl
theorem one_tree (LK : LKT) (r : Int) : elV TC1 [] pu LK c_arbourlaw4_one.body ([.int .i32 r] ++ undefsV 45) HV.emp (retV c_arbourlaw4_one.res) =
    bif okR r then
        bif okR r then
          bif bif false then !isSpace r == isSpace r else isSpace r == isSpace r then
            bif bif false then !isLetter r == isLetter r else isLetter r == isLetter r then
              bif bif false then !isDigit r == isDigit r else isDigit r == isDigit r then
                bif hexN r == hexN r then
                  some (V.bool (bif false then !hexB r == hexB r else hexB r == hexB r), (hL 0 (loL [])), [])
                else
                  some (V.bool false, (hL 0 (loL [])), [])
              else
                some (V.bool false, (hL 0 (loL [])), [])
            else
              some (V.bool false, (hL 0 (loL [])), [])
          else
            some (V.bool false, (hL 0 (loL [])), [])
        else
          none
      else
        none := by kernel_rfl
theorem one_run (LK : LKT) (r : Int) (h : okR r = true) : elV TC1 [] pu LK c_arbourlaw4_one.body ([.int .i32 r] ++ undefsV 45) HV.emp (retV c_arbourlaw4_one.res) = some (.bool true, HV.emp, []) := by
  rw [one_tree, h, beq_b, beq_b, beq_b, beq_b, beq_self_eq_true]; rfl
theorem known_run (LK : LKT) : elV TC1 [] pu LK c_arbourlaw4_known.body (undefsV 14) HV.emp (retV c_arbourlaw4_known.res) = some (.bool true, HV.emp, []) := by kernel_rfl
end Go.Am

/- The laws of the chars. -/
namespace Go.Am

def TC2 : TV := fun k f vs b h os K => match k, f, vs with
  | .pure, 12, [] => K (.bool true) h []
  | .pure, 13, [.int .i32 r] => bif okR r then K (.bool true) h [] else none
  | .pure, 14, [.str s] => bif okS s then K (.bool true) h [] else none
  | .pure, 15, [.str s, .str t] => bif okS s then bif okS t then K (.bool (lower s == lower t)) h [] else none else none
  | k, f, vs => TC1 k f vs b h os K
end Go.Am

/- CharsTells and CharsNumbers. -/
namespace Go.Am
theorem okS_take {s : List Nat} (h : ∀ b ∈ s, b < 256) {n : Nat} (hn : n ≤ 100000) : okS (s.take n) = true := by
  simp only [okS, Bool.and_eq_true, decide_eq_true_eq, List.all_eq_true]
  refine ⟨by rw [List.length_take]; omega, fun b hb => h b (List.mem_of_mem_take hb)⟩
theorem lowB_lowB (b : Nat) : lowB (lowB b) = lowB b := by
  unfold lowB
  cases h : decide (65 ≤ b) && decide (b ≤ 90) with
  | true =>
    simp only [Bool.and_eq_true, decide_eq_true_eq] at h
    have h1 : (decide (65 ≤ b + 32) && decide (b + 32 ≤ 90)) = false := by
      simp only [Bool.and_eq_false_iff, decide_eq_false_iff_not]; omega
    simp only [cond_true, h1, cond_false]
  | false => simp only [cond_false, h]
theorem lower_lower (s : List Nat) : lower (lower s) = lower s := by
  simp only [lower, List.map_map]
  exact List.map_congr_left fun b _ => lowB_lowB b
theorem lowB_lt {b : Nat} (h : b < 256) : lowB b < 256 := by
  unfold lowB
  cases hc : decide (65 ≤ b) && decide (b ≤ 90) with
  | true => simp only [Bool.and_eq_true, decide_eq_true_eq] at hc; simp only [cond_true]; omega
  | false => exact h
theorem okS_lower {s : List Nat} (h : okS s = true) : okS (lower s) = true := by
  simp only [okS, Bool.and_eq_true, decide_eq_true_eq, List.all_eq_true, lower, List.length_map, List.mem_map] at h ⊢
  refine ⟨h.1, fun b hb => ?_⟩
  obtain ⟨a, ha, rfl⟩ := hb
  exact lowB_lt (h.2 a ha)

theorem Tells_tree (LK : LKT) (r : Int) (s t : List Nat) : elV TC2 [] pu LK c_arbourlaw4_CharsTells.body ([.int .i32 r, .str s, .str t] ++ undefsV 34) HV.emp (retV c_arbourlaw4_CharsTells.res) =
    bif okR r then
        bif okS (List.take 200 s) then
          bif okS (List.take 200 s) then
            bif okS (List.take 200 t) then
              bif okS (List.take 200 s) then
                bif okS (List.take 200 t) then
                  bif bif false then
      !(lower (List.take 200 s) == lower (List.take 200 t)) == (lower (List.take 200 s) == lower (List.take 200 t))
    else (lower (List.take 200 s) == lower (List.take 200 t)) == (lower (List.take 200 s) == lower (List.take 200 t)) then
                    bif okS (List.take 200 s) then
                      bif okS (List.take 200 s) then
                        bif okS (lower (List.take 200 s)) then
                          bif lower (List.take 200 s) == lower (lower (List.take 200 s)) then
                            some (V.bool true, (hL 0 (loL [])), [])
                          else
                            some (V.bool false, (hL 0 (loL [])), [])
                        else
                          none
                      else
                        none
                    else
                      none
                  else
                    some (V.bool false, (hL 0 (loL [])), [])
                else
                  none
              else
                none
            else
              none
          else
            none
        else
          none
      else
        none := by kernel_rfl
theorem Tells_run (LK : LKT) (r : Int) (s t : List Nat) (hr : okR r = true) (hs : ∀ b ∈ s, b < 256) (ht : ∀ b ∈ t, b < 256) : elV TC2 [] pu LK c_arbourlaw4_CharsTells.body ([.int .i32 r, .str s, .str t] ++ undefsV 34) HV.emp (retV c_arbourlaw4_CharsTells.res) = some (.bool true, HV.emp, []) := by
  rw [Tells_tree, hr, okS_take hs (by omega), okS_take ht (by omega), okS_lower (okS_take hs (by omega)), lower_lower, beq_b, beq_self_eq_true]; rfl
theorem Numbers_step (LK : LKT) (K : KT) (r : Int) : elV TC2 [] pu LK l_arbourlaw4_CharsNumbers_0 (mkE 25 [(1, .int .i32 r)]) HV.emp K =
    bif decide (r < 300) then bif okR r then bif okS (utf8 r) then K .normal (mkE 25 [(1, .int .i32 (IntKind.i32.wrap (r + 1)))]) HV.emp else none else none else K (.exit 0) (mkE 25 []) HV.emp := by
  kernel_rfl
theorem Numbers_loop (hu : ∀ r : Int, okS (utf8 r) = true) (K : KT) : ∀ (f : Nat) (r : Int), r ≤ 300 → 300 ≤ r + f → -2 ≤ r → lpV TC2 [] pu (f + 1) l_arbourlaw4_CharsNumbers_0 (mkE 25 [(1, .int .i32 r)]) HV.emp K = K (.exit 0) (mkE 25 []) HV.emp := by
  intro f
  induction f with
  | zero =>
    intro r h1 h2 h3
    rw [lpV_succ, Numbers_step]
    have : decide (r < 300) = false := by simp; omega
    rw [this]; rfl
  | succ f ih =>
    intro r h1 h2 h3
    rw [lpV_succ, Numbers_step]
    by_cases hr : r < 300
    · have e1 : decide (r < 300) = true := by simpa using hr
      have e2 : okR r = true := by simp only [okR, Bool.and_eq_true, decide_eq_true_eq]; omega
      rw [e1, e2, hu]
      simp only [cond_true, kL_n]
      have ew : IntKind.i32.wrap (r + 1) = r + 1 := by
        by_cases h0 : 0 ≤ r + 1
        · exact wrap_i32_small (r + 1) (by omega) (by omega)
        · have : r = -2 := by omega
          subst this; rfl
      rw [ew]
      exact ih (r + 1) (by omega) (by rw [Int.natCast_add] at h2; omega) (by omega)
    · have : decide (r < 300) = false := by simp; omega
      rw [this]; rfl
theorem Numbers_start (LK : LKT) (K : KT) : elV TC2 [] pu LK c_arbourlaw4_CharsNumbers.body (undefsV 25) HV.emp K = LK l_arbourlaw4_CharsNumbers_0 (mkE 25 [(1, .int .i32 (-2))]) HV.emp (kB 0 (kS TC2 [] pu LK c_arbourlaw4_CharsNumbers.body.snd.snd K)) := by
  kernel_rfl
theorem Numbers_fin (LK : LKT) : kB 0 (kS TC2 [] pu LK c_arbourlaw4_CharsNumbers.body.snd.snd (retV c_arbourlaw4_CharsNumbers.res)) (.exit 0) (mkE 25 []) HV.emp = some (.bool true, HV.emp, []) := by
  kernel_rfl
theorem okS_utf8 (r : Int) : okS (utf8 r) = true := by
  have hc : ∃ c : Nat, c < 1114112 ∧ utf8 r = (if c < 0x80 then [c]
    else if c < 0x800 then [0xC0 + c / 64, 0x80 + c % 64]
    else if c < 0x10000 then [0xE0 + c / 4096, 0x80 + c / 64 % 64, 0x80 + c % 64]
    else [0xF0 + c / 262144, 0x80 + c / 4096 % 64, 0x80 + c / 64 % 64, 0x80 + c % 64]) := by
    refine ⟨_, ?_, rfl⟩
    split
    · rename_i h
      simp only [Bool.or_eq_true, Bool.and_eq_true, decide_eq_true_eq] at h
      omega
    · omega
  obtain ⟨c, h1, h2⟩ := hc
  rw [h2]
  split
  · simp [okS]; omega
  · split
    · simp [okS]; omega
    · split
      · simp [okS]; omega
      · simp [okS]; omega
theorem Numbers_run : run TC2 303 c_arbourlaw4_CharsNumbers [] = some (.bool true, HV.emp, []) := by
  refine (Numbers_start _ _).trans ?_
  rw [Numbers_loop okS_utf8 _ 302 (-2) (by omega) (by omega) (by omega), Numbers_fin]
end Go.Am

/- CharsKinds. -/
namespace Go.Am
theorem elV_seq (T : TV) (fr : Fr) (ba : Ba) (LK : LKT) (a b : ACode) (e : List V) (h : HV) (K : KT) : elV T fr ba LK (.seq a b) e h K = elV T fr ba LK a e h (kS T fr ba LK b K) := rfl
theorem elV_block (T : TV) (fr : Fr) (ba : Ba) (LK : LKT) (i : Nat) (b : ACode) (e : List V) (h : HV) (K : KT) : elV T fr ba LK (.block i b) e h K = elV T fr ba LK b e h (kB i K) := rfl
def ACode.blk : ACode → ACode
  | .block _ a => a
  | _ => .skip
def kiB : ACode := l_arbourlaw4_CharsKinds_0.snd.fst.snd.snd.blk
def kiR : ACode := kiB.snd.snd.fst
def kiR2 : ACode := kiB.snd.snd.snd.snd
set_option maxRecDepth 100000 in
theorem kinds_R (LK : LKT) (K : KT) (c n : Int) (hx : Bool) (s : List Nat) (w19 w20 w21 w22 w23 : V) (w16 w17 w18 : V) (it : O2) : elV TC2 [] pu LK (.seq kiR.fst kiR.snd.fst) (mkE 100 [(1, .str s), (6, .int .i32 c), (7, .int .i64 n), (8, .bool hx), (15, .ptr (.loc 15) 0), (16, w16), (17, w17), (18, w18), (19, w19), (20, w20), (21, w21), (22, w22), (23, w23)]) (hL 0 (loL [(15, it)])) K =
    bif isSpace c then
        bif isLetter c then
          K .normal (mkE 100 [(1, .str s), (6, .int .i32 c), (15, .ptr (.loc 15) 0), (73, .bool true)]) (hL 0 (loL [(15, it)]))
        else
          bif isDigit c then
            K .normal (mkE 100 [(1, .str s), (6, .int .i32 c), (15, .ptr (.loc 15) 0), (73, .bool true)]) (hL 0 (loL [(15, it)]))
          else
            bif hx then
              K .normal (mkE 100 [(1, .str s), (6, .int .i32 c), (15, .ptr (.loc 15) 0), (73, .bool true)]) (hL 0 (loL [(15, it)]))
            else
              bif isLetter c then
                bif isDigit c then
                  K .normal (mkE 100 [(1, .str s), (6, .int .i32 c), (15, .ptr (.loc 15) 0), (73, .bool true)]) (hL 0 (loL [(15, it)]))
                else
                  bif isDigit c then
                    bif !hx then
                      K .normal (mkE 100 [(1, .str s), (6, .int .i32 c), (15, .ptr (.loc 15) 0), (73, .bool true)]) (hL 0 (loL [(15, it)]))
                    else
                      bif hx then
                        bif !isLetter c then
                          bif !isDigit c then
                            K .normal (mkE 100 [(1, .str s), (6, .int .i32 c), (15, .ptr (.loc 15) 0), (73, .bool true)]) (hL 0 (loL [(15, it)]))
                          else
                            bif decide (n < 0) then
                              K .normal (mkE 100 [(1, .str s), (6, .int .i32 c), (15, .ptr (.loc 15) 0), (73, .bool true)]) (hL 0 (loL [(15, it)]))
                            else
                              K .normal (mkE 100 [(1, .str s), (6, .int .i32 c), (15, .ptr (.loc 15) 0), (73, .bool (decide (n > 15)))]) (hL 0 (loL [(15, it)]))
                        else
                          bif decide (n < 0) then
                            K .normal (mkE 100 [(1, .str s), (6, .int .i32 c), (15, .ptr (.loc 15) 0), (73, .bool true)]) (hL 0 (loL [(15, it)]))
                          else
                            K .normal (mkE 100 [(1, .str s), (6, .int .i32 c), (15, .ptr (.loc 15) 0), (73, .bool (decide (n > 15)))]) (hL 0 (loL [(15, it)]))
                      else
                        bif decide (n < 0) then
                          K .normal (mkE 100 [(1, .str s), (6, .int .i32 c), (15, .ptr (.loc 15) 0), (73, .bool true)]) (hL 0 (loL [(15, it)]))
                        else
                          K .normal (mkE 100 [(1, .str s), (6, .int .i32 c), (15, .ptr (.loc 15) 0), (73, .bool (decide (n > 15)))]) (hL 0 (loL [(15, it)]))
                  else
                    bif hx then
                      bif !isLetter c then
                        bif !isDigit c then
                          K .normal (mkE 100 [(1, .str s), (6, .int .i32 c), (15, .ptr (.loc 15) 0), (73, .bool true)]) (hL 0 (loL [(15, it)]))
                        else
                          bif decide (n < 0) then
                            K .normal (mkE 100 [(1, .str s), (6, .int .i32 c), (15, .ptr (.loc 15) 0), (73, .bool true)]) (hL 0 (loL [(15, it)]))
                          else
                            K .normal (mkE 100 [(1, .str s), (6, .int .i32 c), (15, .ptr (.loc 15) 0), (73, .bool (decide (n > 15)))]) (hL 0 (loL [(15, it)]))
                      else
                        bif decide (n < 0) then
                          K .normal (mkE 100 [(1, .str s), (6, .int .i32 c), (15, .ptr (.loc 15) 0), (73, .bool true)]) (hL 0 (loL [(15, it)]))
                        else
                          K .normal (mkE 100 [(1, .str s), (6, .int .i32 c), (15, .ptr (.loc 15) 0), (73, .bool (decide (n > 15)))]) (hL 0 (loL [(15, it)]))
                    else
                      bif decide (n < 0) then
                        K .normal (mkE 100 [(1, .str s), (6, .int .i32 c), (15, .ptr (.loc 15) 0), (73, .bool true)]) (hL 0 (loL [(15, it)]))
                      else
                        K .normal (mkE 100 [(1, .str s), (6, .int .i32 c), (15, .ptr (.loc 15) 0), (73, .bool (decide (n > 15)))]) (hL 0 (loL [(15, it)]))
              else
                bif isDigit c then
                  bif !hx then
                    K .normal (mkE 100 [(1, .str s), (6, .int .i32 c), (15, .ptr (.loc 15) 0), (73, .bool true)]) (hL 0 (loL [(15, it)]))
                  else
                    bif hx then
                      bif !isLetter c then
                        bif !isDigit c then
                          K .normal (mkE 100 [(1, .str s), (6, .int .i32 c), (15, .ptr (.loc 15) 0), (73, .bool true)]) (hL 0 (loL [(15, it)]))
                        else
                          bif decide (n < 0) then
                            K .normal (mkE 100 [(1, .str s), (6, .int .i32 c), (15, .ptr (.loc 15) 0), (73, .bool true)]) (hL 0 (loL [(15, it)]))
                          else
                            K .normal (mkE 100 [(1, .str s), (6, .int .i32 c), (15, .ptr (.loc 15) 0), (73, .bool (decide (n > 15)))]) (hL 0 (loL [(15, it)]))
                      else
                        bif decide (n < 0) then
                          K .normal (mkE 100 [(1, .str s), (6, .int .i32 c), (15, .ptr (.loc 15) 0), (73, .bool true)]) (hL 0 (loL [(15, it)]))
                        else
                          K .normal (mkE 100 [(1, .str s), (6, .int .i32 c), (15, .ptr (.loc 15) 0), (73, .bool (decide (n > 15)))]) (hL 0 (loL [(15, it)]))
                    else
                      bif decide (n < 0) then
                        K .normal (mkE 100 [(1, .str s), (6, .int .i32 c), (15, .ptr (.loc 15) 0), (73, .bool true)]) (hL 0 (loL [(15, it)]))
                      else
                        K .normal (mkE 100 [(1, .str s), (6, .int .i32 c), (15, .ptr (.loc 15) 0), (73, .bool (decide (n > 15)))]) (hL 0 (loL [(15, it)]))
                else
                  bif hx then
                    bif !isLetter c then
                      bif !isDigit c then
                        K .normal (mkE 100 [(1, .str s), (6, .int .i32 c), (15, .ptr (.loc 15) 0), (73, .bool true)]) (hL 0 (loL [(15, it)]))
                      else
                        bif decide (n < 0) then
                          K .normal (mkE 100 [(1, .str s), (6, .int .i32 c), (15, .ptr (.loc 15) 0), (73, .bool true)]) (hL 0 (loL [(15, it)]))
                        else
                          K .normal (mkE 100 [(1, .str s), (6, .int .i32 c), (15, .ptr (.loc 15) 0), (73, .bool (decide (n > 15)))]) (hL 0 (loL [(15, it)]))
                    else
                      bif decide (n < 0) then
                        K .normal (mkE 100 [(1, .str s), (6, .int .i32 c), (15, .ptr (.loc 15) 0), (73, .bool true)]) (hL 0 (loL [(15, it)]))
                      else
                        K .normal (mkE 100 [(1, .str s), (6, .int .i32 c), (15, .ptr (.loc 15) 0), (73, .bool (decide (n > 15)))]) (hL 0 (loL [(15, it)]))
                  else
                    bif decide (n < 0) then
                      K .normal (mkE 100 [(1, .str s), (6, .int .i32 c), (15, .ptr (.loc 15) 0), (73, .bool true)]) (hL 0 (loL [(15, it)]))
                    else
                      K .normal (mkE 100 [(1, .str s), (6, .int .i32 c), (15, .ptr (.loc 15) 0), (73, .bool (decide (n > 15)))]) (hL 0 (loL [(15, it)]))
      else
        bif isLetter c then
          bif isDigit c then
            K .normal (mkE 100 [(1, .str s), (6, .int .i32 c), (15, .ptr (.loc 15) 0), (73, .bool true)]) (hL 0 (loL [(15, it)]))
          else
            bif isDigit c then
              bif !hx then
                K .normal (mkE 100 [(1, .str s), (6, .int .i32 c), (15, .ptr (.loc 15) 0), (73, .bool true)]) (hL 0 (loL [(15, it)]))
              else
                bif hx then
                  bif !isLetter c then
                    bif !isDigit c then
                      K .normal (mkE 100 [(1, .str s), (6, .int .i32 c), (15, .ptr (.loc 15) 0), (73, .bool true)]) (hL 0 (loL [(15, it)]))
                    else
                      bif decide (n < 0) then
                        K .normal (mkE 100 [(1, .str s), (6, .int .i32 c), (15, .ptr (.loc 15) 0), (73, .bool true)]) (hL 0 (loL [(15, it)]))
                      else
                        K .normal (mkE 100 [(1, .str s), (6, .int .i32 c), (15, .ptr (.loc 15) 0), (73, .bool (decide (n > 15)))]) (hL 0 (loL [(15, it)]))
                  else
                    bif decide (n < 0) then
                      K .normal (mkE 100 [(1, .str s), (6, .int .i32 c), (15, .ptr (.loc 15) 0), (73, .bool true)]) (hL 0 (loL [(15, it)]))
                    else
                      K .normal (mkE 100 [(1, .str s), (6, .int .i32 c), (15, .ptr (.loc 15) 0), (73, .bool (decide (n > 15)))]) (hL 0 (loL [(15, it)]))
                else
                  bif decide (n < 0) then
                    K .normal (mkE 100 [(1, .str s), (6, .int .i32 c), (15, .ptr (.loc 15) 0), (73, .bool true)]) (hL 0 (loL [(15, it)]))
                  else
                    K .normal (mkE 100 [(1, .str s), (6, .int .i32 c), (15, .ptr (.loc 15) 0), (73, .bool (decide (n > 15)))]) (hL 0 (loL [(15, it)]))
            else
              bif hx then
                bif !isLetter c then
                  bif !isDigit c then
                    K .normal (mkE 100 [(1, .str s), (6, .int .i32 c), (15, .ptr (.loc 15) 0), (73, .bool true)]) (hL 0 (loL [(15, it)]))
                  else
                    bif decide (n < 0) then
                      K .normal (mkE 100 [(1, .str s), (6, .int .i32 c), (15, .ptr (.loc 15) 0), (73, .bool true)]) (hL 0 (loL [(15, it)]))
                    else
                      K .normal (mkE 100 [(1, .str s), (6, .int .i32 c), (15, .ptr (.loc 15) 0), (73, .bool (decide (n > 15)))]) (hL 0 (loL [(15, it)]))
                else
                  bif decide (n < 0) then
                    K .normal (mkE 100 [(1, .str s), (6, .int .i32 c), (15, .ptr (.loc 15) 0), (73, .bool true)]) (hL 0 (loL [(15, it)]))
                  else
                    K .normal (mkE 100 [(1, .str s), (6, .int .i32 c), (15, .ptr (.loc 15) 0), (73, .bool (decide (n > 15)))]) (hL 0 (loL [(15, it)]))
              else
                bif decide (n < 0) then
                  K .normal (mkE 100 [(1, .str s), (6, .int .i32 c), (15, .ptr (.loc 15) 0), (73, .bool true)]) (hL 0 (loL [(15, it)]))
                else
                  K .normal (mkE 100 [(1, .str s), (6, .int .i32 c), (15, .ptr (.loc 15) 0), (73, .bool (decide (n > 15)))]) (hL 0 (loL [(15, it)]))
        else
          bif isDigit c then
            bif !hx then
              K .normal (mkE 100 [(1, .str s), (6, .int .i32 c), (15, .ptr (.loc 15) 0), (73, .bool true)]) (hL 0 (loL [(15, it)]))
            else
              bif hx then
                bif !isLetter c then
                  bif !isDigit c then
                    K .normal (mkE 100 [(1, .str s), (6, .int .i32 c), (15, .ptr (.loc 15) 0), (73, .bool true)]) (hL 0 (loL [(15, it)]))
                  else
                    bif decide (n < 0) then
                      K .normal (mkE 100 [(1, .str s), (6, .int .i32 c), (15, .ptr (.loc 15) 0), (73, .bool true)]) (hL 0 (loL [(15, it)]))
                    else
                      K .normal (mkE 100 [(1, .str s), (6, .int .i32 c), (15, .ptr (.loc 15) 0), (73, .bool (decide (n > 15)))]) (hL 0 (loL [(15, it)]))
                else
                  bif decide (n < 0) then
                    K .normal (mkE 100 [(1, .str s), (6, .int .i32 c), (15, .ptr (.loc 15) 0), (73, .bool true)]) (hL 0 (loL [(15, it)]))
                  else
                    K .normal (mkE 100 [(1, .str s), (6, .int .i32 c), (15, .ptr (.loc 15) 0), (73, .bool (decide (n > 15)))]) (hL 0 (loL [(15, it)]))
              else
                bif decide (n < 0) then
                  K .normal (mkE 100 [(1, .str s), (6, .int .i32 c), (15, .ptr (.loc 15) 0), (73, .bool true)]) (hL 0 (loL [(15, it)]))
                else
                  K .normal (mkE 100 [(1, .str s), (6, .int .i32 c), (15, .ptr (.loc 15) 0), (73, .bool (decide (n > 15)))]) (hL 0 (loL [(15, it)]))
          else
            bif hx then
              bif !isLetter c then
                bif !isDigit c then
                  K .normal (mkE 100 [(1, .str s), (6, .int .i32 c), (15, .ptr (.loc 15) 0), (73, .bool true)]) (hL 0 (loL [(15, it)]))
                else
                  bif decide (n < 0) then
                    K .normal (mkE 100 [(1, .str s), (6, .int .i32 c), (15, .ptr (.loc 15) 0), (73, .bool true)]) (hL 0 (loL [(15, it)]))
                  else
                    K .normal (mkE 100 [(1, .str s), (6, .int .i32 c), (15, .ptr (.loc 15) 0), (73, .bool (decide (n > 15)))]) (hL 0 (loL [(15, it)]))
              else
                bif decide (n < 0) then
                  K .normal (mkE 100 [(1, .str s), (6, .int .i32 c), (15, .ptr (.loc 15) 0), (73, .bool true)]) (hL 0 (loL [(15, it)]))
                else
                  K .normal (mkE 100 [(1, .str s), (6, .int .i32 c), (15, .ptr (.loc 15) 0), (73, .bool (decide (n > 15)))]) (hL 0 (loL [(15, it)]))
            else
              bif decide (n < 0) then
                K .normal (mkE 100 [(1, .str s), (6, .int .i32 c), (15, .ptr (.loc 15) 0), (73, .bool true)]) (hL 0 (loL [(15, it)]))
              else
                K .normal (mkE 100 [(1, .str s), (6, .int .i32 c), (15, .ptr (.loc 15) 0), (73, .bool (decide (n > 15)))]) (hL 0 (loL [(15, it)])) := by
  kernel_rfl
end Go.Am

/- CharsSplits. -/
namespace Go.Am
theorem S0_step (LK : LKT) (K : KT) (s all : List Nat) (l : List (List Nat)) (i : Nat) (f : Bool) (b : Nat) (bs : List Nat) (pos : Nat) : elV TC2 [] pu LK l_arbourlaw4_CharsSplits_0 (mkE 85 [(0, .str s), (3, .vs f (.ty .strs l)), (4, .str all), (5, .int .i64 i), (45, .ptr (.loc 45) 0)]) (hL 0 (loL [(45, .iter (b :: bs) pos)])) K =
    (match l[i]? with
      | .none  => none
      | .some v1_0 => bif okS v1_0 then
          bif bif true then !isSpace ↑(decode (b :: bs)).fst == rspaces v1_0 else isSpace ↑(decode (b :: bs)).fst == rspaces v1_0 then
            K (AEx.ret) (mkE 85 [(2, V.bool false)]) (hL 0 (loL []))
          else
            K (AEx.normal) (mkE 85 [(0, V.str s), (3, V.vs f (Sq.ty U.strs l)), (4, V.str all), (5, V.int IntKind.i64 ↑i), (45, V.ptr (Cd.loc 45) 0)]) (hL 0 (loL [(45, O2.iter (List.drop (decode (b :: bs)).snd (b :: bs)) (pos + (decode (b :: bs)).snd))]))
        else
          none) := by kernel_rfl
theorem S0_end (LK : LKT) (K : KT) (s all : List Nat) (l : List (List Nat)) (i : Nat) (f : Bool) (pos : Nat) : elV TC2 [] pu LK l_arbourlaw4_CharsSplits_0 (mkE 85 [(0, .str s), (3, .vs f (.ty .strs l)), (4, .str all), (5, .int .i64 i), (45, .ptr (.loc 45) 0)]) (hL 0 (loL [(45, .iter [] pos)])) K =
    K (AEx.exit 2) (mkE 85 [(0, V.str s), (3, V.vs f (Sq.ty U.strs l)), (4, V.str all), (5, V.int IntKind.i64 ↑i)]) (hL 0 (loL [])) := by kernel_rfl
theorem S_fin (LK : LKT) (s all : List Nat) : kS TC2 [] pu LK c_arbourlaw4_CharsSplits.body.snd.snd.snd.snd.snd (retV c_arbourlaw4_CharsSplits.res) .normal (mkE 85 [(0, .str s), (4, .str all)]) (hL 0 (loL [])) =
    bif all == s then
        bif okS s then
          bif okS (lower s) then
            bif okS s then
              bif lower (lower s) == lower s then
                bif okS s then
                  bif ((lower s).length : Int) == (s.length : Int) then
                    some (V.bool true, (hL 0 (loL [])), [])
                  else
                    some (V.bool false, (hL 0 (loL [])), [])
                else
                  none
              else
                some (V.bool false, (hL 0 (loL [])), [])
            else
              none
          else
            none
        else
          none
      else
        some (V.bool false, (hL 0 (loL [])), []) := by kernel_rfl
end Go.Am

/- CharsKinds: its loop and its law. -/
namespace Go.Am
theorem kinds_P (LK : LKT) (K : KT) (s : List Nat) (b : Nat) (bs : List Nat) (pos : Nat) : elV TC2 [] pu LK l_arbourlaw4_CharsKinds_0 (mkE 100 [(1, .str s), (15, .ptr (.loc 15) 0)]) (hL 0 (loL [(15, .iter (b :: bs) pos)])) K =
    elV TC2 [] pu LK kiB.snd.fst (mkE 100 [(1, .str s), (6, .int .i32 (decode (b :: bs)).1), (15, .ptr (.loc 15) 0), (16, .tup [.bool true, .int .i64 pos, .int .i32 (decode (b :: bs)).1]), (17, .bool true), (18, .int .i32 (decode (b :: bs)).1)]) (hL 0 (loL [(15, .iter (List.drop (decode (b :: bs)).2 (b :: bs)) (pos + (decode (b :: bs)).2))]))
      (kS TC2 [] pu LK kiB.snd.snd (kB 1 (kS TC2 [] pu LK l_arbourlaw4_CharsKinds_0.snd.snd K))) := by kernel_rfl
theorem kinds_H (LK : LKT) (K : KT) (s : List Nat) (c : Int) (w16 w17 w18 : V) (it : O2) :
    elV TC2 [] pu LK kiB.snd.fst (mkE 100 [(1, .str s), (6, .int .i32 c), (15, .ptr (.loc 15) 0), (16, w16), (17, w17), (18, w18)]) (hL 0 (loL [(15, it)])) K =
    bif okR c then K .normal (mkE 100 [(1, .str s), (6, .int .i32 c), (7, .int .i64 (hexN c)), (8, .bool (hexB c)), (15, .ptr (.loc 15) 0), (16, w16), (17, w17), (18, w18), (19, .tup [.int .i64 (hexN c), .bool (hexB c)]), (20, .int .i32 c), (21, .tup [.int .i64 (hexN c), .bool (hexB c)]), (22, .int .i64 (hexN c)), (23, .bool (hexB c))]) (hL 0 (loL [(15, it)])) else none := by kernel_rfl
theorem kS_n (T : TV) (fr : Fr) (ba : Ba) (LK : LKT) (b : ACode) (K : KT) (e : List V) (h : HV) : kS T fr ba LK b K .normal e h = elV T fr ba LK b e h K := rfl
theorem kS_seq (T : TV) (fr : Fr) (ba : Ba) (LK : LKT) (a b : ACode) (K : KT) : kS T fr ba LK (.seq a b) K = kS T fr ba LK a (kS T fr ba LK b K) := by
  funext x e h; cases x <;> rfl
theorem kinds_C (LK : LKT) (K : KT) (s : List Nat) (c : Int) (it : O2) (b : Bool) :
    elV TC2 [] pu LK kiR.snd.snd (mkE 100 [(1, .str s), (6, .int .i32 c), (15, .ptr (.loc 15) 0), (73, .bool b)]) (hL 0 (loL [(15, it)])) K =
    bif b then K .ret (mkE 100 [(4, .bool false)]) (hL 0 (loL [])) else K .normal (mkE 100 [(1, .str s), (6, .int .i32 c), (15, .ptr (.loc 15) 0), (73, .bool false)]) (hL 0 (loL [(15, it)])) := by kernel_rfl

/-- The kinds of a rune. -/
theorem kinds_cls (c : Int) : (isSpace c = true ∧ isLetter c = false ∧ isDigit c = false ∧ hexB c = false) ∨ (isSpace c = false ∧ isLetter c = true ∧ isDigit c = false) ∨
    (isSpace c = false ∧ isLetter c = false ∧ isDigit c = true ∧ hexB c = true) ∨ (isSpace c = false ∧ isLetter c = false ∧ isDigit c = false ∧ hexB c = false) := by
  have hs : isSpace c = true → c ≤ 32 := by
    unfold isSpace
    intro h
    cases h1 : c == 9 <;> cases h2 : c == 10 <;> cases h3 : c == 12 <;> cases h4 : c == 13 <;> cases h5 : c == 32 <;> simp_all
  have hl : isLetter c = true → 65 ≤ c ∧ ¬ (c ≤ 57) := by
    unfold isLetter
    intro h
    cases h1 : (decide (97 ≤ c) && decide (c ≤ 122)) with
    | true => simp only [Bool.and_eq_true, decide_eq_true_eq] at h1; omega
    | false => rw [h1] at h; simp only [cond_false, Bool.and_eq_true, decide_eq_true_eq] at h; omega
  have hd : isDigit c = true → 48 ≤ c ∧ c ≤ 57 := by
    unfold isDigit; intro h; simpa using h
  have hx : hexB c = true → isDigit c = true ∨ isLetter c = true := by
    unfold hexB isLetter
    intro h
    cases h0 : isDigit c with
    | true => exact .inl rfl
    | false =>
      right
      rw [h0] at h
      simp only [cond_false] at h
      cases h1 : (decide (97 ≤ c) && decide (c ≤ 122)) with
      | true => rfl
      | false =>
        simp only [cond_false]
        have h2 : (decide (97 ≤ c) && decide (c ≤ 102)) = false := by
          rw [← Bool.not_eq_true] at h1 ⊢
          simp only [Bool.and_eq_true, decide_eq_true_eq] at h1 ⊢; omega
        rw [h2] at h
        simp only [cond_false, Bool.and_eq_true, decide_eq_true_eq] at h ⊢
        omega
  have hdx : isDigit c = true → hexB c = true := by unfold hexB; intro h; rw [h]; rfl
  cases e1 : isSpace c <;> cases e2 : isLetter c <;> cases e3 : isDigit c <;> cases e4 : hexB c <;> simp_all <;> omega
theorem hexN_rng (c : Int) : decide (hexN c < 0) = false ∧ decide (hexN c > 15) = false := by
  unfold hexN isDigit
  cases h1 : (decide (48 ≤ c) && decide (c ≤ 57)) with
  | true => simp only [Bool.and_eq_true, decide_eq_true_eq] at h1; simp only [cond_true]; constructor <;> simp <;> omega
  | false =>
    simp only [cond_false]
    cases h2 : (decide (97 ≤ c) && decide (c ≤ 102)) with
    | true => simp only [Bool.and_eq_true, decide_eq_true_eq] at h2; simp only [cond_true]; constructor <;> simp <;> omega
    | false =>
      simp only [cond_false]
      cases h3 : (decide (65 ≤ c) && decide (c ≤ 70)) with
      | true => simp only [Bool.and_eq_true, decide_eq_true_eq] at h3; simp only [cond_true]; constructor <;> simp <;> omega
      | false => constructor <;> rfl

theorem kinds_mid (LK : LKT) (K : KT) (c : Int) (s : List Nat) (w19 w20 w21 w22 w23 w16 w17 w18 : V) (it : O2) :
    elV TC2 [] pu LK (.seq kiR.fst kiR.snd.fst) (mkE 100 [(1, .str s), (6, .int .i32 c), (7, .int .i64 (hexN c)), (8, .bool (hexB c)), (15, .ptr (.loc 15) 0), (16, w16), (17, w17), (18, w18), (19, w19), (20, w20), (21, w21), (22, w22), (23, w23)]) (hL 0 (loL [(15, it)])) K =
      K .normal (mkE 100 [(1, .str s), (6, .int .i32 c), (15, .ptr (.loc 15) 0), (73, .bool false)]) (hL 0 (loL [(15, it)])) := by
  rw [kinds_R]
  obtain ⟨n1, n2⟩ := hexN_rng c
  rcases kinds_cls c with ⟨h1, h2, h3, h4⟩ | ⟨h1, h2, h3⟩ | ⟨h1, h2, h3, h4⟩ | ⟨h1, h2, h3, h4⟩
  · simp only [h1, h2, h3, h4, n1, n2, cond_true, cond_false]
  · cases h4 : hexB c <;> simp only [h1, h2, h3, n1, n2, cond_true, cond_false, Bool.not_true, Bool.not_false]
  · simp only [h1, h2, h3, h4, n1, n2, cond_true, cond_false, Bool.not_true, Bool.not_false]
  · simp only [h1, h2, h3, h4, n1, n2, cond_true, cond_false, Bool.not_true, Bool.not_false]
def kiEnd (K : KT) (s : List Nat) (it : O2) : Option RA := K .normal (mkE 100 [(1, .str s), (15, .ptr (.loc 15) 0)]) (hL 0 (loL [(15, it)]))
def kiBad (K : KT) : Option RA := K .ret (mkE 100 [(4, .bool false)]) (hL 0 (loL []))
theorem kinds_2 (LK : LKT) (K : KT) (s : List Nat) (c : Int) (it : O2) :
    elV TC2 [] pu LK kiB.snd.snd.snd (mkE 100 [(1, .str s), (6, .int .i32 c), (15, .ptr (.loc 15) 0), (73, .bool false)]) (hL 0 (loL [(15, it)])) (kB 1 (kS TC2 [] pu LK l_arbourlaw4_CharsKinds_0.snd.snd K)) =
  bif okS (utf8 c) then
    bif !bytesLess (lower (utf8 c)) [97] then
      bif okS (utf8 c) then
        bif bytesLess (lower (utf8 c)) [122] || lower (utf8 c) == [122] then
          bif bif true then !isLetter c == (((utf8 c).length : Int) == 1) else isLetter c == (((utf8 c).length : Int) == 1) then kiBad K else kiEnd K s it
        else
          bif bif true then !isLetter c == false else isLetter c == false then kiBad K else kiEnd K s it
      else none
    else
      bif bif true then !isLetter c == false else isLetter c == false then kiBad K else kiEnd K s it
  else none := by kernel_rfl
theorem kinds_K (LK : LKT) (s : List Nat) : kS TC2 [] pu LK c_arbourlaw4_CharsKinds.body.snd.snd.snd (retV c_arbourlaw4_CharsKinds.res) .normal (mkE 100 [(1, .str s)]) (hL 0 (loL [])) =
  bif okS s then
    bif okS s then
      bif okS (lower s) then
        bif lower s == lower (lower s) then
          some (V.bool true, (hL 0 (loL [])), [])
        else
          some (V.bool false, (hL 0 (loL [])), [])
      else
        none
    else
      none
  else
    none := by kernel_rfl
theorem kinds_end (LK : LKT) (K : KT) (s : List Nat) (pos : Nat) : elV TC2 [] pu LK l_arbourlaw4_CharsKinds_0 (mkE 100 [(1, .str s), (15, .ptr (.loc 15) 0)]) (hL 0 (loL [(15, .iter [] pos)])) K = K (AEx.exit 0) (mkE 100 [(1, V.str s)]) (hL 0 (loL [])) := by kernel_rfl
theorem kinds_start (LK : LKT) (r : Int) (s : List Nat) (K : KT) : elV TC2 [] pu LK c_arbourlaw4_CharsKinds.body ([.int .i32 r, .str s] ++ undefsV 98) HV.emp K =
  bif ((List.take 60 s).length + (utf8 r).length).ble 9223372036854775807 then
    LK l_arbourlaw4_CharsKinds_0 (mkE 100 [(1, V.str (List.take 60 s ++ utf8 r)), (15, V.ptr (Cd.loc 15) 0)]) (hL 0 (loL [(15, O2.iter (List.take 60 s ++ utf8 r) 0)])) (kB 0 (kS TC2 [] pu LK c_arbourlaw4_CharsKinds.body.snd.snd.snd K))
  else
    none := by kernel_rfl

/-- A Letter is what is small among the letters when it is lowered, and is one byte. -/
theorem letter_law (c : Int) (hc : 0 ≤ c) : isLetter c = (!bytesLess (lower (utf8 c)) [97] && ((bytesLess (lower (utf8 c)) [122] || lower (utf8 c) == [122]) && (((utf8 c).length : Int) == 1))) := by
  by_cases hs : c < 128
  · obtain ⟨n, rfl⟩ := Int.eq_ofNat_of_zero_le hc
    have h : ∀ n : Fin 128, isLetter (n : Nat) = (!bytesLess (lower (utf8 (n : Nat))) [97] && ((bytesLess (lower (utf8 (n : Nat))) [122] || lower (utf8 (n : Nat)) == [122]) && (((utf8 (n : Nat)).length : Int) == 1))) := by decide +kernel
    exact h ⟨n, by omega⟩
  · have h1 : isLetter c = false := by
      unfold isLetter
      have e1 : (decide (97 ≤ c) && decide (c ≤ 122)) = false := by rw [← Bool.not_eq_true]; simp only [Bool.and_eq_true, decide_eq_true_eq]; omega
      have e2 : (decide (65 ≤ c) && decide (c ≤ 90)) = false := by rw [← Bool.not_eq_true]; simp only [Bool.and_eq_true, decide_eq_true_eq]; omega
      rw [e1, e2]; rfl
    have h2 : (((utf8 c).length : Int) == 1) = false := by
      have : 2 ≤ (utf8 c).length := by
        have key : ∀ q : Nat, 128 ≤ q → 2 ≤ (if q < 0x80 then [q] else if q < 0x800 then [0xC0 + q / 64, 0x80 + q % 64]
            else if q < 0x10000 then [0xE0 + q / 4096, 0x80 + q / 64 % 64, 0x80 + q % 64]
            else [0xF0 + q / 262144, 0x80 + q / 4096 % 64, 0x80 + q / 64 % 64, 0x80 + q % 64]).length := by
          intro q hq
          rw [if_neg (by omega)]
          split
          · simp
          · split <;> simp
        exact key _ (by split <;> omega)
      simp; omega
    rw [h1, h2, Bool.and_false, Bool.and_false]

theorem utf8_lt (r : Int) : ∀ b ∈ utf8 r, b < 256 := by
  have h := okS_utf8 r
  simp only [okS, Bool.and_eq_true, decide_eq_true_eq, List.all_eq_true] at h
  exact h.2
theorem decode_okR (b : Nat) (bs : List Nat) (h : okS (b :: bs) = true) : okR (((decode (b :: bs)).1 : Nat) : Int) = true := by
  have hn : (decode (b :: bs)).1 < 2147483648 := by
    have hb : ∀ k, (b :: bs).getD k 0 < 256 := by
      intro k
      simp only [okS, Bool.and_eq_true, decide_eq_true_eq, List.all_eq_true] at h
      rw [List.getD_eq_getElem?_getD]
      cases hk : (b :: bs)[k]? with
      | none => simp
      | some x => exact h.2 x (List.mem_of_getElem? hk)
    unfold decode
    simp only
    have := hb 0; have := hb 1; have := hb 2; have := hb 3
    repeat' split
    all_goals (try simp only)
    all_goals omega
  simp only [okR, Bool.and_eq_true, decide_eq_true_eq]; omega

theorem kinds_step (LK : LKT) (K : KT) (s : List Nat) (b : Nat) (bs : List Nat) (pos : Nat) (ho : okS (b :: bs) = true) :
    elV TC2 [] pu LK l_arbourlaw4_CharsKinds_0 (mkE 100 [(1, .str s), (15, .ptr (.loc 15) 0)]) (hL 0 (loL [(15, .iter (b :: bs) pos)])) K =
      K .normal (mkE 100 [(1, .str s), (15, .ptr (.loc 15) 0)]) (hL 0 (loL [(15, .iter (List.drop (decode (b :: bs)).2 (b :: bs)) (pos + (decode (b :: bs)).2))])) := by
  rw [kinds_P, kinds_H, decode_okR b bs ho, cond_true]
  have e1 : kiB.snd.snd = .seq kiR kiB.snd.snd.snd := rfl
  have e2 : kiR = .seq kiR.fst (.seq kiR.snd.fst kiR.snd.snd) := rfl
  have hc : 0 ≤ (((decode (b :: bs)).1 : Nat) : Int) := by omega
  generalize (((decode (b :: bs)).1 : Nat) : Int) = c at *
  rw [e1, kS_seq]
  have e3 : ∀ (K : KT) (e : List V) (h : HV), kS TC2 [] pu LK kiR K .normal e h = elV TC2 [] pu LK (.seq kiR.fst kiR.snd.fst) e h (kS TC2 [] pu LK kiR.snd.snd K) := by
    intro K e h
    show elV TC2 [] pu LK kiR e h K = _
    conv => lhs; rw [e2]
    rw [elV_seq, elV_seq, kS_seq]
  rw [e3, kinds_mid]
  rw [kS_n, kinds_C, cond_false, kS_n, kinds_2, okS_utf8]
  have hl := letter_law c hc
  show _ = kiEnd K s _
  cases p1 : (!bytesLess (lower (utf8 c)) [97]) with
  | false =>
    rw [p1] at hl
    rw [hl]; rfl
  | true =>
    cases p2 : (bytesLess (lower (utf8 c)) [122] || lower (utf8 c) == [122]) with
    | false => rw [p1, p2] at hl; rw [hl]; rfl
    | true => rw [p1, p2] at hl; rw [hl]; cases (((utf8 c).length : Int) == 1) <;> rfl

theorem kinds_loop (K : KT) (s : List Nat) : ∀ (f : Nat) (rest : List Nat) (pos : Nat), rest.length ≤ f → okS rest = true →
    lpV TC2 [] pu (f + 1) l_arbourlaw4_CharsKinds_0 (mkE 100 [(1, .str s), (15, .ptr (.loc 15) 0)]) (hL 0 (loL [(15, .iter rest pos)])) K = K (AEx.exit 0) (mkE 100 [(1, V.str s)]) (hL 0 (loL [])) := by
  intro f
  induction f with
  | zero =>
    intro rest pos h _
    have : rest = [] := List.length_eq_zero_iff.1 (by omega)
    subst this
    rw [lpV_succ, kinds_end]; rfl
  | succ f ih =>
    intro rest pos h ho
    rw [lpV_succ]
    cases rest with
    | nil => rw [kinds_end]; rfl
    | cons b bs =>
      rw [kinds_step _ _ _ _ _ _ ho, kL_n]
      obtain ⟨w1, w2⟩ := decode_width2 b bs
      refine ih _ _ (by rw [List.length_drop]; simp only [List.length_cons] at h ⊢; omega) ?_
      simp only [okS, Bool.and_eq_true, decide_eq_true_eq, List.all_eq_true] at ho ⊢
      exact ⟨by rw [List.length_drop]; omega, fun x hx => ho.2 x (List.mem_of_mem_drop hx)⟩

theorem kB_00 (K : KT) (e : List V) (h : HV) : kB 0 K (.exit 0) e h = K .normal e h := rfl
theorem utf8_len (r : Int) : (utf8 r).length ≤ 4 := by
  have key : ∀ q : Nat, (if q < 0x80 then [q] else if q < 0x800 then [0xC0 + q / 64, 0x80 + q % 64]
      else if q < 0x10000 then [0xE0 + q / 4096, 0x80 + q / 64 % 64, 0x80 + q % 64]
      else [0xF0 + q / 262144, 0x80 + q / 4096 % 64, 0x80 + q / 64 % 64, 0x80 + q % 64]).length ≤ 4 := by
    intro q
    repeat' split
    all_goals simp
  exact key _
theorem Kinds_run (r : Int) (s : List Nat) (hs : ∀ b ∈ s, b < 256) : run TC2 (100 + 1) c_arbourlaw4_CharsKinds [.int .i32 r, .str s] = some (.bool true, HV.emp, []) := by
  refine (kinds_start _ r s _).trans ?_
  have h4 := utf8_len r
  have hlen : (s.take 60).length ≤ 60 := by rw [List.length_take]; omega
  have ho : okS (s.take 60 ++ utf8 r) = true := by
    simp only [okS, Bool.and_eq_true, decide_eq_true_eq, List.all_eq_true, List.length_append, List.mem_append]
    exact ⟨by omega, fun b hb => hb.elim (fun h => hs b (List.mem_of_mem_take h)) (utf8_lt r b)⟩
  have d : ((List.take 60 s).length + (utf8 r).length).ble 9223372036854775807 = true := by rw [Nat.ble_eq]; omega
  rw [d, cond_true, kinds_loop _ _ 100 _ 0 (by rw [List.length_append]; omega) ho, kB_00, kinds_K, ho, okS_lower ho, lower_lower]
  simp
  rfl

end Go.Am

/- CharsSplits: its loops and its law. -/
namespace Go.Am
def s1B : ACode := l_arbourlaw4_CharsSplits_1.snd.fst.snd.fst.blk
def s1R : ACode := l_arbourlaw4_CharsSplits_1.snd.fst.snd.snd
def s1K : ACode := l_arbourlaw4_CharsSplits_1.snd.snd
def s1P (LK : LKT) (K : KT) : KT := kB 2 (kS TC2 [] pu LK s1B.snd.snd (kB 1 (kS TC2 [] pu LK s1R (kS TC2 [] pu LK s1K K))))

theorem S1_post (LK : LKT) (K : KT) (s all : List Nat) (l : List (List Nat)) (i : Nat) (f : Bool) : s1P LK K (.exit 2) (mkE 85 [(0, .str s), (3, .vs f (.ty .strs l)), (4, .str all), (5, .int .i64 i)]) (hL 0 (loL [])) =
   (match l[i]? with
  | .none  => none
  | .some v1_0 => bif (all.length + List.length v1_0).ble 9223372036854775807 then
      K (AEx.normal) (mkE 85 [(0, V.str s), (3, V.vs f (Sq.ty U.strs l)), (4, V.str (all ++ v1_0)), (5, V.int IntKind.i64 (IntKind.i64.wrap (↑i + 1)))]) (hL 0 (loL []))
    else
      none) := by kernel_rfl

theorem S1_pre (LK : LKT) (K : KT) (s all : List Nat) (l : List (List Nat)) (i : Nat) (f : Bool) : elV TC2 [] pu LK l_arbourlaw4_CharsSplits_1 (mkE 85 [(0, .str s), (3, .vs f (.ty .strs l)), (4, .str all), (5, .int .i64 i)]) (hL 0 (loL [])) K =
  bif decide ((i : Int) < ↑(Sq.ty U.strs l).len) then
    (match l[i]? with
    | .none  => none
    | .some v2_0 => bif v2_0 == [] then
        K (AEx.ret) (mkE 85 [(2, V.bool false)]) (hL 0 (loL []))
      else
        bif decide ((i : Int) > 0) then
          (match l[i]? with
          | .none  => none
          | .some v5_0 => (match IntKind.i64.wrap ((i : Int) - 1) with
            | .ofNat v6_0 => (match l[v6_0]? with
              | .none  => none
              | .some v7_0 => bif okS v5_0 then
                  bif okS v7_0 then
                    bif bif false then !rspaces v5_0 == rspaces v7_0 else rspaces v5_0 == rspaces v7_0 then
                      K (AEx.ret) (mkE 85 [(2, V.bool false)]) (hL 0 (loL []))
                    else
                      (match l[i]? with
                      | .none  => none
                      | .some v11_0 => LK l_arbourlaw4_CharsSplits_0 (mkE 85 [(0, V.str s), (3, V.vs f (Sq.ty U.strs l)), (4, V.str all), (5, V.int IntKind.i64 ↑i), (45, V.ptr (Cd.loc 45) 0)]) (hL 0 (loL [(45, O2.iter v11_0 0)])) (s1P LK K))
                  else
                    none
                else
                  none)
            | .negSucc v6_0 => none))
        else
          (match l[i]? with
          | .none  => none
          | .some v5_0 => LK l_arbourlaw4_CharsSplits_0 (mkE 85 [(0, V.str s), (3, V.vs f (Sq.ty U.strs l)), (4, V.str all), (5, V.int IntKind.i64 ↑i), (45, V.ptr (Cd.loc 45) 0)]) (hL 0 (loL [(45, O2.iter v5_0 0)])) (s1P LK K)))
  else
    K (AEx.exit 0) (mkE 85 [(0, V.str s), (4, V.str all)]) (hL 0 (loL [])) := by kernel_rfl

theorem S_start (LK : LKT) (s : List Nat) (K : KT) : elV TC2 [] pu LK c_arbourlaw4_CharsSplits.body ([.str s] ++ undefsV 84) HV.emp K =
  bif okS (List.take 200 s) then
    LK l_arbourlaw4_CharsSplits_1 (mkE 85 [(0, V.str (List.take 200 s)), (3, V.vs false (Sq.ty U.strs (split (List.take 200 s)))), (4, V.str []), (5, V.int IntKind.i64 (0 : Nat))]) (hL 0 (loL []))
      (kB 0 (kS TC2 [] pu LK c_arbourlaw4_CharsSplits.body.snd.snd.snd.snd.snd K))
  else
    none := by kernel_rfl

/-- Runs: none empty, of one kind each, by turns. -/
def AltOK : Bool → List (List Nat) → Prop
  | _, [] => True
  | k, r :: rs => r ≠ [] ∧ (∀ x ∈ r, isSpace (x : Int) = k) ∧ AltOK (!k) rs

theorem runs_alt : ∀ (l : List Nat) (k : Bool) (cur : List Nat), cur ≠ [] → (∀ x ∈ cur, isSpace (x : Int) = k) → AltOK k (runs k cur l)
  | [], k, cur, h1, h2 => ⟨h1, h2, trivial⟩
  | b :: l, k, cur, h1, h2 => by
    unfold runs
    cases hb : isSpace (b : Int) == k with
    | true =>
      simp only [cond_true]
      refine runs_alt l k _ (by simp) fun x hx => ?_
      rcases List.mem_append.1 hx with h | h
      · exact h2 x h
      · rw [List.mem_singleton] at h; subst h; simpa using hb
    | false =>
      simp only [cond_false]
      have hk : isSpace (b : Int) = !k := by
        have : isSpace (b : Int) ≠ k := by simpa using hb
        cases k <;> simp_all
      refine ⟨h1, h2, ?_⟩
      rw [← hk]
      exact runs_alt l _ _ (by simp) fun x hx => by rw [List.mem_singleton] at hx; subst hx; rfl
theorem runs_flat : ∀ (l : List Nat) (k : Bool) (cur : List Nat), (runs k cur l).flatten = cur ++ l
  | [], k, cur => by simp [runs]
  | b :: l, k, cur => by
    unfold runs
    cases isSpace (b : Int) == k with
    | true => simp only [cond_true]; rw [runs_flat l]; simp
    | false => simp only [cond_false, List.flatten_cons]; rw [runs_flat l]; simp
theorem split_flat (s : List Nat) : (split s).flatten = s := by
  cases s with
  | nil => rfl
  | cons b l => simp only [split]; rw [runs_flat]; rfl
theorem split_alt (s : List Nat) : ∃ k, AltOK k (split s) := by
  cases s with
  | nil => exact ⟨true, trivial⟩
  | cons b l => exact ⟨_, runs_alt l _ _ (by simp) fun x hx => by rw [List.mem_singleton] at hx; subst hx; rfl⟩
theorem alt_kind {r : List Nat} {k : Bool} (h1 : r ≠ []) (h2 : ∀ x ∈ r, isSpace (x : Int) = k) : rspaces r = k := by
  cases r with
  | nil => exact absurd rfl h1
  | cons b r =>
    cases k with
    | true => unfold rspaces; rw [List.all_eq_true]; exact h2
    | false => unfold rspaces; simp [h2 b (List.mem_cons_self ..)]
theorem alt_get : ∀ {l : List (List Nat)} {k : Bool}, AltOK k l → ∀ (i : Nat) (r : List Nat), l[i]? = some r → ∃ k', r ≠ [] ∧ (∀ x ∈ r, isSpace (x : Int) = k') ∧ ∀ j r', j + 1 = i → l[j]? = some r' → rspaces r' = !k'
  | [], k, h, i, r, hr => by simp at hr
  | r0 :: rs, k, h, 0, r, hr => by
    simp only [List.getElem?_cons_zero, Option.some.injEq] at hr; subst hr
    exact ⟨k, h.1, h.2.1, fun j r' hj => by omega⟩
  | r0 :: rs, k, h, i + 1, r, hr => by
    rw [List.getElem?_cons_succ] at hr
    obtain ⟨k', h1, h2, h3⟩ := alt_get h.2.2 i r hr
    refine ⟨k', h1, h2, fun j r' hj hr' => ?_⟩
    cases j with
    | succ j => rw [List.getElem?_cons_succ] at hr'; exact h3 j r' (by omega) hr'
    | zero =>
      simp only [List.getElem?_cons_zero, Option.some.injEq] at hr'; subst hr'
      have hi : i = 0 := by omega
      subst hi
      rw [alt_kind h.1 h.2.1]
      cases rs with
      | nil => simp at hr
      | cons r1 rs =>
        simp only [List.getElem?_cons_zero, Option.some.injEq] at hr; subst hr
        have e1 := alt_kind h.2.2.1 h.2.2.2.1
        have e2 := alt_kind h1 h2
        rw [e1] at e2; rw [← e2]; simp

theorem S0_loop (K : KT) (s all : List Nat) (l : List (List Nat)) (i : Nat) (fl : Bool) (li : List Nat) (hli : l[i]? = some li) (hok : okS li = true) (k : Bool) (hk : rspaces li = k) :
    ∀ (f : Nat) (rest : List Nat) (pos : Nat), rest.length ≤ f → (∀ x ∈ rest, isSpace (x : Int) = k) →
    lpV TC2 [] pu (f + 1) l_arbourlaw4_CharsSplits_0 (mkE 85 [(0, .str s), (3, .vs fl (.ty .strs l)), (4, .str all), (5, .int .i64 i), (45, .ptr (.loc 45) 0)]) (hL 0 (loL [(45, .iter rest pos)])) K =
      K (.exit 2) (mkE 85 [(0, V.str s), (3, V.vs fl (Sq.ty U.strs l)), (4, V.str all), (5, V.int IntKind.i64 ↑i)]) (hL 0 (loL [])) := by
  intro f
  induction f with
  | zero =>
    intro rest pos h _
    have : rest = [] := List.length_eq_zero_iff.1 (by omega)
    subst this
    rw [lpV_succ, S0_end]; rfl
  | succ f ih =>
    intro rest pos h hr
    rw [lpV_succ]
    cases rest with
    | nil => rw [S0_end]; rfl
    | cons b bs =>
      obtain ⟨w1, w2⟩ := decode_width2 b bs
      have hkind := decode_kind b bs
      have hb : b ∈ (b :: bs).take (decode (b :: bs)).2 := by
        obtain ⟨m, hm⟩ : ∃ m, (decode (b :: bs)).2 = m + 1 := ⟨_, (Nat.succ_pred_eq_of_pos w1).symm⟩
        rw [hm]; simp
      have hdec : isSpace ((decode (b :: bs)).1 : Int) = k := by rw [← hkind b hb]; exact hr b (List.mem_cons_self ..)
      rw [S0_step, hli]
      simp only [hok, hdec, hk, cond_true]
      have hx : (!k == k) = false := by cases k <;> rfl
      simp only [hx, cond_false, kL_n]
      exact ih _ _ (by rw [List.length_drop]; simp only [List.length_cons] at h ⊢; omega) fun x hx => hr x (List.mem_of_mem_drop hx)

theorem take_flat (l : List (List Nat)) (i : Nat) (li : List Nat) (h : l[i]? = some li) : (l.take i).flatten ++ li = (l.take (i + 1)).flatten := by
  rw [List.take_add_one, h]; simp

theorem flat_len (l : List (List Nat)) (i : Nat) (li : List Nat) (h : l[i]? = some li) : (l.take i).flatten.length + li.length ≤ l.flatten.length := by
  have h1 : l.flatten = (l.take (i + 1)).flatten ++ (l.drop (i + 1)).flatten := by rw [← List.flatten_append, List.take_append_drop]
  rw [h1, List.length_append, ← take_flat l i li h, List.length_append]; omega

theorem S1_loop (K : KT) (s : List Nat) (l : List (List Nat)) (fl : Bool) (hlen : l.flatten.length ≤ 200) (hl : l.length ≤ 200) (hby : ∀ r ∈ l, okS r = true) (k0 : Bool) (halt : AltOK k0 l) :
    ∀ (f i : Nat), l.length ≤ i + f → i ≤ l.length →
    lpV TC2 [] pu (f + 202) l_arbourlaw4_CharsSplits_1 (mkE 85 [(0, .str s), (3, .vs fl (.ty .strs l)), (4, .str (l.take i).flatten), (5, .int .i64 i)]) (hL 0 (loL [])) K =
      K (.exit 0) (mkE 85 [(0, .str s), (4, .str l.flatten)]) (hL 0 (loL [])) := by
  have fin : ∀ n i, i = l.length → lpV TC2 [] pu (n + 1) l_arbourlaw4_CharsSplits_1 (mkE 85 [(0, .str s), (3, .vs fl (.ty .strs l)), (4, .str (l.take i).flatten), (5, .int .i64 i)]) (hL 0 (loL [])) K =
      K (.exit 0) (mkE 85 [(0, .str s), (4, .str l.flatten)]) (hL 0 (loL [])) := by
    intro n i hi
    rw [lpV_succ, S1_pre]
    have : decide ((i : Int) < ↑(Sq.ty U.strs l).len) = false := by simp [Sq.len]; omega
    rw [this, hi, List.take_length]; rfl
  intro f
  induction f with
  | zero => intro i h1 h2; exact fin 201 i (by omega)
  | succ f ih =>
    intro i h1 h2
    by_cases hi : i = l.length
    · exact fin (f + 202) i hi
    have hlt : i < l.length := by omega
    obtain ⟨li, hli⟩ : ∃ li, l[i]? = some li := ⟨_, List.getElem?_eq_getElem hlt⟩
    have hmem : li ∈ l := List.mem_of_getElem? hli
    obtain ⟨k, a1, a2, a3⟩ := alt_get halt i li hli
    have hk := alt_kind a1 a2
    have hok := hby li hmem
    have hfl := flat_len l i li hli
    have inner : ∀ K', lpV TC2 [] pu (f + 202) l_arbourlaw4_CharsSplits_0 (mkE 85 [(0, .str s), (3, .vs fl (.ty .strs l)), (4, .str (l.take i).flatten), (5, .int .i64 i), (45, .ptr (.loc 45) 0)]) (hL 0 (loL [(45, .iter li 0)])) K' =
      K' (.exit 2) (mkE 85 [(0, V.str s), (3, V.vs fl (Sq.ty U.strs l)), (4, V.str (l.take i).flatten), (5, V.int IntKind.i64 ↑i)]) (hL 0 (loL [])) := by
      intro K'
      exact S0_loop K' s _ l i fl li hli hok k hk (f + 201) li 0 (by omega) a2
    have d1 : decide ((i : Int) < ↑(Sq.ty U.strs l).len) = true := by simp [Sq.len]; omega
    have d2 : (li == []) = false := by cases li with
      | nil => exact absurd rfl a1
      | cons => rfl
    have post : ∀ LK, s1P LK (kL TC2 [] pu (f + 202) l_arbourlaw4_CharsSplits_1 K) (.exit 2) (mkE 85 [(0, V.str s), (3, V.vs fl (Sq.ty U.strs l)), (4, V.str (l.take i).flatten), (5, V.int IntKind.i64 ↑i)]) (hL 0 (loL [])) = K (.exit 0) (mkE 85 [(0, .str s), (4, .str l.flatten)]) (hL 0 (loL [])) := by
      intro LK
      rw [S1_post, hli]
      have d3 : ((l.take i).flatten.length + List.length li).ble 9223372036854775807 = true := by rw [Nat.ble_eq]; omega
      simp only [d3, cond_true, kL_n]
      rw [w64 (by omega), take_flat l i li hli]
      exact ih (i + 1) (by omega) (by omega)
    rw [lpV_succ, S1_pre, d1]
    simp only [cond_true, hli, d2, cond_false]
    by_cases h0 : i = 0
    · subst h0
      have d4 : decide (((0 : Nat) : Int) > 0) = false := rfl
      rw [d4]
      simp only [cond_false]
      rw [inner, post]
    · have d4 : decide ((i : Int) > 0) = true := by simp; omega
      rw [d4]
      obtain ⟨j, rfl⟩ : ∃ j, i = j + 1 := ⟨i - 1, by omega⟩
      have hw : IntKind.i64.wrap (((j + 1 : Nat) : Int) - 1) = Int.ofNat j := by rw [wrap_small _ (by omega) (by omega)]; simp
      obtain ⟨lj, hlj⟩ : ∃ lj, l[j]? = some lj := ⟨_, List.getElem?_eq_getElem (by omega)⟩
      have hokj := hby lj (List.mem_of_getElem? hlj)
      rw [hw]
      simp only [cond_true, hlj, hok, hokj, hk, a3 j lj rfl hlj]
      have hx : (k == !k) = false := by cases k <;> rfl
      rw [hx, cond_false, inner, post]

theorem okS_of_flat {l : List (List Nat)} (h : okS l.flatten = true) : ∀ r ∈ l, okS r = true := by
  intro r hr
  simp only [okS, Bool.and_eq_true, decide_eq_true_eq, List.all_eq_true] at h ⊢
  refine ⟨?_, fun b hb => h.2 b (List.mem_flatten.2 ⟨r, hr, hb⟩)⟩
  have : r.length ≤ l.flatten.length := by
    obtain ⟨a, b, rfl⟩ := List.append_of_mem hr
    simp only [List.flatten_append, List.flatten_cons, List.length_append]; omega
  omega

theorem kB_0 (K : KT) (e : List V) (h : HV) : kB 0 K (.exit 0) e h = K .normal e h := rfl
theorem Splits_run (s : List Nat) (hs : ∀ b ∈ s, b < 256) : run TC2 (200 + 202) c_arbourlaw4_CharsSplits [.str s] = some (.bool true, HV.emp, []) := by
  have ho : okS (s.take 200) = true := okS_take hs (by omega)
  have hlen : (s.take 200).length ≤ 200 := by rw [List.length_take]; omega
  refine (S_start _ s _).trans ?_
  generalize s.take 200 = t at *
  rw [ho]
  obtain ⟨k, halt⟩ := split_alt t
  have hl : (split t).length ≤ 200 := Nat.le_trans (split_length t) hlen
  have hby := okS_of_flat (l := split t) (by rw [split_flat]; exact ho)
  have h := S1_loop (kB 0 (kS TC2 [] pu (lpV TC2 [] pu (200 + 202)) c_arbourlaw4_CharsSplits.body.snd.snd.snd.snd.snd (retV c_arbourlaw4_CharsSplits.res))) t (split t) false (by rw [split_flat]; exact hlen) hl hby k halt 200 0 (by omega) (by omega)
  rw [cond_true]
  refine Eq.trans h ?_
  rw [split_flat]
  rw [kB_0, S_fin]
  have e1 : okS (lower t) = true := okS_lower ho
  have e2 : ((lower t).length : Int) = t.length := by simp [lower]
  rw [ho, e1, lower_lower, e2]
  simp
  rfl
end Go.Am
