/- Parts of an abstract machine and its proofs: Tie. -/
import Derived.Test.YtjkolhdcgidmnaaCodes
import Derived.Test.YtjkolhdcgidmnaaAmSim
import Derived.Test.YtjkolhdcgidmnaaProg
import Derived.Shelf.LaysM
import Derived.Shelf.Strconv.Clone
import Derived.Test.YtjkolhdcgidmnaaRuns

set_option linter.unusedSimpArgs false
set_option linter.unusedVariables false
/- The codes stand for the functions of the program. -/
namespace Go.Am
theorem k_arbourlaw4_CharsSplits : okFun Go.Proofs.Try.prog id 3 c_arbourlaw4_CharsSplits = true := by decide +kernel
theorem k_arbourlaw4_CharsNumbers : okFun Go.Proofs.Try.prog id 4 c_arbourlaw4_CharsNumbers = true := by decide +kernel
theorem k_arbourlaw4_CharsTells : okFun Go.Proofs.Try.prog id 5 c_arbourlaw4_CharsTells = true := by decide +kernel
theorem k_arbourlaw4_CharsKinds : okFun Go.Proofs.Try.prog id 6 c_arbourlaw4_CharsKinds = true := by decide +kernel
theorem k_arbourkeep_Head : okFun Go.Proofs.Try.prog id 7 c_arbourkeep_Head = true := by decide +kernel
theorem k_chars_Split : okFun Go.Proofs.Try.prog id 8 c_chars_Split = true := by decide +kernel
theorem k_chars_Spaces : okFun Go.Proofs.Try.prog id 9 c_chars_Spaces = true := by decide +kernel
theorem k_chars_Space : okFun Go.Proofs.Try.prog id 10 c_chars_Space = true := by decide +kernel
theorem k_chars_Lower : okFun Go.Proofs.Try.prog id 11 c_chars_Lower = true := by decide +kernel
theorem k_arbourlaw4_known : okFun Go.Proofs.Try.prog id 12 c_arbourlaw4_known = true := by decide +kernel
theorem k_arbourlaw4_one : okFun Go.Proofs.Try.prog id 13 c_arbourlaw4_one = true := by decide +kernel
theorem k_arbourlaw4_same : okFun Go.Proofs.Try.prog id 14 c_arbourlaw4_same = true := by decide +kernel
theorem k_chars_Same : okFun Go.Proofs.Try.prog id 15 c_chars_Same = true := by decide +kernel
theorem k_arbourref4_Lower : okFun Go.Proofs.Try.prog id 16 c_arbourref4_Lower = true := by decide +kernel
theorem k_chars_Hex : okFun Go.Proofs.Try.prog id 17 c_chars_Hex = true := by decide +kernel
theorem k_chars_Letter : okFun Go.Proofs.Try.prog id 18 c_chars_Letter = true := by decide +kernel
theorem k_chars_Digit : okFun Go.Proofs.Try.prog id 19 c_chars_Digit = true := by decide +kernel
theorem k_arbourbook_Same_string : okFun Go.Proofs.Try.prog id 21 c_arbourbook_Same_string = true := by decide +kernel
theorem k_arbourref4_Hex : okFun Go.Proofs.Try.prog id 22 c_arbourref4_Hex = true := by decide +kernel
theorem k_arbourref4_Space : okFun Go.Proofs.Try.prog id 23 c_arbourref4_Space = true := by decide +kernel
theorem k_arbourref4_Letter : okFun Go.Proofs.Try.prog id 24 c_arbourref4_Letter = true := by decide +kernel
theorem k_arbourref4_Digit : okFun Go.Proofs.Try.prog id 25 c_arbourref4_Digit = true := by decide +kernel
theorem k_arbourref4_Spaces : okFun Go.Proofs.Try.prog id 26 c_arbourref4_Spaces = true := by decide +kernel
theorem k_arbourref4_Split : okFun Go.Proofs.Try.prog id 27 c_arbourref4_Split = true := by decide +kernel
end Go.Am

/-
  DERIVED: THE SHELF's CONTRACTS AT THIS DUMP, IN PLAIN WORDS (tools/lay-plain.mjs out of 'TryShelf.lean', which tools/lay-shelf.mjs wrote): THE SAME DECLARATIONS UNDER THE SAME NAMES: 'import', 'namespace', 'open', 'def', 'theorem' AND NOTHING ELSE: no command of the shelf's: FOR A HAND-IN. Each laying: the table of numbers ('.._ren') and one theorem, a field a fact of the dump's own or the kernel's comparison; each contract: ONE APPLICATION.
-/
namespace Go.Proofs
open Go.Shelf
def Try.laysM316_ren : Go.Shelf.Ren := ⟨fun | 316 => 28 | n => n, fun | 9 => 9 | 3 => 3 | 4 => 4 | 37 => 34 | 0 => 0 | 127 => 36 | 5 => 5 | n => n, fun | n => n⟩
theorem Try.laysM316 : Go.Proofs.LaysM.n316 Try.prog Try.laysM316_ren := {
  mixed := by kernel_rfl
  f316 := Try.func28.trans (congrArg some (by kernel_rfl))
  t0 := Try.underlying0
  a0 := Try.isAgg0
  z0 := Try.sizeOf0
  v0 := Try.zeroValue0
  t3 := Try.underlying3
  a3 := Try.isAgg3
  z3 := Try.sizeOf3
  v3 := Try.zeroValue3
  t4 := Try.underlying4
  a4 := Try.isAgg4
  z4 := Try.sizeOf4
  v4 := Try.zeroValue4
  t9 := Try.underlying9
  a9 := Try.isAgg9
  z9 := Try.sizeOf9
  v9 := Try.zeroValue9
  t37 := Try.underlying34
  a37 := Try.isAgg34
  z37 := Try.sizeOf34
  v37 := Try.zeroValue34
  t127 := Try.underlying36
  a127 := Try.isAgg36
  z127 := Try.sizeOf36
  v127 := Try.zeroValue36
  t5 := Try.underlying5
  a5 := Try.isAgg5
  z5 := Try.sizeOf5
  v5 := Try.zeroValue5
  i0 := by kernel_rfl
  i3 := by kernel_rfl
  i4 := by kernel_rfl
  i5 := by kernel_rfl
  i9 := by kernel_rfl
  i37 := by kernel_rfl
  i127 := by kernel_rfl }
open Go.RowKit in
/-- internal/stringslite.Clone (what strings.Clone calls): "Clone returns a fresh copy of s.": THE SAME BYTES. Of what was there nothing has turned (a new row is laid, and frozen, where s is not empty). (LAID: no walk: one application.) -/
theorem Try.stringslite_Clone (s : ByteArray) (w : World) (hlim : s.size ≤ 281474976710656) :
    Calls Try.prog 28 #[.string s] w fun e w' => e = .returned (.string s) ∧ Below w.heap.size w w' := Any.stringslite_Clone Try.laysM316 s w hlim
end Go.Proofs

/- The tables of the chars functions are right; the program's functions. -/
namespace Go.Am
open Go.RowKit

def c_strings_Clone : AFun := ⟨5, [.slot 2], .seq (.region [(0, ⟨some 2, .mov (.c (.str [])), none⟩)] [])
  (.seq (.region [(0, ⟨some 3, .mov (.s 0), none⟩), (1, ⟨some 4, .call .pure 28 [.s 3] [], none⟩), (2, ⟨some 2, .mov (.s 4), none⟩)] []) .ret)⟩
theorem k_strings_Clone : okFun Go.Proofs.Try.prog id 20 c_strings_Clone = true := by decide +kernel

def sClone : Nat → H → List AV → Option (AV × H) := fun _ h args => match args with
  | [.str s] => if s.length ≤ 100000 then some (.str s, h) else none
  | _ => none

def fnsC : Fns := fun f => match f with
  | 3 => some (.code c_arbourlaw4_CharsSplits)
  | 4 => some (.code c_arbourlaw4_CharsNumbers)
  | 5 => some (.code c_arbourlaw4_CharsTells)
  | 6 => some (.code c_arbourlaw4_CharsKinds)
  | 7 => some (.code c_arbourkeep_Head)
  | 8 => some (.code c_chars_Split)
  | 9 => some (.code c_chars_Spaces)
  | 10 => some (.code c_chars_Space)
  | 11 => some (.code c_chars_Lower)
  | 12 => some (.code c_arbourlaw4_known)
  | 13 => some (.code c_arbourlaw4_one)
  | 14 => some (.code c_arbourlaw4_same)
  | 15 => some (.code c_chars_Same)
  | 16 => some (.code c_arbourref4_Lower)
  | 17 => some (.code c_chars_Hex)
  | 18 => some (.code c_chars_Letter)
  | 19 => some (.code c_chars_Digit)
  | 20 => some (.code c_strings_Clone)
  | 21 => some (.code c_arbourbook_Same_string)
  | 22 => some (.code c_arbourref4_Hex)
  | 23 => some (.code c_arbourref4_Space)
  | 24 => some (.code c_arbourref4_Letter)
  | 25 => some (.code c_arbourref4_Digit)
  | 26 => some (.code c_arbourref4_Spaces)
  | 27 => some (.code c_arbourref4_Split)
  | 28 => some (.spec sClone)
  | _ => none

theorem fnsC_ok : FnsOk Go.Proofs.Try.prog id fnsC := by
  refine ⟨by kernel_rfl, fun f fn h => ?_, fun f s h => ?_⟩
  · unfold fnsC at h
    split at h <;> first | (cases h; fail) | (simp only [Option.some.injEq, AFn.code.injEq, reduceCtorEq] at h)
    all_goals subst h
    exact k_arbourlaw4_CharsSplits
    exact k_arbourlaw4_CharsNumbers
    exact k_arbourlaw4_CharsTells
    exact k_arbourlaw4_CharsKinds
    exact k_arbourkeep_Head
    exact k_chars_Split
    exact k_chars_Spaces
    exact k_chars_Space
    exact k_chars_Lower
    exact k_arbourlaw4_known
    exact k_arbourlaw4_one
    exact k_arbourlaw4_same
    exact k_chars_Same
    exact k_arbourref4_Lower
    exact k_chars_Hex
    exact k_chars_Letter
    exact k_chars_Digit
    exact k_strings_Clone
    exact k_arbourbook_Same_string
    exact k_arbourref4_Hex
    exact k_arbourref4_Space
    exact k_arbourref4_Letter
    exact k_arbourref4_Digit
    exact k_arbourref4_Spaces
    exact k_arbourref4_Split
  · unfold fnsC at h
    split at h <;> first | (cases h; fail) | (simp only [Option.some.injEq, AFn.spec.injEq, reduceCtorEq] at h)
    subst h
    intro args base h v h' hs G pw w vals ha r
    unfold sClone at hs
    split at hs
    · split at hs
      · rename_i s0 hl
        cases hs
        cases ha with | cons _ u _ us hu hus =>
        cases hus
        cases hu with | cell _ _ hu =>
        cases hu with | str s =>
        have hsz : s.size ≤ 281474976710656 := by
          have : s.size = (bytesOf s).length := by unfold bytesOf; rw [List.length_map, Array.length_toList]; rfl
          omega
        refine .inl ⟨by kernel_rfl, (Go.Proofs.Try.stringslite_Clone s w hsz).mono fun e w' ⟨he, hb⟩ => ?_⟩
        refine ⟨G, .string s, Ext.refl pw G (Nat.le_refl _), he, .cell _ _ (.str s), r.kept (fun b x hx => by rw [hb.block b (heap_lt hx)]; exact hx) ?_⟩
        simp only [World.io, hb.os, hb.output]
      · cases hs
    · cases hs
def TN : TV := fun _ _ _ _ _ _ _ => none
theorem good_TN : GoodV fnsC TN := fun _ _ _ _ _ _ _ _ hk => by cases hk

theorem pv_str (P : Nat → Prop) (s : List Nat) : ∀ v ∈ [V.str s], PV P v := by
  intro v hv; rw [List.mem_singleton] at hv; subst hv; exact .str _
theorem pv_int (P : Nat → Prop) (k : IntKind) (n : Int) : ∀ v ∈ [V.int k n], PV P v := by
  intro v hv; rw [List.mem_singleton] at hv; subst hv; exact .int _ _
theorem pv_two (P : Nat → Prop) {a b : V} (ha : PV P a) (hb : PV P b) : ∀ v ∈ [a, b], PV P v := by
  intro v hv
  simp only [List.mem_cons, List.mem_nil_iff, or_false] at hv
  rcases hv with rfl | rfl
  · exact ha
  · exact hb

/-- What the library's copy answers. -/
def TK : TV := fun k f vs _ h _ K => match k, f, vs with
  | .pure, 28, [.str s] => bif s.length.ble 100000 then K (.str s) h [] else none
  | _, _, _ => none
theorem good_TK : GoodV fnsC TK := by
  intro k f vs b h os K z hk
  unfold TK at hk
  split at hk
  · rename_i s
    obtain ⟨hl, hk⟩ := boolK hk
    refine ⟨_, _, _, hk, ?_⟩
    intro θ base args1 h1 ha r
    cases ha with | cons hv hvs =>
    cases hvs
    cases hv with | flat hv =>
    cases hv with | cell hv =>
    cases hv
    refine ⟨.str s, .of fun m => ?_, .flat (.cell (.str s))⟩
    have hl' : s.length ≤ 100000 := by simpa using hl
    simp [sem, callSem, callF, fnsC, sClone, AV.underL, AV.under, hl']
  · cases hk
theorem Clone_tree (LK : LKT) (s : List Nat) : elV TK [] pu LK c_strings_Clone.body ([.str s] ++ undefsV 4) HV.emp (retV c_strings_Clone.res) = bif s.length.ble 100000 then some (.str s, HV.emp, []) else none := by kernel_rfl

theorem good_TC0 : GoodV fnsC TC0 := by
  intro k f vs b h os K z hk
  unfold TC0 at hk
  split at hk
  · exact ⟨_, _, _, hk, cg_pure (fun_ok good_TN (fn := c_chars_Space) rfl (n := 0) (.inr rfl) (Space_run _ _ _)) (pv_int _ _ _) (.bool _)⟩
  · exact ⟨_, _, _, hk, cg_pure (fun_ok good_TN (fn := c_arbourref4_Space) rfl (n := 0) (.inr rfl) (rSpace_run _ _ _)) (pv_int _ _ _) (.bool _)⟩
  · exact ⟨_, _, _, hk, cg_pure (fun_ok good_TN (fn := c_chars_Letter) rfl (n := 0) (.inr rfl) (Letter_run _ _ _)) (pv_int _ _ _) (.bool _)⟩
  · exact ⟨_, _, _, hk, cg_pure (fun_ok good_TN (fn := c_arbourref4_Letter) rfl (n := 0) (.inr rfl) (Letter_run _ _ _)) (pv_int _ _ _) (.bool _)⟩
  · exact ⟨_, _, _, hk, cg_pure (fun_ok good_TN (fn := c_chars_Digit) rfl (n := 0) (.inr rfl) (Digit_run _ _ _)) (pv_int _ _ _) (.bool _)⟩
  · exact ⟨_, _, _, hk, cg_pure (fun_ok good_TN (fn := c_arbourref4_Digit) rfl (n := 0) (.inr rfl) (Digit_run _ _ _)) (pv_int _ _ _) (.bool _)⟩
  · obtain ⟨hl, hk⟩ := boolK hk
    exact ⟨_, _, _, hk, cg_pure (fun_ok good_TK (fn := c_strings_Clone) rfl (n := 0) (.inr rfl) ((Clone_tree _ _).trans (by rw [hl]; rfl))) (pv_str _ _) (.str _)⟩
  · cases hk
end Go.Am

/- The tables of the chars functions, on. -/
namespace Go.Am
theorem tyK_out {β : Type} {u : U} {s : Sq} {K : Sq → Option β} {z : β} (h : s.tyK u K = some z) : ∃ l : List (El u), K (.ty u l) = some z ∧ ∀ {γ : Type} (K' : Sq → Option γ), s.tyK u K' = K' (.ty u l) := by
  cases s with
  | raw k rows =>
    simp only [Sq.tyK] at h
    split at h
    · rename_i l hl
      exact ⟨l, h, fun K' => by simp only [Sq.tyK, hl]⟩
    · cases h
  | ty u' l =>
    simp only [Sq.tyK] at h
    split at h
    · rename_i he
      subst he
      exact ⟨l, h, fun K' => by simp only [Sq.tyK, if_true]⟩
    · cases h
theorem dStr_out {r : List V} {x : List Nat} (h : dStr r = some x) : r = [.str x] := by
  unfold dStr at h
  split at h
  · cases h; rfl
  · cases h
theorem dec_strs : ∀ {rows : List (List V)} {l : List (List Nat)}, decAll .strs rows = some l → rows = l.map fun s => [.str s]
  | [], l, h => by simp only [decAll, Option.some.injEq] at h; subst h; rfl
  | r :: rs, l, h => by
    simp only [decAll] at h
    split at h
    · rename_i x xs h1 h2
      cases h
      have h3 := dec_strs h2
      have : r = [.str x] := dStr_out h1
      rw [this, h3]; rfl
    · cases h
theorem tyK_strs_pv (P : Nat → Prop) {s : Sq} {l : List (List Nat)} (f : Bool) (h : ∀ {γ : Type} (K' : Sq → Option γ), s.tyK .strs K' = K' (.ty .strs l)) : PV P (.vs f s) := by
  have h := h (γ := Sq) some
  cases s with
  | raw k rows =>
    cases hl : decAll .strs rows with
    | some l' =>
      simp only [Sq.tyK, hl] at h
      cases h
      refine .vs _ _ fun r hr v hv => ?_
      simp only [Sq.rows] at hr
      rw [dec_strs hl, List.mem_map] at hr
      obtain ⟨s, _, rfl⟩ := hr
      rw [List.mem_singleton] at hv; subst hv; exact .str _
    | none => simp only [Sq.tyK, hl] at h; cases h
  | ty u' l' =>
    exact pv_ty P f u' l'
theorem Same_open (LK : LKT) (sx sy : Sq) (f g : Bool) (K : KT) : elV TC0 [] pu LK c_arbourbook_Same_string.body ([.vs f sx, .vs g sy] ++ undefsV 24) HV.emp K =
    sx.tyK .strs fun a => sy.tyK .strs fun b => elV TC0 [] pu LK c_arbourbook_Same_string.body.snd.snd ([.vs f a, .vs g b] ++ undefsV 24) HV.emp K := by kernel_rfl
theorem Same_open' (sx sy : Sq) (f g : Bool) (n : Nat) (x y : List (List Nat)) (h1 : ∀ {γ : Type} (K' : Sq → Option γ), sx.tyK .strs K' = K' (.ty .strs x)) (h2 : ∀ {γ : Type} (K' : Sq → Option γ), sy.tyK .strs K' = K' (.ty .strs y)) :
    run TC0 n c_arbourbook_Same_string [.vs f sx, .vs g sy] = run TC0 n c_arbourbook_Same_string [.vs f (.ty .strs x), .vs g (.ty .strs y)] := by
  refine (Same_open _ sx sy f g _).trans ((?_ : _ = _).trans (Same_open _ (.ty .strs x) (.ty .strs y) f g _).symm)
  rw [h1, h2]
  simp only [Sq.tyK, if_true]

theorem okS_len {s : List Nat} (h : okS s = true) : s.length ≤ 100000 := by
  simp only [okS, Bool.and_eq_true, decide_eq_true_eq] at h; exact h.1

theorem good_TC1 : GoodV fnsC TC1 := by
  intro k f vs b h os K z hk
  unfold TC1 at hk
  split at hk
  · exact ⟨_, _, _, hk, cg_pure (fun_ok good_TN (fn := c_arbourkeep_Head) rfl (n := 0) (.inr rfl) (Head_run _ _ _ _)) (pv_two _ (.str _) (.int _ _)) (.str _)⟩
  · obtain ⟨hl, hk⟩ := boolK hk
    exact ⟨_, _, _, hk, cg_pure (fun_ok good_TC0 (fn := c_chars_Split) rfl (.inr rfl) (Split_run _ (okS_len hl))) (pv_str _ _) (pv_ty _ _ _ _)⟩
  · obtain ⟨hl, hk⟩ := boolK hk
    exact ⟨_, _, _, hk, cg_pure (fun_ok good_TC0 (fn := c_arbourref4_Split) rfl (.inr rfl) (rSplit_run _ hl)) (pv_str _ _) (pv_ty _ _ _ _)⟩
  · obtain ⟨hl, hk⟩ := boolK hk
    exact ⟨_, _, _, hk, cg_pure (fun_ok good_TC0 (fn := c_chars_Spaces) rfl (.inr rfl) (Spaces_run _)) (pv_str _ _) (.bool _)⟩
  · obtain ⟨hl, hk⟩ := boolK hk
    exact ⟨_, _, _, hk, cg_pure (fun_ok good_TC0 (fn := c_arbourref4_Spaces) rfl (.inr rfl) (rSpaces_run _ hl)) (pv_str _ _) (.bool _)⟩
  · obtain ⟨hl, hk⟩ := boolK hk
    exact ⟨_, _, _, hk, cg_pure (fun_ok good_TC0 (fn := c_chars_Lower) rfl (.inr rfl) (Lower_run _ hl)) (pv_str _ _) (.str _)⟩
  · obtain ⟨hl, hk⟩ := boolK hk
    exact ⟨_, _, _, hk, cg_pure (fun_ok good_TC0 (fn := c_arbourref4_Lower) rfl (.inr rfl) (rLower_run _ hl)) (pv_str _ _) (.str _)⟩
  · obtain ⟨hl, hk⟩ := boolK hk
    exact ⟨_, _, _, hk, cg_pure (fun_ok good_TC0 (fn := c_chars_Hex) rfl (n := 0) (.inr rfl) (Hex_run _ _ hl)) (pv_int _ _ _) (.tup _ (pv_two _ (.int _ _) (.bool _)))⟩
  · obtain ⟨hl, hk⟩ := boolK hk
    exact ⟨_, _, _, hk, cg_pure (fun_ok good_TC0 (fn := c_arbourref4_Hex) rfl (n := 0) (.inr rfl) (rHex_run _ _ hl)) (pv_int _ _ _) (.tup _ (pv_two _ (.int _ _) (.bool _)))⟩
  · rename_i fx sx fy sy
    obtain ⟨x, hk, hx⟩ := tyK_out hk
    obtain ⟨y, hk, hy⟩ := tyK_out hk
    simp only at hk
    obtain ⟨hl, hk⟩ := boolK hk
    have hl' : x.length ≤ 100000 := by simpa using hl
    exact ⟨_, _, _, hk, cg_pure (fun_ok good_TC0 (fn := c_arbourbook_Same_string) rfl (.inr rfl) ((Same_open' sx sy fx fy _ x y hx hy).trans (Same_run x y fx fy hl'))) (pv_two _ (tyK_strs_pv _ _ hx) (tyK_strs_pv _ _ hy)) (.bool _)⟩
  · exact good_TC0 _ _ _ _ _ _ _ _ hk

theorem good_TC2 : GoodV fnsC TC2 := by
  intro k f vs b h os K z hk
  unfold TC2 at hk
  split at hk
  · exact ⟨_, _, _, hk, cg_pure (fun_ok good_TC1 (fn := c_arbourlaw4_known) rfl (n := 0) (.inr rfl) (known_run _)) (fun v hv => by cases hv) (.bool _)⟩
  · obtain ⟨hl, hk⟩ := boolK hk
    exact ⟨_, _, _, hk, cg_pure (fun_ok good_TC1 (fn := c_arbourlaw4_one) rfl (n := 0) (.inr rfl) (one_run _ _ hl)) (pv_int _ _ _) (.bool _)⟩
  · obtain ⟨hl, hk⟩ := boolK hk
    exact ⟨_, _, _, hk, cg_pure (fun_ok good_TC1 (fn := c_arbourlaw4_same) rfl (n := 0) (.inr rfl) (same_run _ _ hl)) (pv_str _ _) (.bool _)⟩
  · obtain ⟨hl, hk⟩ := boolK hk
    obtain ⟨hl2, hk⟩ := boolK hk
    exact ⟨_, _, _, hk, cg_pure (fun_ok good_TC1 (fn := c_chars_Same) rfl (n := 0) (.inr rfl) (cSame_run _ _ _ hl hl2)) (pv_two _ (.str _) (.str _)) (.bool _)⟩
  · exact good_TC1 _ _ _ _ _ _ _ _ hk
end Go.Am

/- What the program's functions answer. -/
namespace Go.Am
open Go.RowKit

theorem keptBut_of {pw : Pw} {ρ : Nat → FuncId} {base : Nat} {G : Gho} {h : H} {W W' : World} (hp : pw = ⟨fun b => W.heap[b]?, World.io W⟩) (r : Rel ρ pw base G h W') (may : MemPlace → Prop) : W.keptBut W' may := by
  subst hp
  have hio := r.io
  simp only [World.io, Prod.mk.injEq] at hio
  refine ⟨hio.1, hio.2, fun i hi => ?_⟩
  have hb := r.pwh i (W.heap[i]'hi) (by simp)
  rw [hb, Array.getElem?_eq_getElem hi]
  split <;> simp_all

theorem rel_none (W : World) : Rel id ⟨fun b => W.heap[b]?, World.io W⟩ 0 ⟨fun _ => none, fun _ => none⟩ H.emp W :=
  ⟨fun o x e => by simp at e, fun o o' x x' b k C k' C' e => by simp at e, fun b c e => (by cases e), fun o x b k C e => by simp at e, fun o x e => by simp at e, fun _ _ e => e, fun o x b k C _ e => by simp at e, rfl⟩

theorem tie {P : Program} {fns : Fns} (ok : FnsOk P id fns) {T : TV} (good : GoodV fns T) {f : Nat} {fn : AFun} (hf : fns f = some (.code fn)) {n : Nat} {vs : List V} (hr : run T n fn vs = some (.bool true, HV.emp, []))
    {args : List AV} {vals : List Value} (hv : VTL (fun _ => none) vs args) (ha : RVL id ⟨fun _ => none, fun _ => none⟩ args vals) (W : World) (hc : (callFunc f vals.toArray).run P W = .ok (.enter f vals.toArray) W) :
    Calls P f vals.toArray W fun e W' => e = .returned (.bool true) ∧ ∀ may, W.keptBut W' may := by
  obtain ⟨v1, h1', θ', ⟨N, q1⟩, q2, -, -⟩ := fun_ok good hf (ba := pu) (.inr rfl) hr (fun _ => none) 0 args H.emp hv RH.emp
  cases q2 with | flat q2 =>
  cases q2 with | cell q2 =>
  cases q2
  have h := acall_sim ok (n := N) (q1 N (Nat.le_refl _)) ha (rel_none W)
  rcases h with ⟨-, h⟩ | ⟨v, w', h, -⟩
  · refine h.mono fun e W' ⟨G', v', _, he, hv', r⟩ => ?_
    cases hv' with | cell _ _ hv' =>
    cases hv'
    exact ⟨he, fun may => keptBut_of rfl r may⟩
  · exact absurd (h.symm.trans hc) (by simp)

theorem rv_str (s : ByteArray) (G : Gho) : RV id G (.str (bytesOf s)) (.string s) := .cell _ _ (.str s)
theorem vt_str (θ : Th) (s : List Nat) : VT θ (.str s) (.str s) := .flat (.cell (.str s))
theorem rv_int (k : IntKind) (n : Int) (G : Gho) : RV id G (.int k n) (.int k n) := .cell _ _ (.int k n)
theorem vt_int (θ : Th) (k : IntKind) (n : Int) : VT θ (.int k n) (.int k n) := .flat (.cell (.int k n))
theorem bytesOf_lt (s : ByteArray) : ∀ b ∈ bytesOf s, b < 256 := by
  intro b hb
  unfold bytesOf at hb
  rw [List.mem_map] at hb
  obtain ⟨u, _, rfl⟩ := hb
  exact u.toNat_lt

theorem Splits_calls (s : ByteArray) (W : World) : Calls Go.Proofs.Try.prog 3 #[.string s] W fun e W' => e = .returned (.bool true) ∧ ∀ may, W.keptBut W' may :=
  tie fnsC_ok good_TC2 (fn := c_arbourlaw4_CharsSplits) rfl (Splits_run _ (bytesOf_lt s)) (.cons (vt_str _ _) .nil) (.cons _ _ _ _ (rv_str s _) .nil) W (by kernel_rfl)
theorem Numbers_calls (W : World) : Calls Go.Proofs.Try.prog 4 #[] W fun e W' => e = .returned (.bool true) ∧ ∀ may, W.keptBut W' may :=
  tie fnsC_ok good_TC2 (fn := c_arbourlaw4_CharsNumbers) rfl Numbers_run .nil .nil W (by kernel_rfl)
theorem Tells_calls (r : Int) (hr : okR r = true) (s t : ByteArray) (W : World) : Calls Go.Proofs.Try.prog 5 #[.int .i32 r, .string s, .string t] W fun e W' => e = .returned (.bool true) ∧ ∀ may, W.keptBut W' may :=
  tie fnsC_ok good_TC2 (fn := c_arbourlaw4_CharsTells) rfl (n := 0) (Tells_run _ r _ _ hr (bytesOf_lt s) (bytesOf_lt t)) (.cons (vt_int _ _ _) (.cons (vt_str _ _) (.cons (vt_str _ _) .nil))) (.cons _ _ _ _ (rv_int _ _ _) (.cons _ _ _ _ (rv_str s _) (.cons _ _ _ _ (rv_str t _) .nil))) W (by kernel_rfl)
theorem Kinds_calls (r : Int) (s : ByteArray) (W : World) : Calls Go.Proofs.Try.prog 6 #[.int .i32 r, .string s] W fun e W' => e = .returned (.bool true) ∧ ∀ may, W.keptBut W' may :=
  tie fnsC_ok good_TC2 (fn := c_arbourlaw4_CharsKinds) rfl (Kinds_run r _ (bytesOf_lt s)) (.cons (vt_int _ _ _) (.cons (vt_str _ _) .nil)) (.cons _ _ _ _ (rv_int _ _ _) (.cons _ _ _ _ (rv_str s _) .nil)) W (by kernel_rfl)
theorem okR_wf {n : Int} (h : (Lit.int .i32 n).wf = true) : okR n = true := by
  simp only [Lit.wf] at h
  have h1 : IntKind.i32.min = -2147483648 := by decide
  have h2 : IntKind.i32.max = 2147483647 := by decide
  rw [h1, h2] at h
  exact h
end Go.Am
