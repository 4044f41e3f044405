/- Parts of an abstract machine and its proofs: AmOps. -/
import Derived.Test.YtcgejflifhjajaaGreatDoorAmAm
import Derived.Laws.CopyRow
import Derived.Laws.Cells
import Derived.Laws.Slices
import Derived.Laws.Strings
import Derived.Laws.StructEq
import Derived.Great.BuildSlice
import Derived.Laws.AppendOwn
import Derived.Laws.BytesString
import Derived.Laws.IdiomStrings
import Derived.Laws.Runes

set_option linter.unusedSimpArgs false
set_option linter.unusedVariables false
namespace Go.Am
structure Pw where
  blk : Nat → Option Go.Obj
  io : Os × Array (Nat × ByteArray)
  gl : Nat → Option Go.Obj := fun _ => none
  glOk : ∀ b x, gl b = some x → blk b = some x := by intro b x h; cases h
instance : CoeFun Pw (fun _ => Nat → Option Go.Obj) := ⟨Pw.blk⟩
def World.io (w : World) : Os × Array (Nat × ByteArray) := (w.os, w.output)
structure Gho where
  blk : Nat → Option (Nat × Nat × Nat)
  imm : Nat → Option (List Value)
def Gho.le (G G' : Gho) : Prop := (∀ o x, G.blk o = some x → G'.blk o = some x) ∧ ∀ b c, G.imm b = some c → G'.imm b = some c
theorem Gho.le_refl (G : Gho) : G.le G := ⟨fun _ _ h => h, fun _ _ h => h⟩
theorem Gho.le_trans {A B C : Gho} (h : A.le B) (h' : B.le C) : A.le C := ⟨fun o x e => h'.1 o x (h.1 o x e), fun b c e => h'.2 b c (h.2 b c e)⟩
def bytesOf (s : ByteArray) : List Nat := s.data.toList.map UInt8.toNat
mutual
inductive RVC (ρ : Nat → FuncId) (G : Gho) : AV → Value → Prop
  | int (k : IntKind) (n : Int) : RVC ρ G (.int k n) (.int k n)
  | bool (b : Bool) : RVC ρ G (.bool b) (.bool b)
  | str (s : ByteArray) : RVC ρ G (.str (bytesOf s)) (.string s)
  | nilp : RVC ρ G .nilp (.pointer none)
  | nilfn : RVC ρ G .nilfn .nilFunc
  | ptr (o i off b k C : Nat) : G.blk o = some (b, k, C) → RVC ρ G (.ptr o i off) (.pointer (some ⟨b, i * k + off, none⟩))
  | rptr (cs : List AV) (b off : Nat) (cells : List Value) : G.imm b = some cells → RVCL ρ G cs ((cells.drop off).take cs.length) →
      RVC ρ G (.rptr cs) (.pointer (some ⟨b, off, none⟩))
  | vsE (full : Bool) (a : Option Addr) (c : Nat) : (full = true → c = 0) → RVC ρ G (.vs full []) (.slice a 0 c)
  | vs (full : Bool) (xs : List (List AV)) (k b off c : Nat) (cells : List Value) : xs ≠ [] → 1 ≤ k → (∀ r ∈ xs, r.length = k) → G.imm b = some cells →
      RVCL ρ G xs.flatten ((cells.drop off).take (xs.length * k)) → xs.length ≤ c → (full = true → c = xs.length) →
      RVC ρ G (.vs full xs) (.slice (some ⟨b, off, none⟩) xs.length c)
  | ref (o off len b k C : Nat) : G.blk o = some (b, k, C) → off + len ≤ C → RVC ρ G (.ref o k off len) (.slice (some ⟨b, off * k, none⟩) len (C - off))
  | fn (f : Nat) (caps : List AV) (vals : List Value) : RVCL ρ G caps vals → RVC ρ G (.fn f caps) (.func (.func (ρ f)) #[] vals.toArray)
inductive RVCL (ρ : Nat → FuncId) (G : Gho) : List AV → List Value → Prop
  | nil : RVCL ρ G [] []
  | cons (a : AV) (v : Value) (as : List AV) (vs : List Value) : RVC ρ G a v → RVCL ρ G as vs → RVCL ρ G (a :: as) (v :: vs)
end
mutual
inductive RV (ρ : Nat → FuncId) (G : Gho) : AV → Value → Prop
  | cell (a : AV) (v : Value) : RVC ρ G a v → RV ρ G a v
  | agg (cs : List AV) (vs : List Value) : RVCL ρ G cs vs → RV ρ G (.agg cs) (.agg vs.toArray)
  | tup (as : List AV) (vs : List Value) : RVL ρ G as vs → RV ρ G (.tup as) (.tuple vs.toArray)
  | undef : RV ρ G .undef Go.undef
  | any (v : Value) : RV ρ G .any v
inductive RVL (ρ : Nat → FuncId) (G : Gho) : List AV → List Value → Prop
  | nil : RVL ρ G [] []
  | cons (a : AV) (v : Value) (as : List AV) (vs : List Value) : RV ρ G a v → RVL ρ G as vs → RVL ρ G (a :: as) (v :: vs)
end
section
variable {ρ : Nat → FuncId} {G G' : Gho}
theorem RVCL.length_eq {as : List AV} {vs : List Value} (h : RVCL ρ G as vs) : as.length = vs.length := by
  induction as generalizing vs with
  | nil => cases h; rfl
  | cons a as ih => cases h with | cons _ v _ vs h1 h2 => simp [ih h2]
mutual
theorem RVC.mono (hg : G.le G') : ∀ {a : AV} {v : Value}, RVC ρ G a v → RVC ρ G' a v
  | _, _, .int k n => .int k n
  | _, _, .bool b => .bool b
  | _, _, .str s => .str s
  | _, _, .nilp => .nilp
  | _, _, .nilfn => .nilfn
  | _, _, .ptr o i off b k C h => .ptr o i off b k C (hg.1 _ _ h)
  | _, _, .rptr cs b off cells h h2 => .rptr cs b off cells (hg.2 _ _ h) (RVCL.mono hg h2)
  | _, _, .vsE f a c h => .vsE f a c h
  | _, _, .vs f xs k b off c cells h1 h2 h3 h4 h5 h6 h7 => .vs f xs k b off c cells h1 h2 h3 (hg.2 _ _ h4) (RVCL.mono hg h5) h6 h7
  | _, _, .ref o off len b k C h h2 => .ref o off len b k C (hg.1 _ _ h) h2
  | _, _, .fn f caps vals h => .fn f caps vals (RVCL.mono hg h)
theorem RVCL.mono (hg : G.le G') : ∀ {as : List AV} {vs : List Value}, RVCL ρ G as vs → RVCL ρ G' as vs
  | _, _, .nil => .nil
  | _, _, .cons a v as vs h1 h2 => .cons a v as vs (RVC.mono hg h1) (RVCL.mono hg h2)
end
mutual
theorem RV.mono (hg : G.le G') : ∀ {a : AV} {v : Value}, RV ρ G a v → RV ρ G' a v
  | _, _, .cell a v h => .cell a v (h.mono hg)
  | _, _, .agg cs vs h => .agg cs vs (h.mono hg)
  | _, _, .tup as vs h => .tup as vs (RVL.mono hg h)
  | _, _, .undef => .undef
  | _, _, .any v => .any v
theorem RVL.mono (hg : G.le G') : ∀ {as : List AV} {vs : List Value}, RVL ρ G as vs → RVL ρ G' as vs
  | _, _, .nil => .nil
  | _, _, .cons a v as vs h1 h2 => .cons a v as vs (RV.mono hg h1) (RVL.mono hg h2)
end
theorem RVCL.append {as bs : List AV} {vs ws : List Value} (h : RVCL ρ G as vs) (h' : RVCL ρ G bs ws) : RVCL ρ G (as ++ bs) (vs ++ ws) := by
  induction as generalizing vs with
  | nil => cases h; exact h'
  | cons a as ih => cases h with | cons _ v _ vs h1 h2 => exact .cons _ _ _ _ h1 (ih h2)
theorem RVCL.take {as : List AV} {vs : List Value} (h : RVCL ρ G as vs) (n : Nat) : RVCL ρ G (as.take n) (vs.take n) := by
  induction as generalizing vs n with
  | nil => cases h; simp; exact .nil
  | cons a as ih => cases h with | cons _ v _ vs h1 h2 =>
    cases n with
    | zero => simp; exact .nil
    | succ n => simpa using .cons _ _ _ _ h1 (ih h2 n)
theorem RVCL.drop {as : List AV} {vs : List Value} (h : RVCL ρ G as vs) (n : Nat) : RVCL ρ G (as.drop n) (vs.drop n) := by
  induction as generalizing vs n with
  | nil => cases h; simp; exact .nil
  | cons a as ih => cases h with | cons _ v _ vs h1 h2 =>
    cases n with
    | zero => simpa using .cons _ _ _ _ h1 h2
    | succ n => simpa using ih h2 n
theorem RVCL.get {as : List AV} {vs : List Value} (h : RVCL ρ G as vs) {i : Nat} {a : AV} (ha : as[i]? = some a) : ∃ v, vs[i]? = some v ∧ RVC ρ G a v := by
  induction as generalizing vs i with
  | nil => simp at ha
  | cons b as ih => cases h with | cons _ v _ vs h1 h2 =>
    cases i with
    | zero => simp at ha; subst ha; exact ⟨v, by simp, h1⟩
    | succ i => simp at ha; obtain ⟨v, h3, h4⟩ := ih h2 ha; exact ⟨v, by simpa using h3, h4⟩
theorem RVCL.replicate {a : AV} {v : Value} (h : RVC ρ G a v) (n : Nat) : RVCL ρ G (List.replicate n a) (List.replicate n v) := by
  induction n with
  | zero => exact .nil
  | succ n ih => simpa [List.replicate_succ] using .cons _ _ _ _ h ih
theorem RVC.one {a : AV} {v : Value} (h : RVC ρ G a v) : v.oneCell' = true := by cases h <;> rfl
theorem RVC.cellsA {a : AV} {v : Value} (h : RVC ρ G a v) : a.cells = [a] := by cases h <;> rfl
theorem RVC.cellsV {a : AV} {v : Value} (h : RVC ρ G a v) : v.cells = #[v] := by cases h <;> rfl
theorem RVCL.one {as : List AV} {vs : List Value} (h : RVCL ρ G as vs) : ∀ v ∈ vs, v.oneCell' = true := by
  induction as generalizing vs with
  | nil => cases h; simp
  | cons a as ih => cases h with | cons _ v _ vs h1 h2 =>
    intro x hx
    rcases List.mem_cons.1 hx with rfl | hx
    · exact h1.one
    · exact ih h2 x hx
theorem RV.cells {a : AV} {v : Value} (h : RV ρ G a v) (hk : a.okv = true) : RVCL ρ G a.cells v.cells.toList := by
  cases h with
  | cell a v h => rw [h.cellsA, h.cellsV]; exact .cons _ _ _ _ h .nil
  | agg cs vs h => simpa [AV.cells, Value.cells] using h
  | tup as vs h => cases hk
  | undef => cases hk
  | any v => cases hk
def FrOk (fr : Nat × Nat) (k n : Nat) : Prop := fr.1 = fr.2 ∨ k = 1 ∧ n ≤ fr.1
theorem FrOk.out {fr : Nat × Nat} {k n : Nat} (h : FrOk fr k n) (i : Nat) (hi : i < n) : ¬ (fr.1 ≤ i ∧ i < fr.2) := by
  rcases h with h | h <;> omega
theorem FrOk.zero {k : Nat} (n : Nat) : FrOk (0, 0) k n := .inl rfl
def BRel (ρ : Nat → FuncId) (G : Gho) (a b : AV) (k C : Nat) (c : Array Value) : Prop :=
  match a with
  | .str s => k = 1 ∧ c.size = C ∧ C ≤ 9223372036854775807 ∧ ∃ t : ByteArray, bytesOf t = s ∧ t.size ≤ C ∧ c.toList.take t.size = t.data.toList.map fun x => .int .u8 x.toNat
  | a => k = 2 ∧ C = 1 ∧ RVCL ρ G [a, b] c.toList ∧ (b = .vs true [] → c.toList[1]? = some (.slice none 0 0))
theorem BRel.mono {a b : AV} {k C : Nat} {c : Array Value} (hg : G.le G') (h : BRel ρ G a b k C c) : BRel ρ G' a b k C c := by
  unfold BRel at h ⊢
  split at h
  · exact h
  · obtain ⟨h1, h2, h3, h4⟩ := h
    exact ⟨h1, h2, h3.mono hg, h4⟩
def ObjRel (ρ : Nat → FuncId) (G : Gho) : Obj → Nat → Nat → Option Go.Obj → Prop
  | .arr k rows, k', C, some (.cells c _ fr) => k = k' ∧ 1 ≤ k ∧ c.size = C * k ∧ rows.length ≤ C ∧ (∀ r ∈ rows, r.length = k) ∧
      RVCL ρ G rows.flatten (c.toList.take (rows.length * k)) ∧ FrOk fr k c.size
  | .bld t a b, k', C, some (.cells c t' fr) => t' = t ∧ fr = (0, 0) ∧ BRel ρ G a b k' C c
  | .iter rest pos, k', _, some (.stringIter s p) => k' = 1 ∧ p = pos ∧ pos ≤ s.size ∧ rest = (bytesOf s).drop pos
  | _, _, _, _ => False
theorem ObjRel.mono {x : Obj} {k C : Nat} {y : Option Go.Obj} (hg : G.le G') (h : ObjRel ρ G x k C y) : ObjRel ρ G' x k C y := by
  cases x with
  | arr k' rows =>
    cases y with
    | none => exact h
    | some y => cases y <;> first | exact h | (obtain ⟨a, b, c, d, e, f, g⟩ := h; exact ⟨a, b, c, d, e, f.mono hg, g⟩)
  | iter rest pos =>
    cases y with
    | none => exact h
    | some y => cases y <;> exact h
  | bld t a b =>
    cases y with
    | none => exact h
    | some y => cases y <;> first | exact h | (obtain ⟨a, b, c⟩ := h; exact ⟨a, b, c.mono hg⟩)
structure Rel (ρ : Nat → FuncId) (pw : Pw) (base : Nat) (G : Gho) (h : H) (w : World) : Prop where
  objs : ∀ o x, h.get o = some x → ∃ b k C, G.blk o = some (b, k, C) ∧ ObjRel ρ G x k C w.heap[b]?
  inj : ∀ o o' x x' b k C k' C', h.get o = some x → h.get o' = some x' → G.blk o = some (b, k, C) → G.blk o' = some (b, k', C') → o = o'
  imm : ∀ b cells, G.imm b = some cells → ∃ c e fr, w.heap[b]? = some (.cells c e fr) ∧ c.toList.take cells.length = cells
  disj : ∀ o x b k C, h.get o = some x → G.blk o = some (b, k, C) → G.imm b = none
  ltB : ∀ o x, G.blk o = some x → o < h.next
  pwh : ∀ b x, pw b = some x → w.heap[b]? = some x
  pwd : ∀ o x b k C, base ≤ o → h.get o = some x → G.blk o = some (b, k, C) → pw b = none
  io : World.io w = pw.io
  blkH : ∀ o b k C, G.blk o = some (b, k, C) → ∃ y, w.heap[b]? = some y
theorem Rel.ltH {pw : Pw} {base : Nat} {h : H} {w : World} (r : Rel ρ pw base G h w) {o : Nat} {x : Obj} (ho : h.get o = some x) : o < h.next := by
  obtain ⟨b, k, C, hb, _⟩ := r.objs o x ho
  exact r.ltB o _ hb
theorem heap_lt {w : World} {b : Nat} {x : Go.Obj} (h : w.heap[b]? = some x) : b < w.heap.size := by
  rcases Nat.lt_or_ge b w.heap.size with h' | h'
  · exact h'
  · simp [Array.getElem?_eq_none h'] at h
theorem ObjRel.isSome {x : Obj} {k C : Nat} {y : Option Go.Obj} (h : ObjRel ρ G x k C y) : ∃ z, y = some z := by
  cases y with
  | none => cases x <;> exact h.elim
  | some z => exact ⟨z, rfl⟩
theorem Rel.heap_eq {pw : Pw} {base : Nat} {h : H} {w w' : World} (r : Rel ρ pw base G h w) (e : w'.heap = w.heap) (hio : World.io w' = World.io w := by rfl) : Rel ρ pw base G h w' :=
  ⟨by rw [e]; exact r.objs, r.inj, by rw [e]; exact r.imm, r.disj, r.ltB, by rw [e]; exact r.pwh, r.pwd, hio.trans r.io, by rw [e]; exact r.blkH⟩
def Gho.add (G : Gho) (o : Nat) (x : Nat × Nat × Nat) : Gho := ⟨fun p => if p = o then some x else G.blk p, G.imm⟩
def Gho.addImm (G : Gho) (b : Nat) (c : List Value) : Gho := ⟨G.blk, fun a => if a = b then some c else G.imm a⟩
theorem Rel.blk_next {pw : Pw} {base : Nat} {h : H} {w : World} (r : Rel ρ pw base G h w) : G.blk h.next = none := by
  cases e : G.blk h.next with
  | none => rfl
  | some x => exact absurd (r.ltB _ _ e) (Nat.lt_irrefl _)
theorem Rel.imm_size {pw : Pw} {base : Nat} {h : H} {w : World} (r : Rel ρ pw base G h w) {b : Nat} (hb : w.heap.size ≤ b) : G.imm b = none := by
  cases e : G.imm b with
  | none => rfl
  | some x => obtain ⟨c, e', fr, h1, _⟩ := r.imm _ _ e; exact absurd (heap_lt h1) (by omega)
theorem Rel.pw_size {pw : Pw} {base : Nat} {h : H} {w : World} (r : Rel ρ pw base G h w) {b : Nat} (hb : w.heap.size ≤ b) : pw b = none := by
  cases e : pw b with
  | none => rfl
  | some x => exact absurd (heap_lt (r.pwh _ _ e)) (by omega)
theorem Gho.le_add {G : Gho} {o : Nat} {x : Nat × Nat × Nat} (h : G.blk o = none) : G.le (G.add o x) :=
  ⟨fun p y e => by by_cases hp : p = o; · subst hp; rw [h] at e; cases e
                   · simp [Gho.add, hp, e], fun _ _ e => e⟩
theorem Gho.le_addImm {G : Gho} {b : Nat} {c : List Value} (h : G.imm b = none) : G.le (G.addImm b c) :=
  ⟨fun _ _ e => e, fun a y e => by by_cases hp : a = b; · subst hp; rw [h] at e; cases e
                                   · simp [Gho.addImm, hp, e]⟩
structure Ext (pw : Pw) (h h' : H) (G G' : Gho) : Prop where
  le : G.le G'
  imm : ∀ b c, G'.imm b = some c → G.imm b = some c ∨ pw b = none
  blk : ∀ o x, G'.blk o = some x → G.blk o = some x ∨ h.next ≤ o
  next : h.next ≤ h'.next
  fr : ∀ o b k C, G'.blk o = some (b, k, C) → G.blk o = some (b, k, C) ∨ pw b = none
theorem Ext.refl (pw : Pw) {h h' : H} (G : Gho) (hn : h.next ≤ h'.next) : Ext pw h h' G G :=
  ⟨G.le_refl, fun _ _ e => .inl e, fun _ _ e => .inl e, hn, fun _ _ _ _ e => .inl e⟩
theorem Ext.trans {pw : Pw} {h h' h'' : H} {A B C : Gho} (x : Ext pw h h' A B) (y : Ext pw h' h'' B C) : Ext pw h h'' A C :=
  ⟨Gho.le_trans x.le y.le, fun b c e => (y.imm b c e).elim (x.imm b c) .inr, fun o z e => (y.blk o z e).elim (x.blk o z) (fun hn => .inr (Nat.le_trans x.next hn)),
    Nat.le_trans x.next y.next, fun o b k C e => (y.fr o b k C e).elim (x.fr o b k C) .inr⟩
theorem Ext.add (pw : Pw) {h : H} (x : Obj) {z : Nat × Nat × Nat} (hb : G.blk h.next = none) (hp : pw z.1 = none) : Ext pw h (h.new x) G (G.add h.next z) := by
  refine ⟨Gho.le_add hb, fun _ _ e => .inl e, fun o y e => ?_, Nat.le_succ _, fun o b k C e => ?_⟩
  · by_cases ho : o = h.next
    · exact .inr (by omega)
    · simp [Gho.add, ho] at e; exact .inl e
  · by_cases ho : o = h.next
    · simp [Gho.add, ho] at e; subst e; exact .inr hp
    · simp [Gho.add, ho] at e; exact .inl e
theorem Ext.addImm (pw : Pw) {h : H} {b : Nat} {c : List Value} (hb : G.imm b = none) (hp : pw b = none) : Ext pw h h G (G.addImm b c) := by
  refine ⟨Gho.le_addImm hb, fun a y e => ?_, fun o y e => .inl e, Nat.le_refl _, fun _ _ _ _ e => .inl e⟩
  by_cases ha : a = b
  · exact .inr (by rw [ha]; exact hp)
  · simp [Gho.addImm, ha] at e; exact .inl e
theorem get_push_lt {w : World} {x : Go.Obj} {b : Nat} {y : Go.Obj} (h : w.heap[b]? = some y) : (w.heap.push x)[b]? = some y := by
  have := heap_lt h
  rw [Array.getElem?_push, if_neg (by omega)]; exact h
theorem Rel.new {pw : Pw} {base : Nat} {h : H} {w w' : World} (r : Rel ρ pw base G h w) (x : Obj) (y : Go.Obj) (k C : Nat)
    (hw : w'.heap = w.heap.push y) (hx : ObjRel ρ (G.add h.next (w.heap.size, k, C)) x k C (some y)) (hio : World.io w' = World.io w := by rfl) :
    Rel ρ pw base (G.add h.next (w.heap.size, k, C)) (h.new x) w' := by
  have hle : G.le (G.add h.next (w.heap.size, k, C)) := Gho.le_add r.blk_next
  have hold : ∀ o x, h.get o = some x → o ≠ h.next := fun o x e => by have := r.ltH e; omega
  have hblk : ∀ o, o ≠ h.next → (G.add h.next (w.heap.size, k, C)).blk o = G.blk o := fun o e => by simp [Gho.add, e]
  have hlt : ∀ o x b k C, h.get o = some x → G.blk o = some (b, k, C) → b < w.heap.size := by
    intro o x b k C h1 h2
    obtain ⟨b', k', C', h3, h4⟩ := r.objs o x h1
    rw [h2] at h3; cases h3
    obtain ⟨z, hz⟩ := h4.isSome
    exact heap_lt hz
  refine ⟨?_, ?_, ?_, ?_, ?_, ?_, ?_, hio.trans r.io, ?_⟩
  · intro o z hz
    rw [H.get_new] at hz
    by_cases ho : o = h.next
    · subst ho; rw [if_pos rfl] at hz; cases hz
      exact ⟨w.heap.size, k, C, by simp [Gho.add], by rw [hw]; simpa using hx⟩
    · rw [if_neg ho] at hz
      obtain ⟨b, k', C', h1, h2⟩ := r.objs o z hz
      refine ⟨b, k', C', by rw [hblk o ho]; exact h1, ?_⟩
      obtain ⟨q, hq⟩ := h2.isSome
      rw [hw, get_push_lt hq, ← hq]
      exact h2.mono hle
  · intro o o' z z' b k1 C1 k2 C2 h1 h2 h3 h4
    rw [H.get_new] at h1 h2
    by_cases ho : o = h.next <;> by_cases ho' : o' = h.next
    · rw [ho, ho']
    · rw [if_neg ho'] at h2; rw [hblk o' ho'] at h4
      simp [Gho.add, ho] at h3
      have := hlt o' z' _ _ _ h2 h4; omega
    · rw [if_neg ho] at h1; rw [hblk o ho] at h3
      simp [Gho.add, ho'] at h4
      have := hlt o z _ _ _ h1 h3; omega
    · rw [if_neg ho] at h1; rw [if_neg ho'] at h2; rw [hblk o ho] at h3; rw [hblk o' ho'] at h4
      exact r.inj o o' z z' b k1 C1 k2 C2 h1 h2 h3 h4
  · intro b cells h1
    obtain ⟨c, e, fr, h2, h3⟩ := r.imm b cells h1
    exact ⟨c, e, fr, by rw [hw]; exact get_push_lt h2, h3⟩
  · intro o z b k1 C1 h1 h2
    rw [H.get_new] at h1
    by_cases ho : o = h.next
    · simp [Gho.add, ho] at h2
      show G.imm b = none
      exact r.imm_size (by omega)
    · rw [if_neg ho] at h1; rw [hblk o ho] at h2
      exact r.disj o z b k1 C1 h1 h2
  · intro o z h1
    by_cases ho : o = h.next
    · simp [ho]
    · rw [hblk o ho] at h1; have := r.ltB o z h1; simp; omega
  · intro b z h1
    rw [hw]; exact get_push_lt (r.pwh b z h1)
  · intro o z b k1 C1 h0 h1 h2
    rw [H.get_new] at h1
    by_cases ho : o = h.next
    · simp [Gho.add, ho] at h2
      exact r.pw_size (by omega)
    · rw [if_neg ho] at h1; rw [hblk o ho] at h2
      exact r.pwd o z b k1 C1 h0 h1 h2
  · intro o b k1 C1 h1
    by_cases ho : o = h.next
    · simp [Gho.add, ho] at h1
      obtain ⟨rfl, _, _⟩ := h1
      exact ⟨y, by rw [hw]; simp⟩
    · rw [hblk o ho] at h1
      obtain ⟨q, hq⟩ := r.blkH o b k1 C1 h1
      exact ⟨q, by rw [hw]; exact get_push_lt hq⟩
theorem Rel.newImm {pw : Pw} {base : Nat} {h : H} {w w' : World} (r : Rel ρ pw base G h w) (c : Array Value) (e : TypeId) (fr : Nat × Nat) (cells : List Value)
    (hw : w'.heap = w.heap.push (.cells c e fr)) (hc : c.toList.take cells.length = cells) (hio : World.io w' = World.io w := by rfl) :
    Rel ρ pw base (G.addImm w.heap.size cells) h w' := by
  have hle : G.le (G.addImm w.heap.size cells) := Gho.le_addImm (r.imm_size (Nat.le_refl _))
  refine ⟨?_, r.inj, ?_, ?_, r.ltB, ?_, r.pwd, hio.trans r.io, fun o b k C e => let ⟨q, hq⟩ := r.blkH o b k C e; ⟨q, by rw [hw]; exact get_push_lt hq⟩⟩
  · intro o z hz
    obtain ⟨b, k', C', h1, h2⟩ := r.objs o z hz
    refine ⟨b, k', C', h1, ?_⟩
    obtain ⟨q, hq⟩ := h2.isSome
    rw [hw, get_push_lt hq, ← hq]
    exact h2.mono hle
  · intro b cs h1
    by_cases hb : b = w.heap.size
    · simp [Gho.addImm, hb] at h1
      subst h1
      exact ⟨c, e, fr, by rw [hw, hb]; simp, hc⟩
    · simp [Gho.addImm, hb] at h1
      obtain ⟨c', e', fr', h2, h3⟩ := r.imm b cs h1
      exact ⟨c', e', fr', by rw [hw]; exact get_push_lt h2, h3⟩
  · intro o z b k C h1 h2
    have hb : b ≠ w.heap.size := by
      obtain ⟨b', k', C', h3, h4⟩ := r.objs o z h1
      have h2' : G.blk o = some (b, k, C) := h2
      rw [h2'] at h3; cases h3
      obtain ⟨q, hq⟩ := h4.isSome
      have := heap_lt hq; omega
    simp [Gho.addImm, hb]
    exact r.disj o z b k C h1 h2
  · intro b z h1
    rw [hw]; exact get_push_lt (r.pwh b z h1)
theorem Rel.put {pw : Pw} {base : Nat} {h : H} {w w' : World} (r : Rel ρ pw base G h w) (o : Nat) (x x' : Obj) (b k C : Nat) (y : Go.Obj)
    (hb : base ≤ o) (ho : h.get o = some x) (hk : G.blk o = some (b, k, C)) (hw : ∀ a, w'.heap[a]? = if a = b then some y else w.heap[a]?) (hx : ObjRel ρ G x' k C (some y)) (hio : World.io w' = World.io w := by rfl) :
    Rel ρ pw base G (h.put o x') w' := by
  have hget : ∀ p z, (h.put o x').get p = some z → ∃ z', h.get p = some z' := by
    intro p z hz
    rw [H.get_put] at hz
    by_cases hp : p = o
    · exact ⟨x, by rw [hp]; exact ho⟩
    · rw [if_neg hp] at hz; exact ⟨z, hz⟩
  have hne : ∀ p z b' k' C', p ≠ o → h.get p = some z → G.blk p = some (b', k', C') → b' ≠ b := by
    intro p z b' k' C' hp h1 h2 e
    subst e
    exact hp (r.inj p o z x b' k' C' k C h1 ho h2 hk)
  refine ⟨?_, ?_, ?_, ?_, r.ltB, ?_, ?_, hio.trans r.io, ?_⟩
  · intro p z hz
    rw [H.get_put] at hz
    by_cases hp : p = o
    · rw [if_pos hp] at hz; cases hz
      exact ⟨b, k, C, by rw [hp]; exact hk, by rw [hw, if_pos rfl]; exact hx⟩
    · rw [if_neg hp] at hz
      obtain ⟨b', k', C', h1, h2⟩ := r.objs p z hz
      exact ⟨b', k', C', h1, by rw [hw, if_neg (hne p z b' k' C' hp hz h1)]; exact h2⟩
  · intro p p' z z' b' k1 C1 k2 C2 h1 h2 h3 h4
    obtain ⟨q, hq⟩ := hget p z h1
    obtain ⟨q', hq'⟩ := hget p' z' h2
    exact r.inj p p' q q' b' k1 C1 k2 C2 hq hq' h3 h4
  · intro a cells h1
    obtain ⟨c, e, fr, h2, h3⟩ := r.imm a cells h1
    have : a ≠ b := by rintro rfl; have := r.disj o x a k C ho hk; rw [h1] at this; cases this
    exact ⟨c, e, fr, by rw [hw, if_neg this]; exact h2, h3⟩
  · intro p z b' k' C' h1 h2
    obtain ⟨q, hq⟩ := hget p z h1
    exact r.disj p q b' k' C' hq h2
  · intro a z h1
    have : a ≠ b := by rintro rfl; have := r.pwd o x a k C hb ho hk; rw [h1] at this; cases this
    rw [hw, if_neg this]; exact r.pwh a z h1
  · intro p z b' k' C' h0 h1 h2
    obtain ⟨q, hq⟩ := hget p z h1
    exact r.pwd p q b' k' C' h0 hq h2
  · intro p b' k' C' h1
    obtain ⟨q, hq⟩ := r.blkH p b' k' C' h1
    by_cases hab : b' = b
    · exact ⟨y, by rw [hw, if_pos hab]⟩
    · exact ⟨q, by rw [hw, if_neg hab]; exact hq⟩
theorem Rel.kill {pw : Pw} {base : Nat} {h : H} {w : World} (r : Rel ρ pw base G h w) (o : Nat) : Rel ρ pw base G (h.kill o) w := by
  have hget : ∀ p z, (h.kill o).get p = some z → h.get p = some z := by
    intro p z hz
    rw [H.get_kill] at hz
    by_cases hp : p = o
    · rw [if_pos hp] at hz; cases hz
    · rw [if_neg hp] at hz; exact hz
  exact ⟨fun p z hz => r.objs p z (hget p z hz), fun p p' z z' b k1 C1 k2 C2 h1 h2 => r.inj p p' z z' b k1 C1 k2 C2 (hget _ _ h1) (hget _ _ h2), r.imm,
    fun p z b k C h1 => r.disj p z b k C (hget _ _ h1), r.ltB, r.pwh, fun p z b k C h0 h1 => r.pwd p z b k C h0 (hget _ _ h1), r.io, r.blkH⟩
end
end Go.Am
namespace Go.Am
section
variable (P : Program) (ρ : Nat → FuncId)
def szIs (t : TypeId) (n : Nat) : Bool := match P.info? t with
  | some i => i.size == n
  | none => false
def aggIs (t : TypeId) (g : Bool) : Bool := match P.underlying t with
  | some (.struct _) | some (.array _ _) => g
  | some _ => !g
  | none => false
mutual
def okC : Value → AV → Bool
  | .int k n, .int k' n' => decide (k = k') && n == n'
  | .bool b, .bool b' => b == b'
  | .string s, .str l => bytesOf s == l
  | .pointer none, .nilp => true
  | .slice none 0 0, .vs _ [] => true
  | .nilFunc, .nilfn => true
  | _, _ => false
end
def okCL : List Value → List AV → Bool
  | [], [] => true
  | v :: vs, a :: as => okC v a && okCL vs as
  | _, _ => false
def okV : Value → AV → Bool
  | .agg cs, .agg l => okCL cs.toList l
  | .tuple cs, .undef => cs.isEmpty
  | v, a => okC v a
def zeroIs (t : TypeId) (z : List AV) : Bool := match P.info? t with
  | some i => match i.zero with
    | some v => okCL v.cells.toList z && (i.size == z.length)
    | none => false
  | none => false
def okO : Operand → AO → Bool
  | .tmp t, .s n => t == n
  | .const v, .c a => okV v a
  | .func f, .c (.fn g []) => ρ g == f
  | _, _ => false
def okOs : List Operand → List AO → Bool
  | [], [] => true
  | x :: xs, a :: as => okO ρ x a && okOs xs as
  | _, _ => false
def RE (ρ : Nat → FuncId) (G : Gho) (e : Env) (tmps : Array Value) : Prop :=
  e.length = tmps.size ∧ ∀ n, RV ρ G (e.getD n .undef) (tmps.getD n Go.undef)
end
section
variable {P : Program} {ρ : Nat → FuncId} {G : Gho}
theorem RE.mono {G' : Gho} {e : Env} {t : Array Value} (hg : G.le G') (h : RE ρ G e t) : RE ρ G' e t := ⟨h.1, fun n => (h.2 n).mono hg⟩
theorem RE.put {e : Env} {act : Act} {a : AV} {v : Value} (h : RE ρ G e act.tmps) (hv : RV ρ G a v) (d : Option Tmp) : RE ρ G (putDst e d a) (act.put d v).tmps := by
  cases d with
  | none => exact h
  | some n =>
    refine ⟨by simp [putDst, Act.put, h.1], fun m => ?_⟩
    have h2 := h.2 m
    simp only [putDst, Act.put, List.getD_eq_getElem?_getD, List.getElem?_set, Array.getD_eq_getD_getElem?, Array.getElem?_setIfInBounds] at h2 ⊢
    by_cases hm : n = m
    · subst hm
      by_cases hl : n < e.length
      · have hl' : n < act.tmps.size := h.1 ▸ hl
        simpa [hl, hl'] using hv
      · have hl' : ¬ n < act.tmps.size := h.1 ▸ hl
        simp [hl, hl']
        exact .undef
    · simpa [hm] using h2
theorem okC_sound {v : Value} {a : AV} (h : okC v a = true) : RVC ρ G a v := by
  cases v <;> cases a <;> simp only [okC, Bool.and_eq_true, decide_eq_true_eq, beq_iff_eq, Bool.false_eq_true] at h
  case int.int k n k' n' => obtain ⟨rfl, rfl⟩ := h; exact .int _ _
  case bool.bool b b' => subst h; exact .bool _
  case string.str s l => subst h; exact .str _
  case pointer.nilp p => cases p with
    | none => exact .nilp
    | some a => simp at h
  case slice.vs p n c f xs =>
    cases p with
    | some a => simp at h
    | none =>
      cases n with
      | succ n => simp at h
      | zero => cases c with
        | succ c => simp at h
        | zero => cases xs with
          | nil => exact .vsE _ _ _ fun _ => rfl
          | cons x xs => simp at h
  case nilFunc.nilfn => exact .nilfn
  all_goals (first | exact absurd h (by simp [okC]) | (simp at h))
theorem okCL_sound {vs : List Value} {as : List AV} (h : okCL vs as = true) : RVCL ρ G as vs := by
  induction vs generalizing as with
  | nil => cases as with
    | nil => exact .nil
    | cons => simp [okCL] at h
  | cons v vs ih => cases as with
    | nil => simp [okCL] at h
    | cons a as =>
      simp only [okCL, Bool.and_eq_true] at h
      exact .cons _ _ _ _ (okC_sound h.1) (ih h.2)
theorem okV_sound {v : Value} {a : AV} (h : okV v a = true) : RV ρ G a v := by
  unfold okV at h
  split at h
  · rename_i cs l
    have := okCL_sound (ρ := ρ) (G := G) h
    have h2 := RV.agg l cs.toList this
    simpa using h2
  · rename_i cs
    have : cs = #[] := by simpa using h
    subst this; exact .undef
  · exact .cell _ _ (okC_sound h)
theorem okO_sound {x : Operand} {a : AO} {e : Env} {act : Act} (h : okO ρ x a = true) (he : RE ρ G e act.tmps) : RV ρ G (a.ev e) (act.eval x) := by
  unfold okO at h
  split at h
  · rename_i t n
    have : t = n := by simpa using h
    subst this; exact he.2 t
  · exact okV_sound h
  · rename_i f g
    have : ρ g = f := by simpa using h
    subst this
    exact .cell _ _ (.fn g [] [] .nil)
  · cases h
theorem okOs_sound {xs : List Operand} {as : List AO} {e : Env} {act : Act} (h : okOs ρ xs as = true) (he : RE ρ G e act.tmps) :
    RVL ρ G (as.map (·.ev e)) (xs.map act.eval) := by
  induction xs generalizing as with
  | nil => cases as with
    | nil => exact .nil
    | cons => simp [okOs] at h
  | cons x xs ih => cases as with
    | nil => simp [okOs] at h
    | cons a as =>
      simp only [okOs, Bool.and_eq_true] at h
      exact .cons _ _ _ _ (okO_sound h.1 he) (ih h.2)
theorem run_szIs {t : TypeId} {n : Nat} (h : szIs P t n = true) (w : World) : (sizeOf t).run P w = .ok n w := by
  unfold szIs at h
  cases e : P.info? t with
  | none => simp [e] at h
  | some i => simp [e] at h; simp [sizeOf, typeInfo, e, h]
theorem run_aggIs {t : TypeId} {g : Bool} (h : aggIs P t g = true) (w : World) : (isAgg t).run P w = .ok g w := by
  unfold aggIs at h
  cases e : P.underlying t with
  | none => simp [e] at h
  | some d =>
    rw [e] at h
    unfold isAgg
    rw [Sem.run_bind, run_underlying e, Result.andThen_ok]
    cases d <;> simp_all
theorem run_zeroIs {t : TypeId} {z : List AV} (h : zeroIs P t z = true) (w : World) :
    ∃ v : Value, (zeroValue t).run P w = .ok v w ∧ okCL v.cells.toList z = true ∧ szIs P t z.length = true := by
  unfold zeroIs at h
  cases e : P.info? t with
  | none => simp [e] at h
  | some i =>
    simp only [e] at h
    cases e2 : i.zero with
    | none => simp [e2] at h
    | some v =>
      simp only [e2, Bool.and_eq_true, beq_iff_eq] at h
      exact ⟨v, by simp [zeroValue, typeInfo, e, e2], h.1, by simp [szIs, e, h.2]⟩
theorem add_plain (b off j : Nat) : (⟨b, off, none⟩ : Addr).add j = ⟨b, off + j, none⟩ := by unfold Addr.add; split <;> simp_all
theorem cell_at {w : World} {b : Nat} {c : Array Value} {e : TypeId} {fr : Nat × Nat} (h : w.heap[b]? = some (.cells c e fr)) (i : Nat) : w.cell? ⟨b, i, none⟩ = c[i]? := by
  simp [World.cell?, h]
theorem run_loadCells_at {w : World} {b : Nat} {c : Array Value} {e : TypeId} {fr : Nat × Nat} (h : w.heap[b]? = some (.cells c e fr)) (p n : Nat) (hn : p + n ≤ c.size) :
    (loadCells ⟨b, p, none⟩ n).run P w = .ok ((c.toList.drop p).take n).toArray w := by
  have hl : ((c.toList.drop p).take n).length = n := by simp; omega
  have := run_loadCells_list (P := P) w ⟨b, p, none⟩ ((c.toList.drop p).take n) (fun j v hj => by
    rw [add_plain, cell_at h]
    have hj' := (List.getElem?_eq_some_iff.1 hj).1
    rw [hl] at hj'
    rw [List.getElem?_take, if_pos hj', List.getElem?_drop] at hj
    simpa using hj)
  rwa [hl] at this
theorem run_loadVar_part {w : World} {b p : Nat} {c : Array Value} {e : TypeId} {fr : Nat × Nat} (hb : w.heap[b]? = some (.cells c e fr))
    {r : List AV} (hr : RVCL ρ G r ((c.toList.drop p).take r.length)) {t : TypeId} {off sz : Nat} {g : Bool} {v : AV} (hp : part r off g sz = some v)
    (hg : aggIs P t g = true) (hs : szIs P t sz = true) : ∃ v', (loadVar t ⟨b, p + off, none⟩).run P w = .ok v' w ∧ RV ρ G v v' := by
  have hlen := hr.length_eq
  rw [List.length_take, List.length_drop] at hlen
  unfold part at hp
  split at hp
  · rename_i hle
    obtain ⟨hpos, hle⟩ := hle
    have hsz : r.length ≤ c.size - p := by simp at hlen; omega
    cases g with
    | true =>
      simp only [if_true, Option.some.injEq] at hp
      subst hp
      refine ⟨_, by simp only [loadVar, Sem.run_bind, run_aggIs hg, Result.andThen_ok, if_true, run_szIs hs, Sem.run_ite]; rw [run_loadCells_at hb _ _ (by omega)]; rfl, ?_⟩
      refine .agg _ _ ?_
      have := (hr.drop off).take sz
      rwa [List.drop_take, List.take_take, List.drop_drop, Nat.min_eq_left (by omega)] at this
    | false =>
      simp only [Bool.false_eq_true, if_false] at hp
      split at hp
      · rename_i h1
        obtain ⟨v', h3, h4⟩ := hr.get hp
        refine ⟨v', ?_, .cell _ _ h4⟩
        rw [List.getElem?_take] at h3
        split at h3
        · rw [List.getElem?_drop] at h3
          have h5 : w.cell? ⟨b, p + off, none⟩ = some v' := by rw [cell_at hb]; simpa using h3
          simp [loadVar, run_aggIs hg, h5]
        · cases h3
      · cases hp
  · cases hp
theorem row_of_flat {rows : List (List AV)} {vs : List Value} {k : Nat} (hk : ∀ r ∈ rows, r.length = k) (h : RVCL ρ G rows.flatten vs) {i : Nat} {r : List AV} (hi : rows[i]? = some r) :
    RVCL ρ G r ((vs.drop (i * k)).take k) := by
  induction rows generalizing vs i with
  | nil => simp at hi
  | cons x rows ih =>
    have hx : x.length = k := hk x (by simp)
    cases i with
    | zero =>
      simp at hi; subst hi
      have := h.take k
      simpa [← hx] using this
    | succ i =>
      simp at hi
      have h2 := h.drop k
      rw [List.flatten_cons, ← hx, List.drop_left, hx] at h2
      have := ih (fun r hr => hk r (by simp [hr])) h2 hi
      rwa [List.drop_drop, show k + i * k = (i + 1) * k by rw [Nat.succ_mul]; omega] at this
theorem flat_length {α : Type} {rows : List (List α)} {k : Nat} (hk : ∀ r ∈ rows, r.length = k) : rows.flatten.length = rows.length * k := by
  induction rows with
  | nil => simp
  | cons x rows ih => simp [ih (fun r hr => hk r (by simp [hr])), hk x (by simp), Nat.succ_mul]; omega
theorem load_sim {pw : Pw} {base : Nat} {h : H} {w : World} (r : Rel ρ pw base G h w) {a : AV} {va : Value} (ha : RV ρ G a va) {t : TypeId} {g : Bool} {sz : Nat} {v : AV}
    (hl : loadAt h g sz a = some v) (hg : aggIs P t g = true) (hs : szIs P t sz = true) : ∃ v', (Instr.loadAt t va).run P w = .ok v' w ∧ RV ρ G v v' := by
  unfold loadAt at hl
  split at hl
  · rename_i o i off
    cases ha with
    | cell _ _ ha => cases ha with
      | ptr _ _ _ b k C hb =>
        cases hrow : row? h o i with
        | none => simp [hrow] at hl
        | some row =>
          simp only [hrow, Option.bind_some] at hl
          unfold row? at hrow
          split at hrow
          · rename_i k' rows ho
            obtain ⟨b', k1, C', h1, h2⟩ := r.objs o _ ho
            rw [hb] at h1; cases h1
            obtain ⟨z, hz⟩ := h2.isSome
            rw [hz] at h2
            cases z with
            | cells c e fr =>
              obtain ⟨e1, e2, e3, e4, e5, e6, e7⟩ := h2
              subst e1
              have hrl := e5 row (List.mem_of_getElem? hrow)
              have hi : i < rows.length := (List.getElem?_eq_some_iff.1 hrow).1
              have h3 := row_of_flat e5 e6 hrow
              have : (i + 1) * k' ≤ rows.length * k' := Nat.mul_le_mul_right _ hi
              rw [Nat.succ_mul] at this
              rw [List.drop_take, List.take_take, Nat.min_eq_left (by omega)] at h3
              have h4 := run_loadVar_part (P := P) hz (p := i * k') (r := row) (by rw [hrl]; exact h3) hl hg hs
              simpa [Instr.loadAt, Instr.sureAddr] using h4
            | _ => exact h2.elim
          · cases hrow
  · rename_i cs
    cases ha with
    | cell _ _ ha => cases ha with
      | rptr _ b off cells hb hc =>
        obtain ⟨c, e, fr, h2, h3⟩ := r.imm b cells hb
        have hlen := hc.length_eq
        have hcc : RVCL ρ G cs ((c.toList.drop off).take cs.length) := by
          rw [← h3, List.drop_take, List.take_take] at hc
          rw [← h3] at hlen
          simp only [List.length_take, List.length_drop] at hlen
          rwa [Nat.min_eq_left (by omega)] at hc
        have h4 := run_loadVar_part (P := P) h2 (p := off) (r := cs) hcc hl hg hs
        simpa [Instr.loadAt, Instr.sureAddr] using h4
  · cases hl
end
end Go.Am
namespace Go.Am
section
variable {P : Program} {ρ : Nat → FuncId} {G : Gho}
theorem run_storeCells_free (P : Program) (g o : Nat) (t : TypeId) (fz : Nat × Nat) (n : Nat) (hf : ∀ i, i < n → ¬ (fz.1 ≤ i ∧ i < fz.2)) :
    ∀ (vs : List Value) (i : Nat) (cur : Array Value) (w : World), cur.size = n → w.heap[g]? = some (.cells cur t fz) → o + i + vs.length ≤ cur.size → (∀ v ∈ vs, v.oneCell' = true) →
    (storeCells ⟨g, o, none⟩ vs i).run P w = .ok () (w.setRow g (cur.toList.take (o + i) ++ vs ++ cur.toList.drop (o + i + vs.length)).toArray)
  | [], i, cur, w, _, hg, _, _ => by
    simp only [storeCells, List.append_nil, List.length_nil, Nat.add_zero, List.take_append_drop, Array.toArray_toList]
    rw [setRow_self w g cur t fz hg]
    rfl
  | v :: rest, i, cur, w, hn, hg, hl, h1 => by
    have hi : o + i < cur.size := by simp at hl; omega
    have hadd : (⟨g, o, none⟩ : Addr).add i = ⟨g, o + i, none⟩ := add_plain g o i
    have hcell : w.cell? ⟨g, o + i, none⟩ = some cur[o + i] := by simp [World.cell?, hg, hi]
    have hfro : w.frozen? ⟨g, o + i, none⟩ = false := by
      obtain ⟨lo, hi'⟩ := fz
      have := hf (o + i) (by omega)
      simp only [World.frozen?, hg, Bool.and_eq_false_iff, decide_eq_false_iff_not]
      simp only at this
      omega
    have hst : (store ((⟨g, o, none⟩ : Addr).add i) v).run P w = .ok () (w.setRow g (cur.setIfInBounds (o + i) v)) := by
      rw [hadd, run_store P w _ v _ (h1 v (by simp)), hcell]
      simp [hfro, setCell_eq_setRow w g (o + i) cur t fz v hg]
    have ih := run_storeCells_free P g o t fz n hf rest (i + 1) (cur.setIfInBounds (o + i) v) (w.setRow g (cur.setIfInBounds (o + i) v)) (by simpa using hn) (setRow_heap w g cur _ t _ hg) (by simp at hl ⊢; omega) (fun x hx => h1 x (by simp [hx]))
    simp only [storeCells, Sem.run_bind, hst, Result.andThen_ok, ih, setRow_setRow]
    congr 3
    have e := list_seg_step cur.toList (o + i) v rest (by simp at hl ⊢; omega)
    simpa [Array.toList_setIfInBounds, Nat.add_assoc] using e
theorem flat_set {rows : List (List AV)} {k : Nat} (hk : ∀ r ∈ rows, r.length = k) {i : Nat} {r : List AV} (hi : rows[i]? = some r) {off : Nat} {cs : List AV} (ho : off + cs.length ≤ k) :
    (rows.set i (setCells r off cs)).flatten = rows.flatten.take (i * k + off) ++ cs ++ rows.flatten.drop (i * k + off + cs.length) := by
  induction rows generalizing i with
  | nil => simp at hi
  | cons x rows ih =>
    have hx : x.length = k := hk x (by simp)
    cases i with
    | zero =>
      simp at hi; subst hi
      simp only [List.set_cons_zero, List.flatten_cons, setCells, Nat.zero_mul, Nat.zero_add]
      rw [List.take_append_of_le_length (by omega), List.drop_append_of_le_length (by omega)]
      simp
    | succ i =>
      simp at hi
      simp only [List.set_cons_succ, List.flatten_cons]
      rw [ih (fun r hr => hk r (by simp [hr])) hi]
      have e1 : (i + 1) * k + off = x.length + (i * k + off) := by rw [hx, Nat.succ_mul]; omega
      rw [e1, List.take_length_add_append, show x.length + (i * k + off) + cs.length = x.length + (i * k + off + cs.length) by omega, List.drop_length_add_append]
      simp [List.append_assoc]
theorem setCells_length {r : List AV} {off : Nat} {cs : List AV} (h : off + cs.length ≤ r.length) : (setCells r off cs).length = r.length := by
  simp [setCells]; omega
theorem take_splice {α : Type} (l : List α) (vs : List α) (p N : Nat) (h1 : p + vs.length ≤ N) (h2 : N ≤ l.length) :
    (l.take p ++ vs ++ l.drop (p + vs.length)).take N = (l.take N).take p ++ vs ++ (l.take N).drop (p + vs.length) := by
  rw [List.take_take, Nat.min_eq_left (by omega), List.drop_take]
  rw [List.append_assoc, List.append_assoc]
  rw [List.take_append, List.take_append]
  have e1 : (l.take p).length = p := by simp; omega
  rw [e1, List.take_take, Nat.min_eq_right (by omega)]
  rw [List.take_of_length_le (l := vs) (by omega)]
  congr 3
  omega
theorem store_sim {pw : Pw} {base : Nat} {h h' : H} {w : World} (r : Rel ρ pw base G h w) {a v : AV} {va vv : Value} (ha : RV ρ G a va) (hv : RV ρ G v vv) {t : TypeId} {sz : Nat}
    (hs : storeAt base h sz a v = some h') (hsz : szIs P t sz = true) : ∃ w', (Instr.storeAt t va vv).run P w = .ok () w' ∧ Rel ρ pw base G h' w' := by
  unfold storeAt at hs
  split at hs
  · rename_i o i off
    split at hs
    · rename_i hc
      obtain ⟨hb, hok, hlen⟩ := hc
      cases ha with
      | cell _ _ ha => cases ha with
        | ptr _ _ _ b k C hblk =>
          split at hs
          · rename_i k' rows ho
            split at hs
            · rename_i row hrow
              split at hs
              · rename_i hoff
                cases hs
                obtain ⟨b', k1, C', h1, h2⟩ := r.objs o _ ho
                rw [hblk] at h1; cases h1
                obtain ⟨z, hz⟩ := h2.isSome
                rw [hz] at h2
                cases z with
                | cells c e fr =>
                  obtain ⟨e1, e2, e3, e4, e5, e6, e7⟩ := h2
                  subst e1
                  have hcells := hv.cells hok
                  have hcl := hcells.length_eq
                  have hrl := e5 row (List.mem_of_getElem? hrow)
                  have hi : i < rows.length := (List.getElem?_eq_some_iff.1 hrow).1
                  have hm1 : (i + 1) * k' ≤ rows.length * k' := Nat.mul_le_mul_right _ hi
                  have hm2 : rows.length * k' ≤ C * k' := Nat.mul_le_mul_right _ e4
                  rw [Nat.succ_mul] at hm1
                  have hst := run_storeCells_free P b (i * k' + off) e fr c.size (fun i hi => e7.out i hi) vv.cells.toList 0 c w rfl hz (by simp only [Nat.add_zero]; omega) hcells.one
                  refine ⟨_, ?_, r.put o (.arr k' rows) (.arr k' (rows.set i (setCells row off v.cells))) b k' C
                    (.cells (c.toList.take (i * k' + off) ++ vv.cells.toList ++ c.toList.drop (i * k' + off + vv.cells.toList.length)).toArray e fr) hb ho hblk
                    (w' := w.setRow b (c.toList.take (i * k' + off) ++ vv.cells.toList ++ c.toList.drop (i * k' + off + vv.cells.toList.length)).toArray) ?_ ?_⟩
                  · simp only [Nat.add_zero] at hst
                    have hsize : vv.cells.size = sz := by rw [← hlen, hcl]; simp
                    simp only [Instr.storeAt, Instr.sureAddr, Sem.run_bind, Sem.run_pure, Result.andThen_ok, storeVar, run_szIs hsz, ne_eq, hsize, not_true_eq_false, if_false, Sem.run_ite]
                    exact hst
                  · intro a
                    by_cases hab : a = b
                    · subst hab; rw [if_pos rfl]; exact setRow_heap w a c _ e fr hz
                    · rw [if_neg hab]; exact setRow_other w b a _ hab
                  · have hsplice : c.toList.length = c.size := by simp
                    have hvl : vv.cells.toList.length = sz := by omega
                    have hsz2 : (c.toList.take (i * k' + off) ++ vv.cells.toList ++ c.toList.drop (i * k' + off + vv.cells.toList.length)).toArray.size = c.size := by
                      rw [List.size_toArray]; simp only [List.length_append, List.length_take, List.length_drop]; omega
                    refine ⟨rfl, e2, ?_, by simpa using e4, ?_, ?_, ?_⟩
                    · rw [hsz2]; exact e3
                    · intro r' hr'
                      rcases List.mem_or_eq_of_mem_set hr' with hr' | rfl
                      · exact e5 r' hr'
                      · rw [setCells_length (by omega)]; exact hrl
                    · rw [flat_set e5 hrow (by omega)]
                      simp only [List.length_set]
                      have hN : i * k' + off + vv.cells.toList.length ≤ rows.length * k' := by omega
                      have hN2 : rows.length * k' ≤ c.toList.length := by omega
                      show RVCL ρ G _ (((c.toList.take (i * k' + off) ++ vv.cells.toList ++ c.toList.drop (i * k' + off + vv.cells.toList.length)).toArray.toList).take _)
                      rw [List.toList_toArray, take_splice _ _ _ _ hN hN2, hcl]
                      exact ((e6.take _).append hcells).append (e6.drop _)
                    · rw [hsz2]; exact e7
                | _ => exact h2.elim
              · cases hs
            · cases hs
          · cases hs
    · cases hs
  · cases hs
theorem new_sim {pw : Pw} {base : Nat} {h : H} {w w' : World} (r : Rel ρ pw base G h w) (k C : Nat) (rows : List (List AV)) (c : Array Value) (e : TypeId) (fr : Nat × Nat)
    (hk : 1 ≤ k) (hC : c.size = C * k) (hl : rows.length ≤ C) (hrk : ∀ x ∈ rows, x.length = k) (hv : RVCL ρ G rows.flatten (c.toList.take (rows.length * k)))
    (hf : FrOk fr k c.size) (hw : w'.heap = w.heap.push (.cells c e fr)) (hio : World.io w' = World.io w := by rfl) :
    Ext pw h (h.new (.arr k rows)) G (G.add h.next (w.heap.size, k, C)) ∧ (G.add h.next (w.heap.size, k, C)).blk h.next = some (w.heap.size, k, C) ∧ Rel ρ pw base (G.add h.next (w.heap.size, k, C)) (h.new (.arr k rows)) w' := by
  have hle : G.le (G.add h.next (w.heap.size, k, C)) := Gho.le_add r.blk_next
  exact ⟨Ext.add pw _ r.blk_next (r.pw_size (Nat.le_refl _)), by simp [Gho.add], r.new _ _ k C hw ⟨rfl, hk, hC, hl, hrk, hv.mono hle, hf⟩ hio⟩
theorem newImm_sim {pw : Pw} {base : Nat} {h : H} {w w' : World} (r : Rel ρ pw base G h w) (k : Nat) (full : Bool) (rows : List (List AV)) (c : Array Value) (e : TypeId) (fr : Nat × Nat) (n cap : Nat)
    (hk : 1 ≤ k) (hrk : ∀ x ∈ rows, x.length = k) (hv : RVCL ρ G rows.flatten (c.toList.take (rows.length * k))) (hn : n = rows.length) (hcap : n ≤ cap) (hfull : full = true → cap = n)
    (hw : w'.heap = w.heap.push (.cells c e fr)) (hio : World.io w' = World.io w := by rfl) :
    ∃ G', Ext pw h h G G' ∧ RVC ρ G' (.vs full rows) (.slice (some ⟨w.heap.size, 0, none⟩) n cap) ∧ Rel ρ pw base G' h w' := by
  have hlen := hv.length_eq
  rw [flat_length hrk, List.length_take] at hlen
  have hle : G.le (G.addImm w.heap.size (c.toList.take (rows.length * k))) := Gho.le_addImm (r.imm_size (Nat.le_refl _))
  refine ⟨G.addImm w.heap.size (c.toList.take (rows.length * k)), Ext.addImm pw (r.imm_size (Nat.le_refl _)) (r.pw_size (Nat.le_refl _)), ?_, r.newImm c e fr _ hw (by rw [List.length_take, List.take_eq_take_iff]; omega) hio⟩
  subst hn
  cases rows with
  | nil => exact .vsE _ _ _ (fun hf => by simpa using hfull hf)
  | cons x rows =>
    refine .vs full (x :: rows) k w.heap.size 0 cap _ (by simp) hk hrk (by simp [Gho.addImm]; rfl) ?_ hcap hfull
    have e1 : (x :: rows).length = rows.length + 1 := rfl
    rw [List.drop_zero, List.take_take, e1, Nat.min_self]
    exact hv.mono hle
end
end Go.Am
namespace Go.Am
section
variable (P : Program) (ρ : Nat → FuncId)
def okParts (place : Nat → Option (Nat × Nat)) : List (Nat × Operand) → List (Nat × Nat × AO) → Bool
  | [], [] => true
  | (i, x) :: ps, (off, sz, a) :: qs => decide (place i = some (off, sz)) && okO ρ x a && okParts place ps qs
  | _, _ => false
def okRows : List (Nat × Operand) → List (Nat × AO) → Bool
  | [], [] => true
  | (i, x) :: ps, (j, a) :: qs => i == j && okO ρ x a && okRows ps qs
  | _, _ => false
def okOpt : Option Operand → Option AO → Bool
  | none, none => true
  | some x, some a => okO ρ x a
  | _, _ => false
def okEK (t : TypeId) : EK → Bool
  | .bool => match P.underlying t with | some .bool => true | _ => false
  | .ptr => match P.underlying t with | some (.pointer _) => true | _ => false
  | .fn => match P.underlying t with | some (.func _ _ _) => true | _ => false
def scalarT (t : TypeId) : SK → Bool
  | .int => match P.underlying t with | some (.int _) => true | _ => false
  | .str => match P.underlying t with | some .string => true | _ => false
  | .bool => match P.underlying t with | some .bool => true | _ => false
def scalarFields : Nat → List Field → List SK → Bool
  | _, [], [] => true
  | i, f :: fs, k :: ks => f.offset == i && f.name != "_" && scalarT P f.type k && scalarFields (i + 1) fs ks
  | _, _, _ => false
def structOk (t : TypeId) (ks : List SK) : Bool := match P.underlying t with
  | some (.struct fs) => scalarFields P 0 fs.toList ks && !P.stoodInHeld t && !P.eqGuardType P.depth t
  | _ => false
def bytesLe (t : TypeId) (lim most : Nat) : Bool := match P.info? t with
  | some i => decide (lim * i.bytes ≤ most)
  | none => false
def notInt (t : TypeId) : Bool := match P.underlying t with
  | some .string | some (.slice _) => true
  | _ => false
def okConv (s d : TypeId) : CV → Bool
  | .i2i k => (match P.underlying s, P.underlying d with | some (.int _), some (.int k') => k == k' | _, _ => false)
  | .i2s => (match P.underlying s, P.underlying d with | some (.int _), some .string => true | _, _ => false)
  | .s2s => (match P.underlying s, P.underlying d with | some .string, some .string => true | _, _ => false)
  | .s2b _ => (match P.underlying s, P.underlying d with | some .string, some (.slice e) => (match P.underlying e with | some (.int .u8) => true | _ => false) | _, _ => false)
  | .b2s => (match P.underlying s, P.underlying d with | some (.slice e), some .string => (match P.underlying e with | some (.int .u8) => true | _ => false) | _, _ => false)
  | .mark => s == d && (match P.underlying s with | some (.slice e) => (match P.underlying e with | some (.int .u8) => true | _ => false) | _ => false)
def zeroBld (P : Program) (t : TypeId) : Bool := match P.info? t with
  | some i => match i.zero with
    | some v => (match v.cells.toList with
      | [.pointer none, .slice none 0 0] => true
      | _ => false) && i.size == 2
    | none => false
  | none => false
def okAlloc (P : Program) (t : TypeId) : List AV → Bool
  | [.fn t' []] => t == t' && zeroBld P t
  | z => zeroIs P t z && decide (1 ≤ z.length)
theorem run_zeroBld {P : Program} {t : TypeId} (h : zeroBld P t = true) (w : World) : ∃ v : Value, (zeroValue t).run P w = .ok v w ∧ v.cells.toList = [.pointer none, .slice none 0 0] := by
  unfold zeroBld at h
  cases e : P.info? t with
  | none => simp [e] at h
  | some i =>
    simp only [e] at h
    cases e2 : i.zero with
    | none => simp [e2] at h
    | some v =>
      simp only [e2, Bool.and_eq_true] at h
      refine ⟨v, by simp [zeroValue, typeInfo, e, e2], ?_⟩
      have h1 := h.1
      split at h1
      · rename_i q; exact q
      · cases h1
theorem okAlloc_plain {P : Program} {t : TypeId} {z : List AV} (hz : plainZ z = true) : okAlloc P t z = (zeroIs P t z && decide (1 ≤ z.length)) := by
  unfold okAlloc
  split
  · cases hz
  · rfl
def okOp : Op → AOp → Bool
  | .move x, .mov a => okO ρ x a
  | .assign x, .mov a => okO ρ x a
  | .pick c x y, .pick c' a b => okO ρ c c' && okO ρ x a && okO ρ y b
  | .alloc t, .alloc z => okAlloc P t z
  | .box _ x, .box a => okO ρ x a
  | .build t ps, .build z qs => zeroIs P t z && (match P.underlying t with
      | some (.struct fs) => match fs.toList.mapM (fun f => (P.info? f.type).map fun i => (f.offset, i.size)) with
        | some pl => okParts ρ (fun i => pl[i]?) ps.toList qs
        | none => false
      | some (.array _ el) => match P.info? el with
        | some ie => okParts ρ (fun i => some (i * ie.size, ie.size)) ps.toList qs
        | none => false
      | _ => false)
  | .buildSlice t n ps, .lit _ k z n' qs => (match P.underlying t with
      | some (.slice el) => szIs P el k && decide (1 ≤ k) && zeroIs P el z && n == n' && decide (n * k ≤ 2 ^ 24) && okRows ρ ps.toList qs
      | _ => false)
  | .load t x, .load g sz a => aggIs P t g && szIs P t sz && okO ρ x a
  | .store t x v, .store sz a b => szIs P t sz && okO ρ x a && okO ρ v b
  | .nilCheck x, .nilchk a => okO ρ x a
  | .binOp op _ x y _, .bin op' a b => decide (op = op') && okO ρ x a && okO ρ y b
  | .binOp op t x y _, .eqk k neg a b => decide (op = if neg then .neq else .eql) && okEK P t k && okO ρ x a && okO ρ y b
  | .binOp op t x y _, .eqc ks neg a b => decide (op = if neg then .neq else .eql) && structOk P t ks && okO ρ x a && okO ρ y b
  | .unOp op _ x, .un op' a => decide (op = op') && okO ρ x a
  | .convert s d x, .conv c a => okConv P s d c && okO ρ x a
  | .makeFunc (.func f) first caps, .mkfn g as => ρ g == f && first.isEmpty && okOs ρ caps.toList as
  | .makeSlice t l c, .mk _ k z l' c' => (match P.underlying t with
      | some (.slice el) => szIs P el k && decide (1 ≤ k) && zeroIs P el z && bytesLe P el 1000000000 (2 ^ 47) && okO ρ l l' && okO ρ c c'
      | _ => false)
  | .slice t x lo hi mx, .slice a k lo' hi' mx' => (match P.underlying t with
      | some .string => k == 0
      | some (.slice el) => szIs P el k && decide (1 ≤ k)
      | _ => false) && okO ρ x a && okOpt ρ lo lo' && okOpt ρ hi hi' && okOpt ρ mx mx' && (mx'.isNone || hi'.isSome)
  | .fieldAddr t x f, .faddr a off => (match P.underlying t with
      | some (.struct fs) => match fs[f]? with
        | some fd => fd.offset == off && (match P.info? fd.type with | some i => decide (1 ≤ i.size) | none => false)
        | none => false
      | _ => false) && okO ρ x a
  | .field t x f, .field a off g sz => (match P.underlying t with
      | some (.struct fs) => match fs[f]? with
        | some fd => fd.offset == off && aggIs P fd.type g && szIs P fd.type sz
        | none => false
      | _ => false) && okO ρ x a
  | .indexAddr t x i, .iaddr a j k arr => (match P.underlying t, arr with
      | some (.slice el), none => szIs P el k
      | some (.array n el), some n' => n == n' && szIs P el k
      | _, _ => false) && okO ρ x a && okO ρ i j
  | .index t x i, .index a j arr => (match P.underlying t, arr with
      | some .string, none => true
      | some (.array n el), some (n', k, g) => n == n' && szIs P el k && aggIs P el g
      | _, _ => false) && okO ρ x a && okO ρ i j
  | .range t x, .range a => (match P.underlying t with | some .string => true | _ => false) && okO ρ x a
  | .next x true, .next a => okO ρ x a
  | .extract x i, .extract a j => i == j && okO ρ x a
  | .call { callee := .builtin b, args, argTypes }, .append _ k lim a a' => decide (b = .append) && (match args.toList, argTypes.toList with
      | [x, y], [t, t'] => (match P.underlying t with
        | some (.slice el) => szIs P el k && decide (1 ≤ k) && (match P.info? el with | some i => (match i.zero with | some z => z.cells.size == k | none => false) && decide (1 ≤ i.bytes) | none => false) && bytesLe P el (2 * lim + 1000) (2 ^ 48)
        | _ => false) && notInt P t' && okO ρ x a && okO ρ y a'
      | _, _ => false)
  | .call { callee := .builtin b, args, argTypes }, .len isS a => decide (b = .len) && (match args.toList, argTypes.toList with
      | [x], [t] => (match P.underlying t with | some .string => isS | some (.slice _) => !isS | _ => false) && okO ρ x a
      | _, _ => false)
  | .call { callee := .builtin b, args, .. }, .min2 a a' => decide (b = .min) && (match args.toList with
      | [x, y] => okO ρ x a && okO ρ y a'
      | _ => false)
  | .call { callee := .builtin b, args, .. }, .max2 a a' => decide (b = .max) && (match args.toList with
      | [x, y] => okO ρ x a && okO ρ y a'
      | _ => false)
  | _, _ => false
end
section
variable {P : Program} {ρ : Nat → FuncId} {G : Gho}
def OpAns (P : Program) (ρ : Nat → FuncId) (pw : Pw) (base : Nat) (G : Gho) (s : Sem Next) (w : World) (h : H) (v : AV) (h' : H) : Prop :=
  ∃ G' nx v' w', Ext pw h h' G G' ∧ s.run P w = .ok nx w' ∧ (nx = .value v' ∨ (nx = .skip ∧ v' = Go.undef)) ∧ RV ρ G' v v' ∧ Rel ρ pw base G' h' w'
theorem OpAns.val {pw : Pw} {base : Nat} {s : Sem Next} {w : World} {v : AV} {h : H} {v' : Value} (r : Rel ρ pw base G h w)
    (hs : s.run P w = .ok (.value v') w) (hv : RV ρ G v v') : OpAns P ρ pw base G s w h v h := ⟨G, _, v', w, Ext.refl pw G (Nat.le_refl _), hs, .inl rfl, hv, r⟩
theorem intBin_sim (op : BinOp) (k : IntKind) (a b : Int) (t : TypeId) (w : World) {v : AV} (h : intBin op k a b = some v) :
    ∃ v', (Go.binOp op t (.int k a) (.int k b)).run P w = .ok v' w ∧ RVC ρ G v v' := by
  cases op <;> simp only [intBin, Option.some.injEq, reduceCtorEq] at h
  case quo =>
    by_cases hb : b = 0
    · simp [hb] at h
    · simp only [hb, if_false, Option.some.injEq] at h; subst h; exact ⟨_, by simp [Go.binOp, Op.intDiv, hb], .int _ _⟩
  case rem =>
    by_cases hb : b = 0
    · simp [hb] at h
    · simp only [hb, if_false, Option.some.injEq] at h; subst h; exact ⟨_, by simp [Go.binOp, Op.intDiv, hb], .int _ _⟩
  all_goals subst h
  all_goals first
    | (refine ⟨_, ?_, .int _ _⟩; simp only [Go.binOp, ne_eq, not_true_eq_false, if_false]; rfl)
    | (refine ⟨_, ?_, .bool _⟩; simp only [Go.binOp, ne_eq, not_true_eq_false, if_false]; rfl)
theorem bytesOf_inj {a b : ByteArray} : (bytesOf a == bytesOf b) = (a.toList == b.toList) := by
  rw [ByteArray.toList_eq, ByteArray.toList_eq]
  unfold bytesOf
  rw [Bool.eq_iff_iff, beq_iff_eq, beq_iff_eq]
  constructor
  · intro h
    have := congrArg (List.map UInt8.ofNat) h
    simpa [List.map_map, Function.comp_def] using this
  · intro h; rw [h]
theorem bytesLess_eq : ∀ a b : List UInt8, Op.bytesLess a b = bytesLess (a.map UInt8.toNat) (b.map UInt8.toNat)
  | _, [] => by cases ‹List UInt8› <;> simp [Op.bytesLess, bytesLess]
  | [], _ :: _ => by simp [Op.bytesLess, bytesLess]
  | a :: x, b :: y => by
    simp only [Op.bytesLess, List.map_cons, bytesLess, bytesLess_eq x y]
    congr 1
    congr 1
    rw [Bool.eq_iff_iff]; simp [UInt8.toNat_inj]
theorem bytesOf_append (a b : ByteArray) : bytesOf (a ++ b) = bytesOf a ++ bytesOf b := by
  simp [bytesOf]
theorem bytesOf_length (a : ByteArray) : (bytesOf a).length = a.size := by simp [bytesOf]
theorem strBin_sim (op : BinOp) (a b : ByteArray) (t : TypeId) (w : World) {v : AV} (h : strBin op (bytesOf a) (bytesOf b) = some v) :
    ∃ v', (Go.binOp op t (.string a) (.string b)).run P w = .ok v' w ∧ RVC ρ G v v' := by
  have hless : bytesLess (bytesOf a) (bytesOf b) = Op.bytesLess a.toList b.toList := by
    rw [bytesLess_eq, ByteArray.toList_eq, ByteArray.toList_eq]; rfl
  cases op <;> simp only [strBin, Option.some.injEq, reduceCtorEq, bytesOf_inj, hless, bytesOf_length] at h
  case add =>
    split at h
    · rename_i hle
      cases h
      refine ⟨.string (a ++ b), ?_, by rw [← bytesOf_append]; exact .str _⟩
      have : ¬ (((a.size + b.size : Nat) : Int) > IntKind.i64.max) := by
        have e : IntKind.i64.max = maxInt := by decide
        rw [e]; omega
      simp only [Go.binOp, Op.stringOp, this, if_false, Sem.run_pure]
    · cases h
  all_goals subst h
  all_goals exact ⟨_, by simp only [Go.binOp, Op.stringOp, Sem.run_pure], .bool _⟩
end
end Go.Am
namespace Go.Am
section
variable {P : Program} {ρ : Nat → FuncId} {G : Gho} {pw : Pw} {base : Nat} {h h' : H} {w : World} {e : Env} {act : Act} {v : AV}
theorem RV.ofInt {a : Value} {k : IntKind} {n : Int} (h : RV ρ G (.int k n) a) : a = .int k n := by cases h with | cell _ _ h => cases h; rfl
theorem RV.ofBool {a : Value} {b : Bool} (h : RV ρ G (.bool b) a) : a = .bool b := by cases h with | cell _ _ h => cases h; rfl
theorem RV.ofStr {a : Value} {s : List Nat} (h : RV ρ G (.str s) a) : ∃ b, a = .string b ∧ s = bytesOf b := by cases h with | cell _ _ h => cases h; exact ⟨_, rfl, rfl⟩
theorem RV.ofAgg {a : Value} {cs : List AV} (h : RV ρ G (.agg cs) a) : ∃ vs, a = .agg vs.toArray ∧ RVCL ρ G cs vs := by
  cases h with
  | cell _ _ h => cases h
  | agg cs vs h => exact ⟨vs, rfl, h⟩
theorem RV.ofTup {a : Value} {cs : List AV} (h : RV ρ G (.tup cs) a) : ∃ vs, a = .tuple vs.toArray ∧ RVL ρ G cs vs := by
  cases h with
  | cell _ _ h => cases h
  | tup cs vs h => exact ⟨vs, rfl, h⟩
theorem RVL.get {as : List AV} {vs : List Value} (h : RVL ρ G as vs) {i : Nat} {a : AV} (ha : as[i]? = some a) : ∃ v, vs[i]? = some v ∧ RV ρ G a v := by
  induction as generalizing vs i with
  | nil => simp at ha
  | cons b as ih => cases h with | cons _ v _ vs h1 h2 =>
    cases i with
    | zero => simp at ha; subst ha; exact ⟨v, by simp, h1⟩
    | succ i => simp at ha; obtain ⟨v, h3, h4⟩ := ih h2 ha; exact ⟨v, by simpa using h3, h4⟩
theorem bin_sim {op : BinOp} {x y : AV} {vx vy : Value} (t : TypeId) (a b : Operand) (hx : RV ρ G x vx) (hy : RV ρ G y vy) (h : binAV op x y = some v) :
    ∃ v', (do eqGuard op t a b vx vy; Go.binOp op t vx vy : Sem Value).run P w = .ok v' w ∧ RV ρ G v v' := by
  have key : (eqGuard op t a b vx vy).run P w = .ok () w → ∀ v', (Go.binOp op t vx vy).run P w = .ok v' w → (do eqGuard op t a b vx vy; Go.binOp op t vx vy : Sem Value).run P w = .ok v' w := by
    intro h1 v' h2; simp [h1, h2]
  unfold binAV at h
  split at h
  · rename_i k x k' y
    have e1 := hx.ofInt; have e2 := hy.ofInt; subst e1 e2
    split at h
    · cases h
    · rename_i hb; cases h
      exact ⟨_, key (by simp [eqGuard]) _ (by simp only [Go.binOp, Op.shift, hb, if_false]; rfl), .cell _ _ (.int _ _)⟩
  · rename_i k x k' y
    have e1 := hx.ofInt; have e2 := hy.ofInt; subst e1 e2
    split at h
    · cases h
    · rename_i hb; cases h
      exact ⟨_, key (by simp [eqGuard]) _ (by simp only [Go.binOp, Op.shift, hb, if_false]; rfl), .cell _ _ (.int _ _)⟩
  · rename_i k x k' y _ _
    have e1 := hx.ofInt; have e2 := hy.ofInt; subst e1 e2
    split at h
    · rename_i hk; subst hk
      obtain ⟨v', h1, h2⟩ := intBin_sim (P := P) (ρ := ρ) (G := G) op k x y t w h
      exact ⟨v', key (by simp only [eqGuard]; split <;> simp) _ h1, .cell _ _ h2⟩
    · cases h
  · rename_i x y
    obtain ⟨a', e1, e1'⟩ := hx.ofStr; obtain ⟨b', e2, e2'⟩ := hy.ofStr; subst e1 e1' e2 e2'
    obtain ⟨v', h1, h2⟩ := strBin_sim (P := P) (ρ := ρ) (G := G) op a' b' t w h
    exact ⟨v', key (by simp only [eqGuard]; split <;> simp) _ h1, .cell _ _ h2⟩
  · cases h
theorem run_equal {t : TypeId} {d : TypeDesc} (hd : P.underlying t = some d) (x y : Value) {r : Bool}
    (h : (∃ a b, d = .bool ∧ x = .bool a ∧ y = .bool b ∧ r = (a == b)) ∨ (∃ el b, d = .pointer el ∧ x = .pointer none ∧ y = .pointer b ∧ r = b.isNone) ∨
      (∃ el a, d = .pointer el ∧ x = .pointer (some a) ∧ y = .pointer none ∧ r = false) ∨
      (∃ p q s, d = .func p q s ∧ x = .nilFunc ∧ y = .nilFunc ∧ r = true) ∨ (∃ p q s f g l, d = .func p q s ∧ x = .nilFunc ∧ y = .func f g l ∧ r = false) ∨
      (∃ p q s f g l, d = .func p q s ∧ x = .func f g l ∧ y = .nilFunc ∧ r = false)) : (Op.equal t x y).run P w = .ok r w := by
  show (Op.equalIn (9999 + 1) t x y).run P w = _
  have hu := run_underlying hd w
  rw [Op.equalIn, Sem.run_bind, hu, Result.andThen_ok]
  rcases h with ⟨a, b, rfl, rfl, rfl, rfl⟩ | ⟨el, b, rfl, rfl, rfl, rfl⟩ | ⟨el, a, rfl, rfl, rfl, rfl⟩ | ⟨p, q, s, rfl, rfl, rfl, rfl⟩ | ⟨p, q, s, f, g, l, rfl, rfl, rfl, rfl⟩ | ⟨p, q, s, f, g, l, rfl, rfl, rfl, rfl⟩ <;> rfl
theorem eqk_sim {k : EK} {neg : Bool} {x y : AV} {vx vy : Value} {t : TypeId} (a b : Operand) (hx : RV ρ G x vx) (hy : RV ρ G y vy) {r : Bool} (h : eqAV k x y = some r) (ht : okEK P t k = true) :
    (do eqGuard (if neg then .neq else .eql) t a b vx vy; Go.binOp (if neg then .neq else .eql) t vx vy : Sem Value).run P w = .ok (.bool (bif neg then !r else r)) w := by
  have key : (∀ op, (eqGuard op t a b vx vy).run P w = .ok () w) → (Op.equal t vx vy).run P w = .ok r w → (∀ op, op = .eql ∨ op = .neq → Go.binOp op t vx vy = match op with | .eql => (do pure (.bool (← Op.equal t vx vy))) | _ => (do pure (.bool (!(← Op.equal t vx vy))))) →
      (do eqGuard (if neg then .neq else .eql) t a b vx vy; Go.binOp (if neg then .neq else .eql) t vx vy : Sem Value).run P w = .ok (.bool (bif neg then !r else r)) w := by
    intro h1 h2 h3
    cases neg
    · simp [h1, h3 .eql (.inl rfl), h2]
    · simp [h1, h3 .neq (.inr rfl), h2]
  have hd : ∃ d, P.underlying t = some d ∧ (match k with | .bool => d = .bool | .ptr => ∃ el, d = .pointer el | .fn => ∃ p q r, d = .func p q r) := by
    unfold okEK at ht
    cases e : P.underlying t with
    | none => cases k <;> simp [e] at ht
    | some d => cases k <;> cases d <;> first | (exact ⟨_, rfl, rfl⟩) | (exact ⟨_, rfl, _, rfl⟩) | (exact ⟨_, rfl, _, _, _, rfl⟩) | simp [e] at ht
  obtain ⟨d, hd, hk⟩ := hd
  unfold eqAV at h
  split at h
  · have e1 := hx.ofBool; have e2 := hy.ofBool; subst e1 e2; cases h
    simp only at hk; subst hk
    exact key (fun op => by simp only [eqGuard]; split <;> rfl) (run_equal hd _ _ (.inl ⟨_, _, rfl, rfl, rfl, rfl⟩)) (fun op ho => by rcases ho with rfl | rfl <;> rfl)
  · cases h; obtain ⟨el, rfl⟩ := hk
    cases hx with | cell _ _ hx => cases hy with | cell _ _ hy => cases hx; cases hy
                                                                  exact key (fun op => by simp only [eqGuard]; split <;> rfl) (run_equal hd _ _ (.inr (.inl ⟨_, _, rfl, rfl, rfl, rfl⟩))) (fun op ho => by rcases ho with rfl | rfl <;> rfl)
  · cases h; obtain ⟨el, rfl⟩ := hk
    cases hx with | cell _ _ hx => cases hy with | cell _ _ hy => cases hx; cases hy
                                                                  exact key (fun op => by simp only [eqGuard]; split <;> rfl) (run_equal hd _ _ (.inr (.inl ⟨_, _, rfl, rfl, rfl, rfl⟩))) (fun op ho => by rcases ho with rfl | rfl <;> rfl)
  · cases h; obtain ⟨el, rfl⟩ := hk
    cases hx with | cell _ _ hx => cases hy with | cell _ _ hy => cases hx; cases hy
                                                                  exact key (fun op => by simp only [eqGuard]; split <;> rfl) (run_equal hd _ _ (.inr (.inr (.inl ⟨_, _, rfl, rfl, rfl, rfl⟩)))) (fun op ho => by rcases ho with rfl | rfl <;> rfl)
  · cases h; obtain ⟨el, rfl⟩ := hk
    cases hx with | cell _ _ hx => cases hy with | cell _ _ hy => cases hx; cases hy
                                                                  exact key (fun op => by simp only [eqGuard]; split <;> rfl) (run_equal hd _ _ (.inr (.inl ⟨_, _, rfl, rfl, rfl, rfl⟩))) (fun op ho => by rcases ho with rfl | rfl <;> rfl)
  · cases h; obtain ⟨el, rfl⟩ := hk
    cases hx with | cell _ _ hx => cases hy with | cell _ _ hy => cases hx; cases hy
                                                                  exact key (fun op => by simp only [eqGuard]; split <;> rfl) (run_equal hd _ _ (.inr (.inr (.inl ⟨_, _, rfl, rfl, rfl, rfl⟩)))) (fun op ho => by rcases ho with rfl | rfl <;> rfl)
  · cases h; obtain ⟨p, q, s, rfl⟩ := hk
    cases hx with | cell _ _ hx => cases hy with | cell _ _ hy => cases hx; cases hy
                                                                  exact key (fun op => by simp only [eqGuard]; split <;> rfl) (run_equal hd _ _ (.inr (.inr (.inr (.inl ⟨_, _, _, rfl, rfl, rfl, rfl⟩))))) (fun op ho => by rcases ho with rfl | rfl <;> rfl)
  · cases h; obtain ⟨p, q, s, rfl⟩ := hk
    cases hx with | cell _ _ hx => cases hy with | cell _ _ hy => cases hx; cases hy
                                                                  exact key (fun op => by simp only [eqGuard]; split <;> rfl) (run_equal hd _ _ (.inr (.inr (.inr (.inr (.inl ⟨_, _, _, _, _, _, rfl, rfl, rfl, rfl⟩)))))) (fun op ho => by rcases ho with rfl | rfl <;> rfl)
  · cases h; obtain ⟨p, q, s, rfl⟩ := hk
    cases hx with | cell _ _ hx => cases hy with | cell _ _ hy => cases hx; cases hy
                                                                  exact key (fun op => by simp only [eqGuard]; split <;> rfl) (run_equal hd _ _ (.inr (.inr (.inr (.inr (.inr ⟨_, _, _, _, _, _, rfl, rfl, rfl, rfl⟩)))))) (fun op ho => by rcases ho with rfl | rfl <;> rfl)
  · cases h
theorem scalarT_agg {t : TypeId} {k : SK} (h : scalarT P t k = true) : aggIs P t false = true ∧ match k with
    | .int => ∃ k', P.underlying t = some (.int k')
    | .str => P.underlying t = some .string
    | .bool => P.underlying t = some .bool := by
  cases e : P.underlying t with
  | none => cases k <;> simp [scalarT, e] at h
  | some d => cases k <;> cases d <;> simp [scalarT, e] at h <;> simp [aggIs, e]
theorem eqFields_sim (d : Nat) : ∀ (fs : List Field) (ks : List SK) (i : Nat) (xs ys : List AV) (vx vy : List Value) (r : Bool), RVCL ρ G xs (vx.drop i) → RVCL ρ G ys (vy.drop i) → eqCells ks xs ys = some r →
    scalarFields P i fs ks = true → (Op.eqFields (d + 1) vx.toArray vy.toArray fs).run P w = .ok r w
  | [], [], i, xs, ys, vx, vy, r, _, _, he, _ => by
    cases xs <;> cases ys <;> simp [eqCells] at he
    subst he; simp [Op.eqFields]
  | [], _ :: _, i, xs, ys, vx, vy, r, _, _, _, hs => by simp [scalarFields] at hs
  | _ :: _, [], i, xs, ys, vx, vy, r, _, _, _, hs => by simp [scalarFields] at hs
  | f :: fs, k :: ks, i, xs, ys, vx, vy, r, hx, hy, he, hs => by
    simp only [scalarFields, Bool.and_eq_true, beq_iff_eq, bne_iff_ne, ne_eq] at hs
    obtain ⟨⟨⟨h1, h2⟩, h3⟩, h4⟩ := hs
    obtain ⟨ha, hd⟩ := scalarT_agg h3
    cases xs with
    | nil => cases k <;> simp [eqCells] at he
    | cons x xs =>
      cases ys with
      | nil => cases k <;> cases x <;> simp [eqCells] at he
      | cons y ys =>
        obtain ⟨va, hva, hra⟩ := hx.get (i := 0) (a := x) (by simp)
        obtain ⟨vb, hvb, hrb⟩ := hy.get (i := 0) (a := y) (by simp)
        rw [List.getElem?_drop, Nat.add_zero] at hva hvb
        have hx' : RVCL ρ G xs (vx.drop (i + 1)) := by have := hx.drop 1; rwa [List.drop_drop] at this
        have hy' : RVCL ρ G ys (vy.drop (i + 1)) := by have := hy.drop 1; rwa [List.drop_drop] at this
        have p1 : (Go.part f.type vx.toArray f.offset).run P w = Result.ok va w := by
          rw [h1]; simp [Go.part, run_aggIs ha, hva]
        have p2 : (Go.part f.type vy.toArray f.offset).run P w = Result.ok vb w := by
          rw [h1]; simp [Go.part, run_aggIs ha, hvb]
        have fin : ∀ (q : Bool), (Op.equalIn (d + 1) f.type va vb).run P w = Result.ok q w → ∀ r', eqCells ks xs ys = some r' → r = (q && r') →
            (Op.eqFields (d + 1) vx.toArray vy.toArray (f :: fs)).run P w = Result.ok r w := by
          intro q hq r' hr' hrr
          have ih := eqFields_sim d fs ks (i + 1) xs ys vx vy r' hx' hy' hr' h4
          simp only [Op.eqFields, ne_eq, h2, not_false_eq_true, if_true, Sem.run_bind, p1, p2, hq, Result.andThen_ok, Sem.run_ite]
          cases q
          · simp [hrr]
          · simp [hrr, ih]
        cases k <;> cases x <;> cases y <;> simp only [eqCells, reduceCtorEq] at he
        · split at he
          · rename_i hk; subst hk
            cases hra; cases hrb
            simp only [Option.map_eq_some_iff] at he
            obtain ⟨r', h5, h6⟩ := he
            obtain ⟨kk, hd⟩ := hd
            exact fin _ (run_equalIn_int w d f.type _ kk _ _ hd) r' h5 h6.symm
          · cases he
        · cases hra; cases hrb
          simp only [Option.map_eq_some_iff] at he
          obtain ⟨r', h5, h6⟩ := he
          rw [bytesOf_inj] at h6
          exact fin _ (run_equalIn_string w d f.type _ _ hd) r' h5 h6.symm
        · cases hra; cases hrb
          simp only [Option.map_eq_some_iff] at he
          obtain ⟨r', h5, h6⟩ := he
          exact fin _ (run_equalIn_bool' w d f.type _ _ hd) r' h5 h6.symm
theorem eqc_sim {neg : Bool} {ks : List SK} {xs ys : List AV} {vx vy : Value} {t : TypeId} (a b : Operand) (hx : RV ρ G (.agg xs) vx) (hy : RV ρ G (.agg ys) vy) {r : Bool} (h : eqCells ks xs ys = some r) (ht : structOk P t ks = true) :
    (do eqGuard (if neg then .neq else .eql) t a b vx vy; Go.binOp (if neg then .neq else .eql) t vx vy : Sem Value).run P w = .ok (.bool (bif neg then !r else r)) w := by
  obtain ⟨vx, rfl, hx'⟩ := hx.ofAgg
  obtain ⟨vy, rfl, hy'⟩ := hy.ofAgg
  unfold structOk at ht
  split at ht
  · rename_i fs hu
    simp only [Bool.and_eq_true, Bool.not_eq_true'] at ht
    obtain ⟨⟨h1, h2⟩, h3⟩ := ht
    have hf : P.fieldsOf t = fs := by simp [Program.fieldsOf, hu]
    have he := eqFields_sim (P := P) (w := w) 9998 fs.toList ks 0 xs ys vx vy r (by simpa using hx') (by simpa using hy') h h1
    have hq : (Op.equalIn 10000 t (.agg vx.toArray) (.agg vy.toArray)).run P w = .ok r w := by
      rw [run_equalIn_struct w 9999 t _ _ (by rw [hf]; exact hu) h2, hf]; exact he
    have hg := fun op => run_eqGuard_agg (P := P) w op t a b vx.toArray vy.toArray h3
    cases neg
    · simp [hg, run_eql_struct, hq]
    · simp [hg, run_neq_struct, hq]
  · cases ht
end
end Go.Am
namespace Go.Am
section
variable {P : Program} {ρ : Nat → FuncId} {G : Gho} {pw : Pw} {base : Nat} {h h' : H} {w : World} {e : Env} {act : Act} {v : AV}
theorem part_sim {cs : List AV} {vs : List Value} (hr : RVCL ρ G cs vs) {off sz : Nat} {g : Bool} {t : TypeId} (hp : part cs off g sz = some v) (hg : aggIs P t g = true) (hs : szIs P t sz = true) :
    ∃ v', (Go.part t vs.toArray off).run P w = .ok v' w ∧ RV ρ G v v' := by
  unfold part at hp
  split at hp
  · rename_i hle
    cases g with
    | true =>
      simp only [if_true, Option.some.injEq] at hp
      subst hp
      refine ⟨.agg (vs.toArray.extract off (off + sz)), by simp [Go.part, run_aggIs hg, run_szIs hs], ?_⟩
      have := RV.agg _ _ ((hr.drop off).take sz)
      rwa [show vs.toArray.extract off (off + sz) = ((vs.drop off).take sz).toArray by simp [List.extract_eq_take_drop]]
    | false =>
      simp only [Bool.false_eq_true, if_false] at hp
      split at hp
      · obtain ⟨v', h3, h4⟩ := hr.get hp
        exact ⟨v', by simp [Go.part, run_aggIs hg, h3], .cell _ _ h4⟩
      · cases hp
  · cases hp
theorem natOf_some {a : AV} {n : Nat} (h : natOf a = some n) : ∃ k, a = .int k n := by
  unfold natOf at h
  split at h
  · rename_i k i
    split at h
    · rename_i hi; cases h; exact ⟨k, by rw [Int.toNat_of_nonneg hi]⟩
    · cases h
  · cases h
theorem field_sim {t : TypeId} {fs : Array Field} {f : Nat} {fd : Field} (hu : P.underlying t = some (.struct fs)) (hf : fs[f]? = some fd) {x : AV} {vx : Value} (hx : RV ρ G x vx) {cs : List AV} (hxe : x = .agg cs)
    {g : Bool} {sz : Nat} (hp : part cs fd.offset g sz = some v) (hg : aggIs P fd.type g = true) (hs : szIs P fd.type sz = true) :
    ∃ v', (Instr.field t vx f).run P w = .ok v' w ∧ RV ρ G v v' := by
  subst hxe
  obtain ⟨vs, rfl, hx'⟩ := hx.ofAgg
  obtain ⟨v', h1, h2⟩ := part_sim (P := P) (w := w) hx' hp hg hs
  refine ⟨v', ?_, h2⟩
  simp [Instr.field, run_underlying hu, hf, asAgg, h1]
theorem faddr_sim {t : TypeId} {fs : Array Field} {f : Nat} {fd : Field} (hu : P.underlying t = some (.struct fs)) (hf : fs[f]? = some fd) {n : Nat} (hs : (P.info? fd.type).map (·.size) = some (n + 1)) {x : AV} {vx : Value} (hx : RV ρ G x vx)
    (hv : faddrAV fd.offset x = some v) :
    ∃ v', (Instr.fieldAt t vx f).run P w = .ok v' w ∧ RV ρ G v v' := by
  have hsz : (sizeOf fd.type).run P w = .ok (n + 1) w := run_szIs (by
    unfold szIs
    cases e : P.info? fd.type with
    | none => simp [e] at hs
    | some i => simp [e] at hs; simp [hs]) w
  have key : ∀ b off, (Instr.fieldAt t (.pointer (some ⟨b, off, none⟩)) f).run P w = .ok (.pointer (some ⟨b, off + fd.offset, none⟩)) w := by
    intro b off
    simp [Instr.fieldAt, run_underlying hu, hf, Instr.sureAddr, fieldPlace, hsz, add_plain]
  unfold faddrAV at hv
  split at hv
  · rename_i o' i' f' hx
    cases hv
    cases hx with | cell _ _ hx => cases hx with
      | ptr o i off b k C hb =>
        refine ⟨_, key b _, .cell _ _ ?_⟩
        rw [Nat.add_assoc]; exact .ptr _ _ _ b k C hb
  · rename_i cs' hx
    cases hv
    cases hx with | cell _ _ hx => cases hx with
      | rptr cs b off cells hb hc =>
        refine ⟨_, key b _, .cell _ _ (.rptr _ b _ cells hb ?_)⟩
        have := hc.drop fd.offset
        rwa [List.drop_take, List.drop_drop, ← List.length_drop] at this
  · cases hv
theorem vs_row {full : Bool} {xs : List (List AV)} {vx : Value} (hx : RVC ρ G (.vs full xs) vx) {j : Nat} {r : List AV} (hj : xs[j]? = some r) :
    ∃ b off c cells, vx = .slice (some ⟨b, off, none⟩) xs.length c ∧ G.imm b = some cells ∧ RVCL ρ G r ((cells.drop (off + j * r.length)).take r.length) := by
  cases hx with
  | vsE f a c hf => simp at hj
  | vs f xs k b off c cells h1 h2 h3 h4 h5 h6 h7 =>
    have hrk := h3 r (List.mem_of_getElem? hj)
    have hi : j < xs.length := (List.getElem?_eq_some_iff.1 hj).1
    have hm : (j + 1) * k ≤ xs.length * k := Nat.mul_le_mul_right _ hi
    rw [Nat.succ_mul] at hm
    have := row_of_flat h3 h5 hj
    rw [List.drop_take, List.take_take, Nat.min_eq_left (by omega), List.drop_drop] at this
    exact ⟨b, off, c, cells, rfl, h4, by rw [hrk]; exact this⟩
theorem iaddr_slice_sim {t el : TypeId} (hu : P.underlying t = some (.slice el)) {k : Nat} (hk : szIs P el k = true) {x i : AV} {vx vi : Value} (hx : RV ρ G x vx) (hi : RV ρ G i vi) {j : Nat} (hj : natOf i = some j)
    (hv : iaddrS k j x = some v) : ∃ v', (Instr.indexAt t vx vi).run P w = .ok v' w ∧ RV ρ G v v' := by
  obtain ⟨ki, rfl⟩ := natOf_some hj
  have := hi.ofInt; subst this
  have hsz := run_szIs (P := P) hk w
  have key : ∀ b off len c, j < len → (Instr.indexAt t (.slice (some ⟨b, off, none⟩) len c) (.int ki j)).run P w = .ok (.pointer (some ⟨b, off + j * k, none⟩)) w := by
    intro b off len c hl
    simp [Instr.indexAt, asIntOf, run_underlying hu, hsz, add_plain, hl]
  cases x with
  | vs fl xs =>
    simp only [iaddrS] at hv
    split at hv
    · rename_i r hr
      split at hv
      · rename_i hrl; cases hv
        cases hx with | cell _ _ hx =>
          obtain ⟨b, off, c, cells, rfl, h4, h5⟩ := vs_row hx hr
          have hl := (List.getElem?_eq_some_iff.1 hr).1
          exact ⟨_, key b off _ c hl, .cell _ _ (.rptr _ b _ cells h4 (by rw [hrl] at h5 ⊢; exact h5))⟩
      · cases hv
    · cases hv
  | ref o k' off len =>
    simp only [iaddrS] at hv
    split at hv
    · rename_i hc; obtain ⟨hl, hkk⟩ := hc; cases hv; subst hkk
      cases hx with | cell _ _ hx => cases hx with
        | ref o off len b k1 C hb hle =>
          refine ⟨_, key b _ _ _ hl, .cell _ _ ?_⟩
          rw [← Nat.add_mul]
          exact .ptr _ _ 0 b _ C hb
    · cases hv
  | _ => simp [iaddrS] at hv
end
end Go.Am
namespace Go.Am
section
variable {P : Program} {ρ : Nat → FuncId} {G : Gho} {pw : Pw} {base : Nat} {h h' : H} {w : World} {e : Env} {act : Act} {v : AV}
theorem flat_drop {rows : List (List AV)} {k : Nat} (hk : ∀ r ∈ rows, r.length = k) (a : Nat) : (rows.drop a).flatten = rows.flatten.drop (a * k) := by
  induction rows generalizing a with
  | nil => simp
  | cons x rows ih =>
    cases a with
    | zero => simp
    | succ a =>
      have hx : x.length = k := hk x (by simp)
      rw [List.drop_succ_cons, ih (fun r hr => hk r (by simp [hr])), List.flatten_cons, Nat.succ_mul, Nat.add_comm, ← hx, List.drop_length_add_append]
theorem flat_take {rows : List (List AV)} {k : Nat} (hk : ∀ r ∈ rows, r.length = k) (a : Nat) : (rows.take a).flatten = rows.flatten.take (a * k) := by
  induction rows generalizing a with
  | nil => simp
  | cons x rows ih =>
    cases a with
    | zero => simp
    | succ a =>
      have hx : x.length = k := hk x (by simp)
      rw [List.take_succ_cons, List.flatten_cons, ih (fun r hr => hk r (by simp [hr])), List.flatten_cons, Nat.succ_mul, Nat.add_comm, ← hx, List.take_length_add_append]
theorem run_sliceBound {x : AV} {vx : Value} (hx : RV ρ G x vx) {n : Nat} (hn : natOf x = some n) {y : Nat} (hy : n ≤ y) (code : BoundsCode) : (Instr.sliceBound vx y code).run P w = .ok n w := by
  obtain ⟨k, rfl⟩ := natOf_some hn
  have := hx.ofInt; subst this
  simp [Instr.sliceBound, asIntOf]; omega
theorem run_sliceBounds {isS : Bool} {len cap : Nat} {lo hi mx : Option Operand} {lo' hi' mx' : Option AO} (he : RE ρ G e act.tmps) (h1 : okOpt ρ lo lo' = true) (h2 : okOpt ρ hi hi' = true) (h3 : okOpt ρ mx mx' = true)
    {a b m : Nat} (ha : optNat e 0 lo' = some a) (hb : optNat e len hi' = some b) (hm : optNat e cap mx' = some m) (hab : a ≤ b) (hbm : b ≤ m) (hmc : m ≤ cap) (hmh : mx'.isSome = true → hi'.isSome = true) :
    (Instr.sliceBounds isS len cap (lo.map act.eval) (hi.map act.eval) (mx.map act.eval)).run P w = .ok (a, b, m) w := by
  have opt : ∀ (x : Option Operand) (x' : Option AO), okOpt ρ x x' = true → (x = none ∧ x' = none) ∨ ∃ y y', x = some y ∧ x' = some y' ∧ RV ρ G (y'.ev e) (act.eval y) := by
    intro x x' hx
    cases x <;> cases x' <;> simp [okOpt] at hx
    · exact .inl ⟨rfl, rfl⟩
    · exact .inr ⟨_, _, rfl, rfl, okO_sound hx he⟩
  rcases opt _ _ h3 with ⟨rfl, rfl⟩ | ⟨y3, y3', rfl, rfl, r3⟩
  · simp only [optNat, Option.some.injEq] at hm; subst hm
    rcases opt _ _ h2 with ⟨rfl, rfl⟩ | ⟨y2, y2', rfl, rfl, r2⟩
    · simp only [optNat, Option.some.injEq] at hb; subst hb
      rcases opt _ _ h1 with ⟨rfl, rfl⟩ | ⟨y1, y1', rfl, rfl, r1⟩
      · simp only [optNat, Option.some.injEq] at ha; subst ha
        simp [Instr.sliceBounds]
      · simp [Instr.sliceBounds, run_sliceBound r1 ha hab]
    · rcases opt _ _ h1 with ⟨rfl, rfl⟩ | ⟨y1, y1', rfl, rfl, r1⟩
      · simp only [optNat, Option.some.injEq] at ha; subst ha
        simp [Instr.sliceBounds, run_sliceBound r2 hb hbm]
      · simp [Instr.sliceBounds, run_sliceBound r1 ha hab, run_sliceBound r2 hb hbm]
  · rcases opt _ _ h2 with ⟨rfl, rfl⟩ | ⟨y2, y2', rfl, rfl, r2⟩
    · simp at hmh
    · rcases opt _ _ h1 with ⟨rfl, rfl⟩ | ⟨y1, y1', rfl, rfl, r1⟩
      · simp only [optNat, Option.some.injEq] at ha; subst ha
        simp [Instr.sliceBounds, run_sliceBound r2 hb hbm, run_sliceBound r3 hm hmc]
      · simp [Instr.sliceBounds, run_sliceBound r1 ha hab, run_sliceBound r2 hb hbm, run_sliceBound r3 hm hmc]
theorem bytesOf_extract (s : ByteArray) (a b : Nat) : bytesOf (s.extract a b) = ((bytesOf s).drop a).take (b - a) := by
  simp [bytesOf, ByteArray.data_extract, List.extract_eq_take_drop, List.map_take, List.map_drop]
theorem vs_piece {full : Bool} {xs : List (List AV)} {len cap : Nat} {p : Option Addr} (hx : RVC ρ G (.vs full xs) (.slice p len cap)) {k : Nat} (hk : (xs.headD (List.replicate k .undef)).length = k) {a b m : Nat} (hab : a ≤ b) (hbl : b ≤ len) (hbm : b ≤ m) (full' : Bool) (hf : full' = true → m = b) :
    RVC ρ G (.vs full' ((xs.drop a).take (b - a))) (.slice (if m = a then p else p.map (·.add (a * k))) (b - a) (m - a)) := by
  cases hx with
  | vsE f p c hfull =>
    have : b = 0 ∧ a = 0 := by omega
    obtain ⟨rfl, rfl⟩ := this
    simpa using RVC.vsE full' _ _ (fun h => by have := hf h; omega)
  | vs f xs k' b' off c cells h1 h2 h3 h4 h5 h6 h7 =>
    cases xs with
    | nil => exact absurd rfl h1
    | cons x xs =>
      have hkk : k' = k := by rw [← h3 x (by simp)]; simpa using hk
      subst hkk
      have hlen : ((List.drop a (x :: xs)).take (b - a)).length = b - a := by
        rw [List.length_take, List.length_drop]; omega
      by_cases hE : a = b
      · subst hE
        have : (List.drop a (x :: xs)).take (a - a) = [] := by simp
        rw [this, Nat.sub_self]
        exact .vsE _ _ _ (fun h => by have := hf h; omega)
      · have hne : m ≠ a := by omega
        rw [if_neg hne, Option.map_some, add_plain]
        have hv := RVC.vs (ρ := ρ) (G := G) full' ((List.drop a (x :: xs)).take (b - a)) k' b' (off + a * k') (m - a) cells (by intro e0; rw [e0] at hlen; simp at hlen; omega) h2
          (fun r hr => h3 r (List.mem_of_mem_drop (List.mem_of_mem_take hr))) h4 ?_ (by rw [hlen]; omega) (fun h => by rw [hlen, hf h])
        · rw [hlen] at hv; exact hv
        · rw [flat_take (k := k') (fun r hr => h3 r (List.mem_of_mem_drop hr)), flat_drop h3, hlen]
          have := (h5.drop (a * k')).take ((b - a) * k')
          rw [List.drop_take, List.take_take, List.drop_drop, Nat.min_eq_left] at this
          · exact this
          · have : b * k' ≤ (x :: xs).length * k' := Nat.mul_le_mul_right _ hbl
            rw [Nat.sub_mul]; omega
theorem slice_sim {t : TypeId} {k : Nat} (hu : (P.underlying t = some .string ∧ k = 0) ∨ ∃ el, P.underlying t = some (.slice el) ∧ szIs P el k = true ∧ 1 ≤ k) {x : AV} {vx : Value} (hx : RV ρ G x vx)
    {lo hi mx : Option Operand} {lo' hi' mx' : Option AO} (he : RE ρ G e act.tmps) (h1 : okOpt ρ lo lo' = true) (h2 : okOpt ρ hi hi' = true) (h3 : okOpt ρ mx mx' = true)
    (hmh : mx'.isSome = true → hi'.isSome = true) (hs : sliceAV e k x lo' hi' mx' = some v) :
    ∃ v', (Instr.sliceAt t vx (lo.map act.eval) (hi.map act.eval) (mx.map act.eval)).run P w = .ok v' w ∧ RV ρ G v v' := by
  unfold sliceAV at hs
  cases hl : lenOf x with
  | none => simp [hl] at hs
  | some l =>
    cases ha : optNat e 0 lo' with
    | none => simp [hl, ha] at hs
    | some a =>
      cases hb : optNat e l hi' with
      | none => simp [hl, ha, hb] at hs
      | some b =>
        simp only [hl, ha, hb, Option.bind_eq_bind, Option.bind_some] at hs
        split at hs
        case isFalse => cases hs
        rename_i hab
        obtain ⟨hab, hbl⟩ := hab
        cases x with
        | str s =>
          cases mx' with
          | some m => simp at hs
          | none =>
            simp only at hs
            split at hs
            case isFalse => cases hs
            rename_i hk0
            cases hs
            have hmx : mx = none := by cases mx with | none => rfl | some y => simp [okOpt] at h3
            subst hmx
            obtain ⟨s', rfl, rfl⟩ := hx.ofStr
            have hle : l = s'.size := by simp [lenOf, bytesOf_length] at hl; exact hl.symm
            subst hle
            rcases hu with ⟨hu, _⟩ | ⟨el, hu, hk, hk1⟩
            · refine ⟨.string (s'.extract a b), ?_, by rw [← bytesOf_extract]; exact .cell _ _ (.str _)⟩
              have := run_sliceBounds (P := P) (w := w) (isS := false) (len := s'.size) (cap := s'.size) he h1 h2 h3 ha hb (m := s'.size) rfl hab hbl (Nat.le_refl _) hmh
              simp only [Option.map_none] at this
              simp [Instr.sliceAt, run_underlying hu, Instr.slice, this]
            · omega
        | vs full xs =>
          rcases hu with ⟨hu, hk0⟩ | ⟨el, hu, hk, hk1⟩
          · subst hk0; cases mx' <;> simp at hs
          cases hx with | cell _ _ hx =>
            have hll : l = xs.length := by simp [lenOf] at hl; exact hl.symm
            have hshape : ∃ p c, vx = .slice p xs.length c ∧ xs.length ≤ c ∧ (full = true → c = xs.length) := by
              cases hx with
              | vsE f p c hf => exact ⟨p, c, rfl, Nat.zero_le _, fun h => by simpa using hf h⟩
              | vs f xs k' b' off c cells h1 h2 h3 h4 h5 h6 h7 => exact ⟨_, c, rfl, h6, h7⟩
            obtain ⟨p, c, rfl, hlc, hfc⟩ := hshape
            subst hll
            cases mx' with
            | none =>
              simp only at hs
              split at hs
              · rename_i hk'; obtain ⟨_, hk'⟩ := hk'; cases hs
                have hb' := run_sliceBounds (P := P) (w := w) (isS := true) (len := xs.length) (cap := c) he h1 h2 h3 ha hb (m := c) rfl hab (by omega) (Nat.le_refl _) hmh
                refine ⟨_, by simp [Instr.sliceAt, run_underlying hu, Instr.slice, hb', run_szIs hk]; rfl, .cell _ _ ?_⟩
                exact vs_piece hx hk' hab hbl (by omega) _ (fun hf => by simp at hf; rw [hfc hf.1, hf.2])
              · cases hs
            | some m =>
              simp only at hs
              cases hm : natOf (m.ev e) with
              | none => simp [hm] at hs
              | some c' =>
                simp only [hm, Option.bind_some] at hs
                split at hs
                · rename_i hc; obtain ⟨hc1, hc2, _, hk'⟩ := hc; cases hs
                  have hb' := run_sliceBounds (P := P) (w := w) (isS := true) (len := xs.length) (cap := c) he h1 h2 h3 ha hb (m := c') (by simpa [optNat] using hm) hab hc1 (by omega) hmh
                  refine ⟨_, by simp [Instr.sliceAt, run_underlying hu, Instr.slice, hb', run_szIs hk]; rfl, .cell _ _ ?_⟩
                  exact vs_piece hx hk' hab hbl hc1 _ (fun hf => by simpa using hf)
                · cases hs
        | ref o k' off len =>
          rcases hu with ⟨hu, hk0⟩ | ⟨el, hu, hk, hk1⟩
          · subst hk0; cases mx' <;> simp at hs
          have hll : l = len := by simp [lenOf] at hl; exact hl.symm
          subst hll
          cases hx with | cell _ _ hx => cases hx with
            | ref o off len b' k1 C hblk hle =>
              cases mx' with
              | none =>
                have hb' := run_sliceBounds (P := P) (w := w) (isS := true) (len := l) (cap := C - off) he h1 h2 h3 ha hb (m := C - off) rfl hab (by omega) (Nat.le_refl _) hmh
                simp only at hs
                split at hs
                case isFalse => cases hs
                rename_i hkk
                obtain ⟨hkk, _⟩ := hkk
                subst hkk
                split at hs
                · rename_i hE; obtain ⟨hE, _⟩ := hE; cases hs; subst hE
                  have e0 : a - a = 0 := Nat.sub_self a
                  have hz : (AV.vs false ([] : List (List AV))) = .vs false [] := rfl
                  refine ⟨.slice (if C - off = a then some ⟨b', off * k', none⟩ else some ((⟨b', off * k', none⟩ : Addr).add (a * k'))) 0 (C - off - a), by simp [Instr.sliceAt, run_underlying hu, Instr.slice, hb', run_szIs hk], .cell _ _ ?_⟩
                  exact .vsE _ _ _ (fun hf => by cases hf)
                · rename_i hE; cases hs
                  by_cases ha0 : a = 0
                  · subst ha0
                    have hz : (if C - off = 0 then some (⟨b', off * k', none⟩ : Addr) else some ((⟨b', off * k', none⟩ : Addr).add (0 * k'))) = some ⟨b', off * k', none⟩ := by
                      split
                      · rfl
                      · rw [add_plain, Nat.zero_mul, Nat.add_zero]
                    refine ⟨_, by simp [Instr.sliceAt, run_underlying hu, Instr.slice, hb', run_szIs hk]; rfl, .cell _ _ ?_⟩
                    have := RVC.ref (ρ := ρ) (G := G) o off b b' k' C hblk (by omega)
                    simpa [hz, add_plain] using this
                  · refine ⟨_, by simp [Instr.sliceAt, run_underlying hu, Instr.slice, hb', run_szIs hk]; rfl, .cell _ _ ?_⟩
                    rw [if_neg (by omega), add_plain, ← Nat.add_mul, Nat.sub_sub]
                    exact .ref o (off + a) (b - a) b' k' C hblk (by omega)
              | some m =>
                simp only at hs
                cases hm : natOf (m.ev e) with
                | none => simp [hm] at hs
                | some c' =>
                  simp only [hm, Option.bind_some] at hs
                  split at hs
                  · rename_i hc; obtain ⟨hE, hc1, hc2, _⟩ := hc; cases hs; subst hE
                    have hb' := run_sliceBounds (P := P) (w := w) (isS := true) (len := l) (cap := C - off) he h1 h2 h3 ha hb (m := c') (by simpa [optNat] using hm) hab hc1 (by omega) hmh
                    refine ⟨.slice (if c' = a then some ⟨b', off * k', none⟩ else some ((⟨b', off * k', none⟩ : Addr).add (a * k))) 0 (c' - a), by simp [Instr.sliceAt, run_underlying hu, Instr.slice, hb', run_szIs hk], .cell _ _ ?_⟩
                    exact .vsE _ _ _ (fun hf => by simp at hf; omega)
                  · cases hs
        | _ => simp [lenOf] at hl
end
end Go.Am
namespace Go.Am
section
variable {P : Program} {ρ : Nat → FuncId} {G : Gho} {pw : Pw} {base : Nat} {h h' : H} {w : World} {e : Env} {act : Act} {v : AV}
theorem splice_foldl (off : Nat) (l : List Value) (cs : Array Value) (hl : off + l.length ≤ cs.size) :
    (l.zipIdx.foldl (fun cs (x : Value × Nat) => cs.setIfInBounds (off + x.2) x.1) cs).toList = cs.toList.take off ++ l ++ cs.toList.drop (off + l.length) := by
  obtain ⟨h1, h2⟩ := Great.foldl_set off l 0 cs
  apply List.ext_getElem?
  intro j
  have := h2 j
  rw [Array.getElem?_toList, this]
  have e1 : (cs.toList.take off).length = off := by simp; omega
  rw [List.append_assoc]
  by_cases hj : j < off
  · rw [if_neg (by omega), List.getElem?_append_left (by omega), List.getElem?_take, if_pos hj, Array.getElem?_toList]
  · rw [List.getElem?_append_right (by omega), e1]
    by_cases hj2 : j < off + l.length
    · rw [if_pos (by omega), List.getElem?_append_left (by omega)]; congr 1
    · rw [if_neg (by omega), List.getElem?_append_right (by omega), List.getElem?_drop, Array.getElem?_toList]
      congr 1; omega
theorem fill_sim (he : RE ρ G e act.tmps) (place : Nat → Option (Nat × Nat)) : ∀ (ps : List (Nat × Operand)) (qs : List (Nat × Nat × AO)) (cs cs' : List AV) (cells : Array Value), okParts ρ place ps qs = true → RVCL ρ G cs cells.toList →
    fillCells e cs qs = some cs' → ∃ cells', Instr.fill place cells (ps.map fun (i, x) => (i, act.eval x)) = some cells' ∧ RVCL ρ G cs' cells'.toList
  | [], [], cs, cs', cells, _, hr, hf => by
    simp only [fillCells, Option.some.injEq] at hf; subst hf
    exact ⟨cells, rfl, hr⟩
  | [], _ :: _, _, _, _, hok, _, _ => by simp [okParts] at hok
  | (i, x) :: ps, [], _, _, _, hok, _, _ => by simp [okParts] at hok
  | (i, x) :: ps, (off, sz, a) :: qs, cs, cs', cells, hok, hr, hf => by
    simp only [okParts, Bool.and_eq_true, decide_eq_true_eq] at hok
    obtain ⟨⟨h1, h2⟩, h3⟩ := hok
    simp only [fillCells] at hf
    split at hf
    · rename_i hc
      obtain ⟨c1, c2, c3⟩ := hc
      have hv := (okO_sound h2 he).cells c1
      have hvl := hv.length_eq
      have hcl := hr.length_eq
      have hsz : (act.eval x).cells.size = sz := by rw [← c2, hvl]; simp
      have hcs : cells.toList.length = cells.size := by simp
      have hsp := splice_foldl off (act.eval x).cells.toList cells (by simp; omega)
      have hz : (act.eval x).cells.zipIdx.foldl (fun cs (x : Value × Nat) => cs.setIfInBounds (off + x.2) x.1) cells = (act.eval x).cells.toList.zipIdx.foldl (fun cs (x : Value × Nat) => cs.setIfInBounds (off + x.2) x.1) cells := by
        rw [← Array.foldl_toList, Array.toList_zipIdx]
      have hr' : RVCL ρ G (setCells cs off (a.ev e).cells) ((act.eval x).cells.zipIdx.foldl (fun cs (x : Value × Nat) => cs.setIfInBounds (off + x.2) x.1) cells).toList := by
        rw [hz, hsp, setCells, hvl]
        exact ((hr.take _).append hv).append (hr.drop _)
      obtain ⟨cells', h4, h5⟩ := fill_sim he place ps qs _ cs' _ h3 hr' hf
      refine ⟨cells', ?_, h5⟩
      simp only [List.map_cons, Instr.fill, h1]
      rw [if_neg (by simp; omega)]
      exact h4
    · cases hf
theorem build_sim {t : TypeId} {ps : Array (Nat × Operand)} {z : List AV} {qs : List (Nat × Nat × AO)} (he : RE ρ G e act.tmps) (hok : okOp P ρ (.build t ps) (.build z qs) = true) {cs : List AV} (hf : fillCells e z qs = some cs) :
    ∃ v', (Instr.build t (ps.map fun (i, x) => (i, act.eval x))).run P w = .ok v' w ∧ RV ρ G (.agg cs) v' := by
  simp only [okOp, Bool.and_eq_true] at hok
  obtain ⟨hz, hok⟩ := hok
  have hz' := hz
  unfold zeroIs at hz'
  cases hi : P.info? t with
  | none => simp [hi] at hz'
  | some it =>
    simp only [hi] at hz'
    cases hzz : it.zero with
    | none => simp [hzz] at hz'
    | some zv =>
      simp only [hzz, Bool.and_eq_true] at hz'
      have hr : RVCL ρ G z zv.cells.toList := okCL_sound hz'.1
      cases hu : P.underlying t with
      | none => simp [hu] at hok
      | some d =>
        cases d <;> (try (simp [hu] at hok; done))
        case array n el =>
          simp only [hu] at hok
          cases hie : P.info? el with
          | none => simp [hie] at hok
          | some ie =>
            simp only [hie] at hok
            obtain ⟨cells', h1, h2⟩ := fill_sim he _ ps.toList qs z cs zv.cells hok hr hf
            refine ⟨_, run_build w t _ cells' (by simp only [Program.built, hi, hu, hzz, hie, Array.toList_map]; exact h1), ?_⟩
            simpa using RV.agg _ _ h2
        case struct fs =>
          simp only [hu] at hok
          cases hp : fs.toList.mapM (fun f => (P.info? f.type).map fun i => (f.offset, i.size)) with
          | none => simp only [hp] at hok; cases hok
          | some pl =>
            simp only [hp] at hok
            obtain ⟨cells', h1, h2⟩ := fill_sim he _ ps.toList qs z cs zv.cells hok hr hf
            refine ⟨_, run_build w t _ cells' (by simp only [Program.built, hi, hu, hzz, hp, Array.toList_map, List.getElem?_toArray]; exact h1), ?_⟩
            simpa using RV.agg _ _ h2
theorem range_mod (k : Nat) (f : Nat → Value) : ∀ n, (List.range (n * k)).map (fun j => f (j % k)) = (List.replicate n ((List.range k).map f)).flatten
  | 0 => by simp
  | n + 1 => by
    rw [Nat.succ_mul, Nat.add_comm, List.range_add, List.map_append, List.replicate_succ, List.flatten_cons, ← range_mod k f n, List.map_map]
    congr 1
    · apply List.map_congr_left
      intro j hj
      rw [Nat.mod_eq_of_lt (by simpa using hj)]
    · apply List.map_congr_left
      intro j _
      simp
theorem zeros_list (zc : Array Value) (n : Nat) : ((Array.range (n * zc.size)).map (fun j => zc[j % zc.size]!)).toList = (List.replicate n zc.toList).flatten := by
  rw [Array.toList_map, Array.toList_range, range_mod zc.size (fun j => zc[j]!) n]
  congr 2
  apply List.ext_getElem?
  intro j
  rw [List.getElem?_map]
  by_cases hj : j < zc.size
  · simp [hj]
  · rw [List.getElem?_eq_none (by simpa using hj), List.getElem?_eq_none (by simpa using hj)]; rfl
theorem RVCL.reps {z : List AV} {zc : List Value} (hz : RVCL ρ G z zc) (n : Nat) : RVCL ρ G (List.replicate n z).flatten (List.replicate n zc).flatten := by
  induction n with
  | zero => exact .nil
  | succ n ih => rw [List.replicate_succ, List.replicate_succ, List.flatten_cons, List.flatten_cons]; exact hz.append ih
theorem fillRows_flat {k : Nat} : ∀ (qs : List (Nat × AO)) (rows rows' : List (List AV)), (∀ r ∈ rows, r.length = k) → fillRows e k rows qs = some rows' →
    (∀ r ∈ rows', r.length = k) ∧ rows'.length = rows.length ∧ fillCells e rows.flatten (qs.map fun (i, a) => (i * k, k, a)) = some rows'.flatten
  | [], rows, rows', hk, hf => by
    simp only [fillRows, Option.some.injEq] at hf; subst hf
    exact ⟨hk, rfl, rfl⟩
  | (i, a) :: qs, rows, rows', hk, hf => by
    simp only [fillRows] at hf
    split at hf
    · rename_i hc
      obtain ⟨c1, c2, c3⟩ := hc
      obtain ⟨h1, h2, h3⟩ := fillRows_flat qs (rows.set i (a.ev e).cells) rows' (fun r hr => by
        rcases List.mem_or_eq_of_mem_set hr with hr | rfl
        · exact hk r hr
        · exact c3) hf
      refine ⟨h1, by rw [h2]; simp, ?_⟩
      have hrow : rows[i]? = some rows[i] := by simp [c2]
      have hrl : rows[i].length = k := hk _ (List.getElem_mem c2)
      have hset : setCells rows[i] 0 (a.ev e).cells = (a.ev e).cells := by
        simp [setCells, c3, hrl]
      have hflat := flat_set hk hrow (off := 0) (cs := (a.ev e).cells) (by omega)
      rw [hset, Nat.add_zero] at hflat
      have hm : (i + 1) * k ≤ rows.length * k := Nat.mul_le_mul_right _ c2
      rw [Nat.succ_mul] at hm
      simp only [List.map_cons, fillCells, c1, c3, true_and]
      rw [if_pos (by rw [flat_length hk]; exact hm), setCells, ← hflat]
      exact h3
    · cases hf
theorem okRows_parts {k : Nat} : ∀ (ps : List (Nat × Operand)) (qs : List (Nat × AO)), okRows ρ ps qs = true → okParts ρ (fun i => some (i * k, k)) ps (qs.map fun (i, a) => (i * k, k, a)) = true
  | [], [], _ => rfl
  | [], _ :: _, h => by simp [okRows] at h
  | (i, x) :: ps, [], h => by simp [okRows] at h
  | (i, x) :: ps, (j, a) :: qs, h => by
    simp only [okRows, Bool.and_eq_true, beq_iff_eq] at h
    obtain ⟨⟨rfl, h2⟩, h3⟩ := h
    simp only [List.map_cons, okParts, Bool.and_eq_true, decide_eq_true_eq]
    exact ⟨⟨trivial, h2⟩, okRows_parts ps qs h3⟩
theorem lit_sim {t : TypeId} {n : Nat} {ps : Array (Nat × Operand)} {r : Bool} {k : Nat} {z : List AV} {n' : Nat} {qs : List (Nat × AO)} (he : RE ρ G e act.tmps)
    (hok : okOp P ρ (.buildSlice t n ps) (.lit r k z n' qs) = true) {rows : List (List AV)} (hf : fillRows e k (List.replicate n' z) qs = some rows) :
    ∃ (el : TypeId) (c : Array Value), (Instr.buildSlice t n (ps.map fun (i, x) => (i, act.eval x))).run P w = .ok (.slice (some ⟨w.heap.size, 0, none⟩) n n) (w.alloc (.cells c el)) ∧ 1 ≤ k ∧ n = n' ∧ rows.length = n ∧
      c.size = n * k ∧ (∀ x ∈ rows, x.length = k) ∧ RVCL ρ G rows.flatten c.toList := by
  simp only [okOp] at hok
  cases hu : P.underlying t with
  | none => simp [hu] at hok
  | some d =>
    cases d <;> (try (simp [hu] at hok; done))
    case slice el =>
      simp only [hu, Bool.and_eq_true, decide_eq_true_eq, beq_iff_eq] at hok
      obtain ⟨⟨⟨⟨⟨h1, h2⟩, h3⟩, h4⟩, h5⟩, h6⟩ := hok
      subst h4
      have hs := run_szIs (P := P) h1 w
      obtain ⟨zv, hz1, hz2, hz3⟩ := run_zeroIs h3 w
      have hr : RVCL ρ G z zv.cells.toList := okCL_sound hz2
      have hzl := hr.length_eq
      have hk : z.length = k := by
        have a1 := run_szIs (P := P) hz3 w
        rw [hs] at a1; cases a1; rfl
      have hzs : zv.cells.size = k := by simp at hzl; omega
      obtain ⟨g1, g2, g3⟩ := fillRows_flat qs _ rows (fun x hx => by rw [List.eq_of_mem_replicate hx]; exact hk) hf
      have hcells0 : RVCL ρ G (List.replicate n z).flatten ((Array.range (n * k)).map (fun j => zv.cells[j % zv.cells.size]!)).toList := by
        have := zeros_list zv.cells n
        rw [hzs] at this
        rw [hzs, this]
        exact hr.reps n
      by_cases h0 : n = 0
      · subst h0
        have hrows : rows = [] := by cases rows with | nil => rfl | cons => simp at g2
        subst hrows
        have hq : qs = [] := by
          cases qs with
          | nil => rfl
          | cons q qs => obtain ⟨i, a⟩ := q; simp [fillRows] at hf
        subst hq
        have hp : ps.toList = [] := by cases hpl : ps.toList with | nil => rfl | cons p ps => obtain ⟨i, x⟩ := p; simp [hpl, okRows] at h6
        have hp' : ps = #[] := by simpa using hp
        subst hp'
        exact ⟨el, #[], by
          simp [Instr.buildSlice, run_underlying hu, hs, Instr.fill, newRow]
          rw [show Array.map (fun _ => (default : Value)) (Array.range 0) = #[] from by apply Array.ext'; simp], h2, rfl, rfl, by simp, by simp, .nil⟩
      · obtain ⟨c, hc1, hc2⟩ := fill_sim he _ ps.toList _ _ _ _ (okRows_parts (k := k) _ _ h6) hcells0 g3
        have hcs : c.size = n * k := by
          have := hc2.length_eq
          rw [flat_length g1, g2] at this
          simp at this; omega
        refine ⟨el, c, ?_, h2, rfl, by rw [g2]; simp, hcs, g1, hc2⟩
        have hpos : ¬ n * k = 0 := by
          intro hm
          rcases Nat.mul_eq_zero.1 hm with hm | hm <;> omega
        rw [hzs] at hc1
        have hc1' : Instr.fill (fun i => some (i * k, k)) ((Array.range (n * k)).map (fun j => zv.cells[j % zv.cells.size]!)) (ps.toList.map fun x => (x.1, act.eval x.2)) = some c := by
          rw [hzs]; exact hc1
        simp only [Instr.buildSlice, Sem.run_bind, run_underlying hu, Result.andThen_ok, hs, Sem.run_ite]
        rw [if_neg (by omega)]
        simp [hpos, hz1, hc1', newRow]
end
end Go.Am
namespace Go.Am
section
variable {P : Program} {ρ : Nat → FuncId} {G : Gho} {pw : Pw} {base : Nat} {h h' : H} {w : World} {e : Env} {act : Act} {v : AV}
theorem Rel.adopt {w w' : World} (r : Rel ρ pw base G h w) (x : Obj) (b k C : Nat) (y : Go.Obj) (hfree : ∀ o x k C, h.get o = some x → G.blk o ≠ some (b, k, C)) (himm : G.imm b = none) (hpw : pw b = none)
    (hw : ∀ a, w'.heap[a]? = if a = b then some y else w.heap[a]?) (hx : ObjRel ρ (G.add h.next (b, k, C)) x k C (some y)) (hio : World.io w' = World.io w := by rfl) :
    Rel ρ pw base (G.add h.next (b, k, C)) (h.new x) w' := by
  have hle : G.le (G.add h.next (b, k, C)) := Gho.le_add r.blk_next
  have hblk : ∀ o, o ≠ h.next → (G.add h.next (b, k, C)).blk o = G.blk o := fun o e => by simp [Gho.add, e]
  refine ⟨?_, ?_, ?_, ?_, ?_, ?_, ?_, hio.trans r.io, ?_⟩
  · intro o z hz
    rw [H.get_new] at hz
    by_cases ho : o = h.next
    · subst ho; rw [if_pos rfl] at hz; cases hz
      exact ⟨b, k, C, by simp [Gho.add], by rw [hw, if_pos rfl]; exact hx⟩
    · rw [if_neg ho] at hz
      obtain ⟨b', k', C', h1, h2⟩ := r.objs o z hz
      have hne : b' ≠ b := by rintro rfl; exact hfree o z k' C' hz h1
      exact ⟨b', k', C', by rw [hblk o ho]; exact h1, by rw [hw, if_neg hne]; exact h2.mono hle⟩
  · intro o o' z z' b1 k1 C1 k2 C2 h1 h2 h3 h4
    rw [H.get_new] at h1 h2
    by_cases ho : o = h.next <;> by_cases ho' : o' = h.next
    · rw [ho, ho']
    · rw [if_neg ho'] at h2; rw [hblk o' ho'] at h4
      simp [Gho.add, ho] at h3
      obtain ⟨rfl, _, _⟩ := h3
      exact absurd h4 (hfree o' z' _ _ h2)
    · rw [if_neg ho] at h1; rw [hblk o ho] at h3
      simp [Gho.add, ho'] at h4
      obtain ⟨rfl, _, _⟩ := h4
      exact absurd h3 (hfree o z _ _ h1)
    · rw [if_neg ho] at h1; rw [if_neg ho'] at h2; rw [hblk o ho] at h3; rw [hblk o' ho'] at h4
      exact r.inj o o' z z' b1 k1 C1 k2 C2 h1 h2 h3 h4
  · intro a cells h1
    obtain ⟨c, e, fr, h2, h3⟩ := r.imm a cells h1
    have : a ≠ b := by rintro rfl; exact absurd (himm.symm.trans h1) (by simp)
    exact ⟨c, e, fr, by rw [hw, if_neg this]; exact h2, h3⟩
  · intro o z b1 k1 C1 h1 h2
    rw [H.get_new] at h1
    by_cases ho : o = h.next
    · simp [Gho.add, ho] at h2
      obtain ⟨rfl, _, _⟩ := h2
      exact himm
    · rw [if_neg ho] at h1; rw [hblk o ho] at h2
      exact r.disj o z b1 k1 C1 h1 h2
  · intro o z h1
    by_cases ho : o = h.next
    · simp [ho]
    · rw [hblk o ho] at h1; have := r.ltB o z h1; simp; omega
  · intro a z h1
    have : a ≠ b := by rintro rfl; exact absurd (hpw.symm.trans h1) (by simp)
    rw [hw, if_neg this]; exact r.pwh a z h1
  · intro o z b1 k1 C1 h0 h1 h2
    rw [H.get_new] at h1
    by_cases ho : o = h.next
    · simp [Gho.add, ho] at h2
      obtain ⟨rfl, _, _⟩ := h2
      exact hpw
    · rw [if_neg ho] at h1; rw [hblk o ho] at h2
      exact r.pwd o z b1 k1 C1 h0 h1 h2
  · intro o b1 k1 C1 h1
    by_cases hab : b1 = b
    · exact ⟨y, by rw [hw, if_pos hab]⟩
    · by_cases ho : o = h.next
      · simp [Gho.add, ho] at h1
        exact absurd h1.1.symm hab
      · rw [hblk o ho] at h1
        obtain ⟨q, hq⟩ := r.blkH o b1 k1 C1 h1
        exact ⟨q, by rw [hw, if_neg hab]; exact hq⟩
theorem growBy_le (need B : Nat) (hB : need + (need + 768) / 4 ≤ B) : ∀ r c, c ≤ B → Builtin.growBy need r c ≤ B
  | 0, c, hc => hc
  | r + 1, c, hc => by
    unfold Builtin.growBy
    split
    · exact hc
    · exact growBy_le need B hB r _ (by omega)
theorem nextcap_le {need cap : Nat} (h : cap < need) : Builtin.nextslicecap need cap ≤ 2 * need + 1000 := by
  unfold Builtin.nextslicecap
  split
  · omega
  · split
    · omega
    · exact growBy_le need _ (by omega) 4 cap (by omega)
theorem bytesAV_rel (s : List UInt8) : RVCL ρ G (bytesAV (s.map UInt8.toNat)).flatten (s.map fun b => Value.int .u8 b.toNat) := by
  induction s with
  | nil => exact .nil
  | cons b s ih => simp only [bytesAV, List.map_cons, List.flatten_cons, List.singleton_append] at ih ⊢; exact .cons _ _ _ _ (.int _ _) ih
theorem bytesAV_len (s : List Nat) : ∀ r ∈ bytesAV s, r.length = 1 := by
  intro r hr
  simp only [bytesAV, List.mem_map] at hr
  obtain ⟨b, _, rfl⟩ := hr; rfl
theorem rows_sim (r : Rel ρ pw base G h w) {b : AV} {vb : Value} (hb : RV ρ G b vb) {y : List AV} {ys : List (List AV)} (hr : rowsOf h b = some (y :: ys)) :
    ∃ cells : List Value, (Builtin.lenOf vb).run P w = .ok (y :: ys).length w ∧ (∀ x ∈ y :: ys, x.length = y.length) ∧ 1 ≤ y.length ∧ RVCL ρ G (y :: ys).flatten cells ∧
      ∀ w' : World, w'.heap = w.heap → (Builtin.firstCells y.length (y :: ys).length vb).run P w' = .ok cells.toArray w' := by
  unfold rowsOf at hr
  split at hr
  · cases hr
    cases hb with | cell _ _ hb => cases hb with
      | vs f xs k b' off c cells h1 h2 h3 h4 h5 h6 h7 =>
        have hy := h3 y (by simp)
        obtain ⟨c', e', fr, h8, h9⟩ := r.imm _ _ h4
        have hlen := h5.length_eq
        rw [flat_length h3, ← h9] at hlen
        simp only [List.length_take, List.length_drop] at hlen
        have hpos : 1 ≤ (y :: ys).length * k := by
          have : 1 * 1 ≤ (y :: ys).length * k := Nat.mul_le_mul (by simp) h2
          omega
        refine ⟨(c'.toList.drop off).take ((y :: ys).length * k), rfl, fun x hx => by rw [h3 x hx, hy], by omega, ?_, ?_⟩
        · rw [← h9, List.drop_take, List.take_take, Nat.min_eq_left (by omega)] at h5
          exact h5
        · intro w' hw
          rw [hy]
          simp only [Builtin.firstCells]
          refine run_loadCells_at (by rw [hw]; exact h8) off _ ?_
          have : c'.toList.length = c'.size := by simp
          omega
  · split at hr
    · rename_i o k off len _x k' rows ho
      split at hr
      · rename_i hle
        simp only [Option.some.injEq] at hr
        cases hb with | cell _ _ hb => cases hb with
          | ref o off len b' k C hblk hC =>
            obtain ⟨b2, k2, C2, h1, h2⟩ := r.objs o _ ho
            rw [hblk] at h1; cases h1
            obtain ⟨z, hz⟩ := h2.isSome
            rw [hz] at h2
            cases z with
            | cells c e fr =>
              obtain ⟨e1, e2, e3, e4, e5, e6, e7⟩ := h2
              subst e1
              have hk : ∀ x ∈ y :: ys, x.length = k' := by
                intro x hx; rw [← hr] at hx
                exact e5 x (List.mem_of_mem_drop (List.mem_of_mem_take hx))
              have hy := hk y (by simp)
              have hl : (y :: ys).length = len := by rw [← hr]; simp; omega
              have hm : (off + len) * k' ≤ rows.length * k' := Nat.mul_le_mul_right _ hle
              have hm2 : rows.length * k' ≤ C * k' := Nat.mul_le_mul_right _ e4
              rw [Nat.add_mul] at hm
              refine ⟨(c.toList.drop (off * k')).take (len * k'), by simp [Builtin.lenOf, hl], fun x hx => by rw [hk x hx, hy], by omega, ?_, ?_⟩
              · rw [← hr, flat_take (fun x hx => e5 x (List.mem_of_mem_drop hx)), flat_drop e5]
                have := (e6.drop (off * k')).take (len * k')
                rwa [List.drop_take, List.take_take, Nat.min_eq_left (by omega)] at this
              · intro w' hw
                rw [hy, hl]
                simp only [Builtin.firstCells]
                exact run_loadCells_at (by rw [hw]; exact hz) _ _ (by omega)
            | _ => exact h2.elim
      · cases hr
    · cases hr
  · rename_i s
    simp only [Option.some.injEq] at hr
    obtain ⟨s', rfl, rfl⟩ := hb.ofStr
    have hl : (y :: ys).length = s'.size := by rw [← hr]; simp [bytesAV, bytesOf_length]
    have hk : ∀ x ∈ y :: ys, x.length = 1 := by rw [← hr]; exact bytesAV_len _
    have hy := hk y (by simp)
    refine ⟨s'.data.toList.map fun b => Value.int .u8 b.toNat, by simp [Builtin.lenOf, hl], fun x hx => by rw [hk x hx, hy], by omega, ?_, ?_⟩
    · rw [← hr]; exact bytesAV_rel _
    · intro w' _
      rw [hl]
      simp [Builtin.firstCells]
      apply Array.ext'
      simp
  · cases hr
theorem rows_none (r : Rel ρ pw base G h w) {b : AV} {vb : Value} (hb : RV ρ G b vb) (hr : rowsOf h b = some []) (k : Nat) :
    (Builtin.lenOf vb).run P w = .ok 0 w ∧ (Builtin.firstCells k 0 vb).run P w = .ok #[] w := by
  have key : ∀ p n c, n = 0 → vb = .slice p n c → (Builtin.lenOf vb).run P w = .ok 0 w ∧ (Builtin.firstCells k 0 vb).run P w = .ok #[] w := by
    rintro p n c rfl rfl
    refine ⟨rfl, ?_⟩
    cases p with
    | none => rfl
    | some a => simp [Builtin.firstCells, loadCells, loadCellsFrom]
  unfold rowsOf at hr
  split at hr
  · cases hr
    cases hb with | cell _ _ hb => cases hb with
      | vsE f p c hf => exact key p 0 c rfl rfl
      | vs f xs k b' off c cells h1 => exact absurd rfl h1
  · split at hr
    · rename_i o k' off len _x k2 rows ho
      split at hr
      · rename_i hle
        simp only [Option.some.injEq] at hr
        have : len = 0 := by
          have := congrArg List.length hr
          simp at this; omega
        cases hb with | cell _ _ hb => cases hb with
          | ref o off len b' k C hblk hC => exact key _ _ _ this rfl
      · cases hr
    · cases hr
  · rename_i s
    simp only [Option.some.injEq] at hr
    obtain ⟨s', rfl, rfl⟩ := hb.ofStr
    have hs : s'.size = 0 := by
      have := congrArg List.length hr
      simpa [bytesAV, bytesOf_length] using this
    refine ⟨by simp [Builtin.lenOf, hs], ?_⟩
    have : s'.extract 0 0 = ByteArray.empty := by
      apply ByteArray.ext; simp
    simp [Builtin.firstCells]
  · cases hr
end
end Go.Am
namespace Go.Am
section
variable {P : Program} {ρ : Nat → FuncId} {G : Gho} {pw : Pw} {base : Nat} {h h' : H} {w : World} {e : Env} {act : Act} {v : AV}
theorem notInt_run {t : TypeId} (h : notInt P t = true) (w : World) : ∃ d, (underlying t).run P w = .ok d w ∧ (d = .string ∨ ∃ e, d = .slice e) := by
  unfold notInt at h
  cases e : P.underlying t with
  | none => simp [e] at h
  | some d => exact ⟨d, run_underlying e w, by rw [e] at h; cases d <;> simp at h ⊢⟩
set_option maxHeartbeats 4000000 in
theorem grow_run {t t' el : TypeId} {ty : TypeId} {k lim : Nat} (hu : P.underlying t = some (.slice el)) (hk : szIs P el k = true) {ie : TypeInfo} (hi : P.info? el = some ie) {zv : Value} (hz : ie.zero = some zv) (hzs : zv.cells.size = k) (hbp : 1 ≤ ie.bytes)
    (hb : (2 * lim + 1000) * ie.bytes ≤ 2 ^ 48) (hni : notInt P t' = true) {p : Option Addr} {len cap n : Nat} {vb : Value} (hlen : (Builtin.lenOf vb).run P w = .ok n w) {old new : List Value}
    (hold : (Builtin.firstCells k len (.slice p len cap)).run P w = .ok old.toArray w) (hnew : (Builtin.firstCells k n vb).run P w = .ok new.toArray w)
    (holdt : ∀ w' : World, w'.heap = w.heap → (Builtin.firstCells k len (.slice p len cap)).run P w' = .ok old.toArray w') (hnewt : ∀ w' : World, w'.heap = w.heap → (Builtin.firstCells k n vb).run P w' = .ok new.toArray w')
    (hgrow : cap < len + n) (hl : len + n ≤ lim) :
    ∃ (cap' : Nat) (w' : World) (rest : List Value), len + n ≤ cap' ∧ rest.length = (cap' - (len + n)) * k ∧ (w'.heap = w.heap.push (.cells (old ++ new ++ rest).toArray el) ∧ World.io w' = World.io w) ∧
      (Builtin.append_ #[t, t'] ty #[.slice p len cap, vb]).run P w = .ok (.slice (some ⟨w.heap.size, 0, none⟩) (len + n) cap') w' := by
  have hs := fun w => run_szIs (P := P) hk w
  obtain ⟨d, hd, hd2⟩ := notInt_run hni w
  have hlim : len + n < 2 ^ 47 := by
    have h1 : (2 * lim + 1000) * 1 ≤ (2 * lim + 1000) * ie.bytes := Nat.mul_le_mul_left _ hbp
    omega
  have hcapn := nextcap_le hgrow
  have hbytes : ¬ (Builtin.nextslicecap (len + n) cap * ie.bytes > 2 ^ 48) := by
    have : Builtin.nextslicecap (len + n) cap * ie.bytes ≤ (2 * lim + 1000) * ie.bytes := Nat.mul_le_mul_right _ (by omega)
    omega
  have hc' : len + n ≤ grownCap w (len + n) cap el := by
    unfold grownCap; exact Nat.le_add_right _ _
  have hzl : (Builtin.zeroCells zv.cells (grownCap w (len + n) cap el - (len + n))).toList = (List.replicate (grownCap w (len + n) cap el - (len + n)) zv.cells.toList).flatten := by
    unfold Builtin.zeroCells; exact zeros_list zv.cells _
  have h1 := holdt w.drew rfl
  have h2 := hnewt w.drew rfl
  have c1 : ¬ (len + n ≤ cap) := by omega
  have h63' : ¬ (9223372036854775807 < ((len : Int) + (n : Int))) := by omega
  have h48' : ¬ (281474976710656 < Builtin.nextslicecap (len + n) cap * ie.bytes) := by omega
  have hsz : (P.info? el).map (·.size) = some k := by
    unfold szIs at hk; simp only [hi, beq_iff_eq] at hk; simp [hi, hk]
  have hsize : ie.size = k := by simpa [hi] using hsz
  refine ⟨grownCap w (len + n) cap el, w.drew.alloc (.cells (old ++ new ++ (Builtin.zeroCells zv.cells (grownCap w (len + n) cap el - (len + n))).toList).toArray el), (Builtin.zeroCells zv.cells (grownCap w (len + n) cap el - (len + n))).toList, hc', ?_, ⟨rfl, rfl⟩, ?_⟩
  · rw [hzl, flat_length (k := k) (fun r hr => by rw [List.eq_of_mem_replicate hr]; simp [hzs])]; simp
  · subst hsize
    rcases hd2 with rfl | ⟨e2, rfl⟩ <;> simp [Builtin.append_, run_underlying hu, hd, sizeOf, typeInfo, zeroValue, hi, hz, hlen, c1, h63', h48', Question.forced, h1, h2, newRow, grownCap] <;> (congr 2; apply Array.ext'; simp)
theorem append_none_sim (r : Rel ρ pw base G h w) {t t' el ty : TypeId} {k : Nat} (hu : P.underlying t = some (.slice el)) (hk : szIs P el k = true) (hni : notInt P t' = true)
    {p : Option Addr} {len cap : Nat} (hc : len ≤ cap) {b : AV} {vb : Value} (hb : RV ρ G b vb) (hr : rowsOf h b = some []) :
    (Builtin.append_ #[t, t'] ty #[.slice p len cap, vb]).run P w = .ok (.slice p len cap) w := by
  obtain ⟨h1, h2⟩ := rows_none (P := P) r hb hr k
  obtain ⟨d, hd, hd2⟩ := notInt_run hni w
  have hs := run_szIs (P := P) hk w
  rcases hd2 with rfl | ⟨e2, rfl⟩ <;> cases p <;> simp [Builtin.append_, run_underlying hu, hd, hs, h1, h2, hc, storeCells]
structure AppT (P : Program) (t t' el : TypeId) (k lim : Nat) : Prop where
  hu : P.underlying t = some (.slice el)
  hk : szIs P el k = true
  hk1 : 1 ≤ k
  hz : ∃ ie zv, P.info? el = some ie ∧ ie.zero = some zv ∧ zv.cells.size = k ∧ 1 ≤ ie.bytes ∧ (2 * lim + 1000) * ie.bytes ≤ 2 ^ 48
  hni : notInt P t' = true
theorem append_full_sim (r : Rel ρ pw base G h w) {t t' el ty : TypeId} {k lim : Nat} (ht : AppT P t t' el k lim) {xs : List (List AV)} {va : Value} (ha : RVC ρ G (.vs true xs) va) {b : AV} {vb : Value} (hb : RV ρ G b vb)
    {y : List AV} {ys : List (List AV)} (hr : rowsOf h b = some (y :: ys)) (hy : y.length = k) (hx : (xs.headD y).length = k) (hl : xs.length + (y :: ys).length ≤ lim) :
    ∃ (w' : World) (rest : List Value) (cap' : Nat) (cells : List Value), (Builtin.append_ #[t, t'] ty #[va, vb]).run P w = .ok (.slice (some ⟨w.heap.size, 0, none⟩) (xs.length + (y :: ys).length) cap') w' ∧
      (w'.heap = w.heap.push (.cells (cells ++ rest).toArray el) ∧ World.io w' = World.io w) ∧ xs.length + (y :: ys).length ≤ cap' ∧ (cells ++ rest).toArray.size = cap' * k ∧ (∀ x ∈ xs ++ y :: ys, x.length = k) ∧
      RVCL ρ G (xs ++ y :: ys).flatten cells := by
  obtain ⟨new, h1, h2, h3, h4, h5⟩ := rows_sim (P := P) r hb hr
  rw [hy] at h2 h5
  obtain ⟨ie, zv, z1, z2, z3, z4, z5⟩ := ht.hz
  -- what stood there
  have hold : ∃ (p : Option Addr) (old : List Value), va = .slice p xs.length xs.length ∧ (∀ x ∈ xs, x.length = k) ∧ RVCL ρ G xs.flatten old ∧
      ∀ w' : World, w'.heap = w.heap → (Builtin.firstCells k xs.length va).run P w' = .ok old.toArray w' := by
    cases xs with
    | nil =>
      cases ha with
      | vsE f p c hf =>
        have := hf rfl; subst this
        refine ⟨p, [], rfl, by simp, .nil, fun w' _ => ?_⟩
        cases p with
        | none => rfl
        | some a => simp [Builtin.firstCells, loadCells, loadCellsFrom]
      | vs f xs k b' off c cells h1 => exact absurd rfl h1
    | cons x xs =>
      obtain ⟨old, g1, g2, g3, g4, g5⟩ := rows_sim (P := P) r (RV.cell _ _ ha) (b := .vs true (x :: xs)) (y := x) (ys := xs) rfl
      have hxk : x.length = k := by simpa using hx
      rw [hxk] at g2 g5
      cases ha with
      | vs f xs k b' off c cells h1 h2 h3 h4 h5 h6 h7 =>
        have := h7 rfl; subst this
        exact ⟨_, old, rfl, g2, g4, g5⟩
  obtain ⟨p, old, rfl, o1, o2, o3⟩ := hold
  obtain ⟨cap', w', rest, g1, g2, g3, g4⟩ := grow_run (P := P) (w := w) (ty := ty) ht.hu ht.hk z1 z2 z3 z4 z5 ht.hni (p := p) (len := xs.length) (cap := xs.length) (n := (y :: ys).length) h1 (o3 w rfl) (h5 w rfl) o3 h5 (by simp) hl
  have hall : ∀ x ∈ xs ++ y :: ys, x.length = k := by
    intro x hx'
    rcases List.mem_append.1 hx' with hx' | hx'
    · exact o1 x hx'
    · exact h2 x hx'
  have hv : RVCL ρ G (xs ++ y :: ys).flatten (old ++ new) := by rw [List.flatten_append]; exact o2.append h4
  refine ⟨w', rest, cap', old ++ new, g4, g3, g1, ?_, hall, hv⟩
  have hlen := hv.length_eq
  rw [flat_length hall, List.length_append] at hlen
  rw [List.size_toArray, List.length_append, ← hlen, g2, ← Nat.add_mul]
  congr 1; omega
theorem append_ref_sim (r : Rel ρ pw base G h w) {t t' el ty : TypeId} {k lim : Nat} (ht : AppT P t t' el k lim) {o len k' : Nat} {va : Value} (ha : RVC ρ G (.ref o k 0 len) va) {rows : List (List AV)} (ho : h.get o = some (.arr k' rows)) {b : AV} {vb : Value} (hb : RV ρ G b vb)
    {y : List AV} {ys : List (List AV)} (hr : rowsOf h b = some (y :: ys)) (hy : y.length = k) (hlen : len ≤ rows.length) (hl : len + (y :: ys).length ≤ lim) (hbase : base ≤ o) :
    ∃ (G' : Gho) (v' : Value) (w' : World), Ext pw h ((h.kill o).new (.arr k (rows.take len ++ y :: ys))) G G' ∧ (Builtin.append_ #[t, t'] ty #[va, vb]).run P w = .ok v' w' ∧ RVC ρ G' (.ref h.next k 0 (len + (y :: ys).length)) v' ∧
      Rel ρ pw base G' ((h.kill o).new (.arr k (rows.take len ++ y :: ys))) w' := by
  obtain ⟨new, h1, h2, h3, h4, h5⟩ := rows_sim (P := P) r hb hr
  rw [hy] at h2 h5
  obtain ⟨ie, zv, z1, z2, z3, z4, z5⟩ := ht.hz
  cases ha with
  | ref o off len b' k C hblk hC =>
    obtain ⟨b2, k2, C2, q1, q2⟩ := r.objs o _ ho
    rw [hblk] at q1; cases q1
    obtain ⟨z, hz⟩ := q2.isSome
    rw [hz] at q2
    cases z with
    | cells c e fr =>
      obtain ⟨e1, e2, e3, e4, e5, e6, e7⟩ := q2
      subst e1
      rw [Nat.zero_add] at hC
      rw [Nat.zero_mul, Nat.sub_zero]
      have hm : len * k' ≤ rows.length * k' := Nat.mul_le_mul_right _ hlen
      have hm2 : rows.length * k' ≤ C * k' := Nat.mul_le_mul_right _ e4
      have hcl : c.toList.length = c.size := by simp
      have hold : RVCL ρ G (rows.take len).flatten (c.toList.take (len * k')) := by
        rw [flat_take e5]
        have := e6.take (len * k')
        rwa [List.take_take, Nat.min_eq_left hm] at this
      have hall : ∀ x ∈ rows.take len ++ y :: ys, x.length = k' := by
        intro x hx'
        rcases List.mem_append.1 hx' with hx' | hx'
        · exact e5 x (List.mem_of_mem_take hx')
        · exact h2 x hx'
      have htl : (rows.take len ++ y :: ys).length = len + (y :: ys).length := by simp; omega
      have hv : RVCL ρ G (rows.take len ++ y :: ys).flatten (c.toList.take (len * k') ++ new) := by rw [List.flatten_append]; exact hold.append h4
      have hvl := hv.length_eq
      rw [flat_length hall, htl, List.length_append, List.length_take, Nat.min_eq_left (by omega), Nat.add_mul] at hvl
      have hnl : new.length = (y :: ys).length * k' := by omega
      have hkill := r.kill o
      have hfree : ∀ o2 x k2 C2, (h.kill o).get o2 = some x → G.blk o2 ≠ some (b', k2, C2) := by
        intro o2 x k2 C2 g1 g2
        rw [H.get_kill] at g1
        by_cases e0 : o2 = o
        · rw [if_pos e0] at g1; cases g1
        · rw [if_neg e0] at g1
          exact e0 (r.inj o2 o x _ b' k2 C2 k' C g1 ho g2 hblk)
      by_cases hroom : len + (y :: ys).length ≤ C
      · -- in place
        have hm3 : (len + (y :: ys).length) * k' ≤ C * k' := Nat.mul_le_mul_right _ hroom
        rw [Nat.add_mul] at hm3
        have hst := run_storeCells_free P b' (len * k') e fr c.size (fun i hi => e7.out i hi) new 0 c w rfl hz (by simp only [Nat.add_zero]; omega) h4.one
        simp only [Nat.add_zero] at hst
        obtain ⟨d, hd, hd2⟩ := notInt_run ht.hni w
        have hs := run_szIs (P := P) ht.hk w
        have hrun : (Builtin.append_ #[t, t'] ty #[.slice (some ⟨b', 0, none⟩) len C, vb]).run P w = .ok (.slice (some ⟨b', 0, none⟩) (len + (y :: ys).length) C)
            (w.setRow b' (c.toList.take (len * k') ++ new ++ c.toList.drop (len * k' + new.length)).toArray) := by
          have hroom' : len + (ys.length + 1) ≤ C := by simpa using hroom
          have h1' := h1
          have h5' := h5 w rfl
          simp only [List.length_cons] at h1' h5'
          rcases hd2 with rfl | ⟨e2', rfl⟩ <;> simp [Builtin.append_, run_underlying ht.hu, hd, hs, h1', hroom', h5', add_plain, hst]
        have hsz2 : (c.toList.take (len * k') ++ new ++ c.toList.drop (len * k' + new.length)).toArray.size = c.size := by
          rw [List.size_toArray]; simp only [List.length_append, List.length_take, List.length_drop]; omega
        have hle : G.le (G.add (h.kill o).next (b', k', C)) := Gho.le_add hkill.blk_next
        refine ⟨G.add h.next (b', k', C), _, _, (let q := Ext.add (h := h.kill o) pw (.arr k' (rows.take len ++ y :: ys)) (z := (b', k', C)) hkill.blk_next (r.pwd o _ _ _ _ hbase ho hblk); ⟨q.le, q.imm, q.blk, q.next, q.fr⟩), hrun, ?_, hkill.adopt _ b' k' C (.cells (c.toList.take (len * k') ++ new ++ c.toList.drop (len * k' + new.length)).toArray e fr) hfree (r.disj o _ _ _ _ ho hblk) (r.pwd o _ _ _ _ hbase ho hblk) ?_ ?_⟩
        · have := RVC.ref (ρ := ρ) (G := G.add h.next (b', k', C)) h.next 0 (len + (y :: ys).length) b' k' C (by simp [Gho.add]) (by omega)
          simpa using this
        · intro a
          by_cases hab : a = b'
          · subst hab; rw [if_pos rfl]; exact setRow_heap w a c _ e fr hz
          · rw [if_neg hab]; exact setRow_other w b' a _ hab
        · refine ⟨rfl, e2, by rw [hsz2]; exact e3, by rw [htl]; exact hroom, hall, ?_, by rw [hsz2]; exact e7⟩
          rw [List.toList_toArray, htl, Nat.add_mul, List.take_left' (by simp only [List.length_append, List.length_take]; omega)]
          exact hv.mono hle
      · -- in a new block
        have hof : ∀ w' : World, w'.heap = w.heap → (Builtin.firstCells k' len (.slice (some ⟨b', 0, none⟩) len C)).run P w' = .ok (c.toList.take (len * k')).toArray w' := by
          intro w' hw
          simp only [Builtin.firstCells]
          have := run_loadCells_at (P := P) (w := w') (by rw [hw]; exact hz) 0 (len * k') (by omega)
          simpa using this
        obtain ⟨cap', w', rest, g1, g2, g3, g4⟩ := grow_run (P := P) (w := w) (ty := ty) ht.hu ht.hk z1 z2 z3 z4 z5 ht.hni (p := some ⟨b', 0, none⟩) (len := len) (cap := C) (n := (y :: ys).length) h1 (hof w rfl) (h5 w rfl) hof h5 (by omega) hl
        have hsz3 : (c.toList.take (len * k') ++ new ++ rest).toArray.size = cap' * k' := by
          rw [List.size_toArray]
          simp only [List.length_append, List.length_take]
          rw [g2, hnl, Nat.min_eq_left (by omega), ← Nat.add_mul, ← Nat.add_mul]
          congr 1; omega
        obtain ⟨n1, n2, n3⟩ := new_sim (ρ := ρ) hkill k' cap' (rows.take len ++ y :: ys) (c.toList.take (len * k') ++ new ++ rest).toArray el (0, 0) e2 hsz3 (by rw [htl]; exact g1) hall
          (by
            rw [List.toList_toArray, htl, Nat.add_mul, List.take_left' (by simp only [List.length_append, List.length_take]; omega)]
            exact hv) (.zero _) g3.1 g3.2
        refine ⟨_, _, _, ⟨n1.le, n1.imm, n1.blk, n1.next, n1.fr⟩, g4, ?_, n3⟩
        have := RVC.ref (ρ := ρ) (h.kill o).next 0 (len + (y :: ys).length) _ k' cap' n2 (by omega)
        simpa using this
    | _ => exact q2.elim
end
end Go.Am
namespace Go.Am
section
variable {P : Program} {ρ : Nat → FuncId} {G : Gho} {pw : Pw} {base : Nat} {h h' : H} {w : World} {e : Env} {act : Act} {v : AV}
theorem utf8_eq (r : Int) : bytesOf (Utf8.encode r) = utf8 r := by
  have key : ∀ c : Nat, c ≤ 1114111 →
      bytesOf (if c < 0x80 then ⟨#[UInt8.ofNat c]⟩
        else if c < 0x800 then ⟨#[UInt8.ofNat (0xC0 + c / 64), UInt8.ofNat (0x80 + c % 64)]⟩
        else if c < 0x10000 then ⟨#[UInt8.ofNat (0xE0 + c / 4096), UInt8.ofNat (0x80 + c / 64 % 64), UInt8.ofNat (0x80 + c % 64)]⟩
        else ⟨#[UInt8.ofNat (0xF0 + c / 262144), UInt8.ofNat (0x80 + c / 4096 % 64), UInt8.ofNat (0x80 + c / 64 % 64), UInt8.ofNat (0x80 + c % 64)]⟩) =
      if c < 0x80 then [c]
        else if c < 0x800 then [0xC0 + c / 64, 0x80 + c % 64]
        else if c < 0x10000 then [0xE0 + c / 4096, 0x80 + c / 64 % 64, 0x80 + c % 64]
        else [0xF0 + c / 262144, 0x80 + c / 4096 % 64, 0x80 + c / 64 % 64, 0x80 + c % 64] := by
    intro c hle
    split
    · simp [bytesOf]; omega
    · split
      · simp [bytesOf]; omega
      · split
        · simp [bytesOf]; omega
        · simp [bytesOf]; omega
  refine key _ ?_
  split
  · rename_i h1; simp [Utf8.valid] at h1; omega
  · simp [Utf8.runeError]
theorem getD_drop (s : ByteArray) (pos k : Nat) : ((bytesOf s).drop pos).getD k 0 = (s.get! (pos + k)).toNat := by
  simp only [List.getD_eq_getElem?_getD, List.getElem?_drop, bytesOf, List.getElem?_map]
  by_cases hk : pos + k < s.size
  · have e1 : s.data.toList[pos + k]? = some (s.data[pos + k]'hk) := by
      rw [Array.getElem?_toList, Array.getElem?_eq_getElem hk]
    rw [e1]
    simp [ByteArray.get!, hk]
  · have e1 : s.data.toList[pos + k]? = none := by
      rw [List.getElem?_eq_none]; simp; exact Nat.le_of_not_lt hk
    rw [e1]
    have : s.get! (pos + k) = default := by
      simp only [ByteArray.get!]
      exact getElem!_neg s.data (pos + k) hk
    rw [this]; rfl
theorem decode_eq (s : ByteArray) (pos : Nat) : Utf8.decode s pos = decode ((bytesOf s).drop pos) := by
  have hl : ((bytesOf s).drop pos).length = s.size - pos := by simp [bytesOf_length]
  have c : ∀ k, decide (pos + k < s.size) = decide (k < ((bytesOf s).drop pos).length) := by
    intro k; rw [hl]; congr 1; exact propext ⟨fun h => by omega, fun h => by omega⟩
  have hv : ∀ n : Nat, Utf8.valid (n : Int) = (decide (n < 55296) || (decide (57344 ≤ n) && decide (n ≤ 1114111))) := by
    intro n
    simp only [Utf8.valid]
    rw [Bool.eq_iff_iff]; simp
    omega
  unfold Utf8.decode decode
  simp only [getD_drop, c, Utf8.runeError, hv]
theorem decode_width {s : List Nat} (hs : s ≠ []) : (decode s).2 ≤ s.length := by
  have h0 : 0 < s.length := by cases s with | nil => exact absurd rfl hs | cons => simp
  unfold decode
  simp only [Bool.and_eq_true, beq_iff_eq, decide_eq_true_eq]
  repeat' split
  all_goals omega
theorem allBytes_sim {rows : List (List AV)} {cells : List Value} {s : List Nat} (hk : ∀ r ∈ rows, r.length = 1) (hr : RVCL ρ G rows.flatten cells) (ha : allBytes rows = some s) :
    ∃ bs : List UInt8, s = bs.map UInt8.toNat ∧ cells = (bs.map fun b => (b.toNat : Int)).map (Value.int .u8) := by
  induction rows generalizing cells s with
  | nil => simp [allBytes] at ha; subst ha; cases hr; exact ⟨[], rfl, rfl⟩
  | cons r rows ih =>
    simp only [allBytes] at ha
    split at ha
    · rename_i b bs hb hbs
      cases ha
      unfold byteOf at hb
      split at hb
      · rename_i n
        split at hb
        · rename_i hn
          cases hb
          rw [List.flatten_cons] at hr
          cases hr with
          | cons _ v _ vs h1 h2 =>
            obtain ⟨bs', h3, h4⟩ := ih (fun r hr => hk r (by simp [hr])) h2 hbs
            cases h1
            refine ⟨UInt8.ofNat n.toNat :: bs', ?_, ?_⟩
            · have : (UInt8.ofNat n.toNat).toNat = n.toNat := by simp; omega
              rw [List.map_cons, this, h3]
            · have : ((UInt8.ofNat n.toNat).toNat : Int) = n := by simp; omega
              rw [List.map_cons, List.map_cons, this, h4]
        · cases hb
      · cases hb
    · cases ha
def AV.isSl : AV → Bool
  | .vs _ _ | .ref _ _ _ _ => true
  | _ => false
theorem b2s_sim (r : Rel ρ pw base G h w) {src dst : TypeId} (ht : okConv P src dst .b2s = true) {a : AV} {va : Value} (ha : RV ρ G a va) (hsl : a.isSl = true) {s : List Nat} (hs : (rowsOf h a).bind allBytes = some s) :
    ∃ v', (convert src dst va).run P w = .ok v' w ∧ RV ρ G (.str s) v' := by
  have htt : ∃ e, P.underlying src = some (.slice e) ∧ P.underlying e = some (.int .u8) ∧ P.underlying dst = some .string := by
    simp only [okConv] at ht
    split at ht
    · rename_i e h1 h2
      split at ht
      · rename_i h3; exact ⟨e, h1, h3, h2⟩
      · cases ht
    · cases ht
  obtain ⟨e, h1, h2, h3⟩ := htt
  cases hrows : rowsOf h a with
  | none => simp [hrows] at hs
  | some rows =>
    simp only [hrows, Option.bind_some] at hs
    have hshape : ∃ p n c, va = .slice p n c := by
      cases ha with
      | cell _ _ ha => cases ha <;> first | exact ⟨_, _, _, rfl⟩ | simp [AV.isSl] at hsl
      | _ => simp [AV.isSl] at hsl
    cases rows with
    | nil =>
      simp only [allBytes, Option.some.injEq] at hs; subst hs
      obtain ⟨r1, r2⟩ := rows_none (P := P) r ha hrows 1
      obtain ⟨p, n, c, rfl⟩ := hshape
      simp only [Builtin.lenOf, Sem.run_pure, Result.ok.injEq, and_true] at r1
      subst r1
      refine ⟨.string ByteArray.empty, ?_, .cell _ _ (.str ByteArray.empty)⟩
      rw [run_convert_bytes_string w src dst e p 0 c h1 h2 h3]
      cases p with
      | none => rfl
      | some a =>
        have := run_bytesToString (P := P) w a 0 c [] (by simp [loadCells, loadCellsFrom])
        simpa using this
    | cons y ys =>
      obtain ⟨cells, r1, r2, r3, r4, r5⟩ := rows_sim (P := P) r ha hrows
      have hy : y.length = 1 := by
        simp only [allBytes] at hs
        split at hs
        · rename_i b bs hb hbs
          unfold byteOf at hb
          split at hb
          · rfl
          · cases hb
        · cases hs
      rw [hy] at r2 r5
      obtain ⟨bs, q1, q2⟩ := allBytes_sim r2 r4 hs
      obtain ⟨p, n, c, rfl⟩ := hshape
      simp only [Builtin.lenOf, Sem.run_pure, Result.ok.injEq, and_true] at r1
      subst r1
      have r6 := r5 w rfl
      have hp : ∃ a, p = some a := by
        cases p with
        | some a => exact ⟨a, rfl⟩
        | none =>
          exfalso
          simp only [Builtin.firstCells, Sem.run_pure, Result.ok.injEq, and_true] at r6
          have h0 : cells = [] := by simpa using congrArg Array.toList r6.symm
          have := r4.length_eq
          rw [h0, List.flatten_cons, List.length_append, hy] at this
          simp at this
      obtain ⟨a, rfl⟩ := hp
      simp only [Builtin.firstCells, Nat.mul_one] at r6
      refine ⟨_, by rw [run_convert_bytes_string w src dst e (some a) _ c h1 h2 h3]; exact run_bytesToString w a _ c (bs.map fun b => (b.toNat : Int)) (by rw [r6, q2]), ?_⟩
      rw [foldl_push_byteCells]
      have := RVC.str (ρ := ρ) (G := G) ⟨(ByteArray.empty).data ++ bs.toArray⟩
      have e1 : bytesOf ⟨(ByteArray.empty).data ++ bs.toArray⟩ = s := by
        show ((#[] ++ bs.toArray : Array UInt8)).toList.map UInt8.toNat = s
        rw [q1]; simp
      rw [e1] at this
      exact .cell _ _ this
theorem bytesRow_take (s : ByteArray) (C : Nat) : (bytesRow s C).toList.take s.size = s.data.toList.map fun b => Value.int .u8 b.toNat := by
  unfold bytesRow
  simp
theorem Rel.of_get {h h2 : H} (hg : ∀ p, h2.get p = h.get p) (hn : h2.next = h.next) (r : Rel ρ pw base G h w) : Rel ρ pw base G h2 w := by
  refine ⟨fun o x ho => r.objs o x (by rw [← hg]; exact ho), fun o o' x x' b k C k' C' h1 h2 => r.inj o o' x x' b k C k' C' (by rw [← hg]; exact h1) (by rw [← hg]; exact h2), r.imm,
    fun o x b k C h1 => r.disj o x b k C (by rw [← hg]; exact h1), fun o x ho => by rw [hn]; exact r.ltB o x ho, r.pwh, fun o x b k C hb h1 => r.pwd o x b k C hb (by rw [← hg]; exact h1), r.io, r.blkH⟩
theorem mark_sim (r : Rel ρ pw base G h w) {t el : TypeId} (hu : P.underlying t = some (.slice el)) (he : P.underlying el = some (.int .u8)) {o k off n k' : Nat} {rows : List (List AV)} {va : Value}
    (ha : RV ρ G (.ref o k off n) va) (ho : h.get o = some (.arr k' rows)) (hb : base ≤ o) (hk : k = 1) :
    ∃ w', (convert t t va).run P w = .ok va w' ∧ Rel ρ pw base G h w' := by
  cases ha with
  | cell _ _ ha => cases ha with
    | ref _ _ _ b _ C hblk hle =>
      obtain ⟨b', k1, C', h1, h2⟩ := r.objs o _ ho
      rw [hblk] at h1; cases h1
      obtain ⟨z, hz⟩ := h2.isSome
      rw [hz] at h2
      cases z with
      | cells c e fr =>
        obtain ⟨e1, e2, e3, e4, e5, e6, e7⟩ := h2
        subst e1
        have hsh : w.shape? b = some (e, c.size) := by simp [World.shape?, hz]
        have hget : ∀ p, h.get p = (h.put o (.arr k' rows)).get p := by
          intro p
          rw [H.get_put]
          by_cases q : p = o
          · rw [if_pos q, q, ho]
          · rw [if_neg q]
        refine ⟨w.freeze ⟨b, c.size, none⟩ 1, ?_, Rel.of_get (h := h.put o (.arr k' rows)) (h2 := h) hget rfl (r.put o _ (.arr k' rows) b k' C (.cells c e (if (fr.1 == fr.2) = true then (c.size, c.size + 1) else (min fr.1 c.size, max fr.2 (c.size + 1)))) hb ho hblk ?_ ?_)⟩
        · simp [convert, run_underlying hu, run_underlying he, markStringish, hsh]
        · intro a
          obtain ⟨f1, f2⟩ := fr
          simp only [World.freeze, Nat.one_ne_zero, if_false, Array.getElem?_modify]
          by_cases hab : a = b
          · subst hab
            simp [hz]
          · rw [if_neg hab, if_neg (fun e => hab e.symm)]
        · refine ⟨rfl, e2, e3, e4, e5, e6, ?_⟩
          split
          · exact .inr ⟨hk, Nat.le_refl _⟩
          · rename_i hne
            rcases e7 with q | q
            · exact absurd (by simpa using q) hne
            · exact .inr ⟨hk, by simp only; omega⟩
      | _ => exact h2.elim
end
end Go.Am
