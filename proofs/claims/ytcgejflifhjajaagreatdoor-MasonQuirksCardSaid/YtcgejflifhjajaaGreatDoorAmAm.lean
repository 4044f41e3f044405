/- Parts of an abstract machine and its proofs: AmAm. -/
import GoSem.Core.Code
import GoSem.Core.View

set_option linter.unusedSimpArgs false
set_option linter.unusedVariables false
namespace Go.Am
inductive AV where
  | int (k : IntKind) (n : Int)
  | bool (b : Bool)
  | str (s : List Nat)
  | nilp
  | ptr (o i off : Nat)
  | rptr (cs : List AV)
  | vs (full : Bool) (xs : List (List AV))
  | ref (o k off len : Nat)
  | fn (f : Nat) (caps : List AV)
  | nilfn
  | agg (cs : List AV)
  | tup (vs : List AV)
  | undef
  | any
  deriving Inhabited
def AV.okv : AV → Bool
  | .tup _ | .undef | .any => false
  | _ => true
def AV.isAgg : AV → Bool
  | .agg _ => true
  | _ => false
def AV.cells : AV → List AV
  | .agg cs => cs
  | v => [v]
inductive Obj where
  | arr (k : Nat) (rows : List (List AV))
  | iter (rest : List Nat) (pos : Nat)
  | bld (t : Nat) (a b : AV)
  deriving Inhabited
inductive Tr where
  | lf
  | nd (v : Option Obj) (l r : Tr)
  deriving Inhabited
def Tr.get : Tr → Nat → Option Obj
  | .lf, _ => none
  | .nd v l r, n => bif n.beq 0 then v else bif (n % 2).beq 1 then l.get (n / 2) else r.get (n / 2 - 1)
def Tr.top : Tr → Option Obj
  | .lf => none
  | .nd v _ _ => v
def Tr.left : Tr → Tr
  | .lf => .lf
  | .nd _ l _ => l
def Tr.right : Tr → Tr
  | .lf => .lf
  | .nd _ _ r => r
def Tr.setF : Nat → Tr → Nat → Option Obj → Tr
  | 0, t, _, _ => t
  | f + 1, t, n, x =>
    bif n.beq 0 then .nd x t.left t.right
    else bif (n % 2).beq 1 then .nd t.top (Tr.setF f t.left (n / 2) x) t.right
    else .nd t.top t.left (Tr.setF f t.right (n / 2 - 1) x)
def Tr.set (t : Tr) (n : Nat) (x : Option Obj) : Tr := Tr.setF (n + 1) t n x
structure H where
  next : Nat
  tr : Tr
  deriving Inhabited
def H.emp : H := ⟨0, .lf⟩
def H.get (h : H) (o : Nat) : Option Obj := h.tr.get o
def H.put (h : H) (o : Nat) (x : Obj) : H := ⟨h.next, h.tr.set o (some x)⟩
def H.kill (h : H) (o : Nat) : H := ⟨h.next, h.tr.set o none⟩
def H.new (h : H) (x : Obj) : H := ⟨h.next + 1, h.tr.set h.next (some x)⟩
theorem nbeq (a b : Nat) : a.beq b = decide (a = b) := by
  cases h : a.beq b with
  | true => exact (decide_eq_true (Nat.eq_of_beq_eq_true h)).symm
  | false => exact (decide_eq_false (Nat.ne_of_beq_eq_false h)).symm
theorem Tr.get_nd (v : Option Obj) (l r : Tr) (n : Nat) :
    (Tr.nd v l r).get n = if n = 0 then v else if n % 2 = 1 then l.get (n / 2) else r.get (n / 2 - 1) := by
  simp [Tr.get, nbeq, Bool.cond_decide]
theorem Tr.get_parts (t : Tr) (n : Nat) : t.get n = if n = 0 then t.top else if n % 2 = 1 then t.left.get (n / 2) else t.right.get (n / 2 - 1) := by
  cases t with
  | lf => simp [Tr.get, Tr.top, Tr.left, Tr.right]
  | nd v l r => exact Tr.get_nd v l r n
theorem Tr.get_setF (f : Nat) : ∀ (t : Tr) (n m : Nat) (x : Option Obj), n < f → (Tr.setF f t n x).get m = if m = n then x else t.get m := by
  induction f with
  | zero => intro t n m x h; omega
  | succ f ih =>
    intro t n m x h
    simp only [Tr.setF, nbeq, Bool.cond_decide]
    by_cases h0 : n = 0
    · subst h0
      rw [if_pos rfl, Tr.get_nd]
      by_cases hm : m = 0
      · simp [hm]
      · rw [if_neg hm, if_neg hm, Tr.get_parts t m, if_neg hm]
    · rw [if_neg h0]
      by_cases h1 : n % 2 = 1
      · rw [if_pos h1, Tr.get_nd, Tr.get_parts t m]
        by_cases hm : m = 0
        · subst hm; rw [if_pos rfl, if_neg (fun e => h0 e.symm), if_pos rfl]
        · rw [if_neg hm, if_neg hm]
          by_cases hm1 : m % 2 = 1
          · rw [if_pos hm1, if_pos hm1, ih _ _ _ _ (by omega)]
            by_cases e : m = n
            · subst e; simp
            · rw [if_neg (by omega), if_neg e]
          · rw [if_neg hm1, if_neg hm1, if_neg (fun (e : m = n) => hm1 (by rw [e]; exact h1))]
      · rw [if_neg h1, Tr.get_nd, Tr.get_parts t m]
        by_cases hm : m = 0
        · subst hm; rw [if_pos rfl, if_neg (fun e => h0 e.symm), if_pos rfl]
        · rw [if_neg hm, if_neg hm]
          by_cases hm1 : m % 2 = 1
          · rw [if_pos hm1, if_pos hm1, if_neg (fun (e : m = n) => h1 (by rw [← e]; exact hm1))]
          · rw [if_neg hm1, if_neg hm1, ih _ _ _ _ (by omega)]
            by_cases e : m = n
            · subst e; simp
            · rw [if_neg (by omega), if_neg e]
@[simp] theorem Tr.get_set (t : Tr) (n m : Nat) (x : Option Obj) : (t.set n x).get m = if m = n then x else t.get m :=
  Tr.get_setF (n + 1) t n m x (Nat.lt_succ_self n)
@[simp] theorem H.get_put (h : H) (o p : Nat) (x : Obj) : (h.put o x).get p = if p = o then some x else h.get p := by simp [H.get, H.put]
@[simp] theorem H.get_kill (h : H) (o p : Nat) : (h.kill o).get p = if p = o then none else h.get p := by simp [H.get, H.kill]
@[simp] theorem H.get_new (h : H) (p : Nat) (x : Obj) : (h.new x).get p = if p = h.next then some x else h.get p := by simp [H.get, H.new]
@[simp] theorem H.next_put (h : H) (o : Nat) (x : Obj) : (h.put o x).next = h.next := rfl
@[simp] theorem H.next_kill (h : H) (o : Nat) : (h.kill o).next = h.next := rfl
@[simp] theorem H.next_new (h : H) (x : Obj) : (h.new x).next = h.next + 1 := rfl
@[simp] theorem H.get_emp (o : Nat) : H.emp.get o = none := rfl
@[simp] theorem H.next_emp : H.emp.next = 0 := rfl
inductive AO where
  | s (n : Nat)
  | c (v : AV)
  deriving Inhabited
inductive CK where
  | pure | ro | wr
  deriving DecidableEq, Inhabited
inductive SK where
  | int | str | bool
  deriving DecidableEq, Inhabited
inductive EK where
  | bool | ptr | fn
  deriving DecidableEq, Inhabited
inductive CV where
  | i2i (k : IntKind) | i2s | s2s | s2b (r : Bool) | b2s | mark
  deriving Inhabited
inductive AOp where
  | mov (a : AO)
  | pick (c a b : AO)
  | alloc (z : List AV)
  | box (a : AO)
  | build (z : List AV) (ps : List (Nat × Nat × AO))
  | lit (r : Bool) (k : Nat) (z : List AV) (n : Nat) (ps : List (Nat × AO))
  | load (agg : Bool) (sz : Nat) (a : AO)
  | store (sz : Nat) (a v : AO)
  | nilchk (a : AO)
  | bin (op : BinOp) (a b : AO)
  | eqk (k : EK) (neg : Bool) (a b : AO)
  | eqc (ks : List SK) (neg : Bool) (a b : AO)
  | un (op : UnOp) (a : AO)
  | conv (c : CV) (a : AO)
  | mkfn (f : Nat) (caps : List AO)
  | mk (r : Bool) (k : Nat) (z : List AV) (len cap : AO)
  | slice (a : AO) (k : Nat) (lo hi mx : Option AO)
  | faddr (a : AO) (off : Nat)
  | field (a : AO) (off : Nat) (agg : Bool) (sz : Nat)
  | iaddr (a i : AO) (k : Nat) (arr : Option Nat)
  | index (a i : AO) (arr : Option (Nat × Nat × Bool))
  | range (a : AO)
  | next (a : AO)
  | extract (a : AO) (i : Nat)
  | call (k : CK) (f : Nat) (args : List AO) (snap : List Bool)
  | callv (k : CK) (f : AO) (args : List AO)
  | append (r : Bool) (k lim : Nat) (a b : AO)
  | len (isS : Bool) (a : AO)
  | min2 (a b : AO)
  | max2 (a b : AO)
  deriving Inhabited
structure AOper where
  dst : Option Nat
  op : AOp
  guard : Option (Nat × Bool)
  deriving Inhabited
inductive Gh where
  | frz (slot : Nat)
  | frzm (slot off : Nat)
  | keep (slots : List Nat)
  | note (op a b : Nat) (l : List Nat)
  deriving Inhabited
inductive ACode where
  | skip
  | region (ops : List (Nat × AOper)) (chk : List (Nat × Nat))
  | seq (a b : ACode)
  | cond (c : AO) (t e : ACode)
  | block (id : Nat) (b : ACode)
  | loop (b : ACode)
  | exit (id : Nat)
  | ret
  | ghost (g : Gh)
  deriving Inhabited
inductive ARes where
  | slot (n : Nat)
  | cell (n : Nat) (agg : Bool) (sz : Nat)
  deriving Inhabited
structure AFun where
  slots : Nat
  res : List ARes
  body : ACode
  deriving Inhabited
inductive AEx where
  | normal | exit (id : Nat) | ret
  deriving DecidableEq, Inhabited
abbrev Env := List AV
def AO.ev (e : Env) : AO → AV
  | .s n => e.getD n .undef
  | .c v => v
def setCells (cs : List AV) (off : Nat) (vs : List AV) : List AV := cs.take off ++ vs ++ cs.drop (off + vs.length)
def fillCells (e : Env) : List AV → List (Nat × Nat × AO) → Option (List AV)
  | cs, [] => some cs
  | cs, (off, sz, x) :: ps =>
    let v := x.ev e
    if v.okv = true ∧ v.cells.length = sz ∧ off + sz ≤ cs.length then fillCells e (setCells cs off v.cells) ps else none
def fillRows (e : Env) (k : Nat) : List (List AV) → List (Nat × AO) → Option (List (List AV))
  | rs, [] => some rs
  | rs, (i, x) :: ps =>
    let v := x.ev e
    if v.okv = true ∧ i < rs.length ∧ v.cells.length = k then fillRows e k (rs.set i v.cells) ps else none
def part (cs : List AV) (off : Nat) (agg : Bool) (sz : Nat) : Option AV :=
  if 1 ≤ sz ∧ off + sz ≤ cs.length then
    if agg then some (.agg ((cs.drop off).take sz)) else (if sz = 1 then cs[off]? else none)
  else none
def row? (h : H) (o i : Nat) : Option (List AV) :=
  match h.get o with
  | some (.arr _ rows) => rows[i]?
  | _ => none
def loadAt (h : H) (agg : Bool) (sz : Nat) : AV → Option AV
  | .ptr o i off => (row? h o i).bind fun r => part r off agg sz
  | .rptr cs => part cs 0 agg sz
  | _ => none
def storeAt (base : Nat) (h : H) (sz : Nat) : AV → AV → Option H
  | .ptr o i off, v =>
    if base ≤ o ∧ v.okv = true ∧ v.cells.length = sz then
      match h.get o with
      | some (.arr k rows) =>
        match rows[i]? with
        | some r => if off + sz ≤ r.length then some (h.put o (.arr k (rows.set i (setCells r off v.cells)))) else none
        | none => none
      | _ => none
    else none
  | _, _ => none
def natOf : AV → Option Nat
  | .int _ n => if 0 ≤ n then some n.toNat else none
  | _ => none
def bytesAV (s : List Nat) : List (List AV) := s.map fun (b : Nat) => [AV.int .u8 (b : Int)]
def byteOf : List AV → Option Nat
  | [.int .u8 n] => if 0 ≤ n ∧ n < 256 then some n.toNat else none
  | _ => none
def allBytes : List (List AV) → Option (List Nat)
  | [] => some []
  | r :: rs => match byteOf r, allBytes rs with
    | some b, some bs => some (b :: bs)
    | _, _ => none
def rowsOf (h : H) : AV → Option (List (List AV))
  | .vs _ xs => some xs
  | .ref o _ off len =>
    match h.get o with
    | some (.arr _ rows) => if off + len ≤ rows.length then some ((rows.drop off).take len) else none
    | _ => none
  | .str s => some (bytesAV s)
  | _ => none
def lenOf : AV → Option Nat
  | .vs _ xs => some xs.length
  | .ref _ _ _ len => some len
  | .str s => some s.length
  | _ => none
def maxInt : Int := 9223372036854775807
def bytesLess : List Nat → List Nat → Bool
  | _, [] => false
  | [], _ :: _ => true
  | a :: x, b :: y => decide (a < b) || ((a == b) && bytesLess x y)
def intBin (op : BinOp) (k : IntKind) (a b : Int) : Option AV :=
  match op with
  | .add => some (.int k (k.wrap (a + b)))
  | .sub => some (.int k (k.wrap (a - b)))
  | .mul => some (.int k (k.wrap (a * b)))
  | .quo => if b = 0 then none else some (.int k (k.wrap (a.tdiv b)))
  | .rem => if b = 0 then none else some (.int k (a.tmod b))
  | .eql => some (.bool (a == b))
  | .neq => some (.bool (a != b))
  | .lss => some (.bool (decide (a < b)))
  | .leq => some (.bool (decide (a ≤ b)))
  | .gtr => some (.bool (decide (a > b)))
  | .geq => some (.bool (decide (a ≥ b)))
  | .and => some (.int k (k.wrap (BitVec.ofInt k.bits a &&& BitVec.ofInt k.bits b).toNat))
  | .or => some (.int k (k.wrap (BitVec.ofInt k.bits a ||| BitVec.ofInt k.bits b).toNat))
  | .xor => some (.int k (k.wrap (BitVec.ofInt k.bits a ^^^ BitVec.ofInt k.bits b).toNat))
  | .andNot => some (.int k (k.wrap (BitVec.ofInt k.bits a &&& ~~~ BitVec.ofInt k.bits b).toNat))
  | _ => none
def strBin (op : BinOp) (a b : List Nat) : Option AV :=
  match op with
  | .add => if ((a.length + b.length : Nat) : Int) ≤ maxInt then some (.str (a ++ b)) else none
  | .eql => some (.bool (a == b))
  | .neq => some (.bool (!(a == b)))
  | .lss => some (.bool (bytesLess a b))
  | .leq => some (.bool (bytesLess a b || a == b))
  | .gtr => some (.bool (!(bytesLess a b || a == b)))
  | .geq => some (.bool (!bytesLess a b))
  | _ => none
def eqAV : EK → AV → AV → Option Bool
  | .bool, .bool a, .bool b => some (a == b)
  | .ptr, .nilp, .nilp => some true
  | .ptr, .nilp, .ptr _ _ _ | .ptr, .ptr _ _ _, .nilp | .ptr, .nilp, .rptr _ | .ptr, .rptr _, .nilp => some false
  | .fn, .nilfn, .nilfn => some true
  | .fn, .nilfn, .fn _ _ | .fn, .fn _ _, .nilfn => some false
  | _, _, _ => none
def binAV (op : BinOp) (x y : AV) : Option AV :=
  match op, x, y with
  | .shl, .int k a, .int _ b => if b < 0 then none else some (.int k (k.wrap (a * 2 ^ (min b.toNat k.bits))))
  | .shr, .int k a, .int _ b => if b < 0 then none else some (.int k (a.fdiv (2 ^ (min b.toNat k.bits))))
  | op, .int k a, .int k' b => if k = k' then intBin op k a b else none
  | op, .str a, .str b => strBin op a b
  | _, _, _ => none
def eqCells : List SK → List AV → List AV → Option Bool
  | [], [], [] => some true
  | .int :: ks, .int k a :: xs, .int k' b :: ys => if k = k' then (eqCells ks xs ys).map fun r => (a == b) && r else none
  | .str :: ks, .str a :: xs, .str b :: ys => (eqCells ks xs ys).map fun r => (a == b) && r
  | .bool :: ks, .bool a :: xs, .bool b :: ys => (eqCells ks xs ys).map fun r => (a == b) && r
  | _, _, _ => none
def utf8 (r : Int) : List Nat :=
  let c := if (0 ≤ r && r < 0xD800) || (0xE000 ≤ r && r ≤ 0x10FFFF) then r.toNat else 0xFFFD
  if c < 0x80 then [c]
  else if c < 0x800 then [0xC0 + c / 64, 0x80 + c % 64]
  else if c < 0x10000 then [0xE0 + c / 4096, 0x80 + c / 64 % 64, 0x80 + c % 64]
  else [0xF0 + c / 262144, 0x80 + c / 4096 % 64, 0x80 + c / 64 % 64, 0x80 + c % 64]
def decode (s : List Nat) : Nat × Nat :=
  let at' (k : Nat) : Nat := s.getD k 0
  let cont (k : Nat) : Bool := decide (k < s.length) && (at' k / 64 == 2)
  let b0 := at' 0
  if b0 < 0x80 then (b0, 1)
  else if b0 / 32 == 6 && cont 1 then
    let c := (b0 % 32) * 64 + at' 1 % 64
    if c ≥ 0x80 then (c, 2) else (0xFFFD, 1)
  else if b0 / 16 == 14 && cont 1 && cont 2 then
    let c := (b0 % 16) * 4096 + (at' 1 % 64) * 64 + at' 2 % 64
    if c ≥ 0x800 && ((c < 0xD800) || (0xE000 ≤ c && c ≤ 0x10FFFF)) then (c, 3) else (0xFFFD, 1)
  else if b0 / 8 == 30 && cont 1 && cont 2 && cont 3 then
    let c := (b0 % 8) * 262144 + (at' 1 % 64) * 4096 + (at' 2 % 64) * 64 + at' 3 % 64
    if c ≥ 0x10000 && ((c < 0xD800) || (0xE000 ≤ c && c ≤ 0x10FFFF)) then (c, 4) else (0xFFFD, 1)
  else (0xFFFD, 1)
def optNat (e : Env) (d : Nat) : Option AO → Option Nat
  | none => some d
  | some x => natOf (x.ev e)
def sliceAV (e : Env) (k : Nat) (v : AV) (lo hi mx : Option AO) : Option AV := do
  let l ← lenOf v
  let a ← optNat e 0 lo
  let b ← optNat e l hi
  if a ≤ b ∧ b ≤ l then
    match v, mx with
    | .str s, none => if k = 0 then some (.str ((s.drop a).take (b - a))) else none
    | .vs full xs, none => if 1 ≤ k ∧ (xs.headD (List.replicate k .undef)).length = k then some (.vs (full && b == l) ((xs.drop a).take (b - a))) else none
    | .vs _ xs, some m => do
      let c ← natOf (m.ev e)
      if b ≤ c ∧ c ≤ l ∧ 1 ≤ k ∧ (xs.headD (List.replicate k .undef)).length = k then some (.vs (c == b) ((xs.drop a).take (b - a))) else none
    | .ref o k' off _, none => if k' = k ∧ 1 ≤ k then (if a = b ∧ 0 < a then some (.vs false []) else some (.ref o k (off + a) (b - a))) else none
    | .ref _ _ _ _, some m => do
      let c ← natOf (m.ev e)
      if a = b ∧ b ≤ c ∧ c ≤ l ∧ 1 ≤ k then some (.vs (c == b) []) else none
    | _, _ => none
  else none
mutual
def frz : Nat → Nat → H → AV → Option (AV × H)
  | 0, _, _, _ => none
  | f + 1, base, h, .ref o _ off len =>
    match h.get o with
    | some (.arr _ rows) =>
      if base ≤ o ∧ off + len ≤ rows.length then
        match frzRows f base (h.kill o) rows with
        | some (rs, h) => some (.vs false ((rs.drop off).take len), h)
        | none => none
      else none
    | _ => none
  | f + 1, base, h, .agg cs =>
    match frzCells f base h cs with
    | some (cs, h) => some (.agg cs, h)
    | none => none
  | _ + 1, _, h, v => some (v, h)
def frzCells : Nat → Nat → H → List AV → Option (List AV × H)
  | 0, _, _, _ => none
  | _ + 1, _, h, [] => some ([], h)
  | f + 1, base, h, c :: cs =>
    match frz f base h c with
    | some (c, h) => match frzCells f base h cs with
      | some (cs, h) => some (c :: cs, h)
      | none => none
    | none => none
def frzRows : Nat → Nat → H → List (List AV) → Option (List (List AV) × H)
  | 0, _, _, _ => none
  | _ + 1, _, h, [] => some ([], h)
  | f + 1, base, h, r :: rs =>
    match frzCells f base h r with
    | some (r, h) => match frzRows f base h rs with
      | some (rs, h) => some (r :: rs, h)
      | none => none
    | none => none
end
def frzFuel : Nat := 1000000000000
def faddrAV (off : Nat) : AV → Option AV
  | .ptr o i f => some (.ptr o i (f + off))
  | .rptr cs => some (.rptr (cs.drop off))
  | _ => none
def ghost (base : Nat) (g : Gh) (e : Env) (h : H) : Option (Env × H) :=
  match g with
  | .frz n => match frz frzFuel base h (e.getD n .undef) with
    | some (v, h) => some (e.set n v, h)
    | none => none
  | .frzm n off => match faddrAV off (e.getD n .undef) with
    | some p => match loadAt h false 1 p with
      | some v => match frz frzFuel base h v with
        | some (v, h) => (storeAt base h 1 p v).map fun h => (e, h)
        | none => none
      | none => none
    | none => none
  | .keep l => some (e.zipIdx.map fun (v, i) => if l.contains i then v else .any, h)
  | .note _ _ _ _ => some (e, h)
def iaddrS (k j : Nat) : AV → Option AV
  | .vs _ xs => match xs[j]? with
    | some r => if r.length = k then some (.rptr r) else none
    | none => none
  | .ref o k' off len => if j < len ∧ k' = k then some (.ptr o (off + j) 0) else none
  | _ => none
def iaddrA (n k j : Nat) : AV → Option AV
  | .ptr o x f => if j < n then some (.ptr o x (f + j * k)) else none
  | .rptr cs => if j < n then some (.rptr (cs.drop (j * k))) else none
  | _ => none
def apart (o : Nat) : AV → Bool
  | .ref p _ _ _ => !p.beq o
  | _ => true
def objOf : List AV → Obj
  | [.fn t []] => .bld t .nilp (.vs true [])
  | z => .arr z.length [z]
def plainZ : List AV → Bool
  | [.fn _ []] => false
  | _ => true
theorem objOf_plain {z : List AV} (h : plainZ z = true) : objOf z = .arr z.length [z] := by
  unfold objOf
  split
  · cases h
  · rfl
def stepOp (base : Nat) (e : Env) (h : H) : AOp → Option (AV × H)
  | .mov a => some (a.ev e, h)
  | .pick c a b => match c.ev e with
    | .bool t => some (bif t then a.ev e else b.ev e, h)
    | _ => none
  | .alloc z => some (.ptr h.next 0 0, h.new (objOf z))
  | .box a => if (a.ev e).okv = true ∧ 1 ≤ (a.ev e).cells.length then some (.ptr h.next 0 0, h.new (.arr (a.ev e).cells.length [(a.ev e).cells])) else none
  | .build z ps => (fillCells e z ps).map fun cs => (.agg cs, h)
  | .lit r k z n ps => match fillRows e k (List.replicate n z) ps with
    | some rows => if r then some (.ref h.next k 0 n, h.new (.arr k rows)) else some (.vs true rows, h)
    | none => none
  | .load g sz a => (loadAt h g sz (a.ev e)).map fun v => (v, h)
  | .store sz a v => (storeAt base h sz (a.ev e) (v.ev e)).map fun h => (.undef, h)
  | .nilchk a => match a.ev e with
    | .ptr o i off => some (.ptr o i off, h)
    | .rptr cs => some (.rptr cs, h)
    | _ => none
  | .bin op a b => (binAV op (a.ev e) (b.ev e)).map fun v => (v, h)
  | .eqk k neg a b => (eqAV k (a.ev e) (b.ev e)).map fun r => (.bool (bif neg then !r else r), h)
  | .eqc ks neg a b => match a.ev e, b.ev e with
    | .agg xs, .agg ys => (eqCells ks xs ys).map fun r => (.bool (bif neg then !r else r), h)
    | _, _ => none
  | .un op a => match op, a.ev e with
    | .not, .bool b => some (.bool (!b), h)
    | .neg, .int k n => some (.int k (k.wrap (0 - n)), h)
    | _, _ => none
  | .conv c a => match c with
    | .i2i k => match a.ev e with
      | .int _ n => some (.int k (k.wrap n), h)
      | _ => none
    | .i2s => match a.ev e with
      | .int _ n => some (.str (utf8 n), h)
      | _ => none
    | .s2s => match a.ev e with
      | .str s => some (.str s, h)
      | _ => none
    | .s2b r => match a.ev e with
      | .str s => if r then some (.ref h.next 1 0 s.length, h.new (.arr 1 (bytesAV s))) else some (.vs false (bytesAV s), h)
      | _ => none
    | .b2s => match a.ev e with
      | .vs f xs => ((rowsOf h (.vs f xs)).bind allBytes).map fun s => (.str s, h)
      | .ref o k f n => ((rowsOf h (.ref o k f n)).bind allBytes).map fun s => (.str s, h)
      | _ => none
    | .mark => match a.ev e with
      | .ref o k f n => if k = 1 then frz frzFuel base h (.ref o k f n) else none
      | _ => none
  | .mkfn f caps => if (caps.map (·.ev e)).all (fun a => a.okv && !a.isAgg) = true then some (.fn f (caps.map (·.ev e)), h) else none
  | .mk r k z len cap => match natOf (len.ev e), natOf (cap.ev e) with
    | some l, some c =>
      if l = c ∧ l < 1000000000 then
        if r then some (.ref h.next k 0 l, h.new (.arr k (List.replicate l z))) else some (.vs true (List.replicate l z), h)
      else none
    | _, _ => none
  | .slice a k lo hi mx => (sliceAV e k (a.ev e) lo hi mx).map fun v => (v, h)
  | .faddr a off => (faddrAV off (a.ev e)).map fun v => (v, h)
  | .field a off g sz => match a.ev e with
    | .agg cs => (part cs off g sz).map fun v => (v, h)
    | _ => none
  | .iaddr a i k arr => match natOf (i.ev e), arr with
    | some j, none => (iaddrS k j (a.ev e)).map fun v => (v, h)
    | some j, some n => (iaddrA n k j (a.ev e)).map fun v => (v, h)
    | none, _ => none
  | .index a i arr => match natOf (i.ev e) with
    | some j => match arr, a.ev e with
      | none, .str s => s[j]?.map fun (b : Nat) => (AV.int .u8 (b : Int), h)
      | some (n, k, g), .agg cs => if j < n then (part cs (j * k) g k).map fun v => (v, h) else none
      | _, _ => none
    | none => none
  | .range a => match a.ev e with
    | .str s => some (.ptr h.next 0 0, h.new (.iter s 0))
    | _ => none
  | .next a => match a.ev e with
    | .ptr o 0 0 => match h.get o with
      | some (.iter rest pos) =>
        if base ≤ o then
          match rest with
          | [] => some (.tup [.bool false], h)
          | _ => let (c, w) := decode rest
                 some (.tup [.bool true, .int .i64 pos, .int .i32 c], h.put o (.iter (rest.drop w) (pos + w)))
        else none
      | _ => none
    | _ => none
  | .extract a i => match a.ev e with
    | .tup vs => vs[i]?.map fun v => (v, h)
    | _ => none
  | .append r k lim a b => match rowsOf h (b.ev e) with
    | some ys =>
      match ys with
      | [] => match a.ev e with
        | .vs f xs => some (.vs f xs, h)
        | .ref o k off len => some (.ref o k off len, h)
        | _ => none
      | y :: _ => match a.ev e with
        | .vs true xs =>
          if y.length = k ∧ (xs.headD y).length = k ∧ xs.length + ys.length ≤ lim then
            if r then some (.ref h.next k 0 (xs.length + ys.length), h.new (.arr k (xs ++ ys))) else some (.vs false (xs ++ ys), h)
          else none
        | .ref o k' 0 len => match h.get o with
          | some (.arr _ rows) =>
            if r = true ∧ base ≤ o ∧ k' = k ∧ y.length = k ∧ len ≤ rows.length ∧ len + ys.length ≤ lim ∧ apart o (b.ev e) = true then
              some (.ref h.next k 0 (len + ys.length), (h.kill o).new (.arr k (rows.take len ++ ys)))
            else none
          | _ => none
        | _ => none
    | none => none
  | .len isS a => match isS, a.ev e with
    | true, .str s => some (.int .i64 s.length, h)
    | false, .vs _ xs => some (.int .i64 xs.length, h)
    | false, .ref _ _ _ n => some (.int .i64 n, h)
    | _, _ => none
  | .min2 a b => match a.ev e, b.ev e with
    | .int k x, .int _ y => some (.int k (if y < x then y else x), h)
    | _, _ => none
  | .max2 a b => match a.ev e, b.ev e with
    | .int k x, .int _ y => some (.int k (if x < y then y else x), h)
    | _, _ => none
  | .call .. | .callv .. => none
mutual
def AV.beq : AV → AV → Bool
  | .int k a, .int k' b => decide (k = k') && (a == b)
  | .bool a, .bool b => a == b
  | .str a, .str b => a == b
  | .nilp, .nilp => true
  | .ptr a b c, .ptr d e f => a.beq d && b.beq e && c.beq f
  | .rptr a, .rptr b => AV.beqL a b
  | .vs f a, .vs g b => (f == g) && AV.beqR a b
  | .ref a b c k, .ref d e f l => a.beq d && b.beq e && c.beq f && k.beq l
  | .fn f a, .fn g b => f.beq g && AV.beqL a b
  | .nilfn, .nilfn => true
  | .agg a, .agg b => AV.beqL a b
  | .tup a, .tup b => AV.beqL a b
  | .undef, .undef => true
  | .any, .any => true
  | _, _ => false
def AV.beqL : List AV → List AV → Bool
  | [], [] => true
  | a :: x, b :: y => AV.beq a b && AV.beqL x y
  | _, _ => false
def AV.beqR : List (List AV) → List (List AV) → Bool
  | [], [] => true
  | a :: x, b :: y => AV.beqL a b && AV.beqR x y
  | _, _ => false
end
mutual
def AV.under (n : Nat) : AV → Bool
  | .ptr o _ _ => decide (o < n)
  | .ref o _ _ _ => decide (o < n)
  | .rptr cs => AV.underL n cs
  | .vs _ xs => AV.underR n xs
  | .fn _ cs => AV.underL n cs
  | .agg cs => AV.underL n cs
  | .tup cs => AV.underL n cs
  | _ => true
def AV.underL (n : Nat) : List AV → Bool
  | [] => true
  | a :: x => AV.under n a && AV.underL n x
def AV.underR (n : Nat) : List (List AV) → Bool
  | [] => true
  | a :: x => AV.underL n a && AV.underR n x
end
inductive AFn where
  | code (f : AFun)
  | spec (s : Nat → H → List AV → Option (AV × H))
abbrev Fns := Nat → Option AFn
abbrev Ex := Nat → ACode → Env → H → Option (AEx × Env × H)
abbrev CallSem := CK → Nat → List AV → Nat → H → Option (AV × H)
def resOne (e : Env) (h : H) : ARes → Option AV
  | .slot n => some (e.getD n .undef)
  | .cell n g sz => loadAt h g sz (e.getD n .undef)
def resList (e : Env) (h : H) : List ARes → Option (List AV)
  | [] => some []
  | r :: rs => match resOne e h r, resList e h rs with
    | some v, some vs => some (v :: vs)
    | _, _ => none
def resOf (e : Env) (h : H) (rs : List ARes) : Option AV :=
  match resList e h rs with
  | some [v] => some v
  | some vs => some (.tup vs)
  | none => none
def AEx.back : AEx → Bool
  | .exit _ => false
  | _ => true
def callF (fns : Fns) (ex : Ex) (f : Nat) (args : List AV) (base : Nat) (h : H) : Option (AV × H) :=
  match fns f with
  | some (.code fn) =>
    match ex base fn.body (args ++ List.replicate (fn.slots - args.length) .undef) h with
    | some (x, e, h) => if x.back then (resOf e h fn.res).map fun v => (v, h) else none
    | none => none
  | some (.spec s) => s base h args
  | none => none
def callSem (fns : Fns) (ex : Ex) : CallSem := fun k f args base h =>
  match k with
  | .wr => callF fns ex f args base h
  | .ro => match callF fns ex f args h.next h with
    | some (v, _) => if v.under h.next then some (v, h) else none
    | none => none
  | .pure => if AV.underL 0 args then
      match callF fns ex f args 0 H.emp with
      | some (v, _) => if v.under 0 then some (v, h) else none
      | none => none
    else none
def AV.scalar : AV → Bool
  | .int _ _ | .bool _ | .str _ => true
  | _ => false
def snapOne (h : H) (t : Bool) (v : AV) : Option AV :=
  if t then match v with
    | .ref _ _ _ _ => (rowsOf h v).map (.vs false)
    | v => some v
  else some v
def snapAll (h : H) : List Bool → List AV → Option (List AV)
  | [], vs => some vs
  | _, [] => some []
  | t :: ts, v :: vs => match snapOne h t v, snapAll h ts vs with
    | some v, some vs => some (v :: vs)
    | _, _ => none
def opSem (call : CallSem) (base : Nat) (e : Env) (h : H) : AOp → Option (AV × H)
  | .call k f args [] => call k f (args.map (·.ev e)) base h
  | .call k f args snap =>
    match k with
    | .wr => none
    | k => match snapAll h snap (args.map (·.ev e)) with
      | some vs => match call k f vs base h with
        | some (v, h) => if v.scalar then some (v, h) else none
        | none => none
      | none => none
  | .callv k f args => match f.ev e with
    | .fn g caps => call k g (args.map (·.ev e) ++ caps) base h
    | _ => none
  | op => stepOp base e h op
def wanted (e : Env) : Option (Nat × Bool) → Option Bool
  | none => some true
  | some (n, w) => match e.getD n .undef with
    | .bool b => some (b == w)
    | .undef => some false
    | _ => none
def putDst (e : Env) (d : Option Nat) (v : AV) : Env :=
  match d with
  | some n => e.set n v
  | none => e
def runOp (call : CallSem) (base : Nat) (o : AOper) (e : Env) (h : H) : Option (Env × H) :=
  match wanted e o.guard with
  | some true => match opSem call base e h o.op with
    | some (v, h) => some (putDst e o.dst v, h)
    | none => none
  | some false => some (putDst e o.dst .undef, h)
  | none => none
def again (call : CallSem) (base : Nat) (o : AOper) (e : Env) (h : H) : Bool :=
  match wanted e o.guard, o.dst with
  | some true, some d => match opSem call base e h o.op with
    | some (v, _) => v.beq (e.getD d .undef)
    | none => false
  | some false, some _ => true
  | _, _ => false
def recheck (call : CallSem) (base : Nat) (ops : List (Nat × AOper)) (w : Nat) (e : Env) (h : H) : List (Nat × Nat) → Bool
  | [] => true
  | (l, w') :: cs => (bif w'.beq w then match ops.lookup l with
      | some o => again call base o e h
      | none => false
    else true) && recheck call base ops w e h cs
def runOps (call : CallSem) (base : Nat) (all : List (Nat × AOper)) (chk : List (Nat × Nat)) : List (Nat × AOper) → Env → H → Option (Env × H)
  | [], e, h => some (e, h)
  | (i, o) :: ops, e, h => match runOp call base o e h with
    | some (e, h) => if recheck call base all i e h chk then runOps call base all chk ops e h else none
    | none => none
def exec (fns : Fns) : Nat → Ex
  | 0, _, _, _, _ => none
  | n + 1, base, c, e, h =>
    match c with
    | .skip => some (.normal, e, h)
    | .region ops chk => match runOps (callSem fns (exec fns n)) base ops chk ops e h with
      | some (e, h) => some (.normal, e, h)
      | none => none
    | .seq a b => match exec fns n base a e h with
      | some (.normal, e, h) => exec fns n base b e h
      | r => r
    | .cond x a b => match x.ev e with
      | .bool t => bif t then exec fns n base a e h else exec fns n base b e h
      | _ => none
    | .block id b => match exec fns n base b e h with
      | some (.exit i, e, h) => if i = id then some (.normal, e, h) else some (.exit i, e, h)
      | r => r
    | .loop b => match exec fns n base b e h with
      | some (.normal, e, h) => exec fns n base (.loop b) e h
      | r => r
    | .exit id => some (.exit id, e, h)
    | .ret => some (.ret, e, h)
    | .ghost g => match ghost base g e h with
      | some (e, h) => some (.normal, e, h)
      | none => none
def acall (fns : Fns) (n : Nat) (f : Nat) (args : List AV) (base : Nat) (h : H) : Option (AV × H) := callF fns (exec fns n) f args base h
end Go.Am
