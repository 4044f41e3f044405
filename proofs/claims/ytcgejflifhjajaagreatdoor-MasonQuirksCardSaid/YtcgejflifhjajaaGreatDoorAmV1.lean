/- Parts of an abstract machine and its proofs: AmV1. -/
import Derived.Test.YtcgejflifhjajaaGreatDoorAmRun

set_option linter.unusedSimpArgs false
set_option linter.unusedVariables false
namespace Go.Am
structure At where
  n : List Nat
  v : List Nat
structure Tok where
  kind : Int
  name : List Nat
  attrs : List At
  self : Bool
  text : List Nat
structure Item where
  h : Int
  ns : Int
  name : List Nat
  attrs : List At
structure Entry where
  mark : Bool
  h : Int
  name : List Nat
  attrs : List At
structure Nd where
  kind : Int
  ns : Int
  name : List Nat
  attrs : List At
  text : List Nat
  up : Int
  first : Int
  last : Int
  before : Int
  behind : Int
  inn : Int
structure RNd where
  kind : Int
  ns : Int
  name : List Nat
  text : List Nat
  attrs : List At
  kids : List Int
  up : Int
inductive Tree where
  | mk (kind ns : Int) (name : List Nat) (attrs : List At) (text : List Nat) (kids : List Tree)
inductive U where
  | ints | runes | strs | bytes | attrs | toks | items | entries | nodes | rnodes | trees
@[reducible] def El : U → Type
  | .ints => Int
  | .runes => Int
  | .strs => List Nat
  | .bytes => Int
  | .attrs => At
  | .toks => Tok
  | .items => Item
  | .entries => Entry
  | .nodes => Nd
  | .rnodes => RNd
  | .trees => Tree
def U.code : U → Nat
  | .ints => 0 | .runes => 1 | .strs => 2 | .bytes => 3 | .attrs => 4 | .toks => 5 | .items => 6 | .entries => 7 | .nodes => 8 | .rnodes => 9 | .trees => 10
def U.ofCode : Nat → U
  | 0 => .ints | 1 => .runes | 2 => .strs | 3 => .bytes | 4 => .attrs | 5 => .toks | 6 => .items | 7 => .entries | 8 => .nodes | 9 => .rnodes | _ => .trees
def U.k : U → Nat
  | .ints => 1 | .runes => 1 | .strs => 1 | .bytes => 1 | .attrs => 2 | .toks => 5 | .items => 4 | .entries => 4 | .nodes => 12 | .rnodes => 7 | .trees => 6
instance : DecidableEq U := fun a b =>
  if h : a.code = b.code then .isTrue (by cases a <;> cases b <;> first | rfl | cases h) else .isFalse fun e => h (e ▸ rfl)
inductive Cd where
  | st (o : Nat)
  | cell (o c : Nat)
  | loc (d : Nat)
  deriving DecidableEq, Inhabited
def Cd.eqb : Cd → Cd → Bool
  | .st a, .st b => a.beq b
  | .cell a b, .cell c d => a.beq c && b.beq d
  | .loc a, .loc b => a.beq b
  | _, _ => false
def Cd.isSt : Cd → Bool
  | .st _ => true
  | _ => false
theorem Cd.eqb_iff {a b : Cd} : a.eqb b = true ↔ a = b := by
  cases a <;> cases b <;> simp [Cd.eqb]
mutual
inductive V where
  | int (k : IntKind) (n : Int)
  | bool (b : Bool)
  | str (s : List Nat)
  | nilp
  | ptr (c : Cd) (off : Nat)
  | rptr (cs : List V)
  | vs (full : Bool) (s : Sq)
  | whole (c : Cd)
  | ref (c : Cd) (off len : Nat)
  | ep (c : Cd) (i off : Nat)
  | fn (f : Nat) (caps : List V)
  | nilfn
  | agg (cs : List V)
  | tup (vs : List V)
  | undef
  | any
inductive Sq where
  | raw (k : Nat) (rows : List (List V))
  | ty (u : U) (l : List (El u))
end
instance : Inhabited V := ⟨.undef⟩
instance : Inhabited Sq := ⟨.raw 0 []⟩
def vAts (l : List At) : V := .vs false (.ty .attrs l)
def enc : (u : U) → El u → List V
  | .ints, n => [.int .i64 n]
  | .runes, n => [.int .i32 n]
  | .strs, s => [.str s]
  | .bytes, n => [.int .u8 n]
  | .attrs, a => [.str a.n, .str a.v]
  | .toks, t => [.int .i64 t.kind, .str t.name, vAts t.attrs, .bool t.self, .str t.text]
  | .items, x => [.int .i64 x.h, .int .i64 x.ns, .str x.name, vAts x.attrs]
  | .entries, x => [.bool x.mark, .int .i64 x.h, .str x.name, vAts x.attrs]
  | .nodes, x => [.int .i64 x.kind, .int .i64 x.ns, .str x.name, vAts x.attrs, .str x.text, .vs false (.ty .trees []), .int .i64 x.up, .int .i64 x.first, .int .i64 x.last, .int .i64 x.before, .int .i64 x.behind, .int .i64 x.inn]
  | .rnodes, x => [.int .i64 x.kind, .int .i64 x.ns, .str x.name, .str x.text, vAts x.attrs, .vs false (.ty .ints x.kids), .int .i64 x.up]
  | .trees, .mk a b c d e f => [.int .i64 a, .int .i64 b, .str c, vAts d, .str e, .vs false (.ty .trees f)]
def V.tyK {β : Type} (u : U) (v : V) (K : List (El u) → Option β) : Option β :=
  match v with
  | .vs _ (.raw _ []) => K []
  | .vs _ (.ty u' l) => if h : u' = u then K (h ▸ l) else none
  | _ => none
def dInt : List V → Option Int
  | [.int .i64 n] => some n
  | _ => none
def dRune : List V → Option Int
  | [.int .i32 n] => some n
  | _ => none
def dStr : List V → Option (List Nat)
  | [.str s] => some s
  | _ => none
def dByte : List V → Option Int
  | [.int .u8 n] => some n
  | _ => none
def dAt : List V → Option At
  | [.str a, .str b] => some ⟨a, b⟩
  | _ => none
def dTok : List V → Option Tok
  | [.int .i64 a, .str b, l, .bool c, .str d] => l.tyK .attrs fun l => some ⟨a, b, l, c, d⟩
  | _ => none
def dItem : List V → Option Item
  | [.int .i64 a, .int .i64 b, .str c, l] => l.tyK .attrs fun l => some ⟨a, b, c, l⟩
  | _ => none
def dEntry : List V → Option Entry
  | [.bool a, .int .i64 b, .str c, l] => l.tyK .attrs fun l => some ⟨a, b, c, l⟩
  | _ => none
def dNd : List V → Option Nd
  | [.int .i64 a, .int .i64 b, .str c, l, .str d, ks, .int .i64 g, .int .i64 h, .int .i64 i, .int .i64 j, .int .i64 k, .int .i64 m] =>
    l.tyK .attrs fun l => ks.tyK .trees fun ks => match ks with
      | [] => some ⟨a, b, c, l, d, g, h, i, j, k, m⟩
      | _ => none
  | _ => none
def dRNd : List V → Option RNd
  | [.int .i64 a, .int .i64 b, .str c, .str d, l, ks, .int .i64 g] => l.tyK .attrs fun l => ks.tyK .ints fun ks => some ⟨a, b, c, d, l, ks, g⟩
  | _ => none
def dTree : List V → Option Tree
  | [.int .i64 a, .int .i64 b, .str c, l, .str d, ks] => l.tyK .attrs fun l => ks.tyK .trees fun ks => some (.mk a b c l d ks)
  | _ => none
def dec : (u : U) → List V → Option (El u)
  | .ints => dInt
  | .runes => dRune
  | .strs => dStr
  | .bytes => dByte
  | .attrs => dAt
  | .toks => dTok
  | .items => dItem
  | .entries => dEntry
  | .nodes => dNd
  | .rnodes => dRNd
  | .trees => dTree
def decAll (u : U) : List (List V) → Option (List (El u))
  | [] => some []
  | r :: rs => match dec u r, decAll u rs with
    | some x, some xs => some (x :: xs)
    | _, _ => none
def Sq.rows : Sq → List (List V)
  | .raw _ rows => rows
  | .ty u l => l.map (enc u)
def Sq.len : Sq → Nat
  | .raw _ rows => rows.length
  | .ty _ l => l.length
def Sq.okk (k : Nat) : Sq → Bool
  | .raw _ rows => rows.all fun r => r.length.beq k
  | .ty u _ => u.k.beq k
def Sq.kIs (k : Nat) : Sq → Bool
  | .raw k' rows => k'.beq k && rows.all fun r => r.length.beq k
  | .ty u _ => u.k.beq k
def Sq.kk : Sq → Nat
  | .raw k _ => k
  | .ty u _ => u.k
def Sq.take (n : Nat) : Sq → Sq
  | .raw k rows => .raw k (rows.take n)
  | .ty u l => .ty u (l.take n)
def Sq.drop (n : Nat) : Sq → Sq
  | .raw k rows => .raw k (rows.drop n)
  | .ty u l => .ty u (l.drop n)
def Sq.getK {β : Type} (s : Sq) (j : Nat) (K : List V → Option β) : Option β :=
  match s with
  | .raw _ rows => match rows[j]? with
    | some r => K r
    | none => none
  | .ty u l => match l[j]? with
    | some x => K (enc u x)
    | none => none
def Sq.setK {β : Type} (s : Sq) (j : Nat) (r : List V) (K : Sq → Option β) : Option β :=
  match s with
  | .raw k rows => K (.raw k (rows.set j r))
  | .ty u l => match dec u r with
    | some x => K (.ty u (l.set j x))
    | none => none
def Sq.appK {β : Type} (s t : Sq) (K : Sq → Option β) : Option β :=
  match s, t with
  | .raw k a, .raw k' b => K (.raw (bif k.beq 0 then k' else k) (a ++ b))
  | .raw _ [], .ty u l => K (.ty u l)
  | .raw _ _, .ty _ _ => none
  | .ty u l, .raw _ b => match decAll u b with
    | some x => K (.ty u (l ++ x))
    | none => none
  | .ty u l, .ty u' l' => if h : u' = u then K (.ty u (l ++ (h ▸ l'))) else none
def Sq.tyK {β : Type} (u : U) (s : Sq) (K : Sq → Option β) : Option β :=
  match s with
  | .raw _ rows => match decAll u rows with
    | some l => K (.ty u l)
    | none => none
  | .ty u' l => if u' = u then K (.ty u' l) else none
def Sq.isNil : Sq → Bool
  | .raw _ [] => true
  | .ty _ [] => true
  | _ => false
def Sq.isCons : Sq → Bool
  | .raw _ (_ :: _) => true
  | .ty _ (_ :: _) => true
  | _ => false
inductive Tq (β : Type) where
  | lf
  | nd (v : Option β) (l r : Tq β)
def Tq.get {β : Type} : Tq β → Nat → Option β
  | .lf, _ => none
  | .nd v l r, n => bif n.beq 0 then v else bif (n % 2).beq 1 then l.get (n / 2) else r.get (n / 2 - 1)
def Tq.top {β : Type} : Tq β → Option β
  | .lf => none
  | .nd v _ _ => v
def Tq.left {β : Type} : Tq β → Tq β
  | .lf => .lf
  | .nd _ l _ => l
def Tq.right {β : Type} : Tq β → Tq β
  | .lf => .lf
  | .nd _ _ r => r
def Tq.setF {β : Type} : Nat → Tq β → Nat → Option β → Tq β
  | 0, t, _, _ => t
  | f + 1, t, n, x =>
    bif n.beq 0 then .nd x t.left t.right
    else bif (n % 2).beq 1 then .nd t.top (Tq.setF f t.left (n / 2) x) t.right
    else .nd t.top t.left (Tq.setF f t.right (n / 2 - 1) x)
def Tq.set {β : Type} (t : Tq β) (n : Nat) (x : Option β) : Tq β := Tq.setF (n + 1) t n x
theorem Tq.get_parts {β : Type} (t : Tq β) (n : Nat) : t.get n = if n = 0 then t.top else if n % 2 = 1 then t.left.get (n / 2) else t.right.get (n / 2 - 1) := by
  cases t with
  | lf => simp [Tq.get, Tq.top, Tq.left, Tq.right]
  | nd v l r => simp [Tq.get, nbeq, Bool.cond_decide, Tq.top, Tq.left, Tq.right]
theorem Tq.get_setF {β : Type} (f : Nat) : ∀ (t : Tq β) (n m : Nat) (x : Option β), n < f → (Tq.setF f t n x).get m = if m = n then x else t.get m := by
  induction f with
  | zero => intro t n m x h; omega
  | succ f ih =>
    intro t n m x h
    simp only [Tq.setF, nbeq, Bool.cond_decide]
    by_cases h0 : n = 0
    · subst h0
      rw [if_pos rfl, Tq.get_parts _ m, Tq.get_parts t m]
      by_cases hm : m = 0 <;> simp [hm, Tq.top, Tq.left, Tq.right]
    · rw [if_neg h0]
      by_cases h1 : n % 2 = 1
      · rw [if_pos h1, Tq.get_parts _ m, Tq.get_parts t m]
        simp only [Tq.top, Tq.left, Tq.right]
        rw [ih _ _ _ _ (by omega)]
        repeat' split
        all_goals first | rfl | omega | (exfalso; omega)
      · rw [if_neg h1, Tq.get_parts _ m, Tq.get_parts t m]
        simp only [Tq.top, Tq.left, Tq.right]
        rw [ih _ _ _ _ (by omega)]
        repeat' split
        all_goals first | rfl | omega | (exfalso; omega)
@[simp] theorem Tq.get_set {β : Type} (t : Tq β) (n m : Nat) (x : Option β) : (t.set n x).get m = if m = n then x else t.get m :=
  Tq.get_setF (n + 1) t n m x (Nat.lt_succ_self n)
inductive O2 where
  | arr (cells : List V)
  | iter (rest : List Nat) (pos : Nat)
  | seq (s : Sq) (b : Bool)
structure HV where
  next : Nat
  st : Tq O2
  ca : Tq (Tq O2)
  lo : Tq O2
def HV.emp : HV := ⟨0, .lf, .lf, .lf⟩
def get2 (t : Tq (Tq O2)) (a b : Nat) : Option O2 :=
  match t.get a with
  | some t => t.get b
  | none => none
def set2 (t : Tq (Tq O2)) (a b : Nat) (x : Option O2) : Tq (Tq O2) :=
  t.set a (some ((match t.get a with
    | some t => t
    | none => .lf).set b x))
theorem get2_set2 (t : Tq (Tq O2)) (a b c d : Nat) (x : Option O2) : get2 (set2 t a b x) c d = if c = a ∧ d = b then x else get2 t c d := by
  unfold get2 set2
  simp only [Tq.get_set]
  by_cases h : c = a
  · subst h
    simp only [if_true, Tq.get_set, true_and]
    split
    · rfl
    · cases t.get c <;> rfl
  · rw [if_neg h, if_neg (fun q => h q.1)]
def HV.get (h : HV) : Cd → Option O2
  | .st o => h.st.get o
  | .cell o c => get2 h.ca o c
  | .loc d => h.lo.get d
def HV.put (h : HV) (c : Cd) (x : Option O2) : HV :=
  match c with
  | .st o => ⟨h.next, h.st.set o x, h.ca, h.lo⟩
  | .cell o c => ⟨h.next, h.st, set2 h.ca o c x, h.lo⟩
  | .loc d => ⟨h.next, h.st, h.ca, h.lo.set d x⟩
@[simp] theorem HV.get_put (h : HV) (c d : Cd) (x : Option O2) : (h.put c x).get d = if d = c then x else h.get d := by
  cases c <;> cases d <;> simp [HV.put, HV.get, get2_set2]
@[simp] theorem HV.next_put (h : HV) (c : Cd) (x : Option O2) : (h.put c x).next = h.next := by cases c <;> rfl
def HV.wlo (h : HV) (lo : Tq O2) : HV := ⟨h.next, h.st, h.ca, lo⟩
theorem HV.get_wlo (h : HV) (lo : Tq O2) (c : Cd) : (h.wlo lo).get c = match c with
    | .loc d => lo.get d
    | c => h.get c := by
  cases c <;> rfl
def okC2 : V → Bool
  | .int _ _ | .bool _ | .str _ | .nilp | .rptr _ | .vs _ _ | .nilfn => true
  | .ptr (.st _) _ => true
  | .fn _ _ => true
  | _ => false
def okF : V → Bool
  | .agg _ => true
  | v => okC2 v
def V.cells : V → List V
  | .agg cs => cs
  | v => [v]
def ofCell : AV → V
  | .int k n => .int k n
  | .bool b => .bool b
  | .str s => .str s
  | .nilp => .nilp
  | .nilfn => .nilfn
  | .vs f [] => .vs f (.raw 0 [])
  | .fn f [] => .fn f []
  | _ => .any
def ofAV : AV → V
  | .agg cs => bif (cs.map ofCell).all okC2 then .agg (cs.map ofCell) else .any
  | .undef => .undef
  | v => ofCell v
def AO.evV (e : List V) : AO → V
  | .s n => e.getD n .undef
  | .c v => ofAV v
def V.at (c : Cd) : V → Bool
  | .ptr d _ => d.eqb c
  | .whole d => d.eqb c
  | .ref d _ _ => d.eqb c
  | .ep d _ _ => d.eqb c
  | _ => false
def purge (c : Cd) (e : List V) : List V := e.map fun v => bif v.at c then .any else v
def V.atCell : V → Bool
  | .whole (.cell _ _) => true
  | .ref (.cell _ _) _ _ => true
  | .ep (.cell _ _) _ _ => true
  | _ => false
def purgeCells (e : List V) : List V := e.map fun v => bif v.atCell then .any else v
abbrev Fr := List Nat
structure Ba where
  b : Nat
  ro : Bool
def writable (ba : Ba) : Cd → Bool
  | .st o => Nat.ble ba.b o
  | .cell o _ => Nat.ble ba.b o
  | .loc d => !ba.ro || Nat.blt d 1000
abbrev RA := V × HV × List O2
abbrev TV := CK → Nat → List V → Nat → HV → List O2 → (V → HV → List O2 → Option RA) → Option RA
def cut (h : HV) (c : Cd) : HV :=
  match c with
  | .cell o i => match h.get (.st o) with
    | some (.arr cells) => (h.put c none).put (.st o) (some (.arr (cells.set i .any)))
    | _ => h.put c none
  | c => h.put c none
def partV {β : Type} (cs : List V) (off : Nat) (g : Bool) (sz : Nat) (K : V → Option β) : Option β :=
  bif g then (bif Nat.ble 1 sz && Nat.ble (off + sz) cs.length && ((cs.drop off).take sz).all okC2 then K (.agg ((cs.drop off).take sz)) else none)
  else bif sz.beq 1 then (match cs[off]? with
    | some v => K v
    | none => none) else none
def loadV {β : Type} (h : HV) (g : Bool) (sz : Nat) (v : V) (K : V → Option β) : Option β :=
  match v with
  | .ptr c off => match h.get c with
    | some (.arr cells) => partV cells off g sz K
    | _ => none
  | .ep c i off => match h.get c with
    | some (.seq s _) => s.getK i fun r => partV r off g sz K
    | _ => none
  | .rptr cs => partV cs 0 g sz K
  | _ => none
def setCellsV (cs : List V) (off : Nat) (vs : List V) : List V := cs.take off ++ vs ++ cs.drop (off + vs.length)
def V.isArr : V → Bool
  | .whole _ => true
  | .ref _ _ _ => true
  | .ep _ _ _ => true
  | _ => false
def V.isRef : V → Bool
  | .whole _ => true
  | _ => false
def storeV (ba : Ba) (e : List V) (h : HV) (sz : Nat) (p v : V) (K : List V → HV → Option RA) : Option RA :=
  match p with
  | .ptr c off => bif writable ba c then (match h.get c with
    | some (.arr cells) =>
      bif v.isArr then (match v with
      | .whole a => match c with
        | .st o => bif sz.beq 1 && Nat.blt off cells.length && writable ba a then (match h.get a with
          | some (.seq s b) => match cut h a with
            | h => match h.get (.st o) with
              | some (.arr cells) => K (purge (.cell o off) (purge a e)) ((h.put (.cell o off) (some (.seq s b))).put (.st o) (some (.arr (cells.set off (.whole (.cell o off))))))
              | _ => none
          | _ => none) else none
        | _ => none
      | .ref a zo len => match c with
        | .st o => bif zo.beq 0 && sz.beq 1 && Nat.blt off cells.length && writable ba a then (match h.get a with
          | some (.seq s _) => match cut h a with
            | h => match h.get (.st o) with
              | some (.arr cells) => K (purge (.cell o off) (purge a e)) ((h.put (.cell o off) (some (.seq (s.take len) false))).put (.st o) (some (.arr (cells.set off (.whole (.cell o off))))))
              | _ => none
          | _ => none) else none
        | _ => none
      | _ => none) else bif okF v && v.cells.length.beq sz && Nat.ble (off + sz) cells.length then
          (bif ((cells.drop off).take sz).all (fun x => !x.isRef) then K e (h.put c (some (.arr (setCellsV cells off v.cells))))
          else match c with
            | .st o => bif sz.beq 1 then K (purge (.cell o off) e) ((h.put (.cell o off) none).put c (some (.arr (setCellsV cells off v.cells)))) else none
            | _ => none) else none
    | _ => none) else none
  | .ep c i off => bif writable ba c && okF v && v.cells.length.beq sz then (match h.get c with
    | some (.seq s b) => s.getK i fun r => bif Nat.ble (off + sz) r.length then s.setK i (setCellsV r off v.cells) fun s => K e (h.put c (some (.seq s b))) else none
    | _ => none) else none
  | _ => none
def newV (fr : Fr) (d : Option Nat) (e : List V) (h : HV) (cells : List V) (K : V → List V → HV → Option RA) : Option RA :=
  match d with
  | some d => bif cells.all okC2 then
      (bif List.contains fr d then K (.ptr (.st h.next) 0) e ⟨h.next + 1, h.st.set h.next (some (.arr cells)), h.ca, h.lo⟩
      else K (.ptr (.loc d) 0) (purge (.loc d) e) (h.put (.loc d) (some (.arr cells)))) else none
  | none => none
def newSeq (d : Option Nat) (e : List V) (h : HV) (s : Sq) (b : Bool) (K : V → List V → HV → Option RA) : Option RA :=
  match d with
  | some d => K (.whole (.loc d)) (purge (.loc d) e) (h.put (.loc d) (some (.seq s b)))
  | none => none
def contentK {β : Type} (h : HV) (v : V) (K : Sq → Option β) : Option β :=
  match v with
  | .vs _ s => K s
  | .str s => K (.ty .bytes (s.map fun (b : Nat) => (b : Int)))
  | .whole c => match h.get c with
    | some (.seq s _) => K s
    | _ => none
  | .ref c off len => match h.get c with
    | some (.seq s _) => bif Nat.ble (off + len) s.len then K ((s.drop off).take len) else none
    | _ => none
  | _ => none
def lenV {β : Type} (h : HV) (v : V) (K : Nat → Option β) : Option β :=
  match v with
  | .vs _ s => K s.len
  | .str s => K s.length
  | .whole c => match h.get c with
    | some (.seq s _) => K s.len
    | _ => none
  | .ref _ _ len => K len
  | _ => none
def natV {β : Type} (v : V) (K : Nat → Option β) : Option β :=
  match v with
  | .int _ n => match n with
    | .ofNat m => K m
    | .negSucc _ => none
  | _ => none
def optNatV {β : Type} (e : List V) (d : Nat) (a : Option AO) (K : Nat → Option β) : Option β :=
  match a with
  | none => K d
  | some a => natV (a.evV e) K
def fillCellsV (e : List V) : List V → List (Nat × Nat × AO) → Option (List V)
  | cs, [] => some cs
  | cs, (off, sz, x) :: ps =>
    bif okF (x.evV e) && (x.evV e).cells.length.beq sz && Nat.ble (off + sz) cs.length then fillCellsV e (setCellsV cs off (x.evV e).cells) ps else none
def fillRowsV (e : List V) (k : Nat) : List (List V) → List (Nat × AO) → Option (List (List V))
  | rs, [] => some rs
  | rs, (i, x) :: ps =>
    bif okF (x.evV e) && Nat.blt i rs.length && (x.evV e).cells.length.beq k then fillRowsV e k (rs.set i (x.evV e).cells) ps else none
def binV (op : BinOp) (x y : V) (K : V → Option RA) : Option RA :=
  match x, y with
  | .int k a, .int k' b => match binAV op (.int k a) (.int k' b) with
    | some v => K (ofAV v)
    | none => none
  | .str a, .str b => match op with
    | .add => bif Nat.ble (a.length + b.length) 9223372036854775807 then K (.str (a ++ b)) else none
    | _ => match strBin op a b with
      | some v => K (ofAV v)
      | none => none
  | _, _ => none
def eqV (k : EK) (x y : V) (K : Bool → Option RA) : Option RA :=
  match k, x, y with
  | .bool, .bool a, .bool b => K (a == b)
  | .ptr, .nilp, .nilp => K true
  | .ptr, .nilp, .ptr _ _ => K false
  | .ptr, .ptr _ _, .nilp => K false
  | .ptr, .nilp, .rptr _ => K false
  | .ptr, .rptr _, .nilp => K false
  | .fn, .nilfn, .nilfn => K true
  | .fn, .nilfn, .fn _ _ => K false
  | .fn, .fn _ _, .nilfn => K false
  | _, _, _ => none
def eqCellsV : List SK → List V → List V → Option Bool
  | [], [], [] => some true
  | .int :: ks, .int k a :: xs, .int k' b :: ys => if k = k' then (match eqCellsV ks xs ys with
    | some r => some ((a == b) && r)
    | none => none) else none
  | .str :: ks, .str a :: xs, .str b :: ys => match eqCellsV ks xs ys with
    | some r => some ((a == b) && r)
    | none => none
  | .bool :: ks, .bool a :: xs, .bool b :: ys => match eqCellsV ks xs ys with
    | some r => some ((a == b) && r)
    | none => none
  | _, _, _ => none
def HV.kIs (h : HV) (c : Cd) (k : Nat) : Bool :=
  match h.get c with
  | some (.seq s _) => s.kIs k
  | _ => false
def sliceV (e : List V) (h : HV) (k : Nat) (v : V) (lo hi mx : Option AO) (K : V → Option RA) : Option RA :=
  bif v.isRef && lo.isNone && hi.isNone && mx.isNone then (match v with
    | .whole c => bif Nat.ble 1 k && h.kIs c k then K (.whole c) else none
    | _ => none) else
  lenV h v fun l => optNatV e 0 lo fun a => optNatV e l hi fun b =>
    bif Nat.ble a b then (bif Nat.ble b l then (match mx with
      | none => match v with
        | .str s => bif k.beq 0 then K (.str ((s.drop a).take (b - a))) else none
        | .vs _ s => bif Nat.ble 1 k && s.okk k then K (.vs false ((s.drop a).take (b - a))) else none
        | .whole c => bif Nat.ble 1 k && h.kIs c k then K (.ref c a (b - a)) else none
        | .ref c off _ => bif Nat.ble 1 k && h.kIs c k then K (.ref c (off + a) (b - a)) else none
        | _ => none
      | some m => natV (m.evV e) fun c => bif Nat.ble b c && Nat.ble c l then (match v with
        | .vs _ s => bif Nat.ble 1 k && s.okk k then K (.vs (c.beq b) ((s.drop a).take (b - a))) else none
        | .whole _ => bif Nat.ble 1 k && a.beq b then K (.vs (c.beq b) (.raw k [])) else none
        | .ref _ _ _ => bif Nat.ble 1 k && a.beq b then K (.vs (c.beq b) (.raw k [])) else none
        | _ => none) else none) else none) else none
def bytesOk : List Int → Bool
  | [] => true
  | n :: l => decide (0 ≤ n) && decide (n < 256) && bytesOk l
def iaddrV (h : HV) (k j : Nat) (v : V) (K : V → Option RA) : Option RA :=
  match v with
  | .vs _ s => bif s.okk k then s.getK j fun r => K (.rptr r) else none
  | .whole c => match h.get c with
    | some (.seq s _) => bif Nat.blt j s.len && s.kIs k then K (.ep c j 0) else none
    | _ => none
  | .ref c off len => match h.get c with
    | some (.seq s _) => bif Nat.blt j len && s.kIs k then K (.ep c (off + j) 0) else none
    | _ => none
  | _ => none
def homeOf (c : Cd) (d : Option Nat) : Option Nat :=
  match c with
  | .loc d0 => some d0
  | _ => d
def appendV (ba : Ba) (d : Option Nat) (e : List V) (h : HV) (r : Bool) (k lim : Nat) (a b : V) (K : V → List V → HV → Option RA) : Option RA :=
  contentK h b fun ys => bif ys.okk k && Nat.ble lim 1000000000 then (match a with
    | .vs true s => bif s.okk k then (bif s.isNil || ys.isCons then s.appK ys fun t => bif Nat.ble t.len lim then
        (bif r then bif t.kIs k then newSeq d e h t true K else none else K (.vs false t) e h) else none else none) else none
    | .whole c => bif r && writable ba c && !b.at c then (match h.get c with
      | some (.seq s f) => bif s.kIs k then s.appK ys fun t => bif Nat.ble t.len lim && t.kIs k then newSeq (homeOf c d) (purge c e) (cut h c) t f K else none else none
      | _ => none) else none
    | .ref c 0 len => bif r && writable ba c && !b.at c then (match h.get c with
      | some (.seq s _) => bif s.kIs k && Nat.ble len s.len then (s.take len).appK ys fun t => bif Nat.ble t.len lim && t.kIs k then newSeq (homeOf c d) (purge c e) (cut h c) t false K else none else none
      | _ => none) else none
    | _ => none) else none
def snapV {β : Type} (h : HV) : List Bool → List V → (List V → Option β) → Option β
  | [], vs, K => K vs
  | _, [], K => K []
  | t :: ts, v :: vs, K => bif t then (match v with
      | .whole _ => contentK h v fun s => snapV h ts vs fun vs => K (.vs false s :: vs)
      | .ref _ _ _ => contentK h v fun s => snapV h ts vs fun vs => K (.vs false s :: vs)
      | _ => bif okF v then snapV h ts vs fun vs => K (v :: vs) else none)
    else snapV h ts vs fun vs => K (v :: vs)
def V.isLoc : V → Bool
  | .ptr (.loc _) _ => true
  | .whole (.loc _) => true
  | .ref (.loc _) _ _ => true
  | .ep (.loc _) _ _ => true
  | _ => false
def V.isTup : V → Bool
  | .tup _ => true
  | _ => false
def handK (h : HV) : Nat → List V → (List V → List Nat → List O2 → Option RA) → Option RA
  | _, [], K => K [] [] []
  | n, v :: vs, K => match v with
    | .ptr (.loc d) off => match h.lo.get d with
      | some o => handK h (n + 1) vs fun vs ds os => bif ds.contains d then none else K (.ptr (.loc n) off :: vs) (d :: ds) (o :: os)
      | none => none
    | .whole (.loc d) => match h.lo.get d with
      | some o => handK h (n + 1) vs fun vs ds os => bif ds.contains d then none else K (.whole (.loc n) :: vs) (d :: ds) (o :: os)
      | none => none
    | _ => bif v.isLoc then none else handK h n vs fun vs ds os => K (v :: vs) ds os
def putBack : Tq O2 → List Nat → List O2 → Tq O2
  | lo, d :: ds, o :: os => putBack (lo.set d (some o)) ds os
  | lo, _, _ => lo
def lay : Tq O2 → Nat → List O2 → Tq O2
  | t, _, [] => t
  | t, i, o :: os => lay (t.set i (some o)) (i + 1) os
def adopt (n : Nat) (d : Option Nat) (e : List V) (h : HV) (os : List O2) (v : V) (K : V → List V → HV → Option RA) : Option RA :=
  match v with
  | .whole (.loc j) => bif Nat.ble (1000 + n) j then (match os[j - 1000]? with
    | some (.seq s b) => newSeq d e h s b K
    | _ => none) else none
  | _ => bif okF v || v.isTup then K v e h else none
def scalarV : V → Bool
  | .int _ _ | .bool _ | .str _ => true
  | _ => false
def callV (T : TV) (fr : Fr) (ba : Ba) (d : Option Nat) (e : List V) (h : HV) (k : CK) (f : Nat) (vs : List V) (K : V → List V → HV → Option RA) : Option RA :=
  match k with
  | .wr => handK h 1000 vs fun vs ds os => bif ds.all fun d => writable ba (.loc d) then T .wr f vs ba.b (h.wlo .lf) os fun v h' os' => adopt ds.length d (purgeCells e) (h'.wlo (putBack h.lo ds os')) os' v K else none
  | k => handK h 1000 vs fun vs _ os => T k f vs ba.b (h.wlo .lf) os fun v _ _ => bif okF v || v.isTup then K v e h else none
def natOK : V → Bool
  | .undef => true
  | _ => false
def stepV (T : TV) (fr : Fr) (ba : Ba) (d : Option Nat) (e : List V) (h : HV) (op : AOp) (K : V → List V → HV → Option RA) : Option RA :=
  match op with
  | .mov a => K (a.evV e) e h
  | .pick c a b => match c.evV e with
    | .bool t => bif t then K (a.evV e) e h else K (b.evV e) e h
    | _ => none
  | .alloc z => bif plainZ z then newV fr d e h (z.map ofCell) K else none
  | .box a => bif okF (a.evV e) && Nat.ble 1 (a.evV e).cells.length then newV fr d e h (a.evV e).cells K else none
  | .build z ps => match fillCellsV e (z.map ofCell) ps with
    | some cs => bif cs.all okC2 then K (.agg cs) e h else none
    | none => none
  | .lit r k z n ps => bif (z.map ofCell).all okC2 && z.length.beq k then (match fillRowsV e k (List.replicate n (z.map ofCell)) ps with
    | some rows => bif r then (bif Nat.ble n 1000000000 then newSeq d e h (.raw k rows) true K else none) else K (.vs true (.raw k rows)) e h
    | none => none) else none
  | .load g sz a => loadV h g sz (a.evV e) fun v => K v e h
  | .store sz a v => storeV ba e h sz (a.evV e) (v.evV e) fun e h => K .undef e h
  | .nilchk a => match a.evV e with
    | .ptr c off => K (.ptr c off) e h
    | .ep c i off => K (.ep c i off) e h
    | .rptr cs => K (.rptr cs) e h
    | _ => none
  | .bin op a b => binV op (a.evV e) (b.evV e) fun v => K v e h
  | .eqk k neg a b => eqV k (a.evV e) (b.evV e) fun r => K (.bool (bif neg then !r else r)) e h
  | .eqc ks neg a b => match a.evV e, b.evV e with
    | .agg xs, .agg ys => match eqCellsV ks xs ys with
      | some r => K (.bool (bif neg then !r else r)) e h
      | none => none
    | _, _ => none
  | .un op a => match op, a.evV e with
    | .not, .bool b => K (.bool (!b)) e h
    | .neg, .int k n => K (.int k (k.wrap (0 - n))) e h
    | _, _ => none
  | .conv c a => match c with
    | .i2i k => match a.evV e with
      | .int _ n => K (.int k (k.wrap n)) e h
      | _ => none
    | .i2s => match a.evV e with
      | .int _ n => K (.str (utf8 n)) e h
      | _ => none
    | .s2s => match a.evV e with
      | .str s => K (.str s) e h
      | _ => none
    | .s2b r => match a.evV e with
      | .str s => bif r then newSeq d e h (.ty .bytes (s.map fun (b : Nat) => (b : Int))) false K else K (.vs false (.ty .bytes (s.map fun (b : Nat) => (b : Int)))) e h
      | _ => none
    | .mark => none
    | .b2s => match a.evV e with
      | .str _ => none
      | v => contentK h v fun s => match s with
        | .ty .bytes l => bif bytesOk l then K (.str (l.map Int.toNat)) e h else none
        | .raw _ [] => K (.str []) e h
        | _ => none
  | .mkfn f caps => bif (caps.map (·.evV e)).all okC2 then K (.fn f (caps.map (·.evV e))) e h else none
  | .mk r k z len cap => natV (len.evV e) fun l => natV (cap.evV e) fun c =>
      bif l.beq c && Nat.blt l 1000000000 && (z.map ofCell).all okC2 && z.length.beq k then
        (bif r then newSeq d e h (.raw k (List.replicate l (z.map ofCell))) true K else K (.vs true (.raw k (List.replicate l (z.map ofCell)))) e h) else none
  | .slice a k lo hi mx => sliceV e h k (a.evV e) lo hi mx fun v => K v e h
  | .faddr a off => match a.evV e with
    | .ptr c f => K (.ptr c (f + off)) e h
    | .ep c i f => K (.ep c i (f + off)) e h
    | .rptr cs => K (.rptr (cs.drop off)) e h
    | _ => none
  | .field a off g sz => match a.evV e with
    | .agg cs => partV cs off g sz fun v => K v e h
    | _ => none
  | .iaddr a i k arr => natV (i.evV e) fun j => match arr with
    | none => iaddrV h k j (a.evV e) fun v => K v e h
    | some n => match a.evV e with
      | .ptr c f => bif Nat.blt j n then K (.ptr c (f + j * k)) e h else none
      | .rptr cs => bif Nat.blt j n then K (.rptr (cs.drop (j * k))) e h else none
      | _ => none
  | .index a i arr => natV (i.evV e) fun j => match arr, a.evV e with
    | none, .str s => match s[j]? with
      | some b => K (.int .u8 (b : Int)) e h
      | none => none
    | some (n, k, g), .agg cs => bif Nat.blt j n then partV cs (j * k) g k fun v => K v e h else none
    | _, _ => none
  | .range a => match a.evV e, d with
    | .str s, some d => K (.ptr (.loc d) 0) (purge (.loc d) e) (h.put (.loc d) (some (.iter s 0)))
    | _, _ => none
  | .next a => match a.evV e with
    | .ptr c 0 => match h.get c with
      | some (.iter rest pos) => bif writable ba c then (match rest with
        | [] => K (.tup [.bool false]) e h
        | b :: bs => K (.tup [.bool true, .int .i64 pos, .int .i32 (decode (b :: bs)).1]) e (h.put c (some (.iter ((b :: bs).drop (decode (b :: bs)).2) (pos + (decode (b :: bs)).2))))) else none
      | _ => none
    | _ => none
  | .extract a i => match a.evV e with
    | .tup vs => match vs[i]? with
      | some v => K v e h
      | none => none
    | _ => none
  | .append r k lim a b => appendV ba d e h r k lim (a.evV e) (b.evV e) K
  | .len isS a => match isS, a.evV e with
    | true, .str s => K (.int .i64 (s.length : Int)) e h
    | true, _ => none
    | false, .str _ => none
    | false, v => lenV h v fun n => K (.int .i64 (n : Int)) e h
  | .min2 a b => match a.evV e, b.evV e with
    | .int k x, .int _ y => bif decide (y < x) then K (.int k y) e h else K (.int k x) e h
    | _, _ => none
  | .max2 a b => match a.evV e, b.evV e with
    | .int k x, .int _ y => bif decide (x < y) then K (.int k y) e h else K (.int k x) e h
    | _, _ => none
  | .call k f args [] => callV T fr ba d e h k f (args.map (·.evV e)) K
  | .call k f args snap => match k with
    | .wr => none
    | k => snapV h snap (args.map (·.evV e)) fun vs => callV T fr ba d e h k f vs fun v e h => bif scalarV v then K v e h else none
  | .callv k f args => match f.evV e with
    | .fn g caps => callV T fr ba d e h k g (args.map (·.evV e) ++ caps) K
    | _ => none
def putV (e : List V) (d : Option Nat) (v : V) : List V :=
  match d with
  | some n => e.set n v
  | none => e
def slotV (e : List V) (s : Nat) (A B : List V → Option RA) (U : Option RA) : Option RA := match e.getD s .undef with
  | .bool b => bif b then A (e.set s (.bool true)) else B (e.set s (.bool false))
  | .undef => U
  | _ => none
def sameV (arr : Bool) (v w : V) (K : Option RA) : Option RA :=
  match v, w with
  | .int k a, .int k' b => if k = k' ∧ a = b then K else none
  | .bool a, .bool b => if a = b then K else none
  | .str a, .str b => if a = b then K else none
  | .nilp, .nilp => K
  | .ptr c b, .ptr d b' => bif c.eqb d && b.beq b' && (arr || c.isSt) then K else none
  | .whole c, .whole d => bif c.eqb d && arr then K else none
  | _, _ => none
def againV (T : TV) (fr : Fr) (ba : Ba) (ops : List (Nat × AOper)) (i : Nat) (e : List V) (h : HV) (R : Option RA) : List (Nat × Nat) → Option RA
  | [] => R
  | (l, w) :: cs => bif w.beq i then (match ops.lookup l with
      | some o => match o.dst with
        | some d =>
          let rest := againV T fr ba ops i e h R cs
          let go : Option RA := match o.op with
            | .load g sz a => loadV h g sz (a.evV e) fun v => sameV true v (e.getD d .undef) rest
            | op => stepV T fr ba (some d) e h op fun v _ _ => sameV false v (e.getD d .undef) rest
          match o.guard with
          | none => go
          | some (s, t) => match e.getD s .undef with
            | .bool b => bif b == t then go else rest
            | _ => none
        | none => none
      | none => none) else againV T fr ba ops i e h R cs
def fzE : List V → (List V → Option RA) → Option RA
  | [], K => K []
  | x :: xs, K => fzE xs fun l => K (x :: l)
theorem fzE_eq : ∀ (e : List V) (K : List V → Option RA), fzE e K = K e
  | [], _ => rfl
  | x :: xs, K => (fzE_eq xs fun l => K (x :: l)).trans rfl
def rkV (T : TV) (fr : Fr) (ba : Ba) (all : List (Nat × AOper)) (chk : List (Nat × Nat)) : List (Nat × AOper) → List V → HV → (List V → HV → Option RA) → Option RA
  | [], e, h, R => R e h
  | (i, o) :: ops, e, h, R => fzE e fun e =>
    match o.guard with
    | none => match o.op with
      | .pick (.s s) a b => slotV e s (fun e => againV T fr ba all i (putV e o.dst (a.evV e)) h (rkV T fr ba all chk ops (putV e o.dst (a.evV e)) h R) chk)
          (fun e => againV T fr ba all i (putV e o.dst (b.evV e)) h (rkV T fr ba all chk ops (putV e o.dst (b.evV e)) h R) chk) none
      | op => stepV T fr ba o.dst e h op fun v e h => againV T fr ba all i (putV e o.dst v) h (rkV T fr ba all chk ops (putV e o.dst v) h R) chk
    | some (s, true) => slotV e s (fun e => stepV T fr ba o.dst e h o.op fun v e h => againV T fr ba all i (putV e o.dst v) h (rkV T fr ba all chk ops (putV e o.dst v) h R) chk)
        (fun e => againV T fr ba all i (putV e o.dst .undef) h (rkV T fr ba all chk ops (putV e o.dst .undef) h R) chk)
        (againV T fr ba all i (putV e o.dst .undef) h (rkV T fr ba all chk ops (putV e o.dst .undef) h R) chk)
    | some (s, false) => slotV e s (fun e => againV T fr ba all i (putV e o.dst .undef) h (rkV T fr ba all chk ops (putV e o.dst .undef) h R) chk)
        (fun e => stepV T fr ba o.dst e h o.op fun v e h => againV T fr ba all i (putV e o.dst v) h (rkV T fr ba all chk ops (putV e o.dst v) h R) chk)
        (againV T fr ba all i (putV e o.dst .undef) h (rkV T fr ba all chk ops (putV e o.dst .undef) h R) chk)
def keepE (l : List Nat) (e : List V) : List V := e.zipIdx.map fun (v, i) => bif l.contains i then v else .any
def V.loc? : V → Option Nat
  | .ptr (.loc d) _ => some d
  | .whole (.loc d) => some d
  | .ref (.loc d) _ _ => some d
  | .ep (.loc d) _ _ => some d
  | _ => none
def liveLocs : List V → List Nat
  | [] => []
  | v :: e => match v.loc? with
    | some d => d :: liveLocs e
    | none => liveLocs e
def gcLo (lo : Tq O2) : List Nat → Tq O2
  | [] => .lf
  | d :: ds => match lo.get d with
    | some o => (gcLo lo ds).set d (some o)
    | none => gcLo lo ds
def fzT : Tq O2 → (Tq O2 → Option RA) → Option RA
  | .lf, K => K .lf
  | .nd v l r, K => fzT l fun l => fzT r fun r => K (.nd v l r)
theorem fzT_eq : ∀ (t : Tq O2) (K : Tq O2 → Option RA), fzT t K = K t
  | .lf, _ => rfl
  | .nd v l r, K => by
    show fzT l _ = _
    rw [fzT_eq l, fzT_eq r]
def ghostV (ba : Ba) (g : Gh) (e : List V) (h : HV) (K : List V → HV → Option RA) : Option RA :=
  match g with
  | .frz n => match e.getD n .undef with
    | .whole c => bif writable ba c then (match h.get c with
      | some (.seq s true) => bif Nat.ble s.kk 1000000 then K ((purge c e).set n (.vs false s)) (cut h c) else none
      | _ => none) else none
    | _ => bif okC2 (e.getD n .undef) then K e h else none
  | .frzm n off0 => match e.getD n .undef with
    | .ptr (.st o) f => bif Nat.ble ba.b o then (match h.get (.st o) with
      | some (.arr cells) => match cells[f + off0]? with
        | some (.whole c) => match h.get c with
          | some (.seq s true) => bif c.eqb (.cell o (f + off0)) && Nat.ble s.kk 1000000 then K (purge c e) ((h.put c none).put (.st o) (some (.arr (cells.set (f + off0) (.vs false s))))) else none
          | _ => none
        | some v => bif okC2 v then K e (h.put (.st o) (some (.arr cells))) else none
        | none => none
      | _ => none) else none
    | _ => none
  | .keep l => fzE (keepE l e) fun e => fzT (gcLo h.lo (liveLocs e)) fun lo => K e (h.wlo lo)
  | .note op n u l => bif op.beq 0 then (match e.getD n .undef with   -- a slot's contents are of a kind
      | .vs f s => s.tyK (U.ofCode u) fun s => K (e.set n (.vs f s)) h
      | .whole c => match h.get c with
        | some (.seq s b) => bif s.isCons then s.tyK (U.ofCode u) fun s => K e (h.put c (some (.seq s b))) else none
        | _ => none
      | _ => none)
    else bif op.beq 1 then (match e.getD n .undef with   -- an empty slice that may grow
      | .vs true s => bif s.isNil then K ((purge (.loc n) e).set n (.whole (.loc n))) (h.put (.loc n) (some (.seq (.ty (U.ofCode u) []) true))) else none
      | _ => none)
    else bif op.beq 2 then (match e.getD n .undef, l with   -- the same in a cell
      | .ptr (.st o) _, [off] => match h.get (.st o) with
        | some (.arr cells) => match cells[off]? with
          | some (.vs true s) => bif s.isNil then K (purge (.cell o off) e) ((h.put (.cell o off) (some (.seq (.ty (U.ofCode u) []) true))).put (.st o) (some (.arr (cells.set off (.whole (.cell o off)))))) else none
          | _ => none
        | _ => none
      | _, _ => none)
    else bif op.beq 3 then (match e.getD n .undef, l with   -- a cell's contents are of a kind
      | .ptr (.st o) _, [off] => match h.get (.st o) with
        | some (.arr cells) => match cells[off]? with
          | some (.vs f s) => s.tyK (U.ofCode u) fun s => K e (h.put (.st o) (some (.arr (cells.set off (.vs f s)))))
          | some (.whole c) => match h.get c with
            | some (.seq s b) => bif s.isCons then s.tyK (U.ofCode u) fun s => K e (h.put c (some (.seq s b))) else none
            | _ => none
          | _ => none
        | _ => none
      | _, _ => none) else none
abbrev KT := AEx → List V → HV → Option RA
def elV (T : TV) (fr : Fr) (ba : Ba) (LK : ACode → List V → HV → KT → Option RA) : ACode → List V → HV → KT → Option RA
  | .skip, e, h, K => K .normal e h
  | .region ops chk, e, h, K => rkV T fr ba ops chk ops e h (K .normal)
  | .seq a b, e, h, K => elV T fr ba LK a e h fun x e h => match x with
    | .normal => elV T fr ba LK b e h K
    | x => K x e h
  | .cond y a b, e, h, K => match y with
    | .s s => slotV e s (fun e => elV T fr ba LK a e h K) (fun e => elV T fr ba LK b e h K) none
    | .c v => match v with
      | .bool t => bif t then elV T fr ba LK a e h K else elV T fr ba LK b e h K
      | _ => none
  | .block i a, e, h, K => elV T fr ba LK a e h fun x e h => match x with
    | .exit j => bif j.beq i then K .normal e h else K (.exit j) e h
    | x => K x e h
  | .loop a, e, h, K => LK a e h K
  | .exit i, e, h, K => K (.exit i) e h
  | .ret, e, h, K => K .ret e h
  | .ghost g, e, h, K => ghostV ba g e h (K .normal)
def lpV (T : TV) (fr : Fr) (ba : Ba) : Nat → ACode → List V → HV → KT → Option RA
  | 0, _, _, _, _ => none
  | n + 1, a, e, h, K => elV T fr ba (lpV T fr ba n) a e h fun x e h => match x with
    | .normal => lpV T fr ba n a e h K
    | x => K x e h
def resV1 (e : List V) (h : HV) (r : ARes) (K : V → Option RA) : Option RA :=
  match r with
  | .slot n => K (e.getD n .undef)
  | .cell n g sz => loadV h g sz (e.getD n .undef) K
def resVL (e : List V) (h : HV) : List ARes → (List V → Option RA) → Option RA
  | [], K => K []
  | r :: rs, K => resV1 e h r fun v => resVL e h rs fun vs => bif okF v then K (v :: vs) else none
def retV (res : List ARes) : AEx → List V → HV → Option RA := fun x e h => bif x.back then (match res with
      | [r] => resV1 e h r fun v => match v with
        | .whole (.loc d) => match h.lo.get d with
          | some (.seq s b) => some (.whole (.loc 1000), h.wlo .lf, [.seq s b])
          | _ => none
        | _ => bif okF v then some (v, h.wlo .lf, []) else none
      | rs => resVL e h rs fun vs => some (.tup vs, h.wlo .lf, [])) else none
def undefsV (n : Nat) : List V := List.replicate n .undef
end Go.Am
namespace Go.Am
inductive Pos where
  | obj (q : Nat)
  | arr (q k n : Nat)
  | virt
abbrev Th := Cd → Option Pos
def Pos.q : Pos → Option Nat
  | .obj q => some q
  | .arr q _ _ => some q
  | .virt => none
mutual
inductive VC (θ : Th) : V → AV → Prop
  | int (k : IntKind) (n : Int) : VC θ (.int k n) (.int k n)
  | bool (b : Bool) : VC θ (.bool b) (.bool b)
  | str (s : List Nat) : VC θ (.str s) (.str s)
  | nilp : VC θ .nilp .nilp
  | nilfn : VC θ .nilfn .nilfn
  | ptr (o off q : Nat) : θ (.st o) = some (.obj q) → VC θ (.ptr (.st o) off) (.ptr q 0 off)
  | rptr (cs : List V) (ds : List AV) : VCL θ cs ds → VC θ (.rptr cs) (.rptr ds)
  | vs (f g : Bool) (s : Sq) (rows : List (List AV)) : (f = true → g = true) → VCR θ s.rows rows → VC θ (.vs f s) (.vs g rows)
  | fn (f : Nat) (cs : List V) (ds : List AV) : VCL θ cs ds → VC θ (.fn f cs) (.fn f ds)
inductive VCL (θ : Th) : List V → List AV → Prop
  | nil : VCL θ [] []
  | cons (v : V) (a : AV) (vs : List V) (as : List AV) : VC θ v a → VCL θ vs as → VCL θ (v :: vs) (a :: as)
inductive VCR (θ : Th) : List (List V) → List (List AV) → Prop
  | nil : VCR θ [] []
  | cons (r : List V) (x : List AV) (rs : List (List V)) (xs : List (List AV)) : VCL θ r x → VCR θ rs xs → VCR θ (r :: rs) (x :: xs)
end
inductive VF (θ : Th) : V → AV → Prop
  | cell {v : V} {a : AV} : VC θ v a → VF θ v a
  | agg {cs : List V} {ds : List AV} : VCL θ cs ds → VF θ (.agg cs) (.agg ds)
inductive VFL (θ : Th) : List V → List AV → Prop
  | nil : VFL θ [] []
  | cons {v : V} {a : AV} {vs : List V} {as : List AV} : VF θ v a → VFL θ vs as → VFL θ (v :: vs) (a :: as)
inductive VT (θ : Th) : V → AV → Prop
  | flat {v : V} {a : AV} : VF θ v a → VT θ v a
  | tup {vs : List V} {as : List AV} : VFL θ vs as → VT θ (.tup vs) (.tup as)
  | undef : VT θ .undef .undef
  | any (a : AV) : VT θ .any a
  | fn (f : Nat) {cs : List V} {ds : List AV} : VCL θ cs ds → VT θ (.fn f cs) (.fn f ds)
  | ptr (d off q : Nat) : θ (.loc d) = some (.obj q) → VT θ (.ptr (.loc d) off) (.ptr q 0 off)
  | whole (c : Cd) (q k n : Nat) : θ c = some (.arr q k n) → VT θ (.whole c) (.ref q k 0 n)
  | wholeV (c : Cd) : θ c = some .virt → VT θ (.whole c) (.vs true [])
  | ref (c : Cd) (off len q k n : Nat) : θ c = some (.arr q k n) → off + len ≤ n → VT θ (.ref c off len) (.ref q k off len)
  | refE (c : Cd) (off q k n : Nat) (f : Bool) : θ c = some (.arr q k n) → off ≤ n → 0 < off → VT θ (.ref c off 0) (.vs f [])
  | refV (c : Cd) : θ c = some .virt → VT θ (.ref c 0 0) (.vs true [])
  | ep (c : Cd) (i off q k n : Nat) : θ c = some (.arr q k n) → i < n → VT θ (.ep c i off) (.ptr q i off)
inductive VTL (θ : Th) : List V → List AV → Prop
  | nil : VTL θ [] []
  | cons {v : V} {a : AV} {vs : List V} {as : List AV} : VT θ v a → VTL θ vs as → VTL θ (v :: vs) (a :: as)
inductive CR (θ : Th) (c : Cd) (i : Nat) : V → AV → Prop
  | cell {v : V} {a : AV} : VC θ v a → CR θ c i v a
  | any (a : AV) : CR θ c i .any a
  | own (o : Nat) {a : AV} : c = .st o → VT θ (.whole (.cell o i)) a → CR θ c i (.whole (.cell o i)) a
inductive CRL (θ : Th) (c : Cd) : Nat → List V → List AV → Prop
  | nil (i : Nat) : CRL θ c i [] []
  | cons {i : Nat} {v : V} {a : AV} {vs : List V} {as : List AV} : CR θ c i v a → CRL θ c (i + 1) vs as → CRL θ c i (v :: vs) (a :: as)
inductive OR (θ : Th) (h1 : H) (c : Cd) : O2 → Prop
  | arr (cells : List V) (ds : List AV) (q : Nat) : θ c = some (.obj q) → h1.get q = some (.arr ds.length [ds]) → CRL θ c 0 cells ds → OR θ h1 c (.arr cells)
  | iter (rest : List Nat) (pos q : Nat) : θ c = some (.obj q) → h1.get q = some (.iter rest pos) → OR θ h1 c (.iter rest pos)
  | seq (s : Sq) (b : Bool) (q k : Nat) (R : List (List AV)) : θ c = some (.arr q k s.len) → h1.get q = some (.arr k R) → s.len ≤ R.length → VCR θ s.rows (R.take s.len) → s.kIs k = true →
      (b = true → R.length = s.len ∧ R.length ≤ 1000000000) → c.isSt = false → OR θ h1 c (.seq s b)
  | virt (s : Sq) (b : Bool) : θ c = some .virt → s.rows = [] → c.isSt = false → OR θ h1 c (.seq s b)
structure RH (θ : Th) (ba : Ba) (base : Nat) (h : HV) (h1 : H) : Prop where
  dead : ∀ c, h.get c = none → θ c = none
  live : ∀ c x, h.get c = some x → OR θ h1 c x
  inj : ∀ c c' p p' q, θ c = some p → θ c' = some p' → p.q = some q → p'.q = some q → c = c'
  lt : ∀ c p q, θ c = some p → p.q = some q → q < h1.next
  nx : ∀ o, h.next ≤ o → h.get (.st o) = none
  wr : ∀ c p q, θ c = some p → p.q = some q → writable ba c = true → base ≤ q
  bn : base ≤ h1.next
  nxc : ∀ o i, h.next ≤ o → h.get (.cell o i) = none
section
variable {θ θ' : Th} {ba : Ba} {base : Nat} {h h' : HV} {h1 h1' : H}
theorem VCL.length {vs : List V} {as : List AV} (h : VCL θ vs as) : vs.length = as.length := by
  induction vs generalizing as with
  | nil => cases h; rfl
  | cons v vs ih => cases h with | cons _ a _ as h1 h2 => simp [ih h2]
theorem VCR.length {vs : List (List V)} {as : List (List AV)} (h : VCR θ vs as) : vs.length = as.length := by
  induction vs generalizing as with
  | nil => cases h; rfl
  | cons v vs ih => cases h with | cons _ a _ as h1 h2 => simp [ih h2]
theorem VTL.length {vs : List V} {as : List AV} (h : VTL θ vs as) : vs.length = as.length := by
  induction vs generalizing as with
  | nil => cases h; rfl
  | cons v vs ih => cases h with | cons h1 h2 => simp [ih h2]
theorem VCL.drop {vs : List V} {as : List AV} (h : VCL θ vs as) (n : Nat) : VCL θ (vs.drop n) (as.drop n) := by
  induction n generalizing vs as with
  | zero => simpa using h
  | succ n ih => cases h with | nil => simpa using VCL.nil | cons _ _ _ _ h1 h2 => simpa using ih h2
theorem VCL.take {vs : List V} {as : List AV} (h : VCL θ vs as) (n : Nat) : VCL θ (vs.take n) (as.take n) := by
  induction n generalizing vs as with
  | zero => simpa using VCL.nil
  | succ n ih => cases h with | nil => simpa using VCL.nil | cons _ _ _ _ h1 h2 => simpa using VCL.cons _ _ _ _ h1 (ih h2)
theorem VCL.append {vs ws : List V} {as bs : List AV} (h : VCL θ vs as) (h' : VCL θ ws bs) : VCL θ (vs ++ ws) (as ++ bs) := by
  induction vs generalizing as with
  | nil => cases h; simpa using h'
  | cons v vs ih => cases h with | cons _ _ _ _ h1 h2 => simpa using VCL.cons _ _ _ _ h1 (ih h2)
theorem VCL.get {vs : List V} {as : List AV} (h : VCL θ vs as) {i : Nat} {v : V} (e : vs[i]? = some v) : ∃ a, as[i]? = some a ∧ VC θ v a := by
  induction vs generalizing as i with
  | nil => simp at e
  | cons w vs ih => cases h with | cons _ a _ as h1 h2 =>
    cases i with
    | zero => simp at e; subst e; exact ⟨a, rfl, h1⟩
    | succ i => simp at e; simpa using ih h2 e
theorem VCR.drop {vs : List (List V)} {as : List (List AV)} (h : VCR θ vs as) (n : Nat) : VCR θ (vs.drop n) (as.drop n) := by
  induction n generalizing vs as with
  | zero => simpa using h
  | succ n ih => cases h with | nil => simpa using VCR.nil | cons _ _ _ _ h1 h2 => simpa using ih h2
theorem VCR.take {vs : List (List V)} {as : List (List AV)} (h : VCR θ vs as) (n : Nat) : VCR θ (vs.take n) (as.take n) := by
  induction n generalizing vs as with
  | zero => simpa using VCR.nil
  | succ n ih => cases h with | nil => simpa using VCR.nil | cons _ _ _ _ h1 h2 => simpa using VCR.cons _ _ _ _ h1 (ih h2)
theorem VCR.append {vs ws : List (List V)} {as bs : List (List AV)} (h : VCR θ vs as) (h' : VCR θ ws bs) : VCR θ (vs ++ ws) (as ++ bs) := by
  induction vs generalizing as with
  | nil => cases h; simpa using h'
  | cons v vs ih => cases h with | cons _ _ _ _ h1 h2 => simpa using VCR.cons _ _ _ _ h1 (ih h2)
theorem VCR.get {vs : List (List V)} {as : List (List AV)} (h : VCR θ vs as) {i : Nat} {v : List V} (e : vs[i]? = some v) : ∃ a, as[i]? = some a ∧ VCL θ v a := by
  induction vs generalizing as i with
  | nil => simp at e
  | cons w vs ih => cases h with | cons _ a _ as h1 h2 =>
    cases i with
    | zero => simp at e; subst e; exact ⟨a, rfl, h1⟩
    | succ i => simp at e; simpa using ih h2 e
theorem VCR.set {vs : List (List V)} {as : List (List AV)} (h : VCR θ vs as) {r : List V} {x : List AV} (hr : VCL θ r x) (i : Nat) : VCR θ (vs.set i r) (as.set i x) := by
  induction vs generalizing as i with
  | nil => cases h; simpa using VCR.nil
  | cons w vs ih => cases h with | cons _ a _ as h1 h2 =>
    cases i with
    | zero => simpa using VCR.cons _ _ _ _ hr h2
    | succ i => simpa using VCR.cons _ _ _ _ h1 (ih h2 i)
theorem VCR.replicate {r : List V} {x : List AV} (hr : VCL θ r x) (n : Nat) : VCR θ (List.replicate n r) (List.replicate n x) := by
  induction n with
  | zero => exact .nil
  | succ n ih => exact .cons _ _ _ _ hr ih
theorem VCL.setc {vs ws : List V} {as bs : List AV} (h : VCL θ vs as) (h' : VCL θ ws bs) (off : Nat) : VCL θ (setCellsV vs off ws) (setCells as off bs) := by
  unfold setCellsV setCells
  rw [h'.length]
  exact ((h.take off).append h').append (h.drop _)
theorem VTL.getD {vs : List V} {as : List AV} (h : VTL θ vs as) (n : Nat) : VT θ (vs.getD n .undef) (as.getD n .undef) := by
  induction vs generalizing as n with
  | nil => cases h; simpa using .undef
  | cons v vs ih => cases h with | cons h1 h2 =>
    cases n with
    | zero => simpa using h1
    | succ n => simpa using ih h2 n
theorem VTL.set {vs : List V} {as : List AV} (h : VTL θ vs as) {v : V} {a : AV} (hv : VT θ v a) (n : Nat) : VTL θ (vs.set n v) (as.set n a) := by
  induction vs generalizing as n with
  | nil => cases h; simpa using .nil
  | cons w vs ih => cases h with | cons h1 h2 =>
    cases n with
    | zero => simpa using VTL.cons hv h2
    | succ n => simpa using VTL.cons h1 (ih h2 n)
theorem VTL.setA {vs : List V} {as : List AV} (h : VTL θ vs as) {v : V} (n : Nat) (hv : VT θ v (as.getD n .undef)) : VTL θ (vs.set n v) as := by
  have := h.set hv n
  rwa [setSelfA] at this
where
  setSelfA {e : List AV} {s : Nat} : e.set s (e.getD s .undef) = e := by
    refine List.ext_getElem (by simp) fun i h1 h2 => ?_
    rw [List.getElem_set]
    split
    · rename_i hs
      subst hs
      rw [List.getD_eq_getElem?_getD, List.getElem?_eq_getElem h2]; rfl
    · rfl
theorem VTL.put {vs : List V} {as : List AV} (h : VTL θ vs as) {v : V} {a : AV} (hv : VT θ v a) (d : Option Nat) : VTL θ (putV vs d v) (putDst as d a) := by
  cases d with
  | none => exact h
  | some n => exact h.set hv n
theorem VTL.append {vs ws : List V} {as bs : List AV} (h : VTL θ vs as) (h' : VTL θ ws bs) : VTL θ (vs ++ ws) (as ++ bs) := by
  induction vs generalizing as with
  | nil => cases h; simpa using h'
  | cons v vs ih => cases h with | cons h1 h2 => simpa using VTL.cons h1 (ih h2)
def Th.le (θ θ' : Th) : Prop := ∀ o q, θ (.st o) = some (.obj q) → θ' (.st o) = some (.obj q)
theorem Th.le_refl (θ : Th) : θ.le θ := fun _ _ e => e
theorem Th.le_trans {a b c : Th} (x : a.le b) (y : b.le c) : a.le c := fun o q e => y o q (x o q e)
mutual
theorem VC.mono (l : θ.le θ') : ∀ {v : V} {a : AV}, VC θ v a → VC θ' v a
  | _, _, .int k n => .int k n
  | _, _, .bool b => .bool b
  | _, _, .str s => .str s
  | _, _, .nilp => .nilp
  | _, _, .nilfn => .nilfn
  | _, _, .ptr o off q e => .ptr o off q (l o q e)
  | _, _, .rptr cs ds e => .rptr cs ds (VCL.mono l e)
  | _, _, .vs f g s rows e1 e2 => .vs f g s rows e1 (VCR.mono l e2)
  | _, _, .fn f cs ds e => .fn f cs ds (VCL.mono l e)
theorem VCL.mono (l : θ.le θ') : ∀ {v : List V} {a : List AV}, VCL θ v a → VCL θ' v a
  | _, _, .nil => .nil
  | _, _, .cons _ _ _ _ a b => .cons _ _ _ _ (VC.mono l a) (VCL.mono l b)
theorem VCR.mono (l : θ.le θ') : ∀ {v : List (List V)} {a : List (List AV)}, VCR θ v a → VCR θ' v a
  | _, _, .nil => .nil
  | _, _, .cons _ _ _ _ a b => .cons _ _ _ _ (VCL.mono l a) (VCR.mono l b)
end
theorem VF.mono (l : θ.le θ') {v : V} {a : AV} (x : VF θ v a) : VF θ' v a := by
  cases x with
  | cell h => exact .cell (h.mono l)
  | agg h => exact .agg (h.mono l)
theorem VFL.mono (l : θ.le θ') {v : List V} {a : List AV} (x : VFL θ v a) : VFL θ' v a := by
  induction x with
  | nil => exact .nil
  | cons h _ ih => exact .cons (h.mono l) ih
theorem VT.mono (l : θ.le θ') {v : V} {a : AV} (x : VT θ v a) (k : ∀ c, v.at c = true → θ' c = θ c) : VT θ' v a := by
  cases x with
  | flat h => exact .flat (h.mono l)
  | tup h => exact .tup (h.mono l)
  | undef => exact .undef
  | any => exact .any _
  | fn f h => exact .fn f (h.mono l)
  | ptr d off q e => exact .ptr d off q (by rw [k _ (by simp [V.at, Cd.eqb])]; exact e)
  | whole c q n m e => exact .whole c q n m (by rw [k c (by simp [V.at, Cd.eqb_iff])]; exact e)
  | wholeV c e => exact .wholeV c (by rw [k c (by simp [V.at, Cd.eqb_iff])]; exact e)
  | ref c off len q n m e h => exact .ref c off len q n m (by rw [k c (by simp [V.at, Cd.eqb_iff])]; exact e) h
  | refE c off q n m f e h h' => exact .refE c off q n m f (by rw [k c (by simp [V.at, Cd.eqb_iff])]; exact e) h h'
  | refV c e => exact .refV c (by rw [k c (by simp [V.at, Cd.eqb_iff])]; exact e)
  | ep c i off q n m e h => exact .ep c i off q n m (by rw [k c (by simp [V.at, Cd.eqb_iff])]; exact e) h
theorem VTL.purge (l : θ.le θ') {vs : List V} {as : List AV} (x : VTL θ vs as) (c : Cd) (k : ∀ d, d ≠ c → θ' d = θ d) : VTL θ' (purge c vs) as := by
  induction x with
  | nil => exact .nil
  | cons h _ ih =>
    rename_i v a vs as _
    refine .cons ?_ ih
    show VT θ' (bif v.at c then .any else v) a
    cases hv : v.at c with
    | true => exact .any _
    | false => exact h.mono l fun d hd => k d fun e => by subst e; rw [hv] at hd; cases hd
theorem CR.mono (l : θ.le θ') {c : Cd} {i : Nat} {v : V} {a : AV} (x : CR θ c i v a) (k : ∀ o, c = .st o → v = .whole (.cell o i) → θ' (.cell o i) = θ (.cell o i)) : CR θ' c i v a := by
  cases x with
  | cell h => exact .cell (h.mono l)
  | any => exact .any _
  | own o e h => exact .own o e (h.mono l fun d hd => by
      simp only [V.at, Cd.eqb_iff] at hd; subst hd; exact k o e rfl)
end
end Go.Am
namespace Go.Am
section
variable {θ θ' : Th} {ba : Ba} {base : Nat} {h h' : HV} {h1 h1' : H} {e : List V} {e1 : List AV}
theorem ofCell_ok {v : AV} (h : okC2 (ofCell v) = true) : VC θ (ofCell v) v := by
  cases v <;> simp only [ofCell, okC2, Bool.false_eq_true] at h ⊢ <;> try (first | exact .int _ _ | exact .bool _ | exact .str _ | exact .nilp | exact .nilfn)
  · rename_i f xs
    cases xs with
    | nil => exact .vs _ _ _ _ id .nil
    | cons => simp [okC2] at h
  · rename_i f cs
    cases cs with
    | nil => exact .fn _ _ _ .nil
    | cons => simp [okC2] at h
theorem ofCells_ok {z : List AV} (h : (z.map ofCell).all okC2 = true) : VCL θ (z.map ofCell) z := by
  induction z with
  | nil => exact .nil
  | cons a z ih =>
    simp only [List.map_cons, List.all_cons, Bool.and_eq_true] at h
    exact .cons _ _ _ _ (ofCell_ok h.1) (ih h.2)
theorem ofCell_vt (v : AV) : VT θ (ofCell v) v := by
  by_cases h : okC2 (ofCell v) = true
  · exact .flat (.cell (ofCell_ok h))
  · have : ofCell v = .any := by
      cases v <;> simp only [ofCell, okC2] at h ⊢ <;> try contradiction
      all_goals (rename_i xs; cases xs <;> simp_all [okC2])
    rw [this]; exact .any _
theorem ofAV_vt (v : AV) : VT θ (ofAV v) v := by
  cases v
  case agg cs =>
    simp only [ofAV]
    cases h : (cs.map ofCell).all okC2 with
    | true => exact .flat (.agg (ofCells_ok h))
    | false => exact .any _
  case undef => exact .undef
  all_goals (simp only [ofAV]; exact ofCell_vt _)
theorem VTL.ev (he : VTL θ e e1) (a : AO) : VT θ (a.evV e) (a.ev e1) := by
  cases a with
  | s n => exact he.getD n
  | c v => exact ofAV_vt v
theorem VT.okC2 {v : V} {a : AV} (h : VT θ v a) (k : okC2 v = true) : VC θ v a := by
  cases h with
  | flat h => cases h with
    | cell h => exact h
    | agg h => cases k
  | fn f h => exact .fn f _ _ h
  | _ => cases k
theorem VT.okF {v : V} {a : AV} (h : VT θ v a) (k : okF v = true) : VF θ v a := by
  cases h with
  | flat h => exact h
  | fn f h => exact .cell (.fn f _ _ h)
  | _ => cases k
theorem VC.okv {v : V} {a : AV} (h : VC θ v a) : a.okv = true ∧ a.isAgg = false ∧ a.cells = [a] ∧ v.cells = [v] := by
  cases h <;> exact ⟨rfl, rfl, rfl, rfl⟩
theorem VF.okv {v : V} {a : AV} (h : VF θ v a) : a.okv = true := by
  cases h with
  | cell h => exact h.okv.1
  | agg h => rfl
theorem VF.cells {v : V} {a : AV} (h : VF θ v a) : VCL θ v.cells a.cells := by
  cases h with
  | cell h => rw [h.okv.2.2.1, h.okv.2.2.2]; exact .cons _ _ _ _ h .nil
  | agg h => exact h
theorem VCL.okC2 {vs : List V} {as : List AV} (h : VCL θ vs as) : vs.all Go.Am.okC2 = true → True := fun _ => trivial
def Th.upd (θ : Th) (c : Cd) (p : Option Pos) : Th := fun d => if d = c then p else θ d
theorem Th.upd_same (θ : Th) (c : Cd) (p : Option Pos) : θ.upd c p c = p := if_pos rfl
theorem Th.upd_other (θ : Th) {c d : Cd} (h : d ≠ c) (p : Option Pos) : θ.upd c p d = θ d := if_neg h
theorem Th.le_upd (θ : Th) {c : Cd} (h : c.isSt = false) (p : Option Pos) : θ.le (θ.upd c p) := by
  intro o q e
  rw [Th.upd_other θ (by intro q; subst q; cases h) p]; exact e
theorem CRL.mono (l : θ.le θ') {c : Cd} : ∀ {i : Nat} {vs : List V} {as : List AV}, CRL θ c i vs as → (∀ o j, c = .st o → vs[j]? = some (.whole (.cell o (i + j))) → θ' (.cell o (i + j)) = θ (.cell o (i + j))) → CRL θ' c i vs as
  | _, _, _, .nil i, _ => .nil i
  | i, v :: vs, a :: as, .cons h1 h2, k => .cons (h1.mono l fun o e q => by subst q; simpa using k o 0 e rfl)
      (CRL.mono l h2 fun o j e q => by
        have := k o (j + 1) e (by simpa [Nat.add_assoc, Nat.add_comm 1 j] using q)
        simpa [Nat.add_assoc, Nat.add_comm 1 j] using this)
theorem CRL.get {c : Cd} : ∀ {i j : Nat} {vs : List V} {as : List AV}, CRL θ c i vs as → ∀ {v : V}, vs[j]? = some v → ∃ a, as[j]? = some a ∧ CR θ c (i + j) v a
  | _, _, _, _, .nil _, v, e => by simp at e
  | i, 0, _, _, .cons h1 h2, v, e => by simp at e; subst e; exact ⟨_, rfl, h1⟩
  | i, j + 1, _, _, .cons h1 h2, v, e => by
    simp at e
    obtain ⟨a, q1, q2⟩ := h2.get e
    exact ⟨a, by simpa using q1, by rw [show i + (j + 1) = i + 1 + j by omega]; exact q2⟩
theorem CRL.length {c : Cd} : ∀ {i : Nat} {vs : List V} {as : List AV}, CRL θ c i vs as → vs.length = as.length
  | _, _, _, .nil _ => rfl
  | _, _, _, .cons _ h2 => by simp [h2.length]
theorem CRL.set {c : Cd} : ∀ {i j : Nat} {vs : List V} {as : List AV}, CRL θ c i vs as → ∀ {v : V} {a : AV}, CR θ c (i + j) v a → CRL θ c i (vs.set j v) (as.set j a)
  | _, _, _, _, .nil _, v, a, e => by simpa using CRL.nil _
  | i, 0, _, _, .cons h1 h2, v, a, e => by simpa using CRL.cons e h2
  | i, j + 1, _, _, .cons h1 h2, v, a, e => by
    have := h2.set (j := j) (v := v) (a := a) (by rw [show i + 1 + j = i + (j + 1) by omega]; exact e)
    simpa using CRL.cons h1 this
theorem CRL.setAny {c : Cd} : ∀ {i j : Nat} {vs : List V} {as : List AV}, CRL θ c i vs as → CRL θ c i (vs.set j .any) as
  | _, _, _, _, .nil _ => by simpa using CRL.nil _
  | i, 0, _, _, .cons h1 h2 => by simpa using CRL.cons (.any _) h2
  | i, j + 1, _, _, .cons h1 h2 => by simpa using CRL.cons h1 (h2.setAny (j := j))
theorem CRL.drop {c : Cd} : ∀ {i : Nat} (n : Nat) {vs : List V} {as : List AV}, CRL θ c i vs as → CRL θ c (i + n) (vs.drop n) (as.drop n)
  | i, 0, _, _, h => by simpa using h
  | i, n + 1, _, _, .nil _ => by simpa using CRL.nil _
  | i, n + 1, _, _, .cons h1 h2 => by
    have := h2.drop n
    rw [show i + (n + 1) = i + 1 + n by omega]; simpa using this
theorem CRL.take {c : Cd} : ∀ {i : Nat} (n : Nat) {vs : List V} {as : List AV}, CRL θ c i vs as → CRL θ c i (vs.take n) (as.take n)
  | i, 0, _, _, h => by simpa using CRL.nil _
  | i, n + 1, _, _, .nil _ => by simpa using CRL.nil _
  | i, n + 1, _, _, .cons h1 h2 => by simpa using CRL.cons h1 (h2.take n)
theorem CRL.append {c : Cd} : ∀ {i : Nat} {vs ws : List V} {as bs : List AV}, CRL θ c i vs as → CRL θ c (i + vs.length) ws bs → CRL θ c i (vs ++ ws) (as ++ bs)
  | i, _, _, _, _, .nil _, h => by simpa using h
  | i, v :: vs, _, _, _, .cons h1 h2, h => by
    have := h2.append (by rw [show i + 1 + vs.length = i + (vs.length + 1) by omega]; exact h)
    simpa using CRL.cons h1 this
theorem VCL.crl {c : Cd} : ∀ {vs : List V} {as : List AV} (i : Nat), VCL θ vs as → CRL θ c i vs as
  | _, _, i, .nil => .nil i
  | _, _, i, .cons _ _ _ _ h1 h2 => .cons (.cell h1) (h2.crl (i + 1))
theorem CRL.vcl {c : Cd} : ∀ {i : Nat} {vs : List V} {as : List AV}, CRL θ c i vs as → vs.all Go.Am.okC2 = true → VCL θ vs as
  | _, _, _, .nil _, _ => .nil
  | i, v :: vs, a :: as, .cons h1 h2, k => by
    simp only [List.all_cons, Bool.and_eq_true] at k
    refine .cons _ _ _ _ ?_ (h2.vcl k.2)
    cases h1 with
    | cell h => exact h
    | any => cases k.1
    | own o e q => cases k.1
theorem OR.pos {c : Cd} {x : O2} (h : OR θ h1 c x) : ∃ p, θ c = some p := by
  cases h with
  | arr _ _ q e => exact ⟨_, e⟩
  | iter _ _ q e => exact ⟨_, e⟩
  | seq _ _ q k R e => exact ⟨_, e⟩
  | virt _ _ e => exact ⟨_, e⟩
theorem OR.move (l : θ.le θ') {c : Cd} {x : O2} (h : OR θ h1 c x) (e : θ' c = θ c) (kc : ∀ o j cells, x = .arr cells → c = .st o → cells[j]? = some (.whole (.cell o j)) → θ' (.cell o j) = θ (.cell o j))
    (k : ∀ p q, θ c = some p → p.q = some q → h1'.get q = h1.get q) : OR θ' h1' c x := by
  cases h with
  | arr cells ds q a b d => exact .arr cells ds q (by rw [e]; exact a) (by rw [k _ q a rfl]; exact b) (d.mono l fun o j e1 e2 => by rw [Nat.zero_add] at e2 ⊢; exact kc o j cells rfl e1 e2)
  | iter rest pos q a b => exact .iter rest pos q (by rw [e]; exact a) (by rw [k _ q a rfl]; exact b)
  | seq s b q k' R a c1 c2 c3 c4 c5 c6 => exact .seq s b q k' R (by rw [e]; exact a) (by rw [k _ q a rfl]; exact c1) c2 (c3.mono l) c4 c5 c6
  | virt s b a c1 c2 => exact .virt s b (by rw [e]; exact a) c1 c2
theorem RH.pos (r : RH θ ba base h h1) {c : Cd} {p : Pos} (e : θ c = some p) : ∃ x, h.get c = some x := by
  cases hg : h.get c with
  | none => rw [r.dead c hg] at e; cases e
  | some x => exact ⟨x, rfl⟩
structure Grow (θ θ' : Th) (h1 h1' : H) : Prop where
  le : θ.le θ'
  keep : ∀ q, q < h1.next → (∀ c p, θ c = some p → p.q ≠ some q) → h1'.get q = h1.get q
  ran : ∀ c p q, θ' c = some p → p.q = some q → (∃ c' p', θ c' = some p' ∧ p'.q = some q) ∨ h1.next ≤ q
  next : h1.next ≤ h1'.next
theorem Grow.refl (θ : Th) (h1 : H) : Grow θ θ h1 h1 := ⟨θ.le_refl, fun _ _ _ => rfl, fun c p q e e' => .inl ⟨c, p, e, e'⟩, Nat.le_refl _⟩
theorem Grow.trans {a b c : Th} {x y z : H} (g : Grow a b x y) (g' : Grow b c y z) : Grow a c x z := by
  refine ⟨Th.le_trans g.le g'.le, fun q hq k => ?_, fun d p q e e' => ?_, Nat.le_trans g.next g'.next⟩
  · rw [g'.keep q (Nat.lt_of_lt_of_le hq g.next) fun d p e e' => ?_, g.keep q hq k]
    rcases g.ran d p q e e' with ⟨c', p', u, w⟩ | w
    · exact k c' p' u w
    · omega
  · rcases g'.ran d p q e e' with ⟨c', p', u, w⟩ | w
    · exact g.ran c' p' q u w
    · exact .inr (Nat.le_trans g.next w)
theorem RH.upd (r : RH θ ba base h h1) {c : Cd} {p : Pos} {q : Nat} {x : O2} {y : Obj} (e : θ c = some p) (ep : p.q = some q) (ho : OR θ (h1.put q y) c x) :
    RH θ ba base (h.put c (some x)) (h1.put q y) ∧ Grow θ θ h1 (h1.put q y) := by
  refine ⟨⟨fun d hd => ?_, fun d z hd => ?_, r.inj, fun d p q e e' => by simpa using r.lt d p q e e', fun o ho' => ?_, r.wr, by simpa using r.bn, fun o i ho' => ?_⟩, ⟨θ.le_refl, fun q' _ k => ?_, fun c p q e e' => .inl ⟨c, p, e, e'⟩, Nat.le_refl _⟩⟩
  · simp only [HV.get_put] at hd
    split at hd
    · cases hd
    · exact r.dead d hd
  · simp only [HV.get_put] at hd
    split at hd
    · rename_i hc; subst hc; cases hd; exact ho
    · rename_i hne
      refine (r.live d z hd).move θ.le_refl rfl (fun _ _ _ _ _ _ => rfl) fun p' q' e1 e2 => ?_
      rw [H.get_put, if_neg]
      intro hq; subst hq
      exact hne (r.inj _ _ _ _ _ e1 e e2 ep)
  · simp only [HV.next_put] at ho'
    simp only [HV.get_put]
    split
    · rename_i hc
      subst hc
      obtain ⟨x, hx⟩ := r.pos e
      rw [r.nx o ho'] at hx; cases hx
    · exact r.nx o ho'
  · simp only [HV.next_put] at ho'
    simp only [HV.get_put]
    split
    · rename_i hc
      subst hc
      obtain ⟨x, hx⟩ := r.pos e
      rw [r.nxc o i ho'] at hx; cases hx
    · exact r.nxc o i ho'
  · rw [H.get_put, if_neg]
    intro hq; subst hq
    exact k c p e ep
theorem RH.newLoc (r : RH θ ba base h h1) {d : Nat} {p : Pos} {x : O2} {y : Obj} (ep : p.q = some h1.next) (ho : OR (θ.upd (.loc d) (some p)) (h1.new y) (.loc d) x) :
    RH (θ.upd (.loc d) (some p)) ba base (h.put (.loc d) (some x)) (h1.new y) ∧ Grow θ (θ.upd (.loc d) (some p)) h1 (h1.new y) := by
  have key : ∀ c' p' q, θ.upd (.loc d) (some p) c' = some p' → p'.q = some q → (c' = .loc d ∧ q = h1.next) ∨ (c' ≠ .loc d ∧ θ c' = some p' ∧ q < h1.next) := by
    intro c' p' q e e'
    by_cases hc : c' = .loc d
    · subst hc; rw [Th.upd_same] at e; cases e; rw [ep] at e'; cases e'; exact .inl ⟨rfl, rfl⟩
    · rw [Th.upd_other θ hc] at e; exact .inr ⟨hc, e, r.lt _ _ _ e e'⟩
  refine ⟨⟨fun c hc => ?_, fun c z hc => ?_, fun c c' p1 p2 q e1 e2 e3 e4 => ?_, fun c p' q e e' => ?_, fun o ho' => ?_, fun c p' q e e' hw => ?_, by have := r.bn; simp; omega, fun o i ho' => by simp only [HV.get_put, HV.next_put] at ho' ⊢; rw [if_neg (by simp)]; exact r.nxc o i ho'⟩, ⟨Th.le_upd θ rfl _, fun q hq _ => ?_, fun c p' q e e' => ?_, by simp⟩⟩
  · simp only [HV.get_put] at hc
    split at hc
    · cases hc
    · rename_i hne; rw [Th.upd_other θ hne]; exact r.dead c hc
  · simp only [HV.get_put] at hc
    split at hc
    · rename_i hcd; subst hcd; cases hc; exact ho
    · rename_i hne
      refine (r.live c z hc).move (Th.le_upd θ rfl _) (Th.upd_other θ hne _) (fun o j cells _ _ _ => Th.upd_other θ (by simp) _) fun p' q' e1 e2 => ?_
      rw [H.get_new, if_neg]
      have := r.lt _ _ _ e1 e2; omega
  · rcases key _ _ _ e1 e3 with ⟨a, b⟩ | ⟨a, b, b'⟩ <;> rcases key _ _ _ e2 e4 with ⟨a', c1⟩ | ⟨a', c1, c1'⟩
    · rw [a, a']
    · omega
    · omega
    · exact r.inj _ _ _ _ _ b c1 e3 e4
  · rcases key _ _ _ e e' with ⟨a, b⟩ | ⟨a, b, b'⟩ <;> simp <;> omega
  · simp only [HV.get_put, HV.next_put] at ho' ⊢
    rw [if_neg (by simp)]
    exact r.nx o ho'
  · rcases key _ _ _ e e' with ⟨a, b⟩ | ⟨a, b, b'⟩
    · rw [b]; exact r.bn
    · exact r.wr _ _ _ b e' hw
  · rw [H.get_new, if_neg]; omega
  · rcases key _ _ _ e e' with ⟨a, b⟩ | ⟨a, b, b'⟩
    · right; omega
    · left; exact ⟨_, _, b, e'⟩
theorem RH.newVirt (r : RH θ ba base h h1) {d : Nat} {s : Sq} {b : Bool} (hs : s.rows = []) :
    RH (θ.upd (.loc d) (some .virt)) ba base (h.put (.loc d) (some (.seq s b))) h1 ∧ Grow θ (θ.upd (.loc d) (some .virt)) h1 h1 := by
  have key : ∀ c' p' q, θ.upd (.loc d) (some .virt) c' = some p' → p'.q = some q → (c' ≠ .loc d ∧ θ c' = some p') := by
    intro c' p' q e e'
    by_cases hc : c' = .loc d
    · subst hc; rw [Th.upd_same] at e; cases e; cases e'
    · rw [Th.upd_other θ hc] at e; exact ⟨hc, e⟩
  refine ⟨⟨fun c hc => ?_, fun c z hc => ?_, fun c c' p1 p2 q e1 e2 e3 e4 => r.inj _ _ _ _ _ (key _ _ _ e1 e3).2 (key _ _ _ e2 e4).2 e3 e4, fun c p' q e e' => r.lt _ _ _ (key _ _ _ e e').2 e', fun o ho' => ?_, fun c p' q e e' hw => r.wr _ _ _ (key _ _ _ e e').2 e' hw, r.bn, fun o i ho' => by simp only [HV.get_put, HV.next_put] at ho' ⊢; rw [if_neg (by simp)]; exact r.nxc o i ho'⟩, ⟨Th.le_upd θ rfl _, fun q hq _ => rfl, fun c p' q e e' => .inl ⟨_, _, (key _ _ _ e e').2, e'⟩, Nat.le_refl _⟩⟩
  · simp only [HV.get_put] at hc
    split at hc
    · cases hc
    · rename_i hne; rw [Th.upd_other θ hne]; exact r.dead c hc
  · simp only [HV.get_put] at hc
    split at hc
    · rename_i hcd; subst hcd; cases hc; exact .virt s b (Th.upd_same _ _ _) hs rfl
    · rename_i hne
      exact (r.live c z hc).move (Th.le_upd θ rfl _) (Th.upd_other θ hne _) (fun o j cells _ _ _ => Th.upd_other θ (by simp) _) fun p' q' e1 e2 => rfl
  · simp only [HV.get_put, HV.next_put] at ho' ⊢
    rw [if_neg (by simp)]
    exact r.nx o ho'
theorem RH.newSt (r : RH θ ba base h h1) {cells : List V} {ds : List AV} (hc : VCL θ cells ds) :
    RH (θ.upd (.st h.next) (some (.obj h1.next))) ba base ⟨h.next + 1, h.st.set h.next (some (.arr cells)), h.ca, h.lo⟩ (h1.new (.arr ds.length [ds])) ∧ Grow θ (θ.upd (.st h.next) (some (.obj h1.next))) h1 (h1.new (.arr ds.length [ds])) := by
  have hfresh : θ (.st h.next) = none := r.dead _ (r.nx _ (Nat.le_refl _))
  have hle : θ.le (θ.upd (.st h.next) (some (.obj h1.next))) := by
    intro o q e
    rw [Th.upd_other θ]; exact e
    intro ho; rw [ho, hfresh] at e; cases e
  have hget : ∀ c, HV.get ⟨h.next + 1, h.st.set h.next (some (.arr cells)), h.ca, h.lo⟩ c = if c = .st h.next then some (.arr cells) else h.get c := by
    intro c
    cases c <;> simp [HV.get]
  have key : ∀ c' p' q, θ.upd (.st h.next) (some (.obj h1.next)) c' = some p' → p'.q = some q → (c' = .st h.next ∧ q = h1.next) ∨ (c' ≠ .st h.next ∧ θ c' = some p' ∧ q < h1.next) := by
    intro c' p' q e e'
    by_cases hc : c' = .st h.next
    · subst hc; rw [Th.upd_same] at e; cases e; cases e'; exact .inl ⟨rfl, rfl⟩
    · rw [Th.upd_other θ hc] at e; exact .inr ⟨hc, e, r.lt _ _ _ e e'⟩
  refine ⟨⟨fun c hc => ?_, fun c z hc' => ?_, fun c c' p1 p2 q e1 e2 e3 e4 => ?_, fun c p' q e e' => ?_, fun o ho' => ?_, fun c p' q e e' hw => ?_, by have := r.bn; simp; omega, fun o i ho' => by rw [hget, if_neg (by simp)]; exact r.nxc o i (by simp only at ho'; omega)⟩, ⟨hle, fun q hq _ => ?_, fun c p' q e e' => ?_, by simp⟩⟩
  · rw [hget] at hc
    split at hc
    · cases hc
    · rename_i hne; rw [Th.upd_other θ hne]; exact r.dead c hc
  · rw [hget] at hc'
    split at hc'
    · rename_i hcd; subst hcd; cases hc'
      exact .arr _ ds h1.next (Th.upd_same _ _ _) (by simp) ((hc.mono hle).crl 0)
    · rename_i hne
      refine (r.live c z hc').move hle (Th.upd_other θ hne _) (fun o j cells _ _ _ => Th.upd_other θ (by simp) _) fun p' q' e1 e2 => ?_
      rw [H.get_new, if_neg]
      have := r.lt _ _ _ e1 e2; omega
  · rcases key _ _ _ e1 e3 with ⟨a, b⟩ | ⟨a, b, b'⟩ <;> rcases key _ _ _ e2 e4 with ⟨a', c1⟩ | ⟨a', c1, c1'⟩
    · rw [a, a']
    · omega
    · omega
    · exact r.inj _ _ _ _ _ b c1 e3 e4
  · rcases key _ _ _ e e' with ⟨a, b⟩ | ⟨a, b, b'⟩ <;> simp <;> omega
  · simp only at ho'
    rw [hget, if_neg (by simp; omega)]
    exact r.nx o (by omega)
  · rcases key _ _ _ e e' with ⟨a, b⟩ | ⟨a, b, b'⟩
    · rw [b]; exact r.bn
    · exact r.wr _ _ _ b e' hw
  · rw [H.get_new, if_neg]; omega
  · rcases key _ _ _ e e' with ⟨a, b⟩ | ⟨a, b, b'⟩
    · right; omega
    · left; exact ⟨_, _, b, e'⟩
theorem RH.cut (r : RH θ ba base h h1) {c : Cd} {p : Pos} (hc : c.isSt = false) (e : θ c = some p) (hn : h1'.next = h1.next) (hk : ∀ q, p.q ≠ some q → h1'.get q = h1.get q) :
    RH (θ.upd c none) ba base (Go.Am.cut h c) h1' ∧ Grow θ (θ.upd c none) h1 h1' := by
  have key : ∀ c' p', θ.upd c none c' = some p' → c' ≠ c ∧ θ c' = some p' := by
    intro c' p' e
    by_cases hcc : c' = c
    · subst hcc; rw [Th.upd_same] at e; cases e
    · rw [Th.upd_other θ hcc] at e; exact ⟨hcc, e⟩
  -- what the cut heap has
  have hget : ∀ d, d ≠ c → ((Go.Am.cut h c).get d = h.get d ∧ ∀ o i, c = .cell o i → d = .st o → ∀ cells, h.get d ≠ some (.arr cells)) ∨ ∃ o i cells, c = .cell o i ∧ d = .st o ∧ h.get d = some (.arr cells) ∧ (Go.Am.cut h c).get d = some (.arr (cells.set i .any)) := by
    intro d hd
    cases c with
    | st o => cases hc
    | loc n => left; refine ⟨by simp [Go.Am.cut, hd], fun o i e => by cases e⟩
    | cell o i =>
      by_cases hdo : d = .st o
      · subst hdo
        cases hg : h.get (.st o) with
        | none => left; refine ⟨by simp [Go.Am.cut, hg], fun o' i' _ e' cells => by cases e'; simp⟩
        | some x =>
          cases x with
          | arr cells => right; exact ⟨o, i, cells, rfl, rfl, rfl, by simp [Go.Am.cut, hg]⟩
          | iter a b => left; refine ⟨by simp [Go.Am.cut, hg], fun o' i' _ e' cells => by simp⟩
          | seq a b => left; refine ⟨by simp [Go.Am.cut, hg], fun o' i' _ e' cells => by simp⟩
      · left
        refine ⟨?_, fun o' i' e e' => by cases e; exact absurd e' hdo⟩
        simp only [Go.Am.cut]
        split
        · simp [hd, hdo]
        · simp [hd]
  have hgc : (Go.Am.cut h c).get c = none := by
    cases c with
    | st o => cases hc
    | loc n => simp [Go.Am.cut]
    | cell o i => simp only [Go.Am.cut]; split <;> simp
  have hnext : (Go.Am.cut h c).next = h.next := by
    cases c with
    | st o => cases hc
    | loc n => simp [Go.Am.cut]
    | cell o i => simp only [Go.Am.cut]; split <;> simp
  have hfr : ∀ c' p' q, c' ≠ c → θ c' = some p' → p'.q = some q → h1'.get q = h1.get q := fun c' p' q hne e1 e2 => hk q fun e3 => hne (r.inj _ _ _ _ _ e1 e e2 e3)
  refine ⟨⟨fun d hd => ?_, fun d z hd => ?_, fun d d' p1 p2 q e1 e2 e3 e4 => r.inj _ _ _ _ _ (key _ _ e1).2 (key _ _ e2).2 e3 e4, fun d p' q e e' => by rw [hn]; exact r.lt _ _ _ (key _ _ e).2 e', fun o ho' => ?_, fun d p' q e e' hw => r.wr _ _ _ (key _ _ e).2 e' hw, by rw [hn]; exact r.bn, fun o i ho' => by
      rw [hnext] at ho'
      by_cases hdc : Cd.cell o i = c
      · rw [hdc]; exact hgc
      · rcases hget _ hdc with ⟨a, _⟩ | ⟨o', i', cells, a1, a2, a3, a4⟩
        · rw [a]; exact r.nxc o i ho'
        · cases a2⟩,
    ⟨Th.le_upd θ hc _, fun q _ k => hk q fun e3 => k c p e e3, fun d p' q e e' => .inl ⟨_, _, (key _ _ e).2, e'⟩, by rw [hn]; exact Nat.le_refl _⟩⟩
  · by_cases hdc : d = c
    · subst hdc; exact Th.upd_same _ _ _
    · rw [Th.upd_other θ hdc]
      rcases hget d hdc with ⟨a, _⟩ | ⟨o, i, cells, a1, a2, a3, a4⟩
      · rw [a] at hd; exact r.dead d hd
      · rw [a4] at hd; cases hd
  · by_cases hdc : d = c
    · subst hdc; rw [hgc] at hd; cases hd
    · rcases hget d hdc with ⟨a, a'⟩ | ⟨o, i, cells, a1, a2, a3, a4⟩
      · rw [a] at hd
        refine (r.live d z hd).move (Th.le_upd θ hc _) (Th.upd_other θ hdc _) (fun o j cells e1 e2 e3 => ?_) fun p' q' e1 e2 => hfr d p' q' hdc e1 e2
        rw [Th.upd_other θ]
        intro hcc
        subst hcc
        exact a' o j rfl e2 cells (by rw [hd, e1])
      · rw [a4] at hd; cases hd
        subst a2
        cases r.live _ _ a3 with
        | arr _ ds q e1 e2 e3 =>
          refine .arr _ ds q (by rw [Th.upd_other θ hdc]; exact e1) (by rw [hfr _ _ q hdc e1 rfl]; exact e2) ?_
          refine e3.setAny.mono (Th.le_upd θ hc _) fun o' j e4 e5 => ?_
          cases e4
          rw [Th.upd_other θ]
          intro hcc
          rw [a1] at hcc; cases hcc
          rw [Nat.zero_add] at e5
          rw [List.getElem?_set] at e5
          simp at e5
  · rw [hnext] at ho'
    rcases hget (.st o) (by intro e; subst e; cases hc) with ⟨a, _⟩ | ⟨o', i, cells, a1, a2, a3, a4⟩
    · rw [a]; exact r.nx o ho'
    · rw [r.nx o ho'] at a3; cases a3
end
end Go.Am
namespace Go.Am
section
variable {θ θ' : Th} {ba : Ba} {base : Nat} {h h' : HV} {h1 h1' : H} {e : List V} {e1 : List AV} {v w : V} {a b : AV}
theorem VT.bool' {t : Bool} (x : VT θ (.bool t) a) : a = .bool t := by cases x with | flat x => cases x with | cell x => cases x; rfl
theorem VT.int' {k : IntKind} {n : Int} (x : VT θ (.int k n) a) : a = .int k n := by cases x with | flat x => cases x with | cell x => cases x; rfl
theorem VT.str' {s : List Nat} (x : VT θ (.str s) a) : a = .str s := by cases x with | flat x => cases x with | cell x => cases x; rfl
theorem VT.nilp' (x : VT θ .nilp a) : a = .nilp := by cases x with | flat x => cases x with | cell x => cases x; rfl
theorem VT.nilfn' (x : VT θ .nilfn a) : a = .nilfn := by cases x with | flat x => cases x with | cell x => cases x; rfl
theorem VT.agg' {cs : List V} (x : VT θ (.agg cs) a) : ∃ ds, a = .agg ds ∧ VCL θ cs ds := by
  cases x with | flat x => cases x with
    | cell x => cases x
    | agg x => exact ⟨_, rfl, x⟩
theorem VT.tup' {cs : List V} (x : VT θ (.tup cs) a) : ∃ ds, a = .tup ds ∧ VFL θ cs ds := by
  cases x with
  | flat x => cases x with | cell x => cases x
  | tup x => exact ⟨_, rfl, x⟩
theorem VT.rptr' {cs : List V} (x : VT θ (.rptr cs) a) : ∃ ds, a = .rptr ds ∧ VCL θ cs ds := by
  cases x with | flat x => cases x with | cell x => cases x with | rptr _ ds x => exact ⟨_, rfl, x⟩
theorem VT.vs' {f : Bool} {s : Sq} (x : VT θ (.vs f s) a) : ∃ g rows, a = .vs g rows ∧ (f = true → g = true) ∧ VCR θ s.rows rows := by
  cases x with | flat x => cases x with | cell x => cases x with | vs _ g _ rows x y => exact ⟨_, _, rfl, x, y⟩
theorem VT.fn' {f : Nat} {cs : List V} (x : VT θ (.fn f cs) a) : ∃ ds, a = .fn f ds ∧ VCL θ cs ds := by
  cases x with
  | flat x => cases x with | cell x => cases x with | fn _ _ ds x => exact ⟨ds, rfl, x⟩
  | fn _ x => exact ⟨_, rfl, x⟩
theorem VT.ptr' {c : Cd} {off : Nat} (x : VT θ (.ptr c off) a) : ∃ q, θ c = some (.obj q) ∧ a = .ptr q 0 off := by
  cases x with
  | flat x => cases x with | cell x => cases x with | ptr o off q x => exact ⟨q, x, rfl⟩
  | ptr d off q x => exact ⟨q, x, rfl⟩
theorem VT.ep' {c : Cd} {i off : Nat} (x : VT θ (.ep c i off) a) : ∃ q k n, θ c = some (.arr q k n) ∧ i < n ∧ a = .ptr q i off := by
  cases x with
  | flat x => cases x with | cell x => cases x
  | ep _ _ _ q k n x y => exact ⟨q, k, n, x, y, rfl⟩
theorem VT.whole' {c : Cd} (x : VT θ (.whole c) a) : (∃ q k n, θ c = some (.arr q k n) ∧ a = .ref q k 0 n) ∨ (θ c = some .virt ∧ a = .vs true []) := by
  cases x with
  | flat x => cases x with | cell x => cases x
  | whole _ q k n x => exact .inl ⟨q, k, n, x, rfl⟩
  | wholeV _ x => exact .inr ⟨x, rfl⟩
theorem VT.ref' {c : Cd} {off len : Nat} (x : VT θ (.ref c off len) a) : (∃ q k n, θ c = some (.arr q k n) ∧ off + len ≤ n ∧ a = .ref q k off len) ∨
    (∃ q k n f, θ c = some (.arr q k n) ∧ off ≤ n ∧ 0 < off ∧ len = 0 ∧ a = .vs f []) ∨ (θ c = some .virt ∧ off = 0 ∧ len = 0 ∧ a = .vs true []) := by
  cases x with
  | flat x => cases x with | cell x => cases x
  | ref _ _ _ q k n x y => exact .inl ⟨q, k, n, x, y, rfl⟩
  | refE _ _ q k n f x y z => exact .inr (.inl ⟨q, k, n, f, x, y, z, rfl, rfl⟩)
  | refV _ x => exact .inr (.inr ⟨x, rfl, rfl, rfl⟩)
theorem Sq.len_rows (s : Sq) : s.len = s.rows.length := by cases s <;> simp [Sq.len, Sq.rows]
theorem Sq.rows_take (s : Sq) (n : Nat) : (s.take n).rows = s.rows.take n := by cases s <;> simp [Sq.take, Sq.rows, List.map_take]
theorem Sq.rows_drop (s : Sq) (n : Nat) : (s.drop n).rows = s.rows.drop n := by cases s <;> simp [Sq.drop, Sq.rows, List.map_drop]
theorem Sq.okk_take {k : Nat} {s : Sq} (n : Nat) (h : s.okk k = true) : (s.take n).okk k = true := by
  cases s with
  | raw k0 rows =>
    simp only [Sq.okk, Sq.take, List.all_eq_true] at h ⊢
    exact fun r hr => h r (List.mem_of_mem_take hr)
  | ty u l => exact h
theorem Sq.okk_drop {k : Nat} {s : Sq} (n : Nat) (h : s.okk k = true) : (s.drop n).okk k = true := by
  cases s with
  | raw k0 rows =>
    simp only [Sq.okk, Sq.drop, List.all_eq_true] at h ⊢
    exact fun r hr => h r (List.mem_of_mem_drop hr)
  | ty u l => exact h
theorem Sq.kIs_okk {k : Nat} {s : Sq} (h : s.kIs k = true) : s.okk k = true := by
  cases s with
  | raw k0 rows => simp only [Sq.kIs, Bool.and_eq_true] at h; exact h.2
  | ty u l => exact h
theorem Sq.kIs_inj {k k' : Nat} {s : Sq} (h : s.kIs k = true) (h' : s.kIs k' = true) : k = k' := by
  cases s with
  | raw k0 rows => simp only [Sq.kIs, Bool.and_eq_true, Nat.beq_eq] at h h'; rw [← h.1, h'.1]
  | ty u l => simp only [Sq.kIs, Nat.beq_eq] at h h'; rw [← h, h']
theorem Sq.kIs_take {k : Nat} {s : Sq} (n : Nat) (h : s.kIs k = true) : (s.take n).kIs k = true := by
  cases s with
  | raw k0 rows =>
    simp only [Sq.kIs, Sq.take, Bool.and_eq_true, List.all_eq_true] at h ⊢
    exact ⟨h.1, fun r hr => h.2 r (List.mem_of_mem_take hr)⟩
  | ty u l => exact h
theorem enc_length (u : U) (x : El u) : (enc u x).length = u.k := by cases u <;> first | rfl | (cases x; rfl)
theorem Sq.okk_rows {k : Nat} {s : Sq} (h : s.okk k = true) : ∀ r ∈ s.rows, r.length = k := by
  cases s with
  | raw k0 rows =>
    simp only [Sq.okk, List.all_eq_true, Nat.beq_eq] at h
    exact h
  | ty u l =>
    simp only [Sq.okk, Nat.beq_eq] at h
    intro r hr
    simp only [Sq.rows, List.mem_map] at hr
    obtain ⟨x, _, rfl⟩ := hr
    rw [enc_length, h]
theorem VCR.rowlen {rs : List (List V)} {xs : List (List AV)} (x : VCR θ rs xs) {k : Nat} (h : ∀ r ∈ rs, r.length = k) : ∀ y ∈ xs, y.length = k := by
  induction rs generalizing xs with
  | nil => cases x; simp
  | cons r rs ih => cases x with | cons _ y _ ys h1 h2 =>
    intro z hz
    rcases List.mem_cons.1 hz with rfl | hz
    · rw [← h1.length]; exact h r (by simp)
    · exact ih h2 (fun r hr => h r (by simp [hr])) z hz
theorem Sq.getK_some {β : Type} {s : Sq} {j : Nat} {K : List V → Option β} {r : β} (h : s.getK j K = some r) : ∃ row, s.rows[j]? = some row ∧ K row = some r := by
  cases s with
  | raw k0 rows =>
    simp only [Sq.getK] at h
    split at h
    · rename_i row hr; exact ⟨row, hr, h⟩
    · cases h
  | ty u l =>
    simp only [Sq.getK] at h
    split at h
    · rename_i x hx; exact ⟨enc u x, by simp [Sq.rows, hx], h⟩
    · cases h
abbrev sem (fns : Fns) (m : Nat) : CallSem := callSem fns (exec fns m)
structure Mid (fns : Fns) (ba : Ba) (base : Nat) (θ : Th) (e1 : List AV) (h1 : H) (op : AOp) (v : V) (e' : List V) (h' : HV) : Prop where
  out : ∃ v1 h1' θ', From (fun m => opSem (sem fns m) base e1 h1 op = some (v1, h1')) ∧ VT θ' v v1 ∧ VTL θ' e' e1 ∧ RH θ' ba base h' h1' ∧ Grow θ θ' h1 h1'
def StepOK (fns : Fns) (ba : Ba) (e : List V) (h : HV) (op : AOp) (v : V) (e' : List V) (h' : HV) : Prop :=
  ∀ θ base e1 h1, VTL θ e e1 → RH θ ba base h h1 → Mid fns ba base θ e1 h1 op v e' h'
theorem StepOK.same {fns : Fns} {op : AOp} (hno : ∀ T b x y, opSem T b x y op = stepOp b x y op) (k : ∀ θ base e1 h1, VTL θ e e1 → RH θ ba base h h1 → ∃ v1, stepOp base e1 h1 op = some (v1, h1) ∧ VT θ v v1) : StepOK fns ba e h op v e h := by
  intro θ base e1 h1 he r
  obtain ⟨v1, q1, q2⟩ := k θ base e1 h1 he r
  exact ⟨v1, h1, θ, .of fun m => by rw [hno]; exact q1, q2, he, r, Grow.refl _ _⟩
theorem part_sim2 {cs : List V} {ds : List AV} {c : Cd} (x : CRL θ c 0 cs ds) {off sz : Nat} {g : Bool} {β : Type} {K : V → Option β} {r : β} (hk : partV cs off g sz K = some r) :
    ∃ v, K v = some r ∧ ∃ a, part ds off g sz = some a ∧ VT θ v a := by
  unfold partV at hk
  cases g with
  | true =>
    simp only [cond_true] at hk
    cases hc : (Nat.ble 1 sz && Nat.ble (off + sz) cs.length && ((cs.drop off).take sz).all okC2) with
    | false => rw [hc] at hk; cases hk
    | true =>
      rw [hc] at hk
      simp only [Bool.and_eq_true, Nat.ble_eq] at hc
      refine ⟨_, hk, .agg ((ds.drop off).take sz), ?_, .flat (.agg (((x.drop off).take sz).vcl hc.2))⟩
      unfold part
      rw [if_pos ⟨hc.1.1, by rw [← x.length]; exact hc.1.2⟩, if_pos rfl]
  | false =>
    simp only [cond_false] at hk
    cases hc : sz.beq 1 with
    | false => rw [hc] at hk; cases hk
    | true =>
      rw [hc] at hk
      simp only [Nat.beq_eq] at hc
      subst hc
      simp only [cond_true] at hk
      split at hk
      · rename_i v hv
        obtain ⟨a, q1, q2⟩ := x.get hv
        refine ⟨v, hk, a, ?_, ?_⟩
        · unfold part
          have hlt : off < ds.length := by
            rw [List.getElem?_eq_some_iff] at q1; exact q1.1
          rw [if_pos ⟨Nat.le_refl _, by omega⟩, if_neg (by simp), if_pos rfl]; exact q1
        · cases q2 with
          | cell h => exact .flat (.cell h)
          | any => exact .any _
          | own o e h => exact h
      · cases hk
theorem row_obj {q : Nat} {ds : List AV} (hg : h1.get q = some (.arr ds.length [ds])) : row? h1 q 0 = some ds := by simp [row?, hg]
theorem load_sim2 {g : Bool} {sz : Nat} (r : RH θ ba base h h1) (x : VT θ v a) {β : Type} {K : V → Option β} {z : β} (hk : loadV h g sz v K = some z) :
    ∃ w, K w = some z ∧ ∃ b, loadAt h1 g sz a = some b ∧ VT θ w b := by
  unfold loadV at hk
  split at hk
  · rename_i c off
    obtain ⟨q, hq, rfl⟩ := x.ptr'
    split at hk
    · rename_i cells hc
      cases r.live _ _ hc with
      | arr _ ds q' e1 e2 e3 =>
        rw [hq] at e1; cases e1
        obtain ⟨w, k1, b, k2, k3⟩ := part_sim2 e3 hk
        exact ⟨w, k1, b, by simp [loadAt, row_obj e2, k2], k3⟩
    · cases hk
  · rename_i c i off
    obtain ⟨q, k, n, hq, hi, rfl⟩ := x.ep'
    split at hk
    · rename_i s b hc
      cases r.live _ _ hc with
      | seq _ _ q' k' R e1 e2 e3 e4 e5 e6 =>
        rw [hq] at e1; cases e1
        obtain ⟨row, k1, k2⟩ := Sq.getK_some hk
        obtain ⟨y, k3, k4⟩ := e4.get k1
        obtain ⟨w, k5, b', k6, k7⟩ := part_sim2 (c := c) (k4.crl 0) k2
        refine ⟨w, k5, b', ?_, k7⟩
        have : row? h1 q i = some y := by
          simp only [row?, e2]
          rw [List.getElem?_take, if_pos hi] at k3
          exact k3
        simp [loadAt, this, k6]
      | virt _ _ e1 e2 => rw [hq] at e1; cases e1
    · cases hk
  · rename_i cs
    obtain ⟨ds, rfl, hds⟩ := x.rptr'
    obtain ⟨w, k5, b', k6, k7⟩ := part_sim2 (c := .loc 0) (hds.crl 0) hk
    exact ⟨w, k5, b', by simp [loadAt, k6], k7⟩
  · cases hk
theorem content_sim (r : RH θ ba base h h1) (x : VT θ v a) {β : Type} {K : Sq → Option β} {z : β} (hk : contentK h v K = some z) :
    ∃ s, K s = some z ∧ ∃ rows, rowsOf h1 a = some rows ∧ VCR θ s.rows rows ∧ lenOf a = some s.len := by
  unfold contentK at hk
  split at hk
  · rename_i f s
    obtain ⟨g, rows, rfl, _, h3⟩ := x.vs'
    exact ⟨s, hk, rows, rfl, h3, by rw [Sq.len_rows, h3.length]; rfl⟩
  · rename_i s
    have := x.str'; subst this
    refine ⟨_, hk, bytesAV s, rfl, ?_, by simp [Sq.len, lenOf]⟩
    simp only [Sq.rows, List.map_map]
    clear hk x
    induction s with
    | nil => exact .nil
    | cons b s ih => exact .cons _ _ _ _ (.cons _ _ _ _ (.int _ _) .nil) ih
  · rename_i c
    split at hk
    · rename_i s b hc
      refine ⟨s, hk, ?_⟩
      rcases x.whole' with ⟨q, k, n, hq, rfl⟩ | ⟨hq, rfl⟩
      · cases r.live _ _ hc with
        | seq _ _ q' k' R e1 e2 e3 e4 e5 e6 =>
          rw [hq] at e1; cases e1
          exact ⟨R.take s.len, by simp [rowsOf, e2, e3], e4, rfl⟩
        | virt _ _ e1 e2 => rw [hq] at e1; cases e1
      · cases r.live _ _ hc with
        | seq _ _ q' k' R e1 e2 e3 e4 e5 e6 => rw [hq] at e1; cases e1
        | virt _ _ e1 e2 => exact ⟨[], rfl, by rw [e2]; exact .nil, by simp [lenOf, Sq.len_rows, e2]⟩
    · cases hk
  · rename_i c off len
    split at hk
    · rename_i s b hc
      cases hle : Nat.ble (off + len) s.len with
      | false => rw [hle] at hk; cases hk
      | true =>
        rw [hle] at hk
        rw [Nat.ble_eq] at hle
        refine ⟨_, hk, ?_⟩
        have hlen : ((s.drop off).take len).len = len := by
          rw [Sq.len_rows, Sq.rows_take, Sq.rows_drop, List.length_take, List.length_drop, ← Sq.len_rows]; omega
        rcases x.ref' with ⟨q, k, n, hq, hn, rfl⟩ | ⟨q, k, n, f, hq, _, _, h0, rfl⟩ | ⟨hq, h0, h0', rfl⟩
        · cases r.live _ _ hc with
          | seq _ _ q' k' R e1 e2 e3 e4 e5 e6 =>
            rw [hq] at e1; cases e1
            refine ⟨(R.drop off).take len, by simp only [rowsOf, e2]; rw [if_pos (by omega)], ?_, by rw [hlen]; rfl⟩
            rw [Sq.rows_take, Sq.rows_drop]
            have := (e4.drop off).take len
            rwa [List.drop_take, List.take_take, Nat.min_eq_left (by omega)] at this
          | virt _ _ e1 e2 => rw [hq] at e1; cases e1
        · subst h0
          refine ⟨[], rfl, ?_, by rw [hlen]; rfl⟩
          rw [Sq.rows_take]; simpa using VCR.nil
        · subst h0'
          refine ⟨[], rfl, ?_, by rw [hlen]; rfl⟩
          rw [Sq.rows_take]; simpa using VCR.nil
    · cases hk
  · cases hk
theorem len_sim (r : RH θ ba base h h1) (x : VT θ v a) {β : Type} {K : Nat → Option β} {z : β} (hk : lenV h v K = some z) : ∃ n, K n = some z ∧ lenOf a = some n := by
  unfold lenV at hk
  split at hk
  · rename_i f s
    obtain ⟨g, rows, rfl, _, h3⟩ := x.vs'
    exact ⟨_, hk, by rw [Sq.len_rows, h3.length]; rfl⟩
  · have := x.str'; subst this; exact ⟨_, hk, rfl⟩
  · rename_i c
    split at hk
    · rename_i s b hc
      refine ⟨_, hk, ?_⟩
      rcases x.whole' with ⟨q, k, n, hq, rfl⟩ | ⟨hq, rfl⟩
      · cases r.live _ _ hc with
        | seq _ _ q' k' R e1 e2 e3 e4 e5 e6 => rw [hq] at e1; cases e1; rfl
        | virt _ _ e1 e2 => rw [hq] at e1; cases e1
      · cases r.live _ _ hc with
        | seq _ _ q' k' R e1 e2 e3 e4 e5 e6 => rw [hq] at e1; cases e1
        | virt _ _ e1 e2 => simp [lenOf, Sq.len_rows, e2]
    · cases hk
  · rename_i c off len
    refine ⟨_, hk, ?_⟩
    rcases x.ref' with ⟨q, k, n, hq, hn, rfl⟩ | ⟨q, k, n, f, hq, _, _, h0, rfl⟩ | ⟨hq, h0, h0', rfl⟩
    · rfl
    · subst h0; rfl
    · subst h0'; rfl
  · cases hk
theorem nat_sim (x : VT θ v a) {β : Type} {K : Nat → Option β} {z : β} (hk : natV v K = some z) : ∃ n, K n = some z ∧ natOf a = some n := by
  unfold natV at hk
  split at hk
  · have := x.int'; subst this
    split at hk
    · rename_i m; exact ⟨m, hk, by simp [natOf]⟩
    · cases hk
  · cases hk
theorem optNat_sim (he : VTL θ e e1) {d : Nat} {o : Option AO} {β : Type} {K : Nat → Option β} {z : β} (hk : optNatV e d o K = some z) : ∃ n, K n = some z ∧ optNat e1 d o = some n := by
  cases o with
  | none => exact ⟨d, hk, rfl⟩
  | some x => exact nat_sim (he.ev x) hk
end
end Go.Am
namespace Go.Am
section
variable {θ θ' : Th} {ba : Ba} {base : Nat} {h h' : HV} {h1 h1' : H} {e : List V} {e1 : List AV} {v w : V} {a b : AV}
theorem VCL.inv {v : V} {vs : List V} {y : List AV} (h : VCL θ (v :: vs) y) : ∃ a as, y = a :: as ∧ VC θ v a ∧ VCL θ vs as := by
  cases h with | cons _ a _ as h1 h2 => exact ⟨a, as, rfl, h1, h2⟩
theorem VCL.inv0 {y : List AV} (h : VCL θ [] y) : y = [] := by cases h; rfl
theorem V.tyK_some {β : Type} {u : U} {v : V} {K : List (El u) → Option β} {z : β} (h : v.tyK u K = some z) :
    ∃ l, K l = some z ∧ ∀ (θ : Th) (a : AV), VC θ v a → VC θ (.vs false (.ty u l)) a := by
  unfold V.tyK at h
  split at h
  · exact ⟨[], h, fun θ a x => by cases x with | vs f g s rows p q => exact .vs _ _ _ _ (by simp) q⟩
  · rename_i f u' l
    split at h
    · rename_i hu; subst hu
      exact ⟨l, h, fun θ a x => by cases x with | vs f g s rows p q => exact .vs _ _ _ _ (by simp) q⟩
    · cases h
  · cases h
theorem dec_law {u : U} {r : List V} {x : El u} (h : dec u r = some x) {y : List AV} (hy : VCL θ r y) : VCL θ (enc u x) y := by
  cases u
  case ints => simp only [dec, dInt] at h; split at h <;> cases h; exact hy
  case runes => simp only [dec, dRune] at h; split at h <;> cases h; exact hy
  case strs => simp only [dec, dStr] at h; split at h <;> cases h; exact hy
  case bytes => simp only [dec, dByte] at h; split at h <;> cases h; exact hy
  case attrs => simp only [dec, dAt] at h; split at h <;> cases h; exact hy
  case toks =>
    simp only [dec, dTok] at h
    split at h
    case h_2 => cases h
    obtain ⟨l, k1, k2⟩ := V.tyK_some h
    cases k1
    obtain ⟨_, _, rfl, a1, hy⟩ := hy.inv
    obtain ⟨_, _, rfl, a2, hy⟩ := hy.inv
    obtain ⟨_, _, rfl, a3, hy⟩ := hy.inv
    exact .cons _ _ _ _ a1 (.cons _ _ _ _ a2 (.cons _ _ _ _ (k2 _ _ a3) hy))
  case items =>
    simp only [dec, dItem] at h
    split at h
    case h_2 => cases h
    obtain ⟨l, k1, k2⟩ := V.tyK_some h
    cases k1
    obtain ⟨_, _, rfl, a1, hy⟩ := hy.inv
    obtain ⟨_, _, rfl, a2, hy⟩ := hy.inv
    obtain ⟨_, _, rfl, a3, hy⟩ := hy.inv
    obtain ⟨_, _, rfl, a4, hy⟩ := hy.inv
    exact .cons _ _ _ _ a1 (.cons _ _ _ _ a2 (.cons _ _ _ _ a3 (.cons _ _ _ _ (k2 _ _ a4) hy)))
  case entries =>
    simp only [dec, dEntry] at h
    split at h
    case h_2 => cases h
    obtain ⟨l, k1, k2⟩ := V.tyK_some h
    cases k1
    obtain ⟨_, _, rfl, a1, hy⟩ := hy.inv
    obtain ⟨_, _, rfl, a2, hy⟩ := hy.inv
    obtain ⟨_, _, rfl, a3, hy⟩ := hy.inv
    obtain ⟨_, _, rfl, a4, hy⟩ := hy.inv
    exact .cons _ _ _ _ a1 (.cons _ _ _ _ a2 (.cons _ _ _ _ a3 (.cons _ _ _ _ (k2 _ _ a4) hy)))
  case nodes =>
    simp only [dec, dNd] at h
    split at h
    case h_2 => cases h
    obtain ⟨l, k1, k2⟩ := V.tyK_some h
    obtain ⟨ks, k3, k4⟩ := V.tyK_some k1
    split at k3
    case h_2 => cases k3
    cases k3
    obtain ⟨_, _, rfl, a1, hy⟩ := hy.inv
    obtain ⟨_, _, rfl, a2, hy⟩ := hy.inv
    obtain ⟨_, _, rfl, a3, hy⟩ := hy.inv
    obtain ⟨_, _, rfl, a4, hy⟩ := hy.inv
    obtain ⟨_, _, rfl, a5, hy⟩ := hy.inv
    obtain ⟨_, _, rfl, a6, hy⟩ := hy.inv
    exact .cons _ _ _ _ a1 (.cons _ _ _ _ a2 (.cons _ _ _ _ a3 (.cons _ _ _ _ (k2 _ _ a4) (.cons _ _ _ _ a5 (.cons _ _ _ _ (k4 _ _ a6) hy)))))
  case rnodes =>
    simp only [dec, dRNd] at h
    split at h
    case h_2 => cases h
    obtain ⟨l, k1, k2⟩ := V.tyK_some h
    obtain ⟨ks, k3, k4⟩ := V.tyK_some k1
    cases k3
    obtain ⟨_, _, rfl, a1, hy⟩ := hy.inv
    obtain ⟨_, _, rfl, a2, hy⟩ := hy.inv
    obtain ⟨_, _, rfl, a3, hy⟩ := hy.inv
    obtain ⟨_, _, rfl, a4, hy⟩ := hy.inv
    obtain ⟨_, _, rfl, a5, hy⟩ := hy.inv
    obtain ⟨_, _, rfl, a6, hy⟩ := hy.inv
    exact .cons _ _ _ _ a1 (.cons _ _ _ _ a2 (.cons _ _ _ _ a3 (.cons _ _ _ _ a4 (.cons _ _ _ _ (k2 _ _ a5) (.cons _ _ _ _ (k4 _ _ a6) hy)))))
  case trees =>
    simp only [dec, dTree] at h
    split at h
    case h_2 => cases h
    obtain ⟨l, k1, k2⟩ := V.tyK_some h
    obtain ⟨ks, k3, k4⟩ := V.tyK_some k1
    cases k3
    obtain ⟨_, _, rfl, a1, hy⟩ := hy.inv
    obtain ⟨_, _, rfl, a2, hy⟩ := hy.inv
    obtain ⟨_, _, rfl, a3, hy⟩ := hy.inv
    obtain ⟨_, _, rfl, a4, hy⟩ := hy.inv
    obtain ⟨_, _, rfl, a5, hy⟩ := hy.inv
    obtain ⟨_, _, rfl, a6, hy⟩ := hy.inv
    exact .cons _ _ _ _ a1 (.cons _ _ _ _ a2 (.cons _ _ _ _ a3 (.cons _ _ _ _ (k2 _ _ a4) (.cons _ _ _ _ a5 (.cons _ _ _ _ (k4 _ _ a6) hy)))))
theorem dec_length {u : U} {r : List V} {x : El u} (h : dec u r = some x) : r.length = u.k := by
  cases u <;> simp only [dec, dInt, dRune, dStr, dByte, dAt, dTok, dItem, dEntry, dNd, dRNd, dTree] at h <;> split at h <;> first | rfl | cases h
theorem decAll_law {u : U} : ∀ {rs : List (List V)} {l : List (El u)}, decAll u rs = some l → l.length = rs.length ∧ (∀ r ∈ rs, r.length = u.k) ∧ ∀ (θ : Th) (ys : List (List AV)), VCR θ rs ys → VCR θ (l.map (enc u)) ys
  | [], l, h => by
    simp only [decAll, Option.some.injEq] at h; subst h
    exact ⟨rfl, by simp, fun θ ys x => x⟩
  | r :: rs, l, h => by
    simp only [decAll] at h
    split at h
    · rename_i x xs hx hxs
      cases h
      obtain ⟨k1, k2, k3⟩ := decAll_law hxs
      refine ⟨by simp [k1], ?_, fun θ ys z => ?_⟩
      · intro y hy
        rcases List.mem_cons.1 hy with rfl | hy
        · exact dec_length hx
        · exact k2 y hy
      · cases z with | cons _ y _ ys h1 h2 => exact .cons _ _ _ _ (dec_law hx h1) (k3 θ ys h2)
    · cases h
theorem Sq.setK_some {β : Type} {s : Sq} {i : Nat} {row : List V} {K : Sq → Option β} {z : β} (h : s.setK i row K = some z) :
    ∃ w : Sq, K w = some z ∧ w.len = s.len ∧ (∀ k, s.kIs k = true → row.length = k → w.kIs k = true) ∧ ∀ (θ : Th) (y : List AV) (ys : List (List AV)), VCL θ row y → VCR θ s.rows ys → VCR θ w.rows (ys.set i y) := by
  cases s with
  | raw k0 rows =>
    refine ⟨_, h, by simp [Sq.len], fun k h1 h2 => ?_, fun θ y ys h1 h2 => h2.set h1 i⟩
    simp only [Sq.kIs, Bool.and_eq_true, List.all_eq_true, Nat.beq_eq] at h1 ⊢
    refine ⟨h1.1, fun r hr => ?_⟩
    rcases List.mem_or_eq_of_mem_set hr with hr | rfl
    · exact h1.2 r hr
    · exact h2
  | ty u l =>
    simp only [Sq.setK] at h
    split at h
    · rename_i x hx
      refine ⟨_, h, by simp [Sq.len], fun k h1 _ => h1, fun θ y ys h1 h2 => ?_⟩
      have := VCR.set h2 (dec_law hx h1) i
      simpa [Sq.rows, List.map_set] using this
    · cases h
theorem Sq.appK_some {β : Type} {s t : Sq} {K : Sq → Option β} {z : β} (h : s.appK t K = some z) :
    ∃ w : Sq, K w = some z ∧ w.len = s.len + t.len ∧ ∀ (θ : Th) (xs ys : List (List AV)), VCR θ s.rows xs → VCR θ t.rows ys → VCR θ w.rows (xs ++ ys) := by
  unfold Sq.appK at h
  split at h
  · rename_i k a k' b
    exact ⟨_, h, by simp [Sq.len], fun θ xs ys h1 h2 => h1.append h2⟩
  · rename_i k u l
    refine ⟨_, h, by simp [Sq.len], fun θ xs ys h1 h2 => ?_⟩
    cases h1; simpa using h2
  · cases h
  · rename_i u l k b
    split at h
    · rename_i x hx
      obtain ⟨k1, k2, k3⟩ := decAll_law hx
      refine ⟨_, h, by simp [Sq.len, k1], fun θ xs ys h1 h2 => ?_⟩
      have := h1.append (k3 θ ys h2)
      simpa [Sq.rows] using this
    · cases h
  · rename_i u l u' l'
    split at h
    · rename_i hu; subst hu
      refine ⟨_, h, by simp [Sq.len], fun θ xs ys h1 h2 => ?_⟩
      have := h1.append h2
      simpa [Sq.rows] using this
    · cases h
theorem Sq.tyK_some {β : Type} {u : U} {s : Sq} {K : Sq → Option β} {z : β} (h : s.tyK u K = some z) :
    ∃ w : Sq, K w = some z ∧ w.len = s.len ∧ (∀ k, s.kIs k = true → s.isCons = true → w.kIs k = true) ∧ ∀ (θ : Th) (xs : List (List AV)), VCR θ s.rows xs → VCR θ w.rows xs := by
  cases s with
  | raw k0 rows =>
    simp only [Sq.tyK] at h
    split at h
    · rename_i l hl
      obtain ⟨k1, k2, k3⟩ := decAll_law hl
      refine ⟨_, h, by simp [Sq.len, k1], fun k h1 h2 => ?_, fun θ xs h2 => k3 θ xs h2⟩
      cases rows with
      | nil => cases h2
      | cons r rows =>
        have e1 := k2 r (by simp)
        simp only [Sq.kIs, List.all_cons, Bool.and_eq_true, Nat.beq_eq] at h1
        simp only [Sq.kIs, Nat.beq_eq]
        rw [← e1]; exact h1.2.1
    · cases h
  | ty u' l =>
    simp only [Sq.tyK] at h
    split at h
    · exact ⟨_, h, rfl, fun _ h1 _ => h1, fun _ _ h1 => h1⟩
    · cases h
theorem new_sim2 {fns : Fns} {fr : Fr} {op : AOp} (hno : ∀ T b x y, opSem T b x y op = stepOp b x y op) {d : Option Nat} {cells : List V} {K : V → List V → HV → Option RA} {z : RA} (hk : newV fr d e h cells K = some z)
    (hop : ∀ (θ : Th) (base : Nat) e1 h1, VTL θ e e1 → RH θ ba base h h1 → ∃ ds, VCL θ cells ds ∧ stepOp base e1 h1 op = some (.ptr h1.next 0 0, h1.new (.arr ds.length [ds]))) :
    ∃ v e' h', K v e' h' = some z ∧ StepOK fns ba e h op v e' h' := by
  unfold newV at hk
  split at hk
  · rename_i d
    cases hc : cells.all okC2 with
    | false => rw [hc] at hk; cases hk
    | true =>
      rw [hc] at hk
      simp only [cond_true] at hk
      cases hs : List.contains fr d with
      | true =>
        rw [hs] at hk
        refine ⟨_, _, _, hk, fun θ base e1 h1 he r => ?_⟩
        obtain ⟨ds, h2, h3⟩ := hop θ base e1 h1 he r
        obtain ⟨r', g⟩ := r.newSt h2
        refine ⟨_, _, _, .of fun m => by rw [hno]; exact h3, .flat (.cell (.ptr _ _ _ (Th.upd_same _ _ _))), ?_, r', g⟩
        have hdead : θ (.st h.next) = none := r.dead _ (r.nx _ (Nat.le_refl _))
        clear hk h3 r' r hop
        induction he with
        | nil => exact .nil
        | cons x _ ih =>
          refine .cons (x.mono g.le fun c hc => Th.upd_other θ ?_ _) ih
          intro hcs; subst hcs
          rename_i v a vs as _
          cases x with
          | flat x => cases x with
            | cell x =>
              cases x <;> try (simp [V.at] at hc)
              rename_i o off q hq
              simp only [Cd.eqb_iff] at hc
              cases hc
              rw [hdead] at hq; cases hq
            | agg x => simp [V.at] at hc
          | ptr d off q x => simp [V.at, Cd.eqb] at hc
          | whole c q k n x => simp only [V.at, Cd.eqb_iff] at hc; subst hc; rw [hdead] at x; cases x
          | wholeV c x => simp only [V.at, Cd.eqb_iff] at hc; subst hc; rw [hdead] at x; cases x
          | ref c off len q k n x => simp only [V.at, Cd.eqb_iff] at hc; subst hc; rw [hdead] at x; cases x
          | refE c off q k n f x => simp only [V.at, Cd.eqb_iff] at hc; subst hc; rw [hdead] at x; cases x
          | refV c x => simp only [V.at, Cd.eqb_iff] at hc; subst hc; rw [hdead] at x; cases x
          | ep c i off q k n x => simp only [V.at, Cd.eqb_iff] at hc; subst hc; rw [hdead] at x; cases x
          | _ => simp [V.at] at hc
      | false =>
        rw [hs] at hk
        refine ⟨_, _, _, hk, fun θ base e1 h1 he r => ?_⟩
        obtain ⟨ds, h2, h3⟩ := hop θ base e1 h1 he r
        have hle : θ.le (θ.upd (.loc d) (some (.obj h1.next))) := Th.le_upd θ rfl _
        obtain ⟨r', g⟩ := r.newLoc (d := d) (p := .obj h1.next) (x := .arr cells) (y := .arr ds.length [ds]) rfl (.arr _ ds h1.next (Th.upd_same _ _ _) (by simp) ((h2.mono hle).crl 0))
        exact ⟨_, _, _, .of fun m => by rw [hno]; exact h3, .ptr _ _ _ (Th.upd_same _ _ _), he.purge hle _ fun c hc => Th.upd_other θ hc _, r', g⟩
  · cases hk
theorem newSeq_mid {fns : Fns} {op : AOp} {d : Nat} {s : Sq} {b : Bool} {k : Nat} {rows : List (List AV)} (he : VTL θ e e1) (r : RH θ ba base h h1) (hok : s.kIs k = true) (hs : VCR θ s.rows rows) (hb : b = true → rows.length ≤ 1000000000)
    (hop : From fun m => opSem (sem fns m) base e1 h1 op = some (.ref h1.next k 0 rows.length, h1.new (.arr k rows))) :
    Mid fns ba base θ e1 h1 op (.whole (.loc d)) (purge (.loc d) e) (h.put (.loc d) (some (.seq s b))) := by
  have hle : θ.le (θ.upd (.loc d) (some (.arr h1.next k s.len))) := Th.le_upd θ rfl _
  have hl : s.len = rows.length := by rw [Sq.len_rows, hs.length]
  obtain ⟨r', g⟩ := r.newLoc (d := d) (p := .arr h1.next k s.len) (x := .seq s b) (y := .arr k rows) rfl
    (.seq s b h1.next k rows (Th.upd_same _ _ _) (by simp) (by omega) (by rw [show rows.take s.len = rows by rw [hl, List.take_length]]; exact hs.mono hle) hok (fun q => ⟨hl.symm, hb q⟩) rfl)
  refine ⟨_, _, _, hop, ?_, he.purge hle _ fun c hc => Th.upd_other θ hc _, r', g⟩
  rw [← hl]
  exact .whole _ _ _ _ (Th.upd_same _ _ _)
end
end Go.Am
namespace Go.Am
section
variable {θ θ' : Th} {ba : Ba} {base : Nat} {h h' : HV} {h1 h1' : H} {e : List V} {e1 : List AV} {v w : V} {a b : AV} {fns : Fns}
theorem VTL.mono' (l : θ.le θ') {vs : List V} {as : List AV} (x : VTL θ vs as) (k : ∀ v ∈ vs, ∀ c, v.at c = true → θ' c = θ c) : VTL θ' vs as := by
  induction x with
  | nil => exact .nil
  | cons h _ ih => exact .cons (h.mono l (k _ (by simp))) (ih fun v hv => k v (by simp [hv]))
theorem RH.place (r : RH θ ba base h h1) {d : Nat} {p : Pos} {x : O2} (hfree : ∀ c p' q, θ c = some p' → p'.q = some q → p.q ≠ some q) (hlt : ∀ q, p.q = some q → q < h1.next ∧ base ≤ q)
    (ho : OR (θ.upd (.loc d) (some p)) h1 (.loc d) x) : RH (θ.upd (.loc d) (some p)) ba base (h.put (.loc d) (some x)) h1 := by
  have key : ∀ c' p' q, θ.upd (.loc d) (some p) c' = some p' → p'.q = some q → (c' = .loc d ∧ p.q = some q) ∨ (c' ≠ .loc d ∧ θ c' = some p' ∧ p.q ≠ some q) := by
    intro c' p' q e e'
    by_cases hc : c' = .loc d
    · subst hc; rw [Th.upd_same] at e; cases e; exact .inl ⟨rfl, e'⟩
    · rw [Th.upd_other θ hc] at e; exact .inr ⟨hc, e, hfree _ _ _ e e'⟩
  refine ⟨fun c hc => ?_, fun c z hc => ?_, fun c c' p1 p2 q e1 e2 e3 e4 => ?_, fun c p' q e e' => ?_, fun o ho' => ?_, fun c p' q e e' hw => ?_, r.bn, fun o i ho' => by simp only [HV.get_put, HV.next_put] at ho' ⊢; rw [if_neg (by simp)]; exact r.nxc o i ho'⟩
  · simp only [HV.get_put] at hc
    split at hc
    · cases hc
    · rename_i hne; rw [Th.upd_other θ hne]; exact r.dead c hc
  · simp only [HV.get_put] at hc
    split at hc
    · rename_i hcd; subst hcd; cases hc; exact ho
    · rename_i hne
      exact (r.live c z hc).move (Th.le_upd θ rfl _) (Th.upd_other θ hne _) (fun o j cells _ _ _ => Th.upd_other θ (by simp) _) fun p' q' e1 e2 => rfl
  · rcases key _ _ _ e1 e3 with ⟨a, b⟩ | ⟨a, b, b'⟩ <;> rcases key _ _ _ e2 e4 with ⟨a', c1⟩ | ⟨a', c1, c1'⟩
    · rw [a, a']
    · exact absurd b c1'
    · exact absurd c1 b'
    · exact r.inj _ _ _ _ _ b c1 e3 e4
  · rcases key _ _ _ e e' with ⟨a, b⟩ | ⟨a, b, b'⟩
    · exact (hlt q b).1
    · exact r.lt _ _ _ b e'
  · simp only [HV.get_put, HV.next_put] at ho' ⊢
    rw [if_neg (by simp)]
    exact r.nx o ho'
  · rcases key _ _ _ e e' with ⟨a, b⟩ | ⟨a, b, b'⟩
    · exact (hlt q b).2
    · exact r.wr _ _ _ b e' hw
theorem upd_free (r : RH θ ba base h h1) {c : Cd} {p : Pos} (e : θ c = some p) : ∀ c' p' q, θ.upd c none c' = some p' → p'.q = some q → p.q ≠ some q := by
  intro c' p' q e1 e2 e3
  by_cases hc : c' = c
  · subst hc; rw [Th.upd_same] at e1; cases e1
  · rw [Th.upd_other θ hc] at e1
    exact hc (r.inj _ _ _ _ _ e1 e e2 e3)
theorem seq_st (r : RH θ ba base h h1) {c : Cd} {s : Sq} {b : Bool} (hc : h.get c = some (.seq s b)) : c.isSt = false := by
  cases r.live _ _ hc with
  | seq _ _ _ _ _ _ _ _ _ _ _ h => exact h
  | virt _ _ _ _ h => exact h
theorem apart_sim (r : RH θ ba base h h1) {c : Cd} {q k n : Nat} (hq : θ c = some (.arr q k n)) (x : VT θ w b) (hw : w.at c = false) (hne : w ≠ .any) : apart q b = true := by
  cases b with
  | ref p k' off len =>
    simp only [apart, nbeq, Bool.not_eq_true', decide_eq_false_iff_not]
    intro hpq
    have fin : ∀ d, (∃ k n, θ d = some (.arr p k n)) → w.at d = true → False := by
      rintro d ⟨k1, n1, hd⟩ hat
      have : c = d := r.inj _ _ _ _ q hq hd rfl (by rw [← hpq]; rfl)
      subst this
      rw [hw] at hat; cases hat
    cases x with
    | flat x => cases x with | cell x => cases x
    | whole d _ k n hd => exact fin d ⟨_, _, hd⟩ (by simp [V.at, Cd.eqb_iff])
    | ref d _ _ _ k n hd => exact fin d ⟨_, _, hd⟩ (by simp [V.at, Cd.eqb_iff])
    | any => exact absurd rfl hne
  | _ => rfl
theorem move_mid {op : AOp} {d k n : Nat} {c : Cd} {s : Sq} {bb : Bool} {q : Nat} {R : List (List AV)} (he : VTL θ e e1) (r : RH θ ba base h h1) (hc : c.isSt = false) (hq : θ c = some (.arr q k n)) (hw : writable ba c = true)
    (hg : h1.get q = some (.arr k R)) (hl : s.len ≤ R.length) (hs : VCR θ s.rows (R.take s.len)) (hk : s.kIs k = true) (hb : bb = true → R.length = s.len ∧ R.length ≤ 1000000000) (hop : From fun m => opSem (sem fns m) base e1 h1 op = some (.ref q k 0 s.len, h1)) :
    Mid fns ba base θ e1 h1 op (.whole (.loc d)) (purge (.loc d) (purge c e)) ((cut h c).put (.loc d) (some (.seq s bb))) := by
  obtain ⟨r1, g1⟩ := r.cut (h1' := h1) hc hq rfl (fun _ _ => rfl)
  have hle : θ.le (θ.upd c none) := Th.le_upd θ hc _
  have hle2 : (θ.upd c none).le ((θ.upd c none).upd (.loc d) (some (.arr q k s.len))) := Th.le_upd _ rfl _
  have r2 := r1.place (d := d) (p := .arr q k s.len) (x := .seq s bb) (fun c' p' q' u1 u2 u3 => upd_free r hq c' p' q' u1 u2 (by cases u3; rfl)) (fun q' e' => by cases e'; exact ⟨r.lt _ _ _ hq rfl, r.wr _ _ _ hq rfl hw⟩)
    (.seq s bb q k R (Th.upd_same _ _ _) hg hl (hs.mono (Th.le_trans hle hle2)) hk hb rfl)
  refine ⟨_, _, _, hop, .whole _ _ _ _ (Th.upd_same _ _ _), (he.purge hle _ fun c hc => Th.upd_other θ hc _).purge hle2 _ fun c hc => Th.upd_other _ hc _, r2, ⟨Th.le_trans hle hle2, fun _ _ _ => rfl, fun c' p' q' e e' => ?_, Nat.le_refl _⟩⟩
  by_cases hcd : c' = .loc d
  · subst hcd; rw [Th.upd_same] at e; cases e; cases e'; exact .inl ⟨_, _, hq, rfl⟩
  · rw [Th.upd_other _ hcd] at e
    by_cases hcc : c' = c
    · subst hcc; rw [Th.upd_same] at e; cases e
    · rw [Th.upd_other _ hcc] at e; exact .inl ⟨_, _, e, e'⟩
theorem grow_mid {op : AOp} {bb : Bool} {d k : Nat} {c : Cd} {p : Pos} {t : Sq} {rows : List (List AV)} (he : VTL θ e e1) (r : RH θ ba base h h1) (hc : c.isSt = false) (hq : θ c = some p) (hn : h1'.next = h1.next) (hkill : ∀ q, p.q ≠ some q → h1'.get q = h1.get q)
    (hs : VCR θ t.rows rows) (hk : t.kIs k = true) (hb : rows.length ≤ 1000000000) (hop : From fun m => opSem (sem fns m) base e1 h1 op = some (.ref h1.next k 0 rows.length, h1'.new (.arr k rows))) :
    Mid fns ba base θ e1 h1 op (.whole (.loc d)) (purge (.loc d) (purge c e)) ((cut h c).put (.loc d) (some (.seq t bb))) := by
  obtain ⟨r1, g1⟩ := r.cut hc hq hn hkill
  have hle : θ.le (θ.upd c none) := Th.le_upd θ hc _
  have hl : t.len = rows.length := by rw [Sq.len_rows, hs.length]
  have hle2 : (θ.upd c none).le ((θ.upd c none).upd (.loc d) (some (.arr h1'.next k t.len))) := Th.le_upd _ rfl _
  obtain ⟨r2, g2⟩ := r1.newLoc (d := d) (p := .arr h1'.next k t.len) (x := .seq t bb) (y := .arr k rows) rfl
    (.seq t bb h1'.next k rows (Th.upd_same _ _ _) (by simp) (by omega) (by rw [show rows.take t.len = rows by rw [hl, List.take_length]]; exact hs.mono (Th.le_trans hle hle2)) hk (fun _ => ⟨hl.symm, hb⟩) rfl)
  refine ⟨_, _, _, hop, ?_, (he.purge hle _ fun c hc => Th.upd_other θ hc _).purge hle2 _ fun c hc => Th.upd_other _ hc _, r2, g1.trans g2⟩
  rw [← hl, ← hn]
  exact .whole _ _ _ _ (Th.upd_same _ _ _)
theorem stepOp_append (T : CallSem) (bs : Nat) (x : Env) (y : H) (r : Bool) (k lim : Nat) (a b : AO) : opSem T bs x y (.append r k lim a b) = stepOp bs x y (.append r k lim a b) := rfl
theorem ne_any_of_content {β : Type} {K : Sq → Option β} {z : β} (hk : contentK h w K = some z) : w ≠ .any := by
  intro q; subst q; simp [contentK] at hk
theorem append_ok {d : Option Nat} {rr : Bool} {k lim : Nat} {x y : AO} {K : V → List V → HV → Option RA} {z : RA} (hk : appendV ba d e h rr k lim (x.evV e) (y.evV e) K = some z) :
    ∃ v e' h', K v e' h' = some z ∧ StepOK fns ba e h (.append rr k lim x y) v e' h' := by
  unfold appendV at hk
  have hne := ne_any_of_content hk
  -- the contents that are joined
  have hcs : ∀ {β : Type} {K : Sq → Option β} {z : β}, contentK h (y.evV e) K = some z → ∃ ys, K ys = some z ∧ ∀ (θ : Th) (base : Nat) e1 h1, VTL θ e e1 → RH θ ba base h h1 → ∃ rows, rowsOf h1 (y.ev e1) = some rows ∧ VCR θ ys.rows rows := by
    intro β K z hz
    have : ∃ ys, K ys = some z ∧ ∀ {γ : Type} (L : Sq → Option γ), contentK h (y.evV e) L = L ys := by
      unfold contentK at hz ⊢
      split at hz
      · exact ⟨_, hz, fun L => rfl⟩
      · exact ⟨_, hz, fun L => rfl⟩
      · split at hz
        · rename_i hc; exact ⟨_, hz, fun L => by simp only [hc]⟩
        · cases hz
      · split at hz
        · rename_i hc
          cases hle : Nat.ble (_ + _) (Sq.len _) with
          | true => rw [hle] at hz; exact ⟨_, hz, fun L => by simp only [hc, hle, cond_true]⟩
          | false => rw [hle] at hz; cases hz
        · cases hz
      · cases hz
    obtain ⟨ys, k1, k2⟩ := this
    refine ⟨ys, k1, fun θ base e1 h1 he r => ?_⟩
    obtain ⟨s, q1, rows, q2, q3, _⟩ := content_sim (K := some) r (he.ev y) (k2 some)
    cases q1
    exact ⟨rows, q2, q3⟩
  have hq0 := hcs hk
  clear hk hcs
  obtain ⟨ys, hk, hys⟩ := hq0
  cases hokk : (ys.okk k && Nat.ble lim 1000000000) with
  | false => rw [hokk] at hk; cases hk
  | true =>
  rw [hokk] at hk
  simp only [Bool.and_eq_true, Nat.ble_eq] at hokk
  obtain ⟨hokk, hlim⟩ := hokk
  simp only [cond_true] at hk
  split at hk
  · -- onto what never changes
    rename_i s hs
    cases hsk : s.okk k with
    | false => rw [hsk] at hk; cases hk
    | true =>
    rw [hsk] at hk
    cases hnil : (s.isNil || ys.isCons) with
    | false => rw [hnil] at hk; cases hk
    | true =>
    rw [hnil] at hk
    simp only [cond_true] at hk
    have hq0 := Sq.appK_some hk
    clear hk
    obtain ⟨t, hk, ht1, ht2⟩ := hq0
    cases htl : Nat.ble t.len lim with
    | false => rw [htl] at hk; cases hk
    | true =>
    rw [htl] at hk
    rw [Nat.ble_eq] at htl
    simp only [cond_true] at hk
    -- what the first machine does
    have main : ∀ (θ : Th) (base : Nat) e1 h1, VTL θ e e1 → RH θ ba base h h1 → ∃ rows, VCR θ t.rows rows ∧ ((rows = [] ∧ stepOp base e1 h1 (.append rr k lim x y) = some (.vs true [], h1)) ∨
        (stepOp base e1 h1 (.append rr k lim x y) = if rr then some (.ref h1.next k 0 rows.length, h1.new (.arr k rows)) else some (.vs false rows, h1))) := by
      intro θ base e1 h1 he r
      obtain ⟨yr, q1, q2⟩ := hys θ base e1 h1 he r
      have hx := he.ev x
      rw [hs] at hx
      obtain ⟨g, xr, hx1, hx2, hx3⟩ := hx.vs'
      have hg := hx2 rfl
      subst hg
      refine ⟨xr ++ yr, ht2 θ _ _ hx3 q2, ?_⟩
      have hl : t.len = xr.length + yr.length := by rw [ht1, Sq.len_rows, Sq.len_rows, hx3.length, q2.length]
      have hyk := q2.rowlen (Sq.okk_rows hokk)
      have hxk := hx3.rowlen (Sq.okk_rows hsk)
      simp only [stepOp, q1, hx1]
      cases yr with
      | nil =>
        left
        have : xr = [] := by
          cases q2' : ys.rows with
          | cons _ _ => rw [q2'] at q2; cases q2
          | nil =>
            have hc : ys.isCons = false := by
              cases ys with
              | raw k rows => cases rows with | nil => rfl | cons => cases q2'
              | ty u l => cases l with | nil => rfl | cons => cases q2'
            rw [hc, Bool.or_false] at hnil
            have : s.rows = [] := by
              cases s with
              | raw k rows => cases rows with | nil => rfl | cons => cases hnil
              | ty u l => cases l with | nil => rfl | cons => cases hnil
            rw [this] at hx3; cases hx3; rfl
        subst this
        exact ⟨rfl, rfl⟩
      | cons y0 yr =>
        right
        have c1 : y0.length = k := hyk y0 (by simp)
        have c2 : (xr.headD y0).length = k := by
          cases xr with
          | nil => exact c1
          | cons x0 xr => exact hxk x0 (by simp)
        have hlen : xr.length + (y0 :: yr).length ≤ lim := by omega
        show (if y0.length = k ∧ (xr.headD y0).length = k ∧ xr.length + (y0 :: yr).length ≤ lim then _ else none) = _
        rw [if_pos (show y0.length = k ∧ (xr.headD y0).length = k ∧ xr.length + (y0 :: yr).length ≤ lim from ⟨c1, c2, hlen⟩), List.length_append]
    cases rr with
    | false =>
      refine ⟨_, _, _, hk, fun θ base e1 h1 he r => ?_⟩
      obtain ⟨rows, q1, q2⟩ := main θ base e1 h1 he r
      rcases q2 with ⟨q2, q3⟩ | q3
      · subst q2
        exact ⟨_, _, θ, .of fun m => q3, .flat (.cell (.vs _ _ _ _ (by simp) q1)), he, r, Grow.refl _ _⟩
      · exact ⟨_, _, θ, .of fun m => q3, .flat (.cell (.vs _ _ _ _ (by simp) q1)), he, r, Grow.refl _ _⟩
    | true =>
      simp only [cond_true] at hk
      cases htk : t.kIs k with
      | false => rw [htk] at hk; cases hk
      | true =>
      rw [htk] at hk
      simp only [cond_true] at hk
      unfold newSeq at hk
      cases d with
      | none => cases hk
      | some d =>
        refine ⟨_, _, _, hk, fun θ base e1 h1 he r => ?_⟩
        obtain ⟨rows, q1, q2⟩ := main θ base e1 h1 he r
        have hl : rows.length = t.len := by rw [Sq.len_rows, q1.length]
        rcases q2 with ⟨q2, q3⟩ | q3
        · subst q2
          have : t.rows = [] := by cases ht : t.rows with
            | nil => rfl
            | cons => rw [ht] at q1; cases q1
          obtain ⟨r', g⟩ := r.newVirt (d := d) (s := t) (b := true) this
          exact ⟨_, _, _, .of fun m => q3, .wholeV _ (Th.upd_same _ _ _), he.purge g.le _ fun c hc => Th.upd_other θ hc _, r', g⟩
        · exact newSeq_mid he r htk q1 (fun _ => by omega) (.of fun m => q3)
  · -- onto an array
    rename_i c hs
    cases hc0 : (rr && writable ba c && !(y.evV e).at c) with
    | false => rw [hc0] at hk; cases hk
    | true =>
    rw [hc0] at hk
    simp only [Bool.and_eq_true, Bool.not_eq_true'] at hc0
    obtain ⟨⟨hrr, hw⟩, hap⟩ := hc0
    subst hrr
    simp only [cond_true] at hk
    split at hk
    case h_2 => cases hk
    rename_i s bb hc
    cases hsk : s.kIs k with
    | false => rw [hsk] at hk; cases hk
    | true =>
    rw [hsk] at hk
    simp only [cond_true] at hk
    have hq0 := Sq.appK_some hk
    clear hk
    obtain ⟨t, hk, ht1, ht2⟩ := hq0
    cases htl : (Nat.ble t.len lim && t.kIs k) with
    | false => rw [htl] at hk; cases hk
    | true =>
    rw [htl] at hk
    simp only [Bool.and_eq_true, Nat.ble_eq] at htl
    obtain ⟨htl, htk⟩ := htl
    simp only [cond_true] at hk
    unfold newSeq at hk
    generalize homeOf c d = d' at hk
    cases d' with
    | none => cases hk
    | some d =>
    refine ⟨_, _, _, hk, fun θ base e1 h1 he r => ?_⟩
    obtain ⟨yr, q1, q2⟩ := hys θ base e1 h1 he r
    have hyk := q2.rowlen (Sq.okk_rows hokk)
    have hx := he.ev x
    rw [hs] at hx
    have hst := seq_st r hc
    rcases hx.whole' with ⟨q, k0, n, hq, hx1⟩ | ⟨hq, hx1⟩
    · cases r.live _ _ hc with
      | virt _ _ a1 => rw [hq] at a1; cases a1
      | seq _ _ q' k' R a1 a2 a3 a4 a5 a6 a7 =>
      rw [hq] at a1; cases a1
      have hkk : k0 = k := Sq.kIs_inj a5 hsk
      subst hkk
      have hrows := ht2 θ _ _ a4 q2
      have hl : t.len = s.len + yr.length := by rw [ht1, Sq.len_rows ys, q2.length]
      have hap' := apart_sim r hq (he.ev y) hap hne
      cases yr with
      | nil =>
        have hop : stepOp base e1 h1 (.append true k0 lim x y) = some (.ref q k0 0 s.len, h1) := by simp only [stepOp, q1, hx1]
        have hl' : t.len = s.len := by simpa using hl
        rw [← hl'] at hop
        exact move_mid he r hst hq hw a2 (by omega) (by rw [hl']; simpa using hrows) htk (fun q => by have := a6 q; omega) (.of fun m => hop)
      | cons y0 yr =>
        have c1 : y0.length = k0 := hyk y0 (by simp)
        have hlr : (R.take s.len ++ y0 :: yr).length = t.len := by rw [List.length_append, List.length_take]; omega
        have hop : stepOp base e1 h1 (.append true k0 lim x y) = some (.ref h1.next k0 0 (R.take s.len ++ y0 :: yr).length, (h1.kill q).new (.arr k0 (R.take s.len ++ y0 :: yr))) := by
          simp only [stepOp, q1, hx1, a2]
          rw [if_pos ⟨trivial, r.wr _ _ _ hq rfl hw, trivial, c1, a3, by rw [List.length_cons] at hl; simp only [List.length_cons]; omega, hap'⟩, hlr, hl]
        exact grow_mid (h1' := h1.kill q) he r hst hq rfl (fun q' hq' => by rw [H.get_kill, if_neg]; intro hqq; subst hqq; exact hq' rfl) hrows htk (by omega) (.of fun m => hop)
    · cases r.live _ _ hc with
      | seq _ _ q' k' R a1 => rw [hq] at a1; cases a1
      | virt _ _ a1 a2 a3 =>
      have hrows := ht2 θ [] _ (by rw [a2]; exact .nil) q2
      simp only [List.nil_append] at hrows
      have hl : t.len = yr.length := by rw [Sq.len_rows, hrows.length]
      cases yr with
      | nil =>
        have hop : stepOp base e1 h1 (.append true k lim x y) = some (.vs true [], h1) := by simp only [stepOp, q1, hx1]
        obtain ⟨r1, g1⟩ := r.cut (h1' := h1) hst hq rfl (fun _ _ => rfl)
        have htr : t.rows = [] := by cases ht : t.rows with
          | nil => rfl
          | cons => rw [ht] at hrows; cases hrows
        obtain ⟨r', g⟩ := r1.newVirt (d := d) (s := t) (b := bb) htr
        exact ⟨_, _, _, .of fun m => hop, .wholeV _ (Th.upd_same _ _ _), (he.purge g1.le _ fun c hc => Th.upd_other θ hc _).purge g.le _ fun c hc => Th.upd_other _ hc _, r', g1.trans g⟩
      | cons y0 yr =>
        have c1 : y0.length = k := hyk y0 (by simp)
        have hop : stepOp base e1 h1 (.append true k lim x y) = some (.ref h1.next k 0 (y0 :: yr).length, h1.new (.arr k (y0 :: yr))) := by
          simp only [stepOp, q1, hx1]
          rw [if_pos ⟨c1, c1, by simp only [List.length_nil]; omega⟩]
          simp
        exact grow_mid (h1' := h1) he r hst hq rfl (fun q' _ => rfl) hrows htk (by omega) (.of fun m => hop)
  · -- onto an array's beginning
    rename_i c len hs
    cases hc0 : (rr && writable ba c && !(y.evV e).at c) with
    | false => rw [hc0] at hk; cases hk
    | true =>
    rw [hc0] at hk
    simp only [Bool.and_eq_true, Bool.not_eq_true'] at hc0
    obtain ⟨⟨hrr, hw⟩, hap⟩ := hc0
    subst hrr
    simp only [cond_true] at hk
    split at hk
    case h_2 => cases hk
    rename_i s bb hc
    cases hsk : (s.kIs k && Nat.ble len s.len) with
    | false => rw [hsk] at hk; cases hk
    | true =>
    rw [hsk] at hk
    simp only [Bool.and_eq_true, Nat.ble_eq] at hsk
    obtain ⟨hsk, hll⟩ := hsk
    simp only [cond_true] at hk
    have hq0 := Sq.appK_some hk
    clear hk
    obtain ⟨t, hk, ht1, ht2⟩ := hq0
    cases htl : (Nat.ble t.len lim && t.kIs k) with
    | false => rw [htl] at hk; cases hk
    | true =>
    rw [htl] at hk
    simp only [Bool.and_eq_true, Nat.ble_eq] at htl
    obtain ⟨htl, htk⟩ := htl
    simp only [cond_true] at hk
    unfold newSeq at hk
    generalize homeOf c d = d' at hk
    cases d' with
    | none => cases hk
    | some d =>
    refine ⟨_, _, _, hk, fun θ base e1 h1 he r => ?_⟩
    obtain ⟨yr, q1, q2⟩ := hys θ base e1 h1 he r
    have hyk := q2.rowlen (Sq.okk_rows hokk)
    have hx := he.ev x
    rw [hs] at hx
    have hst := seq_st r hc
    have htake : (s.take len).len = len := by rw [Sq.len_rows, Sq.rows_take, List.length_take, ← Sq.len_rows]; omega
    rcases hx.ref' with ⟨q, k0, n, hq, _, hx1⟩ | ⟨q, k0, n, f, hq, _, h0, _, hx1⟩ | ⟨hq, _, hl0, hx1⟩
    · cases r.live _ _ hc with
      | virt _ _ a1 => rw [hq] at a1; cases a1
      | seq _ _ q' k' R a1 a2 a3 a4 a5 a6 a7 =>
      rw [hq] at a1; cases a1
      have hkk : k0 = k := Sq.kIs_inj a5 hsk
      subst hkk
      have hsr : VCR θ (s.take len).rows (R.take len) := by
        have := a4.take len
        rw [List.take_take, Nat.min_eq_left hll] at this
        rw [Sq.rows_take]; exact this
      have hrows := ht2 θ _ _ hsr q2
      have hl : t.len = len + yr.length := by rw [ht1, htake, Sq.len_rows ys, q2.length]
      have hap' := apart_sim r hq (he.ev y) hap hne
      cases yr with
      | nil =>
        have hop : stepOp base e1 h1 (.append true k0 lim x y) = some (.ref q k0 0 len, h1) := by simp only [stepOp, q1, hx1]
        have hl' : t.len = len := by simpa using hl
        rw [← hl'] at hop
        exact move_mid he r hst hq hw a2 (by omega) (by rw [hl']; simpa using hrows) htk (fun q => by cases q) (.of fun m => hop)
      | cons y0 yr =>
        have c1 : y0.length = k0 := hyk y0 (by simp)
        have hlr : (R.take len ++ y0 :: yr).length = t.len := by rw [List.length_append, List.length_take]; omega
        have hop : stepOp base e1 h1 (.append true k0 lim x y) = some (.ref h1.next k0 0 (R.take len ++ y0 :: yr).length, (h1.kill q).new (.arr k0 (R.take len ++ y0 :: yr))) := by
          simp only [stepOp, q1, hx1, a2]
          rw [if_pos ⟨trivial, r.wr _ _ _ hq rfl hw, trivial, c1, by omega, by rw [List.length_cons] at hl; simp only [List.length_cons]; omega, hap'⟩, hlr, hl]
        exact grow_mid (h1' := h1.kill q) he r hst hq rfl (fun q' hq' => by rw [H.get_kill, if_neg]; intro hqq; subst hqq; exact hq' rfl) hrows htk (by omega) (.of fun m => hop)
    · omega
    · subst hl0
      have hrows := ht2 θ [] _ (by rw [Sq.rows_take]; simpa using VCR.nil) q2
      simp only [List.nil_append] at hrows
      have hl : t.len = yr.length := by rw [Sq.len_rows, hrows.length]
      cases yr with
      | nil =>
        have hop : stepOp base e1 h1 (.append true k lim x y) = some (.vs true [], h1) := by simp only [stepOp, q1, hx1]
        obtain ⟨r1, g1⟩ := r.cut (h1' := h1) hst hq rfl (fun _ _ => rfl)
        have htr : t.rows = [] := by cases ht : t.rows with
          | nil => rfl
          | cons => rw [ht] at hrows; cases hrows
        obtain ⟨r', g⟩ := r1.newVirt (d := d) (s := t) (b := false) htr
        exact ⟨_, _, _, .of fun m => hop, .wholeV _ (Th.upd_same _ _ _), (he.purge g1.le _ fun c hc => Th.upd_other θ hc _).purge g.le _ fun c hc => Th.upd_other _ hc _, r', g1.trans g⟩
      | cons y0 yr =>
        have c1 : y0.length = k := hyk y0 (by simp)
        have hop : stepOp base e1 h1 (.append true k lim x y) = some (.ref h1.next k 0 (y0 :: yr).length, h1.new (.arr k (y0 :: yr))) := by
          simp only [stepOp, q1, hx1]
          rw [if_pos ⟨c1, c1, by simp only [List.length_nil]; omega⟩]
          simp
        exact grow_mid (h1' := h1) he r hst hq rfl (fun q' _ => rfl) hrows htk (by omega) (.of fun m => hop)
  · cases hk
end
end Go.Am
namespace Go.Am
section
variable {θ θ' : Th} {ba : Ba} {base : Nat} {h h' : HV} {h1 h1' : H} {e : List V} {e1 : List AV} {v w : V} {a b : AV} {fns : Fns}
theorem CRL.monoAt (l : θ.le θ') {c : Cd} : ∀ {i : Nat} {vs : List V} {as : List AV}, CRL θ c i vs as → (∀ o j, c = .st o → j < vs.length → θ' (.cell o (i + j)) = θ (.cell o (i + j))) → CRL θ' c i vs as :=
  fun x k => x.mono l fun o j e1 e2 => k o j e1 (by rw [List.getElem?_eq_some_iff] at e2; exact e2.1)
theorem RH.own (r : RH θ ba base h h1) {o off qo : Nat} {cells : List V} {ds : List AV} {p : Option Pos} {x : Option O2} (hst : ∃ y, h.get (.st o) = some y) (hqo : θ (.st o) = some (.obj qo))
    (hx : (x = none ∧ p = none) ∨ ∃ p0 y, p = some p0 ∧ x = some y ∧ OR (θ.upd (.cell o off) p) h1 (.cell o off) y ∧ (∀ c p' q, θ c = some p' → p'.q = some q → p0.q ≠ some q) ∧ ∀ q, p0.q = some q → q < h1.next ∧ base ≤ q)
    (hc : CRL (θ.upd (.cell o off) p) (.st o) 0 cells ds) :
    RH (θ.upd (.cell o off) p) ba base ((h.put (.cell o off) x).put (.st o) (some (.arr cells))) (h1.put qo (.arr ds.length [ds])) := by
  have hle : θ.le (θ.upd (.cell o off) p) := Th.le_upd θ rfl _
  have hget : ∀ c, ((h.put (.cell o off) x).put (.st o) (some (.arr cells))).get c = if c = .st o then some (.arr cells) else if c = .cell o off then x else h.get c := by
    intro c; simp
  have key : ∀ c' p' q, θ.upd (.cell o off) p c' = some p' → p'.q = some q → (c' = .cell o off ∧ (∃ p0, p = some p0 ∧ p0.q = some q) ∧ q < h1.next ∧ base ≤ q ∧ ∀ c p' , θ c = some p' → p'.q ≠ some q) ∨ (c' ≠ .cell o off ∧ θ c' = some p') := by
    intro c' p' q e e'
    by_cases hc : c' = .cell o off
    · subst hc; rw [Th.upd_same] at e
      rcases hx with ⟨_, hp⟩ | ⟨p0, y, hp, _, _, hf, hl⟩
      · rw [hp] at e; cases e
      · rw [hp] at e; cases e
        exact .inl ⟨rfl, ⟨_, hp, e'⟩, (hl q e').1, (hl q e').2, fun c p'' e1 e2 => hf c p'' q e1 e2 e'⟩
    · rw [Th.upd_other θ hc] at e; exact .inr ⟨hc, e⟩
  have hne : ∀ c' p' q, θ.upd (.cell o off) p c' = some p' → p'.q = some q → c' ≠ .st o → q ≠ qo := by
    intro c' p' q e e' hcs hq
    subst hq
    rcases key _ _ _ e e' with ⟨_, _, _, _, hf⟩ | ⟨_, e2⟩
    · exact hf _ _ hqo rfl
    · exact hcs (r.inj _ _ _ _ _ e2 hqo e' rfl)
  refine ⟨fun c hd => ?_, fun c z hz => ?_, fun c c' p1 p2 q e1 e2 e3 e4 => ?_, fun c p' q e e' => ?_, fun o' ho' => ?_, fun c p' q e e' hw => ?_, by simpa using r.bn, fun o' i ho' => ?_⟩
  · rw [hget] at hd
    split at hd
    · cases hd
    · split at hd
      · rename_i hcc; subst hcc
        rw [Th.upd_same]
        rcases hx with ⟨_, hp⟩ | ⟨p0, y, hp, hxy, _⟩
        · exact hp
        · rw [hxy] at hd; cases hd
      · rename_i hcc; rw [Th.upd_other θ hcc]; exact r.dead c hd
  · rw [hget] at hz
    split at hz
    · rename_i hcs; subst hcs; cases hz
      exact .arr _ ds qo (hle _ _ hqo) (by simp) hc
    · rename_i hcs
      split at hz
      · rename_i hcc; subst hcc
        rcases hx with ⟨hx0, hp⟩ | ⟨p0, y, hp, hxy, ho, hf, hl⟩
        · rw [hx0] at hz; cases hz
        · rw [hxy] at hz; cases hz
          refine ho.move (Th.le_refl _) rfl (fun _ _ _ _ _ _ => rfl) fun p' q e1 e2 => ?_
          rw [H.get_put, if_neg (hne _ _ _ e1 e2 hcs)]
      · rename_i hcc
        refine (r.live c z hz).move hle (Th.upd_other θ hcc _) (fun o2 j cells' e1 e2 e3 => ?_) fun p' q e1 e2 => ?_
        · rw [Th.upd_other θ]
          intro hq; cases hq; exact hcs e2
        · rw [H.get_put, if_neg]
          intro hq; subst hq
          exact hcs (r.inj _ _ _ _ _ e1 hqo e2 rfl)
  · rcases key _ _ _ e1 e3 with ⟨a, _, _, _, b⟩ | ⟨a, b⟩ <;> rcases key _ _ _ e2 e4 with ⟨a', _, _, _, c1⟩ | ⟨a', c1⟩
    · rw [a, a']
    · exact absurd e4 (b _ _ c1)
    · exact absurd e3 (c1 _ _ b)
    · exact r.inj _ _ _ _ _ b c1 e3 e4
  · rcases key _ _ _ e e' with ⟨_, _, b, _⟩ | ⟨_, b⟩
    · exact b
    · exact r.lt _ _ _ b e'
  · simp only [HV.next_put] at ho'
    rw [hget, if_neg, if_neg (by simp)]
    · exact r.nx o' ho'
    · intro hq; cases hq
      obtain ⟨y, hy⟩ := hst
      rw [r.nx o ho'] at hy; cases hy
  · rcases key _ _ _ e e' with ⟨_, _, _, b, _⟩ | ⟨_, b⟩
    · exact b
    · exact r.wr _ _ _ b e' hw
  · simp only [HV.next_put] at ho'
    rw [hget, if_neg (by simp)]
    split
    · rename_i hq; cases hq
      obtain ⟨y, hy⟩ := hst
      rw [r.nx o ho'] at hy; cases hy
    · exact r.nxc o' i ho'
theorem setCells_length2 {ds ws : List AV} {off : Nat} (h : off + ws.length ≤ ds.length) : (setCells ds off ws).length = ds.length := by
  unfold setCells
  simp only [List.length_append, List.length_take, List.length_drop]
  omega
theorem CRL.setc {c : Cd} {cells vs : List V} {ds as : List AV} (x : CRL θ c 0 cells ds) (y : VCL θ vs as) {off : Nat} (hle : off + vs.length ≤ cells.length) : CRL θ c 0 (setCellsV cells off vs) (setCells ds off as) := by
  unfold setCellsV setCells
  have hl := y.length
  have h1 : (cells.take off).length = off := by rw [List.length_take]; omega
  refine ((x.take off).append (y.crl _)).append ?_
  rw [List.length_append, h1, ← hl]
  exact x.drop (off + vs.length)
theorem cut_st {a : Cd} {o : Nat} {cells : List V} (ha : a.isSt = false) (hg : (cut h a).get (.st o) = some (.arr cells)) : ∃ cells0, h.get (.st o) = some (.arr cells0) ∧ cells.length = cells0.length := by
  cases a with
  | st => cases ha
  | loc d => simp only [cut] at hg; exact ⟨cells, by simpa using hg, rfl⟩
  | cell o' i =>
    simp only [cut] at hg
    split at hg
    · rename_i cs hcs
      simp only [HV.get_put] at hg
      split at hg
      · rename_i he; cases he; cases hg; exact ⟨cs, hcs, by simp⟩
      · rw [if_neg (by simp)] at hg; exact ⟨cells, hg, rfl⟩
    · exact ⟨cells, by simpa using hg, rfl⟩
theorem storeArr {sz o off : Nat} {x y : AO} {ac : Cd} {s : Sq} {b : Bool} {cells0 cells : List V} {qo : Nat} {p : Pos} {a1 : AV} (he : VTL θ e e1) (r : RH θ ba base h h1)
    (hx : x.ev e1 = .ptr qo 0 off) (hy : y.ev e1 = a1) (hqo : θ (.st o) = some (.obj qo)) (hw : base ≤ qo) (hoff : off < cells0.length) (hst0 : h.get (.st o) = some (.arr cells0)) (ha : ac.isSt = false) {p0 : Pos} (hpa : θ ac = some p0) (hpq : p.q = p0.q)
    (hwa : writable ba ac = true) (hst : (cut h ac).get (.st o) = some (.arr cells)) (hok : a1.okv = true ∧ a1.cells.length = 1) (hsz : sz = 1) (hp : ∀ θ', θ' (.cell o off) = some p → VT θ' (.whole (.cell o off)) a1)
    (hor : ∀ θ', θ.le θ' → θ' (.cell o off) = some p → OR θ' h1 (.cell o off) (.seq s b)) :
    Mid fns ba base θ e1 h1 (.store sz x y) .undef (purge (.cell o off) (purge ac e)) (((cut h ac).put (.cell o off) (some (.seq s b))).put (.st o) (some (.arr (cells.set off (.whole (.cell o off)))))) := by
  subst hsz
  obtain ⟨r1, g1⟩ := r.cut (h1' := h1) ha hpa rfl (fun _ _ => rfl)
  have hle : θ.le (θ.upd ac none) := Th.le_upd θ ha _
  have hle2 : (θ.upd ac none).le ((θ.upd ac none).upd (.cell o off) (some p)) := Th.le_upd _ rfl _
  cases r1.live _ _ hst with
  | arr _ ds q' e2 e3 e4 =>
  have hq' : q' = qo := by rw [hle _ _ hqo] at e2; cases e2; rfl
  subst hq'
  obtain ⟨c0, hc0, hlen⟩ := cut_st ha hst
  rw [hst0] at hc0; cases hc0
  have hdl := e4.length
  have hcr : CRL ((θ.upd ac none).upd (.cell o off) (some p)) (.st o) 0 (cells.set off (.whole (.cell o off))) (ds.set off a1) := by
    have := (e4.setAny (j := off)).mono hle2 fun o' j e5 e6 => by
      cases e5
      rw [Th.upd_other]
      intro hq; rw [Nat.zero_add] at hq; cases hq
      rw [Nat.zero_add, List.getElem?_set] at e6
      simp at e6
    have := this.set (j := off) (v := .whole (.cell o off)) (a := a1) (by rw [Nat.zero_add]; exact .own o rfl (hp _ (Th.upd_same _ _ _)))
    simpa [List.set_set] using this
  have r2 := r1.own (o := o) (off := off) (qo := q') (cells := cells.set off (.whole (.cell o off))) (ds := ds.set off a1) (p := some p) (x := some (.seq s b)) ⟨_, hst⟩ e2
    (.inr ⟨p, _, rfl, rfl, hor _ (Th.le_trans hle hle2) (Th.upd_same _ _ _), fun c' p' q u1 u2 u3 => upd_free r hpa c' p' q u1 u2 (by rw [← hpq]; exact u3), fun q u => ⟨r.lt _ _ _ hpa (by rw [← hpq]; exact u), r.wr _ _ _ hpa (by rw [← hpq]; exact u) hwa⟩⟩) hcr
  have hop : stepOp base e1 h1 (.store 1 x y) = some (.undef, h1.put q' (.arr (ds.set off a1).length [ds.set off a1])) := by
    have hne : ¬ a1.cells = [] := by intro q; rw [q] at hok; simp at hok
    have hcs : a1.cells = [a1] ∨ a1.isAgg = true := by cases a1 <;> simp [AV.cells, AV.isAgg]
    simp only [stepOp, hx, hy, storeAt]
    rw [if_pos ⟨hw, hok.1, hok.2⟩]
    simp only [e3, List.getElem?_cons_zero]
    rw [if_pos (by omega)]
    have hw1 := hp ((θ.upd ac none).upd (.cell o off) (some p)) (Th.upd_same _ _ _)
    have : a1.cells = [a1] := by
      rcases hw1.whole' with ⟨q, k, n, _, rfl⟩ | ⟨_, rfl⟩ <;> rfl
    rw [this]
    have hset : setCells ds off [a1] = ds.set off a1 := by
      unfold setCells
      rw [List.set_eq_take_append_cons_drop, if_pos (by omega)]
      simp
    simp [hset]
  refine ⟨_, _, _, .of fun m => hop, .undef, (he.purge hle _ fun c hc => Th.upd_other θ hc _).purge hle2 _ fun c hc => Th.upd_other _ hc _, r2, ⟨Th.le_trans hle hle2, fun q hq k => ?_, fun c' p' q u1 u2 => ?_, by simp⟩⟩
  · rw [H.get_put, if_neg]
    intro hqq; subst hqq; exact k _ _ hqo rfl
  · by_cases hcd : c' = .cell o off
    · subst hcd; rw [Th.upd_same] at u1; cases u1; exact .inl ⟨_, _, hpa, by rw [← hpq]; exact u2⟩
    · rw [Th.upd_other _ hcd] at u1
      by_cases hcc : c' = ac
      · subst hcc; rw [Th.upd_same] at u1; cases u1
      · rw [Th.upd_other _ hcc] at u1; exact .inl ⟨_, _, u1, u2⟩
end
end Go.Am
namespace Go.Am
section
variable {θ θ' : Th} {ba : Ba} {base : Nat} {h h' : HV} {h1 h1' : H} {e : List V} {e1 : List AV} {v w : V} {a b : AV} {fns : Fns}
theorem boolK {β : Type} {c : Bool} {x : Option β} {z : β} (h : (bif c then x else none) = some z) : c = true ∧ x = some z := by
  cases c
  · cases h
  · exact ⟨rfl, h⟩
theorem storeAt_obj {q off sz : Nat} {ds : List AV} (hw : base ≤ q) (hg : h1.get q = some (.arr ds.length [ds])) (ho : a.okv = true) (hl : a.cells.length = sz) (hle : off + sz ≤ ds.length) :
    storeAt base h1 sz (.ptr q 0 off) a = some (h1.put q (.arr (setCells ds off a.cells).length [setCells ds off a.cells])) := by
  simp only [storeAt]
  rw [if_pos ⟨hw, ho, hl⟩]
  simp only [hg, List.getElem?_cons_zero]
  rw [if_pos hle, setCells_length2 (by omega)]
  simp
theorem store_ok {sz : Nat} {x y : AO} {K : List V → HV → Option RA} {z : RA} (hk : storeV ba e h sz (x.evV e) (y.evV e) K = some z) :
    ∃ e' h', K e' h' = some z ∧ StepOK fns ba e h (.store sz x y) .undef e' h' := by
  unfold storeV at hk
  split at hk
  · rename_i c off hx
    have hb0 := boolK hk
    clear hk
    obtain ⟨hw, hk⟩ := hb0
    split at hk
    case h_2 => cases hk
    rename_i cells hc
    have hobj : ∀ {θ : Th} {base : Nat} {e1 : List AV} {h1 : H}, VTL θ e e1 → RH θ ba base h h1 → ∃ q ds, x.ev e1 = .ptr q 0 off ∧ θ c = some (.obj q) ∧ base ≤ q ∧ h1.get q = some (.arr ds.length [ds]) ∧ CRL θ c 0 cells ds := by
      intro θ base e1 h1 he r
      have hx1 := he.ev x
      rw [hx] at hx1
      obtain ⟨q, hq, hx1⟩ := hx1.ptr'
      cases r.live _ _ hc with
      | arr _ ds q' a1 a2 a3 => rw [hq] at a1; cases a1; exact ⟨q, ds, hx1, hq, r.wr _ _ _ hq rfl hw, a2, a3⟩
    cases harr : (y.evV e).isArr with
    | true =>
     rw [harr] at hk
     simp only [cond_true] at hk
     split at hk
     case h_3 => cases hk
     · -- an array
      rename_i ac hy
      split at hk
      case h_2 => cases hk
      rename_i o
      have hb0 := boolK hk
      clear hk
      obtain ⟨hcond, hk⟩ := hb0
      simp only [Bool.and_eq_true, Nat.beq_eq, Nat.blt_eq] at hcond
      obtain ⟨⟨hsz, hoff⟩, hwa⟩ := hcond
      split at hk
      case h_2 => cases hk
      rename_i s b hac
      split at hk
      case h_2 => cases hk
      rename_i cells2 hst
      refine ⟨_, _, hk, fun θ base e1 h1 he r => ?_⟩
      obtain ⟨q, ds, hx1, hq, hwq, hg, hcr⟩ := hobj he r
      have hy1 := he.ev y
      rw [hy] at hy1
      have ha := seq_st r hac
      rcases hy1.whole' with ⟨qa, k, n, hqa, hya⟩ | ⟨hqa, hya⟩
      · cases r.live _ _ hac with
        | virt _ _ a1 => rw [hqa] at a1; cases a1
        | seq _ _ q' k' R a1 a2 a3 a4 a5 a6 a7 =>
        rw [hqa] at a1; cases a1
        exact storeArr (p := .arr qa k s.len) he r hx1 hya hq hwq hoff hc ha hqa rfl hwa hst ⟨rfl, rfl⟩ hsz (fun θ' hθ => .whole _ _ _ _ hθ) (fun θ' l hθ => .seq s b qa k R hθ a2 a3 (a4.mono l) a5 a6 rfl)
      · cases r.live _ _ hac with
        | seq _ _ q' k' R a1 => rw [hqa] at a1; cases a1
        | virt _ _ a1 a2 a3 =>
        exact storeArr (p := .virt) he r hx1 hya hq hwq hoff hc ha hqa rfl hwa hst ⟨rfl, rfl⟩ hsz (fun θ' hθ => .wholeV _ hθ) (fun θ' l hθ => .virt s b hθ a2 rfl)
     · -- an array's beginning
      rename_i ac zo len hy
      split at hk
      case h_2 => cases hk
      rename_i o
      have hb0 := boolK hk
      clear hk
      obtain ⟨hcond, hk⟩ := hb0
      simp only [Bool.and_eq_true, Nat.beq_eq, Nat.blt_eq] at hcond
      obtain ⟨⟨⟨hzo, hsz⟩, hoff⟩, hwa⟩ := hcond
      subst hzo
      split at hk
      case h_2 => cases hk
      rename_i s fl hac
      split at hk
      case h_2 => cases hk
      rename_i cells2 hst
      refine ⟨_, _, hk, fun θ base e1 h1 he r => ?_⟩
      obtain ⟨q, ds, hx1, hq, hwq, hg, hcr⟩ := hobj he r
      have hy1 := he.ev y
      rw [hy] at hy1
      have ha := seq_st r hac
      rcases hy1.ref' with ⟨qa, k, n, hqa, hln, hya⟩ | ⟨qa, k, n, f, hqa, _, h0, _, hya⟩ | ⟨hqa, _, hl0, hya⟩
      · cases r.live _ _ hac with
        | virt _ _ a1 => rw [hqa] at a1; cases a1
        | seq _ _ q' k' R a1 a2 a3 a4 a5 a6 a7 =>
        rw [hqa] at a1; cases a1
        have hl : (s.take len).len = len := by rw [Sq.len_rows, Sq.rows_take, List.length_take, ← Sq.len_rows]; omega
        refine storeArr (p := .arr qa k len) he r hx1 hya hq hwq hoff hc ha hqa rfl hwa hst ⟨rfl, rfl⟩ hsz (fun θ' hθ => .whole _ _ _ _ hθ) (fun θ' l hθ => .seq _ false qa k R (by rw [hl]; exact hθ) a2 (by omega) ?_ (Sq.kIs_take _ a5) (fun q => by cases q) rfl)
        have := (a4.take len).mono l
        rw [List.take_take, Nat.min_eq_left (by omega)] at this
        rw [Sq.rows_take, hl]; exact this
      · omega
      · cases r.live _ _ hac with
        | seq _ _ q' k' R a1 => rw [hqa] at a1; cases a1
        | virt _ _ a1 a2 a3 =>
        exact storeArr (p := .virt) he r hx1 hya hq hwq hoff hc ha hqa rfl hwa hst ⟨rfl, rfl⟩ hsz (fun θ' hθ => .wholeV _ hθ) (fun θ' l hθ => .virt _ false hθ (by rw [Sq.rows_take, a2, List.take_nil]) rfl)
    | false => -- what is no array
      rw [harr] at hk
      simp only [cond_false] at hk
      have hb0 := boolK hk
      clear hk
      obtain ⟨hcond, hk⟩ := hb0
      simp only [Bool.and_eq_true, Nat.beq_eq, Nat.ble_eq] at hcond
      obtain ⟨⟨hok, hl⟩, hle⟩ := hcond
      cases href : ((cells.drop off).take sz).all (fun x => !x.isRef) with
      | true =>
        rw [href] at hk
        refine ⟨_, _, hk, fun θ base e1 h1 he r => ?_⟩
        obtain ⟨q, ds, hx1, hq, hwq, hg, hcr⟩ := hobj he r
        have hy1 := (he.ev y).okF hok
        have hyc := hy1.cells
        have hlen := hyc.length
        have hdl := hcr.length
        obtain ⟨r', g⟩ := r.upd (c := c) (q := q) (x := .arr (setCellsV cells off (y.evV e).cells)) (y := .arr (setCells ds off (y.ev e1).cells).length [setCells ds off (y.ev e1).cells]) hq rfl
          (.arr _ _ q hq (by simp) (hcr.setc hyc (by omega)))
        refine ⟨.undef, _, _, .of fun m => ?_, .undef, he, r', g⟩
        show stepOp base e1 h1 (.store sz x y) = _
        simp only [stepOp, hx1]
        rw [storeAt_obj hwq hg hy1.okv (by omega) (by omega)]
        rfl
      | false =>
        rw [href] at hk
        simp only [cond_false] at hk
        cases c with
        | cell => cases hk
        | loc => cases hk
        | st o =>
        have hb0 := boolK hk
        clear hk
        obtain ⟨hsz, hk⟩ := hb0
        rw [Nat.beq_eq] at hsz
        subst hsz
        refine ⟨_, _, hk, fun θ base e1 h1 he r => ?_⟩
        obtain ⟨q, ds, hx1, hq, hwq, hg, hcr⟩ := hobj he r
        have hy1 := (he.ev y).okF hok
        have hyc := hy1.cells
        have hlen := hyc.length
        have hdl := hcr.length
        have hle' : θ.le (θ.upd (.cell o off) none) := Th.le_upd θ rfl _
        have hcr' : CRL (θ.upd (.cell o off) none) (.st o) 0 (setCellsV cells off (y.evV e).cells) (setCells ds off (y.ev e1).cells) := by
          have h0 : (cells.take off).length = off := by rw [List.length_take]; omega
          unfold setCellsV setCells
          refine (((hcr.take off).monoAt hle' fun o' j e1 hj => ?_).append ((hyc.mono hle').crl _)).append ?_
          · cases e1; rw [Th.upd_other]; intro hq; injection hq with _ hq; omega
          · rw [List.length_append, h0, ← hlen]
            refine (hcr.drop (off + (y.evV e).cells.length)).monoAt hle' fun o' j e1 hj => ?_
            cases e1; rw [Th.upd_other]; intro hq; injection hq with _ hq; omega
        have r' := r.own (o := o) (off := off) (qo := q) (p := none) (x := none) ⟨_, hc⟩ hq (.inl ⟨rfl, rfl⟩) hcr'
        refine ⟨.undef, _, _, .of fun m => ?_, .undef, he.purge hle' _ fun c hc => Th.upd_other θ hc _, r', ⟨hle', fun q' hq' k => ?_, fun c' p' q' u1 u2 => ?_, by simp⟩⟩
        · show stepOp base e1 h1 (.store 1 x y) = _
          simp only [stepOp, hx1]
          rw [storeAt_obj hwq hg hy1.okv (by omega) (by omega)]
          rfl
        · rw [H.get_put, if_neg]
          intro hqq; subst hqq; exact k _ _ hq rfl
        · by_cases hcd : c' = .cell o off
          · subst hcd; rw [Th.upd_same] at u1; cases u1
          · rw [Th.upd_other _ hcd] at u1; exact .inl ⟨_, _, u1, u2⟩
  · -- an element
    rename_i c i off hx
    have hb0 := boolK hk
    clear hk
    obtain ⟨hcond, hk⟩ := hb0
    simp only [Bool.and_eq_true, Nat.beq_eq] at hcond
    obtain ⟨⟨hw, hok⟩, hl⟩ := hcond
    split at hk
    case h_2 => cases hk
    rename_i s b hc
    have hq0 := Sq.getK_some hk
    clear hk
    obtain ⟨row, hrow, hk⟩ := hq0
    have hb0 := boolK hk
    clear hk
    obtain ⟨hle, hk⟩ := hb0
    rw [Nat.ble_eq] at hle
    have hq0 := Sq.setK_some hk
    clear hk
    obtain ⟨t, hk, t1, t2, t3⟩ := hq0
    refine ⟨_, _, hk, fun θ base e1 h1 he r => ?_⟩
    have hx1 := he.ev x
    rw [hx] at hx1
    obtain ⟨q, k, n, hq, hi, hx1⟩ := hx1.ep'
    cases r.live _ _ hc with
    | virt _ _ a1 => rw [hq] at a1; cases a1
    | seq _ _ q' k' R a1 a2 a3 a4 a5 a6 a7 =>
    rw [hq] at a1; cases a1
    have hy1 := (he.ev y).okF hok
    have hyc := hy1.cells
    have hlen := hyc.length
    obtain ⟨yr, hyr, hrr⟩ := a4.get hrow
    rw [List.getElem?_take, if_pos hi] at hyr
    have hrl := hrr.length
    have hnew : VCL θ (setCellsV row off (y.evV e).cells) (setCells yr off (y.ev e1).cells) := hrr.setc hyc off
    have hrk : (setCellsV row off (y.evV e).cells).length = k := by
      rw [hnew.length, setCells_length2 (by omega), ← hrl]
      exact Sq.okk_rows (Sq.kIs_okk a5) row (List.mem_of_getElem? hrow)
    have hset : (R.take s.len).set i (setCells yr off (y.ev e1).cells) = (R.set i (setCells yr off (y.ev e1).cells)).take t.len := by
      rw [t1, List.take_set]
    obtain ⟨r', g⟩ := r.upd (c := c) (q := q) (x := .seq t b) (y := .arr k (R.set i (setCells yr off (y.ev e1).cells))) hq rfl
      (.seq t b q k (R.set i (setCells yr off (y.ev e1).cells)) (by rw [t1]; exact hq) (by simp) (by rw [t1]; simpa using a3) (by rw [← hset]; exact t3 θ _ _ hnew a4) (t2 k a5 hrk) (fun q => by rw [t1]; simpa using a6 q) a7)
    refine ⟨.undef, _, _, .of fun m => ?_, .undef, he, r', g⟩
    show stepOp base e1 h1 (.store sz x y) = _
    simp only [stepOp, hx1, storeAt]
    rw [if_pos ⟨r.wr _ _ _ hq rfl hw, hy1.okv, by omega⟩]
    simp only [a2, hyr]
    rw [if_pos (by omega)]
    rfl
  · cases hk
theorem frz_vc {f base : Nat} (x : VC θ v a) : frz (f + 1) base h1 a = some (a, h1) := by
  cases x <;> simp [frz]
theorem frzCells_vcl {f base : Nat} : ∀ {vs : List V} {as : List AV}, VCL θ vs as → vs.length < f → frzCells f base h1 as = some (as, h1)
  | _, _, .nil, hf => by
    cases f with
    | zero => simp at hf
    | succ f => simp [frzCells]
  | _ :: _, _, .cons _ _ _ _ x y, hf => by
    cases f with
    | zero => simp at hf
    | succ f =>
      cases f with
      | zero => simp at hf
      | succ f =>
        simp only [frzCells, frz_vc x]
        rw [frzCells_vcl y (by simpa using hf)]
theorem frzRows_vcr {f base k : Nat} : ∀ {vs : List (List V)} {as : List (List AV)}, VCR θ vs as → (∀ r ∈ as, r.length = k) → vs.length + k < f → frzRows f base h1 as = some (as, h1)
  | _, _, .nil, _, hf => by
    cases f with
    | zero => simp at hf
    | succ f => simp [frzRows]
  | r' :: rs', x' :: xs', .cons _ _ _ _ x y, hr, hf => by
    cases f with
    | zero => simp at hf
    | succ f =>
      have h1' := hr _ (List.mem_cons_self ..)
      simp only [frzRows]
      rw [frzCells_vcl x (by rw [x.length, h1']; simp at hf; omega)]
      have : frzRows f base h1 xs' = some (xs', h1) := frzRows_vcr y (fun r hr' => hr r (List.mem_cons_of_mem _ hr')) (by rw [List.length_cons] at hf; omega)
      simp only [this]
end
end Go.Am
