/- Parts of an abstract machine and its proofs: MaL1. -/
import Derived.Shelf.LaysM
import Derived.Shelf.Strconv.Clone
import Derived.Shelf.Strings.Search1
import Derived.Shelf.Strings.Search2
import Derived.Test.YtcgejflifhjajaaGreatDoorProg
import Derived.Test.YtcgejflifhjajaaGreatDoorAmSim
import Derived.Shelf.RegionOpenPlain
import Derived.WalkKit
import Derived.OwnWalk
import Derived.Deep.RegionLaw
import Derived.Lib.Walk
import Derived.Lib.SliceRun
import Derived.Deep.LoopGhost
import Derived.Lib.SlicesDelete
import Derived.KernelRfl
import Derived.Test.YtcgejflifhjajaaGreatDoorAmF2
import Derived.Shelf.Strings.Builder1
import Derived.Lib.AppendZeros
import Derived.Deep.AppendSrc
import Derived.Lib.AppendZerosOnto
import Derived.Lib.Overlaps
import Derived.Laws.Externs
import Derived.Laws.IdiomCopy
import Derived.Laws.NewBlocks

set_option linter.unusedSimpArgs false
set_option linter.unusedVariables false
/-
  DERIVED: THE SHELF's CONTRACTS AT THIS DUMP, IN PLAIN WORDS (tools/lay-plain.mjs out of 'TryzShelf.lean', which tools/lay-shelf.mjs wrote): THE SAME DECLARATIONS UNDER THE SAME NAMES: 'import', 'namespace', 'open', 'def', 'theorem' AND NOTHING ELSE: no command of the shelf's: FOR A HAND-IN. Each laying: the table of numbers ('.._ren') and one theorem, a field a fact of the dump's own or the kernel's comparison; each contract: ONE APPLICATION.
-/
namespace Go.Proofs
open Go.Shelf
def Tryz.laysM316_ren : Go.Shelf.Ren := ⟨fun | 316 => 106 | n => n, fun | 9 => 9 | 3 => 3 | 4 => 4 | 37 => 36 | 0 => 0 | 127 => 211 | 5 => 5 | n => n, fun | n => n⟩
theorem Tryz.laysM316 : Go.Proofs.LaysM.n316 Tryz.prog Tryz.laysM316_ren := {
  mixed := by kernel_rfl
  f316 := Tryz.func106.trans (congrArg some (by kernel_rfl))
  t0 := Tryz.underlying0
  a0 := Tryz.isAgg0
  z0 := Tryz.sizeOf0
  v0 := Tryz.zeroValue0
  t3 := Tryz.underlying3
  a3 := Tryz.isAgg3
  z3 := Tryz.sizeOf3
  v3 := Tryz.zeroValue3
  t4 := Tryz.underlying4
  a4 := Tryz.isAgg4
  z4 := Tryz.sizeOf4
  v4 := Tryz.zeroValue4
  t9 := Tryz.underlying9
  a9 := Tryz.isAgg9
  z9 := Tryz.sizeOf9
  v9 := Tryz.zeroValue9
  t37 := Tryz.underlying36
  a37 := Tryz.isAgg36
  z37 := Tryz.sizeOf36
  v37 := Tryz.zeroValue36
  t127 := Tryz.underlying211
  a127 := Tryz.isAgg211
  z127 := Tryz.sizeOf211
  v127 := Tryz.zeroValue211
  t5 := Tryz.underlying5
  a5 := Tryz.isAgg5
  z5 := Tryz.sizeOf5
  v5 := Tryz.zeroValue5
  i0 := by kernel_rfl
  i3 := by kernel_rfl
  i4 := by kernel_rfl
  i5 := by kernel_rfl
  i9 := by kernel_rfl
  i37 := by kernel_rfl
  i127 := by kernel_rfl }
open Go.RowKit in
theorem Tryz.stringslite_Clone (s : ByteArray) (w : World) (hlim : s.size ≤ 281474976710656) :
    Calls Tryz.prog 106 #[.string s] w fun e w' => e = .returned (.string s) ∧ Below w.heap.size w w' := Any.stringslite_Clone Tryz.laysM316 s w hlim
def Tryz.lays217_ren : Go.Shelf.Ren := ⟨fun | 217 => 300 | 266 => 363 | n => n, fun | 9 => 9 | 5 => 5 | 3 => 3 | n => n, fun | n => n⟩
theorem Tryz.lays217 : Go.Proofs.Lays.n217 Tryz.prog Tryz.lays217_ren := {
  mixed := by kernel_rfl
  f217 := Tryz.func300.trans (congrArg some (by kernel_rfl))
  f266 := Tryz.func363.trans (congrArg some (by kernel_rfl))
  t3 := Tryz.underlying3
  a3 := Tryz.isAgg3
  z3 := Tryz.sizeOf3
  v3 := Tryz.zeroValue3
  t5 := Tryz.underlying5
  a5 := Tryz.isAgg5
  z5 := Tryz.sizeOf5
  v5 := Tryz.zeroValue5
  t9 := Tryz.underlying9
  a9 := Tryz.isAgg9
  z9 := Tryz.sizeOf9
  v9 := Tryz.zeroValue9 }
open Go.RowKit Go.Lib in
theorem Tryz.stringslite_IndexByte (s : ByteArray) (c : Int) (w : World) :
    Calls Tryz.prog 300 #[.string s, .int .u8 c] w fun e w' => e = .returned (.int .i64 (Lib.indexByte s.data.toList c.toNat.toUInt8)) ∧ w' = w := Any.stringslite_IndexByte Tryz.lays217 s c w
def Tryz.lays224_ren : Go.Shelf.Ren := ⟨fun | 224 => 302 | n => n, fun | 3 => 3 | n => n, fun | n => n⟩
theorem Tryz.lays224 : Go.Proofs.Lays.n224 Tryz.prog Tryz.lays224_ren := {
  mixed := by kernel_rfl
  f224 := Tryz.func302.trans (congrArg some (by kernel_rfl))
  t3 := Tryz.underlying3
  a3 := Tryz.isAgg3
  z3 := Tryz.sizeOf3
  v3 := Tryz.zeroValue3 }
open Go.RowKit Go.Lib in
theorem Tryz.bytealg_Cutover (n : Int) (h0 : 0 ≤ n) (h1 : n < 4611686018427387904) (w : World) :
    Calls Tryz.prog 302 #[.int .i64 n] w fun e w' => e = .returned (.int .i64 ((n + 16) / 8)) ∧ w' = w := Any.bytealg_Cutover Tryz.lays224 n h0 h1 w
def Tryz.lays314_ren : Go.Shelf.Ren := ⟨fun | 314 => 364 | n => n, fun | 9 => 9 | 51 => 195 | 3 => 3 | 4 => 4 | 5 => 5 | 46 => 188 | n => n, fun | n => n⟩
theorem Tryz.lays314 : Go.Proofs.Lays.n314 Tryz.prog Tryz.lays314_ren := {
  mixed := by kernel_rfl
  f314 := Tryz.func364.trans (congrArg some (by kernel_rfl))
  t3 := Tryz.underlying3
  a3 := Tryz.isAgg3
  z3 := Tryz.sizeOf3
  v3 := Tryz.zeroValue3
  t4 := Tryz.underlying4
  a4 := Tryz.isAgg4
  z4 := Tryz.sizeOf4
  v4 := Tryz.zeroValue4
  t5 := Tryz.underlying5
  a5 := Tryz.isAgg5
  z5 := Tryz.sizeOf5
  v5 := Tryz.zeroValue5
  t9 := Tryz.underlying9
  a9 := Tryz.isAgg9
  z9 := Tryz.sizeOf9
  v9 := Tryz.zeroValue9
  t46 := Tryz.underlying188
  a46 := Tryz.isAgg188
  z46 := Tryz.sizeOf188
  v46 := Tryz.zeroValue188
  t51 := Tryz.underlying195
  a51 := Tryz.isAgg195
  z51 := Tryz.sizeOf195
  v51 := Tryz.zeroValue195 }
open Go.RowKit Go.Lib in
theorem Tryz.bytealg_hashStr (sep : ByteArray) (hs : sep.size < 4294967281) (w : World) :
    Calls Tryz.prog 364 #[.string sep] w fun e w' => e = .returned (.tuple #[.int .u32 (RK.H sep.data.toList % 4294967296), .int .u32 (16777619 ^ sep.size % 4294967296)]) ∧ w' = w := Any.bytealg_hashStr Tryz.lays314 sep hs w
def Tryz.lays267_ren : Go.Shelf.Ren := ⟨fun | 267 => 303 | 314 => 364 | n => n, fun | 9 => 9 | 3 => 3 | 146 => 289 | 51 => 195 | 4 => 4 | 5 => 5 | 46 => 188 | n => n, fun | n => n⟩
theorem Tryz.lays267 : Go.Proofs.Lays.n267 Tryz.prog Tryz.lays267_ren := {
  mixed := by kernel_rfl
  f267 := Tryz.func303.trans (congrArg some (by kernel_rfl))
  f314 := Tryz.func364.trans (congrArg some (by kernel_rfl))
  t3 := Tryz.underlying3
  a3 := Tryz.isAgg3
  z3 := Tryz.sizeOf3
  v3 := Tryz.zeroValue3
  t4 := Tryz.underlying4
  a4 := Tryz.isAgg4
  z4 := Tryz.sizeOf4
  v4 := Tryz.zeroValue4
  t5 := Tryz.underlying5
  a5 := Tryz.isAgg5
  z5 := Tryz.sizeOf5
  v5 := Tryz.zeroValue5
  t9 := Tryz.underlying9
  a9 := Tryz.isAgg9
  z9 := Tryz.sizeOf9
  v9 := Tryz.zeroValue9
  t46 := Tryz.underlying188
  a46 := Tryz.isAgg188
  z46 := Tryz.sizeOf188
  v46 := Tryz.zeroValue188
  t51 := Tryz.underlying195
  a51 := Tryz.isAgg195
  z51 := Tryz.sizeOf195
  v51 := Tryz.zeroValue195
  t146 := Tryz.underlying289
  a146 := Tryz.isAgg289
  z146 := Tryz.sizeOf289
  v146 := Tryz.zeroValue289 }
open Go.RowKit Go.Lib in
theorem Tryz.bytealg_IndexRabinKarp (s sep : ByteArray) (h1 : 1 ≤ sep.size) (h2 : sep.size ≤ s.size) (hs : s.size < 4294967281) (w : World) :
    Calls Tryz.prog 303 #[.string s, .string sep] w fun e w' => e = .returned (.int .i64 (Lib.index s.data.toList sep.data.toList)) ∧ w' = w := Any.bytealg_IndexRabinKarp Tryz.lays267 s sep h1 h2 hs w
def Tryz.lays219_ren : Go.Shelf.Ren := ⟨fun | 219 => 228 | 217 => 300 | 225 => 301 | 224 => 302 | 267 => 303 | 266 => 363 | 314 => 364 | n => n, fun | 9 => 9 | 3 => 3 | 4 => 4 | 5 => 5 | 46 => 188 | 146 => 289 | 51 => 195 | n => n, fun | 1 => 2 | n => n⟩
theorem Tryz.lays219 : Go.Proofs.Lays.n219 Tryz.prog Tryz.lays219_ren := {
  mixed := by kernel_rfl
  f217 := Tryz.func300.trans (congrArg some (by kernel_rfl))
  f219 := Tryz.func228.trans (congrArg some (by kernel_rfl))
  f224 := Tryz.func302.trans (congrArg some (by kernel_rfl))
  f225 := Tryz.func301.trans (congrArg some (by kernel_rfl))
  f266 := Tryz.func363.trans (congrArg some (by kernel_rfl))
  f267 := Tryz.func303.trans (congrArg some (by kernel_rfl))
  f314 := Tryz.func364.trans (congrArg some (by kernel_rfl))
  t3 := Tryz.underlying3
  a3 := Tryz.isAgg3
  z3 := Tryz.sizeOf3
  v3 := Tryz.zeroValue3
  t4 := Tryz.underlying4
  a4 := Tryz.isAgg4
  z4 := Tryz.sizeOf4
  v4 := Tryz.zeroValue4
  t5 := Tryz.underlying5
  a5 := Tryz.isAgg5
  z5 := Tryz.sizeOf5
  v5 := Tryz.zeroValue5
  t9 := Tryz.underlying9
  a9 := Tryz.isAgg9
  z9 := Tryz.sizeOf9
  v9 := Tryz.zeroValue9
  t46 := Tryz.underlying188
  a46 := Tryz.isAgg188
  z46 := Tryz.sizeOf188
  v46 := Tryz.zeroValue188
  t51 := Tryz.underlying195
  a51 := Tryz.isAgg195
  z51 := Tryz.sizeOf195
  v51 := Tryz.zeroValue195
  t146 := Tryz.underlying289
  a146 := Tryz.isAgg289
  z146 := Tryz.sizeOf289
  v146 := Tryz.zeroValue289
  g1 := by kernel_rfl }
open Go.RowKit Go.Lib in
theorem Tryz.stringslite_Index_one (s : ByteArray) (c : UInt8) (w : World) :
    Calls Tryz.prog 228 #[.string s, .string ⟨#[c]⟩] w fun e w' => e = .returned (.int .i64 (Lib.indexByte s.data.toList c)) ∧ w' = w := Any.stringslite_Index_one Tryz.lays219 s c w
open Go.RowKit Go.Lib in
theorem Tryz.stringslite_Index (s sub : ByteArray) (m : Int) (w : World) (hs : s.size < 4294967281) (hm : w.cell? ⟨2, 0, none⟩ = some (.int .i64 m)) :
    Calls Tryz.prog 228 #[.string s, .string sub] w fun e w' => e = .returned (.int .i64 (Lib.index s.data.toList sub.data.toList)) ∧ w' = w := Any.stringslite_Index Tryz.lays219 s sub m w hs hm
end Go.Proofs
namespace Go.Proofs
open Go.Shelf Go.RowKit Go.Lib
set_option maxHeartbeats 2000000 in
set_option maxRecDepth 100000 in
theorem cloneNil36 (n c : Nat) (w : World) : Calls Tryz.prog 33 #[.slice none n c] w fun e w' => e = .returned (.slice none 0 0) ∧ w' = w := by
  have q : ∀ (w : World) (a : Option Addr) (n c n' c' : Nat), (binOp .eql 26 (.slice a n c) (.slice none n' c')).run Tryz.prog w = .ok (.bool a.isNone) w := fun w a n c n' c' => Lib.run_eql_slice_nil w _ _ a n c n' c' Tryz.underlying26
  go_enter Tryz.func33, Tryz.ntmps33
  go_wp2_with (simp only [q])
  go_ret
  exact ⟨rfl, rfl⟩
set_option maxHeartbeats 2000000 in
set_option maxRecDepth 100000 in
theorem clone36 (a : Addr) (n c : Nat) (news : List Value) (w : World) (hl : news.length = n * 2) (hc : ∀ j u, news[j]? = some u → w.cell? (a.add j) = some u) (h1 : ∀ u ∈ news, u.oneCell' = true) (hbig : n * 32 ≤ 140737488355328) :
    Calls Tryz.prog 33 #[.slice (some a) n c] w fun e w' => ∃ v', e = .returned v' ∧ w'.ownsRow w.heap.size 31 2 v' n news ∧ Below w.heap.size w w' := by
  obtain ⟨i0, hi, hz0, hz1, hz2⟩ := info_parts (P := Tryz.prog) (e := 31) (z := .agg #[.string ⟨#[]⟩, .string ⟨#[]⟩]) (size := 2) (bytes := 32) (by kernel_rfl)
  have q : ∀ (w : World) (a : Option Addr) (n c n' c' : Nat), (binOp .eql 26 (.slice a n c) (.slice none n' c')).run Tryz.prog w = .ok (.bool a.isNone) w := fun w a n c n' c' => Lib.run_eql_slice_nil w _ _ a n c n' c' Tryz.underlying26
  have A : Aside (∀ j u, news[j]? = some u → w.cell? (a.add j) = some u) := hc
  clear hc
  go_enter Tryz.func33, Tryz.ntmps33
  go_wp2_with (first | (simp only [q]; done) | (at_builtin; refine wpList_append_own _ rfl _ _ 26 rfl w.heap.size 31 i0 (.agg #[.string ⟨#[]⟩, .string ⟨#[]⟩]) 2 32 Tryz.underlying26 hi hz0 hz1 hz2 rfl (by decide) _ _ _ rfl (World.ownsRow_made w #[] 0 (Nat.le_refl _) (Nat.zero_le _) rfl) a n c news rfl hl (fun j u hj => Lib.cell?_alloc_some _ (A.out j u hj)) h1 (by unfold maxLen; omega) (by omega) (by simp) ?_) | simp only [q])
  intro v' w1 hown hgrow hnil
  go_wp2
  go_ret
  refine ⟨v', rfl, by simpa using hown, ?_⟩
  exact ((Below.refl _ w).alloc (Nat.le_refl _) _).grown hgrow (by simp) (by intro k hk; have hk : some w.heap.size = some k := hk; cases hk; exact Nat.le_refl _)
set_option maxHeartbeats 2000000 in
set_option maxRecDepth 100000 in
theorem cloneNil341 (n c : Nat) (w : World) : Calls Tryz.prog 369 #[.slice none n c] w fun e w' => e = .returned (.slice none 0 0) ∧ w' = w := by
  have q : ∀ (w : World) (a : Option Addr) (n c n' c' : Nat), (binOp .eql 155 (.slice a n c) (.slice none n' c')).run Tryz.prog w = .ok (.bool a.isNone) w := fun w a n c n' c' => Lib.run_eql_slice_nil w _ _ a n c n' c' Tryz.underlying155
  go_enter Tryz.func369, Tryz.ntmps369
  go_wp2_with (simp only [q])
  go_ret
  exact ⟨rfl, rfl⟩
set_option maxHeartbeats 2000000 in
set_option maxRecDepth 100000 in
theorem clone341 (a : Addr) (n c : Nat) (news : List Value) (w : World) (hl : news.length = n * 4) (hc : ∀ j u, news[j]? = some u → w.cell? (a.add j) = some u) (h1 : ∀ u ∈ news, u.oneCell' = true) (hbig : n * 56 ≤ 140737488355328) :
    Calls Tryz.prog 369 #[.slice (some a) n c] w fun e w' => ∃ v', e = .returned v' ∧ w'.ownsRow w.heap.size 88 4 v' n news ∧ Below w.heap.size w w' := by
  obtain ⟨i0, hi, hz0, hz1, hz2⟩ := info_parts (P := Tryz.prog) (e := 88) (z := .agg #[.int .i64 0, .int .i64 0, .string ⟨#[]⟩, .slice none 0 0]) (size := 4) (bytes := 56) (by kernel_rfl)
  have q : ∀ (w : World) (a : Option Addr) (n c n' c' : Nat), (binOp .eql 155 (.slice a n c) (.slice none n' c')).run Tryz.prog w = .ok (.bool a.isNone) w := fun w a n c n' c' => Lib.run_eql_slice_nil w _ _ a n c n' c' Tryz.underlying155
  have A : Aside (∀ j u, news[j]? = some u → w.cell? (a.add j) = some u) := hc
  clear hc
  go_enter Tryz.func369, Tryz.ntmps369
  go_wp2_with (first | (simp only [q]; done) | (at_builtin; refine wpList_append_own _ rfl _ _ 155 rfl w.heap.size 88 i0 (.agg #[.int .i64 0, .int .i64 0, .string ⟨#[]⟩, .slice none 0 0]) 4 56 Tryz.underlying155 hi hz0 hz1 hz2 rfl (by decide) _ _ _ rfl (World.ownsRow_made w #[] 0 (Nat.le_refl _) (Nat.zero_le _) rfl) a n c news rfl hl (fun j u hj => Lib.cell?_alloc_some _ (A.out j u hj)) h1 (by unfold maxLen; omega) (by omega) (by simp) ?_) | simp only [q])
  intro v' w1 hown hgrow hnil
  go_wp2
  go_ret
  refine ⟨v', rfl, by simpa using hown, ?_⟩
  exact ((Below.refl _ w).alloc (Nat.le_refl _) _).grown hgrow (by simp) (by intro k hk; have hk : some w.heap.size = some k := hk; cases hk; exact Nat.le_refl _)
end Go.Proofs
namespace Go.Proofs
open Go.Shelf Go.RowKit Go.Lib
theorem app0 (t ty e : TypeId) (i : TypeInfo) (ht : Tryz.prog.underlying t = some (.slice e)) (hi : Tryz.prog.info? e = some i) (w : World) (b a : Addr) (c : Nat) :
    (Builtin.append_ #[t, t] ty #[.slice (some b) 0 0, .slice (some a) 0 c]).run Tryz.prog w = .ok (.slice (some b) 0 0) w := by
  simp [Builtin.append_, run_underlying ht, sizeOf, typeInfo, hi, Builtin.lenOf, Builtin.firstCells, loadCells, loadCellsFrom, storeCells]
set_option maxHeartbeats 2000000 in
set_option maxRecDepth 100000 in
theorem clone36E (a : Addr) (c : Nat) (w : World) :
    Calls Tryz.prog 33 #[.slice (some a) 0 c] w fun e w' => ∃ b, e = .returned (.slice (some b) 0 0) ∧ Below w.heap.size w w' := by
  obtain ⟨i0, hi, hz0, hz1, hz2⟩ := info_parts (P := Tryz.prog) (e := 31) (z := .agg #[.string ⟨#[]⟩, .string ⟨#[]⟩]) (size := 2) (bytes := 32) (by kernel_rfl)
  have q : ∀ (w : World) (a : Option Addr) (n c n' c' : Nat), (binOp .eql 26 (.slice a n c) (.slice none n' c')).run Tryz.prog w = .ok (.bool a.isNone) w := fun w a n c n' c' => Lib.run_eql_slice_nil w _ _ a n c n' c' Tryz.underlying26
  go_enter Tryz.func33, Tryz.ntmps33
  go_wp2_with (first | (simp only [q]; done) | (at_builtin; refine Lib.wpList_append_run _ rfl _ _ _ _ rfl _ _ rfl rfl _ _ (app0 26 _ 31 i0 Tryz.underlying26 hi _ _ _ _) ?_) | simp only [q])
  go_ret
  exact ⟨_, rfl, (Below.refl _ w).alloc (Nat.le_refl _) _⟩
set_option maxHeartbeats 2000000 in
set_option maxRecDepth 100000 in
theorem clone341E (a : Addr) (c : Nat) (w : World) :
    Calls Tryz.prog 369 #[.slice (some a) 0 c] w fun e w' => ∃ b, e = .returned (.slice (some b) 0 0) ∧ Below w.heap.size w w' := by
  obtain ⟨i0, hi, hz0, hz1, hz2⟩ := info_parts (P := Tryz.prog) (e := 88) (z := .agg #[.int .i64 0, .int .i64 0, .string ⟨#[]⟩, .slice none 0 0]) (size := 4) (bytes := 56) (by kernel_rfl)
  have q : ∀ (w : World) (a : Option Addr) (n c n' c' : Nat), (binOp .eql 155 (.slice a n c) (.slice none n' c')).run Tryz.prog w = .ok (.bool a.isNone) w := fun w a n c n' c' => Lib.run_eql_slice_nil w _ _ a n c n' c' Tryz.underlying155
  go_enter Tryz.func369, Tryz.ntmps369
  go_wp2_with (first | (simp only [q]; done) | (at_builtin; refine Lib.wpList_append_run _ rfl _ _ _ _ rfl _ _ rfl rfl _ _ (app0 155 _ 88 i0 Tryz.underlying155 hi _ _ _ _) ?_) | simp only [q])
  go_ret
  exact ⟨_, rfl, (Below.refl _ w).alloc (Nat.le_refl _) _⟩
end Go.Proofs
namespace Go.Proofs
open Go.Shelf Go.RowKit Go.Lib
set_option maxHeartbeats 4000000 in
set_option maxRecDepth 1000000 in
theorem delete85Same (b i n C : Nat) (w : World) (hi : i ≤ n) (hC : n ≤ C) :
    Calls Tryz.prog 118 #[.slice (some ⟨b, 0, none⟩) n C, .int .i64 i, .int .i64 i] w fun e w' => e = .returned (.slice (some ⟨b, 0, none⟩) n C) ∧ w' = w := by
  go_enter Tryz.func118, Tryz.ntmps118
  go_wp2
  all_goals (go_ret; exact ⟨rfl, rfl⟩)
set_option maxHeartbeats 4000000 in
set_option maxRecDepth 1000000 in
theorem delete85 (b i j n C : Nat) (c : Array Value) (el : TypeId) (fr : Nat × Nat) (w : World) (zv : Value) (hz : ∀ w, (zeroValue 105).run Tryz.prog w = .ok zv w) (hb : w.heap[b]? = some (.cells c el fr)) (hfr : Go.Am.FrOk fr 2 c.size) (hC : c.size = C * 2) (hn : n ≤ C) (hij : i < j) (hj : j ≤ n)
    (h1 : ∀ v ∈ c.toList.take (n * 2), v.oneCell' = true) (zs : List Value) (hzs : (Builtin.zeroCells zv.cells (n - (i + (n - j)))).toList = zs) (hzl : zs.length = (n - (i + (n - j))) * 2) (hz1 : ∀ v ∈ zs, v.oneCell' = true) :
    Calls Tryz.prog 118 #[.slice (some ⟨b, 0, none⟩) n C, .int .i64 i, .int .i64 j] w fun e w' => e = .returned (.slice (some ⟨b, 0, none⟩) (i + (n - j)) C) ∧
      w' = (w.drew.setCells b (0 + i * 2) ((c.toList.drop (j * 2)).take ((n - j) * 2))).setCells b ((i + (n - j)) * 2) zs := by
  obtain ⟨news, hnews⟩ : ∃ news, news = (c.toList.drop (j * 2)).take ((n - j) * 2) := ⟨_, rfl⟩
  have hlen : news.length = (n - j) * 2 := by rw [hnews]; simp; omega
  have hcell : ∀ k, w.drew.cell? ⟨b, k, none⟩ = c[k]? := fun k => Go.Am.cell_at hb k
  have hfz : ∀ k, k < c.size → w.drew.frozen? ⟨b, k, none⟩ = false := by
    intro k hk
    have := hfr.out k hk
    show w.frozen? _ = false
    simp only [World.frozen?, hb]
    simp
    omega
  obtain ⟨A, hA, hsrc⟩ : ∃ A : Addr, (if C = j then (some (⟨b, 0, none⟩ : Addr)) else some ⟨b, j * 2, none⟩) = some A ∧ Hid (∀ t u, news[t]? = some u → w.drew.cell? (A.add t) = some u) := by
    by_cases h : C = j
    · refine ⟨⟨b, 0, none⟩, by simp [h], fun t u hu => ?_⟩
      have h0 : news.length = 0 := by rw [hlen]; omega
      rw [List.length_eq_zero_iff.1 h0] at hu
      simp at hu
    · refine ⟨⟨b, j * 2, none⟩, by simp [h], fun t u hu => ?_⟩
      rw [hnews, List.getElem?_take] at hu
      split at hu
      · rw [List.getElem?_drop, Array.getElem?_toList] at hu
        rw [Addr.add_lit, hcell]; exact hu
      · cases hu
  have s1 : Hid (news.length = (n - j) * 2) := hlen
  have s2 : Hid (∀ u ∈ news, u.oneCell' = true) := by
    intro u hu
    rw [hnews] at hu
    refine h1 u ?_
    obtain ⟨t, ht⟩ := List.getElem?_of_mem hu
    rw [List.getElem?_take] at ht
    split at ht
    · rename_i hlt
      rw [List.getElem?_drop] at ht
      refine List.mem_of_getElem? (i := j * 2 + t) ?_
      rw [List.getElem?_take, if_pos (by omega)]
      exact ht
    · cases ht
  have s3 : Hid (∀ t, t < news.length → (w.drew.cell? ⟨b, 0 + i * 2 + t, none⟩).isSome = true ∧ w.drew.frozen? ⟨b, 0 + i * 2 + t, none⟩ = false) := by
    intro t ht
    rw [hlen] at ht
    have : 0 + i * 2 + t < c.size := by omega
    exact ⟨by rw [hcell, Array.getElem?_eq_getElem this]; rfl, hfz _ this⟩
  obtain ⟨W1, hW1⟩ : ∃ W1, W1 = w.drew.setCells b (0 + i * 2) news := ⟨_, rfl⟩
  have hcl : ∀ ty, (Builtin.clear_ #[143] ty #[.slice (some ⟨b, (i + (n - j)) * 2, none⟩) (n - (i + (n - j))) (C - (i + (n - j)))]).run Tryz.prog W1 = .ok (.tuple #[]) (W1.setCells b ((i + (n - j)) * 2) zs) := by
    intro ty
    have hpos : n - (i + (n - j)) ≠ 0 := by omega
    have hcW : ∀ k, k < c.size → (W1.cell? ⟨b, k, none⟩).isSome = true := fun k hk => by
      have h0 : ∀ k, k < c.size → (w.drew.cell? ⟨b, k, none⟩).isSome = true := fun k hk => by rw [hcell, Array.getElem?_eq_getElem hk]; rfl
      rw [hW1]
      by_cases hin : 0 + i * 2 ≤ k ∧ k < 0 + i * 2 + news.length
      · have := World.cell?_setCells_in b news (0 + i * 2) w.drew (fun t ht => h0 _ (by rw [hlen] at ht; omega)) (k - (0 + i * 2)) (by omega)
        rw [show 0 + i * 2 + (k - (0 + i * 2)) = k by omega] at this
        rw [this]; rfl
      · rw [World.cell?_setCells_out b news (0 + i * 2) w.drew ⟨b, k, none⟩ (fun _ _ => by show k < 0 + i * 2 ∨ 0 + i * 2 + news.length ≤ k; omega)]
        exact h0 k hk
    have hst := run_storeCells_cells (P := Tryz.prog) b ((i + (n - j)) * 2) zs 0 W1 (fun t ht => by
        exact hcW _ (by omega)) (fun t ht => by
        rw [hW1, World.frozen?_setCells]; exact hfz _ (by omega)) hz1
    obtain ⟨m, hm'⟩ : ∃ m, n - (i + (n - j)) = m + 1 := ⟨n - (i + (n - j)) - 1, by omega⟩
    rw [hm'] at hzs ⊢
    simp [Builtin.clear_, run_underlying Tryz.underlying143, hz, hzs, hst]
  obtain ⟨i0, hi0, hi4⟩ : ∃ i0, Tryz.prog.info? 105 = some i0 ∧ i0.size = 2 := by
    have : (Tryz.prog.info? 105).map (·.size) = some 2 := by kernel_rfl
    exact Option.map_eq_some_iff.1 this
  have hW : Hid (W1 = w.drew.setCells b (0 + i * 2) news) := hW1
  rw [← hnews, ← hW1]
  have hic : i ≤ C := by omega
  have hjc : j ≤ C := by omega
  have mixed : Tryz.prog.follows .mixedOrders = true := by kernel_rfl
  have t124 := Tryz.underlying143; have z124 := Tryz.sizeOf143; have z82 := Tryz.sizeOf105; have t3 := Tryz.underlying3; have t4 := Tryz.underlying4
  clear hW1 hcell hfz hnews hlen hz1 hzl hzs h1 hfr
  go_enter Tryz.func118, Tryz.ntmps118
  go_wp2_with fail
  go_region_law_o (refine step_append_room rfl (.tmp 22) (.tmp 25) 143 rfl 105 i0 2 Tryz.underlying143 hi0 hi4 b 0 i C (by simp [Act.eval, Act.put]) A (n - j) (C - j) news (by simp [Act.eval, Act.put, hA]) s1.out hsrc.out s2.out (by omega) s3.out ?_; rw [← hW.out])
  go_wp2
  all_goals (go_ret; exact ⟨rfl, rfl⟩)
set_option maxHeartbeats 4000000 in
set_option maxRecDepth 1000000 in
theorem delete339Same (b i n C : Nat) (w : World) (hi : i ≤ n) (hC : n ≤ C) :
    Calls Tryz.prog 367 #[.slice (some ⟨b, 0, none⟩) n C, .int .i64 i, .int .i64 i] w fun e w' => e = .returned (.slice (some ⟨b, 0, none⟩) n C) ∧ w' = w := by
  go_enter Tryz.func367, Tryz.ntmps367
  go_wp2
  all_goals (go_ret; exact ⟨rfl, rfl⟩)
set_option maxHeartbeats 4000000 in
set_option maxRecDepth 1000000 in
theorem delete339 (b i j n C : Nat) (c : Array Value) (el : TypeId) (fr : Nat × Nat) (w : World) (zv : Value) (hz : ∀ w, (zeroValue 88).run Tryz.prog w = .ok zv w) (hb : w.heap[b]? = some (.cells c el fr)) (hfr : Go.Am.FrOk fr 4 c.size) (hC : c.size = C * 4) (hn : n ≤ C) (hij : i < j) (hj : j ≤ n)
    (h1 : ∀ v ∈ c.toList.take (n * 4), v.oneCell' = true) (zs : List Value) (hzs : (Builtin.zeroCells zv.cells (n - (i + (n - j)))).toList = zs) (hzl : zs.length = (n - (i + (n - j))) * 4) (hz1 : ∀ v ∈ zs, v.oneCell' = true) :
    Calls Tryz.prog 367 #[.slice (some ⟨b, 0, none⟩) n C, .int .i64 i, .int .i64 j] w fun e w' => e = .returned (.slice (some ⟨b, 0, none⟩) (i + (n - j)) C) ∧
      w' = (w.drew.setCells b (0 + i * 4) ((c.toList.drop (j * 4)).take ((n - j) * 4))).setCells b ((i + (n - j)) * 4) zs := by
  obtain ⟨news, hnews⟩ : ∃ news, news = (c.toList.drop (j * 4)).take ((n - j) * 4) := ⟨_, rfl⟩
  have hlen : news.length = (n - j) * 4 := by rw [hnews]; simp; omega
  have hcell : ∀ k, w.drew.cell? ⟨b, k, none⟩ = c[k]? := fun k => Go.Am.cell_at hb k
  have hfz : ∀ k, k < c.size → w.drew.frozen? ⟨b, k, none⟩ = false := by
    intro k hk
    have := hfr.out k hk
    show w.frozen? _ = false
    simp only [World.frozen?, hb]
    simp
    omega
  obtain ⟨A, hA, hsrc⟩ : ∃ A : Addr, (if C = j then (some (⟨b, 0, none⟩ : Addr)) else some ⟨b, j * 4, none⟩) = some A ∧ Hid (∀ t u, news[t]? = some u → w.drew.cell? (A.add t) = some u) := by
    by_cases h : C = j
    · refine ⟨⟨b, 0, none⟩, by simp [h], fun t u hu => ?_⟩
      have h0 : news.length = 0 := by rw [hlen]; omega
      rw [List.length_eq_zero_iff.1 h0] at hu
      simp at hu
    · refine ⟨⟨b, j * 4, none⟩, by simp [h], fun t u hu => ?_⟩
      rw [hnews, List.getElem?_take] at hu
      split at hu
      · rw [List.getElem?_drop, Array.getElem?_toList] at hu
        rw [Addr.add_lit, hcell]; exact hu
      · cases hu
  have s1 : Hid (news.length = (n - j) * 4) := hlen
  have s2 : Hid (∀ u ∈ news, u.oneCell' = true) := by
    intro u hu
    rw [hnews] at hu
    refine h1 u ?_
    obtain ⟨t, ht⟩ := List.getElem?_of_mem hu
    rw [List.getElem?_take] at ht
    split at ht
    · rename_i hlt
      rw [List.getElem?_drop] at ht
      refine List.mem_of_getElem? (i := j * 4 + t) ?_
      rw [List.getElem?_take, if_pos (by omega)]
      exact ht
    · cases ht
  have s3 : Hid (∀ t, t < news.length → (w.drew.cell? ⟨b, 0 + i * 4 + t, none⟩).isSome = true ∧ w.drew.frozen? ⟨b, 0 + i * 4 + t, none⟩ = false) := by
    intro t ht
    rw [hlen] at ht
    have : 0 + i * 4 + t < c.size := by omega
    exact ⟨by rw [hcell, Array.getElem?_eq_getElem this]; rfl, hfz _ this⟩
  obtain ⟨W1, hW1⟩ : ∃ W1, W1 = w.drew.setCells b (0 + i * 4) news := ⟨_, rfl⟩
  have hcl : ∀ ty, (Builtin.clear_ #[155] ty #[.slice (some ⟨b, (i + (n - j)) * 4, none⟩) (n - (i + (n - j))) (C - (i + (n - j)))]).run Tryz.prog W1 = .ok (.tuple #[]) (W1.setCells b ((i + (n - j)) * 4) zs) := by
    intro ty
    have hpos : n - (i + (n - j)) ≠ 0 := by omega
    have hcW : ∀ k, k < c.size → (W1.cell? ⟨b, k, none⟩).isSome = true := fun k hk => by
      have h0 : ∀ k, k < c.size → (w.drew.cell? ⟨b, k, none⟩).isSome = true := fun k hk => by rw [hcell, Array.getElem?_eq_getElem hk]; rfl
      rw [hW1]
      by_cases hin : 0 + i * 4 ≤ k ∧ k < 0 + i * 4 + news.length
      · have := World.cell?_setCells_in b news (0 + i * 4) w.drew (fun t ht => h0 _ (by rw [hlen] at ht; omega)) (k - (0 + i * 4)) (by omega)
        rw [show 0 + i * 4 + (k - (0 + i * 4)) = k by omega] at this
        rw [this]; rfl
      · rw [World.cell?_setCells_out b news (0 + i * 4) w.drew ⟨b, k, none⟩ (fun _ _ => by show k < 0 + i * 4 ∨ 0 + i * 4 + news.length ≤ k; omega)]
        exact h0 k hk
    have hst := run_storeCells_cells (P := Tryz.prog) b ((i + (n - j)) * 4) zs 0 W1 (fun t ht => by
        exact hcW _ (by omega)) (fun t ht => by
        rw [hW1, World.frozen?_setCells]; exact hfz _ (by omega)) hz1
    obtain ⟨m, hm'⟩ : ∃ m, n - (i + (n - j)) = m + 1 := ⟨n - (i + (n - j)) - 1, by omega⟩
    rw [hm'] at hzs ⊢
    simp [Builtin.clear_, run_underlying Tryz.underlying155, hz, hzs, hst]
  obtain ⟨i0, hi0, hi4⟩ : ∃ i0, Tryz.prog.info? 88 = some i0 ∧ i0.size = 4 := by
    have : (Tryz.prog.info? 88).map (·.size) = some 4 := by kernel_rfl
    exact Option.map_eq_some_iff.1 this
  have hW : Hid (W1 = w.drew.setCells b (0 + i * 4) news) := hW1
  rw [← hnews, ← hW1]
  have hic : i ≤ C := by omega
  have hjc : j ≤ C := by omega
  have mixed : Tryz.prog.follows .mixedOrders = true := by kernel_rfl
  have t131 := Tryz.underlying155; have z131 := Tryz.sizeOf155; have z105 := Tryz.sizeOf88; have t3 := Tryz.underlying3; have t4 := Tryz.underlying4
  clear hW1 hcell hfz hnews hlen hz1 hzl hzs h1 hfr
  go_enter Tryz.func367, Tryz.ntmps367
  go_wp2_with fail
  go_region_law_o (refine step_append_room rfl (.tmp 22) (.tmp 25) 155 rfl 88 i0 4 Tryz.underlying155 hi0 hi4 b 0 i C (by simp [Act.eval, Act.put]) A (n - j) (C - j) news (by simp [Act.eval, Act.put, hA]) s1.out hsrc.out s2.out (by omega) s3.out ?_; rw [← hW.out])
  go_wp2
  all_goals (go_ret; exact ⟨rfl, rfl⟩)
set_option maxHeartbeats 4000000 in
set_option maxRecDepth 1000000 in
theorem delete397Same (b i n C : Nat) (w : World) (hi : i ≤ n) (hC : n ≤ C) :
    Calls Tryz.prog 412 #[.slice (some ⟨b, 0, none⟩) n C, .int .i64 i, .int .i64 i] w fun e w' => e = .returned (.slice (some ⟨b, 0, none⟩) n C) ∧ w' = w := by
  go_enter Tryz.func412, Tryz.ntmps412
  go_wp2
  all_goals (go_ret; exact ⟨rfl, rfl⟩)
set_option maxHeartbeats 4000000 in
set_option maxRecDepth 1000000 in
theorem delete397 (b i j n C : Nat) (c : Array Value) (el : TypeId) (fr : Nat × Nat) (w : World) (zv : Value) (hz : ∀ w, (zeroValue 130).run Tryz.prog w = .ok zv w) (hb : w.heap[b]? = some (.cells c el fr)) (hfr : Go.Am.FrOk fr 4 c.size) (hC : c.size = C * 4) (hn : n ≤ C) (hij : i < j) (hj : j ≤ n)
    (h1 : ∀ v ∈ c.toList.take (n * 4), v.oneCell' = true) (zs : List Value) (hzs : (Builtin.zeroCells zv.cells (n - (i + (n - j)))).toList = zs) (hzl : zs.length = (n - (i + (n - j))) * 4) (hz1 : ∀ v ∈ zs, v.oneCell' = true) :
    Calls Tryz.prog 412 #[.slice (some ⟨b, 0, none⟩) n C, .int .i64 i, .int .i64 j] w fun e w' => e = .returned (.slice (some ⟨b, 0, none⟩) (i + (n - j)) C) ∧
      w' = (w.drew.setCells b (0 + i * 4) ((c.toList.drop (j * 4)).take ((n - j) * 4))).setCells b ((i + (n - j)) * 4) zs := by
  obtain ⟨news, hnews⟩ : ∃ news, news = (c.toList.drop (j * 4)).take ((n - j) * 4) := ⟨_, rfl⟩
  have hlen : news.length = (n - j) * 4 := by rw [hnews]; simp; omega
  have hcell : ∀ k, w.drew.cell? ⟨b, k, none⟩ = c[k]? := fun k => Go.Am.cell_at hb k
  have hfz : ∀ k, k < c.size → w.drew.frozen? ⟨b, k, none⟩ = false := by
    intro k hk
    have := hfr.out k hk
    show w.frozen? _ = false
    simp only [World.frozen?, hb]
    simp
    omega
  obtain ⟨A, hA, hsrc⟩ : ∃ A : Addr, (if C = j then (some (⟨b, 0, none⟩ : Addr)) else some ⟨b, j * 4, none⟩) = some A ∧ Hid (∀ t u, news[t]? = some u → w.drew.cell? (A.add t) = some u) := by
    by_cases h : C = j
    · refine ⟨⟨b, 0, none⟩, by simp [h], fun t u hu => ?_⟩
      have h0 : news.length = 0 := by rw [hlen]; omega
      rw [List.length_eq_zero_iff.1 h0] at hu
      simp at hu
    · refine ⟨⟨b, j * 4, none⟩, by simp [h], fun t u hu => ?_⟩
      rw [hnews, List.getElem?_take] at hu
      split at hu
      · rw [List.getElem?_drop, Array.getElem?_toList] at hu
        rw [Addr.add_lit, hcell]; exact hu
      · cases hu
  have s1 : Hid (news.length = (n - j) * 4) := hlen
  have s2 : Hid (∀ u ∈ news, u.oneCell' = true) := by
    intro u hu
    rw [hnews] at hu
    refine h1 u ?_
    obtain ⟨t, ht⟩ := List.getElem?_of_mem hu
    rw [List.getElem?_take] at ht
    split at ht
    · rename_i hlt
      rw [List.getElem?_drop] at ht
      refine List.mem_of_getElem? (i := j * 4 + t) ?_
      rw [List.getElem?_take, if_pos (by omega)]
      exact ht
    · cases ht
  have s3 : Hid (∀ t, t < news.length → (w.drew.cell? ⟨b, 0 + i * 4 + t, none⟩).isSome = true ∧ w.drew.frozen? ⟨b, 0 + i * 4 + t, none⟩ = false) := by
    intro t ht
    rw [hlen] at ht
    have : 0 + i * 4 + t < c.size := by omega
    exact ⟨by rw [hcell, Array.getElem?_eq_getElem this]; rfl, hfz _ this⟩
  obtain ⟨W1, hW1⟩ : ∃ W1, W1 = w.drew.setCells b (0 + i * 4) news := ⟨_, rfl⟩
  have hcl : ∀ ty, (Builtin.clear_ #[162] ty #[.slice (some ⟨b, (i + (n - j)) * 4, none⟩) (n - (i + (n - j))) (C - (i + (n - j)))]).run Tryz.prog W1 = .ok (.tuple #[]) (W1.setCells b ((i + (n - j)) * 4) zs) := by
    intro ty
    have hpos : n - (i + (n - j)) ≠ 0 := by omega
    have hcW : ∀ k, k < c.size → (W1.cell? ⟨b, k, none⟩).isSome = true := fun k hk => by
      have h0 : ∀ k, k < c.size → (w.drew.cell? ⟨b, k, none⟩).isSome = true := fun k hk => by rw [hcell, Array.getElem?_eq_getElem hk]; rfl
      rw [hW1]
      by_cases hin : 0 + i * 4 ≤ k ∧ k < 0 + i * 4 + news.length
      · have := World.cell?_setCells_in b news (0 + i * 4) w.drew (fun t ht => h0 _ (by rw [hlen] at ht; omega)) (k - (0 + i * 4)) (by omega)
        rw [show 0 + i * 4 + (k - (0 + i * 4)) = k by omega] at this
        rw [this]; rfl
      · rw [World.cell?_setCells_out b news (0 + i * 4) w.drew ⟨b, k, none⟩ (fun _ _ => by show k < 0 + i * 4 ∨ 0 + i * 4 + news.length ≤ k; omega)]
        exact h0 k hk
    have hst := run_storeCells_cells (P := Tryz.prog) b ((i + (n - j)) * 4) zs 0 W1 (fun t ht => by
        exact hcW _ (by omega)) (fun t ht => by
        rw [hW1, World.frozen?_setCells]; exact hfz _ (by omega)) hz1
    obtain ⟨m, hm'⟩ : ∃ m, n - (i + (n - j)) = m + 1 := ⟨n - (i + (n - j)) - 1, by omega⟩
    rw [hm'] at hzs ⊢
    simp [Builtin.clear_, run_underlying Tryz.underlying162, hz, hzs, hst]
  obtain ⟨i0, hi0, hi4⟩ : ∃ i0, Tryz.prog.info? 130 = some i0 ∧ i0.size = 4 := by
    have : (Tryz.prog.info? 130).map (·.size) = some 4 := by kernel_rfl
    exact Option.map_eq_some_iff.1 this
  have hW : Hid (W1 = w.drew.setCells b (0 + i * 4) news) := hW1
  rw [← hnews, ← hW1]
  have hic : i ≤ C := by omega
  have hjc : j ≤ C := by omega
  have mixed : Tryz.prog.follows .mixedOrders = true := by kernel_rfl
  have t134 := Tryz.underlying162; have z134 := Tryz.sizeOf162; have z111 := Tryz.sizeOf130; have t3 := Tryz.underlying3; have t4 := Tryz.underlying4
  clear hW1 hcell hfz hnews hlen hz1 hzl hzs h1 hfr
  go_enter Tryz.func412, Tryz.ntmps412
  go_wp2_with fail
  go_region_law_o (refine step_append_room rfl (.tmp 22) (.tmp 25) 162 rfl 130 i0 4 Tryz.underlying162 hi0 hi4 b 0 i C (by simp [Act.eval, Act.put]) A (n - j) (C - j) news (by simp [Act.eval, Act.put, hA]) s1.out hsrc.out s2.out (by omega) s3.out ?_; rw [← hW.out])
  go_wp2
  all_goals (go_ret; exact ⟨rfl, rfl⟩)
end Go.Proofs
namespace Go.Proofs
open Go.Shelf Go.RowKit Go.Lib
theorem bInfo : ∃ j, Tryz.prog.info? 199 = some j ∧ j.size = 2 := by
  have : (Tryz.prog.info? 199).map (·.size) = some 2 := by kernel_rfl
  exact Option.map_eq_some_iff.1 this
set_option maxHeartbeats 1000000 in
set_option maxRecDepth 1000000 in
theorem cc_used (b : Nat) (w : World) (h0 : w.cell? ⟨b, 0, none⟩ = some (.pointer (some ⟨b, 0, none⟩))) :
    Calls Tryz.prog 226 #[.pointer (some ⟨b, 0, none⟩)] w fun e w' => e = .returned (.tuple #[]) ∧ w' = w := by
  obtain ⟨j, hj, _⟩ := bInfo
  have mixed : Tryz.prog.follows .mixedOrders = true := by kernel_rfl
  have t166 := Tryz.underlying199; have z166 := Tryz.sizeOf199; have t164 := Tryz.underlying197; have z164 := Tryz.sizeOf197
  go_enter Tryz.func226, Tryz.ntmps226
  go_wp2
  rw [Lib.run_neq_ptr_same w _ Tryz.underlying197 hj]
  go_wp2
  go_end0
  exact ⟨rfl, rfl⟩
set_option maxHeartbeats 1000000 in
set_option maxRecDepth 1000000 in
theorem cc_fresh (b : Nat) (w : World) (h0 : w.cell? ⟨b, 0, none⟩ = some (.pointer none)) (hsh : w.shape? b = some (199, 2)) (hfz : w.frozen? ⟨b, 0, none⟩ = false) :
    Calls Tryz.prog 226 #[.pointer (some ⟨b, 0, none⟩)] w fun e w' => e = .returned (.tuple #[]) ∧ w' = w.setCell ⟨b, 0, none⟩ (.pointer (some ⟨b, 0, none⟩)) := by
  obtain ⟨j, hj, hjs⟩ := bInfo
  have hlies : liesAt Tryz.prog Tryz.prog.depth 199 (2 / Tryz.prog.cellsOf 199) 0 199 1 = true := by kernel_rfl
  have mixed : Tryz.prog.follows .mixedOrders = true := by kernel_rfl
  have t166 := Tryz.underlying199; have z166 := Tryz.sizeOf199; have t164 := Tryz.underlying197; have z164 := Tryz.sizeOf197; have t237 := Tryz.underlying261
  go_enter Tryz.func226, Tryz.ntmps226
  go_wp2
  rw [Lib.run_to_unsafe w ⟨b, 0, none⟩ Tryz.underlying197 Tryz.underlying261 hj (by rw [hjs]; decide) hsh (Nat.zero_lt_succ 1)]
  simp only [Result.andThen]
  rw [Oper.upon_value]
  go_wp2
  rw [run_callFunc_extern Tryz.func298 (by kernel_rfl) (by kernel_rfl) (by kernel_rfl) (e := Extern.AbiNoEscape.same) (by kernel_rfl)]
  rw [Lib.run_noEscape]
  simp only [Result.andThen]
  rw [Oper.upon_value]
  go_wp2
  rw [Lib.run_from_unsafe w ⟨b, 0, none⟩ Tryz.underlying261 Tryz.underlying197 hj hsh hlies]
  simp only [Result.andThen]
  rw [Oper.upon_value]
  go_wp2
  go_end0
  exact ⟨rfl, rfl⟩
set_option maxHeartbeats 1000000 in
set_option maxRecDepth 1000000 in
theorem bws (b : Nat) (s : ByteArray) (w w1 w2 : World) (hcc : Calls Tryz.prog 226 #[.pointer (some ⟨b, 0, none⟩)] w fun e w' => e = .returned (.tuple #[]) ∧ w' = w1)
    (a1 : Option Addr) (n1 k1 : Nat) (a2 : Option Addr) (n2 k2 : Nat) (c1 : w1.cell? ⟨b, 1, none⟩ = some (.slice a1 n1 k1))
    (happ : ∀ ty, (Builtin.append_ #[36, 9] ty #[.slice a1 n1 k1, .string s]).run Tryz.prog w1 = .ok (.slice a2 n2 k2) w2)
    (d1 : w2.cell? ⟨b, 1, none⟩ = some (.slice a1 n1 k1)) (f1 : w2.frozen? ⟨b, 1, none⟩ = false) :
    Calls Tryz.prog 146 #[.pointer (some ⟨b, 0, none⟩), .string s] w fun e w' => e = .returned (.tuple #[.int .i64 s.size, .nilIface]) ∧ w' = w2.setCell ⟨b, 1, none⟩ (.slice a2 n2 k2) := by
  have mixed : Tryz.prog.follows .mixedOrders = true := by kernel_rfl
  have t166 := Tryz.underlying199; have z166 := Tryz.sizeOf199; have t164 := Tryz.underlying197; have z164 := Tryz.sizeOf197; have t36 := Tryz.underlying36; have z36 := Tryz.sizeOf36
  have e174 : ∀ args w, (callFunc 226 args).run Tryz.prog w = .ok (.enter 226 args) w := enters_of Tryz.func226 (by kernel_rfl) rfl
  go_enter Tryz.func146, Tryz.ntmps146
  go_wp2_with (go_at_fn 226; refine hcc.mono ?_)
  rintro e w' ⟨rfl, rfl⟩
  go_wp2_with (at_builtin; refine Lib.wpList_append_run _ rfl _ _ _ _ rfl _ _ rfl rfl _ _ (happ _) ?_)
  go_ret2
  exact ⟨rfl, rfl⟩
set_option maxHeartbeats 1000000 in
set_option maxRecDepth 1000000 in
theorem bst (b g n cap : Nat) (hn : n ≠ 0) (str : ByteArray) (w : World) (hc : w.cell? ⟨b, 1, none⟩ = some (.slice (some ⟨g, 0, none⟩) n cap)) (hcap : cap ≠ 0)
    (hUS : (Builtin.unsafeString_ #[211, 3] 9 #[.pointer (some ⟨g, 0, none⟩), .int .i64 n]).run Tryz.prog w.drew = .ok (.string str) (w.drew.freeze ⟨g, 0, none⟩ n)) :
    Calls Tryz.prog 148 #[.pointer (some ⟨b, 0, none⟩)] w fun e w' => e = .returned (.string str) ∧ w' = w.drew.freeze ⟨g, 0, none⟩ n := by
  have c1 : w.drew.cell? ⟨b, 1, none⟩ = some (.slice (some ⟨g, 0, none⟩) n cap) := hc
  have hSD : (Builtin.unsafeSliceData_ #[36] 211 #[.slice (some ⟨g, 0, none⟩) n cap]).run Tryz.prog w.drew = .ok (.pointer (some ⟨g, 0, none⟩)) w.drew :=
    Lib.run_unsafeSliceData_row _ _ _ _ _ _ hcap
  have mixed : Tryz.prog.follows .mixedOrders = true := by kernel_rfl
  have t166 := Tryz.underlying199; have z166 := Tryz.sizeOf199; have t164 := Tryz.underlying197; have z164 := Tryz.sizeOf197; have t36 := Tryz.underlying36; have z36 := Tryz.sizeOf36; have t180 := Tryz.underlying211; have t3 := Tryz.underlying3; have t9 := Tryz.underlying9
  clear hcap hn
  go_enter Tryz.func148, Tryz.ntmps148
  go_wp2
  go_region_o
  all_goals (go_wp2; go_ret; exact ⟨rfl, rfl⟩)
set_option maxHeartbeats 1000000 in
set_option maxRecDepth 1000000 in
theorem bstNil (b : Nat) (w : World) (hc : w.cell? ⟨b, 1, none⟩ = some (.slice none 0 0)) :
    Calls Tryz.prog 148 #[.pointer (some ⟨b, 0, none⟩)] w fun e w' => e = .returned (.string .empty) ∧ w' = w.drew := by
  have c1 : w.drew.cell? ⟨b, 1, none⟩ = some (.slice none 0 0) := hc
  have hSD : (Builtin.unsafeSliceData_ #[36] 211 #[.slice none 0 0]).run Tryz.prog w.drew = .ok (.pointer none) w.drew := rfl
  have hUS : (Builtin.unsafeString_ #[211, 3] 9 #[.pointer none, .int .i64 0]).run Tryz.prog w.drew = .ok (.string .empty) w.drew := Lib.run_unsafeString_none w.drew _ _ _ none
  have mixed : Tryz.prog.follows .mixedOrders = true := by kernel_rfl
  have t166 := Tryz.underlying199; have z166 := Tryz.sizeOf199; have t164 := Tryz.underlying197; have z164 := Tryz.sizeOf197; have t36 := Tryz.underlying36; have z36 := Tryz.sizeOf36; have t180 := Tryz.underlying211; have t3 := Tryz.underlying3; have t9 := Tryz.underlying9
  go_enter Tryz.func148, Tryz.ntmps148
  go_wp2
  go_region_o
  all_goals (go_wp2; go_ret; exact ⟨rfl, rfl⟩)
end Go.Proofs
set_option linter.unusedVariables false
set_option linter.unusedSimpArgs false
namespace Go.Proofs
open Go.Shelf Go.RowKit Go.Lib
variable {P : Program}
theorem run_copy_cellsK (w : World) (dT sT ty elem : TypeId) (b o dLen dCap : Nat) (a : Addr) (sLen sCap n k : Nat) (cs : List Value)
    (hu : P.underlying dT = some (.slice elem)) (hs : (P.info? elem).map (·.size) = some k) (hn : n = Nat.min sLen dLen) (hl : cs.length = n * k)
    (hsrc : ∀ j v, cs[j]? = some v → w.cell? (a.add j) = some v) (hc : ∀ j, j < cs.length → (w.cell? ⟨b, o + j, none⟩).isSome = true) (hf : ∀ j, j < cs.length → w.frozen? ⟨b, o + j, none⟩ = false) (h1 : ∀ v ∈ cs, v.oneCell' = true) :
    (Builtin.copy_ #[dT, sT] ty #[.slice (some ⟨b, o, none⟩) dLen dCap, .slice (some a) sLen sCap]).run P w = .ok (goInt n) (w.setCells b o cs) := by
  have hfc := run_firstCells_some (P := P) w k n a sLen sCap cs hl hsrc
  have hst := run_storeCells_cells (P := P) b o cs 0 w (by simpa using hc) (by simpa using hf) h1
  cases hq : P.info? elem with
  | none => simp [hq] at hs
  | some i =>
    have hi : i.size = k := by simpa [hq] using hs
    simp [Builtin.copy_, run_underlying hu, Builtin.lenOf, sizeOf, typeInfo, hq, hi, ← hn, hfc, hst]
theorem wpList_copy_runJ (w : World) {ops : Array Oper} {rest : List Oper} {o : Oper} {a : Act} {Q : Exit → Act → World → Prop} (hgd : o.guard = none) (d s : Operand) (t t' : TypeId)
    (ho : o.op = .call { callee := .builtin .copy, args := #[d, s], argTypes := #[t, t'] }) (v u : Value) (hd : a.eval d = v) (hs : a.eval s = u) {v' : Value} {w' : World}
    (hr : (Builtin.copy_ #[t, t'] o.type #[v, u]).run P w = .ok v' w') (h : wpList P ops Q rest (a.put o.dst v') w') : wpList P ops Q (o :: rest) a w :=
  wpList_plain hgd fun _ hK => by
    unfold Oper.wp execOp
    simp only [ho, resolve, invoke, builtin, Sem.run_bind, Sem.run_pure, Result.andThen_ok, List.map_toArray, List.map_cons, List.map_nil, hd, hs, hr]
    exact hK _ _ h
theorem step_copy_runJ {ops : Array Oper} {o : Oper} {a : Act} {w : World} {K : Act → World → Prop} {Q : Exit → Act → World → Prop} {E : Prop}
    (hg : o.guard = none) (d x : Operand) (dT sT : TypeId) (hop : o.op = Op.call { callee := Callee.builtin Builtin.copy, args := #[d, x], argTypes := #[dT, sT] })
    (v u : Value) (hd : a.eval d = v) (hx : a.eval x = u) {v' : Value} {w' : World} (hr : (Builtin.copy_ #[dT, sT] o.type #[v, u]).run P w = .ok v' w') (hK : K (a.put o.dst v') w') :
    if Region.wanted o (yielded ops a.tmps) = true then Oper.wp P o a w K Q else E := by
  have hw : Region.wanted o (yielded ops a.tmps) = true := by simp [Region.wanted, hg]
  rw [if_pos hw]
  unfold Oper.wp
  simp [execOp, hop, resolve, invoke, builtin, hd, hx, hr, Result.andThen]
  exact hK
theorem isSome_setCellsJ (b : Nat) (vs : List Value) (o : Nat) (w : World) (h : ∀ j, j < vs.length → (w.cell? ⟨b, o + j, none⟩).isSome = true) (k : Nat) (hk : (w.cell? ⟨b, k, none⟩).isSome = true) : ((w.setCells b o vs).cell? ⟨b, k, none⟩).isSome = true := by
  by_cases hin : o ≤ k ∧ k < o + vs.length
  · have := World.cell?_setCells_in b vs o w h (k - o) (by omega)
    rw [show o + (k - o) = k by omega] at this
    rw [this]; rfl
  · rw [World.cell?_setCells_out b vs o w ⟨b, k, none⟩ (fun _ _ => by show k < o ∨ o + vs.length ≤ k; omega)]
    exact hk
theorem mul4 {a b : Nat} (h : a ≤ b) : a * 4 ≤ b * 4 := Nat.mul_le_mul_right 4 h
theorem info443 : ∃ i0, Tryz.prog.info? 130 = some i0 ∧ i0.size = 4 ∧ (∃ z, i0.zero = some z ∧ z.cells.size = 4) ∧ i0.bytes = 56 := by
  have h : (Tryz.prog.info? 130).map (fun i => (i.size, i.zero.map (fun z => z.cells.size), i.bytes)) = some (4, some 4, 56) := by kernel_rfl
  obtain ⟨i, h1, h2⟩ := Option.map_eq_some_iff.1 h
  simp only [Prod.mk.injEq] at h2
  obtain ⟨z, h3, h4⟩ := Option.map_eq_some_iff.1 h2.2.1
  exact ⟨i, h1, h2.1, ⟨z, h3, h4⟩, h2.2.2⟩
set_option maxHeartbeats 4000000 in
set_option maxRecDepth 1000000 in
theorem ins443_shift (b n c i vb m vc : Nat) (cs vs : List Value) (w : World) (hi : i < n) (hm : 0 < m) (hroom : n + m ≤ c) (hbig : n + m ≤ 1000000) (hvb : vb ≠ b)
    (hcl : cs.length = n * 4) (hvl : vs.length = m * 4)
    (hcs : ∀ j v, cs[j]? = some v → w.cell? ⟨b, j, none⟩ = some v) (hsp : ∀ j, j < (n + m) * 4 → (w.cell? ⟨b, j, none⟩).isSome = true) (hfz : ∀ j, j < (n + m) * 4 → w.frozen? ⟨b, j, none⟩ = false)
    (hvs : ∀ j v, vs[j]? = some v → w.cell? ⟨vb, j, none⟩ = some v) (h1c : ∀ v ∈ cs, v.oneCell' = true) (h1v : ∀ v ∈ vs, v.oneCell' = true)
    (tA tB : TypeId) (kA kB : Nat) (hsa : w.shape? vb = some (tA, kA)) (hsb : w.shape? b = some (tB, kB)) (hkB : kB ≠ 0) (hfa : w.frozen? ⟨vb, 0, none⟩ = false) (hfe : w.frozen? ⟨vb, kA, none⟩ = false) :
    Calls Tryz.prog 455 #[.slice (some ⟨b, 0, none⟩) n c, .int .i64 i, .slice (some ⟨vb, 0, none⟩) m vc] w fun e w' =>
      e = .returned (.slice (some ⟨b, 0, none⟩) (n + m) c) ∧ w' = (w.drew.setCells b ((i + m) * 4) (cs.drop (i * 4))).setCells b (i * 4) vs := by
  have t134 := Tryz.underlying162; have z134 := Tryz.sizeOf162; have z111 := Tryz.sizeOf130; have t3 := Tryz.underlying3; have t4 := Tryz.underlying4
  have hz1 : ¬ ((m : Int) = 0) := by omega
  have hz2 : ¬ ((i : Int) = (n : Int)) := by omega
  obtain ⟨i0, hi0, hi4, _⟩ := info443
  have hsz : (Tryz.prog.info? 130).map (·.size) = some 4 := by rw [hi0]; simp [hi4]
  have hov : ∀ lb cb, (callFunc 457 #[.slice (some ⟨vb, 0, none⟩) m vc, .slice (some ⟨b, (i + m) * 4, none⟩) lb cb]).run Tryz.prog w = .ok (.value (.bool false)) w := fun lb cb => by
    rw [run_callFunc_extern Tryz.func457 (by kernel_rfl) (by kernel_rfl) (by kernel_rfl) (e := Extern.SlicesOverlaps.overlaps #[162, 162] #[4]) (by kernel_rfl),
      Lib.run_overlaps_apart w 162 4 130 Tryz.underlying162 4 Tryz.sizeOf130 ⟨vb, 0, none⟩ ⟨b, (i + m) * 4, none⟩ m vc lb cb hvb tA tB kA kB hsa hsb hkB hfa hfe]
    rfl
  have hdl : (cs.drop (i * 4)).length = (n - i) * 4 := by rw [List.length_drop, hcl, Nat.sub_mul]
  have mixed : Tryz.prog.follows .mixedOrders = true := by kernel_rfl
  have hw1 : IntKind.i64.wrap ((i : Int) + (m : Int)) = (i : Int) + (m : Int) := by rw [IntKind.wrap_i64]; omega
  have hw2 : IntKind.i64.wrap ((n : Int) + (m : Int)) = (n : Int) + (m : Int) := by rw [IntKind.wrap_i64]; omega
  have hb1 : (0 : Int) ≤ (i : Int) + (m : Int) := by omega
  have hin : i ≤ n := by omega
  have htn : ((i : Int) + (m : Int)).toNat = i + m := by omega
  have hb2 : ¬ (c = i + m) := by omega
  have hb3 : (i : Int) ≤ (n : Int) + (m : Int) := by omega
  have hb4 : ¬ (c = i) := by omega
  have hcp1 : ∀ ty dc sc, (Builtin.copy_ #[162, 162] ty #[.slice (some ⟨b, (i + m) * 4, none⟩) (n + m - (i + m)) dc, .slice (some ⟨b, i * 4, none⟩) (n + m - i) sc]).run Tryz.prog w.drew = .ok (goInt ((n - i : Nat) : Int)) (w.drew.setCells b ((i + m) * 4) (cs.drop (i * 4))) := fun ty dc sc =>
    run_copy_cellsK w.drew _ _ ty 130 b ((i + m) * 4) (n + m - (i + m)) dc ⟨b, i * 4, none⟩ (n + m - i) sc (n - i) 4 (cs.drop (i * 4)) Tryz.underlying162 hsz (by simp only [Nat.min_def]; split <;> omega) hdl
      (fun j v hj => by rw [Addr.add_lit]; exact hcs (i * 4 + j) v (by rwa [List.getElem?_drop] at hj))
      (fun j hj => hsp _ (by rw [hdl] at hj; omega)) (fun j hj => hfz _ (by rw [hdl] at hj; omega)) (fun v hv => h1c v (List.mem_of_mem_drop hv))
  obtain ⟨W1, hW1⟩ : ∃ W1, W1 = w.drew.setCells b ((i + m) * 4) (cs.drop (i * 4)) := ⟨_, rfl⟩
  have hsp1 : ∀ k, k < (n + m) * 4 → (W1.cell? ⟨b, k, none⟩).isSome = true := fun k hk => by
    rw [hW1]
    exact isSome_setCellsJ b (cs.drop (i * 4)) ((i + m) * 4) w.drew (fun j hj => hsp _ (by rw [hdl] at hj; omega)) _ (hsp k hk)
  have hcp2 : ∀ (W : World), (∀ x, W.cell? x = W1.cell? x) → (∀ x, W.frozen? x = W1.frozen? x) → ∀ ty dc, (Builtin.copy_ #[162, 162] ty #[.slice (some ⟨b, i * 4, none⟩) (n + m - i) dc, .slice (some ⟨vb, 0, none⟩) m vc]).run Tryz.prog W = .ok (goInt m) (W.setCells b (i * 4) vs) := fun W hWc hWf ty dc =>
    run_copy_cellsK W _ _ ty 130 b (i * 4) (n + m - i) dc ⟨vb, 0, none⟩ m vc m 4 vs Tryz.underlying162 hsz (by simp only [Nat.min_def]; split <;> omega) hvl
      (fun j v hj => by
        rw [Addr.add_lit, Nat.zero_add, hWc, hW1, World.cell?_setCells_out b _ _ _ _ (fun h _ => absurd h hvb)]
        exact hvs j v hj)
      (fun j hj => by rw [hWc]; exact hsp1 _ (by rw [hvl] at hj; omega)) (fun j hj => by rw [hWf, hW1, World.frozen?_setCells]; exact hfz _ (by rw [hvl] at hj; omega)) h1v
  rw [← hW1] at hcp1
  go_enter Tryz.func455, Tryz.ntmps455
  go_wp2_with (simp only [hov])
  go_region_law_o (refine step_copy_runJ rfl _ _ 162 162 rfl _ _ (by simp [Act.eval, Act.put]) (by simp [Act.eval, Act.put]) (hcp1 _ _ _) ?_)
  go_wp2_with (at_builtin; refine wpList_copy_runJ _ rfl _ _ 162 162 rfl _ _ rfl rfl (hcp2 _ (fun _ => rfl) (fun _ => rfl) _ _) ?_)
  go_ret
  first | exact ⟨rfl, rfl⟩ | exact ⟨rfl, by rw [hW1]⟩
set_option maxHeartbeats 4000000 in
set_option maxRecDepth 1000000 in
theorem ins443_end (a1 : Option Addr) (n c a2n a2c vb m vc : Nat) (a2 : Option Addr) (w w2 : World) (hm : 0 < m) (hbig : n + m ≤ 1000000) (hnc : n ≤ c)
    (happ : ∀ ty, (Builtin.append_ #[162, 162] ty #[.slice a1 n c, .slice (some ⟨vb, 0, none⟩) m vc]).run Tryz.prog w = .ok (.slice a2 a2n a2c) w2) :
    Calls Tryz.prog 455 #[.slice a1 n c, .int .i64 n, .slice (some ⟨vb, 0, none⟩) m vc] w fun e w' => e = .returned (.slice a2 a2n a2c) ∧ w' = w2 := by
  have t134 := Tryz.underlying162; have z134 := Tryz.sizeOf162; have z111 := Tryz.sizeOf130; have t3 := Tryz.underlying3; have t4 := Tryz.underlying4
  have hz1 : ¬ ((m : Int) = 0) := by omega
  have mixed : Tryz.prog.follows .mixedOrders = true := by kernel_rfl
  go_enter Tryz.func455, Tryz.ntmps455
  cases a1 with
  | none =>
    go_wp2_with (at_builtin; refine Lib.wpList_append_run _ rfl _ _ _ _ rfl _ _ rfl rfl _ _ (happ _) ?_)
    all_goals (go_ret; exact ⟨rfl, rfl⟩)
  | some a =>
    obtain ⟨ab, ao, asp⟩ := a
    go_wp2_with (at_builtin; refine Lib.wpList_append_run _ rfl _ _ _ _ rfl _ _ rfl rfl _ _ (happ _) ?_)
    all_goals (go_ret; exact ⟨rfl, rfl⟩)
set_option maxHeartbeats 4000000 in
set_option maxRecDepth 1000000 in
theorem ins443_grow (b n c i vb m vc : Nat) (cs vs : List Value) (w : World) (i0 : TypeInfo) (z : Value) (hi0 : Tryz.prog.info? 130 = some i0) (hi4 : i0.size = 4) (hz0 : i0.zero = some z) (hzc : z.cells.size = 4) (hzb : i0.bytes = 56)
    (hi : i < n) (hm : 0 < m) (hnc : n ≤ c) (hroom : c < n + m) (hbig : n + m ≤ 1000000) (hcl : cs.length = n * 4) (hvl : vs.length = m * 4)
    (hcs : ∀ j v, cs[j]? = some v → w.cell? ⟨b, j, none⟩ = some v) (hvs : ∀ j v, vs[j]? = some v → w.cell? ⟨vb, j, none⟩ = some v) (h1c : ∀ v ∈ cs, v.oneCell' = true) (h1v : ∀ v ∈ vs, v.oneCell' = true) :
    Calls Tryz.prog 455 #[.slice (some ⟨b, 0, none⟩) n c, .int .i64 i, .slice (some ⟨vb, 0, none⟩) m vc] w fun e w' =>
      e = .returned (.slice (some ⟨w.heap.size, 0, none⟩) (n + m) (grownCap w (n + m) c 130)) ∧
      w' = (((w.alloc (.cells ((cs.take (i * 4)).toArray ++ Builtin.zeroCells z.cells (n + m - i) ++ Builtin.zeroCells z.cells (grownCap w (n + m) c 130 - (n + m))) 130)).drew.setCells w.heap.size (i * 4) vs).drew).setCells w.heap.size ((i + m) * 4) (cs.drop (i * 4)) := by
  have t134 := Tryz.underlying162; have z134 := Tryz.sizeOf162; have z111 := Tryz.sizeOf130; have t3 := Tryz.underlying3; have t4 := Tryz.underlying4
  have mixed : Tryz.prog.follows .mixedOrders = true := by kernel_rfl
  have hz1 : ¬ ((m : Int) = 0) := by omega
  have hz2 : ¬ ((i : Int) = (n : Int)) := by omega
  have hz3 : (c : Int) < (n : Int) + (m : Int) := by omega
  have hsz : (Tryz.prog.info? 130).map (·.size) = some 4 := by rw [hi0]; simp [hi4]
  have hbw : b < w.heap.size := block_lt_of_cell (hcs 0 _ (List.getElem?_eq_getElem (by omega)))
  have hvw : vb < w.heap.size := block_lt_of_cell (hvs 0 _ (List.getElem?_eq_getElem (by omega)))
  have hkk : (n : Int) + (m : Int) - (i : Int) = ((n + m - i : Nat) : Int) := by omega
  have hik : i + (n + m - i) = n + m := by omega
  have hold : (Builtin.firstCells i0.size i (.slice (some ⟨b, 0, none⟩) i c)).run Tryz.prog w.drew = .ok (cs.take (i * 4)).toArray w.drew := by
    rw [hi4]
    exact run_firstCells_some w.drew 4 i ⟨b, 0, none⟩ i c (cs.take (i * 4)) (by rw [List.length_take]; omega) (fun j v hj => by
      rw [Addr.add_lit, Nat.zero_add]
      rw [List.getElem?_take] at hj
      split at hj
      · exact hcs j v hj
      · cases hj)
  have hrz : ∀ ty, (Builtin.append_ #[162, 3] ty #[.slice (some ⟨b, 0, none⟩) i c, .int .i64 ((n : Int) + (m : Int) - (i : Int))]).run Tryz.prog w =
      .ok (.slice (some ⟨w.heap.size, 0, none⟩) (n + m) (grownCap w (n + m) c 130)) (w.drew.alloc (.cells ((cs.take (i * 4)).toArray ++ Builtin.zeroCells z.cells (n + m - i) ++ Builtin.zeroCells z.cells (grownCap w (n + m) c 130 - (n + m))) 130)) := fun ty => by
    have h := Lib.run_append_grow_zeros w 162 3 ty 130 i0 _ .i64 .i64 Tryz.underlying162 Tryz.underlying3 hi0 hz0 (some ⟨b, 0, none⟩) i c (cs.take (i * 4)) hold (n + m - i) (by omega) (by omega) (by omega) (by omega) (by rw [hzb]; omega) (by rw [hzb, hik]; exact growslice_fits hroom (by omega))
    rw [hik] at h
    rw [hkk]
    exact h
  have hGn0 : n + m ≤ grownCap w (n + m) c 130 := grownCap_ge w _ _ _
  have hGm0 : grownCap w (n + m) c 130 ≤ 9223372036854775807 := by
    have := grownCap_le_maxLen w (n + m) c 130 (by unfold maxLen; omega)
    unfold maxLen at this
    omega
  obtain ⟨G, hG⟩ : ∃ G, G = grownCap w (n + m) c 130 := ⟨_, rfl⟩
  obtain ⟨ROW, hROW⟩ : ∃ ROW : Array Value, ROW = (cs.take (i * 4)).toArray ++ Builtin.zeroCells z.cells (n + m - i) ++ Builtin.zeroCells z.cells (G - (n + m)) := ⟨_, rfl⟩
  rw [← hG] at hrz hGn0 hGm0 ⊢
  rw [← hROW] at hrz ⊢
  have hRl : (n + m) * 4 ≤ ROW.size := by
    rw [hROW]
    simp only [Array.size_append, List.size_toArray, List.length_take, size_zeroCells, hzc]
    omega
  obtain ⟨W1, hW1⟩ : ∃ W1, W1 = w.drew.alloc (.cells ROW 130) := ⟨_, rfl⟩
  rw [← hW1] at hrz
  have hN : ∀ j, j < (n + m) * 4 → (W1.cell? ⟨w.heap.size, j, none⟩).isSome = true := fun j hj => by
    rw [hW1, World.cell?_alloc_at (w := w.drew) ROW _ w.heap.size j rfl, Array.getElem?_eq_getElem (by omega)]; rfl
  have hNf : ∀ j, W1.frozen? ⟨w.heap.size, j, none⟩ = false := fun j => by rw [hW1]; exact World.frozen?_alloc_at (w := w.drew) ROW _ w.heap.size j rfl
  have hOb : ∀ j v, w.cell? ⟨b, j, none⟩ = some v → W1.cell? ⟨b, j, none⟩ = some v := fun j v h => by rw [hW1, World.cell?_alloc_past (w := w.drew) _ b j hbw]; exact h
  have hOv : ∀ j v, w.cell? ⟨vb, j, none⟩ = some v → W1.cell? ⟨vb, j, none⟩ = some v := fun j v h => by rw [hW1, World.cell?_alloc_past (w := w.drew) _ vb j hvw]; exact h
  have hcpA : ∀ (W : World), (∀ x, W.cell? x = W1.cell? x) → (∀ x, W.frozen? x = W1.frozen? x) → ∀ ty dc, (Builtin.copy_ #[162, 162] ty #[.slice (some ⟨w.heap.size, i * 4, none⟩) (n + m - i) dc, .slice (some ⟨vb, 0, none⟩) m vc]).run Tryz.prog W = .ok (goInt m) (W.setCells w.heap.size (i * 4) vs) := fun W hWc hWf ty dc =>
    run_copy_cellsK W _ _ ty 130 w.heap.size (i * 4) (n + m - i) dc ⟨vb, 0, none⟩ m vc m 4 vs Tryz.underlying162 hsz (by simp only [Nat.min_def]; split <;> omega) hvl
      (fun j v hj => by rw [Addr.add_lit, Nat.zero_add, hWc]; exact hOv _ v (hvs j v hj))
      (fun j hj => by rw [hWc]; exact hN _ (by rw [hvl] at hj; omega)) (fun j hj => by rw [hWf]; exact hNf _) h1v
  have hGi : ¬ (G = i) := by omega
  have hGim : ¬ (G = i + m) := by omega
  have hci : ¬ (c = i) := by omega
  have hbN : b ≠ w.heap.size := by omega
  have hdl : (cs.drop (i * 4)).length = (n - i) * 4 := by rw [List.length_drop, hcl, Nat.sub_mul]
  have hcpB : ∀ (W : World), (∀ x, W.cell? x = (W1.setCells w.heap.size (i * 4) vs).cell? x) → (∀ x, W.frozen? x = (W1.setCells w.heap.size (i * 4) vs).frozen? x) → ∀ ty dc sc, (Builtin.copy_ #[162, 162] ty #[.slice (some ⟨w.heap.size, (i + m) * 4, none⟩) (n + m - (i + m)) dc, .slice (some ⟨b, i * 4, none⟩) (n - i) sc]).run Tryz.prog W = .ok (goInt ((n - i : Nat) : Int)) (W.setCells w.heap.size ((i + m) * 4) (cs.drop (i * 4))) := fun W hWc hWf ty dc sc =>
    run_copy_cellsK W _ _ ty 130 w.heap.size ((i + m) * 4) (n + m - (i + m)) dc ⟨b, i * 4, none⟩ (n - i) sc (n - i) 4 (cs.drop (i * 4)) Tryz.underlying162 hsz (by simp only [Nat.min_def]; split <;> omega) hdl
      (fun j v hj => by
        rw [Addr.add_lit, hWc, World.cell?_setCells_out _ _ _ _ _ (fun h _ => absurd h hbN)]
        exact hOb _ v (hcs (i * 4 + j) v (by rwa [List.getElem?_drop] at hj)))
      (fun j hj => by rw [hWc]; exact isSome_setCellsJ _ vs (i * 4) _ (fun t ht => hN _ (by rw [hvl] at ht; omega)) _ (hN _ (by rw [hdl] at hj; omega)))
      (fun j hj => by rw [hWf, World.frozen?_setCells]; exact hNf _) (fun v hv => h1c v (List.mem_of_mem_drop hv))
  subst hW1
  have hE1 : ∀ x, ((w.alloc (.cells ROW 130)).drew).cell? x = (w.drew.alloc (.cells ROW 130)).cell? x := fun x => rfl
  have hE2 : ∀ x, ((w.alloc (.cells ROW 130)).drew).frozen? x = (w.drew.alloc (.cells ROW 130)).frozen? x := fun x => rfl
  have hF1 : ∀ x, (((w.alloc (.cells ROW 130)).drew.setCells w.heap.size (i * 4) vs).drew).cell? x = ((w.drew.alloc (.cells ROW 130)).setCells w.heap.size (i * 4) vs).cell? x := fun x => rfl
  have hF2 : ∀ x, (((w.alloc (.cells ROW 130)).drew.setCells w.heap.size (i * 4) vs).drew).frozen? x = ((w.drew.alloc (.cells ROW 130)).setCells w.heap.size (i * 4) vs).frozen? x := fun x => rfl
  have hw1 : IntKind.i64.wrap ((i : Int) + (m : Int)) = (i : Int) + (m : Int) := by rw [IntKind.wrap_i64]; omega
  have hw2 : IntKind.i64.wrap ((n : Int) + (m : Int)) = (n : Int) + (m : Int) := by rw [IntKind.wrap_i64]; omega
  have hw3 : IntKind.i64.wrap ((n : Int) + (m : Int) - (i : Int)) = (n : Int) + (m : Int) - (i : Int) := by rw [IntKind.wrap_i64]; omega
  have hb1 : (0 : Int) ≤ (i : Int) + (m : Int) := by omega
  have hin : i ≤ n := by omega
  have htn : ((i : Int) + (m : Int)).toNat = i + m := by omega
  have hb3 : (i : Int) ≤ (n : Int) := by omega
  clear hkk hik hold hROW hG hRl
  go_enter Tryz.func455, Tryz.ntmps455
  go_wp2_with (first
    | (at_builtin; refine Lib.wpList_append_run _ rfl _ _ _ _ rfl _ _ rfl rfl _ _ (hrz _) ?_)
    | (at_builtin; refine wpList_copy_runJ _ rfl _ _ 162 162 rfl _ _ rfl rfl (hcpA _ hE1 hE2 _ _) ?_)
    | (at_builtin; refine wpList_copy_runJ _ rfl _ _ 162 162 rfl _ _ rfl rfl (hcpB _ (fun _ => rfl) (fun _ => rfl) _ _ _) ?_))
  go_region_law_o (refine step_copy_runJ rfl _ _ 162 162 rfl (.slice (some ⟨w.heap.size, (i + m) * 4, none⟩) (n + m - (i + m)) (G - (i + m))) (.slice (some ⟨b, i * 4, none⟩) (n - i) (c - i)) (by simp [Act.eval, Act.put]) (by simp [Act.eval, Act.put]) (hcpB _ hF1 hF2 3 (G - (i + m)) (c - i)) ?_)
  go_wp2
  go_ret
  exact ⟨rfl, rfl⟩
theorem info444 : ∃ i0, Tryz.prog.info? 88 = some i0 ∧ i0.size = 4 ∧ (∃ z, i0.zero = some z ∧ z.cells.size = 4) ∧ i0.bytes = 56 := by
  have h : (Tryz.prog.info? 88).map (fun i => (i.size, i.zero.map (fun z => z.cells.size), i.bytes)) = some (4, some 4, 56) := by kernel_rfl
  obtain ⟨i, h1, h2⟩ := Option.map_eq_some_iff.1 h
  simp only [Prod.mk.injEq] at h2
  obtain ⟨z, h3, h4⟩ := Option.map_eq_some_iff.1 h2.2.1
  exact ⟨i, h1, h2.1, ⟨z, h3, h4⟩, h2.2.2⟩
set_option maxHeartbeats 4000000 in
set_option maxRecDepth 1000000 in
theorem ins444_shift (b n c i vb m vc : Nat) (cs vs : List Value) (w : World) (hi : i < n) (hm : 0 < m) (hroom : n + m ≤ c) (hbig : n + m ≤ 1000000) (hvb : vb ≠ b)
    (hcl : cs.length = n * 4) (hvl : vs.length = m * 4)
    (hcs : ∀ j v, cs[j]? = some v → w.cell? ⟨b, j, none⟩ = some v) (hsp : ∀ j, j < (n + m) * 4 → (w.cell? ⟨b, j, none⟩).isSome = true) (hfz : ∀ j, j < (n + m) * 4 → w.frozen? ⟨b, j, none⟩ = false)
    (hvs : ∀ j v, vs[j]? = some v → w.cell? ⟨vb, j, none⟩ = some v) (h1c : ∀ v ∈ cs, v.oneCell' = true) (h1v : ∀ v ∈ vs, v.oneCell' = true)
    (tA tB : TypeId) (kA kB : Nat) (hsa : w.shape? vb = some (tA, kA)) (hsb : w.shape? b = some (tB, kB)) (hkB : kB ≠ 0) (hfa : w.frozen? ⟨vb, 0, none⟩ = false) (hfe : w.frozen? ⟨vb, kA, none⟩ = false) :
    Calls Tryz.prog 456 #[.slice (some ⟨b, 0, none⟩) n c, .int .i64 i, .slice (some ⟨vb, 0, none⟩) m vc] w fun e w' =>
      e = .returned (.slice (some ⟨b, 0, none⟩) (n + m) c) ∧ w' = (w.drew.setCells b ((i + m) * 4) (cs.drop (i * 4))).setCells b (i * 4) vs := by
  have t131 := Tryz.underlying155; have z131 := Tryz.sizeOf155; have z105 := Tryz.sizeOf88; have t3 := Tryz.underlying3; have t4 := Tryz.underlying4
  have hz1 : ¬ ((m : Int) = 0) := by omega
  have hz2 : ¬ ((i : Int) = (n : Int)) := by omega
  obtain ⟨i0, hi0, hi4, _⟩ := info444
  have hsz : (Tryz.prog.info? 88).map (·.size) = some 4 := by rw [hi0]; simp [hi4]
  have hov : ∀ lb cb, (callFunc 459 #[.slice (some ⟨vb, 0, none⟩) m vc, .slice (some ⟨b, (i + m) * 4, none⟩) lb cb]).run Tryz.prog w = .ok (.value (.bool false)) w := fun lb cb => by
    rw [run_callFunc_extern Tryz.func459 (by kernel_rfl) (by kernel_rfl) (by kernel_rfl) (e := Extern.SlicesOverlaps.overlaps #[155, 155] #[4]) (by kernel_rfl),
      Lib.run_overlaps_apart w 155 4 88 Tryz.underlying155 4 Tryz.sizeOf88 ⟨vb, 0, none⟩ ⟨b, (i + m) * 4, none⟩ m vc lb cb hvb tA tB kA kB hsa hsb hkB hfa hfe]
    rfl
  have hdl : (cs.drop (i * 4)).length = (n - i) * 4 := by rw [List.length_drop, hcl, Nat.sub_mul]
  have mixed : Tryz.prog.follows .mixedOrders = true := by kernel_rfl
  have hw1 : IntKind.i64.wrap ((i : Int) + (m : Int)) = (i : Int) + (m : Int) := by rw [IntKind.wrap_i64]; omega
  have hw2 : IntKind.i64.wrap ((n : Int) + (m : Int)) = (n : Int) + (m : Int) := by rw [IntKind.wrap_i64]; omega
  have hb1 : (0 : Int) ≤ (i : Int) + (m : Int) := by omega
  have hin : i ≤ n := by omega
  have htn : ((i : Int) + (m : Int)).toNat = i + m := by omega
  have hb2 : ¬ (c = i + m) := by omega
  have hb3 : (i : Int) ≤ (n : Int) + (m : Int) := by omega
  have hb4 : ¬ (c = i) := by omega
  have hcp1 : ∀ ty dc sc, (Builtin.copy_ #[155, 155] ty #[.slice (some ⟨b, (i + m) * 4, none⟩) (n + m - (i + m)) dc, .slice (some ⟨b, i * 4, none⟩) (n + m - i) sc]).run Tryz.prog w.drew = .ok (goInt ((n - i : Nat) : Int)) (w.drew.setCells b ((i + m) * 4) (cs.drop (i * 4))) := fun ty dc sc =>
    run_copy_cellsK w.drew _ _ ty 88 b ((i + m) * 4) (n + m - (i + m)) dc ⟨b, i * 4, none⟩ (n + m - i) sc (n - i) 4 (cs.drop (i * 4)) Tryz.underlying155 hsz (by simp only [Nat.min_def]; split <;> omega) hdl
      (fun j v hj => by rw [Addr.add_lit]; exact hcs (i * 4 + j) v (by rwa [List.getElem?_drop] at hj))
      (fun j hj => hsp _ (by rw [hdl] at hj; omega)) (fun j hj => hfz _ (by rw [hdl] at hj; omega)) (fun v hv => h1c v (List.mem_of_mem_drop hv))
  obtain ⟨W1, hW1⟩ : ∃ W1, W1 = w.drew.setCells b ((i + m) * 4) (cs.drop (i * 4)) := ⟨_, rfl⟩
  have hsp1 : ∀ k, k < (n + m) * 4 → (W1.cell? ⟨b, k, none⟩).isSome = true := fun k hk => by
    rw [hW1]
    exact isSome_setCellsJ b (cs.drop (i * 4)) ((i + m) * 4) w.drew (fun j hj => hsp _ (by rw [hdl] at hj; omega)) _ (hsp k hk)
  have hcp2 : ∀ (W : World), (∀ x, W.cell? x = W1.cell? x) → (∀ x, W.frozen? x = W1.frozen? x) → ∀ ty dc, (Builtin.copy_ #[155, 155] ty #[.slice (some ⟨b, i * 4, none⟩) (n + m - i) dc, .slice (some ⟨vb, 0, none⟩) m vc]).run Tryz.prog W = .ok (goInt m) (W.setCells b (i * 4) vs) := fun W hWc hWf ty dc =>
    run_copy_cellsK W _ _ ty 88 b (i * 4) (n + m - i) dc ⟨vb, 0, none⟩ m vc m 4 vs Tryz.underlying155 hsz (by simp only [Nat.min_def]; split <;> omega) hvl
      (fun j v hj => by
        rw [Addr.add_lit, Nat.zero_add, hWc, hW1, World.cell?_setCells_out b _ _ _ _ (fun h _ => absurd h hvb)]
        exact hvs j v hj)
      (fun j hj => by rw [hWc]; exact hsp1 _ (by rw [hvl] at hj; omega)) (fun j hj => by rw [hWf, hW1, World.frozen?_setCells]; exact hfz _ (by rw [hvl] at hj; omega)) h1v
  rw [← hW1] at hcp1
  go_enter Tryz.func456, Tryz.ntmps456
  go_wp2_with (simp only [hov])
  go_region_law_o (refine step_copy_runJ rfl _ _ 155 155 rfl _ _ (by simp [Act.eval, Act.put]) (by simp [Act.eval, Act.put]) (hcp1 _ _ _) ?_)
  go_wp2_with (at_builtin; refine wpList_copy_runJ _ rfl _ _ 155 155 rfl _ _ rfl rfl (hcp2 _ (fun _ => rfl) (fun _ => rfl) _ _) ?_)
  go_ret
  first | exact ⟨rfl, rfl⟩ | exact ⟨rfl, by rw [hW1]⟩
set_option maxHeartbeats 4000000 in
set_option maxRecDepth 1000000 in
theorem ins444_end (a1 : Option Addr) (n c a2n a2c vb m vc : Nat) (a2 : Option Addr) (w w2 : World) (hm : 0 < m) (hbig : n + m ≤ 1000000) (hnc : n ≤ c)
    (happ : ∀ ty, (Builtin.append_ #[155, 155] ty #[.slice a1 n c, .slice (some ⟨vb, 0, none⟩) m vc]).run Tryz.prog w = .ok (.slice a2 a2n a2c) w2) :
    Calls Tryz.prog 456 #[.slice a1 n c, .int .i64 n, .slice (some ⟨vb, 0, none⟩) m vc] w fun e w' => e = .returned (.slice a2 a2n a2c) ∧ w' = w2 := by
  have t131 := Tryz.underlying155; have z131 := Tryz.sizeOf155; have z105 := Tryz.sizeOf88; have t3 := Tryz.underlying3; have t4 := Tryz.underlying4
  have hz1 : ¬ ((m : Int) = 0) := by omega
  have mixed : Tryz.prog.follows .mixedOrders = true := by kernel_rfl
  go_enter Tryz.func456, Tryz.ntmps456
  cases a1 with
  | none =>
    go_wp2_with (at_builtin; refine Lib.wpList_append_run _ rfl _ _ _ _ rfl _ _ rfl rfl _ _ (happ _) ?_)
    all_goals (go_ret; exact ⟨rfl, rfl⟩)
  | some a =>
    obtain ⟨ab, ao, asp⟩ := a
    go_wp2_with (at_builtin; refine Lib.wpList_append_run _ rfl _ _ _ _ rfl _ _ rfl rfl _ _ (happ _) ?_)
    all_goals (go_ret; exact ⟨rfl, rfl⟩)
set_option maxHeartbeats 4000000 in
set_option maxRecDepth 1000000 in
theorem ins444_grow (b n c i vb m vc : Nat) (cs vs : List Value) (w : World) (i0 : TypeInfo) (z : Value) (hi0 : Tryz.prog.info? 88 = some i0) (hi4 : i0.size = 4) (hz0 : i0.zero = some z) (hzc : z.cells.size = 4) (hzb : i0.bytes = 56)
    (hi : i < n) (hm : 0 < m) (hnc : n ≤ c) (hroom : c < n + m) (hbig : n + m ≤ 1000000) (hcl : cs.length = n * 4) (hvl : vs.length = m * 4)
    (hcs : ∀ j v, cs[j]? = some v → w.cell? ⟨b, j, none⟩ = some v) (hvs : ∀ j v, vs[j]? = some v → w.cell? ⟨vb, j, none⟩ = some v) (h1c : ∀ v ∈ cs, v.oneCell' = true) (h1v : ∀ v ∈ vs, v.oneCell' = true) :
    Calls Tryz.prog 456 #[.slice (some ⟨b, 0, none⟩) n c, .int .i64 i, .slice (some ⟨vb, 0, none⟩) m vc] w fun e w' =>
      e = .returned (.slice (some ⟨w.heap.size, 0, none⟩) (n + m) (grownCap w (n + m) c 88)) ∧
      w' = (((w.alloc (.cells ((cs.take (i * 4)).toArray ++ Builtin.zeroCells z.cells (n + m - i) ++ Builtin.zeroCells z.cells (grownCap w (n + m) c 88 - (n + m))) 88)).drew.setCells w.heap.size (i * 4) vs).drew).setCells w.heap.size ((i + m) * 4) (cs.drop (i * 4)) := by
  have t131 := Tryz.underlying155; have z131 := Tryz.sizeOf155; have z105 := Tryz.sizeOf88; have t3 := Tryz.underlying3; have t4 := Tryz.underlying4
  have mixed : Tryz.prog.follows .mixedOrders = true := by kernel_rfl
  have hz1 : ¬ ((m : Int) = 0) := by omega
  have hz2 : ¬ ((i : Int) = (n : Int)) := by omega
  have hz3 : (c : Int) < (n : Int) + (m : Int) := by omega
  have hsz : (Tryz.prog.info? 88).map (·.size) = some 4 := by rw [hi0]; simp [hi4]
  have hbw : b < w.heap.size := block_lt_of_cell (hcs 0 _ (List.getElem?_eq_getElem (by omega)))
  have hvw : vb < w.heap.size := block_lt_of_cell (hvs 0 _ (List.getElem?_eq_getElem (by omega)))
  have hkk : (n : Int) + (m : Int) - (i : Int) = ((n + m - i : Nat) : Int) := by omega
  have hik : i + (n + m - i) = n + m := by omega
  have hold : (Builtin.firstCells i0.size i (.slice (some ⟨b, 0, none⟩) i c)).run Tryz.prog w.drew = .ok (cs.take (i * 4)).toArray w.drew := by
    rw [hi4]
    exact run_firstCells_some w.drew 4 i ⟨b, 0, none⟩ i c (cs.take (i * 4)) (by rw [List.length_take]; omega) (fun j v hj => by
      rw [Addr.add_lit, Nat.zero_add]
      rw [List.getElem?_take] at hj
      split at hj
      · exact hcs j v hj
      · cases hj)
  have hrz : ∀ ty, (Builtin.append_ #[155, 3] ty #[.slice (some ⟨b, 0, none⟩) i c, .int .i64 ((n : Int) + (m : Int) - (i : Int))]).run Tryz.prog w =
      .ok (.slice (some ⟨w.heap.size, 0, none⟩) (n + m) (grownCap w (n + m) c 88)) (w.drew.alloc (.cells ((cs.take (i * 4)).toArray ++ Builtin.zeroCells z.cells (n + m - i) ++ Builtin.zeroCells z.cells (grownCap w (n + m) c 88 - (n + m))) 88)) := fun ty => by
    have h := Lib.run_append_grow_zeros w 155 3 ty 88 i0 _ .i64 .i64 Tryz.underlying155 Tryz.underlying3 hi0 hz0 (some ⟨b, 0, none⟩) i c (cs.take (i * 4)) hold (n + m - i) (by omega) (by omega) (by omega) (by omega) (by rw [hzb]; omega) (by rw [hzb, hik]; exact growslice_fits hroom (by omega))
    rw [hik] at h
    rw [hkk]
    exact h
  have hGn0 : n + m ≤ grownCap w (n + m) c 88 := grownCap_ge w _ _ _
  have hGm0 : grownCap w (n + m) c 88 ≤ 9223372036854775807 := by
    have := grownCap_le_maxLen w (n + m) c 88 (by unfold maxLen; omega)
    unfold maxLen at this
    omega
  obtain ⟨G, hG⟩ : ∃ G, G = grownCap w (n + m) c 88 := ⟨_, rfl⟩
  obtain ⟨ROW, hROW⟩ : ∃ ROW : Array Value, ROW = (cs.take (i * 4)).toArray ++ Builtin.zeroCells z.cells (n + m - i) ++ Builtin.zeroCells z.cells (G - (n + m)) := ⟨_, rfl⟩
  rw [← hG] at hrz hGn0 hGm0 ⊢
  rw [← hROW] at hrz ⊢
  have hRl : (n + m) * 4 ≤ ROW.size := by
    rw [hROW]
    simp only [Array.size_append, List.size_toArray, List.length_take, size_zeroCells, hzc]
    omega
  obtain ⟨W1, hW1⟩ : ∃ W1, W1 = w.drew.alloc (.cells ROW 88) := ⟨_, rfl⟩
  rw [← hW1] at hrz
  have hN : ∀ j, j < (n + m) * 4 → (W1.cell? ⟨w.heap.size, j, none⟩).isSome = true := fun j hj => by
    rw [hW1, World.cell?_alloc_at (w := w.drew) ROW _ w.heap.size j rfl, Array.getElem?_eq_getElem (by omega)]; rfl
  have hNf : ∀ j, W1.frozen? ⟨w.heap.size, j, none⟩ = false := fun j => by rw [hW1]; exact World.frozen?_alloc_at (w := w.drew) ROW _ w.heap.size j rfl
  have hOb : ∀ j v, w.cell? ⟨b, j, none⟩ = some v → W1.cell? ⟨b, j, none⟩ = some v := fun j v h => by rw [hW1, World.cell?_alloc_past (w := w.drew) _ b j hbw]; exact h
  have hOv : ∀ j v, w.cell? ⟨vb, j, none⟩ = some v → W1.cell? ⟨vb, j, none⟩ = some v := fun j v h => by rw [hW1, World.cell?_alloc_past (w := w.drew) _ vb j hvw]; exact h
  have hcpA : ∀ (W : World), (∀ x, W.cell? x = W1.cell? x) → (∀ x, W.frozen? x = W1.frozen? x) → ∀ ty dc, (Builtin.copy_ #[155, 155] ty #[.slice (some ⟨w.heap.size, i * 4, none⟩) (n + m - i) dc, .slice (some ⟨vb, 0, none⟩) m vc]).run Tryz.prog W = .ok (goInt m) (W.setCells w.heap.size (i * 4) vs) := fun W hWc hWf ty dc =>
    run_copy_cellsK W _ _ ty 88 w.heap.size (i * 4) (n + m - i) dc ⟨vb, 0, none⟩ m vc m 4 vs Tryz.underlying155 hsz (by simp only [Nat.min_def]; split <;> omega) hvl
      (fun j v hj => by rw [Addr.add_lit, Nat.zero_add, hWc]; exact hOv _ v (hvs j v hj))
      (fun j hj => by rw [hWc]; exact hN _ (by rw [hvl] at hj; omega)) (fun j hj => by rw [hWf]; exact hNf _) h1v
  have hGi : ¬ (G = i) := by omega
  have hGim : ¬ (G = i + m) := by omega
  have hci : ¬ (c = i) := by omega
  have hbN : b ≠ w.heap.size := by omega
  have hdl : (cs.drop (i * 4)).length = (n - i) * 4 := by rw [List.length_drop, hcl, Nat.sub_mul]
  have hcpB : ∀ (W : World), (∀ x, W.cell? x = (W1.setCells w.heap.size (i * 4) vs).cell? x) → (∀ x, W.frozen? x = (W1.setCells w.heap.size (i * 4) vs).frozen? x) → ∀ ty dc sc, (Builtin.copy_ #[155, 155] ty #[.slice (some ⟨w.heap.size, (i + m) * 4, none⟩) (n + m - (i + m)) dc, .slice (some ⟨b, i * 4, none⟩) (n - i) sc]).run Tryz.prog W = .ok (goInt ((n - i : Nat) : Int)) (W.setCells w.heap.size ((i + m) * 4) (cs.drop (i * 4))) := fun W hWc hWf ty dc sc =>
    run_copy_cellsK W _ _ ty 88 w.heap.size ((i + m) * 4) (n + m - (i + m)) dc ⟨b, i * 4, none⟩ (n - i) sc (n - i) 4 (cs.drop (i * 4)) Tryz.underlying155 hsz (by simp only [Nat.min_def]; split <;> omega) hdl
      (fun j v hj => by
        rw [Addr.add_lit, hWc, World.cell?_setCells_out _ _ _ _ _ (fun h _ => absurd h hbN)]
        exact hOb _ v (hcs (i * 4 + j) v (by rwa [List.getElem?_drop] at hj)))
      (fun j hj => by rw [hWc]; exact isSome_setCellsJ _ vs (i * 4) _ (fun t ht => hN _ (by rw [hvl] at ht; omega)) _ (hN _ (by rw [hdl] at hj; omega)))
      (fun j hj => by rw [hWf, World.frozen?_setCells]; exact hNf _) (fun v hv => h1c v (List.mem_of_mem_drop hv))
  subst hW1
  have hE1 : ∀ x, ((w.alloc (.cells ROW 88)).drew).cell? x = (w.drew.alloc (.cells ROW 88)).cell? x := fun x => rfl
  have hE2 : ∀ x, ((w.alloc (.cells ROW 88)).drew).frozen? x = (w.drew.alloc (.cells ROW 88)).frozen? x := fun x => rfl
  have hF1 : ∀ x, (((w.alloc (.cells ROW 88)).drew.setCells w.heap.size (i * 4) vs).drew).cell? x = ((w.drew.alloc (.cells ROW 88)).setCells w.heap.size (i * 4) vs).cell? x := fun x => rfl
  have hF2 : ∀ x, (((w.alloc (.cells ROW 88)).drew.setCells w.heap.size (i * 4) vs).drew).frozen? x = ((w.drew.alloc (.cells ROW 88)).setCells w.heap.size (i * 4) vs).frozen? x := fun x => rfl
  have hw1 : IntKind.i64.wrap ((i : Int) + (m : Int)) = (i : Int) + (m : Int) := by rw [IntKind.wrap_i64]; omega
  have hw2 : IntKind.i64.wrap ((n : Int) + (m : Int)) = (n : Int) + (m : Int) := by rw [IntKind.wrap_i64]; omega
  have hw3 : IntKind.i64.wrap ((n : Int) + (m : Int) - (i : Int)) = (n : Int) + (m : Int) - (i : Int) := by rw [IntKind.wrap_i64]; omega
  have hb1 : (0 : Int) ≤ (i : Int) + (m : Int) := by omega
  have hin : i ≤ n := by omega
  have htn : ((i : Int) + (m : Int)).toNat = i + m := by omega
  have hb3 : (i : Int) ≤ (n : Int) := by omega
  clear hkk hik hold hROW hG hRl
  go_enter Tryz.func456, Tryz.ntmps456
  go_wp2_with (first
    | (at_builtin; refine Lib.wpList_append_run _ rfl _ _ _ _ rfl _ _ rfl rfl _ _ (hrz _) ?_)
    | (at_builtin; refine wpList_copy_runJ _ rfl _ _ 155 155 rfl _ _ rfl rfl (hcpA _ hE1 hE2 _ _) ?_)
    | (at_builtin; refine wpList_copy_runJ _ rfl _ _ 155 155 rfl _ _ rfl rfl (hcpB _ (fun _ => rfl) (fun _ => rfl) _ _ _) ?_))
  go_region_law_o (refine step_copy_runJ rfl _ _ 155 155 rfl (.slice (some ⟨w.heap.size, (i + m) * 4, none⟩) (n + m - (i + m)) (G - (i + m))) (.slice (some ⟨b, i * 4, none⟩) (n - i) (c - i)) (by simp [Act.eval, Act.put]) (by simp [Act.eval, Act.put]) (hcpB _ hF1 hF2 3 (G - (i + m)) (c - i)) ?_)
  go_wp2
  go_ret
  exact ⟨rfl, rfl⟩
end Go.Proofs
