/- Parts of an abstract machine and its proofs: MaL2. -/
import Derived.Test.YtcgejflifhjajaaGreatDoorMaL1
import Derived.Test.YtcgejflifhjajaaGreatDoorAmSim
import Derived.Test.YtcgejflifhjajaaGreatDoorAmF2
import Derived.KernelRfl
import Derived.Test.YtcgejflifhjajaaGreatDoorProg
import Derived.Lib.Bytealg
import Derived.Lib.Index

set_option linter.unusedSimpArgs false
set_option linter.unusedVariables false
namespace Go.Am
section
variable {P : Program} {ρ : Nat → FuncId} {G : Gho} {pw : Pw} {base : Nat} {h h' : H} {w : World} {v : AV}
theorem rows_cells (r : Rel ρ pw base G h w) {b : AV} {vb : Value} (hb : RV ρ G b vb) (hns : ∀ s, b ≠ .str s) {y : List AV} {ys : List (List AV)} (hr : rowsOf h b = some (y :: ys)) :
    ∃ (a : Addr) (c : Nat) (news : List Value), vb = .slice (some a) (y :: ys).length c ∧ (∀ x ∈ y :: ys, x.length = y.length) ∧ 1 ≤ y.length ∧ RVCL ρ G (y :: ys).flatten news ∧ ∀ j u, news[j]? = some u → w.cell? (a.add j) = some u := by
  unfold rowsOf at hr
  split at hr
  · cases hr
    cases hb with | cell _ _ hb => cases hb with
      | vs f xs k b' off c cells h1 h2 h3 h4 h5 h6 h7 =>
        have hy := h3 y (by simp)
        obtain ⟨c', e', fr, h8, h9⟩ := r.imm _ _ h4
        refine ⟨⟨b', off, none⟩, c, _, rfl, fun x hx => by rw [h3 x hx, hy], by omega, h5, fun j u hj => ?_⟩
        rw [add_plain, cell_at h8, ← Array.getElem?_toList]
        rw [List.getElem?_take] at hj
        split at hj
        · rw [List.getElem?_drop, ← h9, List.getElem?_take] at hj
          split at hj
          · exact hj
          · cases hj
        · cases hj
  · split at hr
    · rename_i o k off len _x k' rows ho
      split at hr
      · rename_i hle
        simp only [Option.some.injEq] at hr
        cases hb with | cell _ _ hb => cases hb with
          | ref o off len b' k C hblk hC =>
            obtain ⟨b2, k2, C2, h1, h2⟩ := r.objs o _ ho
            rw [hblk] at h1; cases h1
            obtain ⟨z, hz⟩ := h2.isSome
            rw [hz] at h2
            cases z with
            | cells c e fr =>
              obtain ⟨e1, e2, e3, e4, e5, e6, e7⟩ := h2
              subst e1
              have hk : ∀ x ∈ y :: ys, x.length = k' := by
                intro x hx; rw [← hr] at hx
                exact e5 x (List.mem_of_mem_drop (List.mem_of_mem_take hx))
              have hy := hk y (by simp)
              have hl : (y :: ys).length = len := by rw [← hr]; simp; omega
              have hm : (off + len) * k' ≤ rows.length * k' := Nat.mul_le_mul_right _ hle
              have hm2 : rows.length * k' ≤ C * k' := Nat.mul_le_mul_right _ e4
              rw [Nat.add_mul] at hm
              refine ⟨⟨b', off * k', none⟩, C - off, (c.toList.drop (off * k')).take (len * k'), by rw [hl], fun x hx => by rw [hk x hx, hy], by omega, ?_, fun j u hj => ?_⟩
              · rw [← hr, flat_take (fun x hx => e5 x (List.mem_of_mem_drop hx)), flat_drop e5]
                have := (e6.drop (off * k')).take (len * k')
                rwa [List.drop_take, List.take_take, Nat.min_eq_left (by omega)] at this
              · rw [add_plain, cell_at hz, ← Array.getElem?_toList]
                rw [List.getElem?_take] at hj
                split at hj
                · rw [List.getElem?_drop] at hj; exact hj
                · cases hj
            | _ => exact h2.elim
      · cases hr
    · cases hr
  · rename_i s
    exact absurd rfl (hns s)
  · cases hr
theorem ownsRow_some {w : World} {base : Nat} {e : TypeId} {k n : Nat} {v : Value} {xs : List Value} (hn : 1 ≤ n) (h : w.ownsRow base e k v n xs) :
    ∃ g cap cur, v = .slice (some ⟨g, 0, none⟩) n cap ∧ base ≤ g ∧ w.heap[g]? = some (.cells cur e (0, 0)) ∧ n ≤ cap ∧ cur.size = cap * k ∧ cur.toList.take (n * k) = xs := by
  rcases h.2 with ⟨_, h2⟩ | ⟨g, cap, cur, h1, h2, h3, h4, _, h5, h6⟩
  · omega
  · exact ⟨g, cap, cur, h1, h2, h3, h4, h5, h6⟩
theorem rows_empty {b : AV} {vb : Value} (hb : RV ρ G b vb) (hns : ∀ s, b ≠ .str s) (hr : rowsOf h b = some []) : ∃ a c, vb = .slice a 0 c := by
  unfold rowsOf at hr
  split at hr
  · cases hr
    cases hb with | cell _ _ hb => cases hb with
      | vsE f a c _ => exact ⟨a, c, rfl⟩
      | vs f xs k b' off c cells h1 => exact absurd rfl h1
  · split at hr
    · rename_i o k off len _x k' rows ho
      split at hr
      · rename_i hle
        simp only [Option.some.injEq] at hr
        cases hb with | cell _ _ hb => cases hb with
          | ref o off len b' k C hblk hC =>
            have hl : len = 0 := by
              have := congrArg List.length hr
              simp at this
              omega
            subst hl
            exact ⟨_, _, rfl⟩
      · cases hr
    · cases hr
  · rename_i s
    exact absurd rfl (hns s)
  · cases hr
theorem own_back (r : Rel ρ pw base G h w) {w' : World} (hb : Go.RowKit.Below w.heap.size w w') {k : Nat} {el : TypeId} {v' : Value} {rows : List (List AV)} {news : List Value} (hk : 1 ≤ k) (hn : 1 ≤ rows.length) (hrk : ∀ x ∈ rows, x.length = k)
    (hv : RVCL ρ G rows.flatten news) (ho : w'.ownsRow w.heap.size el k v' rows.length news) : Back ρ pw base G h (.ref h.next k 0 rows.length) (h.new (.arr k rows)) (.returned v') w' := by
  obtain ⟨g, cap, cur, rfl, h2, h3, h4, h5, h6⟩ := ownsRow_some hn ho
  have r' : Rel ρ pw base G h w' := r.kept (fun b x hx => by rw [hb.block b (heap_lt hx)]; exact hx) (by simp only [World.io, hb.os, hb.output])
  have hfree : ∀ o (x : Obj) k C, h.get o = some x → G.blk o ≠ some (g, k, C) := by
    intro o x k C _ h7
    obtain ⟨y, hy⟩ := r.blkH o g k C h7
    have := heap_lt hy; omega
  have hle : G.le (G.add h.next (g, k, cap)) := Gho.le_add r.blk_next
  have r2 := r'.adopt (w' := w') (.arr k rows) g k cap (.cells cur el (0, 0)) hfree (r.imm_size h2) (r.pw_size h2) (fun a => by
    by_cases hag : a = g
    · rw [if_pos hag, hag]; exact h3
    · rw [if_neg hag]) ⟨rfl, hk, h5, h4, hrk, by rw [h6]; exact hv.mono hle, .zero _⟩
  refine ⟨_, _, Ext.add pw _ r.blk_next (r.pw_size h2), rfl, .cell _ _ ?_, r2⟩
  have := RVC.ref (ρ := ρ) (G := G.add h.next (g, k, cap)) h.next 0 rows.length g k cap (by simp [Gho.add]) (by omega)
  simpa using this
theorem spec36 : SpecOk Go.Proofs.Tryz.prog id 33 (sCl 2) := by
  intro args base h v h' hs G pw w vals ha r
  unfold sCl at hs
  split at hs
  · cases hs
  · rename_i b hb
    cases ha with | cons _ vb _ us hu hus =>
    cases hus
    split at hs
    · rename_i hrw
      cases hs
      obtain ⟨a, c, rfl⟩ := rows_empty hu (fun s e => hb s (by rw [e])) hrw
      cases a with
      | none =>
        refine .inl ⟨by kernel_rfl, (Go.Proofs.cloneNil36 0 c w).mono fun e w' ⟨he, hw⟩ => ?_⟩
        rw [he, hw]
        exact ⟨G, _, Ext.refl pw G (Nat.le_refl _), rfl, .cell _ _ (.vsE true _ _ (fun _ => rfl)), r⟩
      | some a =>
        refine .inl ⟨by kernel_rfl, (Go.Proofs.clone36E a c w).mono fun e w' ⟨b', he, hbl⟩ => ?_⟩
        rw [he]
        exact ⟨G, _, Ext.refl pw G (Nat.le_refl _), rfl, .cell _ _ (.vsE true _ _ (fun _ => rfl)), r.kept (fun b x hx => by rw [hbl.block b (heap_lt hx)]; exact hx) (by simp only [World.io, hbl.os, hbl.output])⟩
    · rename_i y ys hrw
      split at hs
      · rename_i hc
        cases hs
        obtain ⟨a, c, news, rfl, h2, h3, h4, h5⟩ := rows_cells r hu (fun s e => hb s (by rw [e])) hrw
        have hl := h4.length_eq
        rw [flat_length (k := 2) (fun x hx => by rw [h2 x hx, hc.1])] at hl
        refine .inl ⟨by kernel_rfl, (Go.Proofs.clone36 a _ c news w hl.symm h5 h4.one (by have := hc.2; omega)).mono fun e w' ⟨v', he, ho, hbl⟩ => ?_⟩
        rw [he]
        exact own_back r hbl (by omega) (by simp) (fun x hx => by rw [h2 x hx, hc.1]) h4 ho
      · cases hs
    · cases hs
  · cases hs
theorem spec341 : SpecOk Go.Proofs.Tryz.prog id 369 (sCl 4) := by
  intro args base h v h' hs G pw w vals ha r
  unfold sCl at hs
  split at hs
  · cases hs
  · rename_i b hb
    cases ha with | cons _ vb _ us hu hus =>
    cases hus
    split at hs
    · rename_i hrw
      cases hs
      obtain ⟨a, c, rfl⟩ := rows_empty hu (fun s e => hb s (by rw [e])) hrw
      cases a with
      | none =>
        refine .inl ⟨by kernel_rfl, (Go.Proofs.cloneNil341 0 c w).mono fun e w' ⟨he, hw⟩ => ?_⟩
        rw [he, hw]
        exact ⟨G, _, Ext.refl pw G (Nat.le_refl _), rfl, .cell _ _ (.vsE true _ _ (fun _ => rfl)), r⟩
      | some a =>
        refine .inl ⟨by kernel_rfl, (Go.Proofs.clone341E a c w).mono fun e w' ⟨b', he, hbl⟩ => ?_⟩
        rw [he]
        exact ⟨G, _, Ext.refl pw G (Nat.le_refl _), rfl, .cell _ _ (.vsE true _ _ (fun _ => rfl)), r.kept (fun b x hx => by rw [hbl.block b (heap_lt hx)]; exact hx) (by simp only [World.io, hbl.os, hbl.output])⟩
    · rename_i y ys hrw
      split at hs
      · rename_i hc
        cases hs
        obtain ⟨a, c, news, rfl, h2, h3, h4, h5⟩ := rows_cells r hu (fun s e => hb s (by rw [e])) hrw
        have hl := h4.length_eq
        rw [flat_length (k := 4) (fun x hx => by rw [h2 x hx, hc.1])] at hl
        refine .inl ⟨by kernel_rfl, (Go.Proofs.clone341 a _ c news w hl.symm h5 h4.one (by have := hc.2; omega)).mono fun e w' ⟨v', he, ho, hbl⟩ => ?_⟩
        rw [he]
        exact own_back r hbl (by omega) (by simp) (fun x hx => by rw [h2 x hx, hc.1]) h4 ho
      · cases hs
    · cases hs
  · cases hs
end
end Go.Am
namespace Go.Am
open Go.RowKit
theorem setCells_heap (b : Nat) (el : TypeId) (fr : Nat × Nat) : ∀ (vs : List Value) (o : Nat) (w : World) (c : Array Value), w.heap[b]? = some (.cells c el fr) → o + vs.length ≤ c.size →
    ∀ a, (w.setCells b o vs).heap[a]? = if a = b then some (.cells (c.toList.take o ++ vs ++ c.toList.drop (o + vs.length)).toArray el fr) else w.heap[a]?
  | [], o, w, c, hb, hl, a => by
    simp only [World.setCells, List.append_nil, List.length_nil, Nat.add_zero, List.take_append_drop]
    by_cases h : a = b
    · rw [if_pos h, h, hb]
    · rw [if_neg h]
  | v :: r, o, w, c, hb, hl, a => by
    simp only [List.length_cons] at hl
    have h1 : ∀ a, (w.setCell ⟨b, o, none⟩ v).heap[a]? = if a = b then some (.cells (c.setIfInBounds o v) el fr) else w.heap[a]? := by
      intro a
      simp only [World.setCell, Array.getElem?_modify]
      by_cases h : a = b
      · subst h; simp [hb]
      · rw [if_neg h, if_neg (fun e => h e.symm)]
    have ih := setCells_heap b el fr r (o + 1) (w.setCell ⟨b, o, none⟩ v) (c.setIfInBounds o v) (by rw [h1, if_pos rfl]) (by simp; omega) a
    rw [World.setCells, ih]
    by_cases h : a = b
    · rw [if_pos h, if_pos h]
      congr 2
      apply Array.ext'
      simp only [List.toList_toArray, Array.toList_setIfInBounds]
      apply List.ext_getElem?
      intro k
      have ho : o < c.toList.length := by simp; omega
      have hcs : c.toList.length = c.size := by simp
      by_cases h3 : k < o
      · rw [List.append_assoc, List.append_assoc, List.getElem?_append_left (by simp; omega), List.getElem?_append_left (by simp; omega), List.getElem?_take, List.getElem?_take, if_pos (by omega), if_pos h3, List.getElem?_set_ne (by omega)]
      · by_cases h4 : k = o
        · subst h4
          rw [List.append_assoc, List.append_assoc, List.getElem?_append_left (by simp; omega), List.getElem?_take, if_pos (by omega), List.getElem?_set_self ho, List.getElem?_append_right (by rw [List.length_take]; omega), List.length_take, Nat.min_eq_left (by omega), Nat.sub_self]
          simp
        · rw [List.append_assoc, List.append_assoc, List.getElem?_append_right (l₁ := List.take (o + 1) (c.toList.set o v)) (by rw [List.length_take]; omega), List.getElem?_append_right (l₁ := List.take o c.toList) (by rw [List.length_take]; omega)]
          simp only [List.length_take, List.length_set]
          rw [Nat.min_eq_left (by omega), Nat.min_eq_left (by omega)]
          obtain ⟨t, ht⟩ : ∃ t, k - o = t + 1 := ⟨k - o - 1, by omega⟩
          rw [ht, show k - (o + 1) = t by omega, List.cons_append, List.getElem?_cons_succ]
          have : List.drop (o + 1 + r.length) (c.toList.set o v) = List.drop (o + (v :: r).length) c.toList := by
            rw [List.length_cons, List.drop_set_of_lt (by omega), show o + 1 + r.length = o + (r.length + 1) by omega]
          rw [this]
    · rw [if_neg h, if_neg h, h1, if_neg h]
section
variable {ρ : Nat → FuncId} {G : Gho} {pw : Pw} {base : Nat} {h h' : H} {w : World}
theorem del_back (r : Rel ρ pw base G h w) {o k C b : Nat} {rows : List (List AV)} {c c' : Array Value} {el : TypeId} {fr : Nat × Nat} {i j len : Nat} (ho : h.get o = some (.arr k rows)) (hbase : base ≤ o) (hblk : G.blk o = some (b, k, C))
    (hz : w.heap[b]? = some (.cells c el fr)) (hor : ObjRel ρ G (.arr k rows) k C (some (.cells c el fr))) (hij : i ≤ j) (hj : j ≤ len) (hlen : len ≤ rows.length) {w' : World}
    (hw : ∀ a, w'.heap[a]? = if a = b then some (.cells c' el fr) else w.heap[a]?) (hio : World.io w' = World.io w) (hs : c'.size = c.size)
    (ht : c'.toList.take ((i + (len - j)) * k) = c.toList.take (i * k) ++ (c.toList.drop (j * k)).take ((len - j) * k)) :
    Back ρ pw base G h (.ref h.next k 0 (i + (len - j))) ((h.kill o).new (.arr k (rows.take i ++ (rows.take len).drop j))) (.returned (.slice (some ⟨b, 0, none⟩) (i + (len - j)) C)) w' := by
  obtain ⟨_, e2, e3, e4, e5, e6, e7⟩ := hor
  have hkill := r.kill o
  have hfree : ∀ o' (x : Obj) k' C', (h.kill o).get o' = some x → G.blk o' ≠ some (b, k', C') := by
    intro o' x k' C' h1 h2
    rw [H.get_kill] at h1
    by_cases q : o' = o
    · rw [if_pos q] at h1; cases h1
    · rw [if_neg q] at h1
      exact q (r.inj o' o x _ b k' C' k C h1 ho h2 hblk)
  have hpw := r.pwd o _ b k C hbase ho hblk
  have hl : (rows.take i ++ (rows.take len).drop j).length = i + (len - j) := by simp; omega
  have hle : G.le (G.add (h.kill o).next (b, k, C)) := Gho.le_add hkill.blk_next
  have m1 : len * k ≤ rows.length * k := Nat.mul_le_mul_right _ hlen
  have m2 : j * k ≤ len * k := Nat.mul_le_mul_right _ hj
  have m3 : i * k ≤ j * k := Nat.mul_le_mul_right _ hij
  have m4 : rows.length * k ≤ C * k := Nat.mul_le_mul_right _ e4
  have hrv : RVCL ρ G (rows.take i ++ (rows.take len).drop j).flatten (c'.toList.take ((i + (len - j)) * k)) := by
    rw [ht, List.flatten_append, flat_take e5, flat_drop (fun x hx => e5 x (List.mem_of_mem_take hx)), flat_take e5]
    have a1 := e6.take (i * k)
    rw [List.take_take, Nat.min_eq_left (by omega)] at a1
    have a2 := (e6.take (len * k)).drop (j * k)
    rw [List.take_take, Nat.min_eq_left (by omega), show List.drop (j * k) (List.take (len * k) c.toList) = List.take ((len - j) * k) (List.drop (j * k) c.toList) by rw [List.drop_take, Nat.sub_mul]] at a2
    exact a1.append a2
  have r2 := hkill.adopt (w' := w') (.arr k (rows.take i ++ (rows.take len).drop j)) b k C (.cells c' el fr) hfree (r.disj o _ b k C ho hblk) hpw hw
    ⟨rfl, e2, by rw [hs]; exact e3, by rw [hl]; omega, fun x hx => by
      rcases List.mem_append.1 hx with hx | hx
      · exact e5 x (List.mem_of_mem_take hx)
      · exact e5 x (List.mem_of_mem_take (List.mem_of_mem_drop hx)), by rw [hl]; exact hrv.mono hle, by rw [hs]; exact e7⟩ hio
  refine ⟨_, _, (let q := Ext.add (h := h.kill o) pw (.arr k (rows.take i ++ (rows.take len).drop j)) (z := (b, k, C)) hkill.blk_next hpw; ⟨q.le, q.imm, q.blk, q.next, q.fr⟩), rfl, .cell _ _ ?_, r2⟩
  have := RVC.ref (ρ := ρ) (G := G.add h.next (b, k, C)) h.next 0 (i + (len - j)) b k C (by simp [Gho.add]) (by omega)
  simpa using this
end
theorem setCells_io (b : Nat) : ∀ (vs : List Value) (o : Nat) (w : World), World.io (w.setCells b o vs) = World.io w
  | [], _, _ => rfl
  | v :: r, o, w => by rw [World.setCells, setCells_io b r]; rfl
theorem spec339 : SpecOk Go.Proofs.Tryz.prog id 367 (sDel 4) := by
  intro args base h v h' hs G pw w vals ha r
  unfold sDel at hs
  split at hs
  · rename_i o k' len i j
    split at hs
    · rename_i k'' rows ho
      split at hs
      · rename_i hc
        obtain ⟨rfl, rfl, hbase, hij, hj, hlen⟩ := hc
        cases hs
        cases ha with | cons _ v1 _ us hu hus =>
        cases hus with | cons _ v2 _ us2 hu2 hus2 =>
        cases hus2 with | cons _ v3 _ us3 hu3 hus3 =>
        cases hus3
        cases hu2.ofInt
        cases hu3.ofInt
        cases hu with | cell _ _ hu => cases hu with
          | ref _ _ _ b _ C hblk hC =>
            obtain ⟨b2, k2, C2, g1, g2⟩ := r.objs o _ ho
            rw [hblk] at g1; cases g1
            obtain ⟨z, hz⟩ := g2.isSome
            rw [hz] at g2
            cases z with
            | cells c el fr =>
              have hor := g2
              obtain ⟨_, e2, e3, e4, e5, e6, e7⟩ := g2
              have m1 : len * 4 ≤ rows.length * 4 := Nat.mul_le_mul_right _ hlen
              rw [Nat.zero_mul, Nat.sub_zero]
              by_cases heq : i = j
              · subst heq
                refine .inl ⟨by kernel_rfl, (Go.Proofs.delete339Same b i len C w hj (by omega)).mono fun e w' ⟨he, hw⟩ => ?_⟩
                rw [he, hw]
                have hl : i + (len - i) = len := by omega
                have := del_back (w' := w) (c' := c) (i := i) (j := i) (len := len) r ho hbase hblk hz hor (Nat.le_refl _) hj hlen (fun a => by
                  by_cases q : a = b
                  · rw [if_pos q, q, hz]
                  · rw [if_neg q]) rfl rfl (by
                  rw [hl]
                  have : len * 4 = i * 4 + (len - i) * 4 := by omega
                  rw [this, List.take_add])
                rw [hl] at this ⊢
                exact this
              · have hlt : i < j := by omega
                obtain ⟨news, hnews⟩ : ∃ news, news = (c.toList.drop (j * 4)).take ((len - j) * 4) := ⟨_, rfl⟩
                have hcs : c.toList.length = c.size := by simp
                have hnl : news.length = (len - j) * 4 := by rw [hnews, List.length_take, List.length_drop]; omega
                obtain ⟨zv, hzv, hzl, hz1⟩ : ∃ zv : Value, (∀ w, (zeroValue 88).run Go.Proofs.Tryz.prog w = .ok zv w) ∧ (∀ n, (Builtin.zeroCells zv.cells n).toList.length = n * 4) ∧ ∀ n, ∀ v ∈ (Builtin.zeroCells zv.cells n).toList, v.oneCell' = true := by
                  refine ⟨_, Go.Proofs.Tryz.zeroValue88, fun n => by simp [Builtin.zeroCells, Value.cells], fun n v hv => ?_⟩
                  simp only [Builtin.zeroCells, Value.cells, Array.toList_map, List.mem_map] at hv
                  obtain ⟨t, _, rfl⟩ := hv
                  have : t % 4 = 0 ∨ t % 4 = 1 ∨ t % 4 = 2 ∨ t % 4 = 3 := by omega
                  show Value.oneCell' (#[_, _, _, _][t % 4]!) = true
                  rcases this with q | q | q | q <;> rw [q] <;> rfl
                have h1 : ∀ v ∈ c.toList.take (len * 4), v.oneCell' = true := by
                  have := (e6.take (len * 4)).one
                  rwa [List.take_take, Nat.min_eq_left m1] at this
                refine .inl ⟨by kernel_rfl, (Go.Proofs.delete339 b i j len C c el fr w zv hzv hz e7 e3 (by omega) hlt hj h1 _ rfl (hzl _) (hz1 _)).mono fun e w' ⟨he, hw⟩ => ?_⟩
                rw [he, hw, ← hnews]
                have s1 := setCells_heap b el fr news (0 + i * 4) w.drew c hz (by omega)
                have q1 : (c.toList.take (0 + i * 4) ++ news ++ c.toList.drop (0 + i * 4 + news.length)).toArray.size = c.size := by
                  rw [List.size_toArray]; simp only [List.length_append, List.length_take, List.length_drop]; omega
                have s2 := setCells_heap b el fr (Builtin.zeroCells zv.cells (len - (i + (len - j)))).toList ((i + (len - j)) * 4) (w.drew.setCells b (0 + i * 4) news) _ (by rw [s1, if_pos rfl]) (by rw [q1, hzl]; omega)
                refine del_back r ho hbase hblk hz hor hij hj hlen (fun a => ?_) ?_ ?_ ?_ (c' := ?_)
                · exact (((c.toList.take (0 + i * 4) ++ news ++ c.toList.drop (0 + i * 4 + news.length)).toArray.toList.take ((i + (len - j)) * 4)) ++ (Builtin.zeroCells zv.cells (len - (i + (len - j)))).toList ++ (c.toList.take (0 + i * 4) ++ news ++ c.toList.drop (0 + i * 4 + news.length)).toArray.toList.drop ((i + (len - j)) * 4 + (Builtin.zeroCells zv.cells (len - (i + (len - j)))).toList.length)).toArray
                · rw [s2]
                  by_cases q : a = b
                  · rw [if_pos q, if_pos q]
                  · rw [if_neg q, if_neg q, s1, if_neg q]; rfl
                · rw [setCells_io, setCells_io]; rfl
                · rw [List.size_toArray, List.length_append, List.length_append, List.length_take, List.length_drop, hzl]
                  have q2 : (c.toList.take (0 + i * 4) ++ news ++ c.toList.drop (0 + i * 4 + news.length)).toArray.toList.length = c.size := by rw [← q1]; simp
                  rw [q2]; omega
                · rw [List.toList_toArray, List.toList_toArray, List.append_assoc, List.take_left' (by
                    rw [List.length_take]
                    simp only [List.length_append, List.length_take, List.length_drop]; omega), ← hnews, List.append_assoc, List.take_append, List.take_of_length_le (by rw [List.length_take]; omega), List.length_take, Nat.zero_add, List.take_left' (by omega)]
            | _ => exact g2.elim
      · cases hs
    · cases hs
  · cases hs
theorem spec397 : SpecOk Go.Proofs.Tryz.prog id 412 (sDel 4) := by
  intro args base h v h' hs G pw w vals ha r
  unfold sDel at hs
  split at hs
  · rename_i o k' len i j
    split at hs
    · rename_i k'' rows ho
      split at hs
      · rename_i hc
        obtain ⟨rfl, rfl, hbase, hij, hj, hlen⟩ := hc
        cases hs
        cases ha with | cons _ v1 _ us hu hus =>
        cases hus with | cons _ v2 _ us2 hu2 hus2 =>
        cases hus2 with | cons _ v3 _ us3 hu3 hus3 =>
        cases hus3
        cases hu2.ofInt
        cases hu3.ofInt
        cases hu with | cell _ _ hu => cases hu with
          | ref _ _ _ b _ C hblk hC =>
            obtain ⟨b2, k2, C2, g1, g2⟩ := r.objs o _ ho
            rw [hblk] at g1; cases g1
            obtain ⟨z, hz⟩ := g2.isSome
            rw [hz] at g2
            cases z with
            | cells c el fr =>
              have hor := g2
              obtain ⟨_, e2, e3, e4, e5, e6, e7⟩ := g2
              have m1 : len * 4 ≤ rows.length * 4 := Nat.mul_le_mul_right _ hlen
              rw [Nat.zero_mul, Nat.sub_zero]
              by_cases heq : i = j
              · subst heq
                refine .inl ⟨by kernel_rfl, (Go.Proofs.delete397Same b i len C w hj (by omega)).mono fun e w' ⟨he, hw⟩ => ?_⟩
                rw [he, hw]
                have hl : i + (len - i) = len := by omega
                have := del_back (w' := w) (c' := c) (i := i) (j := i) (len := len) r ho hbase hblk hz hor (Nat.le_refl _) hj hlen (fun a => by
                  by_cases q : a = b
                  · rw [if_pos q, q, hz]
                  · rw [if_neg q]) rfl rfl (by
                  rw [hl]
                  have : len * 4 = i * 4 + (len - i) * 4 := by omega
                  rw [this, List.take_add])
                rw [hl] at this ⊢
                exact this
              · have hlt : i < j := by omega
                obtain ⟨news, hnews⟩ : ∃ news, news = (c.toList.drop (j * 4)).take ((len - j) * 4) := ⟨_, rfl⟩
                have hcs : c.toList.length = c.size := by simp
                have hnl : news.length = (len - j) * 4 := by rw [hnews, List.length_take, List.length_drop]; omega
                obtain ⟨zv, hzv, hzl, hz1⟩ : ∃ zv : Value, (∀ w, (zeroValue 130).run Go.Proofs.Tryz.prog w = .ok zv w) ∧ (∀ n, (Builtin.zeroCells zv.cells n).toList.length = n * 4) ∧ ∀ n, ∀ v ∈ (Builtin.zeroCells zv.cells n).toList, v.oneCell' = true := by
                  refine ⟨_, Go.Proofs.Tryz.zeroValue130, fun n => by simp [Builtin.zeroCells, Value.cells], fun n v hv => ?_⟩
                  simp only [Builtin.zeroCells, Value.cells, Array.toList_map, List.mem_map] at hv
                  obtain ⟨t, _, rfl⟩ := hv
                  have : t % 4 = 0 ∨ t % 4 = 1 ∨ t % 4 = 2 ∨ t % 4 = 3 := by omega
                  show Value.oneCell' (#[_, _, _, _][t % 4]!) = true
                  rcases this with q | q | q | q <;> rw [q] <;> rfl
                have h1 : ∀ v ∈ c.toList.take (len * 4), v.oneCell' = true := by
                  have := (e6.take (len * 4)).one
                  rwa [List.take_take, Nat.min_eq_left m1] at this
                refine .inl ⟨by kernel_rfl, (Go.Proofs.delete397 b i j len C c el fr w zv hzv hz e7 e3 (by omega) hlt hj h1 _ rfl (hzl _) (hz1 _)).mono fun e w' ⟨he, hw⟩ => ?_⟩
                rw [he, hw, ← hnews]
                have s1 := setCells_heap b el fr news (0 + i * 4) w.drew c hz (by omega)
                have q1 : (c.toList.take (0 + i * 4) ++ news ++ c.toList.drop (0 + i * 4 + news.length)).toArray.size = c.size := by
                  rw [List.size_toArray]; simp only [List.length_append, List.length_take, List.length_drop]; omega
                have s2 := setCells_heap b el fr (Builtin.zeroCells zv.cells (len - (i + (len - j)))).toList ((i + (len - j)) * 4) (w.drew.setCells b (0 + i * 4) news) _ (by rw [s1, if_pos rfl]) (by rw [q1, hzl]; omega)
                refine del_back r ho hbase hblk hz hor hij hj hlen (fun a => ?_) ?_ ?_ ?_ (c' := ?_)
                · exact (((c.toList.take (0 + i * 4) ++ news ++ c.toList.drop (0 + i * 4 + news.length)).toArray.toList.take ((i + (len - j)) * 4)) ++ (Builtin.zeroCells zv.cells (len - (i + (len - j)))).toList ++ (c.toList.take (0 + i * 4) ++ news ++ c.toList.drop (0 + i * 4 + news.length)).toArray.toList.drop ((i + (len - j)) * 4 + (Builtin.zeroCells zv.cells (len - (i + (len - j)))).toList.length)).toArray
                · rw [s2]
                  by_cases q : a = b
                  · rw [if_pos q, if_pos q]
                  · rw [if_neg q, if_neg q, s1, if_neg q]; rfl
                · rw [setCells_io, setCells_io]; rfl
                · rw [List.size_toArray, List.length_append, List.length_append, List.length_take, List.length_drop, hzl]
                  have q2 : (c.toList.take (0 + i * 4) ++ news ++ c.toList.drop (0 + i * 4 + news.length)).toArray.toList.length = c.size := by rw [← q1]; simp
                  rw [q2]; omega
                · rw [List.toList_toArray, List.toList_toArray, List.append_assoc, List.take_left' (by
                    rw [List.length_take]
                    simp only [List.length_append, List.length_take, List.length_drop]; omega), ← hnews, List.append_assoc, List.take_append, List.take_of_length_le (by rw [List.length_take]; omega), List.length_take, Nat.zero_add, List.take_left' (by omega)]
            | _ => exact g2.elim
      · cases hs
    · cases hs
  · cases hs
theorem spec85 : SpecOk Go.Proofs.Tryz.prog id 118 (sDel 2) := by
  intro args base h v h' hs G pw w vals ha r
  unfold sDel at hs
  split at hs
  · rename_i o k' len i j
    split at hs
    · rename_i k'' rows ho
      split at hs
      · rename_i hc
        obtain ⟨rfl, rfl, hbase, hij, hj, hlen⟩ := hc
        cases hs
        cases ha with | cons _ v1 _ us hu hus =>
        cases hus with | cons _ v2 _ us2 hu2 hus2 =>
        cases hus2 with | cons _ v3 _ us3 hu3 hus3 =>
        cases hus3
        cases hu2.ofInt
        cases hu3.ofInt
        cases hu with | cell _ _ hu => cases hu with
          | ref _ _ _ b _ C hblk hC =>
            obtain ⟨b2, k2, C2, g1, g2⟩ := r.objs o _ ho
            rw [hblk] at g1; cases g1
            obtain ⟨z, hz⟩ := g2.isSome
            rw [hz] at g2
            cases z with
            | cells c el fr =>
              have hor := g2
              obtain ⟨_, e2, e3, e4, e5, e6, e7⟩ := g2
              have m1 : len * 2 ≤ rows.length * 2 := Nat.mul_le_mul_right _ hlen
              rw [Nat.zero_mul, Nat.sub_zero]
              by_cases heq : i = j
              · subst heq
                refine .inl ⟨by kernel_rfl, (Go.Proofs.delete85Same b i len C w hj (by omega)).mono fun e w' ⟨he, hw⟩ => ?_⟩
                rw [he, hw]
                have hl : i + (len - i) = len := by omega
                have := del_back (w' := w) (c' := c) (i := i) (j := i) (len := len) r ho hbase hblk hz hor (Nat.le_refl _) hj hlen (fun a => by
                  by_cases q : a = b
                  · rw [if_pos q, q, hz]
                  · rw [if_neg q]) rfl rfl (by
                  rw [hl]
                  have : len * 2 = i * 2 + (len - i) * 2 := by omega
                  rw [this, List.take_add])
                rw [hl] at this ⊢
                exact this
              · have hlt : i < j := by omega
                obtain ⟨news, hnews⟩ : ∃ news, news = (c.toList.drop (j * 2)).take ((len - j) * 2) := ⟨_, rfl⟩
                have hcs : c.toList.length = c.size := by simp
                have hnl : news.length = (len - j) * 2 := by rw [hnews, List.length_take, List.length_drop]; omega
                obtain ⟨zv, hzv, hzl, hz1⟩ : ∃ zv : Value, (∀ w, (zeroValue 105).run Go.Proofs.Tryz.prog w = .ok zv w) ∧ (∀ n, (Builtin.zeroCells zv.cells n).toList.length = n * 2) ∧ ∀ n, ∀ v ∈ (Builtin.zeroCells zv.cells n).toList, v.oneCell' = true := by
                  refine ⟨_, Go.Proofs.Tryz.zeroValue105, fun n => by simp [Builtin.zeroCells, Value.cells], fun n v hv => ?_⟩
                  simp only [Builtin.zeroCells, Value.cells, Array.toList_map, List.mem_map] at hv
                  obtain ⟨t, _, rfl⟩ := hv
                  have : t % 2 = 0 ∨ t % 2 = 1 := by omega
                  show Value.oneCell' (#[_, _][t % 2]!) = true
                  rcases this with q | q <;> rw [q] <;> rfl
                have h1 : ∀ v ∈ c.toList.take (len * 2), v.oneCell' = true := by
                  have := (e6.take (len * 2)).one
                  rwa [List.take_take, Nat.min_eq_left m1] at this
                refine .inl ⟨by kernel_rfl, (Go.Proofs.delete85 b i j len C c el fr w zv hzv hz e7 e3 (by omega) hlt hj h1 _ rfl (hzl _) (hz1 _)).mono fun e w' ⟨he, hw⟩ => ?_⟩
                rw [he, hw, ← hnews]
                have s1 := setCells_heap b el fr news (0 + i * 2) w.drew c hz (by omega)
                have q1 : (c.toList.take (0 + i * 2) ++ news ++ c.toList.drop (0 + i * 2 + news.length)).toArray.size = c.size := by
                  rw [List.size_toArray]; simp only [List.length_append, List.length_take, List.length_drop]; omega
                have s2 := setCells_heap b el fr (Builtin.zeroCells zv.cells (len - (i + (len - j)))).toList ((i + (len - j)) * 2) (w.drew.setCells b (0 + i * 2) news) _ (by rw [s1, if_pos rfl]) (by rw [q1, hzl]; omega)
                refine del_back r ho hbase hblk hz hor hij hj hlen (fun a => ?_) ?_ ?_ ?_ (c' := ?_)
                · exact (((c.toList.take (0 + i * 2) ++ news ++ c.toList.drop (0 + i * 2 + news.length)).toArray.toList.take ((i + (len - j)) * 2)) ++ (Builtin.zeroCells zv.cells (len - (i + (len - j)))).toList ++ (c.toList.take (0 + i * 2) ++ news ++ c.toList.drop (0 + i * 2 + news.length)).toArray.toList.drop ((i + (len - j)) * 2 + (Builtin.zeroCells zv.cells (len - (i + (len - j)))).toList.length)).toArray
                · rw [s2]
                  by_cases q : a = b
                  · rw [if_pos q, if_pos q]
                  · rw [if_neg q, if_neg q, s1, if_neg q]; rfl
                · rw [setCells_io, setCells_io]; rfl
                · rw [List.size_toArray, List.length_append, List.length_append, List.length_take, List.length_drop, hzl]
                  have q2 : (c.toList.take (0 + i * 2) ++ news ++ c.toList.drop (0 + i * 2 + news.length)).toArray.toList.length = c.size := by rw [← q1]; simp
                  rw [q2]; omega
                · rw [List.toList_toArray, List.toList_toArray, List.append_assoc, List.take_left' (by
                    rw [List.length_take]
                    simp only [List.length_append, List.length_take, List.length_drop]; omega), ← hnews, List.append_assoc, List.take_append, List.take_of_length_le (by rw [List.length_take]; omega), List.length_take, Nat.zero_add, List.take_left' (by omega)]
            | _ => exact g2.elim
      · cases hs
    · cases hs
  · cases hs
end Go.Am
namespace Go.Am
open Go.RowKit
theorem bytes_back (s : ByteArray) : (bytesOf s).map Nat.toUInt8 = s.data.toList := by
  unfold bytesOf
  rw [List.map_map]
  have : (Nat.toUInt8 ∘ UInt8.toNat) = id := by funext b; simp
  rw [this, List.map_id]
theorem u8_eq {a b : UInt8} : a.toNat = b.toNat ↔ a = b := ⟨fun h => UInt8.toNat_inj.1 h, fun h => by rw [h]⟩
theorem pre_u8 : ∀ t s : List UInt8, (t.map UInt8.toNat).isPrefixOf (s.map UInt8.toNat) = t.isPrefixOf s
  | [], s => by simp
  | a :: t, [] => by simp [List.isPrefixOf]
  | a :: t, b :: s => by
    simp only [List.map_cons, List.isPrefixOf, pre_u8 t s]
    congr 1
    rw [Bool.eq_iff_iff, beq_iff_eq, beq_iff_eq, u8_eq]
theorem index_ix : ∀ (s t : List UInt8), Go.Lib.index s t = ixI (ixN (t.map UInt8.toNat) (s.map UInt8.toNat))
  | [], t => by
    cases t with
    | nil => simp [Go.Lib.index, ixN, ixI]
    | cons a t => simp [Go.Lib.index, ixN, ixI, List.isPrefixOf]
  | b :: s, t => by
    have ih := index_ix s t
    have hp := pre_u8 t (b :: s)
    simp only [List.map_cons] at hp
    simp only [Go.Lib.index, List.map_cons, ixN, hp]
    by_cases h : t.isPrefixOf (b :: s) = true
    · rw [if_pos h, if_pos h]; rfl
    · rw [if_neg h, if_neg h, ih]
      cases hx : ixN (t.map UInt8.toNat) (s.map UInt8.toNat) with
      | none => rfl
      | some n =>
        have : ¬ ((ixI (some n) == -1) = true) := by simp only [ixI, beq_iff_eq]; omega
        rw [if_neg this]; rfl
theorem indexByte_ix : ∀ (s : List UInt8) (c : UInt8), Go.Lib.indexByte s c = ixI (ixN [c.toNat] (s.map UInt8.toNat))
  | [], c => by simp [Go.Lib.indexByte, ixN, ixI, List.isPrefixOf]
  | b :: s, c => by
    have ih := indexByte_ix s c
    simp only [Go.Lib.indexByte, List.map_cons, ixN, List.isPrefixOf, Bool.and_true]
    have hb : (c.toNat == b.toNat) = (b == c) := by
      rw [Bool.eq_iff_iff, beq_iff_eq, beq_iff_eq, u8_eq]
      exact ⟨fun h => h.symm, fun h => h.symm⟩
    rw [hb]
    by_cases h : (b == c) = true
    · rw [if_pos h, if_pos h]; rfl
    · rw [if_neg h, if_neg h, ih]
      cases hx : ixN [c.toNat] (s.map UInt8.toNat) with
      | none => rfl
      | some n =>
        have : ¬ ((ixI (some n) == -1) = true) := by simp only [ixI, beq_iff_eq]; omega
        rw [if_neg this]; rfl
theorem count_u8 (c : UInt8) : ∀ s : List UInt8, (s.map UInt8.toNat).count c.toNat = s.count c
  | [] => rfl
  | b :: s => by
    rw [List.map_cons, List.count_cons, List.count_cons, count_u8 c s]
    congr 1
    have : (b.toNat == c.toNat) = (b == c) := by rw [Bool.eq_iff_iff, beq_iff_eq, beq_iff_eq, u8_eq]
    rw [this]
theorem u8_of {n : Int} (h0 : 0 ≤ n) (h1 : n < 256) : n.toNat.toUInt8.toNat = n.toNat := by
  have : n.toNat < 256 := by omega
  simp [Nat.toUInt8, UInt8.toNat_ofNat', Nat.mod_eq_of_lt this]
theorem bytesOf_eq (s : ByteArray) : bytesOf s = s.data.toList.map UInt8.toNat := rfl
theorem spec333 : SpecOk Go.Proofs.Tryz.prog id 363 sIdxB := by
  intro args base h v h' hs G pw w vals ha r
  unfold sIdxB at hs
  split at hs
  · split at hs
    · rename_i hc
      cases hs
      cases ha with | cons _ v1 _ us hu hus =>
      cases hus with | cons _ v2 _ us2 hu2 hus2 =>
      cases hus2
      obtain ⟨s', rfl, rfl⟩ := hu.ofStr
      cases hu2.ofInt
      refine .inr ⟨_, w, ?_, G, _, Ext.refl pw G (Nat.le_refl _), rfl, .cell _ _ (.int _ _), r⟩
      show (callFunc 363 #[.string s', .int .u8 _]).run _ w = _
      rw [run_callFunc_extern Go.Proofs.Tryz.func363 (by kernel_rfl) (by kernel_rfl) (by kernel_rfl) (e := Extern.BytealgIndexByte.indexByte) (by kernel_rfl), Go.Lib.run_indexByteString, indexByte_ix, u8_of hc.1 hc.2]
      rfl
    · cases hs
  · cases hs
theorem spec173 : SpecOk Go.Proofs.Tryz.prog id 225 sCnt := by
  intro args base h v h' hs G pw w vals ha r
  unfold sCnt at hs
  split at hs
  · split at hs
    · rename_i hc
      cases hs
      cases ha with | cons _ v1 _ us hu hus =>
      cases hus with | cons _ v2 _ us2 hu2 hus2 =>
      cases hus2
      obtain ⟨s', rfl, rfl⟩ := hu.ofStr
      cases hu2.ofInt
      refine .inr ⟨_, w, ?_, G, _, Ext.refl pw G (Nat.le_refl _), rfl, .cell _ _ (.int _ _), r⟩
      show (callFunc 225 #[.string s', .int .u8 _]).run _ w = _
      rw [run_callFunc_extern Go.Proofs.Tryz.func225 (by kernel_rfl) (by kernel_rfl) (by kernel_rfl) (e := Extern.BytealgCount.count) (by kernel_rfl), Go.Lib.run_countString, Go.Lib.countByte, ← count_u8, u8_of hc.1 hc.2]
      rfl
    · cases hs
  · cases hs
theorem size_bytes (s : ByteArray) : s.size = (bytesOf s).length := by unfold bytesOf; rw [List.length_map, Array.length_toList]; rfl
theorem spec73 : SpecOk Go.Proofs.Tryz.prog id 106 sStr := by
  intro args base h v h' hs G pw w vals ha r
  unfold sStr at hs
  split at hs
  · split at hs
    · rename_i hl
      cases hs
      cases ha with | cons _ v1 _ us hu hus =>
      cases hus
      obtain ⟨s', rfl, rfl⟩ := hu.ofStr
      have := size_bytes s'
      refine .inl ⟨by kernel_rfl, (Go.Proofs.Tryz.stringslite_Clone s' w (by omega)).mono fun e w' ⟨he, hb⟩ => ?_⟩
      refine ⟨G, .string s', Ext.refl pw G (Nat.le_refl _), he, .cell _ _ (.str s'), r.kept (fun b x hx => by rw [hb.block b (heap_lt hx)]; exact hx) ?_⟩
      simp only [World.io, hb.os, hb.output]
    · cases hs
  · cases hs
def MaxL (γ : Nat → Option Go.Obj) : Prop := ∃ (c : Array Value) (t : TypeId) (fr : Nat × Nat) (m : Int), γ 2 = some (.cells c t fr) ∧ c[0]? = some (.int .i64 m)
theorem spec176 {γ : Nat → Option Go.Obj} (hm : MaxL γ) : SpecOkG Go.Proofs.Tryz.prog id γ 228 sIdx := by
  intro args base h v h' hs G pw w vals ha r hγ
  unfold sIdx at hs
  split at hs
  · split at hs
    · rename_i hl
      cases hs
      cases ha with | cons _ v1 _ us hu hus =>
      cases hus with | cons _ v2 _ us2 hu2 hus2 =>
      cases hus2
      obtain ⟨s', rfl, rfl⟩ := hu.ofStr
      obtain ⟨t', rfl, rfl⟩ := hu2.ofStr
      obtain ⟨c, t, fr, m, g1, g2⟩ := hm
      have hc : w.cell? ⟨2, 0, none⟩ = some (.int .i64 m) := by
        have := r.pwh 2 _ (pw.glOk 2 _ (by rw [hγ]; exact g1))
        rw [cell_at this]; exact g2
      have := size_bytes s'
      refine .inl ⟨by kernel_rfl, (Go.Proofs.Tryz.stringslite_Index s' t' m w (by omega) hc).mono fun e w' ⟨he, hw⟩ => ?_⟩
      rw [he, hw]
      exact ⟨G, _, Ext.refl pw G (Nat.le_refl _), rfl, .cell _ _ (by rw [index_ix]; exact .int _ _), r⟩
    · cases hs
  · cases hs
end Go.Am
namespace Go.Am
open Go.RowKit Go.Lib
section
variable {ρ : Nat → FuncId} {G : Gho} {pw : Pw} {base : Nat} {h h' : H} {w w' : World}
theorem Rel.changed (r : Rel ρ pw base G h w) {g : Nat} (hfree : ∀ o (x : Obj) k C, h.get o = some x → G.blk o ≠ some (g, k, C)) (himm : G.imm g = none) (hpw : pw g = none)
    (hw : ∀ a, a ≠ g → w'.heap[a]? = w.heap[a]?) (hg : ∃ y, w'.heap[g]? = some y) (hio : World.io w' = World.io w) : Rel ρ pw base G h w' := by
  refine ⟨fun o x ho => ?_, r.inj, fun b c hb => ?_, r.disj, r.ltB, fun b x hp => ?_, r.pwd, hio.trans r.io, fun o b k C e => ?_⟩
  · obtain ⟨b, k, C, h1, h2⟩ := r.objs o x ho
    refine ⟨b, k, C, h1, ?_⟩
    rw [hw b (fun e => hfree o x k C ho (by rw [← e]; exact h1))]; exact h2
  · rw [hw b (fun e => by rw [e, himm] at hb; cases hb)]; exact r.imm b c hb
  · rw [hw b (fun e => by rw [e, hpw] at hp; cases hp)]; exact r.pwh b x hp
  · by_cases q : b = g
    · rw [q]; exact hg
    · rw [hw b q]; exact r.blkH o b k C e
theorem bld_two {o : Nat} {a b : AV} {k C : Nat} {c : Array Value} (ho : bldOwn o a = true) (q : BRel ρ G a b k C c) : k = 2 ∧ C = 1 ∧ RVCL ρ G [a, b] c.toList ∧ (b = .vs true [] → c.toList[1]? = some (.slice none 0 0)) := by
  cases a <;> first | (cases ho; done) | exact q
theorem bytes_empty : bytesOf .empty = [] := rfl
theorem bytesOf_app (s t : ByteArray) : bytesOf (s ++ t) = bytesOf s ++ bytesOf t := by
  unfold bytesOf
  rw [← List.map_append]
  congr 1
theorem strCells_app (s t : ByteArray) : strCells (s ++ t) = strCells s ++ strCells t := by
  unfold strCells
  rw [← List.map_append]
  congr 1
theorem spec106 : SpecOk Go.Proofs.Tryz.prog id 148 (sBS 199 5) := by
  intro args base h v h' hs G pw w vals ha r
  unfold sBS at hs
  split at hs
  · rename_i o
    cases ha with | cons _ v1 _ us hu hus =>
    cases hus
    cases hu with | cell _ _ hu => cases hu with
      | ptr _ _ _ b k C hblk =>
        rw [Nat.zero_mul, Nat.add_zero]
        split at hs
        · rename_i t a ho
          split at hs
          · rename_i hc
            obtain ⟨rfl, hown⟩ := hc
            cases hs
            obtain ⟨b2, k2, C2, g1, g2⟩ := r.objs o _ ho
            rw [hblk] at g1; cases g1
            obtain ⟨z, hz⟩ := g2.isSome
            rw [hz] at g2
            cases z with
            | cells c el fr =>
              obtain ⟨rfl, rfl, q⟩ := g2
              obtain ⟨_, _, q3, q4⟩ := bld_two hown q
              have hcell : w.cell? ⟨b, 1, none⟩ = some (.slice none 0 0) := by
                rw [cell_at hz, ← Array.getElem?_toList]; exact q4 rfl
              refine .inl ⟨by kernel_rfl, (Go.Proofs.bstNil b w hcell).mono fun e w' ⟨he, hw⟩ => ?_⟩
              rw [he, hw]
              exact ⟨G, _, Ext.refl pw G (Nat.le_refl _), rfl, .cell _ _ (.str .empty), r.kept (w' := w.drew) (fun _ _ e => e) rfl⟩
            | _ => exact g2.elim
          · cases hs
        · rename_i t a p len ho
          split at hs
          · rename_i u rr x hp
            split at hs
            · rename_i hc
              obtain ⟨rfl, rfl, hown, hbp, h1, hlen, hbig⟩ := hc
              cases hs
              obtain ⟨b2, k2, C2, g1, g2⟩ := r.objs o _ ho
              rw [hblk] at g1; cases g1
              obtain ⟨z, hz⟩ := g2.isSome
              rw [hz] at g2
              cases z with
              | cells c el fr =>
                obtain ⟨rfl, rfl, q⟩ := g2
                obtain ⟨_, _, q3, _⟩ := bld_two hown q
                obtain ⟨gb, kp, Cp, g3, g4⟩ := r.objs p _ hp
                obtain ⟨zp, hzp⟩ := g4.isSome
                rw [hzp] at g4
                cases zp with
                | cells cg elg frg =>
                  obtain ⟨rfl, rfl, rfl, e2, e3, t, e4, e5, e6⟩ := g4
                  generalize hcl : c.toList = cl at q3
                  cases q3 with | cons _ v0 _ us0 r0 r1 =>
                  cases r1 with | cons _ v1 _ us1 r1 r2 =>
                  cases r2
                  cases r1 with
                  | ref _ _ _ b' _ C' hb' hC' =>
                    rw [g3] at hb'; cases hb'
                    rw [Nat.zero_mul, Nat.sub_zero] at hcl
                    have hts : t.size = len := by rw [hlen, ← e4]; exact size_bytes t
                    have hcell : w.cell? ⟨b, 1, none⟩ = some (.slice (some ⟨gb, 0, none⟩) len Cp) := by
                      rw [cell_at hz, ← Array.getElem?_toList, hcl]; rfl
                    have hdl : t.data.toList.length = len := by rw [Array.length_toList]; exact hts
                    have hUS : (Builtin.unsafeString_ #[211, 3] 9 #[.pointer (some ⟨gb, 0, none⟩), .int .i64 len]).run Go.Proofs.Tryz.prog w.drew = .ok (.string t) (w.drew.freeze ⟨gb, 0, none⟩ len) := by
                      have := run_unsafeString_row (P := Go.Proofs.Tryz.prog) w.drew 211 3 9 5 Go.Proofs.Tryz.underlying211 (by kernel_rfl) gb cg.size (by have hg' : w.drew.heap[gb]? = some (.cells cg 5 (0, 0)) := hzp; simp [World.shape?, hg']) t.data.toList (fun e => by rw [e] at hdl; simp at hdl; omega) (by omega) (by omega) (fun j x hx => by
                        rw [add_plain, Nat.zero_add]
                        show w.cell? ⟨gb, j, none⟩ = _
                        rw [cell_at hzp, ← Array.getElem?_toList]
                        have hj : j < t.size := by
                          rw [hts, ← hdl]
                          exact (List.getElem?_eq_some_iff.1 hx).1
                        have h7 : (cg.toList.take t.size)[j]? = cg.toList[j]? := by rw [List.getElem?_take, if_pos hj]
                        rw [← h7, e6, List.getElem?_map, hx]; rfl)
                      rw [hdl] at this
                      exact this
                    refine .inl ⟨by kernel_rfl, (Go.Proofs.bst b gb len Cp (by omega) t w hcell (by omega) hUS).mono fun e w' ⟨he, hw⟩ => ?_⟩
                    rw [he, hw, ← e4]
                    have hgp : ∀ a, (w.drew.freeze ⟨gb, 0, none⟩ len).heap[a]? = if a = gb then some (match (some (Go.Obj.cells cg 5 (0, 0)) : Option Go.Obj) with
                        | some y => ((w.drew.freeze ⟨gb, 0, none⟩ len).heap[gb]?).getD y
                        | none => .cells cg 5 (0, 0)) else w.heap[a]? := by
                      intro a
                      by_cases q : a = gb
                      · rw [if_pos q, q]
                        have : ∃ y, (w.drew.freeze ⟨gb, 0, none⟩ len).heap[gb]? = some y := by
                          unfold World.freeze
                          split
                          · exact ⟨_, hzp⟩
                          · simp only [Array.getElem?_modify, if_true]
                            have : w.drew.heap[gb]? = some (.cells cg 5 (0, 0)) := hzp
                            rw [this]
                            exact ⟨_, rfl⟩
                        obtain ⟨y, hy⟩ := this
                        rw [hy]; rfl
                      · rw [if_neg q]
                        unfold World.freeze
                        split
                        · rfl
                        · simp only [Array.getElem?_modify, if_neg (fun e : gb = a => q e.symm)]; rfl
                    have r2 := (r.kill p).changed (w' := w.drew.freeze ⟨gb, 0, none⟩ len) (g := gb) (fun o' x' k' C' ho' hb' => by
                        rw [H.get_kill] at ho'
                        by_cases q : o' = p
                        · rw [if_pos q] at ho'; cases ho'
                        · rw [if_neg q] at ho'
                          exact q (r.inj o' p x' _ gb k' C' 1 Cp ho' hp hb' g3)) (r.disj p _ gb 1 Cp hp g3) (r.pwd p _ gb 1 Cp hbp hp g3) (fun a ha => by rw [hgp a, if_neg ha]) (⟨_, by rw [hgp gb, if_pos rfl]⟩) (by
                        unfold World.freeze
                        split <;> rfl)
                    exact ⟨G, _, Ext.refl pw G (Nat.le_refl _), rfl, .cell _ _ (.str t), r2⟩
                | _ => exact g4.elim
              | _ => exact g2.elim
            · cases hs
          · cases hs
        · cases hs
  · cases hs
theorem cc_any (r : Rel ρ pw base G h w) {o b : Nat} {a buf : AV} (ho : h.get o = some (.bld 199 a buf)) (hbo : base ≤ o) (hblk : G.blk o = some (b, 2, 1)) (hown : bldOwn o a = true) :
    ∃ w1 v1, (Calls Go.Proofs.Tryz.prog 226 #[.pointer (some ⟨b, 0, none⟩)] w fun e w' => e = .returned (.tuple #[]) ∧ w' = w1) ∧ Rel ρ pw base G (h.put o (.bld 199 (.ptr o 0 0) buf)) w1 ∧
      w1.heap[b]? = some (.cells #[.pointer (some ⟨b, 0, none⟩), v1] 199 (0, 0)) ∧ RVC ρ G buf v1 ∧ (buf = .vs true [] → v1 = .slice none 0 0) := by
  obtain ⟨b2, k2, C2, g1, g2⟩ := r.objs o _ ho
  rw [hblk] at g1; cases g1
  obtain ⟨z, hz⟩ := g2.isSome
  rw [hz] at g2
  cases z with
  | cells c el fr =>
    obtain ⟨rfl, rfl, q⟩ := g2
    obtain ⟨_, _, q3, q4⟩ := bld_two hown q
    generalize hcl : c.toList = cl at q3 q4
    cases q3 with | cons _ v0 _ us0 r0 r1 =>
    cases r1 with | cons _ v1 _ us1 r1 r2 =>
    cases r2
    have hc : c = #[v0, v1] := by apply Array.ext'; rw [hcl]
    subst hc
    have hself : RVC ρ G (.ptr o 0 0) (.pointer (some ⟨b, 0, none⟩)) := by simpa using RVC.ptr (ρ := ρ) (G := G) o 0 0 b 2 1 hblk
    have hnil : buf = .vs true [] → v1 = .slice none 0 0 := fun e => by have := q4 e; simpa using this
    have fin : ∀ w1, (∀ a, w1.heap[a]? = if a = b then some (.cells #[.pointer (some ⟨b, 0, none⟩), v1] 199 (0, 0)) else w.heap[a]?) → World.io w1 = World.io w → Rel ρ pw base G (h.put o (.bld 199 (.ptr o 0 0) buf)) w1 := fun w1 hw hio =>
      r.put o _ _ b 2 1 _ hbo ho hblk hw ⟨rfl, rfl, rfl, rfl, .cons _ _ _ _ hself (.cons _ _ _ _ r1 .nil), fun e => by rw [hnil e]; rfl⟩ hio
    cases a with
    | nilp =>
      cases r0
      have h0 : w.cell? ⟨b, 0, none⟩ = some (.pointer none) := by rw [cell_at hz]; rfl
      have hw1 : ∀ a, (w.setCell ⟨b, 0, none⟩ (.pointer (some ⟨b, 0, none⟩))).heap[a]? = if a = b then some (.cells #[.pointer (some ⟨b, 0, none⟩), v1] 199 (0, 0)) else w.heap[a]? := by
        intro a
        simp only [World.setCell, Array.getElem?_modify]
        by_cases q : a = b
        · subst q; simp [hz]
        · rw [if_neg (fun e : b = a => q e.symm), if_neg q]
      refine ⟨_, v1, Go.Proofs.cc_fresh b w h0 (by simp [World.shape?, hz]) (by simp [World.frozen?, hz]), fin _ hw1 rfl, by rw [hw1 b, if_pos rfl], r1, hnil⟩
    | ptr p i off =>
      have hp : p = o ∧ i = 0 ∧ off = 0 := by
        unfold bldOwn at hown
        split at hown
        · rename_i e; cases e
        · rename_i e; cases e; exact ⟨Nat.eq_of_beq_eq_true hown, rfl, rfl⟩
        · cases hown
      obtain ⟨rfl, rfl, rfl⟩ := hp
      cases r0 with
      | ptr _ _ _ b' k' C' hb' =>
        rw [hblk] at hb'; cases hb'
        have h0 : w.cell? ⟨b, 0, none⟩ = some (.pointer (some ⟨b, 0, none⟩)) := by rw [cell_at hz]; rfl
        have hw1 : ∀ a, w.heap[a]? = if a = b then some (.cells #[.pointer (some ⟨b, 0, none⟩), v1] 199 (0, 0)) else w.heap[a]? := by
          intro a
          by_cases q : a = b
          · rw [if_pos q, q, hz]
          · rw [if_neg q]
        exact ⟨w, v1, Go.Proofs.cc_used b w h0, fin _ hw1 rfl, by rw [hw1 b, if_pos rfl], r1, hnil⟩
    | _ => cases hown
  | _ => exact g2.elim
theorem info5 : ∃ i, Go.Proofs.Tryz.prog.info? 5 = some i ∧ i.zero = some (.int .u8 0) ∧ i.size = 1 ∧ i.bytes = 1 := by
  have : (Go.Proofs.Tryz.prog.info? 5).map (fun i => (i.zero, i.size, i.bytes)) = some (some (.int .u8 0), 1, 1) := by kernel_rfl
  obtain ⟨i, h1, h2⟩ := Option.map_eq_some_iff.1 this
  simp only [Prod.mk.injEq] at h2
  exact ⟨i, h1, h2.1, h2.2.1, h2.2.2⟩
theorem get_alloc (w : World) (x : Go.Obj) (a : Nat) : (w.drew.alloc x).heap[a]? = if a = w.heap.size then some x else w.heap[a]? := by
  show (w.heap.push x)[a]? = _
  rw [Array.getElem?_push]
theorem app_any {n : Nat} {v1 : Value} {t s : ByteArray} {g C : Nat} {cg : Array Value} (hv : (v1 = .slice none 0 0 ∧ n = 0 ∧ t = .empty ∧ s.size ≠ 0) ∨ (v1 = .slice (some ⟨g, 0, none⟩) n C ∧ w.heap[g]? = some (.cells cg 5 (0, 0)) ∧ cg.size = C ∧ n ≤ C ∧ C ≤ 9223372036854775807))
    (ht : t.size = n) (hcg : v1 = .slice none 0 0 ∨ cg.toList.take n = strCells t) (hbig : n + s.size ≤ 1000000) :
    ∃ g2 C2 cg2 w2, (∀ ty, (Builtin.append_ #[36, 9] ty #[v1, .string s]).run Go.Proofs.Tryz.prog w = .ok (.slice (some ⟨g2, 0, none⟩) (n + s.size) C2) w2) ∧ World.io w2 = World.io w ∧
      (∀ a, w2.heap[a]? = if a = g2 then some (.cells cg2 5 (0, 0)) else w.heap[a]?) ∧ cg2.size = C2 ∧ n + s.size ≤ C2 ∧ C2 ≤ 9223372036854775807 ∧ cg2.toList.take (n + s.size) = strCells (t ++ s) ∧
      ((g2 = g ∧ C2 = C ∧ v1 ≠ .slice none 0 0) ∨ g2 = w.heap.size) := by
  obtain ⟨i, hi, hz, hs1, hb1⟩ := info5
  have t36 := Go.Proofs.Tryz.underlying36
  have t9 := Go.Proofs.Tryz.underlying9
  have hzc : ∀ m, (Builtin.zeroCells (Value.int .u8 0).cells m).size = m := fun m => by rw [size_zeroCells]; simp [Value.cells]
  have hls : (strCells s).length = s.size := strCells_length s
  have hlt : (strCells t).length = n := by rw [strCells_length, ht]
  rcases hv with ⟨rfl, rfl, rfl, hne⟩ | ⟨rfl, hg, hsz, hnC, hC⟩
  · have hr := fun ty => run_append_nil_string (P := Go.Proofs.Tryz.prog) w 36 9 ty 5 i (.int .u8 0) t36 t9 hi hz s (by omega) (by omega) (by rw [hb1]; omega)
    have hge := grownCap_ge w s.size 0 5
    have hcm := grownCap_le_maxLen w s.size 0 5 (by unfold maxLen; omega)
    refine ⟨w.heap.size, grownCap w s.size 0 5, _, _, fun ty => by rw [Nat.zero_add]; exact hr ty, by rfl, get_alloc w _, ?_, by omega, by unfold maxLen at hcm; omega, ?_, .inr rfl⟩
    · simp only [Array.size_append, Array.size_map, hzc]
      have : s.data.size = s.size := rfl
      omega
    · have e1 : (s.data.map fun b => Value.int .u8 b.toNat).toList = strCells s := by simp [strCells]
      rw [Array.toList_append, e1, Nat.zero_add, ← hls, List.take_left', ByteArray.empty_append]
      rfl
  · rcases hcg with e | hcg
    · cases e
    by_cases hroom : n + s.size ≤ C
    · have hr := fun ty => run_append_room_string (P := Go.Proofs.Tryz.prog) w 36 9 ty 5 i t36 t9 hi hs1 g n C cg hg s hroom (by omega)
      refine ⟨g, C, (cg.toList.take n ++ strCells s ++ cg.toList.drop (n + s.size)).toArray, _, hr, by rfl, fun a => ?_, ?_, hroom, hC, ?_, .inl ⟨rfl, rfl, by simp⟩⟩
      · by_cases q : a = g
        · rw [if_pos q, q]; exact setRow_heap w g cg _ 5 (0, 0) hg
        · rw [if_neg q]; exact setRow_other w g a _ q
      · simp only [List.size_toArray, List.length_append, List.length_take, List.length_drop, Array.length_toList, hls]
        omega
      · rw [List.toList_toArray, hcg, strCells_app]
        exact List.take_left' (by rw [List.length_append, hls, hlt])
    · have hr := fun ty => run_append_grow_string (P := Go.Proofs.Tryz.prog) w 36 9 ty 5 i (.int .u8 0) t36 t9 hi hz ⟨g, 0, none⟩ n C (strCells t) (by rw [hs1, hlt]; omega) (fun j v hj => by
          rw [add_plain, Nat.zero_add, cell_at hg, ← Array.getElem?_toList]
          have hjl : j < n := by rw [← hlt]; exact (List.getElem?_eq_some_iff.1 hj).1
          rw [← hcg, List.getElem?_take, if_pos hjl] at hj
          exact hj) s (by omega) (by omega) (by rw [hb1]; exact growslice_fits (by omega) (by omega))
      have hge := grownCap_ge w (n + s.size) C 5
      have hcm := grownCap_le_maxLen w (n + s.size) C 5 (by unfold maxLen; omega)
      refine ⟨w.heap.size, grownCap w (n + s.size) C 5, _, _, hr, by rfl, get_alloc w _, ?_, by omega, by unfold maxLen at hcm; omega, ?_, .inr rfl⟩
      · simp only [Array.size_append, List.size_toArray, hzc, hls, hlt]
        omega
      · rw [Array.toList_append, Array.toList_append, List.toList_toArray, List.toList_toArray, strCells_app]
        exact List.take_left' (by rw [List.length_append, hls, hlt])
theorem bw_fin (r1 : Rel ρ pw base G h w) {o b g2 C2 n : Nat} {buf : AV} {v1 : Value} {cg2 : Array Value} {w2 : World} {t : ByteArray} (ho : h.get o = some (.bld 199 (.ptr o 0 0) buf)) (hbo : base ≤ o) (hblk : G.blk o = some (b, 2, 1))
    (hb : w.heap[b]? = some (.cells #[.pointer (some ⟨b, 0, none⟩), v1] 199 (0, 0))) (hfree : ∀ o (x : Obj) k C, h.get o = some x → G.blk o ≠ some (g2, k, C)) (himm : G.imm g2 = none) (hpw : pw g2 = none)
    (hw2 : ∀ a, w2.heap[a]? = if a = g2 then some (.cells cg2 5 (0, 0)) else w.heap[a]?) (hio : World.io w2 = World.io w) (hsz : cg2.size = C2) (hn : n ≤ C2) (hC : C2 ≤ 9223372036854775807) (htn : t.size = n) (hct : cg2.toList.take n = strCells t) :
    Rel ρ pw base (G.add h.next (g2, 1, C2)) ((h.new (.bld 5 (.str (bytesOf t)) .undef)).put o (.bld 199 (.ptr o 0 0) (.ref h.next 1 0 n))) (w2.setCell ⟨b, 1, none⟩ (.slice (some ⟨g2, 0, none⟩) n C2)) := by
  have r2 := r1.adopt (w' := w2) (.bld 5 (.str (bytesOf t)) .undef) g2 1 C2 (.cells cg2 5 (0, 0)) hfree himm hpw hw2 ⟨rfl, rfl, rfl, hsz, hC, t, rfl, by omega, by rw [htn]; exact hct⟩ hio
  have hon : o ≠ h.next := by have := r1.ltH ho; omega
  have hbg : b ≠ g2 := fun e => hfree o _ 2 1 ho (by rw [hblk, e])
  have hblk2 : (G.add h.next (g2, 1, C2)).blk o = some (b, 2, 1) := by simp [Gho.add, hon, hblk]
  refine r2.put o (.bld 199 (.ptr o 0 0) buf) _ b 2 1 (.cells #[.pointer (some ⟨b, 0, none⟩), .slice (some ⟨g2, 0, none⟩) n C2] 199 (0, 0)) hbo (by rw [H.get_new, if_neg hon]; exact ho) hblk2 (fun a => ?_) ⟨rfl, rfl, rfl, rfl, .cons _ _ _ _ ?_ (.cons _ _ _ _ ?_ .nil), fun e => by cases e⟩ rfl
  · simp only [World.setCell, Array.getElem?_modify]
    by_cases q : a = b
    · subst q
      have : w2.heap[a]? = some (.cells #[.pointer (some ⟨a, 0, none⟩), v1] 199 (0, 0)) := by rw [hw2, if_neg hbg]; exact hb
      simp [this]
    · rw [if_neg (fun e : b = a => q e.symm), if_neg q]
  · simpa using RVC.ptr (ρ := ρ) (G := G.add h.next (g2, 1, C2)) o 0 0 b 2 1 hblk2
  · have := RVC.ref (ρ := ρ) (G := G.add h.next (g2, 1, C2)) h.next 0 n g2 1 C2 (by simp [Gho.add]) (by omega)
    simpa using this
theorem get3 (h : H) (o : Nat) (x y z : Obj) (p : Nat) : ((h.new y).put o z).get p = (((h.put o x).new y).put o z).get p := by
  simp only [H.get_put, H.get_new, H.next_put]
  by_cases h1 : p = o
  · rw [if_pos h1, if_pos h1]
  · simp only [if_neg h1]
theorem get4 (h : H) (o q : Nat) (_ : o ≠ q) (x y z : Obj) (p : Nat) : (((h.kill q).new y).put o z).get p = ((((h.put o x).kill q).new y).put o z).get p := by
  simp only [H.get_put, H.get_new, H.next_put, H.get_kill, H.next_kill]
  by_cases h1 : p = o
  · rw [if_pos h1, if_pos h1]
  · simp only [if_neg h1]
theorem spec104 : SpecOk Go.Proofs.Tryz.prog id 146 (sBW 199 5) := by
  intro args base h v h' hs G pw w vals ha r
  unfold sBW at hs
  split at hs
  · rename_i o s
    cases ha with | cons _ v1 _ us hu hus =>
    cases hus with | cons _ v2 _ us2 hu2 hus2 =>
    cases hus2
    obtain ⟨s, rfl, rfl⟩ := hu2.ofStr
    have hsl : (bytesOf s).length = s.size := (size_bytes s).symm
    rw [hsl] at hs
    cases hu with | cell _ _ hu => cases hu with
      | ptr _ _ _ b k C hblk =>
        rw [Nat.zero_mul, Nat.add_zero]
        split at hs
        · rename_i t a ho
          split at hs
          · rename_i hc
            obtain ⟨rfl, hbo, hown, hbig⟩ := hc
            obtain ⟨b2, k2, C2, g1, g2⟩ := r.objs o _ ho
            rw [hblk] at g1; cases g1
            have hkC : k = 2 ∧ C = 1 := by
              obtain ⟨z, hz⟩ := g2.isSome
              rw [hz] at g2
              cases z with
              | cells c el fr =>
                obtain ⟨_, _, q⟩ := g2
                exact ⟨(bld_two hown q).1, (bld_two hown q).2.1⟩
              | _ => exact g2.elim
            obtain ⟨rfl, rfl⟩ := hkC
            obtain ⟨w1, v1, hcc, r1, hb1, _, hv1⟩ := cc_any r ho hbo hblk hown
            have hv1 := hv1 rfl
            subst hv1
            have ho1 : (h.put o (.bld 199 (.ptr o 0 0) (.vs true []))).get o = some (.bld 199 (.ptr o 0 0) (.vs true [])) := by rw [H.get_put, if_pos rfl]
            have c1 : w1.cell? ⟨b, 1, none⟩ = some (.slice none 0 0) := by rw [cell_at hb1]; rfl
            split at hs
            · rename_i h0
              cases hs
              have happ : ∀ ty, (Builtin.append_ #[36, 9] ty #[.slice none 0 0, .string s]).run Go.Proofs.Tryz.prog w1 = .ok (.slice none 0 0) w1 := by
                intro ty
                obtain ⟨i, hi, hz, hs1, hb1⟩ := info5
                have hf := run_firstCells_string (P := Go.Proofs.Tryz.prog) w1 1 s
                rw [h0] at hf
                simp [Builtin.append_, run_underlying Go.Proofs.Tryz.underlying36, run_underlying Go.Proofs.Tryz.underlying9, sizeOf, typeInfo, hi, hs1, Builtin.lenOf, h0, hf]
              refine .inl ⟨by kernel_rfl, (Go.Proofs.bws b s w w1 w1 hcc none 0 0 none 0 0 c1 happ c1 (by simp [World.frozen?, hb1])).mono fun e w' ⟨he, hw⟩ => ?_⟩
              rw [he, hw]
              refine ⟨G, _, Ext.refl pw G (Nat.le_refl _), rfl, .tup _ _ (.cons _ _ _ _ (.cell _ _ (.int _ _)) (.cons _ _ _ _ (.any _) .nil)), ?_⟩
              refine Rel.of_get (h := (h.put o (.bld 199 (.ptr o 0 0) (.vs true []))).put o (.bld 199 (.ptr o 0 0) (.vs true []))) (fun p => by rw [H.get_put, H.get_put, H.get_put]; split <;> rfl) rfl ?_
              refine r1.put o _ _ b 2 1 (.cells #[.pointer (some ⟨b, 0, none⟩), .slice none 0 0] 199 (0, 0)) hbo ho1 hblk (fun a => ?_) ⟨rfl, rfl, rfl, rfl, .cons _ _ _ _ ?_ (.cons _ _ _ _ (.vsE _ _ _ fun _ => rfl) .nil), fun _ => rfl⟩ rfl
              · simp only [World.setCell, Array.getElem?_modify]
                by_cases q : a = b
                · subst q; simp [hb1]
                · rw [if_neg (fun e : b = a => q e.symm), if_neg q]
              · simpa using RVC.ptr (ρ := id) (G := G) o 0 0 b 2 1 hblk
            · rename_i h0
              cases hs
              obtain ⟨g2, C2, cg2, w2, happ, hio, hw2, hsz, hn, hC, hct, hg2⟩ := app_any (w := w1) (n := 0) (v1 := .slice none 0 0) (t := .empty) (s := s) (g := 0) (C := 0) (cg := #[]) (.inl ⟨rfl, rfl, rfl, h0⟩) rfl (.inl rfl) (by omega)
              have hg2 : g2 = w1.heap.size := hg2.resolve_left (fun q => q.2.2 rfl)
              rw [Nat.zero_add] at happ hn hct
              have hlt : b < w1.heap.size := heap_lt hb1
              have hbg : b ≠ g2 := by omega
              have d0 : w2.heap[b]? = some (.cells #[.pointer (some ⟨b, 0, none⟩), .slice none 0 0] 199 (0, 0)) := by rw [hw2, if_neg hbg]; exact hb1
              refine .inl ⟨by kernel_rfl, (Go.Proofs.bws b s w w1 w2 hcc none 0 0 _ _ _ c1 happ (by rw [cell_at d0]; rfl) (by simp [World.frozen?, d0])).mono fun e w' ⟨he, hw⟩ => ?_⟩
              rw [he, hw]
              have rf := bw_fin (t := .empty ++ s) (n := s.size) r1 ho1 hbo hblk hb1 (fun o' x k C _ hbk => by
                  obtain ⟨y, hy⟩ := r1.blkH o' _ k C hbk
                  have := heap_lt hy; omega) (r1.imm_size (by omega)) (r1.pw_size (by omega)) hw2 hio hsz hn hC (by rw [ByteArray.empty_append]) hct
              rw [ByteArray.empty_append] at rf
              refine ⟨_, _, ?_, rfl, .tup _ _ (.cons _ _ _ _ (.cell _ _ (.int _ _)) (.cons _ _ _ _ (.any _) .nil)), Rel.of_get (h := (((h.put o (.bld 199 (.ptr o 0 0) (.vs true []))).new (.bld 5 (.str (bytesOf s)) .undef)).put o (.bld 199 (.ptr o 0 0) (.ref h.next 1 0 s.size)))) (get3 h o _ _ _) rfl rf⟩
              have q := Ext.add (h := h) pw (.bld 5 (.str (bytesOf s)) .undef) (z := (g2, 1, C2)) r.blk_next (r1.pw_size (by simp only; omega))
              exact ⟨q.le, q.imm, q.blk, q.next, q.fr⟩
          · cases hs
        · rename_i t a p len ho
          split at hs
          · rename_i u rr x hp
            split at hs
            · rename_i hc
              obtain ⟨rfl, rfl, hbo, hbp, hown, hlen, hbig⟩ := hc
              cases hs
              obtain ⟨b2, k2, C2, g1, g2⟩ := r.objs o _ ho
              rw [hblk] at g1; cases g1
              have hkC : k = 2 ∧ C = 1 := by
                obtain ⟨z, hz⟩ := g2.isSome
                rw [hz] at g2
                cases z with
                | cells c el fr =>
                  obtain ⟨_, _, q⟩ := g2
                  exact ⟨(bld_two hown q).1, (bld_two hown q).2.1⟩
                | _ => exact g2.elim
              obtain ⟨rfl, rfl⟩ := hkC
              obtain ⟨w1, v1, hcc, r1, hb1, rv1, _⟩ := cc_any r ho hbo hblk hown
              have hop : o ≠ p := by
                intro e
                subst e
                rw [ho] at hp
                cases hp
              have ho1 : (h.put o (.bld 199 (.ptr o 0 0) (.ref p 1 0 len))).get o = some (.bld 199 (.ptr o 0 0) (.ref p 1 0 len)) := by rw [H.get_put, if_pos rfl]
              have hp1 : (h.put o (.bld 199 (.ptr o 0 0) (.ref p 1 0 len))).get p = some (.bld 5 (.str rr) x) := by rw [H.get_put, if_neg (fun e => hop e.symm)]; exact hp
              obtain ⟨gb, kp, Cp, g3, g4⟩ := r1.objs p _ hp1
              obtain ⟨zp, hzp⟩ := g4.isSome
              rw [hzp] at g4
              cases zp with
              | cells cg elg frg =>
                obtain ⟨rfl, rfl, rfl, e2, e3, t, e4, e5, e6⟩ := g4
                cases rv1 with
                | ref _ _ _ b' _ C' hb' hC' =>
                  rw [g3] at hb'; cases hb'
                  rw [Nat.zero_mul, Nat.sub_zero] at hb1
                  have hts : t.size = len := by rw [hlen, ← e4]; exact size_bytes t
                  have c1 : w1.cell? ⟨b, 1, none⟩ = some (.slice (some ⟨gb, 0, none⟩) len Cp) := by rw [cell_at hb1]; rfl
                  obtain ⟨g2, C2, cg2, w2, happ, hio, hw2, hsz, hn, hC, hct, hg2⟩ := app_any (w := w1) (n := len) (v1 := .slice (some ⟨gb, 0, none⟩) len Cp) (t := t) (s := s) (g := gb) (C := Cp) (cg := cg) (.inr ⟨rfl, hzp, e2, by omega, e3⟩) hts (.inr (by rw [← hts]; exact e6)) hbig
                  have hlt : b < w1.heap.size := heap_lt hb1
                  have hbgb : b ≠ gb := fun e => hop (r1.inj o p _ _ b 2 1 1 Cp ho1 hp1 hblk (by rw [e]; exact g3))
                  have hbg : b ≠ g2 := by
                    rcases hg2 with ⟨q, _, _⟩ | q
                    · rw [q]; exact hbgb
                    · omega
                  have d0 : w2.heap[b]? = some (.cells #[.pointer (some ⟨b, 0, none⟩), .slice (some ⟨gb, 0, none⟩) len Cp] 199 (0, 0)) := by rw [hw2, if_neg hbg]; exact hb1
                  refine .inl ⟨by kernel_rfl, (Go.Proofs.bws b s w w1 w2 hcc _ _ _ _ _ _ c1 happ (by rw [cell_at d0]; rfl) (by simp [World.frozen?, d0])).mono fun e w' ⟨he, hw⟩ => ?_⟩
                  rw [he, hw]
                  have hpw2 : pw g2 = none := by
                    rcases hg2 with ⟨q, _, _⟩ | q
                    · rw [q]; exact r1.pwd p _ gb 1 Cp hbp hp1 g3
                    · exact r1.pw_size (by omega)
                  have rf := bw_fin (t := t ++ s) (n := len + s.size) (r1.kill p) (by rw [H.get_kill, if_neg hop]; exact ho1) hbo hblk hb1 (fun o' x' k' C' ho' hbk => by
                      rw [H.get_kill] at ho'
                      by_cases q' : o' = p
                      · rw [if_pos q'] at ho'; cases ho'
                      · rw [if_neg q'] at ho'
                        rcases hg2 with ⟨q, _, _⟩ | q
                        · rw [q] at hbk
                          exact q' (r1.inj o' p x' _ gb k' C' 1 Cp ho' hp1 hbk g3)
                        · obtain ⟨y, hy⟩ := r1.blkH o' _ k' C' hbk
                          have := heap_lt hy; omega) (by
                      rcases hg2 with ⟨q, _, _⟩ | q
                      · rw [q]; exact r1.disj p _ gb 1 Cp hp1 g3
                      · exact r1.imm_size (by omega)) hpw2 hw2 hio hsz hn hC (by rw [ByteArray.size_append, hts]) hct
                  rw [bytesOf_app, e4] at rf
                  refine ⟨_, _, ?_, rfl, .tup _ _ (.cons _ _ _ _ (.cell _ _ (.int _ _)) (.cons _ _ _ _ (.any _) .nil)), Rel.of_get (h := ((((h.put o (.bld 199 (.ptr o 0 0) (.ref p 1 0 len))).kill p).new (.bld 5 (.str (rr ++ bytesOf s)) .undef)).put o (.bld 199 (.ptr o 0 0) (.ref h.next 1 0 (len + s.size))))) (get4 h o p hop _ _ _) rfl rf⟩
                  have q := Ext.add (h := h) pw (.bld 5 (.str (rr ++ bytesOf s)) .undef) (z := (g2, 1, C2)) r.blk_next hpw2
                  exact ⟨q.le, q.imm, q.blk, q.next, q.fr⟩
              | _ => exact g4.elim
            · cases hs
          · cases hs
        · cases hs
  · cases hs
end
end Go.Am
set_option linter.unusedVariables false
namespace Go.Am
open Go.RowKit Go.Lib
section
variable {ρ : Nat → FuncId} {G : Gho} {pw : Pw} {base : Nat} {h h' : H} {w w' : World}
theorem ref_rows (r : Rel ρ pw base G h w) {o k len : Nat} {v : Value} {rows : List (List AV)} (hv : RVC ρ G (.ref o k 0 len) v) (ho : h.get o = some (.arr 4 rows)) (hk : k = 4) :
    ∃ b C c el fr, v = .slice (some ⟨b, 0, none⟩) len C ∧ G.blk o = some (b, 4, C) ∧ w.heap[b]? = some (.cells c el fr) ∧ c.size = C * 4 ∧ rows.length ≤ C ∧ (∀ x ∈ rows, x.length = 4) ∧ RVCL ρ G rows.flatten (c.toList.take (rows.length * 4)) ∧ FrOk fr 4 c.size := by
  subst hk
  cases hv with
  | ref _ _ _ b _ C hblk hC =>
    obtain ⟨b2, k2, C2, g1, g2⟩ := r.objs o _ ho
    rw [hblk] at g1; cases g1
    obtain ⟨z, hz⟩ := g2.isSome
    rw [hz] at g2
    cases z with
    | cells c el fr =>
      obtain ⟨_, e2, e3, e4, e5, e6, e7⟩ := g2
      exact ⟨b, C, c, el, fr, by simp, hblk, hz, e3, e4, e5, e6, e7⟩
    | _ => exact g2.elim
theorem fr4 {fr : Nat × Nat} {n : Nat} (hf : FrOk fr 4 n) {b : Nat} {c : Array Value} {el : TypeId} (hb : w.heap[b]? = some (.cells c el fr)) (j : Nat) : w.frozen? ⟨b, j, none⟩ = false := by
  have : fr.1 = fr.2 := by
    rcases hf with q | ⟨q, _⟩
    · exact q
    · cases q
  simp only [World.frozen?, hb]
  simp
  omega
theorem fresh_back {h1 : H} (hn : h1.next = h.next) (r1 : Rel ρ pw base G h1 w) {g C k : Nat} {c' : Array Value} {el : TypeId} {fr : Nat × Nat} {rows : List (List AV)} {n : Nat} (hfree : ∀ o (x : Obj) k' C', h1.get o = some x → G.blk o ≠ some (g, k', C')) (himm : G.imm g = none) (hpw : pw g = none)
    (hw : ∀ a, w'.heap[a]? = if a = g then some (.cells c' el fr) else w.heap[a]?) (hio : World.io w' = World.io w) (hk : 1 ≤ k) (hsz : c'.size = C * k) (hrl : rows.length = n) (hl : n ≤ C) (hrk : ∀ x ∈ rows, x.length = k)
    (hv : RVCL ρ G rows.flatten (c'.toList.take (n * k))) (hfr : FrOk fr k c'.size) :
    Back ρ pw base G h (.ref h.next k 0 n) (h1.new (.arr k rows)) (.returned (.slice (some ⟨g, 0, none⟩) n C)) w' := by
  have hle : G.le (G.add h1.next (g, k, C)) := Gho.le_add r1.blk_next
  have r2 := r1.adopt (w' := w') (.arr k rows) g k C (.cells c' el fr) hfree himm hpw hw ⟨rfl, hk, hsz, by omega, hrk, by rw [hrl]; exact hv.mono hle, hfr⟩ hio
  have q := Ext.add (h := h1) pw (.arr k rows) (z := (g, k, C)) r1.blk_next hpw
  refine ⟨_, _, ⟨q.le, q.imm, fun o z e => hn ▸ q.blk o z e, hn ▸ q.next, q.fr⟩, rfl, .cell _ _ ?_, r2⟩
  rw [← hn]
  have := RVC.ref (ρ := ρ) (G := G.add h1.next (g, k, C)) h1.next 0 n g k C (by simp [Gho.add]) (by omega)
  simpa using this
theorem free_kill (r : Rel ρ pw base G h w) {o : Nat} {x : Obj} {b k C : Nat} (ho : h.get o = some x) (hblk : G.blk o = some (b, k, C)) : ∀ o' (x' : Obj) k' C', (h.kill o).get o' = some x' → G.blk o' ≠ some (b, k', C') := by
  intro o' x' k' C' h1 h2
  rw [H.get_kill] at h1
  by_cases q : o' = o
  · rw [if_pos q] at h1; cases h1
  · rw [if_neg q] at h1
    exact q (r.inj o' o x' _ b k' C' k C h1 ho h2 hblk)
theorem free_new (r : Rel ρ pw base G h w) {g : Nat} (hg : w.heap.size ≤ g) : ∀ o (x : Obj) k C, h.get o = some x → G.blk o ≠ some (g, k, C) := by
  intro o x k C _ e
  obtain ⟨y, hy⟩ := r.blkH o g k C e
  have := heap_lt hy; omega
end
theorem take_cells {c : Array Value} {n k : Nat} : ∀ (j : Nat) (v : Value), (c.toList.take (n * k))[j]? = some v → c[j]? = some v := by
  intro j v hj
  rw [List.getElem?_take] at hj
  split at hj
  · rw [Array.getElem?_toList] at hj; exact hj
  · cases hj
theorem drew_heap (w : World) : w.drew.heap = w.heap := rfl
theorem get_push {w : World} {x : Go.Obj} (a : Nat) : (w.heap.push x)[a]? = if a = w.heap.size then some x else w.heap[a]? := by
  rw [Array.getElem?_push]
theorem spec443 : SpecOk Go.Proofs.Tryz.prog id 455 (sIns 4) := by
  intro args base h v h' hs G pw w vals ha r
  obtain ⟨i0, hi0, hi4, ⟨z, hz0, hzc⟩, hzb⟩ := Go.Proofs.info443
  unfold sIns at hs
  split at hs
  · rename_i o k' len i p kp m
    cases ha with | cons _ v1 _ us hu hus =>
    cases hus with | cons _ v2 _ us2 hu2 hus2 =>
    cases hus2 with | cons _ v3 _ us3 hu3 hus3 =>
    cases hus3
    cases hu2.ofInt
    cases hu with | cell _ _ hu =>
    cases hu3 with | cell _ _ hu3 =>
    split at hs
    · rename_i k'' rows k3 news ho hp
      split at hs
      · rename_i hc
        obtain ⟨hk', rfl, hkp, hbase, hop, hi, hlen, hm, hmn, hbig⟩ := hc
        cases hs
        have hk3 : k3 = 4 := by
          subst hkp
          cases hu3 with
          | ref _ _ _ b _ C hblk hC =>
            obtain ⟨b2, k2, C2, g1, g2⟩ := r.objs p _ hp
            rw [hblk] at g1; cases g1
            obtain ⟨z, hz⟩ := g2.isSome
            rw [hz] at g2
            cases z with
            | cells c el fr => exact g2.1
            | _ => exact g2.elim
        subst hk3
        obtain ⟨b, C, c, el, fr, rfl, hblk, hz, e3, e4, e5, e6, e7⟩ := ref_rows r hu ho hk'
        obtain ⟨vb, Cv, cv, elv, frv, rfl, hblkv, hzv, f3, f4, f5, f6, f7⟩ := ref_rows r hu3 hp hkp
        have hvb : vb ≠ b := fun e => hop (r.inj o p _ _ b 4 C 4 Cv ho hp hblk (by rw [← e]; exact hblkv))
        have hcl : (c.toList.take (len * 4)).length = len * 4 := by rw [List.length_take, Array.length_toList]; omega
        have hvl : (cv.toList.take (m * 4)).length = m * 4 := by rw [List.length_take, Array.length_toList]; omega
        have hcs : ∀ j v, (c.toList.take (len * 4))[j]? = some v → w.cell? ⟨b, j, none⟩ = some v := fun j v hj => by rw [cell_at hz]; exact take_cells j v hj
        have hvs : ∀ j v, (cv.toList.take (m * 4))[j]? = some v → w.cell? ⟨vb, j, none⟩ = some v := fun j v hj => by rw [cell_at hzv]; exact take_cells j v hj
        have q1 : RVCL id G (rows.take len).flatten (c.toList.take (len * 4)) := by
          rw [flat_take e5]
          have := e6.take (len * 4)
          rwa [List.take_take, Nat.min_eq_left (by omega)] at this
        have q2 : RVCL id G (news.take m).flatten (cv.toList.take (m * 4)) := by
          rw [flat_take f5]
          have := f6.take (m * 4)
          rwa [List.take_take, Nat.min_eq_left (by omega)] at this
        have e5' : ∀ x ∈ rows.take len, x.length = 4 := fun x hx => e5 x (List.mem_of_mem_take hx)
        have h1c : ∀ v ∈ c.toList.take (len * 4), v.oneCell' = true := q1.one
        have h1v : ∀ v ∈ cv.toList.take (m * 4), v.oneCell' = true := q2.one
        obtain ⟨cs, hcsd⟩ : ∃ cs, cs = c.toList.take (len * 4) := ⟨_, rfl⟩
        obtain ⟨vs, hvsd⟩ : ∃ vs, vs = cv.toList.take (m * 4) := ⟨_, rfl⟩
        rw [← hcsd] at hcl hcs q1 h1c
        rw [← hvsd] at hvl hvs q2 h1v
        have hti : rows.take i = (rows.take len).take i := by rw [List.take_take, Nat.min_eq_left hi]
        have hv : RVCL id G (rows.take i ++ (news.take m ++ (rows.take len).drop i)).flatten (cs.take (i * 4) ++ (vs ++ cs.drop (i * 4))) := by
          rw [List.flatten_append, List.flatten_append, hti, flat_take e5', flat_drop e5']
          exact (q1.take _).append (q2.append (q1.drop _))
        have hrl : (rows.take i ++ (news.take m ++ (rows.take len).drop i)).length = len + m := by
          simp only [List.length_append, List.length_take, List.length_drop]; omega
        have hrk : ∀ x ∈ rows.take i ++ (news.take m ++ (rows.take len).drop i), x.length = 4 := by
          intro x hx
          rcases List.mem_append.1 hx with hx | hx
          · exact e5 x (List.mem_of_mem_take hx)
          · rcases List.mem_append.1 hx with hx | hx
            · exact f5 x (List.mem_of_mem_take hx)
            · exact e5' x (List.mem_of_mem_drop hx)
        have hfree := free_kill r ho hblk
        have himm := r.disj o _ b 4 C ho hblk
        have hpw := r.pwd o _ b 4 C hbase ho hblk
        have hcz : c.toList.length = c.size := Array.length_toList
        have htl : (cs.take (i * 4)).length = i * 4 := by rw [List.length_take]; omega
        have hdl : (cs.drop (i * 4)).length = (len - i) * 4 := by rw [List.length_drop]; omega
        have hsp : ∀ j, j < c.size → (w.cell? ⟨b, j, none⟩).isSome = true := fun j hj => by rw [cell_at hz, Array.getElem?_eq_getElem hj]; rfl
        by_cases hil : i < len
        · by_cases hroom : len + m ≤ C
          · refine .inl ⟨by kernel_rfl, (Go.Proofs.ins443_shift b len C i vb m Cv cs vs w hil hm hroom hbig hvb hcl hvl hcs (fun j hj => hsp j (by omega)) (fun j _ => fr4 e7 hz j) hvs h1c h1v elv el cv.size c.size
                (by simp [World.shape?, hzv]) (by simp [World.shape?, hz]) (by omega) (fr4 f7 hzv 0) (fr4 f7 hzv _)).mono fun e w' ⟨he, hw⟩ => ?_⟩
            rw [he, hw]
            have s1 := setCells_heap b el fr (cs.drop (i * 4)) ((i + m) * 4) w.drew c hz (by omega)
            obtain ⟨X, hX⟩ : ∃ X, X = c.toList.take ((i + m) * 4) ++ cs.drop (i * 4) ++ c.toList.drop ((i + m) * 4 + (cs.drop (i * 4)).length) := ⟨_, rfl⟩
            have hXl : X.length = c.size := by rw [hX]; simp only [List.length_append, List.length_take, List.length_drop]; omega
            have hA : X.take (i * 4) = cs.take (i * 4) := by
              rw [hX, List.append_assoc, List.take_append_of_le_length (by rw [List.length_take]; omega), List.take_take, hcsd, List.take_take, Nat.min_eq_left (by omega), Nat.min_eq_left (by omega)]
            have hB : X.drop (i * 4 + vs.length) = cs.drop (i * 4) ++ c.toList.drop ((i + m) * 4 + (cs.drop (i * 4)).length) := by
              rw [hX, List.append_assoc]
              exact List.drop_left' (by rw [List.length_take]; omega)
            rw [← hX] at s1
            have s2 := setCells_heap b el fr vs (i * 4) (w.drew.setCells b ((i + m) * 4) (cs.drop (i * 4))) X.toArray (by rw [s1, if_pos rfl]) (by rw [List.size_toArray]; omega)
            rw [List.toList_toArray, hA, hB] at s2
            refine fresh_back (h := h) (h1 := h.kill o) rfl (r.kill o) hfree himm hpw (fun a => ?_) ?_ (by omega) ?_ hrl hroom hrk ?_ ?_ (c' := (cs.take (i * 4) ++ vs ++ (cs.drop (i * 4) ++ c.toList.drop ((i + m) * 4 + (cs.drop (i * 4)).length))).toArray) (el := el) (fr := fr)
            · rw [s2]
              by_cases q : a = b
              · rw [if_pos q, if_pos q]
              · rw [if_neg q, if_neg q, s1, if_neg q]; rfl
            · rw [setCells_io, setCells_io]; rfl
            · rw [List.size_toArray]; simp only [List.length_append, List.length_take, List.length_drop]
              omega
            · rw [List.toList_toArray, show cs.take (i * 4) ++ vs ++ (cs.drop (i * 4) ++ c.toList.drop ((i + m) * 4 + (cs.drop (i * 4)).length)) = (cs.take (i * 4) ++ (vs ++ cs.drop (i * 4))) ++ c.toList.drop ((i + m) * 4 + (cs.drop (i * 4)).length) by simp only [List.append_assoc], List.take_left' (by simp only [List.length_append]; omega)]
              exact hv
            · have : (fr.1 = fr.2) := by
                rcases e7 with q | ⟨q, _⟩
                · exact q
                · cases q
              exact .inl this
          · refine .inl ⟨by kernel_rfl, (Go.Proofs.ins443_grow b len C i vb m Cv cs vs w i0 z hi0 hi4 hz0 hzc hzb hil hm (by omega) (by omega) hbig hcl hvl hcs hvs h1c h1v).mono fun e w' ⟨he, hw⟩ => ?_⟩
            rw [he, hw]
            have hG := grownCap_ge w (len + m) C 130
            obtain ⟨GC, hGC⟩ : ∃ GC, GC = grownCap w (len + m) C 130 := ⟨_, rfl⟩
            rw [← hGC] at hG ⊢
            obtain ⟨ROW, hROW⟩ : ∃ ROW : Array Value, ROW = (cs.take (i * 4)).toArray ++ Builtin.zeroCells z.cells (len + m - i) ++ Builtin.zeroCells z.cells (GC - (len + m)) := ⟨_, rfl⟩
            rw [← hROW]
            have hRs : ROW.size = GC * 4 := by
              rw [hROW]
              simp only [Array.size_append, List.size_toArray, size_zeroCells, hzc, htl]
              omega
            have hRt : ROW.toList.take (i * 4) = cs.take (i * 4) := by
              rw [hROW, Array.toList_append, Array.toList_append, List.toList_toArray, List.append_assoc]
              exact List.take_left' htl
            have a1 : ∀ a, ((w.alloc (.cells ROW 130)).drew).heap[a]? = if a = w.heap.size then some (.cells ROW 130 (0, 0)) else w.heap[a]? := fun a => get_push a
            have s1 := setCells_heap w.heap.size 130 (0, 0) vs (i * 4) (w.alloc (.cells ROW 130)).drew ROW (by rw [a1, if_pos rfl]) (by omega)
            rw [hRt] at s1
            have hRl : ROW.toList.length = GC * 4 := by rw [Array.length_toList]; exact hRs
            obtain ⟨D, hD⟩ : ∃ D, D = ROW.toList.drop (i * 4 + vs.length) := ⟨_, rfl⟩
            have hDl : D.length = GC * 4 - (i + m) * 4 := by rw [hD, List.length_drop, hRl, hvl]; omega
            rw [← hD] at s1
            have s2 := setCells_heap w.heap.size 130 (0, 0) (cs.drop (i * 4)) ((i + m) * 4) (((w.alloc (.cells ROW 130)).drew.setCells w.heap.size (i * 4) vs).drew) (cs.take (i * 4) ++ vs ++ D).toArray (by rw [drew_heap, s1, if_pos rfl]) (by rw [List.size_toArray]; simp only [List.length_append]; omega)
            rw [List.toList_toArray, List.take_left' (show (cs.take (i * 4) ++ vs).length = (i + m) * 4 by rw [List.length_append]; omega)] at s2
            refine fresh_back (h := h) (h1 := h.kill o) rfl (r.kill o) (free_new (r.kill o) (Nat.le_refl _)) (r.imm_size (Nat.le_refl _)) (r.pw_size (Nat.le_refl _)) (fun a => ?_) ?_ (by omega) ?_ hrl hG hrk ?_ (.zero _) (c' := (cs.take (i * 4) ++ vs ++ cs.drop (i * 4) ++ (cs.take (i * 4) ++ vs ++ D).drop ((i + m) * 4 + (cs.drop (i * 4)).length)).toArray) (el := 130) (fr := (0, 0))
            · rw [s2]
              by_cases q : a = w.heap.size
              · rw [if_pos q, if_pos q]
              · rw [if_neg q, if_neg q, drew_heap, s1, if_neg q, a1, if_neg q]
            · rw [setCells_io]
              show World.io ((w.alloc (.cells ROW 130)).drew.setCells w.heap.size (i * 4) vs) = _
              rw [setCells_io]; rfl
            · rw [List.size_toArray]; simp only [List.length_append, List.length_drop]
              omega
            · rw [List.toList_toArray, List.take_left' (by simp only [List.length_append]; omega), List.append_assoc]
              exact hv
        · have hil : i = len := by omega
          subst hil
          have hd0 : cs.drop (i * 4) = [] := List.drop_eq_nil_of_le (by omega)
          have ht0 : cs.take (i * 4) = cs := List.take_of_length_le (by omega)
          rw [hd0, ht0, List.append_nil] at hv
          by_cases hroom : i + m ≤ C
          · have happ := fun ty => run_append_room_cells (P := Go.Proofs.Tryz.prog) w 162 ty 130 i0 Go.Proofs.Tryz.underlying162 hi0 b 0 i C ⟨vb, 0, none⟩ m Cv vs (by rw [hi4]; exact hvl) (fun j u hj => by rw [add_plain, Nat.zero_add]; exact hvs j u hj) h1v hroom
              (fun j hj => hsp _ (by rw [hi4]; omega)) (fun j hj => fr4 e7 hz _)
            refine .inl ⟨by kernel_rfl, (Go.Proofs.ins443_end (some ⟨b, 0, none⟩) i C _ _ vb m Cv _ w _ hm hbig (by omega) happ).mono fun e w' ⟨he, hw⟩ => ?_⟩
            rw [he, hw]
            rw [hi4, Nat.zero_add]
            have s1 := setCells_heap b el fr vs (i * 4) w c hz (by omega)
            refine fresh_back (h := h) (h1 := h.kill o) rfl (r.kill o) hfree himm hpw s1 (setCells_io _ _ _ _) (by omega) ?_ hrl hroom hrk ?_ ?_
            · rw [List.size_toArray]; simp only [List.length_append, List.length_take, List.length_drop]; omega
            · rw [List.toList_toArray, ← hcsd, List.take_left' (by simp only [List.length_append]; omega)]
              exact hv
            · have : (fr.1 = fr.2) := by
                rcases e7 with q | ⟨q, _⟩
                · exact q
                · cases q
              exact .inl this
          · have hsrc : Go.Src Go.Proofs.Tryz.prog i0.size 162 (.slice (some ⟨vb, 0, none⟩) m Cv) m vs w := Go.Src.ofSlice w Go.Proofs.Tryz.underlying162 ⟨vb, 0, none⟩ m Cv vs (by rw [hi4]; exact hvl) (fun j u hj => by rw [add_plain, Nat.zero_add]; exact hvs j u hj) h1v
            have hold : (Builtin.firstCells i0.size i (.slice (some ⟨b, 0, none⟩) i C)).run Go.Proofs.Tryz.prog w.drew = .ok cs.toArray w.drew := by
              rw [hi4]
              exact run_firstCells_some w.drew 4 i ⟨b, 0, none⟩ i C cs hcl (fun j u hj => by rw [add_plain, Nat.zero_add]; exact hcs j u hj)
            have happ := fun ty => run_append_grow_src (P := Go.Proofs.Tryz.prog) w 162 162 ty 130 i0 z Go.Proofs.Tryz.underlying162 hi0 hz0 (some ⟨b, 0, none⟩) i C cs hold _ m vs hsrc (by omega) (by omega) (by rw [hzb]; exact growslice_fits (by omega) (by omega))
            refine .inl ⟨by kernel_rfl, (Go.Proofs.ins443_end (some ⟨b, 0, none⟩) i C _ _ vb m Cv _ w _ hm hbig (by omega) happ).mono fun e w' ⟨he, hw⟩ => ?_⟩
            rw [he, hw]
            have hG := grownCap_ge w (i + m) C 130
            refine fresh_back (h := h) (h1 := h.kill o) rfl (r.kill o) (free_new (r.kill o) (Nat.le_refl _)) (r.imm_size (Nat.le_refl _)) (r.pw_size (Nat.le_refl _)) (get_alloc w _) rfl (by omega) ?_ hrl hG hrk ?_ (.zero _)
            · simp only [Array.size_append, List.size_toArray, size_zeroCells, hzc, List.length_append]
              omega
            · rw [Array.toList_append, List.toList_toArray, List.take_left' (by simp only [List.length_append]; omega)]
              exact hv
      · cases hs
    · cases hs
  · rename_i i p kp m
    cases ha with | cons _ v1 _ us hu hus =>
    cases hus with | cons _ v2 _ us2 hu2 hus2 =>
    cases hus2 with | cons _ v3 _ us3 hu3 hus3 =>
    cases hus3
    cases hu2.ofInt
    cases hu3 with | cell _ _ hu3 =>
    split at hs
    · rename_i k3 news hp
      split at hs
      · rename_i hc
        obtain ⟨rfl, hkp, hm, hmn, hbig⟩ := hc
        cases hs
        have hk3 : k3 = 4 := by
          subst hkp
          cases hu3 with
          | ref _ _ _ b _ C hblk hC =>
            obtain ⟨b2, k2, C2, g1, g2⟩ := r.objs p _ hp
            rw [hblk] at g1; cases g1
            obtain ⟨z, hz⟩ := g2.isSome
            rw [hz] at g2
            cases z with
            | cells c el fr => exact g2.1
            | _ => exact g2.elim
        subst hk3
        obtain ⟨vb, Cv, cv, elv, frv, rfl, hblkv, hzv, f3, f4, f5, f6, f7⟩ := ref_rows r hu3 hp hkp
        have hvl : (cv.toList.take (m * 4)).length = m * 4 := by rw [List.length_take, Array.length_toList]; omega
        have hvs : ∀ j v, (cv.toList.take (m * 4))[j]? = some v → w.cell? ⟨vb, j, none⟩ = some v := fun j v hj => by rw [cell_at hzv]; exact take_cells j v hj
        have q2 : RVCL id G (news.take m).flatten (cv.toList.take (m * 4)) := by
          rw [flat_take f5]
          have := f6.take (m * 4)
          rwa [List.take_take, Nat.min_eq_left (by omega)] at this
        have h1v : ∀ v ∈ cv.toList.take (m * 4), v.oneCell' = true := q2.one
        obtain ⟨vs, hvsd⟩ : ∃ vs, vs = cv.toList.take (m * 4) := ⟨_, rfl⟩
        rw [← hvsd] at hvl hvs q2 h1v
        obtain ⟨a, rfl⟩ : ∃ a, v1 = .slice a 0 0 := by
          cases hu with | cell _ _ hu => cases hu with
            | vsE f a c hf => exact ⟨a, by rw [hf rfl]⟩
            | vs f xs k b' off c cells h1 => exact absurd rfl h1
        have hsrc : Go.Src Go.Proofs.Tryz.prog i0.size 162 (.slice (some ⟨vb, 0, none⟩) m Cv) m vs w := Go.Src.ofSlice w Go.Proofs.Tryz.underlying162 ⟨vb, 0, none⟩ m Cv vs (by rw [hi4]; exact hvl) (fun j u hj => by rw [add_plain, Nat.zero_add]; exact hvs j u hj) h1v
        have hold : (Builtin.firstCells i0.size 0 (.slice a 0 0)).run Go.Proofs.Tryz.prog w.drew = .ok ([] : List Value).toArray w.drew := by
          cases a with
          | none => exact run_firstCells_none w.drew _ 0 0 0
          | some a => exact run_firstCells_some w.drew _ 0 a 0 0 [] (by simp) (fun j u hj => by simp at hj)
        have happ := fun ty => run_append_grow_src (P := Go.Proofs.Tryz.prog) w 162 162 ty 130 i0 z Go.Proofs.Tryz.underlying162 hi0 hz0 a 0 0 [] hold _ m vs hsrc (by omega) (by omega) (by rw [hzb]; exact growslice_fits (by omega) (by omega))
        refine .inl ⟨by kernel_rfl, (Go.Proofs.ins443_end a 0 0 _ _ vb m Cv _ w _ hm (by omega) (by omega) happ).mono fun e w' ⟨he, hw⟩ => ?_⟩
        rw [he, hw]
        have hG := grownCap_ge w (0 + m) 0 130
        rw [Nat.zero_add] at hG ⊢
        refine fresh_back (h := h) (h1 := h) rfl r (free_new r (Nat.le_refl _)) (r.imm_size (Nat.le_refl _)) (r.pw_size (Nat.le_refl _)) (get_alloc w _) rfl (by omega) ?_ (by rw [List.length_take]; omega) hG (fun x hx => f5 x (List.mem_of_mem_take hx)) ?_ (.zero _)
        · simp only [Array.size_append, List.size_toArray, size_zeroCells, hzc, List.nil_append]
          omega
        · rw [Array.toList_append, List.toList_toArray, List.nil_append, List.take_left' hvl]
          exact q2
      · cases hs
    · cases hs
  · cases hs
theorem spec444 : SpecOk Go.Proofs.Tryz.prog id 456 (sIns 4) := by
  intro args base h v h' hs G pw w vals ha r
  obtain ⟨i0, hi0, hi4, ⟨z, hz0, hzc⟩, hzb⟩ := Go.Proofs.info444
  unfold sIns at hs
  split at hs
  · rename_i o k' len i p kp m
    cases ha with | cons _ v1 _ us hu hus =>
    cases hus with | cons _ v2 _ us2 hu2 hus2 =>
    cases hus2 with | cons _ v3 _ us3 hu3 hus3 =>
    cases hus3
    cases hu2.ofInt
    cases hu with | cell _ _ hu =>
    cases hu3 with | cell _ _ hu3 =>
    split at hs
    · rename_i k'' rows k3 news ho hp
      split at hs
      · rename_i hc
        obtain ⟨hk', rfl, hkp, hbase, hop, hi, hlen, hm, hmn, hbig⟩ := hc
        cases hs
        have hk3 : k3 = 4 := by
          subst hkp
          cases hu3 with
          | ref _ _ _ b _ C hblk hC =>
            obtain ⟨b2, k2, C2, g1, g2⟩ := r.objs p _ hp
            rw [hblk] at g1; cases g1
            obtain ⟨z, hz⟩ := g2.isSome
            rw [hz] at g2
            cases z with
            | cells c el fr => exact g2.1
            | _ => exact g2.elim
        subst hk3
        obtain ⟨b, C, c, el, fr, rfl, hblk, hz, e3, e4, e5, e6, e7⟩ := ref_rows r hu ho hk'
        obtain ⟨vb, Cv, cv, elv, frv, rfl, hblkv, hzv, f3, f4, f5, f6, f7⟩ := ref_rows r hu3 hp hkp
        have hvb : vb ≠ b := fun e => hop (r.inj o p _ _ b 4 C 4 Cv ho hp hblk (by rw [← e]; exact hblkv))
        have hcl : (c.toList.take (len * 4)).length = len * 4 := by rw [List.length_take, Array.length_toList]; omega
        have hvl : (cv.toList.take (m * 4)).length = m * 4 := by rw [List.length_take, Array.length_toList]; omega
        have hcs : ∀ j v, (c.toList.take (len * 4))[j]? = some v → w.cell? ⟨b, j, none⟩ = some v := fun j v hj => by rw [cell_at hz]; exact take_cells j v hj
        have hvs : ∀ j v, (cv.toList.take (m * 4))[j]? = some v → w.cell? ⟨vb, j, none⟩ = some v := fun j v hj => by rw [cell_at hzv]; exact take_cells j v hj
        have q1 : RVCL id G (rows.take len).flatten (c.toList.take (len * 4)) := by
          rw [flat_take e5]
          have := e6.take (len * 4)
          rwa [List.take_take, Nat.min_eq_left (by omega)] at this
        have q2 : RVCL id G (news.take m).flatten (cv.toList.take (m * 4)) := by
          rw [flat_take f5]
          have := f6.take (m * 4)
          rwa [List.take_take, Nat.min_eq_left (by omega)] at this
        have e5' : ∀ x ∈ rows.take len, x.length = 4 := fun x hx => e5 x (List.mem_of_mem_take hx)
        have h1c : ∀ v ∈ c.toList.take (len * 4), v.oneCell' = true := q1.one
        have h1v : ∀ v ∈ cv.toList.take (m * 4), v.oneCell' = true := q2.one
        obtain ⟨cs, hcsd⟩ : ∃ cs, cs = c.toList.take (len * 4) := ⟨_, rfl⟩
        obtain ⟨vs, hvsd⟩ : ∃ vs, vs = cv.toList.take (m * 4) := ⟨_, rfl⟩
        rw [← hcsd] at hcl hcs q1 h1c
        rw [← hvsd] at hvl hvs q2 h1v
        have hti : rows.take i = (rows.take len).take i := by rw [List.take_take, Nat.min_eq_left hi]
        have hv : RVCL id G (rows.take i ++ (news.take m ++ (rows.take len).drop i)).flatten (cs.take (i * 4) ++ (vs ++ cs.drop (i * 4))) := by
          rw [List.flatten_append, List.flatten_append, hti, flat_take e5', flat_drop e5']
          exact (q1.take _).append (q2.append (q1.drop _))
        have hrl : (rows.take i ++ (news.take m ++ (rows.take len).drop i)).length = len + m := by
          simp only [List.length_append, List.length_take, List.length_drop]; omega
        have hrk : ∀ x ∈ rows.take i ++ (news.take m ++ (rows.take len).drop i), x.length = 4 := by
          intro x hx
          rcases List.mem_append.1 hx with hx | hx
          · exact e5 x (List.mem_of_mem_take hx)
          · rcases List.mem_append.1 hx with hx | hx
            · exact f5 x (List.mem_of_mem_take hx)
            · exact e5' x (List.mem_of_mem_drop hx)
        have hfree := free_kill r ho hblk
        have himm := r.disj o _ b 4 C ho hblk
        have hpw := r.pwd o _ b 4 C hbase ho hblk
        have hcz : c.toList.length = c.size := Array.length_toList
        have htl : (cs.take (i * 4)).length = i * 4 := by rw [List.length_take]; omega
        have hdl : (cs.drop (i * 4)).length = (len - i) * 4 := by rw [List.length_drop]; omega
        have hsp : ∀ j, j < c.size → (w.cell? ⟨b, j, none⟩).isSome = true := fun j hj => by rw [cell_at hz, Array.getElem?_eq_getElem hj]; rfl
        by_cases hil : i < len
        · by_cases hroom : len + m ≤ C
          · refine .inl ⟨by kernel_rfl, (Go.Proofs.ins444_shift b len C i vb m Cv cs vs w hil hm hroom hbig hvb hcl hvl hcs (fun j hj => hsp j (by omega)) (fun j _ => fr4 e7 hz j) hvs h1c h1v elv el cv.size c.size
                (by simp [World.shape?, hzv]) (by simp [World.shape?, hz]) (by omega) (fr4 f7 hzv 0) (fr4 f7 hzv _)).mono fun e w' ⟨he, hw⟩ => ?_⟩
            rw [he, hw]
            have s1 := setCells_heap b el fr (cs.drop (i * 4)) ((i + m) * 4) w.drew c hz (by omega)
            obtain ⟨X, hX⟩ : ∃ X, X = c.toList.take ((i + m) * 4) ++ cs.drop (i * 4) ++ c.toList.drop ((i + m) * 4 + (cs.drop (i * 4)).length) := ⟨_, rfl⟩
            have hXl : X.length = c.size := by rw [hX]; simp only [List.length_append, List.length_take, List.length_drop]; omega
            have hA : X.take (i * 4) = cs.take (i * 4) := by
              rw [hX, List.append_assoc, List.take_append_of_le_length (by rw [List.length_take]; omega), List.take_take, hcsd, List.take_take, Nat.min_eq_left (by omega), Nat.min_eq_left (by omega)]
            have hB : X.drop (i * 4 + vs.length) = cs.drop (i * 4) ++ c.toList.drop ((i + m) * 4 + (cs.drop (i * 4)).length) := by
              rw [hX, List.append_assoc]
              exact List.drop_left' (by rw [List.length_take]; omega)
            rw [← hX] at s1
            have s2 := setCells_heap b el fr vs (i * 4) (w.drew.setCells b ((i + m) * 4) (cs.drop (i * 4))) X.toArray (by rw [s1, if_pos rfl]) (by rw [List.size_toArray]; omega)
            rw [List.toList_toArray, hA, hB] at s2
            refine fresh_back (h := h) (h1 := h.kill o) rfl (r.kill o) hfree himm hpw (fun a => ?_) ?_ (by omega) ?_ hrl hroom hrk ?_ ?_ (c' := (cs.take (i * 4) ++ vs ++ (cs.drop (i * 4) ++ c.toList.drop ((i + m) * 4 + (cs.drop (i * 4)).length))).toArray) (el := el) (fr := fr)
            · rw [s2]
              by_cases q : a = b
              · rw [if_pos q, if_pos q]
              · rw [if_neg q, if_neg q, s1, if_neg q]; rfl
            · rw [setCells_io, setCells_io]; rfl
            · rw [List.size_toArray]; simp only [List.length_append, List.length_take, List.length_drop]
              omega
            · rw [List.toList_toArray, show cs.take (i * 4) ++ vs ++ (cs.drop (i * 4) ++ c.toList.drop ((i + m) * 4 + (cs.drop (i * 4)).length)) = (cs.take (i * 4) ++ (vs ++ cs.drop (i * 4))) ++ c.toList.drop ((i + m) * 4 + (cs.drop (i * 4)).length) by simp only [List.append_assoc], List.take_left' (by simp only [List.length_append]; omega)]
              exact hv
            · have : (fr.1 = fr.2) := by
                rcases e7 with q | ⟨q, _⟩
                · exact q
                · cases q
              exact .inl this
          · refine .inl ⟨by kernel_rfl, (Go.Proofs.ins444_grow b len C i vb m Cv cs vs w i0 z hi0 hi4 hz0 hzc hzb hil hm (by omega) (by omega) hbig hcl hvl hcs hvs h1c h1v).mono fun e w' ⟨he, hw⟩ => ?_⟩
            rw [he, hw]
            have hG := grownCap_ge w (len + m) C 88
            obtain ⟨GC, hGC⟩ : ∃ GC, GC = grownCap w (len + m) C 88 := ⟨_, rfl⟩
            rw [← hGC] at hG ⊢
            obtain ⟨ROW, hROW⟩ : ∃ ROW : Array Value, ROW = (cs.take (i * 4)).toArray ++ Builtin.zeroCells z.cells (len + m - i) ++ Builtin.zeroCells z.cells (GC - (len + m)) := ⟨_, rfl⟩
            rw [← hROW]
            have hRs : ROW.size = GC * 4 := by
              rw [hROW]
              simp only [Array.size_append, List.size_toArray, size_zeroCells, hzc, htl]
              omega
            have hRt : ROW.toList.take (i * 4) = cs.take (i * 4) := by
              rw [hROW, Array.toList_append, Array.toList_append, List.toList_toArray, List.append_assoc]
              exact List.take_left' htl
            have a1 : ∀ a, ((w.alloc (.cells ROW 88)).drew).heap[a]? = if a = w.heap.size then some (.cells ROW 88 (0, 0)) else w.heap[a]? := fun a => get_push a
            have s1 := setCells_heap w.heap.size 88 (0, 0) vs (i * 4) (w.alloc (.cells ROW 88)).drew ROW (by rw [a1, if_pos rfl]) (by omega)
            rw [hRt] at s1
            have hRl : ROW.toList.length = GC * 4 := by rw [Array.length_toList]; exact hRs
            obtain ⟨D, hD⟩ : ∃ D, D = ROW.toList.drop (i * 4 + vs.length) := ⟨_, rfl⟩
            have hDl : D.length = GC * 4 - (i + m) * 4 := by rw [hD, List.length_drop, hRl, hvl]; omega
            rw [← hD] at s1
            have s2 := setCells_heap w.heap.size 88 (0, 0) (cs.drop (i * 4)) ((i + m) * 4) (((w.alloc (.cells ROW 88)).drew.setCells w.heap.size (i * 4) vs).drew) (cs.take (i * 4) ++ vs ++ D).toArray (by rw [drew_heap, s1, if_pos rfl]) (by rw [List.size_toArray]; simp only [List.length_append]; omega)
            rw [List.toList_toArray, List.take_left' (show (cs.take (i * 4) ++ vs).length = (i + m) * 4 by rw [List.length_append]; omega)] at s2
            refine fresh_back (h := h) (h1 := h.kill o) rfl (r.kill o) (free_new (r.kill o) (Nat.le_refl _)) (r.imm_size (Nat.le_refl _)) (r.pw_size (Nat.le_refl _)) (fun a => ?_) ?_ (by omega) ?_ hrl hG hrk ?_ (.zero _) (c' := (cs.take (i * 4) ++ vs ++ cs.drop (i * 4) ++ (cs.take (i * 4) ++ vs ++ D).drop ((i + m) * 4 + (cs.drop (i * 4)).length)).toArray) (el := 88) (fr := (0, 0))
            · rw [s2]
              by_cases q : a = w.heap.size
              · rw [if_pos q, if_pos q]
              · rw [if_neg q, if_neg q, drew_heap, s1, if_neg q, a1, if_neg q]
            · rw [setCells_io]
              show World.io ((w.alloc (.cells ROW 88)).drew.setCells w.heap.size (i * 4) vs) = _
              rw [setCells_io]; rfl
            · rw [List.size_toArray]; simp only [List.length_append, List.length_drop]
              omega
            · rw [List.toList_toArray, List.take_left' (by simp only [List.length_append]; omega), List.append_assoc]
              exact hv
        · have hil : i = len := by omega
          subst hil
          have hd0 : cs.drop (i * 4) = [] := List.drop_eq_nil_of_le (by omega)
          have ht0 : cs.take (i * 4) = cs := List.take_of_length_le (by omega)
          rw [hd0, ht0, List.append_nil] at hv
          by_cases hroom : i + m ≤ C
          · have happ := fun ty => run_append_room_cells (P := Go.Proofs.Tryz.prog) w 155 ty 88 i0 Go.Proofs.Tryz.underlying155 hi0 b 0 i C ⟨vb, 0, none⟩ m Cv vs (by rw [hi4]; exact hvl) (fun j u hj => by rw [add_plain, Nat.zero_add]; exact hvs j u hj) h1v hroom
              (fun j hj => hsp _ (by rw [hi4]; omega)) (fun j hj => fr4 e7 hz _)
            refine .inl ⟨by kernel_rfl, (Go.Proofs.ins444_end (some ⟨b, 0, none⟩) i C _ _ vb m Cv _ w _ hm hbig (by omega) happ).mono fun e w' ⟨he, hw⟩ => ?_⟩
            rw [he, hw]
            rw [hi4, Nat.zero_add]
            have s1 := setCells_heap b el fr vs (i * 4) w c hz (by omega)
            refine fresh_back (h := h) (h1 := h.kill o) rfl (r.kill o) hfree himm hpw s1 (setCells_io _ _ _ _) (by omega) ?_ hrl hroom hrk ?_ ?_
            · rw [List.size_toArray]; simp only [List.length_append, List.length_take, List.length_drop]; omega
            · rw [List.toList_toArray, ← hcsd, List.take_left' (by simp only [List.length_append]; omega)]
              exact hv
            · have : (fr.1 = fr.2) := by
                rcases e7 with q | ⟨q, _⟩
                · exact q
                · cases q
              exact .inl this
          · have hsrc : Go.Src Go.Proofs.Tryz.prog i0.size 155 (.slice (some ⟨vb, 0, none⟩) m Cv) m vs w := Go.Src.ofSlice w Go.Proofs.Tryz.underlying155 ⟨vb, 0, none⟩ m Cv vs (by rw [hi4]; exact hvl) (fun j u hj => by rw [add_plain, Nat.zero_add]; exact hvs j u hj) h1v
            have hold : (Builtin.firstCells i0.size i (.slice (some ⟨b, 0, none⟩) i C)).run Go.Proofs.Tryz.prog w.drew = .ok cs.toArray w.drew := by
              rw [hi4]
              exact run_firstCells_some w.drew 4 i ⟨b, 0, none⟩ i C cs hcl (fun j u hj => by rw [add_plain, Nat.zero_add]; exact hcs j u hj)
            have happ := fun ty => run_append_grow_src (P := Go.Proofs.Tryz.prog) w 155 155 ty 88 i0 z Go.Proofs.Tryz.underlying155 hi0 hz0 (some ⟨b, 0, none⟩) i C cs hold _ m vs hsrc (by omega) (by omega) (by rw [hzb]; exact growslice_fits (by omega) (by omega))
            refine .inl ⟨by kernel_rfl, (Go.Proofs.ins444_end (some ⟨b, 0, none⟩) i C _ _ vb m Cv _ w _ hm hbig (by omega) happ).mono fun e w' ⟨he, hw⟩ => ?_⟩
            rw [he, hw]
            have hG := grownCap_ge w (i + m) C 88
            refine fresh_back (h := h) (h1 := h.kill o) rfl (r.kill o) (free_new (r.kill o) (Nat.le_refl _)) (r.imm_size (Nat.le_refl _)) (r.pw_size (Nat.le_refl _)) (get_alloc w _) rfl (by omega) ?_ hrl hG hrk ?_ (.zero _)
            · simp only [Array.size_append, List.size_toArray, size_zeroCells, hzc, List.length_append]
              omega
            · rw [Array.toList_append, List.toList_toArray, List.take_left' (by simp only [List.length_append]; omega)]
              exact hv
      · cases hs
    · cases hs
  · rename_i i p kp m
    cases ha with | cons _ v1 _ us hu hus =>
    cases hus with | cons _ v2 _ us2 hu2 hus2 =>
    cases hus2 with | cons _ v3 _ us3 hu3 hus3 =>
    cases hus3
    cases hu2.ofInt
    cases hu3 with | cell _ _ hu3 =>
    split at hs
    · rename_i k3 news hp
      split at hs
      · rename_i hc
        obtain ⟨rfl, hkp, hm, hmn, hbig⟩ := hc
        cases hs
        have hk3 : k3 = 4 := by
          subst hkp
          cases hu3 with
          | ref _ _ _ b _ C hblk hC =>
            obtain ⟨b2, k2, C2, g1, g2⟩ := r.objs p _ hp
            rw [hblk] at g1; cases g1
            obtain ⟨z, hz⟩ := g2.isSome
            rw [hz] at g2
            cases z with
            | cells c el fr => exact g2.1
            | _ => exact g2.elim
        subst hk3
        obtain ⟨vb, Cv, cv, elv, frv, rfl, hblkv, hzv, f3, f4, f5, f6, f7⟩ := ref_rows r hu3 hp hkp
        have hvl : (cv.toList.take (m * 4)).length = m * 4 := by rw [List.length_take, Array.length_toList]; omega
        have hvs : ∀ j v, (cv.toList.take (m * 4))[j]? = some v → w.cell? ⟨vb, j, none⟩ = some v := fun j v hj => by rw [cell_at hzv]; exact take_cells j v hj
        have q2 : RVCL id G (news.take m).flatten (cv.toList.take (m * 4)) := by
          rw [flat_take f5]
          have := f6.take (m * 4)
          rwa [List.take_take, Nat.min_eq_left (by omega)] at this
        have h1v : ∀ v ∈ cv.toList.take (m * 4), v.oneCell' = true := q2.one
        obtain ⟨vs, hvsd⟩ : ∃ vs, vs = cv.toList.take (m * 4) := ⟨_, rfl⟩
        rw [← hvsd] at hvl hvs q2 h1v
        obtain ⟨a, rfl⟩ : ∃ a, v1 = .slice a 0 0 := by
          cases hu with | cell _ _ hu => cases hu with
            | vsE f a c hf => exact ⟨a, by rw [hf rfl]⟩
            | vs f xs k b' off c cells h1 => exact absurd rfl h1
        have hsrc : Go.Src Go.Proofs.Tryz.prog i0.size 155 (.slice (some ⟨vb, 0, none⟩) m Cv) m vs w := Go.Src.ofSlice w Go.Proofs.Tryz.underlying155 ⟨vb, 0, none⟩ m Cv vs (by rw [hi4]; exact hvl) (fun j u hj => by rw [add_plain, Nat.zero_add]; exact hvs j u hj) h1v
        have hold : (Builtin.firstCells i0.size 0 (.slice a 0 0)).run Go.Proofs.Tryz.prog w.drew = .ok ([] : List Value).toArray w.drew := by
          cases a with
          | none => exact run_firstCells_none w.drew _ 0 0 0
          | some a => exact run_firstCells_some w.drew _ 0 a 0 0 [] (by simp) (fun j u hj => by simp at hj)
        have happ := fun ty => run_append_grow_src (P := Go.Proofs.Tryz.prog) w 155 155 ty 88 i0 z Go.Proofs.Tryz.underlying155 hi0 hz0 a 0 0 [] hold _ m vs hsrc (by omega) (by omega) (by rw [hzb]; exact growslice_fits (by omega) (by omega))
        refine .inl ⟨by kernel_rfl, (Go.Proofs.ins444_end a 0 0 _ _ vb m Cv _ w _ hm (by omega) (by omega) happ).mono fun e w' ⟨he, hw⟩ => ?_⟩
        rw [he, hw]
        have hG := grownCap_ge w (0 + m) 0 88
        rw [Nat.zero_add] at hG ⊢
        refine fresh_back (h := h) (h1 := h) rfl r (free_new r (Nat.le_refl _)) (r.imm_size (Nat.le_refl _)) (r.pw_size (Nat.le_refl _)) (get_alloc w _) rfl (by omega) ?_ (by rw [List.length_take]; omega) hG (fun x hx => f5 x (List.mem_of_mem_take hx)) ?_ (.zero _)
        · simp only [Array.size_append, List.size_toArray, size_zeroCells, hzc, List.nil_append]
          omega
        · rw [Array.toList_append, List.toList_toArray, List.nil_append, List.take_left' hvl]
          exact q2
      · cases hs
    · cases hs
  · cases hs
end Go.Am
