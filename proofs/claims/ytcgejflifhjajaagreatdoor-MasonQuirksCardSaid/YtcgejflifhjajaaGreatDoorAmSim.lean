/- Parts of an abstract machine and its proofs: AmSim. -/
import Derived.Test.YtcgejflifhjajaaGreatDoorAmOps
import Derived.Orders

set_option linter.unusedSimpArgs false
set_option linter.unusedVariables false
namespace Go.Am
section
variable {ρ : Nat → FuncId} {G G' : Gho} {pw : Pw} {base : Nat} {h h' : H} {w : World}
theorem Rel.giveImm (r : Rel ρ pw base G h w) {b : Nat} {c : Array Value} {el : TypeId} {fr : Nat × Nat} (hz : w.heap[b]? = some (.cells c el fr)) (hn : G.imm b = none)
    (hno : ∀ p z k C, h.get p = some z → G.blk p ≠ some (b, k, C)) : Rel ρ pw base (G.addImm b c.toList) h w := by
  have hl : G.le (G.addImm b c.toList) := Gho.le_addImm hn
  refine ⟨fun o x ho => ?_, r.inj, fun a cells ha => ?_, fun o x a k C ho hb => ?_, r.ltB, r.pwh, r.pwd, r.io, r.blkH⟩
  · obtain ⟨b', k, C, h1, h2⟩ := r.objs o x ho
    exact ⟨b', k, C, h1, h2.mono hl⟩
  · by_cases hab : a = b
    · subst hab
      simp only [Gho.addImm, if_true, Option.some.injEq] at ha
      subst ha
      exact ⟨c, el, fr, hz, List.take_length⟩
    · simp only [Gho.addImm, hab, if_false] at ha
      exact r.imm a cells ha
  · have hne : a ≠ b := by rintro rfl; exact hno o x k C ho hb
    simp only [Gho.addImm, hne, if_false]
    exact r.disj o x a k C ho hb
structure Frz (ρ : Nat → FuncId) (pw : Pw) (base : Nat) (w : World) (G : Gho) (h : H) (G' : Gho) (h' : H) : Prop where
  blk : G'.blk = G.blk
  le : ∀ b c, G.imm b = some c → G'.imm b = some c
  fresh : ∀ b c, G'.imm b = some c → G.imm b = some c ∨ ∃ p z k C, h.get p = some z ∧ base ≤ p ∧ G.blk p = some (b, k, C)
  sub : ∀ p z, h'.get p = some z → h.get p = some z
  next : h'.next = h.next
  rel : Rel ρ pw base G' h' w
theorem Frz.refl (r : Rel ρ pw base G h w) : Frz ρ pw base w G h G h := ⟨rfl, fun _ _ e => e, fun _ _ e => .inl e, fun _ _ e => e, rfl, r⟩
theorem Frz.le' (f : Frz ρ pw base w G h G' h') : G.le G' := ⟨fun o x e => by rw [f.blk]; exact e, f.le⟩
theorem Frz.trans {G'' : Gho} {h'' : H} (f : Frz ρ pw base w G h G' h') (g : Frz ρ pw base w G' h' G'' h'') : Frz ρ pw base w G h G'' h'' := by
  refine ⟨g.blk.trans f.blk, fun b c e => g.le b c (f.le b c e), fun b c e => ?_, fun p z e => f.sub p z (g.sub p z e), g.next.trans f.next, g.rel⟩
  rcases g.fresh b c e with h1 | ⟨p, z, k, C, h1, h2, h3⟩
  · exact f.fresh b c h1
  · exact .inr ⟨p, z, k, C, f.sub p z h1, h2, by rw [← f.blk]; exact h3⟩
theorem Frz.ext (r : Rel ρ pw base G h w) (f : Frz ρ pw base w G h G' h') : Ext pw h h' G G' := by
  refine ⟨f.le', fun b c e => ?_, fun o x e => .inl (by rw [← f.blk]; exact e), by rw [f.next]; exact Nat.le_refl _, fun o b k C e => .inl (by rw [← f.blk]; exact e)⟩
  rcases f.fresh b c e with h1 | ⟨p, z, k, C, h1, h2, h3⟩
  · exact .inl h1
  · exact .inr (r.pwd p z b k C h2 h1 h3)
theorem rows_len {k : Nat} {rows rs : List (List AV)} (hm : rs.map List.length = rows.map List.length) (hk : ∀ r ∈ rows, r.length = k) : rs.length = rows.length ∧ ∀ r ∈ rs, r.length = k := by
  have hl := congrArg List.length hm
  simp only [List.length_map] at hl
  refine ⟨hl, fun r hr => ?_⟩
  have h1 : r.length ∈ rs.map List.length := List.mem_map.2 ⟨r, hr, rfl⟩
  rw [hm] at h1
  obtain ⟨r', h2, h3⟩ := List.mem_map.1 h1
  rw [← h3, hk r' h2]
theorem frz_all (w : World) (pw : Pw) (base : Nat) : ∀ f : Nat,
    (∀ (h : H) (c c' : AV) (h' : H) (G : Gho) (x : Value), frz f base h c = some (c', h') → RVC ρ G c x → Rel ρ pw base G h w → ∃ G', Frz ρ pw base w G h G' h' ∧ RVC ρ G' c' x) ∧
    (∀ (h : H) (c c' : List AV) (h' : H) (G : Gho) (x : List Value), frzCells f base h c = some (c', h') → RVCL ρ G c x → Rel ρ pw base G h w → ∃ G', Frz ρ pw base w G h G' h' ∧ RVCL ρ G' c' x) ∧
    (∀ (h : H) (c c' : List (List AV)) (h' : H) (G : Gho) (x : List Value), frzRows f base h c = some (c', h') → RVCL ρ G c.flatten x → Rel ρ pw base G h w →
      ∃ G', Frz ρ pw base w G h G' h' ∧ RVCL ρ G' c'.flatten x ∧ c'.map List.length = c.map List.length) := by
  intro f
  induction f with
  | zero => exact ⟨fun h c c' h' G x hf => by simp [frz] at hf, fun h c c' h' G x hf => by simp [frzCells] at hf, fun h c c' h' G x hf => by simp [frzRows] at hf⟩
  | succ f ih =>
    obtain ⟨ih1, ih2, ih3⟩ := ih
    refine ⟨fun h c c' h' G x hf hc r => ?_, fun h c c' h' G x hf hc r => ?_, fun h c c' h' G x hf hc r => ?_⟩
    · cases hc with
      | ref o off len b k C hblk hC =>
        simp only [frz] at hf
        split at hf
        · rename_i k' rows hget
          split at hf
          · rename_i hb
            split at hf
            · rename_i rs h2 hfr
              cases hf
              obtain ⟨b', k1, C1, q1, q2⟩ := r.objs o _ hget
              rw [hblk] at q1; cases q1
              obtain ⟨z, hz⟩ := q2.isSome
              rw [hz] at q2
              cases z with
              | cells c el fr =>
                obtain ⟨e1, e2, e3, e4, e5, e6, e7⟩ := q2
                subst e1
                obtain ⟨G1, fz, hv, hm⟩ := ih3 (h.kill o) rows rs h' G _ hfr e6 (r.kill o)
                obtain ⟨hlen, hall⟩ := rows_len hm e5
                have alone : ∀ p z k C, (h.kill o).get p = some z → G.blk p ≠ some (b, k, C) := by
                  intro p z k C hp hbp
                  rw [H.get_kill] at hp
                  by_cases hpo : p = o
                  · rw [if_pos hpo] at hp; cases hp
                  · rw [if_neg hpo] at hp
                    exact hpo (r.inj p o z _ b k C _ _ hp hget hbp hblk)
                have himm : G1.imm b = none := by
                  cases hi : G1.imm b with
                  | none => rfl
                  | some cc =>
                    rcases fz.fresh b cc hi with h1 | ⟨p, z, k, C, h1, _, h3⟩
                    · rw [r.disj o _ b _ _ hget hblk] at h1; cases h1
                    · exact absurd h3 (alone p z k C h1)
                have r2 := fz.rel.giveImm hz himm fun p z k C hp hbp => by
                  rw [fz.blk] at hbp
                  exact alone p z k C (fz.sub p z hp) hbp
                have hle2 : G1.le (G1.addImm b c.toList) := Gho.le_addImm himm
                refine ⟨G1.addImm b c.toList, ⟨fz.blk, fun a cc e => hle2.2 a cc (fz.le a cc e), fun a cc e => ?_, fun p z hp => ?_, fz.next, r2⟩, ?_⟩
                · by_cases hab : a = b
                  · subst hab
                    exact .inr ⟨o, _, _, _, hget, hb.1, hblk⟩
                  · simp only [Gho.addImm, hab, if_false] at e
                    rcases fz.fresh a cc e with h1 | ⟨p, z, k, C, h1, h2, h3⟩
                    · exact .inl h1
                    · rw [H.get_kill] at h1
                      by_cases hpo : p = o
                      · rw [if_pos hpo] at h1; cases h1
                      · rw [if_neg hpo] at h1; exact .inr ⟨p, z, k, C, h1, h2, h3⟩
                · have := fz.sub p z hp
                  rw [H.get_kill] at this
                  by_cases hpo : p = o
                  · rw [if_pos hpo] at this; cases this
                  · rw [if_neg hpo] at this; exact this
                · have hl2 : ((rs.drop off).take len).length = len := by rw [List.length_take, List.length_drop]; omega
                  by_cases h0 : (rs.drop off).take len = []
                  · have hl0 : len = 0 := by rw [← hl2, h0]; rfl
                    rw [h0, hl0]
                    exact .vsE _ _ _ fun hf => by cases hf
                  · have hx := RVC.vs (ρ := ρ) (G := G1.addImm b c.toList) false ((rs.drop off).take len) k' b (off * k') (C - off) c.toList h0 e2
                      (fun x hx => hall x (List.mem_of_mem_drop (List.mem_of_mem_take hx))) (by simp [Gho.addImm]) (by
                        rw [flat_take (fun x hx => hall x (List.mem_of_mem_drop hx)), flat_drop hall, hl2]
                        have h6 := ((hv.mono hle2).drop (off * k')).take (len * k')
                        rw [List.drop_take, List.take_take] at h6
                        have h7 : len * k' ≤ rows.length * k' - off * k' := by
                          rw [← Nat.sub_mul]; exact Nat.mul_le_mul_right _ (by omega)
                        rwa [Nat.min_eq_left h7] at h6) (by rw [hl2]; omega) (fun hf => by cases hf)
                    rw [hl2] at hx
                    exact hx
              | _ => exact q2.elim
            · cases hf
          · cases hf
        · cases hf
      | _ =>
        simp only [frz, Option.some.injEq, Prod.mk.injEq] at hf
        obtain ⟨rfl, rfl⟩ := hf
        refine ⟨G, .refl r, ?_⟩
        first
          | exact .int _ _
          | exact .bool _
          | exact .str _
          | exact .nilp
          | exact .nilfn
          | (constructor <;> assumption)
          | (exact .ptr _ _ _ _ _ _ (by assumption))
          | (exact .rptr _ _ _ _ (by assumption) (by assumption))
          | (exact .vsE _ _ _ (by assumption))
          | (exact .fn _ _ _ (by assumption))
    · cases hc with
      | nil =>
        simp only [frzCells, Option.some.injEq, Prod.mk.injEq] at hf
        obtain ⟨rfl, rfl⟩ := hf
        exact ⟨G, .refl r, .nil⟩
      | cons a v as vs h1 h2 =>
        simp only [frzCells] at hf
        split at hf
        · rename_i a' h1' hfa
          split at hf
          · rename_i as' h2' hfs
            cases hf
            obtain ⟨G1, f1, v1⟩ := ih1 h a a' h1' G v hfa h1 r
            obtain ⟨G2, f2, v2⟩ := ih2 h1' as as' h' G1 vs hfs (h2.mono f1.le') f1.rel
            exact ⟨G2, f1.trans f2, .cons _ _ _ _ (v1.mono f2.le') v2⟩
          · cases hf
        · cases hf
    · cases c with
      | nil =>
        simp only [frzRows, Option.some.injEq, Prod.mk.injEq] at hf
        obtain ⟨rfl, rfl⟩ := hf
        exact ⟨G, .refl r, hc, rfl⟩
      | cons a as =>
        simp only [frzRows] at hf
        split at hf
        · rename_i a' h1' hfa
          split at hf
          · rename_i as' h2' hfs
            cases hf
            rw [List.flatten_cons] at hc
            have p1 := hc.take a.length
            have p2 := hc.drop a.length
            rw [List.take_left] at p1
            rw [List.drop_left] at p2
            obtain ⟨G1, f1, v1⟩ := ih2 h a a' h1' G _ hfa p1 r
            obtain ⟨G2, f2, v2, m2⟩ := ih3 h1' as as' h' G1 _ hfs (p2.mono f1.le') f1.rel
            refine ⟨G2, f1.trans f2, ?_, ?_⟩
            · rw [List.flatten_cons, ← List.take_append_drop a.length x]
              exact (v1.mono f2.le').append v2
            · rw [List.map_cons, List.map_cons, m2, v1.length_eq, ← p1.length_eq]
          · cases hf
        · cases hf
theorem frz_sim {f : Nat} {v v' : AV} {x : Value} (hf : frz f base h v = some (v', h')) (hv : RV ρ G v x) (r : Rel ρ pw base G h w) : ∃ G', Frz ρ pw base w G h G' h' ∧ RV ρ G' v' x := by
  cases f with
  | zero => simp [frz] at hf
  | succ f =>
    cases hv with
    | cell _ _ hc =>
      obtain ⟨G', f1, v1⟩ := (frz_all (ρ := ρ) w pw base (f + 1)).1 h v v' h' G x hf hc r
      exact ⟨G', f1, .cell _ _ v1⟩
    | agg cs vs hc =>
      simp only [frz] at hf
      split at hf
      · rename_i cs' h1 hfs
        cases hf
        obtain ⟨G', f1, v1⟩ := (frz_all (ρ := ρ) w pw base f).2.1 h cs cs' h' G vs hfs hc r
        exact ⟨G', f1, .agg _ _ v1⟩
      · cases hf
    | tup as vs hc =>
      simp only [frz, Option.some.injEq, Prod.mk.injEq] at hf
      obtain ⟨rfl, rfl⟩ := hf
      exact ⟨G, .refl r, .tup _ _ hc⟩
    | undef =>
      simp only [frz, Option.some.injEq, Prod.mk.injEq] at hf
      obtain ⟨rfl, rfl⟩ := hf
      exact ⟨G, .refl r, .undef⟩
    | any x =>
      simp only [frz, Option.some.injEq, Prod.mk.injEq] at hf
      obtain ⟨rfl, rfl⟩ := hf
      exact ⟨G, .refl r, .any _⟩
end
end Go.Am
namespace Go.Am
section
variable {P : Program} {ρ : Nat → FuncId} {G : Gho} {pw : Pw} {base : Nat} {h h' : H} {w : World} {e : Env} {act : Act} {v : AV}
theorem okElem {t : TypeId} {f : TypeId → Bool} (hok : (match P.underlying t with | some (.slice el) => f el | _ => false) = true) : ∃ el, P.underlying t = some (.slice el) ∧ f el = true := by
  cases hu : P.underlying t with
  | none => simp [hu] at hok
  | some d => cases d <;> simp [hu] at hok; exact ⟨_, rfl, hok⟩
theorem run_value {s : Sem Value} {v' : Value} {w w' : World} (h : s.run P w = .ok v' w') : (do pure (Next.value (← s)) : Sem Next).run P w = .ok (.value v') w' := by simp [h]
theorem execOp_bin (ev : Operand → Value) {o : Oper} {op : BinOp} {t : TypeId} {x y : Operand} {yt : TypeId} (ho : o.op = .binOp op t x y yt) :
    execOp ev o = (do pure (Next.value (← (do eqGuard op t x y (ev x) (ev y); Go.binOp op t (ev x) (ev y) : Sem Value)))) := by unfold execOp; rw [ho]
theorem execOp_conv (ev : Operand → Value) {o : Oper} {s d : TypeId} {x : Operand} (ho : o.op = .convert s d x) :
    execOp ev o = (do pure (Next.value (← convert s d (ev x)))) := by unfold execOp; rw [ho]
theorem execOp_index (ev : Operand → Value) {o : Oper} {t : TypeId} {x i : Operand} (ho : o.op = .index t x i) :
    execOp ev o = (do pure (Next.value (← Instr.index t (ev x) (ev i)))) := by unfold execOp; rw [ho]
theorem iaddr_array_sim {t el : TypeId} {n : Nat} (hu : P.underlying t = some (.array n el)) {k : Nat} (hk : szIs P el k = true) {x i : AV} {vx vi : Value} (hx : RV ρ G x vx) (hi : RV ρ G i vi) {j : Nat} (hj : natOf i = some j)
    (hv : iaddrA n k j x = some v) : ∃ v', (Instr.indexAt t vx vi).run P w = .ok v' w ∧ RV ρ G v v' := by
  obtain ⟨ki, rfl⟩ := natOf_some hj
  have := hi.ofInt; subst this
  have hsz := run_szIs (P := P) hk w
  have key : ∀ b off, j < n → (Instr.indexAt t (.pointer (some ⟨b, off, none⟩)) (.int ki j)).run P w = .ok (.pointer (some ⟨b, off + j * k, none⟩)) w := by
    intro b off hl
    simp [Instr.indexAt, Instr.sureAddr, asIntOf, run_underlying hu, hsz, add_plain, hl]
  cases x with
  | ptr o i f =>
    simp only [iaddrA] at hv
    split at hv
    · rename_i hl; cases hv
      cases hx with | cell _ _ hx => cases hx with
        | ptr o i off b k' C hb =>
          refine ⟨_, key b _ hl, .cell _ _ ?_⟩
          rw [Nat.add_assoc]; exact .ptr _ _ _ b k' C hb
    · cases hv
  | rptr cs =>
    simp only [iaddrA] at hv
    split at hv
    · rename_i hl; cases hv
      cases hx with | cell _ _ hx => cases hx with
        | rptr cs b off cells hb hc =>
          refine ⟨_, key b _ hl, .cell _ _ (.rptr _ b _ cells hb ?_)⟩
          have := hc.drop (j * k)
          rwa [List.drop_take, List.drop_drop, ← List.length_drop] at this
    · cases hv
  | _ => simp [iaddrA] at hv
theorem RV.ofPtr {o i off : Nat} {x : Value} (h : RV ρ G (.ptr o i off) x) : ∃ a, x = .pointer (some a) := by cases h with | cell _ _ h => cases h; exact ⟨_, rfl⟩
theorem RV.ofRptr {cs : List AV} {x : Value} (h : RV ρ G (.rptr cs) x) : ∃ a, x = .pointer (some a) := by cases h with | cell _ _ h => cases h; exact ⟨_, rfl⟩
theorem RV.ofFn {f : Nat} {cs : List AV} {x : Value} (h : RV ρ G (.fn f cs) x) : ∃ vs : List Value, x = .func (.func (ρ f)) #[] vs.toArray ∧ RVCL ρ G cs vs := by cases h with | cell _ _ h => cases h with | fn f caps vals h => exact ⟨vals, rfl, h⟩
theorem RVL.toC {as : List AV} {vs : List Value} (h : RVL ρ G as vs) (hk : as.all (fun a => a.okv && !a.isAgg) = true) : RVCL ρ G as vs := by
  induction as generalizing vs with
  | nil => cases h; exact .nil
  | cons a as ih => cases h with | cons _ v _ vs h1 h2 =>
    simp only [List.all_cons, Bool.and_eq_true] at hk
    refine .cons _ _ _ _ ?_ (ih h2 hk.2)
    cases h1 with
    | cell _ _ h => exact h
    | agg => simp [AV.isAgg] at hk
    | tup => simp [AV.okv] at hk
    | undef => simp [AV.okv] at hk
    | any => simp [AV.okv] at hk
set_option maxHeartbeats 4000000 in
theorem storeAt_next {h1 : H} {sz : Nat} {a x : AV} (hs : storeAt base h sz a x = some h1) : h.next ≤ h1.next := by
  unfold storeAt at hs
  split at hs
  · split at hs
    · split at hs
      · split at hs
        · split at hs
          · cases hs; exact Nat.le_refl _
          · cases hs
        · cases hs
      · cases hs
    · cases hs
  · cases hs
theorem step_sim (o : Oper) (a : AOp) (hok : okOp P ρ o.op a = true) (he : RE ρ G e act.tmps) (r : Rel ρ pw base G h w) (hs : stepOp base e h a = some (v, h')) :
    OpAns P ρ pw base G (execOp act.eval o) w h v h' := by
  cases a with
  | mov x =>
    simp only [stepOp, Option.some.injEq, Prod.mk.injEq] at hs
    obtain ⟨rfl, rfl⟩ := hs
    cases ho : o.op <;> rw [ho] at hok <;> simp only [okOp, Bool.false_eq_true] at hok
    · exact .val r (by simp [execOp, ho]) (okO_sound hok he)
    · exact .val r (by simp [execOp, ho]) (okO_sound hok he)
  | pick c x y =>
    cases ho : o.op <;> rw [ho] at hok <;> simp only [okOp, Bool.false_eq_true, Bool.and_eq_true] at hok
    obtain ⟨⟨h1, h2⟩, h3⟩ := hok
    have hc := okO_sound h1 he
    simp only [stepOp] at hs
    split at hs
    · rename_i t ht
      simp only [Option.some.injEq, Prod.mk.injEq] at hs
      obtain ⟨rfl, rfl⟩ := hs
      rw [ht] at hc
      have hcb := hc.ofBool
      cases t
      · exact .val r (by simp [execOp, ho, hcb, asBool]) (okO_sound h3 he)
      · exact .val r (by simp [execOp, ho, hcb, asBool]) (okO_sound h2 he)
    · cases hs
  | alloc z =>
    cases ho : o.op <;> rw [ho] at hok <;> simp only [okOp, Bool.false_eq_true, Bool.and_eq_true, decide_eq_true_eq] at hok
    rename_i t
    simp only [stepOp, Option.some.injEq, Prod.mk.injEq] at hs
    obtain ⟨rfl, rfl⟩ := hs
    by_cases hp : plainZ z = true
    case neg =>
      obtain ⟨t', rfl⟩ : ∃ t', z = [.fn t' []] := by
        unfold plainZ at hp
        split at hp
        · exact ⟨_, rfl⟩
        · exact absurd rfl hp
      simp only [okAlloc, Bool.and_eq_true, beq_iff_eq] at hok
      obtain ⟨rfl, hz⟩ := hok
      obtain ⟨zv, g1, g2⟩ := run_zeroBld hz w
      have hr : RVCL ρ G [.nilp, .vs true []] zv.cells.toList := by
        rw [g2]
        exact .cons _ _ _ _ .nilp (.cons _ _ _ _ (.vsE _ _ _ fun _ => rfl) .nil)
      have hle : G.le (G.add h.next (w.heap.size, 2, 1)) := Gho.le_add r.blk_next
      have n3 := r.new (w' := w.alloc (.cells zv.cells t)) (.bld t .nilp (.vs true [])) (.cells zv.cells t (0, 0)) 2 1 rfl ⟨rfl, rfl, rfl, rfl, hr.mono hle, fun _ => by rw [g2]; rfl⟩ rfl
      exact ⟨_, .value (.pointer (some ⟨w.heap.size, 0, none⟩)), _, w.alloc (.cells zv.cells t), Ext.add pw _ r.blk_next (r.pw_size (Nat.le_refl _)), by simp [execOp, ho, Instr.alloc, g1, newVar, newRow], .inl rfl, .cell _ _ (by simpa using RVC.ptr (ρ := ρ) (G := G.add h.next (w.heap.size, 2, 1)) h.next 0 0 w.heap.size 2 1 (by simp [Gho.add])), n3⟩
    rw [okAlloc_plain hp, Bool.and_eq_true, decide_eq_true_eq] at hok
    rw [objOf_plain hp]
    obtain ⟨hz, hz1⟩ := hok
    obtain ⟨zv, g1, g2, g3⟩ := run_zeroIs hz w
    have hr : RVCL ρ G z zv.cells.toList := okCL_sound g2
    have hl := hr.length_eq
    obtain ⟨n1, n2, n3⟩ := new_sim (ρ := ρ) r z.length 1 [z] zv.cells t (0, 0) hz1 (by simp at hl; omega) (by simp) (by simp) (by rw [List.take_of_length_le (by simp at hl ⊢; omega)]; simpa using hr) (.zero _) (w' := w.alloc (.cells zv.cells t)) rfl
    exact ⟨_, .value (.pointer (some ⟨w.heap.size, 0, none⟩)), _, w.alloc (.cells zv.cells t), n1, by simp [execOp, ho, Instr.alloc, g1, newVar, newRow], .inl rfl, .cell _ _ (by simpa using RVC.ptr (ρ := ρ) h.next 0 0 _ _ _ n2), n3⟩
  | box x =>
    cases ho : o.op <;> rw [ho] at hok <;> simp only [okOp, Bool.false_eq_true] at hok
    rename_i t y
    simp only [stepOp] at hs
    split at hs
    · rename_i hc
      obtain ⟨c1, c2⟩ := hc
      simp only [Option.some.injEq, Prod.mk.injEq] at hs
      obtain ⟨rfl, rfl⟩ := hs
      have hr := (okO_sound hok he).cells c1
      have hl := hr.length_eq
      obtain ⟨n1, n2, n3⟩ := new_sim (ρ := ρ) r (x.ev e).cells.length 1 [(x.ev e).cells] (act.eval y).cells t (0, 0) c2 (by simp at hl; omega) (by simp) (by simp) (by rw [List.take_of_length_le (by simp at hl ⊢; omega)]; simpa using hr) (.zero _) (w' := w.alloc (.cells (act.eval y).cells t)) rfl
      exact ⟨_, .value (.pointer (some ⟨w.heap.size, 0, none⟩)), _, w.alloc (.cells (act.eval y).cells t), n1, by simp [execOp, ho, Instr.box, newVar, newRow], .inl rfl, .cell _ _ (by simpa using RVC.ptr (ρ := ρ) h.next 0 0 _ _ _ n2), n3⟩
    · cases hs
  | build z qs =>
    cases ho : o.op <;> rw [ho] at hok <;> (try (simp only [okOp, Bool.false_eq_true] at hok; done))
    rename_i t ps
    simp only [stepOp, Option.map_eq_some_iff, Prod.mk.injEq] at hs
    obtain ⟨cs, hf, rfl, rfl⟩ := hs
    obtain ⟨v', h1, h2⟩ := build_sim (w := w) he hok hf
    exact .val r (by simp [execOp, ho, h1]) h2
  | lit rr k z n qs =>
    cases ho : o.op <;> rw [ho] at hok <;> (try (simp only [okOp, Bool.false_eq_true] at hok; done))
    rename_i t n' ps
    simp only [stepOp] at hs
    split at hs
    · rename_i rows hf
      obtain ⟨el, c, h1, h2, h3, h4, h5, h6, h7⟩ := lit_sim (w := w) he hok hf
      subst h3
      have hv : RVCL ρ G rows.flatten (c.toList.take (rows.length * k)) := by
        rw [List.take_of_length_le (by rw [h4]; simp; omega)]; exact h7
      split at hs
      · simp only [Option.some.injEq, Prod.mk.injEq] at hs
        obtain ⟨rfl, rfl⟩ := hs
        obtain ⟨n1, n2, n3⟩ := new_sim (ρ := ρ) r k n' rows c el (0, 0) h2 h5 (by omega) h6 hv (.zero _) (w' := w.alloc (.cells c el)) rfl
        refine ⟨_, .value (.slice (some ⟨w.heap.size, 0, none⟩) n' n'), _, w.alloc (.cells c el), n1, by simp [execOp, ho, h1], .inl rfl, .cell _ _ ?_, n3⟩
        simpa using RVC.ref (ρ := ρ) h.next 0 n' _ k n' n2 (by omega)
      · simp only [Option.some.injEq, Prod.mk.injEq] at hs
        obtain ⟨rfl, rfl⟩ := hs
        obtain ⟨G', n1, n2, n3⟩ := newImm_sim (ρ := ρ) r k true rows c el (0, 0) n' n' h2 h6 hv h4.symm (Nat.le_refl _) (fun _ => rfl) (w' := w.alloc (.cells c el)) rfl
        exact ⟨G', .value (.slice (some ⟨w.heap.size, 0, none⟩) n' n'), _, w.alloc (.cells c el), n1, by simp [execOp, ho, h1], .inl rfl, .cell _ _ n2, n3⟩
    · cases hs
  | load g sz x =>
    cases ho : o.op <;> rw [ho] at hok <;> simp only [okOp, Bool.false_eq_true, Bool.and_eq_true] at hok
    obtain ⟨⟨h1, h2⟩, h3⟩ := hok
    simp only [stepOp, Option.map_eq_some_iff, Prod.mk.injEq] at hs
    obtain ⟨v1, hl, rfl, rfl⟩ := hs
    obtain ⟨v', q1, q2⟩ := load_sim r (okO_sound h3 he) hl h1 h2
    exact .val r (by simp [execOp, ho, q1]) q2
  | store sz x y =>
    cases ho : o.op <;> rw [ho] at hok <;> simp only [okOp, Bool.false_eq_true, Bool.and_eq_true] at hok
    obtain ⟨⟨h1, h2⟩, h3⟩ := hok
    simp only [stepOp, Option.map_eq_some_iff, Prod.mk.injEq] at hs
    obtain ⟨h1', hl, rfl, rfl⟩ := hs
    obtain ⟨w', q1, q2⟩ := store_sim r (okO_sound h2 he) (okO_sound h3 he) hl h1
    exact ⟨G, .skip, Go.undef, w', Ext.refl pw G (storeAt_next hl), by simp [execOp, ho, q1], .inr ⟨rfl, rfl⟩, .undef, q2⟩
  | nilchk x =>
    cases ho : o.op <;> rw [ho] at hok <;> simp only [okOp, Bool.false_eq_true] at hok
    have hx := okO_sound hok he
    simp only [stepOp] at hs
    split at hs
    · rename_i o' i' off' hxe
      simp only [Option.some.injEq, Prod.mk.injEq] at hs
      obtain ⟨rfl, rfl⟩ := hs
      rw [hxe] at hx
      obtain ⟨ad, had⟩ := hx.ofPtr
      exact .val r (by simp [execOp, ho, had]; rfl) (by rw [had] at hx; exact hx)
    · rename_i cs hxe
      simp only [Option.some.injEq, Prod.mk.injEq] at hs
      obtain ⟨rfl, rfl⟩ := hs
      rw [hxe] at hx
      obtain ⟨ad, had⟩ := hx.ofRptr
      exact .val r (by simp [execOp, ho, had]; rfl) (by rw [had] at hx; exact hx)
    · cases hs
  | bin op x y =>
    cases ho : o.op <;> rw [ho] at hok <;> simp only [okOp, Bool.false_eq_true, Bool.and_eq_true, decide_eq_true_eq] at hok
    rename_i op' t ya yb yt
    obtain ⟨⟨rfl, h2⟩, h3⟩ := hok
    simp only [stepOp, Option.map_eq_some_iff, Prod.mk.injEq] at hs
    obtain ⟨v1, hl, rfl, rfl⟩ := hs
    obtain ⟨v', q1, q2⟩ := bin_sim (P := P) (w := w) t ya yb (okO_sound h2 he) (okO_sound h3 he) hl
    refine .val (v' := v') r ?_ q2
    rw [execOp_bin _ ho]; exact run_value q1
  | eqk k neg x y =>
    cases ho : o.op <;> rw [ho] at hok <;> simp only [okOp, Bool.false_eq_true, Bool.and_eq_true, decide_eq_true_eq] at hok
    rename_i op' t ya yb yt
    obtain ⟨⟨⟨rfl, h1⟩, h2⟩, h3⟩ := hok
    simp only [stepOp, Option.map_eq_some_iff, Prod.mk.injEq] at hs
    obtain ⟨v1, hl, rfl, rfl⟩ := hs
    have q1 := eqk_sim (P := P) (w := w) (neg := neg) ya yb (okO_sound h2 he) (okO_sound h3 he) hl h1
    refine .val r ?_ (.cell _ _ (.bool _))
    rw [execOp_bin _ ho]; exact run_value q1
  | eqc ks neg x y =>
    cases ho : o.op <;> rw [ho] at hok <;> simp only [okOp, Bool.false_eq_true, Bool.and_eq_true, decide_eq_true_eq] at hok
    rename_i op' t ya yb yt
    obtain ⟨⟨⟨rfl, h1⟩, h2⟩, h3⟩ := hok
    simp only [stepOp] at hs
    split at hs
    · rename_i xs ys hx hy
      simp only [Option.map_eq_some_iff, Prod.mk.injEq] at hs
      obtain ⟨v1, hl, rfl, rfl⟩ := hs
      have hx' := okO_sound h2 he; rw [hx] at hx'
      have hy' := okO_sound h3 he; rw [hy] at hy'
      have q1 := eqc_sim (P := P) (w := w) (neg := neg) ya yb hx' hy' hl h1
      refine .val r ?_ (.cell _ _ (.bool _))
      rw [execOp_bin _ ho]; exact run_value q1
    · cases hs
  | un op x =>
    cases ho : o.op <;> rw [ho] at hok <;> simp only [okOp, Bool.false_eq_true, Bool.and_eq_true, decide_eq_true_eq] at hok
    obtain ⟨rfl, h2⟩ := hok
    have hx := okO_sound h2 he
    simp only [stepOp] at hs
    split at hs
    · rename_i b hb
      simp only [Option.some.injEq, Prod.mk.injEq] at hs
      obtain ⟨rfl, rfl⟩ := hs
      rw [hb] at hx
      exact .val r (by simp [execOp, ho, hx.ofBool, Op.unary]) (.cell _ _ (.bool _))
    · rename_i k n hb
      simp only [Option.some.injEq, Prod.mk.injEq] at hs
      obtain ⟨rfl, rfl⟩ := hs
      rw [hb] at hx
      exact .val r (by simp [execOp, ho, hx.ofInt, Op.unary, Op.intArith]) (.cell _ _ (.int _ _))
    · cases hs
  | mkfn f caps =>
    cases ho : o.op <;> rw [ho] at hok <;> (try (simp only [okOp, Bool.false_eq_true] at hok; done))
    rename_i fn first cap
    cases fn <;> (try (simp only [okOp, Bool.false_eq_true] at hok; done))
    simp only [okOp, Bool.and_eq_true, beq_iff_eq, Array.isEmpty_iff] at hok
    obtain ⟨⟨h1, h2⟩, h3⟩ := hok
    subst h1 h2
    simp only [stepOp] at hs
    split at hs
    · rename_i hall
      simp only [Option.some.injEq, Prod.mk.injEq] at hs
      obtain ⟨rfl, rfl⟩ := hs
      have hl := (okOs_sound h3 he).toC hall
      refine .val (v' := .func (.func (ρ f)) #[] (cap.map act.eval)) r (by simp [execOp, ho, Instr.makeFunc]) (.cell _ _ ?_)
      have := RVC.fn (ρ := ρ) f _ _ hl
      rwa [show (List.map act.eval cap.toList).toArray = cap.map act.eval from by apply Array.ext'; simp] at this
    · cases hs
  | faddr x off =>
    cases ho : o.op <;> rw [ho] at hok <;> (try (simp only [okOp, Bool.false_eq_true] at hok; done))
    rename_i t y f
    simp only [okOp, Bool.and_eq_true] at hok
    obtain ⟨h1, h2⟩ := hok
    cases hu : P.underlying t with
    | none => simp [hu] at h1
    | some d =>
      cases d <;> (try (simp [hu] at h1; done))
      case struct fs =>
        simp only [hu] at h1
        cases hf : fs[f]? with
        | none => simp [hf] at h1
        | some fd =>
          simp only [hf, Bool.and_eq_true, beq_iff_eq] at h1
          obtain ⟨rfl, h1⟩ := h1
          cases hi : P.info? fd.type with
          | none => simp [hi] at h1
          | some i =>
            simp only [hi, decide_eq_true_eq] at h1
            simp only [stepOp, Option.map_eq_some_iff, Prod.mk.injEq] at hs
            obtain ⟨v1, hv, rfl, rfl⟩ := hs
            obtain ⟨v', q1, q2⟩ := faddr_sim (P := P) (w := w) hu hf (n := i.size - 1) (by simp [hi]; omega) (okO_sound h2 he) hv
            exact .val r (by simp [execOp, ho, q1]) q2
  | field x off g sz =>
    cases ho : o.op <;> rw [ho] at hok <;> (try (simp only [okOp, Bool.false_eq_true] at hok; done))
    rename_i t y f
    simp only [okOp, Bool.and_eq_true] at hok
    obtain ⟨h1, h2⟩ := hok
    cases hu : P.underlying t with
    | none => simp [hu] at h1
    | some d =>
      cases d <;> (try (simp [hu] at h1; done))
      case struct fs =>
        simp only [hu] at h1
        cases hf : fs[f]? with
        | none => simp [hf] at h1
        | some fd =>
          simp only [hf, Bool.and_eq_true, beq_iff_eq] at h1
          obtain ⟨⟨rfl, h3⟩, h4⟩ := h1
          simp only [stepOp] at hs
          split at hs
          · rename_i cs hx
            simp only [Option.map_eq_some_iff, Prod.mk.injEq] at hs
            obtain ⟨v1, hp, rfl, rfl⟩ := hs
            obtain ⟨v', q1, q2⟩ := field_sim (P := P) (w := w) hu hf (okO_sound h2 he) hx hp h3 h4
            exact .val r (by simp [execOp, ho, q1]) q2
          · cases hs
  | slice x k lo hi mx =>
    cases ho : o.op <;> rw [ho] at hok <;> (try (simp only [okOp, Bool.false_eq_true] at hok; done))
    rename_i t y lo' hi' mx'
    simp only [okOp, Bool.and_eq_true, Bool.or_eq_true] at hok
    obtain ⟨⟨⟨⟨⟨h1, h2⟩, h3⟩, h4⟩, h5⟩, h6⟩ := hok
    simp only [stepOp, Option.map_eq_some_iff, Prod.mk.injEq] at hs
    obtain ⟨v1, hl, rfl, rfl⟩ := hs
    have hu : (P.underlying t = some .string ∧ k = 0) ∨ ∃ el, P.underlying t = some (.slice el) ∧ szIs P el k = true ∧ 1 ≤ k := by
      cases hu : P.underlying t with
      | none => simp [hu] at h1
      | some d => cases d <;> simp [hu] at h1
                  · exact .inl ⟨rfl, h1⟩
                  · exact .inr ⟨_, rfl, h1⟩
    obtain ⟨v', q1, q2⟩ := slice_sim (P := P) (w := w) hu (okO_sound h2 he) he h3 h4 h5 (fun hm => h6.resolve_left (by intro h6; simp at h6; rw [h6] at hm; cases hm)) hl
    exact .val r (by simp [execOp, ho, q1]) q2
  | conv c x =>
    cases ho : o.op <;> rw [ho] at hok <;> (try (simp only [okOp, Bool.false_eq_true] at hok; done))
    rename_i s d y
    simp only [okOp, Bool.and_eq_true] at hok
    obtain ⟨h1, h2⟩ := hok
    have hx := okO_sound h2 he
    cases c with
    | i2i k =>
      simp only [stepOp] at hs
      split at hs
      · rename_i k2 n hxe
        simp only [Option.some.injEq, Prod.mk.injEq] at hs
        obtain ⟨rfl, rfl⟩ := hs
        rw [hxe] at hx
        simp only [okConv] at h1
        split at h1
        · rename_i k3 k4 g1 g2
          have : k = k4 := by simpa using h1
          subst this
          exact .val r (by rw [execOp_conv _ ho]; exact run_value (by rw [hx.ofInt]; simp [convert, run_underlying g1, run_underlying g2, Conv.intToInt])) (.cell _ _ (.int _ _))
        · cases h1
      · cases hs
    | i2s =>
      simp only [stepOp] at hs
      split at hs
      · rename_i k' n hxe
        simp only [Option.some.injEq, Prod.mk.injEq] at hs
        obtain ⟨rfl, rfl⟩ := hs
        rw [hxe] at hx
        simp only [okConv] at h1
        split at h1
        · rename_i k3 g1 g2
          exact .val r (by rw [execOp_conv _ ho]; exact run_value (by rw [hx.ofInt]; simp [convert, run_underlying g1, run_underlying g2, Conv.intToString]; rfl)) (by rw [← utf8_eq]; exact .cell _ _ (.str _))
        · cases h1
      · cases hs
    | s2s =>
      simp only [stepOp] at hs
      split at hs
      · rename_i s' hxe
        simp only [Option.some.injEq, Prod.mk.injEq] at hs
        obtain ⟨rfl, rfl⟩ := hs
        rw [hxe] at hx
        obtain ⟨b, hb, rfl⟩ := hx.ofStr
        simp only [okConv] at h1
        split at h1
        · rename_i g1 g2
          exact .val r (by rw [execOp_conv _ ho]; exact run_value (by rw [hb]; simp [convert, run_underlying g1, run_underlying g2])) (.cell _ _ (.str _))
        · cases h1
      · cases hs
    | s2b rr =>
      simp only [stepOp] at hs
      split at hs
      · rename_i s' hxe
        rw [hxe] at hx
        obtain ⟨b, hb, rfl⟩ := hx.ofStr
        have htt : ∃ el, P.underlying s = some .string ∧ P.underlying d = some (.slice el) ∧ P.underlying el = some (.int .u8) := by
          simp only [okConv] at h1
          split at h1
          · rename_i el g1 g2
            split at h1
            · rename_i g3; exact ⟨el, g1, g2, g3⟩
            · cases h1
          · cases h1
        obtain ⟨el, g1, g2, g3⟩ := htt
        have hrun := run_bytes_of_string w s d el b g1 g2 g3
        have hge := grownCap_ge w b.size 0 el
        have hsz : (bytesRow b (grownCap w b.size 0 el)).size = grownCap w b.size 0 el * 1 := by simp [bytesRow]; omega
        have hlen : (bytesAV (bytesOf b)).length = b.size := by simp [bytesAV, bytesOf_length]
        have hv : RVCL ρ G (bytesAV (bytesOf b)).flatten ((bytesRow b (grownCap w b.size 0 el)).toList.take ((bytesAV (bytesOf b)).length * 1)) := by
          rw [hlen, Nat.mul_one, bytesRow_take]; exact bytesAV_rel _
        have hex : (execOp act.eval o).run P w = .ok (.value (.slice (some ⟨w.heap.size, 0, none⟩) b.size (grownCap w b.size 0 el))) (w.drew.alloc (.cells (bytesRow b (grownCap w b.size 0 el)) el ((bytesRow b (grownCap w b.size 0 el)).size, (bytesRow b (grownCap w b.size 0 el)).size + 1))) := by
          rw [execOp_conv _ ho]; exact run_value (by rw [hb]; exact hrun)
        split at hs
        · simp only [Option.some.injEq, Prod.mk.injEq] at hs
          obtain ⟨rfl, rfl⟩ := hs
          obtain ⟨n1, n2, n3⟩ := new_sim (ρ := ρ) r 1 _ (bytesAV (bytesOf b)) _ el _ (Nat.le_refl _) hsz (by rw [hlen]; exact hge) (bytesAV_len _) hv (.inr ⟨rfl, Nat.le_refl _⟩) (w' := w.drew.alloc (.cells (bytesRow b (grownCap w b.size 0 el)) el ((bytesRow b (grownCap w b.size 0 el)).size, (bytesRow b (grownCap w b.size 0 el)).size + 1))) rfl
          refine ⟨_, _, _, _, n1, hex, .inl rfl, .cell _ _ ?_, n3⟩
          have := RVC.ref (ρ := ρ) h.next 0 b.size _ 1 _ n2 (by omega)
          rw [bytesOf_length]
          simpa using this
        · simp only [Option.some.injEq, Prod.mk.injEq] at hs
          obtain ⟨rfl, rfl⟩ := hs
          obtain ⟨G', n1, n2, n3⟩ := newImm_sim (ρ := ρ) r 1 false (bytesAV (bytesOf b)) _ el _ b.size _ (Nat.le_refl _) (bytesAV_len _) hv hlen.symm hge (fun hf => by cases hf) (w' := w.drew.alloc (.cells (bytesRow b (grownCap w b.size 0 el)) el ((bytesRow b (grownCap w b.size 0 el)).size, (bytesRow b (grownCap w b.size 0 el)).size + 1))) rfl
          exact ⟨G', _, _, _, n1, hex, .inl rfl, .cell _ _ n2, n3⟩
      · cases hs
    | b2s =>
      simp only [stepOp] at hs
      split at hs
      · rename_i hxe
        simp only [Option.map_eq_some_iff, Prod.mk.injEq] at hs
        obtain ⟨v1, hl, rfl, rfl⟩ := hs
        obtain ⟨v', q1, q2⟩ := b2s_sim r h1 hx (by rw [hxe]; rfl) (by rw [hxe]; exact hl)
        exact .val r (by rw [execOp_conv _ ho]; exact run_value q1) q2
      · rename_i hxe
        simp only [Option.map_eq_some_iff, Prod.mk.injEq] at hs
        obtain ⟨v1, hl, rfl, rfl⟩ := hs
        obtain ⟨v', q1, q2⟩ := b2s_sim r h1 hx (by rw [hxe]; rfl) (by rw [hxe]; exact hl)
        exact .val r (by rw [execOp_conv _ ho]; exact run_value q1) q2
      · cases hs
    | mark =>
      simp only [okConv, Bool.and_eq_true, beq_iff_eq] at h1
      obtain ⟨rfl, h1⟩ := h1
      have hel : ∃ el, P.underlying s = some (.slice el) ∧ P.underlying el = some (.int .u8) := by
        split at h1
        · rename_i el g1
          split at h1
          · rename_i g3; exact ⟨el, g1, g3⟩
          · cases h1
        · cases h1
      obtain ⟨el, g1, g3⟩ := hel
      simp only [stepOp] at hs
      split at hs
      · rename_i o1 k off n hxe
        rw [hxe] at hx
        by_cases hk1 : k = 1
        case neg => rw [if_neg hk1] at hs; cases hs
        rw [if_pos hk1] at hs
        generalize frzFuel = f at hs
        have hobj : ∃ k' rows, h.get o1 = some (.arr k' rows) ∧ base ≤ o1 := by
          cases f with
          | zero => simp [frz] at hs
          | succ f =>
            simp only [frz] at hs
            split at hs
            · rename_i k' rows hobj
              split at hs
              · rename_i hb; exact ⟨k', rows, hobj, hb.1⟩
              · cases hs
            · cases hs
        obtain ⟨k', rows, hobj, hb⟩ := hobj
        obtain ⟨w', q1, q2⟩ := mark_sim r g1 g3 hx hobj hb hk1
        obtain ⟨G', f1, f2⟩ := frz_sim hs hx q2
        exact ⟨G', _, _, w', Frz.ext q2 f1, by rw [execOp_conv _ ho]; exact run_value q1, .inl rfl, f2, f1.rel⟩
      · cases hs
  | mk rr k z l c =>
    cases ho : o.op <;> rw [ho] at hok <;> (try (simp only [okOp, Bool.false_eq_true] at hok; done))
    rename_i t l' c'
    simp only [okOp] at hok
    obtain ⟨el, hu, hok⟩ := okElem (f := fun el => szIs P el k && decide (1 ≤ k) && zeroIs P el z && bytesLe P el 1000000000 (2 ^ 47) && okO ρ l' l && okO ρ c' c) hok
    simp only [Bool.and_eq_true, decide_eq_true_eq] at hok
    obtain ⟨⟨⟨⟨⟨g1, g2⟩, g3⟩, g4⟩, g5⟩, g6⟩ := hok
    simp only [stepOp] at hs
    split at hs
    · rename_i n m hn hm
      split at hs
      · rename_i hc
        obtain ⟨rfl, hlt⟩ := hc
        obtain ⟨k1, hk1⟩ := natOf_some hn
        obtain ⟨k2, hk2⟩ := natOf_some hm
        have hl := okO_sound g5 he; rw [hk1] at hl
        have hcc := okO_sound g6 he; rw [hk2] at hcc
        obtain ⟨zv, z1, z2, z3⟩ := run_zeroIs g3 w
        have hs' := run_szIs (P := P) g1 w
        have hr : RVCL ρ G z zv.cells.toList := okCL_sound z2
        have hzl := hr.length_eq
        have hk : z.length = k := by
          have a1 := run_szIs (P := P) z3 w
          rw [hs'] at a1; cases a1; rfl
        have hzs : zv.cells.size = k := by simp at hzl; omega
        have hbl : ∃ i, P.info? el = some i ∧ 1000000000 * i.bytes ≤ 2 ^ 47 := by
          unfold bytesLe at g4
          cases hi : P.info? el with
          | none => simp [hi] at g4
          | some i => simp only [hi, decide_eq_true_eq] at g4; exact ⟨i, rfl, g4⟩
        obtain ⟨ie, hi, hbl⟩ := hbl
        have hrowk : ∀ x ∈ List.replicate n z, x.length = k := fun x hx => by rw [List.eq_of_mem_replicate hx]; exact hk
        have harr : ∃ C : Array Value, C.toList = (List.replicate n zv.cells.toList).flatten ∧ C.size = n * k ∧
            (Instr.makeSlice t (act.eval l') (act.eval c')).run P w = .ok (.slice (some ⟨w.heap.size, 0, none⟩) n n) (w.alloc (.cells C el)) := by
          have hw1 : IntKind.i64.wrap (n : Int) = n := by
            simp [IntKind.wrap, IntKind.bits, IntKind.signed]; omega
          have hnb : n * ie.bytes ≤ 2 ^ 47 := Nat.le_trans (Nat.mul_le_mul_right _ (by omega)) hbl
          have ht : ¬ ((ie.bytes : Int) * (n : Int) > 2 ^ 48) := by
            rw [Int.mul_comm, ← Int.natCast_mul]; omega
          have hinf : (typeInfo el).run P w = .ok ie w := by simp [typeInfo, hi]
          have ht2 : ¬ (281474976710656 < (ie.bytes : Int) * (n : Int)) := by simpa using ht
          by_cases h0 : n = 0
          · subst h0
            refine ⟨#[], by simp, by simp, ?_⟩
            rw [hl.ofInt, hcc.ofInt]
            have hz0 : IntKind.i64.wrap 0 = 0 := by decide
            simp [Instr.makeSlice, run_underlying hu, asInt, asIntOf, hinf, hs', newRow, run_askRoom, hz0]
            rw [show Array.map (fun _ => (default : Value)) (Array.range 0) = #[] from by apply Array.ext'; simp]
          · have hpos : ¬ (n * k = 0) := by
              intro hm
              rcases Nat.mul_eq_zero.1 hm with hm | hm <;> omega
            refine ⟨(Array.range (n * k)).map (fun j => zv.cells[j % zv.cells.size]!), ?_, by simp, ?_⟩
            · have := zeros_list zv.cells n
              rw [hzs] at this; rw [hzs]; exact this
            · rw [hl.ofInt, hcc.ofInt]
              have hneg : ¬ ((n : Int) < 0) := by omega
              simp [Instr.makeSlice, run_underlying hu, asInt, asIntOf, hinf, hs', newRow, run_askRoom, hw1, ht2, hneg, z1]
              exact fun hm => absurd hm hpos
        obtain ⟨C, hC1, hC2, hrun⟩ := harr
        have hv : RVCL ρ G (List.replicate n z).flatten (C.toList.take ((List.replicate n z).length * k)) := by
          rw [List.take_of_length_le (by simp; omega), hC1]; exact hr.reps n
        split at hs
        · simp only [Option.some.injEq, Prod.mk.injEq] at hs
          obtain ⟨rfl, rfl⟩ := hs
          obtain ⟨n1, n2, n3⟩ := new_sim (ρ := ρ) r k n (List.replicate n z) C el (0, 0) g2 hC2 (by simp) hrowk hv (.zero _) (w' := w.alloc (.cells C el)) rfl
          refine ⟨_, .value (.slice (some ⟨w.heap.size, 0, none⟩) n n), _, w.alloc (.cells C el), n1, by simp [execOp, ho, hrun], .inl rfl, .cell _ _ ?_, n3⟩
          simpa using RVC.ref (ρ := ρ) h.next 0 n _ k n n2 (by omega)
        · simp only [Option.some.injEq, Prod.mk.injEq] at hs
          obtain ⟨rfl, rfl⟩ := hs
          obtain ⟨G', n1, n2, n3⟩ := newImm_sim (ρ := ρ) r k true (List.replicate n z) C el (0, 0) n n g2 hrowk hv (by simp) (Nat.le_refl _) (fun _ => rfl) (w' := w.alloc (.cells C el)) rfl
          exact ⟨G', .value (.slice (some ⟨w.heap.size, 0, none⟩) n n), _, w.alloc (.cells C el), n1, by simp [execOp, ho, hrun], .inl rfl, .cell _ _ n2, n3⟩
      · cases hs
    · cases hs
  | iaddr x i k arr =>
    cases ho : o.op <;> rw [ho] at hok <;> (try (simp only [okOp, Bool.false_eq_true] at hok; done))
    rename_i t y j'
    simp only [okOp, Bool.and_eq_true] at hok
    obtain ⟨⟨h1, h2⟩, h3⟩ := hok
    simp only [stepOp] at hs
    split at hs
    · rename_i j hj
      simp only [Option.map_eq_some_iff, Prod.mk.injEq] at hs
      obtain ⟨v1, hl, rfl, rfl⟩ := hs
      cases hu : P.underlying t with
      | none => simp [hu] at h1
      | some d =>
        cases d <;> (try (simp [hu] at h1; done))
        case slice el =>
          simp only [hu] at h1
          obtain ⟨v', q1, q2⟩ := iaddr_slice_sim (P := P) (w := w) hu h1 (okO_sound h2 he) (okO_sound h3 he) hj hl
          exact .val r (by simp [execOp, ho, q1]) q2
    · rename_i n j hj
      simp only [Option.map_eq_some_iff, Prod.mk.injEq] at hs
      obtain ⟨v1, hl, rfl, rfl⟩ := hs
      cases hu : P.underlying t with
      | none => simp [hu] at h1
      | some d =>
        cases d <;> (try (simp [hu] at h1; done))
        case array n' el =>
          simp only [hu, Bool.and_eq_true, beq_iff_eq] at h1
          obtain ⟨rfl, h1⟩ := h1
          obtain ⟨v', q1, q2⟩ := iaddr_array_sim (P := P) (w := w) hu h1 (okO_sound h2 he) (okO_sound h3 he) hj hl
          exact .val r (by simp [execOp, ho, q1]) q2
    · cases hs
  | index x i arr =>
    cases ho : o.op <;> rw [ho] at hok <;> (try (simp only [okOp, Bool.false_eq_true] at hok; done))
    rename_i t y j'
    simp only [okOp, Bool.and_eq_true] at hok
    obtain ⟨⟨h1, h2⟩, h3⟩ := hok
    simp only [stepOp] at hs
    split at hs
    · rename_i j hj
      obtain ⟨ki, hki⟩ := natOf_some hj
      have hi := okO_sound h3 he; rw [hki] at hi
      have hx := okO_sound h2 he
      split at hs
      · rename_i s hxe
        simp only [Option.map_eq_some_iff, Prod.mk.injEq] at hs
        obtain ⟨b, hb, rfl, rfl⟩ := hs
        rw [hxe] at hx
        obtain ⟨s', hs', rfl⟩ := hx.ofStr
        cases hu : P.underlying t with
        | none => simp [hu] at h1
        | some d =>
          cases d <;> (try (simp [hu] at h1; done))
          case string =>
            have hlt : j < s'.size := by have := (List.getElem?_eq_some_iff.1 hb).1; simpa [bytesOf_length] using this
            have hbb : b = (s'[j]'hlt).toNat := by
              simp only [bytesOf, List.getElem?_map, Array.getElem?_toList] at hb
              rw [Array.getElem?_eq_getElem (show j < s'.data.size from hlt)] at hb
              rw [Option.map_some, Option.some.injEq] at hb
              exact hb.symm
            refine .val r (v' := .int .u8 b) ?_ (.cell _ _ (.int _ _))
            rw [execOp_index _ ho]
            refine run_value ?_
            rw [hs', hi.ofInt]
            have : s'[j]? = some (s'[j]'hlt) := by simp [hlt]
            simp [Instr.index, asIntOf, run_underlying hu, this, hbb]
      · rename_i n k g cs hxe
        split at hs
        · rename_i hlt
          simp only [Option.map_eq_some_iff, Prod.mk.injEq] at hs
          obtain ⟨v1, hp, rfl, rfl⟩ := hs
          rw [hxe] at hx
          obtain ⟨vs, hvs, hr⟩ := hx.ofAgg
          cases hu : P.underlying t with
          | none => simp [hu] at h1
          | some d =>
            cases d <;> (try (simp [hu] at h1; done))
            case array n' el =>
              simp only [hu, Bool.and_eq_true, beq_iff_eq] at h1
              obtain ⟨⟨rfl, h4⟩, h5⟩ := h1
              obtain ⟨v', q1, q2⟩ := part_sim (P := P) (w := w) hr hp h5 h4
              refine .val r (v' := v') ?_ q2
              rw [execOp_index _ ho]
              refine run_value ?_
              rw [hvs, hi.ofInt]
              simp [Instr.index, asIntOf, run_underlying hu, hlt, run_szIs h4, q1]
        · cases hs
      · cases hs
    · cases hs
  | range x =>
    cases ho : o.op <;> rw [ho] at hok <;> (try (simp only [okOp, Bool.false_eq_true] at hok; done))
    rename_i t y
    simp only [okOp, Bool.and_eq_true] at hok
    obtain ⟨h1, h2⟩ := hok
    have hx := okO_sound h2 he
    simp only [stepOp] at hs
    split at hs
    · rename_i s hxe
      simp only [Option.some.injEq, Prod.mk.injEq] at hs
      obtain ⟨rfl, rfl⟩ := hs
      rw [hxe] at hx
      obtain ⟨s', hs', rfl⟩ := hx.ofStr
      cases hu : P.underlying t with
      | none => simp [hu] at h1
      | some d =>
        cases d <;> (try (simp [hu] at h1; done))
        case string =>
          have hle : G.le (G.add h.next (w.heap.size, 1, 0)) := Gho.le_add r.blk_next
          refine ⟨G.add h.next (w.heap.size, 1, 0), .value (.pointer (some ⟨w.heap.size, 0, none⟩)), _, w.alloc (.stringIter s' 0), Ext.add pw _ r.blk_next (r.pw_size (Nat.le_refl _)), by simp [execOp, ho, Instr.range, run_underlying hu, hs'], .inl rfl, .cell _ _ ?_,
            r.new _ _ 1 0 rfl ⟨rfl, rfl, Nat.zero_le _, by simp⟩⟩
          simpa using RVC.ptr (ρ := ρ) (G := G.add h.next (w.heap.size, 1, 0)) h.next 0 0 w.heap.size 1 0 (by simp [Gho.add])
    · cases hs
  | next x =>
    cases ho : o.op <;> rw [ho] at hok <;> (try (simp only [okOp, Bool.false_eq_true] at hok; done))
    rename_i y isS
    cases isS
    · simp [okOp] at hok
    simp only [okOp] at hok
    have hx := okO_sound hok he
    simp only [stepOp] at hs
    split at hs
    · rename_i oo hxe
      rw [hxe] at hx
      split at hs
      · rename_i rest pos hget
        split at hs
        · rename_i hbo
          cases hx with | cell _ _ hxc =>
          generalize hvy : act.eval y = vy at hxc
          cases hxc with
          | ptr _ _ _ b k C hblk =>
            obtain ⟨b', k', C', q1, q2⟩ := r.objs oo _ hget
            rw [hblk] at q1; cases q1
            obtain ⟨z, hz⟩ := q2.isSome
            rw [hz] at q2
            cases z with
            | stringIter s p =>
              obtain ⟨e1, e2, e3, e4⟩ := q2
              subst e2
              have hobj : (getObj b).run P w = .ok (.stringIter s p) w := by simp [getObj, Sem.run, hz]
              have hlen : rest.length = s.size - p := by rw [e4]; simp [bytesOf_length]
              split at hs
              · simp only [Option.some.injEq, Prod.mk.injEq] at hs
                obtain ⟨rfl, rfl⟩ := hs
                have hp : ¬ p < s.size := by simp at hlen; omega
                refine .val r (v' := .tuple #[.bool false]) (by simp [execOp, ho, hvy, Instr.next, hobj, hp]) ?_
                exact .tup _ _ (.cons _ _ _ _ (.cell _ _ (.bool _)) .nil)
              · rename_i hne
                simp only [Option.some.injEq, Prod.mk.injEq] at hs
                obtain ⟨rfl, rfl⟩ := hs
                have hne' : rest ≠ [] := fun h0 => hne h0
                have hp : p < s.size := by
                  have : 0 < rest.length := by cases hr0 : rest with | nil => exact absurd hr0 hne' | cons => simp
                  omega
                have hdec := decode_eq s p
                rw [← e4] at hdec
                have hw := decode_width hne'
                refine ⟨G, .value (.tuple #[.bool true, .int .i64 p, .int .i32 (decode rest).1]), _, { w with heap := w.heap.setIfInBounds b (.stringIter s (p + (decode rest).2)) }, Ext.refl pw G (Nat.le_refl _), ?_, .inl rfl, ?_, ?_⟩
                · have hso : (setObj b (.stringIter s (p + (decode rest).2))).run P w = .ok () { w with heap := w.heap.setIfInBounds b (.stringIter s (p + (decode rest).2)) } := by simp [setObj, Sem.run, hz]
                  simp [execOp, ho, hvy, Instr.next, hobj, hp, hdec, hso, goInt]
                · exact .tup _ _ (.cons _ _ _ _ (.cell _ _ (.bool _)) (.cons _ _ _ _ (.cell _ _ (.int _ _)) (.cons _ _ _ _ (.cell _ _ (.int _ _)) .nil)))
                · refine r.put oo _ _ b k C (.stringIter s (p + (decode rest).2)) hbo hget hblk ?_ ⟨e1, rfl, by omega, by rw [e4, List.drop_drop]⟩
                  intro a
                  have hlt := heap_lt hz
                  by_cases hab : a = b
                  · subst hab; simp [hlt]
                  · rw [if_neg hab]; simp [Array.getElem?_setIfInBounds, Ne.symm hab]
            | _ => exact q2.elim
        · cases hs
      · cases hs
    · cases hs
  | extract x i =>
    cases ho : o.op <;> rw [ho] at hok <;> (try (simp only [okOp, Bool.false_eq_true] at hok; done))
    rename_i y j
    simp only [okOp, Bool.and_eq_true, beq_iff_eq] at hok
    obtain ⟨rfl, h2⟩ := hok
    have hx := okO_sound h2 he
    simp only [stepOp] at hs
    split at hs
    · rename_i vs hxe
      simp only [Option.map_eq_some_iff, Prod.mk.injEq] at hs
      obtain ⟨v1, hg, rfl, rfl⟩ := hs
      rw [hxe] at hx
      obtain ⟨vals, hv, hr⟩ := hx.ofTup
      obtain ⟨v', q1, q2⟩ := hr.get hg
      exact .val r (v' := v') (by simp [execOp, ho, hv, Instr.extract, q1]) q2
    · cases hs
  | append rr k lim x y =>
    cases ho : o.op <;> rw [ho] at hok <;> (try (simp only [okOp, Bool.false_eq_true] at hok; done))
    rename_i c
    obtain ⟨callee, args, argTypes⟩ := c
    cases callee <;> (try (simp only [okOp, Bool.false_eq_true] at hok; done))
    rename_i b
    simp only [okOp, Bool.and_eq_true, decide_eq_true_eq] at hok
    obtain ⟨rfl, hok⟩ := hok
    split at hok
    · rename_i ax ay t t' hargs hts
      simp only [Bool.and_eq_true] at hok
      obtain ⟨⟨⟨h1, h2⟩, h3⟩, h4⟩ := hok
      have hargs' : args = #[ax, ay] := by apply Array.ext'; simpa using hargs
      have hts' : argTypes = #[t, t'] := by apply Array.ext'; simpa using hts
      subst hargs' hts'
      obtain ⟨el, hu, h1⟩ := okElem (f := fun el => szIs P el k && decide (1 ≤ k) && (match P.info? el with | some i => (match i.zero with | some z => z.cells.size == k | none => false) && decide (1 ≤ i.bytes) | none => false) && bytesLe P el (2 * lim + 1000) (2 ^ 48)) h1
      simp only [Bool.and_eq_true, decide_eq_true_eq] at h1
      obtain ⟨⟨⟨g1, g2⟩, g3⟩, g4⟩ := h1
      have hat : AppT P t t' el k lim := by
        refine ⟨hu, g1, g2, ?_, h2⟩
        unfold bytesLe at g4
        cases hi : P.info? el with
        | none => simp [hi] at g3
        | some i =>
          simp only [hi, decide_eq_true_eq] at g4
          simp only [hi] at g3
          cases hz : i.zero with
          | none => simp [hz] at g3
          | some z =>
            simp only [hz, Bool.and_eq_true, beq_iff_eq, decide_eq_true_eq] at g3
            exact ⟨i, z, rfl, hz, g3.1, g3.2, g4⟩
      have hx := okO_sound h3 he
      have hy := okO_sound h4 he
      have hex : ∀ v' w', (Builtin.append_ #[t, t'] o.type #[act.eval ax, act.eval ay]).run P w = .ok v' w' → (execOp act.eval o).run P w = .ok (.value v') w' := by
        intro v' w' hr
        simp [execOp, ho, resolve, invoke, Go.builtin, hr]
      simp only [stepOp] at hs
      split at hs
      · rename_i ys hrow
        split at hs
        · split at hs
          · rename_i f xs hxe
            simp only [Option.some.injEq, Prod.mk.injEq] at hs
            obtain ⟨rfl, rfl⟩ := hs
            rw [hxe] at hx
            have hsh : ∃ p len c, act.eval ax = .slice p len c ∧ len ≤ c := by
              cases hx with | cell _ _ hxc =>
              generalize hvx : act.eval ax = vx at hxc
              cases hxc with
              | vsE f p c hf => exact ⟨p, 0, c, rfl, Nat.zero_le _⟩
              | vs f xs k b' off c cells q1 q2 q3 q4 q5 q6 q7 => exact ⟨_, _, c, rfl, q6⟩
            obtain ⟨p, len, c, hvx, hlc⟩ := hsh
            refine .val r (v' := act.eval ax) (hex _ _ ?_) hx
            rw [hvx]; exact append_none_sim r hu g1 h2 hlc hy hrow
          · rename_i oo kk off len hxe
            simp only [Option.some.injEq, Prod.mk.injEq] at hs
            obtain ⟨rfl, rfl⟩ := hs
            rw [hxe] at hx
            have hsh : ∃ p len c, act.eval ax = .slice p len c ∧ len ≤ c := by
              cases hx with | cell _ _ hxc =>
              generalize hvx : act.eval ax = vx at hxc
              cases hxc with
              | ref _ _ _ b k C q1 q2 => exact ⟨_, _, _, rfl, by omega⟩
            obtain ⟨p, len, c, hvx, hlc⟩ := hsh
            refine .val r (v' := act.eval ax) (hex _ _ ?_) hx
            rw [hvx]; exact append_none_sim r hu g1 h2 hlc hy hrow
          · cases hs
        · rename_i y0 ys0
          split at hs
          · rename_i xs hxe
            split at hs
            · rename_i hc
              obtain ⟨c1, c2, c3⟩ := hc
              rw [hxe] at hx
              cases hx with | cell _ _ hxc =>
              obtain ⟨w', rest, cap', cells, a1, a2, a3, a4, a5, a6⟩ := append_full_sim (P := P) (ty := o.type) r hat hxc hy hrow c1 c2 c3
              have hv : RVCL ρ G (xs ++ y0 :: ys0).flatten ((cells ++ rest).toArray.toList.take ((xs ++ y0 :: ys0).length * k)) := by
                have hl := a6.length_eq
                rw [flat_length a5] at hl
                rw [List.toList_toArray, List.take_left' hl.symm]; exact a6
              have hl2 : (xs ++ y0 :: ys0).length = xs.length + (y0 :: ys0).length := by simp
              split at hs
              · simp only [Option.some.injEq, Prod.mk.injEq] at hs
                obtain ⟨rfl, rfl⟩ := hs
                obtain ⟨n1, n2, n3⟩ := new_sim (ρ := ρ) r k cap' (xs ++ y0 :: ys0) _ el (0, 0) g2 a4 (by rw [hl2]; exact a3) a5 hv (.zero _) a2.1 a2.2
                refine ⟨_, _, _, w', n1, hex _ _ a1, .inl rfl, .cell _ _ ?_, n3⟩
                have := RVC.ref (ρ := ρ) h.next 0 (xs.length + (y0 :: ys0).length) _ k cap' n2 (by omega)
                simpa using this
              · simp only [Option.some.injEq, Prod.mk.injEq] at hs
                obtain ⟨rfl, rfl⟩ := hs
                obtain ⟨G', n1, n2, n3⟩ := newImm_sim (ρ := ρ) r k false (xs ++ y0 :: ys0) _ el (0, 0) (xs.length + (y0 :: ys0).length) cap' g2 a5 hv hl2.symm a3 (fun hf => by cases hf) a2.1 a2.2
                exact ⟨G', _, _, w', n1, hex _ _ a1, .inl rfl, .cell _ _ n2, n3⟩
            · cases hs
          · rename_i oo k' len hxe
            split at hs
            · rename_i k2 rows hget
              split at hs
              · rename_i hc
                obtain ⟨c1, c2, rfl, c4, c5, c6, c7⟩ := hc
                simp only [Option.some.injEq, Prod.mk.injEq] at hs
                obtain ⟨rfl, rfl⟩ := hs
                rw [hxe] at hx
                cases hx with | cell _ _ hxc =>
                obtain ⟨G', v', w', a1, a2, a3, a4⟩ := append_ref_sim (P := P) (ty := o.type) r hat hxc hget hy hrow c4 c5 c6 c2
                exact ⟨G', _, v', w', a1, hex _ _ a2, .inl rfl, .cell _ _ a3, a4⟩
              · cases hs
            · cases hs
          · cases hs
      · cases hs
    · cases hok
  | len isS x =>
    cases ho : o.op <;> rw [ho] at hok <;> (try (simp only [okOp, Bool.false_eq_true] at hok; done))
    rename_i c
    obtain ⟨callee, args, argTypes⟩ := c
    cases callee <;> (try (simp only [okOp, Bool.false_eq_true] at hok; done))
    rename_i b
    simp only [okOp, Bool.and_eq_true, decide_eq_true_eq] at hok
    obtain ⟨rfl, hok⟩ := hok
    split at hok
    · rename_i ax t hargs hts
      simp only [Bool.and_eq_true] at hok
      obtain ⟨h1, h3⟩ := hok
      have hargs' : args = #[ax] := by apply Array.ext'; simpa using hargs
      have hts' : argTypes = #[t] := by apply Array.ext'; simpa using hts
      subst hargs' hts'
      have hx := okO_sound h3 he
      have hex : ∀ v', (Builtin.len_ #[t] o.type #[act.eval ax]).run P w = .ok v' w → (execOp act.eval o).run P w = .ok (.value v') w := by
        intro v' hr
        simp [execOp, ho, resolve, invoke, Go.builtin, hr]
      cases hu : P.underlying t with
      | none => simp [hu] at h1
      | some d =>
        simp only [stepOp] at hs
        split at hs
        · rename_i s hxe
          simp only [Option.some.injEq, Prod.mk.injEq] at hs
          obtain ⟨rfl, rfl⟩ := hs
          rw [hxe] at hx
          obtain ⟨s', hs', rfl⟩ := hx.ofStr
          cases d <;> simp [hu] at h1
          refine .val r (v' := .int .i64 s'.size) (hex _ ?_) (by rw [bytesOf_length]; exact .cell _ _ (.int _ _))
          rw [hs']; simp [Builtin.len_, run_underlying hu, goInt]
        · rename_i f xs hxe
          simp only [Option.some.injEq, Prod.mk.injEq] at hs
          obtain ⟨rfl, rfl⟩ := hs
          rw [hxe] at hx
          have hsh : ∃ p c, act.eval ax = .slice p xs.length c := by
            cases hx with | cell _ _ hxc =>
            generalize hvx : act.eval ax = vx at hxc
            cases hxc with
            | vsE f p c hf => exact ⟨p, c, rfl⟩
            | vs f xs k b' off c cells q1 q2 q3 q4 q5 q6 q7 => exact ⟨_, c, rfl⟩
          obtain ⟨p, c, hv⟩ := hsh
          cases d <;> simp [hu] at h1
          refine .val r (v' := .int .i64 xs.length) (hex _ ?_) (.cell _ _ (.int _ _))
          rw [hv]; simp [Builtin.len_, run_underlying hu, goInt]
        · rename_i oo kk off n hxe
          simp only [Option.some.injEq, Prod.mk.injEq] at hs
          obtain ⟨rfl, rfl⟩ := hs
          rw [hxe] at hx
          have hsh : ∃ p c, act.eval ax = .slice p n c := by
            cases hx with | cell _ _ hxc =>
            generalize hvx : act.eval ax = vx at hxc
            cases hxc with
            | ref _ _ _ b k C q1 q2 => exact ⟨_, _, rfl⟩
          obtain ⟨p, c, hv⟩ := hsh
          cases d <;> simp [hu] at h1
          refine .val r (v' := .int .i64 n) (hex _ ?_) (.cell _ _ (.int _ _))
          rw [hv]; simp [Builtin.len_, run_underlying hu, goInt]
        · cases hs
    · cases hok
  | min2 x y =>
    cases ho : o.op <;> rw [ho] at hok <;> (try (simp only [okOp, Bool.false_eq_true] at hok; done))
    rename_i c
    obtain ⟨callee, args, argTypes⟩ := c
    cases callee <;> (try (simp only [okOp, Bool.false_eq_true] at hok; done))
    rename_i b
    simp only [okOp, Bool.and_eq_true, decide_eq_true_eq] at hok
    obtain ⟨rfl, hok⟩ := hok
    split at hok
    · rename_i ax ay hargs
      simp only [Bool.and_eq_true] at hok
      have hargs' : args = #[ax, ay] := by apply Array.ext'; simpa using hargs
      subst hargs'
      have hx := okO_sound hok.1 he
      have hy := okO_sound hok.2 he
      simp only [stepOp] at hs
      split at hs
      · rename_i k a k' b hxe hye
        simp only [Option.some.injEq, Prod.mk.injEq] at hs
        obtain ⟨rfl, rfl⟩ := hs
        rw [hxe] at hx; rw [hye] at hy
        exact .val r (v' := .int k (if b < a then b else a)) (by simp [execOp, ho, resolve, invoke, Go.builtin, Builtin.min_, Builtin.min2, hx.ofInt, hy.ofInt]) (.cell _ _ (.int _ _))
      · cases hs
    · cases hok
  | max2 x y =>
    cases ho : o.op <;> rw [ho] at hok <;> (try (simp only [okOp, Bool.false_eq_true] at hok; done))
    rename_i c
    obtain ⟨callee, args, argTypes⟩ := c
    cases callee <;> (try (simp only [okOp, Bool.false_eq_true] at hok; done))
    rename_i b
    simp only [okOp, Bool.and_eq_true, decide_eq_true_eq] at hok
    obtain ⟨rfl, hok⟩ := hok
    split at hok
    · rename_i ax ay hargs
      simp only [Bool.and_eq_true] at hok
      have hargs' : args = #[ax, ay] := by apply Array.ext'; simpa using hargs
      subst hargs'
      have hx := okO_sound hok.1 he
      have hy := okO_sound hok.2 he
      simp only [stepOp] at hs
      split at hs
      · rename_i k a k' b hxe hye
        simp only [Option.some.injEq, Prod.mk.injEq] at hs
        obtain ⟨rfl, rfl⟩ := hs
        rw [hxe] at hx; rw [hye] at hy
        exact .val r (v' := .int k (if a < b then b else a)) (by simp [execOp, ho, resolve, invoke, Go.builtin, Builtin.max_, Builtin.max2, hx.ofInt, hy.ofInt]) (.cell _ _ (.int _ _))
      · cases hs
    · cases hok
  | call k f args snap => simp [stepOp] at hs
  | callv k f args => simp [stepOp] at hs
end
end Go.Am
namespace Go.Am
section
variable {P : Program} {ρ : Nat → FuncId} {G G' : Gho}
theorem underL_append (n : Nat) : ∀ (a b : List AV), AV.underL n (a ++ b) = (AV.underL n a && AV.underL n b)
  | [], b => by simp [AV.underL]
  | a :: as, b => by simp [AV.underL, underL_append n as b, Bool.and_assoc]
theorem underR_flatten (n : Nat) : ∀ (xs : List (List AV)), AV.underR n xs = true → AV.underL n xs.flatten = true
  | [], _ => by simp [AV.underL]
  | x :: xs, h => by
    simp only [AV.underR, Bool.and_eq_true] at h
    simp only [List.flatten_cons, underL_append, Bool.and_eq_true]
    exact ⟨h.1, underR_flatten n xs h.2⟩
mutual
theorem RVC.under {n : Nat} (hb : ∀ o x, o < n → G'.blk o = some x → G.blk o = some x) (hi : ∀ b c, G'.imm b = some c → G.imm b = some c) :
    ∀ {a : AV} {v : Value}, RVC ρ G' a v → a.under n = true → RVC ρ G a v
  | _, _, .int k m, _ => .int k m
  | _, _, .bool b, _ => .bool b
  | _, _, .str s, _ => .str s
  | _, _, .nilp, _ => .nilp
  | _, _, .nilfn, _ => .nilfn
  | _, _, .ptr o i off b k C h, hu => .ptr o i off b k C (hb _ _ (of_decide_eq_true hu) h)
  | _, _, .rptr cs b off cells h h2, hu => .rptr cs b off cells (hi _ _ h) (RVCL.under hb hi h2 hu)
  | _, _, .vsE f a c h, _ => .vsE f a c h
  | _, _, .vs f xs k b off c cells h1 h2 h3 h4 h5 h6 h7, hu => .vs f xs k b off c cells h1 h2 h3 (hi _ _ h4) (RVCL.under hb hi h5 (underR_flatten n xs hu)) h6 h7
  | _, _, .ref o off len b k C h h2, hu => .ref o off len b k C (hb _ _ (of_decide_eq_true hu) h) h2
  | _, _, .fn f caps vals h, hu => .fn f caps vals (RVCL.under hb hi h hu)
theorem RVCL.under {n : Nat} (hb : ∀ o x, o < n → G'.blk o = some x → G.blk o = some x) (hi : ∀ b c, G'.imm b = some c → G.imm b = some c) :
    ∀ {as : List AV} {vs : List Value}, RVCL ρ G' as vs → AV.underL n as = true → RVCL ρ G as vs
  | _, _, .nil, _ => .nil
  | _, _, .cons a v as vs h1 h2, hu => by
    simp only [AV.underL, Bool.and_eq_true] at hu
    exact .cons a v as vs (RVC.under hb hi h1 hu.1) (RVCL.under hb hi h2 hu.2)
end
mutual
theorem RV.under {n : Nat} (hb : ∀ o x, o < n → G'.blk o = some x → G.blk o = some x) (hi : ∀ b c, G'.imm b = some c → G.imm b = some c) :
    ∀ {a : AV} {v : Value}, RV ρ G' a v → a.under n = true → RV ρ G a v
  | _, _, .cell a v h, hu => .cell a v (h.under hb hi hu)
  | _, _, .agg cs vs h, hu => .agg cs vs (h.under hb hi hu)
  | _, _, .tup as vs h, hu => .tup as vs (RVL.under hb hi h hu)
  | _, _, .undef, _ => .undef
  | _, _, .any v, _ => .any v
theorem RVL.under {n : Nat} (hb : ∀ o x, o < n → G'.blk o = some x → G.blk o = some x) (hi : ∀ b c, G'.imm b = some c → G.imm b = some c) :
    ∀ {as : List AV} {vs : List Value}, RVL ρ G' as vs → AV.underL n as = true → RVL ρ G as vs
  | _, _, .nil, _ => .nil
  | _, _, .cons a v as vs h1 h2, hu => by
    simp only [AV.underL, Bool.and_eq_true] at hu
    exact .cons a v as vs (RV.under hb hi h1 hu.1) (RVL.under hb hi h2 hu.2)
end
def ACalls (P : Program) (f : FuncId) (vals : Array Value) (w : World) (R : Ending → World → Prop) : Prop :=
  ((callFunc f vals).run P w = .ok (.enter f vals) w ∧ Calls P f vals w R) ∨ ∃ v w', (callFunc f vals).run P w = .ok (.value v) w' ∧ R (.returned v) w'
theorem ACalls.mono {f : FuncId} {vals : Array Value} {w : World} {R R' : Ending → World → Prop} (h : ACalls P f vals w R) (hr : ∀ e w', R e w' → R' e w') : ACalls P f vals w R' :=
  h.elim (fun q => .inl ⟨q.1, q.2.mono hr⟩) fun ⟨v, w', q1, q2⟩ => .inr ⟨v, w', q1, hr _ _ q2⟩
def Back (ρ : Nat → FuncId) (pw : Pw) (base : Nat) (G : Gho) (h : H) (v : AV) (h' : H) : Ending → World → Prop := fun en w' =>
  ∃ G' v', Ext pw h h' G G' ∧ en = .returned v' ∧ RV ρ G' v v' ∧ Rel ρ pw base G' h' w'
def CallOK (P : Program) (ρ : Nat → FuncId) (γ : Nat → Option Go.Obj) (cs : Nat → List AV → Nat → H → Option (AV × H)) : Prop :=
  ∀ f args base h v h', cs f args base h = some (v, h') → ∀ G pw w vals, RVL ρ G args vals → Rel ρ pw base G h w → pw.gl = γ →
    ACalls P (ρ f) vals.toArray w (Back ρ pw base G h v h')
variable {pw : Pw} {base : Nat} {h h' : H} {w w' : World}
theorem Rel.kept (r : Rel ρ pw base G h w) (hw : ∀ (b : Nat) (x : Go.Obj), w.heap[b]? = some x → w'.heap[b]? = some x) (hio : World.io w' = World.io w) : Rel ρ pw base G h w' := by
  refine ⟨fun o x ho => ?_, r.inj, fun b cells hb => ?_, r.disj, r.ltB, fun b x hp => hw b x (r.pwh b x hp), r.pwd, hio.trans r.io, fun o b k C e => let ⟨q, hq⟩ := r.blkH o b k C e; ⟨q, hw _ _ hq⟩⟩
  · obtain ⟨b, k, C, h1, h2⟩ := r.objs o x ho
    obtain ⟨z, hz⟩ := h2.isSome
    exact ⟨b, k, C, h1, by rw [hw b z hz, ← hz]; exact h2⟩
  · obtain ⟨c, e, fr, h1, h2⟩ := r.imm b cells hb
    exact ⟨c, e, fr, hw b _ h1, h2⟩
def Pw.all (pw : Pw) (w : World) (hp : ∀ b x, pw b = some x → w.heap[b]? = some x) : Pw := ⟨fun b => w.heap[b]?, World.io w, pw.gl, fun b x e => hp b x (pw.glOk b x e)⟩
theorem Rel.guard (r : Rel ρ pw base G h w) : Rel ρ (pw.all w r.pwh) h.next G h w :=
  ⟨r.objs, r.inj, r.imm, r.disj, r.ltB, fun _ _ e => e, fun o x b k C h0 h1 _ => absurd (r.ltH h1) (by omega), rfl, r.blkH⟩
theorem Rel.moreImm (r : Rel ρ pw base G h w) (hw : ∀ (b : Nat) (x : Go.Obj), w.heap[b]? = some x → w'.heap[b]? = some x) (hio : World.io w' = World.io w) {I : Nat → Option (List Value)} (hle : ∀ b c, G.imm b = some c → I b = some c)
    (hi : ∀ b c, I b = some c → G.imm b = some c ∨ w.heap[b]? = none) (hr : ∀ b cells, I b = some cells → ∃ c e fr, w'.heap[b]? = some (.cells c e fr) ∧ c.toList.take cells.length = cells) :
    Rel ρ pw base ⟨G.blk, I⟩ h w' ∧ Ext pw h h G ⟨G.blk, I⟩ := by
  have r' := r.kept hw hio
  have hl : G.le ⟨G.blk, I⟩ := ⟨fun _ _ e => e, hle⟩
  refine ⟨⟨fun o x ho => ?_, r.inj, hr, fun o x b k C ho hb => ?_, r.ltB, r'.pwh, r.pwd, r'.io, r'.blkH⟩, hl, fun b c hb => ?_, fun _ _ e => .inl e, Nat.le_refl _, fun _ _ _ _ e => .inl e⟩
  · obtain ⟨b, k, C, h1, h2⟩ := r'.objs o x ho
    exact ⟨b, k, C, h1, h2.mono hl⟩
  · cases hc : I b with
    | none => exact hc
    | some c =>
      rcases hi b c hc with h1 | h1
      · rw [r.disj o x b k C ho hb] at h1; cases h1
      · obtain ⟨b', k', C', h2, h3⟩ := r.objs o x ho
        have hb' : G.blk o = some (b, k, C) := hb
        rw [hb'] at h2; cases h2
        obtain ⟨z, hz⟩ := h3.isSome
        rw [h1] at hz; cases hz
  · rcases hi b c hb with h1 | h1
    · exact .inl h1
    · right
      cases hp : pw b with
      | none => rfl
      | some x => rw [r.pwh b x hp] at h1; cases h1
theorem Ext.guarded {h1 h2 : H} {w : World} {hp : ∀ b x, pw b = some x → w.heap[b]? = some x} (x : Ext (pw.all w hp) h1 h2 G G') : ∀ b c, G'.imm b = some c → G.imm b = some c ∨ w.heap[b]? = none := x.imm
theorem callSem_sim {fns : Fns} {ex : Ex} (ok : CallOK P ρ pw.gl (callF fns ex)) {k : CK} {f : Nat} {args : List AV} {v : AV} (hs : callSem fns ex k f args base h = some (v, h'))
    {vals : List Value} (ha : RVL ρ G args vals) (r : Rel ρ pw base G h w) : ACalls P (ρ f) vals.toArray w (Back ρ pw base G h v h') := by
  cases k with
  | wr => exact ok f args base h v h' hs G pw w vals ha r rfl
  | ro =>
    simp only [callSem] at hs
    split at hs
    · rename_i v1 h1 hc
      split at hs
      · rename_i hu
        cases hs
        refine (ok f args h.next h v h1 hc G _ w vals ha r.guard rfl).mono ?_
        rintro en w' ⟨G', v', x, rfl, hv, r'⟩
        obtain ⟨r2, x2⟩ := r.moreImm (w' := w') (fun b z hz => r'.pwh b z hz) r'.io x.le.2 x.imm r'.imm
        exact ⟨⟨G.blk, G'.imm⟩, v', x2, rfl, hv.under (G' := G') (G := ⟨G.blk, G'.imm⟩) (n := h.next) (fun o z ho hz => (x.blk o z hz).resolve_right (by omega)) (fun _ _ e => e) hu, r2⟩
      · cases hs
    · cases hs
  | pure =>
    simp only [callSem] at hs
    split at hs
    · rename_i hua
      split at hs
      · rename_i v1 h1 hc
        split at hs
        · rename_i hu
          cases hs
          have r0 : Rel ρ (pw.all w r.pwh) 0 ⟨fun _ => none, G.imm⟩ H.emp w :=
            ⟨fun o x e => by simp at e, fun o o' x x' b k C k' C' e => by simp at e, r.imm, fun o x b k C e => by simp at e, fun o x e => by simp at e, fun _ _ e => e,
              fun o x b k C _ e => by simp at e, rfl, fun o b k C e => by cases e⟩
          refine (ok f args 0 H.emp v h1 hc ⟨fun _ => none, G.imm⟩ _ w vals (ha.under (G' := G) (G := ⟨fun _ => none, G.imm⟩) (n := 0) (fun o x ho => absurd ho (by omega)) (fun _ _ e => e) hua) r0 rfl).mono ?_
          rintro en w' ⟨G', v', x, rfl, hv, r'⟩
          obtain ⟨r2, x2⟩ := r.moreImm (w' := w') (fun b z hz => r'.pwh b z hz) r'.io x.le.2 x.imm r'.imm
          exact ⟨⟨G.blk, G'.imm⟩, v', x2, rfl, hv.under (G' := G') (G := ⟨G.blk, G'.imm⟩) (n := 0) (fun o z ho => absurd ho (by omega)) (fun _ _ e => e) hu, r2⟩
        · cases hs
      · cases hs
    · cases hs
end
end Go.Am
namespace Go.Am
section
variable {P : Program} {ρ : Nat → FuncId} {G G' : Gho} {pw : Pw} {base : Nat} {h h' : H} {w w' : World} {e : Env} {act : Act} {v : AV}
def allImm (G : Gho) (w : World) : Nat → Option (List Value) := fun b => match G.imm b with
  | some c => some c
  | none => match w.heap[b]? with
    | some (.cells c _ _) => some c.toList
    | _ => none
theorem le_allImm (G : Gho) (w : World) : G.le ⟨G.blk, allImm G w⟩ :=
  ⟨fun _ _ e => e, fun b c e => by simp only [allImm, e]⟩
theorem snapOne_sim (r : Rel ρ pw base G h w) {t : Bool} {a a' : AV} {va : Value} (ha : RV ρ G a va) (hs : snapOne h t a = some a') : RV ρ ⟨G.blk, allImm G w⟩ a' va := by
  unfold snapOne at hs
  split at hs
  · split at hs
    · rename_i o k off len
      simp only [Option.map_eq_some_iff] at hs
      obtain ⟨rows', hr, rfl⟩ := hs
      simp only [rowsOf] at hr
      split at hr
      · rename_i k2 rows hget
        split at hr
        · rename_i hle
          cases hr
          cases ha with | cell _ _ ha => cases ha with
            | ref _ _ _ b k C hblk hC =>
              obtain ⟨b2, k3, C2, q1, q2⟩ := r.objs o _ hget
              rw [hblk] at q1; cases q1
              obtain ⟨z, hz⟩ := q2.isSome
              rw [hz] at q2
              cases z with
              | cells c el fr =>
                obtain ⟨e1, e2, e3, e4, e5, e6, e7⟩ := q2
                subst e1
                have himm : allImm G w b = some c.toList := by simp only [allImm, r.disj o _ b k2 C hget hblk, hz]
                have hlen : ((rows.drop off).take len).length = len := by rw [List.length_take, List.length_drop]; omega
                have hall : ∀ x ∈ (rows.drop off).take len, x.length = k2 := fun x hx => e5 x (List.mem_of_mem_drop (List.mem_of_mem_take hx))
                by_cases h0 : (rows.drop off).take len = []
                · have hl0 : len = 0 := by rw [← hlen, h0]; rfl
                  rw [h0, hl0]
                  exact .cell _ _ (.vsE _ _ _ fun hf => by cases hf)
                · have hv : RVCL ρ G ((rows.drop off).take len).flatten ((c.toList.drop (off * k2)).take (((rows.drop off).take len).length * k2)) := by
                    rw [flat_take (fun x hx => e5 x (List.mem_of_mem_drop hx)), flat_drop e5, hlen]
                    have h6 := (e6.drop (off * k2)).take (len * k2)
                    rw [List.drop_take, List.take_take] at h6
                    have h7 : len * k2 ≤ rows.length * k2 - off * k2 := by
                      rw [← Nat.sub_mul]; exact Nat.mul_le_mul_right _ (by omega)
                    rwa [Nat.min_eq_left h7] at h6
                  have hx := RVC.vs (ρ := ρ) (G := ⟨G.blk, allImm G w⟩) false ((rows.drop off).take len) k2 b (off * k2) (C - off) c.toList h0 e2 hall himm (hv.mono (le_allImm G w)) (by rw [hlen]; omega) (fun hf => by cases hf)
                  rw [hlen] at hx
                  exact .cell _ _ hx
              | _ => exact q2.elim
        · cases hr
      · cases hr
    · cases hs; exact ha.mono (le_allImm G w)
  · cases hs; exact ha.mono (le_allImm G w)
theorem snapAll_sim (r : Rel ρ pw base G h w) : ∀ (ts : List Bool) (as as' : List AV) (vs : List Value), RVL ρ G as vs → snapAll h ts as = some as' → RVL ρ ⟨G.blk, allImm G w⟩ as' vs
  | [], as, as', vs, ha, hs => by simp only [snapAll, Option.some.injEq] at hs; subst hs; exact ha.mono (le_allImm G w)
  | _ :: _, [], as', vs, ha, hs => by simp only [snapAll, Option.some.injEq] at hs; subst hs; exact ha.mono (le_allImm G w)
  | t :: ts, a :: as, as', vs, ha, hs => by
    simp only [snapAll] at hs
    split at hs
    · rename_i a1 as1 h1 h2
      cases hs
      cases ha with | cons _ x _ xs q1 q2 => exact .cons _ _ _ _ (snapOne_sim r q1 h1) (snapAll_sim r ts as as1 xs q2 h2)
    · cases hs
theorem RV.ofScalar {a : AV} {x : Value} (h : RV ρ G' a x) (hs : a.scalar = true) : RV ρ G a x := by
  cases a <;> simp only [AV.scalar, Bool.false_eq_true] at hs
  case int => rw [h.ofInt]; exact .cell _ _ (.int _ _)
  case bool => rw [h.ofBool]; exact .cell _ _ (.bool _)
  case str => obtain ⟨b, rfl, rfl⟩ := h.ofStr; exact .cell _ _ (.str _)
theorem snap_sim {fns : Fns} {ex : Ex} (ok : CallOK P ρ pw.gl (callF fns ex)) {f : Nat} {args as : List AV} {ts : List Bool} (h0 : snapAll h ts args = some as)
    (hs : callSem fns ex .pure f as base h = some (v, h')) (hsc : v.scalar = true) {vals : List Value} (ha : RVL ρ G args vals) (r : Rel ρ pw base G h w) :
    ACalls P (ρ f) vals.toArray w (Back ρ pw base G h v h') := by
  simp only [callSem] at hs
  split at hs
  · rename_i hua
    split at hs
    · rename_i v1 h1 hc
      split at hs
      · rename_i hu
        cases hs
        have r0 : Rel ρ (pw.all w r.pwh) 0 ⟨fun _ => none, allImm G w⟩ H.emp w := by
          refine ⟨fun o x e => by simp at e, fun o o' x x' b k C k' C' e => by simp at e, fun b cells hb => ?_, fun o x b k C e => by simp at e, fun o x e => by simp at e, fun _ _ e => e,
            fun o x b k C _ e => by simp at e, rfl, fun o b k C e => by cases e⟩
          simp only [allImm] at hb
          split at hb
          · rename_i c hc'
            cases hb
            exact r.imm _ _ hc'
          · split at hb
            · rename_i c el fr hz
              cases hb
              exact ⟨c, el, fr, hz, List.take_length⟩
            · cases hb
        have ha' := snapAll_sim r ts args as vals ha h0
        refine (ok f as 0 H.emp v h1 hc ⟨fun _ => none, allImm G w⟩ _ w vals (ha'.under (G' := ⟨G.blk, allImm G w⟩) (G := ⟨fun _ => none, allImm G w⟩) (n := 0) (fun o x ho => absurd ho (by omega)) (fun _ _ e => e) hua) r0 rfl).mono ?_
        rintro en w' ⟨G', v', x, rfl, hv, r'⟩
        exact ⟨G, v', Ext.refl pw G (Nat.le_refl _), rfl, hv.ofScalar hsc, r.kept (fun b z hz => r'.pwh b z hz) r'.io⟩
      · cases hs
    · cases hs
  · cases hs
variable (P ρ) in
def okCall : Op → AOp → Bool
  | .call c, .call k f args snap => (match c.callee with
    | .value (.func g) => ρ f == g
    | _ => false) && okOs ρ c.args.toList args && (snap.isEmpty || k == .pure)
  | .call c, .callv _ f args => (match c.callee with
    | .value x => okO ρ x f
    | _ => false) && okOs ρ c.args.toList args
  | _, _ => false
variable (P ρ) in
def okAny (o : Op) (a : AOp) : Bool := okOp P ρ o a || okCall ρ o a
theorem opSem_step {call : CallSem} {a : AOp} (h1 : ∀ k f args snap, a ≠ .call k f args snap) (h2 : ∀ k f args, a ≠ .callv k f args) : opSem call base e h a = stepOp base e h a := by
  unfold opSem
  split
  · rename_i k f args; exact absurd rfl (h1 k f args [])
  · rename_i k f args snap _; exact absurd rfl (h1 k f args snap)
  · rename_i k f args; exact absurd rfl (h2 k f args)
  · rfl
theorem RVL.append {as bs : List AV} {vs ws : List Value} (h : RVL ρ G as vs) (h' : RVL ρ G bs ws) : RVL ρ G (as ++ bs) (vs ++ ws) := by
  induction as generalizing vs with
  | nil => cases h; exact h'
  | cons a as ih => cases h with | cons _ v _ vs h1 h2 => exact .cons _ _ _ _ h1 (ih h2)
theorem RVCL.toV {as : List AV} {vs : List Value} (h : RVCL ρ G as vs) : RVL ρ G as vs := by
  induction as generalizing vs with
  | nil => cases h; exact .nil
  | cons a as ih => cases h with | cons _ v _ vs h1 h2 => exact .cons _ _ _ _ (.cell _ _ h1) (ih h2)
theorem call_wp {o : Oper} {c : Call} (ho : o.op = .call c) {x : Operand} (hc : c.callee = .value x) {f : FuncId} {caps : List Value} (hx : act.eval x = .func (.func f) #[] caps.toArray)
    {K : Act → World → Prop} {Q : Exit → Act → World → Prop}
    (hcall : ACalls P f ((c.args.toList.map act.eval) ++ caps).toArray w (Back ρ pw base G h v h'))
    (hK : ∀ G' v' w', Ext pw h h' G G' → RV ρ G' v v' → Rel ρ pw base G' h' w' → K (act.put o.dst v') w') : o.wp P act w K Q := by
  have hop : execOp act.eval o = callFunc f ((c.args.toList.map act.eval) ++ caps).toArray := by
    have e1 : (#[] ++ c.args.map act.eval ++ caps.toArray) = ((c.args.toList.map act.eval) ++ caps).toArray := by
      apply Array.ext'; simp
    rw [← e1]
    simp [execOp, ho, resolve, hc, hx, Deferred.ofValue, invoke]
  unfold Oper.wp
  rw [hop]
  rcases hcall with ⟨q1, q2⟩ | ⟨u, w', q1, q2⟩
  · rw [q1, Oper.upon_enter]
    refine q2.mono ?_
    rintro en w' ⟨G', v', x, rfl, hv, r'⟩
    exact hK G' v' w' x hv r'
  · rw [q1, Oper.upon_value]
    obtain ⟨G', v', x, he, hv, r'⟩ := q2
    cases he
    exact hK G' u w' x hv r'
theorem op_wp {fns : Fns} {ex : Ex} (ok : CallOK P ρ pw.gl (callF fns ex)) {o : Oper} {a : AOp} (hok : okAny P ρ o.op a = true) (he : RE ρ G e act.tmps) (r : Rel ρ pw base G h w)
    (hs : opSem (callSem fns ex) base e h a = some (v, h')) {K : Act → World → Prop} {Q : Exit → Act → World → Prop}
    (hK : ∀ G' v' w', Ext pw h h' G G' → RV ρ G' v v' → Rel ρ pw base G' h' w' → K (act.put o.dst v') w') : o.wp P act w K Q := by
  have step : okOp P ρ o.op a = true → stepOp base e h a = some (v, h') → o.wp P act w K Q := by
    intro h1 h2
    obtain ⟨G', nx, v', w', q1, q2, q3, q4, q5⟩ := step_sim o a h1 he r h2
    unfold Oper.wp
    rw [q2]
    rcases q3 with rfl | ⟨rfl, rfl⟩
    · rw [Oper.upon_value]; exact hK G' v' w' q1 q4 q5
    · rw [Oper.upon_skip]; exact hK G' _ w' q1 q4 q5
  cases a with
  | call k f args snap =>
    have hok' : okCall ρ o.op (.call k f args snap) = true := by
      unfold okAny at hok
      cases ho : o.op <;> simp only [ho, okOp, okCall, Bool.false_or, Bool.false_eq_true, Bool.or_self] at hok ⊢
      rename_i c
      obtain ⟨callee, cargs, ats⟩ := c
      cases callee <;> exact hok
    cases ho : o.op <;> simp only [ho, okCall, Bool.false_eq_true, Bool.and_eq_true] at hok'
    rename_i c
    obtain ⟨⟨hc, hargs⟩, hsnap⟩ := hok'
    split at hc
    · rename_i g hcal
      have hg : ρ f = g := by simpa using hc
      have hra := okOs_sound hargs he
      have hx : act.eval (.func g) = .func (.func (ρ f)) #[] ([] : List Value).toArray := by rw [hg]; rfl
      refine call_wp ho hcal hx ?_ hK
      rw [List.append_nil]
      cases snap with
      | nil => exact callSem_sim ok hs hra r
      | cons t ts =>
        have hk : k = .pure := by simpa using hsnap
        subst hk
        simp only [opSem] at hs
        split at hs
        · rename_i as h0
          split at hs
          · rename_i v1 h1 hcs
            split at hs
            · rename_i hsc
              cases hs
              exact snap_sim ok h0 hcs hsc hra r
            · cases hs
          · cases hs
        · cases hs
    · cases hc
  | callv k f args =>
    have hok' : okCall ρ o.op (.callv k f args) = true := by
      unfold okAny at hok
      cases ho : o.op <;> simp only [ho, okOp, okCall, Bool.false_or, Bool.false_eq_true, Bool.or_self] at hok ⊢
      rename_i c
      obtain ⟨callee, cargs, ats⟩ := c
      cases callee <;> exact hok
    cases ho : o.op <;> simp only [ho, okCall, Bool.false_eq_true, Bool.and_eq_true] at hok'
    rename_i c
    obtain ⟨hc, hargs⟩ := hok'
    split at hc
    · rename_i x hcal
      have hra := okOs_sound hargs he
      have hx := okO_sound hc he
      simp only [opSem] at hs
      split at hs
      · rename_i g caps hf
        rw [hf] at hx
        obtain ⟨vs, hxe, hcaps⟩ := hx.ofFn
        exact call_wp ho hcal hxe (callSem_sim ok hs (hra.append hcaps.toV) r) hK
      · cases hs
    · cases hc
  | _ =>
    refine step ?_ (by rw [opSem_step (by intros; simp) (by intros; simp)] at hs; exact hs)
    unfold okAny at hok
    cases ho : o.op <;> simp only [ho, okCall, Bool.or_false] at hok ⊢ <;> exact hok
end
end Go.Am
namespace Go.Am
inductive Cls where
  | E | L | W
  deriving DecidableEq, Inhabited
def AOp.cls : AOp → Cls
  | .alloc _ | .box _ | .store .. | .range _ | .next _ => .W
  | .lit r .. => bif r then .W else .E
  | .mk r .. => bif r then .W else .E
  | .conv (.s2b r) _ => bif r then .W else .E
  | .conv .b2s _ => .L
  | .conv .mark _ => .W
  | .load .. => .L
  | .append r .. => bif r then .W else .L
  | .call .pure _ _ snap => bif snap.isEmpty then .E else .L
  | .call .ro .. => .L
  | .call .wr .. => .W
  | .callv .pure .. => .E
  | .callv .ro .. => .L
  | .callv .wr .. => .W
  | _ => .E
def AO.slots : AO → List Nat
  | .s n => [n]
  | .c _ => []
def oslots : Option AO → List Nat
  | none => []
  | some a => a.slots
def lslots (l : List AO) : List Nat := l.flatMap AO.slots
def AOp.slots : AOp → List Nat
  | .mov a => a.slots
  | .pick c a b => c.slots ++ (a.slots ++ b.slots)
  | .alloc _ => []
  | .box a => a.slots
  | .build _ ps => ps.flatMap fun p => p.2.2.slots
  | .lit _ _ _ _ ps => ps.flatMap fun p => p.2.slots
  | .load _ _ a => a.slots
  | .store _ a v => a.slots ++ v.slots
  | .nilchk a => a.slots
  | .bin _ a b => a.slots ++ b.slots
  | .eqk _ _ a b => a.slots ++ b.slots
  | .eqc _ _ a b => a.slots ++ b.slots
  | .un _ a => a.slots
  | .conv _ a => a.slots
  | .mkfn _ caps => lslots caps
  | .mk _ _ _ l c => l.slots ++ c.slots
  | .slice a _ lo hi mx => a.slots ++ (oslots lo ++ (oslots hi ++ oslots mx))
  | .faddr a _ => a.slots
  | .field a _ _ _ => a.slots
  | .iaddr a i _ _ => a.slots ++ i.slots
  | .index a i _ => a.slots ++ i.slots
  | .range a => a.slots
  | .next a => a.slots
  | .extract a _ => a.slots
  | .call _ _ args _ => lslots args
  | .callv _ f args => f.slots ++ lslots args
  | .append _ _ _ a b => a.slots ++ b.slots
  | .len _ a => a.slots
  | .min2 a b => a.slots ++ b.slots
  | .max2 a b => a.slots ++ b.slots
section
variable {e e' : Env}
def Agree (e e' : Env) (l : List Nat) : Prop := ∀ s ∈ l, e.getD s .undef = e'.getD s .undef
theorem Agree.left {a b : List Nat} (h : Agree e e' (a ++ b)) : Agree e e' a := fun s hs => h s (List.mem_append_left _ hs)
theorem Agree.right {a b : List Nat} (h : Agree e e' (a ++ b)) : Agree e e' b := fun s hs => h s (List.mem_append_right _ hs)
theorem AO.ev_agree {a : AO} (h : Agree e e' a.slots) : a.ev e = a.ev e' := by
  cases a with
  | s n => exact h n (by simp [AO.slots])
  | c v => rfl
theorem map_agree {l : List AO} (h : Agree e e' (lslots l)) : l.map (·.ev e) = l.map (·.ev e') := by
  induction l with
  | nil => rfl
  | cons a l ih =>
    have h' : Agree e e' (a.slots ++ lslots l) := by simpa [lslots] using h
    rw [List.map_cons, List.map_cons, AO.ev_agree h'.left, ih h'.right]
theorem optNat_agree {d : Nat} {a : Option AO} (h : Agree e e' (oslots a)) : optNat e d a = optNat e' d a := by
  cases a with
  | none => rfl
  | some a => simp only [optNat, AO.ev_agree h]
theorem fillCells_agree : ∀ (ps : List (Nat × Nat × AO)) (cs : List AV), Agree e e' (ps.flatMap fun p => p.2.2.slots) → fillCells e cs ps = fillCells e' cs ps
  | [], cs, _ => rfl
  | (off, sz, x) :: ps, cs, h => by
    have h' : Agree e e' (x.slots ++ ps.flatMap fun p => p.2.2.slots) := by simpa using h
    simp only [fillCells, AO.ev_agree h'.left, fillCells_agree ps _ h'.right]
theorem fillRows_agree (k : Nat) : ∀ (ps : List (Nat × AO)) (rs : List (List AV)), Agree e e' (ps.flatMap fun p => p.2.slots) → fillRows e k rs ps = fillRows e' k rs ps
  | [], rs, _ => rfl
  | (i, x) :: ps, rs, h => by
    have h' : Agree e e' (x.slots ++ ps.flatMap fun p => p.2.slots) := by simpa using h
    simp only [fillRows, AO.ev_agree h'.left, fillRows_agree k ps _ h'.right]
theorem sliceAV_agree {k : Nat} {v : AV} {lo hi mx : Option AO} (h1 : Agree e e' (oslots lo)) (h2 : Agree e e' (oslots hi)) (h3 : Agree e e' (oslots mx)) :
    sliceAV e k v lo hi mx = sliceAV e' k v lo hi mx := by
  unfold sliceAV
  have hm : ∀ m, mx = some m → m.ev e = m.ev e' := fun m hm => AO.ev_agree (by rw [hm] at h3; exact h3)
  rw [optNat_agree h1]
  cases lenOf v with
  | none => rfl
  | some l =>
    cases optNat e' 0 lo with
    | none => rfl
    | some a =>
      show (do let b ← optNat e l hi; _ : Option AV) = (do let b ← optNat e' l hi; _ : Option AV)
      rw [optNat_agree h2]
      cases optNat e' l hi with
      | none => rfl
      | some b =>
        cases mx with
        | none => cases v <;> rfl
        | some m => cases v <;> first | rfl | (simp only [Option.bind_eq_bind, Option.bind_some, hm m rfl])
theorem stepOp_agree {base : Nat} {h : H} (a : AOp) (hg : Agree e e' a.slots) : stepOp base e h a = stepOp base e' h a := by
  cases a <;> simp only [AOp.slots] at hg
  case alloc => rfl
  case build z ps => simp only [stepOp, fillCells_agree ps z hg]
  case lit r k z n ps => simp only [stepOp, fillRows_agree k ps _ hg]
  case mkfn f caps => simp only [stepOp, map_agree hg]
  case slice a k lo hi mx => simp only [stepOp, AO.ev_agree hg.left, sliceAV_agree hg.right.left hg.right.right.left hg.right.right.right]
  case pick c a b => simp only [stepOp, AO.ev_agree hg.left, AO.ev_agree hg.right.left, AO.ev_agree hg.right.right]
  case call => rfl
  case callv => rfl
  all_goals first
    | (simp only [stepOp, AO.ev_agree hg]; done)
    | (simp only [stepOp, AO.ev_agree hg.left, AO.ev_agree hg.right]; done)
theorem opSem_agree {call : CallSem} {base : Nat} {h : H} (a : AOp) (hg : Agree e e' a.slots) : opSem call base e h a = opSem call base e' h a := by
  cases a with
  | call k f args snap =>
    have h' : Agree e e' (lslots args) := hg
    cases snap with
    | nil => simp only [opSem, map_agree h']
    | cons t ts => simp only [opSem, map_agree h']
  | callv k f args =>
    have h' : Agree e e' (f.slots ++ lslots args) := hg
    simp only [opSem, map_agree h'.right, AO.ev_agree h'.left]
  | _ =>
    rw [opSem_step (by intros; simp) (by intros; simp), opSem_step (by intros; simp) (by intros; simp)]
    exact stepOp_agree _ hg
def gslots : Option (Nat × Bool) → List Nat
  | none => []
  | some (n, _) => [n]
theorem wanted_agree {g : Option (Nat × Bool)} (hg : Agree e e' (gslots g)) : wanted e g = wanted e' g := by
  cases g with
  | none => rfl
  | some p => obtain ⟨n, b⟩ := p; simp only [wanted, hg n (by simp [gslots])]
end
section
variable {fns : Fns} {ex : Ex} {base : Nat} {e : Env} {h h' h1 : H} {v : AV}
theorem callSem_noW {k : CK} (hk : k ≠ .wr) {f : Nat} {args : List AV} (hs : callSem fns ex k f args base h = some (v, h')) : h' = h := by
  cases k with
  | wr => exact absurd rfl hk
  | ro =>
    simp only [callSem] at hs
    split at hs
    · split at hs
      · cases hs; rfl
      · cases hs
    · cases hs
  | pure =>
    simp only [callSem] at hs
    split at hs
    · split at hs
      · split at hs
        · cases hs; rfl
        · cases hs
      · cases hs
    · cases hs
theorem callSem_pure {f : Nat} {args : List AV} (hs : callSem fns ex .pure f args base h = some (v, h')) : callSem fns ex .pure f args base h1 = some (v, h1) := by
  simp only [callSem] at hs ⊢
  split at hs
  · rename_i hu
    rw [if_pos hu]
    split at hs
    · split at hs
      · rename_i hu2; cases hs; simp only [hu2, if_true]
      · cases hs
    · cases hs
  · cases hs
theorem stepOp_noW {a : AOp} (hc : a.cls ≠ .W) (hs : stepOp base e h a = some (v, h')) : h' = h := by
  cases a
  case conv c a =>
    cases c <;> simp only [stepOp] at hs
    case s2b r =>
      cases r
      · split at hs
        · cases hs; rfl
        · cases hs
      · exact absurd rfl hc
    case b2s =>
      split at hs
      · obtain ⟨_, _, hs⟩ := Option.map_eq_some_iff.1 hs; cases hs; rfl
      · obtain ⟨_, _, hs⟩ := Option.map_eq_some_iff.1 hs; cases hs; rfl
      · cases hs
    case mark => exact absurd rfl hc
    all_goals
      split at hs
      · cases hs; rfl
      · cases hs
  case lit r k z n ps =>
    cases r
    · simp only [stepOp] at hs
      split at hs
      · cases hs; rfl
      · cases hs
    · exact absurd rfl hc
  case mk r k z l c =>
    cases r
    · simp only [stepOp] at hs
      split at hs
      · split at hs
        · cases hs; rfl
        · cases hs
      · cases hs
    · exact absurd rfl hc
  case append r k lim a b =>
    cases r
    · simp only [stepOp] at hs
      repeat' split at hs
      all_goals first
        | (cases hs; rfl)
        | (cases hs; done)
        | (rename_i hx; exact absurd hx (by decide))
        | (rename_i hx; exact absurd hx.1 (by decide))
    · exact absurd rfl hc
  all_goals first
    | exact absurd rfl hc
    | (simp only [stepOp] at hs
       repeat' split at hs
       all_goals first
         | (cases hs; rfl)
         | (cases hs; done)
         | (obtain ⟨_, _, hs⟩ := Option.map_eq_some_iff.1 hs; cases hs; rfl))
theorem stepOp_E {a : AOp} (hc : a.cls = .E) : stepOp base e h1 a = (stepOp base e h a).map fun p => (p.1, h1) := by
  cases a
  case conv c a =>
    cases c <;> simp only [stepOp]
    case s2b r =>
      cases r
      · split <;> rfl
      · cases hc
    case b2s => cases hc
    case mark => cases hc
    all_goals split <;> rfl
  case lit r k z n ps =>
    cases r
    · simp only [stepOp]
      split <;> rfl
    · cases hc
  case mk r k z l c =>
    cases r
    · simp only [stepOp]
      split
      · split <;> rfl
      · rfl
    · cases hc
  case append r k lim a b => cases r <;> cases hc
  all_goals first
    | (cases hc; done)
    | (simp only [stepOp]
       repeat' split
       all_goals first
         | rfl
         | (simp only [Option.map_map]; rfl))
theorem opSem_noW {a : AOp} (hc : a.cls ≠ .W) (hs : opSem (callSem fns ex) base e h a = some (v, h')) : h' = h := by
  cases a with
  | call k f args snap =>
    have hk : k ≠ .wr := by rintro rfl; exact hc rfl
    cases snap with
    | nil => exact callSem_noW hk hs
    | cons t ts =>
      cases k with
      | wr => exact absurd rfl hk
      | _ =>
        simp only [opSem] at hs
        split at hs
        · split at hs
          · rename_i hcs
            split at hs
            · cases hs; exact callSem_noW hk hcs
            · cases hs
          · cases hs
        · cases hs
  | callv k f args =>
    have hk : k ≠ .wr := by rintro rfl; exact hc rfl
    simp only [opSem] at hs
    split at hs
    · exact callSem_noW hk hs
    · cases hs
  | _ =>
    rw [opSem_step (by intros; simp) (by intros; simp)] at hs
    exact stepOp_noW hc hs
theorem opSem_E {a : AOp} (hc : a.cls = .E) (hs : opSem (callSem fns ex) base e h a = some (v, h')) : opSem (callSem fns ex) base e h1 a = some (v, h1) := by
  cases a with
  | call k f args snap =>
    cases k with
    | wr => cases hc
    | ro => cases hc
    | pure => cases snap with
      | nil => exact callSem_pure (base := base) hs
      | cons t ts => cases hc
  | callv k f args =>
    cases k with
    | wr => cases hc
    | ro => cases hc
    | pure =>
      simp only [opSem] at hs ⊢
      split at hs
      · exact callSem_pure (base := base) hs
      · cases hs
  | _ =>
    rw [opSem_step (by intros; simp) (by intros; simp)] at hs ⊢
    rw [stepOp_E (h := h) hc, hs]; rfl
end
end Go.Am
namespace Go.Am
def okGuard (ops : Array Oper) : Option (Nat × Bool) → Option (Nat × Bool) → Bool
  | none, none => true
  | some (j, w), some (s, w') => w == w' && ((ops[j]?).bind (·.dst)) == some s
  | _, _ => false
def okOper (P : Program) (ρ : Nat → FuncId) (ops : Array Oper) (o : Oper) (a : AOper) : Bool :=
  o.dst == a.dst && okGuard ops o.guard a.guard && okAny P ρ o.op a.op
def okAll (P : Program) (ρ : Nat → FuncId) (ops : Array Oper) (l : List (Nat × AOper)) : Bool :=
  l.all fun p => match ops[p.1]? with
    | some o => okOper P ρ ops o p.2
    | none => false
section
variable {P : Program} {ρ : Nat → FuncId} {G G' : Gho} {pw : Pw} {base : Nat} {h h' : H} {w w' : World} {e e' : Env} {act : Act} {v : AV} {ops : Array Oper}
theorem RV.ofUndef {x : Value} (h : RV ρ G .undef x) : x = Go.undef := by
  cases h with
  | cell _ _ h => cases h
  | undef => rfl
theorem wanted_sim (he : RE ρ G e act.tmps) {o : Oper} {g : Option (Nat × Bool)} (hok : okGuard ops o.guard g = true) {t : Bool} (hw : wanted e g = some t) :
    Region.wanted o (yielded ops act.tmps) = t := by
  unfold Region.wanted
  cases hg : o.guard with
  | none =>
    rw [hg] at hok
    cases g with
    | none => simp only [wanted, Option.some.injEq] at hw; exact hw
    | some p => cases hok
  | some q =>
    obtain ⟨j, want⟩ := q
    rw [hg] at hok
    cases g with
    | none => cases hok
    | some p =>
      obtain ⟨s, want'⟩ := p
      simp only [okGuard, Bool.and_eq_true, beq_iff_eq] at hok
      obtain ⟨rfl, hd⟩ := hok
      have h2 := he.2 s
      simp only [wanted] at hw
      simp only [yielded, hd, Option.bind_some]
      split at hw
      · rename_i b hb
        cases hw
        rw [hb] at h2
        have h3 := h2.ofBool
        rw [Array.getD_eq_getD_getElem?] at h3
        cases ht : act.tmps[s]? with
        | none => rw [ht] at h3; cases h3
        | some x =>
          rw [ht] at h3
          simp only [Option.getD_some] at h3
          subst h3
          cases b <;> cases want <;> rfl
      · rename_i hb
        cases hw
        rw [hb] at h2
        have h3 := h2.ofUndef
        rw [Array.getD_eq_getD_getElem?] at h3
        cases ht : act.tmps[s]? with
        | none => simp
        | some x =>
          rw [ht] at h3
          simp only [Option.getD_some] at h3
          subst h3
          rfl
      · cases hw
theorem oper_wp {fns : Fns} {ex : Ex} (ok : CallOK P ρ pw.gl (callF fns ex)) {i : Nat} {o : Oper} {a : AOper} (hi : ops[i]? = some o) (hok : okOper P ρ ops o a = true) (he : RE ρ G e act.tmps)
    (r : Rel ρ pw base G h w) {t : Bool} (hw : wanted e a.guard = some t) (hs : t = true → opSem (callSem fns ex) base e h a.op = some (v, h')) (hf : t = false → v = .undef ∧ h' = h)
    {K : Act → World → Prop} {Q : Exit → Act → World → Prop}
    (hK : ∀ G' v' w', Ext pw h h' G G' → RV ρ G' v v' → Rel ρ pw base G' h' w' → K (act.put a.dst v') w') : wpOp P ops Q i K act w := by
  unfold okOper at hok
  simp only [Bool.and_eq_true, beq_iff_eq] at hok
  obtain ⟨⟨hd, hg⟩, hop⟩ := hok
  unfold wpOp
  rw [hi]
  simp only
  rw [wanted_sim he hg hw]
  cases t with
  | true =>
    rw [if_pos rfl]
    refine .inl (op_wp ok hop he r (hs rfl) ?_)
    rw [hd]
    exact hK
  | false =>
    rw [if_neg (by simp)]
    obtain ⟨rfl, rfl⟩ := hf rfl
    rw [hd]
    exact hK G _ w (Ext.refl pw G (Nat.le_refl _)) .undef r
theorem runOp_some {call : CallSem} {o : AOper} (hr : runOp call base o e h = some (e', h')) :
    ∃ t v, wanted e o.guard = some t ∧ (t = true → opSem call base e h o.op = some (v, h')) ∧ (t = false → v = .undef ∧ h' = h) ∧ e' = putDst e o.dst v := by
  unfold runOp at hr
  split at hr
  · rename_i hw
    split at hr
    · rename_i v h1 hs
      cases hr
      exact ⟨true, v, hw, fun _ => hs, (fun hf => by cases hf), rfl⟩
    · cases hr
  · rename_i hw
    cases hr
    exact ⟨false, .undef, hw, (fun hf => by cases hf), fun _ => ⟨rfl, rfl⟩, rfl⟩
  · cases hr
theorem ops_wp {fns : Fns} {ex : Ex} (ok : CallOK P ρ pw.gl (callF fns ex)) {all : List (Nat × AOper)} {chk : List (Nat × Nat)} {Q : Exit → Act → World → Prop} :
    ∀ (l : List (Nat × AOper)) (e : Env) (h : H) (G : Gho) (act : Act) (w : World), okAll P ρ ops l = true → runOps (callSem fns ex) base all chk l e h = some (e', h') →
      RE ρ G e act.tmps → Rel ρ pw base G h w → (∀ G' act' w', Ext pw h h' G G' → RE ρ G' e' act'.tmps → Rel ρ pw base G' h' w' → act'.defers = act.defers → Q .normal act' w') →
      wpOps P ops Q (l.map (·.1)) act w
  | [], e, h, G, act, w, _, hr, he, r, hQ => by
    simp only [runOps, Option.some.injEq, Prod.mk.injEq] at hr
    obtain ⟨rfl, rfl⟩ := hr
    exact hQ G act w (Ext.refl pw G (Nat.le_refl _)) he r rfl
  | (i, a) :: l, e, h, G, act, w, hok, hr, he, r, hQ => by
    simp only [okAll, List.all_cons, Bool.and_eq_true] at hok
    obtain ⟨h1, h2⟩ := hok
    simp only [runOps] at hr
    split at hr
    · rename_i e1 h1' hro
      split at hr
      · rw [List.map_cons, wpOps_cons]
        split at h1
        · rename_i o ho
          obtain ⟨t, v, q1, q2, q3, q4⟩ := runOp_some hro
          refine oper_wp ok ho h1 he r q1 q2 q3 fun G' v' w' x hv r' => ?_
          refine ops_wp ok l e1 h1' G' _ w' h2 hr (by rw [q4]; exact (he.mono x.le).put hv a.dst) r' fun G'' act'' w'' x' he'' r'' hd => ?_
          refine hQ G'' act'' w'' (x.trans x') he'' r'' ?_
          rw [hd]
          cases a.dst <;> rfl
        · cases h1
      · cases hr
    · cases hr
end
end Go.Am
namespace Go.Am
mutual
theorem AV.beq_eq : ∀ (a b : AV), a.beq b = true → a = b
  | .int k n, b, h => by cases b <;> simp [AV.beq] at h; rw [h.1, h.2]
  | .bool x, b, h => by cases b <;> simp [AV.beq] at h; rw [h]
  | .str x, b, h => by cases b <;> simp [AV.beq] at h; rw [h]
  | .nilp, b, h => by cases b <;> simp [AV.beq] at h; rfl
  | .ptr x y z, b, h => by
    cases b <;> simp only [AV.beq, Bool.and_eq_true, Bool.false_eq_true] at h
    rw [Nat.eq_of_beq_eq_true h.1.1, Nat.eq_of_beq_eq_true h.1.2, Nat.eq_of_beq_eq_true h.2]
  | .rptr x, b, h => by
    cases b <;> simp only [AV.beq, Bool.false_eq_true] at h
    rw [AV.beqL_eq _ _ h]
  | .vs f x, b, h => by
    cases b <;> simp only [AV.beq, Bool.and_eq_true, beq_iff_eq, Bool.false_eq_true] at h
    rw [h.1, AV.beqR_eq _ _ h.2]
  | .ref x y z k, b, h => by
    cases b <;> simp only [AV.beq, Bool.and_eq_true, Bool.false_eq_true] at h
    rw [Nat.eq_of_beq_eq_true h.1.1.1, Nat.eq_of_beq_eq_true h.1.1.2, Nat.eq_of_beq_eq_true h.1.2, Nat.eq_of_beq_eq_true h.2]
  | .fn f x, b, h => by
    cases b <;> simp only [AV.beq, Bool.and_eq_true, Bool.false_eq_true] at h
    rw [Nat.eq_of_beq_eq_true h.1, AV.beqL_eq _ _ h.2]
  | .nilfn, b, h => by cases b <;> simp [AV.beq] at h; rfl
  | .agg x, b, h => by
    cases b <;> simp only [AV.beq, Bool.false_eq_true] at h
    rw [AV.beqL_eq _ _ h]
  | .tup x, b, h => by
    cases b <;> simp only [AV.beq, Bool.false_eq_true] at h
    rw [AV.beqL_eq _ _ h]
  | .undef, b, h => by cases b <;> simp [AV.beq] at h; rfl
  | .any, b, h => by cases b <;> simp [AV.beq] at h; rfl
theorem AV.beqL_eq : ∀ (a b : List AV), AV.beqL a b = true → a = b
  | [], [], _ => rfl
  | [], _ :: _, h => by simp [AV.beqL] at h
  | _ :: _, [], h => by simp [AV.beqL] at h
  | a :: x, b :: y, h => by
    simp only [AV.beqL, Bool.and_eq_true] at h
    rw [AV.beq_eq a b h.1, AV.beqL_eq x y h.2]
theorem AV.beqR_eq : ∀ (a b : List (List AV)), AV.beqR a b = true → a = b
  | [], [], _ => rfl
  | [], _ :: _, h => by simp [AV.beqR] at h
  | _ :: _, [], h => by simp [AV.beqR] at h
  | a :: x, b :: y, h => by
    simp only [AV.beqR, Bool.and_eq_true] at h
    rw [AV.beqL_eq a b h.1, AV.beqR_eq x y h.2]
end
def preds (ops : Array Oper) (i : Nat) : List Nat := match ops[i]? with
  | some o => (o.after.toList.filter (Region.binds .any ·)).map (·.on)
  | none => []
inductive Anc (ops : Array Oper) : Nat → Nat → Prop
  | dir {j i : Nat} : j ∈ preds ops i → Anc ops j i
  | trans {j k i : Nat} : Anc ops j k → Anc ops k i → Anc ops j i
def predMask (tbl : List (Nat × Nat)) : List Nat → Nat
  | [] => 0
  | j :: js => (1 <<< j) ||| (((tbl.lookup j).getD 0) ||| predMask tbl js)
def ancTbl (ops : Array Oper) : List Nat → List (Nat × Nat) → List (Nat × Nat)
  | [], t => t
  | i :: r, t => ancTbl ops r ((i, predMask t (preds ops i)) :: t)
def isAnc (t : List (Nat × Nat)) (j i : Nat) : Bool := ((t.lookup i).getD 0).testBit j
def TblOk (ops : Array Oper) (t : List (Nat × Nat)) : Prop := ∀ i j, isAnc t j i = true → Anc ops j i
theorem predMask_sound {ops : Array Oper} {t : List (Nat × Nat)} (ht : TblOk ops t) {i : Nat} : ∀ (js : List Nat), (∀ j ∈ js, j ∈ preds ops i) → ∀ j, (predMask t js).testBit j = true → Anc ops j i
  | [], _, j, h => by simp [predMask] at h
  | k :: ks, hs, j, h => by
    have hk := hs k (by simp)
    simp only [predMask, Nat.testBit_or, Bool.or_eq_true] at h
    rcases h with h | h | h
    · rw [Nat.shiftLeft_eq, Nat.one_mul, Nat.testBit_two_pow] at h
      have : k = j := of_decide_eq_true h
      subst this
      exact .dir hk
    · exact .trans (ht k j h) (.dir hk)
    · exact predMask_sound ht ks (fun x hx => hs x (by simp [hx])) j h
theorem ancTbl_sound {ops : Array Oper} : ∀ (l : List Nat) (t : List (Nat × Nat)), TblOk ops t → TblOk ops (ancTbl ops l t)
  | [], t, h => h
  | i :: l, t, h => by
    refine ancTbl_sound l _ fun i' j hj => ?_
    simp only [isAnc, List.lookup] at hj
    split at hj
    · rename_i heq
      have : i' = i := by simpa using heq
      subst this
      exact predMask_sound h _ (fun _ hj => hj) j (by simpa using hj)
    · exact h i' j hj
def slotsOf (a : AOper) : List Nat := gslots a.guard ++ a.op.slots
def hits (d : Option Nat) (l : List Nat) : Bool := match d with
  | some n => l.contains n
  | none => false
def same (d d' : Option Nat) : Bool := match d, d' with
  | some n, some m => n == m
  | _, _ => false
def conflict (a b : AOper) : Bool :=
  hits b.dst (slotsOf a) || hits a.dst (slotsOf b) || (a.op.cls == .W && (b.op.cls == .W || b.op.cls == .L))
def okPairs (t : List (Nat × Nat)) (chk : List (Nat × Nat)) : List (Nat × AOper) → Bool
  | [] => true
  | (i, a) :: rest =>
    rest.all (fun (k, b) => !same a.dst b.dst && (isAnc t i k || (!conflict a b && (!(a.op.cls == .L && b.op.cls == .W) ||
      (chk.contains (i, k) && a.dst.isSome && ((i, a) :: rest).all fun (_, c) => !hits c.dst (slotsOf a)))))) && okPairs t chk rest
def okOrder (ops : Array Oper) : List Nat → List Nat → Bool
  | [], _ => true
  | i :: r, seen => (preds ops i).all (seen.contains ·) && okOrder ops r (i :: seen)
def okDrawn (P : Program) (ρ : Nat → FuncId) (ops : Array Oper) (l : List (Nat × AOper)) (chk : List (Nat × Nat)) : Bool :=
  let is := l.map (·.1)
  okAll P ρ ops l && decide is.Nodup && (List.range ops.size).all (is.contains ·) && okOrder ops is [] && okPairs (ancTbl ops is []) chk l
section
variable {P : Program} {ρ : Nat → FuncId} {ops : Array Oper} {l : List (Nat × AOper)} {chk : List (Nat × Nat)}
theorem okPairs_sound {t : List (Nat × Nat)} (ht : TblOk ops t) : ∀ {l : List (Nat × AOper)}, okPairs t chk l = true → ∀ {p p' i k : Nat} {a b : AOper}, p < p' → l[p]? = some (i, a) → l[p']? = some (k, b) →
    same a.dst b.dst = false ∧ (Anc ops i k ∨ (conflict a b = false ∧ (a.op.cls = .L → b.op.cls = .W → (i, k) ∈ chk ∧ a.dst.isSome = true ∧
      ∀ (q m : Nat) (c : AOper), p ≤ q → l[q]? = some (m, c) → hits c.dst (slotsOf a) = false)))
  | [], _, p, p', i, k, a, b, _, h1, _ => by simp at h1
  | (i0, a0) :: rest, h, p, p', i, k, a, b, hp, h1, h2 => by
    simp only [okPairs, Bool.and_eq_true] at h
    cases p' with
    | zero => omega
    | succ p' =>
      rw [List.getElem?_cons_succ] at h2
      cases p with
      | zero =>
        rw [List.getElem?_cons_zero, Option.some.injEq, Prod.mk.injEq] at h1
        obtain ⟨rfl, rfl⟩ := h1
        have h3 := List.all_eq_true.1 h.1 (k, b) (List.mem_of_getElem? h2)
        simp only [Bool.and_eq_true, Bool.not_eq_true'] at h3
        refine ⟨h3.1, ?_⟩
        rcases Bool.or_eq_true _ _ ▸ h3.2 with h4 | h4
        · exact .inl (ht _ _ h4)
        · right
          rw [Bool.and_eq_true, Bool.not_eq_true'] at h4
          refine ⟨h4.1, fun hl hw => ?_⟩
          have h5 := h4.2
          rw [hl, hw] at h5
          simp only [beq_self_eq_true, Bool.and_self, Bool.not_true, Bool.false_or, Bool.and_eq_true, List.contains_iff_mem] at h5
          refine ⟨h5.1.1, h5.1.2, fun q m c _ hq => ?_⟩
          have h6 := List.all_eq_true.1 h5.2 (m, c) (List.mem_of_getElem? hq)
          simpa using h6
      | succ p =>
        rw [List.getElem?_cons_succ] at h1
        obtain ⟨h3, h4⟩ := okPairs_sound ht h.2 (by omega : p < p') h1 h2
        refine ⟨h3, h4.imp id fun ⟨h5, h6⟩ => ⟨h5, fun hl hw => ?_⟩⟩
        obtain ⟨h7, h8, h9⟩ := h6 hl hw
        refine ⟨h7, h8, fun q m c hq hc => ?_⟩
        cases q with
        | zero => omega
        | succ q => exact h9 q m c (by omega) (by simpa using hc)
theorem okOrder_sound : ∀ {is seen : List Nat}, okOrder ops is seen = true → ∀ {p i : Nat}, is[p]? = some i → ∀ j ∈ preds ops i, j ∈ seen ∨ ∃ p', p' < p ∧ is[p']? = some j
  | [], _, _, p, i, h1, _, _ => by simp at h1
  | i0 :: r, seen, h, p, i, h1, j, hj => by
    simp only [okOrder, Bool.and_eq_true] at h
    cases p with
    | zero =>
      simp only [List.getElem?_cons_zero, Option.some.injEq] at h1
      subst h1
      exact .inl (by simpa using List.all_eq_true.1 h.1 j hj)
    | succ p =>
      rw [List.getElem?_cons_succ] at h1
      rcases okOrder_sound h.2 h1 j hj with h2 | ⟨p', h2, h3⟩
      · rcases List.mem_cons.1 h2 with rfl | h2
        · exact .inr ⟨0, by omega, by simp⟩
        · exact .inl h2
      · exact .inr ⟨p' + 1, by omega, by simpa using h3⟩
theorem recheck_mem {call : CallSem} {base : Nat} {all : List (Nat × AOper)} {w : Nat} {e : Env} {h : H} : ∀ {cs : List (Nat × Nat)}, recheck call base all w e h cs = true → ∀ {i : Nat}, (i, w) ∈ cs →
    ∃ o, all.lookup i = some o ∧ again call base o e h = true
  | [], _, i, hm => by simp at hm
  | (l, w') :: cs, hr, i, hm => by
    simp only [recheck, Bool.and_eq_true] at hr
    rcases List.mem_cons.1 hm with h1 | h1
    · cases h1
      have h2 := hr.1
      rw [nbeq] at h2
      simp only [decide_true, cond_true] at h2
      split at h2
      · rename_i o ho; exact ⟨o, ho, h2⟩
      · cases h2
    · exact recheck_mem hr.2 h1
theorem lookup_of_nodup : ∀ {l : List (Nat × AOper)}, (l.map (·.1)).Nodup → ∀ {i : Nat} {a : AOper}, (i, a) ∈ l → l.lookup i = some a
  | [], _, i, a, hm => by simp at hm
  | (k, b) :: l, hn, i, a, hm => by
    rw [List.map_cons, List.nodup_cons] at hn
    rcases List.mem_cons.1 hm with h1 | h1
    · cases h1; simp [List.lookup]
    · have hne : i ≠ k := by rintro rfl; exact hn.1 (List.mem_map.2 ⟨_, h1, rfl⟩)
      have : (i == k) = false := by simpa using hne
      rw [List.lookup, this]
      exact lookup_of_nodup hn.2 h1
theorem nodup_pos {is : List Nat} (hn : is.Nodup) {p p' i : Nat} (h1 : is[p]? = some i) (h2 : is[p']? = some i) : p = p' := by
  obtain ⟨hp, e1⟩ := List.getElem?_eq_some_iff.1 h1
  obtain ⟨hp', e2⟩ := List.getElem?_eq_some_iff.1 h2
  have hpw := List.pairwise_iff_getElem.1 hn
  rcases Nat.lt_trichotomy p p' with hlt | heq | hgt
  · exact absurd (e1.trans e2.symm) (hpw p p' hp hp' hlt)
  · exact heq
  · exact absurd (e2.trans e1.symm) (hpw p' p hp' hp hgt)
theorem runOps_trace {call : CallSem} {base : Nat} {all : List (Nat × AOper)} : ∀ (l : List (Nat × AOper)) (e : Env) (h : H) (e' : Env) (h' : H), runOps call base all chk l e h = some (e', h') →
    ∃ (E : Nat → Env) (Hs : Nat → H), E 0 = e ∧ Hs 0 = h ∧ E l.length = e' ∧ Hs l.length = h' ∧ ∀ (p i : Nat) (a : AOper), l[p]? = some (i, a) →
      ∃ t v, wanted (E p) a.guard = some t ∧ (t = true → opSem call base (E p) (Hs p) a.op = some (v, Hs (p + 1))) ∧ (t = false → v = .undef ∧ Hs (p + 1) = Hs p) ∧ E (p + 1) = putDst (E p) a.dst v ∧
        recheck call base all i (E (p + 1)) (Hs (p + 1)) chk = true
  | [], e, h, e', h', hr => by
    simp only [runOps, Option.some.injEq, Prod.mk.injEq] at hr
    obtain ⟨rfl, rfl⟩ := hr
    exact ⟨fun _ => e, fun _ => h, rfl, rfl, rfl, rfl, fun p i a hp => by simp at hp⟩
  | (i0, a0) :: l, e, h, e', h', hr => by
    simp only [runOps] at hr
    split at hr
    · rename_i e1 h1 hro
      split at hr
      · rename_i hrc
        obtain ⟨t, v, q1, q2, q3, q4⟩ := runOp_some hro
        obtain ⟨E, Hs, r1, r2, r3, r4, r5⟩ := runOps_trace l e1 h1 e' h' hr
        refine ⟨fun p => Nat.casesOn p e E, fun p => Nat.casesOn p h Hs, rfl, rfl, r3, r4, fun p i a hp => ?_⟩
        cases p with
        | zero =>
          rw [List.getElem?_cons_zero, Option.some.injEq, Prod.mk.injEq] at hp
          obtain ⟨rfl, rfl⟩ := hp
          refine ⟨t, v, q1, fun ht => ?_, fun ht => ?_, ?_, ?_⟩
          · show opSem call base e h a0.op = some (v, Hs 0); rw [r2]; exact q2 ht
          · show v = .undef ∧ Hs 0 = h; rw [r2]; exact q3 ht
          · show E 0 = putDst e a0.dst v; rw [r1]; exact q4
          · show recheck call base all i0 (E 0) (Hs 0) chk = true; rw [r1, r2]; exact hrc
        | succ p => exact r5 p i a (by simpa using hp)
      · cases hr
    · cases hr
end
end Go.Am
namespace Go.Am
def Down (ops : Array Oper) (listed : Array Bool) : Prop := ∀ i, listed.getD i false = true → ∀ j ∈ preds ops i, listed.getD j false = true
section
variable {P : Program} {ρ : Nat → FuncId} {ops : Array Oper} {l : List (Nat × AOper)} {chk : List (Nat × Nat)}
theorem Down.anc {listed : Array Bool} (hd : Down ops listed) {i j : Nat} (h : Anc ops j i) : listed.getD i false = true → listed.getD j false = true := by
  induction h with
  | dir hj => exact fun hi => hd _ hi _ hj
  | trans _ _ ih1 ih2 => exact fun hi => ih1 (ih2 hi)
theorem mem_preds {i j : Nat} {o : Oper} (ho : ops[i]? = some o) : j ∈ preds ops i ↔ ∃ e ∈ o.after, Region.binds .any e = true ∧ e.on = j := by
  simp only [preds, ho, List.mem_map, List.mem_filter, Array.mem_toList_iff]
  constructor
  · rintro ⟨e, ⟨h1, h2⟩, h3⟩; exact ⟨e, h1, h2, h3⟩
  · rintro ⟨e, h1, h2, h3⟩; exact ⟨e, ⟨h1, h2⟩, h3⟩
theorem ready_iff {listed : Array Bool} {i : Nat} : i ∈ Region.ready .any ops listed ↔ listed.getD i true = false ∧ (∃ o, ops[i]? = some o) ∧ ∀ j ∈ preds ops i, listed.getD j false = true := by
  rw [mem_ready]
  constructor
  · rintro ⟨h0, o, ho, h⟩
    refine ⟨h0, ⟨o, ho⟩, fun j hj => ?_⟩
    obtain ⟨e, h1, h2, rfl⟩ := (mem_preds ho).1 hj
    exact h e h1 h2
  · rintro ⟨h0, ⟨o, ho⟩, h⟩
    exact ⟨h0, o, ho, fun e he hb => h _ ((mem_preds ho).2 ⟨e, he, hb, rfl⟩)⟩
theorem Down.anc_ready {listed : Array Bool} (hd : Down ops listed) {i j : Nat} (hp : ∀ k ∈ preds ops i, listed.getD k false = true) (h : Anc ops j i) : listed.getD j false = true := by
  induction h with
  | dir hj => exact hp _ hj
  | trans h1 _ _ ih2 => exact hd.anc h1 (ih2 hp)
theorem unlisted {listed : Array Bool} {i : Nat} (h : listed.getD i true = false) : i < listed.size ∧ listed.getD i false ≠ true := by
  rw [Array.getD_eq_getD_getElem?] at h ⊢
  cases hx : listed[i]? with
  | none => rw [hx] at h; simp at h
  | some x =>
    rw [hx] at h
    simp only [Option.getD_some] at h
    subst h
    exact ⟨(Array.getElem?_eq_some_iff.1 hx).1, by simp⟩
theorem listed_set {listed : Array Bool} {i j : Nat} (hi : i < listed.size) : (listed.setIfInBounds i true).getD j false = true ↔ j = i ∨ listed.getD j false = true := by
  by_cases h : j = i
  · subst h
    simp [Array.getD_eq_getD_getElem?, hi]
  · rw [getD_set_ne false (Ne.symm h)]; simp [h]
def left (n : Nat) (listed : Array Bool) : Nat := (List.range n).countP fun i => !listed.getD i true
theorem countP_flip : ∀ {l : List Nat}, l.Nodup → ∀ {f g : Nat → Bool} {i : Nat}, i ∈ l → f i = true → g i = false → (∀ j, j ≠ i → g j = f j) → l.countP f = l.countP g + 1
  | [], _, f, g, i, hm, _, _, _ => by simp at hm
  | x :: l, hn, f, g, i, hm, hf, hg, hj => by
    rw [List.nodup_cons] at hn
    by_cases hx : x = i
    · subst hx
      have hrest : l.countP f = l.countP g := List.countP_congr fun y hy => by
        have : y ≠ x := by rintro rfl; exact hn.1 hy
        rw [hj y this]
      rw [List.countP_cons, List.countP_cons, hf, hg, hrest]; simp
    · have hm' : i ∈ l := (List.mem_cons.1 hm).resolve_left (Ne.symm hx)
      rw [List.countP_cons, List.countP_cons, hj x hx, countP_flip hn.2 hm' hf hg hj]; omega
theorem left_set {n : Nat} {listed : Array Bool} (hs : listed.size = n) {i : Nat} (h : listed.getD i true = false) : left n listed = left n (listed.setIfInBounds i true) + 1 := by
  obtain ⟨hi, _⟩ := unlisted h
  refine countP_flip (List.nodup_range) (i := i) (by rw [List.mem_range]; omega) (by rw [h]; rfl) ?_ fun j hj => ?_
  · simp [Array.getD_eq_getD_getElem?, hi]
  · rw [getD_set_ne true (Ne.symm hj)]
theorem left_zero {n : Nat} {listed : Array Bool} (h : left n listed = 0) {i : Nat} (hi : i < n) : listed.getD i true = true := by
  have := List.countP_eq_zero.1 h i (List.mem_range.2 hi)
  simpa using this
theorem putDst_length (e : Env) (d : Option Nat) (v : AV) : (putDst e d v).length = e.length := by cases d <;> simp [putDst]
theorem putDst_getD (e : Env) (d : Option Nat) (v : AV) (s : Nat) : (putDst e d v).getD s .undef = if d = some s ∧ s < e.length then v else e.getD s .undef := by
  cases d with
  | none => simp [putDst]
  | some n =>
    simp only [putDst, List.getD_eq_getElem?_getD, List.getElem?_set, Option.some.injEq]
    by_cases h : n = s
    · subst h
      by_cases hl : n < e.length
      · simp [hl]
      · simp [hl]
    · simp [h]
structure Trace (call : CallSem) (base : Nat) (l : List (Nat × AOper)) (chk : List (Nat × Nat)) (E : Nat → Env) (Hs : Nat → H) : Prop where
  step : ∀ (p i : Nat) (a : AOper), l[p]? = some (i, a) →
      ∃ t v, wanted (E p) a.guard = some t ∧ (t = true → opSem call base (E p) (Hs p) a.op = some (v, Hs (p + 1))) ∧ (t = false → v = .undef ∧ Hs (p + 1) = Hs p) ∧ E (p + 1) = putDst (E p) a.dst v ∧
        (a.op.cls = .W → ∀ j a2, (j, a2) ∈ l → (j, i) ∈ chk → again call base a2 (E (p + 1)) (Hs (p + 1)) = true)
variable {fns : Fns} {ex : Ex} {base : Nat} {E : Nat → Env} {Hs : Nat → H}
theorem trace_of {call : CallSem} (hnd : (l.map (·.1)).Nodup) (hs : ∀ (p i : Nat) (a : AOper), l[p]? = some (i, a) →
      ∃ t v, wanted (E p) a.guard = some t ∧ (t = true → opSem call base (E p) (Hs p) a.op = some (v, Hs (p + 1))) ∧ (t = false → v = .undef ∧ Hs (p + 1) = Hs p) ∧ E (p + 1) = putDst (E p) a.dst v ∧
        recheck call base l i (E (p + 1)) (Hs (p + 1)) chk = true) : Trace call base l chk E Hs := by
  refine ⟨fun p i a hp => ?_⟩
  obtain ⟨t, v, h1, h2, h3, h4, h5⟩ := hs p i a hp
  refine ⟨t, v, h1, h2, h3, h4, fun _ j a2 hm hc => ?_⟩
  obtain ⟨a3, hlk, hag⟩ := recheck_mem h5 hc
  rw [lookup_of_nodup hnd hm] at hlk
  cases hlk
  exact hag
theorem Trace.len {call : CallSem} (tr : Trace call base l chk E Hs) : ∀ {p : Nat}, p ≤ l.length → (E p).length = (E 0).length
  | 0, _ => rfl
  | p + 1, hp => by
    have hlt : p < l.length := by omega
    obtain ⟨t, v, _, _, _, q, _⟩ := tr.step p l[p].1 l[p].2 (List.getElem?_eq_some_iff.2 ⟨hlt, rfl⟩)
    rw [q, putDst_length]; exact tr.len (by omega)
theorem Trace.keep {call : CallSem} (tr : Trace call base l chk E Hs) {s p : Nat} : ∀ {q : Nat}, p ≤ q → q ≤ l.length → (∀ (p' i : Nat) (a : AOper), p ≤ p' → p' < q → l[p']? = some (i, a) → a.dst ≠ some s) →
    (E q).getD s .undef = (E p).getD s .undef
  | 0, hp, _, _ => by have : p = 0 := by omega
                      rw [this]
  | q + 1, hp, hq, hw => by
    by_cases hpq : p = q + 1
    · rw [hpq]
    · have hlt : q < l.length := by omega
      have hl := List.getElem?_eq_some_iff.2 ⟨hlt, rfl⟩
      obtain ⟨t, v, _, _, _, h1, _⟩ := tr.step q l[q].1 l[q].2 hl
      rw [h1, putDst_getD, if_neg (fun hc => hw q _ _ (by omega) (by omega) hl hc.1)]
      exact tr.keep (by omega) (by omega) fun p' i a h1 h2 => hw p' i a h1 (by omega)
theorem Trace.heap (tr : Trace (callSem fns ex) base l chk E Hs) {p : Nat} : ∀ {q : Nat}, p ≤ q → q ≤ l.length → (∀ p' i a, p ≤ p' → p' < q → l[p']? = some (i, a) → a.op.cls ≠ .W) → Hs q = Hs p
  | 0, hp, _, _ => by have : p = 0 := by omega
                      rw [this]
  | q + 1, hp, hq, hw => by
    by_cases hpq : p = q + 1
    · rw [hpq]
    · have hlt : q < l.length := by omega
      have hl := List.getElem?_eq_some_iff.2 ⟨hlt, rfl⟩
      obtain ⟨t, v, _, h1, h2, _, _⟩ := tr.step q l[q].1 l[q].2 hl
      have h3 : Hs (q + 1) = Hs q := by
        cases t with
        | true => exact opSem_noW (hw q _ _ (by omega) (by omega) hl) (h1 rfl)
        | false => exact (h2 rfl).2
      rw [h3]
      exact tr.heap (by omega) (by omega) fun p' i a h1 h2 => hw p' i a h1 (by omega)
theorem lastW (l : List (Nat × AOper)) (p : Nat) : ∀ q, (∀ p' i a, p ≤ p' → p' < q → l[p']? = some (i, a) → a.op.cls ≠ .W) ∨
    ∃ z i a, p ≤ z ∧ z < q ∧ l[z]? = some (i, a) ∧ a.op.cls = .W ∧ ∀ p' i a, z + 1 ≤ p' → p' < q → l[p']? = some (i, a) → a.op.cls ≠ .W
  | 0 => .inl fun p' i a _ h => absurd h (by omega)
  | q + 1 => by
    by_cases hpq : p ≤ q
    · by_cases hw : ∃ i a, l[q]? = some (i, a) ∧ a.op.cls = .W
      · obtain ⟨i, a, h1, h2⟩ := hw
        exact .inr ⟨q, i, a, hpq, by omega, h1, h2, fun p' i a h3 h4 => by omega⟩
      · rcases lastW l p q with h | ⟨z, i, a, h1, h2, h3, h4, h5⟩
        · refine .inl fun p' i a h1 h2 h3 => ?_
          by_cases hp' : p' = q
          · subst hp'; exact fun hc => hw ⟨i, a, h3, hc⟩
          · exact h p' i a h1 (by omega) h3
        · refine .inr ⟨z, i, a, h1, by omega, h3, h4, fun p' i a h6 h7 h8 => ?_⟩
          by_cases hp' : p' = q
          · subst hp'; exact fun hc => hw ⟨i, a, h8, hc⟩
          · exact h5 p' i a h6 (by omega) h8
    · exact .inl fun p' i a h1 h2 => by omega
def written (l : List (Nat × AOper)) (listed : Array Bool) (s : Nat) : Prop := ∃ (p i : Nat) (a : AOper), l[p]? = some (i, a) ∧ a.dst = some s ∧ listed.getD i false = true
structure Inv (ρ : Nat → FuncId) (ops : Array Oper) (l : List (Nat × AOper)) (pw : Pw) (base : Nat) (E : Nat → Env) (Hs : Nat → H) (G0 : Gho) (d0 : List Deferred) (listed : Array Bool) (act : Act) (w : World) : Prop where
  size : listed.size = ops.size
  down : Down ops listed
  defers : act.defers = d0
  st : ∃ q G eS, q ≤ l.length ∧ Ext pw (Hs 0) (Hs q) G0 G ∧ Rel ρ pw base G (Hs q) w ∧ (∀ p i a, l[p]? = some (i, a) → a.op.cls = .W → (listed.getD i false = true ↔ p < q)) ∧
    RE ρ G eS act.tmps ∧ eS.length = (E 0).length ∧ ∀ s, (written l listed s → eS.getD s .undef = (E l.length).getD s .undef) ∧ (¬ written l listed s → eS.getD s .undef = (E 0).getD s .undef)
theorem same_some {d d' : Option Nat} {s : Nat} (h1 : d = some s) (h2 : d' = some s) : same d d' = true := by subst h1; subst h2; simp [same]
theorem hits_mem {d : Option Nat} {s : Nat} {l : List Nat} (h1 : d = some s) (h2 : s ∈ l) : hits d l = true := by subst h1; simpa [hits] using h2
theorem inv_step {pw : Pw} (ok : CallOK P ρ pw.gl (callF fns ex)) {tb : List (Nat × Nat)} (hall : okAll P ρ ops l = true) (hnd : (l.map (·.1)).Nodup) (ht : TblOk ops tb) (hpairs : okPairs tb chk l = true) (tr : Trace (callSem fns ex) base l chk E Hs) {G0 : Gho} {d0 : List Deferred}
    {listed : Array Bool} {act : Act} {w : World} {Q : Exit → Act → World → Prop} (inv : Inv ρ ops l pw base E Hs G0 d0 listed act w) {i : Nat} (hr : i ∈ Region.ready .any ops listed) (hmem : i ∈ l.map (·.1)) :
    wpOp P ops Q i (fun act' w' => Inv ρ ops l pw base E Hs G0 d0 (listed.setIfInBounds i true) act' w' ∧ ∃ a v', (i, a) ∈ l ∧ act' = act.put a.dst v') act w := by
  obtain ⟨hun, ⟨o, ho⟩, hpre⟩ := ready_iff.1 hr
  obtain ⟨hil, hnl⟩ := unlisted hun
  have hin : i < ops.size := (Array.getElem?_eq_some_iff.1 ho).1
  -- the operation's place
  obtain ⟨⟨i', a⟩, hmem', hi'⟩ := List.mem_map.1 hmem
  simp only at hi'
  subst hi'
  obtain ⟨p, hp⟩ := List.getElem?_of_mem hmem'
  have hpl : p < l.length := (List.getElem?_eq_some_iff.1 hp).1
  have hoper : okOper P ρ ops o a = true := by
    have := List.all_eq_true.1 hall (i', a) hmem'
    rw [ho] at this; exact this
  have place : ∀ {p' : Nat} {b : AOper}, l[p']? = some (i', b) → p' = p ∧ b = a := by
    intro p' b hb
    have e1 : (l.map (·.1))[p']? = some i' := by rw [List.getElem?_map, hb]; rfl
    have e2 : (l.map (·.1))[p]? = some i' := by rw [List.getElem?_map, hp]; rfl
    have := nodup_pos hnd e1 e2
    subst this
    rw [hp] at hb; cases hb
    exact ⟨rfl, rfl⟩
  have pair := fun {p p' i k : Nat} {a b : AOper} (h : p < p') (h1 : l[p]? = some (i, a)) (h2 : l[p']? = some (k, b)) => okPairs_sound ht hpairs h h1 h2
  have ancL : ∀ {j : Nat}, Anc ops j i' → listed.getD j false = true := fun h => inv.down.anc_ready hpre h
  have ancN : ∀ {k : Nat}, Anc ops i' k → listed.getD k false ≠ true := fun h hk => hnl (inv.down.anc h hk)
  have wr1 : ∀ {p1 p2 k1 k2 s : Nat} {b1 b2 : AOper}, l[p1]? = some (k1, b1) → l[p2]? = some (k2, b2) → b1.dst = some s → b2.dst = some s → p1 = p2 := by
    intro p1 p2 k1 k2 s b1 b2 h1 h2 h3 h4
    rcases Nat.lt_trichotomy p1 p2 with h | h | h
    · have := (pair h h1 h2).1; rw [same_some h3 h4] at this; cases this
    · exact h
    · have := (pair h h2 h1).1; rw [same_some h4 h3] at this; cases this
  obtain ⟨q, G, eS, hq, hx, r, hW, he, hlen, hcur⟩ := inv.st
  obtain ⟨t, v, hw, hs, hf, hE, hrc⟩ := tr.step p i' a hp
  -- what it looks at is as in the run
  have agree : Agree eS (E p) (slotsOf a) := by
    intro s hsl
    by_cases hex : ∃ (p' k : Nat) (b : AOper), l[p']? = some (k, b) ∧ b.dst = some s
    · obtain ⟨p', k, b, h1, h2⟩ := hex
      rcases Nat.lt_trichotomy p' p with hlt | heq | hgt
      · have hcf : conflict b a = true := by simp [conflict, hits_mem h2 hsl]
        have hk : listed.getD k false = true := by
          rcases (pair hlt h1 hp).2 with h3 | ⟨h3, _⟩
          · exact ancL h3
          · rw [hcf] at h3; cases h3
        rw [(hcur s).1 ⟨p', k, b, h1, h2, hk⟩]
        refine tr.keep (by omega) (Nat.le_refl _) fun p2 k2 b2 h4 _ h5 h6 => ?_
        have := wr1 h1 h5 h2 h6
        omega
      · subst heq
        rw [hp] at h1; cases h1
        rw [(hcur s).2 (fun ⟨p2, k2, b2, h4, h5, h6⟩ => by
          have := wr1 hp h4 h2 h5
          subst this
          rw [hp] at h4; cases h4; exact hnl h6)]
        exact (tr.keep (Nat.zero_le _) (by omega) fun p2 k2 b2 _ h4 h5 h6 => by have := wr1 hp h5 h2 h6; omega).symm
      · have hcf : conflict a b = true := by simp [conflict, hits_mem h2 hsl]
        have hk : listed.getD k false ≠ true := by
          rcases (pair hgt hp h1).2 with h3 | ⟨h3, _⟩
          · exact ancN h3
          · rw [hcf] at h3; cases h3
        rw [(hcur s).2 (fun ⟨p2, k2, b2, h4, h5, h6⟩ => by
          have := wr1 h1 h4 h2 h5
          subst this
          rw [h1] at h4; cases h4; exact hk h6)]
        exact (tr.keep (Nat.zero_le _) (by omega) fun p2 k2 b2 _ h4 h5 h6 => by have := wr1 h1 h5 h2 h6; omega).symm
    · rw [(hcur s).2 (fun ⟨p2, k2, b2, h4, h5, _⟩ => hex ⟨p2, k2, b2, h4, h5⟩)]
      exact (tr.keep (Nat.zero_le _) (by omega) fun p2 k2 b2 _ _ h5 h6 => hex ⟨p2, k2, b2, h5, h6⟩).symm
  have hw' : wanted eS a.guard = some t := by rw [wanted_agree (e := eS) (e' := E p) fun s hs => agree s (List.mem_append_left _ hs)]; exact hw
  have opA : ∀ h, opSem (callSem fns ex) base eS h a.op = opSem (callSem fns ex) base (E p) h a.op := fun h => opSem_agree a.op fun s hs => agree s (List.mem_append_right _ hs)
  -- the run's value
  have hval : ∀ d, a.dst = some d → d < (E 0).length → v = (E l.length).getD d .undef := by
    intro d hd hdl
    have h1 : (E (p + 1)).getD d .undef = v := by rw [hE, putDst_getD, if_pos ⟨hd, by rw [tr.len (by omega)]; exact hdl⟩]
    rw [← h1]
    exact (tr.keep (by omega) (Nat.le_refl _) fun p2 k2 b2 h4 _ h5 h6 => by have := wr1 hp h5 hd h6; omega).symm
  -- the heap and the value where it runs
  have main : ∃ u q', q' ≤ l.length ∧ (t = true → opSem (callSem fns ex) base eS (Hs q) a.op = some (u, Hs q')) ∧ (t = false → u = .undef ∧ Hs q' = Hs q) ∧
      (∀ d, a.dst = some d → d < (E 0).length → u = (E l.length).getD d .undef) ∧
      (∀ p' k b, l[p']? = some (k, b) → b.op.cls = .W → ((listed.setIfInBounds i' true).getD k false = true ↔ p' < q')) := by
    have keepW : a.op.cls ≠ .W → ∀ p' k b, l[p']? = some (k, b) → b.op.cls = .W → ((listed.setIfInBounds i' true).getD k false = true ↔ p' < q) := by
      intro hc p' k b h1 h2
      have hne : k ≠ i' := by rintro rfl; obtain ⟨_, rfl⟩ := place h1; exact hc h2
      rw [listed_set hil]
      simp only [hne, false_or]
      exact hW p' k b h1 h2
    cases hc : a.op.cls with
    | E =>
      have hc' : a.op.cls ≠ .W := by rw [hc]; decide
      exact ⟨v, q, hq, fun h1 => opSem_E hc ((opA _).trans (hs h1)), fun h1 => ⟨(hf h1).1, rfl⟩, hval, keepW hc'⟩
    | L =>
      have hc' : a.op.cls ≠ .W := by rw [hc]; decide
      have hkeep : Hs (p + 1) = Hs p := tr.heap (by omega) (by omega) fun p' k b h1 h2 h3 => by
        have : p' = p := by omega
        subst this
        rw [hp] at h3; cases h3; exact hc'
      have direct : Hs q = Hs p → ∃ u q', q' ≤ l.length ∧ (t = true → opSem (callSem fns ex) base eS (Hs q) a.op = some (u, Hs q')) ∧ (t = false → u = .undef ∧ Hs q' = Hs q) ∧
          (∀ d, a.dst = some d → d < (E 0).length → u = (E l.length).getD d .undef) ∧
          (∀ p' k b, l[p']? = some (k, b) → b.op.cls = .W → ((listed.setIfInBounds i' true).getD k false = true ↔ p' < q')) := by
        intro hqp
        refine ⟨v, q, hq, fun h1 => ?_, fun h1 => ⟨(hf h1).1, rfl⟩, hval, keepW hc'⟩
        rw [opA, hqp, hs h1, hkeep]
      rcases Nat.lt_or_ge p q with hpq | hqp
      · rcases lastW l p q with hno | ⟨z, k, b, z1, z2, z3, z4, z5⟩
        · exact direct (tr.heap (by omega) hq hno)
        · have hpz : p < z := by
            rcases Nat.lt_or_ge p z with h1 | h1
            · exact h1
            · have : z = p := by omega
              subst this
              rw [hp] at z3; cases z3; exact absurd z4 hc'
          have hkl : listed.getD k false = true := (hW z k b z3 z4).2 z2
          rcases (pair hpz hp z3).2 with h3 | ⟨_, h3⟩
          · exact absurd hkl (ancN h3)
          · obtain ⟨c1, c2, c3⟩ := h3 hc z4
            obtain ⟨d, hd⟩ := Option.isSome_iff_exists.1 c2
            obtain ⟨_, _, _, _, _, _, hrz⟩ := tr.step z k b z3
            have hag := hrz z4 _ _ hmem' c1
            have agz : Agree (E (z + 1)) (E p) (slotsOf a) := fun s hsl => tr.keep (by omega) (by omega) fun p2 k2 b2 h4 _ h5 h6 => by
              have := c3 p2 k2 b2 h4 h5
              rw [hits_mem h6 hsl] at this; cases this
            have hHz : Hs q = Hs (z + 1) := tr.heap (by omega) hq fun p' k b h1 h2 => z5 p' k b h1 h2
            unfold again at hag
            rw [wanted_agree (e := E (z + 1)) (e' := E p) (fun s hs => agz s (List.mem_append_left _ hs)), hw, hd] at hag
            cases t with
            | false => exact ⟨.undef, q, hq, (fun h1 => by cases h1), fun _ => ⟨rfl, rfl⟩, (fun d hd hdl => by have h9 := hval d hd hdl; rw [(hf rfl).1] at h9; exact h9), keepW hc'⟩
            | true =>
              simp only at hag
              split at hag
              · rename_i v2 h2 hop
                have hv2 := AV.beq_eq _ _ hag
                refine ⟨v2, q, hq, fun _ => ?_, (fun h1 => by cases h1), fun d' hd' hdl => ?_, keepW hc'⟩
                · rw [hHz, opA, ← opSem_agree (e := E (z + 1)) a.op (fun s hs => agz s (List.mem_append_right _ hs)), hop, opSem_noW hc' hop]
                · rw [hd] at hd'; cases hd'
                  rw [hv2]
                  exact (tr.keep (by omega) (Nat.le_refl _) fun p2 k2 b2 h4 _ h5 h6 => by have := wr1 hp h5 hd h6; omega).symm
              · cases hag
      · exact direct (tr.heap hqp (by omega) fun p' k b h1 h2 h3 hcw => by
          have hcf : conflict b a = true := by simp [conflict, hcw, hc]
          have hk : listed.getD k false = true := by
            rcases (pair h2 h3 hp).2 with h4 | ⟨h4, _⟩
            · exact ancL h4
            · rw [hcf] at h4; cases h4
          have := (hW p' k b h3 hcw).1 hk
          omega).symm
    | W =>
      have before : ∀ {p' k : Nat} {b : AOper}, p' < p → l[p']? = some (k, b) → b.op.cls = .W → listed.getD k false = true := by
        intro p' k b h1 h2 h3
        have hcf : conflict b a = true := by simp [conflict, h3, hc]
        rcases (pair h1 h2 hp).2 with h4 | ⟨h4, _⟩
        · exact ancL h4
        · rw [hcf] at h4; cases h4
      have hqp : q ≤ p := by
        rcases Nat.lt_or_ge p q with h1 | h1
        · exact absurd ((hW p i' a hp hc).2 h1) hnl
        · exact h1
      have hH : Hs q = Hs p := (tr.heap hqp (by omega) fun p' k b h1 h2 h3 hcw => by
        have := (hW p' k b h3 hcw).1 (before h2 h3 hcw)
        omega).symm
      refine ⟨v, p + 1, by omega, fun h1 => by rw [opA, hH]; exact hs h1, fun h1 => ⟨(hf h1).1, by rw [hH]; exact (hf h1).2⟩, hval, fun p' k b h1 h2 => ?_⟩
      rw [listed_set hil]
      by_cases hk : k = i'
      · subst hk
        obtain ⟨rfl, _⟩ := place h1
        simp
      · simp only [hk, false_or]
        rw [hW p' k b h1 h2]
        constructor
        · intro h3; omega
        · intro h3
          have hne : p' ≠ p := by rintro rfl; rw [hp] at h1; cases h1; exact hk rfl
          exact (hW p' k b h1 h2).1 (before (by omega) h1 h2)
  obtain ⟨u, q', hq', m1, m2, m3, m4⟩ := main
  refine oper_wp ok ho hoper he r hw' m1 m2 fun G' v' w' x hv r' => ?_
  refine ⟨?_, a, v', hmem', rfl⟩
  refine ⟨by rw [Array.size_setIfInBounds]; exact inv.size, fun j hj k hk => ?_, by rw [← inv.defers]; cases a.dst <;> rfl, q', G', putDst eS a.dst u, hq', hx.trans x, r', m4,
    (he.mono x.le).put hv a.dst, by rw [putDst_length]; exact hlen, fun s => ?_⟩
  · rw [listed_set hil] at hj ⊢
    rcases hj with rfl | hj
    · exact .inr (hpre k hk)
    · exact .inr (inv.down j hj k hk)
  · have hwr : written l (listed.setIfInBounds i' true) s ↔ a.dst = some s ∨ written l listed s := by
      constructor
      · rintro ⟨p2, k2, b2, h1, h2, h3⟩
        rw [listed_set hil] at h3
        rcases h3 with rfl | h3
        · obtain ⟨_, rfl⟩ := place h1; exact .inl h2
        · exact .inr ⟨p2, k2, b2, h1, h2, h3⟩
      · rintro (h1 | ⟨p2, k2, b2, h1, h2, h3⟩)
        · exact ⟨p, i', a, hp, h1, (listed_set hil).2 (.inl rfl)⟩
        · exact ⟨p2, k2, b2, h1, h2, (listed_set hil).2 (.inr h3)⟩
    rw [putDst_getD]
    constructor
    · intro h1
      by_cases hd : a.dst = some s
      · by_cases hsl : s < eS.length
        · rw [if_pos ⟨hd, hsl⟩]; exact m3 s hd (by omega)
        · rw [if_neg (fun hc => hsl hc.2)]
          rw [List.getD_eq_getElem?_getD, List.getD_eq_getElem?_getD, List.getElem?_eq_none (by omega), List.getElem?_eq_none (by rw [tr.len (Nat.le_refl _)]; omega)]
      · rw [if_neg (fun hc => hd hc.1)]
        exact (hcur s).1 ((hwr.1 h1).resolve_left hd)
    · intro h1
      rw [if_neg (fun hc => h1 (hwr.2 (.inl hc.1)))]
      exact (hcur s).2 fun hc => h1 (hwr.2 (.inr hc))
end
end Go.Am
namespace Go.Am
section
variable {P : Program} {ρ : Nat → FuncId} {ops : Array Oper} {l : List (Nat × AOper)} {chk : List (Nat × Nat)}
variable {fns : Fns} {ex : Ex} {base : Nat} {E : Nat → Env} {Hs : Nat → H} {pw : Pw} {G0 : Gho} {d0 : List Deferred} {Q : Exit → Act → World → Prop}
theorem inv_full (tr : Trace (callSem fns ex) base l chk E Hs) {listed : Array Bool} {act : Act} {w : World} (full : ∀ (p i : Nat) (a : AOper), l[p]? = some (i, a) → listed.getD i false = true)
    (inv : Inv ρ ops l pw base E Hs G0 d0 listed act w) : ∃ G', Ext pw (Hs 0) (Hs l.length) G0 G' ∧ RE ρ G' (E l.length) act.tmps ∧ Rel ρ pw base G' (Hs l.length) w ∧ act.defers = d0 := by
  obtain ⟨q, G, eS, hq, hx, r, hW, he, hlen, hcur⟩ := inv.st
  have hH : Hs l.length = Hs q := tr.heap hq (Nat.le_refl _) fun p' k b h1 h2 h3 hc => by
    have := (hW p' k b h3 hc).1 (full p' k b h3); omega
  have heS : eS = E l.length := by
    have hl2 : eS.length = (E l.length).length := by rw [hlen, tr.len (Nat.le_refl _)]
    refine List.ext_getElem hl2 fun s h1 h2 => ?_
    have h3 : eS.getD s .undef = (E l.length).getD s .undef := by
      by_cases hw : written l listed s
      · exact (hcur s).1 hw
      · rw [(hcur s).2 hw]
        exact (tr.keep (Nat.zero_le _) (Nat.le_refl _) fun p' k b _ _ h5 h6 => hw ⟨p', k, b, h5, h6, full p' k b h5⟩).symm
    simpa [List.getD_eq_getElem?_getD, List.getElem?_eq_getElem h1, List.getElem?_eq_getElem h2] using h3
  subst heS
  rw [← hH] at hx r
  exact ⟨G, hx, he, r, inv.defers⟩
theorem any_wp (ok : CallOK P ρ pw.gl (callF fns ex)) (hok : okDrawn P ρ ops l chk = true) (tr : Trace (callSem fns ex) base l chk E Hs)
    (hQ : ∀ G' act' w', Ext pw (Hs 0) (Hs l.length) G0 G' → RE ρ G' (E l.length) act'.tmps → Rel ρ pw base G' (Hs l.length) w' → act'.defers = d0 → Q .normal act' w') :
    ∀ (n : Nat) (listed : Array Bool) (act : Act) (w : World), left ops.size listed = n → Inv ρ ops l pw base E Hs G0 d0 listed act w → wpAny P .any ops Q n listed act w := by
  have hok' := hok
  simp only [okDrawn, Bool.and_eq_true, decide_eq_true_eq] at hok'
  obtain ⟨⟨⟨⟨hall, hnd⟩, hcov⟩, hord⟩, hpairs⟩ := hok'
  have done : ∀ (listed : Array Bool) (act : Act) (w : World), (∀ i, i < ops.size → listed.getD i true = true) → Inv ρ ops l pw base E Hs G0 d0 listed act w → Q .normal act w := by
    intro listed act w hdn inv
    have full : ∀ (p i : Nat) (a : AOper), l[p]? = some (i, a) → listed.getD i false = true := by
      intro p i a hp
      have hi : i < ops.size := by
        have := List.all_eq_true.1 hall (i, a) (List.mem_of_getElem? hp)
        simp only at this
        split at this
        · rename_i o ho; exact (Array.getElem?_eq_some_iff.1 ho).1
        · cases this
      have h1 := hdn i hi
      have hs : i < listed.size := by rw [inv.size]; exact hi
      rw [Array.getD_eq_getD_getElem?, Array.getElem?_eq_getElem hs] at h1 ⊢
      simpa using h1
    obtain ⟨G, hx, he, r, hd⟩ := inv_full tr full inv
    exact hQ G act w hx he r hd
  intro n
  induction n with
  | zero =>
    intro listed act w hn inv
    have hdn : ∀ i, i < ops.size → listed.getD i true = true := fun i hi => left_zero hn hi
    refine ⟨?_, done listed act w hdn inv⟩
    cases hr : Region.ready .any ops listed with
    | nil => rfl
    | cons i is =>
      have hi : i ∈ Region.ready .any ops listed := by rw [hr]; simp
      obtain ⟨h0, ⟨o, ho⟩, _⟩ := ready_iff.1 hi
      rw [hdn i (Array.getElem?_eq_some_iff.1 ho).1] at h0; cases h0
  | succ n ih =>
    intro listed act w hn inv
    refine ⟨fun hr => ?_, fun i hi => ?_⟩
    · -- the first that is not listed is ready
      refine done listed act w (fun i hi => ?_) inv
      cases hb : listed.getD i true with
      | true => rfl
      | false =>
        exfalso
        have key : ∀ (p : Nat), ∀ (i : Nat), (l.map (·.1))[p]? = some i → listed.getD i true = true := by
          intro p
          induction p using Nat.strongRecOn with
          | _ p ihp =>
            intro i hp
            cases hb : listed.getD i true with
            | true => rfl
            | false =>
              have hi : i ∈ Region.ready .any ops listed := by
                refine ready_iff.2 ⟨hb, ?_, fun j hj => ?_⟩
                · rw [List.getElem?_map, Option.map_eq_some_iff] at hp
                  obtain ⟨⟨i', a⟩, hp', rfl⟩ := hp
                  have := List.all_eq_true.1 hall (i', a) (List.mem_of_getElem? hp')
                  simp only at this
                  split at this
                  · rename_i o ho; exact ⟨o, ho⟩
                  · cases this
                · rcases okOrder_sound hord hp j hj with h1 | ⟨p', h1, h2⟩
                  · simp at h1
                  · have h3 := ihp p' h1 j h2
                    have hj2 : j < ops.size := by
                      rw [List.getElem?_map, Option.map_eq_some_iff] at h2
                      obtain ⟨⟨i', a⟩, hp', rfl⟩ := h2
                      have := List.all_eq_true.1 hall (i', a) (List.mem_of_getElem? hp')
                      simp only at this
                      split at this
                      · rename_i o ho; exact (Array.getElem?_eq_some_iff.1 ho).1
                      · cases this
                    have hs : j < listed.size := by rw [inv.size]; exact hj2
                    rw [Array.getD_eq_getD_getElem?, Array.getElem?_eq_getElem hs] at h3 ⊢
                    simpa using h3
              rw [hr] at hi; cases hi
        have hm : i ∈ l.map (·.1) := by
          have := List.all_eq_true.1 hcov i (List.mem_range.2 hi)
          simpa using this
        obtain ⟨p, hp⟩ := List.getElem?_of_mem hm
        rw [key p i hp] at hb; cases hb
    · have h0 := (ready_iff.1 hi).1
      refine wpOp_mono (fun act' w' inv' => ih _ act' w' ?_ inv'.1) (inv_step ok hall hnd (tb := ancTbl ops (l.map (·.1)) []) (ancTbl_sound _ _ fun i j hj => by simp [isAnc, List.lookup] at hj) hpairs tr inv hi
        (by
          obtain ⟨_, ⟨o, ho⟩, _⟩ := ready_iff.1 hi
          have := List.all_eq_true.1 hcov i (List.mem_range.2 (Array.getElem?_eq_some_iff.1 ho).1)
          simpa using this))
      have := left_set inv.size h0
      omega
theorem drawn_wp (hm : P.follows .mixedOrders = true) (ok : CallOK P ρ pw.gl (callF fns ex)) (hok : okDrawn P ρ ops l chk = true) {e e' : Env} {h h' : H} {G : Gho} {act : Act} {w : World} {id : Nat}
    (hr : runOps (callSem fns ex) base l chk l e h = some (e', h')) (he : RE ρ G e act.tmps) (r : Rel ρ pw base G h w)
    (hQ : ∀ G' act' w', Ext pw h h' G G' → RE ρ G' e' act'.tmps → Rel ρ pw base G' h' w' → act'.defers = act.defers → Q .normal act' w') :
    (Code.region id ops true).wp P Q act w := by
  obtain ⟨E, Hs, rfl, rfl, rfl, rfl, hst0⟩ := runOps_trace l e h e' h' hr
  have hst := trace_of (by simp only [okDrawn, Bool.and_eq_true, decide_eq_true_eq] at hok; exact hok.1.1.1.2) hst0
  have hnone : ∀ i, ¬ ((Array.replicate ops.size false).getD i false = true) := fun i => by
    rw [Array.getD_eq_getD_getElem?, Array.getElem?_replicate]
    split <;> simp
  refine wp_region_any hm (any_wp ok hok hst hQ ops.size _ act _ ?_ ?_)
  · unfold left
    have h1 : (List.range ops.size).countP (fun i => !(Array.replicate ops.size false).getD i true) = (List.range ops.size).countP (fun _ => true) := by
      refine List.countP_congr fun i hi => ?_
      have := List.mem_range.1 hi
      simp [Array.getD_eq_getD_getElem?, this]
    rw [h1]; simp
  · refine ⟨by simp, fun i hi => absurd hi (hnone i), rfl, 0, G, E 0, Nat.zero_le _, Ext.refl pw G (Nat.le_refl _), r.heap_eq rfl, fun p i a _ _ => ⟨fun h => absurd h (hnone i), fun h => absurd h (by omega)⟩,
      he, rfl, fun s => ⟨fun ⟨p, i, a, _, _, h3⟩ => absurd h3 (hnone i), fun _ => rfl⟩⟩
end
end Go.Am
namespace Go.Am
section
variable {P : Program} {ρ : Nat → FuncId} {G G' : Gho} {pw : Pw} {base : Nat} {h h' : H} {w : World} {e e' : Env} {tmps : Array Value}
theorem RE.setA (he : RE ρ G e tmps) {n : Nat} {a : AV} (ha : RV ρ G a (tmps.getD n Go.undef)) : RE ρ G (e.set n a) tmps := by
  refine ⟨by rw [List.length_set]; exact he.1, fun m => ?_⟩
  have h2 := he.2 m
  rw [List.getD_eq_getElem?_getD] at h2 ⊢
  rw [List.getElem?_set]
  by_cases hm : n = m
  · subst hm
    by_cases hl : n < e.length
    · simpa [hl] using ha
    · simp only [if_true, hl, if_false, Option.getD_none]
      rw [List.getElem?_eq_none (by omega)] at h2
      exact h2
  · simpa [hm] using h2
theorem frzm_sim {v v' : AV} {h1 h2 : H} {f : Nat} {pa : AV} {pv : Value} (hp : RV ρ G pa pv) (r : Rel ρ pw base G h w) (hl : loadAt h false 1 pa = some v)
    (hf : frz f base h v = some (v', h1)) (hs : storeAt base h1 1 pa v' = some h2) : ∃ G', Ext pw h h2 G G' ∧ Rel ρ pw base G' h2 w := by
  cases pa with
  | ptr o i off =>
    cases hp with | cell _ _ hp => cases hp with
      | ptr _ _ _ b k C hblk =>
        cases hrow : row? h o i with
        | none => simp [loadAt, hrow] at hl
        | some row =>
          simp only [loadAt, hrow, Option.bind_some, part] at hl
          split at hl
          · rename_i hoff
            have hv : row[off]? = some v := by simpa using hl
            unfold row? at hrow
            split at hrow
            · rename_i k' rows hget
              obtain ⟨b', k1, C1, q1, q2⟩ := r.objs o _ hget
              rw [hblk] at q1; cases q1
              obtain ⟨z, hz⟩ := q2.isSome
              have q2' := q2
              rw [hz] at q2
              cases z with
              | cells c el fr =>
                obtain ⟨e1, e2, e3, e4, e5, e6, e7⟩ := q2
                subst e1
                have hrl : row.length = k' := e5 row (List.mem_of_getElem? hrow)
                have hi : i < rows.length := (List.getElem?_eq_some_iff.1 hrow).1
                have hin : (i + 1) * k' ≤ rows.length * k' := Nat.mul_le_mul_right _ hi
                rw [Nat.succ_mul] at hin
                have hvr : ((rows.flatten.drop (i * k')).take k')[off]? = some v := by
                  rw [← flat_drop e5]
                  have h8 : (rows.drop i).flatten = row ++ (rows.drop (i + 1)).flatten := by
                    rw [List.drop_eq_getElem_cons hi, List.flatten_cons]
                    have : rows[i] = row := by
                      have := List.getElem?_eq_getElem hi
                      rw [this] at hrow; cases hrow; rfl
                    rw [this]
                  rw [h8, List.take_left' hrl]; exact hv
                have hvf : rows.flatten[i * k' + off]? = some v := by
                  rw [List.getElem?_take] at hvr
                  split at hvr
                  · rw [List.getElem?_drop] at hvr; exact hvr
                  · cases hvr
                obtain ⟨x, hx1, hx2⟩ := e6.get hvf
                obtain ⟨G1, fz, hv'⟩ := (frz_all (ρ := ρ) w pw base f).1 h v v' h1 G x hf hx2 r
                simp only [storeAt] at hs
                split at hs
                · rename_i hbo
                  split at hs
                  · rename_i k2 rows2 hget2
                    have := fz.sub o _ hget2
                    rw [hget] at this; cases this
                    rw [hrow] at hs
                    simp only at hs
                    split at hs
                    · cases hs
                      refine ⟨G1, ⟨fz.le', (fz.ext r).imm, (fz.ext r).blk, by rw [H.next_put, fz.next]; exact Nat.le_refl _, (fz.ext r).fr⟩, ?_⟩
                      have hset := flat_set e5 hrow (off := off) (cs := v'.cells) (by rw [hbo.2.2, ← hrl]; exact hoff.2)
                      refine fz.rel.put o _ _ b k' C (.cells c el fr) hbo.1 hget2 (by rw [fz.blk]; exact hblk) (fun a => ?_) ?_
                      · by_cases hab : a = b
                        · subst hab; rw [if_pos rfl]; exact hz
                        · rw [if_neg hab]
                      · refine ⟨rfl, e2, e3, by rw [List.length_set]; exact e4, fun y hy => ?_, ?_, e7⟩
                        · rcases List.mem_or_eq_of_mem_set hy with h3 | h3
                          · exact e5 y h3
                          · rw [h3, setCells_length (by rw [hbo.2.2]; exact hoff.2), hrl]
                        · rw [hset, List.length_set]
                          have hm6 := e6.mono fz.le'
                          have hcells : v'.cells = [v'] := hv'.cellsA
                          rw [hcells]
                          have hL : (c.toList.take (rows.length * k')) = (c.toList.take (rows.length * k')).take (i * k' + off) ++ [x] ++ (c.toList.take (rows.length * k')).drop (i * k' + off + 1) := by
                            generalize c.toList.take (rows.length * k') = L at hx1 ⊢
                            obtain ⟨hlt, hxe⟩ := List.getElem?_eq_some_iff.1 hx1
                            have h9 := (List.take_append_drop (i * k' + off) L).symm
                            rw [List.drop_eq_getElem_cons hlt, hxe] at h9
                            rw [List.append_assoc]; exact h9
                          rw [hL]
                          exact ((hm6.take _).append (.cons _ _ _ _ hv' .nil)).append (hm6.drop _)
                    · cases hs
                  · cases hs
                · cases hs
              | _ => exact q2.elim
            · cases hrow
          · cases hl
  | _ => simp [storeAt] at hs
theorem ghost_sim {g : Gh} (hg : ghost base g e h = some (e', h')) (he : RE ρ G e tmps) (r : Rel ρ pw base G h w) : ∃ G', Ext pw h h' G G' ∧ RE ρ G' e' tmps ∧ Rel ρ pw base G' h' w := by
  cases g with
  | frz n =>
    simp only [ghost] at hg
    split at hg
    · rename_i v h1 hf
      cases hg
      obtain ⟨G', f1, v1⟩ := frz_sim hf (he.2 n) r
      exact ⟨G', f1.ext r, (he.mono f1.le').setA v1, f1.rel⟩
    · cases hg
  | frzm n off =>
    simp only [ghost] at hg
    split at hg
    · rename_i p hfa
      split at hg
      · rename_i v hl
        split at hg
        · rename_i v' h1 hf
          rw [Option.map_eq_some_iff] at hg
          obtain ⟨h2, hs, heq⟩ := hg
          cases heq
          have hp := he.2 n
          have : ∃ pv, RV ρ G p pv := by
            revert hp hfa
            generalize e.getD n .undef = pa
            generalize tmps.getD n Go.undef = pv
            intro hfa hp
            cases pa with
            | ptr o i f =>
              cases hfa
              cases hp with | cell _ _ hp =>
              cases hp with | ptr _ _ _ b k C hblk =>
              exact ⟨_, .cell _ _ (.ptr o i (f + off) b k C hblk)⟩
            | rptr cs => cases hfa; cases hs
            | _ => cases hfa
          obtain ⟨pv, hpv⟩ := this
          obtain ⟨G', x1, r1⟩ := frzm_sim hpv r hl hf hs
          exact ⟨G', x1, he.mono x1.le, r1⟩
        · cases hg
      · cases hg
    · cases hg
  | keep l =>
    simp only [ghost, Option.some.injEq, Prod.mk.injEq] at hg
    obtain ⟨rfl, rfl⟩ := hg
    refine ⟨G, Ext.refl pw G (Nat.le_refl _), ⟨by simpa using he.1, fun m => ?_⟩, r⟩
    have h2 := he.2 m
    rw [List.getD_eq_getElem?_getD] at h2 ⊢
    rw [List.getElem?_map, List.getElem?_zipIdx]
    cases hm : e[m]? with
    | none => rw [hm] at h2; simpa using h2
    | some v =>
      rw [hm] at h2
      simp only [Option.map_some, Nat.zero_add, Option.getD_some] at h2 ⊢
      split
      · exact h2
      · exact .any _
  | note o a b l =>
    simp only [ghost, Option.some.injEq, Prod.mk.injEq] at hg
    obtain ⟨rfl, rfl⟩ := hg
    exact ⟨G, Ext.refl pw G (Nat.le_refl _), he, r⟩
end
end Go.Am
namespace Go.Am
section
variable {P : Program} {ρ : Nat → FuncId} {ops : Array Oper} {chk : List (Nat × Nat)}
variable {fns : Fns} {ex : Ex} {base : Nat} {E : Nat → Env} {Hs : Nat → H} {pw pw' : Pw} {G G0 : Gho} {d0 : List Deferred} {h h' : H} {w w' : World}
def Pw.add (pw : Pw) (b : Nat) (x : Go.Obj) : Pw := ⟨fun a => match pw.gl a with | some y => some y | none => if a = b then some x else pw a, pw.io, pw.gl, fun a y e => by simp only [e]⟩
theorem Pw.add_ne {pw : Pw} {a b : Nat} {x : Go.Obj} (h : a ≠ b) : (pw.add b x).blk a = pw.blk a := by
  unfold Pw.add
  cases e : pw.gl a with
  | some y => simp only [e]; exact (pw.glOk a y e).symm
  | none => simp only [e, if_neg h]
theorem Pw.add_eq {pw : Pw} {b : Nat} {x : Go.Obj} (hb : pw b = none) : (pw.add b x).blk b = some x := by
  unfold Pw.add
  cases e : pw.gl b with
  | some y => have := pw.glOk b y e; rw [hb] at this; cases this
  | none => simp only [e, if_true]
theorem Ext.weak (hp : ∀ b, pw' b = none → pw b = none) (x : Ext pw' h h' G0 G) : Ext pw h h' G0 G :=
  ⟨x.le, fun b c e => (x.imm b c e).imp id (hp b), x.blk, x.next, fun o b k C e => (x.fr o b k C e).imp id (hp b)⟩
theorem Rel.weak (h1 : ∀ b x, pw b = some x → pw' b = some x) (hio : pw'.io = pw.io) (r : Rel ρ pw' base G h w) : Rel ρ pw base G h w := by
  refine ⟨r.objs, r.inj, r.imm, r.disj, r.ltB, fun b x e => r.pwh b x (h1 b x e), fun o x b k C h2 h3 h4 => ?_, r.io.trans hio, r.blkH⟩
  have := r.pwd o x b k C h2 h3 h4
  cases hp : pw b with
  | none => rfl
  | some y => rw [h1 b y hp] at this; cases this
theorem Rel.newGuard (r : Rel ρ pw base G h w) {y : Go.Obj} (hw : w'.heap = w.heap.push y) (hio : World.io w' = World.io w) : Rel ρ (pw.add w.heap.size y) base G h w' := by
  have r1 : Rel ρ pw base G h w' := r.kept (fun b x hx => by rw [hw]; exact get_push_lt hx) hio
  refine ⟨r1.objs, r1.inj, r1.imm, r1.disj, r1.ltB, fun b x e => ?_, fun o x b k C h2 h3 h4 => ?_, r1.io, r1.blkH⟩
  · by_cases hb : b = w.heap.size
    · subst hb
      rw [Pw.add_eq (r.pw_size (Nat.le_refl _))] at e; cases e
      rw [hw]; simp
    · rw [Pw.add_ne hb] at e
      exact r1.pwh b x e
  · obtain ⟨q, hq⟩ := r.blkH o b k C h4
    have := heap_lt hq
    rw [Pw.add_ne (by omega)]
    exact r1.pwd o x b k C h2 h3 h4
theorem Ext.guard (r : Rel ρ pw base G h' w) {y : Go.Obj} (x : Ext pw h h' G0 G) : Ext (pw.add w.heap.size y) h h' G0 G := by
  refine ⟨x.le, fun b c e => ?_, x.blk, x.next, fun o b k C e => ?_⟩
  · have hb : b ≠ w.heap.size := by rintro rfl; rw [r.imm_size (Nat.le_refl _)] at e; cases e
    rw [Pw.add_ne hb]; exact x.imm b c e
  · obtain ⟨q, hq⟩ := r.blkH o b k C e
    have := heap_lt hq
    rw [Pw.add_ne (by omega)]; exact x.fr o b k C e
variable (P ρ) in
def okEarly (ops : Array Oper) (l1 : List (Nat × AOper)) (ia d : Nat) (z : List AV) (xt l2 : List (Nat × AOper)) (chk : List (Nat × Nat)) : Bool :=
  let l := l1 ++ (ia, ⟨some d, .alloc z, none⟩) :: (xt ++ l2)
  let is := l.map (·.1)
  let t := ancTbl ops is []
  okAll P ρ ops l && (decide is.Nodup && ((List.range ops.size).all (is.contains ·) && (okOrder ops is [] && (okPairs t chk (l1 ++ xt) && (okPairs t chk (xt ++ l2) &&
    (l2.all (fun k => isAnc t ia k.1 && l1.all fun i => isAnc t i.1 k.1) && ((l1 ++ xt).all (fun i => !hits (some d) (slotsOf i.2) && !same (some d) i.2.dst) && xt.all fun i => i.2.op.cls == .E)))))))
variable {l1 xt l2 : List (Nat × AOper)} {ia d : Nat} {z : List AV}
theorem hits_not {d : Nat} {l : List Nat} (h : hits (some d) l = false) : d ∉ l := by
  intro hm
  have : l.contains d = true := by simpa using hm
  simp only [hits] at h; rw [this] at h; cases h
theorem same_not {d : Nat} {o : Option Nat} (h : same (some d) o = false) : o ≠ some d := by
  rintro rfl; simp [same] at h
theorem getD_set {e : Env} {d s : Nat} {v : AV} (h : s ≠ d) : (e.set d v).getD s .undef = e.getD s .undef := by
  rw [List.getD_eq_getElem?_getD, List.getD_eq_getElem?_getD, List.getElem?_set_ne (Ne.symm h)]
theorem agree_set {e : Env} {d : Nat} {v : AV} {l : List Nat} (h : d ∉ l) : Agree (e.set d v) e l := fun s hs => getD_set (by rintro rfl; exact h hs)
theorem putDst_set {e : Env} {d : Nat} {o : Option Nat} {v u : AV} (h : o ≠ some d) : (putDst e o u).set d v = putDst (e.set d v) o u := by
  cases o with
  | none => rfl
  | some s => exact List.set_comm _ _ (by rintro rfl; exact h rfl)
theorem again_agree {call : CallSem} {o : AOper} {e e' : Env} {h : H} (h1 : wanted e o.guard = wanted e' o.guard) (h2 : opSem call base e h o.op = opSem call base e' h o.op)
    (h3 : ∀ s, o.dst = some s → e.getD s .undef = e'.getD s .undef) : again call base o e h = again call base o e' h := by
  unfold again
  rw [h1]
  cases wanted e' o.guard with
  | none => rfl
  | some t =>
    cases hd : o.dst with
    | none => cases t <;> rfl
    | some s =>
      cases t with
      | false => rfl
      | true => simp only [h2, h3 s hd]
def envF (E : Nat → Env) (n d p : Nat) : Env := (if p ≤ n then E p else E (p + 1)).set d .any
def heapF (Hs : Nat → H) (n p : Nat) : H := if p ≤ n then Hs p else Hs n
theorem trace_first (tr : Trace (callSem fns ex) base (l1 ++ (ia, ⟨some d, .alloc z, none⟩) :: (xt ++ l2)) chk E Hs) (hf : ∀ i a, (i, a) ∈ l1 ++ xt → d ∉ slotsOf a ∧ a.dst ≠ some d) (hE : ∀ i a, (i, a) ∈ xt → a.op.cls = .E) :
    Trace (callSem fns ex) base (l1 ++ xt) chk (envF E l1.length d) (heapF Hs l1.length) := by
  refine ⟨fun p i a hp => ?_⟩
  obtain ⟨f1, f2⟩ := hf i a (List.mem_of_getElem? hp)
  by_cases hlt : p < l1.length
  · rw [List.getElem?_append_left hlt] at hp
    obtain ⟨t, v, h1, h2, h3, h4, h5⟩ := tr.step p i a (by rw [List.getElem?_append_left hlt]; exact hp)
    have ag : Agree ((E p).set d .any) (E p) (slotsOf a) := agree_set f1
    have e1 : envF E l1.length d p = (E p).set d .any := by simp only [envF, if_pos (Nat.le_of_lt hlt)]
    have e2 : envF E l1.length d (p + 1) = (E (p + 1)).set d .any := by simp only [envF, if_pos (show p + 1 ≤ l1.length from hlt)]
    have e3 : heapF Hs l1.length p = Hs p := by simp only [heapF, if_pos (Nat.le_of_lt hlt)]
    have e4 : heapF Hs l1.length (p + 1) = Hs (p + 1) := by simp only [heapF, if_pos (show p + 1 ≤ l1.length from hlt)]
    rw [e1, e2, e3, e4]
    refine ⟨t, v, ?_, fun ht => ?_, h3, ?_, fun hcl j a2 hm hc => ?_⟩
    · rw [← h1]; exact wanted_agree fun s hs => ag s (List.mem_append_left _ hs)
    · rw [← h2 ht]; exact opSem_agree _ fun s hs => ag s (List.mem_append_right _ hs)
    · rw [h4]; exact putDst_set f2
    · have h6 := h5 hcl j a2 (by
        rcases List.mem_append.1 hm with hm | hm
        · exact List.mem_append_left _ hm
        · exact List.mem_append_right _ (List.mem_cons_of_mem _ (List.mem_append_left _ hm))) hc
      obtain ⟨g1, g2⟩ := hf j a2 hm
      have ag2 : Agree ((E (p + 1)).set d .any) (E (p + 1)) (slotsOf a2) := agree_set g1
      have e1 : wanted ((E (p + 1)).set d .any) a2.guard = wanted (E (p + 1)) a2.guard := wanted_agree fun s hs => ag2 s (List.mem_append_left _ hs)
      have e2 : opSem (callSem fns ex) base ((E (p + 1)).set d .any) (Hs (p + 1)) a2.op = opSem (callSem fns ex) base (E (p + 1)) (Hs (p + 1)) a2.op := opSem_agree _ fun s hs => ag2 s (List.mem_append_right _ hs)
      rw [again_agree e1 e2 fun s hd => getD_set (by rintro rfl; exact g2 hd)]
      exact h6
  · have hge : l1.length ≤ p := by omega
    rw [List.getElem?_append_right hge] at hp
    have hx : p - l1.length < xt.length := (List.getElem?_eq_some_iff.1 hp).1
    have hcE := hE i a (List.mem_of_getElem? hp)
    obtain ⟨t, v, h1, h2, h3, h4, h5⟩ := tr.step (p + 1) i a (by
      rw [List.getElem?_append_right (by omega), show p + 1 - l1.length = (p - l1.length) + 1 by omega, List.getElem?_cons_succ, List.getElem?_append_left hx]; exact hp)
    have e1 : envF E l1.length d p = (E (p + 1)).set d .any := by
      by_cases hpe : p = l1.length
      · subst hpe
        obtain ⟨t', v', s1, s2, s3, s4, _⟩ := tr.step l1.length ia ⟨some d, .alloc z, none⟩ (by rw [List.getElem?_append_right (Nat.le_refl _), Nat.sub_self]; rfl)
        simp only [envF, if_pos (Nat.le_refl _)]
        rw [s4]
        show _ = ((E l1.length).set d v').set d .any
        rw [List.set_set]
      · simp only [envF, if_neg (show ¬ p ≤ l1.length by omega)]
    have e2 : envF E l1.length d (p + 1) = (E (p + 1 + 1)).set d .any := by simp only [envF, if_neg (show ¬ p + 1 ≤ l1.length by omega)]
    have e3 : heapF Hs l1.length p = Hs l1.length := by
      by_cases hpe : p = l1.length
      · simp only [heapF, hpe, if_pos (Nat.le_refl _)]
      · simp only [heapF, if_neg (show ¬ p ≤ l1.length by omega)]
    have e4 : heapF Hs l1.length (p + 1) = Hs l1.length := by simp only [heapF, if_neg (show ¬ p + 1 ≤ l1.length by omega)]
    have ag : Agree ((E (p + 1)).set d .any) (E (p + 1)) (slotsOf a) := agree_set f1
    rw [e1, e2, e3, e4]
    refine ⟨t, v, ?_, fun ht => ?_, fun ht => ⟨(h3 ht).1, rfl⟩, ?_, fun hcl => by rw [hcE] at hcl; cases hcl⟩
    · rw [← h1]; exact wanted_agree fun s hs => ag s (List.mem_append_left _ hs)
    · exact opSem_E hcE ((opSem_agree _ fun s hs => ag s (List.mem_append_right _ hs)).trans (h2 ht))
    · rw [h4]; exact putDst_set f2
theorem trace_second {call : CallSem} {x : Nat × AOper} (tr : Trace call base (l1 ++ x :: l2) chk E Hs) :
    Trace call base l2 chk (fun p => E (l1.length + 1 + p)) (fun p => Hs (l1.length + 1 + p)) := by
  refine ⟨fun p i a hp => ?_⟩
  obtain ⟨t, v, h1, h2, h3, h4, h5⟩ := tr.step (l1.length + 1 + p) i a (by
    rw [List.getElem?_append_right (by omega), show l1.length + 1 + p - l1.length = p + 1 by omega, List.getElem?_cons_succ]; exact hp)
  exact ⟨t, v, h1, h2, h3, h4, fun hcl j a2 hm hc => h5 hcl j a2 (List.mem_append_right _ (List.mem_cons_of_mem _ hm)) hc⟩
inductive Sta (ρ : Nat → FuncId) (ops : Array Oper) (l1 : List (Nat × AOper)) (ia d : Nat) (z : List AV) (xt l2 : List (Nat × AOper)) (pw : Pw) (base : Nat) (E : Nat → Env) (Hs : Nat → H) (G0 : Gho) (d0 : List Deferred) (listed : Array Bool) (act : Act) (w : World) : Prop
  | a : Inv ρ ops (l1 ++ xt) pw base (envF E l1.length d) (heapF Hs l1.length) G0 d0 listed act w → listed.getD ia false ≠ true → Sta ρ ops l1 ia d z xt l2 pw base E Hs G0 d0 listed act w
  | b (b : Nat) (zv : Array Value) (t : TypeId) : Inv ρ ops (l1 ++ xt) (pw.add b (.cells zv t (0, 0))) base (envF E l1.length d) (heapF Hs l1.length) G0 d0 listed act w → listed.getD ia false = true →
      (d < (E 0).length → act.tmps.getD d Go.undef = .pointer (some ⟨b, 0, none⟩)) → G0.imm b = none → (∀ o k C, G0.blk o ≠ some (b, k, C)) → pw b = none → okCL zv.toList z = true → (∀ i a, (i, a) ∈ l2 → listed.getD i false ≠ true) → Sta ρ ops l1 ia d z xt l2 pw base E Hs G0 d0 listed act w
  | c (G1 : Gho) : Inv ρ ops (xt ++ l2) pw base (fun p => E (l1.length + 1 + p)) (fun p => Hs (l1.length + 1 + p)) G1 d0 listed act w → Ext pw (Hs 0) (Hs (l1.length + 1)) G0 G1 → listed.getD ia false = true →
      (∀ (p i : Nat) (a : AOper), l1[p]? = some (i, a) → listed.getD i false = true) → Sta ρ ops l1 ia d z xt l2 pw base E Hs G0 d0 listed act w
theorem uniq_of {t : List (Nat × Nat)} {l : List (Nat × AOper)} (ht : TblOk ops t) (hp : okPairs t chk l = true) : ∀ {p1 p2 k1 k2 s : Nat} {b1 b2 : AOper}, l[p1]? = some (k1, b1) → l[p2]? = some (k2, b2) → b1.dst = some s → b2.dst = some s → p1 = p2 := by
  intro p1 p2 k1 k2 s b1 b2 h1 h2 h3 h4
  rcases Nat.lt_trichotomy p1 p2 with h | h | h
  · have := (okPairs_sound ht hp h h1 h2).1; rw [same_some h3 h4] at this; cases this
  · exact h
  · have := (okPairs_sound ht hp h h2 h1).1; rw [same_some h4 h3] at this; cases this
theorem alloc_wp (hpz : plainZ z = true) {o : Oper} {act : Act} {K : Act → World → Prop} {Q : Exit → Act → World → Prop} {e : Env} (ho : ops[ia]? = some o) (hok : okOper P ρ ops o ⟨some d, .alloc z, none⟩ = true) (he : RE ρ G e act.tmps)
    (hK : ∀ (zv : Array Value) (t : TypeId), okCL zv.toList z = true → 1 ≤ z.length → K (act.put (some d) (.pointer (some ⟨w.heap.size, 0, none⟩))) (w.alloc (.cells zv t))) : wpOp P ops Q ia K act w := by
  unfold okOper at hok
  simp only [Bool.and_eq_true, beq_iff_eq] at hok
  obtain ⟨⟨hd, hg⟩, hop⟩ := hok
  unfold wpOp
  rw [ho]
  simp only
  rw [wanted_sim he hg (t := true) rfl, if_pos rfl]
  left
  unfold Oper.wp
  cases hoo : o.op <;> simp only [okAny, hoo, okOp, okCall, Bool.or_false, Bool.and_eq_true, decide_eq_true_eq, Bool.false_eq_true, Bool.or_self, okAlloc_plain hpz] at hop
  rename_i t
  obtain ⟨zv, g1, g2, _⟩ := run_zeroIs hop.1 w
  have : (execOp act.eval o).run P w = .ok (.value (.pointer (some ⟨w.heap.size, 0, none⟩))) (w.alloc (.cells zv.cells t)) := by simp [execOp, hoo, Instr.alloc, g1, newVar, newRow]
  rw [this, Oper.upon_value, hd]
  exact hK zv.cells t g2 hop.2
theorem written_set {l : List (Nat × AOper)} {listed : Array Bool} {i s : Nat} (hil : i < listed.size) (hn : ∀ a, (i, a) ∉ l) : written l (listed.setIfInBounds i true) s ↔ written l listed s := by
  constructor
  · rintro ⟨p, k, b, h1, h2, h3⟩
    rw [listed_set hil] at h3
    rcases h3 with rfl | h3
    · exact absurd (List.mem_of_getElem? h1) (hn b)
    · exact ⟨p, k, b, h1, h2, h3⟩
  · rintro ⟨p, k, b, h1, h2, h3⟩
    exact ⟨p, k, b, h1, h2, (listed_set hil).2 (.inr h3)⟩
theorem down_set {listed : Array Bool} {i : Nat} (hd : Down ops listed) (hil : i < listed.size) (hpre : ∀ j ∈ preds ops i, listed.getD j false = true) : Down ops (listed.setIfInBounds i true) := by
  intro j hj k hk
  rw [listed_set hil] at hj ⊢
  rcases hj with rfl | hj
  · exact .inr (hpre k hk)
  · exact .inr (hd j hj k hk)
theorem zero_obj {zv : Array Value} {t : TypeId} (hz : okCL zv.toList z = true) (hz1 : 1 ≤ z.length) : ObjRel ρ G (.arr z.length [z]) z.length 1 (some (.cells zv t (0, 0))) := by
  have hr : RVCL ρ G z zv.toList := okCL_sound hz
  have hl := hr.length_eq
  refine ⟨rfl, hz1, by simp at hl; omega, by simp, by simp, ?_, .zero _⟩
  rw [List.take_of_length_le (by simp at hl ⊢; omega)]
  simpa using hr
section
variable {listed : Array Bool} {act : Act}
theorem adopt_early (hpz : plainZ z = true) (tr : Trace (callSem fns ex) base (l1 ++ (ia, ⟨some d, .alloc z, none⟩) :: (xt ++ l2)) chk E Hs) (hf : ∀ i a, (i, a) ∈ l1 ++ xt → d ∉ slotsOf a ∧ a.dst ≠ some d) (hE : ∀ i a, (i, a) ∈ xt → a.op.cls = .E)
    (u1 : ∀ {p1 p2 k1 k2 s : Nat} {b1 b2 : AOper}, (l1 ++ xt)[p1]? = some (k1, b1) → (l1 ++ xt)[p2]? = some (k2, b2) → b1.dst = some s → b2.dst = some s → p1 = p2)
    (u2 : ∀ {p1 p2 k1 k2 s : Nat} {b1 b2 : AOper}, (xt ++ l2)[p1]? = some (k1, b1) → (xt ++ l2)[p2]? = some (k2, b2) → b1.dst = some s → b2.dst = some s → p1 = p2)
    (hW2 : ∀ i a, (i, a) ∈ l2 → listed.getD i false ≠ true)
    (full : ∀ (p i : Nat) (a : AOper), l1[p]? = some (i, a) → listed.getD i false = true) {b : Nat} {zv : Array Value} {t : TypeId}
    (inv : Inv ρ ops (l1 ++ xt) (pw.add b (.cells zv t (0, 0))) base (envF E l1.length d) (heapF Hs l1.length) G0 d0 listed act w)
    (hp : d < (E 0).length → act.tmps.getD d Go.undef = .pointer (some ⟨b, 0, none⟩)) (hi0 : G0.imm b = none) (hb0 : ∀ o k C, G0.blk o ≠ some (b, k, C)) (hpw : pw b = none) (hz : okCL zv.toList z = true) (hz1 : 1 ≤ z.length) :
    ∃ G1, Inv ρ ops (xt ++ l2) pw base (fun p => E (l1.length + 1 + p)) (fun p => Hs (l1.length + 1 + p)) G1 d0 listed act w ∧ Ext pw (Hs 0) (Hs (l1.length + 1)) G0 G1 := by
  have tr1 := trace_first tr hf hE
  have tr2 := trace_second tr
  obtain ⟨q, G', eS, hq, hx, r, hW, he, hlen, hcur⟩ := inv.st
  have hlen : eS.length = (E 0).length := by rw [hlen]; simp only [envF, if_pos (Nat.zero_le _), List.length_set]
  have hH0 : heapF Hs l1.length 0 = Hs 0 := by simp only [heapF, if_pos (Nat.zero_le _)]
  have hHn : heapF Hs l1.length l1.length = Hs l1.length := by simp only [heapF, if_pos (Nat.le_refl _)]
  have hEn : envF E l1.length d l1.length = (E l1.length).set d .any := by simp only [envF, if_pos (Nat.le_refl _)]
  have hHq : heapF Hs l1.length q = Hs l1.length := by
    by_cases hqn : q ≤ l1.length
    · rw [← hHn]
      refine (tr1.heap hqn (by simp) fun p' k c h1 h2 h3 hcw => ?_).symm
      have h4 : l1[p']? = some (k, c) := by rw [List.getElem?_append_left h2] at h3; exact h3
      have := (hW p' k c h3 hcw).1 (full p' k c h4)
      omega
    · simp only [heapF, if_neg hqn]
  rw [hHq] at r hx
  rw [hH0] at hx
  obtain ⟨t', v, s1, s2, s3, s4, _⟩ := tr.step l1.length ia ⟨some d, .alloc z, none⟩ (by rw [List.getElem?_append_right (Nat.le_refl _), Nat.sub_self]; rfl)
  simp only [wanted, Option.some.injEq] at s1
  subst s1
  have s2 := s2 rfl
  simp only [opSem, stepOp, Option.some.injEq, Prod.mk.injEq, objOf_plain hpz] at s2
  obtain ⟨rfl, hH⟩ := s2
  have s4 : E (l1.length + 1) = (E l1.length).set d (.ptr (Hs l1.length).next 0 0) := s4
  have hlenE : (E l1.length).length = (E 0).length := tr.len (by simp)
  have hne : ∀ a, (pw.add b (.cells zv t (0, 0))).blk a = none → pw a = none := by
    intro a ha
    by_cases hab : a = b
    · rw [hab]; exact hpw
    · rw [Pw.add_ne hab] at ha; exact ha
  have hfree : ∀ o (x : Obj) k C, (Hs l1.length).get o = some x → G'.blk o ≠ some (b, k, C) := by
    intro o x k C _ h1
    rcases hx.fr o b k C h1 with h2 | h2
    · exact hb0 o k C h2
    · rw [Pw.add_eq hpw] at h2; cases h2
  have himm : G'.imm b = none := by
    cases h1 : G'.imm b with
    | none => rfl
    | some c =>
      rcases hx.imm b c h1 with h2 | h2
      · rw [hi0] at h2; cases h2
      · rw [Pw.add_eq hpw] at h2; cases h2
  have hheap := r.pwh b _ (Pw.add_eq hpw)
  have r1 : Rel ρ pw base G' (Hs l1.length) w := Rel.weak (pw := pw) (pw' := pw.add b (.cells zv t (0, 0))) (fun a x ha => by rw [Pw.add_ne (by rintro rfl; rw [hpw] at ha; cases ha)]; exact ha) rfl r
  have r2 := r1.adopt (w' := w) (.arr z.length [z]) b z.length 1 (.cells zv t (0, 0)) hfree himm hpw (fun a => by
    by_cases hab : a = b
    · rw [if_pos hab, hab]; exact hheap
    · rw [if_neg hab]) (zero_obj hz hz1)
  have hle : G'.le (G'.add (Hs l1.length).next (b, z.length, 1)) := Gho.le_add r1.blk_next
  have he2 : RE ρ (G'.add (Hs l1.length).next (b, z.length, 1)) (eS.set d (.ptr (Hs l1.length).next 0 0)) act.tmps := by
    by_cases hd : d < (E 0).length
    · refine (he.mono hle).setA (n := d) ?_
      rw [hp hd]
      have := RVC.ptr (ρ := ρ) (G := G'.add (Hs l1.length).next (b, z.length, 1)) (Hs l1.length).next 0 0 b z.length 1 (by simp [Gho.add])
      refine .cell _ _ ?_
      simpa using this
    · rw [List.set_eq_of_length_le (by omega)]
      exact he.mono hle
  have inX : ∀ {s : Nat}, written (xt ++ l2) listed s → ∃ (p i : Nat) (a : AOper), xt[p]? = some (i, a) ∧ a.dst = some s ∧ listed.getD i false = true := by
    rintro s ⟨p, i, a, h1, h2, h3⟩
    by_cases hp : p < xt.length
    · rw [List.getElem?_append_left hp] at h1; exact ⟨p, i, a, h1, h2, h3⟩
    · rw [List.getElem?_append_right (by omega)] at h1
      exact absurd h3 (hW2 i a (List.mem_of_getElem? h1))
  refine ⟨_, ⟨inv.size, inv.down, inv.defers, 0, _, _, Nat.zero_le _, Ext.refl pw _ (Nat.le_refl _), hH ▸ r2, fun p i a h6 hc => ⟨fun h7 => ?_, fun h7 => absurd h7 (by omega)⟩, he2, by
      show (eS.set d _).length = (E (l1.length + 1 + 0)).length
      rw [List.length_set, hlen, ← hlenE]
      show _ = (E (l1.length + 1)).length
      rw [s4, List.length_set], fun s => ?_⟩, Ext.trans (hx.weak hne) (hH ▸ Ext.add pw (.arr z.length [z]) (z := (b, z.length, 1)) r1.blk_next hpw)⟩
  · by_cases hp : p < xt.length
    · rw [List.getElem?_append_left hp] at h6
      rw [hE i a (List.mem_of_getElem? h6)] at hc; cases hc
    · rw [List.getElem?_append_right (by omega)] at h6
      exact absurd h7 (hW2 i a (List.mem_of_getElem? h6))
  · by_cases hsd : s = d
    · subst hsd
      refine ⟨fun hw => ?_, fun _ => ?_⟩
      · obtain ⟨p, i, a, h1, h2, _⟩ := inX hw
        exact absurd h2 (hf i a (List.mem_append_right _ (List.mem_of_getElem? h1))).2
      · show _ = (E (l1.length + 1)).getD s .undef
        rw [s4, List.getD_eq_getElem?_getD, List.getD_eq_getElem?_getD]
        by_cases hd : s < (E 0).length
        · rw [List.getElem?_set_self (by omega), List.getElem?_set_self (by omega)]
        · rw [List.getElem?_eq_none (by rw [List.length_set]; omega), List.getElem?_eq_none (by rw [List.length_set]; omega)]
    · rw [getD_set hsd]
      refine ⟨fun hw => ?_, fun hnw => ?_⟩
      · obtain ⟨p, i, a, h1, h2, h3⟩ := inX hw
        have hpx : p < xt.length := (List.getElem?_eq_some_iff.1 h1).1
        rw [(hcur s).1 ⟨l1.length + p, i, a, by rw [List.getElem?_append_right (by omega), Nat.add_sub_cancel_left]; exact h1, h2, h3⟩]
        have e1 : envF E l1.length d (l1 ++ xt).length = (E (l1.length + 1 + xt.length)).set d .any := by
          simp only [envF, List.length_append]
          rw [if_neg (by omega), show l1.length + xt.length + 1 = l1.length + 1 + xt.length by omega]
        rw [e1, getD_set hsd]
        refine (tr2.keep (p := xt.length) (by simp) (Nat.le_refl _) fun p2 k2 b2 h4 _ h5 h6 => ?_).symm
        have := u2 (by rw [List.getElem?_append_left hpx]; exact h1) h5 h2 h6
        omega
      · have key : eS.getD s .undef = (envF E l1.length d l1.length).getD s .undef := by
          by_cases hw : written (l1 ++ xt) listed s
          · rw [(hcur s).1 hw]
            obtain ⟨p, i, a, h1, h2, h3⟩ := hw
            by_cases hpl : p < l1.length
            · refine tr1.keep (by simp) (Nat.le_refl _) fun p2 k2 b2 h4 _ h5 h6 => ?_
              have := u1 h1 h5 h2 h6
              omega
            · exfalso
              rw [List.getElem?_append_right (by omega)] at h1
              exact hnw ⟨p - l1.length, i, a, by rw [List.getElem?_append_left (List.getElem?_eq_some_iff.1 h1).1]; exact h1, h2, h3⟩
          · rw [(hcur s).2 hw]
            refine (tr1.keep (Nat.zero_le _) (by simp) fun p2 k2 b2 _ h4 h5 h6 => hw ⟨p2, k2, b2, h5, h6, ?_⟩).symm
            rw [List.getElem?_append_left h4] at h5
            exact full p2 k2 b2 h5
        rw [key, hEn, getD_set hsd]
        show _ = (E (l1.length + 1)).getD s .undef
        rw [s4, getD_set hsd]
theorem sta_alloc (hpz : plainZ z = true) {o : Oper} {Q : Exit → Act → World → Prop} (tr : Trace (callSem fns ex) base (l1 ++ (ia, ⟨some d, .alloc z, none⟩) :: (xt ++ l2)) chk E Hs) (hf : ∀ i a, (i, a) ∈ l1 ++ xt → d ∉ slotsOf a ∧ a.dst ≠ some d) (hE : ∀ i a, (i, a) ∈ xt → a.op.cls = .E)
    (u1 : ∀ {p1 p2 k1 k2 s : Nat} {b1 b2 : AOper}, (l1 ++ xt)[p1]? = some (k1, b1) → (l1 ++ xt)[p2]? = some (k2, b2) → b1.dst = some s → b2.dst = some s → p1 = p2)
    (u2 : ∀ {p1 p2 k1 k2 s : Nat} {b1 b2 : AOper}, (xt ++ l2)[p1]? = some (k1, b1) → (xt ++ l2)[p2]? = some (k2, b2) → b1.dst = some s → b2.dst = some s → p1 = p2)
    (hia1 : ∀ a, (ia, a) ∉ l1 ++ xt) (hia2 : ∀ a, (ia, a) ∉ l2) (hnl2 : ∀ i a, (i, a) ∈ l2 → listed.getD i false ≠ true) (ho : ops[ia]? = some o) (hok : okOper P ρ ops o ⟨some d, .alloc z, none⟩ = true)
    (hr : ia ∈ Region.ready .any ops listed) (inv : Inv ρ ops (l1 ++ xt) pw base (envF E l1.length d) (heapF Hs l1.length) G0 d0 listed act w) :
    wpOp P ops Q ia (fun act' w' => Sta ρ ops l1 ia d z xt l2 pw base E Hs G0 d0 (listed.setIfInBounds ia true) act' w') act w := by
  obtain ⟨hun, _, hpre⟩ := ready_iff.1 hr
  obtain ⟨hil, hnl⟩ := unlisted hun
  obtain ⟨q, G, eS, hq, hx, r, hW, he, hlen, hcur⟩ := inv.st
  have hlen0 : eS.length = (E 0).length := by rw [hlen]; simp only [envF, if_pos (Nat.zero_le _), List.length_set]
  refine alloc_wp hpz ho hok he fun zv t hz hz1 => ?_
  have hd : eS.set d .any = eS := by
    by_cases hdl : d < eS.length
    · have h1 := (hcur d).2 (fun ⟨p, i, a, h1, h2, _⟩ => (hf i a (List.mem_of_getElem? h1)).2 h2)
      simp only [envF, if_pos (Nat.zero_le _)] at h1
      rw [List.getD_eq_getElem?_getD, List.getD_eq_getElem?_getD, List.getElem?_set_self (by omega), List.getElem?_eq_getElem hdl] at h1
      simp only [Option.getD_some] at h1
      rw [← h1]; exact List.set_getElem_self hdl
    · exact List.set_eq_of_length_le (by omega)
  have hput : d < (E 0).length → (act.put (some d) (.pointer (some ⟨w.heap.size, 0, none⟩))).tmps.getD d Go.undef = .pointer (some ⟨w.heap.size, 0, none⟩) := by
    intro hdl
    have : d < act.tmps.size := by rw [← he.1]; omega
    simp [Act.put, Array.getD_eq_getD_getElem?, this]
  have hG0i : G0.imm w.heap.size = none := by
    cases h1 : G0.imm w.heap.size with
    | none => rfl
    | some c => have := hx.le.2 _ _ h1; rw [r.imm_size (Nat.le_refl _)] at this; cases this
  have hG0b : ∀ o k C, G0.blk o ≠ some (w.heap.size, k, C) := by
    intro o k C h1
    obtain ⟨y, hy⟩ := r.blkH o _ k C (hx.le.1 _ _ h1)
    exact absurd (heap_lt hy) (Nat.lt_irrefl _)
  have hpwb := r.pw_size (Nat.le_refl w.heap.size)
  have invB : Inv ρ ops (l1 ++ xt) (pw.add w.heap.size (.cells zv t (0, 0))) base (envF E l1.length d) (heapF Hs l1.length) G0 d0 (listed.setIfInBounds ia true) (act.put (some d) (.pointer (some ⟨w.heap.size, 0, none⟩))) (w.alloc (.cells zv t)) := by
    refine ⟨by rw [Array.size_setIfInBounds]; exact inv.size, down_set inv.down hil hpre, inv.defers, q, G, eS, hq, Ext.guard r hx, r.newGuard rfl rfl, fun p i a h1 h2 => ?_, ?_, hlen, fun s => ?_⟩
    · have hne : i ≠ ia := by rintro rfl; exact hia1 a (List.mem_of_getElem? h1)
      rw [listed_set hil]; simp only [hne, false_or]; exact hW p i a h1 h2
    · have := he.put (.any (.pointer (some ⟨w.heap.size, 0, none⟩))) (some d)
      rwa [show putDst eS (some d) .any = eS from hd] at this
    · rw [written_set hil hia1]; exact hcur s
  have hnl2' : ∀ i a, (i, a) ∈ l2 → (listed.setIfInBounds ia true).getD i false ≠ true := by
    intro i a hm h2
    rcases (listed_set hil).1 h2 with rfl | h2
    · exact hia2 a hm
    · exact hnl2 i a hm h2
  by_cases full : ∀ (p i : Nat) (a : AOper), l1[p]? = some (i, a) → listed.getD i false = true
  · have full' : ∀ (p i : Nat) (a : AOper), l1[p]? = some (i, a) → (listed.setIfInBounds ia true).getD i false = true := fun p i a h1 => (listed_set hil).2 (.inr (full p i a h1))
    obtain ⟨G1, i1, x1⟩ := adopt_early hpz tr hf hE u1 u2 hnl2' full' invB hput hG0i hG0b hpwb hz hz1
    exact .c G1 i1 x1 ((listed_set hil).2 (.inl rfl)) full'
  · exact .b _ zv t invB ((listed_set hil).2 (.inl rfl)) hput hG0i hG0b hpwb hz hnl2'
end
theorem ready_all {l : List (Nat × AOper)} {listed : Array Bool} (hall : okAll P ρ ops l = true) (hcov : (List.range ops.size).all ((l.map (·.1)).contains ·) = true) (hord : okOrder ops (l.map (·.1)) [] = true) (hsz : listed.size = ops.size)
    (hr : Region.ready .any ops listed = []) : ∀ i, i < ops.size → listed.getD i true = true := by
  intro i hi
  cases hb : listed.getD i true with
  | true => rfl
  | false =>
    exfalso
    have key : ∀ (p : Nat), ∀ (i : Nat), (l.map (·.1))[p]? = some i → listed.getD i true = true := by
      intro p
      induction p using Nat.strongRecOn with
      | _ p ihp =>
        intro i hp
        cases hb : listed.getD i true with
        | true => rfl
        | false =>
          have hi : i ∈ Region.ready .any ops listed := by
            refine ready_iff.2 ⟨hb, ?_, fun j hj => ?_⟩
            · rw [List.getElem?_map, Option.map_eq_some_iff] at hp
              obtain ⟨⟨i', a⟩, hp', rfl⟩ := hp
              have := List.all_eq_true.1 hall (i', a) (List.mem_of_getElem? hp')
              simp only at this
              split at this
              · rename_i o ho; exact ⟨o, ho⟩
              · cases this
            · rcases okOrder_sound hord hp j hj with h1 | ⟨p', h1, h2⟩
              · simp at h1
              · have h3 := ihp p' h1 j h2
                have hj2 : j < ops.size := by
                  rw [List.getElem?_map, Option.map_eq_some_iff] at h2
                  obtain ⟨⟨i', a⟩, hp', rfl⟩ := h2
                  have := List.all_eq_true.1 hall (i', a) (List.mem_of_getElem? hp')
                  simp only at this
                  split at this
                  · rename_i o ho; exact (Array.getElem?_eq_some_iff.1 ho).1
                  · cases this
                have hs : j < listed.size := by rw [hsz]; exact hj2
                rw [Array.getD_eq_getD_getElem?, Array.getElem?_eq_getElem hs] at h3 ⊢
                simpa using h3
          rw [hr] at hi; cases hi
    have hm : i ∈ l.map (·.1) := by
      have := List.all_eq_true.1 hcov i (List.mem_range.2 hi)
      simpa using this
    obtain ⟨p, hp⟩ := List.getElem?_of_mem hm
    rw [key p i hp] at hb; cases hb
theorem early_wp (hpz : plainZ z = true) (hm : P.follows .mixedOrders = true) (ok : CallOK P ρ pw.gl (callF fns ex)) (hok : okEarly P ρ ops l1 ia d z xt l2 chk = true) {e e' : Env} {h h' : H} {G : Gho} {act : Act} {w : World} {id : Nat} {Q : Exit → Act → World → Prop}
    (hr : runOps (callSem fns ex) base (l1 ++ (ia, ⟨some d, .alloc z, none⟩) :: (xt ++ l2)) chk (l1 ++ (ia, ⟨some d, .alloc z, none⟩) :: (xt ++ l2)) e h = some (e', h')) (he : RE ρ G e act.tmps) (r : Rel ρ pw base G h w)
    (hQ : ∀ G' act' w', Ext pw h h' G G' → RE ρ G' e' act'.tmps → Rel ρ pw base G' h' w' → act'.defers = act.defers → Q .normal act' w') :
    (Code.region id ops true).wp P Q act w := by
  simp only [okEarly, Bool.and_eq_true, decide_eq_true_eq] at hok
  obtain ⟨hall, hnd, hcov, hord, hp1, hp2, hsep, hfr, hxE⟩ := hok
  obtain ⟨E, Hs, rfl, rfl, rfl, rfl, hst0⟩ := runOps_trace _ e h e' h' hr
  have tr := trace_of hnd hst0
  have ht : TblOk ops (ancTbl ops ((l1 ++ (ia, (⟨some d, .alloc z, none⟩ : AOper)) :: (xt ++ l2)).map (·.1)) []) := ancTbl_sound _ _ fun i j hj => by simp [isAnc, List.lookup] at hj
  have hf : ∀ i a, (i, a) ∈ l1 ++ xt → d ∉ slotsOf a ∧ a.dst ≠ some d := by
    intro i a hm
    have := List.all_eq_true.1 hfr (i, a) hm
    simp only [Bool.and_eq_true, Bool.not_eq_true'] at this
    exact ⟨hits_not this.1, same_not this.2⟩
  have hE : ∀ i a, (i, a) ∈ xt → a.op.cls = .E := fun i a hm => by
    have := List.all_eq_true.1 hxE (i, a) hm
    simpa using this
  have hall1 : okAll P ρ ops (l1 ++ xt) = true := List.all_eq_true.2 fun x hx => List.all_eq_true.1 hall x (by
    rcases List.mem_append.1 hx with hx | hx
    · exact List.mem_append_left _ hx
    · exact List.mem_append_right _ (List.mem_cons_of_mem _ (List.mem_append_left _ hx)))
  have hall2 : okAll P ρ ops (xt ++ l2) = true := List.all_eq_true.2 fun x hx => List.all_eq_true.1 hall x (List.mem_append_right _ (List.mem_cons_of_mem _ hx))
  have hia := List.all_eq_true.1 hall (ia, ⟨some d, .alloc z, none⟩) (List.mem_append_right _ List.mem_cons_self)
  obtain ⟨o, ho, hoo⟩ : ∃ o, ops[ia]? = some o ∧ okOper P ρ ops o ⟨some d, .alloc z, none⟩ = true := by
    simp only at hia
    split at hia
    · rename_i o ho; exact ⟨o, ho, hia⟩
    · cases hia
  have hz1 : 1 ≤ z.length := by
    simp only [okOper, Bool.and_eq_true] at hoo
    have h1 := hoo.2
    cases ho2 : o.op <;> simp only [okAny, ho2, okOp, okCall, Bool.or_false, decide_eq_true_eq, Bool.false_eq_true, Bool.or_self, okAlloc_plain hpz, Bool.and_eq_true] at h1
    exact h1.2
  have u1 : ∀ {p1 p2 k1 k2 s : Nat} {b1 b2 : AOper}, (l1 ++ xt)[p1]? = some (k1, b1) → (l1 ++ xt)[p2]? = some (k2, b2) → b1.dst = some s → b2.dst = some s → p1 = p2 := uniq_of ht hp1
  have u2 : ∀ {p1 p2 k1 k2 s : Nat} {b1 b2 : AOper}, (xt ++ l2)[p1]? = some (k1, b1) → (xt ++ l2)[p2]? = some (k2, b2) → b1.dst = some s → b2.dst = some s → p1 = p2 := uniq_of ht hp2
  rw [List.map_append, List.map_cons, List.map_append, List.nodup_append] at hnd
  obtain ⟨nd1, nd2, nd3⟩ := hnd
  rw [List.nodup_cons, List.nodup_append] at nd2
  obtain ⟨ndx, nd4, nd5, nd6⟩ := nd2
  have ndA : ((l1 ++ xt).map (·.1)).Nodup := by
    rw [List.map_append, List.nodup_append]
    exact ⟨nd1, nd4, fun a ha b hb => nd3 a ha b (List.mem_cons_of_mem _ (List.mem_append_left _ hb))⟩
  have ndB : ((xt ++ l2).map (·.1)).Nodup := by
    rw [List.map_append, List.nodup_append]
    exact ⟨nd4, nd5, nd6⟩
  have hia1 : ∀ a, (ia, a) ∉ l1 ++ xt := fun a hm => by
    rcases List.mem_append.1 hm with hm | hm
    · exact nd3 ia (List.mem_map.2 ⟨_, hm, rfl⟩) ia List.mem_cons_self rfl
    · exact ndx (List.mem_append_left _ (List.mem_map.2 ⟨_, hm, rfl⟩))
  have hia2 : ∀ a, (ia, a) ∉ l2 := fun a hm => ndx (List.mem_append_right _ (List.mem_map.2 ⟨_, hm, rfl⟩))
  have h12 : ∀ {k : Nat} {c : AOper}, k ∈ (l1 ++ xt).map (·.1) → (k, c) ∈ l2 → False := by
    intro k c h1 h2
    have h2 : k ∈ l2.map (·.1) := List.mem_map.2 ⟨_, h2, rfl⟩
    rw [List.map_append] at h1
    rcases List.mem_append.1 h1 with h1 | h1
    · exact nd3 k h1 k (List.mem_cons_of_mem _ (List.mem_append_right _ h2)) rfl
    · exact nd6 k h1 k h2 rfl
  have sep : ∀ i a, (i, a) ∈ l2 → Anc ops ia i ∧ ∀ j b, (j, b) ∈ l1 → Anc ops j i := by
    intro i a hm
    have := List.all_eq_true.1 hsep (i, a) hm
    simp only [Bool.and_eq_true] at this
    exact ⟨ht _ _ this.1, fun j b hj => ht _ _ (List.all_eq_true.1 this.2 (j, b) hj)⟩
  have tr1 := trace_first tr hf hE
  have tr2 := trace_second tr
  have hlast : (l1 ++ (ia, (⟨some d, .alloc z, none⟩ : AOper)) :: (xt ++ l2)).length = l1.length + 1 + (xt ++ l2).length := by simp; omega
  rw [hlast] at hQ
  have sta_size : ∀ {listed : Array Bool} {act' : Act} {w' : World}, Sta ρ ops l1 ia d z xt l2 pw base E Hs G act.defers listed act' w' → listed.size = ops.size ∧ Down ops listed := by
    intro listed act' w' st
    cases st with
    | a inv _ => exact ⟨inv.size, inv.down⟩
    | b _ _ _ inv _ _ _ _ _ _ _ => exact ⟨inv.size, inv.down⟩
    | c _ inv _ _ _ => exact ⟨inv.size, inv.down⟩
  -- early blocks become objects when the first part is done
  have toC : ∀ {listed : Array Bool} {act' : Act} {w' : World}, Sta ρ ops l1 ia d z xt l2 pw base E Hs G act.defers listed act' w' → (∀ (p i : Nat) (a : AOper), l1[p]? = some (i, a) → listed.getD i false = true) → listed.getD ia false = true →
      ∃ G1, Inv ρ ops (xt ++ l2) pw base (fun p => E (l1.length + 1 + p)) (fun p => Hs (l1.length + 1 + p)) G1 act.defers listed act' w' ∧ Ext pw (Hs 0) (Hs (l1.length + 1)) G G1 := by
    intro listed act' w' st full hl
    cases st with
    | a inv h1 => exact absurd hl h1
    | c G1 inv x _ _ => exact ⟨G1, inv, x⟩
    | b b zv t inv _ h1 h2 h3 h4 h5 hnl2 =>
      exact adopt_early hpz tr hf hE u1 u2 hnl2 full inv h1 h2 h3 h4 h5 hz1
  have step : ∀ {listed : Array Bool} {act' : Act} {w' : World}, Sta ρ ops l1 ia d z xt l2 pw base E Hs G act.defers listed act' w' → ∀ i ∈ Region.ready .any ops listed,
      wpOp P ops Q i (Sta ρ ops l1 ia d z xt l2 pw base E Hs G act.defers (listed.setIfInBounds i true)) act' w' := by
    intro listed act' w' st i hi
    obtain ⟨hun, ⟨o', ho'⟩, hpre⟩ := ready_iff.1 hi
    obtain ⟨hil, hnl⟩ := unlisted hun
    obtain ⟨hsz, hdn⟩ := sta_size st
    have hmem : i ∈ (l1 ++ (ia, (⟨some d, .alloc z, none⟩ : AOper)) :: (xt ++ l2)).map (·.1) := by
      have := List.all_eq_true.1 hcov i (List.mem_range.2 (Array.getElem?_eq_some_iff.1 ho').1)
      simpa using this
    have hcases : i ∈ (l1 ++ xt).map (·.1) ∨ i = ia ∨ i ∈ (xt ++ l2).map (·.1) := by
      rw [List.map_append, List.map_cons, List.mem_append, List.mem_cons] at hmem
      rcases hmem with hm | hm | hm
      · left; rw [List.map_append]; exact List.mem_append_left _ hm
      · exact .inr (.inl hm)
      · exact .inr (.inr hm)
    have hne1 : i ∈ (l1 ++ xt).map (·.1) → ia ≠ i := by
      rintro hm rfl
      obtain ⟨⟨j, a⟩, h1, h2⟩ := List.mem_map.1 hm
      simp only at h2; subst h2
      exact hia1 a h1
    have runC : ∀ {G1 : Gho}, Inv ρ ops (xt ++ l2) pw base (fun p => E (l1.length + 1 + p)) (fun p => Hs (l1.length + 1 + p)) G1 act.defers listed act' w' → Ext pw (Hs 0) (Hs (l1.length + 1)) G G1 → listed.getD ia false = true →
        (∀ (p k : Nat) (c : AOper), l1[p]? = some (k, c) → listed.getD k false = true) → i ∈ (xt ++ l2).map (·.1) → wpOp P ops Q i (Sta ρ ops l1 ia d z xt l2 pw base E Hs G act.defers (listed.setIfInBounds i true)) act' w' := by
      intro G1 inv x h1 h2 hm
      exact wpOp_mono (fun act2 w2 inv2 => .c G1 inv2.1 x ((listed_set hil).2 (.inr h1)) fun p k c hp => (listed_set hil).2 (.inr (h2 p k c hp))) (inv_step ok hall2 ndB ht hp2 tr2 inv hi hm)
    cases st with
    | c G1 inv x h1 h2 =>
      rcases hcases with hm | rfl | hm
      · rw [List.map_append] at hm
        rcases List.mem_append.1 hm with hm | hm
        · obtain ⟨⟨j, a⟩, h3, h4⟩ := List.mem_map.1 hm
          simp only at h4; subst h4
          obtain ⟨p, hp⟩ := List.getElem?_of_mem h3
          exact absurd (h2 p j a hp) hnl
        · exact runC inv x h1 h2 (by rw [List.map_append]; exact List.mem_append_left _ hm)
      · exact absurd h1 hnl
      · exact runC inv x h1 h2 hm
    | a inv h1 =>
      have runA : i ∈ (l1 ++ xt).map (·.1) → wpOp P ops Q i (Sta ρ ops l1 ia d z xt l2 pw base E Hs G act.defers (listed.setIfInBounds i true)) act' w' := by
        intro hm
        refine wpOp_mono (fun act2 w2 inv2 => .a inv2.1 ?_) (inv_step ok hall1 ndA ht hp1 tr1 inv hi hm)
        intro h2
        rcases (listed_set hil).1 h2 with h2 | h2
        · exact hne1 hm h2
        · exact h1 h2
      rcases hcases with hm | rfl | hm
      · exact runA hm
      · exact sta_alloc hpz tr hf hE u1 u2 hia1 hia2 (fun k c hk h6 => h1 (hdn.anc (sep k c hk).1 h6)) ho hoo hi inv
      · rw [List.map_append] at hm
        rcases List.mem_append.1 hm with hm | hm
        · exact runA (by rw [List.map_append]; exact List.mem_append_right _ hm)
        · obtain ⟨⟨j, a⟩, h3, h4⟩ := List.mem_map.1 hm
          simp only at h4; subst h4
          exact absurd (hdn.anc_ready hpre (sep j a h3).1) h1
    | b b zv t inv h0 h1 h2 h3 h4 h5 hnl2 =>
      have runB : i ∈ (l1 ++ xt).map (·.1) → wpOp P ops Q i (Sta ρ ops l1 ia d z xt l2 pw base E Hs G act.defers (listed.setIfInBounds i true)) act' w' := by
        intro hm
        refine wpOp_mono (fun act2 w2 inv2 => ?_) (inv_step (pw := pw.add _ _) ok hall1 ndA ht hp1 tr1 inv hi hm)
        obtain ⟨inv2, a, v', ha, rfl⟩ := inv2
        refine .b b zv t inv2 ((listed_set hil).2 (.inr h0)) (fun hd => ?_) h2 h3 h4 h5 fun k c hk h6 => ?_
        · rw [← h1 hd]
          have hne2 := (hf i a ha).2
          cases hda : a.dst with
          | none => rfl
          | some s =>
            have : s ≠ d := by rintro rfl; exact hne2 hda
            simp [Act.put, Array.getD_eq_getD_getElem?, Array.getElem?_setIfInBounds, this]
        · rcases (listed_set hil).1 h6 with rfl | h6
          · exact h12 hm hk
          · exact hnl2 k c hk h6
      rcases hcases with hm | rfl | hm
      · exact runB hm
      · exact absurd h0 hnl
      · rw [List.map_append] at hm
        rcases List.mem_append.1 hm with hm | hm
        · exact runB (by rw [List.map_append]; exact List.mem_append_right _ hm)
        · obtain ⟨⟨j, a⟩, h6, h7⟩ := List.mem_map.1 hm
          simp only at h7; subst h7
          obtain ⟨s1, s2⟩ := sep j a h6
          have full : ∀ (p k : Nat) (c : AOper), l1[p]? = some (k, c) → listed.getD k false = true := fun p k c hp => hdn.anc_ready hpre (s2 k c (List.mem_of_getElem? hp))
          obtain ⟨G1, inv1, x⟩ := adopt_early hpz tr hf hE u1 u2 hnl2 full inv h1 h2 h3 h4 h5 hz1
          exact runC inv1 x h0 full (by rw [List.map_append]; exact List.mem_append_right _ hm)
  have fin : ∀ {listed : Array Bool} {act' : Act} {w' : World}, Sta ρ ops l1 ia d z xt l2 pw base E Hs G act.defers listed act' w' → (∀ i, i < ops.size → listed.getD i true = true) → Q .normal act' w' := by
    intro listed act' w' st hdn
    obtain ⟨hsz, _⟩ := sta_size st
    have lst : ∀ i a, (i, a) ∈ l1 ++ (ia, (⟨some d, .alloc z, none⟩ : AOper)) :: (xt ++ l2) → listed.getD i false = true := by
      intro i a hm
      have hi : i < ops.size := by
        have := List.all_eq_true.1 hall (i, a) hm
        simp only at this
        split at this
        · rename_i o ho; exact (Array.getElem?_eq_some_iff.1 ho).1
        · cases this
      have h1 := hdn i hi
      have hs : i < listed.size := by rw [hsz]; exact hi
      rw [Array.getD_eq_getD_getElem?, Array.getElem?_eq_getElem hs] at h1 ⊢
      simpa using h1
    obtain ⟨G1, inv, x⟩ := toC st (fun p i a hp => lst i a (List.mem_append_left _ (List.mem_of_getElem? hp))) (lst ia _ (List.mem_append_right _ List.mem_cons_self))
    obtain ⟨G', x2, he2, r2, hd2⟩ := inv_full tr2 (fun p i a hp => lst i a (List.mem_append_right _ (List.mem_cons_of_mem _ (List.mem_of_getElem? hp)))) inv
    exact hQ G' act' w' (x.trans x2) he2 r2 hd2
  have main : ∀ (n : Nat) (listed : Array Bool) (act' : Act) (w' : World), left ops.size listed = n → Sta ρ ops l1 ia d z xt l2 pw base E Hs G act.defers listed act' w' → wpAny P .any ops Q n listed act' w' := by
    intro n
    induction n with
    | zero =>
      intro listed act' w' hn st
      have hdn : ∀ i, i < ops.size → listed.getD i true = true := fun i hi => left_zero hn hi
      refine ⟨?_, fin st hdn⟩
      cases hr : Region.ready .any ops listed with
      | nil => rfl
      | cons i is =>
        have hi : i ∈ Region.ready .any ops listed := by rw [hr]; simp
        obtain ⟨h0, ⟨o, ho⟩, _⟩ := ready_iff.1 hi
        rw [hdn i (Array.getElem?_eq_some_iff.1 ho).1] at h0; cases h0
    | succ n ih =>
      intro listed act' w' hn st
      obtain ⟨hsz, _⟩ := sta_size st
      refine ⟨fun hr => fin st (ready_all hall hcov hord hsz hr), fun i hi => ?_⟩
      refine wpOp_mono (fun act2 w2 st2 => ih _ act2 w2 ?_ st2) (step st i hi)
      have := left_set hsz (ready_iff.1 hi).1
      omega
  have hnone : ∀ i, ¬ ((Array.replicate ops.size false).getD i false = true) := fun i => by
    rw [Array.getD_eq_getD_getElem?, Array.getElem?_replicate]
    split <;> simp
  refine wp_region_any hm (main ops.size _ act _ ?_ (.a ?_ (hnone ia)))
  · unfold left
    have h1 : (List.range ops.size).countP (fun i => !(Array.replicate ops.size false).getD i true) = (List.range ops.size).countP (fun _ => true) := by
      refine List.countP_congr fun i hi => ?_
      have := List.mem_range.1 hi
      simp [Array.getD_eq_getD_getElem?, this]
    rw [h1]; simp
  · refine ⟨by simp, fun i hi => absurd hi (hnone i), rfl, 0, G, (E 0).set d .any, Nat.zero_le _, Ext.refl pw G (Nat.le_refl _), (by simp only [heapF, if_pos (Nat.zero_le _)]; exact r.heap_eq rfl), fun p i a _ _ => ⟨fun h => absurd h (hnone i), fun h => absurd h (by omega)⟩,
      he.setA (.any _), by simp only [envF, if_pos (Nat.zero_le _)], fun s => ⟨fun ⟨p, i, a, _, _, h3⟩ => absurd h3 (hnone i), fun _ => by simp only [envF, if_pos (Nat.zero_le _)]⟩⟩
variable (P ρ) in
def okEarlyAny (ops : Array Oper) (l : List (Nat × AOper)) (chk : List (Nat × Nat)) : Bool :=
  (List.range l.length).any fun n => match l.drop n with
    | (ia, ⟨some d, .alloc z, none⟩) :: r => plainZ z && (List.range 3).any fun m => okEarly P ρ ops (l.take n) ia d z (r.take m) (r.drop m) chk
    | _ => false
theorem earlyAny_wp (hm : P.follows .mixedOrders = true) (ok : CallOK P ρ pw.gl (callF fns ex)) {l : List (Nat × AOper)} (hok : okEarlyAny P ρ ops l chk = true) {e e' : Env} {h h' : H} {G : Gho} {act : Act} {w : World} {id : Nat} {Q : Exit → Act → World → Prop}
    (hr : runOps (callSem fns ex) base l chk l e h = some (e', h')) (he : RE ρ G e act.tmps) (r : Rel ρ pw base G h w)
    (hQ : ∀ G' act' w', Ext pw h h' G G' → RE ρ G' e' act'.tmps → Rel ρ pw base G' h' w' → act'.defers = act.defers → Q .normal act' w') :
    (Code.region id ops true).wp P Q act w := by
  unfold okEarlyAny at hok
  obtain ⟨n, _, hn⟩ := List.any_eq_true.1 hok
  split at hn
  · rename_i ia d z l2 hd
    obtain ⟨hpz, hn⟩ := Bool.and_eq_true_iff.1 hn
    obtain ⟨m, _, hn⟩ := List.any_eq_true.1 hn
    have hl : l = l.take n ++ (ia, ⟨some d, .alloc z, none⟩) :: (l2.take m ++ l2.drop m) := by rw [List.take_append_drop, ← hd, List.take_append_drop]
    rw [hl] at hr
    exact early_wp hpz hm ok hn hr he r hQ
  · cases hn
end
end Go.Am
namespace Go.Am
section
variable (P : Program) (ρ : Nat → FuncId)
def okCode : Code → ACode → Bool
  | c, .seq (.ghost _) a => okCode c a
  | c, .seq a (.ghost _) => okCode c a
  | .skip, .skip => true
  | .region _ ops draw, .region l chk => bif draw then okDrawn P ρ ops l chk || okEarlyAny P ρ ops l chk else (l.map (·.1) == List.range ops.size && okAll P ρ ops l)
  | .seq c d, .seq a b => okCode c a && okCode d b
  | .cond x c d, .cond y a b => okO ρ x y && (okCode c a && okCode d b)
  | .block i c, .block j a => i == j && okCode c a
  | .loop c, .loop a => okCode c a
  | .exit i, .exit j => i == j
  | .ret, .ret => true
  | _, _ => false
def okRes : List ResultVar → List ARes → Bool
  | [], [] => true
  | .tmp t :: rs, .slot n :: as => t == n && okRes rs as
  | .cell t ty :: rs, .cell n g sz :: as => t == n && aggIs P ty g && szIs P ty sz && okRes rs as
  | _, _ => false
def okFun (f : Nat) (fn : AFun) : Bool := match P.funcs[ρ f]? with
  | some g => match g.body with
    | some c => g.name != "runtime.NumGoroutine" && g.ntmps == fn.slots && decide (fn.res.length ≤ 3) && okRes P g.results.toList fn.res && okCode P ρ c fn.body
    | none => false
  | none => false
end
section
variable {P : Program} {ρ : Nat → FuncId} {G G' : Gho} {pw : Pw} {base : Nat} {h h' : H} {w : World} {e e' : Env} {act : Act} {v : AV}
def AEx.ex : AEx → Exit
  | .normal => .normal
  | .exit i => .exit i
  | .ret => .ret
def Sim (P : Program) (ρ : Nat → FuncId) (γ : Nat → Option Go.Obj) (fns : Fns) (n : Nat) : Prop :=
  ∀ (base : Nat) (pw : Pw) (ac : ACode) (c : Code) (e : Env) (h : H) (x : AEx) (e' : Env) (h' : H) (G : Gho) (act : Act) (w : World) (Q : Exit → Act → World → Prop),
    okCode P ρ c ac = true → exec fns n base ac e h = some (x, e', h') → RE ρ G e act.tmps → Rel ρ pw base G h w → pw.gl = γ →
    (∀ G' act' w', Ext pw h h' G G' → RE ρ G' e' act'.tmps → Rel ρ pw base G' h' w' → act'.defers = act.defers → Q x.ex act' w') → c.wp P Q act w
theorem okCode_seq {c : Code} {a b : ACode} (hk : okCode P ρ c (.seq a b) = true) :
    (∃ g, a = .ghost g ∧ okCode P ρ c b = true) ∨ (∃ g, b = .ghost g ∧ okCode P ρ c a = true) ∨ ∃ c1 c2, c = .seq c1 c2 ∧ okCode P ρ c1 a = true ∧ okCode P ρ c2 b = true := by
  cases a with
  | ghost g => exact .inl ⟨g, rfl, by simpa only [okCode] using hk⟩
  | _ =>
    cases b with
    | ghost g => exact .inr (.inl ⟨g, rfl, by simpa only [okCode] using hk⟩)
    | _ =>
      cases c with
      | seq c1 c2 =>
        rw [okCode, Bool.and_eq_true] at hk
        · exact .inr (.inr ⟨c1, c2, rfl, hk.1, hk.2⟩)
        all_goals (intros; simp_all)
      | _ => simp [okCode] at hk
theorem least {p : Nat → Prop} : ∀ n, p n → ∃ m, p m ∧ ∀ k, p k → m ≤ k := by
  intro n
  induction n using Nat.strongRecOn with
  | _ n ih =>
    intro hn
    by_cases h : ∃ k, k < n ∧ p k
    · obtain ⟨k, h1, h2⟩ := h; exact ih k h1 h2
    · exact ⟨n, hn, fun k hk => by
        rcases Nat.lt_or_ge k n with h1 | h1
        · exact absurd ⟨k, h1, hk⟩ h
        · exact h1⟩
open Classical in
theorem wp_loop_fuel {c : Code} {Q : Exit → Act → World → Prop} (I : Nat → Act → World → Prop) {n : Nat} (h0 : I n act w)
    (round : ∀ n a w, I n a w → c.wp P (Exit.then (fun a' w' => ∃ m, m < n ∧ I m a' w') Q) a w) : (Code.loop c).wp P Q act w := by
  have mu : ∀ a w, ∃ k, (∃ n, I n a w) → I k a w ∧ ∀ j, I j a w → k ≤ j := by
    intro a w
    by_cases hx : ∃ n, I n a w
    · obtain ⟨n, hn⟩ := hx
      obtain ⟨m, h1, h2⟩ := least (p := fun k => I k a w) n hn
      exact ⟨m, fun _ => ⟨h1, h2⟩⟩
    · exact ⟨0, fun h => absurd h hx⟩
  refine wp_loop (fun a w => ∃ n, I n a w) (fun a w => Classical.choose (mu a w)) ⟨n, h0⟩ fun a w hI => ?_
  obtain ⟨h1, h2⟩ := Classical.choose_spec (mu a w) hI
  refine wp_mono (round _ a w h1) fun ex a' w' hq => ?_
  cases ex with
  | normal =>
    obtain ⟨m, hm, hI'⟩ := hq
    refine ⟨⟨m, hI'⟩, ?_⟩
    have := (Classical.choose_spec (mu a' w') ⟨m, hI'⟩).2 m hI'
    omega
  | _ => exact hq
theorem load_var_sim (r : Rel ρ pw base G h w) {a : AV} {va : Value} (ha : RV ρ G a va) {t : TypeId} {g : Bool} {sz : Nat} (hl : loadAt h g sz a = some v) (hg : aggIs P t g = true) (hs : szIs P t sz = true) :
    ∃ v', ((do loadVar t (← asAddr va)) : Sem Value).run P w = .ok v' w ∧ RV ρ G v v' := by
  obtain ⟨v', h1, h2⟩ := load_sim r ha hl hg hs
  have hp : ∃ ad, va = .pointer (some ad) := by
    cases a <;> simp only [loadAt, reduceCtorEq] at hl
    · exact ha.ofPtr
    · exact ha.ofRptr
  obtain ⟨ad, rfl⟩ := hp
  refine ⟨v', ?_, h2⟩
  simpa [Instr.loadAt, Instr.sureAddr, asAddr] using h1
theorem mapM0 (f : ResultVar → Sem Value) : ((#[] : Array ResultVar).mapM f).run P w = .ok #[] w := by simp
theorem mapM1 (f : ResultVar → Sem Value) {r1 : ResultVar} {v1 : Value} (h1 : (f r1).run P w = .ok v1 w) : (#[r1].mapM f).run P w = .ok #[v1] w := by simp [h1]
theorem mapM2 (f : ResultVar → Sem Value) {r1 r2 : ResultVar} {v1 v2 : Value} (h1 : (f r1).run P w = .ok v1 w) (h2 : (f r2).run P w = .ok v2 w) : (#[r1, r2].mapM f).run P w = .ok #[v1, v2] w := by simp [h1, h2]
theorem mapM3 (f : ResultVar → Sem Value) {r1 r2 r3 : ResultVar} {v1 v2 v3 : Value} (h1 : (f r1).run P w = .ok v1 w) (h2 : (f r2).run P w = .ok v2 w) (h3 : (f r3).run P w = .ok v3 w) :
    (#[r1, r2, r3].mapM f).run P w = .ok #[v1, v2, v3] w := by simp [h1, h2, h3]
def oneRes (tmps : Array Value) : ResultVar → Sem Value
  | .tmp t => pure (tmps.getD t undef)
  | .cell a t => do loadVar t (← asAddr (tmps.getD a undef))
theorem results_eq (fn : Func) (tmps : Array Value) : results fn tmps = (do let vs ← fn.results.mapM (oneRes tmps); pure (if h : vs.size = 1 then vs[0] else .tuple vs)) := rfl
theorem oneRes_sim (r : Rel ρ pw base G h w) (he : RE ρ G e act.tmps) : ∀ {rs : List ResultVar} {as : List ARes} {vs : List AV}, okRes P rs as = true → resList e h as = some vs →
    ∃ xs : List Value, xs.length = rs.length ∧ RVL ρ G vs xs ∧ ∀ (i : Nat) (rv : ResultVar), rs[i]? = some rv → ∃ x, xs[i]? = some x ∧ (oneRes act.tmps rv).run P w = .ok x w
  | [], [], vs, _, hr => by simp only [resList, Option.some.injEq] at hr; subst hr; exact ⟨[], rfl, .nil, fun i rv hi => by simp at hi⟩
  | [], _ :: _, _, hk, _ => by simp [okRes] at hk
  | .tmp _ :: _, [], _, hk, _ => by simp [okRes] at hk
  | .cell _ _ :: _, [], _, hk, _ => by simp [okRes] at hk
  | rv0 :: rs, a :: as, vs, hk, hr => by
    simp only [resList] at hr
    split at hr
    · rename_i v1 vs1 h1 h2
      cases hr
      have both : okRes P rs as = true ∧ ∃ x, RV ρ G v1 x ∧ (oneRes act.tmps rv0).run P w = .ok x w := by
        cases rv0 with
        | tmp t =>
          cases a with
          | slot n =>
            simp only [okRes, Bool.and_eq_true, beq_iff_eq] at hk
            obtain ⟨rfl, hk⟩ := hk
            simp only [resOne, Option.some.injEq] at h1
            subst h1
            exact ⟨hk, _, he.2 t, rfl⟩
          | cell n g sz => simp [okRes] at hk
        | cell t ty =>
          cases a with
          | slot n => simp [okRes] at hk
          | cell n g sz =>
            simp only [okRes, Bool.and_eq_true, beq_iff_eq] at hk
            obtain ⟨⟨⟨rfl, hg⟩, hs⟩, hk⟩ := hk
            simp only [resOne] at h1
            obtain ⟨x, q1, q2⟩ := load_var_sim (P := P) r (he.2 t) h1 hg hs
            exact ⟨hk, x, q2, q1⟩
      obtain ⟨hk', x, q1, q2⟩ := both
      obtain ⟨xs, p1, p2, p3⟩ := oneRes_sim r he hk' h2
      refine ⟨x :: xs, by simp [p1], .cons _ _ _ _ q1 p2, fun i rv hi => ?_⟩
      cases i with
      | zero => simp only [List.getElem?_cons_zero, Option.some.injEq] at hi; subst hi; exact ⟨x, rfl, q2⟩
      | succ i => exact p3 i rv (by simpa using hi)
    · cases hr
theorem results_sim (r : Rel ρ pw base G h w) (he : RE ρ G e act.tmps) {fn : Func} {as : List ARes} (hk : okRes P fn.results.toList as = true) (h3 : as.length ≤ 3) (hr : resOf e h as = some v) :
    ∃ x, (results fn act.tmps).run P w = .ok x w ∧ RV ρ G v x := by
  have hlen : ∀ {rs : List ResultVar} {as : List ARes}, okRes P rs as = true → rs.length = as.length := by
    intro rs
    induction rs with
    | nil => intro as h; cases as with
      | nil => rfl
      | cons => simp [okRes] at h
    | cons r rs ih => intro as h; cases as with
      | nil => cases r <;> simp [okRes] at h
      | cons a as =>
        cases r <;> cases a <;> simp only [okRes, Bool.and_eq_true, Bool.false_eq_true] at h
        · rw [List.length_cons, List.length_cons, ih h.2]
        · rw [List.length_cons, List.length_cons, ih h.2]
  have hl := hlen hk
  rw [results_eq]
  have hfr : fn.results = fn.results.toList.toArray := by simp
  rw [hfr]
  revert hk hl
  generalize fn.results.toList = rs
  intro hk hl
  unfold resOf at hr
  cases hrl : resList e h as with
  | none => rw [hrl] at hr; cases hr
  | some vs =>
    obtain ⟨xs, p1, p2, p3⟩ := oneRes_sim (P := P) r he hk hrl
    rw [hrl] at hr
    match rs, xs, p1, p3 with
    | [], [], _, _ =>
      cases p2
      simp only [Option.some.injEq] at hr
      subst hr
      exact ⟨.tuple #[], by simp, .tup [] [] .nil⟩
    | [r1], [x1], _, p3 =>
      cases p2 with | cons a1 _ as1 _ q1 q2 =>
      cases q2
      simp only [Option.some.injEq] at hr
      subst hr
      obtain ⟨y1, e1, s1⟩ := p3 0 r1 rfl
      simp only [List.getElem?_cons_zero, Option.some.injEq] at e1
      subst e1
      exact ⟨x1, by simp only [Sem.run_bind, mapM1 _ s1, Result.andThen_ok]; rfl, q1⟩
    | [r1, r2], [x1, x2], _, p3 =>
      cases p2 with | cons a1 _ as1 _ q1 q2 =>
      cases q2 with | cons a2 _ as2 _ q2 q3 =>
      cases q3
      simp only [Option.some.injEq] at hr
      subst hr
      obtain ⟨y1, e1, s1⟩ := p3 0 r1 rfl
      obtain ⟨y2, e2, s2⟩ := p3 1 r2 rfl
      simp only [List.getElem?_cons_zero, List.getElem?_cons_succ, Option.some.injEq] at e1 e2
      subst e1 e2
      exact ⟨.tuple #[x1, x2], by simp only [Sem.run_bind, mapM2 _ s1 s2, Result.andThen_ok]; rfl, .tup [a1, a2] [x1, x2] (.cons _ _ _ _ q1 (.cons _ _ _ _ q2 .nil))⟩
    | [r1, r2, r3], [x1, x2, x3], _, p3 =>
      cases p2 with | cons a1 _ as1 _ q1 q2 =>
      cases q2 with | cons a2 _ as2 _ q2 q3 =>
      cases q3 with | cons a3 _ as3 _ q3 q4 =>
      cases q4
      simp only [Option.some.injEq] at hr
      subst hr
      obtain ⟨y1, e1, s1⟩ := p3 0 r1 rfl
      obtain ⟨y2, e2, s2⟩ := p3 1 r2 rfl
      obtain ⟨y3, e3, s3⟩ := p3 2 r3 rfl
      simp only [List.getElem?_cons_zero, List.getElem?_cons_succ, Option.some.injEq] at e1 e2 e3
      subst e1 e2 e3
      exact ⟨.tuple #[x1, x2, x3], by simp only [Sem.run_bind, mapM3 _ s1 s2 s3, Result.andThen_ok]; rfl,
        .tup [a1, a2, a3] [x1, x2, x3] (.cons _ _ _ _ q1 (.cons _ _ _ _ q2 (.cons _ _ _ _ q3 .nil)))⟩
    | _ :: _ :: _ :: _ :: _, _, _, _ => exact absurd hl (by simp only [List.length_cons]; omega)
end
end Go.Am
namespace Go.Am
section
variable {P : Program} {ρ : Nat → FuncId} {G G' : Gho} {pw : Pw} {base : Nat} {h h' : H} {w : World} {e e' : Env} {act : Act} {v : AV} {fns : Fns}
def SpecOk (P : Program) (ρ : Nat → FuncId) (f : Nat) (s : Nat → H → List AV → Option (AV × H)) : Prop :=
  ∀ args base h v h', s base h args = some (v, h') → ∀ G pw w vals, RVL ρ G args vals → Rel ρ pw base G h w → ACalls P (ρ f) vals.toArray w (Back ρ pw base G h v h')
def SpecOkG (P : Program) (ρ : Nat → FuncId) (γ : Nat → Option Go.Obj) (f : Nat) (s : Nat → H → List AV → Option (AV × H)) : Prop :=
  ∀ args base h v h', s base h args = some (v, h') → ∀ G pw w vals, RVL ρ G args vals → Rel ρ pw base G h w → pw.gl = γ → ACalls P (ρ f) vals.toArray w (Back ρ pw base G h v h')
theorem SpecOk.g {γ : Nat → Option Go.Obj} {f : Nat} {s : Nat → H → List AV → Option (AV × H)} (q : SpecOk P ρ f s) : SpecOkG P ρ γ f s := fun args base h v h' hs G pw w vals ha r _ => q args base h v h' hs G pw w vals ha r
structure FnsOk (P : Program) (ρ : Nat → FuncId) (γ : Nat → Option Go.Obj) (fns : Fns) : Prop where
  mixed : P.follows .mixedOrders = true
  code : ∀ f fn, fns f = some (.code fn) → okFun P ρ f fn = true
  spec : ∀ f s, fns f = some (.spec s) → SpecOkG P ρ γ f s
theorem RVL.getD {as : List AV} {vs : List Value} (h : RVL ρ G as vs) (n : Nat) : RV ρ G (as.getD n .undef) (vs.getD n Go.undef) := by
  induction as generalizing vs n with
  | nil => cases h; simpa using .undef
  | cons a as ih => cases h with | cons _ v _ vs h1 h2 =>
    cases n with
    | zero => simpa using h1
    | succ n => simpa using ih h2 n
theorem RVL.length_eq {as : List AV} {vs : List Value} (h : RVL ρ G as vs) : as.length = vs.length := by
  induction as generalizing vs with
  | nil => cases h; rfl
  | cons a as ih => cases h with | cons _ v _ vs h1 h2 => simp [ih h2]
theorem RVL.undefs (n : Nat) : RVL ρ G (List.replicate n .undef) (List.replicate n Go.undef) := by
  induction n with
  | zero => exact .nil
  | succ n ih => exact .cons _ _ _ _ .undef ih
theorem RE.init {as : List AV} {vs : List Value} (h : RVL ρ G as vs) (n : Nat) :
    RE ρ G (as ++ List.replicate (n - as.length) .undef) (vs.toArray ++ Array.replicate (n - vs.toArray.size) Go.undef) := by
  have h2 := h.append (RVL.undefs (n - as.length))
  have e1 : (vs.toArray ++ Array.replicate (n - vs.toArray.size) Go.undef) = (vs ++ List.replicate (n - as.length) Go.undef).toArray := by
    apply Array.ext'; simp [h.length_eq]
  rw [e1]
  refine ⟨by rw [h2.length_eq]; simp, fun m => ?_⟩
  have := h2.getD m
  simpa [Array.getD_eq_getD_getElem?, List.getD_eq_getElem?_getD] using this
theorem callOK_of_sim {γ : Nat → Option Go.Obj} (ok : FnsOk P ρ γ fns) {n : Nat} (sim : Sim P ρ γ fns n) : CallOK P ρ γ (callF fns (exec fns n)) := by
  intro f args base h v h' hc G pw w vals ha r hγ
  unfold callF at hc
  split at hc
  · rename_i fn hf
    have hk := ok.code f fn hf
    unfold okFun at hk
    split at hk
    · rename_i g hg
      split at hk
      · rename_i c hb
        simp only [Bool.and_eq_true, bne_iff_ne, ne_eq, beq_iff_eq, decide_eq_true_eq] at hk
        obtain ⟨⟨⟨⟨hname, hnt⟩, hlen⟩, hres⟩, hcode⟩ := hk
        split at hc
        · rename_i x e1 h1 hex
          split at hc
          · rename_i hback
            rw [Option.map_eq_some_iff] at hc
            obtain ⟨v1, hr, heq⟩ := hc
            cases heq
            refine .inl ⟨?_, calls_of_wp hg hb ?_⟩
            · simp [callFunc, hg, hb, hname]
            · have he := RE.init ha g.ntmps
              rw [hnt] at he ⊢
              refine sim base pw fn.body c _ h x e1 h' G _ w _ hcode hex he r hγ fun G' act' w' xt he' r' hd => ?_
              obtain ⟨y, q1, q2⟩ := results_sim (P := P) r' he' hres hlen hr
              have fin : act'.defers = [] ∧ ∃ u, (results g act'.tmps).run P w' = .ok u w' ∧ Back ρ pw base G h v h' (.returned u) w' := ⟨hd, y, q1, G', y, xt, rfl, q2, r'⟩
              cases x with
              | normal => exact fin
              | ret => exact fin
              | exit i => cases hback
          · cases hc
        · cases hc
      · cases hk
    · cases hk
  · rename_i s hf
    exact ok.spec f s hf args base h v h' hc G pw w vals ha r hγ
  · cases hc
theorem sim_all {γ : Nat → Option Go.Obj} (ok : FnsOk P ρ γ fns) : ∀ n, Sim P ρ γ fns n := by
  intro n
  induction n using Nat.strongRecOn with
  | _ n ih =>
    intro base pw ac c e h x e' h' G act w Q hk hex he r hγ hQ
    subst hγ
    cases n with
    | zero => simp [exec] at hex
    | succ n =>
      have sim : Sim P ρ pw.gl fns n := ih n (Nat.lt_succ_self n)
      cases ac with
      | skip =>
        cases c <;> simp only [okCode, Bool.false_eq_true] at hk
        simp only [exec, Option.some.injEq, Prod.mk.injEq] at hex
        obtain ⟨rfl, rfl, rfl⟩ := hex
        exact wp_skip (hQ G act w (Ext.refl pw G (Nat.le_refl _)) he r rfl)
      | exit i =>
        cases c <;> simp only [okCode, Bool.false_eq_true, beq_iff_eq] at hk
        subst hk
        simp only [exec, Option.some.injEq, Prod.mk.injEq] at hex
        obtain ⟨rfl, rfl, rfl⟩ := hex
        exact wp_exit (hQ G act w (Ext.refl pw G (Nat.le_refl _)) he r rfl)
      | ret =>
        cases c <;> simp only [okCode, Bool.false_eq_true] at hk
        simp only [exec, Option.some.injEq, Prod.mk.injEq] at hex
        obtain ⟨rfl, rfl, rfl⟩ := hex
        exact wp_ret (hQ G act w (Ext.refl pw G (Nat.le_refl _)) he r rfl)
      | ghost g => cases c <;> simp [okCode] at hk
      | region l chk =>
        cases c <;> simp only [okCode, Bool.false_eq_true] at hk
        rename_i id ops draw
        simp only [exec] at hex
        split at hex
        · rename_i e1 h1 hro
          cases hex
          have cok := callOK_of_sim ok sim
          cases draw with
          | true =>
            simp only [cond_true, Bool.or_eq_true] at hk
            rcases hk with hk | hk
            · exact drawn_wp ok.mixed cok hk hro he r hQ
            · exact earlyAny_wp ok.mixed cok hk hro he r hQ
          | false =>
            simp only [cond_false, Bool.and_eq_true, beq_iff_eq] at hk
            refine wp_region ?_
            rw [← hk.1]
            exact ops_wp cok l e h G act w hk.2 hro he r hQ
        · cases hex
      | cond y a b =>
        cases c <;> simp only [okCode, Bool.false_eq_true, Bool.and_eq_true] at hk
        obtain ⟨h1, h2, h3⟩ := hk
        simp only [exec] at hex
        split at hex
        · rename_i t ht
          have hv := okO_sound h1 he
          rw [ht] at hv
          refine wp_cond hv.ofBool ?_
          cases t with
          | true => exact sim base pw a _ e h x e' h' G act w Q h2 hex he r rfl hQ
          | false => exact sim base pw b _ e h x e' h' G act w Q h3 hex he r rfl hQ
        · cases hex
      | block i a =>
        cases c <;> simp only [okCode, Bool.false_eq_true, Bool.and_eq_true, beq_iff_eq] at hk
        obtain ⟨rfl, hk⟩ := hk
        simp only [exec] at hex
        refine wp_block ?_
        split at hex
        · rename_i j e1 h1 hb
          refine sim base pw a _ e h _ _ _ G act w _ hk hb he r rfl fun G' act' w' xt he' r' hd => ?_
          show Exit.inBlock _ Q (.exit j) act' w'
          simp only [Exit.inBlock]
          split at hex
          · rename_i hj
            cases hex
            rw [if_pos hj]
            exact hQ G' act' w' xt he' r' hd
          · rename_i hj
            cases hex
            rw [if_neg hj]
            exact hQ G' act' w' xt he' r' hd
        · rename_i hno
          refine sim base pw a _ e h x e' h' G act w _ hk hex he r rfl fun G' act' w' xt he' r' hd => ?_
          cases x with
          | normal => exact hQ G' act' w' xt he' r' hd
          | ret => exact hQ G' act' w' xt he' r' hd
          | exit j => exact absurd hex (hno j e' h')
      | loop a =>
        cases c <;> simp only [okCode, Bool.false_eq_true] at hk
        rename_i cb
        refine wp_loop_fuel (fun m a1 w1 => m ≤ n + 1 ∧ ∃ e1 h1 G1, exec fns m base (.loop a) e1 h1 = some (x, e', h') ∧ Ext pw h h1 G G1 ∧ RE ρ G1 e1 a1.tmps ∧ Rel ρ pw base G1 h1 w1 ∧ a1.defers = act.defers)
          (n := n + 1) ⟨Nat.le_refl _, e, h, G, hex, Ext.refl pw G (Nat.le_refl _), he, r, rfl⟩ ?_
        rintro m a1 w1 ⟨hm, e1, h1, G1, hex1, xt1, he1, r1, hd1⟩
        cases m with
        | zero => simp [exec] at hex1
        | succ m =>
          simp only [exec] at hex1
          split at hex1
          · rename_i e2 h2 hb
            refine ih m (by omega) base pw a cb e1 h1 _ _ _ G1 a1 w1 _ hk hb he1 r1 rfl fun G' act' w' xt he' r' hd => ?_
            exact ⟨m, Nat.lt_succ_self m, by omega, e2, h2, G', hex1, xt1.trans xt, he', r', by rw [hd]; exact hd1⟩
          · rename_i hno
            refine ih m (by omega) base pw a cb e1 h1 x e' h' G1 a1 w1 _ hk hex1 he1 r1 rfl fun G' act' w' xt he' r' hd => ?_
            have hfin := hQ G' act' w' (xt1.trans xt) he' r' (by rw [hd]; exact hd1)
            cases x with
            | normal => exact absurd hex1 (hno e' h')
            | ret => exact hfin
            | exit j => exact hfin
      | seq a b =>
        simp only [exec] at hex
        rcases okCode_seq hk with ⟨g, rfl, hk'⟩ | ⟨g, rfl, hk'⟩ | ⟨c1, c2, rfl, hk1, hk2⟩
        · -- a ghost ahead
          split at hex
          · rename_i e1 h1 ha
            cases n with
            | zero => simp [exec] at ha
            | succ n =>
              simp only [exec] at ha
              split at ha
              · rename_i e2 h2 hg
                cases ha
                obtain ⟨G1, xt1, he1, r1⟩ := ghost_sim hg he r
                exact sim base pw b c e1 h1 x e' h' G1 act w Q hk' hex he1 r1 rfl fun G' act' w' xt he' r' hd => hQ G' act' w' (xt1.trans xt) he' r' hd
              · cases ha
          · rename_i hno
            cases n with
            | zero => simp [exec] at hex
            | succ n =>
              simp only [exec] at hex hno
              split at hex
              · rename_i e2 h2 hg
                rw [hg] at hno
                exact absurd rfl (hno e2 h2)
              · cases hex
        · -- a ghost behind
          split at hex
          · rename_i e1 h1 ha
            cases n with
            | zero => simp [exec] at ha
            | succ n =>
              refine sim base pw a c e h _ _ _ G act w Q hk' ha he r rfl fun G' act' w' xt he' r' hd => ?_
              simp only [exec] at hex
              split at hex
              · rename_i e2 h2 hg
                cases hex
                obtain ⟨G1, xt1, he1, r1⟩ := ghost_sim hg he' r'
                exact hQ G1 act' w' (xt.trans xt1) he1 r1 hd
              · cases hex
          · rename_i hno
            refine sim base pw a c e h x e' h' G act w Q hk' hex he r rfl fun G' act' w' xt he' r' hd => hQ G' act' w' xt he' r' hd
        · refine wp_seq ?_
          split at hex
          · rename_i e1 h1 ha
            refine sim base pw a c1 e h _ _ _ G act w _ hk1 ha he r rfl fun G' act' w' xt he' r' hd => ?_
            exact sim base pw b c2 e1 h1 x e' h' G' act' w' Q hk2 hex he' r' rfl fun G'' act'' w'' xt' he'' r'' hd' => hQ G'' act'' w'' (xt.trans xt') he'' r'' (by rw [hd', hd])
          · rename_i hno
            refine sim base pw a c1 e h x e' h' G act w _ hk1 hex he r rfl fun G' act' w' xt he' r' hd => ?_
            have hfin := hQ G' act' w' xt he' r' hd
            cases x with
            | normal => exact absurd hex (hno e' h')
            | ret => exact hfin
            | exit j => exact hfin
theorem acall_sim (ok : FnsOk P ρ pw.gl fns) {n f : Nat} {args : List AV} (hc : acall fns n f args base h = some (v, h')) {vals : List Value} (ha : RVL ρ G args vals) (r : Rel ρ pw base G h w) :
    ACalls P (ρ f) vals.toArray w (Back ρ pw base G h v h') :=
  callOK_of_sim ok (sim_all ok n) f args base h v h' hc G pw w vals ha r rfl
end
end Go.Am
