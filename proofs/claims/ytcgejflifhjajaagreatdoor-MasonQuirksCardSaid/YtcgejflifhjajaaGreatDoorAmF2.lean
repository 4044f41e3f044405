/- Parts of an abstract machine and its proofs: AmF2. -/
import Derived.Test.YtcgejflifhjajaaGreatDoorAmF1

set_option linter.unusedSimpArgs false
set_option linter.unusedVariables false
namespace Go.Fm
open Go.Am
open Go (IntKind BinOp UnOp)
mutual
def okX : X → Bool
  | .k v => cOkA v
  | .r _ => true
  | .m a => okX a
  | .box a => okX a
  | .al z => z.all cOk
  | .o1 _ a => okX a
  | .o2 o a b => okO2 o && (okX a && okX b)
  | .an a b => okX a && okX b
  | .or a b => okX a && okX b
  | .bld z _ l => z.all cOk && okXs l
  | .lit _ _ z _ _ l => z.all cOk && okXs l
  | .sl _ _ l => okXs l
  | .mkfn _ l => okXs l
  | .call _ _ l => okXs l
  | .callv _ f l => okX f && okXs l
def okXs : List X → Bool
  | [] => true
  | x :: l => okX x && okXs l
end
def X.isOp : X → Bool
  | .k _ | .r _ => false
  | _ => true
section
variable {S : Sg} {D : Nat → Bool} {n : Nat} {t : Te} {fns : Fns} {base : Nat} {C : Call}
theorem op1_step {call : CallSem} {e : Env} {h : H} (o : O1) (x : AO) : opSem call base e h (o.op x) = stepOp base e h (o.op x) := by cases o <;> rfl
theorem op2_step {call : CallSem} {e : Env} {h : H} (o : O2) (x y : AO) : opSem call base e h (o.op x y) = stepOp base e h (o.op x y) := by cases o <;> rfl
theorem XRun.op {s : Tn} {gu : Gu} {q : AO × Tn} {e : Env} {h : H} {v : FV} {fh : FH} {K : KV} {z : FV × FH} {op : AOp} (hx : XRun S fns D n base s q e h v fh)
    (ho : ∀ e1 h1, q.1.ev e1 = g S v → HR S fh h1 → ∃ w fh' h', K w fh' = some z ∧ From (fun m => opSem (MC fns m) base e1 h1 op = some (g S w, h')) ∧ HR S fh' h') :
    ∃ w fh', K w fh' = some z ∧ XLast S fns D n base s gu (q.2.add gu op) e h w fh' := by
  obtain ⟨x1, x2, l, e1, h1, x3, x4, x5, x6, x7, x8⟩ := hx
  obtain ⟨w, fh', h', k1, k2, k3⟩ := ho e1 h1 x7 x8
  exact ⟨w, fh', k1, q.2, op, l, e1, h1, h', rfl, x3, x1, x4, x5, x6, k2, k3⟩
def XsRun (S : Sg) (fns : Fns) (D : Nat → Bool) (n base : Nat) (s : Tn) (q : List AO × Tn) (e : Env) (h : H) (vs : List FV) (fh' : FH) : Prop :=
  s.t ≤ q.2.t ∧
  ∃ (l : List (Nat × AOper)) (e1 : Env) (h' : H), q.2.ops = s.ops ++ l ∧ From (fun m => runL (MC fns m) base l e h = some (e1, h')) ∧ e1.length = n ∧
    (∀ k, ¬ (s.t ≤ k ∧ k < q.2.t) → e1[k]? = e[k]?) ∧ q.1.map (·.ev e1) = gL S vs ∧ HR S fh' h'
theorem XsRun.op {s : Tn} {gu : Gu} {q : List AO × Tn} {e : Env} {h : H} {v : List FV} {fh : FH} {K : KV} {z : FV × FH} {op : AOp} (hx : XsRun S fns D n base s q e h v fh)
    (ho : ∀ e1 h1, q.1.map (·.ev e1) = gL S v → HR S fh h1 → ∃ w fh' h', K w fh' = some z ∧ From (fun m => opSem (MC fns m) base e1 h1 op = some (g S w, h')) ∧ HR S fh' h') :
    ∃ w fh', K w fh' = some z ∧ XLast S fns D n base s gu (q.2.add gu op) e h w fh' := by
  obtain ⟨x1, l, e1, h1, x3, x4, x5, x6, x7, x8⟩ := hx
  obtain ⟨w, fh', h', k1, k2, k3⟩ := ho e1 h1 x7 x8
  exact ⟨w, fh', k1, q.2, op, l, e1, h1, h', rfl, x3, x1, x4, x5, x6, k2, k3⟩
theorem objF_ok {z : List AV} (ok : z.all cOk = true) : objOf z = gO S (objF z) := by
  by_cases hp : plainZ z = true
  · have : objF z = .arr (lenL z) [mapL fvC z] := by
      unfold objF
      split
      · cases hp
      · rfl
    rw [objOf_plain hp, this]
    simp only [gO, gR, lenL_eq, mapL_eq, gL_fvC ok]
  · unfold plainZ at hp
    split at hp
    · simp [objOf, objF, gO, g, gR]
    · exact absurd rfl hp
theorem fillK_ok {cs0 : List FV} {z : FV × FH} {e : Env} : ∀ {ps : List (Nat × Nat)} {cs : List FV} {vs : List FV} {K : List FV → R} {as : List AO}, fillK cs0 ps cs vs K = some z → as.map (·.ev e) = gL S vs →
    ∃ cs', K cs' = some z ∧ fillCells e (gL S cs) (zip3 ps as) = some (gL S cs')
  | [], cs, vs, K, as, hk, ha => ⟨cs, hk, by cases as <;> rfl⟩
  | (off, sz) :: ps, cs, vs, K, as, hk, ha => by
    cases vs with
    | nil => cases hk
    | cons v vs =>
      cases as with
      | nil => simp [gL] at ha
      | cons a as =>
        simp only [List.map_cons, gL, List.cons.injEq] at ha
        have hk : cellsK v (fun c => cond (cond (Nat.beq (lenL c) sz) (Nat.ble (Nat.add off sz) (lenL cs)) false) (fillK cs0 ps (putCells cs off c) vs K) none) = some z := hk
        obtain ⟨c, hk, h2, h3⟩ := cellsK_ok (S := S) hk
        obtain ⟨q, hk⟩ := condN hk
        obtain ⟨q1, q2⟩ := andB q
        rw [beq_iff, lenL_eq] at q1
        rw [ble_iff, lenL_eq, natAdd] at q2
        obtain ⟨cs', k1, k2⟩ := fillK_ok (e := e) (as := as) hk ha.2
        refine ⟨cs', k1, ?_⟩
        simp only [zip3, fillCells, ha.1]
        rw [if_pos ⟨h2, by rw [h3, gL_len]; exact q1, by rw [gL_len]; exact q2⟩, h3, ← putCells_eq]
        exact k2
theorem rowsFill_ok {k : Nat} {z : FV × FH} {e : Env} : ∀ {is : List Nat} {rs : List (List FV)} {vs : List FV} {K : List (List FV) → R} {as : List AO}, rowsFill k is rs vs K = some z → as.map (·.ev e) = gL S vs →
    ∃ rs', K rs' = some z ∧ fillRows e k (gR S rs) (is.zip as) = some (gR S rs')
  | [], rs, vs, K, as, hk, ha => ⟨rs, hk, by simp [fillRows]⟩
  | i :: is, rs, vs, K, as, hk, ha => by
    cases vs with
    | nil => cases hk
    | cons v vs =>
      cases as with
      | nil => simp [gL] at ha
      | cons a as =>
        simp only [List.map_cons, gL, List.cons.injEq] at ha
        have hk : cellsK v (fun c => cond (cond (Nat.beq (lenL c) k) (Nat.ble (Nat.succ i) (lenL rs)) false) (rowsFill k is (setN rs i c) vs K) none) = some z := hk
        obtain ⟨c, hk, h2, h3⟩ := cellsK_ok (S := S) hk
        obtain ⟨q, hk⟩ := condN hk
        obtain ⟨q1, q2⟩ := andB q
        rw [beq_iff, lenL_eq] at q1
        rw [ble_iff, lenL_eq] at q2
        obtain ⟨rs', k1, k2⟩ := rowsFill_ok (e := e) (as := as) hk ha.2
        refine ⟨rs', k1, ?_⟩
        simp only [List.zip_cons_cons, fillRows, ha.1]
        rw [if_pos ⟨h2, by rw [gR_len]; omega, by rw [h3, gL_len]; exact q1⟩, h3]
        rw [setN_eq] at k2
        rw [← k2]
        congr 1
        rw [gR_eq, gR_eq, List.map_set]
mutual
theorem evX_ok (co : CallsOK S fns C) : ∀ (x : X), okX x = true → ∀ {fh : FH} {K : KV} {z : FV × FH}, evX C base t x fh K = some z → ∀ (s : Tn) (gu : Gu) (e : Env) (h : H), ER S D n t e → HR S fh h → wanted e gu = some true → GuLt gu s.t →
    TF D n s.t ((trX gu x s).2.t - 1) → (trX gu x s).2.t ≤ n → ∃ v fh', K v fh' = some z ∧ XRun S fns D n base s (trX gu x s) e h v fh' ∧ (x.isOp = true → XLast S fns D n base s gu (trX gu x s) e h v fh')
  | .k v, ok, fh, K, z, hk, s, gu, e, h, er, r, hw, hg, tf, hn => by
    simp only [okX] at ok
    exact ⟨_, _, hk, ⟨Nat.le_refl _, (fun k q => by cases q), [], e, h, by simp [trX], .of fun m => rfl, er.len, fun k _ => rfl, (g_fv ok).symm, r⟩, fun q => by cases q⟩
  | .r k, ok, fh, K, z, hk, s, gu, e, h, er, r, hw, hg, tf, hn => by
    obtain ⟨v, h1, hk⟩ := slotK_ok (show slotK t k (fun v => K v fh) = some z from hk)
    obtain ⟨d1, d2⟩ := er.dom k v h1
    exact ⟨_, _, hk, ⟨Nat.le_refl _, (fun k' q => by cases q; exact .inl d1), [], e, h, by simp [trX], .of fun m => rfl, er.len, fun k _ => rfl, ev_s d2, r⟩, fun q => by cases q⟩
  | .m a, ok, fh, K, z, hk, s, gu, e, h, er, r, hw, hg, tf, hn => by
    simp only [okX] at ok
    simp only [trX] at tf hn ⊢
    obtain ⟨v, fh1, hk, hr, -⟩ := evX_ok co a ok (show evX C base t a fh K = some z from hk) s gu e h er r hw hg (fun k u w => (show TF D n s.t (trX gu a s).2.t from tf) k u (Nat.lt_of_lt_of_le w (Nat.sub_le _ _))) (Nat.le_of_succ_le hn)
    obtain ⟨w, fh2, hk, hl⟩ := hr.op (gu := gu) (K := K) (z := z) (op := .mov (trX gu a s).1) fun e1 h1 q1 q2 => ⟨v, fh1, h1, hk, .of fun m => by simp only [opSem, stepOp, q1], q2⟩
    exact ⟨w, fh2, hk, hl.run hw hg hn, fun _ => hl⟩
  | .box a, ok, fh, K, z, hk, s, gu, e, h, er, r, hw, hg, tf, hn => by
    simp only [okX] at ok
    simp only [trX] at tf hn ⊢
    obtain ⟨v, fh1, hk, hr, -⟩ := evX_ok co a ok (show evX C base t a fh (fun v h => cellsK v fun cs => cond (Nat.ble 1 (lenL cs)) (K (.ptr h.next 0 0) (h.new (.arr (lenL cs) [cs]))) none) = some z from hk) s gu e h er r hw hg (fun k u w => (show TF D n s.t (trX gu a s).2.t from tf) k u (Nat.lt_of_lt_of_le w (Nat.sub_le _ _))) (Nat.le_of_succ_le hn)
    obtain ⟨cs, hk, b1, b2⟩ := cellsK_ok (S := S) hk
    obtain ⟨b3, hk⟩ := condN hk
    rw [ble_iff, lenL_eq] at b3
    obtain ⟨w, fh2, hk, hl⟩ := hr.op (gu := gu) (K := K) (z := z) (op := .box (trX gu a s).1) fun e1 h1 q1 q2 => ⟨_, _, h1.new (.arr (gL S cs).length [gL S cs]), hk, .of fun m => by
      simp only [opSem, stepOp, q1, b1, b2, true_and]
      rw [if_pos (by rw [gL_len]; exact b3)]
      simp only [g, q2.nx], q2.new (by simp only [gO, gR, lenL_eq, gL_len])⟩
    exact ⟨w, fh2, hk, hl.run hw hg hn, fun _ => hl⟩
  | .al zz, ok, fh, K, z, hk, s, gu, e, h, er, r, hw, hg, tf, hn => by
    simp only [okX] at ok
    have hk : K (.ptr fh.next 0 0) (fh.new (objF zz)) = some z := hk
    have hl : XLast S fns D n base s gu (s.add gu (.alloc zz)) e h (.ptr fh.next 0 0) (fh.new (objF zz)) :=
      ⟨s, .alloc zz, [], e, h, h.new (objOf zz), rfl, by simp, Nat.le_refl _, .of fun m => rfl, er.len, fun k _ => rfl, .of fun m => by simp only [opSem, stepOp, g, r.nx], r.new (objF_ok ok)⟩
    exact ⟨_, _, hk, hl.run hw hg hn, fun _ => hl⟩
  | .o1 o a, ok, fh, K, z, hk, s, gu, e, h, er, r, hw, hg, tf, hn => by
    simp only [okX] at ok
    simp only [trX] at tf hn ⊢
    obtain ⟨v, fh1, hk, hr, -⟩ := evX_ok co a ok (show evX C base t a fh (fun v h => run1 base h K v o) = some z from hk) s gu e h er r hw hg (fun k u w => (show TF D n s.t (trX gu a s).2.t from tf) k u (Nat.lt_of_lt_of_le w (Nat.sub_le _ _))) (Nat.le_of_succ_le hn)
    obtain ⟨w, fh2, hk, hl⟩ := hr.op (gu := gu) (K := K) (z := z) (op := o.op (trX gu a s).1) fun e1 h1 q1 q2 => by
      obtain ⟨w, fh', h', k1, k2, k3⟩ := run1_ok q2 hk _ e1 q1
      exact ⟨w, fh', h', k1, .of fun m => by rw [op1_step]; exact k2, k3⟩
    exact ⟨w, fh2, hk, hl.run hw hg hn, fun _ => hl⟩
  | .o2 o a b, ok, fh, K, z, hk, s, gu, e, h, er, r, hw, hg, tf, hn => by
    simp only [okX, Bool.and_eq_true] at ok
    simp only [trX] at tf hn ⊢
    have m0 := trX_le gu a s
    have m1 := trX_le gu b (trX gu a s).2
    have tf' : TF D n s.t (trX gu b (trX gu a s).2).2.t := tf
    have hn' : (trX gu b (trX gu a s).2).2.t + 1 ≤ n := hn
    obtain ⟨v, fh1, hk, hr, -⟩ := evX_ok co a ok.2.1 (show evX C base t a fh (fun v h => evX C base t b h fun w h => run2 base h K v w o) = some z from hk) s gu e h er r hw hg (fun k u w => tf' k u (by omega)) (by omega)
    obtain ⟨x1, x2, l, e1, h1, x3, x4, x5, x6, x7, x8⟩ := hr
    have er1 := er.out (fun k u w => tf' k u (by omega)) x5 x6
    obtain ⟨w, fh2, hk, hr2, -⟩ := evX_ok co b ok.2.2 hk (trX gu a s).2 gu e1 h1 er1 x8 (by rw [← hw]; exact wanted_out hg x6) (fun k w q => Nat.lt_of_lt_of_le (hg k w q) m0) (fun k u w => tf' k (by omega) (by omega)) (by omega)
    obtain ⟨y1, y2, m, e2, h2, y3, y4, y5, y6, y7, y8⟩ := hr2
    have y9 : (trX gu a s).1.ev e2 = g S v := by rw [ev_out x2 (Nat.le_refl _) (fun k u v => tf' k (by omega) v) y6]; exact x7
    obtain ⟨u, fh', h', k1, k2, k3⟩ := run2_ok y8 ok.1 hk _ _ e2 y9 y7
    have hl : XLast S fns D n base s gu ((trX gu b (trX gu a s).2).2.add gu (o.op (trX gu a s).1 (trX gu b (trX gu a s).2).1)) e h u fh' :=
      ⟨_, _, l ++ m, e2, h2, h', rfl, by rw [y3, x3, List.append_assoc], by omega, (x4.and y4).mono fun m ⟨q1, q2⟩ => by rw [runL_append, q1]; exact q2, y5,
        fun k hk => by rw [y6 k fun ⟨u, v⟩ => hk ⟨by omega, v⟩, x6 k fun ⟨u, v⟩ => hk ⟨u, by omega⟩], .of fun m => by rw [op2_step]; exact k2, k3⟩
    exact ⟨u, fh', k1, hl.run hw hg hn, fun _ => hl⟩
  | .an a b, ok, fh, K, z, hk, s, gu, e, h, er, r, hw, hg, tf, hn => by
    simp only [okX, Bool.and_eq_true] at ok
    simp only [trX] at tf hn ⊢
    have m0 := trX_le gu a s
    have m1 := trX_le (some ((trX gu a s).2.t, true)) b ((trX gu a s).2.add gu (.mov (trX gu a s).1)).2
    have m2 : (trX gu a s).2.t + 1 ≤ (trX (some ((trX gu a s).2.t, true)) b ((trX gu a s).2.add gu (.mov (trX gu a s).1)).2).2.t := m1
    have tf' : TF D n s.t (trX (some ((trX gu a s).2.t, true)) b ((trX gu a s).2.add gu (.mov (trX gu a s).1)).2).2.t := tf
    have hn' : (trX (some ((trX gu a s).2.t, true)) b ((trX gu a s).2.add gu (.mov (trX gu a s).1)).2).2.t + 1 ≤ n := hn
    obtain ⟨v, fh1, hk, hr, -⟩ := evX_ok co a ok.1 (show evX C base t a fh (fun v h => boolKF v (evX C base t b h K) (K (.bool false) h)) = some z from hk) s gu e h er r hw hg (fun k u w => tf' k u (by omega)) (by omega)
    obtain ⟨x1, x2, l, e1, h1, x3, x4, x5, x6, x7, x8⟩ := hr
    obtain ⟨bb, rfl, hk⟩ := boolKF_ok hk
    have hlt : (trX gu a s).2.t < n := by omega
    have ww : wanted e1 gu = some true := by rw [← hw]; exact wanted_out hg x6
    have u1 : (e1.set (trX gu a s).2.t (.bool bb))[(trX gu a s).2.t]? = some (.bool bb) := List.getElem?_set_self (by rw [x5]; exact hlt)
    have u2 : ∀ k, ¬ (s.t ≤ k ∧ k < (trX gu a s).2.t + 1) → (e1.set (trX gu a s).2.t (.bool bb))[k]? = e[k]? := fun k hk => by
      rw [List.getElem?_set_ne (fun q => hk ⟨by omega, by omega⟩)]
      exact x6 k fun ⟨u, v⟩ => hk ⟨u, by omega⟩
    have u3 : (e1.set (trX gu a s).2.t (.bool bb)).length = n := by rw [List.length_set]; exact x5
    have mv : From (fun m => runL (MC fns m) base (l ++ [((trX gu a s).2.i, ⟨some (trX gu a s).2.t, .mov (trX gu a s).1, gu⟩)]) e h = some (e1.set (trX gu a s).2.t (.bool bb), h1)) := x4.mono fun m q1 => by
      rw [runL_append, q1]
      simp only [Option.bind_some, runL]
      rw [runOp_true (o := ⟨some (trX gu a s).2.t, .mov (trX gu a s).1, gu⟩) (v := .bool bb) (h' := h1) ww (by simp only [opSem, stepOp, x7, g])]
      rfl
    cases bb with
    | true =>
      have hk : evX C base t b fh1 K = some z := hk
      obtain ⟨w, fh2, hk, hr2, -⟩ := evX_ok co b ok.2 hk ((trX gu a s).2.add gu (.mov (trX gu a s).1)).2 (some ((trX gu a s).2.t, true)) _ h1 (er.out (fun k u w => tf' k u (by omega)) u3 u2) x8
        (by simp only [wanted, List.getD_eq_getElem?_getD, u1, Option.getD_some]; rfl) (fun k w q => by cases q; exact Nat.lt_succ_self _) (fun k u w => tf' k (by simp only [Tn.add] at u; omega) (by omega)) (by omega)
      obtain ⟨y1, y2, m, e2, h2, y3, y4, y5, y6, y7, y8⟩ := hr2
      have c1 : (AO.s (trX gu a s).2.t).ev e2 = .bool true := ev_s (by rw [y6 _ (by simp only [Tn.add]; omega)]; exact u1)
      have hl : XLast S fns D n base s gu ((trX (some ((trX gu a s).2.t, true)) b ((trX gu a s).2.add gu (.mov (trX gu a s).1)).2).2.add gu (.pick (.s (trX gu a s).2.t) (trX (some ((trX gu a s).2.t, true)) b ((trX gu a s).2.add gu (.mov (trX gu a s).1)).2).1 (.c (.bool false)))) e h w fh2 :=
        ⟨_, _, (l ++ [((trX gu a s).2.i, ⟨some (trX gu a s).2.t, .mov (trX gu a s).1, gu⟩)]) ++ m, e2, h2, h2, rfl, by rw [y3]; simp only [Tn.add, x3, List.append_assoc], by omega, (mv.and y4).mono fun m ⟨q1, q2⟩ => by rw [runL_append, q1]; exact q2, y5,
          fun k hk => by rw [y6 k fun ⟨u, v⟩ => hk ⟨by simp only [Tn.add] at u; omega, v⟩, u2 k fun ⟨u, v⟩ => hk ⟨u, by omega⟩], .of fun m => by simp only [opSem, stepOp, c1, cond_true, cond_false, y7], y8⟩
      exact ⟨w, fh2, hk, hl.run hw hg hn, fun _ => hl⟩
    | false =>
      have hk : K (.bool false) fh1 = some z := hk
      obtain ⟨y1, m, e2, y3, y4, y5, y6⟩ := skipX (fns := fns) (base := base) (h := h1) b ((trX gu a s).2.add gu (.mov (trX gu a s).1)).2 (some ((trX gu a s).2.t, true)) _ u3
        (by simp only [wanted, List.getD_eq_getElem?_getD, u1, Option.getD_some]; rfl) (fun k w q => by cases q; exact Nat.lt_succ_self _) (by omega)
      have c1 : (AO.s (trX gu a s).2.t).ev e2 = .bool false := ev_s (by rw [y6 _ (by simp only [Tn.add]; omega)]; exact u1)
      have hl : XLast S fns D n base s gu ((trX (some ((trX gu a s).2.t, true)) b ((trX gu a s).2.add gu (.mov (trX gu a s).1)).2).2.add gu (.pick (.s (trX gu a s).2.t) (trX (some ((trX gu a s).2.t, true)) b ((trX gu a s).2.add gu (.mov (trX gu a s).1)).2).1 (.c (.bool false)))) e h (.bool false) fh1 :=
        ⟨_, _, (l ++ [((trX gu a s).2.i, ⟨some (trX gu a s).2.t, .mov (trX gu a s).1, gu⟩)]) ++ m, e2, h1, h1, rfl, by rw [y3]; simp only [Tn.add, x3, List.append_assoc], by omega, mv.mono fun m q1 => by rw [runL_append, q1]; exact y4 _, y5,
          fun k hk => by rw [y6 k fun ⟨u, v⟩ => hk ⟨by simp only [Tn.add] at u; omega, v⟩, u2 k fun ⟨u, v⟩ => hk ⟨u, by omega⟩], .of fun m => by simp only [opSem, stepOp, c1, cond_true, cond_false, show ∀ b, (AO.c (AV.bool b)).ev e2 = .bool b from fun _ => rfl, g], x8⟩
      exact ⟨_, fh1, hk, hl.run hw hg hn, fun _ => hl⟩
  | .or a b, ok, fh, K, z, hk, s, gu, e, h, er, r, hw, hg, tf, hn => by
    simp only [okX, Bool.and_eq_true] at ok
    simp only [trX] at tf hn ⊢
    have m0 := trX_le gu a s
    have m1 := trX_le (some ((trX gu a s).2.t, false)) b ((trX gu a s).2.add gu (.mov (trX gu a s).1)).2
    have m2 : (trX gu a s).2.t + 1 ≤ (trX (some ((trX gu a s).2.t, false)) b ((trX gu a s).2.add gu (.mov (trX gu a s).1)).2).2.t := m1
    have tf' : TF D n s.t (trX (some ((trX gu a s).2.t, false)) b ((trX gu a s).2.add gu (.mov (trX gu a s).1)).2).2.t := tf
    have hn' : (trX (some ((trX gu a s).2.t, false)) b ((trX gu a s).2.add gu (.mov (trX gu a s).1)).2).2.t + 1 ≤ n := hn
    obtain ⟨v, fh1, hk, hr, -⟩ := evX_ok co a ok.1 (show evX C base t a fh (fun v h => boolKF v (K (.bool true) h) (evX C base t b h K)) = some z from hk) s gu e h er r hw hg (fun k u w => tf' k u (by omega)) (by omega)
    obtain ⟨x1, x2, l, e1, h1, x3, x4, x5, x6, x7, x8⟩ := hr
    obtain ⟨bb, rfl, hk⟩ := boolKF_ok hk
    have hlt : (trX gu a s).2.t < n := by omega
    have ww : wanted e1 gu = some true := by rw [← hw]; exact wanted_out hg x6
    have u1 : (e1.set (trX gu a s).2.t (.bool bb))[(trX gu a s).2.t]? = some (.bool bb) := List.getElem?_set_self (by rw [x5]; exact hlt)
    have u2 : ∀ k, ¬ (s.t ≤ k ∧ k < (trX gu a s).2.t + 1) → (e1.set (trX gu a s).2.t (.bool bb))[k]? = e[k]? := fun k hk => by
      rw [List.getElem?_set_ne (fun q => hk ⟨by omega, by omega⟩)]
      exact x6 k fun ⟨u, v⟩ => hk ⟨u, by omega⟩
    have u3 : (e1.set (trX gu a s).2.t (.bool bb)).length = n := by rw [List.length_set]; exact x5
    have mv : From (fun m => runL (MC fns m) base (l ++ [((trX gu a s).2.i, ⟨some (trX gu a s).2.t, .mov (trX gu a s).1, gu⟩)]) e h = some (e1.set (trX gu a s).2.t (.bool bb), h1)) := x4.mono fun m q1 => by
      rw [runL_append, q1]
      simp only [Option.bind_some, runL]
      rw [runOp_true (o := ⟨some (trX gu a s).2.t, .mov (trX gu a s).1, gu⟩) (v := .bool bb) (h' := h1) ww (by simp only [opSem, stepOp, x7, g])]
      rfl
    cases bb with
    | false =>
      have hk : evX C base t b fh1 K = some z := hk
      obtain ⟨w, fh2, hk, hr2, -⟩ := evX_ok co b ok.2 hk ((trX gu a s).2.add gu (.mov (trX gu a s).1)).2 (some ((trX gu a s).2.t, false)) _ h1 (er.out (fun k u w => tf' k u (by omega)) u3 u2) x8
        (by simp only [wanted, List.getD_eq_getElem?_getD, u1, Option.getD_some]; rfl) (fun k w q => by cases q; exact Nat.lt_succ_self _) (fun k u w => tf' k (by simp only [Tn.add] at u; omega) (by omega)) (by omega)
      obtain ⟨y1, y2, m, e2, h2, y3, y4, y5, y6, y7, y8⟩ := hr2
      have c1 : (AO.s (trX gu a s).2.t).ev e2 = .bool false := ev_s (by rw [y6 _ (by simp only [Tn.add]; omega)]; exact u1)
      have hl : XLast S fns D n base s gu ((trX (some ((trX gu a s).2.t, false)) b ((trX gu a s).2.add gu (.mov (trX gu a s).1)).2).2.add gu (.pick (.s (trX gu a s).2.t) (.c (.bool true)) (trX (some ((trX gu a s).2.t, false)) b ((trX gu a s).2.add gu (.mov (trX gu a s).1)).2).1)) e h w fh2 :=
        ⟨_, _, (l ++ [((trX gu a s).2.i, ⟨some (trX gu a s).2.t, .mov (trX gu a s).1, gu⟩)]) ++ m, e2, h2, h2, rfl, by rw [y3]; simp only [Tn.add, x3, List.append_assoc], by omega, (mv.and y4).mono fun m ⟨q1, q2⟩ => by rw [runL_append, q1]; exact q2, y5,
          fun k hk => by rw [y6 k fun ⟨u, v⟩ => hk ⟨by simp only [Tn.add] at u; omega, v⟩, u2 k fun ⟨u, v⟩ => hk ⟨u, by omega⟩], .of fun m => by simp only [opSem, stepOp, c1, cond_true, cond_false, y7], y8⟩
      exact ⟨w, fh2, hk, hl.run hw hg hn, fun _ => hl⟩
    | true =>
      have hk : K (.bool true) fh1 = some z := hk
      obtain ⟨y1, m, e2, y3, y4, y5, y6⟩ := skipX (fns := fns) (base := base) (h := h1) b ((trX gu a s).2.add gu (.mov (trX gu a s).1)).2 (some ((trX gu a s).2.t, false)) _ u3
        (by simp only [wanted, List.getD_eq_getElem?_getD, u1, Option.getD_some]; rfl) (fun k w q => by cases q; exact Nat.lt_succ_self _) (by omega)
      have c1 : (AO.s (trX gu a s).2.t).ev e2 = .bool true := ev_s (by rw [y6 _ (by simp only [Tn.add]; omega)]; exact u1)
      have hl : XLast S fns D n base s gu ((trX (some ((trX gu a s).2.t, false)) b ((trX gu a s).2.add gu (.mov (trX gu a s).1)).2).2.add gu (.pick (.s (trX gu a s).2.t) (.c (.bool true)) (trX (some ((trX gu a s).2.t, false)) b ((trX gu a s).2.add gu (.mov (trX gu a s).1)).2).1)) e h (.bool true) fh1 :=
        ⟨_, _, (l ++ [((trX gu a s).2.i, ⟨some (trX gu a s).2.t, .mov (trX gu a s).1, gu⟩)]) ++ m, e2, h1, h1, rfl, by rw [y3]; simp only [Tn.add, x3, List.append_assoc], by omega, mv.mono fun m q1 => by rw [runL_append, q1]; exact y4 _, y5,
          fun k hk => by rw [y6 k fun ⟨u, v⟩ => hk ⟨by simp only [Tn.add] at u; omega, v⟩, u2 k fun ⟨u, v⟩ => hk ⟨u, by omega⟩], .of fun m => by simp only [opSem, stepOp, c1, cond_true, cond_false, show ∀ b, (AO.c (AV.bool b)).ev e2 = .bool b from fun _ => rfl, g], x8⟩
      exact ⟨_, fh1, hk, hl.run hw hg hn, fun _ => hl⟩
  | .bld zz ps l, ok, fh, K, z, hk, s, gu, e, h, er, r, hw, hg, tf, hn => by
    simp only [okX, Bool.and_eq_true] at ok
    simp only [trX] at tf hn ⊢
    obtain ⟨vs, fh1, hk, hr⟩ := evXs_ok co l ok.2 (show evXs C base t l fh (fun vs h => fillK (mapL fvC zz) ps (mapL fvC zz) vs fun cs => K (.agg cs) h) = some z from hk) s gu e h er r hw hg (show TF D n s.t (trXs gu l s).2.t from tf) (Nat.le_of_succ_le hn)
    obtain ⟨w, fh2, hk, hl⟩ := hr.op (gu := gu) (K := K) (z := z) (op := .build zz (zip3 ps (trXs gu l s).1)) fun e1 h1 q1 q2 => by
      obtain ⟨cs, k1, k2⟩ := fillK_ok (e := e1) hk q1
      rw [mapL_eq, gL_fvC ok.1] at k2
      exact ⟨_, _, h1, k1, .of fun m => by simp only [opSem, stepOp, k2, Option.map_some, g], q2⟩
    exact ⟨w, fh2, hk, hl.run hw hg hn, fun _ => hl⟩
  | .lit b1 k zz nn is l, ok, fh, K, z, hk, s, gu, e, h, er, r, hw, hg, tf, hn => by
    simp only [okX, Bool.and_eq_true] at ok
    simp only [trX] at tf hn ⊢
    obtain ⟨vs, fh1, hk, hr⟩ := evXs_ok co l ok.2 (show evXs C base t l fh (fun vs h => rowsFill k is (repL nn (mapL fvC zz)) vs fun rows => cond b1 (K (.ref h.next k 0 nn) (h.new (.arr k rows))) (K (.vs true rows) h)) = some z from hk) s gu e h er r hw hg (show TF D n s.t (trXs gu l s).2.t from tf) (Nat.le_of_succ_le hn)
    obtain ⟨w, fh2, hk, hl⟩ := hr.op (gu := gu) (K := K) (z := z) (op := .lit b1 k zz nn (is.zip (trXs gu l s).1)) fun e1 h1 q1 q2 => by
      obtain ⟨rows, k1, k2⟩ := rowsFill_ok (e := e1) hk q1
      rw [repL_eq, mapL_eq, gR_eq, List.map_replicate, gL_fvC ok.1] at k2
      rcases condK k1 with ⟨rfl, k1⟩ | ⟨rfl, k1⟩
      · exact ⟨_, _, h1.new (.arr k (gR S rows)), k1, .of fun m => by simp only [opSem, stepOp, k2, if_true, g, q2.nx], q2.new rfl⟩
      · exact ⟨_, _, h1, k1, .of fun m => by simp only [opSem, stepOp, k2, Bool.false_eq_true, if_false, g], q2⟩
    exact ⟨w, fh2, hk, hl.run hw hg hn, fun _ => hl⟩
  | .sl k mm l, ok, fh, K, z, hk, s, gu, e, h, er, r, hw, hg, tf, hn => by
    simp only [okX] at ok
    simp only [trX] at tf hn ⊢
    obtain ⟨vs, fh1, hk, hr⟩ := evXs_ok co l ok (show evXs C base t l fh (fun vs h => oSlice h K k mm vs) = some z from hk) s gu e h er r hw hg (show TF D n s.t (trXs gu l s).2.t from tf) (Nat.le_of_succ_le hn)
    obtain ⟨w, fh2, hk, hl⟩ := hr.op (gu := gu) (K := K) (z := z) (op := slOp k mm (trXs gu l s).1) fun e1 h1 q1 q2 => by
      obtain ⟨w, k1, k2⟩ := oSlice_ok (S := S) (base := base) (h := h1) hk _ e1 q1
      refine ⟨w, _, h1, k1, .of fun m => ?_, q2⟩
      rw [← k2]
      unfold slOp
      split
      · split <;> rfl
      · rfl
    exact ⟨w, fh2, hk, hl.run hw hg hn, fun _ => hl⟩
  | .mkfn f l, ok, fh, K, z, hk, s, gu, e, h, er, r, hw, hg, tf, hn => by
    simp only [okX] at ok
    simp only [trX] at tf hn ⊢
    obtain ⟨vs, fh1, hk, hr⟩ := evXs_ok co l ok (show evXs C base t l fh (fun vs h => cond (allL okc vs) (K (.fn f vs) h) none) = some z from hk) s gu e h er r hw hg (show TF D n s.t (trXs gu l s).2.t from tf) (Nat.le_of_succ_le hn)
    obtain ⟨b1, hk⟩ := condN hk
    obtain ⟨w, fh2, hk, hl⟩ := hr.op (gu := gu) (K := K) (z := z) (op := .mkfn f (trXs gu l s).1) fun e1 h1 q1 q2 => by
      refine ⟨_, _, h1, hk, .of fun m => ?_, q2⟩
      rw [allL_eq, List.all_eq_true] at b1
      simp only [opSem, stepOp, q1, g]
      rw [if_pos]
      rw [gL_eq, List.all_map, List.all_eq_true]
      intro v hv
      obtain ⟨p1, p2, -⟩ := okc_g (S := S) (b1 v hv)
      simp only [Function.comp_apply, p1, p2, Bool.not_false, Bool.and_self]
    exact ⟨w, fh2, hk, hl.run hw hg hn, fun _ => hl⟩
  | .call k f l, ok, fh, K, z, hk, s, gu, e, h, er, r, hw, hg, tf, hn => by
    simp only [okX] at ok
    simp only [trX] at tf hn ⊢
    obtain ⟨vs, fh1, hk, hr⟩ := evXs_ok co l ok (show evXs C base t l fh (fun vs h => C base h K k f vs) = some z from hk) s gu e h er r hw hg (show TF D n s.t (trXs gu l s).2.t from tf) (Nat.le_of_succ_le hn)
    obtain ⟨w, fh2, hk, hl⟩ := hr.op (gu := gu) (K := K) (z := z) (op := .call k f (trXs gu l s).1 []) fun e1 h1 q1 q2 => by
      obtain ⟨v, fh', h', k1, k2, k3⟩ := co _ _ _ _ _ _ _ h1 hk q2
      exact ⟨v, fh', h', k1, k3.mono fun m q => by simp only [opSem, q1]; exact q, k2⟩
    exact ⟨w, fh2, hk, hl.run hw hg hn, fun _ => hl⟩
  | .callv k f l, ok, fh, K, z, hk, s, gu, e, h, er, r, hw, hg, tf, hn => by
    simp only [okX, Bool.and_eq_true] at ok
    simp only [trX] at tf hn ⊢
    have m0 := trX_le gu f s
    have m1 := trXs_le gu l (trX gu f s).2
    have tf' : TF D n s.t (trXs gu l (trX gu f s).2).2.t := tf
    have hn' : (trXs gu l (trX gu f s).2).2.t + 1 ≤ n := hn
    obtain ⟨v, fh1, hk, hr, -⟩ := evX_ok co f ok.1 (show evX C base t f fh (fun g h => match g with
      | .fn g caps => evXs C base t l h fun vs h => C base h K k g (app vs caps)
      | _ => none) = some z from hk) s gu e h er r hw hg (fun k u w => tf' k u (by omega)) (by omega)
    obtain ⟨x1, x2, l1, e1, h1, x3, x4, x5, x6, x7, x8⟩ := hr
    split at hk
    · rename_i gf caps
      have er1 := er.out (fun k u w => tf' k u (by omega)) x5 x6
      obtain ⟨vs, fh2, hk, y1, m, e2, h2, y3, y4, y5, y6, y7, y8⟩ := evXs_ok co l ok.2 hk (trX gu f s).2 gu e1 h1 er1 x8 (by rw [← hw]; exact wanted_out hg x6) (fun k w q => Nat.lt_of_lt_of_le (hg k w q) m0) (fun k u w => tf' k (by omega) w) (by omega)
      have y9 : (trX gu f s).1.ev e2 = .fn gf (gL S caps) := by
        rw [ev_out x2 (Nat.le_refl _) (fun k u v => tf' k (by omega) v) y6, x7]; simp only [g]
      obtain ⟨v, fh', h', k1, k2, k3⟩ := co _ _ _ _ _ _ _ h2 hk y8
      have hl : XLast S fns D n base s gu ((trXs gu l (trX gu f s).2).2.add gu (.callv k (trX gu f s).1 (trXs gu l (trX gu f s).2).1)) e h v fh' :=
        ⟨_, _, l1 ++ m, e2, h2, h', rfl, by rw [y3, x3, List.append_assoc], by omega, (x4.and y4).mono fun m ⟨q1, q2⟩ => by rw [runL_append, q1]; exact q2, y5,
          fun k hk => by rw [y6 k fun ⟨u, v⟩ => hk ⟨by omega, v⟩, x6 k fun ⟨u, v⟩ => hk ⟨u, by omega⟩], k3.mono fun m q => by
            rw [app_eq, gL_app] at q
            simp only [opSem, y9, y7]; exact q, k2⟩
      exact ⟨v, fh', k1, hl.run hw hg hn, fun _ => hl⟩
    · cases hk
theorem evXs_ok (co : CallsOK S fns C) : ∀ (l : List X), okXs l = true → ∀ {fh : FH} {K : KL} {z : FV × FH}, evXs C base t l fh K = some z → ∀ (s : Tn) (gu : Gu) (e : Env) (h : H), ER S D n t e → HR S fh h → wanted e gu = some true → GuLt gu s.t →
    TF D n s.t (trXs gu l s).2.t → (trXs gu l s).2.t ≤ n → ∃ vs fh', K vs fh' = some z ∧ XsRun S fns D n base s (trXs gu l s) e h vs fh'
  | [], ok, fh, K, z, hk, s, gu, e, h, er, r, hw, hg, tf, hn => ⟨[], fh, hk, Nat.le_refl _, [], e, h, by simp [trXs], .of fun m => rfl, er.len, fun k _ => rfl, rfl, r⟩
  | x :: l, ok, fh, K, z, hk, s, gu, e, h, er, r, hw, hg, tf, hn => by
    simp only [okXs, Bool.and_eq_true] at ok
    simp only [trXs] at tf hn ⊢
    have m0 := trX_le gu x s
    have m1 := trXs_le gu l (trX gu x s).2
    obtain ⟨v, fh1, hk, hr, -⟩ := evX_ok co x ok.1 (show evX C base t x fh (fun v h => evXs C base t l h fun vs h => K (v :: vs) h) = some z from hk) s gu e h er r hw hg (fun k u w => tf k u (by omega)) (by omega)
    obtain ⟨x1, x2, l1, e1, h1, x3, x4, x5, x6, x7, x8⟩ := hr
    have er1 := er.out (fun k u w => tf k u (by omega)) x5 x6
    obtain ⟨vs, fh2, hk, y1, m, e2, h2, y3, y4, y5, y6, y7, y8⟩ := evXs_ok co l ok.2 hk (trX gu x s).2 gu e1 h1 er1 x8 (by rw [← hw]; exact wanted_out hg x6) (fun k w q => Nat.lt_of_lt_of_le (hg k w q) m0) (fun k u w => tf k (by omega) w) hn
    refine ⟨v :: vs, fh2, hk, Nat.le_trans m0 m1, l1 ++ m, e2, h2, by rw [y3, x3, List.append_assoc], (x4.and y4).mono fun m ⟨q1, q2⟩ => by rw [runL_append, q1]; exact q2, y5,
        fun k hk => by rw [y6 k fun ⟨u, v⟩ => hk ⟨by omega, v⟩, x6 k fun ⟨u, v⟩ => hk ⟨u, Nat.lt_of_lt_of_le v m1⟩], ?_, y8⟩
    simp only [List.map_cons, gL, y7]
    rw [ev_out x2 (Nat.le_refl _) (fun k u v => tf k (by omega) v) y6, x7]
end
end
end Go.Fm
namespace Go.Fm
open Go.Am
open Go (IntKind BinOp UnOp)
def tfB (D : Nat → Bool) (n a b : Nat) : Bool := (List.range' a (b - a)).all fun k => !D k && Nat.blt k n
theorem tfB_ok {D : Nat → Bool} {n a b : Nat} (h : tfB D n a b = true) : TF D n a b := by
  unfold tfB at h
  rw [List.all_eq_true] at h
  intro k h1 h2
  have := h k (by rw [List.mem_range']; exact ⟨k - a, by omega, by omega⟩)
  simp only [Bool.and_eq_true, Bool.not_eq_true', Nat.blt_eq] at this
  exact this
def okS (D : Nat → Bool) (n : Nat) (s : Tn) : ST → Bool
  | .as d x => okX x && (tfB D n s.t (trX none x s).2.t && (Nat.ble (trX none x s).2.t n && (D d && Nat.blt d n)))
  | .kp d x => okX x && (x.isOp && (tfB D n s.t ((trX none x s).2.t - 1) && (Nat.ble (trX none x s).2.t n && (D d && Nat.blt d n))))
  | .ev d x => okX x && (x.isOp && (tfB D n s.t (trX none x s).2.t && (Nat.ble (trX none x s).2.t n && d.beq ((trX none x s).2.t - 1))))
  | .st _ a v => okX a && (okX v && (tfB D n s.t (trX none v (trX none a s).2).2.t && Nat.ble (trX none v (trX none a s).2).2.t n))
def okSs (D : Nat → Bool) (n : Nat) : Tn → List ST → Bool
  | _, [] => true
  | s, x :: l => okS D n s x && okSs D n (trS x s) l
theorem setLast_app (d : Nat) (i : Nat) (o : AOper) : ∀ l : List (Nat × AOper), setLast d (l ++ [(i, o)]) = l ++ [(i, ⟨some d, o.op, o.guard⟩)]
  | [] => rfl
  | [p] => rfl
  | p :: q :: l => by
    have := setLast_app d i o (q :: l)
    simp only [List.cons_append] at this ⊢
    show p :: setLast d (q :: (l ++ [(i, o)])) = _
    rw [this]
section
variable {S : Sg} {D : Nat → Bool} {n : Nat} {t : Te} {fns : Fns} {base : Nat} {C : Call}
theorem get_set (t : Te) (d k : Nat) (v : FV) : (set t d v).get k = if k = d then some v else t.get k := Tb.get_set _ _ _ _
theorem ER.set {e : Env} (er : ER S D n t e) {d : Nat} {v : FV} (hd : D d = true) (hn : d < n) : ER S D n (set t d v) (e.set d (g S v)) := by
  refine ⟨by rw [List.length_set]; exact er.len, fun k w hk => ?_⟩
  rw [get_set] at hk
  by_cases q : k = d
  · subst q
    rw [if_pos rfl] at hk
    cases hk
    exact ⟨hd, List.getElem?_set_self (by rw [er.len]; exact hn)⟩
  · rw [if_neg q] at hk
    obtain ⟨h1, h2⟩ := er.dom k w hk
    exact ⟨h1, by rw [List.getElem?_set_ne (fun e => q e.symm)]; exact h2⟩
theorem evS_ok (co : CallsOK S fns C) {st : ST} {fh : FH} {K : KE} {z : FV × FH} (hk : evS C base st t fh K = some z) {s : Tn} (ok : okS D n s st = true) {e : Env} {h : H} (er : ER S D n t e) (r : HR S fh h) :
    ∃ t' fh' l e' h', K t' fh' = some z ∧ (trS st s).ops = s.ops ++ l ∧ From (fun m => runL (MC fns m) base l e h = some (e', h')) ∧ ER S D n t' e' ∧ HR S fh' h' := by
  have hg : ∀ a, GuLt none a := fun a k w q => by cases q
  cases st with
  | as d x =>
    simp only [okS, Bool.and_eq_true] at ok
    obtain ⟨o1, o2, o3, o4, o5⟩ := ok
    have tf := tfB_ok o2
    rw [ble_iff] at o3
    rw [Nat.blt_eq] at o5
    obtain ⟨v, fh', hk, hr, -⟩ := evX_ok co x o1 (show evX C base t x fh (fun v h => K (set t d v) h) = some z from hk) s none e h er r rfl (hg _) (fun k u w => tf k u (by omega)) o3
    obtain ⟨x1, x2, l, e1, h1, x3, x4, x5, x6, x7, x8⟩ := hr
    refine ⟨_, fh', l ++ [((trX none x s).2.i, ⟨some d, .mov (trX none x s).1, none⟩)], e1.set d (g S v), h1, hk, ?_, x4.mono fun m q => ?_, (er.out tf x5 x6).set o4 o5, x8⟩
    · simp only [trS, x3, List.append_assoc]
    · rw [runL_append, q]
      simp only [Option.bind_some, runL]
      rw [runOp_true (o := ⟨some d, .mov (trX none x s).1, none⟩) (v := g S v) (h' := h1) rfl (by simp only [opSem, stepOp, x7])]
      rfl
  | kp d x =>
    simp only [okS, Bool.and_eq_true] at ok
    obtain ⟨o1, o6, o2, o3, o4, o5⟩ := ok
    have tf := tfB_ok o2
    rw [ble_iff] at o3
    rw [Nat.blt_eq] at o5
    obtain ⟨v, fh', hk, -, hr⟩ := evX_ok co x o1 (show evX C base t x fh (fun v h => K (set t d v) h) = some z from hk) s none e h er r rfl (hg _) tf o3
    obtain ⟨s1, op, l, e1, h1, h', hq, x3, x1, x4, x5, x6, x7, x8⟩ := hr o6
    have hq2 : (trX none x s).2 = (s1.add none op).2 := by rw [hq]
    have tf1 : TF D n s.t s1.t := by
      have : (trX none x s).2.t - 1 = s1.t := by rw [hq2]; rfl
      rw [this] at tf; exact tf
    refine ⟨_, fh', l ++ [(s1.i, ⟨some d, op, none⟩)], e1.set d (g S v), h', hk, ?_, (x4.and x7).mono fun m ⟨q1, q2⟩ => ?_, (er.out tf1 x5 x6).set o4 o5, x8⟩
    · show setLast d (trX none x s).2.ops = _
      rw [hq2]
      simp only [Tn.add, setLast_app]
      rw [x3, List.append_assoc]
    · rw [runL_append, q1]
      simp only [Option.bind_some, runL]
      rw [runOp_true (o := ⟨some d, op, none⟩) rfl q2]
      rfl
  | ev d x =>
    simp only [okS, Bool.and_eq_true] at ok
    obtain ⟨o1, o6, o2, o3, o4⟩ := ok
    have tf := tfB_ok o2
    rw [ble_iff] at o3
    rw [beq_iff] at o4
    obtain ⟨v, fh', hk, hr0, hr⟩ := evX_ok co x o1 (show evX C base t x fh (fun _ h => K t h) = some z from hk) s none e h er r rfl (hg _) (fun k u w => tf k u (by omega)) o3
    obtain ⟨s1, op, l', e1', h1', h'', hq, y3, y1, y4, y5, y6, y7, y8⟩ := hr o6
    obtain ⟨x1, x2, l, e1, h1, x3, x4, x5, x6, x7, x8⟩ := hr0
    have hq2 : (trX none x s).2 = (s1.add none op).2 := by rw [hq]
    refine ⟨_, fh', l, e1, h1, hk, ?_, x4, er.out tf x5 x6, x8⟩
    rw [← x3]
    have : d = s1.t := by rw [o4, hq2]; rfl
    show setLast d (trX none x s).2.ops = _
    rw [hq2]
    simp only [Tn.add, setLast_app, this]
  | st sz a v =>
    simp only [okS, Bool.and_eq_true] at ok
    obtain ⟨o1, o2, o3, o4⟩ := ok
    have tf := tfB_ok o3
    rw [ble_iff] at o4
    have m0 := trX_le none a s
    have m1 := trX_le none v (trX none a s).2
    obtain ⟨va, fh1, hk, hr, -⟩ := evX_ok co a o1 (show evX C base t a fh (fun p h => evX C base t v h fun v h => oStore base h (fun h => K t h) sz p v) = some z from hk) s none e h er r rfl (hg _) (fun k u w => tf k u (by omega)) (by omega)
    obtain ⟨x1, x2, l, e1, h1, x3, x4, x5, x6, x7, x8⟩ := hr
    have er1 := er.out (fun k u w => tf k u (by omega)) x5 x6
    obtain ⟨vv, fh2, hk, hr2, -⟩ := evX_ok co v o2 hk (trX none a s).2 none e1 h1 er1 x8 rfl (hg _) (fun k u w => tf k (by omega) (by omega)) o4
    obtain ⟨y1, y2, m, e2, h2, y3, y4, y5, y6, y7, y8⟩ := hr2
    have y9 : (trX none a s).1.ev e2 = g S va := by rw [ev_out x2 (Nat.le_refl _) (fun k u v => tf k (by omega) v) y6]; exact x7
    obtain ⟨fh3, h3, hk, k2, k3⟩ := oStore_ok y8 hk
    refine ⟨t, fh3, l ++ m ++ [((trX none v (trX none a s).2).2.i, ⟨none, .store sz (trX none a s).1 (trX none v (trX none a s).2).1, none⟩)], e2, h3, hk, ?_, (x4.and y4).mono fun m ⟨q1, q2⟩ => ?_, er1.out (fun k u v => tf k (by omega) v) y5 y6, k3⟩
    · simp only [trS, y3, x3, List.append_assoc]
    · rw [runL_append, runL_append, q1, Option.bind_some, q2]
      simp only [Option.bind_some, runL]
      rw [runOp_true (o := ⟨none, .store sz (trX none a s).1 (trX none v (trX none a s).2).1, none⟩) (v := .undef) (h' := h3) rfl (by simp only [opSem, stepOp, y9, y7, k2, Option.map_some])]
      rfl
theorem evSs_ok (co : CallsOK S fns C) : ∀ {l : List ST} {t : Te} {fh : FH} {K : KE} {z : FV × FH}, evSs C base l t fh K = some z → ∀ {s : Tn}, okSs D n s l = true → ∀ {e : Env} {h : H}, ER S D n t e → HR S fh h →
    ∃ t' fh' m e' h', K t' fh' = some z ∧ (trSs l s).ops = s.ops ++ m ∧ From (fun k => runL (MC fns k) base m e h = some (e', h')) ∧ ER S D n t' e' ∧ HR S fh' h'
  | [], t, fh, K, z, hk, s, ok, e, h, er, r => ⟨t, fh, [], e, h, hk, by simp [trSs], .of fun m => rfl, er, r⟩
  | x :: l, t, fh, K, z, hk, s, ok, e, h, er, r => by
    simp only [okSs, Bool.and_eq_true] at ok
    have hk : evS C base x t fh (fun e h => evSs C base l e h K) = some z := hk
    obtain ⟨t1, fh1, l1, e1, h1, hk, a1, a2, a3, a4⟩ := evS_ok co hk ok.1 er r
    obtain ⟨t2, fh2, l2, e2, h2, hk, b1, b2, b3, b4⟩ := evSs_ok co hk ok.2 a3 a4
    refine ⟨t2, fh2, l1 ++ l2, e2, h2, hk, ?_, (a2.and b2).mono fun m ⟨q1, q2⟩ => ?_, b3, b4⟩
    · simp only [trSs, b1, a1, List.append_assoc]
    · rw [runL_append, q1]; exact q2
end
end Go.Fm
namespace Go.Fm
open Go.Am
open Go (IntKind BinOp UnOp)
def leafB : AO → Bool
  | .s _ => true
  | .c v => cOkA v
theorem leafX (a : AO) : okX (opX.x a) = leafB a := by cases a <;> rfl
theorem trLeaf (gu : Gu) (a : AO) (s : Tn) : trX gu (opX.x a) s = (a, s) := by cases a <;> simp [opX.x, trX]
theorem trLeaves (gu : Gu) : ∀ (l : List AO) (s : Tn), trXs gu (l.map opX.x) s = (l, s)
  | [], s => by simp [trXs]
  | a :: l, s => by simp only [List.map_cons, trXs, trLeaf, trLeaves gu l s]
theorem leavesX : ∀ l : List AO, l.all leafB = true → okXs (l.map opX.x) = true
  | [], _ => rfl
  | a :: l, h => by
    simp only [List.all_cons, Bool.and_eq_true] at h
    simp only [List.map_cons, okXs, leafX, h.1, leavesX l h.2, Bool.and_self]
theorem zip3_maps : ∀ l : List (Nat × Nat × AO), zip3 (l.map fun p => (p.1, p.2.1)) (l.map fun p => p.2.2) = l
  | [] => rfl
  | p :: l => by simp only [List.map_cons, zip3, zip3_maps l]
theorem zip_maps {α β : Type} : ∀ l : List (α × β), (l.map (·.1)).zip (l.map (·.2)) = l
  | [] => rfl
  | p :: l => by simp only [List.map_cons, List.zip_cons_cons, zip_maps l]
def plainB : AOp → Bool
  | .mov a => leafB a
  | .alloc z => z.all cOk
  | .box a => leafB a
  | .build z ps => z.all cOk && ps.all fun p => leafB p.2.2
  | .lit _ _ z _ ps => z.all cOk && ps.all fun p => leafB p.2
  | .load _ _ a => leafB a
  | .nilchk a => leafB a
  | .bin _ a b => leafB a && leafB b
  | .eqk _ _ a b => leafB a && leafB b
  | .eqc _ _ a b => leafB a && leafB b
  | .un _ a => leafB a
  | .conv _ a => leafB a
  | .mkfn _ l => l.all leafB
  | .mk _ _ z a b => okO2 (.mk false 0 z) && (leafB a && leafB b)
  | .faddr a _ => leafB a
  | .field a _ _ _ => leafB a
  | .iaddr a i _ _ => leafB a && leafB i
  | .index a i _ => leafB a && leafB i
  | .range a => leafB a
  | .next a => leafB a
  | .extract a _ => leafB a
  | .call _ _ l [] => l.all leafB
  | .callv _ f l => leafB f && l.all leafB
  | .append _ _ lim a b => Nat.beq lim 1000000 && (leafB a && leafB b)
  | .len _ a => leafB a
  | .min2 a b => leafB a && leafB b
  | .max2 a b => leafB a && leafB b
  | _ => false
def isMov : AOp → Bool
  | .mov _ => true
  | _ => false
theorem map_snd_x (ps : List (Nat × AO)) : (ps.map fun p => opX.x p.2) = (ps.map (·.2)).map opX.x := by rw [List.map_map]; rfl
theorem map_thd_x (ps : List (Nat × Nat × AO)) : (ps.map fun p => opX.x p.2.2) = (ps.map fun p => p.2.2).map opX.x := by rw [List.map_map]; rfl
theorem plain_tr {op : AOp} (h : plainB op = true) (hm : isMov op = false) (s : Tn) : trX none (opX op) s = s.add none op := by
  cases op <;> first | (cases hm; done) | (cases h; done) | skip
  case build z ps => simp only [opX, trX, map_thd_x, trLeaves, zip3_maps]
  case lit r k z n ps => simp only [opX, trX, map_snd_x, trLeaves, zip_maps]
  case mkfn f l => simp only [opX, trX, trLeaves]
  case call k f l sn =>
    cases sn with
    | nil => simp only [opX, trX, trLeaves]
    | cons a b => cases h
  case callv k f l => simp only [opX, trX, trLeaf, trLeaves]
  case append r k lim a b =>
    simp only [plainB, Bool.and_eq_true, beq_iff] at h
    rw [h.1]
    simp only [opX, trX, trLeaf, O2.op]
  case index a i x =>
    cases x with
    | none => simp only [opX, trX, trLeaf, O2.op]
    | some p => obtain ⟨p1, p2, p3⟩ := p; simp only [opX, trX, trLeaf, O2.op]
  all_goals first
    | (simp only [opX, trX, trLeaf, O1.op, O2.op]; done)
    | (simp only [opX, trX, trLeaf]; rfl)
theorem plain_ok {op : AOp} (h : plainB op = true) : okX (opX op) = true := by
  cases op <;> first | (cases h; done) | skip
  case mov a => cases a <;> exact h
  case build z ps =>
    simp only [plainB, Bool.and_eq_true] at h
    simp only [opX, okX, map_thd_x, Bool.and_eq_true]
    exact ⟨h.1, leavesX _ (by rw [List.all_map]; exact h.2)⟩
  case lit r k z n ps =>
    simp only [plainB, Bool.and_eq_true] at h
    simp only [opX, okX, map_snd_x, Bool.and_eq_true]
    exact ⟨h.1, leavesX _ (by rw [List.all_map]; exact h.2)⟩
  case mkfn f l => exact leavesX _ h
  case call k f l sn =>
    cases sn with
    | nil => exact leavesX _ h
    | cons a b => cases h
  case callv k f l =>
    simp only [plainB, Bool.and_eq_true] at h
    simp only [opX, okX, Bool.and_eq_true, leafX]
    exact ⟨h.1, leavesX _ h.2⟩
  case append r k lim a b =>
    simp only [plainB, Bool.and_eq_true] at h
    simp only [opX, okX, leafX, h.2.1, h.2.2, okO2, Bool.and_self]
  case mk r k z a b =>
    simp only [plainB, Bool.and_eq_true] at h
    simp only [opX, okX, leafX, h.2.1, h.2.2, Bool.and_true]
    exact h.1
  case index a i x =>
    simp only [plainB, Bool.and_eq_true] at h
    cases x with
    | none => simp only [opX, okX, leafX, h.1, h.2, okO2, Bool.and_self]
    | some p => obtain ⟨p1, p2, p3⟩ := p; simp only [opX, okX, leafX, h.1, h.2, okO2, Bool.and_self]
  all_goals first
    | exact h
    | (simp only [opX, okX, leafX]; exact h)
    | (simp only [plainB, Bool.and_eq_true] at h; simp only [opX, okX, leafX, h.1, h.2, okO2, Bool.and_self])
theorem plain_isOp {op : AOp} (h : plainB op = true) (hm : isMov op = false) : (opX op).isOp = true := by
  cases op <;> first | rfl | (cases hm; done) | (cases h; done) | skip
  case index a i x => cases x <;> rfl
section
variable {S : Sg} {D : Nat → Bool} {n : Nat} {t : Te} {fns : Fns} {base : Nat} {C : Call}
theorem evA_ok {a : AO} {K : FV → R} {z : FV × FH} (hl : leafB a = true) {e : Env} (er : ER S D n t e) (hk : evA t a K = some z) : ∃ v, K v = some z ∧ a.ev e = g S v := by
  cases a with
  | s k =>
    obtain ⟨v, h1, hk⟩ := slotK_ok hk
    exact ⟨v, hk, ev_s (er.dom k v h1).2⟩
  | c v => exact ⟨fv v, hk, (g_fv hl).symm⟩
theorem evAs_ok {e : Env} (er : ER S D n t e) {z : FV × FH} : ∀ {l : List AO} {K : List FV → R}, l.all leafB = true → evAs t l K = some z → ∃ vs, K vs = some z ∧ l.map (·.ev e) = gL S vs
  | [], K, hl, hk => ⟨[], hk, rfl⟩
  | a :: l, K, hl, hk => by
    simp only [List.all_cons, Bool.and_eq_true] at hl
    obtain ⟨v, hk, h1⟩ := evA_ok hl.1 er (show evA t a (fun v => evAs t l fun vs => K (v :: vs)) = some z from hk)
    obtain ⟨vs, hk, h2⟩ := evAs_ok er hl.2 hk
    exact ⟨v :: vs, hk, by simp only [List.map_cons, h1, h2, gL]⟩
theorem plainOp_ok (co : CallsOK S fns C) {op : AOp} (ok : plainB op = true) (hn : 0 < n) {fh : FH} {K : KV} {z : FV × FH} (hk : evX C base t (opX op) fh K = some z) {e : Env} {h : H} (er : ER S D n t e) (r : HR S fh h) :
    ∃ v fh' h', K v fh' = some z ∧ From (fun m => opSem (MC fns m) base e h op = some (g S v, h')) ∧ HR S fh' h' := by
  cases hm : isMov op with
  | true =>
    cases op <;> first | (cases hm; done) | skip
    case mov a =>
      cases a with
      | s k =>
        obtain ⟨v, h1, hk⟩ := slotK_ok (show slotK t k (fun v => K v fh) = some z from hk)
        exact ⟨v, fh, h, hk, .of fun m => by simp only [opSem, stepOp, ev_s (er.dom k v h1).2], r⟩
      | c v => exact ⟨fv v, fh, h, hk, .of fun m => by simp only [opSem, stepOp, AO.ev, g_fv (S := S) (show cOkA v = true from ok)], r⟩
  | false =>
    have q := plain_tr ok hm ⟨[], 0, 0⟩
    have hg : GuLt none 0 := fun k w q => by cases q
    obtain ⟨v, fh', hk, -, hr⟩ := evX_ok co (opX op) (plain_ok ok) hk ⟨[], 0, 0⟩ none e h er r rfl hg (by rw [q]; exact fun k _ u => absurd u (Nat.not_lt_zero _)) (by rw [q]; exact hn)
    obtain ⟨s1, op', l, e1, h1, h', hq, x3, x1, x4, x5, x6, x7, x8⟩ := hr (plain_isOp ok hm)
    rw [q] at hq
    simp only [Tn.add, Prod.mk.injEq, Tn.mk.injEq, List.nil_append] at hq
    obtain ⟨a1, a2, a3, a4⟩ := hq
    have hl : l = [] ∧ op' = op := by
      have x3 : s1.ops = l := by rw [x3]; rfl
      rw [x3] at a2
      cases l with
      | nil => simp at a2; exact ⟨rfl, a2.2.2.symm⟩
      | cons p l =>
        exfalso
        have := congrArg List.length a2
        simp at this
    obtain ⟨rfl, rfl⟩ := hl
    obtain ⟨N, hN⟩ := x4
    have := hN N (Nat.le_refl _)
    simp only [runL, Option.some.injEq, Prod.mk.injEq] at this
    obtain ⟨rfl, rfl⟩ := this
    exact ⟨v, fh', h', ‹K v fh' = some z›, x7, x8⟩
def specB (d : Option Nat) : AOp → Bool
  | .store _ a v => leafB a && (leafB v && d.isNone)
  | .slice a _ lo hi mx => leafB a && (lo.toList ++ hi.toList ++ mx.toList).all leafB
  | .pick c a b => leafB c && (leafB a && leafB b)
  | _ => false
def dstB (D : Nat → Bool) (n : Nat) : Option Nat → Bool
  | none => true
  | some d => D d && Nat.blt d n
theorem ER.setO {e : Env} (er : ER S D n t e) {d : Option Nat} (hd : dstB D n d = true) (v : FV) : ER S D n (setO t d v) (putDst e d (g S v)) := by
  cases d with
  | none => exact er
  | some d =>
    simp only [dstB, Bool.and_eq_true, Nat.blt_eq] at hd
    exact er.set hd.1 hd.2
theorem rawOp_ok (co : CallsOK S fns C) {op : AOp} {d : Option Nat} (ok : (plainB op || specB d op) = true) (hd : dstB D n d = true) (hn : 0 < n) {fh : FH} {K : KE} {z : FV × FH} (hk : rawOp C base t fh d K op = some z) {e : Env} {h : H} (er : ER S D n t e) (r : HR S fh h) :
    ∃ t' fh' v h', K t' fh' = some z ∧ From (fun m => opSem (MC fns m) base e h op = some (v, h')) ∧ ER S D n t' (putDst e d v) ∧ HR S fh' h' := by
  rw [Bool.or_eq_true] at ok
  rcases ok with ok | ok
  · have hk : evX C base t (opX op) fh (fun v h => K (setO t d v) h) = some z := by
      cases op <;> first | exact hk | (cases ok; done)
    obtain ⟨v, fh', h', hk, h1, h2⟩ := plainOp_ok co ok hn hk er r
    exact ⟨_, fh', g S v, h', hk, h1, er.setO hd v, h2⟩
  · cases op <;> first | (cases ok; done) | skip
    case store sz a v =>
      simp only [specB, Bool.and_eq_true] at ok
      obtain ⟨o1, o2, o3⟩ := ok
      cases d with
      | some d => cases o3
      | none =>
        obtain ⟨va, hk, h1⟩ := evA_ok o1 er (show evA t a (fun a => evA t v fun v => oStore base fh (fun h => K t h) sz a v) = some z from hk)
        obtain ⟨vv, hk, h2⟩ := evA_ok o2 er hk
        obtain ⟨fh3, h3, hk, k2, k3⟩ := oStore_ok r hk
        exact ⟨t, fh3, .undef, h3, hk, .of fun m => by simp only [opSem, stepOp, h1, h2, k2, Option.map_some], er, k3⟩
    case slice a k lo hi mx =>
      simp only [specB, Bool.and_eq_true] at ok
      have go : ∀ (M : Nat) (l : List AO), l.all leafB = true → slOp k M (a :: l) = .slice a k lo hi mx → evA t a (fun a => evAs t l fun vs => oSlice fh (fun v h => K (setO t d v) h) k M (a :: vs)) = some z →
          ∃ t' fh' v h', K t' fh' = some z ∧ From (fun m => opSem (MC fns m) base e h (.slice a k lo hi mx) = some (v, h')) ∧ ER S D n t' (putDst e d v) ∧ HR S fh' h' := by
        intro M l hl hs hk
        obtain ⟨va, hk, h1⟩ := evA_ok ok.1 er hk
        obtain ⟨vs, hk, h2⟩ := evAs_ok er hl hk
        obtain ⟨w, hk, h4⟩ := oSlice_ok (S := S) (base := base) (h := h) hk (a :: l) e (by simp only [List.map_cons, h1, h2, gL])
        rw [hs] at h4
        exact ⟨_, fh, g S w, h, hk, .of fun m => h4, er.setO hd w, r⟩
      cases lo <;> cases hi <;> cases mx <;> exact go _ _ ok.2 rfl hk
    case pick c a b =>
      simp only [specB, Bool.and_eq_true] at ok
      obtain ⟨vc, hk, h1⟩ := evA_ok ok.1 er (show evA t c (fun c => boolKF c (evA t a fun v => K (setO t d v) fh) (evA t b fun v => K (setO t d v) fh)) = some z from hk)
      obtain ⟨q, rfl, hk⟩ := boolKF_ok hk
      cases q with
      | true =>
        obtain ⟨v, hk, h2⟩ := evA_ok ok.2.1 er hk
        exact ⟨_, fh, g S v, h, hk, .of fun m => by simp only [opSem, stepOp, h1, h2, g, cond_true], er.setO hd v, r⟩
      | false =>
        obtain ⟨v, hk, h2⟩ := evA_ok ok.2.2 er hk
        exact ⟨_, fh, g S v, h, hk, .of fun m => by simp only [opSem, stepOp, h1, h2, g, cond_false], er.setO hd v, r⟩
end
end Go.Fm
namespace Go.Fm
open Go.Am
open Go (IntKind BinOp UnOp)
theorem beq_beq (a b : Nat) : a.beq b = true ↔ a = b := beq_iff
section
variable (S : Sg)
mutual
theorem same_ok : ∀ {a b : FV}, same a b = true → AV.beq (g S a) (g S b) = true
  | .int k (.lit x), b, h => by
    cases b <;> try (simp only [same] at h; cases h; done)
    case int k' y => cases y <;> first | (simp only [same] at h; exact h) | (simp [same] at h)
  | .int k (.sym x), b, h => by
    cases b <;> try (simp only [same] at h; cases h; done)
    case int k' y =>
      cases y with
      | lit y => simp [same] at h
      | num y => simp [same] at h
      | sym y =>
        simp only [same, Bool.and_eq_true, beq_beq, decide_eq_true_eq] at h
        obtain ⟨rfl, rfl⟩ := h
        simp [g, AV.beq]
  | .int k (.num x), b, h => by cases b <;> simp [same] at h
  | .bool x, b, h => by cases b <;> first | (simp only [same] at h; exact h) | (simp [same] at h)
  | .str x, b, h => by
    cases b <;> try (simp only [same] at h; cases h; done)
    case str y =>
      simp only [same] at h
      simp only [g, AV.beq, beq_iff_eq]
      exact sameB_ok h
  | .nilp, b, h => by cases b <;> first | rfl | (simp [same] at h)
  | .nilfn, b, h => by cases b <;> first | rfl | (simp [same] at h)
  | .undef, b, h => by cases b <;> first | rfl | (simp [same] at h)
  | .ptr x y z, b, h => by
    cases b <;> try (simp only [same] at h; cases h; done)
    case ptr x' y' z' =>
      simp only [same, Bool.and_eq_true, beq_beq] at h
      obtain ⟨rfl, rfl, rfl⟩ := h
      simp [g, AV.beq]
  | .ref x y z u, b, h => by
    cases b <;> try (simp only [same] at h; cases h; done)
    case ref x' y' z' u' =>
      simp only [same, Bool.and_eq_true, beq_beq] at h
      obtain ⟨rfl, rfl, rfl, rfl⟩ := h
      simp [g, AV.beq]
  | .rptr x, b, h => by
    cases b <;> try (simp only [same] at h; cases h; done)
    case rptr y => simp only [same] at h; exact sameL_ok h
  | .vs f x, b, h => by
    cases b <;> try (simp only [same] at h; cases h; done)
    case vs f' y =>
      simp only [same, Bool.and_eq_true] at h
      simp only [g, AV.beq, Bool.and_eq_true]
      exact ⟨h.1, sameR_ok h.2⟩
  | .fn f x, b, h => by
    cases b <;> try (simp only [same] at h; cases h; done)
    case fn f' y =>
      simp only [same, Bool.and_eq_true] at h
      simp only [g, AV.beq, Bool.and_eq_true]
      exact ⟨h.1, sameL_ok h.2⟩
  | .agg x, b, h => by
    cases b <;> try (simp only [same] at h; cases h; done)
    case agg y => simp only [same] at h; exact sameL_ok h
  | .tup x, b, h => by
    cases b <;> try (simp only [same] at h; cases h; done)
    case tup y => simp only [same] at h; exact sameL_ok h
  | .any, b, h => by simp [same] at h
  | .opq j, b, h => by simp [same] at h
theorem sameL_ok : ∀ {a b : List FV}, sameL a b = true → AV.beqL (gL S a) (gL S b) = true
  | [], [], _ => rfl
  | [], _ :: _, h => by simp [sameL] at h
  | _ :: _, [], h => by simp [sameL] at h
  | a :: x, b :: y, h => by
    simp only [sameL, Bool.and_eq_true] at h
    simp only [gL, AV.beqL, Bool.and_eq_true]
    exact ⟨same_ok h.1, sameL_ok h.2⟩
theorem sameR_ok : ∀ {a b : List (List FV)}, sameR a b = true → AV.beqR (gR S a) (gR S b) = true
  | [], [], _ => rfl
  | [], _ :: _, h => by simp [sameR] at h
  | _ :: _, [], h => by simp [sameR] at h
  | a :: x, b :: y, h => by
    simp only [sameR, Bool.and_eq_true] at h
    simp only [gR, AV.beqR, Bool.and_eq_true]
    exact ⟨sameL_ok h.1, sameR_ok h.2⟩
theorem sameB_ok : ∀ {a b : List FB}, sameB a b = true → a.map (gB S) = b.map (gB S)
  | [], [], _ => rfl
  | [], _ :: _, h => by simp [sameB] at h
  | _ :: _, [], h => by simp [sameB] at h
  | .lit a :: x, .lit b :: y, h => by
    simp only [sameB, Bool.and_eq_true, beq_beq] at h
    simp only [List.map_cons, h.1, sameB_ok h.2]
  | .sym a :: x, .sym b :: y, h => by
    simp only [sameB, Bool.and_eq_true, beq_beq] at h
    simp only [List.map_cons, h.1, sameB_ok h.2]
  | .lit a :: x, .sym b :: y, h => by simp [sameB] at h
  | .sym a :: x, .lit b :: y, h => by simp [sameB] at h
end
end
section
variable {S : Sg} {D : Nat → Bool} {n : Nat} {t : Te} {fns : Fns} {base : Nat} {C : Call}
theorem guard_ok {e : Env} (er : ER S D n t e) {k : Nat} {w : Bool} {A B : R} {z : FV × FH}
    (hk : slotK t k (fun v => match v with
      | .bool b => cond (cond b w (!w)) A B
      | .undef => B
      | _ => none) = some z) : (wanted e (some (k, w)) = some true ∧ A = some z) ∨ (wanted e (some (k, w)) = some false ∧ B = some z) := by
  obtain ⟨v, h1, hk⟩ := slotK_ok hk
  have h2 := (er.dom k v h1).2
  have h3 : e.getD k .undef = g S v := by rw [List.getD_eq_getElem?_getD, h2]; rfl
  cases v <;> try (cases hk; done)
  case bool b =>
    simp only [wanted, h3, g]
    cases b <;> cases w <;> first | exact .inl ⟨rfl, hk⟩ | exact .inr ⟨rfl, hk⟩
  case undef =>
    simp only [wanted, h3, g]
    exact .inr ⟨trivial, hk⟩
theorem againK_ok (co : CallsOK S fns C) {o : AOper} (ok : plainB o.op = true) (hn : 0 < n) {fh : FH} {K : R} {z : FV × FH} (hk : againK C base t fh o K = some z) {e : Env} {h : H} (er : ER S D n t e) (r : HR S fh h) :
    K = some z ∧ From (fun m => Am.again (MC fns m) base o e h = true) := by
  obtain ⟨d, op, gu⟩ := o
  cases d with
  | none => cases hk
  | some d =>
    have go : ∀ {w : Option (Nat × Bool)}, wanted e w = some true → slotK t d (fun old => evX C base t (opX op) fh fun v _ => cond (same v old) K none) = some z → K = some z ∧ From (fun m => Am.again (MC fns m) base ⟨some d, op, w⟩ e h = true) := by
      intro w hw hk
      obtain ⟨old, h1, hk⟩ := slotK_ok hk
      obtain ⟨v, fh', h', hk, h2, h3⟩ := plainOp_ok co ok hn hk er r
      obtain ⟨hs, hk⟩ := condN hk
      refine ⟨hk, h2.mono fun m q => ?_⟩
      have h5 : e.getD d .undef = g S old := by rw [List.getD_eq_getElem?_getD, (er.dom d old h1).2]; rfl
      simp only [Am.again, hw, q, h5]
      exact same_ok S hs
    cases gu with
    | none => exact go rfl hk
    | some p =>
      obtain ⟨k, w⟩ := p
      rcases guard_ok er hk with ⟨q, hk⟩ | ⟨q, hk⟩
      · exact go q hk
      · exact ⟨hk, .of fun m => by simp only [Am.again, q]⟩
theorem lookF_ok {l : Nat} {K : AOper → R} {z : FV × FH} : ∀ {ops : List (Nat × AOper)}, lookF l ops K = some z → ∃ o, ops.lookup l = some o ∧ K o = some z ∧ (l, o) ∈ ops
  | [], hk => by cases hk
  | p :: ops, hk => by
    have hk : cond (Nat.beq l p.1) (K p.2) (lookF l ops K) = some z := hk
    rcases condK hk with ⟨q, hk⟩ | ⟨q, hk⟩
    · rw [beq_iff] at q
      refine ⟨p.2, ?_, hk, ?_⟩
      · rw [List.lookup_cons]
        simp [q]
      · rw [q]; exact List.mem_cons_self
    · obtain ⟨o, h1, h2, h3⟩ := lookF_ok hk
      refine ⟨o, ?_, h2, List.mem_cons_of_mem _ h3⟩
      rw [List.lookup_cons]
      have : (l == p.1) = false := by
        rw [beq_eq_false_iff_ne]
        intro e
        rw [(beq_iff (a := l) (b := p.1)).mpr e] at q; cases q
      rw [this]; exact h1
def rawB (D : Nat → Bool) (n : Nat) (chk : List (Nat × Nat)) (ops : List (Nat × AOper)) : Bool :=
  ops.all fun p => (plainB p.2.op || (specB p.2.dst p.2.op && !chk.any fun q => q.1.beq p.1)) && dstB D n p.2.dst
theorem chkK_ok (co : CallsOK S fns C) {all : List (Nat × AOper)} (hn : 0 < n) {i : Nat} {fh : FH} {K : R} {z : FV × FH} {e : Env} {h : H} (er : ER S D n t e) (r : HR S fh h) :
    ∀ {chk : List (Nat × Nat)}, (∀ q ∈ chk, ∀ o, (q.1, o) ∈ all → plainB o.op = true) → chkK C base all i t fh K chk = some z → K = some z ∧ From (fun m => recheck (MC fns m) base all i e h chk = true)
  | [], _, hk => ⟨hk, .of fun m => rfl⟩
  | q :: chk, ok, hk => by
    have hk : cond (Nat.beq q.2 i) (lookF q.1 all fun o => againK C base t fh o (chkK C base all i t fh K chk)) (chkK C base all i t fh K chk) = some z := hk
    obtain ⟨a, b⟩ := q
    rcases condK hk with ⟨q, hk⟩ | ⟨q, hk⟩
    · obtain ⟨o, h1, hk, h2⟩ := lookF_ok hk
      obtain ⟨hk, h3⟩ := againK_ok co (ok (a, b) List.mem_cons_self o h2) hn hk er r
      obtain ⟨hk, h4⟩ := chkK_ok co hn er r (fun q hq => ok q (List.mem_cons_of_mem _ hq)) hk
      refine ⟨hk, (h3.and h4).mono fun m ⟨q1, q2⟩ => ?_⟩
      simp only [recheck, show b.beq i = true from q, cond_true, h1, q1, q2, Bool.and_self]
    · obtain ⟨hk, h4⟩ := chkK_ok co hn er r (fun q hq => ok q (List.mem_cons_of_mem _ hq)) hk
      refine ⟨hk, h4.mono fun m q2 => ?_⟩
      simp only [recheck, show b.beq i = false from q, cond_false, q2, Bool.and_self]
theorem rawK_ok (co : CallsOK S fns C) {all : List (Nat × AOper)} {chk : List (Nat × Nat)} (hn : 0 < n) (oka : rawB D n chk all = true) {z : FV × FH} : ∀ {l : List (Nat × AOper)} {t : Te} {fh : FH} {K : KE}, rawB D n chk l = true → rawK C base all chk l t fh K = some z → ∀ {e : Env} {h : H}, ER S D n t e → HR S fh h →
    ∃ t' fh' e' h', K t' fh' = some z ∧ From (fun m => runOps (MC fns m) base all chk l e h = some (e', h')) ∧ ER S D n t' e' ∧ HR S fh' h'
  | [], t, fh, K, ok, hk, e, h, er, r => ⟨t, fh, e, h, hk, .of fun m => rfl, er, r⟩
  | (i, o) :: l, t, fh, K, ok, hk, e, h, er, r => by
    have okc : ∀ q ∈ chk, ∀ o, (q.1, o) ∈ all → plainB o.op = true := by
      intro q hq o ho
      have := List.all_eq_true.mp oka _ ho
      simp only [Bool.and_eq_true, Bool.or_eq_true, Bool.not_eq_true'] at this
      rcases this.1 with h | ⟨_, h⟩
      · exact h
      · rw [List.any_eq_false] at h
        exact absurd ((beq_beq q.1 q.1).mpr rfl) (h q hq)
    unfold rawB at ok
    rw [List.all_cons, Bool.and_eq_true] at ok
    obtain ⟨ok1, ok2⟩ := ok
    have ok2 : rawB D n chk l = true := ok2
    simp only [Bool.and_eq_true] at ok1
    obtain ⟨ok1, hd⟩ := ok1
    have ok1 : (plainB o.op || specB o.dst o.op) = true := by
      rw [Bool.or_eq_true] at ok1 ⊢
      rcases ok1 with h | h
      · exact .inl h
      · rw [Bool.and_eq_true] at h; exact .inr h.1
    -- it was run
    have run : ∀ {w}, o.guard = w → wanted e w = some true → rawOp C base t fh o.dst (fun e h => chkK C base all i e h (rawK C base all chk l e h K) chk) o.op = some z →
        ∃ t' fh' e' h', K t' fh' = some z ∧ From (fun m => runOps (MC fns m) base all chk ((i, o) :: l) e h = some (e', h')) ∧ ER S D n t' e' ∧ HR S fh' h' := by
      intro w hw0 hw hk
      obtain ⟨t1, fh1, v, h1, hk, q1, q2, q3⟩ := rawOp_ok co ok1 hd hn hk er r
      obtain ⟨hk, q4⟩ := chkK_ok co hn q2 q3 okc hk
      obtain ⟨t2, fh2, e2, h2, hk, p1, p2, p3⟩ := rawK_ok co hn oka ok2 hk q2 q3
      refine ⟨t2, fh2, e2, h2, hk, (q1.and (q4.and p1)).mono fun m ⟨a1, a2, a3⟩ => ?_, p2, p3⟩
      simp only [runOps]
      rw [runOp_true (o := o) (by rw [hw0]; exact hw) a1]
      simp only [a2, if_true]
      exact a3
    have skip : ∀ {w}, o.guard = w → wanted e w = some false → chkK C base all i (setO t o.dst .undef) fh (rawK C base all chk l (setO t o.dst .undef) fh K) chk = some z →
        ∃ t' fh' e' h', K t' fh' = some z ∧ From (fun m => runOps (MC fns m) base all chk ((i, o) :: l) e h = some (e', h')) ∧ ER S D n t' e' ∧ HR S fh' h' := by
      intro w hw0 hw hk
      have q2 := er.setO hd .undef
      obtain ⟨hk, q4⟩ := chkK_ok co hn q2 r okc hk
      obtain ⟨t2, fh2, e2, h2, hk, p1, p2, p3⟩ := rawK_ok co hn oka ok2 hk q2 r
      refine ⟨t2, fh2, e2, h2, hk, (q4.and p1).mono fun m ⟨a2, a3⟩ => ?_, p2, p3⟩
      simp only [runOps]
      rw [runOp_false (o := o) (by rw [hw0]; exact hw)]
      have a2 : recheck (MC fns m) base all i (putDst e o.dst .undef) h chk = true := a2
      simp only [a2, if_true]
      exact a3
    obtain ⟨d, op, gu⟩ := o
    cases gu with
    | none => exact run rfl rfl hk
    | some p =>
      obtain ⟨k, w⟩ := p
      rcases guard_ok er hk with ⟨q, hk⟩ | ⟨q, hk⟩
      · exact run rfl q hk
      · exact skip rfl q hk
end
end Go.Fm
namespace Go.Fm
open Go.Am
open Go (IntKind BinOp UnOp)
def CF : Nat := 20000010
def FzOK (S : Sg) (base f : Nat) (F : FzV) : Prop := ∀ fh v K z h, F fh v K = some z → HR S fh h →
  ∃ w fh' h', K w fh' = some z ∧ (∀ m, f * CF + 1 ≤ m → frz m base h (g S v) = some (g S w, h')) ∧ HR S fh' h'
section
variable {S : Sg} {base : Nat}
theorem frzCs0_ok {f : Nat} {F : FzV} (ok : FzOK S base f F) {z : FV × FH} : ∀ {cs : List FV} {fh : FH} {K : List FV → FH → R} {h : H}, frzCs0 F cs fh K = some z → HR S fh h →
    ∃ ws fh' h', K ws fh' = some z ∧ (∀ m, f * CF + cs.length + 2 ≤ m → frzCells m base h (gL S cs) = some (gL S ws, h')) ∧ HR S fh' h'
  | [], fh, K, h, hk, r => ⟨[], fh, h, hk, fun m hm => by
      obtain ⟨m, rfl⟩ : ∃ k, m = k + 1 := ⟨m - 1, by omega⟩
      rfl, r⟩
  | c :: cs, fh, K, h, hk, r => by
    have hk : F fh c (fun c h => frzCs0 F cs h fun cs h => K (c :: cs) h) = some z := hk
    obtain ⟨w, fh1, h1, hk, q1, r1⟩ := ok _ _ _ _ _ hk r
    obtain ⟨ws, fh2, h2, hk, q2, r2⟩ := frzCs0_ok ok hk r1
    refine ⟨w :: ws, fh2, h2, hk, fun m hm => ?_, r2⟩
    simp only [List.length_cons] at hm
    obtain ⟨m, rfl⟩ : ∃ k, m = k + 1 := ⟨m - 1, by omega⟩
    simp only [gL, frzCells, q1 m (by omega), q2 m (by omega)]
theorem frzCs_ok {f : Nat} {F : FzV} (ok : FzOK S base f F) {z : FV × FH} {cs : List FV} {fh : FH} {K : List FV → FH → R} {h : H} (hk : frzCs F cs fh K = some z) (r : HR S fh h) :
    ∃ ws fh' h', K ws fh' = some z ∧ (∀ m, f * CF + 10000002 ≤ m → frzCells m base h (gL S cs) = some (gL S ws, h')) ∧ HR S fh' h' := by
  obtain ⟨q, hk⟩ := condN hk
  rw [ble_iff, lenL_eq] at q
  obtain ⟨ws, fh', h', hk, q1, r1⟩ := frzCs0_ok ok hk r
  exact ⟨ws, fh', h', hk, fun m hm => q1 m (by omega), r1⟩
theorem frzRs0_ok {f : Nat} {F : FzV} (ok : FzOK S base f F) {z : FV × FH} : ∀ {rs : List (List FV)} {fh : FH} {K : List (List FV) → FH → R} {h : H}, frzRs0 F rs fh K = some z → HR S fh h →
    ∃ ws fh' h', K ws fh' = some z ∧ (∀ m, f * CF + 10000003 + rs.length ≤ m → frzRows m base h (gR S rs) = some (gR S ws, h')) ∧ HR S fh' h'
  | [], fh, K, h, hk, r => ⟨[], fh, h, hk, fun m hm => by
      obtain ⟨m, rfl⟩ : ∃ k, m = k + 1 := ⟨m - 1, by omega⟩
      rfl, r⟩
  | c :: cs, fh, K, h, hk, r => by
    have hk : frzCs F c fh (fun c h => frzRs0 F cs h fun cs h => K (c :: cs) h) = some z := hk
    obtain ⟨w, fh1, h1, hk, q1, r1⟩ := frzCs_ok ok hk r
    obtain ⟨ws, fh2, h2, hk, q2, r2⟩ := frzRs0_ok ok hk r1
    refine ⟨w :: ws, fh2, h2, hk, fun m hm => ?_, r2⟩
    simp only [List.length_cons] at hm
    obtain ⟨m, rfl⟩ : ∃ k, m = k + 1 := ⟨m - 1, by omega⟩
    simp only [gR, frzRows, q1 m (by omega), q2 m (by omega)]
theorem frzRs_ok {f : Nat} {F : FzV} (ok : FzOK S base f F) {z : FV × FH} {rs : List (List FV)} {fh : FH} {K : List (List FV) → FH → R} {h : H} (hk : frzRs F rs fh K = some z) (r : HR S fh h) :
    ∃ ws fh' h', K ws fh' = some z ∧ (∀ m, f * CF + 20000003 ≤ m → frzRows m base h (gR S rs) = some (gR S ws, h')) ∧ HR S fh' h' := by
  obtain ⟨q, hk⟩ := condN hk
  rw [ble_iff, lenL_eq] at q
  obtain ⟨ws, fh', h', hk, q1, r1⟩ := frzRs0_ok ok hk r
  exact ⟨ws, fh', h', hk, fun m hm => q1 m (by omega), r1⟩
theorem frz_other {v : AV} (h1 : ∀ a b c d, v ≠ .ref a b c d) (h2 : ∀ cs, v ≠ .agg cs) (m : Nat) (h : H) : frz (m + 1) base h v = some (v, h) := by
  cases v <;> first | (exact absurd rfl (h1 _ _ _ _); done) | (exact absurd rfl (h2 _); done) | simp only [frz]
theorem frzF_ok : ∀ f, FzOK S base f (frzF f base)
  | 0 => fun fh v K z h hk r => by cases hk
  | f + 1 => fun fh v K z h hk r => by
    have ih := frzF_ok f
    cases v <;> try (cases hk; done)
    case ref o k off len =>
      have hk : cond (Nat.ble base o) (match fh.get o with
        | some (.arr _ rs) => cond (Nat.ble (Nat.add off len) (lenL rs)) (frzRs (frzF f base) rs (fh.kill o) fun rs h => K (.vs false (takeN len (dropN off rs))) h) none
        | _ => none) none = some z := hk
      obtain ⟨q1, hk⟩ := condN hk
      rw [ble_iff] at q1
      have hg := r.gt o
      cases ho : fh.get o with
      | none => rw [ho] at hk; cases hk
      | some x =>
        rw [ho] at hk hg
        cases x with
        | iter _ _ => cases hk
        | bld _ _ _ => cases hk
        | arr k' rs =>
          obtain ⟨q2, hk⟩ := condN hk
          rw [ble_iff, lenL_eq, natAdd] at q2
          obtain ⟨ws, fh', h', hk, q3, r'⟩ := frzRs_ok ih hk (r.kill o)
          refine ⟨_, fh', h', hk, fun m hm => ?_, r'⟩
          obtain ⟨m, rfl⟩ : ∃ k, m = k + 1 := ⟨m - 1, by omega⟩
          have hg : h.get o = some (.arr k' (gR S rs)) := hg
          simp only [g, frz, hg]
          rw [if_pos ⟨q1, by rw [gR_len]; exact q2⟩, q3 m (by simp only [CF] at hm ⊢; omega)]
          simp only [takeN_eq, dropN_eq, gR_take, gR_drop]
    case agg cs =>
      have hk : frzCs (frzF f base) cs fh (fun cs h => K (.agg cs) h) = some z := hk
      obtain ⟨ws, fh', h', hk, q3, r'⟩ := frzCs_ok ih hk r
      refine ⟨_, fh', h', hk, fun m hm => ?_, r'⟩
      obtain ⟨m, rfl⟩ : ∃ k, m = k + 1 := ⟨m - 1, by omega⟩
      simp only [g, frz, q3 m (by simp only [CF] at hm ⊢; omega)]
    all_goals
      refine ⟨_, fh, h, hk, fun m hm => ?_, r⟩
      obtain ⟨m, rfl⟩ : ∃ k, m = k + 1 := ⟨m - 1, by omega⟩
      exact frz_other (fun _ _ _ _ e => by cases e) (fun _ e => by cases e) m h
theorem frzF_fuel {fh : FH} {v : FV} {K : FV → FH → R} {z : FV × FH} {h : H} (hk : frzF 1000 base fh v K = some z) (r : HR S fh h) :
    ∃ w fh' h', K w fh' = some z ∧ frz frzFuel base h (g S v) = some (g S w, h') ∧ HR S fh' h' := by
  obtain ⟨w, fh', h', a, b, c⟩ := frzF_ok 1000 _ _ _ _ _ hk r
  exact ⟨w, fh', h', a, b _ (by simp only [CF, frzFuel]; omega), c⟩
end
def ghB : Gh → Bool
  | .keep _ => false
  | _ => true
section
variable {S : Sg} {D : Nat → Bool} {n : Nat} {t : Te} {fns : Fns} {base : Nat} {C : Call}
theorem getD_er {e : Env} (er : ER S D n t e) {k : Nat} {v : FV} (h1 : t.get k = some v) : e.getD k .undef = g S v := by
  rw [List.getD_eq_getElem?_getD, (er.dom k v h1).2]; rfl
theorem ghK_ok {gh : Gh} (ok : ghB gh = true) {fh : FH} {K : KX} {z : FV × FH} (hk : ghK base t fh K gh = some z) {e : Env} {h : H} (er : ER S D n t e) (r : HR S fh h) :
    ∃ t' fh' e' h', K .normal t' fh' = some z ∧ ghost base gh e h = some (e', h') ∧ ER S D n t' e' ∧ HR S fh' h' := by
  cases gh with
  | keep l => cases ok
  | note a b c l => exact ⟨t, fh, e, h, hk, rfl, er, r⟩
  | frz k =>
    obtain ⟨v, h1, hk⟩ := slotK_ok (show slotK t k (fun v => frzF 1000 base fh v fun v h => K .normal (set t k v) h) = some z from hk)
    obtain ⟨w, fh', h', hk, q1, r'⟩ := frzF_fuel hk r
    obtain ⟨d1, d2⟩ := er.dom k v h1
    refine ⟨_, fh', e.set k (g S w), h', hk, ?_, er.set d1 ?_, r'⟩
    · simp only [ghost, getD_er er h1, q1]
    · rw [← er.len]
      exact (List.getElem?_eq_some_iff.mp d2).1
  | frzm k off =>
    obtain ⟨p, h1, hk⟩ := slotK_ok (show slotK t k (fun p => match p with
      | .ptr o i f => oLoad fh (fun v h => frzF 1000 base h v fun v h => oStore base h (fun h => K .normal t h) 1 (.ptr o i (Nat.add f off)) v) false 1 (.ptr o i (Nat.add f off))
      | _ => none) = some z from hk)
    split at hk
    · rename_i o i f
      obtain ⟨v, hk, q0⟩ := oLoad_ok r hk
      obtain ⟨w, fh', h', hk, q1, r'⟩ := frzF_fuel hk r
      obtain ⟨fh3, h3, hk, k2, k3⟩ := oStore_ok r' hk
      refine ⟨t, fh3, e, h3, hk, ?_, er, k3⟩
      have e0 : g S (.ptr o i f) = .ptr o i f := rfl
      have e1 : g S (.ptr o i (Nat.add f off)) = .ptr o i (f + off) := rfl
      rw [e1] at q0 k2
      simp only [ghost, getD_er er h1, e0, faddrAV, q0, q1, k2, Option.map_some]
    · cases hk
def okC (D : Nat → Bool) (n : Nat) : FC → Bool
  | .skip => true
  | .reg t l => okSs D n ⟨[], t, 0⟩ l
  | .raw ops chk => Nat.blt 0 n && rawB D n chk ops
  | .seq a b => okC D n a && okC D n b
  | .cond c a b => leafB c && (okC D n a && okC D n b)
  | .block _ a => okC D n a
  | .loop a => okC D n a
  | .exit _ => true
  | .ret => true
  | .ghost g => ghB g
def COut (S : Sg) (D : Nat → Bool) (n : Nat) (fns : Fns) (base : Nat) (K : KX) (z : FV × FH) (c : ACode) (e : Env) (h : H) : Prop :=
  ∃ x t' fh' e' h', K x t' fh' = some z ∧ From (fun m => exec fns m base c e h = some (x, e', h')) ∧ ER S D n t' e' ∧ HR S fh' h'
def LOK (S : Sg) (D : Nat → Bool) (n : Nat) (fns : Fns) (base : Nat) (LK : FC → Te → FH → KX → R) : Prop :=
  ∀ a, okC D n a = true → ∀ t fh K z e h, LK a t fh K = some z → ER S D n t e → HR S fh h → COut S D n fns base K z (.loop (trC a)) e h
theorem From.up {p : Nat → Prop} (h : From fun m => p (m + 1)) : From p := by
  obtain ⟨N, hN⟩ := h
  refine ⟨N + 1, fun m hm => ?_⟩
  obtain ⟨m, rfl⟩ : ∃ k, m = k + 1 := ⟨m - 1, by omega⟩
  exact hN m (by omega)
theorem execUp {c : ACode} {e : Env} {h : H} {r : AEx × Env × H} (q : From fun m => (exec fns (m + 1) base c e h) = some r) : From fun m => exec fns m base c e h = some r := From.up q
theorem evC_ok (co : CallsOK S fns C) {LK : FC → Te → FH → KX → R} (lk : LOK S D n fns base LK) : ∀ (c : FC), okC D n c = true → ∀ {t : Te} {fh : FH} {K : KX} {z : FV × FH} {e : Env} {h : H}, evC C base LK c t fh K = some z → ER S D n t e → HR S fh h →
    COut S D n fns base K z (trC c) e h
  | .skip, ok, t, fh, K, z, e, h, hk, er, r => ⟨.normal, t, fh, e, h, hk, execUp (.of fun m => rfl), er, r⟩
  | .exit i, ok, t, fh, K, z, e, h, hk, er, r => ⟨.exit i, t, fh, e, h, hk, execUp (.of fun m => rfl), er, r⟩
  | .ret, ok, t, fh, K, z, e, h, hk, er, r => ⟨.ret, t, fh, e, h, hk, execUp (.of fun m => rfl), er, r⟩
  | .ghost gh, ok, t, fh, K, z, e, h, hk, er, r => by
    obtain ⟨t', fh', e', h', hk, q, er', r'⟩ := ghK_ok ok hk er r
    exact ⟨.normal, t', fh', e', h', hk, execUp (.of fun m => by rw [exec_succ]; simp only [trC, q]), er', r'⟩
  | .loop a, ok, t, fh, K, z, e, h, hk, er, r => lk a ok _ _ _ _ _ _ hk er r
  | .reg t0 l, ok, t, fh, K, z, e, h, hk, er, r => by
    obtain ⟨t', fh', m, e', h', hk, q1, q2, er', r'⟩ := evSs_ok co hk ok er r
    refine ⟨.normal, t', fh', e', h', hk, execUp (q2.mono fun k q => ?_), er', r'⟩
    rw [exec_succ]
    simp only [trC, q1, List.nil_append, runOps_runL]
    have q : runL (callSem fns (exec fns k)) base m e h = some (e', h') := q
    rw [q]
  | .raw ops chk, ok, t, fh, K, z, e, h, hk, er, r => by
    simp only [okC, Bool.and_eq_true, Nat.blt_eq] at ok
    obtain ⟨t', fh', e', h', hk, q2, er', r'⟩ := rawK_ok co ok.1 ok.2 ok.2 hk er r
    refine ⟨.normal, t', fh', e', h', hk, execUp (q2.mono fun k q => ?_), er', r'⟩
    rw [exec_succ]
    have q : runOps (callSem fns (exec fns k)) base ops chk ops e h = some (e', h') := q
    simp only [trC, q]
  | .seq a b, ok, t, fh, K, z, e, h, hk, er, r => by
    simp only [okC, Bool.and_eq_true] at ok
    obtain ⟨x, t1, fh1, e1, h1, hk, q1, er1, r1⟩ := evC_ok co lk a ok.1 (K := seqK (evC C base LK b) K) hk er r
    cases x with
    | normal =>
      obtain ⟨x, t2, fh2, e2, h2, hk, q2, er2, r2⟩ := evC_ok co lk b ok.2 (K := K) hk er1 r1
      exact ⟨x, t2, fh2, e2, h2, hk, execUp ((q1.and q2).mono fun m ⟨a1, a2⟩ => by rw [exec_succ]; simp only [trC, a1, a2]), er2, r2⟩
    | exit i => exact ⟨_, t1, fh1, e1, h1, hk, execUp (q1.mono fun m a1 => by rw [exec_succ]; simp only [trC, a1]), er1, r1⟩
    | ret => exact ⟨_, t1, fh1, e1, h1, hk, execUp (q1.mono fun m a1 => by rw [exec_succ]; simp only [trC, a1]), er1, r1⟩
  | .cond c a b, ok, t, fh, K, z, e, h, hk, er, r => by
    simp only [okC, Bool.and_eq_true] at ok
    obtain ⟨v, hk, q0⟩ := evA_ok ok.1 er (show evA t c (fun v => boolKF v (evC C base LK a t fh K) (evC C base LK b t fh K)) = some z from hk)
    obtain ⟨q, rfl, hk⟩ := boolKF_ok hk
    cases q with
    | true =>
      obtain ⟨x, t1, fh1, e1, h1, hk, q1, er1, r1⟩ := evC_ok co lk a ok.2.1 hk er r
      exact ⟨x, t1, fh1, e1, h1, hk, execUp (q1.mono fun m a1 => by rw [exec_succ]; simp only [trC, q0, g, cond_true, a1]), er1, r1⟩
    | false =>
      obtain ⟨x, t1, fh1, e1, h1, hk, q1, er1, r1⟩ := evC_ok co lk b ok.2.2 hk er r
      exact ⟨x, t1, fh1, e1, h1, hk, execUp (q1.mono fun m a1 => by rw [exec_succ]; simp only [trC, q0, g, cond_false, a1]), er1, r1⟩
  | .block i a, ok, t, fh, K, z, e, h, hk, er, r => by
    obtain ⟨x, t1, fh1, e1, h1, hk, q1, er1, r1⟩ := evC_ok co lk a ok (K := blkK i K) hk er r
    cases x with
    | normal => exact ⟨_, t1, fh1, e1, h1, hk, execUp (q1.mono fun m a1 => by rw [exec_succ]; simp only [trC, a1]), er1, r1⟩
    | ret => exact ⟨_, t1, fh1, e1, h1, hk, execUp (q1.mono fun m a1 => by rw [exec_succ]; simp only [trC, a1]), er1, r1⟩
    | exit j =>
      have hk : cond (Nat.beq j i) (K .normal t1 fh1) (K (.exit j) t1 fh1) = some z := hk
      rcases condK hk with ⟨q, hk⟩ | ⟨q, hk⟩
      · rw [beq_iff] at q
        exact ⟨_, t1, fh1, e1, h1, hk, execUp (q1.mono fun m a1 => by rw [exec_succ]; simp only [trC, a1]; rw [if_pos q]), er1, r1⟩
      · have q : j ≠ i := fun e => by rw [(beq_iff (a := j) (b := i)).mpr e] at q; cases q
        exact ⟨_, t1, fh1, e1, h1, hk, execUp (q1.mono fun m a1 => by rw [exec_succ]; simp only [trC, a1]; rw [if_neg q]), er1, r1⟩
theorem evL_ok (co : CallsOK S fns C) : ∀ k, LOK S D n fns base (evL C base k)
  | 0 => fun a ok t fh K z e h hk er r => by cases hk
  | k + 1 => fun a ok t fh K z e h hk er r => by
    have ih : LOK S D n fns base (evL C base k) := evL_ok co k
    obtain ⟨x, t1, fh1, e1, h1, hk, q1, er1, r1⟩ := evC_ok co ih a ok (K := loopK (evL C base k a) K) hk er r
    cases x with
    | normal =>
      obtain ⟨x, t2, fh2, e2, h2, hk, q2, er2, r2⟩ := ih a ok _ _ _ _ _ _ hk er1 r1
      exact ⟨x, t2, fh2, e2, h2, hk, execUp ((q1.and q2).mono fun m ⟨a1, a2⟩ => by rw [exec_succ]; simp only [a1, a2]), er2, r2⟩
    | exit i => exact ⟨_, t1, fh1, e1, h1, hk, execUp (q1.mono fun m a1 => by rw [exec_succ]; simp only [a1]), er1, r1⟩
    | ret => exact ⟨_, t1, fh1, e1, h1, hk, execUp (q1.mono fun m a1 => by rw [exec_succ]; simp only [a1]), er1, r1⟩
end
end Go.Fm
namespace Go.Fm
open Go.Am
open Go (IntKind BinOp UnOp)
section
variable {S : Sg}
noncomputable def undL (n : Nat) (v : List FV) : Bool :=
  FV.rec_1 (motive_1 := fun _ => Bool) (motive_2 := fun _ => Bool) (motive_3 := fun _ => Bool)
    (fun _ _ => true) (fun _ => true) (fun _ => true) true (fun o _ _ => Nat.ble (Nat.succ o) n) (fun _ b => b) (fun _ _ b => b) (fun o _ _ _ => Nat.ble (Nat.succ o) n) (fun _ _ b => b) true (fun _ b => b) (fun _ b => b) true true (fun _ => false)
    true (fun _ _ a b => cond a b false) true (fun _ _ a b => cond a b false) v
noncomputable def undR (n : Nat) (v : List (List FV)) : Bool :=
  FV.rec_2 (motive_1 := fun _ => Bool) (motive_2 := fun _ => Bool) (motive_3 := fun _ => Bool)
    (fun _ _ => true) (fun _ => true) (fun _ => true) true (fun o _ _ => Nat.ble (Nat.succ o) n) (fun _ b => b) (fun _ _ b => b) (fun o _ _ _ => Nat.ble (Nat.succ o) n) (fun _ _ b => b) true (fun _ b => b) (fun _ b => b) true true (fun _ => false)
    true (fun _ _ a b => cond a b false) true (fun _ _ a b => cond a b false) v
mutual
theorem undF_ok {n : Nat} : ∀ {v : FV}, undF n v = true → (g S v).under n = true
  | .int _ _, _ => rfl
  | .bool _, _ => rfl
  | .str _, _ => rfl
  | .nilp, _ => rfl
  | .ptr o _ _, h => by
    have h : Nat.ble (Nat.succ o) n = true := h
    rw [ble_iff] at h
    simp only [g, AV.under, decide_eq_true_eq]; omega
  | .rptr cs, h => by simp only [g, AV.under]; exact undL_ok h
  | .vs _ xs, h => by simp only [g, AV.under]; exact undR_ok h
  | .ref o _ _ _, h => by
    have h : Nat.ble (Nat.succ o) n = true := h
    rw [ble_iff] at h
    simp only [g, AV.under, decide_eq_true_eq]; omega
  | .fn _ cs, h => by simp only [g, AV.under]; exact undL_ok h
  | .nilfn, _ => rfl
  | .agg cs, h => by simp only [g, AV.under]; exact undL_ok h
  | .tup cs, h => by simp only [g, AV.under]; exact undL_ok h
  | .undef, _ => rfl
  | .any, _ => rfl
  | .opq _, h => by cases h
theorem undL_ok {n : Nat} : ∀ {l : List FV}, undL n l = true → AV.underL n (gL S l) = true
  | [], _ => rfl
  | a :: l, h => by
    have h : cond (undF n a) (undL n l) false = true := h
    obtain ⟨h1, h2⟩ := andB h
    simp only [gL, AV.underL, Bool.and_eq_true]
    exact ⟨undF_ok h1, undL_ok h2⟩
theorem undR_ok {n : Nat} : ∀ {l : List (List FV)}, undR n l = true → AV.underR n (gR S l) = true
  | [], _ => rfl
  | a :: l, h => by
    have h : cond (undL n a) (undR n l) false = true := h
    obtain ⟨h1, h2⟩ := andB h
    simp only [gR, AV.underR, Bool.and_eq_true]
    exact ⟨undL_ok h1, undR_ok h2⟩
end
theorem undA_ok {n : Nat} : ∀ {l : List FV}, allL (undF n) l = true → AV.underL n (gL S l) = true
  | [], _ => rfl
  | a :: l, h => by
    have h : cond (undF n a) (allL (undF n) l) false = true := h
    obtain ⟨h1, h2⟩ := andB h
    simp only [gL, AV.underL, Bool.and_eq_true]
    exact ⟨undF_ok h1, undA_ok h2⟩
end
def keptS : ST → List Nat
  | .as d _ => [d]
  | .kp d _ => [d]
  | _ => []
def keptC : FC → List Nat
  | .reg _ l => l.flatMap keptS
  | .raw ops _ => ops.flatMap fun p => p.2.dst.toList
  | .seq a b => keptC a ++ keptC b
  | .cond _ a b => keptC a ++ keptC b
  | .block _ a => keptC a
  | .loop a => keptC a
  | _ => []
def dOf (p : Nat) (ds : List Nat) (k : Nat) : Bool := Nat.blt k p || ds.any (Nat.beq k)
def okF (p : Nat) (f : FFun) : Bool := Nat.ble p f.slots && okC (dOf p (keptC f.body)) f.slots f.body
section
variable {S : Sg} {D : Nat → Bool} {n : Nat} {t : Te} {fns : Fns} {base : Nat} {C : Call}
theorem argE_get : ∀ (l : List FV) (t : Te) (i k : Nat), (argE l t i).get k = if i ≤ k ∧ k < i + l.length then l[k - i]? else t.get k
  | [], t, i, k => by
    rw [if_neg (by simp only [List.length_nil]; omega)]; rfl
  | a :: l, t, i, k => by
    have : argE (a :: l) t i = argE l (set t i a) (i + 1) := rfl
    rw [this, argE_get l _ (i + 1) k, get_set]
    simp only [List.length_cons]
    by_cases h : i + 1 ≤ k ∧ k < i + 1 + l.length
    · rw [if_pos h, if_pos (by omega)]
      obtain ⟨j, rfl⟩ : ∃ j, k = i + 1 + j := ⟨k - (i + 1), by omega⟩
      rw [show i + 1 + j - (i + 1) = j by omega, show i + 1 + j - i = j + 1 by omega, List.getElem?_cons_succ]
    · rw [if_neg h]
      by_cases q : k = i
      · subst q
        rw [if_pos rfl, if_pos (by omega), Nat.sub_self, List.getElem?_cons_zero]
      · rw [if_neg q, if_neg (by omega)]
theorem lf_get (k : Nat) : (Tb.lf : Te).get k = none := rfl
theorem er_arg {p : Nat} {f : FFun} {args : List FV} (hp : args.length = p) (hs : p ≤ f.slots) : ER S (dOf p (keptC f.body)) f.slots (argE args .lf 0) (gL S args ++ List.replicate (f.slots - (gL S args).length) .undef) := by
  refine ⟨by rw [List.length_append, List.length_replicate, gL_len]; omega, fun k v hk => ?_⟩
  rw [argE_get] at hk
  split at hk
  · rename_i h
    simp only [Nat.sub_zero] at hk
    have hl : k < args.length := by omega
    refine ⟨?_, ?_⟩
    · simp only [dOf, Bool.or_eq_true, Nat.blt_eq]; omega
    · rw [List.getElem?_append_left (by rw [gL_len]; exact hl), gL_eq, List.getElem?_map, hk]; rfl
  · rw [lf_get] at hk; cases hk
theorem res1_ok {e : Env} {h : H} (er : ER S D n t e) {fh : FH} (r : HR S fh h) {z : FV × FH} : ∀ {rs : List ARes} {K : List FV → R},
    (List.rec (motive := fun _ => (List FV → R) → R) (fun K => K []) (fun r _ ih K => match r with
      | .slot n => slotK t n fun v => ih fun vs => K (v :: vs)
      | .cell n g sz => slotK t n fun p => oLoad fh (fun v _ => ih fun vs => K (v :: vs)) g sz p) rs) K = some z → ∃ vs, K vs = some z ∧ resList e h rs = some (gL S vs)
  | [], K, hk => ⟨[], hk, rfl⟩
  | .slot k :: rs, K, hk => by
    obtain ⟨v, h1, hk⟩ := slotK_ok hk
    obtain ⟨vs, hk, h2⟩ := res1_ok er r (rs := rs) hk
    exact ⟨v :: vs, hk, by simp only [resList, resOne, getD_er er h1, h2, gL]⟩
  | .cell k a sz :: rs, K, hk => by
    obtain ⟨p, h1, hk⟩ := slotK_ok hk
    obtain ⟨v, hk, h3⟩ := oLoad_ok r hk
    obtain ⟨vs, hk, h2⟩ := res1_ok er r (rs := rs) hk
    exact ⟨v :: vs, hk, by simp only [resList, resOne, getD_er er h1, h3, h2, gL]⟩
theorem resK_ok {e : Env} {h : H} (er : ER S D n t e) {fh : FH} (r : HR S fh h) {rs : List ARes} {z : FV × FH} {K : KV} (hk : resK fh K t rs = some z) : ∃ v, K v fh = some z ∧ resOf e h rs = some (g S v) := by
  unfold resK at hk
  split at hk
  · obtain ⟨v, h1, hk⟩ := slotK_ok hk
    exact ⟨v, hk, by simp only [resOf, resList, resOne, getD_er er h1]⟩
  · obtain ⟨p, h1, hk⟩ := slotK_ok hk
    obtain ⟨v, hk, h3⟩ := oLoad_ok r hk
    exact ⟨v, hk, by simp only [resOf, resList, resOne, getD_er er h1, h3]⟩
  · rename_i n1 n2
    obtain ⟨vs, hk, h2⟩ := res1_ok er r (rs := rs) (K := fun vs => K (.tup vs) fh) hk
    refine ⟨_, hk, ?_⟩
    have hlen : ∀ v, gL S vs ≠ [v] := by
      generalize gL S vs = ws at h2
      intro v hv
      cases rs with
      | nil => simp only [resList, Option.some.injEq] at h2; rw [← h2] at hv; cases hv
      | cons a rs =>
        cases rs with
        | nil => cases a with
          | slot m => exact n1 m rfl
          | cell m b sz => exact n2 m b sz rfl
        | cons b rs =>
          simp only [resList] at h2
          split at h2
          · rename_i q
            split at q
            · cases q
              cases h2
              cases hv
            · cases q
          · cases h2
    unfold resOf
    rw [h2]
    generalize hw : gL S vs = ws at hlen
    have : g S (.tup vs) = .tup ws := by rw [← hw]; rfl
    rw [this]
    match ws, hlen with
    | [], _ => rfl
    | [v], q => exact absurd rfl (q v)
    | _ :: _ :: _, _ => rfl
def GoOK (S : Sg) (fns : Fns) (f : Nat) (args : List FV) (go : Nat → FH → KV → R) : Prop := ∀ base fh K z h, go base fh K = some z → HR S fh h →
  ∃ v fh' h', K v fh' = some z ∧ HR S fh' h' ∧ From fun m => Am.callF fns (exec fns m) f (gL S args) base h = some (g S v, h')
structure TabOK (S : Sg) (fns : Fns) (T : Nat → Option FFn) : Prop where
  code : ∀ f p fn, T f = some (.code p fn) → fns f = some (.code (trF fn)) ∧ okF p fn = true
  spec : ∀ f s, T f = some (.spec s) → ∀ args, GoOK S fns f args fun base h K => s base h args K
  pure : ∀ f s, T f = some (.pure s) → ∀ args K z, s args K = some z → ∃ v, K v = some z ∧ ∀ base h, From fun m => MC fns m .pure f (gL S args) base h = some (g S v, h)
theorem ckK_ok {f : Nat} {args : List FV} {go : Nat → FH → KV → R} (ok : GoOK S fns f args go) {k : CK} {fh : FH} {K : KV} {z : FV × FH} (hk : ckK go args base fh K k = some z) {h : H} (r : HR S fh h) :
    ∃ v fh' h', K v fh' = some z ∧ HR S fh' h' ∧ From (fun m => MC fns m k f (gL S args) base h = some (g S v, h')) := by
  cases k with
  | wr => exact ok base fh K z h hk r
  | ro =>
    obtain ⟨v, fh', h', hk, r', q⟩ := ok _ _ _ _ _ hk r
    obtain ⟨hu, hk⟩ := condN hk
    refine ⟨v, fh, h, hk, r, q.mono fun m q => ?_⟩
    simp only [MC, callSem, r.nx, q, undF_ok hu, if_true]
  | pure =>
    obtain ⟨ha, hk⟩ := condN hk
    obtain ⟨v, fh', h', hk, r', q⟩ := ok _ _ _ _ _ hk .emp
    obtain ⟨hu, hk⟩ := condN hk
    refine ⟨v, fh, h, hk, r, q.mono fun m q => ?_⟩
    simp only [MC, callSem, undA_ok ha, if_true, q, undF_ok hu]
theorem callF_ok {T : Nat → Option FFn} (ok : TabOK S fns T) : ∀ k, CallsOK S fns (callF T k)
  | 0 => fun base fh K ck f vs z h hk r => by cases hk
  | k + 1 => fun base fh K ck f args z h hk r => by
    have co := callF_ok ok k
    have hk : (match T f with
      | some (.code p fn) => cond (Nat.beq (lenL args) p) (ckK (goF (callF T k) fn args) args base fh K ck) none
      | some (.spec s) => ckK (fun base h K => s base h args K) args base fh K ck
      | some (.pure s) => pureK s args fh K ck
      | none => none) = some z := hk
    split at hk
    · rename_i p fn hT
      obtain ⟨hf, ho⟩ := ok.code f p fn hT
      obtain ⟨hp, hk⟩ := condN hk
      rw [beq_iff, lenL_eq] at hp
      simp only [okF, Bool.and_eq_true, ble_iff] at ho
      refine ckK_ok (fun base fh K z h hk r => ?_) hk r
      obtain ⟨x, t', fh', e', h', hk, q, er', r'⟩ := evC_ok co (evL_ok (D := dOf p (keptC fn.body)) (n := fn.slots) (base := base) co 1000) fn.body ho.2 (K := fun x e h => match x with
        | .exit _ => none
        | _ => resK h K e fn.res) hk (er_arg hp ho.1) r
      have go : x.back = true → resK fh' K t' fn.res = some z → ∃ v fh' h', K v fh' = some z ∧ HR S fh' h' ∧ From fun m => Am.callF fns (exec fns m) f (gL S args) base h = some (g S v, h') := by
        intro hb hk
        obtain ⟨v, hk, q2⟩ := resK_ok er' r' hk
        refine ⟨v, fh', h', hk, r', q.mono fun m q => ?_⟩
        simp only [Am.callF, hf, trF, q, hb, if_true, q2, Option.map_some]
      cases x with
      | exit i => cases hk
      | normal => exact go rfl hk
      | ret => exact go rfl hk
    · rename_i s hT
      exact ckK_ok (ok.spec f s hT args) hk r
    · rename_i s hT
      cases ck with
      | pure =>
        obtain ⟨v, hk, q⟩ := ok.pure f s hT args _ z hk
        exact ⟨v, fh, h, hk, r, q base h⟩
      | _ => cases hk
    · cases hk
end
end Go.Fm
namespace Go.Am
def ixN (t : List Nat) : List Nat → Option Nat
  | [] => if t.isPrefixOf [] = true then some 0 else none
  | b :: s => if t.isPrefixOf (b :: s) = true then some 0 else (ixN t s).map (· + 1)
def ixI : Option Nat → Int
  | none => -1
  | some n => n
abbrev Spec := Nat → H → List AV → Option (AV × H)
def sIdx : Spec := fun _ h args => match args with
  | [.str s, .str t] => if s.length ≤ 1000000 then some (.int .i64 (ixI (ixN t s)), h) else none
  | _ => none
def sIdxB : Spec := fun _ h args => match args with
  | [.str s, .int .u8 n] => if 0 ≤ n ∧ n < 256 then some (.int .i64 (ixI (ixN [n.toNat] s)), h) else none
  | _ => none
def sCnt : Spec := fun _ h args => match args with
  | [.str s, .int .u8 n] => if 0 ≤ n ∧ n < 256 then some (.int .i64 (s.count n.toNat : Nat), h) else none
  | _ => none
def sStr : Spec := fun _ h args => match args with
  | [.str s] => if s.length ≤ 1000000 then some (.str s, h) else none
  | _ => none
def sDel (k : Nat) : Spec := fun base h args => match args with
  | [.ref o k' 0 len, .int .i64 (.ofNat i), .int .i64 (.ofNat j)] => match h.get o with
    | some (.arr k'' rows) => if k' = k ∧ k'' = k ∧ base ≤ o ∧ i ≤ j ∧ j ≤ len ∧ len ≤ rows.length then some (.ref h.next k 0 (i + (len - j)), (h.kill o).new (.arr k (rows.take i ++ (rows.take len).drop j))) else none
    | _ => none
  | _ => none
def sIns (k : Nat) : Spec := fun base h args => match args with
  | [.ref o k' 0 len, .int .i64 (.ofNat i), .ref p kp 0 m] => match h.get o, h.get p with
    | some (.arr k'' rows), some (.arr _ news) => if k' = k ∧ k'' = k ∧ kp = k ∧ base ≤ o ∧ o ≠ p ∧ i ≤ len ∧ len ≤ rows.length ∧ 1 ≤ m ∧ m ≤ news.length ∧ len + m ≤ 1000000 then
        some (.ref h.next k 0 (len + m), (h.kill o).new (.arr k (rows.take i ++ (news.take m ++ (rows.take len).drop i)))) else none
    | _, _ => none
  | [.vs true [], .int .i64 (.ofNat i), .ref p kp 0 m] => match h.get p with
    | some (.arr _ news) => if i = 0 ∧ kp = k ∧ 1 ≤ m ∧ m ≤ news.length ∧ m ≤ 1000000 then some (.ref h.next k 0 m, h.new (.arr k (news.take m))) else none
    | _ => none
  | _ => none
def sCl (k : Nat) : Spec := fun _ h args => match args with
  | [.str _] => none
  | [v] => match rowsOf h v with
    | some [] => some (.vs true [], h)
    | some (r :: rs) => if r.length = k ∧ (r :: rs).length ≤ 1000000 then some (.ref h.next k 0 (r :: rs).length, h.new (.arr k (r :: rs))) else none
    | none => none
  | _ => none
def bldOwn (o : Nat) : AV → Bool
  | .nilp => true
  | .ptr p 0 0 => p.beq o
  | _ => false
def sBW (T U : Nat) : Spec := fun base h args => match args with
  | [.ptr o 0 0, .str s] => match h.get o with
    | some (.bld t a (.vs true [])) => if t = T ∧ base ≤ o ∧ bldOwn o a = true ∧ s.length ≤ 1000000 then
        if s.length = 0 then some (.tup [.int .i64 (s.length : Nat), .any], h.put o (.bld T (.ptr o 0 0) (.vs true []))) else
        some (.tup [.int .i64 (s.length : Nat), .any], (h.new (.bld U (.str s) .undef)).put o (.bld T (.ptr o 0 0) (.ref h.next 1 0 s.length))) else none
    | some (.bld t a (.ref p 1 0 len)) => match h.get p with
      | some (.bld u (.str r) _) => if t = T ∧ u = U ∧ base ≤ o ∧ base ≤ p ∧ bldOwn o a = true ∧ len = r.length ∧ len + s.length ≤ 1000000 then
          some (.tup [.int .i64 (s.length : Nat), .any], ((h.kill p).new (.bld U (.str (r ++ s)) .undef)).put o (.bld T (.ptr o 0 0) (.ref h.next 1 0 (len + s.length)))) else none
      | _ => none
    | _ => none
  | _ => none
def sBS (T U : Nat) : Spec := fun base h args => match args with
  | [.ptr o 0 0] => match h.get o with
    | some (.bld t a (.vs true [])) => if t = T ∧ bldOwn o a = true then some (.str [], h) else none
    | some (.bld t a (.ref p 1 0 len)) => match h.get p with
      | some (.bld u (.str r) _) => if t = T ∧ u = U ∧ bldOwn o a = true ∧ base ≤ p ∧ 1 ≤ len ∧ len = r.length ∧ len ≤ 1000000 then some (.str r, h.kill p) else none
      | _ => none
    | _ => none
  | _ => none
end Go.Am
namespace Go.Fm
open Go.Am
open Go (IntKind)
noncomputable def pq (t : List FB) : List FB → Nat :=
  List.rec (fun _ => 0) (fun a _ ih s => List.rec 1 (fun b s _ => Nat.rec (ih s) (fun m _ => Nat.rec 1 (fun _ _ => cond (Nat.beq (ih s) 1) 1 2) m) (bq a b)) s) t
noncomputable def ixK (t s : List FB) : Nat → (Option Nat → R) → R :=
  List.rec (fun i K => Nat.rec (K (some i)) (fun m _ => Nat.rec (K none) (fun _ _ => none) m) (pq t []))
    (fun a s ih i K => Nat.rec (K (some i)) (fun m _ => Nat.rec (ih (Nat.succ i) K) (fun _ _ => none) m) (pq t (a :: s))) s
noncomputable def ixF (r : Option Nat) : FV := Option.rec (.int .i64 (.lit (-1))) (fun n => .int .i64 (.lit (Int.ofNat n))) r
noncomputable def cntK (b : FB) (s : List FB) : Nat → (Nat → R) → R :=
  List.rec (fun n K => K n) (fun a _ ih n K => Nat.rec (ih (Nat.succ n) K) (fun m _ => Nat.rec (ih n K) (fun _ _ => none) m) (bq b a)) s
noncomputable def byteK (n : FI) (K : FB → R) : R := match n with
  | .lit (.ofNat n) => cond (Nat.ble n 255) (K (.lit n)) none
  | .sym i => K (.sym i)
  | _ => none
abbrev FSpec := Nat → FH → List FV → KV → R
noncomputable def fIdx : FSpec := fun _ h args K => match args with
  | [.str s, .str t] => cond (Nat.ble (lenL s) 1000000) (ixK t s 0 fun r => K (ixF r) h) none
  | _ => none
noncomputable def fIdxB : FSpec := fun _ h args K => match args with
  | [.str s, .int .u8 n] => byteK n fun b => ixK [b] s 0 fun r => K (ixF r) h
  | _ => none
noncomputable def fCnt : FSpec := fun _ h args K => match args with
  | [.str s, .int .u8 n] => byteK n fun b => cntK b s 0 fun r => K (.int .i64 (.lit (Int.ofNat r))) h
  | _ => none
noncomputable def fStr : FSpec := fun _ h args K => match args with
  | [.str s] => cond (Nat.ble (lenL s) 1000000) (K (.str s) h) none
  | _ => none
noncomputable def and6 (a b c d e f : Bool) : Bool := cond a (cond b (cond c (cond d (cond e f false) false) false) false) false
noncomputable def fDel (k : Nat) : FSpec := fun base h args K => match args with
  | [.ref o k' 0 len, .int .i64 (.lit (.ofNat i)), .int .i64 (.lit (.ofNat j))] => match h.get o with
    | some (.arr k'' rows) => cond (and6 (Nat.beq k' k) (Nat.beq k'' k) (Nat.ble base o) (Nat.ble i j) (Nat.ble j len) (Nat.ble len (lenL rows)))
        (K (.ref h.next k 0 (Nat.add i (Nat.sub len j))) ((h.kill o).new (.arr k (app (takeN i rows) (dropN j (takeN len rows)))))) none
    | _ => none
  | _ => none
noncomputable def fIns (k : Nat) : FSpec := fun base h args K => match args with
  | [.ref o k' 0 len, .int .i64 (.lit (.ofNat i)), .ref p kp 0 m] => match h.get o, h.get p with
    | some (.arr k'' rows), some (.arr _ news) => cond (and6 (Nat.beq k' k) (Nat.beq k'' k) (Nat.beq kp k) (Nat.ble base o) (not (Nat.beq o p)) (and6 (Nat.ble i len) (Nat.ble len (lenL rows)) (Nat.ble 1 m) (Nat.ble m (lenL news)) (Nat.ble (Nat.add len m) 1000000) true))
        (K (.ref h.next k 0 (Nat.add len m)) ((h.kill o).new (.arr k (app (takeN i rows) (app (takeN m news) (dropN i (takeN len rows))))))) none
    | _, _ => none
  | [.vs true [], .int .i64 (.lit (.ofNat i)), .ref p kp 0 m] => match h.get p with
    | some (.arr _ news) => cond (and6 (Nat.beq i 0) (Nat.beq kp k) (Nat.ble 1 m) (Nat.ble m (lenL news)) (Nat.ble m 1000000) true) (K (.ref h.next k 0 m) (h.new (.arr k (takeN m news)))) none
    | _ => none
  | _ => none
noncomputable def fCl (k : Nat) : FSpec := fun _ h args K => match args with
  | [.str _] => none
  | [v] => rowsK h v fun rows => match rows with
    | [] => K (.vs true []) h
    | r :: rs => cond (and6 (Nat.beq (lenL r) k) (Nat.ble (lenL (r :: rs)) 1000000) true true true true) (K (.ref h.next k 0 (lenL (r :: rs))) (h.new (.arr k (r :: rs)))) none
  | _ => none
noncomputable def ownF (o : Nat) : FV → Bool
  | .nilp => true
  | .ptr p 0 0 => Nat.beq p o
  | _ => false
noncomputable def fBW (T U : Nat) : FSpec := fun base h args K => match args with
  | [.ptr o 0 0, .str s] => match h.get o with
    | some (.bld t a (.vs true [])) => cond (and6 (Nat.beq t T) (Nat.ble base o) (ownF o a) (Nat.ble (lenL s) 1000000) true true)
        (cond (Nat.beq (lenL s) 0) (K (.tup [.int .i64 (.lit (Int.ofNat (lenL s))), .any]) (h.put o (.bld T (.ptr o 0 0) (.vs true []))))
          (K (.tup [.int .i64 (.lit (Int.ofNat (lenL s))), .any]) ((h.new (.bld U (.str s) .undef)).put o (.bld T (.ptr o 0 0) (.ref h.next 1 0 (lenL s)))))) none
    | some (.bld t a (.ref p 1 0 len)) => match h.get p with
      | some (.bld u (.str r) _) => cond (and6 (Nat.beq t T) (Nat.beq u U) (Nat.ble base o) (Nat.ble base p) (ownF o a) (and6 (Nat.beq len (lenL r)) (Nat.ble (Nat.add len (lenL s)) 1000000) true true true true))
          (K (.tup [.int .i64 (.lit (Int.ofNat (lenL s))), .any]) (((h.kill p).new (.bld U (.str (app r s)) .undef)).put o (.bld T (.ptr o 0 0) (.ref h.next 1 0 (Nat.add len (lenL s)))))) none
      | _ => none
    | _ => none
  | _ => none
noncomputable def fBS (T U : Nat) : FSpec := fun base h args K => match args with
  | [.ptr o 0 0] => match h.get o with
    | some (.bld t a (.vs true [])) => cond (cond (Nat.beq t T) (ownF o a) false) (K (.str []) h) none
    | some (.bld t a (.ref p 1 0 len)) => match h.get p with
      | some (.bld u (.str r) _) => cond (and6 (Nat.beq t T) (Nat.beq u U) (ownF o a) (Nat.ble base p) (Nat.ble 1 len) (and6 (Nat.beq len (lenL r)) (Nat.ble len 1000000) true true true true)) (K (.str r) (h.kill p)) none
      | _ => none
    | _ => none
  | _ => none
def SpOK (S : Sg) (s1 : Spec) (s2 : FSpec) : Prop := ∀ base fh args K z h, s2 base fh args K = some z → HR S fh h → ∃ v fh' h', K v fh' = some z ∧ HR S fh' h' ∧ s1 base h (gL S args) = some (g S v, h')
section
variable {S : Sg} {fh : FH} {h : H} {z : FV × FH}
theorem SpOK.go {fns : Fns} {f : Nat} {s1 : Spec} {s2 : FSpec} (q : SpOK S s1 s2) (hf : fns f = some (.spec s1)) (args : List FV) : GoOK S fns f args fun base h K => s2 base h args K := by
  intro base fh K z h hk r
  obtain ⟨v, fh', h', k1, k2, k3⟩ := q base fh args K z h hk r
  exact ⟨v, fh', h', k1, k2, .of fun m => by simp only [Am.callF, hf, k3]⟩
theorem pq_ok (S : Sg) : ∀ t s : List FB, (pq t s = 0 → (t.map (gB S)).isPrefixOf (s.map (gB S)) = true) ∧ (pq t s = 1 → (t.map (gB S)).isPrefixOf (s.map (gB S)) = false)
  | [], s => by
    refine ⟨fun _ => by simp, ?_⟩
    intro h
    cases h
  | a :: t, [] => by
    refine ⟨?_, fun _ => by simp [List.isPrefixOf]⟩
    intro h
    cases h
  | a :: t, b :: s => by
    obtain ⟨i1, i2⟩ := pq_ok S t s
    obtain ⟨j1, j2⟩ := bq_ok S a b
    have hd : pq (a :: t) (b :: s) = Nat.rec (motive := fun _ => Nat) (pq t s) (fun m _ => Nat.rec (motive := fun _ => Nat) 1 (fun _ _ => cond (Nat.beq (pq t s) 1) 1 2) m) (bq a b) := rfl
    rw [hd]
    simp only [List.map_cons, List.isPrefixOf]
    cases hb : bq a b with
    | zero => simp only [j1 hb, beq_self_eq_true, Bool.true_and]; exact ⟨i1, i2⟩
    | succ m =>
      cases m with
      | zero =>
        have := j2 hb
        refine ⟨?_, fun _ => by simp [this]⟩
        intro h
        cases h
      | succ m =>
        show (cond (Nat.beq (pq t s) 1) 1 2 = 0 → _) ∧ (cond (Nat.beq (pq t s) 1) 1 2 = 1 → _)
        cases hc : Nat.beq (pq t s) 1 with
        | true =>
          refine ⟨?_, fun _ => by rw [i2 (Nat.eq_of_beq_eq_true hc), Bool.and_false]⟩
          intro h
          cases h
        | false =>
          refine ⟨?_, ?_⟩
          · intro h; cases h
          · intro h; cases h
theorem ixK_ok (t : List FB) : ∀ (s : List FB) (i : Nat) (K : Option Nat → R), ixK t s i K = some z → ∃ r, K (r.map (i + ·)) = some z ∧ ixN (t.map (gB S)) (s.map (gB S)) = r
  | [], i, K, h => by
    have hd : ixK t [] i K = Nat.rec (motive := fun _ => R) (K (some i)) (fun m _ => Nat.rec (motive := fun _ => R) (K none) (fun _ _ => none) m) (pq t []) := rfl
    rw [hd] at h
    obtain ⟨j1, j2⟩ := pq_ok S t []
    simp only [List.map_nil] at j1 j2
    simp only [List.map_nil, ixN]
    cases hb : pq t [] with
    | zero => rw [hb] at h; exact ⟨some 0, h, by rw [if_pos (j1 hb)]⟩
    | succ m =>
      cases m with
      | zero => rw [hb] at h; exact ⟨none, h, by rw [if_neg (by rw [show (List.map (gB S) t).isPrefixOf [] = false from j2 hb]; simp)]⟩
      | succ m => rw [hb] at h; cases h
  | a :: s, i, K, h => by
    have hd : ixK t (a :: s) i K = Nat.rec (motive := fun _ => R) (K (some i)) (fun m _ => Nat.rec (motive := fun _ => R) (ixK t s (Nat.succ i) K) (fun _ _ => none) m) (pq t (a :: s)) := rfl
    rw [hd] at h
    obtain ⟨j1, j2⟩ := pq_ok S t (a :: s)
    simp only [List.map_cons] at j1 j2
    simp only [List.map_cons, ixN]
    cases hb : pq t (a :: s) with
    | zero => rw [hb] at h; exact ⟨some 0, h, by rw [if_pos (j1 hb)]⟩
    | succ m =>
      cases m with
      | zero =>
        rw [hb] at h
        obtain ⟨r, h1, h2⟩ := ixK_ok t s (i + 1) K h
        refine ⟨r.map (· + 1), ?_, by rw [if_neg (by rw [show (List.map (gB S) t).isPrefixOf (gB S a :: List.map (gB S) s) = false from j2 hb]; simp), h2]⟩
        rw [← h1, Option.map_map]
        congr 2
        funext n
        show i + (n + 1) = i + 1 + n
        omega
      | succ m => rw [hb] at h; cases h
theorem ixF_ok (r : Option Nat) : g S (ixF r) = .int .i64 (ixI r) := by cases r <;> rfl
theorem cntK_ok (b : FB) : ∀ (s : List FB) (n : Nat) (K : Nat → R), cntK b s n K = some z → K (n + (s.map (gB S)).count (gB S b)) = some z
  | [], n, K, h => h
  | a :: s, n, K, h => by
    have hd : cntK b (a :: s) n K = Nat.rec (motive := fun _ => R) (cntK b s (Nat.succ n) K) (fun m _ => Nat.rec (motive := fun _ => R) (cntK b s n K) (fun _ _ => none) m) (bq b a) := rfl
    rw [hd] at h
    obtain ⟨j1, j2⟩ := bq_ok S b a
    simp only [List.map_cons]
    cases hb : bq b a with
    | zero =>
      rw [hb] at h
      have := cntK_ok b s (n + 1) K h
      rw [← j1 hb, List.count_cons_self, show n + (List.count (gB S b) (List.map (gB S) s) + 1) = n + 1 + List.count (gB S b) (List.map (gB S) s) by omega]
      exact this
    | succ m =>
      cases m with
      | zero =>
        rw [hb] at h
        rw [List.count_cons_of_ne (fun e => j2 hb e.symm)]
        exact cntK_ok b s n K h
      | succ m => rw [hb] at h; cases h
theorem byteK_ok {n : FI} {K : FB → R} (hk : byteK n K = some z) : ∃ b, K b = some z ∧ 0 ≤ gI S n ∧ gI S n < 256 ∧ (gI S n).toNat = gB S b := by
  unfold byteK at hk
  split at hk
  · rename_i n
    obtain ⟨q, hk⟩ := condN hk
    rw [ble_iff] at q
    exact ⟨_, hk, by simp [gI], by simp [gI]; omega, by simp [gI, gB]⟩
  · rename_i i
    have := S.hi i
    exact ⟨_, hk, by simp [gI], by simp [gI]; omega, by simp [gI, gB]⟩
  · cases hk
theorem fIdx_ok (S : Sg) : SpOK S sIdx fIdx := by
  intro base fh args K z h hk r
  unfold fIdx at hk
  split at hk
  · rename_i s t
    obtain ⟨q, hk⟩ := condN hk
    rw [ble_iff, lenL_eq] at q
    obtain ⟨rr, h1, h2⟩ := ixK_ok (S := S) t s 0 _ hk
    refine ⟨_, _, _, h1, r, ?_⟩
    simp only [gL, g, sIdx, List.length_map]
    rw [if_pos q, h2]
    have : rr.map (0 + ·) = rr := by cases rr <;> simp
    rw [this, ixF_ok]
  · cases hk
theorem fIdxB_ok (S : Sg) : SpOK S sIdxB fIdxB := by
  intro base fh args K z h hk r
  unfold fIdxB at hk
  split at hk
  · rename_i s n
    obtain ⟨b, hk, b1, b2, b3⟩ := byteK_ok (S := S) hk
    obtain ⟨rr, h1, h2⟩ := ixK_ok (S := S) [b] s 0 _ hk
    refine ⟨_, _, _, h1, r, ?_⟩
    simp only [gL, g, sIdxB]
    simp only [List.map_cons, List.map_nil] at h2
    rw [if_pos ⟨b1, b2⟩, b3, h2]
    have : rr.map (0 + ·) = rr := by cases rr <;> simp
    rw [this, ixF_ok]
  · cases hk
theorem fCnt_ok (S : Sg) : SpOK S sCnt fCnt := by
  intro base fh args K z h hk r
  unfold fCnt at hk
  split at hk
  · rename_i s n
    obtain ⟨b, hk, b1, b2, b3⟩ := byteK_ok (S := S) hk
    have h1 := cntK_ok (S := S) b s 0 _ hk
    refine ⟨_, _, _, h1, r, ?_⟩
    simp only [gL, g, sCnt]
    rw [if_pos ⟨b1, b2⟩, b3, Nat.zero_add]
    simp [gI]
  · cases hk
theorem fStr_ok (S : Sg) : SpOK S sStr fStr := by
  intro base fh args K z h hk r
  unfold fStr at hk
  split at hk
  · rename_i s
    obtain ⟨q, hk⟩ := condN hk
    rw [ble_iff, lenL_eq] at q
    refine ⟨_, _, _, hk, r, ?_⟩
    simp only [gL, g, sStr, List.length_map]
    rw [if_pos q]
  · cases hk
theorem and6_ok {a b c d e f : Bool} (h : and6 a b c d e f = true) : a = true ∧ b = true ∧ c = true ∧ d = true ∧ e = true ∧ f = true := by
  cases a <;> cases b <;> cases c <;> cases d <;> cases e <;> cases f <;> simp_all [and6]
theorem nbeq_iff {a b : Nat} : Nat.beq a b = true ↔ a = b := ⟨Nat.eq_of_beq_eq_true, fun h => by rw [h]; exact Nat.beq_refl b⟩
theorem fDel_ok (S : Sg) (k : Nat) : SpOK S (sDel k) (fDel k) := by
  intro base fh args K z h hk r
  unfold fDel at hk
  split at hk
  · rename_i o k' len i j
    split at hk
    · rename_i k'' rows ho
      have hh : h.get o = some (.arr k'' (gR S rows)) := by rw [r.gt, ho]; rfl
      obtain ⟨q, hk⟩ := condN hk
      obtain ⟨q1, q2, q3, q4, q5, q6⟩ := and6_ok q
      rw [nbeq_iff] at q1 q2
      rw [ble_iff] at q3 q4 q5 q6
      rw [lenL_eq] at q6
      refine ⟨_, _, (h.kill o).new (.arr k ((gR S rows).take i ++ ((gR S rows).take len).drop j)), hk, (r.kill o).new ?_, ?_⟩
      · simp only [gO, app_eq, takeN_eq, dropN_eq, gR_app, gR_take, gR_drop]
      · simp only [gL, g, gI, sDel, hh]
        rw [if_pos ⟨q1, q2, q3, q4, q5, by rw [gR_len]; exact q6⟩, r.nx]; rfl
    · cases hk
  · cases hk
theorem fCl_ok (S : Sg) (k : Nat) : SpOK S (sCl k) (fCl k) := by
  intro base fh args K z h hk r
  unfold fCl at hk
  split at hk
  · cases hk
  · rename_i v hv
    have hv' : ∀ s, g S v ≠ .str s := by
      intro s e
      cases v with
      | str s' => exact hv s' rfl
      | opq j => cases hk
      | _ => cases e
    obtain ⟨rows, hk, h1, _⟩ := rowsK_ok r hk
    have e0 : sCl k base h (gL S [v]) = match rowsOf h (g S v) with
      | some [] => some (.vs true [], h)
      | some (r :: rs) => if r.length = k ∧ (r :: rs).length ≤ 1000000 then some (.ref h.next k 0 (r :: rs).length, h.new (.arr k (r :: rs))) else none
      | none => none := by
      simp only [gL]
      generalize hg : g S v = w at hv' ⊢
      cases w with
      | str s => exact absurd rfl (hv' s)
      | _ => rfl
    rw [e0, h1]
    cases rows with
    | nil => exact ⟨_, _, _, hk, r, by simp only [gR, g]⟩
    | cons x rs =>
      obtain ⟨q, hk⟩ := condN hk
      obtain ⟨q1, q2, _⟩ := and6_ok q
      rw [nbeq_iff, lenL_eq] at q1
      rw [ble_iff, lenL_eq] at q2
      refine ⟨_, _, h.new (.arr k (gR S (x :: rs))), hk, r.new rfl, ?_⟩
      simp only [gR]
      rw [if_pos ⟨by rw [gL_len]; exact q1, by simpa [gR_len] using q2⟩]
      simp only [g, lenL_eq, r.nx, List.length_cons, gR_len]
  · cases hk
theorem fIns_ok (S : Sg) (k : Nat) : SpOK S (sIns k) (fIns k) := by
  intro base fh args K z h hk r
  unfold fIns at hk
  split at hk
  · rename_i o k' len i p kp m
    split at hk
    · rename_i k'' rows k3 news ho hp
      have hh : h.get o = some (.arr k'' (gR S rows)) := by rw [r.gt, ho]; rfl
      have hhp : h.get p = some (.arr k3 (gR S news)) := by rw [r.gt, hp]; rfl
      obtain ⟨q, hk⟩ := condN hk
      obtain ⟨q1, q2, q3, q4, q5, q6⟩ := and6_ok q
      obtain ⟨p1, p2, p3, p4, p5, _⟩ := and6_ok q6
      rw [nbeq_iff] at q1 q2 q3
      rw [ble_iff] at q4 p1 p2 p3 p4 p5
      rw [lenL_eq] at p2 p4
      have q5 : o ≠ p := by
        intro e
        rw [nbeq_iff.2 e] at q5
        cases q5
      refine ⟨_, _, (h.kill o).new (.arr k ((gR S rows).take i ++ ((gR S news).take m ++ ((gR S rows).take len).drop i))), hk, (r.kill o).new ?_, ?_⟩
      · simp only [gO, app_eq, takeN_eq, dropN_eq, gR_app, gR_take, gR_drop]
      · simp only [gL, g, gI, sIns, hh, hhp]
        rw [if_pos ⟨q1, q2, q3, q4, q5, p1, by rw [gR_len]; exact p2, p3, by rw [gR_len]; exact p4, p5⟩, r.nx]; rfl
    · cases hk
  · rename_i i p kp m
    split at hk
    · rename_i k3 news hp
      have hhp : h.get p = some (.arr k3 (gR S news)) := by rw [r.gt, hp]; rfl
      obtain ⟨q, hk⟩ := condN hk
      obtain ⟨q1, q2, q3, q4, q5, _⟩ := and6_ok q
      rw [nbeq_iff] at q1 q2
      rw [ble_iff] at q3 q4 q5
      rw [lenL_eq] at q4
      refine ⟨_, _, h.new (.arr k ((gR S news).take m)), hk, r.new ?_, ?_⟩
      · simp only [gO, takeN_eq, gR_take]
      · simp only [gL, g, gI, gR, sIns, hhp]
        rw [if_pos ⟨q1, q2, q3, by rw [gR_len]; exact q4, q5⟩, r.nx]
    · cases hk
  · cases hk
theorem ownF_ok {o : Nat} {v : FV} (hv : ownF o v = true) : bldOwn o (g S v) = true := by
  unfold ownF at hv
  split at hv
  · rfl
  · exact hv
  · cases hv
theorem fBW_ok (S : Sg) (T U : Nat) : SpOK S (sBW T U) (fBW T U) := by
  intro base fh args K z h hk r
  unfold fBW at hk
  split at hk
  · rename_i o s
    split at hk
    · rename_i t a ho
      have hh : h.get o = some (.bld t (g S a) (.vs true [])) := by rw [r.gt, ho]; simp only [Option.map_some, gO, g, gR]
      obtain ⟨q, hk⟩ := condN hk
      obtain ⟨q1, q2, q3, q4, _⟩ := and6_ok q
      rw [nbeq_iff] at q1
      rw [ble_iff] at q2 q4
      rw [lenL_eq] at q4
      rcases condK hk with ⟨q5, hk⟩ | ⟨q5, hk⟩
      · rw [nbeq_iff, lenL_eq] at q5
        refine ⟨_, _, h.put o (.bld T (.ptr o 0 0) (.vs true [])), hk, r.put o ?_, ?_⟩
        · simp only [gO, g, gR]
        · simp only [gL, g, sBW, hh, List.length_map]
          rw [if_pos ⟨q1, q2, ownF_ok q3, q4⟩, if_pos q5]
          simp only [gI, lenL_eq]; rfl
      · have q5 : s.length ≠ 0 := fun e => by
          rw [lenL_eq] at q5
          rw [nbeq_iff.2 e] at q5
          cases q5
        refine ⟨_, _, (h.new (.bld U (.str (s.map (gB S))) .undef)).put o (.bld T (.ptr o 0 0) (.ref h.next 1 0 s.length)), hk, (r.new ?_).put o ?_, ?_⟩
        · simp only [gO, g]
        · simp only [gO, g, lenL_eq, r.nx]
        · simp only [gL, g, sBW, hh, List.length_map]
          rw [if_pos ⟨q1, q2, ownF_ok q3, q4⟩, if_neg q5]
          simp only [gI, lenL_eq]; rfl
    · rename_i t a p len ho
      split at hk
      · rename_i u r' x hp
        have hh : h.get o = some (.bld t (g S a) (.ref p 1 0 len)) := by rw [r.gt, ho]; simp only [Option.map_some, gO, g]
        have hhp : h.get p = some (.bld u (.str (r'.map (gB S))) (g S x)) := by rw [r.gt, hp]; simp only [Option.map_some, gO, g]
        obtain ⟨q, hk⟩ := condN hk
        obtain ⟨q1, q2, q3, q4, q5, q6⟩ := and6_ok q
        obtain ⟨p1, p2, _⟩ := and6_ok q6
        rw [nbeq_iff] at q1 q2 p1
        rw [ble_iff] at q3 q4 p2
        rw [lenL_eq] at p1
        rw [natAdd, lenL_eq] at p2
        refine ⟨_, _, ((h.kill p).new (.bld U (.str (r'.map (gB S) ++ s.map (gB S))) .undef)).put o (.bld T (.ptr o 0 0) (.ref h.next 1 0 (len + s.length))), hk, ((r.kill p).new ?_).put o ?_, ?_⟩
        · simp only [gO, g, app_eq, List.map_append]
        · simp only [gO, g, lenL_eq, r.nx, natAdd]
        · simp only [gL, g, sBW, hh, hhp, List.length_map]
          rw [if_pos ⟨q1, q2, q3, q4, ownF_ok q5, p1, p2⟩]
          simp only [gI, lenL_eq]; rfl
      · cases hk
    · cases hk
  · cases hk
theorem fBS_ok (S : Sg) (T U : Nat) : SpOK S (sBS T U) (fBS T U) := by
  intro base fh args K z h hk r
  unfold fBS at hk
  split at hk
  · rename_i o
    split at hk
    · rename_i t a ho
      have hh : h.get o = some (.bld t (g S a) (.vs true [])) := by rw [r.gt, ho]; simp only [Option.map_some, gO, g, gR]
      obtain ⟨q, hk⟩ := condN hk
      obtain ⟨q, q2⟩ := andB q
      rw [nbeq_iff] at q
      refine ⟨_, _, h, hk, r, ?_⟩
      simp only [gL, g, sBS, hh, List.map_nil]
      rw [if_pos ⟨q, ownF_ok q2⟩]
    · rename_i t a p len ho
      split at hk
      · rename_i u r' x hp
        have hh : h.get o = some (.bld t (g S a) (.ref p 1 0 len)) := by rw [r.gt, ho]; simp only [Option.map_some, gO, g]
        have hhp : h.get p = some (.bld u (.str (r'.map (gB S))) (g S x)) := by rw [r.gt, hp]; simp only [Option.map_some, gO, g]
        obtain ⟨q, hk⟩ := condN hk
        obtain ⟨q1, q2, q3, q4, q5, q6⟩ := and6_ok q
        obtain ⟨p1, p2, _⟩ := and6_ok q6
        rw [nbeq_iff] at q1 q2 p1
        rw [ble_iff] at q4 q5 p2
        rw [lenL_eq] at p1
        refine ⟨_, _, h.kill p, hk, r.kill p, ?_⟩
        simp only [gL, g, sBS, hh, hhp, List.length_map]
        rw [if_pos ⟨q1, q2, ownF_ok q3, q4, q5, p1, p2⟩]
      · cases hk
    · cases hk
  · cases hk
end
end Go.Fm
