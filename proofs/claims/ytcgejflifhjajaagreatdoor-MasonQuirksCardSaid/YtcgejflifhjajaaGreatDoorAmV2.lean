/- Parts of an abstract machine and its proofs: AmV2. -/
import Derived.Test.YtcgejflifhjajaaGreatDoorAmV1

set_option linter.unusedSimpArgs false
set_option linter.unusedVariables false
namespace Go.Am
section
variable {θ θ' : Th} {ba : Ba} {base : Nat} {h h' : HV} {h1 h1' : H} {e : List V} {e1 : List AV} {v w : V} {a b : AV} {fns : Fns}
def GhostOK (ba : Ba) (e : List V) (h : HV) (g : Gh) (e' : List V) (h' : HV) : Prop :=
  ∀ θ base e1 h1, VTL θ e e1 → RH θ ba base h h1 → ∃ e1' h1' θ', ghost base g e1 h1 = some (e1', h1') ∧ VTL θ' e' e1' ∧ RH θ' ba base h' h1' ∧ Grow θ θ' h1 h1'
theorem set_self {l : List AV} {n : Nat} : l.set n (l.getD n .undef) = l := VTL.setA.setSelfA
theorem frz_arr {q k n : Nat} {R : List (List AV)} {s : Sq} (hw : base ≤ q) (hg : h1.get q = some (.arr k R)) (hl : R.length = n) (hb : R.length ≤ 1000000000) (hs : VCR θ s.rows R) (hk : ∀ r ∈ R, r.length = k) (hkb : k ≤ 1000000) :
    frz frzFuel base h1 (.ref q k 0 n) = some (.vs false R, h1.kill q) := by
  have hf : frzFuel = 999999999999 + 1 := rfl
  rw [hf]
  simp only [frz, hg]
  rw [if_pos ⟨hw, by omega⟩, frzRows_vcr (h1 := h1.kill q) hs hk (by rw [hs.length]; omega)]
  simp only [List.drop_zero]
  rw [← hl, List.take_length]
theorem Sq.kIs_kk {k : Nat} {s : Sq} (h : s.kIs k = true) : s.kk = k := by
  cases s with
  | raw k0 rows => simp only [Sq.kIs, Bool.and_eq_true, Nat.beq_eq] at h; exact h.1
  | ty u l => simp only [Sq.kIs, Nat.beq_eq] at h; exact h
theorem isNil_rows {s : Sq} (h : s.isNil = true) : s.rows = [] := by
  cases s with
  | raw k rows => cases rows with | nil => rfl | cons => cases h
  | ty u l => cases l with | nil => rfl | cons => cases h
theorem frz_ok {n : Nat} {K : List V → HV → Option RA} {z : RA} (hk : ghostV ba (.frz n) e h K = some z) : ∃ e' h', K e' h' = some z ∧ GhostOK ba e h (.frz n) e' h' := by
  simp only [ghostV] at hk
  split at hk
  · rename_i c hv
    have hb0 := boolK hk
    clear hk
    obtain ⟨hw, hk⟩ := hb0
    split at hk
    case h_2 => cases hk
    rename_i s hc
    have hb0 := boolK hk
    clear hk
    obtain ⟨hkk, hk⟩ := hb0
    rw [Nat.ble_eq] at hkk
    refine ⟨_, _, hk, fun θ base e1 h1 he r => ?_⟩
    have hx := he.getD n
    rw [hv] at hx
    have hst := seq_st r hc
    rcases hx.whole' with ⟨q, k, m, hq, hx1⟩ | ⟨hq, hx1⟩
    · cases r.live _ _ hc with
      | virt _ _ a1 => rw [hq] at a1; cases a1
      | seq _ _ q' k' R a1 a2 a3 a4 a5 a6 a7 =>
      rw [hq] at a1; cases a1
      obtain ⟨hl, hb⟩ := a6 rfl
      rw [← hl, List.take_length] at a4
      have hrk := a4.rowlen (Sq.okk_rows (Sq.kIs_okk a5))
      obtain ⟨r', g⟩ := r.cut (h1' := h1.kill q) hst hq rfl (fun q' hq' => by rw [H.get_kill, if_neg]; intro hqq; subst hqq; exact hq' rfl)
      refine ⟨e1.set n (.vs false R), h1.kill q, _, ?_, (he.purge g.le _ fun c hc => Th.upd_other θ hc _).set (.flat (.cell (.vs _ _ _ _ id (a4.mono g.le)))) n, r', g⟩
      simp only [ghost, hx1]
      rw [frz_arr (r.wr _ _ _ hq rfl hw) a2 hl hb a4 hrk (by rw [← Sq.kIs_kk a5]; exact hkk)]
    · cases r.live _ _ hc with
      | seq _ _ q' k' R a1 => rw [hq] at a1; cases a1
      | virt _ _ a1 a2 a3 =>
      obtain ⟨r', g⟩ := r.cut (h1' := h1) hst hq rfl (fun _ _ => rfl)
      refine ⟨e1.set n (.vs true []), h1, _, ?_, (he.purge g.le _ fun c hc => Th.upd_other θ hc _).set (.flat (.cell (.vs _ _ _ _ (by simp) (by rw [a2]; exact .nil)))) n, r', g⟩
      simp only [ghost, hx1]
      rw [show frzFuel = 999999999999 + 1 from rfl, frz_vc (θ := θ) (v := .vs true (.raw 0 [])) (.vs _ _ _ _ id .nil)]
  · have hb0 := boolK hk
    clear hk
    obtain ⟨hok, hk⟩ := hb0
    refine ⟨_, _, hk, fun θ base e1 h1 he r => ⟨e1, h1, θ, ?_, he, r, Grow.refl _ _⟩⟩
    have hx := (he.getD n).okC2 hok
    simp only [ghost]
    rw [show frzFuel = 999999999999 + 1 from rfl, frz_vc hx]
    simp only [set_self]
theorem gcLo_get (lo : Tq O2) : ∀ (ds : List Nat) (d : Nat), (gcLo lo ds).get d = if d ∈ ds then lo.get d else none
  | [], d => by simp [gcLo, Tq.get]
  | x :: ds, d => by
    simp only [gcLo]
    have ih := gcLo_get lo ds d
    split
    · rename_i o ho
      rw [Tq.get_set, ih]
      by_cases hd : d = x
      · subst hd; simp [ho]
      · simp [hd]
    · rename_i ho
      rw [ih]
      by_cases hd : d = x
      · subst hd; simp [ho]
      · simp [hd]
def gcTh (θ : Th) (ds : List Nat) : Th := fun c => match c with
  | .loc d => if d ∈ ds then θ (.loc d) else none
  | c => θ c
theorem RH.gc (r : RH θ ba base h h1) (ds : List Nat) : RH (gcTh θ ds) ba base (h.wlo (gcLo h.lo ds)) h1 ∧ Grow θ (gcTh θ ds) h1 h1 := by
  have hle : θ.le (gcTh θ ds) := fun o q e => e
  have key : ∀ c p, gcTh θ ds c = some p → θ c = some p := by
    intro c p e
    cases c with
    | loc d => simp only [gcTh] at e; split at e; exact e; cases e
    | _ => exact e
  refine ⟨⟨fun c hc => ?_, fun c x hx => ?_, fun c c' p p' q e1 e2 e3 e4 => r.inj _ _ _ _ _ (key _ _ e1) (key _ _ e2) e3 e4, fun c p q e e' => r.lt _ _ _ (key _ _ e) e', fun o ho => r.nx o ho, fun c p q e e' hw => r.wr _ _ _ (key _ _ e) e' hw, r.bn, fun o i ho => r.nxc o i ho⟩,
    ⟨hle, fun _ _ _ => rfl, fun c p q e e' => .inl ⟨c, p, key _ _ e, e'⟩, Nat.le_refl _⟩⟩
  · cases c with
    | st o => exact r.dead (.st o) hc
    | cell o i => exact r.dead (.cell o i) hc
    | loc d =>
      rw [HV.get_wlo] at hc
      simp only at hc
      rw [gcLo_get] at hc
      simp only [gcTh]
      split
      · rename_i hd; rw [if_pos hd] at hc; exact r.dead (.loc d) hc
      · rfl
  · cases c with
    | st o => exact (r.live (.st o) x hx).move hle rfl (fun _ _ _ _ _ _ => rfl) fun _ _ _ _ => rfl
    | cell o i => exact (r.live (.cell o i) x hx).move hle rfl (fun _ _ _ _ _ _ => rfl) fun _ _ _ _ => rfl
    | loc d =>
      rw [HV.get_wlo] at hx
      simp only at hx
      rw [gcLo_get] at hx
      split at hx
      · rename_i hd
        exact (r.live (.loc d) x hx).move hle (by simp only [gcTh]; rw [if_pos hd]) (fun _ _ _ _ h2 _ => by cases h2) fun _ _ _ _ => rfl
      · cases hx
theorem liveLocs_mem {v : V} {d : Nat} (h : v.loc? = some d) : ∀ {l : List V}, v ∈ l → d ∈ liveLocs l
  | w :: l, hm => by
    simp only [liveLocs]
    rcases List.mem_cons.1 hm with rfl | hm
    · rw [h]; simp
    · split
      · exact List.mem_cons_of_mem _ (liveLocs_mem h hm)
      · exact liveLocs_mem h hm
theorem keep_ok {l : List Nat} {K : List V → HV → Option RA} {z : RA} (hk : ghostV ba (.keep l) e h K = some z) : ∃ e' h', K e' h' = some z ∧ GhostOK ba e h (.keep l) e' h' := by
  simp only [ghostV, fzE_eq, fzT_eq] at hk
  refine ⟨_, _, hk, fun θ base e1 h1 he r => ?_⟩
  obtain ⟨r', g⟩ := r.gc (liveLocs (keepE l e))
  refine ⟨_, h1, _, rfl, ?_, r', g⟩
  have key : ∀ {vs : List V} {as : List AV} (i : Nat), VTL θ vs as → VTL θ ((vs.zipIdx i).map fun (v, i) => bif l.contains i then v else .any) ((as.zipIdx i).map fun (v, i) => if l.contains i then v else .any) := by
    intro vs as i x
    induction x generalizing i with
    | nil => exact .nil
    | cons x _ ih =>
      simp only [List.zipIdx_cons, List.map_cons]
      refine .cons ?_ (ih (i + 1))
      cases l.contains i
      · exact .any _
      · exact x
  refine (key 0 he).mono' g.le fun v hv c hc => ?_
  cases c with
  | st o => rfl
  | cell o i => rfl
  | loc d =>
    simp only [gcTh]
    rw [if_pos]
    refine liveLocs_mem (v := v) ?_ hv
    cases v <;> simp only [V.at, Cd.eqb_iff, Bool.false_eq_true] at hc <;> subst hc <;> rfl
theorem note_ok {op n u : Nat} {l : List Nat} {K : List V → HV → Option RA} {z : RA} (hk : ghostV ba (.note op n u l) e h K = some z) : ∃ e' h', K e' h' = some z ∧ GhostOK ba e h (.note op n u l) e' h' := by
  simp only [ghostV] at hk
  -- contents told anew, where they stand
  have retype : ∀ {c : Cd} {s t : Sq} {b : Bool}, h.get c = some (.seq s b) → t.len = s.len → (∀ k, s.kIs k = true → s.isCons = true → t.kIs k = true) → s.isCons = true → (∀ (θ : Th) xs, VCR θ s.rows xs → VCR θ t.rows xs) →
      GhostOK ba e h (.note op n u l) e (h.put c (some (.seq t b))) := by
    intro c s t b hc t1 t2 hcons t3 θ base e1 h1 he r
    refine ⟨e1, h1, θ, rfl, he, ?_, Grow.refl _ _⟩
    have hne : s.rows ≠ [] := by
      cases s with
      | raw k rows => cases rows with | nil => cases hcons | cons => simp [Sq.rows]
      | ty u l => cases l with | nil => cases hcons | cons => simp [Sq.rows]
    cases r.live _ _ hc with
    | virt _ _ a1 a2 => exact absurd a2 hne
    | seq _ _ q k R a1 a2 a3 a4 a5 a6 a7 =>
    have hself : h1.put q (.arr k R) = h1.put q (.arr k R) := rfl
    obtain ⟨r', g⟩ := r.upd (c := c) (q := q) (x := .seq t b) (y := .arr k R) a1 rfl (.seq t b q k R (by rw [t1]; exact a1) (by simp) (by rw [t1]; exact a3) (by rw [t1]; exact t3 θ _ a4) (t2 k a5 hcons) (by rw [t1]; exact a6) a7)
    have hgets : ∀ q', (h1.put q (.arr k R)).get q' = h1.get q' := by
      intro q'; rw [H.get_put]; split
      · rename_i hq; rw [hq, a2]
      · rfl
    refine ⟨r'.dead, fun d x hx => (r'.live d x hx).move (Th.le_refl _) rfl (fun _ _ _ _ _ _ => rfl) fun p q' _ _ => (hgets q').symm, r'.inj, fun d p q' e e' => by simpa using r'.lt d p q' e e', r'.nx, r'.wr, by simpa using r'.bn, r'.nxc⟩
  cases h0 : op.beq 0 with
  | true =>
    rw [h0] at hk
    simp only [cond_true] at hk
    split at hk
    · rename_i f s hv
      have hq0 := Sq.tyK_some hk
      clear hk
      obtain ⟨t, hk, t1, t2, t3⟩ := hq0
      refine ⟨_, _, hk, fun θ base e1 h1 he r => ⟨e1, h1, θ, rfl, ?_, r, Grow.refl _ _⟩⟩
      have hx := he.getD n
      rw [hv] at hx
      obtain ⟨g, rows, hx1, hx2, hx3⟩ := hx.vs'
      refine he.setA n ?_
      rw [hx1]
      exact .flat (.cell (.vs _ _ _ _ hx2 (t3 θ _ hx3)))
    · rename_i c hv
      split at hk
      case h_2 => cases hk
      rename_i s b hc
      have hb0 := boolK hk
      clear hk
      obtain ⟨hcons, hk⟩ := hb0
      have hq0 := Sq.tyK_some hk
      clear hk
      obtain ⟨t, hk, t1, t2, t3⟩ := hq0
      exact ⟨_, _, hk, retype hc t1 t2 hcons t3⟩
    · cases hk
  | false =>
  rw [h0] at hk
  simp only [cond_false] at hk
  cases h1' : op.beq 1 with
  | true =>
    rw [h1'] at hk
    simp only [cond_true] at hk
    split at hk
    · rename_i s hv
      have hb0 := boolK hk
      clear hk
      obtain ⟨hnil, hk⟩ := hb0
      refine ⟨_, _, hk, fun θ base e1 h1 he r => ?_⟩
      have hx := he.getD n
      rw [hv] at hx
      obtain ⟨g, rows, hx1, hx2, hx3⟩ := hx.vs'
      rw [isNil_rows hnil] at hx3
      cases hx3
      have := hx2 rfl
      subst this
      obtain ⟨r', g⟩ := r.newVirt (d := n) (s := .ty (U.ofCode u) []) (b := true) rfl
      refine ⟨e1, h1, _, rfl, ?_, r', g⟩
      refine (he.purge g.le _ fun c hc => Th.upd_other θ hc _).setA n ?_
      rw [hx1]
      exact .wholeV _ (Th.upd_same _ _ _)
    · cases hk
  | false =>
  rw [h1'] at hk
  simp only [cond_false] at hk
  have hcell : ∀ {o off0 : Nat} {cells : List V} {θ : Th} {base : Nat} {e1 : List AV} {h1 : H}, e.getD n .undef = .ptr (.st o) off0 → h.get (.st o) = some (.arr cells) → VTL θ e e1 → RH θ ba base h h1 → ∃ q ds, θ (.st o) = some (.obj q) ∧ h1.get q = some (.arr ds.length [ds]) ∧ CRL θ (.st o) 0 cells ds := by
    intro o off0 cells θ base e1 h1 hv hc he r
    cases r.live _ _ hc with
    | arr _ ds q a1 a2 a3 => exact ⟨q, ds, a1, a2, a3⟩
  have hputself : ∀ {q : Nat} {ds : List AV} {h1 : H} {θ' : Th} {hh : HV} {base : Nat}, h1.get q = some (.arr ds.length [ds]) → RH θ' ba base hh (h1.put q (.arr ds.length [ds])) → RH θ' ba base hh h1 := by
    intro q ds h1 θ' hh base hg r'
    have hgets : ∀ q', (h1.put q (.arr ds.length [ds])).get q' = h1.get q' := by
      intro q'; rw [H.get_put]; split
      · rename_i hq; rw [hq, hg]
      · rfl
    exact ⟨r'.dead, fun d x hx => (r'.live d x hx).move (Th.le_refl _) rfl (fun _ _ _ _ _ _ => rfl) fun p q' _ _ => (hgets q').symm, r'.inj, fun d p q' e e' => by simpa using r'.lt d p q' e e', r'.nx, r'.wr, by simpa using r'.bn, r'.nxc⟩
  cases h2' : op.beq 2 with
  | true =>
    rw [h2'] at hk
    simp only [cond_true] at hk
    split at hk
    case h_2 => cases hk
    rename_i o off0 off hv
    split at hk
    case h_2 => cases hk
    rename_i cells hc
    split at hk
    case h_2 => cases hk
    rename_i s hcell0
    have hb0 := boolK hk
    clear hk
    obtain ⟨hnil, hk⟩ := hb0
    refine ⟨_, _, hk, fun θ base e1 h1 he r => ?_⟩
    obtain ⟨q, ds, hq, hg, hcr⟩ := hcell hv hc he r
    have hle : θ.le (θ.upd (.cell o off) (some .virt)) := Th.le_upd θ rfl _
    obtain ⟨a1, ha1, ha2⟩ := hcr.get hcell0
    have ha3 : a1 = .vs true [] := by
      cases ha2 with
      | cell x => cases x with | vs _ g _ rows x y =>
        rw [isNil_rows hnil] at y
        cases y; rw [x rfl]
    subst ha3
    have hcr' : CRL (θ.upd (.cell o off) (some .virt)) (.st o) 0 (cells.set off (.whole (.cell o off))) ds := by
      have := (hcr.setAny (j := off)).mono hle fun o' j e5 e6 => by
        cases e5
        rw [Th.upd_other]
        intro hq; rw [Nat.zero_add] at hq; cases hq
        rw [Nat.zero_add, List.getElem?_set] at e6
        simp at e6
      have := this.set (j := off) (v := .whole (.cell o off)) (a := .vs true []) (by rw [Nat.zero_add]; exact .own o rfl (.wholeV _ (Th.upd_same _ _ _)))
      rw [List.set_set] at this
      have hd : ds.set off (.vs true []) = ds := by
        refine List.ext_getElem (by simp) fun i q1 q2 => ?_
        rw [List.getElem_set]
        split
        · rename_i hi; subst hi
          rw [List.getElem?_eq_getElem q2] at ha1
          exact (Option.some.inj ha1).symm
        · rfl
      rwa [hd] at this
    have r' := r.own (o := o) (off := off) (qo := q) (p := some .virt) (x := some (.seq (.ty (U.ofCode u) []) true)) ⟨_, hc⟩ hq
      (.inr ⟨.virt, _, rfl, rfl, .virt _ _ (Th.upd_same _ _ _) rfl rfl, (fun c p' q _ _ h => by cases h), (fun q h => by cases h)⟩) hcr'
    refine ⟨e1, h1, _, rfl, he.purge hle _ fun c hc => Th.upd_other θ hc _, hputself hg r', ⟨hle, fun _ _ _ => rfl, fun c' p' q' u1 u2 => ?_, Nat.le_refl _⟩⟩
    by_cases hcd : c' = .cell o off
    · subst hcd; rw [Th.upd_same] at u1; cases u1; cases u2
    · rw [Th.upd_other _ hcd] at u1; exact .inl ⟨_, _, u1, u2⟩
  | false =>
  rw [h2'] at hk
  simp only [cond_false] at hk
  cases h3' : op.beq 3 with
  | false => rw [h3'] at hk; cases hk
  | true =>
  rw [h3'] at hk
  simp only [cond_true] at hk
  split at hk
  case h_2 => cases hk
  rename_i o off0 off hv
  split at hk
  case h_2 => cases hk
  rename_i cells hc
  split at hk
  · rename_i f s hcell0
    have hq0 := Sq.tyK_some hk
    clear hk
    obtain ⟨t, hk, t1, t2, t3⟩ := hq0
    refine ⟨_, _, hk, fun θ base e1 h1 he r => ?_⟩
    obtain ⟨q, ds, hq, hg, hcr⟩ := hcell hv hc he r
    obtain ⟨a1, ha1, ha2⟩ := hcr.get hcell0
    have hcr' : CRL θ (.st o) 0 (cells.set off (.vs f t)) ds := by
      have := hcr.set (j := off) (v := .vs f t) (a := a1) (by
        rw [Nat.zero_add]
        cases ha2 with
        | cell x => cases x with | vs _ g _ rows x y => exact .cell (.vs _ _ _ _ x (t3 θ _ y)))
      have hd : ds.set off a1 = ds := by
        refine List.ext_getElem (by simp) fun i q1 q2 => ?_
        rw [List.getElem_set]
        split
        · rename_i hi; subst hi
          rw [List.getElem?_eq_getElem q2] at ha1
          exact (Option.some.inj ha1).symm
        · rfl
      rwa [hd] at this
    obtain ⟨r', g⟩ := r.upd (c := .st o) (q := q) (x := .arr (cells.set off (.vs f t))) (y := .arr ds.length [ds]) hq rfl (.arr _ ds q hq (by simp) hcr')
    exact ⟨e1, h1, θ, rfl, he, hputself hg r', Grow.refl _ _⟩
  · rename_i c hcell0
    split at hk
    case h_2 => cases hk
    rename_i s b hcc
    have hb0 := boolK hk
    clear hk
    obtain ⟨hcons, hk⟩ := hb0
    have hq0 := Sq.tyK_some hk
    clear hk
    obtain ⟨t, hk, t1, t2, t3⟩ := hq0
    exact ⟨_, _, hk, retype hcc t1 t2 hcons t3⟩
  · cases hk
theorem frzm_ok {n off0 : Nat} {K : List V → HV → Option RA} {z : RA} (hk : ghostV ba (.frzm n off0) e h K = some z) : ∃ e' h', K e' h' = some z ∧ GhostOK ba e h (.frzm n off0) e' h' := by
  simp only [ghostV] at hk
  split at hk
  case h_2 => cases hk
  rename_i o f hv
  generalize hoff0 : f + off0 = off at hk
  have hb0 := boolK hk
  clear hk
  obtain ⟨hw, hk⟩ := hb0
  split at hk
  case h_2 => cases hk
  rename_i cells hc
  split at hk
  case h_3 => cases hk
  case h_2 =>
    rename_i v hnw hcell0
    have hb1 := boolK hk
    clear hk
    obtain ⟨hok, hk⟩ := hb1
    refine ⟨_, _, hk, fun θ base e1 h1 he r => ?_⟩
    have hx := he.getD n
    rw [hv] at hx
    obtain ⟨qo, hqo, hx1⟩ := hx.ptr'
    cases r.live _ _ hc with
    | arr _ ds q a1 a2 a3 =>
    rw [hqo] at a1; cases a1
    obtain ⟨a, ha1, ha2⟩ := a3.get hcell0
    rw [Nat.zero_add] at ha2
    have hw' : base ≤ qo := r.wr _ _ _ hqo rfl hw
    have hoff : off < ds.length := by rw [List.getElem?_eq_some_iff] at ha1; exact ha1.1
    have hvc : VC θ v a := by
      cases ha2 with
      | cell x => exact x
      | any => cases hok
      | own _ _ x => cases hok
    have hag : a.isAgg = false ∧ a.okv = true ∧ a.cells = [a] := by cases hvc <;> exact ⟨rfl, rfl, rfl⟩
    have hload : loadAt h1 false 1 (.ptr qo 0 off) = some a := by
      simp only [loadAt, row_obj a2, Option.bind_some, part]
      rw [if_pos ⟨Nat.le_refl _, by omega⟩, if_neg (by simp), if_pos trivial, ha1]
    have hset : setCells ds off a.cells = ds := by
      rw [hag.2.2]
      unfold setCells
      refine List.ext_getElem? fun i => ?_
      have : ds.take off ++ [a] ++ ds.drop (off + 1) = ds := by
        have e := List.getElem?_eq_some_iff.1 ha1
        rw [List.append_assoc, List.singleton_append, ← e.2, List.getElem_cons_drop, List.take_append_drop]
      simp only [List.length_singleton] at *
      rw [this]
    obtain ⟨r', g⟩ := r.upd (c := .st o) (q := qo) (x := .arr cells) (y := .arr ds.length [ds]) hqo rfl (.arr _ ds qo hqo (by simp) a3)
    refine ⟨e1, h1.put qo (.arr ds.length [ds]), θ, ?_, he, r', g⟩
    simp only [ghost, hx1, faddrAV, hoff0, hload]
    rw [show frzFuel = 999999999999 + 1 from rfl, frz_vc hvc]
    simp only
    rw [storeAt_obj (a := a) (sz := 1) hw' a2 hag.2.1 (by rw [hag.2.2]; rfl) (by omega), hset]
    rfl
  rename_i c hcell0
  split at hk
  case h_2 => cases hk
  rename_i s hcc
  have hb0 := boolK hk
  clear hk
  obtain ⟨hq0, hk⟩ := hb0
  simp only [Bool.and_eq_true, Nat.ble_eq, Cd.eqb_iff] at hq0
  obtain ⟨hcd, hkk⟩ := hq0
  subst hcd
  refine ⟨_, _, hk, fun θ base e1 h1 he r => ?_⟩
  have hx := he.getD n
  rw [hv] at hx
  obtain ⟨qo, hqo, hx1⟩ := hx.ptr'
  cases r.live _ _ hc with
  | arr _ ds q a1 a2 a3 =>
  rw [hqo] at a1; cases a1
  obtain ⟨a, ha1, ha2⟩ := a3.get hcell0
  rw [Nat.zero_add] at ha2
  have hw' : base ≤ qo := r.wr _ _ _ hqo rfl hw
  have hoff : off < ds.length := by rw [List.getElem?_eq_some_iff] at ha1; exact ha1.1
  have hcl := a3.length
  have hval : VT θ (.whole (.cell o off)) a := by
    cases ha2 with
    | cell x => cases x
    | own _ _ x => exact x
  have hload : loadAt h1 false 1 (.ptr qo 0 off) = some a := by
    simp only [loadAt, row_obj a2, Option.bind_some, part]
    rw [if_pos ⟨Nat.le_refl _, by omega⟩, if_neg (by simp), if_pos trivial, ha1]
  have hle : θ.le (θ.upd (.cell o off) none) := Th.le_upd θ rfl _
  have hfin : ∀ (rows : List (List AV)) (g : Bool), VCR θ s.rows rows → CRL (θ.upd (.cell o off) none) (.st o) 0 (cells.set off (.vs false s)) (ds.set off (.vs g rows)) := by
    intro rows g hr
    have := (a3.setAny (j := off)).mono hle fun o' j e5 e6 => by
      cases e5
      rw [Th.upd_other]
      intro hq; rw [Nat.zero_add] at hq; cases hq
      rw [Nat.zero_add, List.getElem?_set] at e6
      simp at e6
    have := this.set (j := off) (v := .vs false s) (a := .vs g rows) (.cell (.vs _ _ _ _ (by simp) (hr.mono hle)))
    rwa [List.set_set] at this
  have hset : ∀ x : AV, x.isAgg = false → setCells ds off x.cells = ds.set off x := by
    intro x hx
    have : x.cells = [x] := by cases x <;> first | rfl | cases hx
    rw [this]
    unfold setCells
    rw [List.set_eq_take_append_cons_drop, if_pos hoff]
    simp
  rcases hval.whole' with ⟨qa, k, m, hqa, rfl⟩ | ⟨hqa, rfl⟩
  · cases r.live _ _ hcc with
    | virt _ _ b1 => rw [hqa] at b1; cases b1
    | seq _ _ q' k' R b1 b2 b3 b4 b5 b6 b7 =>
    rw [hqa] at b1; cases b1
    obtain ⟨hl, hb⟩ := b6 rfl
    rw [← hl, List.take_length] at b4
    have hrk := b4.rowlen (Sq.okk_rows (Sq.kIs_okk b5))
    have hfrz := frz_arr (base := base) (r.wr _ _ _ hqa rfl (by simpa [writable] using hw)) b2 hl hb b4 hrk (by rw [← Sq.kIs_kk b5]; exact hkk)
    have hneq : qo ≠ qa := by
      intro hq; subst hq
      have := r.inj _ _ _ _ _ hqo hqa rfl rfl
      cases this
    -- the heap with the array gone, then the cell
    have rk : RH (θ.upd (.cell o off) none) ba base ((h.put (.cell o off) none).put (.st o) (some (.arr (cells.set off (.vs false s))))) (h1.put qo (.arr (ds.set off (.vs false R)).length [ds.set off (.vs false R)])) :=
      r.own (o := o) (off := off) (qo := qo) (p := none) (x := none) ⟨_, hc⟩ hqo (.inl ⟨rfl, rfl⟩) (hfin R false b4)
    have hg' : (h1.kill qa).get qo = some (.arr ds.length [ds]) := by rw [H.get_kill, if_neg hneq]; exact a2
    refine ⟨e1, (h1.kill qa).put qo (.arr (ds.set off (.vs false R)).length [ds.set off (.vs false R)]), _, ?_, he.purge hle _ fun c hc => Th.upd_other θ hc _, ?_, ⟨hle, fun q hq k => ?_, fun c' p' q' u1 u2 => ?_, by simp⟩⟩
    · simp only [ghost, hx1, faddrAV, hoff0, hload, hfrz]
      rw [storeAt_obj (a := .vs false R) (sz := 1) hw' hg' rfl rfl (by omega), hset _ rfl]
      rfl
    · have hgets : ∀ q', q' ≠ qa → (h1.put qo (.arr (ds.set off (.vs false R)).length [ds.set off (.vs false R)])).get q' = ((h1.kill qa).put qo (.arr (ds.set off (.vs false R)).length [ds.set off (.vs false R)])).get q' := by
        intro q' hq'; simp [hq']
      have hnot : ∀ c p, θ.upd (.cell o off) none c = some p → p.q ≠ some qa := by
        intro c p u1 u2
        by_cases hcc' : c = .cell o off
        · subst hcc'; rw [Th.upd_same] at u1; cases u1
        · rw [Th.upd_other _ hcc'] at u1; exact hcc' (r.inj _ _ _ _ _ u1 hqa u2 rfl)
      exact ⟨rk.dead, fun d x hx => (rk.live d x hx).move (Th.le_refl _) rfl (fun _ _ _ _ _ _ => rfl) fun p q' u1 u2 => (hgets q' (fun hq => hnot d p u1 (by rw [← hq]; exact u2))).symm, rk.inj, fun d p q' e e' => by simpa using rk.lt d p q' e e', rk.nx, rk.wr, by simpa using rk.bn, rk.nxc⟩
    · rw [H.get_put, if_neg, H.get_kill, if_neg]
      · intro hqq; subst hqq; exact k _ _ hqa rfl
      · intro hqq; subst hqq; exact k _ _ hqo rfl
    · by_cases hcd : c' = .cell o off
      · subst hcd; rw [Th.upd_same] at u1; cases u1
      · rw [Th.upd_other _ hcd] at u1; exact .inl ⟨_, _, u1, u2⟩
  · cases r.live _ _ hcc with
    | seq _ _ q' k' R b1 => rw [hqa] at b1; cases b1
    | virt _ _ b1 b2 b3 =>
    have rk := r.own (o := o) (off := off) (qo := qo) (p := none) (x := none) ⟨_, hc⟩ hqo (.inl ⟨rfl, rfl⟩) (hfin [] true (by rw [b2]; exact .nil))
    refine ⟨e1, _, _, ?_, he.purge hle _ fun c hc => Th.upd_other θ hc _, rk, ⟨hle, fun q hq k => ?_, fun c' p' q' u1 u2 => ?_, by simp⟩⟩
    · simp only [ghost, hx1, faddrAV, hoff0, hload]
      rw [show frzFuel = 999999999999 + 1 from rfl, frz_vc (θ := θ) (v := .vs true (.raw 0 [])) (.vs _ _ _ _ id .nil)]
      simp only
      rw [storeAt_obj (a := .vs true []) (sz := 1) hw' a2 rfl rfl (by omega), hset _ rfl]
      rfl
    · rw [H.get_put, if_neg]
      intro hqq; subst hqq; exact k _ _ hqo rfl
    · by_cases hcd : c' = .cell o off
      · subst hcd; rw [Th.upd_same] at u1; cases u1
      · rw [Th.upd_other _ hcd] at u1; exact .inl ⟨_, _, u1, u2⟩
theorem ghost_ok {g : Gh} {K : List V → HV → Option RA} {z : RA} (hk : ghostV ba g e h K = some z) : ∃ e' h', K e' h' = some z ∧ GhostOK ba e h g e' h' := by
  cases g with
  | frz n => exact frz_ok hk
  | frzm n off => exact frzm_ok hk
  | keep l => exact keep_ok hk
  | note op n u l => exact note_ok hk
end
end Go.Am
namespace Go.Am
section
variable {θ θ' : Th} {ba : Ba} {base : Nat} {h h' : HV} {h1 h1' : H} {e : List V} {e1 : List AV} {v w : V} {a b : AV} {fns : Fns}
theorem lay_get : ∀ (os : List O2) (t : Tq O2) (i j : Nat), (lay t i os).get j = if i ≤ j ∧ j < i + os.length then os[j - i]? else t.get j
  | [], t, i, j => by
    simp only [lay, List.length_nil, Nat.add_zero]
    rw [if_neg (by omega)]
  | o :: os, t, i, j => by
    simp only [lay, List.length_cons]
    rw [lay_get os _ (i + 1) j]
    by_cases hij : i = j
    · subst hij
      rw [if_neg (by omega), if_pos (by omega)]
      simp
    · by_cases hb : i + 1 ≤ j ∧ j < i + 1 + os.length
      · rw [if_pos hb, if_pos (by omega)]
        rw [show j - i = (j - (i + 1)) + 1 by omega]; simp
      · rw [if_neg hb, if_neg (by omega), Tq.get_set, if_neg (fun q => hij q.symm)]
theorem putBack_get : ∀ (ds : List Nat) (os : List O2) (lo : Tq O2) (j : Nat), ds.Nodup → ds.length ≤ os.length →
    (putBack lo ds os).get j = (match ds.findIdx? (· == j) with
      | some i => os[i]?
      | none => lo.get j)
  | [], _, lo, j, _, _ => by simp [putBack]
  | d :: ds, [], _, _, _, hl => by simp at hl
  | d :: ds, o :: os, lo, j, hn, hl => by
    simp only [putBack]
    rw [putBack_get ds os _ j (List.nodup_cons.1 hn).2 (by simpa using hl), List.findIdx?_cons]
    by_cases hd : d = j
    · subst hd
      have hno : ds.findIdx? (· == d) = none := by
        rw [List.findIdx?_eq_none_iff]
        intro x hx
        simp only [beq_eq_false_iff_ne, ne_eq]
        intro q; subst q; exact (List.nodup_cons.1 hn).1 hx
      rw [hno]; simp
    · have : (d == j) = false := by simpa using hd
      rw [this]
      simp only [Bool.false_eq_true, if_false]
      cases hf : ds.findIdx? (· == j) with
      | none => simp only [Option.map_none, Tq.get_set]; rw [if_neg (fun q => hd q.symm)]
      | some i => simp
theorem VT.toLoc (x : VT θ v a) (hv : v.isLoc = false) (l : ∀ c, (∀ d, c ≠ .loc d) → θ' c = θ c) : VT θ' v a := by
  refine x.mono (fun o q e => by rw [l _ (fun d hd => by cases hd)]; exact e) fun c hc => l c fun d hd => ?_
  subst hd
  cases x with
  | flat x => cases x with
    | cell x => cases x <;> simp [V.at, Cd.eqb] at hc
    | agg x => simp [V.at] at hc
  | ptr => simp [V.isLoc] at hv
  | whole c => simp only [V.at, Cd.eqb_iff] at hc; subst hc; simp [V.isLoc] at hv
  | wholeV c => simp only [V.at, Cd.eqb_iff] at hc; subst hc; simp [V.isLoc] at hv
  | ref c => simp only [V.at, Cd.eqb_iff] at hc; subst hc; simp [V.isLoc] at hv
  | refE c => simp only [V.at, Cd.eqb_iff] at hc; subst hc; simp [V.isLoc] at hv
  | refV c => simp only [V.at, Cd.eqb_iff] at hc; subst hc; simp [V.isLoc] at hv
  | ep c => simp only [V.at, Cd.eqb_iff] at hc; subst hc; simp [V.isLoc] at hv
  | _ => simp [V.at] at hc
structure Hand (h : HV) (n : Nat) (vs vs' : List V) (ds : List Nat) (os : List O2) : Prop where
  len : ds.length = os.length
  nodup : ds.Nodup
  objs : ∀ i : Nat, os[i]? = (ds[i]?).bind h.lo.get
  vals : ∀ (θ θc : Th) (as : List AV), (∀ c, (∀ d, c ≠ .loc d) → θc c = θ c) → (∀ i d : Nat, ds[i]? = some d → θc (.loc (n + i)) = θ (.loc d)) → VTL θ vs as → VTL θc vs' as
theorem hand_some : ∀ (vs : List V) (n : Nat) {K : List V → List Nat → List O2 → Option RA} {z : RA}, handK h n vs K = some z → ∃ vs' ds os, K vs' ds os = some z ∧ Hand h n vs vs' ds os
  | [], n, K, z, hk => ⟨[], [], [], hk, ⟨rfl, List.nodup_nil, by simp, fun θ θc as _ _ x => by cases x; exact .nil⟩⟩
  | v :: vs, n, K, z, hk => by
    unfold handK at hk
    split at hk
    · rename_i d off
      split at hk
      case h_2 => cases hk
      rename_i o ho
      obtain ⟨vs', ds, os, k1, k2⟩ := hand_some vs (n + 1) hk
      clear hk
      cases hc : List.contains ds d with
      | true => rw [hc] at k1; cases k1
      | false =>
      rw [hc] at k1
      refine ⟨_, _, _, k1, ⟨by simp [k2.len], ?_, ?_, ?_⟩⟩
      · rw [List.nodup_cons]
        refine ⟨fun hm => ?_, k2.nodup⟩
        have : List.contains ds d = true := by simpa using hm
        rw [hc] at this; cases this
      · intro i
        cases i with
        | zero => simp [ho]
        | succ i => simpa using k2.objs i
      · intro θ θc as l1 l2 x
        cases x with | cons x1 x2 =>
        refine .cons ?_ (k2.vals θ θc _ l1 (fun i d' hd => by have := l2 (i + 1) d' (by simpa using hd); rwa [show n + (i + 1) = n + 1 + i by omega] at this) x2)
        obtain ⟨q, hq, rfl⟩ := x1.ptr'
        exact .ptr _ _ _ (by have := l2 0 d (by simp); rw [Nat.add_zero] at this; rw [this]; exact hq)
    · rename_i d
      split at hk
      case h_2 => cases hk
      rename_i o ho
      obtain ⟨vs', ds, os, k1, k2⟩ := hand_some vs (n + 1) hk
      clear hk
      cases hc : List.contains ds d with
      | true => rw [hc] at k1; cases k1
      | false =>
      rw [hc] at k1
      refine ⟨_, _, _, k1, ⟨by simp [k2.len], ?_, ?_, ?_⟩⟩
      · rw [List.nodup_cons]
        refine ⟨fun hm => ?_, k2.nodup⟩
        have : List.contains ds d = true := by simpa using hm
        rw [hc] at this; cases this
      · intro i
        cases i with
        | zero => simp [ho]
        | succ i => simpa using k2.objs i
      · intro θ θc as l1 l2 x
        cases x with | cons x1 x2 =>
        refine .cons ?_ (k2.vals θ θc _ l1 (fun i d' hd => by have := l2 (i + 1) d' (by simpa using hd); rwa [show n + (i + 1) = n + 1 + i by omega] at this) x2)
        have e0 := l2 0 d (by simp)
        rw [Nat.add_zero] at e0
        rcases x1.whole' with ⟨q, k, m, hq, rfl⟩ | ⟨hq, rfl⟩
        · exact .whole _ _ _ _ (by rw [e0]; exact hq)
        · exact .wholeV _ (by rw [e0]; exact hq)
    · cases hl : v.isLoc with
      | true => rw [hl] at hk; cases hk
      | false =>
      rw [hl] at hk
      obtain ⟨vs', ds, os, k1, k2⟩ := hand_some vs n hk
      refine ⟨_, _, _, k1, ⟨k2.len, k2.nodup, k2.objs, fun θ θc as l1 l2 x => ?_⟩⟩
      cases x with | cons x1 x2 => exact .cons (x1.toLoc hl l1) (k2.vals θ θc _ l1 l2 x2)
def callTh (θ : Th) (ds : List Nat) : Th := fun c => match c with
  | .loc j => if 1000 ≤ j then (match ds[j - 1000]? with
      | some d => θ (.loc d)
      | none => none) else none
  | c => θ c
theorem callTh_other (θ : Th) (ds : List Nat) {c : Cd} (hc : ∀ d, c ≠ .loc d) : callTh θ ds c = θ c := by
  cases c with
  | loc d => exact absurd rfl (hc d)
  | _ => rfl
theorem callTh_loc (θ : Th) {ds : List Nat} {i d : Nat} (hd : ds[i]? = some d) : callTh θ ds (.loc (1000 + i)) = θ (.loc d) := by
  simp only [callTh]
  rw [if_pos (by omega), Nat.add_sub_cancel_left, hd]
theorem callTh_inv (θ : Th) (ds : List Nat) {j : Nat} {p : Pos} (e : callTh θ ds (.loc j) = some p) : ∃ i d, j = 1000 + i ∧ ds[i]? = some d ∧ θ (.loc d) = some p := by
  simp only [callTh] at e
  split at e
  · rename_i hj
    split at e
    · rename_i d hd; exact ⟨j - 1000, d, by omega, hd, e⟩
    · cases e
  · cases e
theorem callTh_ran {θ : Th} {ds : List Nat} {c : Cd} {p : Pos} (e : callTh θ ds c = some p) : ∃ c', θ c' = some p := by
  cases c with
  | loc j => obtain ⟨i, d, _, _, e'⟩ := callTh_inv θ ds e; exact ⟨_, e'⟩
  | _ => exact ⟨_, e⟩
theorem RH.call (r : RH θ ba base h h1) {vs vs' : List V} {ds : List Nat} {os : List O2} (hd : Hand h 1000 vs vs' ds os) {ro : Bool} (hro : ro = false → ∀ d ∈ ds, writable ba (.loc d) = true) :
    RH (callTh θ ds) ⟨ba.b, ro⟩ base (h.wlo (lay .lf 1000 os)) h1 := by
  have hget : ∀ j, (lay .lf 1000 os).get j = if 1000 ≤ j then os[j - 1000]? else none := by
    intro j
    rw [lay_get]
    by_cases hj : 1000 ≤ j
    · rw [if_pos hj]
      by_cases hb : j < 1000 + os.length
      · rw [if_pos ⟨hj, hb⟩]
      · rw [if_neg (by omega), List.getElem?_eq_none (by omega)]; rfl
    · rw [if_neg hj, if_neg (by omega)]; rfl
  have hle : θ.le (callTh θ ds) := fun o q e => e
  have hinj : ∀ c c' p p' q, callTh θ ds c = some p → callTh θ ds c' = some p' → p.q = some q → p'.q = some q → c = c' := by
    intro c c' p p' q e1 e2 e3 e4
    cases c with
    | loc j =>
      obtain ⟨i, d, rfl, hi, e1'⟩ := callTh_inv θ ds e1
      cases c' with
      | loc j' =>
        obtain ⟨i', d', rfl, hi', e2'⟩ := callTh_inv θ ds e2
        have := r.inj _ _ _ _ _ e1' e2' e3 e4
        cases this
        have : i = i' := by
          rw [List.getElem?_eq_some_iff] at hi hi'
          obtain ⟨l1, v1⟩ := hi
          obtain ⟨l2, v2⟩ := hi'
          have hp := List.pairwise_iff_getElem.1 hd.nodup
          rcases Nat.lt_trichotomy i i' with hlt | rfl | hlt
          · exact absurd (v1.trans v2.symm) (hp i i' l1 l2 hlt)
          · rfl
          · exact absurd (v2.trans v1.symm) (hp i' i l2 l1 hlt)
        rw [this]
      | st o => have := r.inj _ _ _ _ _ e1' e2 e3 e4; cases this
      | cell o k => have := r.inj _ _ _ _ _ e1' e2 e3 e4; cases this
    | st o =>
      cases c' with
      | loc j => obtain ⟨i', d', rfl, hi', e2'⟩ := callTh_inv θ ds e2; have := r.inj _ _ _ _ _ e1 e2' e3 e4; cases this
      | _ => exact r.inj _ _ _ _ _ e1 e2 e3 e4
    | cell o k =>
      cases c' with
      | loc j => obtain ⟨i', d', rfl, hi', e2'⟩ := callTh_inv θ ds e2; have := r.inj _ _ _ _ _ e1 e2' e3 e4; cases this
      | _ => exact r.inj _ _ _ _ _ e1 e2 e3 e4
  refine ⟨fun c hc => ?_, fun c x hx => ?_, hinj, fun c p q e e' => ?_, fun o ho => r.nx o ho, fun c p q e e' hw => ?_, r.bn, fun o i ho => r.nxc o i ho⟩
  · cases c with
    | loc j =>
      rw [HV.get_wlo] at hc
      simp only at hc
      rw [hget] at hc
      simp only [callTh]
      split
      · rename_i hj
        rw [if_pos hj, hd.objs] at hc
        split
        · rename_i d hdd
          rw [hdd] at hc
          exact r.dead (.loc d) hc
        · rfl
      · rfl
    | st o => exact r.dead (.st o) hc
    | cell o i => exact r.dead (.cell o i) hc
  · cases c with
    | loc j =>
      rw [HV.get_wlo] at hx
      simp only at hx
      rw [hget] at hx
      split at hx
      · rename_i hj
        rw [hd.objs] at hx
        cases hdd : ds[j - 1000]? with
        | none => rw [hdd] at hx; cases hx
        | some d =>
          rw [hdd] at hx
          have ho := r.live (.loc d) x hx
          have hth : callTh θ ds (.loc j) = θ (.loc d) := by simp only [callTh]; rw [if_pos hj, hdd]
          cases ho with
          | arr cells dd q a b c =>
            refine .arr cells dd q (by rw [hth]; exact a) b ?_
            have : ∀ {i : Nat} {vs : List V} {as : List AV}, CRL θ (.loc d) i vs as → CRL (callTh θ ds) (.loc j) i vs as := by
              intro i vs as y
              induction y with
              | nil => exact .nil _
              | cons y _ ih =>
                refine .cons ?_ ih
                cases y with
                | cell y => exact .cell (y.mono hle)
                | any => exact .any _
                | own o y => cases y
            exact this c
          | iter rest pos q a b => exact .iter rest pos q (by rw [hth]; exact a) b
          | seq s b q k R a1 a2 a3 a4 a5 a6 a7 => exact .seq s b q k R (by rw [hth]; exact a1) a2 a3 (a4.mono hle) a5 a6 rfl
          | virt s b a1 a2 a3 => exact .virt s b (by rw [hth]; exact a1) a2 rfl
      · cases hx
    | st o => exact (r.live (.st o) x hx).move hle rfl (fun _ _ _ _ _ _ => rfl) fun _ _ _ _ => rfl
    | cell o i => exact (r.live (.cell o i) x hx).move hle rfl (fun _ _ _ _ _ _ => rfl) fun _ _ _ _ => rfl
  · obtain ⟨c', e''⟩ := callTh_ran e
    exact r.lt _ _ _ e'' e'
  · cases c with
    | loc j =>
      obtain ⟨i, d, rfl, hi, e1'⟩ := callTh_inv θ ds e
      refine r.wr _ _ _ e1' e' ?_
      cases ro with
      | false => exact hro rfl d (List.mem_of_getElem? hi)
      | true => simp [writable] at hw; omega
    | st o => exact r.wr _ _ _ e e' hw
    | cell o i => exact r.wr _ _ _ e e' hw
def backTh (θ θ' : Th) : Th := fun c => match c with
  | .loc d => θ (.loc d)
  | c => θ' c
theorem RH.back (r : RH θ ba base h h1) {vs vs' : List V} {ds : List Nat} {os os' : List O2} (hd : Hand h 1000 vs vs' ds os) (hl : os.length ≤ os'.length) {b : Nat} (hb : ba.b = b)
    (r' : RH θ' ⟨b, false⟩ base (h'.wlo (lay .lf 1000 os')) h1') (g : Grow (callTh θ ds) θ' h1 h1') (hs : ∀ i, i < os.length → θ' (.loc (1000 + i)) = callTh θ ds (.loc (1000 + i))) :
    RH (backTh θ θ') ba base (h'.wlo (putBack h.lo ds os')) h1' ∧ Grow θ (backTh θ θ') h1 h1' := by
  subst hb
  have hle : θ.le (backTh θ θ') := fun o q e => g.le o q e
  have hle' : θ'.le (backTh θ θ') := fun o q e => e
  -- an object that was not handed in stays as it was
  have hstay : ∀ d, d ∉ ds → ∀ p q, θ (.loc d) = some p → p.q = some q → h1'.get q = h1.get q ∧ ∀ c p', θ' c = some p' → p'.q ≠ some q := by
    intro d hdd p q e1 e2
    have hno : ∀ c p', callTh θ ds c = some p' → p'.q ≠ some q := by
      intro c p' u1 u2
      cases c with
      | loc j =>
        obtain ⟨i, d', rfl, hi, e1'⟩ := callTh_inv θ ds u1
        have := r.inj _ _ _ _ _ e1 e1' e2 u2
        cases this
        exact hdd (List.mem_of_getElem? hi)
      | st o => have := r.inj _ _ _ _ _ e1 u1 e2 u2; cases this
      | cell o i => have := r.inj _ _ _ _ _ e1 u1 e2 u2; cases this
    refine ⟨g.keep q (r.lt _ _ _ e1 e2) hno, fun c p' u1 u2 => ?_⟩
    rcases g.ran c p' q u1 u2 with ⟨c', p'', w1, w2⟩ | w
    · exact hno c' p'' w1 w2
    · have := r.lt _ _ _ e1 e2; omega
  have hidx : ∀ d, d ∈ ds → ∃ i, ds.findIdx? (· == d) = some i ∧ ds[i]? = some d := by
    intro d hm
    cases hf : ds.findIdx? (· == d) with
    | none => rw [List.findIdx?_eq_none_iff] at hf; have := hf d hm; simp at this
    | some i =>
      refine ⟨i, rfl, ?_⟩
      rw [List.findIdx?_eq_some_iff_getElem] at hf
      obtain ⟨hlt, hi, _⟩ := hf
      rw [List.getElem?_eq_getElem hlt]
      simpa using hi
  have hpb := putBack_get ds os' h.lo
  have hlen : ds.length ≤ os'.length := by rw [hd.len]; exact hl
  have hin : ∀ i d, ds[i]? = some d → θ' (.loc (1000 + i)) = θ (.loc d) := by
    intro i d hi
    have hlt : i < ds.length := by rw [List.getElem?_eq_some_iff] at hi; exact hi.1
    rw [hs i (by have := hd.len; omega), callTh_loc θ hi]
  have hlayget : ∀ i, i < os'.length → (lay .lf 1000 os').get (1000 + i) = os'[i]? := by
    intro i hi; rw [lay_get, if_pos (by omega), Nat.add_sub_cancel_left]
  refine ⟨⟨fun c hc => ?_, fun c x hx => ?_, fun c c' p p' q e1 e2 e3 e4 => ?_, fun c p q e e' => ?_, fun o ho => r'.nx o ho, fun c p q e e' hw => ?_, r'.bn, fun o i ho => r'.nxc o i ho⟩, ⟨hle, fun q hq k => g.keep q hq fun c p e => by obtain ⟨c', e'⟩ := callTh_ran e; exact k c' p e', fun c p q e e' => ?_, g.next⟩⟩
  · cases c with
    | st o => exact r'.dead (.st o) hc
    | cell o i => exact r'.dead (.cell o i) hc
    | loc d =>
      rw [HV.get_wlo] at hc
      simp only at hc
      rw [hpb d hd.nodup hlen] at hc
      show θ (.loc d) = none
      by_cases hm : d ∈ ds
      · obtain ⟨i, hi1, hi2⟩ := hidx d hm
        rw [hi1] at hc
        have hlt : i < ds.length := by rw [List.getElem?_eq_some_iff] at hi2; exact hi2.1
        simp only at hc
        rw [List.getElem?_eq_none_iff] at hc; omega
      · have : ds.findIdx? (· == d) = none := by
          rw [List.findIdx?_eq_none_iff]; intro y hy; simp only [beq_eq_false_iff_ne, ne_eq]; intro q; subst q; exact hm hy
        rw [this] at hc
        exact r.dead (.loc d) hc
  · cases c with
    | st o => exact (r'.live (.st o) x hx).move hle' rfl (fun _ _ _ _ _ _ => rfl) fun _ _ _ _ => rfl
    | cell o i => exact (r'.live (.cell o i) x hx).move hle' rfl (fun _ _ _ _ _ _ => rfl) fun _ _ _ _ => rfl
    | loc d =>
      rw [HV.get_wlo] at hx
      simp only at hx
      rw [hpb d hd.nodup hlen] at hx
      by_cases hm : d ∈ ds
      · obtain ⟨i, hi1, hi2⟩ := hidx d hm
        rw [hi1] at hx
        simp only at hx
        have hlt : i < os'.length := by rw [List.getElem?_eq_some_iff] at hx; exact hx.1
        have ho := r'.live (.loc (1000 + i)) x (by rw [HV.get_wlo]; simp only; rw [hlayget i hlt]; exact hx)
        have hth : backTh θ θ' (.loc d) = θ' (.loc (1000 + i)) := (hin i d hi2).symm
        cases ho with
        | arr cells dd q a b c =>
          refine .arr cells dd q (by rw [hth]; exact a) b ?_
          have : ∀ {i' : Nat} {vs : List V} {as : List AV}, CRL θ' (.loc (1000 + i)) i' vs as → CRL (backTh θ θ') (.loc d) i' vs as := by
            intro i' vs as y
            induction y with
            | nil => exact .nil _
            | cons y _ ih =>
              refine .cons ?_ ih
              cases y with
              | cell y => exact .cell (y.mono hle')
              | any => exact .any _
              | own o y => cases y
          exact this c
        | iter rest pos q a b => exact .iter rest pos q (by rw [hth]; exact a) b
        | seq s b q k R a1 a2 a3 a4 a5 a6 a7 => exact .seq s b q k R (by rw [hth]; exact a1) a2 a3 (a4.mono hle') a5 a6 rfl
        | virt s b a1 a2 a3 => exact .virt s b (by rw [hth]; exact a1) a2 rfl
      · have : ds.findIdx? (· == d) = none := by
          rw [List.findIdx?_eq_none_iff]; intro y hy; simp only [beq_eq_false_iff_ne, ne_eq]; intro q; subst q; exact hm hy
        rw [this] at hx
        refine (r.live (.loc d) x hx).move hle rfl (fun _ _ _ _ h2 _ => by cases h2) fun p q e1 e2 => (hstay d hm p q e1 e2).1
  · have key : ∀ d c p p' q, θ (.loc d) = some p → θ' c = some p' → p.q = some q → p'.q = some q → ∃ i, c = .loc (1000 + i) ∧ ds[i]? = some d := by
      intro d c p p' q e1 e2 e3 e4
      by_cases hm : d ∈ ds
      · obtain ⟨i, hi1, hi2⟩ := hidx d hm
        have := hin i d hi2
        rw [← this] at e1
        exact ⟨i, (r'.inj _ _ _ _ _ e1 e2 e3 e4).symm, hi2⟩
      · exact absurd e4 ((hstay d hm p q e1 e3).2 c p' e2)
    cases c with
    | loc d =>
      cases c' with
      | loc d' => exact r.inj _ _ _ _ _ e1 e2 e3 e4
      | st o => obtain ⟨i, hi, _⟩ := key d _ _ _ _ e1 e2 e3 e4; cases hi
      | cell o i => obtain ⟨i, hi, _⟩ := key d _ _ _ _ e1 e2 e3 e4; cases hi
    | st o =>
      cases c' with
      | loc d' => obtain ⟨i, hi, _⟩ := key d' _ _ _ _ e2 e1 e4 e3; cases hi
      | _ => exact r'.inj _ _ _ _ _ e1 e2 e3 e4
    | cell o i =>
      cases c' with
      | loc d' => obtain ⟨i, hi, _⟩ := key d' _ _ _ _ e2 e1 e4 e3; cases hi
      | _ => exact r'.inj _ _ _ _ _ e1 e2 e3 e4
  · cases c with
    | loc d => exact Nat.lt_of_lt_of_le (r.lt _ _ _ e e') g.next
    | st o => exact r'.lt _ _ _ e e'
    | cell o i => exact r'.lt _ _ _ e e'
  · cases c with
    | loc d => exact r.wr _ _ _ e e' hw
    | st o => exact r'.wr _ _ _ e e' hw
    | cell o i => exact r'.wr _ _ _ e e' hw
  · have fin : ∀ c, θ' c = some p → (∃ c' p', θ c' = some p' ∧ p'.q = some q) ∨ h1.next ≤ q := by
      intro c u
      rcases g.ran c p q u e' with ⟨c', p', w1, w2⟩ | w
      · obtain ⟨c'', w3⟩ := callTh_ran w1; exact .inl ⟨c'', p', w3, w2⟩
      · exact .inr w
    cases c with
    | loc d => exact .inl ⟨_, _, e, e'⟩
    | st o => exact fin _ e
    | cell o i => exact fin _ e
end
end Go.Am
namespace Go.Am
section
variable {θ θ' : Th} {ba : Ba} {base : Nat} {h h' : HV} {h1 h1' : H} {e : List V} {e1 : List AV} {v w : V} {a b : AV} {fns : Fns} {T : TV}
def kba (k : CK) (b : Nat) : Ba := ⟨b, match k with
  | .wr => false
  | _ => true⟩
def CG (fns : Fns) (k : CK) (f : Nat) (vs : List V) (b : Nat) (h : HV) (os : List O2) (v : V) (h' : HV) (os' : List O2) : Prop :=
  ∀ (θ : Th) (base : Nat) (args1 : List AV) (h1 : H), VTL θ vs args1 → RH θ (kba k b) base (h.wlo (lay .lf 1000 os)) h1 →
    match k with
    | .wr => ∃ v1 h1' θ', From (fun m => sem fns m .wr f args1 base h1 = some (v1, h1')) ∧ VT θ' v v1 ∧ RH θ' ⟨b, false⟩ base (h'.wlo (lay .lf 1000 os')) h1' ∧ Grow θ θ' h1 h1' ∧
        os.length ≤ os'.length ∧ ∀ i, i < os.length → θ' (.loc (1000 + i)) = θ (.loc (1000 + i))
    | k => ∃ v1, From (fun m => sem fns m k f args1 base h1 = some (v1, h1)) ∧ VT θ v v1
def GoodV (fns : Fns) (T : TV) : Prop := ∀ k f vs b h os K z, T k f vs b h os K = some z → ∃ v h' os', K v h' os' = some z ∧ CG fns k f vs b h os v h' os'
theorem RH.stObj (r : RH θ ba base h h1) {o : Nat} {p : Pos} (e : θ (.st o) = some p) : ∃ q, p = .obj q := by
  obtain ⟨x, hx⟩ := r.pos e
  cases r.live _ _ hx with
  | arr _ _ q a => rw [e] at a; cases a; exact ⟨q, rfl⟩
  | iter _ _ q a => rw [e] at a; cases a; exact ⟨q, rfl⟩
  | seq _ _ _ _ _ _ _ _ _ _ _ a => cases a
  | virt _ _ _ _ a => cases a
theorem VTL.purgeCells (r : RH θ ba base h h1) (l : θ.le θ') (k : ∀ d, θ' (.loc d) = θ (.loc d)) (x : VTL θ e e1) : VTL θ' (purgeCells e) e1 := by
  induction x with
  | nil => exact .nil
  | cons y _ ih =>
    refine .cons ?_ ih
    rename_i v a vs as _
    show VT θ' (bif v.atCell then .any else v) a
    cases hv : v.atCell with
    | true => exact .any _
    | false =>
      have other : ∀ c, (∀ o i, c ≠ .cell o i) → (∀ o, c = .st o → ∃ q, θ c = some (.obj q)) → θ' c = θ c := by
        intro c h1 h2
        cases c with
        | st o => obtain ⟨q, hq⟩ := h2 o rfl; rw [hq]; exact l o q hq
        | cell o i => exact absurd rfl (h1 o i)
        | loc d => exact k d
      cases y with
      | flat y => exact .flat (y.mono l)
      | tup y => exact .tup (y.mono l)
      | undef => exact .undef
      | any => exact .any _
      | fn f y => exact .fn f (y.mono l)
      | ptr d off q y => exact .ptr d off q (by rw [k]; exact y)
      | whole c q n m y => cases c with
        | st o => obtain ⟨q', hq'⟩ := r.stObj y; cases hq'
        | cell o i => cases hv
        | loc d => exact .whole _ _ _ _ (by rw [k]; exact y)
      | wholeV c y => cases c with
        | st o => obtain ⟨q', hq'⟩ := r.stObj y; cases hq'
        | cell o i => cases hv
        | loc d => exact .wholeV _ (by rw [k]; exact y)
      | ref c off len q n m y z => cases c with
        | st o => obtain ⟨q', hq'⟩ := r.stObj y; cases hq'
        | cell o i => cases hv
        | loc d => exact .ref _ _ _ _ _ _ (by rw [k]; exact y) z
      | refE c off q n m f y z u => cases c with
        | st o => obtain ⟨q', hq'⟩ := r.stObj y; cases hq'
        | cell o i => cases hv
        | loc d => exact .refE _ _ _ _ _ _ (by rw [k]; exact y) z u
      | refV c y => cases c with
        | st o => obtain ⟨q', hq'⟩ := r.stObj y; cases hq'
        | cell o i => cases hv
        | loc d => exact .refV _ (by rw [k]; exact y)
      | ep c i off q n m y z => cases c with
        | st o => obtain ⟨q', hq'⟩ := r.stObj y; cases hq'
        | cell o i => cases hv
        | loc d => exact .ep _ _ _ _ _ _ (by rw [k]; exact y) z
theorem resOK_flat {b1 : Bool} (hv : (okF v || v.isTup) = true) (x : VT θ v a) (l : θ.le θ') : VT θ' v a := by
  simp only [Bool.or_eq_true] at hv
  rcases hv with hv | hv
  · exact .flat ((x.okF hv).mono l)
  · cases v <;> try (cases hv)
    obtain ⟨ds, rfl, hds⟩ := x.tup'
    exact .tup (hds.mono l)
theorem flatten_call {ds : List Nat} (hv : (okF v || v.isTup) = true) (x : VT (callTh θ ds) v a) : VT θ v a := resOK_flat (b1 := true) hv x fun _ _ e => e
theorem call_ok (good : GoodV fns T) {fr : Fr} {d : Option Nat} {k : CK} {f : Nat} {vs : List V} {K : V → List V → HV → Option RA} {z : RA} (hk : callV T fr ba d e h k f vs K = some z) :
    ∃ v e' h', K v e' h' = some z ∧ (k = .wr ∨ (e' = e ∧ h' = h ∧ (okF v || v.isTup) = true)) ∧ ∀ (θ : Th) (base : Nat) (e1 args1 : List AV) (h1 : H), VTL θ e e1 → VTL θ vs args1 → RH θ ba base h h1 →
      ∃ v1 h1' θ', From (fun m => sem fns m k f args1 base h1 = some (v1, h1')) ∧ VT θ' v v1 ∧ VTL θ' e' e1 ∧ RH θ' ba base h' h1' ∧ Grow θ θ' h1 h1' ∧ (k ≠ .wr → h1' = h1 ∧ θ' = θ) := by
  -- calls that write nothing
  have quiet : k ≠ .wr → (handK h 1000 vs fun vs _ os => T k f vs ba.b (h.wlo .lf) os fun v _ _ => bif okF v || v.isTup then K v e h else none) = some z →
      ∃ v e' h', K v e' h' = some z ∧ (k = .wr ∨ (e' = e ∧ h' = h ∧ (okF v || v.isTup) = true)) ∧ ∀ (θ : Th) (base : Nat) (e1 args1 : List AV) (h1 : H), VTL θ e e1 → VTL θ vs args1 → RH θ ba base h h1 →
      ∃ v1 h1' θ', From (fun m => sem fns m k f args1 base h1 = some (v1, h1')) ∧ VT θ' v v1 ∧ VTL θ' e' e1 ∧ RH θ' ba base h' h1' ∧ Grow θ θ' h1 h1' ∧ (k ≠ .wr → h1' = h1 ∧ θ' = θ) := by
    intro hnw hk
    obtain ⟨vs', ds, os, hk, hd⟩ := hand_some _ _ hk
    obtain ⟨v, h', os', hk, hg⟩ := good _ _ _ _ _ _ _ _ hk
    obtain ⟨hok, hk⟩ := boolK hk
    refine ⟨v, e, h, hk, .inr ⟨rfl, rfl, hok⟩, fun θ base e1 args1 h1 he ha r => ?_⟩
    have rc := r.call hd (ro := (kba k ba.b).ro) (fun q => by cases k <;> first | exact absurd rfl hnw | cases q)
    have := hg (callTh θ ds) base args1 h1 (hd.vals θ _ _ (fun c hc => callTh_other θ ds hc) (fun i d hi => callTh_loc θ hi) ha) rc
    cases k with
    | wr => exact absurd rfl hnw
    | ro => obtain ⟨v1, q1, q2⟩ := this; exact ⟨v1, h1, θ, q1, flatten_call hok q2, he, r, Grow.refl _ _, fun _ => ⟨rfl, rfl⟩⟩
    | pure => obtain ⟨v1, q1, q2⟩ := this; exact ⟨v1, h1, θ, q1, flatten_call hok q2, he, r, Grow.refl _ _, fun _ => ⟨rfl, rfl⟩⟩
  unfold callV at hk
  cases k with
  | ro => exact quiet (by simp) hk
  | pure => exact quiet (by simp) hk
  | wr =>
    simp only at hk
    obtain ⟨vs', ds, os, hk, hd⟩ := hand_some _ _ hk
    obtain ⟨hwr, hk⟩ := boolK hk
    rw [List.all_eq_true] at hwr
    obtain ⟨v, h', os', hk, hg⟩ := good _ _ _ _ _ _ _ _ hk
    unfold adopt at hk
    -- what holds behind it
    have main : ∀ (θ : Th) (base : Nat) (e1 args1 : List AV) (h1 : H), VTL θ e e1 → VTL θ vs args1 → RH θ ba base h h1 →
        ∃ v1 h1' θ', From (fun m => sem fns m .wr f args1 base h1 = some (v1, h1')) ∧ VT θ' v v1 ∧ VTL (backTh θ θ') (purgeCells e) e1 ∧ RH (backTh θ θ') ba base (h'.wlo (putBack h.lo ds os')) h1' ∧ Grow θ (backTh θ θ') h1 h1' ∧
          RH θ' ⟨ba.b, false⟩ base (h'.wlo (lay .lf 1000 os')) h1' ∧ (∀ i, i < os.length → θ' (.loc (1000 + i)) = callTh θ ds (.loc (1000 + i))) ∧ Grow (callTh θ ds) θ' h1 h1' := by
      intro θ base e1 args1 h1 he ha r
      have rc := r.call hd (ro := false) (fun _ d hm => hwr d hm)
      obtain ⟨v1, h1', θ', q1, q2, q3, q4, q5, q6⟩ := hg (callTh θ ds) base args1 h1 (hd.vals θ _ _ (fun c hc => callTh_other θ ds hc) (fun i d hi => callTh_loc θ hi) ha) rc
      obtain ⟨r', g⟩ := r.back hd q5 rfl q3 q4 q6
      exact ⟨v1, h1', θ', q1, q2, he.purgeCells r g.le fun d => rfl, r', g, q3, q6, q4⟩
    split at hk
    · rename_i j
      obtain ⟨hj, hk⟩ := boolK hk
      rw [Nat.ble_eq] at hj
      split at hk
      case h_2 => cases hk
      rename_i s bb hos
      unfold newSeq at hk
      cases d with
      | none => cases hk
      | some d =>
      refine ⟨_, _, _, hk, .inl rfl, fun θ base e1 args1 h1 he ha r => ?_⟩
      obtain ⟨v1, h1', θ', q1, q2, q3, q4, q5, q6, q7, q8⟩ := main θ base e1 args1 h1 he ha r
      have hlt : j - 1000 < os'.length := by rw [List.getElem?_eq_some_iff] at hos; exact hos.1
      have hlive : (h'.wlo (lay .lf 1000 os')).get (.loc j) = some (.seq s bb) := by
        rw [HV.get_wlo]; simp only; rw [lay_get, if_pos (by omega)]; exact hos
      have hle2 : ∀ p, (backTh θ θ').le ((backTh θ θ').upd (.loc d) p) := fun p => Th.le_upd _ rfl _
      have hle' : θ'.le (backTh θ θ') := fun o q e => e
      -- the array is no other place's
      have hfree : ∀ p0, θ' (.loc j) = some p0 → ∀ c p' q, backTh θ θ' c = some p' → p'.q = some q → p0.q ≠ some q := by
        intro p0 u0 c p' q u1 u2 u3
        cases c with
        | st o => have := q6.inj _ _ _ _ _ u0 u1 u3 u2; cases this
        | cell o i => have := q6.inj _ _ _ _ _ u0 u1 u3 u2; cases this
        | loc d' =>
          have u1' : θ (.loc d') = some p' := u1
          rcases q8.ran _ _ _ u0 u3 with ⟨c', p'', w1, w2⟩ | w
          · cases c' with
            | st o => have := r.inj _ _ _ _ _ u1' w1 u2 w2; cases this
            | cell o i => have := r.inj _ _ _ _ _ u1' w1 u2 w2; cases this
            | loc j' =>
              obtain ⟨i, d'', rfl, hi, w1'⟩ := callTh_inv θ ds w1
              have hil : i < ds.length := by rw [List.getElem?_eq_some_iff] at hi; exact hi.1
              have hil' : i < os.length := by have := hd.len; omega
              have e3 := q7 i hil'
              rw [w1] at e3
              have := q6.inj _ _ _ _ _ u0 e3 u3 w2
              cases this
              omega
          · have := r.lt _ _ _ u1' u2; omega
      have hltq : ∀ p0, θ' (.loc j) = some p0 → ∀ q, p0.q = some q → q < h1'.next ∧ base ≤ q := fun p0 u0 q u1 => ⟨q6.lt _ _ _ u0 u1, q6.wr _ _ _ u0 u1 rfl⟩
      have hgrow : ∀ p0, θ' (.loc j) = some p0 → Grow θ ((backTh θ θ').upd (.loc d) (some p0)) h1 h1' := by
        intro p0 u0
        refine ⟨Th.le_trans q5.le (hle2 _), q5.keep, fun c p q u1 u2 => ?_, q5.next⟩
        by_cases hcd : c = .loc d
        · subst hcd; rw [Th.upd_same] at u1; cases u1
          rcases q8.ran _ _ _ u0 u2 with ⟨c', p'', w1, w2⟩ | w
          · obtain ⟨c'', w3⟩ := callTh_ran w1; exact .inl ⟨c'', _, w3, w2⟩
          · exact .inr w
        · rw [Th.upd_other _ hcd] at u1; exact q5.ran _ _ _ u1 u2
      rcases q2.whole' with ⟨q, k, n, hq, rfl⟩ | ⟨hq, rfl⟩
      · cases q6.live _ _ hlive with
        | virt _ _ a1 => rw [hq] at a1; cases a1
        | seq _ _ q' k' R a1 a2 a3 a4 a5 a6 a7 =>
        rw [hq] at a1; cases a1
        have r' := q4.place (d := d) (p := .arr q k s.len) (x := .seq s bb) (hfree _ hq) (hltq _ hq)
          (.seq s bb q k R (Th.upd_same _ _ _) a2 a3 (a4.mono (Th.le_trans hle' (hle2 _))) a5 a6 rfl)
        exact ⟨_, _, _, q1, .whole _ _ _ _ (Th.upd_same _ _ _), q3.purge (hle2 _) _ fun c hc => Th.upd_other _ hc _, r', hgrow _ hq, fun q => absurd rfl q⟩
      · cases q6.live _ _ hlive with
        | seq _ _ q' k' R a1 => rw [hq] at a1; cases a1
        | virt _ _ a1 a2 a3 =>
        have r' := q4.place (d := d) (p := .virt) (x := .seq s bb) (hfree _ hq) (hltq _ hq) (.virt s bb (Th.upd_same _ _ _) a2 rfl)
        exact ⟨_, _, _, q1, .wholeV _ (Th.upd_same _ _ _), q3.purge (hle2 _) _ fun c hc => Th.upd_other _ hc _, r', hgrow _ hq, fun q => absurd rfl q⟩
    · obtain ⟨hok, hk⟩ := boolK hk
      refine ⟨_, _, _, hk, .inl rfl, fun θ base e1 args1 h1 he ha r => ?_⟩
      obtain ⟨v1, h1', θ', q1, q2, q3, q4, q5, q6, q7, q8⟩ := main θ base e1 args1 h1 he ha r
      exact ⟨v1, h1', backTh θ θ', q1, resOK_flat (b1 := true) hok q2 fun _ _ e => e, q3, q4, q5, fun q => absurd rfl q⟩
theorem VTL.map (he : VTL θ e e1) (l : List AO) : VTL θ (l.map (·.evV e)) (l.map (·.ev e1)) := by
  induction l with
  | nil => exact .nil
  | cons a l ih => exact .cons (he.ev a) ih
theorem snap_ok (vs : List V) : ∀ (ts : List Bool) {β : Type} {K : List V → Option β} {z : β}, snapV h ts vs K = some z → ∃ ws, K ws = some z ∧ ∀ (θ : Th) (base : Nat) (as : List AV) (h1 : H), VTL θ vs as → RH θ ba base h h1 → ∃ bs, snapAll h1 ts as = some bs ∧ VTL θ ws bs := by
  induction vs with
  | nil =>
    intro ts β K z hk
    cases ts with
    | nil => exact ⟨[], hk, fun θ base as h1 x _ => by cases x; exact ⟨[], rfl, .nil⟩⟩
    | cons t ts => exact ⟨[], hk, fun θ base as h1 x _ => by cases x; exact ⟨[], rfl, .nil⟩⟩
  | cons v vs ih =>
    intro ts β K z hk
    cases ts with
    | nil => exact ⟨v :: vs, hk, fun θ base as h1 x _ => ⟨as, rfl, x⟩⟩
    | cons t ts =>
      -- a value that is handed on as it is
      have plain : ∀ {K' : List V → Option β}, snapV h ts vs (fun vs => K' (v :: vs)) = some z → (∀ ws, K' ws = K ws) → (∀ (θ : Th) (base : Nat) (a : AV) (h1 : H), VT θ v a → RH θ ba base h h1 → ∃ b, snapOne h1 t a = some b ∧ VT θ v b) →
          ∃ ws, K ws = some z ∧ ∀ (θ : Th) (base : Nat) (as : List AV) (h1 : H), VTL θ (v :: vs) as → RH θ ba base h h1 → ∃ bs, snapAll h1 (t :: ts) as = some bs ∧ VTL θ ws bs := by
        intro K' hk' hKK hone
        obtain ⟨ws, k1, k2⟩ := ih ts hk'
        refine ⟨v :: ws, by rw [← hKK]; exact k1, fun θ base as h1 x r => ?_⟩
        cases x with | cons x1 x2 =>
        obtain ⟨b, b1, b2⟩ := hone θ base _ h1 x1 r
        obtain ⟨bs, b3, b4⟩ := k2 θ base _ h1 x2 r
        exact ⟨b :: bs, by simp [snapAll, b1, b3], .cons b2 b4⟩
      cases t with
      | false =>
        simp only [snapV, cond_false] at hk
        exact plain hk (fun _ => rfl) fun θ base a h1 x r => ⟨a, by simp [snapOne], x⟩
      | true =>
        simp only [snapV, cond_true] at hk
        -- a slice
        have slice : ∀ {K0 : Sq → Option β}, contentK h v K0 = some z → (∀ s, K0 s = snapV h ts vs fun vs => K (.vs false s :: vs)) → (∀ (θ : Th) (a : AV), VT θ v a → (∃ o k f n, a = .ref o k f n) ∨ ∃ f, a = .vs f []) →
            ∃ ws, K ws = some z ∧ ∀ (θ : Th) (base : Nat) (as : List AV) (h1 : H), VTL θ (v :: vs) as → RH θ ba base h h1 → ∃ bs, snapAll h1 (true :: ts) as = some bs ∧ VTL θ ws bs := by
          intro K0 hk0 hK0 hshape
          have hcs : ∃ s, K0 s = some z ∧ ∀ {γ : Type} (L : Sq → Option γ), contentK h v L = L s := by
            unfold contentK at hk0 ⊢
            split at hk0
            · exact ⟨_, hk0, fun L => rfl⟩
            · exact ⟨_, hk0, fun L => rfl⟩
            · split at hk0
              · rename_i hc; exact ⟨_, hk0, fun L => by simp only [hc]⟩
              · cases hk0
            · split at hk0
              · rename_i hc
                obtain ⟨hle, hk0⟩ := boolK hk0
                exact ⟨_, hk0, fun L => by simp only [hc, hle, cond_true]⟩
              · cases hk0
            · cases hk0
          obtain ⟨s, c1, c2⟩ := hcs
          rw [hK0] at c1
          obtain ⟨ws, k1, k2⟩ := ih ts c1
          refine ⟨_, k1, fun θ base as h1 x r => ?_⟩
          cases x with | cons x1 x2 =>
          obtain ⟨s', e1, rows, e2, e3, _⟩ := content_sim (K := some) r x1 (c2 some)
          cases e1
          obtain ⟨bs, b3, b4⟩ := k2 θ base _ h1 x2 r
          rcases hshape θ _ x1 with ⟨o, k, f, n, rfl⟩ | ⟨f, rfl⟩
          · exact ⟨.vs false rows :: bs, by simp [snapAll, snapOne, e2, b3], .cons (.flat (.cell (.vs _ _ _ _ (by simp) e3))) b4⟩
          · refine ⟨.vs f [] :: bs, by simp [snapAll, snapOne, b3], .cons (.flat (.cell (.vs _ _ _ _ (by simp) ?_))) b4⟩
            simp only [rowsOf, Option.some.injEq] at e2
            subst e2; exact e3
        split at hk
        · refine slice hk (fun _ => rfl) fun θ a x => ?_
          rcases x.whole' with ⟨q, k, n, _, rfl⟩ | ⟨_, rfl⟩
          · exact .inl ⟨_, _, _, _, rfl⟩
          · exact .inr ⟨_, rfl⟩
        · refine slice hk (fun _ => rfl) fun θ a x => ?_
          rcases x.ref' with ⟨q, k, n, _, _, rfl⟩ | ⟨q, k, n, f, _, _, _, _, rfl⟩ | ⟨_, _, _, rfl⟩
          · exact .inl ⟨_, _, _, _, rfl⟩
          · exact .inr ⟨_, rfl⟩
          · exact .inr ⟨_, rfl⟩
        · obtain ⟨hok, hk⟩ := boolK hk
          refine plain hk (fun _ => rfl) fun θ base a h1 x r => ?_
          refine ⟨a, ?_, x⟩
          cases a with
          | ref o k f n =>
            have := x.okF hok
            cases this with
            | cell x => cases x
          | _ => rfl
end
end Go.Am
namespace Go.Am
section
variable {θ θ' : Th} {ba : Ba} {base : Nat} {h h' : HV} {h1 h1' : H} {e : List V} {e1 : List AV} {v w : V} {a b : AV} {fns : Fns} {T : TV} {fr : Fr} {d : Option Nat} {K : V → List V → HV → Option RA} {z : RA}
def Does (fns : Fns) (T : TV) (fr : Fr) (ba : Ba) (d : Option Nat) (e : List V) (h : HV) (op : AOp) : Prop :=
  ∀ (K : V → List V → HV → Option RA) (z : RA), stepV T fr ba d e h op K = some z → ∃ v e' h', K v e' h' = some z ∧ StepOK fns ba e h op v e' h'
theorem bin_sim2 {op : BinOp} {x y : V} {K : V → Option RA} (hk : binV op x y K = some z) (hx : VT θ x a) (hy : VT θ y b) : ∃ v, K (ofAV v) = some z ∧ binAV op a b = some v := by
  unfold binV at hk
  split at hk
  · have := hx.int'; have := hy.int'; subst_vars
    split at hk
    · rename_i v hv; exact ⟨v, hk, hv⟩
    · cases hk
  · rename_i s t
    have := hx.str'; have := hy.str'; subst_vars
    split at hk
    · obtain ⟨hl, hk⟩ := boolK hk
      rw [Nat.ble_eq] at hl
      refine ⟨.str (s ++ t), hk, ?_⟩
      simp only [binAV, strBin]
      rw [if_pos]
      simp only [maxInt]; omega
    · rename_i hne
      split at hk
      · rename_i v hv
        refine ⟨v, hk, ?_⟩
        cases op <;> first | exact hv | exact absurd rfl hne | cases hv
      · cases hk
  · cases hk
theorem does_bin {op : BinOp} {x y : AO} : Does fns T fr ba d e h (.bin op x y) := by
  intro K z hk
  have key : ∃ v : AV, K (ofAV v) e h = some z ∧ ∀ (θ : Th) (e1 : List AV), VTL θ e e1 → binAV op (x.ev e1) (y.ev e1) = some v := by
    simp only [stepV] at hk
    unfold binV at hk
    split at hk
    · rename_i k m k' n hx hy
      split at hk
      · rename_i v hv
        refine ⟨v, hk, fun θ e1 he => ?_⟩
        have h1 := he.ev x; have h2 := he.ev y
        rw [hx] at h1; rw [hy] at h2
        rw [h1.int', h2.int']; exact hv
      · cases hk
    · rename_i s t hx hy
      have conv : ∀ (θ : Th) (e1 : List AV), VTL θ e e1 → x.ev e1 = .str s ∧ y.ev e1 = .str t := by
        intro θ e1 he
        have h1 := he.ev x; have h2 := he.ev y
        rw [hx] at h1; rw [hy] at h2
        exact ⟨h1.str', h2.str'⟩
      split at hk
      · obtain ⟨hl, hk⟩ := boolK hk
        rw [Nat.ble_eq] at hl
        refine ⟨.str (s ++ t), hk, fun θ e1 he => ?_⟩
        rw [(conv θ e1 he).1, (conv θ e1 he).2]
        simp only [binAV, strBin]
        rw [if_pos]
        simp only [maxInt]; omega
      · rename_i hne
        split at hk
        · rename_i v hv
          refine ⟨v, hk, fun θ e1 he => ?_⟩
          rw [(conv θ e1 he).1, (conv θ e1 he).2]
          cases op <;> first | exact hv | exact absurd rfl hne | cases hv
        · cases hk
    · cases hk
  obtain ⟨v, k1, k2⟩ := key
  exact ⟨_, _, _, k1, .same (fun _ _ _ _ => rfl) fun θ base e1 h1 he r => ⟨v, by simp only [stepOp, k2 θ e1 he, Option.map_some], ofAV_vt v⟩⟩
theorem does_mov {x : AO} : Does fns T fr ba d e h (.mov x) := by
  intro K z hk
  exact ⟨_, _, _, hk, .same (fun _ _ _ _ => rfl) fun θ base e1 h1 he r => ⟨_, rfl, he.ev x⟩⟩
theorem does_pick {c x y : AO} : Does fns T fr ba d e h (.pick c x y) := by
  intro K z hk
  simp only [stepV] at hk
  split at hk
  case h_2 => cases hk
  rename_i t ht
  cases t with
  | true => exact ⟨_, _, _, hk, .same (fun _ _ _ _ => rfl) fun θ base e1 h1 he r => by
      have hc := he.ev c; rw [ht] at hc
      exact ⟨x.ev e1, by simp only [stepOp, hc.bool', cond_true], he.ev x⟩⟩
  | false => exact ⟨_, _, _, hk, .same (fun _ _ _ _ => rfl) fun θ base e1 h1 he r => by
      have hc := he.ev c; rw [ht] at hc
      exact ⟨y.ev e1, by simp only [stepOp, hc.bool', cond_false], he.ev y⟩⟩
theorem allC_of_new {cells : List V} (hk : newV fr d e h cells K = some z) : cells.all okC2 = true := by
  unfold newV at hk
  split at hk
  · exact (boolK hk).1
  · cases hk
theorem does_alloc {c : List AV} : Does fns T fr ba d e h (.alloc c) := by
  intro K z hk
  simp only [stepV] at hk
  obtain ⟨hp, hk⟩ := boolK hk
  have hc := allC_of_new hk
  exact new_sim2 (fun _ _ _ _ => rfl) hk fun θ base e1 h1 he r => ⟨c, ofCells_ok hc, by simp only [stepOp, objOf_plain hp]⟩
theorem does_box {x : AO} : Does fns T fr ba d e h (.box x) := by
  intro K z hk
  obtain ⟨hc, hk⟩ := boolK hk
  simp only [Bool.and_eq_true, Nat.ble_eq] at hc
  refine new_sim2 (fun _ _ _ _ => rfl) hk fun θ base e1 h1 he r => ?_
  have hx := (he.ev x).okF hc.1
  refine ⟨_, hx.cells, ?_⟩
  simp only [stepOp]
  rw [if_pos ⟨hx.okv, by rw [← hx.cells.length]; exact hc.2⟩]
theorem fillCells_sim : ∀ {ps : List (Nat × Nat × AO)} {cs ds : List V}, fillCellsV e cs ps = some ds → ∀ {θ : Th} {e1 cs1 : List AV}, VTL θ e e1 → VCL θ cs cs1 → ∃ ds1, fillCells e1 cs1 ps = some ds1 ∧ VCL θ ds ds1
  | [], cs, ds, hk, θ, e1, cs1, he, hc => by cases hk; exact ⟨cs1, rfl, hc⟩
  | (off, sz, x) :: ps, cs, ds, hk, θ, e1, cs1, he, hc => by
    simp only [fillCellsV] at hk
    obtain ⟨h1, hk⟩ := boolK hk
    simp only [Bool.and_eq_true, Nat.beq_eq, Nat.ble_eq] at h1
    have hx := (he.ev x).okF h1.1.1
    have hl := hx.cells.length
    have hcl := hc.length
    obtain ⟨ds1, q1, q2⟩ := fillCells_sim hk he (hc.setc hx.cells off)
    refine ⟨ds1, ?_, q2⟩
    simp only [fillCells]
    rw [if_pos ⟨hx.okv, by omega, by omega⟩]; exact q1
theorem does_build {c : List AV} {ps : List (Nat × Nat × AO)} : Does fns T fr ba d e h (.build c ps) := by
  intro K z hk
  simp only [stepV] at hk
  split at hk
  case h_2 => cases hk
  rename_i cs hcs
  obtain ⟨hc0, hk⟩ := boolK hk
  -- cells that are told no value of come out of it
  refine ⟨_, _, _, hk, .same (fun _ _ _ _ => rfl) fun θ base e1 h1 he r => ?_⟩
  have gen : ∀ {ps : List (Nat × Nat × AO)} {cs ds : List V}, fillCellsV e cs ps = some ds → ∀ {cs1 : List AV}, CRL θ (.loc 0) 0 cs cs1 → ∃ ds1, fillCells e1 cs1 ps = some ds1 ∧ CRL θ (.loc 0) 0 ds ds1 := by
    intro ps
    induction ps with
    | nil => intro cs ds hk cs1 hc; cases hk; exact ⟨cs1, rfl, hc⟩
    | cons p ps ih =>
      obtain ⟨off, sz, x⟩ := p
      intro cs ds hk cs1 hc
      simp only [fillCellsV] at hk
      obtain ⟨h1, hk⟩ := boolK hk
      simp only [Bool.and_eq_true, Nat.beq_eq, Nat.ble_eq] at h1
      have hx := (he.ev x).okF h1.1.1
      have hl := hx.cells.length
      have hcl := hc.length
      obtain ⟨ds1, q1, q2⟩ := ih hk (hc.setc hx.cells (by omega))
      refine ⟨ds1, ?_, q2⟩
      simp only [fillCells]
      rw [if_pos ⟨hx.okv, by omega, by omega⟩]; exact q1
  have start : CRL θ (.loc 0) 0 (c.map ofCell) c := by
    have : ∀ (i : Nat) (c : List AV), CRL θ (.loc 0) i (c.map ofCell) c := by
      intro i c
      induction c generalizing i with
      | nil => exact .nil i
      | cons a c ih =>
        refine .cons ?_ (ih (i + 1))
        by_cases hok : okC2 (ofCell a) = true
        · exact .cell (ofCell_ok hok)
        · have : ofCell a = .any := by
            cases a <;> simp only [ofCell, okC2] at hok ⊢ <;> try contradiction
            all_goals (rename_i xs; cases xs <;> simp_all [okC2])
          rw [this]; exact .any _
    exact this 0 c
  obtain ⟨ds1, q1, q2⟩ := gen hcs start
  exact ⟨.agg ds1, by simp only [stepOp, q1, Option.map_some], .flat (.agg (q2.vcl hc0))⟩
theorem fillRows_sim {k : Nat} : ∀ {ps : List (Nat × AO)} {rs ss : List (List V)}, fillRowsV e k rs ps = some ss → (∀ r ∈ rs, r.length = k) → (∀ r ∈ ss, r.length = k) ∧ ss.length = rs.length ∧ ∀ {θ : Th} {e1 : List AV} {rs1 : List (List AV)}, VTL θ e e1 → VCR θ rs rs1 → ∃ ss1, fillRows e1 k rs1 ps = some ss1 ∧ VCR θ ss ss1
  | [], rs, ss, hk, hl => by cases hk; exact ⟨hl, rfl, fun he hc => ⟨_, rfl, hc⟩⟩
  | (i, x) :: ps, rs, ss, hk, hl => by
    simp only [fillRowsV] at hk
    obtain ⟨h1, hk⟩ := boolK hk
    simp only [Bool.and_eq_true, Nat.beq_eq, Nat.blt_eq] at h1
    obtain ⟨q1, q2, q3⟩ := fillRows_sim hk (fun r hr => by
      rcases List.mem_or_eq_of_mem_set hr with hr | rfl
      · exact hl r hr
      · exact h1.2)
    refine ⟨q1, by simpa using q2, fun {θ e1 rs1} he hc => ?_⟩
    have hx := (he.ev x).okF h1.1.1
    have hlx := hx.cells.length
    have hcl := hc.length
    obtain ⟨ss1, q4, q5⟩ := q3 he (hc.set hx.cells i)
    refine ⟨ss1, ?_, q5⟩
    simp only [fillRows]
    rw [if_pos ⟨hx.okv, by omega, by omega⟩]; exact q4
theorem does_lit {rr : Bool} {k n : Nat} {c : List AV} {ps : List (Nat × AO)} : Does fns T fr ba d e h (.lit rr k c n ps) := by
  intro K z hk
  simp only [stepV] at hk
  obtain ⟨hc, hk⟩ := boolK hk
  simp only [Bool.and_eq_true, Nat.beq_eq] at hc
  split at hk
  case h_2 => cases hk
  rename_i rows hrows
  obtain ⟨q1, q2, q3⟩ := fillRows_sim hrows (fun r hr => by rw [List.mem_replicate] at hr; rw [hr.2]; simpa using hc.2)
  have hki : Sq.kIs k (.raw k rows) = true := by
    simp only [Sq.kIs, Bool.and_eq_true, Nat.beq_eq, List.all_eq_true, true_and]
    exact q1
  cases rr with
  | false =>
    refine ⟨_, _, _, hk, .same (fun _ _ _ _ => rfl) fun θ base e1 h1 he r => ?_⟩
    obtain ⟨ss1, q4, q5⟩ := q3 he (VCR.replicate (ofCells_ok hc.1) n)
    exact ⟨.vs true ss1, by simp [stepOp, q4], .flat (.cell (.vs _ _ _ _ id q5))⟩
  | true =>
    simp only [cond_true] at hk
    obtain ⟨hn, hk⟩ := boolK hk
    rw [Nat.ble_eq] at hn
    unfold newSeq at hk
    cases d with
    | none => cases hk
    | some d =>
    refine ⟨_, _, _, hk, fun θ base e1 h1 he r => ?_⟩
    obtain ⟨ss1, q4, q5⟩ := q3 he (VCR.replicate (ofCells_ok hc.1) n)
    have hl : ss1.length = n := by rw [← q5.length, q2, List.length_replicate]
    refine newSeq_mid (k := k) he r hki q5 (fun _ => by omega) (.of fun m => ?_)
    show stepOp base e1 h1 (.lit true k c n ps) = _
    simp only [stepOp, q4, if_true, hl]
theorem does_load {g : Bool} {sz : Nat} {x : AO} : Does fns T fr ba d e h (.load g sz x) := by
  intro K z hk
  simp only [stepV] at hk
  -- the value that is loaded is the same whatever goes on behind it
  have part_ind : ∀ {cs : List V} {off : Nat} {K' : V → Option RA} {z : RA}, partV cs off g sz K' = some z → ∃ v, K' v = some z ∧ ∀ {γ : Type} (L : V → Option γ), partV cs off g sz L = L v := by
    intro cs off K' z hz
    unfold partV at hz ⊢
    cases g with
    | true =>
      simp only [cond_true] at hz ⊢
      obtain ⟨hc, hz⟩ := boolK hz
      exact ⟨_, hz, fun L => by rw [hc]; rfl⟩
    | false =>
      simp only [cond_false] at hz ⊢
      obtain ⟨hc, hz⟩ := boolK hz
      split at hz
      · rename_i v hv; exact ⟨v, hz, fun L => by rw [hc]; simp only [cond_true]⟩
      · cases hz
  have ind : ∃ v, K v e h = some z ∧ ∀ {γ : Type} (L : V → Option γ), loadV h g sz (x.evV e) L = L v := by
    unfold loadV at hk ⊢
    split at hk
    · split at hk
      · rename_i hc
        obtain ⟨v, k1, k2⟩ := part_ind hk
        exact ⟨v, k1, fun L => by first | exact k2 L | (simp only [hc]; exact k2 L)⟩
      · cases hk
    · split at hk
      · rename_i s b hc
        obtain ⟨row, k0, k1⟩ := Sq.getK_some hk
        obtain ⟨v, k2, k3⟩ := part_ind k1
        refine ⟨v, k2, fun L => ?_⟩
        try simp only [hc]
        cases s with
        | raw k rows => simp only [Sq.rows] at k0; simp only [Sq.getK, k0]; exact k3 L
        | ty u l =>
          simp only [Sq.rows, List.getElem?_map, Option.map_eq_some_iff] at k0
          obtain ⟨y, hy, rfl⟩ := k0
          simp only [Sq.getK, hy]; exact k3 L
      · cases hk
    · exact part_ind hk
    · cases hk
  obtain ⟨v, k1, k2⟩ := ind
  refine ⟨_, _, _, k1, .same (fun _ _ _ _ => rfl) fun θ base e1 h1 he r => ?_⟩
  obtain ⟨w, q1, b, q2, q3⟩ := load_sim2 (K := some) r (he.ev x) (k2 some)
  cases q1
  exact ⟨b, by simp only [stepOp, q2, Option.map_some], q3⟩
theorem does_store {sz : Nat} {x y : AO} : Does fns T fr ba d e h (.store sz x y) := by
  intro K z hk
  simp only [stepV] at hk
  obtain ⟨e', h', k1, k2⟩ := store_ok hk
  exact ⟨_, _, _, k1, k2⟩
theorem does_nilchk {x : AO} : Does fns T fr ba d e h (.nilchk x) := by
  intro K z hk
  simp only [stepV] at hk
  split at hk
  · rename_i c off hx
    refine ⟨_, _, _, hk, .same (fun _ _ _ _ => rfl) fun θ base e1 h1 he r => ?_⟩
    have hv := he.ev x; rw [hx] at hv
    obtain ⟨q, hq, hv1⟩ := hv.ptr'
    exact ⟨.ptr q 0 off, by simp only [stepOp, hv1], by rw [hv1] at hv; exact hv⟩
  · rename_i c i off hx
    refine ⟨_, _, _, hk, .same (fun _ _ _ _ => rfl) fun θ base e1 h1 he r => ?_⟩
    have hv := he.ev x; rw [hx] at hv
    obtain ⟨q, k, n, hq, hi, hv1⟩ := hv.ep'
    exact ⟨.ptr q i off, by simp only [stepOp, hv1], by rw [hv1] at hv; exact hv⟩
  · rename_i cs hx
    refine ⟨_, _, _, hk, .same (fun _ _ _ _ => rfl) fun θ base e1 h1 he r => ?_⟩
    have hv := he.ev x; rw [hx] at hv
    obtain ⟨ds, hv1, _⟩ := hv.rptr'
    exact ⟨.rptr ds, by simp only [stepOp, hv1], by rw [hv1] at hv; exact hv⟩
  · cases hk
theorem does_eqk {k : EK} {neg : Bool} {x y : AO} : Does fns T fr ba d e h (.eqk k neg x y) := by
  intro K z hk
  simp only [stepV] at hk
  have key : ∃ r, K (.bool (bif neg then !r else r)) e h = some z ∧ ∀ (θ : Th) (e1 : List AV), VTL θ e e1 → eqAV k (x.ev e1) (y.ev e1) = some r := by
    unfold eqV at hk
    split at hk <;> rename_i hx hy <;> try (refine ⟨_, hk, fun θ e1 he => ?_⟩; have h1 := he.ev x; have h2 := he.ev y; rw [hx] at h1; rw [hy] at h2)
    · rw [h1.bool', h2.bool']; rfl
    · rw [h1.nilp', h2.nilp']; rfl
    · obtain ⟨q, _, e2⟩ := h2.ptr'; rw [h1.nilp', e2]; rfl
    · obtain ⟨q, _, e2⟩ := h1.ptr'; rw [h2.nilp', e2]; rfl
    · obtain ⟨q, e2, _⟩ := h2.rptr'; rw [h1.nilp', e2]; rfl
    · obtain ⟨q, e2, _⟩ := h1.rptr'; rw [h2.nilp', e2]; rfl
    · rw [h1.nilfn', h2.nilfn']; rfl
    · obtain ⟨q, e2, _⟩ := h2.fn'; rw [h1.nilfn', e2]; rfl
    · obtain ⟨q, e2, _⟩ := h1.fn'; rw [h2.nilfn', e2]; rfl
    · cases hk
  obtain ⟨r0, k1, k2⟩ := key
  exact ⟨_, _, _, k1, .same (fun _ _ _ _ => rfl) fun θ base e1 h1 he r => ⟨_, by simp only [stepOp, k2 θ e1 he, Option.map_some], .flat (.cell (.bool _))⟩⟩
theorem eqCells_sim : ∀ {ks : List SK} {xs ys : List V} {r : Bool}, eqCellsV ks xs ys = some r → ∀ {θ : Th} {as bs : List AV}, VCL θ xs as → VCL θ ys bs → eqCells ks as bs = some r := by
  intro ks
  induction ks with
  | nil =>
    intro xs ys r hk θ as bs h1 h2
    cases xs <;> cases ys <;> simp only [eqCellsV] at hk <;> cases hk
    cases h1; cases h2; rfl
  | cons k ks ih =>
    intro xs ys r hk θ as bs h1 h2
    cases h1 with
    | nil => cases k <;> simp [eqCellsV] at hk
    | cons v a xs as p1 p2 =>
      cases h2 with
      | nil => cases k <;> cases v <;> simp [eqCellsV] at hk
      | cons w b ys bs p3 p4 =>
        cases k <;> cases p1 <;> cases p3 <;> simp only [eqCellsV] at hk <;> try (cases hk)
        · split at hk
          · rename_i hkk
            split at hk
            · rename_i r0 hr
              cases hk
              simp only [eqCells]
              rw [if_pos hkk, ih hr p2 p4]; rfl
            · cases hk
          · cases hk
        · split at hk
          · rename_i r0 hr
            cases hk
            simp only [eqCells, ih hr p2 p4]; rfl
          · cases hk
        · split at hk
          · rename_i r0 hr
            cases hk
            simp only [eqCells, ih hr p2 p4]; rfl
          · cases hk
theorem does_eqc {ks : List SK} {neg : Bool} {x y : AO} : Does fns T fr ba d e h (.eqc ks neg x y) := by
  intro K z hk
  simp only [stepV] at hk
  split at hk
  case h_2 => cases hk
  rename_i xs ys hx hy
  split at hk
  case h_2 => cases hk
  rename_i r0 hr
  refine ⟨_, _, _, hk, .same (fun _ _ _ _ => rfl) fun θ base e1 h1 he r => ?_⟩
  have g1 := he.ev x; have g2 := he.ev y
  rw [hx] at g1; rw [hy] at g2
  obtain ⟨as, e1', q1⟩ := g1.agg'
  obtain ⟨bs, e2', q2⟩ := g2.agg'
  exact ⟨_, by simp only [stepOp, e1', e2', eqCells_sim hr q1 q2, Option.map_some], .flat (.cell (.bool _))⟩
theorem does_un {op : UnOp} {x : AO} : Does fns T fr ba d e h (.un op x) := by
  intro K z hk
  simp only [stepV] at hk
  split at hk
  · rename_i t hx
    refine ⟨_, _, _, hk, .same (fun _ _ _ _ => rfl) fun θ base e1 h1 he r => ?_⟩
    have g := he.ev x; rw [hx] at g
    exact ⟨_, by simp only [stepOp, g.bool'], .flat (.cell (.bool _))⟩
  · rename_i k n hx
    refine ⟨_, _, _, hk, .same (fun _ _ _ _ => rfl) fun θ base e1 h1 he r => ?_⟩
    have g := he.ev x; rw [hx] at g
    exact ⟨_, by simp only [stepOp, g.int'], .flat (.cell (.int _ _))⟩
  · cases hk
theorem does_mkfn {f : Nat} {caps : List AO} : Does fns T fr ba d e h (.mkfn f caps) := by
  intro K z hk
  simp only [stepV] at hk
  obtain ⟨hc, hk⟩ := boolK hk
  refine ⟨_, _, _, hk, .same (fun _ _ _ _ => rfl) fun θ base e1 h1 he r => ?_⟩
  have key : ∀ (l : List AO), (l.map (·.evV e)).all okC2 = true → VCL θ (l.map (·.evV e)) (l.map (·.ev e1)) ∧ (l.map (·.ev e1)).all (fun a => a.okv && !a.isAgg) = true := by
    intro l
    induction l with
    | nil => intro _; exact ⟨.nil, rfl⟩
    | cons a l ih =>
      intro hl
      simp only [List.map_cons, List.all_cons, Bool.and_eq_true] at hl
      obtain ⟨i1, i2⟩ := ih hl.2
      have hv := (he.ev a).okC2 hl.1
      refine ⟨.cons _ _ _ _ hv i1, ?_⟩
      simp only [List.map_cons, List.all_cons, Bool.and_eq_true, i2, and_true, hv.okv.1, hv.okv.2.1, Bool.not_false, and_self]
  obtain ⟨i1, i2⟩ := key caps hc
  exact ⟨_, by simp only [stepOp]; rw [if_pos i2], .fn f i1⟩
theorem VT.ptrAt {c : Cd} {f : Nat} (x : VT θ (.ptr c f) a) : ∃ q, a = .ptr q 0 f ∧ ∀ off, VT θ (.ptr c off) (.ptr q 0 off) := by
  cases x with
  | flat x => cases x with | cell x => cases x with | ptr o _ q hq => exact ⟨q, rfl, fun off => .flat (.cell (.ptr _ _ _ hq))⟩
  | ptr d _ q hq => exact ⟨q, rfl, fun off => .ptr _ _ _ hq⟩
theorem does_faddr {x : AO} {off : Nat} : Does fns T fr ba d e h (.faddr x off) := by
  intro K z hk
  simp only [stepV] at hk
  split at hk
  · rename_i c f hx
    refine ⟨_, _, _, hk, .same (fun _ _ _ _ => rfl) fun θ base e1 h1 he r => ?_⟩
    have hv := he.ev x; rw [hx] at hv
    obtain ⟨q, hv1, hq⟩ := hv.ptrAt
    exact ⟨.ptr q 0 (f + off), by simp only [stepOp, hv1, faddrAV, Option.map_some], hq _⟩
  · rename_i c i f hx
    refine ⟨_, _, _, hk, .same (fun _ _ _ _ => rfl) fun θ base e1 h1 he r => ?_⟩
    have hv := he.ev x; rw [hx] at hv
    obtain ⟨q, k, n, hq, hi, hv1⟩ := hv.ep'
    exact ⟨.ptr q i (f + off), by simp only [stepOp, hv1, faddrAV, Option.map_some], .ep _ _ _ _ _ _ hq hi⟩
  · rename_i cs hx
    refine ⟨_, _, _, hk, .same (fun _ _ _ _ => rfl) fun θ base e1 h1 he r => ?_⟩
    have hv := he.ev x; rw [hx] at hv
    obtain ⟨ds, hv1, hds⟩ := hv.rptr'
    exact ⟨.rptr (ds.drop off), by simp only [stepOp, hv1, faddrAV, Option.map_some], .flat (.cell (.rptr _ _ (hds.drop off)))⟩
  · cases hk
theorem part_out {β : Type} {cs : List V} {off sz : Nat} {g : Bool} {K' : V → Option β} {z : β} (hz : partV cs off g sz K' = some z) : ∃ v, K' v = some z ∧ ∀ {γ : Type} (L : V → Option γ), partV cs off g sz L = L v := by
  unfold partV at hz ⊢
  cases g with
  | true =>
    simp only [cond_true] at hz ⊢
    obtain ⟨hc, hz⟩ := boolK hz
    exact ⟨_, hz, fun L => by rw [hc]; rfl⟩
  | false =>
    simp only [cond_false] at hz ⊢
    obtain ⟨hc, hz⟩ := boolK hz
    split at hz
    · rename_i v hv; exact ⟨v, hz, fun L => by rw [hc]; simp only [cond_true]⟩
    · cases hz
theorem does_field {x : AO} {off sz : Nat} {g : Bool} : Does fns T fr ba d e h (.field x off g sz) := by
  intro K z hk
  simp only [stepV] at hk
  split at hk
  case h_2 => cases hk
  rename_i cs hx
  obtain ⟨v, k1, k2⟩ := part_out hk
  refine ⟨_, _, _, k1, .same (fun _ _ _ _ => rfl) fun θ base e1 h1 he r => ?_⟩
  have hv := he.ev x; rw [hx] at hv
  obtain ⟨ds, hv1, hds⟩ := hv.agg'
  obtain ⟨w, q1, b, q2, q3⟩ := part_sim2 (c := .loc 0) (K := some) (hds.crl 0) (k2 some)
  cases q1
  exact ⟨b, by simp only [stepOp, hv1, q2, Option.map_some], q3⟩
theorem nat_out {β : Type} {v : V} {K' : Nat → Option β} {z : β} (hz : natV v K' = some z) : ∃ n, K' n = some z ∧ ∀ (θ : Th) (a : AV), VT θ v a → natOf a = some n := by
  unfold natV at hz
  split at hz
  · split at hz
    · rename_i m; exact ⟨m, hz, fun θ a x => by rw [x.int']; simp [natOf]⟩
    · cases hz
  · cases hz
theorem optNat_out {β : Type} {d : Nat} {o : Option AO} {K' : Nat → Option β} {z : β} (hz : optNatV e d o K' = some z) : ∃ n, K' n = some z ∧ ∀ (θ : Th) (e1 : List AV), VTL θ e e1 → optNat e1 d o = some n := by
  cases o with
  | none => exact ⟨d, hz, fun _ _ _ => rfl⟩
  | some x =>
    obtain ⟨n, k1, k2⟩ := nat_out hz
    exact ⟨n, k1, fun θ e1 he => k2 θ _ (he.ev x)⟩
theorem does_iaddr {x i : AO} {k : Nat} {arr : Option Nat} : Does fns T fr ba d e h (.iaddr x i k arr) := by
  intro K z hk
  simp only [stepV] at hk
  have hq0 := nat_out hk
  clear hk
  obtain ⟨j, hk, hj⟩ := hq0
  cases arr with
  | none =>
    simp only at hk
    unfold iaddrV at hk
    split at hk
    · rename_i f s hx
      obtain ⟨hs, hk⟩ := boolK hk
      obtain ⟨row, k1, k2⟩ := Sq.getK_some hk
      refine ⟨_, _, _, k2, .same (fun _ _ _ _ => rfl) fun θ base e1 h1 he r => ?_⟩
      have hv := he.ev x; rw [hx] at hv
      obtain ⟨g, rows, hv1, _, hr⟩ := hv.vs'
      obtain ⟨y, q1, q2⟩ := hr.get k1
      have hyl : y.length = k := hr.rowlen (Sq.okk_rows hs) y (List.mem_of_getElem? q1)
      exact ⟨.rptr y, by simp only [stepOp, hj θ _ (he.ev i), hv1, iaddrS, q1]; rw [if_pos hyl]; rfl, .flat (.cell (.rptr _ _ q2))⟩
    · rename_i c hx
      split at hk
      case h_2 => cases hk
      rename_i s b hc
      obtain ⟨hs, hk⟩ := boolK hk
      simp only [Bool.and_eq_true, Nat.blt_eq] at hs
      refine ⟨_, _, _, hk, .same (fun _ _ _ _ => rfl) fun θ base e1 h1 he r => ?_⟩
      have hv := he.ev x; rw [hx] at hv
      rcases hv.whole' with ⟨q, k0, n, hq, hv1⟩ | ⟨hq, hv1⟩
      · cases r.live _ _ hc with
        | virt _ _ a1 => rw [hq] at a1; cases a1
        | seq _ _ q' k' R a1 a2 a3 a4 a5 a6 a7 =>
        rw [hq] at a1; cases a1
        have hkk : k0 = k := Sq.kIs_inj a5 hs.2
        refine ⟨.ptr q (0 + j) 0, by simp only [stepOp, hj θ _ (he.ev i), hv1, iaddrS]; rw [if_pos ⟨hs.1, hkk⟩]; rfl, ?_⟩
        rw [Nat.zero_add]; exact .ep _ _ _ _ _ _ hq hs.1
      · cases r.live _ _ hc with
        | seq _ _ q' k' R a1 => rw [hq] at a1; cases a1
        | virt _ _ a1 a2 => rw [Sq.len_rows, a2] at hs; simp at hs
    · rename_i c off len hx
      split at hk
      case h_2 => cases hk
      rename_i s b hc
      obtain ⟨hs, hk⟩ := boolK hk
      simp only [Bool.and_eq_true, Nat.blt_eq] at hs
      refine ⟨_, _, _, hk, .same (fun _ _ _ _ => rfl) fun θ base e1 h1 he r => ?_⟩
      have hv := he.ev x; rw [hx] at hv
      rcases hv.ref' with ⟨q, k0, n, hq, hn, hv1⟩ | ⟨q, k0, n, f, hq, _, _, h0, hv1⟩ | ⟨hq, _, h0, hv1⟩
      · cases r.live _ _ hc with
        | virt _ _ a1 => rw [hq] at a1; cases a1
        | seq _ _ q' k' R a1 a2 a3 a4 a5 a6 a7 =>
        rw [hq] at a1; cases a1
        have hkk : k0 = k := Sq.kIs_inj a5 hs.2
        exact ⟨.ptr q (off + j) 0, by simp only [stepOp, hj θ _ (he.ev i), hv1, iaddrS]; rw [if_pos ⟨hs.1, hkk⟩]; rfl, .ep _ _ _ _ _ _ hq (by omega)⟩
      · omega
      · omega
    · cases hk
  | some n =>
    simp only at hk
    split at hk
    · rename_i c f hx
      obtain ⟨hs, hk⟩ := boolK hk
      rw [Nat.blt_eq] at hs
      refine ⟨_, _, _, hk, .same (fun _ _ _ _ => rfl) fun θ base e1 h1 he r => ?_⟩
      have hv := he.ev x; rw [hx] at hv
      obtain ⟨q, hv1, hq⟩ := hv.ptrAt
      exact ⟨.ptr q 0 (f + j * k), by simp only [stepOp, hj θ _ (he.ev i), hv1, iaddrA]; rw [if_pos hs]; rfl, hq _⟩
    · rename_i cs hx
      obtain ⟨hs, hk⟩ := boolK hk
      rw [Nat.blt_eq] at hs
      refine ⟨_, _, _, hk, .same (fun _ _ _ _ => rfl) fun θ base e1 h1 he r => ?_⟩
      have hv := he.ev x; rw [hx] at hv
      obtain ⟨ds, hv1, hds⟩ := hv.rptr'
      exact ⟨.rptr (ds.drop (j * k)), by simp only [stepOp, hj θ _ (he.ev i), hv1, iaddrA]; rw [if_pos hs]; rfl, .flat (.cell (.rptr _ _ (hds.drop _)))⟩
    · cases hk
theorem does_index {x i : AO} {arr : Option (Nat × Nat × Bool)} : Does fns T fr ba d e h (.index x i arr) := by
  intro K z hk
  simp only [stepV] at hk
  have hq0 := nat_out hk
  clear hk
  obtain ⟨j, hk, hj⟩ := hq0
  split at hk
  · rename_i s hx
    split at hk
    case h_2 => cases hk
    rename_i b hb
    refine ⟨_, _, _, hk, .same (fun _ _ _ _ => rfl) fun θ base e1 h1 he r => ?_⟩
    have hv := he.ev x; rw [hx] at hv
    exact ⟨_, by simp only [stepOp, hj θ _ (he.ev i), hv.str', hb, Option.map_some], .flat (.cell (.int _ _))⟩
  · rename_i n k g cs hx
    obtain ⟨hs, hk⟩ := boolK hk
    rw [Nat.blt_eq] at hs
    obtain ⟨v, k1, k2⟩ := part_out hk
    refine ⟨_, _, _, k1, .same (fun _ _ _ _ => rfl) fun θ base e1 h1 he r => ?_⟩
    have hv := he.ev x; rw [hx] at hv
    obtain ⟨ds, hv1, hds⟩ := hv.agg'
    obtain ⟨w, q1, b, q2, q3⟩ := part_sim2 (c := .loc 0) (K := some) (hds.crl 0) (k2 some)
    cases q1
    exact ⟨b, by simp only [stepOp, hj θ _ (he.ev i), hv1]; rw [if_pos hs, q2]; rfl, q3⟩
  · cases hk
theorem does_extract {x : AO} {i : Nat} : Does fns T fr ba d e h (.extract x i) := by
  intro K z hk
  simp only [stepV] at hk
  split at hk
  case h_2 => cases hk
  rename_i vs hx
  split at hk
  case h_2 => cases hk
  rename_i v hv
  refine ⟨_, _, _, hk, .same (fun _ _ _ _ => rfl) fun θ base e1 h1 he r => ?_⟩
  have hv0 := he.ev x; rw [hx] at hv0
  obtain ⟨ds, hv1, hds⟩ := hv0.tup'
  have : ∀ {vs : List V} {as : List AV} {i : Nat}, VFL θ vs as → vs[i]? = some v → ∃ a, as[i]? = some a ∧ VF θ v a := by
    intro vs as i x
    induction x generalizing i with
    | nil => intro q; simp at q
    | cons y _ ih =>
      intro q
      cases i with
      | zero => simp at q; subst q; exact ⟨_, rfl, y⟩
      | succ i => simp at q; simpa using ih q
  obtain ⟨a, q1, q2⟩ := this hds hv
  exact ⟨a, by simp only [stepOp, hv1, q1, Option.map_some], .flat q2⟩
theorem does_min {x y : AO} : Does fns T fr ba d e h (.min2 x y) := by
  intro K z hk
  simp only [stepV] at hk
  split at hk
  case h_2 => cases hk
  rename_i k m k' n hx hy
  cases hd : decide (n < m) with
  | true =>
    rw [hd] at hk
    refine ⟨_, _, _, hk, .same (fun _ _ _ _ => rfl) fun θ base e1 h1 he r => ?_⟩
    have g1 := he.ev x; have g2 := he.ev y; rw [hx] at g1; rw [hy] at g2
    exact ⟨.int k n, by simp only [stepOp, g1.int', g2.int']; rw [if_pos (of_decide_eq_true hd)], .flat (.cell (.int _ _))⟩
  | false =>
    rw [hd] at hk
    refine ⟨_, _, _, hk, .same (fun _ _ _ _ => rfl) fun θ base e1 h1 he r => ?_⟩
    have g1 := he.ev x; have g2 := he.ev y; rw [hx] at g1; rw [hy] at g2
    exact ⟨.int k m, by simp only [stepOp, g1.int', g2.int']; rw [if_neg (of_decide_eq_false hd)], .flat (.cell (.int _ _))⟩
theorem does_max {x y : AO} : Does fns T fr ba d e h (.max2 x y) := by
  intro K z hk
  simp only [stepV] at hk
  split at hk
  case h_2 => cases hk
  rename_i k m k' n hx hy
  cases hd : decide (m < n) with
  | true =>
    rw [hd] at hk
    refine ⟨_, _, _, hk, .same (fun _ _ _ _ => rfl) fun θ base e1 h1 he r => ?_⟩
    have g1 := he.ev x; have g2 := he.ev y; rw [hx] at g1; rw [hy] at g2
    exact ⟨.int k n, by simp only [stepOp, g1.int', g2.int']; rw [if_pos (of_decide_eq_true hd)], .flat (.cell (.int _ _))⟩
  | false =>
    rw [hd] at hk
    refine ⟨_, _, _, hk, .same (fun _ _ _ _ => rfl) fun θ base e1 h1 he r => ?_⟩
    have g1 := he.ev x; have g2 := he.ev y; rw [hx] at g1; rw [hy] at g2
    exact ⟨.int k m, by simp only [stepOp, g1.int', g2.int']; rw [if_neg (of_decide_eq_false hd)], .flat (.cell (.int _ _))⟩
end
end Go.Am
namespace Go.Am
section
variable {θ θ' : Th} {ba : Ba} {base : Nat} {h h' : HV} {h1 h1' : H} {e : List V} {e1 : List AV} {v w : V} {a b : AV} {fns : Fns} {T : TV} {fr : Fr} {d : Option Nat} {K : V → List V → HV → Option RA} {z : RA}
theorem content_out {β : Type} {K0 : Sq → Option β} {z : β} (hk0 : contentK h v K0 = some z) : ∃ s, K0 s = some z ∧ ∀ {γ : Type} (L : Sq → Option γ), contentK h v L = L s := by
  unfold contentK at hk0 ⊢
  split at hk0
  · exact ⟨_, hk0, fun L => rfl⟩
  · exact ⟨_, hk0, fun L => rfl⟩
  · split at hk0
    · rename_i hc; exact ⟨_, hk0, fun L => by simp only [hc]⟩
    · cases hk0
  · split at hk0
    · rename_i hc
      obtain ⟨hle, hk0⟩ := boolK hk0
      exact ⟨_, hk0, fun L => by simp only [hc, hle, cond_true]⟩
    · cases hk0
  · cases hk0
theorem len_out {β : Type} {K0 : Nat → Option β} {z : β} (hk0 : lenV h v K0 = some z) : ∃ n, K0 n = some z ∧ ∀ {γ : Type} (L : Nat → Option γ), lenV h v L = L n := by
  unfold lenV at hk0 ⊢
  split at hk0
  · exact ⟨_, hk0, fun L => rfl⟩
  · exact ⟨_, hk0, fun L => rfl⟩
  · split at hk0
    · rename_i hc; exact ⟨_, hk0, fun L => by simp only [hc]⟩
    · cases hk0
  · exact ⟨_, hk0, fun L => rfl⟩
  · cases hk0
theorem allBytes_sim2 : ∀ {l : List Int} {rows : List (List AV)}, bytesOk l = true → VCR θ (l.map (enc .bytes)) rows → allBytes rows = some (l.map Int.toNat)
  | [], rows, _, hr => by cases hr; rfl
  | n :: l, rows, hb, hr => by
    simp only [bytesOk, Bool.and_eq_true, decide_eq_true_eq] at hb
    cases hr with | cons _ x _ xs h1 h2 =>
    obtain ⟨a, as, rfl, h3, h4⟩ := VCL.inv (v := .int .u8 n) (vs := []) h1
    cases h3
    cases h4
    simp only [allBytes, byteOf]
    rw [if_pos hb.1, allBytes_sim2 hb.2 h2]
    rfl
theorem bytes_rel (s : List Nat) : VCR θ (s.map fun (b : Nat) => enc .bytes (b : Int)) (bytesAV s) := by
  induction s with
  | nil => exact .nil
  | cons b s ih => exact .cons _ _ _ _ (.cons _ _ _ _ (.int _ _) .nil) ih
theorem VT.ofStrA {t : List Nat} (x : VT θ v (.str t)) : v = .str t ∨ v = .any := by
  cases x with
  | flat x => cases x with | cell x => cases x; exact .inl rfl
  | any => exact .inr rfl
theorem does_conv {c : CV} {x : AO} : Does fns T fr ba d e h (.conv c x) := by
  intro K z hk
  simp only [stepV] at hk
  cases c with
  | i2i k =>
    simp only at hk
    split at hk
    case h_2 => cases hk
    rename_i k' n hx
    refine ⟨_, _, _, hk, .same (fun _ _ _ _ => rfl) fun θ base e1 h1 he r => ?_⟩
    have g := he.ev x; rw [hx] at g
    exact ⟨_, by simp only [stepOp, g.int'], .flat (.cell (.int _ _))⟩
  | i2s =>
    simp only at hk
    split at hk
    case h_2 => cases hk
    rename_i k' n hx
    refine ⟨_, _, _, hk, .same (fun _ _ _ _ => rfl) fun θ base e1 h1 he r => ?_⟩
    have g := he.ev x; rw [hx] at g
    exact ⟨_, by simp only [stepOp, g.int'], .flat (.cell (.str _))⟩
  | s2s =>
    simp only at hk
    split at hk
    case h_2 => cases hk
    rename_i s hx
    refine ⟨_, _, _, hk, .same (fun _ _ _ _ => rfl) fun θ base e1 h1 he r => ?_⟩
    have g := he.ev x; rw [hx] at g
    exact ⟨_, by simp only [stepOp, g.str'], .flat (.cell (.str _))⟩
  | s2b rr =>
    simp only at hk
    split at hk
    case h_2 => cases hk
    rename_i s hx
    cases rr with
    | false =>
      refine ⟨_, _, _, hk, .same (fun _ _ _ _ => rfl) fun θ base e1 h1 he r => ?_⟩
      have g := he.ev x; rw [hx] at g
      refine ⟨.vs false (bytesAV s), by simp only [stepOp, g.str', Bool.false_eq_true, if_false], .flat (.cell (.vs _ _ _ _ id ?_))⟩
      simp only [Sq.rows, List.map_map]
      exact bytes_rel s
    | true =>
      simp only [cond_true] at hk
      unfold newSeq at hk
      cases d with
      | none => cases hk
      | some d =>
      refine ⟨_, _, _, hk, fun θ base e1 h1 he r => ?_⟩
      have g := he.ev x; rw [hx] at g
      refine newSeq_mid (k := 1) (rows := bytesAV s) he r rfl (by simp only [Sq.rows, List.map_map]; exact bytes_rel s) (fun q => by cases q) (.of fun m => ?_)
      show stepOp base e1 h1 (.conv (.s2b true) x) = _
      simp only [stepOp, g.str', if_true]
      simp [bytesAV]
  | mark => cases hk
  | b2s =>
    simp only at hk
    have hns : ∀ s, x.evV e ≠ .str s := by
      intro s hs; rw [hs] at hk; cases hk
    have hk2 : (contentK h (x.evV e) fun s => match s with
        | .ty .bytes l => bif bytesOk l then K (.str (l.map Int.toNat)) e h else none
        | .raw _ [] => K (.str []) e h
        | _ => none) = some z := by
      cases hx : x.evV e <;> rw [hx] at hk <;> first | exact hk | cases hk
    obtain ⟨s, k1, k2⟩ := content_out hk2
    have fin : ∀ (bs : List Nat), K (.str bs) e h = some z → (∀ (θ : Th) rows, VCR θ s.rows rows → allBytes rows = some bs) → ∃ v e' h', K v e' h' = some z ∧ StepOK fns ba e h (.conv .b2s x) v e' h' := by
      intro bs hkb hall
      refine ⟨_, _, _, hkb, .same (fun _ _ _ _ => rfl) fun θ base e1 h1 he r => ?_⟩
      obtain ⟨s', e1', rows, q2, q3, _⟩ := content_sim (K := some) r (he.ev x) (k2 some)
      cases e1'
      refine ⟨.str bs, ?_, .flat (.cell (.str _))⟩
      have hab := hall θ rows q3
      have hxa := he.ev x
      cases ha : x.ev e1 with
      | vs g xs => rw [ha] at q2; simp only [stepOp, ha, q2, Option.bind_some, hab, Option.map_some]
      | ref o k f n => rw [ha] at q2; simp only [stepOp, ha, q2, Option.bind_some, hab, Option.map_some]
      | str t =>
        rw [ha] at hxa
        rcases hxa.ofStrA with hxx | hxx
        · exact absurd hxx (hns _)
        · have := k2 some; rw [hxx] at this; simp [contentK] at this
      | _ => rw [ha] at q2; simp [rowsOf] at q2
    split at k1
    · rename_i l
      obtain ⟨hb, k1⟩ := boolK k1
      exact fin _ k1 fun θ rows hr => allBytes_sim2 hb hr
    · exact fin _ k1 fun θ rows hr => by cases hr; rfl
    · cases k1
theorem does_mk {rr : Bool} {k : Nat} {c : List AV} {x y : AO} : Does fns T fr ba d e h (.mk rr k c x y) := by
  intro K z hk
  simp only [stepV] at hk
  have hq0 := nat_out hk
  clear hk
  obtain ⟨l, hk, hl⟩ := hq0
  have hq0 := nat_out hk
  clear hk
  obtain ⟨cp, hk, hcp⟩ := hq0
  obtain ⟨hc, hk⟩ := boolK hk
  simp only [Bool.and_eq_true, Nat.beq_eq, Nat.blt_eq] at hc
  obtain ⟨⟨⟨hlc, hlt⟩, hok⟩, hck⟩ := hc
  have hki : Sq.kIs k (.raw k (List.replicate l (c.map ofCell))) = true := by
    simp only [Sq.kIs, Bool.and_eq_true, Nat.beq_eq, List.all_eq_true, true_and]
    intro r hr; rw [List.mem_replicate] at hr; rw [hr.2]; simpa using hck
  cases rr with
  | false =>
    refine ⟨_, _, _, hk, .same (fun _ _ _ _ => rfl) fun θ base e1 h1 he r => ?_⟩
    exact ⟨_, by simp only [stepOp, hl θ _ (he.ev x), hcp θ _ (he.ev y)]; rw [if_pos ⟨hlc, hlt⟩, if_neg (by simp)], .flat (.cell (.vs _ _ _ _ id (VCR.replicate (ofCells_ok hok) l)))⟩
  | true =>
    simp only [cond_true] at hk
    unfold newSeq at hk
    cases d with
    | none => cases hk
    | some d =>
    refine ⟨_, _, _, hk, fun θ base e1 h1 he r => ?_⟩
    refine newSeq_mid (k := k) (rows := List.replicate l c) he r hki (VCR.replicate (ofCells_ok hok) l) (fun _ => by simp; omega) (.of fun m => ?_)
    show stepOp base e1 h1 (.mk true k c x y) = _
    simp only [stepOp, hl θ _ (he.ev x), hcp θ _ (he.ev y)]
    rw [if_pos ⟨hlc, hlt⟩, if_pos trivial, List.length_replicate]
theorem headD_len {rows : List (List AV)} {k : Nat} (h : ∀ r ∈ rows, r.length = k) : (rows.headD (List.replicate k .undef)).length = k := by
  cases rows with
  | nil => simp
  | cons r rows => exact h r (by simp)
theorem does_slice {x : AO} {k : Nat} {lo hi mx : Option AO} : Does fns T fr ba d e h (.slice x k lo hi mx) := by
  intro K z hk
  simp only [stepV] at hk
  -- an array that is shown whole
  have whole : ∀ c, x.evV e = .whole c → lo = none → hi = none → mx = none → (bif Nat.ble 1 k && h.kIs c k then K (.whole c) e h else none) = some z → ∃ v e' h', K v e' h' = some z ∧ StepOK fns ba e h (.slice x k lo hi mx) v e' h' := by
    clear hk
    intro c hx hlo hhi hmx hk
    subst hlo hhi hmx
    obtain ⟨hc, hk⟩ := boolK hk
    simp only [Bool.and_eq_true, Nat.ble_eq] at hc
    obtain ⟨h1k, hkis⟩ := hc
    refine ⟨_, _, _, hk, .same (fun _ _ _ _ => rfl) fun θ base e1 h1 he r => ?_⟩
    have hv := he.ev x; rw [hx] at hv
    simp only [HV.kIs] at hkis
    split at hkis
    case h_2 => cases hkis
    rename_i s b hc
    rcases hv.whole' with ⟨q, k0, n, hq, hv1⟩ | ⟨hq, hv1⟩
    · cases r.live _ _ hc with
      | virt _ _ a1 => rw [hq] at a1; cases a1
      | seq _ _ q' k' R a1 a2 a3 a4 a5 a6 a7 =>
      rw [hq] at a1; cases a1
      have hkk : k0 = k := Sq.kIs_inj a5 hkis
      refine ⟨.ref q k0 0 s.len, ?_, .whole _ _ _ _ hq⟩
      simp only [stepOp, hv1, sliceAV, lenOf, optNat, Option.bind_eq_bind, Option.bind_some]
      rw [if_pos ⟨Nat.zero_le _, Nat.le_refl _⟩, if_pos ⟨hkk, h1k⟩, if_neg (by omega)]
      simp [hkk]
    · refine ⟨.vs true [], ?_, .wholeV _ hq⟩
      simp only [stepOp, hv1, sliceAV, lenOf, optNat, Option.bind_eq_bind, Option.bind_some]
      rw [if_pos ⟨Nat.zero_le _, Nat.le_refl _⟩, if_pos ⟨h1k, by simp⟩]
      simp
  have gen : (lenV h (x.evV e) fun l => optNatV e 0 lo fun a => optNatV e l hi fun b =>
    bif Nat.ble a b then (bif Nat.ble b l then (match mx with
      | none => match x.evV e with
        | .str s => bif k.beq 0 then K (.str ((s.drop a).take (b - a))) e h else none
        | .vs _ s => bif Nat.ble 1 k && s.okk k then K (.vs false ((s.drop a).take (b - a))) e h else none
        | .whole c => bif Nat.ble 1 k && h.kIs c k then K (.ref c a (b - a)) e h else none
        | .ref c off _ => bif Nat.ble 1 k && h.kIs c k then K (.ref c (off + a) (b - a)) e h else none
        | _ => none
      | some m => natV (m.evV e) fun c => bif Nat.ble b c && Nat.ble c l then (match x.evV e with
        | .vs _ s => bif Nat.ble 1 k && s.okk k then K (.vs (c.beq b) ((s.drop a).take (b - a))) e h else none
        | .whole _ => bif Nat.ble 1 k && a.beq b then K (.vs (c.beq b) (.raw k [])) e h else none
        | .ref _ _ _ => bif Nat.ble 1 k && a.beq b then K (.vs (c.beq b) (.raw k [])) e h else none
        | _ => none) else none) else none) else none) = some z → ∃ v e' h', K v e' h' = some z ∧ StepOK fns ba e h (.slice x k lo hi mx) v e' h' := by
    clear whole hk
    intro hk
    obtain ⟨l, hk, hlen⟩ := len_out hk
    have hq0 := optNat_out hk
    clear hk
    obtain ⟨a, hk, ha⟩ := hq0
    have hq0 := optNat_out hk
    clear hk
    obtain ⟨b, hk, hb⟩ := hq0
    obtain ⟨hab, hk⟩ := boolK hk
    obtain ⟨hbl, hk⟩ := boolK hk
    rw [Nat.ble_eq] at hab hbl
    have hlenA : ∀ (θ : Th) (base : Nat) (e1 : List AV) (h1 : H), VTL θ e e1 → RH θ ba base h h1 → lenOf (x.ev e1) = some l := by
      intro θ base e1 h1 he r
      obtain ⟨n, q1, q2⟩ := len_sim (K := some) r (he.ev x) (hlen some)
      cases q1; exact q2
    cases mx with
    | none =>
      simp only at hk
      have start : ∀ (θ : Th) (base : Nat) (e1 : List AV) (h1 : H), VTL θ e e1 → RH θ ba base h h1 → ∀ (v1 : AV), (match x.ev e1 with
          | .str s => if k = 0 then some (.str ((s.drop a).take (b - a))) else none
          | .vs full xs => if 1 ≤ k ∧ (xs.headD (List.replicate k .undef)).length = k then some (.vs (full && b == l) ((xs.drop a).take (b - a))) else none
          | .ref o k' off _ => if k' = k ∧ 1 ≤ k then (if a = b ∧ 0 < a then some (.vs false []) else some (.ref o k (off + a) (b - a))) else none
          | _ => none) = some v1 → stepOp base e1 h1 (.slice x k lo hi none) = some (v1, h1) := by
        intro θ base e1 h1 he r v1 hv1
        simp only [stepOp, sliceAV, hlenA θ base e1 h1 he r, ha θ e1 he, hb θ e1 he, Option.bind_eq_bind, Option.bind_some]
        rw [if_pos ⟨hab, hbl⟩]
        cases hxe : x.ev e1 <;> rw [hxe] at hv1 <;> simp only at hv1 ⊢ <;> first | (rw [hv1]; rfl) | cases hv1
      split at hk
      · rename_i s hx
        obtain ⟨hk0, hk⟩ := boolK hk
        rw [Nat.beq_eq] at hk0
        refine ⟨_, _, _, hk, .same (fun _ _ _ _ => rfl) fun θ base e1 h1 he r => ?_⟩
        have hv := he.ev x; rw [hx] at hv
        exact ⟨_, start θ base e1 h1 he r _ (by rw [hv.str']; simp only; rw [if_pos hk0]), .flat (.cell (.str _))⟩
      · rename_i f s hx
        obtain ⟨hk0, hk⟩ := boolK hk
        simp only [Bool.and_eq_true, Nat.ble_eq] at hk0
        refine ⟨_, _, _, hk, .same (fun _ _ _ _ => rfl) fun θ base e1 h1 he r => ?_⟩
        have hv := he.ev x; rw [hx] at hv
        obtain ⟨g, rows, hv1, _, hr⟩ := hv.vs'
        refine ⟨_, start θ base e1 h1 he r _ (by rw [hv1]; simp only; rw [if_pos ⟨hk0.1, headD_len (hr.rowlen (Sq.okk_rows hk0.2))⟩]), .flat (.cell (.vs _ _ _ _ (by simp) ?_))⟩
        rw [Sq.rows_take, Sq.rows_drop]
        exact (hr.drop a).take _
      · rename_i c hx
        obtain ⟨hk0, hk⟩ := boolK hk
        simp only [Bool.and_eq_true, Nat.ble_eq] at hk0
        obtain ⟨h1k, hkis⟩ := hk0
        refine ⟨_, _, _, hk, .same (fun _ _ _ _ => rfl) fun θ base e1 h1 he r => ?_⟩
        have hv := he.ev x; rw [hx] at hv
        have hle := hlenA θ base e1 h1 he r
        simp only [HV.kIs] at hkis
        split at hkis
        case h_2 => cases hkis
        rename_i s bb hc
        rcases hv.whole' with ⟨q, k0, n, hq, hv1⟩ | ⟨hq, hv1⟩
        · cases r.live _ _ hc with
          | virt _ _ a1 => rw [hq] at a1; cases a1
          | seq _ _ q' k' R a1 a2 a3 a4 a5 a6 a7 =>
          rw [hq] at a1; cases a1
          have hkk : k0 = k := Sq.kIs_inj a5 hkis
          rw [hv1] at hle; simp only [lenOf, Option.some.injEq] at hle; subst hle
          subst hkk
          by_cases hE : a = b ∧ 0 < a
          · refine ⟨_, start θ base e1 h1 he r _ (by rw [hv1]; simp only; rw [if_pos ⟨trivial, h1k⟩, if_pos hE]), ?_⟩
            rw [hE.1, Nat.sub_self]
            exact .refE _ _ _ _ _ _ hq hbl (by omega)
          · refine ⟨_, start θ base e1 h1 he r _ (by rw [hv1]; simp only; rw [if_pos ⟨trivial, h1k⟩, if_neg hE]), ?_⟩
            rw [Nat.zero_add]
            exact .ref _ _ _ _ _ _ hq (by omega)
        · rw [hv1] at hle; simp only [lenOf, List.length_nil, Option.some.injEq] at hle; subst hle
          have h0 : a = 0 ∧ b = 0 := by omega
          obtain ⟨rfl, rfl⟩ := h0
          refine ⟨.vs true [], start θ base e1 h1 he r _ (by rw [hv1]; simp only; rw [if_pos ⟨h1k, by simp⟩]; rfl), .refV _ hq⟩
      · rename_i c off len hx
        obtain ⟨hk0, hk⟩ := boolK hk
        simp only [Bool.and_eq_true, Nat.ble_eq] at hk0
        obtain ⟨h1k, hkis⟩ := hk0
        refine ⟨_, _, _, hk, .same (fun _ _ _ _ => rfl) fun θ base e1 h1 he r => ?_⟩
        have hv := he.ev x; rw [hx] at hv
        have hle := hlenA θ base e1 h1 he r
        simp only [HV.kIs] at hkis
        split at hkis
        case h_2 => cases hkis
        rename_i s bb hc
        rcases hv.ref' with ⟨q, k0, n, hq, hn, hv1⟩ | ⟨q, k0, n, f, hq, hon, hoff, h0, hv1⟩ | ⟨hq, hoff, h0, hv1⟩
        · cases r.live _ _ hc with
          | virt _ _ a1 => rw [hq] at a1; cases a1
          | seq _ _ q' k' R a1 a2 a3 a4 a5 a6 a7 =>
          rw [hq] at a1; cases a1
          have hkk : k0 = k := Sq.kIs_inj a5 hkis
          rw [hv1] at hle; simp only [lenOf, Option.some.injEq] at hle; subst hle
          subst hkk
          by_cases hE : a = b ∧ 0 < a
          · refine ⟨_, start θ base e1 h1 he r _ (by rw [hv1]; simp only; rw [if_pos ⟨trivial, h1k⟩, if_pos hE]), ?_⟩
            rw [hE.1, Nat.sub_self]
            exact .refE _ _ _ _ _ _ hq (by omega) (by omega)
          · refine ⟨_, start θ base e1 h1 he r _ (by rw [hv1]; simp only; rw [if_pos ⟨trivial, h1k⟩, if_neg hE]), ?_⟩
            exact .ref _ _ _ _ _ _ hq (by omega)
        · rw [hv1] at hle; simp only [lenOf, List.length_nil, Option.some.injEq] at hle; subst hle
          have h00 : a = 0 ∧ b = 0 := by omega
          obtain ⟨rfl, rfl⟩ := h00
          refine ⟨.vs (f && true) [], start θ base e1 h1 he r _ (by rw [hv1]; simp only; rw [if_pos ⟨h1k, by simp⟩]; rfl), .refE _ _ _ _ _ _ hq (by omega) (by omega)⟩
        · rw [hv1] at hle; simp only [lenOf, List.length_nil, Option.some.injEq] at hle; subst hle
          have h00 : a = 0 ∧ b = 0 := by omega
          obtain ⟨rfl, rfl⟩ := h00
          subst hoff
          refine ⟨.vs true [], start θ base e1 h1 he r _ (by rw [hv1]; simp only; rw [if_pos ⟨h1k, by simp⟩]; rfl), .refV _ hq⟩
      · cases hk
    | some m =>
      simp only at hk
      have hq0 := nat_out hk
      clear hk
      obtain ⟨c', hk, hm⟩ := hq0
      obtain ⟨hbc, hk⟩ := boolK hk
      simp only [Bool.and_eq_true, Nat.ble_eq] at hbc
      have start : ∀ (θ : Th) (base : Nat) (e1 : List AV) (h1 : H), VTL θ e e1 → RH θ ba base h h1 → ∀ (v1 : AV), (match x.ev e1 with
          | .vs _ xs => if b ≤ c' ∧ c' ≤ l ∧ 1 ≤ k ∧ (xs.headD (List.replicate k .undef)).length = k then some (.vs (c' == b) ((xs.drop a).take (b - a))) else none
          | .ref _ _ _ _ => if a = b ∧ b ≤ c' ∧ c' ≤ l ∧ 1 ≤ k then some (.vs (c' == b) []) else none
          | _ => none) = some v1 → stepOp base e1 h1 (.slice x k lo hi (some m)) = some (v1, h1) := by
        intro θ base e1 h1 he r v1 hv1
        simp only [stepOp, sliceAV, hlenA θ base e1 h1 he r, ha θ e1 he, hb θ e1 he, Option.bind_eq_bind, Option.bind_some]
        rw [if_pos ⟨hab, hbl⟩]
        cases hxe : x.ev e1 <;> rw [hxe] at hv1 <;> simp only at hv1 ⊢ <;> first | (rw [hm θ _ (he.ev m)]; simp only [Option.bind_some]; rw [hv1]; rfl) | cases hv1
      have empty : (1 ≤ k ∧ a = b) → K (.vs (c'.beq b) (.raw k [])) e h = some z → ((∃ c, x.evV e = .whole c) ∨ ∃ c o n, x.evV e = .ref c o n) → ∃ v e' h', K v e' h' = some z ∧ StepOK fns ba e h (.slice x k lo hi (some m)) v e' h' := by
        intro hc hk hx
        refine ⟨_, _, _, hk, .same (fun _ _ _ _ => rfl) fun θ base e1 h1 he r => ?_⟩
        have hv := he.ev x
        have hle := hlenA θ base e1 h1 he r
        have shape : (∃ o k' f n, x.ev e1 = .ref o k' f n) ∨ ∃ f, x.ev e1 = .vs f [] := by
          rcases hx with ⟨c, hx⟩ | ⟨c, o, n, hx⟩
          · rw [hx] at hv
            rcases hv.whole' with ⟨_, _, _, _, hv1⟩ | ⟨_, hv1⟩
            · exact .inl ⟨_, _, _, _, hv1⟩
            · exact .inr ⟨_, hv1⟩
          · rw [hx] at hv
            rcases hv.ref' with ⟨_, _, _, _, _, hv1⟩ | ⟨_, _, _, _, _, _, _, _, hv1⟩ | ⟨_, _, _, hv1⟩
            · exact .inl ⟨_, _, _, _, hv1⟩
            · exact .inr ⟨_, hv1⟩
            · exact .inr ⟨_, hv1⟩
        have hbq : c'.beq b = true → (c' == b) = true := by intro q; rw [Nat.beq_eq] at q; simp [q]
        rcases shape with ⟨o, k', f, n, hv1⟩ | ⟨f, hv1⟩
        · exact ⟨_, start θ base e1 h1 he r _ (by rw [hv1]; simp only; rw [if_pos ⟨hc.2, hbc.1, hbc.2, hc.1⟩]), .flat (.cell (.vs _ _ _ _ hbq .nil))⟩
        · refine ⟨_, start θ base e1 h1 he r (.vs (c' == b) []) (by rw [hv1]; simp only; rw [if_pos ⟨hbc.1, hbc.2, hc.1, by simp⟩]; simp), .flat (.cell (.vs _ _ _ _ hbq .nil))⟩
      split at hk
      · rename_i f s hx
        obtain ⟨hk0, hk⟩ := boolK hk
        simp only [Bool.and_eq_true, Nat.ble_eq] at hk0
        refine ⟨_, _, _, hk, .same (fun _ _ _ _ => rfl) fun θ base e1 h1 he r => ?_⟩
        have hv := he.ev x; rw [hx] at hv
        obtain ⟨g, rows, hv1, _, hr⟩ := hv.vs'
        refine ⟨_, start θ base e1 h1 he r _ (by rw [hv1]; simp only; rw [if_pos ⟨hbc.1, hbc.2, hk0.1, headD_len (hr.rowlen (Sq.okk_rows hk0.2))⟩]), .flat (.cell (.vs _ _ _ _ (by intro q; rw [Nat.beq_eq] at q; simp [q]) ?_))⟩
        rw [Sq.rows_take, Sq.rows_drop]
        exact (hr.drop a).take _
      · rename_i c hx
        obtain ⟨hk0, hk⟩ := boolK hk
        simp only [Bool.and_eq_true, Nat.ble_eq, Nat.beq_eq] at hk0
        exact empty hk0 hk (.inl ⟨_, hx⟩)
      · rename_i c o n hx
        obtain ⟨hk0, hk⟩ := boolK hk
        simp only [Bool.and_eq_true, Nat.ble_eq, Nat.beq_eq] at hk0
        exact empty hk0 hk (.inr ⟨_, _, _, hx⟩)
      · cases hk
  unfold sliceV at hk
  cases hw : (x.evV e).isRef && lo.isNone && hi.isNone && mx.isNone with
  | false => rw [hw] at hk; exact gen hk
  | true =>
    rw [hw] at hk
    simp only [Bool.and_eq_true, Option.isNone_iff_eq_none] at hw
    obtain ⟨⟨⟨_, w2⟩, w3⟩, w4⟩ := hw
    simp only [cond_true] at hk
    split at hk
    · rename_i c hx; exact whole c hx w2 w3 w4 hk
    · cases hk
theorem does_len {s : Bool} {x : AO} : Does fns T fr ba d e h (.len s x) := by
  intro K z hk
  cases s with
  | true =>
    simp only [stepV] at hk
    have hs : ∃ t, x.evV e = .str t := by cases hx : x.evV e <;> rw [hx] at hk <;> first | exact ⟨_, rfl⟩ | cases hk
    obtain ⟨t, hx⟩ := hs
    rw [hx] at hk
    refine ⟨_, _, _, hk, .same (fun _ _ _ _ => rfl) fun θ base e1 h1 he r => ?_⟩
    have g := he.ev x; rw [hx] at g
    exact ⟨_, by simp only [stepOp, g.str'], .flat (.cell (.int _ _))⟩
  | false =>
    simp only [stepV] at hk
    have hns : ∀ s, x.evV e ≠ .str s := by
      intro s hs; rw [hs] at hk; cases hk
    have hk2 : (lenV h (x.evV e) fun n => K (.int .i64 (n : Int)) e h) = some z := by
      cases hx : x.evV e <;> rw [hx] at hk <;> first | exact hk | cases hk
    obtain ⟨n, k1, k2⟩ := len_out hk2
    refine ⟨_, _, _, k1, .same (fun _ _ _ _ => rfl) fun θ base e1 h1 he r => ?_⟩
    obtain ⟨n', q1, q2⟩ := len_sim (K := some) r (he.ev x) (k2 some)
    cases q1
    refine ⟨.int .i64 (n : Int), ?_, .flat (.cell (.int _ _))⟩
    have hxa := he.ev x
    cases ha : x.ev e1 with
    | vs g xs => rw [ha] at q2; cases q2; simp only [stepOp, ha]
    | ref o k f m => rw [ha] at q2; cases q2; simp only [stepOp, ha]
    | str t =>
      rw [ha] at hxa
      rcases hxa.ofStrA with hxx | hxx
      · exact absurd hxx (hns _)
      · have := k2 some; rw [hxx] at this; simp [lenV] at this
    | _ => rw [ha] at q2; simp [lenOf] at q2
theorem does_range {x : AO} : Does fns T fr ba d e h (.range x) := by
  intro K z hk
  simp only [stepV] at hk
  split at hk
  case h_2 => cases hk
  rename_i s d hx
  refine ⟨_, _, _, hk, fun θ base e1 h1 he r => ?_⟩
  have g := he.ev x; rw [hx] at g
  obtain ⟨r', gr⟩ := r.newLoc (d := d) (p := .obj h1.next) (x := .iter s 0) (y := .iter s 0) rfl (.iter s 0 h1.next (Th.upd_same _ _ _) (by simp))
  exact ⟨_, _, _, .of fun m => by show stepOp base e1 h1 (.range x) = _; simp only [stepOp, g.str'], .ptr _ _ _ (Th.upd_same _ _ _), he.purge gr.le _ fun c hc => Th.upd_other θ hc _, r', gr⟩
theorem does_next {x : AO} : Does fns T fr ba d e h (.next x) := by
  intro K z hk
  simp only [stepV] at hk
  split at hk
  case h_2 => cases hk
  rename_i c hx
  split at hk
  case h_2 => cases hk
  rename_i rest pos hc
  obtain ⟨hw, hk⟩ := boolK hk
  have hobj : ∀ (θ : Th) (base : Nat) (e1 : List AV) (h1 : H), VTL θ e e1 → RH θ ba base h h1 → ∃ q, x.ev e1 = .ptr q 0 0 ∧ θ c = some (.obj q) ∧ base ≤ q ∧ h1.get q = some (.iter rest pos) := by
    intro θ base e1 h1 he r
    have hv := he.ev x; rw [hx] at hv
    obtain ⟨q, hq, hv1⟩ := hv.ptr'
    cases r.live _ _ hc with
    | iter _ _ q' a1 a2 => rw [hq] at a1; cases a1; exact ⟨q, hv1, hq, r.wr _ _ _ hq rfl hw, a2⟩
  cases rest with
  | nil =>
    refine ⟨_, _, _, hk, .same (fun _ _ _ _ => rfl) fun θ base e1 h1 he r => ?_⟩
    obtain ⟨q, q1, q2, q3, q4⟩ := hobj θ base e1 h1 he r
    exact ⟨_, by simp only [stepOp, q1, q4]; rw [if_pos q3], .tup (.cons (.cell (.bool _)) .nil)⟩
  | cons b bs =>
    refine ⟨_, _, _, hk, fun θ base e1 h1 he r => ?_⟩
    obtain ⟨q, q1, q2, q3, q4⟩ := hobj θ base e1 h1 he r
    obtain ⟨r', g⟩ := r.upd (c := c) (q := q) (x := .iter ((b :: bs).drop (decode (b :: bs)).2) (pos + (decode (b :: bs)).2)) (y := .iter ((b :: bs).drop (decode (b :: bs)).2) (pos + (decode (b :: bs)).2)) q2 rfl
      (.iter _ _ q q2 (by simp))
    refine ⟨_, _, _, .of fun m => ?_, .tup (.cons (.cell (.bool _)) (.cons (.cell (.int _ _)) (.cons (.cell (.int _ _)) .nil))), he, r', g⟩
    show stepOp base e1 h1 (.next x) = _
    simp only [stepOp, q1, q4]
    rw [if_pos q3]
theorem does_call (good : GoodV fns T) {k : CK} {f : Nat} {args : List AO} {snap : List Bool} : Does fns T fr ba d e h (.call k f args snap) := by
  intro K z hk
  cases snap with
  | nil =>
    simp only [stepV] at hk
    obtain ⟨v, e', h', k1, _, k2⟩ := call_ok good hk
    refine ⟨v, e', h', k1, fun θ base e1 h1 he r => ?_⟩
    obtain ⟨v1, h1', θ', q1, q2, q3, q4, q5, _⟩ := k2 θ base e1 _ h1 he (he.map args) r
    exact ⟨v1, h1', θ', q1, q2, q3, q4, q5⟩
  | cons t ts =>
    have main : k ≠ .wr → (snapV h (t :: ts) (args.map (·.evV e)) fun vs => callV T fr ba d e h k f vs fun v e h => bif scalarV v then K v e h else none) = some z → ∃ v e' h', K v e' h' = some z ∧ StepOK fns ba e h (.call k f args (t :: ts)) v e' h' := by
      intro hnw hk
      obtain ⟨ws, hk, hsn⟩ := snap_ok (ba := ba) _ _ hk
      obtain ⟨v, e', h', k1, k0, k2⟩ := call_ok good hk
      obtain ⟨hsc, k1⟩ := boolK k1
      refine ⟨v, e', h', k1, fun θ base e1 h1 he r => ?_⟩
      obtain ⟨bs, b1, b2⟩ := hsn θ base _ h1 (he.map args) r
      obtain ⟨v1, h1', θ', q1, q2, q3, q4, q5, q6⟩ := k2 θ base e1 bs h1 he b2 r
      refine ⟨v1, h1', θ', q1.mono fun m hm => ?_, q2, q3, q4, q5⟩
      have hs : v1.scalar = true := by
        cases v <;> try (cases hsc)
        · rw [q2.int']; rfl
        · rw [q2.bool']; rfl
        · rw [q2.str']; rfl
      cases k with
      | wr => exact absurd rfl hnw
      | ro => simp only [opSem, b1]; simp only [sem] at hm; simp only [hm, hs, if_true]
      | pure => simp only [opSem, b1]; simp only [sem] at hm; simp only [hm, hs, if_true]
    cases k with
    | wr => simp only [stepV] at hk; cases hk
    | ro => exact main (by simp) hk
    | pure => exact main (by simp) hk
theorem does_callv (good : GoodV fns T) {k : CK} {f : AO} {args : List AO} : Does fns T fr ba d e h (.callv k f args) := by
  intro K z hk
  simp only [stepV] at hk
  split at hk
  case h_2 => cases hk
  rename_i g caps hf
  obtain ⟨v, e', h', k1, _, k2⟩ := call_ok good hk
  refine ⟨v, e', h', k1, fun θ base e1 h1 he r => ?_⟩
  have hv := he.ev f; rw [hf] at hv
  obtain ⟨ds, hv1, hds⟩ := hv.fn'
  have hcaps : ∀ {cs : List V} {ds : List AV}, VCL θ cs ds → VTL θ cs ds := by
    intro cs
    induction cs with
    | nil => intro ds x; cases x; exact .nil
    | cons c cs ih => intro ds x; cases x with | cons _ _ _ _ x y => exact .cons (.flat (.cell x)) (ih y)
  obtain ⟨v1, h1', θ', q1, q2, q3, q4, q5, _⟩ := k2 θ base e1 _ h1 he ((he.map args).append (hcaps hds)) r
  exact ⟨v1, h1', θ', q1.mono fun m hm => by simp only [opSem, hv1]; exact hm, q2, q3, q4, q5⟩
theorem does_all (good : GoodV fns T) (op : AOp) : Does fns T fr ba d e h op := by
  cases op with
  | mov => exact does_mov
  | pick => exact does_pick
  | alloc => exact does_alloc
  | box => exact does_box
  | build => exact does_build
  | lit => exact does_lit
  | load => exact does_load
  | store => exact does_store
  | nilchk => exact does_nilchk
  | bin => exact does_bin
  | eqk => exact does_eqk
  | eqc => exact does_eqc
  | un => exact does_un
  | conv => exact does_conv
  | mkfn => exact does_mkfn
  | mk => exact does_mk
  | slice => exact does_slice
  | faddr => exact does_faddr
  | field => exact does_field
  | iaddr => exact does_iaddr
  | index => exact does_index
  | range => exact does_range
  | next => exact does_next
  | extract => exact does_extract
  | call => exact does_call good
  | callv => exact does_callv good
  | append => intro K z hk; exact append_ok hk
  | len => exact does_len
  | min2 => exact does_min
  | max2 => exact does_max
end
end Go.Am
namespace Go.Am
section
variable {θ θ' : Th} {ba : Ba} {base : Nat} {h h' : HV} {h1 h1' : H} {e : List V} {e1 : List AV} {v w : V} {a b : AV} {fns : Fns} {T : TV} {fr : Fr} {d : Option Nat} {K : V → List V → HV → Option RA} {z : RA}
theorem same_ok {arr : Bool} {R : Option RA} (hk : sameV arr v w R = some z) : R = some z ∧ ∀ (θ θ' : Th), (∀ c, v.at c = true → arr = true → θ' c = θ c) → θ.le θ' → ∀ a b, VT θ' v a → VT θ w b → a.beq b = true := by
  unfold sameV at hk
  split at hk
  · split at hk
    · rename_i hc
      refine ⟨hk, fun θ θ' _ _ a b x y => ?_⟩
      rw [x.int', y.int']
      simp [AV.beq, hc.1, hc.2]
    · cases hk
  · split at hk
    · rename_i hc
      refine ⟨hk, fun θ θ' _ _ a b x y => ?_⟩
      rw [x.bool', y.bool', hc]
      simp [AV.beq]
    · cases hk
  · split at hk
    · rename_i hc
      refine ⟨hk, fun θ θ' _ _ a b x y => ?_⟩
      rw [x.str', y.str', hc]
      simp [AV.beq]
    · cases hk
  · exact ⟨hk, fun θ θ' _ _ a b x y => by rw [x.nilp', y.nilp']; rfl⟩
  · rename_i c o d o'
    have hb0 := boolK hk
    clear hk
    obtain ⟨hc, hk⟩ := hb0
    simp only [Bool.and_eq_true, Cd.eqb_iff, Nat.beq_eq, Bool.or_eq_true] at hc
    obtain ⟨⟨rfl, rfl⟩, hc⟩ := hc
    refine ⟨hk, fun θ θ' ha l a b x y => ?_⟩
    obtain ⟨q, hq, rfl⟩ := x.ptr'
    obtain ⟨q', hq', rfl⟩ := y.ptr'
    have : θ' c = θ c := by
      rcases hc with hc | hc
      · exact ha c (by simp [V.at, Cd.eqb_iff]) hc
      · cases c with
        | st o => rw [hq', l o q' hq']
        | cell => cases hc
        | loc => cases hc
    rw [this, hq'] at hq
    cases hq
    simp [AV.beq]
  · rename_i c d
    have hb0 := boolK hk
    clear hk
    obtain ⟨hc, hk⟩ := hb0
    simp only [Bool.and_eq_true, Cd.eqb_iff] at hc
    obtain ⟨rfl, hc⟩ := hc
    refine ⟨hk, fun θ θ' ha l a b x y => ?_⟩
    have := ha c (by simp [V.at, Cd.eqb_iff]) hc
    rcases x.whole' with ⟨q, k, n, hq, rfl⟩ | ⟨hq, rfl⟩ <;> rcases y.whole' with ⟨q', k', n', hq', rfl⟩ | ⟨hq', rfl⟩
    · rw [this, hq'] at hq; cases hq; simp [AV.beq]
    · rw [this, hq'] at hq; cases hq
    · rw [this, hq'] at hq; cases hq
    · simp [AV.beq, AV.beqR]
  · cases hk
theorem load_out {g : Bool} {sz : Nat} {β : Type} {K' : V → Option β} {z : β} (hk : loadV h g sz v K' = some z) : ∃ w, K' w = some z ∧ ∀ {γ : Type} (L : V → Option γ), loadV h g sz v L = L w := by
  unfold loadV at hk ⊢
  split at hk
  · split at hk
    · rename_i hc
      obtain ⟨v, k1, k2⟩ := part_out hk
      exact ⟨v, k1, fun L => by first | exact k2 L | (simp only [hc]; exact k2 L)⟩
    · cases hk
  · split at hk
    · rename_i s b hc
      obtain ⟨row, k0, k1⟩ := Sq.getK_some hk
      obtain ⟨v, k2, k3⟩ := part_out k1
      refine ⟨v, k2, fun L => ?_⟩
      try simp only [hc]
      cases s with
      | raw k rows => simp only [Sq.rows] at k0; simp only [Sq.getK, k0]; exact k3 L
      | ty u l =>
        simp only [Sq.rows, List.getElem?_map, Option.map_eq_some_iff] at k0
        obtain ⟨y, hy, rfl⟩ := k0
        simp only [Sq.getK, hy]; exact k3 L
    · cases hk
  · exact part_out hk
  · cases hk
theorem again_ok (good : GoodV fns T) {ops : List (Nat × AOper)} {i : Nat} {R : Option RA} : ∀ {chk : List (Nat × Nat)}, againV T fr ba ops i e h R chk = some z →
    R = some z ∧ ∀ (θ : Th) (base : Nat) (e1 : List AV) (h1 : H), VTL θ e e1 → RH θ ba base h h1 → From fun m => recheck (sem fns m) base ops i e1 h1 chk = true
  | [], hk => ⟨hk, fun _ _ _ _ _ _ => .of fun _ => rfl⟩
  | (l, w) :: cs, hk => by
    simp only [againV] at hk
    cases hw : w.beq i with
    | false =>
      rw [hw] at hk
      obtain ⟨k1, k2⟩ := again_ok good hk
      refine ⟨k1, fun θ base e1 h1 he r => (k2 θ base e1 h1 he r).mono fun m hm => ?_⟩
      simp only [recheck, hw, cond_false, Bool.true_and]; exact hm
    | true =>
      rw [hw] at hk
      simp only [cond_true] at hk
      split at hk
      case h_2 => cases hk
      rename_i o ho
      split at hk
      case h_2 => cases hk
      rename_i d hd
      have fin : ∀ {hk : againV T fr ba ops i e h R cs = some z} (hag : ∀ (θ : Th) (base : Nat) (e1 : List AV) (h1 : H), VTL θ e e1 → RH θ ba base h h1 → From fun m => again (sem fns m) base o e1 h1 = true),
          R = some z ∧ ∀ (θ : Th) (base : Nat) (e1 : List AV) (h1 : H), VTL θ e e1 → RH θ ba base h h1 → From fun m => recheck (sem fns m) base ops i e1 h1 ((l, w) :: cs) = true := by
        intro hk hag
        obtain ⟨k1, k2⟩ := again_ok good hk
        refine ⟨k1, fun θ base e1 h1 he r => ((hag θ base e1 h1 he r).and (k2 θ base e1 h1 he r)).mono fun m hm => ?_⟩
        simp only [recheck, hw, cond_true, ho, hm.1, Bool.true_and]
        exact hm.2
      -- what is reckoned again
      have go : (match o.op with
            | .load g sz a => loadV h g sz (a.evV e) fun v => sameV true v (e.getD d .undef) (againV T fr ba ops i e h R cs)
            | op => stepV T fr ba (some d) e h op fun v _ _ => sameV false v (e.getD d .undef) (againV T fr ba ops i e h R cs)) = some z →
          againV T fr ba ops i e h R cs = some z ∧ ∀ (θ : Th) (base : Nat) (e1 : List AV) (h1 : H), VTL θ e e1 → RH θ ba base h h1 →
            From fun m => ∃ v1 h1', opSem (sem fns m) base e1 h1 o.op = some (v1, h1') ∧ v1.beq (e1.getD d .undef) = true := by
        intro hg
        split at hg
        · rename_i g sz a hop
          obtain ⟨v, k1, k2⟩ := load_out hg
          obtain ⟨k3, k4⟩ := same_ok k1
          refine ⟨k3, fun θ base e1 h1 he r => .of fun m => ?_⟩
          obtain ⟨w, q1, b, q2, q3⟩ := load_sim2 (K := some) r (he.ev a) (k2 some)
          cases q1
          refine ⟨b, h1, by rw [hop]; show stepOp base e1 h1 (.load g sz a) = _; simp only [stepOp, q2, Option.map_some], k4 θ θ (fun _ _ _ => rfl) (Th.le_refl _) _ _ q3 (he.getD d)⟩
        · obtain ⟨v, e', h', k1, k2⟩ := does_all good o.op _ _ hg
          obtain ⟨k3, k4⟩ := same_ok k1
          refine ⟨k3, fun θ base e1 h1 he r => ?_⟩
          obtain ⟨v1, h1', θ', q1, q2, q3, q4, q5⟩ := k2 θ base e1 h1 he r
          exact q1.mono fun m hm => ⟨v1, h1', hm, k4 θ θ' (fun _ _ q => by cases q) q5.le _ _ q2 (he.getD d)⟩
      split at hk
      · rename_i hgd
        obtain ⟨k1, k2⟩ := go hk
        refine fin (hk := k1) fun θ base e1 h1 he r => (k2 θ base e1 h1 he r).mono fun m ⟨v1, h1', q1, q2⟩ => ?_
        simp only [again, hgd, wanted, hd, q1, q2]
      · rename_i s t hgd
        split at hk
        case h_2 => cases hk
        rename_i b hb
        cases hbt : (b == t) with
        | true =>
          rw [hbt] at hk
          obtain ⟨k1, k2⟩ := go hk
          refine fin (hk := k1) fun θ base e1 h1 he r => (k2 θ base e1 h1 he r).mono fun m ⟨v1, h1', q1, q2⟩ => ?_
          have hs := he.getD s; rw [hb] at hs
          simp only [again, hgd, wanted, hs.bool', hbt, hd, q1, q2]
        | false =>
          rw [hbt] at hk
          refine fin (hk := hk) fun θ base e1 h1 he r => .of fun m => ?_
          have hs := he.getD s; rw [hb] at hs
          simp only [again, hgd, wanted, hs.bool', hbt, hd]
theorem slot_ok {s : Nat} {A B : List V → Option RA} {U : Option RA} (hk : slotV e s A B U = some z) :
    (A (e.set s (.bool true)) = some z ∧ e.getD s .undef = .bool true) ∨ (B (e.set s (.bool false)) = some z ∧ e.getD s .undef = .bool false) ∨ (U = some z ∧ e.getD s .undef = .undef) := by
  unfold slotV at hk
  split at hk
  · rename_i b hb
    cases b
    · exact .inr (.inl ⟨hk, hb⟩)
    · exact .inl ⟨hk, hb⟩
  · rename_i hb; exact .inr (.inr ⟨hk, hb⟩)
  · cases hk
theorem VT.undef' (x : VT θ .undef a) : a = .undef := by
  cases x with
  | flat x => cases x with | cell x => cases x
  | undef => rfl
def OpsOK (fns : Fns) (ba : Ba) (all : List (Nat × AOper)) (chk : List (Nat × Nat)) (ops : List (Nat × AOper)) (e : List V) (h : HV) (e' : List V) (h' : HV) : Prop :=
  ∀ (θ : Th) (base : Nat) (e1 : List AV) (h1 : H), VTL θ e e1 → RH θ ba base h h1 → ∃ e1' h1' θ', From (fun m => runOps (sem fns m) base all chk ops e1 h1 = some (e1', h1')) ∧ VTL θ' e' e1' ∧ RH θ' ba base h' h1' ∧ Grow θ θ' h1 h1'
theorem rk_ok (good : GoodV fns T) {all : List (Nat × AOper)} {chk : List (Nat × Nat)} : ∀ {ops : List (Nat × AOper)} {e : List V} {h : HV} {R : List V → HV → Option RA}, rkV T fr ba all chk ops e h R = some z →
    ∃ e' h', R e' h' = some z ∧ OpsOK fns ba all chk ops e h e' h'
  | [], e, h, R, hk => ⟨e, h, hk, fun θ base e1 h1 he r => ⟨e1, h1, θ, .of fun _ => rfl, he, r, Grow.refl _ _⟩⟩
  | (i, o) :: ops, e, h, R, hk => by
    obtain ⟨dst, op, gd⟩ := o
    -- one operation, then the others
    have one : ∀ {e0 : List V} {v : V} {e' : List V} {h' : HV}, againV T fr ba all i (putV e' dst v) h' (rkV T fr ba all chk ops (putV e' dst v) h' R) chk = some z →
        (∀ (θ : Th) (base : Nat) (e1 : List AV) (h1 : H), VTL θ e e1 → RH θ ba base h h1 → ∃ v1 h1' θ', From (fun m => runOp (sem fns m) base ⟨dst, op, gd⟩ e1 h1 = some (putDst e1 dst v1, h1')) ∧ VT θ' v v1 ∧ VTL θ' e' e1 ∧ RH θ' ba base h' h1' ∧ Grow θ θ' h1 h1') →
        ∃ e2 h2, R e2 h2 = some z ∧ OpsOK fns ba all chk ((i, ⟨dst, op, gd⟩) :: ops) e h e2 h2 := by
      intro e0 v e' h' hk hop
      obtain ⟨k1, k2⟩ := again_ok good hk
      obtain ⟨e2, h2, k3, k4⟩ := rk_ok good k1
      refine ⟨e2, h2, k3, fun θ base e1 h1 he r => ?_⟩
      obtain ⟨v1, h1', θ', q1, q2, q3, q4, q5⟩ := hop θ base e1 h1 he r
      have he' := q3.put q2 dst
      obtain ⟨e1', h1'', θ'', q6, q7, q8, q9⟩ := k4 θ' base _ _ he' q4
      refine ⟨e1', h1'', θ'', ((q1.and (k2 θ' base _ _ he' q4)).and q6).mono fun m hm => ?_, q7, q8, q5.trans q9⟩
      simp only [runOps, hm.1.1, hm.1.2, if_true, hm.2]
    -- an operation that is done
    have done : ∀ {e0 : List V}, (∀ (θ : Th) (e1 : List AV), VTL θ e e1 → VTL θ e0 e1 ∧ wanted e1 gd = some true) →
        stepV T fr ba dst e0 h op (fun v e h => againV T fr ba all i (putV e dst v) h (rkV T fr ba all chk ops (putV e dst v) h R) chk) = some z →
        ∃ e2 h2, R e2 h2 = some z ∧ OpsOK fns ba all chk ((i, ⟨dst, op, gd⟩) :: ops) e h e2 h2 := by
      intro e0 he0 hk
      obtain ⟨v, e', h', k1, k2⟩ := does_all good op _ _ hk
      refine one (e0 := e0) k1 fun θ base e1 h1 he r => ?_
      obtain ⟨x1, x2⟩ := he0 θ e1 he
      obtain ⟨v1, h1', θ', q1, q2, q3, q4, q5⟩ := k2 θ base e1 h1 x1 r
      exact ⟨v1, h1', θ', q1.mono fun m hm => by simp only [runOp, x2, hm], q2, q3, q4, q5⟩
    -- one that is passed by
    have skip : ∀ {e0 : List V}, (∀ (θ : Th) (e1 : List AV), VTL θ e e1 → VTL θ e0 e1 ∧ wanted e1 gd = some false) →
        againV T fr ba all i (putV e0 dst .undef) h (rkV T fr ba all chk ops (putV e0 dst .undef) h R) chk = some z →
        ∃ e2 h2, R e2 h2 = some z ∧ OpsOK fns ba all chk ((i, ⟨dst, op, gd⟩) :: ops) e h e2 h2 := by
      intro e0 he0 hk
      refine one (e0 := e0) hk fun θ base e1 h1 he r => ?_
      obtain ⟨x1, x2⟩ := he0 θ e1 he
      exact ⟨.undef, h1, θ, .of fun m => by simp only [runOp, x2], .undef, x1, r, Grow.refl _ _⟩
    have setb : ∀ {s : Nat} {t : Bool}, e.getD s .undef = .bool t → ∀ (θ : Th) (e1 : List AV), VTL θ e e1 → VTL θ (e.set s (.bool t)) e1 ∧ e1.getD s .undef = .bool t := by
      intro s t hs θ e1 he
      have hv := he.getD s
      rw [hs] at hv
      exact ⟨he.setA s hv, hv.bool'⟩
    unfold rkV at hk
    rw [fzE_eq] at hk
    cases gd with
    | none =>
      simp only at hk
      have plain : stepV T fr ba dst e h op (fun v e h => againV T fr ba all i (putV e dst v) h (rkV T fr ba all chk ops (putV e dst v) h R) chk) = some z → ∃ e2 h2, R e2 h2 = some z ∧ OpsOK fns ba all chk ((i, ⟨dst, op, none⟩) :: ops) e h e2 h2 :=
        done fun θ e1 he => ⟨he, rfl⟩
      split at hk
      · rename_i s a b
        rcases slot_ok hk with ⟨k1, k2⟩ | ⟨k1, k2⟩ | ⟨k1, _⟩
        · refine one (e0 := e) k1 fun θ base e1 h1 he r => ?_
          obtain ⟨x1, x2⟩ := setb k2 θ e1 he
          exact ⟨a.ev e1, h1, θ, .of fun m => by
            simp only [runOp, wanted]
            show (match stepOp base e1 h1 (.pick (.s s) a b) with
              | some (v, h) => some (putDst e1 dst v, h)
              | none => none) = _
            simp only [stepOp, AO.ev, x2, cond_true], x1.ev a, x1, r, Grow.refl _ _⟩
        · refine one (e0 := e) k1 fun θ base e1 h1 he r => ?_
          obtain ⟨x1, x2⟩ := setb k2 θ e1 he
          exact ⟨b.ev e1, h1, θ, .of fun m => by
            simp only [runOp, wanted]
            show (match stepOp base e1 h1 (.pick (.s s) a b) with
              | some (v, h) => some (putDst e1 dst v, h)
              | none => none) = _
            simp only [stepOp, AO.ev, x2, cond_false], x1.ev b, x1, r, Grow.refl _ _⟩
        · cases k1
      · exact plain hk
    | some q =>
      obtain ⟨s, t⟩ := q
      cases t with
      | true =>
        simp only at hk
        rcases slot_ok hk with ⟨k1, k2⟩ | ⟨k1, k2⟩ | ⟨k1, k2⟩
        · exact done (fun θ e1 he => ⟨(setb k2 θ e1 he).1, by simp only [wanted, (setb k2 θ e1 he).2]; rfl⟩) k1
        · exact skip (fun θ e1 he => ⟨(setb k2 θ e1 he).1, by simp only [wanted, (setb k2 θ e1 he).2]; rfl⟩) k1
        · refine skip (fun θ e1 he => ⟨he, ?_⟩) k1
          have hv := he.getD s; rw [k2] at hv
          simp only [wanted, hv.undef']
      | false =>
        simp only at hk
        rcases slot_ok hk with ⟨k1, k2⟩ | ⟨k1, k2⟩ | ⟨k1, k2⟩
        · exact skip (fun θ e1 he => ⟨(setb k2 θ e1 he).1, by simp only [wanted, (setb k2 θ e1 he).2]; rfl⟩) k1
        · exact done (fun θ e1 he => ⟨(setb k2 θ e1 he).1, by simp only [wanted, (setb k2 θ e1 he).2]; rfl⟩) k1
        · refine skip (fun θ e1 he => ⟨he, ?_⟩) k1
          have hv := he.getD s; rw [k2] at hv
          simp only [wanted, hv.undef']
def RunOK (fns : Fns) (ba : Ba) (c : ACode) (e : List V) (h : HV) (x : AEx) (e' : List V) (h' : HV) : Prop :=
  ∀ (θ : Th) (base : Nat) (e1 : List AV) (h1 : H), VTL θ e e1 → RH θ ba base h h1 → ∃ e1' h1' θ', From (fun m => exec fns m base c e1 h1 = some (x, e1', h1')) ∧ VTL θ' e' e1' ∧ RH θ' ba base h' h1' ∧ Grow θ θ' h1 h1'
theorem From.step {p : Nat → Prop} : From (fun m => p (m + 1)) → From p := fun ⟨N, hN⟩ => ⟨N + 1, fun m hm => by
  obtain ⟨k, rfl⟩ : ∃ k, m = k + 1 := ⟨m - 1, by omega⟩
  exact hN k (by omega)⟩
def LoopsOK (fns : Fns) (ba : Ba) (LK : ACode → List V → HV → KT → Option RA) : Prop :=
  ∀ (a : ACode) (e : List V) (h : HV) (K : KT) (z : RA), LK a e h K = some z → ∃ x e' h', K x e' h' = some z ∧ RunOK fns ba (.loop a) e h x e' h'
theorem el_ok (good : GoodV fns T) {LK : ACode → List V → HV → KT → Option RA} (hL : LoopsOK fns ba LK) : ∀ (c : ACode) {e : List V} {h : HV} {K : KT}, elV T fr ba LK c e h K = some z → ∃ x e' h', K x e' h' = some z ∧ RunOK fns ba c e h x e' h' := by
  intro c
  induction c with
  | skip =>
    intro e h K hk
    exact ⟨_, e, h, hk, fun θ base e1 h1 he r => ⟨e1, h1, θ, .step (.of fun m => rfl), he, r, Grow.refl _ _⟩⟩
  | exit i =>
    intro e h K hk
    exact ⟨_, e, h, hk, fun θ base e1 h1 he r => ⟨e1, h1, θ, .step (.of fun m => rfl), he, r, Grow.refl _ _⟩⟩
  | ret =>
    intro e h K hk
    exact ⟨_, e, h, hk, fun θ base e1 h1 he r => ⟨e1, h1, θ, .step (.of fun m => rfl), he, r, Grow.refl _ _⟩⟩
  | ghost g =>
    intro e h K hk
    simp only [elV] at hk
    obtain ⟨e', h', k1, k2⟩ := ghost_ok hk
    refine ⟨_, e', h', k1, fun θ base e1 h1 he r => ?_⟩
    obtain ⟨e1', h1', θ', q1, q2, q3, q4⟩ := k2 θ base e1 h1 he r
    exact ⟨e1', h1', θ', .step (.of fun m => by rw [exec_succ]; simp only [q1]), q2, q3, q4⟩
  | region ops chk =>
    intro e h K hk
    simp only [elV] at hk
    obtain ⟨e', h', k1, k2⟩ := rk_ok good hk
    refine ⟨_, e', h', k1, fun θ base e1 h1 he r => ?_⟩
    obtain ⟨e1', h1', θ', q1, q2, q3, q4⟩ := k2 θ base e1 h1 he r
    exact ⟨e1', h1', θ', .step (q1.mono fun m hm => by rw [exec_succ]; simp only [sem] at hm; simp only [hm]), q2, q3, q4⟩
  | seq a b iha ihb =>
    intro e h K hk
    simp only [elV] at hk
    obtain ⟨x, e', h', k1, k2⟩ := iha hk
    cases x with
    | normal =>
      obtain ⟨y, e'', h'', k3, k4⟩ := ihb k1
      refine ⟨y, e'', h'', k3, fun θ base e1 h1 he r => ?_⟩
      obtain ⟨e1', h1', θ', q1, q2, q3, q4⟩ := k2 θ base e1 h1 he r
      obtain ⟨e1'', h1'', θ'', q5, q6, q7, q8⟩ := k4 θ' base e1' h1' q2 q3
      exact ⟨e1'', h1'', θ'', .step ((q1.and q5).mono fun m hm => by rw [exec_succ]; simp only [hm.1, hm.2]), q6, q7, q4.trans q8⟩
    | exit i =>
      refine ⟨_, e', h', k1, fun θ base e1 h1 he r => ?_⟩
      obtain ⟨e1', h1', θ', q1, q2, q3, q4⟩ := k2 θ base e1 h1 he r
      exact ⟨e1', h1', θ', .step (q1.mono fun m hm => by rw [exec_succ]; simp only [hm]), q2, q3, q4⟩
    | ret =>
      refine ⟨_, e', h', k1, fun θ base e1 h1 he r => ?_⟩
      obtain ⟨e1', h1', θ', q1, q2, q3, q4⟩ := k2 θ base e1 h1 he r
      exact ⟨e1', h1', θ', .step (q1.mono fun m hm => by rw [exec_succ]; simp only [hm]), q2, q3, q4⟩
  | cond y a b iha ihb =>
    intro e h K hk
    have setb : ∀ {s : Nat} {t : Bool}, e.getD s .undef = .bool t → ∀ (θ : Th) (e1 : List AV), VTL θ e e1 → VTL θ (e.set s (.bool t)) e1 ∧ e1.getD s .undef = .bool t := by
      intro s t hs θ e1 he
      have hv := he.getD s
      rw [hs] at hv
      exact ⟨he.setA s hv, hv.bool'⟩
    cases y with
    | s s =>
      simp only [elV] at hk
      rcases slot_ok hk with ⟨k1, k2⟩ | ⟨k1, k2⟩ | ⟨k1, _⟩
      · obtain ⟨x, e', h', k3, k4⟩ := iha k1
        refine ⟨x, e', h', k3, fun θ base e1 h1 he r => ?_⟩
        obtain ⟨x1, x2⟩ := setb k2 θ e1 he
        obtain ⟨e1', h1', θ', q1, q2, q3, q4⟩ := k4 θ base e1 h1 x1 r
        exact ⟨e1', h1', θ', .step (q1.mono fun m hm => by rw [exec_succ]; simp only [AO.ev, x2, cond_true]; exact hm), q2, q3, q4⟩
      · obtain ⟨x, e', h', k3, k4⟩ := ihb k1
        refine ⟨x, e', h', k3, fun θ base e1 h1 he r => ?_⟩
        obtain ⟨x1, x2⟩ := setb k2 θ e1 he
        obtain ⟨e1', h1', θ', q1, q2, q3, q4⟩ := k4 θ base e1 h1 x1 r
        exact ⟨e1', h1', θ', .step (q1.mono fun m hm => by rw [exec_succ]; simp only [AO.ev, x2, cond_false]; exact hm), q2, q3, q4⟩
      · cases k1
    | c v =>
      simp only [elV] at hk
      cases v <;> simp only at hk <;> try (cases hk)
      rename_i t
      cases t with
      | true =>
        obtain ⟨x, e', h', k3, k4⟩ := iha hk
        refine ⟨x, e', h', k3, fun θ base e1 h1 he r => ?_⟩
        obtain ⟨e1', h1', θ', q1, q2, q3, q4⟩ := k4 θ base e1 h1 he r
        exact ⟨e1', h1', θ', .step (q1.mono fun m hm => by rw [exec_succ]; simp only [AO.ev, cond_true]; exact hm), q2, q3, q4⟩
      | false =>
        obtain ⟨x, e', h', k3, k4⟩ := ihb hk
        refine ⟨x, e', h', k3, fun θ base e1 h1 he r => ?_⟩
        obtain ⟨e1', h1', θ', q1, q2, q3, q4⟩ := k4 θ base e1 h1 he r
        exact ⟨e1', h1', θ', .step (q1.mono fun m hm => by rw [exec_succ]; simp only [AO.ev, cond_false]; exact hm), q2, q3, q4⟩
  | block i a iha =>
    intro e h K hk
    simp only [elV] at hk
    obtain ⟨x, e', h', k1, k2⟩ := iha hk
    have other : ∀ {y : AEx}, K y e' h' = some z → (∀ m base e1 h1 e1' h1', exec fns m base a e1 h1 = some (x, e1', h1') → exec fns (m + 1) base (.block i a) e1 h1 = some (y, e1', h1')) → ∃ x e' h', K x e' h' = some z ∧ RunOK fns ba (.block i a) e h x e' h' := by
      intro y hy hm0
      refine ⟨y, e', h', hy, fun θ base e1 h1 he r => ?_⟩
      obtain ⟨e1', h1', θ', q1, q2, q3, q4⟩ := k2 θ base e1 h1 he r
      exact ⟨e1', h1', θ', .step (q1.mono fun m hm => hm0 _ _ _ _ _ _ hm), q2, q3, q4⟩
    cases x with
    | normal => exact other k1 fun m base e1 h1 e1' h1' hm => by rw [exec_succ]; simp only [hm]
    | ret => exact other k1 fun m base e1 h1 e1' h1' hm => by rw [exec_succ]; simp only [hm]
    | exit j =>
      simp only at k1
      cases hj : j.beq i with
      | true =>
        rw [hj] at k1
        rw [Nat.beq_eq] at hj
        exact other k1 fun m base e1 h1 e1' h1' hm => by rw [exec_succ]; simp only [hm]; rw [if_pos hj]
      | false =>
        rw [hj] at k1
        have hj' : ¬ j = i := fun q => by subst q; simp at hj
        exact other k1 fun m base e1 h1 e1' h1' hm => by rw [exec_succ]; simp only [hm]; rw [if_neg hj']
  | loop a =>
    intro e h K hk
    exact hL a e h K z hk
theorem lp_ok (good : GoodV fns T) : ∀ n, LoopsOK fns ba (lpV T fr ba n) := by
  intro n
  induction n with
  | zero => intro a e h K z hk; simp [lpV] at hk
  | succ n ih =>
    intro a e h K z hk
    simp only [lpV] at hk
    obtain ⟨x, e', h', k1, k2⟩ := el_ok good ih a hk
    cases x with
    | normal =>
      obtain ⟨y, e'', h'', k3, k4⟩ := ih _ _ _ _ _ k1
      refine ⟨y, e'', h'', k3, fun θ base e1 h1 he r => ?_⟩
      obtain ⟨e1', h1', θ', q1, q2, q3, q4⟩ := k2 θ base e1 h1 he r
      obtain ⟨e1'', h1'', θ'', q5, q6, q7, q8⟩ := k4 θ' base e1' h1' q2 q3
      exact ⟨e1'', h1'', θ'', .step ((q1.and q5).mono fun m hm => by rw [exec_succ]; simp only [hm.1, hm.2]), q6, q7, q4.trans q8⟩
    | exit i =>
      refine ⟨_, e', h', k1, fun θ base e1 h1 he r => ?_⟩
      obtain ⟨e1', h1', θ', q1, q2, q3, q4⟩ := k2 θ base e1 h1 he r
      exact ⟨e1', h1', θ', .step (q1.mono fun m hm => by rw [exec_succ]; simp only [hm]), q2, q3, q4⟩
    | ret =>
      refine ⟨_, e', h', k1, fun θ base e1 h1 he r => ?_⟩
      obtain ⟨e1', h1', θ', q1, q2, q3, q4⟩ := k2 θ base e1 h1 he r
      exact ⟨e1', h1', θ', .step (q1.mono fun m hm => by rw [exec_succ]; simp only [hm]), q2, q3, q4⟩
end
end Go.Am
namespace Go.Am
section
variable {θ θ' : Th} {ba : Ba} {base : Nat} {h h' : HV} {h1 h1' : H} {e : List V} {e1 : List AV} {v w : V} {a b : AV} {fns : Fns} {T : TV} {fr : Fr} {d : Option Nat} {K : V → List V → HV → Option RA} {z : RA}
def noLoc (θ : Th) : Th := fun c => match c with
  | .loc _ => none
  | c => θ c
theorem RH.noloc (r : RH θ ba base h h1) {ba' : Ba} (hb : ba'.b = ba.b) : RH (noLoc θ) ba' base (h.wlo .lf) h1 := by
  have hle : θ.le (noLoc θ) := fun o q e => e
  refine ⟨fun c hc => ?_, fun c x hx => ?_, fun c c' p p' q e1 e2 e3 e4 => ?_, fun c p q e e' => ?_, fun o ho => r.nx o ho, fun c p q e e' hw => ?_, r.bn, fun o i ho => r.nxc o i ho⟩
  · cases c with
    | loc d => rfl
    | st o => exact r.dead (.st o) hc
    | cell o i => exact r.dead (.cell o i) hc
  · cases c with
    | loc d => cases hx
    | st o => exact (r.live (.st o) x hx).move hle rfl (fun _ _ _ _ _ _ => rfl) fun _ _ _ _ => rfl
    | cell o i => exact (r.live (.cell o i) x hx).move hle rfl (fun _ _ _ _ _ _ => rfl) fun _ _ _ _ => rfl
  · cases c with
    | loc d => cases e1
    | st o =>
      cases c' with
      | loc d => cases e2
      | _ => exact r.inj _ _ _ _ _ e1 e2 e3 e4
    | cell o i =>
      cases c' with
      | loc d => cases e2
      | _ => exact r.inj _ _ _ _ _ e1 e2 e3 e4
  · cases c with
    | loc d => cases e
    | st o => exact r.lt _ _ _ e e'
    | cell o i => exact r.lt _ _ _ e e'
  · have hw' : ∀ c : Cd, (∀ d, c ≠ .loc d) → writable ba' c = true → writable ba c = true := by
      intro c hc hw
      cases c with
      | loc d => exact absurd rfl (hc d)
      | st o => simpa [writable, hb] using hw
      | cell o i => simpa [writable, hb] using hw
    cases c with
    | loc d => cases e
    | st o => exact r.wr _ _ _ e e' (hw' _ (fun _ q => by cases q) hw)
    | cell o i => exact r.wr _ _ _ e e' (hw' _ (fun _ q => by cases q) hw)
theorem VT.noloc (x : VT θ v a) (hv : (Go.Am.okF v || v.isTup) = true) : VT (noLoc θ) v a := resOK_flat (b1 := true) hv x fun _ _ e => e
theorem Grow.noloc (g : Grow θ θ' h1 h1') : Grow θ (noLoc θ') h1 h1' :=
  ⟨fun o q e => g.le o q e, g.keep, fun c p q e e' => by
    cases c with
    | loc d => cases e
    | _ => exact g.ran _ _ _ e e', g.next⟩
theorem resV1_ok {r : ARes} {β : V → Option RA} (rh : RH θ ba base h h1) (he : VTL θ e e1) (hk : resV1 e h r β = some z) : ∃ v, β v = some z ∧ ∃ a, resOne e1 h1 r = some a ∧ VT θ v a := by
  cases r with
  | slot n => exact ⟨_, hk, _, rfl, he.getD n⟩
  | cell n g sz =>
    obtain ⟨w, k1, b, k2, k3⟩ := load_sim2 rh (he.getD n) hk
    exact ⟨w, k1, b, k2, k3⟩
theorem resV1_out {r : ARes} {β : V → Option RA} (hk : resV1 e h r β = some z) : ∃ v, β v = some z ∧ ∀ (L : V → Option RA), resV1 e h r L = L v := by
  cases r with
  | slot n => exact ⟨_, hk, fun L => rfl⟩
  | cell n g sz =>
    obtain ⟨w, k1, k2⟩ := load_out hk
    exact ⟨w, k1, fun L => k2 L⟩
theorem resV1_val {r : ARes} (hk : ∀ (L : V → Option RA), resV1 e h r L = L v) (rh : RH θ ba base h h1) (he : VTL θ e e1) : ∃ a, resOne e1 h1 r = some a ∧ VT θ v a := by
  obtain ⟨w, k1, a, k2, k3⟩ := resV1_ok (β := fun w => some (w, HV.emp, [])) rh he (hk _)
  simp only [Option.some.injEq, Prod.mk.injEq, and_true] at k1
  rw [← k1]; exact ⟨a, k2, k3⟩
theorem resVL_out : ∀ {rs : List ARes} {β : List V → Option RA} {z : RA}, resVL e h rs β = some z → ∃ vs, β vs = some z ∧ ∀ (θ : Th) (base : Nat) (e1 : List AV) (h1 : H), RH θ ba base h h1 → VTL θ e e1 → ∃ as, resList e1 h1 rs = some as ∧ VFL θ vs as
  | [], β, z, hk => ⟨[], hk, fun _ _ _ _ _ _ => ⟨[], rfl, .nil⟩⟩
  | r :: rs, β, z, hk => by
    simp only [resVL] at hk
    obtain ⟨v, hk, hv⟩ := resV1_out hk
    obtain ⟨vs, hk, hvs⟩ := resVL_out hk
    obtain ⟨hok, hk⟩ := boolK hk
    refine ⟨v :: vs, hk, fun θ base e1 h1 rh he => ?_⟩
    obtain ⟨a, q1, q2⟩ := resV1_val hv rh he
    obtain ⟨as, q3, q4⟩ := hvs θ base e1 h1 rh he
    exact ⟨a :: as, by simp only [resList, q1, q3], .cons (q2.okF hok) q4⟩
theorem resList_length : ∀ {rs : List ARes} {as : List AV}, resList e1 h1 rs = some as → as.length = rs.length
  | [], as, hk => by simp only [resList, Option.some.injEq] at hk; subst hk; rfl
  | r :: rs, as, hk => by
    simp only [resList] at hk
    split at hk
    · rename_i v vs hv hvs
      cases hk
      simp [resList_length hvs]
    · cases hk
def FunOK (fns : Fns) (ba : Ba) (f : Nat) (vs : List V) (h : HV) (v : V) (h' : HV) (os : List O2) : Prop :=
  ∀ (θ : Th) (base : Nat) (args1 : List AV) (h1 : H), VTL θ vs args1 → RH θ ba base h h1 →
    ∃ v1 h1' θ', From (fun m => callF fns (exec fns m) f args1 base h1 = some (v1, h1')) ∧ VT θ' v v1 ∧ RH θ' ⟨ba.b, false⟩ base (h'.wlo (lay .lf 1000 os)) h1' ∧ Grow θ θ' h1 h1'
theorem RH.congr (r : RH θ ba base h h1) (hg : ∀ c, h'.get c = h.get c) (hn : h'.next = h.next) : RH θ ba base h' h1 :=
  ⟨fun c hc => r.dead c (by rw [← hg]; exact hc), fun c x hx => r.live c x (by rw [← hg]; exact hx), r.inj, r.lt, fun o ho => by rw [hg]; exact r.nx o (by rw [← hn]; exact ho), r.wr, r.bn, fun o i ho => by rw [hg]; exact r.nxc o i (by rw [← hn]; exact ho)⟩
theorem VTL.undefs (n : Nat) : VTL θ (undefsV n) (List.replicate n .undef) := by
  unfold undefsV
  induction n with
  | zero => exact .nil
  | succ n ih => exact .cons .undef ih
theorem fun_ok1 {f : Nat} {fn : AFun} (hf : fns f = some (.code fn)) {vs : List V} {os : List O2} (hro : ba.ro = false ∨ os = []) {x : AEx} {e2 : List V} {h2 : HV} (k1 : retV fn.res x e2 h2 = some (v, h', os)) (k2 : RunOK fns ba fn.body (vs ++ undefsV (fn.slots - vs.length)) h x e2 h2) : FunOK fns ba f vs h v h' os := by
  intro θ base args1 h1 ha r
  have he : VTL θ (vs ++ undefsV (fn.slots - vs.length)) (args1 ++ List.replicate (fn.slots - args1.length) .undef) := by
    rw [ha.length]; exact ha.append (VTL.undefs _)
  obtain ⟨e1', h1', θ', q1, q2, q3, q4⟩ := k2 θ base _ h1 he r
  obtain ⟨hb, k1⟩ := boolK k1
  have callF_of : ∀ {v1 : AV}, resOf e1' h1' fn.res = some v1 → From (fun m => callF fns (exec fns m) f args1 base h1 = some (v1, h1')) := by
    intro v1 hv1
    refine q1.mono fun m hm => ?_
    unfold callF
    simp only [hf, hm, hb, if_true, hv1, Option.map_some]
  -- what is flat
  have flat : ∀ {v : V} {v1 : AV}, (okF v || v.isTup) = true → VT θ' v v1 → resOf e1' h1' fn.res = some v1 →
      ∃ v1 h1' θ', From (fun m => callF fns (exec fns m) f args1 base h1 = some (v1, h1')) ∧ VT θ' v v1 ∧ RH θ' ⟨ba.b, false⟩ base ((h2.wlo .lf).wlo (lay .lf 1000 [])) h1' ∧ Grow θ θ' h1 h1' := by
    intro v v1 hok hv hr
    exact ⟨v1, h1', _, callF_of hr, hv.noloc hok, q3.noloc rfl, q4.noloc⟩
  split at k1
  · rename_i r0 hres
    obtain ⟨w, k1, hw⟩ := resV1_out k1
    obtain ⟨a, w1, w2⟩ := resV1_val hw q3 q2
    have hr : resOf e1' h1' fn.res = some a := by rw [hres]; simp [resOf, resList, w1]
    split at k1
    · rename_i d
      split at k1
      case h_2 => cases k1
      rename_i s bb hd
      simp only [Option.some.injEq, Prod.mk.injEq] at k1
      obtain ⟨rfl, rfl, rfl⟩ := k1
      have hro' : ba.ro = false := by rcases hro with h | h; exact h; cases h
      have hlive : h2.get (.loc d) = some (.seq s bb) := hd
      have r0 := q3.noloc (ba' := ⟨ba.b, false⟩) rfl
      have hfree : ∀ p0, θ' (.loc d) = some p0 → ∀ c p' q, noLoc θ' c = some p' → p'.q = some q → p0.q ≠ some q := by
        intro p0 u0 c p' q u1 u2 u3
        cases c with
        | loc d' => cases u1
        | st o => have := q3.inj _ _ _ _ _ u0 u1 u3 u2; cases this
        | cell o i => have := q3.inj _ _ _ _ _ u0 u1 u3 u2; cases this
      have hlt : ∀ p0, θ' (.loc d) = some p0 → ∀ q, p0.q = some q → q < h1'.next ∧ base ≤ q := fun p0 u0 q u1 => ⟨q3.lt _ _ _ u0 u1, q3.wr _ _ _ u0 u1 (by simp [writable, hro'])⟩
      have hle2 : ∀ p, (noLoc θ').le ((noLoc θ').upd (.loc 1000) p) := fun p => Th.le_upd _ rfl _
      have hle1 : θ'.le (noLoc θ') := fun o q e => e
      have hgets : ∀ c, ((h2.wlo .lf).wlo (lay .lf 1000 [.seq s bb])).get c = ((h2.wlo .lf).put (.loc 1000) (some (.seq s bb))).get c := by
        intro c
        rw [HV.get_put]
        cases c with
        | st o => rfl
        | cell o i => rfl
        | loc j =>
          rw [HV.get_wlo]
          simp only [lay, Tq.get_set, Cd.loc.injEq]
          split
          · rfl
          · rfl
      have hgrow : ∀ p0, θ' (.loc d) = some p0 → Grow θ ((noLoc θ').upd (.loc 1000) (some p0)) h1 h1' := by
        intro p0 u0
        refine ⟨fun o q e => q4.le o q e, q4.keep, fun c p q u1 u2 => ?_, q4.next⟩
        by_cases hc : c = .loc 1000
        · subst hc; rw [Th.upd_same] at u1; cases u1; exact q4.ran _ _ _ u0 u2
        · rw [Th.upd_other _ hc] at u1
          cases c with
          | loc d' => cases u1
          | _ => exact q4.ran _ _ _ u1 u2
      rcases w2.whole' with ⟨q, k, m, hq, rfl⟩ | ⟨hq, rfl⟩
      · cases q3.live _ _ hlive with
        | virt _ _ a1 => rw [hq] at a1; cases a1
        | seq _ _ q' k' R a1 a2 a3 a4 a5 a6 a7 =>
        rw [hq] at a1; cases a1
        have r1 := r0.place (d := 1000) (p := .arr q k s.len) (x := .seq s bb) (hfree _ hq) (hlt _ hq) (.seq s bb q k R (Th.upd_same _ _ _) a2 a3 (a4.mono (Th.le_trans hle1 (hle2 _))) a5 a6 rfl)
        exact ⟨_, _, _, callF_of hr, .whole _ _ _ _ (Th.upd_same _ _ _), r1.congr hgets rfl, hgrow _ hq⟩
      · cases q3.live _ _ hlive with
        | seq _ _ q' k' R a1 => rw [hq] at a1; cases a1
        | virt _ _ a1 a2 a3 =>
        have r1 := r0.place (d := 1000) (p := .virt) (x := .seq s bb) (hfree _ hq) (hlt _ hq) (.virt s bb (Th.upd_same _ _ _) a2 rfl)
        exact ⟨_, _, _, callF_of hr, .wholeV _ (Th.upd_same _ _ _), r1.congr hgets rfl, hgrow _ hq⟩
    · obtain ⟨hok, k1⟩ := boolK k1
      simp only [Option.some.injEq, Prod.mk.injEq] at k1
      obtain ⟨rfl, rfl, rfl⟩ := k1
      exact flat (by rw [hok, Bool.true_or]) w2 hr
  · rename_i hne
    obtain ⟨ws, k1, hws⟩ := resVL_out (ba := ba) k1
    simp only [Option.some.injEq, Prod.mk.injEq] at k1
    obtain ⟨rfl, rfl, rfl⟩ := k1
    obtain ⟨as, w1, w2⟩ := hws θ' base e1' h1' q3 q2
    have hr : resOf e1' h1' fn.res = some (.tup as) := by
      unfold resOf
      rw [w1]
      cases as with
      | nil => rfl
      | cons a as =>
        cases as with
        | cons => rfl
        | nil =>
          exfalso
          have hl := resList_length w1
          cases hfr : fn.res with
          | nil => rw [hfr] at hl; simp at hl
          | cons r0 rs =>
            cases rs with
            | nil => exact hne r0 hfr
            | cons r1 rs => rw [hfr] at hl; simp at hl
    exact flat (by simp [V.isTup]) (.tup w2) hr
theorem fun_ok (good : GoodV fns T) {f : Nat} {fn : AFun} (hf : fns f = some (.code fn)) {n : Nat} {vs : List V} {os : List O2} (hro : ba.ro = false ∨ os = []) (hk : elV T fr ba (lpV T fr ba n) fn.body (vs ++ undefsV (fn.slots - vs.length)) h (retV fn.res) = some (v, h', os)) : FunOK fns ba f vs h v h' os := by
  obtain ⟨x, e2, h2, k1, k2⟩ := el_ok good (lp_ok good n) _ hk
  exact fun_ok1 hf hro k1 k2
theorem cg_wr {f : Nat} {vs : List V} {b : Nat} {os : List O2} (hf : FunOK fns ⟨b, false⟩ f vs (h.wlo .lf) v h' os) : CG fns .wr f vs b h [] v h' os := by
  intro θ base args1 h1 ha r
  obtain ⟨v1, h1', θ', q1, q2, q3, q4⟩ := hf θ base args1 h1 ha r
  exact ⟨v1, h1', θ', q1, q2, q3, q4, Nat.zero_le _, fun i hi => absurd hi (Nat.not_lt_zero _)⟩
inductive PV (P : Nat → Prop) : V → Prop
  | int (k : IntKind) (n : Int) : PV P (.int k n)
  | bool (b : Bool) : PV P (.bool b)
  | str (s : List Nat) : PV P (.str s)
  | nilp : PV P .nilp
  | nilfn : PV P .nilfn
  | ptr (o off : Nat) : P o → PV P (.ptr (.st o) off)
  | rptr (cs : List V) : (∀ v ∈ cs, PV P v) → PV P (.rptr cs)
  | vs (f : Bool) (s : Sq) : (∀ r ∈ s.rows, ∀ v ∈ r, PV P v) → PV P (.vs f s)
  | fn (f : Nat) (cs : List V) : (∀ v ∈ cs, PV P v) → PV P (.fn f cs)
  | agg (cs : List V) : (∀ v ∈ cs, PV P v) → PV P (.agg cs)
  | tup (cs : List V) : (∀ v ∈ cs, PV P v) → PV P (.tup cs)
theorem pv_ats (P : Nat → Prop) (f : Bool) (l : List At) : PV P (.vs f (.ty .attrs l)) := by
  refine .vs _ _ fun r hr v hv => ?_
  simp only [Sq.rows, List.mem_map] at hr
  obtain ⟨x, _, rfl⟩ := hr
  simp only [enc, List.mem_cons, List.mem_nil_iff, or_false] at hv
  rcases hv with rfl | rfl <;> exact .str _
theorem pv_ints (P : Nat → Prop) (f : Bool) (l : List Int) : PV P (.vs f (.ty .ints l)) := by
  refine .vs _ _ fun r hr v hv => ?_
  simp only [Sq.rows, List.mem_map] at hr
  obtain ⟨x, _, rfl⟩ := hr
  simp only [enc, List.mem_cons, List.mem_nil_iff, or_false] at hv
  rcases hv with rfl; exact .int _ _
mutual
theorem pv_tree (P : Nat → Prop) : ∀ (t : Tree), ∀ v ∈ enc .trees t, PV P v
  | .mk a b c d e f => by
    have ih := pv_trees P f
    intro v hv
    simp only [enc, vAts, List.mem_cons, List.mem_nil_iff, or_false] at hv
    rcases hv with rfl | rfl | rfl | rfl | rfl | rfl
    · exact .int _ _
    · exact .int _ _
    · exact .str _
    · exact pv_ats P _ _
    · exact .str _
    · refine .vs _ _ fun r hr v hv => ?_
      simp only [Sq.rows, List.mem_map] at hr
      obtain ⟨x, hx, rfl⟩ := hr
      exact ih x hx v hv
theorem pv_trees (P : Nat → Prop) : ∀ (l : List Tree), ∀ x ∈ l, ∀ v ∈ enc .trees x, PV P v
  | [] => fun x hx => by cases hx
  | t :: l => by
    have h1 := pv_tree P t
    have h2 := pv_trees P l
    intro x hx v hv
    rcases List.mem_cons.1 hx with hx | hx
    · rw [hx] at hv; exact h1 v hv
    · exact h2 x hx v hv
end
theorem pv_enc (P : Nat → Prop) (u : U) (x : El u) : ∀ v ∈ enc u x, PV P v := by
  have trees0 : PV P (.vs false (.ty .trees [])) := .vs _ _ fun r hr => by simp [Sq.rows] at hr
  intro v hv
  cases u
  case trees => exact pv_tree P x v hv
  all_goals
    simp only [enc, vAts, List.mem_cons, List.mem_nil_iff, or_false] at hv
    repeat' (first | (rcases hv with rfl | hv) | (subst hv))
  all_goals first | exact .int _ _ | exact .str _ | exact .bool _ | exact pv_ats P _ _ | exact pv_ints P _ _ | exact trees0
theorem pv_ty (P : Nat → Prop) (f : Bool) (u : U) (l : List (El u)) : PV P (.vs f (.ty u l)) := by
  refine .vs _ _ fun r hr v hv => ?_
  simp only [Sq.rows, List.mem_map] at hr
  obtain ⟨x, _, rfl⟩ := hr
  exact pv_enc P u x v hv
section
variable {P : Nat → Prop} {n : Nat}
mutual
theorem VC.pv (hP : ∀ o, P o → ∀ q, θ' (.st o) = some (.obj q) → θ (.st o) = some (.obj q) ∧ q < n) : ∀ {v : V} {a : AV}, VC θ' v a → PV P v → a.under n = true ∧ VC θ v a
  | _, _, .int k m, _ => ⟨rfl, .int k m⟩
  | _, _, .bool b, _ => ⟨rfl, .bool b⟩
  | _, _, .str s, _ => ⟨rfl, .str s⟩
  | _, _, .nilp, _ => ⟨rfl, .nilp⟩
  | _, _, .nilfn, _ => ⟨rfl, .nilfn⟩
  | _, _, .ptr o off q e, h => by
    cases h with | ptr _ _ h =>
    obtain ⟨e1, e2⟩ := hP o h q e
    exact ⟨by simpa [AV.under] using e2, .ptr o off q e1⟩
  | _, _, .rptr cs ds e, h => by
    cases h with | rptr _ h =>
    obtain ⟨e1, e2⟩ := VCL.pv hP e h
    exact ⟨by simpa [AV.under] using e1, .rptr _ _ e2⟩
  | _, _, .vs f g s rows e1 e2, h => by
    cases h with | vs _ _ h =>
    obtain ⟨e3, e4⟩ := VCR.pv hP e2 h
    exact ⟨by simpa [AV.under] using e3, .vs _ _ _ _ e1 e4⟩
  | _, _, .fn f cs ds e, h => by
    cases h with | fn _ _ h =>
    obtain ⟨e1, e2⟩ := VCL.pv hP e h
    exact ⟨by simpa [AV.under] using e1, .fn _ _ _ e2⟩
theorem VCL.pv (hP : ∀ o, P o → ∀ q, θ' (.st o) = some (.obj q) → θ (.st o) = some (.obj q) ∧ q < n) : ∀ {v : List V} {a : List AV}, VCL θ' v a → (∀ x ∈ v, PV P x) → AV.underL n a = true ∧ VCL θ v a
  | _, _, .nil, _ => ⟨rfl, .nil⟩
  | _, _, .cons _ _ _ _ a b, h => by
    obtain ⟨e1, e2⟩ := VC.pv hP a (h _ (List.mem_cons_self ..))
    obtain ⟨e3, e4⟩ := VCL.pv hP b fun x hx => h x (List.mem_cons_of_mem _ hx)
    exact ⟨by simp [AV.underL, e1, e3], .cons _ _ _ _ e2 e4⟩
theorem VCR.pv (hP : ∀ o, P o → ∀ q, θ' (.st o) = some (.obj q) → θ (.st o) = some (.obj q) ∧ q < n) : ∀ {v : List (List V)} {a : List (List AV)}, VCR θ' v a → (∀ r ∈ v, ∀ x ∈ r, PV P x) → AV.underR n a = true ∧ VCR θ v a
  | _, _, .nil, _ => ⟨rfl, .nil⟩
  | _, _, .cons _ _ _ _ a b, h => by
    obtain ⟨e1, e2⟩ := VCL.pv hP a (h _ (List.mem_cons_self ..))
    obtain ⟨e3, e4⟩ := VCR.pv hP b fun x hx => h x (List.mem_cons_of_mem _ hx)
    exact ⟨by simp [AV.underR, e1, e3], .cons _ _ _ _ e2 e4⟩
end
theorem VF.pv (hP : ∀ o, P o → ∀ q, θ' (.st o) = some (.obj q) → θ (.st o) = some (.obj q) ∧ q < n) (x : VF θ' v a) (h : PV P v) : a.under n = true ∧ VF θ v a := by
  cases x with
  | cell x => obtain ⟨e1, e2⟩ := x.pv hP h; exact ⟨e1, .cell e2⟩
  | agg x => cases h with | agg _ h => obtain ⟨e1, e2⟩ := x.pv hP h; exact ⟨by simpa [AV.under] using e1, .agg e2⟩
theorem VT.pv (hP : ∀ o, P o → ∀ q, θ' (.st o) = some (.obj q) → θ (.st o) = some (.obj q) ∧ q < n) (x : VT θ' v a) (h : PV P v) : a.under n = true ∧ VT θ v a := by
  cases x with
  | flat x => obtain ⟨e1, e2⟩ := x.pv hP h; exact ⟨e1, .flat e2⟩
  | tup x =>
    cases h with | tup _ h =>
    have : ∀ {vs : List V} {as : List AV}, VFL θ' vs as → (∀ x ∈ vs, PV P x) → AV.underL n as = true ∧ VFL θ vs as := by
      intro vs as y
      induction y with
      | nil => intro _; exact ⟨rfl, .nil⟩
      | cons y _ ih =>
        intro h
        obtain ⟨e1, e2⟩ := y.pv hP (h _ (List.mem_cons_self ..))
        obtain ⟨e3, e4⟩ := ih fun x hx => h x (List.mem_cons_of_mem _ hx)
        exact ⟨by simp [AV.underL, e1, e3], .cons e2 e4⟩
    obtain ⟨e1, e2⟩ := this x h
    exact ⟨by simpa [AV.under] using e1, .tup e2⟩
  | fn f x =>
    cases h with | fn _ _ h =>
    obtain ⟨e1, e2⟩ := VCL.pv hP x h
    exact ⟨by simpa [AV.under] using e1, .fn f e2⟩
  | undef => cases h
  | any => cases h
  | ptr => cases h
  | whole => cases h
  | wholeV => cases h
  | ref => cases h
  | refE => cases h
  | refV => cases h
  | ep => cases h
theorem VTL.pv (hP : ∀ o, P o → ∀ q, θ' (.st o) = some (.obj q) → θ (.st o) = some (.obj q) ∧ q < n) {vs : List V} {as : List AV} (x : VTL θ' vs as) (h : ∀ v ∈ vs, PV P v) : AV.underL n as = true ∧ VTL θ vs as := by
  induction x with
  | nil => exact ⟨rfl, .nil⟩
  | cons y _ ih =>
    obtain ⟨e1, e2⟩ := y.pv hP (h _ (List.mem_cons_self ..))
    obtain ⟨e3, e4⟩ := ih fun x hx => h x (List.mem_cons_of_mem _ hx)
    exact ⟨by simp [AV.underL, e1, e3], .cons e2 e4⟩
end
theorem RH.emp : RH (fun _ => none) ⟨0, false⟩ 0 HV.emp H.emp where
  dead := fun _ _ => rfl
  live := fun c x hx => by cases c <;> simp [HV.emp, HV.get, get2, Tq.get] at hx
  inj := by intro c c' p p' q e; cases e
  lt := by intro c p q e; cases e
  nx := fun _ _ => rfl
  wr := by intro c p q e; cases e
  bn := Nat.le_refl _
  nxc := fun _ _ _ => rfl
theorem cg_pure {f : Nat} {vs : List V} {b : Nat} {h' : HV} {os os' : List O2} (hf : FunOK fns ⟨0, false⟩ f vs HV.emp v h' []) (ha : ∀ v ∈ vs, PV (fun _ => False) v) (hv : PV (fun _ => False) v) : CG fns .pure f vs b h os v h os' := by
  intro θ base args1 h1 hargs r
  obtain ⟨u1, u2⟩ := hargs.pv (θ := fun _ => none) (P := fun _ => False) (n := 0) (fun o h => h.elim) ha
  obtain ⟨v1, h1', θ', q1, q2, q3, q4⟩ := hf (fun _ => none) 0 args1 H.emp u2 RH.emp
  obtain ⟨u3, u4⟩ := q2.pv (θ := θ) (P := fun _ => False) (n := 0) (fun o h => h.elim) hv
  exact ⟨v1, q1.mono fun m hm => by simp only [sem, callSem, u1, if_true, hm, u3], u4⟩
theorem RH.rebase (r : RH θ ba base h h1) (hlo : ∀ d, h.get (.loc d) = none) : RH θ ⟨h.next, true⟩ h1.next h h1 := by
  refine ⟨r.dead, r.live, r.inj, r.lt, r.nx, fun c p q e e' hw => ?_, Nat.le_refl _, r.nxc⟩
  exfalso
  cases c with
  | loc d => rw [r.dead _ (hlo d)] at e; cases e
  | st o => rw [r.dead _ (r.nx o (by simpa [writable] using hw))] at e; cases e
  | cell o i => rw [r.dead _ (r.nxc o i (by simpa [writable] using hw))] at e; cases e
theorem cg_ro {f : Nat} {vs : List V} {b : Nat} {h' : HV} (hf : FunOK fns ⟨h.next, true⟩ f vs (h.wlo .lf) v h' []) (hv : PV (fun o => ∃ x, h.get (.st o) = some x) v) : CG fns .ro f vs b h [] v h [] := by
  intro θ base args1 h1 hargs r
  have r' : RH θ ⟨h.next, true⟩ h1.next (h.wlo .lf) h1 := RH.rebase (h := h.wlo .lf) r fun d => rfl
  obtain ⟨v1, h1', θ', q1, q2, q3, q4⟩ := hf θ h1.next args1 h1 hargs r'
  obtain ⟨u3, u4⟩ := q2.pv (θ := θ) (n := h1.next) (fun o ⟨x, hx⟩ q e => by
    cases hx' : r.live (.st o) x hx with
    | arr _ _ q' a => have := q4.le o q' a; rw [this] at e; cases e; exact ⟨a, r.lt _ _ _ a rfl⟩
    | iter _ _ q' a => have := q4.le o q' a; rw [this] at e; cases e; exact ⟨a, r.lt _ _ _ a rfl⟩
    | seq _ _ _ _ _ _ _ _ _ _ _ a => cases a
    | virt _ _ _ _ a => cases a) hv
  exact ⟨v1, q1.mono fun m hm => by simp only [sem, callSem, hm, u3, if_true], u4⟩
end
end Go.Am
