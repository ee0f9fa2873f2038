/-
  Regions that draw their order, with a thing that stays true of the store: loads of what stays may come at any time.
-/
import Derived.Test.YtdioiegkpkjmkaaAbsN
namespace Go.Pa
set_option linter.unusedSectionVars false
set_option linter.unusedSimpArgs false
set_option linter.unusedVariables false
variable [GTab]
variable {P : Program}


def StepOkI (P : Program) (N : Nat) (I : Store → Prop) (es : List Nat) (all : List Oper) (i : Nat) (o : Oper) (e : Env) (s : Store) (b : Bool) (v : AV) (s' : Store) : Prop :=
  (match o.guard with
    | none => b = true
    | some (j, want) => ∃ t, (all[j]?).bind (·.dst) = some t ∧ ((∃ c, e.get t = some (.bool c) ∧ b = (c == want)) ∨ (e.get t = some (.tup []) ∧ b = false))) ∧
  (clsOp es i o ≠ 2 → s' = s) ∧ (I s → I s') ∧
  (b = false → v = .tup [] ∧ s' = s) ∧
  (b = true → if clsOp es i o = 0 then ∀ σ, I σ → OpJ P N o (rst all.toArray o e) σ (fun r s1 => r = v ∧ s1 = σ) else OpJ P N o (rst all.toArray o e) s (fun r s1 => r = v ∧ s1 = s'))

/-- Every step of a script is right. -/
def ScOkI (P : Program) (N : Nat) (I : Store → Prop) (es : List Nat) (ops : List Oper) (e0 : Env) (s0 : Store) (sc : Script) : Prop :=
  ∀ i o x, ops[i]? = some o → sc[i]? = some x → StepOkI P N I es ops i o (eAt ops sc e0 i) (sAt sc s0 i) x.1 x.2.1 x.2.2

theorem ScOkI.snoc {N : Nat} {I : Store → Prop} {es : List Nat} {ops : List Oper} {e0 : Env} {s0 : Store} {sc : Script} (h : ScOkI P N I es ops e0 s0 sc) {o : Oper} {b : Bool} {v : AV} {s' : Store} (ho : ops[sc.length]? = some o)
    (hs : StepOkI P N I es ops sc.length o (eAt ops sc e0 sc.length) (sAt sc s0 sc.length) b v s') : ScOkI P N I es ops e0 s0 (sc ++ [(b, v, s')]) := by
  intro i o' x ho' hx
  rcases Nat.lt_or_ge i sc.length with hi | hi
  · rw [List.getElem?_append_left hi] at hx
    rw [eAt_append i (by omega), sAt_append i (by omega)]
    exact h i o' x ho' hx
  · rw [List.getElem?_append_right hi] at hx
    have hi0 : i = sc.length := by
      have := (List.getElem?_eq_some_iff.1 hx).1
      simp at this
      omega
    subst hi0
    simp at hx
    subst hx
    rw [ho] at ho'
    cases ho'
    rw [eAt_append _ (Nat.le_refl _), sAt_append _ (Nat.le_refl _)]
    exact hs

/-- One operation; `I` stays true. -/
def vcD1I (P : Program) (I : Store → Prop) (c : Nat) (e : Env) (s : Store) (o : Oper) (K : AV → Store → Prop) : Prop :=
  match c with
  | 0 => vcD1 P 0 e s o K ∨ ∃ v, (∀ σ, I σ → vcOp P e σ (fun r s1 => r = v ∧ s1 = σ) o.op) ∧ K v s
  | 2 => vcD1 P 2 e s o fun v s' => I s' ∧ K v s'
  | c => vcD1 P c e s o K

def vcDI (P : Program) (I : Store → Prop) (es : List Nat) (all : List Oper) : Nat → List Oper → Env → Store → (Env → Store → Prop) → Prop
  | _, [], e, s, K => K e s
  | i, o :: os, e, s, K => match o.guard with
    | none => vcD1I P I (clsOp es i o) e s o fun v s' => vcDI P I es all (i + 1) os (e.put o.dst v) s' K
    | some _ => False

theorem vcD1I_step {N c : Nat} {I : Store → Prop} {e e' : Env} {s : Store} {o : Oper} {ops : Array Oper} {K : AV → Store → Prop} (h : vcD1I P I c e s o K) (he : GetEq e e') :
    ∃ v s', K v s' ∧ (c ≠ 2 → s' = s) ∧ (I s → I s') ∧ (if c = 0 then ∀ σ, I σ → OpJ P N o (rst ops o e') σ (fun r s1 => r = v ∧ s1 = σ) else OpJ P N o (rst ops o e') s (fun r s1 => r = v ∧ s1 = s')) := by
  match c, h with
  | 0, h =>
    rcases h with h | ⟨v, h1, h2⟩
    · obtain ⟨v, s', h1, h2, h3⟩ := vcD1_step (N := N) (ops := ops) h he
      rw [if_pos rfl] at h3
      have := h2 (by decide)
      subst this
      exact ⟨v, s', h1, h2, id, by rw [if_pos rfl]; exact fun σ _ => h3 σ⟩
    · refine ⟨v, s, h2, fun _ => rfl, id, ?_⟩
      rw [if_pos rfl]
      intro σ hσ
      rw [← he.rst]
      refine vcOp_sound ?_
      rw [vcOp_rst]
      exact h1 σ hσ
  | 1, h =>
    obtain ⟨v, s', h1, h2, h3⟩ := vcD1_step (N := N) (ops := ops) (c := 1) h he
    have := h2 (by decide)
    subst this
    exact ⟨v, s', h1, h2, id, h3⟩
  | 2, h =>
    obtain ⟨v, s', h1, h2, h3⟩ := vcD1_step (N := N) (ops := ops) (c := 2) h he
    exact ⟨v, s', h1.2, h2, fun _ => h1.1, h3⟩
  | n + 3, h => exact absurd h (by simp [vcD1I, vcD1])


theorem vcD_scriptI {N : Nat} {I : Store → Prop} {es : List Nat} {ops : List Oper} {e0 : Env} {s0 : Store} {K : Env → Store → Prop} : ∀ (os : List Oper) (sc : Script) (e : Env) (s : Store),
    ops.drop sc.length = os → sc.length ≤ ops.length → ScOkI P N I es ops e0 s0 sc → GetEq e (eAt ops sc e0 sc.length) → s = sAt sc s0 sc.length → vcDI P I es ops sc.length os e s K →
    ∃ (sc' : Script) (ef : Env), sc'.length = ops.length ∧ ScOkI P N I es ops e0 s0 sc' ∧ GetEq ef (eAt ops sc' e0 ops.length) ∧ K ef (sAt sc' s0 ops.length)
  | [], sc, e, s, hd, hl, hok, he, hs, h => by
    have hlen : sc.length = ops.length := by
      have := congrArg List.length hd
      simp at this
      omega
    rw [hlen] at he hs
    subst hs
    exact ⟨sc, e, hlen, hok, he, h⟩
  | o :: os, sc, e, s, hd, hl, hok, he, hs, h => by
    have hlt : sc.length < ops.length := by
      have := congrArg List.length hd
      simp at this
      omega
    have ho : ops[sc.length]? = some o := by
      have : (ops.drop sc.length)[0]? = some o := by rw [hd]; rfl
      simpa using this
    have hd' : ops.drop (sc.length + 1) = os := by
      have := congrArg (List.drop 1) hd
      simpa [List.drop_drop, Nat.add_comm] using this
    have go : ∀ {b : Bool} {v : AV} {s' : Store} {e1 : Env}, GetEq e1 (eAt ops sc e0 sc.length) → StepOkI P N I es ops sc.length o (eAt ops sc e0 sc.length) (sAt sc s0 sc.length) b v s' → vcDI P I es ops (sc.length + 1) os (e1.put o.dst v) s' K →
        ∃ (sc' : Script) (ef : Env), sc'.length = ops.length ∧ ScOkI P N I es ops e0 s0 sc' ∧ GetEq ef (eAt ops sc' e0 ops.length) ∧ K ef (sAt sc' s0 ops.length) := by
      intro b v s' e1 he1 hst hv
      have hlen1 : (sc ++ [(b, v, s')]).length = sc.length + 1 := by simp
      refine vcD_scriptI os (sc ++ [(b, v, s')]) (e1.put o.dst v) s' (by rw [hlen1]; exact hd') (by rw [hlen1]; omega) (hok.snoc ho hst) ?_ ?_ (by rw [hlen1]; exact hv)
      · rw [hlen1]
        simp only [eAt]
        rw [ho, List.getElem?_append_right (Nat.le_refl _), eAt_append _ (Nat.le_refl _)]
        simp only [Nat.sub_self, List.getElem?_cons_zero]
        exact he1.put o.dst v
      · rw [hlen1]
        simp only [sAt]
        rw [List.getElem?_append_right (Nat.le_refl _)]
        simp
    unfold vcDI at h
    cases hgd : o.guard with
    | none =>
      simp only [hgd] at h
      obtain ⟨v, s', hk, h1, hI, h2⟩ := vcD1I_step (N := N) (ops := ops.toArray) h he
      refine go (b := true) (v := v) (s' := s') he ⟨by simp [hgd], fun hc => ?_, fun h0 => ?_, fun hb => (by cases hb), fun _ => ?_⟩ hk
      · rw [← hs]; exact h1 hc
      · rw [← hs] at h0; exact hI h0
      · rw [← hs]; exact h2
    | some jw => simp only [hgd] at h

theorem sAt_constI {N : Nat} {I : Store → Prop} {es : List Nat} {l : List Oper} {e0 : Env} {s0 : Store} {sc : Script} (hl : sc.length = l.length) (hok : ScOkI P N I es l e0 s0 sc) : ∀ (d i : Nat), (∀ k o, i ≤ k → k < i + d → l[k]? = some o → clsOp es k o ≠ 2) → sAt sc s0 (i + d) = sAt sc s0 i
  | 0, i, _ => rfl
  | d + 1, i, h => by
    rw [show i + (d + 1) = (i + d) + 1 by omega]
    simp only [sAt]
    have ih := sAt_constI hl hok d i (fun k o hk hk2 => h k o hk (by omega))
    cases hx : sc[i + d]? with
    | none => exact ih
    | some x =>
      have hlt : i + d < l.length := by rw [← hl]; exact (List.getElem?_eq_some_iff.1 hx).1
      have ho := List.getElem?_eq_getElem hlt
      have := (hok (i + d) _ x ho hx).2.1 (h (i + d) _ (by omega) (by omega) ho)
      simp only
      rw [this, ih]

theorem sAtI {N : Nat} {I : Store → Prop} {es : List Nat} {l : List Oper} {e0 : Env} {s0 : Store} {sc : Script} (hl : sc.length = l.length) (hok : ScOkI P N I es l e0 s0 sc) (h0 : I s0) : ∀ i, I (sAt sc s0 i)
  | 0 => h0
  | i + 1 => by
    have ih := sAtI hl hok h0 i
    simp only [sAt]
    cases hx : sc[i]? with
    | none => exact ih
    | some x =>
      have hlt : i < l.length := by rw [← hl]; exact (List.getElem?_eq_some_iff.1 hx).1
      exact (hok i _ x (List.getElem?_eq_getElem hlt) hx).2.2.1 ih


section
variable {N : Nat} {I : Store → Prop} {es : List Nat} {l : List Oper} {e0 : Env} {s0 : Store} {sc : Script} {G0 : Gh} {L : Array Bool} {a : Act} {w : World} {G : Gh} {m : Nat}


theorem DInv.storeI (inv : DInv P N es l e0 s0 sc G0 L a w G m) (hB : orderOk N es l = true) (hok : ScOkI P N I es l e0 s0 sc) (hl : sc.length = l.length) {i : Nat} (hi : i ∈ Region.ready .any l.toArray L) {o : Oper} (ho : l[i]? = some o)
    (hc : clsOp es i o ≠ 0) : sAt sc s0 m = sAt sc s0 i := by
  obtain ⟨hun, o', ho', hedge⟩ := ready_spec hi
  rw [ho] at ho'; cases ho'
  have hun' := unlisted hun
  rcases Nat.le_total m i with hmi | hmi
  · obtain ⟨d, rfl⟩ := Nat.exists_eq_add_of_le hmi
    refine (sAt_constI hl hok d m fun k ok hk1 hk2 hok' hck => ?_).symm
    have hp := pair_spec (orderOk_pair hB hok' ho hk2)
    rcases hp.2 with h | h
    · have := (inv.turn k ok hok' hck).1 (h o ho _ inv.closed hedge)
      omega
    · exact h.2.2.1 ⟨hck, hc⟩
  · obtain ⟨d, rfl⟩ := Nat.exists_eq_add_of_le hmi
    refine sAt_constI hl hok d i fun k ok hk1 hk2 hok' hck => ?_
    have hkL := (inv.turn k ok hok' hck).2 hk2
    rcases Nat.eq_or_lt_of_le hk1 with he | he
    · subst he; rw [hun'] at hkL; cases hkL
    · have hp := pair_spec (orderOk_pair hB ho hok' he)
      rcases hp.2 with h | h
      · have := inv.dep hok' hkL h
        rw [hun'] at this; cases this
      · exact h.2.2.2 ⟨hc, hck⟩

theorem wpAny_scriptI (hB : orderOk N es l = true) (hok : ScOkI P N I es l e0 s0 sc) (hl : sc.length = l.length) (h0 : I s0) {Q : Exit → Act → World → Prop}
    (hQ : ∀ G a w, G0.le G → ERel G N (eAt l sc e0 l.length) a → WRel G (sAt sc s0 l.length) w → Q .normal a w) :
    ∀ (fuel : Nat) (rest : List Nat) (L : Array Bool) (a : Act) (w : World) (G : Gh) (m : Nat), rest.length ≤ fuel → (∀ i, i < l.length → L.getD i false = false → i ∈ rest) → DInv P N es l e0 s0 sc G0 L a w G m → m ≤ l.length →
      wpAny P .any l.toArray Q fuel L a w := by
  have fin : ∀ (L : Array Bool) (a : Act) (w : World) (G : Gh) (m : Nat), DInv P N es l e0 s0 sc G0 L a w G m → m ≤ l.length → Region.ready .any l.toArray L = [] → Q .normal a w := by
    intro L a w G m inv hm hr
    have hall := fun i hi => all_listed inv.size hB hr (i + 1) i (by omega) hi
    refine hQ G a w inv.le ⟨inv.tsize, inv.defers, fun t x hx => ?_⟩ ?_
    · rcases eAt_get hl _ t x hx with ⟨j, oj, y, hj, hoj, hy, hd, rfl⟩ | ⟨h0, hno⟩
      · exact inv.vals j oj y t hoj hy (hall j hj) hd
      · exact inv.base t x h0 fun k ok hok _ => hno k ok (List.getElem?_eq_some_iff.1 hok).1 hok
    · obtain ⟨d, hd⟩ := Nat.exists_eq_add_of_le hm
      have : sAt sc s0 l.length = sAt sc s0 m := by
        rw [hd]
        refine sAt_constI hl hok d m fun k ok hk1 hk2 hok' hck => ?_
        have := (inv.turn k ok hok' hck).1 (hall k (by omega))
        omega
      rw [this]; exact inv.wr
  intro fuel
  induction fuel with
  | zero =>
    intro rest L a w G m hf hrest inv hm
    have hr : Region.ready .any l.toArray L = [] := by
      cases hq : Region.ready .any l.toArray L with
      | nil => rfl
      | cons i _ =>
        have hi : i ∈ Region.ready .any l.toArray L := by rw [hq]; simp
        obtain ⟨hun, o, ho, _⟩ := ready_spec hi
        have := hrest i (List.getElem?_eq_some_iff.1 ho).1 (unlisted hun)
        have h0 : rest = [] := by simpa using hf
        rw [h0] at this; cases this
    exact ⟨hr, fin L a w G m inv hm hr⟩
  | succ fuel ih =>
    intro rest L a w G m hf hrest inv hm
    refine ⟨fin L a w G m inv hm, fun i hi => ?_⟩
    obtain ⟨hun, o, ho, hedge⟩ := ready_spec hi
    have hun' := unlisted hun
    have hil : i < l.length := (List.getElem?_eq_some_iff.1 ho).1
    obtain ⟨x, hx⟩ : ∃ x, sc[i]? = some x := ⟨_, List.getElem?_eq_getElem (by omega)⟩
    have hmem := hrest i hil hun'
    have next : ∀ {G' : Gh} {w' : World} {c : Value} {m' : Nat}, G.le G' → WRel G' (sAt sc s0 m') w' → Rep G' x.2.1 c → m' ≤ l.length →
        (∀ k ok, l[k]? = some ok → clsOp es k ok = 2 → ((L.setIfInBounds i true).getD k false = true ↔ k < m')) → wpAny P .any l.toArray Q fuel (L.setIfInBounds i true) (a.put o.dst c) w' := by
      intro G' w' c m' hg hw' hr hm' ht
      refine ih (rest.erase i) _ _ _ G' m' ?_ (fun j hj hju => ?_) (inv.step hB hi ho hx hg hw' hr ht) hm'
      · rw [List.length_erase_of_mem hmem]; omega
      · have hji : j ≠ i := by
          intro e; subst e
          have : j < L.size := by rw [inv.size]; exact hj
          simp [this] at hju
        rw [getD_set_ne false (Ne.symm hji)] at hju
        exact (List.mem_erase_of_ne hji).2 (hrest j hj hju)
    have same : clsOp es i o ≠ 2 → ∀ k ok, l[k]? = some ok → clsOp es k ok = 2 → ((L.setIfInBounds i true).getD k false = true ↔ k < m) := by
      intro hc k ok hok hck
      have hki : k ≠ i := by intro e; subst e; rw [ho] at hok; cases hok; exact hc hck
      rw [getD_set_ne false (Ne.symm hki)]
      exact inv.turn k ok hok hck
    obtain ⟨hguard, hpure, hkeep, hskip, hrun⟩ := hok i o x ho hx
    have henv := inv.env hB hl hi ho
    unfold wpOp
    have hoa : l.toArray[i]? = some o := by simpa using ho
    simp only [hoa]
    have hwant : Region.wanted o (yielded l.toArray a.tmps) = x.1 := by
      cases hgd : o.guard with
      | none =>
        simp only [hgd] at hguard
        simp [Region.wanted, hgd, hguard]
      | some jw =>
        obtain ⟨j, want⟩ := jw
        simp only [hgd] at hguard
        obtain ⟨t, ht, hguard⟩ := hguard
        have hlook : t ∈ o.looksAt l.toArray := by
          unfold Oper.looksAt
          refine List.mem_append_right _ ?_
          simp only [hgd]
          have : (l.toArray[j]?).bind (·.dst) = some t := by simpa using ht
          rw [this]
          simp
        rcases hguard with ⟨c, hc, hb⟩ | ⟨hc, hb⟩
        · obtain ⟨v, hv, hr⟩ := henv.2.2 t (.bool c) (by rw [rst_get_eq hlook]; exact hc)
          cases hr
          have hy : yielded l.toArray a.tmps j = some c := by
            unfold yielded
            have h0 : (l.toArray[j]?).bind (·.dst) = some t := by simpa using ht
            rw [h0]
            simp [hv]
          simp only [Region.wanted, hgd, hy, hb]
          cases c <;> cases want <;> rfl
        · obtain ⟨v, hv, hr⟩ := henv.2.2 t (.tup []) (by rw [rst_get_eq hlook]; exact hc)
          have hy : yielded l.toArray a.tmps j = none := by
            unfold yielded
            have h0 : (l.toArray[j]?).bind (·.dst) = some t := by simpa using ht
            rw [h0]
            cases hr
            simp [hv]
          simp [Region.wanted, hgd, hy, hb]
    rw [hwant]
    cases hb : x.1 with
    | true =>
      rw [if_pos rfl]
      refine .inl ?_
      have hj := hrun hb
      by_cases hc0 : clsOp es i o = 0
      · rw [if_pos hc0] at hj
        refine Oper.wp_mono ?_ ((hj (sAt sc s0 m) (sAtI hl hok h0 m)).wp G a w Q henv inv.wr)
        rintro a' w' ⟨c, v, σ', G', rfl, hle, hw', hr, rfl, rfl⟩
        exact next hle hw' hr hm (same (by omega))
      · rw [if_neg hc0] at hj
        have hst := inv.storeI hB hok hl hi ho hc0
        refine Oper.wp_mono ?_ (hj.wp G a w Q henv (by rw [← hst]; exact inv.wr))
        rintro a' w' ⟨c, v, σ', G', rfl, hle, hw', hr, rfl, rfl⟩
        by_cases hc2 : clsOp es i o = 2
        · have hs1 : sAt sc s0 (i + 1) = x.2.2 := by simp only [sAt]; rw [hx]
          exact next (m' := i + 1) hle (by rw [hs1]; exact hw') hr (by omega) (inv.front hB hi ho hc2)
        · refine next hle ?_ hr hm (same hc2)
          rw [hpure hc2, ← hst] at hw'
          exact hw'
    | false =>
      rw [if_neg (by decide)]
      obtain ⟨hv, hs⟩ := hskip hb
      by_cases hc2 : clsOp es i o = 2
      · have hst := inv.storeI hB hok hl hi ho (by omega)
        have hs1 : sAt sc s0 (i + 1) = x.2.2 := by simp only [sAt]; rw [hx]
        exact next (m' := i + 1) (.refl G) (by rw [hs1, hs, ← hst]; exact inv.wr) (by rw [hv]; exact rep_undef _) (by omega) (inv.front hB hi ho hc2)
      · exact next (.refl G) inv.wr (by rw [hv]; exact rep_undef _) hm (same hc2)


theorem awp_drawI (I : Store → Prop) (es : List Nat) {id : Nat} {ops : Array Oper} {K : Exit → Env → Store → Prop} {e : Env} {σ : Store} (hm : P.follows .mixedOrders = true) (hB : orderOk N es ops.toList = true)
    (h0 : I σ) (h : vcDI P I es ops.toList 0 ops.toList e σ (K .normal)) : AWp P N (.region id ops true) K e σ := by
  intro G0 G a w hg he hw
  obtain ⟨sc, ef, hl, hok, hge, hk⟩ := vcD_scriptI (N := N) (es := es) (ops := ops.toList) (e0 := e) (s0 := σ) ops.toList [] e σ (by simp) (by simp) (fun i o x _ hx => by simp at hx) (fun t => rfl) rfl h
  refine wp_region_any hm ?_
  have hdraw : WRel G σ { w with drawn := w.drawn + 1 } := ⟨hw.len, hw.imm, hw.objs, hw.inj, hw.frame, hw.sz, hw.os, hw.tape, hw.output, hw.marks, hw.grew, hw.globs⟩
  have hz : ∀ i, (Array.replicate ops.size false).getD i false = false := fun i => by
    rcases Nat.lt_or_ge i ops.size with h | h
    · simp [h]
    · simp [h]
  have inv : DInv P N es ops.toList e σ sc G0 (Array.replicate ops.size false) a { w with drawn := w.drawn + 1 } G 0 :=
    ⟨hg, by simp, fun i o _ hi => (by simp only [hz] at hi; cases hi), he.1, he.2.1, fun t x hx _ => he.2.2 t x hx, fun i o x t _ _ hi => (by rw [hz] at hi; cases hi), hdraw, fun i o _ _ => by simp only [hz]; simp⟩
  have := wpAny_scriptI (Q := Conc G0 N K) hB hok hl h0 (fun G a w hg he' hw => ⟨G, ef, _, hg, ⟨he'.1, he'.2.1, fun t x hx => he'.2.2 t x (by rw [← hge t]; exact hx)⟩, hw, hk⟩)
    ops.size (List.range ops.toList.length) _ _ _ G 0 (by simp) (fun i hi _ => List.mem_range.2 hi) inv (by simp)
  simpa using this
end

theorem awp_drawsI (I : Store → Prop) (es : List Nat) {N id : Nat} {l : List Oper} {K : Exit → Env → Store → Prop} {e : Env} {σ : Store} (hm : P.follows .mixedOrders = true) (hB : orderOk N es l = true)
    (h0 : I σ) (h : vcDI P I es l 0 l e σ (K .normal)) : AWp P N (.region id l.toArray true) K e σ :=
  awp_drawI I es hm (by simpa using hB) h0 (by simpa using h)

/-! ### Steps -/

/-- An operation that looks at temporaries alone. -/
theorem dI_tmp {I : Store → Prop} {es : List Nat} {all os : List Oper} {i : Nat} {d : Option Tmp} {op : Op} {ty : TypeId} {pos : String} {af : Array Edge} {e : Env} {s : Store} {K : Env → Store → Prop} (hc : clsOp es i ⟨d, op, ty, pos, af, none⟩ = 0)
    (h : outA s (fun v s' => vcDI P I es all (i + 1) os (e.put d v) s' K) (evA P e op)) : vcDI P I es all i (⟨d, op, ty, pos, af, none⟩ :: os) e s K := by
  show vcD1I P I (clsOp es i _) e s _ _
  rw [hc]
  refine .inl (.inl ?_)
  unfold vcA
  generalize evA P e op = r at h
  cases r <;> exact h

/-- A load of what stays. -/
theorem dI_load {I : Store → Prop} {es : List Nat} {all os : List Oper} {i : Nat} {d : Option Tmp} {op : Op} {ty : TypeId} {pos : String} {af : Array Edge} {e : Env} {s : Store} {K : Env → Store → Prop} (v : AV) (hc : clsOp es i ⟨d, op, ty, pos, af, none⟩ = 0)
    (h : ∀ σ, I σ → vcOp P e σ (fun r s1 => r = v ∧ s1 = σ) op) (hk : vcDI P I es all (i + 1) os (e.put d v) s K) : vcDI P I es all i (⟨d, op, ty, pos, af, none⟩ :: os) e s K := by
  show vcD1I P I (clsOp es i _) e s _ _
  rw [hc]
  exact .inr ⟨v, h, hk⟩

/-- An operation that turns the store. -/
theorem dI_turn {I : Store → Prop} {es : List Nat} {all os : List Oper} {i : Nat} {d : Option Tmp} {op : Op} {ty : TypeId} {pos : String} {af : Array Edge} {e : Env} {s : Store} {K : Env → Store → Prop} (hc : clsOp es i ⟨d, op, ty, pos, af, none⟩ = 2)
    (h : dOp P 2 e s (fun v s' => I s' ∧ vcDI P I es all (i + 1) os (e.put d v) s' K) op) : vcDI P I es all i (⟨d, op, ty, pos, af, none⟩ :: os) e s K := by
  show vcD1I P I (clsOp es i _) e s _ _
  rw [hc]
  have := dOp_sound (es := [0]) (i := 0) (o := ⟨d, op, ty, pos, af, none⟩) (e := e) (s := s) (K := fun v s' => I s' ∧ vcDI P I es all (i + 1) os (e.put d v) s' K) (P := P) (h := h)
  exact this

/-! ### Regions, by their operations -/

def vcOpsJ (P : Program) (N : Nat) : List Oper → Env → Store → (Env → Store → Prop) → Prop
  | [], e, s, K => K e s
  | o :: os, e, s, K => o.guard = none ∧ OpJ P N o e s fun v s' => vcOpsJ P N os (e.put o.dst v) s' K

theorem vcOpsJ_sound {all : Array Oper} {N : Nat} {Q : Exit → Act → World → Prop} {G0 : Gh} : ∀ {os : List Oper} {e : Env} {s : Store} {K : Env → Store → Prop}, dstOk N os = true → vcOpsJ P N os e s K →
    (∀ G e s a w, G0.le G → ERel G N e a → WRel G s w → K e s → Q .normal a w) → ∀ G a w, G0.le G → ERel G N e a → WRel G s w → wpList P all Q os a w
  | [], e, s, K, _, h, hQ, G, a, w, hg, he, hw => hQ G e s a w hg he hw h
  | o :: os, e, s, K, hd, h, hQ, G, a, w, hg, he, hw => by
    simp only [dstOk, List.all_cons, Bool.and_eq_true] at hd
    obtain ⟨hd1, hd2⟩ := hd
    have hdst : ∀ t, o.dst = some t → t < N := fun t ht => by rw [ht] at hd1; simp at hd1; exact hd1.1
    obtain ⟨hgd, hj⟩ := h
    unfold wpList
    rw [if_pos (by simp [Region.wanted, hgd])]
    refine .inl (Oper.wp_mono ?_ (hj.wp G a w Q he hw))
    rintro a' w' ⟨c, v, σ', G', rfl, hle, hw', hr, hk⟩
    exact vcOpsJ_sound hd2 hk hQ G' _ w' (hg.trans hle) ((he.mono hle).put o.dst hdst hr) hw'

theorem awp_ops {N id : Nat} {l : List Oper} {K : Exit → Env → Store → Prop} {e : Env} {s : Store} (hd : dstOk N l = true) (h : vcOpsJ P N l e s (K .normal)) : AWp P N (.region id l.toArray false) K e s := by
  intro G0 G a w hg he hw
  refine wp_region_list ?_
  have := vcOpsJ_sound (all := l.toArray) (G0 := G0) (Q := Conc G0 N K) hd h (fun G' e' s' a' w' h1 h2 h3 h4 => ⟨G', e', s', h1, h2, h3, h4⟩) G a w hg he hw
  simpa using this

theorem eq_nilIn (d : Nat) {t el : TypeId} (ht : P.underlying t = some (.slice el)) (ad : Option Addr) (cap : Nat) (w : World) : ∃ b, (Op.equalIn (d + 1) t (.slice ad 0 cap) (.slice none 0 0)).run P w = .ok b w := by
  cases ad with
  | none => exact ⟨true, by simp [Op.equalIn, run_underlying ht]⟩
  | some ad => exact ⟨false, by simp [Op.equalIn, run_underlying ht]⟩

theorem eq_nil {t el : TypeId} (ht : P.underlying t = some (.slice el)) (ad : Option Addr) (cap : Nat) (w : World) : ∃ b, (Op.equal t (.slice ad 0 cap) (.slice none 0 0)).run P w = .ok b w := by
  obtain ⟨b, hb⟩ := eq_nilIn 9999 ht ad cap w
  exact ⟨b, hb⟩

theorem rep_ints0 {G : Gh} {k : IntKind} {v : Value} (h : Rep G (.ints k []) v) : ∃ ad cap, v = .slice ad 0 cap := by
  cases h with
  | ints0 _ ad cap => exact ⟨_, _, rfl⟩
  | ints _ _ b o cap hc hh => exact ⟨_, _, rfl⟩

/-- Whether an empty slice is nil is not known. -/
theorem opj_nil {N : Nat} {d : Option Tmp} {t t2 ty el : TypeId} {pos : String} {af : Array Edge} {gd : Option (Nat × Bool)} {x : Operand} {k : IntKind} {e : Env} {s : Store} {R : AV → Store → Prop}
    (ht : P.underlying t = some (.slice el)) (hx : evO e x = .ints k []) (h : ∀ b, R (.bool b) s) : OpJ P N ⟨d, .binOp .eql t x (.const (.slice none 0 0)) t2, ty, pos, af, gd⟩ e s R := by
  refine .of_run fun G a w he hw => ?_
  have hr := rep_evO he x
  rw [hx] at hr
  obtain ⟨ad, cap, hv⟩ := rep_ints0 hr
  obtain ⟨b, hb⟩ := eq_nil ht ad cap w
  refine ⟨.bool b, w, .bool b, s, G, .inl ?_, .refl _, hw, .bool _, h b⟩
  have hg := run_eqGuard_plain (P := P) .eql t x (.const (.slice none 0 0)) (a := .slice ad 0 cap) (b := .slice none 0 0) ⟨fun _ => Value.noConfusion, Value.noConfusion⟩ w
  have hc : a.eval (.const (.slice none 0 0)) = .slice none 0 0 := rfl
  have hn : (binOp .eql t (.slice ad 0 cap) (.slice none 0 0)).run P w = .ok (.bool b) w := by simp only [binOp, Sem.run_bind, hb, Result.andThen_ok, Sem.run_pure]
  simp only [execOp, hv, hc, Sem.run_bind, hg, hn, Result.andThen_ok, Sem.run_pure]

/-! ### Regions that draw their order, by an invariant of what has come -/

def edgesOk (N : Nat) (l : List Oper) : Bool := dstOk N l && (l.zipIdx.all fun p => p.1.guard.isNone && (edgesOf p.1).all fun e => decide (e < p.2))

theorem edgesOk_spec {N : Nat} {l : List Oper} (h : edgesOk N l = true) : ∀ i x, l[i]? = some x → x.guard = none ∧ (∀ e ∈ edgesOf x, e < i) ∧ ∀ t, x.dst = some t → t < N := by
  intro i x hi
  simp only [edgesOk, Bool.and_eq_true] at h
  have h1 := List.all_eq_true.1 h.2 (x, i) (List.mem_zipIdx_iff_getElem?.2 hi)
  simp only [Bool.and_eq_true] at h1
  refine ⟨by simpa using h1.1, fun e he => by simpa using List.all_eq_true.1 h1.2 e he, fun t ht => ?_⟩
  have h2 := List.all_eq_true.1 h.1 x (List.mem_of_getElem? hi)
  rw [ht] at h2
  simp at h2
  exact h2.1

theorem all_listedE {N : Nat} {l : List Oper} {L : Array Bool} (hs : L.size = l.length) (hB : edgesOk N l = true) (h : Region.ready .any l.toArray L = []) : ∀ n i, i < n → i < l.length → L.getD i false = true
  | 0, i, hi, _ => by omega
  | n + 1, i, hi, hil => by
    rcases Nat.lt_or_ge i n with hin | hin
    · exact all_listedE hs hB h n i hin hil
    · have : i = n := by omega
      subst this
      cases hL : L.getD i false with
      | true => rfl
      | false =>
        have hmem : i ∈ Region.ready .any l.toArray L := by
          refine mem_ready.2 ⟨?_, l[i], by simp [hil], fun e he hb => ?_⟩
          · have : i < L.size := by omega
            simp [this] at hL ⊢; exact hL
          · have hem : e.on ∈ edgesOf l[i] := by
              simp only [edgesOf, List.mem_map, List.mem_filter]
              exact ⟨e, ⟨by simpa using he, hb⟩, rfl⟩
            have := (edgesOk_spec hB i _ (List.getElem?_eq_getElem hil)).2.1 _ hem
            exact all_listedE hs hB h i e.on this (by omega)
        rw [h] at hmem
        cases hmem

theorem wpAny_inv {N : Nat} {l : List Oper} {Inv : (Nat → Bool) → Env → Store → Prop} {G0 : Gh} {Q : Exit → Act → World → Prop} (hB : edgesOk N l = true)
    (hstep : ∀ (L : Nat → Bool) e s i o, l[i]? = some o → (∀ j ∈ edgesOf o, L j = true) → L i = false → Inv L e s → OpJ P N o e s fun v s' => ∀ L', (∀ j, L' j = true ↔ j = i ∨ L j = true) → Inv L' (e.put o.dst v) s')
    (hQ : ∀ G L e s a w, G0.le G → ERel G N e a → WRel G s w → (∀ i, i < l.length → L i = true) → Inv L e s → Q .normal a w) :
    ∀ (fuel : Nat) (rest : List Nat) (L : Array Bool) (a : Act) (w : World) (G : Gh) (e : Env) (s : Store), rest.length ≤ fuel → (∀ i, i < l.length → L.getD i false = false → i ∈ rest) → L.size = l.length → G0.le G → ERel G N e a → WRel G s w → Inv (fun i => L.getD i false) e s →
      wpAny P .any l.toArray Q fuel L a w := by
  intro fuel
  induction fuel with
  | zero =>
    intro rest L a w G e s hf hrest hsz hg he hw hI
    have hr : Region.ready .any l.toArray L = [] := by
      cases hq : Region.ready .any l.toArray L with
      | nil => rfl
      | cons i _ =>
        have hi : i ∈ Region.ready .any l.toArray L := by rw [hq]; simp
        obtain ⟨hun, o, ho, _⟩ := ready_spec hi
        have := hrest i (List.getElem?_eq_some_iff.1 ho).1 (unlisted hun)
        have h0 : rest = [] := by simpa using hf
        rw [h0] at this; cases this
    exact ⟨hr, hQ G _ e s a w hg he hw (fun i hi => all_listedE hsz hB hr (i + 1) i (by omega) hi) hI⟩
  | succ fuel ih =>
    intro rest L a w G e s hf hrest hsz hg he hw hI
    refine ⟨fun hr => hQ G _ e s a w hg he hw (fun i hi => all_listedE hsz hB hr (i + 1) i (by omega) hi) hI, fun i hi => ?_⟩
    obtain ⟨hun, o, ho, hedge⟩ := ready_spec hi
    have hun' := unlisted hun
    have hil : i < l.length := (List.getElem?_eq_some_iff.1 ho).1
    have hmem := hrest i hil hun'
    obtain ⟨hgd, _, hdst⟩ := edgesOk_spec hB i o ho
    have hop := hstep _ e s i o ho hedge hun' hI
    unfold wpOp
    have hoa : l.toArray[i]? = some o := by simpa using ho
    simp only [hoa]
    have hwant : Region.wanted o (yielded l.toArray a.tmps) = true := by simp [Region.wanted, hgd]
    rw [hwant, if_pos rfl]
    refine .inl (Oper.wp_mono ?_ (hop.wp G a w Q he hw))
    rintro a' w' ⟨c, v, σ', G', rfl, hle, hw', hr, hk⟩
    refine ih (rest.erase i) _ _ _ G' _ _ ?_ (fun j hj hju => ?_) (by simpa using hsz) (hg.trans hle) ((he.mono hle).put o.dst hdst hr) hw' (hk _ fun j => ?_)
    · rw [List.length_erase_of_mem hmem]; omega
    · have hji : j ≠ i := by
        intro e; subst e
        have : j < L.size := by rw [hsz]; exact hj
        simp [this] at hju
      rw [getD_set_ne false (Ne.symm hji)] at hju
      exact (List.mem_erase_of_ne hji).2 (hrest j hj hju)
    · by_cases hji : j = i
      · subst hji
        have : j < L.size := by rw [hsz]; exact hil
        simp [this]
      · rw [getD_set_ne false (Ne.symm hji)]
        simp [hji]

/-- **A region that draws its order: whatever comes next keeps what is told of all that has come.** -/
theorem awp_any {N id : Nat} {l : List Oper} {K : Exit → Env → Store → Prop} {e : Env} {σ : Store} (Inv : (Nat → Bool) → Env → Store → Prop) (hm : P.follows .mixedOrders = true) (hB : edgesOk N l = true)
    (h0 : Inv (fun _ => false) e σ)
    (hstep : ∀ (L : Nat → Bool) e s i o, l[i]? = some o → (∀ j ∈ edgesOf o, L j = true) → L i = false → Inv L e s → OpJ P N o e s fun v s' => ∀ L', (∀ j, L' j = true ↔ j = i ∨ L j = true) → Inv L' (e.put o.dst v) s')
    (hK : ∀ L e s, (∀ i, i < l.length → L i = true) → Inv L e s → K .normal e s) : AWp P N (.region id l.toArray true) K e σ := by
  intro G0 G a w hg he hw
  refine wp_region_any hm ?_
  have hdraw : WRel G σ { w with drawn := w.drawn + 1 } := ⟨hw.len, hw.imm, hw.objs, hw.inj, hw.frame, hw.sz, hw.os, hw.tape, hw.output, hw.marks, hw.grew, hw.globs⟩
  have hz : (fun i => (Array.replicate l.toArray.size false).getD i false) = fun _ => false := by
    funext i
    rcases Nat.lt_or_ge i l.toArray.size with h | h
    · simp at h; simp [h]
    · simp at h; simp [h]
  have := wpAny_inv (Q := Conc G0 N K) (Inv := Inv) (G0 := G0) hB hstep (fun G L e s a w h1 h2 h3 h4 h5 => ⟨G, e, s, h1, h2, h3, hK L e s h4 h5⟩)
    l.toArray.size (List.range l.length) (Array.replicate l.toArray.size false) a { w with drawn := w.drawn + 1 } G e σ (by simp) (fun i hi _ => List.mem_range.2 hi) (by simp) hg he hdraw (by rw [hz]; exact h0)
  simpa using this

end Go.Pa
