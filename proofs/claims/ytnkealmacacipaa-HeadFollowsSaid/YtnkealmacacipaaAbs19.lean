/-
  Regions that draw their order: the walk in the order of the text serves every order.
-/
import Derived.Test.YtnkealmacacipaaAbs18
namespace Go.Pa
set_option linter.unusedSectionVars false
variable [GTab]
variable {P : Program}

def edgesOf (o : Oper) : List Nat := (o.after.toList.filter (Region.binds .any)).map (·.on)

def maskOf (acc : List Nat) (o : Oper) : Nat := (edgesOf o).foldl (fun m j => m ||| (1 <<< j) ||| acc.getD j 0) 0

def masks : List Oper → List Nat → List Nat
  | [], acc => acc
  | o :: os, acc => masks os (acc ++ [maskOf acc o])

/-- May two operations come in either order? Else the first is asked to come first. -/
def pairOk (es : List Nat) (ops : Array Oper) (ms : List Nat) (i j : Nat) (x y : Oper) : Bool :=
  (match x.dst with | some d => y.dst != some d | none => true) &&
  ((ms.getD j 0).testBit i ||
    ((match x.dst with | some d => !(y.looksAt ops).contains d | none => true) &&
     (match y.dst with | some d => !(x.looksAt ops).contains d | none => true) &&
     !((clsOp es i x == 2 && clsOp es j y != 0) || (clsOp es i x != 0 && clsOp es j y == 2))))

def orderOk (N : Nat) (es : List Nat) (l : List Oper) : Bool :=
  let ms := masks l []
  dstOk N l &&
  (l.zipIdx.all fun p => (edgesOf p.1).all fun e => decide (e < p.2)) &&
  (l.zipIdx.all fun p => l.zipIdx.all fun q => decide (q.2 ≤ p.2) || pairOk es l.toArray ms p.2 q.2 p.1 q.1)

/-- A set of operations that holds, with each, those that it waits for. -/
def Closed (l : List Oper) (L : Nat → Prop) : Prop := ∀ (i : Nat) o, l[i]? = some o → L i → ∀ j ∈ edgesOf o, L j

/-- Whatever waits for i's edges has come: so has j. -/
def Dep (l : List Oper) (i j : Nat) : Prop := ∀ o, l[i]? = some o → ∀ L, Closed l L → (∀ k ∈ edgesOf o, L k) → L j

theorem testBit_one_shl {j k : Nat} (h : (1 <<< j).testBit k = true) : k = j := by
  rw [Nat.testBit_shiftLeft] at h
  simp only [Bool.and_eq_true, decide_eq_true_eq] at h
  have := h.2
  rw [Nat.testBit_one_eq_true_iff_self_eq_zero] at this
  omega

theorem mask_spec {l : List Oper} {acc : List Nat} (hacc : ∀ i j, (acc.getD i 0).testBit j = true → i < acc.length → Dep l i j) (hlen : acc.length ≤ l.length) {o : Oper} (L : Nat → Prop) (hL : Closed l L) :
    ∀ (es : List Nat) (m : Nat), (∀ k ∈ es, L k) → (∀ j, m.testBit j = true → L j) → ∀ j, (es.foldl (fun m j => m ||| (1 <<< j) ||| acc.getD j 0) m).testBit j = true → L j
  | [], m, _, hm, j, h => hm j h
  | e :: es, m, he, hm, j, h => by
    refine mask_spec hacc hlen (o := o) L hL es _ (fun k hk => he k (List.mem_cons_of_mem _ hk)) (fun k hk => ?_) j h
    rw [Nat.testBit_or, Nat.testBit_or] at hk
    simp only [Bool.or_eq_true] at hk
    rcases hk with (hk | hk) | hk
    · exact hm k hk
    · rw [testBit_one_shl hk]; exact he e (by simp)
    · have hlt : e < acc.length := by
        rcases Nat.lt_or_ge e acc.length with h | h
        · exact h
        · rw [List.getD_eq_getElem?_getD, List.getElem?_eq_none h] at hk; simp at hk
      exact hacc e k hk hlt (l[e]'(by omega)) (List.getElem?_eq_getElem (by omega)) L hL (hL e _ (List.getElem?_eq_getElem (by omega)) (he e (by simp)))

theorem masks_spec {l : List Oper} : ∀ (os : List Oper) (acc : List Nat), l.drop acc.length = os → acc.length ≤ l.length → (∀ i j, (acc.getD i 0).testBit j = true → i < acc.length → Dep l i j) →
    ∀ i j, ((masks os acc).getD i 0).testBit j = true → Dep l i j
  | [], acc, _, _, hacc, i, j, h => by
    rcases Nat.lt_or_ge i acc.length with hi | hi
    · exact hacc i j h hi
    · simp only [masks] at h; rw [List.getD_eq_getElem?_getD, List.getElem?_eq_none hi] at h; simp at h
  | o :: os, acc, hd, hl, hacc, i, j, h => by
    have hlt : acc.length < l.length := by
      have := congrArg List.length hd
      simp at this
      omega
    have ho : l[acc.length]? = some o := by
      have : (l.drop acc.length)[0]? = some o := by rw [hd]; rfl
      simpa using this
    refine masks_spec os (acc ++ [maskOf acc o]) ?_ (by simp; omega) (fun a b hab hlt2 => ?_) i j h
    · have := congrArg (List.drop 1) hd
      simpa [List.drop_drop, Nat.add_comm] using this
    · rcases Nat.lt_or_ge a acc.length with ha | ha
      · rw [List.getD_eq_getElem?_getD, List.getElem?_append_left ha, ← List.getD_eq_getElem?_getD] at hab
        exact hacc a b hab ha
      · have hae : a = acc.length := by simp at hlt2; omega
        subst hae
        rw [List.getD_eq_getElem?_getD, List.getElem?_append_right (Nat.le_refl _)] at hab
        simp at hab
        intro o' ho' L hL hk
        rw [ho] at ho'
        cases ho'
        exact mask_spec hacc (by omega) (o := o) L hL (edgesOf o) 0 hk (by simp) b hab

theorem before {l : List Oper} {i j : Nat} (h : ((masks l []).getD i 0).testBit j = true) : Dep l i j :=
  masks_spec l [] (by simp) (by simp) (fun i j _ h => by simp at h) i j h

theorem orderOk_pair {N : Nat} {es : List Nat} {l : List Oper} (h : orderOk N es l = true) {i j : Nat} {x y : Oper} (hi : l[i]? = some x) (hj : l[j]? = some y) (hij : i < j) : pairOk es l.toArray (masks l []) i j x y = true := by
  simp only [orderOk, Bool.and_eq_true] at h
  have h1 := List.all_eq_true.1 h.2 (x, i) (List.mem_zipIdx_iff_getElem?.2 hi)
  have h2 := List.all_eq_true.1 h1 (y, j) (List.mem_zipIdx_iff_getElem?.2 hj)
  simp only [Bool.or_eq_true, decide_eq_true_eq] at h2
  rcases h2 with h2 | h2
  · omega
  · exact h2

theorem orderOk_edge {N : Nat} {es : List Nat} {l : List Oper} (h : orderOk N es l = true) {i : Nat} {x : Oper} (hi : l[i]? = some x) : ∀ e ∈ edgesOf x, e < i := by
  simp only [orderOk, Bool.and_eq_true] at h
  have h1 := List.all_eq_true.1 h.1.2 (x, i) (List.mem_zipIdx_iff_getElem?.2 hi)
  intro e he
  simpa using List.all_eq_true.1 h1 e he

theorem orderOk_dst {N : Nat} {es : List Nat} {l : List Oper} (h : orderOk N es l = true) {i : Nat} {x : Oper} (hi : l[i]? = some x) : ∀ t, x.dst = some t → t < N := by
  simp only [orderOk, Bool.and_eq_true] at h
  have h1 := List.all_eq_true.1 h.1.1 x (List.mem_of_getElem? hi)
  intro t ht
  rw [ht] at h1
  simp at h1
  exact h1.1

/-- What two operations have to do with each other. -/
theorem pair_spec {es : List Nat} {l : List Oper} {i j : Nat} {x y : Oper} (h : pairOk es l.toArray (masks l []) i j x y = true) :
    (∀ d, x.dst = some d → y.dst ≠ some d) ∧
    (Dep l j i ∨ ((∀ d, x.dst = some d → d ∉ y.looksAt l.toArray) ∧ (∀ d, y.dst = some d → d ∉ x.looksAt l.toArray) ∧ ¬ (clsOp es i x = 2 ∧ clsOp es j y ≠ 0) ∧ ¬ (clsOp es i x ≠ 0 ∧ clsOp es j y = 2))) := by
  simp only [pairOk, Bool.and_eq_true, Bool.or_eq_true] at h
  obtain ⟨h1, h2⟩ := h
  refine ⟨fun d hd => ?_, ?_⟩
  · rw [hd] at h1
    simpa using h1
  · rcases h2 with h2 | ⟨⟨h2, h3⟩, h4⟩
    · exact .inl (before h2)
    · refine .inr ⟨fun d hd => ?_, fun d hd => ?_, ?_, ?_⟩
      · rw [hd] at h2; simpa using h2
      · rw [hd] at h3; simpa using h3
      · rintro ⟨q1, q2⟩; simp [q1, q2] at h4
      · rintro ⟨q1, q2⟩; simp [q1, q2] at h4

/-! ### What holds between two operations -/

structure DInv (P : Program) (N : Nat) (es : List Nat) (l : List Oper) (e0 : Env) (s0 : Store) (sc : Script) (G0 : Gh) (L : Array Bool) (a : Act) (w : World) (G : Gh) (m : Nat) : Prop where
  le : G0.le G
  size : L.size = l.length
  closed : Closed l fun i => L.getD i false = true
  tsize : a.tmps.size = N
  defers : DRel G a.defers
  base : ∀ t x, e0.get t = some x → (∀ i o, l[i]? = some o → L.getD i false = true → o.dst ≠ some t) → ∃ v, a.tmps[t]? = some v ∧ Rep G x v
  vals : ∀ i o x t, l[i]? = some o → sc[i]? = some x → L.getD i false = true → o.dst = some t → ∃ v, a.tmps[t]? = some v ∧ Rep G x.2.1 v
  wr : WRel G (sAt sc s0 m) w
  turn : ∀ i o, l[i]? = some o → clsOp es i o = 2 → (L.getD i false = true ↔ i < m)

theorem eAt_get {l : List Oper} {sc : Script} {e0 : Env} (hl : sc.length = l.length) : ∀ (i : Nat) (t : Tmp) (x : AV), (eAt l sc e0 i).get t = some x →
    (∃ j o y, j < i ∧ l[j]? = some o ∧ sc[j]? = some y ∧ o.dst = some t ∧ y.2.1 = x) ∨ (e0.get t = some x ∧ ∀ j o, j < i → l[j]? = some o → o.dst ≠ some t)
  | 0, t, x, h => .inr ⟨h, fun j o hj => by omega⟩
  | i + 1, t, x, h => by
    simp only [eAt] at h
    split at h
    · rename_i o y ho hy
      by_cases hd : o.dst = some t
      · rw [hd] at h
        simp only [Env.put, Env.get, if_true, Option.some.injEq] at h
        exact .inl ⟨i, o, y, by omega, ho, hy, hd, h⟩
      · have h' : (eAt l sc e0 i).get t = some x := by
          cases hdd : o.dst with
          | none => rw [hdd] at h; exact h
          | some d =>
            rw [hdd] at h
            simp only [Env.put, Env.get] at h
            rw [if_neg (fun e => hd (by rw [hdd, e]))] at h
            exact h
        rcases eAt_get hl i t x h' with ⟨j, oj, yj, hj, r⟩ | ⟨h1, h2⟩
        · exact .inl ⟨j, oj, yj, by omega, r⟩
        · refine .inr ⟨h1, fun j oj hj hoj => ?_⟩
          rcases Nat.lt_or_ge j i with hji | hji
          · exact h2 j oj hji hoj
          · have : j = i := by omega
            subst this
            rw [ho] at hoj
            cases hoj
            exact hd
    · rename_i hn
      rcases eAt_get hl i t x h with ⟨j, oj, yj, hj, r⟩ | ⟨h1, h2⟩
      · exact .inl ⟨j, oj, yj, by omega, r⟩
      · refine .inr ⟨h1, fun j oj hj hoj => ?_⟩
        rcases Nat.lt_or_ge j i with hji | hji
        · exact h2 j oj hji hoj
        · have : j = i := by omega
          subst this
          have hlt : j < sc.length := by rw [hl]; exact (List.getElem?_eq_some_iff.1 hoj).1
          exact (hn _ _ hoj (List.getElem?_eq_getElem hlt)).elim

theorem sAt_const {N : Nat} {es : List Nat} {l : List Oper} {e0 : Env} {s0 : Store} {sc : Script} (hl : sc.length = l.length) (hok : ScOk P N es l e0 s0 sc) : ∀ (d i : Nat), (∀ k o, i ≤ k → k < i + d → l[k]? = some o → clsOp es k o ≠ 2) → sAt sc s0 (i + d) = sAt sc s0 i
  | 0, i, _ => rfl
  | d + 1, i, h => by
    rw [show i + (d + 1) = (i + d) + 1 by omega]
    simp only [sAt]
    have ih := sAt_const hl hok d i (fun k o hk hk2 => h k o hk (by omega))
    cases hx : sc[i + d]? with
    | none => exact ih
    | some x =>
      have hlt : i + d < l.length := by rw [← hl]; exact (List.getElem?_eq_some_iff.1 hx).1
      have ho := List.getElem?_eq_getElem hlt
      have := (hok (i + d) _ x ho hx).2.1 (h (i + d) _ (by omega) (by omega) ho)
      simp only
      rw [this, ih]

section
variable {N : Nat} {es : List Nat} {l : List Oper} {e0 : Env} {s0 : Store} {sc : Script} {G0 : Gh} {L : Array Bool} {a : Act} {w : World} {G : Gh} {m : Nat}

theorem ready_spec {i : Nat} (h : i ∈ Region.ready .any l.toArray L) : L.getD i true = false ∧ ∃ o, l[i]? = some o ∧ ∀ j ∈ edgesOf o, L.getD j false = true := by
  obtain ⟨h1, o, h2, h3⟩ := mem_ready.1 h
  refine ⟨h1, o, by simpa using h2, fun j hj => ?_⟩
  simp only [edgesOf, List.mem_map, List.mem_filter] at hj
  obtain ⟨e, ⟨he, hb⟩, rfl⟩ := hj
  exact h3 e (by simpa using he) hb

theorem unlisted {i : Nat} (h : L.getD i true = false) : L.getD i false = false := by
  rcases Nat.lt_or_ge i L.size with h' | h'
  · simp [h'] at h ⊢; exact h
  · simp [Array.getElem?_eq_none h'] at h

theorem DInv.dep (inv : DInv P N es l e0 s0 sc G0 L a w G m) {i k : Nat} {o : Oper} (ho : l[k]? = some o) (hk : L.getD k false = true) (h : Dep l k i) : L.getD i false = true :=
  h o ho _ inv.closed (inv.closed k o ho hk)

theorem DInv.env (inv : DInv P N es l e0 s0 sc G0 L a w G m) (hB : orderOk N es l = true) (hl : sc.length = l.length) {i : Nat} (hi : i ∈ Region.ready .any l.toArray L) {o : Oper} (ho : l[i]? = some o) :
    ERel G N (rst l.toArray o (eAt l sc e0 i)) a := by
  obtain ⟨hun, o', ho', hedge⟩ := ready_spec hi
  rw [ho] at ho'; cases ho'
  have hun' := unlisted hun
  refine ⟨inv.tsize, inv.defers, fun t x hx => ?_⟩
  obtain ⟨hlook, hx⟩ := rst_get hx
  rcases eAt_get hl i t x hx with ⟨j, oj, y, hj, hoj, hy, hd, rfl⟩ | ⟨h0, hno⟩
  · have hp := pair_spec (orderOk_pair hB hoj ho hj)
    rcases hp.2 with h | h
    · exact inv.vals j oj y t hoj hy (h o ho _ inv.closed hedge) hd
    · exact absurd hlook (h.1 t hd)
  · refine inv.base t x h0 fun k ok hok hk hd => ?_
    rcases Nat.lt_trichotomy k i with hki | hki | hki
    · exact hno k ok hki hok hd
    · subst hki; rw [hun'] at hk; cases hk
    · have hp := pair_spec (orderOk_pair hB ho hok hki)
      rcases hp.2 with h | h
      · have := inv.dep hok hk h
        rw [hun'] at this; cases this
      · exact absurd hlook (h.2.1 t hd)

theorem DInv.store (inv : DInv P N es l e0 s0 sc G0 L a w G m) (hB : orderOk N es l = true) (hok : ScOk P N es l e0 s0 sc) (hl : sc.length = l.length) {i : Nat} (hi : i ∈ Region.ready .any l.toArray L) {o : Oper} (ho : l[i]? = some o)
    (hc : clsOp es i o ≠ 0) : sAt sc s0 m = sAt sc s0 i := by
  obtain ⟨hun, o', ho', hedge⟩ := ready_spec hi
  rw [ho] at ho'; cases ho'
  have hun' := unlisted hun
  rcases Nat.le_total m i with hmi | hmi
  · obtain ⟨d, rfl⟩ := Nat.exists_eq_add_of_le hmi
    refine (sAt_const hl hok d m fun k ok hk1 hk2 hok' hck => ?_).symm
    have hp := pair_spec (orderOk_pair hB hok' ho hk2)
    rcases hp.2 with h | h
    · have := (inv.turn k ok hok' hck).1 (h o ho _ inv.closed hedge)
      omega
    · exact h.2.2.1 ⟨hck, hc⟩
  · obtain ⟨d, rfl⟩ := Nat.exists_eq_add_of_le hmi
    refine sAt_const hl hok d i fun k ok hk1 hk2 hok' hck => ?_
    have hkL := (inv.turn k ok hok' hck).2 hk2
    rcases Nat.eq_or_lt_of_le hk1 with he | he
    · subst he; rw [hun'] at hkL; cases hkL
    · have hp := pair_spec (orderOk_pair hB ho hok' he)
      rcases hp.2 with h | h
      · have := inv.dep hok' hkL h
        rw [hun'] at this; cases this
      · exact h.2.2.2 ⟨hc, hck⟩

/-- The operations that turn the store come in the order of the text. -/
theorem DInv.front (inv : DInv P N es l e0 s0 sc G0 L a w G m) (hB : orderOk N es l = true) {i : Nat} (hi : i ∈ Region.ready .any l.toArray L) {o : Oper} (ho : l[i]? = some o) (hc : clsOp es i o = 2) :
    ∀ k ok, l[k]? = some ok → clsOp es k ok = 2 → ((L.setIfInBounds i true).getD k false = true ↔ k < i + 1) := by
  obtain ⟨hun, o', ho', hedge⟩ := ready_spec hi
  rw [ho] at ho'; cases ho'
  have hun' := unlisted hun
  have hilt : i < L.size := by rw [inv.size]; exact (List.getElem?_eq_some_iff.1 ho).1
  intro k ok hok hck
  rcases Nat.lt_trichotomy k i with hki | hki | hki
  · refine ⟨fun _ => by omega, fun _ => getD_set_true ?_⟩
    have hp := pair_spec (orderOk_pair hB hok ho hki)
    rcases hp.2 with h | h
    · exact h o ho _ inv.closed hedge
    · exact absurd ⟨hck, by rw [hc]; decide⟩ h.2.2.1
  · subst hki
    exact ⟨fun _ => by omega, fun _ => by simp [hilt]⟩
  · refine ⟨fun h => ?_, fun h => by omega⟩
    rw [getD_set_ne false (by omega)] at h
    have hp := pair_spec (orderOk_pair hB ho hok hki)
    rcases hp.2 with h2 | h2
    · have := inv.dep hok h h2
      rw [hun'] at this; cases this
    · exact absurd ⟨by rw [hc]; decide, hck⟩ h2.2.2.2

theorem DInv.step (inv : DInv P N es l e0 s0 sc G0 L a w G m) (hB : orderOk N es l = true) {i : Nat} (hi : i ∈ Region.ready .any l.toArray L) {o : Oper} (ho : l[i]? = some o) {x : Bool × AV × Store} (hx : sc[i]? = some x)
    {G' : Gh} {w' : World} {c : Value} {m' : Nat} (hg : G.le G') (hw : WRel G' (sAt sc s0 m') w') (hr : Rep G' x.2.1 c)
    (hturn : ∀ k ok, l[k]? = some ok → clsOp es k ok = 2 → ((L.setIfInBounds i true).getD k false = true ↔ k < m')) :
    DInv P N es l e0 s0 sc G0 (L.setIfInBounds i true) (a.put o.dst c) w' G' m' := by
  obtain ⟨hun, o', ho', hedge⟩ := ready_spec hi
  rw [ho] at ho'; cases ho'
  have hun' := unlisted hun
  have hilt : i < L.size := by rw [inv.size]; exact (List.getElem?_eq_some_iff.1 ho).1
  have split : ∀ k, (L.setIfInBounds i true).getD k false = true → k = i ∨ (k ≠ i ∧ L.getD k false = true) := by
    intro k hk
    by_cases hki : k = i
    · exact .inl hki
    · rw [getD_set_ne false (Ne.symm hki)] at hk; exact .inr ⟨hki, hk⟩
  have hother : ∀ t, o.dst ≠ some t → (a.put o.dst c).tmps[t]? = a.tmps[t]? := by
    intro t ht
    cases hd : o.dst with
    | none => rfl
    | some d =>
      have : d ≠ t := fun e => ht (by rw [hd, e])
      simp [Act.put, Array.getElem?_setIfInBounds_ne this]
  refine ⟨inv.le.trans hg, by simp [inv.size], fun k ok hok hk j hj => ?_, ?_, ?_, fun t y hy hno => ?_, fun k ok y t hok hy hk hd => ?_, hw, hturn⟩
  · rcases split k hk with rfl | ⟨hki, hk'⟩
    · rw [ho] at hok; cases hok
      exact getD_set_true (hedge j hj)
    · exact getD_set_true (inv.closed k ok hok hk' j hj)
  · cases hd : o.dst with
    | none => exact inv.tsize
    | some d => simp [Act.put, inv.tsize]
  · cases hd : o.dst with
    | none => exact inv.defers.mono hg
    | some d => exact inv.defers.mono hg
  · have hdt : o.dst ≠ some t := hno i o ho (by simp [hilt])
    obtain ⟨v, hv, hrv⟩ := inv.base t y hy fun k ok hok hk => hno k ok hok (getD_set_true hk)
    exact ⟨v, by rw [hother t hdt]; exact hv, hrv.mono hg⟩
  · rcases split k hk with rfl | ⟨hki, hk'⟩
    · rw [ho] at hok; cases hok
      rw [hx] at hy; cases hy
      have ht := orderOk_dst hB ho t hd
      exact ⟨c, by rw [hd]; simp [Act.put, inv.tsize, ht], hr⟩
    · have hdt : o.dst ≠ some t := by
        intro e
        rcases Nat.lt_or_gt_of_ne hki with h | h
        · exact (pair_spec (orderOk_pair hB hok ho h)).1 t hd e
        · exact (pair_spec (orderOk_pair hB ho hok h)).1 t e hd
      obtain ⟨v, hv, hrv⟩ := inv.vals k ok y t hok hy hk' hd
      exact ⟨v, by rw [hother t hdt]; exact hv, hrv.mono hg⟩

theorem all_listed {L : Array Bool} (hs : L.size = l.length) (hB : orderOk N es l = true) (h : Region.ready .any l.toArray L = []) : ∀ n i, i < n → i < l.length → L.getD i false = true
  | 0, i, hi, _ => by omega
  | n + 1, i, hi, hil => by
    rcases Nat.lt_or_ge i n with hin | hin
    · exact all_listed hs hB h n i hin hil
    · have : i = n := by omega
      subst this
      cases hL : L.getD i false with
      | true => rfl
      | false =>
        have hmem : i ∈ Region.ready .any l.toArray L := by
          refine mem_ready.2 ⟨?_, l[i], by simp [hil], fun e he hb => ?_⟩
          · have : i < L.size := by omega
            simp [this] at hL ⊢; exact hL
          · have hem : e.on ∈ edgesOf l[i] := by
              simp only [edgesOf, List.mem_map, List.mem_filter]
              exact ⟨e, ⟨by simpa using he, hb⟩, rfl⟩
            have := orderOk_edge hB (List.getElem?_eq_getElem hil) _ hem
            exact all_listed hs hB h i e.on this (by omega)
        rw [h] at hmem
        cases hmem

theorem wpAny_script (hB : orderOk N es l = true) (hok : ScOk P N es l e0 s0 sc) (hl : sc.length = l.length) {Q : Exit → Act → World → Prop}
    (hQ : ∀ G a w, G0.le G → ERel G N (eAt l sc e0 l.length) a → WRel G (sAt sc s0 l.length) w → Q .normal a w) :
    ∀ (fuel : Nat) (rest : List Nat) (L : Array Bool) (a : Act) (w : World) (G : Gh) (m : Nat), rest.length ≤ fuel → (∀ i, i < l.length → L.getD i false = false → i ∈ rest) → DInv P N es l e0 s0 sc G0 L a w G m → m ≤ l.length →
      wpAny P .any l.toArray Q fuel L a w := by
  have fin : ∀ (L : Array Bool) (a : Act) (w : World) (G : Gh) (m : Nat), DInv P N es l e0 s0 sc G0 L a w G m → m ≤ l.length → Region.ready .any l.toArray L = [] → Q .normal a w := by
    intro L a w G m inv hm hr
    have hall := fun i hi => all_listed inv.size hB hr (i + 1) i (by omega) hi
    refine hQ G a w inv.le ⟨inv.tsize, inv.defers, fun t x hx => ?_⟩ ?_
    · rcases eAt_get hl _ t x hx with ⟨j, oj, y, hj, hoj, hy, hd, rfl⟩ | ⟨h0, hno⟩
      · exact inv.vals j oj y t hoj hy (hall j hj) hd
      · exact inv.base t x h0 fun k ok hok _ => hno k ok (List.getElem?_eq_some_iff.1 hok).1 hok
    · obtain ⟨d, hd⟩ := Nat.exists_eq_add_of_le hm
      have : sAt sc s0 l.length = sAt sc s0 m := by
        rw [hd]
        refine sAt_const hl hok d m fun k ok hk1 hk2 hok' hck => ?_
        have := (inv.turn k ok hok' hck).1 (hall k (by omega))
        omega
      rw [this]; exact inv.wr
  intro fuel
  induction fuel with
  | zero =>
    intro rest L a w G m hf hrest inv hm
    have hr : Region.ready .any l.toArray L = [] := by
      cases hq : Region.ready .any l.toArray L with
      | nil => rfl
      | cons i _ =>
        have hi : i ∈ Region.ready .any l.toArray L := by rw [hq]; simp
        obtain ⟨hun, o, ho, _⟩ := ready_spec hi
        have := hrest i (List.getElem?_eq_some_iff.1 ho).1 (unlisted hun)
        have h0 : rest = [] := by simpa using hf
        rw [h0] at this; cases this
    exact ⟨hr, fin L a w G m inv hm hr⟩
  | succ fuel ih =>
    intro rest L a w G m hf hrest inv hm
    refine ⟨fin L a w G m inv hm, fun i hi => ?_⟩
    obtain ⟨hun, o, ho, hedge⟩ := ready_spec hi
    have hun' := unlisted hun
    have hil : i < l.length := (List.getElem?_eq_some_iff.1 ho).1
    obtain ⟨x, hx⟩ : ∃ x, sc[i]? = some x := ⟨_, List.getElem?_eq_getElem (by omega)⟩
    have hmem := hrest i hil hun'
    have next : ∀ {G' : Gh} {w' : World} {c : Value} {m' : Nat}, G.le G' → WRel G' (sAt sc s0 m') w' → Rep G' x.2.1 c → m' ≤ l.length →
        (∀ k ok, l[k]? = some ok → clsOp es k ok = 2 → ((L.setIfInBounds i true).getD k false = true ↔ k < m')) → wpAny P .any l.toArray Q fuel (L.setIfInBounds i true) (a.put o.dst c) w' := by
      intro G' w' c m' hg hw' hr hm' ht
      refine ih (rest.erase i) _ _ _ G' m' ?_ (fun j hj hju => ?_) (inv.step hB hi ho hx hg hw' hr ht) hm'
      · rw [List.length_erase_of_mem hmem]; omega
      · have hji : j ≠ i := by
          intro e; subst e
          have : j < L.size := by rw [inv.size]; exact hj
          simp [this] at hju
        rw [getD_set_ne false (Ne.symm hji)] at hju
        exact (List.mem_erase_of_ne hji).2 (hrest j hj hju)
    have same : clsOp es i o ≠ 2 → ∀ k ok, l[k]? = some ok → clsOp es k ok = 2 → ((L.setIfInBounds i true).getD k false = true ↔ k < m) := by
      intro hc k ok hok hck
      have hki : k ≠ i := by intro e; subst e; rw [ho] at hok; cases hok; exact hc hck
      rw [getD_set_ne false (Ne.symm hki)]
      exact inv.turn k ok hok hck
    obtain ⟨hguard, hpure, hskip, hrun⟩ := hok i o x ho hx
    have henv := inv.env hB hl hi ho
    unfold wpOp
    have hoa : l.toArray[i]? = some o := by simpa using ho
    simp only [hoa]
    have hwant : Region.wanted o (yielded l.toArray a.tmps) = x.1 := by
      cases hgd : o.guard with
      | none =>
        simp only [hgd] at hguard
        simp [Region.wanted, hgd, hguard]
      | some jw =>
        obtain ⟨j, want⟩ := jw
        simp only [hgd] at hguard
        obtain ⟨t, ht, hguard⟩ := hguard
        have hlook : t ∈ o.looksAt l.toArray := by
          unfold Oper.looksAt
          refine List.mem_append_right _ ?_
          simp only [hgd]
          have : (l.toArray[j]?).bind (·.dst) = some t := by simpa using ht
          rw [this]
          simp
        rcases hguard with ⟨c, hc, hb⟩ | ⟨hc, hb⟩
        · obtain ⟨v, hv, hr⟩ := henv.2.2 t (.bool c) (by rw [rst_get_eq hlook]; exact hc)
          cases hr
          have hy : yielded l.toArray a.tmps j = some c := by
            unfold yielded
            have h0 : (l.toArray[j]?).bind (·.dst) = some t := by simpa using ht
            rw [h0]
            simp [hv]
          simp only [Region.wanted, hgd, hy, hb]
          cases c <;> cases want <;> rfl
        · obtain ⟨v, hv, hr⟩ := henv.2.2 t (.tup []) (by rw [rst_get_eq hlook]; exact hc)
          have hy : yielded l.toArray a.tmps j = none := by
            unfold yielded
            have h0 : (l.toArray[j]?).bind (·.dst) = some t := by simpa using ht
            rw [h0]
            cases hr
            simp [hv]
          simp [Region.wanted, hgd, hy, hb]
    rw [hwant]
    cases hb : x.1 with
    | true =>
      rw [if_pos rfl]
      refine .inl ?_
      have hj := hrun hb
      by_cases hc0 : clsOp es i o = 0
      · rw [if_pos hc0] at hj
        refine Oper.wp_mono ?_ ((hj (sAt sc s0 m)).wp G a w Q henv inv.wr)
        rintro a' w' ⟨c, v, σ', G', rfl, hle, hw', hr, rfl, rfl⟩
        exact next hle hw' hr hm (same (by omega))
      · rw [if_neg hc0] at hj
        have hst := inv.store hB hok hl hi ho hc0
        refine Oper.wp_mono ?_ (hj.wp G a w Q henv (by rw [← hst]; exact inv.wr))
        rintro a' w' ⟨c, v, σ', G', rfl, hle, hw', hr, rfl, rfl⟩
        by_cases hc2 : clsOp es i o = 2
        · have hs1 : sAt sc s0 (i + 1) = x.2.2 := by simp only [sAt]; rw [hx]
          exact next (m' := i + 1) hle (by rw [hs1]; exact hw') hr (by omega) (inv.front hB hi ho hc2)
        · refine next hle ?_ hr hm (same hc2)
          rw [hpure hc2, ← hst] at hw'
          exact hw'
    | false =>
      rw [if_neg (by decide)]
      obtain ⟨hv, hs⟩ := hskip hb
      by_cases hc2 : clsOp es i o = 2
      · have hst := inv.store hB hok hl hi ho (by omega)
        have hs1 : sAt sc s0 (i + 1) = x.2.2 := by simp only [sAt]; rw [hx]
        exact next (m' := i + 1) (.refl G) (by rw [hs1, hs, ← hst]; exact inv.wr) (by rw [hv]; exact rep_undef _) (by omega) (inv.front hB hi ho hc2)
      · exact next (.refl G) inv.wr (by rw [hv]; exact rep_undef _) hm (same hc2)

/-- **A region that draws its order.** -/
theorem awp_draw (es : List Nat) {id : Nat} {ops : Array Oper} {K : Exit → Env → Store → Prop} {e : Env} {σ : Store} (hm : P.follows .mixedOrders = true) (hB : orderOk N es ops.toList = true)
    (h : vcD P es ops.toList 0 ops.toList e σ (K .normal)) : AWp P N (.region id ops true) K e σ := by
  intro G0 G a w hg he hw
  obtain ⟨sc, ef, hl, hok, hge, hk⟩ := vcD_script (N := N) (es := es) (ops := ops.toList) (e0 := e) (s0 := σ) ops.toList [] e σ (by simp) (by simp) (fun i o x _ hx => by simp at hx) (fun t => rfl) rfl h
  refine wp_region_any hm ?_
  have hdraw : WRel G σ { w with drawn := w.drawn + 1 } := ⟨hw.len, hw.imm, hw.objs, hw.inj, hw.frame, hw.sz, hw.os, hw.tape, hw.output, hw.marks, hw.grew, hw.globs⟩
  have hz : ∀ i, (Array.replicate ops.size false).getD i false = false := fun i => by
    rcases Nat.lt_or_ge i ops.size with h | h
    · simp [h]
    · simp [h]
  have inv : DInv P N es ops.toList e σ sc G0 (Array.replicate ops.size false) a { w with drawn := w.drawn + 1 } G 0 :=
    ⟨hg, by simp, fun i o _ hi => (by simp only [hz] at hi; cases hi), he.1, he.2.1, fun t x hx _ => he.2.2 t x hx, fun i o x t _ _ hi => (by rw [hz] at hi; cases hi), hdraw, fun i o _ _ => by simp only [hz]; simp⟩
  have := wpAny_script (Q := Conc G0 N K) hB hok hl (fun G a w hg he' hw => ⟨G, ef, _, hg, ⟨he'.1, he'.2.1, fun t x hx => he'.2.2 t x (by rw [← hge t]; exact hx)⟩, hw, hk⟩)
    ops.size (List.range ops.toList.length) _ _ _ G 0 (by simp) (fun i hi _ => List.mem_range.2 hi) inv (by simp)
  simpa using this
end

end Go.Pa
