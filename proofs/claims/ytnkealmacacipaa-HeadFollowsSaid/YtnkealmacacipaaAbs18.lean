/-
  Regions that draw their order: one walk in the order of the text, with what every operation yields named, serves every order that the edges allow.
-/
import Derived.Test.YtnkealmacacipaaAbs15
namespace Go.Pa
set_option linter.unusedSimpArgs false
set_option linter.unusedVariables false
set_option linter.unusedSectionVars false
variable [GTab]
variable {P : Program}

/-! ### What an operation depends on -/

theorem vcOp_congr {e e' : Env} {s : Store} {R : AV → Store → Prop} {op : Op} (h : ∀ x ∈ op.operands, evO e x = evO e' x) : vcOp P e s R op = vcOp P e' s R op := by
  have pairs : ∀ ps : Array (Nat × Operand), (∀ x ∈ ps.toList.map (·.2), evO e x = evO e' x) →
      (ps.toList.map fun p => (p.1, evO e p.2)) = (ps.toList.map fun p => (p.1, evO e' p.2)) := fun ps hp =>
    List.map_congr_left fun p hm => by rw [hp p.2 (List.mem_map.2 ⟨p, hm, rfl⟩)]
  have hA : evA P e op = evA P e' op := by
    cases op <;> simp only [Op.operands] at h <;> simp only [evA]
    case build t ps => rw [pairs ps fun x hx => h x (by simpa using hx)]
    case buildSlice t n ps => rw [pairs ps fun x hx => h x (by simpa using hx)]
    case makeFunc fn first captured =>
      cases fn <;> simp only [evA]
      rw [List.map_congr_left (l := first.toList) fun x hx => h x (by have hx' : x ∈ first := (by simpa using hx); simp [hx']), List.map_congr_left (l := captured.toList) fun x hx => h x (by have hx' : x ∈ captured := (by simpa using hx); simp [hx'])]
    case call c =>
      obtain ⟨callee, args, ts⟩ := c
      cases callee <;> simp only [evA]
      rw [List.map_congr_left (l := args.toList) fun x hx => h x (by have hx' : x ∈ args := (by simpa using hx); simp [Call.operands, hx'])]
    case slice t x lo hi mx => cases lo <;> cases hi <;> cases mx <;> simp_all
    all_goals (first | rfl | (simp_all; done))
  have hS : vcS P e s R op = vcS P e' s R op := by
    cases op <;> simp only [Op.operands] at h <;> simp only [vcS]
    case call c =>
      obtain ⟨callee, args, ts⟩ := c
      have hargs : args.toList.map (evO e) = args.toList.map (evO e') := List.map_congr_left fun x hx => h x (by have hx' : x ∈ args := (by simpa using hx); simp [Call.operands, hx'])
      cases callee with
      | value f =>
        have hf := h f (by simp [Call.operands])
        simp only [vcS, hargs, hf]
      | invoke r m => simp only [vcS]
      | builtin b =>
        cases b <;> simp only [vcS]
        split
        · rename_i x y _ heq
          have hx : x ∈ args := by
            have : x ∈ args.toList := by simp [heq]
            simpa using this
          have hy : y ∈ args := by
            have : y ∈ args.toList := by simp [heq]
            simpa using this
          rw [h x (by simp [Call.operands, hx]), h y (by simp [Call.operands, hy])]
        · rfl
    all_goals (first | rfl | (simp_all; done))
  unfold vcOp
  rw [hA, hS]

/-- The environment, at the temporaries that an operation looks at. -/
def rst (ops : Array Oper) (o : Oper) (e : Env) : Env := (o.looksAt ops).filterMap fun t => (e.get t).map fun v => (t, v)

theorem rst_get {ops : Array Oper} {o : Oper} {e : Env} {t : Tmp} {v : AV} (h : (rst ops o e).get t = some v) : t ∈ o.looksAt ops ∧ e.get t = some v := by
  unfold rst at h
  generalize o.looksAt ops = l at h
  induction l with
  | nil => simp [Env.get] at h
  | cons u l ih =>
    cases hu : e.get u with
    | none =>
      simp only [List.filterMap_cons, hu, Option.map_none] at h
      exact ⟨List.mem_cons_of_mem _ (ih h).1, (ih h).2⟩
    | some x =>
      simp only [List.filterMap_cons, hu, Option.map_some, Env.get] at h
      split at h
      · rename_i hut; subst hut; cases h; exact ⟨by simp, hu⟩
      · exact ⟨List.mem_cons_of_mem _ (ih h).1, (ih h).2⟩

theorem rst_get_eq {ops : Array Oper} {o : Oper} {e : Env} {t : Tmp} (h : t ∈ o.looksAt ops) : (rst ops o e).get t = e.get t := by
  unfold rst
  generalize o.looksAt ops = l at h
  induction l with
  | nil => cases h
  | cons u l ih =>
    cases hu : e.get u with
    | none =>
      simp only [List.filterMap_cons, hu, Option.map_none]
      rcases List.mem_cons.1 h with rfl | h'
      · by_cases hm : t ∈ l
        · exact ih hm
        · rw [hu]
          clear h ih
          induction l with
          | nil => rfl
          | cons v l ih2 =>
            simp only [List.mem_cons, not_or] at hm
            cases hv : e.get v with
            | none => simp only [List.filterMap_cons, hv, Option.map_none]; exact ih2 hm.2
            | some y => simp only [List.filterMap_cons, hv, Option.map_some, Env.get]; rw [if_neg (Ne.symm hm.1)]; exact ih2 hm.2
      · exact ih h'
    | some x =>
      simp only [List.filterMap_cons, hu, Option.map_some, Env.get]
      by_cases hut : u = t
      · subst hut; rw [if_pos rfl, hu]
      · rw [if_neg hut]
        rcases List.mem_cons.1 h with rfl | h'
        · exact absurd rfl hut
        · exact ih h'

theorem vcOp_rst {ops : Array Oper} {o : Oper} {e : Env} {s : Store} {R : AV → Store → Prop} : vcOp P (rst ops o e) s R o.op = vcOp P e s R o.op := by
  apply vcOp_congr
  intro x hx
  cases x with
  | tmp t =>
    simp only [evO]
    rw [rst_get_eq]
    exact List.mem_append_left _ (List.mem_filterMap.2 ⟨.tmp t, by simpa using hx, rfl⟩)
  | const v => rfl
  | func f => rfl
  | global g => rfl

/-! ### The classes -/

/-- 0: looks at temporaries alone; 1: looks at the store; 2: turns it. -/
def clsOp (es : List Nat) (i : Nat) (o : Oper) : Nat :=
  if es.contains i then 2 else if es.contains (i + 100000) then 1 else if es.contains (i + 200000) then 0 else match o.op with
    | .load .. => 1
    | .call { callee := .value _, .. } => 1
    | .lookup .. => 1
    | _ => 0

/-- What is asked of an operation that looks at temporaries alone. -/
def vcA (P : Program) (e : Env) (op : Op) (R : AV → Prop) : Prop :=
  match evA P e op with
  | .val v => R v
  | .need p v => p ∧ R v
  | .no => False

def vcD1 (P : Program) (c : Nat) (e : Env) (s : Store) (o : Oper) (K : AV → Store → Prop) : Prop :=
  match c with
  | 0 => vcA P e o.op fun v => K v s
  | 1 => ∃ v, vcOp P e s (fun r s1 => r = v ∧ s1 = s) o.op ∧ K v s
  | 2 => ∃ v s', vcOp P e s (fun r s1 => r = v ∧ s1 = s') o.op ∧ K v s'
  | _ => False

/-- The operations of a region that draws its order, walked in the order of the text. -/
def vcD (P : Program) (es : List Nat) (all : List Oper) : Nat → List Oper → Env → Store → (Env → Store → Prop) → Prop
  | _, [], e, s, K => K e s
  | i, o :: os, e, s, K =>
    match o.guard with
    | none => vcD1 P (clsOp es i o) e s o fun v s' => vcD P es all (i + 1) os (e.put o.dst v) s' K
    | some (j, want) => match (all[j]?).bind (·.dst) with
      | none => False
      | some t => match e.get t with
        | some (.bool c) => (c = want → vcD1 P (clsOp es i o) ((t, .bool want) :: e) s o fun v s' => vcD P es all (i + 1) os (Env.put ((t, .bool want) :: e) o.dst v) s' K) ∧
            (c = (!want) → vcD P es all (i + 1) os (Env.put ((t, .bool (!want)) :: e) o.dst (.tup [])) s K)
        | some (.tup []) => vcD P es all (i + 1) os (e.put o.dst (.tup [])) s K
        | _ => False

/-! ### The script -/

abbrev Script := List (Bool × AV × Store)

def eAt (ops : List Oper) (sc : Script) (e0 : Env) : Nat → Env
  | 0 => e0
  | i + 1 => match ops[i]?, sc[i]? with
    | some o, some x => (eAt ops sc e0 i).put o.dst x.2.1
    | _, _ => eAt ops sc e0 i

def sAt (sc : Script) (s0 : Store) : Nat → Store
  | 0 => s0
  | i + 1 => match sc[i]? with
    | some x => x.2.2
    | none => sAt sc s0 i

def StepOk (P : Program) (N : Nat) (es : List Nat) (all : List Oper) (i : Nat) (o : Oper) (e : Env) (s : Store) (b : Bool) (v : AV) (s' : Store) : Prop :=
  (match o.guard with
    | none => b = true
    | some (j, want) => ∃ t, (all[j]?).bind (·.dst) = some t ∧ ((∃ c, e.get t = some (.bool c) ∧ b = (c == want)) ∨ (e.get t = some (.tup []) ∧ b = false))) ∧
  (clsOp es i o ≠ 2 → s' = s) ∧
  (b = false → v = .tup [] ∧ s' = s) ∧
  (b = true → if clsOp es i o = 0 then ∀ σ, OpJ P N o (rst all.toArray o e) σ (fun r s1 => r = v ∧ s1 = σ) else OpJ P N o (rst all.toArray o e) s (fun r s1 => r = v ∧ s1 = s'))

def GetEq (e e' : Env) : Prop := ∀ t, e.get t = e'.get t

theorem GetEq.put {e e' : Env} (h : GetEq e e') (d : Option Tmp) (v : AV) : GetEq (e.put d v) (e'.put d v) := by
  cases d with
  | none => exact h
  | some d => intro t; simp only [Env.put, Env.get]; split <;> first | rfl | exact h t

theorem GetEq.rst {ops : Array Oper} {o : Oper} {e e' : Env} (h : GetEq e e') : rst ops o e = rst ops o e' := by
  unfold Go.Pa.rst
  congr 1
  funext t
  rw [h t]

theorem GetEq.refine {e e' : Env} (h : GetEq e e') {t : Tmp} {c d : Bool} (hc : e.get t = some (.bool c)) (hd : c = d) : GetEq ((t, .bool d) :: e) e' := by
  intro u
  simp only [Env.get]
  split
  · rename_i hu; subst hu; rw [← h t, hc, hd]
  · exact h u

theorem vcD1_step {N c : Nat} {e e' : Env} {s : Store} {o : Oper} {ops : Array Oper} {K : AV → Store → Prop} (h : vcD1 P c e s o K) (he : GetEq e e') :
    ∃ v s', K v s' ∧ (c ≠ 2 → s' = s) ∧ (if c = 0 then ∀ σ, OpJ P N o (rst ops o e') σ (fun r s1 => r = v ∧ s1 = σ) else OpJ P N o (rst ops o e') s (fun r s1 => r = v ∧ s1 = s')) := by
  unfold vcD1 at h
  split at h
  · unfold vcA at h
    split at h
    · rename_i v hv
      refine ⟨v, s, h, fun _ => rfl, ?_⟩
      rw [if_pos rfl]
      intro σ
      rw [← he.rst]
      refine vcOp_sound ?_
      rw [vcOp_rst]
      unfold vcOp
      rw [hv]
      exact ⟨rfl, rfl⟩
    · rename_i p v hv
      refine ⟨v, s, h.2, fun _ => rfl, ?_⟩
      rw [if_pos rfl]
      intro σ
      rw [← he.rst]
      refine vcOp_sound ?_
      rw [vcOp_rst]
      unfold vcOp
      rw [hv]
      exact ⟨h.1, rfl, rfl⟩
    · exact h.elim
  · obtain ⟨v, h1, h2⟩ := h
    refine ⟨v, s, h2, fun _ => rfl, ?_⟩
    rw [if_neg (by decide), ← he.rst]
    exact vcOp_sound (by rw [vcOp_rst]; exact h1)
  · obtain ⟨v, s', h1, h2⟩ := h
    refine ⟨v, s', h2, fun hn => absurd rfl hn, ?_⟩
    rw [if_neg (by decide), ← he.rst]
    exact vcOp_sound (by rw [vcOp_rst]; exact h1)
  · exact h.elim

theorem eAt_append {ops : List Oper} {sc ys : Script} {e0 : Env} : ∀ i, i ≤ sc.length → eAt ops (sc ++ ys) e0 i = eAt ops sc e0 i
  | 0, _ => rfl
  | i + 1, h => by
    simp only [eAt]
    rw [eAt_append i (by omega), List.getElem?_append_left (by omega)]

theorem sAt_append {sc ys : Script} {s0 : Store} : ∀ i, i ≤ sc.length → sAt (sc ++ ys) s0 i = sAt sc s0 i
  | 0, _ => rfl
  | i + 1, h => by
    simp only [sAt]
    rw [sAt_append i (by omega), List.getElem?_append_left (by omega)]

/-- Every step of a script is right. -/
def ScOk (P : Program) (N : Nat) (es : List Nat) (ops : List Oper) (e0 : Env) (s0 : Store) (sc : Script) : Prop :=
  ∀ i o x, ops[i]? = some o → sc[i]? = some x → StepOk P N es ops i o (eAt ops sc e0 i) (sAt sc s0 i) x.1 x.2.1 x.2.2

theorem ScOk.snoc {N : Nat} {es : List Nat} {ops : List Oper} {e0 : Env} {s0 : Store} {sc : Script} (h : ScOk P N es ops e0 s0 sc) {o : Oper} {b : Bool} {v : AV} {s' : Store} (ho : ops[sc.length]? = some o)
    (hs : StepOk P N es ops sc.length o (eAt ops sc e0 sc.length) (sAt sc s0 sc.length) b v s') : ScOk P N es ops e0 s0 (sc ++ [(b, v, s')]) := by
  intro i o' x ho' hx
  rcases Nat.lt_or_ge i sc.length with hi | hi
  · rw [List.getElem?_append_left hi] at hx
    rw [eAt_append i (by omega), sAt_append i (by omega)]
    exact h i o' x ho' hx
  · rw [List.getElem?_append_right hi] at hx
    have hi0 : i = sc.length := by
      have := (List.getElem?_eq_some_iff.1 hx).1
      simp at this
      omega
    subst hi0
    simp at hx
    subst hx
    rw [ho] at ho'
    cases ho'
    rw [eAt_append _ (Nat.le_refl _), sAt_append _ (Nat.le_refl _)]
    exact hs

theorem vcD_script {N : Nat} {es : List Nat} {ops : List Oper} {e0 : Env} {s0 : Store} {K : Env → Store → Prop} : ∀ (os : List Oper) (sc : Script) (e : Env) (s : Store),
    ops.drop sc.length = os → sc.length ≤ ops.length → ScOk P N es ops e0 s0 sc → GetEq e (eAt ops sc e0 sc.length) → s = sAt sc s0 sc.length → vcD P es ops sc.length os e s K →
    ∃ (sc' : Script) (ef : Env), sc'.length = ops.length ∧ ScOk P N es ops e0 s0 sc' ∧ GetEq ef (eAt ops sc' e0 ops.length) ∧ K ef (sAt sc' s0 ops.length)
  | [], sc, e, s, hd, hl, hok, he, hs, h => by
    have hlen : sc.length = ops.length := by
      have := congrArg List.length hd
      simp at this
      omega
    rw [hlen] at he hs
    subst hs
    exact ⟨sc, e, hlen, hok, he, h⟩
  | o :: os, sc, e, s, hd, hl, hok, he, hs, h => by
    have hlt : sc.length < ops.length := by
      have := congrArg List.length hd
      simp at this
      omega
    have ho : ops[sc.length]? = some o := by
      have : (ops.drop sc.length)[0]? = some o := by rw [hd]; rfl
      simpa using this
    have hd' : ops.drop (sc.length + 1) = os := by
      have := congrArg (List.drop 1) hd
      simpa [List.drop_drop, Nat.add_comm] using this
    have go : ∀ {b : Bool} {v : AV} {s' : Store} {e1 : Env}, GetEq e1 (eAt ops sc e0 sc.length) → StepOk P N es ops sc.length o (eAt ops sc e0 sc.length) (sAt sc s0 sc.length) b v s' → vcD P es ops (sc.length + 1) os (e1.put o.dst v) s' K →
        ∃ (sc' : Script) (ef : Env), sc'.length = ops.length ∧ ScOk P N es ops e0 s0 sc' ∧ GetEq ef (eAt ops sc' e0 ops.length) ∧ K ef (sAt sc' s0 ops.length) := by
      intro b v s' e1 he1 hst hv
      have hlen1 : (sc ++ [(b, v, s')]).length = sc.length + 1 := by simp
      refine vcD_script os (sc ++ [(b, v, s')]) (e1.put o.dst v) s' (by rw [hlen1]; exact hd') (by rw [hlen1]; omega) (hok.snoc ho hst) ?_ ?_ (by rw [hlen1]; exact hv)
      · rw [hlen1]
        simp only [eAt]
        rw [ho, List.getElem?_append_right (Nat.le_refl _), eAt_append _ (Nat.le_refl _)]
        simp only [Nat.sub_self, List.getElem?_cons_zero]
        exact he1.put o.dst v
      · rw [hlen1]
        simp only [sAt]
        rw [List.getElem?_append_right (Nat.le_refl _)]
        simp
    unfold vcD at h
    cases hgd : o.guard with
    | none =>
      simp only [hgd] at h
      obtain ⟨v, s', hk, h1, h2⟩ := vcD1_step (N := N) (ops := ops.toArray) h he
      refine go (b := true) (v := v) (s' := s') he ⟨by simp [hgd], fun hc => ?_, fun hb => (by cases hb), fun _ => ?_⟩ hk
      · rw [← hs]; exact h1 hc
      · rw [← hs]; exact h2
    | some jw =>
      obtain ⟨j, want⟩ := jw
      simp only [hgd] at h
      split at h
      · exact h.elim
      · rename_i t ht
        split at h
        · rename_i c hc
          by_cases hcw : c = want
          · obtain ⟨v, s', hk, h1, h2⟩ := vcD1_step (N := N) (ops := ops.toArray) (h.1 hcw) (he.refine hc hcw)
            refine go (b := true) (v := v) (s' := s') (he.refine hc hcw) ⟨?_, fun hc => ?_, fun hb => (by cases hb), fun _ => ?_⟩ hk
            · simp only [hgd]; exact ⟨t, ht, .inl ⟨c, by rw [← he t, hc], by simp [hcw]⟩⟩
            · rw [← hs]; exact h1 hc
            · rw [← hs]; exact h2
          · have hn : c = !want := by cases c <;> cases want <;> simp_all
            refine go (b := false) (v := .tup []) (s' := s) (he.refine hc hn) ⟨?_, fun _ => hs, fun _ => ⟨rfl, hs⟩, fun hb => by cases hb⟩ (h.2 hn)
            simp only [hgd]
            exact ⟨t, ht, .inl ⟨c, by rw [← he t, hc], by rw [hn]; cases want <;> rfl⟩⟩
        · rename_i hc
          refine go (b := false) (v := .tup []) (s' := s) he ⟨?_, fun _ => hs, fun _ => ⟨rfl, hs⟩, fun hb => by cases hb⟩ h
          simp only [hgd]
          exact ⟨t, ht, .inr ⟨by rw [← he t, hc], by simp⟩⟩
        · exact h.elim
end Go.Pa
