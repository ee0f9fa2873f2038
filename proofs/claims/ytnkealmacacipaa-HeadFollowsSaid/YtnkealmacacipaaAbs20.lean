/-
  Regions that draw their order: the steps of the reckoning, as equations.
-/
import Derived.Test.YtnkealmacacipaaAbs19
namespace Go.Pa
set_option linter.unusedSectionVars false
variable [GTab]
variable {P : Program} {N : Nat}

/-- One answer. -/
def Det (F : (AV → Store → Prop) → Prop) : Prop := ∀ K, F K → ∃ v s', F (fun r s1 => r = v ∧ s1 = s') ∧ K v s'

theorem det_load (t : TypeId) (x : AV) (s : Store) : ∀ K, vcLoad P t x s K → ∃ v, vcLoad P t x s (fun r s1 => r = v ∧ s1 = s) ∧ K v s := by
  intro K h
  unfold vcLoad at h ⊢
  split at h
  · split at h
    · split at h
      · rename_i v hv; exact ⟨v, ⟨rfl, rfl⟩, h⟩
      · exact h.elim
    · exact h.elim
  · split at h
    · split at h
      · rename_i v hv; exact ⟨v, ⟨h.1, h.2.1, h.2.2.1, rfl, rfl⟩, h.2.2.2⟩
      · exact h.elim
    · split at h
      · rename_i v hv; exact ⟨v, ⟨h.1, h.2.1, rfl, rfl⟩, h.2.2⟩
      · exact h.elim
    · exact h.elim
  · exact h.elim

theorem det_store (t : TypeId) (x y : AV) (s : Store) : Det (vcStore P t x y s) := by
  intro K h
  unfold vcStore at h ⊢
  split at h
  · split at h
    · exact ⟨_, _, ⟨h.1, h.2.1, h.2.2.1, rfl, rfl⟩, h.2.2.2⟩
    · exact h.elim
  · split at h
    · exact ⟨_, _, ⟨h.1, h.2.1, h.2.2.1, h.2.2.2.1, h.2.2.2.2.1, rfl, rfl⟩, h.2.2.2.2.2⟩
    · exact ⟨_, _, ⟨h.1, h.2.1, h.2.2.1, h.2.2.2.1, h.2.2.2.2.1, rfl, rfl⟩, h.2.2.2.2.2⟩
    · exact h.elim
  · exact h.elim

theorem det_make (t : TypeId) (x y : AV) (s : Store) : Det (vcMake P t x y s) := by
  intro K h
  unfold vcMake at h ⊢
  split at h
  · obtain ⟨h1, h2, h3, h4, h5⟩ := h
    split at h5
    · rename_i hz; exact ⟨_, _, ⟨h1, h2, h3, h4, h5.1, rfl, rfl⟩, h5.2⟩
    · rename_i hn hz
      exact ⟨_, _, ⟨h1, h2, h3, h4, rfl, rfl⟩, h5⟩
    · exact h5.elim
  · exact h.elim

theorem det_two {p : Prop} [Decidable p] {a b : AV} {c d : Store} {q : Prop} {K : AV → Store → Prop} (h : (p → K a c) ∧ (¬ p → q ∧ K b d)) :
    ∃ v s', ((p → a = v ∧ c = s') ∧ (¬ p → q ∧ b = v ∧ d = s')) ∧ K v s' := by
  by_cases hp : p
  · exact ⟨a, c, ⟨fun _ => ⟨rfl, rfl⟩, fun hn => absurd hp hn⟩, h.1 hp⟩
  · exact ⟨b, d, ⟨fun hn => absurd hn hp, fun _ => ⟨(h.2 hp).1, rfl, rfl⟩⟩, (h.2 hp).2⟩

theorem det_append (t : TypeId) (x y : AV) (s : Store) : Det (vcAppend P t x y s) := by
  classical
  intro K h
  unfold vcAppend at h ⊢
  split at h
  · obtain ⟨h1, h2⟩ := h
    split at h2
    · exact ⟨_, _, ⟨h1, rfl, rfl⟩, h2⟩
    · exact ⟨_, _, ⟨h1, rfl, rfl⟩, h2⟩
    · obtain ⟨v, s', q1, q2⟩ := det_two h2.2; exact ⟨v, s', ⟨h1, h2.1, q1⟩, q2⟩
    · obtain ⟨v, s', q1, q2⟩ := det_two h2.2; exact ⟨v, s', ⟨h1, h2.1, q1⟩, q2⟩
    · obtain ⟨v, s', q1, q2⟩ := det_two h2.2.2; exact ⟨v, s', ⟨h1, h2.1, h2.2.1, q1⟩, q2⟩
    · obtain ⟨v, s', q1, q2⟩ := det_two h2.2.2; exact ⟨v, s', ⟨h1, h2.1, h2.2.1, q1⟩, q2⟩
    · split at h2
      · rename_i hs; exact ⟨_, _, ⟨h1, rfl, rfl⟩, h2⟩
      · rename_i hs
        obtain ⟨v, s', q1, q2⟩ := det_two h2.2.2.2.2
        refine ⟨v, s', ⟨h1, ?_⟩, q2⟩
        exact ⟨h2.1, h2.2.1, h2.2.2.1, h2.2.2.2.1, q1⟩
      · rename_i hs
        obtain ⟨v, s', q1, q2⟩ := det_two h2.2.2.2.2.2
        refine ⟨v, s', ⟨h1, ?_⟩, q2⟩
        exact ⟨h2.1, h2.2.1, h2.2.2.1, h2.2.2.2.1, h2.2.2.2.2.1, q1⟩
      · exact h2.elim
    · exact h2.elim
  · exact h.elim

/-- A call's answer. -/
def dCall (P : Program) (c : Nat) (g : FuncId) (args : List AV) (s : Store) (K : AV → Store → Prop) : Prop :=
  ∃ v s', ACalls P g args s (fun r s1 => r = v ∧ s1 = s') ∧ (c = 2 ∨ (c = 1 ∧ s' = s)) ∧ K v s'

theorem dCall_of {c : Nat} {g : FuncId} {args : List AV} {s : Store} {K : AV → Store → Prop} {v : AV} (h : ACalls P g args s (fun r s1 => r = v ∧ s1 = s)) (hc : c = 2 ∨ c = 1) (hk : K v s) : dCall P c g args s K :=
  ⟨v, s, h, hc.imp id (fun h => ⟨h, rfl⟩), hk⟩
theorem dCall_of2 {g : FuncId} {args : List AV} {s s' : Store} {K : AV → Store → Prop} {v : AV} (h : ACalls P g args s (fun r s1 => r = v ∧ s1 = s')) (hk : K v s') : dCall P 2 g args s K := ⟨v, s', h, .inl rfl, hk⟩

def outA (s : Store) (K : AV → Store → Prop) : ERA → Prop
  | .val v => K v s
  | .need p v => p ∧ K v s
  | .no => False

def callA (P : Program) (c : Nat) (as : List AV) (s : Store) (K : AV → Store → Prop) : AV → Prop
  | .fn g fs cs => dCall P c g (fs ++ as ++ cs) s K
  | _ => False

/-- One operation. -/
def dOp (P : Program) (c : Nat) (e : Env) (s : Store) (K : AV → Store → Prop) : Op → Prop
  | .call { callee := .value f, args := xs, argTypes := _ } => callA P c (xs.toList.map (evO e)) s K (evO e f)
  | .load t x => match c with
    | 0 => outA s K (evA P e (.load t x))
    | _ => outV P e s K (.load t x) (evA P e (.load t x))
  | .convert a b x => match c with
    | 0 => outA s K (evA P e (.convert a b x))
    | 1 => outV P e s K (.convert a b x) (evA P e (.convert a b x))
    | 2 => outV P e s K (.convert a b x) (evA P e (.convert a b x))
    | _ => False
  | op => match c with
    | 0 => outA s K (evA P e op)
    | 2 => outV P e s K op (evA P e op)
    | _ => False

theorem det_conv (src dst : TypeId) (x : AV) (s : Store) (K : AV → Store → Prop) (h : convA P src dst x s fun v => K v s) : ∃ v, (convA P src dst x s fun r => r = v ∧ s = s) ∧ K v s := by
  unfold convA at h ⊢
  split at h
  · obtain ⟨h3, h⟩ := h
    split at h
    · obtain ⟨h4, h5, h6, hR⟩ := h
      exact ⟨_, ⟨h3, h4, h5, h6, rfl, rfl⟩, hR⟩
    · exact h.elim
  · exact h.elim

theorem det_out (e : Env) (s : Store) (op : Op) (hn : ∀ f xs ts, op ≠ .call { callee := .value f, args := xs, argTypes := ts }) : Det fun K => outV P e s K op (evA P e op) := by
  intro K h
  cases hA : evA P e op with
  | val v => rw [hA] at h; exact ⟨v, s, ⟨rfl, rfl⟩, h⟩
  | need p v => rw [hA] at h; exact ⟨v, s, ⟨h.1, rfl, rfl⟩, h.2⟩
  | no =>
    rw [hA] at h
    simp only [outV_no] at h ⊢
    unfold vcS at h ⊢
    split at h
    · split at h
      · rename_i hz; exact ⟨_, _, ⟨h.1, rfl, rfl⟩, h.2⟩
      · exact h.elim
    · split at h
      · rename_i hz; exact ⟨_, _, ⟨rfl, rfl⟩, h⟩
      · exact h.elim
    · obtain ⟨v, h1, h2⟩ := det_load _ _ _ K h; exact ⟨v, s, h1, h2⟩
    · exact det_store _ _ _ _ K h
    · exact det_make _ _ _ _ K h
    · split at h
      · rename_i hts hxs
        obtain ⟨v, s', h1, h2⟩ := det_append _ _ _ _ K h.2
        exact ⟨v, s', ⟨h.1, h1⟩, h2⟩
      · exact h.elim
    · exact absurd rfl (hn _ _ _)
    · obtain ⟨v, h1, h2⟩ := det_conv _ _ _ _ _ h; exact ⟨v, s, h1, h2⟩
    · exact h.elim

theorem clsOp_lt (es : List Nat) (i : Nat) (o : Oper) : clsOp es i o < 3 := by
  unfold clsOp
  split
  · omega
  · split
    · omega
    · split
      · omega
      · split <;> omega

theorem dOp_sound {es : List Nat} {i : Nat} {e : Env} {s : Store} {o : Oper} {K : AV → Store → Prop} (h : dOp P (clsOp es i o) e s K o.op) : vcD1 P (clsOp es i o) e s o K := by
  have hlt := clsOp_lt es i o
  obtain ⟨d, op, ty, pos, af, gd⟩ := o
  simp only at h
  unfold dOp at h
  split at h
  · rename_i f xs ts
    cases hf : evO e f with
    | fn g fs cs =>
      rw [hf] at h
      obtain ⟨v, s', h1, h2, h3⟩ := h
      have hop : vcOp P e s (fun r s1 => r = v ∧ s1 = s') (.call { callee := .value f, args := xs, argTypes := ts }) := by
        rw [vcOp_out]
        simp only [evA, outV_no, vcS, hf]
        exact h1
      rcases h2 with h2 | ⟨h2, rfl⟩
      · rw [h2]; exact ⟨v, s', hop, h3⟩
      · rw [h2]; exact ⟨v, hop, h3⟩
    | _ => rw [hf] at h; exact h.elim
  · rename_i t x
    generalize clsOp es i ⟨d, .load t x, ty, pos, af, gd⟩ = c at h hlt ⊢
    have main : outV P e s K (.load t x) (evA P e (.load t x)) → ∃ v, vcOp P e s (fun r s1 => r = v ∧ s1 = s) (.load t x) ∧ K v s := by
      intro h
      cases hA : evA P e (.load t x) with
      | val v => rw [hA] at h; exact ⟨v, by rw [vcOp_out, hA]; exact ⟨rfl, rfl⟩, h⟩
      | need p v => rw [hA] at h; exact ⟨v, by rw [vcOp_out, hA]; exact ⟨h.1, rfl, rfl⟩, h.2⟩
      | no =>
        rw [hA] at h
        simp only [outV_no, vcS] at h
        obtain ⟨v, h1, h2⟩ := det_load _ _ _ K h
        exact ⟨v, by rw [vcOp_out, hA]; simp only [outV_no, vcS]; exact h1, h2⟩
    match c, h with
    | 0, h =>
      simp only [vcD1, vcA]
      cases hA : evA P e (.load t x) with
      | val v => simp only [hA] at h; exact h
      | need p v => simp only [hA] at h; exact h
      | no => simp only [hA] at h; exact h
    | 1, h => exact main h
    | 2, h => obtain ⟨v, h1, h2⟩ := main h; exact ⟨v, s, h1, h2⟩
    | (n + 3), h => omega
  · rename_i src dst x
    generalize clsOp es i ⟨d, .convert src dst x, ty, pos, af, gd⟩ = c at h ⊢
    have main : outV P e s K (.convert src dst x) (evA P e (.convert src dst x)) → ∃ v, vcOp P e s (fun r s1 => r = v ∧ s1 = s) (.convert src dst x) ∧ K v s := by
      intro h
      cases hA : evA P e (.convert src dst x) with
      | val v => rw [hA] at h; exact ⟨v, by rw [vcOp_out, hA]; exact ⟨rfl, rfl⟩, h⟩
      | need p v => rw [hA] at h; exact ⟨v, by rw [vcOp_out, hA]; exact ⟨h.1, rfl, rfl⟩, h.2⟩
      | no =>
        rw [hA] at h
        simp only [outV_no, vcS] at h
        obtain ⟨v, h1, h2⟩ := det_conv _ _ _ _ _ h
        exact ⟨v, by rw [vcOp_out, hA]; simp only [outV_no, vcS]; simpa using h1, h2⟩
    match c, h with
    | 0, h =>
      simp only [vcD1, vcA]
      cases hA : evA P e (.convert src dst x) with
      | val v => simp only [hA] at h; exact h
      | need p v => simp only [hA] at h; exact h
      | no => simp only [hA] at h; exact h
    | 1, h => exact main h
    | 2, h => obtain ⟨v, h1, h2⟩ := main h; exact ⟨v, s, h1, h2⟩
    | (n + 3), h => exact h.elim
  · rename_i hn _ _
    split at h
    · rename_i hc
      rw [hc]
      simp only [vcD1, vcA]
      cases hA : evA P e op with
      | val v => rw [hA] at h; exact h
      | need p v => rw [hA] at h; exact h
      | no => rw [hA] at h; exact h
    · rename_i hc
      rw [hc]
      simp only [vcD1]
      obtain ⟨v, s', h1, h2⟩ := det_out e s op (fun f xs ts he => hn f xs ts he) K h
      exact ⟨v, s', by rw [vcOp_out]; exact h1, h2⟩
    · exact h.elim

/-- The operations of a region that draws its order. -/
def vcE (P : Program) (es : List Nat) (all : List Oper) : Nat → List Oper → Env → Store → (Env → Store → Prop) → Prop
  | _, [], e, s, K => K e s
  | i, o :: os, e, s, K =>
    match o.guard with
    | none => dOp P (clsOp es i o) e s (fun v s' => vcE P es all (i + 1) os (e.put o.dst v) s' K) o.op
    | some (j, want) => match (all[j]?).bind (·.dst) with
      | none => False
      | some t => match e.get t with
        | some (.bool c) => (c = want → dOp P (clsOp es i o) ((t, .bool want) :: e) s (fun v s' => vcE P es all (i + 1) os (Env.put ((t, .bool want) :: e) o.dst v) s' K) o.op) ∧
            (c = (!want) → vcE P es all (i + 1) os (Env.put ((t, .bool (!want)) :: e) o.dst (.tup [])) s K)
        | some (.tup []) => vcE P es all (i + 1) os (e.put o.dst (.tup [])) s K
        | _ => False

theorem vcD1_mono {c : Nat} {e : Env} {s : Store} {o : Oper} {K K' : AV → Store → Prop} (h : vcD1 P c e s o K) (hk : ∀ v s, K v s → K' v s) : vcD1 P c e s o K' := by
  unfold vcD1 at h ⊢
  split at h
  · unfold vcA at h ⊢
    split at h
    · exact hk _ _ h
    · exact ⟨h.1, hk _ _ h.2⟩
    · exact h
  · obtain ⟨v, h1, h2⟩ := h; exact ⟨v, h1, hk _ _ h2⟩
  · obtain ⟨v, s', h1, h2⟩ := h; exact ⟨v, s', h1, hk _ _ h2⟩
  · exact h

theorem vcE_sound {es : List Nat} {all : List Oper} {K : Env → Store → Prop} : ∀ {os : List Oper} {i : Nat} {e : Env} {s : Store}, vcE P es all i os e s K → vcD P es all i os e s K
  | [], _, _, _, h => h
  | o :: os, i, e, s, h => by
    unfold vcE at h
    unfold vcD
    cases hg : o.guard with
    | none =>
      simp only [hg] at h ⊢
      exact vcD1_mono (dOp_sound h) fun _ _ => vcE_sound
    | some jw =>
      obtain ⟨j, want⟩ := jw
      simp only [hg] at h ⊢
      split at h
      · exact h.elim
      · rename_i ht
        simp only [ht]
        split at h
        · rename_i hc
          simp only [hc]
          exact ⟨fun h1 => vcD1_mono (dOp_sound (h.1 h1)) fun _ _ => vcE_sound, fun h1 => vcE_sound (h.2 h1)⟩
        · rename_i hc
          simp only [hc]
          exact vcE_sound h
        · exact h.elim

theorem awp_draws (es : List Nat) {id : Nat} {l : List Oper} {K : Exit → Env → Store → Prop} {e : Env} {σ : Store} (hm : P.follows .mixedOrders = true) (hB : orderOk N es l = true)
    (h : vcE P es l 0 l e σ (K .normal)) : AWp P N (.region id l.toArray true) K e σ :=
  awp_draw es hm (by simpa using hB) (by simpa using vcE_sound h)

/-! ### Equations -/

def cl (es : List Nat) (i : Nat) (op : Op) : Nat :=
  if es.contains i then 2 else if es.contains (i + 100000) then 1 else if es.contains (i + 200000) then 0 else match op with
    | .load .. => 1
    | .call { callee := .value _, .. } => 1
    | .lookup .. => 1
    | _ => 0

def dK (P : Program) (es : List Nat) (all : List Oper) (i : Nat) (os : List Oper) (d : Option Tmp) (e : Env) (K : Env → Store → Prop) : AV → Store → Prop := fun v s' => vcE P es all (i + 1) os (e.put d v) s' K

theorem dK_run (es : List Nat) (all : List Oper) (i : Nat) (os : List Oper) (d : Tmp) (e : Env) (K : Env → Store → Prop) (v : AV) (s : Store) : dK P es all i os (some d) e K v s = vcE P es all (i + 1) os ((d, v) :: e) s K := rfl
theorem dK_none (es : List Nat) (all : List Oper) (i : Nat) (os : List Oper) (e : Env) (K : Env → Store → Prop) (v : AV) (s : Store) : dK P es all i os none e K v s = vcE P es all (i + 1) os e s K := rfl
theorem vcE_nil (es : List Nat) (all : List Oper) (i : Nat) (e : Env) (s : Store) (K : Env → Store → Prop) : vcE P es all i [] e s K = K e s := rfl
theorem vcE_cons (es : List Nat) (all os : List Oper) (i : Nat) (d : Option Tmp) (op : Op) (ty : TypeId) (pos : String) (af : Array Edge) (e : Env) (s : Store) (K : Env → Store → Prop) :
    vcE P es all i (⟨d, op, ty, pos, af, none⟩ :: os) e s K = dOp P (cl es i op) e s (dK P es all i os d e K) op := rfl
def guardD (P : Program) (es : List Nat) (all os : List Oper) (i : Nat) (d : Option Tmp) (op : Op) (want : Bool) (e : Env) (s : Store) (K : Env → Store → Prop) (t : Tmp) : AV → Prop
  | .bool c => (c = want → dOp P (cl es i op) ((t, .bool want) :: e) s (dK P es all i os d ((t, .bool want) :: e) K) op) ∧ (c = (!want) → vcE P es all (i + 1) os (Env.put ((t, .bool (!want)) :: e) d (.tup [])) s K)
  | .tup [] => vcE P es all (i + 1) os (Env.put e d (.tup [])) s K
  | _ => False
theorem vcE_guard (es : List Nat) (all os : List Oper) (i : Nat) (d : Option Tmp) (op : Op) (ty : TypeId) (pos : String) (af : Array Edge) (j : Nat) (want : Bool) (e : Env) (s : Store) (K : Env → Store → Prop) (t : Tmp) (ht : (all[j]?).bind (·.dst) = some t) :
    vcE P es all i (⟨d, op, ty, pos, af, some (j, want)⟩ :: os) e s K = guardD P es all os i d op want e s K t (lookA e t) := by
  unfold vcE guardD
  simp only [ht]
  rw [← lookA_get]
  cases hg : e.get t with
  | none => rfl
  | some x =>
    cases x with
    | tup l => cases l <;> rfl
    | _ => rfl
theorem guardD_und (es : List Nat) (all os : List Oper) (i : Nat) (d : Option Tmp) (op : Op) (want : Bool) (e : Env) (s : Store) (K : Env → Store → Prop) (t : Tmp) :
    guardD P es all os i d op want e s K t (.tup []) = vcE P es all (i + 1) os (Env.put e d (.tup [])) s K := rfl
theorem guardD_bool (es : List Nat) (all os : List Oper) (i : Nat) (d : Option Tmp) (op : Op) (want : Bool) (e : Env) (s : Store) (K : Env → Store → Prop) (t : Tmp) (c : Bool) :
    guardD P es all os i d op want e s K t (.bool c) = ((c = want → dOp P (cl es i op) ((t, .bool want) :: e) s (dK P es all i os d ((t, .bool want) :: e) K) op) ∧ (c = (!want) → vcE P es all (i + 1) os (Env.put ((t, .bool (!want)) :: e) d (.tup [])) s K)) := rfl
theorem guardD_same (es : List Nat) (all os : List Oper) (i : Nat) (d : Option Tmp) (op : Op) (e : Env) (s : Store) (K : Env → Store → Prop) (t : Tmp) (b : Bool) :
    guardD P es all os i d op b e s K t (.bool b) = dOp P (cl es i op) ((t, .bool b) :: e) s (dK P es all i os d ((t, .bool b) :: e) K) op := by
  cases b <;> simp [guardD]
theorem guardD_tf (es : List Nat) (all os : List Oper) (i : Nat) (d : Option Tmp) (op : Op) (e : Env) (s : Store) (K : Env → Store → Prop) (t : Tmp) :
    guardD P es all os i d op true e s K t (.bool false) = vcE P es all (i + 1) os (Env.put ((t, .bool false) :: e) d (.tup [])) s K := by simp [guardD]
theorem guardD_ft (es : List Nat) (all os : List Oper) (i : Nat) (d : Option Tmp) (op : Op) (e : Env) (s : Store) (K : Env → Store → Prop) (t : Tmp) :
    guardD P es all os i d op false e s K t (.bool true) = vcE P es all (i + 1) os (Env.put ((t, .bool true) :: e) d (.tup [])) s K := by simp [guardD]

theorem dOp_call (c : Nat) (e : Env) (s : Store) (K : AV → Store → Prop) (f : Operand) (xs : Array Operand) (ts : Array TypeId) : dOp P c e s K (.call { callee := .value f, args := xs, argTypes := ts }) = callA P c (xs.toList.map (evO e)) s K (evO e f) := rfl
theorem callA_fn (c : Nat) (as : List AV) (s : Store) (K : AV → Store → Prop) (g : FuncId) (fs cs : List AV) : callA P c as s K (.fn g fs cs) = dCall P c g (fs ++ as ++ cs) s K := rfl
theorem outA_val (s : Store) (K : AV → Store → Prop) (v : AV) : outA s K (.val v) = K v s := rfl
theorem outA_need (s : Store) (K : AV → Store → Prop) (p : Prop) (v : AV) : outA s K (.need p v) = (p ∧ K v s) := rfl

/-- The temporary that an operation writes. -/
def dstAt : List Oper → Nat → Option Tmp
  | [], _ => none
  | o :: _, 0 => o.dst
  | _ :: os, j + 1 => dstAt os j
theorem dstAt_eq : ∀ (l : List Oper) (j : Nat), (l[j]?).bind (·.dst) = dstAt l j
  | [], j => by simp [dstAt]
  | o :: _, 0 => by simp [dstAt]
  | o :: os, j + 1 => by simp [dstAt, dstAt_eq os j]

def guardM (P : Program) (all os : List Oper) (d : Option Tmp) (op : Op) (want : Bool) (e : Env) (s : Store) (K : Env → Store → Prop) : Option Tmp → Prop
  | none => False
  | some t => guardV P all os d op want e s K t (lookA e t)
theorem guardM_some (all os : List Oper) (d : Option Tmp) (op : Op) (want : Bool) (e : Env) (s : Store) (K : Env → Store → Prop) (t : Tmp) : guardM P all os d op want e s K (some t) = guardV P all os d op want e s K t (lookA e t) := rfl
theorem vcOps_guardM (all os : List Oper) (d : Option Tmp) (op : Op) (ty : TypeId) (pos : String) (af : Array Edge) (j : Nat) (want : Bool) (e : Env) (s : Store) (K : Env → Store → Prop) :
    vcOps P all (⟨d, op, ty, pos, af, some (j, want)⟩ :: os) e s K = guardM P all os d op want e s K (dstAt all j) := by
  rw [← dstAt_eq]
  cases ht : (all[j]?).bind (·.dst) with
  | none => unfold vcOps guardM; simp only [ht]
  | some t => rw [vcOps_guard all os d op ty pos af j want e s K t ht]; rfl
def guardME (P : Program) (es : List Nat) (all os : List Oper) (i : Nat) (d : Option Tmp) (op : Op) (want : Bool) (e : Env) (s : Store) (K : Env → Store → Prop) : Option Tmp → Prop
  | none => False
  | some t => guardD P es all os i d op want e s K t (lookA e t)
theorem guardME_some (es : List Nat) (all os : List Oper) (i : Nat) (d : Option Tmp) (op : Op) (want : Bool) (e : Env) (s : Store) (K : Env → Store → Prop) (t : Tmp) : guardME P es all os i d op want e s K (some t) = guardD P es all os i d op want e s K t (lookA e t) := rfl
theorem vcE_guardM (es : List Nat) (all os : List Oper) (i : Nat) (d : Option Tmp) (op : Op) (ty : TypeId) (pos : String) (af : Array Edge) (j : Nat) (want : Bool) (e : Env) (s : Store) (K : Env → Store → Prop) :
    vcE P es all i (⟨d, op, ty, pos, af, some (j, want)⟩ :: os) e s K = guardME P es all os i d op want e s K (dstAt all j) := by
  rw [← dstAt_eq]
  cases ht : (all[j]?).bind (·.dst) with
  | none => unfold vcE guardME; simp only [ht]
  | some t => rw [vcE_guard es all os i d op ty pos af j want e s K t ht]; rfl

end Go.Pa
