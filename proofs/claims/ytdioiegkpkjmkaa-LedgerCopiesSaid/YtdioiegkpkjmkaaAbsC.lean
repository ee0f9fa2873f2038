/-
  Regions that draw their order: the steps of the reckoning, as equations. Plain laws of numbers and lists. Appending to a slice of integers that the function itself has made. Code in a round of a loop over a function: what is asked; soundness. A range over a function: the rule. A range over a function: the rule, joined. What an iterator knows of the world that a round leaves. Words put together by 'or' and by sums are the same. From the contract of a law to its row: arguments that are integers, strings and slices of integers. An own object that will never turn again: from here on it is told of by its content. Appending to an own slice where no maps are about. Slices of rows under construction; nil told as an empty row. At a function's return: an own object is sealed; contents are told of by less. At a function's return: what was laid beside the caller's objects is frozen, some of these have turned.
-/
import Derived.Test.YtdioiegkpkjmkaaAbsB
import Derived.LoopIn
import Derived.ProofKit
import Derived.OpenShut
/-! Regions that draw their order: the steps of the reckoning, as equations. -/
namespace Go.Pa
set_option linter.unusedSectionVars false
variable [GTab]
variable {P : Program} {N : Nat}

/-- One answer. -/
def Det (F : (AV → Store → Prop) → Prop) : Prop := ∀ K, F K → ∃ v s', F (fun r s1 => r = v ∧ s1 = s') ∧ K v s'

theorem det_load (t : TypeId) (x : AV) (s : Store) : ∀ K, vcLoad P t x s K → ∃ v, vcLoad P t x s (fun r s1 => r = v ∧ s1 = s) ∧ K v s := by
  intro K h
  unfold vcLoad at h ⊢
  split at h
  · split at h
    · split at h
      · rename_i v hv; exact ⟨v, ⟨rfl, rfl⟩, h⟩
      · exact h.elim
    · exact h.elim
  · split at h
    · split at h
      · rename_i v hv; exact ⟨v, ⟨h.1, h.2.1, h.2.2.1, rfl, rfl⟩, h.2.2.2⟩
      · exact h.elim
    · split at h
      · rename_i v hv; exact ⟨v, ⟨h.1, h.2.1, rfl, rfl⟩, h.2.2⟩
      · exact h.elim
    · exact h.elim
  · exact h.elim

theorem det_store (t : TypeId) (x y : AV) (s : Store) : Det (vcStore P t x y s) := by
  intro K h
  unfold vcStore at h ⊢
  split at h
  · split at h
    · exact ⟨_, _, ⟨h.1, h.2.1, h.2.2.1, rfl, rfl⟩, h.2.2.2⟩
    · exact h.elim
  · split at h
    · exact ⟨_, _, ⟨h.1, h.2.1, h.2.2.1, h.2.2.2.1, h.2.2.2.2.1, rfl, rfl⟩, h.2.2.2.2.2⟩
    · exact ⟨_, _, ⟨h.1, h.2.1, h.2.2.1, h.2.2.2.1, h.2.2.2.2.1, rfl, rfl⟩, h.2.2.2.2.2⟩
    · exact h.elim
  · exact h.elim

theorem det_make (t : TypeId) (x y : AV) (s : Store) : Det (vcMake P t x y s) := by
  intro K h
  unfold vcMake at h ⊢
  split at h
  · obtain ⟨h1, h2, h3, h4, h5⟩ := h
    split at h5
    · rename_i hz; exact ⟨_, _, ⟨h1, h2, h3, h4, h5.1, rfl, rfl⟩, h5.2⟩
    · rename_i hn hz
      exact ⟨_, _, ⟨h1, h2, h3, h4, rfl, rfl⟩, h5⟩
    · exact h5.elim
  · exact h.elim

theorem det_two {p : Prop} [Decidable p] {a b : AV} {c d : Store} {q : Prop} {K : AV → Store → Prop} (h : (p → K a c) ∧ (¬ p → q ∧ K b d)) :
    ∃ v s', ((p → a = v ∧ c = s') ∧ (¬ p → q ∧ b = v ∧ d = s')) ∧ K v s' := by
  by_cases hp : p
  · exact ⟨a, c, ⟨fun _ => ⟨rfl, rfl⟩, fun hn => absurd hp hn⟩, h.1 hp⟩
  · exact ⟨b, d, ⟨fun hn => absurd hn hp, fun _ => ⟨(h.2 hp).1, rfl, rfl⟩⟩, (h.2 hp).2⟩

theorem det_append (t : TypeId) (x y : AV) (s : Store) : Det (vcAppend P t x y s) := by
  classical
  intro K h
  unfold vcAppend at h ⊢
  split at h
  · obtain ⟨h1, h2⟩ := h
    split at h2
    · exact ⟨_, _, ⟨h1, rfl, rfl⟩, h2⟩
    · exact ⟨_, _, ⟨h1, rfl, rfl⟩, h2⟩
    · obtain ⟨v, s', q1, q2⟩ := det_two h2.2; exact ⟨v, s', ⟨h1, h2.1, q1⟩, q2⟩
    · obtain ⟨v, s', q1, q2⟩ := det_two h2.2; exact ⟨v, s', ⟨h1, h2.1, q1⟩, q2⟩
    · obtain ⟨v, s', q1, q2⟩ := det_two h2.2.2; exact ⟨v, s', ⟨h1, h2.1, h2.2.1, q1⟩, q2⟩
    · obtain ⟨v, s', q1, q2⟩ := det_two h2.2.2; exact ⟨v, s', ⟨h1, h2.1, h2.2.1, q1⟩, q2⟩
    · split at h2
      · rename_i hs; exact ⟨_, _, ⟨h1, rfl, rfl⟩, h2⟩
      · rename_i hs
        obtain ⟨v, s', q1, q2⟩ := det_two h2.2.2.2.2
        refine ⟨v, s', ⟨h1, ?_⟩, q2⟩
        exact ⟨h2.1, h2.2.1, h2.2.2.1, h2.2.2.2.1, q1⟩
      · rename_i hs
        obtain ⟨v, s', q1, q2⟩ := det_two h2.2.2.2.2.2
        refine ⟨v, s', ⟨h1, ?_⟩, q2⟩
        exact ⟨h2.1, h2.2.1, h2.2.2.1, h2.2.2.2.1, h2.2.2.2.2.1, q1⟩
      · exact h2.elim
    · exact h2.elim
  · exact h.elim

theorem det_put (t : TypeId) (x k y : AV) (s : Store) : Det (vcPut P t x k y s) := by
  intro K h
  unfold vcPut at h ⊢
  split at h
  · split at h
    · exact ⟨_, _, ⟨h.1, h.2.1, h.2.2.1, rfl, rfl⟩, h.2.2.2⟩
    · exact ⟨_, _, ⟨h.1, h.2.1, h.2.2.1, h.2.2.2.1, h.2.2.2.2.1, rfl, rfl⟩, h.2.2.2.2.2⟩
    · exact h.elim
  · exact h.elim

theorem det_ent (t : TypeId) (x k : AV) (s : Store) : Det (vcEnt P t x k s) := by
  intro K h
  unfold vcEnt at h ⊢
  split at h
  · split at h
    · exact ⟨_, _, ⟨h.1, h.2.1, h.2.2.1, rfl, rfl⟩, h.2.2.2⟩
    · exact h.elim
  · exact h.elim

theorem det_est (x st y : AV) (s : Store) : Det (vcESt x st y s) := by
  intro K h
  unfold vcESt at h ⊢
  split at h
  · split at h
    · split at h
      · exact ⟨_, _, ⟨rfl, rfl⟩, h⟩
      · exact h.elim
    · exact h.elim
  · exact h.elim

theorem det_mlen (x : AV) (s : Store) : Det (vcMLen x s) := by
  intro K h
  unfold vcMLen at h ⊢
  split at h
  · split at h
    · exact ⟨_, _, ⟨rfl, rfl⟩, h⟩
    · exact h.elim
  · exact h.elim

theorem det_del (t : TypeId) (x k : AV) (s : Store) : Det (vcDel P t x k s) := by
  intro K h
  unfold vcDel at h ⊢
  split at h
  · split at h
    · exact ⟨_, _, ⟨h.1, h.2.1, h.2.2.1, rfl, rfl⟩, h.2.2.2⟩
    · exact h.elim
  · exact h.elim

theorem det_clear (t : TypeId) (x : AV) (s : Store) : Det (vcClear P t x s) := by
  intro K h
  unfold vcClear at h ⊢
  split at h
  · split at h
    · exact ⟨_, _, ⟨h.1, h.2.1, rfl, rfl⟩, h.2.2⟩
    · exact h.elim
  · exact h.elim

/-- m[k], in a region that draws its order: of a map of which all is known. -/
def vcLookD (P : Program) (t : TypeId) (x k : AV) (c : Bool) (s : Store) (R : AV → Store → Prop) : Prop :=
  match P.underlying t, x with
  | some (.map kt et), .mp id => match s[id]?, zeroV P et with
    | some (.mp (.kv l _)), some z => Maps.Keyed P kt ∧ keyOkA P kt k ∧ (∀ p ∈ l, keyOkA P kt p.1) ∧ R (lookA1 c z (lookKV l k)) s
    | _, _ => False
  | _, _ => False

theorem det_look (t : TypeId) (x k : AV) (c : Bool) (s : Store) (K : AV → Store → Prop) (h : vcLookD P t x k c s K) : ∃ v, vcLook P t x k c s (fun r s1 => r = v ∧ s1 = s) ∧ K v s := by
  unfold vcLookD at h
  split at h
  · rename_i kt et id hd
    split at h
    · rename_i l cl z hs hz
      exact ⟨lookA1 c z (lookKV l k), by unfold vcLook; rw [hd]; dsimp only; rw [hs, hz]; exact ⟨h.1, h.2.1, h.2.2.1, rfl, rfl⟩, h.2.2.2⟩
    · exact h.elim
  · exact h.elim

/-- A call's answer. -/
def dCall (P : Program) (c : Nat) (g : FuncId) (args : List AV) (s : Store) (K : AV → Store → Prop) : Prop :=
  (∃ v s', ACalls P g args s (fun r s1 => r = v ∧ s1 = s') ∧ (c = 2 ∨ (c = 1 ∧ s' = s)) ∧ K v s') ∨ (c = 0 ∧ ∃ v, (∀ σ, ACalls P g args σ (fun r s1 => r = v ∧ s1 = σ)) ∧ K v s)

theorem dCall_of {c : Nat} {g : FuncId} {args : List AV} {s : Store} {K : AV → Store → Prop} {v : AV} (h : ACalls P g args s (fun r s1 => r = v ∧ s1 = s)) (hc : c = 2 ∨ c = 1) (hk : K v s) : dCall P c g args s K :=
  .inl ⟨v, s, h, hc.imp id (fun h => ⟨h, rfl⟩), hk⟩
/-- A call whose answer hangs on its arguments alone. -/
theorem dCall_of0 {g : FuncId} {args : List AV} {s : Store} {K : AV → Store → Prop} {v : AV} (h : ∀ σ, ACalls P g args σ (fun r s1 => r = v ∧ s1 = σ)) (hk : K v s) : dCall P 0 g args s K := .inr ⟨rfl, v, h, hk⟩
theorem dCall_of2 {g : FuncId} {args : List AV} {s s' : Store} {K : AV → Store → Prop} {v : AV} (h : ACalls P g args s (fun r s1 => r = v ∧ s1 = s')) (hk : K v s') : dCall P 2 g args s K := .inl ⟨v, s', h, .inl rfl, hk⟩

def outA (s : Store) (K : AV → Store → Prop) : ERA → Prop
  | .val v => K v s
  | .need p v => p ∧ K v s
  | .no => False

def callA (P : Program) (c : Nat) (as : List AV) (s : Store) (K : AV → Store → Prop) : AV → Prop
  | .fn g fs cs => dCall P c g (fs ++ as ++ cs) s K
  | _ => False

/-- One operation. -/
def dOp (P : Program) (c : Nat) (e : Env) (s : Store) (K : AV → Store → Prop) : Op → Prop
  | .call { callee := .value f, args := xs, argTypes := _ } => callA P c (xs.toList.map (evO e)) s K (evO e f)
  | .load t x => match c with
    | 0 => outA s K (evA P e (.load t x))
    | _ => outV P e s K (.load t x) (evA P e (.load t x))
  | .convert a b x => match c with
    | 0 => outA s K (evA P e (.convert a b x))
    | 1 => outV P e s K (.convert a b x) (evA P e (.convert a b x))
    | 2 => outV P e s K (.convert a b x) (evA P e (.convert a b x))
    | _ => False
  | .lookup t x k ok => match c with
    | 1 => vcLookD P t (evO e x) (evO e k) ok s K
    | 2 => vcLookD P t (evO e x) (evO e k) ok s K
    | _ => False
  | op => match c with
    | 0 => outA s K (evA P e op)
    | 2 => outV P e s K op (evA P e op)
    | _ => False

theorem det_conv (src dst : TypeId) (x : AV) (s : Store) (K : AV → Store → Prop) (h : convA P src dst x s fun v => K v s) : ∃ v, (convA P src dst x s fun r => r = v ∧ s = s) ∧ K v s := by
  unfold convA at h ⊢
  split at h
  · obtain ⟨h3, h⟩ := h
    split at h
    · obtain ⟨h4, h5, h6, hR⟩ := h
      exact ⟨_, ⟨h3, h4, h5, h6, rfl, rfl⟩, hR⟩
    · exact h.elim
  · exact h.elim

theorem det_out (e : Env) (s : Store) (op : Op) (hn : ∀ f xs ts, op ≠ .call { callee := .value f, args := xs, argTypes := ts }) (hl : ∀ t x k c, op ≠ .lookup t x k c) : Det fun K => outV P e s K op (evA P e op) := by
  intro K h
  cases hA : evA P e op with
  | val v => rw [hA] at h; exact ⟨v, s, ⟨rfl, rfl⟩, h⟩
  | need p v => rw [hA] at h; exact ⟨v, s, ⟨h.1, rfl, rfl⟩, h.2⟩
  | no =>
    rw [hA] at h
    simp only [outV_no] at h ⊢
    unfold vcS at h ⊢
    split at h
    · split at h
      · rename_i hz; exact ⟨_, _, ⟨h.1, rfl, rfl⟩, h.2⟩
      · exact h.elim
    · split at h
      · rename_i hz; exact ⟨_, _, ⟨rfl, rfl⟩, h⟩
      · exact h.elim
    · obtain ⟨v, h1, h2⟩ := det_load _ _ _ K h; exact ⟨v, s, h1, h2⟩
    · exact det_store _ _ _ _ K h
    · exact det_make _ _ _ _ K h
    · split at h
      · rename_i hts hxs
        obtain ⟨v, s', h1, h2⟩ := det_append _ _ _ _ K h.2
        exact ⟨v, s', ⟨h.1, h1⟩, h2⟩
      · exact h.elim
    · exact absurd rfl (hn _ _ _)
    · obtain ⟨v, h1, h2⟩ := det_conv _ _ _ _ _ h; exact ⟨v, s, h1, h2⟩
    · exact ⟨_, _, ⟨rfl, rfl⟩, h⟩
    · exact absurd rfl (hl _ _ _ _)
    · exact det_put _ _ _ _ _ K h
    · exact det_ent _ _ _ _ K h
    · exact det_est _ _ _ _ K h
    · split at h
      · split at h
        · exact det_mlen _ _ K h
        · exact h.elim
      · exact h.elim
    · split at h
      · exact det_del _ _ _ _ K h
      · exact h.elim
    · split at h
      · exact det_clear _ _ _ K h
      · exact h.elim
    · exact h.elim

theorem clsOp_lt (es : List Nat) (i : Nat) (o : Oper) : clsOp es i o < 3 := by
  unfold clsOp
  split
  · omega
  · split
    · omega
    · split
      · omega
      · split <;> omega

theorem dOp_sound {es : List Nat} {i : Nat} {e : Env} {s : Store} {o : Oper} {K : AV → Store → Prop} (h : dOp P (clsOp es i o) e s K o.op) : vcD1 P (clsOp es i o) e s o K := by
  have hlt := clsOp_lt es i o
  obtain ⟨d, op, ty, pos, af, gd⟩ := o
  simp only at h
  unfold dOp at h
  split at h
  · rename_i f xs ts
    cases hf : evO e f with
    | fn g fs cs =>
      rw [hf] at h
      rcases h with ⟨v, s', h1, h2, h3⟩ | ⟨h0, v, h1, h3⟩
      · have hop : vcOp P e s (fun r s1 => r = v ∧ s1 = s') (.call { callee := .value f, args := xs, argTypes := ts }) := by
          rw [vcOp_out]
          simp only [evA, outV_no, vcS, hf]
          exact h1
        rcases h2 with h2 | ⟨h2, rfl⟩
        · rw [h2]; exact ⟨v, s', hop, h3⟩
        · rw [h2]; exact ⟨v, hop, h3⟩
      · rw [h0]
        refine .inr ⟨v, fun σ => ?_, h3⟩
        rw [vcOp_out]
        simp only [evA, outV_no, vcS, hf]
        exact h1 σ
    | _ => rw [hf] at h; exact h.elim
  · rename_i t x
    generalize clsOp es i ⟨d, .load t x, ty, pos, af, gd⟩ = c at h hlt ⊢
    have main : outV P e s K (.load t x) (evA P e (.load t x)) → ∃ v, vcOp P e s (fun r s1 => r = v ∧ s1 = s) (.load t x) ∧ K v s := by
      intro h
      cases hA : evA P e (.load t x) with
      | val v => rw [hA] at h; exact ⟨v, by rw [vcOp_out, hA]; exact ⟨rfl, rfl⟩, h⟩
      | need p v => rw [hA] at h; exact ⟨v, by rw [vcOp_out, hA]; exact ⟨h.1, rfl, rfl⟩, h.2⟩
      | no =>
        rw [hA] at h
        simp only [outV_no, vcS] at h
        obtain ⟨v, h1, h2⟩ := det_load _ _ _ K h
        exact ⟨v, by rw [vcOp_out, hA]; simp only [outV_no, vcS]; exact h1, h2⟩
    match c, h with
    | 0, h =>
      refine .inl ?_
      simp only [vcA]
      cases hA : evA P e (.load t x) with
      | val v => simp only [hA] at h; exact h
      | need p v => simp only [hA] at h; exact h
      | no => simp only [hA] at h; exact h
    | 1, h => exact main h
    | 2, h => obtain ⟨v, h1, h2⟩ := main h; exact ⟨v, s, h1, h2⟩
    | (n + 3), h => omega
  · rename_i src dst x
    generalize clsOp es i ⟨d, .convert src dst x, ty, pos, af, gd⟩ = c at h ⊢
    have main : outV P e s K (.convert src dst x) (evA P e (.convert src dst x)) → ∃ v, vcOp P e s (fun r s1 => r = v ∧ s1 = s) (.convert src dst x) ∧ K v s := by
      intro h
      cases hA : evA P e (.convert src dst x) with
      | val v => rw [hA] at h; exact ⟨v, by rw [vcOp_out, hA]; exact ⟨rfl, rfl⟩, h⟩
      | need p v => rw [hA] at h; exact ⟨v, by rw [vcOp_out, hA]; exact ⟨h.1, rfl, rfl⟩, h.2⟩
      | no =>
        rw [hA] at h
        simp only [outV_no, vcS] at h
        obtain ⟨v, h1, h2⟩ := det_conv _ _ _ _ _ h
        exact ⟨v, by rw [vcOp_out, hA]; simp only [outV_no, vcS]; simpa using h1, h2⟩
    match c, h with
    | 0, h =>
      refine .inl ?_
      simp only [vcA]
      cases hA : evA P e (.convert src dst x) with
      | val v => simp only [hA] at h; exact h
      | need p v => simp only [hA] at h; exact h
      | no => simp only [hA] at h; exact h
    | 1, h => exact main h
    | 2, h => obtain ⟨v, h1, h2⟩ := main h; exact ⟨v, s, h1, h2⟩
    | (n + 3), h => exact h.elim
  · rename_i t x k ok
    generalize clsOp es i ⟨d, .lookup t x k ok, ty, pos, af, gd⟩ = c at h ⊢
    have main : vcLookD P t (evO e x) (evO e k) ok s K → ∃ v, vcOp P e s (fun r s1 => r = v ∧ s1 = s) (.lookup t x k ok) ∧ K v s := by
      intro h
      obtain ⟨v, h1, h2⟩ := det_look _ _ _ _ _ _ h
      exact ⟨v, by rw [vcOp_out]; simp only [evA, outV_no, vcS]; exact h1, h2⟩
    match c, h with
    | 0, h => exact h.elim
    | 1, h => exact main h
    | 2, h => obtain ⟨v, h1, h2⟩ := main h; exact ⟨v, s, h1, h2⟩
    | (n + 3), h => exact h.elim
  · rename_i hn _ _ hlk
    split at h
    · rename_i hc
      rw [hc]
      refine .inl ?_
      simp only [vcA]
      cases hA : evA P e op with
      | val v => rw [hA] at h; exact h
      | need p v => rw [hA] at h; exact h
      | no => rw [hA] at h; exact h
    · rename_i hc
      rw [hc]
      simp only [vcD1]
      obtain ⟨v, s', h1, h2⟩ := det_out e s op (fun f xs ts he => hn f xs ts he) (fun t x k c he => hlk t x k c he) K h
      exact ⟨v, s', by rw [vcOp_out]; exact h1, h2⟩
    · exact h.elim

/-- The operations of a region that draws its order. -/
def vcE (P : Program) (es : List Nat) (all : List Oper) : Nat → List Oper → Env → Store → (Env → Store → Prop) → Prop
  | _, [], e, s, K => K e s
  | i, o :: os, e, s, K =>
    match o.guard with
    | none => dOp P (clsOp es i o) e s (fun v s' => vcE P es all (i + 1) os (e.put o.dst v) s' K) o.op
    | some (j, want) => match (all[j]?).bind (·.dst) with
      | none => False
      | some t => match e.get t with
        | some (.bool c) => (c = want → dOp P (clsOp es i o) ((t, .bool want) :: e) s (fun v s' => vcE P es all (i + 1) os (Env.put ((t, .bool want) :: e) o.dst v) s' K) o.op) ∧
            (c = (!want) → vcE P es all (i + 1) os (Env.put ((t, .bool (!want)) :: e) o.dst (.tup [])) s K)
        | some (.tup []) => vcE P es all (i + 1) os (e.put o.dst (.tup [])) s K
        | _ => False

theorem vcD1_mono {c : Nat} {e : Env} {s : Store} {o : Oper} {K K' : AV → Store → Prop} (h : vcD1 P c e s o K) (hk : ∀ v s, K v s → K' v s) : vcD1 P c e s o K' := by
  unfold vcD1 at h ⊢
  split at h
  · rcases h with h | ⟨v, h1, h2⟩
    · left
      unfold vcA at h ⊢
      split at h
      · exact hk _ _ h
      · exact ⟨h.1, hk _ _ h.2⟩
      · exact h
    · exact .inr ⟨v, h1, hk _ _ h2⟩
  · obtain ⟨v, h1, h2⟩ := h; exact ⟨v, h1, hk _ _ h2⟩
  · obtain ⟨v, s', h1, h2⟩ := h; exact ⟨v, s', h1, hk _ _ h2⟩
  · exact h

theorem vcE_sound {es : List Nat} {all : List Oper} {K : Env → Store → Prop} : ∀ {os : List Oper} {i : Nat} {e : Env} {s : Store}, vcE P es all i os e s K → vcD P es all i os e s K
  | [], _, _, _, h => h
  | o :: os, i, e, s, h => by
    unfold vcE at h
    unfold vcD
    cases hg : o.guard with
    | none =>
      simp only [hg] at h ⊢
      exact vcD1_mono (dOp_sound h) fun _ _ => vcE_sound
    | some jw =>
      obtain ⟨j, want⟩ := jw
      simp only [hg] at h ⊢
      split at h
      · exact h.elim
      · rename_i ht
        simp only [ht]
        split at h
        · rename_i hc
          simp only [hc]
          exact ⟨fun h1 => vcD1_mono (dOp_sound (h.1 h1)) fun _ _ => vcE_sound, fun h1 => vcE_sound (h.2 h1)⟩
        · rename_i hc
          simp only [hc]
          exact vcE_sound h
        · exact h.elim

theorem awp_draws (es : List Nat) {id : Nat} {l : List Oper} {K : Exit → Env → Store → Prop} {e : Env} {σ : Store} (hm : P.follows .mixedOrders = true) (hB : orderOk N es l = true)
    (h : vcE P es l 0 l e σ (K .normal)) : AWp P N (.region id l.toArray true) K e σ :=
  awp_draw es hm (by simpa using hB) (by simpa using vcE_sound h)

/-! ### Equations -/

def cl (es : List Nat) (i : Nat) (op : Op) : Nat :=
  if es.contains i then 2 else if es.contains (i + 100000) then 1 else if es.contains (i + 200000) then 0 else match op with
    | .load .. => 1
    | .call { callee := .value _, .. } => 1
    | .lookup .. => 1
    | _ => 0

def dK (P : Program) (es : List Nat) (all : List Oper) (i : Nat) (os : List Oper) (d : Option Tmp) (e : Env) (K : Env → Store → Prop) : AV → Store → Prop := fun v s' => vcE P es all (i + 1) os (e.put d v) s' K

theorem dK_run (es : List Nat) (all : List Oper) (i : Nat) (os : List Oper) (d : Tmp) (e : Env) (K : Env → Store → Prop) (v : AV) (s : Store) : dK P es all i os (some d) e K v s = vcE P es all (i + 1) os ((d, v) :: e) s K := rfl
theorem dK_none (es : List Nat) (all : List Oper) (i : Nat) (os : List Oper) (e : Env) (K : Env → Store → Prop) (v : AV) (s : Store) : dK P es all i os none e K v s = vcE P es all (i + 1) os e s K := rfl
theorem vcE_nil (es : List Nat) (all : List Oper) (i : Nat) (e : Env) (s : Store) (K : Env → Store → Prop) : vcE P es all i [] e s K = K e s := rfl
theorem vcE_cons (es : List Nat) (all os : List Oper) (i : Nat) (d : Option Tmp) (op : Op) (ty : TypeId) (pos : String) (af : Array Edge) (e : Env) (s : Store) (K : Env → Store → Prop) :
    vcE P es all i (⟨d, op, ty, pos, af, none⟩ :: os) e s K = dOp P (cl es i op) e s (dK P es all i os d e K) op := rfl
def guardD (P : Program) (es : List Nat) (all os : List Oper) (i : Nat) (d : Option Tmp) (op : Op) (want : Bool) (e : Env) (s : Store) (K : Env → Store → Prop) (t : Tmp) : AV → Prop
  | .bool c => (c = want → dOp P (cl es i op) ((t, .bool want) :: e) s (dK P es all i os d ((t, .bool want) :: e) K) op) ∧ (c = (!want) → vcE P es all (i + 1) os (Env.put ((t, .bool (!want)) :: e) d (.tup [])) s K)
  | .tup [] => vcE P es all (i + 1) os (Env.put e d (.tup [])) s K
  | _ => False
theorem vcE_guard (es : List Nat) (all os : List Oper) (i : Nat) (d : Option Tmp) (op : Op) (ty : TypeId) (pos : String) (af : Array Edge) (j : Nat) (want : Bool) (e : Env) (s : Store) (K : Env → Store → Prop) (t : Tmp) (ht : (all[j]?).bind (·.dst) = some t) :
    vcE P es all i (⟨d, op, ty, pos, af, some (j, want)⟩ :: os) e s K = guardD P es all os i d op want e s K t (lookA e t) := by
  unfold vcE guardD
  simp only [ht]
  rw [← lookA_get]
  cases hg : e.get t with
  | none => rfl
  | some x =>
    cases x with
    | tup l => cases l <;> rfl
    | _ => rfl
theorem guardD_und (es : List Nat) (all os : List Oper) (i : Nat) (d : Option Tmp) (op : Op) (want : Bool) (e : Env) (s : Store) (K : Env → Store → Prop) (t : Tmp) :
    guardD P es all os i d op want e s K t (.tup []) = vcE P es all (i + 1) os (Env.put e d (.tup [])) s K := rfl
theorem guardD_bool (es : List Nat) (all os : List Oper) (i : Nat) (d : Option Tmp) (op : Op) (want : Bool) (e : Env) (s : Store) (K : Env → Store → Prop) (t : Tmp) (c : Bool) :
    guardD P es all os i d op want e s K t (.bool c) = ((c = want → dOp P (cl es i op) ((t, .bool want) :: e) s (dK P es all i os d ((t, .bool want) :: e) K) op) ∧ (c = (!want) → vcE P es all (i + 1) os (Env.put ((t, .bool (!want)) :: e) d (.tup [])) s K)) := rfl
theorem guardD_same (es : List Nat) (all os : List Oper) (i : Nat) (d : Option Tmp) (op : Op) (e : Env) (s : Store) (K : Env → Store → Prop) (t : Tmp) (b : Bool) :
    guardD P es all os i d op b e s K t (.bool b) = dOp P (cl es i op) ((t, .bool b) :: e) s (dK P es all i os d ((t, .bool b) :: e) K) op := by
  cases b <;> simp [guardD]
theorem guardD_tf (es : List Nat) (all os : List Oper) (i : Nat) (d : Option Tmp) (op : Op) (e : Env) (s : Store) (K : Env → Store → Prop) (t : Tmp) :
    guardD P es all os i d op true e s K t (.bool false) = vcE P es all (i + 1) os (Env.put ((t, .bool false) :: e) d (.tup [])) s K := by simp [guardD]
theorem guardD_ft (es : List Nat) (all os : List Oper) (i : Nat) (d : Option Tmp) (op : Op) (e : Env) (s : Store) (K : Env → Store → Prop) (t : Tmp) :
    guardD P es all os i d op false e s K t (.bool true) = vcE P es all (i + 1) os (Env.put ((t, .bool true) :: e) d (.tup [])) s K := by simp [guardD]

theorem dOp_call (c : Nat) (e : Env) (s : Store) (K : AV → Store → Prop) (f : Operand) (xs : Array Operand) (ts : Array TypeId) : dOp P c e s K (.call { callee := .value f, args := xs, argTypes := ts }) = callA P c (xs.toList.map (evO e)) s K (evO e f) := rfl
theorem callA_fn (c : Nat) (as : List AV) (s : Store) (K : AV → Store → Prop) (g : FuncId) (fs cs : List AV) : callA P c as s K (.fn g fs cs) = dCall P c g (fs ++ as ++ cs) s K := rfl
theorem outA_val (s : Store) (K : AV → Store → Prop) (v : AV) : outA s K (.val v) = K v s := rfl
theorem outA_need (s : Store) (K : AV → Store → Prop) (p : Prop) (v : AV) : outA s K (.need p v) = (p ∧ K v s) := rfl

/-- The temporary that an operation writes. -/
def dstAt : List Oper → Nat → Option Tmp
  | [], _ => none
  | o :: _, 0 => o.dst
  | _ :: os, j + 1 => dstAt os j
theorem dstAt_eq : ∀ (l : List Oper) (j : Nat), (l[j]?).bind (·.dst) = dstAt l j
  | [], j => by simp [dstAt]
  | o :: _, 0 => by simp [dstAt]
  | o :: os, j + 1 => by simp [dstAt, dstAt_eq os j]

def guardM (P : Program) (all os : List Oper) (d : Option Tmp) (op : Op) (want : Bool) (e : Env) (s : Store) (K : Env → Store → Prop) : Option Tmp → Prop
  | none => False
  | some t => guardV P all os d op want e s K t (lookA e t)
theorem guardM_some (all os : List Oper) (d : Option Tmp) (op : Op) (want : Bool) (e : Env) (s : Store) (K : Env → Store → Prop) (t : Tmp) : guardM P all os d op want e s K (some t) = guardV P all os d op want e s K t (lookA e t) := rfl
theorem vcOps_guardM (all os : List Oper) (d : Option Tmp) (op : Op) (ty : TypeId) (pos : String) (af : Array Edge) (j : Nat) (want : Bool) (e : Env) (s : Store) (K : Env → Store → Prop) :
    vcOps P all (⟨d, op, ty, pos, af, some (j, want)⟩ :: os) e s K = guardM P all os d op want e s K (dstAt all j) := by
  rw [← dstAt_eq]
  cases ht : (all[j]?).bind (·.dst) with
  | none => unfold vcOps guardM; simp only [ht]
  | some t => rw [vcOps_guard all os d op ty pos af j want e s K t ht]; rfl
def guardME (P : Program) (es : List Nat) (all os : List Oper) (i : Nat) (d : Option Tmp) (op : Op) (want : Bool) (e : Env) (s : Store) (K : Env → Store → Prop) : Option Tmp → Prop
  | none => False
  | some t => guardD P es all os i d op want e s K t (lookA e t)
theorem guardME_some (es : List Nat) (all os : List Oper) (i : Nat) (d : Option Tmp) (op : Op) (want : Bool) (e : Env) (s : Store) (K : Env → Store → Prop) (t : Tmp) : guardME P es all os i d op want e s K (some t) = guardD P es all os i d op want e s K t (lookA e t) := rfl
theorem vcE_guardM (es : List Nat) (all os : List Oper) (i : Nat) (d : Option Tmp) (op : Op) (ty : TypeId) (pos : String) (af : Array Edge) (j : Nat) (want : Bool) (e : Env) (s : Store) (K : Env → Store → Prop) :
    vcE P es all i (⟨d, op, ty, pos, af, some (j, want)⟩ :: os) e s K = guardME P es all os i d op want e s K (dstAt all j) := by
  rw [← dstAt_eq]
  cases ht : (all[j]?).bind (·.dst) with
  | none => unfold vcE guardME; simp only [ht]
  | some t => rw [vcE_guard es all os i d op ty pos af j want e s K t ht]; rfl

end Go.Pa

/-! Plain laws of numbers and lists. -/
namespace Go.Pa
set_option linter.unusedSectionVars false
variable [GTab]

theorem wrap_i64 {n : Int} (h : -9223372036854775808 ≤ n) (h' : n < 9223372036854775808) : IntKind.i64.wrap n = n := by
  simp [IntKind.wrap, IntKind.bits, IntKind.signed]
  omega

theorem wrap_u64 {n : Int} (h : 0 ≤ n) (h' : n < 18446744073709551616) : IntKind.u64.wrap n = n := by
  simp [IntKind.wrap, IntKind.bits, IntKind.signed]
  omega

theorem wrap_u8 {n : Int} (h : 0 ≤ n) (h' : n < 256) : IntKind.u8.wrap n = n := by
  simp [IntKind.wrap, IntKind.bits, IntKind.signed]
  omega

theorem take_eq_step {α : Type} {a b : List α} (hl : a.length = b.length) {i : Nat} (hi : i < a.length) (h : a.take i = b.take i) : a.take (i + 1) = b.take (i + 1) ↔ a[i]? = b[i]? := by
  rw [List.take_add_one, List.take_add_one, h]
  constructor
  · intro h
    have := List.append_cancel_left h
    rw [List.getElem?_eq_getElem hi, List.getElem?_eq_getElem (by omega)] at this ⊢
    simpa using this
  · intro h; rw [h]

theorem getD_get {α : Type} {l : List α} {i : Nat} {d : α} (h : i < l.length) : l.getD i d = l[i] := by
  rw [List.getD_eq_getElem?_getD, List.getElem?_eq_getElem h]; rfl

/-- A round of a comparison of two lists. -/
theorem same_round {a b : List Int} (hl : a.length = b.length) {i : Nat} (hi : i < a.length) (hp : a.take i = b.take i) :
    (a.getD i 0 ≠ b.getD i 0 → a ≠ b) ∧ (a.getD i 0 = b.getD i 0 → a.take (i + 1) = b.take (i + 1)) := by
  rw [getD_get hi, getD_get (by omega : i < b.length)]
  refine ⟨fun h e => h (by subst e; rfl), fun h => (take_eq_step hl hi hp).2 ?_⟩
  rw [List.getElem?_eq_getElem hi, List.getElem?_eq_getElem (by omega), h]

theorem same_end {a b : List Int} (hl : a.length = b.length) {i : Nat} (hi : a.length ≤ i) (hp : a.take i = b.take i) : a = b := by
  rw [List.take_of_length_le hi, List.take_of_length_le (by omega)] at hp; exact hp

end Go.Pa

/-! Appending to a slice of integers that the function itself has made. -/
namespace Go.Pa
set_option linter.unusedSectionVars false
variable [GTab]
variable {P : Program}

theorem append_buf {σ s : Store} {t e : TypeId} {k : IntKind} {l l' : List Int} {r y : AV} {R : AV → Store → Prop} (hs : sliceElem P t = some (e, 1)) (hb : P.bytesOf e ≠ 0)
    (hx : Ext σ s) (h : BufI s σ.length r k l) (hc : contA s y = some (.I k l') ∨ (contA s y = some .E ∧ l' = [])) (hf : appFits P e (l.length + l'.length))
    (hR : ∀ r' s', Ext σ s' → BufI s' σ.length r' k (l ++ l') → R r' s') : vcAppend P t r y s R := by
  have hlen := hx.len
  unfold vcAppend
  rcases hc with hc | ⟨hc, rfl⟩
  · simp only [hs, hc]
    refine ⟨hb, ?_⟩
    rcases h with ⟨rfl | rfl, rfl⟩ | ⟨id, rfl, ho, hn⟩
    · refine ⟨trivial, fun h0 => hR _ _ hx (.inl ⟨.inl rfl, by simp [h0]⟩), fun h0 => ⟨by simpa using hf, hR _ _ (hx.push _) (.inr ⟨s.length, by simp, by simp, hlen⟩)⟩⟩
    · refine ⟨trivial, fun h0 => hR _ _ hx (.inl ⟨.inr rfl, by simp [h0]⟩), fun h0 => ⟨by simpa using hf, hR _ _ (hx.push _) (.inr ⟨s.length, by simp, by simp, hlen⟩)⟩⟩
    · simp only [ho]
      refine ⟨by simp, by simp, by simp, by simp, fun h0 => hR _ _ hx (.inr ⟨id, by simp [h0], by simp [h0, ho], hn⟩), fun h0 => ⟨hf, hR _ _ ((hx.set hn _).push _) (.inr ⟨s.length, by simp, ?_, hlen⟩)⟩⟩
      rw [List.getElem?_append_right (by simp)]
      simp
  · simp only [hs, hc]
    refine ⟨hb, ?_⟩
    rcases h with ⟨rfl | rfl, rfl⟩ | ⟨id, rfl, ho, hn⟩
    · exact hR _ _ hx (.inl ⟨.inl rfl, rfl⟩)
    · exact hR _ _ hx (.inl ⟨.inr rfl, rfl⟩)
    · simp only [ho]
      exact hR _ _ hx (.inr ⟨id, by simp, by simpa using ho, hn⟩)

theorem BufI.nil {σ : Store} {k : IntKind} : BufI σ σ.length .nils k [] := .inl ⟨.inl rfl, rfl⟩

/-- A call with one answer, and what comes behind it. -/
theorem acalls_then {f : FuncId} {args : List AV} {s s' : Store} {v : AV} {K : AV → Store → Prop} (h : ACalls P f args s fun r s1 => r = v ∧ s1 = s') (hk : K v s') : ACalls P f args s K :=
  h.mono fun _ _ ⟨h1, h2⟩ => by rw [h1, h2]; exact hk

theorem foldl_take_succ {α β : Type} (f : β → α → β) (z : β) (l : List α) {i : Nat} (h : i < l.length) : (l.take (i + 1)).foldl f z = f ((l.take i).foldl f z) l[i] := by
  rw [List.take_add_one, List.getElem?_eq_getElem h, Option.toList_some, List.foldl_append, List.foldl_cons, List.foldl_nil]

theorem BufI.zero {s : Store} {n : Nat} {r : AV} {k : IntKind} {l : List Int} (h : BufI s n r k l) : BufI s 0 r k l := by
  rcases h with h | ⟨id, h1, h2, _⟩
  · exact .inl h
  · exact .inr ⟨id, h1, h2, Nat.zero_le _⟩

end Go.Pa

/-! Code in a round of a loop over a function: what is asked; soundness. -/
namespace Go.Pa
set_option linter.unusedSectionVars false
variable [GTab]
variable {P : Program}

theorem noDefer_spec {op : Op} (h : noDefer op = true) : ∀ c, op ≠ .defer c := by
  intro c hc; subst hc; cases h

/-- In a round, from every concrete state that the abstract one tells of, the code comes to its end as K says. -/
def AWpR (P : Program) (N : Nat) (c : Code) (K : Exit → Env → Store → Prop) (env : Env) (σ : Store) : Prop :=
  ∀ l G0 G a w, G0.le G → ERel G N env a → WRel G σ w → c.wpIn (Fence.wide.inRound l) 2 P (Conc G0 N K) a w

theorem vcOps_soundR {all : List Oper} {N l : Nat} {Q : Exit → Act → World → Prop} {G0 : Gh} : ∀ {os : List Oper} {e : Env} {s : Store} {K : Env → Store → Prop}, dstOk N os = true → vcOps P all os e s K →
    (∀ G e s a w, G0.le G → ERel G N e a → WRel G s w → K e s → Q .normal a w) → ∀ G a w, G0.le G → ERel G N e a → WRel G s w → wpListIn (Fence.wide.inRound l) 2 P all.toArray Q os a w
  | [], e, s, K, _, h, hQ, G, a, w, hg, he, hw => hQ G e s a w hg he hw h
  | o :: os, e, s, K, hd, h, hQ, G, a, w, hg, he, hw => by
    simp only [dstOk, List.all_cons, Bool.and_eq_true] at hd
    obtain ⟨⟨hd1, hd3⟩, hd2⟩ := hd
    have hdst : ∀ t, o.dst = some t → t < N := fun t ht => by rw [ht] at hd1; simpa using hd1
    have run : ∀ {e : Env}, ERel G N e a → vcOp P e s (fun v s' => vcOps P all os (e.put o.dst v) s' K) o.op → o.wpIn (Fence.wide.inRound l) 2 P a w (wpListIn (Fence.wide.inRound l) 2 P all.toArray Q os) Q := by
      intro e he h
      refine Oper.wpIn_mono ?_ ((vcOp_sound (N := N) h).wpIn (noDefer_spec hd3) l 2 G a w Q he hw)
      rintro a' w' ⟨c, v, σ', G', rfl, hle, hw', hr, hk⟩
      exact vcOps_soundR (by simpa [dstOk] using hd2) hk hQ G' _ w' (hg.trans hle) ((he.mono hle).put o.dst hdst hr) hw'
    unfold vcOps at h
    unfold wpListIn
    cases hgd : o.guard with
    | none =>
      simp only [hgd] at h
      rw [if_pos (by simp [Region.wanted, hgd])]
      exact run he h
    | some jw =>
      obtain ⟨j, want⟩ := jw
      simp only [hgd] at h
      split at h
      · exact h.elim
      · rename_i t ht
        split at h
        · rename_i c hc
          obtain ⟨v, hv, hr⟩ := he.2.2 t _ hc
          cases hr
          have hy : yielded all.toArray a.tmps j = some c := by
            unfold yielded
            have h0 : (all.toArray[j]?).bind (·.dst) = some t := by simpa using ht
            rw [h0]
            simp [hv]
          have he' : ∀ b, c = b → ERel G N ((t, .bool b) :: e) a := by
            intro b hb
            refine ⟨he.1, he.2.1, fun u x hx => ?_⟩
            simp only [Env.get] at hx
            split at hx
            · rename_i hu; subst hu; cases hx; exact ⟨.bool c, hv, by rw [hb]; exact .bool b⟩
            · exact he.2.2 u x hx
          by_cases hcw : c = want
          · rw [if_pos (by simp [Region.wanted, hgd, hy, hcw])]
            exact run (he' want hcw) (h.1 hcw)
          · rw [if_neg (by simp [Region.wanted, hgd, hy, hcw])]
            have hn : c = !want := by cases c <;> cases want <;> simp_all
            exact ⟨fun _ _ => trivial, vcOps_soundR (by simpa [dstOk] using hd2) (h.2 hn) hQ G _ w hg ((he' _ hn).put o.dst hdst (rep_undef G)) hw⟩
        · rename_i hc
          obtain ⟨v, hv, hr⟩ := he.2.2 t _ hc
          have hy : yielded all.toArray a.tmps j = none := by
            unfold yielded
            have h0 : (all.toArray[j]?).bind (·.dst) = some t := by simpa using ht
            rw [h0]
            cases hr
            simp [hv]
          rw [if_neg (by simp [Region.wanted, hgd, hy])]
          exact ⟨fun _ _ => trivial, vcOps_soundR (by simpa [dstOk] using hd2) h hQ G _ w hg (he.put o.dst hdst (rep_undef G)) hw⟩
        · exact h.elim

def vcR (P : Program) (N : Nat) : Code → (Exit → Env → Store → Prop) → Env → Store → Prop
  | .skip, K, e, s => K .normal e s
  | .region id ops d, K, e, s => if d then AWpR P N (.region id ops true) K e s else vcOps P ops.toList ops.toList e s (K .normal)
  | .seq a b, K, e, s => vcR P N a (fun x e s => match x with | .normal => vcR P N b K e s | x => K x e s) e s
  | .cond c a b, K, e, s => match evO e c with
    | .bool t => (t = true → vcR P N a K e s) ∧ (t = false → vcR P N b K e s)
    | _ => False
  | .block id b, K, e, s => vcR P N b (fun x e s => match x with | .exit i => if i = id then K .normal e s else K (.exit i) e s | x => K x e s) e s
  | .exit id, K, e, s => K (.exit id) e s
  | .ret, K, e, s => K .ret e s
  | c, K, e, s => AWpR P N c K e s

theorem vcR_sound {N : Nat} : ∀ {c : Code} {K : Exit → Env → Store → Prop} {e : Env} {s : Store}, codeOk N c = true → vcR P N c K e s → AWpR P N c K e s
  | .skip, K, e, s, _, h => fun l G0 G a w hg he hw => wpIn_skip ⟨G, e, s, hg, he, hw, h⟩
  | .region id ops d, K, e, s, hd, h => by
    intro l G0 G a w hg he hw
    unfold vcR at h
    cases d with
    | true => simp only [if_true] at h; exact h l G0 G a w hg he hw
    | false =>
      simp only [Bool.false_eq_true, if_false] at h
      refine wpIn_region_list ?_
      have := vcOps_soundR (l := l) (G0 := G0) (Q := Conc G0 N K) hd h (fun G' e' s' a' w' h1 h2 h3 h4 => ⟨G', e', s', h1, h2, h3, h4⟩) G a w hg he hw
      simpa using this
  | .seq x y, K, e, s, hd, h => by
    intro l G0 G a w hg he hw
    simp only [codeOk, Bool.and_eq_true] at hd
    refine wpIn_seq (Code.wpIn_mono ?_ (vcR_sound hd.1 h l G0 G a w hg he hw))
    rintro ex a' w' ⟨G', e', s', h1, h2, h3, h4⟩
    cases ex with
    | normal => exact vcR_sound hd.2 h4 l G0 G' a' w' h1 h2 h3
    | exit i => exact ⟨G', e', s', h1, h2, h3, h4⟩
    | goto i => exact ⟨G', e', s', h1, h2, h3, h4⟩
    | ret => exact ⟨G', e', s', h1, h2, h3, h4⟩
    | panic c => exact ⟨G', e', s', h1, h2, h3, h4⟩
    | outgrown => exact ⟨G', e', s', h1, h2, h3, h4⟩
  | .cond c x y, K, e, s, hd, h => by
    intro l G0 G a w hg he hw
    simp only [codeOk, Bool.and_eq_true] at hd
    unfold vcR at h
    split at h
    · rename_i t ht
      have hr := rep_evO he c
      rw [ht] at hr
      have hv : a.eval c = .bool t := by
        generalize a.eval c = u at hr
        cases hr; rfl
      exact wpIn_cond_split hv (fun h1 => vcR_sound hd.1 (h.1 h1) l G0 G a w hg he hw) (fun h1 => vcR_sound hd.2 (h.2 h1) l G0 G a w hg he hw)
    · exact h.elim
  | .block id b, K, e, s, hd, h => by
    intro l G0 G a w hg he hw
    refine wpIn_block (Code.wpIn_mono ?_ (vcR_sound (c := b) hd h l G0 G a w hg he hw))
    rintro ex a' w' ⟨G', e', s', h1, h2, h3, h4⟩
    cases ex with
    | exit i =>
      simp only [Exit.inBlock]
      simp only at h4
      split
      · rename_i hi; rw [if_pos hi] at h4; exact ⟨G', e', s', h1, h2, h3, h4⟩
      · rename_i hi; rw [if_neg hi] at h4; exact ⟨G', e', s', h1, h2, h3, h4⟩
    | normal => exact ⟨G', e', s', h1, h2, h3, h4⟩
    | goto i => exact ⟨G', e', s', h1, h2, h3, h4⟩
    | ret => exact ⟨G', e', s', h1, h2, h3, h4⟩
    | panic c => exact ⟨G', e', s', h1, h2, h3, h4⟩
    | outgrown => exact ⟨G', e', s', h1, h2, h3, h4⟩
  | .exit id, K, e, s, _, h => fun l G0 G a w hg he hw => wpIn_exit ⟨G, e, s, hg, he, hw, h⟩
  | .ret, K, e, s, _, h => fun l G0 G a w hg he hw => wpIn_ret ⟨G, e, s, hg, he, hw, h⟩
  | .loop b, K, e, s, _, h => h
  | .rangeFunc _ _ _ _, K, e, s, _, h => h
  | .scope _, K, e, s, _, h => h
  | .label _, K, e, s, _, h => h
  | .goto _, K, e, s, _, h => h
  | .refuse _, K, e, s, _, h => h

/-! ### Equations -/
variable {N : Nat}
theorem vcR_skip (K : Exit → Env → Store → Prop) (e : Env) (s : Store) : vcR P N .skip K e s = K .normal e s := rfl
def seqR (P : Program) (N : Nat) (b : Code) (K : Exit → Env → Store → Prop) : Exit → Env → Store → Prop := fun x e s => match x with | .normal => vcR P N b K e s | x => K x e s
theorem vcR_seq (a b : Code) (K : Exit → Env → Store → Prop) (e : Env) (s : Store) : vcR P N (.seq a b) K e s = vcR P N a (seqR P N b K) e s := rfl
theorem vcR_block (id : Nat) (b : Code) (K : Exit → Env → Store → Prop) (e : Env) (s : Store) : vcR P N (.block id b) K e s = vcR P N b (blkK id K) e s := rfl
theorem vcR_exit (id : Nat) (K : Exit → Env → Store → Prop) (e : Env) (s : Store) : vcR P N (.exit id) K e s = K (.exit id) e s := rfl
theorem vcR_ret (K : Exit → Env → Store → Prop) (e : Env) (s : Store) : vcR P N .ret K e s = K .ret e s := rfl
theorem vcR_region (id : Nat) (l : List Oper) (K : Exit → Env → Store → Prop) (e : Env) (s : Store) : vcR P N (.region id l.toArray false) K e s = vcOps P l l e s (K .normal) := by
  unfold vcR; simp
theorem vcR_draw (id : Nat) (l : List Oper) (K : Exit → Env → Store → Prop) (e : Env) (s : Store) : vcR P N (.region id l.toArray true) K e s = AWpR P N (.region id l.toArray true) K e s := by
  unfold vcR; simp
def condR (P : Program) (N : Nat) (a b : Code) (K : Exit → Env → Store → Prop) (e : Env) (s : Store) : AV → Prop
  | .bool t => (t = true → vcR P N a K e s) ∧ (t = false → vcR P N b K e s)
  | _ => False
theorem vcR_cond (c : Operand) (a b : Code) (K : Exit → Env → Store → Prop) (e : Env) (s : Store) : vcR P N (.cond c a b) K e s = condR P N a b K e s (evO e c) := by
  unfold vcR condR; split <;> simp_all
theorem condR_true (a b : Code) (K : Exit → Env → Store → Prop) (e : Env) (s : Store) : condR P N a b K e s (.bool true) = vcR P N a K e s := by simp [condR]
theorem condR_false (a b : Code) (K : Exit → Env → Store → Prop) (e : Env) (s : Store) : condR P N a b K e s (.bool false) = vcR P N b K e s := by simp [condR]
theorem condR_bool (t : Bool) (a b : Code) (K : Exit → Env → Store → Prop) (e : Env) (s : Store) : condR P N a b K e s (.bool t) = ((t = true → vcR P N a K e s) ∧ (t = false → vcR P N b K e s)) := rfl
theorem seqR_normal (b : Code) (K : Exit → Env → Store → Prop) (e : Env) (s : Store) : seqR P N b K .normal e s = vcR P N b K e s := rfl
theorem seqR_ret (b : Code) (K : Exit → Env → Store → Prop) (e : Env) (s : Store) : seqR P N b K .ret e s = K .ret e s := rfl
theorem seqR_exit (i : Nat) (b : Code) (K : Exit → Env → Store → Prop) (e : Env) (s : Store) : seqR P N b K (.exit i) e s = K (.exit i) e s := rfl

end Go.Pa

/-! A range over a function: the rule. -/
namespace Go.Pa
set_option linter.unusedSectionVars false
variable [GTab]
variable {P : Program} {N : Nat}

def NoMaps (σ : Store) : Prop := ∀ (id : Nat) kv, σ[id]? ≠ some (.mp kv)

/-- A world that goes on: cells lie as they lay. -/
theorem WRel.overC {G : Gh} {σ : Store} {w w' : World} (hw : WRel G σ w) (hn : NoMaps σ) {lo : Nat} {m : Nat → Obj → Prop} (hlo : lo ≤ w'.heap.size) (hs : w.heap.size ≤ w'.heap.size) (h1 : w'.os = w.os) (h2 : w'.tape = w.tape) (h3 : w'.output = w.output)
    (hk : ∀ (k : Nat) (o : Obj), w.heap[k]? = some o → o.isCells = true → w'.heap[k]? = some o) (hf : ∀ k, k < G.base → w'.heap[k]? = w.heap[k]?)
    (hm : ∀ D o, m D o → G.base ≤ D ∧ w'.heap[D]? = some o ∧ o.isCells = false) : WRel (G.frame lo m) σ w' :=
  ⟨hw.len, fun b o c h => by
    obtain ⟨q1, q2⟩ := hw.imm b o c h
    refine ⟨?_, q2⟩
    have hlt := World.block_lt_of_cell? w _ q1
    simp only at hlt
    cases hob : w.heap[b]? with
    | none => rw [Array.getElem?_eq_none_iff] at hob; omega
    | some x =>
      cases x with
      | cells arr ty fr => rw [World.cell?_of_block (w := w) (by rw [hk _ _ hob rfl, hob])]; exact q1
      | _ => simp [World.cell?, hob] at q1,
    fun id ob h => by
      have main : ∀ {ob : AObj}, (∃ b n arr ty, ∃ cs : List AV, ob.cells = some cs ∧ G.obj[id]? = some (b, n) ∧ w.heap[b]? = some (.cells arr ty (0, 0)) ∧ arr.size = n ∧ cs.length ≤ n ∧ G.base ≤ b ∧
          (∀ o, G.imm b o = none) ∧ (∀ (i : Nat) (x : AV), cs[i]? = some x → ∃ c, arr[i]? = some c ∧ Rep G x c) ∧ (∀ c ∈ arr.toList, c.oneCell' = true)) →
          ∃ b n arr ty, ∃ cs : List AV, ob.cells = some cs ∧ (G.frame lo m).obj[id]? = some (b, n) ∧ w'.heap[b]? = some (.cells arr ty (0, 0)) ∧ arr.size = n ∧ cs.length ≤ n ∧ (G.frame lo m).base ≤ b ∧
          (∀ o, (G.frame lo m).imm b o = none) ∧ (∀ (i : Nat) (x : AV), cs[i]? = some x → ∃ c, arr[i]? = some c ∧ Rep (G.frame lo m) x c) ∧ (∀ c ∈ arr.toList, c.oneCell' = true) := by
        rintro ob ⟨b, n, arr, ty, cs, h1, h2, h3, h4, h5, h6, h7, h8, h9⟩
        exact ⟨b, n, arr, ty, cs, h1, h2, hk _ _ h3 rfl, h4, h5, h6, h7, fun i x hx => let ⟨c, hc, hrr⟩ := h8 i x hx; ⟨c, hc, rep_frame hrr⟩, h9⟩
      have h0 := hw.objs id ob h
      cases ob with
      | dead => trivial
      | mp kv => exact absurd h (hn id kv)
      | box cs => exact main h0
      | vecI k l => exact main h0
      | vecR sz rs => exact main h0,
    hw.inj, fun b hb => (hf b hb).trans (hw.frame b hb), Nat.le_trans hw.sz hs, h1.trans hw.os, h2.trans hw.tape, h3.trans hw.output, hm, hlo, hw.globs⟩

/-- The world still holds what the iterator reads. -/
def GoodW (G : Gh) (B : Nat) (Keep : Store → Prop) (W : World) : Prop := ∃ G' σ', G.le G' ∧ WRel G' σ' W ∧ Keep σ' ∧ NoMaps σ' ∧ ∀ D o, G'.mark D o → D < B

/-- The contract of an iterator, on abstract values: it hands out xs. -/
def IterC {α : Type} (P : Program) (gf : FuncId) (cs : List AV) (Keep : Store → Prop) (encs : α → Array Value) (xs : List α) : Prop :=
  (∀ args w, (callFunc gf args).run P w = .ok (.enter gf args) w) ∧
  ∀ G σ w (hs : Array Value), WRel G σ w → NoMaps σ → Keep σ → RepL G cs hs.toList →
    SeqStopsK Fence.wide 3 P gf hs encs (fun W W' => GoodW G w.heap.size Keep W → GoodW G w.heap.size Keep W') (· = xs) (fun _ => True) xs.length w

theorem markLt {G : Gh} {σ : Store} {w : World} (hw : WRel G σ w) : ∀ D o, G.mark D o → D < w.heap.size := fun D o h => (Array.getElem?_eq_some_iff.1 (hw.marks D o h).2.1).1

/-- A block that is no cells turns, or new ones come: the relation goes on. -/
theorem WRel.grown {G : Gh} {σ : Store} {W W' : World} {row : Option Nat} {B : Nat} (hw : WRel G σ W) (hn : NoMaps σ) (hb : G.base ≤ B) (hm : ∀ D o, G.mark D o → D < B) (hg : W.grownBy W' row)
    (hr : ∀ r, row = some r → B ≤ r ∧ ∃ o : Obj, W.heap[r]? = some o ∧ o.isCells = false) : WRel (G.frame G.lo G.mark) σ W' := by
  have keep : ∀ (k : Nat) (o : Obj), W.heap[k]? = some o → (o.isCells = true ∨ k < B) → W'.heap[k]? = some o := by
    intro k o hk hc
    have hlt := (Array.getElem?_eq_some_iff.1 hk).1
    rw [hg.block k hlt ?_]; exact hk
    intro e
    obtain ⟨q1, o', q2, q3⟩ := hr k e.symm
    rcases hc with hc | hc
    · rw [hk] at q2; cases q2; rw [hc] at q3; cases q3
    · omega
  refine hw.overC hn (Nat.le_trans hw.grew hg.size) hg.size hg.os hg.tape hg.output (fun k o hk hc => keep k o hk (.inl hc)) (fun k hk => ?_) (fun D o hD => ?_)
  · have hlt : k < W.heap.size := Nat.lt_of_lt_of_le hk hw.sz
    rw [keep k _ (Array.getElem?_eq_getElem hlt) (.inr (by omega))]
    exact (Array.getElem?_eq_getElem hlt).symm
  · obtain ⟨q1, q2, q3⟩ := hw.marks D o hD
    exact ⟨q1, keep D o q2 (.inr (hm D o hD)), q3⟩

theorem NoMaps.push {s : Store} (h : NoMaps s) {x : AObj} (hx : ∀ kv, x ≠ .mp kv) : NoMaps (s ++ [x]) := by
  intro i kv hi
  rcases Nat.lt_or_ge i s.length with hl | hl
  · rw [List.getElem?_append_left hl] at hi; exact h i kv hi
  · rw [List.getElem?_append_right hl] at hi
    cases hk : i - s.length with
    | zero => rw [hk] at hi; simp at hi; exact hx kv hi
    | succ k => rw [hk] at hi; simp at hi

theorem NoMaps.set {s : Store} (h : NoMaps s) {x : AObj} (hx : ∀ kv, x ≠ .mp kv) (j : Nat) : NoMaps (s.set j x) := by
  intro i kv hi
  rw [List.getElem?_set] at hi
  split at hi
  · split at hi
    · cases hi; exact hx kv rfl
    · cases hi
  · exact h i kv hi

end Go.Pa

/-! A range over a function: the rule, joined. -/
namespace Go.Pa
set_option linter.unusedSectionVars false
variable [GTab]
variable {P : Program} {N : Nat}

/-! ### The assignment to the loop's left sides -/

def asgOps : List Oper → Option (List (Tmp × Tmp))
  | [] => some []
  | ⟨some d, .assign (.tmp s), _, _, _, none⟩ :: os => (asgOps os).map ((d, s) :: ·)
  | _ => none

def asgCode : Code → Option (List (Tmp × Tmp))
  | .region _ ops false => asgOps ops.toList
  | .seq a b => match asgCode a, asgCode b with
    | some x, some y => some (x ++ y)
    | _, _ => none
  | _ => none

def asgAct (ms : List (Tmp × Tmp)) (a : Act) : Act := ms.foldl (fun a p => a.put (some p.1) (a.eval (.tmp p.2))) a
def asgEnv (ms : List (Tmp × Tmp)) (e : Env) : Env := ms.foldl (fun e p => (p.1, evO e (.tmp p.2)) :: e) e

theorem asgOps_run {l n : Nat} {ops : Array Oper} {Q : Exit → Act → World → Prop} : ∀ {os : List Oper} {ms : List (Tmp × Tmp)} {a : Act} {w : World}, asgOps os = some ms → Q .normal (asgAct ms a) w → wpListIn (Fence.wide.inRound l) n P ops Q os a w
  | [], ms, a, w, h, hq => by simp only [asgOps, Option.some.injEq] at h; subst h; exact hq
  | o :: os, ms, a, w, h, hq => by
    unfold asgOps at h
    split at h
    · cases ‹_ :: _ = _›
    · rename_i d s ty pos af os' heq
      cases heq
      cases hr : asgOps os with
      | none => simp [hr] at h
      | some ms' =>
        simp only [hr, Option.map_some, Option.some.injEq] at h
        subst h
        unfold wpListIn
        rw [if_pos (by simp [Region.wanted])]
        unfold Oper.wpIn
        refine ⟨fun _ _ => trivial, ?_⟩
        rw [Oper.semAt_eq _ _ _ (by intro c hc; cases hc)]
        simp only [execOp, Sem.run_pure, Oper.uponIn_value]
        exact asgOps_run hr hq
    · cases h

theorem asgCode_run {l n : Nat} {Q : Exit → Act → World → Prop} : ∀ {c : Code} {ms : List (Tmp × Tmp)} {a : Act} {w : World}, asgCode c = some ms → Q .normal (asgAct ms a) w → c.wpIn (Fence.wide.inRound l) n P Q a w
  | .region id ops d, ms, a, w, h, hq => by
    cases d with
    | true => simp [asgCode] at h
    | false => exact wpIn_region_list (asgOps_run (by simpa [asgCode] using h) hq)
  | .seq x y, ms, a, w, h, hq => by
    unfold asgCode at h
    split at h
    · rename_i m1 m2 h1 h2
      cases h
      refine wpIn_seq (asgCode_run h1 ?_)
      refine asgCode_run h2 ?_
      unfold asgAct at hq ⊢
      rw [List.foldl_append] at hq
      exact hq
    · cases h
  | .skip, _, _, _, h, _ => by simp [asgCode] at h
  | .cond _ _ _, _, _, _, h, _ => by simp [asgCode] at h
  | .block _ _, _, _, _, h, _ => by simp [asgCode] at h
  | .exit _, _, _, _, h, _ => by simp [asgCode] at h
  | .ret, _, _, _, h, _ => by simp [asgCode] at h
  | .loop _, _, _, _, h, _ => by simp [asgCode] at h
  | .rangeFunc _ _ _ _, _, _, _, h, _ => by simp [asgCode] at h
  | .scope _, _, _, _, h, _ => by simp [asgCode] at h
  | .label _, _, _, _, h, _ => by simp [asgCode] at h
  | .goto _, _, _, _, h, _ => by simp [asgCode] at h
  | .refuse _, _, _, _, h, _ => by simp [asgCode] at h

theorem asg_rel {G : Gh} : ∀ {ms : List (Tmp × Tmp)} {e : Env} {a : Act}, (∀ p ∈ ms, p.1 < N) → ERel G N e a → ERel G N (asgEnv ms e) (asgAct ms a)
  | [], _, _, _, h => h
  | p :: ms, e, a, hm, h => by
    simp only [asgEnv, asgAct, List.foldl_cons]
    exact asg_rel (fun q hq => hm q (List.mem_cons_of_mem _ hq)) (h.put (some p.1) (fun t ht => by cases ht; exact hm p (by simp)) (rep_evO h (.tmp p.2)))

def parEnv : List Tmp → List AV → Env → Env
  | p :: ps, x :: xs, e => parEnv ps xs ((p, x) :: e)
  | _, _, e => e

theorem par_rel {G : Gh} : ∀ {ps : List Tmp} {xs : List AV} {vs : List Value} {e : Env} {a : Act}, (∀ p ∈ ps, p < N) → RepL G xs vs → vs.length = ps.length → ERel G N e a →
    ERel G N (parEnv ps xs e) { tmps := (ps.zip vs).foldl (fun t (p : Tmp × Value) => t.setIfInBounds p.1 p.2) a.tmps, defers := a.defers }
  | [], xs, vs, e, a, _, _, hl, h => by
    have : vs = [] := by simpa using hl
    subst this
    cases xs <;> exact h
  | p :: ps, xs, vs, e, a, hp, hr, hl, h => by
    cases hr with
    | nil => simp at hl
    | cons h1 h2 =>
      simp only [parEnv, List.zip_cons_cons, List.foldl_cons]
      exact par_rel (a := a.put (some p) _) (fun q hq => hp q (List.mem_cons_of_mem _ hq)) h2 (by simpa using hl) (h.put (some p) (fun t ht => by cases ht; exact hp p (by simp)) h1)

/-- **A range over a function.** -/
theorem awp_range {α : Type} {g : Operand} {ps : Array Tmp} {assign body : Code} {gf : FuncId} {cs : List AV} {env : Env} {σ : Store} {K : Exit → Env → Store → Prop} {Keep : Store → Prop} {encs : α → Array Value} {xs : List α}
    (hg : evO env g = .fn gf [] cs) (hit : IterC P gf cs Keep encs xs) {ms : List (Tmp × Tmp)} (hms : asgCode assign = some ms) (hmN : ∀ p ∈ ms, p.1 < N) (hbN : codeOk N body = true)
    (encA : α → List AV) (henc : ∀ G x, RepL G (encA x) (encs x).toList) (hps : ∀ x, (encs x).size = ps.size) (hpsN : ∀ p ∈ ps.toList, p < N)
    (Inv : List α → Store → Prop) (h0 : Inv [] σ) (hinv : ∀ pre s, Inv pre s → Keep s ∧ NoMaps s)
    (hround : ∀ pre x s, pre.length < xs.length → Inv pre s → vcR P N body (fun ex _ s' => match ex with | .normal => Inv (pre ++ [x]) s' | _ => False) (asgEnv ms (parEnv ps.toList (encA x) env)) s)
    (hdone : ∀ s, Inv xs s → K .normal env s) : AWp P N (.rangeFunc g ps assign body) K env σ := by
  intro G0 G a w hg0 he hw
  have hfn := rep_evO he g
  rw [hg] at hfn
  obtain ⟨gs, hs, hv, hgs, hcs⟩ := hfn.fn_inv
  have hgs0 : gs = #[] := by cases hgs' : gs.toList with
    | nil => exact Array.toList_eq_nil_iff.1 hgs'
    | cons x y => rw [hgs'] at hgs; cases hgs
  subst hgs0
  obtain ⟨hk0, hn0⟩ := hinv _ _ h0
  have hlt := markLt hw
  have hbB : G.base ≤ w.heap.size := hw.sz
  refine (wpIn_wide (n := 4)).1 (wpIn_rangeFunc_ownG (F := Fence.wide) (α := α) rfl (by omega) hv trivial hit.1 (hit.2 G σ w hs hw hn0 hk0 hcs) (fun h k => fun q => k (h q)) (fun W l o o' hl hlo ho _ => ?hKb) (RowKit.Below.refl _ _) hps
    (fun pre W => ∃ G' s, G.le G' ∧ G'.mark = G.mark ∧ WRel G' s W ∧ Inv pre s) (fun _ _ _ => False) ?hI (fun _ _ _ _ _ h => h.elim) ⟨G, σ, .refl G, rfl, hw, h0⟩
    (fun x => asgAct ms { tmps := (ps.zip (encs x)).foldl (fun t (p, v) => t.setIfInBounds p v) a.tmps, defers := [] })
    (fun l x W K hK => asgCode_run hms hK) ?hbody ?hdone (fun _ _ _ _ _ _ h => h.elim))
  case hKb =>
    rintro ⟨G', s, q1, q2, q3, q4, q5⟩
    have hgr : W.grownBy (W.putObj l o') (some l) := grownBy_putObj' W l o'
    have hb' : G'.base ≤ w.heap.size := by rw [q1.base]; exact hbB
    exact ⟨_, s, ⟨q1.base, q1.w0, q1.imm, q1.obj, q1.lo, q1.mark⟩, q2.grown q4 hb' q5 hgr (fun r e => by cases e; exact ⟨hl, o, hlo, ho⟩), q3, q4, q5⟩
  case hI =>
    rintro pre W W' row ⟨G', s, q1, q2, q3, q4⟩ hgr hr
    have hb' : G'.base ≤ w.heap.size := by rw [q1.base]; exact hbB
    exact ⟨_, s, ⟨q1.base, q1.w0, q1.imm, q1.obj, q1.lo, q1.mark⟩, q2, q3.grown (hinv _ _ q4).2 hb' (fun D o hD => hlt D o (by rw [← q2]; exact hD)) hgr hr, q4⟩
  case hbody =>
    rintro l pre x W ⟨G', s, q1, q2, q3, q4⟩ hlen
    obtain ⟨k1, k2⟩ := hinv _ _ q4
    let mk : Nat → Obj → Prop := fun D o => G'.base ≤ D ∧ W.heap[D]? = some o ∧ o.isCells = false
    have hb' : G'.base ≤ w.heap.size := by rw [q1.base]; exact hbB
    have hwr : WRel (G'.frame W.heap.size mk) s W := q3.overC k2 (Nat.le_refl _) (Nat.le_refl _) rfl rfl rfl (fun _ _ h _ => h) (fun _ _ => rfl) (fun D o h => h)
    have hrel : ERel (G'.frame W.heap.size mk) N (asgEnv ms (parEnv ps.toList (encA x) env)) (asgAct ms { tmps := (ps.zip (encs x)).foldl (fun t (p, v) => t.setIfInBounds p v) a.tmps, defers := [] }) := by
      refine asg_rel hmN ?_
      have hbase : ERel (G'.frame W.heap.size mk) N env { tmps := a.tmps, defers := [] } := ⟨he.1, .nil hwr.globs, fun t y hy => let ⟨v, hv, hr⟩ := he.2.2 t y hy; ⟨v, hv, rep_frame (hr.mono q1)⟩⟩
      have := par_rel (ps := ps.toList) hpsN (henc _ x) (by have := hps x; simpa using this) hbase
      rw [← Array.foldl_toList, Array.toList_zip]
      exact this
    refine Code.wpIn_mono ?_ (vcR_sound hbN (hround pre x s hlen q4) l (G'.frame W.heap.size mk) (G'.frame W.heap.size mk) _ W (.refl _) hrel hwr)
    rintro ex a2 W2 ⟨G2, e2, s2, p1, p2, p3, p4⟩
    cases ex with
    | normal =>
      obtain ⟨j1, j2⟩ := hinv _ _ p4
      have hsz : W.heap.size ≤ W2.heap.size := by have := p3.grew; rw [p1.lo] at this; exact this
      have hG : G.le (G2.frame G.lo G.mark) := ⟨p1.base.trans q1.base, p1.w0.trans q1.w0, fun b o c h => p1.imm b o c (q1.imm b o c h), fun i y h => p1.obj i y (q1.obj i y h), rfl, fun _ _ h => h⟩
      have hmm : ∀ D o, G.mark D o → G2.mark D o := fun D o hD => p1.mark D o (q3.marks D o (q1.mark D o hD))
      have hlo2 : G.lo ≤ W2.heap.size := Nat.le_trans (by rw [← q1.lo]; exact q3.grew) hsz
      have hw2 : WRel (G2.frame G.lo G.mark) s2 W2 := p3.overC j2 hlo2 (Nat.le_refl _) rfl rfl rfl (fun _ _ h _ => h) (fun _ _ => rfl) (fun D o hD => p3.marks D o (hmm D o hD))
      refine ⟨⟨hsz, fun k o hB hk ho => (p3.marks k o (p1.mark k o ⟨by omega, hk, ho⟩)).2.1⟩, fun _ => ⟨_, s2, hG, hw2, j1, j2, fun D o hD => hlt D o hD⟩, _, s2, hG, rfl, hw2, p4⟩
    | ret => exact p4.elim
    | exit i => exact p4.elim
    | goto i => exact p4.elim
    | panic c => exact p4.elim
    | outgrown => exact p4.elim
  case hdone =>
    rintro D ys W hD rfl ⟨G', s, q1, q2, q3, q4⟩ hK
    obtain ⟨k1, k2⟩ := hinv _ _ q4
    have hlo : G'.lo ≤ w.heap.size := by rw [q1.lo]; exact hw.grew
    have hb' : G'.base ≤ w.heap.size := by rw [q1.base]; exact hbB
    have hw2 : WRel (G'.frame G'.lo (fun E o => G'.mark E o ∨ (E = D ∧ o = .deferred (some [])))) s W := q3.overC k2 q3.grew (Nat.le_refl _) rfl rfl rfl (fun _ _ h _ => h) (fun _ _ => rfl) (fun E o hE => by
      rcases hE with hE | ⟨rfl, rfl⟩
      · exact q3.marks E o hE
      · exact ⟨by omega, hK, rfl⟩)
    have hle : G'.le (G'.frame G'.lo (fun E o => G'.mark E o ∨ (E = D ∧ o = .deferred (some [])))) := ⟨rfl, rfl, fun _ _ _ h => h, fun _ _ h => h, rfl, fun _ _ h => .inl h⟩
    obtain ⟨_, Ds, d1, d2, d3⟩ := he.2.1
    refine ⟨_, env, s, (hg0.trans q1).trans hle, ⟨he.1, ⟨hw2.globs, D :: Ds, by simp [d1, markOf], ?_, fun E hE => ?_⟩, fun t y hy => let ⟨v, hv, hr⟩ := he.2.2 t y hy; ⟨v, hv, (hr.mono q1).mono hle⟩⟩, hw2, hdone s q4⟩
    · refine List.nodup_cons.2 ⟨fun hm => ?_, d2⟩
      have := hlt D _ (d3 D hm).2
      omega
    · rcases List.mem_cons.1 hE with rfl | hE
      · exact ⟨by show G'.lo ≤ _; omega, .inr ⟨rfl, rfl⟩⟩
      · exact ⟨by show G'.lo ≤ _; rw [q1.lo]; exact (d3 E hE).1, .inl (q1.mark _ _ (d3 E hE).2)⟩

end Go.Pa

/-! What an iterator knows of the world that a round leaves. -/
namespace Go.Pa
set_option linter.unusedSectionVars false
variable [GTab]

theorem ptr_inv {G : Gh} {id off : Nat} {v : Value} (h : Rep G (.ptr id off) v) : ∃ b n, v = .pointer (some ⟨b, off, none⟩) ∧ G.obj[id]? = some (b, n) := by
  cases h with
  | ptr _ _ b n ho => exact ⟨b, n, rfl, ho⟩

theorem goodW_start {G : Gh} {σ : Store} {w W : World} {Keep : Store → Prop} (hw : WRel G σ w) (hn : NoMaps σ) (hk : Keep σ) (hB : RowKit.Below w.heap.size w W) : GoodW G w.heap.size Keep W := by
  refine ⟨G.frame G.lo G.mark, σ, ⟨rfl, rfl, fun _ _ _ h => h, fun _ _ h => h, rfl, fun _ _ h => h⟩, ?_, hk, hn, fun D o h => markLt hw D o h⟩
  have old : ∀ (k : Nat) (o : Obj), w.heap[k]? = some o → W.heap[k]? = some o := fun k o h => by
    rw [hB.block k (Array.getElem?_eq_some_iff.1 h).1]; exact h
  exact hw.overC hn (Nat.le_trans hw.grew hB.size) hB.size hB.os hB.tape hB.output (fun k o h _ => old k o h) (fun k hk => hB.block k (Nat.lt_of_lt_of_le hk hw.sz))
    (fun D o h => ⟨(hw.marks D o h).1, old D o (hw.marks D o h).2.1, (hw.marks D o h).2.2⟩)

theorem goodW_box {G : Gh} {B id b n : Nat} {x : AV} {W : World} (h : GoodW G B (fun s => s[id]? = some (.box [x])) W) (ho : G.obj[id]? = some (b, n)) :
    ∃ c G' σ', W.cell? ⟨b, 0, none⟩ = some c ∧ G.le G' ∧ WRel G' σ' W ∧ Rep G' x c := by
  obtain ⟨G', σ', q1, q2, q3, _, _⟩ := h
  obtain ⟨b', n', arr, ty, cs, h1, h2, h3, h4, h5, h6, h7, h8, h9⟩ := q2.objs id _ q3
  cases h1
  rw [q1.obj _ _ ho] at h2
  cases h2
  obtain ⟨c, hc, hr⟩ := h8 0 x rfl
  exact ⟨c, G', σ', by simp [World.cell?, h3, hc], q1, q2, hr⟩

theorem bytes_eq_of_map {s t : ByteArray} (h : s.data.toList.map (fun b => (b.toNat : Int)) = t.data.toList.map (fun b => (b.toNat : Int))) : s = t := by
  have : s.data.toList = t.data.toList := by
    have hinj : ∀ (x y : List UInt8), x.map (fun b => (b.toNat : Int)) = y.map (fun b => (b.toNat : Int)) → x = y := by
      intro x
      induction x with
      | nil => intro y hy; cases y with
        | nil => rfl
        | cons b y => simp at hy
      | cons a x ih => intro y hy; cases y with
        | nil => simp at hy
        | cons b y =>
          simp only [List.map_cons, List.cons.injEq] at hy
          have hab : a = b := UInt8.toNat_inj.1 (by omega)
          rw [hab, ih y hy.2]
    exact hinj _ _ h
  apply ByteArray.ext
  exact Array.ext' this

end Go.Pa

/-! Words put together by 'or' and by sums are the same. -/
namespace Go.Pa
set_option linter.unusedSimpArgs false
set_option linter.unusedVariables false
set_option linter.unusedSectionVars false
variable [GTab]

theorem ior_add {x y : Int} {e : Nat} (hx : 0 ≤ x) (hx' : x < 2 ^ e) (hy : 0 ≤ y) (hs : y * 2 ^ e + x < 18446744073709551616) : ior .u64 x (y * 2 ^ e) = y * 2 ^ e + x := by
  obtain ⟨m, rfl⟩ := Int.eq_ofNat_of_zero_le hx
  obtain ⟨n, rfl⟩ := Int.eq_ofNat_of_zero_le hy
  have e1 : ((n : Int) * 2 ^ e) = ((n * 2 ^ e : Nat) : Int) := by simp
  have hm : m < 2 ^ e := by
    have : ((2 ^ e : Nat) : Int) = (2 : Int) ^ e := by simp
    omega
  rw [e1] at hs ⊢
  have hnat : n * 2 ^ e + m < 18446744073709551616 := by omega
  unfold ior
  have h1 : (BitVec.ofInt 64 (m : Int)).toNat = m := by
    simp [BitVec.toNat_ofInt]; omega
  have h2 : (BitVec.ofInt 64 ((n * 2 ^ e : Nat) : Int)).toNat = n * 2 ^ e := by
    rw [BitVec.toNat_ofInt]; omega
  have h3 : (BitVec.ofInt IntKind.u64.bits (m : Int) ||| BitVec.ofInt IntKind.u64.bits ((n * 2 ^ e : Nat) : Int)).toNat = n * 2 ^ e + m := by
    show (BitVec.ofInt 64 (m : Int) ||| BitVec.ofInt 64 ((n * 2 ^ e : Nat) : Int)).toNat = _
    rw [BitVec.toNat_or, h1, h2, Nat.or_comm, ← Nat.shiftLeft_eq, Nat.shiftLeft_add_eq_or_of_lt hm]
  rw [h3, wrap_u64 (by omega) (by omega)]
  omega

end Go.Pa

/-! From the contract of a law to its row: arguments that are integers, strings and slices of integers. -/
namespace Go.Pa
set_option linter.unusedSectionVars false
variable [GTab]
open Go.ChangeShapes Go.WideShapes Go.RowKit
open Go.ChangeMaps (open_string)

/-- The kinds of a law's parameters. -/
inductive PK where
  | int (k : IntKind)
  | str
  | ints (k : IntKind)

/-- A number of its kind. -/
def Okk (k : IntKind) (n : Int) : Prop := k.min ≤ n ∧ n ≤ k.max

def PK.fits (P : Program) (t : TypeId) : PK → Prop
  | .int k => P.underlying t = some (.int k)
  | .str => P.underlying t = some .string
  | .ints k => ∃ e, P.underlying t = some (.slice e) ∧ P.underlying e = some (.int k) ∧ P.cellsOf e = 1

/-- What is known of an argument. -/
def PK.says : PK → AV → Prop
  | .int k, x => ∃ n, x = .int k n ∧ Okk k n
  | .str, x => ∃ l, x = .str l ∧ U8s l ∧ l.length ≤ 9223372036854775807
  | .ints k, x => ∃ l, x = .ints k l ∧ (∀ n ∈ l, Okk k n) ∧ l.length ≤ 9223372036854775807

def fitsAll (P : Program) : List PK → List TypeId → Prop
  | [], [] => True
  | p :: ps, t :: ts => p.fits P t ∧ fitsAll P ps ts
  | _, _ => False

def saysAll : List PK → List AV → Prop
  | [], [] => True
  | p :: ps, x :: xs => p.says x ∧ saysAll ps xs
  | _, _ => False

theorem saysAll_cons {p : PK} {ps : List PK} {xs : List AV} (h : saysAll (p :: ps) xs) : ∃ x r, xs = x :: r ∧ p.says x ∧ saysAll ps r := by
  cases xs with
  | nil => exact h.elim
  | cons x r => exact ⟨x, r, rfl, h.1, h.2⟩
theorem saysAll_nil {xs : List AV} (h : saysAll [] xs) : xs = [] := by
  cases xs with
  | nil => rfl
  | cons x r => exact h.elim

theorem okk_u8s {l : List Int} (h : ∀ n ∈ l, Okk .u8 n) : U8s l := fun n hn => by
  have := h n hn
  simp [Okk, IntKind.min, IntKind.max, IntKind.signed, IntKind.bits] at this
  omega
theorem okk_i64 {n : Int} (h : Okk .i64 n) : -9223372036854775808 ≤ n ∧ n < 9223372036854775808 := by
  simp [Okk, IntKind.min, IntKind.max, IntKind.signed, IntKind.bits] at h
  omega
theorem okk_u64 {n : Int} (h : Okk .u64 n) : 0 ≤ n ∧ n < 18446744073709551616 := by
  simp [Okk, IntKind.min, IntKind.max, IntKind.signed, IntKind.bits] at h
  omega
theorem okk_u8 {n : Int} (h : Okk .u8 n) : 0 ≤ n ∧ n < 256 := by
  simp [Okk, IntKind.min, IntKind.max, IntKind.signed, IntKind.bits] at h
  omega

section
variable {H : Type} {enc : TypeId × Value → H} {P : Program} {W : World}

theorem okk_wf {k : IntKind} {n : Int} (h : (Lit.int k n).wf = true) : Okk k n := by
  simpa [Lit.wf, Okk] using h

theorem now_cell {b o : Nat} {c : Value} (h : W.cell? ⟨b, o, none⟩ = some c) (h1 : c.oneCell' = true) : (Gh.now W).imm b o = some c := by
  simp [Gh.now, h, h1]

theorem open_arg {r : Reach} {b0 : Nat} {pk : PK} {t : TypeId} {v : Value} {d : DataW H} {ps : List MemPlace} (hf : pk.fits P t) (hval : Value.okWide P W r b0 t v)
    (hd : DataW.Trod enc P W 0 (fun _ => true) true t v d ps) : ∃ x, pk.says x ∧ Rep (Gh.now W) x v := by
  cases pk with
  | int k =>
    obtain ⟨n, rfl, _, _, hw⟩ := open_int hf hval hd
    exact ⟨.int k n, ⟨n, rfl, okk_wf hw⟩, .int k n⟩
  | str =>
    obtain ⟨s, rfl, _, _, hs⟩ := open_string hf hval hd
    refine ⟨.str (s.data.toList.map fun b => (b.toNat : Int)), ⟨_, rfl, ?_, ?_⟩, .str _ s rfl⟩
    · intro x hx
      simp only [List.mem_map] at hx
      obtain ⟨b, _, rfl⟩ := hx
      have := b.toNat_lt
      omega
    · have : s.data.toList.length = s.size := by rw [Array.length_toList]; rfl
      rw [List.length_map, this]
      have h2 := hs
      unfold maxLen at h2
      omega
  | ints k =>
    obtain ⟨e, h1, h2, h3⟩ := hf
    obtain ⟨a, len, cap, rfl⟩ := okWide_slice h1 hval
    obtain ⟨fuel, hq⟩ := hd
    rcases open_ints h1 h2 h3 hq with ⟨hcs, _⟩ | ⟨a', len', cap', zs, hcs, _, hl, hm, hz, _, hcell, hw⟩
    · simp [Value.cells] at hcs
      obtain ⟨rfl, rfl, rfl⟩ := hcs
      exact ⟨.ints k [], ⟨[], rfl, by simp, by simp⟩, .ints0 k none 0⟩
    · simp [Value.cells] at hcs
      obtain ⟨rfl, rfl, rfl⟩ := hcs
      simp only [if_true] at hz
      have hlen : (zs.take len).length = len := by rw [List.length_take]; omega
      refine ⟨.ints k (zs.take len), ⟨_, rfl, fun n hn => okk_wf (hw n (List.mem_of_mem_take hn)), by rw [hlen]; simp only [maxLen] at hm; omega⟩, ?_⟩
      rcases Nat.eq_zero_or_pos len with h0 | h0
      · subst h0
        exact .ints0 k _ _
      · have hs : a'.spot = none := by
          have := hcell 0 (by omega)
          simp only [Addr.add, if_true, World.cell?] at this
          split at this
          · split at this
            · cases this
            · rename_i hsp; simpa using hsp
          · cases this
        obtain ⟨b, o, sp⟩ := a'
        simp only at hs
        subst hs
        have key : Rep (Gh.now W) (.ints k (zs.take len)) (.slice (some ⟨b, o, none⟩) (zs.take len).length cap) := by
          refine .ints k _ b o cap (by omega) fun i x hx => ?_
          rw [List.getElem?_take] at hx
          split at hx
          · have hi : i < zs.length := (List.getElem?_eq_some_iff.1 hx).1
            have := hcell i hi
            rw [add_lit] at this
            refine now_cell (c := .int k x) ?_ rfl
            rw [this]
            simp [List.getD, hx]
          · cases hx
        rw [hlen] at key
        exact key

theorem open_args : ∀ {ks : List PK} {ts : List TypeId} {vs : List Value} {ds : List (DataW H)} {ps : List MemPlace}, fitsAll P ks ts → (∀ (j : Nat) t v, ts[j]? = some t → vs[j]? = some v → ∃ r b, Value.okWide P W r b t v) →
    DataW.TrodAll enc P W 0 (fun _ => true) true ts vs ds ps → ∃ xs, saysAll ks xs ∧ RepL (Gh.now W) xs vs
  | [], [], vs, ds, ps, _, _, h => by
    obtain ⟨rfl, _, _⟩ := trodAll_nil h
    exact ⟨[], trivial, .nil⟩
  | k :: ks, t :: ts, vs, ds, ps, hf, hv, h => by
    obtain ⟨v, vs', d, ds', p, q, rfl, rfl, rfl, h1, h2⟩ := trodAll_cons h
    obtain ⟨r, b, hok⟩ := hv 0 t v rfl rfl
    obtain ⟨x, hx, hr⟩ := open_arg hf.1 hok h1
    obtain ⟨xs, hxs, hrs⟩ := open_args hf.2 (fun j t' v' a b => hv (j + 1) t' v' (by simpa using a) (by simpa using b)) h2
    exact ⟨x :: xs, ⟨hx, hxs⟩, .cons hr hrs⟩
  | [], _ :: _, _, _, _, hf, _, _ => hf.elim
  | _ :: _, [], _, _, _, hf, _, _ => hf.elim

theorem trod_len : ∀ {ts : List TypeId} {vs : List Value} {ds : List (DataW H)} {ps : List MemPlace} {sp : Nat → Bool} {hd : Bool} {b : Nat}, DataW.TrodAll enc P W b sp hd ts vs ds ps → ds.length = ts.length
  | [], _, _, _, _, _, _, h => by obtain ⟨_, rfl, _⟩ := trodAll_nil h; rfl
  | t :: ts, _, _, _, _, _, _, h => by
    obtain ⟨v, vs', d, ds', p, q, rfl, rfl, rfl, h1, h2⟩ := trodAll_cons h
    simp [trod_len h2]

theorem args_stay (hl : laidOutB P = true) {W' : World} (hb : Below W.heap.size W W') {sp : Nat → Bool} : ∀ {ts : List TypeId} {vs : List Value} {ds : List (DataW H)} {ps : List MemPlace}, (∀ t ∈ ts, P.readableRec t = true ∧ t < P.types.size) →
    DataW.TrodAll enc P W 0 (fun _ => true) true ts vs ds ps → (∀ p ∈ ps, p.block < W.heap.size) → (∀ p ∈ ps, sp p.block = true) → DataW.TrodAll enc P W' 0 sp true ts vs ds ps
  | [], vs, ds, ps, _, h, _, _ => by
    obtain ⟨rfl, rfl, rfl⟩ := trodAll_nil h
    exact rfl
  | t :: ts, vs, ds, ps, hr, h, hlt, hsp => by
    obtain ⟨v, vs', d, ds', p, q, rfl, rfl, rfl, h1, h2⟩ := trodAll_cons h
    obtain ⟨r1, r2⟩ := hr t (by simp)
    exact ⟨p, q, WideElems.Trod_stays hl r1 r2 h1 (fun x hx => hb.same (hlt x (by simp [hx]))) (fun x hx => hsp x (by simp [hx])),
      args_stay hl hb (fun t ht => hr t (by simp [ht])) h2 (fun x hx => hlt x (by simp [hx])) (fun x hx => hsp x (by simp [hx])), rfl⟩

/-- **A law's contract gives what its row asks.** -/
theorem law_contract {f : FuncId} {fn : Func} {s : ChangeSpec} {ks : List PK} {tb : TypeId} (hl : laidOutB P = true) (hfit : fitsAll P ks fn.params.toList)
    (hread : ∀ t ∈ fn.params.toList, P.readableRec t = true ∧ t < P.types.size) (hres : fn.resultTypes = #[tb]) (hbool : P.underlying tb = some .bool) (hvars : s.vars = [])
    (hs : ∀ ds : List (DataW H), ds.length = fn.params.toList.length → s.fn H ds = { results := [.lit (.bool true)], args := ds })
    (h : ∀ xs, saysAll ks xs → ACalls P f xs [] fun r _ => r = .bool true) {fresh handsOn : Bool} {base : Nat} {args : Array Value} {ds gs : List (DataW H)} {before : List MemPlace}
    (hglob : GlobOk (Gh.now W)) (hval : ∀ (j : Nat) t v, fn.params[j]? = some t → args[j]? = some v → Value.okWide P W .any base t v)
    (hW : DataW.Whole enc P fn.params.toList s.vars false W args.toList ds gs before) :
    Calls P f args W fun e W' => ∃ v, e = .returned v ∧ s.post enc P fn false fresh handsOn false W args v W' := by
  have hW' := hW
  obtain ⟨p, q, hA, hV, rfl, hfz, hnd⟩ := hW
  rw [hvars] at hV
  obtain ⟨rfl, rfl⟩ := trodVars_none hV
  obtain ⟨xs, hxs, hrs⟩ := open_args hfit (fun j t v a b => ⟨.any, base, hval j t v (by simpa using a) (by simpa using b)⟩) hA
  have hlen := trod_len hA
  refine ((h xs hxs).2 (Gh.now W) W args (WRel.now hglob) hrs).mono fun e W' ⟨v, r, σ', G', he, hle, hw', hr, hrb⟩ => ?_
  subst hrb
  cases hr
  refine ⟨.bool true, he, ?_⟩
  have hb : Below W.heap.size W W' := by
    have hw0 : G'.w0 = W := hle.w0
    have hbase : G'.base = W.heap.size := hle.base
    have := hw'.below (by rw [hw0, hbase])
    rw [hw0, hbase] at this
    exact this
  have hlt : ∀ x ∈ p, x.block < W.heap.size := fun x hx => by simpa using hW'.lt x (by simpa using hx)
  have hfn := hs ds hlen
  refine ⟨ds, [], p ++ [], [], p, [], by simpa [hvars] using hW', ?_, ?_, ?_, hb.frame _, fun h => by cases h⟩
  · rw [List.append_nil, hfn, hres]
    exact trodAll_mk1 (shut_bool hbool true)
  · rw [List.append_nil, hfn]
    exact args_stay hl hb hread hA hlt fun x hx => by simpa using hlt x hx
  · rw [List.append_nil, hfn, hvars]
    exact rfl
end
end Go.Pa

/-! An own object that will never turn again: from here on it is told of by its content. -/
namespace Go.Pa
set_option linter.unusedSectionVars false
variable [GTab]
variable {P : Program}

/-- 'y' is what 'x' becomes when object 'id', which is 'ob', is sealed. -/
inductive Fz (id : Nat) (ob : AObj) : AV → AV → Prop
  | same (x : AV) : Fz id ob x x
  | vecI (off len : Nat) (k : IntKind) (l : List Int) (ho : ob = .vecI k l) (hl : off + len ≤ l.length) : Fz id ob (.mvec id off len 1) (.ints k ((l.drop off).take len))
  | vecR (off len sz : Nat) (rs : List (List AV)) (ho : ob = .vecR sz rs) (hl : off + len ≤ rs.length) : Fz id ob (.mvec id off len sz) (.rows sz ((rs.drop off).take len))
  | box (off : Nat) (cs : List AV) (ho : ob = .box cs) : Fz id ob (.ptr id off) (.iptr (cs.drop off))
  | agg (cs ds : List AV) (hl : cs.length = ds.length) (h : ∀ (i : Nat) x y, cs[i]? = some x → ds[i]? = some y → Fz id ob x y) : Fz id ob (.agg cs) (.agg ds)
  | tup (cs ds : List AV) (hl : cs.length = ds.length) (h : ∀ (i : Nat) x y, cs[i]? = some x → ds[i]? = some y → Fz id ob x y) : Fz id ob (.tup cs) (.tup ds)
  | fn (f : FuncId) (fs cs ds : List AV) (hl : cs.length = ds.length) (h : ∀ (i : Nat) x y, cs[i]? = some x → ds[i]? = some y → Fz id ob x y) : Fz id ob (.fn f fs cs) (.fn f fs ds)

theorem Fz.all {id : Nat} {k : IntKind} {l : List Int} : Fz id (.vecI k l) (.mvec id 0 l.length 1) (.ints k l) := by
  have := Fz.vecI (id := id) 0 l.length k l rfl (by omega)
  simpa using this
theorem Fz.allR {id sz : Nat} {rs : List (List AV)} : Fz id (.vecR sz rs) (.mvec id 0 rs.length sz) (.rows sz rs) := by
  have := Fz.vecR (id := id) 0 rs.length sz rs rfl (by omega)
  simpa using this

/-- The same, of objects. -/
inductive FzO (id : Nat) (ob : AObj) : AObj → AObj → Prop
  | same (x : AObj) : FzO id ob x x
  | box (cs ds : List AV) (hl : cs.length = ds.length) (h : ∀ (i : Nat) x y, cs[i]? = some x → ds[i]? = some y → Fz id ob x y) : FzO id ob (.box cs) (.box ds)
  | vecR (sz : Nat) (rs rs' : List (List AV)) (hl : rs.length = rs'.length) (hs : ∀ r ∈ rs', r.length = sz) (h : ∀ (i : Nat) x y, rs.flatten[i]? = some x → rs'.flatten[i]? = some y → Fz id ob x y) : FzO id ob (.vecR sz rs) (.vecR sz rs')

def FzE (id : Nat) (ob : AObj) : Env → Env → Prop
  | [], _ => True
  | (t, y) :: e', e => (∃ x, e.get t = some x ∧ Fz id ob x y) ∧ FzE id ob e' e

def FzS (id : Nat) (ob : AObj) (s s' : Store) : Prop :=
  s'.length = s.length ∧ s'[id]? = some .dead ∧ ∀ (i : Nat) y, i ≠ id → s'[i]? = some y → ∃ x, s[i]? = some x ∧ FzO id ob x y

theorem FzS.set {id : Nat} {ob : AObj} {s : Store} (h : id < s.length) : FzS id ob s (s.set id .dead) :=
  ⟨by simp, by simp [h], fun i y hi hy => ⟨y, by rwa [List.getElem?_set_ne (Ne.symm hi)] at hy, .same _⟩⟩

theorem FzE.get {id : Nat} {ob : AObj} {e e' : Env} (h : FzE id ob e' e) : ∀ t y, e'.get t = some y → ∃ x, e.get t = some x ∧ Fz id ob x y := by
  induction e' with
  | nil => intro t y hy; simp [Env.get] at hy
  | cons p e' ih =>
    obtain ⟨u, v⟩ := p
    intro t y hy
    simp only [Env.get] at hy
    split at hy
    · rename_i hu; subst hu; cases hy; exact h.1
    · exact ih h.2 t y hy

/-- The ghost that knows of the sealed block. -/
def Gh.shut (G : Gh) (b : Nat) (w : World) : Gh := { G with imm := fun b' o => if b' = b then w.cell? ⟨b, o, none⟩ else G.imm b' o }

theorem WRel.shut {G : Gh} {σ : Store} {w : World} (hw : WRel G σ w) {id : Nat} {ob : AObj} {cs : List AV} (ho : σ[id]? = some ob) (hc : ob.cells = some cs) :
    ∃ G', G.le G' ∧ (∀ x y v, Fz id ob x y → Rep G x v → Rep G' y v) ∧ ∀ σ', FzS id ob σ σ' → WRel G' σ' w := by
  obtain ⟨b, n, arr, ty, q1, q2, q3, q4, q5, q6, q7, q8⟩ := (hw.objs id ob ho).get hc
  have hl : ob.live = true := by cases ob <;> first | rfl | cases hc
  have hcell : ∀ o, w.cell? ⟨b, o, none⟩ = arr[o]? := fun o => by simp [World.cell?, q2]
  have hne : ∀ (i : Nat) x bi, σ[i]? = some x → x.live = true → G.obj[i]? = some bi → i ≠ id → bi.1 ≠ b := fun i x bi h1 h2 h3 h4 h5 => h4 (hw.inj i id x ob bi (b, n) h1 ho h2 hl h3 q1 h5)
  have hg : G.le (G.shut b w) := ⟨rfl, rfl, fun b' o c h => by
    show (if b' = b then _ else _) = _
    split
    · rename_i e; subst e; rw [q6 o] at h; cases h
    · exact h, fun _ _ h => h, rfl, fun _ _ h => h⟩
  have himm : ∀ o c, arr[o]? = some c → (G.shut b w).imm b o = some c := fun o c h => by
    show (if b = b then w.cell? ⟨b, o, none⟩ else G.imm b o) = _
    rw [if_pos rfl, hcell, h]
  have hfz : ∀ x y v, Fz id ob x y → Rep G x v → Rep (G.shut b w) y v := by
    intro x y v hxy
    induction hxy generalizing v with
    | same x => exact fun h => h.mono hg
    | vecI off len k l hob hle =>
      subst hob; cases hc
      intro hr
      cases hr with
      | mvec _ _ _ _ cap b' m hb hcap hfit =>
      rw [q1] at hb; cases hb
      have hlen : ((l.drop off).take len).length = len := by simp; omega
      have key : Rep (G.shut b w) (.ints k ((l.drop off).take len)) (.slice (some ⟨b, off * 1, none⟩) ((l.drop off).take len).length cap) := by
        refine .ints k _ b _ cap (by omega) fun i x hx => ?_
        rw [List.getElem?_take] at hx
        split at hx
        · rw [List.getElem?_drop] at hx
          obtain ⟨c, hc, hr⟩ := q7.get (off + i) (.int k x) (by simp [hx])
          cases hr
          rw [List.getElem?_take] at hc
          split at hc
          · rw [Nat.mul_one]; exact himm _ _ (by simpa using hc)
          · cases hc
        · cases hx
      rw [hlen] at key
      exact key
    | vecR off len sz rs hob hle =>
      subst hob
      intro hr
      cases hr with
      | mvec _ _ _ _ cap b' m hb hcap hfit =>
      rw [q1] at hb; cases hb
      have hall : ∀ r ∈ rs, r.length = sz := by
        simp only [AObj.cells] at hc
        split at hc
        · assumption
        · cases hc
      have hcs : cs = rs.flatten := by
        have h0 := hc
        simp only [AObj.cells] at h0
        rw [if_pos hall] at h0
        cases h0; rfl
      subst hcs
      have hsub := sub_flatten hall off len
      have hlen : ((rs.drop off).take len).length = len := by simp; omega
      have cell : ∀ (i : Nat) y, ((rs.drop off).take len).flatten[i]? = some y → ∃ c, arr[off * sz + i]? = some c ∧ Rep G y c := by
        intro i y hy
        obtain ⟨c, hc, hr⟩ := q7.get _ _ (hsub i y hy)
        rw [List.getElem?_take] at hc
        split at hc
        · exact ⟨c, by simpa using hc, hr⟩
        · cases hc
      have key : Rep (G.shut b w) (.rows sz ((rs.drop off).take len)) (.slice (some ⟨b, off * sz, none⟩) ((rs.drop off).take len).length cap) := by
        refine .rows sz _ b _ cap (fun i => (arr[off * sz + i]?).getD (.bool false)) (by omega) (fun r hr => hall r (List.mem_of_mem_drop (List.mem_of_mem_take hr))) (fun i y hy => ?_) (fun i y hy => ?_)
        · obtain ⟨c, h1, _⟩ := cell i y hy
          rw [himm _ c h1, h1]; rfl
        · obtain ⟨c, h1, h2⟩ := cell i y hy
          rw [h1]; exact h2.mono hg
      rw [hlen] at key
      exact key
    | box off cs' hob =>
      subst hob; cases hc
      intro hr
      cases hr with
      | ptr _ _ b' m hb =>
      rw [q1] at hb; cases hb
      have cell : ∀ (i : Nat) y, (cs.drop off)[i]? = some y → ∃ c, arr[off + i]? = some c ∧ Rep G y c := by
        intro i y hy
        rw [List.getElem?_drop] at hy
        obtain ⟨c, hc, hr⟩ := q7.get _ _ hy
        rw [List.getElem?_take] at hc
        split at hc
        · exact ⟨c, by simpa using hc, hr⟩
        · cases hc
      refine .iptr _ b off (fun i => (arr[off + i]?).getD (.bool false)) (fun i y hy => ?_) (fun i y hy => ?_)
      · obtain ⟨c, h1, _⟩ := cell i y hy
        rw [himm _ c h1, h1]; rfl
      · obtain ⟨c, h1, h2⟩ := cell i y hy
        rw [h1]; exact h2.mono hg
    | agg cs' ds hle _ ih =>
      intro hr
      obtain ⟨vs, rfl, hrl⟩ := hr.agg_inv
      refine Rep.agg_of (RepL.of_get (by rw [← hle]; exact hrl.length) fun i y hy => ?_)
      have hi : i < cs'.length := by rw [hle]; exact (List.getElem?_eq_some_iff.1 hy).1
      obtain ⟨c, hc, hr⟩ := hrl.get i _ (List.getElem?_eq_getElem hi)
      exact ⟨c, hc, ih i _ y (List.getElem?_eq_getElem hi) hy c hr⟩
    | tup cs' ds hle _ ih =>
      intro hr
      cases hr with
      | tup _ vs f hl h hr =>
      refine .tup _ vs f (by rw [← hle]; exact hl) (fun i y hy => ?_) (fun i y hy => ?_)
      · have hi : i < cs'.length := by rw [hle]; exact (List.getElem?_eq_some_iff.1 hy).1
        exact h i _ (List.getElem?_eq_getElem hi)
      · have hi : i < cs'.length := by rw [hle]; exact (List.getElem?_eq_some_iff.1 hy).1
        exact ih i _ y (List.getElem?_eq_getElem hi) hy _ (hr i _ (List.getElem?_eq_getElem hi))
    | fn f fs cs' ds hle _ ih =>
      intro hr
      cases hr with
      | fn _ _ _ gs hs p q hl hl' h hr h' hr' =>
      refine .fn f fs _ gs hs p q hl (by rw [← hle]; exact hl') h (fun i x hx => (hr i x hx).mono hg) (fun i y hy => ?_) (fun i y hy => ?_)
      · have hi : i < cs'.length := by rw [hle]; exact (List.getElem?_eq_some_iff.1 hy).1
        exact h' i _ (List.getElem?_eq_getElem hi)
      · have hi : i < cs'.length := by rw [hle]; exact (List.getElem?_eq_some_iff.1 hy).1
        exact ih i _ y (List.getElem?_eq_getElem hi) hy _ (hr' i _ (List.getElem?_eq_getElem hi))
  refine ⟨G.shut b w, hg, hfz, fun σ' hσ => ?_⟩
  obtain ⟨z1, z2, z3⟩ := hσ
  have hold : ∀ (i : Nat) y, σ'[i]? = some y → y.live = true → i ≠ id ∧ ∃ x, σ[i]? = some x ∧ FzO id ob x y ∧ x.live = true := by
    intro i y hy hly
    have hi : i ≠ id := fun e => by subst e; rw [z2] at hy; cases hy; cases hly
    obtain ⟨x, hx, hxy⟩ := z3 i y hi hy
    exact ⟨hi, x, hx, hxy, by cases hxy <;> first | exact hly | rfl⟩
  refine ⟨by rw [z1]; exact hw.len, fun b' o c h => ?_, fun i y hy => ?_, fun i j oi oj bi bj a1 a2 a3 a4 a5 a6 a7 => ?_, hw.frame, hw.sz, hw.os, hw.tape, hw.output, hw.marks, hw.grew, hw.globs.mono hg.imm⟩
  · by_cases e : b' = b
    · subst e
      have h' : w.cell? ⟨b', o, none⟩ = some c := by
        have h2 : (if b' = b' then w.cell? ⟨b', o, none⟩ else G.imm b' o) = some c := h
        rwa [if_pos rfl] at h2
      refine ⟨h', q8 c ?_⟩
      rw [hcell] at h'
      exact List.mem_of_getElem? (by simpa using h')
    · have h2 : (if b' = b then w.cell? ⟨b, o, none⟩ else G.imm b' o) = some c := h
      rw [if_neg e] at h2
      exact hw.imm b' o c h2
  · cases hly : y.live with
    | false => cases y <;> first | trivial | cases hly
    | true =>
      obtain ⟨hi, x, hx, hxy, hlx⟩ := hold i y hy hly
      have hno : ∀ b' m, G.obj[i]? = some (b', m) → (∀ o, G.imm b' o = none) → ∀ o, (G.shut b w).imm b' o = none := fun b' m hb h0 o => by
        have := hne i x _ hx hlx hb hi
        show (if b' = b then _ else _) = _
        rw [if_neg this]; exact h0 o
      cases hxy with
      | same => exact objRel_mono hg (hw.objs i _ hx) (fun _ _ _ => rfl) (fun b' m hb _ h0 => hno b' m hb h0)
      | box cs' ds hle h =>
        obtain ⟨b', m, arr', ty', r1, r2, r3, r4, r5, r6, r7, r8⟩ := (hw.objs i _ hx).get (cs := cs') rfl
        refine objRel_mk (cs := ds) rfl r1 r2 r3 r5 (hno b' m r1 r6) (arr'.toList.take cs'.length) (RepL.of_get (by rw [← hle]; exact r7.length) fun j z hz => ?_) (fun j c hcc => ?_) r8
        · have hj : j < cs'.length := by rw [hle]; exact (List.getElem?_eq_some_iff.1 hz).1
          obtain ⟨c, hc', hr⟩ := r7.get j _ (List.getElem?_eq_getElem hj)
          exact ⟨c, hc', hfz _ _ _ (h j _ z (List.getElem?_eq_getElem hj) hz) hr⟩
        · rw [List.getElem?_take] at hcc
          split at hcc
          · simpa using hcc
          · cases hcc
      | vecR sz rs rs' hle hs h =>
        obtain ⟨_, _, _, _, cs', hcs', _⟩ := hw.objs i _ hx
        have hall : ∀ r ∈ rs, r.length = sz := by
          simp only [AObj.cells] at hcs'
          split at hcs'
          · assumption
          · cases hcs'
        obtain ⟨b', m, arr', ty', r1, r2, r3, r4, r5, r6, r7, r8⟩ := (hw.objs i _ hx).get (cs := rs.flatten) (by simp only [AObj.cells]; rw [if_pos hall])
        have hfl : rs.flatten.length = rs'.flatten.length := by
          have h1 := Cont.cells_length (c := .R sz rs) (sz := sz) ⟨rfl, hall⟩
          have h2 := Cont.cells_length (c := .R sz rs') (sz := sz) ⟨rfl, hs⟩
          simp only [Cont.cells, Cont.len] at h1 h2
          rw [h1, h2, hle]
        refine objRel_mk (cs := rs'.flatten) (by simp only [AObj.cells]; rw [if_pos hs]) r1 r2 r3 r5 (hno b' m r1 r6) (arr'.toList.take rs.flatten.length) (RepL.of_get (by rw [← hfl]; exact r7.length) fun j z hz => ?_) (fun j c hcc => ?_) r8
        · have hj : j < rs.flatten.length := by rw [hfl]; exact (List.getElem?_eq_some_iff.1 hz).1
          obtain ⟨c, hc', hr⟩ := r7.get j _ (List.getElem?_eq_getElem hj)
          exact ⟨c, hc', hfz _ _ _ (h j _ z (List.getElem?_eq_getElem hj) hz) hr⟩
        · rw [List.getElem?_take] at hcc
          split at hcc
          · simpa using hcc
          · cases hcc
  · obtain ⟨_, x, p1, _, p2⟩ := hold i oi a1 a3
    obtain ⟨_, y, p3, _, p4⟩ := hold j oj a2 a4
    exact hw.inj i j x y bi bj p1 p3 p2 p4 a5 a6 a7

/-- **Sealing.** -/
theorem awp_seal {N : Nat} {c : Code} {K : Exit → Env → Store → Prop} {e : Env} {s : Store} (id : Nat) {ob : AObj} {cs : List AV} (ho : s[id]? = some ob) (hc : ob.cells = some cs) (e' : Env) (s' : Store) (hs : FzS id ob s s') (he : FzE id ob e' e)
    (h : AWp P N c K e' s') : AWp P N c K e s := by
  intro G0 G a w hg hea hw
  obtain ⟨G', h1, h2, h3⟩ := hw.shut ho hc
  refine h G0 G' a w (hg.trans h1) ⟨hea.1, hea.2.1.mono h1, fun t y hy => ?_⟩ (h3 s' hs)
  obtain ⟨x, hx, hxy⟩ := he.get t y hy
  obtain ⟨v, hv, hr⟩ := hea.2.2 t x hx
  exact ⟨v, hv, h2 x y v hxy hr⟩

end Go.Pa

/-! Appending to an own slice where no maps are about. -/
namespace Go.Pa
set_option linter.unusedSectionVars false
variable [GTab]
variable {P : Program}

theorem append_bufM {σ s : Store} {t e : TypeId} {k : IntKind} {l l' : List Int} {r y : AV} {R : AV → Store → Prop} (hs : sliceElem P t = some (e, 1)) (hb : P.bytesOf e ≠ 0)
    (hx : Ext σ s) (h : BufI s σ.length r k l) (hn : NoMaps s) (hc : contA s y = some (.I k l') ∨ (contA s y = some .E ∧ l' = [])) (hf : appFits P e (l.length + l'.length))
    (hR : ∀ r' s', Ext σ s' → BufI s' σ.length r' k (l ++ l') → NoMaps s' → R r' s') : vcAppend P t r y s R := by
  have hlen := hx.len
  unfold vcAppend
  rcases hc with hc | ⟨hc, rfl⟩
  · simp only [hs, hc]
    refine ⟨hb, ?_⟩
    rcases h with ⟨rfl | rfl, rfl⟩ | ⟨id, rfl, ho, hn'⟩
    · refine ⟨trivial, fun h0 => hR _ _ hx (.inl ⟨.inl rfl, by simp [h0]⟩) hn, fun h0 => ⟨by simpa using hf, hR _ _ (hx.push _) (.inr ⟨s.length, by simp, by simp, hlen⟩) (hn.push (by intro kv; simp))⟩⟩
    · refine ⟨trivial, fun h0 => hR _ _ hx (.inl ⟨.inr rfl, by simp [h0]⟩) hn, fun h0 => ⟨by simpa using hf, hR _ _ (hx.push _) (.inr ⟨s.length, by simp, by simp, hlen⟩) (hn.push (by intro kv; simp))⟩⟩
    · simp only [ho]
      refine ⟨by simp, by simp, by simp, by simp, fun h0 => hR _ _ hx (.inr ⟨id, by simp [h0], by simp [h0, ho], hn'⟩) hn, fun h0 => ⟨hf, hR _ _ ((hx.set hn' _).push _) (.inr ⟨s.length, by simp, ?_, hlen⟩) ((hn.set (by intro kv; simp) _).push (by intro kv; simp))⟩⟩
      rw [List.getElem?_append_right (by simp)]
      simp
  · simp only [hs, hc]
    refine ⟨hb, ?_⟩
    rcases h with ⟨rfl | rfl, rfl⟩ | ⟨id, rfl, ho, hn'⟩
    · exact hR _ _ hx (.inl ⟨.inl rfl, rfl⟩) hn
    · exact hR _ _ hx (.inl ⟨.inr rfl, rfl⟩) hn
    · simp only [ho]
      exact hR _ _ hx (.inr ⟨id, by simp, by simpa using ho, hn'⟩) hn

theorem BufI.cells {s : Store} {n : Nat} {r : AV} {k : IntKind} {l : List Int} (h : BufI s n r k l) : r.cellsOf = some [r] := by
  rcases h with ⟨rfl | rfl, _⟩ | ⟨id, rfl, _, _⟩ <;> rfl

theorem BufI.ne {s : Store} {n : Nat} {r : AV} {k : IntKind} {l : List Int} (h : BufI s n r k l) (hl : l ≠ []) : ∃ id, r = .mvec id 0 l.length 1 ∧ s[id]? = some (.vecI k l) ∧ n ≤ id := by
  rcases h with ⟨_, h⟩ | h
  · exact absurd h hl
  · exact h

theorem FreshI.ne {s s' : Store} {k : IntKind} {l : List Int} {r : AV} (h : FreshI s k l r s') (hl : l ≠ []) : r = .mvec s.length 0 l.length 1 ∧ s' = s ++ [.vecI k l] := by
  rcases h with ⟨_, h, _⟩ | h
  · exact absurd h hl
  · exact h

theorem flat_noRef {v : AV} (h : v.flat = true) : v.noRef = true := by
  cases v <;> first | rfl | cases h

theorem ltL_flat {l : List AV} (h : l.all AV.flat = true) : ltL 0 l = true := by
  refine ltL_of fun i x hx => flat_noRef ?_
  exact List.all_eq_true.1 h x (List.mem_of_getElem? hx)

theorem flat2_noRef {v : AV} (h : v.flat2 = true) : v.noRef = true := by
  cases v with
  | agg cs => simp only [AV.flat2] at h; simp only [AV.noRef, AV.lt]; exact ltL_flat h
  | tup cs =>
    simp only [AV.flat2] at h
    simp only [AV.noRef, AV.lt]
    refine ltL_of fun i x hx => ?_
    have := List.all_eq_true.1 h x (List.mem_of_getElem? hx)
    simp only [Bool.or_eq_true] at this
    rcases this with h1 | h1
    · exact flat_noRef h1
    · cases x with
      | agg ds => simp only [AV.lt]; exact ltL_flat h1
      | _ => simp at h1
  | _ => exact flat_noRef h

theorem FrzL.same : ∀ {σ : Store} {args : List AV}, ltL 0 args = true → FrzL σ args args
  | _, [], _ => .nil
  | _, x :: xs, h => by
    simp only [ltL, Bool.and_eq_true] at h
    exact .cons (.same x h.1) (FrzL.same h.2)

/-- **A function that answers with a flat value, whatever it lays in its own store.** -/
theorem ACalls.pure0 {f : FuncId} {args : List AV} {v : AV} (h : ACalls P f args [] fun r _ => r = v) (hn : ltL 0 args = true) (hv : v.flat2 = true) (σ : Store) : ACalls P f args σ fun r σ' => r = v ∧ σ' = σ :=
  ACalls.lend (ACalls.frozen (h.mono fun r σ' h1 => ⟨fun i x hx => by simp at hx, by rw [h1]; exact .same _ (flat2_noRef hv)⟩)) (.same hn) hn hv

theorem ndt {p : Prop} [Decidable p] (h : (!decide p) = true) : ¬ p := by simpa using h
theorem ndf {p : Prop} [Decidable p] (h : (!decide p) = false) : p := by simpa using h
theorem leaf_d {q p : Prop} [Decidable q] [Decidable p] (h : q ↔ p) : AV.bool (decide q) = AV.bool (decide p) := by congr 1; simp only [h]
theorem leaf_n {q p : Prop} [Decidable q] [Decidable p] (h : ¬ q ↔ p) : AV.bool (!decide q) = AV.bool (decide p) := by
  congr 1
  rw [← decide_not]
  simp only [h]
theorem leaf_t {p : Prop} [Decidable p] (h : p) : AV.bool true = AV.bool (decide p) := by rw [decide_eq_true h]
theorem leaf_f {p : Prop} [Decidable p] (h : ¬ p) : AV.bool false = AV.bool (decide p) := by rw [decide_eq_false h]

section
variable {N : Nat}
theorem guardV_split {all os : List Oper} {d : Option Tmp} {op : Op} {want : Bool} {e : Env} {s : Store} {K : Env → Store → Prop} {t : Tmp} {c : Bool} (h1 : c = true → guardV P all os d op want e s K t (.bool true)) (h2 : c = false → guardV P all os d op want e s K t (.bool false)) :
    guardV P all os d op want e s K t (.bool c) := by
  cases c with
  | true => exact h1 rfl
  | false => exact h2 rfl
theorem guardD_split {es : List Nat} {all os : List Oper} {i : Nat} {d : Option Tmp} {op : Op} {want : Bool} {e : Env} {s : Store} {K : Env → Store → Prop} {t : Tmp} {c : Bool} (h1 : c = true → guardD P es all os i d op want e s K t (.bool true)) (h2 : c = false → guardD P es all os i d op want e s K t (.bool false)) :
    guardD P es all os i d op want e s K t (.bool c) := by
  cases c with
  | true => exact h1 rfl
  | false => exact h2 rfl
theorem condV_split {a b : Code} {K : Exit → Env → Store → Prop} {e : Env} {s : Store} {c : Bool} (h1 : c = true → condV P N a b K e s (.bool true)) (h2 : c = false → condV P N a b K e s (.bool false)) : condV P N a b K e s (.bool c) := by
  cases c with
  | true => exact h1 rfl
  | false => exact h2 rfl
theorem condR_split {a b : Code} {K : Exit → Env → Store → Prop} {e : Env} {s : Store} {c : Bool} (h1 : c = true → condR P N a b K e s (.bool true)) (h2 : c = false → condR P N a b K e s (.bool false)) : condR P N a b K e s (.bool c) := by
  cases c with
  | true => exact h1 rfl
  | false => exact h2 rfl
end

end Go.Pa

/-! Slices of rows under construction; nil told as an empty row. -/
namespace Go.Pa
set_option linter.unusedSectionVars false
variable [GTab]
variable {P : Program}

def BufR (s : Store) (n : Nat) (r : AV) (sz : Nat) (rs : List (List AV)) : Prop :=
  ((r = .nils ∨ r = .emp) ∧ rs = []) ∨ ∃ id, r = .mvec id 0 rs.length sz ∧ s[id]? = some (.vecR sz rs) ∧ n ≤ id

theorem append_bufR {σ s : Store} {t e : TypeId} {sz : Nat} {l l' : List (List AV)} {r y : AV} {R : AV → Store → Prop} (hs : sliceElem P t = some (e, sz)) (hb : P.bytesOf e ≠ 0)
    (hx : Ext σ s) (h : BufR s σ.length r sz l) (hc : contA s y = some (.R sz l')) (hl' : ∀ r ∈ l', r.length = sz) (hf : appFits P e (l.length + l'.length))
    (hR : ∀ r' s', Ext σ s' → BufR s' σ.length r' sz (l ++ l') → R r' s') : vcAppend P t r y s R := by
  have hlen := hx.len
  unfold vcAppend
  simp only [hs, hc]
  refine ⟨hb, ?_⟩
  rcases h with ⟨rfl | rfl, rfl⟩ | ⟨id, rfl, ho, hn⟩
  · refine ⟨rfl, hl', fun h0 => hR _ _ hx (.inl ⟨.inl rfl, by simp [h0]⟩), fun h0 => ⟨by simpa using hf, hR _ _ (hx.push _) (.inr ⟨s.length, by simp, by simp, hlen⟩)⟩⟩
  · refine ⟨rfl, hl', fun h0 => hR _ _ hx (.inl ⟨.inr rfl, by simp [h0]⟩), fun h0 => ⟨by simpa using hf, hR _ _ (hx.push _) (.inr ⟨s.length, by simp, by simp, hlen⟩)⟩⟩
  · simp only [ho]
    refine ⟨by simp, by simp, by simp, by simp, hl', fun h0 => hR _ _ hx (.inr ⟨id, by simp [h0], by simp [h0, ho], hn⟩), fun h0 => ⟨hf, hR _ _ ((hx.set hn _).push _) (.inr ⟨s.length, by simp, ?_, hlen⟩)⟩⟩
    rw [List.getElem?_append_right (by simp)]
    simp

/-- 'y' says no more than 'x'. -/
def Wk (x y : AV) : Prop := ∀ G v, Rep G x v → Rep G y v

theorem Wk.refl (x : AV) : Wk x x := fun _ _ h => h
theorem Wk.nilR (sz : Nat) : Wk .nils (.rows sz []) := fun _ _ h => rep_nil_rows sz h
theorem Wk.nilI (k : IntKind) : Wk .nils (.ints k []) := fun _ _ h => rep_nil_ints k h
theorem Wk.empI (k : IntKind) : Wk .emp (.ints k []) := fun _ _ h => rep_emp_ints k h
theorem Wk.empR (sz : Nat) : Wk .emp (.rows sz []) := fun _ v h => by cases h; exact .rows0 sz _ 0

def WkE : Env → Env → Prop
  | [], _ => True
  | (t, y) :: e', e => (∃ x, e.get t = some x ∧ Wk x y) ∧ WkE e' e

theorem WkE.get {e e' : Env} (h : WkE e' e) : ∀ t y, e'.get t = some y → ∃ x, e.get t = some x ∧ Wk x y := by
  induction e' with
  | nil => intro t y hy; simp [Env.get] at hy
  | cons p e' ih =>
    obtain ⟨u, v⟩ := p
    intro t y hy
    simp only [Env.get] at hy
    split at hy
    · rename_i hu; subst hu; cases hy; exact h.1
    · exact ih h.2 t y hy

/-- **Saying less.** -/
theorem awp_weak {N : Nat} {c : Code} {K : Exit → Env → Store → Prop} {e : Env} {s : Store} (e' : Env) (he : WkE e' e) (h : AWp P N c K e' s) : AWp P N c K e s := by
  intro G0 G a w hg hea hw
  refine h G0 G a w hg ⟨hea.1, hea.2.1, fun t y hy => ?_⟩ hw
  obtain ⟨x, hx, hxy⟩ := he.get t y hy
  obtain ⟨v, hv, hr⟩ := hea.2.2 t x hx
  exact ⟨v, hv, hxy G v hr⟩

def RwE (r y0 : AV) : Env → Env → Prop
  | [], _ => True
  | (t, y) :: e', e => (e.get t = some y ∨ (e.get t = some r ∧ y = y0)) ∧ RwE r y0 e' e

theorem RwE.get {r y0 : AV} {e e' : Env} (h : RwE r y0 e' e) : ∀ t y, e'.get t = some y → e.get t = some y ∨ (e.get t = some r ∧ y = y0) := by
  induction e' with
  | nil => intro t y hy; simp [Env.get] at hy
  | cons p e' ih =>
    obtain ⟨u, v⟩ := p
    intro t y hy
    simp only [Env.get] at hy
    split at hy
    · rename_i hu; subst hu; cases hy; exact h.1
    · exact ih h.2 t y hy

/-- A slice of rows that is ready: sealed, or nil, it is told of by its rows. -/
theorem awp_rows {N : Nat} {c : Code} {K : Exit → Env → Store → Prop} {e : Env} {s : Store} {n : Nat} {r : AV} {sz : Nat} {rs : List (List AV)} (hb : BufR s n r sz rs) (hsz : ∀ r ∈ rs, r.length = sz) (e' : Env)
    (he : RwE r (.rows sz rs) e' e) (h : ∀ s', AWp P N c K e' s') : AWp P N c K e s := by
  have he := he.get
  rcases hb with ⟨hr, rfl⟩ | ⟨id, rfl, ho, _⟩
  · intro G0 G a w hg hea hw
    refine h s G0 G a w hg ⟨hea.1, hea.2.1, fun t y hy => ?_⟩ hw
    rcases he t y hy with h1 | ⟨h1, rfl⟩
    · exact hea.2.2 t y h1
    · obtain ⟨v, hv, hrep⟩ := hea.2.2 t r h1
      refine ⟨v, hv, ?_⟩
      rcases hr with rfl | rfl
      · exact rep_nil_rows sz hrep
      · exact Wk.empR sz G v hrep
  · intro G0 G a w hg hea hw
    have hid : id < s.length := (List.getElem?_eq_some_iff.1 ho).1
    obtain ⟨G', h1, h2, h3⟩ := hw.shut ho (cs := rs.flatten) (by simp only [AObj.cells]; rw [if_pos hsz])
    refine h _ G0 G' a w (hg.trans h1) ⟨hea.1, hea.2.1.mono h1, fun t y hy => ?_⟩ (h3 _ (FzS.set hid))
    rcases he t y hy with h4 | ⟨h4, rfl⟩
    · obtain ⟨v, hv, hr⟩ := hea.2.2 t y h4
      exact ⟨v, hv, hr.mono h1⟩
    · obtain ⟨v, hv, hr⟩ := hea.2.2 t _ h4
      exact ⟨v, hv, h2 _ _ v .allR hr⟩

end Go.Pa

/-! At a function's return: an own object is sealed; contents are told of by less. -/
namespace Go.Pa
set_option linter.unusedSectionVars false
variable [GTab]
variable {P : Program}

/-- **Sealing at a return.** -/
theorem ACalls.shut {f : FuncId} {args : List AV} {σ : Store} {R : AV → Store → Prop} (h : ACalls P f args σ fun r s => ∃ id ob cs r' s', s[id]? = some ob ∧ AObj.cells ob = some cs ∧ Fz id ob r r' ∧ FzS id ob s s' ∧ R r' s') : ACalls P f args σ R := by
  refine ⟨h.1, fun G w vs hw hl => (h.2 G w vs hw hl).mono ?_⟩
  rintro e w' ⟨v, r, σ', G', he, hle, hw', hr, id, ob, cs, r', s', h1, h2, h3, h4, h5⟩
  obtain ⟨G2, g1, g2, g3⟩ := hw'.shut h1 h2
  exact ⟨v, r', s', G2, he, hle.trans g1, g3 s' h4, g2 r r' v h3 hr, h5⟩

/-- An object, told of by less. -/
inductive WkO : AObj → AObj → Prop
  | same (x : AObj) : WkO x x
  | box (cs ds : List AV) (hl : cs.length = ds.length) (h : ∀ (i : Nat) x y, cs[i]? = some x → ds[i]? = some y → Wk x y) : WkO (.box cs) (.box ds)

theorem WRel.less {G : Gh} {σ σ' : Store} {w : World} (hw : WRel G σ w) (hl : σ'.length = σ.length) (h : ∀ (i : Nat) y, σ'[i]? = some y → ∃ x, σ[i]? = some x ∧ WkO x y) : WRel G σ' w := by
  have live : ∀ {x y : AObj}, WkO x y → y.live = true → x.live = true := by
    intro x y hxy hy
    cases hxy <;> first | exact hy | rfl
  refine ⟨by rw [hl]; exact hw.len, hw.imm, fun i y hy => ?_, fun i j oi oj bi bj a1 a2 a3 a4 a5 a6 a7 => ?_, hw.frame, hw.sz, hw.os, hw.tape, hw.output, hw.marks, hw.grew, hw.globs⟩
  · obtain ⟨x, hx, hxy⟩ := h i y hy
    cases hxy with
    | same => exact hw.objs i _ hx
    | box cs ds hle hwk =>
      obtain ⟨b', m, arr', ty', r1, r2, r3, r4, r5, r6, r7, r8⟩ := (hw.objs i _ hx).get (cs := cs) rfl
      refine objRel_mk (cs := ds) rfl r1 r2 r3 r5 r6 (arr'.toList.take cs.length) (RepL.of_get (by rw [← hle]; exact r7.length) fun j z hz => ?_) (fun j c hcc => ?_) r8
      · have hj : j < cs.length := by rw [hle]; exact (List.getElem?_eq_some_iff.1 hz).1
        obtain ⟨c, hc', hr⟩ := r7.get j _ (List.getElem?_eq_getElem hj)
        exact ⟨c, hc', hwk j _ z (List.getElem?_eq_getElem hj) hz G c hr⟩
      · rw [List.getElem?_take] at hcc
        split at hcc
        · simpa using hcc
        · cases hcc
  · obtain ⟨x, hx, hxy⟩ := h i oi a1
    obtain ⟨y, hy, hyz⟩ := h j oj a2
    exact hw.inj i j x y bi bj hx hy (live hxy a3) (live hyz a4) a5 a6 a7

theorem ACalls.less {f : FuncId} {args : List AV} {σ : Store} {R : AV → Store → Prop} (h : ACalls P f args σ fun r s => ∃ r' s', Wk r r' ∧ s'.length = s.length ∧ (∀ (i : Nat) y, s'[i]? = some y → ∃ x, s[i]? = some x ∧ WkO x y) ∧ R r' s') : ACalls P f args σ R := by
  refine ⟨h.1, fun G w vs hw hl => (h.2 G w vs hw hl).mono ?_⟩
  rintro e w' ⟨v, r, σ', G', he, hle, hw', hr, r', s', h1, h2, h3, h4⟩
  exact ⟨v, r', s', G', he, hle, hw'.less h2 h3, h1 G' v hr, h4⟩

end Go.Pa

/-! At a function's return: what was laid beside the caller's objects is frozen, some of these have turned. -/
namespace Go.Pa
set_option linter.unusedSectionVars false
variable [GTab]
variable {P : Program}

theorem ACalls.frozenS {f : FuncId} {args : List AV} {σ : Store} {R : AV → Store → Prop}
    (h : ACalls P f args σ fun r s => σ.length ≤ s.length ∧ (∀ (i : Nat) x, i < σ.length → s[i]? = some x → σ[i]? = some x ∨ x.lt σ.length) ∧ ∃ r', Frz s σ.length r r' ∧ R r' (s.take σ.length)) : ACalls P f args σ R := by
  refine ⟨h.1, fun G w vs hw hl => (h.2 G w vs hw hl).mono ?_⟩
  rintro e w' ⟨c, r, σ', G', rfl, hle, hw', hr, hlen', hobj, r', hfrz, hR⟩
  have hlen : G.obj.length = σ.length := hw.len
  have hlt : ∀ (i : Nat) x, i < σ.length → σ'[i]? = some x → x.lt σ.length := by
    intro i x hi hx
    rcases hobj i x hi hx with h0 | h0
    · have := (hw.objs i _ h0).lt
      rw [hlen] at this; exact this
    · exact h0
  have hw2 := hw'.freeze (n := σ.length) hlt
  refine ⟨c, r', σ'.take σ.length, G'.freeze σ.length σ' w', rfl, ⟨hle.base, hle.w0, fun b o x hx => Gh.freeze_imm hw' b o x (hle.imm b o x hx), fun i x hx => ?_, hle.lo, hle.mark⟩, hw2, hfrz.rep hw' hr, hR⟩
  show (G'.obj.take σ.length)[i]? = _
  rw [List.getElem?_take, if_pos (by rw [← hlen]; exact (List.getElem?_eq_some_iff.1 hx).1)]
  exact hle.obj i x hx

/-- One of the caller's objects has turned. -/
theorem ACalls.frozen1 {f : FuncId} {args : List AV} {σ : Store} {R : AV → Store → Prop} (id : Nat)
    (h : ACalls P f args σ fun r s => ∃ o, id < σ.length ∧ o.lt σ.length ∧ Ext (σ.set id o) s ∧ ∃ r', Frz s σ.length r r' ∧ R r' (σ.set id o)) : ACalls P f args σ R := by
  refine ACalls.frozenS (h.mono ?_)
  rintro r s ⟨o, hid, ho, hx, r', h1, h2⟩
  have hl : (σ.set id o).length = σ.length := by simp
  refine ⟨by rw [← hl]; exact hx.len, fun i x hi hs => ?_, r', h1, ?_⟩
  · by_cases e : i = id
    · subst e
      have := hx i o (by rw [List.getElem?_set_self hid])
      rw [this] at hs; cases hs
      exact .inr ho
    · have h3 : (σ.set id o)[i]? = some σ[i] := by rw [List.getElem?_set_ne (Ne.symm e)]; exact List.getElem?_eq_getElem hi
      have := hx i _ h3
      rw [this] at hs; cases hs
      exact .inl (List.getElem?_eq_getElem hi)
  · have := hx.take
    rw [hl] at this
    rw [this]; exact h2

/-- The object moves on. -/
theorem Ext.move {s s1 : Store} {id : Nat} {o : AObj} (h : Ext (s.set id o) s1) (hid : id < s.length) (o' : AObj) : Ext (s.set id o') (s1.set id o') := by
  intro i x hx
  have hl := h.len
  simp only [List.length_set] at hl
  by_cases e : id = i
  · subst e
    rw [List.getElem?_set_self hid] at hx
    rw [List.getElem?_set_self (by omega)]; exact hx
  · rw [List.getElem?_set_ne e] at hx ⊢
    exact h i x (by rw [List.getElem?_set_ne e]; exact hx)

theorem Ext.at {s s1 : Store} {id : Nat} {o : AObj} (h : Ext (s.set id o) s1) (hid : id < s.length) : s1[id]? = some o := h id o (by rw [List.getElem?_set_self hid])

theorem BufI.move {s : Store} {n id : Nat} {r : AV} {k : IntKind} {l : List Int} (h : BufI s n r k l) (hid : id < n) (o : AObj) : BufI (s.set id o) n r k l := by
  rcases h with h | ⟨j, h1, h2, h3⟩
  · exact .inl h
  · exact .inr ⟨j, h1, by rw [List.getElem?_set_ne (by omega)]; exact h2, h3⟩

theorem ACalls.tidy {f : FuncId} {args : List AV} {σ : Store} {R : AV → Store → Prop}
    (h : ACalls P f args σ fun r s => (∃ id ob cs r' s', s[id]? = some ob ∧ AObj.cells ob = some cs ∧ Fz id ob r r' ∧ FzS id ob s s' ∧ R r' s') ∨
      (∃ r' s', Wk r r' ∧ s'.length = s.length ∧ (∀ (i : Nat) y, s'[i]? = some y → ∃ x, s[i]? = some x ∧ WkO x y) ∧ R r' s')) : ACalls P f args σ R := by
  refine ⟨h.1, fun G w vs hw hl => (h.2 G w vs hw hl).mono ?_⟩
  rintro e w' ⟨v, r, σ', G', he, hle, hw', hr, ⟨id, ob, cs, r', s', h1, h2, h3, h4, h5⟩ | ⟨r', s', h1, h2, h3, h4⟩⟩
  · obtain ⟨G2, g1, g2, g3⟩ := hw'.shut h1 h2
    exact ⟨v, r', s', G2, he, hle.trans g1, g3 s' h4, g2 r r' v h3 hr, h5⟩
  · exact ⟨v, r', s', G', he, hle, hw'.less h2 h3, h1 G' v hr, h4⟩

theorem ACalls.lessR {f : FuncId} {args : List AV} {σ : Store} {R : AV → Store → Prop} (h : ACalls P f args σ fun r s => ∃ r', Wk r r' ∧ R r' s) : ACalls P f args σ R :=
  ACalls.less (h.mono fun _ s ⟨r', h1, h2⟩ => ⟨r', s, h1, rfl, fun _ y hy => ⟨y, hy, .same _⟩, h2⟩)

/-- The last object, told of by less. -/
theorem wk_last {s : Store} {a b : AObj} (h : WkO a b) (i : Nat) (y : AObj) (hy : (s ++ [b])[i]? = some y) : ∃ x, (s ++ [a])[i]? = some x ∧ WkO x y := by
  rcases Nat.lt_or_ge i s.length with hi | hi
  · rw [List.getElem?_append_left hi] at hy ⊢
    exact ⟨y, hy, .same _⟩
  · rw [List.getElem?_append_right hi] at hy ⊢
    have : i - s.length = 0 := by
      rcases Nat.eq_zero_or_pos (i - s.length) with h0 | h0
      · exact h0
      · rw [List.getElem?_eq_none (by simp; omega)] at hy; cases hy
    rw [this] at hy ⊢
    cases hy
    exact ⟨a, rfl, h⟩

/-- The last but one object is sealed, the last one told of accordingly. -/
theorem fz_last {s : Store} {ob a b : AObj} (h : FzO s.length ob a b) : FzS s.length ob (s ++ [ob, a]) (s ++ [.dead, b]) := by
  refine ⟨by simp, by simp, fun i y hi hy => ?_⟩
  rcases Nat.lt_or_ge i s.length with h1 | h1
  · rw [List.getElem?_append_left h1] at hy ⊢
    exact ⟨y, hy, .same _⟩
  · rw [List.getElem?_append_right h1] at hy ⊢
    obtain ⟨k, hk⟩ : ∃ k, i - s.length = k := ⟨_, rfl⟩
    rw [hk] at hy ⊢
    match k with
    | 0 => omega
    | 1 => cases hy; exact ⟨a, rfl, h⟩
    | k + 2 => simp at hy

end Go.Pa
