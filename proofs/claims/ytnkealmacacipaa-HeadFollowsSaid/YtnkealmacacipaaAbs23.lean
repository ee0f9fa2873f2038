/-
  Code in a round of a loop over a function: what is asked; soundness.
-/
import Derived.Test.YtnkealmacacipaaAbs22
import Derived.LoopIn
namespace Go.Pa
set_option linter.unusedSectionVars false
variable [GTab]
variable {P : Program}

theorem noDefer_spec {op : Op} (h : noDefer op = true) : ∀ c, op ≠ .defer c := by
  intro c hc; subst hc; cases h

/-- In a round, from every concrete state that the abstract one tells of, the code comes to its end as K says. -/
def AWpR (P : Program) (N : Nat) (c : Code) (K : Exit → Env → Store → Prop) (env : Env) (σ : Store) : Prop :=
  ∀ l G0 G a w, G0.le G → ERel G N env a → WRel G σ w → c.wpIn (Fence.wide.inRound l) 2 P (Conc G0 N K) a w

theorem vcOps_soundR {all : List Oper} {N l : Nat} {Q : Exit → Act → World → Prop} {G0 : Gh} : ∀ {os : List Oper} {e : Env} {s : Store} {K : Env → Store → Prop}, dstOk N os = true → vcOps P all os e s K →
    (∀ G e s a w, G0.le G → ERel G N e a → WRel G s w → K e s → Q .normal a w) → ∀ G a w, G0.le G → ERel G N e a → WRel G s w → wpListIn (Fence.wide.inRound l) 2 P all.toArray Q os a w
  | [], e, s, K, _, h, hQ, G, a, w, hg, he, hw => hQ G e s a w hg he hw h
  | o :: os, e, s, K, hd, h, hQ, G, a, w, hg, he, hw => by
    simp only [dstOk, List.all_cons, Bool.and_eq_true] at hd
    obtain ⟨⟨hd1, hd3⟩, hd2⟩ := hd
    have hdst : ∀ t, o.dst = some t → t < N := fun t ht => by rw [ht] at hd1; simpa using hd1
    have run : ∀ {e : Env}, ERel G N e a → vcOp P e s (fun v s' => vcOps P all os (e.put o.dst v) s' K) o.op → o.wpIn (Fence.wide.inRound l) 2 P a w (wpListIn (Fence.wide.inRound l) 2 P all.toArray Q os) Q := by
      intro e he h
      refine Oper.wpIn_mono ?_ ((vcOp_sound (N := N) h).wpIn (noDefer_spec hd3) l 2 G a w Q he hw)
      rintro a' w' ⟨c, v, σ', G', rfl, hle, hw', hr, hk⟩
      exact vcOps_soundR (by simpa [dstOk] using hd2) hk hQ G' _ w' (hg.trans hle) ((he.mono hle).put o.dst hdst hr) hw'
    unfold vcOps at h
    unfold wpListIn
    cases hgd : o.guard with
    | none =>
      simp only [hgd] at h
      rw [if_pos (by simp [Region.wanted, hgd])]
      exact run he h
    | some jw =>
      obtain ⟨j, want⟩ := jw
      simp only [hgd] at h
      split at h
      · exact h.elim
      · rename_i t ht
        split at h
        · rename_i c hc
          obtain ⟨v, hv, hr⟩ := he.2.2 t _ hc
          cases hr
          have hy : yielded all.toArray a.tmps j = some c := by
            unfold yielded
            have h0 : (all.toArray[j]?).bind (·.dst) = some t := by simpa using ht
            rw [h0]
            simp [hv]
          have he' : ∀ b, c = b → ERel G N ((t, .bool b) :: e) a := by
            intro b hb
            refine ⟨he.1, he.2.1, fun u x hx => ?_⟩
            simp only [Env.get] at hx
            split at hx
            · rename_i hu; subst hu; cases hx; exact ⟨.bool c, hv, by rw [hb]; exact .bool b⟩
            · exact he.2.2 u x hx
          by_cases hcw : c = want
          · rw [if_pos (by simp [Region.wanted, hgd, hy, hcw])]
            exact run (he' want hcw) (h.1 hcw)
          · rw [if_neg (by simp [Region.wanted, hgd, hy, hcw])]
            have hn : c = !want := by cases c <;> cases want <;> simp_all
            exact ⟨fun _ _ => trivial, vcOps_soundR (by simpa [dstOk] using hd2) (h.2 hn) hQ G _ w hg ((he' _ hn).put o.dst hdst (rep_undef G)) hw⟩
        · rename_i hc
          obtain ⟨v, hv, hr⟩ := he.2.2 t _ hc
          have hy : yielded all.toArray a.tmps j = none := by
            unfold yielded
            have h0 : (all.toArray[j]?).bind (·.dst) = some t := by simpa using ht
            rw [h0]
            cases hr
            simp [hv]
          rw [if_neg (by simp [Region.wanted, hgd, hy])]
          exact ⟨fun _ _ => trivial, vcOps_soundR (by simpa [dstOk] using hd2) h hQ G _ w hg (he.put o.dst hdst (rep_undef G)) hw⟩
        · exact h.elim

def vcR (P : Program) (N : Nat) : Code → (Exit → Env → Store → Prop) → Env → Store → Prop
  | .skip, K, e, s => K .normal e s
  | .region id ops d, K, e, s => if d then AWpR P N (.region id ops true) K e s else vcOps P ops.toList ops.toList e s (K .normal)
  | .seq a b, K, e, s => vcR P N a (fun x e s => match x with | .normal => vcR P N b K e s | x => K x e s) e s
  | .cond c a b, K, e, s => match evO e c with
    | .bool t => (t = true → vcR P N a K e s) ∧ (t = false → vcR P N b K e s)
    | _ => False
  | .block id b, K, e, s => vcR P N b (fun x e s => match x with | .exit i => if i = id then K .normal e s else K (.exit i) e s | x => K x e s) e s
  | .exit id, K, e, s => K (.exit id) e s
  | .ret, K, e, s => K .ret e s
  | c, K, e, s => AWpR P N c K e s

theorem vcR_sound {N : Nat} : ∀ {c : Code} {K : Exit → Env → Store → Prop} {e : Env} {s : Store}, codeOk N c = true → vcR P N c K e s → AWpR P N c K e s
  | .skip, K, e, s, _, h => fun l G0 G a w hg he hw => wpIn_skip ⟨G, e, s, hg, he, hw, h⟩
  | .region id ops d, K, e, s, hd, h => by
    intro l G0 G a w hg he hw
    unfold vcR at h
    cases d with
    | true => simp only [if_true] at h; exact h l G0 G a w hg he hw
    | false =>
      simp only [Bool.false_eq_true, if_false] at h
      refine wpIn_region_list ?_
      have := vcOps_soundR (l := l) (G0 := G0) (Q := Conc G0 N K) hd h (fun G' e' s' a' w' h1 h2 h3 h4 => ⟨G', e', s', h1, h2, h3, h4⟩) G a w hg he hw
      simpa using this
  | .seq x y, K, e, s, hd, h => by
    intro l G0 G a w hg he hw
    simp only [codeOk, Bool.and_eq_true] at hd
    refine wpIn_seq (Code.wpIn_mono ?_ (vcR_sound hd.1 h l G0 G a w hg he hw))
    rintro ex a' w' ⟨G', e', s', h1, h2, h3, h4⟩
    cases ex with
    | normal => exact vcR_sound hd.2 h4 l G0 G' a' w' h1 h2 h3
    | exit i => exact ⟨G', e', s', h1, h2, h3, h4⟩
    | goto i => exact ⟨G', e', s', h1, h2, h3, h4⟩
    | ret => exact ⟨G', e', s', h1, h2, h3, h4⟩
    | panic c => exact ⟨G', e', s', h1, h2, h3, h4⟩
    | outgrown => exact ⟨G', e', s', h1, h2, h3, h4⟩
  | .cond c x y, K, e, s, hd, h => by
    intro l G0 G a w hg he hw
    simp only [codeOk, Bool.and_eq_true] at hd
    unfold vcR at h
    split at h
    · rename_i t ht
      have hr := rep_evO he c
      rw [ht] at hr
      have hv : a.eval c = .bool t := by
        generalize a.eval c = u at hr
        cases hr; rfl
      exact wpIn_cond_split hv (fun h1 => vcR_sound hd.1 (h.1 h1) l G0 G a w hg he hw) (fun h1 => vcR_sound hd.2 (h.2 h1) l G0 G a w hg he hw)
    · exact h.elim
  | .block id b, K, e, s, hd, h => by
    intro l G0 G a w hg he hw
    refine wpIn_block (Code.wpIn_mono ?_ (vcR_sound (c := b) hd h l G0 G a w hg he hw))
    rintro ex a' w' ⟨G', e', s', h1, h2, h3, h4⟩
    cases ex with
    | exit i =>
      simp only [Exit.inBlock]
      simp only at h4
      split
      · rename_i hi; rw [if_pos hi] at h4; exact ⟨G', e', s', h1, h2, h3, h4⟩
      · rename_i hi; rw [if_neg hi] at h4; exact ⟨G', e', s', h1, h2, h3, h4⟩
    | normal => exact ⟨G', e', s', h1, h2, h3, h4⟩
    | goto i => exact ⟨G', e', s', h1, h2, h3, h4⟩
    | ret => exact ⟨G', e', s', h1, h2, h3, h4⟩
    | panic c => exact ⟨G', e', s', h1, h2, h3, h4⟩
    | outgrown => exact ⟨G', e', s', h1, h2, h3, h4⟩
  | .exit id, K, e, s, _, h => fun l G0 G a w hg he hw => wpIn_exit ⟨G, e, s, hg, he, hw, h⟩
  | .ret, K, e, s, _, h => fun l G0 G a w hg he hw => wpIn_ret ⟨G, e, s, hg, he, hw, h⟩
  | .loop b, K, e, s, _, h => h
  | .rangeFunc _ _ _ _, K, e, s, _, h => h
  | .scope _, K, e, s, _, h => h
  | .label _, K, e, s, _, h => h
  | .goto _, K, e, s, _, h => h
  | .refuse _, K, e, s, _, h => h

/-! ### Equations -/
variable {N : Nat}
theorem vcR_skip (K : Exit → Env → Store → Prop) (e : Env) (s : Store) : vcR P N .skip K e s = K .normal e s := rfl
def seqR (P : Program) (N : Nat) (b : Code) (K : Exit → Env → Store → Prop) : Exit → Env → Store → Prop := fun x e s => match x with | .normal => vcR P N b K e s | x => K x e s
theorem vcR_seq (a b : Code) (K : Exit → Env → Store → Prop) (e : Env) (s : Store) : vcR P N (.seq a b) K e s = vcR P N a (seqR P N b K) e s := rfl
theorem vcR_block (id : Nat) (b : Code) (K : Exit → Env → Store → Prop) (e : Env) (s : Store) : vcR P N (.block id b) K e s = vcR P N b (blkK id K) e s := rfl
theorem vcR_exit (id : Nat) (K : Exit → Env → Store → Prop) (e : Env) (s : Store) : vcR P N (.exit id) K e s = K (.exit id) e s := rfl
theorem vcR_ret (K : Exit → Env → Store → Prop) (e : Env) (s : Store) : vcR P N .ret K e s = K .ret e s := rfl
theorem vcR_region (id : Nat) (l : List Oper) (K : Exit → Env → Store → Prop) (e : Env) (s : Store) : vcR P N (.region id l.toArray false) K e s = vcOps P l l e s (K .normal) := by
  unfold vcR; simp
theorem vcR_draw (id : Nat) (l : List Oper) (K : Exit → Env → Store → Prop) (e : Env) (s : Store) : vcR P N (.region id l.toArray true) K e s = AWpR P N (.region id l.toArray true) K e s := by
  unfold vcR; simp
def condR (P : Program) (N : Nat) (a b : Code) (K : Exit → Env → Store → Prop) (e : Env) (s : Store) : AV → Prop
  | .bool t => (t = true → vcR P N a K e s) ∧ (t = false → vcR P N b K e s)
  | _ => False
theorem vcR_cond (c : Operand) (a b : Code) (K : Exit → Env → Store → Prop) (e : Env) (s : Store) : vcR P N (.cond c a b) K e s = condR P N a b K e s (evO e c) := by
  unfold vcR condR; split <;> simp_all
theorem condR_true (a b : Code) (K : Exit → Env → Store → Prop) (e : Env) (s : Store) : condR P N a b K e s (.bool true) = vcR P N a K e s := by simp [condR]
theorem condR_false (a b : Code) (K : Exit → Env → Store → Prop) (e : Env) (s : Store) : condR P N a b K e s (.bool false) = vcR P N b K e s := by simp [condR]
theorem condR_bool (t : Bool) (a b : Code) (K : Exit → Env → Store → Prop) (e : Env) (s : Store) : condR P N a b K e s (.bool t) = ((t = true → vcR P N a K e s) ∧ (t = false → vcR P N b K e s)) := rfl
theorem seqR_normal (b : Code) (K : Exit → Env → Store → Prop) (e : Env) (s : Store) : seqR P N b K .normal e s = vcR P N b K e s := rfl
theorem seqR_ret (b : Code) (K : Exit → Env → Store → Prop) (e : Env) (s : Store) : seqR P N b K .ret e s = K .ret e s := rfl
theorem seqR_exit (i : Nat) (b : Code) (K : Exit → Env → Store → Prop) (e : Env) (s : Store) : seqR P N b K (.exit i) e s = K (.exit i) e s := rfl

end Go.Pa
