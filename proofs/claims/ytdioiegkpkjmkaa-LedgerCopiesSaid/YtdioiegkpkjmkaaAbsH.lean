/-
  Loops and blocks whose bodies are taken apart statement by statement; a statement by what it leaves, with its early ends.
-/
import Derived.Test.YtdioiegkpkjmkaaAbsG
namespace Go.Pa
set_option linter.unusedSectionVars false
variable [GTab]
variable {P : Program}

theorem awp_loopW {N : Nat} {S : Type} (st : S → Env) (Inv : S → Store → Prop) (μ : S → Nat) (s0 : S) {body : Code} {K : Exit → Env → Store → Prop} {e : Env} {σ : Store} (h0 : (st s0).sub e) (hi : Inv s0 σ)
    (step : ∀ s σ, Inv s σ → AWp P N body (loopK st Inv μ s K) (st s) σ) : AWp P N (.loop body) K e σ := by
  intro G0 G a w hg he hw
  refine wp_loop_ghost (fun n a w => ∃ G s σ, G0.le G ∧ ERel G N (st s) a ∧ WRel G σ w ∧ Inv s σ ∧ μ s = n) (μ s0) ⟨G, s0, σ, hg, he.sub h0, hw, hi, rfl⟩ ?_
  rintro n a w ⟨G, s, σ, hg, he, hw, hi, rfl⟩
  refine Code.wp_mono ?_ (step s σ hi G0 G a w hg he hw)
  rintro ex a' w' ⟨G', e', s', h1, h2, h3, h4⟩
  cases ex with
  | normal =>
    obtain ⟨s2, hs, hi2, hlt⟩ := h4
    exact ⟨μ s2, hlt, G', s2, s', h1, h2.sub hs, h3, hi2, rfl⟩
  | exit i => exact ⟨G', e', s', h1, h2, h3, h4⟩
  | goto i => exact ⟨G', e', s', h1, h2, h3, h4⟩
  | ret => exact ⟨G', e', s', h1, h2, h3, h4⟩
  | panic c => exact ⟨G', e', s', h1, h2, h3, h4⟩
  | outgrown => exact ⟨G', e', s', h1, h2, h3, h4⟩

theorem awp_blk {N id : Nat} {b : Code} {K : Exit → Env → Store → Prop} {e : Env} {s : Store} (h : AWp P N b (blkK id K) e s) : AWp P N (.block id b) K e s := by
  intro G0 G a w hg he hw
  refine wp_block (Code.wp_mono ?_ (h G0 G a w hg he hw))
  rintro ex a' w' ⟨G', e', s', h1, h2, h3, h4⟩
  cases ex with
  | exit i =>
    simp only [Exit.inBlock]
    simp only [blkK] at h4
    split
    · rename_i hi; rw [if_pos hi] at h4; exact ⟨G', e', s', h1, h2, h3, h4⟩
    · rename_i hi; rw [if_neg hi] at h4; exact ⟨G', e', s', h1, h2, h3, h4⟩
  | normal => exact ⟨G', e', s', h1, h2, h3, h4⟩
  | goto i => exact ⟨G', e', s', h1, h2, h3, h4⟩
  | ret => exact ⟨G', e', s', h1, h2, h3, h4⟩
  | panic c => exact ⟨G', e', s', h1, h2, h3, h4⟩
  | outgrown => exact ⟨G', e', s', h1, h2, h3, h4⟩

def cutK (Q : Env → Store → Prop) (K : Exit → Env → Store → Prop) : Exit → Env → Store → Prop := fun x e s => match x with | .normal => Q e s | x => K x e s

theorem cutK_normal (Q : Env → Store → Prop) (K : Exit → Env → Store → Prop) (e : Env) (s : Store) : cutK Q K .normal e s = Q e s := rfl
theorem cutK_ret (Q : Env → Store → Prop) (K : Exit → Env → Store → Prop) (e : Env) (s : Store) : cutK Q K .ret e s = K .ret e s := rfl
theorem cutK_exit (i : Nat) (Q : Env → Store → Prop) (K : Exit → Env → Store → Prop) (e : Env) (s : Store) : cutK Q K (.exit i) e s = K (.exit i) e s := rfl

/-- A statement by what it leaves; its early ends are the whole's. -/
theorem awp_cutK {N : Nat} {a b : Code} {K : Exit → Env → Store → Prop} {e : Env} {s : Store} (Q : Env → Store → Prop) (h : AWp P N a (cutK Q K) e s) (k : ∀ e' s', Q e' s' → AWp P N b K e' s') : AWp P N (.seq a b) K e s :=
  awp_seq (h.mono fun x e s hx => by
    cases x with
    | normal => exact k e s hx
    | exit i => exact hx
    | goto i => exact hx
    | ret => exact hx
    | panic c => exact hx
    | outgrown => exact hx)

/-- The last statement by what it leaves. -/
theorem awp_endK {N : Nat} {a : Code} {K : Exit → Env → Store → Prop} {e : Env} {s : Store} (Q : Env → Store → Prop) (h : AWp P N a (cutK Q K) e s) (k : ∀ e' s', Q e' s' → K .normal e' s') : AWp P N a K e s :=
  h.mono fun x e s hx => by
    cases x with
    | normal => exact k e s hx
    | exit i => exact hx
    | goto i => exact hx
    | ret => exact hx
    | panic c => exact hx
    | outgrown => exact hx
/-- append of something to one of several slices of rows under construction. -/
theorem append_bufR3 {σ s : Store} {t e : TypeId} {sz : Nat} {l l' : List (List AV)} {r y : AV} {R : AV → Store → Prop} (hs : sliceElem P t = some (e, sz)) (hb : P.bytesOf e ≠ 0)
    (hx : Ext σ s) (h : BufR s σ.length r sz l) (hc : contA s y = some (.R sz l')) (hl' : ∀ r ∈ l', r.length = sz) (h0 : l' ≠ []) (hf : appFits P e (l.length + l'.length))
    (hR : ∀ s', Ext σ s' → s'[s.length]? = some (.vecR sz (l ++ l')) → (∀ (j : Nat) x, s[j]? = some x → (∀ n, r ≠ .mvec j 0 n sz) → s'[j]? = some x) → R (.mvec s.length 0 (l.length + l'.length) sz) s') : vcAppend P t r y s R := by
  have hlen := hx.len
  unfold vcAppend
  simp only [hs, hc]
  refine ⟨hb, ?_⟩
  rcases h with ⟨rfl | rfl, rfl⟩ | ⟨id, rfl, ho, hn⟩
  · exact ⟨rfl, hl', fun h1 => absurd h1 h0, fun _ => ⟨by simpa using hf, by
      have := hR (s ++ [.vecR sz l']) (hx.push _) (by simp) (fun _ _ h _ => keepS0 h)
      simpa using this⟩⟩
  · exact ⟨rfl, hl', fun h1 => absurd h1 h0, fun _ => ⟨by simpa using hf, by
      have := hR (s ++ [.vecR sz l']) (hx.push _) (by simp) (fun _ _ h _ => keepS0 h)
      simpa using this⟩⟩
  · simp only [ho]
    refine ⟨by simp, by simp, by simp, by simp, hl', fun h1 => absurd h1 h0, fun _ => ⟨hf, hR _ ((hx.set hn _).push _) ?_ fun j x hj hne => ?_⟩⟩
    · rw [List.getElem?_append_right (by simp)]
      simp
    · have hlt := (List.getElem?_eq_some_iff.1 hj).1
      rw [List.getElem?_append_left (by simp; exact hlt), List.getElem?_set_ne (fun h => hne l.length (by rw [h]))]
      exact hj

theorem awp_condT {N : Nat} {c : Operand} {a b : Code} {K : Exit → Env → Store → Prop} {e : Env} {s : Store} (h : evO e c = .bool true) (k : AWp P N a K e s) : AWp P N (.cond c a b) K e s := by
  intro G0 G ac w hg he hw
  have hr := rep_evO he c
  rw [h] at hr
  have hv : ac.eval c = .bool true := by
    generalize ac.eval c = u at hr
    cases hr; rfl
  exact wp_cond_split hv (fun _ => k G0 G ac w hg he hw) (fun h1 => by cases h1)

theorem awp_condF {N : Nat} {c : Operand} {a b : Code} {K : Exit → Env → Store → Prop} {e : Env} {s : Store} (h : evO e c = .bool false) (k : AWp P N b K e s) : AWp P N (.cond c a b) K e s := by
  intro G0 G ac w hg he hw
  have hr := rep_evO he c
  rw [h] at hr
  have hv : ac.eval c = .bool false := by
    generalize ac.eval c = u at hr
    cases hr; rfl
  exact wp_cond_split hv (fun h1 => by cases h1) (fun _ => k G0 G ac w hg he hw)
end Go.Pa
