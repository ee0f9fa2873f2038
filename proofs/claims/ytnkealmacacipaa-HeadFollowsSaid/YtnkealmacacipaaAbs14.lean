/-
  Code: what is asked; soundness. Calls.
-/
import Derived.Test.YtnkealmacacipaaAbs13
import Derived.Deep.LoopGhost
import Derived.RangeFuncWrites
import Derived.RangeFuncLeaves
namespace Go.Pa
set_option linter.unusedSectionVars false
variable [GTab]
variable {P : Program}

def Conc (G0 : Gh) (N : Nat) (K : Exit → Env → Store → Prop) : Exit → Act → World → Prop :=
  fun x a w => ∃ G env σ, G0.le G ∧ ERel G N env a ∧ WRel G σ w ∧ K x env σ

/-- From every concrete state that the abstract one tells of, the code comes to its end as K says. -/
def AWp (P : Program) (N : Nat) (c : Code) (K : Exit → Env → Store → Prop) (env : Env) (σ : Store) : Prop :=
  ∀ G0 G a w, G0.le G → ERel G N env a → WRel G σ w → c.wp P (Conc G0 N K) a w

/-- The operations of a region, in the order of the text. -/
def vcOps (P : Program) (all : List Oper) : List Oper → Env → Store → (Env → Store → Prop) → Prop
  | [], e, s, K => K e s
  | o :: os, e, s, K =>
    match o.guard with
    | none => vcOp P e s (fun v s' => vcOps P all os (e.put o.dst v) s' K) o.op
    | some (j, want) => match (all[j]?).bind (·.dst) with
      | none => False
      | some t => match e.get t with
        | some (.bool c) => (c = want → vcOp P ((t, .bool want) :: e) s (fun v s' => vcOps P all os (Env.put ((t, .bool want) :: e) o.dst v) s' K) o.op) ∧
            (c = (!want) → vcOps P all os (Env.put ((t, .bool (!want)) :: e) o.dst (.tup [])) s K)
        | some (.tup []) => vcOps P all os (e.put o.dst (.tup [])) s K
        | _ => False

/-- Behind an operation. -/
def opK (P : Program) (all os : List Oper) (d : Option Tmp) (e : Env) (K : Env → Store → Prop) : AV → Store → Prop := fun v s' => vcOps P all os (e.put d v) s' K

def noDefer : Op → Bool
  | .defer _ => false
  | _ => true

def dstOk (N : Nat) (os : List Oper) : Bool := os.all fun o => (match o.dst with | some d => decide (d < N) | none => true) && noDefer o.op

def codeOk (N : Nat) : Code → Bool
  | .region _ ops _ => dstOk N ops.toList
  | .seq a b => codeOk N a && codeOk N b
  | .cond _ a b => codeOk N a && codeOk N b
  | .block _ b => codeOk N b
  | .loop b => codeOk N b
  | .scope b => codeOk N b
  | .rangeFunc _ _ a b => codeOk N a && codeOk N b
  | _ => true

def vc (P : Program) (N : Nat) : Code → (Exit → Env → Store → Prop) → Env → Store → Prop
  | .skip, K, e, s => K .normal e s
  | .region id ops d, K, e, s => if d then AWp P N (.region id ops true) K e s else vcOps P ops.toList ops.toList e s (K .normal)
  | .seq a b, K, e, s => vc P N a (fun x e s => match x with | .normal => vc P N b K e s | x => K x e s) e s
  | .cond c a b, K, e, s => match evO e c with
    | .bool t => (t = true → vc P N a K e s) ∧ (t = false → vc P N b K e s)
    | _ => False
  | .block id b, K, e, s => vc P N b (fun x e s => match x with | .exit i => if i = id then K .normal e s else K (.exit i) e s | x => K x e s) e s
  | .exit id, K, e, s => K (.exit id) e s
  | .ret, K, e, s => K .ret e s
  | c, K, e, s => AWp P N c K e s

def seqK (P : Program) (N : Nat) (b : Code) (K : Exit → Env → Store → Prop) : Exit → Env → Store → Prop := fun x e s => match x with | .normal => vc P N b K e s | x => K x e s
def blkK (id : Nat) (K : Exit → Env → Store → Prop) : Exit → Env → Store → Prop := fun x e s => match x with | .exit i => if i = id then K .normal e s else K (.exit i) e s | x => K x e s

theorem Conc.mono {G0 : Gh} {N : Nat} {K K' : Exit → Env → Store → Prop} (h : ∀ x e s, K x e s → K' x e s) : ∀ x a w, Conc G0 N K x a w → Conc G0 N K' x a w :=
  fun _ _ _ ⟨G, e, s, h1, h2, h3, h4⟩ => ⟨G, e, s, h1, h2, h3, h _ _ _ h4⟩

theorem vcOps_sound {all : List Oper} {N : Nat} {Q : Exit → Act → World → Prop} {G0 : Gh} : ∀ {os : List Oper} {e : Env} {s : Store} {K : Env → Store → Prop}, dstOk N os = true → vcOps P all os e s K →
    (∀ G e s a w, G0.le G → ERel G N e a → WRel G s w → K e s → Q .normal a w) → ∀ G a w, G0.le G → ERel G N e a → WRel G s w → wpList P all.toArray Q os a w
  | [], e, s, K, _, h, hQ, G, a, w, hg, he, hw => hQ G e s a w hg he hw h
  | o :: os, e, s, K, hd, h, hQ, G, a, w, hg, he, hw => by
    simp only [dstOk, List.all_cons, Bool.and_eq_true] at hd
    obtain ⟨hd1, hd2⟩ := hd
    have hdst : ∀ t, o.dst = some t → t < N := fun t ht => by rw [ht] at hd1; simp at hd1; exact hd1.1
    have run : ∀ {e : Env}, ERel G N e a → vcOp P e s (fun v s' => vcOps P all os (e.put o.dst v) s' K) o.op → o.wp P a w (wpList P all.toArray Q os) Q := by
      intro e he h
      refine Oper.wp_mono ?_ ((vcOp_sound (N := N) h).wp G a w Q he hw)
      rintro a' w' ⟨c, v, σ', G', rfl, hle, hw', hr, hk⟩
      exact vcOps_sound hd2 hk hQ G' _ w' (hg.trans hle) ((he.mono hle).put o.dst hdst hr) hw'
    unfold vcOps at h
    unfold wpList
    cases hgd : o.guard with
    | none =>
      simp only [hgd] at h
      rw [if_pos (by simp [Region.wanted, hgd])]
      exact .inl (run he h)
    | some jw =>
      obtain ⟨j, want⟩ := jw
      simp only [hgd] at h
      split at h
      · exact h.elim
      · rename_i t ht
        split at h
        · rename_i c hc
          obtain ⟨v, hv, hr⟩ := he.2.2 t _ hc
          cases hr
          have hy : yielded all.toArray a.tmps j = some c := by
            unfold yielded
            have h0 : (all.toArray[j]?).bind (·.dst) = some t := by simpa using ht
            rw [h0]
            simp [hv]
          have he' : ∀ b, c = b → ERel G N ((t, .bool b) :: e) a := by
            intro b hb
            refine ⟨he.1, he.2.1, fun u x hx => ?_⟩
            simp only [Env.get] at hx
            split at hx
            · rename_i hu; subst hu; cases hx; exact ⟨.bool c, hv, by rw [hb]; exact .bool b⟩
            · exact he.2.2 u x hx
          by_cases hcw : c = want
          · rw [if_pos (by simp [Region.wanted, hgd, hy, hcw])]
            exact .inl (run (he' want hcw) (h.1 hcw))
          · rw [if_neg (by simp [Region.wanted, hgd, hy, hcw])]
            have hn : c = !want := by cases c <;> cases want <;> simp_all
            exact vcOps_sound hd2 (h.2 hn) hQ G _ w hg ((he' _ hn).put o.dst hdst (rep_undef G)) hw
        · rename_i hc
          obtain ⟨v, hv, hr⟩ := he.2.2 t _ hc
          have hy : yielded all.toArray a.tmps j = none := by
            unfold yielded
            have h0 : (all.toArray[j]?).bind (·.dst) = some t := by simpa using ht
            rw [h0]
            cases hr
            simp [hv]
          rw [if_neg (by simp [Region.wanted, hgd, hy])]
          exact vcOps_sound hd2 h hQ G _ w hg (he.put o.dst hdst (rep_undef G)) hw
        · exact h.elim

theorem vc_sound {N : Nat} : ∀ {c : Code} {K : Exit → Env → Store → Prop} {e : Env} {s : Store}, codeOk N c = true → vc P N c K e s → AWp P N c K e s
  | .skip, K, e, s, _, h => fun G0 G a w hg he hw => wp_skip ⟨G, e, s, hg, he, hw, h⟩
  | .region id ops d, K, e, s, hd, h => by
    intro G0 G a w hg he hw
    unfold vc at h
    cases d with
    | true => simp only [if_true] at h; exact h G0 G a w hg he hw
    | false =>
      simp only [Bool.false_eq_true, if_false] at h
      refine wp_region_list ?_
      have := vcOps_sound (G0 := G0) (Q := Conc G0 N K) hd h (fun G' e' s' a' w' h1 h2 h3 h4 => ⟨G', e', s', h1, h2, h3, h4⟩) G a w hg he hw
      simpa using this
  | .seq x y, K, e, s, hd, h => by
    intro G0 G a w hg he hw
    simp only [codeOk, Bool.and_eq_true] at hd
    refine wp_seq (Code.wp_mono ?_ (vc_sound hd.1 h G0 G a w hg he hw))
    rintro ex a' w' ⟨G', e', s', h1, h2, h3, h4⟩
    cases ex with
    | normal => exact vc_sound hd.2 h4 G0 G' a' w' h1 h2 h3
    | exit i => exact ⟨G', e', s', h1, h2, h3, h4⟩
    | goto i => exact ⟨G', e', s', h1, h2, h3, h4⟩
    | ret => exact ⟨G', e', s', h1, h2, h3, h4⟩
    | panic c => exact ⟨G', e', s', h1, h2, h3, h4⟩
    | outgrown => exact ⟨G', e', s', h1, h2, h3, h4⟩
  | .cond c x y, K, e, s, hd, h => by
    intro G0 G a w hg he hw
    simp only [codeOk, Bool.and_eq_true] at hd
    unfold vc at h
    split at h
    · rename_i t ht
      have hr := rep_evO he c
      rw [ht] at hr
      have hv : a.eval c = .bool t := by
        generalize a.eval c = u at hr
        cases hr; rfl
      exact wp_cond_split hv (fun h1 => vc_sound hd.1 (h.1 h1) G0 G a w hg he hw) (fun h1 => vc_sound hd.2 (h.2 h1) G0 G a w hg he hw)
    · exact h.elim
  | .block id b, K, e, s, hd, h => by
    intro G0 G a w hg he hw
    refine wp_block (Code.wp_mono ?_ (vc_sound (c := b) hd h G0 G a w hg he hw))
    rintro ex a' w' ⟨G', e', s', h1, h2, h3, h4⟩
    cases ex with
    | exit i =>
      simp only [Exit.inBlock]
      simp only at h4
      split
      · rename_i hi; rw [if_pos hi] at h4; exact ⟨G', e', s', h1, h2, h3, h4⟩
      · rename_i hi; rw [if_neg hi] at h4; exact ⟨G', e', s', h1, h2, h3, h4⟩
    | normal => exact ⟨G', e', s', h1, h2, h3, h4⟩
    | goto i => exact ⟨G', e', s', h1, h2, h3, h4⟩
    | ret => exact ⟨G', e', s', h1, h2, h3, h4⟩
    | panic c => exact ⟨G', e', s', h1, h2, h3, h4⟩
    | outgrown => exact ⟨G', e', s', h1, h2, h3, h4⟩
  | .exit id, K, e, s, _, h => fun G0 G a w hg he hw => wp_exit ⟨G, e, s, hg, he, hw, h⟩
  | .ret, K, e, s, _, h => fun G0 G a w hg he hw => wp_ret ⟨G, e, s, hg, he, hw, h⟩
  | .loop b, K, e, s, _, h => h
  | .rangeFunc _ _ _ _, K, e, s, _, h => h
  | .scope _, K, e, s, _, h => h
  | .label _, K, e, s, _, h => h
  | .goto _, K, e, s, _, h => h
  | .refuse _, K, e, s, _, h => h

/-- Where a round ends. -/
def loopK {S : Type} (st : S → Env) (Inv : S → Store → Prop) (μ : S → Nat) (s : S) (K : Exit → Env → Store → Prop) : Exit → Env → Store → Prop :=
  fun x e' σ' => match x with | .normal => ∃ s', (st s').sub e' ∧ Inv s' σ' ∧ μ s' < μ s | x => K x e' σ'

/-- **A loop.** -/
theorem awp_loop {N : Nat} {S : Type} (st : S → Env) (Inv : S → Store → Prop) (μ : S → Nat) (s0 : S) {body : Code} {K : Exit → Env → Store → Prop} {e : Env} {σ : Store} (hd : codeOk N body = true) (h0 : (st s0).sub e) (hi : Inv s0 σ)
    (step : ∀ s σ, Inv s σ → vc P N body (loopK st Inv μ s K) (st s) σ) : AWp P N (.loop body) K e σ := by
  intro G0 G a w hg he hw
  refine wp_loop_ghost (fun n a w => ∃ G s σ, G0.le G ∧ ERel G N (st s) a ∧ WRel G σ w ∧ Inv s σ ∧ μ s = n) (μ s0) ⟨G, s0, σ, hg, he.sub h0, hw, hi, rfl⟩ ?_
  rintro n a w ⟨G, s, σ, hg, he, hw, hi, rfl⟩
  refine Code.wp_mono ?_ (vc_sound hd (step s σ hi) G0 G a w hg he hw)
  rintro ex a' w' ⟨G', e', s', h1, h2, h3, h4⟩
  cases ex with
  | normal =>
    obtain ⟨s2, hs, hi2, hlt⟩ := h4
    exact ⟨μ s2, hlt, G', s2, s', h1, h2.sub hs, h3, hi2, rfl⟩
  | exit i => exact ⟨G', e', s', h1, h2, h3, h4⟩
  | goto i => exact ⟨G', e', s', h1, h2, h3, h4⟩
  | ret => exact ⟨G', e', s', h1, h2, h3, h4⟩
  | panic c => exact ⟨G', e', s', h1, h2, h3, h4⟩
  | outgrown => exact ⟨G', e', s', h1, h2, h3, h4⟩

/-- **A cut**: what the first piece leaves, said in a smaller frame. -/
theorem vc_cut {N : Nat} {c : Code} {K : Exit → Env → Store → Prop} {e : Env} {σ : Store} (J : Env → Store → Prop) (h1 : AWp P N c (fun x e s => match x with | .normal => ∃ e', e'.sub e ∧ J e' s | x => K x e s) e σ)
    (h2 : ∀ e s, J e s → K .normal e s) : AWp P N c K e σ := by
  intro G0 G a w hg he hw
  refine Code.wp_mono ?_ (h1 G0 G a w hg he hw)
  rintro ex a' w' ⟨G', e', s', q1, q2, q3, q4⟩
  cases ex with
  | normal => obtain ⟨e2, hs, hj⟩ := q4; exact ⟨G', e2, s', q1, q2.sub hs, q3, h2 _ _ hj⟩
  | exit i => exact ⟨G', e', s', q1, q2, q3, q4⟩
  | goto i => exact ⟨G', e', s', q1, q2, q3, q4⟩
  | ret => exact ⟨G', e', s', q1, q2, q3, q4⟩
  | panic c => exact ⟨G', e', s', q1, q2, q3, q4⟩
  | outgrown => exact ⟨G', e', s', q1, q2, q3, q4⟩

/-! ### Results -/

def resA (P : Program) (e : Env) (s : Store) : ResultVar → Option AV
  | .tmp t => e.get t
  | .cell t ty => match e.get t with
    | some (.ptr id off) => match s[id]? with
      | some (.box cs) => partA P ty (cs.drop off)
      | _ => none
    | _ => none

def ressA (P : Program) (e : Env) (s : Store) : List ResultVar → Option (List AV)
  | [] => some []
  | r :: rs => match resA P e s r, ressA P e s rs with
    | some v, some vs => some (v :: vs)
    | _, _ => none

def retA (P : Program) (e : Env) (s : Store) (rs : List ResultVar) : Option AV :=
  match ressA P e s rs with
  | some [v] => some v
  | some vs => some (.tup vs)
  | none => none

def retK (P : Program) (rs : List ResultVar) (R : AV → Store → Prop) : Exit → Env → Store → Prop := fun x e s =>
  match x with
  | .normal | .ret => match retA P e s rs with
    | some v => R v s
    | none => False
  | _ => False

def resM (tmps : Array Value) : ResultVar → Sem Value
  | .tmp t => pure (tmps.getD t undef)
  | .cell a t => do loadVar t (← asAddr (tmps.getD a undef))

theorem results_eq (fn : Func) (tmps : Array Value) : results fn tmps = (do let vs ← fn.results.mapM (resM tmps); pure (if h : vs.size = 1 then vs[0] else .tuple vs)) := by
  have : (fun (x : ResultVar) => match x with | .tmp t => pure (tmps.getD t undef) | .cell a t => do loadVar t (← asAddr (tmps.getD a undef))) = resM tmps := by
    funext x; cases x <;> rfl
  unfold results
  rw [← this]
  rfl

theorem run_res {G : Gh} {N : Nat} {e : Env} {s : Store} {a : Act} {w : World} (he : ERel G N e a) (hw : WRel G s w) {r : ResultVar} {v : AV} (h : resA P e s r = some v) :
    ∃ c, (resM a.tmps r).run P w = .ok c w ∧ Rep G v c := by
  unfold resM
  cases r with
  | tmp t =>
    obtain ⟨c, hc, hr⟩ := he.2.2 t v h
    exact ⟨c, by simp [hc], hr⟩
  | cell t ty =>
    simp only [resA] at h
    split at h
    · rename_i id off hp
      split at h
      · rename_i cs hob
        obtain ⟨c, hc, hr⟩ := he.2.2 t _ hp
        obtain ⟨c', v', h1, h2, h3⟩ := load_sound (P := P) (t := ty) (x := .ptr id off) (R := fun x _ => x = v) (by simp only [vcLoad, hob, h]) hr hw
        subst h3
        cases hr with
        | ptr _ _ b n ho =>
          refine ⟨c', ?_, h2⟩
          simp only [Instr.loadAt, Instr.sureAddr, Sem.run_bind, Sem.run_pure, Result.andThen_ok] at h1
          have h0 : a.tmps.getD t undef = .pointer (some ⟨b, off, none⟩) := by simp [hc]
          simp only [Sem.run_bind, h0, asAddr, Sem.run_pure, Result.andThen_ok, h1]
      · cases h
    · cases h

theorem run_ress {G : Gh} {N : Nat} {e : Env} {s : Store} {a : Act} {w : World} (he : ERel G N e a) (hw : WRel G s w) : ∀ {rs : List ResultVar} {vs : List AV}, ressA P e s rs = some vs →
    ∃ cs, (rs.mapM (resM a.tmps) : Sem (List Value)).run P w = .ok cs w ∧ RepL G vs cs
  | [], vs, h => by simp only [ressA, Option.some.injEq] at h; subst h; exact ⟨[], rfl, .nil⟩
  | r :: rs, vs, h => by
    simp only [ressA] at h
    split at h
    · rename_i v vs' h1 h2
      cases h
      obtain ⟨c, hc, hr⟩ := run_res he hw h1
      obtain ⟨cs, hcs, hrs⟩ := run_ress he hw h2
      exact ⟨c :: cs, by simp only [List.mapM_cons, Sem.run_bind, hc, Result.andThen_ok, hcs, Sem.run_pure], .cons hr hrs⟩
    · cases h

theorem run_results {G : Gh} {N : Nat} {e : Env} {s : Store} {a : Act} {w : World} (he : ERel G N e a) (hw : WRel G s w) {fn : Func} {v : AV} (h : retA P e s fn.results.toList = some v) :
    ∃ c, (results fn a.tmps).run P w = .ok c w ∧ Rep G v c := by
  unfold retA at h
  have fin : ∀ {vs : List AV}, ressA P e s fn.results.toList = some vs → ∃ cs : List Value, (results fn a.tmps).run P w = .ok (if h : cs.toArray.size = 1 then cs.toArray[0] else .tuple cs.toArray) w ∧ RepL G vs cs := by
    intro vs hvs
    obtain ⟨cs, hcs, hrs⟩ := run_ress he hw hvs
    refine ⟨cs, ?_, hrs⟩
    rw [results_eq, Array.mapM_eq_mapM_toList]
    simp only [Sem.run_bind, Sem.run_map, hcs, Result.andThen_ok]
    rfl
  split at h
  · rename_i v' hv
    cases h
    obtain ⟨cs, hcs, hrs⟩ := fin hv
    obtain ⟨c, rfl, hr⟩ := RepL.one hrs
    exact ⟨c, by rw [hcs]; simp, hr⟩
  · rename_i vs hne hv
    cases h
    obtain ⟨cs, hcs, hrs⟩ := fin hv
    have hlen : cs.length ≠ 1 := by
      intro h1
      rw [← hrs.length] at h1
      obtain ⟨v0, rfl⟩ := List.length_eq_one_iff.1 h1
      exact hne v0 rfl
    exact ⟨.tuple cs.toArray, by rw [hcs, dif_neg (by simpa using hlen)], Rep.tup_of (by simpa using hrs)⟩
  · cases h

def envOf : Nat → List AV → Env
  | _, [] => []
  | k, x :: xs => (k, x) :: envOf (k + 1) xs

theorem envOf_get : ∀ (k : Nat) (xs : List AV) (t : Nat) (x : AV), (envOf k xs).get t = some x → k ≤ t ∧ xs[t - k]? = some x
  | k, [], t, x, h => by simp [envOf, Env.get] at h
  | k, y :: xs, t, x, h => by
    simp only [envOf, Env.get] at h
    split at h
    · rename_i hk; subst hk; cases h; simp
    · obtain ⟨h1, h2⟩ := envOf_get (k + 1) xs t x h
      refine ⟨by omega, ?_⟩
      have : t - k = (t - (k + 1)) + 1 := by omega
      rw [this]; simpa using h2

/-- The same, told by another ghost that knows as much of cells and objects. -/
def Gh.frame (G : Gh) (lo : Nat) (mark : Nat → Obj → Prop) : Gh := { G with lo := lo, mark := mark }

theorem rep_frame {G : Gh} {lo : Nat} {m : Nat → Obj → Prop} {x : AV} {v : Value} (h : Rep G x v) : Rep (G.frame lo m) x v := Rep.over (G := G) (G' := G.frame lo m) (fun _ _ _ h => h) (fun _ _ h => h) h
theorem rep_unframe {G : Gh} {lo : Nat} {m : Nat → Obj → Prop} {x : AV} {v : Value} (h : Rep (G.frame lo m) x v) : Rep G x v := Rep.over (G := G.frame lo m) (G' := G) (fun _ _ _ h => h) (fun _ _ h => h) h
theorem repL_frame {G : Gh} {lo : Nat} {m : Nat → Obj → Prop} : ∀ {xs : List AV} {vs : List Value}, RepL G xs vs → RepL (G.frame lo m) xs vs
  | _, _, .nil => .nil
  | _, _, .cons h t => .cons (rep_frame h) (repL_frame t)

theorem ObjRel.over {G G' : Gh} {w w' : World} {id : Nat} {ob : AObj} (h : ObjRel G w id ob) (hb : G'.base = G.base) (hi : G'.imm = G.imm) (ho : G'.obj = G.obj)
    (hk : ∀ (k : Nat) (o : Obj), w.heap[k]? = some o → (o.isCells = true ∨ ∃ es c, o = Obj.map es c) → w'.heap[k]? = some o) : ObjRel G' w' id ob := by
  have hr : ∀ {x : AV} {v : Value}, Rep G x v → Rep G' x v := fun h => h.over (fun b o c h => by rw [hi]; exact h) (fun i x h => by rw [ho]; exact h)
  have main : ∀ {ob : AObj}, (∃ b n arr ty, ∃ cs : List AV, ob.cells = some cs ∧ G.obj[id]? = some (b, n) ∧ w.heap[b]? = some (.cells arr ty (0, 0)) ∧ arr.size = n ∧ cs.length ≤ n ∧ G.base ≤ b ∧
      (∀ o, G.imm b o = none) ∧ (∀ (i : Nat) (x : AV), cs[i]? = some x → ∃ c, arr[i]? = some c ∧ Rep G x c) ∧ (∀ c ∈ arr.toList, c.oneCell' = true)) →
      ∃ b n arr ty, ∃ cs : List AV, ob.cells = some cs ∧ G'.obj[id]? = some (b, n) ∧ w'.heap[b]? = some (.cells arr ty (0, 0)) ∧ arr.size = n ∧ cs.length ≤ n ∧ G'.base ≤ b ∧
      (∀ o, G'.imm b o = none) ∧ (∀ (i : Nat) (x : AV), cs[i]? = some x → ∃ c, arr[i]? = some c ∧ Rep G' x c) ∧ (∀ c ∈ arr.toList, c.oneCell' = true) := by
    rintro ob ⟨b, n, arr, ty, cs, h1, h2, h3, h4, h5, h6, h7, h8, h9⟩
    exact ⟨b, n, arr, ty, cs, h1, by rw [ho]; exact h2, hk _ _ h3 (.inl rfl), h4, h5, by rw [hb]; exact h6, by rw [hi]; exact h7, fun i x hx => let ⟨c, hc, hrr⟩ := h8 i x hx; ⟨c, hc, hr hrr⟩, h9⟩
  cases ob with
  | dead => trivial
  | mp kv =>
    obtain ⟨b, n, es, clock, h1, h2, h3, h4, h5, h6⟩ := h
    exact ⟨b, n, es, clock, by rw [ho]; exact h1, hk _ _ h2 (.inr ⟨_, _, rfl⟩), by rw [hb]; exact h3, by rw [hi]; exact h4, h5, fun i p hp => let ⟨e, q1, q2, q3, q4⟩ := h6 i p hp; ⟨e, q1, hr q2, hr q3, q4⟩⟩
  | box cs => exact main h
  | vecI k l => exact main h
  | vecR sz rs => exact main h

/-- A world that goes on: cells and maps, marks and what lay below lie as they lay. -/
theorem WRel.over {G : Gh} {σ : Store} {w w' : World} (hw : WRel G σ w) {lo : Nat} {m : Nat → Obj → Prop} (hlo : lo ≤ w'.heap.size) (hs : w.heap.size ≤ w'.heap.size) (h1 : w'.os = w.os) (h2 : w'.tape = w.tape) (h3 : w'.output = w.output)
    (hk : ∀ (k : Nat) (o : Obj), w.heap[k]? = some o → (o.isCells = true ∨ ∃ es c, o = Obj.map es c) → w'.heap[k]? = some o) (hf : ∀ k, k < G.base → w'.heap[k]? = w.heap[k]?)
    (hm : ∀ D o, m D o → G.base ≤ D ∧ w'.heap[D]? = some o ∧ o.isCells = false) : WRel (G.frame lo m) σ w' :=
  ⟨hw.len, fun b o c h => by
    obtain ⟨q1, q2⟩ := hw.imm b o c h
    refine ⟨?_, q2⟩
    have hlt := World.block_lt_of_cell? w _ q1
    simp only at hlt
    cases hob : w.heap[b]? with
    | none => rw [Array.getElem?_eq_none_iff] at hob; omega
    | some x =>
      cases x with
      | cells arr ty fr => rw [World.cell?_of_block (w := w) (by rw [hk _ _ hob (.inl rfl), hob])]; exact q1
      | _ => simp [World.cell?, hob] at q1,
    fun id ob h => (hw.objs id ob h).over rfl rfl rfl hk, hw.inj, fun b hb => (hf b hb).trans (hw.frame b hb), Nat.le_trans hw.sz hs, h1.trans hw.os, h2.trans hw.tape, h3.trans hw.output, hm, hlo, hw.globs⟩

theorem putObj_others {w : World} {D k : Nat} {o : Obj} (h : k ≠ D) : (w.putObj D o).heap[k]? = w.heap[k]? := World.putObj_heap_other h

/-- The way out of a frame, past its marks. -/
theorem leaves_marks {G : Gh} {σ : Store} {fn : Func} {tmps : Array Value} {R : Ending → World → Prop} {lo : Nat} {m : Nat → Obj → Prop} (hlo : G.base ≤ lo)
    (hfin : ∀ w, WRel (G.frame lo m) σ w → LeavesIn Fence.wide 0 P fn tmps R [] .returning w) :
    ∀ (Ds : List Nat) (w : World), Ds.Nodup → (∀ D ∈ Ds, lo ≤ D ∧ w.heap[D]? = some (.deferred (some []))) → (∀ D o, m D o → D < lo) → WRel (G.frame lo m) σ w →
      LeavesInM Fence.wide 0 P fn tmps R (Ds.map markOf) .returning w
  | [], w, _, _, _, hw => hfin w hw
  | D :: Ds, w, hn, hD, hm, hw => by
    simp only [List.nodup_cons] at hn
    obtain ⟨q1, q2⟩ := hD D (by simp)
    refine ⟨by simp, .inl ⟨D, _, rfl, run_takeDeferred q2, ?_⟩⟩
    refine leaves_marks hlo hfin Ds _ hn.2 (fun E hE => ?_) hm ?_
    · have hne : E ≠ D := fun e => hn.1 (e ▸ hE)
      exact ⟨(hD E (by simp [hE])).1, by rw [putObj_others hne]; exact (hD E (by simp [hE])).2⟩
    · refine hw.over (lo := lo) (m := m) (by simp; exact hw.grew) (by simp) rfl rfl rfl (fun k o hk hc => ?_) (fun k hk => ?_) (fun E o hE => ?_)
      · have hne : k ≠ D := fun e => by
          subst e; rw [q2] at hk; cases hk
          rcases hc with hc | ⟨_, _, hc⟩ <;> cases hc
        rw [putObj_others hne]; exact hk
      · have hne : k ≠ D := by have : k < G.base := hk; omega
        exact putObj_others hne
      · have hne : E ≠ D := by have := hm E o hE; omega
        have := hw.marks E o hE
        exact ⟨this.1, by rw [putObj_others hne]; exact this.2.1, this.2.2⟩

/-- **A function, by its code.** -/
theorem acalls_of_vc {f : FuncId} {fn : Func} {c : Code} {args : List AV} {σ : Store} {R : AV → Store → Prop} (hc : ∀ (vs : Array Value) w, (callFunc f vs).run P w = .ok (.enter f vs) w) (hf : P.funcs[f]? = some fn)
    (hb : fn.body = some c) (hN : codeOk fn.ntmps c = true) (hl : args.length ≤ fn.ntmps) (h : vc P fn.ntmps c (retK P fn.results.toList R) (envOf 0 args) σ) : ACalls P f args σ R := by
  refine ⟨hc, fun G w vs hw hlist => ?_⟩
  have hlen : args.length = vs.size := by simpa using hlist.length
  have hw0 : WRel (G.frame w.heap.size G.mark) σ w := hw.over (Nat.le_refl _) (Nat.le_refl _) rfl rfl rfl (fun _ _ h _ => h) (fun _ _ => rfl) hw.marks
  have hmk : ∀ D o, G.mark D o → D < w.heap.size := fun D o hD => (Array.getElem?_eq_some_iff.1 (hw.marks D o hD).2.1).1
  refine (callsIn_wide (n := 0)).1 (callsIn_of_wp_marks hf hb trivial (wpIn_wide.2 (Code.wp_mono ?_ (vc_sound hN h (G.frame w.heap.size G.mark) (G.frame w.heap.size G.mark) { tmps := vs ++ Array.replicate (fn.ntmps - vs.size) undef, defers := [] } w (.refl _) ⟨?_, .nil hw0.globs, fun t x hx => ?_⟩ hw0))) rfl)
  · rintro ex a' w' ⟨G', e', s', h1, h2, h3, h4⟩
    have fin : retK P fn.results.toList R .ret e' s' → LeavesInM Fence.wide 0 P fn a'.tmps (fun e w' => ∃ v r σ' G', e = .returned v ∧ G.le G' ∧ WRel G' σ' w' ∧ Rep G' r v ∧ R r σ') a'.defers .returning w' := by
      intro h4
      simp only [retK] at h4
      split at h4
      · rename_i v hv
        obtain ⟨_, Ds, d1, d2, d3⟩ := h2.2.1
        rw [d1]
        have hlo : G'.lo = w.heap.size := h1.lo
        have hbase : G'.base = G.base := h1.base
        have hbl : G'.base ≤ w.heap.size := by rw [hbase]; exact hw.sz
        have hmarks : ∀ D o, G.mark D o → G'.mark D o := h1.mark
        refine leaves_marks (G := G') (σ := s') (lo := w.heap.size) (m := G.mark) hbl (fun w2 hw2 => ?_) Ds w' d2 (fun D hD => ⟨by rw [← hlo]; exact (d3 D hD).1, (h3.marks D _ (d3 D hD).2).2.1⟩) hmk
          (h3.over (by rw [← hlo]; exact h3.grew) (Nat.le_refl _) rfl rfl rfl (fun _ _ h _ => h) (fun _ _ => rfl) (fun D o hD => h3.marks D o (hmarks D o hD)))
        have he2 : ERel (G'.frame w.heap.size G.mark) fn.ntmps e' { tmps := a'.tmps, defers := [] } := ⟨h2.1, .nil h3.globs, fun t x hx => let ⟨c, hc, hr⟩ := h2.2.2 t x hx; ⟨c, hc, rep_frame hr⟩⟩
        obtain ⟨c, hc, hr⟩ := run_results he2 hw2 hv
        refine ⟨c, hc, c, v, s', (G'.frame G.lo G.mark), rfl, ⟨h1.base, h1.w0, h1.imm, h1.obj, rfl, fun _ _ h => h⟩, ?_, rep_frame (rep_unframe hr), h4⟩
        exact hw2.over (lo := G.lo) (m := G.mark) (Nat.le_trans hw.grew hw2.grew) (Nat.le_refl _) rfl rfl rfl (fun _ _ h _ => h) (fun _ _ => rfl) hw2.marks
      · exact h4.elim
    cases ex with
    | normal => exact fin h4
    | ret => exact fin h4
    | exit i => exact h4.elim
    | goto i => exact h4.elim
    | panic c => exact h4.elim
    | outgrown => exact h4.elim
  · simp; omega
  · obtain ⟨_, h2⟩ := envOf_get 0 args t x hx
    rw [Nat.sub_zero] at h2
    obtain ⟨v, hv, hr⟩ := hlist.get t x h2
    refine ⟨v, ?_, rep_frame hr⟩
    have hlt : t < vs.size := by have := (List.getElem?_eq_some_iff.1 hv).1; simpa using this
    rw [Array.getElem?_append_left hlt]
    simpa using hv

end Go.Pa
