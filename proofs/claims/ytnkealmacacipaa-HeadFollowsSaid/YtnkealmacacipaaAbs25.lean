/-
  A range over a function: the rule, joined.
-/
import Derived.Test.YtnkealmacacipaaAbs24
namespace Go.Pa
set_option linter.unusedSectionVars false
variable [GTab]
variable {P : Program} {N : Nat}

/-! ### The assignment to the loop's left sides -/

def asgOps : List Oper → Option (List (Tmp × Tmp))
  | [] => some []
  | ⟨some d, .assign (.tmp s), _, _, _, none⟩ :: os => (asgOps os).map ((d, s) :: ·)
  | _ => none

def asgCode : Code → Option (List (Tmp × Tmp))
  | .region _ ops false => asgOps ops.toList
  | .seq a b => match asgCode a, asgCode b with
    | some x, some y => some (x ++ y)
    | _, _ => none
  | _ => none

def asgAct (ms : List (Tmp × Tmp)) (a : Act) : Act := ms.foldl (fun a p => a.put (some p.1) (a.eval (.tmp p.2))) a
def asgEnv (ms : List (Tmp × Tmp)) (e : Env) : Env := ms.foldl (fun e p => (p.1, evO e (.tmp p.2)) :: e) e

theorem asgOps_run {l n : Nat} {ops : Array Oper} {Q : Exit → Act → World → Prop} : ∀ {os : List Oper} {ms : List (Tmp × Tmp)} {a : Act} {w : World}, asgOps os = some ms → Q .normal (asgAct ms a) w → wpListIn (Fence.wide.inRound l) n P ops Q os a w
  | [], ms, a, w, h, hq => by simp only [asgOps, Option.some.injEq] at h; subst h; exact hq
  | o :: os, ms, a, w, h, hq => by
    unfold asgOps at h
    split at h
    · cases ‹_ :: _ = _›
    · rename_i d s ty pos af os' heq
      cases heq
      cases hr : asgOps os with
      | none => simp [hr] at h
      | some ms' =>
        simp only [hr, Option.map_some, Option.some.injEq] at h
        subst h
        unfold wpListIn
        rw [if_pos (by simp [Region.wanted])]
        unfold Oper.wpIn
        refine ⟨fun _ _ => trivial, ?_⟩
        rw [Oper.semAt_eq _ _ _ (by intro c hc; cases hc)]
        simp only [execOp, Sem.run_pure, Oper.uponIn_value]
        exact asgOps_run hr hq
    · cases h

theorem asgCode_run {l n : Nat} {Q : Exit → Act → World → Prop} : ∀ {c : Code} {ms : List (Tmp × Tmp)} {a : Act} {w : World}, asgCode c = some ms → Q .normal (asgAct ms a) w → c.wpIn (Fence.wide.inRound l) n P Q a w
  | .region id ops d, ms, a, w, h, hq => by
    cases d with
    | true => simp [asgCode] at h
    | false => exact wpIn_region_list (asgOps_run (by simpa [asgCode] using h) hq)
  | .seq x y, ms, a, w, h, hq => by
    unfold asgCode at h
    split at h
    · rename_i m1 m2 h1 h2
      cases h
      refine wpIn_seq (asgCode_run h1 ?_)
      refine asgCode_run h2 ?_
      unfold asgAct at hq ⊢
      rw [List.foldl_append] at hq
      exact hq
    · cases h
  | .skip, _, _, _, h, _ => by simp [asgCode] at h
  | .cond _ _ _, _, _, _, h, _ => by simp [asgCode] at h
  | .block _ _, _, _, _, h, _ => by simp [asgCode] at h
  | .exit _, _, _, _, h, _ => by simp [asgCode] at h
  | .ret, _, _, _, h, _ => by simp [asgCode] at h
  | .loop _, _, _, _, h, _ => by simp [asgCode] at h
  | .rangeFunc _ _ _ _, _, _, _, h, _ => by simp [asgCode] at h
  | .scope _, _, _, _, h, _ => by simp [asgCode] at h
  | .label _, _, _, _, h, _ => by simp [asgCode] at h
  | .goto _, _, _, _, h, _ => by simp [asgCode] at h
  | .refuse _, _, _, _, h, _ => by simp [asgCode] at h

theorem asg_rel {G : Gh} : ∀ {ms : List (Tmp × Tmp)} {e : Env} {a : Act}, (∀ p ∈ ms, p.1 < N) → ERel G N e a → ERel G N (asgEnv ms e) (asgAct ms a)
  | [], _, _, _, h => h
  | p :: ms, e, a, hm, h => by
    simp only [asgEnv, asgAct, List.foldl_cons]
    exact asg_rel (fun q hq => hm q (List.mem_cons_of_mem _ hq)) (h.put (some p.1) (fun t ht => by cases ht; exact hm p (by simp)) (rep_evO h (.tmp p.2)))

def parEnv : List Tmp → List AV → Env → Env
  | p :: ps, x :: xs, e => parEnv ps xs ((p, x) :: e)
  | _, _, e => e

theorem par_rel {G : Gh} : ∀ {ps : List Tmp} {xs : List AV} {vs : List Value} {e : Env} {a : Act}, (∀ p ∈ ps, p < N) → RepL G xs vs → vs.length = ps.length → ERel G N e a →
    ERel G N (parEnv ps xs e) { tmps := (ps.zip vs).foldl (fun t (p : Tmp × Value) => t.setIfInBounds p.1 p.2) a.tmps, defers := a.defers }
  | [], xs, vs, e, a, _, _, hl, h => by
    have : vs = [] := by simpa using hl
    subst this
    cases xs <;> exact h
  | p :: ps, xs, vs, e, a, hp, hr, hl, h => by
    cases hr with
    | nil => simp at hl
    | cons h1 h2 =>
      simp only [parEnv, List.zip_cons_cons, List.foldl_cons]
      exact par_rel (a := a.put (some p) _) (fun q hq => hp q (List.mem_cons_of_mem _ hq)) h2 (by simpa using hl) (h.put (some p) (fun t ht => by cases ht; exact hp p (by simp)) h1)

/-- **A range over a function.** -/
theorem awp_range {α : Type} {g : Operand} {ps : Array Tmp} {assign body : Code} {gf : FuncId} {cs : List AV} {env : Env} {σ : Store} {K : Exit → Env → Store → Prop} {Keep : Store → Prop} {encs : α → Array Value} {xs : List α}
    (hg : evO env g = .fn gf [] cs) (hit : IterC P gf cs Keep encs xs) {ms : List (Tmp × Tmp)} (hms : asgCode assign = some ms) (hmN : ∀ p ∈ ms, p.1 < N) (hbN : codeOk N body = true)
    (encA : α → List AV) (henc : ∀ G x, RepL G (encA x) (encs x).toList) (hps : ∀ x, (encs x).size = ps.size) (hpsN : ∀ p ∈ ps.toList, p < N)
    (Inv : List α → Store → Prop) (h0 : Inv [] σ) (hinv : ∀ pre s, Inv pre s → Keep s ∧ NoMaps s)
    (hround : ∀ pre x s, pre.length < xs.length → Inv pre s → vcR P N body (fun ex _ s' => match ex with | .normal => Inv (pre ++ [x]) s' | _ => False) (asgEnv ms (parEnv ps.toList (encA x) env)) s)
    (hdone : ∀ s, Inv xs s → K .normal env s) : AWp P N (.rangeFunc g ps assign body) K env σ := by
  intro G0 G a w hg0 he hw
  have hfn := rep_evO he g
  rw [hg] at hfn
  obtain ⟨gs, hs, hv, hgs, hcs⟩ := hfn.fn_inv
  have hgs0 : gs = #[] := by cases hgs' : gs.toList with
    | nil => exact Array.toList_eq_nil_iff.1 hgs'
    | cons x y => rw [hgs'] at hgs; cases hgs
  subst hgs0
  obtain ⟨hk0, hn0⟩ := hinv _ _ h0
  have hlt := markLt hw
  have hbB : G.base ≤ w.heap.size := hw.sz
  refine (wpIn_wide (n := 4)).1 (wpIn_rangeFunc_ownG (F := Fence.wide) (α := α) rfl (by omega) hv trivial hit.1 (hit.2 G σ w hs hw hn0 hk0 hcs) (fun h k => fun q => k (h q)) (fun W l o o' hl hlo ho _ => ?hKb) (RowKit.Below.refl _ _) hps
    (fun pre W => ∃ G' s, G.le G' ∧ G'.mark = G.mark ∧ WRel G' s W ∧ Inv pre s) (fun _ _ _ => False) ?hI (fun _ _ _ _ _ h => h.elim) ⟨G, σ, .refl G, rfl, hw, h0⟩
    (fun x => asgAct ms { tmps := (ps.zip (encs x)).foldl (fun t (p, v) => t.setIfInBounds p v) a.tmps, defers := [] })
    (fun l x W K hK => asgCode_run hms hK) ?hbody ?hdone (fun _ _ _ _ _ _ h => h.elim))
  case hKb =>
    rintro ⟨G', s, q1, q2, q3, q4, q5⟩
    have hgr : W.grownBy (W.putObj l o') (some l) := grownBy_putObj' W l o'
    have hb' : G'.base ≤ w.heap.size := by rw [q1.base]; exact hbB
    exact ⟨_, s, ⟨q1.base, q1.w0, q1.imm, q1.obj, q1.lo, q1.mark⟩, q2.grown q4 hb' q5 hgr (fun r e => by cases e; exact ⟨hl, o, hlo, ho⟩), q3, q4, q5⟩
  case hI =>
    rintro pre W W' row ⟨G', s, q1, q2, q3, q4⟩ hgr hr
    have hb' : G'.base ≤ w.heap.size := by rw [q1.base]; exact hbB
    exact ⟨_, s, ⟨q1.base, q1.w0, q1.imm, q1.obj, q1.lo, q1.mark⟩, q2, q3.grown (hinv _ _ q4).2 hb' (fun D o hD => hlt D o (by rw [← q2]; exact hD)) hgr hr, q4⟩
  case hbody =>
    rintro l pre x W ⟨G', s, q1, q2, q3, q4⟩ hlen
    obtain ⟨k1, k2⟩ := hinv _ _ q4
    let mk : Nat → Obj → Prop := fun D o => G'.base ≤ D ∧ W.heap[D]? = some o ∧ o.isCells = false
    have hb' : G'.base ≤ w.heap.size := by rw [q1.base]; exact hbB
    have hwr : WRel (G'.frame W.heap.size mk) s W := q3.overC k2 (Nat.le_refl _) (Nat.le_refl _) rfl rfl rfl (fun _ _ h _ => h) (fun _ _ => rfl) (fun D o h => h)
    have hrel : ERel (G'.frame W.heap.size mk) N (asgEnv ms (parEnv ps.toList (encA x) env)) (asgAct ms { tmps := (ps.zip (encs x)).foldl (fun t (p, v) => t.setIfInBounds p v) a.tmps, defers := [] }) := by
      refine asg_rel hmN ?_
      have hbase : ERel (G'.frame W.heap.size mk) N env { tmps := a.tmps, defers := [] } := ⟨he.1, .nil hwr.globs, fun t y hy => let ⟨v, hv, hr⟩ := he.2.2 t y hy; ⟨v, hv, rep_frame (hr.mono q1)⟩⟩
      have := par_rel (ps := ps.toList) hpsN (henc _ x) (by have := hps x; simpa using this) hbase
      rw [← Array.foldl_toList, Array.toList_zip]
      exact this
    refine Code.wpIn_mono ?_ (vcR_sound hbN (hround pre x s hlen q4) l (G'.frame W.heap.size mk) (G'.frame W.heap.size mk) _ W (.refl _) hrel hwr)
    rintro ex a2 W2 ⟨G2, e2, s2, p1, p2, p3, p4⟩
    cases ex with
    | normal =>
      obtain ⟨j1, j2⟩ := hinv _ _ p4
      have hsz : W.heap.size ≤ W2.heap.size := by have := p3.grew; rw [p1.lo] at this; exact this
      have hG : G.le (G2.frame G.lo G.mark) := ⟨p1.base.trans q1.base, p1.w0.trans q1.w0, fun b o c h => p1.imm b o c (q1.imm b o c h), fun i y h => p1.obj i y (q1.obj i y h), rfl, fun _ _ h => h⟩
      have hmm : ∀ D o, G.mark D o → G2.mark D o := fun D o hD => p1.mark D o (q3.marks D o (q1.mark D o hD))
      have hlo2 : G.lo ≤ W2.heap.size := Nat.le_trans (by rw [← q1.lo]; exact q3.grew) hsz
      have hw2 : WRel (G2.frame G.lo G.mark) s2 W2 := p3.overC j2 hlo2 (Nat.le_refl _) rfl rfl rfl (fun _ _ h _ => h) (fun _ _ => rfl) (fun D o hD => p3.marks D o (hmm D o hD))
      refine ⟨⟨hsz, fun k o hB hk ho => (p3.marks k o (p1.mark k o ⟨by omega, hk, ho⟩)).2.1⟩, fun _ => ⟨_, s2, hG, hw2, j1, j2, fun D o hD => hlt D o hD⟩, _, s2, hG, rfl, hw2, p4⟩
    | ret => exact p4.elim
    | exit i => exact p4.elim
    | goto i => exact p4.elim
    | panic c => exact p4.elim
    | outgrown => exact p4.elim
  case hdone =>
    rintro D ys W hD rfl ⟨G', s, q1, q2, q3, q4⟩ hK
    obtain ⟨k1, k2⟩ := hinv _ _ q4
    have hlo : G'.lo ≤ w.heap.size := by rw [q1.lo]; exact hw.grew
    have hb' : G'.base ≤ w.heap.size := by rw [q1.base]; exact hbB
    have hw2 : WRel (G'.frame G'.lo (fun E o => G'.mark E o ∨ (E = D ∧ o = .deferred (some [])))) s W := q3.overC k2 q3.grew (Nat.le_refl _) rfl rfl rfl (fun _ _ h _ => h) (fun _ _ => rfl) (fun E o hE => by
      rcases hE with hE | ⟨rfl, rfl⟩
      · exact q3.marks E o hE
      · exact ⟨by omega, hK, rfl⟩)
    have hle : G'.le (G'.frame G'.lo (fun E o => G'.mark E o ∨ (E = D ∧ o = .deferred (some [])))) := ⟨rfl, rfl, fun _ _ _ h => h, fun _ _ h => h, rfl, fun _ _ h => .inl h⟩
    obtain ⟨_, Ds, d1, d2, d3⟩ := he.2.1
    refine ⟨_, env, s, (hg0.trans q1).trans hle, ⟨he.1, ⟨hw2.globs, D :: Ds, by simp [d1, markOf], ?_, fun E hE => ?_⟩, fun t y hy => let ⟨v, hv, hr⟩ := he.2.2 t y hy; ⟨v, hv, (hr.mono q1).mono hle⟩⟩, hw2, hdone s q4⟩
    · refine List.nodup_cons.2 ⟨fun hm => ?_, d2⟩
      have := hlt D _ (d3 D hm).2
      omega
    · rcases List.mem_cons.1 hE with rfl | hE
      · exact ⟨by show G'.lo ≤ _; omega, .inr ⟨rfl, rfl⟩⟩
      · exact ⟨by show G'.lo ≤ _; rw [q1.lo]; exact (d3 E hE).1, .inl (q1.mark _ _ (d3 E hE).2)⟩

end Go.Pa
