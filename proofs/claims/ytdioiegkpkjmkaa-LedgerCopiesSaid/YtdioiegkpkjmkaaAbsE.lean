/-
  A slice that is written out is an own object; code said of all concrete states.
-/
import Derived.Test.YtdioiegkpkjmkaaAbsD
namespace Go.Pa
set_option linter.unusedSectionVars false
set_option linter.unusedSimpArgs false
variable [GTab]
variable {P : Program}

/-- **A function, by its code, said of all concrete states.** -/
theorem acalls_of_awp {f : FuncId} {fn : Func} {c : Code} {args : List AV} {σ : Store} {R : AV → Store → Prop} (hc : ∀ (vs : Array Value) w, (callFunc f vs).run P w = .ok (.enter f vs) w) (hf : P.funcs[f]? = some fn)
    (hb : fn.body = some c) (hl : args.length ≤ fn.ntmps) (h : AWp P fn.ntmps c (retK P fn.results.toList R) (envOf 0 args) σ) : ACalls P f args σ R := by
  refine ⟨hc, fun G w vs hw hlist => ?_⟩
  have hlen : args.length = vs.size := by simpa using hlist.length
  have hw0 : WRel (G.frame w.heap.size G.mark) σ w := hw.over (Nat.le_refl _) (Nat.le_refl _) rfl rfl rfl (fun _ _ h _ => h) (fun _ _ => rfl) hw.marks (fun _ _ h => h)
  have hmk : ∀ D o, G.mark D o → D < w.heap.size := fun D o hD => (Array.getElem?_eq_some_iff.1 (hw.marks D o hD).2.1).1
  refine (callsIn_wide (n := 0)).1 (callsIn_of_wp_marks hf hb trivial (wpIn_wide.2 (Code.wp_mono ?_ (h (G.frame w.heap.size G.mark) (G.frame w.heap.size G.mark) { tmps := vs ++ Array.replicate (fn.ntmps - vs.size) undef, defers := [] } w (.refl _) ⟨?_, .nil hw0.globs, fun t x hx => ?_⟩ hw0))) rfl)
  · rintro ex a' w' ⟨G', e', s', h1, h2, h3, h4⟩
    have fin : retK P fn.results.toList R .ret e' s' → LeavesInM Fence.wide 0 P fn a'.tmps (fun e w' => ∃ v r σ' G', e = .returned v ∧ G.le G' ∧ WRel G' σ' w' ∧ Rep G' r v ∧ R r σ') a'.defers .returning w' := by
      intro h4
      simp only [retK] at h4
      split at h4
      · rename_i v hv
        obtain ⟨_, Ds, d1, d2, d3⟩ := h2.2.1
        rw [d1]
        have hlo : G'.lo = w.heap.size := h1.lo
        have hbase : G'.base = G.base := h1.base
        have hbl : G'.base ≤ w.heap.size := by rw [hbase]; exact hw.sz
        have hmarks : ∀ D o, G.mark D o → G'.mark D o := h1.mark
        refine leaves_marks (G := G') (σ := s') (lo := w.heap.size) (m := G.mark) hbl (fun w2 hw2 => ?_) Ds w' d2 (fun D hD => ⟨by rw [← hlo]; exact (d3 D hD).1, (h3.marks D _ (d3 D hD).2).2.1⟩) hmk
          (h3.over (by rw [← hlo]; exact h3.grew) (Nat.le_refl _) rfl rfl rfl (fun _ _ h _ => h) (fun _ _ => rfl) (fun D o hD => h3.marks D o (hmarks D o hD)) hmarks)
        have he2 : ERel (G'.frame w.heap.size G.mark) fn.ntmps e' { tmps := a'.tmps, defers := [] } := ⟨h2.1, .nil h3.globs, fun t x hx => let ⟨c, hc, hr⟩ := h2.2.2 t x hx; ⟨c, hc, rep_frame hr⟩⟩
        obtain ⟨c, hc, hr⟩ := run_results he2 hw2 hv
        refine ⟨c, hc, c, v, s', (G'.frame G.lo G.mark), rfl, ⟨h1.base, h1.w0, h1.imm, h1.obj, rfl, fun _ _ h => h⟩, ?_, rep_frame (rep_unframe hr), h4⟩
        exact hw2.over (lo := G.lo) (m := G.mark) (Nat.le_trans hw.grew hw2.grew) (Nat.le_refl _) rfl rfl rfl (fun _ _ h _ => h) (fun _ _ => rfl) hw2.marks (fun _ _ h => h)
      · exact h4.elim
    cases ex with
    | normal => exact fin h4
    | ret => exact fin h4
    | exit i => exact h4.elim
    | goto i => exact h4.elim
    | panic c => exact h4.elim
    | outgrown => exact h4.elim
  · simp; omega
  · obtain ⟨_, h2⟩ := envOf_get 0 args t x hx
    rw [Nat.sub_zero] at h2
    obtain ⟨v, hv, hr⟩ := hlist.get t x h2
    refine ⟨v, ?_, rep_frame hr⟩
    have hlt : t < vs.size := by have := (List.getElem?_eq_some_iff.1 hv).1; simpa using this
    rw [Array.getElem?_append_left hlt]
    simpa using hv


def seqA (P : Program) (N : Nat) (b : Code) (K : Exit → Env → Store → Prop) : Exit → Env → Store → Prop := fun x e s => match x with | .normal => AWp P N b K e s | x => K x e s

theorem awp_seq {N : Nat} {a b : Code} {K : Exit → Env → Store → Prop} {e : Env} {s : Store} (h : AWp P N a (seqA P N b K) e s) : AWp P N (.seq a b) K e s := by
  intro G0 G ac w hg he hw
  refine wp_seq (Code.wp_mono ?_ (h G0 G ac w hg he hw))
  rintro ex a' w' ⟨G', e', s', h1, h2, h3, h4⟩
  cases ex with
  | normal => exact h4 G0 G' a' w' h1 h2 h3
  | exit i => exact ⟨G', e', s', h1, h2, h3, h4⟩
  | goto i => exact ⟨G', e', s', h1, h2, h3, h4⟩
  | ret => exact ⟨G', e', s', h1, h2, h3, h4⟩
  | panic c => exact ⟨G', e', s', h1, h2, h3, h4⟩
  | outgrown => exact ⟨G', e', s', h1, h2, h3, h4⟩

theorem awp_vc {N : Nat} {c : Code} {K : Exit → Env → Store → Prop} {e : Env} {s : Store} (hN : codeOk N c = true) (h : vc P N c K e s) : AWp P N c K e s := vc_sound hN h

theorem seqA_normal (N : Nat) (b : Code) (K : Exit → Env → Store → Prop) (e : Env) (s : Store) : seqA P N b K .normal e s = AWp P N b K e s := rfl
theorem seqA_ret (N : Nat) (b : Code) (K : Exit → Env → Store → Prop) (e : Env) (s : Store) : seqA P N b K .ret e s = K .ret e s := rfl
theorem seqA_exit (i : Nat) (N : Nat) (b : Code) (K : Exit → Env → Store → Prop) (e : Env) (s : Store) : seqA P N b K (.exit i) e s = K (.exit i) e s := rfl

def ownOb (sz : Nat) (rs : List (List AV)) : AObj := match rowsAV sz rs with
  | .ints k l => .vecI k l
  | _ => .vecR sz rs

theorem ownOb_cells {sz : Nat} {rs : List (List AV)} (hs : ∀ r ∈ rs, r.length = sz) : (ownOb sz rs).cells = some rs.flatten := by
  have gen : (AObj.vecR sz rs).cells = some rs.flatten := by simp only [AObj.cells]; rw [if_pos hs]
  unfold ownOb rowsAV
  split
  · rename_i k l h
    split at h
    · split at h
      · rename_i hl
        cases h
        have := intsOf_spec _ _ _ hl
        simp only [AObj.cells, Option.some.injEq]
        rw [this]
        generalize l = l'
        induction l' with
        | nil => rfl
        | cons a l' ih => simp [ih]
      · cases h
    · cases h
  · exact gen

/-- A slice that is written out, as an own object. -/
def vcOwn (P : Program) (s : Store) (R : AV → Store → Prop) (t : TypeId) (n : Nat) (ps : List (Nat × AV)) : Prop :=
  match sliceElem P t with
  | some (_, sz) => n ≠ 0 ∧ ps.length = n ∧ n * sz ≤ 16777216 ∧ match partsOne sz ps 0 with
    | some rs => R (.mvec s.length 0 n sz) (s ++ [ownOb sz rs])
    | none => False
  | none => False

theorem own_sound {G : Gh} {t : TypeId} {len : Nat} {ps : List (Nat × AV)} {σ : Store} {R : AV → Store → Prop} (h : vcOwn P σ R t len ps) {qs : Array (Nat × Value)} (hq : RepP G ps qs.toList) {w : World} (hw : WRel G σ w) :
    ∃ c w' v σ' G', (Instr.buildSlice t len qs).run P w = .ok c w' ∧ G.le G' ∧ WRel G' σ' w' ∧ Rep G' v c ∧ R v σ' := by
  unfold vcOwn at h
  split at h
  · rename_i e sz hse
    obtain ⟨hu, hsz, hpos⟩ := sliceElem_spec hse
    obtain ⟨_, _, _, it, zv, hit, hzv, _, hcs, _⟩ := sliceElem_zero hse
    have hzr : (zeroValue e).run P w = .ok zv w := by simp [zeroValue, typeInfo, hit, hzv]
    have hps : 0 < P.cellsOf e := by omega
    have hpq : ps.length = qs.size := by
      have : ∀ {ps : List (Nat × AV)} {qs : List (Nat × Value)}, RepP G ps qs → ps.length = qs.length := by
        intro ps qs h; induction h with
        | nil => rfl
        | cons _ _ ih => simp [ih]
      simpa using this hq
    have go : ∀ (cells : Array Value) (us : Array Value) (vs : List Value), Instr.fill (fun i => some (i * sz, sz)) cells qs.toList = some us → cells = (Array.range (len * sz)).map (fun i => zv.cells[i % zv.cells.size]!) → len * sz ≤ 16777216 → (0 < len * sz) →
        (Instr.buildSlice t len qs).run P w = .ok (.slice (some ⟨w.heap.size, 0, none⟩) len len) (w.alloc (.cells us e)) := by
      intro cells us vs hf hc hle hpos2
      have h1 : ¬ (len * sz > 2 ^ 24) := by omega
      have h2 : ¬ (len * sz = 0) := by omega
      subst hc
      simp only [Instr.buildSlice, Sem.run_bind, run_underlying hu, Result.andThen_ok, run_sizeOf hps, hsz, h1, if_false, Sem.run_pure, Sem.run_ite, h2, hzr]
      rw [hf]
      simp [newRow]
    obtain ⟨hl0, hlen, hle, h⟩ := h
    split at h
    · rename_i rs hrs
      have hp2 : 0 < len * sz := Nat.mul_pos (by omega) hpos
      obtain ⟨ha, hb, us, vs, hf, hrl, hone, htl⟩ := partsOne_sound hpos hq hrs ((Array.range (len * sz)).map (fun i => zv.cells[i % zv.cells.size]!)) (by simp [hlen])
      have hrun := go _ us vs hf rfl hle hp2
      have hvl : vs.length = len * sz := by
        rw [← hrl.length, List.length_flatten]
        have : rs.map List.length = List.replicate len sz := by
          rw [← hlen, ← hb]
          apply List.ext_getElem?
          intro j
          simp only [List.getElem?_map, List.getElem?_replicate]
          split
          · rename_i hj; simp [hj, ha _ (List.getElem_mem hj)]
          · rename_i hj; simp [Nat.not_lt.1 hj]
        rw [this, List.sum_replicate_nat]
      have hus : us.toList = vs := by
        rw [htl]
        simp only [Nat.zero_mul, List.take_zero, List.nil_append, Nat.zero_add]
        rw [List.drop_of_length_le (by simp; omega), List.append_nil]
      have husz : us.size = len * sz := by rw [← hvl, ← hus]; simp
      refine ⟨_, _, _, _, _, hrun, Gh.le_add G _ _, hw.push rfl rfl rfl rfl (ownOb_cells ha) vs hrl (fun i c hc => by rw [← hus] at hc; simpa using hc) (fun c hc => hone c (by rw [← hus]; exact hc)), ?_, h⟩
      have hobj : (G.add w.heap.size us.size).obj[σ.length]? = some (w.heap.size, us.size) := by simp only [Gh.add]; rw [← hw.len]; simp
      have := Rep.mvec (G := G.add w.heap.size us.size) σ.length 0 len sz len _ _ hobj (by omega) (by rw [husz]; simp)
      simpa using this
    · exact h.elim
  · exact h.elim

/-- The operations of a region without guards; those of which own tells write out an own object. -/
def vcOpsO (P : Program) (own : Nat → Bool) : Nat → List Oper → Env → Store → (Env → Store → Prop) → Prop
  | _, [], e, s, K => K e s
  | i, o :: os, e, s, K => o.guard = none ∧ match own i, o.op with
    | true, .buildSlice t n ps => vcOwn P s (fun v s' => vcOpsO P own (i + 1) os (e.put o.dst v) s' K) t n (ps.toList.map fun p => (p.1, evO e p.2))
    | _, op => vcOp P e s (fun v s' => vcOpsO P own (i + 1) os (e.put o.dst v) s' K) op

theorem vcOpsO_sound {all : Array Oper} {own : Nat → Bool} {N : Nat} {Q : Exit → Act → World → Prop} {G0 : Gh} : ∀ {os : List Oper} {i : Nat} {e : Env} {s : Store} {K : Env → Store → Prop}, dstOk N os = true → vcOpsO P own i os e s K →
    (∀ G e s a w, G0.le G → ERel G N e a → WRel G s w → K e s → Q .normal a w) → ∀ G a w, G0.le G → ERel G N e a → WRel G s w → wpList P all Q os a w
  | [], i, e, s, K, _, h, hQ, G, a, w, hg, he, hw => hQ G e s a w hg he hw h
  | o :: os, i, e, s, K, hd, h, hQ, G, a, w, hg, he, hw => by
    simp only [dstOk, List.all_cons, Bool.and_eq_true] at hd
    obtain ⟨hd1, hd2⟩ := hd
    have hdst : ∀ t, o.dst = some t → t < N := fun t ht => by rw [ht] at hd1; simp at hd1; exact hd1.1
    have run : OpJ P N o e s (fun v s' => vcOpsO P own (i + 1) os (e.put o.dst v) s' K) → o.wp P a w (wpList P all Q os) Q := by
      intro hj
      refine Oper.wp_mono ?_ (hj.wp G a w Q he hw)
      rintro a' w' ⟨c, v, σ', G', rfl, hle, hw', hr, hk⟩
      exact vcOpsO_sound hd2 hk hQ G' _ w' (hg.trans hle) ((he.mono hle).put o.dst hdst hr) hw'
    unfold vcOpsO at h
    obtain ⟨hgd, h⟩ := h
    unfold wpList
    rw [if_pos (by simp [Region.wanted, hgd])]
    refine .inl (run ?_)
    split at h
    · rename_i t n ps ho hop
      refine .of_run fun G a w he hw => ?_
      obtain ⟨c, w', v, σ', G', h1, h2, h3, h4, h5⟩ := own_sound h (qs := ps.map fun (i, x) => (i, a.eval x)) (by simpa using repP_evO he ps.toList) hw
      exact ⟨c, w', v, σ', G', .inl (by simp only [execOp, hop, Sem.run_bind, h1, Result.andThen_ok, Sem.run_pure]), h2, h3, h4, h5⟩
    · exact vcOp_sound h

/-- **A region in which slices that are written out are own objects.** -/
theorem awp_own {N id : Nat} (own : Nat → Bool) {l : List Oper} {K : Exit → Env → Store → Prop} {e : Env} {s : Store} (hd : dstOk N l = true) (h : vcOpsO P own 0 l e s (K .normal)) : AWp P N (.region id l.toArray false) K e s := by
  intro G0 G a w hg he hw
  refine wp_region_list ?_
  have := vcOpsO_sound (all := l.toArray) (G0 := G0) (Q := Conc G0 N K) hd h (fun G' e' s' a' w' h1 h2 h3 h4 => ⟨G', e', s', h1, h2, h3, h4⟩) G a w hg he hw
  simpa using this

theorem oO_nil (own : Nat → Bool) (i : Nat) (e : Env) (s : Store) (K : Env → Store → Prop) : vcOpsO P own i [] e s K = K e s := rfl
def oK (P : Program) (own : Nat → Bool) (i : Nat) (os : List Oper) (d : Option Tmp) (e : Env) (K : Env → Store → Prop) : AV → Store → Prop := fun v s' => vcOpsO P own (i + 1) os (e.put d v) s' K
theorem oK_run (own : Nat → Bool) (i : Nat) (os : List Oper) (d : Tmp) (e : Env) (K : Env → Store → Prop) (v : AV) (s : Store) : oK P own i os (some d) e K v s = vcOpsO P own (i + 1) os ((d, v) :: e) s K := rfl
theorem oK_none (own : Nat → Bool) (i : Nat) (os : List Oper) (e : Env) (K : Env → Store → Prop) (v : AV) (s : Store) : oK P own i os none e K v s = vcOpsO P own (i + 1) os e s K := rfl
theorem oO_own {own : Nat → Bool} {i : Nat} (ho : own i = true) {os : List Oper} {d : Option Tmp} {t : TypeId} {n : Nat} {ps : Array (Nat × Operand)} {ty : TypeId} {pos : String} {af : Array Edge} {e : Env} {s : Store} {K : Env → Store → Prop}
    (h : vcOwn P s (oK P own i os d e K) t n (ps.toList.map fun p => (p.1, evO e p.2))) : vcOpsO P own i (⟨d, .buildSlice t n ps, ty, pos, af, none⟩ :: os) e s K := by
  unfold vcOpsO
  refine ⟨rfl, ?_⟩
  simp only [ho]
  exact h
theorem oO_step {own : Nat → Bool} {i : Nat} (ho : own i = false) {os : List Oper} {d : Option Tmp} {op : Op} {ty : TypeId} {pos : String} {af : Array Edge} {e : Env} {s : Store} {K : Env → Store → Prop}
    (h : vcOp P e s (oK P own i os d e K) op) : vcOpsO P own i (⟨d, op, ty, pos, af, none⟩ :: os) e s K := by
  unfold vcOpsO
  refine ⟨rfl, ?_⟩
  simp only [ho]
  exact h

theorem Sh.boxAll {s : Store} {p : Nat → Prop} {id : Nat} {cs : List AV} (h : s[id]? = some (.box cs)) (hp : p id) : Sh s p (.ptr id 0) (.iptr cs) :=
  .box id 0 cs cs h hp (by simp) fun i x y hx hy => by rw [List.drop_zero] at hx; rw [hx] at hy; cases hy; exact .same _

theorem Ext.app (a b : Store) : Ext a (a ++ b) := fun i x h => by rw [List.getElem?_append_left (List.getElem?_eq_some_iff.1 h).1]; exact h

end Go.Pa
