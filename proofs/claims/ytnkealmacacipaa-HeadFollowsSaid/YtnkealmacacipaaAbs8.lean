/-
  Literals; all operations that look at temporaries alone, in one theorem.
-/
import Derived.Test.YtnkealmacacipaaAbs7
namespace Go.Pa
set_option linter.unusedSectionVars false
variable [GTab]
variable {P : Program} {G : Gh}

inductive RepP (G : Gh) : List (Nat × AV) → List (Nat × Value) → Prop
  | nil : RepP G [] []
  | cons {i : Nat} {x : AV} {v : Value} {ps : List (Nat × AV)} {qs : List (Nat × Value)} : Rep G x v → RepP G ps qs → RepP G ((i, x) :: ps) ((i, v) :: qs)

theorem fold_set (o : Nat) : ∀ (l : List Value) (k : Nat) (cells : Array Value), o + k + l.length ≤ cells.size →
    ((l.zipIdx k).foldl (fun cs (p : Value × Nat) => cs.setIfInBounds (o + p.2) p.1) cells).toList = cells.toList.take (o + k) ++ l ++ cells.toList.drop (o + k + l.length)
  | [], k, cells, _ => by simp
  | v :: l, k, cells, h => by
    simp only [List.zipIdx_cons, List.foldl_cons]
    rw [fold_set o l (k + 1) _ (by simp at h ⊢; omega)]
    simp only [Array.toList_setIfInBounds]
    have := list_seg_step cells.toList (o + k) v l (by simp at h ⊢; omega)
    simpa [Nat.add_assoc] using this

theorem fold_set_array (o : Nat) (vs cells : Array Value) (h : o + vs.size ≤ cells.size) :
    (vs.zipIdx.foldl (fun cs (p : Value × Nat) => cs.setIfInBounds (o + p.2) p.1) cells).toList = cells.toList.take o ++ vs.toList ++ cells.toList.drop (o + vs.size) := by
  have h1 := fold_set o vs.toList 0 cells (by simpa using h)
  rw [← Array.foldl_toList]
  simpa using h1

theorem fill_sound (pl : List (Nat × Nat)) (place : Nat → Option (Nat × Nat)) (hp : ∀ i, place i = pl[i]?) : ∀ {ps : List (Nat × AV)} {qs : List (Nat × Value)} {cs r : List AV} {us : Array Value},
    RepP G ps qs → fillA pl cs ps = some r → RepL G cs us.toList → ∃ us', Instr.fill place us qs = some us' ∧ RepL G r us'.toList := by
  intro ps qs cs r us hps
  induction hps generalizing cs us with
  | nil => intro h hl; simp only [fillA, Option.some.injEq] at h; subst h; exact ⟨us, rfl, hl⟩
  | @cons i x v ps qs hr _ ih =>
    intro h hl
    simp only [fillA] at h
    split at h
    · rename_i o sz xs h1 h2
      split at h
      · rename_i hc
        obtain ⟨hlen, hfit⟩ := hc
        obtain ⟨hv, _⟩ := cellsOf_rep hr h2
        have hvl : v.cells.size = sz := by have := hv.length; simp at this; omega
        have hus : us.size = cs.length := by have := hl.length; simp at this; omega
        have hnew : RepL G (splice cs o xs) ((v.cells.zipIdx.foldl (fun cs (p : Value × Nat) => cs.setIfInBounds (o + p.2) p.1) us)).toList := by
          rw [fold_set_array o v.cells us (by omega)]
          unfold splice
          have : xs.length = v.cells.size := by omega
          rw [this]
          exact ((hl.take o).append hv).append (hl.drop _)
        obtain ⟨us', hu, hrr⟩ := ih h hnew
        refine ⟨us', ?_, hrr⟩
        simp only [Instr.fill, hp, h1]
        rw [if_neg]
        · exact hu
        · simp only [ne_eq, Bool.or_eq_true, decide_eq_true_eq]; omega
      · cases h
    · cases h

theorem fill_more (p q : Nat → Option (Nat × Nat)) (h : ∀ i x, p i = some x → q i = some x) : ∀ (qs : List (Nat × Value)) (us r : Array Value), Instr.fill p us qs = some r → Instr.fill q us qs = some r
  | [], us, r, hr => hr
  | (i, v) :: qs, us, r, hr => by
    simp only [Instr.fill] at hr ⊢
    cases hp : p i with
    | none => simp [hp] at hr
    | some x =>
      simp only [hp, h i x hp] at hr ⊢
      split at hr
      · cases hr
      · rename_i hc
        rw [if_neg hc]
        exact fill_more p q h qs _ r hr

theorem info_of_cells {t : TypeId} (h : 0 < P.cellsOf t) : ∃ i, P.info? t = some i ∧ i.size = P.cellsOf t := by
  unfold Program.cellsOf at *
  cases hi : P.info? t with
  | none => simp [hi] at h
  | some i => exact ⟨i, rfl, by simp⟩

theorem places_struct : ∀ (fs : List Field), (∀ p ∈ fs.map (fun f => (f.offset, P.cellsOf f.type)), 0 < p.2) →
    fs.mapM (fun f => (P.info? f.type).map fun i => (f.offset, i.size)) = some (fs.map fun f => (f.offset, P.cellsOf f.type))
  | [], _ => rfl
  | f :: fs, h => by
    obtain ⟨i, hi, hs⟩ := info_of_cells (P := P) (t := f.type) (h (f.offset, P.cellsOf f.type) (by simp))
    have ih := places_struct fs fun p hp => h p (by simp at hp ⊢; exact .inr hp)
    simp [List.mapM_cons, hi, ih, hs]

theorem build_sound {t : TypeId} {ps : List (Nat × AV)} {v : AV} (h : (evBuild P t ps).says v) {qs : Array (Nat × Value)} (hq : RepP G ps qs.toList) (w : World) :
    ∃ c, (Instr.build t qs).run P w = .ok c w ∧ Rep G v c := by
  unfold evBuild at h
  split at h
  · rename_i pl z hpl hz
    split at h
    · rename_i hpos
      split at h
      · rename_i cs hcs
        have := says_val h; subst this
        unfold zeroA at hz
        split at hz
        · rename_i it hit
          split at hz
          · rename_i zv hzv
            cases hz
            have hz0 : RepL G (zv.cells.toList.map ofCell) zv.cells.toList := by
              generalize zv.cells.toList = l
              induction l with
              | nil => exact .nil
              | cons a l ih => exact .cons (rep_ofCell G a) ih
            have hpos' : ∀ p ∈ pl, 0 < p.2 := fun p hp => by have := List.all_eq_true.1 hpos p hp; simpa using this
            unfold placesA at hpl
            split at hpl
            · rename_i fs hu
              cases hpl
              obtain ⟨us', hf, hr⟩ := fill_sound (G := G) _ (fun i => (fs.toList.map fun f => (f.offset, P.cellsOf f.type)).toArray[i]?) (fun i => by simp) hq hcs hz0
              refine ⟨.agg us', run_build w t qs us' ?_, Rep.agg_of hr⟩
              unfold Program.built
              simp only [hit, hu, hzv, places_struct fs.toList hpos']
              exact hf
            · rename_i n e hu
              split at hpl
              · cases hpl
              · rename_i he
                cases hpl
                obtain ⟨ie, hie, hsz⟩ := info_of_cells (P := P) (t := e) (by omega)
                have hpl' : ∀ i, (fun i => if i < n then some (i * ie.size, ie.size) else none) i = ((List.range n).map fun i => (i * P.cellsOf e, P.cellsOf e))[i]? := by
                  intro i
                  simp only [hsz, List.getElem?_map]
                  split
                  · rename_i hi; simp [hi]
                  · rename_i hi; simp [hi]
                obtain ⟨us', hf, hr⟩ := fill_sound (G := G) _ _ hpl' hq hcs hz0
                refine ⟨.agg us', run_build w t qs us' ?_, Rep.agg_of hr⟩
                unfold Program.built
                simp only [hit, hu, hzv, hie]
                exact fill_more _ _ (fun i p hp => by split at hp <;> first | exact hp | cases hp) _ _ _ hf
            · cases hpl
          · cases hz
        · cases hz
      · exact h.elim
    · exact h.elim
  · exact h.elim

/-! ### Slice literals -/

theorem drop_app {α : Type} (A B : List α) (m n : Nat) (h : A.length = m) : (A ++ B).drop (m + n) = B.drop n := by
  subst h
  induction A with
  | nil => simp
  | cons a A ih => simp [Nat.succ_add, ih]

theorem partsOne_sound {sz : Nat} (hsz : 0 < sz) : ∀ {ps : List (Nat × AV)} {qs : List (Nat × Value)} {rs : List (List AV)} {k : Nat}, RepP G ps qs → partsOne sz ps k = some rs →
    ∀ (cells : Array Value), (k + ps.length) * sz ≤ cells.size →
    (∀ r ∈ rs, r.length = sz) ∧ rs.length = ps.length ∧ ∃ us vs, Instr.fill (fun i => some (i * sz, sz)) cells qs = some us ∧ RepL G rs.flatten vs ∧ (∀ c ∈ vs, c.oneCell' = true) ∧
      us.toList = cells.toList.take (k * sz) ++ vs ++ cells.toList.drop (k * sz + vs.length) := by
  intro ps qs rs k hps
  induction hps generalizing rs k with
  | nil => intro h cells _; simp only [partsOne, Option.some.injEq] at h; subst h; exact ⟨by simp, rfl, cells, [], rfl, .nil, by simp, by simp⟩
  | @cons i x v ps qs hr _ ih =>
    intro h cells hc
    simp only [partsOne] at h
    split at h
    · rename_i hk; subst hk
      split at h
      · rename_i cs rest h1 h2
        split at h
        · rename_i hlen
          cases h
          obtain ⟨hv, hone⟩ := cellsOf_rep hr h1
          have hvl : v.cells.size = sz := by have := hv.length; simp at this; omega
          have hfit : i * sz + v.cells.size ≤ cells.size := by
            simp only [List.length_cons] at hc
            have : (i + (ps.length + 1)) * sz = i * sz + sz + ps.length * sz := by rw [Nat.add_mul, Nat.add_mul]; omega
            omega
          have hset := fold_set_array (i * sz) v.cells cells hfit
          have hsize : (v.cells.zipIdx.foldl (fun cs (p : Value × Nat) => cs.setIfInBounds (i * sz + p.2) p.1) cells).size = cells.size := by
            rw [← Array.length_toList, hset]
            simp only [List.length_append, List.length_take, List.length_drop, Array.length_toList]
            omega
          obtain ⟨ha, hb, us, vs, hf, hrl, hone', htl⟩ := ih h2 (v.cells.zipIdx.foldl (fun cs (p : Value × Nat) => cs.setIfInBounds (i * sz + p.2) p.1) cells) (by
            rw [hsize]; simp only [List.length_cons] at hc; rw [show i + 1 + ps.length = i + (ps.length + 1) by omega]; exact hc)
          refine ⟨fun r hr => ?_, by simp [hb], us, v.cells.toList ++ vs, ?_, ?_, fun c hcm => ?_, ?_⟩
          · rcases List.mem_cons.1 hr with rfl | hr
            · exact hlen
            · exact ha r hr
          · simp only [Instr.fill]
            rw [if_neg]
            · exact hf
            · simp only [ne_eq, Bool.or_eq_true, decide_eq_true_eq]; omega
          · rw [List.flatten_cons]; exact hv.append hrl
          · rcases List.mem_append.1 hcm with hcm | hcm
            · exact hone c hcm
            · exact hone' c hcm
          · have hA : (cells.toList.take (i * sz) ++ v.cells.toList).length = (i + 1) * sz := by
              rw [List.length_append, List.length_take, Array.length_toList, Array.length_toList, hvl, Nat.succ_mul]; omega
            rw [htl, hset, List.take_left' hA, drop_app _ _ _ _ hA, List.drop_drop]
            simp only [List.append_assoc, List.length_append, Array.length_toList, hvl]
            congr 4
            omega
        · cases h
      · cases h
    · cases h

theorem intsOf_spec (k : IntKind) : ∀ (rs : List (List AV)) (l : List Int), intsOf k rs = some l → rs = l.map fun n => [AV.int k n]
  | [], l, h => by simp only [intsOf, Option.some.injEq] at h; subst h; rfl
  | r :: rs, l, h => by
    unfold intsOf at h
    split at h
    · cases h; rename_i h0; cases h0
    · rename_i k' n r' h0
      cases h0
      split at h
      · rename_i hk; subst hk
        split at h
        · rename_i l' hl'
          cases h
          rw [intsOf_spec k rs l' hl']; rfl
        · cases h
      · cases h
    · cases h

theorem rep_rowsAV {sz : Nat} {rs : List (List AV)} {b o cap : Nat} {vs : List Value} (hc : rs.length ≤ cap) (hs : ∀ r ∈ rs, r.length = sz) (hl : RepL G rs.flatten vs)
    (hi : ∀ (i : Nat) c, vs[i]? = some c → G.imm b (o + i) = some c) : Rep G (rowsAV sz rs) (.slice (some ⟨b, o, none⟩) rs.length cap) := by
  have gen : Rep G (.rows sz rs) (.slice (some ⟨b, o, none⟩) rs.length cap) :=
    .rows sz rs b o cap (fun i => vs.getD i (.bool false)) hc hs (fun i x hx => hi i _ (hl.fn i x hx).1) (fun i x hx => (hl.fn i x hx).2)
  unfold rowsAV
  split
  · rename_i k n rs'
    split
    · rename_i l hl'
      have e := intsOf_spec k _ l hl'
      rw [e] at hl hc ⊢
      have hfl : ∀ l : List Int, (l.map fun n => [AV.int k n]).flatten = l.map (AV.int k) := by
        intro l
        induction l with
        | nil => rfl
        | cons a l ih => simp [ih]
      rw [hfl] at hl
      have hll : (l.map fun n => [AV.int k n]).length = l.length := by simp
      rw [hll] at hc ⊢
      refine .ints k l b o cap hc fun i x hx => ?_
      obtain ⟨v, hv, hr⟩ := hl.get i (.int k x) (by simp [hx])
      cases hr
      exact hi i _ hv
    · exact gen
  · exact gen

theorem buildSlice_sound {t : TypeId} {len : Nat} {ps : List (Nat × AV)} {v : AV} (h : (evBuildSlice P t len ps).says v) {qs : Array (Nat × Value)} (hq : RepP G ps qs.toList) {σ : Store} {w : World} (hw : WRel G σ w) :
    ∃ c w' G', (Instr.buildSlice t len qs).run P w = .ok c w' ∧ G.le G' ∧ WRel G' σ w' ∧ Rep G' v c := by
  unfold evBuildSlice at h
  split at h
  · rename_i e sz hse
    obtain ⟨hu, hsz, hpos⟩ := sliceElem_spec hse
    obtain ⟨_, _, _, it, zv, hit, hzv, _, hcs, _⟩ := sliceElem_zero hse
    have hzr : (zeroValue e).run P w = .ok zv w := by simp [zeroValue, typeInfo, hit, hzv]
    have hps : 0 < P.cellsOf e := by omega
    have hpq : ps.length = qs.size := by
      have : ∀ {ps : List (Nat × AV)} {qs : List (Nat × Value)}, RepP G ps qs → ps.length = qs.length := by
        intro ps qs h; induction h with
        | nil => rfl
        | cons _ _ ih => simp [ih]
      simpa using this hq
    have go : ∀ (cells : Array Value) (us : Array Value) (vs : List Value), Instr.fill (fun i => some (i * sz, sz)) cells qs.toList = some us → cells = (Array.range (len * sz)).map (fun i => zv.cells[i % zv.cells.size]!) → len * sz ≤ 16777216 → (0 < len * sz) →
        (Instr.buildSlice t len qs).run P w = .ok (.slice (some ⟨w.heap.size, 0, none⟩) len len) (w.alloc (.cells us e)) := by
      intro cells us vs hf hc hle hpos2
      have h1 : ¬ (len * sz > 2 ^ 24) := by omega
      have h2 : ¬ (len * sz = 0) := by omega
      subst hc
      simp only [Instr.buildSlice, Sem.run_bind, run_underlying hu, Result.andThen_ok, run_sizeOf hps, hsz, h1, if_false, Sem.run_pure, Sem.run_ite, h2, hzr]
      rw [hf]
      simp [newRow]
    split at h
    · rename_i hl0; subst hl0
      split at h
      · rename_i hp0
        have := says_val h; subst this
        have hq0 : qs = #[] := by
          have : qs.size = 0 := by omega
          exact Array.eq_empty_of_size_eq_zero this
        subst hq0
        refine ⟨.slice (some ⟨w.heap.size, 0, none⟩) 0 0, w.alloc (.cells #[] e), _, ?_, Gh.le_learn hw [], hw.learn w rfl rfl rfl rfl (by simp) (by simp), .emp _⟩
        have hr0 : ∀ f : Nat → Value, (Array.range 0).map f = #[] := fun f => by simp [Array.range]
        simp [Instr.buildSlice, run_underlying hu, run_sizeOf hps, Instr.fill, newRow, hr0]
      · exact h.elim
    · rename_i hl0
      split at h
      · rename_i hc
        obtain ⟨hlen, hle⟩ := hc
        split at h
        · rename_i rs hrs
          have := says_val h; subst this
          have hp2 : 0 < len * sz := Nat.mul_pos (by omega) hpos
          obtain ⟨ha, hb, us, vs, hf, hrl, hone, htl⟩ := partsOne_sound hpos hq hrs ((Array.range (len * sz)).map (fun i => zv.cells[i % zv.cells.size]!)) (by simp [hlen])
          have hrun := go _ us vs hf rfl hle hp2
          have hvl : vs.length = len * sz := by
            rw [← hrl.length, List.length_flatten]
            have : rs.map List.length = List.replicate len sz := by
              rw [← hlen, ← hb]
              apply List.ext_getElem?
              intro j
              simp only [List.getElem?_map, List.getElem?_replicate]
              split
              · rename_i hj; simp [hj, ha _ (List.getElem_mem hj)]
              · rename_i hj; simp [Nat.not_lt.1 hj]
            rw [this, List.sum_replicate_nat]
          have hus : us.toList = vs := by
            rw [htl]
            simp only [Nat.zero_mul, List.take_zero, List.nil_append, Nat.zero_add]
            rw [List.drop_of_length_le (by simp; omega), List.append_nil]
          refine ⟨_, _, _, hrun, Gh.le_learn hw vs, hw.learn w rfl rfl rfl rfl (fun i c hc => ?_) hone, ?_⟩
          · rw [← hus] at hc; simpa using hc
          · have hlen' : rs.length = len := by omega
            rw [← hlen']
            exact rep_rowsAV (G := G.learn w.heap.size vs) (Nat.le_refl _) ha (hrl.mono (Gh.le_learn hw vs)) fun i c hc => by simp [Gh.learn, hc]
        · exact h.elim
      · exact h.elim
  · exact h.elim

/-! ### All of them -/

theorem RepL.one {x : AV} {vs : List Value} (h : RepL G [x] vs) : ∃ v, vs = [v] ∧ Rep G x v := by
  cases h with
  | cons h1 h2 => cases h2; exact ⟨_, rfl, h1⟩
theorem RepL.two {x y : AV} {vs : List Value} (h : RepL G [x, y] vs) : ∃ u v, vs = [u, v] ∧ Rep G x u ∧ Rep G y v := by
  cases h with
  | cons h1 h2 => cases h2 with
    | cons h3 h4 => cases h4; exact ⟨_, _, rfl, h1, h3⟩

theorem builtin_sound {b : Builtin} {ts : Array TypeId} {xs : List AV} {v : AV} (h : (evBuiltin P b ts.toList xs).says v) {us : Array Value} (hx : RepL G xs us.toList) (ty : TypeId) (cs : Array Bool) (w : World) :
    ∃ c, (builtin b ts ty cs us).run P w = .ok (.value c) w ∧ Rep G v c := by
  have arr : ∀ {α : Type} {x : Array α} {l : List α}, x.toList = l → x = l.toArray := fun h => by rw [← h]
  unfold evBuiltin at h
  split at h
  · rename_i t x ht
    obtain ⟨u, hu, h1⟩ := RepL.one hx
    obtain rfl := arr hu
    obtain rfl := arr ht
    obtain ⟨c, hc, hr⟩ := len_sound h h1 #[t] ty (by simp) w
    exact ⟨c, by simp only [builtin, Sem.run_bind, hc, Result.andThen_ok, Sem.run_pure], hr⟩
  · rename_i t1 t2 x y ht
    obtain ⟨u1, u2, hu, h1, h3⟩ := RepL.two hx
    obtain rfl := arr hu
    obtain ⟨c, hc, hr⟩ := min_sound (P := P) h h1 h3 ts ty w
    exact ⟨c, by simp only [builtin, Sem.run_bind, hc, Result.andThen_ok, Sem.run_pure], hr⟩
  · rename_i t1 t2 x y ht
    obtain ⟨u1, u2, hu, h1, h3⟩ := RepL.two hx
    obtain rfl := arr hu
    obtain ⟨c, hc, hr⟩ := max_sound (P := P) h h1 h3 ts ty w
    exact ⟨c, by simp only [builtin, Sem.run_bind, hc, Result.andThen_ok, Sem.run_pure], hr⟩
  · exact h.elim

theorem repL_evO {N : Nat} {env : Env} {a : Act} (h : ERel G N env a) : ∀ (xs : List Operand), RepL G (xs.map (evO env)) (xs.map a.eval)
  | [] => .nil
  | x :: xs => .cons (rep_evO h x) (repL_evO h xs)

theorem repP_evO {N : Nat} {env : Env} {a : Act} (h : ERel G N env a) : ∀ (xs : List (Nat × Operand)), RepP G (xs.map fun p => (p.1, evO env p.2)) (xs.map fun p => (p.1, a.eval p.2))
  | [] => .nil
  | x :: xs => .cons (rep_evO h x.2) (repP_evO h xs)

theorem opt_evO {N : Nat} {env : Env} {a : Act} (h : ERel G N env a) (x : Option Operand) : (∀ y, x.map (evO env) = some y → ∃ c, x.map a.eval = some c ∧ Rep G y c) ∧ (x.map (evO env) = none → x.map a.eval = none) := by
  cases x with
  | none => exact ⟨by simp, by simp⟩
  | some x => exact ⟨fun y hy => by simp at hy; subst hy; exact ⟨_, rfl, rep_evO h x⟩, by simp⟩

/-- Every operation that looks at temporaries alone. -/
theorem evA_sound {P : Program} {N : Nat} {env : Env} {o : Oper} {v : AV} (h : (evA P env o.op).says v) : PureJ P N o env v := by
  have still : ∀ {s : Act → Sem Value}, (∀ a, execOp a.eval o = (do pure (.value (← s a)) : Sem Next)) → (∀ G σ a w, ERel G N env a → WRel G σ w → ∃ c, (s a).run P w = .ok c w ∧ Rep G v c) → PureJ P N o env v := by
    intro s hs hh
    refine PureJ.of_still fun G σ a w he hw => ?_
    obtain ⟨c, hc, hr⟩ := hh G σ a w he hw
    exact ⟨c, by rw [hs]; simp [hc], hr⟩
  obtain ⟨dst, op, ty, pos, after, guard⟩ := o
  simp only at h
  unfold evA at h
  split at h
  · rename_i x; have := says_val h; subst this
    exact PureJ.of_still fun G σ a w he hw => ⟨a.eval x, rfl, rep_evO he x⟩
  · rename_i x; have := says_val h; subst this
    exact PureJ.of_still fun G σ a w he hw => ⟨a.eval x, rfl, rep_evO he x⟩
  · rename_i c x y
    refine PureJ.of_still fun G σ a w he hw => ?_
    obtain ⟨b, hb, hr⟩ := pick_sound (P := P) h (rep_evO he c) (rep_evO he x) (rep_evO he y) w
    exact ⟨_, by simp only [execOp, Sem.run_bind, hb, Result.andThen_ok, Sem.run_pure], hr⟩
  · rename_i x
    refine PureJ.of_still fun G σ a w he hw => ?_
    obtain ⟨rfl, hs⟩ := nilCheck_sound h (rep_evO he x)
    rcases hs with ⟨ad, hu⟩ | ⟨f, gs, hs, hu⟩
    · exact ⟨a.eval x, by simp only [execOp, hu]; rfl, rep_evO he x⟩
    · exact ⟨a.eval x, by simp only [execOp, hu]; rfl, rep_evO he x⟩
  · rename_i bop t x y yt
    exact still (s := fun a => do eqGuard bop t x y (a.eval x) (a.eval y); binOp bop t (a.eval x) (a.eval y)) (fun a => rfl) fun G σ a w he hw => bin_sound h (rep_evO he x) (rep_evO he y) x y w
  · rename_i uop t x
    exact still (s := fun a => Op.unary uop (a.eval x)) (fun a => rfl) fun G σ a w he hw => un_sound h (rep_evO he x) w
  · rename_i s d x
    intro G σ a w he hw
    obtain ⟨c, w', G', hc, h1, h2, h3⟩ := conv_sound h (rep_evO he x) hw
    exact ⟨c, w', G', by simp only [execOp, Sem.run_bind, hc, Result.andThen_ok, Sem.run_pure], h1, h2, h3⟩
  · rename_i t x f
    exact still (s := fun a => Instr.field t (a.eval x) f) (fun a => rfl) fun G σ a w he hw => field_sound h (rep_evO he x) w
  · rename_i t x f
    exact still (s := fun a => Instr.fieldAt t (a.eval x) f) (fun a => rfl) fun G σ a w he hw => fieldAddr_sound h (rep_evO he x) w
  · rename_i t x i
    exact still (s := fun a => Instr.indexAt t (a.eval x) (a.eval i)) (fun a => rfl) fun G σ a w he hw => indexAddr_sound h (rep_evO he x) (rep_evO he i) w
  · rename_i t x i
    exact still (s := fun a => Instr.index t (a.eval x) (a.eval i)) (fun a => rfl) fun G σ a w he hw => index_sound h (rep_evO he x) (rep_evO he i) w
  · rename_i t x lo hi mx
    exact still (s := fun a => Instr.sliceAt t (a.eval x) (lo.map a.eval) (hi.map a.eval) (mx.map a.eval)) (fun a => rfl) fun G σ a w he hw =>
      slice_sound h (rep_evO he x) (opt_evO he lo).1 (opt_evO he lo).2 (opt_evO he hi).1 (opt_evO he hi).2 (opt_evO he mx).1 (opt_evO he mx).2 w
  · rename_i x i
    exact still (s := fun a => Instr.extract (a.eval x) i) (fun a => rfl) fun G σ a w he hw => extract_sound h (rep_evO he x) w
  · rename_i t x
    exact still (s := fun a => Instr.loadAt t (a.eval x)) (fun a => rfl) fun G σ a w he hw => loadI_sound h (rep_evO he x) hw
  · rename_i f fs cs
    have := says_val h; subst this
    refine PureJ.of_still fun G σ a w he hw => ⟨.func (.func f) (fs.map a.eval) (cs.map a.eval), rfl, Rep.fn_of ?_ ?_⟩
    · simpa using repL_evO he fs.toList
    · simpa using repL_evO he cs.toList
  · rename_i t ps
    exact still (s := fun a => Instr.build t (ps.map fun (i, x) => (i, a.eval x))) (fun a => rfl) fun G σ a w he hw => build_sound h (by simpa using repP_evO he ps.toList) w
  · rename_i t n ps
    intro G σ a w he hw
    obtain ⟨c, w', G', hc, h1, h2, h3⟩ := buildSlice_sound (qs := ps.map fun (i, x) => (i, a.eval x)) h (by simpa using repP_evO he ps.toList) hw
    exact ⟨c, w', G', by simp only [execOp, Sem.run_bind, hc, Result.andThen_ok, Sem.run_pure], h1, h2, h3⟩
  · rename_i b xs ts
    refine PureJ.of_still fun G σ a w he hw => ?_
    obtain ⟨c, hc, hr⟩ := builtin_sound (us := xs.map a.eval) h (by simpa using repL_evO he xs.toList) ty (xs.map fun | .const _ => true | _ => false) w
    exact ⟨c, by simp only [execOp, resolve, Sem.run_bind, Sem.run_pure, Result.andThen_ok, invoke]; exact hc, hr⟩
  · exact h.elim

end Go.Pa
