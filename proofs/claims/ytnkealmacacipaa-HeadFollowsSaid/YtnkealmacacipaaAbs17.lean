/-
  Fresh slices; arguments that are lent.
-/
import Derived.Test.YtnkealmacacipaaAbs16
namespace Go.Pa
set_option linter.unusedSectionVars false
variable [GTab]
variable {P : Program}

/-- A slice under construction, of integers. -/
def BufI (s : Store) (n : Nat) (r : AV) (k : IntKind) (l : List Int) : Prop :=
  ((r = .nils ∨ r = .emp) ∧ l = []) ∨ ∃ id, r = .mvec id 0 l.length 1 ∧ s[id]? = some (.vecI k l) ∧ n ≤ id

/-- The same, told in one way: the store is as it was, but for the one object. -/
def FreshI (s : Store) (k : IntKind) (l : List Int) (r : AV) (s' : Store) : Prop :=
  ((r = .nils ∨ r = .emp) ∧ l = [] ∧ s' = s) ∨ (r = .mvec s.length 0 l.length 1 ∧ s' = s ++ [.vecI k l])

theorem BufI.frz {s : Store} {n : Nat} {r : AV} {k : IntKind} {l : List Int} (h : BufI s n r k l) : Frz s n r (.ints k l) := by
  rcases h with ⟨rfl | rfl, rfl⟩ | ⟨id, rfl, ho, hn⟩
  · exact .nilI k
  · exact .empI k
  · have := Frz.vecI (n := n) id 0 l.length k l ho hn (by omega)
    simpa using this

theorem FreshI.buf {s s' : Store} {k : IntKind} {l : List Int} {r : AV} (h : FreshI s k l r s') : Ext s s' ∧ BufI s' s.length r k l := by
  rcases h with ⟨hr, hl, rfl⟩ | ⟨rfl, rfl⟩
  · exact ⟨.refl _, .inl ⟨hr, hl⟩⟩
  · exact ⟨(Ext.refl s).push _, .inr ⟨s.length, rfl, by simp, Nat.le_refl _⟩⟩

theorem FreshI.frz {s s' : Store} {k : IntKind} {l : List Int} {r : AV} (h : FreshI s k l r s') : Ext s s' ∧ Frz s' s.length r (.ints k l) := ⟨h.buf.1, h.buf.2.frz⟩

/-- The ghost in which the first n objects are as they are, and one more. -/
noncomputable def Gh.pick (G : Gh) (n : Nat) (b m : Nat) : Gh := { G with obj := G.obj.take n ++ [(b, m)] }

theorem WRel.pick {G : Gh} {n id : Nat} {σ : Store} {w : World} (hw : WRel G σ w) (hlt : ∀ (i : Nat) x, i < n → σ[i]? = some x → x.lt n) {k : IntKind} {l : List Int} (ho : σ[id]? = some (.vecI k l)) (hn : n ≤ id) {b m : Nat} (hb : G.obj[id]? = some (b, m)) :
    WRel (G.pick n b m) (σ.take n ++ [.vecI k l]) w := by
  have hid : id < σ.length := (List.getElem?_eq_some_iff.1 ho).1
  have hnl : n ≤ σ.length := by omega
  have ho1 : (G.obj.take n).length = n := by simp [hw.len]; omega
  have hs1 : (σ.take n).length = n := by simp; omega
  have hobj : ∀ (i : Nat) x, (G.obj.take n ++ [(b, m)])[i]? = some x → (i < n ∧ G.obj[i]? = some x) ∨ (i = n ∧ x = (b, m)) := by
    intro i x h
    rcases Nat.lt_or_ge i n with hi | hi
    · rw [List.getElem?_append_left (by omega), List.getElem?_take, if_pos hi] at h; exact .inl ⟨hi, h⟩
    · rw [List.getElem?_append_right (by omega), ho1] at h
      have : i - n = 0 := by
        rcases Nat.eq_zero_or_pos (i - n) with h0 | h0
        · exact h0
        · rw [List.getElem?_eq_none (by simp; omega)] at h; cases h
      rw [this] at h; simp at h
      exact .inr ⟨by omega, h.symm⟩
  have hst : ∀ (i : Nat) x, (σ.take n ++ [AObj.vecI k l])[i]? = some x → (i < n ∧ σ[i]? = some x) ∨ (i = n ∧ x = .vecI k l) := by
    intro i x h
    rcases Nat.lt_or_ge i n with hi | hi
    · rw [List.getElem?_append_left (by omega), List.getElem?_take, if_pos hi] at h; exact .inl ⟨hi, h⟩
    · rw [List.getElem?_append_right (by omega), hs1] at h
      have : i - n = 0 := by
        rcases Nat.eq_zero_or_pos (i - n) with h0 | h0
        · exact h0
        · rw [List.getElem?_eq_none (by simp; omega)] at h; cases h
      rw [this] at h; simp at h
      exact .inr ⟨by omega, h.symm⟩
  -- every new object is one of the old
  have old : ∀ (i : Nat) x bi, (σ.take n ++ [AObj.vecI k l])[i]? = some x → (G.obj.take n ++ [(b, m)])[i]? = some bi → ∃ j, σ[j]? = some x ∧ G.obj[j]? = some bi ∧ ((i < n ∧ j = i) ∨ (i = n ∧ j = id)) := by
    intro i x bi h1 h2
    rcases hst i x h1 with ⟨hi, h1⟩ | ⟨hi, rfl⟩
    · rcases hobj i bi h2 with ⟨_, h2⟩ | ⟨hi', _⟩
      · exact ⟨i, h1, h2, .inl ⟨hi, rfl⟩⟩
      · omega
    · rcases hobj i bi h2 with ⟨hi', _⟩ | ⟨_, rfl⟩
      · omega
      · exact ⟨id, ho, hb, .inr ⟨hi, rfl⟩⟩
  have hkeep : ∀ {y : AV} {v : Value}, Rep G y v → y.lt n = true → Rep (G.pick n b m) y v := fun hr hy =>
    Rep.keep (G := G) (G' := G.pick n b m) (n := n) (fun _ _ _ h => h) (fun j z hj hz => by
      show (G.obj.take n ++ [(b, m)])[j]? = _
      rw [List.getElem?_append_left (by omega), List.getElem?_take, if_pos hj]; exact hz) hr hy
  refine ⟨?_, hw.imm, fun i x hx => ?_, fun i j oi oj bi bj a1 a2 a3 a4 a5 a6 a7 => ?_, hw.frame, hw.sz, hw.os, hw.tape, hw.output, hw.marks, hw.grew, hw.globs⟩
  · show (G.obj.take n ++ [(b, m)]).length = (σ.take n ++ [AObj.vecI k l]).length
    simp only [List.length_append, ho1, hs1, List.length_singleton]
  · rcases hst i x hx with ⟨hi, hx'⟩ | ⟨hi, rfl⟩
    · have h0 := hw.objs i x hx'
      have hl0 := hlt i x hi hx'
      have hob : ∀ b' m', G.obj[i]? = some (b', m') → (G.pick n b m).obj[i]? = some (b', m') := by
        intro b' m' hb'
        show (G.obj.take n ++ [(b, m)])[i]? = _
        rw [List.getElem?_append_left (by omega), List.getElem?_take, if_pos hi]; exact hb'
      cases hc : x.cells with
      | some cs =>
        obtain ⟨b', m', arr, ty, q1, q2, q3, q4, q5, q6, q7, q8⟩ := h0.get hc
        have hcs : ltL n cs = true := by
          cases x with
          | mp kv => cases hc
          | dead => cases hc
          | box _ => exact hl0 cs hc
          | vecI _ _ => exact hl0 cs hc
          | vecR _ _ => exact hl0 cs hc
        have q7' : RepL (G.pick n b m) cs (arr.toList.take cs.length) := RepL.of_get q7.length fun j y hy => let ⟨v, hv, hr⟩ := q7.get j y hy; ⟨v, hv, hkeep hr (ltL_get hcs j y hy)⟩
        exact objRel_mk hc (hob b' m' q1) q2 q3 q5 q6 _ q7' (fun j c hcc => by
          rw [List.getElem?_take] at hcc
          split at hcc
          · simpa using hcc
          · cases hcc) q8
      | none =>
        cases x with
        | dead => trivial
        | mp kv =>
          obtain ⟨b', m', es, clock, q1, q2, q3, q4, q5, q6⟩ := h0
          exact ⟨b', m', es, clock, hob b' m' q1, q2, q3, q4, q5, fun j p hp => let ⟨e, he, hk, hv, hb⟩ := q6 j p hp; ⟨e, he, hkeep hk (hl0 j p hp).1, hkeep hv (hl0 j p hp).2, hb⟩⟩
        | box _ => cases hc
        | vecI _ _ => cases hc
        | vecR sz rs =>
          obtain ⟨_, _, _, _, cs, q, _⟩ := h0
          rw [hc] at q; cases q
    · obtain ⟨b', m', arr, ty, q1, q2, q3, q4, q5, q6, q7, q8⟩ := (hw.objs id _ ho).get (cs := l.map (AV.int k)) rfl
      rw [hb] at q1; cases q1
      have hnew : (G.pick n b m).obj[i]? = some (b, m) := by
        show (G.obj.take n ++ [(b, m)])[i]? = _
        rw [List.getElem?_append_right (by omega), ho1, hi, Nat.sub_self]; rfl
      have q7' : RepL (G.pick n b m) (l.map (AV.int k)) (arr.toList.take (l.map (AV.int k)).length) := RepL.of_get q7.length fun j y hy => by
        obtain ⟨v, hv, hr⟩ := q7.get j y hy
        refine ⟨v, hv, hkeep hr ?_⟩
        rw [List.getElem?_map] at hy
        cases hl : l[j]? with
        | none => simp [hl] at hy
        | some z => simp [hl] at hy; subst hy; rfl
      exact objRel_mk (cs := l.map (AV.int k)) rfl hnew q2 q3 q5 q6 _ q7' (fun j c hcc => by
        rw [List.getElem?_take] at hcc
        split at hcc
        · simpa using hcc
        · cases hcc) q8
  · obtain ⟨i', p1, p2, p3⟩ := old i oi bi a1 a5
    obtain ⟨j', q1, q2, q3⟩ := old j oj bj a2 a6
    have := hw.inj i' j' oi oj bi bj p1 q1 a3 a4 p2 q2 a7
    omega

/-- **A call that hands back a fresh slice of integers.** -/
theorem ACalls.fresh {f : FuncId} {args : List AV} {σ : Store} {k : IntKind} {l : List Int} (h : ACalls P f args σ fun r σ' => Ext σ σ' ∧ BufI σ' σ.length r k l) : ACalls P f args σ (FreshI σ k l) := by
  refine ⟨h.1, fun G w vs hw hl => (h.2 G w vs hw hl).mono ?_⟩
  rintro e w' ⟨c, r, σ', G', rfl, hle, hw', hr, hext, hbuf⟩
  have hlen : G.obj.length = σ.length := hw.len
  have hlt : ∀ (i : Nat) x, i < σ.length → σ'[i]? = some x → x.lt σ.length := by
    intro i x hi hx
    have h0 := hext i _ (List.getElem?_eq_getElem hi)
    rw [hx] at h0; cases h0
    have := (hw.objs i _ (List.getElem?_eq_getElem hi)).lt
    rw [hlen] at this; exact this
  rcases hbuf with ⟨hr0, rfl⟩ | ⟨id, rfl, ho, hn⟩
  · have hw2 := hw'.freeze (n := σ.length) hlt
    rw [hext.take] at hw2
    refine ⟨c, r, σ, G'.freeze σ.length σ' w', rfl, ⟨hle.base, hle.w0, fun b o x hx => Gh.freeze_imm hw' b o x (hle.imm b o x hx), fun i x hx => ?_, hle.lo, hle.mark⟩, hw2, ?_, .inl ⟨hr0, rfl, rfl⟩⟩
    · show (G'.obj.take σ.length)[i]? = _
      rw [List.getElem?_take, if_pos (by rw [← hlen]; exact (List.getElem?_eq_some_iff.1 hx).1)]
      exact hle.obj i x hx
    · exact hr.noRef (Gh.freeze_imm hw') (by rcases hr0 with rfl | rfl <;> rfl)
  · cases hr with
    | mvec _ _ _ _ cap b m hb hcap hfit =>
    have hw2 := hw'.pick hlt ho hn hb
    rw [hext.take] at hw2
    have hol : (G'.obj.take σ.length).length = σ.length := by
      have := hw'.len; have := hext.len; simp; omega
    refine ⟨_, .mvec σ.length 0 l.length 1, σ ++ [.vecI k l], G'.pick σ.length b m, rfl, ⟨hle.base, hle.w0, hle.imm, fun i x hx => ?_, hle.lo, hle.mark⟩, hw2, ?_, .inr ⟨rfl, rfl⟩⟩
    · show (G'.obj.take σ.length ++ [(b, m)])[i]? = _
      have hi : i < σ.length := by rw [← hlen]; exact (List.getElem?_eq_some_iff.1 hx).1
      rw [List.getElem?_append_left (by omega), List.getElem?_take, if_pos hi]
      exact hle.obj i x hx
    · refine .mvec _ 0 _ 1 cap b m ?_ hcap hfit
      show (G'.obj.take σ.length ++ [(b, m)])[σ.length]? = _
      rw [List.getElem?_append_right (by omega), hol, Nat.sub_self]; rfl

/-- A fresh slice, frozen. -/
theorem ACalls.freshFrozen {f : FuncId} {args : List AV} {σ : Store} {k : IntKind} {l : List Int} (h : ACalls P f args σ (FreshI σ k l)) : ACalls P f args σ fun r σ' => r = .ints k l ∧ σ' = σ :=
  ACalls.frozen (h.mono fun _ _ hf => hf.frz)

/-- Other words for the arguments. -/
theorem ACalls.weak {f : FuncId} {args args' : List AV} {σ : Store} {R : AV → Store → Prop} (h : ACalls P f args' σ R) (ha : ∀ G vs, RepL G args vs → RepL G args' vs) : ACalls P f args σ R :=
  ⟨h.1, fun G w vs hw hl => h.2 G w vs hw (ha G _ hl)⟩

theorem rep_nil_ints {G : Gh} {v : Value} (k : IntKind) (h : Rep G .nils v) : Rep G (.ints k []) v := by cases h; exact .ints0 k none 0
theorem rep_nil_rows {G : Gh} {v : Value} (sz : Nat) (h : Rep G .nils v) : Rep G (.rows sz []) v := by cases h; exact .rows0 sz none 0
theorem rep_emp_ints {G : Gh} {v : Value} (k : IntKind) (h : Rep G .emp v) : Rep G (.ints k []) v := by cases h; exact .ints0 k _ 0

/-! ### Lending -/

/-- No memory hangs on it. -/
def AV.flat : AV → Bool
  | .int _ _ | .bool _ | .str _ | .nils | .nilp | .nilf | .nilm | .emp => true
  | _ => false
def AV.flat2 : AV → Bool
  | .agg cs => cs.all AV.flat
  | .tup cs => cs.all fun x => x.flat || match x with | .agg cs => cs.all AV.flat | _ => false
  | x => x.flat

theorem Rep.flat {G G' : Gh} {x : AV} {v : Value} (h : Rep G x v) (hx : x.flat = true) : Rep G' x v := by
  cases h <;> first | (simp [AV.flat] at hx; done) | skip
  · exact .int _ _
  · exact .bool _
  · exact .str _ _ (by assumption)
  · exact .nils
  · exact .emp _
  · exact .nilp
  · exact .nilf
  · exact .nilm

theorem RepL.flat {G G' : Gh} {xs : List AV} {vs : List Value} (h : RepL G xs vs) (hx : xs.all AV.flat = true) : RepL G' xs vs := by
  induction h with
  | nil => exact .nil
  | cons hr _ ih =>
    simp only [List.all_cons, Bool.and_eq_true] at hx
    exact .cons (hr.flat hx.1) (ih hx.2)

theorem Rep.flat2 {G G' : Gh} {x : AV} {v : Value} (h : Rep G x v) (hx : x.flat2 = true) : Rep G' x v := by
  cases x with
  | agg cs =>
    obtain ⟨vs, rfl, hl⟩ := h.agg_inv
    exact Rep.agg_of (hl.flat hx)
  | tup cs =>
    obtain ⟨vs, rfl, hl⟩ := h.tup_inv
    refine Rep.tup_of (RepL.of_get hl.length fun i y hy => ?_)
    obtain ⟨c, hc, hr⟩ := hl.get i y hy
    have hy2 := List.all_eq_true.1 hx y (List.mem_of_getElem? hy)
    refine ⟨c, hc, ?_⟩
    cases hf : y.flat with
    | true => exact hr.flat hf
    | false =>
      cases y with
      | agg ds =>
        simp only [hf, Bool.false_or] at hy2
        obtain ⟨us, rfl, hl2⟩ := hr.agg_inv
        exact Rep.agg_of (hl2.flat hy2)
      | _ => simp [hf] at hy2
  | _ => exact h.flat hx

/-- The ghost of whoever takes the world as it is for what lay before. -/
noncomputable def Gh.now (w : World) : Gh := { base := w.heap.size, w0 := w, obj := [], lo := w.heap.size, mark := fun _ _ => False, imm := fun b o => match w.cell? ⟨b, o, none⟩ with | some c => if c.oneCell' then some c else none | none => none }

theorem WRel.now {w : World} (hg : GlobOk (Gh.now w)) : WRel (Gh.now w) [] w := by
  refine ⟨rfl, fun b o c h => ?_, fun i x h => by simp at h, fun i j oi oj bi bj h => by simp at h, fun _ _ => rfl, Nat.le_refl _, rfl, rfl, rfl, fun _ _ h => h.elim, Nat.le_refl _, hg⟩
  simp only [Gh.now] at h
  split at h
  · rename_i c' hc
    split at h
    · rename_i h1; cases h; exact ⟨hc, h1⟩
    · cases h
  · cases h

theorem Gh.now_imm {G : Gh} {σ : Store} {w : World} (hw : WRel G σ w) (b o : Nat) (c : Value) (h : G.imm b o = some c) : (Gh.now w).imm b o = some c := by
  have := hw.imm b o c h
  simp [Gh.now, this.1, this.2]

/-- What is lent is told of in that ghost. -/
theorem Frz.now {G : Gh} {σ : Store} {w : World} (hw : WRel G σ w) {x y : AV} (h : Frz σ 0 x y) {v : Value} (hr : Rep G x v) (hy : y.noRef = true) : Rep (Gh.now w) y v := by
  have h1 := h.rep hw hr
  refine h1.noRef (fun b o c hc => ?_) hy
  have hlt : ∀ (i : Nat) x, i < 0 → σ[i]? = some x → x.lt 0 := fun i x hi => absurd hi (Nat.not_lt_zero _)
  have hw2 := hw.freeze (n := 0) hlt
  have := hw2.imm b o c hc
  simp [Gh.now, this.1, this.2]

/-- The way back. -/
theorem WRel.back {G G2 : Gh} {σ τ : Store} {w w' : World} (hw : WRel G σ w) (hle : (Gh.now w).le G2) (hw2 : WRel G2 τ w') :
    ∃ G3, G.le G3 ∧ WRel G3 σ w' ∧ (∀ b o, w.heap.size ≤ b → G3.imm b o = G2.imm b o) ∧ G3.obj = G.obj ∧ G3.base = G.base := by
  have hb : G2.base = w.heap.size := hle.base
  have h0 : G2.w0 = w := hle.w0
  have hfr : ∀ b, b < w.heap.size → w'.heap[b]? = w.heap[b]? := fun b hb' => by
    have := hw2.frame b (by omega)
    rw [h0] at this; exact this
  refine ⟨{ G with imm := fun b o => if b < w.heap.size then G.imm b o else G2.imm b o }, ?_, ?_, fun b o hb' => ?_, rfl, rfl⟩
  · refine ⟨rfl, rfl, fun b o c h => ?_, fun _ _ h => h, rfl, fun _ _ h => h⟩
    have hlt := World.block_lt_of_cell? w _ (hw.imm b o c h).1
    simp only at hlt
    simp [hlt, h]
  · refine hw.grow ⟨rfl, rfl, fun b o c h => ?_, fun _ _ h => h, rfl, fun _ _ h => h⟩ rfl rfl hfr (by have := hw2.sz; omega) (by rw [hw2.os, h0]) (by rw [hw2.tape, h0]) (by rw [hw2.output, h0]) (fun b o hb' => by simp [hb']) (fun b o c hb' h => ?_)
    · have hlt := World.block_lt_of_cell? w _ (hw.imm b o c h).1
      simp only at hlt
      simp [hlt, h]
    · simp only at h
      rw [if_neg (Nat.not_lt.2 hb')] at h
      exact hw2.imm b o c h
  · simp [Nat.not_lt.2 hb']

/-- Arguments that are lent. -/
inductive FrzL (s : Store) : List AV → List AV → Prop
  | nil : FrzL s [] []
  | cons {x y : AV} {xs ys : List AV} : Frz s 0 x y → FrzL s xs ys → FrzL s (x :: xs) (y :: ys)

theorem FrzL.now {G : Gh} {σ : Store} {w : World} (hw : WRel G σ w) {xs ys : List AV} (h : FrzL σ xs ys) : ∀ {vs : List Value}, RepL G xs vs → ltL 0 ys = true → RepL (Gh.now w) ys vs := by
  induction h with
  | nil => intro vs hr _; cases hr; exact .nil
  | cons hf _ ih =>
    intro vs hr hy
    simp only [ltL, Bool.and_eq_true] at hy
    cases hr with
    | cons h1 h2 => exact .cons (hf.now hw h1 hy.1) (ih h2 hy.2)

/-- **Lending**: a call that hands back a flat value and leaves the store alone does so where its arguments are objects, too. -/
theorem ACalls.lend {f : FuncId} {args args' : List AV} {σ : Store} {v : AV} (h : ACalls P f args' [] fun r σ' => r = v ∧ σ' = []) (ha : FrzL σ args args') (hn : ltL 0 args' = true) (hv : v.flat2 = true) :
    ACalls P f args σ fun r σ' => r = v ∧ σ' = σ := by
  refine ⟨h.1, fun G w vs hw hl => (h.2 (Gh.now w) w vs (WRel.now (hw.globs.mono (Gh.now_imm hw))) (ha.now hw hl hn)).mono ?_⟩
  rintro e w' ⟨c, r, σ', G2, rfl, hle, hw', hr, rfl, rfl⟩
  obtain ⟨G3, h1, h2, _⟩ := hw.back hle hw'
  exact ⟨c, r, σ, G3, rfl, h1, h2, hr.flat2 hv, rfl, rfl⟩

/-- **Lending**, to a call that hands back a fresh slice of integers. -/
theorem ACalls.lendI {f : FuncId} {args args' : List AV} {σ : Store} {k : IntKind} {l : List Int} (h : ACalls P f args' [] (FreshI [] k l)) (ha : FrzL σ args args') (hn : ltL 0 args' = true) : ACalls P f args σ (FreshI σ k l) := by
  refine ⟨h.1, fun G w vs hw hl => (h.2 (Gh.now w) w vs (WRel.now (hw.globs.mono (Gh.now_imm hw))) (ha.now hw hl hn)).mono ?_⟩
  rintro e w' ⟨c, r, σ', G2, rfl, hle, hw', hr, hf⟩
  obtain ⟨G3, h1, h2, h3, h4, h5⟩ := hw.back hle hw'
  rcases hf with ⟨hr0, rfl, rfl⟩ | ⟨rfl, rfl⟩
  · exact ⟨c, r, σ, G3, rfl, h1, h2, hr.flat (by rcases hr0 with rfl | rfl <;> rfl), .inl ⟨hr0, rfl, rfl⟩⟩
  · cases hr with
    | mvec _ _ _ _ cap b m hb hcap hfit =>
    obtain ⟨b', m', arr, ty, q1, q2, q3, q4, q5, q6, q7, q8⟩ := (hw'.objs 0 (.vecI k l) rfl).get (cs := l.map (AV.int k)) rfl
    have hb' : G2.obj[0]? = some (b, m) := hb
    rw [hb'] at q1; cases q1
    -- the new object lies behind what lay there
    have hbase : w.heap.size ≤ b := by rw [← (show G2.base = w.heap.size from hle.base)]; exact q5
    have himm3 : ∀ o, G3.imm b o = none := fun o => by rw [h3 b o hbase]; exact q6 o
    have hdis : ∀ (i : Nat) oi bi, σ[i]? = some oi → oi.live = true → G3.obj[i]? = some bi → bi.1 ≠ b := by
      intro i oi bi a1 a2 a3
      obtain ⟨b', m', p1, p2, _⟩ := (hw.objs i oi a1).block a2
      rw [h4, p1] at a3; cases a3
      intro e; simp only at e; omega
    have hwf := h2.adopt (ob := .vecI k l) (cs := l.map (AV.int k)) rfl q2 (by rw [h5]; exact Nat.le_trans hw.sz hbase) himm3 hdis ((RepL.ints k l : RepL G3 _ _)) (fun j c hc => by
      rw [List.getElem?_map] at hc
      cases hl : l[j]? with
      | none => simp [hl] at hc
      | some z =>
        simp [hl] at hc; subst hc
        obtain ⟨v, hv, hr⟩ := q7.get j (.int k z) (by simp [hl])
        cases hr
        rw [List.getElem?_take] at hv
        split at hv
        · simpa using hv
        · cases hv) q8
    rw [q3] at hwf
    refine ⟨_, .mvec σ.length 0 l.length 1, σ ++ [.vecI k l], G3.add b m, rfl, h1.trans (Gh.le_add G3 b m), hwf, .mvec _ 0 _ 1 cap b m ?_ hcap hfit, .inr ⟨rfl, rfl⟩⟩
    simp only [Gh.add]; rw [h4, ← hw.len]; simp

end Go.Pa
