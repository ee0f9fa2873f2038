/-
  Soundness of the operations that look at temporaries alone, continued.
-/
import Derived.Test.YtnkealmacacipaaAbs4
namespace Go.Pa
set_option linter.unusedSectionVars false
variable [GTab]
variable {P : Program} {G : Gh}

theorem un_sound {op : UnOp} {x v : AV} (h : (evUn op x).says v) {u : Value} (hx : Rep G x u) (w : World) : ∃ c, (Op.unary op u).run P w = .ok c w ∧ Rep G v c := by
  unfold evUn at h
  split at h
  · rename_i k n; have := says_val h; subst this; cases hx
    exact ⟨_, rfl, .int _ _⟩
  · rename_i k n; have := says_val h; subst this; cases hx
    exact ⟨_, rfl, .int _ _⟩
  · rename_i b; have := says_val h; subst this; cases hx
    exact ⟨_, rfl, .bool _⟩
  · exact h.elim

theorem pick_sound {c x y v : AV} (h : (evPick c x y).says v) {uc ux uy : Value} (hc : Rep G c uc) (hx : Rep G x ux) (hy : Rep G y uy) (w : World) :
    ∃ b, (asBool uc).run P w = .ok b w ∧ Rep G v (if b then ux else uy) := by
  unfold evPick at h
  split at h
  · have := says_val h; subst this; cases hc; exact ⟨true, rfl, by simpa using hx⟩
  · have := says_val h; subst this; cases hc; exact ⟨false, rfl, by simpa using hy⟩
  · exact h.elim

theorem extract_sound {x v : AV} {i : Nat} (h : (evExtract x i).says v) {u : Value} (hx : Rep G x u) (w : World) : ∃ c, (Instr.extract u i).run P w = .ok c w ∧ Rep G v c := by
  unfold evExtract at h
  split at h
  · rename_i cs
    split at h
    · rename_i hy
      have := says_val h; subst this
      obtain ⟨vs, rfl, hl⟩ := hx.tup_inv
      obtain ⟨c, hc, hr⟩ := hl.get i _ hy
      refine ⟨c, ?_, hr⟩
      have hc' : vs[i]? = some c := by simpa using hc
      simp [Instr.extract, hc']
    · exact h.elim
  · exact h.elim

theorem add_lit (b o n : Nat) : (⟨b, o, none⟩ : Addr).add n = ⟨b, o + n, none⟩ := by
  unfold Addr.add; split <;> simp_all

/-- Cells that never turn are loaded. -/
theorem run_loadCells_imm {σ : Store} {w : World} (hw : WRel G σ w) {b o : Nat} {vs : List Value} (h : ∀ (i : Nat) c, vs[i]? = some c → G.imm b (o + i) = some c) :
    (loadCells ⟨b, o, none⟩ vs.length).run P w = .ok vs.toArray w :=
  run_loadCells_list w _ vs fun j v hv => by rw [add_lit]; exact (hw.imm _ _ _ (h j v hv)).1

theorem run_load_cell {w : World} {a : Addr} {v : Value} (h : w.cell? a = some v) : (load a).run P w = .ok v w := by simp [h]

theorem partA_cases {t : TypeId} {cs : List AV} {v : AV} (h : partA P t cs = some v) : ∃ d, P.underlying t = some d ∧
    ((Agg P t = true ∧ (cs.take (P.cellsOf t)).length = P.cellsOf t ∧ 0 < P.cellsOf t ∧ v = .agg (cs.take (P.cellsOf t))) ∨ (Agg P t = false ∧ cs[0]? = some v)) := by
  unfold partA at h
  cases hd : P.underlying t with
  | none => simp [hd] at h
  | some d =>
    refine ⟨d, rfl, ?_⟩
    unfold Agg
    simp only [hd] at h ⊢
    cases d
    case struct fs =>
      simp only at h ⊢
      split at h
      · rename_i hc; cases h; exact .inl (by simp [hc.1, hc.2])
      · cases h
    case array n e =>
      simp only at h ⊢
      split at h
      · rename_i hc; cases h; exact .inl (by simp [hc.1, hc.2])
      · cases h
    all_goals
      simp only at h ⊢
      cases cs with
      | nil => cases h
      | cons c cs => cases h; exact .inr (by simp)

/-- A part of cells that lie in memory. -/
theorem part_load {t : TypeId} {cs : List AV} {vs : List Value} (hl : RepL G cs vs) {v : AV} (hv : partA P t cs = some v) {w : World} {b o : Nat}
    (hc : ∀ (i : Nat) c, vs[i]? = some c → w.cell? ⟨b, o + i, none⟩ = some c) : ∃ c, (loadVar t ⟨b, o, none⟩).run P w = .ok c w ∧ Rep G v c := by
  obtain ⟨d, hd, ⟨hagg, hlen, hpos, rfl⟩ | ⟨hagg, h0⟩⟩ := partA_cases hv
  · have htk := hl.take (P.cellsOf t)
    refine ⟨.agg (vs.take (P.cellsOf t)).toArray, ?_, Rep.agg_of (by simpa using htk)⟩
    have h1 : (loadCells ⟨b, o, none⟩ (vs.take (P.cellsOf t)).length).run P w = .ok (vs.take (P.cellsOf t)).toArray w :=
      run_loadCells_list w _ _ fun j u hu => by
        rw [add_lit]
        refine hc j u ?_
        rw [List.getElem?_take] at hu
        split at hu
        · exact hu
        · cases hu
    rw [← htk.length, hlen] at h1
    simp only [loadVar, Sem.run_bind, run_isAgg hd, hagg, Result.andThen_ok, if_true, run_sizeOf hpos, h1, Sem.run_pure]
  · obtain ⟨u, hu, hr⟩ := hl.get 0 v h0
    refine ⟨u, ?_, hr⟩
    have hcell := hc 0 u hu
    simp only [loadVar, Sem.run_bind, run_isAgg hd, hagg, Result.andThen_ok, Bool.false_eq_true, if_false]
    exact run_load_cell hcell

theorem part_run {t : TypeId} {cs : List AV} {vs : Array Value} (hl : RepL G cs vs.toList) {o : Nat} {v : AV} (hv : partA P t (cs.drop o) = some v) (w : World) :
    ∃ c, (part t vs o).run P w = .ok c w ∧ Rep G v c := by
  obtain ⟨d, hd, ⟨hagg, hlen, hpos, rfl⟩ | ⟨hagg, h0⟩⟩ := partA_cases hv
  · refine ⟨.agg (vs.extract o (o + P.cellsOf t)), ?_, Rep.agg_of ?_⟩
    · simp only [part, Sem.run_bind, run_isAgg hd, hagg, Result.andThen_ok, if_true, run_sizeOf hpos, Sem.run_pure]
    · have := (hl.drop o).take (P.cellsOf t)
      simpa [Array.toList_extract, List.extract_eq_take_drop] using this
  · have hget : cs[o]? = some v := by simpa using h0
    obtain ⟨u, hu', hr⟩ := hl.get _ _ hget
    have hu'' : vs[o]? = some u := by simpa using hu'
    exact ⟨u, by simp only [part, Sem.run_bind, run_isAgg hd, hagg, Result.andThen_ok, Bool.false_eq_true, if_false, hu'', Sem.run_pure], hr⟩

theorem loadI_sound {t : TypeId} {x v : AV} (h : (evLoadI P t x).says v) {u : Value} (hx : Rep G x u) {σ : Store} {w : World} (hw : WRel G σ w) :
    ∃ c, (Instr.loadAt t u).run P w = .ok c w ∧ Rep G v c := by
  unfold evLoadI at h
  split at h
  · rename_i cs
    split at h
    · rename_i y hy
      have := says_val h; subst this
      obtain ⟨b, o, vs, rfl, hl, hi⟩ := hx.iptr_inv
      obtain ⟨c, hc, hr⟩ := part_load hl hy (w := w) (b := b) (o := o) fun i c hc => (hw.imm _ _ _ (hi i c hc)).1
      exact ⟨c, by simp only [Instr.loadAt, Instr.sureAddr, Sem.run_bind, Sem.run_pure, Result.andThen_ok, hc], hr⟩
    · exact h.elim
  · exact h.elim

theorem fieldOff_spec {t : TypeId} {f o : Nat} {ft : TypeId} (h : fieldOff P t f = some (o, ft)) : ∃ fs fd, P.underlying t = some (.struct fs) ∧ fs[f]? = some fd ∧ fd.offset = o ∧ fd.type = ft ∧ 0 < P.cellsOf fd.type := by
  unfold fieldOff at h
  split at h
  · rename_i fs hu
    split at h
    · rename_i fd hf
      split at h
      · cases h
      · simp only [Option.some.injEq, Prod.mk.injEq] at h
        exact ⟨fs, fd, hu, hf, h.1, h.2, by omega⟩
    · cases h
  · cases h

theorem field_sound {t : TypeId} {x v : AV} {f : Nat} (h : (evField P t x f).says v) {u : Value} (hx : Rep G x u) (w : World) : ∃ c, (Instr.field t u f).run P w = .ok c w ∧ Rep G v c := by
  unfold evField at h
  split at h
  · rename_i cs o ft ho
    split at h
    · rename_i y hy
      have := says_val h; subst this
      obtain ⟨vs, rfl, hl⟩ := hx.agg_inv
      obtain ⟨fs, fd, hu, hf, rfl, rfl, _⟩ := fieldOff_spec ho
      obtain ⟨c, hc, hr⟩ := part_run hl hy w
      exact ⟨c, by simp only [Instr.field, Sem.run_bind, run_underlying hu, Result.andThen_ok, hf, asAgg, Sem.run_pure, hc], hr⟩
    · exact h.elim
  · exact h.elim

theorem run_fieldAt {t : TypeId} {f o : Nat} {ft : TypeId} (h : fieldOff P t f = some (o, ft)) (b a : Nat) (w : World) :
    (Instr.fieldAt t (.pointer (some ⟨b, a, none⟩)) f).run P w = .ok (.pointer (some ⟨b, a + o, none⟩)) w := by
  obtain ⟨fs, fd, hu, hf, rfl, rfl, hp⟩ := fieldOff_spec h
  have h0 : ¬ (P.cellsOf fd.type = 0) := by omega
  simp only [Instr.fieldAt, Sem.run_bind, run_underlying hu, Result.andThen_ok, hf, Instr.sureAddr, Sem.run_pure, fieldPlace, run_sizeOf hp, h0, if_false, Sem.run_ite, add_lit]

theorem fieldAddr_sound {t : TypeId} {x v : AV} {f : Nat} (h : (evFieldAddr P t x f).says v) {u : Value} (hx : Rep G x u) (w : World) : ∃ c, (Instr.fieldAt t u f).run P w = .ok c w ∧ Rep G v c := by
  unfold evFieldAddr at h
  split at h
  · rename_i cs o ft ho
    have := says_val h; subst this
    obtain ⟨b, a, vs, rfl, hl, hi⟩ := hx.iptr_inv
    exact ⟨_, run_fieldAt ho b a w, Rep.iptr_of (hl.drop o) fun i c hc => by
      rw [List.getElem?_drop] at hc; rw [Nat.add_assoc]; exact hi _ _ hc⟩
  · rename_i id a o ft ho
    have := says_val h; subst this
    cases hx with
    | ptr _ _ b n hob => exact ⟨_, run_fieldAt ho b a w, .ptr _ _ b n hob⟩
  · rename_i id i sz a o ft ho
    have := says_val h; subst this
    cases hx with
    | eptr _ _ _ _ b n hob => exact ⟨_, run_fieldAt ho b _ w, by rw [Nat.add_assoc]; exact .eptr _ _ _ _ b n hob⟩
  · exact h.elim

theorem sliceElem_zero {t e : TypeId} {sz : Nat} (h : sliceElem P t = some (e, sz)) : P.underlying t = some (.slice e) ∧ P.cellsOf e = sz ∧ 0 < sz ∧
    ∃ it zv, P.info? e = some it ∧ it.zero = some zv ∧ it.size = sz ∧ zv.cells.size = sz ∧ ∀ c ∈ zv.cells.toList, c.oneCell' = true := by
  unfold sliceElem at h
  split at h
  · rename_i e' hu
    split at h
    · cases h
    · rename_i hc
      simp only [Option.some.injEq, Prod.mk.injEq] at h
      obtain ⟨rfl, rfl⟩ := h
      refine ⟨hu, rfl, by omega, ?_⟩
      have hz : zeroOk P e' = true := by
        cases hz : zeroOk P e' with
        | true => rfl
        | false => exact absurd (.inr hz) hc
      unfold zeroOk at hz
      unfold Program.cellsOf
      cases hi : P.info? e' with
      | none => simp [hi] at hz
      | some it =>
        cases hzv : it.zero with
        | none => simp [hi, hzv] at hz
        | some zv =>
          simp only [hi, hzv, Bool.and_eq_true, beq_iff_eq] at hz
          exact ⟨it, zv, rfl, hzv, by simp, by simp [hz.1], fun c hc => List.all_eq_true.1 hz.2 c hc⟩
  · cases h

theorem sliceElem_spec {t e : TypeId} {sz : Nat} (h : sliceElem P t = some (e, sz)) : P.underlying t = some (.slice e) ∧ P.cellsOf e = sz ∧ 0 < sz :=
  ⟨(sliceElem_zero h).1, (sliceElem_zero h).2.1, (sliceElem_zero h).2.2.1⟩

theorem flatten_get {α : Type} (sz : Nat) : ∀ (rs : List (List α)) (i j : Nat) (r : List α) (x : α), (∀ r ∈ rs, r.length = sz) → rs[i]? = some r → r[j]? = some x → rs.flatten[i * sz + j]? = some x
  | [], i, j, r, x, _, h, _ => by simp at h
  | r0 :: rs, i, j, r, x, hs, h, hx => by
    have h0 : r0.length = sz := hs r0 (by simp)
    cases i with
    | zero =>
      simp at h; subst h
      have hj : j < r0.length := (List.getElem?_eq_some_iff.1 hx).1
      simp [List.getElem?_append_left hj, hx]
    | succ i =>
      simp at h
      have ih := flatten_get sz rs i j r x (fun r hr => hs r (by simp [hr])) h hx
      rw [List.flatten_cons, List.getElem?_append_right (by rw [h0, Nat.succ_mul]; omega)]
      rw [h0, show (i + 1) * sz + j - sz = i * sz + j by rw [Nat.succ_mul]; omega]
      exact ih

theorem run_indexAt {t e : TypeId} {sz : Nat} (h : sliceElem P t = some (e, sz)) (k : IntKind) (n : Int) (b o len cap : Nat) (h0 : 0 ≤ n) (h1 : n < len) (w : World) :
    (Instr.indexAt t (.slice (some ⟨b, o, none⟩) len cap) (.int k n)).run P w = .ok (.pointer (some ⟨b, o + n.toNat * sz, none⟩)) w := by
  obtain ⟨hu, rfl, hp⟩ := sliceElem_spec h
  simp only [Instr.indexAt, Sem.run_bind, asIntOf, Sem.run_pure, Result.andThen_ok, run_underlying hu, h0, h1, and_self, if_true, run_sizeOf hp, add_lit]

theorem run_indexArr {t : TypeId} {m sz : Nat} (h : arrElem P t = some (m, sz)) (k : IntKind) (n : Int) (b o : Nat) (h0 : 0 ≤ n) (h1 : n < m) (w : World) :
    (Instr.indexAt t (.pointer (some ⟨b, o, none⟩)) (.int k n)).run P w = .ok (.pointer (some ⟨b, o + n.toNat * sz, none⟩)) w := by
  unfold arrElem at h
  split at h
  · rename_i m' e hu
    split at h
    · cases h
    · rename_i hp
      cases h
      simp only [Instr.indexAt, Instr.sureAddr, Sem.run_bind, asIntOf, Sem.run_pure, Result.andThen_ok, run_underlying hu, h0, h1, and_self, if_true, run_sizeOf (Nat.pos_of_ne_zero hp), add_lit]
  · cases h

theorem indexAddr_sound {t : TypeId} {x i v : AV} (h : (evIndexAddr P t x i).says v) {u ui : Value} (hx : Rep G x u) (hi : Rep G i ui) (w : World) : ∃ c, (Instr.indexAt t u ui).run P w = .ok c w ∧ Rep G v c := by
  unfold evIndexAddr at h
  split at h
  · rename_i k n
    cases hi
    split at h
    · rename_i e sz k' l hse
      split at h
      · rename_i hsz; subst hsz
        obtain ⟨⟨h0, h1⟩, rfl⟩ := says_need h
        cases hx with
        | ints0 => simp at h1; omega
        | ints _ _ b o cap hc hm =>
          refine ⟨_, run_indexAt hse k n b o l.length cap h0 h1 w, Rep.iptr_of (.cons (.int k' _) .nil) fun j c hj => ?_⟩
          cases j with
          | zero =>
            simp at hj; subst hj
            have hlt : n.toNat < l.length := by omega
            simp only [Nat.mul_one, Nat.add_zero]
            refine hm n.toNat _ ?_
            simp [hlt]
          | succ j => simp at hj
      · exact h.elim
    · rename_i e sz sz' rs hse
      split at h
      · rename_i hsz; subst hsz
        obtain ⟨⟨h0, h1⟩, rfl⟩ := says_need h
        cases hx with
        | rows0 => simp at h1; omega
        | rows _ _ b o cap f hc hs hm hr =>
          have hlt : n.toNat < rs.length := by omega
          refine ⟨_, run_indexAt hse k n b o rs.length cap h0 h1 w, ?_⟩
          refine .iptr _ b _ (fun j => f (n.toNat * sz + j)) (fun j y hy => ?_) (fun j y hy => ?_)
          · rw [Nat.add_assoc]
            exact hm _ _ (flatten_get sz rs n.toNat j _ y hs (List.getElem?_eq_getElem hlt) (by simpa [List.getD, hlt] using hy))
          · exact hr _ _ (flatten_get sz rs n.toNat j _ y hs (List.getElem?_eq_getElem hlt) (by simpa [List.getD, hlt] using hy))
      · exact h.elim
    · rename_i e sz id off len sz' hse
      split at h
      · rename_i hsz; subst hsz
        obtain ⟨⟨h0, h1⟩, rfl⟩ := says_need h
        cases hx with
        | mvec _ _ _ _ cap b nn ho hc hf =>
          refine ⟨_, run_indexAt hse k n b _ len cap h0 h1 w, ?_⟩
          rw [← Nat.add_mul]
          exact .eptr _ _ _ 0 b nn ho
      · exact h.elim
    · unfold evIndexArr at h
      split at h
      · rename_i m sz cs ha
        obtain ⟨⟨h0, h1⟩, rfl⟩ := says_need h
        cases hx with
        | iptr _ b o f hm hr =>
          refine ⟨_, run_indexArr ha k n b o h0 h1 w, .iptr _ b _ (fun j => f (n.toNat * sz + j)) (fun j y hy => ?_) (fun j y hy => ?_)⟩
          · rw [List.getElem?_drop] at hy
            rw [Nat.add_assoc]; exact hm _ _ hy
          · rw [List.getElem?_drop] at hy
            exact hr _ _ hy
      · rename_i m sz id off ha
        obtain ⟨⟨h0, h1⟩, rfl⟩ := says_need h
        cases hx with
        | ptr _ _ b nn ho => exact ⟨_, run_indexArr ha k n b off h0 h1 w, .ptr _ _ b nn ho⟩
      · rename_i m sz id j s off ha
        obtain ⟨⟨h0, h1⟩, rfl⟩ := says_need h
        cases hx with
        | eptr _ _ _ _ b nn ho =>
          refine ⟨_, run_indexArr ha k n b _ h0 h1 w, ?_⟩
          rw [Nat.add_assoc]
          exact .eptr _ _ _ _ b nn ho
      · exact h.elim
    · exact h.elim
  · exact h.elim

theorem index_sound {t : TypeId} {x i v : AV} (h : (evIndex P t x i).says v) {u ui : Value} (hx : Rep G x u) (hi : Rep G i ui) (w : World) : ∃ c, (Instr.index t u ui).run P w = .ok c w ∧ Rep G v c := by
  unfold evIndex at h
  split at h
  · rename_i k n l hu
    obtain ⟨⟨h0, h1⟩, rfl⟩ := says_need h
    cases hi; cases hx; rename_i s e
    have hlt : n.toNat < s.data.toList.length := by rw [← e] at h1; simp at h1 ⊢; omega
    have hsz : n.toNat < s.size := by have h2 := hlt; rw [Array.length_toList] at h2; exact h2
    refine ⟨.int .u8 (l.getD n.toNat 0), ?_, .int _ _⟩
    have hval : l.getD n.toNat 0 = ((s[n.toNat]'hsz).toNat : Int) := by
      rw [← e]
      simp only [List.getD, List.getElem?_map, List.getElem?_eq_getElem hlt, Option.map_some, Option.getD_some]
      rfl
    rw [hval]
    simp [Instr.index, asIntOf, run_underlying hu, h0, hsz]
  · exact h.elim

theorem len_sound {t : TypeId} {x v : AV} (h : (evLen P t x).says v) {u : Value} (hx : Rep G x u) (ts : Array TypeId) (ty : TypeId) (hts : ts[0]? = some t) (w : World) :
    ∃ c, (Builtin.len_ ts ty #[u]).run P w = .ok c w ∧ Rep G v c := by
  unfold evLen at h
  split at h
  · rename_i hu; have := says_val h; subst this
    exact ⟨_, by simp only [Builtin.len_, hts, List.getElem?_toArray, List.getElem?_cons_zero, Sem.run_bind, run_underlying hu, Result.andThen_ok, Sem.run_pure]; rfl, .int _ _⟩
  · rename_i hu; have := says_val h; subst this
    cases hx; rename_i l s e
    refine ⟨.int .i64 l.length, ?_, .int _ _⟩
    simp only [Builtin.len_, hts, List.getElem?_toArray, List.getElem?_cons_zero, Sem.run_bind, run_underlying hu, Result.andThen_ok, Sem.run_pure, str_len e]; rfl
  all_goals try (exact h.elim)
  all_goals
    rename_i hu; have := says_val h; subst this
    cases hx
    all_goals exact ⟨_, by simp only [Builtin.len_, hts, List.getElem?_toArray, List.getElem?_cons_zero, Sem.run_bind, run_underlying hu, Result.andThen_ok, Sem.run_pure]; rfl, .int _ _⟩

theorem nilCheck_sound {x v : AV} (h : (evNilCheck x).says v) {u : Value} (hx : Rep G x u) : v = x ∧ ((∃ a, u = .pointer (some a)) ∨ (∃ f gs hs, u = .func (.func f) gs hs)) := by
  unfold evNilCheck at h
  split at h
  · have := says_val h; subst this; cases hx; exact ⟨rfl, .inl ⟨_, rfl⟩⟩
  · have := says_val h; subst this; cases hx; exact ⟨rfl, .inl ⟨_, rfl⟩⟩
  · have := says_val h; subst this; cases hx; exact ⟨rfl, .inl ⟨_, rfl⟩⟩
  · have := says_val h; subst this; cases hx; exact ⟨rfl, .inl ⟨_, rfl⟩⟩
  · have := says_val h; subst this; cases hx; exact ⟨rfl, .inr ⟨_, _, _, rfl⟩⟩
  · exact h.elim

theorem min_sound {x y v : AV} (h : (evMin x y).says v) {u1 u2 : Value} (hx : Rep G x u1) (hy : Rep G y u2) (ts : Array TypeId) (ty : TypeId) (w : World) :
    ∃ c, (Builtin.min_ ts ty #[u1, u2]).run P w = .ok c w ∧ Rep G v c := by
  unfold evMin at h
  split at h
  · rename_i k a k' b; have := says_val h; subst this; cases hx; cases hy
    refine ⟨.int k (min a b), ?_, .int _ _⟩
    simp only [Builtin.min_, List.foldlM, Builtin.min2, Sem.run_bind, Sem.run_pure, Result.andThen_ok]
    congr 2
    rw [Int.min_def]; split <;> split <;> omega
  · exact h.elim

theorem max_sound {x y v : AV} (h : (evMax x y).says v) {u1 u2 : Value} (hx : Rep G x u1) (hy : Rep G y u2) (ts : Array TypeId) (ty : TypeId) (w : World) :
    ∃ c, (Builtin.max_ ts ty #[u1, u2]).run P w = .ok c w ∧ Rep G v c := by
  unfold evMax at h
  split at h
  · rename_i k a k' b; have := says_val h; subst this; cases hx; cases hy
    refine ⟨.int k (max a b), ?_, .int _ _⟩
    simp only [Builtin.max_, List.foldlM, Builtin.max2, Sem.run_bind, Sem.run_pure, Result.andThen_ok]
    congr 2
    rw [Int.max_def]; split <;> split <;> omega
  · exact h.elim

end Go.Pa
