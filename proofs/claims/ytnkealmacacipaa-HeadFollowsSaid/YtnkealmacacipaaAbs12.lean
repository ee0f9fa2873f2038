/-
  Loads, stores, new variables, make; one operation.
-/
import Derived.Test.YtnkealmacacipaaAbs11
namespace Go.Pa
set_option linter.unusedSectionVars false
variable [GTab]
variable {P : Program} {G : Gh}

/-- A load through a pointer to an object. -/
def vcLoad (P : Program) (t : TypeId) (x : AV) (s : Store) (R : AV → Store → Prop) : Prop :=
  match x with
  | .ptr id off => match s[id]? with
    | some (.box cs) => match partA P t (cs.drop off) with
      | some v => R v s
      | none => False
    | _ => False
  | .eptr id i sz off => match s[id]? with
    | some (.vecI k l) => match partA P t [.int k (l.getD i 0)] with
      | some v => sz = 1 ∧ off = 0 ∧ i < l.length ∧ R v s
      | none => False
    | some (.vecR sz' rs) => match partA P t ((rs.getD i []).drop off) with
      | some v => sz = sz' ∧ i < rs.length ∧ R v s
      | none => False
    | _ => False
  | _ => False

theorem load_sound {t : TypeId} {x : AV} {σ : Store} {R : AV → Store → Prop} (h : vcLoad P t x σ R) {u : Value} (hx : Rep G x u) {w : World} (hw : WRel G σ w) :
    ∃ c v, (Instr.loadAt t u).run P w = .ok c w ∧ Rep G v c ∧ R v σ := by
  have main : ∀ {id b n o : Nat} {ob : AObj} {cs ds : List AV} {v : AV}, G.obj[id]? = some (b, n) → σ[id]? = some ob → ob.cells = some cs → (∀ (i : Nat) y, ds[i]? = some y → cs[o + i]? = some y) → partA P t ds = some v →
      ∃ c, (loadVar t ⟨b, o, none⟩).run P w = .ok c w ∧ Rep G v c := by
    intro id b n o ob cs ds v ho hob hc hsub hv
    obtain ⟨b', n', arr, ty, p1, p2, p3, p4, p5, p6, p7, p8⟩ := (hw.objs id ob hob).get hc
    rw [ho] at p1; cases p1
    have hl : RepL G ds (((arr.toList.take cs.length).drop o).take ds.length) := by
      refine RepL.of_get ?_ fun i y hy => ?_
      · rcases Nat.eq_zero_or_pos ds.length with h0 | h0
        · simp [h0]
        · have hlt : ds.length - 1 < ds.length := by omega
          have := (List.getElem?_eq_some_iff.1 (hsub _ _ (List.getElem?_eq_getElem hlt))).1
          have h7 := p7.length
          simp only [List.length_take, List.length_drop, Array.length_toList] at this h7 ⊢
          omega
      · obtain ⟨c, hc', hr⟩ := p7.get _ y (hsub i y hy)
        have hi : i < ds.length := (List.getElem?_eq_some_iff.1 hy).1
        exact ⟨c, by rw [List.getElem?_take, if_pos hi, List.getElem?_drop]; exact hc', hr⟩
    refine part_load hl hv fun i c hc' => ?_
    rw [cell_of_row w b _ arr ty _ p2]
    rw [List.getElem?_take] at hc'
    split at hc'
    · rw [List.getElem?_drop, List.getElem?_take] at hc'
      split at hc'
      · simpa using hc'
      · cases hc'
    · cases hc'
  have fin : ∀ {b o : Nat} {v : AV}, u = .pointer (some ⟨b, o, none⟩) → (∃ c, (loadVar t ⟨b, o, none⟩).run P w = .ok c w ∧ Rep G v c) → R v σ → ∃ c v, (Instr.loadAt t u).run P w = .ok c w ∧ Rep G v c ∧ R v σ := by
    rintro b o v rfl ⟨c, hc, hr⟩ hR
    exact ⟨c, v, by simp only [Instr.loadAt, Instr.sureAddr, Sem.run_bind, Sem.run_pure, Result.andThen_ok, hc], hr, hR⟩
  unfold vcLoad at h
  split at h
  · rename_i id off
    split at h
    · rename_i cs hob
      split at h
      · rename_i v hv
        cases hx with
        | ptr _ _ b n ho => exact fin rfl (main ho hob rfl (fun i y hy => by rwa [List.getElem?_drop] at hy) hv) h
      · exact h.elim
    · exact h.elim
  · rename_i id i sz off
    split at h
    · rename_i k l hob
      split at h
      · rename_i v hv
        obtain ⟨rfl, rfl, hi, hR⟩ := h
        cases hx with
        | eptr _ _ _ _ b n ho =>
          refine fin rfl (main ho hob rfl (fun j y hy => ?_) hv) hR
          cases j with
          | zero => simp at hy; subst hy; simp [hi]
          | succ j => simp at hy
      · exact h.elim
    · rename_i sz' rs hob
      split at h
      · rename_i v hv
        obtain ⟨rfl, hi, hR⟩ := h
        obtain ⟨cs0, hcs0⟩ : ∃ cs, (AObj.vecR sz rs).cells = some cs := by
          obtain ⟨_, _, _, _, cs0, q, _⟩ := hw.objs id _ hob
          exact ⟨cs0, q⟩
        have hall : ∀ r ∈ rs, r.length = sz := by
          simp only [AObj.cells] at hcs0
          split at hcs0
          · assumption
          · cases hcs0
        cases hx with
        | eptr _ _ _ _ b n ho =>
          refine fin rfl (main ho hob (cs := rs.flatten) (by simp only [AObj.cells]; rw [if_pos hall]) (fun j y hy => ?_) hv) hR
          rw [List.getElem?_drop] at hy
          rw [Nat.add_assoc]
          exact flatten_get sz rs i _ _ y hall (List.getElem?_eq_getElem hi) (by simpa [List.getD, hi] using hy)
      · exact h.elim
    · exact h.elim
  · exact h.elim

/-- A store through a pointer to an object. -/
def vcStore (P : Program) (t : TypeId) (x y : AV) (s : Store) (R : AV → Store → Prop) : Prop :=
  match x, y.cellsOf with
  | .ptr id off, some ys => match s[id]? with
    | some (.box cs) => ys.length = P.cellsOf t ∧ 0 < P.cellsOf t ∧ off + P.cellsOf t ≤ cs.length ∧ R .any (s.set id (.box (splice cs off ys)))
    | _ => False
  | .eptr id i sz off, some ys => match s[id]?, ys with
    | some (.vecI k l), [.int k' n] => k = k' ∧ sz = 1 ∧ off = 0 ∧ P.cellsOf t = 1 ∧ i < l.length ∧ R .any (s.set id (.vecI k (l.set i n)))
    | some (.vecR sz' rs), ys => sz = sz' ∧ ys.length = P.cellsOf t ∧ 0 < P.cellsOf t ∧ off + P.cellsOf t ≤ sz ∧ i < rs.length ∧ R .any (s.set id (.vecR sz (rs.set i (splice (rs.getD i []) off ys))))
    | _, _ => False
  | _, _ => False

theorem run_storeAt {t : TypeId} {v : Value} (h : v.cells.size = P.cellsOf t) (hp : 0 < P.cellsOf t) {b o : Nat} {arr : Array Value} {ty : TypeId} {w : World} (hg : w.heap[b]? = some (.cells arr ty (0, 0))) (hf : o + v.cells.size ≤ arr.size)
    (h1 : ∀ c ∈ v.cells.toList, c.oneCell' = true) : (Instr.storeAt t (.pointer (some ⟨b, o, none⟩)) v).run P w = .ok () (w.setRow b (arr.toList.take o ++ v.cells.toList ++ arr.toList.drop (o + v.cells.toList.length)).toArray) := by
  have hst := run_storeCells_at P b o ty v.cells.toList 0 arr w hg (by simpa using hf) h1
  simp only [Nat.add_zero] at hst
  have hne : ¬ (v.cells.size ≠ P.cellsOf t) := by omega
  simp only [Instr.storeAt, Instr.sureAddr, Sem.run_bind, Sem.run_pure, Result.andThen_ok, storeVar, run_sizeOf hp, hne, if_false, hst, Sem.run_ite]

theorem splice_length {cs xs : List AV} {o : Nat} (h : o + xs.length ≤ cs.length) : (splice cs o xs).length = cs.length := by
  simp only [splice, List.length_append, List.length_take, List.length_drop]; omega

theorem flatten_set {α : Type} {sz : Nat} : ∀ {rs : List (List α)} {i : Nat} (r' : List α), (∀ r ∈ rs, r.length = sz) → i < rs.length → r'.length = sz →
    (rs.set i r').flatten = rs.flatten.take (i * sz) ++ r' ++ rs.flatten.drop (i * sz + sz)
  | [], i, r', _, hi, _ => by simp at hi
  | r :: rs, 0, r', hs, _, hr => by
    have h0 : r.length = sz := hs r (by simp)
    simp only [List.set_cons_zero, List.flatten_cons, Nat.zero_mul, List.take_zero, List.nil_append, Nat.zero_add]
    rw [List.drop_left' h0]
  | r :: rs, i + 1, r', hs, hi, hr => by
    have h0 : r.length = sz := hs r (by simp)
    have ih := flatten_set (rs := rs) (i := i) r' (fun r hr => hs r (by simp [hr])) (by simpa using hi) hr
    simp only [List.set_cons_succ, List.flatten_cons]
    rw [ih]
    have e1 : (i + 1) * sz = r.length + i * sz := by rw [h0, Nat.succ_mul]; omega
    rw [e1, Nat.add_assoc, drop_app r _ _ _ rfl]
    have e2 : (r ++ rs.flatten).take (r.length + i * sz) = r ++ rs.flatten.take (i * sz) := by
      rw [List.take_append, List.take_of_length_le (by omega)]
      simp
    rw [e2]
    simp [List.append_assoc]

theorem store_sound {t : TypeId} {x y : AV} {σ : Store} {R : AV → Store → Prop} (h : vcStore P t x y σ R) {u v : Value} (hx : Rep G x u) (hy : Rep G y v) {w : World} (hw : WRel G σ w) :
    ∃ w' σ', (Instr.storeAt t u v).run P w = .ok () w' ∧ WRel G σ' w' ∧ R .any σ' := by
  unfold vcStore at h
  have one : ∀ {ys : List AV}, y.cellsOf = some ys → ys.length = P.cellsOf t → RepL G ys v.cells.toList ∧ (∀ c ∈ v.cells.toList, c.oneCell' = true) ∧ v.cells.size = P.cellsOf t := by
    intro ys hc hl
    obtain ⟨h1, h2⟩ := cellsOf_rep hy hc
    exact ⟨h1, h2, by have := h1.length; simp at this; omega⟩
  have main : ∀ {id b n o : Nat} {ob ob' : AObj} {cs ys : List AV}, G.obj[id]? = some (b, n) → σ[id]? = some ob → ob.live = true → ob.cells = some cs → y.cellsOf = some ys → ys.length = P.cellsOf t → 0 < P.cellsOf t → o + P.cellsOf t ≤ cs.length →
      ob'.cells = some (cs.take o ++ ys ++ cs.drop (o + ys.length)) → u = .pointer (some ⟨b, o, none⟩) → R .any (σ.set id ob') → ∃ w' σ', (Instr.storeAt t u v).run P w = .ok () w' ∧ WRel G σ' w' ∧ R .any σ' := by
    intro id b n o ob ob' cs ys ho hob hlive hc hys hyl hpos hfit hob' hu hR
    subst hu
    obtain ⟨b', n', arr, ty, p1, p2, p3, p4, p5, p6, p7, p8⟩ := (hw.objs id ob hob).get hc
    rw [ho] at p1; cases p1
    obtain ⟨q1, q2, q3⟩ := one hys hyl
    have hrun := run_storeAt (P := P) (t := t) (v := v) q3 hpos (b := b) (o := o) p2 (by omega) q2
    have hvl : v.cells.toList.length = ys.length := by rw [← q1.length]
    refine ⟨_, _, hrun, hw.write (ob' := ob') hob hlive ho p2 ?_ hob' ((arr.toList.take cs.length).take o ++ v.cells.toList ++ (arr.toList.take cs.length).drop (o + ys.length)) ((p7.take o |>.append q1).append (p7.drop _)) (fun i c hcc => ?_) (fun c hcc => ?_), hR⟩
    · simp only [List.size_toArray, List.length_append, List.length_take, List.length_drop, Array.length_toList] at hvl ⊢; omega
    · have e1 : (arr.toList.take cs.length).take o = arr.toList.take o := by rw [List.take_take, Nat.min_eq_left (by omega)]
      have hA : (arr.toList.take o ++ v.cells.toList).length = o + ys.length := by
        rw [List.length_append, List.length_take, hvl, Array.length_toList]; omega
      rw [e1] at hcc
      rw [List.getElem?_toArray]
      rcases Nat.lt_or_ge i (o + ys.length) with hi | hi
      · rw [List.getElem?_append_left (by omega)] at hcc ⊢; exact hcc
      · rw [List.getElem?_append_right (by omega), hA, List.getElem?_drop] at hcc ⊢
        rw [hvl]
        rw [List.getElem?_take] at hcc
        split at hcc
        · exact hcc
        · cases hcc
    · simp only [List.mem_append] at hcc
      rcases hcc with (hcc | hcc) | hcc
      · exact p8 c (List.mem_of_mem_take hcc)
      · exact q2 c hcc
      · exact p8 c (List.mem_of_mem_drop hcc)
  split at h
  · rename_i id off ys hys
    split at h
    · rename_i cs hob
      obtain ⟨h1, h2, h3, hR⟩ := h
      cases hx with
      | ptr _ _ b n ho => exact main (ob' := .box (splice cs off ys)) ho hob rfl rfl hys h1 h2 h3 rfl rfl hR
    · exact h.elim
  · rename_i id i sz off ys hys
    split at h
    · rename_i k l k' n hob
      obtain ⟨rfl, rfl, rfl, h1, hi, hR⟩ := h
      cases hx with
      | eptr _ _ _ _ b nn ho =>
        refine main (ob' := .vecI k (l.set i n)) ho hob rfl rfl hys (by simp [h1]) (by omega) (by simp; omega) ?_ rfl hR
        simp only [AObj.cells, Nat.mul_one, Nat.add_zero, List.length_singleton]
        congr 1
        rw [← List.map_take, ← List.map_drop, show [AV.int k n] = [n].map (AV.int k) from rfl, ← List.map_append, ← List.map_append]
        congr 1
        rw [List.set_eq_take_append_cons_drop, if_pos hi]
        simp
    · rename_i ys' _ _ sz' rs hob
      obtain ⟨rfl, h1, h2, h3, hi, hR⟩ := h
      obtain ⟨cs0, hcs0⟩ : ∃ cs, (AObj.vecR sz rs).cells = some cs := by
        obtain ⟨_, _, _, _, cs0, q, _⟩ := hw.objs id _ hob
        exact ⟨cs0, q⟩
      have hall : ∀ r ∈ rs, r.length = sz := by
        simp only [AObj.cells] at hcs0
        split at hcs0
        · assumption
        · cases hcs0
      have hri : (rs.getD i []) = rs[i] := by simp [List.getD, hi]
      have hrl : (rs.getD i []).length = sz := by rw [hri]; exact hall _ (List.getElem_mem hi)
      have hsl : (splice (rs.getD i []) off ys').length = sz := by rw [splice_length (by omega)]; exact hrl
      have hfl : rs.flatten.length = rs.length * sz := Cont.cells_length (c := .R sz rs) ⟨rfl, hall⟩
      have hi1 : (i + 1) * sz ≤ rs.length * sz := Nat.mul_le_mul_right _ hi
      rw [Nat.succ_mul] at hi1
      cases hx with
      | eptr _ _ _ _ b nn ho =>
        refine main (ob' := .vecR sz (rs.set i (splice (rs.getD i []) off ys'))) (cs := rs.flatten) ho hob rfl (by simp only [AObj.cells]; rw [if_pos hall]) hys h1 h2 (by omega) ?_ rfl hR
        simp only [AObj.cells]
        rw [if_pos (fun r hr => by
          rcases List.mem_or_eq_of_mem_set hr with hr | rfl
          · exact hall r hr
          · exact hsl)]
        congr 1
        rw [flatten_set _ hall hi hsl]
        -- the row itself out of the whole
        have hrow : rs.getD i [] = (rs.flatten.drop (i * sz)).take sz := by
          apply List.ext_getElem?
          intro j
          rw [List.getElem?_take]
          split
          · rename_i hj
            rw [List.getElem?_drop]
            have hj' : j < (rs.getD i []).length := by omega
            rw [List.getElem?_eq_getElem hj']
            exact (flatten_get sz rs i j _ _ hall (by rw [hri]; exact List.getElem?_eq_getElem hi) (List.getElem?_eq_getElem hj')).symm
          · rename_i hj; rw [List.getElem?_eq_none (by omega)]
        unfold splice
        rw [hrow]
        generalize rs.flatten = L at hfl ⊢
        have e1 : ((L.drop (i * sz)).take sz).take off = (L.drop (i * sz)).take off := by rw [List.take_take, Nat.min_eq_left (by omega)]
        have e2 : L.take (i * sz + off) = L.take (i * sz) ++ (L.drop (i * sz)).take off := by rw [List.take_add]
        have e3 : ((L.drop (i * sz)).take sz).drop (off + ys'.length) ++ L.drop (i * sz + sz) = L.drop (i * sz + off + ys'.length) := by
          have : L.drop (i * sz + sz) = (L.drop (i * sz)).drop sz := by rw [List.drop_drop]
          rw [this, List.drop_take]
          have h5 : (L.drop (i * sz)).drop sz = ((L.drop (i * sz)).drop (off + ys'.length)).drop (sz - (off + ys'.length)) := by rw [List.drop_drop, List.drop_drop, List.drop_drop]; congr 1; omega
          rw [h5, List.take_append_drop, List.drop_drop]
          congr 1; omega
        rw [e1, e2, ← e3]
        simp [List.append_assoc]
    · exact h.elim
  · exact h.elim

end Go.Pa
