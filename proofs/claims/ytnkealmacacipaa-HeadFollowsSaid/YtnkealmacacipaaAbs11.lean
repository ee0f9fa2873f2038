/-
  append; soundness.
-/
import Derived.Test.YtnkealmacacipaaAbs10
namespace Go.Pa
set_option linter.unusedSectionVars false
variable [GTab]
variable {P : Program} {G : Gh}

/-- An object takes another number. -/
theorem WRel.move {σ : Store} {w : World} (hw : WRel G σ w) {id : Nat} {ob : AObj} (ho : σ[id]? = some ob) {b n : Nat} (h2 : G.obj[id]? = some (b, n)) : WRel (G.add b n) (σ.set id .dead ++ [ob]) w := by
  have hg := Gh.le_add G b n
  have hid : id < σ.length := (List.getElem?_eq_some_iff.1 ho).1
  have slast : ∀ (i : Nat) (x : AObj), (σ.set id .dead ++ [ob])[i]? = some x → x.live = true → (i < σ.length ∧ i ≠ id ∧ σ[i]? = some x) ∨ (i = σ.length ∧ x = ob) := by
    intro i x h hx
    rcases Nat.lt_or_ge i σ.length with hi | hi
    · rw [List.getElem?_append_left (by simpa using hi), List.getElem?_set] at h
      split at h
      · first
          | (cases h; cases hx)
          | (rw [if_pos hid] at h; cases h; cases hx)
      · rename_i e; exact .inl ⟨hi, fun e' => e e'.symm, h⟩
    · rw [List.getElem?_append_right (by simpa using hi), List.length_set] at h
      have : i - σ.length = 0 := by
        rcases Nat.eq_zero_or_pos (i - σ.length) with h0 | h0
        · exact h0
        · rw [List.getElem?_eq_none (by simp; omega)] at h; cases h
      rw [this] at h; simp at h
      exact .inr ⟨by omega, h.symm⟩
  have glast : ∀ (i : Nat) x, (G.obj ++ [(b, n)])[i]? = some x → (i < G.obj.length ∧ G.obj[i]? = some x) ∨ (i = G.obj.length ∧ x = (b, n)) := by
    intro i x h
    rcases Nat.lt_or_ge i G.obj.length with hi | hi
    · rw [List.getElem?_append_left hi] at h; exact .inl ⟨hi, h⟩
    · rw [List.getElem?_append_right hi] at h
      have : i - G.obj.length = 0 := by
        rcases Nat.eq_zero_or_pos (i - G.obj.length) with h0 | h0
        · exact h0
        · rw [List.getElem?_eq_none (by simp; omega)] at h; cases h
      rw [this] at h; simp at h
      exact .inr ⟨by omega, h.symm⟩
  have hlen := hw.len
  -- every live object of the new store was one of the old: its number there
  have old : ∀ (i : Nat) (x : AObj) bi, (σ.set id .dead ++ [ob])[i]? = some x → x.live = true → (G.obj ++ [(b, n)])[i]? = some bi →
      ∃ j, σ[j]? = some x ∧ G.obj[j]? = some bi ∧ ((i < σ.length ∧ j = i ∧ i ≠ id) ∨ (i = σ.length ∧ j = id)) := by
    intro i x bi h hx hb
    rcases slast i x h hx with ⟨hi, hne, h⟩ | ⟨hi, rfl⟩
    · rcases glast i bi hb with ⟨_, hb⟩ | ⟨hi', _⟩
      · exact ⟨i, h, hb, .inl ⟨hi, rfl, hne⟩⟩
      · omega
    · rcases glast i bi hb with ⟨hi', _⟩ | ⟨_, rfl⟩
      · omega
      · exact ⟨id, ho, h2, .inr ⟨hi, rfl⟩⟩
  refine ⟨by simp [Gh.add, hw.len], hw.imm, fun i x hx => ?_, fun i j oi oj bi bj a1 a2 a3 a4 a5 a6 a7 => ?_, hw.frame, hw.sz, hw.os, hw.tape, hw.output, hw.marks, hw.grew, hw.globs⟩
  · cases hl : x.live with
    | false => cases x <;> first | trivial | cases hl
    | true =>
      rcases slast i x hx hl with ⟨hi, hne, h⟩ | ⟨hi, rfl⟩
      · exact objRel_mono hg (hw.objs i x h) (fun _ _ _ => rfl) (fun _ _ _ _ h0 => h0)
      · subst hi
        have h := hw.objs id x ho
        have hn : (G.add b n).obj[σ.length]? = some (b, n) := by simp only [Gh.add]; rw [← hlen]; simp
        cases hc : x.cells with
        | some cs =>
          obtain ⟨b', n', arr, ty, q1, q2, q3, q4, q5, q6, q7, q8⟩ := h.get hc
          rw [h2] at q1; cases q1
          exact objRel_mk hc hn q2 q3 q5 q6 _ (q7.mono hg) (fun i c hcc => by
            rw [List.getElem?_take] at hcc
            split at hcc
            · simpa using hcc
            · cases hcc) q8
        | none =>
          cases x with
          | dead => cases hl
          | box _ => cases hc
          | vecI _ _ => cases hc
          | vecR _ _ =>
            obtain ⟨_, _, _, _, cs, q, _⟩ := h
            rw [hc] at q; cases q
          | mp kv =>
            obtain ⟨b', n', es, clock, q1, q2, q3, q4, q5, q6⟩ := h
            rw [h2] at q1; cases q1
            exact ⟨b, n, es, clock, hn, q2, q3, q4, q5, fun i p hp => let ⟨e, he, hk, hv, hb⟩ := q6 i p hp; ⟨e, he, hk.mono hg, hv.mono hg, hb⟩⟩
  · obtain ⟨i', p1, p2, p3⟩ := old i oi bi a1 a3 a5
    obtain ⟨j', q1, q2, q3⟩ := old j oj bj a2 a4 a6
    have := hw.inj i' j' oi oj bi bj p1 q1 a3 a4 p2 q2 a7
    omega

def appFits (P : Program) (e : TypeId) (n : Nat) : Prop := n * P.bytesOf e ≤ 140737488355328

/-- What is asked of an append. -/
def vcAppend (P : Program) (t : TypeId) (x y : AV) (s : Store) (R : AV → Store → Prop) : Prop :=
  match sliceElem P t, contA s y with
  | some (e, sz), some c =>
    P.bytesOf e ≠ 0 ∧
    match x, c with
    | .nils, .E => R .nils s
    | .emp, .E => R .emp s
    | .nils, .I k l => sz = 1 ∧ (l = [] → R .nils s) ∧ (l ≠ [] → appFits P e l.length ∧ R (.mvec s.length 0 l.length 1) (s ++ [.vecI k l]))
    | .emp, .I k l => sz = 1 ∧ (l = [] → R .emp s) ∧ (l ≠ [] → appFits P e l.length ∧ R (.mvec s.length 0 l.length 1) (s ++ [.vecI k l]))
    | .nils, .R sz' rs => sz = sz' ∧ (∀ r ∈ rs, r.length = sz) ∧ (rs = [] → R .nils s) ∧ (rs ≠ [] → appFits P e rs.length ∧ R (.mvec s.length 0 rs.length sz) (s ++ [.vecR sz rs]))
    | .emp, .R sz' rs => sz = sz' ∧ (∀ r ∈ rs, r.length = sz) ∧ (rs = [] → R .emp s) ∧ (rs ≠ [] → appFits P e rs.length ∧ R (.mvec s.length 0 rs.length sz) (s ++ [.vecR sz rs]))
    | .mvec id 0 len sz', c =>
      match s[id]?, c with
      | some _, .E => R (.mvec id 0 len sz') s
      | some (.vecI k l), .I k' l' => k = k' ∧ sz = 1 ∧ sz' = 1 ∧ len = l.length ∧ (l' = [] → R (.mvec id 0 len sz') s) ∧
          (l' ≠ [] → appFits P e (l.length + l'.length) ∧ R (.mvec s.length 0 (l.length + l'.length) 1) (s.set id .dead ++ [.vecI k (l ++ l')]))
      | some (.vecR sz1 rs), .R sz2 rs' => sz = sz1 ∧ sz = sz2 ∧ sz = sz' ∧ len = rs.length ∧ (∀ r ∈ rs', r.length = sz) ∧ (rs' = [] → R (.mvec id 0 len sz') s) ∧
          (rs' ≠ [] → appFits P e (rs.length + rs'.length) ∧ R (.mvec s.length 0 (rs.length + rs'.length) sz) (s.set id .dead ++ [.vecR sz (rs ++ rs')]))
      | _, _ => False
    | _, _ => False
  | _, _ => False

section
variable {t t' ty e : TypeId} {sz : Nat}

/-- append, where there is room. -/
theorem run_append_fit (hse : sliceElem P t = some (e, sz)) {d' : TypeDesc} (ht' : P.underlying t' = some d') (hd' : (∀ k, d' ≠ .int k)) {u : Value} {n : Nat} {news : List Value} {w : World}
    (hlen : (Builtin.lenOf u).run P w = .ok n w) (hf : (Builtin.firstCells sz n u).run P w = .ok news.toArray w) (base : Option Addr) (sLen sCap : Nat) (hc : sLen + n ≤ sCap) {w' : World}
    (hst : ∀ a, base = some a → (storeCells (a.add (sLen * sz)) news).run P w = .ok () w') (hn : base = none → w' = w) :
    (Builtin.append_ #[t, t'] ty #[.slice base sLen sCap, u]).run P w = .ok (.slice base (sLen + n) sCap) w' := by
  obtain ⟨hu, hcs, hpos⟩ := sliceElem_spec hse
  have hps : 0 < P.cellsOf e := by omega
  unfold Builtin.append_
  simp only [List.getElem?_toArray, List.getElem?_cons_zero, List.getElem?_cons_succ, Sem.run_bind, run_underlying hu, Result.andThen_ok, run_sizeOf hps, hcs, run_underlying ht', Sem.run_pure, Bool.false_eq_true, if_false, hlen, hc, if_true, Bool.not_false, hf, Sem.run_ite]
  cases base with
  | none => simp [hn rfl]
  | some a => simp [hst a rfl]

/-- append, where a new array is made. -/
theorem run_append_more (hse : sliceElem P t = some (e, sz)) {d' : TypeDesc} (ht' : P.underlying t' = some d') (hd' : (∀ k, d' ≠ .int k)) {it : TypeInfo} {zv : Value} (hit : P.info? e = some it) (hzv : it.zero = some zv) {u : Value} {n : Nat} {news olds : List Value} {w : World}
    (hlen : (Builtin.lenOf u).run P w = .ok n w) (base : Option Addr) (sLen sCap : Nat) (hf : (Builtin.firstCells sz n u).run P w.drew = .ok news.toArray w.drew)
    (ho : (Builtin.firstCells sz sLen (.slice base sLen sCap)).run P w.drew = .ok olds.toArray w.drew)
    (hc : sCap < sLen + n) (hb : P.bytesOf e ≠ 0) (hfit : (sLen + n) * P.bytesOf e ≤ 140737488355328) :
    (Builtin.append_ #[t, t'] ty #[.slice base sLen sCap, u]).run P w = .ok (.slice (some ⟨w.heap.size, 0, none⟩) (sLen + n) (grownCap w (sLen + n) sCap e))
      (w.drew.alloc (.cells (olds.toArray ++ news.toArray ++ Builtin.zeroCells zv.cells (grownCap w (sLen + n) sCap e - (sLen + n))) e)) := by
  obtain ⟨hu, hcs, hpos⟩ := sliceElem_spec hse
  have hps : 0 < P.cellsOf e := by omega
  have hby : P.bytesOf e = it.bytes := by simp [Program.bytesOf, hit]
  have h1 : ¬ (sLen + n ≤ sCap) := by omega
  have h2 : sLen + n ≤ 140737488355328 := Nat.le_trans (Nat.le_mul_of_pos_right _ (by omega)) hfit
  have h4 : ¬ (Builtin.nextslicecap (sLen + n) sCap * it.bytes > 2 ^ 48) := by
    have := growslice_fits (need := sLen + n) (old := sCap) (bytes := it.bytes) hc (by rw [← hby]; exact hfit)
    omega
  unfold Builtin.append_
  simp only [List.getElem?_toArray, List.getElem?_cons_zero, List.getElem?_cons_succ, Sem.run_bind, run_underlying hu, Result.andThen_ok, run_sizeOf hps, hcs, run_underlying ht', Sem.run_pure, Bool.false_eq_true, if_false, hlen, h1, Sem.run_ite, typeInfo, run_program, hit, h4,
    run_choose_drew, Question.forced, run_askRoom, ho, Bool.not_false, if_true, hf, zeroValue, hzv, newRow, run_newObj_alloc]
  rw [if_neg (by rintro ⟨_, h | h⟩ <;> omega)]
  rfl

/-- A new array: the object that comes of it. -/
theorem append_grows (hse : sliceElem P t = some (e, sz)) {d' : TypeDesc} (ht' : P.underlying t' = some d') (hd' : (∀ k, d' ≠ .int k)) {σ : Store} {w : World} (hw : WRel G σ w) {u : Value} {n : Nat} {news olds : List Value} {cs ds : List AV}
    (hlen : (Builtin.lenOf u).run P w = .ok n w) (base : Option Addr) (sLen sCap : Nat) (hf : ∀ w', w'.heap = w.heap → (Builtin.firstCells sz n u).run P w' = .ok news.toArray w')
    (ho : ∀ w', w'.heap = w.heap → (Builtin.firstCells sz sLen (.slice base sLen sCap)).run P w' = .ok olds.toArray w')
    (hn : RepL G ds news) (hn1 : ∀ v ∈ news, v.oneCell' = true) (hol : RepL G cs olds) (ho1 : ∀ v ∈ olds, v.oneCell' = true) (hln : ds.length = n * sz) (hlo : cs.length = sLen * sz)
    (hc : sCap < sLen + n) (hb : P.bytesOf e ≠ 0) (hfit : appFits P e (sLen + n)) {ob : AObj} (hob : ob.cells = some (cs ++ ds)) :
    ∃ c w' G', (Builtin.append_ #[t, t'] ty #[.slice base sLen sCap, u]).run P w = .ok c w' ∧ G.le G' ∧ WRel G' (σ ++ [ob]) w' ∧ Rep G' (.mvec σ.length 0 (sLen + n) sz) c := by
  obtain ⟨hu, hcs, hpos, it, zv, hit, hzv, hisz, hzs, hz1⟩ := sliceElem_zero hse
  have hrun := run_append_more (ty := ty) hse ht' hd' hit hzv hlen base sLen sCap (hf w.drew rfl) (ho w.drew rfl) hc hb hfit
  have hcap : sLen + n ≤ grownCap w (sLen + n) sCap e := grownCap_ge w _ _ _
  have hsize : (olds.toArray ++ news.toArray ++ Builtin.zeroCells zv.cells (grownCap w (sLen + n) sCap e - (sLen + n))).size = grownCap w (sLen + n) sCap e * sz := by
    simp only [Array.size_append, List.size_toArray, size_zeroCells, hzs, ← hol.length, ← hn.length, hln, hlo, ← Nat.add_mul]
    congr 1; omega
  refine ⟨_, _, _, hrun, Gh.le_add G _ _, hw.push (w1 := w.drew) rfl rfl rfl rfl hob (olds ++ news) (hol.append hn) (fun i c hcc => ?_) (fun c hcc => ?_), ?_⟩
  · rw [Array.getElem?_append_left]
    · simpa using hcc
    · have := (List.getElem?_eq_some_iff.1 hcc).1
      simpa using this
  · simp only [Array.toList_append, List.mem_append] at hcc
    rcases hcc with (hcc | hcc) | hcc
    · exact ho1 c hcc
    · exact hn1 c hcc
    · unfold Builtin.zeroCells at hcc
      simp only [Array.toList_map, List.mem_map] at hcc
      obtain ⟨i, hi, rfl⟩ := hcc
      have hlt : i % zv.cells.size < zv.cells.size := Nat.mod_lt _ (by omega)
      rw [getElem!_pos zv.cells _ hlt]
      exact hz1 _ (Array.getElem_mem_toList hlt)
  · have hobj : (G.add w.heap.size (grownCap w (sLen + n) sCap e * sz)).obj[σ.length]? = some (w.heap.size, grownCap w (sLen + n) sCap e * sz) := by
      simp only [Gh.add]; rw [← hw.len]; simp
    rw [hsize]
    have := Rep.mvec (G := G.add w.heap.size (grownCap w (sLen + n) sCap e * sz)) σ.length 0 (sLen + n) sz _ _ _ hobj hcap (by simp)
    simpa using this

theorem append_sound {x y : AV} {σ : Store} {R : AV → Store → Prop} (h : vcAppend P t x y σ R) {d' : TypeDesc} (ht' : P.underlying t' = some d') (hd' : (∀ k, d' ≠ .int k)) {ux uy : Value} (hx : Rep G x ux) (hy : Rep G y uy) {w : World} (hw : WRel G σ w) :
    ∃ c w' v σ' G', (Builtin.append_ #[t, t'] ty #[ux, uy]).run P w = .ok c w' ∧ G.le G' ∧ WRel G' σ' w' ∧ Rep G' v c ∧ R v σ' := by
  unfold vcAppend at h
  split at h
  · rename_i e sz cont hse hcont
    obtain ⟨hb, h⟩ := h
    have hpos := (sliceElem_spec hse).2.2
    -- nothing is added
    have idle : ∀ {sLen sCap : Nat} {base : Option Addr} {v : AV}, ux = .slice base sLen sCap → cont.len = 0 → cont.fits sz → sLen ≤ sCap → Rep G v ux → R v σ →
        ∃ c w' v σ' G', (Builtin.append_ #[t, t'] ty #[ux, uy]).run P w = .ok c w' ∧ G.le G' ∧ WRel G' σ' w' ∧ Rep G' v c ∧ R v σ' := by
      intro sLen sCap base v hux h0 hfit hle hv hr
      obtain ⟨hlen, vs, q1, q2, q3⟩ := cont_read (P := P) hw hy hcont hfit
      have hvs : vs = [] := by
        have := q1.length; rw [Cont.cells_length hfit, h0] at this
        exact List.eq_nil_of_length_eq_zero (by simpa using this.symm)
      subst hvs
      rw [h0] at hlen q3
      refine ⟨ux, w, v, σ, G, ?_, .refl G, hw, hv, hr⟩
      rw [hux]
      exact run_append_fit (ty := ty) hse ht' hd' (hlen w) (q3 w rfl) base sLen sCap (by omega) (w' := w) (fun a _ => rfl) (fun _ => rfl)
    -- a new array out of nothing
    have fresh : ∀ {base : Option Addr} {ob : AObj}, ux = .slice base 0 0 → cont.len ≠ 0 → cont.fits sz → appFits P e cont.len → ob.cells = some cont.cells → R (.mvec σ.length 0 cont.len sz) (σ ++ [ob]) →
        ∃ c w' v σ' G', (Builtin.append_ #[t, t'] ty #[ux, uy]).run P w = .ok c w' ∧ G.le G' ∧ WRel G' σ' w' ∧ Rep G' v c ∧ R v σ' := by
      intro base ob hux h0 hfit hap hob hr
      obtain ⟨hlen, vs, q1, q2, q3⟩ := cont_read (P := P) hw hy hcont hfit
      have hold : ∀ w', w'.heap = w.heap → (Builtin.firstCells sz 0 (.slice base 0 0)).run P w' = .ok ([] : List Value).toArray w' := by
        intro w' _
        cases base with
        | none => simp [Builtin.firstCells]
        | some a => exact run_firstCells_some w' sz 0 a 0 0 [] (by simp) (by simp)
      obtain ⟨c, w', G', g1, g2, g3, g4⟩ := append_grows (ty := ty) (cs := []) (ds := cont.cells) hse ht' hd' hw (hlen w) base 0 0 q3 hold q1 q2 .nil (by simp) (Cont.cells_length hfit) (by simp) (by omega) hb (by simpa using hap) (ob := ob) (by simpa using hob)
      rw [Nat.zero_add] at g4
      exact ⟨c, w', _, _, G', by rw [hux]; exact g1, g2, g3, g4, hr⟩
    -- onto an object
    have onto : ∀ {id len : Nat} {ob ob' : AObj} {cs : List AV}, x = .mvec id 0 len sz → σ[id]? = some ob → ob.live = true → ob.cells = some cs → cs.length = len * sz → cont.len ≠ 0 → cont.fits sz → appFits P e (len + cont.len) →
        ob'.cells = some (cs ++ cont.cells) → R (.mvec σ.length 0 (len + cont.len) sz) (σ.set id .dead ++ [ob']) →
        ∃ c w' v σ' G', (Builtin.append_ #[t, t'] ty #[ux, uy]).run P w = .ok c w' ∧ G.le G' ∧ WRel G' σ' w' ∧ Rep G' v c ∧ R v σ' := by
      intro id len ob ob' cs hxe hob hlive hcs hcl h0 hfit hap hob' hr
      obtain ⟨hlen, vs, q1, q2, q3⟩ := cont_read (P := P) hw hy hcont hfit
      subst hxe
      cases hx with
      | mvec _ _ _ _ cap b n ho hcap hfitc =>
      simp only [Nat.zero_mul, Nat.zero_add] at hfitc ⊢
      have hid : id < σ.length := (List.getElem?_eq_some_iff.1 hob).1
      obtain ⟨b', n', arr, ty', p1, p2, p3, p4, p5, p6, p7, p8⟩ := (hw.objs id ob hob).get hcs
      rw [ho] at p1; cases p1
      have hvl : vs.length = cont.len * sz := by rw [← q1.length, Cont.cells_length hfit]
      by_cases hroom : len + cont.len ≤ cap
      · -- in place
        have hsz : len * sz + vs.length ≤ arr.size := by
          rw [hvl, ← Nat.add_mul, p3]
          exact Nat.le_trans (Nat.mul_le_mul_right _ hroom) hfitc
        have hst := run_storeCells_at P b (len * sz) ty' vs 0 arr w p2 (by simpa using hsz) q2
        simp only [Nat.add_zero] at hst
        have hrun := run_append_fit (ty := ty) hse ht' hd' (hlen w) (q3 w rfl) (some ⟨b, 0, none⟩) len cap hroom (w' := w.setRow b (arr.toList.take (len * sz) ++ vs ++ arr.toList.drop (len * sz + vs.length)).toArray)
          (fun a ha => by cases ha; rw [add_lit, Nat.zero_add]; exact hst) (fun h => by cases h)
        have hold : (arr.toList.take cs.length).length = len * sz := by rw [← p7.length, hcl]
        have hw2 := hw.write (ob' := ob') hob hlive ho p2 (arr' := (arr.toList.take (len * sz) ++ vs ++ arr.toList.drop (len * sz + vs.length)).toArray) (by
            simp only [List.size_toArray, List.length_append, List.length_take, List.length_drop, Array.length_toList]; omega) hob' (arr.toList.take (len * sz) ++ vs) ((by rw [← hcl]; exact p7 : RepL G cs (arr.toList.take (len * sz))).append q1)
          (fun i c hcc => by
            rw [List.getElem?_toArray, List.getElem?_append_left (List.getElem?_eq_some_iff.1 hcc).1]; exact hcc)
          (fun c hcc => by
            simp only [List.mem_append] at hcc
            rcases hcc with (hcc | hcc) | hcc
            · exact p8 c (List.mem_of_mem_take hcc)
            · exact q2 c hcc
            · exact p8 c (List.mem_of_mem_drop hcc))
        have hw3 := hw2.move (id := id) (ob := ob') (by rw [List.getElem?_set]; simp [hid]) ho
        rw [List.set_set] at hw3
        refine ⟨_, _, _, _, _, hrun, Gh.le_add G b n, hw3, ?_, hr⟩
        have hobj : (G.add b n).obj[σ.length]? = some (b, n) := by simp only [Gh.add]; rw [← hw.len]; simp
        have := Rep.mvec (G := G.add b n) σ.length 0 (len + cont.len) sz cap b n hobj hroom (by simpa using hfitc)
        simpa using this
      · -- a new array
        have hold : ∀ w', w'.heap = w.heap → (Builtin.firstCells sz len (.slice (some ⟨b, 0, none⟩) len cap)).run P w' = .ok (arr.toList.take cs.length).toArray w' := by
          intro w' hh
          refine run_firstCells_some w' sz len ⟨b, 0, none⟩ len cap _ (by rw [← p7.length, hcl]) fun j v hj => ?_
          rw [add_lit, Nat.zero_add, cell_of_row w' b j arr ty' (0, 0) (by rw [hh]; exact p2)]
          rw [List.getElem?_take] at hj
          split at hj
          · simpa using hj
          · cases hj
        obtain ⟨c, w', G', g1, g2, g3, g4⟩ := append_grows (ty := ty) (cs := cs) (ds := cont.cells) hse ht' hd' hw (hlen w) (some ⟨b, 0, none⟩) len cap q3 hold q1 q2 p7 (fun v hv => p8 v (List.mem_of_mem_take hv)) (Cont.cells_length hfit) hcl (by omega) hb hap (ob := ob') hob'
        have g5 := g3.kill id
        rw [List.set_append_left _ _ hid] at g5
        exact ⟨c, w', _, _, G', g1, g2, g5, g4, hr⟩
    -- the cases
    have objvec : ∀ {id : Nat} {sz1 : Nat} {rs : List (List AV)}, σ[id]? = some (.vecR sz1 rs) → ∀ r ∈ rs, r.length = sz1 := by
      intro id sz1 rs ho
      obtain ⟨_, _, _, _, cs0, q, _⟩ := hw.objs id _ ho
      simp only [AObj.cells] at q
      split at q
      · assumption
      · cases q
    split at h
    · cases hx; exact idle rfl rfl trivial (Nat.le_refl _) .nils h
    · cases hx; exact idle rfl rfl trivial (Nat.le_refl _) (.emp _) h
    · rename_i k l
      obtain ⟨hs1, h1, h2⟩ := h
      cases hx
      by_cases hl : l = []
      · subst hl; exact idle rfl rfl hs1 (Nat.le_refl _) .nils (h1 rfl)
      · obtain ⟨h3, h4⟩ := h2 hl
        have h0 : l.length ≠ 0 := fun e => hl (List.eq_nil_of_length_eq_zero e)
        exact fresh (ob := .vecI k l) rfl h0 hs1 h3 rfl (by subst hs1; exact h4)
    · rename_i k l
      obtain ⟨hs1, h1, h2⟩ := h
      cases hx
      by_cases hl : l = []
      · subst hl; exact idle rfl rfl hs1 (Nat.le_refl _) (.emp _) (h1 rfl)
      · obtain ⟨h3, h4⟩ := h2 hl
        have h0 : l.length ≠ 0 := fun e => hl (List.eq_nil_of_length_eq_zero e)
        exact fresh (ob := .vecI k l) rfl h0 hs1 h3 rfl (by subst hs1; exact h4)
    · rename_i sz' rs
      obtain ⟨hs1, hs2, h1, h2⟩ := h
      cases hx
      by_cases hl : rs = []
      · subst hl; exact idle rfl rfl ⟨hs1, hs2⟩ (Nat.le_refl _) .nils (h1 rfl)
      · obtain ⟨h3, h4⟩ := h2 hl
        have h0 : rs.length ≠ 0 := fun e => hl (List.eq_nil_of_length_eq_zero e)
        exact fresh (ob := .vecR sz rs) rfl h0 ⟨hs1, hs2⟩ h3 (by simp only [AObj.cells]; rw [if_pos hs2]; rfl) h4
    · rename_i sz' rs
      obtain ⟨hs1, hs2, h1, h2⟩ := h
      cases hx
      by_cases hl : rs = []
      · subst hl; exact idle rfl rfl ⟨hs1, hs2⟩ (Nat.le_refl _) (.emp _) (h1 rfl)
      · obtain ⟨h3, h4⟩ := h2 hl
        have h0 : rs.length ≠ 0 := fun e => hl (List.eq_nil_of_length_eq_zero e)
        exact fresh (ob := .vecR sz rs) rfl h0 ⟨hs1, hs2⟩ h3 (by simp only [AObj.cells]; rw [if_pos hs2]; rfl) h4
    · rename_i id len sz' cont'
      have hxx := hx
      split at h
      · cases hx with
        | mvec _ _ _ _ cap b n ho hcap hfitc => exact idle rfl rfl trivial hcap hxx h
      · rename_i k l k' l' ho'
        obtain ⟨rfl, hs1, hs2, hl1, h1, h2⟩ := h
        subst hs1; subst hs2; subst hl1
        by_cases hl : l' = []
        · subst hl
          cases hx with
          | mvec _ _ _ _ cap b n ho hcap hfitc => exact idle rfl rfl rfl hcap hxx (h1 rfl)
        · obtain ⟨h3, h4⟩ := h2 hl
          have h0 : l'.length ≠ 0 := fun e => hl (List.eq_nil_of_length_eq_zero e)
          exact onto (ob' := .vecI k (l ++ l')) rfl ho' rfl rfl (by simp) h0 rfl h3 (by simp [AObj.cells, Cont.cells]) h4
      · rename_i sz1 rs sz2 rs' ho'
        obtain ⟨rfl, rfl, rfl, hl1, hs3, h1, h2⟩ := h
        subst hl1
        have hall := objvec ho'
        by_cases hl : rs' = []
        · subst hl
          cases hx with
          | mvec _ _ _ _ cap b n ho hcap hfitc => exact idle rfl rfl ⟨rfl, hs3⟩ hcap hxx (h1 rfl)
        · obtain ⟨h3, h4⟩ := h2 hl
          have h0 : rs'.length ≠ 0 := fun e => hl (List.eq_nil_of_length_eq_zero e)
          refine onto (ob' := .vecR sz (rs ++ rs')) rfl ho' rfl (cs := rs.flatten) (by simp only [AObj.cells]; rw [if_pos hall]) (Cont.cells_length (c := .R sz rs) ⟨rfl, hall⟩) h0 ⟨rfl, hs3⟩ h3 ?_ h4
          simp only [AObj.cells, Cont.cells]
          rw [if_pos (fun r hr => by rcases List.mem_append.1 hr with hr | hr <;> first | exact hall r hr | exact hs3 r hr), List.flatten_append]
      · exact h.elim
    · exact h.elim
  · exact h.elim
end

end Go.Pa
