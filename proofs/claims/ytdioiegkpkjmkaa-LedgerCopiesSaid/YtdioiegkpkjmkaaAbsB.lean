/-
  append; soundness. Loads, stores, new variables, make; one operation. One operation: what is asked; soundness. Code: what is asked; soundness. Calls. The steps of the reckoning, as equations. What a call hands back is frozen; what is handed to a call is lent. Fresh slices; arguments that are lent. Regions that draw their order: one walk in the order of the text, with what every operation yields named, serves every order that the edges allow. Regions that draw their order: the walk in the order of the text serves every order.
-/
import Derived.Test.YtdioiegkpkjmkaaAbsM
import Derived.Deep.LoopGhost
import Derived.RangeFuncWrites
import Derived.RangeFuncLeaves
/-! append; soundness. -/
namespace Go.Pa
set_option linter.unusedSectionVars false
variable [GTab]
variable {P : Program} {G : Gh}

/-- An object takes another number. -/
theorem WRel.move {σ : Store} {w : World} (hw : WRel G σ w) {id : Nat} {ob : AObj} (ho : σ[id]? = some ob) {b n : Nat} (h2 : G.obj[id]? = some (b, n)) : WRel (G.add b n) (σ.set id .dead ++ [ob]) w := by
  have hg := Gh.le_add G b n
  have hid : id < σ.length := (List.getElem?_eq_some_iff.1 ho).1
  have slast : ∀ (i : Nat) (x : AObj), (σ.set id .dead ++ [ob])[i]? = some x → x.live = true → (i < σ.length ∧ i ≠ id ∧ σ[i]? = some x) ∨ (i = σ.length ∧ x = ob) := by
    intro i x h hx
    rcases Nat.lt_or_ge i σ.length with hi | hi
    · rw [List.getElem?_append_left (by simpa using hi), List.getElem?_set] at h
      split at h
      · first
          | (cases h; cases hx)
          | (rw [if_pos hid] at h; cases h; cases hx)
      · rename_i e; exact .inl ⟨hi, fun e' => e e'.symm, h⟩
    · rw [List.getElem?_append_right (by simpa using hi), List.length_set] at h
      have : i - σ.length = 0 := by
        rcases Nat.eq_zero_or_pos (i - σ.length) with h0 | h0
        · exact h0
        · rw [List.getElem?_eq_none (by simp; omega)] at h; cases h
      rw [this] at h; simp at h
      exact .inr ⟨by omega, h.symm⟩
  have glast : ∀ (i : Nat) x, (G.obj ++ [(b, n)])[i]? = some x → (i < G.obj.length ∧ G.obj[i]? = some x) ∨ (i = G.obj.length ∧ x = (b, n)) := by
    intro i x h
    rcases Nat.lt_or_ge i G.obj.length with hi | hi
    · rw [List.getElem?_append_left hi] at h; exact .inl ⟨hi, h⟩
    · rw [List.getElem?_append_right hi] at h
      have : i - G.obj.length = 0 := by
        rcases Nat.eq_zero_or_pos (i - G.obj.length) with h0 | h0
        · exact h0
        · rw [List.getElem?_eq_none (by simp; omega)] at h; cases h
      rw [this] at h; simp at h
      exact .inr ⟨by omega, h.symm⟩
  have hlen := hw.len
  -- every live object of the new store was one of the old: its number there
  have old : ∀ (i : Nat) (x : AObj) bi, (σ.set id .dead ++ [ob])[i]? = some x → x.live = true → (G.obj ++ [(b, n)])[i]? = some bi →
      ∃ j, σ[j]? = some x ∧ G.obj[j]? = some bi ∧ ((i < σ.length ∧ j = i ∧ i ≠ id) ∨ (i = σ.length ∧ j = id)) := by
    intro i x bi h hx hb
    rcases slast i x h hx with ⟨hi, hne, h⟩ | ⟨hi, rfl⟩
    · rcases glast i bi hb with ⟨_, hb⟩ | ⟨hi', _⟩
      · exact ⟨i, h, hb, .inl ⟨hi, rfl, hne⟩⟩
      · omega
    · rcases glast i bi hb with ⟨hi', _⟩ | ⟨_, rfl⟩
      · omega
      · exact ⟨id, ho, h2, .inr ⟨hi, rfl⟩⟩
  refine ⟨by simp [Gh.add, hw.len], hw.imm, fun i x hx => ?_, fun i j oi oj bi bj a1 a2 a3 a4 a5 a6 a7 => ?_, hw.frame, hw.sz, hw.os, hw.tape, hw.output, hw.marks, hw.grew, hw.globs⟩
  · cases hl : x.live with
    | false => cases x <;> first | trivial | cases hl
    | true =>
      rcases slast i x hx hl with ⟨hi, hne, h⟩ | ⟨hi, rfl⟩
      · exact objRel_mono hg (hw.objs i x h) (fun _ _ _ => rfl) (fun _ _ _ _ h0 => h0)
      · subst hi
        have h := hw.objs id x ho
        have hn : (G.add b n).obj[σ.length]? = some (b, n) := by simp only [Gh.add]; rw [← hlen]; simp
        cases hc : x.cells with
        | some cs =>
          obtain ⟨b', n', arr, ty, q1, q2, q3, q4, q5, q6, q7, q8⟩ := h.get hc
          rw [h2] at q1; cases q1
          exact objRel_mk hc hn q2 q3 q5 q6 _ (q7.mono hg) (fun i c hcc => by
            rw [List.getElem?_take] at hcc
            split at hcc
            · simpa using hcc
            · cases hcc) q8
        | none =>
          cases x with
          | dead => cases hl
          | box _ => cases hc
          | vecI _ _ => cases hc
          | vecR _ _ =>
            obtain ⟨_, _, _, _, cs, q, _⟩ := h
            rw [hc] at q; cases q
          | mp kv =>
            obtain ⟨b', n', es, clock, q1, q2, q3, q4, q4m, q5, q6⟩ := h
            rw [h2] at q1; cases q1
            exact ⟨b, n, es, clock, hn, q2, q3, q4, q4m, q5, q6.to fun _ _ _ h => h.mono hg⟩
  · obtain ⟨i', p1, p2, p3⟩ := old i oi bi a1 a3 a5
    obtain ⟨j', q1, q2, q3⟩ := old j oj bj a2 a4 a6
    have := hw.inj i' j' oi oj bi bj p1 q1 a3 a4 p2 q2 a7
    omega

def appFits (P : Program) (e : TypeId) (n : Nat) : Prop := n * P.bytesOf e ≤ 140737488355328

/-- What is asked of an append. -/
def vcAppend (P : Program) (t : TypeId) (x y : AV) (s : Store) (R : AV → Store → Prop) : Prop :=
  match sliceElem P t, contA s y with
  | some (e, sz), some c =>
    P.bytesOf e ≠ 0 ∧
    match x, c with
    | .nils, .E => R .nils s
    | .emp, .E => R .emp s
    | .nils, .I k l => sz = 1 ∧ (l = [] → R .nils s) ∧ (l ≠ [] → appFits P e l.length ∧ R (.mvec s.length 0 l.length 1) (s ++ [.vecI k l]))
    | .emp, .I k l => sz = 1 ∧ (l = [] → R .emp s) ∧ (l ≠ [] → appFits P e l.length ∧ R (.mvec s.length 0 l.length 1) (s ++ [.vecI k l]))
    | .nils, .R sz' rs => sz = sz' ∧ (∀ r ∈ rs, r.length = sz) ∧ (rs = [] → R .nils s) ∧ (rs ≠ [] → appFits P e rs.length ∧ R (.mvec s.length 0 rs.length sz) (s ++ [.vecR sz rs]))
    | .emp, .R sz' rs => sz = sz' ∧ (∀ r ∈ rs, r.length = sz) ∧ (rs = [] → R .emp s) ∧ (rs ≠ [] → appFits P e rs.length ∧ R (.mvec s.length 0 rs.length sz) (s ++ [.vecR sz rs]))
    | .mvec id 0 len sz', c =>
      match s[id]?, c with
      | some _, .E => R (.mvec id 0 len sz') s
      | some (.vecI k l), .I k' l' => k = k' ∧ sz = 1 ∧ sz' = 1 ∧ len = l.length ∧ (l' = [] → R (.mvec id 0 len sz') s) ∧
          (l' ≠ [] → appFits P e (l.length + l'.length) ∧ R (.mvec s.length 0 (l.length + l'.length) 1) (s.set id .dead ++ [.vecI k (l ++ l')]))
      | some (.vecR sz1 rs), .R sz2 rs' => sz = sz1 ∧ sz = sz2 ∧ sz = sz' ∧ len = rs.length ∧ (∀ r ∈ rs', r.length = sz) ∧ (rs' = [] → R (.mvec id 0 len sz') s) ∧
          (rs' ≠ [] → appFits P e (rs.length + rs'.length) ∧ R (.mvec s.length 0 (rs.length + rs'.length) sz) (s.set id .dead ++ [.vecR sz (rs ++ rs')]))
      | _, _ => False
    | _, _ => False
  | _, _ => False

section
variable {t t' ty e : TypeId} {sz : Nat}

/-- append, where there is room. -/
theorem run_append_fit (hse : sliceElem P t = some (e, sz)) {d' : TypeDesc} (ht' : P.underlying t' = some d') (hd' : (∀ k, d' ≠ .int k)) {u : Value} {n : Nat} {news : List Value} {w : World}
    (hlen : (Builtin.lenOf u).run P w = .ok n w) (hf : (Builtin.firstCells sz n u).run P w = .ok news.toArray w) (base : Option Addr) (sLen sCap : Nat) (hc : sLen + n ≤ sCap) {w' : World}
    (hst : ∀ a, base = some a → (storeCells (a.add (sLen * sz)) news).run P w = .ok () w') (hn : base = none → w' = w) :
    (Builtin.append_ #[t, t'] ty #[.slice base sLen sCap, u]).run P w = .ok (.slice base (sLen + n) sCap) w' := by
  obtain ⟨hu, hcs, hpos⟩ := sliceElem_spec hse
  have hps : 0 < P.cellsOf e := by omega
  unfold Builtin.append_
  simp only [List.getElem?_toArray, List.getElem?_cons_zero, List.getElem?_cons_succ, Sem.run_bind, run_underlying hu, Result.andThen_ok, run_sizeOf hps, hcs, run_underlying ht', Sem.run_pure, Bool.false_eq_true, if_false, hlen, hc, if_true, Bool.not_false, hf, Sem.run_ite]
  cases base with
  | none => simp [hn rfl]
  | some a => simp [hst a rfl]

/-- append, where a new array is made. -/
theorem run_append_more (hse : sliceElem P t = some (e, sz)) {d' : TypeDesc} (ht' : P.underlying t' = some d') (hd' : (∀ k, d' ≠ .int k)) {it : TypeInfo} {zv : Value} (hit : P.info? e = some it) (hzv : it.zero = some zv) {u : Value} {n : Nat} {news olds : List Value} {w : World}
    (hlen : (Builtin.lenOf u).run P w = .ok n w) (base : Option Addr) (sLen sCap : Nat) (hf : (Builtin.firstCells sz n u).run P w.drew = .ok news.toArray w.drew)
    (ho : (Builtin.firstCells sz sLen (.slice base sLen sCap)).run P w.drew = .ok olds.toArray w.drew)
    (hc : sCap < sLen + n) (hb : P.bytesOf e ≠ 0) (hfit : (sLen + n) * P.bytesOf e ≤ 140737488355328) :
    (Builtin.append_ #[t, t'] ty #[.slice base sLen sCap, u]).run P w = .ok (.slice (some ⟨w.heap.size, 0, none⟩) (sLen + n) (grownCap w (sLen + n) sCap e))
      (w.drew.alloc (.cells (olds.toArray ++ news.toArray ++ Builtin.zeroCells zv.cells (grownCap w (sLen + n) sCap e - (sLen + n))) e)) := by
  obtain ⟨hu, hcs, hpos⟩ := sliceElem_spec hse
  have hps : 0 < P.cellsOf e := by omega
  have hby : P.bytesOf e = it.bytes := by simp [Program.bytesOf, hit]
  have h1 : ¬ (sLen + n ≤ sCap) := by omega
  have h2 : sLen + n ≤ 140737488355328 := Nat.le_trans (Nat.le_mul_of_pos_right _ (by omega)) hfit
  have h4 : ¬ (Builtin.nextslicecap (sLen + n) sCap * it.bytes > 2 ^ 48) := by
    have := growslice_fits (need := sLen + n) (old := sCap) (bytes := it.bytes) hc (by rw [← hby]; exact hfit)
    omega
  unfold Builtin.append_
  simp only [List.getElem?_toArray, List.getElem?_cons_zero, List.getElem?_cons_succ, Sem.run_bind, run_underlying hu, Result.andThen_ok, run_sizeOf hps, hcs, run_underlying ht', Sem.run_pure, Bool.false_eq_true, if_false, hlen, h1, Sem.run_ite, typeInfo, run_program, hit, h4,
    run_choose_drew, Question.forced, run_askRoom, ho, Bool.not_false, if_true, hf, zeroValue, hzv, newRow, run_newObj_alloc]
  rw [if_neg (by rintro ⟨_, h | h⟩ <;> omega)]
  rfl

/-- A new array: the object that comes of it. -/
theorem append_grows (hse : sliceElem P t = some (e, sz)) {d' : TypeDesc} (ht' : P.underlying t' = some d') (hd' : (∀ k, d' ≠ .int k)) {σ : Store} {w : World} (hw : WRel G σ w) {u : Value} {n : Nat} {news olds : List Value} {cs ds : List AV}
    (hlen : (Builtin.lenOf u).run P w = .ok n w) (base : Option Addr) (sLen sCap : Nat) (hf : ∀ w', w'.heap = w.heap → (Builtin.firstCells sz n u).run P w' = .ok news.toArray w')
    (ho : ∀ w', w'.heap = w.heap → (Builtin.firstCells sz sLen (.slice base sLen sCap)).run P w' = .ok olds.toArray w')
    (hn : RepL G ds news) (hn1 : ∀ v ∈ news, v.oneCell' = true) (hol : RepL G cs olds) (ho1 : ∀ v ∈ olds, v.oneCell' = true) (hln : ds.length = n * sz) (hlo : cs.length = sLen * sz)
    (hc : sCap < sLen + n) (hb : P.bytesOf e ≠ 0) (hfit : appFits P e (sLen + n)) {ob : AObj} (hob : ob.cells = some (cs ++ ds)) :
    ∃ c w' G', (Builtin.append_ #[t, t'] ty #[.slice base sLen sCap, u]).run P w = .ok c w' ∧ G.le G' ∧ WRel G' (σ ++ [ob]) w' ∧ Rep G' (.mvec σ.length 0 (sLen + n) sz) c := by
  obtain ⟨hu, hcs, hpos, it, zv, hit, hzv, hisz, hzs, hz1⟩ := sliceElem_zero hse
  have hrun := run_append_more (ty := ty) hse ht' hd' hit hzv hlen base sLen sCap (hf w.drew rfl) (ho w.drew rfl) hc hb hfit
  have hcap : sLen + n ≤ grownCap w (sLen + n) sCap e := grownCap_ge w _ _ _
  have hsize : (olds.toArray ++ news.toArray ++ Builtin.zeroCells zv.cells (grownCap w (sLen + n) sCap e - (sLen + n))).size = grownCap w (sLen + n) sCap e * sz := by
    simp only [Array.size_append, List.size_toArray, size_zeroCells, hzs, ← hol.length, ← hn.length, hln, hlo, ← Nat.add_mul]
    congr 1; omega
  refine ⟨_, _, _, hrun, Gh.le_add G _ _, hw.push (w1 := w.drew) rfl rfl rfl rfl hob (olds ++ news) (hol.append hn) (fun i c hcc => ?_) (fun c hcc => ?_), ?_⟩
  · rw [Array.getElem?_append_left]
    · simpa using hcc
    · have := (List.getElem?_eq_some_iff.1 hcc).1
      simpa using this
  · simp only [Array.toList_append, List.mem_append] at hcc
    rcases hcc with (hcc | hcc) | hcc
    · exact ho1 c hcc
    · exact hn1 c hcc
    · unfold Builtin.zeroCells at hcc
      simp only [Array.toList_map, List.mem_map] at hcc
      obtain ⟨i, hi, rfl⟩ := hcc
      have hlt : i % zv.cells.size < zv.cells.size := Nat.mod_lt _ (by omega)
      rw [getElem!_pos zv.cells _ hlt]
      exact hz1 _ (Array.getElem_mem_toList hlt)
  · have hobj : (G.add w.heap.size (grownCap w (sLen + n) sCap e * sz)).obj[σ.length]? = some (w.heap.size, grownCap w (sLen + n) sCap e * sz) := by
      simp only [Gh.add]; rw [← hw.len]; simp
    rw [hsize]
    have := Rep.mvec (G := G.add w.heap.size (grownCap w (sLen + n) sCap e * sz)) σ.length 0 (sLen + n) sz _ _ _ hobj hcap (by simp)
    simpa using this

theorem append_sound {x y : AV} {σ : Store} {R : AV → Store → Prop} (h : vcAppend P t x y σ R) {d' : TypeDesc} (ht' : P.underlying t' = some d') (hd' : (∀ k, d' ≠ .int k)) {ux uy : Value} (hx : Rep G x ux) (hy : Rep G y uy) {w : World} (hw : WRel G σ w) :
    ∃ c w' v σ' G', (Builtin.append_ #[t, t'] ty #[ux, uy]).run P w = .ok c w' ∧ G.le G' ∧ WRel G' σ' w' ∧ Rep G' v c ∧ R v σ' := by
  unfold vcAppend at h
  split at h
  · rename_i e sz cont hse hcont
    obtain ⟨hb, h⟩ := h
    have hpos := (sliceElem_spec hse).2.2
    -- nothing is added
    have idle : ∀ {sLen sCap : Nat} {base : Option Addr} {v : AV}, ux = .slice base sLen sCap → cont.len = 0 → cont.fits sz → sLen ≤ sCap → Rep G v ux → R v σ →
        ∃ c w' v σ' G', (Builtin.append_ #[t, t'] ty #[ux, uy]).run P w = .ok c w' ∧ G.le G' ∧ WRel G' σ' w' ∧ Rep G' v c ∧ R v σ' := by
      intro sLen sCap base v hux h0 hfit hle hv hr
      obtain ⟨hlen, vs, q1, q2, q3⟩ := cont_read (P := P) hw hy hcont hfit
      have hvs : vs = [] := by
        have := q1.length; rw [Cont.cells_length hfit, h0] at this
        exact List.eq_nil_of_length_eq_zero (by simpa using this.symm)
      subst hvs
      rw [h0] at hlen q3
      refine ⟨ux, w, v, σ, G, ?_, .refl G, hw, hv, hr⟩
      rw [hux]
      exact run_append_fit (ty := ty) hse ht' hd' (hlen w) (q3 w rfl) base sLen sCap (by omega) (w' := w) (fun a _ => rfl) (fun _ => rfl)
    -- a new array out of nothing
    have fresh : ∀ {base : Option Addr} {ob : AObj}, ux = .slice base 0 0 → cont.len ≠ 0 → cont.fits sz → appFits P e cont.len → ob.cells = some cont.cells → R (.mvec σ.length 0 cont.len sz) (σ ++ [ob]) →
        ∃ c w' v σ' G', (Builtin.append_ #[t, t'] ty #[ux, uy]).run P w = .ok c w' ∧ G.le G' ∧ WRel G' σ' w' ∧ Rep G' v c ∧ R v σ' := by
      intro base ob hux h0 hfit hap hob hr
      obtain ⟨hlen, vs, q1, q2, q3⟩ := cont_read (P := P) hw hy hcont hfit
      have hold : ∀ w', w'.heap = w.heap → (Builtin.firstCells sz 0 (.slice base 0 0)).run P w' = .ok ([] : List Value).toArray w' := by
        intro w' _
        cases base with
        | none => simp [Builtin.firstCells]
        | some a => exact run_firstCells_some w' sz 0 a 0 0 [] (by simp) (by simp)
      obtain ⟨c, w', G', g1, g2, g3, g4⟩ := append_grows (ty := ty) (cs := []) (ds := cont.cells) hse ht' hd' hw (hlen w) base 0 0 q3 hold q1 q2 .nil (by simp) (Cont.cells_length hfit) (by simp) (by omega) hb (by simpa using hap) (ob := ob) (by simpa using hob)
      rw [Nat.zero_add] at g4
      exact ⟨c, w', _, _, G', by rw [hux]; exact g1, g2, g3, g4, hr⟩
    -- onto an object
    have onto : ∀ {id len : Nat} {ob ob' : AObj} {cs : List AV}, x = .mvec id 0 len sz → σ[id]? = some ob → ob.live = true → ob.cells = some cs → cs.length = len * sz → cont.len ≠ 0 → cont.fits sz → appFits P e (len + cont.len) →
        ob'.cells = some (cs ++ cont.cells) → R (.mvec σ.length 0 (len + cont.len) sz) (σ.set id .dead ++ [ob']) →
        ∃ c w' v σ' G', (Builtin.append_ #[t, t'] ty #[ux, uy]).run P w = .ok c w' ∧ G.le G' ∧ WRel G' σ' w' ∧ Rep G' v c ∧ R v σ' := by
      intro id len ob ob' cs hxe hob hlive hcs hcl h0 hfit hap hob' hr
      obtain ⟨hlen, vs, q1, q2, q3⟩ := cont_read (P := P) hw hy hcont hfit
      subst hxe
      cases hx with
      | mvec _ _ _ _ cap b n ho hcap hfitc =>
      simp only [Nat.zero_mul, Nat.zero_add] at hfitc ⊢
      have hid : id < σ.length := (List.getElem?_eq_some_iff.1 hob).1
      obtain ⟨b', n', arr, ty', p1, p2, p3, p4, p5, p6, p7, p8⟩ := (hw.objs id ob hob).get hcs
      rw [ho] at p1; cases p1
      have hvl : vs.length = cont.len * sz := by rw [← q1.length, Cont.cells_length hfit]
      by_cases hroom : len + cont.len ≤ cap
      · -- in place
        have hsz : len * sz + vs.length ≤ arr.size := by
          rw [hvl, ← Nat.add_mul, p3]
          exact Nat.le_trans (Nat.mul_le_mul_right _ hroom) hfitc
        have hst := run_storeCells_at P b (len * sz) ty' vs 0 arr w p2 (by simpa using hsz) q2
        simp only [Nat.add_zero] at hst
        have hrun := run_append_fit (ty := ty) hse ht' hd' (hlen w) (q3 w rfl) (some ⟨b, 0, none⟩) len cap hroom (w' := w.setRow b (arr.toList.take (len * sz) ++ vs ++ arr.toList.drop (len * sz + vs.length)).toArray)
          (fun a ha => by cases ha; rw [add_lit, Nat.zero_add]; exact hst) (fun h => by cases h)
        have hold : (arr.toList.take cs.length).length = len * sz := by rw [← p7.length, hcl]
        have hw2 := hw.write (ob' := ob') hob hlive ho p2 (arr' := (arr.toList.take (len * sz) ++ vs ++ arr.toList.drop (len * sz + vs.length)).toArray) (by
            simp only [List.size_toArray, List.length_append, List.length_take, List.length_drop, Array.length_toList]; omega) hob' (arr.toList.take (len * sz) ++ vs) ((by rw [← hcl]; exact p7 : RepL G cs (arr.toList.take (len * sz))).append q1)
          (fun i c hcc => by
            rw [List.getElem?_toArray, List.getElem?_append_left (List.getElem?_eq_some_iff.1 hcc).1]; exact hcc)
          (fun c hcc => by
            simp only [List.mem_append] at hcc
            rcases hcc with (hcc | hcc) | hcc
            · exact p8 c (List.mem_of_mem_take hcc)
            · exact q2 c hcc
            · exact p8 c (List.mem_of_mem_drop hcc))
        have hw3 := hw2.move (id := id) (ob := ob') (by rw [List.getElem?_set]; simp [hid]) ho
        rw [List.set_set] at hw3
        refine ⟨_, _, _, _, _, hrun, Gh.le_add G b n, hw3, ?_, hr⟩
        have hobj : (G.add b n).obj[σ.length]? = some (b, n) := by simp only [Gh.add]; rw [← hw.len]; simp
        have := Rep.mvec (G := G.add b n) σ.length 0 (len + cont.len) sz cap b n hobj hroom (by simpa using hfitc)
        simpa using this
      · -- a new array
        have hold : ∀ w', w'.heap = w.heap → (Builtin.firstCells sz len (.slice (some ⟨b, 0, none⟩) len cap)).run P w' = .ok (arr.toList.take cs.length).toArray w' := by
          intro w' hh
          refine run_firstCells_some w' sz len ⟨b, 0, none⟩ len cap _ (by rw [← p7.length, hcl]) fun j v hj => ?_
          rw [add_lit, Nat.zero_add, cell_of_row w' b j arr ty' (0, 0) (by rw [hh]; exact p2)]
          rw [List.getElem?_take] at hj
          split at hj
          · simpa using hj
          · cases hj
        obtain ⟨c, w', G', g1, g2, g3, g4⟩ := append_grows (ty := ty) (cs := cs) (ds := cont.cells) hse ht' hd' hw (hlen w) (some ⟨b, 0, none⟩) len cap q3 hold q1 q2 p7 (fun v hv => p8 v (List.mem_of_mem_take hv)) (Cont.cells_length hfit) hcl (by omega) hb hap (ob := ob') hob'
        have g5 := g3.kill id
        rw [List.set_append_left _ _ hid] at g5
        exact ⟨c, w', _, _, G', g1, g2, g5, g4, hr⟩
    -- the cases
    have objvec : ∀ {id : Nat} {sz1 : Nat} {rs : List (List AV)}, σ[id]? = some (.vecR sz1 rs) → ∀ r ∈ rs, r.length = sz1 := by
      intro id sz1 rs ho
      obtain ⟨_, _, _, _, cs0, q, _⟩ := hw.objs id _ ho
      simp only [AObj.cells] at q
      split at q
      · assumption
      · cases q
    split at h
    · cases hx; exact idle rfl rfl trivial (Nat.le_refl _) .nils h
    · cases hx; exact idle rfl rfl trivial (Nat.le_refl _) (.emp _) h
    · rename_i k l
      obtain ⟨hs1, h1, h2⟩ := h
      cases hx
      by_cases hl : l = []
      · subst hl; exact idle rfl rfl hs1 (Nat.le_refl _) .nils (h1 rfl)
      · obtain ⟨h3, h4⟩ := h2 hl
        have h0 : l.length ≠ 0 := fun e => hl (List.eq_nil_of_length_eq_zero e)
        exact fresh (ob := .vecI k l) rfl h0 hs1 h3 rfl (by subst hs1; exact h4)
    · rename_i k l
      obtain ⟨hs1, h1, h2⟩ := h
      cases hx
      by_cases hl : l = []
      · subst hl; exact idle rfl rfl hs1 (Nat.le_refl _) (.emp _) (h1 rfl)
      · obtain ⟨h3, h4⟩ := h2 hl
        have h0 : l.length ≠ 0 := fun e => hl (List.eq_nil_of_length_eq_zero e)
        exact fresh (ob := .vecI k l) rfl h0 hs1 h3 rfl (by subst hs1; exact h4)
    · rename_i sz' rs
      obtain ⟨hs1, hs2, h1, h2⟩ := h
      cases hx
      by_cases hl : rs = []
      · subst hl; exact idle rfl rfl ⟨hs1, hs2⟩ (Nat.le_refl _) .nils (h1 rfl)
      · obtain ⟨h3, h4⟩ := h2 hl
        have h0 : rs.length ≠ 0 := fun e => hl (List.eq_nil_of_length_eq_zero e)
        exact fresh (ob := .vecR sz rs) rfl h0 ⟨hs1, hs2⟩ h3 (by simp only [AObj.cells]; rw [if_pos hs2]; rfl) h4
    · rename_i sz' rs
      obtain ⟨hs1, hs2, h1, h2⟩ := h
      cases hx
      by_cases hl : rs = []
      · subst hl; exact idle rfl rfl ⟨hs1, hs2⟩ (Nat.le_refl _) (.emp _) (h1 rfl)
      · obtain ⟨h3, h4⟩ := h2 hl
        have h0 : rs.length ≠ 0 := fun e => hl (List.eq_nil_of_length_eq_zero e)
        exact fresh (ob := .vecR sz rs) rfl h0 ⟨hs1, hs2⟩ h3 (by simp only [AObj.cells]; rw [if_pos hs2]; rfl) h4
    · rename_i id len sz' cont'
      have hxx := hx
      split at h
      · cases hx with
        | mvec _ _ _ _ cap b n ho hcap hfitc => exact idle rfl rfl trivial hcap hxx h
      · rename_i k l k' l' ho'
        obtain ⟨rfl, hs1, hs2, hl1, h1, h2⟩ := h
        subst hs1; subst hs2; subst hl1
        by_cases hl : l' = []
        · subst hl
          cases hx with
          | mvec _ _ _ _ cap b n ho hcap hfitc => exact idle rfl rfl rfl hcap hxx (h1 rfl)
        · obtain ⟨h3, h4⟩ := h2 hl
          have h0 : l'.length ≠ 0 := fun e => hl (List.eq_nil_of_length_eq_zero e)
          exact onto (ob' := .vecI k (l ++ l')) rfl ho' rfl rfl (by simp) h0 rfl h3 (by simp [AObj.cells, Cont.cells]) h4
      · rename_i sz1 rs sz2 rs' ho'
        obtain ⟨rfl, rfl, rfl, hl1, hs3, h1, h2⟩ := h
        subst hl1
        have hall := objvec ho'
        by_cases hl : rs' = []
        · subst hl
          cases hx with
          | mvec _ _ _ _ cap b n ho hcap hfitc => exact idle rfl rfl ⟨rfl, hs3⟩ hcap hxx (h1 rfl)
        · obtain ⟨h3, h4⟩ := h2 hl
          have h0 : rs'.length ≠ 0 := fun e => hl (List.eq_nil_of_length_eq_zero e)
          refine onto (ob' := .vecR sz (rs ++ rs')) rfl ho' rfl (cs := rs.flatten) (by simp only [AObj.cells]; rw [if_pos hall]) (Cont.cells_length (c := .R sz rs) ⟨rfl, hall⟩) h0 ⟨rfl, hs3⟩ h3 ?_ h4
          simp only [AObj.cells, Cont.cells]
          rw [if_pos (fun r hr => by rcases List.mem_append.1 hr with hr | hr <;> first | exact hall r hr | exact hs3 r hr), List.flatten_append]
      · exact h.elim
    · exact h.elim
  · exact h.elim
end

end Go.Pa

/-! Loads, stores, new variables, make; one operation. -/
namespace Go.Pa
set_option linter.unusedSectionVars false
variable [GTab]
variable {P : Program} {G : Gh}

/-- A load through a pointer to an object. -/
def vcLoad (P : Program) (t : TypeId) (x : AV) (s : Store) (R : AV → Store → Prop) : Prop :=
  match x with
  | .ptr id off => match s[id]? with
    | some (.box cs) => match partA P t (cs.drop off) with
      | some v => R v s
      | none => False
    | _ => False
  | .eptr id i sz off => match s[id]? with
    | some (.vecI k l) => match partA P t [.int k (l.getD i 0)] with
      | some v => sz = 1 ∧ off = 0 ∧ i < l.length ∧ R v s
      | none => False
    | some (.vecR sz' rs) => match partA P t ((rs.getD i []).drop off) with
      | some v => sz = sz' ∧ i < rs.length ∧ R v s
      | none => False
    | _ => False
  | _ => False

theorem load_sound {t : TypeId} {x : AV} {σ : Store} {R : AV → Store → Prop} (h : vcLoad P t x σ R) {u : Value} (hx : Rep G x u) {w : World} (hw : WRel G σ w) :
    ∃ c v, (Instr.loadAt t u).run P w = .ok c w ∧ Rep G v c ∧ R v σ := by
  have main : ∀ {id b n o : Nat} {ob : AObj} {cs ds : List AV} {v : AV}, G.obj[id]? = some (b, n) → σ[id]? = some ob → ob.cells = some cs → (∀ (i : Nat) y, ds[i]? = some y → cs[o + i]? = some y) → partA P t ds = some v →
      ∃ c, (loadVar t ⟨b, o, none⟩).run P w = .ok c w ∧ Rep G v c := by
    intro id b n o ob cs ds v ho hob hc hsub hv
    obtain ⟨b', n', arr, ty, p1, p2, p3, p4, p5, p6, p7, p8⟩ := (hw.objs id ob hob).get hc
    rw [ho] at p1; cases p1
    have hl : RepL G ds (((arr.toList.take cs.length).drop o).take ds.length) := by
      refine RepL.of_get ?_ fun i y hy => ?_
      · rcases Nat.eq_zero_or_pos ds.length with h0 | h0
        · simp [h0]
        · have hlt : ds.length - 1 < ds.length := by omega
          have := (List.getElem?_eq_some_iff.1 (hsub _ _ (List.getElem?_eq_getElem hlt))).1
          have h7 := p7.length
          simp only [List.length_take, List.length_drop, Array.length_toList] at this h7 ⊢
          omega
      · obtain ⟨c, hc', hr⟩ := p7.get _ y (hsub i y hy)
        have hi : i < ds.length := (List.getElem?_eq_some_iff.1 hy).1
        exact ⟨c, by rw [List.getElem?_take, if_pos hi, List.getElem?_drop]; exact hc', hr⟩
    refine part_load hl hv fun i c hc' => ?_
    rw [cell_of_row w b _ arr ty _ p2]
    rw [List.getElem?_take] at hc'
    split at hc'
    · rw [List.getElem?_drop, List.getElem?_take] at hc'
      split at hc'
      · simpa using hc'
      · cases hc'
    · cases hc'
  have fin : ∀ {b o : Nat} {v : AV}, u = .pointer (some ⟨b, o, none⟩) → (∃ c, (loadVar t ⟨b, o, none⟩).run P w = .ok c w ∧ Rep G v c) → R v σ → ∃ c v, (Instr.loadAt t u).run P w = .ok c w ∧ Rep G v c ∧ R v σ := by
    rintro b o v rfl ⟨c, hc, hr⟩ hR
    exact ⟨c, v, by simp only [Instr.loadAt, Instr.sureAddr, Sem.run_bind, Sem.run_pure, Result.andThen_ok, hc], hr, hR⟩
  unfold vcLoad at h
  split at h
  · rename_i id off
    split at h
    · rename_i cs hob
      split at h
      · rename_i v hv
        cases hx with
        | ptr _ _ b n ho => exact fin rfl (main ho hob rfl (fun i y hy => by rwa [List.getElem?_drop] at hy) hv) h
      · exact h.elim
    · exact h.elim
  · rename_i id i sz off
    split at h
    · rename_i k l hob
      split at h
      · rename_i v hv
        obtain ⟨rfl, rfl, hi, hR⟩ := h
        cases hx with
        | eptr _ _ _ _ b n ho =>
          refine fin rfl (main ho hob rfl (fun j y hy => ?_) hv) hR
          cases j with
          | zero => simp at hy; subst hy; simp [hi]
          | succ j => simp at hy
      · exact h.elim
    · rename_i sz' rs hob
      split at h
      · rename_i v hv
        obtain ⟨rfl, hi, hR⟩ := h
        obtain ⟨cs0, hcs0⟩ : ∃ cs, (AObj.vecR sz rs).cells = some cs := by
          obtain ⟨_, _, _, _, cs0, q, _⟩ := hw.objs id _ hob
          exact ⟨cs0, q⟩
        have hall : ∀ r ∈ rs, r.length = sz := by
          simp only [AObj.cells] at hcs0
          split at hcs0
          · assumption
          · cases hcs0
        cases hx with
        | eptr _ _ _ _ b n ho =>
          refine fin rfl (main ho hob (cs := rs.flatten) (by simp only [AObj.cells]; rw [if_pos hall]) (fun j y hy => ?_) hv) hR
          rw [List.getElem?_drop] at hy
          rw [Nat.add_assoc]
          exact flatten_get sz rs i _ _ y hall (List.getElem?_eq_getElem hi) (by simpa [List.getD, hi] using hy)
      · exact h.elim
    · exact h.elim
  · exact h.elim

/-- A store through a pointer to an object. -/
def vcStore (P : Program) (t : TypeId) (x y : AV) (s : Store) (R : AV → Store → Prop) : Prop :=
  match x, y.cellsOf with
  | .ptr id off, some ys => match s[id]? with
    | some (.box cs) => ys.length = P.cellsOf t ∧ 0 < P.cellsOf t ∧ off + P.cellsOf t ≤ cs.length ∧ R .any (s.set id (.box (splice cs off ys)))
    | _ => False
  | .eptr id i sz off, some ys => match s[id]?, ys with
    | some (.vecI k l), [.int k' n] => k = k' ∧ sz = 1 ∧ off = 0 ∧ P.cellsOf t = 1 ∧ i < l.length ∧ R .any (s.set id (.vecI k (l.set i n)))
    | some (.vecR sz' rs), ys => sz = sz' ∧ ys.length = P.cellsOf t ∧ 0 < P.cellsOf t ∧ off + P.cellsOf t ≤ sz ∧ i < rs.length ∧ R .any (s.set id (.vecR sz (rs.set i (splice (rs.getD i []) off ys))))
    | _, _ => False
  | _, _ => False

theorem run_storeAt {t : TypeId} {v : Value} (h : v.cells.size = P.cellsOf t) (hp : 0 < P.cellsOf t) {b o : Nat} {arr : Array Value} {ty : TypeId} {w : World} (hg : w.heap[b]? = some (.cells arr ty (0, 0))) (hf : o + v.cells.size ≤ arr.size)
    (h1 : ∀ c ∈ v.cells.toList, c.oneCell' = true) : (Instr.storeAt t (.pointer (some ⟨b, o, none⟩)) v).run P w = .ok () (w.setRow b (arr.toList.take o ++ v.cells.toList ++ arr.toList.drop (o + v.cells.toList.length)).toArray) := by
  have hst := run_storeCells_at P b o ty v.cells.toList 0 arr w hg (by simpa using hf) h1
  simp only [Nat.add_zero] at hst
  have hne : ¬ (v.cells.size ≠ P.cellsOf t) := by omega
  simp only [Instr.storeAt, Instr.sureAddr, Sem.run_bind, Sem.run_pure, Result.andThen_ok, storeVar, run_sizeOf hp, hne, if_false, hst, Sem.run_ite]

theorem splice_length {cs xs : List AV} {o : Nat} (h : o + xs.length ≤ cs.length) : (splice cs o xs).length = cs.length := by
  simp only [splice, List.length_append, List.length_take, List.length_drop]; omega

theorem flatten_set {α : Type} {sz : Nat} : ∀ {rs : List (List α)} {i : Nat} (r' : List α), (∀ r ∈ rs, r.length = sz) → i < rs.length → r'.length = sz →
    (rs.set i r').flatten = rs.flatten.take (i * sz) ++ r' ++ rs.flatten.drop (i * sz + sz)
  | [], i, r', _, hi, _ => by simp at hi
  | r :: rs, 0, r', hs, _, hr => by
    have h0 : r.length = sz := hs r (by simp)
    simp only [List.set_cons_zero, List.flatten_cons, Nat.zero_mul, List.take_zero, List.nil_append, Nat.zero_add]
    rw [List.drop_left' h0]
  | r :: rs, i + 1, r', hs, hi, hr => by
    have h0 : r.length = sz := hs r (by simp)
    have ih := flatten_set (rs := rs) (i := i) r' (fun r hr => hs r (by simp [hr])) (by simpa using hi) hr
    simp only [List.set_cons_succ, List.flatten_cons]
    rw [ih]
    have e1 : (i + 1) * sz = r.length + i * sz := by rw [h0, Nat.succ_mul]; omega
    rw [e1, Nat.add_assoc, drop_app r _ _ _ rfl]
    have e2 : (r ++ rs.flatten).take (r.length + i * sz) = r ++ rs.flatten.take (i * sz) := by
      rw [List.take_append, List.take_of_length_le (by omega)]
      simp
    rw [e2]
    simp [List.append_assoc]

theorem store_sound {t : TypeId} {x y : AV} {σ : Store} {R : AV → Store → Prop} (h : vcStore P t x y σ R) {u v : Value} (hx : Rep G x u) (hy : Rep G y v) {w : World} (hw : WRel G σ w) :
    ∃ w' σ', (Instr.storeAt t u v).run P w = .ok () w' ∧ WRel G σ' w' ∧ R .any σ' := by
  unfold vcStore at h
  have one : ∀ {ys : List AV}, y.cellsOf = some ys → ys.length = P.cellsOf t → RepL G ys v.cells.toList ∧ (∀ c ∈ v.cells.toList, c.oneCell' = true) ∧ v.cells.size = P.cellsOf t := by
    intro ys hc hl
    obtain ⟨h1, h2⟩ := cellsOf_rep hy hc
    exact ⟨h1, h2, by have := h1.length; simp at this; omega⟩
  have main : ∀ {id b n o : Nat} {ob ob' : AObj} {cs ys : List AV}, G.obj[id]? = some (b, n) → σ[id]? = some ob → ob.live = true → ob.cells = some cs → y.cellsOf = some ys → ys.length = P.cellsOf t → 0 < P.cellsOf t → o + P.cellsOf t ≤ cs.length →
      ob'.cells = some (cs.take o ++ ys ++ cs.drop (o + ys.length)) → u = .pointer (some ⟨b, o, none⟩) → R .any (σ.set id ob') → ∃ w' σ', (Instr.storeAt t u v).run P w = .ok () w' ∧ WRel G σ' w' ∧ R .any σ' := by
    intro id b n o ob ob' cs ys ho hob hlive hc hys hyl hpos hfit hob' hu hR
    subst hu
    obtain ⟨b', n', arr, ty, p1, p2, p3, p4, p5, p6, p7, p8⟩ := (hw.objs id ob hob).get hc
    rw [ho] at p1; cases p1
    obtain ⟨q1, q2, q3⟩ := one hys hyl
    have hrun := run_storeAt (P := P) (t := t) (v := v) q3 hpos (b := b) (o := o) p2 (by omega) q2
    have hvl : v.cells.toList.length = ys.length := by rw [← q1.length]
    refine ⟨_, _, hrun, hw.write (ob' := ob') hob hlive ho p2 ?_ hob' ((arr.toList.take cs.length).take o ++ v.cells.toList ++ (arr.toList.take cs.length).drop (o + ys.length)) ((p7.take o |>.append q1).append (p7.drop _)) (fun i c hcc => ?_) (fun c hcc => ?_), hR⟩
    · simp only [List.size_toArray, List.length_append, List.length_take, List.length_drop, Array.length_toList] at hvl ⊢; omega
    · have e1 : (arr.toList.take cs.length).take o = arr.toList.take o := by rw [List.take_take, Nat.min_eq_left (by omega)]
      have hA : (arr.toList.take o ++ v.cells.toList).length = o + ys.length := by
        rw [List.length_append, List.length_take, hvl, Array.length_toList]; omega
      rw [e1] at hcc
      rw [List.getElem?_toArray]
      rcases Nat.lt_or_ge i (o + ys.length) with hi | hi
      · rw [List.getElem?_append_left (by omega)] at hcc ⊢; exact hcc
      · rw [List.getElem?_append_right (by omega), hA, List.getElem?_drop] at hcc ⊢
        rw [hvl]
        rw [List.getElem?_take] at hcc
        split at hcc
        · exact hcc
        · cases hcc
    · simp only [List.mem_append] at hcc
      rcases hcc with (hcc | hcc) | hcc
      · exact p8 c (List.mem_of_mem_take hcc)
      · exact q2 c hcc
      · exact p8 c (List.mem_of_mem_drop hcc)
  split at h
  · rename_i id off ys hys
    split at h
    · rename_i cs hob
      obtain ⟨h1, h2, h3, hR⟩ := h
      cases hx with
      | ptr _ _ b n ho => exact main (ob' := .box (splice cs off ys)) ho hob rfl rfl hys h1 h2 h3 rfl rfl hR
    · exact h.elim
  · rename_i id i sz off ys hys
    split at h
    · rename_i k l k' n hob
      obtain ⟨rfl, rfl, rfl, h1, hi, hR⟩ := h
      cases hx with
      | eptr _ _ _ _ b nn ho =>
        refine main (ob' := .vecI k (l.set i n)) ho hob rfl rfl hys (by simp [h1]) (by omega) (by simp; omega) ?_ rfl hR
        simp only [AObj.cells, Nat.mul_one, Nat.add_zero, List.length_singleton]
        congr 1
        rw [← List.map_take, ← List.map_drop, show [AV.int k n] = [n].map (AV.int k) from rfl, ← List.map_append, ← List.map_append]
        congr 1
        rw [List.set_eq_take_append_cons_drop, if_pos hi]
        simp
    · rename_i ys' _ _ sz' rs hob
      obtain ⟨rfl, h1, h2, h3, hi, hR⟩ := h
      obtain ⟨cs0, hcs0⟩ : ∃ cs, (AObj.vecR sz rs).cells = some cs := by
        obtain ⟨_, _, _, _, cs0, q, _⟩ := hw.objs id _ hob
        exact ⟨cs0, q⟩
      have hall : ∀ r ∈ rs, r.length = sz := by
        simp only [AObj.cells] at hcs0
        split at hcs0
        · assumption
        · cases hcs0
      have hri : (rs.getD i []) = rs[i] := by simp [List.getD, hi]
      have hrl : (rs.getD i []).length = sz := by rw [hri]; exact hall _ (List.getElem_mem hi)
      have hsl : (splice (rs.getD i []) off ys').length = sz := by rw [splice_length (by omega)]; exact hrl
      have hfl : rs.flatten.length = rs.length * sz := Cont.cells_length (c := .R sz rs) ⟨rfl, hall⟩
      have hi1 : (i + 1) * sz ≤ rs.length * sz := Nat.mul_le_mul_right _ hi
      rw [Nat.succ_mul] at hi1
      cases hx with
      | eptr _ _ _ _ b nn ho =>
        refine main (ob' := .vecR sz (rs.set i (splice (rs.getD i []) off ys'))) (cs := rs.flatten) ho hob rfl (by simp only [AObj.cells]; rw [if_pos hall]) hys h1 h2 (by omega) ?_ rfl hR
        simp only [AObj.cells]
        rw [if_pos (fun r hr => by
          rcases List.mem_or_eq_of_mem_set hr with hr | rfl
          · exact hall r hr
          · exact hsl)]
        congr 1
        rw [flatten_set _ hall hi hsl]
        -- the row itself out of the whole
        have hrow : rs.getD i [] = (rs.flatten.drop (i * sz)).take sz := by
          apply List.ext_getElem?
          intro j
          rw [List.getElem?_take]
          split
          · rename_i hj
            rw [List.getElem?_drop]
            have hj' : j < (rs.getD i []).length := by omega
            rw [List.getElem?_eq_getElem hj']
            exact (flatten_get sz rs i j _ _ hall (by rw [hri]; exact List.getElem?_eq_getElem hi) (List.getElem?_eq_getElem hj')).symm
          · rename_i hj; rw [List.getElem?_eq_none (by omega)]
        unfold splice
        rw [hrow]
        generalize rs.flatten = L at hfl ⊢
        have e1 : ((L.drop (i * sz)).take sz).take off = (L.drop (i * sz)).take off := by rw [List.take_take, Nat.min_eq_left (by omega)]
        have e2 : L.take (i * sz + off) = L.take (i * sz) ++ (L.drop (i * sz)).take off := by rw [List.take_add]
        have e3 : ((L.drop (i * sz)).take sz).drop (off + ys'.length) ++ L.drop (i * sz + sz) = L.drop (i * sz + off + ys'.length) := by
          have : L.drop (i * sz + sz) = (L.drop (i * sz)).drop sz := by rw [List.drop_drop]
          rw [this, List.drop_take]
          have h5 : (L.drop (i * sz)).drop sz = ((L.drop (i * sz)).drop (off + ys'.length)).drop (sz - (off + ys'.length)) := by rw [List.drop_drop, List.drop_drop, List.drop_drop]; congr 1; omega
          rw [h5, List.take_append_drop, List.drop_drop]
          congr 1; omega
        rw [e1, e2, ← e3]
        simp [List.append_assoc]
    · exact h.elim
  · exact h.elim

end Go.Pa

/-! One operation: what is asked; soundness. -/
namespace Go.Pa
set_option linter.unusedSectionVars false
variable [GTab]
variable {P : Program} {G : Gh}

/-- What is asked of make([]T, n, m). -/
def vcMake (P : Program) (t : TypeId) (l c : AV) (s : Store) (R : AV → Store → Prop) : Prop :=
  match sliceElem P t, l, c with
  | some (e, sz), .int _ n, .int _ m => P.bytesOf e ≠ 0 ∧ 0 ≤ n ∧ n ≤ m ∧ m * P.bytesOf e ≤ 140737488355328 ∧
    match zeroA P e with
    | some [.int k 0] => sz = 1 ∧ R (.mvec s.length 0 n.toNat 1) (s ++ [.vecI k (List.replicate n.toNat 0)])
    | some zs => R (.mvec s.length 0 n.toNat sz) (s ++ [.vecR sz (List.replicate n.toNat zs)])
    | none => False
  | _, _, _ => False

theorem zero_get (z : Array Value) (sz m : Nat) (hz : z.size = sz) : ∀ (i j : Nat) v, i < m → z[j]? = some v → ((Array.range (m * sz)).map (fun i => z[i % z.size]!))[i * sz + j]? = some v := by
  intro i j v hi hv
  have hj : j < sz := by rw [← hz]; exact (Array.getElem?_eq_some_iff.1 hv).1
  have hlt : i * sz + j < m * sz := by
    have : (i + 1) * sz ≤ m * sz := Nat.mul_le_mul_right _ hi
    rw [Nat.succ_mul] at this; omega
  have hmod : (i * sz + j) % z.size = j := by rw [hz, Nat.mul_comm, Nat.mul_add_mod]; exact Nat.mod_eq_of_lt hj
  rw [Array.getElem?_map, Array.getElem?_range, if_pos hlt]
  simp only [Option.map_some, hmod]
  rw [getElem!_pos z j (by omega)]
  rw [Array.getElem?_eq_getElem (by omega)] at hv
  simpa using hv

theorem make_sound {t : TypeId} {x y : AV} {σ : Store} {R : AV → Store → Prop} (h : vcMake P t x y σ R) {u v : Value} (hx : Rep G x u) (hy : Rep G y v) {w : World} (hw : WRel G σ w) :
    ∃ c w' r σ' G', (Instr.makeSlice t u v).run P w = .ok c w' ∧ G.le G' ∧ WRel G' σ' w' ∧ Rep G' r c ∧ R r σ' := by
  unfold vcMake at h
  split at h
  · rename_i e sz k1 n k2 m hse
    obtain ⟨hb, h0, h1, h2, h⟩ := h
    cases hx; cases hy
    obtain ⟨hu, hcs, hpos, it, zv, hit, hzv, hisz, hzs, hz1⟩ := sliceElem_zero hse
    have hps : 0 < P.cellsOf e := by omega
    have hby : P.bytesOf e = it.bytes := by simp [Program.bytesOf, hit]
    have hm47 : m ≤ 140737488355328 := by
      have h3 : m * 1 ≤ m * (P.bytesOf e : Int) := Int.mul_le_mul_of_nonneg_left (by omega) (by omega)
      omega
    have w1 : IntKind.i64.wrap n = n := by rw [IntKind.wrap_i64]; omega
    have w2 : IntKind.i64.wrap m = m := by rw [IntKind.wrap_i64]; omega
    have big : ¬ ((it.bytes : Int) * m > 2 ^ 48) := by rw [Int.mul_comm, ← hby]; omega
    let arr : Array Value := (Array.range (m.toNat * sz)).map (fun i => zv.cells[i % zv.cells.size]!)
    have hrun : (Instr.makeSlice t (.int k1 n) (.int k2 m)).run P w = .ok (.slice (some ⟨w.heap.size, 0, none⟩) n.toNat m.toNat) (w.alloc (.cells arr e)) := by
      have c1 : (decide (m < 0) || decide ((it.bytes : Int) * m > 2 ^ 48) || decide (n < 0) || decide (n > m)) = false := by
        have a1 : decide (m < 0) = false := decide_eq_false (by omega)
        have a2 : decide ((it.bytes : Int) * m > 2 ^ 48) = false := decide_eq_false big
        have a3 : decide (n < 0) = false := decide_eq_false (by omega)
        have a4 : decide (n > m) = false := decide_eq_false (by omega)
        rw [a1, a2, a3, a4]; rfl
      unfold Instr.makeSlice
      simp only [Sem.run_bind, run_underlying hu, Result.andThen_ok, asInt, asIntOf, Sem.run_pure, typeInfo, run_program, hit, w1, w2, c1, Bool.false_eq_true, if_false, run_askRoom, run_sizeOf hps, hcs, Sem.run_ite]
      by_cases hz : m.toNat * sz = 0
      · have hm0 : m.toNat = 0 := by rcases Nat.mul_eq_zero.1 hz with h | h <;> omega
        have hr0 : ∀ f : Nat → Value, (Array.range 0).map f = #[] := fun f => by simp [Array.range]
        simp only [hz, if_true, Result.andThen_ok, newRow, Sem.run_bind, run_newObj_alloc, Sem.run_pure, hr0, arr]
      · simp only [hz, if_false, zeroValue, Sem.run_bind, typeInfo, run_program, hit, hzv, Sem.run_pure, Result.andThen_ok, newRow, run_newObj_alloc, arr]
    have hsize : arr.size = m.toNat * sz := by simp [arr]
    have hone : ∀ c ∈ arr.toList, c.oneCell' = true := by
      intro c hc
      simp only [arr, Array.toList_map, List.mem_map] at hc
      obtain ⟨i, hi, rfl⟩ := hc
      have hlt : i % zv.cells.size < zv.cells.size := Nat.mod_lt _ (by omega)
      rw [getElem!_pos zv.cells _ hlt]
      exact hz1 _ (Array.getElem_mem_toList hlt)
    have hget := zero_get zv.cells sz m.toNat hzs
    have fin : ∀ {ob : AObj} {cs : List AV} {vs : List Value}, ob.cells = some cs → RepL G cs vs → (∀ (i : Nat) c, vs[i]? = some c → arr[i]? = some c) → R (.mvec σ.length 0 n.toNat sz) (σ ++ [ob]) →
        ∃ c w' r σ' G', (Instr.makeSlice t (.int k1 n) (.int k2 m)).run P w = .ok c w' ∧ G.le G' ∧ WRel G' σ' w' ∧ Rep G' r c ∧ R r σ' := by
      intro ob cs vs hob hl hv hr
      refine ⟨_, _, _, _, _, hrun, Gh.le_add G _ _, hw.push rfl rfl rfl rfl hob vs hl hv hone, ?_, hr⟩
      have hobj : (G.add w.heap.size arr.size).obj[σ.length]? = some (w.heap.size, arr.size) := by simp only [Gh.add]; rw [← hw.len]; simp
      have := Rep.mvec (G := G.add w.heap.size arr.size) σ.length 0 n.toNat sz m.toNat _ _ hobj (by omega) (by rw [hsize]; simp)
      simpa using this
    have hzA : zeroA P e = some (zv.cells.toList.map ofCell) := by simp [zeroA, hit, hzv]
    rw [hzA] at h
    have hzrep : RepL G (zv.cells.toList.map ofCell) zv.cells.toList := by
      generalize zv.cells.toList = l
      induction l with
      | nil => exact .nil
      | cons a l ih => exact .cons (rep_ofCell G a) ih
    split at h
    · rename_i k heq
      obtain ⟨rfl, hr⟩ := h
      simp only [Option.some.injEq] at heq
      rw [heq] at hzrep
      have hz0 : zv.cells[0]? = some (.int k 0) := by
        obtain ⟨v0, hv0, hr0⟩ := hzrep.get 0 (.int k 0) (by simp)
        cases hr0; simpa using hv0
      refine fin (ob := .vecI k (List.replicate n.toNat 0)) rfl (RepL.ints k _) (fun i c hc => ?_) hr
      simp only [List.map_replicate, List.getElem?_replicate] at hc
      split at hc
      · rename_i hi
        cases hc
        have := hget i 0 _ (by omega) hz0
        have e1 : i * 1 + 0 = i := by omega
        rw [e1] at this
        exact this
      · cases hc
    · rename_i zs _ heq
      simp only [Option.some.injEq] at heq
      subst heq
      have hzl : (zv.cells.toList.map ofCell).length = sz := by simpa using hzs
      have hall : ∀ r ∈ List.replicate n.toNat (zv.cells.toList.map ofCell), r.length = sz := fun r hr => by rw [List.eq_of_mem_replicate hr]; exact hzl
      have hvl : zv.cells.toList.length = sz := by simpa using hzs
      have hall2 : ∀ r ∈ List.replicate n.toNat zv.cells.toList, r.length = sz := fun r hr => by rw [List.eq_of_mem_replicate hr]; exact hvl
      refine fin (ob := .vecR sz (List.replicate n.toNat (zv.cells.toList.map ofCell))) (vs := (List.replicate n.toNat zv.cells.toList).flatten) (by simp only [AObj.cells]; rw [if_pos hall]) ?_ (fun i c hc => ?_) h
      · generalize n.toNat = q
        induction q with
        | zero => exact .nil
        | succ q ih => simp only [List.replicate_succ, List.flatten_cons]; exact hzrep.append ih
      · have hil : i < n.toNat * sz := by
          have := (List.getElem?_eq_some_iff.1 hc).1
          rw [List.length_flatten, List.map_replicate, List.sum_replicate_nat, hvl] at this
          exact this
        have hdiv : i / sz < n.toNat := Nat.div_lt_of_lt_mul (by rw [Nat.mul_comm]; exact hil)
        have hmod : i % sz < sz := Nat.mod_lt _ hpos
        have hij : i / sz * sz + i % sz = i := by rw [Nat.mul_comm]; exact Nat.div_add_mod i sz
        have hfl := flatten_get sz _ (i / sz) (i % sz) zv.cells.toList (zv.cells.toList[i % sz]'(by omega)) hall2 (by simp [hdiv]) (List.getElem?_eq_getElem (by omega))
        rw [hij, hc] at hfl
        cases hfl
        have := hget (i / sz) (i % sz) _ (by omega) (by rw [Array.getElem?_eq_getElem (by omega)])
        rw [hij] at this
        exact this
    · exact h.elim
  · exact h.elim

/-- clear(s), of integers. -/
def vcClear (P : Program) (t : TypeId) (x : AV) (s : Store) (R : AV → Store → Prop) : Prop :=
  match P.underlying t, x with
  | some (.slice e), .mvec id off len 1 => match s[id]?, zeroA P e with
    | some (.vecI k l), some [.int k' 0] => k = k' ∧ off + len ≤ l.length ∧ R (.tup []) (s.set id (.vecI k (l.take off ++ List.replicate len 0 ++ l.drop (off + len))))
    | _, _ => False
  | _, _ => False

theorem rep_unit {G : Gh} : Rep G (.tup []) (.tuple #[]) := .tup [] #[] (fun _ => undef) rfl (by simp) (by simp)

theorem clear_sound {t ty : TypeId} {x : AV} {σ : Store} {R : AV → Store → Prop} (h : vcClear P t x σ R) {u : Value} (hx : Rep G x u) {w : World} (hw : WRel G σ w) :
    ∃ w' σ', (Builtin.clear_ #[t] ty #[u]).run P w = .ok (.tuple #[]) w' ∧ WRel G σ' w' ∧ R (.tup []) σ' := by
  unfold vcClear at h
  split at h
  · rename_i e id off len hd
    split at h
    · rename_i k l k' hs hz
      obtain ⟨rfl, hle, hR⟩ := h
      cases hx with
      | mvec _ _ _ _ cap b n ho hcap hfit =>
      obtain ⟨zv, hzv, hzr⟩ : ∃ zv, (zeroValue e).run P w = .ok zv w ∧ zv.cells = #[.int k 0] := by
        unfold zeroA at hz
        split at hz
        · rename_i it hit
          split at hz
          · rename_i zv hzv
            refine ⟨zv, by simp [zeroValue, typeInfo, hit, hzv], ?_⟩
            simp only [Option.some.injEq] at hz
            have hlen : zv.cells.toList.length = 1 := by rw [← List.length_map (f := ofCell), hz]; rfl
            match hc : zv.cells.toList with
            | [c] =>
              rw [hc] at hz
              simp only [List.map_cons, List.map_nil, List.cons.injEq, and_true] at hz
              have : c = .int k 0 := by
                unfold ofCell at hz
                split at hz <;> first | (cases hz; done) | (cases hz; rfl) | skip
              rw [← Array.toArray_toList (xs := zv.cells), hc, this]
            | [] => rw [hc] at hlen; cases hlen
            | _ :: _ :: _ => rw [hc] at hlen; simp at hlen
          · cases hz
        · cases hz
      obtain ⟨b', n', arr, ty', p1, p2, p3, p4, p5, p6, p7, p8⟩ := (hw.objs id _ hs).get (cs := l.map (AV.int k)) rfl
      rw [ho] at p1; cases p1
      have hset : ∀ (l1 : List Int) (o : Nat), l1.length = l.length → l1 = l → l.set o 0 = l → True := fun _ _ _ _ _ => trivial
      clear hset
      rcases Nat.eq_zero_or_pos len with h0 | h0
      · subst h0
        refine ⟨w, _, by simp [Builtin.clear_, run_underlying hd, Result.andThen], ?_, hR⟩
        have : σ.set id (.vecI k (l.take off ++ List.replicate 0 0 ++ l.drop (off + 0))) = σ := by
          rw [List.replicate_zero, List.append_nil, Nat.add_zero, List.take_append_drop]
          apply List.ext_getElem?
          intro j
          rw [List.getElem?_set]
          split
          · rename_i hj; subst hj
            rw [if_pos (List.getElem?_eq_some_iff.1 hs).1, hs]
          · rfl
        rw [this]; exact hw
      · obtain ⟨m, rfl⟩ : ∃ m, len = m + 1 := ⟨len - 1, by omega⟩
        have hzc : (Builtin.zeroCells (#[.int k 0] : Array Value) (m + 1)).toList = List.replicate (m + 1) (Value.int k 0) := by
          apply List.ext_getElem?
          intro j
          simp only [Builtin.zeroCells, Array.toList_map, Array.toList_range, List.getElem?_map, List.size_toArray, List.length_singleton, Nat.mul_one, List.getElem?_replicate, Nat.mod_one]
          by_cases hj : j < (m + 1)
          · simp [hj]
          · simp [hj]
        have hll : (l.map (AV.int k)).length = l.length := by simp
        have hst := run_storeCells_at P b (off * 1) ty' (List.replicate (m + 1) (.int k 0)) 0 arr w p2 (by simp; omega) (by intro c hc; rw [(List.mem_replicate.1 hc).2]; rfl)
        simp only [Nat.add_zero] at hst
        have hrun : (Builtin.clear_ #[t] ty #[.slice (some ⟨b, off * 1, none⟩) (m + 1) cap]).run P w = .ok (.tuple #[]) (w.setRow b (arr.toList.take (off * 1) ++ List.replicate (m + 1) (Value.int k 0) ++ arr.toList.drop (off * 1 + (List.replicate (m + 1) (Value.int k 0)).length)).toArray) := by
          simp only [Builtin.clear_, List.getElem?_toArray, List.getElem?_cons_zero, Sem.run_bind, Sem.run_pure, run_underlying hd, Result.andThen_ok, hzv, hzr, hzc, hst]
        refine ⟨_, _, hrun, hw.write (ob' := .vecI k (l.take off ++ List.replicate (m + 1) 0 ++ l.drop (off + (m + 1)))) hs rfl ho p2 ?_ rfl ((arr.toList.take l.length).take off ++ List.replicate (m + 1) (.int k 0) ++ (arr.toList.take l.length).drop (off + (m + 1))) ?_ ?_ ?_, hR⟩
        · simp only [List.size_toArray, List.length_append, List.length_take, List.length_drop, Array.length_toList, List.length_replicate]; omega
        · rw [hll] at p7
          have h9 : RepL G ((List.replicate (m + 1) (0 : Int)).map (AV.int k)) (List.replicate (m + 1) (.int k 0)) := by
            rw [List.map_replicate]
            clear hst hzc hR hfit hcap hle h0
            induction (m + 1) with
            | zero => exact .nil
            | succ n ih => exact .cons (.int _ _) ih
          rw [List.map_append, List.map_append, List.map_take, List.map_drop]
          exact ((p7.take off).append h9).append (p7.drop _)
        · intro i c hcc
          have e1 : (arr.toList.take l.length).take off = arr.toList.take off := by rw [List.take_take, Nat.min_eq_left (by omega)]
          rw [e1] at hcc
          have hA : (arr.toList.take off ++ List.replicate (m + 1) (Value.int k 0)).length = off + (m + 1) := by
            rw [List.length_append, List.length_take, List.length_replicate, Array.length_toList]; omega
          rw [List.getElem?_toArray, Nat.mul_one, List.length_replicate]
          rcases Nat.lt_or_ge i (off + (m + 1)) with hi | hi
          · rw [List.getElem?_append_left (by omega)] at hcc ⊢; exact hcc
          · rw [List.getElem?_append_right (by omega), hA, List.getElem?_drop] at hcc ⊢
            rw [List.getElem?_take] at hcc
            split at hcc
            · exact hcc
            · cases hcc
        · intro c hcc
          simp only [List.mem_append] at hcc
          rcases hcc with (hcc | hcc) | hcc
          · exact p8 c (List.mem_of_mem_take hcc)
          · rw [(List.mem_replicate.1 hcc).2]; rfl
          · exact p8 c (List.mem_of_mem_drop hcc)
    · exact h.elim
  · exact h.elim

/-- A slice's or a string's type. -/
def tyOk (P : Program) (t : TypeId) : Bool :=
  match P.underlying t with
  | some (.int _) | none => false
  | _ => true

/-- What is asked of string(b) where b is an own slice of bytes. -/
def convA (P : Program) (src dst : TypeId) (x : AV) (s : Store) (R : AV → Prop) : Prop :=
  match P.underlying src, P.underlying dst, x with
  | some (.slice e), some .string, .mvec id off len sz => P.underlying e = some (.int .u8) ∧ match s[id]? with
    | some (.vecI .u8 l) => sz = 1 ∧ off + len ≤ l.length ∧ U8s l ∧ R (.str ((l.drop off).take len))
    | _ => False
  | _, _, _ => False

theorem convA_sound {src dst : TypeId} {x : AV} {σ : Store} {R : AV → Prop} (h : convA P src dst x σ R) {u : Value} (hx : Rep G x u) {w : World} (hw : WRel G σ w) :
    ∃ c v, (convert src dst u).run P w = .ok c w ∧ Rep G v c ∧ R v := by
  unfold convA at h
  split at h
  · rename_i e oid off len sz h1 h2
    obtain ⟨h3, h⟩ := h
    split at h
    · rename_i l ho
      obtain ⟨rfl, hle, hu8, hR⟩ := h
      obtain ⟨b', m', arr, ty, q1, q2, q3, q4, q5, q6, q7, q8⟩ := (hw.objs oid _ ho).get (cs := l.map (AV.int .u8)) rfl
      cases hx with
      | mvec _ _ _ _ cap bb m hb hcap hfit =>
      rw [hb] at q1; cases q1
      obtain ⟨l2, hl2⟩ : ∃ l2, l2 = (l.drop off).take len := ⟨_, rfl⟩
      have hlen : l2.length = len := by rw [hl2]; simp; omega
      have hu2 : U8s l2 := fun x hx => hu8 x (by rw [hl2] at hx; exact List.mem_of_mem_drop (List.mem_of_mem_take hx))
      have hback : (strOfNums l2).data.toList.map (fun b => (b.toNat : Int)) = l2 := by
        rw [strOfNums_data, List.map_map]
        conv => rhs; rw [← List.map_id l2]
        refine List.map_congr_left fun x hx => ?_
        have := hu2 x hx
        simp only [Function.comp, id, UInt8.toNat_ofNat']
        omega
      rw [← hl2] at hR
      refine ⟨.string (strOfNums l2), _, ?_, .str _ _ hback, hR⟩
      refine run_convert_bytes_arg w src e h1 h3 b' (off * 1) len cap l2 hlen (fun i hi => ?_) dst h2
      have hget : l[off + i]? = some (l2.getD i 0) := by
        rw [List.getD_eq_getElem?_getD, hl2, List.getElem?_take, if_pos (by omega), List.getElem?_drop, List.getElem?_eq_getElem (by omega)]
        rfl
      obtain ⟨c, hc, hr⟩ := q7.get (off + i) (.int .u8 (l2.getD i 0)) (by rw [List.getElem?_map, hget]; rfl)
      cases hr
      rw [List.getElem?_take] at hc
      split at hc
      · rw [cell_of_row w b' _ arr ty _ q2, Nat.mul_one]
        simpa using hc
      · cases hc
    · exact h.elim
  · exact h.elim

/-- What is asked of an operation that looks at the store, or calls. -/
def vcS (P : Program) (e : Env) (s : Store) (R : AV → Store → Prop) : Op → Prop
  | .alloc t => match zeroA P t with
    | some cs => cs.all AV.cell = true ∧ R (.ptr s.length 0) (s ++ [.box cs])
    | none => False
  | .box _ x => match (evO e x).cellsOf with
    | some cs => R (.ptr s.length 0) (s ++ [.box cs])
    | none => False
  | .load t x => vcLoad P t (evO e x) s R
  | .store t x y => vcStore P t (evO e x) (evO e y) s R
  | .makeSlice t l c => vcMake P t (evO e l) (evO e c) s R
  | .call { callee := .builtin .append, args := xs, argTypes := ts } => match ts.toList, xs.toList with
    | [t, t'], [x, y] => tyOk P t' = true ∧ vcAppend P t (evO e x) (evO e y) s R
    | _, _ => False
  | .call { callee := .value f, args := xs, argTypes := _ } => match evO e f with
    | .fn g fs cs => ACalls P g (fs ++ xs.toList.map (evO e) ++ cs) s R
    | _ => False
  | .convert src dst x => convA P src dst (evO e x) s fun v => R v s
  | .makeMap _ none => R (.mp s.length) (s ++ [.mp (.kv [] 0)])
  | .lookup t x k c => vcLook P t (evO e x) (evO e k) c s R
  | .mapUpdate t x k y => vcPut P t (evO e x) (evO e k) (evO e y) s R
  | .mapEntry t x k => vcEnt P t (evO e x) (evO e k) s R
  | .entryStore _ x st y => vcESt (evO e x) (evO e st) (evO e y) s R
  | .call { callee := .builtin .len, args := xs, argTypes := ts } => match ts.toList, xs.toList with
    | [t], [x] => (match P.underlying t with
      | some (.map _ _) => vcMLen (evO e x) s R
      | _ => False)
    | _, _ => False
  | .call { callee := .builtin .delete, args := xs, argTypes := ts } => match ts.toList, xs.toList with
    | [t, _], [x, k] => vcDel P t (evO e x) (evO e k) s R
    | _, _ => False
  | .call { callee := .builtin .clear, args := xs, argTypes := ts } => match ts.toList, xs.toList with
    | [t], [x] => vcClear P t (evO e x) s R
    | _, _ => False
  | _ => False

def vcOp (P : Program) (e : Env) (s : Store) (R : AV → Store → Prop) (op : Op) : Prop :=
  match evA P e op with
  | .val v => R v s
  | .need p v => p ∧ R v s
  | .no => vcS P e s R op

theorem vcOp_sound {N : Nat} {e : Env} {s : Store} {R : AV → Store → Prop} {o : Oper} (h : vcOp P e s R o.op) : OpJ P N o e s R := by
  unfold vcOp at h
  split at h
  · rename_i v hv; exact .of_pure (evA_sound (by rw [hv]; rfl)) h
  · rename_i p v hv; exact .of_pure (evA_sound (by rw [hv]; exact ⟨h.1, rfl⟩)) h.2
  · rename_i hno; clear hno
    obtain ⟨dst, op, ty, pos, after, guard⟩ := o
    simp only at h
    unfold vcS at h
    split at h
    · -- alloc
      rename_i t
      split at h
      · rename_i cs hz
        obtain ⟨hall, hr⟩ := h
        refine .of_run fun G a w he hw => ?_
        unfold zeroA at hz
        split at hz
        · rename_i it hit
          split at hz
          · rename_i zv hzv
            cases hz
            have hzrep : RepL G (zv.cells.toList.map ofCell) zv.cells.toList := by
              generalize zv.cells.toList = l
              induction l with
              | nil => exact .nil
              | cons a l ih => exact .cons (rep_ofCell G a) ih
            have hone : ∀ c ∈ zv.cells.toList, c.oneCell' = true := by
              intro c hc
              exact (rep_ofCell G c).oneCell (List.all_eq_true.1 hall _ (List.mem_map_of_mem hc))
            refine ⟨.pointer (some ⟨w.heap.size, 0, none⟩), w.alloc (.cells zv.cells t), _, _, _, .inl ?_, Gh.le_add G _ _, hw.push rfl rfl rfl rfl (ob := .box _) rfl _ hzrep (fun i c hc => by simpa using hc) hone, ?_, hr⟩
            · simp [execOp, Instr.alloc, zeroValue, typeInfo, hit, hzv, newVar, newRow]
            · exact .ptr _ 0 w.heap.size zv.cells.size (by simp only [Gh.add]; rw [← hw.len]; simp)
          · cases hz
        · cases hz
      · exact h.elim
    · -- box
      rename_i t x
      split at h
      · rename_i cs hc
        refine .of_run fun G a w he hw => ?_
        obtain ⟨hl, hone⟩ := cellsOf_rep (rep_evO he x) hc
        refine ⟨.pointer (some ⟨w.heap.size, 0, none⟩), w.alloc (.cells (a.eval x).cells t), _, _, _, .inl ?_, Gh.le_add G _ _, hw.push rfl rfl rfl rfl (ob := .box _) rfl _ hl (fun i c hc => by simpa using hc) hone, ?_, h⟩
        · simp [execOp, Instr.box, newVar, newRow]
        · exact .ptr _ 0 w.heap.size (a.eval x).cells.size (by simp only [Gh.add]; rw [← hw.len]; simp)
      · exact h.elim
    · -- load
      rename_i t x
      refine .of_run fun G a w he hw => ?_
      obtain ⟨c, v, hc, hr, hR⟩ := load_sound h (rep_evO he x) hw
      exact ⟨c, w, v, s, G, .inl (by simp only [execOp, Sem.run_bind, hc, Result.andThen_ok, Sem.run_pure]), .refl G, hw, hr, hR⟩
    · -- store
      rename_i t x y
      refine .of_run fun G a w he hw => ?_
      obtain ⟨w', σ', hc, hw', hR⟩ := store_sound h (rep_evO he x) (rep_evO he y) hw
      exact ⟨undef, w', .any, σ', G, .inr ⟨by simp only [execOp, Sem.run_bind, hc, Result.andThen_ok, Sem.run_pure], rfl⟩, .refl G, hw', .any _, hR⟩
    · -- make
      rename_i t l c
      refine .of_run fun G a w he hw => ?_
      obtain ⟨c, w', v, σ', G', hc, h1, h2, h3, h4⟩ := make_sound h (rep_evO he l) (rep_evO he c) hw
      exact ⟨c, w', v, σ', G', .inl (by simp only [execOp, Sem.run_bind, hc, Result.andThen_ok, Sem.run_pure]), h1, h2, h3, h4⟩
    · -- append
      rename_i xs ts
      split at h
      · rename_i t t' x y hts hxs
        obtain ⟨hty, h⟩ := h
        have hts' : ts = #[t, t'] := by rw [← Array.toArray_toList (xs := ts), hts]
        have hxs' : xs = #[x, y] := by rw [← Array.toArray_toList (xs := xs), hxs]
        subst hts'; subst hxs'
        unfold tyOk at hty
        cases hd : P.underlying t' with
        | none => simp [hd] at hty
        | some d' =>
          have hd' : ∀ k, d' ≠ .int k := by
            intro k e; subst e; simp [hd] at hty
          refine .of_run fun G a w he hw => ?_
          obtain ⟨c, w', v, σ', G', hc, h1, h2, h3, h4⟩ := append_sound (ty := ty) h hd hd' (rep_evO he x) (rep_evO he y) hw
          exact ⟨c, w', v, σ', G', .inl (by simp only [execOp, resolve, Sem.run_bind, Sem.run_pure, Result.andThen_ok, invoke, builtin, List.map_toArray, List.map_cons, List.map_nil, hc]), h1, h2, h3, h4⟩
      · exact h.elim
    · -- a call
      rename_i f xs ts
      split at h
      · rename_i g fs cs hf
        intro G a w he hw
        obtain ⟨gs, hs, hv, h1, h2⟩ := (show Rep G (.fn g fs cs) (a.eval f) by rw [← hf]; exact rep_evO he f).fn_inv
        have hl : RepL G (fs ++ xs.toList.map (evO e) ++ cs) (gs ++ xs.map a.eval ++ hs).toList := by
          simp only [Array.toList_append, Array.toList_map]
          exact (h1.append (repL_evO he xs.toList)).append h2
        have hcall := h.2 G w _ hw hl
        have hrun : (execOp a.eval ⟨dst, .call { callee := .value f, args := xs, argTypes := ts }, ty, pos, after, guard⟩).run P w = .ok (.enter g (gs ++ xs.map a.eval ++ hs)) w := by
          simp only [execOp, resolve, hv, Deferred.ofValue, Sem.run_bind, Sem.run_pure, Result.andThen_ok, invoke, h.1]
        exact .inr ⟨_, _, hrun, hcall.mono fun en w' ⟨v, r, σ', G', e1, q1, q2, q3, q4⟩ => ⟨v, r, σ', G', e1, q1, q2, q3, q4⟩⟩
      · exact h.elim
    · -- a conversion
      rename_i src dst' x
      refine .of_run fun G a w he hw => ?_
      obtain ⟨c, v, hc, hr, hR⟩ := convA_sound h (rep_evO he x) hw
      exact ⟨c, w, v, s, G, .inl (by simp only [execOp, Sem.run_bind, hc, Result.andThen_ok, Sem.run_pure]), .refl G, hw, hr, hR⟩
    · -- a map
      rename_i t
      refine .of_run fun G a w he hw => ?_
      have hrun : (Instr.makeMap t none).run P w = .ok (.map (some w.heap.size)) (w.alloc (.map #[] 0)) := rfl
      refine ⟨.map (some w.heap.size), w.alloc (.map #[] 0), _, _, _, .inl (by simp only [execOp, Option.map_none, Sem.run_bind, hrun, Result.andThen_ok, Sem.run_pure]), Gh.le_add G _ _, hw.pushMap rfl rfl rfl rfl, ?_, h⟩
      exact .mp _ w.heap.size 0 (by simp only [Gh.add]; rw [← hw.len]; simp)
    · -- lookup
      rename_i t x k c
      refine .of_run fun G a w he hw => ?_
      obtain ⟨y, r, hc, hr, hR⟩ := look_sound h (rep_evO he x) (rep_evO he k) hw
      exact ⟨y, w, r, s, G, .inl (by simp only [execOp, Sem.run_bind, hc, Result.andThen_ok, Sem.run_pure]), .refl G, hw, hr, hR⟩
    · -- m[k] = v
      rename_i t x k y
      refine .of_run fun G a w he hw => ?_
      obtain ⟨w', σ', hc, hw', hR⟩ := put_sound h (rep_evO he x) (rep_evO he k) (rep_evO he y) hw
      exact ⟨undef, w', .any, σ', G, .inr ⟨by simp only [execOp, Sem.run_bind, hc, Result.andThen_ok, Sem.run_pure], rfl⟩, .refl G, hw', .any _, hR⟩
    · -- the entry
      rename_i t x k
      refine .of_run fun G a w he hw => ?_
      obtain ⟨y, r, w', σ', hc, hw', hr, hR⟩ := ent_sound h (rep_evO he x) (rep_evO he k) hw
      exact ⟨y, w', r, σ', G, .inl (by simp only [execOp, Sem.run_bind, hc, Result.andThen_ok, Sem.run_pure]), .refl G, hw', hr, hR⟩
    · -- the entry's value
      rename_i t x k y
      refine .of_run fun G a w he hw => ?_
      obtain ⟨w', σ', hc, hw', hR⟩ := est_sound (P := P) (t := t) h (rep_evO he x) (rep_evO he k) (rep_evO he y) hw
      exact ⟨undef, w', .any, σ', G, .inr ⟨by simp only [execOp, Sem.run_bind, hc, Result.andThen_ok, Sem.run_pure], rfl⟩, .refl G, hw', .any _, hR⟩
    · -- len
      rename_i xs ts
      split at h
      · rename_i t x hts hxs
        have hts' : ts = #[t] := by rw [← Array.toArray_toList (xs := ts), hts]
        have hxs' : xs = #[x] := by rw [← Array.toArray_toList (xs := xs), hxs]
        subst hts'; subst hxs'
        split at h
        · rename_i kt et hd
          refine .of_run fun G a w he hw => ?_
          obtain ⟨y, r, hc, hr, hR⟩ := mlen_sound (ty := ty) hd h (rep_evO he x) hw
          exact ⟨y, w, r, s, G, .inl (by simp only [execOp, resolve, Sem.run_bind, Sem.run_pure, Result.andThen_ok, invoke, builtin, List.map_toArray, List.map_cons, List.map_nil, hc]), .refl G, hw, hr, hR⟩
        · exact h.elim
      · exact h.elim
    · -- delete
      rename_i xs ts
      split at h
      · rename_i t t' x k hts hxs
        have hts' : ts = #[t, t'] := by rw [← Array.toArray_toList (xs := ts), hts]
        have hxs' : xs = #[x, k] := by rw [← Array.toArray_toList (xs := xs), hxs]
        subst hts'; subst hxs'
        refine .of_run fun G a w he hw => ?_
        obtain ⟨w', σ', hc, hw', hR⟩ := del_sound (t' := t') (ty := ty) h (rep_evO he x) (rep_evO he k) hw
        exact ⟨.tuple #[], w', _, σ', G, .inl (by simp only [execOp, resolve, Sem.run_bind, Sem.run_pure, Result.andThen_ok, invoke, builtin, List.map_toArray, List.map_cons, List.map_nil, hc]), .refl G, hw', rep_unit, hR⟩
      · exact h.elim
    · -- clear
      rename_i xs ts
      split at h
      · rename_i t x hts hxs
        have hts' : ts = #[t] := by rw [← Array.toArray_toList (xs := ts), hts]
        have hxs' : xs = #[x] := by rw [← Array.toArray_toList (xs := xs), hxs]
        subst hts'; subst hxs'
        refine .of_run fun G a w he hw => ?_
        obtain ⟨w', σ', hc, hw', hR⟩ := clear_sound (ty := ty) h (rep_evO he x) hw
        exact ⟨.tuple #[], w', _, σ', G, .inl (by simp only [execOp, resolve, Sem.run_bind, Sem.run_pure, Result.andThen_ok, invoke, builtin, List.map_toArray, List.map_cons, List.map_nil, hc]), .refl G, hw', rep_unit, hR⟩
      · exact h.elim
    · exact h.elim

end Go.Pa

/-! Code: what is asked; soundness. Calls. -/
namespace Go.Pa
set_option linter.unusedSectionVars false
variable [GTab]
variable {P : Program}

def Conc (G0 : Gh) (N : Nat) (K : Exit → Env → Store → Prop) : Exit → Act → World → Prop :=
  fun x a w => ∃ G env σ, G0.le G ∧ ERel G N env a ∧ WRel G σ w ∧ K x env σ

/-- From every concrete state that the abstract one tells of, the code comes to its end as K says. -/
def AWp (P : Program) (N : Nat) (c : Code) (K : Exit → Env → Store → Prop) (env : Env) (σ : Store) : Prop :=
  ∀ G0 G a w, G0.le G → ERel G N env a → WRel G σ w → c.wp P (Conc G0 N K) a w

/-- The operations of a region, in the order of the text. -/
def vcOps (P : Program) (all : List Oper) : List Oper → Env → Store → (Env → Store → Prop) → Prop
  | [], e, s, K => K e s
  | o :: os, e, s, K =>
    match o.guard with
    | none => vcOp P e s (fun v s' => vcOps P all os (e.put o.dst v) s' K) o.op
    | some (j, want) => match (all[j]?).bind (·.dst) with
      | none => False
      | some t => match e.get t with
        | some (.bool c) => (c = want → vcOp P ((t, .bool want) :: e) s (fun v s' => vcOps P all os (Env.put ((t, .bool want) :: e) o.dst v) s' K) o.op) ∧
            (c = (!want) → vcOps P all os (Env.put ((t, .bool (!want)) :: e) o.dst (.tup [])) s K)
        | some (.tup []) => vcOps P all os (e.put o.dst (.tup [])) s K
        | _ => False

/-- Behind an operation. -/
def opK (P : Program) (all os : List Oper) (d : Option Tmp) (e : Env) (K : Env → Store → Prop) : AV → Store → Prop := fun v s' => vcOps P all os (e.put d v) s' K

def noDefer : Op → Bool
  | .defer _ => false
  | _ => true

def dstOk (N : Nat) (os : List Oper) : Bool := os.all fun o => (match o.dst with | some d => decide (d < N) | none => true) && noDefer o.op

def codeOk (N : Nat) : Code → Bool
  | .region _ ops _ => dstOk N ops.toList
  | .seq a b => codeOk N a && codeOk N b
  | .cond _ a b => codeOk N a && codeOk N b
  | .block _ b => codeOk N b
  | .loop b => codeOk N b
  | .scope b => codeOk N b
  | .rangeFunc _ _ a b => codeOk N a && codeOk N b
  | _ => true

def vc (P : Program) (N : Nat) : Code → (Exit → Env → Store → Prop) → Env → Store → Prop
  | .skip, K, e, s => K .normal e s
  | .region id ops d, K, e, s => if d then AWp P N (.region id ops true) K e s else vcOps P ops.toList ops.toList e s (K .normal)
  | .seq a b, K, e, s => vc P N a (fun x e s => match x with | .normal => vc P N b K e s | x => K x e s) e s
  | .cond c a b, K, e, s => match evO e c with
    | .bool t => (t = true → vc P N a K e s) ∧ (t = false → vc P N b K e s)
    | _ => False
  | .block id b, K, e, s => vc P N b (fun x e s => match x with | .exit i => if i = id then K .normal e s else K (.exit i) e s | x => K x e s) e s
  | .exit id, K, e, s => K (.exit id) e s
  | .ret, K, e, s => K .ret e s
  | c, K, e, s => AWp P N c K e s

def seqK (P : Program) (N : Nat) (b : Code) (K : Exit → Env → Store → Prop) : Exit → Env → Store → Prop := fun x e s => match x with | .normal => vc P N b K e s | x => K x e s
def blkK (id : Nat) (K : Exit → Env → Store → Prop) : Exit → Env → Store → Prop := fun x e s => match x with | .exit i => if i = id then K .normal e s else K (.exit i) e s | x => K x e s

theorem Conc.mono {G0 : Gh} {N : Nat} {K K' : Exit → Env → Store → Prop} (h : ∀ x e s, K x e s → K' x e s) : ∀ x a w, Conc G0 N K x a w → Conc G0 N K' x a w :=
  fun _ _ _ ⟨G, e, s, h1, h2, h3, h4⟩ => ⟨G, e, s, h1, h2, h3, h _ _ _ h4⟩

theorem vcOps_sound {all : List Oper} {N : Nat} {Q : Exit → Act → World → Prop} {G0 : Gh} : ∀ {os : List Oper} {e : Env} {s : Store} {K : Env → Store → Prop}, dstOk N os = true → vcOps P all os e s K →
    (∀ G e s a w, G0.le G → ERel G N e a → WRel G s w → K e s → Q .normal a w) → ∀ G a w, G0.le G → ERel G N e a → WRel G s w → wpList P all.toArray Q os a w
  | [], e, s, K, _, h, hQ, G, a, w, hg, he, hw => hQ G e s a w hg he hw h
  | o :: os, e, s, K, hd, h, hQ, G, a, w, hg, he, hw => by
    simp only [dstOk, List.all_cons, Bool.and_eq_true] at hd
    obtain ⟨hd1, hd2⟩ := hd
    have hdst : ∀ t, o.dst = some t → t < N := fun t ht => by rw [ht] at hd1; simp at hd1; exact hd1.1
    have run : ∀ {e : Env}, ERel G N e a → vcOp P e s (fun v s' => vcOps P all os (e.put o.dst v) s' K) o.op → o.wp P a w (wpList P all.toArray Q os) Q := by
      intro e he h
      refine Oper.wp_mono ?_ ((vcOp_sound (N := N) h).wp G a w Q he hw)
      rintro a' w' ⟨c, v, σ', G', rfl, hle, hw', hr, hk⟩
      exact vcOps_sound hd2 hk hQ G' _ w' (hg.trans hle) ((he.mono hle).put o.dst hdst hr) hw'
    unfold vcOps at h
    unfold wpList
    cases hgd : o.guard with
    | none =>
      simp only [hgd] at h
      rw [if_pos (by simp [Region.wanted, hgd])]
      exact .inl (run he h)
    | some jw =>
      obtain ⟨j, want⟩ := jw
      simp only [hgd] at h
      split at h
      · exact h.elim
      · rename_i t ht
        split at h
        · rename_i c hc
          obtain ⟨v, hv, hr⟩ := he.2.2 t _ hc
          cases hr
          have hy : yielded all.toArray a.tmps j = some c := by
            unfold yielded
            have h0 : (all.toArray[j]?).bind (·.dst) = some t := by simpa using ht
            rw [h0]
            simp [hv]
          have he' : ∀ b, c = b → ERel G N ((t, .bool b) :: e) a := by
            intro b hb
            refine ⟨he.1, he.2.1, fun u x hx => ?_⟩
            simp only [Env.get] at hx
            split at hx
            · rename_i hu; subst hu; cases hx; exact ⟨.bool c, hv, by rw [hb]; exact .bool b⟩
            · exact he.2.2 u x hx
          by_cases hcw : c = want
          · rw [if_pos (by simp [Region.wanted, hgd, hy, hcw])]
            exact .inl (run (he' want hcw) (h.1 hcw))
          · rw [if_neg (by simp [Region.wanted, hgd, hy, hcw])]
            have hn : c = !want := by cases c <;> cases want <;> simp_all
            exact vcOps_sound hd2 (h.2 hn) hQ G _ w hg ((he' _ hn).put o.dst hdst (rep_undef G)) hw
        · rename_i hc
          obtain ⟨v, hv, hr⟩ := he.2.2 t _ hc
          have hy : yielded all.toArray a.tmps j = none := by
            unfold yielded
            have h0 : (all.toArray[j]?).bind (·.dst) = some t := by simpa using ht
            rw [h0]
            cases hr
            simp [hv]
          rw [if_neg (by simp [Region.wanted, hgd, hy])]
          exact vcOps_sound hd2 h hQ G _ w hg (he.put o.dst hdst (rep_undef G)) hw
        · exact h.elim

theorem vc_sound {N : Nat} : ∀ {c : Code} {K : Exit → Env → Store → Prop} {e : Env} {s : Store}, codeOk N c = true → vc P N c K e s → AWp P N c K e s
  | .skip, K, e, s, _, h => fun G0 G a w hg he hw => wp_skip ⟨G, e, s, hg, he, hw, h⟩
  | .region id ops d, K, e, s, hd, h => by
    intro G0 G a w hg he hw
    unfold vc at h
    cases d with
    | true => simp only [if_true] at h; exact h G0 G a w hg he hw
    | false =>
      simp only [Bool.false_eq_true, if_false] at h
      refine wp_region_list ?_
      have := vcOps_sound (G0 := G0) (Q := Conc G0 N K) hd h (fun G' e' s' a' w' h1 h2 h3 h4 => ⟨G', e', s', h1, h2, h3, h4⟩) G a w hg he hw
      simpa using this
  | .seq x y, K, e, s, hd, h => by
    intro G0 G a w hg he hw
    simp only [codeOk, Bool.and_eq_true] at hd
    refine wp_seq (Code.wp_mono ?_ (vc_sound hd.1 h G0 G a w hg he hw))
    rintro ex a' w' ⟨G', e', s', h1, h2, h3, h4⟩
    cases ex with
    | normal => exact vc_sound hd.2 h4 G0 G' a' w' h1 h2 h3
    | exit i => exact ⟨G', e', s', h1, h2, h3, h4⟩
    | goto i => exact ⟨G', e', s', h1, h2, h3, h4⟩
    | ret => exact ⟨G', e', s', h1, h2, h3, h4⟩
    | panic c => exact ⟨G', e', s', h1, h2, h3, h4⟩
    | outgrown => exact ⟨G', e', s', h1, h2, h3, h4⟩
  | .cond c x y, K, e, s, hd, h => by
    intro G0 G a w hg he hw
    simp only [codeOk, Bool.and_eq_true] at hd
    unfold vc at h
    split at h
    · rename_i t ht
      have hr := rep_evO he c
      rw [ht] at hr
      have hv : a.eval c = .bool t := by
        generalize a.eval c = u at hr
        cases hr; rfl
      exact wp_cond_split hv (fun h1 => vc_sound hd.1 (h.1 h1) G0 G a w hg he hw) (fun h1 => vc_sound hd.2 (h.2 h1) G0 G a w hg he hw)
    · exact h.elim
  | .block id b, K, e, s, hd, h => by
    intro G0 G a w hg he hw
    refine wp_block (Code.wp_mono ?_ (vc_sound (c := b) hd h G0 G a w hg he hw))
    rintro ex a' w' ⟨G', e', s', h1, h2, h3, h4⟩
    cases ex with
    | exit i =>
      simp only [Exit.inBlock]
      simp only at h4
      split
      · rename_i hi; rw [if_pos hi] at h4; exact ⟨G', e', s', h1, h2, h3, h4⟩
      · rename_i hi; rw [if_neg hi] at h4; exact ⟨G', e', s', h1, h2, h3, h4⟩
    | normal => exact ⟨G', e', s', h1, h2, h3, h4⟩
    | goto i => exact ⟨G', e', s', h1, h2, h3, h4⟩
    | ret => exact ⟨G', e', s', h1, h2, h3, h4⟩
    | panic c => exact ⟨G', e', s', h1, h2, h3, h4⟩
    | outgrown => exact ⟨G', e', s', h1, h2, h3, h4⟩
  | .exit id, K, e, s, _, h => fun G0 G a w hg he hw => wp_exit ⟨G, e, s, hg, he, hw, h⟩
  | .ret, K, e, s, _, h => fun G0 G a w hg he hw => wp_ret ⟨G, e, s, hg, he, hw, h⟩
  | .loop b, K, e, s, _, h => h
  | .rangeFunc _ _ _ _, K, e, s, _, h => h
  | .scope _, K, e, s, _, h => h
  | .label _, K, e, s, _, h => h
  | .goto _, K, e, s, _, h => h
  | .refuse _, K, e, s, _, h => h

/-- Where a round ends. -/
def loopK {S : Type} (st : S → Env) (Inv : S → Store → Prop) (μ : S → Nat) (s : S) (K : Exit → Env → Store → Prop) : Exit → Env → Store → Prop :=
  fun x e' σ' => match x with | .normal => ∃ s', (st s').sub e' ∧ Inv s' σ' ∧ μ s' < μ s | x => K x e' σ'

/-- **A loop.** -/
theorem awp_loop {N : Nat} {S : Type} (st : S → Env) (Inv : S → Store → Prop) (μ : S → Nat) (s0 : S) {body : Code} {K : Exit → Env → Store → Prop} {e : Env} {σ : Store} (hd : codeOk N body = true) (h0 : (st s0).sub e) (hi : Inv s0 σ)
    (step : ∀ s σ, Inv s σ → vc P N body (loopK st Inv μ s K) (st s) σ) : AWp P N (.loop body) K e σ := by
  intro G0 G a w hg he hw
  refine wp_loop_ghost (fun n a w => ∃ G s σ, G0.le G ∧ ERel G N (st s) a ∧ WRel G σ w ∧ Inv s σ ∧ μ s = n) (μ s0) ⟨G, s0, σ, hg, he.sub h0, hw, hi, rfl⟩ ?_
  rintro n a w ⟨G, s, σ, hg, he, hw, hi, rfl⟩
  refine Code.wp_mono ?_ (vc_sound hd (step s σ hi) G0 G a w hg he hw)
  rintro ex a' w' ⟨G', e', s', h1, h2, h3, h4⟩
  cases ex with
  | normal =>
    obtain ⟨s2, hs, hi2, hlt⟩ := h4
    exact ⟨μ s2, hlt, G', s2, s', h1, h2.sub hs, h3, hi2, rfl⟩
  | exit i => exact ⟨G', e', s', h1, h2, h3, h4⟩
  | goto i => exact ⟨G', e', s', h1, h2, h3, h4⟩
  | ret => exact ⟨G', e', s', h1, h2, h3, h4⟩
  | panic c => exact ⟨G', e', s', h1, h2, h3, h4⟩
  | outgrown => exact ⟨G', e', s', h1, h2, h3, h4⟩

/-- **A cut**: what the first piece leaves, said in a smaller frame. -/
theorem vc_cut {N : Nat} {c : Code} {K : Exit → Env → Store → Prop} {e : Env} {σ : Store} (J : Env → Store → Prop) (h1 : AWp P N c (fun x e s => match x with | .normal => ∃ e', e'.sub e ∧ J e' s | x => K x e s) e σ)
    (h2 : ∀ e s, J e s → K .normal e s) : AWp P N c K e σ := by
  intro G0 G a w hg he hw
  refine Code.wp_mono ?_ (h1 G0 G a w hg he hw)
  rintro ex a' w' ⟨G', e', s', q1, q2, q3, q4⟩
  cases ex with
  | normal => obtain ⟨e2, hs, hj⟩ := q4; exact ⟨G', e2, s', q1, q2.sub hs, q3, h2 _ _ hj⟩
  | exit i => exact ⟨G', e', s', q1, q2, q3, q4⟩
  | goto i => exact ⟨G', e', s', q1, q2, q3, q4⟩
  | ret => exact ⟨G', e', s', q1, q2, q3, q4⟩
  | panic c => exact ⟨G', e', s', q1, q2, q3, q4⟩
  | outgrown => exact ⟨G', e', s', q1, q2, q3, q4⟩

/-! ### Results -/

def resA (P : Program) (e : Env) (s : Store) : ResultVar → Option AV
  | .tmp t => e.get t
  | .cell t ty => match e.get t with
    | some (.ptr id off) => match s[id]? with
      | some (.box cs) => partA P ty (cs.drop off)
      | _ => none
    | _ => none

def ressA (P : Program) (e : Env) (s : Store) : List ResultVar → Option (List AV)
  | [] => some []
  | r :: rs => match resA P e s r, ressA P e s rs with
    | some v, some vs => some (v :: vs)
    | _, _ => none

def retA (P : Program) (e : Env) (s : Store) (rs : List ResultVar) : Option AV :=
  match ressA P e s rs with
  | some [v] => some v
  | some vs => some (.tup vs)
  | none => none

def retK (P : Program) (rs : List ResultVar) (R : AV → Store → Prop) : Exit → Env → Store → Prop := fun x e s =>
  match x with
  | .normal | .ret => match retA P e s rs with
    | some v => R v s
    | none => False
  | _ => False

def resM (tmps : Array Value) : ResultVar → Sem Value
  | .tmp t => pure (tmps.getD t undef)
  | .cell a t => do loadVar t (← asAddr (tmps.getD a undef))

theorem results_eq (fn : Func) (tmps : Array Value) : results fn tmps = (do let vs ← fn.results.mapM (resM tmps); pure (if h : vs.size = 1 then vs[0] else .tuple vs)) := by
  have : (fun (x : ResultVar) => match x with | .tmp t => pure (tmps.getD t undef) | .cell a t => do loadVar t (← asAddr (tmps.getD a undef))) = resM tmps := by
    funext x; cases x <;> rfl
  unfold results
  rw [← this]
  rfl

theorem run_res {G : Gh} {N : Nat} {e : Env} {s : Store} {a : Act} {w : World} (he : ERel G N e a) (hw : WRel G s w) {r : ResultVar} {v : AV} (h : resA P e s r = some v) :
    ∃ c, (resM a.tmps r).run P w = .ok c w ∧ Rep G v c := by
  unfold resM
  cases r with
  | tmp t =>
    obtain ⟨c, hc, hr⟩ := he.2.2 t v h
    exact ⟨c, by simp [hc], hr⟩
  | cell t ty =>
    simp only [resA] at h
    split at h
    · rename_i id off hp
      split at h
      · rename_i cs hob
        obtain ⟨c, hc, hr⟩ := he.2.2 t _ hp
        obtain ⟨c', v', h1, h2, h3⟩ := load_sound (P := P) (t := ty) (x := .ptr id off) (R := fun x _ => x = v) (by simp only [vcLoad, hob, h]) hr hw
        subst h3
        cases hr with
        | ptr _ _ b n ho =>
          refine ⟨c', ?_, h2⟩
          simp only [Instr.loadAt, Instr.sureAddr, Sem.run_bind, Sem.run_pure, Result.andThen_ok] at h1
          have h0 : a.tmps.getD t undef = .pointer (some ⟨b, off, none⟩) := by simp [hc]
          simp only [Sem.run_bind, h0, asAddr, Sem.run_pure, Result.andThen_ok, h1]
      · cases h
    · cases h

theorem run_ress {G : Gh} {N : Nat} {e : Env} {s : Store} {a : Act} {w : World} (he : ERel G N e a) (hw : WRel G s w) : ∀ {rs : List ResultVar} {vs : List AV}, ressA P e s rs = some vs →
    ∃ cs, (rs.mapM (resM a.tmps) : Sem (List Value)).run P w = .ok cs w ∧ RepL G vs cs
  | [], vs, h => by simp only [ressA, Option.some.injEq] at h; subst h; exact ⟨[], rfl, .nil⟩
  | r :: rs, vs, h => by
    simp only [ressA] at h
    split at h
    · rename_i v vs' h1 h2
      cases h
      obtain ⟨c, hc, hr⟩ := run_res he hw h1
      obtain ⟨cs, hcs, hrs⟩ := run_ress he hw h2
      exact ⟨c :: cs, by simp only [List.mapM_cons, Sem.run_bind, hc, Result.andThen_ok, hcs, Sem.run_pure], .cons hr hrs⟩
    · cases h

theorem run_results {G : Gh} {N : Nat} {e : Env} {s : Store} {a : Act} {w : World} (he : ERel G N e a) (hw : WRel G s w) {fn : Func} {v : AV} (h : retA P e s fn.results.toList = some v) :
    ∃ c, (results fn a.tmps).run P w = .ok c w ∧ Rep G v c := by
  unfold retA at h
  have fin : ∀ {vs : List AV}, ressA P e s fn.results.toList = some vs → ∃ cs : List Value, (results fn a.tmps).run P w = .ok (if h : cs.toArray.size = 1 then cs.toArray[0] else .tuple cs.toArray) w ∧ RepL G vs cs := by
    intro vs hvs
    obtain ⟨cs, hcs, hrs⟩ := run_ress he hw hvs
    refine ⟨cs, ?_, hrs⟩
    rw [results_eq, Array.mapM_eq_mapM_toList]
    simp only [Sem.run_bind, Sem.run_map, hcs, Result.andThen_ok]
    rfl
  split at h
  · rename_i v' hv
    cases h
    obtain ⟨cs, hcs, hrs⟩ := fin hv
    obtain ⟨c, rfl, hr⟩ := RepL.one hrs
    exact ⟨c, by rw [hcs]; simp, hr⟩
  · rename_i vs hne hv
    cases h
    obtain ⟨cs, hcs, hrs⟩ := fin hv
    have hlen : cs.length ≠ 1 := by
      intro h1
      rw [← hrs.length] at h1
      obtain ⟨v0, rfl⟩ := List.length_eq_one_iff.1 h1
      exact hne v0 rfl
    exact ⟨.tuple cs.toArray, by rw [hcs, dif_neg (by simpa using hlen)], Rep.tup_of (by simpa using hrs)⟩
  · cases h

def envOf : Nat → List AV → Env
  | _, [] => []
  | k, x :: xs => (k, x) :: envOf (k + 1) xs

theorem envOf_get : ∀ (k : Nat) (xs : List AV) (t : Nat) (x : AV), (envOf k xs).get t = some x → k ≤ t ∧ xs[t - k]? = some x
  | k, [], t, x, h => by simp [envOf, Env.get] at h
  | k, y :: xs, t, x, h => by
    simp only [envOf, Env.get] at h
    split at h
    · rename_i hk; subst hk; cases h; simp
    · obtain ⟨h1, h2⟩ := envOf_get (k + 1) xs t x h
      refine ⟨by omega, ?_⟩
      have : t - k = (t - (k + 1)) + 1 := by omega
      rw [this]; simpa using h2

/-- The same, told by another ghost that knows as much of cells and objects. -/
def Gh.frame (G : Gh) (lo : Nat) (mark : Nat → Obj → Prop) : Gh := { G with lo := lo, mark := mark }

theorem rep_frame {G : Gh} {lo : Nat} {m : Nat → Obj → Prop} {x : AV} {v : Value} (h : Rep G x v) : Rep (G.frame lo m) x v := Rep.over (G := G) (G' := G.frame lo m) (fun _ _ _ h => h) (fun _ _ h => h) h
theorem rep_unframe {G : Gh} {lo : Nat} {m : Nat → Obj → Prop} {x : AV} {v : Value} (h : Rep (G.frame lo m) x v) : Rep G x v := Rep.over (G := G.frame lo m) (G' := G) (fun _ _ _ h => h) (fun _ _ h => h) h
theorem repL_frame {G : Gh} {lo : Nat} {m : Nat → Obj → Prop} : ∀ {xs : List AV} {vs : List Value}, RepL G xs vs → RepL (G.frame lo m) xs vs
  | _, _, .nil => .nil
  | _, _, .cons h t => .cons (rep_frame h) (repL_frame t)

theorem ObjRel.over {G G' : Gh} {w w' : World} {id : Nat} {ob : AObj} (h : ObjRel G w id ob) (hb : G'.base = G.base) (hi : G'.imm = G.imm) (ho : G'.obj = G.obj)
    (hk : ∀ (k : Nat) (o : Obj), w.heap[k]? = some o → (o.isCells = true ∨ ∃ es c, o = Obj.map es c) → w'.heap[k]? = some o) (hmk : ∀ D o, G'.mark D o → G.mark D o) : ObjRel G' w' id ob := by
  have hr : ∀ {x : AV} {v : Value}, Rep G x v → Rep G' x v := fun h => h.over (fun b o c h => by rw [hi]; exact h) (fun i x h => by rw [ho]; exact h)
  have main : ∀ {ob : AObj}, (∃ b n arr ty, ∃ cs : List AV, ob.cells = some cs ∧ G.obj[id]? = some (b, n) ∧ w.heap[b]? = some (.cells arr ty (0, 0)) ∧ arr.size = n ∧ cs.length ≤ n ∧ G.base ≤ b ∧
      (∀ o, G.imm b o = none) ∧ (∀ (i : Nat) (x : AV), cs[i]? = some x → ∃ c, arr[i]? = some c ∧ Rep G x c) ∧ (∀ c ∈ arr.toList, c.oneCell' = true)) →
      ∃ b n arr ty, ∃ cs : List AV, ob.cells = some cs ∧ G'.obj[id]? = some (b, n) ∧ w'.heap[b]? = some (.cells arr ty (0, 0)) ∧ arr.size = n ∧ cs.length ≤ n ∧ G'.base ≤ b ∧
      (∀ o, G'.imm b o = none) ∧ (∀ (i : Nat) (x : AV), cs[i]? = some x → ∃ c, arr[i]? = some c ∧ Rep G' x c) ∧ (∀ c ∈ arr.toList, c.oneCell' = true) := by
    rintro ob ⟨b, n, arr, ty, cs, h1, h2, h3, h4, h5, h6, h7, h8, h9⟩
    exact ⟨b, n, arr, ty, cs, h1, by rw [ho]; exact h2, hk _ _ h3 (.inl rfl), h4, h5, by rw [hb]; exact h6, by rw [hi]; exact h7, fun i x hx => let ⟨c, hc, hrr⟩ := h8 i x hx; ⟨c, hc, hr hrr⟩, h9⟩
  cases ob with
  | dead => trivial
  | mp kv =>
    obtain ⟨b, n, es, clock, h1, h2, h3, h4, h4m, h5, h6⟩ := h
    exact ⟨b, n, es, clock, by rw [ho]; exact h1, hk _ _ h2 (.inr ⟨_, _, rfl⟩), by rw [hb]; exact h3, by rw [hi]; exact h4, (fun D o hD => h4m D o (hmk D o hD)), h5, h6.to fun _ _ _ h => hr h⟩
  | box cs => exact main h
  | vecI k l => exact main h
  | vecR sz rs => exact main h

/-- A world that goes on: cells and maps, marks and what lay below lie as they lay. -/
theorem WRel.over {G : Gh} {σ : Store} {w w' : World} (hw : WRel G σ w) {lo : Nat} {m : Nat → Obj → Prop} (hlo : lo ≤ w'.heap.size) (hs : w.heap.size ≤ w'.heap.size) (h1 : w'.os = w.os) (h2 : w'.tape = w.tape) (h3 : w'.output = w.output)
    (hk : ∀ (k : Nat) (o : Obj), w.heap[k]? = some o → (o.isCells = true ∨ ∃ es c, o = Obj.map es c) → w'.heap[k]? = some o) (hf : ∀ k, k < G.base → w'.heap[k]? = w.heap[k]?)
    (hm : ∀ D o, m D o → G.base ≤ D ∧ w'.heap[D]? = some o ∧ o.isCells = false) (hmm : ∀ D o, m D o → G.mark D o) : WRel (G.frame lo m) σ w' :=
  ⟨hw.len, fun b o c h => by
    obtain ⟨q1, q2⟩ := hw.imm b o c h
    refine ⟨?_, q2⟩
    have hlt := World.block_lt_of_cell? w _ q1
    simp only at hlt
    cases hob : w.heap[b]? with
    | none => rw [Array.getElem?_eq_none_iff] at hob; omega
    | some x =>
      cases x with
      | cells arr ty fr => rw [World.cell?_of_block (w := w) (by rw [hk _ _ hob (.inl rfl), hob])]; exact q1
      | _ => simp [World.cell?, hob] at q1,
    fun id ob h => (hw.objs id ob h).over rfl rfl rfl hk hmm, hw.inj, fun b hb => (hf b hb).trans (hw.frame b hb), Nat.le_trans hw.sz hs, h1.trans hw.os, h2.trans hw.tape, h3.trans hw.output, hm, hlo, hw.globs⟩

theorem putObj_others {w : World} {D k : Nat} {o : Obj} (h : k ≠ D) : (w.putObj D o).heap[k]? = w.heap[k]? := World.putObj_heap_other h

/-- The way out of a frame, past its marks. -/
theorem leaves_marks {G : Gh} {σ : Store} {fn : Func} {tmps : Array Value} {R : Ending → World → Prop} {lo : Nat} {m : Nat → Obj → Prop} (hlo : G.base ≤ lo)
    (hfin : ∀ w, WRel (G.frame lo m) σ w → LeavesIn Fence.wide 0 P fn tmps R [] .returning w) :
    ∀ (Ds : List Nat) (w : World), Ds.Nodup → (∀ D ∈ Ds, lo ≤ D ∧ w.heap[D]? = some (.deferred (some []))) → (∀ D o, m D o → D < lo) → WRel (G.frame lo m) σ w →
      LeavesInM Fence.wide 0 P fn tmps R (Ds.map markOf) .returning w
  | [], w, _, _, _, hw => hfin w hw
  | D :: Ds, w, hn, hD, hm, hw => by
    simp only [List.nodup_cons] at hn
    obtain ⟨q1, q2⟩ := hD D (by simp)
    refine ⟨by simp, .inl ⟨D, _, rfl, run_takeDeferred q2, ?_⟩⟩
    refine leaves_marks hlo hfin Ds _ hn.2 (fun E hE => ?_) hm ?_
    · have hne : E ≠ D := fun e => hn.1 (e ▸ hE)
      exact ⟨(hD E (by simp [hE])).1, by rw [putObj_others hne]; exact (hD E (by simp [hE])).2⟩
    · refine hw.over (lo := lo) (m := m) (by simp; exact hw.grew) (by simp) rfl rfl rfl (fun k o hk hc => ?_) (fun k hk => ?_) (fun E o hE => ?_) (fun _ _ h => h)
      · have hne : k ≠ D := fun e => by
          subst e; rw [q2] at hk; cases hk
          rcases hc with hc | ⟨_, _, hc⟩ <;> cases hc
        rw [putObj_others hne]; exact hk
      · have hne : k ≠ D := by have : k < G.base := hk; omega
        exact putObj_others hne
      · have hne : E ≠ D := by have := hm E o hE; omega
        have := hw.marks E o hE
        exact ⟨this.1, by rw [putObj_others hne]; exact this.2.1, this.2.2⟩

/-- **A function, by its code.** -/
theorem acalls_of_vc {f : FuncId} {fn : Func} {c : Code} {args : List AV} {σ : Store} {R : AV → Store → Prop} (hc : ∀ (vs : Array Value) w, (callFunc f vs).run P w = .ok (.enter f vs) w) (hf : P.funcs[f]? = some fn)
    (hb : fn.body = some c) (hN : codeOk fn.ntmps c = true) (hl : args.length ≤ fn.ntmps) (h : vc P fn.ntmps c (retK P fn.results.toList R) (envOf 0 args) σ) : ACalls P f args σ R := by
  refine ⟨hc, fun G w vs hw hlist => ?_⟩
  have hlen : args.length = vs.size := by simpa using hlist.length
  have hw0 : WRel (G.frame w.heap.size G.mark) σ w := hw.over (Nat.le_refl _) (Nat.le_refl _) rfl rfl rfl (fun _ _ h _ => h) (fun _ _ => rfl) hw.marks (fun _ _ h => h)
  have hmk : ∀ D o, G.mark D o → D < w.heap.size := fun D o hD => (Array.getElem?_eq_some_iff.1 (hw.marks D o hD).2.1).1
  refine (callsIn_wide (n := 0)).1 (callsIn_of_wp_marks hf hb trivial (wpIn_wide.2 (Code.wp_mono ?_ (vc_sound hN h (G.frame w.heap.size G.mark) (G.frame w.heap.size G.mark) { tmps := vs ++ Array.replicate (fn.ntmps - vs.size) undef, defers := [] } w (.refl _) ⟨?_, .nil hw0.globs, fun t x hx => ?_⟩ hw0))) rfl)
  · rintro ex a' w' ⟨G', e', s', h1, h2, h3, h4⟩
    have fin : retK P fn.results.toList R .ret e' s' → LeavesInM Fence.wide 0 P fn a'.tmps (fun e w' => ∃ v r σ' G', e = .returned v ∧ G.le G' ∧ WRel G' σ' w' ∧ Rep G' r v ∧ R r σ') a'.defers .returning w' := by
      intro h4
      simp only [retK] at h4
      split at h4
      · rename_i v hv
        obtain ⟨_, Ds, d1, d2, d3⟩ := h2.2.1
        rw [d1]
        have hlo : G'.lo = w.heap.size := h1.lo
        have hbase : G'.base = G.base := h1.base
        have hbl : G'.base ≤ w.heap.size := by rw [hbase]; exact hw.sz
        have hmarks : ∀ D o, G.mark D o → G'.mark D o := h1.mark
        refine leaves_marks (G := G') (σ := s') (lo := w.heap.size) (m := G.mark) hbl (fun w2 hw2 => ?_) Ds w' d2 (fun D hD => ⟨by rw [← hlo]; exact (d3 D hD).1, (h3.marks D _ (d3 D hD).2).2.1⟩) hmk
          (h3.over (by rw [← hlo]; exact h3.grew) (Nat.le_refl _) rfl rfl rfl (fun _ _ h _ => h) (fun _ _ => rfl) (fun D o hD => h3.marks D o (hmarks D o hD)) hmarks)
        have he2 : ERel (G'.frame w.heap.size G.mark) fn.ntmps e' { tmps := a'.tmps, defers := [] } := ⟨h2.1, .nil h3.globs, fun t x hx => let ⟨c, hc, hr⟩ := h2.2.2 t x hx; ⟨c, hc, rep_frame hr⟩⟩
        obtain ⟨c, hc, hr⟩ := run_results he2 hw2 hv
        refine ⟨c, hc, c, v, s', (G'.frame G.lo G.mark), rfl, ⟨h1.base, h1.w0, h1.imm, h1.obj, rfl, fun _ _ h => h⟩, ?_, rep_frame (rep_unframe hr), h4⟩
        exact hw2.over (lo := G.lo) (m := G.mark) (Nat.le_trans hw.grew hw2.grew) (Nat.le_refl _) rfl rfl rfl (fun _ _ h _ => h) (fun _ _ => rfl) hw2.marks (fun _ _ h => h)
      · exact h4.elim
    cases ex with
    | normal => exact fin h4
    | ret => exact fin h4
    | exit i => exact h4.elim
    | goto i => exact h4.elim
    | panic c => exact h4.elim
    | outgrown => exact h4.elim
  · simp; omega
  · obtain ⟨_, h2⟩ := envOf_get 0 args t x hx
    rw [Nat.sub_zero] at h2
    obtain ⟨v, hv, hr⟩ := hlist.get t x h2
    refine ⟨v, ?_, rep_frame hr⟩
    have hlt : t < vs.size := by have := (List.getElem?_eq_some_iff.1 hv).1; simpa using this
    rw [Array.getElem?_append_left hlt]
    simpa using hv

end Go.Pa

/-! The steps of the reckoning, as equations. -/
namespace Go.Pa
set_option linter.unusedSectionVars false
variable [GTab]
variable {P : Program} {N : Nat}

theorem vc_skip (K : Exit → Env → Store → Prop) (e : Env) (s : Store) : vc P N .skip K e s = K .normal e s := rfl
theorem vc_seq (a b : Code) (K : Exit → Env → Store → Prop) (e : Env) (s : Store) : vc P N (.seq a b) K e s = vc P N a (seqK P N b K) e s := rfl
theorem vc_block (id : Nat) (b : Code) (K : Exit → Env → Store → Prop) (e : Env) (s : Store) : vc P N (.block id b) K e s = vc P N b (blkK id K) e s := rfl
theorem vc_exit (id : Nat) (K : Exit → Env → Store → Prop) (e : Env) (s : Store) : vc P N (.exit id) K e s = K (.exit id) e s := rfl
theorem vc_ret (K : Exit → Env → Store → Prop) (e : Env) (s : Store) : vc P N .ret K e s = K .ret e s := rfl
theorem vc_region (id : Nat) (l : List Oper) (K : Exit → Env → Store → Prop) (e : Env) (s : Store) : vc P N (.region id l.toArray false) K e s = vcOps P l l e s (K .normal) := by
  unfold vc; simp
theorem vc_draw (id : Nat) (l : List Oper) (K : Exit → Env → Store → Prop) (e : Env) (s : Store) : vc P N (.region id l.toArray true) K e s = AWp P N (.region id l.toArray true) K e s := by
  unfold vc; simp
theorem vc_loop (b : Code) (K : Exit → Env → Store → Prop) (e : Env) (s : Store) : vc P N (.loop b) K e s = AWp P N (.loop b) K e s := rfl
theorem vc_range (f : Operand) (ps : Array Tmp) (a b : Code) (K : Exit → Env → Store → Prop) (e : Env) (s : Store) : vc P N (.rangeFunc f ps a b) K e s = AWp P N (.rangeFunc f ps a b) K e s := rfl

def condV (P : Program) (N : Nat) (a b : Code) (K : Exit → Env → Store → Prop) (e : Env) (s : Store) : AV → Prop
  | .bool t => (t = true → vc P N a K e s) ∧ (t = false → vc P N b K e s)
  | _ => False
theorem vc_cond (c : Operand) (a b : Code) (K : Exit → Env → Store → Prop) (e : Env) (s : Store) : vc P N (.cond c a b) K e s = condV P N a b K e s (evO e c) := by
  unfold vc condV; split <;> simp_all
theorem condV_true (a b : Code) (K : Exit → Env → Store → Prop) (e : Env) (s : Store) : condV P N a b K e s (.bool true) = vc P N a K e s := by simp [condV]
theorem condV_false (a b : Code) (K : Exit → Env → Store → Prop) (e : Env) (s : Store) : condV P N a b K e s (.bool false) = vc P N b K e s := by simp [condV]
theorem condV_bool (t : Bool) (a b : Code) (K : Exit → Env → Store → Prop) (e : Env) (s : Store) : condV P N a b K e s (.bool t) = ((t = true → vc P N a K e s) ∧ (t = false → vc P N b K e s)) := rfl

theorem seqK_normal (b : Code) (K : Exit → Env → Store → Prop) (e : Env) (s : Store) : seqK P N b K .normal e s = vc P N b K e s := rfl
theorem seqK_ret (b : Code) (K : Exit → Env → Store → Prop) (e : Env) (s : Store) : seqK P N b K .ret e s = K .ret e s := rfl
theorem seqK_exit (i : Nat) (b : Code) (K : Exit → Env → Store → Prop) (e : Env) (s : Store) : seqK P N b K (.exit i) e s = K (.exit i) e s := rfl
theorem blkK_normal (id : Nat) (K : Exit → Env → Store → Prop) (e : Env) (s : Store) : blkK id K .normal e s = K .normal e s := rfl
theorem blkK_ret (id : Nat) (K : Exit → Env → Store → Prop) (e : Env) (s : Store) : blkK id K .ret e s = K .ret e s := rfl
theorem blkK_exit (id i : Nat) (K : Exit → Env → Store → Prop) (e : Env) (s : Store) : blkK id K (.exit i) e s = if i = id then K .normal e s else K (.exit i) e s := rfl
theorem loopK_ret {S : Type} (st : S → Env) (Inv : S → Store → Prop) (μ : S → Nat) (s : S) (K : Exit → Env → Store → Prop) (e : Env) (σ : Store) : loopK st Inv μ s K .ret e σ = K .ret e σ := rfl
theorem loopK_exit {S : Type} (st : S → Env) (Inv : S → Store → Prop) (μ : S → Nat) (s : S) (K : Exit → Env → Store → Prop) (i : Nat) (e : Env) (σ : Store) : loopK st Inv μ s K (.exit i) e σ = K (.exit i) e σ := rfl
theorem loopK_normal {S : Type} (st : S → Env) (Inv : S → Store → Prop) (μ : S → Nat) (s : S) (K : Exit → Env → Store → Prop) (e : Env) (σ : Store) : loopK st Inv μ s K .normal e σ = ∃ s', (st s').sub e ∧ Inv s' σ ∧ μ s' < μ s := rfl

theorem vcOps_nil (all : List Oper) (e : Env) (s : Store) (K : Env → Store → Prop) : vcOps P all [] e s K = K e s := rfl
theorem vcOps_cons (all os : List Oper) (d : Option Tmp) (op : Op) (ty : TypeId) (pos : String) (af : Array Edge) (e : Env) (s : Store) (K : Env → Store → Prop) :
    vcOps P all (⟨d, op, ty, pos, af, none⟩ :: os) e s K = vcOp P e s (opK P all os d e K) op := rfl
def guardV (P : Program) (all os : List Oper) (d : Option Tmp) (op : Op) (want : Bool) (e : Env) (s : Store) (K : Env → Store → Prop) (t : Tmp) : AV → Prop
  | .bool c => (c = want → vcOp P ((t, .bool want) :: e) s (opK P all os d ((t, .bool want) :: e) K) op) ∧ (c = (!want) → vcOps P all os (Env.put ((t, .bool (!want)) :: e) d (.tup [])) s K)
  | .tup [] => vcOps P all os (Env.put e d (.tup [])) s K
  | _ => False
def lookA : Env → Nat → AV
  | [], _ => .any
  | (t, v) :: e, u => if t = u then v else lookA e u
theorem lookA_get (e : Env) (t : Nat) : (match e.get t with | some x => x | none => .any) = lookA e t := by
  induction e with
  | nil => rfl
  | cons p e ih =>
    obtain ⟨u, v⟩ := p
    simp only [Env.get, lookA]
    by_cases hu : u = t
    · simp only [hu, if_true]
    · simp only [hu, if_false]; exact ih
theorem lookA_bool {e : Env} {t : Nat} {c : Bool} (h : lookA e t = .bool c) : e.get t = some (.bool c) := by
  rw [← lookA_get] at h
  cases hg : e.get t with
  | none => rw [hg] at h; cases h
  | some x => rw [hg] at h; simp only at h; rw [h]
def guardT (all : List Oper) (j : Nat) : Tmp := match (all[j]?).bind (·.dst) with | some t => t | none => 0
theorem vcOps_guard (all os : List Oper) (d : Option Tmp) (op : Op) (ty : TypeId) (pos : String) (af : Array Edge) (j : Nat) (want : Bool) (e : Env) (s : Store) (K : Env → Store → Prop) (t : Tmp) (ht : (all[j]?).bind (·.dst) = some t) :
    vcOps P all (⟨d, op, ty, pos, af, some (j, want)⟩ :: os) e s K = guardV P all os d op want e s K t (lookA e t) := by
  unfold vcOps guardV
  simp only [ht]
  rw [← lookA_get]
  cases hg : e.get t with
  | none => rfl
  | some x =>
    cases x with
    | tup l => cases l <;> rfl
    | _ => rfl
theorem guardV_und (all os : List Oper) (d : Option Tmp) (op : Op) (want : Bool) (e : Env) (s : Store) (K : Env → Store → Prop) (t : Tmp) :
    guardV P all os d op want e s K t (.tup []) = vcOps P all os (Env.put e d (.tup [])) s K := rfl
theorem guardV_bool (all os : List Oper) (d : Option Tmp) (op : Op) (want : Bool) (e : Env) (s : Store) (K : Env → Store → Prop) (t : Tmp) (c : Bool) :
    guardV P all os d op want e s K t (.bool c) = ((c = want → vcOp P ((t, .bool want) :: e) s (opK P all os d ((t, .bool want) :: e) K) op) ∧ (c = (!want) → vcOps P all os (Env.put ((t, .bool (!want)) :: e) d (.tup [])) s K)) := rfl
theorem guardV_same (all os : List Oper) (d : Option Tmp) (op : Op) (e : Env) (s : Store) (K : Env → Store → Prop) (t : Tmp) (b : Bool) :
    guardV P all os d op b e s K t (.bool b) = vcOp P ((t, .bool b) :: e) s (opK P all os d ((t, .bool b) :: e) K) op := by
  cases b <;> simp [guardV]
theorem guardV_tf (all os : List Oper) (d : Option Tmp) (op : Op) (e : Env) (s : Store) (K : Env → Store → Prop) (t : Tmp) :
    guardV P all os d op true e s K t (.bool false) = vcOps P all os (Env.put ((t, .bool false) :: e) d (.tup [])) s K := by simp [guardV]
theorem guardV_ft (all os : List Oper) (d : Option Tmp) (op : Op) (e : Env) (s : Store) (K : Env → Store → Prop) (t : Tmp) :
    guardV P all os d op false e s K t (.bool true) = vcOps P all os (Env.put ((t, .bool true) :: e) d (.tup [])) s K := by simp [guardV]

def outV (P : Program) (e : Env) (s : Store) (R : AV → Store → Prop) (op : Op) : ERA → Prop
  | .val v => R v s
  | .need p v => p ∧ R v s
  | .no => vcS P e s R op
theorem vcOp_out (e : Env) (s : Store) (R : AV → Store → Prop) (op : Op) : vcOp P e s R op = outV P e s R op (evA P e op) := by
  unfold vcOp outV; split <;> simp_all
theorem outV_val (e : Env) (s : Store) (R : AV → Store → Prop) (op : Op) (v : AV) : outV P e s R op (.val v) = R v s := rfl
theorem outV_need (e : Env) (s : Store) (R : AV → Store → Prop) (op : Op) (p : Prop) (v : AV) : outV P e s R op (.need p v) = (p ∧ R v s) := rfl
theorem outV_no (e : Env) (s : Store) (R : AV → Store → Prop) (op : Op) : outV P e s R op .no = vcS P e s R op := rfl
theorem opK_run (all os : List Oper) (d : Tmp) (e : Env) (K : Env → Store → Prop) (v : AV) (s : Store) : opK P all os (some d) e K v s = vcOps P all os ((d, v) :: e) s K := rfl
theorem opK_none (all os : List Oper) (e : Env) (K : Env → Store → Prop) (v : AV) (s : Store) : opK P all os none e K v s = vcOps P all os e s K := rfl

theorem evO_tmp (e : Env) (t : Nat) : evO e (.tmp t) = lookA e t := lookA_get e t
theorem evO_int (e : Env) (k : IntKind) (n : Int) : evO e (.const (.int k n)) = .int k n := rfl
theorem evO_bool (e : Env) (b : Bool) : evO e (.const (.bool b)) = .bool b := rfl
theorem evO_nils (e : Env) : evO e (.const (.slice none 0 0)) = .nils := rfl
theorem evO_nilp (e : Env) : evO e (.const (.pointer none)) = .nilp := rfl
theorem evO_nilf (e : Env) : evO e (.const .nilFunc) = .nilf := rfl
theorem evO_nilm (e : Env) : evO e (.const (.map none)) = .nilm := rfl
theorem evO_str (e : Env) (l : List UInt8) : evO e (.const (.string ⟨l.toArray⟩)) = .str (l.map fun b => (b.toNat : Int)) := rfl
theorem evO_func (e : Env) (f : FuncId) : evO e (.func f) = .fn f [] [] := rfl
theorem evO_glob (e : Env) (g : Nat) : evO e (.global g) = globA g := rfl

theorem lookA_cons (t u : Nat) (v : AV) (e : Env) : lookA ((t, v) :: e) u = if t = u then v else lookA e u := rfl
theorem get_cons (t u : Nat) (v : AV) (e : Env) : Env.get ((t, v) :: e) u = if t = u then some v else Env.get e u := rfl
theorem sub_cons (t : Nat) (v : AV) (e f : Env) : Env.sub ((t, v) :: e) f = (f.get t = some v ∧ Env.sub e f) := rfl
theorem sub_nil (f : Env) : Env.sub [] f = True := rfl

theorem retK_ret (rs : List ResultVar) (R : AV → Store → Prop) (e : Env) (s : Store) : retK P rs R .ret e s = (match retA P e s rs with | some v => R v s | none => False) := rfl
theorem retK_normal (rs : List ResultVar) (R : AV → Store → Prop) (e : Env) (s : Store) : retK P rs R .normal e s = (match retA P e s rs with | some v => R v s | none => False) := rfl
theorem sto_assoc (a b c : List AObj) : a ++ b ++ c = a ++ (b ++ c) := List.append_assoc a b c
theorem sto_len (a b : List AObj) : (a ++ b).length = a.length + b.length := List.length_append
theorem sto_at (a b : List AObj) (k : Nat) : (a ++ b)[a.length + k]? = b[k]? := by rw [List.getElem?_append_right (by omega), Nat.add_sub_cancel_left]
theorem sto_at0 (a b : List AObj) : (a ++ b)[a.length]? = b[0]? := by rw [List.getElem?_append_right (by omega), Nat.sub_self]
theorem sto_set (a b : List AObj) (k : Nat) (x : AObj) : (a ++ b).set (a.length + k) x = a ++ b.set k x := by rw [List.set_append_right _ _ (by omega), Nat.add_sub_cancel_left]
theorem sto_set0 (a b : List AObj) (x : AObj) : (a ++ b).set a.length x = a ++ b.set 0 x := by rw [List.set_append_right _ _ (by omega), Nat.sub_self]
theorem cO_int (k : IntKind) (n : Int) : AV.cellsOf (.int k n) = some [.int k n] := rfl
theorem cO_bool (b : Bool) : AV.cellsOf (.bool b) = some [.bool b] := rfl
theorem cO_str (l : List Int) : AV.cellsOf (.str l) = some [.str l] := rfl
theorem cO_nils  : AV.cellsOf (.nils) = some [.nils] := rfl
theorem cO_emp  : AV.cellsOf (.emp) = some [.emp] := rfl
theorem cO_ints (k : IntKind) (l : List Int) : AV.cellsOf (.ints k l) = some [.ints k l] := rfl
theorem cO_rows (z : Nat) (l : List (List AV)) : AV.cellsOf (.rows z l) = some [.rows z l] := rfl
theorem cO_mvec (a b c d : Nat) : AV.cellsOf (.mvec a b c d) = some [.mvec a b c d] := rfl
theorem cO_ptr (a b : Nat) : AV.cellsOf (.ptr a b) = some [.ptr a b] := rfl
theorem cO_eptr (a b c d : Nat) : AV.cellsOf (.eptr a b c d) = some [.eptr a b c d] := rfl
theorem cO_iptr (l : List AV) : AV.cellsOf (.iptr l) = some [.iptr l] := rfl
theorem cO_nilp  : AV.cellsOf (.nilp) = some [.nilp] := rfl
theorem cO_fn (f : FuncId) (a b : List AV) : AV.cellsOf (.fn f a b) = some [.fn f a b] := rfl
theorem cO_nilf  : AV.cellsOf (.nilf) = some [.nilf] := rfl
theorem cO_mp (a : Nat) : AV.cellsOf (.mp a) = some [.mp a] := rfl
theorem cO_nilm  : AV.cellsOf (.nilm) = some [.nilm] := rfl
theorem cO_glob (a : Nat) : AV.cellsOf (.glob a) = some [.glob a] := rfl
theorem cO_agg (cs : List AV) : AV.cellsOf (.agg cs) = if cs.all AV.cell then some cs else none := rfl
end Go.Pa

/-! What a call hands back is frozen; what is handed to a call is lent. -/
namespace Go.Pa
set_option linter.unusedSectionVars false
variable [GTab]
variable {P : Program}

mutual
/-- All objects that are named are among the first n. -/
def AV.lt (n : Nat) : AV → Bool
  | .mvec id _ _ _ => decide (id < n)
  | .ptr id _ => decide (id < n)
  | .eptr id _ _ _ => decide (id < n)
  | .mp id => decide (id < n)
  | .rows _ rs => ltLL n rs
  | .agg cs => ltL n cs
  | .iptr cs => ltL n cs
  | .tup cs => ltL n cs
  | .fn _ a b => ltL n a && ltL n b
  | _ => true
def ltL (n : Nat) : List AV → Bool
  | [] => true
  | x :: xs => x.lt n && ltL n xs
def ltLL (n : Nat) : List (List AV) → Bool
  | [] => true
  | x :: xs => ltL n x && ltLL n xs
end

/-- No object is named. -/
abbrev AV.noRef (x : AV) : Bool := x.lt 0

theorem ltL_get {n : Nat} : ∀ {xs : List AV}, ltL n xs = true → ∀ (i : Nat) x, xs[i]? = some x → x.lt n = true
  | [], _, i, x, h => by simp at h
  | y :: ys, hn, i, x, h => by
    simp only [ltL, Bool.and_eq_true] at hn
    cases i with
    | zero => simp at h; subst h; exact hn.1
    | succ i => simp at h; exact ltL_get hn.2 i x h
theorem ltL_of {n : Nat} : ∀ {xs : List AV}, (∀ (i : Nat) x, xs[i]? = some x → x.lt n = true) → ltL n xs = true
  | [], _ => rfl
  | y :: ys, h => by
    simp only [ltL, Bool.and_eq_true]
    exact ⟨h 0 y (by simp), ltL_of fun i x hx => h (i + 1) x (by simpa using hx)⟩
theorem ltL_append {n : Nat} : ∀ {xs ys : List AV}, ltL n (xs ++ ys) = (ltL n xs && ltL n ys)
  | [], _ => by simp [ltL]
  | x :: xs, ys => by simp [ltL, ltL_append, Bool.and_assoc]
theorem ltLL_flatten {n : Nat} : ∀ {rs : List (List AV)}, ltLL n rs = ltL n rs.flatten
  | [] => rfl
  | r :: rs => by simp [ltLL, ltL_append, ltLL_flatten]
theorem ltLL_map {α : Type} {n : Nat} (f : α → List AV) (h : ∀ a, ltL n (f a) = true) : ∀ l : List α, ltLL n (l.map f) = true
  | [] => rfl
  | a :: l => by simp only [List.map_cons, ltLL, h a, ltLL_map f h l, Bool.and_self]

/-- What a value hangs on. -/
theorem Rep.keep {n : Nat} {G G' : Gh} (hi : ∀ b o c, G.imm b o = some c → G'.imm b o = some c) (ho' : ∀ (i : Nat) x, i < n → G.obj[i]? = some x → G'.obj[i]? = some x) {x : AV} {v : Value} (h : Rep G x v) : x.lt n = true → Rep G' x v := by
  induction h with
  | any v => intro _; exact .any v
  | int k n => intro _; exact .int k n
  | bool b => intro _; exact .bool b
  | str l s h => intro _; exact .str l s h
  | nils => intro _; exact .nils
  | emp a => intro _; exact .emp a
  | ints0 k a cap => intro _; exact .ints0 k a cap
  | ints k l b o cap hc h => intro _; exact .ints k l b o cap hc fun i x hx => hi _ _ _ (h i x hx)
  | rows0 sz a cap => intro _; exact .rows0 sz a cap
  | rows sz rs b o cap f hc hs h _ ih =>
    intro hn
    have hn' : ltL n rs.flatten = true := by rw [← ltLL_flatten]; simpa only [AV.lt] using hn
    exact .rows sz rs b o cap f hc hs (fun i x hx => hi _ _ _ (h i x hx)) fun i x hx => ih i x hx (ltL_get hn' i x hx)
  | mvec id off len sz cap b m ho hc hf => intro hn; simp only [AV.lt, decide_eq_true_eq] at hn; exact .mvec id off len sz cap b m (ho' _ _ hn ho) hc hf
  | agg cs vs f hl h _ ih =>
    intro hn
    have hn' : ltL n cs = true := by simpa only [AV.lt] using hn
    exact .agg cs vs f hl h fun i x hx => ih i x hx (ltL_get hn' i x hx)
  | ptr id off b m ho => intro hn; simp only [AV.lt, decide_eq_true_eq] at hn; exact .ptr id off b m (ho' _ _ hn ho)
  | eptr id i sz off b m ho => intro hn; simp only [AV.lt, decide_eq_true_eq] at hn; exact .eptr id i sz off b m (ho' _ _ hn ho)
  | iptr cs b o f h _ ih =>
    intro hn
    have hn' : ltL n cs = true := by simpa only [AV.lt] using hn
    exact .iptr cs b o f (fun i x hx => hi _ _ _ (h i x hx)) fun i x hx => ih i x hx (ltL_get hn' i x hx)
  | nilp => intro _; exact .nilp
  | fn f fs cs gs hs p q hl hl' h _ h' _ ih ih' =>
    intro hn
    have hn' : ltL n fs = true ∧ ltL n cs = true := by simpa only [AV.lt, Bool.and_eq_true] using hn
    exact .fn f fs cs gs hs p q hl hl' h (fun i x hx => ih i x hx (ltL_get hn'.1 i x hx)) h' (fun i x hx => ih' i x hx (ltL_get hn'.2 i x hx))
  | nilf => intro _; exact .nilf
  | mp id b m ho => intro hn; simp only [AV.lt, decide_eq_true_eq] at hn; exact .mp id b m (ho' _ _ hn ho)
  | nilm => intro _; exact .nilm
  | tup cs vs f hl h _ ih =>
    intro hn
    have hn' : ltL n cs = true := by simpa only [AV.lt] using hn
    exact .tup cs vs f hl h fun i x hx => ih i x hx (ltL_get hn' i x hx)
  | glob g => intro _; exact .glob g

theorem Rep.noRef {G G' : Gh} (hi : ∀ b o c, G.imm b o = some c → G'.imm b o = some c) {x : AV} {v : Value} (h : Rep G x v) (hx : x.noRef = true) : Rep G' x v :=
  h.keep (n := 0) hi (fun _ _ h => absurd h (Nat.not_lt_zero _)) hx

/-- What is told of in a ghost names its objects alone. -/
theorem Rep.lt {G : Gh} {x : AV} {v : Value} (h : Rep G x v) : x.lt G.obj.length = true := by
  induction h with
  | rows sz rs b o cap f hc hs h _ ih => simp only [AV.lt, ltLL_flatten]; exact ltL_of ih
  | rows0 sz a cap => simp only [AV.lt, ltLL]
  | mvec id off len sz cap b m ho hc hf => simp only [AV.lt, decide_eq_true_eq]; exact (List.getElem?_eq_some_iff.1 ho).1
  | agg cs vs f hl h _ ih => simp only [AV.lt]; exact ltL_of ih
  | ptr id off b m ho => simp only [AV.lt, decide_eq_true_eq]; exact (List.getElem?_eq_some_iff.1 ho).1
  | eptr id i sz off b m ho => simp only [AV.lt, decide_eq_true_eq]; exact (List.getElem?_eq_some_iff.1 ho).1
  | iptr cs b o f h _ ih => simp only [AV.lt]; exact ltL_of ih
  | fn f fs cs gs hs p q hl hl' h _ h' _ ih ih' => simp only [AV.lt, Bool.and_eq_true]; exact ⟨ltL_of ih, ltL_of ih'⟩
  | mp id b m ho => simp only [AV.lt, decide_eq_true_eq]; exact (List.getElem?_eq_some_iff.1 ho).1
  | tup cs vs f hl h _ ih => simp only [AV.lt]; exact ltL_of ih
  | _ => simp only [AV.lt]

/-- All values of an object name objects among the first n. -/
def AObj.lt (n : Nat) : AObj → Prop
  | .mp m => ∀ x, m.has x → x.lt n = true
  | ob => ∀ cs, ob.cells = some cs → ltL n cs = true

theorem ObjRel.lt {G : Gh} {w : World} {id : Nat} {ob : AObj} (h : ObjRel G w id ob) : ob.lt G.obj.length := by
  have main : ∀ cs, ob.cells = some cs → ltL G.obj.length cs = true := by
    intro cs hc
    obtain ⟨b, n, arr, ty, _, _, _, _, _, _, h7, _⟩ := h.get hc
    exact ltL_of fun i x hx => let ⟨v, _, hr⟩ := h7.get i x hx; hr.lt
  cases ob with
  | mp kv =>
    obtain ⟨b, n, es, clock, h1, h2, h3, h4, h4m, h5, h6⟩ := h
    intro x hx
    cases kv with
    | kv l c =>
      obtain ⟨i, p, hp, rfl | rfl⟩ := hx
      · obtain ⟨e, _, hk, hv, _⟩ := h6.2.2 i p hp; exact hk.lt
      · obtain ⟨e, _, hk, hv, _⟩ := h6.2.2 i p hp; exact hv.lt
    | memo Q => exact hx.elim
  | dead => exact main
  | box cs => exact main
  | vecI k l => exact main
  | vecR sz rs => exact main

/-- 'y' is what 'x' becomes when all objects from n on are frozen. -/
inductive Frz (s : Store) (n : Nat) : AV → AV → Prop
  | same (x : AV) (h : x.noRef = true) : Frz s n x x
  | nilI (k : IntKind) : Frz s n .nils (.ints k [])
  | nilR (sz : Nat) : Frz s n .nils (.rows sz [])
  | empI (k : IntKind) : Frz s n .emp (.ints k [])
  | empR (sz : Nat) : Frz s n .emp (.rows sz [])
  | vecI (id off len : Nat) (k : IntKind) (l : List Int) (h : s[id]? = some (.vecI k l)) (hn : n ≤ id) (hl : off + len ≤ l.length) : Frz s n (.mvec id off len 1) (.ints k ((l.drop off).take len))
  | vecR (id off len sz : Nat) (rs rs' : List (List AV)) (h : s[id]? = some (.vecR sz rs)) (hn : n ≤ id) (hl : off + len ≤ rs.length) (hl' : rs'.length = len) (hs : ∀ r ∈ rs', r.length = sz)
      (hf : ∀ (i : Nat) x y, ((rs.drop off).take len).flatten[i]? = some x → rs'.flatten[i]? = some y → Frz s n x y) : Frz s n (.mvec id off len sz) (.rows sz rs')
  | agg (cs ds : List AV) (hl : cs.length = ds.length) (h : ∀ (i : Nat) x y, cs[i]? = some x → ds[i]? = some y → Frz s n x y) : Frz s n (.agg cs) (.agg ds)
  | tup (cs ds : List AV) (hl : cs.length = ds.length) (h : ∀ (i : Nat) x y, cs[i]? = some x → ds[i]? = some y → Frz s n x y) : Frz s n (.tup cs) (.tup ds)

open Classical in
/-- The ghost in which all own blocks but those of the first n objects never turn. -/
noncomputable def Gh.freeze (G : Gh) (n : Nat) (σ : Store) (w : World) : Gh :=
  { G with obj := G.obj.take n, imm := fun b o =>
      if G.base ≤ b ∧ ¬ ∃ (i : Nat) (ob : AObj) (m : Nat), i < n ∧ σ[i]? = some ob ∧ ob.live = true ∧ G.obj[i]? = some (b, m) then
        match w.cell? ⟨b, o, none⟩ with
        | some c => if c.oneCell' then some c else none
        | none => none
      else G.imm b o }

theorem Gh.freeze_imm {G : Gh} {n : Nat} {σ : Store} {w : World} (hw : WRel G σ w) (b o : Nat) (c : Value) (h : G.imm b o = some c) : (G.freeze n σ w).imm b o = some c := by
  have := hw.imm b o c h
  unfold Gh.freeze
  simp only
  split
  · rw [this.1]; simp [this.2]
  · exact h

theorem WRel.freeze {G : Gh} {n : Nat} {σ : Store} {w : World} (hw : WRel G σ w) (hlt : ∀ (i : Nat) x, i < n → σ[i]? = some x → x.lt n) : WRel (G.freeze n σ w) (σ.take n) w := by
  have hobj : ∀ (i : Nat) x, (G.obj.take n)[i]? = some x → i < n ∧ G.obj[i]? = some x := by
    intro i x h
    rw [List.getElem?_take] at h
    split at h
    · rename_i hi; exact ⟨hi, h⟩
    · cases h
  have hst : ∀ (i : Nat) x, (σ.take n)[i]? = some x → i < n ∧ σ[i]? = some x := by
    intro i x h
    rw [List.getElem?_take] at h
    split at h
    · rename_i hi; exact ⟨hi, h⟩
    · cases h
  refine ⟨?_, fun b o c h => ?_, fun i x hx => ?_, fun i j oi oj bi bj a1 a2 a3 a4 a5 a6 a7 => hw.inj i j oi oj bi bj (hst i oi a1).2 (hst j oj a2).2 a3 a4 (hobj i bi a5).2 (hobj j bj a6).2 a7, hw.frame, hw.sz, hw.os, hw.tape, hw.output, hw.marks, hw.grew, hw.globs.mono (Gh.freeze_imm hw)⟩
  · show (G.obj.take n).length = (σ.take n).length
    simp [hw.len]
  · unfold Gh.freeze at h
    simp only at h
    split at h
    · split at h
      · rename_i c' hc'
        split at h
        · rename_i h1; cases h; exact ⟨hc', h1⟩
        · cases h
      · cases h
    · exact hw.imm b o c h
  · obtain ⟨hi, hx'⟩ := hst i x hx
    have h0 := hw.objs i x hx'
    have hl0 := hlt i x hi hx'
    have hkeep : ∀ {y : AV} {v : Value}, Rep G y v → y.lt n = true → Rep (G.freeze n σ w) y v := fun hr hy =>
      hr.keep (n := n) (Gh.freeze_imm hw) (fun j z hj hz => by
        show (G.obj.take n)[j]? = _
        rw [List.getElem?_take, if_pos hj]; exact hz) hy
    have hob : ∀ b m, G.obj[i]? = some (b, m) → (G.freeze n σ w).obj[i]? = some (b, m) := by
      intro b m hb
      show (G.obj.take n)[i]? = _
      rw [List.getElem?_take, if_pos hi]; exact hb
    have himm : x.live = true → ∀ b m, G.obj[i]? = some (b, m) → (∀ o, G.imm b o = none) → ∀ o, (G.freeze n σ w).imm b o = none := by
      intro hl b m hb h0 o
      unfold Gh.freeze
      simp only
      rw [if_neg]
      · exact h0 o
      · rintro ⟨_, hne⟩; exact hne ⟨i, x, m, hi, hx', hl, hb⟩
    cases hc : x.cells with
    | some cs =>
      have hl : x.live = true := by cases x <;> first | rfl | cases hc
      obtain ⟨b, m, arr, ty, q1, q2, q3, q4, q5, q6, q7, q8⟩ := h0.get hc
      have hcs : ltL n cs = true := by
        cases x with
        | mp kv => cases hc
        | dead => cases hc
        | box _ => exact hl0 cs hc
        | vecI _ _ => exact hl0 cs hc
        | vecR _ _ => exact hl0 cs hc
      have q7' : RepL (G.freeze n σ w) cs (arr.toList.take cs.length) := RepL.of_get q7.length fun j y hy => let ⟨v, hv, hr⟩ := q7.get j y hy; ⟨v, hv, hkeep hr (ltL_get hcs j y hy)⟩
      exact objRel_mk hc (hob b m q1) q2 q3 q5 (himm hl b m q1 q6) _ q7' (fun j c hcc => by
        rw [List.getElem?_take] at hcc
        split at hcc
        · simpa using hcc
        · cases hcc) q8
    | none =>
      cases x with
      | dead => trivial
      | mp kv =>
        obtain ⟨b, m, es, clock, q1, q2, q3, q4, q4m, q5, q6⟩ := h0
        exact ⟨b, m, es, clock, hob b m q1, q2, q3, himm rfl b m q1 q4, q4m, q5, q6.to fun x v hx h => hkeep h (hl0 x hx)⟩
      | box _ => cases hc
      | vecI _ _ => cases hc
      | vecR sz rs =>
        obtain ⟨_, _, _, _, cs, q, _⟩ := h0
        rw [hc] at q; cases q

/-- What is frozen is told of by the frozen ghost. -/
theorem Frz.rep {G : Gh} {n : Nat} {σ : Store} {w : World} (hw : WRel G σ w) {x y : AV} (h : Frz σ n x y) : ∀ {v : Value}, Rep G x v → Rep (G.freeze n σ w) y v := by
  -- the cells of an object from n on
  have block : ∀ {id : Nat} {ob : AObj} {b m : Nat}, σ[id]? = some ob → ob.live = true → n ≤ id → G.obj[id]? = some (b, m) → ∀ o c, w.cell? ⟨b, o, none⟩ = some c → c.oneCell' = true → (G.freeze n σ w).imm b o = some c := by
    intro id ob b m ho hl hn hb o c hc h1
    obtain ⟨b', m', q1, q2, q3, q4⟩ := (hw.objs id ob ho).block hl
    rw [hb] at q1; cases q1
    unfold Gh.freeze
    simp only
    rw [if_pos, hc]
    · simp [h1]
    · refine ⟨q3, ?_⟩
      rintro ⟨i, oi, mi, hi, h2, h3, h4⟩
      have := hw.inj i id oi ob _ _ h2 ho h3 hl h4 hb rfl
      omega
  induction h with
  | same x hx => intro v hr; exact hr.noRef (Gh.freeze_imm hw) hx
  | nilI k => intro v hr; cases hr; exact .ints0 k none 0
  | nilR sz => intro v hr; cases hr; exact .rows0 sz none 0
  | empI k => intro v hr; cases hr; exact .ints0 k _ 0
  | empR sz => intro v hr; cases hr; exact .rows0 sz _ 0
  | vecI id off len k l ho hn hl =>
    intro v hr
    cases hr with
    | mvec _ _ _ _ cap b m hb hcap hfit =>
    obtain ⟨b', m', arr, ty, q1, q2, q3, q4, q5, q6, q7, q8⟩ := (hw.objs id _ ho).get (cs := l.map (AV.int k)) rfl
    rw [hb] at q1; cases q1
    have hlen : ((l.drop off).take len).length = len := by simp; omega
    have key : Rep (G.freeze n σ w) (.ints k ((l.drop off).take len)) (.slice (some ⟨b, off * 1, none⟩) ((l.drop off).take len).length cap) := by
      refine .ints k _ b _ cap (by omega) fun i x hx => ?_
      rw [List.getElem?_take] at hx
      split at hx
      · rw [List.getElem?_drop] at hx
        obtain ⟨c, hc, hr⟩ := q7.get (off + i) (.int k x) (by simp [hx])
        cases hr
        rw [List.getElem?_take] at hc
        split at hc
        · refine block ho rfl hn hb _ _ ?_ rfl
          rw [cell_of_row w b _ arr ty _ q2, Nat.mul_one]
          simpa using hc
        · cases hc
      · cases hx
    rw [hlen] at key
    exact key
  | vecR id off len sz rs rs' ho hn hl hl' hs hf ih =>
    intro v hr
    cases hr with
    | mvec _ _ _ _ cap b m hb hcap hfit =>
    obtain ⟨cs0, hcs0⟩ : ∃ cs, (AObj.vecR sz rs).cells = some cs := by
      obtain ⟨_, _, _, _, cs0, q, _⟩ := hw.objs id _ ho
      exact ⟨cs0, q⟩
    have hall : ∀ r ∈ rs, r.length = sz := by
      simp only [AObj.cells] at hcs0
      split at hcs0
      · assumption
      · cases hcs0
    obtain ⟨b', m', arr, ty, q1, q2, q3, q4, q5, q6, q7, q8⟩ := (hw.objs id _ ho).get (cs := rs.flatten) (by simp only [AObj.cells]; rw [if_pos hall])
    rw [hb] at q1; cases q1
    have hsub := sub_flatten hall off len
    have hfl' : rs'.flatten.length = rs'.length * sz := Cont.cells_length (c := .R sz rs') ⟨rfl, hs⟩
    have hfl : ((rs.drop off).take len).flatten.length = len * sz := by
      have h1 : ∀ r ∈ (rs.drop off).take len, r.length = sz := fun r hr => hall r (List.mem_of_mem_drop (List.mem_of_mem_take hr))
      have h2 := Cont.cells_length (c := .R sz ((rs.drop off).take len)) ⟨rfl, h1⟩
      simp only [Cont.cells, Cont.len] at h2
      rw [h2]; congr 1; simp; omega
    -- each cell
    have cell : ∀ (i : Nat) y, rs'.flatten[i]? = some y → ∃ c, (G.freeze n σ w).imm b (off * sz + i) = some c ∧ Rep (G.freeze n σ w) y c := by
      intro i y hy
      have hi : i < ((rs.drop off).take len).flatten.length := by
        have := (List.getElem?_eq_some_iff.1 hy).1
        rw [hfl, ← hl', ← hfl']; exact this
      have hx := List.getElem?_eq_getElem hi
      obtain ⟨c, hc, hr⟩ := q7.get _ _ (hsub i _ hx)
      rw [List.getElem?_take] at hc
      split at hc
      · have hcell : w.cell? ⟨b, off * sz + i, none⟩ = some c := by
          rw [cell_of_row w b _ arr ty _ q2]; simpa using hc
        exact ⟨c, block ho rfl hn hb _ _ hcell (q8 c (List.mem_of_getElem? hc)), ih i _ y hx hy hr⟩
      · cases hc
    rw [← hl']
    have hcap' : rs'.length ≤ cap := by omega
    refine .rows sz rs' b _ cap (fun i => ((G.freeze n σ w).imm b (off * sz + i)).getD (.bool false)) hcap' hs (fun i y hy => ?_) (fun i y hy => ?_)
    · obtain ⟨c, h1, _⟩ := cell i y hy; rw [h1]; rfl
    · obtain ⟨c, h1, h2⟩ := cell i y hy; rw [h1]; exact h2
  | agg cs ds hl h ih =>
    intro v hr
    obtain ⟨vs, rfl, hrl⟩ := hr.agg_inv
    refine Rep.agg_of (RepL.of_get (by rw [← hl]; exact hrl.length) fun i y hy => ?_)
    have hi : i < cs.length := by rw [hl]; exact (List.getElem?_eq_some_iff.1 hy).1
    obtain ⟨c, hc, hr⟩ := hrl.get i _ (List.getElem?_eq_getElem hi)
    exact ⟨c, hc, ih i _ y (List.getElem?_eq_getElem hi) hy hr⟩
  | tup cs ds hl h ih =>
    intro v hr
    obtain ⟨vs, rfl, hrl⟩ := hr.tup_inv
    refine Rep.tup_of (RepL.of_get (by rw [← hl]; exact hrl.length) fun i y hy => ?_)
    have hi : i < cs.length := by rw [hl]; exact (List.getElem?_eq_some_iff.1 hy).1
    obtain ⟨c, hc, hr⟩ := hrl.get i _ (List.getElem?_eq_getElem hi)
    exact ⟨c, hc, ih i _ y (List.getElem?_eq_getElem hi) hy hr⟩

/-- What was there is as it was. -/
def Ext (s s' : Store) : Prop := ∀ (i : Nat) x, s[i]? = some x → s'[i]? = some x

theorem Ext.refl (s : Store) : Ext s s := fun _ _ h => h
theorem Ext.trans {a b c : Store} (h : Ext a b) (k : Ext b c) : Ext a c := fun i x hx => k i x (h i x hx)
theorem Ext.push {a b : Store} (h : Ext a b) (x : AObj) : Ext a (b ++ [x]) := fun i y hy => by
  have := h i y hy
  rw [List.getElem?_append_left (List.getElem?_eq_some_iff.1 this).1]; exact this
theorem Ext.set {a b : Store} (h : Ext a b) {i : Nat} (hi : a.length ≤ i) (x : AObj) : Ext a (b.set i x) := fun j y hy => by
  have hj := (List.getElem?_eq_some_iff.1 hy).1
  rw [List.getElem?_set, if_neg (by omega)]; exact h j y hy
theorem Ext.len {a b : Store} (h : Ext a b) : a.length ≤ b.length := by
  rcases Nat.eq_zero_or_pos a.length with h0 | h0
  · omega
  · have := h (a.length - 1) a[a.length - 1] (List.getElem?_eq_getElem (by omega))
    have := (List.getElem?_eq_some_iff.1 this).1
    omega
theorem Ext.take {a b : Store} (h : Ext a b) : b.take a.length = a := by
  apply List.ext_getElem?
  intro i
  rw [List.getElem?_take]
  split
  · rename_i hi
    rw [h i _ (List.getElem?_eq_getElem hi), List.getElem?_eq_getElem hi]
  · rename_i hi; rw [List.getElem?_eq_none (by omega)]

/-- **A call that leaves the store as it was**: what it made is frozen, and forgotten where it is not handed back. -/
theorem ACalls.frozen {f : FuncId} {args : List AV} {σ : Store} {v : AV} (h : ACalls P f args σ fun r σ' => Ext σ σ' ∧ Frz σ' σ.length r v) : ACalls P f args σ fun r σ' => r = v ∧ σ' = σ := by
  refine ⟨h.1, fun G w vs hw hl => (h.2 G w vs hw hl).mono ?_⟩
  rintro e w' ⟨c, r, σ', G', rfl, hle, hw', hr, hext, hfrz⟩
  have hlen : G.obj.length = σ.length := hw.len
  have hlt : ∀ (i : Nat) x, i < σ.length → σ'[i]? = some x → x.lt σ.length := by
    intro i x hi hx
    have h0 := hext i _ (List.getElem?_eq_getElem hi)
    rw [hx] at h0; cases h0
    have := (hw.objs i _ (List.getElem?_eq_getElem hi)).lt
    rw [hlen] at this; exact this
  have hw2 := hw'.freeze (n := σ.length) hlt
  rw [hext.take] at hw2
  refine ⟨c, v, σ, G'.freeze σ.length σ' w', rfl, ⟨hle.base, hle.w0, fun b o x hx => Gh.freeze_imm hw' b o x (hle.imm b o x hx), fun i x hx => ?_, hle.lo, hle.mark⟩, hw2, hfrz.rep hw' hr, rfl, rfl⟩
  show (G'.obj.take σ.length)[i]? = _
  rw [List.getElem?_take, if_pos (by rw [← hlen]; exact (List.getElem?_eq_some_iff.1 hx).1)]
  exact hle.obj i x hx

end Go.Pa

/-! Fresh slices; arguments that are lent. -/
namespace Go.Pa
set_option linter.unusedSectionVars false
variable [GTab]
variable {P : Program}

/-- A slice under construction, of integers. -/
def BufI (s : Store) (n : Nat) (r : AV) (k : IntKind) (l : List Int) : Prop :=
  ((r = .nils ∨ r = .emp) ∧ l = []) ∨ ∃ id, r = .mvec id 0 l.length 1 ∧ s[id]? = some (.vecI k l) ∧ n ≤ id

/-- The same, told in one way: the store is as it was, but for the one object. -/
def FreshI (s : Store) (k : IntKind) (l : List Int) (r : AV) (s' : Store) : Prop :=
  ((r = .nils ∨ r = .emp) ∧ l = [] ∧ s' = s) ∨ (r = .mvec s.length 0 l.length 1 ∧ s' = s ++ [.vecI k l])

theorem BufI.frz {s : Store} {n : Nat} {r : AV} {k : IntKind} {l : List Int} (h : BufI s n r k l) : Frz s n r (.ints k l) := by
  rcases h with ⟨rfl | rfl, rfl⟩ | ⟨id, rfl, ho, hn⟩
  · exact .nilI k
  · exact .empI k
  · have := Frz.vecI (n := n) id 0 l.length k l ho hn (by omega)
    simpa using this

theorem FreshI.buf {s s' : Store} {k : IntKind} {l : List Int} {r : AV} (h : FreshI s k l r s') : Ext s s' ∧ BufI s' s.length r k l := by
  rcases h with ⟨hr, hl, rfl⟩ | ⟨rfl, rfl⟩
  · exact ⟨.refl _, .inl ⟨hr, hl⟩⟩
  · exact ⟨(Ext.refl s).push _, .inr ⟨s.length, rfl, by simp, Nat.le_refl _⟩⟩

theorem FreshI.frz {s s' : Store} {k : IntKind} {l : List Int} {r : AV} (h : FreshI s k l r s') : Ext s s' ∧ Frz s' s.length r (.ints k l) := ⟨h.buf.1, h.buf.2.frz⟩

/-- The ghost in which the first n objects are as they are, and one more. -/
noncomputable def Gh.pick (G : Gh) (n : Nat) (b m : Nat) : Gh := { G with obj := G.obj.take n ++ [(b, m)] }

theorem WRel.pick {G : Gh} {n id : Nat} {σ : Store} {w : World} (hw : WRel G σ w) (hlt : ∀ (i : Nat) x, i < n → σ[i]? = some x → x.lt n) {k : IntKind} {l : List Int} (ho : σ[id]? = some (.vecI k l)) (hn : n ≤ id) {b m : Nat} (hb : G.obj[id]? = some (b, m)) :
    WRel (G.pick n b m) (σ.take n ++ [.vecI k l]) w := by
  have hid : id < σ.length := (List.getElem?_eq_some_iff.1 ho).1
  have hnl : n ≤ σ.length := by omega
  have ho1 : (G.obj.take n).length = n := by simp [hw.len]; omega
  have hs1 : (σ.take n).length = n := by simp; omega
  have hobj : ∀ (i : Nat) x, (G.obj.take n ++ [(b, m)])[i]? = some x → (i < n ∧ G.obj[i]? = some x) ∨ (i = n ∧ x = (b, m)) := by
    intro i x h
    rcases Nat.lt_or_ge i n with hi | hi
    · rw [List.getElem?_append_left (by omega), List.getElem?_take, if_pos hi] at h; exact .inl ⟨hi, h⟩
    · rw [List.getElem?_append_right (by omega), ho1] at h
      have : i - n = 0 := by
        rcases Nat.eq_zero_or_pos (i - n) with h0 | h0
        · exact h0
        · rw [List.getElem?_eq_none (by simp; omega)] at h; cases h
      rw [this] at h; simp at h
      exact .inr ⟨by omega, h.symm⟩
  have hst : ∀ (i : Nat) x, (σ.take n ++ [AObj.vecI k l])[i]? = some x → (i < n ∧ σ[i]? = some x) ∨ (i = n ∧ x = .vecI k l) := by
    intro i x h
    rcases Nat.lt_or_ge i n with hi | hi
    · rw [List.getElem?_append_left (by omega), List.getElem?_take, if_pos hi] at h; exact .inl ⟨hi, h⟩
    · rw [List.getElem?_append_right (by omega), hs1] at h
      have : i - n = 0 := by
        rcases Nat.eq_zero_or_pos (i - n) with h0 | h0
        · exact h0
        · rw [List.getElem?_eq_none (by simp; omega)] at h; cases h
      rw [this] at h; simp at h
      exact .inr ⟨by omega, h.symm⟩
  -- every new object is one of the old
  have old : ∀ (i : Nat) x bi, (σ.take n ++ [AObj.vecI k l])[i]? = some x → (G.obj.take n ++ [(b, m)])[i]? = some bi → ∃ j, σ[j]? = some x ∧ G.obj[j]? = some bi ∧ ((i < n ∧ j = i) ∨ (i = n ∧ j = id)) := by
    intro i x bi h1 h2
    rcases hst i x h1 with ⟨hi, h1⟩ | ⟨hi, rfl⟩
    · rcases hobj i bi h2 with ⟨_, h2⟩ | ⟨hi', _⟩
      · exact ⟨i, h1, h2, .inl ⟨hi, rfl⟩⟩
      · omega
    · rcases hobj i bi h2 with ⟨hi', _⟩ | ⟨_, rfl⟩
      · omega
      · exact ⟨id, ho, hb, .inr ⟨hi, rfl⟩⟩
  have hkeep : ∀ {y : AV} {v : Value}, Rep G y v → y.lt n = true → Rep (G.pick n b m) y v := fun hr hy =>
    Rep.keep (G := G) (G' := G.pick n b m) (n := n) (fun _ _ _ h => h) (fun j z hj hz => by
      show (G.obj.take n ++ [(b, m)])[j]? = _
      rw [List.getElem?_append_left (by omega), List.getElem?_take, if_pos hj]; exact hz) hr hy
  refine ⟨?_, hw.imm, fun i x hx => ?_, fun i j oi oj bi bj a1 a2 a3 a4 a5 a6 a7 => ?_, hw.frame, hw.sz, hw.os, hw.tape, hw.output, hw.marks, hw.grew, hw.globs⟩
  · show (G.obj.take n ++ [(b, m)]).length = (σ.take n ++ [AObj.vecI k l]).length
    simp only [List.length_append, ho1, hs1, List.length_singleton]
  · rcases hst i x hx with ⟨hi, hx'⟩ | ⟨hi, rfl⟩
    · have h0 := hw.objs i x hx'
      have hl0 := hlt i x hi hx'
      have hob : ∀ b' m', G.obj[i]? = some (b', m') → (G.pick n b m).obj[i]? = some (b', m') := by
        intro b' m' hb'
        show (G.obj.take n ++ [(b, m)])[i]? = _
        rw [List.getElem?_append_left (by omega), List.getElem?_take, if_pos hi]; exact hb'
      cases hc : x.cells with
      | some cs =>
        obtain ⟨b', m', arr, ty, q1, q2, q3, q4, q5, q6, q7, q8⟩ := h0.get hc
        have hcs : ltL n cs = true := by
          cases x with
          | mp kv => cases hc
          | dead => cases hc
          | box _ => exact hl0 cs hc
          | vecI _ _ => exact hl0 cs hc
          | vecR _ _ => exact hl0 cs hc
        have q7' : RepL (G.pick n b m) cs (arr.toList.take cs.length) := RepL.of_get q7.length fun j y hy => let ⟨v, hv, hr⟩ := q7.get j y hy; ⟨v, hv, hkeep hr (ltL_get hcs j y hy)⟩
        exact objRel_mk hc (hob b' m' q1) q2 q3 q5 q6 _ q7' (fun j c hcc => by
          rw [List.getElem?_take] at hcc
          split at hcc
          · simpa using hcc
          · cases hcc) q8
      | none =>
        cases x with
        | dead => trivial
        | mp kv =>
          obtain ⟨b', m', es, clock, q1, q2, q3, q4, q4m, q5, q6⟩ := h0
          exact ⟨b', m', es, clock, hob b' m' q1, q2, q3, q4, q4m, q5, q6.to fun x v hx h => hkeep h (hl0 x hx)⟩
        | box _ => cases hc
        | vecI _ _ => cases hc
        | vecR sz rs =>
          obtain ⟨_, _, _, _, cs, q, _⟩ := h0
          rw [hc] at q; cases q
    · obtain ⟨b', m', arr, ty, q1, q2, q3, q4, q5, q6, q7, q8⟩ := (hw.objs id _ ho).get (cs := l.map (AV.int k)) rfl
      rw [hb] at q1; cases q1
      have hnew : (G.pick n b m).obj[i]? = some (b, m) := by
        show (G.obj.take n ++ [(b, m)])[i]? = _
        rw [List.getElem?_append_right (by omega), ho1, hi, Nat.sub_self]; rfl
      have q7' : RepL (G.pick n b m) (l.map (AV.int k)) (arr.toList.take (l.map (AV.int k)).length) := RepL.of_get q7.length fun j y hy => by
        obtain ⟨v, hv, hr⟩ := q7.get j y hy
        refine ⟨v, hv, hkeep hr ?_⟩
        rw [List.getElem?_map] at hy
        cases hl : l[j]? with
        | none => simp [hl] at hy
        | some z => simp [hl] at hy; subst hy; rfl
      exact objRel_mk (cs := l.map (AV.int k)) rfl hnew q2 q3 q5 q6 _ q7' (fun j c hcc => by
        rw [List.getElem?_take] at hcc
        split at hcc
        · simpa using hcc
        · cases hcc) q8
  · obtain ⟨i', p1, p2, p3⟩ := old i oi bi a1 a5
    obtain ⟨j', q1, q2, q3⟩ := old j oj bj a2 a6
    have := hw.inj i' j' oi oj bi bj p1 q1 a3 a4 p2 q2 a7
    omega

/-- **A call that hands back a fresh slice of integers.** -/
theorem ACalls.fresh {f : FuncId} {args : List AV} {σ : Store} {k : IntKind} {l : List Int} (h : ACalls P f args σ fun r σ' => Ext σ σ' ∧ BufI σ' σ.length r k l) : ACalls P f args σ (FreshI σ k l) := by
  refine ⟨h.1, fun G w vs hw hl => (h.2 G w vs hw hl).mono ?_⟩
  rintro e w' ⟨c, r, σ', G', rfl, hle, hw', hr, hext, hbuf⟩
  have hlen : G.obj.length = σ.length := hw.len
  have hlt : ∀ (i : Nat) x, i < σ.length → σ'[i]? = some x → x.lt σ.length := by
    intro i x hi hx
    have h0 := hext i _ (List.getElem?_eq_getElem hi)
    rw [hx] at h0; cases h0
    have := (hw.objs i _ (List.getElem?_eq_getElem hi)).lt
    rw [hlen] at this; exact this
  rcases hbuf with ⟨hr0, rfl⟩ | ⟨id, rfl, ho, hn⟩
  · have hw2 := hw'.freeze (n := σ.length) hlt
    rw [hext.take] at hw2
    refine ⟨c, r, σ, G'.freeze σ.length σ' w', rfl, ⟨hle.base, hle.w0, fun b o x hx => Gh.freeze_imm hw' b o x (hle.imm b o x hx), fun i x hx => ?_, hle.lo, hle.mark⟩, hw2, ?_, .inl ⟨hr0, rfl, rfl⟩⟩
    · show (G'.obj.take σ.length)[i]? = _
      rw [List.getElem?_take, if_pos (by rw [← hlen]; exact (List.getElem?_eq_some_iff.1 hx).1)]
      exact hle.obj i x hx
    · exact hr.noRef (Gh.freeze_imm hw') (by rcases hr0 with rfl | rfl <;> rfl)
  · cases hr with
    | mvec _ _ _ _ cap b m hb hcap hfit =>
    have hw2 := hw'.pick hlt ho hn hb
    rw [hext.take] at hw2
    have hol : (G'.obj.take σ.length).length = σ.length := by
      have := hw'.len; have := hext.len; simp; omega
    refine ⟨_, .mvec σ.length 0 l.length 1, σ ++ [.vecI k l], G'.pick σ.length b m, rfl, ⟨hle.base, hle.w0, hle.imm, fun i x hx => ?_, hle.lo, hle.mark⟩, hw2, ?_, .inr ⟨rfl, rfl⟩⟩
    · show (G'.obj.take σ.length ++ [(b, m)])[i]? = _
      have hi : i < σ.length := by rw [← hlen]; exact (List.getElem?_eq_some_iff.1 hx).1
      rw [List.getElem?_append_left (by omega), List.getElem?_take, if_pos hi]
      exact hle.obj i x hx
    · refine .mvec _ 0 _ 1 cap b m ?_ hcap hfit
      show (G'.obj.take σ.length ++ [(b, m)])[σ.length]? = _
      rw [List.getElem?_append_right (by omega), hol, Nat.sub_self]; rfl

/-- A fresh slice, frozen. -/
theorem ACalls.freshFrozen {f : FuncId} {args : List AV} {σ : Store} {k : IntKind} {l : List Int} (h : ACalls P f args σ (FreshI σ k l)) : ACalls P f args σ fun r σ' => r = .ints k l ∧ σ' = σ :=
  ACalls.frozen (h.mono fun _ _ hf => hf.frz)

/-- Other words for the arguments. -/
theorem ACalls.weak {f : FuncId} {args args' : List AV} {σ : Store} {R : AV → Store → Prop} (h : ACalls P f args' σ R) (ha : ∀ G vs, RepL G args vs → RepL G args' vs) : ACalls P f args σ R :=
  ⟨h.1, fun G w vs hw hl => h.2 G w vs hw (ha G _ hl)⟩

theorem rep_nil_ints {G : Gh} {v : Value} (k : IntKind) (h : Rep G .nils v) : Rep G (.ints k []) v := by cases h; exact .ints0 k none 0
theorem rep_nil_rows {G : Gh} {v : Value} (sz : Nat) (h : Rep G .nils v) : Rep G (.rows sz []) v := by cases h; exact .rows0 sz none 0
theorem rep_emp_ints {G : Gh} {v : Value} (k : IntKind) (h : Rep G .emp v) : Rep G (.ints k []) v := by cases h; exact .ints0 k _ 0

/-! ### Lending -/

/-- No memory hangs on it. -/
def AV.flat : AV → Bool
  | .int _ _ | .bool _ | .str _ | .nils | .nilp | .nilf | .nilm | .emp => true
  | _ => false
def AV.flat2 : AV → Bool
  | .agg cs => cs.all AV.flat
  | .tup cs => cs.all fun x => x.flat || match x with | .agg cs => cs.all AV.flat | _ => false
  | x => x.flat

theorem Rep.flat {G G' : Gh} {x : AV} {v : Value} (h : Rep G x v) (hx : x.flat = true) : Rep G' x v := by
  cases h <;> first | (simp [AV.flat] at hx; done) | skip
  · exact .int _ _
  · exact .bool _
  · exact .str _ _ (by assumption)
  · exact .nils
  · exact .emp _
  · exact .nilp
  · exact .nilf
  · exact .nilm

theorem RepL.flat {G G' : Gh} {xs : List AV} {vs : List Value} (h : RepL G xs vs) (hx : xs.all AV.flat = true) : RepL G' xs vs := by
  induction h with
  | nil => exact .nil
  | cons hr _ ih =>
    simp only [List.all_cons, Bool.and_eq_true] at hx
    exact .cons (hr.flat hx.1) (ih hx.2)

theorem Rep.flat2 {G G' : Gh} {x : AV} {v : Value} (h : Rep G x v) (hx : x.flat2 = true) : Rep G' x v := by
  cases x with
  | agg cs =>
    obtain ⟨vs, rfl, hl⟩ := h.agg_inv
    exact Rep.agg_of (hl.flat hx)
  | tup cs =>
    obtain ⟨vs, rfl, hl⟩ := h.tup_inv
    refine Rep.tup_of (RepL.of_get hl.length fun i y hy => ?_)
    obtain ⟨c, hc, hr⟩ := hl.get i y hy
    have hy2 := List.all_eq_true.1 hx y (List.mem_of_getElem? hy)
    refine ⟨c, hc, ?_⟩
    cases hf : y.flat with
    | true => exact hr.flat hf
    | false =>
      cases y with
      | agg ds =>
        simp only [hf, Bool.false_or] at hy2
        obtain ⟨us, rfl, hl2⟩ := hr.agg_inv
        exact Rep.agg_of (hl2.flat hy2)
      | _ => simp [hf] at hy2
  | _ => exact h.flat hx

/-- The ghost of whoever takes the world as it is for what lay before. -/
noncomputable def Gh.now (w : World) : Gh := { base := w.heap.size, w0 := w, obj := [], lo := w.heap.size, mark := fun _ _ => False, imm := fun b o => match w.cell? ⟨b, o, none⟩ with | some c => if c.oneCell' then some c else none | none => none }

theorem WRel.now {w : World} (hg : GlobOk (Gh.now w)) : WRel (Gh.now w) [] w := by
  refine ⟨rfl, fun b o c h => ?_, fun i x h => by simp at h, fun i j oi oj bi bj h => by simp at h, fun _ _ => rfl, Nat.le_refl _, rfl, rfl, rfl, fun _ _ h => h.elim, Nat.le_refl _, hg⟩
  simp only [Gh.now] at h
  split at h
  · rename_i c' hc
    split at h
    · rename_i h1; cases h; exact ⟨hc, h1⟩
    · cases h
  · cases h

theorem Gh.now_imm {G : Gh} {σ : Store} {w : World} (hw : WRel G σ w) (b o : Nat) (c : Value) (h : G.imm b o = some c) : (Gh.now w).imm b o = some c := by
  have := hw.imm b o c h
  simp [Gh.now, this.1, this.2]

/-- What is lent is told of in that ghost. -/
theorem Frz.now {G : Gh} {σ : Store} {w : World} (hw : WRel G σ w) {x y : AV} (h : Frz σ 0 x y) {v : Value} (hr : Rep G x v) (hy : y.noRef = true) : Rep (Gh.now w) y v := by
  have h1 := h.rep hw hr
  refine h1.noRef (fun b o c hc => ?_) hy
  have hlt : ∀ (i : Nat) x, i < 0 → σ[i]? = some x → x.lt 0 := fun i x hi => absurd hi (Nat.not_lt_zero _)
  have hw2 := hw.freeze (n := 0) hlt
  have := hw2.imm b o c hc
  simp [Gh.now, this.1, this.2]

/-- The way back. -/
theorem WRel.back {G G2 : Gh} {σ τ : Store} {w w' : World} (hw : WRel G σ w) (hle : (Gh.now w).le G2) (hw2 : WRel G2 τ w') :
    ∃ G3, G.le G3 ∧ WRel G3 σ w' ∧ (∀ b o, w.heap.size ≤ b → G3.imm b o = G2.imm b o) ∧ G3.obj = G.obj ∧ G3.base = G.base := by
  have hb : G2.base = w.heap.size := hle.base
  have h0 : G2.w0 = w := hle.w0
  have hfr : ∀ b, b < w.heap.size → w'.heap[b]? = w.heap[b]? := fun b hb' => by
    have := hw2.frame b (by omega)
    rw [h0] at this; exact this
  refine ⟨{ G with imm := fun b o => if b < w.heap.size then G.imm b o else G2.imm b o }, ?_, ?_, fun b o hb' => ?_, rfl, rfl⟩
  · refine ⟨rfl, rfl, fun b o c h => ?_, fun _ _ h => h, rfl, fun _ _ h => h⟩
    have hlt := World.block_lt_of_cell? w _ (hw.imm b o c h).1
    simp only at hlt
    simp [hlt, h]
  · refine hw.grow ⟨rfl, rfl, fun b o c h => ?_, fun _ _ h => h, rfl, fun _ _ h => h⟩ rfl rfl hfr (by have := hw2.sz; omega) (by rw [hw2.os, h0]) (by rw [hw2.tape, h0]) (by rw [hw2.output, h0]) (fun b o hb' => by simp [hb']) (fun b o c hb' h => ?_)
    · have hlt := World.block_lt_of_cell? w _ (hw.imm b o c h).1
      simp only at hlt
      simp [hlt, h]
    · simp only at h
      rw [if_neg (Nat.not_lt.2 hb')] at h
      exact hw2.imm b o c h
  · simp [Nat.not_lt.2 hb']

/-- Arguments that are lent. -/
inductive FrzL (s : Store) : List AV → List AV → Prop
  | nil : FrzL s [] []
  | cons {x y : AV} {xs ys : List AV} : Frz s 0 x y → FrzL s xs ys → FrzL s (x :: xs) (y :: ys)

theorem FrzL.now {G : Gh} {σ : Store} {w : World} (hw : WRel G σ w) {xs ys : List AV} (h : FrzL σ xs ys) : ∀ {vs : List Value}, RepL G xs vs → ltL 0 ys = true → RepL (Gh.now w) ys vs := by
  induction h with
  | nil => intro vs hr _; cases hr; exact .nil
  | cons hf _ ih =>
    intro vs hr hy
    simp only [ltL, Bool.and_eq_true] at hy
    cases hr with
    | cons h1 h2 => exact .cons (hf.now hw h1 hy.1) (ih h2 hy.2)

/-- **Lending**: a call that hands back a flat value and leaves the store alone does so where its arguments are objects, too. -/
theorem ACalls.lend {f : FuncId} {args args' : List AV} {σ : Store} {v : AV} (h : ACalls P f args' [] fun r σ' => r = v ∧ σ' = []) (ha : FrzL σ args args') (hn : ltL 0 args' = true) (hv : v.flat2 = true) :
    ACalls P f args σ fun r σ' => r = v ∧ σ' = σ := by
  refine ⟨h.1, fun G w vs hw hl => (h.2 (Gh.now w) w vs (WRel.now (hw.globs.mono (Gh.now_imm hw))) (ha.now hw hl hn)).mono ?_⟩
  rintro e w' ⟨c, r, σ', G2, rfl, hle, hw', hr, rfl, rfl⟩
  obtain ⟨G3, h1, h2, _⟩ := hw.back hle hw'
  exact ⟨c, r, σ, G3, rfl, h1, h2, hr.flat2 hv, rfl, rfl⟩

/-- **Lending**, to a call that hands back a fresh slice of integers. -/
theorem ACalls.lendI {f : FuncId} {args args' : List AV} {σ : Store} {k : IntKind} {l : List Int} (h : ACalls P f args' [] (FreshI [] k l)) (ha : FrzL σ args args') (hn : ltL 0 args' = true) : ACalls P f args σ (FreshI σ k l) := by
  refine ⟨h.1, fun G w vs hw hl => (h.2 (Gh.now w) w vs (WRel.now (hw.globs.mono (Gh.now_imm hw))) (ha.now hw hl hn)).mono ?_⟩
  rintro e w' ⟨c, r, σ', G2, rfl, hle, hw', hr, hf⟩
  obtain ⟨G3, h1, h2, h3, h4, h5⟩ := hw.back hle hw'
  rcases hf with ⟨hr0, rfl, rfl⟩ | ⟨rfl, rfl⟩
  · exact ⟨c, r, σ, G3, rfl, h1, h2, hr.flat (by rcases hr0 with rfl | rfl <;> rfl), .inl ⟨hr0, rfl, rfl⟩⟩
  · cases hr with
    | mvec _ _ _ _ cap b m hb hcap hfit =>
    obtain ⟨b', m', arr, ty, q1, q2, q3, q4, q5, q6, q7, q8⟩ := (hw'.objs 0 (.vecI k l) rfl).get (cs := l.map (AV.int k)) rfl
    have hb' : G2.obj[0]? = some (b, m) := hb
    rw [hb'] at q1; cases q1
    -- the new object lies behind what lay there
    have hbase : w.heap.size ≤ b := by rw [← (show G2.base = w.heap.size from hle.base)]; exact q5
    have himm3 : ∀ o, G3.imm b o = none := fun o => by rw [h3 b o hbase]; exact q6 o
    have hdis : ∀ (i : Nat) oi bi, σ[i]? = some oi → oi.live = true → G3.obj[i]? = some bi → bi.1 ≠ b := by
      intro i oi bi a1 a2 a3
      obtain ⟨b', m', p1, p2, _⟩ := (hw.objs i oi a1).block a2
      rw [h4, p1] at a3; cases a3
      intro e; simp only at e; omega
    have hwf := h2.adopt (ob := .vecI k l) (cs := l.map (AV.int k)) rfl q2 (by rw [h5]; exact Nat.le_trans hw.sz hbase) himm3 hdis ((RepL.ints k l : RepL G3 _ _)) (fun j c hc => by
      rw [List.getElem?_map] at hc
      cases hl : l[j]? with
      | none => simp [hl] at hc
      | some z =>
        simp [hl] at hc; subst hc
        obtain ⟨v, hv, hr⟩ := q7.get j (.int k z) (by simp [hl])
        cases hr
        rw [List.getElem?_take] at hv
        split at hv
        · simpa using hv
        · cases hv) q8
    rw [q3] at hwf
    refine ⟨_, .mvec σ.length 0 l.length 1, σ ++ [.vecI k l], G3.add b m, rfl, h1.trans (Gh.le_add G3 b m), hwf, .mvec _ 0 _ 1 cap b m ?_ hcap hfit, .inr ⟨rfl, rfl⟩⟩
    simp only [Gh.add]; rw [h4, ← hw.len]; simp

end Go.Pa

/-! Regions that draw their order: one walk in the order of the text, with what every operation yields named, serves every order that the edges allow. -/
namespace Go.Pa
set_option linter.unusedSimpArgs false
set_option linter.unusedVariables false
set_option linter.unusedSectionVars false
variable [GTab]
variable {P : Program}

/-! ### What an operation depends on -/

theorem vcOp_congr {e e' : Env} {s : Store} {R : AV → Store → Prop} {op : Op} (h : ∀ x ∈ op.operands, evO e x = evO e' x) : vcOp P e s R op = vcOp P e' s R op := by
  have pairs : ∀ ps : Array (Nat × Operand), (∀ x ∈ ps.toList.map (·.2), evO e x = evO e' x) →
      (ps.toList.map fun p => (p.1, evO e p.2)) = (ps.toList.map fun p => (p.1, evO e' p.2)) := fun ps hp =>
    List.map_congr_left fun p hm => by rw [hp p.2 (List.mem_map.2 ⟨p, hm, rfl⟩)]
  have hA : evA P e op = evA P e' op := by
    cases op <;> simp only [Op.operands] at h <;> simp only [evA]
    case build t ps => rw [pairs ps fun x hx => h x (by simpa using hx)]
    case buildSlice t n ps => rw [pairs ps fun x hx => h x (by simpa using hx)]
    case makeFunc fn first captured =>
      cases fn <;> simp only [evA]
      rw [List.map_congr_left (l := first.toList) fun x hx => h x (by have hx' : x ∈ first := (by simpa using hx); simp [hx']), List.map_congr_left (l := captured.toList) fun x hx => h x (by have hx' : x ∈ captured := (by simpa using hx); simp [hx'])]
    case call c =>
      obtain ⟨callee, args, ts⟩ := c
      cases callee <;> simp only [evA]
      rw [List.map_congr_left (l := args.toList) fun x hx => h x (by have hx' : x ∈ args := (by simpa using hx); simp [Call.operands, hx'])]
    case slice t x lo hi mx => cases lo <;> cases hi <;> cases mx <;> simp_all
    all_goals (first | rfl | (simp_all; done))
  have hS : vcS P e s R op = vcS P e' s R op := by
    cases op <;> simp only [Op.operands] at h <;> simp only [vcS]
    case call c =>
      obtain ⟨callee, args, ts⟩ := c
      have hargs : args.toList.map (evO e) = args.toList.map (evO e') := List.map_congr_left fun x hx => h x (by have hx' : x ∈ args := (by simpa using hx); simp [Call.operands, hx'])
      cases callee with
      | value f =>
        have hf := h f (by simp [Call.operands])
        simp only [vcS, hargs, hf]
      | invoke r m => simp only [vcS]
      | builtin b =>
        have mem : ∀ x, x ∈ args.toList → evO e x = evO e' x := fun x hx => h x (by have : x ∈ args := by simpa using hx
                                                                                    simp [Call.operands, this])
        clear hA hargs h
        cases b <;> simp only [vcS]
        all_goals
          generalize args.toList = L at mem ⊢
          generalize ts.toList = T
          rcases T with _ | ⟨t, _ | ⟨t', _ | ⟨t'', T⟩⟩⟩ <;> rcases L with _ | ⟨x, _ | ⟨y, _ | ⟨z, L⟩⟩⟩ <;> first | rfl | (simp only [mem x (by simp)]; done) | (simp only [mem x (by simp), mem y (by simp)]; done)
    case makeMap t r => cases r <;> rfl
    all_goals (first | rfl | (simp_all; done))
  unfold vcOp
  rw [hA, hS]

/-- The environment, at the temporaries that an operation looks at. -/
def rst (ops : Array Oper) (o : Oper) (e : Env) : Env := (o.looksAt ops).filterMap fun t => (e.get t).map fun v => (t, v)

theorem rst_get {ops : Array Oper} {o : Oper} {e : Env} {t : Tmp} {v : AV} (h : (rst ops o e).get t = some v) : t ∈ o.looksAt ops ∧ e.get t = some v := by
  unfold rst at h
  generalize o.looksAt ops = l at h
  induction l with
  | nil => simp [Env.get] at h
  | cons u l ih =>
    cases hu : e.get u with
    | none =>
      simp only [List.filterMap_cons, hu, Option.map_none] at h
      exact ⟨List.mem_cons_of_mem _ (ih h).1, (ih h).2⟩
    | some x =>
      simp only [List.filterMap_cons, hu, Option.map_some, Env.get] at h
      split at h
      · rename_i hut; subst hut; cases h; exact ⟨by simp, hu⟩
      · exact ⟨List.mem_cons_of_mem _ (ih h).1, (ih h).2⟩

theorem rst_get_eq {ops : Array Oper} {o : Oper} {e : Env} {t : Tmp} (h : t ∈ o.looksAt ops) : (rst ops o e).get t = e.get t := by
  unfold rst
  generalize o.looksAt ops = l at h
  induction l with
  | nil => cases h
  | cons u l ih =>
    cases hu : e.get u with
    | none =>
      simp only [List.filterMap_cons, hu, Option.map_none]
      rcases List.mem_cons.1 h with rfl | h'
      · by_cases hm : t ∈ l
        · exact ih hm
        · rw [hu]
          clear h ih
          induction l with
          | nil => rfl
          | cons v l ih2 =>
            simp only [List.mem_cons, not_or] at hm
            cases hv : e.get v with
            | none => simp only [List.filterMap_cons, hv, Option.map_none]; exact ih2 hm.2
            | some y => simp only [List.filterMap_cons, hv, Option.map_some, Env.get]; rw [if_neg (Ne.symm hm.1)]; exact ih2 hm.2
      · exact ih h'
    | some x =>
      simp only [List.filterMap_cons, hu, Option.map_some, Env.get]
      by_cases hut : u = t
      · subst hut; rw [if_pos rfl, hu]
      · rw [if_neg hut]
        rcases List.mem_cons.1 h with rfl | h'
        · exact absurd rfl hut
        · exact ih h'

theorem vcOp_rst {ops : Array Oper} {o : Oper} {e : Env} {s : Store} {R : AV → Store → Prop} : vcOp P (rst ops o e) s R o.op = vcOp P e s R o.op := by
  apply vcOp_congr
  intro x hx
  cases x with
  | tmp t =>
    simp only [evO]
    rw [rst_get_eq]
    exact List.mem_append_left _ (List.mem_filterMap.2 ⟨.tmp t, by simpa using hx, rfl⟩)
  | const v => rfl
  | func f => rfl
  | global g => rfl

/-! ### The classes -/

/-- 0: looks at temporaries alone; 1: looks at the store; 2: turns it. -/
def clsOp (es : List Nat) (i : Nat) (o : Oper) : Nat :=
  if es.contains i then 2 else if es.contains (i + 100000) then 1 else if es.contains (i + 200000) then 0 else match o.op with
    | .load .. => 1
    | .call { callee := .value _, .. } => 1
    | .lookup .. => 1
    | _ => 0

/-- What is asked of an operation that looks at temporaries alone. -/
def vcA (P : Program) (e : Env) (op : Op) (R : AV → Prop) : Prop :=
  match evA P e op with
  | .val v => R v
  | .need p v => p ∧ R v
  | .no => False

def vcD1 (P : Program) (c : Nat) (e : Env) (s : Store) (o : Oper) (K : AV → Store → Prop) : Prop :=
  match c with
  | 0 => (vcA P e o.op fun v => K v s) ∨ ∃ v, (∀ σ, vcOp P e σ (fun r s1 => r = v ∧ s1 = σ) o.op) ∧ K v s
  | 1 => ∃ v, vcOp P e s (fun r s1 => r = v ∧ s1 = s) o.op ∧ K v s
  | 2 => ∃ v s', vcOp P e s (fun r s1 => r = v ∧ s1 = s') o.op ∧ K v s'
  | _ => False

/-- The operations of a region that draws its order, walked in the order of the text. -/
def vcD (P : Program) (es : List Nat) (all : List Oper) : Nat → List Oper → Env → Store → (Env → Store → Prop) → Prop
  | _, [], e, s, K => K e s
  | i, o :: os, e, s, K =>
    match o.guard with
    | none => vcD1 P (clsOp es i o) e s o fun v s' => vcD P es all (i + 1) os (e.put o.dst v) s' K
    | some (j, want) => match (all[j]?).bind (·.dst) with
      | none => False
      | some t => match e.get t with
        | some (.bool c) => (c = want → vcD1 P (clsOp es i o) ((t, .bool want) :: e) s o fun v s' => vcD P es all (i + 1) os (Env.put ((t, .bool want) :: e) o.dst v) s' K) ∧
            (c = (!want) → vcD P es all (i + 1) os (Env.put ((t, .bool (!want)) :: e) o.dst (.tup [])) s K)
        | some (.tup []) => vcD P es all (i + 1) os (e.put o.dst (.tup [])) s K
        | _ => False

/-! ### The script -/

abbrev Script := List (Bool × AV × Store)

def eAt (ops : List Oper) (sc : Script) (e0 : Env) : Nat → Env
  | 0 => e0
  | i + 1 => match ops[i]?, sc[i]? with
    | some o, some x => (eAt ops sc e0 i).put o.dst x.2.1
    | _, _ => eAt ops sc e0 i

def sAt (sc : Script) (s0 : Store) : Nat → Store
  | 0 => s0
  | i + 1 => match sc[i]? with
    | some x => x.2.2
    | none => sAt sc s0 i

def StepOk (P : Program) (N : Nat) (es : List Nat) (all : List Oper) (i : Nat) (o : Oper) (e : Env) (s : Store) (b : Bool) (v : AV) (s' : Store) : Prop :=
  (match o.guard with
    | none => b = true
    | some (j, want) => ∃ t, (all[j]?).bind (·.dst) = some t ∧ ((∃ c, e.get t = some (.bool c) ∧ b = (c == want)) ∨ (e.get t = some (.tup []) ∧ b = false))) ∧
  (clsOp es i o ≠ 2 → s' = s) ∧
  (b = false → v = .tup [] ∧ s' = s) ∧
  (b = true → if clsOp es i o = 0 then ∀ σ, OpJ P N o (rst all.toArray o e) σ (fun r s1 => r = v ∧ s1 = σ) else OpJ P N o (rst all.toArray o e) s (fun r s1 => r = v ∧ s1 = s'))

def GetEq (e e' : Env) : Prop := ∀ t, e.get t = e'.get t

theorem GetEq.put {e e' : Env} (h : GetEq e e') (d : Option Tmp) (v : AV) : GetEq (e.put d v) (e'.put d v) := by
  cases d with
  | none => exact h
  | some d => intro t; simp only [Env.put, Env.get]; split <;> first | rfl | exact h t

theorem GetEq.rst {ops : Array Oper} {o : Oper} {e e' : Env} (h : GetEq e e') : rst ops o e = rst ops o e' := by
  unfold Go.Pa.rst
  congr 1
  funext t
  rw [h t]

theorem GetEq.refine {e e' : Env} (h : GetEq e e') {t : Tmp} {c d : Bool} (hc : e.get t = some (.bool c)) (hd : c = d) : GetEq ((t, .bool d) :: e) e' := by
  intro u
  simp only [Env.get]
  split
  · rename_i hu; subst hu; rw [← h t, hc, hd]
  · exact h u

theorem vcD1_step {N c : Nat} {e e' : Env} {s : Store} {o : Oper} {ops : Array Oper} {K : AV → Store → Prop} (h : vcD1 P c e s o K) (he : GetEq e e') :
    ∃ v s', K v s' ∧ (c ≠ 2 → s' = s) ∧ (if c = 0 then ∀ σ, OpJ P N o (rst ops o e') σ (fun r s1 => r = v ∧ s1 = σ) else OpJ P N o (rst ops o e') s (fun r s1 => r = v ∧ s1 = s')) := by
  unfold vcD1 at h
  split at h
  · rcases h with h | ⟨v, h1, h2⟩
    · unfold vcA at h
      split at h
      · rename_i v hv
        refine ⟨v, s, h, fun _ => rfl, ?_⟩
        rw [if_pos rfl]
        intro σ
        rw [← he.rst]
        refine vcOp_sound ?_
        rw [vcOp_rst]
        unfold vcOp
        rw [hv]
        exact ⟨rfl, rfl⟩
      · rename_i p v hv
        refine ⟨v, s, h.2, fun _ => rfl, ?_⟩
        rw [if_pos rfl]
        intro σ
        rw [← he.rst]
        refine vcOp_sound ?_
        rw [vcOp_rst]
        unfold vcOp
        rw [hv]
        exact ⟨h.1, rfl, rfl⟩
      · exact h.elim
    · refine ⟨v, s, h2, fun _ => rfl, ?_⟩
      rw [if_pos rfl]
      intro σ
      rw [← he.rst]
      refine vcOp_sound ?_
      rw [vcOp_rst]
      exact h1 σ
  · obtain ⟨v, h1, h2⟩ := h
    refine ⟨v, s, h2, fun _ => rfl, ?_⟩
    rw [if_neg (by decide), ← he.rst]
    exact vcOp_sound (by rw [vcOp_rst]; exact h1)
  · obtain ⟨v, s', h1, h2⟩ := h
    refine ⟨v, s', h2, fun hn => absurd rfl hn, ?_⟩
    rw [if_neg (by decide), ← he.rst]
    exact vcOp_sound (by rw [vcOp_rst]; exact h1)
  · exact h.elim

theorem eAt_append {ops : List Oper} {sc ys : Script} {e0 : Env} : ∀ i, i ≤ sc.length → eAt ops (sc ++ ys) e0 i = eAt ops sc e0 i
  | 0, _ => rfl
  | i + 1, h => by
    simp only [eAt]
    rw [eAt_append i (by omega), List.getElem?_append_left (by omega)]

theorem sAt_append {sc ys : Script} {s0 : Store} : ∀ i, i ≤ sc.length → sAt (sc ++ ys) s0 i = sAt sc s0 i
  | 0, _ => rfl
  | i + 1, h => by
    simp only [sAt]
    rw [sAt_append i (by omega), List.getElem?_append_left (by omega)]

/-- Every step of a script is right. -/
def ScOk (P : Program) (N : Nat) (es : List Nat) (ops : List Oper) (e0 : Env) (s0 : Store) (sc : Script) : Prop :=
  ∀ i o x, ops[i]? = some o → sc[i]? = some x → StepOk P N es ops i o (eAt ops sc e0 i) (sAt sc s0 i) x.1 x.2.1 x.2.2

theorem ScOk.snoc {N : Nat} {es : List Nat} {ops : List Oper} {e0 : Env} {s0 : Store} {sc : Script} (h : ScOk P N es ops e0 s0 sc) {o : Oper} {b : Bool} {v : AV} {s' : Store} (ho : ops[sc.length]? = some o)
    (hs : StepOk P N es ops sc.length o (eAt ops sc e0 sc.length) (sAt sc s0 sc.length) b v s') : ScOk P N es ops e0 s0 (sc ++ [(b, v, s')]) := by
  intro i o' x ho' hx
  rcases Nat.lt_or_ge i sc.length with hi | hi
  · rw [List.getElem?_append_left hi] at hx
    rw [eAt_append i (by omega), sAt_append i (by omega)]
    exact h i o' x ho' hx
  · rw [List.getElem?_append_right hi] at hx
    have hi0 : i = sc.length := by
      have := (List.getElem?_eq_some_iff.1 hx).1
      simp at this
      omega
    subst hi0
    simp at hx
    subst hx
    rw [ho] at ho'
    cases ho'
    rw [eAt_append _ (Nat.le_refl _), sAt_append _ (Nat.le_refl _)]
    exact hs

theorem vcD_script {N : Nat} {es : List Nat} {ops : List Oper} {e0 : Env} {s0 : Store} {K : Env → Store → Prop} : ∀ (os : List Oper) (sc : Script) (e : Env) (s : Store),
    ops.drop sc.length = os → sc.length ≤ ops.length → ScOk P N es ops e0 s0 sc → GetEq e (eAt ops sc e0 sc.length) → s = sAt sc s0 sc.length → vcD P es ops sc.length os e s K →
    ∃ (sc' : Script) (ef : Env), sc'.length = ops.length ∧ ScOk P N es ops e0 s0 sc' ∧ GetEq ef (eAt ops sc' e0 ops.length) ∧ K ef (sAt sc' s0 ops.length)
  | [], sc, e, s, hd, hl, hok, he, hs, h => by
    have hlen : sc.length = ops.length := by
      have := congrArg List.length hd
      simp at this
      omega
    rw [hlen] at he hs
    subst hs
    exact ⟨sc, e, hlen, hok, he, h⟩
  | o :: os, sc, e, s, hd, hl, hok, he, hs, h => by
    have hlt : sc.length < ops.length := by
      have := congrArg List.length hd
      simp at this
      omega
    have ho : ops[sc.length]? = some o := by
      have : (ops.drop sc.length)[0]? = some o := by rw [hd]; rfl
      simpa using this
    have hd' : ops.drop (sc.length + 1) = os := by
      have := congrArg (List.drop 1) hd
      simpa [List.drop_drop, Nat.add_comm] using this
    have go : ∀ {b : Bool} {v : AV} {s' : Store} {e1 : Env}, GetEq e1 (eAt ops sc e0 sc.length) → StepOk P N es ops sc.length o (eAt ops sc e0 sc.length) (sAt sc s0 sc.length) b v s' → vcD P es ops (sc.length + 1) os (e1.put o.dst v) s' K →
        ∃ (sc' : Script) (ef : Env), sc'.length = ops.length ∧ ScOk P N es ops e0 s0 sc' ∧ GetEq ef (eAt ops sc' e0 ops.length) ∧ K ef (sAt sc' s0 ops.length) := by
      intro b v s' e1 he1 hst hv
      have hlen1 : (sc ++ [(b, v, s')]).length = sc.length + 1 := by simp
      refine vcD_script os (sc ++ [(b, v, s')]) (e1.put o.dst v) s' (by rw [hlen1]; exact hd') (by rw [hlen1]; omega) (hok.snoc ho hst) ?_ ?_ (by rw [hlen1]; exact hv)
      · rw [hlen1]
        simp only [eAt]
        rw [ho, List.getElem?_append_right (Nat.le_refl _), eAt_append _ (Nat.le_refl _)]
        simp only [Nat.sub_self, List.getElem?_cons_zero]
        exact he1.put o.dst v
      · rw [hlen1]
        simp only [sAt]
        rw [List.getElem?_append_right (Nat.le_refl _)]
        simp
    unfold vcD at h
    cases hgd : o.guard with
    | none =>
      simp only [hgd] at h
      obtain ⟨v, s', hk, h1, h2⟩ := vcD1_step (N := N) (ops := ops.toArray) h he
      refine go (b := true) (v := v) (s' := s') he ⟨by simp [hgd], fun hc => ?_, fun hb => (by cases hb), fun _ => ?_⟩ hk
      · rw [← hs]; exact h1 hc
      · rw [← hs]; exact h2
    | some jw =>
      obtain ⟨j, want⟩ := jw
      simp only [hgd] at h
      split at h
      · exact h.elim
      · rename_i t ht
        split at h
        · rename_i c hc
          by_cases hcw : c = want
          · obtain ⟨v, s', hk, h1, h2⟩ := vcD1_step (N := N) (ops := ops.toArray) (h.1 hcw) (he.refine hc hcw)
            refine go (b := true) (v := v) (s' := s') (he.refine hc hcw) ⟨?_, fun hc => ?_, fun hb => (by cases hb), fun _ => ?_⟩ hk
            · simp only [hgd]; exact ⟨t, ht, .inl ⟨c, by rw [← he t, hc], by simp [hcw]⟩⟩
            · rw [← hs]; exact h1 hc
            · rw [← hs]; exact h2
          · have hn : c = !want := by cases c <;> cases want <;> simp_all
            refine go (b := false) (v := .tup []) (s' := s) (he.refine hc hn) ⟨?_, fun _ => hs, fun _ => ⟨rfl, hs⟩, fun hb => by cases hb⟩ (h.2 hn)
            simp only [hgd]
            exact ⟨t, ht, .inl ⟨c, by rw [← he t, hc], by rw [hn]; cases want <;> rfl⟩⟩
        · rename_i hc
          refine go (b := false) (v := .tup []) (s' := s) he ⟨?_, fun _ => hs, fun _ => ⟨rfl, hs⟩, fun hb => by cases hb⟩ h
          simp only [hgd]
          exact ⟨t, ht, .inr ⟨by rw [← he t, hc], by simp⟩⟩
        · exact h.elim
end Go.Pa

/-! Regions that draw their order: the walk in the order of the text serves every order. -/
namespace Go.Pa
set_option linter.unusedSectionVars false
variable [GTab]
variable {P : Program}

def edgesOf (o : Oper) : List Nat := (o.after.toList.filter (Region.binds .any)).map (·.on)

def maskOf (acc : List Nat) (o : Oper) : Nat := (edgesOf o).foldl (fun m j => m ||| (1 <<< j) ||| acc.getD j 0) 0

def masks : List Oper → List Nat → List Nat
  | [], acc => acc
  | o :: os, acc => masks os (acc ++ [maskOf acc o])

/-- May two operations come in either order? Else the first is asked to come first. -/
def pairOk (es : List Nat) (ops : Array Oper) (ms : List Nat) (i j : Nat) (x y : Oper) : Bool :=
  (match x.dst with | some d => y.dst != some d | none => true) &&
  ((ms.getD j 0).testBit i ||
    ((match x.dst with | some d => !(y.looksAt ops).contains d | none => true) &&
     (match y.dst with | some d => !(x.looksAt ops).contains d | none => true) &&
     !((clsOp es i x == 2 && clsOp es j y != 0) || (clsOp es i x != 0 && clsOp es j y == 2))))

def orderOk (N : Nat) (es : List Nat) (l : List Oper) : Bool :=
  let ms := masks l []
  dstOk N l &&
  (l.zipIdx.all fun p => (edgesOf p.1).all fun e => decide (e < p.2)) &&
  (l.zipIdx.all fun p => l.zipIdx.all fun q => decide (q.2 ≤ p.2) || pairOk es l.toArray ms p.2 q.2 p.1 q.1)

/-- A set of operations that holds, with each, those that it waits for. -/
def Closed (l : List Oper) (L : Nat → Prop) : Prop := ∀ (i : Nat) o, l[i]? = some o → L i → ∀ j ∈ edgesOf o, L j

/-- Whatever waits for i's edges has come: so has j. -/
def Dep (l : List Oper) (i j : Nat) : Prop := ∀ o, l[i]? = some o → ∀ L, Closed l L → (∀ k ∈ edgesOf o, L k) → L j

theorem testBit_one_shl {j k : Nat} (h : (1 <<< j).testBit k = true) : k = j := by
  rw [Nat.testBit_shiftLeft] at h
  simp only [Bool.and_eq_true, decide_eq_true_eq] at h
  have := h.2
  rw [Nat.testBit_one_eq_true_iff_self_eq_zero] at this
  omega

theorem mask_spec {l : List Oper} {acc : List Nat} (hacc : ∀ i j, (acc.getD i 0).testBit j = true → i < acc.length → Dep l i j) (hlen : acc.length ≤ l.length) {o : Oper} (L : Nat → Prop) (hL : Closed l L) :
    ∀ (es : List Nat) (m : Nat), (∀ k ∈ es, L k) → (∀ j, m.testBit j = true → L j) → ∀ j, (es.foldl (fun m j => m ||| (1 <<< j) ||| acc.getD j 0) m).testBit j = true → L j
  | [], m, _, hm, j, h => hm j h
  | e :: es, m, he, hm, j, h => by
    refine mask_spec hacc hlen (o := o) L hL es _ (fun k hk => he k (List.mem_cons_of_mem _ hk)) (fun k hk => ?_) j h
    rw [Nat.testBit_or, Nat.testBit_or] at hk
    simp only [Bool.or_eq_true] at hk
    rcases hk with (hk | hk) | hk
    · exact hm k hk
    · rw [testBit_one_shl hk]; exact he e (by simp)
    · have hlt : e < acc.length := by
        rcases Nat.lt_or_ge e acc.length with h | h
        · exact h
        · rw [List.getD_eq_getElem?_getD, List.getElem?_eq_none h] at hk; simp at hk
      exact hacc e k hk hlt (l[e]'(by omega)) (List.getElem?_eq_getElem (by omega)) L hL (hL e _ (List.getElem?_eq_getElem (by omega)) (he e (by simp)))

theorem masks_spec {l : List Oper} : ∀ (os : List Oper) (acc : List Nat), l.drop acc.length = os → acc.length ≤ l.length → (∀ i j, (acc.getD i 0).testBit j = true → i < acc.length → Dep l i j) →
    ∀ i j, ((masks os acc).getD i 0).testBit j = true → Dep l i j
  | [], acc, _, _, hacc, i, j, h => by
    rcases Nat.lt_or_ge i acc.length with hi | hi
    · exact hacc i j h hi
    · simp only [masks] at h; rw [List.getD_eq_getElem?_getD, List.getElem?_eq_none hi] at h; simp at h
  | o :: os, acc, hd, hl, hacc, i, j, h => by
    have hlt : acc.length < l.length := by
      have := congrArg List.length hd
      simp at this
      omega
    have ho : l[acc.length]? = some o := by
      have : (l.drop acc.length)[0]? = some o := by rw [hd]; rfl
      simpa using this
    refine masks_spec os (acc ++ [maskOf acc o]) ?_ (by simp; omega) (fun a b hab hlt2 => ?_) i j h
    · have := congrArg (List.drop 1) hd
      simpa [List.drop_drop, Nat.add_comm] using this
    · rcases Nat.lt_or_ge a acc.length with ha | ha
      · rw [List.getD_eq_getElem?_getD, List.getElem?_append_left ha, ← List.getD_eq_getElem?_getD] at hab
        exact hacc a b hab ha
      · have hae : a = acc.length := by simp at hlt2; omega
        subst hae
        rw [List.getD_eq_getElem?_getD, List.getElem?_append_right (Nat.le_refl _)] at hab
        simp at hab
        intro o' ho' L hL hk
        rw [ho] at ho'
        cases ho'
        exact mask_spec hacc (by omega) (o := o) L hL (edgesOf o) 0 hk (by simp) b hab

theorem before {l : List Oper} {i j : Nat} (h : ((masks l []).getD i 0).testBit j = true) : Dep l i j :=
  masks_spec l [] (by simp) (by simp) (fun i j _ h => by simp at h) i j h

theorem orderOk_pair {N : Nat} {es : List Nat} {l : List Oper} (h : orderOk N es l = true) {i j : Nat} {x y : Oper} (hi : l[i]? = some x) (hj : l[j]? = some y) (hij : i < j) : pairOk es l.toArray (masks l []) i j x y = true := by
  simp only [orderOk, Bool.and_eq_true] at h
  have h1 := List.all_eq_true.1 h.2 (x, i) (List.mem_zipIdx_iff_getElem?.2 hi)
  have h2 := List.all_eq_true.1 h1 (y, j) (List.mem_zipIdx_iff_getElem?.2 hj)
  simp only [Bool.or_eq_true, decide_eq_true_eq] at h2
  rcases h2 with h2 | h2
  · omega
  · exact h2

theorem orderOk_edge {N : Nat} {es : List Nat} {l : List Oper} (h : orderOk N es l = true) {i : Nat} {x : Oper} (hi : l[i]? = some x) : ∀ e ∈ edgesOf x, e < i := by
  simp only [orderOk, Bool.and_eq_true] at h
  have h1 := List.all_eq_true.1 h.1.2 (x, i) (List.mem_zipIdx_iff_getElem?.2 hi)
  intro e he
  simpa using List.all_eq_true.1 h1 e he

theorem orderOk_dst {N : Nat} {es : List Nat} {l : List Oper} (h : orderOk N es l = true) {i : Nat} {x : Oper} (hi : l[i]? = some x) : ∀ t, x.dst = some t → t < N := by
  simp only [orderOk, Bool.and_eq_true] at h
  have h1 := List.all_eq_true.1 h.1.1 x (List.mem_of_getElem? hi)
  intro t ht
  rw [ht] at h1
  simp at h1
  exact h1.1

/-- What two operations have to do with each other. -/
theorem pair_spec {es : List Nat} {l : List Oper} {i j : Nat} {x y : Oper} (h : pairOk es l.toArray (masks l []) i j x y = true) :
    (∀ d, x.dst = some d → y.dst ≠ some d) ∧
    (Dep l j i ∨ ((∀ d, x.dst = some d → d ∉ y.looksAt l.toArray) ∧ (∀ d, y.dst = some d → d ∉ x.looksAt l.toArray) ∧ ¬ (clsOp es i x = 2 ∧ clsOp es j y ≠ 0) ∧ ¬ (clsOp es i x ≠ 0 ∧ clsOp es j y = 2))) := by
  simp only [pairOk, Bool.and_eq_true, Bool.or_eq_true] at h
  obtain ⟨h1, h2⟩ := h
  refine ⟨fun d hd => ?_, ?_⟩
  · rw [hd] at h1
    simpa using h1
  · rcases h2 with h2 | ⟨⟨h2, h3⟩, h4⟩
    · exact .inl (before h2)
    · refine .inr ⟨fun d hd => ?_, fun d hd => ?_, ?_, ?_⟩
      · rw [hd] at h2; simpa using h2
      · rw [hd] at h3; simpa using h3
      · rintro ⟨q1, q2⟩; simp [q1, q2] at h4
      · rintro ⟨q1, q2⟩; simp [q1, q2] at h4

/-! ### What holds between two operations -/

structure DInv (P : Program) (N : Nat) (es : List Nat) (l : List Oper) (e0 : Env) (s0 : Store) (sc : Script) (G0 : Gh) (L : Array Bool) (a : Act) (w : World) (G : Gh) (m : Nat) : Prop where
  le : G0.le G
  size : L.size = l.length
  closed : Closed l fun i => L.getD i false = true
  tsize : a.tmps.size = N
  defers : DRel G a.defers
  base : ∀ t x, e0.get t = some x → (∀ i o, l[i]? = some o → L.getD i false = true → o.dst ≠ some t) → ∃ v, a.tmps[t]? = some v ∧ Rep G x v
  vals : ∀ i o x t, l[i]? = some o → sc[i]? = some x → L.getD i false = true → o.dst = some t → ∃ v, a.tmps[t]? = some v ∧ Rep G x.2.1 v
  wr : WRel G (sAt sc s0 m) w
  turn : ∀ i o, l[i]? = some o → clsOp es i o = 2 → (L.getD i false = true ↔ i < m)

theorem eAt_get {l : List Oper} {sc : Script} {e0 : Env} (hl : sc.length = l.length) : ∀ (i : Nat) (t : Tmp) (x : AV), (eAt l sc e0 i).get t = some x →
    (∃ j o y, j < i ∧ l[j]? = some o ∧ sc[j]? = some y ∧ o.dst = some t ∧ y.2.1 = x) ∨ (e0.get t = some x ∧ ∀ j o, j < i → l[j]? = some o → o.dst ≠ some t)
  | 0, t, x, h => .inr ⟨h, fun j o hj => by omega⟩
  | i + 1, t, x, h => by
    simp only [eAt] at h
    split at h
    · rename_i o y ho hy
      by_cases hd : o.dst = some t
      · rw [hd] at h
        simp only [Env.put, Env.get, if_true, Option.some.injEq] at h
        exact .inl ⟨i, o, y, by omega, ho, hy, hd, h⟩
      · have h' : (eAt l sc e0 i).get t = some x := by
          cases hdd : o.dst with
          | none => rw [hdd] at h; exact h
          | some d =>
            rw [hdd] at h
            simp only [Env.put, Env.get] at h
            rw [if_neg (fun e => hd (by rw [hdd, e]))] at h
            exact h
        rcases eAt_get hl i t x h' with ⟨j, oj, yj, hj, r⟩ | ⟨h1, h2⟩
        · exact .inl ⟨j, oj, yj, by omega, r⟩
        · refine .inr ⟨h1, fun j oj hj hoj => ?_⟩
          rcases Nat.lt_or_ge j i with hji | hji
          · exact h2 j oj hji hoj
          · have : j = i := by omega
            subst this
            rw [ho] at hoj
            cases hoj
            exact hd
    · rename_i hn
      rcases eAt_get hl i t x h with ⟨j, oj, yj, hj, r⟩ | ⟨h1, h2⟩
      · exact .inl ⟨j, oj, yj, by omega, r⟩
      · refine .inr ⟨h1, fun j oj hj hoj => ?_⟩
        rcases Nat.lt_or_ge j i with hji | hji
        · exact h2 j oj hji hoj
        · have : j = i := by omega
          subst this
          have hlt : j < sc.length := by rw [hl]; exact (List.getElem?_eq_some_iff.1 hoj).1
          exact (hn _ _ hoj (List.getElem?_eq_getElem hlt)).elim

theorem sAt_const {N : Nat} {es : List Nat} {l : List Oper} {e0 : Env} {s0 : Store} {sc : Script} (hl : sc.length = l.length) (hok : ScOk P N es l e0 s0 sc) : ∀ (d i : Nat), (∀ k o, i ≤ k → k < i + d → l[k]? = some o → clsOp es k o ≠ 2) → sAt sc s0 (i + d) = sAt sc s0 i
  | 0, i, _ => rfl
  | d + 1, i, h => by
    rw [show i + (d + 1) = (i + d) + 1 by omega]
    simp only [sAt]
    have ih := sAt_const hl hok d i (fun k o hk hk2 => h k o hk (by omega))
    cases hx : sc[i + d]? with
    | none => exact ih
    | some x =>
      have hlt : i + d < l.length := by rw [← hl]; exact (List.getElem?_eq_some_iff.1 hx).1
      have ho := List.getElem?_eq_getElem hlt
      have := (hok (i + d) _ x ho hx).2.1 (h (i + d) _ (by omega) (by omega) ho)
      simp only
      rw [this, ih]

section
variable {N : Nat} {es : List Nat} {l : List Oper} {e0 : Env} {s0 : Store} {sc : Script} {G0 : Gh} {L : Array Bool} {a : Act} {w : World} {G : Gh} {m : Nat}

theorem ready_spec {i : Nat} (h : i ∈ Region.ready .any l.toArray L) : L.getD i true = false ∧ ∃ o, l[i]? = some o ∧ ∀ j ∈ edgesOf o, L.getD j false = true := by
  obtain ⟨h1, o, h2, h3⟩ := mem_ready.1 h
  refine ⟨h1, o, by simpa using h2, fun j hj => ?_⟩
  simp only [edgesOf, List.mem_map, List.mem_filter] at hj
  obtain ⟨e, ⟨he, hb⟩, rfl⟩ := hj
  exact h3 e (by simpa using he) hb

theorem unlisted {i : Nat} (h : L.getD i true = false) : L.getD i false = false := by
  rcases Nat.lt_or_ge i L.size with h' | h'
  · simp [h'] at h ⊢; exact h
  · simp [Array.getElem?_eq_none h'] at h

theorem DInv.dep (inv : DInv P N es l e0 s0 sc G0 L a w G m) {i k : Nat} {o : Oper} (ho : l[k]? = some o) (hk : L.getD k false = true) (h : Dep l k i) : L.getD i false = true :=
  h o ho _ inv.closed (inv.closed k o ho hk)

theorem DInv.env (inv : DInv P N es l e0 s0 sc G0 L a w G m) (hB : orderOk N es l = true) (hl : sc.length = l.length) {i : Nat} (hi : i ∈ Region.ready .any l.toArray L) {o : Oper} (ho : l[i]? = some o) :
    ERel G N (rst l.toArray o (eAt l sc e0 i)) a := by
  obtain ⟨hun, o', ho', hedge⟩ := ready_spec hi
  rw [ho] at ho'; cases ho'
  have hun' := unlisted hun
  refine ⟨inv.tsize, inv.defers, fun t x hx => ?_⟩
  obtain ⟨hlook, hx⟩ := rst_get hx
  rcases eAt_get hl i t x hx with ⟨j, oj, y, hj, hoj, hy, hd, rfl⟩ | ⟨h0, hno⟩
  · have hp := pair_spec (orderOk_pair hB hoj ho hj)
    rcases hp.2 with h | h
    · exact inv.vals j oj y t hoj hy (h o ho _ inv.closed hedge) hd
    · exact absurd hlook (h.1 t hd)
  · refine inv.base t x h0 fun k ok hok hk hd => ?_
    rcases Nat.lt_trichotomy k i with hki | hki | hki
    · exact hno k ok hki hok hd
    · subst hki; rw [hun'] at hk; cases hk
    · have hp := pair_spec (orderOk_pair hB ho hok hki)
      rcases hp.2 with h | h
      · have := inv.dep hok hk h
        rw [hun'] at this; cases this
      · exact absurd hlook (h.2.1 t hd)

theorem DInv.store (inv : DInv P N es l e0 s0 sc G0 L a w G m) (hB : orderOk N es l = true) (hok : ScOk P N es l e0 s0 sc) (hl : sc.length = l.length) {i : Nat} (hi : i ∈ Region.ready .any l.toArray L) {o : Oper} (ho : l[i]? = some o)
    (hc : clsOp es i o ≠ 0) : sAt sc s0 m = sAt sc s0 i := by
  obtain ⟨hun, o', ho', hedge⟩ := ready_spec hi
  rw [ho] at ho'; cases ho'
  have hun' := unlisted hun
  rcases Nat.le_total m i with hmi | hmi
  · obtain ⟨d, rfl⟩ := Nat.exists_eq_add_of_le hmi
    refine (sAt_const hl hok d m fun k ok hk1 hk2 hok' hck => ?_).symm
    have hp := pair_spec (orderOk_pair hB hok' ho hk2)
    rcases hp.2 with h | h
    · have := (inv.turn k ok hok' hck).1 (h o ho _ inv.closed hedge)
      omega
    · exact h.2.2.1 ⟨hck, hc⟩
  · obtain ⟨d, rfl⟩ := Nat.exists_eq_add_of_le hmi
    refine sAt_const hl hok d i fun k ok hk1 hk2 hok' hck => ?_
    have hkL := (inv.turn k ok hok' hck).2 hk2
    rcases Nat.eq_or_lt_of_le hk1 with he | he
    · subst he; rw [hun'] at hkL; cases hkL
    · have hp := pair_spec (orderOk_pair hB ho hok' he)
      rcases hp.2 with h | h
      · have := inv.dep hok' hkL h
        rw [hun'] at this; cases this
      · exact h.2.2.2 ⟨hc, hck⟩

/-- The operations that turn the store come in the order of the text. -/
theorem DInv.front (inv : DInv P N es l e0 s0 sc G0 L a w G m) (hB : orderOk N es l = true) {i : Nat} (hi : i ∈ Region.ready .any l.toArray L) {o : Oper} (ho : l[i]? = some o) (hc : clsOp es i o = 2) :
    ∀ k ok, l[k]? = some ok → clsOp es k ok = 2 → ((L.setIfInBounds i true).getD k false = true ↔ k < i + 1) := by
  obtain ⟨hun, o', ho', hedge⟩ := ready_spec hi
  rw [ho] at ho'; cases ho'
  have hun' := unlisted hun
  have hilt : i < L.size := by rw [inv.size]; exact (List.getElem?_eq_some_iff.1 ho).1
  intro k ok hok hck
  rcases Nat.lt_trichotomy k i with hki | hki | hki
  · refine ⟨fun _ => by omega, fun _ => getD_set_true ?_⟩
    have hp := pair_spec (orderOk_pair hB hok ho hki)
    rcases hp.2 with h | h
    · exact h o ho _ inv.closed hedge
    · exact absurd ⟨hck, by rw [hc]; decide⟩ h.2.2.1
  · subst hki
    exact ⟨fun _ => by omega, fun _ => by simp [hilt]⟩
  · refine ⟨fun h => ?_, fun h => by omega⟩
    rw [getD_set_ne false (by omega)] at h
    have hp := pair_spec (orderOk_pair hB ho hok hki)
    rcases hp.2 with h2 | h2
    · have := inv.dep hok h h2
      rw [hun'] at this; cases this
    · exact absurd ⟨by rw [hc]; decide, hck⟩ h2.2.2.2

theorem DInv.step (inv : DInv P N es l e0 s0 sc G0 L a w G m) (hB : orderOk N es l = true) {i : Nat} (hi : i ∈ Region.ready .any l.toArray L) {o : Oper} (ho : l[i]? = some o) {x : Bool × AV × Store} (hx : sc[i]? = some x)
    {G' : Gh} {w' : World} {c : Value} {m' : Nat} (hg : G.le G') (hw : WRel G' (sAt sc s0 m') w') (hr : Rep G' x.2.1 c)
    (hturn : ∀ k ok, l[k]? = some ok → clsOp es k ok = 2 → ((L.setIfInBounds i true).getD k false = true ↔ k < m')) :
    DInv P N es l e0 s0 sc G0 (L.setIfInBounds i true) (a.put o.dst c) w' G' m' := by
  obtain ⟨hun, o', ho', hedge⟩ := ready_spec hi
  rw [ho] at ho'; cases ho'
  have hun' := unlisted hun
  have hilt : i < L.size := by rw [inv.size]; exact (List.getElem?_eq_some_iff.1 ho).1
  have split : ∀ k, (L.setIfInBounds i true).getD k false = true → k = i ∨ (k ≠ i ∧ L.getD k false = true) := by
    intro k hk
    by_cases hki : k = i
    · exact .inl hki
    · rw [getD_set_ne false (Ne.symm hki)] at hk; exact .inr ⟨hki, hk⟩
  have hother : ∀ t, o.dst ≠ some t → (a.put o.dst c).tmps[t]? = a.tmps[t]? := by
    intro t ht
    cases hd : o.dst with
    | none => rfl
    | some d =>
      have : d ≠ t := fun e => ht (by rw [hd, e])
      simp [Act.put, Array.getElem?_setIfInBounds_ne this]
  refine ⟨inv.le.trans hg, by simp [inv.size], fun k ok hok hk j hj => ?_, ?_, ?_, fun t y hy hno => ?_, fun k ok y t hok hy hk hd => ?_, hw, hturn⟩
  · rcases split k hk with rfl | ⟨hki, hk'⟩
    · rw [ho] at hok; cases hok
      exact getD_set_true (hedge j hj)
    · exact getD_set_true (inv.closed k ok hok hk' j hj)
  · cases hd : o.dst with
    | none => exact inv.tsize
    | some d => simp [Act.put, inv.tsize]
  · cases hd : o.dst with
    | none => exact inv.defers.mono hg
    | some d => exact inv.defers.mono hg
  · have hdt : o.dst ≠ some t := hno i o ho (by simp [hilt])
    obtain ⟨v, hv, hrv⟩ := inv.base t y hy fun k ok hok hk => hno k ok hok (getD_set_true hk)
    exact ⟨v, by rw [hother t hdt]; exact hv, hrv.mono hg⟩
  · rcases split k hk with rfl | ⟨hki, hk'⟩
    · rw [ho] at hok; cases hok
      rw [hx] at hy; cases hy
      have ht := orderOk_dst hB ho t hd
      exact ⟨c, by rw [hd]; simp [Act.put, inv.tsize, ht], hr⟩
    · have hdt : o.dst ≠ some t := by
        intro e
        rcases Nat.lt_or_gt_of_ne hki with h | h
        · exact (pair_spec (orderOk_pair hB hok ho h)).1 t hd e
        · exact (pair_spec (orderOk_pair hB ho hok h)).1 t e hd
      obtain ⟨v, hv, hrv⟩ := inv.vals k ok y t hok hy hk' hd
      exact ⟨v, by rw [hother t hdt]; exact hv, hrv.mono hg⟩

theorem all_listed {L : Array Bool} (hs : L.size = l.length) (hB : orderOk N es l = true) (h : Region.ready .any l.toArray L = []) : ∀ n i, i < n → i < l.length → L.getD i false = true
  | 0, i, hi, _ => by omega
  | n + 1, i, hi, hil => by
    rcases Nat.lt_or_ge i n with hin | hin
    · exact all_listed hs hB h n i hin hil
    · have : i = n := by omega
      subst this
      cases hL : L.getD i false with
      | true => rfl
      | false =>
        have hmem : i ∈ Region.ready .any l.toArray L := by
          refine mem_ready.2 ⟨?_, l[i], by simp [hil], fun e he hb => ?_⟩
          · have : i < L.size := by omega
            simp [this] at hL ⊢; exact hL
          · have hem : e.on ∈ edgesOf l[i] := by
              simp only [edgesOf, List.mem_map, List.mem_filter]
              exact ⟨e, ⟨by simpa using he, hb⟩, rfl⟩
            have := orderOk_edge hB (List.getElem?_eq_getElem hil) _ hem
            exact all_listed hs hB h i e.on this (by omega)
        rw [h] at hmem
        cases hmem

theorem wpAny_script (hB : orderOk N es l = true) (hok : ScOk P N es l e0 s0 sc) (hl : sc.length = l.length) {Q : Exit → Act → World → Prop}
    (hQ : ∀ G a w, G0.le G → ERel G N (eAt l sc e0 l.length) a → WRel G (sAt sc s0 l.length) w → Q .normal a w) :
    ∀ (fuel : Nat) (rest : List Nat) (L : Array Bool) (a : Act) (w : World) (G : Gh) (m : Nat), rest.length ≤ fuel → (∀ i, i < l.length → L.getD i false = false → i ∈ rest) → DInv P N es l e0 s0 sc G0 L a w G m → m ≤ l.length →
      wpAny P .any l.toArray Q fuel L a w := by
  have fin : ∀ (L : Array Bool) (a : Act) (w : World) (G : Gh) (m : Nat), DInv P N es l e0 s0 sc G0 L a w G m → m ≤ l.length → Region.ready .any l.toArray L = [] → Q .normal a w := by
    intro L a w G m inv hm hr
    have hall := fun i hi => all_listed inv.size hB hr (i + 1) i (by omega) hi
    refine hQ G a w inv.le ⟨inv.tsize, inv.defers, fun t x hx => ?_⟩ ?_
    · rcases eAt_get hl _ t x hx with ⟨j, oj, y, hj, hoj, hy, hd, rfl⟩ | ⟨h0, hno⟩
      · exact inv.vals j oj y t hoj hy (hall j hj) hd
      · exact inv.base t x h0 fun k ok hok _ => hno k ok (List.getElem?_eq_some_iff.1 hok).1 hok
    · obtain ⟨d, hd⟩ := Nat.exists_eq_add_of_le hm
      have : sAt sc s0 l.length = sAt sc s0 m := by
        rw [hd]
        refine sAt_const hl hok d m fun k ok hk1 hk2 hok' hck => ?_
        have := (inv.turn k ok hok' hck).1 (hall k (by omega))
        omega
      rw [this]; exact inv.wr
  intro fuel
  induction fuel with
  | zero =>
    intro rest L a w G m hf hrest inv hm
    have hr : Region.ready .any l.toArray L = [] := by
      cases hq : Region.ready .any l.toArray L with
      | nil => rfl
      | cons i _ =>
        have hi : i ∈ Region.ready .any l.toArray L := by rw [hq]; simp
        obtain ⟨hun, o, ho, _⟩ := ready_spec hi
        have := hrest i (List.getElem?_eq_some_iff.1 ho).1 (unlisted hun)
        have h0 : rest = [] := by simpa using hf
        rw [h0] at this; cases this
    exact ⟨hr, fin L a w G m inv hm hr⟩
  | succ fuel ih =>
    intro rest L a w G m hf hrest inv hm
    refine ⟨fin L a w G m inv hm, fun i hi => ?_⟩
    obtain ⟨hun, o, ho, hedge⟩ := ready_spec hi
    have hun' := unlisted hun
    have hil : i < l.length := (List.getElem?_eq_some_iff.1 ho).1
    obtain ⟨x, hx⟩ : ∃ x, sc[i]? = some x := ⟨_, List.getElem?_eq_getElem (by omega)⟩
    have hmem := hrest i hil hun'
    have next : ∀ {G' : Gh} {w' : World} {c : Value} {m' : Nat}, G.le G' → WRel G' (sAt sc s0 m') w' → Rep G' x.2.1 c → m' ≤ l.length →
        (∀ k ok, l[k]? = some ok → clsOp es k ok = 2 → ((L.setIfInBounds i true).getD k false = true ↔ k < m')) → wpAny P .any l.toArray Q fuel (L.setIfInBounds i true) (a.put o.dst c) w' := by
      intro G' w' c m' hg hw' hr hm' ht
      refine ih (rest.erase i) _ _ _ G' m' ?_ (fun j hj hju => ?_) (inv.step hB hi ho hx hg hw' hr ht) hm'
      · rw [List.length_erase_of_mem hmem]; omega
      · have hji : j ≠ i := by
          intro e; subst e
          have : j < L.size := by rw [inv.size]; exact hj
          simp [this] at hju
        rw [getD_set_ne false (Ne.symm hji)] at hju
        exact (List.mem_erase_of_ne hji).2 (hrest j hj hju)
    have same : clsOp es i o ≠ 2 → ∀ k ok, l[k]? = some ok → clsOp es k ok = 2 → ((L.setIfInBounds i true).getD k false = true ↔ k < m) := by
      intro hc k ok hok hck
      have hki : k ≠ i := by intro e; subst e; rw [ho] at hok; cases hok; exact hc hck
      rw [getD_set_ne false (Ne.symm hki)]
      exact inv.turn k ok hok hck
    obtain ⟨hguard, hpure, hskip, hrun⟩ := hok i o x ho hx
    have henv := inv.env hB hl hi ho
    unfold wpOp
    have hoa : l.toArray[i]? = some o := by simpa using ho
    simp only [hoa]
    have hwant : Region.wanted o (yielded l.toArray a.tmps) = x.1 := by
      cases hgd : o.guard with
      | none =>
        simp only [hgd] at hguard
        simp [Region.wanted, hgd, hguard]
      | some jw =>
        obtain ⟨j, want⟩ := jw
        simp only [hgd] at hguard
        obtain ⟨t, ht, hguard⟩ := hguard
        have hlook : t ∈ o.looksAt l.toArray := by
          unfold Oper.looksAt
          refine List.mem_append_right _ ?_
          simp only [hgd]
          have : (l.toArray[j]?).bind (·.dst) = some t := by simpa using ht
          rw [this]
          simp
        rcases hguard with ⟨c, hc, hb⟩ | ⟨hc, hb⟩
        · obtain ⟨v, hv, hr⟩ := henv.2.2 t (.bool c) (by rw [rst_get_eq hlook]; exact hc)
          cases hr
          have hy : yielded l.toArray a.tmps j = some c := by
            unfold yielded
            have h0 : (l.toArray[j]?).bind (·.dst) = some t := by simpa using ht
            rw [h0]
            simp [hv]
          simp only [Region.wanted, hgd, hy, hb]
          cases c <;> cases want <;> rfl
        · obtain ⟨v, hv, hr⟩ := henv.2.2 t (.tup []) (by rw [rst_get_eq hlook]; exact hc)
          have hy : yielded l.toArray a.tmps j = none := by
            unfold yielded
            have h0 : (l.toArray[j]?).bind (·.dst) = some t := by simpa using ht
            rw [h0]
            cases hr
            simp [hv]
          simp [Region.wanted, hgd, hy, hb]
    rw [hwant]
    cases hb : x.1 with
    | true =>
      rw [if_pos rfl]
      refine .inl ?_
      have hj := hrun hb
      by_cases hc0 : clsOp es i o = 0
      · rw [if_pos hc0] at hj
        refine Oper.wp_mono ?_ ((hj (sAt sc s0 m)).wp G a w Q henv inv.wr)
        rintro a' w' ⟨c, v, σ', G', rfl, hle, hw', hr, rfl, rfl⟩
        exact next hle hw' hr hm (same (by omega))
      · rw [if_neg hc0] at hj
        have hst := inv.store hB hok hl hi ho hc0
        refine Oper.wp_mono ?_ (hj.wp G a w Q henv (by rw [← hst]; exact inv.wr))
        rintro a' w' ⟨c, v, σ', G', rfl, hle, hw', hr, rfl, rfl⟩
        by_cases hc2 : clsOp es i o = 2
        · have hs1 : sAt sc s0 (i + 1) = x.2.2 := by simp only [sAt]; rw [hx]
          exact next (m' := i + 1) hle (by rw [hs1]; exact hw') hr (by omega) (inv.front hB hi ho hc2)
        · refine next hle ?_ hr hm (same hc2)
          rw [hpure hc2, ← hst] at hw'
          exact hw'
    | false =>
      rw [if_neg (by decide)]
      obtain ⟨hv, hs⟩ := hskip hb
      by_cases hc2 : clsOp es i o = 2
      · have hst := inv.store hB hok hl hi ho (by omega)
        have hs1 : sAt sc s0 (i + 1) = x.2.2 := by simp only [sAt]; rw [hx]
        exact next (m' := i + 1) (.refl G) (by rw [hs1, hs, ← hst]; exact inv.wr) (by rw [hv]; exact rep_undef _) (by omega) (inv.front hB hi ho hc2)
      · exact next (.refl G) inv.wr (by rw [hv]; exact rep_undef _) hm (same hc2)

/-- **A region that draws its order.** -/
theorem awp_draw (es : List Nat) {id : Nat} {ops : Array Oper} {K : Exit → Env → Store → Prop} {e : Env} {σ : Store} (hm : P.follows .mixedOrders = true) (hB : orderOk N es ops.toList = true)
    (h : vcD P es ops.toList 0 ops.toList e σ (K .normal)) : AWp P N (.region id ops true) K e σ := by
  intro G0 G a w hg he hw
  obtain ⟨sc, ef, hl, hok, hge, hk⟩ := vcD_script (N := N) (es := es) (ops := ops.toList) (e0 := e) (s0 := σ) ops.toList [] e σ (by simp) (by simp) (fun i o x _ hx => by simp at hx) (fun t => rfl) rfl h
  refine wp_region_any hm ?_
  have hdraw : WRel G σ { w with drawn := w.drawn + 1 } := ⟨hw.len, hw.imm, hw.objs, hw.inj, hw.frame, hw.sz, hw.os, hw.tape, hw.output, hw.marks, hw.grew, hw.globs⟩
  have hz : ∀ i, (Array.replicate ops.size false).getD i false = false := fun i => by
    rcases Nat.lt_or_ge i ops.size with h | h
    · simp [h]
    · simp [h]
  have inv : DInv P N es ops.toList e σ sc G0 (Array.replicate ops.size false) a { w with drawn := w.drawn + 1 } G 0 :=
    ⟨hg, by simp, fun i o _ hi => (by simp only [hz] at hi; cases hi), he.1, he.2.1, fun t x hx _ => he.2.2 t x hx, fun i o x t _ _ hi => (by rw [hz] at hi; cases hi), hdraw, fun i o _ _ => by simp only [hz]; simp⟩
  have := wpAny_script (Q := Conc G0 N K) hB hok hl (fun G a w hg he' hw => ⟨G, ef, _, hg, ⟨he'.1, he'.2.1, fun t x hx => he'.2.2 t x (by rw [← hge t]; exact hx)⟩, hw, hk⟩)
    ops.size (List.range ops.toList.length) _ _ _ G 0 (by simp) (fun i hi _ => List.mem_range.2 hi) inv (by simp)
  simpa using this
end

end Go.Pa
