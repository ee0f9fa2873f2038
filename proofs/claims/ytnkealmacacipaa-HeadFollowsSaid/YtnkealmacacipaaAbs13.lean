/-
  One operation: what is asked; soundness.
-/
import Derived.Test.YtnkealmacacipaaAbs12
namespace Go.Pa
set_option linter.unusedSectionVars false
variable [GTab]
variable {P : Program} {G : Gh}

/-- What is asked of make([]T, n, m). -/
def vcMake (P : Program) (t : TypeId) (l c : AV) (s : Store) (R : AV → Store → Prop) : Prop :=
  match sliceElem P t, l, c with
  | some (e, sz), .int _ n, .int _ m => P.bytesOf e ≠ 0 ∧ 0 ≤ n ∧ n ≤ m ∧ m * P.bytesOf e ≤ 140737488355328 ∧
    match zeroA P e with
    | some [.int k 0] => sz = 1 ∧ R (.mvec s.length 0 n.toNat 1) (s ++ [.vecI k (List.replicate n.toNat 0)])
    | some zs => R (.mvec s.length 0 n.toNat sz) (s ++ [.vecR sz (List.replicate n.toNat zs)])
    | none => False
  | _, _, _ => False

theorem zero_get (z : Array Value) (sz m : Nat) (hz : z.size = sz) : ∀ (i j : Nat) v, i < m → z[j]? = some v → ((Array.range (m * sz)).map (fun i => z[i % z.size]!))[i * sz + j]? = some v := by
  intro i j v hi hv
  have hj : j < sz := by rw [← hz]; exact (Array.getElem?_eq_some_iff.1 hv).1
  have hlt : i * sz + j < m * sz := by
    have : (i + 1) * sz ≤ m * sz := Nat.mul_le_mul_right _ hi
    rw [Nat.succ_mul] at this; omega
  have hmod : (i * sz + j) % z.size = j := by rw [hz, Nat.mul_comm, Nat.mul_add_mod]; exact Nat.mod_eq_of_lt hj
  rw [Array.getElem?_map, Array.getElem?_range, if_pos hlt]
  simp only [Option.map_some, hmod]
  rw [getElem!_pos z j (by omega)]
  rw [Array.getElem?_eq_getElem (by omega)] at hv
  simpa using hv

theorem make_sound {t : TypeId} {x y : AV} {σ : Store} {R : AV → Store → Prop} (h : vcMake P t x y σ R) {u v : Value} (hx : Rep G x u) (hy : Rep G y v) {w : World} (hw : WRel G σ w) :
    ∃ c w' r σ' G', (Instr.makeSlice t u v).run P w = .ok c w' ∧ G.le G' ∧ WRel G' σ' w' ∧ Rep G' r c ∧ R r σ' := by
  unfold vcMake at h
  split at h
  · rename_i e sz k1 n k2 m hse
    obtain ⟨hb, h0, h1, h2, h⟩ := h
    cases hx; cases hy
    obtain ⟨hu, hcs, hpos, it, zv, hit, hzv, hisz, hzs, hz1⟩ := sliceElem_zero hse
    have hps : 0 < P.cellsOf e := by omega
    have hby : P.bytesOf e = it.bytes := by simp [Program.bytesOf, hit]
    have hm47 : m ≤ 140737488355328 := by
      have h3 : m * 1 ≤ m * (P.bytesOf e : Int) := Int.mul_le_mul_of_nonneg_left (by omega) (by omega)
      omega
    have w1 : IntKind.i64.wrap n = n := by rw [IntKind.wrap_i64]; omega
    have w2 : IntKind.i64.wrap m = m := by rw [IntKind.wrap_i64]; omega
    have big : ¬ ((it.bytes : Int) * m > 2 ^ 48) := by rw [Int.mul_comm, ← hby]; omega
    let arr : Array Value := (Array.range (m.toNat * sz)).map (fun i => zv.cells[i % zv.cells.size]!)
    have hrun : (Instr.makeSlice t (.int k1 n) (.int k2 m)).run P w = .ok (.slice (some ⟨w.heap.size, 0, none⟩) n.toNat m.toNat) (w.alloc (.cells arr e)) := by
      have c1 : (decide (m < 0) || decide ((it.bytes : Int) * m > 2 ^ 48) || decide (n < 0) || decide (n > m)) = false := by
        have a1 : decide (m < 0) = false := decide_eq_false (by omega)
        have a2 : decide ((it.bytes : Int) * m > 2 ^ 48) = false := decide_eq_false big
        have a3 : decide (n < 0) = false := decide_eq_false (by omega)
        have a4 : decide (n > m) = false := decide_eq_false (by omega)
        rw [a1, a2, a3, a4]; rfl
      unfold Instr.makeSlice
      simp only [Sem.run_bind, run_underlying hu, Result.andThen_ok, asInt, asIntOf, Sem.run_pure, typeInfo, run_program, hit, w1, w2, c1, Bool.false_eq_true, if_false, run_askRoom, run_sizeOf hps, hcs, Sem.run_ite]
      by_cases hz : m.toNat * sz = 0
      · have hm0 : m.toNat = 0 := by rcases Nat.mul_eq_zero.1 hz with h | h <;> omega
        have hr0 : ∀ f : Nat → Value, (Array.range 0).map f = #[] := fun f => by simp [Array.range]
        simp only [hz, if_true, Result.andThen_ok, newRow, Sem.run_bind, run_newObj_alloc, Sem.run_pure, hr0, arr]
      · simp only [hz, if_false, zeroValue, Sem.run_bind, typeInfo, run_program, hit, hzv, Sem.run_pure, Result.andThen_ok, newRow, run_newObj_alloc, arr]
    have hsize : arr.size = m.toNat * sz := by simp [arr]
    have hone : ∀ c ∈ arr.toList, c.oneCell' = true := by
      intro c hc
      simp only [arr, Array.toList_map, List.mem_map] at hc
      obtain ⟨i, hi, rfl⟩ := hc
      have hlt : i % zv.cells.size < zv.cells.size := Nat.mod_lt _ (by omega)
      rw [getElem!_pos zv.cells _ hlt]
      exact hz1 _ (Array.getElem_mem_toList hlt)
    have hget := zero_get zv.cells sz m.toNat hzs
    have fin : ∀ {ob : AObj} {cs : List AV} {vs : List Value}, ob.cells = some cs → RepL G cs vs → (∀ (i : Nat) c, vs[i]? = some c → arr[i]? = some c) → R (.mvec σ.length 0 n.toNat sz) (σ ++ [ob]) →
        ∃ c w' r σ' G', (Instr.makeSlice t (.int k1 n) (.int k2 m)).run P w = .ok c w' ∧ G.le G' ∧ WRel G' σ' w' ∧ Rep G' r c ∧ R r σ' := by
      intro ob cs vs hob hl hv hr
      refine ⟨_, _, _, _, _, hrun, Gh.le_add G _ _, hw.push rfl rfl rfl rfl hob vs hl hv hone, ?_, hr⟩
      have hobj : (G.add w.heap.size arr.size).obj[σ.length]? = some (w.heap.size, arr.size) := by simp only [Gh.add]; rw [← hw.len]; simp
      have := Rep.mvec (G := G.add w.heap.size arr.size) σ.length 0 n.toNat sz m.toNat _ _ hobj (by omega) (by rw [hsize]; simp)
      simpa using this
    have hzA : zeroA P e = some (zv.cells.toList.map ofCell) := by simp [zeroA, hit, hzv]
    rw [hzA] at h
    have hzrep : RepL G (zv.cells.toList.map ofCell) zv.cells.toList := by
      generalize zv.cells.toList = l
      induction l with
      | nil => exact .nil
      | cons a l ih => exact .cons (rep_ofCell G a) ih
    split at h
    · rename_i k heq
      obtain ⟨rfl, hr⟩ := h
      simp only [Option.some.injEq] at heq
      rw [heq] at hzrep
      have hz0 : zv.cells[0]? = some (.int k 0) := by
        obtain ⟨v0, hv0, hr0⟩ := hzrep.get 0 (.int k 0) (by simp)
        cases hr0; simpa using hv0
      refine fin (ob := .vecI k (List.replicate n.toNat 0)) rfl (RepL.ints k _) (fun i c hc => ?_) hr
      simp only [List.map_replicate, List.getElem?_replicate] at hc
      split at hc
      · rename_i hi
        cases hc
        have := hget i 0 _ (by omega) hz0
        have e1 : i * 1 + 0 = i := by omega
        rw [e1] at this
        exact this
      · cases hc
    · rename_i zs _ heq
      simp only [Option.some.injEq] at heq
      subst heq
      have hzl : (zv.cells.toList.map ofCell).length = sz := by simpa using hzs
      have hall : ∀ r ∈ List.replicate n.toNat (zv.cells.toList.map ofCell), r.length = sz := fun r hr => by rw [List.eq_of_mem_replicate hr]; exact hzl
      have hvl : zv.cells.toList.length = sz := by simpa using hzs
      have hall2 : ∀ r ∈ List.replicate n.toNat zv.cells.toList, r.length = sz := fun r hr => by rw [List.eq_of_mem_replicate hr]; exact hvl
      refine fin (ob := .vecR sz (List.replicate n.toNat (zv.cells.toList.map ofCell))) (vs := (List.replicate n.toNat zv.cells.toList).flatten) (by simp only [AObj.cells]; rw [if_pos hall]) ?_ (fun i c hc => ?_) h
      · generalize n.toNat = q
        induction q with
        | zero => exact .nil
        | succ q ih => simp only [List.replicate_succ, List.flatten_cons]; exact hzrep.append ih
      · have hil : i < n.toNat * sz := by
          have := (List.getElem?_eq_some_iff.1 hc).1
          rw [List.length_flatten, List.map_replicate, List.sum_replicate_nat, hvl] at this
          exact this
        have hdiv : i / sz < n.toNat := Nat.div_lt_of_lt_mul (by rw [Nat.mul_comm]; exact hil)
        have hmod : i % sz < sz := Nat.mod_lt _ hpos
        have hij : i / sz * sz + i % sz = i := by rw [Nat.mul_comm]; exact Nat.div_add_mod i sz
        have hfl := flatten_get sz _ (i / sz) (i % sz) zv.cells.toList (zv.cells.toList[i % sz]'(by omega)) hall2 (by simp [hdiv]) (List.getElem?_eq_getElem (by omega))
        rw [hij, hc] at hfl
        cases hfl
        have := hget (i / sz) (i % sz) _ (by omega) (by rw [Array.getElem?_eq_getElem (by omega)])
        rw [hij] at this
        exact this
    · exact h.elim
  · exact h.elim

/-- A slice's or a string's type. -/
def tyOk (P : Program) (t : TypeId) : Bool :=
  match P.underlying t with
  | some (.int _) | none => false
  | _ => true

/-- What is asked of string(b) where b is an own slice of bytes. -/
def convA (P : Program) (src dst : TypeId) (x : AV) (s : Store) (R : AV → Prop) : Prop :=
  match P.underlying src, P.underlying dst, x with
  | some (.slice e), some .string, .mvec id off len sz => P.underlying e = some (.int .u8) ∧ match s[id]? with
    | some (.vecI .u8 l) => sz = 1 ∧ off + len ≤ l.length ∧ U8s l ∧ R (.str ((l.drop off).take len))
    | _ => False
  | _, _, _ => False

theorem convA_sound {src dst : TypeId} {x : AV} {σ : Store} {R : AV → Prop} (h : convA P src dst x σ R) {u : Value} (hx : Rep G x u) {w : World} (hw : WRel G σ w) :
    ∃ c v, (convert src dst u).run P w = .ok c w ∧ Rep G v c ∧ R v := by
  unfold convA at h
  split at h
  · rename_i e oid off len sz h1 h2
    obtain ⟨h3, h⟩ := h
    split at h
    · rename_i l ho
      obtain ⟨rfl, hle, hu8, hR⟩ := h
      obtain ⟨b', m', arr, ty, q1, q2, q3, q4, q5, q6, q7, q8⟩ := (hw.objs oid _ ho).get (cs := l.map (AV.int .u8)) rfl
      cases hx with
      | mvec _ _ _ _ cap bb m hb hcap hfit =>
      rw [hb] at q1; cases q1
      obtain ⟨l2, hl2⟩ : ∃ l2, l2 = (l.drop off).take len := ⟨_, rfl⟩
      have hlen : l2.length = len := by rw [hl2]; simp; omega
      have hu2 : U8s l2 := fun x hx => hu8 x (by rw [hl2] at hx; exact List.mem_of_mem_drop (List.mem_of_mem_take hx))
      have hback : (strOfNums l2).data.toList.map (fun b => (b.toNat : Int)) = l2 := by
        rw [strOfNums_data, List.map_map]
        conv => rhs; rw [← List.map_id l2]
        refine List.map_congr_left fun x hx => ?_
        have := hu2 x hx
        simp only [Function.comp, id, UInt8.toNat_ofNat']
        omega
      rw [← hl2] at hR
      refine ⟨.string (strOfNums l2), _, ?_, .str _ _ hback, hR⟩
      refine run_convert_bytes_arg w src e h1 h3 b' (off * 1) len cap l2 hlen (fun i hi => ?_) dst h2
      have hget : l[off + i]? = some (l2.getD i 0) := by
        rw [List.getD_eq_getElem?_getD, hl2, List.getElem?_take, if_pos (by omega), List.getElem?_drop, List.getElem?_eq_getElem (by omega)]
        rfl
      obtain ⟨c, hc, hr⟩ := q7.get (off + i) (.int .u8 (l2.getD i 0)) (by rw [List.getElem?_map, hget]; rfl)
      cases hr
      rw [List.getElem?_take] at hc
      split at hc
      · rw [cell_of_row w b' _ arr ty _ q2, Nat.mul_one]
        simpa using hc
      · cases hc
    · exact h.elim
  · exact h.elim

/-- What is asked of an operation that looks at the store, or calls. -/
def vcS (P : Program) (e : Env) (s : Store) (R : AV → Store → Prop) : Op → Prop
  | .alloc t => match zeroA P t with
    | some cs => cs.all AV.cell = true ∧ R (.ptr s.length 0) (s ++ [.box cs])
    | none => False
  | .box _ x => match (evO e x).cellsOf with
    | some cs => R (.ptr s.length 0) (s ++ [.box cs])
    | none => False
  | .load t x => vcLoad P t (evO e x) s R
  | .store t x y => vcStore P t (evO e x) (evO e y) s R
  | .makeSlice t l c => vcMake P t (evO e l) (evO e c) s R
  | .call { callee := .builtin .append, args := xs, argTypes := ts } => match ts.toList, xs.toList with
    | [t, t'], [x, y] => tyOk P t' = true ∧ vcAppend P t (evO e x) (evO e y) s R
    | _, _ => False
  | .call { callee := .value f, args := xs, argTypes := _ } => match evO e f with
    | .fn g fs cs => ACalls P g (fs ++ xs.toList.map (evO e) ++ cs) s R
    | _ => False
  | .convert src dst x => convA P src dst (evO e x) s fun v => R v s
  | _ => False

def vcOp (P : Program) (e : Env) (s : Store) (R : AV → Store → Prop) (op : Op) : Prop :=
  match evA P e op with
  | .val v => R v s
  | .need p v => p ∧ R v s
  | .no => vcS P e s R op

theorem vcOp_sound {N : Nat} {e : Env} {s : Store} {R : AV → Store → Prop} {o : Oper} (h : vcOp P e s R o.op) : OpJ P N o e s R := by
  unfold vcOp at h
  split at h
  · rename_i v hv; exact .of_pure (evA_sound (by rw [hv]; rfl)) h
  · rename_i p v hv; exact .of_pure (evA_sound (by rw [hv]; exact ⟨h.1, rfl⟩)) h.2
  · rename_i hno; clear hno
    obtain ⟨dst, op, ty, pos, after, guard⟩ := o
    simp only at h
    unfold vcS at h
    split at h
    · -- alloc
      rename_i t
      split at h
      · rename_i cs hz
        obtain ⟨hall, hr⟩ := h
        refine .of_run fun G a w he hw => ?_
        unfold zeroA at hz
        split at hz
        · rename_i it hit
          split at hz
          · rename_i zv hzv
            cases hz
            have hzrep : RepL G (zv.cells.toList.map ofCell) zv.cells.toList := by
              generalize zv.cells.toList = l
              induction l with
              | nil => exact .nil
              | cons a l ih => exact .cons (rep_ofCell G a) ih
            have hone : ∀ c ∈ zv.cells.toList, c.oneCell' = true := by
              intro c hc
              exact (rep_ofCell G c).oneCell (List.all_eq_true.1 hall _ (List.mem_map_of_mem hc))
            refine ⟨.pointer (some ⟨w.heap.size, 0, none⟩), w.alloc (.cells zv.cells t), _, _, _, .inl ?_, Gh.le_add G _ _, hw.push rfl rfl rfl rfl (ob := .box _) rfl _ hzrep (fun i c hc => by simpa using hc) hone, ?_, hr⟩
            · simp [execOp, Instr.alloc, zeroValue, typeInfo, hit, hzv, newVar, newRow]
            · exact .ptr _ 0 w.heap.size zv.cells.size (by simp only [Gh.add]; rw [← hw.len]; simp)
          · cases hz
        · cases hz
      · exact h.elim
    · -- box
      rename_i t x
      split at h
      · rename_i cs hc
        refine .of_run fun G a w he hw => ?_
        obtain ⟨hl, hone⟩ := cellsOf_rep (rep_evO he x) hc
        refine ⟨.pointer (some ⟨w.heap.size, 0, none⟩), w.alloc (.cells (a.eval x).cells t), _, _, _, .inl ?_, Gh.le_add G _ _, hw.push rfl rfl rfl rfl (ob := .box _) rfl _ hl (fun i c hc => by simpa using hc) hone, ?_, h⟩
        · simp [execOp, Instr.box, newVar, newRow]
        · exact .ptr _ 0 w.heap.size (a.eval x).cells.size (by simp only [Gh.add]; rw [← hw.len]; simp)
      · exact h.elim
    · -- load
      rename_i t x
      refine .of_run fun G a w he hw => ?_
      obtain ⟨c, v, hc, hr, hR⟩ := load_sound h (rep_evO he x) hw
      exact ⟨c, w, v, s, G, .inl (by simp only [execOp, Sem.run_bind, hc, Result.andThen_ok, Sem.run_pure]), .refl G, hw, hr, hR⟩
    · -- store
      rename_i t x y
      refine .of_run fun G a w he hw => ?_
      obtain ⟨w', σ', hc, hw', hR⟩ := store_sound h (rep_evO he x) (rep_evO he y) hw
      exact ⟨undef, w', .any, σ', G, .inr ⟨by simp only [execOp, Sem.run_bind, hc, Result.andThen_ok, Sem.run_pure], rfl⟩, .refl G, hw', .any _, hR⟩
    · -- make
      rename_i t l c
      refine .of_run fun G a w he hw => ?_
      obtain ⟨c, w', v, σ', G', hc, h1, h2, h3, h4⟩ := make_sound h (rep_evO he l) (rep_evO he c) hw
      exact ⟨c, w', v, σ', G', .inl (by simp only [execOp, Sem.run_bind, hc, Result.andThen_ok, Sem.run_pure]), h1, h2, h3, h4⟩
    · -- append
      rename_i xs ts
      split at h
      · rename_i t t' x y hts hxs
        obtain ⟨hty, h⟩ := h
        have hts' : ts = #[t, t'] := by rw [← Array.toArray_toList (xs := ts), hts]
        have hxs' : xs = #[x, y] := by rw [← Array.toArray_toList (xs := xs), hxs]
        subst hts'; subst hxs'
        unfold tyOk at hty
        cases hd : P.underlying t' with
        | none => simp [hd] at hty
        | some d' =>
          have hd' : ∀ k, d' ≠ .int k := by
            intro k e; subst e; simp [hd] at hty
          refine .of_run fun G a w he hw => ?_
          obtain ⟨c, w', v, σ', G', hc, h1, h2, h3, h4⟩ := append_sound (ty := ty) h hd hd' (rep_evO he x) (rep_evO he y) hw
          exact ⟨c, w', v, σ', G', .inl (by simp only [execOp, resolve, Sem.run_bind, Sem.run_pure, Result.andThen_ok, invoke, builtin, List.map_toArray, List.map_cons, List.map_nil, hc]), h1, h2, h3, h4⟩
      · exact h.elim
    · -- a call
      rename_i f xs ts
      split at h
      · rename_i g fs cs hf
        intro G a w he hw
        obtain ⟨gs, hs, hv, h1, h2⟩ := (show Rep G (.fn g fs cs) (a.eval f) by rw [← hf]; exact rep_evO he f).fn_inv
        have hl : RepL G (fs ++ xs.toList.map (evO e) ++ cs) (gs ++ xs.map a.eval ++ hs).toList := by
          simp only [Array.toList_append, Array.toList_map]
          exact (h1.append (repL_evO he xs.toList)).append h2
        have hcall := h.2 G w _ hw hl
        have hrun : (execOp a.eval ⟨dst, .call { callee := .value f, args := xs, argTypes := ts }, ty, pos, after, guard⟩).run P w = .ok (.enter g (gs ++ xs.map a.eval ++ hs)) w := by
          simp only [execOp, resolve, hv, Deferred.ofValue, Sem.run_bind, Sem.run_pure, Result.andThen_ok, invoke, h.1]
        exact .inr ⟨_, _, hrun, hcall.mono fun en w' ⟨v, r, σ', G', e1, q1, q2, q3, q4⟩ => ⟨v, r, σ', G', e1, q1, q2, q3, q4⟩⟩
      · exact h.elim
    · -- a conversion
      rename_i src dst' x
      refine .of_run fun G a w he hw => ?_
      obtain ⟨c, v, hc, hr, hR⟩ := convA_sound h (rep_evO he x) hw
      exact ⟨c, w, v, s, G, .inl (by simp only [execOp, Sem.run_bind, hc, Result.andThen_ok, Sem.run_pure]), .refl G, hw, hr, hR⟩
    · exact h.elim

end Go.Pa
