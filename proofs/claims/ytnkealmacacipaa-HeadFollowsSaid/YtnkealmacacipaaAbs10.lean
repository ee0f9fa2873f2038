/-
  Operations on the store: what is asked; soundness.
-/
import Derived.Test.YtnkealmacacipaaAbs9
import Derived.RangeFuncWrites
import Derived.RangeFuncLeaves
import Derived.RangeFuncCalls
import Derived.TacticsIn
import Derived.OrdersIn
namespace Go.Pa
set_option linter.unusedSectionVars false
variable [GTab]
variable {P : Program} {G : Gh}

/-- A call, on abstract values: it comes back, and what it hands back and leaves is as R says. -/
def ACalls (P : Program) (f : FuncId) (args : List AV) (σ : Store) (R : AV → Store → Prop) : Prop :=
  (∀ (vs : Array Value) w, (callFunc f vs).run P w = .ok (.enter f vs) w) ∧
  ∀ G w (vs : Array Value), WRel G σ w → RepL G args vs.toList → Calls P f vs w fun e w' => ∃ v r σ' G', e = .returned v ∧ G.le G' ∧ WRel G' σ' w' ∧ Rep G' r v ∧ R r σ'

theorem ACalls.mono {f : FuncId} {args : List AV} {σ : Store} {R R' : AV → Store → Prop} (h : ACalls P f args σ R) (hr : ∀ r σ', R r σ' → R' r σ') : ACalls P f args σ R' :=
  ⟨h.1, fun G w vs hw hl => (h.2 G w vs hw hl).mono fun _ _ ⟨v, r, σ', G', h1, h2, h3, h4, h5⟩ => ⟨v, r, σ', G', h1, h2, h3, h4, hr _ _ h5⟩⟩

/-- What is said of one operation that may call, or turn the store. -/
def OpJ (P : Program) (N : Nat) (o : Oper) (env : Env) (σ : Store) (R : AV → Store → Prop) : Prop :=
  ∀ G a w, ERel G N env a → WRel G σ w →
    (∃ c w' v σ' G', ((execOp a.eval o).run P w = .ok (.value c) w' ∨ ((execOp a.eval o).run P w = .ok .skip w' ∧ c = undef)) ∧ G.le G' ∧ WRel G' σ' w' ∧ Rep G' v c ∧ R v σ') ∨
    (∃ f vs, (execOp a.eval o).run P w = .ok (.enter f vs) w ∧ Calls P f vs w fun e w' => ∃ c v σ' G', e = .returned c ∧ G.le G' ∧ WRel G' σ' w' ∧ Rep G' v c ∧ R v σ')

theorem OpJ.of_run {N : Nat} {o : Oper} {env : Env} {σ : Store} {R : AV → Store → Prop}
    (h : ∀ G a w, ERel G N env a → WRel G σ w → ∃ c w' v σ' G', ((execOp a.eval o).run P w = .ok (.value c) w' ∨ ((execOp a.eval o).run P w = .ok .skip w' ∧ c = undef)) ∧ G.le G' ∧ WRel G' σ' w' ∧ Rep G' v c ∧ R v σ') : OpJ P N o env σ R :=
  fun G a w he hw => .inl (h G a w he hw)

theorem OpJ.wp {N : Nat} {o : Oper} {env : Env} {σ : Store} {R : AV → Store → Prop} (h : OpJ P N o env σ R) (G : Gh) (a : Act) (w : World) (Q : Exit → Act → World → Prop) (he : ERel G N env a) (hw : WRel G σ w) :
    o.wp P a w (fun a' w' => ∃ c v σ' G', a' = a.put o.dst c ∧ G.le G' ∧ WRel G' σ' w' ∧ Rep G' v c ∧ R v σ') Q := by
  unfold Oper.wp
  rcases h G a w he hw with ⟨c, w', v, σ', G', hrun, h1, h2, h3, h4⟩ | ⟨f, vs, hrun, hcall⟩
  · rcases hrun with hrun | ⟨hrun, rfl⟩
    · rw [hrun]; exact ⟨c, v, σ', G', rfl, h1, h2, h3, h4⟩
    · rw [hrun]; exact ⟨undef, v, σ', G', rfl, h1, h2, h3, h4⟩
  · rw [hrun, Oper.upon_enter]
    refine hcall.mono fun en w' hen => ?_
    obtain ⟨v, r, σ', G', rfl, q1, q2, q3, q4⟩ := hen
    exact ⟨v, r, σ', G', rfl, q1, q2, q3, q4⟩

/-- The same in a round of a loop over a function. -/
theorem OpJ.wpIn {N : Nat} {o : Oper} {env : Env} {σ : Store} {R : AV → Store → Prop} (h : OpJ P N o env σ R) (hd : ∀ c, o.op ≠ .defer c) (l n : Nat) (G : Gh) (a : Act) (w : World) (Q : Exit → Act → World → Prop) (he : ERel G N env a) (hw : WRel G σ w) :
    o.wpIn (Fence.wide.inRound l) n P a w (fun a' w' => ∃ c v σ' G', a' = a.put o.dst c ∧ G.le G' ∧ WRel G' σ' w' ∧ Rep G' v c ∧ R v σ') Q := by
  unfold Oper.wpIn
  refine ⟨fun _ _ => trivial, ?_⟩
  rw [Oper.semAt_eq _ _ _ hd]
  rcases h G a w he hw with ⟨c, w', v, σ', G', hrun, h1, h2, h3, h4⟩ | ⟨f, vs, hrun, hcall⟩
  · rcases hrun with hrun | ⟨hrun, rfl⟩
    · rw [hrun]; exact ⟨c, v, σ', G', rfl, h1, h2, h3, h4⟩
    · rw [hrun]; exact ⟨undef, v, σ', G', rfl, h1, h2, h3, h4⟩
  · rw [hrun, Oper.uponIn_enter]
    refine ⟨fun hn => by simp [Fence.wide] at hn, (CallsIn.inRound l (callsIn_wide.2 hcall)).mono fun en w' hen => ?_⟩
    obtain ⟨v, r, σ', G', rfl, q1, q2, q3, q4⟩ := hen
    exact ⟨v, r, σ', G', rfl, q1, q2, q3, q4⟩

theorem OpJ.of_pure {N : Nat} {o : Oper} {env : Env} {σ : Store} {R : AV → Store → Prop} {v : AV} (h : PureJ P N o env v) (hr : R v σ) : OpJ P N o env σ R :=
  .of_run fun G a w he hw => let ⟨c, w', G', h1, h2, h3, h4⟩ := h G σ a w he hw; ⟨c, w', v, σ, G', .inl h1, h2, h3, h4, hr⟩

/-- What a slice (or a string) holds. -/
inductive Cont where
  | E
  | I (k : IntKind) (l : List Int)
  | R (sz : Nat) (rs : List (List AV))

def Cont.len : Cont → Nat
  | .E => 0
  | .I _ l => l.length
  | .R _ rs => rs.length

def Cont.cells : Cont → List AV
  | .E => []
  | .I k l => l.map (AV.int k)
  | .R _ rs => rs.flatten

def Cont.fits (sz : Nat) : Cont → Prop
  | .E => True
  | .I _ _ => sz = 1
  | .R sz' rs => sz = sz' ∧ ∀ r ∈ rs, r.length = sz

def contA (s : Store) : AV → Option Cont
  | .nils => some .E
  | .emp => some .E
  | .ints k l => some (.I k l)
  | .rows sz rs => some (.R sz rs)
  | .str l => some (.I .u8 l)
  | .mvec id off len sz => match s[id]? with
    | some (.vecI k l) => if sz = 1 ∧ off + len ≤ l.length then some (.I k ((l.drop off).take len)) else none
    | some (.vecR sz' rs) => if sz = sz' ∧ off + len ≤ rs.length then some (.R sz ((rs.drop off).take len)) else none
    | _ => none
  | _ => none

theorem Cont.cells_length {sz : Nat} {c : Cont} (h : c.fits sz) : c.cells.length = c.len * sz := by
  cases c with
  | E => simp [Cont.cells, Cont.len]
  | I k l => simp only [Cont.fits] at h; subst h; simp [Cont.cells, Cont.len]
  | R sz' rs =>
    obtain ⟨rfl, hs⟩ := h
    simp only [Cont.cells, Cont.len, List.length_flatten]
    have : rs.map List.length = List.replicate rs.length sz := by
      apply List.ext_getElem?
      intro j
      simp only [List.getElem?_map, List.getElem?_replicate]
      split
      · rename_i hj; simp [hj, hs _ (List.getElem_mem hj)]
      · rename_i hj; simp [Nat.not_lt.1 hj]
    rw [this, List.sum_replicate_nat]

theorem sub_flatten {rs : List (List AV)} {sz : Nat} (hs : ∀ r ∈ rs, r.length = sz) (a n : Nat) : ∀ (i : Nat) y, ((rs.drop a).take n).flatten[i]? = some y → rs.flatten[a * sz + i]? = some y := by
  intro i y hy
  rcases Nat.lt_or_ge rs.length a with ha | ha
  · rw [List.drop_of_length_le (by omega)] at hy; simp at hy
  have e1 : (rs.take a).flatten.length = a * sz := by
    rw [List.length_flatten, show (rs.take a).map List.length = List.replicate a sz from ?_, List.sum_replicate_nat]
    apply List.ext_getElem?
    intro j
    simp only [List.getElem?_map, List.getElem?_take, List.getElem?_replicate]
    split
    · rename_i hj
      have hjl : j < rs.length := by omega
      simp [hjl, hs _ (List.getElem_mem hjl)]
    · rfl
  have e2 : rs.flatten = (rs.take a).flatten ++ (((rs.drop a).take n).flatten ++ ((rs.drop a).drop n).flatten) := by
    rw [← List.flatten_append, List.take_append_drop, ← List.flatten_append, List.take_append_drop]
  rw [e2, List.getElem?_append_right (by omega), e1, Nat.add_sub_cancel_left]
  rw [List.getElem?_append_left (List.getElem?_eq_some_iff.1 hy).1]
  exact hy

/-- What a slice holds is read. -/
theorem cont_read {σ : Store} {w : World} (hw : WRel G σ w) {x : AV} {u : Value} (hx : Rep G x u) {c : Cont} (hc : contA σ x = some c) {sz : Nat} (hf : c.fits sz) :
    (∀ w', (Builtin.lenOf u).run P w' = .ok c.len w') ∧ ∃ vs, RepL G c.cells vs ∧ (∀ v ∈ vs, v.oneCell' = true) ∧ ∀ w', w'.heap = w.heap → (Builtin.firstCells sz c.len u).run P w' = .ok vs.toArray w' := by
  have some_ : ∀ {ad : Addr} {n cap : Nat} {vs : List Value}, vs.length = n * sz → (∀ (j : Nat) v, vs[j]? = some v → w.cell? (ad.add j) = some v) → ∀ w', w'.heap = w.heap → (Builtin.firstCells sz n (.slice (some ad) n cap)).run P w' = .ok vs.toArray w' := by
    intro ad n cap vs hl hv w' hh
    exact run_firstCells_some w' sz n ad n cap vs hl fun j v hj => by
      have := hv j v hj
      rw [← this]; simp [World.cell?, hh]
  cases x with
  | nils => simp only [contA, Option.some.injEq] at hc; subst hc; cases hx; exact ⟨fun _ => rfl, [], .nil, by simp, fun w' _ => by simp [Builtin.firstCells]⟩
  | emp =>
    simp only [contA, Option.some.injEq] at hc; subst hc; cases hx; rename_i a
    exact ⟨fun _ => rfl, [], .nil, by simp, fun w' hh => some_ (n := 0) (vs := []) (by simp) (by simp) w' hh⟩
  | ints k l =>
    simp only [contA, Option.some.injEq] at hc; subst hc
    simp only [Cont.fits] at hf; subst hf
    cases hx with
    | ints0 _ a cap =>
      refine ⟨fun _ => rfl, [], .nil, by simp, fun w' hh => ?_⟩
      cases a with
      | none => simp [Builtin.firstCells]
      | some a => exact some_ (n := 0) (vs := []) (by simp) (by simp) w' hh
    | ints _ _ b o cap hcap hm =>
      refine ⟨fun _ => rfl, l.map (Value.int k), RepL.ints k l, by simp [Value.oneCell'], some_ (by simp [Cont.len]) fun j v hj => ?_⟩
      rw [add_lit]
      rw [List.getElem?_map] at hj
      cases hl : l[j]? with
      | none => simp [hl] at hj
      | some y => simp [hl] at hj; subst hj; exact (hw.imm _ _ _ (hm j y hl)).1
  | rows sz' rs =>
    simp only [contA, Option.some.injEq] at hc; subst hc
    obtain ⟨rfl, hs⟩ := hf
    cases hx with
    | rows0 _ a cap =>
      refine ⟨fun _ => rfl, [], .nil, by simp, fun w' hh => ?_⟩
      cases a with
      | none => simp [Builtin.firstCells]
      | some a => exact some_ (n := 0) (vs := []) (by simp) (by simp) w' hh
    | rows _ _ b o cap f hcap _ hm hr =>
      have hlen : rs.flatten.length = rs.length * sz := Cont.cells_length (c := .R sz rs) ⟨rfl, hs⟩
      refine ⟨fun _ => rfl, (List.range rs.flatten.length).map f, RepL.of_get (by simp [Cont.cells]) fun i x hx => ⟨f i, ?_, hr i x hx⟩, fun v hv => ?_, some_ (by simp [hlen, Cont.len]) fun j v hj => ?_⟩
      · have : i < rs.flatten.length := (List.getElem?_eq_some_iff.1 hx).1
        rw [List.getElem?_map, List.getElem?_range this]; rfl
      · simp only [List.mem_map, List.mem_range] at hv
        obtain ⟨i, hi, rfl⟩ := hv
        exact (hw.imm _ _ _ (hm i _ (List.getElem?_eq_getElem hi))).2
      · rw [add_lit]
        have hj' : j < rs.flatten.length := by have := (List.getElem?_eq_some_iff.1 hj).1; simpa using this
        rw [List.getElem?_map, List.getElem?_range hj'] at hj
        cases hj
        exact (hw.imm _ _ _ (hm j _ (List.getElem?_eq_getElem hj'))).1
  | str l =>
    simp only [contA, Option.some.injEq] at hc; subst hc
    simp only [Cont.fits] at hf; subst hf
    cases hx; rename_i s e
    have hlen := str_len e
    refine ⟨fun w' => by simp only [Builtin.lenOf, Cont.len, ← hlen, Sem.run_pure], l.map (Value.int .u8), RepL.ints .u8 l, by simp [Value.oneCell'], fun w' _ => ?_⟩
    simp only [Builtin.firstCells, Cont.len, Sem.run_pure]
    congr 1
    have : s.extract 0 l.length = s := by
      rw [← hlen]
      apply ByteArray.ext
      simp
    rw [this]
    apply Array.ext'
    rw [map_u8, e]
  | mvec id off len sz' =>
    unfold contA at hc
    cases hx with
    | mvec _ _ _ _ cap b n ho hcap hfit =>
    have rd : ∀ {ob : AObj} {cs : List AV}, σ[id]? = some ob → ob.cells = some cs → ∃ arr ty, w.heap[b]? = some (.cells arr ty (0, 0)) ∧ RepL G cs (arr.toList.take cs.length) ∧ (∀ c ∈ arr.toList, c.oneCell' = true) := by
      intro ob cs h1 h2
      obtain ⟨b', n', arr, ty, q1, q2, _, _, _, _, q3, q4⟩ := (hw.objs id ob h1).get h2
      rw [ho] at q1; cases q1
      exact ⟨arr, ty, q2, q3, q4⟩
    have fin : ∀ {cs ds : List AV} {arr : Array Value} {ty : TypeId}, w.heap[b]? = some (.cells arr ty (0, 0)) → RepL G cs (arr.toList.take cs.length) → (∀ c ∈ arr.toList, c.oneCell' = true) → ds.length = len * sz' →
        (∀ (i : Nat) y, ds[i]? = some y → cs[off * sz' + i]? = some y) →
        ∃ vs, RepL G ds vs ∧ (∀ v ∈ vs, v.oneCell' = true) ∧ vs.length = len * sz' ∧ ∀ (j : Nat) v, vs[j]? = some v → w.cell? ((⟨b, off * sz', none⟩ : Addr).add j) = some v := by
      intro cs ds arr ty h1 h2 h3 h4 h5
      have hget : ∀ (i : Nat) y, ds[i]? = some y → ∃ v, (arr.toList.take cs.length)[off * sz' + i]? = some v ∧ Rep G y v := fun i y hy => h2.get _ y (h5 i y hy)
      have hrep : RepL G ds (((arr.toList.take cs.length).drop (off * sz')).take ds.length) := by
        refine RepL.of_get ?_ fun i y hy => ?_
        · rcases Nat.eq_zero_or_pos ds.length with h0 | h0
          · simp [h0]
          · have hlt : ds.length - 1 < ds.length := by omega
            obtain ⟨v, hv, _⟩ := hget (ds.length - 1) _ (List.getElem?_eq_getElem hlt)
            have := (List.getElem?_eq_some_iff.1 hv).1
            simp only [List.length_take, List.length_drop] at this ⊢
            omega
        · obtain ⟨v, hv, hr⟩ := hget i y hy
          have hi : i < ds.length := (List.getElem?_eq_some_iff.1 hy).1
          exact ⟨v, by rw [List.getElem?_take, if_pos hi, List.getElem?_drop]; exact hv, hr⟩
      refine ⟨_, hrep, fun v hv => h3 v (List.mem_of_mem_take (List.mem_of_mem_drop (List.mem_of_mem_take hv))), by rw [← hrep.length, h4], fun j v hj => ?_⟩
      rw [add_lit, cell_of_row w b _ arr ty _ h1]
      rw [List.getElem?_take] at hj
      split at hj
      · rw [List.getElem?_drop, List.getElem?_take] at hj
        split at hj
        · simpa using hj
        · cases hj
      · cases hj
    cases hσ : σ[id]? with
    | none => simp [hσ] at hc
    | some ob =>
      simp only [hσ] at hc
      cases ob with
      | vecI k l =>
        simp only at hc
        split at hc
        · rename_i hcnd
          cases hc
          obtain ⟨rfl, hle⟩ := hcnd
          simp only [Cont.fits] at hf; subst hf
          obtain ⟨arr, ty, h1, h2, h3⟩ := rd hσ rfl
          have hlen : ((l.drop off).take len).length = len := by simp; omega
          obtain ⟨vs, g1, g2, g3, g4⟩ := fin (ds := ((l.drop off).take len).map (AV.int k)) h1 h2 h3 (by simp; omega) (fun i y hy => by
            rw [List.getElem?_map] at hy ⊢
            rw [List.getElem?_take] at hy
            split at hy
            · rw [List.getElem?_drop] at hy; rw [Nat.mul_one]; exact hy
            · cases hy)
          refine ⟨fun w' => by simp only [Builtin.lenOf, Cont.len, hlen, Sem.run_pure], vs, g1, g2, ?_⟩
          simp only [Cont.len, hlen]
          exact some_ g3 g4
        · cases hc
      | vecR sz'' rs =>
        simp only at hc
        split at hc
        · rename_i hcnd
          cases hc
          obtain ⟨rfl, hle⟩ := hcnd
          obtain ⟨rfl, hs⟩ := hf
          obtain ⟨cs0, hcs0⟩ : ∃ cs, (AObj.vecR sz rs).cells = some cs := by
            obtain ⟨_, _, _, _, cs0, q, _⟩ := hw.objs id _ hσ
            exact ⟨cs0, q⟩
          have hall : ∀ r ∈ rs, r.length = sz := by
            simp only [AObj.cells] at hcs0
            split at hcs0
            · assumption
            · cases hcs0
          obtain ⟨arr, ty, h1, h2, h3⟩ := rd hσ (cs := rs.flatten) (by simp only [AObj.cells]; rw [if_pos hall])
          have hlen : ((rs.drop off).take len).length = len := by simp; omega
          obtain ⟨vs, g1, g2, g3, g4⟩ := fin (ds := ((rs.drop off).take len).flatten) h1 h2 h3 (by
              have := Cont.cells_length (c := .R sz ((rs.drop off).take len)) ⟨rfl, hs⟩
              simpa [Cont.cells, Cont.len, hlen] using this) (sub_flatten hall off len)
          refine ⟨fun w' => by simp only [Builtin.lenOf, Cont.len, hlen, Sem.run_pure], vs, g1, g2, ?_⟩
          simp only [Cont.len, hlen]
          exact some_ g3 g4
        · cases hc
      | dead => simp at hc
      | box _ => simp at hc
      | mp _ => simp at hc
  | _ => simp [contA] at hc

end Go.Pa
