/-
  Maps with flat keys: the abstract operations; soundness.
-/
import Derived.Test.YtdioiegkpkjmkaaAbsA
import Derived.Maps.Keyed
import Derived.Carry
import Derived.DeepKeys4
namespace Go.Pa
set_option linter.unusedSectionVars false
open Go.Maps
variable [GTab]
variable {P : Program}

/-- The key types that are served: integers; arrays and structs of plain keys. -/
def keyTB (P : Program) (k : TypeId) : Bool := match P.underlying k with
  | some (.int _) => true
  | some (.array _ _) | some (.struct _) => P.keyTypeAt 3 k && decide (k < P.types.size)
  | _ => false

theorem keyTB_keyed (hl : laidOutB P = true) {k : TypeId} (h : keyTB P k = true) : Keyed P k := by
  unfold keyTB at h
  split at h
  · rename_i q hq; exact int_keyed hq
  · rename_i n e hk
    simp only [Bool.and_eq_true, decide_eq_true_eq] at h
    exact Keyed.of_law (Go.deep_law_laid hl (m := 3) (by omega) h.2 h.1 (by rw [hk]))
  · rename_i fs hk
    simp only [Bool.and_eq_true, decide_eq_true_eq] at h
    exact Keyed.of_law (Go.deep_law_laid hl (m := 3) (by omega) h.2 h.1 (by rw [hk]))
  · cases h

theorem rep_int_eq {G : Gh} {q : IntKind} {n : Int} {v : Value} (h : Rep G (.int q n) v) : v = .int q n := by cases h; rfl

theorem flatKey_one {G : Gh} {x : AV} (hx : flatKey x = true) {v v' : Value} (h : Rep G x v) (h' : Rep G x v') : v = v' := by
  cases x with
  | int q n => rw [rep_int_eq h, rep_int_eq h']
  | agg cs =>
    simp only [flatKey, List.all_eq_true] at hx
    cases h with
    | agg _ vs f hl h1 h2 =>
      cases h' with
      | agg _ vs' f' hl' h1' h2' =>
        congr 1
        apply Array.ext (by omega)
        intro i hi hi'
        have hlt : i < cs.length := by omega
        have hc : cs[i]? = some cs[i] := List.getElem?_eq_getElem hlt
        have e1 := h1 i _ hc
        have e2 := h1' i _ hc
        have r1 := h2 i _ hc
        have r2 := h2' i _ hc
        rw [Array.getElem?_eq_getElem hi] at e1
        rw [Array.getElem?_eq_getElem hi'] at e2
        have hf := hx cs[i] (List.getElem_mem hlt)
        generalize cs[i] = y at *
        cases y with
        | int q n =>
          rw [rep_int_eq r1] at e1
          rw [rep_int_eq r2] at e2
          rw [Option.some.inj e1, Option.some.inj e2]
        | _ => cases hf
  | _ => cases hx

theorem flatKey_eq {G : Gh} {x y : AV} (hx : flatKey x = true) (hy : flatKey y = true) {v : Value} (h : Rep G x v) (h' : Rep G y v) : x = y := by
  cases x with
  | int q n =>
    obtain rfl := rep_int_eq h
    cases y with
    | int q' n' => cases rep_int_eq h'; rfl
    | agg cs => cases h'
    | _ => cases hy
  | agg cs =>
    simp only [flatKey, List.all_eq_true] at hx
    cases h with
    | agg _ vs f hl h1 h2 =>
      cases y with
      | int q n => cases h'
      | agg ds =>
        simp only [flatKey, List.all_eq_true] at hy
        cases h' with
        | agg _ _ f' hl' h1' h2' =>
          congr 1
          apply List.ext_getElem (by omega)
          intro i hi hi'
          have e1 := h1 i _ (List.getElem?_eq_getElem hi)
          have e2 := h1' i _ (List.getElem?_eq_getElem hi')
          have r1 := h2 i _ (List.getElem?_eq_getElem hi)
          have r2 := h2' i _ (List.getElem?_eq_getElem hi')
          have f1 := hx _ (List.getElem_mem hi)
          have f2 := hy _ (List.getElem_mem hi')
          rw [e1] at e2
          have e3 := Option.some.inj e2
          generalize cs[i] = a at *
          generalize ds[i] = b at *
          cases a with
          | int q n =>
            cases b with
            | int q' n' =>
              rw [rep_int_eq r1, rep_int_eq r2] at e3
              cases e3; rfl
            | _ => cases f2
          | _ => cases f1
      | _ => cases hy
  | _ => cases hx

variable {G : Gh}

/-- A new map. -/
theorem WRel.pushMap {σ : Store} {w w1 : World} (hw : WRel G σ w) (e1 : w1.heap = w.heap) (e2 : w1.os = w.os) (e3 : w1.tape = w.tape) (e4 : w1.output = w.output) :
    WRel (G.add w.heap.size 0) (σ ++ [.mp (.kv [] 0)]) (w1.alloc (.map #[] 0)) := by
  have hg := Gh.le_add G w.heap.size 0
  have hnew : (w1.alloc (.map #[] 0)).heap[w.heap.size]? = some (.map #[] 0) := by
    show (w1.heap.push _)[w.heap.size]? = _
    rw [e1]; simp
  have hold : ∀ b, b < w.heap.size → (w1.alloc (.map #[] 0)).heap[b]? = w.heap[b]? := fun b hb => by
    show (w1.heap.push _)[b]? = _
    rw [e1, Array.getElem?_push, if_neg (Nat.ne_of_lt hb)]
  have himm : ∀ b o c, G.imm b o = some c → b < w.heap.size := fun b o c h => World.block_lt_of_cell? w _ (hw.imm b o c h).1
  have hlast : ∀ i x, (G.obj ++ [(w.heap.size, 0)])[i]? = some x → (i < G.obj.length ∧ G.obj[i]? = some x) ∨ (i = G.obj.length ∧ x = (w.heap.size, 0)) := by
    intro i x h
    rcases Nat.lt_or_ge i G.obj.length with hi | hi
    · rw [List.getElem?_append_left hi] at h; exact .inl ⟨hi, h⟩
    · rw [List.getElem?_append_right hi] at h
      have : i - G.obj.length = 0 := by
        rcases Nat.eq_zero_or_pos (i - G.obj.length) with h0 | h0
        · exact h0
        · rw [List.getElem?_eq_none (by simp; omega)] at h; cases h
      rw [this] at h; simp at h
      exact .inr ⟨by omega, h.symm⟩
  have slast : ∀ i x, (σ ++ [.mp (.kv [] 0)])[i]? = some x → (i < σ.length ∧ σ[i]? = some x) ∨ (i = σ.length ∧ x = .mp (.kv [] 0)) := by
    intro i x h
    rcases Nat.lt_or_ge i σ.length with hi | hi
    · rw [List.getElem?_append_left hi] at h; exact .inl ⟨hi, h⟩
    · rw [List.getElem?_append_right hi] at h
      have : i - σ.length = 0 := by
        rcases Nat.eq_zero_or_pos (i - σ.length) with h0 | h0
        · exact h0
        · rw [List.getElem?_eq_none (by simp; omega)] at h; cases h
      rw [this] at h; simp at h
      exact .inr ⟨by omega, h.symm⟩
  refine ⟨by simp [Gh.add, hw.len], fun b o c h => ?_, fun id x hx => ?_, fun i j oi oj bi bj a1 a2 a3 a4 a5 a6 a7 => ?_, fun b hb => ?_, ?_, e2.trans hw.os, e3.trans hw.tape, e4.trans hw.output, fun D o hD => ⟨(hw.marks D o hD).1, by rw [hold D (Array.getElem?_eq_some_iff.1 (hw.marks D o hD).2.1).1]; exact (hw.marks D o hD).2.1, (hw.marks D o hD).2.2⟩, by
    show _ ≤ (w1.heap.push _).size
    rw [e1]; simp; exact Nat.le_succ_of_le hw.grew, hw.globs⟩
  · have hlt := himm b o c h
    have := hw.imm b o c h
    exact ⟨by rw [World.cell?_of_block (w := w) (hold b hlt)]; exact this.1, this.2⟩
  · rcases slast id x hx with ⟨hi, hx⟩ | ⟨rfl, rfl⟩
    · cases hlv : x.live with
      | false => cases x <;> first | trivial | cases hlv
      | true =>
        obtain ⟨b, n, q1, q2, q3, q4⟩ := (hw.objs id x hx).block hlv
        refine objRel_mono hg (hw.objs id x hx) (fun b' n' e => ?_) (fun b' n' e hlt h0 o => h0 o)
        rw [q1] at e; cases e; exact hold _ q2
    · refine ⟨w.heap.size, 0, #[], 0, ?_, hnew, hw.sz, (fun o => ?_), (fun D o hD => Nat.ne_of_lt (Array.getElem?_eq_some_iff.1 (hw.marks D o hD).2.1).1), (fun i j a b h => by simp at h), rfl, rfl, fun i p h => by simp at h⟩
      · simp only [Gh.add]; rw [← hw.len]; simp
      · show G.imm w.heap.size o = none
        cases hq : G.imm w.heap.size o with
        | none => rfl
        | some c => exact absurd (himm _ _ _ hq) (Nat.lt_irrefl _)
  · have hblk : ∀ (i : Nat) oi bi, σ[i]? = some oi → oi.live = true → G.obj[i]? = some bi → bi.1 < w.heap.size := fun i oi bi q1 q2 q3 => by
      obtain ⟨b, n, p1, p2, _⟩ := (hw.objs i oi q1).block q2
      rw [p1] at q3; cases q3; exact p2
    rcases slast i oi a1 with ⟨hi, b1⟩ | ⟨hi, rfl⟩
    · rcases slast j oj a2 with ⟨hj, b2⟩ | ⟨hj, rfl⟩
      · rcases hlast i bi a5 with ⟨_, c1⟩ | ⟨hi', _⟩
        · rcases hlast j bj a6 with ⟨_, c2⟩ | ⟨hj', _⟩
          · exact hw.inj i j oi oj bi bj b1 b2 a3 a4 c1 c2 a7
          · rw [hw.len] at hj'; omega
        · rw [hw.len] at hi'; omega
      · rcases hlast i bi a5 with ⟨_, c1⟩ | ⟨hi', _⟩
        · rcases hlast j bj a6 with ⟨hj', _⟩ | ⟨_, rfl⟩
          · rw [hw.len] at hj'; omega
          · have := hblk i oi bi b1 a3 c1
            simp only at a7; omega
        · rw [hw.len] at hi'; omega
    · rcases slast j oj a2 with ⟨hj, b2⟩ | ⟨hj, rfl⟩
      · rcases hlast j bj a6 with ⟨_, c2⟩ | ⟨hj', _⟩
        · rcases hlast i bi a5 with ⟨hi', _⟩ | ⟨_, rfl⟩
          · rw [hw.len] at hi'; omega
          · have := hblk j oj bj b2 a4 c2
            simp only at a7; omega
        · rw [hw.len] at hj'; omega
      · omega
  · show _ = G.w0.heap[b]?
    rw [hold b (Nat.lt_of_lt_of_le hb hw.sz)]
    exact hw.frame b hb
  · show G.base ≤ (w1.heap.push _).size
    rw [e1]; have := hw.sz; simp; omega

/-- A map is written. -/
theorem WRel.setMap {σ : Store} {w w' : World} (hw : WRel G σ w) {id : Nat} {kv kv' : MapA} (ho : σ[id]? = some (.mp kv)) {b n : Nat} {es es' : Array MapEntry} {clock clock' : Nat} (h2 : G.obj[id]? = some (b, n))
    (h3 : w.heap[b]? = some (.map es clock)) (hother : ∀ k, k ≠ b → w'.heap[k]? = w.heap[k]?) (hsz : w'.heap.size = w.heap.size) (h3' : w'.heap[b]? = some (.map es' clock')) (e2 : w'.os = w.os) (e3 : w'.tape = w.tape) (e4 : w'.output = w.output)
    (h4 : Apart es') (h5 : MapRel G es' clock' kv') : WRel G (σ.set id (.mp kv')) w' := by
  obtain ⟨b', n', q1, q2, q3, q4⟩ := (hw.objs id _ ho).block rfl
  rw [h2] at q1; cases q1
  have hid : id < σ.length := (List.getElem?_eq_some_iff.1 ho).1
  have hl : (AObj.mp kv).live = true := rfl
  have hmk : ∀ D o, G.mark D o → D ≠ b := by
    obtain ⟨b1, n1, es1, clock1, q1, q2, q3, q4, q4m, _⟩ := hw.objs id _ ho
    rw [h2] at q1; cases q1
    exact q4m
  have hset : ∀ (i : Nat) (x : AObj), (σ.set id (.mp kv'))[i]? = some x → (i = id ∧ x = (.mp kv')) ∨ (i ≠ id ∧ σ[i]? = some x) := by
    intro i x h
    rw [List.getElem?_set] at h
    split at h
    · rename_i e
      first
        | (cases h; exact .inl ⟨e.symm, rfl⟩)
        | (rw [if_pos hid] at h; cases h; exact .inl ⟨e.symm, rfl⟩)
    · rename_i e; exact .inr ⟨fun e' => e e'.symm, h⟩
  have hback : ∀ (i : Nat) (x : AObj), (σ.set id (.mp kv'))[i]? = some x → x.live = true → ∃ y, σ[i]? = some y ∧ y.live = true := by
    intro i x h hx
    rcases hset i x h with ⟨rfl, rfl⟩ | ⟨_, h⟩
    · exact ⟨_, ho, rfl⟩
    · exact ⟨x, h, hx⟩
  refine ⟨by simp [hw.len], fun b' o c h => ?_, fun i x hx => ?_, fun i j oi oj bi bj a1 a2 a3 a4 a5 a6 a7 => ?_, fun k hk => ?_, by rw [hsz]; exact hw.sz, e2.trans hw.os, e3.trans hw.tape, e4.trans hw.output, fun D o hD => ⟨(hw.marks D o hD).1, by
    obtain ⟨_, h0, h0'⟩ := hw.marks D o hD
    have hne : D ≠ b := fun e => by subst e; exact hmk _ _ hD rfl
    rw [hother D hne]; exact h0, (hw.marks D o hD).2.2⟩, by rw [hsz]; exact hw.grew, hw.globs⟩
  · have := hw.imm b' o c h
    have hne : b' ≠ b := fun e => by subst e; rw [q4 o] at h; cases h
    exact ⟨by rw [World.cell?_of_block (w := w) (hother b' hne)]; exact this.1, this.2⟩
  · rcases hset i x hx with ⟨rfl, rfl⟩ | ⟨hne, hx⟩
    · exact ⟨b, n, es', clock', h2, h3', q3, q4, hmk, h4, h5⟩
    · cases hlx : x.live with
      | false => cases x <;> first | trivial | cases hlx
      | true =>
        refine objRel_mono (.refl G) (hw.objs i x hx) (fun b' n' e => hother b' fun hb => ?_) (fun _ _ _ _ h0 => h0)
        subst hb
        exact hne (hw.inj i id x _ _ _ hx ho hlx rfl e h2 rfl)
  · obtain ⟨yi, p1, p2⟩ := hback i oi a1 a3
    obtain ⟨yj, p3, p4⟩ := hback j oj a2 a4
    exact hw.inj i j yi yj bi bj p1 p3 p2 p4 a5 a6 a7
  · rw [hother k (by omega)]; exact hw.frame k hk



/-! ### Looking up, putting in -/

open Classical in
/-- The entry that bears a key: where it stands, its value, its stamp. -/
noncomputable def lookKV : List (AV × AV × Nat) → AV → Option (Nat × AV × Nat)
  | [], _ => none
  | p :: r, k => if p.1 = k then some (0, p.2) else (lookKV r k).map fun q => (q.1 + 1, q.2)

theorem lookKV_none {l : List (AV × AV × Nat)} {k : AV} : lookKV l k = none ↔ ∀ p ∈ l, p.1 ≠ k := by
  induction l with
  | nil => simp [lookKV]
  | cons p r ih =>
    by_cases h : p.1 = k
    · simp [lookKV, h]
    · simp [lookKV, h, ih]

theorem lookKV_get : ∀ {l : List (AV × AV × Nat)} {k : AV} {q : Nat × AV × Nat}, lookKV l k = some q → l[q.1]? = some (k, q.2)
  | [], _, _, h => by simp [lookKV] at h
  | p :: r, k, q, h => by
    by_cases hp : p.1 = k
    · simp only [lookKV, hp, if_true, Option.some.injEq] at h
      subst h
      obtain ⟨a, b⟩ := p
      simp only at hp
      subst hp
      rfl
    · simp only [lookKV, hp, if_false] at h
      cases hr : lookKV r k with
      | none => simp [hr] at h
      | some q' =>
        simp only [hr, Option.map_some, Option.some.injEq] at h
        subst h
        simpa using lookKV_get hr

theorem lookKV_of {l : List (AV × AV × Nat)} {k : AV} (hap : ∀ (i j : Nat) p q, l[i]? = some p → l[j]? = some q → p.1 = q.1 → i = j) {i : Nat} {y : AV × Nat} (h : l[i]? = some (k, y)) : lookKV l k = some (i, y) := by
  cases hl : lookKV l k with
  | none => exact absurd rfl (lookKV_none.1 hl _ (List.mem_of_getElem? h))
  | some q =>
    have hg := lookKV_get hl
    have := hap _ _ _ _ h hg rfl
    obtain ⟨j, z⟩ := q
    simp only at this hg
    subst this
    rw [h] at hg
    cases hg
    rfl

/-- A key is plain, and one of its type. -/
def keyOkA (P : Program) (kt : TypeId) (k : AV) : Prop := flatKey k = true ∧ ∀ (G : Gh) (v : Value), Rep G k v → ∃ l, keyOf P kt v = some l

theorem find_kv {kt : TypeId} (K : Keyed P kt) {es : Array MapEntry} {clock c : Nat} {l : List (AV × AV × Nat)} (hap : Apart es) (hm : MapRel G es clock (.kv l c)) (hks : ∀ p ∈ l, keyOkA P kt p.1) {k : AV} (hk : keyOkA P kt k) {x : Value}
    (hr : Rep G k x) (w : World) : (lookKV l k = none ∧ (Instr.findKey kt x es.toList).run P w = .ok none w ∧ ∀ e ∈ es.toList, e.key ≠ x) ∨
      ∃ i v e, lookKV l k = some (i, v, e.born) ∧ es[i]? = some e ∧ e.key = x ∧ Rep G v e.val ∧ (Instr.findKey kt x es.toList).run P w = .ok (some (i, e.val)) w := by
  obtain ⟨_, hsz, hm⟩ := hm
  obtain ⟨lx, hlx⟩ := hk.2 G x hr
  have hes : ∀ (i : Nat) e, es[i]? = some e → ∃ p, l[i]? = some p ∧ Rep G p.1 e.key ∧ Rep G p.2.1 e.val ∧ e.born = p.2.2 := fun i e he => by
    have hi : i < l.length := by rw [← hsz]; exact (Array.getElem?_eq_some_iff.1 he).1
    obtain ⟨e', h1, h2, h3, h4⟩ := hm i _ (List.getElem?_eq_getElem hi)
    rw [he] at h1; cases h1
    exact ⟨_, List.getElem?_eq_getElem hi, h2, h3, h4⟩
  have hapL : ∀ (i j : Nat) p q, l[i]? = some p → l[j]? = some q → p.1 = q.1 → i = j := fun i j p q hp hq he => by
    obtain ⟨a, a1, a2, _⟩ := hm i p hp
    obtain ⟨b, b1, b2, _⟩ := hm j q hq
    refine hap i j a b a1 b1 ?_
    rw [← he] at b2
    exact flatKey_one (hks p (List.mem_of_getElem? hp)).1 a2 b2
  rcases K.find w hlx es.toList (fun e he => by
    obtain ⟨i, hi⟩ := List.mem_iff_getElem?.1 he
    obtain ⟨p, p1, p2, _⟩ := hes i e (by simpa using hi)
    exact (hks p (List.mem_of_getElem? p1)).2 G _ p2) with ⟨h1, h2⟩ | ⟨j, e, h1, h2, h3⟩
  · refine .inl ⟨lookKV_none.2 fun p hp hpk => ?_, h1, h2⟩
    obtain ⟨i, hi⟩ := List.mem_iff_getElem?.1 hp
    obtain ⟨e, a1, a2, _⟩ := hm i p hi
    rw [hpk] at a2
    exact h2 e (by have := List.mem_of_getElem? (l := es.toList) (a := e) (i := i) (by simpa using a1); exact this) (flatKey_one hk.1 a2 hr)
  · have he : es[j]? = some e := by simpa using h2
    obtain ⟨p, p1, p2, p3, p4⟩ := hes j e he
    have hpk : p.1 = k := flatKey_eq (hks p (List.mem_of_getElem? p1)).1 hk.1 p2 (by rw [h3]; exact hr)
    obtain ⟨p, y, b⟩ := p
    simp only at hpk p1 p3 p4
    subst hpk
    subst p4
    exact .inr ⟨j, y, e, lookKV_of hapL p1, he, h3, p3, h1⟩

theorem find_memo {kt : TypeId} (K : Keyed P kt) {es : Array MapEntry} {clock : Nat} {Q : AV → AV → Prop} (hm : MapRel G es clock (.memo Q)) (hks : ∀ k v, Q k v → keyOkA P kt k) {k : AV} (hk : keyOkA P kt k) {x : Value}
    (hr : Rep G k x) (w : World) : ((Instr.findKey kt x es.toList).run P w = .ok none w ∧ ∀ e ∈ es.toList, e.key ≠ x) ∨
      ∃ i v e, Q k v ∧ flatKey v = true ∧ es[i]? = some e ∧ e.key = x ∧ Rep G v e.val ∧ (Instr.findKey kt x es.toList).run P w = .ok (some (i, e.val)) w := by
  obtain ⟨lx, hlx⟩ := hk.2 G x hr
  rcases K.find w hlx es.toList (fun e he => by
    obtain ⟨k', v', h1, _, _, h2, _⟩ := hm e he
    exact (hks k' v' h1).2 G _ h2) with ⟨h1, h2⟩ | ⟨j, e, h1, h2, h3⟩
  · exact .inl ⟨h1, h2⟩
  · obtain ⟨k', v', q1, q2, q3, q4, q5⟩ := hm e (List.mem_of_getElem? h2)
    have : k' = k := flatKey_eq q2 hk.1 q4 (by rw [h3]; exact hr)
    subst this
    exact .inr ⟨j, v', e, q1, q3, by simpa using h2, h3, q5, h1⟩

/-- The zero value. -/
def zeroV (P : Program) (t : TypeId) : Option AV :=
  match P.info? t with
  | some i => match i.zero with
    | some z => some (ofVal z)
    | none => none
  | none => none

theorem run_zeroV {t : TypeId} {z : AV} (h : zeroV P t = some z) (w : World) : ∃ zv, (zeroValue t).run P w = .ok zv w ∧ Rep G z zv := by
  unfold zeroV at h
  split at h
  · rename_i it hit
    split at h
    · rename_i zv hzv
      cases h
      exact ⟨zv, by simp [zeroValue, typeInfo, hit, hzv], rep_ofVal G zv⟩
    · cases h
  · cases h

def ansL (c : Bool) (v : AV) (ok : Bool) : AV := if c then .tup [v, .bool ok] else v
theorem ansL_t (v : AV) (ok : Bool) : ansL true v ok = .tup [v, .bool ok] := rfl
theorem ansL_f (v : AV) (ok : Bool) : ansL false v ok = v := rfl

theorem rep_ansL {c : Bool} {v : AV} {ok : Bool} {x : Value} (h : Rep G v x) : Rep G (ansL c v ok) (if c then .tuple #[x, .bool ok] else x) := by
  cases c with
  | false => exact h
  | true =>
    refine .tup _ _ (fun i => (#[x, .bool ok] : Array Value).getD i x) rfl (fun i y hy => ?_) (fun i y hy => ?_)
    · match i with
      | 0 => rfl
      | 1 => rfl
      | i + 2 => simp at hy
    · match i with
      | 0 => simp at hy; subst hy; exact h
      | 1 => simp at hy; subst hy; exact .bool ok
      | i + 2 => simp at hy

/-- m[k] of a map of which all is known. -/
def lookA1 (c : Bool) (z : AV) : Option (Nat × AV × Nat) → AV
  | none => ansL c z false
  | some q => ansL c q.2.1 true

def vcLook (P : Program) (t : TypeId) (x k : AV) (c : Bool) (s : Store) (R : AV → Store → Prop) : Prop :=
  match P.underlying t, x with
  | some (.map kt et), .mp id => match s[id]?, zeroV P et with
    | some (.mp (.kv l _)), some z => Keyed P kt ∧ keyOkA P kt k ∧ (∀ p ∈ l, keyOkA P kt p.1) ∧ R (lookA1 c z (lookKV l k)) s
    | some (.mp (.memo Q)), some z => Keyed P kt ∧ keyOkA P kt k ∧ (∀ k' v', Q k' v' → keyOkA P kt k') ∧ R (ansL c z false) s ∧ ∀ v, Q k v → R (ansL c v true) s
    | _, _ => False
  | _, _ => False

theorem ObjRel.map {w : World} {id : Nat} {m : MapA} (h : ObjRel G w id (.mp m)) {b n : Nat} (ho : G.obj[id]? = some (b, n)) : ∃ es clock, w.heap[b]? = some (.map es clock) ∧ Apart es ∧ MapRel G es clock m := by
  obtain ⟨b', n', es, clock, h1, h2, _, _, _, h5, h6⟩ := h
  rw [ho] at h1; cases h1
  exact ⟨es, clock, h2, h5, h6⟩

theorem rep_mp {id : Nat} {v : Value} (h : Rep G (.mp id) v) : ∃ b n, v = .map (some b) ∧ G.obj[id]? = some (b, n) := by
  cases h with | mp _ b n ho => exact ⟨b, n, rfl, ho⟩

theorem look_sound {t : TypeId} {x k : AV} {c : Bool} {σ : Store} {R : AV → Store → Prop} (h : vcLook P t x k c σ R) {u v : Value} (hx : Rep G x u) (hk : Rep G k v) {w : World} (hw : WRel G σ w) :
    ∃ y r, (Instr.lookup t u v c).run P w = .ok y w ∧ Rep G r y ∧ R r σ := by
  unfold vcLook at h
  split at h
  · rename_i kt et id hd
    obtain ⟨b, n, rfl, ho⟩ := rep_mp hx
    split at h
    · rename_i l cl z hs hz
      obtain ⟨K, h1, h2, hR⟩ := h
      obtain ⟨es, clock, e1, e2, e3⟩ := (hw.objs id _ hs).map ho
      obtain ⟨lx, hlx⟩ := h1.2 G v hk
      obtain ⟨zv, hzv, hzr⟩ := run_zeroV (G := G) hz w
      rcases find_kv K e2 e3 h2 h1 hk w with ⟨f1, f2, _⟩ | ⟨i, y, e, f1, f2, f3, f4, f5⟩
      · exact ⟨_, _, by simp [Instr.lookup, run_underlying hd, MapKept.run_getObj_map e1, K.check w _ hlx, f2, hzv, Result.andThen] <;> rfl, rep_ansL hzr, by rw [f1] at hR; exact hR⟩
      · exact ⟨_, _, by simp [Instr.lookup, run_underlying hd, MapKept.run_getObj_map e1, K.check w _ hlx, f5, Result.andThen] <;> rfl, rep_ansL f4, by rw [f1] at hR; exact hR⟩
    · rename_i Q z hs hz
      obtain ⟨K, h1, h2, hR, hR'⟩ := h
      obtain ⟨es, clock, e1, e2, e3⟩ := (hw.objs id _ hs).map ho
      obtain ⟨lx, hlx⟩ := h1.2 G v hk
      obtain ⟨zv, hzv, hzr⟩ := run_zeroV (G := G) hz w
      rcases find_memo K e3 h2 h1 hk w with ⟨f2, _⟩ | ⟨i, y, e, f1, _, f2, f3, f4, f5⟩
      · exact ⟨_, _, by simp [Instr.lookup, run_underlying hd, MapKept.run_getObj_map e1, K.check w _ hlx, f2, hzv, Result.andThen] <;> rfl, rep_ansL hzr, hR⟩
      · exact ⟨_, _, by simp [Instr.lookup, run_underlying hd, MapKept.run_getObj_map e1, K.check w _ hlx, f5, Result.andThen] <;> rfl, rep_ansL f4, hR' y f1⟩
    · exact h.elim
  · exact h.elim

/-- m[k] = v. -/
noncomputable def putKV (l : List (AV × AV × Nat)) (c : Nat) (k y : AV) : MapA := match lookKV l k with
  | none => .kv (l ++ [(k, y, c)]) (c + 1)
  | some q => .kv (l.set q.1 (k, y, q.2.2)) c

def vcPut (P : Program) (t : TypeId) (x k y : AV) (s : Store) (R : AV → Store → Prop) : Prop :=
  match P.underlying t, x with
  | some (.map kt _), .mp id => match s[id]? with
    | some (.mp (.kv l c)) => Keyed P kt ∧ keyOkA P kt k ∧ (∀ p ∈ l, keyOkA P kt p.1) ∧ R .any (s.set id (.mp (putKV l c k y)))
    | some (.mp (.memo Q)) => Keyed P kt ∧ keyOkA P kt k ∧ (∀ k' v', Q k' v' → keyOkA P kt k') ∧ flatKey y = true ∧ Q k y ∧ R .any s
    | _ => False
  | _, _ => False

theorem apart_push {es : Array MapEntry} (h : Apart es) {e : MapEntry} (hn : ∀ x ∈ es.toList, x.key ≠ e.key) : Apart (es.push e) := by
  intro i j a b ha hb hk
  rw [Array.getElem?_push] at ha hb
  have mem : ∀ {i : Nat} {a : MapEntry}, es[i]? = some a → a ∈ es.toList := fun h => List.mem_of_getElem? (l := es.toList) (by simpa using h)
  split at ha
  · split at hb
    · omega
    · cases ha; exact absurd hk.symm (hn b (mem hb))
  · split at hb
    · cases hb; exact absurd hk (hn a (mem ha))
    · exact h i j a b ha hb hk

theorem apart_modify {es : Array MapEntry} (h : Apart es) {f : MapEntry → MapEntry} {i : Nat} (hf : ∀ e, es[i]? = some e → (f e).key = e.key) : Apart (es.modify i f) := by
  intro p q a b ha hb hk
  have old : ∀ {p : Nat} {a : MapEntry}, (es.modify i f)[p]? = some a → ∃ a', es[p]? = some a' ∧ a.key = a'.key := by
    intro p a ha
    rw [Array.getElem?_modify] at ha
    split at ha
    · rename_i hip
      subst hip
      cases he : es[i]? with
      | none => simp [he] at ha
      | some e =>
        simp only [he, Option.map_some, Option.some.injEq] at ha
        exact ⟨e, rfl, by rw [← ha]; exact hf e he⟩
    · exact ⟨a, ha, rfl⟩
  obtain ⟨a', h1, h2⟩ := old ha
  obtain ⟨b', h3, h4⟩ := old hb
  exact h p q a' b' h1 h3 (by rw [← h2, ← h4]; exact hk)

theorem setB (w : World) {b : Nat} {o o' : Obj} (h : w.heap[b]? = some o) : (∀ k, k ≠ b → ({ w with heap := w.heap.setIfInBounds b o' } : World).heap[k]? = w.heap[k]?) ∧
    ({ w with heap := w.heap.setIfInBounds b o' } : World).heap.size = w.heap.size ∧ ({ w with heap := w.heap.setIfInBounds b o' } : World).heap[b]? = some o' := by
  have hb := (Array.getElem?_eq_some_iff.1 h).1
  refine ⟨fun k hk => Array.getElem?_setIfInBounds_ne (Ne.symm hk), by simp, by simp [hb]⟩

theorem put_sound {t : TypeId} {x k y : AV} {σ : Store} {R : AV → Store → Prop} (h : vcPut P t x k y σ R) {u v a : Value} (hx : Rep G x u) (hk : Rep G k v) (hy : Rep G y a) {w : World} (hw : WRel G σ w) :
    ∃ w' σ', (Instr.mapUpdate t u v a).run P w = .ok () w' ∧ WRel G σ' w' ∧ R .any σ' := by
  unfold vcPut at h
  split at h
  · rename_i kt et id hd
    obtain ⟨b, n, rfl, ho⟩ := rep_mp hx
    split at h
    · rename_i l cl hs
      obtain ⟨K, h1, h2, hR⟩ := h
      obtain ⟨es, clock, e1, e2, e3⟩ := (hw.objs id _ hs).map ho
      obtain ⟨lx, hlx⟩ := h1.2 G v hk
      rcases find_kv K e2 e3 h2 h1 hk w with ⟨f1, f2, f3⟩ | ⟨i, y0, e, f1, f2, f3, f4, f5⟩
      · obtain ⟨s1, s2, s3⟩ := setB w (o' := .map (es.push ⟨v, a, clock⟩) (clock + 1)) e1
        refine ⟨_, _, by simp [Instr.mapUpdate, run_underlying hd, MapKept.run_getObj_map e1, K.check w false hlx, f2, MapKept.run_setObj_map _ e1, Result.andThen] <;> rfl, hw.setMap hs ho e1 s1 s2 s3 rfl rfl rfl (apart_push e2 f3) ?_, hR⟩
        obtain ⟨rfl, m1, m2⟩ := e3
        simp only [putKV, f1]
        refine ⟨rfl, by simp [m1], fun i p hp => ?_⟩
        rcases Nat.lt_or_ge i l.length with hi | hi
        · rw [List.getElem?_append_left hi] at hp
          obtain ⟨e, q1, q2⟩ := m2 i p hp
          exact ⟨e, by rw [Array.getElem?_push, if_neg (by omega)]; exact q1, q2⟩
        · rw [List.getElem?_append_right hi] at hp
          have : i - l.length = 0 := by
            rcases Nat.eq_zero_or_pos (i - l.length) with h0 | h0
            · exact h0
            · rw [List.getElem?_eq_none (by simp; omega)] at hp; cases hp
          rw [this] at hp; simp at hp
          subst hp
          exact ⟨_, by rw [Array.getElem?_push, if_pos (by omega)], hk, hy, rfl⟩
      · obtain ⟨s1, s2, s3⟩ := setB w (o' := .map (es.modify i fun e => { e with key := v, val := a }) clock) e1
        refine ⟨_, _, by simp [Instr.mapUpdate, run_underlying hd, MapKept.run_getObj_map e1, K.check w false hlx, f5, f2, f3, K.stays w hlx, MapKept.run_setObj_map _ e1, Result.andThen] <;> rfl, hw.setMap hs ho e1 s1 s2 s3 rfl rfl rfl (apart_modify e2 fun e' he' => by rw [f2] at he'; cases he'; exact f3.symm) ?_, hR⟩
        obtain ⟨rfl, m1, m2⟩ := e3
        simp only [putKV, f1]
        refine ⟨rfl, by simp [m1], fun j p hp => ?_⟩
        rw [List.getElem?_set] at hp
        split at hp
        · rename_i hij
          subst hij
          split at hp
          · cases hp
            exact ⟨{ e with key := v, val := a }, by rw [Array.getElem?_modify, if_pos rfl, f2]; rfl, hk, hy, rfl⟩
          · cases hp
        · rename_i hij
          obtain ⟨e', q1, q2⟩ := m2 j p hp
          exact ⟨e', by rw [Array.getElem?_modify, if_neg hij]; exact q1, q2⟩
    · rename_i Q hs
      obtain ⟨K, h1, h2, hyf, hQ, hR⟩ := h
      obtain ⟨es, clock, e1, e2, e3⟩ := (hw.objs id _ hs).map ho
      obtain ⟨lx, hlx⟩ := h1.2 G v hk
      have hset : σ.set id (.mp (.memo Q)) = σ := by
        apply List.ext_getElem?
        intro j
        rw [List.getElem?_set]
        split
        · rename_i hj; subst hj
          rw [if_pos (List.getElem?_eq_some_iff.1 hs).1, hs]
        · rfl
      rcases find_memo K e3 h2 h1 hk w with ⟨f2, f3⟩ | ⟨i, y0, e, f1, _, f2, f3, f4, f5⟩
      · obtain ⟨s1, s2, s3⟩ := setB w (o' := .map (es.push ⟨v, a, clock⟩) (clock + 1)) e1
        have hW := hw.setMap (kv' := .memo Q) hs ho e1 s1 s2 s3 rfl rfl rfl (apart_push e2 f3) (fun e he => by
          simp only [Array.toList_push, List.mem_append, List.mem_singleton] at he
          rcases he with he | rfl
          · exact e3 e he
          · exact ⟨k, y, hQ, h1.1, hyf, hk, hy⟩)
        rw [hset] at hW
        exact ⟨_, σ, by simp [Instr.mapUpdate, run_underlying hd, MapKept.run_getObj_map e1, K.check w false hlx, f2, MapKept.run_setObj_map _ e1, Result.andThen] <;> rfl, hW, hR⟩
      · obtain ⟨s1, s2, s3⟩ := setB w (o' := .map (es.modify i fun e => { e with key := v, val := a }) clock) e1
        have hW := hw.setMap (kv' := .memo Q) hs ho e1 s1 s2 s3 rfl rfl rfl (apart_modify e2 fun e' he' => by rw [f2] at he'; cases he'; exact f3.symm) (fun e' he => by
          obtain ⟨j, hj⟩ := List.mem_iff_getElem?.1 he
          rw [Array.getElem?_toList, Array.getElem?_modify] at hj
          split at hj
          · rename_i hij; subst hij
            rw [f2] at hj
            cases hj
            exact ⟨k, y, hQ, h1.1, hyf, hk, hy⟩
          · exact e3 e' (List.mem_of_getElem? (l := es.toList) (by simpa using hj)))
        rw [hset] at hW
        exact ⟨_, σ, by simp [Instr.mapUpdate, run_underlying hd, MapKept.run_getObj_map e1, K.check w false hlx, f5, f2, f3, K.stays w hlx, MapKept.run_setObj_map _ e1, Result.andThen] <;> rfl, hW, hR⟩
    · exact h.elim
  · exact h.elim

/-- The entry of a key, laid if there is none. -/
noncomputable def entKV (l : List (AV × AV × Nat)) (c : Nat) (k z : AV) : MapA := match lookKV l k with
  | none => .kv (l ++ [(k, z, c)]) (c + 1)
  | some _ => .kv l c
noncomputable def entA (l : List (AV × AV × Nat)) (c : Nat) (k z : AV) : AV := match lookKV l k with
  | none => .tup [z, .int .i64 c]
  | some q => .tup [q.2.1, .int .i64 q.2.2]

def vcEnt (P : Program) (t : TypeId) (x k : AV) (s : Store) (R : AV → Store → Prop) : Prop :=
  match P.underlying t, x with
  | some (.map kt et), .mp id => match s[id]?, zeroV P et with
    | some (.mp (.kv l c)), some z => Keyed P kt ∧ keyOkA P kt k ∧ (∀ p ∈ l, keyOkA P kt p.1) ∧ R (entA l c k z) (s.set id (.mp (entKV l c k z)))
    | _, _ => False
  | _, _ => False

theorem rep_tup2 {x y : AV} {a b : Value} (h1 : Rep G x a) (h2 : Rep G y b) : Rep G (.tup [x, y]) (.tuple #[a, b]) := by
  refine .tup _ _ (fun i => (#[a, b] : Array Value).getD i a) rfl (fun i z hz => ?_) (fun i z hz => ?_)
  · match i with
    | 0 => rfl
    | 1 => rfl
    | i + 2 => simp at hz
  · match i with
    | 0 => simp at hz; subst hz; exact h1
    | 1 => simp at hz; subst hz; exact h2
    | i + 2 => simp at hz

theorem ent_sound {t : TypeId} {x k : AV} {σ : Store} {R : AV → Store → Prop} (h : vcEnt P t x k σ R) {u v : Value} (hx : Rep G x u) (hk : Rep G k v) {w : World} (hw : WRel G σ w) :
    ∃ a r w' σ', (Instr.mapEntry t u v).run P w = .ok a w' ∧ WRel G σ' w' ∧ Rep G r a ∧ R r σ' := by
  unfold vcEnt at h
  split at h
  · rename_i kt et id hd
    obtain ⟨b, n, rfl, ho⟩ := rep_mp hx
    split at h
    · rename_i l cl z hs hz
      obtain ⟨K, h1, h2, hR⟩ := h
      obtain ⟨es, clock, e1, e2, e3⟩ := (hw.objs id _ hs).map ho
      obtain ⟨lx, hlx⟩ := h1.2 G v hk
      obtain ⟨zv, hzv, hzr⟩ := run_zeroV (G := G) hz w
      rcases find_kv K e2 e3 h2 h1 hk w with ⟨f1, f2, f3⟩ | ⟨i, y0, e, f1, f2, f3, f4, f5⟩
      · obtain ⟨s1, s2, s3⟩ := setB w (o' := .map (es.push ⟨v, zv, clock⟩) (clock + 1)) e1
        have hcl : clock = cl := e3.1
        refine ⟨_, entA l cl k z, _, σ.set id (.mp (entKV l cl k z)), by simp [Instr.mapEntry, run_underlying hd, MapKept.run_getObj_map e1, K.check w false hlx, f2, hzv, MapKept.run_setObj_map _ e1, Result.andThen] <;> rfl, hw.setMap hs ho e1 s1 s2 s3 rfl rfl rfl (apart_push e2 f3) ?_, ?_, hR⟩
        · obtain ⟨rfl, m1, m2⟩ := e3
          simp only [entKV, f1]
          refine ⟨rfl, by simp [m1], fun i p hp => ?_⟩
          rcases Nat.lt_or_ge i l.length with hi | hi
          · rw [List.getElem?_append_left hi] at hp
            obtain ⟨e, q1, q2⟩ := m2 i p hp
            exact ⟨e, by rw [Array.getElem?_push, if_neg (by omega)]; exact q1, q2⟩
          · rw [List.getElem?_append_right hi] at hp
            have : i - l.length = 0 := by
              rcases Nat.eq_zero_or_pos (i - l.length) with h0 | h0
              · exact h0
              · rw [List.getElem?_eq_none (by simp; omega)] at hp; cases hp
            rw [this] at hp; simp at hp
            subst hp
            exact ⟨_, by rw [Array.getElem?_push, if_pos (by omega)], hk, hzr, rfl⟩
        · simp only [entA, f1]
          rw [← hcl]
          exact rep_tup2 hzr (.int _ _)
      · obtain ⟨s1, s2, s3⟩ := setB w (o' := .map (es.modify i fun e => { e with key := v }) clock) e1
        refine ⟨_, entA l cl k z, _, σ.set id (.mp (entKV l cl k z)), by simp [Instr.mapEntry, run_underlying hd, MapKept.run_getObj_map e1, K.check w false hlx, f5, f2, f3, K.stays w hlx, MapKept.run_setObj_map _ e1, Result.andThen] <;> rfl, hw.setMap hs ho e1 s1 s2 s3 rfl rfl rfl (apart_modify e2 fun e' he' => by rw [f2] at he'; cases he'; exact f3.symm) ?_, ?_, hR⟩
        · obtain ⟨rfl, m1, m2⟩ := e3
          simp only [entKV, f1]
          refine ⟨rfl, by simp [m1], fun j p hp => ?_⟩
          obtain ⟨e', q1, q2, q3, q4⟩ := m2 j p hp
          by_cases hij : i = j
          · subst hij
            rw [f2] at q1; cases q1
            refine ⟨{ e with key := v }, by rw [Array.getElem?_modify, if_pos rfl, f2]; rfl, ?_, q3, q4⟩
            show Rep G p.1 v
            rw [← f3]; exact q2
          · exact ⟨e', by rw [Array.getElem?_modify, if_neg hij]; exact q1, q2, q3, q4⟩
        · simp only [entA, f1]
          exact rep_tup2 f4 (.int _ _)
    · exact h.elim
  · exact h.elim

/-- The entry with a stamp is written. -/
def stoKV (l : List (AV × AV × Nat)) (c : Nat) (n : Int) (y : AV) : Option MapA := match l.findIdx? (fun p => (p.2.2 : Int) == n) with
  | some i => some (.kv (l.modify i fun p => (p.1, y, p.2.2)) c)
  | none => none

def vcESt (x st y : AV) (s : Store) (R : AV → Store → Prop) : Prop :=
  match x, st with
  | .mp id, .int _ n => match s[id]? with
    | some (.mp (.kv l c)) => match stoKV l c n y with
      | some m => R .any (s.set id (.mp m))
      | none => False
    | _ => False
  | _, _ => False

theorem est_sound {t : TypeId} {x st y : AV} {σ : Store} {R : AV → Store → Prop} (h : vcESt x st y σ R) {u v a : Value} (hx : Rep G x u) (hk : Rep G st v) (hy : Rep G y a) {w : World} (hw : WRel G σ w) :
    ∃ w' σ', (Instr.entryStore t u v a).run P w = .ok () w' ∧ WRel G σ' w' ∧ R .any σ' := by
  unfold vcESt at h
  split at h
  · rename_i id q n
    obtain ⟨b, m, rfl, ho⟩ := rep_mp hx
    cases hk
    split at h
    · rename_i l cl hs
      obtain ⟨es, clock, e1, e2, e3⟩ := (hw.objs id _ hs).map ho
      unfold stoKV at h
      cases hf : l.findIdx? (fun p => (p.2.2 : Int) == n) with
      | none => simp [hf] at h
      | some i =>
        simp only [hf] at h
        obtain ⟨rfl, m1, m2⟩ := e3
        have hfe : es.findIdx? (fun e => (e.born : Int) == n) = some i := by
          rw [List.findIdx?_eq_some_iff_getElem] at hf
          obtain ⟨hi, p1, p2⟩ := hf
          have get : ∀ j (hj : j < l.length), ∃ (hj' : j < es.size), es[j].born = l[j].2.2 := fun j hj => by
            obtain ⟨e, q1, _, _, q4⟩ := m2 j _ (List.getElem?_eq_getElem hj)
            obtain ⟨hj', q5⟩ := Array.getElem?_eq_some_iff.1 q1
            exact ⟨hj', by rw [q5]; exact q4⟩
          rw [Array.findIdx?_eq_some_iff_getElem]
          obtain ⟨hi', g⟩ := get i hi
          refine ⟨hi', by rw [g]; exact p1, fun j hji => ?_⟩
          obtain ⟨hj', g'⟩ := get j (by omega)
          rw [g']
          exact p2 j hji
        obtain ⟨s1, s2, s3⟩ := setB w (o' := .map (es.modify i fun e => { e with val := a }) clock) e1
        refine ⟨_, _, by simp [Instr.entryStore, asInt, asIntOf, MapKept.run_getObj_map e1, hfe, MapKept.run_setObj_map _ e1, Result.andThen] <;> rfl, hw.setMap hs ho e1 s1 s2 s3 rfl rfl rfl (apart_modify e2 fun e' he' => rfl) ?_, h⟩
        refine ⟨rfl, by simp [m1], fun j p hp => ?_⟩
        rw [List.getElem?_modify] at hp
        by_cases hij : i = j
        · subst hij
          cases hl : l[i]? with
          | none => simp [hl] at hp
          | some p0 =>
            simp [hl] at hp
            obtain ⟨e', q1, q2, q3, q4⟩ := m2 i p0 hl
            subst hp
            exact ⟨{ e' with val := a }, by rw [Array.getElem?_modify, if_pos rfl, q1]; rfl, q2, hy, q4⟩
        · obtain ⟨e', q1, q2, q3, q4⟩ := m2 j p (by simpa [hij] using hp)
          exact ⟨e', by rw [Array.getElem?_modify, if_neg hij]; exact q1, q2, q3, q4⟩
    · exact h.elim
  · exact h.elim

/-- len(m). -/
def vcMLen (x : AV) (s : Store) (R : AV → Store → Prop) : Prop :=
  match x with
  | .mp id => match s[id]? with
    | some (.mp (.kv l _)) => R (.int .i64 l.length) s
    | _ => False
  | _ => False

theorem mlen_sound {t ty : TypeId} {kt et : TypeId} (hd : P.underlying t = some (.map kt et)) {x : AV} {σ : Store} {R : AV → Store → Prop} (h : vcMLen x σ R) {u : Value} (hx : Rep G x u) {w : World} (hw : WRel G σ w) :
    ∃ y r, (Builtin.len_ #[t] ty #[u]).run P w = .ok y w ∧ Rep G r y ∧ R r σ := by
  unfold vcMLen at h
  split at h
  · rename_i id
    obtain ⟨b, m, rfl, ho⟩ := rep_mp hx
    split at h
    · rename_i l cl hs
      obtain ⟨es, clock, e1, e2, e3⟩ := (hw.objs id _ hs).map ho
      obtain ⟨rfl, m1, m2⟩ := e3
      refine ⟨_, _, by simp [Builtin.len_, run_underlying hd, MapKept.run_getObj_map e1, Result.andThen] <;> rfl, ?_, h⟩
      rw [← m1]; exact .int _ _
    · exact h.elim
  · exact h.elim

/-- delete(m, k). -/
noncomputable def delKV (l : List (AV × AV × Nat)) (c : Nat) (k : AV) : MapA := match lookKV l k with
  | none => .kv l c
  | some q => .kv (l.eraseIdx q.1) c

def vcDel (P : Program) (t : TypeId) (x k : AV) (s : Store) (R : AV → Store → Prop) : Prop :=
  match P.underlying t, x with
  | some (.map kt _), .mp id => match s[id]? with
    | some (.mp (.kv l c)) => Keyed P kt ∧ keyOkA P kt k ∧ (∀ p ∈ l, keyOkA P kt p.1) ∧ R (.tup []) (s.set id (.mp (delKV l c k)))
    | _ => False
  | _, _ => False

theorem erase_get {α : Type} (l : List α) (i j : Nat) : (l.eraseIdx i)[j]? = if j < i then l[j]? else l[j + 1]? := by
  rw [List.getElem?_eraseIdx]

theorem del_sound {t t' ty : TypeId} {x k : AV} {σ : Store} {R : AV → Store → Prop} (h : vcDel P t x k σ R) {u v : Value} (hx : Rep G x u) (hk : Rep G k v) {w : World} (hw : WRel G σ w) :
    ∃ w' σ', (Builtin.delete_ #[t, t'] ty #[u, v]).run P w = .ok (.tuple #[]) w' ∧ WRel G σ' w' ∧ R (.tup []) σ' := by
  unfold vcDel at h
  split at h
  · rename_i kt et id hd
    obtain ⟨b, n, rfl, ho⟩ := rep_mp hx
    split at h
    · rename_i l cl hs
      obtain ⟨K, h1, h2, hR⟩ := h
      obtain ⟨es, clock, e1, e2, e3⟩ := (hw.objs id _ hs).map ho
      obtain ⟨lx, hlx⟩ := h1.2 G v hk
      rcases find_kv K e2 e3 h2 h1 hk w with ⟨f1, f2, f3⟩ | ⟨i, y0, e, f1, f2, f3, f4, f5⟩
      · obtain ⟨s1, s2, s3⟩ := setB w (o' := .map es clock) e1
        refine ⟨_, _, by simp [Builtin.delete_, run_underlying hd, MapKept.run_getObj_map e1, K.check w _ hlx, f2, MapKept.run_setObj_map _ e1, Result.andThen] <;> rfl, hw.setMap hs ho e1 s1 s2 s3 rfl rfl rfl e2 ?_, hR⟩
        simp only [delKV, f1]; exact e3
      · have hi : i < es.size := (Array.getElem?_eq_some_iff.1 f2).1
        have hsub : (es.eraseIdxIfInBounds i).toList = es.toList.eraseIdx i := by
          unfold Array.eraseIdxIfInBounds
          rw [dif_pos hi]
          simp
        have hget : ∀ j, (es.eraseIdxIfInBounds i)[j]? = if j < i then es[j]? else es[j + 1]? := fun j => by
          rw [← Array.getElem?_toList, hsub, erase_get]; simp
        obtain ⟨s1, s2, s3⟩ := setB w (o' := .map (es.eraseIdxIfInBounds i) clock) e1
        refine ⟨_, _, by simp [Builtin.delete_, run_underlying hd, MapKept.run_getObj_map e1, K.check w _ hlx, f5, MapKept.run_setObj_map _ e1, Result.andThen] <;> rfl, hw.setMap hs ho e1 s1 s2 s3 rfl rfl rfl ?_ ?_, hR⟩
        · intro p q a b ha hb hkk
          rw [hget] at ha hb
          split at ha <;> split at hb
          · exact e2 _ _ _ _ ha hb hkk
          · have := e2 _ _ _ _ ha hb hkk; omega
          · have := e2 _ _ _ _ ha hb hkk; omega
          · have := e2 _ _ _ _ ha hb hkk; omega
        · obtain ⟨rfl, m1, m2⟩ := e3
          simp only [delKV, f1]
          refine ⟨rfl, ?_, fun j p hp => ?_⟩
          · have h1 : (es.eraseIdxIfInBounds i).size = (es.toList.eraseIdx i).length := by rw [← hsub, Array.length_toList]
            rw [h1, List.length_eraseIdx, List.length_eraseIdx, Array.length_toList, m1]
          · rw [erase_get] at hp
            rw [hget]
            split at hp
            · rename_i hj; rw [if_pos hj]; exact m2 j p hp
            · rename_i hj; rw [if_neg hj]; exact m2 (j + 1) p hp
    · exact h.elim
  · exact h.elim

end Go.Pa
