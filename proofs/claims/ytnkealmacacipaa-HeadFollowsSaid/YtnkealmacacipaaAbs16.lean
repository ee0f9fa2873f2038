/-
  What a call hands back is frozen; what is handed to a call is lent.
-/
import Derived.Test.YtnkealmacacipaaAbs15
namespace Go.Pa
set_option linter.unusedSectionVars false
variable [GTab]
variable {P : Program}

mutual
/-- All objects that are named are among the first n. -/
def AV.lt (n : Nat) : AV → Bool
  | .mvec id _ _ _ => decide (id < n)
  | .ptr id _ => decide (id < n)
  | .eptr id _ _ _ => decide (id < n)
  | .mp id => decide (id < n)
  | .rows _ rs => ltLL n rs
  | .agg cs => ltL n cs
  | .iptr cs => ltL n cs
  | .tup cs => ltL n cs
  | .fn _ a b => ltL n a && ltL n b
  | _ => true
def ltL (n : Nat) : List AV → Bool
  | [] => true
  | x :: xs => x.lt n && ltL n xs
def ltLL (n : Nat) : List (List AV) → Bool
  | [] => true
  | x :: xs => ltL n x && ltLL n xs
end

/-- No object is named. -/
abbrev AV.noRef (x : AV) : Bool := x.lt 0

theorem ltL_get {n : Nat} : ∀ {xs : List AV}, ltL n xs = true → ∀ (i : Nat) x, xs[i]? = some x → x.lt n = true
  | [], _, i, x, h => by simp at h
  | y :: ys, hn, i, x, h => by
    simp only [ltL, Bool.and_eq_true] at hn
    cases i with
    | zero => simp at h; subst h; exact hn.1
    | succ i => simp at h; exact ltL_get hn.2 i x h
theorem ltL_of {n : Nat} : ∀ {xs : List AV}, (∀ (i : Nat) x, xs[i]? = some x → x.lt n = true) → ltL n xs = true
  | [], _ => rfl
  | y :: ys, h => by
    simp only [ltL, Bool.and_eq_true]
    exact ⟨h 0 y (by simp), ltL_of fun i x hx => h (i + 1) x (by simpa using hx)⟩
theorem ltL_append {n : Nat} : ∀ {xs ys : List AV}, ltL n (xs ++ ys) = (ltL n xs && ltL n ys)
  | [], _ => by simp [ltL]
  | x :: xs, ys => by simp [ltL, ltL_append, Bool.and_assoc]
theorem ltLL_flatten {n : Nat} : ∀ {rs : List (List AV)}, ltLL n rs = ltL n rs.flatten
  | [] => rfl
  | r :: rs => by simp [ltLL, ltL_append, ltLL_flatten]
theorem ltLL_map {α : Type} {n : Nat} (f : α → List AV) (h : ∀ a, ltL n (f a) = true) : ∀ l : List α, ltLL n (l.map f) = true
  | [] => rfl
  | a :: l => by simp only [List.map_cons, ltLL, h a, ltLL_map f h l, Bool.and_self]

/-- What a value hangs on. -/
theorem Rep.keep {n : Nat} {G G' : Gh} (hi : ∀ b o c, G.imm b o = some c → G'.imm b o = some c) (ho' : ∀ (i : Nat) x, i < n → G.obj[i]? = some x → G'.obj[i]? = some x) {x : AV} {v : Value} (h : Rep G x v) : x.lt n = true → Rep G' x v := by
  induction h with
  | any v => intro _; exact .any v
  | int k n => intro _; exact .int k n
  | bool b => intro _; exact .bool b
  | str l s h => intro _; exact .str l s h
  | nils => intro _; exact .nils
  | emp a => intro _; exact .emp a
  | ints0 k a cap => intro _; exact .ints0 k a cap
  | ints k l b o cap hc h => intro _; exact .ints k l b o cap hc fun i x hx => hi _ _ _ (h i x hx)
  | rows0 sz a cap => intro _; exact .rows0 sz a cap
  | rows sz rs b o cap f hc hs h _ ih =>
    intro hn
    have hn' : ltL n rs.flatten = true := by rw [← ltLL_flatten]; simpa only [AV.lt] using hn
    exact .rows sz rs b o cap f hc hs (fun i x hx => hi _ _ _ (h i x hx)) fun i x hx => ih i x hx (ltL_get hn' i x hx)
  | mvec id off len sz cap b m ho hc hf => intro hn; simp only [AV.lt, decide_eq_true_eq] at hn; exact .mvec id off len sz cap b m (ho' _ _ hn ho) hc hf
  | agg cs vs f hl h _ ih =>
    intro hn
    have hn' : ltL n cs = true := by simpa only [AV.lt] using hn
    exact .agg cs vs f hl h fun i x hx => ih i x hx (ltL_get hn' i x hx)
  | ptr id off b m ho => intro hn; simp only [AV.lt, decide_eq_true_eq] at hn; exact .ptr id off b m (ho' _ _ hn ho)
  | eptr id i sz off b m ho => intro hn; simp only [AV.lt, decide_eq_true_eq] at hn; exact .eptr id i sz off b m (ho' _ _ hn ho)
  | iptr cs b o f h _ ih =>
    intro hn
    have hn' : ltL n cs = true := by simpa only [AV.lt] using hn
    exact .iptr cs b o f (fun i x hx => hi _ _ _ (h i x hx)) fun i x hx => ih i x hx (ltL_get hn' i x hx)
  | nilp => intro _; exact .nilp
  | fn f fs cs gs hs p q hl hl' h _ h' _ ih ih' =>
    intro hn
    have hn' : ltL n fs = true ∧ ltL n cs = true := by simpa only [AV.lt, Bool.and_eq_true] using hn
    exact .fn f fs cs gs hs p q hl hl' h (fun i x hx => ih i x hx (ltL_get hn'.1 i x hx)) h' (fun i x hx => ih' i x hx (ltL_get hn'.2 i x hx))
  | nilf => intro _; exact .nilf
  | mp id b m ho => intro hn; simp only [AV.lt, decide_eq_true_eq] at hn; exact .mp id b m (ho' _ _ hn ho)
  | nilm => intro _; exact .nilm
  | tup cs vs f hl h _ ih =>
    intro hn
    have hn' : ltL n cs = true := by simpa only [AV.lt] using hn
    exact .tup cs vs f hl h fun i x hx => ih i x hx (ltL_get hn' i x hx)
  | glob g => intro _; exact .glob g

theorem Rep.noRef {G G' : Gh} (hi : ∀ b o c, G.imm b o = some c → G'.imm b o = some c) {x : AV} {v : Value} (h : Rep G x v) (hx : x.noRef = true) : Rep G' x v :=
  h.keep (n := 0) hi (fun _ _ h => absurd h (Nat.not_lt_zero _)) hx

/-- What is told of in a ghost names its objects alone. -/
theorem Rep.lt {G : Gh} {x : AV} {v : Value} (h : Rep G x v) : x.lt G.obj.length = true := by
  induction h with
  | rows sz rs b o cap f hc hs h _ ih => simp only [AV.lt, ltLL_flatten]; exact ltL_of ih
  | rows0 sz a cap => simp only [AV.lt, ltLL]
  | mvec id off len sz cap b m ho hc hf => simp only [AV.lt, decide_eq_true_eq]; exact (List.getElem?_eq_some_iff.1 ho).1
  | agg cs vs f hl h _ ih => simp only [AV.lt]; exact ltL_of ih
  | ptr id off b m ho => simp only [AV.lt, decide_eq_true_eq]; exact (List.getElem?_eq_some_iff.1 ho).1
  | eptr id i sz off b m ho => simp only [AV.lt, decide_eq_true_eq]; exact (List.getElem?_eq_some_iff.1 ho).1
  | iptr cs b o f h _ ih => simp only [AV.lt]; exact ltL_of ih
  | fn f fs cs gs hs p q hl hl' h _ h' _ ih ih' => simp only [AV.lt, Bool.and_eq_true]; exact ⟨ltL_of ih, ltL_of ih'⟩
  | mp id b m ho => simp only [AV.lt, decide_eq_true_eq]; exact (List.getElem?_eq_some_iff.1 ho).1
  | tup cs vs f hl h _ ih => simp only [AV.lt]; exact ltL_of ih
  | _ => simp only [AV.lt]

/-- All values of an object name objects among the first n. -/
def AObj.lt (n : Nat) : AObj → Prop
  | .mp kv => ∀ (i : Nat) p, kv[i]? = some p → p.1.lt n = true ∧ p.2.lt n = true
  | ob => ∀ cs, ob.cells = some cs → ltL n cs = true

theorem ObjRel.lt {G : Gh} {w : World} {id : Nat} {ob : AObj} (h : ObjRel G w id ob) : ob.lt G.obj.length := by
  have main : ∀ cs, ob.cells = some cs → ltL G.obj.length cs = true := by
    intro cs hc
    obtain ⟨b, n, arr, ty, _, _, _, _, _, _, h7, _⟩ := h.get hc
    exact ltL_of fun i x hx => let ⟨v, _, hr⟩ := h7.get i x hx; hr.lt
  cases ob with
  | mp kv =>
    obtain ⟨b, n, es, clock, h1, h2, h3, h4, h5, h6⟩ := h
    intro i p hp
    obtain ⟨e, _, hk, hv, _⟩ := h6 i p hp
    exact ⟨hk.lt, hv.lt⟩
  | dead => exact main
  | box cs => exact main
  | vecI k l => exact main
  | vecR sz rs => exact main

/-- 'y' is what 'x' becomes when all objects from n on are frozen. -/
inductive Frz (s : Store) (n : Nat) : AV → AV → Prop
  | same (x : AV) (h : x.noRef = true) : Frz s n x x
  | nilI (k : IntKind) : Frz s n .nils (.ints k [])
  | nilR (sz : Nat) : Frz s n .nils (.rows sz [])
  | empI (k : IntKind) : Frz s n .emp (.ints k [])
  | empR (sz : Nat) : Frz s n .emp (.rows sz [])
  | vecI (id off len : Nat) (k : IntKind) (l : List Int) (h : s[id]? = some (.vecI k l)) (hn : n ≤ id) (hl : off + len ≤ l.length) : Frz s n (.mvec id off len 1) (.ints k ((l.drop off).take len))
  | vecR (id off len sz : Nat) (rs rs' : List (List AV)) (h : s[id]? = some (.vecR sz rs)) (hn : n ≤ id) (hl : off + len ≤ rs.length) (hl' : rs'.length = len) (hs : ∀ r ∈ rs', r.length = sz)
      (hf : ∀ (i : Nat) x y, ((rs.drop off).take len).flatten[i]? = some x → rs'.flatten[i]? = some y → Frz s n x y) : Frz s n (.mvec id off len sz) (.rows sz rs')
  | agg (cs ds : List AV) (hl : cs.length = ds.length) (h : ∀ (i : Nat) x y, cs[i]? = some x → ds[i]? = some y → Frz s n x y) : Frz s n (.agg cs) (.agg ds)
  | tup (cs ds : List AV) (hl : cs.length = ds.length) (h : ∀ (i : Nat) x y, cs[i]? = some x → ds[i]? = some y → Frz s n x y) : Frz s n (.tup cs) (.tup ds)

open Classical in
/-- The ghost in which all own blocks but those of the first n objects never turn. -/
noncomputable def Gh.freeze (G : Gh) (n : Nat) (σ : Store) (w : World) : Gh :=
  { G with obj := G.obj.take n, imm := fun b o =>
      if G.base ≤ b ∧ ¬ ∃ (i : Nat) (ob : AObj) (m : Nat), i < n ∧ σ[i]? = some ob ∧ ob.live = true ∧ G.obj[i]? = some (b, m) then
        match w.cell? ⟨b, o, none⟩ with
        | some c => if c.oneCell' then some c else none
        | none => none
      else G.imm b o }

theorem Gh.freeze_imm {G : Gh} {n : Nat} {σ : Store} {w : World} (hw : WRel G σ w) (b o : Nat) (c : Value) (h : G.imm b o = some c) : (G.freeze n σ w).imm b o = some c := by
  have := hw.imm b o c h
  unfold Gh.freeze
  simp only
  split
  · rw [this.1]; simp [this.2]
  · exact h

theorem WRel.freeze {G : Gh} {n : Nat} {σ : Store} {w : World} (hw : WRel G σ w) (hlt : ∀ (i : Nat) x, i < n → σ[i]? = some x → x.lt n) : WRel (G.freeze n σ w) (σ.take n) w := by
  have hobj : ∀ (i : Nat) x, (G.obj.take n)[i]? = some x → i < n ∧ G.obj[i]? = some x := by
    intro i x h
    rw [List.getElem?_take] at h
    split at h
    · rename_i hi; exact ⟨hi, h⟩
    · cases h
  have hst : ∀ (i : Nat) x, (σ.take n)[i]? = some x → i < n ∧ σ[i]? = some x := by
    intro i x h
    rw [List.getElem?_take] at h
    split at h
    · rename_i hi; exact ⟨hi, h⟩
    · cases h
  refine ⟨?_, fun b o c h => ?_, fun i x hx => ?_, fun i j oi oj bi bj a1 a2 a3 a4 a5 a6 a7 => hw.inj i j oi oj bi bj (hst i oi a1).2 (hst j oj a2).2 a3 a4 (hobj i bi a5).2 (hobj j bj a6).2 a7, hw.frame, hw.sz, hw.os, hw.tape, hw.output, hw.marks, hw.grew, hw.globs.mono (Gh.freeze_imm hw)⟩
  · show (G.obj.take n).length = (σ.take n).length
    simp [hw.len]
  · unfold Gh.freeze at h
    simp only at h
    split at h
    · split at h
      · rename_i c' hc'
        split at h
        · rename_i h1; cases h; exact ⟨hc', h1⟩
        · cases h
      · cases h
    · exact hw.imm b o c h
  · obtain ⟨hi, hx'⟩ := hst i x hx
    have h0 := hw.objs i x hx'
    have hl0 := hlt i x hi hx'
    have hkeep : ∀ {y : AV} {v : Value}, Rep G y v → y.lt n = true → Rep (G.freeze n σ w) y v := fun hr hy =>
      hr.keep (n := n) (Gh.freeze_imm hw) (fun j z hj hz => by
        show (G.obj.take n)[j]? = _
        rw [List.getElem?_take, if_pos hj]; exact hz) hy
    have hob : ∀ b m, G.obj[i]? = some (b, m) → (G.freeze n σ w).obj[i]? = some (b, m) := by
      intro b m hb
      show (G.obj.take n)[i]? = _
      rw [List.getElem?_take, if_pos hi]; exact hb
    have himm : x.live = true → ∀ b m, G.obj[i]? = some (b, m) → (∀ o, G.imm b o = none) → ∀ o, (G.freeze n σ w).imm b o = none := by
      intro hl b m hb h0 o
      unfold Gh.freeze
      simp only
      rw [if_neg]
      · exact h0 o
      · rintro ⟨_, hne⟩; exact hne ⟨i, x, m, hi, hx', hl, hb⟩
    cases hc : x.cells with
    | some cs =>
      have hl : x.live = true := by cases x <;> first | rfl | cases hc
      obtain ⟨b, m, arr, ty, q1, q2, q3, q4, q5, q6, q7, q8⟩ := h0.get hc
      have hcs : ltL n cs = true := by
        cases x with
        | mp kv => cases hc
        | dead => cases hc
        | box _ => exact hl0 cs hc
        | vecI _ _ => exact hl0 cs hc
        | vecR _ _ => exact hl0 cs hc
      have q7' : RepL (G.freeze n σ w) cs (arr.toList.take cs.length) := RepL.of_get q7.length fun j y hy => let ⟨v, hv, hr⟩ := q7.get j y hy; ⟨v, hv, hkeep hr (ltL_get hcs j y hy)⟩
      exact objRel_mk hc (hob b m q1) q2 q3 q5 (himm hl b m q1 q6) _ q7' (fun j c hcc => by
        rw [List.getElem?_take] at hcc
        split at hcc
        · simpa using hcc
        · cases hcc) q8
    | none =>
      cases x with
      | dead => trivial
      | mp kv =>
        obtain ⟨b, m, es, clock, q1, q2, q3, q4, q5, q6⟩ := h0
        exact ⟨b, m, es, clock, hob b m q1, q2, q3, himm rfl b m q1 q4, q5, fun j p hp => let ⟨e, he, hk, hv, hb⟩ := q6 j p hp; ⟨e, he, hkeep hk (hl0 j p hp).1, hkeep hv (hl0 j p hp).2, hb⟩⟩
      | box _ => cases hc
      | vecI _ _ => cases hc
      | vecR sz rs =>
        obtain ⟨_, _, _, _, cs, q, _⟩ := h0
        rw [hc] at q; cases q

/-- What is frozen is told of by the frozen ghost. -/
theorem Frz.rep {G : Gh} {n : Nat} {σ : Store} {w : World} (hw : WRel G σ w) {x y : AV} (h : Frz σ n x y) : ∀ {v : Value}, Rep G x v → Rep (G.freeze n σ w) y v := by
  -- the cells of an object from n on
  have block : ∀ {id : Nat} {ob : AObj} {b m : Nat}, σ[id]? = some ob → ob.live = true → n ≤ id → G.obj[id]? = some (b, m) → ∀ o c, w.cell? ⟨b, o, none⟩ = some c → c.oneCell' = true → (G.freeze n σ w).imm b o = some c := by
    intro id ob b m ho hl hn hb o c hc h1
    obtain ⟨b', m', q1, q2, q3, q4⟩ := (hw.objs id ob ho).block hl
    rw [hb] at q1; cases q1
    unfold Gh.freeze
    simp only
    rw [if_pos, hc]
    · simp [h1]
    · refine ⟨q3, ?_⟩
      rintro ⟨i, oi, mi, hi, h2, h3, h4⟩
      have := hw.inj i id oi ob _ _ h2 ho h3 hl h4 hb rfl
      omega
  induction h with
  | same x hx => intro v hr; exact hr.noRef (Gh.freeze_imm hw) hx
  | nilI k => intro v hr; cases hr; exact .ints0 k none 0
  | nilR sz => intro v hr; cases hr; exact .rows0 sz none 0
  | empI k => intro v hr; cases hr; exact .ints0 k _ 0
  | empR sz => intro v hr; cases hr; exact .rows0 sz _ 0
  | vecI id off len k l ho hn hl =>
    intro v hr
    cases hr with
    | mvec _ _ _ _ cap b m hb hcap hfit =>
    obtain ⟨b', m', arr, ty, q1, q2, q3, q4, q5, q6, q7, q8⟩ := (hw.objs id _ ho).get (cs := l.map (AV.int k)) rfl
    rw [hb] at q1; cases q1
    have hlen : ((l.drop off).take len).length = len := by simp; omega
    have key : Rep (G.freeze n σ w) (.ints k ((l.drop off).take len)) (.slice (some ⟨b, off * 1, none⟩) ((l.drop off).take len).length cap) := by
      refine .ints k _ b _ cap (by omega) fun i x hx => ?_
      rw [List.getElem?_take] at hx
      split at hx
      · rw [List.getElem?_drop] at hx
        obtain ⟨c, hc, hr⟩ := q7.get (off + i) (.int k x) (by simp [hx])
        cases hr
        rw [List.getElem?_take] at hc
        split at hc
        · refine block ho rfl hn hb _ _ ?_ rfl
          rw [cell_of_row w b _ arr ty _ q2, Nat.mul_one]
          simpa using hc
        · cases hc
      · cases hx
    rw [hlen] at key
    exact key
  | vecR id off len sz rs rs' ho hn hl hl' hs hf ih =>
    intro v hr
    cases hr with
    | mvec _ _ _ _ cap b m hb hcap hfit =>
    obtain ⟨cs0, hcs0⟩ : ∃ cs, (AObj.vecR sz rs).cells = some cs := by
      obtain ⟨_, _, _, _, cs0, q, _⟩ := hw.objs id _ ho
      exact ⟨cs0, q⟩
    have hall : ∀ r ∈ rs, r.length = sz := by
      simp only [AObj.cells] at hcs0
      split at hcs0
      · assumption
      · cases hcs0
    obtain ⟨b', m', arr, ty, q1, q2, q3, q4, q5, q6, q7, q8⟩ := (hw.objs id _ ho).get (cs := rs.flatten) (by simp only [AObj.cells]; rw [if_pos hall])
    rw [hb] at q1; cases q1
    have hsub := sub_flatten hall off len
    have hfl' : rs'.flatten.length = rs'.length * sz := Cont.cells_length (c := .R sz rs') ⟨rfl, hs⟩
    have hfl : ((rs.drop off).take len).flatten.length = len * sz := by
      have h1 : ∀ r ∈ (rs.drop off).take len, r.length = sz := fun r hr => hall r (List.mem_of_mem_drop (List.mem_of_mem_take hr))
      have h2 := Cont.cells_length (c := .R sz ((rs.drop off).take len)) ⟨rfl, h1⟩
      simp only [Cont.cells, Cont.len] at h2
      rw [h2]; congr 1; simp; omega
    -- each cell
    have cell : ∀ (i : Nat) y, rs'.flatten[i]? = some y → ∃ c, (G.freeze n σ w).imm b (off * sz + i) = some c ∧ Rep (G.freeze n σ w) y c := by
      intro i y hy
      have hi : i < ((rs.drop off).take len).flatten.length := by
        have := (List.getElem?_eq_some_iff.1 hy).1
        rw [hfl, ← hl', ← hfl']; exact this
      have hx := List.getElem?_eq_getElem hi
      obtain ⟨c, hc, hr⟩ := q7.get _ _ (hsub i _ hx)
      rw [List.getElem?_take] at hc
      split at hc
      · have hcell : w.cell? ⟨b, off * sz + i, none⟩ = some c := by
          rw [cell_of_row w b _ arr ty _ q2]; simpa using hc
        exact ⟨c, block ho rfl hn hb _ _ hcell (q8 c (List.mem_of_getElem? hc)), ih i _ y hx hy hr⟩
      · cases hc
    rw [← hl']
    have hcap' : rs'.length ≤ cap := by omega
    refine .rows sz rs' b _ cap (fun i => ((G.freeze n σ w).imm b (off * sz + i)).getD (.bool false)) hcap' hs (fun i y hy => ?_) (fun i y hy => ?_)
    · obtain ⟨c, h1, _⟩ := cell i y hy; rw [h1]; rfl
    · obtain ⟨c, h1, h2⟩ := cell i y hy; rw [h1]; exact h2
  | agg cs ds hl h ih =>
    intro v hr
    obtain ⟨vs, rfl, hrl⟩ := hr.agg_inv
    refine Rep.agg_of (RepL.of_get (by rw [← hl]; exact hrl.length) fun i y hy => ?_)
    have hi : i < cs.length := by rw [hl]; exact (List.getElem?_eq_some_iff.1 hy).1
    obtain ⟨c, hc, hr⟩ := hrl.get i _ (List.getElem?_eq_getElem hi)
    exact ⟨c, hc, ih i _ y (List.getElem?_eq_getElem hi) hy hr⟩
  | tup cs ds hl h ih =>
    intro v hr
    obtain ⟨vs, rfl, hrl⟩ := hr.tup_inv
    refine Rep.tup_of (RepL.of_get (by rw [← hl]; exact hrl.length) fun i y hy => ?_)
    have hi : i < cs.length := by rw [hl]; exact (List.getElem?_eq_some_iff.1 hy).1
    obtain ⟨c, hc, hr⟩ := hrl.get i _ (List.getElem?_eq_getElem hi)
    exact ⟨c, hc, ih i _ y (List.getElem?_eq_getElem hi) hy hr⟩

/-- What was there is as it was. -/
def Ext (s s' : Store) : Prop := ∀ (i : Nat) x, s[i]? = some x → s'[i]? = some x

theorem Ext.refl (s : Store) : Ext s s := fun _ _ h => h
theorem Ext.trans {a b c : Store} (h : Ext a b) (k : Ext b c) : Ext a c := fun i x hx => k i x (h i x hx)
theorem Ext.push {a b : Store} (h : Ext a b) (x : AObj) : Ext a (b ++ [x]) := fun i y hy => by
  have := h i y hy
  rw [List.getElem?_append_left (List.getElem?_eq_some_iff.1 this).1]; exact this
theorem Ext.set {a b : Store} (h : Ext a b) {i : Nat} (hi : a.length ≤ i) (x : AObj) : Ext a (b.set i x) := fun j y hy => by
  have hj := (List.getElem?_eq_some_iff.1 hy).1
  rw [List.getElem?_set, if_neg (by omega)]; exact h j y hy
theorem Ext.len {a b : Store} (h : Ext a b) : a.length ≤ b.length := by
  rcases Nat.eq_zero_or_pos a.length with h0 | h0
  · omega
  · have := h (a.length - 1) a[a.length - 1] (List.getElem?_eq_getElem (by omega))
    have := (List.getElem?_eq_some_iff.1 this).1
    omega
theorem Ext.take {a b : Store} (h : Ext a b) : b.take a.length = a := by
  apply List.ext_getElem?
  intro i
  rw [List.getElem?_take]
  split
  · rename_i hi
    rw [h i _ (List.getElem?_eq_getElem hi), List.getElem?_eq_getElem hi]
  · rename_i hi; rw [List.getElem?_eq_none (by omega)]

/-- **A call that leaves the store as it was**: what it made is frozen, and forgotten where it is not handed back. -/
theorem ACalls.frozen {f : FuncId} {args : List AV} {σ : Store} {v : AV} (h : ACalls P f args σ fun r σ' => Ext σ σ' ∧ Frz σ' σ.length r v) : ACalls P f args σ fun r σ' => r = v ∧ σ' = σ := by
  refine ⟨h.1, fun G w vs hw hl => (h.2 G w vs hw hl).mono ?_⟩
  rintro e w' ⟨c, r, σ', G', rfl, hle, hw', hr, hext, hfrz⟩
  have hlen : G.obj.length = σ.length := hw.len
  have hlt : ∀ (i : Nat) x, i < σ.length → σ'[i]? = some x → x.lt σ.length := by
    intro i x hi hx
    have h0 := hext i _ (List.getElem?_eq_getElem hi)
    rw [hx] at h0; cases h0
    have := (hw.objs i _ (List.getElem?_eq_getElem hi)).lt
    rw [hlen] at this; exact this
  have hw2 := hw'.freeze (n := σ.length) hlt
  rw [hext.take] at hw2
  refine ⟨c, v, σ, G'.freeze σ.length σ' w', rfl, ⟨hle.base, hle.w0, fun b o x hx => Gh.freeze_imm hw' b o x (hle.imm b o x hx), fun i x hx => ?_, hle.lo, hle.mark⟩, hw2, hfrz.rep hw' hr, rfl, rfl⟩
  show (G'.obj.take σ.length)[i]? = _
  rw [List.getElem?_take, if_pos (by rw [← hlen]; exact (List.getElem?_eq_some_iff.1 hx).1)]
  exact hle.obj i x hx

end Go.Pa
