/-
  An own object that will never turn again: from here on it is told of by its content.
-/
import Derived.Test.YtnkealmacacipaaAbs27
namespace Go.Pa
set_option linter.unusedSectionVars false
variable [GTab]
variable {P : Program}

/-- 'y' is what 'x' becomes when object 'id', which is 'ob', is sealed. -/
inductive Fz (id : Nat) (ob : AObj) : AV → AV → Prop
  | same (x : AV) : Fz id ob x x
  | vecI (off len : Nat) (k : IntKind) (l : List Int) (ho : ob = .vecI k l) (hl : off + len ≤ l.length) : Fz id ob (.mvec id off len 1) (.ints k ((l.drop off).take len))
  | vecR (off len sz : Nat) (rs : List (List AV)) (ho : ob = .vecR sz rs) (hl : off + len ≤ rs.length) : Fz id ob (.mvec id off len sz) (.rows sz ((rs.drop off).take len))
  | box (off : Nat) (cs : List AV) (ho : ob = .box cs) : Fz id ob (.ptr id off) (.iptr (cs.drop off))
  | agg (cs ds : List AV) (hl : cs.length = ds.length) (h : ∀ (i : Nat) x y, cs[i]? = some x → ds[i]? = some y → Fz id ob x y) : Fz id ob (.agg cs) (.agg ds)
  | tup (cs ds : List AV) (hl : cs.length = ds.length) (h : ∀ (i : Nat) x y, cs[i]? = some x → ds[i]? = some y → Fz id ob x y) : Fz id ob (.tup cs) (.tup ds)
  | fn (f : FuncId) (fs cs ds : List AV) (hl : cs.length = ds.length) (h : ∀ (i : Nat) x y, cs[i]? = some x → ds[i]? = some y → Fz id ob x y) : Fz id ob (.fn f fs cs) (.fn f fs ds)

theorem Fz.all {id : Nat} {k : IntKind} {l : List Int} : Fz id (.vecI k l) (.mvec id 0 l.length 1) (.ints k l) := by
  have := Fz.vecI (id := id) 0 l.length k l rfl (by omega)
  simpa using this
theorem Fz.allR {id sz : Nat} {rs : List (List AV)} : Fz id (.vecR sz rs) (.mvec id 0 rs.length sz) (.rows sz rs) := by
  have := Fz.vecR (id := id) 0 rs.length sz rs rfl (by omega)
  simpa using this

/-- The same, of objects. -/
inductive FzO (id : Nat) (ob : AObj) : AObj → AObj → Prop
  | same (x : AObj) : FzO id ob x x
  | box (cs ds : List AV) (hl : cs.length = ds.length) (h : ∀ (i : Nat) x y, cs[i]? = some x → ds[i]? = some y → Fz id ob x y) : FzO id ob (.box cs) (.box ds)
  | vecR (sz : Nat) (rs rs' : List (List AV)) (hl : rs.length = rs'.length) (hs : ∀ r ∈ rs', r.length = sz) (h : ∀ (i : Nat) x y, rs.flatten[i]? = some x → rs'.flatten[i]? = some y → Fz id ob x y) : FzO id ob (.vecR sz rs) (.vecR sz rs')

def FzE (id : Nat) (ob : AObj) : Env → Env → Prop
  | [], _ => True
  | (t, y) :: e', e => (∃ x, e.get t = some x ∧ Fz id ob x y) ∧ FzE id ob e' e

def FzS (id : Nat) (ob : AObj) (s s' : Store) : Prop :=
  s'.length = s.length ∧ s'[id]? = some .dead ∧ ∀ (i : Nat) y, i ≠ id → s'[i]? = some y → ∃ x, s[i]? = some x ∧ FzO id ob x y

theorem FzS.set {id : Nat} {ob : AObj} {s : Store} (h : id < s.length) : FzS id ob s (s.set id .dead) :=
  ⟨by simp, by simp [h], fun i y hi hy => ⟨y, by rwa [List.getElem?_set_ne (Ne.symm hi)] at hy, .same _⟩⟩

theorem FzE.get {id : Nat} {ob : AObj} {e e' : Env} (h : FzE id ob e' e) : ∀ t y, e'.get t = some y → ∃ x, e.get t = some x ∧ Fz id ob x y := by
  induction e' with
  | nil => intro t y hy; simp [Env.get] at hy
  | cons p e' ih =>
    obtain ⟨u, v⟩ := p
    intro t y hy
    simp only [Env.get] at hy
    split at hy
    · rename_i hu; subst hu; cases hy; exact h.1
    · exact ih h.2 t y hy

/-- The ghost that knows of the sealed block. -/
def Gh.shut (G : Gh) (b : Nat) (w : World) : Gh := { G with imm := fun b' o => if b' = b then w.cell? ⟨b, o, none⟩ else G.imm b' o }

theorem WRel.shut {G : Gh} {σ : Store} {w : World} (hw : WRel G σ w) {id : Nat} {ob : AObj} {cs : List AV} (ho : σ[id]? = some ob) (hc : ob.cells = some cs) :
    ∃ G', G.le G' ∧ (∀ x y v, Fz id ob x y → Rep G x v → Rep G' y v) ∧ ∀ σ', FzS id ob σ σ' → WRel G' σ' w := by
  obtain ⟨b, n, arr, ty, q1, q2, q3, q4, q5, q6, q7, q8⟩ := (hw.objs id ob ho).get hc
  have hl : ob.live = true := by cases ob <;> first | rfl | cases hc
  have hcell : ∀ o, w.cell? ⟨b, o, none⟩ = arr[o]? := fun o => by simp [World.cell?, q2]
  have hne : ∀ (i : Nat) x bi, σ[i]? = some x → x.live = true → G.obj[i]? = some bi → i ≠ id → bi.1 ≠ b := fun i x bi h1 h2 h3 h4 h5 => h4 (hw.inj i id x ob bi (b, n) h1 ho h2 hl h3 q1 h5)
  have hg : G.le (G.shut b w) := ⟨rfl, rfl, fun b' o c h => by
    show (if b' = b then _ else _) = _
    split
    · rename_i e; subst e; rw [q6 o] at h; cases h
    · exact h, fun _ _ h => h, rfl, fun _ _ h => h⟩
  have himm : ∀ o c, arr[o]? = some c → (G.shut b w).imm b o = some c := fun o c h => by
    show (if b = b then w.cell? ⟨b, o, none⟩ else G.imm b o) = _
    rw [if_pos rfl, hcell, h]
  have hfz : ∀ x y v, Fz id ob x y → Rep G x v → Rep (G.shut b w) y v := by
    intro x y v hxy
    induction hxy generalizing v with
    | same x => exact fun h => h.mono hg
    | vecI off len k l hob hle =>
      subst hob; cases hc
      intro hr
      cases hr with
      | mvec _ _ _ _ cap b' m hb hcap hfit =>
      rw [q1] at hb; cases hb
      have hlen : ((l.drop off).take len).length = len := by simp; omega
      have key : Rep (G.shut b w) (.ints k ((l.drop off).take len)) (.slice (some ⟨b, off * 1, none⟩) ((l.drop off).take len).length cap) := by
        refine .ints k _ b _ cap (by omega) fun i x hx => ?_
        rw [List.getElem?_take] at hx
        split at hx
        · rw [List.getElem?_drop] at hx
          obtain ⟨c, hc, hr⟩ := q7.get (off + i) (.int k x) (by simp [hx])
          cases hr
          rw [List.getElem?_take] at hc
          split at hc
          · rw [Nat.mul_one]; exact himm _ _ (by simpa using hc)
          · cases hc
        · cases hx
      rw [hlen] at key
      exact key
    | vecR off len sz rs hob hle =>
      subst hob
      intro hr
      cases hr with
      | mvec _ _ _ _ cap b' m hb hcap hfit =>
      rw [q1] at hb; cases hb
      have hall : ∀ r ∈ rs, r.length = sz := by
        simp only [AObj.cells] at hc
        split at hc
        · assumption
        · cases hc
      have hcs : cs = rs.flatten := by
        have h0 := hc
        simp only [AObj.cells] at h0
        rw [if_pos hall] at h0
        cases h0; rfl
      subst hcs
      have hsub := sub_flatten hall off len
      have hlen : ((rs.drop off).take len).length = len := by simp; omega
      have cell : ∀ (i : Nat) y, ((rs.drop off).take len).flatten[i]? = some y → ∃ c, arr[off * sz + i]? = some c ∧ Rep G y c := by
        intro i y hy
        obtain ⟨c, hc, hr⟩ := q7.get _ _ (hsub i y hy)
        rw [List.getElem?_take] at hc
        split at hc
        · exact ⟨c, by simpa using hc, hr⟩
        · cases hc
      have key : Rep (G.shut b w) (.rows sz ((rs.drop off).take len)) (.slice (some ⟨b, off * sz, none⟩) ((rs.drop off).take len).length cap) := by
        refine .rows sz _ b _ cap (fun i => (arr[off * sz + i]?).getD (.bool false)) (by omega) (fun r hr => hall r (List.mem_of_mem_drop (List.mem_of_mem_take hr))) (fun i y hy => ?_) (fun i y hy => ?_)
        · obtain ⟨c, h1, _⟩ := cell i y hy
          rw [himm _ c h1, h1]; rfl
        · obtain ⟨c, h1, h2⟩ := cell i y hy
          rw [h1]; exact h2.mono hg
      rw [hlen] at key
      exact key
    | box off cs' hob =>
      subst hob; cases hc
      intro hr
      cases hr with
      | ptr _ _ b' m hb =>
      rw [q1] at hb; cases hb
      have cell : ∀ (i : Nat) y, (cs.drop off)[i]? = some y → ∃ c, arr[off + i]? = some c ∧ Rep G y c := by
        intro i y hy
        rw [List.getElem?_drop] at hy
        obtain ⟨c, hc, hr⟩ := q7.get _ _ hy
        rw [List.getElem?_take] at hc
        split at hc
        · exact ⟨c, by simpa using hc, hr⟩
        · cases hc
      refine .iptr _ b off (fun i => (arr[off + i]?).getD (.bool false)) (fun i y hy => ?_) (fun i y hy => ?_)
      · obtain ⟨c, h1, _⟩ := cell i y hy
        rw [himm _ c h1, h1]; rfl
      · obtain ⟨c, h1, h2⟩ := cell i y hy
        rw [h1]; exact h2.mono hg
    | agg cs' ds hle _ ih =>
      intro hr
      obtain ⟨vs, rfl, hrl⟩ := hr.agg_inv
      refine Rep.agg_of (RepL.of_get (by rw [← hle]; exact hrl.length) fun i y hy => ?_)
      have hi : i < cs'.length := by rw [hle]; exact (List.getElem?_eq_some_iff.1 hy).1
      obtain ⟨c, hc, hr⟩ := hrl.get i _ (List.getElem?_eq_getElem hi)
      exact ⟨c, hc, ih i _ y (List.getElem?_eq_getElem hi) hy c hr⟩
    | tup cs' ds hle _ ih =>
      intro hr
      cases hr with
      | tup _ vs f hl h hr =>
      refine .tup _ vs f (by rw [← hle]; exact hl) (fun i y hy => ?_) (fun i y hy => ?_)
      · have hi : i < cs'.length := by rw [hle]; exact (List.getElem?_eq_some_iff.1 hy).1
        exact h i _ (List.getElem?_eq_getElem hi)
      · have hi : i < cs'.length := by rw [hle]; exact (List.getElem?_eq_some_iff.1 hy).1
        exact ih i _ y (List.getElem?_eq_getElem hi) hy _ (hr i _ (List.getElem?_eq_getElem hi))
    | fn f fs cs' ds hle _ ih =>
      intro hr
      cases hr with
      | fn _ _ _ gs hs p q hl hl' h hr h' hr' =>
      refine .fn f fs _ gs hs p q hl (by rw [← hle]; exact hl') h (fun i x hx => (hr i x hx).mono hg) (fun i y hy => ?_) (fun i y hy => ?_)
      · have hi : i < cs'.length := by rw [hle]; exact (List.getElem?_eq_some_iff.1 hy).1
        exact h' i _ (List.getElem?_eq_getElem hi)
      · have hi : i < cs'.length := by rw [hle]; exact (List.getElem?_eq_some_iff.1 hy).1
        exact ih i _ y (List.getElem?_eq_getElem hi) hy _ (hr' i _ (List.getElem?_eq_getElem hi))
  refine ⟨G.shut b w, hg, hfz, fun σ' hσ => ?_⟩
  obtain ⟨z1, z2, z3⟩ := hσ
  have hold : ∀ (i : Nat) y, σ'[i]? = some y → y.live = true → i ≠ id ∧ ∃ x, σ[i]? = some x ∧ FzO id ob x y ∧ x.live = true := by
    intro i y hy hly
    have hi : i ≠ id := fun e => by subst e; rw [z2] at hy; cases hy; cases hly
    obtain ⟨x, hx, hxy⟩ := z3 i y hi hy
    exact ⟨hi, x, hx, hxy, by cases hxy <;> first | exact hly | rfl⟩
  refine ⟨by rw [z1]; exact hw.len, fun b' o c h => ?_, fun i y hy => ?_, fun i j oi oj bi bj a1 a2 a3 a4 a5 a6 a7 => ?_, hw.frame, hw.sz, hw.os, hw.tape, hw.output, hw.marks, hw.grew, hw.globs.mono hg.imm⟩
  · by_cases e : b' = b
    · subst e
      have h' : w.cell? ⟨b', o, none⟩ = some c := by
        have h2 : (if b' = b' then w.cell? ⟨b', o, none⟩ else G.imm b' o) = some c := h
        rwa [if_pos rfl] at h2
      refine ⟨h', q8 c ?_⟩
      rw [hcell] at h'
      exact List.mem_of_getElem? (by simpa using h')
    · have h2 : (if b' = b then w.cell? ⟨b, o, none⟩ else G.imm b' o) = some c := h
      rw [if_neg e] at h2
      exact hw.imm b' o c h2
  · cases hly : y.live with
    | false => cases y <;> first | trivial | cases hly
    | true =>
      obtain ⟨hi, x, hx, hxy, hlx⟩ := hold i y hy hly
      have hno : ∀ b' m, G.obj[i]? = some (b', m) → (∀ o, G.imm b' o = none) → ∀ o, (G.shut b w).imm b' o = none := fun b' m hb h0 o => by
        have := hne i x _ hx hlx hb hi
        show (if b' = b then _ else _) = _
        rw [if_neg this]; exact h0 o
      cases hxy with
      | same => exact objRel_mono hg (hw.objs i _ hx) (fun _ _ _ => rfl) (fun b' m hb _ h0 => hno b' m hb h0)
      | box cs' ds hle h =>
        obtain ⟨b', m, arr', ty', r1, r2, r3, r4, r5, r6, r7, r8⟩ := (hw.objs i _ hx).get (cs := cs') rfl
        refine objRel_mk (cs := ds) rfl r1 r2 r3 r5 (hno b' m r1 r6) (arr'.toList.take cs'.length) (RepL.of_get (by rw [← hle]; exact r7.length) fun j z hz => ?_) (fun j c hcc => ?_) r8
        · have hj : j < cs'.length := by rw [hle]; exact (List.getElem?_eq_some_iff.1 hz).1
          obtain ⟨c, hc', hr⟩ := r7.get j _ (List.getElem?_eq_getElem hj)
          exact ⟨c, hc', hfz _ _ _ (h j _ z (List.getElem?_eq_getElem hj) hz) hr⟩
        · rw [List.getElem?_take] at hcc
          split at hcc
          · simpa using hcc
          · cases hcc
      | vecR sz rs rs' hle hs h =>
        obtain ⟨_, _, _, _, cs', hcs', _⟩ := hw.objs i _ hx
        have hall : ∀ r ∈ rs, r.length = sz := by
          simp only [AObj.cells] at hcs'
          split at hcs'
          · assumption
          · cases hcs'
        obtain ⟨b', m, arr', ty', r1, r2, r3, r4, r5, r6, r7, r8⟩ := (hw.objs i _ hx).get (cs := rs.flatten) (by simp only [AObj.cells]; rw [if_pos hall])
        have hfl : rs.flatten.length = rs'.flatten.length := by
          have h1 := Cont.cells_length (c := .R sz rs) (sz := sz) ⟨rfl, hall⟩
          have h2 := Cont.cells_length (c := .R sz rs') (sz := sz) ⟨rfl, hs⟩
          simp only [Cont.cells, Cont.len] at h1 h2
          rw [h1, h2, hle]
        refine objRel_mk (cs := rs'.flatten) (by simp only [AObj.cells]; rw [if_pos hs]) r1 r2 r3 r5 (hno b' m r1 r6) (arr'.toList.take rs.flatten.length) (RepL.of_get (by rw [← hfl]; exact r7.length) fun j z hz => ?_) (fun j c hcc => ?_) r8
        · have hj : j < rs.flatten.length := by rw [hfl]; exact (List.getElem?_eq_some_iff.1 hz).1
          obtain ⟨c, hc', hr⟩ := r7.get j _ (List.getElem?_eq_getElem hj)
          exact ⟨c, hc', hfz _ _ _ (h j _ z (List.getElem?_eq_getElem hj) hz) hr⟩
        · rw [List.getElem?_take] at hcc
          split at hcc
          · simpa using hcc
          · cases hcc
  · obtain ⟨_, x, p1, _, p2⟩ := hold i oi a1 a3
    obtain ⟨_, y, p3, _, p4⟩ := hold j oj a2 a4
    exact hw.inj i j x y bi bj p1 p3 p2 p4 a5 a6 a7

/-- **Sealing.** -/
theorem awp_seal {N : Nat} {c : Code} {K : Exit → Env → Store → Prop} {e : Env} {s : Store} (id : Nat) {ob : AObj} {cs : List AV} (ho : s[id]? = some ob) (hc : ob.cells = some cs) (e' : Env) (s' : Store) (hs : FzS id ob s s') (he : FzE id ob e' e)
    (h : AWp P N c K e' s') : AWp P N c K e s := by
  intro G0 G a w hg hea hw
  obtain ⟨G', h1, h2, h3⟩ := hw.shut ho hc
  refine h G0 G' a w (hg.trans h1) ⟨hea.1, hea.2.1.mono h1, fun t y hy => ?_⟩ (h3 s' hs)
  obtain ⟨x, hx, hxy⟩ := he.get t y hy
  obtain ⟨v, hv, hr⟩ := hea.2.2 t x hx
  exact ⟨v, hv, h2 x y v hxy hr⟩

end Go.Pa
