/-
  Own objects that will never turn again, many at once: from here on they are told of by their content.
-/
import Derived.Test.YtdioiegkpkjmkaaFacts
namespace Go.Pa
set_option linter.unusedSectionVars false
set_option linter.unusedSimpArgs false
variable [GTab]
variable {P : Program}

/-- 'y' is what 'x' becomes when the objects of which p holds never turn again. -/
inductive Sh (s : Store) (p : Nat → Prop) : AV → AV → Prop
  | same (x : AV) : Sh s p x x
  | nilI (k : IntKind) : Sh s p .nils (.ints k [])
  | nilR (sz : Nat) : Sh s p .nils (.rows sz [])
  | empI (k : IntKind) : Sh s p .emp (.ints k [])
  | empR (sz : Nat) : Sh s p .emp (.rows sz [])
  | vecI (id off len : Nat) (k : IntKind) (l : List Int) (h : s[id]? = some (.vecI k l)) (hp : p id) (hl : off + len ≤ l.length) : Sh s p (.mvec id off len 1) (.ints k ((l.drop off).take len))
  | vecR (id off len sz : Nat) (rs rs' : List (List AV)) (h : s[id]? = some (.vecR sz rs)) (hp : p id) (hl : off + len ≤ rs.length) (hl' : rs'.length = len) (hs : ∀ r ∈ rs', r.length = sz)
      (hf : ∀ (i : Nat) x y, ((rs.drop off).take len).flatten[i]? = some x → rs'.flatten[i]? = some y → Sh s p x y) : Sh s p (.mvec id off len sz) (.rows sz rs')
  | box (id off : Nat) (cs ds : List AV) (h : s[id]? = some (.box cs)) (hp : p id) (hl : (cs.drop off).length = ds.length)
      (hf : ∀ (i : Nat) x y, (cs.drop off)[i]? = some x → ds[i]? = some y → Sh s p x y) : Sh s p (.ptr id off) (.iptr ds)
  | rows (sz : Nat) (rs rs' : List (List AV)) (hl : rs.length = rs'.length) (hs : ∀ r ∈ rs', r.length = sz) (hf : ∀ (i : Nat) x y, rs.flatten[i]? = some x → rs'.flatten[i]? = some y → Sh s p x y) : Sh s p (.rows sz rs) (.rows sz rs')
  | agg (cs ds : List AV) (hl : cs.length = ds.length) (h : ∀ (i : Nat) x y, cs[i]? = some x → ds[i]? = some y → Sh s p x y) : Sh s p (.agg cs) (.agg ds)
  | tup (cs ds : List AV) (hl : cs.length = ds.length) (h : ∀ (i : Nat) x y, cs[i]? = some x → ds[i]? = some y → Sh s p x y) : Sh s p (.tup cs) (.tup ds)
  | fn (f : FuncId) (fs cs fs' ds : List AV) (hl' : fs.length = fs'.length) (hl : cs.length = ds.length) (h' : ∀ (i : Nat) x y, fs[i]? = some x → fs'[i]? = some y → Sh s p x y)
      (h : ∀ (i : Nat) x y, cs[i]? = some x → ds[i]? = some y → Sh s p x y) : Sh s p (.fn f fs cs) (.fn f fs' ds)

/-- The same, of objects that stay. -/
inductive ShO (s : Store) (p : Nat → Prop) : AObj → AObj → Prop
  | same (x : AObj) : ShO s p x x
  | box (cs ds : List AV) (hl : cs.length = ds.length) (h : ∀ (i : Nat) x y, cs[i]? = some x → ds[i]? = some y → Sh s p x y) : ShO s p (.box cs) (.box ds)
  | vecR (sz : Nat) (rs rs' : List (List AV)) (hl : rs.length = rs'.length) (hs : ∀ r ∈ rs', r.length = sz) (h : ∀ (i : Nat) x y, rs.flatten[i]? = some x → rs'.flatten[i]? = some y → Sh s p x y) : ShO s p (.vecR sz rs) (.vecR sz rs')

def ShE (s : Store) (p : Nat → Prop) : Env → Env → Prop
  | [], _ => True
  | (t, y) :: e', e => (∃ x, e.get t = some x ∧ Sh s p x y) ∧ ShE s p e' e

theorem ShE.get {s : Store} {p : Nat → Prop} {e e' : Env} (h : ShE s p e' e) : ∀ t y, e'.get t = some y → ∃ x, e.get t = some x ∧ Sh s p x y := by
  induction e' with
  | nil => intro t y hy; simp [Env.get] at hy
  | cons q e' ih =>
    obtain ⟨u, v⟩ := q
    intro t y hy
    simp only [Env.get] at hy
    split at hy
    · rename_i hu; subst hu; cases hy; exact h.1
    · exact ih h.2 t y hy

/-- What stays of the store. -/
def ShS (s : Store) (p : Nat → Prop) (s' : Store) : Prop :=
  s'.length = s.length ∧ ∀ (i : Nat) y, s'[i]? = some y → y = .dead ∨ (¬ p i ∧ ∃ x, s[i]? = some x ∧ ShO s p x y)

/-- The block is that of an object of which p holds. -/
def Gh.isP (G : Gh) (s : Store) (p : Nat → Prop) (b : Nat) : Prop := ∃ (i : Nat) (ob : AObj) (cs : List AV) (m : Nat), p i ∧ s[i]? = some ob ∧ AObj.cells ob = some cs ∧ G.obj[i]? = some (b, m)

open Classical in
noncomputable def Gh.shutP (G : Gh) (s : Store) (p : Nat → Prop) (w : World) : Gh := { G with imm := fun b o => if G.isP s p b then w.cell? ⟨b, o, none⟩ else G.imm b o }

theorem WRel.shutP {G : Gh} {σ : Store} {w : World} (hw : WRel G σ w) (p : Nat → Prop) :
    ∃ G', G.le G' ∧ (∀ x y v, Sh σ p x y → Rep G x v → Rep G' y v) ∧ ∀ σ', ShS σ p σ' → WRel G' σ' w := by
  have live : ∀ {ob : AObj} {cs : List AV}, AObj.cells ob = some cs → ob.live = true := fun {ob} {cs} hc => by cases ob <;> first | rfl | cases hc
  -- an object's block
  have blk : ∀ {b : Nat}, G.isP σ p b → (∀ o, G.imm b o = none) ∧ ∀ o c, w.cell? ⟨b, o, none⟩ = some c → c.oneCell' = true := by
    rintro b ⟨i, ob, cs, m, h1, h2, h3, h4⟩
    obtain ⟨b', m', arr, ty, q1, q2, q3, q4, q5, q6, q7, q8⟩ := (hw.objs i ob h2).get h3
    rw [h4] at q1; cases q1
    refine ⟨q6, fun o c hc => ?_⟩
    simp only [World.cell?, q2] at hc
    exact q8 c (List.mem_of_getElem? (by simpa using hc))
  have himm : ∀ b, G.isP σ p b → ∀ o, (G.shutP σ p w).imm b o = w.cell? ⟨b, o, none⟩ := fun b h o => if_pos h
  have himm' : ∀ b, ¬ G.isP σ p b → ∀ o, (G.shutP σ p w).imm b o = G.imm b o := fun b h o => if_neg h
  have hg : G.le (G.shutP σ p w) := ⟨rfl, rfl, fun b o c h => by
    by_cases hb : G.isP σ p b
    · rw [(blk hb).1 o] at h; cases h
    · rw [himm' b hb]; exact h, fun _ _ h => h, rfl, fun _ _ h => h⟩
  have hfz : ∀ x y v, Sh σ p x y → Rep G x v → Rep (G.shutP σ p w) y v := by
    intro x y v hxy
    induction hxy generalizing v with
    | same x => exact fun h => h.mono hg
    | nilI k => intro hr; cases hr; exact .ints0 k none 0
    | nilR sz => intro hr; cases hr; exact .rows0 sz none 0
    | empI k => intro hr; cases hr; exact .ints0 k _ 0
    | empR sz => intro hr; cases hr; exact .rows0 sz _ 0
    | vecI id off len k l ho hp hle =>
      intro hr
      cases hr with
      | mvec _ _ _ _ cap b m hb hcap hfit =>
      obtain ⟨b', m', arr, ty, q1, q2, q3, q4, q5, q6, q7, q8⟩ := (hw.objs id _ ho).get (cs := l.map (AV.int k)) rfl
      rw [hb] at q1; cases q1
      have hip : G.isP σ p b := ⟨id, _, _, m, hp, ho, rfl, hb⟩
      have hlen : ((l.drop off).take len).length = len := by simp; omega
      have key : Rep (G.shutP σ p w) (.ints k ((l.drop off).take len)) (.slice (some ⟨b, off * 1, none⟩) ((l.drop off).take len).length cap) := by
        refine .ints k _ b _ cap (by omega) fun i x hx => ?_
        rw [List.getElem?_take] at hx
        split at hx
        · rw [List.getElem?_drop] at hx
          obtain ⟨c, hc, hr⟩ := q7.get (off + i) (.int k x) (by simp [hx])
          cases hr
          rw [List.getElem?_take] at hc
          split at hc
          · rw [himm b hip, cell_of_row w b _ arr ty _ q2, Nat.mul_one]
            simpa using hc
          · cases hc
        · cases hx
      rw [hlen] at key
      exact key
    | vecR id off len sz rs rs' ho hp hle hl' hs hf ih =>
      intro hr
      cases hr with
      | mvec _ _ _ _ cap b m hb hcap hfit =>
      obtain ⟨cs0, hcs0⟩ : ∃ cs, (AObj.vecR sz rs).cells = some cs := by
        obtain ⟨_, _, _, _, cs0, q, _⟩ := hw.objs id _ ho
        exact ⟨cs0, q⟩
      have hall : ∀ r ∈ rs, r.length = sz := by
        simp only [AObj.cells] at hcs0
        split at hcs0
        · assumption
        · cases hcs0
      have hcell : (AObj.vecR sz rs).cells = some rs.flatten := by simp only [AObj.cells]; rw [if_pos hall]
      obtain ⟨b', m', arr, ty, q1, q2, q3, q4, q5, q6, q7, q8⟩ := (hw.objs id _ ho).get hcell
      rw [hb] at q1; cases q1
      have hip : G.isP σ p b := ⟨id, _, _, m, hp, ho, hcell, hb⟩
      have hsub := sub_flatten hall off len
      have hfl' : rs'.flatten.length = rs'.length * sz := Cont.cells_length (c := .R sz rs') ⟨rfl, hs⟩
      have hfl : ((rs.drop off).take len).flatten.length = len * sz := by
        have h1 : ∀ r ∈ (rs.drop off).take len, r.length = sz := fun r hr => hall r (List.mem_of_mem_drop (List.mem_of_mem_take hr))
        have h2 := Cont.cells_length (c := .R sz ((rs.drop off).take len)) ⟨rfl, h1⟩
        simp only [Cont.cells, Cont.len] at h2
        rw [h2]; congr 1; simp; omega
      have cell : ∀ (i : Nat) y, rs'.flatten[i]? = some y → ∃ c, (G.shutP σ p w).imm b (off * sz + i) = some c ∧ Rep (G.shutP σ p w) y c := by
        intro i y hy
        have hi : i < ((rs.drop off).take len).flatten.length := by
          have := (List.getElem?_eq_some_iff.1 hy).1
          rw [hfl, ← hl', ← hfl']; exact this
        have hx := List.getElem?_eq_getElem hi
        obtain ⟨c, hc, hr⟩ := q7.get _ _ (hsub i _ hx)
        rw [List.getElem?_take] at hc
        split at hc
        · refine ⟨c, ?_, ih i _ y hx hy c hr⟩
          rw [himm b hip, cell_of_row w b _ arr ty _ q2]; simpa using hc
        · cases hc
      rw [← hl']
      have hcap' : rs'.length ≤ cap := by omega
      refine .rows sz rs' b _ cap (fun i => ((G.shutP σ p w).imm b (off * sz + i)).getD (.bool false)) hcap' hs (fun i y hy => ?_) (fun i y hy => ?_)
      · obtain ⟨c, h1, _⟩ := cell i y hy; rw [h1]; rfl
      · obtain ⟨c, h1, h2⟩ := cell i y hy; rw [h1]; exact h2
    | box id off cs ds ho hp hl hf ih =>
      intro hr
      cases hr with
      | ptr _ _ b m hb =>
      obtain ⟨b', m', arr, ty, q1, q2, q3, q4, q5, q6, q7, q8⟩ := (hw.objs id _ ho).get (cs := cs) rfl
      rw [hb] at q1; cases q1
      have hip : G.isP σ p b := ⟨id, _, _, m, hp, ho, rfl, hb⟩
      have cell : ∀ (i : Nat) y, ds[i]? = some y → ∃ c, (G.shutP σ p w).imm b (off + i) = some c ∧ Rep (G.shutP σ p w) y c := by
        intro i y hy
        have hi : i < (cs.drop off).length := by rw [hl]; exact (List.getElem?_eq_some_iff.1 hy).1
        have hx := List.getElem?_eq_getElem hi
        have hx2 := hx
        rw [List.getElem?_drop] at hx2
        obtain ⟨c, hc, hr⟩ := q7.get _ _ hx2
        rw [List.getElem?_take] at hc
        split at hc
        · refine ⟨c, ?_, ih i _ y hx hy c hr⟩
          rw [himm b hip, cell_of_row w b _ arr ty _ q2]; simpa using hc
        · cases hc
      refine .iptr _ b off (fun i => ((G.shutP σ p w).imm b (off + i)).getD (.bool false)) (fun i y hy => ?_) (fun i y hy => ?_)
      · obtain ⟨c, h1, _⟩ := cell i y hy; rw [h1]; rfl
      · obtain ⟨c, h1, h2⟩ := cell i y hy; rw [h1]; exact h2
    | rows sz rs rs' hl hs hf ih =>
      intro hr
      cases hr with
      | rows0 _ a cap =>
        have : rs' = [] := by cases rs' with
          | nil => rfl
          | cons _ _ => simp at hl
        subst this
        exact .rows0 sz a cap
      | rows _ _ b o cap f hcap hs' h hr =>
        have hfl : rs.flatten.length = rs'.flatten.length := by
          have h1 := Cont.cells_length (c := .R sz rs) (sz := sz) ⟨rfl, hs'⟩
          have h2 := Cont.cells_length (c := .R sz rs') (sz := sz) ⟨rfl, hs⟩
          simp only [Cont.cells, Cont.len] at h1 h2
          rw [h1, h2, hl]
        rw [hl]
        refine .rows sz rs' b o cap f (by omega) hs (fun i y hy => ?_) (fun i y hy => ?_)
        · have hi : i < rs.flatten.length := by rw [hfl]; exact (List.getElem?_eq_some_iff.1 hy).1
          exact hg.imm _ _ _ (h i _ (List.getElem?_eq_getElem hi))
        · have hi : i < rs.flatten.length := by rw [hfl]; exact (List.getElem?_eq_some_iff.1 hy).1
          exact ih i _ y (List.getElem?_eq_getElem hi) hy _ (hr i _ (List.getElem?_eq_getElem hi))
    | agg cs' ds hle _ ih =>
      intro hr
      obtain ⟨vs, rfl, hrl⟩ := hr.agg_inv
      refine Rep.agg_of (RepL.of_get (by rw [← hle]; exact hrl.length) fun i y hy => ?_)
      have hi : i < cs'.length := by rw [hle]; exact (List.getElem?_eq_some_iff.1 hy).1
      obtain ⟨c, hc, hr⟩ := hrl.get i _ (List.getElem?_eq_getElem hi)
      exact ⟨c, hc, ih i _ y (List.getElem?_eq_getElem hi) hy c hr⟩
    | tup cs' ds hle _ ih =>
      intro hr
      obtain ⟨vs, rfl, hrl⟩ := hr.tup_inv
      refine Rep.tup_of (RepL.of_get (by rw [← hle]; exact hrl.length) fun i y hy => ?_)
      have hi : i < cs'.length := by rw [hle]; exact (List.getElem?_eq_some_iff.1 hy).1
      obtain ⟨c, hc, hr⟩ := hrl.get i _ (List.getElem?_eq_getElem hi)
      exact ⟨c, hc, ih i _ y (List.getElem?_eq_getElem hi) hy c hr⟩
    | fn f fs cs' fs' ds hle' hle _ _ ih' ih =>
      intro hr
      cases hr with
      | fn _ _ _ gs hs q1 q2 hl hl' h hr h' hr' =>
      refine .fn f fs' _ gs hs q1 q2 (by rw [← hle']; exact hl) (by rw [← hle]; exact hl') (fun i y hy => ?_) (fun i y hy => ?_) (fun i y hy => ?_) (fun i y hy => ?_)
      · have hi : i < fs.length := by rw [hle']; exact (List.getElem?_eq_some_iff.1 hy).1
        exact h i _ (List.getElem?_eq_getElem hi)
      · have hi : i < fs.length := by rw [hle']; exact (List.getElem?_eq_some_iff.1 hy).1
        exact ih' i _ y (List.getElem?_eq_getElem hi) hy _ (hr i _ (List.getElem?_eq_getElem hi))
      · have hi : i < cs'.length := by rw [hle]; exact (List.getElem?_eq_some_iff.1 hy).1
        exact h' i _ (List.getElem?_eq_getElem hi)
      · have hi : i < cs'.length := by rw [hle]; exact (List.getElem?_eq_some_iff.1 hy).1
        exact ih i _ y (List.getElem?_eq_getElem hi) hy _ (hr' i _ (List.getElem?_eq_getElem hi))
  refine ⟨G.shutP σ p w, hg, hfz, fun σ' hσ => ?_⟩
  obtain ⟨z1, z3⟩ := hσ
  have hold : ∀ (i : Nat) y, σ'[i]? = some y → y.live = true → ¬ p i ∧ ∃ x, σ[i]? = some x ∧ ShO σ p x y ∧ x.live = true := by
    intro i y hy hly
    rcases z3 i y hy with rfl | ⟨hi, x, hx, hxy⟩
    · cases hly
    · exact ⟨hi, x, hx, hxy, by cases hxy <;> first | exact hly | rfl⟩
  refine ⟨by rw [z1]; exact hw.len, fun b' o c h => ?_, fun i y hy => ?_, fun i j oi oj bi bj a1 a2 a3 a4 a5 a6 a7 => ?_, hw.frame, hw.sz, hw.os, hw.tape, hw.output, hw.marks, hw.grew, hw.globs.mono hg.imm⟩
  · by_cases e : G.isP σ p b'
    · rw [himm b' e] at h
      exact ⟨h, (blk e).2 o c h⟩
    · rw [himm' b' e] at h
      exact hw.imm b' o c h
  · cases hly : y.live with
    | false => cases y <;> first | trivial | cases hly
    | true =>
      obtain ⟨hi, x, hx, hxy, hlx⟩ := hold i y hy hly
      have hno : ∀ b' m, G.obj[i]? = some (b', m) → (∀ o, G.imm b' o = none) → ∀ o, (G.shutP σ p w).imm b' o = none := fun b' m hb h0 o => by
        rw [himm' b']
        · exact h0 o
        · rintro ⟨j, ob, cs, m', h1, h2, h3, h4⟩
          exact hi (by rw [hw.inj i j x ob _ _ hx h2 hlx (live h3) hb h4 rfl]; exact h1)
      cases hxy with
      | same => exact objRel_mono hg (hw.objs i _ hx) (fun _ _ _ => rfl) (fun b' m hb _ h0 => hno b' m hb h0)
      | box cs' ds hle h =>
        obtain ⟨b', m, arr', ty', r1, r2, r3, r4, r5, r6, r7, r8⟩ := (hw.objs i _ hx).get (cs := cs') rfl
        refine objRel_mk (cs := ds) rfl r1 r2 r3 r5 (hno b' m r1 r6) (arr'.toList.take cs'.length) (RepL.of_get (by rw [← hle]; exact r7.length) fun j z hz => ?_) (fun j c hcc => ?_) r8
        · have hj : j < cs'.length := by rw [hle]; exact (List.getElem?_eq_some_iff.1 hz).1
          obtain ⟨c, hc', hr⟩ := r7.get j _ (List.getElem?_eq_getElem hj)
          exact ⟨c, hc', hfz _ _ _ (h j _ z (List.getElem?_eq_getElem hj) hz) hr⟩
        · rw [List.getElem?_take] at hcc
          split at hcc
          · simpa using hcc
          · cases hcc
      | vecR sz rs rs' hle hs h =>
        obtain ⟨_, _, _, _, cs', hcs', _⟩ := hw.objs i _ hx
        have hall : ∀ r ∈ rs, r.length = sz := by
          simp only [AObj.cells] at hcs'
          split at hcs'
          · assumption
          · cases hcs'
        obtain ⟨b', m, arr', ty', r1, r2, r3, r4, r5, r6, r7, r8⟩ := (hw.objs i _ hx).get (cs := rs.flatten) (by simp only [AObj.cells]; rw [if_pos hall])
        have hfl : rs.flatten.length = rs'.flatten.length := by
          have h1 := Cont.cells_length (c := .R sz rs) (sz := sz) ⟨rfl, hall⟩
          have h2 := Cont.cells_length (c := .R sz rs') (sz := sz) ⟨rfl, hs⟩
          simp only [Cont.cells, Cont.len] at h1 h2
          rw [h1, h2, hle]
        refine objRel_mk (cs := rs'.flatten) (by simp only [AObj.cells]; rw [if_pos hs]) r1 r2 r3 r5 (hno b' m r1 r6) (arr'.toList.take rs.flatten.length) (RepL.of_get (by rw [← hfl]; exact r7.length) fun j z hz => ?_) (fun j c hcc => ?_) r8
        · have hj : j < rs.flatten.length := by rw [hfl]; exact (List.getElem?_eq_some_iff.1 hz).1
          obtain ⟨c, hc', hr⟩ := r7.get j _ (List.getElem?_eq_getElem hj)
          exact ⟨c, hc', hfz _ _ _ (h j _ z (List.getElem?_eq_getElem hj) hz) hr⟩
        · rw [List.getElem?_take] at hcc
          split at hcc
          · simpa using hcc
          · cases hcc
  · obtain ⟨_, x, p1, _, p2⟩ := hold i oi a1 a3
    obtain ⟨_, y, p3, _, p4⟩ := hold j oj a2 a4
    exact hw.inj i j x y bi bj p1 p3 p2 p4 a5 a6 a7

/-- **Sealing many objects.** -/
theorem awp_shut {N : Nat} {c : Code} {K : Exit → Env → Store → Prop} {e : Env} {s : Store} (p : Nat → Prop) (e' : Env) (s' : Store) (hs : ShS s p s') (he : ShE s p e' e) (h : AWp P N c K e' s') : AWp P N c K e s := by
  intro G0 G a w hg hea hw
  obtain ⟨G', h1, h2, h3⟩ := hw.shutP p
  refine h G0 G' a w (hg.trans h1) ⟨hea.1, hea.2.1.mono h1, fun t y hy => ?_⟩ (h3 s' hs)
  obtain ⟨x, hx, hxy⟩ := he.get t y hy
  obtain ⟨v, hv, hr⟩ := hea.2.2 t x hx
  exact ⟨v, hv, h2 _ _ _ hxy hr⟩

/-- **Sealing many objects at a return.** -/
theorem ACalls.shutP {f : FuncId} {args : List AV} {σ : Store} {R : AV → Store → Prop} (h : ACalls P f args σ fun r s => ∃ (p : Nat → Prop) (r' : AV) (s' : Store), ShS s p s' ∧ Sh s p r r' ∧ R r' s') : ACalls P f args σ R := by
  refine ⟨h.1, fun G w vs hw hl => (h.2 G w vs hw hl).mono ?_⟩
  rintro e w' ⟨v, r, σ', G', he, hle, hw', hr, p, r', s', h1, h2, h3⟩
  obtain ⟨G2, g1, g2, g3⟩ := hw'.shutP p
  exact ⟨v, r', s', G2, he, hle.trans g1, g3 s' h1, g2 r r' v h2 hr, h3⟩

/-- The objects from n on, up to m, are sealed; the others stay. -/
noncomputable def killS (s : Store) (n m : Nat) : Store := s.take n ++ List.replicate (min m s.length - n) .dead ++ s.drop (max n m)

theorem killS_get {s : Store} {n m i : Nat} (hn : n ≤ m) (hm : m ≤ s.length) (hi : i < n ∨ m ≤ i) : (killS s n m)[i]? = s[i]? := by
  unfold killS
  rw [Nat.min_eq_left hm, Nat.max_eq_right hn]
  rcases hi with hi | hi
  · rw [List.append_assoc, List.getElem?_append_left (by simp; omega), List.getElem?_take, if_pos hi]
  · rw [List.getElem?_append_right (by simp; omega), List.getElem?_drop]
    congr 1
    simp
    omega

theorem killS_dead {s : Store} {n m i : Nat} (hn : n ≤ m) (hm : m ≤ s.length) (hi : n ≤ i ∧ i < m) : (killS s n m)[i]? = some .dead := by
  unfold killS
  rw [Nat.min_eq_left hm, Nat.max_eq_right hn, List.getElem?_append_left (by simp; omega), List.getElem?_append_right (by simp; omega), List.getElem?_replicate, if_pos (by simp; omega)]

theorem killS_len {s : Store} {n m : Nat} (hn : n ≤ m) (hm : m ≤ s.length) : (killS s n m).length = s.length := by
  unfold killS
  rw [Nat.min_eq_left hm, Nat.max_eq_right hn]
  simp
  omega

theorem killS_sh {s : Store} {n m : Nat} (hn : n ≤ m) (hm : m ≤ s.length) : ShS s (fun i => n ≤ i ∧ i < m) (killS s n m) := by
  refine ⟨killS_len hn hm, fun i y hy => ?_⟩
  by_cases h : n ≤ i ∧ i < m
  · rw [killS_dead hn hm h] at hy; cases hy; exact .inl rfl
  · rw [killS_get hn hm (by omega)] at hy
    exact .inr ⟨h, y, hy, .same _⟩

theorem killS_ext {a s : Store} {n m : Nat} (h : Ext a s) (hn : n ≤ m) (hm : m ≤ s.length) (ha : a.length ≤ n) : Ext a (killS s n m) := fun i x hx => by
  have := (List.getElem?_eq_some_iff.1 hx).1
  rw [killS_get hn hm (by omega)]
  exact h i x hx

/-- **Sealing the objects from n to m.** -/
theorem awp_kill {N : Nat} {c : Code} {K : Exit → Env → Store → Prop} {e : Env} {s : Store} (n m : Nat) (hn : n ≤ m) (hm : m ≤ s.length) (e' : Env) (he : ShE s (fun i => n ≤ i ∧ i < m) e' e) (h : AWp P N c K e' (killS s n m)) : AWp P N c K e s :=
  awp_shut _ e' _ (killS_sh hn hm) he h

theorem BufI.sh {s : Store} {n m : Nat} {r : AV} {k : IntKind} {l : List Int} (h : BufI s n r k l) (hm : s.length ≤ m) : Sh s (fun i => n ≤ i ∧ i < m) r (.ints k l) := by
  rcases h with ⟨rfl | rfl, rfl⟩ | ⟨id, rfl, ho, hn⟩
  · exact .nilI k
  · exact .empI k
  · have := Sh.vecI (s := s) (p := fun i => n ≤ i ∧ i < m) id 0 l.length k l ho ⟨hn, by have := (List.getElem?_eq_some_iff.1 ho).1; omega⟩ (by omega)
    simpa using this

theorem BufR.sh {s : Store} {n m : Nat} {r : AV} {sz : Nat} {rs rs' : List (List AV)} (h : BufR s n r sz rs) (hm : s.length ≤ m) (hl : rs'.length = rs.length) (hs : ∀ r ∈ rs', r.length = sz)
    (hf : ∀ (i : Nat) x y, rs.flatten[i]? = some x → rs'.flatten[i]? = some y → Sh s (fun i => n ≤ i ∧ i < m) x y) : Sh s (fun i => n ≤ i ∧ i < m) r (.rows sz rs') := by
  rcases h with ⟨rfl | rfl, rfl⟩ | ⟨id, rfl, ho, hn⟩
  · have : rs' = [] := by cases rs' with
      | nil => rfl
      | cons _ _ => simp at hl
    subst this; exact .nilR sz
  · have : rs' = [] := by cases rs' with
      | nil => rfl
      | cons _ _ => simp at hl
    subst this; exact .empR sz
  · refine .vecR id 0 rs.length sz rs rs' ho ⟨hn, by have := (List.getElem?_eq_some_iff.1 ho).1; omega⟩ (by omega) hl hs ?_
    simpa using hf

theorem BufR.grow {s s' : Store} {n : Nat} {r : AV} {sz : Nat} {rs : List (List AV)} (h : BufR s n r sz rs) (hx : Ext s s') : BufR s' n r sz rs := by
  rcases h with h | ⟨j, h1, h2, h3⟩
  · exact .inl h
  · exact .inr ⟨j, h1, hx _ _ h2, h3⟩

theorem BufR.frz {s : Store} {n : Nat} {r : AV} {sz : Nat} {rs rs' : List (List AV)} (h : BufR s n r sz rs) (hl : rs'.length = rs.length) (hs : ∀ r ∈ rs', r.length = sz)
    (hf : ∀ (i : Nat) x y, rs.flatten[i]? = some x → rs'.flatten[i]? = some y → Frz s n x y) : Frz s n r (.rows sz rs') := by
  rcases h with ⟨rfl | rfl, rfl⟩ | ⟨id, rfl, ho, hn⟩
  · have : rs' = [] := by cases rs' with
      | nil => rfl
      | cons _ _ => simp at hl
    subst this; exact .nilR sz
  · have : rs' = [] := by cases rs' with
      | nil => rfl
      | cons _ _ => simp at hl
    subst this; exact .empR sz
  · refine .vecR id 0 rs.length sz rs rs' ho hn (by omega) hl hs ?_
    simpa using hf

theorem keepS {s t : Store} {id j sz : Nat} {rs : List (List AV)} {X x : AObj} (hj : s[j]? = some x) (ho : s[id]? = some (.vecR sz rs)) (hx : ∀ a b, x ≠ .vecR a b) : (s.set id X ++ t)[j]? = some x := by
  have hlt := (List.getElem?_eq_some_iff.1 hj).1
  have hne : id ≠ j := fun e => by subst e; rw [ho] at hj; cases hj; exact hx _ _ rfl
  rw [List.getElem?_append_left (by simp; exact hlt), List.getElem?_set_ne hne]
  exact hj

theorem keepS0 {s t : Store} {j : Nat} {x : AObj} (hj : s[j]? = some x) : (s ++ t)[j]? = some x := by
  rw [List.getElem?_append_left (List.getElem?_eq_some_iff.1 hj).1]; exact hj

theorem append_bufR2 {σ s : Store} {t e : TypeId} {sz : Nat} {l l' : List (List AV)} {r y : AV} {R : AV → Store → Prop} (hs : sliceElem P t = some (e, sz)) (hb : P.bytesOf e ≠ 0)
    (hx : Ext σ s) (h : BufR s σ.length r sz l) (hc : contA s y = some (.R sz l')) (hl' : ∀ r ∈ l', r.length = sz) (hf : appFits P e (l.length + l'.length))
    (hR : ∀ r' s', Ext σ s' → BufR s' σ.length r' sz (l ++ l') → (∀ (j : Nat) x, s[j]? = some x → (∀ a b, x ≠ .vecR a b) → s'[j]? = some x) → R r' s') : vcAppend P t r y s R := by
  have hlen := hx.len
  unfold vcAppend
  simp only [hs, hc]
  refine ⟨hb, ?_⟩
  rcases h with ⟨rfl | rfl, rfl⟩ | ⟨id, rfl, ho, hn⟩
  · refine ⟨rfl, hl', fun h0 => hR _ _ hx (.inl ⟨.inl rfl, by simp [h0]⟩) (fun _ _ h _ => h), fun h0 => ⟨by simpa using hf, hR _ _ (hx.push _) (.inr ⟨s.length, by simp, by simp, hlen⟩) (fun _ _ h _ => keepS0 h)⟩⟩
  · refine ⟨rfl, hl', fun h0 => hR _ _ hx (.inl ⟨.inr rfl, by simp [h0]⟩) (fun _ _ h _ => h), fun h0 => ⟨by simpa using hf, hR _ _ (hx.push _) (.inr ⟨s.length, by simp, by simp, hlen⟩) (fun _ _ h _ => keepS0 h)⟩⟩
  · simp only [ho]
    refine ⟨by simp, by simp, by simp, by simp, hl', fun h0 => hR _ _ hx (.inr ⟨id, by simp [h0], by simp [h0, ho], hn⟩) (fun _ _ h _ => h), fun h0 => ⟨hf, hR _ _ ((hx.set hn _).push _) (.inr ⟨s.length, by simp, ?_, hlen⟩) (fun _ _ h hx => keepS h ho hx)⟩⟩
    rw [List.getElem?_append_right (by simp)]
    simp

end Go.Pa
