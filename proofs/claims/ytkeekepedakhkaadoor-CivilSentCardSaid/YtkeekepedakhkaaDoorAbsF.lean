/-
  Regions that draw their order, in a round of a loop over a function.
-/
import Derived.Test.YtkeekepedakhkaaDoorAbsE
namespace Go.Pa
set_option linter.unusedSectionVars false
set_option linter.unusedSimpArgs false
variable [GTab]
variable {P : Program}
section
variable {N : Nat} {es : List Nat} {l : List Oper} {e0 : Env} {s0 : Store} {sc : Script} {G0 : Gh} {L : Array Bool} {a : Act} {w : World} {G : Gh} {m : Nat} {rl : Nat}

theorem orderOk_nd {N : Nat} {es : List Nat} {l : List Oper} (h : orderOk N es l = true) {i : Nat} {x : Oper} (hi : l[i]? = some x) : noDefer x.op = true := by
  unfold orderOk at h
  simp only [Bool.and_eq_true] at h
  have h1 := h.1.1
  unfold dstOk at h1
  have := List.all_eq_true.1 h1 x (List.mem_of_getElem? hi)
  simp only [Bool.and_eq_true] at this
  exact this.2

theorem wpAnyIn_script (hB : orderOk N es l = true) (hok : ScOk P N es l e0 s0 sc) (hl : sc.length = l.length) {Q : Exit → Act → World → Prop}
    (hQ : ∀ G a w, G0.le G → ERel G N (eAt l sc e0 l.length) a → WRel G (sAt sc s0 l.length) w → Q .normal a w) :
    ∀ (fuel : Nat) (rest : List Nat) (L : Array Bool) (a : Act) (w : World) (G : Gh) (m : Nat), rest.length ≤ fuel → (∀ i, i < l.length → L.getD i false = false → i ∈ rest) → DInv P N es l e0 s0 sc G0 L a w G m → m ≤ l.length →
      wpAnyIn (Fence.wide.inRound rl) 2 P .any l.toArray Q fuel L a w := by
  have fin : ∀ (L : Array Bool) (a : Act) (w : World) (G : Gh) (m : Nat), DInv P N es l e0 s0 sc G0 L a w G m → m ≤ l.length → Region.ready .any l.toArray L = [] → Q .normal a w := by
    intro L a w G m inv hm hr
    have hall := fun i hi => all_listed inv.size hB hr (i + 1) i (by omega) hi
    refine hQ G a w inv.le ⟨inv.tsize, inv.defers, fun t x hx => ?_⟩ ?_
    · rcases eAt_get hl _ t x hx with ⟨j, oj, y, hj, hoj, hy, hd, rfl⟩ | ⟨h0, hno⟩
      · exact inv.vals j oj y t hoj hy (hall j hj) hd
      · exact inv.base t x h0 fun k ok hok _ => hno k ok (List.getElem?_eq_some_iff.1 hok).1 hok
    · obtain ⟨d, hd⟩ := Nat.exists_eq_add_of_le hm
      have : sAt sc s0 l.length = sAt sc s0 m := by
        rw [hd]
        refine sAt_const hl hok d m fun k ok hk1 hk2 hok' hck => ?_
        have := (inv.turn k ok hok' hck).1 (hall k (by omega))
        omega
      rw [this]; exact inv.wr
  intro fuel
  induction fuel with
  | zero =>
    intro rest L a w G m hf hrest inv hm
    have hr : Region.ready .any l.toArray L = [] := by
      cases hq : Region.ready .any l.toArray L with
      | nil => rfl
      | cons i _ =>
        have hi : i ∈ Region.ready .any l.toArray L := by rw [hq]; simp
        obtain ⟨hun, o, ho, _⟩ := ready_spec hi
        have := hrest i (List.getElem?_eq_some_iff.1 ho).1 (unlisted hun)
        have h0 : rest = [] := by simpa using hf
        rw [h0] at this; cases this
    exact ⟨hr, fin L a w G m inv hm hr⟩
  | succ fuel ih =>
    intro rest L a w G m hf hrest inv hm
    refine ⟨fin L a w G m inv hm, fun i hi => ?_⟩
    obtain ⟨hun, o, ho, hedge⟩ := ready_spec hi
    have hun' := unlisted hun
    have hil : i < l.length := (List.getElem?_eq_some_iff.1 ho).1
    obtain ⟨x, hx⟩ : ∃ x, sc[i]? = some x := ⟨_, List.getElem?_eq_getElem (by omega)⟩
    have hmem := hrest i hil hun'
    have next : ∀ {G' : Gh} {w' : World} {c : Value} {m' : Nat}, G.le G' → WRel G' (sAt sc s0 m') w' → Rep G' x.2.1 c → m' ≤ l.length →
        (∀ k ok, l[k]? = some ok → clsOp es k ok = 2 → ((L.setIfInBounds i true).getD k false = true ↔ k < m')) → wpAnyIn (Fence.wide.inRound rl) 2 P .any l.toArray Q fuel (L.setIfInBounds i true) (a.put o.dst c) w' := by
      intro G' w' c m' hg hw' hr hm' ht
      refine ih (rest.erase i) _ _ _ G' m' ?_ (fun j hj hju => ?_) (inv.step hB hi ho hx hg hw' hr ht) hm'
      · rw [List.length_erase_of_mem hmem]; omega
      · have hji : j ≠ i := by
          intro e; subst e
          have : j < L.size := by rw [inv.size]; exact hj
          simp [this] at hju
        rw [getD_set_ne false (Ne.symm hji)] at hju
        exact (List.mem_erase_of_ne hji).2 (hrest j hj hju)
    have same : clsOp es i o ≠ 2 → ∀ k ok, l[k]? = some ok → clsOp es k ok = 2 → ((L.setIfInBounds i true).getD k false = true ↔ k < m) := by
      intro hc k ok hok hck
      have hki : k ≠ i := by intro e; subst e; rw [ho] at hok; cases hok; exact hc hck
      rw [getD_set_ne false (Ne.symm hki)]
      exact inv.turn k ok hok hck
    obtain ⟨hguard, hpure, hskip, hrun⟩ := hok i o x ho hx
    have henv := inv.env hB hl hi ho
    have hnd : noDefer o.op = true := orderOk_nd hB ho
    unfold wpOpIn
    have hoa : l.toArray[i]? = some o := by simpa using ho
    simp only [hoa]
    have hwant : Region.wanted o (yielded l.toArray a.tmps) = x.1 := by
      cases hgd : o.guard with
      | none =>
        simp only [hgd] at hguard
        simp [Region.wanted, hgd, hguard]
      | some jw =>
        obtain ⟨j, want⟩ := jw
        simp only [hgd] at hguard
        obtain ⟨t, ht, hguard⟩ := hguard
        have hlook : t ∈ o.looksAt l.toArray := by
          unfold Oper.looksAt
          refine List.mem_append_right _ ?_
          simp only [hgd]
          have : (l.toArray[j]?).bind (·.dst) = some t := by simpa using ht
          rw [this]
          simp
        rcases hguard with ⟨c, hc, hb⟩ | ⟨hc, hb⟩
        · obtain ⟨v, hv, hr⟩ := henv.2.2 t (.bool c) (by rw [rst_get_eq hlook]; exact hc)
          cases hr
          have hy : yielded l.toArray a.tmps j = some c := by
            unfold yielded
            have h0 : (l.toArray[j]?).bind (·.dst) = some t := by simpa using ht
            rw [h0]
            simp [hv]
          simp only [Region.wanted, hgd, hy, hb]
          cases c <;> cases want <;> rfl
        · obtain ⟨v, hv, hr⟩ := henv.2.2 t (.tup []) (by rw [rst_get_eq hlook]; exact hc)
          have hy : yielded l.toArray a.tmps j = none := by
            unfold yielded
            have h0 : (l.toArray[j]?).bind (·.dst) = some t := by simpa using ht
            rw [h0]
            cases hr
            simp [hv]
          simp [Region.wanted, hgd, hy, hb]
    rw [hwant]
    cases hb : x.1 with
    | true =>
      rw [if_pos rfl]
      have hj := hrun hb
      by_cases hc0 : clsOp es i o = 0
      · rw [if_pos hc0] at hj
        refine Oper.wpIn_mono ?_ ((hj (sAt sc s0 m)).wpIn (noDefer_spec hnd) rl 2 G a w Q henv inv.wr)
        rintro a' w' ⟨c, v, σ', G', rfl, hle, hw', hr, rfl, rfl⟩
        exact next hle hw' hr hm (same (by omega))
      · rw [if_neg hc0] at hj
        have hst := inv.store hB hok hl hi ho hc0
        refine Oper.wpIn_mono ?_ (hj.wpIn (noDefer_spec hnd) rl 2 G a w Q henv (by rw [← hst]; exact inv.wr))
        rintro a' w' ⟨c, v, σ', G', rfl, hle, hw', hr, rfl, rfl⟩
        by_cases hc2 : clsOp es i o = 2
        · have hs1 : sAt sc s0 (i + 1) = x.2.2 := by simp only [sAt]; rw [hx]
          exact next (m' := i + 1) hle (by rw [hs1]; exact hw') hr (by omega) (inv.front hB hi ho hc2)
        · refine next hle ?_ hr hm (same hc2)
          rw [hpure hc2, ← hst] at hw'
          exact hw'
    | false =>
      rw [if_neg (by decide)]
      obtain ⟨hv, hs⟩ := hskip hb
      by_cases hc2 : clsOp es i o = 2
      · have hst := inv.store hB hok hl hi ho (by omega)
        have hs1 : sAt sc s0 (i + 1) = x.2.2 := by simp only [sAt]; rw [hx]
        exact ⟨fun _ _ => trivial, next (m' := i + 1) (.refl G) (by rw [hs1, hs, ← hst]; exact inv.wr) (by rw [hv]; exact rep_undef _) (by omega) (inv.front hB hi ho hc2)⟩
      · exact ⟨fun _ _ => trivial, next (.refl G) inv.wr (by rw [hv]; exact rep_undef _) hm (same hc2)⟩

/-- **A region that draws its order, in a round of a loop over a function.** -/
theorem awpR_draw (es : List Nat) {id : Nat} {ops : Array Oper} {K : Exit → Env → Store → Prop} {e : Env} {σ : Store} (hm : P.follows .mixedOrders = true) (hB : orderOk N es ops.toList = true)
    (h : vcD P es ops.toList 0 ops.toList e σ (K .normal)) : AWpR P N (.region id ops true) K e σ := by
  intro rl G0 G a w hg he hw
  obtain ⟨sc, ef, hl, hok, hge, hk⟩ := vcD_script (N := N) (es := es) (ops := ops.toList) (e0 := e) (s0 := σ) ops.toList [] e σ (by simp) (by simp) (fun i o x _ hx => by simp at hx) (fun t => rfl) rfl h
  refine wpIn_region_any hm ?_
  have hdraw : WRel G σ { w with drawn := w.drawn + 1 } := ⟨hw.len, hw.imm, hw.objs, hw.inj, hw.frame, hw.sz, hw.os, hw.tape, hw.output, hw.marks, hw.grew, hw.globs⟩
  have hz : ∀ i, (Array.replicate ops.size false).getD i false = false := fun i => by
    rcases Nat.lt_or_ge i ops.size with h | h
    · simp [h]
    · simp [h]
  have inv : DInv P N es ops.toList e σ sc G0 (Array.replicate ops.size false) a { w with drawn := w.drawn + 1 } G 0 :=
    ⟨hg, by simp, fun i o _ hi => (by simp only [hz] at hi; cases hi), he.1, he.2.1, fun t x hx _ => he.2.2 t x hx, fun i o x t _ _ hi => (by rw [hz] at hi; cases hi), hdraw, fun i o _ _ => by simp only [hz]; simp⟩
  have := wpAnyIn_script (rl := rl) (Q := Conc G0 N K) hB hok hl (fun G a w hg he' hw => ⟨G, ef, _, hg, ⟨he'.1, he'.2.1, fun t x hx => he'.2.2 t x (by rw [← hge t]; exact hx)⟩, hw, hk⟩)
    ops.size (List.range ops.toList.length) _ _ _ G 0 (by simp) (fun i hi _ => List.mem_range.2 hi) inv (by simp)
  simpa using this
end

theorem awpR_draws {N : Nat} (es : List Nat) {id : Nat} {l : List Oper} {K : Exit → Env → Store → Prop} {e : Env} {σ : Store} (hm : P.follows .mixedOrders = true) (hB : orderOk N es l = true)
    (h : vcE P es l 0 l e σ (K .normal)) : AWpR P N (.region id l.toArray true) K e σ :=
  awpR_draw es hm (by simpa using hB) (by simpa using vcE_sound h)

end Go.Pa
