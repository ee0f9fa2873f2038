/-
  Keys of maps: integers, rows of two integers; a map of which less is told, and more.
-/
import Derived.Test.YtdioiegkpkjmkaaAbsAll
import Derived.Test.YtdioiegkpkjmkaaAbsE
namespace Go.Pa
set_option linter.unusedSectionVars false
open Go.Maps
variable [GTab]
variable {P : Program}

theorem keyOk_int {k : TypeId} {q : IntKind} (hk : P.underlying k = some (.int q)) {n : Int} (h : Okk q n) : keyOkA P k (.int q n) :=
  ⟨rfl, fun G v hr => by rw [rep_int_eq hr]; exact ⟨_, keyOf_int_mk hk (by simpa [Lit.wf, Okk] using h)⟩⟩

theorem rep_two {G : Gh} {q q' : IntKind} {a b : Int} {v : Value} (h : Rep G (.agg [.int q a, .int q' b]) v) : v = .agg #[.int q a, .int q' b] := by
  obtain ⟨vs, rfl, hl⟩ := h.agg_inv
  congr 1
  rw [← Array.toArray_toList (xs := vs)]
  generalize vs.toList = l at hl
  cases hl with
  | cons h1 h2 =>
    cases h2 with
    | cons h3 h4 =>
      cases h4
      rw [rep_int_eq h1, rep_int_eq h3]

theorem keyOk_arr2 {t e : TypeId} {q : IntKind} (hk : P.underlying t = some (.array 2 e)) (he : P.underlying e = some (.int q)) (hce : P.cellsOf e = 1) (hct : P.cellsOf t = 2) (hkt : P.keyType t = true)
    (hs : 1 ≤ P.types.size) {a b : Int} (ha : Okk q a) (hb : Okk q b) : keyOkA P t (.agg [.int q a, .int q b]) := by
  refine ⟨rfl, fun G v hr => ?_⟩
  rw [rep_two hr]
  obtain ⟨m, hm⟩ : ∃ m, P.types.size + 1 = m + 2 := ⟨P.types.size - 1, by omega⟩
  have w1 : (Lit.int q a).wf = true := by simpa [Lit.wf, Okk] using ha
  have w2 : (Lit.int q b).wf = true := by simpa [Lit.wf, Okk] using hb
  have hf : (Value.agg #[.int q a, .int q b]).formed P t = true := by simp [Value.formed, hk, hct]
  have hl : P.keyLits (m + 2) t [.int q a, .int q b] = some [.int q a, .int q b] := by
    simp [Program.keyLits, hk, he, hce, hct, w1, w2, List.range_succ]
  have hc : (Value.agg #[.int q a, .int q b]).cells.toList = [.int q a, .int q b] := rfl
  refine ⟨.string (keyBytes [.int q a, .int q b]), ?_⟩
  unfold keyOf
  rw [hk]
  simp only [hkt, hf, Bool.and_self, if_true]
  rw [hm, hc, hl]
  rfl

theorem keyOk_struct2 {t : TypeId} {q q' : IntKind} {f f' : Field} (hk : P.underlying t = some (.struct #[f, f'])) (ho : f.offset = 0) (ho' : f'.offset = 1) (hn : (f.name != "_") = true) (hn' : (f'.name != "_") = true)
    (he : P.underlying f.type = some (.int q)) (he' : P.underlying f'.type = some (.int q')) (hce : P.cellsOf f.type = 1) (hce' : P.cellsOf f'.type = 1) (hct : P.cellsOf t = 2) (hkt : P.keyType t = true)
    (hs : 1 ≤ P.types.size) {a b : Int} (ha : Okk q a) (hb : Okk q' b) : keyOkA P t (.agg [.int q a, .int q' b]) := by
  refine ⟨rfl, fun G v hr => ?_⟩
  rw [rep_two hr]
  obtain ⟨m, hm⟩ : ∃ m, P.types.size + 1 = m + 2 := ⟨P.types.size - 1, by omega⟩
  have w1 : (Lit.int q a).wf = true := by simpa [Lit.wf, Okk] using ha
  have w2 : (Lit.int q' b).wf = true := by simpa [Lit.wf, Okk] using hb
  have hf : (Value.agg #[.int q a, .int q' b]).formed P t = true := by simp [Value.formed, hk, hct]
  have hl : P.keyLits (m + 2) t [.int q a, .int q' b] = some [.int q a, .int q' b] := by
    simp [Program.keyLits, hk, he, he', hce, hce', hct, w1, w2, ho, ho', hn, hn']
  have hc : (Value.agg #[.int q a, .int q' b]).cells.toList = [.int q a, .int q' b] := rfl
  refine ⟨.string (keyBytes [.int q a, .int q' b]), ?_⟩
  unfold keyOf
  rw [hk]
  simp only [hkt, hf, Bool.and_self, if_true]
  rw [hm, hc, hl]
  rfl

/-- All entries of a map are such as a memo tells. -/
def MemoOk (Q : AV → AV → Prop) (l : List (AV × AV × Nat)) : Prop := ∀ p ∈ l, Q p.1 p.2.1 ∧ flatKey p.1 = true ∧ flatKey p.2.1 = true

theorem set_same {s : Store} {id : Nat} {x : AObj} (h : s[id]? = some x) : s.set id x = s := by
  apply List.ext_getElem?
  intro j
  rw [List.getElem?_set]
  split
  · rename_i hj; subst hj
    rw [if_pos (List.getElem?_eq_some_iff.1 h).1, h]
  · rfl

/-- An object that stays where it is, told of in another way. -/
theorem WRel.retell {G : Gh} {σ : Store} {w : World} (hw : WRel G σ w) {id : Nat} {m m' : MapA} (ho : σ[id]? = some (.mp m)) (h : ∀ es c, MapRel G es c m → MapRel G es c m') : WRel G (σ.set id (.mp m')) w := by
  obtain ⟨b, n, es, clock, q1, q2, q3, q4, q5, q6, q7⟩ := hw.objs id _ ho
  exact hw.setMap ho q1 q2 (fun _ _ => rfl) rfl q2 rfl rfl rfl q6 (h _ _ q7)

/-- **A memo, opened**: what its entries are is not known, but that they are such. -/
theorem awp_open {N : Nat} {c : Code} {K : Exit → Env → Store → Prop} {e : Env} {s : Store} (id : Nat) {Q : AV → AV → Prop} (ho : s[id]? = some (.mp (.memo Q)))
    (h : ∀ l cl, MemoOk Q l → AWp P N c K e (s.set id (.mp (.kv l cl)))) : AWp P N c K e s := by
  intro G0 G a w hg hea hw
  obtain ⟨b, n, es, clock, q1, q2, q3, q4, q5, q6, q7⟩ := hw.objs id _ ho
  have hl : ∃ l : List (AV × AV × Nat), MemoOk Q l ∧ MapRel G es clock (.kv l clock) := by
    have key : ∀ L : List MapEntry, (∀ e ∈ L, ∃ k v, Q k v ∧ flatKey k = true ∧ flatKey v = true ∧ Rep G k e.key ∧ Rep G v e.val) →
        ∃ l : List (AV × AV × Nat), MemoOk Q l ∧ L.length = l.length ∧ ∀ (i : Nat) (p : AV × AV × Nat), l[i]? = some p → ∃ e : MapEntry, L[i]? = some e ∧ Rep G p.1 e.key ∧ Rep G p.2.1 e.val ∧ e.born = p.2.2 := by
      intro L
      induction L with
      | nil => exact fun _ => ⟨[], by simp [MemoOk], rfl, by simp⟩
      | cons e L ih =>
        intro hL
        obtain ⟨l, h1, h2, h3⟩ := ih fun e' he' => hL e' (List.mem_cons_of_mem _ he')
        obtain ⟨k, v, g1, g2, g3, g4, g5⟩ := hL e (List.mem_cons_self ..)
        refine ⟨(k, v, e.born) :: l, ?_, by simp [h2], fun i p hp => ?_⟩
        · intro p hp
          rcases List.mem_cons.1 hp with rfl | hp
          · exact ⟨g1, g2, g3⟩
          · exact h1 p hp
        · cases i with
          | zero => simp at hp; subst hp; exact ⟨e, rfl, g4, g5, rfl⟩
          | succ i => simpa using h3 i p (by simpa using hp)
    obtain ⟨l, h1, h2, h3⟩ := key es.toList q7
    exact ⟨l, h1, rfl, by simpa using h2, fun i p hp => by simpa using h3 i p hp⟩
  obtain ⟨l, h1, h2⟩ := hl
  exact h l clock h1 G0 G a w hg hea (hw.setMap ho q1 q2 (fun _ _ => rfl) rfl q2 rfl rfl rfl q6 h2)

theorem mapRel_memo {G : Gh} {es : Array MapEntry} {cl c : Nat} {Q : AV → AV → Prop} {l : List (AV × AV × Nat)} (hm : MapRel G es c (.kv l cl)) (hl : MemoOk Q l) : MapRel G es c (.memo Q) := by
  intro e he
  obtain ⟨i, hi⟩ := List.mem_iff_getElem?.1 he
  have hlt : i < l.length := by rw [← hm.2.1]; have := (List.getElem?_eq_some_iff.1 hi).1; simpa using this
  obtain ⟨e', h1, h2, h3, _⟩ := hm.2.2 i _ (List.getElem?_eq_getElem hlt)
  have : e' = e := by
    have h5 : es[i]? = some e := by simpa using hi
    rw [h1] at h5; exact Option.some.inj h5
  subst this
  obtain ⟨g1, g2, g3⟩ := hl _ (List.getElem_mem hlt)
  exact ⟨_, _, g1, g2, g3, h2, h3⟩

/-- **A map, told of by what holds of its entries.** -/
theorem awp_memo {N : Nat} {c : Code} {K : Exit → Env → Store → Prop} {e : Env} {s : Store} (id : Nat) {Q : AV → AV → Prop} {l : List (AV × AV × Nat)} {cl : Nat} (ho : s[id]? = some (.mp (.kv l cl))) (hl : MemoOk Q l)
    (h : AWp P N c K e (s.set id (.mp (.memo Q)))) : AWp P N c K e s :=
  fun G0 G a w hg hea hw => h G0 G a w hg hea (hw.retell ho fun _ _ hm => mapRel_memo hm hl)

/-- **A memo that tells less.** -/
theorem awp_memoW {N : Nat} {c : Code} {K : Exit → Env → Store → Prop} {e : Env} {s : Store} (id : Nat) {Q Q' : AV → AV → Prop} (ho : s[id]? = some (.mp (.memo Q))) (hq : ∀ k v, Q k v → Q' k v)
    (h : AWp P N c K e (s.set id (.mp (.memo Q')))) : AWp P N c K e s :=
  fun G0 G a w hg hea hw => h G0 G a w hg hea (hw.retell ho fun _ _ hm e he => let ⟨k, v, h1, h2⟩ := hm e he; ⟨k, v, hq _ _ h1, h2⟩)

end Go.Pa
