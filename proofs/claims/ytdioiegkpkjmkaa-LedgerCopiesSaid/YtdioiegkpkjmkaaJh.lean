/-
  The ledger: maps of purses, as lists of entries; plain laws.
-/
import Derived.Test.YtdioiegkpkjmkaaJg
import Derived.Test.YtdioiegkpkjmkaaAbsN
namespace Go.Proofs
open Go.Pa
set_option linter.unusedSimpArgs false
set_option linter.unusedVariables false
set_option maxRecDepth 20000
set_option maxHeartbeats 2000000

abbrev KvL := List (AV × AV × Nat)

/-- Entries of a map: keys of which something holds, each once; stamps, each once, below the clock. -/
structure KvOk (K : AV → Prop) (l : KvL) (c : Nat) : Prop where
  ks : ∀ p ∈ l, K p.1
  inj : ∀ (i j : Nat) p q, l[i]? = some p → l[j]? = some q → p.1 = q.1 → i = j
  st : ∀ (i j : Nat) p q, l[i]? = some p → l[j]? = some q → p.2.2 = q.2.2 → i = j
  cl : ∀ p ∈ l, p.2.2 < c

noncomputable def valKV (l : KvL) (k : AV) : Option AV := (lookKV l k).map fun q => q.2.1

theorem val_iff {K : AV → Prop} {l : KvL} {c : Nat} (h : KvOk K l c) (k v : AV) : valKV l k = some v ↔ ∃ (i : Nat) (s : Nat), l[i]? = some (k, v, s) := by
  unfold valKV
  constructor
  · intro hv
    cases hl : lookKV l k with
    | none => rw [hl] at hv; cases hv
    | some q =>
      rw [hl] at hv
      simp only [Option.map_some, Option.some.injEq] at hv
      obtain ⟨i, v', s⟩ := q
      simp only at hv
      subst hv
      exact ⟨i, s, lookKV_get hl⟩
  · rintro ⟨i, s, hi⟩
    rw [lookKV_of h.inj hi]
    rfl

theorem val_none {l : KvL} {k : AV} : valKV l k = none ↔ lookKV l k = none := by
  unfold valKV
  cases lookKV l k <;> simp

theorem look_false (l : KvL) (k z : AV) : lookA1 false z (lookKV l k) = (valKV l k).getD z := by
  unfold valKV
  cases lookKV l k <;> rfl

theorem opt_ext {α : Type} {a b : Option α} (h : ∀ x, a = some x ↔ b = some x) : a = b := by
  cases a with
  | none => cases b with
    | none => rfl
    | some y => exact absurd ((h y).2 rfl) (by simp)
  | some x => exact ((h x).1 rfl).symm

theorem KvOk.nil (K : AV → Prop) : KvOk K [] 0 := ⟨by simp, by simp, by simp, by simp⟩

theorem app_get {α : Type} {l : List α} {x : α} {i : Nat} {p : α} (h : (l ++ [x])[i]? = some p) : (i < l.length ∧ l[i]? = some p) ∨ (i = l.length ∧ p = x) := by
  rcases Nat.lt_or_ge i l.length with h1 | h1
  · rw [List.getElem?_append_left h1] at h; exact .inl ⟨h1, h⟩
  · rw [List.getElem?_append_right h1] at h
    obtain ⟨d, hd⟩ : ∃ d, i = l.length + d := ⟨i - l.length, by omega⟩
    subst hd
    rw [Nat.add_sub_cancel_left] at h
    cases d with
    | zero => simp at h; exact .inr ⟨rfl, h.symm⟩
    | succ d => simp at h

open Classical in
theorem KvOk.push {K : AV → Prop} {l : KvL} {c : Nat} (h : KvOk K l c) {k y : AV} (hk : K k) (hn : lookKV l k = none) : KvOk K (l ++ [(k, y, c)]) (c + 1) ∧ (∀ k', valKV (l ++ [(k, y, c)]) k' = if k' = k then some y else valKV l k') := by
  have hne := lookKV_none.1 hn
  have ok : KvOk K (l ++ [(k, y, c)]) (c + 1) := by
    refine ⟨fun p hp => ?_, fun i j p q hi hj he => ?_, fun i j p q hi hj he => ?_, fun p hp => ?_⟩
    · rcases List.mem_append.1 hp with h1 | h1
      · exact h.ks p h1
      · simp at h1; subst h1; exact hk
    · rcases app_get hi with ⟨h1, h2⟩ | ⟨h1, rfl⟩ <;> rcases app_get hj with ⟨h3, h4⟩ | ⟨h3, rfl⟩
      · exact h.inj i j p q h2 h4 he
      · exact absurd he (hne p (List.mem_of_getElem? h2))
      · exact absurd he.symm (hne q (List.mem_of_getElem? h4))
      · omega
    · rcases app_get hi with ⟨h1, h2⟩ | ⟨h1, rfl⟩ <;> rcases app_get hj with ⟨h3, h4⟩ | ⟨h3, rfl⟩
      · exact h.st i j p q h2 h4 he
      · have := h.cl p (List.mem_of_getElem? h2); simp only at he; omega
      · have := h.cl q (List.mem_of_getElem? h4); simp only at he; omega
      · omega
    · rcases List.mem_append.1 hp with h1 | h1
      · have := h.cl p h1; omega
      · simp at h1; subst h1; simp
  refine ⟨ok, fun k' => opt_ext fun v => ?_⟩
  rw [val_iff ok]
  by_cases hkk : k' = k
  · subst hkk
    rw [if_pos rfl]
    constructor
    · rintro ⟨i, s, hi⟩
      rcases app_get hi with ⟨h1, h2⟩ | ⟨h1, h2⟩
      · exact absurd rfl (hne _ (List.mem_of_getElem? h2))
      · cases h2; rfl
    · rintro h1; cases h1; exact ⟨l.length, c, by simp⟩
  · rw [if_neg hkk, val_iff h]
    constructor
    · rintro ⟨i, s, hi⟩
      rcases app_get hi with ⟨h1, h2⟩ | ⟨h1, h2⟩
      · exact ⟨i, s, h2⟩
      · cases h2; exact absurd rfl hkk
    · rintro ⟨i, s, hi⟩
      exact ⟨i, s, by rw [List.getElem?_append_left (List.getElem?_eq_some_iff.1 hi).1]; exact hi⟩

theorem set_get {l : KvL} {i j : Nat} {x p : AV × AV × Nat} (h : (l.set i x)[j]? = some p) : (j = i ∧ p = x ∧ i < l.length) ∨ (j ≠ i ∧ l[j]? = some p) := by
  rw [List.getElem?_set] at h
  split at h
  · rename_i hij
    split at h
    · cases h; exact .inl ⟨hij.symm, rfl, by assumption⟩
    · cases h
  · rename_i hij; exact .inr ⟨fun e => hij e.symm, h⟩

open Classical in
theorem KvOk.set {K : AV → Prop} {l : KvL} {c : Nat} (h : KvOk K l c) {k v y : AV} {i s : Nat} (hi : l[i]? = some (k, v, s)) : KvOk K (l.set i (k, y, s)) c ∧ (∀ k', valKV (l.set i (k, y, s)) k' = if k' = k then some y else valKV l k') := by
  have hil := (List.getElem?_eq_some_iff.1 hi).1
  have like : ∀ {j : Nat} {p : AV × AV × Nat}, (l.set i (k, y, s))[j]? = some p → ∃ q, l[j]? = some q ∧ q.1 = p.1 ∧ q.2.2 = p.2.2 := by
    intro j p hj
    rcases set_get hj with ⟨rfl, rfl, _⟩ | ⟨_, h2⟩
    · exact ⟨_, hi, rfl, rfl⟩
    · exact ⟨p, h2, rfl, rfl⟩
  have ok : KvOk K (l.set i (k, y, s)) c := by
    refine ⟨fun p hp => ?_, fun a b p q ha hb he => ?_, fun a b p q ha hb he => ?_, fun p hp => ?_⟩
    · obtain ⟨j, hj⟩ := List.getElem?_of_mem hp
      obtain ⟨q, h1, h2, _⟩ := like hj
      rw [← h2]; exact h.ks q (List.mem_of_getElem? h1)
    · obtain ⟨p', h1, h2, _⟩ := like ha
      obtain ⟨q', h3, h4, _⟩ := like hb
      exact h.inj a b p' q' h1 h3 (by rw [h2, h4, he])
    · obtain ⟨p', h1, _, h2⟩ := like ha
      obtain ⟨q', h3, _, h4⟩ := like hb
      exact h.st a b p' q' h1 h3 (by rw [h2, h4, he])
    · obtain ⟨j, hj⟩ := List.getElem?_of_mem hp
      obtain ⟨q, h1, _, h2⟩ := like hj
      rw [← h2]; exact h.cl q (List.mem_of_getElem? h1)
  refine ⟨ok, fun k' => opt_ext fun v' => ?_⟩
  rw [val_iff ok]
  by_cases hkk : k' = k
  · subst hkk
    rw [if_pos rfl]
    constructor
    · rintro ⟨j, t, hj⟩
      rcases set_get hj with ⟨_, h2, _⟩ | ⟨h1, h2⟩
      · cases h2; rfl
      · exact absurd (h.inj j i _ _ h2 hi rfl) h1
    · rintro h1; cases h1; exact ⟨i, s, by rw [List.getElem?_set_self hil]⟩
  · rw [if_neg hkk, val_iff h]
    constructor
    · rintro ⟨j, t, hj⟩
      rcases set_get hj with ⟨_, h2, _⟩ | ⟨h1, h2⟩
      · cases h2; exact absurd rfl hkk
      · exact ⟨j, t, h2⟩
    · rintro ⟨j, t, hj⟩
      refine ⟨j, t, ?_⟩
      rw [List.getElem?_set_ne]
      · exact hj
      · rintro rfl; rw [hi] at hj; cases hj; exact hkk rfl

open Classical in
theorem KvOk.erase {K : AV → Prop} {l : KvL} {c : Nat} (h : KvOk K l c) {k v : AV} {i s : Nat} (hi : l[i]? = some (k, v, s)) : KvOk K (l.eraseIdx i) c ∧ (∀ k', valKV (l.eraseIdx i) k' = if k' = k then none else valKV l k') := by
  have ok : KvOk K (l.eraseIdx i) c := by
    refine ⟨fun p hp => h.ks p (List.mem_of_mem_eraseIdx hp), fun a b p q ha hb he => ?_, fun a b p q ha hb he => ?_, fun p hp => h.cl p (List.mem_of_mem_eraseIdx hp)⟩
    · rw [erase_get] at ha hb
      split at ha <;> split at hb
      · exact h.inj _ _ _ _ ha hb he
      · have := h.inj _ _ _ _ ha hb he; omega
      · have := h.inj _ _ _ _ ha hb he; omega
      · have := h.inj _ _ _ _ ha hb he; omega
    · rw [erase_get] at ha hb
      split at ha <;> split at hb
      · exact h.st _ _ _ _ ha hb he
      · have := h.st _ _ _ _ ha hb he; omega
      · have := h.st _ _ _ _ ha hb he; omega
      · have := h.st _ _ _ _ ha hb he; omega
  refine ⟨ok, fun k' => opt_ext fun v' => ?_⟩
  rw [val_iff ok]
  by_cases hkk : k' = k
  · subst hkk
    rw [if_pos rfl]
    constructor
    · rintro ⟨j, t, hj⟩
      rw [erase_get] at hj
      split at hj
      · have := h.inj _ _ _ _ hj hi rfl; omega
      · have := h.inj _ _ _ _ hj hi rfl; omega
    · intro h1; cases h1
  · rw [if_neg hkk, val_iff h]
    constructor
    · rintro ⟨j, t, hj⟩
      rw [erase_get] at hj
      split at hj
      · exact ⟨j, t, hj⟩
      · exact ⟨j + 1, t, hj⟩
    · rintro ⟨j, t, hj⟩
      have hne : j ≠ i := by rintro rfl; rw [hi] at hj; cases hj; exact hkk rfl
      by_cases hji : j < i
      · exact ⟨j, t, by rw [erase_get, if_pos hji]; exact hj⟩
      · exact ⟨j - 1, t, by rw [erase_get, if_neg (by omega), show j - 1 + 1 = j by omega]; exact hj⟩

open Classical in
theorem put_ok {K : AV → Prop} {l : KvL} {c : Nat} (h : KvOk K l c) {k : AV} (hk : K k) (y : AV) : ∃ l' c', putKV l c k y = .kv l' c' ∧ KvOk K l' c' ∧ ∀ k', valKV l' k' = if k' = k then some y else valKV l k' := by
  unfold putKV
  cases hl : lookKV l k with
  | none => exact ⟨_, _, rfl, h.push hk hl⟩
  | some q => obtain ⟨i, v, s⟩ := q; exact ⟨_, _, rfl, h.set (lookKV_get hl)⟩

open Classical in
theorem del_ok {K : AV → Prop} {l : KvL} {c : Nat} (h : KvOk K l c) (k : AV) : ∃ l', delKV l c k = .kv l' c ∧ KvOk K l' c ∧ ∀ k', valKV l' k' = if k' = k then none else valKV l k' := by
  unfold delKV
  cases hl : lookKV l k with
  | none =>
    refine ⟨_, rfl, h, fun k' => ?_⟩
    by_cases hkk : k' = k
    · subst hkk; rw [if_pos rfl]; exact val_none.2 hl
    · rw [if_neg hkk]
  | some q => obtain ⟨i, v, s⟩ := q; exact ⟨_, rfl, h.erase (lookKV_get hl)⟩

theorem sto_at {K : AV → Prop} {l : KvL} {c : Nat} (h : KvOk K l c) {k v : AV} {i s : Nat} (hi : l[i]? = some (k, v, s)) (y : AV) (c' : Nat) : stoKV l c' (s : Int) y = some (.kv (l.set i (k, y, s)) c') := by
  have hil := (List.getElem?_eq_some_iff.1 hi).1
  have hf : l.findIdx? (fun p => (p.2.2 : Int) == (s : Int)) = some i := by
    rw [List.findIdx?_eq_some_iff_getElem]
    refine ⟨hil, ?_, fun j hj => ?_⟩
    · have := (List.getElem?_eq_some_iff.1 hi).2
      rw [this]; simp
    · intro hb
      have hjl : j < l.length := by omega
      have he : l[j].2.2 = s := by
        have : ((l[j].2.2 : Nat) : Int) = (s : Int) := by simpa using hb
        omega
      have := h.st j i _ _ (List.getElem?_eq_getElem hjl) hi he
      omega
  unfold stoKV
  rw [hf]
  simp only [Option.some.injEq, MapA.kv.injEq, and_true]
  apply List.ext_getElem?
  intro j
  rw [List.getElem?_modify, List.getElem?_set]
  by_cases hj : i = j
  · subst hj
    rw [if_pos rfl, if_pos hil, hi]
    simp
  · rw [if_neg hj]
    cases l[j]? <;> simp [hj]

open Classical in
/-- The entry of a key, laid if there is none, and written. -/
theorem ent_ok {K : AV → Prop} {l : KvL} {c : Nat} (h : KvOk K l c) {k : AV} (hk : K k) (z y : AV) : ∃ (l1 : KvL) (c1 : Nat) (v : AV) (s : Nat) (l2 : KvL), entKV l c k z = .kv l1 c1 ∧ Go.Pa.entA l c k z = .tup [v, .int .i64 s] ∧ stoKV l1 c1 s y = some (.kv l2 c1) ∧
    KvOk K l2 c1 ∧ (∀ p ∈ l1, K p.1) ∧ (∀ k', valKV l2 k' = if k' = k then some y else valKV l k') ∧ ∀ k', (valKV l1 k').getD z = (valKV l k').getD z := by
  unfold entKV Go.Pa.entA
  cases hl : lookKV l k with
  | none =>
    obtain ⟨h1, h2⟩ := h.push (y := z) hk hl
    have hi : (l ++ [(k, z, c)])[l.length]? = some (k, z, c) := by simp
    obtain ⟨h3, h4⟩ := h1.set (y := y) hi
    refine ⟨_, _, _, _, _, rfl, rfl, sto_at h1 hi y _, h3, h1.ks, fun k' => ?_, fun k' => ?_⟩
    · rw [h4 k', h2 k']
      by_cases hkk : k' = k
      · rw [if_pos hkk, if_pos hkk]
      · rw [if_neg hkk, if_neg hkk, if_neg hkk]
    · rw [h2 k']
      by_cases hkk : k' = k
      · rw [if_pos hkk, hkk, val_none.2 hl]; rfl
      · rw [if_neg hkk]
  | some q =>
    obtain ⟨i, v, s⟩ := q
    have hi := lookKV_get hl
    obtain ⟨h3, h4⟩ := h.set (y := y) hi
    exact ⟨_, _, _, _, _, rfl, rfl, sto_at h hi y _, h3, h.ks, h4, fun _ => rfl⟩

theorem kv_empty {K : AV → Prop} {l : KvL} {c : Nat} (h : KvOk K l c) : 0 < l.length ↔ ∃ k, K k ∧ valKV l k ≠ none := by
  constructor
  · intro hl
    have hm := List.getElem?_eq_getElem hl
    refine ⟨l[0].1, h.ks _ (List.getElem_mem hl), ?_⟩
    rw [(val_iff h l[0].1 l[0].2.1).2 ⟨0, l[0].2.2, hm⟩]
    simp
  · rintro ⟨k, _, hk⟩
    cases hv : valKV l k with
    | none => exact absurd hv hk
    | some v =>
      obtain ⟨i, s, hi⟩ := (val_iff h k v).1 hv
      have := (List.getElem?_eq_some_iff.1 hi).1
      omega

theorem kv_pos {K : AV → Prop} {l : KvL} {c : Nat} (h : KvOk K l c) {k : AV} (hk : valKV l k ≠ none) : 0 < l.length := by
  cases hv : valKV l k with
  | none => exact absurd hv hk
  | some v =>
    obtain ⟨i, s, hi⟩ := (val_iff h k v).1 hv
    have := (List.getElem?_eq_some_iff.1 hi).1
    omega

end Go.Proofs
