/-
  The ledger: whether entries are sound; plain laws.
-/
import Derived.Test.YtdioiegkpkjmkaaJh
namespace Go.Proofs
open Go.Pa
set_option linter.unusedSimpArgs false
set_option linter.unusedVariables false
set_option maxRecDepth 20000
set_option maxHeartbeats 2000000

/-- A valid entry. -/
structure Val (e : Ent) : Prop where
  day : 0 ≤ e.day ∧ e.day ≤ 131072
  fr : 0 ≤ e.fr ∧ e.fr ≤ 1048576
  to : 0 ≤ e.to ∧ e.to ≤ 1048576
  ne : e.fr ≠ e.to
  cur : 0 ≤ e.cur ∧ e.cur ≤ 7
  amt : 1 ≤ e.amt ∧ e.amt ≤ 1099511627776
  note : 0 ≤ e.note ∧ e.note ≤ 1099511627776

theorem Val.dayOk {e : Ent} (h : Val e) : Day e := by have := h.day; unfold Day; omega

/-- What an entry brings to an account in a currency. -/
def net (e : Ent) (a c : Int) : Int := if e.cur = c then (if e.to = a then e.amt else 0) - (if e.fr = a then e.amt else 0) else 0
def balP : List Ent → Int → Int → Int
  | [], _, _ => 0
  | e :: l, a, c => net e a c + balP l a c
/-- What an account has at the end of a day. -/
def bal (l : List Ent) (a c d : Int) : Int := balP (l.filter fun e => decide (e.day ≤ d)) a c

theorem balP_append (l m : List Ent) (a c : Int) : balP (l ++ m) a c = balP l a c + balP m a c := by
  induction l with
  | nil => simp [balP]
  | cons e l ih => simp only [List.cons_append, balP, ih]; omega

theorem balP_perm {l m : List Ent} (h : l.Perm m) (a c : Int) : balP l a c = balP m a c := by
  induction h with
  | nil => rfl
  | cons x _ ih => simp only [balP, ih]
  | swap x y l => simp only [balP]; omega
  | trans _ _ h1 h2 => exact h1.trans h2

theorem bal_perm {l m : List Ent} (h : l.Perm m) (a c d : Int) : bal l a c d = bal m a c d := balP_perm (h.filter _) a c

theorem net_bound {e : Ent} (h : Val e) (a c : Int) : -1099511627776 ≤ net e a c ∧ net e a c ≤ 1099511627776 := by
  have := h.amt
  unfold net
  split <;> (try split) <;> (try split) <;> omega

theorem balP_bound {l : List Ent} (h : ∀ e ∈ l, Val e) (a c : Int) : -(1099511627776 * (l.length : Int)) ≤ balP l a c ∧ balP l a c ≤ 1099511627776 * (l.length : Int) := by
  induction l with
  | nil => simp [balP]
  | cons e l ih =>
    have h1 := ih fun x hx => h x (List.mem_cons_of_mem _ hx)
    have h2 := net_bound (h e (List.mem_cons_self ..)) a c
    simp only [balP, List.length_cons]
    omega

/-- No account but the outside ever has less than nothing. -/
def Snd (l : List Ent) : Prop := ∀ a c d, a ≠ 0 → 0 ≤ bal l a c d
open Classical in
noncomputable def sndB (l : List Ent) : Bool := decide (Snd l)

open Classical in
theorem sndB_t {l : List Ent} (h : Snd l) : sndB l = true := by unfold sndB; exact decide_eq_true h
open Classical in
theorem sndB_f {l : List Ent} (h : ¬ Snd l) : sndB l = false := by unfold sndB; exact decide_eq_false h

/-- The i-th entry is the last of its day. -/
def Eod (S : List Ent) (i : Nat) : Prop := i < S.length ∧ (i + 1 = S.length ∨ (S.getD i default).day < (S.getD (i + 1) default).day)

theorem srt_take {S : List Ent} (h : Srt S) {i : Nat} (hi : Eod S i) : S.filter (fun e => decide (e.day ≤ (S.getD i default).day)) = S.take (i + 1) := by
  obtain ⟨h1, h2⟩ := hi
  conv => lhs; arg 2; rw [← List.take_append_drop (i + 1) S]
  rw [List.filter_append]
  have e1 : (S.take (i + 1)).filter (fun e => decide (e.day ≤ (S.getD i default).day)) = S.take (i + 1) := by
    rw [List.filter_eq_self]
    intro e he
    obtain ⟨j, hj, rfl⟩ := List.getElem_of_mem he
    rw [List.length_take] at hj
    rw [List.getElem_take]
    have := srt_le h h1 (i := j) (by omega)
    rw [getD_get (by omega : j < S.length)] at this
    exact decide_eq_true this
  have e2 : (S.drop (i + 1)).filter (fun e => decide (e.day ≤ (S.getD i default).day)) = [] := by
    rw [List.filter_eq_nil_iff]
    intro e he
    obtain ⟨j, hj, rfl⟩ := List.getElem_of_mem he
    rw [List.length_drop] at hj
    rw [List.getElem_drop]
    rcases h2 with h2 | h2
    · omega
    · have := srt_le h (i := i + 1) (j := i + 1 + j) (by omega) (by omega)
      rw [getD_get (by omega : i + 1 + j < S.length)] at this
      simp only [decide_eq_true_eq, Int.not_le]
      omega
  rw [e1, e2, List.append_nil]

/-- What lies on a day or before it ends with the end of a day. -/
theorem srt_day {S : List Ent} (h : Srt S) (d : Int) : S.filter (fun e => decide (e.day ≤ d)) = [] ∨ ∃ i, Eod S i ∧ S.filter (fun e => decide (e.day ≤ d)) = S.take (i + 1) := by
  have key : ∀ k, k ≤ S.length → (∀ j, j < k → (S.getD j default).day ≤ d) → (k = S.length ∨ d < (S.getD k default).day) → S.filter (fun e => decide (e.day ≤ d)) = S.take k := by
    intro k hk h1 h2
    conv => lhs; arg 2; rw [← List.take_append_drop k S]
    rw [List.filter_append]
    have e1 : (S.take k).filter (fun e => decide (e.day ≤ d)) = S.take k := by
      rw [List.filter_eq_self]
      intro e he
      obtain ⟨j, hj, rfl⟩ := List.getElem_of_mem he
      rw [List.length_take] at hj
      rw [List.getElem_take]
      have := h1 j (by omega)
      rw [getD_get (by omega : j < S.length)] at this
      exact decide_eq_true this
    have e2 : (S.drop k).filter (fun e => decide (e.day ≤ d)) = [] := by
      rw [List.filter_eq_nil_iff]
      intro e he
      obtain ⟨j, hj, rfl⟩ := List.getElem_of_mem he
      rw [List.length_drop] at hj
      rw [List.getElem_drop]
      rcases h2 with h2 | h2
      · omega
      · have := srt_le h (i := k) (j := k + j) (by omega) (by omega)
        rw [getD_get (by omega : k + j < S.length)] at this
        simp only [decide_eq_true_eq, Int.not_le]
        omega
    rw [e1, e2, List.append_nil]
  have find : ∀ n, n ≤ S.length → (∀ j, j < n → (S.getD j default).day ≤ d) ∨ ∃ k, k < n ∧ (∀ j, j < k → (S.getD j default).day ≤ d) ∧ d < (S.getD k default).day := by
    intro n
    induction n with
    | zero => intro _; exact .inl fun j hj => by omega
    | succ n ih =>
      intro hn
      rcases ih (by omega) with h1 | ⟨k, h1, h2, h3⟩
      · by_cases h2 : (S.getD n default).day ≤ d
        · refine .inl fun j hj => ?_
          by_cases hjn : j = n
          · subst hjn; exact h2
          · exact h1 j (by omega)
        · exact .inr ⟨n, by omega, h1, by omega⟩
      · exact .inr ⟨k, by omega, h2, h3⟩
  have fin : ∀ k, k ≤ S.length → (∀ j, j < k → (S.getD j default).day ≤ d) → (k = S.length ∨ d < (S.getD k default).day) → S.filter (fun e => decide (e.day ≤ d)) = [] ∨ ∃ i, Eod S i ∧ S.filter (fun e => decide (e.day ≤ d)) = S.take (i + 1) := by
    intro k hk h1 h2
    have h3 := key k hk h1 h2
    cases k with
    | zero => exact .inl (by rw [h3]; rfl)
    | succ i =>
      refine .inr ⟨i, ⟨by omega, ?_⟩, h3⟩
      rcases h2 with h2 | h2
      · exact .inl h2
      · have := h1 i (by omega); exact .inr (by omega)
  rcases find S.length (Nat.le_refl _) with h1 | ⟨k, h1, h2, h3⟩
  · exact fin _ (Nat.le_refl _) h1 (.inl rfl)
  · exact fin k (by omega) h2 (.inr h3)

theorem snd_iff {L S : List Ent} (hp : S.Perm L) (hS : Srt S) : Snd L ↔ ∀ i, Eod S i → ∀ a c, a ≠ 0 → 0 ≤ balP (S.take (i + 1)) a c := by
  constructor
  · intro h i hi a c ha
    have := h a c (S.getD i default).day ha
    rw [← bal_perm hp, bal, srt_take hS hi] at this
    exact this
  · intro h a c d ha
    rw [← bal_perm hp, bal]
    rcases srt_day hS d with h1 | ⟨i, h1, h2⟩
    · rw [h1]; exact Int.le_refl _
    · rw [h2]; exact h i h1 a c ha

end Go.Proofs
