/-
  Days: the plain laws.
-/
import Derived.Test.YtkeekepedakhkaaDoorAbsAll
namespace Go.Proofs
open Go.Pa
set_option linter.unusedVariables false

def lpI (y : Int) : Int := if y % 4 = 0 ∧ (y % 100 ≠ 0 ∨ y % 400 = 0) then 1 else 0
def lenI (y m : Int) : Int := if m = 2 then 28 + lpI y else if m = 4 ∨ m = 6 ∨ m = 9 ∨ m = 11 then 30 else 31
def befI (y : Int) : Int := 365 * (y - 1) + (y - 1) / 4 - (y - 1) / 100 + (y - 1) / 400
/-- The days of the first months. -/
def cumI (y : Int) : Nat → Int
  | 0 => 0
  | k + 1 => cumI y k + lenI y ((k : Int) + 1)
def numI (y m d : Int) : Int := befI y - 693595 + d - 1 + cumI y (m.toNat - 1)
structure VD (y m d : Int) : Prop where
  m1 : 1 ≤ m
  m2 : m ≤ 12
  d1 : 1 ≤ d
  d2 : d ≤ lenI y m

theorem lp_cases (y : Int) : (lpI y = 1 ∧ y % 4 = 0 ∧ (y % 100 ≠ 0 ∨ y % 400 = 0)) ∨ (lpI y = 0 ∧ (y % 4 ≠ 0 ∨ (y % 100 = 0 ∧ y % 400 ≠ 0))) := by
  unfold lpI
  split
  · rename_i h; exact .inl ⟨rfl, h⟩
  · rename_i h; exact .inr ⟨rfl, by omega⟩

theorem bef_step {y : Int} (h : 1 ≤ y) : befI (y + 1) = befI y + 365 + lpI y := by
  unfold befI
  rcases lp_cases y with ⟨h1, h2, h3⟩ | ⟨h1, h2⟩ <;> rw [h1] <;> omega

theorem bef_mono {a b : Int} (ha : 1 ≤ a) (h : a ≤ b) : befI a ≤ befI b := by
  unfold befI; omega

theorem bef_lt {a b : Int} (ha : 1 ≤ a) (h : a < b) : befI a + 365 + lpI a ≤ befI b := by
  rw [← bef_step ha]
  exact bef_mono (by omega) (by omega)

theorem bef1900 : befI 1900 = 693595 := by decide

theorem cum_vals (y : Int) : cumI y 0 = 0 ∧ cumI y 1 = 31 ∧ cumI y 2 = 59 + lpI y ∧ cumI y 3 = 90 + lpI y ∧ cumI y 4 = 120 + lpI y ∧ cumI y 5 = 151 + lpI y ∧ cumI y 6 = 181 + lpI y ∧ cumI y 7 = 212 + lpI y ∧
    cumI y 8 = 243 + lpI y ∧ cumI y 9 = 273 + lpI y ∧ cumI y 10 = 304 + lpI y ∧ cumI y 11 = 334 + lpI y ∧ cumI y 12 = 365 + lpI y := by
  simp [cumI, lenI]
  omega

theorem month_cases {m : Int} (h1 : 1 ≤ m) (h2 : m ≤ 12) : m = 1 ∨ m = 2 ∨ m = 3 ∨ m = 4 ∨ m = 5 ∨ m = 6 ∨ m = 7 ∨ m = 8 ∨ m = 9 ∨ m = 10 ∨ m = 11 ∨ m = 12 := by omega

theorem len_bounds (y m : Int) : 28 ≤ lenI y m ∧ lenI y m ≤ 31 := by
  unfold lenI
  rcases lp_cases y with ⟨h1, _⟩ | ⟨h1, _⟩ <;> rw [h1] <;> (repeat' split) <;> omega

theorem cum_step (y : Int) (k : Nat) : cumI y (k + 1) = cumI y k + lenI y ((k : Int) + 1) := rfl

theorem cum_mono (y : Int) {a b : Nat} (h : a ≤ b) : cumI y a ≤ cumI y b := by
  induction b with
  | zero => have : a = 0 := by omega
            subst this; omega
  | succ b ih =>
    rcases Nat.lt_or_ge a (b + 1) with h1 | h1
    · have h2 := ih (by omega)
      have h3 := (len_bounds y ((b : Int) + 1)).1
      rw [cum_step]; omega
    · have : a = b + 1 := by omega
      subst this; omega

theorem cum12 (y : Int) : cumI y 12 = 365 + lpI y := (cum_vals y).2.2.2.2.2.2.2.2.2.2.2.2

/-- Within the year. -/
theorem num_year {y m d : Int} (h : VD y m d) : 1 ≤ cumI y (m.toNat - 1) + d ∧ cumI y (m.toNat - 1) + d ≤ 365 + lpI y := by
  obtain ⟨h1, h2, h3, h4⟩ := h
  have h5 := cum_mono y (show 0 ≤ m.toNat - 1 by omega)
  have h6 := cum_mono y (show m.toNat - 1 + 1 ≤ 12 by omega)
  have h7 := cum_step y (m.toNat - 1)
  have h8 : ((m.toNat - 1 : Nat) : Int) + 1 = m := by omega
  rw [h8] at h7
  have h9 : cumI y 0 = 0 := rfl
  have := cum12 y
  omega

theorem num_lt_year {y m d y' m' d' : Int} (h : VD y m d) (h' : VD y' m' d') (hy : 1 ≤ y) (hlt : y < y') : numI y m d < numI y' m' d' := by
  have h1 := num_year h
  have h2 := num_year h'
  have h3 := bef_lt hy hlt
  unfold numI; omega

theorem num_lt_month {y m d m' d' : Int} (h : VD y m d) (h' : VD y m' d') (hlt : m < m') : numI y m d < numI y m' d' := by
  obtain ⟨h1, h2, h3, h4⟩ := h
  obtain ⟨g1, g2, g3, g4⟩ := h'
  have h6 := cum_mono y (show m.toNat - 1 + 1 ≤ m'.toNat - 1 by omega)
  have h7 := cum_step y (m.toNat - 1)
  have h8 : ((m.toNat - 1 : Nat) : Int) + 1 = m := by omega
  rw [h8] at h7
  unfold numI; omega

/-- The order of dates. -/
def dlt (y m d y' m' d' : Int) : Prop := y < y' ∨ (y = y' ∧ (m < m' ∨ (m = m' ∧ d < d')))

theorem num_lt {y m d y' m' d' : Int} (h : VD y m d) (h' : VD y' m' d') (hy : 1 ≤ y) (hlt : dlt y m d y' m' d') : numI y m d < numI y' m' d' := by
  rcases hlt with h1 | ⟨rfl, h1 | ⟨rfl, h1⟩⟩
  · exact num_lt_year h h' hy h1
  · exact num_lt_month h h' h1
  · unfold numI; omega

theorem num_inj {y m d y' m' d' : Int} (h : VD y m d) (h' : VD y' m' d') (hy : 1 ≤ y) (hy' : 1 ≤ y') (he : numI y m d = numI y' m' d') : y = y' ∧ m = m' ∧ d = d' := by
  have h1 : ¬ dlt y m d y' m' d' := fun q => by have := num_lt h h' hy q; omega
  have h2 : ¬ dlt y' m' d' y m d := fun q => by have := num_lt h' h hy' q; omega
  unfold dlt at h1 h2
  omega

theorem num_lt_iff {y m d y' m' d' : Int} (h : VD y m d) (h' : VD y' m' d') (hy : 1 ≤ y) (hy' : 1 ≤ y') : numI y m d < numI y' m' d' ↔ dlt y m d y' m' d' := by
  constructor
  · intro hlt
    have h2 : ¬ dlt y' m' d' y m d := fun q => by have := num_lt h' h hy' q; omega
    by_cases h1 : dlt y m d y' m' d'
    · exact h1
    · exfalso
      have : y = y' ∧ m = m' ∧ d = d' := by unfold dlt at h1 h2; omega
      obtain ⟨rfl, rfl, rfl⟩ := this
      omega
  · exact num_lt h h' hy

/-- The year of a day. -/
theorem num_bounds {y m d : Int} (h : VD y m d) : befI y - 693595 ≤ numI y m d ∧ numI y m d < befI y - 693595 + 365 + lpI y := by
  have := num_year h
  unfold numI; omega

theorem year_of {y m d : Int} (h : VD y m d) (hy : 1 ≤ y) (hn : 0 ≤ numI y m d) (hn' : numI y m d ≤ 131072) : 1900 ≤ y ∧ y ≤ 2258 := by
  have hb := num_bounds h
  have e1 : befI 1900 = 693595 := bef1900
  have e2 : befI 2259 - 693595 > 131072 := by decide
  constructor
  · rcases Int.lt_or_le y 1900 with h1 | h1
    · have := bef_lt hy h1; omega
    · exact h1
  · rcases Int.lt_or_le 2258 y with h1 | h1
    · have := bef_mono (show (1 : Int) ≤ 2259 by omega) (show 2259 ≤ y by omega); omega
    · exact h1

/-- The month in which a day of a year lies. -/
theorem month_ex (y r : Int) (h0 : 0 ≤ r) (h1 : r < 365 + lpI y) : ∃ k : Nat, k < 12 ∧ cumI y k ≤ r ∧ r < cumI y (k + 1) := by
  have key : ∀ n : Nat, r < cumI y n → ∃ k : Nat, k < n ∧ cumI y k ≤ r ∧ r < cumI y (k + 1) := by
    intro n
    induction n with
    | zero => intro h; have : cumI y 0 = 0 := rfl; omega
    | succ n ih =>
      intro h
      rcases Int.lt_or_le r (cumI y n) with h2 | h2
      · obtain ⟨k, q1, q2, q3⟩ := ih h2; exact ⟨k, by omega, q2, q3⟩
      · exact ⟨n, by omega, h2, h⟩
  exact key 12 (by rw [cum12]; omega)

theorem bef400 {y : Int} (h : 1 ≤ y) : befI (y + 400) = befI y + 146097 := by
  unfold befI; omega
theorem lp400 (y : Int) : lpI (y + 400) = lpI y := by
  rcases lp_cases y with ⟨h1, h2, h3⟩ | ⟨h1, h2⟩ <;> rcases lp_cases (y + 400) with ⟨g1, g2, g3⟩ | ⟨g1, g2⟩ <;> omega

structure Dt where
  y : Int
  m : Int
  d : Int

def Dt.cs (x : Dt) : List AV := [.int .i64 x.y, .int .i64 x.m, .int .i64 x.d]
def Dt.av (x : Dt) : AV := .agg x.cs
theorem Dt.eq_iff (a b : Dt) : (a.y = b.y ∧ a.m = b.m ∧ a.d = b.d) ↔ a = b := by cases a; cases b; simp
instance : DecidableEq Dt := fun a b => decidable_of_iff _ (Dt.eq_iff a b)

def numD (x : Dt) : Int := numI x.y x.m x.d
def VDt (x : Dt) : Prop := VD x.y x.m x.d ∧ 1 ≤ x.y

open Classical in
/-- The date of a day. -/
noncomputable def dateI (n : Int) : Dt := if h : ∃ x : Dt, VDt x ∧ numD x = n then Classical.choose h else ⟨0, 0, 0⟩

theorem dateI_num {x : Dt} (h : VDt x) : dateI (numD x) = x := by
  have hex : ∃ z : Dt, VDt z ∧ numD z = numD x := ⟨x, h, rfl⟩
  have hs := Classical.choose_spec hex
  unfold dateI
  rw [dif_pos hex]
  obtain ⟨e1, e2, e3⟩ := num_inj hs.1.1 h.1 hs.1.2 h.2 hs.2
  exact (Dt.eq_iff _ _).1 ⟨e1, e2, e3⟩

theorem dateI_of {n : Int} {x : Dt} (h : VDt x) (hn : numD x = n) : dateI n = x := by rw [← hn]; exact dateI_num h

theorem date_ex {n : Int} (h0 : 0 ≤ n) : ∃ x : Dt, VDt x ∧ numD x = n := by
  -- the year
  have key : ∀ k : Nat, n < befI (1900 + (k : Int)) - 693595 → ∃ y, 1900 ≤ y ∧ befI y - 693595 ≤ n ∧ n < befI (y + 1) - 693595 := by
    intro k
    induction k with
    | zero => intro h; have := bef1900; simp at h; omega
    | succ k ih =>
      intro h
      rcases Int.lt_or_le n (befI (1900 + (k : Int)) - 693595) with h1 | h1
      · exact ih h1
      · exact ⟨1900 + (k : Int), by omega, h1, by have : (1900 : Int) + (k : Int) + 1 = 1900 + ((k + 1 : Nat) : Int) := by omega
                                                  rw [this]; exact h⟩
  obtain ⟨y, hy, h1, h2⟩ := key (n.toNat + 1) (by unfold befI; omega)
  rw [bef_step (by omega)] at h2
  obtain ⟨k, hk, h3, h4⟩ := month_ex y (n - (befI y - 693595)) (by omega) (by omega)
  refine ⟨⟨y, (k : Int) + 1, n - (befI y - 693595) - cumI y k + 1⟩, ⟨⟨by simp only; omega, by simp only; omega, by simp only; omega, ?_⟩, by simp only; omega⟩, ?_⟩
  · have := cum_step y k
    simp only; omega
  · simp only [numD, numI]
    have : ((k : Int) + 1).toNat - 1 = k := by omega
    rw [this]; omega

theorem dateI_spec {n : Int} (h0 : 0 ≤ n) : VDt (dateI n) ∧ numD (dateI n) = n := by
  obtain ⟨x, h1, h2⟩ := date_ex h0
  rw [dateI_of h1 h2]
  exact ⟨h1, h2⟩

theorem dateI_year {n : Int} (h0 : 0 ≤ n) (h1 : n ≤ 131072) : 1900 ≤ (dateI n).y ∧ (dateI n).y ≤ 2258 := by
  obtain ⟨h2, h3⟩ := dateI_spec h0
  have h4 : numI (dateI n).y (dateI n).m (dateI n).d = n := h3
  exact year_of h2.1 h2.2 (by omega) (by omega)

end Go.Proofs
