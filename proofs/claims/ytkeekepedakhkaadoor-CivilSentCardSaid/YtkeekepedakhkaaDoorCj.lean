/-
  Texts of dates: plain laws.
-/
import Derived.Test.YtkeekepedakhkaaDoorCa
namespace Go.Proofs
open Go.Pa
set_option linter.unusedSimpArgs false
set_option maxRecDepth 20000
set_option maxHeartbeats 2000000

/-- The last digits of a number. -/
def tailD (n : Int) : Nat → List Int
  | 0 => []
  | i + 1 => (48 + n / 10 ^ i % 10) :: tailD n i

theorem tailD2 (n : Int) : tailD n 2 = [48 + n / 10 % 10, 48 + n % 10] := by simp [tailD]
theorem tailD4 (n : Int) : tailD n 4 = [48 + n / 1000 % 10, 48 + n / 100 % 10, 48 + n / 10 % 10, 48 + n % 10] := by simp [tailD]

theorem tailD_len (n : Int) : ∀ k, (tailD n k).length = k
  | 0 => rfl
  | k + 1 => by simp [tailD, tailD_len n k]

theorem tailD_u8 (n : Int) : ∀ k, U8s (tailD n k)
  | 0 => fun x hx => by simp [tailD] at hx
  | k + 1 => fun x hx => by
    simp only [tailD, List.mem_cons] at hx
    rcases hx with rfl | hx
    · omega
    · exact tailD_u8 n k x hx

theorem less2 {a b : Int} (ha : 0 ≤ a) (ha' : a < 100) (hb : 0 ≤ b) (hb' : b < 100) (u v : List Int) : lessI (tailD a 2 ++ u) (tailD b 2 ++ v) = (decide (a < b) || (decide (a = b) && lessI u v)) := by
  rw [tailD2, tailD2]
  simp only [List.cons_append, List.nil_append, lessI]
  generalize lessI u v = L
  rw [Bool.eq_iff_iff]
  cases L <;> simp only [Bool.or_eq_true, Bool.and_eq_true, decide_eq_true_eq, Bool.and_false, Bool.and_true, Bool.or_false, Bool.false_eq_true, or_false, and_false, and_true] <;> omega

theorem dig4 {n : Int} (h : 0 ≤ n) (h' : n < 10000) : ∃ d3 d2 d1 d0 : Int, tailD n 4 = [48 + d3, 48 + d2, 48 + d1, 48 + d0] ∧ n = 1000 * d3 + 100 * d2 + 10 * d1 + d0 ∧ (0 ≤ d3 ∧ d3 ≤ 9) ∧ (0 ≤ d2 ∧ d2 ≤ 9) ∧ (0 ≤ d1 ∧ d1 ≤ 9) ∧ (0 ≤ d0 ∧ d0 ≤ 9) := by
  refine ⟨n / 1000, n / 100 % 10, n / 10 % 10, n % 10, ?_, by omega, by omega, by omega, by omega, by omega⟩
  rw [tailD4, show n / 1000 % 10 = n / 1000 by omega]

theorem lex {P x y r s : Int} (hP : P = 10 ∨ P = 100 ∨ P = 1000) (hr : 0 ≤ r ∧ r < P) (hs : 0 ≤ s ∧ s < P) (L : Bool) :
    (decide (48 + x < 48 + y) || (decide (48 + x = 48 + y) && (decide (r < s) || (decide (r = s) && L)))) = (decide (P * x + r < P * y + s) || (decide (P * x + r = P * y + s) && L)) := by
  rcases Int.lt_trichotomy x y with h | h | h
  · have q1 : decide (48 + x < 48 + y) = true := decide_eq_true (by omega)
    have q2 : decide (P * x + r < P * y + s) = true := decide_eq_true (by rcases hP with rfl | rfl | rfl <;> omega)
    rw [q1, q2, Bool.true_or, Bool.true_or]
  · subst h
    have q1 : decide (48 + x < 48 + x) = false := decide_eq_false (by omega)
    have q2 : decide (48 + x = 48 + x) = true := decide_eq_true rfl
    have q3 : decide (P * x + r < P * x + s) = decide (r < s) := decide_eq_decide.2 (by omega)
    have q4 : decide (P * x + r = P * x + s) = decide (r = s) := decide_eq_decide.2 (by omega)
    rw [q1, q2, q3, q4, Bool.false_or, Bool.true_and]
  · have q1 : decide (48 + x < 48 + y) = false := decide_eq_false (by omega)
    have q2 : decide (48 + x = 48 + y) = false := decide_eq_false (by omega)
    have q3 : decide (P * x + r < P * y + s) = false := decide_eq_false (by rcases hP with rfl | rfl | rfl <;> omega)
    have q4 : decide (P * x + r = P * y + s) = false := decide_eq_false (by rcases hP with rfl | rfl | rfl <;> omega)
    rw [q1, q2, q3, q4, Bool.false_or, Bool.false_and, Bool.false_or, Bool.false_and]

theorem less4 {a b : Int} (ha : 0 ≤ a) (ha' : a < 10000) (hb : 0 ≤ b) (hb' : b < 10000) (u v : List Int) : lessI (tailD a 4 ++ u) (tailD b 4 ++ v) = (decide (a < b) || (decide (a = b) && lessI u v)) := by
  obtain ⟨a3, a2, a1, a0, e1, e2, b3, b2, b1, b0⟩ := dig4 ha ha'
  obtain ⟨c3, c2, c1, c0, f1, f2, g3, g2, g1, g0⟩ := dig4 hb hb'
  rw [e1, f1]
  clear e1 f1
  simp only [List.cons_append, List.nil_append, lessI]
  generalize lessI u v = L
  have k0 : decide (48 + a0 < 48 + c0) = decide (a0 < c0) := decide_eq_decide.2 (by omega)
  have k1 : decide (48 + a0 = 48 + c0) = decide (a0 = c0) := decide_eq_decide.2 (by omega)
  rw [k0, k1, lex (P := 10) (x := a1) (y := c1) (r := a0) (s := c0) (.inl rfl) (by omega) (by omega) L, lex (P := 100) (x := a2) (y := c2) (r := 10 * a1 + a0) (s := 10 * c1 + c0) (.inr (.inl rfl)) (by omega) (by omega) L, lex (P := 1000) (x := a3) (y := c3) (r := 100 * a2 + (10 * a1 + a0)) (s := 100 * c2 + (10 * c1 + c0)) (.inr (.inr rfl)) (by omega) (by omega) L]
  have m0 : a = 1000 * a3 + (100 * a2 + (10 * a1 + a0)) := by omega
  have m1 : b = 1000 * c3 + (100 * c2 + (10 * c1 + c0)) := by omega
  rw [m0, m1]

theorem less1 (c : Int) (u v : List Int) : lessI (c :: u) (c :: v) = lessI u v := by simp [lessI]

/-- The text of a date. -/
def txtI (x : Dt) : List Int := tailD x.y 4 ++ 45 :: (tailD x.m 2 ++ 45 :: (tailD x.d 2 ++ []))

theorem txt_less {x y : Dt} (hx : VDt x) (hx' : x.y ≤ 9999) (hy : VDt y) (hy' : y.y ≤ 9999) : lessI (txtI x) (txtI y) = decide (numD x < numD y) := by
  have hl := len_bounds x.y x.m
  have hl' := len_bounds y.y y.m
  have hn := num_lt_iff hx.1 hy.1 hx.2 hy.2
  obtain ⟨⟨h1, h2, h3, h4⟩, h5⟩ := hx
  obtain ⟨⟨g1, g2, g3, g4⟩, g5⟩ := hy
  unfold txtI
  rw [less4 (by omega) (by omega) (by omega) (by omega), less1, less2 (by omega) (by omega) (by omega) (by omega), less1, less2 (by omega) (by omega) (by omega) (by omega)]
  have e : lessI ([] : List Int) [] = false := rfl
  rw [e, Bool.eq_iff_iff, decide_eq_true_eq]
  show _ ↔ numI x.y x.m x.d < numI y.y y.m y.d
  rw [hn]
  unfold dlt
  simp only [Bool.or_eq_true, Bool.and_eq_true, decide_eq_true_eq, Bool.and_false, Bool.or_false]

/-- The date of the next day. -/
def nextD (x : Dt) : Dt := if x.d = lenI x.y x.m then ⟨x.y + x.m / 12, x.m % 12 + 1, 1⟩ else ⟨x.y, x.m, x.d + 1⟩

theorem next_num {x : Dt} (h : VDt x) : VDt (nextD x) ∧ numD (nextD x) = numD x + 1 := by
  obtain ⟨⟨h1, h2, h3, h4⟩, h5⟩ := h
  unfold nextD
  by_cases hd : x.d = lenI x.y x.m
  · rw [if_pos hd]
    by_cases hm : x.m = 12
    · have e1 : x.y + x.m / 12 = x.y + 1 := by omega
      have e2 : x.m % 12 + 1 = 1 := by omega
      rw [e1, e2]
      have hl := len_bounds (x.y + 1) 1
      refine ⟨⟨⟨by simp, by simp, by simp, by simp only; omega⟩, by simp only; omega⟩, ?_⟩
      have hc := cum12 x.y
      have hs : cumI x.y 12 = cumI x.y 11 + lenI x.y (((11 : Nat) : Int) + 1) := cum_step x.y 11
      have hb := bef_step h5
      have h0 : cumI (x.y + 1) 0 = 0 := rfl
      have e3 : ((11 : Nat) : Int) + 1 = 12 := by omega
      rw [e3] at hs
      simp only [numD, numI, hm, show (1 : Int).toNat - 1 = 0 from rfl, show (12 : Int).toNat - 1 = 11 from rfl, h0]
      rw [hm] at hd
      omega
    · have e1 : x.y + x.m / 12 = x.y := by omega
      have e2 : x.m % 12 + 1 = x.m + 1 := by omega
      rw [e1, e2]
      have hl := len_bounds x.y (x.m + 1)
      refine ⟨⟨⟨by simp only; omega, by simp only; omega, by simp, by simp only; omega⟩, h5⟩, ?_⟩
      obtain ⟨k, hk⟩ : ∃ k : Nat, x.m = (k : Int) + 1 := ⟨(x.m - 1).toNat, by omega⟩
      have hs := cum_step x.y k
      rw [← hk] at hs
      have e3 : (x.m + 1).toNat - 1 = k + 1 := by omega
      have e4 : x.m.toNat - 1 = k := by omega
      simp only [numD, numI, e3, e4]
      omega
  · rw [if_neg hd]
    refine ⟨⟨⟨h1, h2, by simp only; omega, by simp only; omega⟩, h5⟩, ?_⟩
    simp only [numD, numI]
    omega

theorem date_next {n : Int} (h0 : 0 ≤ n) : dateI (n + 1) = nextD (dateI n) := by
  obtain ⟨hv, hn⟩ := dateI_spec h0
  obtain ⟨h1, h2⟩ := next_num hv
  exact dateI_of h1 (by omega)

end Go.Proofs
