/-
  What a Reader reads: the plain laws.
-/
import Derived.Test.YteejpckkgepecaaWd
namespace Go.Proofs
open Go.Pa

/-- What a Reader is about to read: bytes, or the error. -/
inductive St where
  | ok (l : List Int)
  | er (e : Int)

def nextT : St → Int × St
  | .ok [] => (0, .er 3)
  | .ok (c :: l) => (c, .ok l)
  | .er e => (0, .er e)

def uintM : Nat → Nat → Nat → List Int → Nat × St
  | 0, _, _, _ => (0, .er 2)
  | _ + 1, _, _, [] => (0, .er 3)
  | f + 1, i, n, c :: l => if (i = 9 ∧ 1 < c) ∨ (0 < i ∧ c = 0) then (0, .er 2) else if c < 128 then (n + c.toNat * 128 ^ i, .ok l) else uintM f (i + 1) (n + (c - 128).toNat * 128 ^ i) l

def uintT : St → Nat × St
  | .ok l => uintM 10 0 0 l
  | .er e => (0, .er e)

def unzig (z : Nat) : Int := if z % 2 = 1 then -((z / 2 : Nat) : Int) - 1 else ((z / 2 : Nat) : Int)

def intT (st : St) : Int × St := (unzig (uintT st).1, (uintT st).2)

def boolT : St → Bool × St
  | .ok [] => (false, .er 3)
  | .ok (c :: l) => if 1 < c then (false, .er 2) else (decide (c = 1), .ok l)
  | .er e => (false, .er e)

def bytesT (st : St) : List Int × St := match uintT st with
  | (n, .ok l) => if l.length < n then ([], .er 3) else (l.take n, .ok (l.drop n))
  | (_, .er e) => ([], .er e)

def manyT : Nat → List Int → St → List Int × St
  | 0, acc, .ok l => (acc, .ok l)
  | k + 1, acc, .ok l => match intT (.ok l) with
    | (x, .ok l') => manyT k (acc ++ [x]) (.ok l')
    | (_, .er e) => ([], .er e)
  | _, _, .er e => ([], .er e)

def intsT (st : St) : List Int × St := match uintT st with
  | (n, .ok l) => if l.length < n then ([], .er 3) else manyT n [] (.ok l)
  | (_, .er e) => ([], .er e)

def endT : St → Int
  | .ok [] => 0
  | .ok (_ :: _) => 2
  | .er e => e

/-! ### Reading what was written -/

theorem pow128 {i : Nat} (h : i ≤ 9) : (128 : Nat) ^ i * 128 ^ (9 - i) = 9223372036854775808 := by
  rw [← Nat.pow_add, show i + (9 - i) = 9 by omega]

theorem uintM_enc : ∀ (f i n m : Nat) (r : List Int), f + i = 10 → m * 128 ^ i < 18446744073709551616 → (0 < i → 0 < m) → i ≤ 9 → uintM f i n (uintE m ++ r) = (n + m * 128 ^ i, .ok r)
  | 0, i, n, m, r, hf, hm, h0, hi => by omega
  | f + 1, i, n, m, r, hf, hm, h0, hi => by
    have h9 : i = 9 → m < 2 := fun e => by subst e; omega
    by_cases h : m < 128
    · rw [uintE_small h]
      show (if _ then _ else _) = _
      rw [if_neg (by omega), if_pos (by omega)]
      rw [Int.toNat_natCast]
      rfl
    · rw [uintE_big h]
      show (if _ then _ else _) = _
      rw [if_neg (by omega), if_neg (by omega)]
      have e1 : (((128 + m % 128 : Nat) : Int) - 128).toNat = m % 128 := by omega
      have e2 : m / 128 * 128 ^ (i + 1) = m / 128 * 128 * 128 ^ i := by rw [Nat.pow_succ, Nat.mul_assoc, Nat.mul_comm (128 ^ i)]
      have e3 : m / 128 * 128 ≤ m := by omega
      have e4 := Nat.mul_le_mul_right (128 ^ i) e3
      rw [e1]
      have key := uintM_enc f (i + 1) (n + m % 128 * 128 ^ i) (m / 128) r (by omega) (by omega) (by omega) (by omega)
      rw [List.append_eq] at *
      rw [key, e2, Nat.add_assoc, ← Nat.add_mul]
      congr 3
      omega

theorem uintT_enc {m : Nat} (hm : m < 18446744073709551616) (r : List Int) : uintT (.ok (uintE m ++ r)) = (m, .ok r) := by
  have := uintM_enc 10 0 0 m r rfl (by simpa using hm) (by omega) (by omega)
  simpa [uintT] using this

theorem uintM_back : ∀ (f i n : Nat) (l : List Int) (v : Nat) (r : List Int), f + i = 10 → i ≤ 9 → U8s l → uintM f i n l = (v, .ok r) →
    ∃ m, l = uintE m ++ r ∧ v = n + m * 128 ^ i ∧ (0 < i → 0 < m) ∧ (m + 1) * 128 ^ i ≤ 18446744073709551616
  | 0, i, n, l, v, r, hf, hi, hu, h => by omega
  | f + 1, i, n, [], v, r, hf, hi, hu, h => by simp [uintM] at h
  | f + 1, i, n, c :: l, v, r, hf, hi, hu, h => by
    have hc := hu c (by simp)
    have hu' : U8s l := fun x hx => hu x (by simp [hx])
    have hp := pow128 hi
    unfold uintM at h
    split at h
    · simp at h
    · rename_i hn
      split at h
      · rename_i hs
        simp only [Prod.mk.injEq, St.ok.injEq] at h
        obtain ⟨rfl, rfl⟩ := h
        refine ⟨c.toNat, ?_, rfl, by omega, ?_⟩
        · rw [uintE_small (by omega)]; simp; omega
        · by_cases h9 : i = 9
          · subst h9; omega
          · have h1 : c.toNat + 1 ≤ 128 := by omega
            have h2 := Nat.mul_le_mul_right (128 ^ i) h1
            have h3 : (128 : Nat) * 128 ^ i = 128 ^ (i + 1) := by rw [Nat.pow_succ, Nat.mul_comm]
            have h4 : (128 : Nat) ^ (i + 1) ≤ 128 ^ 9 := Nat.pow_le_pow_right (by omega) (by omega)
            omega
      · rename_i hs
        have hi9 : i ≠ 9 := by omega
        obtain ⟨m, h1, h2, h3, h4⟩ := uintM_back f (i + 1) _ l v r (by omega) (by omega) hu' h
        have hmp := h3 (by omega)
        refine ⟨128 * m + (c - 128).toNat, ?_, ?_, by omega, ?_⟩
        · rw [uintE_big (by omega), h1, List.cons_append]
          congr 2
          · omega
          · congr 1; omega
        · rw [h2, Nat.pow_succ, Nat.add_mul, Nat.mul_comm (128 ^ i) 128, ← Nat.mul_assoc m, Nat.mul_comm m 128, Nat.mul_assoc]
          omega
        · have e2 : (m + 1) * 128 ^ (i + 1) = ((m + 1) * 128) * 128 ^ i := by rw [Nat.pow_succ, Nat.mul_assoc, Nat.mul_comm (128 ^ i)]
          have e3 : 128 * m + (c - 128).toNat + 1 ≤ (m + 1) * 128 := by omega
          have e4 := Nat.mul_le_mul_right (128 ^ i) e3
          omega

theorem uintT_back {l : List Int} {v : Nat} {r : List Int} (hu : U8s l) (h : uintT (.ok l) = (v, .ok r)) : l = uintE v ++ r ∧ v < 18446744073709551616 := by
  obtain ⟨m, h1, h2, _, h3⟩ := uintM_back 10 0 0 l v r rfl (by omega) hu h
  have : v = m := by simpa using h2
  subst this
  exact ⟨h1, by simp at h3; omega⟩

theorem uintM_er : ∀ (f i n : Nat) (l : List Int) (v : Nat) (e : Int), uintM f i n l = (v, .er e) → v = 0 ∧ (e = 2 ∨ e = 3)
  | 0, i, n, l, v, e, h => by simp [uintM] at h; omega
  | f + 1, i, n, [], v, e, h => by simp [uintM] at h; omega
  | f + 1, i, n, c :: l, v, e, h => by
    unfold uintM at h
    split at h
    · simp at h; omega
    · split at h
      · simp at h
      · exact uintM_er f _ _ l v e h

theorem uintM_cut : ∀ (f i n m : Nat) (j : Nat), f + i = 10 → m * 128 ^ i < 18446744073709551616 → (0 < i → 0 < m) → i ≤ 9 → j < (uintE m).length → uintM f i n ((uintE m).take j) = (0, .er 3)
  | 0, i, n, m, j, hf, hm, h0, hi, hj => by omega
  | f + 1, i, n, m, 0, hf, hm, h0, hi, hj => by simp [uintM]
  | f + 1, i, n, m, j + 1, hf, hm, h0, hi, hj => by
    have h9 : i = 9 → m < 2 := fun e => by subst e; omega
    by_cases h : m < 128
    · rw [uintE_small h] at hj; simp at hj
    · rw [uintE_big h] at hj ⊢
      rw [List.take_succ_cons]
      show (if _ then _ else _) = _
      rw [if_neg (by omega), if_neg (by omega)]
      have e1 : (((128 + m % 128 : Nat) : Int) - 128).toNat = m % 128 := by omega
      have e2 : m / 128 * 128 ^ (i + 1) = m / 128 * 128 * 128 ^ i := by rw [Nat.pow_succ, Nat.mul_assoc, Nat.mul_comm (128 ^ i)]
      have e3 : m / 128 * 128 ≤ m := by omega
      have e4 := Nat.mul_le_mul_right (128 ^ i) e3
      rw [e1]
      simp only [List.length_cons] at hj
      exact uintM_cut f (i + 1) _ (m / 128) j (by omega) (by omega) (by omega) (by omega) (by omega)

theorem uintE_ne (n : Nat) : 0 < (uintE n).length := by
  by_cases h : n < 128
  · rw [uintE_small h]; simp
  · rw [uintE_big h]; simp

theorem uintT_cut {m j : Nat} (hm : m < 18446744073709551616) (hj : j < (uintE m).length) : uintT (.ok ((uintE m).take j)) = (0, .er 3) :=
  uintM_cut 10 0 0 m j rfl (by simpa using hm) (by omega) (by omega) hj

theorem unzig_zig {n : Int} : unzig (zigN n) = n := by
  unfold zigN unzig
  split <;> split <;> omega

theorem zig_unzig {z : Nat} : zigN (unzig z) = z := by
  unfold zigN unzig
  split <;> split <;> omega

theorem zig_lt {n : Int} (h : -9223372036854775808 ≤ n ∧ n < 9223372036854775808) : zigN n < 18446744073709551616 := by
  unfold zigN; split <;> omega

theorem unzig_in {z : Nat} (h : z < 18446744073709551616) : -9223372036854775808 ≤ unzig z ∧ unzig z < 9223372036854775808 := by
  unfold unzig; split <;> omega

theorem intT_enc {n : Int} (h : -9223372036854775808 ≤ n ∧ n < 9223372036854775808) (r : List Int) : intT (.ok (intE n ++ r)) = (n, .ok r) := by
  unfold intT intE
  rw [uintT_enc (zig_lt h)]
  simp [unzig_zig]

theorem intT_cut {n : Int} (h : -9223372036854775808 ≤ n ∧ n < 9223372036854775808) {j : Nat} (hj : j < (intE n).length) : intT (.ok ((intE n).take j)) = (0, .er 3) := by
  unfold intT intE
  rw [uintT_cut (zig_lt h) hj]
  rfl

theorem intT_back {l : List Int} {v : Int} {r : List Int} (hu : U8s l) (h : intT (.ok l) = (v, .ok r)) : l = intE v ++ r ∧ -9223372036854775808 ≤ v ∧ v < 9223372036854775808 := by
  unfold intT at h
  simp only [Prod.mk.injEq] at h
  obtain ⟨h1, h2⟩ := uintT_back (v := (uintT (.ok l)).1) (r := r) hu (by rw [← h.2])
  rw [← h.1]
  refine ⟨by rw [intE, zig_unzig]; exact h1, unzig_in h2⟩

theorem uintE_u8 (n : Nat) : U8s (uintE n) := by
  induction n using Nat.strongRecOn with
  | _ n ih =>
    intro x hx
    by_cases h : n < 128
    · rw [uintE_small h] at hx; simp at hx; omega
    · rw [uintE_big h] at hx
      rcases List.mem_cons.1 hx with rfl | hx
      · omega
      · exact ih (n / 128) (by omega) x hx

theorem U8s.app {a b : List Int} (h : U8s a) (k : U8s b) : U8s (a ++ b) := fun x hx => by
  rcases List.mem_append.1 hx with hx | hx
  · exact h x hx
  · exact k x hx
theorem U8s.left {a b : List Int} (h : U8s (a ++ b)) : U8s a := fun x hx => h x (by simp [hx])
theorem U8s.right {a b : List Int} (h : U8s (a ++ b)) : U8s b := fun x hx => h x (by simp [hx])

def In63 (n : Int) : Prop := -9223372036854775808 ≤ n ∧ n < 9223372036854775808

theorem manyT_enc : ∀ (x acc r : List Int), (∀ n ∈ x, In63 n) → manyT x.length acc (.ok (x.flatMap intE ++ r)) = (acc ++ x, .ok r)
  | [], acc, r, _ => by simp [manyT]
  | a :: x, acc, r, h => by
    simp only [List.length_cons, List.flatMap_cons, List.append_assoc, manyT]
    rw [intT_enc (h a (by simp))]
    simp only
    rw [manyT_enc x _ r fun n hn => h n (by simp [hn])]
    simp

theorem flatMap_ge (x : List Int) : x.length ≤ (x.flatMap intE).length := by
  induction x with
  | nil => simp
  | cons a x ih =>
    have := uintE_ne (zigN a)
    simp only [List.flatMap_cons, List.length_append, List.length_cons, intE] at ih ⊢
    omega

theorem bytesT_enc (b r : List Int) (h : b.length < 18446744073709551616) : bytesT (.ok (textE b ++ r)) = (b, .ok r) := by
  unfold bytesT textE
  rw [List.append_assoc, uintT_enc h]
  simp

theorem intsT_enc (x r : List Int) (h : x.length < 18446744073709551616) (hx : ∀ n ∈ x, In63 n) : intsT (.ok (intsE x ++ r)) = (x, .ok r) := by
  unfold intsT intsE
  rw [List.append_assoc, uintT_enc h]
  have := flatMap_ge x
  simp only
  rw [if_neg (by simp only [List.length_append]; omega), manyT_enc x [] r hx]
  simp

theorem boolT_enc (b : Bool) (r : List Int) : boolT (.ok (boolE b ++ r)) = (b, .ok r) := by
  cases b <;> simp [boolE, uintE_small, boolT]

theorem bytesT_back {l : List Int} {v r : List Int} (hu : U8s l) (h : bytesT (.ok l) = (v, .ok r)) : l = textE v ++ r := by
  unfold bytesT at h
  rcases hq : uintT (.ok l) with ⟨n, st⟩
  rw [hq] at h
  cases st with
  | er e => simp at h
  | ok l' =>
    obtain ⟨h1, h2⟩ := uintT_back hu hq
    simp only at h
    split at h
    · simp at h
    · rename_i hlt
      simp only [Prod.mk.injEq, St.ok.injEq] at h
      obtain ⟨rfl, rfl⟩ := h
      rw [h1, textE, List.append_assoc, List.take_append_drop, List.length_take, Nat.min_eq_left (by omega)]

theorem manyT_back : ∀ (k : Nat) (acc l v r : List Int), U8s l → manyT k acc (.ok l) = (v, .ok r) → ∃ x, v = acc ++ x ∧ x.length = k ∧ l = x.flatMap intE ++ r ∧ ∀ n ∈ x, In63 n
  | 0, acc, l, v, r, _, h => by
    simp only [manyT, Prod.mk.injEq, St.ok.injEq] at h
    exact ⟨[], by simp [h.1], rfl, by simp [h.2], by simp⟩
  | k + 1, acc, l, v, r, hu, h => by
    simp only [manyT] at h
    rcases hq : intT (.ok l) with ⟨a, st⟩
    rw [hq] at h
    cases st with
    | er e => simp at h
    | ok l' =>
      obtain ⟨h1, h2⟩ := intT_back hu hq
      have hu' : U8s l' := by rw [h1] at hu; exact U8s.right hu
      simp only at h
      obtain ⟨x, g1, g2, g3, g4⟩ := manyT_back k _ l' v r hu' h
      refine ⟨a :: x, by simp [g1], by simp [g2], by rw [h1, g3]; simp, ?_⟩
      intro n hn
      rcases List.mem_cons.1 hn with rfl | hn
      · exact h2
      · exact g4 n hn

theorem intsT_back {l : List Int} {v r : List Int} (hu : U8s l) (h : intsT (.ok l) = (v, .ok r)) : l = intsE v ++ r ∧ ∀ n ∈ v, In63 n := by
  unfold intsT at h
  rcases hq : uintT (.ok l) with ⟨n, st⟩
  rw [hq] at h
  cases st with
  | er e => simp at h
  | ok l' =>
    obtain ⟨h1, h2⟩ := uintT_back hu hq
    have hu' : U8s l' := by rw [h1] at hu; exact U8s.right hu
    simp only at h
    split at h
    · simp at h
    · obtain ⟨x, g1, g2, g3, g4⟩ := manyT_back _ _ _ _ _ hu' h
      simp only [List.nil_append] at g1
      subst g1
      exact ⟨by rw [h1, g3, intsE, g2]; simp, g4⟩

theorem boolT_back {l : List Int} {v : Bool} {r : List Int} (hu : U8s l) (h : boolT (.ok l) = (v, .ok r)) : l = boolE v ++ r := by
  cases l with
  | nil => simp [boolT] at h
  | cons c l =>
    have hc := hu c (by simp)
    simp only [boolT] at h
    split at h
    · simp at h
    · simp only [Prod.mk.injEq, St.ok.injEq] at h
      obtain ⟨h1, rfl⟩ := h
      by_cases hc1 : c = 1
      · subst hc1; simp at h1; subst h1; simp [boolE, uintE_small]
      · simp [hc1] at h1; subst h1; have : c = 0 := by omega
        subst this; simp [boolE, uintE_small]

/-- Cut off, the bytes give out. -/
theorem cut_app {a b : List Int} {j : Nat} (hj : j < (a ++ b).length) : (j < a.length ∧ (a ++ b).take j = a.take j) ∨ (∃ k, k < b.length ∧ (a ++ b).take j = a ++ b.take k) := by
  by_cases h : j < a.length
  · exact .inl ⟨h, by rw [List.take_append_of_le_length (by omega)]⟩
  · refine .inr ⟨j - a.length, by simp at hj; omega, ?_⟩
    rw [List.take_append, List.take_of_length_le (by omega)]

theorem bytesT_cut {b : List Int} (h : b.length < 18446744073709551616) {j : Nat} (hj : j < (textE b).length) : bytesT (.ok ((textE b).take j)) = ([], .er 3) := by
  unfold textE at hj ⊢
  rcases cut_app hj with ⟨h1, h2⟩ | ⟨k, h1, h2⟩
  · rw [h2, bytesT, uintT_cut h h1]
  · rw [h2, bytesT, uintT_enc h]
    simp; omega

theorem manyT_cut : ∀ (x acc : List Int) (j : Nat), (∀ n ∈ x, In63 n) → j < (x.flatMap intE).length → manyT x.length acc (.ok ((x.flatMap intE).take j)) = ([], .er 3)
  | [], acc, j, _, hj => by simp at hj
  | a :: x, acc, j, h, hj => by
    simp only [List.flatMap_cons] at hj ⊢
    rcases cut_app hj with ⟨h1, h2⟩ | ⟨k, h1, h2⟩
    · rw [h2]
      simp only [List.length_cons, manyT]
      rw [intT_cut (h a (by simp)) h1]
    · rw [h2]
      simp only [List.length_cons, manyT]
      rw [intT_enc (h a (by simp))]
      exact manyT_cut x _ k (fun n hn => h n (by simp [hn])) h1

theorem intsT_cut {x : List Int} (h : x.length < 18446744073709551616) (hx : ∀ n ∈ x, In63 n) {j : Nat} (hj : j < (intsE x).length) : intsT (.ok ((intsE x).take j)) = ([], .er 3) := by
  unfold intsE at hj ⊢
  rcases cut_app hj with ⟨h1, h2⟩ | ⟨k, h1, h2⟩
  · rw [h2, intsT, uintT_cut h h1]
  · rw [h2, intsT, uintT_enc h]
    simp only
    split
    · rfl
    · exact manyT_cut x [] k hx h1

theorem boolT_cut {b : Bool} {j : Nat} (hj : j < (boolE b).length) : boolT (.ok ((boolE b).take j)) = (false, .er 3) := by
  have : j = 0 := by cases b <;> simp [boolE, uintE_small] at hj <;> omega
  subst this
  simp [boolT]

end Go.Proofs
