/-
  Plain laws of the sums: each is one to one in each of its numbers.
-/
import Derived.Test.YteejpckkgepecaaHp
namespace Go.Proofs
set_option linter.unusedSimpArgs false
set_option linter.unusedVariables false
open Go.Pa

abbrev B64 (n : Int) : BitVec 64 := BitVec.ofInt 64 n
abbrev In64 (n : Int) : Prop := 0 ≤ n ∧ n < 18446744073709551616

theorem B64_inj {a b : Int} (ha : In64 a) (hb : In64 b) (h : B64 a = B64 b) : a = b := by
  have := congrArg BitVec.toNat h
  simp only [B64, BitVec.toNat_ofInt] at this
  omega

theorem B64_nat (x : BitVec 64) : B64 (x.toNat : Int) = x := by
  simp [B64]

theorem B64_wrap (n : Int) : B64 (IntKind.u64.wrap n) = B64 n := by
  apply BitVec.eq_of_toNat_eq
  simp only [B64, BitVec.toNat_ofInt, IntKind.wrap, IntKind.bits, IntKind.signed]
  simp

theorem B64_wrapI (n : Int) : B64 (IntKind.i64.wrap n) = B64 n := by
  apply BitVec.eq_of_toNat_eq
  simp only [B64, BitVec.toNat_ofInt, IntKind.wrap, IntKind.bits, IntKind.signed, Bool.true_and, decide_eq_true_eq]
  split <;> omega

theorem ixor_B64 (a b : Int) : ixor .u64 a b = ((B64 a ^^^ B64 b).toNat : Int) := by
  have hlt := (B64 a ^^^ B64 b).isLt
  obtain ⟨n, hn⟩ : ∃ n, n = (B64 a ^^^ B64 b).toNat := ⟨_, rfl⟩
  rw [← hn] at hlt ⊢
  unfold ixor
  have h3 : (BitVec.ofInt IntKind.u64.bits a ^^^ BitVec.ofInt IntKind.u64.bits b).toNat = n := hn.symm
  rw [h3, wrap_u64 (by omega) (by omega)]

theorem wrap_mul (x : BitVec 64) (c : Nat) : IntKind.u64.wrap ((x.toNat : Int) * (c : Int)) = ((x * BitVec.ofNat 64 c).toNat : Int) := by
  have h : ((x.toNat : Int) * (c : Int)) = ((x.toNat * c : Nat) : Int) := by simp
  rw [h, BitVec.toNat_mul, BitVec.toNat_ofNat]
  simp only [IntKind.wrap, IntKind.bits, IntKind.signed, Bool.false_and, Bool.false_eq_true, if_false]
  rw [Nat.mul_mod_mod]
  exact (Int.natCast_emod (x.toNat * c) (2 ^ 64)).symm

theorem div_shift (m : BitVec 64) : B64 ((m.toNat : Int).tdiv 4294967296) = m >>> 32 := by
  apply BitVec.eq_of_toNat_eq
  rw [Int.tdiv_eq_ediv_of_nonneg (by omega)]
  simp only [B64, BitVec.toNat_ofInt, BitVec.toNat_ushiftRight, Nat.shiftRight_eq_div_pow]
  have := m.isLt
  omega

/-- The mixing, on 64 bits, with any factor. -/
def mixC (c : Nat) (s w : BitVec 64) : BitVec 64 := ((s ^^^ w) * BitVec.ofNat 64 c) ^^^ (((s ^^^ w) * BitVec.ofNat 64 c) >>> 32)
def mixRC (c : Int) (s w : Int) : Int := ixor .u64 (IntKind.u64.wrap (ixor .u64 s w * c)) (IntKind.u64.wrap ((IntKind.u64.wrap (ixor .u64 s w * c)).tdiv 4294967296))

theorem mixRC_B64 (c : Nat) (s w : Int) : mixRC (c : Int) s w = ((mixC c (B64 s) (B64 w)).toNat : Int) := by
  unfold mixRC mixC
  rw [ixor_B64 s w, wrap_mul, ixor_B64, B64_nat, B64_wrap, div_shift]

theorem mixRC_eq (s w : Int) : mixRC 11400714819323198485 s w = mixR s w := by
  unfold mixRC mixR
  rfl

def mixB (s w : BitVec 64) : BitVec 64 := mixC 11400714819323198485 s w

theorem mixR_B64 (s w : Int) : mixR s w = ((mixB (B64 s) (B64 w)).toNat : Int) := by
  rw [← mixRC_eq]
  exact mixRC_B64 11400714819323198485 s w

theorem fold_inj {x y : BitVec 64} (h : x ^^^ (x >>> 32) = y ^^^ (y >>> 32)) : x = y := by
  have key : ∀ z : BitVec 64, (z ^^^ (z >>> 32)) ^^^ ((z ^^^ (z >>> 32)) >>> 32) = z := by
    intro z
    have h0 : z >>> 32 >>> 32 = 0#64 := by
      apply BitVec.eq_of_toNat_eq
      simp only [BitVec.toNat_ushiftRight, Nat.shiftRight_eq_div_pow, BitVec.toNat_ofNat]
      have := z.isLt
      omega
    rw [BitVec.ushiftRight_xor_distrib, h0, BitVec.xor_zero, BitVec.xor_assoc, BitVec.xor_self, BitVec.xor_zero]
  rw [← key x, ← key y, h]

theorem mul_inj {c d : BitVec 64} (h1 : c * d = 1#64) {x y : BitVec 64} (h : x * c = y * c) : x = y := by
  have := congrArg (· * d) h
  simp only [BitVec.mul_assoc, h1, BitVec.mul_one] at this
  exact this

theorem mul_inv : (BitVec.ofNat 64 11400714819323198485) * (BitVec.ofNat 64 17428512612931826493) = 1#64 := by decide +kernel

theorem mixB_inj {s w s' w' : BitVec 64} (h : mixB s w = mixB s' w') : s ^^^ w = s' ^^^ w' := mul_inj mul_inv (fold_inj h)

theorem mixR_in (s w : Int) : In64 (mixR s w) := by
  rw [mixR_B64]
  have := (mixB (B64 s) (B64 w)).isLt
  exact ⟨by omega, by omega⟩

theorem mixR_inj {s w s' w' : Int} (h : mixR s w = mixR s' w') : B64 s ^^^ B64 w = B64 s' ^^^ B64 w' := by
  rw [mixR_B64, mixR_B64] at h
  exact mixB_inj (BitVec.eq_of_toNat_eq (by omega))

theorem mixR_right {s w w' : Int} (h : mixR s w = mixR s w') : B64 w = B64 w' := by
  have := mixR_inj h
  have h2 := congrArg (B64 s ^^^ ·) this
  simpa [← BitVec.xor_assoc] using h2

theorem mixR_left {s s' w : Int} (h : mixR s w = mixR s' w) : B64 s = B64 s' := by
  have := mixR_inj h
  have h2 := congrArg (· ^^^ B64 w) this
  simpa [BitVec.xor_assoc] using h2

theorem foldl_left (g : Int → Int) : ∀ (l : List Int) {s s' : Int}, In64 s → In64 s' → l.foldl (fun s x => mixR s (g x)) s = l.foldl (fun s x => mixR s (g x)) s' → s = s'
  | [], s, s', _, _, h => h
  | x :: l, s, s', hs, hs', h => B64_inj hs hs' (mixR_left (foldl_left g l (mixR_in _ _) (mixR_in _ _) h))

theorem foldl_in (g : Int → Int) (l : List Int) {s : Int} (hs : In64 s) : In64 (l.foldl (fun s x => mixR s (g x)) s) := by
  induction l generalizing s with
  | nil => exact hs
  | cons x l ih => exact ih (mixR_in _ _)

/-- One number is another one. -/
theorem foldl_one (g : Int → Int) {l : List Int} {k : Nat} {v : Int} {s : Int} (hk : k < l.length) (h : l.foldl (fun s x => mixR s (g x)) s = (l.set k v).foldl (fun s x => mixR s (g x)) s) : B64 (g l[k]) = B64 (g v) := by
  have e1 : l = l.take k ++ l[k] :: l.drop (k + 1) := by rw [← List.drop_eq_getElem_cons hk, List.take_append_drop]
  have e2 : l.set k v = l.take k ++ v :: l.drop (k + 1) := List.set_eq_take_append_cons_drop.trans (by simp [hk])
  rw [e2] at h
  conv at h => lhs; rw [e1]
  simp only [List.foldl_append, List.foldl_cons] at h
  exact mixR_right (foldl_left g _ (mixR_in _ _) (mixR_in _ _) h)

def sumZ (a : List Int) (n : Nat) : Int := mixR (mixR ((wordsI a).foldl mixR 0) (IntKind.u64.wrap a.length)) (IntKind.u64.wrap n)

theorem sumZ_in (a : List Int) (n : Nat) : In64 (sumZ a n) := mixR_in _ _

theorem sumR_eq (a l : List Int) : sumR a l = mixR (l.foldl (fun s x => mixR s (IntKind.u64.wrap x)) (sumZ a l.length)) 0 := rfl

/-- **One number of the list.** -/
theorem sum_one (a l : List Int) {k : Nat} {v : Int} (hk : k < l.length) : sumR a l = sumR a (l.set k v) ↔ B64 l[k] = B64 v := by
  constructor
  · intro h
    rw [sumR_eq, sumR_eq, List.length_set] at h
    have h1 := B64_inj (foldl_in _ _ (sumZ_in _ _)) (foldl_in _ _ (sumZ_in _ _)) (mixR_left h)
    have := foldl_one IntKind.u64.wrap hk h1
    rwa [B64_wrap, B64_wrap] at this
  · intro h
    have hw : IntKind.u64.wrap l[k] = IntKind.u64.wrap v := B64_inj (wrap_u64_bound _) (wrap_u64_bound _) (by rw [B64_wrap, B64_wrap]; exact h)
    have e1 : l = l.take k ++ l[k] :: l.drop (k + 1) := by rw [← List.drop_eq_getElem_cons hk, List.take_append_drop]
    have e2 : l.set k v = l.take k ++ v :: l.drop (k + 1) := List.set_eq_take_append_cons_drop.trans (by simp [hk])
    rw [sumR_eq, sumR_eq, List.length_set, e2]
    conv => lhs; arg 1; arg 3; rw [e1]
    simp only [List.foldl_append, List.foldl_cons, hw]

/-- **One word of the label.** -/
theorem label_one (a b l : List Int) {k : Nat} {v : Int} (hl : a.length = b.length) (hk : k < (wordsI a).length) (hw : wordsI b = (wordsI a).set k v) (h : sumR a l = sumR b l) : B64 (wordsI a)[k] = B64 v := by
  rw [sumR_eq, sumR_eq] at h
  have h1 := B64_inj (foldl_in _ _ (sumZ_in _ _)) (foldl_in _ _ (sumZ_in _ _)) (mixR_left h)
  have h2 := foldl_left _ _ (sumZ_in _ _) (sumZ_in _ _) h1
  unfold sumZ at h2
  have h3 := B64_inj (mixR_in _ _) (mixR_in _ _) (mixR_left h2)
  rw [hl, hw] at h3
  have z : In64 0 := ⟨by omega, by omega⟩
  have h4 := B64_inj (foldl_in id (wordsI a) z) (foldl_in id ((wordsI a).set k v) z) (mixR_left h3)
  exact foldl_one id hk h4

/-! ### Words -/

theorem leI_inj : ∀ {x y : List Int}, U8s x → U8s y → x.length = y.length → leI x = leI y → x = y
  | [], [], _, _, _, _ => rfl
  | a :: x, b :: y, hx, hy, hl, h => by
    have h1 := hx a (by simp)
    have h2 := hy b (by simp)
    simp only [leI] at h
    have : a = b := by omega
    have h3 : leI x = leI y := by omega
    rw [this, leI_inj (fun z hz => hx z (by simp [hz])) (fun z hz => hy z (by simp [hz])) (by simpa using hl) h3]
  | [], _ :: _, _, _, hl, _ => by simp at hl
  | _ :: _, [], _, _, hl, _ => by simp at hl

theorem wordAt_in {l : List Int} (h : U8s l) (j : Nat) : In64 (wordAt l j) := leI_small (U8s_part h _ _) (by rw [List.length_take]; omega)

theorem wordsI_get {l : List Int} {j : Nat} (h : j < (wordsI l).length) : (wordsI l)[j] = wordAt l j := by
  simp [wordsI]

/-- Two byte lists that differ in one group alone. -/
theorem words_group {x y : List Int} (hl : x.length = y.length) (j : Nat) (h : ∀ i, i / 8 ≠ j → x[i]? = y[i]?) : wordsI y = (wordsI x).set j (wordAt y j) := by
  apply List.ext_getElem?
  intro i
  rw [List.getElem?_set]
  by_cases hi : i < (wordsI x).length
  · have hi' : i < (wordsI y).length := by rw [wordsI_length] at hi ⊢; omega
    rw [List.getElem?_eq_getElem hi', wordsI_get]
    by_cases e : j = i
    · subst e; simp [hi]
    · rw [if_neg e, List.getElem?_eq_getElem hi, wordsI_get]
      congr 1
      unfold wordAt
      congr 1
      apply List.ext_getElem?
      intro d
      rw [List.getElem?_take, List.getElem?_take]
      split
      · rw [List.getElem?_drop, List.getElem?_drop]
        exact (h (8 * i + d) (by omega)).symm
      · rfl
  · have hi' : ¬ i < (wordsI y).length := by rw [wordsI_length] at hi ⊢; omega
    rw [List.getElem?_eq_none (by omega), List.getElem?_eq_none (by omega)]
    split
    · rename_i e; subst e; rw [if_neg hi]
    · rfl

theorem group_word {x y : List Int} (hx : U8s x) (hy : U8s y) (hl : x.length = y.length) (j : Nat) (h : ∀ i, i / 8 ≠ j → x[i]? = y[i]?) (hw : wordAt x j = wordAt y j) : x = y := by
  have hg := leI_inj (U8s_part hx _ _) (U8s_part hy _ _) (by simp [hl]) hw
  apply List.ext_getElem?
  intro i
  by_cases hi : i / 8 = j
  · have h1 := congrArg (fun l => l[i - 8 * j]?) hg
    simp only [List.getElem?_take, List.getElem?_drop] at h1
    rw [if_pos (by omega), if_pos (by omega)] at h1
    have : 8 * j + (i - 8 * j) = i := by omega
    rwa [this] at h1
  · exact h i hi

/-- **One group of the bytes.** -/
theorem bytes_group (a : List Int) {x y : List Int} (hx : U8s x) (hy : U8s y) (hl : x.length = y.length) {j : Nat} (hj : 8 * j < x.length) (h : ∀ i, i / 8 ≠ j → x[i]? = y[i]?) : bytesR a x = bytesR a y ↔ x = y := by
  refine ⟨fun he => ?_, fun he => by rw [he]⟩
  have hjw : j < (wordsI x).length := by rw [wordsI_length]; omega
  unfold bytesR at he
  rw [words_group hl j h, ← hl, List.map_set] at he
  have hk : j < ((wordsI x).map IntKind.i64.wrap ++ [(x.length : Int)]).length := by simp; omega
  have e1 : ((wordsI x).map IntKind.i64.wrap).set j (IntKind.i64.wrap (wordAt y j)) ++ [(x.length : Int)] = ((wordsI x).map IntKind.i64.wrap ++ [(x.length : Int)]).set j (IntKind.i64.wrap (wordAt y j)) := by
    rw [List.set_append_left _ _ (by simpa using hjw)]
  rw [e1] at he
  have h2 := (sum_one a _ hk).1 he
  rw [List.getElem_append_left (by simpa using hjw), List.getElem_map, B64_wrapI, B64_wrapI, wordsI_get] at h2
  exact group_word hx hy hl j h (B64_inj (wordAt_in hx j) (wordAt_in hy j) h2)

/-- **One byte of the label.** -/
theorem label_byte {x y : List Int} (l : List Int) (hx : U8s x) (hy : U8s y) (hl : x.length = y.length) {j : Nat} (hj : 8 * j < x.length) (h : ∀ i, i / 8 ≠ j → x[i]? = y[i]?) : sumR x l = sumR y l ↔ x = y := by
  refine ⟨fun he => ?_, fun he => by rw [he]⟩
  have hjw : j < (wordsI x).length := by rw [wordsI_length]; omega
  have h2 := label_one x y l hl hjw (words_group hl j h) he
  rw [wordsI_get] at h2
  exact group_word hx hy hl j h (B64_inj (wordAt_in hx j) (wordAt_in hy j) h2)

theorem pair_right {c a b : Int} (ha : In64 a) (hb : In64 b) : pairR c a = pairR c b ↔ a = b := by
  refine ⟨fun h => ?_, fun h => by rw [h]⟩
  unfold pairR at h
  have := (sum_one [112, 97, 105, 114] [IntKind.i64.wrap c, IntKind.i64.wrap a] (k := 1) (v := IntKind.i64.wrap b) (by simp)).1 (by simpa using h)
  simp only [List.getElem_cons_succ, List.getElem_cons_zero] at this
  rw [B64_wrapI, B64_wrapI] at this
  exact B64_inj ha hb this

theorem pair_left {c a b : Int} (ha : In64 a) (hb : In64 b) : pairR a c = pairR b c ↔ a = b := by
  refine ⟨fun h => ?_, fun h => by rw [h]⟩
  unfold pairR at h
  have := (sum_one [112, 97, 105, 114] [IntKind.i64.wrap a, IntKind.i64.wrap c] (k := 0) (v := IntKind.i64.wrap b) (by simp)).1 (by simpa using h)
  simp only [List.getElem_cons_zero] at this
  rw [B64_wrapI, B64_wrapI] at this
  exact B64_inj ha hb this

/-- A further zero byte, behind a group that is not full. -/
theorem words_zero {c : List Int} (h : c.length % 8 ≠ 0) : wordsI (c ++ [0]) = wordsI c := by
  unfold wordsI
  have hl : ((c ++ [0]).length + 7) / 8 = (c.length + 7) / 8 := by simp; omega
  rw [hl]
  apply List.map_congr_left
  intro j hj
  unfold wordAt
  have hle : ∀ (m : List Int), leI (m ++ [0]) = leI m := by
    intro m
    induction m with
    | nil => simp [leI]
    | cons x m ih => simp only [List.cons_append, leI, ih]
  by_cases hfull : 8 * j + 8 ≤ c.length
  · rw [List.drop_append_of_le_length (by omega), List.take_append_of_le_length (by simp; omega)]
  · have : 8 * j ≤ c.length := by simp at hj; omega
    rw [List.drop_append_of_le_length this, List.take_of_length_le (by simp; omega), List.take_of_length_le (by simp; omega), hle]

theorem bytes_zero (a : List Int) {c : List Int} (h : c.length % 8 ≠ 0) (hc : c.length < 1000000) : bytesR a (c ++ [0]) ≠ bytesR a c := by
  intro he
  unfold bytesR at he
  rw [words_zero h] at he
  have hk : (wordsI c).length < ((wordsI c).map IntKind.i64.wrap ++ [(c.length : Int)]).length := by simp
  have := (sum_one a ((wordsI c).map IntKind.i64.wrap ++ [(c.length : Int)]) hk (v := ((c ++ [0]).length : Int))).1 (by
    rw [List.set_append_right _ _ (by simp)]
    simp only [List.length_map, Nat.sub_self, List.set_cons_zero]
    exact he.symm)
  rw [List.getElem_append_right (by simp)] at this
  simp only [List.length_map, Nat.sub_self, List.getElem_cons_zero, List.length_append, List.length_cons, List.length_nil] at this
  have := B64_inj (by omega) (by omega) this
  omega

end Go.Proofs
