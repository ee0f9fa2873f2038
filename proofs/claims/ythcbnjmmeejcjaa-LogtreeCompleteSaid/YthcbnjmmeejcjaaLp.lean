/-
  The log of hashes: what paths and links lead to; what happens if one number is another one. Plain laws.
-/
import Derived.Test.YthcbnjmmeejcjaaLl
import Derived.Test.YthcbnjmmeejcjaaHl
namespace Go.Proofs
open Go.Pa
set_option linter.unusedSimpArgs false
set_option linter.unusedVariables false
set_option maxRecDepth 20000
set_option maxHeartbeats 2000000

theorem sumR_in (a l : List Int) : In64 (sumR a l) := by rw [sumR_eq]; exact mixR_in _ _
theorem leaf_in (h : Int) : In64 (leafI h) := sumR_in _ _
theorem node_in (a b : Int) : In64 (nodeI a b) := sumR_in _ _
theorem root_in (l : List Int) : In64 (rootI l) := by
  rcases Nat.lt_or_ge l.length 2 with h | h
  · match l, h with
    | [], _ => rw [rootI_nil]; exact sumR_in _ _
    | [x], _ => rw [rootI_one]; exact leaf_in _
  · rw [rootI_two h]; exact node_in _ _

theorem wrapI_inj {a b : Int} (ha : In64 a) (hb : In64 b) (h : B64 (IntKind.i64.wrap a) = B64 (IntKind.i64.wrap b)) : a = b := by
  rw [B64_wrapI, B64_wrapI] at h
  exact B64_inj ha hb h

theorem leaf_inj {a b : Int} (ha : In64 a) (hb : In64 b) (h : leafI a = leafI b) : a = b :=
  wrapI_inj ha hb ((sum_one [108, 101, 97, 102] [IntKind.i64.wrap a] (k := 0) (v := IntKind.i64.wrap b) (by simp)).1 h)
theorem node_left {a b c : Int} (ha : In64 a) (hb : In64 b) (h : nodeI a c = nodeI b c) : a = b :=
  wrapI_inj ha hb ((sum_one [110, 111, 100, 101] [IntKind.i64.wrap a, IntKind.i64.wrap c] (k := 0) (v := IntKind.i64.wrap b) (by simp)).1 h)
theorem node_right {a b c : Int} (ha : In64 a) (hb : In64 b) (h : nodeI c a = nodeI c b) : a = b :=
  wrapI_inj ha hb ((sum_one [110, 111, 100, 101] [IntKind.i64.wrap c, IntKind.i64.wrap a] (k := 1) (v := IntKind.i64.wrap b) (by simp)).1 h)

theorem half_between : ∀ (d k n m : Nat), n - k ≤ d → 0 < k → k < n → halfG k n < m → m ≤ n → halfG k m = halfG k n := by
  intro d
  induction d with
  | zero => intro k n m h1 h2 h3; omega
  | succ d ih =>
    intro k n m h1 h2 h3 h4 h5
    by_cases h : 2 * k < n
    · have hs := halfG_spec (n - 2 * k) (2 * k) n (by omega) (by omega) h
      rw [halfG_step h2 h] at h4 ⊢
      rw [halfG_step h2 (by omega)]
      exact ih (2 * k) n m (by omega) (by omega) h h4 h5
    · rw [halfG_end h] at h4 ⊢
      rw [halfG_end (by omega)]

theorem half_same {n m : Nat} (h : 2 ≤ n) (h1 : halfN n < m) (h2 : m ≤ n) : halfN m = halfN n := half_between n 1 n m (by omega) (by omega) (by omega) h1 h2

theorem climb_path (z : Int) : ∀ (b : Nat) (l : List Int) (i : Nat), l.length ≤ b → i < l.length → climbR z (l.getD i 0) i l.length (pathI l i).reverse = (rootI l, true) := by
  intro b
  induction b with
  | zero => intro l i h1 h2; omega
  | succ b ih =>
    intro l i h1 h2
    rcases Nat.lt_or_ge l.length 2 with h | h
    · match l, h with
      | [], _ => simp at h2
      | [x], _ =>
        have : i = 0 := by simp at h2; exact h2
        subst this
        rw [pathI_one (by simp), rootI_one]
        simp [climbR]
    · obtain ⟨g1, g2, g3⟩ := half_spec h
      rw [rootI_two h]
      generalize hk : halfN l.length = k at g1 g2 g3 ⊢
      have htl : (l.take k).length = k := by simp; omega
      have hdl : (l.drop k).length = l.length - k := by simp
      by_cases hi : i < k
      · rw [pathI_lo h (by omega), hk, List.reverse_append, List.reverse_singleton, List.singleton_append]
        have hg : (l.take k).getD i 0 = l.getD i 0 := by simp [List.getD, List.getElem?_take, hi]
        have := ih (l.take k) i (by omega) (by omega)
        rw [hg, htl] at this
        simp only [climbR, show ¬ l.length = 1 by omega, hk, hi, if_false, if_true]
        rw [this]
      · rw [pathI_hi h (by omega), hk, List.reverse_append, List.reverse_singleton, List.singleton_append]
        have hg : (l.drop k).getD (i - k) 0 = l.getD i 0 := by
          simp only [List.getD, List.getElem?_drop]
          rw [show k + (i - k) = i by omega]
        have := ih (l.drop k) (i - k) (by omega) (by omega)
        rw [hg, hdl] at this
        simp only [climbR, show ¬ l.length = 1 by omega, hk, hi, if_false]
        rw [this]

theorem both_link (z : Bool) (f : Int) : ∀ (b : Nat) (l : List Int) (m : Nat) (w : Bool), l.length ≤ b → 1 ≤ m → m ≤ l.length → (w = true → f = rootI (l.take m)) →
    bothR z f m l.length w (linkI l m w).reverse = (rootI (l.take m), rootI l, true) := by
  intro b
  induction b with
  | zero => intro l m w h1 h2 h3; omega
  | succ b ih =>
    intro l m w h1 h2 h3 hf
    by_cases he : m = l.length
    · rw [linkI_all he]
      have ht : l.take m = l := by rw [List.take_of_length_le (by omega)]
      rw [ht] at hf ⊢
      cases w with
      | true =>
        obtain rfl := hf rfl
        simp [bothR, he]
      | false => simp [bothR, he]
    · have h : 2 ≤ l.length := by omega
      obtain ⟨g1, g2, g3⟩ := half_spec h
      have hrt := rootI_two h
      by_cases hi : m ≤ halfN l.length
      · rw [linkI_lo he h w hi, List.reverse_append, List.reverse_singleton, List.singleton_append]
        rw [hrt]
        generalize hk : halfN l.length = k at g1 g2 g3 hi ⊢
        have htl : (l.take k).length = k := by simp; omega
        have htt : (l.take k).take m = l.take m := by rw [List.take_take, Nat.min_eq_left hi]
        have := ih (l.take k) m w (by omega) h2 (by omega) (by rw [htt]; exact hf)
        rw [htl, htt] at this
        simp only [bothR, he, hk, hi, if_false, if_true]
        rw [this]
      · rw [linkI_hi he h w hi, List.reverse_append, List.reverse_singleton, List.singleton_append]
        have hm2 : 2 ≤ m := by omega
        have hml : (l.take m).length = m := by simp; omega
        have hmr := rootI_two (l := l.take m) (by omega)
        rw [hml, half_same h (by omega) h3] at hmr
        rw [hrt]
        generalize hk : halfN l.length = k at g1 g2 g3 hi hmr ⊢
        have hdl : (l.drop k).length = l.length - k := by simp
        have t1 : (l.take m).take k = l.take k := by rw [List.take_take, Nat.min_eq_left (by omega)]
        have t2 : (l.take m).drop k = (l.drop k).take (m - k) := by rw [List.drop_take]
        rw [t1, t2] at hmr
        have := ih (l.drop k) (m - k) false (by omega) (by omega) (by omega) (by simp)
        rw [hdl] at this
        simp only [bothR, he, hk, hi, if_false]
        rw [this, hmr]

/-! ### One number is another one -/

theorem climb_in {z : Int} (hz : In64 z) (h : Int) : ∀ (q : List Int) (i n : Nat), In64 (climbR z h i n q).1
  | [], i, n => by
    by_cases h1 : n = 1
    · simp only [climbR, h1, if_true]; exact leaf_in h
    · simp only [climbR, h1, if_false]; exact hz
  | x :: q, i, n => by
    by_cases h1 : n = 1
    · simp only [climbR, h1, if_true]; exact leaf_in h
    · by_cases h2 : i < halfN n
      · simp only [climbR, h1, h2, if_true, if_false]; exact node_in _ _
      · simp only [climbR, h1, h2, if_false]; exact node_in _ _

theorem climb_h {z h h' : Int} (hz : In64 z) (hh : In64 h) (hh' : In64 h') (hne : h ≠ h') : ∀ (q : List Int) (i n : Nat), (climbR z h i n q).2 = true → (climbR z h i n q).1 ≠ (climbR z h' i n q).1
  | [], i, n => by
    by_cases h1 : n = 1
    · simp only [climbR, h1, if_true]; exact fun _ he => hne (leaf_inj hh hh' he)
    · simp [climbR, h1]
  | x :: q, i, n => by
    by_cases h1 : n = 1
    · simp [climbR, h1]
    · by_cases h2 : i < halfN n
      · simp only [climbR, h1, h2, if_true, if_false]
        exact fun hb he => climb_h hz hh hh' hne q i (halfN n) hb (node_left (climb_in hz _ _ _ _) (climb_in hz _ _ _ _) he)
      · simp only [climbR, h1, h2, if_false]
        exact fun hb he => climb_h hz hh hh' hne q _ _ hb (node_right (climb_in hz _ _ _ _) (climb_in hz _ _ _ _) he)

theorem climb_q {z h : Int} (hz : In64 z) : ∀ (q : List Int) (k i n : Nat) (v : Int), (hk : k < q.length) → In64 q[k] → In64 v → q[k] ≠ v → (climbR z h i n q).2 = true → (climbR z h i n (q.set k v)).1 ≠ (climbR z h i n q).1
  | [], k, i, n, v, hk => by simp at hk
  | x :: q, k, i, n, v, hk => by
    intro hx hv hne
    by_cases h1 : n = 1
    · simp [climbR, h1]
    · cases k with
      | zero =>
        simp only [List.getElem_cons_zero] at hx hne
        simp only [List.set_cons_zero]
        by_cases h2 : i < halfN n
        · simp only [climbR, h1, h2, if_true, if_false]
          exact fun hb he => hne (node_right hv hx he).symm
        · simp only [climbR, h1, h2, if_false]
          exact fun hb he => hne (node_left hv hx he).symm
      | succ k =>
        simp only [List.getElem_cons_succ] at hx hne
        simp only [List.length_cons] at hk
        simp only [List.set_cons_succ]
        by_cases h2 : i < halfN n
        · simp only [climbR, h1, h2, if_true, if_false]
          exact fun hb he => climb_q hz q k i (halfN n) v (by omega) hx hv hne hb (node_left (climb_in hz _ _ _ _) (climb_in hz _ _ _ _) he)
        · simp only [climbR, h1, h2, if_false]
          exact fun hb he => climb_q hz q k _ _ v (by omega) hx hv hne hb (node_right (climb_in hz _ _ _ _) (climb_in hz _ _ _ _) he)

theorem in_zero : In64 0 := by omega

def AllIn (l : List Int) : Prop := ∀ x ∈ l, In64 x

theorem allIn_getD {l : List Int} (h : AllIn l) (k : Nat) : In64 (l.getD k 0) := by
  simp only [List.getD]
  cases hk : l[k]? with
  | none => exact in_zero
  | some x => exact h x (List.mem_of_getElem? hk)

theorem both_in (z : Bool) {f : Int} (hf : In64 f) : ∀ (q : List Int) (m n : Nat) (w : Bool), AllIn q → In64 (bothR z f m n w q).1 ∧ In64 (bothR z f m n w q).2.1
  | [], m, n, w, _ => by
    by_cases h1 : m = n ∧ w = true
    · have hc : bothR z f m n w [] = (f, f, true) := by simp [bothR, h1]
      rw [hc]; exact ⟨hf, hf⟩
    · have hc : bothR z f m n w [] = (0, 0, false) := by simp [bothR, h1]
      rw [hc]; exact ⟨in_zero, in_zero⟩
  | x :: q, m, n, w, hq => by
    have hx := hq x (List.mem_cons_self ..)
    have hq' : AllIn q := fun y hy => hq y (List.mem_cons_of_mem _ hy)
    have hr : AllIn (x :: q).reverse := fun y hy => hq y (List.mem_reverse.1 hy)
    by_cases h1 : m = n
    · by_cases h2 : w = true
      · simp only [bothR, h1, h2, if_true]; exact ⟨hf, hf⟩
      · by_cases h3 : q = []
        · simp only [bothR, h1, h2, h3, if_true, if_false]; exact ⟨hx, hx⟩
        · cases z
          · simp only [bothR, h1, h2, h3, if_true, if_false]; exact ⟨in_zero, in_zero⟩
          · simp only [bothR, h1, h2, h3, if_true, if_false]; exact ⟨allIn_getD hr 0, allIn_getD hr 0⟩
    · by_cases h2 : m ≤ halfN n
      · simp only [bothR, h1, h2, if_true, if_false]; exact ⟨(both_in z hf q _ _ _ hq').1, node_in _ _⟩
      · simp only [bothR, h1, h2, if_false]; exact ⟨node_in _ _, node_in _ _⟩

/-- The old root counts for nothing where the link tells it. -/
theorem both_no (z : Bool) (f f' : Int) : ∀ (q : List Int) (m n : Nat), bothR z f m n false q = bothR z f' m n false q
  | [], m, n => by simp [bothR]
  | x :: q, m, n => by
    by_cases h1 : m = n
    · simp [bothR, h1]
    · by_cases h2 : m ≤ halfN n
      · simp only [bothR, h1, h2, if_true, if_false]; rw [both_no z f f' q]
      · simp only [bothR, h1, h2, if_false]; rw [both_no z f f' q]

theorem both_f (z : Bool) {f f' : Int} (hf : In64 f) (hf' : In64 f') (hne : f ≠ f') : ∀ (q : List Int) (m n : Nat), AllIn q → (bothR z f m n true q).2.2 = true →
    ((bothR z f m n true q).1 = f ∧ (bothR z f' m n true q).1 = f' ∧ (bothR z f m n true q).2.1 ≠ (bothR z f' m n true q).2.1) ∨ bothR z f m n true q = bothR z f' m n true q
  | [], m, n, _ => by
    by_cases h1 : m = n
    · have hc : ∀ g, bothR z g m n true [] = (g, g, true) := by intro g; simp [bothR, h1]
      rw [hc, hc]; exact fun _ => .inl ⟨rfl, rfl, hne⟩
    · simp [bothR, h1]
  | x :: q, m, n, hq => by
    have hq' : AllIn q := fun y hy => hq y (List.mem_cons_of_mem _ hy)
    by_cases h1 : m = n
    · simp [bothR, h1]
    · by_cases h2 : m ≤ halfN n
      · simp only [bothR, h1, h2, if_true, if_false]
        intro hb
        rcases both_f z hf hf' hne q m (halfN n) hq' hb with ⟨a, b, c⟩ | h
        · exact .inl ⟨a, b, fun he => c (node_left (both_in z hf q _ _ _ hq').2 (both_in z hf' q _ _ _ hq').2 he)⟩
        · right; rw [h]
      · simp only [bothR, h1, h2, if_false]
        intro hb
        right; rw [both_no z f f' q]

theorem both_len (z : Bool) {f : Int} : ∀ (q q' : List Int) (m n : Nat) (w : Bool), q.length = q'.length → (bothR z f m n w q).2.2 = (bothR z f m n w q').2.2
  | [], [], _, _, _, _ => rfl
  | x :: q, x' :: q', m, n, w, hl => by
    simp only [List.length_cons, Nat.add_right_cancel_iff] at hl
    by_cases h1 : m = n
    · by_cases h2 : w = true
      · simp [bothR, h1, h2]
      · have : q = [] ↔ q' = [] := by rw [← List.length_eq_zero_iff, ← List.length_eq_zero_iff, hl]
        by_cases h3 : q = []
        · have h4 := this.1 h3; simp [bothR, h1, h2, h3, h4]
        · have h4 : ¬ q' = [] := fun h => h3 (this.2 h)
          cases z <;> simp [bothR, h1, h2, h3, h4]
    · by_cases h2 : m ≤ halfN n
      · simp only [bothR, h1, h2, if_true, if_false]; exact both_len z q q' _ _ _ hl
      · simp only [bothR, h1, h2, if_false]; exact both_len z q q' _ _ _ hl
  | [], _ :: _, _, _, _, hl => by simp at hl
  | _ :: _, [], _, _, _, hl => by simp at hl

theorem allIn_set {q : List Int} (h : AllIn q) {k : Nat} {v : Int} (hv : In64 v) : AllIn (q.set k v) := fun y hy => by
  rcases List.mem_or_eq_of_mem_set hy with h1 | rfl
  · exact h y h1
  · exact hv

theorem both_q (z : Bool) {f : Int} (hf : In64 f) : ∀ (q : List Int) (k m n : Nat) (w : Bool) (v : Int), AllIn q → (hk : k < q.length) → In64 v → q[k] ≠ v → (bothR z f m n w q).2.2 = true → (bothR z f m n w (q.set k v)).2.1 ≠ (bothR z f m n w q).2.1
  | [], k, m, n, w, v, _, hk => by simp at hk
  | x :: q, k, m, n, w, v, hq, hk => by
    intro hv hne
    have hx := hq x (List.mem_cons_self ..)
    have hq' : AllIn q := fun y hy => hq y (List.mem_cons_of_mem _ hy)
    by_cases h1 : m = n
    · by_cases h2 : w = true
      · simp [bothR, h1, h2]
      · by_cases h3 : q = []
        · subst h3
          have : k = 0 := by simp at hk; exact hk
          subst this
          simp only [List.getElem_cons_zero] at hne
          simp only [List.set_cons_zero, bothR, h1, h2, if_true, if_false]
          exact fun _ he => hne he.symm
        · cases z <;> simp [bothR, h1, h2, h3]
    · cases k with
      | zero =>
        simp only [List.getElem_cons_zero] at hne
        simp only [List.set_cons_zero]
        by_cases h2 : m ≤ halfN n
        · simp only [bothR, h1, h2, if_true, if_false]
          exact fun hb he => hne (node_right hv hx he).symm
        · simp only [bothR, h1, h2, if_false]
          exact fun hb he => hne (node_left hv hx he).symm
      | succ k =>
        simp only [List.getElem_cons_succ] at hne
        simp only [List.length_cons] at hk
        simp only [List.set_cons_succ]
        by_cases h2 : m ≤ halfN n
        · simp only [bothR, h1, h2, if_true, if_false]
          exact fun hb he => both_q z hf q k m (halfN n) w v hq' (by omega) hv hne hb (node_left (both_in z hf _ _ _ _ (allIn_set hq' hv)).2 (both_in z hf _ _ _ _ hq').2 he)
        · simp only [bothR, h1, h2, if_false]
          exact fun hb he => both_q z hf q k _ _ false v hq' (by omega) hv hne hb (node_right (both_in z hf _ _ _ _ (allIn_set hq' hv)).2 (both_in z hf _ _ _ _ hq').2 he)

theorem path_in : ∀ (b : Nat) (l : List Int) (i : Nat), l.length ≤ b → AllIn (pathI l i) := by
  intro b
  induction b with
  | zero => intro l i h; rw [pathI_one (by omega)]; intro x hx; simp at hx
  | succ b ih =>
    intro l i h
    rcases Nat.lt_or_ge l.length 2 with h2 | h2
    · rw [pathI_one (by omega)]; intro x hx; simp at hx
    · obtain ⟨g1, g2, g3⟩ := half_spec h2
      by_cases hi : i < halfN l.length
      · rw [pathI_lo h2 hi]
        intro x hx
        rcases List.mem_append.1 hx with h3 | h3
        · exact ih _ _ (by simp; omega) x h3
        · rw [List.mem_singleton.1 h3]; exact root_in _
      · rw [pathI_hi h2 hi]
        intro x hx
        rcases List.mem_append.1 hx with h3 | h3
        · exact ih _ _ (by simp; omega) x h3
        · rw [List.mem_singleton.1 h3]; exact root_in _

theorem link_in : ∀ (b : Nat) (l : List Int) (m : Nat) (w : Bool), l.length ≤ b → AllIn (linkI l m w) := by
  intro b
  induction b with
  | zero =>
    intro l m w h
    by_cases he : m = l.length
    · rw [linkI_all he]; cases w
      · intro x hx; simp at hx; rw [hx]; exact root_in _
      · intro x hx; simp at hx
    · rw [linkI, if_neg he, dif_neg (by omega)]; intro x hx; simp at hx
  | succ b ih =>
    intro l m w h
    by_cases he : m = l.length
    · rw [linkI_all he]; cases w
      · intro x hx; simp at hx; rw [hx]; exact root_in _
      · intro x hx; simp at hx
    · rcases Nat.lt_or_ge l.length 2 with h2 | h2
      · rw [linkI, if_neg he, dif_neg (by omega)]; intro x hx; simp at hx
      · obtain ⟨g1, g2, g3⟩ := half_spec h2
        by_cases hi : m ≤ halfN l.length
        · rw [linkI_lo he h2 w hi]
          intro x hx
          rcases List.mem_append.1 hx with h3 | h3
          · exact ih _ _ _ (by simp; omega) x h3
          · rw [List.mem_singleton.1 h3]; exact root_in _
        · rw [linkI_hi he h2 w hi]
          intro x hx
          rcases List.mem_append.1 hx with h3 | h3
          · exact ih _ _ _ (by simp; omega) x h3
          · rw [List.mem_singleton.1 h3]; exact root_in _

theorem rev_set (l : List Int) {k : Nat} (hk : k < l.length) (v : Int) : (l.set k v).reverse = l.reverse.set (l.length - 1 - k) v := by
  apply List.ext_getElem (by simp)
  intro i h1 h2
  simp only [List.length_reverse, List.length_set] at h1
  simp only [List.getElem_reverse, List.getElem_set, List.length_set]
  by_cases h : k = l.length - 1 - i
  · rw [if_pos h, if_pos (by omega)]
  · rw [if_neg h, if_neg (by omega)]

end Go.Proofs
