/-
  Taxonomies: the state of a visit; plain laws.
-/
import Derived.Test.YteejpckkgepecaaTd
namespace Go.Proofs
open Go.Pa
set_option linter.unusedSimpArgs false
set_option linter.unusedVariables false

def bl (n : Nat) (f : Nat → Bool) : List (List AV) := (List.range n).map fun i => [AV.bool (f i)]
theorem bl_len (n : Nat) (f : Nat → Bool) : (bl n f).length = n := by simp [bl]
theorem bl_get {n : Nat} (f : Nat → Bool) {i : Nat} (h : i < n) : (bl n f).getD i [] = [.bool (f i)] := by simp [bl, List.getD, h]
theorem bl_set {n : Nat} (f : Nat → Bool) {i : Nat} (h : i < n) (b : Bool) : (bl n f).set i [.bool b] = bl n (upd f i b) := by
  apply List.ext_getElem?
  intro j
  rw [List.getElem?_set]
  by_cases hj : i = j
  · subst hj
    rw [if_pos rfl, if_pos (by rw [bl_len]; exact h)]
    simp [bl, h, upd]
  · rw [if_neg hj]
    unfold bl
    rw [List.getElem?_map, List.getElem?_map]
    rcases Nat.lt_or_ge j n with h1 | h1
    · simp [h1, upd, Ne.symm hj]
    · simp [h1]
theorem bl_zero (n : Nat) : List.replicate n [AV.bool false] = bl n fun _ => false := by
  unfold bl
  rw [List.map_const', List.length_range]

/-- How many are not yet open. -/
def cnt (n : Nat) (f : Nat → Bool) : Nat := match n with
  | 0 => 0
  | n + 1 => cnt n f + if f n = true then 0 else 1

theorem cnt_mono {f g : Nat → Bool} (h : ∀ i, f i = true → g i = true) : ∀ n, cnt n g ≤ cnt n f
  | 0 => Nat.le_refl _
  | n + 1 => by
    have ih := cnt_mono h n
    simp only [cnt]
    by_cases hf : f n = true
    · rw [if_pos hf, if_pos (h n hf)]; omega
    · rw [if_neg hf]; split <;> omega

theorem cnt_lt {f : Nat → Bool} {c : Nat} (hc : f c = false) : ∀ n, c < n → cnt n (upd f c true) < cnt n f
  | 0, h => by omega
  | n + 1, h => by
    simp only [cnt]
    have hm : cnt n (upd f c true) ≤ cnt n f := cnt_mono (fun i hi => by unfold upd; split <;> first | rfl | exact hi) n
    by_cases e : n = c
    · subst e
      rw [if_pos (by simp [upd]), if_neg (by simp [hc])]
      omega
    · have ih := cnt_lt hc n (by omega)
      have e2 : upd f c true n = f n := by simp [upd, e]
      rw [e2]
      split <;> omega

theorem cnt_le (f : Nat → Bool) : ∀ n, cnt n f ≤ n
  | 0 => Nat.le_refl _
  | n + 1 => by have := cnt_le f n; simp only [cnt]; split <;> omega

/-- What holds between calls. -/
structure VInv (p : List (List Int)) (dn op g : Nat → Bool) : Prop where
  d_o : ∀ c, dn c = true → op c = true
  row : ∀ c d, c < p.length → d < 64 → dn c = true → g (c * 64 + d) = relG p (c * 64 + d)
  emp : ∀ c d, c < 64 → d < 64 → op c = false → g (c * 64 + d) = false
  clo : ∀ c d, dn c = true → Par p c d → dn d = true
  acy : ∀ c, dn c = true → ¬ Inh p c c
  lim : ∀ c, op c = true → c < p.length

theorem VInv.rch {p : List (List Int)} {dn op g : Nat → Bool} (h : VInv p dn op g) {c d : Nat} (hr : Rch p c d) (hc : dn c = true) : dn d = true := by
  induction hr with
  | refl => exact hc
  | step h1 _ ih => exact ih (h.clo _ _ hc h1)

/-- What a call leaves. -/
structure VPost (p : List (List Int)) (c : Nat) (dn op g dn' op' g' : Nat → Bool) : Prop where
  inv : VInv p dn' op' g'
  dc : dn' c = true
  mo : ∀ x, op x = true → op' x = true
  md : ∀ x, dn x = true → dn' x = true
  on : ∀ x, op x = true → dn x = false → dn' x = false ∧ ∀ d, d < 64 → g' (x * 64 + d) = g (x * 64 + d)
  no : ∀ x, op' x = true → dn' x = false → op x = true ∧ dn x = false

/-- Between two parents of c. -/
structure VMid (p : List (List Int)) (c i : Nat) (dn op g dn' op' g' : Nat → Bool) : Prop where
  inv : VInv p dn' op' g'
  oc : op' c = true
  nc : dn' c = false
  row : ∀ d, d < 64 → (g' (c * 64 + d) = true ↔ d = c ∨ ∃ j, j < i ∧ Rch p ((p.getD c []).getD j 0).toNat d)
  par : ∀ j, j < i → dn' ((p.getD c []).getD j 0).toNat = true
  mo : ∀ x, op x = true → op' x = true
  md : ∀ x, dn x = true → dn' x = true
  on : ∀ x, op x = true → dn x = false → dn' x = false ∧ ∀ d, d < 64 → g' (x * 64 + d) = g (x * 64 + d)
  no : ∀ x, op' x = true → dn' x = false → x = c ∨ (op x = true ∧ dn x = false)

theorem VMid.start {p : List (List Int)} {c : Nat} {dn op g : Nat → Bool} (h : VInv p dn op g) (hc : op c = false) (hl : c < 64) (hn : c < p.length) : VMid p c 0 dn op g dn (upd op c true) (upd g (c * 64 + c) true) := by
  have hdc : dn c = false := by
    cases hd : dn c with
    | false => rfl
    | true => have := h.d_o c hd; rw [hc] at this; cases this
  refine ⟨⟨fun x hx => ?_, fun x d hx hd hdn => ?_, fun x d hx hd ho => ?_, h.clo, h.acy, fun x hx => (by unfold upd at hx; split at hx <;> first | (rename_i e; rw [e]; exact hn) | exact h.lim x hx)⟩, by simp [upd], hdc, fun d hd => ?_, fun j hj => by omega, fun x hx => ?_, fun x hx => hx, fun x hx hd => ⟨hd, fun d hd2 => ?_⟩, fun x ho hd => ?_⟩
  · unfold upd; split
    · rfl
    · exact h.d_o x hx
  · have : x ≠ c := by rintro rfl; rw [hdc] at hdn; cases hdn
    unfold upd
    rw [if_neg (by omega)]
    exact h.row x d hx hd hdn
  · unfold upd at ho ⊢
    by_cases e : x = c
    · rw [if_pos e] at ho; cases ho
    · rw [if_neg e] at ho
      rw [if_neg (by omega)]
      exact h.emp x d hx hd ho
  · unfold upd
    by_cases e : d = c
    · subst e; simp
    · rw [if_neg (by omega), h.emp c d hl hd hc]
      simp [e]
  · unfold upd; split
    · rfl
    · exact hx
  · have : x ≠ c := by rintro rfl; rw [hc] at hx; cases hx
    unfold upd
    rw [if_neg (by omega)]
  · unfold upd at ho
    by_cases e : x = c
    · exact .inl e
    · rw [if_neg e] at ho; exact .inr ⟨ho, hd⟩

/-- The rows of c and of q, joined, up to d. -/
def join (g h : Nat → Bool) (c q d : Nat) : Nat → Bool := fun k => if k / 64 = c ∧ k % 64 < d then g k || h (q * 64 + k % 64) else g k

theorem join_zero (g h : Nat → Bool) (c q : Nat) : join g h c q 0 = g := by
  funext k; unfold join; rw [if_neg (by omega)]
theorem join_at (g h : Nat → Bool) (c q : Nat) {d : Nat} (hd : d < 64) : join g h c q d (c * 64 + d) = g (c * 64 + d) := by
  unfold join; rw [if_neg (by omega)]
theorem join_succ (g h : Nat → Bool) (c q : Nat) {d : Nat} (hd : d < 64) : upd (join g h c q d) (c * 64 + d) (g (c * 64 + d) || h (q * 64 + d)) = join g h c q (d + 1) := by
  funext k
  unfold upd join
  by_cases e : k = c * 64 + d
  · subst e
    have h1 : (c * 64 + d) / 64 = c := by omega
    have h2 : (c * 64 + d) % 64 = d := by omega
    rw [if_pos rfl, if_pos ⟨h1, by omega⟩, h2]
  · rw [if_neg e]
    by_cases e2 : k / 64 = c ∧ k % 64 < d
    · rw [if_pos e2, if_pos ⟨e2.1, by omega⟩]
    · rw [if_neg e2, if_neg (by omega)]

open Classical in
theorem relG_iff (p : List (List Int)) {c d : Nat} (hc : c < p.length) (hd : d < 64) : relG p (c * 64 + d) = true ↔ Rch p c d := by
  unfold relG
  have h1 : (c * 64 + d) / 64 = c := by omega
  have h2 : (c * 64 + d) % 64 = d := by omega
  rw [h1, h2, decide_eq_true_iff]
  exact ⟨fun h => h.2, fun h => ⟨hc, h⟩⟩

open Classical in
theorem relG_hi (p : List (List Int)) {c d : Nat} (hc : ¬ c < p.length) (hd : d < 64) : relG p (c * 64 + d) = false := by
  unfold relG
  have h1 : (c * 64 + d) / 64 = c := by omega
  rw [h1]
  exact decide_eq_false fun h => hc h.1

/-- After one more parent. -/
theorem VMid.next {p : List (List Int)} {c i q : Nat} {dn op g dn' op' g' dn2 op2 g2 : Nat → Bool} (h : VMid p c i dn op g dn' op' g') (k : VPost p q dn' op' g' dn2 op2 g2) (hc : c < p.length) (h0 : op c = false) (hp : p.length ≤ 64) (hq : q < p.length) (hqi : ((p.getD c []).getD i 0).toNat = q) :
    VMid p c (i + 1) dn op g dn2 op2 (join g2 (relG p) c q 64) := by
  obtain ⟨hn, hr⟩ := k.on c h.oc h.nc
  have hoth : ∀ x d, x ≠ c → d < 64 → join g2 (relG p) c q 64 (x * 64 + d) = g2 (x * 64 + d) := by
    intro x d hx hd
    unfold join
    rw [if_neg]
    intro h; omega
  refine ⟨⟨k.inv.d_o, fun x d hx hd hdn => ?_, fun x d hx hd ho => ?_, k.inv.clo, k.inv.acy, k.inv.lim⟩, k.mo c h.oc, hn, fun d hd => ?_, fun j hj => ?_, fun x hx => k.mo x (h.mo x hx), fun x hx => k.md x (h.md x hx), fun x hx hd => ?_, fun x ho hd => ?_⟩
  · have : x ≠ c := by rintro rfl; rw [hn] at hdn; cases hdn
    rw [hoth x d this hd]
    exact k.inv.row x d hx hd hdn
  · have : x ≠ c := by rintro rfl; rw [k.mo x h.oc] at ho; cases ho
    rw [hoth x d this hd]
    exact k.inv.emp x d hx hd ho
  · have h1 : (c * 64 + d) / 64 = c := by omega
    have h2 : (c * 64 + d) % 64 = d := by omega
    have e : join g2 (relG p) c q 64 (c * 64 + d) = (g' (c * 64 + d) || relG p (q * 64 + d)) := by
      unfold join
      rw [if_pos ⟨h1, by omega⟩, h2, hr d hd]
    rw [e, Bool.or_eq_true, h.row d hd, relG_iff p hq hd]
    constructor
    · rintro ((h1 | ⟨j, h1, h2⟩) | h1)
      · exact .inl h1
      · exact .inr ⟨j, by omega, h2⟩
      · exact .inr ⟨i, by omega, by rw [hqi]; exact h1⟩
    · rintro (h1 | ⟨j, h1, h2⟩)
      · exact .inl (.inl h1)
      · by_cases e : j = i
        · subst e; rw [hqi] at h2; exact .inr h2
        · exact .inl (.inr ⟨j, by omega, h2⟩)
  · by_cases e : j = i
    · subst e; rw [hqi]; exact k.dc
    · exact k.md _ (h.par j (by omega))
  · obtain ⟨h1, h2⟩ := h.on x hx hd
    obtain ⟨h3, h4⟩ := k.on x (h.mo x hx) h1
    refine ⟨h3, fun d hd2 => ?_⟩
    by_cases e : x = c
    · subst e; rw [h0] at hx; cases hx
    · rw [hoth x d e hd2, h4 d hd2, h2 d hd2]
  · obtain ⟨h1, h2⟩ := k.no x ho hd
    exact h.no x h1 h2

theorem par_at {p : List (List Int)} (h : InR p) {c d : Nat} (hp : Par p c d) : ∃ j, j < (p.getD c []).length ∧ ((p.getD c []).getD j 0).toNat = d := by
  unfold Par at hp
  obtain ⟨j, hj, he⟩ := List.mem_iff_getElem.1 hp
  refine ⟨j, hj, ?_⟩
  rw [getD_get hj, he, Int.toNat_natCast]

theorem at_par {p : List (List Int)} (h : InR p) {c j : Nat} (hc : c < p.length) (hj : j < (p.getD c []).length) : Par p c ((p.getD c []).getD j 0).toNat := by
  unfold Par
  rw [getD_get hj]
  have hm : (p.getD c [])[j] ∈ p[c] := by
    have h1 := List.getElem_mem hj
    have e := getD_get (d := ([] : List Int)) hc
    have : ∀ y, y ∈ p.getD c [] → y ∈ p[c] := fun y hy => by rw [e] at hy; exact hy
    exact this _ h1
  have hm2 := List.getElem_mem hj
  have hpos : 0 ≤ (p.getD c [])[j] := (h _ (List.getElem_mem hc) _ hm).1
  generalize (p.getD c [])[j] = y at hm2 hpos ⊢
  rw [Int.toNat_of_nonneg hpos]
  exact hm2

/-- When all parents are done. -/
theorem VMid.done {p : List (List Int)} {c : Nat} {dn op g dn' op' g' : Nat → Bool} (hI : InR p) (h : VMid p c (p.getD c []).length dn op g dn' op' g') (hc : c < p.length) (h0 : op c = false) : VPost p c dn op g (upd dn' c true) op' g' := by
  refine ⟨⟨fun x hx => ?_, fun x d hx hd hdn => ?_, h.inv.emp, fun x d hx hpx => ?_, fun x hx hin => ?_, h.inv.lim⟩, by simp [upd], h.mo, fun x hx => ?_, fun x hx hd => ?_, fun x ho hd => ?_⟩
  · unfold upd at hx
    by_cases e : x = c
    · subst e; exact h.oc
    · rw [if_neg e] at hx; exact h.inv.d_o x hx
  · by_cases e : x = c
    · subst e
      have a := h.row d hd
      have b := relG_iff p hx hd
      have key : (g' (x * 64 + d) = true) ↔ relG p (x * 64 + d) = true := by
        rw [a, b]
        constructor
        · rintro (h1 | ⟨j, h1, h2⟩)
          · subst h1; exact .refl _
          · exact .step (at_par hI hx h1) h2
        · intro hr
          cases hr with
          | refl => exact .inl rfl
          | step h1 h2 =>
            obtain ⟨j, hj, he⟩ := par_at hI h1
            exact .inr ⟨j, hj, by rw [he]; exact h2⟩
      cases h1 : g' (x * 64 + d) <;> cases h2 : relG p (x * 64 + d) <;> simp_all
    · unfold upd at hdn
      rw [if_neg e] at hdn
      exact h.inv.row x d hx hd hdn
  · unfold upd at hx ⊢
    by_cases e2 : d = c
    · rw [if_pos e2]
    · rw [if_neg e2]
      by_cases e : x = c
      · subst e
        obtain ⟨j, hj, he⟩ := par_at hI hpx
        have := h.par j hj
        rwa [he] at this
      · rw [if_neg e] at hx; exact h.inv.clo x d hx hpx
  · by_cases e : x = c
    · subst e
      obtain ⟨y, h1, h2⟩ := hin
      obtain ⟨j, hj, he⟩ := par_at hI h1
      have hy := h.par j hj
      rw [he] at hy
      have := h.inv.rch h2 hy
      rw [h.nc] at this; cases this
    · unfold upd at hx
      rw [if_neg e] at hx
      exact h.inv.acy x hx hin
  · unfold upd; split
    · rfl
    · exact h.md x hx
  · have : x ≠ c := by rintro rfl; rw [h0] at hx; cases hx
    obtain ⟨h1, h2⟩ := h.on x hx hd
    refine ⟨?_, h2⟩
    unfold upd; rw [if_neg this]; exact h1
  · unfold upd at hd
    by_cases e : x = c
    · rw [if_pos e] at hd; cases hd
    · rw [if_neg e] at hd
      rcases h.no x ho hd with h1 | h1
      · exact absurd h1 e
      · exact h1

end Go.Proofs
