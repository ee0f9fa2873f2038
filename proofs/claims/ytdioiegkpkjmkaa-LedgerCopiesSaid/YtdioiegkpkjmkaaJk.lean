/-
  The ledger: whether entries are sound; contract.
-/
import Derived.Test.YtdioiegkpkjmkaaJi
namespace Go.Proofs
open Go.Pa
set_option linter.unusedSimpArgs false
set_option linter.unusedVariables false
set_option maxRecDepth 20000
set_option maxHeartbeats 4000000

theorem i64_okk {n : Int} (h : -9223372036854775808 ≤ n) (h' : n < 9223372036854775808) : Okk .i64 n := by
  simp [Okk, IntKind.min, IntKind.max, IntKind.signed, IntKind.bits]; omega

theorem pk_eq {a c x y : Int} : (AV.agg [.int .i64 a, .int .i64 c] = AV.agg [.int .i64 x, .int .i64 y]) ↔ a = x ∧ c = y := by
  constructor
  · intro h; injection h with h; injection h with h1 h; injection h with h2 _; injection h1 with _ h1; injection h2 with _ h2; exact ⟨h1, h2⟩
  · rintro ⟨rfl, rfl⟩; rfl

abbrev pk (a c : Int) : AV := .agg [.int .i64 a, .int .i64 c]
def PK (k : AV) : Prop := ∃ a c, Okk .i64 a ∧ Okk .i64 c ∧ k = pk a c

theorem pk_ok {k : AV} (h : PK k) : keyOkA Try.prog 101 k := by
  obtain ⟨a, c, ha, hc, rfl⟩ := h
  exact keyOk_struct2 (q := .i64) (q' := .i64) Try.underlying101 (by kernel_rfl) (by kernel_rfl) (by kernel_rfl) (by kernel_rfl) (by kernel_rfl) (by kernel_rfl) (by kernel_rfl) (by kernel_rfl) (by kernel_rfl) (by kernel_rfl) (of_decide_eq_true (by kernel_rfl)) ha hc

/-! ### Two purses are laid, in any order -/

def V8 (E : Ent) (j : Nat) : AV := match j with
  | 0 => .iptr ((entA E).drop 1) | 1 => .int .i64 E.fr | 2 => .iptr ((entA E).drop 3) | 3 => .int .i64 E.cur | 4 => pk E.fr E.cur
  | 5 => .iptr ((entA E).drop 2) | 6 => .int .i64 E.to | 7 => .iptr ((entA E).drop 3) | 8 => .int .i64 E.cur | 9 => pk E.to E.cur | _ => .nils

structure PInv (E : Ent) (base : Env) (s0 : Store) (x y : Nat) (L : Nat → Bool) (e : Env) (s : Store) : Prop where
  ext : Ext s0 s
  bs : ∀ t v, base.get t = some v → e.get t = some v
  val : ∀ j, j ≤ 9 → L j = true → e.get (26 + j) = some (V8 E j)
  o10 : L 10 = true → e.get 8 = some (.ptr x 0) ∧ s0.length ≤ x ∧ ∃ u v, s[x]? = some (.box [u, v]) ∧ (L 12 = true → u = .int .i64 E.fr ∧ v = .int .i64 E.cur)
  o11 : L 11 = true → e.get 9 = some (.ptr y 0) ∧ s0.length ≤ y ∧ ∃ u v, s[y]? = some (.box [u, v]) ∧ (L 13 = true → u = .int .i64 E.to ∧ v = .int .i64 E.cur)
  ne : L 10 = true → L 11 = true → x ≠ y
  a12 : L 12 = true → L 10 = true
  a13 : L 13 = true → L 11 = true

theorem get_ne {e : Env} {t u : Nat} {v : AV} (h : t ≠ u) : Env.get ((t, v) :: e) u = e.get u := by
  simp only [Env.get]; rw [if_neg h]
theorem get_eq {e : Env} {t : Nat} {v : AV} : Env.get ((t, v) :: e) t = some v := by
  simp only [Env.get, if_true]
theorem look_of {e : Env} {t : Nat} {v : AV} (h : e.get t = some v) : lookA e t = v := by
  rw [← lookA_get, h]

section
variable {E : Ent} {base : Env} {s0 : Store} {x y : Nat} {L L' : Nat → Bool} {e : Env} {s : Store} (hb : ∀ t v, base.get t = some v → t ≠ 8 ∧ t ≠ 9 ∧ t < 26)
include hb

theorem PInv.tmp (h : PInv E base s0 x y L e s) {i : Nat} (hL : ∀ j, L' j = true ↔ j = i ∨ L j = true) (hi : i ≤ 9) : PInv E base s0 x y L' ((26 + i, V8 E i) :: e) s := by
  have go : ∀ j, 10 ≤ j → (L' j = true ↔ L j = true) := fun j hj => by rw [hL]; constructor <;> intro h <;> first | exact .inr h | (rcases h with h | h <;> first | exact h | omega)
  refine ⟨h.ext, fun t v ht => ?_, fun j hj hl => ?_, fun hl => ?_, fun hl => ?_, fun h1 h2 => h.ne ((go 10 (by omega)).1 h1) ((go 11 (by omega)).1 h2), fun hl => (go 10 (by omega)).2 (h.a12 ((go 12 (by omega)).1 hl)), fun hl => (go 11 (by omega)).2 (h.a13 ((go 13 (by omega)).1 hl))⟩
  · have := hb t v ht
    rw [get_ne (by omega)]; exact h.bs t v ht
  · by_cases hji : j = i
    · subst hji; exact get_eq
    · rw [get_ne (by omega)]
      rcases (hL j).1 hl with h1 | h1
      · exact absurd h1 hji
      · exact h.val j hj h1
  · obtain ⟨h1, h2, u, v, h3, h4⟩ := h.o10 ((go 10 (by omega)).1 hl)
    exact ⟨by rw [get_ne (by omega)]; exact h1, h2, u, v, h3, fun h5 => h4 ((go 12 (by omega)).1 h5)⟩
  · obtain ⟨h1, h2, u, v, h3, h4⟩ := h.o11 ((go 11 (by omega)).1 hl)
    exact ⟨by rw [get_ne (by omega)]; exact h1, h2, u, v, h3, fun h5 => h4 ((go 13 (by omega)).1 h5)⟩

theorem PInv.new10 (h : PInv E base s0 x y L e s) (hL : ∀ j, L' j = true ↔ j = 10 ∨ L j = true) (hun : L 10 = false) (z w : AV) : PInv E base s0 s.length y L' ((8, .ptr s.length 0) :: e) (s ++ [.box [z, w]]) := by
  have go : ∀ j, j ≠ 10 → (L' j = true ↔ L j = true) := fun j hj => by rw [hL]; constructor <;> intro h <;> first | exact .inr h | (rcases h with h | h <;> first | exact h | omega)
  have n12 : ¬ L 12 = true := fun h1 => by have := h.a12 h1; rw [hun] at this; cases this
  refine ⟨h.ext.push _, fun t v ht => ?_, fun j hj hl => ?_, fun hl => ⟨get_eq, h.ext.len, z, w, by simp, fun h5 => absurd ((go 12 (by omega)).1 h5) n12⟩, fun hl => ?_, fun h1 h2 => ?_, fun hl => absurd ((go 12 (by omega)).1 hl) n12, fun hl => (go 11 (by omega)).2 (h.a13 ((go 13 (by omega)).1 hl))⟩
  · have := hb t v ht
    rw [get_ne (by omega)]; exact h.bs t v ht
  · rw [get_ne (by omega)]; exact h.val j hj ((go j (by omega)).1 hl)
  · obtain ⟨h1, h2, u, v, h3, h4⟩ := h.o11 ((go 11 (by omega)).1 hl)
    exact ⟨by rw [get_ne (by omega)]; exact h1, h2, u, v, Ext.app s _ _ _ h3, fun h5 => h4 ((go 13 (by omega)).1 h5)⟩
  · obtain ⟨_, _, u, v, h3, _⟩ := h.o11 ((go 11 (by omega)).1 h2)
    have := (List.getElem?_eq_some_iff.1 h3).1
    omega

theorem PInv.new11 (h : PInv E base s0 x y L e s) (hL : ∀ j, L' j = true ↔ j = 11 ∨ L j = true) (hun : L 11 = false) (z w : AV) : PInv E base s0 x s.length L' ((9, .ptr s.length 0) :: e) (s ++ [.box [z, w]]) := by
  have go : ∀ j, j ≠ 11 → (L' j = true ↔ L j = true) := fun j hj => by rw [hL]; constructor <;> intro h <;> first | exact .inr h | (rcases h with h | h <;> first | exact h | omega)
  have n13 : ¬ L 13 = true := fun h1 => by have := h.a13 h1; rw [hun] at this; cases this
  refine ⟨h.ext.push _, fun t v ht => ?_, fun j hj hl => ?_, fun hl => ?_, fun hl => ⟨get_eq, h.ext.len, z, w, by simp, fun h5 => absurd ((go 13 (by omega)).1 h5) n13⟩, fun h1 h2 => ?_, fun hl => (go 10 (by omega)).2 (h.a12 ((go 12 (by omega)).1 hl)), fun hl => absurd ((go 13 (by omega)).1 hl) n13⟩
  · have := hb t v ht
    rw [get_ne (by omega)]; exact h.bs t v ht
  · rw [get_ne (by omega)]; exact h.val j hj ((go j (by omega)).1 hl)
  · obtain ⟨h1, h2, u, v, h3, h4⟩ := h.o10 ((go 10 (by omega)).1 hl)
    exact ⟨by rw [get_ne (by omega)]; exact h1, h2, u, v, Ext.app s _ _ _ h3, fun h5 => h4 ((go 12 (by omega)).1 h5)⟩
  · obtain ⟨_, _, u, v, h3, _⟩ := h.o10 ((go 10 (by omega)).1 h1)
    have := (List.getElem?_eq_some_iff.1 h3).1
    omega

omit hb in
theorem PInv.sto12 (h : PInv E base s0 x y L e s) (hL : ∀ j, L' j = true ↔ j = 12 ∨ L j = true) (l10 : L 10 = true) : PInv E base s0 x y L' e (s.set x (.box [.int .i64 E.fr, .int .i64 E.cur])) := by
  have go : ∀ j, j ≠ 12 → (L' j = true ↔ L j = true) := fun j hj => by rw [hL]; constructor <;> intro h <;> first | exact .inr h | (rcases h with h | h <;> first | exact h | omega)
  obtain ⟨g1, g2, u, v, g3, g4⟩ := h.o10 l10
  have hx := (List.getElem?_eq_some_iff.1 g3).1
  refine ⟨h.ext.set g2 _, h.bs, fun j hj hl => h.val j hj ((go j (by omega)).1 hl), fun hl => ⟨g1, g2, _, _, List.getElem?_set_self hx, fun _ => ⟨rfl, rfl⟩⟩, fun hl => ?_, fun h1 h2 => h.ne l10 ((go 11 (by omega)).1 h2), fun hl => (go 10 (by omega)).2 l10, fun hl => (go 11 (by omega)).2 (h.a13 ((go 13 (by omega)).1 hl))⟩
  obtain ⟨h1, h2, u, v, h3, h4⟩ := h.o11 ((go 11 (by omega)).1 hl)
  exact ⟨h1, h2, u, v, by rw [List.getElem?_set_ne (h.ne l10 ((go 11 (by omega)).1 hl))]; exact h3, fun h5 => h4 ((go 13 (by omega)).1 h5)⟩

omit hb in
theorem PInv.sto13 (h : PInv E base s0 x y L e s) (hL : ∀ j, L' j = true ↔ j = 13 ∨ L j = true) (l11 : L 11 = true) : PInv E base s0 x y L' e (s.set y (.box [.int .i64 E.to, .int .i64 E.cur])) := by
  have go : ∀ j, j ≠ 13 → (L' j = true ↔ L j = true) := fun j hj => by rw [hL]; constructor <;> intro h <;> first | exact .inr h | (rcases h with h | h <;> first | exact h | omega)
  obtain ⟨g1, g2, u, v, g3, g4⟩ := h.o11 l11
  have hy := (List.getElem?_eq_some_iff.1 g3).1
  refine ⟨h.ext.set g2 _, h.bs, fun j hj hl => h.val j hj ((go j (by omega)).1 hl), fun hl => ?_, fun hl => ⟨g1, g2, _, _, List.getElem?_set_self hy, fun _ => ⟨rfl, rfl⟩⟩, fun h1 h2 => h.ne ((go 10 (by omega)).1 h1) l11, fun hl => (go 10 (by omega)).2 (h.a12 ((go 12 (by omega)).1 hl)), fun hl => (go 11 (by omega)).2 l11⟩
  obtain ⟨h1, h2, u, v, h3, h4⟩ := h.o10 ((go 10 (by omega)).1 hl)
  exact ⟨h1, h2, u, v, by rw [List.getElem?_set_ne (fun e => h.ne ((go 10 (by omega)).1 hl) l11 e.symm)]; exact h3, fun h5 => h4 ((go 12 (by omega)).1 h5)⟩
end

/-! ### An entry of a map is laid and written, the old value read before or after it is laid -/

structure QInv (base : Env) (T : Nat) (V : Nat → AV) (s0 sE sS : Store) (L : Nat → Bool) (e : Env) (s : Store) : Prop where
  st : s = if L 8 = true then sS else if L 6 = true then sE else s0
  bs : ∀ t v, base.get t = some v → e.get t = some v
  val : ∀ j, j ≤ 7 → L j = true → e.get (T + j) = some (V j)
  a5 : L 5 = true → L 2 = true
  a8 : L 8 = true → L 6 = true ∧ L 2 = true

section
variable {base : Env} {T : Nat} {V : Nat → AV} {s0 sE sS : Store} {L L' : Nat → Bool} {e : Env} {s : Store}

theorem QInv.put (h : QInv base T V s0 sE sS L e s) (hb : ∀ t v, base.get t = some v → t < T) {i : Nat} (hL : ∀ j, L' j = true ↔ j = i ∨ L j = true) (hi : i ≤ 7) (h5 : i = 5 → L 2 = true) (s' : Store) (hs : s' = if L' 8 = true then sS else if L' 6 = true then sE else s0) :
    QInv base T V s0 sE sS L' ((T + i, V i) :: e) s' := by
  refine ⟨hs, fun t v ht => ?_, fun j hj hl => ?_, fun hl => ?_, fun hl => ?_⟩
  · have := hb t v ht
    rw [get_ne (by omega)]; exact h.bs t v ht
  · by_cases hji : j = i
    · subst hji; exact get_eq
    · rw [get_ne (by omega)]
      rcases (hL j).1 hl with h1 | h1
      · exact absurd h1 hji
      · exact h.val j hj h1
  · rcases (hL 5).1 hl with h1 | h1
    · exact (hL 2).2 (.inr (h5 h1.symm))
    · exact (hL 2).2 (.inr (h.a5 h1))
  · rcases (hL 8).1 hl with h1 | h1
    · omega
    · exact ⟨(hL 6).2 (.inr (h.a8 h1).1), (hL 2).2 (.inr (h.a8 h1).2)⟩

theorem QInv.tmp (h : QInv base T V s0 sE sS L e s) (hb : ∀ t v, base.get t = some v → t < T) {i : Nat} (hL : ∀ j, L' j = true ↔ j = i ∨ L j = true) (hi : i ≤ 7) (h6 : i ≠ 6) (h5 : i = 5 → L 2 = true) : QInv base T V s0 sE sS L' ((T + i, V i) :: e) s := by
  have g6 : L' 6 = true ↔ L 6 = true := by rw [hL]; constructor <;> intro h <;> first | exact .inr h | (rcases h with h | h <;> first | exact h | omega)
  have g8 : L' 8 = true ↔ L 8 = true := by rw [hL]; constructor <;> intro h <;> first | exact .inr h | (rcases h with h | h <;> first | exact h | omega)
  refine h.put hb hL hi h5 s ?_
  rw [h.st]
  simp only [g6, g8]

theorem QInv.now (h : QInv base T V s0 sE sS L e s) (hun : L 2 = false) : s = if L 6 = true then sE else s0 := by
  have h8 : ¬ L 8 = true := fun h1 => by have := (h.a8 h1).2; rw [hun] at this; cases this
  rw [h.st, if_neg h8]

theorem QInv.ent (h : QInv base T V s0 sE sS L e s) (hb : ∀ t v, base.get t = some v → t < T) (hL : ∀ j, L' j = true ↔ j = 6 ∨ L j = true) (hun : L 6 = false) : s = s0 ∧ QInv base T V s0 sE sS L' ((T + 6, V 6) :: e) sE := by
  have h8 : ¬ L 8 = true := fun h1 => by have := (h.a8 h1).1; rw [hun] at this; cases this
  have h6 : ¬ L 6 = true := by rw [hun]; decide
  have g8 : ¬ L' 8 = true := by rw [hL]; rintro (h | h); omega; exact h8 h
  refine ⟨by rw [h.st, if_neg h8, if_neg h6], h.put hb hL (by decide) (by omega) _ ?_⟩
  rw [if_neg g8, if_pos ((hL 6).2 (.inl rfl))]

theorem QInv.sto (h : QInv base T V s0 sE sS L e s) (hL : ∀ j, L' j = true ↔ j = 8 ∨ L j = true) (hun : L 8 = false) (l5 : L 5 = true) (l6 : L 6 = true) : s = sE ∧ QInv base T V s0 sE sS L' e sS := by
  have go : ∀ j, j ≠ 8 → (L' j = true ↔ L j = true) := fun j hj => by rw [hL]; constructor <;> intro h <;> first | exact .inr h | (rcases h with h | h <;> first | exact h | omega)
  refine ⟨by rw [h.st, if_neg (by rw [hun]; decide), if_pos l6], ?_, h.bs, fun j hj hl => h.val j hj ((go j (by omega)).1 hl), fun hl => (go 2 (by omega)).2 (h.a5 ((go 5 (by omega)).1 hl)), fun _ => ⟨(go 6 (by omega)).2 l6, (go 2 (by omega)).2 (h.a5 l5)⟩⟩
  rw [if_pos ((hL 8).2 (.inl rfl))]
end

/-- What the rounds know of the frame. -/
abbrev baseE (e : Ent) (i : Nat) (Z : List Ent) (m : Nat) : Env := [(8, .iptr [.int .i64 e.fr, .int .i64 e.cur]), (9, .iptr [.int .i64 e.to, .int .i64 e.cur]), (7, .iptr (entA e)), (6, .int .i64 i), (21, .int .i64 i), (20, .int .i64 Z.length), (19, esV Z), (3, esV Z), (4, .mp m), (5, .mp (m + 1))]
theorem baseE_lt {e : Ent} {i : Nat} {Z : List Ent} {m : Nat} {T : Nat} (hT : 36 ≤ T) : ∀ t v, Env.get (baseE e i Z m) t = some v → t < T := by
  intro t v h
  rcases Nat.lt_or_ge t T with h1 | h1
  · exact h1
  · exfalso
    simp only [baseE, Env.get, show ¬ 8 = t by omega, show ¬ 9 = t by omega, show ¬ 7 = t by omega, show ¬ 6 = t by omega, show ¬ 21 = t by omega, show ¬ 20 = t by omega, show ¬ 19 = t by omega, show ¬ 3 = t by omega, show ¬ 4 = t by omega, show ¬ 5 = t by omega, if_false] at h
    cases h

end Go.Proofs
