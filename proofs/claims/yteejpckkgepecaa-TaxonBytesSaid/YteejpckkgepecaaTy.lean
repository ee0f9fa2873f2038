/-
  Taxonomies: a list of parents that is spoilt; plain; rows of slices of their own, sealed all but one.
-/
import Derived.Test.YteejpckkgepecaaTx
namespace Go.Proofs
open Go.Pa
set_option linter.unusedSimpArgs false
set_option linter.unusedVariables false
set_option maxRecDepth 20000
set_option maxHeartbeats 2000000

def growK (p : List (List Int)) (k : Nat) : List (List Int) := p ++ (List.range k).map fun j => [((p.length + j : Nat) : Int) - 1]

theorem growK_len (p : List (List Int)) (k : Nat) : (growK p k).length = p.length + k := by simp [growK]
theorem growK_succ (p : List (List Int)) (k : Nat) : growK p (k + 1) = growK p k ++ [[((p.length + k : Nat) : Int) - 1]] := by
  unfold growK
  rw [List.range_succ, List.map_append, ← List.append_assoc]; rfl

def spoilC (p : List (List Int)) (i : Nat) (c b : Int) : List (List Int) :=
  if c = 0 then p.set i (p.getD i [] ++ [b]) else if c = 1 then p.set i [aroundI b ((p.length : Int) + 1)] else if c = 2 then p.set i (aroundI b p.length :: p.getD i [])
  else if c = 3 then growK p (63 + (aroundI b 3).toNat - p.length) else p.take i

def spoilI (p : List (List Int)) (a h b : Int) : List (List Int) :=
  if p = [] then [[b]] else spoilC p (aroundI a p.length).toNat (aroundI h 5) b

/-- What is said of all lists that come here. -/
structure SmallP (p : List (List Int)) (m : Nat) : Prop where
  len : p.length ≤ 65
  rows : ∀ r ∈ p, r.length ≤ m
  okk : ∀ r ∈ p, ∀ x ∈ r, Okk .i64 x

theorem okk_small {x : Int} (h : -1000000 ≤ x) (h2 : x ≤ 1000000) : Okk .i64 x := by
  have h3 : (-9223372036854775808 : Int) ≤ x ∧ x ≤ 9223372036854775807 := by omega
  exact h3

theorem spoil_small {p : List (List Int)} {m : Nat} (hp : SmallP p m) (hm : 1 ≤ m) (a h b : Int) (hh : Okk .i64 h) (hb : Okk .i64 b) : SmallP (spoilI p a h b) (m + 1) := by
  unfold spoilI
  split
  · exact ⟨by simp, fun r hr => by simp at hr; subst hr; simp, fun r hr x hx => by simp at hr; subst hr; simp at hx; subst hx; exact hb⟩
  · rename_i hne
    have hpl : 0 < p.length := by cases p with
      | nil => exact absurd rfl hne
      | cons _ _ => simp
    have hpl2 := hp.len
    generalize (aroundI a p.length).toNat = i
    generalize aroundI h 5 = c
    have h1 := aroundI_bound hb (m := (p.length : Int) + 1) (by omega)
    have h2 := aroundI_bound hb (m := (p.length : Int)) (by omega)
    have h3 := aroundI_bound hb (m := 3) (by omega)
    have hrow : ∀ (hg : i < p.length), (p.getD i []).length ≤ m ∧ ∀ x ∈ p.getD i [], Okk .i64 x := fun hg => by
      rw [getD_get hg]
      exact ⟨hp.rows _ (List.getElem_mem hg), hp.okk _ (List.getElem_mem hg)⟩
    have hset : ∀ row : List Int, (i < p.length → row.length ≤ m + 1 ∧ ∀ x ∈ row, Okk .i64 x) → SmallP (p.set i row) (m + 1) := fun row hr => by
      refine ⟨by simp; omega, fun r h => ?_, fun r h => ?_⟩
      · rcases List.mem_or_eq_of_mem_set h with h | rfl
        · have := hp.rows r h; omega
        · by_cases hi : i < p.length
          · exact (hr hi).1
          · rw [List.set_eq_of_length_le (by omega)] at h
            have := hp.rows _ h; omega
      · rcases List.mem_or_eq_of_mem_set h with h | rfl
        · exact hp.okk r h
        · by_cases hi : i < p.length
          · exact (hr hi).2
          · rw [List.set_eq_of_length_le (by omega)] at h
            exact hp.okk _ h
    unfold spoilC
    split
    · refine hset _ fun hi => ⟨?_, fun x hx => ?_⟩
      · have := (hrow hi).1
        rw [List.length_append, List.length_cons, List.length_nil]; omega
      · rcases List.mem_append.1 hx with hx | hx
        · exact (hrow hi).2 x hx
        · simp at hx; subst hx; exact hb
    · split
      · exact hset _ fun hi => ⟨by simp, fun x hx => by simp at hx; subst hx; exact okk_small (by omega) (by omega)⟩
      · split
        · refine hset _ fun hi => ⟨?_, fun x hx => ?_⟩
          · have := (hrow hi).1
            rw [List.length_cons]; omega
          · rcases List.mem_cons.1 hx with rfl | hx
            · exact okk_small (by omega) (by omega)
            · exact (hrow hi).2 x hx
        · split
          · refine ⟨by rw [growK_len]; omega, fun r h => ?_, fun r h x hx => ?_⟩
            · unfold growK at h
              rcases List.mem_append.1 h with h | h
              · have := hp.rows r h; omega
              · obtain ⟨j, -, rfl⟩ := List.mem_map.1 h
                simp
            · unfold growK at h
              rcases List.mem_append.1 h with h | h
              · exact hp.okk r h x hx
              · obtain ⟨j, hj, rfl⟩ := List.mem_map.1 h
                have := List.mem_range.1 hj
                simp at hx; subst hx; exact okk_small (by omega) (by omega)
          · refine ⟨?_, fun r h => ?_, fun r h => hp.okk r (List.mem_of_mem_take h)⟩
            · rw [List.length_take]; omega
            · have := hp.rows r (List.mem_of_mem_take h); omega

/-! ### Rows of one cell -/

def rowsX (X : List AV) : List (List AV) := X.map fun x => [x]

theorem rowsX_flat : ∀ X : List AV, (rowsX X).flatten = X
  | [] => rfl
  | x :: X => by
    have := rowsX_flat X
    unfold rowsX at this ⊢
    rw [List.map_cons, List.flatten_cons, this]; rfl
theorem rowsX_len (X : List AV) : (rowsX X).length = X.length := by simp [rowsX]
theorem rowsX_one (X : List AV) : ∀ r ∈ rowsX X, r.length = 1 := by
  intro r h
  obtain ⟨x, -, rfl⟩ := List.mem_map.1 h
  rfl
theorem rowsX_snoc (X : List AV) (x : AV) : rowsX (X ++ [x]) = rowsX X ++ [[x]] := by simp [rowsX]
theorem rowsX_set (X : List AV) (i : Nat) (x : AV) : (rowsX X).set i [x] = rowsX (X.set i x) := by simp [rowsX, List.map_set]
theorem rowsX_ints (p : List (List Int)) : rowsX (p.map (AV.ints .i64)) = p.map rowI := by simp [rowsX, rowI]
theorem rowsX_get (X : List AV) {i : Nat} (h : i < X.length) : (rowsX X).getD i [] = [X[i]] := by
  rw [List.getD_eq_getElem?_getD, rowsX, List.getElem?_map, List.getElem?_eq_getElem h]; rfl

def FrzX (s : Store) (n : Nat) (X : List AV) (q : List (List Int)) : Prop := X.length = q.length ∧ ∀ (i : Nat) x r, X[i]? = some x → q[i]? = some r → Frz s n x (.ints .i64 r)

theorem FrzX.fin {s : Store} {n O : Nat} {X : List AV} {q : List (List Int)} (h : FrzX s n X q) (ho : s[O]? = some (.vecR 1 (rowsX X))) (hn : n ≤ O) : Frz s n (.mvec O 0 q.length 1) (.rows 1 (q.map rowI)) := by
  refine Frz.vecR O 0 q.length 1 _ _ ho hn (by rw [rowsX_len, h.1]; omega) (by simp) (rowI_len q) fun i x y hx hy => ?_
  rw [List.drop_zero, List.take_of_length_le (by rw [rowsX_len, h.1]; exact Nat.le_refl _), rowsX_flat] at hx
  rw [← rowsX_ints, rowsX_flat, List.getElem?_map] at hy
  cases hq : q[i]? with
  | none => rw [hq] at hy; cases hy
  | some r => rw [hq] at hy; cases hy; exact h.2 i x r hx hq

theorem frzX_ints (s : Store) (n : Nat) (p : List (List Int)) : FrzX s n (p.map (AV.ints .i64)) p := by
  refine ⟨by simp, fun i x r hx hr => ?_⟩
  rw [List.getElem?_map, hr] at hx
  cases hx
  exact .same _ rfl

theorem FrzX.set {s : Store} {n : Nat} {p : List (List Int)} (i : Nat) {x : AV} {r : List Int} (h : Frz s n x (.ints .i64 r)) : FrzX s n ((p.map (AV.ints .i64)).set i x) (p.set i r) := by
  refine ⟨by simp, fun j y z hy hz => ?_⟩
  rw [List.getElem?_set] at hy hz
  split at hy
  · rename_i e
    rw [if_pos e] at hz
    subst e
    split at hy
    · cases hy
      rename_i hlt2
      rw [if_pos (by rw [List.length_map] at hlt2; exact hlt2)] at hz
      cases hz
      exact h
    · cases hy
  · rename_i e
    rw [if_neg e] at hz
    exact (frzX_ints s n p).2 j y z hy hz

def idA : AV → Option Nat
  | .mvec j _ _ _ => some j
  | _ => none

/-- Rows that stand in slices of their own, each in another one. -/
structure RowX (s : Store) (n : Nat) (X : List AV) (p : List (List Int)) : Prop where
  len : X.length = p.length
  buf : ∀ (i : Nat) x r, X[i]? = some x → p[i]? = some r → BufI s n x .i64 r
  ne : ∀ (a b : Nat) x y j, a ≠ b → X[a]? = some x → X[b]? = some y → idA x = some j → idA y ≠ some j

theorem bufI_id {s : Store} {n : Nat} {x : AV} {k : IntKind} {l : List Int} (h : BufI s n x k l) {j : Nat} (hj : idA x = some j) : s[j]? = some (.vecI k l) ∧ n ≤ j ∧ x = .mvec j 0 l.length 1 := by
  rcases h with ⟨rfl | rfl, -⟩ | ⟨id, rfl, h2, h3⟩
  · cases hj
  · cases hj
  · cases hj; exact ⟨h2, h3, rfl⟩

theorem RowX.nil (s : Store) (n : Nat) : RowX s n [] [] := ⟨rfl, fun i x r h => by simp at h, fun a b x y j _ h => by simp at h⟩

theorem RowX.keep {s s' : Store} {n : Nat} {X : List AV} {p : List (List Int)} (h : RowX s n X p) (hk : ∀ (j : Nat) k l, s[j]? = some (.vecI k l) → s'[j]? = some (.vecI k l)) : RowX s' n X p :=
  ⟨h.len, fun i x r hx hr => bufI_keepV (h.buf i x r hx hr) hk, h.ne⟩

theorem RowX.snoc {s s' : Store} {n : Nat} {X : List AV} {p : List (List Int)} (h : RowX s n X p) (hn : n ≤ s.length) (hk : ∀ (j : Nat) k l, s[j]? = some (.vecI k l) → s'[j]? = some (.vecI k l)) {x : AV} {r : List Int} (hb : BufI s' s.length x .i64 r) :
    RowX s' n (X ++ [x]) (p ++ [r]) := by
  have hold : ∀ (a : Nat) z j, X[a]? = some z → idA z = some j → j < s.length := fun a z j hz hj => by
    have hlt : a < p.length := by rw [← h.len]; exact (List.getElem?_eq_some_iff.1 hz).1
    exact (List.getElem?_eq_some_iff.1 (bufI_id (h.buf a z _ hz (List.getElem?_eq_getElem hlt)) hj).1).1
  have hnew : ∀ j, idA x = some j → s.length ≤ j := fun j hj => (bufI_id hb hj).2.1
  have hsp : ∀ (a : Nat) z, (X ++ [x])[a]? = some z → X[a]? = some z ∨ (a = X.length ∧ z = x) := fun a z hz => by
    rcases Nat.lt_or_ge a X.length with ha | ha
    · rw [List.getElem?_append_left ha] at hz; exact .inl hz
    · rw [List.getElem?_append_right ha] at hz
      have : a - X.length = 0 := by
        have := (List.getElem?_eq_some_iff.1 hz).1
        simp at this; omega
      rw [this] at hz
      cases hz
      exact .inr ⟨by omega, rfl⟩
  refine ⟨by simp [h.len], fun i y q hy hq => ?_, fun a b y z j hab hy hz hj hj' => ?_⟩
  · rcases hsp i y hy with h1 | ⟨rfl, rfl⟩
    · have hlt : i < p.length := by rw [← h.len]; exact (List.getElem?_eq_some_iff.1 h1).1
      rw [List.getElem?_append_left hlt] at hq
      exact bufI_keepV (h.buf i y q h1 hq) hk
    · rw [h.len, List.getElem?_append_right (Nat.le_refl _), Nat.sub_self] at hq
      cases hq
      exact bufI_low hb hn
  · rcases hsp a y hy with h1 | ⟨rfl, rfl⟩
    · rcases hsp b z hz with h2 | ⟨rfl, rfl⟩
      · exact h.ne a b y z j hab h1 h2 hj hj'
      · have := hold a y j h1 hj
        have := hnew j hj'
        omega
    · rcases hsp b z hz with h2 | ⟨rfl, rfl⟩
      · have := hold b z j h2 hj'
        have := hnew j hj
        omega
      · exact hab rfl

/-- What the rows are after all but one were sealed. -/
def shX (m : Option Nat) (X : List AV) (p : List (List Int)) : List AV := p.mapIdx fun a r => if m = some a then X.getD a .nils else .ints .i64 r

theorem shX_none (X : List AV) (p : List (List Int)) : shX none X p = p.map (AV.ints .i64) := by
  unfold shX
  apply List.ext_getElem?
  intro i
  simp

theorem shX_some (X : List AV) (p : List (List Int)) {i : Nat} (hi : i < p.length) : shX (some i) X p = (p.map (AV.ints .i64)).set i (X.getD i .nils) := by
  unfold shX
  apply List.ext_getElem?
  intro j
  rw [List.getElem?_mapIdx, List.getElem?_set, List.getElem?_map]
  by_cases e : i = j
  · subst e
    rw [if_pos rfl, if_pos (by simpa using hi), List.getElem?_eq_getElem hi]
    simp
  · rw [if_neg e]
    cases p[j]? with
    | none => rfl
    | some r => simp [e]

open Classical in
theorem shut_rows {σ s : Store} {out : AV} {X : List AV} {p : List (List Int)} (hx : Ext σ s) (hb : BufR s σ.length out 1 (rowsX X)) (hX : RowX s σ.length X p) (hp : p ≠ []) (m : Option Nat) :
    ∃ (Q : Nat → Prop) (O : Nat) (s' : Store), out = .mvec O 0 p.length 1 ∧ σ.length ≤ O ∧ ShS s Q s' ∧ Ext σ s' ∧ s'[O]? = some (.vecR 1 (rowsX (shX m X p))) ∧
      ∀ (i : Nat) r, m = some i → p[i]? = some r → BufI s' σ.length (X.getD i .nils) .i64 r ∧ idA (X.getD i .nils) ≠ some O := by
  have hpl : 0 < p.length := by cases p with
    | nil => exact absurd rfl hp
    | cons _ _ => simp
  rcases hb with ⟨-, h0⟩ | ⟨O, h1, hO, hn⟩
  · have := congrArg List.length h0
    rw [rowsX_len, hX.len, List.length_nil] at this
    omega
  rw [rowsX_len, hX.len] at h1
  let Q : Nat → Prop := fun j => σ.length ≤ j ∧ j ≠ O ∧ ∀ (a : Nat) x, m = some a → X[a]? = some x → idA x ≠ some j
  let s' : Store := s.mapIdx fun j o => if Q j then .dead else if j = O then .vecR 1 (rowsX (shX m X p)) else o
  have hget : ∀ (j : Nat) o, s[j]? = some o → s'[j]? = some (if Q j then .dead else if j = O then .vecR 1 (rowsX (shX m X p)) else o) := fun j o h => by
    show (s.mapIdx _)[j]? = _
    rw [List.getElem?_mapIdx, h]; rfl
  have hQO : ¬ Q O := fun h => h.2.1 rfl
  have hOO : s'[O]? = some (.vecR 1 (rowsX (shX m X p))) := by rw [hget O _ hO, if_neg hQO, if_pos rfl]
  refine ⟨Q, O, s', h1, hn, ⟨by show (s.mapIdx _).length = _; simp, fun j y hy => ?_⟩, fun j o hj => ?_, hOO, fun i r hm hr => ?_⟩
  · have hlt : j < s.length := by
      have := (List.getElem?_eq_some_iff.1 hy).1
      have e : s'.length = s.length := by show (s.mapIdx _).length = _; simp
      omega
    rw [hget j _ (List.getElem?_eq_getElem hlt)] at hy
    by_cases hq : Q j
    · rw [if_pos hq] at hy; cases hy; exact .inl rfl
    · rw [if_neg hq] at hy
      refine .inr ⟨hq, _, List.getElem?_eq_getElem hlt, ?_⟩
      by_cases e : j = O
      · rw [if_pos e] at hy
        cases hy
        have : s[j] = .vecR 1 (rowsX X) := by
          subst e
          have := List.getElem?_eq_getElem hlt
          rw [hO] at this
          exact (Option.some.inj this).symm
        rw [this]
        have hsl : (shX m X p).length = p.length := by simp [shX]
        refine .vecR 1 _ _ (by rw [rowsX_len, rowsX_len, hsl, hX.len]) (rowsX_one _) fun a x y hx hy => ?_
        rw [rowsX_flat] at hx hy
        have hap : a < p.length := by rw [← hsl]; exact (List.getElem?_eq_some_iff.1 hy).1
        unfold shX at hy
        rw [List.getElem?_mapIdx, List.getElem?_eq_getElem hap] at hy
        simp only [Option.map_some, Option.some.injEq] at hy
        by_cases hma : m = some a
        · rw [if_pos hma] at hy
          rw [← hy, List.getD_eq_getElem?_getD, hx]
          exact .same _
        · rw [if_neg hma] at hy
          rw [← hy]
          have hbx := hX.buf a x _ hx (List.getElem?_eq_getElem hap)
          generalize p[a] = r at hbx
          rcases hbx with ⟨h2 | h2, h3⟩ | ⟨id, h2, h3, h4⟩
          · subst h2; subst h3; exact .nilI _
          · subst h2; subst h3; exact .empI _
          · subst h2
            have := Sh.vecI (s := s) (p := Q) id 0 r.length .i64 r h3 ⟨h4, fun e => (by rw [e, hO] at h3; cases h3), fun b z hb hz hid => hX.ne a b _ z id (fun e => hma (by rw [e]; exact hb)) hx hz rfl hid⟩ (by omega)
            simpa using this
      · rw [if_neg e] at hy
        cases hy
        exact .same _
  · have hjl : j < σ.length := (List.getElem?_eq_some_iff.1 hj).1
    rw [hget j o (hx j o hj), if_neg (fun h => absurd h.1 (by omega)), if_neg (by omega)]
  · have hil : i < p.length := (List.getElem?_eq_some_iff.1 hr).1
    have hgx : X[i]? = some (X.getD i .nils) := by
      rw [List.getD_eq_getElem?_getD, List.getElem?_eq_getElem (by rw [hX.len]; exact hil)]; rfl
    have hbx := hX.buf i _ r hgx hr
    refine ⟨?_, fun h => ?_⟩
    · generalize X.getD i .nils = x at hgx hbx
      rcases hbx with h2 | ⟨id, h2, h3, h4⟩
      · exact .inl h2
      · refine .inr ⟨id, h2, ?_, h4⟩
        rw [hget id _ h3, if_neg (fun h => h.2.2 i x hm hgx (by rw [h2]; rfl)), if_neg (fun e => by rw [e, hO] at h3; cases h3)]
    · have := (bufI_id hbx h).1
      rw [hO] at this
      cases this

end Go.Proofs
