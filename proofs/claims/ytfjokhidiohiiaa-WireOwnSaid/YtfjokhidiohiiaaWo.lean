/-
  Lists of values: sealed, lent; the plain laws of reading values.
-/
import Derived.Test.YtfjokhidiohiiaaWn
namespace Go.Proofs
open Go.Pa
set_option linter.unusedSimpArgs false
set_option maxRecDepth 20000
set_option maxHeartbeats 2000000

theorem flat_rel {Q : AV → AV → Prop} {sz : Nat} : ∀ {rs rs' : List (List AV)}, rs.length = rs'.length →
    (∀ (i : Nat) r r', rs[i]? = some r → rs'[i]? = some r' → r.length = sz ∧ r'.length = sz ∧ ∀ (j : Nat) x y, r[j]? = some x → r'[j]? = some y → Q x y) →
    ∀ (i : Nat) x y, rs.flatten[i]? = some x → rs'.flatten[i]? = some y → Q x y
  | [], [], _, _, i, x, y, hx, _ => by simp at hx
  | [], _ :: _, hl, _, _, _, _, _, _ => by simp at hl
  | _ :: _, [], hl, _, _, _, _, _, _ => by simp at hl
  | r :: rs, r' :: rs', hl, h, i, x, y, hx, hy => by
    obtain ⟨h1, h2, h3⟩ := h 0 r r' rfl rfl
    rw [List.flatten_cons] at hx hy
    rcases Nat.lt_or_ge i sz with hi | hi
    · rw [List.getElem?_append_left (by omega)] at hx hy
      exact h3 i x y hx hy
    · rw [List.getElem?_append_right (by omega)] at hx hy
      rw [h1] at hx
      rw [h2] at hy
      exact flat_rel (rs := rs) (rs' := rs') (by simpa using hl) (fun j a b ha hb => h (j + 1) a b (by simpa using ha) (by simpa using hb)) _ x y hx hy

theorem ElI.sh {s s' : Store} {n : Nat} {k : IntKind} {l : List Int} {x : AV} (h : ElI s n k l x) (hx : Ext s s') : Sh s' (fun i => n ≤ i ∧ i < s.length) x (.ints k l) := by
  rcases h with (⟨rfl | rfl, rfl⟩ | ⟨id, rfl, ho, hn⟩) | rfl
  · exact .nilI k
  · exact .empI k
  · have := Sh.vecI (s := s') (p := fun i => n ≤ i ∧ i < s.length) id 0 l.length k l (hx _ _ ho) ⟨hn, (List.getElem?_eq_some_iff.1 ho).1⟩ (by omega)
    simpa using this
  · exact .same _

theorem ElI.frz {s : Store} {n : Nat} {k : IntKind} {l : List Int} {x : AV} (h : ElI s n k l x) : Frz s n x (.ints k l) := by
  rcases h with h | rfl
  · exact h.frz
  · exact .same _ rfl

theorem rowV_rel {Q : AV → AV → Prop} {s : Store} {n : Nat} {row : List AV} {v : VV} (h : RowV s n row v) (hs : ∀ x, Q x x) (hq : ∀ k l x, ElI s n k l x → Q x (.ints k l)) :
    row.length = 5 ∧ v.av.length = 5 ∧ ∀ (j : Nat) x y, row[j]? = some x → v.av[j]? = some y → Q x y := by
  obtain ⟨B, L, rfl, h1, h2⟩ := h
  refine ⟨rfl, rfl, fun j x y hx hy => ?_⟩
  match j with
  | 0 => cases hx; cases hy; exact hs _
  | 1 => cases hx; cases hy; exact hs _
  | 2 => cases hx; cases hy; exact hs _
  | 3 => cases hx; cases hy; exact hq _ _ _ h1
  | 4 => cases hx; cases hy; exact hq _ _ _ h2
  | j + 5 => simp at hx

theorem rowsV_rel {Q : AV → AV → Prop} {s : Store} {n : Nat} {rs : List (List AV)} {vs : List VV} (h : RowsV s n rs vs) (hs : ∀ x, Q x x) (hq : ∀ k l x, ElI s n k l x → Q x (.ints k l)) :
    ∀ (i : Nat) x y, rs.flatten[i]? = some x → (vs.map VV.av).flatten[i]? = some y → Q x y := by
  refine flat_rel (sz := 5) (by simp [h.1]) fun i r r' hr hr' => ?_
  rw [List.getElem?_map] at hr'
  cases hv : vs[i]? with
  | none => simp [hv] at hr'
  | some v =>
    simp [hv] at hr'
    subst hr'
    exact rowV_rel (h.2 i r v hr hv) hs hq

theorem av_five (vs : List VV) : ∀ r ∈ vs.map VV.av, r.length = 5 := by
  intro r hr
  simp only [List.mem_map] at hr
  obtain ⟨v, _, rfl⟩ := hr
  rfl

theorem shV {s s' : Store} {n : Nat} {r : AV} {rs : List (List AV)} {vs : List VV} (hb : BufR s n r 5 rs) (hv : RowsV s n rs vs) (hx : Ext s s') : Sh s' (fun i => n ≤ i ∧ i < s.length) r (VV.rows vs) := by
  unfold VV.rows
  have hf := rowsV_rel (Q := Sh s' (fun i => n ≤ i ∧ i < s.length)) hv (fun x => .same x) (fun k l x h => h.sh hx)
  rcases hb with ⟨h1, rfl⟩ | ⟨id, rfl, ho, hn⟩
  · have : vs = [] := by cases vs with
      | nil => rfl
      | cons _ _ => have := hv.1; simp at this
    subst this
    rcases h1 with rfl | rfl
    · exact .nilR 5
    · exact .empR 5
  · refine .vecR id 0 rs.length 5 rs _ (hx _ _ ho) ⟨hn, (List.getElem?_eq_some_iff.1 ho).1⟩ (by omega) (by simp [hv.1]) (av_five vs) ?_
    simpa using hf

theorem frzV' {s : Store} {n : Nat} {r : AV} {rs : List (List AV)} {vs : List VV} (hb : BufR s n r 5 rs) (hv : RowsV s n rs vs) : Frz s n r (VV.rows vs) := by
  unfold VV.rows
  have hf : ∀ (i : Nat) x y, rs.flatten[i]? = some x → (vs.map VV.av).flatten[i]? = some y → Frz s n x y := by
    refine flat_rel (sz := 5) (by simp [hv.1]) fun i r r' hr hr' => ?_
    rw [List.getElem?_map] at hr'
    cases hv' : vs[i]? with
    | none => simp [hv'] at hr'
    | some v =>
      simp [hv'] at hr'
      subst hr'
      obtain ⟨B, L, rfl, h1, h2⟩ := hv.2 i r v hr hv'
      refine ⟨rfl, rfl, fun j x y hx hy => ?_⟩
      match j with
      | 0 => cases hx; cases hy; exact .same _ rfl
      | 1 => cases hx; cases hy; exact .same _ rfl
      | 2 => cases hx; cases hy; exact .same _ rfl
      | 3 => cases hx; cases hy; exact h1.frz
      | 4 => cases hx; cases hy; exact h2.frz
      | j + 5 => simp at hx
  exact BufR.frz hb (by simp [hv.1]) (av_five vs) hf

theorem in63 {n : Int} (h : Okk .i64 n) : In63 n := okk_i64 h

theorem row_of (vs : List VV) {i : Nat} (h : i < vs.length) : (vs.map VV.av).getD ((i : Int).toNat) [] = [.int .i64 vs[i].k, .int .u64 vs[i].u, .int .i64 vs[i].n, .ints .u8 vs[i].b, .ints .i64 vs[i].l] := by
  simp [List.getD, h, VV.av]

theorem encs_snoc (vs : List VV) {i : Nat} (h : i < vs.length) : encs (vs.take (i + 1)) = encs (vs.take i) ++ vs[i].enc := by
  unfold encs
  rw [List.take_add_one, List.getElem?_eq_getElem h, Option.toList_some, List.flatMap_append, List.flatMap_cons, List.flatMap_nil, List.append_nil]

theorem goodU {u : Int} (hu : Okk .u64 u) : (⟨0, u.toNat, 0, [], []⟩ : VV).good := by
  have := okk_u64 hu
  exact ⟨by simp, by simp only; omega, by simp only; unfold In63; omega, by intro y hy; simp at hy, by simp, by simp, by simp⟩
theorem goodN {n : Int} (hn : In63 n) (k : Int) (hk : 0 ≤ k ∧ k < 6) : (⟨k, 0, n, [], []⟩ : VV).good :=
  ⟨hk, by simp, hn, by intro y hy; simp at hy, by simp, by simp, by simp⟩


theorem readT_enc {v : VV} (hg : v.good) (hn : v.norm) (r : List Int) : readT v.k (.ok (v.enc ++ r)) = (v, .ok r) := by
  have hk := hg.k
  have hu := hn.u
  have hn1 := hn.n
  have hn2 := hn.n2
  have hb := hn.b
  have hl := hn.l
  have g1 := uintT_enc hg.u r
  have g2 := intT_enc hg.n r
  have g3 := boolT_enc (decide (v.n = 1)) r
  have g4 := bytesT_enc v.b r (by have := hg.bl; omega)
  have g5 := intsT_enc v.l r (by have := hg.ll; omega) hg.l
  obtain ⟨k, u, n, b, l⟩ := v
  simp only at *
  unfold readT VV.enc
  simp only
  by_cases k0 : k = 0
  · rw [if_pos k0, if_pos k0, g1, hn1 (by omega) (by omega), hb (by omega) (by omega), hl (by omega)]
  rw [if_neg k0, if_neg k0]
  by_cases k1 : k = 1
  · rw [if_pos k1, if_pos k1, g2, hu (by omega), hb (by omega) (by omega), hl (by omega)]
  rw [if_neg k1, if_neg k1]
  by_cases k2 : k = 2
  · rw [if_pos k2, if_pos k2, g3, hu (by omega), hb (by omega) (by omega), hl (by omega)]
    rcases hn2 k2 with h | h <;> subst h <;> rfl
  rw [if_neg k2, if_neg k2]
  by_cases k34 : k = 3 ∨ k = 4
  · rw [if_pos k34, if_pos k34, g4, hu (by omega), hn1 (by omega) (by omega), hl (by omega)]
  rw [if_neg k34, if_neg k34, g5, hu (by omega), hn1 (by omega) (by omega), hb (by omega) (by omega)]

theorem bytesT_er (e : Int) : bytesT (.er e) = ([], .er e) := rfl
theorem intsT_er (e : Int) : intsT (.er e) = ([], .er e) := rfl

theorem readT_er (k e : Int) : readT k (.er e) = (⟨k, 0, 0, [], []⟩, .er e) := by
  unfold readT
  by_cases k0 : k = 0
  · rw [if_pos k0]; rfl
  rw [if_neg k0]
  by_cases k1 : k = 1
  · rw [if_pos k1]; simp [intT, uintT, unzig]
  rw [if_neg k1]
  by_cases k2 : k = 2
  · rw [if_pos k2]; rfl
  rw [if_neg k2]
  by_cases k34 : k = 3 ∨ k = 4
  · rw [if_pos k34]; rfl
  rw [if_neg k34]; rfl

theorem readT_cut {v : VV} (hg : v.good) {j : Nat} (hj : j < v.enc.length) : readT v.k (.ok (v.enc.take j)) = (⟨v.k, 0, 0, [], []⟩, .er 3) := by
  have g1 := uintT_cut (j := j) hg.u
  have g2 := intT_cut (j := j) hg.n
  have g3 := boolT_cut (b := decide (v.n = 1)) (j := j)
  have g4 := bytesT_cut (b := v.b) (j := j) (by have := hg.bl; omega)
  have g5 := intsT_cut (x := v.l) (j := j) (by have := hg.ll; omega) hg.l
  obtain ⟨k, u, n, b, l⟩ := v
  simp only at *
  unfold VV.enc at hj ⊢
  unfold readT
  simp only at *
  by_cases k0 : k = 0
  · rw [if_pos k0] at hj ⊢; rw [if_pos k0, g1 hj]
  rw [if_neg k0] at hj ⊢; rw [if_neg k0]
  by_cases k1 : k = 1
  · rw [if_pos k1] at hj ⊢; rw [if_pos k1, g2 hj]
  rw [if_neg k1] at hj ⊢; rw [if_neg k1]
  by_cases k2 : k = 2
  · rw [if_pos k2] at hj ⊢; rw [if_pos k2, g3 hj]; rfl
  rw [if_neg k2] at hj ⊢; rw [if_neg k2]
  by_cases k34 : k = 3 ∨ k = 4
  · rw [if_pos k34] at hj ⊢; rw [if_pos k34, g4 hj]
  rw [if_neg k34] at hj ⊢; rw [if_neg k34, g5 hj]

theorem readT_back {k : Int} {l r : List Int} {v : VV} (hk : 0 ≤ k ∧ k < 6) (hu : U8s l) (hl : l.length < 1000) (h : readT k (.ok l) = (v, .ok r)) : l = v.enc ++ r ∧ v.good ∧ v.k = k := by
  have hbd : ∀ {a : List Int}, l = a ++ r → a.length < 1000 := fun e => by rw [e] at hl; simp at hl; omega
  unfold readT at h
  by_cases k0 : k = 0
  · rw [if_pos k0] at h
    simp only [Prod.mk.injEq] at h
    obtain ⟨rfl, h2⟩ := h
    have := uintT_back (v := (uintT (.ok l)).1) (r := r) hu (by rw [← h2])
    exact ⟨by unfold VV.enc; rw [if_pos k0]; exact this.1, ⟨hk, this.2, by simp only; unfold In63; omega, by intro y hy; simp at hy, by simp, by simp, by simp⟩, rfl⟩
  rw [if_neg k0] at h
  by_cases k1 : k = 1
  · rw [if_pos k1] at h
    simp only [Prod.mk.injEq] at h
    obtain ⟨rfl, h2⟩ := h
    have := intT_back (v := (intT (.ok l)).1) (r := r) hu (by rw [← h2])
    exact ⟨by unfold VV.enc; rw [if_neg k0, if_pos k1]; exact this.1, ⟨hk, by simp, this.2, by intro y hy; simp at hy, by simp, by simp, by simp⟩, rfl⟩
  rw [if_neg k1] at h
  by_cases k2 : k = 2
  · rw [if_pos k2] at h
    simp only [Prod.mk.injEq] at h
    obtain ⟨rfl, h2⟩ := h
    have := boolT_back (v := (boolT (.ok l)).1) (r := r) hu (by rw [← h2])
    refine ⟨?_, ⟨hk, by simp, ?_, by intro y hy; simp at hy, by simp, by simp, by simp⟩, rfl⟩
    · unfold VV.enc; rw [if_neg k0, if_neg k1, if_pos k2]
      have e : decide ((if (boolT (.ok l)).1 = true then (1 : Int) else 0) = 1) = (boolT (.ok l)).1 := by cases (boolT (.ok l)).1 <;> rfl
      simp only [e]
      exact this
    · simp only; unfold In63; split <;> omega
  rw [if_neg k2] at h
  by_cases k34 : k = 3 ∨ k = 4
  · rw [if_pos k34] at h
    simp only [Prod.mk.injEq] at h
    obtain ⟨rfl, h2⟩ := h
    have := bytesT_back (v := (bytesT (.ok l)).1) (r := r) hu (by rw [← h2])
    have hb := hbd this
    refine ⟨by unfold VV.enc; rw [if_neg k0, if_neg k1, if_neg k2, if_pos k34]; exact this, ⟨hk, by simp, by simp only; unfold In63; omega, ?_, by simp, ?_, by simp⟩, rfl⟩
    · rw [this, textE] at hu
      exact U8s.right (U8s.left hu)
    · simp only [textE, List.length_append] at hb ⊢; omega
  rw [if_neg k34] at h
  simp only [Prod.mk.injEq] at h
  obtain ⟨rfl, h2⟩ := h
  have := intsT_back (v := (intsT (.ok l)).1) (r := r) hu (by rw [← h2])
  have hb := hbd this.1
  refine ⟨by unfold VV.enc; rw [if_neg k0, if_neg k1, if_neg k2, if_neg k34]; exact this.1, ⟨hk, by simp, by simp only; unfold In63; omega, by intro y hy; simp at hy, this.2, by simp, ?_⟩, rfl⟩
  have := flatMap_ge (intsT (.ok l)).1
  simp only [intsE, List.length_append] at hb ⊢; omega

theorem enc_small {v : VV} (hg : v.good) (hn : v.norm) : v.enc.length ≤ 50 := by
  have h1 := uintE_len hg.u
  have h2 := uintE_len (zig_lt hg.n)
  have h3 := uintE_len (n := if decide (v.n = 1) = true then 1 else 0) (by split <;> omega)
  have h4 := uintE_len (n := v.b.length) (by have := hg.bl; omega)
  have h5 := uintE_len (n := v.l.length) (by have := hg.ll; omega)
  have h6 := flatMap_len (l := v.l) fun n hn => okk63 (hg.l n hn)
  have h7 := hn.bl
  have h8 := hn.ll
  unfold VV.enc
  split
  · omega
  · split
    · simp only [intE]; omega
    · split
      · simp only [boolE]; omega
      · split
        · simp only [textE, List.length_append]; omega
        · simp only [intsE, List.length_append]; omega

theorem encs_small {vs : List VV} (h : ∀ v ∈ vs, v.good ∧ v.norm) : (encs vs).length ≤ 50 * vs.length := by
  induction vs with
  | nil => simp [encs]
  | cons v vs ih =>
    have h1 := enc_small (h v (by simp)).1 (h v (by simp)).2
    have h2 := ih fun v hv => h v (by simp [hv])
    simp only [encs, List.flatMap_cons, List.length_append, List.length_cons] at h2 ⊢
    omega

theorem enc_u8 {v : VV} (hg : v.good) : U8s v.enc := by
  have hf : U8s (v.l.flatMap intE) := by
    intro x hx
    simp only [List.mem_flatMap] at hx
    obtain ⟨n, _, hx⟩ := hx
    exact uintE_u8 _ x hx
  unfold VV.enc
  split
  · exact uintE_u8 _
  · split
    · exact uintE_u8 _
    · split
      · exact uintE_u8 _
      · split
        · exact U8s.app (uintE_u8 _) hg.b
        · exact U8s.app (uintE_u8 _) hf

theorem encs_u8 {vs : List VV} (h : ∀ v ∈ vs, v.good) : U8s (encs vs) := by
  intro x hx
  simp only [encs, List.mem_flatMap] at hx
  obtain ⟨v, hv, hx⟩ := hx
  exact enc_u8 (h v hv) x hx

theorem encs_cons (v : VV) (vs : List VV) : encs (v :: vs) = v.enc ++ encs vs := by simp [encs]

theorem encs_drop (vs : List VV) {i : Nat} (h : i < vs.length) : encs (vs.drop i) = vs[i].enc ++ encs (vs.drop (i + 1)) := by
  rw [List.drop_eq_getElem_cons h, encs_cons]

end Go.Proofs
