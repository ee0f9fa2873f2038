/-
  Soundness of slicing and of literals; all operations that look at temporaries alone.
-/
import Derived.Test.YtnkealmacacipaaAbs6
namespace Go.Pa
set_option linter.unusedSectionVars false
variable [GTab]
variable {P : Program} {G : Gh}

theorem bnd_rep {d n : Int} {x : Option AV} (h : bnd d x = some n) {u : Option Value} (hu : ∀ y, x = some y → ∃ c, u = some c ∧ Rep G y c) (hn : x = none → u = none) :
    (x = none ∧ u = none ∧ n = d) ∨ ∃ k, u = some (.int k n) := by
  unfold bnd at h
  split at h
  · cases h; exact .inl ⟨rfl, hn rfl, rfl⟩
  · cases h
    obtain ⟨c, rfl, hc⟩ := hu _ rfl
    cases hc
    exact .inr ⟨_, rfl⟩
  · cases h

/-- The bounds of a slice without a third index. -/
theorem run_sliceBounds (isS : Bool) {len cap : Nat} {a b : Int} (h0 : 0 ≤ a) (h1 : a ≤ b) (h2 : b ≤ cap) {lo hi : Option Value}
    (hlo : (lo = none ∧ a = 0) ∨ ∃ k, lo = some (.int k a)) (hhi : (hi = none ∧ b = len) ∨ ∃ k, hi = some (.int k b)) (w : World) :
    (Instr.sliceBounds isS len cap lo hi none).run P w = .ok (a.toNat, b.toNat, cap) w := by
  unfold Instr.sliceBounds
  simp only [Sem.run_bind, Sem.run_pure, Result.andThen_ok]
  rcases hhi with ⟨rfl, rfl⟩ | ⟨k, rfl⟩
  · rcases hlo with ⟨rfl, rfl⟩ | ⟨k', rfl⟩
    · simp
    · simp [Instr.sliceBound, asIntOf, h0, h1]
  · rcases hlo with ⟨rfl, rfl⟩ | ⟨k', rfl⟩
    · simp [Instr.sliceBound, asIntOf, h2, show 0 ≤ b by omega]
    · have hb : (b.toNat : Int) = b := Int.toNat_of_nonneg (by omega)
      have hb0 : 0 ≤ b := by omega
      simp only [Instr.sliceBound, asIntOf, Sem.run_bind, Sem.run_pure, Result.andThen_ok, Sem.run_ite, h0, h2, hb0, and_self, if_true, hb, h1]

theorem run_sliceAt {t e : TypeId} (hu : P.underlying t = some (.slice e)) (hp : 0 < P.cellsOf e) (ad : Option Addr) {len cap : Nat} {a b : Int} (h0 : 0 ≤ a) (h1 : a ≤ b) (h2 : b ≤ cap) {lo hi : Option Value}
    (hlo : (lo = none ∧ a = 0) ∨ ∃ k, lo = some (.int k a)) (hhi : (hi = none ∧ b = len) ∨ ∃ k, hi = some (.int k b)) (w : World) :
    (Instr.sliceAt t (.slice ad len cap) lo hi none).run P w = .ok (.slice (if cap = a.toNat then ad else ad.map (·.add (a.toNat * P.cellsOf e))) (b.toNat - a.toNat) (cap - a.toNat)) w := by
  have hb := run_sliceBounds (P := P) true h0 h1 h2 hlo hhi w
  simp only [Instr.sliceAt, Sem.run_bind, run_underlying hu, Result.andThen_ok, Instr.slice, hb, run_sizeOf hp, Sem.run_pure]

theorem slice_sound {t : TypeId} {x v : AV} {lo hi mx : Option AV} (h : (evSlice P t x lo hi mx).says v) {u : Value} (hx : Rep G x u) {ul uh um : Option Value}
    (hl : ∀ y, lo = some y → ∃ c, ul = some c ∧ Rep G y c) (hl' : lo = none → ul = none) (hh : ∀ y, hi = some y → ∃ c, uh = some c ∧ Rep G y c) (hh' : hi = none → uh = none)
    (hm : ∀ y, mx = some y → ∃ c, um = some c ∧ Rep G y c) (hm' : mx = none → um = none) (w : World) : ∃ c, (Instr.sliceAt t u ul uh um).run P w = .ok c w ∧ Rep G v c := by
  unfold evSlice at h
  split at h
  · -- s[:0:0]
    obtain ⟨cm, rfl, hcm⟩ := hm _ rfl
    cases hcm
    rename_i km
    have emp : lo = none → (∃ k, hi = some (AV.int k 0)) → (∃ e sz, sliceElem P t = some (e, sz)) → (∃ a n c, u = .slice (some a) n c) → ∃ c, (Instr.sliceAt t u ul uh (some (.int km 0))).run P w = .ok c w ∧ Rep G .emp c := by
      rintro e1 ⟨k, e2⟩ ⟨e, sz, hse⟩ ⟨a, n, c, rfl⟩
      obtain ⟨hu, hsz, hp⟩ := sliceElem_spec hse
      obtain rfl := hl' e1
      obtain ⟨ch, rfl, hch⟩ := hh _ e2
      cases hch
      refine ⟨.slice (some a) 0 0, ?_, .emp a⟩
      have hsz' : 0 < P.cellsOf e := by omega
      simp [Instr.sliceAt, run_underlying hu, Instr.slice, Instr.sliceBounds, Instr.sliceBound, asIntOf, run_sizeOf hsz']
    split at h
    all_goals first
      | exact h.elim
      | (obtain ⟨hne, rfl⟩ := says_need h
         refine emp rfl ⟨_, rfl⟩ ⟨_, _, by assumption⟩ ?_
         cases hx <;> first | exact absurd rfl hne | exact ⟨_, _, _, rfl⟩)
      | (have := says_val h; subst this
         refine emp rfl ⟨_, rfl⟩ ⟨_, _, by assumption⟩ ?_
         cases hx <;> exact ⟨_, _, _, rfl⟩)
      | (have := says_val h; subst this
         rename_i hse
         cases hx
         obtain ⟨hu, hsz, hp⟩ := sliceElem_spec hse
         obtain rfl := hl' rfl
         obtain ⟨ch, rfl, hch⟩ := hh _ rfl
         cases hch
         refine ⟨.slice none 0 0, ?_, .nils⟩
         have hsz' := hp
         rw [← hsz] at hsz'
         simp [Instr.sliceAt, run_underlying hu, Instr.slice, Instr.sliceBounds, Instr.sliceBound, asIntOf, run_sizeOf hsz'])
  · exact h.elim
  · obtain rfl := hm' rfl
    split at h
    · -- strings
      rename_i l hu
      split at h
      · rename_i a b ha hb
        obtain ⟨⟨h0, h1, h2⟩, rfl⟩ := says_need h
        cases hx; rename_i s hs
        have hsz := str_len hs
        have hlo : (ul = none ∧ a = 0) ∨ ∃ k, ul = some (.int k a) := by
          rcases bnd_rep ha hl hl' with ⟨_, e1, e2⟩ | ⟨k, e⟩
          · exact .inl ⟨e1, e2⟩
          · exact .inr ⟨k, e⟩
        have hhi : (uh = none ∧ b = s.size) ∨ ∃ k, uh = some (.int k b) := by
          rcases bnd_rep hb hh hh' with ⟨_, e1, e2⟩ | ⟨k, e⟩
          · exact .inl ⟨e1, by rw [hsz]; exact e2⟩
          · exact .inr ⟨k, e⟩
        have hb' := run_sliceBounds (P := P) false h0 h1 (show b ≤ (s.size : Int) by rw [hsz]; exact h2) hlo hhi w
        refine ⟨.string (s.extract a.toNat b.toNat), ?_, .str _ _ ?_⟩
        · simp only [Instr.sliceAt, Sem.run_bind, run_underlying hu, Result.andThen_ok, Instr.slice, Option.isSome_none, Bool.false_eq_true, if_false, hb', Sem.run_pure]
        · rw [← hs]
          simp [ByteArray.data_extract, Array.toList_extract, List.extract_eq_take_drop]
      · exact h.elim
    · -- ints
      rename_i e k l hu
      split at h
      · rename_i a b ha hb
        split at h
        · rename_i hsz
          obtain ⟨⟨h0, h1, h2⟩, rfl⟩ := says_need h
          have hlo : (ul = none ∧ a = 0) ∨ ∃ k, ul = some (.int k a) := by
            rcases bnd_rep ha hl hl' with ⟨_, e1, e2⟩ | ⟨k, e⟩
            · exact .inl ⟨e1, e2⟩
            · exact .inr ⟨k, e⟩
          have hhi : (uh = none ∧ b = (l.length : Nat)) ∨ ∃ k, uh = some (.int k b) := by
            rcases bnd_rep hb hh hh' with ⟨_, e1, e2⟩ | ⟨k, e⟩
            · exact .inl ⟨e1, e2⟩
            · exact .inr ⟨k, e⟩
          have hp : 0 < P.cellsOf e := by omega
          cases hx with
          | ints0 _ ad cap =>
            simp only [List.length_nil] at h2 hhi
            have ea : a = 0 := by simp at h2; omega
            have eb : b = 0 := by simp at h2; omega
            have hb' := run_sliceAt (P := P) hu hp ad (len := 0) (cap := cap) h0 h1 (by omega) hlo (by simpa using hhi) w
            subst ea; subst eb
            refine ⟨_, hb', ?_⟩
            · simp only [Int.toNat_zero, Nat.sub_self, List.take_zero]
              exact .ints0 k _ _
          | ints _ _ bb o cap hc hmm =>
            have hb' := run_sliceAt (P := P) hu hp (some ⟨bb, o, none⟩) (len := l.length) (cap := cap) h0 h1 (by omega) hlo hhi w
            refine ⟨_, hb', ?_⟩
            · have hlen : ((l.drop a.toNat).take (b.toNat - a.toNat)).length = b.toNat - a.toNat := by
                simp only [List.length_take, List.length_drop]; omega
              by_cases hz : b.toNat - a.toNat = 0
              · rw [hz, List.take_zero]
                exact .ints0 k _ _
              · rw [if_neg (by omega), hsz, Nat.mul_one]
                simp only [Option.map_some, add_lit]
                have key : Rep G (.ints k ((l.drop a.toNat).take (b.toNat - a.toNat))) (.slice (some ⟨bb, o + a.toNat, none⟩) ((l.drop a.toNat).take (b.toNat - a.toNat)).length (cap - a.toNat)) := by
                  refine .ints k _ bb _ _ (by omega) fun i y hy => ?_
                  rw [Nat.add_assoc]
                  refine hmm _ _ ?_
                  rw [List.getElem?_take] at hy
                  split at hy
                  · rwa [List.getElem?_drop] at hy
                  · cases hy
                rw [hlen] at key
                exact key
        · exact h.elim
      · exact h.elim
    · -- rows
      rename_i e sz l hu
      split at h
      · rename_i a b ha hb
        split at h
        · rename_i hsz
          obtain ⟨⟨h0, h1, h2⟩, rfl⟩ := says_need h
          have hlo : (ul = none ∧ a = 0) ∨ ∃ k, ul = some (.int k a) := by
            rcases bnd_rep ha hl hl' with ⟨_, e1, e2⟩ | ⟨k, e⟩
            · exact .inl ⟨e1, e2⟩
            · exact .inr ⟨k, e⟩
          have hhi : (uh = none ∧ b = (l.length : Nat)) ∨ ∃ k, uh = some (.int k b) := by
            rcases bnd_rep hb hh hh' with ⟨_, e1, e2⟩ | ⟨k, e⟩
            · exact .inl ⟨e1, e2⟩
            · exact .inr ⟨k, e⟩
          obtain ⟨hsz, hpos⟩ := hsz
          have hp : 0 < P.cellsOf e := by omega
          cases hx with
          | rows0 _ ad cap =>
            simp only [List.length_nil] at h2 hhi
            have ea : a = 0 := by simp at h2; omega
            have eb : b = 0 := by simp at h2; omega
            have hb' := run_sliceAt (P := P) hu hp ad (len := 0) (cap := cap) h0 h1 (by omega) hlo (by simpa using hhi) w
            subst ea; subst eb
            refine ⟨_, hb', ?_⟩
            · simp only [Int.toNat_zero, Nat.sub_self, List.take_zero]
              exact .rows0 sz _ _
          | rows _ _ bb o cap f hc hs hmm hrr =>
            have hb' := run_sliceAt (P := P) hu hp (some ⟨bb, o, none⟩) (len := l.length) (cap := cap) h0 h1 (by omega) hlo hhi w
            refine ⟨_, hb', ?_⟩
            · have hlen : ((l.drop a.toNat).take (b.toNat - a.toNat)).length = b.toNat - a.toNat := by
                simp only [List.length_take, List.length_drop]; omega
              by_cases hz : b.toNat - a.toNat = 0
              · rw [hz, List.take_zero]
                exact .rows0 sz _ _
              · rw [if_neg (by omega), hsz]
                simp only [Option.map_some, add_lit]
                have hfl : ∀ (i : Nat) y, ((l.drop a.toNat).take (b.toNat - a.toNat)).flatten[i]? = some y → l.flatten[a.toNat * sz + i]? = some y := by
                  intro i y hy
                  have e1 : (l.take a.toNat).flatten.length = a.toNat * sz := by
                    rw [List.length_flatten, show (l.take a.toNat).map List.length = List.replicate a.toNat sz from ?_, List.sum_replicate_nat]
                    apply List.ext_getElem?
                    intro j
                    simp only [List.getElem?_map, List.getElem?_take, List.getElem?_replicate]
                    split
                    · rename_i hj
                      have hjl : j < l.length := by omega
                      simp [hjl, hs _ (List.getElem_mem hjl)]
                    · rfl
                  have e2 : l.flatten = (l.take a.toNat).flatten ++ (((l.drop a.toNat).take (b.toNat - a.toNat)).flatten ++ ((l.drop a.toNat).drop (b.toNat - a.toNat)).flatten) := by
                    rw [← List.flatten_append, List.take_append_drop, ← List.flatten_append, List.take_append_drop]
                  rw [e2, List.getElem?_append_right (by omega), e1, Nat.add_sub_cancel_left]
                  rw [List.getElem?_append_left (List.getElem?_eq_some_iff.1 hy).1]
                  exact hy
                have key : Rep G (.rows sz ((l.drop a.toNat).take (b.toNat - a.toNat))) (.slice (some ⟨bb, o + a.toNat * sz, none⟩) ((l.drop a.toNat).take (b.toNat - a.toNat)).length (cap - a.toNat)) := by
                  refine .rows sz _ bb _ _ (fun i => f (a.toNat * sz + i)) (by omega) (fun r hr => hs r (List.mem_of_mem_drop (List.mem_of_mem_take hr))) (fun i y hy => ?_) (fun i y hy => hrr _ _ (hfl i y hy))
                  rw [Nat.add_assoc]
                  exact hmm _ _ (hfl i y hy)
                rw [hlen] at key
                exact key
        · exact h.elim
      · exact h.elim
    · -- a mutable one
      rename_i e id off len sz hu
      split at h
      · rename_i a b ha hb
        split at h
        · rename_i hsz
          obtain ⟨⟨h0, h1, h2, h3⟩, rfl⟩ := says_need h
          have hlo : (ul = none ∧ a = 0) ∨ ∃ k, ul = some (.int k a) := by
            rcases bnd_rep ha hl hl' with ⟨_, e1, e2⟩ | ⟨k, e⟩
            · exact .inl ⟨e1, e2⟩
            · exact .inr ⟨k, e⟩
          have hhi : (uh = none ∧ b = (len : Nat)) ∨ ∃ k, uh = some (.int k b) := by
            rcases bnd_rep hb hh hh' with ⟨_, e1, e2⟩ | ⟨k, e⟩
            · exact .inl ⟨e1, e2⟩
            · exact .inr ⟨k, e⟩
          obtain ⟨hsz, hpos⟩ := hsz
          have hp : 0 < P.cellsOf e := by omega
          cases hx with
          | mvec _ _ _ _ cap bb n ho hc hf =>
            have hb' := run_sliceAt (P := P) hu hp (some ⟨bb, off * sz, none⟩) (len := len) (cap := cap) h0 h1 (by omega) hlo hhi w
            refine ⟨_, hb', ?_⟩
            · rw [if_neg (by omega), hsz]
              simp only [Option.map_some, add_lit]
              rw [← Nat.add_mul]
              refine .mvec _ _ _ _ _ bb n ho (by omega) ?_
              have : off + a.toNat + (cap - a.toNat) = off + cap := by omega
              rw [this]; exact hf
        · exact h.elim
      · exact h.elim
    · exact h.elim

end Go.Pa
