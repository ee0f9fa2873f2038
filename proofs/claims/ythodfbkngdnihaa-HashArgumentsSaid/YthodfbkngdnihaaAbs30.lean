/-
  Appending to an own slice where no maps are about.
-/
import Derived.Test.YthodfbkngdnihaaAbs27
namespace Go.Pa
set_option linter.unusedSectionVars false
variable [GTab]
variable {P : Program}

theorem append_bufM {σ s : Store} {t e : TypeId} {k : IntKind} {l l' : List Int} {r y : AV} {R : AV → Store → Prop} (hs : sliceElem P t = some (e, 1)) (hb : P.bytesOf e ≠ 0)
    (hx : Ext σ s) (h : BufI s σ.length r k l) (hn : NoMaps s) (hc : contA s y = some (.I k l') ∨ (contA s y = some .E ∧ l' = [])) (hf : appFits P e (l.length + l'.length))
    (hR : ∀ r' s', Ext σ s' → BufI s' σ.length r' k (l ++ l') → NoMaps s' → R r' s') : vcAppend P t r y s R := by
  have hlen := hx.len
  unfold vcAppend
  rcases hc with hc | ⟨hc, rfl⟩
  · simp only [hs, hc]
    refine ⟨hb, ?_⟩
    rcases h with ⟨rfl | rfl, rfl⟩ | ⟨id, rfl, ho, hn'⟩
    · refine ⟨trivial, fun h0 => hR _ _ hx (.inl ⟨.inl rfl, by simp [h0]⟩) hn, fun h0 => ⟨by simpa using hf, hR _ _ (hx.push _) (.inr ⟨s.length, by simp, by simp, hlen⟩) (hn.push (by intro kv; simp))⟩⟩
    · refine ⟨trivial, fun h0 => hR _ _ hx (.inl ⟨.inr rfl, by simp [h0]⟩) hn, fun h0 => ⟨by simpa using hf, hR _ _ (hx.push _) (.inr ⟨s.length, by simp, by simp, hlen⟩) (hn.push (by intro kv; simp))⟩⟩
    · simp only [ho]
      refine ⟨by simp, by simp, by simp, by simp, fun h0 => hR _ _ hx (.inr ⟨id, by simp [h0], by simp [h0, ho], hn'⟩) hn, fun h0 => ⟨hf, hR _ _ ((hx.set hn' _).push _) (.inr ⟨s.length, by simp, ?_, hlen⟩) ((hn.set (by intro kv; simp) _).push (by intro kv; simp))⟩⟩
      rw [List.getElem?_append_right (by simp)]
      simp
  · simp only [hs, hc]
    refine ⟨hb, ?_⟩
    rcases h with ⟨rfl | rfl, rfl⟩ | ⟨id, rfl, ho, hn'⟩
    · exact hR _ _ hx (.inl ⟨.inl rfl, rfl⟩) hn
    · exact hR _ _ hx (.inl ⟨.inr rfl, rfl⟩) hn
    · simp only [ho]
      exact hR _ _ hx (.inr ⟨id, by simp, by simpa using ho, hn'⟩) hn

theorem BufI.cells {s : Store} {n : Nat} {r : AV} {k : IntKind} {l : List Int} (h : BufI s n r k l) : r.cellsOf = some [r] := by
  rcases h with ⟨rfl | rfl, _⟩ | ⟨id, rfl, _, _⟩ <;> rfl

theorem BufI.ne {s : Store} {n : Nat} {r : AV} {k : IntKind} {l : List Int} (h : BufI s n r k l) (hl : l ≠ []) : ∃ id, r = .mvec id 0 l.length 1 ∧ s[id]? = some (.vecI k l) ∧ n ≤ id := by
  rcases h with ⟨_, h⟩ | h
  · exact absurd h hl
  · exact h

theorem FreshI.ne {s s' : Store} {k : IntKind} {l : List Int} {r : AV} (h : FreshI s k l r s') (hl : l ≠ []) : r = .mvec s.length 0 l.length 1 ∧ s' = s ++ [.vecI k l] := by
  rcases h with ⟨_, h, _⟩ | h
  · exact absurd h hl
  · exact h

end Go.Pa
