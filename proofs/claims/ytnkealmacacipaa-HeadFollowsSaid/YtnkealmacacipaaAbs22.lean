/-
  Appending to a slice of integers that the function itself has made.
-/
import Derived.Test.YtnkealmacacipaaAbs17
import Derived.Test.YtnkealmacacipaaAbs21
namespace Go.Pa
set_option linter.unusedSectionVars false
variable [GTab]
variable {P : Program}

theorem append_buf {σ s : Store} {t e : TypeId} {k : IntKind} {l l' : List Int} {r y : AV} {R : AV → Store → Prop} (hs : sliceElem P t = some (e, 1)) (hb : P.bytesOf e ≠ 0)
    (hx : Ext σ s) (h : BufI s σ.length r k l) (hc : contA s y = some (.I k l') ∨ (contA s y = some .E ∧ l' = [])) (hf : appFits P e (l.length + l'.length))
    (hR : ∀ r' s', Ext σ s' → BufI s' σ.length r' k (l ++ l') → R r' s') : vcAppend P t r y s R := by
  have hlen := hx.len
  unfold vcAppend
  rcases hc with hc | ⟨hc, rfl⟩
  · simp only [hs, hc]
    refine ⟨hb, ?_⟩
    rcases h with ⟨rfl | rfl, rfl⟩ | ⟨id, rfl, ho, hn⟩
    · refine ⟨trivial, fun h0 => hR _ _ hx (.inl ⟨.inl rfl, by simp [h0]⟩), fun h0 => ⟨by simpa using hf, hR _ _ (hx.push _) (.inr ⟨s.length, by simp, by simp, hlen⟩)⟩⟩
    · refine ⟨trivial, fun h0 => hR _ _ hx (.inl ⟨.inr rfl, by simp [h0]⟩), fun h0 => ⟨by simpa using hf, hR _ _ (hx.push _) (.inr ⟨s.length, by simp, by simp, hlen⟩)⟩⟩
    · simp only [ho]
      refine ⟨by simp, by simp, by simp, by simp, fun h0 => hR _ _ hx (.inr ⟨id, by simp [h0], by simp [h0, ho], hn⟩), fun h0 => ⟨hf, hR _ _ ((hx.set hn _).push _) (.inr ⟨s.length, by simp, ?_, hlen⟩)⟩⟩
      rw [List.getElem?_append_right (by simp)]
      simp
  · simp only [hs, hc]
    refine ⟨hb, ?_⟩
    rcases h with ⟨rfl | rfl, rfl⟩ | ⟨id, rfl, ho, hn⟩
    · exact hR _ _ hx (.inl ⟨.inl rfl, rfl⟩)
    · exact hR _ _ hx (.inl ⟨.inr rfl, rfl⟩)
    · simp only [ho]
      exact hR _ _ hx (.inr ⟨id, by simp, by simpa using ho, hn⟩)

theorem BufI.nil {σ : Store} {k : IntKind} : BufI σ σ.length .nils k [] := .inl ⟨.inl rfl, rfl⟩

/-- A call with one answer, and what comes behind it. -/
theorem acalls_then {f : FuncId} {args : List AV} {s s' : Store} {v : AV} {K : AV → Store → Prop} (h : ACalls P f args s fun r s1 => r = v ∧ s1 = s') (hk : K v s') : ACalls P f args s K :=
  h.mono fun _ _ ⟨h1, h2⟩ => by rw [h1, h2]; exact hk

theorem foldl_take_succ {α β : Type} (f : β → α → β) (z : β) (l : List α) {i : Nat} (h : i < l.length) : (l.take (i + 1)).foldl f z = f ((l.take i).foldl f z) l[i] := by
  rw [List.take_add_one, List.getElem?_eq_getElem h, Option.toList_some, List.foldl_append, List.foldl_cons, List.foldl_nil]

theorem BufI.zero {s : Store} {n : Nat} {r : AV} {k : IntKind} {l : List Int} (h : BufI s n r k l) : BufI s 0 r k l := by
  rcases h with h | ⟨id, h1, h2, _⟩
  · exact .inl h
  · exact .inr ⟨id, h1, h2, Nat.zero_le _⟩

end Go.Pa
