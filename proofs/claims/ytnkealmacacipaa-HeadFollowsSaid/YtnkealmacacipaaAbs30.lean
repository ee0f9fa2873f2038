/-
  Appending to an own slice where no maps are about.
-/
import Derived.Test.YtnkealmacacipaaAbs27
namespace Go.Pa
set_option linter.unusedSectionVars false
variable [GTab]
variable {P : Program}

theorem append_bufM {σ s : Store} {t e : TypeId} {k : IntKind} {l l' : List Int} {r y : AV} {R : AV → Store → Prop} (hs : sliceElem P t = some (e, 1)) (hb : P.bytesOf e ≠ 0)
    (hx : Ext σ s) (h : BufI s σ.length r k l) (hn : NoMaps s) (hc : contA s y = some (.I k l') ∨ (contA s y = some .E ∧ l' = [])) (hf : appFits P e (l.length + l'.length))
    (hR : ∀ r' s', Ext σ s' → BufI s' σ.length r' k (l ++ l') → NoMaps s' → R r' s') : vcAppend P t r y s R := by
  have hlen := hx.len
  unfold vcAppend
  rcases hc with hc | ⟨hc, rfl⟩
  · simp only [hs, hc]
    refine ⟨hb, ?_⟩
    rcases h with ⟨rfl | rfl, rfl⟩ | ⟨id, rfl, ho, hn'⟩
    · refine ⟨trivial, fun h0 => hR _ _ hx (.inl ⟨.inl rfl, by simp [h0]⟩) hn, fun h0 => ⟨by simpa using hf, hR _ _ (hx.push _) (.inr ⟨s.length, by simp, by simp, hlen⟩) (hn.push (by intro kv; simp))⟩⟩
    · refine ⟨trivial, fun h0 => hR _ _ hx (.inl ⟨.inr rfl, by simp [h0]⟩) hn, fun h0 => ⟨by simpa using hf, hR _ _ (hx.push _) (.inr ⟨s.length, by simp, by simp, hlen⟩) (hn.push (by intro kv; simp))⟩⟩
    · simp only [ho]
      refine ⟨by simp, by simp, by simp, by simp, fun h0 => hR _ _ hx (.inr ⟨id, by simp [h0], by simp [h0, ho], hn'⟩) hn, fun h0 => ⟨hf, hR _ _ ((hx.set hn' _).push _) (.inr ⟨s.length, by simp, ?_, hlen⟩) ((hn.set (by intro kv; simp) _).push (by intro kv; simp))⟩⟩
      rw [List.getElem?_append_right (by simp)]
      simp
  · simp only [hs, hc]
    refine ⟨hb, ?_⟩
    rcases h with ⟨rfl | rfl, rfl⟩ | ⟨id, rfl, ho, hn'⟩
    · exact hR _ _ hx (.inl ⟨.inl rfl, rfl⟩) hn
    · exact hR _ _ hx (.inl ⟨.inr rfl, rfl⟩) hn
    · simp only [ho]
      exact hR _ _ hx (.inr ⟨id, by simp, by simpa using ho, hn'⟩) hn

theorem BufI.cells {s : Store} {n : Nat} {r : AV} {k : IntKind} {l : List Int} (h : BufI s n r k l) : r.cellsOf = some [r] := by
  rcases h with ⟨rfl | rfl, _⟩ | ⟨id, rfl, _, _⟩ <;> rfl

theorem BufI.ne {s : Store} {n : Nat} {r : AV} {k : IntKind} {l : List Int} (h : BufI s n r k l) (hl : l ≠ []) : ∃ id, r = .mvec id 0 l.length 1 ∧ s[id]? = some (.vecI k l) ∧ n ≤ id := by
  rcases h with ⟨_, h⟩ | h
  · exact absurd h hl
  · exact h

theorem FreshI.ne {s s' : Store} {k : IntKind} {l : List Int} {r : AV} (h : FreshI s k l r s') (hl : l ≠ []) : r = .mvec s.length 0 l.length 1 ∧ s' = s ++ [.vecI k l] := by
  rcases h with ⟨_, h, _⟩ | h
  · exact absurd h hl
  · exact h

theorem flat_noRef {v : AV} (h : v.flat = true) : v.noRef = true := by
  cases v <;> first | rfl | cases h

theorem ltL_flat {l : List AV} (h : l.all AV.flat = true) : ltL 0 l = true := by
  refine ltL_of fun i x hx => flat_noRef ?_
  exact List.all_eq_true.1 h x (List.mem_of_getElem? hx)

theorem flat2_noRef {v : AV} (h : v.flat2 = true) : v.noRef = true := by
  cases v with
  | agg cs => simp only [AV.flat2] at h; simp only [AV.noRef, AV.lt]; exact ltL_flat h
  | tup cs =>
    simp only [AV.flat2] at h
    simp only [AV.noRef, AV.lt]
    refine ltL_of fun i x hx => ?_
    have := List.all_eq_true.1 h x (List.mem_of_getElem? hx)
    simp only [Bool.or_eq_true] at this
    rcases this with h1 | h1
    · exact flat_noRef h1
    · cases x with
      | agg ds => simp only [AV.lt]; exact ltL_flat h1
      | _ => simp at h1
  | _ => exact flat_noRef h

theorem FrzL.same : ∀ {σ : Store} {args : List AV}, ltL 0 args = true → FrzL σ args args
  | _, [], _ => .nil
  | _, x :: xs, h => by
    simp only [ltL, Bool.and_eq_true] at h
    exact .cons (.same x h.1) (FrzL.same h.2)

/-- **A function that answers with a flat value, whatever it lays in its own store.** -/
theorem ACalls.pure0 {f : FuncId} {args : List AV} {v : AV} (h : ACalls P f args [] fun r _ => r = v) (hn : ltL 0 args = true) (hv : v.flat2 = true) (σ : Store) : ACalls P f args σ fun r σ' => r = v ∧ σ' = σ :=
  ACalls.lend (ACalls.frozen (h.mono fun r σ' h1 => ⟨fun i x hx => by simp at hx, by rw [h1]; exact .same _ (flat2_noRef hv)⟩)) (.same hn) hn hv

theorem ndt {p : Prop} [Decidable p] (h : (!decide p) = true) : ¬ p := by simpa using h
theorem ndf {p : Prop} [Decidable p] (h : (!decide p) = false) : p := by simpa using h
theorem leaf_d {q p : Prop} [Decidable q] [Decidable p] (h : q ↔ p) : AV.bool (decide q) = AV.bool (decide p) := by congr 1; simp only [h]
theorem leaf_n {q p : Prop} [Decidable q] [Decidable p] (h : ¬ q ↔ p) : AV.bool (!decide q) = AV.bool (decide p) := by
  congr 1
  rw [← decide_not]
  simp only [h]
theorem leaf_t {p : Prop} [Decidable p] (h : p) : AV.bool true = AV.bool (decide p) := by rw [decide_eq_true h]
theorem leaf_f {p : Prop} [Decidable p] (h : ¬ p) : AV.bool false = AV.bool (decide p) := by rw [decide_eq_false h]

section
variable {N : Nat}
theorem guardV_split {all os : List Oper} {d : Option Tmp} {op : Op} {want : Bool} {e : Env} {s : Store} {K : Env → Store → Prop} {t : Tmp} {c : Bool} (h1 : c = true → guardV P all os d op want e s K t (.bool true)) (h2 : c = false → guardV P all os d op want e s K t (.bool false)) :
    guardV P all os d op want e s K t (.bool c) := by
  cases c with
  | true => exact h1 rfl
  | false => exact h2 rfl
theorem guardD_split {es : List Nat} {all os : List Oper} {i : Nat} {d : Option Tmp} {op : Op} {want : Bool} {e : Env} {s : Store} {K : Env → Store → Prop} {t : Tmp} {c : Bool} (h1 : c = true → guardD P es all os i d op want e s K t (.bool true)) (h2 : c = false → guardD P es all os i d op want e s K t (.bool false)) :
    guardD P es all os i d op want e s K t (.bool c) := by
  cases c with
  | true => exact h1 rfl
  | false => exact h2 rfl
theorem condV_split {a b : Code} {K : Exit → Env → Store → Prop} {e : Env} {s : Store} {c : Bool} (h1 : c = true → condV P N a b K e s (.bool true)) (h2 : c = false → condV P N a b K e s (.bool false)) : condV P N a b K e s (.bool c) := by
  cases c with
  | true => exact h1 rfl
  | false => exact h2 rfl
theorem condR_split {a b : Code} {K : Exit → Env → Store → Prop} {e : Env} {s : Store} {c : Bool} (h1 : c = true → condR P N a b K e s (.bool true)) (h2 : c = false → condR P N a b K e s (.bool false)) : condR P N a b K e s (.bool c) := by
  cases c with
  | true => exact h1 rfl
  | false => exact h2 rfl
end

end Go.Pa
