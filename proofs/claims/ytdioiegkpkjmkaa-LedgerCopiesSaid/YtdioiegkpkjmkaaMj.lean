/-
  The ledger: scripts on both; what they keep.
-/
import Derived.Test.YtdioiegkpkjmkaaMd
namespace Go.Proofs
open Go.Pa
set_option linter.unusedSimpArgs false
set_option linter.unusedVariables false
set_option maxRecDepth 20000
set_option maxHeartbeats 4000000

theorem LOk.op {B : Nat} {es : List Ent} (h : LOk B es) (hB : B ≤ 16000) (dn : List Int) {o : Opn} (ho : GenO o) : LOk (B + 3) (opR es dn o).1 := by
  unfold opR
  split
  · exact h.void hB (by omega) dn o.ix o.dy
  · exact h.post ho.len ho.acc

theorem GenO.okx {o : Opn} (h : GenO o) : Okk .i64 o.ix := by have := h.ix; exact i64_okk (by omega) (by omega)

theorem sh_new (s : Store) : ShS (s ++ [AObj.box [.nils, .nils]]) (fun _ => False) (s ++ [.box [esV [], .nils]]) := by
  refine ⟨by simp, fun i y hy => .inr ⟨fun h => h, ?_⟩⟩
  rcases Nat.lt_or_ge i s.length with h | h
  · rw [List.getElem?_append_left h] at hy ⊢
    exact ⟨y, hy, .same _⟩
  · rw [List.getElem?_append_right h] at hy ⊢
    generalize i - s.length = k at hy
    match k with
    | 0 =>
      cases hy
      refine ⟨_, rfl, .box _ _ rfl fun i x y hx hy => ?_⟩
      match i with
      | 0 => cases hx; cases hy; exact .nilR 6
      | 1 => cases hx; cases hy; exact .same _
      | i + 2 => cases hx
    | k + 1 => cases hy

theorem two_new {s : Store} {id j : Nat} (h : Led s id j [] []) : Two (s ++ [.box [esV [], .nils]]) id j s.length s.length .nils [] [] := by
  have := h.lt
  exact ⟨h.ext (Ext.app _ _), ⟨by simp, .inl ⟨rfl, rfl⟩⟩, by omega, by omega, by omega, by omega⟩

end Go.Proofs
