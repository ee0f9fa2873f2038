/-
  Adding months; the reference's dates; days: contracts.
-/
import Derived.Test.YtaebmaibhnhibaaDoorCc
import Derived.Test.YtaebmaibhnhibaaDoorHa
namespace Go.Proofs
open Go.Pa
set_option linter.unusedSimpArgs false
set_option maxRecDepth 20000
set_option maxHeartbeats 2000000

/-- The date that is some months later. -/
def addD (x : Dt) (k : Int) : Dt := ⟨(12 * x.y + x.m - 1 + k) / 12, (12 * x.y + x.m - 1 + k) % 12 + 1, min x.d (lenI ((12 * x.y + x.m - 1 + k) / 12) ((12 * x.y + x.m - 1 + k) % 12 + 1))⟩

/-- The day that is some months later, or the error. -/
noncomputable def addI (n k : Int) : Int × Int :=
  if 0 ≤ n ∧ n ≤ 131072 then (if 0 ≤ k ∧ k ≤ 12000 then (if numD (addD (dateI n) k) ≤ 131072 then (numD (addD (dateI n) k), 0) else (0, 5)) else (0, 1)) else (0, 5)

theorem addD_ok {x : Dt} (h : VDt x) (hx : 1900 ≤ x.y) {k : Int} (hk : 0 ≤ k) : VDt (addD x k) ∧ x.y ≤ (addD x k).y := by
  obtain ⟨⟨h1, h2, h3, h4⟩, h5⟩ := h
  have hl := len_bounds ((12 * x.y + x.m - 1 + k) / 12) ((12 * x.y + x.m - 1 + k) % 12 + 1)
  refine ⟨⟨⟨?_, ?_, ?_, ?_⟩, ?_⟩, ?_⟩ <;> simp only [addD] <;> omega

def daysL (l : List Int) (m : Nat) : List Int := [0, 131072, 36582, 36583] ++ (l.take m).map fun n => aroundI n 131073

theorem daysL_ok {l : List Int} (hl : ∀ x ∈ l, Okk .i64 x) (m : Nat) : ∀ x ∈ daysL l m, 0 ≤ x ∧ x ≤ 131072 := by
  intro x hx
  simp only [daysL, List.mem_append, List.mem_cons, List.not_mem_nil, or_false, List.mem_map] at hx
  rcases hx with (rfl | rfl | rfl | rfl) | ⟨n, hn, rfl⟩
  · omega
  · omega
  · omega
  · omega
  · have := aroundI_bound (m := 131073) (hl n (List.mem_of_mem_take hn)) (by omega)
    omega

theorem daysL_len (l : List Int) (m : Nat) : (daysL l m).length = 4 + min m l.length := by simp [daysL]; omega

/-! ### The reference -/

theorem validI_false {x : Dt} (h : validI x = false) : ofI x = (0, 1) := by unfold ofI; rw [h]; rfl

end Go.Proofs
