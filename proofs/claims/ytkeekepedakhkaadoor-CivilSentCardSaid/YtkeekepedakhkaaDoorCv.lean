/-
  The text of a date is read back: a plain law.
-/
import Derived.Test.YtkeekepedakhkaaDoorCm
namespace Go.Proofs
open Go.Pa
set_option linter.unusedSimpArgs false
set_option maxRecDepth 20000
set_option maxHeartbeats 2000000

theorem txt_ten (x : Dt) : txtI x = [48 + x.y / 1000 % 10, 48 + x.y / 100 % 10, 48 + x.y / 10 % 10, 48 + x.y % 10, 45, 48 + x.m / 10 % 10, 48 + x.m % 10, 45, 48 + x.d / 10 % 10, 48 + x.d % 10] := by
  unfold txtI
  rw [tailD4, tailD2, tailD2]
  rfl

theorem txt_small (x : Dt) : (txtI x).length = 10 ∧ U8s (txtI x) := by
  rw [txt_ten]
  refine ⟨rfl, fun z hz => ?_⟩
  simp only [List.mem_cons, List.not_mem_nil, or_false] at hz
  omega

theorem parse_txt {x : Dt} (h : VDt x) (hy : x.y ≤ 9999) : parseV (txtI x) = .tup [x.av, .int .i64 0] := by
  have hl := len_bounds x.y x.m
  have hv := vd_validI h hy
  obtain ⟨⟨h1, h2, h3, h4⟩, h5⟩ := h
  have hform : formT (txtI x) := by
    rw [txt_ten]
    refine ⟨rfl, fun i hi => ?_⟩
    have hc : i = 0 ∨ i = 1 ∨ i = 2 ∨ i = 3 ∨ i = 4 ∨ i = 5 ∨ i = 6 ∨ i = 7 ∨ i = 8 ∨ i = 9 := by omega
    unfold okT
    rcases hc with rfl | rfl | rfl | rfl | rfl | rfl | rfl | rfl | rfl | rfl
    · rw [if_neg (by omega)]; show 48 ≤ 48 + x.y / 1000 % 10 ∧ 48 + x.y / 1000 % 10 ≤ 57; omega
    · rw [if_neg (by omega)]; show 48 ≤ 48 + x.y / 100 % 10 ∧ 48 + x.y / 100 % 10 ≤ 57; omega
    · rw [if_neg (by omega)]; show 48 ≤ 48 + x.y / 10 % 10 ∧ 48 + x.y / 10 % 10 ≤ 57; omega
    · rw [if_neg (by omega)]; show 48 ≤ 48 + x.y % 10 ∧ 48 + x.y % 10 ≤ 57; omega
    · rw [if_pos (by omega)]; rfl
    · rw [if_neg (by omega)]; show 48 ≤ 48 + x.m / 10 % 10 ∧ 48 + x.m / 10 % 10 ≤ 57; omega
    · rw [if_neg (by omega)]; show 48 ≤ 48 + x.m % 10 ∧ 48 + x.m % 10 ≤ 57; omega
    · rw [if_pos (by omega)]; rfl
    · rw [if_neg (by omega)]; show 48 ≤ 48 + x.d / 10 % 10 ∧ 48 + x.d / 10 % 10 ≤ 57; omega
    · rw [if_neg (by omega)]; show 48 ≤ 48 + x.d % 10 ∧ 48 + x.d % 10 ≤ 57; omega
  have hd : dateT (txtI x) = x := by
    rw [txt_ten]
    have e1 : ∀ s : List Int, accY s 10 = 10 * (10 * (10 * (10 * 0 + (s.getD 0 0 - 48)) + (s.getD 1 0 - 48)) + (s.getD 2 0 - 48)) + (s.getD 3 0 - 48) := fun _ => rfl
    have e2 : ∀ s : List Int, accM s 10 = 10 * (10 * 0 + (s.getD 5 0 - 48)) + (s.getD 6 0 - 48) := fun _ => rfl
    have e3 : ∀ s : List Int, accE s 10 = 10 * (10 * 0 + (s.getD 8 0 - 48)) + (s.getD 9 0 - 48) := fun _ => rfl
    unfold dateT
    rw [e1, e2, e3]
    obtain ⟨y, m, d⟩ := x
    simp only [List.getD_cons_zero, List.getD_cons_succ] at *
    congr 1
    · omega
    · omega
    · omega
  unfold parseV
  rw [if_pos hform, hd, if_pos hv]

end Go.Proofs
