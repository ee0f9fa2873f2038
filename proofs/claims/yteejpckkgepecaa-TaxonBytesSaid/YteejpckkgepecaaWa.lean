/-
  The Writer of package wire: contracts.
-/
import Derived.Test.YteejpckkgepecaaHk
import Derived.Test.YteejpckkgepecaaAbsAll
namespace Go.Proofs
open Go.Pa
open Go.Pa renaming VB0 → Q0, VB1 → Q1, VB2 → Q2, VB3 → Q3, VB4 → Q4, VB5 → Q5, VB6 → Q6, VB7 → Q7, VB8 → Q8, VB9 → Q9, condV_bool → Qa, guardV_bool → Qb, vcS → Qc, evA → Qd, evBin → Qe, nilA → Qf, nilOf → Qg, intOp → Qh, strOp → Qi, evUn → Qj, evConv → Qk, evField → Ql, evFieldAddr → Qm, evIndexAddr → Qn, evIndex → Qo, evIndexA → Qp, bnd → Qq, evSlice → Qr, evLen → Qs, evPick → Qt, evExtract → Qu, evNilCheck → Qv, evMin → Qw, evMax → Qx, evLoadI → Qy, partsOne → QA, intsOf → QB, rowsAV → QC, evBuildSlice → QD, evBuild → QE, fillA → QF, splice → QG, evBuiltin → QH, guardD_bool → QI, dOp → QJ, cl → QK, vcLoad → QL, vcStore → QM, vcMake → QN, convA → QO, evIndexArr → QP, retA → QQ, ressA → QR, resA → QS, envOf → QT, condR_bool → QX, asgEnv → QY, parEnv → QZ, dstAt → XI, vcLook → XT, vcPut → XU, vcEnt → XV, vcESt → XW, vcMLen → XX, vcDel → XY, vcClear → XZ, vcLookD → Y0
open Go.Pa.AV renaming cell → Qz
open Go.Pa.Env renaming put → QU
open List renaming set_cons_zero → QV, set_cons_succ → QW, foldl_cons → X0, foldl_nil → X1, map_cons → X2, map_nil → X3, toList_toArray → X4, getElem?_cons_zero → X5, getElem?_cons_succ → X6, nil_append → Xa, append_nil → Xb, cons_append → Xc, singleton_append → Xd, length_cons → Xe, length_nil → Xf, all_cons → Xg, all_nil → Xh, take_succ_cons → Xi, take_zero → Xj, take_nil → Xk, drop_zero → Xl, drop_succ_cons → Xm, drop_nil → Xn, contains_nil → Xo, contains_cons → Xp
open Option renaming bind_some → X7, map_some → X8, map_none → X9
open Bool renaming or_false → Xq, false_or → Xr, or_true → Xs, true_or → Xt, false_eq_true → XC, not_true → XD, not_false → XE, and_true → XF, true_and → XG, and_self → XH
open Nat renaming reduceEqDiff → Xu, reduceAdd → Xv, reduceSub → Xw, reduceMul → Xx, reduceLT → Xy, reduceLeDiff → Xz, reduceBNe → XA, reduceBEq → XB, zero_add → XL, add_zero → XM
open UInt8 renaming reduceToNat → XJ
open Int renaming cast_ofNat_Int → XK, reduceToNat → XN, reduceLT → XO, reduceLE → XP, reduceNeg → XQ, reduceEq → XR, reduceNe → XS
set_option linter.unusedSimpArgs false
set_option maxRecDepth 20000

/-- The varint of a number. -/
def uintE (n : Nat) : List Int := if n < 128 then [(n : Int)] else ((128 + n % 128 : Nat) : Int) :: uintE (n / 128)
termination_by n
decreasing_by omega

theorem uintE_small {n : Nat} (h : n < 128) : uintE n = [(n : Int)] := by rw [uintE, if_pos h]
theorem uintE_big {n : Nat} (h : ¬ n < 128) : uintE n = ((128 + n % 128 : Nat) : Int) :: uintE (n / 128) := by rw [uintE, if_neg h]

/-- A Writer lies in object id, and has collected l; the objects of 'pre' beside it are as they were. -/
def WrS (pre : Store) (id : Nat) (l : List Int) (s : Store) : Prop :=
  id < pre.length ∧ pre.length ≤ s.length ∧ (∀ (i : Nat) x, i ≠ id → pre[i]? = some x → s[i]? = some x) ∧ ∃ r, s[id]? = some (.box [r]) ∧ BufI s pre.length r .u8 l

theorem take_ext (s : Store) (n : Nat) : Ext (s.take n) s := fun i y hy => by
  rw [List.getElem?_take] at hy
  split at hy
  · exact hy
  · cases hy

theorem take_len {s : Store} {n : Nat} (h : n ≤ s.length) : (s.take n).length = n := by rw [List.length_take]; omega

theorem WrS.put {pre s s2 : Store} {id : Nat} {l l2 : List Int} {r2 : AV} (h : WrS pre id l s) (hx : Ext (s.take pre.length) s2) (hb : BufI s2 (s.take pre.length).length r2 .u8 l2) : WrS pre id l2 (s2.set id (.box [r2])) := by
  obtain ⟨h1, h2, h3, r, h4, h5⟩ := h
  rw [take_len h2] at hb
  have hl := hx.len
  rw [take_len h2] at hl
  refine ⟨h1, by simp; exact hl, fun i x hi hpx => ?_, r2, by rw [List.getElem?_set_self (by omega)], ?_⟩
  · rw [List.getElem?_set_ne (Ne.symm hi)]
    have hlt := (List.getElem?_eq_some_iff.1 hpx).1
    exact hx i x (by rw [List.getElem?_take, if_pos hlt]; exact h3 i x hi hpx)
  · rcases hb with hb | ⟨k, q1, q2, q3⟩
    · exact .inl hb
    · exact .inr ⟨k, q1, by rw [List.getElem?_set_ne (by omega)]; exact q2, q3⟩

theorem WrS.box {pre s s2 : Store} {id : Nat} {l : List Int} {r : AV} (h : WrS pre id l s) (h4 : s[id]? = some (.box [r])) (hx : Ext (s.take pre.length) s2) : s2[id]? = some (.box [r]) :=
  hx id _ (by rw [List.getElem?_take, if_pos h.1]; exact h4)

theorem or128 {n : Nat} : ior .u8 (IntKind.u8.wrap (n : Int)) 128 = ((128 + n % 128 : Nat) : Int) := by
  have h0 : IntKind.u8.wrap (n : Int) = ((n % 256 : Nat) : Int) := by
    simp [IntKind.wrap, IntKind.bits, IntKind.signed]
  rw [h0]
  have key : ∀ m : Fin 256, ior .u8 ((m.val : Nat) : Int) 128 = ((128 + m.val % 128 : Nat) : Int) := by decide +kernel
  have := key ⟨n % 256, by omega⟩
  simp only at this
  rw [this]
  congr 2
  omega

theorem shr7 {n : Nat} : ishr .u64 (n : Int) 7 = ((n / 128 : Nat) : Int) := by
  have : ishr .u64 (n : Int) 7 = (n : Int).fdiv 128 := rfl
  rw [this, Int.fdiv_eq_ediv_of_nonneg _ (by omega)]
  omega

theorem uintE_len {n : Nat} (h : n < 18446744073709551616) : 1 ≤ (uintE n).length ∧ (uintE n).length ≤ 10 := by
  have key : ∀ (d n : Nat), n < 128 ^ d → (uintE n).length ≤ d ∨ d = 0 := by
    intro d
    induction d with
    | zero => intro n _; exact .inr rfl
    | succ d ih =>
      intro n hn
      by_cases h1 : n < 128
      · rw [uintE_small h1]; left; simp
      · rw [uintE_big h1]
        left
        have h2 : n / 128 < 128 ^ d := by rw [Nat.div_lt_iff_lt_mul (by omega)]; rw [Nat.pow_succ] at hn; exact hn
        rcases ih (n / 128) h2 with h3 | h3
        · simp only [List.length_cons]; omega
        · subst h3; simp at h2; omega
  refine ⟨?_, ?_⟩
  · by_cases h1 : n < 128
    · rw [uintE_small h1]; simp
    · rw [uintE_big h1]; simp
  · rcases key 10 n (by omega) with h1 | h1 <;> omega

theorem wr_uint (n : Nat) (hn : n < 18446744073709551616) {pre s : Store} {id : Nat} {l : List Int} (h : WrS pre id l s) (hl : l.length < 1000000) :
    ACalls Try.prog 70 [.ptr id 0, .int .u64 n] s (fun r s' => r = .tup [] ∧ WrS pre id (l ++ uintE n) s') := by
  have hnl := (uintE_len hn).2
  refine acalls_of_vc (fn := Try.f70) Try.call70 Try.func70 rfl (by kernel_rfl) (by simp [Try.ntmps70]) ?_; simp -implicitDefEqProofs only [Try.ntmps70,Try.results70,Q0,Q1,Q2,Q3,Q4,Q5,Q6,Q7,Q8,Q9,Qa,Qb,Qc,Qd,Qe,Qf,Qg,Qh,Qi,Qj,Qk,Ql,Qm,Qn,Qo,Qp,Qq,Qr,Qs,Qt,Qu,Qv,Qw,Qx,Qy,Qz,QA,QB,QC,QD,QE,QF,QG,QH,QI,QJ,QK,QL,QM,QN,QO,QP,QQ,QR,QS,QT,QU,QV,QW,QX,QY,QZ,X0,X1,X2,X3,X4,X5,X6,X7,X8,X9,Xa,Xb,Xc,Xd,Xe,Xf,Xg,Xh,Xi,Xj,Xk,Xl,Xm,Xn,Xo,Xp,Xq,Xr,Xs,Xt,Xu,Xv,Xw,Xx,Xy,Xz,XA,XB,reduceIte,reduceCtorEq,XC,XD,XE,XF,XG,XH,XI,XJ,XK,XL,XM,XN,XO,XP,XQ,XR,XS,XT,XU,XV,XW,XX,XY,XZ,Y0,Try.q4,Try.q5,Try.q52,Try.q73,Try.underlying75,Try.q75,Try.q87,Try.q96]
  refine awp_loop (fun p : Nat × List Int => [(0, .ptr id 0), (1, .int .u64 p.1)]) (fun p s' => WrS pre id p.2 s' ∧ p.1 < 18446744073709551616 ∧ p.2 ++ uintE p.1 = l ++ uintE n) (fun p => p.1) (n, l) (by kernel_rfl) (by simp [sub_cons, sub_nil, get_cons]) ⟨h, hn, rfl⟩ ?_
  rintro ⟨k, l1⟩ s1 ⟨hw, hk, he⟩
  simp only at hw hk he
  have hll : l1.length < 1100000 := by
    have := congrArg List.length he
    simp only [List.length_append] at this
    omega
  obtain ⟨r, h4, h5⟩ := hw.2.2.2
  have h5' : BufI s1 (s1.take pre.length).length r .u8 l1 := by rw [take_len hw.2.1]; exact h5
  simp -implicitDefEqProofs only [h4,Q0,Q1,Q2,Q3,Q4,Q5,Q6,Q7,Q8,Q9,Qa,Qb,Qc,Qd,Qe,Qf,Qg,Qh,Qi,Qj,Qk,Ql,Qm,Qn,Qo,Qp,Qq,Qr,Qs,Qt,Qu,Qv,Qw,Qx,Qy,Qz,QA,QB,QC,QD,QE,QF,QG,QH,QI,QJ,QK,QL,QM,QN,QO,QP,QQ,QR,QS,QT,QU,QV,QW,QX,QY,QZ,X0,X1,X2,X3,X4,X5,X6,X7,X8,X9,Xa,Xb,Xc,Xd,Xe,Xf,Xg,Xh,Xi,Xj,Xk,Xl,Xm,Xn,Xo,Xp,Xq,Xr,Xs,Xt,Xu,Xv,Xw,Xx,Xy,Xz,XA,XB,reduceIte,reduceCtorEq,XC,XD,XE,XF,XG,XH,XI,XJ,XK,XL,XM,XN,XO,XP,XQ,XR,XS,XT,XU,XV,XW,XX,XY,XZ,Y0,Try.q4,Try.q5,Try.q52,Try.q73,Try.underlying75,Try.q75,Try.q87,Try.q96]
  constructor
  · intro hge
    have hge' : ¬ k < 128 := by simp at hge; omega
    refine append_buf (σ := s1.take pre.length) Try.sl52 (by simp [Try.bt5]) (take_ext _ _) h5' (.inl rfl) (by simp [appFits, Try.bt5]; omega) fun r2 s2 hx2 hb2 => ?_
    have g1 := hw.box h4 hx2
    have hc := hb2.cells
    have hput := hw.put hx2 hb2
    rw [or128] at hput
    simp -implicitDefEqProofs only [g1,hc,Q0,Q1,Q2,Q3,Q4,Q5,Q6,Q7,Q8,Q9,Qa,Qb,Qc,Qd,Qe,Qf,Qg,Qh,Qi,Qj,Qk,Ql,Qm,Qn,Qo,Qp,Qq,Qr,Qs,Qt,Qu,Qv,Qw,Qx,Qy,Qz,QA,QB,QC,QD,QE,QF,QG,QH,QI,QJ,QK,QL,QM,QN,QO,QP,QQ,QR,QS,QT,QU,QV,QW,QX,QY,QZ,X0,X1,X2,X3,X4,X5,X6,X7,X8,X9,Xa,Xb,Xc,Xd,Xe,Xf,Xg,Xh,Xi,Xj,Xk,Xl,Xm,Xn,Xo,Xp,Xq,Xr,Xs,Xt,Xu,Xv,Xw,Xx,Xy,Xz,XA,XB,reduceIte,reduceCtorEq,XC,XD,XE,XF,XG,XH,XI,XJ,XK,XL,XM,XN,XO,XP,XQ,XR,XS,XT,XU,XV,XW,XX,XY,XZ,Y0,Try.q4,Try.q5,Try.q52,Try.q73,Try.underlying75,Try.q75,Try.q87,Try.q96]
    refine ⟨(k / 128, l1 ++ [((128 + k % 128 : Nat) : Int)]), by rw [shr7], ⟨hput, by simp only; omega, ?_⟩, by simp only; omega⟩
    rw [← he, uintE_big hge']
    simp
  · intro hlt
    have hlt' : k < 128 := by simp at hlt; omega
    have hw8 : IntKind.u8.wrap (k : Int) = (k : Int) := wrap_u8 (by omega) (by omega)
    refine append_buf (σ := s1.take pre.length) Try.sl52 (by simp [Try.bt5]) (take_ext _ _) h5' (.inl rfl) (by simp [appFits, Try.bt5]; omega) fun r2 s2 hx2 hb2 => ?_
    have g1 := hw.box h4 hx2
    have hc := hb2.cells
    have hput := hw.put hx2 hb2
    rw [hw8, ← uintE_small hlt', he] at hput
    simp -implicitDefEqProofs only [g1,hc,Q0,Q1,Q2,Q3,Q4,Q5,Q6,Q7,Q8,Q9,Qa,Qb,Qc,Qd,Qe,Qf,Qg,Qh,Qi,Qj,Qk,Ql,Qm,Qn,Qo,Qp,Qq,Qr,Qs,Qt,Qu,Qv,Qw,Qx,Qy,Qz,QA,QB,QC,QD,QE,QF,QG,QH,QI,QJ,QK,QL,QM,QN,QO,QP,QQ,QR,QS,QT,QU,QV,QW,QX,QY,QZ,X0,X1,X2,X3,X4,X5,X6,X7,X8,X9,Xa,Xb,Xc,Xd,Xe,Xf,Xg,Xh,Xi,Xj,Xk,Xl,Xm,Xn,Xo,Xp,Xq,Xr,Xs,Xt,Xu,Xv,Xw,Xx,Xy,Xz,XA,XB,reduceIte,reduceCtorEq,XC,XD,XE,XF,XG,XH,XI,XJ,XK,XL,XM,XN,XO,XP,XQ,XR,XS,XT,XU,XV,XW,XX,XY,XZ,Y0,Try.q4,Try.q5,Try.q52,Try.q73,Try.underlying75,Try.q75,Try.q87,Try.q96]
    exact hput

end Go.Proofs
