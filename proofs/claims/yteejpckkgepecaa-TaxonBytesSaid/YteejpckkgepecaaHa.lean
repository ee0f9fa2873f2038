/-
  The functions of the chapter on hashes: contracts.
-/
import Derived.Test.YteejpckkgepecaaAbsAll
namespace Go.Proofs
open Go.Pa
open Go.Pa renaming VB0 → Q0, VB1 → Q1, VB2 → Q2, VB3 → Q3, VB4 → Q4, VB5 → Q5, VB6 → Q6, VB7 → Q7, VB8 → Q8, VB9 → Q9, condV_bool → Qa, guardV_bool → Qb, vcS → Qc, evA → Qd, evBin → Qe, nilA → Qf, nilOf → Qg, intOp → Qh, strOp → Qi, evUn → Qj, evConv → Qk, evField → Ql, evFieldAddr → Qm, evIndexAddr → Qn, evIndex → Qo, evIndexA → Qp, bnd → Qq, evSlice → Qr, evLen → Qs, evPick → Qt, evExtract → Qu, evNilCheck → Qv, evMin → Qw, evMax → Qx, evLoadI → Qy, partsOne → QA, intsOf → QB, rowsAV → QC, evBuildSlice → QD, evBuild → QE, fillA → QF, splice → QG, evBuiltin → QH, guardD_bool → QI, dOp → QJ, cl → QK, vcLoad → QL, vcStore → QM, vcMake → QN, convA → QO, evIndexArr → QP, retA → QQ, ressA → QR, resA → QS, envOf → QT, condR_bool → QX, asgEnv → QY, parEnv → QZ, dstAt → XI, vcLook → XT, vcPut → XU, vcEnt → XV, vcESt → XW, vcMLen → XX, vcDel → XY, vcClear → XZ, vcLookD → Y0
open Go.Pa.AV renaming cell → Qz
open Go.Pa.Env renaming put → QU
open List renaming set_cons_zero → QV, set_cons_succ → QW, foldl_cons → X0, foldl_nil → X1, map_cons → X2, map_nil → X3, toList_toArray → X4, getElem?_cons_zero → X5, getElem?_cons_succ → X6, nil_append → Xa, append_nil → Xb, cons_append → Xc, singleton_append → Xd, length_cons → Xe, length_nil → Xf, all_cons → Xg, all_nil → Xh, take_succ_cons → Xi, take_zero → Xj, take_nil → Xk, drop_zero → Xl, drop_succ_cons → Xm, drop_nil → Xn, contains_nil → Xo, contains_cons → Xp
open Option renaming bind_some → X7, map_some → X8, map_none → X9
open Bool renaming or_false → Xq, false_or → Xr, or_true → Xs, true_or → Xt, false_eq_true → XC, not_true → XD, not_false → XE, and_true → XF, true_and → XG, and_self → XH
open Nat renaming reduceEqDiff → Xu, reduceAdd → Xv, reduceSub → Xw, reduceMul → Xx, reduceLT → Xy, reduceLeDiff → Xz, reduceBNe → XA, reduceBEq → XB, zero_add → XL, add_zero → XM
open UInt8 renaming reduceToNat → XJ
open Int renaming cast_ofNat_Int → XK, reduceToNat → XN, reduceLT → XO, reduceLE → XP, reduceNeg → XQ, reduceEq → XR, reduceNe → XS
set_option maxRecDepth 20000
set_option linter.unusedSimpArgs false

/-- Around. -/
def aroundI (a m : Int) : Int := (if a < 0 then IntKind.i64.wrap (0 - IntKind.i64.wrap (a + 1)) else a).tmod m

theorem around (a m : Int) (σ : Store) (hm : m ≠ 0) : ACalls Try.prog 12 [.int .i64 a, .int .i64 m] σ (fun r σ' => r = .int .i64 (aroundI a m) ∧ σ' = σ) := by
  refine acalls_of_vc (fn := Try.f12) Try.call12 Try.func12 rfl (by kernel_rfl) (by simp [Try.ntmps12]) ?_; simp -implicitDefEqProofs only [Try.ntmps12,Try.results12,Q0,Q1,Q2,Q3,Q4,Q5,Q6,Q7,Q8,Q9,Qa,Qb,Qc,Qd,Qe,Qf,Qg,Qh,Qi,Qj,Qk,Ql,Qm,Qn,Qo,Qp,Qq,Qr,Qs,Qt,Qu,Qv,Qw,Qx,Qy,Qz,QA,QB,QC,QD,QE,QF,QG,QH,QI,QJ,QK,QL,QM,QN,QO,QP,QQ,QR,QS,QT,QU,QV,QW,QX,QY,QZ,X0,X1,X2,X3,X4,X5,X6,X7,X8,X9,Xa,Xb,Xc,Xd,Xe,Xf,Xg,Xh,Xi,Xj,Xk,Xl,Xm,Xn,Xo,Xp,Xq,Xr,Xs,Xt,Xu,Xv,Xw,Xx,Xy,Xz,XA,XB,reduceIte,reduceCtorEq,XC,XD,XE,XF,XG,XH,XI,XJ,XK,XL,XM,XN,XO,XP,XQ,XR,XS,XT,XU,XV,XW,XX,XY,XZ,Y0,Try.q3,Try.q4]
  simp only [decide_eq_true_eq, decide_eq_false_iff_not, aroundI]
  exact ⟨fun h => ⟨hm, by rw [if_pos h]⟩, fun h => ⟨hm, by rw [if_neg h]⟩⟩

theorem aroundI_eq {a m : Int} (ha : Okk .i64 a) : aroundI a m = (if a < 0 then -a - 1 else a).tmod m := by
  have := okk_i64 ha
  unfold aroundI
  split
  · rw [wrap_i64 (n := a + 1) (by omega) (by omega), wrap_i64 (by omega) (by omega)]
    congr 1
    omega
  · rfl

theorem aroundI_bound {a m : Int} (ha : Okk .i64 a) (hm : 0 < m) : 0 ≤ aroundI a m ∧ aroundI a m < m := by
  rw [aroundI_eq ha]
  have h0 : 0 ≤ (if a < 0 then -a - 1 else a) := by split <;> omega
  generalize (if a < 0 then -a - 1 else a) = n at h0 ⊢
  rw [Int.tmod_eq_emod_of_nonneg h0]
  exact ⟨Int.emod_nonneg _ (by omega), Int.emod_lt_of_pos _ hm⟩

theorem same_ints (a b : List Int) (σ : Store) (ha : a.length < 4611686018427387904) : ACalls Try.prog 17 [.ints .i64 a, .ints .i64 b] σ (fun r σ' => r = .bool (decide (a = b)) ∧ σ' = σ) := by
  refine acalls_of_vc (fn := Try.f17) Try.call17 Try.func17 rfl (by kernel_rfl) (by simp [Try.ntmps17]) ?_; simp -implicitDefEqProofs only [Try.ntmps17,Try.results17,Q0,Q1,Q2,Q3,Q4,Q5,Q6,Q7,Q8,Q9,Qa,Qb,Qc,Qd,Qe,Qf,Qg,Qh,Qi,Qj,Qk,Ql,Qm,Qn,Qo,Qp,Qq,Qr,Qs,Qt,Qu,Qv,Qw,Qx,Qy,Qz,QA,QB,QC,QD,QE,QF,QG,QH,QI,QJ,QK,QL,QM,QN,QO,QP,QQ,QR,QS,QT,QU,QV,QW,QX,QY,QZ,X0,X1,X2,X3,X4,X5,X6,X7,X8,X9,Xa,Xb,Xc,Xd,Xe,Xf,Xg,Xh,Xi,Xj,Xk,Xl,Xm,Xn,Xo,Xp,Xq,Xr,Xs,Xt,Xu,Xv,Xw,Xx,Xy,Xz,XA,XB,reduceIte,reduceCtorEq,XC,XD,XE,XF,XG,XH,XI,XJ,XK,XL,XM,XN,XO,XP,XQ,XR,XS,XT,XU,XV,XW,XX,XY,XZ,Y0,Try.q3,Try.q4,Try.q22]
  constructor
  · intro h
    have : a ≠ b := fun e => by subst e; simp at h
    simp [this]
  · intro h
    have hl : a.length = b.length := by simp at h; omega
    refine awp_loop (fun i : Nat => [(5, .int .i64 i), (0, .ints .i64 a), (1, .ints .i64 b)]) (fun i s => s = σ ∧ i ≤ a.length ∧ a.take i = b.take i) (fun i => a.length - i) 0 (by kernel_rfl) (by simp [sub_cons, sub_nil, get_cons]) ⟨rfl, by omega, rfl⟩ ?_
    rintro i s ⟨rfl, hi, hp⟩
    simp -implicitDefEqProofs only [Q0,Q1,Q2,Q3,Q4,Q5,Q6,Q7,Q8,Q9,Qa,Qb,Qc,Qd,Qe,Qf,Qg,Qh,Qi,Qj,Qk,Ql,Qm,Qn,Qo,Qp,Qq,Qr,Qs,Qt,Qu,Qv,Qw,Qx,Qy,Qz,QA,QB,QC,QD,QE,QF,QG,QH,QI,QJ,QK,QL,QM,QN,QO,QP,QQ,QR,QS,QT,QU,QV,QW,QX,QY,QZ,X0,X1,X2,X3,X4,X5,X6,X7,X8,X9,Xa,Xb,Xc,Xd,Xe,Xf,Xg,Xh,Xi,Xj,Xk,Xl,Xm,Xn,Xo,Xp,Xq,Xr,Xs,Xt,Xu,Xv,Xw,Xx,Xy,Xz,XA,XB,reduceIte,reduceCtorEq,XC,XD,XE,XF,XG,XH,XI,XJ,XK,XL,XM,XN,XO,XP,XQ,XR,XS,XT,XU,XV,XW,XX,XY,XZ,Y0,Try.q3,Try.q4,Try.q22]
    constructor
    · intro hlt
      have hlt' : i < a.length := by simpa using hlt
      refine awp_draws [] Try.mixed (by kernel_rfl) ?_
      simp -implicitDefEqProofs only [Q0,Q1,Q2,Q3,Q4,Q5,Q6,Q7,Q8,Q9,Qa,Qb,Qc,Qd,Qe,Qf,Qg,Qh,Qi,Qj,Qk,Ql,Qm,Qn,Qo,Qp,Qq,Qr,Qs,Qt,Qu,Qv,Qw,Qx,Qy,Qz,QA,QB,QC,QD,QE,QF,QG,QH,QI,QJ,QK,QL,QM,QN,QO,QP,QQ,QR,QS,QT,QU,QV,QW,QX,QY,QZ,X0,X1,X2,X3,X4,X5,X6,X7,X8,X9,Xa,Xb,Xc,Xd,Xe,Xf,Xg,Xh,Xi,Xj,Xk,Xl,Xm,Xn,Xo,Xp,Xq,Xr,Xs,Xt,Xu,Xv,Xw,Xx,Xy,Xz,XA,XB,reduceIte,reduceCtorEq,XC,XD,XE,XF,XG,XH,XI,XJ,XK,XL,XM,XN,XO,XP,XQ,XR,XS,XT,XU,XV,XW,XX,XY,XZ,Y0,Try.q3,Try.q4,Try.q22]
      obtain ⟨q1, q2⟩ := same_round hl hlt' hp
      refine ⟨by omega, by omega, fun h => ?_, fun h => ⟨i + 1, ?_, ⟨by omega, q2 (by simpa using h)⟩, by omega⟩⟩
      · have := q1 (by simpa using h); simp [this]
      · rw [wrap_i64 (by omega) (by omega)]; simp
    · intro hge
      have := same_end hl (by simp at hge; omega) hp
      simp [this]

theorem same_bytes (a b : List Int) (σ : Store) (ha : a.length < 4611686018427387904) : ACalls Try.prog 34 [.ints .u8 a, .ints .u8 b] σ (fun r σ' => r = .bool (decide (a = b)) ∧ σ' = σ) := by
  refine acalls_of_vc (fn := Try.f34) Try.call34 Try.func34 rfl (by kernel_rfl) (by simp [Try.ntmps34]) ?_; simp -implicitDefEqProofs only [Try.ntmps34,Try.results34,Q0,Q1,Q2,Q3,Q4,Q5,Q6,Q7,Q8,Q9,Qa,Qb,Qc,Qd,Qe,Qf,Qg,Qh,Qi,Qj,Qk,Ql,Qm,Qn,Qo,Qp,Qq,Qr,Qs,Qt,Qu,Qv,Qw,Qx,Qy,Qz,QA,QB,QC,QD,QE,QF,QG,QH,QI,QJ,QK,QL,QM,QN,QO,QP,QQ,QR,QS,QT,QU,QV,QW,QX,QY,QZ,X0,X1,X2,X3,X4,X5,X6,X7,X8,X9,Xa,Xb,Xc,Xd,Xe,Xf,Xg,Xh,Xi,Xj,Xk,Xl,Xm,Xn,Xo,Xp,Xq,Xr,Xs,Xt,Xu,Xv,Xw,Xx,Xy,Xz,XA,XB,reduceIte,reduceCtorEq,XC,XD,XE,XF,XG,XH,XI,XJ,XK,XL,XM,XN,XO,XP,XQ,XR,XS,XT,XU,XV,XW,XX,XY,XZ,Y0,Try.q3,Try.q4,Try.q5,Try.q52]
  constructor
  · intro h
    have : a ≠ b := fun e => by subst e; simp at h
    simp [this]
  · intro h
    have hl : a.length = b.length := by simp at h; omega
    refine awp_loop (fun i : Nat => [(5, .int .i64 i), (0, .ints .u8 a), (1, .ints .u8 b)]) (fun i s => s = σ ∧ i ≤ a.length ∧ a.take i = b.take i) (fun i => a.length - i) 0 (by kernel_rfl) (by simp [sub_cons, sub_nil, get_cons]) ⟨rfl, by omega, rfl⟩ ?_
    rintro i s ⟨rfl, hi, hp⟩
    simp -implicitDefEqProofs only [Q0,Q1,Q2,Q3,Q4,Q5,Q6,Q7,Q8,Q9,Qa,Qb,Qc,Qd,Qe,Qf,Qg,Qh,Qi,Qj,Qk,Ql,Qm,Qn,Qo,Qp,Qq,Qr,Qs,Qt,Qu,Qv,Qw,Qx,Qy,Qz,QA,QB,QC,QD,QE,QF,QG,QH,QI,QJ,QK,QL,QM,QN,QO,QP,QQ,QR,QS,QT,QU,QV,QW,QX,QY,QZ,X0,X1,X2,X3,X4,X5,X6,X7,X8,X9,Xa,Xb,Xc,Xd,Xe,Xf,Xg,Xh,Xi,Xj,Xk,Xl,Xm,Xn,Xo,Xp,Xq,Xr,Xs,Xt,Xu,Xv,Xw,Xx,Xy,Xz,XA,XB,reduceIte,reduceCtorEq,XC,XD,XE,XF,XG,XH,XI,XJ,XK,XL,XM,XN,XO,XP,XQ,XR,XS,XT,XU,XV,XW,XX,XY,XZ,Y0,Try.q3,Try.q4,Try.q5,Try.q52]
    constructor
    · intro hlt
      have hlt' : i < a.length := by simpa using hlt
      refine awp_draws [] Try.mixed (by kernel_rfl) ?_
      simp -implicitDefEqProofs only [Q0,Q1,Q2,Q3,Q4,Q5,Q6,Q7,Q8,Q9,Qa,Qb,Qc,Qd,Qe,Qf,Qg,Qh,Qi,Qj,Qk,Ql,Qm,Qn,Qo,Qp,Qq,Qr,Qs,Qt,Qu,Qv,Qw,Qx,Qy,Qz,QA,QB,QC,QD,QE,QF,QG,QH,QI,QJ,QK,QL,QM,QN,QO,QP,QQ,QR,QS,QT,QU,QV,QW,QX,QY,QZ,X0,X1,X2,X3,X4,X5,X6,X7,X8,X9,Xa,Xb,Xc,Xd,Xe,Xf,Xg,Xh,Xi,Xj,Xk,Xl,Xm,Xn,Xo,Xp,Xq,Xr,Xs,Xt,Xu,Xv,Xw,Xx,Xy,Xz,XA,XB,reduceIte,reduceCtorEq,XC,XD,XE,XF,XG,XH,XI,XJ,XK,XL,XM,XN,XO,XP,XQ,XR,XS,XT,XU,XV,XW,XX,XY,XZ,Y0,Try.q3,Try.q4,Try.q5,Try.q52]
      obtain ⟨q1, q2⟩ := same_round hl hlt' hp
      refine ⟨by omega, by omega, fun h => ?_, fun h => ⟨i + 1, ?_, ⟨by omega, q2 (by simpa using h)⟩, by omega⟩⟩
      · have := q1 (by simpa using h); simp [this]
      · rw [wrap_i64 (by omega) (by omega)]; simp
    · intro hge
      have := same_end hl (by simp at hge; omega) hp
      simp [this]

theorem ref_few (l : List Int) (m : Int) (σ : Store) (hm : 0 ≤ m) (hm' : m < 1000000) : ACalls Try.prog 37 [.ints .u8 l, .int .i64 m] σ (FreshI σ .u8 (l.take m.toNat)) := by
  refine ACalls.fresh ?_
  refine acalls_of_vc (fn := Try.f37) Try.call37 Try.func37 rfl (by kernel_rfl) (by simp [Try.ntmps37]) ?_; simp -implicitDefEqProofs only [Try.ntmps37,Try.results37,Q0,Q1,Q2,Q3,Q4,Q5,Q6,Q7,Q8,Q9,Qa,Qb,Qc,Qd,Qe,Qf,Qg,Qh,Qi,Qj,Qk,Ql,Qm,Qn,Qo,Qp,Qq,Qr,Qs,Qt,Qu,Qv,Qw,Qx,Qy,Qz,QA,QB,QC,QD,QE,QF,QG,QH,QI,QJ,QK,QL,QM,QN,QO,QP,QQ,QR,QS,QT,QU,QV,QW,QX,QY,QZ,X0,X1,X2,X3,X4,X5,X6,X7,X8,X9,Xa,Xb,Xc,Xd,Xe,Xf,Xg,Xh,Xi,Xj,Xk,Xl,Xm,Xn,Xo,Xp,Xq,Xr,Xs,Xt,Xu,Xv,Xw,Xx,Xy,Xz,XA,XB,reduceIte,reduceCtorEq,XC,XD,XE,XF,XG,XH,XI,XJ,XK,XL,XM,XN,XO,XP,XQ,XR,XS,XT,XU,XV,XW,XX,XY,XZ,Y0,Try.q3,Try.q5,Try.q52]
  have hn : (min (l.length : Int) m).toNat = min l.length m.toNat := by omega
  have ht : l.take (min l.length m.toNat) = l.take m.toNat := by rw [List.take_eq_take_iff]; omega
  rw [hn, Nat.sub_zero, ht]
  refine ⟨by omega, append_buf Try.sl52 (by simp [Try.bt5]) (.refl _) .nil (.inl rfl) (by simp only [appFits, Try.bt5, List.length_take, List.length_nil]; omega) fun r2 s2 hx2 hb2 => ?_⟩
  simp -implicitDefEqProofs only [Q0,Q1,Q2,Q3,Q4,Q5,Q6,Q7,Q8,Q9,Qa,Qb,Qc,Qd,Qe,Qf,Qg,Qh,Qi,Qj,Qk,Ql,Qm,Qn,Qo,Qp,Qq,Qr,Qs,Qt,Qu,Qv,Qw,Qx,Qy,Qz,QA,QB,QC,QD,QE,QF,QG,QH,QI,QJ,QK,QL,QM,QN,QO,QP,QQ,QR,QS,QT,QU,QV,QW,QX,QY,QZ,X0,X1,X2,X3,X4,X5,X6,X7,X8,X9,Xa,Xb,Xc,Xd,Xe,Xf,Xg,Xh,Xi,Xj,Xk,Xl,Xm,Xn,Xo,Xp,Xq,Xr,Xs,Xt,Xu,Xv,Xw,Xx,Xy,Xz,XA,XB,reduceIte,reduceCtorEq,XC,XD,XE,XF,XG,XH,XI,XJ,XK,XL,XM,XN,XO,XP,XQ,XR,XS,XT,XU,XV,XW,XX,XY,XZ,Y0,Try.q3,Try.q5,Try.q52]
  exact ⟨hx2, by simpa using hb2⟩

def mixR (s w : Int) : Int := ixor .u64 (IntKind.u64.wrap (ixor .u64 s w * 11400714819323198485)) (IntKind.u64.wrap ((IntKind.u64.wrap (ixor .u64 s w * 11400714819323198485)).tdiv 4294967296))

def mixI (s w : Int) : Int := ixor .u64 (IntKind.u64.wrap (ixor .u64 s w * 11400714819323198485)) (ishr .u64 (IntKind.u64.wrap (ixor .u64 s w * 11400714819323198485)) 32)

/-- Little-endian. -/
def leI : List Int → Int
  | [] => 0
  | x :: xs => 256 * leI xs + x

theorem leI_bound : ∀ (l : List Int), U8s l → 0 ≤ leI l ∧ leI l < 256 ^ l.length
  | [], _ => by simp [leI]
  | x :: xs, h => by
    have h1 := leI_bound xs fun y hy => h y (List.mem_cons_of_mem _ hy)
    have h2 := h x (by simp)
    simp only [leI, List.length_cons, Int.pow_succ]
    omega

def wordAt (l : List Int) (j : Nat) : Int := leI ((l.drop (8 * j)).take 8)

def wordsI (l : List Int) : List Int := (List.range ((l.length + 7) / 8)).map (wordAt l)

theorem leI_step (l : List Int) {hi d : Nat} (hd : d < hi) (hh : hi ≤ l.length) : leI ((l.drop (hi - (d + 1))).take (d + 1)) = 256 * leI ((l.drop (hi - d)).take d) + l.getD (hi - (d + 1)) 0 := by
  have hlt : hi - (d + 1) < l.length := by omega
  rw [List.drop_eq_getElem_cons hlt, List.take_succ_cons, leI, getD_get hlt]
  have : hi - (d + 1) + 1 = hi - d := by omega
  rw [this]

theorem U8s_part {l : List Int} (h : U8s l) (a n : Nat) : U8s ((l.drop a).take n) := fun x hx => h x (List.mem_of_mem_drop (List.mem_of_mem_take hx))

theorem leI_small {l : List Int} (h : U8s l) (hl : l.length ≤ 8) : 0 ≤ leI l ∧ leI l < 18446744073709551616 := by
  obtain ⟨h1, h2⟩ := leI_bound l h
  refine ⟨h1, Int.lt_of_lt_of_le h2 ?_⟩
  have h3 := Nat.pow_le_pow_right (n := 256) (by omega) hl
  have h4 : ((256 ^ l.length : Nat) : Int) = (256 : Int) ^ l.length := by simp [Int.natCast_pow]
  rw [← h4]
  omega

theorem wordsI_length (l : List Int) : (wordsI l).length = (l.length + 7) / 8 := by simp [wordsI]

/-- The reference's sum. -/
def sumR (a l : List Int) : Int :=
  mixR (l.foldl (fun s x => mixR s (IntKind.u64.wrap x)) (mixR (mixR ((wordsI a).foldl mixR 0) (IntKind.u64.wrap a.length)) (IntKind.u64.wrap l.length))) 0

def bytesR (a b : List Int) : Int := sumR a ((wordsI b).map IntKind.i64.wrap ++ [(b.length : Int)])

def pairR (x y : Int) : Int := sumR [112, 97, 105, 114] [IntKind.i64.wrap x, IntKind.i64.wrap y]
end Go.Proofs
