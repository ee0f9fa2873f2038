/-
  The functions of the chapter on hashes: contracts.
-/
import Derived.Test.YtdioiegkpkjmkaaAbsAll
namespace Go.Proofs
open Go.Pa
open Go.Pa renaming VB0 → Q0, VB1 → Q1, VB2 → Q2, VB3 → Q3, VB4 → Q4, VB5 → Q5, VB6 → Q6, VB7 → Q7, VB8 → Q8, VB9 → Q9, condV_bool → Qa, guardV_bool → Qb, vcS → Qc, evA → Qd, evBin → Qe, nilA → Qf, nilOf → Qg, intOp → Qh, strOp → Qi, evUn → Qj, evConv → Qk, evField → Ql, evFieldAddr → Qm, evIndexAddr → Qn, evIndex → Qo, evIndexA → Qp, bnd → Qq, evSlice → Qr, evLen → Qs, evPick → Qt, evExtract → Qu, evNilCheck → Qv, evMin → Qw, evMax → Qx, evLoadI → Qy, partsOne → QA, intsOf → QB, rowsAV → QC, evBuildSlice → QD, evBuild → QE, fillA → QF, splice → QG, evBuiltin → QH, guardD_bool → QI, dOp → QJ, cl → QK, vcLoad → QL, vcStore → QM, vcMake → QN, convA → QO, evIndexArr → QP, retA → QQ, ressA → QR, resA → QS, envOf → QT, condR_bool → QX, asgEnv → QY, parEnv → QZ, dstAt → XI, vcLook → XT, vcPut → XU, vcEnt → XV, vcESt → XW, vcMLen → XX, vcDel → XY, vcClear → XZ, vcLookD → Y0
open Go.Pa.AV renaming cell → Qz
open Go.Pa.Env renaming put → QU
open List renaming set_cons_zero → QV, set_cons_succ → QW, foldl_cons → X0, foldl_nil → X1, map_cons → X2, map_nil → X3, toList_toArray → X4, getElem?_cons_zero → X5, getElem?_cons_succ → X6, nil_append → Xa, append_nil → Xb, cons_append → Xc, singleton_append → Xd, length_cons → Xe, length_nil → Xf, all_cons → Xg, all_nil → Xh, take_succ_cons → Xi, take_zero → Xj, take_nil → Xk, drop_zero → Xl, drop_succ_cons → Xm, drop_nil → Xn, contains_nil → Xo, contains_cons → Xp
open Option renaming bind_some → X7, map_some → X8, map_none → X9
open Bool renaming or_false → Xq, false_or → Xr, or_true → Xs, true_or → Xt, false_eq_true → XC, not_true → XD, not_false → XE, and_true → XF, true_and → XG, and_self → XH
open Nat renaming reduceEqDiff → Xu, reduceAdd → Xv, reduceSub → Xw, reduceMul → Xx, reduceLT → Xy, reduceLeDiff → Xz, reduceBNe → XA, reduceBEq → XB, zero_add → XL, add_zero → XM
open UInt8 renaming reduceToNat → XJ
open Int renaming cast_ofNat_Int → XK, reduceToNat → XN, reduceLT → XO, reduceLE → XP, reduceNeg → XQ, reduceEq → XR, reduceNe → XS
set_option maxRecDepth 20000
set_option linter.unusedSimpArgs false

/-- Around. -/
def aroundI (a m : Int) : Int := (if a < 0 then IntKind.i64.wrap (0 - IntKind.i64.wrap (a + 1)) else a).tmod m

theorem around (a m : Int) (σ : Store) (hm : m ≠ 0) : ACalls Try.prog 16 [.int .i64 a, .int .i64 m] σ (fun r σ' => r = .int .i64 (aroundI a m) ∧ σ' = σ) := by
  refine acalls_of_vc (fn := Try.f16) Try.call16 Try.func16 rfl (by kernel_rfl) (by simp [Try.ntmps16]) ?_; simp -implicitDefEqProofs only [Try.ntmps16,Try.results16,Q0,Q1,Q2,Q3,Q4,Q5,Q6,Q7,Q8,Q9,Qa,Qb,Qc,Qd,Qe,Qf,Qg,Qh,Qi,Qj,Qk,Ql,Qm,Qn,Qo,Qp,Qq,Qr,Qs,Qt,Qu,Qv,Qw,Qx,Qy,Qz,QA,QB,QC,QD,QE,QF,QG,QH,QI,QJ,QK,QL,QM,QN,QO,QP,QQ,QR,QS,QT,QU,QV,QW,QX,QY,QZ,X0,X1,X2,X3,X4,X5,X6,X7,X8,X9,Xa,Xb,Xc,Xd,Xe,Xf,Xg,Xh,Xi,Xj,Xk,Xl,Xm,Xn,Xo,Xp,Xq,Xr,Xs,Xt,Xu,Xv,Xw,Xx,Xy,Xz,XA,XB,reduceIte,reduceCtorEq,XC,XD,XE,XF,XG,XH,XI,XJ,XK,XL,XM,XN,XO,XP,XQ,XR,XS,XT,XU,XV,XW,XX,XY,XZ,Y0,Try.q3,Try.q4]
  simp only [decide_eq_true_eq, decide_eq_false_iff_not, aroundI]
  exact ⟨fun h => ⟨hm, by rw [if_pos h]⟩, fun h => ⟨hm, by rw [if_neg h]⟩⟩

theorem aroundI_eq {a m : Int} (ha : Okk .i64 a) : aroundI a m = (if a < 0 then -a - 1 else a).tmod m := by
  have := okk_i64 ha
  unfold aroundI
  split
  · rw [wrap_i64 (n := a + 1) (by omega) (by omega), wrap_i64 (by omega) (by omega)]
    congr 1
    omega
  · rfl

theorem aroundI_bound {a m : Int} (ha : Okk .i64 a) (hm : 0 < m) : 0 ≤ aroundI a m ∧ aroundI a m < m := by
  rw [aroundI_eq ha]
  have h0 : 0 ≤ (if a < 0 then -a - 1 else a) := by split <;> omega
  generalize (if a < 0 then -a - 1 else a) = n at h0 ⊢
  rw [Int.tmod_eq_emod_of_nonneg h0]
  exact ⟨Int.emod_nonneg _ (by omega), Int.emod_lt_of_pos _ hm⟩

def mixR (s w : Int) : Int := ixor .u64 (IntKind.u64.wrap (ixor .u64 s w * 11400714819323198485)) (IntKind.u64.wrap ((IntKind.u64.wrap (ixor .u64 s w * 11400714819323198485)).tdiv 4294967296))

def mixI (s w : Int) : Int := ixor .u64 (IntKind.u64.wrap (ixor .u64 s w * 11400714819323198485)) (ishr .u64 (IntKind.u64.wrap (ixor .u64 s w * 11400714819323198485)) 32)

theorem ref_mix (s w : Int) (σ : Store) : ACalls Try.prog 57 [.int .u64 s, .int .u64 w] σ (fun r σ' => r = .int .u64 (mixR s w) ∧ σ' = σ) := by
  refine acalls_of_vc (fn := Try.f57) Try.call57 Try.func57 rfl (by kernel_rfl) (by simp [Try.ntmps57]) ?_; simp -implicitDefEqProofs only [Try.ntmps57,Try.results57,Q0,Q1,Q2,Q3,Q4,Q5,Q6,Q7,Q8,Q9,Qa,Qb,Qc,Qd,Qe,Qf,Qg,Qh,Qi,Qj,Qk,Ql,Qm,Qn,Qo,Qp,Qq,Qr,Qs,Qt,Qu,Qv,Qw,Qx,Qy,Qz,QA,QB,QC,QD,QE,QF,QG,QH,QI,QJ,QK,QL,QM,QN,QO,QP,QQ,QR,QS,QT,QU,QV,QW,QX,QY,QZ,X0,X1,X2,X3,X4,X5,X6,X7,X8,X9,Xa,Xb,Xc,Xd,Xe,Xf,Xg,Xh,Xi,Xj,Xk,Xl,Xm,Xn,Xo,Xp,Xq,Xr,Xs,Xt,Xu,Xv,Xw,Xx,Xy,Xz,XA,XB,reduceIte,reduceCtorEq,XC,XD,XE,XF,XG,XH,XI,XJ,XK,XL,XM,XN,XO,XP,XQ,XR,XS,XT,XU,XV,XW,XX,XY,XZ,Y0,Try.q58]
  rfl

theorem mix (s w : Int) (σ : Store) : ACalls Try.prog 46 [.int .u64 s, .int .u64 w] σ (fun r σ' => r = .int .u64 (mixI s w) ∧ σ' = σ) := by
  refine acalls_of_vc (fn := Try.f46) Try.call46 Try.func46 rfl (by kernel_rfl) (by simp [Try.ntmps46]) ?_; simp -implicitDefEqProofs only [Try.ntmps46,Try.results46,Q0,Q1,Q2,Q3,Q4,Q5,Q6,Q7,Q8,Q9,Qa,Qb,Qc,Qd,Qe,Qf,Qg,Qh,Qi,Qj,Qk,Ql,Qm,Qn,Qo,Qp,Qq,Qr,Qs,Qt,Qu,Qv,Qw,Qx,Qy,Qz,QA,QB,QC,QD,QE,QF,QG,QH,QI,QJ,QK,QL,QM,QN,QO,QP,QQ,QR,QS,QT,QU,QV,QW,QX,QY,QZ,X0,X1,X2,X3,X4,X5,X6,X7,X8,X9,Xa,Xb,Xc,Xd,Xe,Xf,Xg,Xh,Xi,Xj,Xk,Xl,Xm,Xn,Xo,Xp,Xq,Xr,Xs,Xt,Xu,Xv,Xw,Xx,Xy,Xz,XA,XB,reduceIte,reduceCtorEq,XC,XD,XE,XF,XG,XH,XI,XJ,XK,XL,XM,XN,XO,XP,XQ,XR,XS,XT,XU,XV,XW,XX,XY,XZ,Y0,Try.q58,Try.q93]
  rfl

/-- Little-endian. -/
def leI : List Int → Int
  | [] => 0
  | x :: xs => 256 * leI xs + x

theorem leI_bound : ∀ (l : List Int), U8s l → 0 ≤ leI l ∧ leI l < 256 ^ l.length
  | [], _ => by simp [leI]
  | x :: xs, h => by
    have h1 := leI_bound xs fun y hy => h y (List.mem_cons_of_mem _ hy)
    have h2 := h x (by simp)
    simp only [leI, List.length_cons, Int.pow_succ]
    omega

def wordAt (l : List Int) (j : Nat) : Int := leI ((l.drop (8 * j)).take 8)

def wordsI (l : List Int) : List Int := (List.range ((l.length + 7) / 8)).map (wordAt l)

theorem leI_step (l : List Int) {hi d : Nat} (hd : d < hi) (hh : hi ≤ l.length) : leI ((l.drop (hi - (d + 1))).take (d + 1)) = 256 * leI ((l.drop (hi - d)).take d) + l.getD (hi - (d + 1)) 0 := by
  have hlt : hi - (d + 1) < l.length := by omega
  rw [List.drop_eq_getElem_cons hlt, List.take_succ_cons, leI, getD_get hlt]
  have : hi - (d + 1) + 1 = hi - d := by omega
  rw [this]

theorem U8s_part {l : List Int} (h : U8s l) (a n : Nat) : U8s ((l.drop a).take n) := fun x hx => h x (List.mem_of_mem_drop (List.mem_of_mem_take hx))

theorem leI_small {l : List Int} (h : U8s l) (hl : l.length ≤ 8) : 0 ≤ leI l ∧ leI l < 18446744073709551616 := by
  obtain ⟨h1, h2⟩ := leI_bound l h
  refine ⟨h1, Int.lt_of_lt_of_le h2 ?_⟩
  have h3 := Nat.pow_le_pow_right (n := 256) (by omega) hl
  have h4 : ((256 ^ l.length : Nat) : Int) = (256 : Int) ^ l.length := by simp [Int.natCast_pow]
  rw [← h4]
  omega

theorem ref_words (l : List Int) (σ : Store) (hb : U8s l) (hl : l.length < 1000000) : ACalls Try.prog 56 [.ints .u8 l] σ (FreshI σ .u64 (wordsI l)) := by
  refine ACalls.fresh ?_
  refine acalls_of_vc (fn := Try.f56) Try.call56 Try.func56 rfl (by kernel_rfl) (by simp [Try.ntmps56]) ?_; simp -implicitDefEqProofs only [Try.ntmps56,Try.results56,Q0,Q1,Q2,Q3,Q4,Q5,Q6,Q7,Q8,Q9,Qa,Qb,Qc,Qd,Qe,Qf,Qg,Qh,Qi,Qj,Qk,Ql,Qm,Qn,Qo,Qp,Qq,Qr,Qs,Qt,Qu,Qv,Qw,Qx,Qy,Qz,QA,QB,QC,QD,QE,QF,QG,QH,QI,QJ,QK,QL,QM,QN,QO,QP,QQ,QR,QS,QT,QU,QV,QW,QX,QY,QZ,X0,X1,X2,X3,X4,X5,X6,X7,X8,X9,Xa,Xb,Xc,Xd,Xe,Xf,Xg,Xh,Xi,Xj,Xk,Xl,Xm,Xn,Xo,Xp,Xq,Xr,Xs,Xt,Xu,Xv,Xw,Xx,Xy,Xz,XA,XB,reduceIte,reduceCtorEq,XC,XD,XE,XF,XG,XH,XI,XJ,XK,XL,XM,XN,XO,XP,XQ,XR,XS,XT,XU,XV,XW,XX,XY,XZ,Y0,Try.q3,Try.q4,Try.q5,Try.q58,Try.q89,Try.q91]
  refine awp_loop (fun p : Nat × AV => [(4, .int .i64 ((8 * p.1 : Nat) : Int)), (3, p.2), (2, .nils), (0, .ints .u8 l)]) (fun p s => p.1 ≤ (l.length + 7) / 8 ∧ Ext σ s ∧ BufI s σ.length p.2 .u64 ((List.range p.1).map (wordAt l))) (fun p => (l.length + 7) / 8 - p.1) (0, .nils) (by kernel_rfl)
    (by simp [sub_cons, sub_nil, get_cons]) ⟨by omega, .refl _, .nil⟩ ?_
  rintro ⟨j, r⟩ s ⟨hj, hx, hbuf⟩
  simp only at hj hbuf
  simp -implicitDefEqProofs only [Q0,Q1,Q2,Q3,Q4,Q5,Q6,Q7,Q8,Q9,Qa,Qb,Qc,Qd,Qe,Qf,Qg,Qh,Qi,Qj,Qk,Ql,Qm,Qn,Qo,Qp,Qq,Qr,Qs,Qt,Qu,Qv,Qw,Qx,Qy,Qz,QA,QB,QC,QD,QE,QF,QG,QH,QI,QJ,QK,QL,QM,QN,QO,QP,QQ,QR,QS,QT,QU,QV,QW,QX,QY,QZ,X0,X1,X2,X3,X4,X5,X6,X7,X8,X9,Xa,Xb,Xc,Xd,Xe,Xf,Xg,Xh,Xi,Xj,Xk,Xl,Xm,Xn,Xo,Xp,Xq,Xr,Xs,Xt,Xu,Xv,Xw,Xx,Xy,Xz,XA,XB,reduceIte,reduceCtorEq,XC,XD,XE,XF,XG,XH,XI,XJ,XK,XL,XM,XN,XO,XP,XQ,XR,XS,XT,XU,XV,XW,XX,XY,XZ,Y0,Try.q3,Try.q4,Try.q5,Try.q58,Try.q89,Try.q91]
  constructor
  · intro hlt
    have hlt' : 8 * j < l.length := by simp at hlt; omega
    have hw8 : IntKind.i64.wrap (((8 * j : Nat) : Int) + 8) = ((8 * j + 8 : Nat) : Int) := by rw [wrap_i64 (by omega) (by omega)]; omega
    have hmin : min ((8 * j + 8 : Nat) : Int) (l.length : Int) = ((min (8 * j + 8) l.length : Nat) : Int) := by omega
    obtain ⟨hi, hhi⟩ : ∃ hi, hi = min (8 * j + 8) l.length := ⟨_, rfl⟩
    have hw9 : IntKind.i64.wrap ((hi : Int) - 1) = (hi : Int) - 1 := wrap_i64 (by omega) (by omega)
    rw [hw8, hmin, ← hhi, hw9]
    refine awp_loop (fun d : Nat => [(6, .int .i64 ((hi : Int) - 1 - d)), (5, .int .u64 (leI ((l.drop (hi - d)).take d))), (4, .int .i64 ((8 * j : Nat) : Int)), (3, r), (2, .nils), (0, .ints .u8 l)]) (fun d s1 => s1 = s ∧ d ≤ hi - 8 * j) (fun d => hi - 8 * j - d) 0 (by kernel_rfl)
      (by simp [sub_cons, sub_nil, get_cons, leI]) ⟨rfl, by omega⟩ ?_
    rintro d s1 ⟨rfl, hd⟩
    simp -implicitDefEqProofs only [Q0,Q1,Q2,Q3,Q4,Q5,Q6,Q7,Q8,Q9,Qa,Qb,Qc,Qd,Qe,Qf,Qg,Qh,Qi,Qj,Qk,Ql,Qm,Qn,Qo,Qp,Qq,Qr,Qs,Qt,Qu,Qv,Qw,Qx,Qy,Qz,QA,QB,QC,QD,QE,QF,QG,QH,QI,QJ,QK,QL,QM,QN,QO,QP,QQ,QR,QS,QT,QU,QV,QW,QX,QY,QZ,X0,X1,X2,X3,X4,X5,X6,X7,X8,X9,Xa,Xb,Xc,Xd,Xe,Xf,Xg,Xh,Xi,Xj,Xk,Xl,Xm,Xn,Xo,Xp,Xq,Xr,Xs,Xt,Xu,Xv,Xw,Xx,Xy,Xz,XA,XB,reduceIte,reduceCtorEq,XC,XD,XE,XF,XG,XH,XI,XJ,XK,XL,XM,XN,XO,XP,XQ,XR,XS,XT,XU,XV,XW,XX,XY,XZ,Y0,Try.q3,Try.q4,Try.q5,Try.q58,Try.q89,Try.q91]
    constructor
    · intro hge
      have hge' : d < hi - 8 * j := by simp at hge; omega
      have hk : (((hi : Int) - 1 - d).toNat) = hi - (d + 1) := by omega
      rw [hk]
      refine ⟨by omega, d + 1, ⟨?_, ?_⟩, by omega, by omega⟩
      · rw [wrap_i64 (by omega) (by omega)]; congr 2; omega
      · have hp := leI_small (U8s_part hb (hi - d) d) (by rw [List.length_take]; omega)
        have hp2 := leI_small (U8s_part hb (hi - (d + 1)) (d + 1)) (by rw [List.length_take]; omega)
        have hst := leI_step l (hi := hi) (d := d) (by omega) (by omega)
        have hq := hb (l.getD (hi - (d + 1)) 0) (by rw [getD_get (by omega)]; exact List.getElem_mem _)
        have hq2 := (leI_bound _ (U8s_part hb (hi - d) d)).2
        rw [wrap_u64 (n := l.getD (hi - (d + 1)) 0) (by omega) (by omega), wrap_u64 (n := 256 * _) (by omega) (by omega), ← hst, wrap_u64 hp2.1 hp2.2]
    · intro hge
      have hd' : d = hi - 8 * j := by simp at hge; omega
      have hword : leI ((l.drop (hi - d)).take d) = wordAt l j := by
        subst hd'
        unfold wordAt
        congr 1
        rw [show hi - (hi - 8 * j) = 8 * j by omega, List.take_eq_take_iff, List.length_drop]
        omega
      rw [hword]
      refine append_buf Try.sl89 (by simp [Try.bt58]) hx hbuf (.inl rfl) (by simp [appFits, Try.bt58]; omega) fun r2 s2 hx2 hb2 => ?_
      simp -implicitDefEqProofs only [Q0,Q1,Q2,Q3,Q4,Q5,Q6,Q7,Q8,Q9,Qa,Qb,Qc,Qd,Qe,Qf,Qg,Qh,Qi,Qj,Qk,Ql,Qm,Qn,Qo,Qp,Qq,Qr,Qs,Qt,Qu,Qv,Qw,Qx,Qy,Qz,QA,QB,QC,QD,QE,QF,QG,QH,QI,QJ,QK,QL,QM,QN,QO,QP,QQ,QR,QS,QT,QU,QV,QW,QX,QY,QZ,X0,X1,X2,X3,X4,X5,X6,X7,X8,X9,Xa,Xb,Xc,Xd,Xe,Xf,Xg,Xh,Xi,Xj,Xk,Xl,Xm,Xn,Xo,Xp,Xq,Xr,Xs,Xt,Xu,Xv,Xw,Xx,Xy,Xz,XA,XB,reduceIte,reduceCtorEq,XC,XD,XE,XF,XG,XH,XI,XJ,XK,XL,XM,XN,XO,XP,XQ,XR,XS,XT,XU,XV,XW,XX,XY,XZ,Y0,Try.q3,Try.q4,Try.q5,Try.q58,Try.q89,Try.q91]
      refine ⟨(j + 1, r2), ⟨?_, rfl⟩, ⟨by simp only; omega, hx2, ?_⟩, by simp only; omega⟩
      · simp only; rw [hw8]; rfl
      · simp only [List.range_succ, List.map_append, List.map_cons, List.map_nil]; exact hb2
  · intro hge
    have hj' : j = (l.length + 7) / 8 := by simp at hge; omega
    subst hj'
    exact ⟨hx, hbuf⟩

theorem wordsI_length (l : List Int) : (wordsI l).length = (l.length + 7) / 8 := by simp [wordsI]

/-- The reference's sum. -/
def sumR (a l : List Int) : Int :=
  mixR (l.foldl (fun s x => mixR s (IntKind.u64.wrap x)) (mixR (mixR ((wordsI a).foldl mixR 0) (IntKind.u64.wrap a.length)) (IntKind.u64.wrap l.length))) 0

theorem ref_sum (a l : List Int) (σ : Store) (hb : U8s a) (ha : a.length < 1000000) (hl : l.length < 1000000) : ACalls Try.prog 44 [.str a, .ints .i64 l] σ (fun r σ' => r = .int .u64 (sumR a l) ∧ σ' = σ) := by
  refine acalls_of_vc (fn := Try.f44) Try.call44 Try.func44 rfl (by kernel_rfl) (by simp [Try.ntmps44]) ?_; simp -implicitDefEqProofs only [Try.ntmps44,Try.results44,Q0,Q1,Q2,Q3,Q4,Q5,Q6,Q7,Q8,Q9,Qa,Qb,Qc,Qd,Qe,Qf,Qg,Qh,Qi,Qj,Qk,Ql,Qm,Qn,Qo,Qp,Qq,Qr,Qs,Qt,Qu,Qv,Qw,Qx,Qy,Qz,QA,QB,QC,QD,QE,QF,QG,QH,QI,QJ,QK,QL,QM,QN,QO,QP,QQ,QR,QS,QT,QU,QV,QW,QX,QY,QZ,X0,X1,X2,X3,X4,X5,X6,X7,X8,X9,Xa,Xb,Xc,Xd,Xe,Xf,Xg,Xh,Xi,Xj,Xk,Xl,Xm,Xn,Xo,Xp,Xq,Xr,Xs,Xt,Xu,Xv,Xw,Xx,Xy,Xz,XA,XB,reduceIte,reduceCtorEq,XC,XD,XE,XF,XG,XH,XI,XJ,XK,XL,XM,XN,XO,XP,XQ,XR,XS,XT,XU,XV,XW,XX,XY,XZ,Y0,Try.q3,Try.q4,Try.q5,Try.q9,Try.q22,Try.q58,Try.q89,Try.q91]
  refine ⟨by omega, acalls_then (ref_words a σ hb ha).freshFrozen ?_⟩
  simp -implicitDefEqProofs only [Q0,Q1,Q2,Q3,Q4,Q5,Q6,Q7,Q8,Q9,Qa,Qb,Qc,Qd,Qe,Qf,Qg,Qh,Qi,Qj,Qk,Ql,Qm,Qn,Qo,Qp,Qq,Qr,Qs,Qt,Qu,Qv,Qw,Qx,Qy,Qz,QA,QB,QC,QD,QE,QF,QG,QH,QI,QJ,QK,QL,QM,QN,QO,QP,QQ,QR,QS,QT,QU,QV,QW,QX,QY,QZ,X0,X1,X2,X3,X4,X5,X6,X7,X8,X9,Xa,Xb,Xc,Xd,Xe,Xf,Xg,Xh,Xi,Xj,Xk,Xl,Xm,Xn,Xo,Xp,Xq,Xr,Xs,Xt,Xu,Xv,Xw,Xx,Xy,Xz,XA,XB,reduceIte,reduceCtorEq,XC,XD,XE,XF,XG,XH,XI,XJ,XK,XL,XM,XN,XO,XP,XQ,XR,XS,XT,XU,XV,XW,XX,XY,XZ,Y0,Try.q3,Try.q4,Try.q5,Try.q9,Try.q22,Try.q58,Try.q89,Try.q91]
  have hwl := wordsI_length a
  obtain ⟨ws, hws⟩ : ∃ ws, ws = wordsI a := ⟨_, rfl⟩
  unfold sumR
  rw [← hws] at hwl ⊢
  refine awp_loop (fun i : Nat => [(7, .int .i64 i), (6, .ints .u64 ws), (5, .int .u64 ((ws.take i).foldl mixR 0)), (0, .str a), (1, .ints .i64 l)]) (fun i s => s = σ ∧ i ≤ ws.length) (fun i => ws.length - i) 0 (by kernel_rfl) (by simp [sub_cons, sub_nil, get_cons]) ⟨rfl, by omega⟩ ?_
  rintro i s ⟨rfl, hi⟩
  simp -implicitDefEqProofs only [Q0,Q1,Q2,Q3,Q4,Q5,Q6,Q7,Q8,Q9,Qa,Qb,Qc,Qd,Qe,Qf,Qg,Qh,Qi,Qj,Qk,Ql,Qm,Qn,Qo,Qp,Qq,Qr,Qs,Qt,Qu,Qv,Qw,Qx,Qy,Qz,QA,QB,QC,QD,QE,QF,QG,QH,QI,QJ,QK,QL,QM,QN,QO,QP,QQ,QR,QS,QT,QU,QV,QW,QX,QY,QZ,X0,X1,X2,X3,X4,X5,X6,X7,X8,X9,Xa,Xb,Xc,Xd,Xe,Xf,Xg,Xh,Xi,Xj,Xk,Xl,Xm,Xn,Xo,Xp,Xq,Xr,Xs,Xt,Xu,Xv,Xw,Xx,Xy,Xz,XA,XB,reduceIte,reduceCtorEq,XC,XD,XE,XF,XG,XH,XI,XJ,XK,XL,XM,XN,XO,XP,XQ,XR,XS,XT,XU,XV,XW,XX,XY,XZ,Y0,Try.q3,Try.q4,Try.q5,Try.q9,Try.q22,Try.q58,Try.q89,Try.q91]
  constructor
  · intro hlt
    have hlt' : i < ws.length := by simp at hlt; omega
    refine ⟨by omega, acalls_then (ref_mix _ _ _) ?_⟩
    simp -implicitDefEqProofs only [Q0,Q1,Q2,Q3,Q4,Q5,Q6,Q7,Q8,Q9,Qa,Qb,Qc,Qd,Qe,Qf,Qg,Qh,Qi,Qj,Qk,Ql,Qm,Qn,Qo,Qp,Qq,Qr,Qs,Qt,Qu,Qv,Qw,Qx,Qy,Qz,QA,QB,QC,QD,QE,QF,QG,QH,QI,QJ,QK,QL,QM,QN,QO,QP,QQ,QR,QS,QT,QU,QV,QW,QX,QY,QZ,X0,X1,X2,X3,X4,X5,X6,X7,X8,X9,Xa,Xb,Xc,Xd,Xe,Xf,Xg,Xh,Xi,Xj,Xk,Xl,Xm,Xn,Xo,Xp,Xq,Xr,Xs,Xt,Xu,Xv,Xw,Xx,Xy,Xz,XA,XB,reduceIte,reduceCtorEq,XC,XD,XE,XF,XG,XH,XI,XJ,XK,XL,XM,XN,XO,XP,XQ,XR,XS,XT,XU,XV,XW,XX,XY,XZ,Y0,Try.q3,Try.q4,Try.q5,Try.q9,Try.q22,Try.q58,Try.q89,Try.q91]
    refine ⟨i + 1, ⟨?_, ?_⟩, by omega, by omega⟩
    · rw [wrap_i64 (by omega) (by omega)]; rfl
    · rw [foldl_take_succ _ _ _ hlt', Int.toNat_natCast, getD_get hlt']
  · intro hge
    have hi' : i = ws.length := by simp at hge; omega
    rw [hi', List.take_length]
    refine acalls_then (ref_mix _ _ _) ?_
    simp -implicitDefEqProofs only [Q0,Q1,Q2,Q3,Q4,Q5,Q6,Q7,Q8,Q9,Qa,Qb,Qc,Qd,Qe,Qf,Qg,Qh,Qi,Qj,Qk,Ql,Qm,Qn,Qo,Qp,Qq,Qr,Qs,Qt,Qu,Qv,Qw,Qx,Qy,Qz,QA,QB,QC,QD,QE,QF,QG,QH,QI,QJ,QK,QL,QM,QN,QO,QP,QQ,QR,QS,QT,QU,QV,QW,QX,QY,QZ,X0,X1,X2,X3,X4,X5,X6,X7,X8,X9,Xa,Xb,Xc,Xd,Xe,Xf,Xg,Xh,Xi,Xj,Xk,Xl,Xm,Xn,Xo,Xp,Xq,Xr,Xs,Xt,Xu,Xv,Xw,Xx,Xy,Xz,XA,XB,reduceIte,reduceCtorEq,XC,XD,XE,XF,XG,XH,XI,XJ,XK,XL,XM,XN,XO,XP,XQ,XR,XS,XT,XU,XV,XW,XX,XY,XZ,Y0,Try.q3,Try.q4,Try.q5,Try.q9,Try.q22,Try.q58,Try.q89,Try.q91]
    refine acalls_then (ref_mix _ _ _) ?_
    simp -implicitDefEqProofs only [Q0,Q1,Q2,Q3,Q4,Q5,Q6,Q7,Q8,Q9,Qa,Qb,Qc,Qd,Qe,Qf,Qg,Qh,Qi,Qj,Qk,Ql,Qm,Qn,Qo,Qp,Qq,Qr,Qs,Qt,Qu,Qv,Qw,Qx,Qy,Qz,QA,QB,QC,QD,QE,QF,QG,QH,QI,QJ,QK,QL,QM,QN,QO,QP,QQ,QR,QS,QT,QU,QV,QW,QX,QY,QZ,X0,X1,X2,X3,X4,X5,X6,X7,X8,X9,Xa,Xb,Xc,Xd,Xe,Xf,Xg,Xh,Xi,Xj,Xk,Xl,Xm,Xn,Xo,Xp,Xq,Xr,Xs,Xt,Xu,Xv,Xw,Xx,Xy,Xz,XA,XB,reduceIte,reduceCtorEq,XC,XD,XE,XF,XG,XH,XI,XJ,XK,XL,XM,XN,XO,XP,XQ,XR,XS,XT,XU,XV,XW,XX,XY,XZ,Y0,Try.q3,Try.q4,Try.q5,Try.q9,Try.q22,Try.q58,Try.q89,Try.q91]
    obtain ⟨z, hz⟩ : ∃ z, z = mixR (mixR (ws.foldl mixR 0) (IntKind.u64.wrap a.length)) (IntKind.u64.wrap l.length) := ⟨_, rfl⟩
    rw [← hz]
    refine awp_loop (fun i : Nat => [(8, .int .i64 i), (5, .int .u64 ((l.take i).foldl (fun s x => mixR s (IntKind.u64.wrap x)) z)), (1, .ints .i64 l)]) (fun i s1 => s1 = s ∧ i ≤ l.length) (fun i => l.length - i) 0 (by kernel_rfl) (by simp [sub_cons, sub_nil, get_cons]) ⟨rfl, by omega⟩ ?_
    rintro i s1 ⟨rfl, hi⟩
    simp -implicitDefEqProofs only [Q0,Q1,Q2,Q3,Q4,Q5,Q6,Q7,Q8,Q9,Qa,Qb,Qc,Qd,Qe,Qf,Qg,Qh,Qi,Qj,Qk,Ql,Qm,Qn,Qo,Qp,Qq,Qr,Qs,Qt,Qu,Qv,Qw,Qx,Qy,Qz,QA,QB,QC,QD,QE,QF,QG,QH,QI,QJ,QK,QL,QM,QN,QO,QP,QQ,QR,QS,QT,QU,QV,QW,QX,QY,QZ,X0,X1,X2,X3,X4,X5,X6,X7,X8,X9,Xa,Xb,Xc,Xd,Xe,Xf,Xg,Xh,Xi,Xj,Xk,Xl,Xm,Xn,Xo,Xp,Xq,Xr,Xs,Xt,Xu,Xv,Xw,Xx,Xy,Xz,XA,XB,reduceIte,reduceCtorEq,XC,XD,XE,XF,XG,XH,XI,XJ,XK,XL,XM,XN,XO,XP,XQ,XR,XS,XT,XU,XV,XW,XX,XY,XZ,Y0,Try.q3,Try.q4,Try.q5,Try.q9,Try.q22,Try.q58,Try.q89,Try.q91]
    constructor
    · intro hlt
      have hlt' : i < l.length := by simp at hlt; omega
      refine ⟨by omega, acalls_then (ref_mix _ _ _) ?_⟩
      simp -implicitDefEqProofs only [Q0,Q1,Q2,Q3,Q4,Q5,Q6,Q7,Q8,Q9,Qa,Qb,Qc,Qd,Qe,Qf,Qg,Qh,Qi,Qj,Qk,Ql,Qm,Qn,Qo,Qp,Qq,Qr,Qs,Qt,Qu,Qv,Qw,Qx,Qy,Qz,QA,QB,QC,QD,QE,QF,QG,QH,QI,QJ,QK,QL,QM,QN,QO,QP,QQ,QR,QS,QT,QU,QV,QW,QX,QY,QZ,X0,X1,X2,X3,X4,X5,X6,X7,X8,X9,Xa,Xb,Xc,Xd,Xe,Xf,Xg,Xh,Xi,Xj,Xk,Xl,Xm,Xn,Xo,Xp,Xq,Xr,Xs,Xt,Xu,Xv,Xw,Xx,Xy,Xz,XA,XB,reduceIte,reduceCtorEq,XC,XD,XE,XF,XG,XH,XI,XJ,XK,XL,XM,XN,XO,XP,XQ,XR,XS,XT,XU,XV,XW,XX,XY,XZ,Y0,Try.q3,Try.q4,Try.q5,Try.q9,Try.q22,Try.q58,Try.q89,Try.q91]
      refine ⟨i + 1, ⟨?_, ?_⟩, by omega, by omega⟩
      · rw [wrap_i64 (by omega) (by omega)]; rfl
      · rw [foldl_take_succ _ _ _ hlt', Int.toNat_natCast, getD_get hlt']
    · intro hge
      have hi' : i = l.length := by simp at hge; omega
      rw [hi', List.take_length]
      refine acalls_then (ref_mix _ _ _) ?_
      simp -implicitDefEqProofs only [Q0,Q1,Q2,Q3,Q4,Q5,Q6,Q7,Q8,Q9,Qa,Qb,Qc,Qd,Qe,Qf,Qg,Qh,Qi,Qj,Qk,Ql,Qm,Qn,Qo,Qp,Qq,Qr,Qs,Qt,Qu,Qv,Qw,Qx,Qy,Qz,QA,QB,QC,QD,QE,QF,QG,QH,QI,QJ,QK,QL,QM,QN,QO,QP,QQ,QR,QS,QT,QU,QV,QW,QX,QY,QZ,X0,X1,X2,X3,X4,X5,X6,X7,X8,X9,Xa,Xb,Xc,Xd,Xe,Xf,Xg,Xh,Xi,Xj,Xk,Xl,Xm,Xn,Xo,Xp,Xq,Xr,Xs,Xt,Xu,Xv,Xw,Xx,Xy,Xz,XA,XB,reduceIte,reduceCtorEq,XC,XD,XE,XF,XG,XH,XI,XJ,XK,XL,XM,XN,XO,XP,XQ,XR,XS,XT,XU,XV,XW,XX,XY,XZ,Y0,Try.q3,Try.q4,Try.q5,Try.q9,Try.q22,Try.q58,Try.q89,Try.q91]

def bytesR (a b : List Int) : Int := sumR a ((wordsI b).map IntKind.i64.wrap ++ [(b.length : Int)])

def pairR (x y : Int) : Int := sumR [112, 97, 105, 114] [IntKind.i64.wrap x, IntKind.i64.wrap y]
end Go.Proofs
