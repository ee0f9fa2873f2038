/-
  The ledger: the generator of scripts; contract.
-/
import Derived.Test.YtdioiegkpkjmkaaJq
import Derived.Test.YtdioiegkpkjmkaaHa
namespace Go.Proofs
open Go.Pa
open Go.Pa renaming VB0 → Q0, VB1 → Q1, VB2 → Q2, VB3 → Q3, VB4 → Q4, VB5 → Q5, VB6 → Q6, VB7 → Q7, VB8 → Q8, VB9 → Q9, condV_bool → Qa, guardV_bool → Qb, vcS → Qc, evA → Qd, evBin → Qe, nilA → Qf, nilOf → Qg, intOp → Qh, strOp → Qi, evUn → Qj, evConv → Qk, evField → Ql, evFieldAddr → Qm, evIndexAddr → Qn, evIndex → Qo, evIndexA → Qp, bnd → Qq, evSlice → Qr, evLen → Qs, evPick → Qt, evExtract → Qu, evNilCheck → Qv, evMin → Qw, evMax → Qx, evLoadI → Qy, partsOne → QA, intsOf → QB, rowsAV → QC, evBuildSlice → QD, evBuild → QE, fillA → QF, splice → QG, evBuiltin → QH, guardD_bool → QI, dOp → QJ, cl → QK, vcLoad → QL, vcStore → QM, vcMake → QN, convA → QO, evIndexArr → QP, retA → QQ, ressA → QR, resA → QS, envOf → QT, condR_bool → QX, asgEnv → QY, parEnv → QZ, dstAt → XI, vcLook → XT, vcPut → XU, vcEnt → XV, vcESt → XW, vcMLen → XX, vcDel → XY, vcClear → XZ, vcLookD → Y0
open Go.Pa.AV renaming cell → Qz
open Go.Pa.Env renaming put → QU
open List renaming set_cons_zero → QV, set_cons_succ → QW, foldl_cons → X0, foldl_nil → X1, map_cons → X2, map_nil → X3, toList_toArray → X4, getElem?_cons_zero → X5, getElem?_cons_succ → X6, nil_append → Xa, append_nil → Xb, cons_append → Xc, singleton_append → Xd, length_cons → Xe, length_nil → Xf, all_cons → Xg, all_nil → Xh, take_succ_cons → Xi, take_zero → Xj, take_nil → Xk, drop_zero → Xl, drop_succ_cons → Xm, drop_nil → Xn, contains_nil → Xo, contains_cons → Xp
open Option renaming bind_some → X7, map_some → X8, map_none → X9
open Bool renaming or_false → Xq, false_or → Xr, or_true → Xs, true_or → Xt, false_eq_true → XC, not_true → XD, not_false → XE, and_true → XF, true_and → XG, and_self → XH
open Nat renaming reduceEqDiff → Xu, reduceAdd → Xv, reduceSub → Xw, reduceMul → Xx, reduceLT → Xy, reduceLeDiff → Xz, reduceBNe → XA, reduceBEq → XB, zero_add → XL, add_zero → XM
open UInt8 renaming reduceToNat → XJ
open Int renaming cast_ofNat_Int → XK, reduceToNat → XN, reduceLT → XO, reduceLE → XP, reduceNeg → XQ, reduceEq → XR, reduceNe → XS
set_option linter.unusedSimpArgs false
set_option linter.unusedVariables false
set_option maxRecDepth 20000
set_option maxHeartbeats 4000000

/-- An operation: entries to post, or the number of an entry to take back, and a day. -/
structure Opn where
  es : List Ent
  ix : Int
  dy : Int
deriving Inhabited

def opA (o : Opn) : List AV := [esV o.es, .int .i64 o.ix, .int .i64 o.dy]
theorem opA_len (l : List Opn) : ∀ r ∈ l.map opA, r.length = 3 := by
  intro r hr
  obtain ⟨e, _, rfl⟩ := List.mem_map.1 hr
  rfl

def entG (n m : Int) (k : Nat) : Ent :=
  ⟨100 + (m + 5 * (k : Int)).tmod 10, if n.tmod 8 < 3 then 0 else (n.tdiv 32).tmod 4, 1 + (n.tdiv 32 + m.tdiv 16 + (k : Int)).tmod 4, (n.tdiv 128).tmod 2, if n.tmod 8 < 3 then 20 + (m.tdiv 64).tmod 100 else 1 + (m.tdiv 64).tmod 50, (k : Int)⟩
def manyG (n : Int) : Nat := if n.tmod 8 = 7 then 0 else (1 + (n.tdiv 8).tmod 3).toNat
def opG (n m : Int) : Opn := ⟨(List.range (manyG n)).map (entG n m), (n.tdiv 8).tmod 9, 100 + m.tmod 12⟩
def scrI (l : List Int) (most : Nat) : List Opn := (List.range (min most (l.length / 2))).map fun k => opG (aroundI (l.getD (2 * k) 0) 1048576) (aroundI (l.getD (2 * k + 1) 0) 1048576)

theorem td_b {n : Int} (h : 0 ≤ n) {k : Int} (hk : 0 < k) : 0 ≤ n.tdiv k ∧ n.tdiv k ≤ n := by
  rw [Int.tdiv_eq_ediv_of_nonneg h]
  exact ⟨Int.ediv_nonneg h (by omega), Int.ediv_le_self _ h⟩
theorem tm_b {n : Int} (h : 0 ≤ n) {k : Int} (hk : 0 < k) : 0 ≤ n.tmod k ∧ n.tmod k < k := by
  rw [Int.tmod_eq_emod_of_nonneg h]
  exact ⟨Int.emod_nonneg _ (by omega), Int.emod_lt_of_pos _ hk⟩

theorem scrI_len (l : List Int) (most : Nat) : (scrI l most).length = min most (l.length / 2) := by simp [scrI]
theorem scrI_take (l : List Int) (most : Nat) {k : Nat} (h : k < min most (l.length / 2)) : (scrI l most).take (k + 1) = (scrI l most).take k ++ [opG (aroundI (l.getD (2 * k) 0) 1048576) (aroundI (l.getD (2 * k + 1) 0) 1048576)] := by
  rw [List.take_succ_eq_append_getElem (by rw [scrI_len]; exact h)]
  simp [scrI]

theorem opR_val {σ s : Store} {r : AV} {l : List Opn} (h : BufR s σ.length r 3 (l.map opA)) : Frz s σ.length r (.rows 3 (l.map opA)) :=
  h.frz rfl (opA_len _) fun i x y hx hy => by
    rw [hx] at hy; cases hy
    have hm : x ∈ (l.map opA).flatten := List.mem_of_getElem? hx
    obtain ⟨row, hr, hx⟩ := List.mem_flatten.1 hm
    obtain ⟨o, _, rfl⟩ := List.mem_map.1 hr
    refine .same _ ?_
    simp only [opA, List.mem_cons, List.not_mem_nil, or_false] at hx
    rcases hx with rfl | rfl | rfl
    · exact ltLL_map entA (fun _ => rfl) _
    · rfl
    · rfl

theorem bufR_cells {s : Store} {n : Nat} {r : AV} {sz : Nat} {l : List (List AV)} (h : BufR s n r sz l) : r.cellsOf = some [r] := by
  rcases h with ⟨rfl | rfl, _⟩ | ⟨id, rfl, _, _⟩ <;> rfl

theorem r_script (l : List Int) (hl : ∀ x ∈ l, Okk .i64 x) (most : Nat) (hm : most ≤ 64) (σ : Store) :
    ACalls Try.prog 11 [.ints .i64 l, .int .i64 most] σ (fun r s => r = .rows 3 ((scrI l most).map opA) ∧ s = σ) := by
  refine ACalls.frozen (ACalls.mono (R := fun r s => Ext σ s ∧ BufR s σ.length r 3 ((scrI l most).map opA)) ?_ fun r s ⟨h1, h2⟩ => ⟨h1, opR_val h2⟩)
  obtain ⟨N, hN⟩ : ∃ N, N = min most (l.length / 2) := ⟨_, rfl⟩
  refine acalls_of_awp (fn := Try.f11) Try.call11 Try.func11 rfl (by simp [Try.ntmps11]) ?_
  simp only [Try.ntmps11, Try.results11]
  refine awp_seq (awp_vc (by kernel_rfl) ?_)
  simp -implicitDefEqProofs only [seqA_normal,seqA_ret,seqA_exit,Q0,Q1,Q2,Q3,Q4,Q5,Q6,Q7,Q8,Q9,Qa,Qb,Qc,Qd,Qe,Qf,Qg,Qh,Qi,Qj,Qk,Ql,Qm,Qn,Qo,Qp,Qq,Qr,Qs,Qt,Qu,Qv,Qw,Qx,Qy,Qz,QA,QB,QC,QD,QE,QF,QG,QH,QI,QJ,QK,QL,QM,QN,QO,QP,QQ,QR,QS,QT,QU,QV,QW,QX,QY,QZ,X0,X1,X2,X3,X4,X5,X6,X7,X8,X9,Xa,Xb,Xc,Xd,Xe,Xf,Xg,Xh,Xi,Xj,Xk,Xl,Xm,Xn,Xo,Xp,Xq,Xr,Xs,Xt,Xu,Xv,Xw,Xx,Xy,Xz,XA,XB,reduceIte,reduceCtorEq,XC,XD,XE,XF,XG,XH,XI,XJ,XK,XL,XM,XN,XO,XP,XQ,XR,XS,XT,XU,XV,XW,XX,XY,XZ,Y0,Try.q3,Try.q4,Try.q22,Try.q25,Try.q31,Try.underlying33,Try.q33,Try.underlying36,Try.q36]
  refine awp_seq (awp_vc (by kernel_rfl) ?_)
  simp -implicitDefEqProofs only [seqA_normal,seqA_ret,seqA_exit,Q0,Q1,Q2,Q3,Q4,Q5,Q6,Q7,Q8,Q9,Qa,Qb,Qc,Qd,Qe,Qf,Qg,Qh,Qi,Qj,Qk,Ql,Qm,Qn,Qo,Qp,Qq,Qr,Qs,Qt,Qu,Qv,Qw,Qx,Qy,Qz,QA,QB,QC,QD,QE,QF,QG,QH,QI,QJ,QK,QL,QM,QN,QO,QP,QQ,QR,QS,QT,QU,QV,QW,QX,QY,QZ,X0,X1,X2,X3,X4,X5,X6,X7,X8,X9,Xa,Xb,Xc,Xd,Xe,Xf,Xg,Xh,Xi,Xj,Xk,Xl,Xm,Xn,Xo,Xp,Xq,Xr,Xs,Xt,Xu,Xv,Xw,Xx,Xy,Xz,XA,XB,reduceIte,reduceCtorEq,XC,XD,XE,XF,XG,XH,XI,XJ,XK,XL,XM,XN,XO,XP,XQ,XR,XS,XT,XU,XV,XW,XX,XY,XZ,Y0,Try.q3,Try.q4,Try.q22,Try.q25,Try.q31,Try.underlying33,Try.q33,Try.underlying36,Try.q36]
  refine awp_seq (awp_vc (by kernel_rfl) ?_)
  simp -implicitDefEqProofs only [seqA_normal,seqA_ret,seqA_exit,Q0,Q1,Q2,Q3,Q4,Q5,Q6,Q7,Q8,Q9,Qa,Qb,Qc,Qd,Qe,Qf,Qg,Qh,Qi,Qj,Qk,Ql,Qm,Qn,Qo,Qp,Qq,Qr,Qs,Qt,Qu,Qv,Qw,Qx,Qy,Qz,QA,QB,QC,QD,QE,QF,QG,QH,QI,QJ,QK,QL,QM,QN,QO,QP,QQ,QR,QS,QT,QU,QV,QW,QX,QY,QZ,X0,X1,X2,X3,X4,X5,X6,X7,X8,X9,Xa,Xb,Xc,Xd,Xe,Xf,Xg,Xh,Xi,Xj,Xk,Xl,Xm,Xn,Xo,Xp,Xq,Xr,Xs,Xt,Xu,Xv,Xw,Xx,Xy,Xz,XA,XB,reduceIte,reduceCtorEq,XC,XD,XE,XF,XG,XH,XI,XJ,XK,XL,XM,XN,XO,XP,XQ,XR,XS,XT,XU,XV,XW,XX,XY,XZ,Y0,Try.q3,Try.q4,Try.q22,Try.q25,Try.q31,Try.underlying33,Try.q33,Try.underlying36,Try.q36]
  refine awp_loopW (fun q : Nat × AV => [(6, .int .i64 ((2 * q.1 : Nat) : Int)), (5, q.2), (0, .ints .i64 l), (1, .int .i64 most)])
    (fun q s => q.1 ≤ N ∧ Ext σ s ∧ BufR s σ.length q.2 3 (((scrI l most).take q.1).map opA)) (fun q => N - q.1) (0, .nils) (by simp [sub_cons, sub_nil, get_cons]) ⟨by simp, Ext.refl _, .inl ⟨.inl rfl, rfl⟩⟩ ?_
  rintro ⟨k, r⟩ s ⟨hk, hx, hbuf⟩
  simp only at hk hbuf
  have hkl : (((scrI l most).take k).map opA).length = k := by rw [List.length_map, List.length_take, scrI_len]; omega
  have w1 : IntKind.i64.wrap (((2 * k : Nat) : Int) + 1) = ((2 * k + 1 : Nat) : Int) := by rw [wrap_i64 (by omega) (by omega)]; rfl
  by_cases hlt : k < N
  · have d1 : decide (((2 * k + 1 : Nat) : Int) < (l.length : Int)) = true := decide_eq_true (by omega)
    have d2 : decide ((k : Int) < (most : Int)) = true := decide_eq_true (by omega)
    have d20 : decide ((0 : Int) < (most : Int)) = true := decide_eq_true (by omega)
    refine awp_cutK (fun e' s' => s' = s ∧ Env.sub [(6, .int .i64 ((2 * k : Nat) : Int)), (5, r), (0, .ints .i64 l), (1, .int .i64 most)] e') ?_ ?_
    · rcases hbuf with ⟨rfl | rfl, h0⟩ | ⟨id, rfl, h1, h2⟩
      · refine awp_vc (by kernel_rfl) ?_
        simp -implicitDefEqProofs only [w1,d1,d20,cutK_normal,Q0,Q1,Q2,Q3,Q4,Q5,Q6,Q7,Q8,Q9,Qa,Qb,Qc,Qd,Qe,Qf,Qg,Qh,Qi,Qj,Qk,Ql,Qm,Qn,Qo,Qp,Qq,Qr,Qs,Qt,Qu,Qv,Qw,Qx,Qy,Qz,QA,QB,QC,QD,QE,QF,QG,QH,QI,QJ,QK,QL,QM,QN,QO,QP,QQ,QR,QS,QT,QU,QV,QW,QX,QY,QZ,X0,X1,X2,X3,X4,X5,X6,X7,X8,X9,Xa,Xb,Xc,Xd,Xe,Xf,Xg,Xh,Xi,Xj,Xk,Xl,Xm,Xn,Xo,Xp,Xq,Xr,Xs,Xt,Xu,Xv,Xw,Xx,Xy,Xz,XA,XB,reduceIte,reduceCtorEq,XC,XD,XE,XF,XG,XH,XI,XJ,XK,XL,XM,XN,XO,XP,XQ,XR,XS,XT,XU,XV,XW,XX,XY,XZ,Y0,Try.q3,Try.q4,Try.q22,Try.q25,Try.q31,Try.underlying33,Try.q33,Try.underlying36,Try.q36]
      · refine awp_vc (by kernel_rfl) ?_
        simp -implicitDefEqProofs only [w1,d1,d20,cutK_normal,Q0,Q1,Q2,Q3,Q4,Q5,Q6,Q7,Q8,Q9,Qa,Qb,Qc,Qd,Qe,Qf,Qg,Qh,Qi,Qj,Qk,Ql,Qm,Qn,Qo,Qp,Qq,Qr,Qs,Qt,Qu,Qv,Qw,Qx,Qy,Qz,QA,QB,QC,QD,QE,QF,QG,QH,QI,QJ,QK,QL,QM,QN,QO,QP,QQ,QR,QS,QT,QU,QV,QW,QX,QY,QZ,X0,X1,X2,X3,X4,X5,X6,X7,X8,X9,Xa,Xb,Xc,Xd,Xe,Xf,Xg,Xh,Xi,Xj,Xk,Xl,Xm,Xn,Xo,Xp,Xq,Xr,Xs,Xt,Xu,Xv,Xw,Xx,Xy,Xz,XA,XB,reduceIte,reduceCtorEq,XC,XD,XE,XF,XG,XH,XI,XJ,XK,XL,XM,XN,XO,XP,XQ,XR,XS,XT,XU,XV,XW,XX,XY,XZ,Y0,Try.q3,Try.q4,Try.q22,Try.q25,Try.q31,Try.underlying33,Try.q33,Try.underlying36,Try.q36]
      · refine awp_vc (by kernel_rfl) ?_
        simp -implicitDefEqProofs only [w1,d1,hkl,d2,cutK_normal,Q0,Q1,Q2,Q3,Q4,Q5,Q6,Q7,Q8,Q9,Qa,Qb,Qc,Qd,Qe,Qf,Qg,Qh,Qi,Qj,Qk,Ql,Qm,Qn,Qo,Qp,Qq,Qr,Qs,Qt,Qu,Qv,Qw,Qx,Qy,Qz,QA,QB,QC,QD,QE,QF,QG,QH,QI,QJ,QK,QL,QM,QN,QO,QP,QQ,QR,QS,QT,QU,QV,QW,QX,QY,QZ,X0,X1,X2,X3,X4,X5,X6,X7,X8,X9,Xa,Xb,Xc,Xd,Xe,Xf,Xg,Xh,Xi,Xj,Xk,Xl,Xm,Xn,Xo,Xp,Xq,Xr,Xs,Xt,Xu,Xv,Xw,Xx,Xy,Xz,XA,XB,reduceIte,reduceCtorEq,XC,XD,XE,XF,XG,XH,XI,XJ,XK,XL,XM,XN,XO,XP,XQ,XR,XS,XT,XU,XV,XW,XX,XY,XZ,Y0,Try.q3,Try.q4,Try.q22,Try.q25,Try.q31,Try.underlying33,Try.q33,Try.underlying36,Try.q36]
    rintro e' s' ⟨rfl, he⟩
    refine awp_subJ _ he ?_
    clear he e'
    have hg1 : l.getD ((2 * k : Nat) : Int).toNat 0 = l.getD (2 * k) 0 := by rw [Int.toNat_natCast]
    have hg2 : l.getD ((2 * k + 1 : Nat) : Int).toNat 0 = l.getD (2 * k + 1) 0 := by rw [Int.toNat_natCast]
    have ok1 : Okk .i64 (l.getD (2 * k) 0) := by rw [getD_get (by omega : 2 * k < l.length)]; exact hl _ (List.getElem_mem _)
    have ok2 : Okk .i64 (l.getD (2 * k + 1) 0) := by rw [getD_get (by omega : 2 * k + 1 < l.length)]; exact hl _ (List.getElem_mem _)
    have bn := aroundI_bound ok1 (m := 1048576) (by decide)
    have bm := aroundI_bound ok2 (m := 1048576) (by decide)
    have kn := fun σ => around (l.getD (2 * k) 0) 1048576 σ (by decide)
    have km := fun σ => around (l.getD (2 * k + 1) 0) 1048576 σ (by decide)
    have ht := scrI_take l most (k := k) (by omega)
    generalize aroundI (l.getD (2 * k) 0) 1048576 = n at *
    generalize aroundI (l.getD (2 * k + 1) 0) 1048576 = m at *
    generalize l.getD (2 * k) 0 = ln at *
    generalize l.getD (2 * k + 1) 0 = lk at *
    have b1 : (0 : Int) ≤ ((2 * k : Nat) : Int) ∧ ((2 * k : Nat) : Int) < (l.length : Int) := by omega
    have b2 : (0 : Int) ≤ ((2 * k + 1 : Nat) : Int) ∧ ((2 * k + 1 : Nat) : Int) < (l.length : Int) := by omega
    refine awp_seq (awp_blk ?_)
    refine awp_seq (awp_vc (by kernel_rfl) ?_)
    simp -implicitDefEqProofs only [hg1,Q0,Q1,Q2,Q3,Q4,Q5,Q6,Q7,Q8,Q9,Qa,Qb,Qc,Qd,Qe,Qf,Qg,Qh,Qi,Qj,Qk,Ql,Qm,Qn,Qo,Qp,Qq,Qr,Qs,Qt,Qu,Qv,Qw,Qx,Qy,Qz,QA,QB,QC,QD,QE,QF,QG,QH,QI,QJ,QK,QL,QM,QN,QO,QP,QQ,QR,QS,QT,QU,QV,QW,QX,QY,QZ,X0,X1,X2,X3,X4,X5,X6,X7,X8,X9,Xa,Xb,Xc,Xd,Xe,Xf,Xg,Xh,Xi,Xj,Xk,Xl,Xm,Xn,Xo,Xp,Xq,Xr,Xs,Xt,Xu,Xv,Xw,Xx,Xy,Xz,XA,XB,reduceIte,reduceCtorEq,XC,XD,XE,XF,XG,XH,XI,XJ,XK,XL,XM,XN,XO,XP,XQ,XR,XS,XT,XU,XV,XW,XX,XY,XZ,Y0,Try.q3,Try.q4,Try.q22,Try.q25,Try.q31,Try.underlying33,Try.q33,Try.underlying36,Try.q36]
    refine ⟨b1, ?_⟩
    refine acalls_then (kn _) ?_
    simp -implicitDefEqProofs only [seqA_normal,Q0,Q1,Q2,Q3,Q4,Q5,Q6,Q7,Q8,Q9,Qa,Qb,Qc,Qd,Qe,Qf,Qg,Qh,Qi,Qj,Qk,Ql,Qm,Qn,Qo,Qp,Qq,Qr,Qs,Qt,Qu,Qv,Qw,Qx,Qy,Qz,QA,QB,QC,QD,QE,QF,QG,QH,QI,QJ,QK,QL,QM,QN,QO,QP,QQ,QR,QS,QT,QU,QV,QW,QX,QY,QZ,X0,X1,X2,X3,X4,X5,X6,X7,X8,X9,Xa,Xb,Xc,Xd,Xe,Xf,Xg,Xh,Xi,Xj,Xk,Xl,Xm,Xn,Xo,Xp,Xq,Xr,Xs,Xt,Xu,Xv,Xw,Xx,Xy,Xz,XA,XB,reduceIte,reduceCtorEq,XC,XD,XE,XF,XG,XH,XI,XJ,XK,XL,XM,XN,XO,XP,XQ,XR,XS,XT,XU,XV,XW,XX,XY,XZ,Y0,Try.q3,Try.q4,Try.q22,Try.q25,Try.q31,Try.underlying33,Try.q33,Try.underlying36,Try.q36]
    refine awp_seq (awp_vc (by kernel_rfl) ?_)
    simp -implicitDefEqProofs only [w1,hg2,Q0,Q1,Q2,Q3,Q4,Q5,Q6,Q7,Q8,Q9,Qa,Qb,Qc,Qd,Qe,Qf,Qg,Qh,Qi,Qj,Qk,Ql,Qm,Qn,Qo,Qp,Qq,Qr,Qs,Qt,Qu,Qv,Qw,Qx,Qy,Qz,QA,QB,QC,QD,QE,QF,QG,QH,QI,QJ,QK,QL,QM,QN,QO,QP,QQ,QR,QS,QT,QU,QV,QW,QX,QY,QZ,X0,X1,X2,X3,X4,X5,X6,X7,X8,X9,Xa,Xb,Xc,Xd,Xe,Xf,Xg,Xh,Xi,Xj,Xk,Xl,Xm,Xn,Xo,Xp,Xq,Xr,Xs,Xt,Xu,Xv,Xw,Xx,Xy,Xz,XA,XB,reduceIte,reduceCtorEq,XC,XD,XE,XF,XG,XH,XI,XJ,XK,XL,XM,XN,XO,XP,XQ,XR,XS,XT,XU,XV,XW,XX,XY,XZ,Y0,Try.q3,Try.q4,Try.q22,Try.q25,Try.q31,Try.underlying33,Try.q33,Try.underlying36,Try.q36]
    refine ⟨b2, ?_⟩
    refine acalls_then (km _) ?_
    simp -implicitDefEqProofs only [seqA_normal,Q0,Q1,Q2,Q3,Q4,Q5,Q6,Q7,Q8,Q9,Qa,Qb,Qc,Qd,Qe,Qf,Qg,Qh,Qi,Qj,Qk,Ql,Qm,Qn,Qo,Qp,Qq,Qr,Qs,Qt,Qu,Qv,Qw,Qx,Qy,Qz,QA,QB,QC,QD,QE,QF,QG,QH,QI,QJ,QK,QL,QM,QN,QO,QP,QQ,QR,QS,QT,QU,QV,QW,QX,QY,QZ,X0,X1,X2,X3,X4,X5,X6,X7,X8,X9,Xa,Xb,Xc,Xd,Xe,Xf,Xg,Xh,Xi,Xj,Xk,Xl,Xm,Xn,Xo,Xp,Xq,Xr,Xs,Xt,Xu,Xv,Xw,Xx,Xy,Xz,XA,XB,reduceIte,reduceCtorEq,XC,XD,XE,XF,XG,XH,XI,XJ,XK,XL,XM,XN,XO,XP,XQ,XR,XS,XT,XU,XV,XW,XX,XY,XZ,Y0,Try.q3,Try.q4,Try.q22,Try.q25,Try.q31,Try.underlying33,Try.q33,Try.underlying36,Try.q36]
    have n8 : (8 : Int) ≠ 0 := by decide
    have n9 : (9 : Int) ≠ 0 := by decide
    have n12 : (12 : Int) ≠ 0 := by decide
    have n3 : (3 : Int) ≠ 0 := by decide
    have t8 := td_b bn.1 (k := 8) (by decide)
    have t9 := tm_b t8.1 (k := 9) (by decide)
    have t12 := tm_b bm.1 (k := 12) (by decide)
    have t3 := tm_b t8.1 (k := 3) (by decide)
    have t7 := tm_b bn.1 (k := 8) (by decide)
    have q8 : IntKind.i64.wrap (n.tdiv 8) = n.tdiv 8 := wrap_i64 (by omega) (by omega)
    have q12 : IntKind.i64.wrap (100 + m.tmod 12) = 100 + m.tmod 12 := wrap_i64 (by omega) (by omega)
    have q3 : IntKind.i64.wrap (1 + (n.tdiv 8).tmod 3) = 1 + (n.tdiv 8).tmod 3 := wrap_i64 (by omega) (by omega)
    refine awp_seq (awp_vc (by kernel_rfl) ?_)
    simp -implicitDefEqProofs only [seqA_normal,seqA_ret,seqA_exit,n8,n9,n12,q8,q12,Q0,Q1,Q2,Q3,Q4,Q5,Q6,Q7,Q8,Q9,Qa,Qb,Qc,Qd,Qe,Qf,Qg,Qh,Qi,Qj,Qk,Ql,Qm,Qn,Qo,Qp,Qq,Qr,Qs,Qt,Qu,Qv,Qw,Qx,Qy,Qz,QA,QB,QC,QD,QE,QF,QG,QH,QI,QJ,QK,QL,QM,QN,QO,QP,QQ,QR,QS,QT,QU,QV,QW,QX,QY,QZ,X0,X1,X2,X3,X4,X5,X6,X7,X8,X9,Xa,Xb,Xc,Xd,Xe,Xf,Xg,Xh,Xi,Xj,Xk,Xl,Xm,Xn,Xo,Xp,Xq,Xr,Xs,Xt,Xu,Xv,Xw,Xx,Xy,Xz,XA,XB,reduceIte,reduceCtorEq,XC,XD,XE,XF,XG,XH,XI,XJ,XK,XL,XM,XN,XO,XP,XQ,XR,XS,XT,XU,XV,XW,XX,XY,XZ,Y0,Try.q3,Try.q4,Try.q22,Try.q25,Try.q31,Try.underlying33,Try.q33,Try.underlying36,Try.q36]
    refine awp_seq (awp_vc (by kernel_rfl) ?_)
    simp -implicitDefEqProofs only [seqA_normal,seqA_ret,seqA_exit,n8,n3,q8,q3,Q0,Q1,Q2,Q3,Q4,Q5,Q6,Q7,Q8,Q9,Qa,Qb,Qc,Qd,Qe,Qf,Qg,Qh,Qi,Qj,Qk,Ql,Qm,Qn,Qo,Qp,Qq,Qr,Qs,Qt,Qu,Qv,Qw,Qx,Qy,Qz,QA,QB,QC,QD,QE,QF,QG,QH,QI,QJ,QK,QL,QM,QN,QO,QP,QQ,QR,QS,QT,QU,QV,QW,QX,QY,QZ,X0,X1,X2,X3,X4,X5,X6,X7,X8,X9,Xa,Xb,Xc,Xd,Xe,Xf,Xg,Xh,Xi,Xj,Xk,Xl,Xm,Xn,Xo,Xp,Xq,Xr,Xs,Xt,Xu,Xv,Xw,Xx,Xy,Xz,XA,XB,reduceIte,reduceCtorEq,XC,XD,XE,XF,XG,XH,XI,XJ,XK,XL,XM,XN,XO,XP,XQ,XR,XS,XT,XU,XV,XW,XX,XY,XZ,Y0,Try.q3,Try.q4,Try.q22,Try.q25,Try.q31,Try.underlying33,Try.q33,Try.underlying36,Try.q36]
    obtain ⟨ix, hix⟩ : ∃ ix, ix = (n.tdiv 8).tmod 9 := ⟨_, rfl⟩
    obtain ⟨dy, hdy⟩ : ∃ dy, dy = 100 + m.tmod 12 := ⟨_, rfl⟩
    obtain ⟨M, hM⟩ : ∃ M, M = manyG n := ⟨_, rfl⟩
    have hM3 : M ≤ 3 := by rw [hM]; unfold manyG; split <;> omega
    rw [← hix, ← hdy]
    refine awp_cutK (fun e' s1 => s1 = s' ++ [.box [.nils, .int .i64 ix, .int .i64 dy]] ∧ Env.sub [(10, .int .i64 M), (9, .ptr s'.length 0), (8, .int .i64 m), (7, .int .i64 n), (6, .int .i64 ((2 * k : Nat) : Int)), (5, r), (0, .ints .i64 l), (1, .int .i64 most)] e') ?_ ?_
    · refine awp_vc (by kernel_rfl) ?_
      by_cases h7 : n.tmod 8 = 7
      · have d7 : decide (n.tmod 8 = 7) = true := decide_eq_true h7
        have hMv : (M : Int) = 0 := by rw [hM]; unfold manyG; rw [if_pos h7]; rfl
        simp -implicitDefEqProofs only [n8,d7,hMv,cutK_normal,Q0,Q1,Q2,Q3,Q4,Q5,Q6,Q7,Q8,Q9,Qa,Qb,Qc,Qd,Qe,Qf,Qg,Qh,Qi,Qj,Qk,Ql,Qm,Qn,Qo,Qp,Qq,Qr,Qs,Qt,Qu,Qv,Qw,Qx,Qy,Qz,QA,QB,QC,QD,QE,QF,QG,QH,QI,QJ,QK,QL,QM,QN,QO,QP,QQ,QR,QS,QT,QU,QV,QW,QX,QY,QZ,X0,X1,X2,X3,X4,X5,X6,X7,X8,X9,Xa,Xb,Xc,Xd,Xe,Xf,Xg,Xh,Xi,Xj,Xk,Xl,Xm,Xn,Xo,Xp,Xq,Xr,Xs,Xt,Xu,Xv,Xw,Xx,Xy,Xz,XA,XB,reduceIte,reduceCtorEq,XC,XD,XE,XF,XG,XH,XI,XJ,XK,XL,XM,XN,XO,XP,XQ,XR,XS,XT,XU,XV,XW,XX,XY,XZ,Y0,Try.q3,Try.q4,Try.q22,Try.q25,Try.q31,Try.underlying33,Try.q33,Try.underlying36,Try.q36]
      · have d7 : decide (n.tmod 8 = 7) = false := decide_eq_false h7
        have hMv : (M : Int) = 1 + (n.tdiv 8).tmod 3 := by rw [hM]; unfold manyG; rw [if_neg h7]; omega
        simp -implicitDefEqProofs only [n8,d7,hMv,cutK_normal,Q0,Q1,Q2,Q3,Q4,Q5,Q6,Q7,Q8,Q9,Qa,Qb,Qc,Qd,Qe,Qf,Qg,Qh,Qi,Qj,Qk,Ql,Qm,Qn,Qo,Qp,Qq,Qr,Qs,Qt,Qu,Qv,Qw,Qx,Qy,Qz,QA,QB,QC,QD,QE,QF,QG,QH,QI,QJ,QK,QL,QM,QN,QO,QP,QQ,QR,QS,QT,QU,QV,QW,QX,QY,QZ,X0,X1,X2,X3,X4,X5,X6,X7,X8,X9,Xa,Xb,Xc,Xd,Xe,Xf,Xg,Xh,Xi,Xj,Xk,Xl,Xm,Xn,Xo,Xp,Xq,Xr,Xs,Xt,Xu,Xv,Xw,Xx,Xy,Xz,XA,XB,reduceIte,reduceCtorEq,XC,XD,XE,XF,XG,XH,XI,XJ,XK,XL,XM,XN,XO,XP,XQ,XR,XS,XT,XU,XV,XW,XX,XY,XZ,Y0,Try.q3,Try.q4,Try.q22,Try.q25,Try.q31,Try.underlying33,Try.q33,Try.underlying36,Try.q36]
    rintro e' s1 ⟨hs1, he⟩
    refine awp_subJ _ he ?_
    clear he e'
    refine awp_seq ?_
    refine awp_seq (awp_vc (by kernel_rfl) ?_)
    simp -implicitDefEqProofs only [seqA_normal,seqA_ret,seqA_exit,Q0,Q1,Q2,Q3,Q4,Q5,Q6,Q7,Q8,Q9,Qa,Qb,Qc,Qd,Qe,Qf,Qg,Qh,Qi,Qj,Qk,Ql,Qm,Qn,Qo,Qp,Qq,Qr,Qs,Qt,Qu,Qv,Qw,Qx,Qy,Qz,QA,QB,QC,QD,QE,QF,QG,QH,QI,QJ,QK,QL,QM,QN,QO,QP,QQ,QR,QS,QT,QU,QV,QW,QX,QY,QZ,X0,X1,X2,X3,X4,X5,X6,X7,X8,X9,Xa,Xb,Xc,Xd,Xe,Xf,Xg,Xh,Xi,Xj,Xk,Xl,Xm,Xn,Xo,Xp,Xq,Xr,Xs,Xt,Xu,Xv,Xw,Xx,Xy,Xz,XA,XB,reduceIte,reduceCtorEq,XC,XD,XE,XF,XG,XH,XI,XJ,XK,XL,XM,XN,XO,XP,XQ,XR,XS,XT,XU,XV,XW,XX,XY,XZ,Y0,Try.q3,Try.q4,Try.q22,Try.q25,Try.q31,Try.underlying33,Try.q33,Try.underlying36,Try.q36]
    refine awp_blk ?_
    refine awp_loopW (fun q : Nat × AV => [(11, .int .i64 q.1), (10, .int .i64 M), (9, .ptr s'.length 0), (8, .int .i64 m), (7, .int .i64 n), (6, .int .i64 ((2 * k : Nat) : Int)), (5, r), (0, .ints .i64 l), (1, .int .i64 most)])
      (fun q s2 => q.1 ≤ M ∧ Ext s' s2 ∧ s2[s'.length]? = some (.box [q.2, .int .i64 ix, .int .i64 dy]) ∧ BufR s2 s'.length q.2 6 (((List.range q.1).map (entG n m)).map entA)) (fun q => M - q.1) (0, .nils) (by simp [sub_cons, sub_nil, get_cons]) ⟨by simp, by rw [hs1]; exact Ext.app _ _, by rw [hs1]; simp, .inl ⟨.inl rfl, rfl⟩⟩ ?_
    clear hs1 s1
    rintro ⟨c, x⟩ s1 ⟨hc, hx1, gB, hb1⟩
    simp only at hc gB hb1
    by_cases hlc : c < M
    · have d3 : decide ((c : Int) < (M : Int)) = true := decide_eq_true (by omega)
      have wc : IntKind.i64.wrap ((c : Int) + 1) = ((c + 1 : Nat) : Int) := by rw [wrap_i64 (by omega) (by omega)]; rfl
      have n32 : (32 : Int) ≠ 0 := by decide
      have n16 : (16 : Int) ≠ 0 := by decide
      have n4 : (4 : Int) ≠ 0 := by decide
      have n10 : (10 : Int) ≠ 0 := by decide
      have n128 : (128 : Int) ≠ 0 := by decide
      have n2 : (2 : Int) ≠ 0 := by decide
      have n64 : (64 : Int) ≠ 0 := by decide
      have n50 : (50 : Int) ≠ 0 := by decide
      have n100 : (100 : Int) ≠ 0 := by decide
      have u32 := td_b bn.1 (k := 32) (by decide)
      have u128 := td_b bn.1 (k := 128) (by decide)
      have u16 := td_b bm.1 (k := 16) (by decide)
      have u64 := td_b bm.1 (k := 64) (by decide)
      have v10 := tm_b (n := m + 5 * (c : Int)) (by omega) (k := 10) (by decide)
      have v4 := tm_b (n := n.tdiv 32 + m.tdiv 16 + (c : Int)) (by omega) (k := 4) (by decide)
      have v50 := tm_b u64.1 (k := 50) (by decide)
      have v100 := tm_b u64.1 (k := 100) (by decide)
      have x1 : IntKind.i64.wrap (5 * (c : Int)) = 5 * (c : Int) := wrap_i64 (by omega) (by omega)
      have x2 : IntKind.i64.wrap (m + 5 * (c : Int)) = m + 5 * (c : Int) := wrap_i64 (by omega) (by omega)
      have x3 : IntKind.i64.wrap (100 + (m + 5 * (c : Int)).tmod 10) = 100 + (m + 5 * (c : Int)).tmod 10 := wrap_i64 (by omega) (by omega)
      have x4 : IntKind.i64.wrap (n.tdiv 32) = n.tdiv 32 := wrap_i64 (by omega) (by omega)
      have x5 : IntKind.i64.wrap (m.tdiv 16) = m.tdiv 16 := wrap_i64 (by omega) (by omega)
      have x6 : IntKind.i64.wrap (n.tdiv 32 + m.tdiv 16) = n.tdiv 32 + m.tdiv 16 := wrap_i64 (by omega) (by omega)
      have x7 : IntKind.i64.wrap (n.tdiv 32 + m.tdiv 16 + (c : Int)) = n.tdiv 32 + m.tdiv 16 + (c : Int) := wrap_i64 (by omega) (by omega)
      have x8 : IntKind.i64.wrap (1 + (n.tdiv 32 + m.tdiv 16 + (c : Int)).tmod 4) = 1 + (n.tdiv 32 + m.tdiv 16 + (c : Int)).tmod 4 := wrap_i64 (by omega) (by omega)
      have x9 : IntKind.i64.wrap (n.tdiv 128) = n.tdiv 128 := wrap_i64 (by omega) (by omega)
      have xa : IntKind.i64.wrap (m.tdiv 64) = m.tdiv 64 := wrap_i64 (by omega) (by omega)
      have xb : IntKind.i64.wrap (1 + (m.tdiv 64).tmod 50) = 1 + (m.tdiv 64).tmod 50 := wrap_i64 (by omega) (by omega)
      have xc : IntKind.i64.wrap (20 + (m.tdiv 64).tmod 100) = 20 + (m.tdiv 64).tmod 100 := wrap_i64 (by omega) (by omega)
      have gB1 : ∀ y, (s1 ++ [y])[s'.length]? = some (.box [x, .int .i64 ix, .int .i64 dy]) := fun y => Ext.app s1 _ _ _ gB
      have hrs : ((List.range (c + 1)).map (entG n m)).map entA = ((List.range c).map (entG n m)).map entA ++ [entA (entG n m c)] := by rw [List.range_succ]; simp
      have hle : (((List.range c).map (entG n m)).map entA).length = c := by simp
      have hcx := bufR_cells hb1
      have fin : ∀ r2 s2, Ext s' s2 → BufR s2 s'.length r2 6 (((List.range c).map (entG n m)).map entA ++ [entA (entG n m c)]) → s2[s'.length]? = some (.box [x, .int .i64 ix, .int .i64 dy]) →
          Ext s' (s2.set s'.length (.box [r2, .int .i64 ix, .int .i64 dy])) ∧ (s2.set s'.length (.box [r2, .int .i64 ix, .int .i64 dy]))[s'.length]? = some (.box [r2, .int .i64 ix, .int .i64 dy]) ∧ BufR (s2.set s'.length (.box [r2, .int .i64 ix, .int .i64 dy])) s'.length r2 6 (((List.range (c + 1)).map (entG n m)).map entA) := by
        intro r2 s2 h1 h2 h3
        refine ⟨h1.set (Nat.le_refl _) _, List.getElem?_set_self (List.getElem?_eq_some_iff.1 h3).1, ?_⟩
        rw [hrs]
        rcases h2 with h2 | ⟨id, q1, q2, q3⟩
        · exact .inl h2
        · refine .inr ⟨id, q1, ?_, q3⟩
          rw [List.getElem?_set_ne]
          · exact q2
          · rintro rfl; rw [h3] at q2; cases q2
      refine awp_vc (by kernel_rfl) ?_
      by_cases h3 : n.tmod 8 < 3
      · have d4 : decide (n.tmod 8 < 3) = true := decide_eq_true h3
        have hE : entA (entG n m c) = [.int .i64 (100 + (m + 5 * (c : Int)).tmod 10), .int .i64 0, .int .i64 (1 + (n.tdiv 32 + m.tdiv 16 + (c : Int)).tmod 4), .int .i64 ((n.tdiv 128).tmod 2), .int .i64 (20 + (m.tdiv 64).tmod 100), .int .i64 c] := by simp [entA, entG, h3]
        simp -implicitDefEqProofs only [d3,d4,n8,n32,n16,n4,n10,n128,n2,n64,n50,n100,x1,x2,x3,x4,x5,x6,x7,x8,x9,xa,xb,xc,gB1,hcx,Q0,Q1,Q2,Q3,Q4,Q5,Q6,Q7,Q8,Q9,Qa,Qb,Qc,Qd,Qe,Qf,Qg,Qh,Qi,Qj,Qk,Ql,Qm,Qn,Qo,Qp,Qq,Qr,Qs,Qt,Qu,Qv,Qw,Qx,Qy,Qz,QA,QB,QC,QD,QE,QF,QG,QH,QI,QJ,QK,QL,QM,QN,QO,QP,QQ,QR,QS,QT,QU,QV,QW,QX,QY,QZ,X0,X1,X2,X3,X4,X5,X6,X7,X8,X9,Xa,Xb,Xc,Xd,Xe,Xf,Xg,Xh,Xi,Xj,Xk,Xl,Xm,Xn,Xo,Xp,Xq,Xr,Xs,Xt,Xu,Xv,Xw,Xx,Xy,Xz,XA,XB,reduceIte,reduceCtorEq,XC,XD,XE,XF,XG,XH,XI,XJ,XK,XL,XM,XN,XO,XP,XQ,XR,XS,XT,XU,XV,XW,XX,XY,XZ,Y0,Try.q3,Try.q4,Try.q22,Try.q25,Try.q31,Try.underlying33,Try.q33,Try.underlying36,Try.q36]
        rw [hE] at fin
        refine append_bufR2 (σ := s') Try.sl31 (by simp [Try.bt36]) (hx1.push _) (hb1.grow (Ext.app _ _)) rfl (by simp) (by simp only [appFits, Try.bt36, hle, List.length_cons, List.length_nil]; omega) fun r2 s2 hx2 hb2 hk2 => ?_
        have g2 : s2[s'.length]? = some (.box [x, .int .i64 ix, .int .i64 dy]) := hk2 _ _ (gB1 _) (by simp)
        have hcr := bufR_cells hb2
        simp -implicitDefEqProofs only [g2,hcr,wc,Q0,Q1,Q2,Q3,Q4,Q5,Q6,Q7,Q8,Q9,Qa,Qb,Qc,Qd,Qe,Qf,Qg,Qh,Qi,Qj,Qk,Ql,Qm,Qn,Qo,Qp,Qq,Qr,Qs,Qt,Qu,Qv,Qw,Qx,Qy,Qz,QA,QB,QC,QD,QE,QF,QG,QH,QI,QJ,QK,QL,QM,QN,QO,QP,QQ,QR,QS,QT,QU,QV,QW,QX,QY,QZ,X0,X1,X2,X3,X4,X5,X6,X7,X8,X9,Xa,Xb,Xc,Xd,Xe,Xf,Xg,Xh,Xi,Xj,Xk,Xl,Xm,Xn,Xo,Xp,Xq,Xr,Xs,Xt,Xu,Xv,Xw,Xx,Xy,Xz,XA,XB,reduceIte,reduceCtorEq,XC,XD,XE,XF,XG,XH,XI,XJ,XK,XL,XM,XN,XO,XP,XQ,XR,XS,XT,XU,XV,XW,XX,XY,XZ,Y0,Try.q3,Try.q4,Try.q22,Try.q25,Try.q31,Try.underlying33,Try.q33,Try.underlying36,Try.q36]
        exact ⟨(c + 1, r2), by simp, ⟨by simp only; omega, fin r2 s2 hx2 hb2 g2⟩, by simp only; omega⟩
      · have d4 : decide (n.tmod 8 < 3) = false := decide_eq_false h3
        have hE : entA (entG n m c) = [.int .i64 (100 + (m + 5 * (c : Int)).tmod 10), .int .i64 ((n.tdiv 32).tmod 4), .int .i64 (1 + (n.tdiv 32 + m.tdiv 16 + (c : Int)).tmod 4), .int .i64 ((n.tdiv 128).tmod 2), .int .i64 (1 + (m.tdiv 64).tmod 50), .int .i64 c] := by simp [entA, entG, h3]
        simp -implicitDefEqProofs only [d3,d4,n8,n32,n16,n4,n10,n128,n2,n64,n50,n100,x1,x2,x3,x4,x5,x6,x7,x8,x9,xa,xb,xc,gB1,hcx,Q0,Q1,Q2,Q3,Q4,Q5,Q6,Q7,Q8,Q9,Qa,Qb,Qc,Qd,Qe,Qf,Qg,Qh,Qi,Qj,Qk,Ql,Qm,Qn,Qo,Qp,Qq,Qr,Qs,Qt,Qu,Qv,Qw,Qx,Qy,Qz,QA,QB,QC,QD,QE,QF,QG,QH,QI,QJ,QK,QL,QM,QN,QO,QP,QQ,QR,QS,QT,QU,QV,QW,QX,QY,QZ,X0,X1,X2,X3,X4,X5,X6,X7,X8,X9,Xa,Xb,Xc,Xd,Xe,Xf,Xg,Xh,Xi,Xj,Xk,Xl,Xm,Xn,Xo,Xp,Xq,Xr,Xs,Xt,Xu,Xv,Xw,Xx,Xy,Xz,XA,XB,reduceIte,reduceCtorEq,XC,XD,XE,XF,XG,XH,XI,XJ,XK,XL,XM,XN,XO,XP,XQ,XR,XS,XT,XU,XV,XW,XX,XY,XZ,Y0,Try.q3,Try.q4,Try.q22,Try.q25,Try.q31,Try.underlying33,Try.q33,Try.underlying36,Try.q36]
        rw [hE] at fin
        refine append_bufR2 (σ := s') Try.sl31 (by simp [Try.bt36]) (hx1.push _) (hb1.grow (Ext.app _ _)) rfl (by simp) (by simp only [appFits, Try.bt36, hle, List.length_cons, List.length_nil]; omega) fun r2 s2 hx2 hb2 hk2 => ?_
        have g2 : s2[s'.length]? = some (.box [x, .int .i64 ix, .int .i64 dy]) := hk2 _ _ (gB1 _) (by simp)
        have hcr := bufR_cells hb2
        simp -implicitDefEqProofs only [g2,hcr,wc,Q0,Q1,Q2,Q3,Q4,Q5,Q6,Q7,Q8,Q9,Qa,Qb,Qc,Qd,Qe,Qf,Qg,Qh,Qi,Qj,Qk,Ql,Qm,Qn,Qo,Qp,Qq,Qr,Qs,Qt,Qu,Qv,Qw,Qx,Qy,Qz,QA,QB,QC,QD,QE,QF,QG,QH,QI,QJ,QK,QL,QM,QN,QO,QP,QQ,QR,QS,QT,QU,QV,QW,QX,QY,QZ,X0,X1,X2,X3,X4,X5,X6,X7,X8,X9,Xa,Xb,Xc,Xd,Xe,Xf,Xg,Xh,Xi,Xj,Xk,Xl,Xm,Xn,Xo,Xp,Xq,Xr,Xs,Xt,Xu,Xv,Xw,Xx,Xy,Xz,XA,XB,reduceIte,reduceCtorEq,XC,XD,XE,XF,XG,XH,XI,XJ,XK,XL,XM,XN,XO,XP,XQ,XR,XS,XT,XU,XV,XW,XX,XY,XZ,Y0,Try.q3,Try.q4,Try.q22,Try.q25,Try.q31,Try.underlying33,Try.q33,Try.underlying36,Try.q36]
        exact ⟨(c + 1, r2), by simp, ⟨by simp only; omega, fin r2 s2 hx2 hb2 g2⟩, by simp only; omega⟩
    · have d3 : decide ((c : Int) < (M : Int)) = false := decide_eq_false (by omega)
      have hcM : c = M := by omega
      subst hcM
      refine awp_vc (by kernel_rfl) ?_
      simp -implicitDefEqProofs only [d3,seqA_normal,Q0,Q1,Q2,Q3,Q4,Q5,Q6,Q7,Q8,Q9,Qa,Qb,Qc,Qd,Qe,Qf,Qg,Qh,Qi,Qj,Qk,Ql,Qm,Qn,Qo,Qp,Qq,Qr,Qs,Qt,Qu,Qv,Qw,Qx,Qy,Qz,QA,QB,QC,QD,QE,QF,QG,QH,QI,QJ,QK,QL,QM,QN,QO,QP,QQ,QR,QS,QT,QU,QV,QW,QX,QY,QZ,X0,X1,X2,X3,X4,X5,X6,X7,X8,X9,Xa,Xb,Xc,Xd,Xe,Xf,Xg,Xh,Xi,Xj,Xk,Xl,Xm,Xn,Xo,Xp,Xq,Xr,Xs,Xt,Xu,Xv,Xw,Xx,Xy,Xz,XA,XB,reduceIte,reduceCtorEq,XC,XD,XE,XF,XG,XH,XI,XJ,XK,XL,XM,XN,XO,XP,XQ,XR,XS,XT,XU,XV,XW,XX,XY,XZ,Y0,Try.q3,Try.q4,Try.q22,Try.q25,Try.q31,Try.underlying33,Try.q33,Try.underlying36,Try.q36]
      have hl1 := hx1.len
      have hbs : (List.range c).map (entG n m) = (opG n m).es := by simp only [opG]; rw [hM]
      rw [hbs] at hb1
      have hop : opA (opG n m) = [esV (opG n m).es, .int .i64 ix, .int .i64 dy] := by rw [hix, hdy]; rfl
      refine awp_kill s'.length s1.length (by omega) (Nat.le_refl _) [(9, .iptr [esV (opG n m).es, .int .i64 ix, .int .i64 dy]), (6, .int .i64 ((2 * k : Nat) : Int)), (5, r), (0, .ints .i64 l), (1, .int .i64 most)]
        ⟨⟨_, rfl, .box _ 0 _ _ gB ⟨Nat.le_refl _, (List.getElem?_eq_some_iff.1 gB).1⟩ rfl fun i y z hy hz => by
          match i with
          | 0 => cases hy; cases hz; exact hb1.sh (Nat.le_refl _) rfl (entA_len _) fun i x y h1 h2 => by rw [h1] at h2; cases h2; exact .same _
          | 1 => cases hy; cases hz; exact .same _
          | 2 => cases hy; cases hz; exact .same _
          | i + 3 => cases hy⟩, ⟨_, rfl, .same _⟩, ⟨_, rfl, .same _⟩, ⟨_, rfl, .same _⟩, ⟨_, rfl, .same _⟩, trivial⟩ ?_
      have hx3 : Ext s' (killS s1 s'.length s1.length) := killS_ext hx1 (by omega) (Nat.le_refl _) (Nat.le_refl _)
      generalize killS s1 s'.length s1.length = s3 at hx3
      clear gB hb1 hx1 hl1
      generalize (opG n m).es = oe at *
      have hcr := bufR_cells hbuf
      have wk : IntKind.i64.wrap (((2 * k : Nat) : Int) + 2) = ((2 * (k + 1) : Nat) : Int) := by rw [wrap_i64 (by omega) (by omega)]; omega
      refine awp_vc (by kernel_rfl) ?_
      simp -implicitDefEqProofs only [Q0,Q1,Q2,Q3,Q4,Q5,Q6,Q7,Q8,Q9,Qa,Qb,Qc,Qd,Qe,Qf,Qg,Qh,Qi,Qj,Qk,Ql,Qm,Qn,Qo,Qp,Qq,Qr,Qs,Qt,Qu,Qv,Qw,Qx,Qy,Qz,QA,QB,QC,QD,QE,QF,QG,QH,QI,QJ,QK,QL,QM,QN,QO,QP,QQ,QR,QS,QT,QU,QV,QW,QX,QY,QZ,X0,X1,X2,X3,X4,X5,X6,X7,X8,X9,Xa,Xb,Xc,Xd,Xe,Xf,Xg,Xh,Xi,Xj,Xk,Xl,Xm,Xn,Xo,Xp,Xq,Xr,Xs,Xt,Xu,Xv,Xw,Xx,Xy,Xz,XA,XB,reduceIte,reduceCtorEq,XC,XD,XE,XF,XG,XH,XI,XJ,XK,XL,XM,XN,XO,XP,XQ,XR,XS,XT,XU,XV,XW,XX,XY,XZ,Y0,Try.q3,Try.q4,Try.q22,Try.q25,Try.q31,Try.underlying33,Try.q33,Try.underlying36,Try.q36]
      refine append_bufR Try.sl25 (by simp [Try.bt33]) (hx.trans hx3) (hbuf.grow hx3) rfl (by simp) (by simp only [appFits, Try.bt33, hkl, List.length_cons, List.length_nil]; omega) fun r4 s4 hx4 hb4 => ?_
      simp -implicitDefEqProofs only [seqA_normal,Q0,Q1,Q2,Q3,Q4,Q5,Q6,Q7,Q8,Q9,Qa,Qb,Qc,Qd,Qe,Qf,Qg,Qh,Qi,Qj,Qk,Ql,Qm,Qn,Qo,Qp,Qq,Qr,Qs,Qt,Qu,Qv,Qw,Qx,Qy,Qz,QA,QB,QC,QD,QE,QF,QG,QH,QI,QJ,QK,QL,QM,QN,QO,QP,QQ,QR,QS,QT,QU,QV,QW,QX,QY,QZ,X0,X1,X2,X3,X4,X5,X6,X7,X8,X9,Xa,Xb,Xc,Xd,Xe,Xf,Xg,Xh,Xi,Xj,Xk,Xl,Xm,Xn,Xo,Xp,Xq,Xr,Xs,Xt,Xu,Xv,Xw,Xx,Xy,Xz,XA,XB,reduceIte,reduceCtorEq,XC,XD,XE,XF,XG,XH,XI,XJ,XK,XL,XM,XN,XO,XP,XQ,XR,XS,XT,XU,XV,XW,XX,XY,XZ,Y0,Try.q3,Try.q4,Try.q22,Try.q25,Try.q31,Try.underlying33,Try.q33,Try.underlying36,Try.q36]
      refine awp_vc (by kernel_rfl) ?_
      simp -implicitDefEqProofs only [wk,Q0,Q1,Q2,Q3,Q4,Q5,Q6,Q7,Q8,Q9,Qa,Qb,Qc,Qd,Qe,Qf,Qg,Qh,Qi,Qj,Qk,Ql,Qm,Qn,Qo,Qp,Qq,Qr,Qs,Qt,Qu,Qv,Qw,Qx,Qy,Qz,QA,QB,QC,QD,QE,QF,QG,QH,QI,QJ,QK,QL,QM,QN,QO,QP,QQ,QR,QS,QT,QU,QV,QW,QX,QY,QZ,X0,X1,X2,X3,X4,X5,X6,X7,X8,X9,Xa,Xb,Xc,Xd,Xe,Xf,Xg,Xh,Xi,Xj,Xk,Xl,Xm,Xn,Xo,Xp,Xq,Xr,Xs,Xt,Xu,Xv,Xw,Xx,Xy,Xz,XA,XB,reduceIte,reduceCtorEq,XC,XD,XE,XF,XG,XH,XI,XJ,XK,XL,XM,XN,XO,XP,XQ,XR,XS,XT,XU,XV,XW,XX,XY,XZ,Y0,Try.q3,Try.q4,Try.q22,Try.q25,Try.q31,Try.underlying33,Try.q33,Try.underlying36,Try.q36]
      refine ⟨(k + 1, r4), by simp, ⟨by simp only; omega, hx4, ?_⟩, by simp only; omega⟩
      simp only
      rw [ht, List.map_append, List.map_cons, List.map_nil, hop]
      exact hb4
  · have hkN : k = N := by omega
    have hfin : (scrI l most).take k = scrI l most := List.take_of_length_le (by rw [scrI_len]; omega)
    rw [hfin] at hbuf hkl
    have hbuf2 := hbuf
    by_cases hA : 2 * k + 1 < l.length
    · have d1 : decide (((2 * k + 1 : Nat) : Int) < (l.length : Int)) = true := decide_eq_true (by omega)
      have d2 : decide ((k : Int) < (most : Int)) = false := decide_eq_false (by omega)
      rcases hbuf2 with ⟨rfl | rfl, h0⟩ | ⟨id, rfl, h1, h2⟩
      · have d20 : decide ((0 : Int) < (most : Int)) = false := decide_eq_false (by rw [h0] at hkl; simp at hkl; omega)
        refine awp_vc (by kernel_rfl) ?_
        simp -implicitDefEqProofs only [w1,d1,d20,seqA_normal,Q0,Q1,Q2,Q3,Q4,Q5,Q6,Q7,Q8,Q9,Qa,Qb,Qc,Qd,Qe,Qf,Qg,Qh,Qi,Qj,Qk,Ql,Qm,Qn,Qo,Qp,Qq,Qr,Qs,Qt,Qu,Qv,Qw,Qx,Qy,Qz,QA,QB,QC,QD,QE,QF,QG,QH,QI,QJ,QK,QL,QM,QN,QO,QP,QQ,QR,QS,QT,QU,QV,QW,QX,QY,QZ,X0,X1,X2,X3,X4,X5,X6,X7,X8,X9,Xa,Xb,Xc,Xd,Xe,Xf,Xg,Xh,Xi,Xj,Xk,Xl,Xm,Xn,Xo,Xp,Xq,Xr,Xs,Xt,Xu,Xv,Xw,Xx,Xy,Xz,XA,XB,reduceIte,reduceCtorEq,XC,XD,XE,XF,XG,XH,XI,XJ,XK,XL,XM,XN,XO,XP,XQ,XR,XS,XT,XU,XV,XW,XX,XY,XZ,Y0,Try.q3,Try.q4,Try.q22,Try.q25,Try.q31,Try.underlying33,Try.q33,Try.underlying36,Try.q36]
        refine awp_vc (by kernel_rfl) ?_
        simp -implicitDefEqProofs only [Q0,Q1,Q2,Q3,Q4,Q5,Q6,Q7,Q8,Q9,Qa,Qb,Qc,Qd,Qe,Qf,Qg,Qh,Qi,Qj,Qk,Ql,Qm,Qn,Qo,Qp,Qq,Qr,Qs,Qt,Qu,Qv,Qw,Qx,Qy,Qz,QA,QB,QC,QD,QE,QF,QG,QH,QI,QJ,QK,QL,QM,QN,QO,QP,QQ,QR,QS,QT,QU,QV,QW,QX,QY,QZ,X0,X1,X2,X3,X4,X5,X6,X7,X8,X9,Xa,Xb,Xc,Xd,Xe,Xf,Xg,Xh,Xi,Xj,Xk,Xl,Xm,Xn,Xo,Xp,Xq,Xr,Xs,Xt,Xu,Xv,Xw,Xx,Xy,Xz,XA,XB,reduceIte,reduceCtorEq,XC,XD,XE,XF,XG,XH,XI,XJ,XK,XL,XM,XN,XO,XP,XQ,XR,XS,XT,XU,XV,XW,XX,XY,XZ,Y0,Try.q3,Try.q4,Try.q22,Try.q25,Try.q31,Try.underlying33,Try.q33,Try.underlying36,Try.q36]
        exact ⟨hx, hbuf⟩
      · have d20 : decide ((0 : Int) < (most : Int)) = false := decide_eq_false (by rw [h0] at hkl; simp at hkl; omega)
        refine awp_vc (by kernel_rfl) ?_
        simp -implicitDefEqProofs only [w1,d1,d20,seqA_normal,Q0,Q1,Q2,Q3,Q4,Q5,Q6,Q7,Q8,Q9,Qa,Qb,Qc,Qd,Qe,Qf,Qg,Qh,Qi,Qj,Qk,Ql,Qm,Qn,Qo,Qp,Qq,Qr,Qs,Qt,Qu,Qv,Qw,Qx,Qy,Qz,QA,QB,QC,QD,QE,QF,QG,QH,QI,QJ,QK,QL,QM,QN,QO,QP,QQ,QR,QS,QT,QU,QV,QW,QX,QY,QZ,X0,X1,X2,X3,X4,X5,X6,X7,X8,X9,Xa,Xb,Xc,Xd,Xe,Xf,Xg,Xh,Xi,Xj,Xk,Xl,Xm,Xn,Xo,Xp,Xq,Xr,Xs,Xt,Xu,Xv,Xw,Xx,Xy,Xz,XA,XB,reduceIte,reduceCtorEq,XC,XD,XE,XF,XG,XH,XI,XJ,XK,XL,XM,XN,XO,XP,XQ,XR,XS,XT,XU,XV,XW,XX,XY,XZ,Y0,Try.q3,Try.q4,Try.q22,Try.q25,Try.q31,Try.underlying33,Try.q33,Try.underlying36,Try.q36]
        refine awp_vc (by kernel_rfl) ?_
        simp -implicitDefEqProofs only [Q0,Q1,Q2,Q3,Q4,Q5,Q6,Q7,Q8,Q9,Qa,Qb,Qc,Qd,Qe,Qf,Qg,Qh,Qi,Qj,Qk,Ql,Qm,Qn,Qo,Qp,Qq,Qr,Qs,Qt,Qu,Qv,Qw,Qx,Qy,Qz,QA,QB,QC,QD,QE,QF,QG,QH,QI,QJ,QK,QL,QM,QN,QO,QP,QQ,QR,QS,QT,QU,QV,QW,QX,QY,QZ,X0,X1,X2,X3,X4,X5,X6,X7,X8,X9,Xa,Xb,Xc,Xd,Xe,Xf,Xg,Xh,Xi,Xj,Xk,Xl,Xm,Xn,Xo,Xp,Xq,Xr,Xs,Xt,Xu,Xv,Xw,Xx,Xy,Xz,XA,XB,reduceIte,reduceCtorEq,XC,XD,XE,XF,XG,XH,XI,XJ,XK,XL,XM,XN,XO,XP,XQ,XR,XS,XT,XU,XV,XW,XX,XY,XZ,Y0,Try.q3,Try.q4,Try.q22,Try.q25,Try.q31,Try.underlying33,Try.q33,Try.underlying36,Try.q36]
        exact ⟨hx, hbuf⟩
      · refine awp_vc (by kernel_rfl) ?_
        simp -implicitDefEqProofs only [w1,d1,hkl,d2,seqA_normal,Q0,Q1,Q2,Q3,Q4,Q5,Q6,Q7,Q8,Q9,Qa,Qb,Qc,Qd,Qe,Qf,Qg,Qh,Qi,Qj,Qk,Ql,Qm,Qn,Qo,Qp,Qq,Qr,Qs,Qt,Qu,Qv,Qw,Qx,Qy,Qz,QA,QB,QC,QD,QE,QF,QG,QH,QI,QJ,QK,QL,QM,QN,QO,QP,QQ,QR,QS,QT,QU,QV,QW,QX,QY,QZ,X0,X1,X2,X3,X4,X5,X6,X7,X8,X9,Xa,Xb,Xc,Xd,Xe,Xf,Xg,Xh,Xi,Xj,Xk,Xl,Xm,Xn,Xo,Xp,Xq,Xr,Xs,Xt,Xu,Xv,Xw,Xx,Xy,Xz,XA,XB,reduceIte,reduceCtorEq,XC,XD,XE,XF,XG,XH,XI,XJ,XK,XL,XM,XN,XO,XP,XQ,XR,XS,XT,XU,XV,XW,XX,XY,XZ,Y0,Try.q3,Try.q4,Try.q22,Try.q25,Try.q31,Try.underlying33,Try.q33,Try.underlying36,Try.q36]
        refine awp_vc (by kernel_rfl) ?_
        simp -implicitDefEqProofs only [Q0,Q1,Q2,Q3,Q4,Q5,Q6,Q7,Q8,Q9,Qa,Qb,Qc,Qd,Qe,Qf,Qg,Qh,Qi,Qj,Qk,Ql,Qm,Qn,Qo,Qp,Qq,Qr,Qs,Qt,Qu,Qv,Qw,Qx,Qy,Qz,QA,QB,QC,QD,QE,QF,QG,QH,QI,QJ,QK,QL,QM,QN,QO,QP,QQ,QR,QS,QT,QU,QV,QW,QX,QY,QZ,X0,X1,X2,X3,X4,X5,X6,X7,X8,X9,Xa,Xb,Xc,Xd,Xe,Xf,Xg,Xh,Xi,Xj,Xk,Xl,Xm,Xn,Xo,Xp,Xq,Xr,Xs,Xt,Xu,Xv,Xw,Xx,Xy,Xz,XA,XB,reduceIte,reduceCtorEq,XC,XD,XE,XF,XG,XH,XI,XJ,XK,XL,XM,XN,XO,XP,XQ,XR,XS,XT,XU,XV,XW,XX,XY,XZ,Y0,Try.q3,Try.q4,Try.q22,Try.q25,Try.q31,Try.underlying33,Try.q33,Try.underlying36,Try.q36]
        rw [hkl] at hbuf
        exact ⟨hx, hbuf⟩
    · have d1 : decide (((2 * k + 1 : Nat) : Int) < (l.length : Int)) = false := decide_eq_false (by omega)
      refine awp_vc (by kernel_rfl) ?_
      simp -implicitDefEqProofs only [w1,d1,seqA_normal,Q0,Q1,Q2,Q3,Q4,Q5,Q6,Q7,Q8,Q9,Qa,Qb,Qc,Qd,Qe,Qf,Qg,Qh,Qi,Qj,Qk,Ql,Qm,Qn,Qo,Qp,Qq,Qr,Qs,Qt,Qu,Qv,Qw,Qx,Qy,Qz,QA,QB,QC,QD,QE,QF,QG,QH,QI,QJ,QK,QL,QM,QN,QO,QP,QQ,QR,QS,QT,QU,QV,QW,QX,QY,QZ,X0,X1,X2,X3,X4,X5,X6,X7,X8,X9,Xa,Xb,Xc,Xd,Xe,Xf,Xg,Xh,Xi,Xj,Xk,Xl,Xm,Xn,Xo,Xp,Xq,Xr,Xs,Xt,Xu,Xv,Xw,Xx,Xy,Xz,XA,XB,reduceIte,reduceCtorEq,XC,XD,XE,XF,XG,XH,XI,XJ,XK,XL,XM,XN,XO,XP,XQ,XR,XS,XT,XU,XV,XW,XX,XY,XZ,Y0,Try.q3,Try.q4,Try.q22,Try.q25,Try.q31,Try.underlying33,Try.q33,Try.underlying36,Try.q36]
      refine awp_vc (by kernel_rfl) ?_
      simp -implicitDefEqProofs only [Q0,Q1,Q2,Q3,Q4,Q5,Q6,Q7,Q8,Q9,Qa,Qb,Qc,Qd,Qe,Qf,Qg,Qh,Qi,Qj,Qk,Ql,Qm,Qn,Qo,Qp,Qq,Qr,Qs,Qt,Qu,Qv,Qw,Qx,Qy,Qz,QA,QB,QC,QD,QE,QF,QG,QH,QI,QJ,QK,QL,QM,QN,QO,QP,QQ,QR,QS,QT,QU,QV,QW,QX,QY,QZ,X0,X1,X2,X3,X4,X5,X6,X7,X8,X9,Xa,Xb,Xc,Xd,Xe,Xf,Xg,Xh,Xi,Xj,Xk,Xl,Xm,Xn,Xo,Xp,Xq,Xr,Xs,Xt,Xu,Xv,Xw,Xx,Xy,Xz,XA,XB,reduceIte,reduceCtorEq,XC,XD,XE,XF,XG,XH,XI,XJ,XK,XL,XM,XN,XO,XP,XQ,XR,XS,XT,XU,XV,XW,XX,XY,XZ,Y0,Try.q3,Try.q4,Try.q22,Try.q25,Try.q31,Try.underlying33,Try.q33,Try.underlying36,Try.q36]
      exact ⟨hx, hbuf⟩

end Go.Proofs
