/-
  The ledger: an entry is taken back; the law.
-/
import Derived.Test.YtdioiegkpkjmkaaMg
import Derived.Test.YtdioiegkpkjmkaaMc
namespace Go.Proofs
open Go.Pa
open Go.Pa renaming VB0 → Q0, VB1 → Q1, VB2 → Q2, VB3 → Q3, VB4 → Q4, VB5 → Q5, VB6 → Q6, VB7 → Q7, VB8 → Q8, VB9 → Q9, condV_bool → Qa, guardV_bool → Qb, vcS → Qc, evA → Qd, evBin → Qe, nilA → Qf, nilOf → Qg, intOp → Qh, strOp → Qi, evUn → Qj, evConv → Qk, evField → Ql, evFieldAddr → Qm, evIndexAddr → Qn, evIndex → Qo, evIndexA → Qp, bnd → Qq, evSlice → Qr, evLen → Qs, evPick → Qt, evExtract → Qu, evNilCheck → Qv, evMin → Qw, evMax → Qx, evLoadI → Qy, partsOne → QA, intsOf → QB, rowsAV → QC, evBuildSlice → QD, evBuild → QE, fillA → QF, splice → QG, evBuiltin → QH, guardD_bool → QI, dOp → QJ, cl → QK, vcLoad → QL, vcStore → QM, vcMake → QN, convA → QO, evIndexArr → QP, retA → QQ, ressA → QR, resA → QS, envOf → QT, condR_bool → QX, asgEnv → QY, parEnv → QZ, dstAt → XI, vcLook → XT, vcPut → XU, vcEnt → XV, vcESt → XW, vcMLen → XX, vcDel → XY, vcClear → XZ, vcLookD → Y0
open Go.Pa.AV renaming cell → Qz
open Go.Pa.Env renaming put → QU
open List renaming set_cons_zero → QV, set_cons_succ → QW, foldl_cons → X0, foldl_nil → X1, map_cons → X2, map_nil → X3, toList_toArray → X4, getElem?_cons_zero → X5, getElem?_cons_succ → X6, nil_append → Xa, append_nil → Xb, cons_append → Xc, singleton_append → Xd, length_cons → Xe, length_nil → Xf, all_cons → Xg, all_nil → Xh, take_succ_cons → Xi, take_zero → Xj, take_nil → Xk, drop_zero → Xl, drop_succ_cons → Xm, drop_nil → Xn, contains_nil → Xo, contains_cons → Xp
open Option renaming bind_some → X7, map_some → X8, map_none → X9
open Bool renaming or_false → Xq, false_or → Xr, or_true → Xs, true_or → Xt, false_eq_true → XC, not_true → XD, not_false → XE, and_true → XF, true_and → XG, and_self → XH
open Nat renaming reduceEqDiff → Xu, reduceAdd → Xv, reduceSub → Xw, reduceMul → Xx, reduceLT → Xy, reduceLeDiff → Xz, reduceBNe → XA, reduceBEq → XB, zero_add → XL, add_zero → XM
open UInt8 renaming reduceToNat → XJ
open Int renaming cast_ofNat_Int → XK, reduceToNat → XN, reduceLT → XO, reduceLE → XP, reduceNeg → XQ, reduceEq → XR, reduceNe → XS
set_option linter.unusedSimpArgs false
set_option linter.unusedVariables false
set_option maxRecDepth 20000
set_option maxHeartbeats 4000000

theorem void_one {es : List Ent} (hl : es.length ≤ 16000) {n : Nat} (hn : n < es.length) {e : Ent} (he : es[n] = e) {day : Int} (hd : e.day ≤ day ∧ day ≤ 131072) :
    voidR es [] n day = (16, es, []) ∨ voidR es [] n day = (0, es ++ [oppE e n day], [(n : Int), (es.length : Int)]) := by
  have hg : es.getD (n : Int).toNat default = e := by rw [Int.toNat_natCast, getD_get hn, he]
  have h1 : inB (n : Int) 0 ((es.length : Int) - 1) = true := inB_iff.2 ⟨by omega, by omega⟩
  have h2 : inB day e.day 131072 = true := inB_iff.2 hd
  unfold voidR
  rw [hg, h1, h2, if_neg (by decide), if_neg (by decide), if_neg (by simp)]
  rcases addR_cases es [oppE e n day] with ⟨h3, h4, _⟩ | ⟨h3, _, _⟩ | ⟨h3, _, _⟩
  · simp at h4; omega
  · left; rw [h3, if_pos (by decide)]
  · right; rw [h3, if_neg (by decide)]; rfl

theorem void_two {es : List Ent} {n : Nat} (hn : n < es.length) {e o : Ent} (he : es[n] = e) {day : Int} (hd : e.day ≤ day ∧ day ≤ 131072) (ho : o.day = day) :
    voidR (es ++ [o]) [(n : Int), (es.length : Int)] n day = (8, es ++ [o], [(n : Int), (es.length : Int)]) ∧
    voidR (es ++ [o]) [(n : Int), (es.length : Int)] es.length day = (8, es ++ [o], [(n : Int), (es.length : Int)]) ∧
    voidR (es ++ [o]) [(n : Int), (es.length : Int)] n (e.day - 1) = (1, es ++ [o], [(n : Int), (es.length : Int)]) := by
  have hg : (es ++ [o]).getD (n : Int).toNat default = e := by rw [Int.toNat_natCast, getD_get (by simp; omega), List.getElem_append_left hn, he]
  have hg2 : (es ++ [o]).getD (es.length : Int).toNat default = o := by rw [Int.toNat_natCast, getD_get (by simp)]; simp
  have hle : ((es ++ [o]).length : Int) - 1 = es.length := by simp
  have h1 : inB (n : Int) 0 (es.length : Int) = true := inB_iff.2 ⟨by omega, by omega⟩
  have h3 : inB (es.length : Int) 0 (es.length : Int) = true := inB_iff.2 ⟨by omega, by omega⟩
  have h2 : inB day e.day 131072 = true := inB_iff.2 hd
  have h4 : inB day day 131072 = true := inB_iff.2 ⟨by omega, hd.2⟩
  have h5 : inB (e.day - 1) e.day 131072 = false := by
    rw [Bool.eq_false_iff]; intro h
    have := inB_iff.1 h
    omega
  refine ⟨?_, ?_, ?_⟩
  · unfold voidR
    rw [hle, hg, h1, h2, if_neg (by decide), if_neg (by decide), if_pos (by simp)]
  · unfold voidR
    rw [hle, hg2, ho, h3, h4, if_neg (by decide), if_neg (by decide), if_pos (by simp)]
  · unfold voidR
    rw [hle, hg, h1, h5, if_neg (by decide), if_pos rfl]

/-- What the law's ledger keeps. -/
structure VOk (B : Nat) (es : List Ent) : Prop where
  len : es.length ≤ B
  val : ∀ e ∈ es, Val e
  gen : ∀ e ∈ es, GenE e

theorem VOk.post {B : Nat} {es : List Ent} (h : VOk B es) {o : Opn} (ho : GenO o) : VOk (B + 3) (postR es o.es).2 := by
  have hu : VOk (B + 3) es := ⟨by have := h.len; omega, h.val, h.gen⟩
  have happ : (∀ x ∈ o.es, Val x) → VOk (B + 3) (es ++ o.es) := fun hv =>
    ⟨by have := h.len; have := ho.len; rw [List.length_append]; omega, fun x hx => by rcases List.mem_append.1 hx with hx | hx; exact h.val x hx; exact hv x hx,
      fun x hx => by rcases List.mem_append.1 hx with hx | hx; exact h.gen x hx; exact ho.es x hx⟩
  rcases postR_cases es o.es with ⟨_, _, h1⟩ | ⟨hv, h1⟩
  · rw [h1]; exact hu
  · rw [h1]
    rcases addR_cases es o.es with ⟨_, _, h2⟩ | ⟨_, _, h2⟩ | ⟨_, hs, h2⟩
    · rw [h2]; exact hu
    · rw [h2]; exact hu
    · rw [h2]; exact happ hv

theorem VOk.up {B C : Nat} {es : List Ent} (h : VOk B es) (hc : B ≤ C) : VOk C es := ⟨by have := h.len; omega, h.val, h.gen⟩

theorem law_LedgerVoids (l : List Int) (hl : ∀ x ∈ l, Okk .i64 x) (_ : l.length ≤ 9223372036854775807) (ix : Int) (hix : Okk .i64 ix) (wt : Int) (hwt : Okk .i64 wt) : ACalls Try.prog 8 [.ints .i64 l, .int .i64 ix, .int .i64 wt] [] (fun r _ => r = .bool true) := by
  have kS := fun σ => r_script l hl 10 (by decide) σ
  have hG := scr_gen hl 10
  have hSl : (scrI l 10).length ≤ 10 := by rw [scrI_len]; omega
  generalize scrI l 10 = ops at *
  have lm : (ops.map opA).length = ops.length := List.length_map _
  have kL := lives16
  have kA := fun σ => around wt 12 σ (by decide)
  have bA := aroundI_bound hwt (m := 12) (by decide)
  generalize aroundI wt 12 = w at *
  refine acalls_of_awp (fn := Try.f8) Try.call8 Try.func8 rfl (by simp [Try.ntmps8]) ?_
  simp only [Try.ntmps8, Try.results8]
  refine awp_seq (awp_vc (by kernel_rfl) ?_)
  simp -implicitDefEqProofs only [seqA_normal,seqA_ret,seqA_exit,Q0,Q1,Q2,Q3,Q4,Q5,Q6,Q7,Q8,Q9,Qa,Qb,Qc,Qd,Qe,Qf,Qg,Qh,Qi,Qj,Qk,Ql,Qm,Qn,Qo,Qp,Qq,Qr,Qs,Qt,Qu,Qv,Qw,Qx,Qy,Qz,QA,QB,QC,QD,QE,QF,QG,QH,QI,QJ,QK,QL,QM,QN,QO,QP,QQ,QR,QS,QT,QU,QV,QW,QX,QY,QZ,X0,X1,X2,X3,X4,X5,X6,X7,X8,X9,Xa,Xb,Xc,Xd,Xe,Xf,Xg,Xh,Xi,Xj,Xk,Xl,Xm,Xn,Xo,Xp,Xq,Xr,Xs,Xt,Xu,Xv,Xw,Xx,Xy,Xz,XA,XB,reduceIte,reduceCtorEq,XC,XD,XE,XF,XG,XH,XI,XJ,XK,XL,XM,XN,XO,XP,XQ,XR,XS,XT,XU,XV,XW,XX,XY,XZ,Y0,Try.q3,Try.q4,Try.q22,Try.q23,Try.q25,Try.q27,Try.q29,Try.q31,Try.underlying33,Try.q33,Try.underlying36,Try.q36,Try.underlying37,Try.q37,Try.q58]
  refine awp_seq (awp_vc (by kernel_rfl) ?_)
  simp -implicitDefEqProofs only [seqA_normal,seqA_ret,seqA_exit,Q0,Q1,Q2,Q3,Q4,Q5,Q6,Q7,Q8,Q9,Qa,Qb,Qc,Qd,Qe,Qf,Qg,Qh,Qi,Qj,Qk,Ql,Qm,Qn,Qo,Qp,Qq,Qr,Qs,Qt,Qu,Qv,Qw,Qx,Qy,Qz,QA,QB,QC,QD,QE,QF,QG,QH,QI,QJ,QK,QL,QM,QN,QO,QP,QQ,QR,QS,QT,QU,QV,QW,QX,QY,QZ,X0,X1,X2,X3,X4,X5,X6,X7,X8,X9,Xa,Xb,Xc,Xd,Xe,Xf,Xg,Xh,Xi,Xj,Xk,Xl,Xm,Xn,Xo,Xp,Xq,Xr,Xs,Xt,Xu,Xv,Xw,Xx,Xy,Xz,XA,XB,reduceIte,reduceCtorEq,XC,XD,XE,XF,XG,XH,XI,XJ,XK,XL,XM,XN,XO,XP,XQ,XR,XS,XT,XU,XV,XW,XX,XY,XZ,Y0,Try.q3,Try.q4,Try.q22,Try.q23,Try.q25,Try.q27,Try.q29,Try.q31,Try.underlying33,Try.q33,Try.underlying36,Try.q36,Try.underlying37,Try.q37,Try.q58]
  refine ACalls.mono (c_NewL _) ?_
  rintro r s0 ⟨id, j, rfl, hx0, -, -, hL0⟩
  simp -implicitDefEqProofs only [seqA_normal,Q0,Q1,Q2,Q3,Q4,Q5,Q6,Q7,Q8,Q9,Qa,Qb,Qc,Qd,Qe,Qf,Qg,Qh,Qi,Qj,Qk,Ql,Qm,Qn,Qo,Qp,Qq,Qr,Qs,Qt,Qu,Qv,Qw,Qx,Qy,Qz,QA,QB,QC,QD,QE,QF,QG,QH,QI,QJ,QK,QL,QM,QN,QO,QP,QQ,QR,QS,QT,QU,QV,QW,QX,QY,QZ,X0,X1,X2,X3,X4,X5,X6,X7,X8,X9,Xa,Xb,Xc,Xd,Xe,Xf,Xg,Xh,Xi,Xj,Xk,Xl,Xm,Xn,Xo,Xp,Xq,Xr,Xs,Xt,Xu,Xv,Xw,Xx,Xy,Xz,XA,XB,reduceIte,reduceCtorEq,XC,XD,XE,XF,XG,XH,XI,XJ,XK,XL,XM,XN,XO,XP,XQ,XR,XS,XT,XU,XV,XW,XX,XY,XZ,Y0,Try.q3,Try.q4,Try.q22,Try.q23,Try.q25,Try.q27,Try.q29,Try.q31,Try.underlying33,Try.q33,Try.underlying36,Try.q36,Try.underlying37,Try.q37,Try.q58]
  refine awp_seq (awp_vc (by kernel_rfl) ?_)
  simp -implicitDefEqProofs only [seqA_normal,seqA_ret,seqA_exit,Q0,Q1,Q2,Q3,Q4,Q5,Q6,Q7,Q8,Q9,Qa,Qb,Qc,Qd,Qe,Qf,Qg,Qh,Qi,Qj,Qk,Ql,Qm,Qn,Qo,Qp,Qq,Qr,Qs,Qt,Qu,Qv,Qw,Qx,Qy,Qz,QA,QB,QC,QD,QE,QF,QG,QH,QI,QJ,QK,QL,QM,QN,QO,QP,QQ,QR,QS,QT,QU,QV,QW,QX,QY,QZ,X0,X1,X2,X3,X4,X5,X6,X7,X8,X9,Xa,Xb,Xc,Xd,Xe,Xf,Xg,Xh,Xi,Xj,Xk,Xl,Xm,Xn,Xo,Xp,Xq,Xr,Xs,Xt,Xu,Xv,Xw,Xx,Xy,Xz,XA,XB,reduceIte,reduceCtorEq,XC,XD,XE,XF,XG,XH,XI,XJ,XK,XL,XM,XN,XO,XP,XQ,XR,XS,XT,XU,XV,XW,XX,XY,XZ,Y0,Try.q3,Try.q4,Try.q22,Try.q23,Try.q25,Try.q27,Try.q29,Try.q31,Try.underlying33,Try.q33,Try.underlying36,Try.q36,Try.underlying37,Try.q37,Try.q58]
  refine awp_seq (awp_vc (by kernel_rfl) ?_)
  simp -implicitDefEqProofs only [seqA_normal,seqA_ret,seqA_exit,Q0,Q1,Q2,Q3,Q4,Q5,Q6,Q7,Q8,Q9,Qa,Qb,Qc,Qd,Qe,Qf,Qg,Qh,Qi,Qj,Qk,Ql,Qm,Qn,Qo,Qp,Qq,Qr,Qs,Qt,Qu,Qv,Qw,Qx,Qy,Qz,QA,QB,QC,QD,QE,QF,QG,QH,QI,QJ,QK,QL,QM,QN,QO,QP,QQ,QR,QS,QT,QU,QV,QW,QX,QY,QZ,X0,X1,X2,X3,X4,X5,X6,X7,X8,X9,Xa,Xb,Xc,Xd,Xe,Xf,Xg,Xh,Xi,Xj,Xk,Xl,Xm,Xn,Xo,Xp,Xq,Xr,Xs,Xt,Xu,Xv,Xw,Xx,Xy,Xz,XA,XB,reduceIte,reduceCtorEq,XC,XD,XE,XF,XG,XH,XI,XJ,XK,XL,XM,XN,XO,XP,XQ,XR,XS,XT,XU,XV,XW,XX,XY,XZ,Y0,Try.q3,Try.q4,Try.q22,Try.q23,Try.q25,Try.q27,Try.q29,Try.q31,Try.underlying33,Try.q33,Try.underlying36,Try.q36,Try.underlying37,Try.q37,Try.q58]
  refine acalls_then (kS _) ?_
  simp -implicitDefEqProofs only [seqA_normal,Q0,Q1,Q2,Q3,Q4,Q5,Q6,Q7,Q8,Q9,Qa,Qb,Qc,Qd,Qe,Qf,Qg,Qh,Qi,Qj,Qk,Ql,Qm,Qn,Qo,Qp,Qq,Qr,Qs,Qt,Qu,Qv,Qw,Qx,Qy,Qz,QA,QB,QC,QD,QE,QF,QG,QH,QI,QJ,QK,QL,QM,QN,QO,QP,QQ,QR,QS,QT,QU,QV,QW,QX,QY,QZ,X0,X1,X2,X3,X4,X5,X6,X7,X8,X9,Xa,Xb,Xc,Xd,Xe,Xf,Xg,Xh,Xi,Xj,Xk,Xl,Xm,Xn,Xo,Xp,Xq,Xr,Xs,Xt,Xu,Xv,Xw,Xx,Xy,Xz,XA,XB,reduceIte,reduceCtorEq,XC,XD,XE,XF,XG,XH,XI,XJ,XK,XL,XM,XN,XO,XP,XQ,XR,XS,XT,XU,XV,XW,XX,XY,XZ,Y0,Try.q3,Try.q4,Try.q22,Try.q23,Try.q25,Try.q27,Try.q29,Try.q31,Try.underlying33,Try.q33,Try.underlying36,Try.q36,Try.underlying37,Try.q37,Try.q58]
  refine awp_cutK (fun e' s' => (∃ es, VOk 30 es ∧ Led s' id j es []) ∧ Env.sub [(7, .ptr id 0), (1, .int .i64 ix), (2, .int .i64 wt)] e') ?_ ?_
  · refine awp_seq (awp_vc (by kernel_rfl) ?_)
    simp -implicitDefEqProofs only [seqA_normal,seqA_ret,seqA_exit,Q0,Q1,Q2,Q3,Q4,Q5,Q6,Q7,Q8,Q9,Qa,Qb,Qc,Qd,Qe,Qf,Qg,Qh,Qi,Qj,Qk,Ql,Qm,Qn,Qo,Qp,Qq,Qr,Qs,Qt,Qu,Qv,Qw,Qx,Qy,Qz,QA,QB,QC,QD,QE,QF,QG,QH,QI,QJ,QK,QL,QM,QN,QO,QP,QQ,QR,QS,QT,QU,QV,QW,QX,QY,QZ,X0,X1,X2,X3,X4,X5,X6,X7,X8,X9,Xa,Xb,Xc,Xd,Xe,Xf,Xg,Xh,Xi,Xj,Xk,Xl,Xm,Xn,Xo,Xp,Xq,Xr,Xs,Xt,Xu,Xv,Xw,Xx,Xy,Xz,XA,XB,reduceIte,reduceCtorEq,XC,XD,XE,XF,XG,XH,XI,XJ,XK,XL,XM,XN,XO,XP,XQ,XR,XS,XT,XU,XV,XW,XX,XY,XZ,Y0,Try.q3,Try.q4,Try.q22,Try.q23,Try.q25,Try.q27,Try.q29,Try.q31,Try.underlying33,Try.q33,Try.underlying36,Try.q36,Try.underlying37,Try.q37,Try.q58]
    refine awp_blk ?_
    refine awp_loopW (fun i : Nat => [(9, .int .i64 i), (8, .rows 3 (ops.map opA)), (7, .ptr id 0), (1, .int .i64 ix), (2, .int .i64 wt)]) (fun i s => i ≤ ops.length ∧ ∃ es, VOk (3 * i) es ∧ Led s id j es []) (fun i => ops.length - i) 0 (by simp [sub_cons, sub_nil, get_cons]) ⟨by omega, [], ⟨by simp, by simp, by simp⟩, hL0⟩ ?_
    rintro i s ⟨hi, es, hOk, hL⟩
    by_cases hlt : i < ops.length
    · have d1 : decide ((i : Int) < (ops.length : Int)) = true := decide_eq_true (by omega)
      have hrow : (ops.map opA).getD (i : Int).toNat [] = opA ops[i] := by rw [Int.toNat_natCast, getD_get (by simpa using hlt)]; simp
      have wi : IntKind.i64.wrap ((i : Int) + 1) = ((i + 1 : Nat) : Int) := by rw [wrap_i64 (by omega) (by omega)]; rfl
      have bi : (0 : Int) ≤ (i : Int) ∧ (i : Int) < (ops.length : Int) := by omega
      have hg := hG _ (List.getElem_mem hlt)
      generalize ops[i] = o at *
      have hrow2 : (ops.map opA).getD (i : Int).toNat [] = [.rows 6 (o.es.map entA), .int .i64 o.ix, .int .i64 o.dy] := hrow
      have lme : (o.es.map entA).length = o.es.length := List.length_map _
      have hes := hg.len
      have hlen := hOk.len
      refine awp_vc (by kernel_rfl) ?_
      by_cases h0 : 0 < o.es.length
      · have d2 : decide ((0 : Int) < (o.es.length : Int)) = true := decide_eq_true (by omega)
        have kr := c_real o.es (by omega)
        have kp := c_PostL es o.es [] (by omega) (by omega) hOk.val s id j hL
        simp -implicitDefEqProofs only [d1,lm,hrow2,lme,d2,Q0,Q1,Q2,Q3,Q4,Q5,Q6,Q7,Q8,Q9,Qa,Qb,Qc,Qd,Qe,Qf,Qg,Qh,Qi,Qj,Qk,Ql,Qm,Qn,Qo,Qp,Qq,Qr,Qs,Qt,Qu,Qv,Qw,Qx,Qy,Qz,QA,QB,QC,QD,QE,QF,QG,QH,QI,QJ,QK,QL,QM,QN,QO,QP,QQ,QR,QS,QT,QU,QV,QW,QX,QY,QZ,X0,X1,X2,X3,X4,X5,X6,X7,X8,X9,Xa,Xb,Xc,Xd,Xe,Xf,Xg,Xh,Xi,Xj,Xk,Xl,Xm,Xn,Xo,Xp,Xq,Xr,Xs,Xt,Xu,Xv,Xw,Xx,Xy,Xz,XA,XB,reduceIte,reduceCtorEq,XC,XD,XE,XF,XG,XH,XI,XJ,XK,XL,XM,XN,XO,XP,XQ,XR,XS,XT,XU,XV,XW,XX,XY,XZ,Y0,Try.q3,Try.q4,Try.q22,Try.q23,Try.q25,Try.q27,Try.q29,Try.q31,Try.underlying33,Try.q33,Try.underlying36,Try.q36,Try.underlying37,Try.q37,Try.q58]
        refine ⟨bi, bi, ?_⟩
        refine acalls_then (kr _) ?_
        simp -implicitDefEqProofs only [Q0,Q1,Q2,Q3,Q4,Q5,Q6,Q7,Q8,Q9,Qa,Qb,Qc,Qd,Qe,Qf,Qg,Qh,Qi,Qj,Qk,Ql,Qm,Qn,Qo,Qp,Qq,Qr,Qs,Qt,Qu,Qv,Qw,Qx,Qy,Qz,QA,QB,QC,QD,QE,QF,QG,QH,QI,QJ,QK,QL,QM,QN,QO,QP,QQ,QR,QS,QT,QU,QV,QW,QX,QY,QZ,X0,X1,X2,X3,X4,X5,X6,X7,X8,X9,Xa,Xb,Xc,Xd,Xe,Xf,Xg,Xh,Xi,Xj,Xk,Xl,Xm,Xn,Xo,Xp,Xq,Xr,Xs,Xt,Xu,Xv,Xw,Xx,Xy,Xz,XA,XB,reduceIte,reduceCtorEq,XC,XD,XE,XF,XG,XH,XI,XJ,XK,XL,XM,XN,XO,XP,XQ,XR,XS,XT,XU,XV,XW,XX,XY,XZ,Y0,Try.q3,Try.q4,Try.q22,Try.q23,Try.q25,Try.q27,Try.q29,Try.q31,Try.underlying33,Try.q33,Try.underlying36,Try.q36,Try.underlying37,Try.q37,Try.q58]
        refine ACalls.mono kp ?_
        rintro r s2 ⟨rfl, hL2, hF2, -⟩
        simp -implicitDefEqProofs only [wi,Q0,Q1,Q2,Q3,Q4,Q5,Q6,Q7,Q8,Q9,Qa,Qb,Qc,Qd,Qe,Qf,Qg,Qh,Qi,Qj,Qk,Ql,Qm,Qn,Qo,Qp,Qq,Qr,Qs,Qt,Qu,Qv,Qw,Qx,Qy,Qz,QA,QB,QC,QD,QE,QF,QG,QH,QI,QJ,QK,QL,QM,QN,QO,QP,QQ,QR,QS,QT,QU,QV,QW,QX,QY,QZ,X0,X1,X2,X3,X4,X5,X6,X7,X8,X9,Xa,Xb,Xc,Xd,Xe,Xf,Xg,Xh,Xi,Xj,Xk,Xl,Xm,Xn,Xo,Xp,Xq,Xr,Xs,Xt,Xu,Xv,Xw,Xx,Xy,Xz,XA,XB,reduceIte,reduceCtorEq,XC,XD,XE,XF,XG,XH,XI,XJ,XK,XL,XM,XN,XO,XP,XQ,XR,XS,XT,XU,XV,XW,XX,XY,XZ,Y0,Try.q3,Try.q4,Try.q22,Try.q23,Try.q25,Try.q27,Try.q29,Try.q31,Try.underlying33,Try.q33,Try.underlying36,Try.q36,Try.underlying37,Try.q37,Try.q58]
        exact ⟨i + 1, by simp [sub_cons, sub_nil, get_cons], ⟨by omega, _, (hOk.post hg).up (by omega), hL2⟩, by omega⟩
      · have d2 : decide ((0 : Int) < (o.es.length : Int)) = false := decide_eq_false (by omega)
        simp -implicitDefEqProofs only [d1,lm,hrow2,lme,d2,wi,Q0,Q1,Q2,Q3,Q4,Q5,Q6,Q7,Q8,Q9,Qa,Qb,Qc,Qd,Qe,Qf,Qg,Qh,Qi,Qj,Qk,Ql,Qm,Qn,Qo,Qp,Qq,Qr,Qs,Qt,Qu,Qv,Qw,Qx,Qy,Qz,QA,QB,QC,QD,QE,QF,QG,QH,QI,QJ,QK,QL,QM,QN,QO,QP,QQ,QR,QS,QT,QU,QV,QW,QX,QY,QZ,X0,X1,X2,X3,X4,X5,X6,X7,X8,X9,Xa,Xb,Xc,Xd,Xe,Xf,Xg,Xh,Xi,Xj,Xk,Xl,Xm,Xn,Xo,Xp,Xq,Xr,Xs,Xt,Xu,Xv,Xw,Xx,Xy,Xz,XA,XB,reduceIte,reduceCtorEq,XC,XD,XE,XF,XG,XH,XI,XJ,XK,XL,XM,XN,XO,XP,XQ,XR,XS,XT,XU,XV,XW,XX,XY,XZ,Y0,Try.q3,Try.q4,Try.q22,Try.q23,Try.q25,Try.q27,Try.q29,Try.q31,Try.underlying33,Try.q33,Try.underlying36,Try.q36,Try.underlying37,Try.q37,Try.q58]
        exact ⟨bi, i + 1, by simp [sub_cons, sub_nil, get_cons], ⟨by omega, es, hOk.up (by omega), hL⟩, by omega⟩
    · have d1 : decide ((i : Int) < (ops.length : Int)) = false := decide_eq_false (by omega)
      refine awp_vc (by kernel_rfl) ?_
      simp -implicitDefEqProofs only [d1,lm,seqA_normal,cutK_normal,Q0,Q1,Q2,Q3,Q4,Q5,Q6,Q7,Q8,Q9,Qa,Qb,Qc,Qd,Qe,Qf,Qg,Qh,Qi,Qj,Qk,Ql,Qm,Qn,Qo,Qp,Qq,Qr,Qs,Qt,Qu,Qv,Qw,Qx,Qy,Qz,QA,QB,QC,QD,QE,QF,QG,QH,QI,QJ,QK,QL,QM,QN,QO,QP,QQ,QR,QS,QT,QU,QV,QW,QX,QY,QZ,X0,X1,X2,X3,X4,X5,X6,X7,X8,X9,Xa,Xb,Xc,Xd,Xe,Xf,Xg,Xh,Xi,Xj,Xk,Xl,Xm,Xn,Xo,Xp,Xq,Xr,Xs,Xt,Xu,Xv,Xw,Xx,Xy,Xz,XA,XB,reduceIte,reduceCtorEq,XC,XD,XE,XF,XG,XH,XI,XJ,XK,XL,XM,XN,XO,XP,XQ,XR,XS,XT,XU,XV,XW,XX,XY,XZ,Y0,Try.q3,Try.q4,Try.q22,Try.q23,Try.q25,Try.q27,Try.q29,Try.q31,Try.underlying33,Try.q33,Try.underlying36,Try.q36,Try.underlying37,Try.q37,Try.q58]
      exact ⟨es, hOk.up (by omega), hL⟩
  rintro e' s' ⟨⟨es, hOk, hL⟩, he⟩
  refine awp_subJ _ he ?_
  clear he e' hL0 hx0 kS hG lm hSl ops
  have hlen := hOk.len
  have lms : (es.map entA).length = es.length := List.length_map _
  have kE := c_Entries es (by omega) _ s' id hL.1
  refine awp_seq (awp_vc (by kernel_rfl) ?_)
  simp -implicitDefEqProofs only [seqA_normal,seqA_ret,seqA_exit,Q0,Q1,Q2,Q3,Q4,Q5,Q6,Q7,Q8,Q9,Qa,Qb,Qc,Qd,Qe,Qf,Qg,Qh,Qi,Qj,Qk,Ql,Qm,Qn,Qo,Qp,Qq,Qr,Qs,Qt,Qu,Qv,Qw,Qx,Qy,Qz,QA,QB,QC,QD,QE,QF,QG,QH,QI,QJ,QK,QL,QM,QN,QO,QP,QQ,QR,QS,QT,QU,QV,QW,QX,QY,QZ,X0,X1,X2,X3,X4,X5,X6,X7,X8,X9,Xa,Xb,Xc,Xd,Xe,Xf,Xg,Xh,Xi,Xj,Xk,Xl,Xm,Xn,Xo,Xp,Xq,Xr,Xs,Xt,Xu,Xv,Xw,Xx,Xy,Xz,XA,XB,reduceIte,reduceCtorEq,XC,XD,XE,XF,XG,XH,XI,XJ,XK,XL,XM,XN,XO,XP,XQ,XR,XS,XT,XU,XV,XW,XX,XY,XZ,Y0,Try.q3,Try.q4,Try.q22,Try.q23,Try.q25,Try.q27,Try.q29,Try.q31,Try.underlying33,Try.q33,Try.underlying36,Try.q36,Try.underlying37,Try.q37,Try.q58]
  refine acalls_then (kE) ?_
  simp -implicitDefEqProofs only [seqA_normal,Q0,Q1,Q2,Q3,Q4,Q5,Q6,Q7,Q8,Q9,Qa,Qb,Qc,Qd,Qe,Qf,Qg,Qh,Qi,Qj,Qk,Ql,Qm,Qn,Qo,Qp,Qq,Qr,Qs,Qt,Qu,Qv,Qw,Qx,Qy,Qz,QA,QB,QC,QD,QE,QF,QG,QH,QI,QJ,QK,QL,QM,QN,QO,QP,QQ,QR,QS,QT,QU,QV,QW,QX,QY,QZ,X0,X1,X2,X3,X4,X5,X6,X7,X8,X9,Xa,Xb,Xc,Xd,Xe,Xf,Xg,Xh,Xi,Xj,Xk,Xl,Xm,Xn,Xo,Xp,Xq,Xr,Xs,Xt,Xu,Xv,Xw,Xx,Xy,Xz,XA,XB,reduceIte,reduceCtorEq,XC,XD,XE,XF,XG,XH,XI,XJ,XK,XL,XM,XN,XO,XP,XQ,XR,XS,XT,XU,XV,XW,XX,XY,XZ,Y0,Try.q3,Try.q4,Try.q22,Try.q23,Try.q25,Try.q27,Try.q29,Try.q31,Try.underlying33,Try.q33,Try.underlying36,Try.q36,Try.underlying37,Try.q37,Try.q58]
  have e00 : decide ((0 : Int) = 0) = true := rfl
  by_cases hz : es.length = 0
  · have d0 : decide ((es.length : Int) = 0) = true := decide_eq_true (by omega)
    obtain ⟨s2, hL2, hF2, kv⟩ := c_VoidD es [] (by omega) hOk.val 0 5 (i64_okk (by omega) (by omega)) s' id j hL
    have hv : (voidR es [] 0 5).1 = 7 := by
      unfold voidR
      have : inB 0 0 ((es.length : Int) - 1) = false := by
        rw [Bool.eq_false_iff]; intro h
        have := inB_iff.1 h
        omega
      rw [this, if_pos rfl]
    rw [hv] at kv
    have e7 : decide ((7 : Int) = 7) = true := rfl
    refine awp_seq (awp_vc (by kernel_rfl) ?_)
    simp -implicitDefEqProofs only [lms,d0,Q0,Q1,Q2,Q3,Q4,Q5,Q6,Q7,Q8,Q9,Qa,Qb,Qc,Qd,Qe,Qf,Qg,Qh,Qi,Qj,Qk,Ql,Qm,Qn,Qo,Qp,Qq,Qr,Qs,Qt,Qu,Qv,Qw,Qx,Qy,Qz,QA,QB,QC,QD,QE,QF,QG,QH,QI,QJ,QK,QL,QM,QN,QO,QP,QQ,QR,QS,QT,QU,QV,QW,QX,QY,QZ,X0,X1,X2,X3,X4,X5,X6,X7,X8,X9,Xa,Xb,Xc,Xd,Xe,Xf,Xg,Xh,Xi,Xj,Xk,Xl,Xm,Xn,Xo,Xp,Xq,Xr,Xs,Xt,Xu,Xv,Xw,Xx,Xy,Xz,XA,XB,reduceIte,reduceCtorEq,XC,XD,XE,XF,XG,XH,XI,XJ,XK,XL,XM,XN,XO,XP,XQ,XR,XS,XT,XU,XV,XW,XX,XY,XZ,Y0,Try.q3,Try.q4,Try.q22,Try.q23,Try.q25,Try.q27,Try.q29,Try.q31,Try.underlying33,Try.q33,Try.underlying36,Try.q36,Try.underlying37,Try.q37,Try.q58]
    refine acalls_then (kv) ?_
    simp -implicitDefEqProofs only [e7,Q0,Q1,Q2,Q3,Q4,Q5,Q6,Q7,Q8,Q9,Qa,Qb,Qc,Qd,Qe,Qf,Qg,Qh,Qi,Qj,Qk,Ql,Qm,Qn,Qo,Qp,Qq,Qr,Qs,Qt,Qu,Qv,Qw,Qx,Qy,Qz,QA,QB,QC,QD,QE,QF,QG,QH,QI,QJ,QK,QL,QM,QN,QO,QP,QQ,QR,QS,QT,QU,QV,QW,QX,QY,QZ,X0,X1,X2,X3,X4,X5,X6,X7,X8,X9,Xa,Xb,Xc,Xd,Xe,Xf,Xg,Xh,Xi,Xj,Xk,Xl,Xm,Xn,Xo,Xp,Xq,Xr,Xs,Xt,Xu,Xv,Xw,Xx,Xy,Xz,XA,XB,reduceIte,reduceCtorEq,XC,XD,XE,XF,XG,XH,XI,XJ,XK,XL,XM,XN,XO,XP,XQ,XR,XS,XT,XU,XV,XW,XX,XY,XZ,Y0,Try.q3,Try.q4,Try.q22,Try.q23,Try.q25,Try.q27,Try.q29,Try.q31,Try.underlying33,Try.q33,Try.underlying36,Try.q36,Try.underlying37,Try.q37,Try.q58]
    refine acalls_then (kL _) ?_
    simp -implicitDefEqProofs only [seqA_ret,Q0,Q1,Q2,Q3,Q4,Q5,Q6,Q7,Q8,Q9,Qa,Qb,Qc,Qd,Qe,Qf,Qg,Qh,Qi,Qj,Qk,Ql,Qm,Qn,Qo,Qp,Qq,Qr,Qs,Qt,Qu,Qv,Qw,Qx,Qy,Qz,QA,QB,QC,QD,QE,QF,QG,QH,QI,QJ,QK,QL,QM,QN,QO,QP,QQ,QR,QS,QT,QU,QV,QW,QX,QY,QZ,X0,X1,X2,X3,X4,X5,X6,X7,X8,X9,Xa,Xb,Xc,Xd,Xe,Xf,Xg,Xh,Xi,Xj,Xk,Xl,Xm,Xn,Xo,Xp,Xq,Xr,Xs,Xt,Xu,Xv,Xw,Xx,Xy,Xz,XA,XB,reduceIte,reduceCtorEq,XC,XD,XE,XF,XG,XH,XI,XJ,XK,XL,XM,XN,XO,XP,XQ,XR,XS,XT,XU,XV,XW,XX,XY,XZ,Y0,Try.q3,Try.q4,Try.q22,Try.q23,Try.q25,Try.q27,Try.q29,Try.q31,Try.underlying33,Try.q33,Try.underlying36,Try.q36,Try.underlying37,Try.q37,Try.q58]
  have d0 : decide ((es.length : Int) = 0) = false := decide_eq_false (by omega)
  have kB := fun σ => around ix (es.length : Int) σ (by omega)
  have bB := aroundI_bound hix (m := (es.length : Int)) (by omega)
  generalize aroundI ix (es.length : Int) = nI at *
  obtain ⟨n, rfl⟩ : ∃ n : Nat, nI = n := ⟨nI.toNat, by omega⟩
  have hn : n < es.length := by omega
  have hrow : (es.map entA).getD (n : Int).toNat [] = entA es[n] := by rw [Int.toNat_natCast, getD_get (by simpa using hn)]; simp
  have hv := hOk.val _ (List.getElem_mem hn)
  have hge := hOk.gen _ (List.getElem_mem hn)
  have bi : (0 : Int) ≤ (n : Int) ∧ (n : Int) < (es.length : Int) := by omega
  obtain ⟨e, he⟩ : ∃ e, es[n] = e := ⟨_, rfl⟩
  rw [he] at hrow hv hge
  have hrow2 : (es.map entA).getD (n : Int).toNat [] = [.int .i64 e.day, .int .i64 e.fr, .int .i64 e.to, .int .i64 e.cur, .int .i64 e.amt, .int .i64 e.note] := hrow
  refine awp_seq (awp_vc (by kernel_rfl) ?_)
  simp -implicitDefEqProofs only [lms,d0,seqA_normal,Q0,Q1,Q2,Q3,Q4,Q5,Q6,Q7,Q8,Q9,Qa,Qb,Qc,Qd,Qe,Qf,Qg,Qh,Qi,Qj,Qk,Ql,Qm,Qn,Qo,Qp,Qq,Qr,Qs,Qt,Qu,Qv,Qw,Qx,Qy,Qz,QA,QB,QC,QD,QE,QF,QG,QH,QI,QJ,QK,QL,QM,QN,QO,QP,QQ,QR,QS,QT,QU,QV,QW,QX,QY,QZ,X0,X1,X2,X3,X4,X5,X6,X7,X8,X9,Xa,Xb,Xc,Xd,Xe,Xf,Xg,Xh,Xi,Xj,Xk,Xl,Xm,Xn,Xo,Xp,Xq,Xr,Xs,Xt,Xu,Xv,Xw,Xx,Xy,Xz,XA,XB,reduceIte,reduceCtorEq,XC,XD,XE,XF,XG,XH,XI,XJ,XK,XL,XM,XN,XO,XP,XQ,XR,XS,XT,XU,XV,XW,XX,XY,XZ,Y0,Try.q3,Try.q4,Try.q22,Try.q23,Try.q25,Try.q27,Try.q29,Try.q31,Try.underlying33,Try.q33,Try.underlying36,Try.q36,Try.underlying37,Try.q37,Try.q58]
  refine awp_seq (awp_vc (by kernel_rfl) ?_)
  simp -implicitDefEqProofs only [lms,Q0,Q1,Q2,Q3,Q4,Q5,Q6,Q7,Q8,Q9,Qa,Qb,Qc,Qd,Qe,Qf,Qg,Qh,Qi,Qj,Qk,Ql,Qm,Qn,Qo,Qp,Qq,Qr,Qs,Qt,Qu,Qv,Qw,Qx,Qy,Qz,QA,QB,QC,QD,QE,QF,QG,QH,QI,QJ,QK,QL,QM,QN,QO,QP,QQ,QR,QS,QT,QU,QV,QW,QX,QY,QZ,X0,X1,X2,X3,X4,X5,X6,X7,X8,X9,Xa,Xb,Xc,Xd,Xe,Xf,Xg,Xh,Xi,Xj,Xk,Xl,Xm,Xn,Xo,Xp,Xq,Xr,Xs,Xt,Xu,Xv,Xw,Xx,Xy,Xz,XA,XB,reduceIte,reduceCtorEq,XC,XD,XE,XF,XG,XH,XI,XJ,XK,XL,XM,XN,XO,XP,XQ,XR,XS,XT,XU,XV,XW,XX,XY,XZ,Y0,Try.q3,Try.q4,Try.q22,Try.q23,Try.q25,Try.q27,Try.q29,Try.q31,Try.underlying33,Try.q33,Try.underlying36,Try.q36,Try.underlying37,Try.q37,Try.q58]
  refine acalls_then (kB _) ?_
  simp -implicitDefEqProofs only [seqA_normal,Q0,Q1,Q2,Q3,Q4,Q5,Q6,Q7,Q8,Q9,Qa,Qb,Qc,Qd,Qe,Qf,Qg,Qh,Qi,Qj,Qk,Ql,Qm,Qn,Qo,Qp,Qq,Qr,Qs,Qt,Qu,Qv,Qw,Qx,Qy,Qz,QA,QB,QC,QD,QE,QF,QG,QH,QI,QJ,QK,QL,QM,QN,QO,QP,QQ,QR,QS,QT,QU,QV,QW,QX,QY,QZ,X0,X1,X2,X3,X4,X5,X6,X7,X8,X9,Xa,Xb,Xc,Xd,Xe,Xf,Xg,Xh,Xi,Xj,Xk,Xl,Xm,Xn,Xo,Xp,Xq,Xr,Xs,Xt,Xu,Xv,Xw,Xx,Xy,Xz,XA,XB,reduceIte,reduceCtorEq,XC,XD,XE,XF,XG,XH,XI,XJ,XK,XL,XM,XN,XO,XP,XQ,XR,XS,XT,XU,XV,XW,XX,XY,XZ,Y0,Try.q3,Try.q4,Try.q22,Try.q23,Try.q25,Try.q27,Try.q29,Try.q31,Try.underlying33,Try.q33,Try.underlying36,Try.q36,Try.underlying37,Try.q37,Try.q58]
  refine awp_seq (awp_vc (by kernel_rfl) ?_)
  simp -implicitDefEqProofs only [lms,hrow2,Q0,Q1,Q2,Q3,Q4,Q5,Q6,Q7,Q8,Q9,Qa,Qb,Qc,Qd,Qe,Qf,Qg,Qh,Qi,Qj,Qk,Ql,Qm,Qn,Qo,Qp,Qq,Qr,Qs,Qt,Qu,Qv,Qw,Qx,Qy,Qz,QA,QB,QC,QD,QE,QF,QG,QH,QI,QJ,QK,QL,QM,QN,QO,QP,QQ,QR,QS,QT,QU,QV,QW,QX,QY,QZ,X0,X1,X2,X3,X4,X5,X6,X7,X8,X9,Xa,Xb,Xc,Xd,Xe,Xf,Xg,Xh,Xi,Xj,Xk,Xl,Xm,Xn,Xo,Xp,Xq,Xr,Xs,Xt,Xu,Xv,Xw,Xx,Xy,Xz,XA,XB,reduceIte,reduceCtorEq,XC,XD,XE,XF,XG,XH,XI,XJ,XK,XL,XM,XN,XO,XP,XQ,XR,XS,XT,XU,XV,XW,XX,XY,XZ,Y0,Try.q3,Try.q4,Try.q22,Try.q23,Try.q25,Try.q27,Try.q29,Try.q31,Try.underlying33,Try.q33,Try.underlying36,Try.q36,Try.underlying37,Try.q37,Try.q58]
  refine ⟨bi, ?_⟩
  simp -implicitDefEqProofs only [seqA_normal,Q0,Q1,Q2,Q3,Q4,Q5,Q6,Q7,Q8,Q9,Qa,Qb,Qc,Qd,Qe,Qf,Qg,Qh,Qi,Qj,Qk,Ql,Qm,Qn,Qo,Qp,Qq,Qr,Qs,Qt,Qu,Qv,Qw,Qx,Qy,Qz,QA,QB,QC,QD,QE,QF,QG,QH,QI,QJ,QK,QL,QM,QN,QO,QP,QQ,QR,QS,QT,QU,QV,QW,QX,QY,QZ,X0,X1,X2,X3,X4,X5,X6,X7,X8,X9,Xa,Xb,Xc,Xd,Xe,Xf,Xg,Xh,Xi,Xj,Xk,Xl,Xm,Xn,Xo,Xp,Xq,Xr,Xs,Xt,Xu,Xv,Xw,Xx,Xy,Xz,XA,XB,reduceIte,reduceCtorEq,XC,XD,XE,XF,XG,XH,XI,XJ,XK,XL,XM,XN,XO,XP,XQ,XR,XS,XT,XU,XV,XW,XX,XY,XZ,Y0,Try.q3,Try.q4,Try.q22,Try.q23,Try.q25,Try.q27,Try.q29,Try.q31,Try.underlying33,Try.q33,Try.underlying36,Try.q36,Try.underlying37,Try.q37,Try.q58]
  refine awp_kill s'.length (s'.length + 1) (by omega) (by simp) [(12, .iptr [.int .i64 e.day, .int .i64 e.fr, .int .i64 e.to, .int .i64 e.cur, .int .i64 e.amt, .int .i64 e.note]), (11, .int .i64 (n : Int)), (10, .rows 6 (es.map entA)), (7, .ptr id 0), (2, .int .i64 wt)]
    ⟨⟨_, rfl, Sh.boxAll (by simp) ⟨by omega, by omega⟩⟩, ⟨_, rfl, .same _⟩, ⟨_, rfl, .same _⟩, ⟨_, rfl, .same _⟩, ⟨_, rfl, .same _⟩, trivial⟩ ?_
  have hx4 : Ext s' (killS (s' ++ [AObj.box [.int .i64 e.day, .int .i64 e.fr, .int .i64 e.to, .int .i64 e.cur, .int .i64 e.amt, .int .i64 e.note]]) s'.length (s'.length + 1)) := killS_ext (Ext.app _ _) (by omega) (by simp) (by omega)
  generalize killS (s' ++ [AObj.box [.int .i64 e.day, .int .i64 e.fr, .int .i64 e.to, .int .i64 e.cur, .int .i64 e.amt, .int .i64 e.note]]) s'.length (s'.length + 1) = s4 at hx4
  have hL4 := hL.ext hx4
  clear hL hx4 kE kB
  have b1 := hge.day
  have b2 := hv.fr
  have b3 := hv.to
  have b4 := hv.ne
  have b5 := hv.cur
  have b6 := hv.amt
  have ww : IntKind.i64.wrap (e.day + w) = e.day + w := wrap_i64 (by omega) (by omega)
  refine awp_seq (awp_draws [] Try.mixed (by kernel_rfl) ?_)
  simp -implicitDefEqProofs only [Q0,Q1,Q2,Q3,Q4,Q5,Q6,Q7,Q8,Q9,Qa,Qb,Qc,Qd,Qe,Qf,Qg,Qh,Qi,Qj,Qk,Ql,Qm,Qn,Qo,Qp,Qq,Qr,Qs,Qt,Qu,Qv,Qw,Qx,Qy,Qz,QA,QB,QC,QD,QE,QF,QG,QH,QI,QJ,QK,QL,QM,QN,QO,QP,QQ,QR,QS,QT,QU,QV,QW,QX,QY,QZ,X0,X1,X2,X3,X4,X5,X6,X7,X8,X9,Xa,Xb,Xc,Xd,Xe,Xf,Xg,Xh,Xi,Xj,Xk,Xl,Xm,Xn,Xo,Xp,Xq,Xr,Xs,Xt,Xu,Xv,Xw,Xx,Xy,Xz,XA,XB,reduceIte,reduceCtorEq,XC,XD,XE,XF,XG,XH,XI,XJ,XK,XL,XM,XN,XO,XP,XQ,XR,XS,XT,XU,XV,XW,XX,XY,XZ,Y0,Try.q3,Try.q4,Try.q22,Try.q23,Try.q25,Try.q27,Try.q29,Try.q31,Try.underlying33,Try.q33,Try.underlying36,Try.q36,Try.underlying37,Try.q37,Try.q58]
  refine dCall_of (kA _) (by decide) ?_
  simp -implicitDefEqProofs only [ww,seqA_normal,Q0,Q1,Q2,Q3,Q4,Q5,Q6,Q7,Q8,Q9,Qa,Qb,Qc,Qd,Qe,Qf,Qg,Qh,Qi,Qj,Qk,Ql,Qm,Qn,Qo,Qp,Qq,Qr,Qs,Qt,Qu,Qv,Qw,Qx,Qy,Qz,QA,QB,QC,QD,QE,QF,QG,QH,QI,QJ,QK,QL,QM,QN,QO,QP,QQ,QR,QS,QT,QU,QV,QW,QX,QY,QZ,X0,X1,X2,X3,X4,X5,X6,X7,X8,X9,Xa,Xb,Xc,Xd,Xe,Xf,Xg,Xh,Xi,Xj,Xk,Xl,Xm,Xn,Xo,Xp,Xq,Xr,Xs,Xt,Xu,Xv,Xw,Xx,Xy,Xz,XA,XB,reduceIte,reduceCtorEq,XC,XD,XE,XF,XG,XH,XI,XJ,XK,XL,XM,XN,XO,XP,XQ,XR,XS,XT,XU,XV,XW,XX,XY,XZ,Y0,Try.q3,Try.q4,Try.q22,Try.q23,Try.q25,Try.q27,Try.q29,Try.q31,Try.underlying33,Try.q33,Try.underlying36,Try.q36,Try.underlying37,Try.q37,Try.q58]
  obtain ⟨dd, hdd⟩ : ∃ dd, dd = e.day + w := ⟨_, rfl⟩
  have bd : e.day ≤ dd ∧ dd ≤ e.day + 11 := by omega
  rw [← hdd] at ww ⊢
  clear hdd ww kA bA
  obtain ⟨s6, hx6, hC6, kc⟩ := c_Copy es (by omega) [] s4 id j hL4
  have hlt4 := led_lt hL4
  have hL6 := hL4.ext hx6
  refine awp_seq (awp_vc (by kernel_rfl) ?_)
  simp -implicitDefEqProofs only [Q0,Q1,Q2,Q3,Q4,Q5,Q6,Q7,Q8,Q9,Qa,Qb,Qc,Qd,Qe,Qf,Qg,Qh,Qi,Qj,Qk,Ql,Qm,Qn,Qo,Qp,Qq,Qr,Qs,Qt,Qu,Qv,Qw,Qx,Qy,Qz,QA,QB,QC,QD,QE,QF,QG,QH,QI,QJ,QK,QL,QM,QN,QO,QP,QQ,QR,QS,QT,QU,QV,QW,QX,QY,QZ,X0,X1,X2,X3,X4,X5,X6,X7,X8,X9,Xa,Xb,Xc,Xd,Xe,Xf,Xg,Xh,Xi,Xj,Xk,Xl,Xm,Xn,Xo,Xp,Xq,Xr,Xs,Xt,Xu,Xv,Xw,Xx,Xy,Xz,XA,XB,reduceIte,reduceCtorEq,XC,XD,XE,XF,XG,XH,XI,XJ,XK,XL,XM,XN,XO,XP,XQ,XR,XS,XT,XU,XV,XW,XX,XY,XZ,Y0,Try.q3,Try.q4,Try.q22,Try.q23,Try.q25,Try.q27,Try.q29,Try.q31,Try.underlying33,Try.q33,Try.underlying36,Try.q36,Try.underlying37,Try.q37,Try.q58]
  refine ACalls.mono kc ?_
  rintro r s7 ⟨rfl, rfl⟩
  simp -implicitDefEqProofs only [seqA_normal,Q0,Q1,Q2,Q3,Q4,Q5,Q6,Q7,Q8,Q9,Qa,Qb,Qc,Qd,Qe,Qf,Qg,Qh,Qi,Qj,Qk,Ql,Qm,Qn,Qo,Qp,Qq,Qr,Qs,Qt,Qu,Qv,Qw,Qx,Qy,Qz,QA,QB,QC,QD,QE,QF,QG,QH,QI,QJ,QK,QL,QM,QN,QO,QP,QQ,QR,QS,QT,QU,QV,QW,QX,QY,QZ,X0,X1,X2,X3,X4,X5,X6,X7,X8,X9,Xa,Xb,Xc,Xd,Xe,Xf,Xg,Xh,Xi,Xj,Xk,Xl,Xm,Xn,Xo,Xp,Xq,Xr,Xs,Xt,Xu,Xv,Xw,Xx,Xy,Xz,XA,XB,reduceIte,reduceCtorEq,XC,XD,XE,XF,XG,XH,XI,XJ,XK,XL,XM,XN,XO,XP,XQ,XR,XS,XT,XU,XV,XW,XX,XY,XZ,Y0,Try.q3,Try.q4,Try.q22,Try.q23,Try.q25,Try.q27,Try.q29,Try.q31,Try.underlying33,Try.q33,Try.underlying36,Try.q36,Try.underlying37,Try.q37,Try.q58]
  obtain ⟨s8, hL8, hF8, kv⟩ := c_VoidD es [] (by omega) hOk.val n dd (i64_okk (by omega) (by omega)) s7 id j hL6
  have hC8 := hC6.keep hF8 (by omega) (by omega) (by omega) (by omega)
  have p1 : s4.length + 1 ≠ id := by omega
  have p2 : s4.length + 1 ≠ j := by omega
  have p3 : s4.length ≠ id := by omega
  have p4 : s4.length ≠ j := by omega
  generalize s4.length = n4 at *
  clear hC6 hL6 hF8 hx6 kc hL4 hlt4
  refine awp_seq (awp_vc (by kernel_rfl) ?_)
  simp -implicitDefEqProofs only [Q0,Q1,Q2,Q3,Q4,Q5,Q6,Q7,Q8,Q9,Qa,Qb,Qc,Qd,Qe,Qf,Qg,Qh,Qi,Qj,Qk,Ql,Qm,Qn,Qo,Qp,Qq,Qr,Qs,Qt,Qu,Qv,Qw,Qx,Qy,Qz,QA,QB,QC,QD,QE,QF,QG,QH,QI,QJ,QK,QL,QM,QN,QO,QP,QQ,QR,QS,QT,QU,QV,QW,QX,QY,QZ,X0,X1,X2,X3,X4,X5,X6,X7,X8,X9,Xa,Xb,Xc,Xd,Xe,Xf,Xg,Xh,Xi,Xj,Xk,Xl,Xm,Xn,Xo,Xp,Xq,Xr,Xs,Xt,Xu,Xv,Xw,Xx,Xy,Xz,XA,XB,reduceIte,reduceCtorEq,XC,XD,XE,XF,XG,XH,XI,XJ,XK,XL,XM,XN,XO,XP,XQ,XR,XS,XT,XU,XV,XW,XX,XY,XZ,Y0,Try.q3,Try.q4,Try.q22,Try.q23,Try.q25,Try.q27,Try.q29,Try.q31,Try.underlying33,Try.q33,Try.underlying36,Try.q36,Try.underlying37,Try.q37,Try.q58]
  refine acalls_then (kv) ?_
  simp -implicitDefEqProofs only [seqA_normal,Q0,Q1,Q2,Q3,Q4,Q5,Q6,Q7,Q8,Q9,Qa,Qb,Qc,Qd,Qe,Qf,Qg,Qh,Qi,Qj,Qk,Ql,Qm,Qn,Qo,Qp,Qq,Qr,Qs,Qt,Qu,Qv,Qw,Qx,Qy,Qz,QA,QB,QC,QD,QE,QF,QG,QH,QI,QJ,QK,QL,QM,QN,QO,QP,QQ,QR,QS,QT,QU,QV,QW,QX,QY,QZ,X0,X1,X2,X3,X4,X5,X6,X7,X8,X9,Xa,Xb,Xc,Xd,Xe,Xf,Xg,Xh,Xi,Xj,Xk,Xl,Xm,Xn,Xo,Xp,Xq,Xr,Xs,Xt,Xu,Xv,Xw,Xx,Xy,Xz,XA,XB,reduceIte,reduceCtorEq,XC,XD,XE,XF,XG,XH,XI,XJ,XK,XL,XM,XN,XO,XP,XQ,XR,XS,XT,XU,XV,XW,XX,XY,XZ,Y0,Try.q3,Try.q4,Try.q22,Try.q23,Try.q25,Try.q27,Try.q29,Try.q31,Try.underlying33,Try.q33,Try.underlying36,Try.q36,Try.underlying37,Try.q37,Try.q58]
  rcases void_one (by omega) hn he (day := dd) ⟨by omega, by omega⟩ with hv1 | hv1
  · rw [hv1] at hL8 ⊢
    simp only at hL8
    have e16 : decide ((16 : Int) = 16) = true := rfl
    have kH1 := c_Hash es (by omega) s8 id _ hL8.1
    have kH2 := c_Hash es (by omega) s8 (n4 + 1) _ hC8.1
    generalize sumR lblL (wordsE es) = v at *
    have e1 : decide (v = v) = true := decide_eq_true rfl
    refine awp_seq (awp_vc (by kernel_rfl) ?_)
    simp -implicitDefEqProofs only [e16,Q0,Q1,Q2,Q3,Q4,Q5,Q6,Q7,Q8,Q9,Qa,Qb,Qc,Qd,Qe,Qf,Qg,Qh,Qi,Qj,Qk,Ql,Qm,Qn,Qo,Qp,Qq,Qr,Qs,Qt,Qu,Qv,Qw,Qx,Qy,Qz,QA,QB,QC,QD,QE,QF,QG,QH,QI,QJ,QK,QL,QM,QN,QO,QP,QQ,QR,QS,QT,QU,QV,QW,QX,QY,QZ,X0,X1,X2,X3,X4,X5,X6,X7,X8,X9,Xa,Xb,Xc,Xd,Xe,Xf,Xg,Xh,Xi,Xj,Xk,Xl,Xm,Xn,Xo,Xp,Xq,Xr,Xs,Xt,Xu,Xv,Xw,Xx,Xy,Xz,XA,XB,reduceIte,reduceCtorEq,XC,XD,XE,XF,XG,XH,XI,XJ,XK,XL,XM,XN,XO,XP,XQ,XR,XS,XT,XU,XV,XW,XX,XY,XZ,Y0,Try.q3,Try.q4,Try.q22,Try.q23,Try.q25,Try.q27,Try.q29,Try.q31,Try.underlying33,Try.q33,Try.underlying36,Try.q36,Try.underlying37,Try.q37,Try.q58]
    refine acalls_then (kH1) ?_
    simp -implicitDefEqProofs only [Q0,Q1,Q2,Q3,Q4,Q5,Q6,Q7,Q8,Q9,Qa,Qb,Qc,Qd,Qe,Qf,Qg,Qh,Qi,Qj,Qk,Ql,Qm,Qn,Qo,Qp,Qq,Qr,Qs,Qt,Qu,Qv,Qw,Qx,Qy,Qz,QA,QB,QC,QD,QE,QF,QG,QH,QI,QJ,QK,QL,QM,QN,QO,QP,QQ,QR,QS,QT,QU,QV,QW,QX,QY,QZ,X0,X1,X2,X3,X4,X5,X6,X7,X8,X9,Xa,Xb,Xc,Xd,Xe,Xf,Xg,Xh,Xi,Xj,Xk,Xl,Xm,Xn,Xo,Xp,Xq,Xr,Xs,Xt,Xu,Xv,Xw,Xx,Xy,Xz,XA,XB,reduceIte,reduceCtorEq,XC,XD,XE,XF,XG,XH,XI,XJ,XK,XL,XM,XN,XO,XP,XQ,XR,XS,XT,XU,XV,XW,XX,XY,XZ,Y0,Try.q3,Try.q4,Try.q22,Try.q23,Try.q25,Try.q27,Try.q29,Try.q31,Try.underlying33,Try.q33,Try.underlying36,Try.q36,Try.underlying37,Try.q37,Try.q58]
    refine acalls_then (kH2) ?_
    simp -implicitDefEqProofs only [e1,Q0,Q1,Q2,Q3,Q4,Q5,Q6,Q7,Q8,Q9,Qa,Qb,Qc,Qd,Qe,Qf,Qg,Qh,Qi,Qj,Qk,Ql,Qm,Qn,Qo,Qp,Qq,Qr,Qs,Qt,Qu,Qv,Qw,Qx,Qy,Qz,QA,QB,QC,QD,QE,QF,QG,QH,QI,QJ,QK,QL,QM,QN,QO,QP,QQ,QR,QS,QT,QU,QV,QW,QX,QY,QZ,X0,X1,X2,X3,X4,X5,X6,X7,X8,X9,Xa,Xb,Xc,Xd,Xe,Xf,Xg,Xh,Xi,Xj,Xk,Xl,Xm,Xn,Xo,Xp,Xq,Xr,Xs,Xt,Xu,Xv,Xw,Xx,Xy,Xz,XA,XB,reduceIte,reduceCtorEq,XC,XD,XE,XF,XG,XH,XI,XJ,XK,XL,XM,XN,XO,XP,XQ,XR,XS,XT,XU,XV,XW,XX,XY,XZ,Y0,Try.q3,Try.q4,Try.q22,Try.q23,Try.q25,Try.q27,Try.q29,Try.q31,Try.underlying33,Try.q33,Try.underlying36,Try.q36,Try.underlying37,Try.q37,Try.q58]
    refine acalls_then (kL _) ?_
    simp -implicitDefEqProofs only [seqA_ret,Q0,Q1,Q2,Q3,Q4,Q5,Q6,Q7,Q8,Q9,Qa,Qb,Qc,Qd,Qe,Qf,Qg,Qh,Qi,Qj,Qk,Ql,Qm,Qn,Qo,Qp,Qq,Qr,Qs,Qt,Qu,Qv,Qw,Qx,Qy,Qz,QA,QB,QC,QD,QE,QF,QG,QH,QI,QJ,QK,QL,QM,QN,QO,QP,QQ,QR,QS,QT,QU,QV,QW,QX,QY,QZ,X0,X1,X2,X3,X4,X5,X6,X7,X8,X9,Xa,Xb,Xc,Xd,Xe,Xf,Xg,Xh,Xi,Xj,Xk,Xl,Xm,Xn,Xo,Xp,Xq,Xr,Xs,Xt,Xu,Xv,Xw,Xx,Xy,Xz,XA,XB,reduceIte,reduceCtorEq,XC,XD,XE,XF,XG,XH,XI,XJ,XK,XL,XM,XN,XO,XP,XQ,XR,XS,XT,XU,XV,XW,XX,XY,XZ,Y0,Try.q3,Try.q4,Try.q22,Try.q23,Try.q25,Try.q27,Try.q29,Try.q31,Try.underlying33,Try.q33,Try.underlying36,Try.q36,Try.underlying37,Try.q37,Try.q58]
  rw [hv1] at hL8 ⊢
  simp only at hL8
  have ho : (oppE e n dd).day = dd := rfl
  have hov := opp_val hv (idx := n) (day := dd) (by omega) (by omega)
  obtain ⟨t1, t2, t3⟩ := void_two hn he (day := dd) ⟨by omega, by omega⟩ ho
  have hnet : ∀ a, net (oppE e n dd) a e.cur = (if e.fr = a then e.amt else 0) - (if e.to = a then e.amt else 0) := fun a => by
    unfold net; rw [if_pos (show (oppE e n dd).cur = e.cur from rfl)]; rfl
  generalize oppE e n dd = o at *
  have hVo : ∀ x ∈ es ++ [o], Val x := fun x hx => by
    rcases List.mem_append.1 hx with h | h
    · exact hOk.val x h
    · simp at h; subst h; exact hov
  have hlo : (es ++ [o]).length ≤ 31 := by simp; omega
  obtain ⟨s9, hL9, hF9, kv1⟩ := c_VoidD (es ++ [o]) _ (by omega) hVo n dd (i64_okk (by omega) (by omega)) s8 id j hL8
  rw [t1] at hL9 kv1
  obtain ⟨s10, hL10, hF10, kv2⟩ := c_VoidD (es ++ [o]) _ (by omega) hVo es.length dd (i64_okk (by omega) (by omega)) s9 id j hL9
  rw [t2] at hL10 kv2
  obtain ⟨s11, hL11, hF11, kv3⟩ := c_VoidD (es ++ [o]) _ (by omega) hVo n (e.day - 1) (i64_okk (by omega) (by omega)) s10 id j hL10
  rw [t3] at hL11 kv3
  have hC11 := ((hC8.keep hF9 p1 p2 p3 p4).keep hF10 p1 p2 p3 p4).keep hF11 p1 p2 p3 p4
  simp only at kv1 kv2 kv3 hL11
  clear hL8 hL9 hL10 hF9 hF10 hF11 t1 t2 t3 hC8 hv1
  have wd1 : IntKind.i64.wrap (e.day - 1) = e.day - 1 := wrap_i64 (by omega) (by omega)
  have e8 : decide ((8 : Int) = 8) = true := rfl
  have e1 : decide ((1 : Int) = 1) = true := rfl
  have e0 : decide ((0 : Int) = 0) = true := rfl
  refine awp_seq (awp_vc (by kernel_rfl) ?_)
  simp -implicitDefEqProofs only [seqA_normal,Q0,Q1,Q2,Q3,Q4,Q5,Q6,Q7,Q8,Q9,Qa,Qb,Qc,Qd,Qe,Qf,Qg,Qh,Qi,Qj,Qk,Ql,Qm,Qn,Qo,Qp,Qq,Qr,Qs,Qt,Qu,Qv,Qw,Qx,Qy,Qz,QA,QB,QC,QD,QE,QF,QG,QH,QI,QJ,QK,QL,QM,QN,QO,QP,QQ,QR,QS,QT,QU,QV,QW,QX,QY,QZ,X0,X1,X2,X3,X4,X5,X6,X7,X8,X9,Xa,Xb,Xc,Xd,Xe,Xf,Xg,Xh,Xi,Xj,Xk,Xl,Xm,Xn,Xo,Xp,Xq,Xr,Xs,Xt,Xu,Xv,Xw,Xx,Xy,Xz,XA,XB,reduceIte,reduceCtorEq,XC,XD,XE,XF,XG,XH,XI,XJ,XK,XL,XM,XN,XO,XP,XQ,XR,XS,XT,XU,XV,XW,XX,XY,XZ,Y0,Try.q3,Try.q4,Try.q22,Try.q23,Try.q25,Try.q27,Try.q29,Try.q31,Try.underlying33,Try.q33,Try.underlying36,Try.q36,Try.underlying37,Try.q37,Try.q58]
  refine awp_seq (awp_vc (by kernel_rfl) ?_)
  simp -implicitDefEqProofs only [e0,Q0,Q1,Q2,Q3,Q4,Q5,Q6,Q7,Q8,Q9,Qa,Qb,Qc,Qd,Qe,Qf,Qg,Qh,Qi,Qj,Qk,Ql,Qm,Qn,Qo,Qp,Qq,Qr,Qs,Qt,Qu,Qv,Qw,Qx,Qy,Qz,QA,QB,QC,QD,QE,QF,QG,QH,QI,QJ,QK,QL,QM,QN,QO,QP,QQ,QR,QS,QT,QU,QV,QW,QX,QY,QZ,X0,X1,X2,X3,X4,X5,X6,X7,X8,X9,Xa,Xb,Xc,Xd,Xe,Xf,Xg,Xh,Xi,Xj,Xk,Xl,Xm,Xn,Xo,Xp,Xq,Xr,Xs,Xt,Xu,Xv,Xw,Xx,Xy,Xz,XA,XB,reduceIte,reduceCtorEq,XC,XD,XE,XF,XG,XH,XI,XJ,XK,XL,XM,XN,XO,XP,XQ,XR,XS,XT,XU,XV,XW,XX,XY,XZ,Y0,Try.q3,Try.q4,Try.q22,Try.q23,Try.q25,Try.q27,Try.q29,Try.q31,Try.underlying33,Try.q33,Try.underlying36,Try.q36,Try.underlying37,Try.q37,Try.q58]
  refine acalls_then (kv1) ?_
  simp -implicitDefEqProofs only [e8,lms,Q0,Q1,Q2,Q3,Q4,Q5,Q6,Q7,Q8,Q9,Qa,Qb,Qc,Qd,Qe,Qf,Qg,Qh,Qi,Qj,Qk,Ql,Qm,Qn,Qo,Qp,Qq,Qr,Qs,Qt,Qu,Qv,Qw,Qx,Qy,Qz,QA,QB,QC,QD,QE,QF,QG,QH,QI,QJ,QK,QL,QM,QN,QO,QP,QQ,QR,QS,QT,QU,QV,QW,QX,QY,QZ,X0,X1,X2,X3,X4,X5,X6,X7,X8,X9,Xa,Xb,Xc,Xd,Xe,Xf,Xg,Xh,Xi,Xj,Xk,Xl,Xm,Xn,Xo,Xp,Xq,Xr,Xs,Xt,Xu,Xv,Xw,Xx,Xy,Xz,XA,XB,reduceIte,reduceCtorEq,XC,XD,XE,XF,XG,XH,XI,XJ,XK,XL,XM,XN,XO,XP,XQ,XR,XS,XT,XU,XV,XW,XX,XY,XZ,Y0,Try.q3,Try.q4,Try.q22,Try.q23,Try.q25,Try.q27,Try.q29,Try.q31,Try.underlying33,Try.q33,Try.underlying36,Try.q36,Try.underlying37,Try.q37,Try.q58]
  refine acalls_then (kv2) ?_
  simp -implicitDefEqProofs only [e8,wd1,Q0,Q1,Q2,Q3,Q4,Q5,Q6,Q7,Q8,Q9,Qa,Qb,Qc,Qd,Qe,Qf,Qg,Qh,Qi,Qj,Qk,Ql,Qm,Qn,Qo,Qp,Qq,Qr,Qs,Qt,Qu,Qv,Qw,Qx,Qy,Qz,QA,QB,QC,QD,QE,QF,QG,QH,QI,QJ,QK,QL,QM,QN,QO,QP,QQ,QR,QS,QT,QU,QV,QW,QX,QY,QZ,X0,X1,X2,X3,X4,X5,X6,X7,X8,X9,Xa,Xb,Xc,Xd,Xe,Xf,Xg,Xh,Xi,Xj,Xk,Xl,Xm,Xn,Xo,Xp,Xq,Xr,Xs,Xt,Xu,Xv,Xw,Xx,Xy,Xz,XA,XB,reduceIte,reduceCtorEq,XC,XD,XE,XF,XG,XH,XI,XJ,XK,XL,XM,XN,XO,XP,XQ,XR,XS,XT,XU,XV,XW,XX,XY,XZ,Y0,Try.q3,Try.q4,Try.q22,Try.q23,Try.q25,Try.q27,Try.q29,Try.q31,Try.underlying33,Try.q33,Try.underlying36,Try.q36,Try.underlying37,Try.q37,Try.q58]
  refine acalls_then (kv3) ?_
  simp -implicitDefEqProofs only [e1,seqA_normal,Q0,Q1,Q2,Q3,Q4,Q5,Q6,Q7,Q8,Q9,Qa,Qb,Qc,Qd,Qe,Qf,Qg,Qh,Qi,Qj,Qk,Ql,Qm,Qn,Qo,Qp,Qq,Qr,Qs,Qt,Qu,Qv,Qw,Qx,Qy,Qz,QA,QB,QC,QD,QE,QF,QG,QH,QI,QJ,QK,QL,QM,QN,QO,QP,QQ,QR,QS,QT,QU,QV,QW,QX,QY,QZ,X0,X1,X2,X3,X4,X5,X6,X7,X8,X9,Xa,Xb,Xc,Xd,Xe,Xf,Xg,Xh,Xi,Xj,Xk,Xl,Xm,Xn,Xo,Xp,Xq,Xr,Xs,Xt,Xu,Xv,Xw,Xx,Xy,Xz,XA,XB,reduceIte,reduceCtorEq,XC,XD,XE,XF,XG,XH,XI,XJ,XK,XL,XM,XN,XO,XP,XQ,XR,XS,XT,XU,XV,XW,XX,XY,XZ,Y0,Try.q3,Try.q4,Try.q22,Try.q23,Try.q25,Try.q27,Try.q29,Try.q31,Try.underlying33,Try.q33,Try.underlying36,Try.q36,Try.underlying37,Try.q37,Try.q58]
  have kx := fun a c d => c_Balance es (by omega) hOk.val a c d (.mp n4) s11 (n4 + 1) hC11.1
  have ky := fun a c d => c_Balance (es ++ [o]) (by omega) hVo a c d (.mp j) s11 id hL11.1
  clear hC11 hL11 kv1 kv2 kv3 kv
  refine awp_seq (awp_vc (by kernel_rfl) ?_)
  simp -implicitDefEqProofs only [seqA_normal,seqA_ret,seqA_exit,Q0,Q1,Q2,Q3,Q4,Q5,Q6,Q7,Q8,Q9,Qa,Qb,Qc,Qd,Qe,Qf,Qg,Qh,Qi,Qj,Qk,Ql,Qm,Qn,Qo,Qp,Qq,Qr,Qs,Qt,Qu,Qv,Qw,Qx,Qy,Qz,QA,QB,QC,QD,QE,QF,QG,QH,QI,QJ,QK,QL,QM,QN,QO,QP,QQ,QR,QS,QT,QU,QV,QW,QX,QY,QZ,X0,X1,X2,X3,X4,X5,X6,X7,X8,X9,Xa,Xb,Xc,Xd,Xe,Xf,Xg,Xh,Xi,Xj,Xk,Xl,Xm,Xn,Xo,Xp,Xq,Xr,Xs,Xt,Xu,Xv,Xw,Xx,Xy,Xz,XA,XB,reduceIte,reduceCtorEq,XC,XD,XE,XF,XG,XH,XI,XJ,XK,XL,XM,XN,XO,XP,XQ,XR,XS,XT,XU,XV,XW,XX,XY,XZ,Y0,Try.q3,Try.q4,Try.q22,Try.q23,Try.q25,Try.q27,Try.q29,Try.q31,Try.underlying33,Try.q33,Try.underlying36,Try.q36,Try.underlying37,Try.q37,Try.q58]
  refine awp_loopW (fun a : Nat => [(16, .int .i64 a), (14, .ptr (n4 + 1) 0), (13, .int .i64 dd), (12, .iptr [.int .i64 e.day, .int .i64 e.fr, .int .i64 e.to, .int .i64 e.cur, .int .i64 e.amt, .int .i64 e.note]), (7, .ptr id 0)]) (fun a s => a ≤ 5 ∧ s = s11) (fun a => 5 - a) 0 (by simp [sub_cons, sub_nil, get_cons]) ⟨by omega, rfl⟩ ?_
  rintro a s12 ⟨ha, hs12⟩
  rw [hs12]
  clear hs12 s12
  by_cases hla : a < 5
  · have d2 : decide ((a : Int) < 5) = true := decide_eq_true (by omega)
    have wa : IntKind.i64.wrap ((a : Int) + 1) = ((a + 1 : Nat) : Int) := by rw [wrap_i64 (by omega) (by omega)]; rfl
    refine awp_seq (awp_vc (by kernel_rfl) ?_)
    simp -implicitDefEqProofs only [seqA_normal,seqA_ret,seqA_exit,d2,Q0,Q1,Q2,Q3,Q4,Q5,Q6,Q7,Q8,Q9,Qa,Qb,Qc,Qd,Qe,Qf,Qg,Qh,Qi,Qj,Qk,Ql,Qm,Qn,Qo,Qp,Qq,Qr,Qs,Qt,Qu,Qv,Qw,Qx,Qy,Qz,QA,QB,QC,QD,QE,QF,QG,QH,QI,QJ,QK,QL,QM,QN,QO,QP,QQ,QR,QS,QT,QU,QV,QW,QX,QY,QZ,X0,X1,X2,X3,X4,X5,X6,X7,X8,X9,Xa,Xb,Xc,Xd,Xe,Xf,Xg,Xh,Xi,Xj,Xk,Xl,Xm,Xn,Xo,Xp,Xq,Xr,Xs,Xt,Xu,Xv,Xw,Xx,Xy,Xz,XA,XB,reduceIte,reduceCtorEq,XC,XD,XE,XF,XG,XH,XI,XJ,XK,XL,XM,XN,XO,XP,XQ,XR,XS,XT,XU,XV,XW,XX,XY,XZ,Y0,Try.q3,Try.q4,Try.q22,Try.q23,Try.q25,Try.q27,Try.q29,Try.q31,Try.underlying33,Try.q33,Try.underlying36,Try.q36,Try.underlying37,Try.q37,Try.q58]
    refine awp_seq (awp_blk ?_)
    refine awp_seq (awp_vc (by kernel_rfl) ?_)
    simp -implicitDefEqProofs only [seqA_normal,seqA_ret,seqA_exit,Q0,Q1,Q2,Q3,Q4,Q5,Q6,Q7,Q8,Q9,Qa,Qb,Qc,Qd,Qe,Qf,Qg,Qh,Qi,Qj,Qk,Ql,Qm,Qn,Qo,Qp,Qq,Qr,Qs,Qt,Qu,Qv,Qw,Qx,Qy,Qz,QA,QB,QC,QD,QE,QF,QG,QH,QI,QJ,QK,QL,QM,QN,QO,QP,QQ,QR,QS,QT,QU,QV,QW,QX,QY,QZ,X0,X1,X2,X3,X4,X5,X6,X7,X8,X9,Xa,Xb,Xc,Xd,Xe,Xf,Xg,Xh,Xi,Xj,Xk,Xl,Xm,Xn,Xo,Xp,Xq,Xr,Xs,Xt,Xu,Xv,Xw,Xx,Xy,Xz,XA,XB,reduceIte,reduceCtorEq,XC,XD,XE,XF,XG,XH,XI,XJ,XK,XL,XM,XN,XO,XP,XQ,XR,XS,XT,XU,XV,XW,XX,XY,XZ,Y0,Try.q3,Try.q4,Try.q22,Try.q23,Try.q25,Try.q27,Try.q29,Try.q31,Try.underlying33,Try.q33,Try.underlying36,Try.q36,Try.underlying37,Try.q37,Try.q58]
    refine awp_blk ?_
    refine awp_loopW (fun d : Nat => [(17, .int .i64 (98 + (d : Int))), (16, .int .i64 a), (14, .ptr (n4 + 1) 0), (13, .int .i64 dd), (12, .iptr [.int .i64 e.day, .int .i64 e.fr, .int .i64 e.to, .int .i64 e.cur, .int .i64 e.amt, .int .i64 e.note]), (7, .ptr id 0)]) (fun d s => d ≤ 27 ∧ s = s11) (fun d => 27 - d) 0 (by simp [sub_cons, sub_nil, get_cons]) ⟨by omega, rfl⟩ ?_
    rintro d s12 ⟨hd, hs12⟩
    rw [hs12]
    clear hs12 s12
    by_cases hld : d < 27
    · have d3 : decide (98 + (d : Int) < 125) = true := decide_eq_true (by omega)
      have wd : IntKind.i64.wrap (98 + (d : Int) + 1) = 98 + ((d + 1 : Nat) : Int) := by rw [wrap_i64 (by omega) (by omega)]; omega
      have fin : ∃ s' : Nat, some (AV.int .i64 (98 + ((d + 1 : Nat) : Int))) = some (AV.int .i64 (98 + (s' : Int))) ∧ s' ≤ 27 ∧ 27 - s' < 27 - d := ⟨d + 1, rfl, by omega, by omega⟩
      obtain ⟨A, hA⟩ : ∃ A : Int, A = a := ⟨_, rfl⟩
      obtain ⟨g, hgd⟩ : ∃ g : Int, g = 98 + (d : Int) := ⟨_, rfl⟩
      have q1 := kx A e.cur g
      have q2 := ky A e.cur g
      rw [balQ_ok hOk.val (by omega) (by omega) (by omega)] at q1
      rw [balQ_ok hVo (by omega) (by omega) (by omega), bal_snoc, ho, hnet] at q2
      have bN := bal_bound hOk.val A e.cur g
      rw [← hA, ← hgd]
      rw [← hgd] at d3 wd
      generalize bal es A e.cur g = N at *
      have w0 : IntKind.i64.wrap (N + 0) = N := by rw [wrap_i64 (by omega) (by omega)]; omega
      have w1 : IntKind.i64.wrap (N + e.amt) = N + e.amt := wrap_i64 (by omega) (by omega)
      have w2 : IntKind.i64.wrap (N + -e.amt) = N + -e.amt := wrap_i64 (by omega) (by omega)
      have w3 : IntKind.i64.wrap (0 - e.amt) = -e.amt := by rw [wrap_i64 (by omega) (by omega)]; omega
      obtain ⟨O, hO⟩ : ∃ O, O = N + (if dd ≤ g then (if e.fr = A then e.amt else 0) - (if e.to = A then e.amt else 0) else 0) := ⟨_, rfl⟩
      rw [← hO] at q2
      have en : decide (N = N) = true := decide_eq_true rfl
      by_cases hlt : dd ≤ g
      · have d4 : decide (dd ≤ g) = true := decide_eq_true hlt
        rw [if_pos hlt] at hO
        by_cases h2 : A = e.to
        · have d5 : decide (A = e.to) = true := decide_eq_true h2
          have d6 : decide (A = e.fr) = false := decide_eq_false (by omega)
          rw [if_neg (by omega), if_pos h2.symm] at hO
          have : O = N + -e.amt := by omega
          subst this
          have eo : decide (N + -e.amt = N + -e.amt) = true := decide_eq_true rfl
          refine awp_vc (by kernel_rfl) ?_
          simp -implicitDefEqProofs only [d3,Q0,Q1,Q2,Q3,Q4,Q5,Q6,Q7,Q8,Q9,Qa,Qb,Qc,Qd,Qe,Qf,Qg,Qh,Qi,Qj,Qk,Ql,Qm,Qn,Qo,Qp,Qq,Qr,Qs,Qt,Qu,Qv,Qw,Qx,Qy,Qz,QA,QB,QC,QD,QE,QF,QG,QH,QI,QJ,QK,QL,QM,QN,QO,QP,QQ,QR,QS,QT,QU,QV,QW,QX,QY,QZ,X0,X1,X2,X3,X4,X5,X6,X7,X8,X9,Xa,Xb,Xc,Xd,Xe,Xf,Xg,Xh,Xi,Xj,Xk,Xl,Xm,Xn,Xo,Xp,Xq,Xr,Xs,Xt,Xu,Xv,Xw,Xx,Xy,Xz,XA,XB,reduceIte,reduceCtorEq,XC,XD,XE,XF,XG,XH,XI,XJ,XK,XL,XM,XN,XO,XP,XQ,XR,XS,XT,XU,XV,XW,XX,XY,XZ,Y0,Try.q3,Try.q4,Try.q22,Try.q23,Try.q25,Try.q27,Try.q29,Try.q31,Try.underlying33,Try.q33,Try.underlying36,Try.q36,Try.underlying37,Try.q37,Try.q58]
          refine acalls_then (q1) ?_
          simp -implicitDefEqProofs only [Q0,Q1,Q2,Q3,Q4,Q5,Q6,Q7,Q8,Q9,Qa,Qb,Qc,Qd,Qe,Qf,Qg,Qh,Qi,Qj,Qk,Ql,Qm,Qn,Qo,Qp,Qq,Qr,Qs,Qt,Qu,Qv,Qw,Qx,Qy,Qz,QA,QB,QC,QD,QE,QF,QG,QH,QI,QJ,QK,QL,QM,QN,QO,QP,QQ,QR,QS,QT,QU,QV,QW,QX,QY,QZ,X0,X1,X2,X3,X4,X5,X6,X7,X8,X9,Xa,Xb,Xc,Xd,Xe,Xf,Xg,Xh,Xi,Xj,Xk,Xl,Xm,Xn,Xo,Xp,Xq,Xr,Xs,Xt,Xu,Xv,Xw,Xx,Xy,Xz,XA,XB,reduceIte,reduceCtorEq,XC,XD,XE,XF,XG,XH,XI,XJ,XK,XL,XM,XN,XO,XP,XQ,XR,XS,XT,XU,XV,XW,XX,XY,XZ,Y0,Try.q3,Try.q4,Try.q22,Try.q23,Try.q25,Try.q27,Try.q29,Try.q31,Try.underlying33,Try.q33,Try.underlying36,Try.q36,Try.underlying37,Try.q37,Try.q58]
          refine acalls_then (q2) ?_
          simp -implicitDefEqProofs only [d4,d5,d6,w3,w2,e0,eo,wd,Q0,Q1,Q2,Q3,Q4,Q5,Q6,Q7,Q8,Q9,Qa,Qb,Qc,Qd,Qe,Qf,Qg,Qh,Qi,Qj,Qk,Ql,Qm,Qn,Qo,Qp,Qq,Qr,Qs,Qt,Qu,Qv,Qw,Qx,Qy,Qz,QA,QB,QC,QD,QE,QF,QG,QH,QI,QJ,QK,QL,QM,QN,QO,QP,QQ,QR,QS,QT,QU,QV,QW,QX,QY,QZ,X0,X1,X2,X3,X4,X5,X6,X7,X8,X9,Xa,Xb,Xc,Xd,Xe,Xf,Xg,Xh,Xi,Xj,Xk,Xl,Xm,Xn,Xo,Xp,Xq,Xr,Xs,Xt,Xu,Xv,Xw,Xx,Xy,Xz,XA,XB,reduceIte,reduceCtorEq,XC,XD,XE,XF,XG,XH,XI,XJ,XK,XL,XM,XN,XO,XP,XQ,XR,XS,XT,XU,XV,XW,XX,XY,XZ,Y0,Try.q3,Try.q4,Try.q22,Try.q23,Try.q25,Try.q27,Try.q29,Try.q31,Try.underlying33,Try.q33,Try.underlying36,Try.q36,Try.underlying37,Try.q37,Try.q58]
          exact fin
        · have d5 : decide (A = e.to) = false := decide_eq_false h2
          rw [if_neg (fun e => h2 e.symm) (c := e.to = A)] at hO
          by_cases h0 : A = e.fr
          · have d6 : decide (A = e.fr) = true := decide_eq_true h0
            rw [if_pos h0.symm] at hO
            have : O = N + e.amt := by omega
            subst this
            have eo : decide (N + e.amt = N + e.amt) = true := decide_eq_true rfl
            refine awp_vc (by kernel_rfl) ?_
            simp -implicitDefEqProofs only [d3,Q0,Q1,Q2,Q3,Q4,Q5,Q6,Q7,Q8,Q9,Qa,Qb,Qc,Qd,Qe,Qf,Qg,Qh,Qi,Qj,Qk,Ql,Qm,Qn,Qo,Qp,Qq,Qr,Qs,Qt,Qu,Qv,Qw,Qx,Qy,Qz,QA,QB,QC,QD,QE,QF,QG,QH,QI,QJ,QK,QL,QM,QN,QO,QP,QQ,QR,QS,QT,QU,QV,QW,QX,QY,QZ,X0,X1,X2,X3,X4,X5,X6,X7,X8,X9,Xa,Xb,Xc,Xd,Xe,Xf,Xg,Xh,Xi,Xj,Xk,Xl,Xm,Xn,Xo,Xp,Xq,Xr,Xs,Xt,Xu,Xv,Xw,Xx,Xy,Xz,XA,XB,reduceIte,reduceCtorEq,XC,XD,XE,XF,XG,XH,XI,XJ,XK,XL,XM,XN,XO,XP,XQ,XR,XS,XT,XU,XV,XW,XX,XY,XZ,Y0,Try.q3,Try.q4,Try.q22,Try.q23,Try.q25,Try.q27,Try.q29,Try.q31,Try.underlying33,Try.q33,Try.underlying36,Try.q36,Try.underlying37,Try.q37,Try.q58]
            refine acalls_then (q1) ?_
            simp -implicitDefEqProofs only [Q0,Q1,Q2,Q3,Q4,Q5,Q6,Q7,Q8,Q9,Qa,Qb,Qc,Qd,Qe,Qf,Qg,Qh,Qi,Qj,Qk,Ql,Qm,Qn,Qo,Qp,Qq,Qr,Qs,Qt,Qu,Qv,Qw,Qx,Qy,Qz,QA,QB,QC,QD,QE,QF,QG,QH,QI,QJ,QK,QL,QM,QN,QO,QP,QQ,QR,QS,QT,QU,QV,QW,QX,QY,QZ,X0,X1,X2,X3,X4,X5,X6,X7,X8,X9,Xa,Xb,Xc,Xd,Xe,Xf,Xg,Xh,Xi,Xj,Xk,Xl,Xm,Xn,Xo,Xp,Xq,Xr,Xs,Xt,Xu,Xv,Xw,Xx,Xy,Xz,XA,XB,reduceIte,reduceCtorEq,XC,XD,XE,XF,XG,XH,XI,XJ,XK,XL,XM,XN,XO,XP,XQ,XR,XS,XT,XU,XV,XW,XX,XY,XZ,Y0,Try.q3,Try.q4,Try.q22,Try.q23,Try.q25,Try.q27,Try.q29,Try.q31,Try.underlying33,Try.q33,Try.underlying36,Try.q36,Try.underlying37,Try.q37,Try.q58]
            refine acalls_then (q2) ?_
            simp -implicitDefEqProofs only [d4,d5,d6,w1,e0,eo,wd,Q0,Q1,Q2,Q3,Q4,Q5,Q6,Q7,Q8,Q9,Qa,Qb,Qc,Qd,Qe,Qf,Qg,Qh,Qi,Qj,Qk,Ql,Qm,Qn,Qo,Qp,Qq,Qr,Qs,Qt,Qu,Qv,Qw,Qx,Qy,Qz,QA,QB,QC,QD,QE,QF,QG,QH,QI,QJ,QK,QL,QM,QN,QO,QP,QQ,QR,QS,QT,QU,QV,QW,QX,QY,QZ,X0,X1,X2,X3,X4,X5,X6,X7,X8,X9,Xa,Xb,Xc,Xd,Xe,Xf,Xg,Xh,Xi,Xj,Xk,Xl,Xm,Xn,Xo,Xp,Xq,Xr,Xs,Xt,Xu,Xv,Xw,Xx,Xy,Xz,XA,XB,reduceIte,reduceCtorEq,XC,XD,XE,XF,XG,XH,XI,XJ,XK,XL,XM,XN,XO,XP,XQ,XR,XS,XT,XU,XV,XW,XX,XY,XZ,Y0,Try.q3,Try.q4,Try.q22,Try.q23,Try.q25,Try.q27,Try.q29,Try.q31,Try.underlying33,Try.q33,Try.underlying36,Try.q36,Try.underlying37,Try.q37,Try.q58]
            exact fin
          · have d6 : decide (A = e.fr) = false := decide_eq_false h0
            rw [if_neg (fun e => h0 e.symm)] at hO
            have : O = N := by omega
            subst this
            refine awp_vc (by kernel_rfl) ?_
            simp -implicitDefEqProofs only [d3,Q0,Q1,Q2,Q3,Q4,Q5,Q6,Q7,Q8,Q9,Qa,Qb,Qc,Qd,Qe,Qf,Qg,Qh,Qi,Qj,Qk,Ql,Qm,Qn,Qo,Qp,Qq,Qr,Qs,Qt,Qu,Qv,Qw,Qx,Qy,Qz,QA,QB,QC,QD,QE,QF,QG,QH,QI,QJ,QK,QL,QM,QN,QO,QP,QQ,QR,QS,QT,QU,QV,QW,QX,QY,QZ,X0,X1,X2,X3,X4,X5,X6,X7,X8,X9,Xa,Xb,Xc,Xd,Xe,Xf,Xg,Xh,Xi,Xj,Xk,Xl,Xm,Xn,Xo,Xp,Xq,Xr,Xs,Xt,Xu,Xv,Xw,Xx,Xy,Xz,XA,XB,reduceIte,reduceCtorEq,XC,XD,XE,XF,XG,XH,XI,XJ,XK,XL,XM,XN,XO,XP,XQ,XR,XS,XT,XU,XV,XW,XX,XY,XZ,Y0,Try.q3,Try.q4,Try.q22,Try.q23,Try.q25,Try.q27,Try.q29,Try.q31,Try.underlying33,Try.q33,Try.underlying36,Try.q36,Try.underlying37,Try.q37,Try.q58]
            refine acalls_then (q1) ?_
            simp -implicitDefEqProofs only [Q0,Q1,Q2,Q3,Q4,Q5,Q6,Q7,Q8,Q9,Qa,Qb,Qc,Qd,Qe,Qf,Qg,Qh,Qi,Qj,Qk,Ql,Qm,Qn,Qo,Qp,Qq,Qr,Qs,Qt,Qu,Qv,Qw,Qx,Qy,Qz,QA,QB,QC,QD,QE,QF,QG,QH,QI,QJ,QK,QL,QM,QN,QO,QP,QQ,QR,QS,QT,QU,QV,QW,QX,QY,QZ,X0,X1,X2,X3,X4,X5,X6,X7,X8,X9,Xa,Xb,Xc,Xd,Xe,Xf,Xg,Xh,Xi,Xj,Xk,Xl,Xm,Xn,Xo,Xp,Xq,Xr,Xs,Xt,Xu,Xv,Xw,Xx,Xy,Xz,XA,XB,reduceIte,reduceCtorEq,XC,XD,XE,XF,XG,XH,XI,XJ,XK,XL,XM,XN,XO,XP,XQ,XR,XS,XT,XU,XV,XW,XX,XY,XZ,Y0,Try.q3,Try.q4,Try.q22,Try.q23,Try.q25,Try.q27,Try.q29,Try.q31,Try.underlying33,Try.q33,Try.underlying36,Try.q36,Try.underlying37,Try.q37,Try.q58]
            refine acalls_then (q2) ?_
            simp -implicitDefEqProofs only [d4,d5,d6,w0,e0,en,wd,Q0,Q1,Q2,Q3,Q4,Q5,Q6,Q7,Q8,Q9,Qa,Qb,Qc,Qd,Qe,Qf,Qg,Qh,Qi,Qj,Qk,Ql,Qm,Qn,Qo,Qp,Qq,Qr,Qs,Qt,Qu,Qv,Qw,Qx,Qy,Qz,QA,QB,QC,QD,QE,QF,QG,QH,QI,QJ,QK,QL,QM,QN,QO,QP,QQ,QR,QS,QT,QU,QV,QW,QX,QY,QZ,X0,X1,X2,X3,X4,X5,X6,X7,X8,X9,Xa,Xb,Xc,Xd,Xe,Xf,Xg,Xh,Xi,Xj,Xk,Xl,Xm,Xn,Xo,Xp,Xq,Xr,Xs,Xt,Xu,Xv,Xw,Xx,Xy,Xz,XA,XB,reduceIte,reduceCtorEq,XC,XD,XE,XF,XG,XH,XI,XJ,XK,XL,XM,XN,XO,XP,XQ,XR,XS,XT,XU,XV,XW,XX,XY,XZ,Y0,Try.q3,Try.q4,Try.q22,Try.q23,Try.q25,Try.q27,Try.q29,Try.q31,Try.underlying33,Try.q33,Try.underlying36,Try.q36,Try.underlying37,Try.q37,Try.q58]
            exact fin
      · have d4 : decide (dd ≤ g) = false := decide_eq_false hlt
        rw [if_neg hlt] at hO
        have : O = N := by omega
        subst this
        refine awp_vc (by kernel_rfl) ?_
        simp -implicitDefEqProofs only [d3,Q0,Q1,Q2,Q3,Q4,Q5,Q6,Q7,Q8,Q9,Qa,Qb,Qc,Qd,Qe,Qf,Qg,Qh,Qi,Qj,Qk,Ql,Qm,Qn,Qo,Qp,Qq,Qr,Qs,Qt,Qu,Qv,Qw,Qx,Qy,Qz,QA,QB,QC,QD,QE,QF,QG,QH,QI,QJ,QK,QL,QM,QN,QO,QP,QQ,QR,QS,QT,QU,QV,QW,QX,QY,QZ,X0,X1,X2,X3,X4,X5,X6,X7,X8,X9,Xa,Xb,Xc,Xd,Xe,Xf,Xg,Xh,Xi,Xj,Xk,Xl,Xm,Xn,Xo,Xp,Xq,Xr,Xs,Xt,Xu,Xv,Xw,Xx,Xy,Xz,XA,XB,reduceIte,reduceCtorEq,XC,XD,XE,XF,XG,XH,XI,XJ,XK,XL,XM,XN,XO,XP,XQ,XR,XS,XT,XU,XV,XW,XX,XY,XZ,Y0,Try.q3,Try.q4,Try.q22,Try.q23,Try.q25,Try.q27,Try.q29,Try.q31,Try.underlying33,Try.q33,Try.underlying36,Try.q36,Try.underlying37,Try.q37,Try.q58]
        refine acalls_then (q1) ?_
        simp -implicitDefEqProofs only [Q0,Q1,Q2,Q3,Q4,Q5,Q6,Q7,Q8,Q9,Qa,Qb,Qc,Qd,Qe,Qf,Qg,Qh,Qi,Qj,Qk,Ql,Qm,Qn,Qo,Qp,Qq,Qr,Qs,Qt,Qu,Qv,Qw,Qx,Qy,Qz,QA,QB,QC,QD,QE,QF,QG,QH,QI,QJ,QK,QL,QM,QN,QO,QP,QQ,QR,QS,QT,QU,QV,QW,QX,QY,QZ,X0,X1,X2,X3,X4,X5,X6,X7,X8,X9,Xa,Xb,Xc,Xd,Xe,Xf,Xg,Xh,Xi,Xj,Xk,Xl,Xm,Xn,Xo,Xp,Xq,Xr,Xs,Xt,Xu,Xv,Xw,Xx,Xy,Xz,XA,XB,reduceIte,reduceCtorEq,XC,XD,XE,XF,XG,XH,XI,XJ,XK,XL,XM,XN,XO,XP,XQ,XR,XS,XT,XU,XV,XW,XX,XY,XZ,Y0,Try.q3,Try.q4,Try.q22,Try.q23,Try.q25,Try.q27,Try.q29,Try.q31,Try.underlying33,Try.q33,Try.underlying36,Try.q36,Try.underlying37,Try.q37,Try.q58]
        refine acalls_then (q2) ?_
        simp -implicitDefEqProofs only [d4,w0,e0,en,wd,Q0,Q1,Q2,Q3,Q4,Q5,Q6,Q7,Q8,Q9,Qa,Qb,Qc,Qd,Qe,Qf,Qg,Qh,Qi,Qj,Qk,Ql,Qm,Qn,Qo,Qp,Qq,Qr,Qs,Qt,Qu,Qv,Qw,Qx,Qy,Qz,QA,QB,QC,QD,QE,QF,QG,QH,QI,QJ,QK,QL,QM,QN,QO,QP,QQ,QR,QS,QT,QU,QV,QW,QX,QY,QZ,X0,X1,X2,X3,X4,X5,X6,X7,X8,X9,Xa,Xb,Xc,Xd,Xe,Xf,Xg,Xh,Xi,Xj,Xk,Xl,Xm,Xn,Xo,Xp,Xq,Xr,Xs,Xt,Xu,Xv,Xw,Xx,Xy,Xz,XA,XB,reduceIte,reduceCtorEq,XC,XD,XE,XF,XG,XH,XI,XJ,XK,XL,XM,XN,XO,XP,XQ,XR,XS,XT,XU,XV,XW,XX,XY,XZ,Y0,Try.q3,Try.q4,Try.q22,Try.q23,Try.q25,Try.q27,Try.q29,Try.q31,Try.underlying33,Try.q33,Try.underlying36,Try.q36,Try.underlying37,Try.q37,Try.q58]
        exact fin
    · have d3 : decide (98 + (d : Int) < 125) = false := decide_eq_false (by omega)
      refine awp_vc (by kernel_rfl) ?_
      simp -implicitDefEqProofs only [d3,seqA_normal,Q0,Q1,Q2,Q3,Q4,Q5,Q6,Q7,Q8,Q9,Qa,Qb,Qc,Qd,Qe,Qf,Qg,Qh,Qi,Qj,Qk,Ql,Qm,Qn,Qo,Qp,Qq,Qr,Qs,Qt,Qu,Qv,Qw,Qx,Qy,Qz,QA,QB,QC,QD,QE,QF,QG,QH,QI,QJ,QK,QL,QM,QN,QO,QP,QQ,QR,QS,QT,QU,QV,QW,QX,QY,QZ,X0,X1,X2,X3,X4,X5,X6,X7,X8,X9,Xa,Xb,Xc,Xd,Xe,Xf,Xg,Xh,Xi,Xj,Xk,Xl,Xm,Xn,Xo,Xp,Xq,Xr,Xs,Xt,Xu,Xv,Xw,Xx,Xy,Xz,XA,XB,reduceIte,reduceCtorEq,XC,XD,XE,XF,XG,XH,XI,XJ,XK,XL,XM,XN,XO,XP,XQ,XR,XS,XT,XU,XV,XW,XX,XY,XZ,Y0,Try.q3,Try.q4,Try.q22,Try.q23,Try.q25,Try.q27,Try.q29,Try.q31,Try.underlying33,Try.q33,Try.underlying36,Try.q36,Try.underlying37,Try.q37,Try.q58]
      refine awp_vc (by kernel_rfl) ?_
      simp -implicitDefEqProofs only [wa,Q0,Q1,Q2,Q3,Q4,Q5,Q6,Q7,Q8,Q9,Qa,Qb,Qc,Qd,Qe,Qf,Qg,Qh,Qi,Qj,Qk,Ql,Qm,Qn,Qo,Qp,Qq,Qr,Qs,Qt,Qu,Qv,Qw,Qx,Qy,Qz,QA,QB,QC,QD,QE,QF,QG,QH,QI,QJ,QK,QL,QM,QN,QO,QP,QQ,QR,QS,QT,QU,QV,QW,QX,QY,QZ,X0,X1,X2,X3,X4,X5,X6,X7,X8,X9,Xa,Xb,Xc,Xd,Xe,Xf,Xg,Xh,Xi,Xj,Xk,Xl,Xm,Xn,Xo,Xp,Xq,Xr,Xs,Xt,Xu,Xv,Xw,Xx,Xy,Xz,XA,XB,reduceIte,reduceCtorEq,XC,XD,XE,XF,XG,XH,XI,XJ,XK,XL,XM,XN,XO,XP,XQ,XR,XS,XT,XU,XV,XW,XX,XY,XZ,Y0,Try.q3,Try.q4,Try.q22,Try.q23,Try.q25,Try.q27,Try.q29,Try.q31,Try.underlying33,Try.q33,Try.underlying36,Try.q36,Try.underlying37,Try.q37,Try.q58]
      exact ⟨a + 1, by simp, by omega, by omega⟩
  · have d2 : decide ((a : Int) < 5) = false := decide_eq_false (by omega)
    refine awp_vc (by kernel_rfl) ?_
    simp -implicitDefEqProofs only [d2,seqA_normal,Q0,Q1,Q2,Q3,Q4,Q5,Q6,Q7,Q8,Q9,Qa,Qb,Qc,Qd,Qe,Qf,Qg,Qh,Qi,Qj,Qk,Ql,Qm,Qn,Qo,Qp,Qq,Qr,Qs,Qt,Qu,Qv,Qw,Qx,Qy,Qz,QA,QB,QC,QD,QE,QF,QG,QH,QI,QJ,QK,QL,QM,QN,QO,QP,QQ,QR,QS,QT,QU,QV,QW,QX,QY,QZ,X0,X1,X2,X3,X4,X5,X6,X7,X8,X9,Xa,Xb,Xc,Xd,Xe,Xf,Xg,Xh,Xi,Xj,Xk,Xl,Xm,Xn,Xo,Xp,Xq,Xr,Xs,Xt,Xu,Xv,Xw,Xx,Xy,Xz,XA,XB,reduceIte,reduceCtorEq,XC,XD,XE,XF,XG,XH,XI,XJ,XK,XL,XM,XN,XO,XP,XQ,XR,XS,XT,XU,XV,XW,XX,XY,XZ,Y0,Try.q3,Try.q4,Try.q22,Try.q23,Try.q25,Try.q27,Try.q29,Try.q31,Try.underlying33,Try.q33,Try.underlying36,Try.q36,Try.underlying37,Try.q37,Try.q58]
    refine awp_vc (by kernel_rfl) ?_
    simp -implicitDefEqProofs only [Q0,Q1,Q2,Q3,Q4,Q5,Q6,Q7,Q8,Q9,Qa,Qb,Qc,Qd,Qe,Qf,Qg,Qh,Qi,Qj,Qk,Ql,Qm,Qn,Qo,Qp,Qq,Qr,Qs,Qt,Qu,Qv,Qw,Qx,Qy,Qz,QA,QB,QC,QD,QE,QF,QG,QH,QI,QJ,QK,QL,QM,QN,QO,QP,QQ,QR,QS,QT,QU,QV,QW,QX,QY,QZ,X0,X1,X2,X3,X4,X5,X6,X7,X8,X9,Xa,Xb,Xc,Xd,Xe,Xf,Xg,Xh,Xi,Xj,Xk,Xl,Xm,Xn,Xo,Xp,Xq,Xr,Xs,Xt,Xu,Xv,Xw,Xx,Xy,Xz,XA,XB,reduceIte,reduceCtorEq,XC,XD,XE,XF,XG,XH,XI,XJ,XK,XL,XM,XN,XO,XP,XQ,XR,XS,XT,XU,XV,XW,XX,XY,XZ,Y0,Try.q3,Try.q4,Try.q22,Try.q23,Try.q25,Try.q27,Try.q29,Try.q31,Try.underlying33,Try.q33,Try.underlying36,Try.q36,Try.underlying37,Try.q37,Try.q58]
    refine acalls_then (kL _) ?_
    simp -implicitDefEqProofs only [Q0,Q1,Q2,Q3,Q4,Q5,Q6,Q7,Q8,Q9,Qa,Qb,Qc,Qd,Qe,Qf,Qg,Qh,Qi,Qj,Qk,Ql,Qm,Qn,Qo,Qp,Qq,Qr,Qs,Qt,Qu,Qv,Qw,Qx,Qy,Qz,QA,QB,QC,QD,QE,QF,QG,QH,QI,QJ,QK,QL,QM,QN,QO,QP,QQ,QR,QS,QT,QU,QV,QW,QX,QY,QZ,X0,X1,X2,X3,X4,X5,X6,X7,X8,X9,Xa,Xb,Xc,Xd,Xe,Xf,Xg,Xh,Xi,Xj,Xk,Xl,Xm,Xn,Xo,Xp,Xq,Xr,Xs,Xt,Xu,Xv,Xw,Xx,Xy,Xz,XA,XB,reduceIte,reduceCtorEq,XC,XD,XE,XF,XG,XH,XI,XJ,XK,XL,XM,XN,XO,XP,XQ,XR,XS,XT,XU,XV,XW,XX,XY,XZ,Y0,Try.q3,Try.q4,Try.q22,Try.q23,Try.q25,Try.q27,Try.q29,Try.q31,Try.underlying33,Try.q33,Try.underlying36,Try.q36,Try.underlying37,Try.q37,Try.q58]

end Go.Proofs
