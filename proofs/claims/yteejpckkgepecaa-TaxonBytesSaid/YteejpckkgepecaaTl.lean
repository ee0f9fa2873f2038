/-
  Taxonomies: the generator; contract.
-/
import Derived.Test.YteejpckkgepecaaTk
namespace Go.Proofs
open Go.Pa
open Go.Pa renaming VB0 → Q0, VB1 → Q1, VB2 → Q2, VB3 → Q3, VB4 → Q4, VB5 → Q5, VB6 → Q6, VB7 → Q7, VB8 → Q8, VB9 → Q9, condV_bool → Qa, guardV_bool → Qb, vcS → Qc, evA → Qd, evBin → Qe, nilA → Qf, nilOf → Qg, intOp → Qh, strOp → Qi, evUn → Qj, evConv → Qk, evField → Ql, evFieldAddr → Qm, evIndexAddr → Qn, evIndex → Qo, evIndexA → Qp, bnd → Qq, evSlice → Qr, evLen → Qs, evPick → Qt, evExtract → Qu, evNilCheck → Qv, evMin → Qw, evMax → Qx, evLoadI → Qy, partsOne → QA, intsOf → QB, rowsAV → QC, evBuildSlice → QD, evBuild → QE, fillA → QF, splice → QG, evBuiltin → QH, guardD_bool → QI, dOp → QJ, cl → QK, vcLoad → QL, vcStore → QM, vcMake → QN, convA → QO, evIndexArr → QP, retA → QQ, ressA → QR, resA → QS, envOf → QT, condR_bool → QX, asgEnv → QY, parEnv → QZ, dstAt → XI, vcLook → XT, vcPut → XU, vcEnt → XV, vcESt → XW, vcMLen → XX, vcDel → XY, vcClear → XZ, vcLookD → Y0
open Go.Pa.AV renaming cell → Qz
open Go.Pa.Env renaming put → QU
open List renaming set_cons_zero → QV, set_cons_succ → QW, foldl_cons → X0, foldl_nil → X1, map_cons → X2, map_nil → X3, toList_toArray → X4, getElem?_cons_zero → X5, getElem?_cons_succ → X6, nil_append → Xa, append_nil → Xb, cons_append → Xc, singleton_append → Xd, length_cons → Xe, length_nil → Xf, all_cons → Xg, all_nil → Xh, take_succ_cons → Xi, take_zero → Xj, take_nil → Xk, drop_zero → Xl, drop_succ_cons → Xm, drop_nil → Xn, contains_nil → Xo, contains_cons → Xp
open Option renaming bind_some → X7, map_some → X8, map_none → X9
open Bool renaming or_false → Xq, false_or → Xr, or_true → Xs, true_or → Xt, false_eq_true → XC, not_true → XD, not_false → XE, and_true → XF, true_and → XG, and_self → XH
open Nat renaming reduceEqDiff → Xu, reduceAdd → Xv, reduceSub → Xw, reduceMul → Xx, reduceLT → Xy, reduceLeDiff → Xz, reduceBNe → XA, reduceBEq → XB, zero_add → XL, add_zero → XM
open UInt8 renaming reduceToNat → XJ
open Int renaming cast_ofNat_Int → XK, reduceToNat → XN, reduceLT → XO, reduceLE → XP, reduceNeg → XQ, reduceEq → XR, reduceNe → XS
set_option linter.unusedSimpArgs false
set_option linter.unusedVariables false
set_option maxRecDepth 20000
set_option maxHeartbeats 2000000

/-- Rows that stand in slices of their own. -/
inductive RowsB (s : Store) (n : Nat) : List (List AV) → List (List Int) → Prop
  | nil : RowsB s n [] []
  | snoc {rs : List (List AV)} {ps : List (List Int)} {x : AV} {p : List Int} (h : RowsB s n rs ps) (hb : BufI s n x .i64 p) : RowsB s n (rs ++ [[x]]) (ps ++ [p])

theorem RowsB.len {s : Store} {n : Nat} {rs : List (List AV)} {ps : List (List Int)} (h : RowsB s n rs ps) : rs.length = ps.length := by
  induction h with
  | nil => rfl
  | snoc h hb ih => simp [ih]

theorem RowsB.one {s : Store} {n : Nat} {rs : List (List AV)} {ps : List (List Int)} (h : RowsB s n rs ps) : ∀ r ∈ rs, r.length = 1 := by
  induction h with
  | nil => intro r hr; cases hr
  | snoc h hb ih =>
    intro r hr
    rcases List.mem_append.1 hr with h | h
    · exact ih r h
    · simp at h; subst h; rfl

theorem bufI_keepV {s s' : Store} {n : Nat} {x : AV} {k : IntKind} {p : List Int} (h : BufI s n x k p) (hk : ∀ (j : Nat) k l, s[j]? = some (.vecI k l) → s'[j]? = some (.vecI k l)) : BufI s' n x k p := by
  rcases h with h | ⟨id, h1, h2, h3⟩
  · exact .inl h
  · exact .inr ⟨id, h1, hk _ _ _ h2, h3⟩

theorem bufI_low {s : Store} {n m : Nat} {x : AV} {k : IntKind} {p : List Int} (h : BufI s n x k p) (hm : m ≤ n) : BufI s m x k p := by
  rcases h with h | ⟨id, h1, h2, h3⟩
  · exact .inl h
  · exact .inr ⟨id, h1, h2, by omega⟩

theorem RowsB.keep {s s' : Store} {n : Nat} {rs : List (List AV)} {ps : List (List Int)} (h : RowsB s n rs ps) (hk : ∀ (j : Nat) k l, s[j]? = some (.vecI k l) → s'[j]? = some (.vecI k l)) : RowsB s' n rs ps := by
  induction h with
  | nil => exact .nil
  | snoc h hb ih => exact .snoc ih (bufI_keepV hb hk)

theorem RowsB.frz {s : Store} {n : Nat} {rs : List (List AV)} {ps : List (List Int)} (h : RowsB s n rs ps) : ∀ (i : Nat) x y, rs.flatten[i]? = some x → (ps.map rowI).flatten[i]? = some y → Frz s n x y := by
  have hl : ∀ {rs : List (List AV)} {ps : List (List Int)}, RowsB s n rs ps → rs.flatten.length = rs.length ∧ (ps.map rowI).flatten.length = rs.length := by
    intro rs ps h
    induction h with
    | nil => exact ⟨rfl, rfl⟩
    | snoc h hb ih =>
      simp only [List.flatten_append, List.map_append, List.length_append, ih.1, ih.2]
      exact ⟨rfl, rfl⟩
  induction h with
  | nil => intro i x y hx; simp at hx
  | @snoc rs ps z p h hb ih =>
    intro i x y hx hy
    obtain ⟨l1, l2⟩ := hl h
    rw [List.flatten_append] at hx
    rw [List.map_append, List.flatten_append] at hy
    rcases Nat.lt_or_ge i rs.length with hi | hi
    · rw [List.getElem?_append_left (by omega)] at hx hy
      exact ih i x y hx hy
    · rw [List.getElem?_append_right (by omega)] at hx hy
      rw [l1] at hx; rw [l2] at hy
      generalize i - rs.length = j at hx hy
      match j with
      | 0 => cases hx; cases hy; exact hb.frz
      | j + 1 => cases hx

theorem genI_take (l : List Int) (most : Int) {i : Nat} (h : i < genN l most) : (genI l most).take (i + 1) = (genI l most).take i ++ [rowG (genN l most) (backG l) i (pickI l (2 + (i : Int)) 1048576)] := by
  rw [List.take_succ_eq_append_getElem (by rw [genI_len]; exact h)]
  simp [genI]

theorem r_gen (l : List Int) (hl : ∀ x ∈ l, Okk .i64 x) (most : Int) (hm : 0 < most) (hm' : most ≤ 64) (σ : Store) :
    ACalls Try.prog 10 [.ints .i64 l, .int .i64 most] σ (fun r s => r = .rows 1 ((genI l most).map rowI) ∧ s = σ) := by
  have b0 := pick_bound hl 0 hm
  have b1 := pick_bound hl 1 (m := 2) (by decide)
  have k0 := fun σ => r_pick l 0 most (by omega) σ
  have k1 := fun σ => r_pick l 1 2 (by decide) σ
  have hn : (genN l most : Int) = 1 + pickI l 0 most := by unfold genN; omega
  have w0 : IntKind.i64.wrap (1 + pickI l 0 most) = (genN l most : Int) := by rw [wrap_i64 (by omega) (by omega), hn]
  have hb : decide (pickI l 1 2 = 1) = backG l := rfl
  have hsm := genI_small hl hm hm'
  rw [genI_len] at hsm
  have hN : genN l most ≤ 64 := by omega
  refine ACalls.frozen (ACalls.mono (R := fun r s => Ext σ s ∧ ∃ rs, BufR s σ.length r 1 rs ∧ RowsB s σ.length rs (genI l most)) ?_ fun r s ⟨h1, rs, h2, h3⟩ => ⟨h1, h2.frz (by rw [List.length_map, h3.len]) (rowI_len _) h3.frz⟩)
  refine acalls_of_awp (fn := Try.f10) Try.call10 Try.func10 rfl (by simp [Try.ntmps10]) ?_
  simp only [Try.ntmps10, Try.results10]
  refine awp_seq (awp_vc (by kernel_rfl) ?_)
  simp -implicitDefEqProofs only [seqA_normal,seqA_ret,seqA_exit,Q0,Q1,Q2,Q3,Q4,Q5,Q6,Q7,Q8,Q9,Qa,Qb,Qc,Qd,Qe,Qf,Qg,Qh,Qi,Qj,Qk,Ql,Qm,Qn,Qo,Qp,Qq,Qr,Qs,Qt,Qu,Qv,Qw,Qx,Qy,Qz,QA,QB,QC,QD,QE,QF,QG,QH,QI,QJ,QK,QL,QM,QN,QO,QP,QQ,QR,QS,QT,QU,QV,QW,QX,QY,QZ,X0,X1,X2,X3,X4,X5,X6,X7,X8,X9,Xa,Xb,Xc,Xd,Xe,Xf,Xg,Xh,Xi,Xj,Xk,Xl,Xm,Xn,Xo,Xp,Xq,Xr,Xs,Xt,Xu,Xv,Xw,Xx,Xy,Xz,XA,XB,reduceIte,reduceCtorEq,XC,XD,XE,XF,XG,XH,XI,XJ,XK,XL,XM,XN,XO,XP,XQ,XR,XS,XT,XU,XV,XW,XX,XY,XZ,Y0,Try.q3,Try.q4,Try.q22,Try.q23]
  refine awp_seq (awp_vc (by kernel_rfl) ?_)
  simp -implicitDefEqProofs only [seqA_normal,seqA_ret,seqA_exit,Q0,Q1,Q2,Q3,Q4,Q5,Q6,Q7,Q8,Q9,Qa,Qb,Qc,Qd,Qe,Qf,Qg,Qh,Qi,Qj,Qk,Ql,Qm,Qn,Qo,Qp,Qq,Qr,Qs,Qt,Qu,Qv,Qw,Qx,Qy,Qz,QA,QB,QC,QD,QE,QF,QG,QH,QI,QJ,QK,QL,QM,QN,QO,QP,QQ,QR,QS,QT,QU,QV,QW,QX,QY,QZ,X0,X1,X2,X3,X4,X5,X6,X7,X8,X9,Xa,Xb,Xc,Xd,Xe,Xf,Xg,Xh,Xi,Xj,Xk,Xl,Xm,Xn,Xo,Xp,Xq,Xr,Xs,Xt,Xu,Xv,Xw,Xx,Xy,Xz,XA,XB,reduceIte,reduceCtorEq,XC,XD,XE,XF,XG,XH,XI,XJ,XK,XL,XM,XN,XO,XP,XQ,XR,XS,XT,XU,XV,XW,XX,XY,XZ,Y0,Try.q3,Try.q4,Try.q22,Try.q23]
  refine acalls_then (k0 _) ?_
  simp -implicitDefEqProofs only [seqA_normal,w0,Q0,Q1,Q2,Q3,Q4,Q5,Q6,Q7,Q8,Q9,Qa,Qb,Qc,Qd,Qe,Qf,Qg,Qh,Qi,Qj,Qk,Ql,Qm,Qn,Qo,Qp,Qq,Qr,Qs,Qt,Qu,Qv,Qw,Qx,Qy,Qz,QA,QB,QC,QD,QE,QF,QG,QH,QI,QJ,QK,QL,QM,QN,QO,QP,QQ,QR,QS,QT,QU,QV,QW,QX,QY,QZ,X0,X1,X2,X3,X4,X5,X6,X7,X8,X9,Xa,Xb,Xc,Xd,Xe,Xf,Xg,Xh,Xi,Xj,Xk,Xl,Xm,Xn,Xo,Xp,Xq,Xr,Xs,Xt,Xu,Xv,Xw,Xx,Xy,Xz,XA,XB,reduceIte,reduceCtorEq,XC,XD,XE,XF,XG,XH,XI,XJ,XK,XL,XM,XN,XO,XP,XQ,XR,XS,XT,XU,XV,XW,XX,XY,XZ,Y0,Try.q3,Try.q4,Try.q22,Try.q23]
  refine awp_seq (awp_vc (by kernel_rfl) ?_)
  refine acalls_then (k1 _) ?_
  simp -implicitDefEqProofs only [seqA_normal,hb,Q0,Q1,Q2,Q3,Q4,Q5,Q6,Q7,Q8,Q9,Qa,Qb,Qc,Qd,Qe,Qf,Qg,Qh,Qi,Qj,Qk,Ql,Qm,Qn,Qo,Qp,Qq,Qr,Qs,Qt,Qu,Qv,Qw,Qx,Qy,Qz,QA,QB,QC,QD,QE,QF,QG,QH,QI,QJ,QK,QL,QM,QN,QO,QP,QQ,QR,QS,QT,QU,QV,QW,QX,QY,QZ,X0,X1,X2,X3,X4,X5,X6,X7,X8,X9,Xa,Xb,Xc,Xd,Xe,Xf,Xg,Xh,Xi,Xj,Xk,Xl,Xm,Xn,Xo,Xp,Xq,Xr,Xs,Xt,Xu,Xv,Xw,Xx,Xy,Xz,XA,XB,reduceIte,reduceCtorEq,XC,XD,XE,XF,XG,XH,XI,XJ,XK,XL,XM,XN,XO,XP,XQ,XR,XS,XT,XU,XV,XW,XX,XY,XZ,Y0,Try.q3,Try.q4,Try.q22,Try.q23]
  refine awp_seq (awp_vc (by kernel_rfl) ?_)
  simp -implicitDefEqProofs only [seqA_normal,Q0,Q1,Q2,Q3,Q4,Q5,Q6,Q7,Q8,Q9,Qa,Qb,Qc,Qd,Qe,Qf,Qg,Qh,Qi,Qj,Qk,Ql,Qm,Qn,Qo,Qp,Qq,Qr,Qs,Qt,Qu,Qv,Qw,Qx,Qy,Qz,QA,QB,QC,QD,QE,QF,QG,QH,QI,QJ,QK,QL,QM,QN,QO,QP,QQ,QR,QS,QT,QU,QV,QW,QX,QY,QZ,X0,X1,X2,X3,X4,X5,X6,X7,X8,X9,Xa,Xb,Xc,Xd,Xe,Xf,Xg,Xh,Xi,Xj,Xk,Xl,Xm,Xn,Xo,Xp,Xq,Xr,Xs,Xt,Xu,Xv,Xw,Xx,Xy,Xz,XA,XB,reduceIte,reduceCtorEq,XC,XD,XE,XF,XG,XH,XI,XJ,XK,XL,XM,XN,XO,XP,XQ,XR,XS,XT,XU,XV,XW,XX,XY,XZ,Y0,Try.q3,Try.q4,Try.q22,Try.q23]
  refine awp_seq (awp_vc (by kernel_rfl) ?_)
  simp -implicitDefEqProofs only [seqA_normal,seqA_ret,seqA_exit,Q0,Q1,Q2,Q3,Q4,Q5,Q6,Q7,Q8,Q9,Qa,Qb,Qc,Qd,Qe,Qf,Qg,Qh,Qi,Qj,Qk,Ql,Qm,Qn,Qo,Qp,Qq,Qr,Qs,Qt,Qu,Qv,Qw,Qx,Qy,Qz,QA,QB,QC,QD,QE,QF,QG,QH,QI,QJ,QK,QL,QM,QN,QO,QP,QQ,QR,QS,QT,QU,QV,QW,QX,QY,QZ,X0,X1,X2,X3,X4,X5,X6,X7,X8,X9,Xa,Xb,Xc,Xd,Xe,Xf,Xg,Xh,Xi,Xj,Xk,Xl,Xm,Xn,Xo,Xp,Xq,Xr,Xs,Xt,Xu,Xv,Xw,Xx,Xy,Xz,XA,XB,reduceIte,reduceCtorEq,XC,XD,XE,XF,XG,XH,XI,XJ,XK,XL,XM,XN,XO,XP,XQ,XR,XS,XT,XU,XV,XW,XX,XY,XZ,Y0,Try.q3,Try.q4,Try.q22,Try.q23]
  refine awp_loopW (fun q : Nat × AV × List (List AV) => [(8, .int .i64 q.1), (7, q.2.1), (5, .int .i64 (genN l most)), (6, .bool (backG l)), (0, .ints .i64 l)])
    (fun q s => q.1 ≤ genN l most ∧ Ext σ s ∧ BufR s σ.length q.2.1 1 q.2.2 ∧ RowsB s σ.length q.2.2 ((genI l most).take q.1)) (fun q => genN l most - q.1) (0, .nils, []) (by simp [sub_cons, sub_nil, get_cons]) ⟨by simp, Ext.refl _, .inl ⟨.inl rfl, rfl⟩, .nil⟩ ?_
  rintro ⟨i, r, rs⟩ s ⟨hi, hx, hbuf, hrows⟩
  simp only at hi hbuf hrows
  have hrl := hrows.len
  have hro := hrows.one
  rw [List.length_take, genI_len, Nat.min_eq_left hi] at hrl
  by_cases hlt : i < genN l most
  · have d1 : decide ((i : Int) < (genN l most : Int)) = true := decide_eq_true (by omega)
    have ht := genI_take l most hlt
    have kk := fun σ => r_pick l (2 + (i : Int)) 1048576 (by decide) σ
    have bk := pick_bound hl (2 + (i : Int)) (m := 1048576) (by decide)
    have w2 : IntKind.i64.wrap (2 + (i : Int)) = 2 + (i : Int) := wrap_i64 (by omega) (by omega)
    have wi : IntKind.i64.wrap ((i : Int) + 1) = ((i + 1 : Nat) : Int) := by rw [wrap_i64 (by omega) (by omega)]; rfl
    generalize pickI l (2 + (i : Int)) 1048576 = K at ht kk bk
    generalize backG l = back at ht
    refine awp_seq (awp_vc (by kernel_rfl) ?_)
    simp -implicitDefEqProofs only [seqA_normal,seqA_ret,seqA_exit,d1,Q0,Q1,Q2,Q3,Q4,Q5,Q6,Q7,Q8,Q9,Qa,Qb,Qc,Qd,Qe,Qf,Qg,Qh,Qi,Qj,Qk,Ql,Qm,Qn,Qo,Qp,Qq,Qr,Qs,Qt,Qu,Qv,Qw,Qx,Qy,Qz,QA,QB,QC,QD,QE,QF,QG,QH,QI,QJ,QK,QL,QM,QN,QO,QP,QQ,QR,QS,QT,QU,QV,QW,QX,QY,QZ,X0,X1,X2,X3,X4,X5,X6,X7,X8,X9,Xa,Xb,Xc,Xd,Xe,Xf,Xg,Xh,Xi,Xj,Xk,Xl,Xm,Xn,Xo,Xp,Xq,Xr,Xs,Xt,Xu,Xv,Xw,Xx,Xy,Xz,XA,XB,reduceIte,reduceCtorEq,XC,XD,XE,XF,XG,XH,XI,XJ,XK,XL,XM,XN,XO,XP,XQ,XR,XS,XT,XU,XV,XW,XX,XY,XZ,Y0,Try.q3,Try.q4,Try.q22,Try.q23]
    refine awp_seq (awp_blk ?_)
    refine awp_seq (awp_vc (by kernel_rfl) ?_)
    simp -implicitDefEqProofs only [seqA_normal,seqA_ret,seqA_exit,w2,Q0,Q1,Q2,Q3,Q4,Q5,Q6,Q7,Q8,Q9,Qa,Qb,Qc,Qd,Qe,Qf,Qg,Qh,Qi,Qj,Qk,Ql,Qm,Qn,Qo,Qp,Qq,Qr,Qs,Qt,Qu,Qv,Qw,Qx,Qy,Qz,QA,QB,QC,QD,QE,QF,QG,QH,QI,QJ,QK,QL,QM,QN,QO,QP,QQ,QR,QS,QT,QU,QV,QW,QX,QY,QZ,X0,X1,X2,X3,X4,X5,X6,X7,X8,X9,Xa,Xb,Xc,Xd,Xe,Xf,Xg,Xh,Xi,Xj,Xk,Xl,Xm,Xn,Xo,Xp,Xq,Xr,Xs,Xt,Xu,Xv,Xw,Xx,Xy,Xz,XA,XB,reduceIte,reduceCtorEq,XC,XD,XE,XF,XG,XH,XI,XJ,XK,XL,XM,XN,XO,XP,XQ,XR,XS,XT,XU,XV,XW,XX,XY,XZ,Y0,Try.q3,Try.q4,Try.q22,Try.q23]
    refine acalls_then (kk _) ?_
    simp -implicitDefEqProofs only [seqA_normal,Q0,Q1,Q2,Q3,Q4,Q5,Q6,Q7,Q8,Q9,Qa,Qb,Qc,Qd,Qe,Qf,Qg,Qh,Qi,Qj,Qk,Ql,Qm,Qn,Qo,Qp,Qq,Qr,Qs,Qt,Qu,Qv,Qw,Qx,Qy,Qz,QA,QB,QC,QD,QE,QF,QG,QH,QI,QJ,QK,QL,QM,QN,QO,QP,QQ,QR,QS,QT,QU,QV,QW,QX,QY,QZ,X0,X1,X2,X3,X4,X5,X6,X7,X8,X9,Xa,Xb,Xc,Xd,Xe,Xf,Xg,Xh,Xi,Xj,Xk,Xl,Xm,Xn,Xo,Xp,Xq,Xr,Xs,Xt,Xu,Xv,Xw,Xx,Xy,Xz,XA,XB,reduceIte,reduceCtorEq,XC,XD,XE,XF,XG,XH,XI,XJ,XK,XL,XM,XN,XO,XP,XQ,XR,XS,XT,XU,XV,XW,XX,XY,XZ,Y0,Try.q3,Try.q4,Try.q22,Try.q23]
    refine awp_seq (awp_vc (by kernel_rfl) ?_)
    simp -implicitDefEqProofs only [seqA_normal,seqA_ret,seqA_exit,Q0,Q1,Q2,Q3,Q4,Q5,Q6,Q7,Q8,Q9,Qa,Qb,Qc,Qd,Qe,Qf,Qg,Qh,Qi,Qj,Qk,Ql,Qm,Qn,Qo,Qp,Qq,Qr,Qs,Qt,Qu,Qv,Qw,Qx,Qy,Qz,QA,QB,QC,QD,QE,QF,QG,QH,QI,QJ,QK,QL,QM,QN,QO,QP,QQ,QR,QS,QT,QU,QV,QW,QX,QY,QZ,X0,X1,X2,X3,X4,X5,X6,X7,X8,X9,Xa,Xb,Xc,Xd,Xe,Xf,Xg,Xh,Xi,Xj,Xk,Xl,Xm,Xn,Xo,Xp,Xq,Xr,Xs,Xt,Xu,Xv,Xw,Xx,Xy,Xz,XA,XB,reduceIte,reduceCtorEq,XC,XD,XE,XF,XG,XH,XI,XJ,XK,XL,XM,XN,XO,XP,XQ,XR,XS,XT,XU,XV,XW,XX,XY,XZ,Y0,Try.q3,Try.q4,Try.q22,Try.q23]
    refine awp_seq ?_
    refine awp_seq (awp_vc (by kernel_rfl) ?_)
    simp -implicitDefEqProofs only [seqA_normal,seqA_ret,seqA_exit,Q0,Q1,Q2,Q3,Q4,Q5,Q6,Q7,Q8,Q9,Qa,Qb,Qc,Qd,Qe,Qf,Qg,Qh,Qi,Qj,Qk,Ql,Qm,Qn,Qo,Qp,Qq,Qr,Qs,Qt,Qu,Qv,Qw,Qx,Qy,Qz,QA,QB,QC,QD,QE,QF,QG,QH,QI,QJ,QK,QL,QM,QN,QO,QP,QQ,QR,QS,QT,QU,QV,QW,QX,QY,QZ,X0,X1,X2,X3,X4,X5,X6,X7,X8,X9,Xa,Xb,Xc,Xd,Xe,Xf,Xg,Xh,Xi,Xj,Xk,Xl,Xm,Xn,Xo,Xp,Xq,Xr,Xs,Xt,Xu,Xv,Xw,Xx,Xy,Xz,XA,XB,reduceIte,reduceCtorEq,XC,XD,XE,XF,XG,XH,XI,XJ,XK,XL,XM,XN,XO,XP,XQ,XR,XS,XT,XU,XV,XW,XX,XY,XZ,Y0,Try.q3,Try.q4,Try.q22,Try.q23]
    refine awp_blk ?_
    refine awp_loopW (fun q : Nat × AV => [(11, .int .i64 q.1), (10, q.2), (9, .int .i64 K), (8, .int .i64 i), (7, r), (5, .int .i64 (genN l most)), (6, .bool back), (0, .ints .i64 l)])
      (fun q s1 => q.1 ≤ genN l most ∧ Ext s s1 ∧ BufI s1 s.length q.2 .i64 (filtI q.1 (takeG back i K))) (fun q => genN l most - q.1) (0, .nils) (by simp [sub_cons, sub_nil, get_cons]) ⟨by simp, Ext.refl _, .nil⟩ ?_
    rintro ⟨c, x⟩ s1 ⟨hc, hx1, hb1⟩
    simp only at hc hb1
    by_cases hlc : c < genN l most
    · have d2 : decide ((c : Int) < (genN l most : Int)) = true := decide_eq_true (by omega)
      have wc : IntKind.i64.wrap ((c : Int) + 1) = ((c + 1 : Nat) : Int) := by rw [wrap_i64 (by omega) (by omega)]; rfl
      have w7 : IntKind.i64.wrap (7 * (c : Int)) = 7 * (c : Int) := wrap_i64 (by omega) (by omega)
      have w8 : IntKind.i64.wrap (1 + 7 * (c : Int)) = 1 + 7 * (c : Int) := wrap_i64 (by omega) (by omega)
      have nz : (1 + 7 * (c : Int)) ≠ 0 := by omega
      have hq := Int.tdiv_eq_ediv_of_nonneg (b := 1 + 7 * (c : Int)) bk.1
      have hq1 : 0 ≤ K / (1 + 7 * (c : Int)) := Int.ediv_nonneg bk.1 (by omega)
      have hq2 : K / (1 + 7 * (c : Int)) ≤ K := Int.ediv_le_self _ bk.1
      have wq : IntKind.i64.wrap (K.tdiv (1 + 7 * (c : Int))) = K.tdiv (1 + 7 * (c : Int)) := wrap_i64 (by omega) (by omega)
      have hs := filtI_succ c (takeG back i K)
      have hfl := filtI_len c (takeG back i K)
      obtain ⟨Bv, hB⟩ : ∃ v, (if back then decide ((i : Int) < c) else decide ((c : Int) < (i : Int))) = v := ⟨_, rfl⟩
      obtain ⟨Mv, hM⟩ : ∃ v, decide ((K.tdiv (1 + 7 * (c : Int))).tmod 3 = 0) = v := ⟨_, rfl⟩
      have ht2 : takeG back i K (c : Int) = (Bv && Mv) := by unfold takeG; rw [hB, hM]
      rw [ht2] at hs
      refine awp_seq (awp_vc (by kernel_rfl) ?_)
      simp -implicitDefEqProofs only [seqA_normal,seqA_ret,seqA_exit,d2,Q0,Q1,Q2,Q3,Q4,Q5,Q6,Q7,Q8,Q9,Qa,Qb,Qc,Qd,Qe,Qf,Qg,Qh,Qi,Qj,Qk,Ql,Qm,Qn,Qo,Qp,Qq,Qr,Qs,Qt,Qu,Qv,Qw,Qx,Qy,Qz,QA,QB,QC,QD,QE,QF,QG,QH,QI,QJ,QK,QL,QM,QN,QO,QP,QQ,QR,QS,QT,QU,QV,QW,QX,QY,QZ,X0,X1,X2,X3,X4,X5,X6,X7,X8,X9,Xa,Xb,Xc,Xd,Xe,Xf,Xg,Xh,Xi,Xj,Xk,Xl,Xm,Xn,Xo,Xp,Xq,Xr,Xs,Xt,Xu,Xv,Xw,Xx,Xy,Xz,XA,XB,reduceIte,reduceCtorEq,XC,XD,XE,XF,XG,XH,XI,XJ,XK,XL,XM,XN,XO,XP,XQ,XR,XS,XT,XU,XV,XW,XX,XY,XZ,Y0,Try.q3,Try.q4,Try.q22,Try.q23]
      refine awp_vc (by kernel_rfl) ?_
      have n3 : (3 : Int) ≠ 0 := by decide
      cases back <;> simp only [if_true, Bool.false_eq_true, if_false] at hB <;> cases Bv <;> cases Mv <;> simp -implicitDefEqProofs only [hB,hM,w7,w8,wq,wc,nz,n3,Q0,Q1,Q2,Q3,Q4,Q5,Q6,Q7,Q8,Q9,Qa,Qb,Qc,Qd,Qe,Qf,Qg,Qh,Qi,Qj,Qk,Ql,Qm,Qn,Qo,Qp,Qq,Qr,Qs,Qt,Qu,Qv,Qw,Qx,Qy,Qz,QA,QB,QC,QD,QE,QF,QG,QH,QI,QJ,QK,QL,QM,QN,QO,QP,QQ,QR,QS,QT,QU,QV,QW,QX,QY,QZ,X0,X1,X2,X3,X4,X5,X6,X7,X8,X9,Xa,Xb,Xc,Xd,Xe,Xf,Xg,Xh,Xi,Xj,Xk,Xl,Xm,Xn,Xo,Xp,Xq,Xr,Xs,Xt,Xu,Xv,Xw,Xx,Xy,Xz,XA,XB,reduceIte,reduceCtorEq,XC,XD,XE,XF,XG,XH,XI,XJ,XK,XL,XM,XN,XO,XP,XQ,XR,XS,XT,XU,XV,XW,XX,XY,XZ,Y0,Try.q3,Try.q4,Try.q22,Try.q23] <;>
        first
        | exact ⟨(c + 1, x), by simp, ⟨by simp only; omega, hx1, by simp only; rw [hs]; simpa using hb1⟩, by simp only; omega⟩
        | (refine append_buf Try.sl22 (by simp [Try.bt3]) hx1 hb1 (.inl rfl) (by simp [appFits, Try.bt3]; omega) fun r2 s2 hx2 hb2 => ?_
           simp -implicitDefEqProofs only [wc,Q0,Q1,Q2,Q3,Q4,Q5,Q6,Q7,Q8,Q9,Qa,Qb,Qc,Qd,Qe,Qf,Qg,Qh,Qi,Qj,Qk,Ql,Qm,Qn,Qo,Qp,Qq,Qr,Qs,Qt,Qu,Qv,Qw,Qx,Qy,Qz,QA,QB,QC,QD,QE,QF,QG,QH,QI,QJ,QK,QL,QM,QN,QO,QP,QQ,QR,QS,QT,QU,QV,QW,QX,QY,QZ,X0,X1,X2,X3,X4,X5,X6,X7,X8,X9,Xa,Xb,Xc,Xd,Xe,Xf,Xg,Xh,Xi,Xj,Xk,Xl,Xm,Xn,Xo,Xp,Xq,Xr,Xs,Xt,Xu,Xv,Xw,Xx,Xy,Xz,XA,XB,reduceIte,reduceCtorEq,XC,XD,XE,XF,XG,XH,XI,XJ,XK,XL,XM,XN,XO,XP,XQ,XR,XS,XT,XU,XV,XW,XX,XY,XZ,Y0,Try.q3,Try.q4,Try.q22,Try.q23]
           exact ⟨(c + 1, r2), by simp, ⟨by simp only; omega, hx2, by simp only; rw [hs]; exact hb2⟩, by simp only; omega⟩)
    · have d2 : decide ((c : Int) < (genN l most : Int)) = false := decide_eq_false (by omega)
      have : c = genN l most := by omega
      subst this
      have hcx := hb1.cells
      have hrv : rowsAV 1 [[x]] = .rows 1 [[x]] := by rcases hb1 with ⟨h | h, -⟩ | ⟨_, h, -, -⟩ <;> (subst h; rfl)
      refine awp_vc (by kernel_rfl) ?_
      simp -implicitDefEqProofs only [d2,seqA_normal,Q0,Q1,Q2,Q3,Q4,Q5,Q6,Q7,Q8,Q9,Qa,Qb,Qc,Qd,Qe,Qf,Qg,Qh,Qi,Qj,Qk,Ql,Qm,Qn,Qo,Qp,Qq,Qr,Qs,Qt,Qu,Qv,Qw,Qx,Qy,Qz,QA,QB,QC,QD,QE,QF,QG,QH,QI,QJ,QK,QL,QM,QN,QO,QP,QQ,QR,QS,QT,QU,QV,QW,QX,QY,QZ,X0,X1,X2,X3,X4,X5,X6,X7,X8,X9,Xa,Xb,Xc,Xd,Xe,Xf,Xg,Xh,Xi,Xj,Xk,Xl,Xm,Xn,Xo,Xp,Xq,Xr,Xs,Xt,Xu,Xv,Xw,Xx,Xy,Xz,XA,XB,reduceIte,reduceCtorEq,XC,XD,XE,XF,XG,XH,XI,XJ,XK,XL,XM,XN,XO,XP,XQ,XR,XS,XT,XU,XV,XW,XX,XY,XZ,Y0,Try.q3,Try.q4,Try.q22,Try.q23]
      refine awp_vc (by kernel_rfl) ?_
      simp -implicitDefEqProofs only [hcx,hrv,Q0,Q1,Q2,Q3,Q4,Q5,Q6,Q7,Q8,Q9,Qa,Qb,Qc,Qd,Qe,Qf,Qg,Qh,Qi,Qj,Qk,Ql,Qm,Qn,Qo,Qp,Qq,Qr,Qs,Qt,Qu,Qv,Qw,Qx,Qy,Qz,QA,QB,QD,QE,QF,QG,QH,QI,QJ,QK,QL,QM,QN,QO,QP,QQ,QR,QS,QT,QU,QV,QW,QX,QY,QZ,X0,X1,X2,X3,X4,X5,X6,X7,X8,X9,Xa,Xb,Xc,Xd,Xe,Xf,Xg,Xh,Xi,Xj,Xk,Xl,Xm,Xn,Xo,Xp,Xq,Xr,Xs,Xt,Xu,Xv,Xw,Xx,Xy,Xz,XA,XB,reduceIte,reduceCtorEq,XC,XD,XE,XF,XG,XH,XI,XJ,XK,XL,XM,XN,XO,XP,XQ,XR,XS,XT,XU,XV,XW,XX,XY,XZ,Y0,Try.q3,Try.q4,Try.q22,Try.q23]
      refine append_bufR2 (σ := σ) Try.sl23 (by simp [Try.bt22]) (hx.trans hx1) (hbuf.grow hx1) rfl (by simp) (by simp only [appFits, Try.bt22, List.length_cons, List.length_nil]; omega) fun r3 s3 hx3 hb3 hk3 => ?_
      have hkv : ∀ (j : Nat) k l, s1[j]? = some (.vecI k l) → s3[j]? = some (.vecI k l) := fun j k l h => hk3 j _ h (by intro a b; simp)
      have hr3 := (RowsB.snoc (hrows.keep fun j k l h => hx1 j _ h) (bufI_low hb1 hx.len)).keep hkv
      simp -implicitDefEqProofs only [seqA_normal,Q0,Q1,Q2,Q3,Q4,Q5,Q6,Q7,Q8,Q9,Qa,Qb,Qc,Qd,Qe,Qf,Qg,Qh,Qi,Qj,Qk,Ql,Qm,Qn,Qo,Qp,Qq,Qr,Qs,Qt,Qu,Qv,Qw,Qx,Qy,Qz,QA,QB,QC,QD,QE,QF,QG,QH,QI,QJ,QK,QL,QM,QN,QO,QP,QQ,QR,QS,QT,QU,QV,QW,QX,QY,QZ,X0,X1,X2,X3,X4,X5,X6,X7,X8,X9,Xa,Xb,Xc,Xd,Xe,Xf,Xg,Xh,Xi,Xj,Xk,Xl,Xm,Xn,Xo,Xp,Xq,Xr,Xs,Xt,Xu,Xv,Xw,Xx,Xy,Xz,XA,XB,reduceIte,reduceCtorEq,XC,XD,XE,XF,XG,XH,XI,XJ,XK,XL,XM,XN,XO,XP,XQ,XR,XS,XT,XU,XV,XW,XX,XY,XZ,Y0,Try.q3,Try.q4,Try.q22,Try.q23]
      refine awp_vc (by kernel_rfl) ?_
      simp -implicitDefEqProofs only [wi,Q0,Q1,Q2,Q3,Q4,Q5,Q6,Q7,Q8,Q9,Qa,Qb,Qc,Qd,Qe,Qf,Qg,Qh,Qi,Qj,Qk,Ql,Qm,Qn,Qo,Qp,Qq,Qr,Qs,Qt,Qu,Qv,Qw,Qx,Qy,Qz,QA,QB,QC,QD,QE,QF,QG,QH,QI,QJ,QK,QL,QM,QN,QO,QP,QQ,QR,QS,QT,QU,QV,QW,QX,QY,QZ,X0,X1,X2,X3,X4,X5,X6,X7,X8,X9,Xa,Xb,Xc,Xd,Xe,Xf,Xg,Xh,Xi,Xj,Xk,Xl,Xm,Xn,Xo,Xp,Xq,Xr,Xs,Xt,Xu,Xv,Xw,Xx,Xy,Xz,XA,XB,reduceIte,reduceCtorEq,XC,XD,XE,XF,XG,XH,XI,XJ,XK,XL,XM,XN,XO,XP,XQ,XR,XS,XT,XU,XV,XW,XX,XY,XZ,Y0,Try.q3,Try.q4,Try.q22,Try.q23]
      exact ⟨(i + 1, r3, rs ++ [[x]]), by simp, ⟨by simp only; omega, hx3, hb3, by simp only; rw [ht]; exact hr3⟩, by simp only; omega⟩
  · have d1 : decide ((i : Int) < (genN l most : Int)) = false := decide_eq_false (by omega)
    have : i = genN l most := by omega
    subst this
    refine awp_vc (by kernel_rfl) ?_
    simp -implicitDefEqProofs only [d1,seqA_normal,Q0,Q1,Q2,Q3,Q4,Q5,Q6,Q7,Q8,Q9,Qa,Qb,Qc,Qd,Qe,Qf,Qg,Qh,Qi,Qj,Qk,Ql,Qm,Qn,Qo,Qp,Qq,Qr,Qs,Qt,Qu,Qv,Qw,Qx,Qy,Qz,QA,QB,QC,QD,QE,QF,QG,QH,QI,QJ,QK,QL,QM,QN,QO,QP,QQ,QR,QS,QT,QU,QV,QW,QX,QY,QZ,X0,X1,X2,X3,X4,X5,X6,X7,X8,X9,Xa,Xb,Xc,Xd,Xe,Xf,Xg,Xh,Xi,Xj,Xk,Xl,Xm,Xn,Xo,Xp,Xq,Xr,Xs,Xt,Xu,Xv,Xw,Xx,Xy,Xz,XA,XB,reduceIte,reduceCtorEq,XC,XD,XE,XF,XG,XH,XI,XJ,XK,XL,XM,XN,XO,XP,XQ,XR,XS,XT,XU,XV,XW,XX,XY,XZ,Y0,Try.q3,Try.q4,Try.q22,Try.q23]
    refine awp_vc (by kernel_rfl) ?_
    simp -implicitDefEqProofs only [Q0,Q1,Q2,Q3,Q4,Q5,Q6,Q7,Q8,Q9,Qa,Qb,Qc,Qd,Qe,Qf,Qg,Qh,Qi,Qj,Qk,Ql,Qm,Qn,Qo,Qp,Qq,Qr,Qs,Qt,Qu,Qv,Qw,Qx,Qy,Qz,QA,QB,QC,QD,QE,QF,QG,QH,QI,QJ,QK,QL,QM,QN,QO,QP,QQ,QR,QS,QT,QU,QV,QW,QX,QY,QZ,X0,X1,X2,X3,X4,X5,X6,X7,X8,X9,Xa,Xb,Xc,Xd,Xe,Xf,Xg,Xh,Xi,Xj,Xk,Xl,Xm,Xn,Xo,Xp,Xq,Xr,Xs,Xt,Xu,Xv,Xw,Xx,Xy,Xz,XA,XB,reduceIte,reduceCtorEq,XC,XD,XE,XF,XG,XH,XI,XJ,XK,XL,XM,XN,XO,XP,XQ,XR,XS,XT,XU,XV,XW,XX,XY,XZ,Y0,Try.q3,Try.q4,Try.q22,Try.q23]
    exact ⟨hx, rs, hbuf, by rwa [List.take_of_length_le (by rw [genI_len]; exact Nat.le_refl _)] at hrows⟩

end Go.Proofs
