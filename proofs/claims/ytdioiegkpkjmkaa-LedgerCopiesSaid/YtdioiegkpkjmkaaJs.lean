/-
  The ledger: entries of the program; the example of the section; contracts.
-/
import Derived.Test.YtdioiegkpkjmkaaJr
namespace Go.Proofs
open Go.Pa
open Go.Pa renaming VB0 → Q0, VB1 → Q1, VB2 → Q2, VB3 → Q3, VB4 → Q4, VB5 → Q5, VB6 → Q6, VB7 → Q7, VB8 → Q8, VB9 → Q9, condV_bool → Qa, guardV_bool → Qb, vcS → Qc, evA → Qd, evBin → Qe, nilA → Qf, nilOf → Qg, intOp → Qh, strOp → Qi, evUn → Qj, evConv → Qk, evField → Ql, evFieldAddr → Qm, evIndexAddr → Qn, evIndex → Qo, evIndexA → Qp, bnd → Qq, evSlice → Qr, evLen → Qs, evPick → Qt, evExtract → Qu, evNilCheck → Qv, evMin → Qw, evMax → Qx, evLoadI → Qy, partsOne → QA, intsOf → QB, rowsAV → QC, evBuildSlice → QD, evBuild → QE, fillA → QF, splice → QG, evBuiltin → QH, guardD_bool → QI, dOp → QJ, cl → QK, vcLoad → QL, vcStore → QM, vcMake → QN, convA → QO, evIndexArr → QP, retA → QQ, ressA → QR, resA → QS, envOf → QT, condR_bool → QX, asgEnv → QY, parEnv → QZ, dstAt → XI, vcLook → XT, vcPut → XU, vcEnt → XV, vcESt → XW, vcMLen → XX, vcDel → XY, vcClear → XZ, vcLookD → Y0
open Go.Pa.AV renaming cell → Qz
open Go.Pa.Env renaming put → QU
open List renaming set_cons_zero → QV, set_cons_succ → QW, foldl_cons → X0, foldl_nil → X1, map_cons → X2, map_nil → X3, toList_toArray → X4, getElem?_cons_zero → X5, getElem?_cons_succ → X6, nil_append → Xa, append_nil → Xb, cons_append → Xc, singleton_append → Xd, length_cons → Xe, length_nil → Xf, all_cons → Xg, all_nil → Xh, take_succ_cons → Xi, take_zero → Xj, take_nil → Xk, drop_zero → Xl, drop_succ_cons → Xm, drop_nil → Xn, contains_nil → Xo, contains_cons → Xp
open Option renaming bind_some → X7, map_some → X8, map_none → X9
open Bool renaming or_false → Xq, false_or → Xr, or_true → Xs, true_or → Xt, false_eq_true → XC, not_true → XD, not_false → XE, and_true → XF, true_and → XG, and_self → XH
open Nat renaming reduceEqDiff → Xu, reduceAdd → Xv, reduceSub → Xw, reduceMul → Xx, reduceLT → Xy, reduceLeDiff → Xz, reduceBNe → XA, reduceBEq → XB, zero_add → XL, add_zero → XM
open UInt8 renaming reduceToNat → XJ
open Int renaming cast_ofNat_Int → XK, reduceToNat → XN, reduceLT → XO, reduceLE → XP, reduceNeg → XQ, reduceEq → XR, reduceNe → XS
set_option linter.unusedSimpArgs false
set_option linter.unusedVariables false
set_option maxRecDepth 20000
set_option maxHeartbeats 4000000

theorem map_take1 (es : List Ent) {i : Nat} (h : i < es.length) : (es.take (i + 1)).map entA = (es.take i).map entA ++ [entA es[i]] := by
  rw [List.take_succ_eq_append_getElem h, List.map_append]; rfl

theorem c_real (es : List Ent) (hl : es.length ≤ 20000) (σ : Store) : ACalls Try.prog 13 [esV es] σ (fun r s => r = esV es ∧ s = σ) := by
  refine ACalls.frozen (ACalls.mono (R := fun r s => Ext σ s ∧ BufR s σ.length r 6 (es.map entA)) ?_ fun r s h => ⟨h.1, bufR_val h.2⟩)
  have lm : (es.map entA).length = es.length := List.length_map _
  refine acalls_of_vc (fn := Try.f13) Try.call13 Try.func13 rfl (by kernel_rfl) (by simp [Try.ntmps13]) ?_; simp -implicitDefEqProofs only [Try.ntmps13,Try.results13,Q0,Q1,Q2,Q3,Q4,Q5,Q6,Q7,Q8,Q9,Qa,Qb,Qc,Qd,Qe,Qf,Qg,Qh,Qi,Qj,Qk,Ql,Qm,Qn,Qo,Qp,Qq,Qr,Qs,Qt,Qu,Qv,Qw,Qx,Qy,Qz,QA,QB,QC,QD,QE,QF,QG,QH,QI,QJ,QK,QL,QM,QN,QO,QP,QQ,QR,QS,QT,QU,QV,QW,QX,QY,QZ,X0,X1,X2,X3,X4,X5,X6,X7,X8,X9,Xa,Xb,Xc,Xd,Xe,Xf,Xg,Xh,Xi,Xj,Xk,Xl,Xm,Xn,Xo,Xp,Xq,Xr,Xs,Xt,Xu,Xv,Xw,Xx,Xy,Xz,XA,XB,reduceIte,reduceCtorEq,XC,XD,XE,XF,XG,XH,XI,XJ,XK,XL,XM,XN,XO,XP,XQ,XR,XS,XT,XU,XV,XW,XX,XY,XZ,Y0,Try.q3,Try.q4,Try.q29,Try.q31,Try.underlying36,Try.q36,Try.underlying37,Try.q37]
  refine awp_loop (fun q : Nat × AV => [(4, .int .i64 q.1), (3, q.2), (0, esV es)]) (fun q s => q.1 ≤ es.length ∧ Ext σ s ∧ BufR s σ.length q.2 6 ((es.take q.1).map entA)) (fun q => es.length - q.1) (0, .nils) (by kernel_rfl) (by simp [sub_cons, sub_nil, get_cons]) ⟨by simp, .refl _, .inl ⟨.inl rfl, rfl⟩⟩ ?_
  rintro ⟨i, r⟩ s ⟨hi, hx, hbuf⟩
  simp only at hi hbuf
  by_cases hlt : i < es.length
  · have d1 : decide ((i : Int) < (es.length : Int)) = true := decide_eq_true (by omega)
    have hrow : (es.map entA).getD (i : Int).toNat [] = entA es[i] := by rw [Int.toNat_natCast, getD_get (by simpa using hlt)]; simp
    have wi : IntKind.i64.wrap ((i : Int) + 1) = ((i + 1 : Nat) : Int) := by rw [wrap_i64 (by omega) (by omega)]; rfl
    have bi : (0 : Int) ≤ (i : Int) ∧ (i : Int) < (es.length : Int) := by omega
    have ht := map_take1 es hlt
    have hle : ((es.take i).map entA).length = i := by rw [List.length_map, List.length_take]; omega
    generalize es[i] = e at *
    have hrow2 : (es.map entA).getD (i : Int).toNat [] = [.int .i64 e.day, .int .i64 e.fr, .int .i64 e.to, .int .i64 e.cur, .int .i64 e.amt, .int .i64 e.note] := hrow
    simp -implicitDefEqProofs only [lm,d1,hrow2,Q0,Q1,Q2,Q3,Q4,Q5,Q6,Q7,Q8,Q9,Qa,Qb,Qc,Qd,Qe,Qf,Qg,Qh,Qi,Qj,Qk,Ql,Qm,Qn,Qo,Qp,Qq,Qr,Qs,Qt,Qu,Qv,Qw,Qx,Qy,Qz,QA,QB,QC,QD,QE,QF,QG,QH,QI,QJ,QK,QL,QM,QN,QO,QP,QQ,QR,QS,QT,QU,QV,QW,QX,QY,QZ,X0,X1,X2,X3,X4,X5,X6,X7,X8,X9,Xa,Xb,Xc,Xd,Xe,Xf,Xg,Xh,Xi,Xj,Xk,Xl,Xm,Xn,Xo,Xp,Xq,Xr,Xs,Xt,Xu,Xv,Xw,Xx,Xy,Xz,XA,XB,reduceIte,reduceCtorEq,XC,XD,XE,XF,XG,XH,XI,XJ,XK,XL,XM,XN,XO,XP,XQ,XR,XS,XT,XU,XV,XW,XX,XY,XZ,Y0,Try.q3,Try.q4,Try.q29,Try.q31,Try.underlying36,Try.q36,Try.underlying37,Try.q37]
    refine ⟨bi, ?_⟩
    refine append_bufR (l' := [entA e]) Try.sl29 (by simp [Try.bt37]) hx hbuf rfl (by intro r hr; simp at hr; subst hr; rfl) (by simp only [appFits, Try.bt37, hle, List.length_cons, List.length_nil]; omega) fun r2 s2 hx2 hb2 => ?_
    simp -implicitDefEqProofs only [wi,Q0,Q1,Q2,Q3,Q4,Q5,Q6,Q7,Q8,Q9,Qa,Qb,Qc,Qd,Qe,Qf,Qg,Qh,Qi,Qj,Qk,Ql,Qm,Qn,Qo,Qp,Qq,Qr,Qs,Qt,Qu,Qv,Qw,Qx,Qy,Qz,QA,QB,QC,QD,QE,QF,QG,QH,QI,QJ,QK,QL,QM,QN,QO,QP,QQ,QR,QS,QT,QU,QV,QW,QX,QY,QZ,X0,X1,X2,X3,X4,X5,X6,X7,X8,X9,Xa,Xb,Xc,Xd,Xe,Xf,Xg,Xh,Xi,Xj,Xk,Xl,Xm,Xn,Xo,Xp,Xq,Xr,Xs,Xt,Xu,Xv,Xw,Xx,Xy,Xz,XA,XB,reduceIte,reduceCtorEq,XC,XD,XE,XF,XG,XH,XI,XJ,XK,XL,XM,XN,XO,XP,XQ,XR,XS,XT,XU,XV,XW,XX,XY,XZ,Y0,Try.q3,Try.q4,Try.q29,Try.q31,Try.underlying36,Try.q36,Try.underlying37,Try.q37]
    exact ⟨(i + 1, r2), ⟨rfl, rfl⟩, ⟨by simp only; omega, hx2, by simp only; rw [ht]; exact hb2⟩, by simp only; omega⟩
  · have d1 : decide ((i : Int) < (es.length : Int)) = false := decide_eq_false (by omega)
    rw [List.take_of_length_le (by omega)] at hbuf
    simp -implicitDefEqProofs only [lm,d1,Q0,Q1,Q2,Q3,Q4,Q5,Q6,Q7,Q8,Q9,Qa,Qb,Qc,Qd,Qe,Qf,Qg,Qh,Qi,Qj,Qk,Ql,Qm,Qn,Qo,Qp,Qq,Qr,Qs,Qt,Qu,Qv,Qw,Qx,Qy,Qz,QA,QB,QC,QD,QE,QF,QG,QH,QI,QJ,QK,QL,QM,QN,QO,QP,QQ,QR,QS,QT,QU,QV,QW,QX,QY,QZ,X0,X1,X2,X3,X4,X5,X6,X7,X8,X9,Xa,Xb,Xc,Xd,Xe,Xf,Xg,Xh,Xi,Xj,Xk,Xl,Xm,Xn,Xo,Xp,Xq,Xr,Xs,Xt,Xu,Xv,Xw,Xx,Xy,Xz,XA,XB,reduceIte,reduceCtorEq,XC,XD,XE,XF,XG,XH,XI,XJ,XK,XL,XM,XN,XO,XP,XQ,XR,XS,XT,XU,XV,XW,XX,XY,XZ,Y0,Try.q3,Try.q4,Try.q29,Try.q31,Try.underlying36,Try.q36,Try.underlying37,Try.q37]
    exact ⟨hx, hbuf⟩

/-! ### The example -/

theorem balP_cons (e : Ent) (l : List Ent) (a c : Int) : balP (e :: l) a c = net e a c + balP l a c := rfl
theorem bal_cons (e : Ent) (l : List Ent) (a c d : Int) : bal (e :: l) a c d = (if e.day ≤ d then net e a c else 0) + bal l a c d := by
  unfold bal
  rw [List.filter_cons]
  by_cases h : e.day ≤ d
  · rw [if_pos (decide_eq_true h), if_pos h]; rfl
  · rw [if_neg (by rw [decide_eq_false h]; decide), if_neg h, Int.zero_add]
theorem bal_nil (a c d : Int) : bal [] a c d = 0 := rfl

abbrev X1e : Ent := ⟨5, 0, 1, 0, 100, 0⟩
abbrev X2e : Ent := ⟨5, 1, 2, 0, 60, 0⟩
abbrev X3e : Ent := ⟨4, 1, 2, 0, 60, 0⟩
abbrev X4e : Ent := ⟨3, 0, 1, 0, 100, 0⟩

theorem net_at (e : Ent) (a c : Int) : (e.cur ≠ c → net e a c = 0) ∧ (e.cur = c → e.fr ≠ e.to → (a = e.to → net e a c = e.amt) ∧ (a = e.fr → net e a c = -e.amt) ∧ (a ≠ e.to → a ≠ e.fr → net e a c = 0)) := by
  unfold net
  refine ⟨fun h => if_neg h, fun h hn => ⟨fun h1 => ?_, fun h1 => ?_, fun h1 h2 => ?_⟩⟩
  · rw [if_pos h, if_pos h1.symm, if_neg (by rw [h1]; exact hn)]; omega
  · rw [if_pos h, if_neg (by rw [h1]; exact fun e => hn e.symm), if_pos h1.symm]; omega
  · rw [if_pos h, if_neg (fun e => h1 e.symm), if_neg (fun e => h2 e.symm)]; rfl

theorem snd1 : Snd [X1e] := by
  intro a c d ha
  rw [bal_cons, bal_nil]
  have := net_at X1e a c
  simp only [X1e] at *
  split <;> by_cases hc : (0 : Int) = c <;> by_cases h1 : a = 1 <;> by_cases h2 : a = 2 <;> simp_all <;> omega
theorem snd2 : Snd [X1e, X2e] := by
  intro a c d ha
  rw [bal_cons, bal_cons, bal_nil]
  have k1 := net_at X1e a c
  have k2 := net_at X2e a c
  simp only [X1e, X2e] at *
  split <;> by_cases hc : (0 : Int) = c <;> by_cases h1 : a = 1 <;> by_cases h2 : a = 2 <;> simp_all <;> omega

theorem snd3 : ¬ Snd ([X1e, X2e] ++ [X3e]) := by
  intro h
  have := h 1 0 4 (by decide)
  rw [List.cons_append, List.cons_append, List.nil_append, bal_cons, bal_cons, bal_cons, bal_nil] at this
  simp [net] at this
theorem snd4 : Snd ([X1e, X2e] ++ [X4e]) := by
  intro a c d ha
  rw [List.cons_append, List.cons_append, List.nil_append, bal_cons, bal_cons, bal_cons, bal_nil]
  have k1 := net_at X1e a c
  have k2 := net_at X2e a c
  have k3 := net_at X4e a c
  simp only [X1e, X2e, X4e] at *
  by_cases h5 : 5 ≤ d <;> by_cases h3 : 3 ≤ d <;> by_cases hc : (0 : Int) = c <;> by_cases h1 : a = 1 <;> by_cases h2 : a = 2 <;> simp_all <;> omega
theorem snd5 : Snd ([X1e, X2e] ++ [X4e] ++ [X3e]) := by
  intro a c d ha
  show 0 ≤ bal [X1e, X2e, X4e, X3e] a c d
  rw [bal_cons, bal_cons, bal_cons, bal_cons, bal_nil]
  have k1 := net_at X1e a c
  have k2 := net_at X2e a c
  have k3 := net_at X4e a c
  have k4 := net_at X3e a c
  simp only [X1e, X2e, X4e, X3e] at *
  by_cases h5 : 5 ≤ d <;> by_cases h4 : 4 ≤ d <;> by_cases h3 : 3 ≤ d <;> by_cases hc : (0 : Int) = c <;> by_cases h1 : a = 1 <;> by_cases h2 : a = 2 <;> simp_all <;> omega

theorem post_ok {es e : List Ent} (hv : (e.any fun x => !valB x) = false) (hl : ¬ 16384 < (es ++ e).length) (hs : Snd (es ++ e)) : postR es e = (0, es ++ e) := by
  unfold postR addR
  rw [if_neg (by rw [hv]; decide), if_neg hl, if_neg (by rw [sndB_t hs]; decide)]
theorem post_short {es e : List Ent} (hv : (e.any fun x => !valB x) = false) (hl : ¬ 16384 < (es ++ e).length) (hs : ¬ Snd (es ++ e)) : postR es e = (16, es) := by
  unfold postR addR
  rw [if_neg (by rw [hv]; decide), if_neg hl, if_pos (sndB_f hs)]

theorem val1 : Val X1e := valB_iff.1 (by decide)
theorem val2 : Val X2e := valB_iff.1 (by decide)
theorem val3 : Val X3e := valB_iff.1 (by decide)
theorem val4 : Val X4e := valB_iff.1 (by decide)

theorem lives16 (σ : Store) : ACalls Try.prog 15 [] σ (fun r s => r = .bool true ∧ s = σ) := by
  refine ACalls.frozen (ACalls.mono (R := fun r s => r = .bool true ∧ Ext σ s) ?_ fun r s ⟨h1, h2⟩ => ⟨h2, by rw [h1]; exact .same _ rfl⟩)
  have p1 : postR [] [X1e] = (0, [X1e]) := post_ok (by decide) (by decide) snd1
  have p2 : postR [X1e] [X2e] = (0, [X1e, X2e]) := post_ok (by decide) (by decide) snd2
  have p3 : postR [X1e, X2e] [X3e] = (16, [X1e, X2e]) := post_short (by decide) (by decide) snd3
  have p4 : postR [X1e, X2e] [X4e] = (0, [X1e, X2e] ++ [X4e]) := post_ok (by decide) (by decide) snd4
  have p5 : postR ([X1e, X2e] ++ [X4e]) [X3e] = (0, [X1e, X2e] ++ [X4e] ++ [X3e]) := post_ok (by decide) (by decide) snd5
  have fext : ∀ {s s' : Store} {id j : Nat}, Fr s s' id j → σ.length ≤ id → σ.length ≤ j → Ext σ s → Ext σ s' := by
    intro s s' id j h1 h2 h3 hx k y hy
    have := (List.getElem?_eq_some_iff.1 hy).1
    exact h1.2 k y (hx k y hy) (by omega) (by omega)
  have hb : balQ ([X1e, X2e] ++ [X4e] ++ [X3e]) 2 0 9 = (120, 0) := by decide
  refine acalls_of_vc (fn := Try.f15) Try.call15 Try.func15 rfl (by kernel_rfl) (by simp [Try.ntmps15]) ?_; simp -implicitDefEqProofs only [Try.ntmps15,Try.results15,Q0,Q1,Q2,Q3,Q4,Q5,Q6,Q7,Q8,Q9,Qa,Qb,Qc,Qd,Qe,Qf,Qg,Qh,Qi,Qj,Qk,Ql,Qm,Qn,Qo,Qp,Qq,Qr,Qs,Qt,Qu,Qv,Qw,Qx,Qy,Qz,QA,QB,QC,QD,QE,QF,QG,QH,QI,QJ,QK,QL,QM,QN,QO,QP,QQ,QR,QS,QT,QU,QV,QW,QX,QY,QZ,X0,X1,X2,X3,X4,X5,X6,X7,X8,X9,Xa,Xb,Xc,Xd,Xe,Xf,Xg,Xh,Xi,Xj,Xk,Xl,Xm,Xn,Xo,Xp,Xq,Xr,Xs,Xt,Xu,Xv,Xw,Xx,Xy,Xz,XA,XB,reduceIte,reduceCtorEq,XC,XD,XE,XF,XG,XH,XI,XJ,XK,XL,XM,XN,XO,XP,XQ,XR,XS,XT,XU,XV,XW,XX,XY,XZ,Y0,Try.q3,Try.q4,Try.q23,Try.q27,Try.q29,Try.underlying37,Try.q37]
  refine ACalls.mono (c_NewL σ) ?_
  rintro r s ⟨id, j, rfl, hx, hi, hj, hL⟩
  simp -implicitDefEqProofs only [Q0,Q1,Q2,Q3,Q4,Q5,Q6,Q7,Q8,Q9,Qa,Qb,Qc,Qd,Qe,Qf,Qg,Qh,Qi,Qj,Qk,Ql,Qm,Qn,Qo,Qp,Qq,Qr,Qs,Qt,Qu,Qv,Qw,Qx,Qy,Qz,QA,QB,QC,QD,QE,QF,QG,QH,QI,QJ,QK,QL,QM,QN,QO,QP,QQ,QR,QS,QT,QU,QV,QW,QX,QY,QZ,X0,X1,X2,X3,X4,X5,X6,X7,X8,X9,Xa,Xb,Xc,Xd,Xe,Xf,Xg,Xh,Xi,Xj,Xk,Xl,Xm,Xn,Xo,Xp,Xq,Xr,Xs,Xt,Xu,Xv,Xw,Xx,Xy,Xz,XA,XB,reduceIte,reduceCtorEq,XC,XD,XE,XF,XG,XH,XI,XJ,XK,XL,XM,XN,XO,XP,XQ,XR,XS,XT,XU,XV,XW,XX,XY,XZ,Y0,Try.q3,Try.q4,Try.q23,Try.q27,Try.q29,Try.underlying37,Try.q37]
  refine ACalls.mono (c_PostL [] [X1e] [] (by simp) (by simp) (by simp) s id j hL) ?_
  rw [p1]
  rintro r s1 ⟨rfl, hL1, hF1, hl1⟩
  have hx1 := fext hF1 hi hj hx
  simp -implicitDefEqProofs only [Q0,Q1,Q2,Q3,Q4,Q5,Q6,Q7,Q8,Q9,Qa,Qb,Qc,Qd,Qe,Qf,Qg,Qh,Qi,Qj,Qk,Ql,Qm,Qn,Qo,Qp,Qq,Qr,Qs,Qt,Qu,Qv,Qw,Qx,Qy,Qz,QA,QB,QC,QD,QE,QF,QG,QH,QI,QJ,QK,QL,QM,QN,QO,QP,QQ,QR,QS,QT,QU,QV,QW,QX,QY,QZ,X0,X1,X2,X3,X4,X5,X6,X7,X8,X9,Xa,Xb,Xc,Xd,Xe,Xf,Xg,Xh,Xi,Xj,Xk,Xl,Xm,Xn,Xo,Xp,Xq,Xr,Xs,Xt,Xu,Xv,Xw,Xx,Xy,Xz,XA,XB,reduceIte,reduceCtorEq,XC,XD,XE,XF,XG,XH,XI,XJ,XK,XL,XM,XN,XO,XP,XQ,XR,XS,XT,XU,XV,XW,XX,XY,XZ,Y0,Try.q3,Try.q4,Try.q23,Try.q27,Try.q29,Try.underlying37,Try.q37]
  refine ACalls.mono (c_PostL [X1e] [X2e] [] (by simp) (by simp) (by intro x hx; simp at hx; subst hx; exact val1) s1 id j hL1) ?_
  rw [p2]
  rintro r s2 ⟨rfl, hL2, hF2, hl2⟩
  have hx2 := fext hF2 hi hj hx1
  have v12 : ∀ x ∈ [X1e, X2e], Val x := by intro x hx; simp at hx; rcases hx with rfl | rfl; exact val1; exact val2
  simp -implicitDefEqProofs only [Q0,Q1,Q2,Q3,Q4,Q5,Q6,Q7,Q8,Q9,Qa,Qb,Qc,Qd,Qe,Qf,Qg,Qh,Qi,Qj,Qk,Ql,Qm,Qn,Qo,Qp,Qq,Qr,Qs,Qt,Qu,Qv,Qw,Qx,Qy,Qz,QA,QB,QC,QD,QE,QF,QG,QH,QI,QJ,QK,QL,QM,QN,QO,QP,QQ,QR,QS,QT,QU,QV,QW,QX,QY,QZ,X0,X1,X2,X3,X4,X5,X6,X7,X8,X9,Xa,Xb,Xc,Xd,Xe,Xf,Xg,Xh,Xi,Xj,Xk,Xl,Xm,Xn,Xo,Xp,Xq,Xr,Xs,Xt,Xu,Xv,Xw,Xx,Xy,Xz,XA,XB,reduceIte,reduceCtorEq,XC,XD,XE,XF,XG,XH,XI,XJ,XK,XL,XM,XN,XO,XP,XQ,XR,XS,XT,XU,XV,XW,XX,XY,XZ,Y0,Try.q3,Try.q4,Try.q23,Try.q27,Try.q29,Try.underlying37,Try.q37]
  refine ACalls.mono (c_PostL [X1e, X2e] [X3e] [] (by simp) (by simp) v12 s2 id j hL2) ?_
  rw [p3]
  rintro r s3 ⟨rfl, hL3, hF3, hl3⟩
  have hx3 := fext hF3 hi hj hx2
  simp -implicitDefEqProofs only [Q0,Q1,Q2,Q3,Q4,Q5,Q6,Q7,Q8,Q9,Qa,Qb,Qc,Qd,Qe,Qf,Qg,Qh,Qi,Qj,Qk,Ql,Qm,Qn,Qo,Qp,Qq,Qr,Qs,Qt,Qu,Qv,Qw,Qx,Qy,Qz,QA,QB,QC,QD,QE,QF,QG,QH,QI,QJ,QK,QL,QM,QN,QO,QP,QQ,QR,QS,QT,QU,QV,QW,QX,QY,QZ,X0,X1,X2,X3,X4,X5,X6,X7,X8,X9,Xa,Xb,Xc,Xd,Xe,Xf,Xg,Xh,Xi,Xj,Xk,Xl,Xm,Xn,Xo,Xp,Xq,Xr,Xs,Xt,Xu,Xv,Xw,Xx,Xy,Xz,XA,XB,reduceIte,reduceCtorEq,XC,XD,XE,XF,XG,XH,XI,XJ,XK,XL,XM,XN,XO,XP,XQ,XR,XS,XT,XU,XV,XW,XX,XY,XZ,Y0,Try.q3,Try.q4,Try.q23,Try.q27,Try.q29,Try.underlying37,Try.q37]
  refine ACalls.mono (c_PostL [X1e, X2e] [X4e] [] (by simp) (by simp) v12 s3 id j hL3) ?_
  rw [p4]
  rintro r s4 ⟨rfl, hL4, hF4, hl4⟩
  have hx4 := fext hF4 hi hj hx3
  have v124 : ∀ x ∈ [X1e, X2e] ++ [X4e], Val x := by intro x hx; simp at hx; rcases hx with rfl | rfl | rfl; exact val1; exact val2; exact val4
  simp -implicitDefEqProofs only [Q0,Q1,Q2,Q3,Q4,Q5,Q6,Q7,Q8,Q9,Qa,Qb,Qc,Qd,Qe,Qf,Qg,Qh,Qi,Qj,Qk,Ql,Qm,Qn,Qo,Qp,Qq,Qr,Qs,Qt,Qu,Qv,Qw,Qx,Qy,Qz,QA,QB,QC,QD,QE,QF,QG,QH,QI,QJ,QK,QL,QM,QN,QO,QP,QQ,QR,QS,QT,QU,QV,QW,QX,QY,QZ,X0,X1,X2,X3,X4,X5,X6,X7,X8,X9,Xa,Xb,Xc,Xd,Xe,Xf,Xg,Xh,Xi,Xj,Xk,Xl,Xm,Xn,Xo,Xp,Xq,Xr,Xs,Xt,Xu,Xv,Xw,Xx,Xy,Xz,XA,XB,reduceIte,reduceCtorEq,XC,XD,XE,XF,XG,XH,XI,XJ,XK,XL,XM,XN,XO,XP,XQ,XR,XS,XT,XU,XV,XW,XX,XY,XZ,Y0,Try.q3,Try.q4,Try.q23,Try.q27,Try.q29,Try.underlying37,Try.q37]
  refine ACalls.mono (c_PostL ([X1e, X2e] ++ [X4e]) [X3e] [] (by simp) (by simp) v124 s4 id j hL4) ?_
  rw [p5]
  rintro r s5 ⟨rfl, hL5, hF5, hl5⟩
  have hx5 := fext hF5 hi hj hx4
  have v5 : ∀ x ∈ [X1e, X2e] ++ [X4e] ++ [X3e], Val x := by intro x hx; simp at hx; rcases hx with rfl | rfl | rfl | rfl; exact val1; exact val2; exact val4; exact val3
  have kb := c_Balance _ (by simp) v5 2 0 9 _ s5 id hL5.1
  rw [hb] at kb
  simp -implicitDefEqProofs only [Q0,Q1,Q2,Q3,Q4,Q5,Q6,Q7,Q8,Q9,Qa,Qb,Qc,Qd,Qe,Qf,Qg,Qh,Qi,Qj,Qk,Ql,Qm,Qn,Qo,Qp,Qq,Qr,Qs,Qt,Qu,Qv,Qw,Qx,Qy,Qz,QA,QB,QC,QD,QE,QF,QG,QH,QI,QJ,QK,QL,QM,QN,QO,QP,QQ,QR,QS,QT,QU,QV,QW,QX,QY,QZ,X0,X1,X2,X3,X4,X5,X6,X7,X8,X9,Xa,Xb,Xc,Xd,Xe,Xf,Xg,Xh,Xi,Xj,Xk,Xl,Xm,Xn,Xo,Xp,Xq,Xr,Xs,Xt,Xu,Xv,Xw,Xx,Xy,Xz,XA,XB,reduceIte,reduceCtorEq,XC,XD,XE,XF,XG,XH,XI,XJ,XK,XL,XM,XN,XO,XP,XQ,XR,XS,XT,XU,XV,XW,XX,XY,XZ,Y0,Try.q3,Try.q4,Try.q23,Try.q27,Try.q29,Try.underlying37,Try.q37]
  refine acalls_then (kb) ?_
  simp -implicitDefEqProofs only [Q0,Q1,Q2,Q3,Q4,Q5,Q6,Q7,Q8,Q9,Qa,Qb,Qc,Qd,Qe,Qf,Qg,Qh,Qi,Qj,Qk,Ql,Qm,Qn,Qo,Qp,Qq,Qr,Qs,Qt,Qu,Qv,Qw,Qx,Qy,Qz,QA,QB,QC,QD,QE,QF,QG,QH,QI,QJ,QK,QL,QM,QN,QO,QP,QQ,QR,QS,QT,QU,QV,QW,QX,QY,QZ,X0,X1,X2,X3,X4,X5,X6,X7,X8,X9,Xa,Xb,Xc,Xd,Xe,Xf,Xg,Xh,Xi,Xj,Xk,Xl,Xm,Xn,Xo,Xp,Xq,Xr,Xs,Xt,Xu,Xv,Xw,Xx,Xy,Xz,XA,XB,reduceIte,reduceCtorEq,XC,XD,XE,XF,XG,XH,XI,XJ,XK,XL,XM,XN,XO,XP,XQ,XR,XS,XT,XU,XV,XW,XX,XY,XZ,Y0,Try.q3,Try.q4,Try.q23,Try.q27,Try.q29,Try.underlying37,Try.q37]
  exact hx5

end Go.Proofs
