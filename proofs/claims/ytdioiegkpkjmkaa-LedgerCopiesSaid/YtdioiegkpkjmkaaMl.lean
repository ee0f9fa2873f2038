/-
  The reference's ledger: a copy; contract.
-/
import Derived.Test.YtdioiegkpkjmkaaMj
import Derived.Test.YtdioiegkpkjmkaaMg
namespace Go.Proofs
open Go.Pa
open Go.Pa renaming VB0 → Q0, VB1 → Q1, VB2 → Q2, VB3 → Q3, VB4 → Q4, VB5 → Q5, VB6 → Q6, VB7 → Q7, VB8 → Q8, VB9 → Q9, condV_bool → Qa, guardV_bool → Qb, vcS → Qc, evA → Qd, evBin → Qe, nilA → Qf, nilOf → Qg, intOp → Qh, strOp → Qi, evUn → Qj, evConv → Qk, evField → Ql, evFieldAddr → Qm, evIndexAddr → Qn, evIndex → Qo, evIndexA → Qp, bnd → Qq, evSlice → Qr, evLen → Qs, evPick → Qt, evExtract → Qu, evNilCheck → Qv, evMin → Qw, evMax → Qx, evLoadI → Qy, partsOne → QA, intsOf → QB, rowsAV → QC, evBuildSlice → QD, evBuild → QE, fillA → QF, splice → QG, evBuiltin → QH, guardD_bool → QI, dOp → QJ, cl → QK, vcLoad → QL, vcStore → QM, vcMake → QN, convA → QO, evIndexArr → QP, retA → QQ, ressA → QR, resA → QS, envOf → QT, condR_bool → QX, asgEnv → QY, parEnv → QZ, dstAt → XI, vcLook → XT, vcPut → XU, vcEnt → XV, vcESt → XW, vcMLen → XX, vcDel → XY, vcClear → XZ, vcLookD → Y0
open Go.Pa.AV renaming cell → Qz
open Go.Pa.Env renaming put → QU
open List renaming set_cons_zero → QV, set_cons_succ → QW, foldl_cons → X0, foldl_nil → X1, map_cons → X2, map_nil → X3, toList_toArray → X4, getElem?_cons_zero → X5, getElem?_cons_succ → X6, nil_append → Xa, append_nil → Xb, cons_append → Xc, singleton_append → Xd, length_cons → Xe, length_nil → Xf, all_cons → Xg, all_nil → Xh, take_succ_cons → Xi, take_zero → Xj, take_nil → Xk, drop_zero → Xl, drop_succ_cons → Xm, drop_nil → Xn, contains_nil → Xo, contains_cons → Xp
open Option renaming bind_some → X7, map_some → X8, map_none → X9
open Bool renaming or_false → Xq, false_or → Xr, or_true → Xs, true_or → Xt, false_eq_true → XC, not_true → XD, not_false → XE, and_true → XF, true_and → XG, and_self → XH
open Nat renaming reduceEqDiff → Xu, reduceAdd → Xv, reduceSub → Xw, reduceMul → Xx, reduceLT → Xy, reduceLeDiff → Xz, reduceBNe → XA, reduceBEq → XB, zero_add → XL, add_zero → XM
open UInt8 renaming reduceToNat → XJ
open Int renaming cast_ofNat_Int → XK, reduceToNat → XN, reduceLT → XO, reduceLE → XP, reduceNeg → XQ, reduceEq → XR, reduceNe → XS
set_option linter.unusedSimpArgs false
set_option linter.unusedVariables false
set_option maxRecDepth 20000
set_option maxHeartbeats 4000000

/-- A ledger of the reference whose entries will not turn again. -/
theorem shut_led {s : Store} {a b : Nat} {r D : AV} {es : List Ent} (ha : a < b) (hb : b ≤ s.length) (h0 : s[a]? = some (.box [r, D]))
    (hr : ((r = .nils ∨ r = .emp) ∧ es.map entA = []) ∨ ∃ id, r = .mvec id 0 (es.map entA).length 6 ∧ s[id]? = some (.vecR 6 (es.map entA)) ∧ a < id ∧ id < b) :
    ShS s (fun i => a + 1 ≤ i ∧ i < b) ((killS s (a + 1) b).set a (.box [esV es, D])) := by
  have hl := killS_len (s := s) (n := a + 1) (m := b) (by omega) hb
  refine ⟨by rw [List.length_set, hl], fun i y hy => ?_⟩
  by_cases hi : i = a
  · subst hi
    rw [List.getElem?_set_self (by omega)] at hy; cases hy
    refine .inr ⟨by omega, _, h0, .box _ _ rfl fun k x y hx hy => ?_⟩
    match k with
    | 0 =>
      cases hx; cases hy
      rcases hr with ⟨h | h, h2⟩ | ⟨id, h1, h2, h3⟩
      · rw [h, show esV es = .rows 6 [] by rw [esV, h2]]; exact .nilR 6
      · rw [h, show esV es = .rows 6 [] by rw [esV, h2]]; exact .empR 6
      · rw [h1]
        refine .vecR id 0 _ 6 _ _ h2 ⟨by omega, h3.2⟩ (by omega) rfl (entA_len _) fun k x y hx hy => ?_
        rw [List.drop_zero, List.take_length] at hx
        rw [hx] at hy; cases hy; exact .same _
    | 1 => cases hx; cases hy; exact .same _
    | k + 2 => cases hx
  · rw [List.getElem?_set_ne (Ne.symm hi)] at hy
    exact (killS_sh (by omega) hb).2 i y hy

theorem copy_fin {σ s : Store} {r D : AV} {es : List Ent} {dn : List Int} {b d2 : Nat} (hx : Ext σ s) (hb : σ.length < b ∧ b ≤ s.length) (h0 : s[σ.length]? = some (.box [r, D]))
    (hr : ((r = .nils ∨ r = .emp) ∧ es.map entA = []) ∨ ∃ id, r = .mvec id 0 (es.map entA).length 6 ∧ s[id]? = some (.vecR 6 (es.map entA)) ∧ σ.length < id ∧ id < b)
    (hd : (D = .nils ∧ dn = []) ∨ (D = .mvec d2 0 dn.length 1 ∧ s[d2]? = some (.vecI .i64 dn) ∧ b ≤ d2)) :
    ∃ (p : Nat → Prop) (r' : AV) (s' : Store), ShS s p s' ∧ Sh s p (.ptr σ.length 0) r' ∧ ∃ m2 d2 D2, r' = .ptr m2 0 ∧ Ext σ s' ∧ σ.length ≤ m2 ∧ σ.length ≤ d2 ∧ RL s' m2 d2 D2 es dn := by
  have hl := killS_len (s := s) (n := σ.length + 1) (m := b) (by omega) hb.2
  have hbox : ((killS s (σ.length + 1) b).set σ.length (.box [esV es, D]))[σ.length]? = some (.box [esV es, D]) := List.getElem?_set_self (by omega)
  have hxe : Ext σ ((killS s (σ.length + 1) b).set σ.length (.box [esV es, D])) := fun k x hk => by
    have hlt := (List.getElem?_eq_some_iff.1 hk).1
    rw [List.getElem?_set_ne (by omega), killS_get (by omega) hb.2 (.inl (by omega))]
    exact hx _ _ hk
  refine ⟨_, .ptr σ.length 0, _, shut_led hb.1 hb.2 h0 hr, .same _, ?_⟩
  rcases hd with ⟨h1, h2⟩ | ⟨h1, h2, h3⟩
  · exact ⟨σ.length, σ.length, D, rfl, hxe, Nat.le_refl _, Nat.le_refl _, hbox, .inl ⟨h1, h2⟩⟩
  · refine ⟨σ.length, d2, D, rfl, hxe, Nat.le_refl _, by omega, hbox, .inr ⟨h1, ?_⟩⟩
    rw [List.getElem?_set_ne (by omega), killS_get (by omega) hb.2 (.inr h3)]
    exact h2

theorem bufR_in {s s2 : Store} {r : AV} {l : List (List AV)} (h : BufR s2 s.length r 6 l) : ((r = .nils ∨ r = .emp) ∧ l = []) ∨ ∃ id, r = .mvec id 0 l.length 6 ∧ s2[id]? = some (.vecR 6 l) ∧ s.length ≤ id ∧ id < s2.length := by
  rcases h with h | ⟨id, h1, h2, h3⟩
  · exact .inl h
  · exact .inr ⟨id, h1, h2, h3, (List.getElem?_eq_some_iff.1 h2).1⟩

theorem append_nn {P : Program} {s : Store} {t e : TypeId} {sz : Nat} {R : AV → Store → Prop} (hs : sliceElem P t = some (e, sz)) (hb : P.bytesOf e ≠ 0) (hR : R .nils s) : vcAppend P t .nils .nils s R := by
  unfold vcAppend
  simp only [hs, contA]
  exact ⟨hb, hR⟩
theorem append_n0 {P : Program} {s : Store} {t e : TypeId} {k : IntKind} {y : AV} {R : AV → Store → Prop} (hs : sliceElem P t = some (e, 1)) (hb : P.bytesOf e ≠ 0) (hc : contA s y = some (.I k [])) (hR : R .nils s) : vcAppend P t .nils y s R := by
  unfold vcAppend
  simp only [hs, hc]
  exact ⟨hb, trivial, fun _ => hR, fun h => absurd rfl h⟩

theorem rr_Copy (es : List Ent) (dn : List Int) (hl : es.length ≤ 16384) (hdl : dn.length ≤ 100000) (σ : Store) (m d : Nat) (D : AV) (h0 : RL σ m d D es dn) :
    ACalls Try.prog 29 [.ptr m 0] σ (fun r s => ∃ m2 d2 D2, r = .ptr m2 0 ∧ Ext σ s ∧ σ.length ≤ m2 ∧ σ.length ≤ d2 ∧ RL s m2 d2 D2 es dn) := by
  have lm : (es.map entA).length = es.length := List.length_map _
  have g1 := h0.box
  have hm := (List.getElem?_eq_some_iff.1 g1).1
  have hG : (σ ++ [AObj.box [.nils, .nils]])[σ.length]? = some (.box [.nils, .nils]) := by simp
  have hM : (σ ++ [AObj.box [.nils, .nils]])[m]? = some (.box [esV es, D]) := Ext.app _ _ _ _ g1
  refine ACalls.shutP ?_
  refine acalls_of_awp (fn := Try.f29) Try.call29 Try.func29 rfl (by simp [Try.ntmps29]) ?_
  simp only [Try.ntmps29, Try.results29]
  refine awp_seq (awp_vc (by kernel_rfl) ?_)
  simp -implicitDefEqProofs only [seqA_normal,seqA_ret,seqA_exit,Q0,Q1,Q2,Q3,Q4,Q5,Q6,Q7,Q8,Q9,Qa,Qb,Qc,Qd,Qe,Qf,Qg,Qh,Qi,Qj,Qk,Ql,Qm,Qn,Qo,Qp,Qq,Qr,Qs,Qt,Qu,Qv,Qw,Qx,Qy,Qz,QA,QB,QC,QD,QE,QF,QG,QH,QI,QJ,QK,QL,QM,QN,QO,QP,QQ,QR,QS,QT,QU,QV,QW,QX,QY,QZ,X0,X1,X2,X3,X4,X5,X6,X7,X8,X9,Xa,Xb,Xc,Xd,Xe,Xf,Xg,Xh,Xi,Xj,Xk,Xl,Xm,Xn,Xo,Xp,Xq,Xr,Xs,Xt,Xu,Xv,Xw,Xx,Xy,Xz,XA,XB,reduceIte,reduceCtorEq,XC,XD,XE,XF,XG,XH,XI,XJ,XK,XL,XM,XN,XO,XP,XQ,XR,XS,XT,XU,XV,XW,XX,XY,XZ,Y0,Try.q3,Try.q22,Try.q31,Try.underlying36,Try.q36,Try.q48,Try.underlying50,Try.q50]
  refine awp_seq (awp_vc (by kernel_rfl) ?_)
  simp -implicitDefEqProofs only [seqA_normal,seqA_ret,seqA_exit,Q0,Q1,Q2,Q3,Q4,Q5,Q6,Q7,Q8,Q9,Qa,Qb,Qc,Qd,Qe,Qf,Qg,Qh,Qi,Qj,Qk,Ql,Qm,Qn,Qo,Qp,Qq,Qr,Qs,Qt,Qu,Qv,Qw,Qx,Qy,Qz,QA,QB,QC,QD,QE,QF,QG,QH,QI,QJ,QK,QL,QM,QN,QO,QP,QQ,QR,QS,QT,QU,QV,QW,QX,QY,QZ,X0,X1,X2,X3,X4,X5,X6,X7,X8,X9,Xa,Xb,Xc,Xd,Xe,Xf,Xg,Xh,Xi,Xj,Xk,Xl,Xm,Xn,Xo,Xp,Xq,Xr,Xs,Xt,Xu,Xv,Xw,Xx,Xy,Xz,XA,XB,reduceIte,reduceCtorEq,XC,XD,XE,XF,XG,XH,XI,XJ,XK,XL,XM,XN,XO,XP,XQ,XR,XS,XT,XU,XV,XW,XX,XY,XZ,Y0,Try.q3,Try.q22,Try.q31,Try.underlying36,Try.q36,Try.q48,Try.underlying50,Try.q50]
  refine awp_seq (awp_draws [9, 12, 100004, 100008] Try.mixed (by kernel_rfl) ?_)
  simp -implicitDefEqProofs only [hG,hM,Q0,Q1,Q2,Q3,Q4,Q5,Q6,Q7,Q8,Q9,Qa,Qb,Qc,Qd,Qe,Qf,Qg,Qh,Qi,Qj,Qk,Ql,Qm,Qn,Qo,Qp,Qq,Qr,Qs,Qt,Qu,Qv,Qw,Qx,Qy,Qz,QA,QB,QC,QD,QE,QF,QG,QH,QI,QJ,QK,QL,QM,QN,QO,QP,QQ,QR,QS,QT,QU,QV,QW,QX,QY,QZ,X0,X1,X2,X3,X4,X5,X6,X7,X8,X9,Xa,Xb,Xc,Xd,Xe,Xf,Xg,Xh,Xi,Xj,Xk,Xl,Xm,Xn,Xo,Xp,Xq,Xr,Xs,Xt,Xu,Xv,Xw,Xx,Xy,Xz,XA,XB,reduceIte,reduceCtorEq,XC,XD,XE,XF,XG,XH,XI,XJ,XK,XL,XM,XN,XO,XP,XQ,XR,XS,XT,XU,XV,XW,XX,XY,XZ,Y0,Try.q3,Try.q22,Try.q31,Try.underlying36,Try.q36,Try.q48,Try.underlying50,Try.q50]
  refine append_bufR (σ := σ ++ [AObj.box [.nils, .nils]]) (l := []) Try.sl31 (by simp [Try.bt36]) (.refl _) (.inl ⟨.inl rfl, rfl⟩) rfl (entA_len _) (by simp [appFits, Try.bt36]; omega) fun r2 s2 hx2 hb2 => ?_
  have hG2 := hx2 _ _ hG
  have hM2 := hx2 _ _ hM
  have hcr := bufR_cells hb2
  simp -implicitDefEqProofs only [hG2,hcr,seqA_normal,Q0,Q1,Q2,Q3,Q4,Q5,Q6,Q7,Q8,Q9,Qa,Qb,Qc,Qd,Qe,Qf,Qg,Qh,Qi,Qj,Qk,Ql,Qm,Qn,Qo,Qp,Qq,Qr,Qs,Qt,Qu,Qv,Qw,Qx,Qy,Qz,QA,QB,QC,QD,QE,QF,QG,QH,QI,QJ,QK,QL,QM,QN,QO,QP,QQ,QR,QS,QT,QU,QV,QW,QX,QY,QZ,X0,X1,X2,X3,X4,X5,X6,X7,X8,X9,Xa,Xb,Xc,Xd,Xe,Xf,Xg,Xh,Xi,Xj,Xk,Xl,Xm,Xn,Xo,Xp,Xq,Xr,Xs,Xt,Xu,Xv,Xw,Xx,Xy,Xz,XA,XB,reduceIte,reduceCtorEq,XC,XD,XE,XF,XG,XH,XI,XJ,XK,XL,XM,XN,XO,XP,XQ,XR,XS,XT,XU,XV,XW,XX,XY,XZ,Y0,Try.q3,Try.q22,Try.q31,Try.underlying36,Try.q36,Try.q48,Try.underlying50,Try.q50]
  rw [List.nil_append] at hb2
  have hbi := bufR_in hb2
  have hl2 := hx2.len
  rw [List.length_append, List.length_cons, List.length_nil] at hl2
  obtain ⟨s3, hs3⟩ : ∃ s3, s3 = s2.set σ.length (.box [r2, .nils]) := ⟨_, rfl⟩
  have hl3 : s3.length = s2.length := by rw [hs3]; simp
  have hG3 : s3[σ.length]? = some (.box [r2, .nils]) := by rw [hs3]; exact List.getElem?_set_self (by omega)
  have hx3 : Ext σ s3 := fun k x hk => by
    have hlt := (List.getElem?_eq_some_iff.1 hk).1
    rw [hs3, List.getElem?_set_ne (by omega)]
    exact hx2 _ _ (Ext.app _ _ _ _ hk)
  have hM3 := hx3 _ _ g1
  have hbi3 : ((r2 = .nils ∨ r2 = .emp) ∧ es.map entA = []) ∨ ∃ id, r2 = .mvec id 0 (es.map entA).length 6 ∧ s3[id]? = some (.vecR 6 (es.map entA)) ∧ σ.length < id ∧ id < s2.length := by
    rcases hbi with h | ⟨id, q1, q2, q3, q4⟩
    · exact .inl h
    · rw [List.length_append, List.length_cons, List.length_nil] at q3
      refine .inr ⟨id, q1, ?_, by omega, q4⟩
      rw [hs3, List.getElem?_set_ne (by omega)]; exact q2
  rw [← hs3]
  clear hs3 hG hM hG2 hM2 hb2 hbi hx2
  have hset : ∀ D', (s3.set σ.length (.box [r2, D']))[σ.length]? = some (.box [r2, D']) := fun D' => List.getElem?_set_self (by omega)
  refine awp_seq (awp_draws [9, 12, 100004, 100008] Try.mixed (by kernel_rfl) ?_)
  simp -implicitDefEqProofs only [hG3,hM3,Q0,Q1,Q2,Q3,Q4,Q5,Q6,Q7,Q8,Q9,Qa,Qb,Qc,Qd,Qe,Qf,Qg,Qh,Qi,Qj,Qk,Ql,Qm,Qn,Qo,Qp,Qq,Qr,Qs,Qt,Qu,Qv,Qw,Qx,Qy,Qz,QA,QB,QC,QD,QE,QF,QG,QH,QI,QJ,QK,QL,QM,QN,QO,QP,QQ,QR,QS,QT,QU,QV,QW,QX,QY,QZ,X0,X1,X2,X3,X4,X5,X6,X7,X8,X9,Xa,Xb,Xc,Xd,Xe,Xf,Xg,Xh,Xi,Xj,Xk,Xl,Xm,Xn,Xo,Xp,Xq,Xr,Xs,Xt,Xu,Xv,Xw,Xx,Xy,Xz,XA,XB,reduceIte,reduceCtorEq,XC,XD,XE,XF,XG,XH,XI,XJ,XK,XL,XM,XN,XO,XP,XQ,XR,XS,XT,XU,XV,XW,XX,XY,XZ,Y0,Try.q3,Try.q22,Try.q31,Try.underlying36,Try.q36,Try.q48,Try.underlying50,Try.q50]
  have hxs : ∀ o, Ext σ (s3.set σ.length o) := fun o k x hk => by
    have hlt := (List.getElem?_eq_some_iff.1 hk).1
    rw [List.getElem?_set_ne (by omega)]
    exact hx3 _ _ hk
  have hbs : ∀ o x, ((r2 = .nils ∨ r2 = .emp) ∧ es.map entA = []) ∨ ∃ id, r2 = .mvec id 0 (es.map entA).length 6 ∧ ((s3 ++ x).set σ.length o)[id]? = some (.vecR 6 (es.map entA)) ∧ σ.length < id ∧ id < s2.length := fun o x => by
    rcases hbi3 with h | ⟨id, q1, q2, q3, q4⟩
    · exact .inl h
    · refine .inr ⟨id, q1, ?_, q3, q4⟩
      rw [List.getElem?_set_ne (by omega), List.getElem?_append_left (by omega)]; exact q2
  have nofin : dn = [] → ∃ (p : Nat → Prop) (r' : AV) (s' : Store), ShS (s3.set σ.length (.box [r2, .nils])) p s' ∧ Sh (s3.set σ.length (.box [r2, .nils])) p (.ptr σ.length 0) r' ∧ ∃ m2 d2 D2, r' = .ptr m2 0 ∧ Ext σ s' ∧ σ.length ≤ m2 ∧ σ.length ≤ d2 ∧ RL s' m2 d2 D2 es dn := fun h => by
    have := hbs (.box [r2, .nils]) []
    rw [List.append_nil] at this
    exact copy_fin (d2 := 0) (hxs _) (b := s2.length) ⟨by omega, by rw [List.length_set]; omega⟩ (List.getElem?_set_self (by omega)) this (.inl ⟨rfl, h⟩)
  rcases h0.dl with ⟨q1, q2⟩ | ⟨q1, q2⟩
  · subst q1
    refine append_nn Try.sl22 (by simp [Try.bt3]) ?_
    simp -implicitDefEqProofs only [hG3,seqA_normal,Q0,Q1,Q2,Q3,Q4,Q5,Q6,Q7,Q8,Q9,Qa,Qb,Qc,Qd,Qe,Qf,Qg,Qh,Qi,Qj,Qk,Ql,Qm,Qn,Qo,Qp,Qq,Qr,Qs,Qt,Qu,Qv,Qw,Qx,Qy,Qz,QA,QB,QC,QD,QE,QF,QG,QH,QI,QJ,QK,QL,QM,QN,QO,QP,QQ,QR,QS,QT,QU,QV,QW,QX,QY,QZ,X0,X1,X2,X3,X4,X5,X6,X7,X8,X9,Xa,Xb,Xc,Xd,Xe,Xf,Xg,Xh,Xi,Xj,Xk,Xl,Xm,Xn,Xo,Xp,Xq,Xr,Xs,Xt,Xu,Xv,Xw,Xx,Xy,Xz,XA,XB,reduceIte,reduceCtorEq,XC,XD,XE,XF,XG,XH,XI,XJ,XK,XL,XM,XN,XO,XP,XQ,XR,XS,XT,XU,XV,XW,XX,XY,XZ,Y0,Try.q3,Try.q22,Try.q31,Try.underlying36,Try.q36,Try.q48,Try.underlying50,Try.q50]
    refine awp_vc (by kernel_rfl) ?_
    simp -implicitDefEqProofs only [Q0,Q1,Q2,Q3,Q4,Q5,Q6,Q7,Q8,Q9,Qa,Qb,Qc,Qd,Qe,Qf,Qg,Qh,Qi,Qj,Qk,Ql,Qm,Qn,Qo,Qp,Qq,Qr,Qs,Qt,Qu,Qv,Qw,Qx,Qy,Qz,QA,QB,QC,QD,QE,QF,QG,QH,QI,QJ,QK,QL,QM,QN,QO,QP,QQ,QR,QS,QT,QU,QV,QW,QX,QY,QZ,X0,X1,X2,X3,X4,X5,X6,X7,X8,X9,Xa,Xb,Xc,Xd,Xe,Xf,Xg,Xh,Xi,Xj,Xk,Xl,Xm,Xn,Xo,Xp,Xq,Xr,Xs,Xt,Xu,Xv,Xw,Xx,Xy,Xz,XA,XB,reduceIte,reduceCtorEq,XC,XD,XE,XF,XG,XH,XI,XJ,XK,XL,XM,XN,XO,XP,XQ,XR,XS,XT,XU,XV,XW,XX,XY,XZ,Y0,Try.q3,Try.q22,Try.q31,Try.underlying36,Try.q36,Try.q48,Try.underlying50,Try.q50]
    exact nofin q2
  · subst q1
    have hd3 := hx3 _ _ q2
    have hc : contA s3 (.mvec d 0 dn.length 1) = some (.I .i64 dn) := by simp [contA, hd3]
    by_cases hdn : dn = []
    · rw [hdn] at hc hM3
      rw [hdn]
      refine append_n0 Try.sl22 (by simp [Try.bt3]) hc ?_
      simp -implicitDefEqProofs only [hG3,seqA_normal,Q0,Q1,Q2,Q3,Q4,Q5,Q6,Q7,Q8,Q9,Qa,Qb,Qc,Qd,Qe,Qf,Qg,Qh,Qi,Qj,Qk,Ql,Qm,Qn,Qo,Qp,Qq,Qr,Qs,Qt,Qu,Qv,Qw,Qx,Qy,Qz,QA,QB,QC,QD,QE,QF,QG,QH,QI,QJ,QK,QL,QM,QN,QO,QP,QQ,QR,QS,QT,QU,QV,QW,QX,QY,QZ,X0,X1,X2,X3,X4,X5,X6,X7,X8,X9,Xa,Xb,Xc,Xd,Xe,Xf,Xg,Xh,Xi,Xj,Xk,Xl,Xm,Xn,Xo,Xp,Xq,Xr,Xs,Xt,Xu,Xv,Xw,Xx,Xy,Xz,XA,XB,reduceIte,reduceCtorEq,XC,XD,XE,XF,XG,XH,XI,XJ,XK,XL,XM,XN,XO,XP,XQ,XR,XS,XT,XU,XV,XW,XX,XY,XZ,Y0,Try.q3,Try.q22,Try.q31,Try.underlying36,Try.q36,Try.q48,Try.underlying50,Try.q50]
      refine awp_vc (by kernel_rfl) ?_
      simp -implicitDefEqProofs only [Q0,Q1,Q2,Q3,Q4,Q5,Q6,Q7,Q8,Q9,Qa,Qb,Qc,Qd,Qe,Qf,Qg,Qh,Qi,Qj,Qk,Ql,Qm,Qn,Qo,Qp,Qq,Qr,Qs,Qt,Qu,Qv,Qw,Qx,Qy,Qz,QA,QB,QC,QD,QE,QF,QG,QH,QI,QJ,QK,QL,QM,QN,QO,QP,QQ,QR,QS,QT,QU,QV,QW,QX,QY,QZ,X0,X1,X2,X3,X4,X5,X6,X7,X8,X9,Xa,Xb,Xc,Xd,Xe,Xf,Xg,Xh,Xi,Xj,Xk,Xl,Xm,Xn,Xo,Xp,Xq,Xr,Xs,Xt,Xu,Xv,Xw,Xx,Xy,Xz,XA,XB,reduceIte,reduceCtorEq,XC,XD,XE,XF,XG,XH,XI,XJ,XK,XL,XM,XN,XO,XP,XQ,XR,XS,XT,XU,XV,XW,XX,XY,XZ,Y0,Try.q3,Try.q22,Try.q31,Try.underlying36,Try.q36,Try.q48,Try.underlying50,Try.q50]
      have := nofin hdn
      rw [hdn] at this
      exact this
    · refine append_exN Try.sl22 (by simp [Try.bt3]) hc hdn (by simp only [appFits, Try.bt3]; omega) ?_
      have hG4 : ∀ x, (s3 ++ [x])[σ.length]? = some (.box [r2, .nils]) := fun x => Ext.app _ _ _ _ hG3
      simp -implicitDefEqProofs only [hG4,seqA_normal,Q0,Q1,Q2,Q3,Q4,Q5,Q6,Q7,Q8,Q9,Qa,Qb,Qc,Qd,Qe,Qf,Qg,Qh,Qi,Qj,Qk,Ql,Qm,Qn,Qo,Qp,Qq,Qr,Qs,Qt,Qu,Qv,Qw,Qx,Qy,Qz,QA,QB,QC,QD,QE,QF,QG,QH,QI,QJ,QK,QL,QM,QN,QO,QP,QQ,QR,QS,QT,QU,QV,QW,QX,QY,QZ,X0,X1,X2,X3,X4,X5,X6,X7,X8,X9,Xa,Xb,Xc,Xd,Xe,Xf,Xg,Xh,Xi,Xj,Xk,Xl,Xm,Xn,Xo,Xp,Xq,Xr,Xs,Xt,Xu,Xv,Xw,Xx,Xy,Xz,XA,XB,reduceIte,reduceCtorEq,XC,XD,XE,XF,XG,XH,XI,XJ,XK,XL,XM,XN,XO,XP,XQ,XR,XS,XT,XU,XV,XW,XX,XY,XZ,Y0,Try.q3,Try.q22,Try.q31,Try.underlying36,Try.q36,Try.q48,Try.underlying50,Try.q50]
      refine awp_vc (by kernel_rfl) ?_
      simp -implicitDefEqProofs only [Q0,Q1,Q2,Q3,Q4,Q5,Q6,Q7,Q8,Q9,Qa,Qb,Qc,Qd,Qe,Qf,Qg,Qh,Qi,Qj,Qk,Ql,Qm,Qn,Qo,Qp,Qq,Qr,Qs,Qt,Qu,Qv,Qw,Qx,Qy,Qz,QA,QB,QC,QD,QE,QF,QG,QH,QI,QJ,QK,QL,QM,QN,QO,QP,QQ,QR,QS,QT,QU,QV,QW,QX,QY,QZ,X0,X1,X2,X3,X4,X5,X6,X7,X8,X9,Xa,Xb,Xc,Xd,Xe,Xf,Xg,Xh,Xi,Xj,Xk,Xl,Xm,Xn,Xo,Xp,Xq,Xr,Xs,Xt,Xu,Xv,Xw,Xx,Xy,Xz,XA,XB,reduceIte,reduceCtorEq,XC,XD,XE,XF,XG,XH,XI,XJ,XK,XL,XM,XN,XO,XP,XQ,XR,XS,XT,XU,XV,XW,XX,XY,XZ,Y0,Try.q3,Try.q22,Try.q31,Try.underlying36,Try.q36,Try.q48,Try.underlying50,Try.q50]
      refine copy_fin (d2 := s3.length) (b := s2.length) ?_ ⟨by omega, by rw [List.length_set, List.length_append]; omega⟩ (List.getElem?_set_self (by rw [List.length_append]; omega)) (hbs _ _) (.inr ⟨rfl, ?_, by omega⟩)
      · intro k x hk
        have hlt := (List.getElem?_eq_some_iff.1 hk).1
        rw [List.getElem?_set_ne (by omega)]
        exact Ext.app _ _ _ _ (hx3 _ _ hk)
      · rw [List.getElem?_set_ne (by omega)]; simp

end Go.Proofs
