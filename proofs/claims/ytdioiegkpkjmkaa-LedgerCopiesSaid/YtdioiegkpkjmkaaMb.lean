/-
  The reference's ledger: an entry is taken back; contract.
-/
import Derived.Test.YtdioiegkpkjmkaaMa
namespace Go.Proofs
open Go.Pa
open Go.Pa renaming VB0 → Q0, VB1 → Q1, VB2 → Q2, VB3 → Q3, VB4 → Q4, VB5 → Q5, VB6 → Q6, VB7 → Q7, VB8 → Q8, VB9 → Q9, condV_bool → Qa, guardV_bool → Qb, vcS → Qc, evA → Qd, evBin → Qe, nilA → Qf, nilOf → Qg, intOp → Qh, strOp → Qi, evUn → Qj, evConv → Qk, evField → Ql, evFieldAddr → Qm, evIndexAddr → Qn, evIndex → Qo, evIndexA → Qp, bnd → Qq, evSlice → Qr, evLen → Qs, evPick → Qt, evExtract → Qu, evNilCheck → Qv, evMin → Qw, evMax → Qx, evLoadI → Qy, partsOne → QA, intsOf → QB, rowsAV → QC, evBuildSlice → QD, evBuild → QE, fillA → QF, splice → QG, evBuiltin → QH, guardD_bool → QI, dOp → QJ, cl → QK, vcLoad → QL, vcStore → QM, vcMake → QN, convA → QO, evIndexArr → QP, retA → QQ, ressA → QR, resA → QS, envOf → QT, condR_bool → QX, asgEnv → QY, parEnv → QZ, dstAt → XI, vcLook → XT, vcPut → XU, vcEnt → XV, vcESt → XW, vcMLen → XX, vcDel → XY, vcClear → XZ, vcLookD → Y0
open Go.Pa.AV renaming cell → Qz
open Go.Pa.Env renaming put → QU
open List renaming set_cons_zero → QV, set_cons_succ → QW, foldl_cons → X0, foldl_nil → X1, map_cons → X2, map_nil → X3, toList_toArray → X4, getElem?_cons_zero → X5, getElem?_cons_succ → X6, nil_append → Xa, append_nil → Xb, cons_append → Xc, singleton_append → Xd, length_cons → Xe, length_nil → Xf, all_cons → Xg, all_nil → Xh, take_succ_cons → Xi, take_zero → Xj, take_nil → Xk, drop_zero → Xl, drop_succ_cons → Xm, drop_nil → Xn, contains_nil → Xo, contains_cons → Xp
open Option renaming bind_some → X7, map_some → X8, map_none → X9
open Bool renaming or_false → Xq, false_or → Xr, or_true → Xs, true_or → Xt, false_eq_true → XC, not_true → XD, not_false → XE, and_true → XF, true_and → XG, and_self → XH
open Nat renaming reduceEqDiff → Xu, reduceAdd → Xv, reduceSub → Xw, reduceMul → Xx, reduceLT → Xy, reduceLeDiff → Xz, reduceBNe → XA, reduceBEq → XB, zero_add → XL, add_zero → XM
open UInt8 renaming reduceToNat → XJ
open Int renaming cast_ofNat_Int → XK, reduceToNat → XN, reduceLT → XO, reduceLE → XP, reduceNeg → XQ, reduceEq → XR, reduceNe → XS
set_option linter.unusedSimpArgs false
set_option linter.unusedVariables false
set_option maxRecDepth 20000
set_option maxHeartbeats 4000000

/-- A ledger of the reference. -/
structure RL (s : Store) (m d : Nat) (D : AV) (es : List Ent) (dn : List Int) : Prop where
  box : s[m]? = some (.box [esV es, D])
  dl : (D = .nils ∧ dn = []) ∨ (D = .mvec d 0 dn.length 1 ∧ s[d]? = some (.vecI .i64 dn))

theorem RL.ne {s : Store} {m d : Nat} {D : AV} {es : List Ent} {dn : List Int} (h : RL s m d D es dn) (hD : dn ≠ []) : m ≠ d := by
  rintro rfl
  rcases h.dl with ⟨_, h1⟩ | ⟨_, h1⟩
  · exact hD h1
  · rw [h.box] at h1; cases h1

theorem RL.lt {s : Store} {m d : Nat} {D : AV} {es : List Ent} {dn : List Int} (h : RL s m d D es dn) {n : Nat} (hn : s.length ≤ n) : D.lt n = true := by
  rcases h.dl with ⟨h1, _⟩ | ⟨h1, h2⟩
  · rw [h1]; rfl
  · rw [h1]
    have := (List.getElem?_eq_some_iff.1 h2).1
    exact decide_eq_true (by omega)

theorem RL.frz {s : Store} {m d : Nat} {D : AV} {es : List Ent} {dn : List Int} (h : RL s m d D es dn) : Frz s 0 D (.ints .i64 dn) := by
  rcases h.dl with ⟨h1, h2⟩ | ⟨h1, h2⟩
  · rw [h1, h2]; exact .nilI _
  · rw [h1]
    have := Frz.vecI (s := s) (n := 0) d 0 dn.length .i64 dn h2 (Nat.zero_le _) (by omega)
    simpa using this

theorem RL.ext {σ s : Store} {m d : Nat} {D : AV} {es : List Ent} {dn : List Int} (h : RL σ m d D es dn) (hx : Ext σ s) : RL s m d D es dn :=
  ⟨hx _ _ h.box, h.dl.imp id fun ⟨h1, h2⟩ => ⟨h1, hx _ _ h2⟩⟩

theorem RL.keep {σ s : Store} {m d a b : Nat} {D : AV} {es : List Ent} {dn : List Int} (h : RL σ m d D es dn) (hf : Fr σ s a b) (h1 : m ≠ a) (h2 : m ≠ b) (h3 : d ≠ a) (h4 : d ≠ b) : RL s m d D es dn :=
  ⟨hf.2 _ _ h.box h1 h2, h.dl.imp id fun ⟨q1, q2⟩ => ⟨q1, hf.2 _ _ q2 h3 h4⟩⟩

theorem rr_PostL (es e : List Ent) (dn : List Int) (hl : es.length ≤ 16384) (he : e.length ≤ 1000) (hV : ∀ x ∈ es, Val x) (σ : Store) (m d : Nat) (D : AV) (h0 : RL σ m d D es dn) :
    ∃ s2, RL s2 m d D (postR es e).2 dn ∧ Fr σ s2 m d ∧ s2.length = σ.length ∧ ACalls Try.prog 41 [.ptr m 0, esV e] σ (fun r s => r = .int .i64 (postR es e).1 ∧ s = s2) := by
  have hml := (List.getElem?_eq_some_iff.1 h0.box).1
  have hne : ∀ k x, σ[k]? = some x → k ≠ m → ∀ o, (σ.set m o)[k]? = some x := fun k x hk h1 o => by rw [List.getElem?_set_ne (Ne.symm h1)]; exact hk
  exact ⟨_, ⟨List.getElem?_set_self hml, h0.dl.imp id fun ⟨h1, h2⟩ => ⟨h1, hne _ _ h2 (fun e => by rw [e, h0.box] at h2; cases h2) _⟩⟩, ⟨by simp, fun k x hk h1 h2 => hne k x hk h1 _⟩, by simp, rr_Post es e hl he hV σ m D (h0.lt (Nat.le_refl _)) h0.box⟩

theorem append_exI {P : Program} {s : Store} {t e : TypeId} {k : IntKind} {d : Nat} {l l' : List Int} {r y : AV} {R : AV → Store → Prop} (hs : sliceElem P t = some (e, 1)) (hb : P.bytesOf e ≠ 0)
    (h : r = .mvec d 0 l.length 1) (hd : s[d]? = some (.vecI k l)) (hc : contA s y = some (.I k l')) (h0 : l' ≠ []) (hf : appFits P e (l.length + l'.length))
    (hR : R (.mvec s.length 0 (l.length + l'.length) 1) (s.set d .dead ++ [.vecI k (l ++ l')])) : vcAppend P t r y s R := by
  subst h
  unfold vcAppend
  simp only [hs, hc, hd]
  exact ⟨hb, trivial, trivial, trivial, trivial, fun h => absurd h h0, fun _ => ⟨hf, hR⟩⟩

theorem append_exN {P : Program} {s : Store} {t e : TypeId} {k : IntKind} {l' : List Int} {y : AV} {R : AV → Store → Prop} (hs : sliceElem P t = some (e, 1)) (hb : P.bytesOf e ≠ 0)
    (hc : contA s y = some (.I k l')) (h0 : l' ≠ []) (hf : appFits P e l'.length) (hR : R (.mvec s.length 0 l'.length 1) (s ++ [.vecI k l'])) : vcAppend P t .nils y s R := by
  unfold vcAppend
  simp only [hs, hc]
  exact ⟨hb, trivial, fun h => absurd h h0, fun _ => ⟨hf, hR⟩⟩

theorem rr_VoidD (es : List Ent) (dn : List Int) (hl : es.length ≤ 16384) (hV : ∀ x ∈ es, Val x) (hdl : dn.length ≤ 100000) (idx day : Int) (hidx : Okk .i64 idx) (σ : Store) (m d : Nat) (D : AV) (h0 : RL σ m d D es dn) :
    ∃ s2 d2 D2, RL s2 m d2 D2 (voidR es dn idx day).2.1 (voidR es dn idx day).2.2 ∧ Fr σ s2 m d ∧ (d2 = d ∨ σ.length ≤ d2) ∧ ACalls Try.prog 40 [.ptr m 0, .int .i64 idx, .int .i64 day] σ (fun r s => r = .int .i64 (voidR es dn idx day).1 ∧ s = s2) := by
  have g1 := h0.box
  have hm := (List.getElem?_eq_some_iff.1 g1).1
  have hio := okk_i64 hidx
  have lm : (es.map entA).length = es.length := List.length_map _
  have hin := inB_iff (n := idx) (lo := 0) (hi := (es.length : Int) - 1)
  have fr0 : Fr σ σ m d := ⟨Nat.le_refl _, fun _ _ h _ _ => h⟩
  have frx : ∀ x, Fr σ (σ ++ [x]) m d := fun x => ⟨by simp, fun k y h _ _ => Ext.app σ _ _ _ h⟩
  have ldx : ∀ x, RL (σ ++ [x]) m d D es dn := fun x => h0.ext (Ext.app σ _)
  unfold voidR
  cases hb1 : inB idx 0 ((es.length : Int) - 1) with
  | false =>
    rw [if_pos rfl]
    refine ⟨σ, d, D, h0, fr0, .inl rfl, ?_⟩
    by_cases hz : idx < 0
    · have d1 : decide (idx < 0) = true := decide_eq_true hz
      refine acalls_of_vc (fn := Try.f40) Try.call40 Try.func40 rfl (by kernel_rfl) (by simp [Try.ntmps40]) ?_; simp -implicitDefEqProofs only [Try.ntmps40,Try.results40,Q0,Q1,Q2,Q3,Q4,Q5,Q6,Q7,Q8,Q9,Qa,Qb,Qc,Qd,Qe,Qf,Qg,Qh,Qi,Qj,Qk,Ql,Qm,Qn,Qo,Qp,Qq,Qr,Qs,Qt,Qu,Qv,Qw,Qx,Qy,Qz,QA,QB,QC,QD,QE,QF,QG,QH,QI,QJ,QK,QL,QM,QN,QO,QP,QQ,QR,QS,QT,QU,QV,QW,QX,QY,QZ,X0,X1,X2,X3,X4,X5,X6,X7,X8,X9,Xa,Xb,Xc,Xd,Xe,Xf,Xg,Xh,Xi,Xj,Xk,Xl,Xm,Xn,Xo,Xp,Xq,Xr,Xs,Xt,Xu,Xv,Xw,Xx,Xy,Xz,XA,XB,reduceIte,reduceCtorEq,XC,XD,XE,XF,XG,XH,XI,XJ,XK,XL,XM,XN,XO,XP,XQ,XR,XS,XT,XU,XV,XW,XX,XY,XZ,Y0,Try.q3,Try.q4,Try.q22,Try.q27,Try.q31,Try.underlying36,Try.q36,Try.q48,Try.underlying50,Try.q50]
      simp -implicitDefEqProofs only [d1,Q0,Q1,Q2,Q3,Q4,Q5,Q6,Q7,Q8,Q9,Qa,Qb,Qc,Qd,Qe,Qf,Qg,Qh,Qi,Qj,Qk,Ql,Qm,Qn,Qo,Qp,Qq,Qr,Qs,Qt,Qu,Qv,Qw,Qx,Qy,Qz,QA,QB,QC,QD,QE,QF,QG,QH,QI,QJ,QK,QL,QM,QN,QO,QP,QQ,QR,QS,QT,QU,QV,QW,QX,QY,QZ,X0,X1,X2,X3,X4,X5,X6,X7,X8,X9,Xa,Xb,Xc,Xd,Xe,Xf,Xg,Xh,Xi,Xj,Xk,Xl,Xm,Xn,Xo,Xp,Xq,Xr,Xs,Xt,Xu,Xv,Xw,Xx,Xy,Xz,XA,XB,reduceIte,reduceCtorEq,XC,XD,XE,XF,XG,XH,XI,XJ,XK,XL,XM,XN,XO,XP,XQ,XR,XS,XT,XU,XV,XW,XX,XY,XZ,Y0,Try.q3,Try.q4,Try.q22,Try.q27,Try.q31,Try.underlying36,Try.q36,Try.q48,Try.underlying50,Try.q50]
    · have d1 : decide (idx < 0) = false := decide_eq_false hz
      have d2 : decide ((es.length : Int) ≤ idx) = true := decide_eq_true (by
        by_cases h : (es.length : Int) ≤ idx
        · exact h
        · rw [hin.2 ⟨by omega, by omega⟩] at hb1; cases hb1)
      refine acalls_of_vc (fn := Try.f40) Try.call40 Try.func40 rfl (by kernel_rfl) (by simp [Try.ntmps40]) ?_; simp -implicitDefEqProofs only [Try.ntmps40,Try.results40,Q0,Q1,Q2,Q3,Q4,Q5,Q6,Q7,Q8,Q9,Qa,Qb,Qc,Qd,Qe,Qf,Qg,Qh,Qi,Qj,Qk,Ql,Qm,Qn,Qo,Qp,Qq,Qr,Qs,Qt,Qu,Qv,Qw,Qx,Qy,Qz,QA,QB,QC,QD,QE,QF,QG,QH,QI,QJ,QK,QL,QM,QN,QO,QP,QQ,QR,QS,QT,QU,QV,QW,QX,QY,QZ,X0,X1,X2,X3,X4,X5,X6,X7,X8,X9,Xa,Xb,Xc,Xd,Xe,Xf,Xg,Xh,Xi,Xj,Xk,Xl,Xm,Xn,Xo,Xp,Xq,Xr,Xs,Xt,Xu,Xv,Xw,Xx,Xy,Xz,XA,XB,reduceIte,reduceCtorEq,XC,XD,XE,XF,XG,XH,XI,XJ,XK,XL,XM,XN,XO,XP,XQ,XR,XS,XT,XU,XV,XW,XX,XY,XZ,Y0,Try.q3,Try.q4,Try.q22,Try.q27,Try.q31,Try.underlying36,Try.q36,Try.q48,Try.underlying50,Try.q50]
      simp -implicitDefEqProofs only [d1,g1,lm,d2,Q0,Q1,Q2,Q3,Q4,Q5,Q6,Q7,Q8,Q9,Qa,Qb,Qc,Qd,Qe,Qf,Qg,Qh,Qi,Qj,Qk,Ql,Qm,Qn,Qo,Qp,Qq,Qr,Qs,Qt,Qu,Qv,Qw,Qx,Qy,Qz,QA,QB,QC,QD,QE,QF,QG,QH,QI,QJ,QK,QL,QM,QN,QO,QP,QQ,QR,QS,QT,QU,QV,QW,QX,QY,QZ,X0,X1,X2,X3,X4,X5,X6,X7,X8,X9,Xa,Xb,Xc,Xd,Xe,Xf,Xg,Xh,Xi,Xj,Xk,Xl,Xm,Xn,Xo,Xp,Xq,Xr,Xs,Xt,Xu,Xv,Xw,Xx,Xy,Xz,XA,XB,reduceIte,reduceCtorEq,XC,XD,XE,XF,XG,XH,XI,XJ,XK,XL,XM,XN,XO,XP,XQ,XR,XS,XT,XU,XV,XW,XX,XY,XZ,Y0,Try.q3,Try.q4,Try.q22,Try.q27,Try.q31,Try.underlying36,Try.q36,Try.q48,Try.underlying50,Try.q50]
  | true =>
    rw [if_neg (by decide)]
    have hix := hin.1 hb1
    have d1 : decide (idx < 0) = false := decide_eq_false (by omega)
    have d2 : decide ((es.length : Int) ≤ idx) = false := decide_eq_false (by omega)
    have hixl : idx.toNat < es.length := by omega
    have hrow : (es.map entA).getD idx.toNat [] = entA (es.getD idx.toNat default) := by rw [getD_get (by simpa using hixl), getD_get hixl]; simp
    have hve : Val (es.getD idx.toNat default) := hV _ (getD_mem hixl)
    generalize es.getD idx.toNat default = e at *
    have hrow2 : (es.map entA).getD idx.toNat [] = [.int .i64 e.day, .int .i64 e.fr, .int .i64 e.to, .int .i64 e.cur, .int .i64 e.amt, .int .i64 e.note] := hrow
    have bi : 0 ≤ idx ∧ idx < (es.length : Int) := by omega
    have k2 := rr_in day e.day 131072
    have hin2 := inB_iff (n := day) (lo := e.day) (hi := 131072)
    cases hb2 : inB day e.day 131072 with
    | false =>
      rw [hb2] at k2
      rw [if_pos rfl]
      refine ⟨_, d, D, ldx (.box [.int .i64 e.day, .int .i64 e.fr, .int .i64 e.to, .int .i64 e.cur, .int .i64 e.amt, .int .i64 e.note]), frx _, .inl rfl, ?_⟩
      refine acalls_of_vc (fn := Try.f40) Try.call40 Try.func40 rfl (by kernel_rfl) (by simp [Try.ntmps40]) ?_; simp -implicitDefEqProofs only [Try.ntmps40,Try.results40,Q0,Q1,Q2,Q3,Q4,Q5,Q6,Q7,Q8,Q9,Qa,Qb,Qc,Qd,Qe,Qf,Qg,Qh,Qi,Qj,Qk,Ql,Qm,Qn,Qo,Qp,Qq,Qr,Qs,Qt,Qu,Qv,Qw,Qx,Qy,Qz,QA,QB,QC,QD,QE,QF,QG,QH,QI,QJ,QK,QL,QM,QN,QO,QP,QQ,QR,QS,QT,QU,QV,QW,QX,QY,QZ,X0,X1,X2,X3,X4,X5,X6,X7,X8,X9,Xa,Xb,Xc,Xd,Xe,Xf,Xg,Xh,Xi,Xj,Xk,Xl,Xm,Xn,Xo,Xp,Xq,Xr,Xs,Xt,Xu,Xv,Xw,Xx,Xy,Xz,XA,XB,reduceIte,reduceCtorEq,XC,XD,XE,XF,XG,XH,XI,XJ,XK,XL,XM,XN,XO,XP,XQ,XR,XS,XT,XU,XV,XW,XX,XY,XZ,Y0,Try.q3,Try.q4,Try.q22,Try.q27,Try.q31,Try.underlying36,Try.q36,Try.q48,Try.underlying50,Try.q50]
      simp -implicitDefEqProofs only [d1,g1,lm,d2,hrow2,Q0,Q1,Q2,Q3,Q4,Q5,Q6,Q7,Q8,Q9,Qa,Qb,Qc,Qd,Qe,Qf,Qg,Qh,Qi,Qj,Qk,Ql,Qm,Qn,Qo,Qp,Qq,Qr,Qs,Qt,Qu,Qv,Qw,Qx,Qy,Qz,QA,QB,QC,QD,QE,QF,QG,QH,QI,QJ,QK,QL,QM,QN,QO,QP,QQ,QR,QS,QT,QU,QV,QW,QX,QY,QZ,X0,X1,X2,X3,X4,X5,X6,X7,X8,X9,Xa,Xb,Xc,Xd,Xe,Xf,Xg,Xh,Xi,Xj,Xk,Xl,Xm,Xn,Xo,Xp,Xq,Xr,Xs,Xt,Xu,Xv,Xw,Xx,Xy,Xz,XA,XB,reduceIte,reduceCtorEq,XC,XD,XE,XF,XG,XH,XI,XJ,XK,XL,XM,XN,XO,XP,XQ,XR,XS,XT,XU,XV,XW,XX,XY,XZ,Y0,Try.q3,Try.q4,Try.q22,Try.q27,Try.q31,Try.underlying36,Try.q36,Try.q48,Try.underlying50,Try.q50]
      refine ⟨bi, ?_⟩
      refine acalls_then (k2 _) ?_
      simp -implicitDefEqProofs only [Q0,Q1,Q2,Q3,Q4,Q5,Q6,Q7,Q8,Q9,Qa,Qb,Qc,Qd,Qe,Qf,Qg,Qh,Qi,Qj,Qk,Ql,Qm,Qn,Qo,Qp,Qq,Qr,Qs,Qt,Qu,Qv,Qw,Qx,Qy,Qz,QA,QB,QC,QD,QE,QF,QG,QH,QI,QJ,QK,QL,QM,QN,QO,QP,QQ,QR,QS,QT,QU,QV,QW,QX,QY,QZ,X0,X1,X2,X3,X4,X5,X6,X7,X8,X9,Xa,Xb,Xc,Xd,Xe,Xf,Xg,Xh,Xi,Xj,Xk,Xl,Xm,Xn,Xo,Xp,Xq,Xr,Xs,Xt,Xu,Xv,Xw,Xx,Xy,Xz,XA,XB,reduceIte,reduceCtorEq,XC,XD,XE,XF,XG,XH,XI,XJ,XK,XL,XM,XN,XO,XP,XQ,XR,XS,XT,XU,XV,XW,XX,XY,XZ,Y0,Try.q3,Try.q4,Try.q22,Try.q27,Try.q31,Try.underlying36,Try.q36,Try.q48,Try.underlying50,Try.q50]
    | true =>
      rw [hb2] at k2
      rw [if_neg (by decide)]
      have hda := hin2.1 hb2
      have hvo := opp_val hve (idx := idx) (day := day) (by omega) hda
      have hk1 := ldx (.box [.int .i64 e.day, .int .i64 e.fr, .int .i64 e.to, .int .i64 e.cur, .int .i64 e.amt, .int .i64 e.note])
      have gx := hk1.box
      have kh := ACalls.lend (r_has dn idx (by omega) []) (.cons hk1.frz (.cons (.same _ rfl) .nil)) rfl rfl
      have frx1 := frx (.box [.int .i64 e.day, .int .i64 e.fr, .int .i64 e.to, .int .i64 e.cur, .int .i64 e.amt, .int .i64 e.note])
      have hs1l : (σ ++ [AObj.box [.int .i64 e.day, .int .i64 e.fr, .int .i64 e.to, .int .i64 e.cur, .int .i64 e.amt, .int .i64 e.note]]).length = σ.length + 1 := by simp
      have gq : (σ ++ [AObj.box [.int .i64 e.day, .int .i64 e.fr, .int .i64 e.to, .int .i64 e.cur, .int .i64 e.amt, .int .i64 e.note]])[σ.length]? = some (.box [.int .i64 e.day, .int .i64 e.fr, .int .i64 e.to, .int .i64 e.cur, .int .i64 e.amt, .int .i64 e.note]) := by simp
      by_cases hdn : idx ∈ dn
      · rw [if_pos hdn]
        rw [decide_eq_true hdn] at kh
        refine ⟨_, d, D, hk1, frx1, .inl rfl, ?_⟩
        refine acalls_of_vc (fn := Try.f40) Try.call40 Try.func40 rfl (by kernel_rfl) (by simp [Try.ntmps40]) ?_; simp -implicitDefEqProofs only [Try.ntmps40,Try.results40,Q0,Q1,Q2,Q3,Q4,Q5,Q6,Q7,Q8,Q9,Qa,Qb,Qc,Qd,Qe,Qf,Qg,Qh,Qi,Qj,Qk,Ql,Qm,Qn,Qo,Qp,Qq,Qr,Qs,Qt,Qu,Qv,Qw,Qx,Qy,Qz,QA,QB,QC,QD,QE,QF,QG,QH,QI,QJ,QK,QL,QM,QN,QO,QP,QQ,QR,QS,QT,QU,QV,QW,QX,QY,QZ,X0,X1,X2,X3,X4,X5,X6,X7,X8,X9,Xa,Xb,Xc,Xd,Xe,Xf,Xg,Xh,Xi,Xj,Xk,Xl,Xm,Xn,Xo,Xp,Xq,Xr,Xs,Xt,Xu,Xv,Xw,Xx,Xy,Xz,XA,XB,reduceIte,reduceCtorEq,XC,XD,XE,XF,XG,XH,XI,XJ,XK,XL,XM,XN,XO,XP,XQ,XR,XS,XT,XU,XV,XW,XX,XY,XZ,Y0,Try.q3,Try.q4,Try.q22,Try.q27,Try.q31,Try.underlying36,Try.q36,Try.q48,Try.underlying50,Try.q50]
        simp -implicitDefEqProofs only [d1,g1,lm,d2,hrow2,Q0,Q1,Q2,Q3,Q4,Q5,Q6,Q7,Q8,Q9,Qa,Qb,Qc,Qd,Qe,Qf,Qg,Qh,Qi,Qj,Qk,Ql,Qm,Qn,Qo,Qp,Qq,Qr,Qs,Qt,Qu,Qv,Qw,Qx,Qy,Qz,QA,QB,QC,QD,QE,QF,QG,QH,QI,QJ,QK,QL,QM,QN,QO,QP,QQ,QR,QS,QT,QU,QV,QW,QX,QY,QZ,X0,X1,X2,X3,X4,X5,X6,X7,X8,X9,Xa,Xb,Xc,Xd,Xe,Xf,Xg,Xh,Xi,Xj,Xk,Xl,Xm,Xn,Xo,Xp,Xq,Xr,Xs,Xt,Xu,Xv,Xw,Xx,Xy,Xz,XA,XB,reduceIte,reduceCtorEq,XC,XD,XE,XF,XG,XH,XI,XJ,XK,XL,XM,XN,XO,XP,XQ,XR,XS,XT,XU,XV,XW,XX,XY,XZ,Y0,Try.q3,Try.q4,Try.q22,Try.q27,Try.q31,Try.underlying36,Try.q36,Try.q48,Try.underlying50,Try.q50]
        refine ⟨bi, ?_⟩
        refine acalls_then (k2 _) ?_
        simp -implicitDefEqProofs only [gx,Q0,Q1,Q2,Q3,Q4,Q5,Q6,Q7,Q8,Q9,Qa,Qb,Qc,Qd,Qe,Qf,Qg,Qh,Qi,Qj,Qk,Ql,Qm,Qn,Qo,Qp,Qq,Qr,Qs,Qt,Qu,Qv,Qw,Qx,Qy,Qz,QA,QB,QC,QD,QE,QF,QG,QH,QI,QJ,QK,QL,QM,QN,QO,QP,QQ,QR,QS,QT,QU,QV,QW,QX,QY,QZ,X0,X1,X2,X3,X4,X5,X6,X7,X8,X9,Xa,Xb,Xc,Xd,Xe,Xf,Xg,Xh,Xi,Xj,Xk,Xl,Xm,Xn,Xo,Xp,Xq,Xr,Xs,Xt,Xu,Xv,Xw,Xx,Xy,Xz,XA,XB,reduceIte,reduceCtorEq,XC,XD,XE,XF,XG,XH,XI,XJ,XK,XL,XM,XN,XO,XP,XQ,XR,XS,XT,XU,XV,XW,XX,XY,XZ,Y0,Try.q3,Try.q4,Try.q22,Try.q27,Try.q31,Try.underlying36,Try.q36,Try.q48,Try.underlying50,Try.q50]
        refine acalls_then (kh) ?_
        simp -implicitDefEqProofs only [Q0,Q1,Q2,Q3,Q4,Q5,Q6,Q7,Q8,Q9,Qa,Qb,Qc,Qd,Qe,Qf,Qg,Qh,Qi,Qj,Qk,Ql,Qm,Qn,Qo,Qp,Qq,Qr,Qs,Qt,Qu,Qv,Qw,Qx,Qy,Qz,QA,QB,QC,QD,QE,QF,QG,QH,QI,QJ,QK,QL,QM,QN,QO,QP,QQ,QR,QS,QT,QU,QV,QW,QX,QY,QZ,X0,X1,X2,X3,X4,X5,X6,X7,X8,X9,Xa,Xb,Xc,Xd,Xe,Xf,Xg,Xh,Xi,Xj,Xk,Xl,Xm,Xn,Xo,Xp,Xq,Xr,Xs,Xt,Xu,Xv,Xw,Xx,Xy,Xz,XA,XB,reduceIte,reduceCtorEq,XC,XD,XE,XF,XG,XH,XI,XJ,XK,XL,XM,XN,XO,XP,XQ,XR,XS,XT,XU,XV,XW,XX,XY,XZ,Y0,Try.q3,Try.q4,Try.q22,Try.q27,Try.q31,Try.underlying36,Try.q36,Try.q48,Try.underlying50,Try.q50]
      · rw [if_neg hdn]
        rw [decide_eq_false hdn] at kh
        have k3 := rr_add es [oppE e idx day] hl (by simp) hV (by intro x hx; simp at hx; subst hx; exact hvo) _ m D (hk1.lt (Nat.le_refl _)) gx
        have ne1 := @addR_ne es [oppE e idx day]
        have eq1 := @addR_eq es [oppE e idx day]
        generalize addR es [oppE e idx day] = A at *
        obtain ⟨code, es'⟩ := A
        simp only at k3 ne1 eq1 ⊢
        by_cases hc0 : code = 0
        · subst hc0
          rw [if_neg (by simp)]
          obtain ⟨hes, hle⟩ := eq1 rfl
          subst hes
          have lm2 : ((es ++ [oppE e idx day]).map entA).length = es.length + 1 := by simp
          have w2 : IntKind.i64.wrap (((es.length + 1 : Nat) : Int) - 1) = (es.length : Int) := by rw [wrap_i64 (by omega) (by omega)]; omega
          obtain ⟨s, hs⟩ : ∃ s : Store, s = (σ ++ [AObj.box [.int .i64 e.day, .int .i64 e.fr, .int .i64 e.to, .int .i64 e.cur, .int .i64 e.amt, .int .i64 e.note]]).set m (AObj.box [esV (es ++ [oppE e idx day]), D]) := ⟨_, rfl⟩
          have hG : s[m]? = some (.box [esV (es ++ [oppE e idx day]), D]) := by rw [hs]; exact List.getElem?_set_self (by simp; omega)
          have hsl : s.length = σ.length + 1 := by rw [hs]; simp
          have hne : ∀ k x, σ[k]? = some x → k ≠ m → s[k]? = some x := fun k x hk h1 => by
            rw [hs, List.getElem?_set_ne (Ne.symm h1)]
            exact Ext.app σ _ _ _ hk
          rw [← hs] at k3
          clear hs
          rcases h0.dl with ⟨q1, q2⟩ | ⟨q1, q2⟩
          · subst q1
            subst q2
            refine ⟨(s ++ [AObj.vecI .i64 [idx, (es.length : Int)]]).set m (.box [esV (es ++ [oppE e idx day]), .mvec s.length 0 2 1]), s.length, .mvec s.length 0 2 1, ⟨List.getElem?_set_self (by simp; omega), .inr ⟨rfl, by rw [List.getElem?_set_ne (by omega)]; simp⟩⟩, ⟨by simp; omega, fun k x hk h1 h2 => ?_⟩, .inr (by omega), ?_⟩
            · rw [List.getElem?_set_ne (Ne.symm h1)]
              exact Ext.app s _ _ _ (hne k x hk h1)
            refine acalls_of_vc (fn := Try.f40) Try.call40 Try.func40 rfl (by kernel_rfl) (by simp [Try.ntmps40]) ?_; simp -implicitDefEqProofs only [Try.ntmps40,Try.results40,Q0,Q1,Q2,Q3,Q4,Q5,Q6,Q7,Q8,Q9,Qa,Qb,Qc,Qd,Qe,Qf,Qg,Qh,Qi,Qj,Qk,Ql,Qm,Qn,Qo,Qp,Qq,Qr,Qs,Qt,Qu,Qv,Qw,Qx,Qy,Qz,QA,QB,QC,QD,QE,QF,QG,QH,QI,QJ,QK,QL,QM,QN,QO,QP,QQ,QR,QS,QT,QU,QV,QW,QX,QY,QZ,X0,X1,X2,X3,X4,X5,X6,X7,X8,X9,Xa,Xb,Xc,Xd,Xe,Xf,Xg,Xh,Xi,Xj,Xk,Xl,Xm,Xn,Xo,Xp,Xq,Xr,Xs,Xt,Xu,Xv,Xw,Xx,Xy,Xz,XA,XB,reduceIte,reduceCtorEq,XC,XD,XE,XF,XG,XH,XI,XJ,XK,XL,XM,XN,XO,XP,XQ,XR,XS,XT,XU,XV,XW,XX,XY,XZ,Y0,Try.q3,Try.q4,Try.q22,Try.q27,Try.q31,Try.underlying36,Try.q36,Try.q48,Try.underlying50,Try.q50]
            simp -implicitDefEqProofs only [d1,g1,lm,d2,hrow2,Q0,Q1,Q2,Q3,Q4,Q5,Q6,Q7,Q8,Q9,Qa,Qb,Qc,Qd,Qe,Qf,Qg,Qh,Qi,Qj,Qk,Ql,Qm,Qn,Qo,Qp,Qq,Qr,Qs,Qt,Qu,Qv,Qw,Qx,Qy,Qz,QA,QB,QC,QD,QE,QF,QG,QH,QI,QJ,QK,QL,QM,QN,QO,QP,QQ,QR,QS,QT,QU,QV,QW,QX,QY,QZ,X0,X1,X2,X3,X4,X5,X6,X7,X8,X9,Xa,Xb,Xc,Xd,Xe,Xf,Xg,Xh,Xi,Xj,Xk,Xl,Xm,Xn,Xo,Xp,Xq,Xr,Xs,Xt,Xu,Xv,Xw,Xx,Xy,Xz,XA,XB,reduceIte,reduceCtorEq,XC,XD,XE,XF,XG,XH,XI,XJ,XK,XL,XM,XN,XO,XP,XQ,XR,XS,XT,XU,XV,XW,XX,XY,XZ,Y0,Try.q3,Try.q4,Try.q22,Try.q27,Try.q31,Try.underlying36,Try.q36,Try.q48,Try.underlying50,Try.q50]
            refine ⟨bi, ?_⟩
            refine acalls_then (k2 _) ?_
            simp -implicitDefEqProofs only [gx,Q0,Q1,Q2,Q3,Q4,Q5,Q6,Q7,Q8,Q9,Qa,Qb,Qc,Qd,Qe,Qf,Qg,Qh,Qi,Qj,Qk,Ql,Qm,Qn,Qo,Qp,Qq,Qr,Qs,Qt,Qu,Qv,Qw,Qx,Qy,Qz,QA,QB,QC,QD,QE,QF,QG,QH,QI,QJ,QK,QL,QM,QN,QO,QP,QQ,QR,QS,QT,QU,QV,QW,QX,QY,QZ,X0,X1,X2,X3,X4,X5,X6,X7,X8,X9,Xa,Xb,Xc,Xd,Xe,Xf,Xg,Xh,Xi,Xj,Xk,Xl,Xm,Xn,Xo,Xp,Xq,Xr,Xs,Xt,Xu,Xv,Xw,Xx,Xy,Xz,XA,XB,reduceIte,reduceCtorEq,XC,XD,XE,XF,XG,XH,XI,XJ,XK,XL,XM,XN,XO,XP,XQ,XR,XS,XT,XU,XV,XW,XX,XY,XZ,Y0,Try.q3,Try.q4,Try.q22,Try.q27,Try.q31,Try.underlying36,Try.q36,Try.q48,Try.underlying50,Try.q50]
            refine acalls_then (kh) ?_
            simp -implicitDefEqProofs only [gq,Q0,Q1,Q2,Q3,Q4,Q5,Q6,Q7,Q8,Q9,Qa,Qb,Qc,Qd,Qe,Qf,Qg,Qh,Qi,Qj,Qk,Ql,Qm,Qn,Qo,Qp,Qq,Qr,Qs,Qt,Qu,Qv,Qw,Qx,Qy,Qz,QA,QB,QC,QD,QE,QF,QG,QH,QI,QJ,QK,QL,QM,QN,QO,QP,QQ,QR,QS,QT,QU,QV,QW,QX,QY,QZ,X0,X1,X2,X3,X4,X5,X6,X7,X8,X9,Xa,Xb,Xc,Xd,Xe,Xf,Xg,Xh,Xi,Xj,Xk,Xl,Xm,Xn,Xo,Xp,Xq,Xr,Xs,Xt,Xu,Xv,Xw,Xx,Xy,Xz,XA,XB,reduceIte,reduceCtorEq,XC,XD,XE,XF,XG,XH,XI,XJ,XK,XL,XM,XN,XO,XP,XQ,XR,XS,XT,XU,XV,XW,XX,XY,XZ,Y0,Try.q3,Try.q4,Try.q22,Try.q27,Try.q31,Try.underlying36,Try.q36,Try.q48,Try.underlying50,Try.q50]
            refine acalls_then (k3) ?_
            simp -implicitDefEqProofs only [Q0,Q1,Q2,Q3,Q4,Q5,Q6,Q7,Q8,Q9,Qa,Qb,Qc,Qd,Qe,Qf,Qg,Qh,Qi,Qj,Qk,Ql,Qm,Qn,Qo,Qp,Qq,Qr,Qs,Qt,Qu,Qv,Qw,Qx,Qy,Qz,QA,QB,QC,QD,QE,QF,QG,QH,QI,QJ,QK,QL,QM,QN,QO,QP,QQ,QR,QS,QT,QU,QV,QW,QX,QY,QZ,X0,X1,X2,X3,X4,X5,X6,X7,X8,X9,Xa,Xb,Xc,Xd,Xe,Xf,Xg,Xh,Xi,Xj,Xk,Xl,Xm,Xn,Xo,Xp,Xq,Xr,Xs,Xt,Xu,Xv,Xw,Xx,Xy,Xz,XA,XB,reduceIte,reduceCtorEq,XC,XD,XE,XF,XG,XH,XI,XJ,XK,XL,XM,XN,XO,XP,XQ,XR,XS,XT,XU,XV,XW,XX,XY,XZ,Y0,Try.q3,Try.q4,Try.q22,Try.q27,Try.q31,Try.underlying36,Try.q36,Try.q48,Try.underlying50,Try.q50]
            refine awp_draws [13, 16, 100004, 100009] Try.mixed (by kernel_rfl) ?_
            simp -implicitDefEqProofs only [hG,lm2,w2,Q0,Q1,Q2,Q3,Q4,Q5,Q6,Q7,Q8,Q9,Qa,Qb,Qc,Qd,Qe,Qf,Qg,Qh,Qi,Qj,Qk,Ql,Qm,Qn,Qo,Qp,Qq,Qr,Qs,Qt,Qu,Qv,Qw,Qx,Qy,Qz,QA,QB,QC,QD,QE,QF,QG,QH,QI,QJ,QK,QL,QM,QN,QO,QP,QQ,QR,QS,QT,QU,QV,QW,QX,QY,QZ,X0,X1,X2,X3,X4,X5,X6,X7,X8,X9,Xa,Xb,Xc,Xd,Xe,Xf,Xg,Xh,Xi,Xj,Xk,Xl,Xm,Xn,Xo,Xp,Xq,Xr,Xs,Xt,Xu,Xv,Xw,Xx,Xy,Xz,XA,XB,reduceIte,reduceCtorEq,XC,XD,XE,XF,XG,XH,XI,XJ,XK,XL,XM,XN,XO,XP,XQ,XR,XS,XT,XU,XV,XW,XX,XY,XZ,Y0,Try.q3,Try.q4,Try.q22,Try.q27,Try.q31,Try.underlying36,Try.q36,Try.q48,Try.underlying50,Try.q50]
            refine append_exN Try.sl22 (by simp [Try.bt3]) rfl (by simp) (by simp [appFits, Try.bt3]) ?_
            have hG2 := fun x => Ext.app s x _ _ hG
            simp -implicitDefEqProofs only [hG2,lm2,w2,Q0,Q1,Q2,Q3,Q4,Q5,Q6,Q7,Q8,Q9,Qa,Qb,Qc,Qd,Qe,Qf,Qg,Qh,Qi,Qj,Qk,Ql,Qm,Qn,Qo,Qp,Qq,Qr,Qs,Qt,Qu,Qv,Qw,Qx,Qy,Qz,QA,QB,QC,QD,QE,QF,QG,QH,QI,QJ,QK,QL,QM,QN,QO,QP,QQ,QR,QS,QT,QU,QV,QW,QX,QY,QZ,X0,X1,X2,X3,X4,X5,X6,X7,X8,X9,Xa,Xb,Xc,Xd,Xe,Xf,Xg,Xh,Xi,Xj,Xk,Xl,Xm,Xn,Xo,Xp,Xq,Xr,Xs,Xt,Xu,Xv,Xw,Xx,Xy,Xz,XA,XB,reduceIte,reduceCtorEq,XC,XD,XE,XF,XG,XH,XI,XJ,XK,XL,XM,XN,XO,XP,XQ,XR,XS,XT,XU,XV,XW,XX,XY,XZ,Y0,Try.q3,Try.q4,Try.q22,Try.q27,Try.q31,Try.underlying36,Try.q36,Try.q48,Try.underlying50,Try.q50]
          · subst q1
            have hmd : m ≠ d := fun e => by rw [← e, g1] at q2; cases q2
            have hds := hne _ _ q2 (Ne.symm hmd)
            have hdl2 := (List.getElem?_eq_some_iff.1 q2).1
            refine ⟨(s.set d .dead ++ [AObj.vecI .i64 (dn ++ [idx, (es.length : Int)])]).set m (.box [esV (es ++ [oppE e idx day]), .mvec s.length 0 (dn.length + 2) 1]), s.length, .mvec s.length 0 (dn.length + 2) 1, ⟨List.getElem?_set_self (by simp; omega), .inr ⟨by simp, by rw [List.getElem?_set_ne (by omega), List.getElem?_append_right (by simp)]; simp⟩⟩, ⟨by simp; omega, fun k x hk h1 h2 => ?_⟩, .inr (by omega), ?_⟩
            · rw [List.getElem?_set_ne (Ne.symm h1), List.getElem?_append_left (by rw [List.length_set]; have := (List.getElem?_eq_some_iff.1 hk).1; omega), List.getElem?_set_ne (Ne.symm h2)]
              exact hne k x hk h1
            refine acalls_of_vc (fn := Try.f40) Try.call40 Try.func40 rfl (by kernel_rfl) (by simp [Try.ntmps40]) ?_; simp -implicitDefEqProofs only [Try.ntmps40,Try.results40,Q0,Q1,Q2,Q3,Q4,Q5,Q6,Q7,Q8,Q9,Qa,Qb,Qc,Qd,Qe,Qf,Qg,Qh,Qi,Qj,Qk,Ql,Qm,Qn,Qo,Qp,Qq,Qr,Qs,Qt,Qu,Qv,Qw,Qx,Qy,Qz,QA,QB,QC,QD,QE,QF,QG,QH,QI,QJ,QK,QL,QM,QN,QO,QP,QQ,QR,QS,QT,QU,QV,QW,QX,QY,QZ,X0,X1,X2,X3,X4,X5,X6,X7,X8,X9,Xa,Xb,Xc,Xd,Xe,Xf,Xg,Xh,Xi,Xj,Xk,Xl,Xm,Xn,Xo,Xp,Xq,Xr,Xs,Xt,Xu,Xv,Xw,Xx,Xy,Xz,XA,XB,reduceIte,reduceCtorEq,XC,XD,XE,XF,XG,XH,XI,XJ,XK,XL,XM,XN,XO,XP,XQ,XR,XS,XT,XU,XV,XW,XX,XY,XZ,Y0,Try.q3,Try.q4,Try.q22,Try.q27,Try.q31,Try.underlying36,Try.q36,Try.q48,Try.underlying50,Try.q50]
            simp -implicitDefEqProofs only [d1,g1,lm,d2,hrow2,Q0,Q1,Q2,Q3,Q4,Q5,Q6,Q7,Q8,Q9,Qa,Qb,Qc,Qd,Qe,Qf,Qg,Qh,Qi,Qj,Qk,Ql,Qm,Qn,Qo,Qp,Qq,Qr,Qs,Qt,Qu,Qv,Qw,Qx,Qy,Qz,QA,QB,QC,QD,QE,QF,QG,QH,QI,QJ,QK,QL,QM,QN,QO,QP,QQ,QR,QS,QT,QU,QV,QW,QX,QY,QZ,X0,X1,X2,X3,X4,X5,X6,X7,X8,X9,Xa,Xb,Xc,Xd,Xe,Xf,Xg,Xh,Xi,Xj,Xk,Xl,Xm,Xn,Xo,Xp,Xq,Xr,Xs,Xt,Xu,Xv,Xw,Xx,Xy,Xz,XA,XB,reduceIte,reduceCtorEq,XC,XD,XE,XF,XG,XH,XI,XJ,XK,XL,XM,XN,XO,XP,XQ,XR,XS,XT,XU,XV,XW,XX,XY,XZ,Y0,Try.q3,Try.q4,Try.q22,Try.q27,Try.q31,Try.underlying36,Try.q36,Try.q48,Try.underlying50,Try.q50]
            refine ⟨bi, ?_⟩
            refine acalls_then (k2 _) ?_
            simp -implicitDefEqProofs only [gx,Q0,Q1,Q2,Q3,Q4,Q5,Q6,Q7,Q8,Q9,Qa,Qb,Qc,Qd,Qe,Qf,Qg,Qh,Qi,Qj,Qk,Ql,Qm,Qn,Qo,Qp,Qq,Qr,Qs,Qt,Qu,Qv,Qw,Qx,Qy,Qz,QA,QB,QC,QD,QE,QF,QG,QH,QI,QJ,QK,QL,QM,QN,QO,QP,QQ,QR,QS,QT,QU,QV,QW,QX,QY,QZ,X0,X1,X2,X3,X4,X5,X6,X7,X8,X9,Xa,Xb,Xc,Xd,Xe,Xf,Xg,Xh,Xi,Xj,Xk,Xl,Xm,Xn,Xo,Xp,Xq,Xr,Xs,Xt,Xu,Xv,Xw,Xx,Xy,Xz,XA,XB,reduceIte,reduceCtorEq,XC,XD,XE,XF,XG,XH,XI,XJ,XK,XL,XM,XN,XO,XP,XQ,XR,XS,XT,XU,XV,XW,XX,XY,XZ,Y0,Try.q3,Try.q4,Try.q22,Try.q27,Try.q31,Try.underlying36,Try.q36,Try.q48,Try.underlying50,Try.q50]
            refine acalls_then (kh) ?_
            simp -implicitDefEqProofs only [gq,Q0,Q1,Q2,Q3,Q4,Q5,Q6,Q7,Q8,Q9,Qa,Qb,Qc,Qd,Qe,Qf,Qg,Qh,Qi,Qj,Qk,Ql,Qm,Qn,Qo,Qp,Qq,Qr,Qs,Qt,Qu,Qv,Qw,Qx,Qy,Qz,QA,QB,QC,QD,QE,QF,QG,QH,QI,QJ,QK,QL,QM,QN,QO,QP,QQ,QR,QS,QT,QU,QV,QW,QX,QY,QZ,X0,X1,X2,X3,X4,X5,X6,X7,X8,X9,Xa,Xb,Xc,Xd,Xe,Xf,Xg,Xh,Xi,Xj,Xk,Xl,Xm,Xn,Xo,Xp,Xq,Xr,Xs,Xt,Xu,Xv,Xw,Xx,Xy,Xz,XA,XB,reduceIte,reduceCtorEq,XC,XD,XE,XF,XG,XH,XI,XJ,XK,XL,XM,XN,XO,XP,XQ,XR,XS,XT,XU,XV,XW,XX,XY,XZ,Y0,Try.q3,Try.q4,Try.q22,Try.q27,Try.q31,Try.underlying36,Try.q36,Try.q48,Try.underlying50,Try.q50]
            refine acalls_then (k3) ?_
            simp -implicitDefEqProofs only [Q0,Q1,Q2,Q3,Q4,Q5,Q6,Q7,Q8,Q9,Qa,Qb,Qc,Qd,Qe,Qf,Qg,Qh,Qi,Qj,Qk,Ql,Qm,Qn,Qo,Qp,Qq,Qr,Qs,Qt,Qu,Qv,Qw,Qx,Qy,Qz,QA,QB,QC,QD,QE,QF,QG,QH,QI,QJ,QK,QL,QM,QN,QO,QP,QQ,QR,QS,QT,QU,QV,QW,QX,QY,QZ,X0,X1,X2,X3,X4,X5,X6,X7,X8,X9,Xa,Xb,Xc,Xd,Xe,Xf,Xg,Xh,Xi,Xj,Xk,Xl,Xm,Xn,Xo,Xp,Xq,Xr,Xs,Xt,Xu,Xv,Xw,Xx,Xy,Xz,XA,XB,reduceIte,reduceCtorEq,XC,XD,XE,XF,XG,XH,XI,XJ,XK,XL,XM,XN,XO,XP,XQ,XR,XS,XT,XU,XV,XW,XX,XY,XZ,Y0,Try.q3,Try.q4,Try.q22,Try.q27,Try.q31,Try.underlying36,Try.q36,Try.q48,Try.underlying50,Try.q50]
            refine awp_draws [13, 16, 100004, 100009] Try.mixed (by kernel_rfl) ?_
            simp -implicitDefEqProofs only [hG,lm2,w2,Q0,Q1,Q2,Q3,Q4,Q5,Q6,Q7,Q8,Q9,Qa,Qb,Qc,Qd,Qe,Qf,Qg,Qh,Qi,Qj,Qk,Ql,Qm,Qn,Qo,Qp,Qq,Qr,Qs,Qt,Qu,Qv,Qw,Qx,Qy,Qz,QA,QB,QC,QD,QE,QF,QG,QH,QI,QJ,QK,QL,QM,QN,QO,QP,QQ,QR,QS,QT,QU,QV,QW,QX,QY,QZ,X0,X1,X2,X3,X4,X5,X6,X7,X8,X9,Xa,Xb,Xc,Xd,Xe,Xf,Xg,Xh,Xi,Xj,Xk,Xl,Xm,Xn,Xo,Xp,Xq,Xr,Xs,Xt,Xu,Xv,Xw,Xx,Xy,Xz,XA,XB,reduceIte,reduceCtorEq,XC,XD,XE,XF,XG,XH,XI,XJ,XK,XL,XM,XN,XO,XP,XQ,XR,XS,XT,XU,XV,XW,XX,XY,XZ,Y0,Try.q3,Try.q4,Try.q22,Try.q27,Try.q31,Try.underlying36,Try.q36,Try.q48,Try.underlying50,Try.q50]
            refine append_exI Try.sl22 (by simp [Try.bt3]) rfl hds rfl (by simp) (by simp only [appFits, Try.bt3, List.length_cons, List.length_nil]; omega) ?_
            have hG2 : ∀ x, (s.set d .dead ++ [x])[m]? = some (.box [esV (es ++ [oppE e idx day]), .mvec d 0 dn.length 1]) := fun x => by
              rw [List.getElem?_append_left (by simp; omega), List.getElem?_set_ne (Ne.symm hmd)]; exact hG
            simp -implicitDefEqProofs only [hG2,lm2,w2,Q0,Q1,Q2,Q3,Q4,Q5,Q6,Q7,Q8,Q9,Qa,Qb,Qc,Qd,Qe,Qf,Qg,Qh,Qi,Qj,Qk,Ql,Qm,Qn,Qo,Qp,Qq,Qr,Qs,Qt,Qu,Qv,Qw,Qx,Qy,Qz,QA,QB,QC,QD,QE,QF,QG,QH,QI,QJ,QK,QL,QM,QN,QO,QP,QQ,QR,QS,QT,QU,QV,QW,QX,QY,QZ,X0,X1,X2,X3,X4,X5,X6,X7,X8,X9,Xa,Xb,Xc,Xd,Xe,Xf,Xg,Xh,Xi,Xj,Xk,Xl,Xm,Xn,Xo,Xp,Xq,Xr,Xs,Xt,Xu,Xv,Xw,Xx,Xy,Xz,XA,XB,reduceIte,reduceCtorEq,XC,XD,XE,XF,XG,XH,XI,XJ,XK,XL,XM,XN,XO,XP,XQ,XR,XS,XT,XU,XV,XW,XX,XY,XZ,Y0,Try.q3,Try.q4,Try.q22,Try.q27,Try.q31,Try.underlying36,Try.q36,Try.q48,Try.underlying50,Try.q50]
        · have d3 : decide (code = 0) = false := decide_eq_false hc0
          rw [if_pos (by simpa using hc0)]
          have hes := ne1 hc0
          subst hes
          refine ⟨_, d, D, hk1, frx1, .inl rfl, ?_⟩
          rw [set_same gx] at k3
          refine acalls_of_vc (fn := Try.f40) Try.call40 Try.func40 rfl (by kernel_rfl) (by simp [Try.ntmps40]) ?_; simp -implicitDefEqProofs only [Try.ntmps40,Try.results40,Q0,Q1,Q2,Q3,Q4,Q5,Q6,Q7,Q8,Q9,Qa,Qb,Qc,Qd,Qe,Qf,Qg,Qh,Qi,Qj,Qk,Ql,Qm,Qn,Qo,Qp,Qq,Qr,Qs,Qt,Qu,Qv,Qw,Qx,Qy,Qz,QA,QB,QC,QD,QE,QF,QG,QH,QI,QJ,QK,QL,QM,QN,QO,QP,QQ,QR,QS,QT,QU,QV,QW,QX,QY,QZ,X0,X1,X2,X3,X4,X5,X6,X7,X8,X9,Xa,Xb,Xc,Xd,Xe,Xf,Xg,Xh,Xi,Xj,Xk,Xl,Xm,Xn,Xo,Xp,Xq,Xr,Xs,Xt,Xu,Xv,Xw,Xx,Xy,Xz,XA,XB,reduceIte,reduceCtorEq,XC,XD,XE,XF,XG,XH,XI,XJ,XK,XL,XM,XN,XO,XP,XQ,XR,XS,XT,XU,XV,XW,XX,XY,XZ,Y0,Try.q3,Try.q4,Try.q22,Try.q27,Try.q31,Try.underlying36,Try.q36,Try.q48,Try.underlying50,Try.q50]
          simp -implicitDefEqProofs only [d1,g1,lm,d2,hrow2,Q0,Q1,Q2,Q3,Q4,Q5,Q6,Q7,Q8,Q9,Qa,Qb,Qc,Qd,Qe,Qf,Qg,Qh,Qi,Qj,Qk,Ql,Qm,Qn,Qo,Qp,Qq,Qr,Qs,Qt,Qu,Qv,Qw,Qx,Qy,Qz,QA,QB,QC,QD,QE,QF,QG,QH,QI,QJ,QK,QL,QM,QN,QO,QP,QQ,QR,QS,QT,QU,QV,QW,QX,QY,QZ,X0,X1,X2,X3,X4,X5,X6,X7,X8,X9,Xa,Xb,Xc,Xd,Xe,Xf,Xg,Xh,Xi,Xj,Xk,Xl,Xm,Xn,Xo,Xp,Xq,Xr,Xs,Xt,Xu,Xv,Xw,Xx,Xy,Xz,XA,XB,reduceIte,reduceCtorEq,XC,XD,XE,XF,XG,XH,XI,XJ,XK,XL,XM,XN,XO,XP,XQ,XR,XS,XT,XU,XV,XW,XX,XY,XZ,Y0,Try.q3,Try.q4,Try.q22,Try.q27,Try.q31,Try.underlying36,Try.q36,Try.q48,Try.underlying50,Try.q50]
          refine ⟨bi, ?_⟩
          refine acalls_then (k2 _) ?_
          simp -implicitDefEqProofs only [gx,Q0,Q1,Q2,Q3,Q4,Q5,Q6,Q7,Q8,Q9,Qa,Qb,Qc,Qd,Qe,Qf,Qg,Qh,Qi,Qj,Qk,Ql,Qm,Qn,Qo,Qp,Qq,Qr,Qs,Qt,Qu,Qv,Qw,Qx,Qy,Qz,QA,QB,QC,QD,QE,QF,QG,QH,QI,QJ,QK,QL,QM,QN,QO,QP,QQ,QR,QS,QT,QU,QV,QW,QX,QY,QZ,X0,X1,X2,X3,X4,X5,X6,X7,X8,X9,Xa,Xb,Xc,Xd,Xe,Xf,Xg,Xh,Xi,Xj,Xk,Xl,Xm,Xn,Xo,Xp,Xq,Xr,Xs,Xt,Xu,Xv,Xw,Xx,Xy,Xz,XA,XB,reduceIte,reduceCtorEq,XC,XD,XE,XF,XG,XH,XI,XJ,XK,XL,XM,XN,XO,XP,XQ,XR,XS,XT,XU,XV,XW,XX,XY,XZ,Y0,Try.q3,Try.q4,Try.q22,Try.q27,Try.q31,Try.underlying36,Try.q36,Try.q48,Try.underlying50,Try.q50]
          refine acalls_then (kh) ?_
          simp -implicitDefEqProofs only [gq,Q0,Q1,Q2,Q3,Q4,Q5,Q6,Q7,Q8,Q9,Qa,Qb,Qc,Qd,Qe,Qf,Qg,Qh,Qi,Qj,Qk,Ql,Qm,Qn,Qo,Qp,Qq,Qr,Qs,Qt,Qu,Qv,Qw,Qx,Qy,Qz,QA,QB,QC,QD,QE,QF,QG,QH,QI,QJ,QK,QL,QM,QN,QO,QP,QQ,QR,QS,QT,QU,QV,QW,QX,QY,QZ,X0,X1,X2,X3,X4,X5,X6,X7,X8,X9,Xa,Xb,Xc,Xd,Xe,Xf,Xg,Xh,Xi,Xj,Xk,Xl,Xm,Xn,Xo,Xp,Xq,Xr,Xs,Xt,Xu,Xv,Xw,Xx,Xy,Xz,XA,XB,reduceIte,reduceCtorEq,XC,XD,XE,XF,XG,XH,XI,XJ,XK,XL,XM,XN,XO,XP,XQ,XR,XS,XT,XU,XV,XW,XX,XY,XZ,Y0,Try.q3,Try.q4,Try.q22,Try.q27,Try.q31,Try.underlying36,Try.q36,Try.q48,Try.underlying50,Try.q50]
          refine acalls_then (k3) ?_
          simp -implicitDefEqProofs only [d3,Q0,Q1,Q2,Q3,Q4,Q5,Q6,Q7,Q8,Q9,Qa,Qb,Qc,Qd,Qe,Qf,Qg,Qh,Qi,Qj,Qk,Ql,Qm,Qn,Qo,Qp,Qq,Qr,Qs,Qt,Qu,Qv,Qw,Qx,Qy,Qz,QA,QB,QC,QD,QE,QF,QG,QH,QI,QJ,QK,QL,QM,QN,QO,QP,QQ,QR,QS,QT,QU,QV,QW,QX,QY,QZ,X0,X1,X2,X3,X4,X5,X6,X7,X8,X9,Xa,Xb,Xc,Xd,Xe,Xf,Xg,Xh,Xi,Xj,Xk,Xl,Xm,Xn,Xo,Xp,Xq,Xr,Xs,Xt,Xu,Xv,Xw,Xx,Xy,Xz,XA,XB,reduceIte,reduceCtorEq,XC,XD,XE,XF,XG,XH,XI,XJ,XK,XL,XM,XN,XO,XP,XQ,XR,XS,XT,XU,XV,XW,XX,XY,XZ,Y0,Try.q3,Try.q4,Try.q22,Try.q27,Try.q31,Try.underlying36,Try.q36,Try.q48,Try.underlying50,Try.q50]

end Go.Proofs
