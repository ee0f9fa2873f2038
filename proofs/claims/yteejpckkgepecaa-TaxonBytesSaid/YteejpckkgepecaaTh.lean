/-
  Taxonomies: New; contract.
-/
import Derived.Test.YteejpckkgepecaaTg
namespace Go.Proofs
open Go.Pa
open Go.Pa renaming VB0 → Q0, VB1 → Q1, VB2 → Q2, VB3 → Q3, VB4 → Q4, VB5 → Q5, VB6 → Q6, VB7 → Q7, VB8 → Q8, VB9 → Q9, condV_bool → Qa, guardV_bool → Qb, vcS → Qc, evA → Qd, evBin → Qe, nilA → Qf, nilOf → Qg, intOp → Qh, strOp → Qi, evUn → Qj, evConv → Qk, evField → Ql, evFieldAddr → Qm, evIndexAddr → Qn, evIndex → Qo, evIndexA → Qp, bnd → Qq, evSlice → Qr, evLen → Qs, evPick → Qt, evExtract → Qu, evNilCheck → Qv, evMin → Qw, evMax → Qx, evLoadI → Qy, partsOne → QA, intsOf → QB, rowsAV → QC, evBuildSlice → QD, evBuild → QE, fillA → QF, splice → QG, evBuiltin → QH, guardD_bool → QI, dOp → QJ, cl → QK, vcLoad → QL, vcStore → QM, vcMake → QN, convA → QO, evIndexArr → QP, retA → QQ, ressA → QR, resA → QS, envOf → QT, condR_bool → QX, asgEnv → QY, parEnv → QZ, dstAt → XI, vcLook → XT, vcPut → XU, vcEnt → XV, vcESt → XW, vcMLen → XX, vcDel → XY, vcClear → XZ, vcLookD → Y0
open Go.Pa.AV renaming cell → Qz
open Go.Pa.Env renaming put → QU
open List renaming set_cons_zero → QV, set_cons_succ → QW, foldl_cons → X0, foldl_nil → X1, map_cons → X2, map_nil → X3, toList_toArray → X4, getElem?_cons_zero → X5, getElem?_cons_succ → X6, nil_append → Xa, append_nil → Xb, cons_append → Xc, singleton_append → Xd, length_cons → Xe, length_nil → Xf, all_cons → Xg, all_nil → Xh, take_succ_cons → Xi, take_zero → Xj, take_nil → Xk, drop_zero → Xl, drop_succ_cons → Xm, drop_nil → Xn, contains_nil → Xo, contains_cons → Xp
open Option renaming bind_some → X7, map_some → X8, map_none → X9
open Bool renaming or_false → Xq, false_or → Xr, or_true → Xs, true_or → Xt, false_eq_true → XC, not_true → XD, not_false → XE, and_true → XF, true_and → XG, and_self → XH
open Nat renaming reduceEqDiff → Xu, reduceAdd → Xv, reduceSub → Xw, reduceMul → Xx, reduceLT → Xy, reduceLeDiff → Xz, reduceBNe → XA, reduceBEq → XB, zero_add → XL, add_zero → XM
open UInt8 renaming reduceToNat → XJ
open Int renaming cast_ofNat_Int → XK, reduceToNat → XN, reduceLT → XO, reduceLE → XP, reduceNeg → XQ, reduceEq → XR, reduceNe → XS
set_option linter.unusedSimpArgs false
set_option linter.unusedVariables false
set_option maxRecDepth 20000
set_option maxHeartbeats 2000000

theorem inc_ge {l : List Int} {n : Int} (h : incB l = true) (hb : l.any (badI n) = false) : ∀ i, i < l.length → (i : Int) ≤ l.getD i 0 := by
  have hin : ∀ x ∈ l, 0 ≤ x ∧ x < n := by
    intro x hx
    have := List.any_eq_false.1 hb x hx
    unfold badI at this
    simp at this
    omega
  have hi := (incB_iff l).1 h
  intro i
  induction i with
  | zero =>
    intro hl
    rw [getD_get hl]
    exact (hin _ (List.getElem_mem hl)).1
  | succ i ih =>
    intro hl
    have := ih (by omega)
    have := hi i hl
    omega

theorem inc_len {l : List Int} {n : Nat} (h : incB l = true) (hb : l.any (badI n) = false) : l.length ≤ n := by
  rcases Nat.eq_zero_or_pos l.length with h0 | h0
  · omega
  · have h1 := inc_ge h hb (l.length - 1) (by omega)
    have hl : l.length - 1 < l.length := by omega
    have h2 := List.any_eq_false.1 hb _ (List.getElem_mem hl)
    rw [getD_get hl] at h1
    unfold badI at h2
    simp at h2
    omega

/-- A list of parents that is none. -/
noncomputable def badL (n : Nat) (l : List Int) : Bool := l.any (badI n) || !incB l

noncomputable def newV (p : List (List Int)) : AV :=
  if 64 < p.length then .tup [.nilp, .int .i64 4] else if p.any (badL p.length) = true then .tup [.nilp, .int .i64 1] else if acyB p = true then .tup [taxA p, .int .i64 0] else .tup [.nilp, .int .i64 9]

theorem c_clone (l : List Int) (hl : l.length < 2000000) (s : Store) : ACalls Try.prog 40 [.ints .i64 l] s (fun r s' => r = .ints .i64 l ∧ s' = s) := ACalls.freshFrozen (clone_ints l hl s)

theorem inr_of {p : List (List Int)} (h : p.any (badL p.length) = false) : InR p ∧ ∀ l ∈ p, l.length ≤ p.length := by
  have key : ∀ l ∈ p, l.any (badI p.length) = false ∧ incB l = true := by
    intro l hl
    have := List.any_eq_false.1 h l hl
    unfold badL at this
    simpa using this
  refine ⟨fun l hl x hx => ?_, fun l hl => inc_len (key l hl).2 (key l hl).1⟩
  have := List.any_eq_false.1 (key l hl).1 x hx
  unfold badI at this
  simp at this
  omega

theorem shutIn5 {P : Program} {f : FuncId} {args args' : List AV} {s s' : Store} {R : AV → Store → Prop} (p : Nat → Prop) (hS : ShS s p s')
    (ha : ∀ G G' vs, (∀ x y v, Sh s p x y → Rep G x v → Rep G' y v) → RepL G args vs → RepL G' args' vs) (h : ACalls P f args' s' R) : ACalls P f args s R := by
  refine ⟨h.1, fun G w vs hw hl => ?_⟩
  obtain ⟨G', h1, h2, h3⟩ := hw.shutP p
  refine (h.2 G' w vs (h3 s' hS) (ha G G' _ h2 hl)).mono ?_
  rintro e w' ⟨v, r, σ', G2, he, hle, hw', hr, hR⟩
  exact ⟨v, r, σ', G2, he, h1.trans hle, hw', hr, hR⟩

/-- All but the taxonomy is sealed. -/
def shutX (s : Store) (T : Nat) (p : List (List Int)) : Store := s.mapIdx fun i o => if i < T then o else if i = T then .box (.rows 1 (p.map rowI) :: gridL fun _ => false) else .dead
theorem shutX_get (s : Store) (T : Nat) (p : List (List Int)) (i : Nat) : (shutX s T p)[i]? = (s[i]?).map fun o => if i < T then o else if i = T then .box (.rows 1 (p.map rowI) :: gridL fun _ => false) else .dead := by
  unfold shutX; rw [List.getElem?_mapIdx]

theorem shutX_sh {s : Store} {T : Nat} {p : List (List Int)} {r : AV} (hb : s[T]? = some (.box (r :: gridL fun _ => false))) (h : BufR s T r 1 (p.map rowI)) : ShS s (fun i => T < i) (shutX s T p) := by
  refine ⟨by simp [shutX], fun i y hy => ?_⟩
  rw [shutX_get] at hy
  cases hs : s[i]? with
  | none => rw [hs] at hy; cases hy
  | some o =>
    rw [hs] at hy
    simp only [Option.map_some, Option.some.injEq] at hy
    split at hy
    · subst hy; exact .inr ⟨by omega, o, rfl, .same _⟩
    · split at hy
      · rename_i hi; subst hi; subst hy
        rw [hb] at hs; cases hs
        refine .inr ⟨by omega, _, rfl, .box _ _ rfl fun k a b ha hb2 => ?_⟩
        match k with
        | 0 =>
          cases ha; cases hb2
          rcases h with ⟨h1 | h1, h2⟩ | ⟨v, rfl, hv, hvn⟩
          · rw [h1, h2]; exact .nilR _
          · rw [h1, h2]; exact .empR _
          · have hne : v ≠ i := fun e => by rw [e, hb] at hv; cases hv
            refine .vecR v 0 _ 1 _ _ hv (by omega) (by omega) rfl (rowI_len p) fun j x y h1 h2 => ?_
            simp only [List.drop_zero, List.take_length] at h1
            rw [h1] at h2; cases h2; exact .same _
        | k + 1 =>
          simp only [List.getElem?_cons_succ] at ha hb2
          rw [ha] at hb2; cases hb2; exact .same _
      · exact .inl hy.symm

theorem shutX_ext {σ s : Store} {p : List (List Int)} {g : Nat → Bool} (hx : Ext σ s) : Ext σ ((shutX s σ.length p).set σ.length (.box (.rows 1 (p.map rowI) :: gridL g))) := by
  intro i x hi
  have hlt := (List.getElem?_eq_some_iff.1 hi).1
  rw [List.getElem?_set_ne (by omega), shutX_get, hx i x hi]
  simp [hlt]

theorem zr_tax : zeroA Try.prog 65 = some (.nils :: List.replicate 4096 (.bool false)) := by kernel_rfl

/-- What New leaves, before it is sealed. -/
def NewP (p : List (List Int)) (σ : Store) (V r : AV) (s : Store) : Prop :=
  Ext σ s ∧ (Frz s σ.length r V ∨ (V = .tup [taxA p, .int .i64 0] ∧ r = .tup [.ptr σ.length 0, .int .i64 0] ∧ s[σ.length]? = some (.box (.rows 1 (p.map rowI) :: gridL (relG p)))))

theorem c_New0 (p : List (List Int)) (hpl : p.length ≤ 1000000) (hll : ∀ l ∈ p, l.length ≤ 1000000) (σ : Store) : ACalls Try.prog 11 [.rows 1 (p.map rowI)] σ (fun r s => NewP p σ (newV p) r s) := by
  have hml : (p.map rowI).length = p.length := by simp
  unfold newV NewP
  by_cases h64 : 64 < p.length
  · have d1 : decide ((64 : Int) < (p.length : Int)) = true := decide_eq_true (by omega)
    rw [if_pos h64]
    refine acalls_of_vc (fn := Try.f11) Try.call11 Try.func11 rfl (by kernel_rfl) (by simp [Try.ntmps11]) ?_; simp -implicitDefEqProofs only [hml,Try.ntmps11,Try.results11,Q0,Q1,Q2,Q3,Q4,Q5,Q6,Q7,Q8,Q9,Qa,Qb,Qc,Qd,Qe,Qf,Qg,Qh,Qi,Qj,Qk,Ql,Qm,Qn,Qo,Qp,Qq,Qr,Qs,Qt,Qu,Qv,Qw,Qx,Qy,Qz,QA,QB,QC,QD,QE,QF,QG,QH,QI,QJ,QK,QL,QM,QN,QO,QP,QQ,QR,QS,QT,QU,QV,QW,QX,QY,QZ,X0,X1,X2,X3,X4,X5,X6,X7,X8,X9,Xa,Xb,Xc,Xd,Xe,Xf,Xg,Xh,Xi,Xj,Xk,Xl,Xm,Xn,Xo,Xp,Xq,Xr,Xs,Xt,Xu,Xv,Xw,Xx,Xy,Xz,XA,XB,reduceIte,reduceCtorEq,XC,XD,XE,XF,XG,XH,XI,XJ,XK,XL,XM,XN,XO,XP,XQ,XR,XS,XT,XU,XV,XW,XX,XY,XZ,Y0,Try.q3,Try.q4,Try.q22,Try.q23,Try.q25,Try.q26,Try.underlying63,Try.q63,Try.underlying65,Try.q65]
    simp -implicitDefEqProofs only [hml,d1,Q0,Q1,Q2,Q3,Q4,Q5,Q6,Q7,Q8,Q9,Qa,Qb,Qc,Qd,Qe,Qf,Qg,Qh,Qi,Qj,Qk,Ql,Qm,Qn,Qo,Qp,Qq,Qr,Qs,Qt,Qu,Qv,Qw,Qx,Qy,Qz,QA,QB,QC,QD,QE,QF,QG,QH,QI,QJ,QK,QL,QM,QN,QO,QP,QQ,QR,QS,QT,QU,QV,QW,QX,QY,QZ,X0,X1,X2,X3,X4,X5,X6,X7,X8,X9,Xa,Xb,Xc,Xd,Xe,Xf,Xg,Xh,Xi,Xj,Xk,Xl,Xm,Xn,Xo,Xp,Xq,Xr,Xs,Xt,Xu,Xv,Xw,Xx,Xy,Xz,XA,XB,reduceIte,reduceCtorEq,XC,XD,XE,XF,XG,XH,XI,XJ,XK,XL,XM,XN,XO,XP,XQ,XR,XS,XT,XU,XV,XW,XX,XY,XZ,Y0,Try.q3,Try.q4,Try.q22,Try.q23,Try.q25,Try.q26,Try.underlying63,Try.q63,Try.underlying65,Try.q65]
    exact ⟨Ext.refl _, .inl (.same _ rfl)⟩
  · have d1 : decide ((64 : Int) < (p.length : Int)) = false := decide_eq_false (by omega)
    rw [if_neg h64]
    refine acalls_of_vc (fn := Try.f11) Try.call11 Try.func11 rfl (by kernel_rfl) (by simp [Try.ntmps11]) ?_; simp -implicitDefEqProofs only [hml,Try.ntmps11,Try.results11,Q0,Q1,Q2,Q3,Q4,Q5,Q6,Q7,Q8,Q9,Qa,Qb,Qc,Qd,Qe,Qf,Qg,Qh,Qi,Qj,Qk,Ql,Qm,Qn,Qo,Qp,Qq,Qr,Qs,Qt,Qu,Qv,Qw,Qx,Qy,Qz,QA,QB,QC,QD,QE,QF,QG,QH,QI,QJ,QK,QL,QM,QN,QO,QP,QQ,QR,QS,QT,QU,QV,QW,QX,QY,QZ,X0,X1,X2,X3,X4,X5,X6,X7,X8,X9,Xa,Xb,Xc,Xd,Xe,Xf,Xg,Xh,Xi,Xj,Xk,Xl,Xm,Xn,Xo,Xp,Xq,Xr,Xs,Xt,Xu,Xv,Xw,Xx,Xy,Xz,XA,XB,reduceIte,reduceCtorEq,XC,XD,XE,XF,XG,XH,XI,XJ,XK,XL,XM,XN,XO,XP,XQ,XR,XS,XT,XU,XV,XW,XX,XY,XZ,Y0,Try.q3,Try.q4,Try.q22,Try.q23,Try.q25,Try.q26,Try.underlying63,Try.q63,Try.underlying65,Try.q65]
    simp -implicitDefEqProofs only [hml,d1,zr_tax,gridL_zero,gridL_all,Q0,Q1,Q2,Q3,Q4,Q5,Q6,Q7,Q8,Q9,Qa,Qb,Qc,Qd,Qe,Qf,Qg,Qh,Qi,Qj,Qk,Ql,Qm,Qn,Qo,Qp,Qq,Qr,Qs,Qt,Qu,Qv,Qw,Qx,Qy,Qz,QA,QB,QC,QD,QE,QF,QG,QH,QI,QJ,QK,QL,QM,QN,QO,QP,QQ,QR,QS,QT,QU,QV,QW,QX,QY,QZ,X0,X1,X2,X3,X4,X5,X6,X7,X8,X9,Xa,Xb,Xc,Xd,Xe,Xf,Xg,Xh,Xi,Xj,Xk,Xl,Xm,Xn,Xo,Xp,Xq,Xr,Xs,Xt,Xu,Xv,Xw,Xx,Xy,Xz,XA,XB,reduceIte,reduceCtorEq,XC,XD,XE,XF,XG,XH,XI,XJ,XK,XL,XM,XN,XO,XP,XQ,XR,XS,XT,XU,XV,XW,XX,XY,XZ,Y0,Try.q3,Try.q4,Try.q22,Try.q23,Try.q25,Try.q26,Try.underlying63,Try.q63,Try.underlying65,Try.q65]
    refine awp_loop (fun i : Nat => [(16, .int .i64 i), (15, .int .i64 p.length), (14, .rows 1 (p.map rowI)), (5, .ptr σ.length 0), (4, .int .i64 p.length)])
      (fun i s => i ≤ p.length ∧ (p.take i).any (badL p.length) = false ∧ ∃ r, Ext σ s ∧ s[σ.length]? = some (.box (r :: gridL fun _ => false)) ∧ BufR s σ.length r 1 ((p.take i).map rowI)) (fun i => p.length - i) 0 (by kernel_rfl) (by simp [sub_cons, sub_nil, get_cons]) ⟨by omega, by simp, .nils, Ext.app _ _, by simp, .inl ⟨.inl rfl, by simp⟩⟩ ?_
    rintro i s ⟨hi, hno, r, hx, hbx, hbuf⟩
    by_cases hlt : i < p.length
    · have d2 : decide ((i : Int) < (p.length : Int)) = true := decide_eq_true (by omega)
      have wi : IntKind.i64.wrap ((i : Int) + 1) = ((i + 1 : Nat) : Int) := by rw [wrap_i64 (by omega) (by omega)]; rfl
      have hrow := rowI_get p hlt
      have bi : (0 : Int) ≤ (i : Int) ∧ (i : Int) < (p.length : Int) := by omega
      have hmem := List.getElem_mem hlt
      have hlen := hll _ hmem
      have hany := any_take' (badL p.length) p hlt
      have htake : (p.take (i + 1)).map rowI = (p.take i).map rowI ++ [rowI p[i]] := by rw [List.take_add_one, List.getElem?_eq_getElem hlt, Option.toList_some, List.map_append]; rfl
      rw [hno, Bool.false_or] at hany
      generalize p[i] = l at hrow hmem hlen hany htake
      have hW := c_within p.length l hlen s
      have hInc := c_increasing l hlen s
      have hC := fun σ => c_clone l (by omega) σ
      cases hb : l.any (badI p.length) with
      | true =>
        rw [hb] at hW
        have hbad : p.any (badL p.length) = true := List.any_eq_true.2 ⟨l, hmem, by unfold badL; rw [hb]; rfl⟩
        rw [if_pos hbad]
        simp -implicitDefEqProofs only [hml,d2,hrow,Int.toNat_natCast,Q0,Q1,Q2,Q3,Q4,Q5,Q6,Q7,Q8,Q9,Qa,Qb,Qc,Qd,Qe,Qf,Qg,Qh,Qi,Qj,Qk,Ql,Qm,Qn,Qo,Qp,Qq,Qr,Qs,Qt,Qu,Qv,Qw,Qx,Qy,Qz,QA,QB,QC,QD,QE,QF,QG,QH,QI,QJ,QK,QL,QM,QN,QO,QP,QQ,QR,QS,QT,QU,QV,QW,QX,QY,QZ,X0,X1,X2,X3,X4,X5,X6,X7,X8,X9,Xa,Xb,Xc,Xd,Xe,Xf,Xg,Xh,Xi,Xj,Xk,Xl,Xm,Xn,Xo,Xp,Xq,Xr,Xs,Xt,Xu,Xv,Xw,Xx,Xy,Xz,XA,XB,reduceIte,reduceCtorEq,XC,XD,XE,XF,XG,XH,XI,XJ,XK,XL,XM,XN,XO,XP,XQ,XR,XS,XT,XU,XV,XW,XX,XY,XZ,Y0,Try.q3,Try.q4,Try.q22,Try.q23,Try.q25,Try.q26,Try.underlying63,Try.q63,Try.underlying65,Try.q65]
        refine ⟨bi, ?_⟩
        refine acalls_then (hW) ?_
        simp -implicitDefEqProofs only [hml,Q0,Q1,Q2,Q3,Q4,Q5,Q6,Q7,Q8,Q9,Qa,Qb,Qc,Qd,Qe,Qf,Qg,Qh,Qi,Qj,Qk,Ql,Qm,Qn,Qo,Qp,Qq,Qr,Qs,Qt,Qu,Qv,Qw,Qx,Qy,Qz,QA,QB,QC,QD,QE,QF,QG,QH,QI,QJ,QK,QL,QM,QN,QO,QP,QQ,QR,QS,QT,QU,QV,QW,QX,QY,QZ,X0,X1,X2,X3,X4,X5,X6,X7,X8,X9,Xa,Xb,Xc,Xd,Xe,Xf,Xg,Xh,Xi,Xj,Xk,Xl,Xm,Xn,Xo,Xp,Xq,Xr,Xs,Xt,Xu,Xv,Xw,Xx,Xy,Xz,XA,XB,reduceIte,reduceCtorEq,XC,XD,XE,XF,XG,XH,XI,XJ,XK,XL,XM,XN,XO,XP,XQ,XR,XS,XT,XU,XV,XW,XX,XY,XZ,Y0,Try.q3,Try.q4,Try.q22,Try.q23,Try.q25,Try.q26,Try.underlying63,Try.q63,Try.underlying65,Try.q65]
        exact ⟨hx, .inl (.same _ rfl)⟩
      | false =>
        rw [hb] at hW
        cases hi2 : incB l with
        | false =>
          rw [hi2] at hInc
          have hbad : p.any (badL p.length) = true := List.any_eq_true.2 ⟨l, hmem, by unfold badL; rw [hi2, hb]; rfl⟩
          rw [if_pos hbad]
          simp -implicitDefEqProofs only [hml,d2,hrow,Int.toNat_natCast,Q0,Q1,Q2,Q3,Q4,Q5,Q6,Q7,Q8,Q9,Qa,Qb,Qc,Qd,Qe,Qf,Qg,Qh,Qi,Qj,Qk,Ql,Qm,Qn,Qo,Qp,Qq,Qr,Qs,Qt,Qu,Qv,Qw,Qx,Qy,Qz,QA,QB,QC,QD,QE,QF,QG,QH,QI,QJ,QK,QL,QM,QN,QO,QP,QQ,QR,QS,QT,QU,QV,QW,QX,QY,QZ,X0,X1,X2,X3,X4,X5,X6,X7,X8,X9,Xa,Xb,Xc,Xd,Xe,Xf,Xg,Xh,Xi,Xj,Xk,Xl,Xm,Xn,Xo,Xp,Xq,Xr,Xs,Xt,Xu,Xv,Xw,Xx,Xy,Xz,XA,XB,reduceIte,reduceCtorEq,XC,XD,XE,XF,XG,XH,XI,XJ,XK,XL,XM,XN,XO,XP,XQ,XR,XS,XT,XU,XV,XW,XX,XY,XZ,Y0,Try.q3,Try.q4,Try.q22,Try.q23,Try.q25,Try.q26,Try.underlying63,Try.q63,Try.underlying65,Try.q65]
          refine ⟨bi, ?_⟩
          refine acalls_then (hW) ?_
          simp -implicitDefEqProofs only [hml,Q0,Q1,Q2,Q3,Q4,Q5,Q6,Q7,Q8,Q9,Qa,Qb,Qc,Qd,Qe,Qf,Qg,Qh,Qi,Qj,Qk,Ql,Qm,Qn,Qo,Qp,Qq,Qr,Qs,Qt,Qu,Qv,Qw,Qx,Qy,Qz,QA,QB,QC,QD,QE,QF,QG,QH,QI,QJ,QK,QL,QM,QN,QO,QP,QQ,QR,QS,QT,QU,QV,QW,QX,QY,QZ,X0,X1,X2,X3,X4,X5,X6,X7,X8,X9,Xa,Xb,Xc,Xd,Xe,Xf,Xg,Xh,Xi,Xj,Xk,Xl,Xm,Xn,Xo,Xp,Xq,Xr,Xs,Xt,Xu,Xv,Xw,Xx,Xy,Xz,XA,XB,reduceIte,reduceCtorEq,XC,XD,XE,XF,XG,XH,XI,XJ,XK,XL,XM,XN,XO,XP,XQ,XR,XS,XT,XU,XV,XW,XX,XY,XZ,Y0,Try.q3,Try.q4,Try.q22,Try.q23,Try.q25,Try.q26,Try.underlying63,Try.q63,Try.underlying65,Try.q65]
          refine acalls_then (hInc) ?_
          simp -implicitDefEqProofs only [hml,Q0,Q1,Q2,Q3,Q4,Q5,Q6,Q7,Q8,Q9,Qa,Qb,Qc,Qd,Qe,Qf,Qg,Qh,Qi,Qj,Qk,Ql,Qm,Qn,Qo,Qp,Qq,Qr,Qs,Qt,Qu,Qv,Qw,Qx,Qy,Qz,QA,QB,QC,QD,QE,QF,QG,QH,QI,QJ,QK,QL,QM,QN,QO,QP,QQ,QR,QS,QT,QU,QV,QW,QX,QY,QZ,X0,X1,X2,X3,X4,X5,X6,X7,X8,X9,Xa,Xb,Xc,Xd,Xe,Xf,Xg,Xh,Xi,Xj,Xk,Xl,Xm,Xn,Xo,Xp,Xq,Xr,Xs,Xt,Xu,Xv,Xw,Xx,Xy,Xz,XA,XB,reduceIte,reduceCtorEq,XC,XD,XE,XF,XG,XH,XI,XJ,XK,XL,XM,XN,XO,XP,XQ,XR,XS,XT,XU,XV,XW,XX,XY,XZ,Y0,Try.q3,Try.q4,Try.q22,Try.q23,Try.q25,Try.q26,Try.underlying63,Try.q63,Try.underlying65,Try.q65]
          exact ⟨hx, .inl (.same _ rfl)⟩
        | true =>
          rw [hi2] at hInc
          have hbl : badL p.length l = false := by unfold badL; rw [hb, hi2]; rfl
          rw [hbl] at hany
          simp -implicitDefEqProofs only [hml,d2,hrow,Int.toNat_natCast,Q0,Q1,Q2,Q3,Q4,Q5,Q6,Q7,Q8,Q9,Qa,Qb,Qc,Qd,Qe,Qf,Qg,Qh,Qi,Qj,Qk,Ql,Qm,Qn,Qo,Qp,Qq,Qr,Qs,Qt,Qu,Qv,Qw,Qx,Qy,Qz,QA,QB,QC,QD,QE,QF,QG,QH,QI,QJ,QK,QL,QM,QN,QO,QP,QQ,QR,QS,QT,QU,QV,QW,QX,QY,QZ,X0,X1,X2,X3,X4,X5,X6,X7,X8,X9,Xa,Xb,Xc,Xd,Xe,Xf,Xg,Xh,Xi,Xj,Xk,Xl,Xm,Xn,Xo,Xp,Xq,Xr,Xs,Xt,Xu,Xv,Xw,Xx,Xy,Xz,XA,XB,reduceIte,reduceCtorEq,XC,XD,XE,XF,XG,XH,XI,XJ,XK,XL,XM,XN,XO,XP,XQ,XR,XS,XT,XU,XV,XW,XX,XY,XZ,Y0,Try.q3,Try.q4,Try.q22,Try.q23,Try.q25,Try.q26,Try.underlying63,Try.q63,Try.underlying65,Try.q65]
          refine ⟨bi, ?_⟩
          refine acalls_then (hW) ?_
          simp -implicitDefEqProofs only [hml,Q0,Q1,Q2,Q3,Q4,Q5,Q6,Q7,Q8,Q9,Qa,Qb,Qc,Qd,Qe,Qf,Qg,Qh,Qi,Qj,Qk,Ql,Qm,Qn,Qo,Qp,Qq,Qr,Qs,Qt,Qu,Qv,Qw,Qx,Qy,Qz,QA,QB,QC,QD,QE,QF,QG,QH,QI,QJ,QK,QL,QM,QN,QO,QP,QQ,QR,QS,QT,QU,QV,QW,QX,QY,QZ,X0,X1,X2,X3,X4,X5,X6,X7,X8,X9,Xa,Xb,Xc,Xd,Xe,Xf,Xg,Xh,Xi,Xj,Xk,Xl,Xm,Xn,Xo,Xp,Xq,Xr,Xs,Xt,Xu,Xv,Xw,Xx,Xy,Xz,XA,XB,reduceIte,reduceCtorEq,XC,XD,XE,XF,XG,XH,XI,XJ,XK,XL,XM,XN,XO,XP,XQ,XR,XS,XT,XU,XV,XW,XX,XY,XZ,Y0,Try.q3,Try.q4,Try.q22,Try.q23,Try.q25,Try.q26,Try.underlying63,Try.q63,Try.underlying65,Try.q65]
          refine acalls_then (hInc) ?_
          simp -implicitDefEqProofs only [hml,Q0,Q1,Q2,Q3,Q4,Q5,Q6,Q7,Q8,Q9,Qa,Qb,Qc,Qd,Qe,Qf,Qg,Qh,Qi,Qj,Qk,Ql,Qm,Qn,Qo,Qp,Qq,Qr,Qs,Qt,Qu,Qv,Qw,Qx,Qy,Qz,QA,QB,QC,QD,QE,QF,QG,QH,QI,QJ,QK,QL,QM,QN,QO,QP,QQ,QR,QS,QT,QU,QV,QW,QX,QY,QZ,X0,X1,X2,X3,X4,X5,X6,X7,X8,X9,Xa,Xb,Xc,Xd,Xe,Xf,Xg,Xh,Xi,Xj,Xk,Xl,Xm,Xn,Xo,Xp,Xq,Xr,Xs,Xt,Xu,Xv,Xw,Xx,Xy,Xz,XA,XB,reduceIte,reduceCtorEq,XC,XD,XE,XF,XG,XH,XI,XJ,XK,XL,XM,XN,XO,XP,XQ,XR,XS,XT,XU,XV,XW,XX,XY,XZ,Y0,Try.q3,Try.q4,Try.q22,Try.q23,Try.q25,Try.q26,Try.underlying63,Try.q63,Try.underlying65,Try.q65]
          refine awp_draws [8, 11, 200006] Try.mixed (by kernel_rfl) ?_
          simp -implicitDefEqProofs only [hml,hbx,Q0,Q1,Q2,Q3,Q4,Q5,Q6,Q7,Q8,Q9,Qa,Qb,Qc,Qd,Qe,Qf,Qg,Qh,Qi,Qj,Qk,Ql,Qm,Qn,Qo,Qp,Qq,Qr,Qs,Qt,Qu,Qv,Qw,Qx,Qy,Qz,QA,QB,QC,QD,QE,QF,QG,QH,QI,QJ,QK,QL,QM,QN,QO,QP,QQ,QR,QS,QT,QU,QV,QW,QX,QY,QZ,X0,X1,X2,X3,X4,X5,X6,X7,X8,X9,Xa,Xb,Xc,Xd,Xe,Xf,Xg,Xh,Xi,Xj,Xk,Xl,Xm,Xn,Xo,Xp,Xq,Xr,Xs,Xt,Xu,Xv,Xw,Xx,Xy,Xz,XA,XB,reduceIte,reduceCtorEq,XC,XD,XE,XF,XG,XH,XI,XJ,XK,XL,XM,XN,XO,XP,XQ,XR,XS,XT,XU,XV,XW,XX,XY,XZ,Y0,Try.q3,Try.q4,Try.q22,Try.q23,Try.q25,Try.q26,Try.underlying63,Try.q63,Try.underlying65,Try.q65]
          refine dCall_of0 hC ?_
          simp -implicitDefEqProofs only [hml,hbx,Q0,Q1,Q2,Q3,Q4,Q5,Q6,Q7,Q8,Q9,Qa,Qb,Qc,Qd,Qe,Qf,Qg,Qh,Qi,Qj,Qk,Ql,Qm,Qn,Qo,Qp,Qq,Qr,Qs,Qt,Qu,Qv,Qw,Qx,Qy,Qz,QA,QB,QC,QD,QE,QF,QG,QH,QI,QJ,QK,QL,QM,QN,QO,QP,QQ,QR,QS,QT,QU,QV,QW,QX,QY,QZ,X0,X1,X2,X3,X4,X5,X6,X7,X8,X9,Xa,Xb,Xc,Xd,Xe,Xf,Xg,Xh,Xi,Xj,Xk,Xl,Xm,Xn,Xo,Xp,Xq,Xr,Xs,Xt,Xu,Xv,Xw,Xx,Xy,Xz,XA,XB,reduceIte,reduceCtorEq,XC,XD,XE,XF,XG,XH,XI,XJ,XK,XL,XM,XN,XO,XP,XQ,XR,XS,XT,XU,XV,XW,XX,XY,XZ,Y0,Try.q3,Try.q4,Try.q22,Try.q23,Try.q25,Try.q26,Try.underlying63,Try.q63,Try.underlying65,Try.q65]
          refine append_bufR2 (l' := [rowI l]) Try.sl23 (by simp [Try.bt22]) hx hbuf rfl (by simp [rowI]) (by simp [appFits, Try.bt22]; omega) fun r2 s2 hx2 hb2 hk2 => ?_
          have hbx2 := hk2 _ _ hbx (fun a b e => by cases e)
          have hcr : r2.cellsOf = some [r2] := by rcases hb2 with ⟨rfl | rfl, _⟩ | ⟨v, rfl, _⟩ <;> rfl
          simp -implicitDefEqProofs only [hml,hbx2,hcr,wi,Q0,Q1,Q2,Q3,Q4,Q5,Q6,Q7,Q8,Q9,Qa,Qb,Qc,Qd,Qe,Qf,Qg,Qh,Qi,Qj,Qk,Ql,Qm,Qn,Qo,Qp,Qq,Qr,Qs,Qt,Qu,Qv,Qw,Qx,Qy,Qz,QA,QB,QC,QD,QE,QF,QG,QH,QI,QJ,QK,QL,QM,QN,QO,QP,QQ,QR,QS,QT,QU,QV,QW,QX,QY,QZ,X0,X1,X2,X3,X4,X5,X6,X7,X8,X9,Xa,Xb,Xc,Xd,Xe,Xf,Xg,Xh,Xi,Xj,Xk,Xl,Xm,Xn,Xo,Xp,Xq,Xr,Xs,Xt,Xu,Xv,Xw,Xx,Xy,Xz,XA,XB,reduceIte,reduceCtorEq,XC,XD,XE,XF,XG,XH,XI,XJ,XK,XL,XM,XN,XO,XP,XQ,XR,XS,XT,XU,XV,XW,XX,XY,XZ,Y0,Try.q3,Try.q4,Try.q22,Try.q23,Try.q25,Try.q26,Try.underlying63,Try.q63,Try.underlying65,Try.q65]
          rw [← htake] at hb2
          have hlt2 := (List.getElem?_eq_some_iff.1 hbx2).1
          refine ⟨i + 1, rfl, ⟨by omega, hany, r2, hx2.set (Nat.le_refl _) _, by rw [List.getElem?_set_self hlt2], ?_⟩, by omega⟩
          rcases hb2 with h1 | ⟨v, h1, h2, h3⟩
          · exact .inl h1
          · exact .inr ⟨v, h1, by rw [List.getElem?_set_ne (fun e => by rw [e, h2] at hbx2; cases hbx2)]; exact h2, h3⟩
    · have d2 : decide ((i : Int) < (p.length : Int)) = false := decide_eq_false (by omega)
      have : i = p.length := by omega
      subst this
      rw [List.take_of_length_le (Nat.le_refl _)] at hno hbuf
      obtain ⟨hI, hlens⟩ := inr_of hno
      rw [if_neg (by rw [hno]; decide)]
      simp -implicitDefEqProofs only [hml,d2,Q0,Q1,Q2,Q3,Q4,Q5,Q6,Q7,Q8,Q9,Qa,Qb,Qc,Qd,Qe,Qf,Qg,Qh,Qi,Qj,Qk,Ql,Qm,Qn,Qo,Qp,Qq,Qr,Qs,Qt,Qu,Qv,Qw,Qx,Qy,Qz,QA,QB,QC,QD,QE,QF,QG,QH,QI,QJ,QK,QL,QM,QN,QO,QP,QQ,QR,QS,QT,QU,QV,QW,QX,QY,QZ,X0,X1,X2,X3,X4,X5,X6,X7,X8,X9,Xa,Xb,Xc,Xd,Xe,Xf,Xg,Xh,Xi,Xj,Xk,Xl,Xm,Xn,Xo,Xp,Xq,Xr,Xs,Xt,Xu,Xv,Xw,Xx,Xy,Xz,XA,XB,reduceIte,reduceCtorEq,XC,XD,XE,XF,XG,XH,XI,XJ,XK,XL,XM,XN,XO,XP,XQ,XR,XS,XT,XU,XV,XW,XX,XY,XZ,Y0,Try.q3,Try.q4,Try.q22,Try.q23,Try.q25,Try.q26,Try.underlying63,Try.q63,Try.underlying65,Try.q65]
      have hsx := shutX_sh hbx hbuf
      have hT : σ.length < s.length := (List.getElem?_eq_some_iff.1 hbx).1
      have hT' : σ.length < (shutX s σ.length p).length := by simpa [shutX] using hT
      have hg0 : (shutX s σ.length p)[σ.length]? = some (.box (.rows 1 (p.map rowI) :: gridL fun _ => false)) := by rw [shutX_get, hbx]; simp
      refine shutIn5 (fun i => σ.length < i) hsx (args' := [.ptr σ.length 0]) ?_ (ACalls.mono (c_fill p hI (by omega) (fun l hl => by have := hlens l hl; omega) _ σ.length hT' hg0) ?_)
      · intro G G' vs hh hl
        cases hl with
        | cons h1 h2 =>
          cases h2
          exact .cons (hh _ _ _ (.same _) h1) .nil
      · rintro _ s3 ⟨g, rfl, hx3, hgg⟩
        have hx4 := (shutX_ext (p := p) (g := g) hx).trans hx3
        have hb3 := hx3 _ _ (List.getElem?_set_self hT')
        cases hac : acyB p with
        | false =>
          simp -implicitDefEqProofs only [hml,Q0,Q1,Q2,Q3,Q4,Q5,Q6,Q7,Q8,Q9,Qa,Qb,Qc,Qd,Qe,Qf,Qg,Qh,Qi,Qj,Qk,Ql,Qm,Qn,Qo,Qp,Qq,Qr,Qs,Qt,Qu,Qv,Qw,Qx,Qy,Qz,QA,QB,QC,QD,QE,QF,QG,QH,QI,QJ,QK,QL,QM,QN,QO,QP,QQ,QR,QS,QT,QU,QV,QW,QX,QY,QZ,X0,X1,X2,X3,X4,X5,X6,X7,X8,X9,Xa,Xb,Xc,Xd,Xe,Xf,Xg,Xh,Xi,Xj,Xk,Xl,Xm,Xn,Xo,Xp,Xq,Xr,Xs,Xt,Xu,Xv,Xw,Xx,Xy,Xz,XA,XB,reduceIte,reduceCtorEq,XC,XD,XE,XF,XG,XH,XI,XJ,XK,XL,XM,XN,XO,XP,XQ,XR,XS,XT,XU,XV,XW,XX,XY,XZ,Y0,Try.q3,Try.q4,Try.q22,Try.q23,Try.q25,Try.q26,Try.underlying63,Try.q63,Try.underlying65,Try.q65]
          exact ⟨hx4, .inl (.same _ rfl)⟩
        | true =>
          rw [hgg hac] at hb3
          simp -implicitDefEqProofs only [hml,Q0,Q1,Q2,Q3,Q4,Q5,Q6,Q7,Q8,Q9,Qa,Qb,Qc,Qd,Qe,Qf,Qg,Qh,Qi,Qj,Qk,Ql,Qm,Qn,Qo,Qp,Qq,Qr,Qs,Qt,Qu,Qv,Qw,Qx,Qy,Qz,QA,QB,QC,QD,QE,QF,QG,QH,QI,QJ,QK,QL,QM,QN,QO,QP,QQ,QR,QS,QT,QU,QV,QW,QX,QY,QZ,X0,X1,X2,X3,X4,X5,X6,X7,X8,X9,Xa,Xb,Xc,Xd,Xe,Xf,Xg,Xh,Xi,Xj,Xk,Xl,Xm,Xn,Xo,Xp,Xq,Xr,Xs,Xt,Xu,Xv,Xw,Xx,Xy,Xz,XA,XB,reduceIte,reduceCtorEq,XC,XD,XE,XF,XG,XH,XI,XJ,XK,XL,XM,XN,XO,XP,XQ,XR,XS,XT,XU,XV,XW,XX,XY,XZ,Y0,Try.q3,Try.q4,Try.q22,Try.q23,Try.q25,Try.q26,Try.underlying63,Try.q63,Try.underlying65,Try.q65]
          refine ⟨hx4, .inr ?_⟩
          first | exact hb3 | exact ⟨rfl, hb3⟩ | exact ⟨rfl, rfl, hb3⟩

theorem ltL_bool (f : Nat → Bool) : ∀ l : List Nat, ltL 0 (l.map fun k => AV.bool (f k)) = true
  | [] => rfl
  | k :: l => by
    show ((AV.bool (f k)).lt 0 && ltL 0 (l.map fun k => AV.bool (f k))) = true
    rw [ltL_bool f l]
    rfl

theorem ltLL_row : ∀ p : List (List Int), ltLL 0 (p.map rowI) = true
  | [] => rfl
  | l :: p => by
    show (ltL 0 (rowI l) && ltLL 0 (p.map rowI)) = true
    rw [ltLL_row p]
    rfl

theorem tax_lt (p : List (List Int)) : (taxA p).lt 0 = true := by
  have h1 : ltL 0 (gridL (relG p)) = true := ltL_bool (relG p) (List.range 4096)
  unfold taxA
  generalize gridL (relG p) = g at h1
  show (ltLL 0 (p.map rowI) && ltL 0 g) = true
  rw [h1, ltLL_row]
  rfl

theorem c_New (p : List (List Int)) (hpl : p.length ≤ 1000000) (hll : ∀ l ∈ p, l.length ≤ 1000000) (σ : Store) : ACalls Try.prog 11 [.rows 1 (p.map rowI)] σ (fun r s => r = newV p ∧ s = σ) := by
  refine ACalls.frozen (ACalls.shutP ((c_New0 p hpl hll σ).mono ?_))
  rintro r s ⟨hx, h | ⟨h1, rfl, h3⟩⟩
  · exact ⟨fun _ => False, r, s, ⟨rfl, fun i y hy => .inr ⟨id, y, hy, .same _⟩⟩, .same _, hx, h⟩
  · rw [h1]
    have hlt := (List.getElem?_eq_some_iff.1 h3).1
    refine ⟨fun i => σ.length ≤ i ∧ i < s.length, .tup [taxA p, .int .i64 0], killS s σ.length s.length, killS_sh (by omega) (Nat.le_refl _), .tup _ _ rfl fun k x y hx hy => ?_, killS_ext hx (by omega) (Nat.le_refl _) (Nat.le_refl _), .same _ ?_⟩
    · match k with
      | 0 => cases hx; cases hy; exact Sh.boxAll h3 ⟨Nat.le_refl _, hlt⟩
      | 1 => cases hx; cases hy; exact .same _
      | k + 2 => cases hx
    · have h := tax_lt p
      generalize taxA p = t at h
      show (t.lt 0 && (true && true)) = true
      rw [h]
      rfl

end Go.Proofs
