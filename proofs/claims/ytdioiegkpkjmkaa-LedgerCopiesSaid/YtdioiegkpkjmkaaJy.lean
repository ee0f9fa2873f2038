/-
  The reference's ledger: whether entries are sound; a ledger; entries added; contracts.
-/
import Derived.Test.YtdioiegkpkjmkaaJx
import Derived.Test.YtdioiegkpkjmkaaJv
namespace Go.Proofs
open Go.Pa
open Go.Pa renaming VB0 → Q0, VB1 → Q1, VB2 → Q2, VB3 → Q3, VB4 → Q4, VB5 → Q5, VB6 → Q6, VB7 → Q7, VB8 → Q8, VB9 → Q9, condV_bool → Qa, guardV_bool → Qb, vcS → Qc, evA → Qd, evBin → Qe, nilA → Qf, nilOf → Qg, intOp → Qh, strOp → Qi, evUn → Qj, evConv → Qk, evField → Ql, evFieldAddr → Qm, evIndexAddr → Qn, evIndex → Qo, evIndexA → Qp, bnd → Qq, evSlice → Qr, evLen → Qs, evPick → Qt, evExtract → Qu, evNilCheck → Qv, evMin → Qw, evMax → Qx, evLoadI → Qy, partsOne → QA, intsOf → QB, rowsAV → QC, evBuildSlice → QD, evBuild → QE, fillA → QF, splice → QG, evBuiltin → QH, guardD_bool → QI, dOp → QJ, cl → QK, vcLoad → QL, vcStore → QM, vcMake → QN, convA → QO, evIndexArr → QP, retA → QQ, ressA → QR, resA → QS, envOf → QT, condR_bool → QX, asgEnv → QY, parEnv → QZ, dstAt → XI, vcLook → XT, vcPut → XU, vcEnt → XV, vcESt → XW, vcMLen → XX, vcDel → XY, vcClear → XZ, vcLookD → Y0
open Go.Pa.AV renaming cell → Qz
open Go.Pa.Env renaming put → QU
open List renaming set_cons_zero → QV, set_cons_succ → QW, foldl_cons → X0, foldl_nil → X1, map_cons → X2, map_nil → X3, toList_toArray → X4, getElem?_cons_zero → X5, getElem?_cons_succ → X6, nil_append → Xa, append_nil → Xb, cons_append → Xc, singleton_append → Xd, length_cons → Xe, length_nil → Xf, all_cons → Xg, all_nil → Xh, take_succ_cons → Xi, take_zero → Xj, take_nil → Xk, drop_zero → Xl, drop_succ_cons → Xm, drop_nil → Xn, contains_nil → Xo, contains_cons → Xp
open Option renaming bind_some → X7, map_some → X8, map_none → X9
open Bool renaming or_false → Xq, false_or → Xr, or_true → Xs, true_or → Xt, false_eq_true → XC, not_true → XD, not_false → XE, and_true → XF, true_and → XG, and_self → XH
open Nat renaming reduceEqDiff → Xu, reduceAdd → Xv, reduceSub → Xw, reduceMul → Xx, reduceLT → Xy, reduceLeDiff → Xz, reduceBNe → XA, reduceBEq → XB, zero_add → XL, add_zero → XM
open UInt8 renaming reduceToNat → XJ
open Int renaming cast_ofNat_Int → XK, reduceToNat → XN, reduceLT → XO, reduceLE → XP, reduceNeg → XQ, reduceEq → XR, reduceNe → XS
set_option linter.unusedSimpArgs false
set_option linter.unusedVariables false
set_option maxRecDepth 20000
set_option maxHeartbeats 4000000

theorem neg_out {l : List Ent} (hV : ∀ e ∈ l, Val e) {a c d : Int} (h : bal l a c d < 0) : ∃ e ∈ l, e.day ≤ d ∧ e.fr = a ∧ e.cur = c := by
  induction l with
  | nil => rw [bal_nil] at h; omega
  | cons e l ih =>
    rw [bal_cons] at h
    by_cases h1 : bal l a c d < 0
    · obtain ⟨x, h2, h3⟩ := ih (fun x hx => hV x (List.mem_cons_of_mem _ hx)) h1
      exact ⟨x, List.mem_cons_of_mem _ h2, h3⟩
    · have hv := (hV e (List.mem_cons_self ..)).amt
      refine ⟨e, List.mem_cons_self .., ?_⟩
      split at h
      · rename_i hd
        unfold net at h
        split at h
        · rename_i hc
          by_cases hf : e.fr = a
          · exact ⟨hd, hf, hc⟩
          · rw [if_neg hf] at h
            split at h <;> omega
        · omega
      · omega

theorem last_day {l : List Ent} {d : Int} : (∃ e ∈ l, e.day ≤ d) → ∃ f ∈ l, f.day ≤ d ∧ ∀ g ∈ l, g.day ≤ d → g.day ≤ f.day := by
  induction l with
  | nil => rintro ⟨e, he, _⟩; cases he
  | cons x l ih =>
    intro h
    by_cases h1 : ∃ e ∈ l, e.day ≤ d
    · obtain ⟨f, hf, hd, hm⟩ := ih h1
      by_cases hx : x.day ≤ d ∧ f.day < x.day
      · refine ⟨x, List.mem_cons_self .., hx.1, fun g hg hgd => ?_⟩
        rcases List.mem_cons.1 hg with rfl | hg
        · omega
        · have := hm g hg hgd; omega
      · refine ⟨f, List.mem_cons_of_mem _ hf, hd, fun g hg hgd => ?_⟩
        rcases List.mem_cons.1 hg with rfl | hg
        · omega
        · exact hm g hg hgd
    · obtain ⟨e, he, hed⟩ := h
      rcases List.mem_cons.1 he with rfl | he
      · refine ⟨e, List.mem_cons_self .., hed, fun g hg hgd => ?_⟩
        rcases List.mem_cons.1 hg with rfl | hg
        · omega
        · exact absurd ⟨g, hg, hgd⟩ h1
      · exact absurd ⟨e, he, hed⟩ h1

theorem bal_same {l : List Ent} {d d' : Int} (h : ∀ g ∈ l, g.day ≤ d ↔ g.day ≤ d') (a c : Int) : bal l a c d = bal l a c d' := by
  induction l with
  | nil => rfl
  | cons x l ih =>
    rw [bal_cons, bal_cons, ih fun g hg => h g (List.mem_cons_of_mem _ hg)]
    have := h x (List.mem_cons_self ..)
    by_cases h1 : x.day ≤ d
    · rw [if_pos h1, if_pos (this.1 h1)]
    · rw [if_neg h1, if_neg (fun h2 => h1 (this.2 h2))]

def okE (l : List Ent) (e f : Ent) : Prop := e.day ≤ f.day → e.fr ≠ 0 → 0 ≤ bal l e.fr e.cur f.day

theorem snd_ref {l : List Ent} (hV : ∀ e ∈ l, Val e) : Snd l ↔ ∀ e ∈ l, ∀ f ∈ l, okE l e f := by
  constructor
  · intro h e _ f _ _ h2
    exact h _ _ _ h2
  · intro h a c d ha
    by_cases hn : bal l a c d < 0
    · exfalso
      obtain ⟨e, he, hd, rfl, rfl⟩ := neg_out hV hn
      obtain ⟨f, hf, hfd, hm⟩ := last_day ⟨e, he, hd⟩
      have := h e he f hf (hm e he hd) ha
      rw [bal_same (d' := d) (fun g hg => ⟨fun h1 => by omega, fun h1 => hm g hg h1⟩)] at this
      omega
    · omega

theorem rr_Sound (l : List Ent) (hl : l.length ≤ 20000) (hV : ∀ e ∈ l, Val e) (σ : Store) : ACalls Try.prog 63 [esV l] σ (fun r s => r = .bool (sndB l) ∧ s = σ) := by
  have lm : (l.map entA).length = l.length := List.length_map _
  have kS := fun a c d σ => rr_Sum l hl hV a c d σ
  have hbad : ∀ e ∈ l, ∀ f ∈ l, ¬ okE l e f → sndB l = false := fun e he f hf h => sndB_f fun hs => h ((snd_ref hV).1 hs e he f hf)
  refine acalls_of_awp (fn := Try.f63) Try.call63 Try.func63 rfl (by simp [Try.ntmps63]) ?_
  simp only [Try.ntmps63, Try.results63]
  refine awp_seq (awp_vc (by kernel_rfl) ?_)
  simp -implicitDefEqProofs only [seqA_normal,seqA_ret,seqA_exit,Q0,Q1,Q2,Q3,Q4,Q5,Q6,Q7,Q8,Q9,Qa,Qb,Qc,Qd,Qe,Qf,Qg,Qh,Qi,Qj,Qk,Ql,Qm,Qn,Qo,Qp,Qq,Qr,Qs,Qt,Qu,Qv,Qw,Qx,Qy,Qz,QA,QB,QC,QD,QE,QF,QG,QH,QI,QJ,QK,QL,QM,QN,QO,QP,QQ,QR,QS,QT,QU,QV,QW,QX,QY,QZ,X0,X1,X2,X3,X4,X5,X6,X7,X8,X9,Xa,Xb,Xc,Xd,Xe,Xf,Xg,Xh,Xi,Xj,Xk,Xl,Xm,Xn,Xo,Xp,Xq,Xr,Xs,Xt,Xu,Xv,Xw,Xx,Xy,Xz,XA,XB,reduceIte,reduceCtorEq,XC,XD,XE,XF,XG,XH,XI,XJ,XK,XL,XM,XN,XO,XP,XQ,XR,XS,XT,XU,XV,XW,XX,XY,XZ,Y0,Try.q3,Try.q4,Try.q31,Try.underlying36,Try.q36]
  refine awp_seq (awp_vc (by kernel_rfl) ?_)
  simp -implicitDefEqProofs only [seqA_normal,seqA_ret,seqA_exit,Q0,Q1,Q2,Q3,Q4,Q5,Q6,Q7,Q8,Q9,Qa,Qb,Qc,Qd,Qe,Qf,Qg,Qh,Qi,Qj,Qk,Ql,Qm,Qn,Qo,Qp,Qq,Qr,Qs,Qt,Qu,Qv,Qw,Qx,Qy,Qz,QA,QB,QC,QD,QE,QF,QG,QH,QI,QJ,QK,QL,QM,QN,QO,QP,QQ,QR,QS,QT,QU,QV,QW,QX,QY,QZ,X0,X1,X2,X3,X4,X5,X6,X7,X8,X9,Xa,Xb,Xc,Xd,Xe,Xf,Xg,Xh,Xi,Xj,Xk,Xl,Xm,Xn,Xo,Xp,Xq,Xr,Xs,Xt,Xu,Xv,Xw,Xx,Xy,Xz,XA,XB,reduceIte,reduceCtorEq,XC,XD,XE,XF,XG,XH,XI,XJ,XK,XL,XM,XN,XO,XP,XQ,XR,XS,XT,XU,XV,XW,XX,XY,XZ,Y0,Try.q3,Try.q4,Try.q31,Try.underlying36,Try.q36]
  refine awp_loopW (fun i : Nat => [(3, .int .i64 i), (0, esV l)]) (fun i s => i ≤ l.length ∧ (∀ e ∈ l.take i, ∀ f ∈ l, okE l e f) ∧ s = σ) (fun i => l.length - i) 0 (by simp [sub_cons, sub_nil, get_cons]) ⟨by omega, by simp, rfl⟩ ?_
  rintro i s ⟨hi, hall, rfl⟩
  by_cases hlt : i < l.length
  · have d1 : decide ((i : Int) < (l.length : Int)) = true := decide_eq_true (by omega)
    have hrow : (l.map entA).getD (i : Int).toNat [] = entA l[i] := by rw [Int.toNat_natCast, getD_get (by simpa using hlt)]; simp
    have wi : IntKind.i64.wrap ((i : Int) + 1) = ((i + 1 : Nat) : Int) := by rw [wrap_i64 (by omega) (by omega)]; rfl
    have ht := List.take_succ_eq_append_getElem hlt
    have hm := List.getElem_mem hlt
    have bi : (0 : Int) ≤ (i : Int) ∧ (i : Int) < (l.length : Int) := by omega
    generalize l[i] = e at *
    have hrow2 : (l.map entA).getD (i : Int).toNat [] = [.int .i64 e.day, .int .i64 e.fr, .int .i64 e.to, .int .i64 e.cur, .int .i64 e.amt, .int .i64 e.note] := hrow
    refine awp_seq (awp_vc (by kernel_rfl) ?_)
    simp -implicitDefEqProofs only [seqA_normal,seqA_ret,seqA_exit,d1,lm,Q0,Q1,Q2,Q3,Q4,Q5,Q6,Q7,Q8,Q9,Qa,Qb,Qc,Qd,Qe,Qf,Qg,Qh,Qi,Qj,Qk,Ql,Qm,Qn,Qo,Qp,Qq,Qr,Qs,Qt,Qu,Qv,Qw,Qx,Qy,Qz,QA,QB,QC,QD,QE,QF,QG,QH,QI,QJ,QK,QL,QM,QN,QO,QP,QQ,QR,QS,QT,QU,QV,QW,QX,QY,QZ,X0,X1,X2,X3,X4,X5,X6,X7,X8,X9,Xa,Xb,Xc,Xd,Xe,Xf,Xg,Xh,Xi,Xj,Xk,Xl,Xm,Xn,Xo,Xp,Xq,Xr,Xs,Xt,Xu,Xv,Xw,Xx,Xy,Xz,XA,XB,reduceIte,reduceCtorEq,XC,XD,XE,XF,XG,XH,XI,XJ,XK,XL,XM,XN,XO,XP,XQ,XR,XS,XT,XU,XV,XW,XX,XY,XZ,Y0,Try.q3,Try.q4,Try.q31,Try.underlying36,Try.q36]
    refine awp_seq (awp_blk ?_)
    refine awp_seq (awp_vc (by kernel_rfl) ?_)
    simp -implicitDefEqProofs only [seqA_normal,seqA_ret,seqA_exit,Q0,Q1,Q2,Q3,Q4,Q5,Q6,Q7,Q8,Q9,Qa,Qb,Qc,Qd,Qe,Qf,Qg,Qh,Qi,Qj,Qk,Ql,Qm,Qn,Qo,Qp,Qq,Qr,Qs,Qt,Qu,Qv,Qw,Qx,Qy,Qz,QA,QB,QC,QD,QE,QF,QG,QH,QI,QJ,QK,QL,QM,QN,QO,QP,QQ,QR,QS,QT,QU,QV,QW,QX,QY,QZ,X0,X1,X2,X3,X4,X5,X6,X7,X8,X9,Xa,Xb,Xc,Xd,Xe,Xf,Xg,Xh,Xi,Xj,Xk,Xl,Xm,Xn,Xo,Xp,Xq,Xr,Xs,Xt,Xu,Xv,Xw,Xx,Xy,Xz,XA,XB,reduceIte,reduceCtorEq,XC,XD,XE,XF,XG,XH,XI,XJ,XK,XL,XM,XN,XO,XP,XQ,XR,XS,XT,XU,XV,XW,XX,XY,XZ,Y0,Try.q3,Try.q4,Try.q31,Try.underlying36,Try.q36]
    refine awp_blk ?_
    refine awp_loopW (fun k : Nat => [(4, .int .i64 k), (3, .int .i64 i), (0, esV l)]) (fun k s' => k ≤ l.length ∧ (∀ f ∈ l.take k, okE l e f) ∧ s' = s) (fun k => l.length - k) 0 (by simp [sub_cons, sub_nil, get_cons]) ⟨by omega, by simp, rfl⟩ ?_
    rintro k s' ⟨hk, hall2, rfl⟩
    by_cases hlk : k < l.length
    · have d2 : decide ((k : Int) < (l.length : Int)) = true := decide_eq_true (by omega)
      have hrowk : (l.map entA).getD (k : Int).toNat [] = entA l[k] := by rw [Int.toNat_natCast, getD_get (by simpa using hlk)]; simp
      have wk : IntKind.i64.wrap ((k : Int) + 1) = ((k + 1 : Nat) : Int) := by rw [wrap_i64 (by omega) (by omega)]; rfl
      have htk := List.take_succ_eq_append_getElem hlk
      have hmk := List.getElem_mem hlk
      have bk : (0 : Int) ≤ (k : Int) ∧ (k : Int) < (l.length : Int) := by omega
      generalize l[k] = f at *
      have hrowk2 : (l.map entA).getD (k : Int).toNat [] = [.int .i64 f.day, .int .i64 f.fr, .int .i64 f.to, .int .i64 f.cur, .int .i64 f.amt, .int .i64 f.note] := hrowk
      have hb := hbad e hm f hmk
      have hgo : okE l e f → ∀ g ∈ l.take (k + 1), okE l e g := fun h g hg => by
        rw [htk] at hg
        rcases List.mem_append.1 hg with hg | hg
        · exact hall2 g hg
        · simp at hg; subst hg; exact h
      refine awp_vc (by kernel_rfl) ?_
      simp -implicitDefEqProofs only [d2,lm,Q0,Q1,Q2,Q3,Q4,Q5,Q6,Q7,Q8,Q9,Qa,Qb,Qc,Qd,Qe,Qf,Qg,Qh,Qi,Qj,Qk,Ql,Qm,Qn,Qo,Qp,Qq,Qr,Qs,Qt,Qu,Qv,Qw,Qx,Qy,Qz,QA,QB,QC,QD,QE,QF,QG,QH,QI,QJ,QK,QL,QM,QN,QO,QP,QQ,QR,QS,QT,QU,QV,QW,QX,QY,QZ,X0,X1,X2,X3,X4,X5,X6,X7,X8,X9,Xa,Xb,Xc,Xd,Xe,Xf,Xg,Xh,Xi,Xj,Xk,Xl,Xm,Xn,Xo,Xp,Xq,Xr,Xs,Xt,Xu,Xv,Xw,Xx,Xy,Xz,XA,XB,reduceIte,reduceCtorEq,XC,XD,XE,XF,XG,XH,XI,XJ,XK,XL,XM,XN,XO,XP,XQ,XR,XS,XT,XU,XV,XW,XX,XY,XZ,Y0,Try.q3,Try.q4,Try.q31,Try.underlying36,Try.q36]
      refine awp_draws [] Try.mixed (by kernel_rfl) ?_
      by_cases h1 : e.day ≤ f.day
      · have d3 : decide (e.day ≤ f.day) = true := decide_eq_true h1
        by_cases h2 : e.fr = 0
        · have d4 : decide (e.fr = 0) = true := decide_eq_true h2
          have ho : okE l e f := fun _ h3 => absurd h2 h3
          simp -implicitDefEqProofs only [lm,hrow2,hrowk2,d3,d4,wk,Q0,Q1,Q2,Q3,Q4,Q5,Q6,Q7,Q8,Q9,Qa,Qb,Qc,Qd,Qe,Qf,Qg,Qh,Qi,Qj,Qk,Ql,Qm,Qn,Qo,Qp,Qq,Qr,Qs,Qt,Qu,Qv,Qw,Qx,Qy,Qz,QA,QB,QC,QD,QE,QF,QG,QH,QI,QJ,QK,QL,QM,QN,QO,QP,QQ,QR,QS,QT,QU,QV,QW,QX,QY,QZ,X0,X1,X2,X3,X4,X5,X6,X7,X8,X9,Xa,Xb,Xc,Xd,Xe,Xf,Xg,Xh,Xi,Xj,Xk,Xl,Xm,Xn,Xo,Xp,Xq,Xr,Xs,Xt,Xu,Xv,Xw,Xx,Xy,Xz,XA,XB,reduceIte,reduceCtorEq,XC,XD,XE,XF,XG,XH,XI,XJ,XK,XL,XM,XN,XO,XP,XQ,XR,XS,XT,XU,XV,XW,XX,XY,XZ,Y0,Try.q3,Try.q4,Try.q31,Try.underlying36,Try.q36]
          simp only [bi, bk, and_self, true_and]
          exact ⟨k + 1, by simp, ⟨by omega, hgo ho⟩, by omega⟩
        · have d4 : decide (e.fr = 0) = false := decide_eq_false h2
          have kc := kS e.fr e.cur f.day
          have ho : 0 ≤ bal l e.fr e.cur f.day → okE l e f := fun h _ _ => h
          have ho2 : ¬ 0 ≤ bal l e.fr e.cur f.day → ¬ okE l e f := fun h h3 => h (h3 h1 h2)
          generalize bal l e.fr e.cur f.day = u at *
          simp -implicitDefEqProofs only [lm,hrow2,hrowk2,d3,d4,Q0,Q1,Q2,Q3,Q4,Q5,Q6,Q7,Q8,Q9,Qa,Qb,Qc,Qd,Qe,Qf,Qg,Qh,Qi,Qj,Qk,Ql,Qm,Qn,Qo,Qp,Qq,Qr,Qs,Qt,Qu,Qv,Qw,Qx,Qy,Qz,QA,QB,QC,QD,QE,QF,QG,QH,QI,QJ,QK,QL,QM,QN,QO,QP,QQ,QR,QS,QT,QU,QV,QW,QX,QY,QZ,X0,X1,X2,X3,X4,X5,X6,X7,X8,X9,Xa,Xb,Xc,Xd,Xe,Xf,Xg,Xh,Xi,Xj,Xk,Xl,Xm,Xn,Xo,Xp,Xq,Xr,Xs,Xt,Xu,Xv,Xw,Xx,Xy,Xz,XA,XB,reduceIte,reduceCtorEq,XC,XD,XE,XF,XG,XH,XI,XJ,XK,XL,XM,XN,XO,XP,XQ,XR,XS,XT,XU,XV,XW,XX,XY,XZ,Y0,Try.q3,Try.q4,Try.q31,Try.underlying36,Try.q36]
          simp only [bi, bk, and_self, true_and]
          by_cases hu : u < 0
          · have d5 : decide (u < 0) = true := decide_eq_true hu
            rw [hb (ho2 (by omega))]
            refine dCall_of (kc _) (by decide) ?_
            simp -implicitDefEqProofs only [d5,seqA_ret,blkK_ret,Q0,Q1,Q2,Q3,Q4,Q5,Q6,Q7,Q8,Q9,Qa,Qb,Qc,Qd,Qe,Qf,Qg,Qh,Qi,Qj,Qk,Ql,Qm,Qn,Qo,Qp,Qq,Qr,Qs,Qt,Qu,Qv,Qw,Qx,Qy,Qz,QA,QB,QC,QD,QE,QF,QG,QH,QI,QJ,QK,QL,QM,QN,QO,QP,QQ,QR,QS,QT,QU,QV,QW,QX,QY,QZ,X0,X1,X2,X3,X4,X5,X6,X7,X8,X9,Xa,Xb,Xc,Xd,Xe,Xf,Xg,Xh,Xi,Xj,Xk,Xl,Xm,Xn,Xo,Xp,Xq,Xr,Xs,Xt,Xu,Xv,Xw,Xx,Xy,Xz,XA,XB,reduceIte,reduceCtorEq,XC,XD,XE,XF,XG,XH,XI,XJ,XK,XL,XM,XN,XO,XP,XQ,XR,XS,XT,XU,XV,XW,XX,XY,XZ,Y0,Try.q3,Try.q4,Try.q31,Try.underlying36,Try.q36]
          · have d5 : decide (u < 0) = false := decide_eq_false hu
            refine dCall_of (kc _) (by decide) ?_
            simp -implicitDefEqProofs only [d5,wk,Q0,Q1,Q2,Q3,Q4,Q5,Q6,Q7,Q8,Q9,Qa,Qb,Qc,Qd,Qe,Qf,Qg,Qh,Qi,Qj,Qk,Ql,Qm,Qn,Qo,Qp,Qq,Qr,Qs,Qt,Qu,Qv,Qw,Qx,Qy,Qz,QA,QB,QC,QD,QE,QF,QG,QH,QI,QJ,QK,QL,QM,QN,QO,QP,QQ,QR,QS,QT,QU,QV,QW,QX,QY,QZ,X0,X1,X2,X3,X4,X5,X6,X7,X8,X9,Xa,Xb,Xc,Xd,Xe,Xf,Xg,Xh,Xi,Xj,Xk,Xl,Xm,Xn,Xo,Xp,Xq,Xr,Xs,Xt,Xu,Xv,Xw,Xx,Xy,Xz,XA,XB,reduceIte,reduceCtorEq,XC,XD,XE,XF,XG,XH,XI,XJ,XK,XL,XM,XN,XO,XP,XQ,XR,XS,XT,XU,XV,XW,XX,XY,XZ,Y0,Try.q3,Try.q4,Try.q31,Try.underlying36,Try.q36]
            exact ⟨k + 1, by simp, ⟨by omega, hgo (ho (by omega))⟩, by omega⟩
      · have d3 : decide (e.day ≤ f.day) = false := decide_eq_false h1
        have ho : okE l e f := fun h3 => absurd h3 h1
        simp -implicitDefEqProofs only [lm,hrow2,hrowk2,d3,wk,Q0,Q1,Q2,Q3,Q4,Q5,Q6,Q7,Q8,Q9,Qa,Qb,Qc,Qd,Qe,Qf,Qg,Qh,Qi,Qj,Qk,Ql,Qm,Qn,Qo,Qp,Qq,Qr,Qs,Qt,Qu,Qv,Qw,Qx,Qy,Qz,QA,QB,QC,QD,QE,QF,QG,QH,QI,QJ,QK,QL,QM,QN,QO,QP,QQ,QR,QS,QT,QU,QV,QW,QX,QY,QZ,X0,X1,X2,X3,X4,X5,X6,X7,X8,X9,Xa,Xb,Xc,Xd,Xe,Xf,Xg,Xh,Xi,Xj,Xk,Xl,Xm,Xn,Xo,Xp,Xq,Xr,Xs,Xt,Xu,Xv,Xw,Xx,Xy,Xz,XA,XB,reduceIte,reduceCtorEq,XC,XD,XE,XF,XG,XH,XI,XJ,XK,XL,XM,XN,XO,XP,XQ,XR,XS,XT,XU,XV,XW,XX,XY,XZ,Y0,Try.q3,Try.q4,Try.q31,Try.underlying36,Try.q36]
        simp only [bi, bk, and_self, true_and]
        exact ⟨k + 1, by simp, ⟨by omega, hgo ho⟩, by omega⟩
    · have d2 : decide ((k : Int) < (l.length : Int)) = false := decide_eq_false (by omega)
      rw [List.take_of_length_le (by omega)] at hall2
      refine awp_vc (by kernel_rfl) ?_
      simp -implicitDefEqProofs only [d2,lm,seqA_normal,Q0,Q1,Q2,Q3,Q4,Q5,Q6,Q7,Q8,Q9,Qa,Qb,Qc,Qd,Qe,Qf,Qg,Qh,Qi,Qj,Qk,Ql,Qm,Qn,Qo,Qp,Qq,Qr,Qs,Qt,Qu,Qv,Qw,Qx,Qy,Qz,QA,QB,QC,QD,QE,QF,QG,QH,QI,QJ,QK,QL,QM,QN,QO,QP,QQ,QR,QS,QT,QU,QV,QW,QX,QY,QZ,X0,X1,X2,X3,X4,X5,X6,X7,X8,X9,Xa,Xb,Xc,Xd,Xe,Xf,Xg,Xh,Xi,Xj,Xk,Xl,Xm,Xn,Xo,Xp,Xq,Xr,Xs,Xt,Xu,Xv,Xw,Xx,Xy,Xz,XA,XB,reduceIte,reduceCtorEq,XC,XD,XE,XF,XG,XH,XI,XJ,XK,XL,XM,XN,XO,XP,XQ,XR,XS,XT,XU,XV,XW,XX,XY,XZ,Y0,Try.q3,Try.q4,Try.q31,Try.underlying36,Try.q36]
      refine awp_vc (by kernel_rfl) ?_
      simp -implicitDefEqProofs only [wi,Q0,Q1,Q2,Q3,Q4,Q5,Q6,Q7,Q8,Q9,Qa,Qb,Qc,Qd,Qe,Qf,Qg,Qh,Qi,Qj,Qk,Ql,Qm,Qn,Qo,Qp,Qq,Qr,Qs,Qt,Qu,Qv,Qw,Qx,Qy,Qz,QA,QB,QC,QD,QE,QF,QG,QH,QI,QJ,QK,QL,QM,QN,QO,QP,QQ,QR,QS,QT,QU,QV,QW,QX,QY,QZ,X0,X1,X2,X3,X4,X5,X6,X7,X8,X9,Xa,Xb,Xc,Xd,Xe,Xf,Xg,Xh,Xi,Xj,Xk,Xl,Xm,Xn,Xo,Xp,Xq,Xr,Xs,Xt,Xu,Xv,Xw,Xx,Xy,Xz,XA,XB,reduceIte,reduceCtorEq,XC,XD,XE,XF,XG,XH,XI,XJ,XK,XL,XM,XN,XO,XP,XQ,XR,XS,XT,XU,XV,XW,XX,XY,XZ,Y0,Try.q3,Try.q4,Try.q31,Try.underlying36,Try.q36]
      refine ⟨i + 1, by simp, ⟨by omega, fun x hx => ?_⟩, by omega⟩
      rw [ht] at hx
      rcases List.mem_append.1 hx with hx | hx
      · exact hall x hx
      · simp at hx; subst hx; exact hall2
  · have d1 : decide ((i : Int) < (l.length : Int)) = false := decide_eq_false (by omega)
    rw [List.take_of_length_le (by omega)] at hall
    have hs : sndB l = true := sndB_t ((snd_ref hV).2 hall)
    rw [hs]
    refine awp_vc (by kernel_rfl) ?_
    simp -implicitDefEqProofs only [d1,lm,seqA_normal,Q0,Q1,Q2,Q3,Q4,Q5,Q6,Q7,Q8,Q9,Qa,Qb,Qc,Qd,Qe,Qf,Qg,Qh,Qi,Qj,Qk,Ql,Qm,Qn,Qo,Qp,Qq,Qr,Qs,Qt,Qu,Qv,Qw,Qx,Qy,Qz,QA,QB,QC,QD,QE,QF,QG,QH,QI,QJ,QK,QL,QM,QN,QO,QP,QQ,QR,QS,QT,QU,QV,QW,QX,QY,QZ,X0,X1,X2,X3,X4,X5,X6,X7,X8,X9,Xa,Xb,Xc,Xd,Xe,Xf,Xg,Xh,Xi,Xj,Xk,Xl,Xm,Xn,Xo,Xp,Xq,Xr,Xs,Xt,Xu,Xv,Xw,Xx,Xy,Xz,XA,XB,reduceIte,reduceCtorEq,XC,XD,XE,XF,XG,XH,XI,XJ,XK,XL,XM,XN,XO,XP,XQ,XR,XS,XT,XU,XV,XW,XX,XY,XZ,Y0,Try.q3,Try.q4,Try.q31,Try.underlying36,Try.q36]
    refine awp_vc (by kernel_rfl) ?_
    simp -implicitDefEqProofs only [Q0,Q1,Q2,Q3,Q4,Q5,Q6,Q7,Q8,Q9,Qa,Qb,Qc,Qd,Qe,Qf,Qg,Qh,Qi,Qj,Qk,Ql,Qm,Qn,Qo,Qp,Qq,Qr,Qs,Qt,Qu,Qv,Qw,Qx,Qy,Qz,QA,QB,QC,QD,QE,QF,QG,QH,QI,QJ,QK,QL,QM,QN,QO,QP,QQ,QR,QS,QT,QU,QV,QW,QX,QY,QZ,X0,X1,X2,X3,X4,X5,X6,X7,X8,X9,Xa,Xb,Xc,Xd,Xe,Xf,Xg,Xh,Xi,Xj,Xk,Xl,Xm,Xn,Xo,Xp,Xq,Xr,Xs,Xt,Xu,Xv,Xw,Xx,Xy,Xz,XA,XB,reduceIte,reduceCtorEq,XC,XD,XE,XF,XG,XH,XI,XJ,XK,XL,XM,XN,XO,XP,XQ,XR,XS,XT,XU,XV,XW,XX,XY,XZ,Y0,Try.q3,Try.q4,Try.q31,Try.underlying36,Try.q36]

end Go.Proofs
