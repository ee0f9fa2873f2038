/-
  The ledger and a copy of it, side by side: what an operation on one leaves of the other.
-/
import Derived.Test.YtdioiegkpkjmkaaMl
namespace Go.Proofs
open Go.Pa
open Go.Pa renaming VB0 → Q0, VB1 → Q1, VB2 → Q2, VB3 → Q3, VB4 → Q4, VB5 → Q5, VB6 → Q6, VB7 → Q7, VB8 → Q8, VB9 → Q9, condV_bool → Qa, guardV_bool → Qb, vcS → Qc, evA → Qd, evBin → Qe, nilA → Qf, nilOf → Qg, intOp → Qh, strOp → Qi, evUn → Qj, evConv → Qk, evField → Ql, evFieldAddr → Qm, evIndexAddr → Qn, evIndex → Qo, evIndexA → Qp, bnd → Qq, evSlice → Qr, evLen → Qs, evPick → Qt, evExtract → Qu, evNilCheck → Qv, evMin → Qw, evMax → Qx, evLoadI → Qy, partsOne → QA, intsOf → QB, rowsAV → QC, evBuildSlice → QD, evBuild → QE, fillA → QF, splice → QG, evBuiltin → QH, guardD_bool → QI, dOp → QJ, cl → QK, vcLoad → QL, vcStore → QM, vcMake → QN, convA → QO, evIndexArr → QP, retA → QQ, ressA → QR, resA → QS, envOf → QT, condR_bool → QX, asgEnv → QY, parEnv → QZ, dstAt → XI, vcLook → XT, vcPut → XU, vcEnt → XV, vcESt → XW, vcMLen → XX, vcDel → XY, vcClear → XZ, vcLookD → Y0
open Go.Pa.AV renaming cell → Qz
open Go.Pa.Env renaming put → QU
open List renaming set_cons_zero → QV, set_cons_succ → QW, foldl_cons → X0, foldl_nil → X1, map_cons → X2, map_nil → X3, toList_toArray → X4, getElem?_cons_zero → X5, getElem?_cons_succ → X6, nil_append → Xa, append_nil → Xb, cons_append → Xc, singleton_append → Xd, length_cons → Xe, length_nil → Xf, all_cons → Xg, all_nil → Xh, take_succ_cons → Xi, take_zero → Xj, take_nil → Xk, drop_zero → Xl, drop_succ_cons → Xm, drop_nil → Xn, contains_nil → Xo, contains_cons → Xp
open Option renaming bind_some → X7, map_some → X8, map_none → X9
open Bool renaming or_false → Xq, false_or → Xr, or_true → Xs, true_or → Xt, false_eq_true → XC, not_true → XD, not_false → XE, and_true → XF, true_and → XG, and_self → XH
open Nat renaming reduceEqDiff → Xu, reduceAdd → Xv, reduceSub → Xw, reduceMul → Xx, reduceLT → Xy, reduceLeDiff → Xz, reduceBNe → XA, reduceBEq → XB, zero_add → XL, add_zero → XM
open UInt8 renaming reduceToNat → XJ
open Int renaming cast_ofNat_Int → XK, reduceToNat → XN, reduceLT → XO, reduceLE → XP, reduceNeg → XQ, reduceEq → XR, reduceNe → XS
set_option linter.unusedSimpArgs false
set_option linter.unusedVariables false
set_option maxRecDepth 20000
set_option maxHeartbeats 4000000

theorem c_EntriesB (es : List Ent) (hl : es.length ≤ 20000) (j : AV) (σ : Store) (id : Nat) (h0 : σ[id]? = some (.box [esV es, j])) :
    ACalls Try.prog 14 [.ptr id 0] σ (fun r s => Ext σ s ∧ BufR s σ.length r 6 (es.map entA)) := by
  have k := clone_buf es (by omega) σ
  refine acalls_of_vc (fn := Try.f14) Try.call14 Try.func14 rfl (by kernel_rfl) (by simp [Try.ntmps14]) ?_; simp -implicitDefEqProofs only [Try.ntmps14,Try.results14,Q0,Q1,Q2,Q3,Q4,Q5,Q6,Q7,Q8,Q9,Qa,Qb,Qc,Qd,Qe,Qf,Qg,Qh,Qi,Qj,Qk,Ql,Qm,Qn,Qo,Qp,Qq,Qr,Qs,Qt,Qu,Qv,Qw,Qx,Qy,Qz,QA,QB,QC,QD,QE,QF,QG,QH,QI,QJ,QK,QL,QM,QN,QO,QP,QQ,QR,QS,QT,QU,QV,QW,QX,QY,QZ,X0,X1,X2,X3,X4,X5,X6,X7,X8,X9,Xa,Xb,Xc,Xd,Xe,Xf,Xg,Xh,Xi,Xj,Xk,Xl,Xm,Xn,Xo,Xp,Xq,Xr,Xs,Xt,Xu,Xv,Xw,Xx,Xy,Xz,XA,XB,reduceIte,reduceCtorEq,XC,XD,XE,XF,XG,XH,XI,XJ,XK,XL,XM,XN,XO,XP,XQ,XR,XS,XT,XU,XV,XW,XX,XY,XZ,Y0,Try.q23,Try.q29,Try.underlying37,Try.q37,Try.underlying64,Try.q64,Try.underlying66,Try.q66]
  simp -implicitDefEqProofs only [h0,Q0,Q1,Q2,Q3,Q4,Q5,Q6,Q7,Q8,Q9,Qa,Qb,Qc,Qd,Qe,Qf,Qg,Qh,Qi,Qj,Qk,Ql,Qm,Qn,Qo,Qp,Qq,Qr,Qs,Qt,Qu,Qv,Qw,Qx,Qy,Qz,QA,QB,QC,QD,QE,QF,QG,QH,QI,QJ,QK,QL,QM,QN,QO,QP,QQ,QR,QS,QT,QU,QV,QW,QX,QY,QZ,X0,X1,X2,X3,X4,X5,X6,X7,X8,X9,Xa,Xb,Xc,Xd,Xe,Xf,Xg,Xh,Xi,Xj,Xk,Xl,Xm,Xn,Xo,Xp,Xq,Xr,Xs,Xt,Xu,Xv,Xw,Xx,Xy,Xz,XA,XB,reduceIte,reduceCtorEq,XC,XD,XE,XF,XG,XH,XI,XJ,XK,XL,XM,XN,XO,XP,XQ,XR,XS,XT,XU,XV,XW,XX,XY,XZ,Y0,Try.q23,Try.q29,Try.underlying37,Try.q37,Try.underlying64,Try.q64,Try.underlying66,Try.q66]
  refine ACalls.mono k ?_
  rintro r s ⟨h1, h2⟩
  simp -implicitDefEqProofs only [Q0,Q1,Q2,Q3,Q4,Q5,Q6,Q7,Q8,Q9,Qa,Qb,Qc,Qd,Qe,Qf,Qg,Qh,Qi,Qj,Qk,Ql,Qm,Qn,Qo,Qp,Qq,Qr,Qs,Qt,Qu,Qv,Qw,Qx,Qy,Qz,QA,QB,QC,QD,QE,QF,QG,QH,QI,QJ,QK,QL,QM,QN,QO,QP,QQ,QR,QS,QT,QU,QV,QW,QX,QY,QZ,X0,X1,X2,X3,X4,X5,X6,X7,X8,X9,Xa,Xb,Xc,Xd,Xe,Xf,Xg,Xh,Xi,Xj,Xk,Xl,Xm,Xn,Xo,Xp,Xq,Xr,Xs,Xt,Xu,Xv,Xw,Xx,Xy,Xz,XA,XB,reduceIte,reduceCtorEq,XC,XD,XE,XF,XG,XH,XI,XJ,XK,XL,XM,XN,XO,XP,XQ,XR,XS,XT,XU,XV,XW,XX,XY,XZ,Y0,Try.q23,Try.q29,Try.underlying37,Try.q37,Try.underlying64,Try.q64,Try.underlying66,Try.q66]
  exact ⟨h1, h2⟩

/-- No object of the one is one of the other. -/
def Apt (id j m d a b c e : Nat) : Prop := ∀ x ∈ [id, j, m, d], ∀ y ∈ [a, b, c, e], x ≠ y

theorem Apt.symm {id j m d a b c e : Nat} (h : Apt id j m d a b c e) : Apt a b c e id j m d := fun x hx y hy => (h y hy x hx).symm

theorem Apt.new {id j m d a b c e d' : Nat} (h : Apt id j m d a b c e) (hd : d' = m ∨ d' = d ∨ (a < d' ∧ b < d' ∧ c < d' ∧ e < d')) : Apt id j m d' a b c e := by
  intro x hx y hy
  simp only [List.mem_cons, List.not_mem_nil, or_false] at hx
  rcases hx with h1 | h1 | h1 | h1
  · exact h x (by simp [h1]) y hy
  · exact h x (by simp [h1]) y hy
  · exact h x (by simp [h1]) y hy
  · rcases hd with h2 | h2 | h2
    · exact h x (by simp [h1, h2]) y hy
    · exact h x (by simp [h1, h2]) y hy
    · simp only [List.mem_cons, List.not_mem_nil, or_false] at hy
      omega

theorem Two.keep {σ s : Store} {id j m d a b c e : Nat} {E : AV} {es : List Ent} {dn : List Int} (h : Two σ a b c e E es dn) (hf : Fr4 σ s id j m d) (ha : Apt id j m d a b c e) : Two s a b c e E es dn := by
  have stay : ∀ y ∈ [a, b, c, e], ∀ x, σ[y]? = some x → s[y]? = some x := fun y hy x hx =>
    hf.2 y x hx (ha id (by simp) y hy).symm (ha j (by simp) y hy).symm (ha m (by simp) y hy).symm (ha d (by simp) y hy).symm
  obtain ⟨⟨g1, l, cl, g2, g3⟩, hr, q1, q2, q3, q4⟩ := h
  exact ⟨⟨stay a (by simp) _ g1, l, cl, stay b (by simp) _ g2, g3⟩, ⟨stay c (by simp) _ hr.box, hr.dl.imp (fun h => h) fun ⟨h1, h2⟩ => ⟨h1, stay e (by simp) _ h2⟩⟩, q1, q2, q3, q4⟩

/-- The number of the list of those taken back lies in the store. -/
theorem Two.norm {s : Store} {id j m d : Nat} {D : AV} {es : List Ent} {dn : List Int} (h : Two s id j m d D es dn) : ∃ d', Two s id j m d' D es dn ∧ d' < s.length ∧ (d' = m ∨ d' = d) := by
  have hm := (List.getElem?_eq_some_iff.1 h.rl.box).1
  rcases h.rl.dl with ⟨h1, h2⟩ | ⟨h1, h2⟩
  · exact ⟨m, ⟨h.led, ⟨h.rl.box, .inl ⟨h1, h2⟩⟩, h.a, h.b, h.a, h.b⟩, hm, .inl rfl⟩
  · exact ⟨d, h, (List.getElem?_eq_some_iff.1 h2).1, .inr rfl⟩

/-- Two pairs of ledgers. -/
structure Four (s : Store) (id j m d : Nat) (D : AV) (es : List Ent) (dn : List Int) (a b c e : Nat) (E : AV) (fs : List Ent) (en : List Int) : Prop where
  x : Two s id j m d D es dn
  xd : d < s.length
  y : Two s a b c e E fs en
  yd : e < s.length
  apt : Apt id j m d a b c e

theorem Four.symm {s : Store} {id j m d : Nat} {D : AV} {es : List Ent} {dn : List Int} {a b c e : Nat} {E : AV} {fs : List Ent} {en : List Int} (h : Four s id j m d D es dn a b c e E fs en) : Four s a b c e E fs en id j m d D es dn := ⟨h.y, h.yd, h.x, h.xd, h.apt.symm⟩

theorem do_four {s : Store} {id j m d : Nat} {D : AV} {es : List Ent} {dn : List Int} {a b c e : Nat} {E : AV} {fs : List Ent} {en : List Int} (h : Four s id j m d D es dn a b c e E fs en)
    (hl : es.length ≤ 16384) (hV : ∀ x ∈ es, Val x) (hdl : dn.length ≤ 100000) (o : Opn) (ho : o.es.length ≤ 1000) (hix : Okk .i64 o.ix) :
    ∃ s2 d2 D2, Four s2 id j m d2 D2 (opR es dn o).1 (opR es dn o).2 a b c e E fs en ∧ ACalls Try.prog 21 [.ptr id 0, .ptr m 0, .agg [.rows 6 (o.es.map entA), .int .i64 o.ix, .int .i64 o.dy]] s (fun r s' => r = .bool true ∧ s' = s2) := by
  obtain ⟨s2, d2, D2, h1, h2, h3, h4⟩ := r_do es dn hl hV hdl o ho hix s id j m d D h.x
  obtain ⟨d3, g1, g2, g3⟩ := h1.norm
  have hy := h.y.led.lt
  have hc := (List.getElem?_eq_some_iff.1 h.y.rl.box).1
  have he := h.yd
  have hle := h2.1
  exact ⟨s2, d3, D2, ⟨g1, g2, h.y.keep h2 h.apt, by omega, h.apt.new (by omega)⟩, h4⟩

end Go.Proofs
