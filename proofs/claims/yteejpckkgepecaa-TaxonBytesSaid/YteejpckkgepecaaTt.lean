/-
  Taxonomies: the reference's reach; contract.
-/
import Derived.Test.YteejpckkgepecaaTo
namespace Go.Proofs
open Go.Pa
open Go.Pa renaming VB0 → Q0, VB1 → Q1, VB2 → Q2, VB3 → Q3, VB4 → Q4, VB5 → Q5, VB6 → Q6, VB7 → Q7, VB8 → Q8, VB9 → Q9, condV_bool → Qa, guardV_bool → Qb, vcS → Qc, evA → Qd, evBin → Qe, nilA → Qf, nilOf → Qg, intOp → Qh, strOp → Qi, evUn → Qj, evConv → Qk, evField → Ql, evFieldAddr → Qm, evIndexAddr → Qn, evIndex → Qo, evIndexA → Qp, bnd → Qq, evSlice → Qr, evLen → Qs, evPick → Qt, evExtract → Qu, evNilCheck → Qv, evMin → Qw, evMax → Qx, evLoadI → Qy, partsOne → QA, intsOf → QB, rowsAV → QC, evBuildSlice → QD, evBuild → QE, fillA → QF, splice → QG, evBuiltin → QH, guardD_bool → QI, dOp → QJ, cl → QK, vcLoad → QL, vcStore → QM, vcMake → QN, convA → QO, evIndexArr → QP, retA → QQ, ressA → QR, resA → QS, envOf → QT, condR_bool → QX, asgEnv → QY, parEnv → QZ, dstAt → XI, vcLook → XT, vcPut → XU, vcEnt → XV, vcESt → XW, vcMLen → XX, vcDel → XY, vcClear → XZ, vcLookD → Y0
open Go.Pa.AV renaming cell → Qz
open Go.Pa.Env renaming put → QU
open List renaming set_cons_zero → QV, set_cons_succ → QW, foldl_cons → X0, foldl_nil → X1, map_cons → X2, map_nil → X3, toList_toArray → X4, getElem?_cons_zero → X5, getElem?_cons_succ → X6, nil_append → Xa, append_nil → Xb, cons_append → Xc, singleton_append → Xd, length_cons → Xe, length_nil → Xf, all_cons → Xg, all_nil → Xh, take_succ_cons → Xi, take_zero → Xj, take_nil → Xk, drop_zero → Xl, drop_succ_cons → Xm, drop_nil → Xn, contains_nil → Xo, contains_cons → Xp
open Option renaming bind_some → X7, map_some → X8, map_none → X9
open Bool renaming or_false → Xq, false_or → Xr, or_true → Xs, true_or → Xt, false_eq_true → XC, not_true → XD, not_false → XE, and_true → XF, true_and → XG, and_self → XH
open Nat renaming reduceEqDiff → Xu, reduceAdd → Xv, reduceSub → Xw, reduceMul → Xx, reduceLT → Xy, reduceLeDiff → Xz, reduceBNe → XA, reduceBEq → XB, zero_add → XL, add_zero → XM
open UInt8 renaming reduceToNat → XJ
open Int renaming cast_ofNat_Int → XK, reduceToNat → XN, reduceLT → XO, reduceLE → XP, reduceNeg → XQ, reduceEq → XR, reduceNe → XS
set_option linter.unusedSimpArgs false
set_option linter.unusedVariables false
set_option maxRecDepth 20000
set_option maxHeartbeats 2000000

theorem ACalls.frozenE {P : Program} {f : FuncId} {args : List AV} {σ : Store} {Q : AV → Prop} (h : ACalls P f args σ fun r s => Ext σ s ∧ ∃ r', Frz s σ.length r r' ∧ Q r') : ACalls P f args σ fun r s => Q r ∧ s = σ := by
  refine ACalls.frozenS (h.mono ?_)
  rintro r s ⟨hx, r', h1, h2⟩
  refine ⟨hx.len, fun i x hi hs => .inl ?_, r', h1, h2, ?_⟩
  · have := hx i _ (List.getElem?_eq_getElem hi)
    rw [hs] at this
    cases this
    exact List.getElem?_eq_getElem hi
  · apply List.ext_getElem?
    intro i
    rw [List.getElem?_take]
    split
    · rename_i hi
      rw [hx i _ (List.getElem?_eq_getElem hi), List.getElem?_eq_getElem hi]
    · rename_i hi
      rw [List.getElem?_eq_none (by omega)]

/-- How many classes a list lacks. -/
def missN (n : Nat) (out : List Int) : Nat := (filtI n fun x => decide (x ∉ out)).length

theorem missN_snoc {n : Nat} {out : List Int} {x : Int} (hx : 0 ≤ x ∧ x < n) (hn : x ∉ out) : missN n (out ++ [x]) < missN n out := by
  unfold missN filtI
  refine filter_less (fun a _ h => ?_) ⟨x, List.mem_map.2 ⟨x.toNat, List.mem_range.2 (by omega), by omega⟩, decide_eq_true hn, decide_eq_false (by simp)⟩
  have := of_decide_eq_true h
  exact decide_eq_true fun h2 => this (by simp [h2])

/-- What holds while reach runs. -/
structure RIn (p : List (List Int)) (l out : List Int) (i k : Nat) : Prop where
  pre : ∀ x ∈ l, x ∈ out
  rng : ∀ x ∈ out, 0 ≤ x ∧ x < p.length
  snd : ∀ x ∈ out, ∃ d ∈ l, isI p d x = true
  cls : ∀ j, j < i → ∀ x ∈ p.getD (out.getD j 0).toNat [], x ∈ out
  cur : ∀ x ∈ (p.getD (out.getD i 0).toNat []).take k, x ∈ out
  len : out.length + missN p.length out ≤ l.length + p.length

theorem RIn.next {p : List (List Int)} {l out : List Int} {i k : Nat} (h : RIn p l out i k) (hk : (p.getD (out.getD i 0).toNat []).length ≤ k) : RIn p l out (i + 1) 0 := by
  refine ⟨h.pre, h.rng, h.snd, fun j hj x hx => ?_, by simp, h.len⟩
  by_cases hji : j = i
  · subst hji
    have := h.cur x
    rw [List.take_of_length_le hk] at this
    exact this hx
  · exact h.cls j (by omega) x hx

theorem RIn.has {p : List (List Int)} {l out : List Int} {i k : Nat} (h : RIn p l out i k) {x : Int} (hx : (p.getD (out.getD i 0).toNat [])[k]? = some x) (hm : x ∈ out) : RIn p l out i (k + 1) := by
  refine ⟨h.pre, h.rng, h.snd, h.cls, fun y hy => ?_, h.len⟩
  rw [List.take_add_one, hx] at hy
  rcases List.mem_append.1 hy with hy | hy
  · exact h.cur y hy
  · simp at hy; subst hy; exact hm

theorem RIn.snoc {p : List (List Int)} (hI : InR p) {l out : List Int} {i k : Nat} (h : RIn p l out i k) (hi : i < out.length) {x : Int} (hx : (p.getD (out.getD i 0).toNat [])[k]? = some x) (hm : x ∉ out) : RIn p l (out ++ [x]) i (k + 1) := by
  have hg : ∀ j, j ≤ i → (out ++ [x]).getD j 0 = out.getD j 0 := fun j hj => by
    rw [List.getD_eq_getElem?_getD, List.getElem?_append_left (by omega), ← List.getD_eq_getElem?_getD]
  have hc : out.getD i 0 ∈ out := by rw [getD_get hi]; exact List.getElem_mem hi
  have hcr := h.rng _ hc
  have hxm : x ∈ p.getD (out.getD i 0).toNat [] := List.mem_of_getElem? hx
  have hlt : (out.getD i 0).toNat < p.length := by omega
  have hxr : 0 ≤ x ∧ x < p.length := hI _ (by rw [getD_get hlt]; exact List.getElem_mem hlt) x hxm
  refine ⟨fun y hy => by simp [h.pre y hy], fun y hy => ?_, fun y hy => ?_, fun j hj y hy => ?_, fun y hy => ?_, ?_⟩
  · rcases List.mem_append.1 hy with hy | hy
    · exact h.rng y hy
    · simp at hy; subst hy; exact hxr
  · rcases List.mem_append.1 hy with hy | hy
    · exact h.snd y hy
    · simp at hy; subst hy
      obtain ⟨d, hd, h1⟩ := h.snd _ hc
      refine ⟨d, hd, isI_tr h1 (isI_iff.2 ⟨(out.getD i 0).toNat, y.toNat, by omega, by omega, hlt, by omega, ?_⟩)⟩
      refine Rch.one ?_
      unfold Par
      rw [show ((y.toNat : Nat) : Int) = y by omega]
      exact hxm
  · rw [hg j (by omega)] at hy
    simp [h.cls j hj y hy]
  · rw [hg i (Nat.le_refl _), List.take_add_one, hx] at hy
    rcases List.mem_append.1 hy with hy | hy
    · simp [h.cur y hy]
    · simp at hy; subst hy; simp
  · have := missN_snoc hxr hm
    have := h.len
    rw [List.length_append, List.length_cons, List.length_nil]
    omega

theorem RIn.fin {p : List (List Int)} (hI : InR p) {l out : List Int} (hl : l.any (badI p.length) = false) {i k : Nat} (h : RIn p l out i k) (hi : out.length ≤ i) (x : Int) : x ∈ out ↔ ∃ d ∈ l, isI p d x = true := by
  constructor
  · exact h.snd x
  · rintro ⟨d, hd, h1⟩
    obtain ⟨C, D, rfl, rfl, h2, h3, h4⟩ := isI_iff.1 h1
    have h5 := h.pre _ hd
    clear h1 hd h2 h3
    induction h4 with
    | refl => exact h5
    | @step c d' e hp hr ih =>
      refine ih ?_
      obtain ⟨j, hj, hje⟩ := List.getElem_of_mem h5
      have := h.cls j (by omega) (d' : Int)
      rw [getD_get hj, hje] at this
      exact this (by simpa [Par] using hp)

theorem r_reach (p : List (List Int)) (hp : p.length ≤ 200) (hI : InR p) (hr : ∀ r ∈ p, r.length ≤ 1000) (l : List Int) (hl : l.length ≤ 1000) (hg : l.any (badI p.length) = false) (σ : Store) :
    ACalls Try.prog 42 [.rows 1 (p.map rowI), .ints .i64 l] σ (fun r s => (∃ out, r = .ints .i64 out ∧ out.length ≤ 1200 ∧ ∀ x, x ∈ out ↔ ∃ d ∈ l, isI p d x = true) ∧ s = σ) := by
  refine ACalls.frozenE (ACalls.mono (R := fun r s => Ext σ s ∧ ∃ out, BufI s σ.length r .i64 out ∧ out.length ≤ 1200 ∧ ∀ x, x ∈ out ↔ ∃ d ∈ l, isI p d x = true) ?_ fun r s ⟨h1, out, h2, h3⟩ => ⟨h1, _, h2.frz, out, rfl, h3⟩)
  have hml : (p.map rowI).length = p.length := by simp
  refine acalls_of_vc (fn := Try.f42) Try.call42 Try.func42 rfl (by kernel_rfl) (by simp [Try.ntmps42]) ?_; simp -implicitDefEqProofs only [Try.ntmps42,Try.results42,Q0,Q1,Q2,Q3,Q4,Q5,Q6,Q7,Q8,Q9,Qa,Qb,Qc,Qd,Qe,Qf,Qg,Qh,Qi,Qj,Qk,Ql,Qm,Qn,Qo,Qp,Qq,Qr,Qs,Qt,Qu,Qv,Qw,Qx,Qy,Qz,QA,QB,QC,QD,QE,QF,QG,QH,QI,QJ,QK,QL,QM,QN,QO,QP,QQ,QR,QS,QT,QU,QV,QW,QX,QY,QZ,X0,X1,X2,X3,X4,X5,X6,X7,X8,X9,Xa,Xb,Xc,Xd,Xe,Xf,Xg,Xh,Xi,Xj,Xk,Xl,Xm,Xn,Xo,Xp,Xq,Xr,Xs,Xt,Xu,Xv,Xw,Xx,Xy,Xz,XA,XB,reduceIte,reduceCtorEq,XC,XD,XE,XF,XG,XH,XI,XJ,XK,XL,XM,XN,XO,XP,XQ,XR,XS,XT,XU,XV,XW,XX,XY,XZ,Y0,Try.q3,Try.q4,Try.q22,Try.q23]
  refine append_buf (σ := σ) (l := []) (l' := l) (y := .ints .i64 l) Try.sl22 (by simp [Try.bt3]) (.refl _) (.inl ⟨.inr rfl, rfl⟩) (.inl rfl) (by simp [appFits, Try.bt3]; omega) fun r0 s0 hx0 hb0 => ?_
  rw [List.nil_append] at hb0
  simp -implicitDefEqProofs only [Q0,Q1,Q2,Q3,Q4,Q5,Q6,Q7,Q8,Q9,Qa,Qb,Qc,Qd,Qe,Qf,Qg,Qh,Qi,Qj,Qk,Ql,Qm,Qn,Qo,Qp,Qq,Qr,Qs,Qt,Qu,Qv,Qw,Qx,Qy,Qz,QA,QB,QC,QD,QE,QF,QG,QH,QI,QJ,QK,QL,QM,QN,QO,QP,QQ,QR,QS,QT,QU,QV,QW,QX,QY,QZ,X0,X1,X2,X3,X4,X5,X6,X7,X8,X9,Xa,Xb,Xc,Xd,Xe,Xf,Xg,Xh,Xi,Xj,Xk,Xl,Xm,Xn,Xo,Xp,Xq,Xr,Xs,Xt,Xu,Xv,Xw,Xx,Xy,Xz,XA,XB,reduceIte,reduceCtorEq,XC,XD,XE,XF,XG,XH,XI,XJ,XK,XL,XM,XN,XO,XP,XQ,XR,XS,XT,XU,XV,XW,XX,XY,XZ,Y0,Try.q3,Try.q4,Try.q22,Try.q23]
  refine awp_loop (fun q : Nat × AV × List Int => [(6, .int .i64 q.1), (5, q.2.1), (0, .rows 1 (p.map rowI))]) (fun q s => q.1 ≤ q.2.2.length ∧ Ext σ s ∧ BufI s σ.length q.2.1 .i64 q.2.2 ∧ RIn p l q.2.2 q.1 0) (fun q => l.length + p.length - q.1) (0, r0, l) (by kernel_rfl) (by simp [sub_cons, sub_nil, get_cons])
    ⟨by simp, hx0, hb0, ⟨fun _ h => h, fun x hx => good_in hg hx, fun x hx => ⟨x, hx, isI_rfl (good_in hg hx)⟩, fun j hj => absurd hj (by simp), by simp, by have := filtI_len p.length fun x => decide (x ∉ l); simp only [missN]; omega⟩⟩ ?_
  rintro ⟨i, r, out⟩ s ⟨hi, hx, hbuf, hR⟩
  simp only at hi hbuf hR
  have hol := hR.len
  by_cases hlt : i < out.length
  · have d1 : decide ((i : Int) < (out.length : Int)) = true := decide_eq_true (by omega)
    have wi : IntKind.i64.wrap ((i : Int) + 1) = ((i + 1 : Nat) : Int) := by rw [wrap_i64 (by omega) (by omega)]; rfl
    obtain ⟨id, hr0, ho, hn⟩ := hbuf.ne (by intro h; rw [h] at hlt; simp at hlt)
    subst hr0
    simp -implicitDefEqProofs only [d1,Q0,Q1,Q2,Q3,Q4,Q5,Q6,Q7,Q8,Q9,Qa,Qb,Qc,Qd,Qe,Qf,Qg,Qh,Qi,Qj,Qk,Ql,Qm,Qn,Qo,Qp,Qq,Qr,Qs,Qt,Qu,Qv,Qw,Qx,Qy,Qz,QA,QB,QC,QD,QE,QF,QG,QH,QI,QJ,QK,QL,QM,QN,QO,QP,QQ,QR,QS,QT,QU,QV,QW,QX,QY,QZ,X0,X1,X2,X3,X4,X5,X6,X7,X8,X9,Xa,Xb,Xc,Xd,Xe,Xf,Xg,Xh,Xi,Xj,Xk,Xl,Xm,Xn,Xo,Xp,Xq,Xr,Xs,Xt,Xu,Xv,Xw,Xx,Xy,Xz,XA,XB,reduceIte,reduceCtorEq,XC,XD,XE,XF,XG,XH,XI,XJ,XK,XL,XM,XN,XO,XP,XQ,XR,XS,XT,XU,XV,XW,XX,XY,XZ,Y0,Try.q3,Try.q4,Try.q22,Try.q23]
    refine awp_loop (fun q : Nat × AV × List Int => [(7, .int .i64 q.1), (6, .int .i64 i), (5, q.2.1), (0, .rows 1 (p.map rowI))]) (fun q s => i < q.2.2.length ∧ q.1 ≤ (p.getD (q.2.2.getD i 0).toNat []).length ∧ Ext σ s ∧ BufI s σ.length q.2.1 .i64 q.2.2 ∧ RIn p l q.2.2 i q.1)
      (fun q => (p.getD (q.2.2.getD i 0).toNat []).length - q.1) (0, .mvec id 0 out.length 1, out) (by kernel_rfl) (by simp [sub_cons, sub_nil, get_cons]) ⟨hlt, by simp, hx, hbuf, hR⟩ ?_
    clear hbuf hR hx ho hn hol hlt hi d1
    rintro ⟨k, r, out⟩ s ⟨hlt, hk, hx, hbuf, hR⟩
    simp only at hlt hk hbuf hR
    have hol := hR.len
    obtain ⟨id, rfl, ho, hn⟩ := hbuf.ne (by intro h; rw [h] at hlt; simp at hlt)
    have bi : (0 : Int) ≤ (i : Int) ∧ (i : Int) < (out.length : Int) := by omega
    have hil : i < out.length := hlt
    obtain ⟨c, hc⟩ : ∃ c, c = out.getD i 0 := ⟨_, rfl⟩
    have hcm : c ∈ out := by rw [hc, getD_get hlt]; exact List.getElem_mem hlt
    have hcr := hR.rng c hcm
    have hgi : out.getD ((i : Int).toNat) 0 = c := by rw [Int.toNat_natCast, hc]
    have hcl : c.toNat < p.length := by omega
    have hrow : (p.map rowI).getD c.toNat [] = [.ints .i64 (p.getD c.toNat [])] := by rw [rowI_get p hcl, getD_get hcl]
    have hrl : (p.getD c.toNat []).length ≤ 1000 := by rw [getD_get hcl]; exact hr _ (List.getElem_mem hcl)
    have hnx := fun h => hR.next (k := k) h
    have hhs := fun x (h1 : (p.getD (out.getD i 0).toNat [])[k]? = some x) h2 => hR.has (x := x) h1 h2
    have hsn := fun x (h1 : (p.getD (out.getD i 0).toNat [])[k]? = some x) h2 => hR.snoc hI hlt (x := x) h1 h2
    rw [← hc] at hk hnx hhs hsn
    have bc : (0 : Int) ≤ c ∧ c < (p.length : Int) := hcr
    obtain ⟨row, hrw⟩ : ∃ row, p.getD c.toNat [] = row := ⟨_, rfl⟩
    rw [hrw] at hk hnx hhs hsn hrow hrl
    have wk : IntKind.i64.wrap ((k : Int) + 1) = ((k + 1 : Nat) : Int) := by rw [wrap_i64 (by omega) (by omega)]; rfl
    by_cases hlk : k < row.length
    · have d2 : decide ((k : Int) < (row.length : Int)) = true := decide_eq_true (by omega)
      have hkx : row[k]? = some row[k] := List.getElem?_eq_getElem hlk
      have hgk : row.getD ((k : Int).toNat) 0 = row[k] := by rw [Int.toNat_natCast, getD_get hlk]
      have bk : (0 : Int) ≤ (k : Int) ∧ (k : Int) < (row.length : Int) := by omega
      generalize row[k] = x at *
      have kh := fun s (hb : BufI s σ.length (.mvec id 0 out.length 1) .i64 out) => ACalls.lend (r_has out x (by omega) []) (.cons hb.zero.frz (.cons (.same _ rfl) .nil)) rfl rfl
      have kh1 := kh s hbuf
      simp -implicitDefEqProofs only [ho,hgi,hrow,hml,d2,hgk,Q0,Q1,Q2,Q3,Q4,Q5,Q6,Q7,Q8,Q9,Qa,Qb,Qc,Qd,Qe,Qf,Qg,Qh,Qi,Qj,Qk,Ql,Qm,Qn,Qo,Qp,Qq,Qr,Qs,Qt,Qu,Qv,Qw,Qx,Qy,Qz,QA,QB,QC,QD,QE,QF,QG,QH,QI,QJ,QK,QL,QM,QN,QO,QP,QQ,QR,QS,QT,QU,QV,QW,QX,QY,QZ,X0,X1,X2,X3,X4,X5,X6,X7,X8,X9,Xa,Xb,Xc,Xd,Xe,Xf,Xg,Xh,Xi,Xj,Xk,Xl,Xm,Xn,Xo,Xp,Xq,Xr,Xs,Xt,Xu,Xv,Xw,Xx,Xy,Xz,XA,XB,reduceIte,reduceCtorEq,XC,XD,XE,XF,XG,XH,XI,XJ,XK,XL,XM,XN,XO,XP,XQ,XR,XS,XT,XU,XV,XW,XX,XY,XZ,Y0,Try.q3,Try.q4,Try.q22,Try.q23]
      refine ⟨bi, by omega, bc, bi, by omega, bc, bk, ?_⟩
      by_cases hm : x ∈ out
      · rw [decide_eq_true hm] at kh1
        refine acalls_then (kh1) ?_
        simp -implicitDefEqProofs only [wk,Q0,Q1,Q2,Q3,Q4,Q5,Q6,Q7,Q8,Q9,Qa,Qb,Qc,Qd,Qe,Qf,Qg,Qh,Qi,Qj,Qk,Ql,Qm,Qn,Qo,Qp,Qq,Qr,Qs,Qt,Qu,Qv,Qw,Qx,Qy,Qz,QA,QB,QC,QD,QE,QF,QG,QH,QI,QJ,QK,QL,QM,QN,QO,QP,QQ,QR,QS,QT,QU,QV,QW,QX,QY,QZ,X0,X1,X2,X3,X4,X5,X6,X7,X8,X9,Xa,Xb,Xc,Xd,Xe,Xf,Xg,Xh,Xi,Xj,Xk,Xl,Xm,Xn,Xo,Xp,Xq,Xr,Xs,Xt,Xu,Xv,Xw,Xx,Xy,Xz,XA,XB,reduceIte,reduceCtorEq,XC,XD,XE,XF,XG,XH,XI,XJ,XK,XL,XM,XN,XO,XP,XQ,XR,XS,XT,XU,XV,XW,XX,XY,XZ,Y0,Try.q3,Try.q4,Try.q22,Try.q23]
        exact ⟨(k + 1, .mvec id 0 out.length 1, out), ⟨rfl, rfl⟩, ⟨hil, by simp only; rw [← hc, hrw]; omega, hx, hbuf, hhs x hkx hm⟩, by simp only; rw [← hc, hrw]; omega⟩
      · rw [decide_eq_false hm] at kh1
        refine acalls_then (kh1) ?_
        simp -implicitDefEqProofs only [ho,hgi,hrow,hml,hgk,Q0,Q1,Q2,Q3,Q4,Q5,Q6,Q7,Q8,Q9,Qa,Qb,Qc,Qd,Qe,Qf,Qg,Qh,Qi,Qj,Qk,Ql,Qm,Qn,Qo,Qp,Qq,Qr,Qs,Qt,Qu,Qv,Qw,Qx,Qy,Qz,QA,QB,QC,QD,QE,QF,QG,QH,QI,QJ,QK,QL,QM,QN,QO,QP,QQ,QR,QS,QT,QU,QV,QW,QX,QY,QZ,X0,X1,X2,X3,X4,X5,X6,X7,X8,X9,Xa,Xb,Xc,Xd,Xe,Xf,Xg,Xh,Xi,Xj,Xk,Xl,Xm,Xn,Xo,Xp,Xq,Xr,Xs,Xt,Xu,Xv,Xw,Xx,Xy,Xz,XA,XB,reduceIte,reduceCtorEq,XC,XD,XE,XF,XG,XH,XI,XJ,XK,XL,XM,XN,XO,XP,XQ,XR,XS,XT,XU,XV,XW,XX,XY,XZ,Y0,Try.q3,Try.q4,Try.q22,Try.q23]
        refine ⟨bi, by omega, bc, bk, ?_⟩
        refine append_buf (σ := σ) Try.sl22 (by simp [Try.bt3]) hx hbuf (.inl rfl) (by simp only [appFits, Try.bt3, List.length_cons, List.length_nil]; omega) fun r2 s2 hx2 hb2 => ?_
        have hg2 : (out ++ [x]).getD i 0 = c := by rw [hc, List.getD_eq_getElem?_getD, List.getElem?_append_left hlt, ← List.getD_eq_getElem?_getD]
        simp -implicitDefEqProofs only [wk,Q0,Q1,Q2,Q3,Q4,Q5,Q6,Q7,Q8,Q9,Qa,Qb,Qc,Qd,Qe,Qf,Qg,Qh,Qi,Qj,Qk,Ql,Qm,Qn,Qo,Qp,Qq,Qr,Qs,Qt,Qu,Qv,Qw,Qx,Qy,Qz,QA,QB,QC,QD,QE,QF,QG,QH,QI,QJ,QK,QL,QM,QN,QO,QP,QQ,QR,QS,QT,QU,QV,QW,QX,QY,QZ,X0,X1,X2,X3,X4,X5,X6,X7,X8,X9,Xa,Xb,Xc,Xd,Xe,Xf,Xg,Xh,Xi,Xj,Xk,Xl,Xm,Xn,Xo,Xp,Xq,Xr,Xs,Xt,Xu,Xv,Xw,Xx,Xy,Xz,XA,XB,reduceIte,reduceCtorEq,XC,XD,XE,XF,XG,XH,XI,XJ,XK,XL,XM,XN,XO,XP,XQ,XR,XS,XT,XU,XV,XW,XX,XY,XZ,Y0,Try.q3,Try.q4,Try.q22,Try.q23]
        refine ⟨(k + 1, r2, out ++ [x]), ⟨rfl, rfl⟩, ⟨by simp only [List.length_append]; omega, by simp only; rw [hg2, hrw]; omega, hx2, hb2, hsn x hkx hm⟩, by simp only; rw [hg2, ← hc, hrw]; omega⟩
    · have d2 : decide ((k : Int) < (row.length : Int)) = false := decide_eq_false (by omega)
      simp -implicitDefEqProofs only [ho,hgi,hrow,hml,d2,wi,Q0,Q1,Q2,Q3,Q4,Q5,Q6,Q7,Q8,Q9,Qa,Qb,Qc,Qd,Qe,Qf,Qg,Qh,Qi,Qj,Qk,Ql,Qm,Qn,Qo,Qp,Qq,Qr,Qs,Qt,Qu,Qv,Qw,Qx,Qy,Qz,QA,QB,QC,QD,QE,QF,QG,QH,QI,QJ,QK,QL,QM,QN,QO,QP,QQ,QR,QS,QT,QU,QV,QW,QX,QY,QZ,X0,X1,X2,X3,X4,X5,X6,X7,X8,X9,Xa,Xb,Xc,Xd,Xe,Xf,Xg,Xh,Xi,Xj,Xk,Xl,Xm,Xn,Xo,Xp,Xq,Xr,Xs,Xt,Xu,Xv,Xw,Xx,Xy,Xz,XA,XB,reduceIte,reduceCtorEq,XC,XD,XE,XF,XG,XH,XI,XJ,XK,XL,XM,XN,XO,XP,XQ,XR,XS,XT,XU,XV,XW,XX,XY,XZ,Y0,Try.q3,Try.q4,Try.q22,Try.q23]
      refine ⟨bi, by omega, bc, ?_⟩
      exact ⟨(i + 1, .mvec id 0 out.length 1, out), ⟨rfl, rfl⟩, ⟨by simp only; omega, hx, hbuf, hnx (by omega)⟩, by simp only; omega⟩
  · have d1 : decide ((i : Int) < (out.length : Int)) = false := decide_eq_false (by omega)
    have hfin := hR.fin hI hg (by omega)
    have hol2 : out.length ≤ 1200 := by omega
    rcases hbuf with ⟨h1 | h1, h2⟩ | ⟨id, h1, h2, h3⟩
    · subst h1
      subst h2
      have d10 : decide ((i : Int) < 0) = false := decide_eq_false (by omega)
      simp -implicitDefEqProofs only [d10,Q0,Q1,Q2,Q3,Q4,Q5,Q6,Q7,Q8,Q9,Qa,Qb,Qc,Qd,Qe,Qf,Qg,Qh,Qi,Qj,Qk,Ql,Qm,Qn,Qo,Qp,Qq,Qr,Qs,Qt,Qu,Qv,Qw,Qx,Qy,Qz,QA,QB,QC,QD,QE,QF,QG,QH,QI,QJ,QK,QL,QM,QN,QO,QP,QQ,QR,QS,QT,QU,QV,QW,QX,QY,QZ,X0,X1,X2,X3,X4,X5,X6,X7,X8,X9,Xa,Xb,Xc,Xd,Xe,Xf,Xg,Xh,Xi,Xj,Xk,Xl,Xm,Xn,Xo,Xp,Xq,Xr,Xs,Xt,Xu,Xv,Xw,Xx,Xy,Xz,XA,XB,reduceIte,reduceCtorEq,XC,XD,XE,XF,XG,XH,XI,XJ,XK,XL,XM,XN,XO,XP,XQ,XR,XS,XT,XU,XV,XW,XX,XY,XZ,Y0,Try.q3,Try.q4,Try.q22,Try.q23]
      exact ⟨hx, [], .inl ⟨.inl rfl, rfl⟩, by simp, hfin⟩
    · subst h1
      subst h2
      have d10 : decide ((i : Int) < 0) = false := decide_eq_false (by omega)
      simp -implicitDefEqProofs only [d10,Q0,Q1,Q2,Q3,Q4,Q5,Q6,Q7,Q8,Q9,Qa,Qb,Qc,Qd,Qe,Qf,Qg,Qh,Qi,Qj,Qk,Ql,Qm,Qn,Qo,Qp,Qq,Qr,Qs,Qt,Qu,Qv,Qw,Qx,Qy,Qz,QA,QB,QC,QD,QE,QF,QG,QH,QI,QJ,QK,QL,QM,QN,QO,QP,QQ,QR,QS,QT,QU,QV,QW,QX,QY,QZ,X0,X1,X2,X3,X4,X5,X6,X7,X8,X9,Xa,Xb,Xc,Xd,Xe,Xf,Xg,Xh,Xi,Xj,Xk,Xl,Xm,Xn,Xo,Xp,Xq,Xr,Xs,Xt,Xu,Xv,Xw,Xx,Xy,Xz,XA,XB,reduceIte,reduceCtorEq,XC,XD,XE,XF,XG,XH,XI,XJ,XK,XL,XM,XN,XO,XP,XQ,XR,XS,XT,XU,XV,XW,XX,XY,XZ,Y0,Try.q3,Try.q4,Try.q22,Try.q23]
      exact ⟨hx, [], .inl ⟨.inr rfl, rfl⟩, by simp, hfin⟩
    · subst h1
      simp -implicitDefEqProofs only [d1,Q0,Q1,Q2,Q3,Q4,Q5,Q6,Q7,Q8,Q9,Qa,Qb,Qc,Qd,Qe,Qf,Qg,Qh,Qi,Qj,Qk,Ql,Qm,Qn,Qo,Qp,Qq,Qr,Qs,Qt,Qu,Qv,Qw,Qx,Qy,Qz,QA,QB,QC,QD,QE,QF,QG,QH,QI,QJ,QK,QL,QM,QN,QO,QP,QQ,QR,QS,QT,QU,QV,QW,QX,QY,QZ,X0,X1,X2,X3,X4,X5,X6,X7,X8,X9,Xa,Xb,Xc,Xd,Xe,Xf,Xg,Xh,Xi,Xj,Xk,Xl,Xm,Xn,Xo,Xp,Xq,Xr,Xs,Xt,Xu,Xv,Xw,Xx,Xy,Xz,XA,XB,reduceIte,reduceCtorEq,XC,XD,XE,XF,XG,XH,XI,XJ,XK,XL,XM,XN,XO,XP,XQ,XR,XS,XT,XU,XV,XW,XX,XY,XZ,Y0,Try.q3,Try.q4,Try.q22,Try.q23]
      exact ⟨hx, out, .inr ⟨id, rfl, h2, h3⟩, hol2, hfin⟩

end Go.Proofs
