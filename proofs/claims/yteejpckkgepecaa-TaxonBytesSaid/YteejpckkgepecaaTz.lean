/-
  Taxonomies: a list of parents that is spoilt; the walk.
-/
import Derived.Test.YteejpckkgepecaaTy
namespace Go.Proofs
open Go.Pa
open Go.Pa renaming VB0 → Q0, VB1 → Q1, VB2 → Q2, VB3 → Q3, VB4 → Q4, VB5 → Q5, VB6 → Q6, VB7 → Q7, VB8 → Q8, VB9 → Q9, condV_bool → Qa, guardV_bool → Qb, vcS → Qc, evA → Qd, evBin → Qe, nilA → Qf, nilOf → Qg, intOp → Qh, strOp → Qi, evUn → Qj, evConv → Qk, evField → Ql, evFieldAddr → Qm, evIndexAddr → Qn, evIndex → Qo, evIndexA → Qp, bnd → Qq, evSlice → Qr, evLen → Qs, evPick → Qt, evExtract → Qu, evNilCheck → Qv, evMin → Qw, evMax → Qx, evLoadI → Qy, partsOne → QA, intsOf → QB, rowsAV → QC, evBuildSlice → QD, evBuild → QE, fillA → QF, splice → QG, evBuiltin → QH, guardD_bool → QI, dOp → QJ, cl → QK, vcLoad → QL, vcStore → QM, vcMake → QN, convA → QO, evIndexArr → QP, retA → QQ, ressA → QR, resA → QS, envOf → QT, condR_bool → QX, asgEnv → QY, parEnv → QZ, dstAt → XI, vcLook → XT, vcPut → XU, vcEnt → XV, vcESt → XW, vcMLen → XX, vcDel → XY, vcClear → XZ, vcLookD → Y0
open Go.Pa.AV renaming cell → Qz
open Go.Pa.Env renaming put → QU
open List renaming set_cons_zero → QV, set_cons_succ → QW, foldl_cons → X0, foldl_nil → X1, map_cons → X2, map_nil → X3, toList_toArray → X4, getElem?_cons_zero → X5, getElem?_cons_succ → X6, nil_append → Xa, append_nil → Xb, cons_append → Xc, singleton_append → Xd, length_cons → Xe, length_nil → Xf, all_cons → Xg, all_nil → Xh, take_succ_cons → Xi, take_zero → Xj, take_nil → Xk, drop_zero → Xl, drop_succ_cons → Xm, drop_nil → Xn, contains_nil → Xo, contains_cons → Xp
open Option renaming bind_some → X7, map_some → X8, map_none → X9
open Bool renaming or_false → Xq, false_or → Xr, or_true → Xs, true_or → Xt, false_eq_true → XC, not_true → XD, not_false → XE, and_true → XF, true_and → XG, and_self → XH
open Nat renaming reduceEqDiff → Xu, reduceAdd → Xv, reduceSub → Xw, reduceMul → Xx, reduceLT → Xy, reduceLeDiff → Xz, reduceBNe → XA, reduceBEq → XB, zero_add → XL, add_zero → XM
open UInt8 renaming reduceToNat → XJ
open Int renaming cast_ofNat_Int → XK, reduceToNat → XN, reduceLT → XO, reduceLE → XP, reduceNeg → XQ, reduceEq → XR, reduceNe → XS
set_option linter.unusedSimpArgs false
set_option linter.unusedVariables false
set_option maxRecDepth 20000
set_option maxHeartbeats 2000000

theorem append_bufI3 {P : Program} {σ s : Store} {t e : TypeId} {k : IntKind} {l l' : List Int} {r y : AV} {R : AV → Store → Prop} (hs : sliceElem P t = some (e, 1)) (hb : P.bytesOf e ≠ 0)
    (hx : Ext σ s) (h : BufI s σ.length r k l) (hc : contA s y = some (.I k l')) (hf : appFits P e (l.length + l'.length))
    (hR : ∀ r' s', Ext σ s' → BufI s' σ.length r' k (l ++ l') → (∀ (j : Nat) x, s[j]? = some x → (∀ a b, x ≠ .vecI a b) → s'[j]? = some x) → s.length ≤ s'.length → R r' s') : vcAppend P t r y s R := by
  have hlen := hx.len
  unfold vcAppend
  simp only [hs, hc]
  refine ⟨hb, ?_⟩
  rcases h with ⟨rfl | rfl, rfl⟩ | ⟨id, rfl, ho, hn⟩
  · refine ⟨trivial, fun h0 => hR _ _ hx (.inl ⟨.inl rfl, by simp [h0]⟩) (fun _ _ h _ => h) (Nat.le_refl _), fun h0 => ⟨by simpa using hf, hR _ _ (hx.push _) (.inr ⟨s.length, by simp, by simp, hlen⟩) (fun _ _ h _ => keepS0 h) (by simp)⟩⟩
  · refine ⟨trivial, fun h0 => hR _ _ hx (.inl ⟨.inr rfl, by simp [h0]⟩) (fun _ _ h _ => h) (Nat.le_refl _), fun h0 => ⟨by simpa using hf, hR _ _ (hx.push _) (.inr ⟨s.length, by simp, by simp, hlen⟩) (fun _ _ h _ => keepS0 h) (by simp)⟩⟩
  · simp only [ho]
    refine ⟨by simp, by simp, by simp, by simp, fun h0 => hR _ _ hx (.inr ⟨id, by simp [h0], by simp [h0, ho], hn⟩) (fun _ _ h _ => h) (Nat.le_refl _), fun h0 => ⟨hf, hR _ _ ((hx.set hn _).push _) (.inr ⟨s.length, by simp, ?_, hlen⟩) (fun j x hj hv => ?_) (by simp)⟩⟩
    · rw [List.getElem?_append_right (by simp)]
      simp
    · have hlt := (List.getElem?_eq_some_iff.1 hj).1
      rw [List.getElem?_append_left (by simp; exact hlt), List.getElem?_set_ne (fun e => by subst e; rw [ho] at hj; cases hj; exact hv _ _ rfl)]
      exact hj

theorem opj_own {P : Program} [GTab] {N : Nat} {d : Option Tmp} {t : TypeId} {n : Nat} {ps : Array (Nat × Operand)} {ty : TypeId} {pos : String} {af : Array Edge} {e : Env} {s : Store} {R : AV → Store → Prop}
    (h : vcOwn P s R t n (ps.toList.map fun p => (p.1, evO e p.2))) : OpJ P N ⟨d, .buildSlice t n ps, ty, pos, af, none⟩ e s R := by
  refine .of_run fun G a w he hw => ?_
  obtain ⟨c, w', v, σ', G', h1, h2, h3, h4, h5⟩ := own_sound h (qs := ps.map fun (i, x) => (i, a.eval x)) (by simpa using repP_evO he ps.toList) hw
  exact ⟨c, w', v, σ', G', .inl (by simp only [execOp, h1, Sem.run_bind, Result.andThen_ok, Sem.run_pure]), h2, h3, h4, h5⟩

theorem sget_ne {e : Env} {t u : Nat} {v : AV} (h : t ≠ u) : Env.get ((t, v) :: e) u = e.get u := by
  simp only [Env.get]; rw [if_neg h]
theorem sget_eq {e : Env} {t : Nat} {v : AV} : Env.get ((t, v) :: e) t = some v := by
  simp only [Env.get, if_true]
theorem slook {e : Env} {t : Nat} {v : AV} (h : e.get t = some v) : lookA e t = v := by
  rw [← lookA_get, h]

/-! ### A row gets a number in front, in any order -/

def valS (n : Nat) (O i : Nat) (b w : Int) (row : List Int) (j : Nat) : AV := match j with
  | 0 => .mvec O 0 n 1 | 1 => .int .i64 i | 2 => .int .i64 b | 3 => .mvec O 0 n 1 | 4 => .int .i64 n | 5 => .int .i64 w
  | 7 => .mvec O 0 n 1 | 8 => .int .i64 i | 9 => .eptr O i 1 0 | 10 => .ints .i64 row | 12 => .eptr O i 1 0 | _ => .nils

structure SInv (σ : Store) (n O i : Nat) (b w : Int) (row : List Int) (RS : List (List AV)) (RT : AV → List (List AV)) (L : Nat → Bool) (e : Env) (s : Store) : Prop where
  b9 : e.get 9 = some (.mvec O 0 n 1)
  b11 : e.get 11 = some (.int .i64 i)
  b3 : e.get 3 = some (.int .i64 b)
  val : ∀ j, L j = true → j ≤ 12 → j ≠ 6 → j ≠ 11 → e.get (64 + j) = some (valS n O i b w row j)
  own : L 6 = true → ∃ d, e.get 70 = some (.mvec d 0 1 1) ∧ (L 11 = false → s[d]? = some (.vecI .i64 [w]) ∧ σ.length ≤ d)
  app : L 11 = true → ∃ y, e.get 75 = some y ∧ BufI s σ.length y .i64 (w :: row)
  cell : L 13 = false → s[O]? = some (.vecR 1 RS)
  done : L 13 = true → ∃ y, e.get 75 = some y ∧ s[O]? = some (.vecR 1 (RT y))
  ext : Ext σ s
  dep : L 13 = true → L 11 = true
  dep6 : L 11 = true → L 6 = true
  dep10 : L 11 = true → L 10 = true

section
variable {σ : Store} {n O i : Nat} {b w : Int} {row : List Int} {RS : List (List AV)} {RT : AV → List (List AV)} {L L' : Nat → Bool} {e : Env} {s : Store}

theorem SInv.go {k : Nat} (hL : ∀ j, L' j = true ↔ j = k ∨ L j = true) {j : Nat} (hj : j ≠ k) : L' j = L j := by
  cases h : L j with
  | true => exact (hL j).2 (.inr h)
  | false =>
    cases h' : L' j with
    | false => rfl
    | true => rcases (hL j).1 h' with h1 | h1
              · exact absurd h1 hj
              · rw [h] at h1; cases h1

theorem SInv.tmp (h : SInv σ n O i b w row RS RT L e s) {k : Nat} (hL : ∀ j, L' j = true ↔ j = k ∨ L j = true) (hk : k ≤ 12) (h6 : k ≠ 6) (h11 : k ≠ 11) : SInv σ n O i b w row RS RT L' ((64 + k, valS n O i b w row k) :: e) s := by
  have g6 := SInv.go hL (j := 6) (by omega)
  have g11 := SInv.go hL (j := 11) (by omega)
  have g13 := SInv.go hL (j := 13) (by omega)
  refine ⟨by rw [sget_ne (by omega)]; exact h.b9, by rw [sget_ne (by omega)]; exact h.b11, by rw [sget_ne (by omega)]; exact h.b3, fun j hj hj12 hj6 hj11 => ?_, ?_, ?_, ?_, ?_, h.ext, ?_, ?_, ?_⟩
  · by_cases e1 : j = k
    · subst e1; exact sget_eq
    · rw [sget_ne (by omega)]
      rw [SInv.go hL e1] at hj
      exact h.val j hj hj12 hj6 hj11
  · rw [g6, g11, sget_ne (by omega)]; exact h.own
  · rw [g11, sget_ne (by omega)]; exact h.app
  · rw [g13]; exact h.cell
  · rw [g13, sget_ne (by omega)]; exact h.done
  · rw [g13, g11]; exact h.dep
  · rw [g11, g6]; exact h.dep6
  · rw [g11]
    intro q
    have := h.dep10 q
    exact (hL 10).2 (.inr this)

theorem SInv.new6 (h : SInv σ n O i b w row RS RT L e s) (hL : ∀ j, L' j = true ↔ j = 6 ∨ L j = true) (hun : L 6 = false) : SInv σ n O i b w row RS RT L' ((70, .mvec s.length 0 1 1) :: e) (s ++ [.vecI .i64 [w]]) := by
  have g11 := SInv.go hL (j := 11) (by omega)
  have g13 := SInv.go hL (j := 13) (by omega)
  have g10 := SInv.go hL (j := 10) (by omega)
  have n11 : L 11 = false := by
    cases q : L 11 with
    | false => rfl
    | true => have := h.dep6 q; rw [hun] at this; cases this
  have n13 : L 13 = false := by
    cases q : L 13 with
    | false => rfl
    | true => have := h.dep q; rw [n11] at this; cases this
  have hl := h.ext.len
  refine ⟨by rw [sget_ne (by omega)]; exact h.b9, by rw [sget_ne (by omega)]; exact h.b11, by rw [sget_ne (by omega)]; exact h.b3, fun j hj hj12 hj6 hj11 => ?_, fun _ => ⟨s.length, sget_eq, fun _ => ⟨by simp, hl⟩⟩, ?_, ?_, ?_, h.ext.push _, ?_, ?_, ?_⟩
  · rw [sget_ne (by omega)]
    rw [SInv.go hL hj6] at hj
    exact h.val j hj hj12 hj6 hj11
  · rw [g11, n11]; intro q; cases q
  · intro _
    have := h.cell n13
    rw [List.getElem?_append_left (List.getElem?_eq_some_iff.1 this).1]; exact this
  · rw [g13, n13]; intro q; cases q
  · rw [g13, n13]; intro q; cases q
  · rw [g11, n11]; intro q; cases q
  · rw [g11, n11]; intro q; cases q

theorem SInv.new11 (h : SInv σ n O i b w row RS RT L e s) (hL : ∀ j, L' j = true ↔ j = 11 ∨ L j = true) (hun : L 11 = false) (l6 : L 6 = true) (l10 : L 10 = true) {y : AV} {s' : Store} (hx : Ext σ s') (hb : BufI s' σ.length y .i64 (w :: row))
    (hk : ∀ (j : Nat) x, s[j]? = some x → (∀ a b, x ≠ .vecI a b) → s'[j]? = some x) : SInv σ n O i b w row RS RT L' ((75, y) :: e) s' := by
  have g6 := SInv.go hL (j := 6) (by omega)
  have g10 := SInv.go hL (j := 10) (by omega)
  have g13 := SInv.go hL (j := 13) (by omega)
  have l11 : L' 11 = true := (hL 11).2 (.inl rfl)
  have n13 : L 13 = false := by
    cases q : L 13 with
    | false => rfl
    | true => have := h.dep q; rw [hun] at this; cases this
  refine ⟨by rw [sget_ne (by omega)]; exact h.b9, by rw [sget_ne (by omega)]; exact h.b11, by rw [sget_ne (by omega)]; exact h.b3, fun j hj hj12 hj6 hj11 => ?_, ?_, fun _ => ⟨y, sget_eq, hb⟩, ?_, ?_, hx, ?_, ?_, ?_⟩
  · rw [sget_ne (by omega)]
    rw [SInv.go hL hj11] at hj
    exact h.val j hj hj12 hj6 hj11
  · intro _
    obtain ⟨d, h1, -⟩ := h.own l6
    exact ⟨d, by rw [sget_ne (by omega)]; exact h1, fun q => by rw [l11] at q; cases q⟩
  · intro _
    exact hk O _ (h.cell n13) (by intro a b; simp)
  · rw [g13, n13]; intro q; cases q
  · intro _; exact l11
  · intro _; rw [g6]; exact l6
  · intro _; rw [g10]; exact l10

theorem SInv.sto13 (h : SInv σ n O i b w row RS RT L e s) (hL : ∀ j, L' j = true ↔ j = 13 ∨ L j = true) (hun : L 13 = false) (l11 : L 11 = true) (hO : σ.length ≤ O) {y : AV} (hy : e.get 75 = some y) : SInv σ n O i b w row RS RT L' e (s.set O (.vecR 1 (RT y))) := by
  have g6 := SInv.go hL (j := 6) (by omega)
  have g10 := SInv.go hL (j := 10) (by omega)
  have g11 := SInv.go hL (j := 11) (by omega)
  have l13 : L' 13 = true := (hL 13).2 (.inl rfl)
  have hc := h.cell hun
  refine ⟨h.b9, h.b11, h.b3, fun j hj hj12 hj6 hj11 => ?_, ?_, ?_, ?_, fun _ => ⟨y, hy, List.getElem?_set_self (List.getElem?_eq_some_iff.1 hc).1⟩, h.ext.set hO _, ?_, ?_, ?_⟩
  · rw [SInv.go hL (by omega)] at hj
    exact h.val j hj hj12 hj6 hj11
  · intro _
    obtain ⟨d, h1, -⟩ := h.own (h.dep6 l11)
    exact ⟨d, h1, fun q => by rw [g11, l11] at q; cases q⟩
  · intro _
    obtain ⟨z, h1, h2⟩ := h.app l11
    refine ⟨z, h1, bufI_keepV h2 fun j k l hj => ?_⟩
    rw [List.getElem?_set_ne (fun e => by subst e; rw [hc] at hj; cases hj)]
    exact hj
  · intro q; rw [l13] at q; cases q
  · intro _; rw [g11]; exact l11
  · intro _; rw [g6]; exact h.dep6 l11
  · intro _; rw [g10]; exact h.dep10 l11
end

theorem r_Spoilt (p : List (List Int)) (hp : p.length ≤ 65) (hr : ∀ r ∈ p, r.length ≤ 1000) (a h b : Int) (ha : Okk .i64 a) (hh : Okk .i64 h) (hb : Okk .i64 b) (σ : Store) :
    ACalls Try.prog 27 [.rows 1 (p.map rowI), .int .i64 a, .int .i64 h, .int .i64 b] σ (fun r s => r = .rows 1 ((spoilI p a h b).map rowI) ∧ s = σ) := by
  refine ACalls.frozen (ACalls.mono (R := fun r s => Ext σ s ∧ Frz s σ.length r (.rows 1 ((spoilI p a h b).map rowI))) ?_ fun r s h => h)
  have hml : (p.map rowI).length = p.length := by simp
  refine acalls_of_awp (fn := Try.f27) Try.call27 Try.func27 rfl (by simp [Try.ntmps27]) ?_
  simp only [Try.ntmps27, Try.results27]
  refine awp_seq (awp_vc (by kernel_rfl) ?_)
  simp -implicitDefEqProofs only [seqA_normal,seqA_ret,seqA_exit,Q0,Q1,Q2,Q3,Q4,Q5,Q6,Q7,Q8,Q9,Qa,Qb,Qc,Qd,Qe,Qf,Qg,Qh,Qi,Qj,Qk,Ql,Qm,Qn,Qo,Qp,Qq,Qr,Qs,Qt,Qu,Qv,Qw,Qx,Qy,Qz,QA,QB,QC,QD,QE,QF,QG,QH,QI,QJ,QK,QL,QM,QN,QO,QP,QQ,QR,QS,QT,QU,QV,QW,QX,QY,QZ,X0,X1,X2,X3,X4,X5,X6,X7,X8,X9,Xa,Xb,Xc,Xd,Xe,Xf,Xg,Xh,Xi,Xj,Xk,Xl,Xm,Xn,Xo,Xp,Xq,Xr,Xs,Xt,Xu,Xv,Xw,Xx,Xy,Xz,XA,XB,reduceIte,reduceCtorEq,XC,XD,XE,XF,XG,XH,XI,XJ,XK,XL,XM,XN,XO,XP,XQ,XR,XS,XT,XU,XV,XW,XX,XY,XZ,Y0,Try.q3,Try.q4,Try.q22,Try.q23]
  refine awp_seq (awp_vc (by kernel_rfl) ?_)
  simp -implicitDefEqProofs only [seqA_normal,seqA_ret,seqA_exit,Q0,Q1,Q2,Q3,Q4,Q5,Q6,Q7,Q8,Q9,Qa,Qb,Qc,Qd,Qe,Qf,Qg,Qh,Qi,Qj,Qk,Ql,Qm,Qn,Qo,Qp,Qq,Qr,Qs,Qt,Qu,Qv,Qw,Qx,Qy,Qz,QA,QB,QC,QD,QE,QF,QG,QH,QI,QJ,QK,QL,QM,QN,QO,QP,QQ,QR,QS,QT,QU,QV,QW,QX,QY,QZ,X0,X1,X2,X3,X4,X5,X6,X7,X8,X9,Xa,Xb,Xc,Xd,Xe,Xf,Xg,Xh,Xi,Xj,Xk,Xl,Xm,Xn,Xo,Xp,Xq,Xr,Xs,Xt,Xu,Xv,Xw,Xx,Xy,Xz,XA,XB,reduceIte,reduceCtorEq,XC,XD,XE,XF,XG,XH,XI,XJ,XK,XL,XM,XN,XO,XP,XQ,XR,XS,XT,XU,XV,XW,XX,XY,XZ,Y0,Try.q3,Try.q4,Try.q22,Try.q23]
  refine awp_seq (awp_vc (by kernel_rfl) ?_)
  simp -implicitDefEqProofs only [seqA_normal,seqA_ret,seqA_exit,Q0,Q1,Q2,Q3,Q4,Q5,Q6,Q7,Q8,Q9,Qa,Qb,Qc,Qd,Qe,Qf,Qg,Qh,Qi,Qj,Qk,Ql,Qm,Qn,Qo,Qp,Qq,Qr,Qs,Qt,Qu,Qv,Qw,Qx,Qy,Qz,QA,QB,QC,QD,QE,QF,QG,QH,QI,QJ,QK,QL,QM,QN,QO,QP,QQ,QR,QS,QT,QU,QV,QW,QX,QY,QZ,X0,X1,X2,X3,X4,X5,X6,X7,X8,X9,Xa,Xb,Xc,Xd,Xe,Xf,Xg,Xh,Xi,Xj,Xk,Xl,Xm,Xn,Xo,Xp,Xq,Xr,Xs,Xt,Xu,Xv,Xw,Xx,Xy,Xz,XA,XB,reduceIte,reduceCtorEq,XC,XD,XE,XF,XG,XH,XI,XJ,XK,XL,XM,XN,XO,XP,XQ,XR,XS,XT,XU,XV,XW,XX,XY,XZ,Y0,Try.q3,Try.q4,Try.q22,Try.q23]
  refine awp_loopW (fun q : Nat × AV × List AV => [(10, .int .i64 q.1), (9, q.2.1), (0, .rows 1 (p.map rowI)), (1, .int .i64 a), (2, .int .i64 h), (3, .int .i64 b)])
    (fun q s => q.1 ≤ p.length ∧ Ext σ s ∧ BufR s σ.length q.2.1 1 (rowsX q.2.2) ∧ RowX s σ.length q.2.2 (p.take q.1)) (fun q => p.length - q.1) (0, .nils, []) (by simp [sub_cons, sub_nil, get_cons]) ⟨by simp, .refl _, .inl ⟨.inl rfl, rfl⟩, .nil _ _⟩ ?_
  rintro ⟨i, r, X⟩ s ⟨hi, hx, hbuf, hX⟩
  simp only at hi hbuf hX
  have hXl := hX.len
  rw [List.length_take, Nat.min_eq_left hi] at hXl
  by_cases hlt : i < p.length
  · have d1 : decide ((i : Int) < (p.length : Int)) = true := decide_eq_true (by omega)
    have wi : IntKind.i64.wrap ((i : Int) + 1) = ((i + 1 : Nat) : Int) := by rw [wrap_i64 (by omega) (by omega)]; rfl
    have hrow : (p.map rowI).getD (i : Int).toNat [] = [.ints .i64 p[i]] := by rw [Int.toNat_natCast]; exact rowI_get p hlt
    have bi : (0 : Int) ≤ (i : Int) ∧ (i : Int) < (p.length : Int) := by omega
    have hrl := hr _ (List.getElem_mem hlt)
    have ht := List.take_succ_eq_append_getElem hlt
    generalize p[i] = row at *
    refine awp_vc (by kernel_rfl) ?_
    simp -implicitDefEqProofs only [hml,d1,hrow,Q0,Q1,Q2,Q3,Q4,Q5,Q6,Q7,Q8,Q9,Qa,Qb,Qc,Qd,Qe,Qf,Qg,Qh,Qi,Qj,Qk,Ql,Qm,Qn,Qo,Qp,Qq,Qr,Qs,Qt,Qu,Qv,Qw,Qx,Qy,Qz,QA,QB,QC,QD,QE,QF,QG,QH,QI,QJ,QK,QL,QM,QN,QO,QP,QQ,QR,QS,QT,QU,QV,QW,QX,QY,QZ,X0,X1,X2,X3,X4,X5,X6,X7,X8,X9,Xa,Xb,Xc,Xd,Xe,Xf,Xg,Xh,Xi,Xj,Xk,Xl,Xm,Xn,Xo,Xp,Xq,Xr,Xs,Xt,Xu,Xv,Xw,Xx,Xy,Xz,XA,XB,reduceIte,reduceCtorEq,XC,XD,XE,XF,XG,XH,XI,XJ,XK,XL,XM,XN,XO,XP,XQ,XR,XS,XT,XU,XV,XW,XX,XY,XZ,Y0,Try.q3,Try.q4,Try.q22,Try.q23]
    refine ⟨bi, ?_⟩
    refine append_buf (σ := s) (l := []) (l' := row) Try.sl22 (by simp [Try.bt3]) (.refl _) (.inl ⟨.inr rfl, rfl⟩) (.inl rfl) (by simp [appFits, Try.bt3]; omega) fun r0 s0 hx0 hb0 => ?_
    rw [List.nil_append] at hb0
    have hcx := hb0.cells
    have hrv : rowsAV 1 [[r0]] = .rows 1 [[r0]] := by rcases hb0 with ⟨h | h, -⟩ | ⟨_, h, -, -⟩ <;> (subst h; rfl)
    simp -implicitDefEqProofs only [hcx,hrv,Q0,Q1,Q2,Q3,Q4,Q5,Q6,Q7,Q8,Q9,Qa,Qb,Qc,Qd,Qe,Qf,Qg,Qh,Qi,Qj,Qk,Ql,Qm,Qn,Qo,Qp,Qq,Qr,Qs,Qt,Qu,Qv,Qw,Qx,Qy,Qz,QA,QB,QD,QE,QF,QG,QH,QI,QJ,QK,QL,QM,QN,QO,QP,QQ,QR,QS,QT,QU,QV,QW,QX,QY,QZ,X0,X1,X2,X3,X4,X5,X6,X7,X8,X9,Xa,Xb,Xc,Xd,Xe,Xf,Xg,Xh,Xi,Xj,Xk,Xl,Xm,Xn,Xo,Xp,Xq,Xr,Xs,Xt,Xu,Xv,Xw,Xx,Xy,Xz,XA,XB,reduceIte,reduceCtorEq,XC,XD,XE,XF,XG,XH,XI,XJ,XK,XL,XM,XN,XO,XP,XQ,XR,XS,XT,XU,XV,XW,XX,XY,XZ,Y0,Try.q3,Try.q4,Try.q22,Try.q23]
    refine append_bufR2 (σ := σ) Try.sl23 (by simp [Try.bt22]) (hx.trans hx0) (hbuf.grow hx0) rfl (by simp) (by simp only [appFits, Try.bt22, List.length_cons, List.length_nil, rowsX_len]; omega) fun r3 s3 hx3 hb3 hk3 => ?_
    have hX3 : RowX s3 σ.length (X ++ [r0]) (p.take (i + 1)) := by
      rw [ht]
      exact (hX.snoc hx.len (fun j k l h => hx0 j _ h) hb0).keep fun j k l h => hk3 j _ h (by intro a b; simp)
    simp -implicitDefEqProofs only [wi,Q0,Q1,Q2,Q3,Q4,Q5,Q6,Q7,Q8,Q9,Qa,Qb,Qc,Qd,Qe,Qf,Qg,Qh,Qi,Qj,Qk,Ql,Qm,Qn,Qo,Qp,Qq,Qr,Qs,Qt,Qu,Qv,Qw,Qx,Qy,Qz,QA,QB,QC,QD,QE,QF,QG,QH,QI,QJ,QK,QL,QM,QN,QO,QP,QQ,QR,QS,QT,QU,QV,QW,QX,QY,QZ,X0,X1,X2,X3,X4,X5,X6,X7,X8,X9,Xa,Xb,Xc,Xd,Xe,Xf,Xg,Xh,Xi,Xj,Xk,Xl,Xm,Xn,Xo,Xp,Xq,Xr,Xs,Xt,Xu,Xv,Xw,Xx,Xy,Xz,XA,XB,reduceIte,reduceCtorEq,XC,XD,XE,XF,XG,XH,XI,XJ,XK,XL,XM,XN,XO,XP,XQ,XR,XS,XT,XU,XV,XW,XX,XY,XZ,Y0,Try.q3,Try.q4,Try.q22,Try.q23]
    exact ⟨(i + 1, r3, X ++ [r0]), by simp [sub_cons, sub_nil, get_cons], ⟨by simp only; omega, hx3, by simp only; rw [rowsX_snoc]; exact hb3, hX3⟩, by simp only; omega⟩
  have d1 : decide ((i : Int) < (p.length : Int)) = false := decide_eq_false (by omega)
  have hip : i = p.length := by omega
  subst hip
  rw [List.take_of_length_le (Nat.le_refl _)] at hX
  refine awp_vc (by kernel_rfl) ?_
  simp -implicitDefEqProofs only [hml,d1,seqA_normal,Q0,Q1,Q2,Q3,Q4,Q5,Q6,Q7,Q8,Q9,Qa,Qb,Qc,Qd,Qe,Qf,Qg,Qh,Qi,Qj,Qk,Ql,Qm,Qn,Qo,Qp,Qq,Qr,Qs,Qt,Qu,Qv,Qw,Qx,Qy,Qz,QA,QB,QC,QD,QE,QF,QG,QH,QI,QJ,QK,QL,QM,QN,QO,QP,QQ,QR,QS,QT,QU,QV,QW,QX,QY,QZ,X0,X1,X2,X3,X4,X5,X6,X7,X8,X9,Xa,Xb,Xc,Xd,Xe,Xf,Xg,Xh,Xi,Xj,Xk,Xl,Xm,Xn,Xo,Xp,Xq,Xr,Xs,Xt,Xu,Xv,Xw,Xx,Xy,Xz,XA,XB,reduceIte,reduceCtorEq,XC,XD,XE,XF,XG,XH,XI,XJ,XK,XL,XM,XN,XO,XP,XQ,XR,XS,XT,XU,XV,XW,XX,XY,XZ,Y0,Try.q3,Try.q4,Try.q22,Try.q23]
  by_cases hp0 : p = []
  · have hX0 : X = [] := List.eq_nil_of_length_eq_zero (by rw [hXl, hp0]; rfl)
    have hsp : spoilI p a h b = [[b]] := by unfold spoilI; rw [if_pos hp0]
    rw [hsp]
    refine awp_vc (by kernel_rfl) ?_
    rcases hbuf with ⟨h1 | h1, -⟩ | ⟨id, h1, h2, h3⟩
    · subst h1
      simp -implicitDefEqProofs only [Q0,Q1,Q2,Q3,Q4,Q5,Q6,Q7,Q8,Q9,Qa,Qb,Qc,Qd,Qe,Qf,Qg,Qh,Qi,Qj,Qk,Ql,Qm,Qn,Qo,Qp,Qq,Qr,Qs,Qt,Qu,Qv,Qw,Qx,Qy,Qz,QA,QB,QC,QD,QE,QF,QG,QH,QI,QJ,QK,QL,QM,QN,QO,QP,QQ,QR,QS,QT,QU,QV,QW,QX,QY,QZ,X0,X1,X2,X3,X4,X5,X6,X7,X8,X9,Xa,Xb,Xc,Xd,Xe,Xf,Xg,Xh,Xi,Xj,Xk,Xl,Xm,Xn,Xo,Xp,Xq,Xr,Xs,Xt,Xu,Xv,Xw,Xx,Xy,Xz,XA,XB,reduceIte,reduceCtorEq,XC,XD,XE,XF,XG,XH,XI,XJ,XK,XL,XM,XN,XO,XP,XQ,XR,XS,XT,XU,XV,XW,XX,XY,XZ,Y0,Try.q3,Try.q4,Try.q22,Try.q23]
      exact ⟨hx, .same _ rfl⟩
    · subst h1
      simp -implicitDefEqProofs only [Q0,Q1,Q2,Q3,Q4,Q5,Q6,Q7,Q8,Q9,Qa,Qb,Qc,Qd,Qe,Qf,Qg,Qh,Qi,Qj,Qk,Ql,Qm,Qn,Qo,Qp,Qq,Qr,Qs,Qt,Qu,Qv,Qw,Qx,Qy,Qz,QA,QB,QC,QD,QE,QF,QG,QH,QI,QJ,QK,QL,QM,QN,QO,QP,QQ,QR,QS,QT,QU,QV,QW,QX,QY,QZ,X0,X1,X2,X3,X4,X5,X6,X7,X8,X9,Xa,Xb,Xc,Xd,Xe,Xf,Xg,Xh,Xi,Xj,Xk,Xl,Xm,Xn,Xo,Xp,Xq,Xr,Xs,Xt,Xu,Xv,Xw,Xx,Xy,Xz,XA,XB,reduceIte,reduceCtorEq,XC,XD,XE,XF,XG,XH,XI,XJ,XK,XL,XM,XN,XO,XP,XQ,XR,XS,XT,XU,XV,XW,XX,XY,XZ,Y0,Try.q3,Try.q4,Try.q22,Try.q23]
      exact ⟨hx, .same _ rfl⟩
    · subst h1
      rw [hX0] at h2 ⊢
      simp -implicitDefEqProofs only [h2,rowsX_len,Q0,Q1,Q2,Q3,Q4,Q5,Q6,Q7,Q8,Q9,Qa,Qb,Qc,Qd,Qe,Qf,Qg,Qh,Qi,Qj,Qk,Ql,Qm,Qn,Qo,Qp,Qq,Qr,Qs,Qt,Qu,Qv,Qw,Qx,Qy,Qz,QA,QB,QC,QD,QE,QF,QG,QH,QI,QJ,QK,QL,QM,QN,QO,QP,QQ,QR,QS,QT,QU,QV,QW,QX,QY,QZ,X0,X1,X2,X3,X4,X5,X6,X7,X8,X9,Xa,Xb,Xc,Xd,Xe,Xf,Xg,Xh,Xi,Xj,Xk,Xl,Xm,Xn,Xo,Xp,Xq,Xr,Xs,Xt,Xu,Xv,Xw,Xx,Xy,Xz,XA,XB,reduceIte,reduceCtorEq,XC,XD,XE,XF,XG,XH,XI,XJ,XK,XL,XM,XN,XO,XP,XQ,XR,XS,XT,XU,XV,XW,XX,XY,XZ,Y0,Try.q3,Try.q4,Try.q22,Try.q23]
      exact ⟨hx, .same _ rfl⟩
  have hpl : 0 < p.length := by cases p with
    | nil => exact absurd rfl hp0
    | cons _ _ => simp
  have hsp : spoilI p a h b = spoilC p (aroundI a p.length).toNat (aroundI h 5) b := by unfold spoilI; rw [if_neg hp0]
  rw [hsp]
  have kA := fun σ => around a (p.length : Int) σ (by omega)
  have kH := fun σ => around h 5 σ (by decide)
  have bA := aroundI_bound ha (m := (p.length : Int)) (by omega)
  have bH := aroundI_bound hh (m := 5) (by decide)
  generalize aroundI a (p.length : Int) = A at *
  generalize aroundI h 5 = c at *
  obtain ⟨i, rfl⟩ : ∃ i : Nat, A = i := ⟨A.toNat, by omega⟩
  rw [Int.toNat_natCast]
  obtain ⟨Q, O, s', rfl, hO, hS, hx', hO', hm'⟩ := shut_rows hx hbuf hX hp0 (if c = 0 then some i else none)
  have hsO : s[O]? = some (.vecR 1 (rowsX X)) := by
    rcases hbuf with ⟨h1 | h1, -⟩ | ⟨id, h1, h2, h3⟩
    · cases h1
    · cases h1
    · injection h1 with q1 q2
      rw [q1]; exact h2
  have e0 : decide ((p.length : Int) = 0) = false := decide_eq_false (by omega)
  refine awp_seq (awp_vc (by kernel_rfl) ?_)
  simp -implicitDefEqProofs only [seqA_normal,seqA_ret,seqA_exit,e0,Q0,Q1,Q2,Q3,Q4,Q5,Q6,Q7,Q8,Q9,Qa,Qb,Qc,Qd,Qe,Qf,Qg,Qh,Qi,Qj,Qk,Ql,Qm,Qn,Qo,Qp,Qq,Qr,Qs,Qt,Qu,Qv,Qw,Qx,Qy,Qz,QA,QB,QC,QD,QE,QF,QG,QH,QI,QJ,QK,QL,QM,QN,QO,QP,QQ,QR,QS,QT,QU,QV,QW,QX,QY,QZ,X0,X1,X2,X3,X4,X5,X6,X7,X8,X9,Xa,Xb,Xc,Xd,Xe,Xf,Xg,Xh,Xi,Xj,Xk,Xl,Xm,Xn,Xo,Xp,Xq,Xr,Xs,Xt,Xu,Xv,Xw,Xx,Xy,Xz,XA,XB,reduceIte,reduceCtorEq,XC,XD,XE,XF,XG,XH,XI,XJ,XK,XL,XM,XN,XO,XP,XQ,XR,XS,XT,XU,XV,XW,XX,XY,XZ,Y0,Try.q3,Try.q4,Try.q22,Try.q23]
  refine awp_seq (awp_vc (by kernel_rfl) ?_)
  simp -implicitDefEqProofs only [Q0,Q1,Q2,Q3,Q4,Q5,Q6,Q7,Q8,Q9,Qa,Qb,Qc,Qd,Qe,Qf,Qg,Qh,Qi,Qj,Qk,Ql,Qm,Qn,Qo,Qp,Qq,Qr,Qs,Qt,Qu,Qv,Qw,Qx,Qy,Qz,QA,QB,QC,QD,QE,QF,QG,QH,QI,QJ,QK,QL,QM,QN,QO,QP,QQ,QR,QS,QT,QU,QV,QW,QX,QY,QZ,X0,X1,X2,X3,X4,X5,X6,X7,X8,X9,Xa,Xb,Xc,Xd,Xe,Xf,Xg,Xh,Xi,Xj,Xk,Xl,Xm,Xn,Xo,Xp,Xq,Xr,Xs,Xt,Xu,Xv,Xw,Xx,Xy,Xz,XA,XB,reduceIte,reduceCtorEq,XC,XD,XE,XF,XG,XH,XI,XJ,XK,XL,XM,XN,XO,XP,XQ,XR,XS,XT,XU,XV,XW,XX,XY,XZ,Y0,Try.q3,Try.q4,Try.q22,Try.q23]
  refine acalls_then (kA _) ?_
  simp -implicitDefEqProofs only [seqA_normal,Q0,Q1,Q2,Q3,Q4,Q5,Q6,Q7,Q8,Q9,Qa,Qb,Qc,Qd,Qe,Qf,Qg,Qh,Qi,Qj,Qk,Ql,Qm,Qn,Qo,Qp,Qq,Qr,Qs,Qt,Qu,Qv,Qw,Qx,Qy,Qz,QA,QB,QC,QD,QE,QF,QG,QH,QI,QJ,QK,QL,QM,QN,QO,QP,QQ,QR,QS,QT,QU,QV,QW,QX,QY,QZ,X0,X1,X2,X3,X4,X5,X6,X7,X8,X9,Xa,Xb,Xc,Xd,Xe,Xf,Xg,Xh,Xi,Xj,Xk,Xl,Xm,Xn,Xo,Xp,Xq,Xr,Xs,Xt,Xu,Xv,Xw,Xx,Xy,Xz,XA,XB,reduceIte,reduceCtorEq,XC,XD,XE,XF,XG,XH,XI,XJ,XK,XL,XM,XN,XO,XP,XQ,XR,XS,XT,XU,XV,XW,XX,XY,XZ,Y0,Try.q3,Try.q4,Try.q22,Try.q23]
  refine awp_seq ?_
  refine awp_seq (awp_vc (by kernel_rfl) ?_)
  simp -implicitDefEqProofs only [Q0,Q1,Q2,Q3,Q4,Q5,Q6,Q7,Q8,Q9,Qa,Qb,Qc,Qd,Qe,Qf,Qg,Qh,Qi,Qj,Qk,Ql,Qm,Qn,Qo,Qp,Qq,Qr,Qs,Qt,Qu,Qv,Qw,Qx,Qy,Qz,QA,QB,QC,QD,QE,QF,QG,QH,QI,QJ,QK,QL,QM,QN,QO,QP,QQ,QR,QS,QT,QU,QV,QW,QX,QY,QZ,X0,X1,X2,X3,X4,X5,X6,X7,X8,X9,Xa,Xb,Xc,Xd,Xe,Xf,Xg,Xh,Xi,Xj,Xk,Xl,Xm,Xn,Xo,Xp,Xq,Xr,Xs,Xt,Xu,Xv,Xw,Xx,Xy,Xz,XA,XB,reduceIte,reduceCtorEq,XC,XD,XE,XF,XG,XH,XI,XJ,XK,XL,XM,XN,XO,XP,XQ,XR,XS,XT,XU,XV,XW,XX,XY,XZ,Y0,Try.q3,Try.q4,Try.q22,Try.q23]
  refine acalls_then (kH _) ?_
  simp -implicitDefEqProofs only [seqA_normal,Q0,Q1,Q2,Q3,Q4,Q5,Q6,Q7,Q8,Q9,Qa,Qb,Qc,Qd,Qe,Qf,Qg,Qh,Qi,Qj,Qk,Ql,Qm,Qn,Qo,Qp,Qq,Qr,Qs,Qt,Qu,Qv,Qw,Qx,Qy,Qz,QA,QB,QC,QD,QE,QF,QG,QH,QI,QJ,QK,QL,QM,QN,QO,QP,QQ,QR,QS,QT,QU,QV,QW,QX,QY,QZ,X0,X1,X2,X3,X4,X5,X6,X7,X8,X9,Xa,Xb,Xc,Xd,Xe,Xf,Xg,Xh,Xi,Xj,Xk,Xl,Xm,Xn,Xo,Xp,Xq,Xr,Xs,Xt,Xu,Xv,Xw,Xx,Xy,Xz,XA,XB,reduceIte,reduceCtorEq,XC,XD,XE,XF,XG,XH,XI,XJ,XK,XL,XM,XN,XO,XP,XQ,XR,XS,XT,XU,XV,XW,XX,XY,XZ,Y0,Try.q3,Try.q4,Try.q22,Try.q23]
  refine awp_shut Q [(9, .mvec O 0 p.length 1), (11, .int .i64 i), (3, .int .i64 b), (38, .int .i64 c)] s' hS ⟨⟨_, rfl, .same _⟩, ⟨_, rfl, .same _⟩, ⟨_, rfl, .same _⟩, ⟨_, rfl, .same _⟩, trivial⟩ ?_
  clear hS hsO hbuf hX hXl
  obtain ⟨x, hgx⟩ : ∃ x, X.getD i .nils = x := ⟨_, rfl⟩
  refine awp_blk ?_
  refine awp_seq (awp_vc (by kernel_rfl) ?_)
  simp -implicitDefEqProofs only [seqA_normal,seqA_ret,seqA_exit,Q0,Q1,Q2,Q3,Q4,Q5,Q6,Q7,Q8,Q9,Qa,Qb,Qc,Qd,Qe,Qf,Qg,Qh,Qi,Qj,Qk,Ql,Qm,Qn,Qo,Qp,Qq,Qr,Qs,Qt,Qu,Qv,Qw,Qx,Qy,Qz,QA,QB,QC,QD,QE,QF,QG,QH,QI,QJ,QK,QL,QM,QN,QO,QP,QQ,QR,QS,QT,QU,QV,QW,QX,QY,QZ,X0,X1,X2,X3,X4,X5,X6,X7,X8,X9,Xa,Xb,Xc,Xd,Xe,Xf,Xg,Xh,Xi,Xj,Xk,Xl,Xm,Xn,Xo,Xp,Xq,Xr,Xs,Xt,Xu,Xv,Xw,Xx,Xy,Xz,XA,XB,reduceIte,reduceCtorEq,XC,XD,XE,XF,XG,XH,XI,XJ,XK,XL,XM,XN,XO,XP,XQ,XR,XS,XT,XU,XV,XW,XX,XY,XZ,Y0,Try.q3,Try.q4,Try.q22,Try.q23]
  have hpi : p[i]? = some p[i] := List.getElem?_eq_getElem (by omega)
  have hgd : p.getD i [] = p[i] := getD_get (by omega)
  have bi : (0 : Int) ≤ (i : Int) ∧ (i : Int) < (p.length : Int) := bA
  have hfin : ∀ (s2 : Store) (y : AV) (r : List Int), Ext σ s2 → s2[O]? = some (.vecR 1 (rowsX ((p.map (AV.ints .i64)).set i y))) → Frz s2 σ.length y (.ints .i64 r) → Ext σ s2 ∧ Frz s2 σ.length (.mvec O 0 p.length 1) (.rows 1 ((p.set i r).map rowI)) := by
    intro s2 y r h1 h2 h3
    refine ⟨h1, ?_⟩
    have := (FrzX.set (p := p) i h3).fin h2 hO
    rwa [List.length_set] at this
  by_cases c0 : c = 0
  · have dc : decide (c = 0) = true := decide_eq_true c0
    obtain ⟨hbx, hxO⟩ := hm' i _ (by rw [if_pos c0]) hpi
    rw [hgx] at hbx hxO
    rw [if_pos c0, shX_some X p (by omega), hgx] at hO'
    have hsc : spoilC p i c b = p.set i (p[i] ++ [b]) := by unfold spoilC; rw [if_pos c0, hgd]
    rw [hsc]
    have hRl : (rowsX ((p.map (AV.ints .i64)).set i x)).length = p.length := by rw [rowsX_len]; simp
    have hRg : (rowsX ((p.map (AV.ints .i64)).set i x)).getD (i : Int).toNat [] = [x] := by
      rw [Int.toNat_natCast, rowsX_get _ (by simp; omega)]; simp
    have hRs : ∀ y, (rowsX ((p.map (AV.ints .i64)).set i x)).set (i : Int).toNat [y] = rowsX ((p.map (AV.ints .i64)).set i y) := by
      intro y
      rw [Int.toNat_natCast, rowsX_set]; simp
    generalize rowsX ((p.map (AV.ints .i64)).set i x) = RS at *
    simp only [dc]
    refine awp_condT rfl ?_
    refine awp_vc (by kernel_rfl) ?_
    simp -implicitDefEqProofs only [hO',hRl,hRg,Q0,Q1,Q2,Q3,Q4,Q5,Q6,Q7,Q8,Q9,Qa,Qb,Qc,Qd,Qe,Qf,Qg,Qh,Qi,Qj,Qk,Ql,Qm,Qn,Qo,Qp,Qq,Qr,Qs,Qt,Qu,Qv,Qw,Qx,Qy,Qz,QA,QB,QC,QD,QE,QF,QG,QH,QI,QJ,QK,QL,QM,QN,QO,QP,QQ,QR,QS,QT,QU,QV,QW,QX,QY,QZ,X0,X1,X2,X3,X4,X5,X6,X7,X8,X9,Xa,Xb,Xc,Xd,Xe,Xf,Xg,Xh,Xi,Xj,Xk,Xl,Xm,Xn,Xo,Xp,Xq,Xr,Xs,Xt,Xu,Xv,Xw,Xx,Xy,Xz,XA,XB,reduceIte,reduceCtorEq,XC,XD,XE,XF,XG,XH,XI,XJ,XK,XL,XM,XN,XO,XP,XQ,XR,XS,XT,XU,XV,XW,XX,XY,XZ,Y0,Try.q3,Try.q4,Try.q22,Try.q23]
    refine ⟨bi, by omega, ?_⟩
    refine append_bufI3 (σ := σ) Try.sl22 (by simp [Try.bt3]) hx' hbx rfl (by simp only [appFits, Try.bt3, List.length_cons, List.length_nil]; have := hr _ (List.getElem_mem (show i < p.length by omega)); omega) fun r2 s2 hx2 hb2 hk2 hl2 => ?_
    have gO : s2[O]? = some (.vecR 1 RS) := hk2 O _ hO' (by intro a b; simp)
    have hOl : O < s2.length := (List.getElem?_eq_some_iff.1 gO).1
    have hcx := hb2.cells
    have dr : ([x] : List AV).drop 1 = [] := rfl
    simp -implicitDefEqProofs only [gO,hRl,hRg,dr,hcx,hRs,blkK_normal,seqA_normal,Q0,Q1,Q2,Q3,Q4,Q5,Q6,Q7,Q8,Q9,Qa,Qb,Qc,Qd,Qe,Qf,Qg,Qh,Qi,Qj,Qk,Ql,Qm,Qn,Qo,Qp,Qq,Qr,Qs,Qt,Qu,Qv,Qw,Qx,Qy,Qz,QA,QB,QC,QD,QE,QF,QG,QH,QI,QJ,QK,QL,QM,QN,QO,QP,QQ,QR,QS,QT,QU,QV,QW,QX,QY,QZ,X0,X1,X2,X3,X4,X5,X6,X7,X8,X9,Xa,Xb,Xc,Xd,Xe,Xf,Xg,Xh,Xi,Xj,Xk,Xl,Xm,Xn,Xo,Xp,Xq,Xr,Xs,Xt,Xu,Xv,Xw,Xx,Xy,Xz,XA,XB,reduceIte,reduceCtorEq,XC,XD,XE,XF,XG,XH,XI,XJ,XK,XL,XM,XN,XO,XP,XQ,XR,XS,XT,XU,XV,XW,XX,XY,XZ,Y0,Try.q3,Try.q4,Try.q22,Try.q23]
    refine ⟨bi, by omega, ?_⟩
    refine awp_vc (by kernel_rfl) ?_
    simp -implicitDefEqProofs only [Q0,Q1,Q2,Q3,Q4,Q5,Q6,Q7,Q8,Q9,Qa,Qb,Qc,Qd,Qe,Qf,Qg,Qh,Qi,Qj,Qk,Ql,Qm,Qn,Qo,Qp,Qq,Qr,Qs,Qt,Qu,Qv,Qw,Qx,Qy,Qz,QA,QB,QC,QD,QE,QF,QG,QH,QI,QJ,QK,QL,QM,QN,QO,QP,QQ,QR,QS,QT,QU,QV,QW,QX,QY,QZ,X0,X1,X2,X3,X4,X5,X6,X7,X8,X9,Xa,Xb,Xc,Xd,Xe,Xf,Xg,Xh,Xi,Xj,Xk,Xl,Xm,Xn,Xo,Xp,Xq,Xr,Xs,Xt,Xu,Xv,Xw,Xx,Xy,Xz,XA,XB,reduceIte,reduceCtorEq,XC,XD,XE,XF,XG,XH,XI,XJ,XK,XL,XM,XN,XO,XP,XQ,XR,XS,XT,XU,XV,XW,XX,XY,XZ,Y0,Try.q3,Try.q4,Try.q22,Try.q23]
    refine hfin _ r2 _ (hx2.set hO _) (List.getElem?_set_self hOl) (bufI_keepV hb2 fun j k l hj => ?_).frz
    rw [List.getElem?_set_ne (fun e => by subst e; rw [gO] at hj; cases hj)]
    exact hj
  have hO'' : s'[O]? = some (.vecR 1 (p.map rowI)) := by rw [hO', if_neg c0, shX_none, rowsX_ints]
  have hRg : (p.map rowI).getD (i : Int).toNat [] = [.ints .i64 p[i]] := by rw [Int.toNat_natCast]; exact rowI_get p (by omega)
  have hRs : ∀ y, (p.map rowI).set (i : Int).toNat [y] = rowsX ((p.map (AV.ints .i64)).set i y) := by
    intro y
    rw [Int.toNat_natCast, ← rowsX_set, rowsX_ints]
  clear hO' hm'
  have dc : decide (c = 0) = false := decide_eq_false c0
  simp only [dc]
  refine awp_condF rfl ?_
  refine awp_seq (awp_vc (by kernel_rfl) ?_)
  simp -implicitDefEqProofs only [seqA_normal,seqA_ret,seqA_exit,Q0,Q1,Q2,Q3,Q4,Q5,Q6,Q7,Q8,Q9,Qa,Qb,Qc,Qd,Qe,Qf,Qg,Qh,Qi,Qj,Qk,Ql,Qm,Qn,Qo,Qp,Qq,Qr,Qs,Qt,Qu,Qv,Qw,Qx,Qy,Qz,QA,QB,QC,QD,QE,QF,QG,QH,QI,QJ,QK,QL,QM,QN,QO,QP,QQ,QR,QS,QT,QU,QV,QW,QX,QY,QZ,X0,X1,X2,X3,X4,X5,X6,X7,X8,X9,Xa,Xb,Xc,Xd,Xe,Xf,Xg,Xh,Xi,Xj,Xk,Xl,Xm,Xn,Xo,Xp,Xq,Xr,Xs,Xt,Xu,Xv,Xw,Xx,Xy,Xz,XA,XB,reduceIte,reduceCtorEq,XC,XD,XE,XF,XG,XH,XI,XJ,XK,XL,XM,XN,XO,XP,XQ,XR,XS,XT,XU,XV,XW,XX,XY,XZ,Y0,Try.q3,Try.q4,Try.q22,Try.q23]
  by_cases c1 : c = 1
  · have dc1 : decide (c = 1) = true := decide_eq_true c1
    simp only [dc1]
    refine awp_condT rfl ?_
    have hsc : spoilC p i c b = p.set i [aroundI b ((p.length : Int) + 1)] := by unfold spoilC; rw [if_neg c0, if_pos c1]
    rw [hsc]
    have kB := fun σ => around b ((p.length : Int) + 1) σ (by omega)
    generalize aroundI b ((p.length : Int) + 1) = w at *
    have wl : IntKind.i64.wrap ((p.length : Int) + 1) = (p.length : Int) + 1 := wrap_i64 (by omega) (by omega)
    refine awp_vc (by kernel_rfl) ?_
    simp -implicitDefEqProofs only [wl,Q0,Q1,Q2,Q3,Q4,Q5,Q6,Q7,Q8,Q9,Qa,Qb,Qc,Qd,Qe,Qf,Qg,Qh,Qi,Qj,Qk,Ql,Qm,Qn,Qo,Qp,Qq,Qr,Qs,Qt,Qu,Qv,Qw,Qx,Qy,Qz,QA,QB,QC,QD,QE,QF,QG,QH,QI,QJ,QK,QL,QM,QN,QO,QP,QQ,QR,QS,QT,QU,QV,QW,QX,QY,QZ,X0,X1,X2,X3,X4,X5,X6,X7,X8,X9,Xa,Xb,Xc,Xd,Xe,Xf,Xg,Xh,Xi,Xj,Xk,Xl,Xm,Xn,Xo,Xp,Xq,Xr,Xs,Xt,Xu,Xv,Xw,Xx,Xy,Xz,XA,XB,reduceIte,reduceCtorEq,XC,XD,XE,XF,XG,XH,XI,XJ,XK,XL,XM,XN,XO,XP,XQ,XR,XS,XT,XU,XV,XW,XX,XY,XZ,Y0,Try.q3,Try.q4,Try.q22,Try.q23]
    refine acalls_then (kB _) ?_
    simp -implicitDefEqProofs only [Q0,Q1,Q2,Q3,Q4,Q5,Q6,Q7,Q8,Q9,Qa,Qb,Qc,Qd,Qe,Qf,Qg,Qh,Qi,Qj,Qk,Ql,Qm,Qn,Qo,Qp,Qq,Qr,Qs,Qt,Qu,Qv,Qw,Qx,Qy,Qz,QA,QB,QC,QD,QE,QF,QG,QH,QI,QJ,QK,QL,QM,QN,QO,QP,QQ,QR,QS,QT,QU,QV,QW,QX,QY,QZ,X0,X1,X2,X3,X4,X5,X6,X7,X8,X9,Xa,Xb,Xc,Xd,Xe,Xf,Xg,Xh,Xi,Xj,Xk,Xl,Xm,Xn,Xo,Xp,Xq,Xr,Xs,Xt,Xu,Xv,Xw,Xx,Xy,Xz,XA,XB,reduceIte,reduceCtorEq,XC,XD,XE,XF,XG,XH,XI,XJ,XK,XL,XM,XN,XO,XP,XQ,XR,XS,XT,XU,XV,XW,XX,XY,XZ,Y0,Try.q3,Try.q4,Try.q22,Try.q23]
    have dr : ∀ x : AV, ([x] : List AV).drop 1 = [] := fun _ => rfl
    simp -implicitDefEqProofs only [hO'',hml,hRg,dr,hRs,blkK_normal,seqA_normal,Q0,Q1,Q2,Q3,Q4,Q5,Q6,Q7,Q8,Q9,Qa,Qb,Qc,Qd,Qe,Qf,Qg,Qh,Qi,Qj,Qk,Ql,Qm,Qn,Qo,Qp,Qq,Qr,Qs,Qt,Qu,Qv,Qw,Qx,Qy,Qz,QA,QB,QC,QD,QE,QF,QG,QH,QI,QJ,QK,QL,QM,QN,QO,QP,QQ,QR,QS,QT,QU,QV,QW,QX,QY,QZ,X0,X1,X2,X3,X4,X5,X6,X7,X8,X9,Xa,Xb,Xc,Xd,Xe,Xf,Xg,Xh,Xi,Xj,Xk,Xl,Xm,Xn,Xo,Xp,Xq,Xr,Xs,Xt,Xu,Xv,Xw,Xx,Xy,Xz,XA,XB,reduceIte,reduceCtorEq,XC,XD,XE,XF,XG,XH,XI,XJ,XK,XL,XM,XN,XO,XP,XQ,XR,XS,XT,XU,XV,XW,XX,XY,XZ,Y0,Try.q3,Try.q4,Try.q22,Try.q23]
    refine ⟨bi, by omega, ?_⟩
    refine awp_vc (by kernel_rfl) ?_
    simp -implicitDefEqProofs only [Q0,Q1,Q2,Q3,Q4,Q5,Q6,Q7,Q8,Q9,Qa,Qb,Qc,Qd,Qe,Qf,Qg,Qh,Qi,Qj,Qk,Ql,Qm,Qn,Qo,Qp,Qq,Qr,Qs,Qt,Qu,Qv,Qw,Qx,Qy,Qz,QA,QB,QC,QD,QE,QF,QG,QH,QI,QJ,QK,QL,QM,QN,QO,QP,QQ,QR,QS,QT,QU,QV,QW,QX,QY,QZ,X0,X1,X2,X3,X4,X5,X6,X7,X8,X9,Xa,Xb,Xc,Xd,Xe,Xf,Xg,Xh,Xi,Xj,Xk,Xl,Xm,Xn,Xo,Xp,Xq,Xr,Xs,Xt,Xu,Xv,Xw,Xx,Xy,Xz,XA,XB,reduceIte,reduceCtorEq,XC,XD,XE,XF,XG,XH,XI,XJ,XK,XL,XM,XN,XO,XP,XQ,XR,XS,XT,XU,XV,XW,XX,XY,XZ,Y0,Try.q3,Try.q4,Try.q22,Try.q23]
    exact hfin _ _ _ (hx'.set hO _) (List.getElem?_set_self (List.getElem?_eq_some_iff.1 hO'').1) (.same _ rfl)
  have dc1 : decide (c = 1) = false := decide_eq_false c1
  simp only [dc1]
  refine awp_condF rfl ?_
  refine awp_seq (awp_vc (by kernel_rfl) ?_)
  simp -implicitDefEqProofs only [seqA_normal,seqA_ret,seqA_exit,Q0,Q1,Q2,Q3,Q4,Q5,Q6,Q7,Q8,Q9,Qa,Qb,Qc,Qd,Qe,Qf,Qg,Qh,Qi,Qj,Qk,Ql,Qm,Qn,Qo,Qp,Qq,Qr,Qs,Qt,Qu,Qv,Qw,Qx,Qy,Qz,QA,QB,QC,QD,QE,QF,QG,QH,QI,QJ,QK,QL,QM,QN,QO,QP,QQ,QR,QS,QT,QU,QV,QW,QX,QY,QZ,X0,X1,X2,X3,X4,X5,X6,X7,X8,X9,Xa,Xb,Xc,Xd,Xe,Xf,Xg,Xh,Xi,Xj,Xk,Xl,Xm,Xn,Xo,Xp,Xq,Xr,Xs,Xt,Xu,Xv,Xw,Xx,Xy,Xz,XA,XB,reduceIte,reduceCtorEq,XC,XD,XE,XF,XG,XH,XI,XJ,XK,XL,XM,XN,XO,XP,XQ,XR,XS,XT,XU,XV,XW,XX,XY,XZ,Y0,Try.q3,Try.q4,Try.q22,Try.q23]
  by_cases c2 : c = 2
  · have dc2 : decide (c = 2) = true := decide_eq_true c2
    simp only [dc2]
    refine awp_condT rfl ?_
    have hsc : spoilC p i c b = p.set i (aroundI b p.length :: p[i]) := by unfold spoilC; rw [if_neg c0, if_neg c1, if_pos c2, hgd]
    rw [hsc]
    have kB := fun σ => around b (p.length : Int) σ (by omega)
    generalize aroundI b (p.length : Int) = w at *
    have hrl := hr _ (List.getElem_mem (show i < p.length by omega))
    generalize p[i] = row at *
    have hti : ((i : Int)).toNat = i := Int.toNat_natCast i
    have hRg' := hRg
    rw [hti] at hRg'
    have hRs' := hRs
    rw [hti] at hRs'
    have hil : i < p.length := by omega
    have dr : ∀ x : AV, ([x] : List AV).drop 1 = [] := fun _ => rfl
    refine awp_any (fun L e s => SInv σ p.length O i b w row (p.map rowI) (fun y => rowsX ((p.map (AV.ints .i64)).set i y)) L e s) Try.mixed (by kernel_rfl) ?_ ?_ ?_
    · exact ⟨rfl, rfl, rfl, fun j h => (by cases h), fun h => (by cases h), fun h => (by cases h), fun _ => hO'', fun h => (by cases h), hx', fun h => (by cases h), fun h => (by cases h), fun h => (by cases h)⟩
    · rintro L e s k o hio hedge hun hF
      have z9 := slook hF.b9
      have z11 := slook hF.b11
      have z3 := slook hF.b3
      match k, hio, hun with
      | 0, hio, hun =>
        cases hio
        refine vcOp_sound ?_
        simp -implicitDefEqProofs only [z9,Q0,Q1,Q2,Q3,Q4,Q5,Q6,Q7,Q8,Q9,Qa,Qb,Qc,Qd,Qe,Qf,Qg,Qh,Qi,Qj,Qk,Ql,Qm,Qn,Qo,Qp,Qq,Qr,Qs,Qt,Qu,Qv,Qw,Qx,Qy,Qz,QA,QB,QC,QD,QE,QF,QG,QH,QI,QJ,QK,QL,QM,QN,QO,QP,QQ,QR,QS,QT,QU,QV,QW,QX,QY,QZ,X0,X1,X2,X3,X4,X5,X6,X7,X8,X9,Xa,Xb,Xc,Xd,Xe,Xf,Xg,Xh,Xi,Xj,Xk,Xl,Xm,Xn,Xo,Xp,Xq,Xr,Xs,Xt,Xu,Xv,Xw,Xx,Xy,Xz,XA,XB,reduceIte,reduceCtorEq,XC,XD,XE,XF,XG,XH,XI,XJ,XK,XL,XM,XN,XO,XP,XQ,XR,XS,XT,XU,XV,XW,XX,XY,XZ,Y0,Try.q3,Try.q4,Try.q22,Try.q23]
        exact fun L' hL => hF.tmp (k := 0) hL (by decide) (by decide) (by decide)
      | 1, hio, hun =>
        cases hio
        refine vcOp_sound ?_
        simp -implicitDefEqProofs only [z11,Q0,Q1,Q2,Q3,Q4,Q5,Q6,Q7,Q8,Q9,Qa,Qb,Qc,Qd,Qe,Qf,Qg,Qh,Qi,Qj,Qk,Ql,Qm,Qn,Qo,Qp,Qq,Qr,Qs,Qt,Qu,Qv,Qw,Qx,Qy,Qz,QA,QB,QC,QD,QE,QF,QG,QH,QI,QJ,QK,QL,QM,QN,QO,QP,QQ,QR,QS,QT,QU,QV,QW,QX,QY,QZ,X0,X1,X2,X3,X4,X5,X6,X7,X8,X9,Xa,Xb,Xc,Xd,Xe,Xf,Xg,Xh,Xi,Xj,Xk,Xl,Xm,Xn,Xo,Xp,Xq,Xr,Xs,Xt,Xu,Xv,Xw,Xx,Xy,Xz,XA,XB,reduceIte,reduceCtorEq,XC,XD,XE,XF,XG,XH,XI,XJ,XK,XL,XM,XN,XO,XP,XQ,XR,XS,XT,XU,XV,XW,XX,XY,XZ,Y0,Try.q3,Try.q4,Try.q22,Try.q23]
        exact fun L' hL => hF.tmp (k := 1) hL (by decide) (by decide) (by decide)
      | 2, hio, hun =>
        cases hio
        refine vcOp_sound ?_
        simp -implicitDefEqProofs only [z3,Q0,Q1,Q2,Q3,Q4,Q5,Q6,Q7,Q8,Q9,Qa,Qb,Qc,Qd,Qe,Qf,Qg,Qh,Qi,Qj,Qk,Ql,Qm,Qn,Qo,Qp,Qq,Qr,Qs,Qt,Qu,Qv,Qw,Qx,Qy,Qz,QA,QB,QC,QD,QE,QF,QG,QH,QI,QJ,QK,QL,QM,QN,QO,QP,QQ,QR,QS,QT,QU,QV,QW,QX,QY,QZ,X0,X1,X2,X3,X4,X5,X6,X7,X8,X9,Xa,Xb,Xc,Xd,Xe,Xf,Xg,Xh,Xi,Xj,Xk,Xl,Xm,Xn,Xo,Xp,Xq,Xr,Xs,Xt,Xu,Xv,Xw,Xx,Xy,Xz,XA,XB,reduceIte,reduceCtorEq,XC,XD,XE,XF,XG,XH,XI,XJ,XK,XL,XM,XN,XO,XP,XQ,XR,XS,XT,XU,XV,XW,XX,XY,XZ,Y0,Try.q3,Try.q4,Try.q22,Try.q23]
        exact fun L' hL => hF.tmp (k := 2) hL (by decide) (by decide) (by decide)
      | 3, hio, hun =>
        cases hio
        refine vcOp_sound ?_
        simp -implicitDefEqProofs only [z9,Q0,Q1,Q2,Q3,Q4,Q5,Q6,Q7,Q8,Q9,Qa,Qb,Qc,Qd,Qe,Qf,Qg,Qh,Qi,Qj,Qk,Ql,Qm,Qn,Qo,Qp,Qq,Qr,Qs,Qt,Qu,Qv,Qw,Qx,Qy,Qz,QA,QB,QC,QD,QE,QF,QG,QH,QI,QJ,QK,QL,QM,QN,QO,QP,QQ,QR,QS,QT,QU,QV,QW,QX,QY,QZ,X0,X1,X2,X3,X4,X5,X6,X7,X8,X9,Xa,Xb,Xc,Xd,Xe,Xf,Xg,Xh,Xi,Xj,Xk,Xl,Xm,Xn,Xo,Xp,Xq,Xr,Xs,Xt,Xu,Xv,Xw,Xx,Xy,Xz,XA,XB,reduceIte,reduceCtorEq,XC,XD,XE,XF,XG,XH,XI,XJ,XK,XL,XM,XN,XO,XP,XQ,XR,XS,XT,XU,XV,XW,XX,XY,XZ,Y0,Try.q3,Try.q4,Try.q22,Try.q23]
        exact fun L' hL => hF.tmp (k := 3) hL (by decide) (by decide) (by decide)
      | 4, hio, hun =>
        cases hio
        have q3 := slook (hF.val 3 (hedge 3 (of_decide_eq_true (by kernel_rfl))) (by decide) (by decide) (by decide))
        dsimp only [valS] at q3
        refine vcOp_sound ?_
        simp -implicitDefEqProofs only [q3,Q0,Q1,Q2,Q3,Q4,Q5,Q6,Q7,Q8,Q9,Qa,Qb,Qc,Qd,Qe,Qf,Qg,Qh,Qi,Qj,Qk,Ql,Qm,Qn,Qo,Qp,Qq,Qr,Qs,Qt,Qu,Qv,Qw,Qx,Qy,Qz,QA,QB,QC,QD,QE,QF,QG,QH,QI,QJ,QK,QL,QM,QN,QO,QP,QQ,QR,QS,QT,QU,QV,QW,QX,QY,QZ,X0,X1,X2,X3,X4,X5,X6,X7,X8,X9,Xa,Xb,Xc,Xd,Xe,Xf,Xg,Xh,Xi,Xj,Xk,Xl,Xm,Xn,Xo,Xp,Xq,Xr,Xs,Xt,Xu,Xv,Xw,Xx,Xy,Xz,XA,XB,reduceIte,reduceCtorEq,XC,XD,XE,XF,XG,XH,XI,XJ,XK,XL,XM,XN,XO,XP,XQ,XR,XS,XT,XU,XV,XW,XX,XY,XZ,Y0,Try.q3,Try.q4,Try.q22,Try.q23]
        exact fun L' hL => hF.tmp (k := 4) hL (by decide) (by decide) (by decide)
      | 5, hio, hun =>
        cases hio
        have q2 := slook (hF.val 2 (hedge 2 (of_decide_eq_true (by kernel_rfl))) (by decide) (by decide) (by decide))
        have q4 := slook (hF.val 4 (hedge 4 (of_decide_eq_true (by kernel_rfl))) (by decide) (by decide) (by decide))
        dsimp only [valS] at q2 q4
        refine vcOp_sound ?_
        simp -implicitDefEqProofs only [q2,q4,Q0,Q1,Q2,Q3,Q4,Q5,Q6,Q7,Q8,Q9,Qa,Qb,Qc,Qd,Qe,Qf,Qg,Qh,Qi,Qj,Qk,Ql,Qm,Qn,Qo,Qp,Qq,Qr,Qs,Qt,Qu,Qv,Qw,Qx,Qy,Qz,QA,QB,QC,QD,QE,QF,QG,QH,QI,QJ,QK,QL,QM,QN,QO,QP,QQ,QR,QS,QT,QU,QV,QW,QX,QY,QZ,X0,X1,X2,X3,X4,X5,X6,X7,X8,X9,Xa,Xb,Xc,Xd,Xe,Xf,Xg,Xh,Xi,Xj,Xk,Xl,Xm,Xn,Xo,Xp,Xq,Xr,Xs,Xt,Xu,Xv,Xw,Xx,Xy,Xz,XA,XB,reduceIte,reduceCtorEq,XC,XD,XE,XF,XG,XH,XI,XJ,XK,XL,XM,XN,XO,XP,XQ,XR,XS,XT,XU,XV,XW,XX,XY,XZ,Y0,Try.q3,Try.q4,Try.q22,Try.q23]
        refine ACalls.mono (kB s) ?_
        rintro _ _ ⟨rfl, rfl⟩
        exact fun L' hL => hF.tmp (k := 5) hL (by decide) (by decide) (by decide)
      | 6, hio, hun =>
        cases hio
        have q5 := slook (hF.val 5 (hedge 5 (of_decide_eq_true (by kernel_rfl))) (by decide) (by decide) (by decide))
        dsimp only [valS] at q5
        refine opj_own ?_
        simp -implicitDefEqProofs only [vcOwn,ownOb,q5,Q0,Q1,Q2,Q3,Q4,Q5,Q6,Q7,Q8,Q9,Qa,Qb,Qc,Qd,Qe,Qf,Qg,Qh,Qi,Qj,Qk,Ql,Qm,Qn,Qo,Qp,Qq,Qr,Qs,Qt,Qu,Qv,Qw,Qx,Qy,Qz,QA,QB,QC,QD,QE,QF,QG,QH,QI,QJ,QK,QL,QM,QN,QO,QP,QQ,QR,QS,QT,QU,QV,QW,QX,QY,QZ,X0,X1,X2,X3,X4,X5,X6,X7,X8,X9,Xa,Xb,Xc,Xd,Xe,Xf,Xg,Xh,Xi,Xj,Xk,Xl,Xm,Xn,Xo,Xp,Xq,Xr,Xs,Xt,Xu,Xv,Xw,Xx,Xy,Xz,XA,XB,reduceIte,reduceCtorEq,XC,XD,XE,XF,XG,XH,XI,XJ,XK,XL,XM,XN,XO,XP,XQ,XR,XS,XT,XU,XV,XW,XX,XY,XZ,Y0,Try.q3,Try.q4,Try.q22,Try.q23]
        exact fun L' hL => hF.new6 hL hun
      | 7, hio, hun =>
        cases hio
        refine vcOp_sound ?_
        simp -implicitDefEqProofs only [z9,Q0,Q1,Q2,Q3,Q4,Q5,Q6,Q7,Q8,Q9,Qa,Qb,Qc,Qd,Qe,Qf,Qg,Qh,Qi,Qj,Qk,Ql,Qm,Qn,Qo,Qp,Qq,Qr,Qs,Qt,Qu,Qv,Qw,Qx,Qy,Qz,QA,QB,QC,QD,QE,QF,QG,QH,QI,QJ,QK,QL,QM,QN,QO,QP,QQ,QR,QS,QT,QU,QV,QW,QX,QY,QZ,X0,X1,X2,X3,X4,X5,X6,X7,X8,X9,Xa,Xb,Xc,Xd,Xe,Xf,Xg,Xh,Xi,Xj,Xk,Xl,Xm,Xn,Xo,Xp,Xq,Xr,Xs,Xt,Xu,Xv,Xw,Xx,Xy,Xz,XA,XB,reduceIte,reduceCtorEq,XC,XD,XE,XF,XG,XH,XI,XJ,XK,XL,XM,XN,XO,XP,XQ,XR,XS,XT,XU,XV,XW,XX,XY,XZ,Y0,Try.q3,Try.q4,Try.q22,Try.q23]
        exact fun L' hL => hF.tmp (k := 7) hL (by decide) (by decide) (by decide)
      | 8, hio, hun =>
        cases hio
        refine vcOp_sound ?_
        simp -implicitDefEqProofs only [z11,Q0,Q1,Q2,Q3,Q4,Q5,Q6,Q7,Q8,Q9,Qa,Qb,Qc,Qd,Qe,Qf,Qg,Qh,Qi,Qj,Qk,Ql,Qm,Qn,Qo,Qp,Qq,Qr,Qs,Qt,Qu,Qv,Qw,Qx,Qy,Qz,QA,QB,QC,QD,QE,QF,QG,QH,QI,QJ,QK,QL,QM,QN,QO,QP,QQ,QR,QS,QT,QU,QV,QW,QX,QY,QZ,X0,X1,X2,X3,X4,X5,X6,X7,X8,X9,Xa,Xb,Xc,Xd,Xe,Xf,Xg,Xh,Xi,Xj,Xk,Xl,Xm,Xn,Xo,Xp,Xq,Xr,Xs,Xt,Xu,Xv,Xw,Xx,Xy,Xz,XA,XB,reduceIte,reduceCtorEq,XC,XD,XE,XF,XG,XH,XI,XJ,XK,XL,XM,XN,XO,XP,XQ,XR,XS,XT,XU,XV,XW,XX,XY,XZ,Y0,Try.q3,Try.q4,Try.q22,Try.q23]
        exact fun L' hL => hF.tmp (k := 8) hL (by decide) (by decide) (by decide)
      | 9, hio, hun =>
        cases hio
        have q7 := slook (hF.val 7 (hedge 7 (of_decide_eq_true (by kernel_rfl))) (by decide) (by decide) (by decide))
        dsimp only [valS] at q7
        have q8 := slook (hF.val 8 (hedge 8 (of_decide_eq_true (by kernel_rfl))) (by decide) (by decide) (by decide))
        dsimp only [valS] at q8
        refine vcOp_sound ?_
        simp -implicitDefEqProofs only [q7,q8,hti,Q0,Q1,Q2,Q3,Q4,Q5,Q6,Q7,Q8,Q9,Qa,Qb,Qc,Qd,Qe,Qf,Qg,Qh,Qi,Qj,Qk,Ql,Qm,Qn,Qo,Qp,Qq,Qr,Qs,Qt,Qu,Qv,Qw,Qx,Qy,Qz,QA,QB,QC,QD,QE,QF,QG,QH,QI,QJ,QK,QL,QM,QN,QO,QP,QQ,QR,QS,QT,QU,QV,QW,QX,QY,QZ,X0,X1,X2,X3,X4,X5,X6,X7,X8,X9,Xa,Xb,Xc,Xd,Xe,Xf,Xg,Xh,Xi,Xj,Xk,Xl,Xm,Xn,Xo,Xp,Xq,Xr,Xs,Xt,Xu,Xv,Xw,Xx,Xy,Xz,XA,XB,reduceIte,reduceCtorEq,XC,XD,XE,XF,XG,XH,XI,XJ,XK,XL,XM,XN,XO,XP,XQ,XR,XS,XT,XU,XV,XW,XX,XY,XZ,Y0,Try.q3,Try.q4,Try.q22,Try.q23]
        exact ⟨bi, fun L' hL => hF.tmp (k := 9) hL (by decide) (by decide) (by decide)⟩
      | 10, hio, hun =>
        cases hio
        have q9 := slook (hF.val 9 (hedge 9 (of_decide_eq_true (by kernel_rfl))) (by decide) (by decide) (by decide))
        dsimp only [valS] at q9
        have n13 : L 13 = false := by
          cases q : L 13 with
          | false => rfl
          | true => have := hF.dep10 (hF.dep q); rw [hun] at this; cases this
        have gO := hF.cell n13
        refine vcOp_sound ?_
        simp -implicitDefEqProofs only [q9,gO,hRg',hml,Q0,Q1,Q2,Q3,Q4,Q5,Q6,Q7,Q8,Q9,Qa,Qb,Qc,Qd,Qe,Qf,Qg,Qh,Qi,Qj,Qk,Ql,Qm,Qn,Qo,Qp,Qq,Qr,Qs,Qt,Qu,Qv,Qw,Qx,Qy,Qz,QA,QB,QC,QD,QE,QF,QG,QH,QI,QJ,QK,QL,QM,QN,QO,QP,QQ,QR,QS,QT,QU,QV,QW,QX,QY,QZ,X0,X1,X2,X3,X4,X5,X6,X7,X8,X9,Xa,Xb,Xc,Xd,Xe,Xf,Xg,Xh,Xi,Xj,Xk,Xl,Xm,Xn,Xo,Xp,Xq,Xr,Xs,Xt,Xu,Xv,Xw,Xx,Xy,Xz,XA,XB,reduceIte,reduceCtorEq,XC,XD,XE,XF,XG,XH,XI,XJ,XK,XL,XM,XN,XO,XP,XQ,XR,XS,XT,XU,XV,XW,XX,XY,XZ,Y0,Try.q3,Try.q4,Try.q22,Try.q23]
        exact ⟨hil, fun L' hL => hF.tmp (k := 10) hL (by decide) (by decide) (by decide)⟩
      | 11, hio, hun =>
        cases hio
        have l6 := hedge 6 (of_decide_eq_true (by kernel_rfl))
        have l10 := hedge 10 (of_decide_eq_true (by kernel_rfl))
        have q10 := slook (hF.val 10 l10 (by decide) (by decide) (by decide))
        dsimp only [valS] at q10
        obtain ⟨d, h1, h2⟩ := hF.own l6
        obtain ⟨h3, h4⟩ := h2 hun
        have q6 := slook h1
        refine vcOp_sound ?_
        simp -implicitDefEqProofs only [q6,q10,Q0,Q1,Q2,Q3,Q4,Q5,Q6,Q7,Q8,Q9,Qa,Qb,Qc,Qd,Qe,Qf,Qg,Qh,Qi,Qj,Qk,Ql,Qm,Qn,Qo,Qp,Qq,Qr,Qs,Qt,Qu,Qv,Qw,Qx,Qy,Qz,QA,QB,QC,QD,QE,QF,QG,QH,QI,QJ,QK,QL,QM,QN,QO,QP,QQ,QR,QS,QT,QU,QV,QW,QX,QY,QZ,X0,X1,X2,X3,X4,X5,X6,X7,X8,X9,Xa,Xb,Xc,Xd,Xe,Xf,Xg,Xh,Xi,Xj,Xk,Xl,Xm,Xn,Xo,Xp,Xq,Xr,Xs,Xt,Xu,Xv,Xw,Xx,Xy,Xz,XA,XB,reduceIte,reduceCtorEq,XC,XD,XE,XF,XG,XH,XI,XJ,XK,XL,XM,XN,XO,XP,XQ,XR,XS,XT,XU,XV,XW,XX,XY,XZ,Y0,Try.q3,Try.q4,Try.q22,Try.q23]
        refine append_bufI3 (σ := σ) (l := [w]) (l' := row) Try.sl22 (by simp [Try.bt3]) hF.ext (.inr ⟨d, rfl, h3, h4⟩) rfl (by simp only [appFits, Try.bt3, List.length_cons, List.length_nil]; omega) fun r2 s2 hx2 hb2 hk2 hl2 => ?_
        exact fun L' hL => hF.new11 hL hun l6 l10 hx2 hb2 hk2
      | 12, hio, hun =>
        cases hio
        have q0 := slook (hF.val 0 (hedge 0 (of_decide_eq_true (by kernel_rfl))) (by decide) (by decide) (by decide))
        dsimp only [valS] at q0
        have q1 := slook (hF.val 1 (hedge 1 (of_decide_eq_true (by kernel_rfl))) (by decide) (by decide) (by decide))
        dsimp only [valS] at q1
        refine vcOp_sound ?_
        simp -implicitDefEqProofs only [q0,q1,hti,Q0,Q1,Q2,Q3,Q4,Q5,Q6,Q7,Q8,Q9,Qa,Qb,Qc,Qd,Qe,Qf,Qg,Qh,Qi,Qj,Qk,Ql,Qm,Qn,Qo,Qp,Qq,Qr,Qs,Qt,Qu,Qv,Qw,Qx,Qy,Qz,QA,QB,QC,QD,QE,QF,QG,QH,QI,QJ,QK,QL,QM,QN,QO,QP,QQ,QR,QS,QT,QU,QV,QW,QX,QY,QZ,X0,X1,X2,X3,X4,X5,X6,X7,X8,X9,Xa,Xb,Xc,Xd,Xe,Xf,Xg,Xh,Xi,Xj,Xk,Xl,Xm,Xn,Xo,Xp,Xq,Xr,Xs,Xt,Xu,Xv,Xw,Xx,Xy,Xz,XA,XB,reduceIte,reduceCtorEq,XC,XD,XE,XF,XG,XH,XI,XJ,XK,XL,XM,XN,XO,XP,XQ,XR,XS,XT,XU,XV,XW,XX,XY,XZ,Y0,Try.q3,Try.q4,Try.q22,Try.q23]
        exact ⟨bi, fun L' hL => hF.tmp (k := 12) hL (by decide) (by decide) (by decide)⟩
      | 13, hio, hun =>
        cases hio
        have l11 := hedge 11 (of_decide_eq_true (by kernel_rfl))
        have q12 := slook (hF.val 12 (hedge 12 (of_decide_eq_true (by kernel_rfl))) (by decide) (by decide) (by decide))
        dsimp only [valS] at q12
        obtain ⟨y, h1, h2⟩ := hF.app l11
        have q11 := slook h1
        have hcx := h2.cells
        have gO := hF.cell hun
        refine vcOp_sound ?_
        simp -implicitDefEqProofs only [q11,q12,gO,hcx,hml,hRg',dr,hRs',Q0,Q1,Q2,Q3,Q4,Q5,Q6,Q7,Q8,Q9,Qa,Qb,Qc,Qd,Qe,Qf,Qg,Qh,Qi,Qj,Qk,Ql,Qm,Qn,Qo,Qp,Qq,Qr,Qs,Qt,Qu,Qv,Qw,Qx,Qy,Qz,QA,QB,QC,QD,QE,QF,QG,QH,QI,QJ,QK,QL,QM,QN,QO,QP,QQ,QR,QS,QT,QU,QV,QW,QX,QY,QZ,X0,X1,X2,X3,X4,X5,X6,X7,X8,X9,Xa,Xb,Xc,Xd,Xe,Xf,Xg,Xh,Xi,Xj,Xk,Xl,Xm,Xn,Xo,Xp,Xq,Xr,Xs,Xt,Xu,Xv,Xw,Xx,Xy,Xz,XA,XB,reduceIte,reduceCtorEq,XC,XD,XE,XF,XG,XH,XI,XJ,XK,XL,XM,XN,XO,XP,XQ,XR,XS,XT,XU,XV,XW,XX,XY,XZ,Y0,Try.q3,Try.q4,Try.q22,Try.q23]
        exact ⟨hil, fun L' hL => hF.sto13 hL hun l11 hO h1⟩
      | k + 14, hio, hun => cases hio
    · intro L e s hL hF
      obtain ⟨y, h1, h2⟩ := hF.done (hL 13 (by decide))
      obtain ⟨y', h1', h3⟩ := hF.app (hL 11 (by decide))
      rw [h1] at h1'
      cases h1'
      simp -implicitDefEqProofs only [blkK_normal,seqA_normal,Q0,Q1,Q2,Q3,Q4,Q5,Q6,Q7,Q8,Q9,Qa,Qb,Qc,Qd,Qe,Qf,Qg,Qh,Qi,Qj,Qk,Ql,Qm,Qn,Qo,Qp,Qq,Qr,Qs,Qt,Qu,Qv,Qw,Qx,Qy,Qz,QA,QB,QC,QD,QE,QF,QG,QH,QI,QJ,QK,QL,QM,QN,QO,QP,QQ,QR,QS,QT,QU,QV,QW,QX,QY,QZ,X0,X1,X2,X3,X4,X5,X6,X7,X8,X9,Xa,Xb,Xc,Xd,Xe,Xf,Xg,Xh,Xi,Xj,Xk,Xl,Xm,Xn,Xo,Xp,Xq,Xr,Xs,Xt,Xu,Xv,Xw,Xx,Xy,Xz,XA,XB,reduceIte,reduceCtorEq,XC,XD,XE,XF,XG,XH,XI,XJ,XK,XL,XM,XN,XO,XP,XQ,XR,XS,XT,XU,XV,XW,XX,XY,XZ,Y0,Try.q3,Try.q4,Try.q22,Try.q23]
      refine awp_sub [(9, .mvec O 0 p.length 1)] ⟨hF.b9, trivial⟩ ?_
      refine awp_vc (by kernel_rfl) ?_
      simp -implicitDefEqProofs only [Q0,Q1,Q2,Q3,Q4,Q5,Q6,Q7,Q8,Q9,Qa,Qb,Qc,Qd,Qe,Qf,Qg,Qh,Qi,Qj,Qk,Ql,Qm,Qn,Qo,Qp,Qq,Qr,Qs,Qt,Qu,Qv,Qw,Qx,Qy,Qz,QA,QB,QC,QD,QE,QF,QG,QH,QI,QJ,QK,QL,QM,QN,QO,QP,QQ,QR,QS,QT,QU,QV,QW,QX,QY,QZ,X0,X1,X2,X3,X4,X5,X6,X7,X8,X9,Xa,Xb,Xc,Xd,Xe,Xf,Xg,Xh,Xi,Xj,Xk,Xl,Xm,Xn,Xo,Xp,Xq,Xr,Xs,Xt,Xu,Xv,Xw,Xx,Xy,Xz,XA,XB,reduceIte,reduceCtorEq,XC,XD,XE,XF,XG,XH,XI,XJ,XK,XL,XM,XN,XO,XP,XQ,XR,XS,XT,XU,XV,XW,XX,XY,XZ,Y0,Try.q3,Try.q4,Try.q22,Try.q23]
      exact hfin _ _ _ hF.ext h2 h3.frz
  have dc2 : decide (c = 2) = false := decide_eq_false c2
  simp only [dc2]
  refine awp_condF rfl ?_
  refine awp_seq (awp_vc (by kernel_rfl) ?_)
  simp -implicitDefEqProofs only [seqA_normal,seqA_ret,seqA_exit,Q0,Q1,Q2,Q3,Q4,Q5,Q6,Q7,Q8,Q9,Qa,Qb,Qc,Qd,Qe,Qf,Qg,Qh,Qi,Qj,Qk,Ql,Qm,Qn,Qo,Qp,Qq,Qr,Qs,Qt,Qu,Qv,Qw,Qx,Qy,Qz,QA,QB,QC,QD,QE,QF,QG,QH,QI,QJ,QK,QL,QM,QN,QO,QP,QQ,QR,QS,QT,QU,QV,QW,QX,QY,QZ,X0,X1,X2,X3,X4,X5,X6,X7,X8,X9,Xa,Xb,Xc,Xd,Xe,Xf,Xg,Xh,Xi,Xj,Xk,Xl,Xm,Xn,Xo,Xp,Xq,Xr,Xs,Xt,Xu,Xv,Xw,Xx,Xy,Xz,XA,XB,reduceIte,reduceCtorEq,XC,XD,XE,XF,XG,XH,XI,XJ,XK,XL,XM,XN,XO,XP,XQ,XR,XS,XT,XU,XV,XW,XX,XY,XZ,Y0,Try.q3,Try.q4,Try.q22,Try.q23]
  by_cases c3 : c = 3
  · have dc3 : decide (c = 3) = true := decide_eq_true c3
    simp only [dc3]
    refine awp_condT rfl ?_
    have kB := fun σ => around b 3 σ (by decide)
    have bB := aroundI_bound hb (m := 3) (by decide)
    have hsc : spoilC p i c b = growK p (63 + (aroundI b 3).toNat - p.length) := by unfold spoilC; rw [if_neg c0, if_neg c1, if_neg c2, if_pos c3]
    rw [hsc]
    generalize aroundI b 3 = w at *
    obtain ⟨m, hm⟩ : ∃ m, m = 63 + w.toNat - p.length := ⟨_, rfl⟩
    rw [← hm]
    have w63 : IntKind.i64.wrap (63 + w) = 63 + w := wrap_i64 (by omega) (by omega)
    refine awp_blk ?_
    refine awp_loopW (fun q : Nat × AV => [(9, q.2), (3, .int .i64 b)]) (fun q s => q.1 ≤ m ∧ Ext σ s ∧ BufR s σ.length q.2 1 ((growK p q.1).map rowI)) (fun q => m - q.1) (0, .mvec O 0 p.length 1) (by simp [sub_cons, sub_nil, get_cons])
      ⟨by simp, hx', .inr ⟨O, by simp [growK], by simp only; rw [hO'']; simp [growK], hO⟩⟩ ?_
    rintro ⟨k, r⟩ s2 ⟨hk, hx2, hb2⟩
    simp only at hk hb2
    have hgl : ((growK p k).map rowI).length = p.length + k := by rw [List.length_map, growK_len]
    rcases hb2 with ⟨-, h0⟩ | ⟨id, hr0, ho, hn⟩
    · rw [h0] at hgl; simp at hgl; omega
    rw [hgl] at hr0
    have hb2 : BufR s2 σ.length r 1 ((growK p k).map rowI) := .inr ⟨id, by rw [hgl]; exact hr0, ho, hn⟩
    subst hr0
    by_cases hlk : k < m
    · have d5 : decide (((p.length + k : Nat) : Int) < 63 + w) = true := decide_eq_true (by omega)
      have wk : IntKind.i64.wrap (((p.length + k : Nat) : Int) - 1) = ((p.length + k : Nat) : Int) - 1 := wrap_i64 (by omega) (by omega)
      have hgs := growK_succ p k
      refine awp_vc (by kernel_rfl) ?_
      simp -implicitDefEqProofs only [ho,hgl,Q0,Q1,Q2,Q3,Q4,Q5,Q6,Q7,Q8,Q9,Qa,Qb,Qc,Qd,Qe,Qf,Qg,Qh,Qi,Qj,Qk,Ql,Qm,Qn,Qo,Qp,Qq,Qr,Qs,Qt,Qu,Qv,Qw,Qx,Qy,Qz,QA,QB,QC,QD,QE,QF,QG,QH,QI,QJ,QK,QL,QM,QN,QO,QP,QQ,QR,QS,QT,QU,QV,QW,QX,QY,QZ,X0,X1,X2,X3,X4,X5,X6,X7,X8,X9,Xa,Xb,Xc,Xd,Xe,Xf,Xg,Xh,Xi,Xj,Xk,Xl,Xm,Xn,Xo,Xp,Xq,Xr,Xs,Xt,Xu,Xv,Xw,Xx,Xy,Xz,XA,XB,reduceIte,reduceCtorEq,XC,XD,XE,XF,XG,XH,XI,XJ,XK,XL,XM,XN,XO,XP,XQ,XR,XS,XT,XU,XV,XW,XX,XY,XZ,Y0,Try.q3,Try.q4,Try.q22,Try.q23]
      refine acalls_then (kB _) ?_
      simp -implicitDefEqProofs only [w63,d5,ho,hgl,wk,Q0,Q1,Q2,Q3,Q4,Q5,Q6,Q7,Q8,Q9,Qa,Qb,Qc,Qd,Qe,Qf,Qg,Qh,Qi,Qj,Qk,Ql,Qm,Qn,Qo,Qp,Qq,Qr,Qs,Qt,Qu,Qv,Qw,Qx,Qy,Qz,QA,QB,QC,QD,QE,QF,QG,QH,QI,QJ,QK,QL,QM,QN,QO,QP,QQ,QR,QS,QT,QU,QV,QW,QX,QY,QZ,X0,X1,X2,X3,X4,X5,X6,X7,X8,X9,Xa,Xb,Xc,Xd,Xe,Xf,Xg,Xh,Xi,Xj,Xk,Xl,Xm,Xn,Xo,Xp,Xq,Xr,Xs,Xt,Xu,Xv,Xw,Xx,Xy,Xz,XA,XB,reduceIte,reduceCtorEq,XC,XD,XE,XF,XG,XH,XI,XJ,XK,XL,XM,XN,XO,XP,XQ,XR,XS,XT,XU,XV,XW,XX,XY,XZ,Y0,Try.q3,Try.q4,Try.q22,Try.q23]
      refine append_bufR (σ := σ) (l' := [rowI [((p.length + k : Nat) : Int) - 1]]) Try.sl23 (by simp [Try.bt22]) hx2 hb2 rfl (by intro r hr; simp at hr; subst hr; rfl) (by simp only [appFits, Try.bt22, List.length_cons, List.length_nil]; omega) fun r2 s3 hx3 hb3 => ?_
      simp -implicitDefEqProofs only [Q0,Q1,Q2,Q3,Q4,Q5,Q6,Q7,Q8,Q9,Qa,Qb,Qc,Qd,Qe,Qf,Qg,Qh,Qi,Qj,Qk,Ql,Qm,Qn,Qo,Qp,Qq,Qr,Qs,Qt,Qu,Qv,Qw,Qx,Qy,Qz,QA,QB,QC,QD,QE,QF,QG,QH,QI,QJ,QK,QL,QM,QN,QO,QP,QQ,QR,QS,QT,QU,QV,QW,QX,QY,QZ,X0,X1,X2,X3,X4,X5,X6,X7,X8,X9,Xa,Xb,Xc,Xd,Xe,Xf,Xg,Xh,Xi,Xj,Xk,Xl,Xm,Xn,Xo,Xp,Xq,Xr,Xs,Xt,Xu,Xv,Xw,Xx,Xy,Xz,XA,XB,reduceIte,reduceCtorEq,XC,XD,XE,XF,XG,XH,XI,XJ,XK,XL,XM,XN,XO,XP,XQ,XR,XS,XT,XU,XV,XW,XX,XY,XZ,Y0,Try.q3,Try.q4,Try.q22,Try.q23]
      exact ⟨(k + 1, r2), by simp [sub_cons, sub_nil, get_cons], ⟨by simp only; omega, hx3, by simp only; rw [hgs, List.map_append]; exact hb3⟩, by simp only; omega⟩
    · have d5 : decide (((p.length + k : Nat) : Int) < 63 + w) = false := decide_eq_false (by omega)
      have hke : k = m := by omega
      subst hke
      refine awp_vc (by kernel_rfl) ?_
      simp -implicitDefEqProofs only [ho,hgl,Q0,Q1,Q2,Q3,Q4,Q5,Q6,Q7,Q8,Q9,Qa,Qb,Qc,Qd,Qe,Qf,Qg,Qh,Qi,Qj,Qk,Ql,Qm,Qn,Qo,Qp,Qq,Qr,Qs,Qt,Qu,Qv,Qw,Qx,Qy,Qz,QA,QB,QC,QD,QE,QF,QG,QH,QI,QJ,QK,QL,QM,QN,QO,QP,QQ,QR,QS,QT,QU,QV,QW,QX,QY,QZ,X0,X1,X2,X3,X4,X5,X6,X7,X8,X9,Xa,Xb,Xc,Xd,Xe,Xf,Xg,Xh,Xi,Xj,Xk,Xl,Xm,Xn,Xo,Xp,Xq,Xr,Xs,Xt,Xu,Xv,Xw,Xx,Xy,Xz,XA,XB,reduceIte,reduceCtorEq,XC,XD,XE,XF,XG,XH,XI,XJ,XK,XL,XM,XN,XO,XP,XQ,XR,XS,XT,XU,XV,XW,XX,XY,XZ,Y0,Try.q3,Try.q4,Try.q22,Try.q23]
      refine acalls_then (kB _) ?_
      simp -implicitDefEqProofs only [w63,d5,blkK_normal,seqA_normal,Q0,Q1,Q2,Q3,Q4,Q5,Q6,Q7,Q8,Q9,Qa,Qb,Qc,Qd,Qe,Qf,Qg,Qh,Qi,Qj,Qk,Ql,Qm,Qn,Qo,Qp,Qq,Qr,Qs,Qt,Qu,Qv,Qw,Qx,Qy,Qz,QA,QB,QC,QD,QE,QF,QG,QH,QI,QJ,QK,QL,QM,QN,QO,QP,QQ,QR,QS,QT,QU,QV,QW,QX,QY,QZ,X0,X1,X2,X3,X4,X5,X6,X7,X8,X9,Xa,Xb,Xc,Xd,Xe,Xf,Xg,Xh,Xi,Xj,Xk,Xl,Xm,Xn,Xo,Xp,Xq,Xr,Xs,Xt,Xu,Xv,Xw,Xx,Xy,Xz,XA,XB,reduceIte,reduceCtorEq,XC,XD,XE,XF,XG,XH,XI,XJ,XK,XL,XM,XN,XO,XP,XQ,XR,XS,XT,XU,XV,XW,XX,XY,XZ,Y0,Try.q3,Try.q4,Try.q22,Try.q23]
      refine awp_vc (by kernel_rfl) ?_
      simp -implicitDefEqProofs only [Q0,Q1,Q2,Q3,Q4,Q5,Q6,Q7,Q8,Q9,Qa,Qb,Qc,Qd,Qe,Qf,Qg,Qh,Qi,Qj,Qk,Ql,Qm,Qn,Qo,Qp,Qq,Qr,Qs,Qt,Qu,Qv,Qw,Qx,Qy,Qz,QA,QB,QC,QD,QE,QF,QG,QH,QI,QJ,QK,QL,QM,QN,QO,QP,QQ,QR,QS,QT,QU,QV,QW,QX,QY,QZ,X0,X1,X2,X3,X4,X5,X6,X7,X8,X9,Xa,Xb,Xc,Xd,Xe,Xf,Xg,Xh,Xi,Xj,Xk,Xl,Xm,Xn,Xo,Xp,Xq,Xr,Xs,Xt,Xu,Xv,Xw,Xx,Xy,Xz,XA,XB,reduceIte,reduceCtorEq,XC,XD,XE,XF,XG,XH,XI,XJ,XK,XL,XM,XN,XO,XP,XQ,XR,XS,XT,XU,XV,XW,XX,XY,XZ,Y0,Try.q3,Try.q4,Try.q22,Try.q23]
      refine ⟨hx2, ?_⟩
      have := hb2.frz (rs' := (growK p k).map rowI) rfl (rowI_len _) fun i x y hx hy => by
        rw [hx] at hy; cases hy
        obtain ⟨r, rfl⟩ := flat_row hx
        exact .same _ rfl
      exact this
  have dc3 : decide (c = 3) = false := decide_eq_false c3
  simp only [dc3]
  refine awp_condF rfl ?_
  have c4 : c = 4 := by omega
  have dc4 : decide (c = 4) = true := decide_eq_true c4
  have hsc : spoilC p i c b = p.take i := by unfold spoilC; rw [if_neg c0, if_neg c1, if_neg c2, if_neg c3]
  rw [hsc]
  refine awp_seq (awp_vc (by kernel_rfl) ?_)
  simp -implicitDefEqProofs only [seqA_normal,seqA_ret,seqA_exit,dc4,Q0,Q1,Q2,Q3,Q4,Q5,Q6,Q7,Q8,Q9,Qa,Qb,Qc,Qd,Qe,Qf,Qg,Qh,Qi,Qj,Qk,Ql,Qm,Qn,Qo,Qp,Qq,Qr,Qs,Qt,Qu,Qv,Qw,Qx,Qy,Qz,QA,QB,QC,QD,QE,QF,QG,QH,QI,QJ,QK,QL,QM,QN,QO,QP,QQ,QR,QS,QT,QU,QV,QW,QX,QY,QZ,X0,X1,X2,X3,X4,X5,X6,X7,X8,X9,Xa,Xb,Xc,Xd,Xe,Xf,Xg,Xh,Xi,Xj,Xk,Xl,Xm,Xn,Xo,Xp,Xq,Xr,Xs,Xt,Xu,Xv,Xw,Xx,Xy,Xz,XA,XB,reduceIte,reduceCtorEq,XC,XD,XE,XF,XG,XH,XI,XJ,XK,XL,XM,XN,XO,XP,XQ,XR,XS,XT,XU,XV,XW,XX,XY,XZ,Y0,Try.q3,Try.q4,Try.q22,Try.q23]
  refine awp_condT rfl ?_
  refine awp_vc (by kernel_rfl) ?_
  simp -implicitDefEqProofs only [seqA_normal,Q0,Q1,Q2,Q3,Q4,Q5,Q6,Q7,Q8,Q9,Qa,Qb,Qc,Qd,Qe,Qf,Qg,Qh,Qi,Qj,Qk,Ql,Qm,Qn,Qo,Qp,Qq,Qr,Qs,Qt,Qu,Qv,Qw,Qx,Qy,Qz,QA,QB,QC,QD,QE,QF,QG,QH,QI,QJ,QK,QL,QM,QN,QO,QP,QQ,QR,QS,QT,QU,QV,QW,QX,QY,QZ,X0,X1,X2,X3,X4,X5,X6,X7,X8,X9,Xa,Xb,Xc,Xd,Xe,Xf,Xg,Xh,Xi,Xj,Xk,Xl,Xm,Xn,Xo,Xp,Xq,Xr,Xs,Xt,Xu,Xv,Xw,Xx,Xy,Xz,XA,XB,reduceIte,reduceCtorEq,XC,XD,XE,XF,XG,XH,XI,XJ,XK,XL,XM,XN,XO,XP,XQ,XR,XS,XT,XU,XV,XW,XX,XY,XZ,Y0,Try.q3,Try.q4,Try.q22,Try.q23]
  refine ⟨⟨by omega, by omega, by omega⟩, ?_⟩
  refine awp_vc (by kernel_rfl) ?_
  simp -implicitDefEqProofs only [Q0,Q1,Q2,Q3,Q4,Q5,Q6,Q7,Q8,Q9,Qa,Qb,Qc,Qd,Qe,Qf,Qg,Qh,Qi,Qj,Qk,Ql,Qm,Qn,Qo,Qp,Qq,Qr,Qs,Qt,Qu,Qv,Qw,Qx,Qy,Qz,QA,QB,QC,QD,QE,QF,QG,QH,QI,QJ,QK,QL,QM,QN,QO,QP,QQ,QR,QS,QT,QU,QV,QW,QX,QY,QZ,X0,X1,X2,X3,X4,X5,X6,X7,X8,X9,Xa,Xb,Xc,Xd,Xe,Xf,Xg,Xh,Xi,Xj,Xk,Xl,Xm,Xn,Xo,Xp,Xq,Xr,Xs,Xt,Xu,Xv,Xw,Xx,Xy,Xz,XA,XB,reduceIte,reduceCtorEq,XC,XD,XE,XF,XG,XH,XI,XJ,XK,XL,XM,XN,XO,XP,XQ,XR,XS,XT,XU,XV,XW,XX,XY,XZ,Y0,Try.q3,Try.q4,Try.q22,Try.q23]
  rw [Int.toNat_natCast, Nat.sub_zero]
  refine ⟨hx', .vecR O 0 i 1 _ _ hO'' hO (by rw [hml]; omega) (by rw [List.length_map, List.length_take]; omega) (rowI_len _) fun j x y hx hy => ?_⟩
  rw [List.drop_zero, ← List.map_take] at hx
  rw [hx] at hy; cases hy
  obtain ⟨r, rfl⟩ := flat_row hx
  exact .same _ rfl

end Go.Proofs
