/-
  The ledger: entries; the order by days; contracts of what a stable sort is made of.
-/
import Derived.Test.YtdioiegkpkjmkaaAbsAll
import Derived.Test.YtdioiegkpkjmkaaAbsH
namespace Go.Proofs
open Go.Pa
open Go.Pa renaming VB0 → Q0, VB1 → Q1, VB2 → Q2, VB3 → Q3, VB4 → Q4, VB5 → Q5, VB6 → Q6, VB7 → Q7, VB8 → Q8, VB9 → Q9, condV_bool → Qa, guardV_bool → Qb, vcS → Qc, evA → Qd, evBin → Qe, nilA → Qf, nilOf → Qg, intOp → Qh, strOp → Qi, evUn → Qj, evConv → Qk, evField → Ql, evFieldAddr → Qm, evIndexAddr → Qn, evIndex → Qo, evIndexA → Qp, bnd → Qq, evSlice → Qr, evLen → Qs, evPick → Qt, evExtract → Qu, evNilCheck → Qv, evMin → Qw, evMax → Qx, evLoadI → Qy, partsOne → QA, intsOf → QB, rowsAV → QC, evBuildSlice → QD, evBuild → QE, fillA → QF, splice → QG, evBuiltin → QH, guardD_bool → QI, dOp → QJ, cl → QK, vcLoad → QL, vcStore → QM, vcMake → QN, convA → QO, evIndexArr → QP, retA → QQ, ressA → QR, resA → QS, envOf → QT, condR_bool → QX, asgEnv → QY, parEnv → QZ, dstAt → XI, vcLook → XT, vcPut → XU, vcEnt → XV, vcESt → XW, vcMLen → XX, vcDel → XY, vcClear → XZ, vcLookD → Y0
open Go.Pa.AV renaming cell → Qz
open Go.Pa.Env renaming put → QU
open List renaming set_cons_zero → QV, set_cons_succ → QW, foldl_cons → X0, foldl_nil → X1, map_cons → X2, map_nil → X3, toList_toArray → X4, getElem?_cons_zero → X5, getElem?_cons_succ → X6, nil_append → Xa, append_nil → Xb, cons_append → Xc, singleton_append → Xd, length_cons → Xe, length_nil → Xf, all_cons → Xg, all_nil → Xh, take_succ_cons → Xi, take_zero → Xj, take_nil → Xk, drop_zero → Xl, drop_succ_cons → Xm, drop_nil → Xn, contains_nil → Xo, contains_cons → Xp
open Option renaming bind_some → X7, map_some → X8, map_none → X9
open Bool renaming or_false → Xq, false_or → Xr, or_true → Xs, true_or → Xt, false_eq_true → XC, not_true → XD, not_false → XE, and_true → XF, true_and → XG, and_self → XH
open Nat renaming reduceEqDiff → Xu, reduceAdd → Xv, reduceSub → Xw, reduceMul → Xx, reduceLT → Xy, reduceLeDiff → Xz, reduceBNe → XA, reduceBEq → XB, zero_add → XL, add_zero → XM
open UInt8 renaming reduceToNat → XJ
open Int renaming cast_ofNat_Int → XK, reduceToNat → XN, reduceLT → XO, reduceLE → XP, reduceNeg → XQ, reduceEq → XR, reduceNe → XS
set_option linter.unusedSimpArgs false
set_option linter.unusedVariables false
set_option maxRecDepth 20000
set_option maxHeartbeats 2000000

/-- An entry. -/
structure Ent where
  day : Int
  fr : Int
  to : Int
  cur : Int
  amt : Int
  note : Int
deriving DecidableEq, Inhabited

def entA (e : Ent) : List AV := [.int .i64 e.day, .int .i64 e.fr, .int .i64 e.to, .int .i64 e.cur, .int .i64 e.amt, .int .i64 e.note]
theorem entA_len (l : List Ent) : ∀ r ∈ l.map entA, r.length = 6 := by
  intro r hr
  obtain ⟨e, _, rfl⟩ := List.mem_map.1 hr
  rfl

theorem entA_take (e : Ent) : (entA e).take 6 = entA e := rfl
theorem entA_drop (e : Ent) : (entA e).drop 6 = [] := rfl
theorem entA_six (e : Ent) : (entA e).length = 6 := rfl
theorem entA_all (e : Ent) : (entA e).all AV.cell = true := rfl

/-- A day that subtracts well. -/
def Day (e : Ent) : Prop := 0 ≤ e.day ∧ e.day ≤ 1000000000

theorem c_cmp (a b : Ent) (ha : Day a) (hb : Day b) (σ : Store) : ACalls Try.prog 61 [.agg (entA a), .agg (entA b)] σ (fun r s => r = .int .i64 (a.day - b.day) ∧ s = σ) := by
  refine ACalls.frozen (ACalls.mono (R := fun r s => r = .int .i64 (a.day - b.day) ∧ Ext σ s) ?_ fun r s ⟨h1, h2⟩ => ⟨h2, by rw [h1]; exact .same _ rfl⟩)
  have w1 : IntKind.i64.wrap (a.day - b.day) = a.day - b.day := by unfold Day at ha hb; exact wrap_i64 (by omega) (by omega)
  unfold entA
  refine acalls_of_vc (fn := Try.f61) Try.call61 Try.func61 rfl (by kernel_rfl) (by simp [Try.ntmps61]) ?_; simp -implicitDefEqProofs only [w1,Try.ntmps61,Try.results61,Q0,Q1,Q2,Q3,Q4,Q5,Q6,Q7,Q8,Q9,Qa,Qb,Qc,Qd,Qe,Qf,Qg,Qh,Qi,Qj,Qk,Ql,Qm,Qn,Qo,Qp,Qq,Qr,Qs,Qt,Qu,Qv,Qw,Qx,Qy,Qz,QA,QB,QC,QD,QE,QF,QG,QH,QI,QJ,QK,QL,QM,QN,QO,QP,QQ,QR,QS,QT,QU,QV,QW,QX,QY,QZ,X0,X1,X2,X3,X4,X5,X6,X7,X8,X9,Xa,Xb,Xc,Xd,Xe,Xf,Xg,Xh,Xi,Xj,Xk,Xl,Xm,Xn,Xo,Xp,Xq,Xr,Xs,Xt,Xu,Xv,Xw,Xx,Xy,Xz,XA,XB,reduceIte,reduceCtorEq,XC,XD,XE,XF,XG,XH,XI,XJ,XK,XL,XM,XN,XO,XP,XQ,XR,XS,XT,XU,XV,XW,XX,XY,XZ,Y0,Try.q3,Try.underlying37,Try.q37]
  exact Ext.app _ _

/-- The rows, as they stand. -/
def rowsE (l : List Ent) : AObj := .vecR 6 (l.map entA)

theorem set_same {s : Store} {id : Nat} {x : AObj} (h : s[id]? = some x) : s.set id x = s := by
  apply List.ext_getElem?
  intro i
  rw [List.getElem?_set]
  split
  · rename_i hi; subst hi; rw [if_pos (List.getElem?_eq_some_iff.1 h).1, h]
  · rfl

theorem row_at (U V : List Ent) (p : Ent) {n : Nat} (h : n = U.length) : ((U ++ p :: V).map entA).getD n [] = entA p := by
  subst h; simp
theorem row_set (U V : List Ent) (p r : Ent) {n : Nat} (h : n = U.length) : ((U ++ p :: V).map entA).set n (entA r) = (U ++ r :: V).map entA := by
  subst h; simp

def swF (A P Q R B : List Ent) (i : Nat) : List Ent := A ++ R.take i ++ (P.drop i ++ Q ++ P.take i) ++ R.drop i ++ B

theorem c_swap (A P Q R B : List Ent) (hn : P.length = R.length) (hl : (A ++ P ++ Q ++ R ++ B).length ≤ 1000000) (f : AV) (σ : Store) (id : Nat) (h0 : σ[id]? = some (rowsE (A ++ P ++ Q ++ R ++ B))) :
    ACalls Try.prog 68 [.mvec id 0 (A ++ P ++ Q ++ R ++ B).length 6, .int .i64 A.length, .int .i64 ((A ++ P ++ Q).length : Nat), .int .i64 P.length, f] σ
      (fun _ s => s = σ.set id (rowsE (A ++ R ++ Q ++ P ++ B))) := by
  refine acalls_of_vc (fn := Try.f68) Try.call68 Try.func68 rfl (by kernel_rfl) (by simp [Try.ntmps68]) ?_; simp -implicitDefEqProofs only [Try.ntmps68,Try.results68,Q0,Q1,Q2,Q3,Q4,Q5,Q6,Q7,Q8,Q9,Qa,Qb,Qc,Qd,Qe,Qf,Qg,Qh,Qi,Qj,Qk,Ql,Qm,Qn,Qo,Qp,Qq,Qr,Qs,Qt,Qu,Qv,Qw,Qx,Qy,Qz,QA,QB,QC,QD,QE,QF,QG,QH,QI,QJ,QK,QL,QM,QN,QO,QP,QQ,QR,QS,QT,QU,QV,QW,QX,QY,QZ,X0,X1,X2,X3,X4,X5,X6,X7,X8,X9,Xa,Xb,Xc,Xd,Xe,Xf,Xg,Xh,Xi,Xj,Xk,Xl,Xm,Xn,Xo,Xp,Xq,Xr,Xs,Xt,Xu,Xv,Xw,Xx,Xy,Xz,XA,XB,reduceIte,reduceCtorEq,XC,XD,XE,XF,XG,XH,XI,XJ,XK,XL,XM,XN,XO,XP,XQ,XR,XS,XT,XU,XV,XW,XX,XY,XZ,Y0,Try.q3,Try.q4,Try.q29,Try.underlying37,Try.q37,Try.underlying97,Try.q97]
  have hlen : ∀ i, (swF A P Q R B i).length = (A ++ P ++ Q ++ R ++ B).length := by
    intro i
    simp only [swF, List.length_append, List.length_take, List.length_drop]
    omega
  have hid : id < σ.length := (List.getElem?_eq_some_iff.1 h0).1
  have hs0 : swF A P Q R B 0 = A ++ P ++ Q ++ R ++ B := by simp [swF]
  have hsn : swF A P Q R B P.length = A ++ R ++ Q ++ P ++ B := by simp [swF, List.drop_eq_nil_of_le, List.take_of_length_le, ← hn]
  have hσ : σ = σ.set id (rowsE (swF A P Q R B 0)) := by rw [hs0]; exact (set_same h0).symm
  obtain ⟨n, hN⟩ : ∃ n, n = (A ++ P ++ Q ++ R ++ B).length := ⟨_, rfl⟩
  rw [← hN] at hlen hl ⊢
  have hnl : n = A.length + P.length + Q.length + R.length + B.length := by rw [hN]; simp only [List.length_append]
  rw [← hsn]
  refine awp_loop (fun i : Nat => [(10, .int .i64 i), (0, .mvec id 0 n 6), (1, .int .i64 A.length), (2, .int .i64 ((A ++ P ++ Q).length : Nat)), (3, .int .i64 P.length)]) (fun i s => i ≤ P.length ∧ s = σ.set id (rowsE (swF A P Q R B i))) (fun i => P.length - i) 0 (by kernel_rfl) (by simp [sub_cons, sub_nil, get_cons]) ⟨by omega, hσ⟩ ?_
  rintro i s ⟨hi, rfl⟩
  by_cases hlt : i < P.length
  · have d1 : decide ((i : Int) < (P.length : Int)) = true := decide_eq_true (by omega)
    have wi : IntKind.i64.wrap ((i : Int) + 1) = ((i + 1 : Nat) : Int) := by rw [wrap_i64 (by omega) (by omega)]; rfl
    have hi2 : i < R.length := by omega
    obtain ⟨U, hU⟩ : ∃ U, U = A ++ R.take i := ⟨_, rfl⟩
    obtain ⟨V, hV⟩ : ∃ V, V = P.drop (i + 1) ++ Q ++ P.take i := ⟨_, rfl⟩
    obtain ⟨W, hW⟩ : ∃ W, W = R.drop (i + 1) ++ B := ⟨_, rfl⟩
    have e1 : swF A P Q R B i = U ++ P[i] :: V ++ R[i] :: W := by
      simp only [swF, hU, hV, hW]
      rw [List.drop_eq_getElem_cons hlt, List.drop_eq_getElem_cons hi2]
      simp only [List.append_assoc, List.cons_append]
    have e2 : swF A P Q R B (i + 1) = U ++ R[i] :: V ++ P[i] :: W := by
      simp only [swF, hU, hV, hW]
      rw [List.take_succ_eq_append_getElem hlt, List.take_succ_eq_append_getElem hi2]
      simp only [List.append_assoc, List.cons_append, List.nil_append]
    have lU : U.length = A.length + i := by rw [hU, List.length_append, List.length_take]; omega
    have lV : U.length + 1 + V.length = (A ++ P ++ Q).length + i := by rw [lU, hV]; simp only [List.length_append, List.length_take, List.length_drop]; omega
    have hb2 : (A ++ P ++ Q).length = A.length + P.length + Q.length := by simp only [List.length_append]
    generalize (A ++ P ++ Q).length = b at *
    have w1 : IntKind.i64.wrap ((A.length : Int) + (i : Int)) = ((A.length + i : Nat) : Int) := by rw [wrap_i64 (by omega) (by omega)]; rfl
    have w2 : IntKind.i64.wrap ((b : Int) + (i : Int)) = ((b + i : Nat) : Int) := by rw [wrap_i64 (by omega) (by omega)]; rfl
    have hle := hlen i
    rw [e1] at hle
    rw [e1]
    have e2' : rowsE (swF A P Q R B (i + 1)) = rowsE (U ++ R[i] :: V ++ P[i] :: W) := by rw [e2]
    generalize hpp : P[i] = p at *
    generalize hrr : R[i] = r at *
    clear e1 e2 hs0 hsn hσ hU hV hW
    have g1 : ((U ++ p :: V ++ r :: W).map entA).getD ((A.length + i : Nat) : Int).toNat [] = entA p := by rw [Int.toNat_natCast, List.append_assoc]; exact row_at U (V ++ r :: W) p lU.symm
    have g2 : ((U ++ p :: V ++ r :: W).map entA).getD ((b + i : Nat) : Int).toNat [] = entA r := by rw [Int.toNat_natCast]; exact row_at (U ++ p :: V) W r (by rw [List.length_append, List.length_cons]; omega)
    have gl : ((U ++ p :: V ++ r :: W).map entA).length = n := by rw [List.length_map, hle]
    have g3 : ((U ++ p :: V ++ r :: W).map entA).set ((A.length + i : Nat) : Int).toNat (entA r) = (U ++ r :: V ++ r :: W).map entA := by
      rw [Int.toNat_natCast, List.append_assoc, List.append_assoc]; exact row_set U (V ++ r :: W) p r lU.symm
    have g4 : ((U ++ r :: V ++ r :: W).map entA).getD ((b + i : Nat) : Int).toNat [] = entA r := by rw [Int.toNat_natCast]; exact row_at (U ++ r :: V) W r (by rw [List.length_append, List.length_cons]; omega)
    have g5 : ((U ++ r :: V ++ r :: W).map entA).set ((b + i : Nat) : Int).toNat (entA p) = (U ++ r :: V ++ p :: W).map entA := by
      rw [Int.toNat_natCast]; exact row_set (U ++ r :: V) W r p (by rw [List.length_append, List.length_cons]; omega)
    have gl1 : ((U ++ r :: V ++ r :: W).map entA).length = n := by rw [← gl]; simp
    unfold rowsE at e2' ⊢
    generalize (U ++ p :: V ++ r :: W).map entA = RS at *
    generalize (U ++ r :: V ++ r :: W).map entA = RS1 at *
    generalize (U ++ r :: V ++ p :: W).map entA = RS2 at *
    have hg : ∀ x, (σ.set id x)[id]? = some x := fun x => List.getElem?_set_self hid
    have hss : ∀ x y, (σ.set id x).set id y = σ.set id y := by intro x y; simp
    simp -implicitDefEqProofs only [d1,w1,w2,Q0,Q1,Q2,Q3,Q4,Q5,Q6,Q7,Q8,Q9,Qa,Qb,Qc,Qd,Qe,Qf,Qg,Qh,Qi,Qj,Qk,Ql,Qm,Qn,Qo,Qp,Qq,Qr,Qs,Qt,Qu,Qv,Qw,Qx,Qy,Qz,QA,QB,QC,QD,QE,QF,QG,QH,QI,QJ,QK,QL,QM,QN,QO,QP,QQ,QR,QS,QT,QU,QV,QW,QX,QY,QZ,X0,X1,X2,X3,X4,X5,X6,X7,X8,X9,Xa,Xb,Xc,Xd,Xe,Xf,Xg,Xh,Xi,Xj,Xk,Xl,Xm,Xn,Xo,Xp,Xq,Xr,Xs,Xt,Xu,Xv,Xw,Xx,Xy,Xz,XA,XB,reduceIte,reduceCtorEq,XC,XD,XE,XF,XG,XH,XI,XJ,XK,XL,XM,XN,XO,XP,XQ,XR,XS,XT,XU,XV,XW,XX,XY,XZ,Y0,Try.q3,Try.q4,Try.q29,Try.underlying37,Try.q37,Try.underlying97,Try.q97]
    refine awp_draws [21, 23, 100013, 100019] Try.mixed (by kernel_rfl) ?_
    simp -implicitDefEqProofs only [w1,w2,hg,hss,g1,g2,g3,g4,g5,gl,gl1,entA_take,entA_six,entA_all,entA_drop,Xb,Q0,Q1,Q2,Q3,Q4,Q5,Q6,Q7,Q8,Q9,Qa,Qb,Qc,Qd,Qe,Qf,Qg,Qh,Qi,Qj,Qk,Ql,Qm,Qn,Qo,Qp,Qq,Qr,Qs,Qt,Qu,Qv,Qw,Qx,Qy,Qz,QA,QB,QC,QD,QE,QF,QG,QH,QI,QJ,QK,QL,QM,QN,QO,QP,QQ,QR,QS,QT,QU,QV,QW,QX,QY,QZ,X0,X1,X2,X3,X4,X5,X6,X7,X8,X9,Xa,Xb,Xc,Xd,Xe,Xf,Xg,Xh,Xi,Xj,Xk,Xl,Xm,Xn,Xo,Xp,Xq,Xr,Xs,Xt,Xu,Xv,Xw,Xx,Xy,Xz,XA,XB,reduceIte,reduceCtorEq,XC,XD,XE,XF,XG,XH,XI,XJ,XK,XL,XM,XN,XO,XP,XQ,XR,XS,XT,XU,XV,XW,XX,XY,XZ,Y0,Try.q3,Try.q4,Try.q29,Try.underlying37,Try.q37,Try.underlying97,Try.q97]
    refine ⟨by omega, by omega, by omega, by omega, by omega, by omega, by omega, by omega, i + 1, by rw [wi], ⟨by omega, ?_⟩, by omega⟩
    first | rw [e2'] | (rw [← e2']; rfl) | exact congrArg _ e2'.symm
  · have d1 : decide ((i : Int) < (P.length : Int)) = false := decide_eq_false (by omega)
    have : i = P.length := by omega
    subst this
    simp -implicitDefEqProofs only [d1,Q0,Q1,Q2,Q3,Q4,Q5,Q6,Q7,Q8,Q9,Qa,Qb,Qc,Qd,Qe,Qf,Qg,Qh,Qi,Qj,Qk,Ql,Qm,Qn,Qo,Qp,Qq,Qr,Qs,Qt,Qu,Qv,Qw,Qx,Qy,Qz,QA,QB,QC,QD,QE,QF,QG,QH,QI,QJ,QK,QL,QM,QN,QO,QP,QQ,QR,QS,QT,QU,QV,QW,QX,QY,QZ,X0,X1,X2,X3,X4,X5,X6,X7,X8,X9,Xa,Xb,Xc,Xd,Xe,Xf,Xg,Xh,Xi,Xj,Xk,Xl,Xm,Xn,Xo,Xp,Xq,Xr,Xs,Xt,Xu,Xv,Xw,Xx,Xy,Xz,XA,XB,reduceIte,reduceCtorEq,XC,XD,XE,XF,XG,XH,XI,XJ,XK,XL,XM,XN,XO,XP,XQ,XR,XS,XT,XU,XV,XW,XX,XY,XZ,Y0,Try.q3,Try.q4,Try.q29,Try.underlying37,Try.q37,Try.underlying97,Try.q97]

theorem c_swap2 {L : List Ent} (A P Q R B : List Ent) (hL : L = A ++ P ++ Q ++ R ++ B) (hn : P.length = R.length) (hl : L.length ≤ 1000000) {n : Nat} {a b c : Int} (h1 : n = L.length) (h2 : a = A.length) (h3 : b = ((A ++ P ++ Q).length : Nat)) (h4 : c = P.length)
    (f : AV) (σ : Store) (id : Nat) (h0 : σ[id]? = some (rowsE L)) :
    ACalls Try.prog 68 [.mvec id 0 n 6, .int .i64 a, .int .i64 b, .int .i64 c, f] σ
      (fun r s => s = σ.set id (rowsE (A ++ R ++ Q ++ P ++ B))) := by
  subst hL h1 h2 h3 h4
  exact c_swap A P Q R B hn hl f σ id h0

theorem c_rot (A X Y B : List Ent) (hX : X ≠ []) (hY : Y ≠ []) {L : List Ent} (hL : L = A ++ X ++ Y ++ B) (hl : L.length ≤ 1000000) {n : Nat} {a m b : Int} (h1 : n = L.length) (h2 : a = A.length) (h3 : m = ((A ++ X).length : Nat)) (h4 : b = ((A ++ X ++ Y).length : Nat))
    (f : AV) (σ : Store) (id : Nat) (h0 : σ[id]? = some (rowsE L)) :
    ACalls Try.prog 67 [.mvec id 0 n 6, .int .i64 a, .int .i64 m, .int .i64 b, f] σ
      (fun r s => s = σ.set id (rowsE (A ++ Y ++ X ++ B))) := by
  have hid : id < σ.length := (List.getElem?_eq_some_iff.1 h0).1
  have hσ : σ = σ.set id (rowsE (A ++ X ++ Y ++ B)) := by rw [← hL]; exact (set_same h0).symm
  obtain ⟨M, hM⟩ : ∃ M, M = A.length + X.length := ⟨_, rfl⟩
  have hm : m = (M : Int) := by rw [h3, List.length_append, hM]
  have hb : b = (M + Y.length : Nat) := by rw [h4, List.length_append, List.length_append, hM]
  have hnn : n = M + Y.length + B.length := by rw [h1, hL]; simp only [List.length_append]; omega
  rw [← h1] at hl
  clear h1 h3 h4
  subst hm hb h2
  have w1 : IntKind.i64.wrap ((M : Int) - (A.length : Int)) = (X.length : Int) := by rw [wrap_i64 (by omega) (by omega)]; omega
  have w2 : IntKind.i64.wrap (((M + Y.length : Nat) : Int) - (M : Int)) = (Y.length : Int) := by rw [wrap_i64 (by omega) (by omega)]; omega
  refine acalls_of_vc (fn := Try.f67) Try.call67 Try.func67 rfl (by kernel_rfl) (by simp [Try.ntmps67]) ?_; simp -implicitDefEqProofs only [Try.ntmps67,Try.results67,Q0,Q1,Q2,Q3,Q4,Q5,Q6,Q7,Q8,Q9,Qa,Qb,Qc,Qd,Qe,Qf,Qg,Qh,Qi,Qj,Qk,Ql,Qm,Qn,Qo,Qp,Qq,Qr,Qs,Qt,Qu,Qv,Qw,Qx,Qy,Qz,QA,QB,QC,QD,QE,QF,QG,QH,QI,QJ,QK,QL,QM,QN,QO,QP,QQ,QR,QS,QT,QU,QV,QW,QX,QY,QZ,X0,X1,X2,X3,X4,X5,X6,X7,X8,X9,Xa,Xb,Xc,Xd,Xe,Xf,Xg,Xh,Xi,Xj,Xk,Xl,Xm,Xn,Xo,Xp,Xq,Xr,Xs,Xt,Xu,Xv,Xw,Xx,Xy,Xz,XA,XB,reduceIte,reduceCtorEq,XC,XD,XE,XF,XG,XH,XI,XJ,XK,XL,XM,XN,XO,XP,XQ,XR,XS,XT,XU,XV,XW,XX,XY,XZ,Y0,Try.q3,Try.q4,Try.q29,Try.underlying37,Try.q37,Try.underlying97,Try.q97]
  simp -implicitDefEqProofs only [w1,w2,Q0,Q1,Q2,Q3,Q4,Q5,Q6,Q7,Q8,Q9,Qa,Qb,Qc,Qd,Qe,Qf,Qg,Qh,Qi,Qj,Qk,Ql,Qm,Qn,Qo,Qp,Qq,Qr,Qs,Qt,Qu,Qv,Qw,Qx,Qy,Qz,QA,QB,QC,QD,QE,QF,QG,QH,QI,QJ,QK,QL,QM,QN,QO,QP,QQ,QR,QS,QT,QU,QV,QW,QX,QY,QZ,X0,X1,X2,X3,X4,X5,X6,X7,X8,X9,Xa,Xb,Xc,Xd,Xe,Xf,Xg,Xh,Xi,Xj,Xk,Xl,Xm,Xn,Xo,Xp,Xq,Xr,Xs,Xt,Xu,Xv,Xw,Xx,Xy,Xz,XA,XB,reduceIte,reduceCtorEq,XC,XD,XE,XF,XG,XH,XI,XJ,XK,XL,XM,XN,XO,XP,XQ,XR,XS,XT,XU,XV,XW,XX,XY,XZ,Y0,Try.q3,Try.q4,Try.q29,Try.underlying37,Try.q37,Try.underlying97,Try.q97]
  refine awp_loop (fun z : List Ent × List Ent × List Ent × List Ent => [(10, .int .i64 z.2.1.length), (11, .int .i64 z.2.2.1.length), (0, .mvec id 0 n 6), (2, .int .i64 M), (4, f)])
    (fun z s => s = σ.set id (rowsE (z.1 ++ z.2.1 ++ z.2.2.1 ++ z.2.2.2)) ∧ z.1 ++ z.2.2.1 ++ z.2.1 ++ z.2.2.2 = A ++ Y ++ X ++ B ∧ z.1.length + z.2.1.length = M ∧ z.2.1 ≠ [] ∧ z.2.2.1 ≠ [])
    (fun z => z.2.1.length + z.2.2.1.length) (A, X, Y, B) (by kernel_rfl) (by simp [sub_cons, sub_nil, get_cons]) ⟨hσ, rfl, hM.symm, hX, hY⟩ ?_
  rintro ⟨Aa, xs, ys, Ba⟩ s ⟨hs, hF, hM1, hX1, hY1⟩
  simp only at hs hF hM1 hX1 hY1
  have lX : 0 < xs.length := List.length_pos_iff.2 hX1
  have lY : 0 < ys.length := List.length_pos_iff.2 hY1
  have lF : Aa.length + xs.length + ys.length + Ba.length = n := by
    have := congrArg List.length hF
    simp only [List.length_append] at this
    omega
  have h0' : s[id]? = some (rowsE (Aa ++ xs ++ ys ++ Ba)) := by rw [hs]; exact List.getElem?_set_self hid
  have hss : ∀ x, s.set id x = σ.set id x := by intro x; rw [hs]; simp
  have hl1 : (Aa ++ xs ++ ys ++ Ba).length ≤ 1000000 := by simp only [List.length_append]; omega
  have hn1 : n = (Aa ++ xs ++ ys ++ Ba).length := by simp only [List.length_append]; omega
  clear hs
  have w3 : IntKind.i64.wrap ((M : Int) - (xs.length : Int)) = (Aa.length : Int) := by rw [wrap_i64 (by omega) (by omega)]; omega
  by_cases he : (xs.length : Int) = (ys.length : Int)
  · have d1 : decide ((xs.length : Int) = (ys.length : Int)) = true := decide_eq_true he
    have k := c_swap2 Aa xs [] ys Ba (L := Aa ++ xs ++ ys ++ Ba) (by simp) (by omega) hl1 hn1 (a := Aa.length) rfl (b := (M : Int)) (by simp only [List.append_nil, List.length_append]; omega) (c := xs.length) rfl f s id h0'
    simp -implicitDefEqProofs only [d1,w3,Q0,Q1,Q2,Q3,Q4,Q5,Q6,Q7,Q8,Q9,Qa,Qb,Qc,Qd,Qe,Qf,Qg,Qh,Qi,Qj,Qk,Ql,Qm,Qn,Qo,Qp,Qq,Qr,Qs,Qt,Qu,Qv,Qw,Qx,Qy,Qz,QA,QB,QC,QD,QE,QF,QG,QH,QI,QJ,QK,QL,QM,QN,QO,QP,QQ,QR,QS,QT,QU,QV,QW,QX,QY,QZ,X0,X1,X2,X3,X4,X5,X6,X7,X8,X9,Xa,Xb,Xc,Xd,Xe,Xf,Xg,Xh,Xi,Xj,Xk,Xl,Xm,Xn,Xo,Xp,Xq,Xr,Xs,Xt,Xu,Xv,Xw,Xx,Xy,Xz,XA,XB,reduceIte,reduceCtorEq,XC,XD,XE,XF,XG,XH,XI,XJ,XK,XL,XM,XN,XO,XP,XQ,XR,XS,XT,XU,XV,XW,XX,XY,XZ,Y0,Try.q3,Try.q4,Try.q29,Try.underlying37,Try.q37,Try.underlying97,Try.q97]
    refine ACalls.mono k ?_
    rintro r s2 rfl
    simp -implicitDefEqProofs only [Q0,Q1,Q2,Q3,Q4,Q5,Q6,Q7,Q8,Q9,Qa,Qb,Qc,Qd,Qe,Qf,Qg,Qh,Qi,Qj,Qk,Ql,Qm,Qn,Qo,Qp,Qq,Qr,Qs,Qt,Qu,Qv,Qw,Qx,Qy,Qz,QA,QB,QC,QD,QE,QF,QG,QH,QI,QJ,QK,QL,QM,QN,QO,QP,QQ,QR,QS,QT,QU,QV,QW,QX,QY,QZ,X0,X1,X2,X3,X4,X5,X6,X7,X8,X9,Xa,Xb,Xc,Xd,Xe,Xf,Xg,Xh,Xi,Xj,Xk,Xl,Xm,Xn,Xo,Xp,Xq,Xr,Xs,Xt,Xu,Xv,Xw,Xx,Xy,Xz,XA,XB,reduceIte,reduceCtorEq,XC,XD,XE,XF,XG,XH,XI,XJ,XK,XL,XM,XN,XO,XP,XQ,XR,XS,XT,XU,XV,XW,XX,XY,XZ,Y0,Try.q3,Try.q4,Try.q29,Try.underlying37,Try.q37,Try.underlying97,Try.q97]
    rw [hss]
    simpa using congrArg (fun l => σ.set id (rowsE l)) hF
  · have d1 : decide ((xs.length : Int) = (ys.length : Int)) = false := decide_eq_false he
    by_cases hg : ys.length < xs.length
    · have d2 : decide ((ys.length : Int) < (xs.length : Int)) = true := decide_eq_true (by omega)
      have w4 : IntKind.i64.wrap ((xs.length : Int) - (ys.length : Int)) = ((xs.drop ys.length).length : Int) := by rw [wrap_i64 (by omega) (by omega), List.length_drop]; omega
      have hsp : xs = xs.take ys.length ++ xs.drop ys.length := (List.take_append_drop _ _).symm
      have l1 : (xs.take ys.length).length = ys.length := by rw [List.length_take]; omega
      have l2 : (xs.drop ys.length).length = xs.length - ys.length := List.length_drop
      generalize xs.take ys.length = P at *
      generalize xs.drop ys.length = Q at *
      have k := c_swap2 Aa P Q ys Ba (L := Aa ++ xs ++ ys ++ Ba) (by rw [hsp]; simp only [List.append_assoc]) (by omega) hl1 hn1 (a := Aa.length) rfl (b := (M : Int)) (by simp only [List.length_append]; omega) (c := ys.length) (by omega) f s id h0'
      simp -implicitDefEqProofs only [d1,d2,w3,Q0,Q1,Q2,Q3,Q4,Q5,Q6,Q7,Q8,Q9,Qa,Qb,Qc,Qd,Qe,Qf,Qg,Qh,Qi,Qj,Qk,Ql,Qm,Qn,Qo,Qp,Qq,Qr,Qs,Qt,Qu,Qv,Qw,Qx,Qy,Qz,QA,QB,QC,QD,QE,QF,QG,QH,QI,QJ,QK,QL,QM,QN,QO,QP,QQ,QR,QS,QT,QU,QV,QW,QX,QY,QZ,X0,X1,X2,X3,X4,X5,X6,X7,X8,X9,Xa,Xb,Xc,Xd,Xe,Xf,Xg,Xh,Xi,Xj,Xk,Xl,Xm,Xn,Xo,Xp,Xq,Xr,Xs,Xt,Xu,Xv,Xw,Xx,Xy,Xz,XA,XB,reduceIte,reduceCtorEq,XC,XD,XE,XF,XG,XH,XI,XJ,XK,XL,XM,XN,XO,XP,XQ,XR,XS,XT,XU,XV,XW,XX,XY,XZ,Y0,Try.q3,Try.q4,Try.q29,Try.underlying37,Try.q37,Try.underlying97,Try.q97]
      refine ACalls.mono k ?_
      rintro r s2 rfl
      simp -implicitDefEqProofs only [w4,Q0,Q1,Q2,Q3,Q4,Q5,Q6,Q7,Q8,Q9,Qa,Qb,Qc,Qd,Qe,Qf,Qg,Qh,Qi,Qj,Qk,Ql,Qm,Qn,Qo,Qp,Qq,Qr,Qs,Qt,Qu,Qv,Qw,Qx,Qy,Qz,QA,QB,QC,QD,QE,QF,QG,QH,QI,QJ,QK,QL,QM,QN,QO,QP,QQ,QR,QS,QT,QU,QV,QW,QX,QY,QZ,X0,X1,X2,X3,X4,X5,X6,X7,X8,X9,Xa,Xb,Xc,Xd,Xe,Xf,Xg,Xh,Xi,Xj,Xk,Xl,Xm,Xn,Xo,Xp,Xq,Xr,Xs,Xt,Xu,Xv,Xw,Xx,Xy,Xz,XA,XB,reduceIte,reduceCtorEq,XC,XD,XE,XF,XG,XH,XI,XJ,XK,XL,XM,XN,XO,XP,XQ,XR,XS,XT,XU,XV,XW,XX,XY,XZ,Y0,Try.q3,Try.q4,Try.q29,Try.underlying37,Try.q37,Try.underlying97,Try.q97]
      refine ⟨(Aa ++ ys, Q, P, Ba), ?_, ⟨?_, ?_, ?_, ?_, ?_⟩, ?_⟩
      · simp only; simp; omega
      · simp only [List.append_assoc, hss]
      · rw [← hF, hsp]; simp only [List.append_assoc]
      · simp only [List.length_append]; omega
      · intro h; simp only at h; rw [h] at l2; simp at l2; omega
      · intro h; simp only at h; rw [h] at l1; simp at l1; omega
      · simp only; omega
    · have d2 : decide ((ys.length : Int) < (xs.length : Int)) = false := decide_eq_false (by omega)
      have w4 : IntKind.i64.wrap ((ys.length : Int) - (xs.length : Int)) = ((ys.take (ys.length - xs.length)).length : Int) := by rw [wrap_i64 (by omega) (by omega), List.length_take]; omega
      have w5 : IntKind.i64.wrap ((M : Int) + (ys.length : Int)) = ((M + ys.length : Nat) : Int) := by rw [wrap_i64 (by omega) (by omega)]; rfl
      have w6 : IntKind.i64.wrap (((M + ys.length : Nat) : Int) - (xs.length : Int)) = ((M + (ys.length - xs.length) : Nat) : Int) := by rw [wrap_i64 (by omega) (by omega)]; omega
      have hsp : ys = ys.take (ys.length - xs.length) ++ ys.drop (ys.length - xs.length) := (List.take_append_drop _ _).symm
      have l1 : (ys.take (ys.length - xs.length)).length = ys.length - xs.length := by rw [List.length_take]; omega
      have l2 : (ys.drop (ys.length - xs.length)).length = xs.length := by rw [List.length_drop]; omega
      generalize ys.take (ys.length - xs.length) = P at *
      generalize ys.drop (ys.length - xs.length) = Q at *
      have k := c_swap2 Aa xs P Q Ba (L := Aa ++ xs ++ ys ++ Ba) (by rw [hsp]; simp only [List.append_assoc]) (by omega) hl1 hn1 (a := Aa.length) rfl (b := ((M + (ys.length - xs.length) : Nat) : Int)) (by simp only [List.length_append]; omega) (c := xs.length) (by omega) f s id h0'
      simp -implicitDefEqProofs only [d1,d2,w3,w5,w6,Q0,Q1,Q2,Q3,Q4,Q5,Q6,Q7,Q8,Q9,Qa,Qb,Qc,Qd,Qe,Qf,Qg,Qh,Qi,Qj,Qk,Ql,Qm,Qn,Qo,Qp,Qq,Qr,Qs,Qt,Qu,Qv,Qw,Qx,Qy,Qz,QA,QB,QC,QD,QE,QF,QG,QH,QI,QJ,QK,QL,QM,QN,QO,QP,QQ,QR,QS,QT,QU,QV,QW,QX,QY,QZ,X0,X1,X2,X3,X4,X5,X6,X7,X8,X9,Xa,Xb,Xc,Xd,Xe,Xf,Xg,Xh,Xi,Xj,Xk,Xl,Xm,Xn,Xo,Xp,Xq,Xr,Xs,Xt,Xu,Xv,Xw,Xx,Xy,Xz,XA,XB,reduceIte,reduceCtorEq,XC,XD,XE,XF,XG,XH,XI,XJ,XK,XL,XM,XN,XO,XP,XQ,XR,XS,XT,XU,XV,XW,XX,XY,XZ,Y0,Try.q3,Try.q4,Try.q29,Try.underlying37,Try.q37,Try.underlying97,Try.q97]
      refine ACalls.mono k ?_
      rintro r s2 rfl
      simp -implicitDefEqProofs only [w4,Q0,Q1,Q2,Q3,Q4,Q5,Q6,Q7,Q8,Q9,Qa,Qb,Qc,Qd,Qe,Qf,Qg,Qh,Qi,Qj,Qk,Ql,Qm,Qn,Qo,Qp,Qq,Qr,Qs,Qt,Qu,Qv,Qw,Qx,Qy,Qz,QA,QB,QC,QD,QE,QF,QG,QH,QI,QJ,QK,QL,QM,QN,QO,QP,QQ,QR,QS,QT,QU,QV,QW,QX,QY,QZ,X0,X1,X2,X3,X4,X5,X6,X7,X8,X9,Xa,Xb,Xc,Xd,Xe,Xf,Xg,Xh,Xi,Xj,Xk,Xl,Xm,Xn,Xo,Xp,Xq,Xr,Xs,Xt,Xu,Xv,Xw,Xx,Xy,Xz,XA,XB,reduceIte,reduceCtorEq,XC,XD,XE,XF,XG,XH,XI,XJ,XK,XL,XM,XN,XO,XP,XQ,XR,XS,XT,XU,XV,XW,XX,XY,XZ,Y0,Try.q3,Try.q4,Try.q29,Try.underlying37,Try.q37,Try.underlying97,Try.q97]
      refine ⟨(Aa, Q, P, xs ++ Ba), ?_, ⟨?_, ?_, ?_, ?_, ?_⟩, ?_⟩
      · simp only; simp; omega
      · simp only [List.append_assoc, hss]
      · rw [← hF, hsp]; simp only [List.append_assoc]
      · simp only; omega
      · intro h; simp only at h; rw [h] at l2; simp at l2; omega
      · intro h; simp only at h; rw [h] at l1; simp at l1; omega
      · simp only; omega

end Go.Proofs
