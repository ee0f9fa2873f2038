/-
  The Reader of package wire: methods, told of by what is about to be read.
-/
import Derived.Test.YteejpckkgepecaaWp
import Derived.Test.YteejpckkgepecaaAbsAll
namespace Go.Proofs
open Go.Pa
open Go.Pa renaming VB0 → Q0, VB1 → Q1, VB2 → Q2, VB3 → Q3, VB4 → Q4, VB5 → Q5, VB6 → Q6, VB7 → Q7, VB8 → Q8, VB9 → Q9, condV_bool → Qa, guardV_bool → Qb, vcS → Qc, evA → Qd, evBin → Qe, nilA → Qf, nilOf → Qg, intOp → Qh, strOp → Qi, evUn → Qj, evConv → Qk, evField → Ql, evFieldAddr → Qm, evIndexAddr → Qn, evIndex → Qo, evIndexA → Qp, bnd → Qq, evSlice → Qr, evLen → Qs, evPick → Qt, evExtract → Qu, evNilCheck → Qv, evMin → Qw, evMax → Qx, evLoadI → Qy, partsOne → QA, intsOf → QB, rowsAV → QC, evBuildSlice → QD, evBuild → QE, fillA → QF, splice → QG, evBuiltin → QH, guardD_bool → QI, dOp → QJ, cl → QK, vcLoad → QL, vcStore → QM, vcMake → QN, convA → QO, evIndexArr → QP, retA → QQ, ressA → QR, resA → QS, envOf → QT, condR_bool → QX, asgEnv → QY, parEnv → QZ, dstAt → XI, vcLook → XT, vcPut → XU, vcEnt → XV, vcESt → XW, vcMLen → XX, vcDel → XY, vcClear → XZ, vcLookD → Y0
open Go.Pa.AV renaming cell → Qz
open Go.Pa.Env renaming put → QU
open List renaming set_cons_zero → QV, set_cons_succ → QW, foldl_cons → X0, foldl_nil → X1, map_cons → X2, map_nil → X3, toList_toArray → X4, getElem?_cons_zero → X5, getElem?_cons_succ → X6, nil_append → Xa, append_nil → Xb, cons_append → Xc, singleton_append → Xd, length_cons → Xe, length_nil → Xf, all_cons → Xg, all_nil → Xh, take_succ_cons → Xi, take_zero → Xj, take_nil → Xk, drop_zero → Xl, drop_succ_cons → Xm, drop_nil → Xn, contains_nil → Xo, contains_cons → Xp
open Option renaming bind_some → X7, map_some → X8, map_none → X9
open Bool renaming or_false → Xq, false_or → Xr, or_true → Xs, true_or → Xt, false_eq_true → XC, not_true → XD, not_false → XE, and_true → XF, true_and → XG, and_self → XH
open Nat renaming reduceEqDiff → Xu, reduceAdd → Xv, reduceSub → Xw, reduceMul → Xx, reduceLT → Xy, reduceLeDiff → Xz, reduceBNe → XA, reduceBEq → XB, zero_add → XL, add_zero → XM
open UInt8 renaming reduceToNat → XJ
open Int renaming cast_ofNat_Int → XK, reduceToNat → XN, reduceLT → XO, reduceLE → XP, reduceNeg → XQ, reduceEq → XR, reduceNe → XS
set_option linter.unusedSimpArgs false
set_option maxRecDepth 20000
set_option maxHeartbeats 2000000

def RdO : St → AObj → Prop
  | .ok l, o => o = rdO l 0 ∧ l.length < 2000000 ∧ U8s l
  | .er e, o => e ≠ 0 ∧ ∃ l : List Int, l.length < 2000000 ∧ o = rdO l e

/-- A call on a Reader: its answer, what it leaves. -/
def RdC (s : Store) (id : Nat) (v : AV) (st : St) (r : AV) (s' : Store) : Prop := r = v ∧ ∃ o, s' = s.set id o ∧ RdO st o

def failT (e : Int) : St → St
  | .ok _ => .er e
  | .er e' => .er e'

theorem RdO.form {st : St} {o : AObj} (h : RdO st o) : ∃ l e, o = rdO l e ∧ l.length < 2000000 := by
  cases st with
  | ok l => exact ⟨l, 0, h.1, h.2.1⟩
  | er e => obtain ⟨_, l, h1, h2⟩ := h; exact ⟨l, e, h2, h1⟩

theorem RdO.lt {st : St} {o : AObj} (h : RdO st o) (n : Nat) : o.lt n := by
  obtain ⟨l, e, rfl, _⟩ := h.form
  intro cs hc
  cases hc
  simp [ltL, AV.lt]

theorem rd_fail' (e' : Int) (he' : e' ≠ 0) (st : St) {s : Store} {id : Nat} {o : AObj} (h : s[id]? = some o) (ho : RdO st o) :
    ACalls Try.prog 76 [.ptr id 0, .int .i64 e'] s (RdC s id (.tup []) (failT e' st)) := by
  cases st with
  | ok l =>
    obtain ⟨rfl, h1, h2⟩ := ho
    exact (rd_fail 0 e' l h).mono fun r s' ⟨h3, h4⟩ => ⟨h3, _, h4, by rw [if_pos rfl]; exact ⟨he', l, h1, rfl⟩⟩
  | er e =>
    obtain ⟨h0, l, h1, rfl⟩ := ho
    exact (rd_fail e e' l h).mono fun r s' ⟨h3, h4⟩ => ⟨h3, _, h4, by rw [if_neg h0]; exact ⟨h0, l, h1, rfl⟩⟩

theorem rd_next' (st : St) {s : Store} {id : Nat} {o : AObj} (h : s[id]? = some o) (ho : RdO st o) :
    ACalls Try.prog 75 [.ptr id 0] s (RdC s id (.int .u8 (nextT st).1) (nextT st).2) := by
  cases st with
  | ok l =>
    obtain ⟨rfl, h1, h2⟩ := ho
    refine (rd_next l 0 h1 h).mono fun r s' ⟨h3, h4⟩ => ?_
    cases l with
    | nil => exact ⟨h3, _, h4, by show (3 : Int) ≠ 0; omega, [], by simp, rfl⟩
    | cons c l => exact ⟨h3, _, h4, rfl, by simp at h1; omega, fun x hx => h2 x (by simp [hx])⟩
  | er e =>
    obtain ⟨h0, l, h1, rfl⟩ := ho
    refine (rd_next l e h1 h).mono fun r s' ⟨h3, h4⟩ => ?_
    have hn : nextR l e = (0, l, e) := by unfold nextR; rw [if_neg h0]
    rw [hn] at h3 h4
    exact ⟨h3, _, h4, h0, l, h1, rfl⟩

theorem addR_eq {n : Nat} {c : Int} {i : Nat} (hi : i ≤ 9) (hn : n < 128 ^ i) (hc : 0 ≤ c ∧ c < 256) (h9 : i = 9 → c ≤ 1) : addR n c i = ((n + (if c < 128 then c else c - 128).toNat * 128 ^ i : Nat) : Int) := by
  have e1 : iandnot .u8 c 128 = if c < 128 then c else c - 128 := by
    have key : ∀ m : Fin 256, iandnot .u8 ((m.val : Nat) : Int) 128 = if ((m.val : Nat) : Int) < 128 then ((m.val : Nat) : Int) else ((m.val : Nat) : Int) - 128 := by decide +kernel
    have := key ⟨c.toNat, by omega⟩
    simp only [Int.toNat_of_nonneg hc.1] at this
    exact this
  unfold addR
  rw [e1]
  generalize hd : (if c < 128 then c else c - 128) = d
  have hd0 : 0 ≤ d ∧ d < 128 := by split at hd <;> omega
  have hd9 : i = 9 → d ≤ 1 := fun e => by have := h9 e; split at hd <;> omega
  have e2 : IntKind.u64.wrap d = d := wrap_u64 hd0.1 (by omega)
  rw [e2]
  have e3 : min (7 * (i : Int)).toNat IntKind.u64.bits = 7 * i := by
    show min (7 * (i : Int)).toNat 64 = 7 * i
    omega
  have e4 : ishl .u64 d (7 * (i : Int)) = IntKind.u64.wrap (d * 2 ^ (7 * i)) := by unfold ishl; rw [e3]
  have hp : (2 : Nat) ^ (7 * i) = 128 ^ i := by rw [Nat.pow_mul]
  have hp9 := pow128 hi
  obtain ⟨m, rfl⟩ : ∃ m : Nat, d = (m : Int) := ⟨d.toNat, by omega⟩
  have e5 : ((m : Int) * 2 ^ (7 * i)) = ((m * 128 ^ i : Nat) : Int) := by rw [← hp]; simp
  have hlt : n + m * 128 ^ i < 18446744073709551616 := by
    by_cases h : i = 9
    · have := hd9 h
      have hm : m ≤ 1 := by omega
      have := Nat.mul_le_mul_right (128 ^ i) hm
      subst h
      omega
    · have h4 : (128 : Nat) ^ (i + 1) ≤ 128 ^ 9 := Nat.pow_le_pow_right (by omega) (by omega)
      have hm : m ≤ 127 := by omega
      have h5 := Nat.mul_le_mul_right (128 ^ i) hm
      have h6 : (128 : Nat) ^ (i + 1) = 128 * 128 ^ i := by rw [Nat.pow_succ, Nat.mul_comm]
      omega
  rw [e4, e5, wrap_u64 (by omega) (by omega), ← e5]
  rw [ior_add (by omega) (by rw [show ((2 : Int) ^ (7 * i)) = ((2 ^ (7 * i) : Nat) : Int) by simp, hp]; omega) (by omega) (by rw [e5]; omega), e5]
  simp only [Int.toNat_natCast]
  omega

theorem uintR_M : ∀ (f i : Nat) (n : Nat) (l : List Int), f + i = 10 → n < 128 ^ i → U8s l →
    match uintM f i n l with
    | (v, .ok l') => uintR f i n l = ((v : Int), l', 0) ∧ U8s l' ∧ l'.length ≤ l.length
    | (v, .er e) => v = 0 ∧ e ≠ 0 ∧ ∃ l', uintR f i n l = (0, l', e) ∧ l'.length ≤ l.length
  | 0, i, n, l, hf, hn, hu => ⟨rfl, by omega, l, rfl, by omega⟩
  | f + 1, i, n, [], hf, hn, hu => ⟨rfl, by omega, [], rfl, by simp⟩
  | f + 1, i, n, c :: l, hf, hn, hu => by
    have hc := hu c (by simp)
    have hu' : U8s l := fun x hx => hu x (by simp [hx])
    unfold uintM uintR
    by_cases h1 : (i = 9 ∧ 1 < c) ∨ (0 < i ∧ c = 0)
    · rw [if_pos h1]
      exact ⟨rfl, by omega, l, by simp only [if_pos h1], by simp⟩
    · rw [if_neg h1]
      have ha := addR_eq (n := n) (c := c) (i := i) (by omega) hn hc (by omega)
      by_cases h2 : c < 128
      · rw [if_pos h2]
        refine ⟨?_, hu', by simp⟩
        simp only [if_neg h1, if_pos h2, ha]
      · rw [if_neg h2]
        simp only [if_neg h1, if_neg h2, ha]
        have hlt : n + (c - 128).toNat * 128 ^ i < 128 ^ (i + 1) := by
          have hm : (c - 128).toNat ≤ 127 := by omega
          have h5 := Nat.mul_le_mul_right (128 ^ i) hm
          rw [Nat.pow_succ]
          omega
        have := uintR_M f (i + 1) _ l (by omega) hlt hu'
        cases hq : uintM f (i + 1) (n + (c - 128).toNat * 128 ^ i) l with
        | mk v st =>
        rw [hq] at this
        cases st with
        | ok l' => exact ⟨this.1, this.2.1, by have := this.2.2; simp; omega⟩
        | er e =>
          obtain ⟨g1, g2, l', g3, g4⟩ := this
          exact ⟨g1, g2, l', g3, by simp; omega⟩

theorem rd_uint' (st : St) {s : Store} {id : Nat} {o : AObj} (h : s[id]? = some o) (ho : RdO st o) :
    ACalls Try.prog 63 [.ptr id 0] s (RdC s id (.int .u64 (uintT st).1) (uintT st).2) := by
  cases st with
  | ok l =>
    obtain ⟨rfl, h1, h2⟩ := ho
    refine (rd_uint l 0 h1 h).mono fun r s' ⟨h3, h4⟩ => ?_
    have := uintR_M 10 0 0 l rfl (by simp) h2
    have he : uintF l 0 = uintR 10 0 0 l := by unfold uintF; rw [if_pos rfl]
    rw [he] at h3 h4
    simp only [uintT]
    cases hq : uintM 10 0 0 l with
    | mk v st =>
    rw [hq] at this
    cases st with
    | ok l' =>
      obtain ⟨g1, g2, g3⟩ := this
      have g1' : uintR 10 0 0 l = ((v : Int), l', 0) := g1
      rw [g1'] at h3 h4
      exact ⟨h3, _, h4, rfl, by omega, g2⟩
    | er e =>
      obtain ⟨g1, g2, l', g3, g4⟩ := this
      have g3' : uintR 10 0 0 l = (0, l', e) := g3
      rw [g3'] at h3 h4
      subst g1
      exact ⟨h3, _, h4, g2, l', by omega, rfl⟩
  | er e =>
    obtain ⟨h0, l, h1, rfl⟩ := ho
    refine (rd_uint l e h1 h).mono fun r s' ⟨h3, h4⟩ => ?_
    have hn : uintF l e = (0, l, e) := by unfold uintF; rw [if_neg h0]
    rw [hn] at h3 h4
    exact ⟨h3, _, h4, h0, l, h1, rfl⟩

theorem ixor_i0 {a : Int} (h : 0 ≤ a ∧ a < 9223372036854775808) : ixor .i64 a 0 = a := by
  show IntKind.i64.wrap (((BitVec.ofInt 64 a ^^^ BitVec.ofInt 64 0).toNat : Nat) : Int) = a
  have : BitVec.ofInt 64 0 = 0#64 := rfl
  rw [this, BitVec.xor_zero, BitVec.toNat_ofInt]
  rw [wrap_i64 (by omega) (by omega)]
  omega

theorem ixor_i1 {a : Int} (h : 0 ≤ a ∧ a < 9223372036854775808) : ixor .i64 a (-1) = -a - 1 := by
  show IntKind.i64.wrap (((BitVec.ofInt 64 a ^^^ BitVec.ofInt 64 (-1)).toNat : Nat) : Int) = -a - 1
  have : BitVec.ofInt 64 (-1) = BitVec.allOnes 64 := by decide +kernel
  rw [this, BitVec.xor_allOnes, BitVec.toNat_not, BitVec.toNat_ofInt]
  simp [IntKind.wrap, IntKind.bits, IntKind.signed]
  omega

theorem iand_one {z : Nat} (h : z < 18446744073709551616) : iand .u64 z 1 = ((z % 2 : Nat) : Int) := by
  show IntKind.u64.wrap (((BitVec.ofInt 64 (z : Int) &&& BitVec.ofInt 64 1).toNat : Nat) : Int) = ((z % 2 : Nat) : Int)
  have : BitVec.ofInt 64 1 = 1#64 := rfl
  rw [this]
  have h2 : (BitVec.ofInt 64 (z : Int)).toNat = z := by
    rw [BitVec.toNat_ofInt]; omega
  have h3 : (BitVec.ofInt 64 (z : Int) &&& 1#64).toNat = z % 2 := by
    rw [BitVec.toNat_and, h2]
    show z &&& 1 = z % 2
    exact Nat.and_one_is_mod z
  rw [h3]
  exact wrap_u64 (by omega) (by omega)

theorem rd_unzig (z : Nat) (hz : z < 18446744073709551616) (σ : Store) : ACalls Try.prog 62 [.int .u64 z] σ (fun r σ' => r = .int .i64 (unzig z) ∧ σ' = σ) := by
  have e1 : ishr .u64 (z : Int) 1 = ((z / 2 : Nat) : Int) := by
    show (z : Int).fdiv 2 = _
    rw [Int.fdiv_eq_ediv_of_nonneg _ (by omega)]; omega
  have e2 : IntKind.i64.wrap ((z / 2 : Nat) : Int) = ((z / 2 : Nat) : Int) := wrap_i64 (by omega) (by omega)
  have e3 : iand .u64 (z : Int) 1 = ((z % 2 : Nat) : Int) := iand_one hz
  have e4 : IntKind.i64.wrap ((z % 2 : Nat) : Int) = ((z % 2 : Nat) : Int) := wrap_i64 (by omega) (by omega)
  have e5 : IntKind.i64.wrap (0 - ((z % 2 : Nat) : Int)) = 0 - ((z % 2 : Nat) : Int) := wrap_i64 (by omega) (by omega)
  refine acalls_of_vc (fn := Try.f62) Try.call62 Try.func62 rfl (by kernel_rfl) (by simp [Try.ntmps62]) ?_; simp -implicitDefEqProofs only [e1,e2,e3,e4,e5,Try.ntmps62,Try.results62,Q0,Q1,Q2,Q3,Q4,Q5,Q6,Q7,Q8,Q9,Qa,Qb,Qc,Qd,Qe,Qf,Qg,Qh,Qi,Qj,Qk,Ql,Qm,Qn,Qo,Qp,Qq,Qr,Qs,Qt,Qu,Qv,Qw,Qx,Qy,Qz,QA,QB,QC,QD,QE,QF,QG,QH,QI,QJ,QK,QL,QM,QN,QO,QP,QQ,QR,QS,QT,QU,QV,QW,QX,QY,QZ,X0,X1,X2,X3,X4,X5,X6,X7,X8,X9,Xa,Xb,Xc,Xd,Xe,Xf,Xg,Xh,Xi,Xj,Xk,Xl,Xm,Xn,Xo,Xp,Xq,Xr,Xs,Xt,Xu,Xv,Xw,Xx,Xy,Xz,XA,XB,reduceIte,reduceCtorEq,XC,XD,XE,XF,XG,XH,XI,XJ,XK,XL,XM,XN,XO,XP,XQ,XR,XS,XT,XU,XV,XW,XX,XY,XZ,Y0,Try.q3,Try.q87,Try.q96]
  unfold unzig
  by_cases h : z % 2 = 1
  · rw [if_pos h, h, show (0 : Int) - ((1 : Nat) : Int) = -1 by omega, ixor_i1 (by omega)]
  · have h0 : z % 2 = 0 := by omega
    rw [if_neg h, h0, show (0 : Int) - ((0 : Nat) : Int) = 0 by omega, ixor_i0 (by omega)]

theorem uintT_lt {st : St} {o : AObj} (ho : RdO st o) : (uintT st).1 < 18446744073709551616 := by
  cases st with
  | er e => simp [uintT]
  | ok l =>
    cases hq : uintT (.ok l) with
    | mk v st =>
    cases st with
    | ok r => exact (uintT_back ho.2.2 hq).2
    | er e => rw [(uintM_er 10 0 0 l v e hq).1]; omega

theorem rd_int' (st : St) {s : Store} {id : Nat} {o : AObj} (h : s[id]? = some o) (ho : RdO st o) :
    ACalls Try.prog 36 [.ptr id 0] s (RdC s id (.int .i64 (intT st).1) (intT st).2) := by
  refine acalls_of_vc (fn := Try.f36) Try.call36 Try.func36 rfl (by kernel_rfl) (by simp [Try.ntmps36]) ?_; simp -implicitDefEqProofs only [Try.ntmps36,Try.results36,Q0,Q1,Q2,Q3,Q4,Q5,Q6,Q7,Q8,Q9,Qa,Qb,Qc,Qd,Qe,Qf,Qg,Qh,Qi,Qj,Qk,Ql,Qm,Qn,Qo,Qp,Qq,Qr,Qs,Qt,Qu,Qv,Qw,Qx,Qy,Qz,QA,QB,QC,QD,QE,QF,QG,QH,QI,QJ,QK,QL,QM,QN,QO,QP,QQ,QR,QS,QT,QU,QV,QW,QX,QY,QZ,X0,X1,X2,X3,X4,X5,X6,X7,X8,X9,Xa,Xb,Xc,Xd,Xe,Xf,Xg,Xh,Xi,Xj,Xk,Xl,Xm,Xn,Xo,Xp,Xq,Xr,Xs,Xt,Xu,Xv,Xw,Xx,Xy,Xz,XA,XB,reduceIte,reduceCtorEq,XC,XD,XE,XF,XG,XH,XI,XJ,XK,XL,XM,XN,XO,XP,XQ,XR,XS,XT,XU,XV,XW,XX,XY,XZ,Y0,Try.q3,Try.q55,Try.q87]
  refine ACalls.mono (rd_uint' st h ho) ?_
  rintro _ _ ⟨rfl, o1, rfl, ho1⟩
  simp -implicitDefEqProofs only [Q0,Q1,Q2,Q3,Q4,Q5,Q6,Q7,Q8,Q9,Qa,Qb,Qc,Qd,Qe,Qf,Qg,Qh,Qi,Qj,Qk,Ql,Qm,Qn,Qo,Qp,Qq,Qr,Qs,Qt,Qu,Qv,Qw,Qx,Qy,Qz,QA,QB,QC,QD,QE,QF,QG,QH,QI,QJ,QK,QL,QM,QN,QO,QP,QQ,QR,QS,QT,QU,QV,QW,QX,QY,QZ,X0,X1,X2,X3,X4,X5,X6,X7,X8,X9,Xa,Xb,Xc,Xd,Xe,Xf,Xg,Xh,Xi,Xj,Xk,Xl,Xm,Xn,Xo,Xp,Xq,Xr,Xs,Xt,Xu,Xv,Xw,Xx,Xy,Xz,XA,XB,reduceIte,reduceCtorEq,XC,XD,XE,XF,XG,XH,XI,XJ,XK,XL,XM,XN,XO,XP,XQ,XR,XS,XT,XU,XV,XW,XX,XY,XZ,Y0,Try.q3,Try.q55,Try.q87]
  refine acalls_then (rd_unzig _ (uintT_lt ho) _) ?_
  simp -implicitDefEqProofs only [Q0,Q1,Q2,Q3,Q4,Q5,Q6,Q7,Q8,Q9,Qa,Qb,Qc,Qd,Qe,Qf,Qg,Qh,Qi,Qj,Qk,Ql,Qm,Qn,Qo,Qp,Qq,Qr,Qs,Qt,Qu,Qv,Qw,Qx,Qy,Qz,QA,QB,QC,QD,QE,QF,QG,QH,QI,QJ,QK,QL,QM,QN,QO,QP,QQ,QR,QS,QT,QU,QV,QW,QX,QY,QZ,X0,X1,X2,X3,X4,X5,X6,X7,X8,X9,Xa,Xb,Xc,Xd,Xe,Xf,Xg,Xh,Xi,Xj,Xk,Xl,Xm,Xn,Xo,Xp,Xq,Xr,Xs,Xt,Xu,Xv,Xw,Xx,Xy,Xz,XA,XB,reduceIte,reduceCtorEq,XC,XD,XE,XF,XG,XH,XI,XJ,XK,XL,XM,XN,XO,XP,XQ,XR,XS,XT,XU,XV,XW,XX,XY,XZ,Y0,Try.q3,Try.q55,Try.q87]
  exact ⟨rfl, o1, rfl, ho1⟩

theorem rd_end' (st : St) {s : Store} {id : Nat} {o : AObj} (h : s[id]? = some o) (ho : RdO st o) :
    ACalls Try.prog 57 [.ptr id 0] s (fun r s' => r = .int .i64 (endT st) ∧ s' = s) := by
  cases st with
  | er e =>
    obtain ⟨h0, l, h1, rfl⟩ := ho
    have d1 : decide (e = 0) = false := decide_eq_false h0
    simp only [rdO] at h
    refine acalls_of_vc (fn := Try.f57) Try.call57 Try.func57 rfl (by kernel_rfl) (by simp [Try.ntmps57]) ?_; simp -implicitDefEqProofs only [Xe,Try.ntmps57,Try.results57,Q0,Q1,Q2,Q3,Q4,Q5,Q6,Q7,Q8,Q9,Qa,Qb,Qc,Qd,Qe,Qf,Qg,Qh,Qi,Qj,Qk,Ql,Qm,Qn,Qo,Qp,Qq,Qr,Qs,Qt,Qu,Qv,Qw,Qx,Qy,Qz,QA,QB,QC,QD,QE,QF,QG,QH,QI,QJ,QK,QL,QM,QN,QO,QP,QQ,QR,QS,QT,QU,QV,QW,QX,QY,QZ,X0,X1,X2,X3,X4,X5,X6,X7,X8,X9,Xa,Xb,Xc,Xd,Xe,Xf,Xg,Xh,Xi,Xj,Xk,Xl,Xm,Xn,Xo,Xp,Xq,Xr,Xs,Xt,Xu,Xv,Xw,Xx,Xy,Xz,XA,XB,reduceIte,reduceCtorEq,XC,XD,XE,XF,XG,XH,XI,XJ,XK,XL,XM,XN,XO,XP,XQ,XR,XS,XT,XU,XV,XW,XX,XY,XZ,Y0,Try.q3,Try.q4,Try.q5,Try.q26,Try.q52,Try.q55,Try.underlying83,Try.q83]
    simp -implicitDefEqProofs only [Xe,h,d1,Q0,Q1,Q2,Q3,Q4,Q5,Q6,Q7,Q8,Q9,Qa,Qb,Qc,Qd,Qe,Qf,Qg,Qh,Qi,Qj,Qk,Ql,Qm,Qn,Qo,Qp,Qq,Qr,Qs,Qt,Qu,Qv,Qw,Qx,Qy,Qz,QA,QB,QC,QD,QE,QF,QG,QH,QI,QJ,QK,QL,QM,QN,QO,QP,QQ,QR,QS,QT,QU,QV,QW,QX,QY,QZ,X0,X1,X2,X3,X4,X5,X6,X7,X8,X9,Xa,Xb,Xc,Xd,Xe,Xf,Xg,Xh,Xi,Xj,Xk,Xl,Xm,Xn,Xo,Xp,Xq,Xr,Xs,Xt,Xu,Xv,Xw,Xx,Xy,Xz,XA,XB,reduceIte,reduceCtorEq,XC,XD,XE,XF,XG,XH,XI,XJ,XK,XL,XM,XN,XO,XP,XQ,XR,XS,XT,XU,XV,XW,XX,XY,XZ,Y0,Try.q3,Try.q4,Try.q5,Try.q26,Try.q52,Try.q55,Try.underlying83,Try.q83]
    rfl
  | ok l =>
    obtain ⟨rfl, h1, h2⟩ := ho
    simp only [rdO] at h
    have d1 : decide ((0 : Int) = 0) = true := rfl
    cases l with
    | nil =>
      refine acalls_of_vc (fn := Try.f57) Try.call57 Try.func57 rfl (by kernel_rfl) (by simp [Try.ntmps57]) ?_; simp -implicitDefEqProofs only [Xe,Try.ntmps57,Try.results57,Q0,Q1,Q2,Q3,Q4,Q5,Q6,Q7,Q8,Q9,Qa,Qb,Qc,Qd,Qe,Qf,Qg,Qh,Qi,Qj,Qk,Ql,Qm,Qn,Qo,Qp,Qq,Qr,Qs,Qt,Qu,Qv,Qw,Qx,Qy,Qz,QA,QB,QC,QD,QE,QF,QG,QH,QI,QJ,QK,QL,QM,QN,QO,QP,QQ,QR,QS,QT,QU,QV,QW,QX,QY,QZ,X0,X1,X2,X3,X4,X5,X6,X7,X8,X9,Xa,Xb,Xc,Xd,Xe,Xf,Xg,Xh,Xi,Xj,Xk,Xl,Xm,Xn,Xo,Xp,Xq,Xr,Xs,Xt,Xu,Xv,Xw,Xx,Xy,Xz,XA,XB,reduceIte,reduceCtorEq,XC,XD,XE,XF,XG,XH,XI,XJ,XK,XL,XM,XN,XO,XP,XQ,XR,XS,XT,XU,XV,XW,XX,XY,XZ,Y0,Try.q3,Try.q4,Try.q5,Try.q26,Try.q52,Try.q55,Try.underlying83,Try.q83]
      simp -implicitDefEqProofs only [Xe,h,d1,Q0,Q1,Q2,Q3,Q4,Q5,Q6,Q7,Q8,Q9,Qa,Qb,Qc,Qd,Qe,Qf,Qg,Qh,Qi,Qj,Qk,Ql,Qm,Qn,Qo,Qp,Qq,Qr,Qs,Qt,Qu,Qv,Qw,Qx,Qy,Qz,QA,QB,QC,QD,QE,QF,QG,QH,QI,QJ,QK,QL,QM,QN,QO,QP,QQ,QR,QS,QT,QU,QV,QW,QX,QY,QZ,X0,X1,X2,X3,X4,X5,X6,X7,X8,X9,Xa,Xb,Xc,Xd,Xe,Xf,Xg,Xh,Xi,Xj,Xk,Xl,Xm,Xn,Xo,Xp,Xq,Xr,Xs,Xt,Xu,Xv,Xw,Xx,Xy,Xz,XA,XB,reduceIte,reduceCtorEq,XC,XD,XE,XF,XG,XH,XI,XJ,XK,XL,XM,XN,XO,XP,XQ,XR,XS,XT,XU,XV,XW,XX,XY,XZ,Y0,Try.q3,Try.q4,Try.q5,Try.q26,Try.q52,Try.q55,Try.underlying83,Try.q83]
      rfl
    | cons c l =>
      have d2 : decide ((0 : Int) < ((l.length + 1 : Nat) : Int)) = true := decide_eq_true (by omega)
      refine acalls_of_vc (fn := Try.f57) Try.call57 Try.func57 rfl (by kernel_rfl) (by simp [Try.ntmps57]) ?_; simp -implicitDefEqProofs only [Xe,Try.ntmps57,Try.results57,Q0,Q1,Q2,Q3,Q4,Q5,Q6,Q7,Q8,Q9,Qa,Qb,Qc,Qd,Qe,Qf,Qg,Qh,Qi,Qj,Qk,Ql,Qm,Qn,Qo,Qp,Qq,Qr,Qs,Qt,Qu,Qv,Qw,Qx,Qy,Qz,QA,QB,QC,QD,QE,QF,QG,QH,QI,QJ,QK,QL,QM,QN,QO,QP,QQ,QR,QS,QT,QU,QV,QW,QX,QY,QZ,X0,X1,X2,X3,X4,X5,X6,X7,X8,X9,Xa,Xb,Xc,Xd,Xe,Xf,Xg,Xh,Xi,Xj,Xk,Xl,Xm,Xn,Xo,Xp,Xq,Xr,Xs,Xt,Xu,Xv,Xw,Xx,Xy,Xz,XA,XB,reduceIte,reduceCtorEq,XC,XD,XE,XF,XG,XH,XI,XJ,XK,XL,XM,XN,XO,XP,XQ,XR,XS,XT,XU,XV,XW,XX,XY,XZ,Y0,Try.q3,Try.q4,Try.q5,Try.q26,Try.q52,Try.q55,Try.underlying83,Try.q83]
      simp -implicitDefEqProofs only [Xe,h,d1,d2,Q0,Q1,Q2,Q3,Q4,Q5,Q6,Q7,Q8,Q9,Qa,Qb,Qc,Qd,Qe,Qf,Qg,Qh,Qi,Qj,Qk,Ql,Qm,Qn,Qo,Qp,Qq,Qr,Qs,Qt,Qu,Qv,Qw,Qx,Qy,Qz,QA,QB,QC,QD,QE,QF,QG,QH,QI,QJ,QK,QL,QM,QN,QO,QP,QQ,QR,QS,QT,QU,QV,QW,QX,QY,QZ,X0,X1,X2,X3,X4,X5,X6,X7,X8,X9,Xa,Xb,Xc,Xd,Xe,Xf,Xg,Xh,Xi,Xj,Xk,Xl,Xm,Xn,Xo,Xp,Xq,Xr,Xs,Xt,Xu,Xv,Xw,Xx,Xy,Xz,XA,XB,reduceIte,reduceCtorEq,XC,XD,XE,XF,XG,XH,XI,XJ,XK,XL,XM,XN,XO,XP,XQ,XR,XS,XT,XU,XV,XW,XX,XY,XZ,Y0,Try.q3,Try.q4,Try.q5,Try.q26,Try.q52,Try.q55,Try.underlying83,Try.q83]
      rfl

end Go.Proofs
