/-
  The Reader of package wire: methods, told of by what is about to be read.
-/
import Derived.Test.YtnkealmacacipaaWp
import Derived.Test.YtnkealmacacipaaAbsAll
namespace Go.Proofs
open Go.Pa
open Go.Pa renaming vc_seq → Q0, vc_block → Q1, vc_exit → Q2, vc_ret → Q3, vc_skip → Q4, vc_region → Q5, vc_draw → Q6, vc_loop → Q7, vc_range → Q8, vc_cond → Q9, condV_true → Qa, condV_false → Qb, condV_bool → Qc, seqK_normal → Qd, seqK_ret → Qe, seqK_exit → Qf, blkK_normal → Qg, blkK_ret → Qh, blkK_exit → Qi, loopK_ret → Qj, loopK_exit → Qk, loopK_normal → Ql, vcOps_nil → Qm, vcOps_cons → Qn, vcOps_guardM → Qo, guardM_some → Qp, guardV_und → Qq, guardV_same → Qr, guardV_tf → Qs, guardV_ft → Qt, guardV_bool → Qu, vcOp_out → Qv, outV_val → Qw, outV_need → Qx, outV_no → Qy, opK_run → Qz, opK_none → QA, vcS → QB, evA → QC, evBin → QD, nilA → QE, nilOf → QF, intOp → QG, strOp → QH, evUn → QI, evConv → QJ, evField → QK, evFieldAddr → QL, evIndexAddr → QM, evIndex → QN, bnd → QO, evSlice → QP, evLen → QQ, evPick → QR, evExtract → QS, evNilCheck → QT, evMin → QU, evMax → QV, evLoadI → QW, cO_int → QX, cO_bool → QY, cO_str → QZ, cO_nils → X0, cO_emp → X1, cO_ints → X2, cO_rows → X3, cO_mvec → X4, cO_ptr → X5, cO_eptr → X6, cO_iptr → X7, cO_nilp → X8, cO_fn → X9, cO_nilf → Xa, cO_mp → Xb, cO_nilm → Xc, cO_glob → Xd, cO_agg → Xe, partsOne → Xg, intsOf → Xh, rowsAV → Xi, evBuildSlice → Xj, evBuild → Xk, fillA → Xl, splice → Xm, evBuiltin → Xn, vcE_nil → Xo, vcE_cons → Xp, vcE_guardM → Xq, guardME_some → Xr, guardD_und → Xs, guardD_same → Xt, guardD_tf → Xu, guardD_ft → Xv, guardD_bool → Xw, dK_run → Xx, dK_none → Xy, dOp_call → Xz, callA_fn → XA, dOp → XB, outA_val → XC, outA_need → XD, cl → XE, vcLoad → XF, vcStore → XG, vcMake → XH, evO_tmp → XI, evO_int → XJ, evO_bool → XK, evO_nils → XL, evO_nilp → XM, evO_nilf → XN, evO_nilm → XO, evO_str → XP, evO_func → XQ, evO_glob → XR, convA → XS, evIndexArr → XT, lookA_cons → XU, get_cons → XV, sub_cons → XW, sub_nil → XX, retK_ret → XY, retK_normal → XZ, retA → Y0, ressA → Y1, resA → Y2, envOf → Y3, vcR_skip → Y7, vcR_seq → Y8, vcR_block → Y9, vcR_exit → Ya, vcR_ret → Yb, vcR_region → Yc, vcR_draw → Yd, vcR_cond → Ye, condR_true → Yf, condR_false → Yg, condR_bool → Yh, seqR_normal → Yi, seqR_ret → Yj, seqR_exit → Yk, asgEnv → Yl, parEnv → Ym, dstAt → Z5, sto_assoc → Z6, sto_len → Z7, sto_at → Z8, sto_at0 → Z9, sto_set → Za, sto_set0 → Zb
open Go.Pa.AV renaming cell → Xf
open Go.Pa.Env renaming put → Y4
open List renaming set_cons_zero → Y5, set_cons_succ → Y6, foldl_cons → Yn, foldl_nil → Yo, map_cons → Yp, map_nil → Yq, toList_toArray → Yr, getElem?_cons_zero → Ys, getElem?_cons_succ → Yt, nil_append → Yx, append_nil → Yy, cons_append → Yz, singleton_append → YA, length_cons → YB, length_nil → YC, all_cons → YD, all_nil → YE, take_succ_cons → YF, take_zero → YG, take_nil → YH, drop_zero → YI, drop_succ_cons → YJ, drop_nil → YK, contains_nil → YL, contains_cons → YM
open Option renaming bind_some → Yu, map_some → Yv, map_none → Yw
open Bool renaming or_false → YN, false_or → YO, or_true → YP, true_or → YQ, false_eq_true → YZ, not_true → Z0, not_false → Z1, and_true → Z2, true_and → Z3, and_self → Z4
open Nat renaming reduceEqDiff → YR, reduceAdd → YS, reduceSub → YT, reduceMul → YU, reduceLT → YV, reduceLeDiff → YW, reduceBNe → YX, reduceBEq → YY, zero_add → Ze, add_zero → Zf
open UInt8 renaming reduceToNat → Zc
open Int renaming cast_ofNat_Int → Zd, reduceToNat → Zg, reduceLT → Zh, reduceLE → Zi, reduceNeg → Zj, reduceEq → Zk, reduceNe → Zl
set_option linter.unusedSimpArgs false
set_option maxRecDepth 20000
set_option maxHeartbeats 2000000

def RdO : St → AObj → Prop
  | .ok l, o => o = rdO l 0 ∧ l.length < 2000000 ∧ U8s l
  | .er e, o => e ≠ 0 ∧ ∃ l : List Int, l.length < 2000000 ∧ o = rdO l e

/-- A call on a Reader: its answer, what it leaves. -/
def RdC (s : Store) (id : Nat) (v : AV) (st : St) (r : AV) (s' : Store) : Prop := r = v ∧ ∃ o, s' = s.set id o ∧ RdO st o

def failT (e : Int) : St → St
  | .ok _ => .er e
  | .er e' => .er e'

theorem RdO.form {st : St} {o : AObj} (h : RdO st o) : ∃ l e, o = rdO l e ∧ l.length < 2000000 := by
  cases st with
  | ok l => exact ⟨l, 0, h.1, h.2.1⟩
  | er e => obtain ⟨_, l, h1, h2⟩ := h; exact ⟨l, e, h2, h1⟩

theorem RdO.lt {st : St} {o : AObj} (h : RdO st o) (n : Nat) : o.lt n := by
  obtain ⟨l, e, rfl, _⟩ := h.form
  intro cs hc
  cases hc
  simp [ltL, AV.lt]

theorem rd_fail' (e' : Int) (he' : e' ≠ 0) (st : St) {s : Store} {id : Nat} {o : AObj} (h : s[id]? = some o) (ho : RdO st o) :
    ACalls Try.prog 60 [.ptr id 0, .int .i64 e'] s (RdC s id (.tup []) (failT e' st)) := by
  cases st with
  | ok l =>
    obtain ⟨rfl, h1, h2⟩ := ho
    exact (rd_fail 0 e' l h).mono fun r s' ⟨h3, h4⟩ => ⟨h3, _, h4, by rw [if_pos rfl]; exact ⟨he', l, h1, rfl⟩⟩
  | er e =>
    obtain ⟨h0, l, h1, rfl⟩ := ho
    exact (rd_fail e e' l h).mono fun r s' ⟨h3, h4⟩ => ⟨h3, _, h4, by rw [if_neg h0]; exact ⟨h0, l, h1, rfl⟩⟩

theorem rd_next' (st : St) {s : Store} {id : Nat} {o : AObj} (h : s[id]? = some o) (ho : RdO st o) :
    ACalls Try.prog 51 [.ptr id 0] s (RdC s id (.int .u8 (nextT st).1) (nextT st).2) := by
  cases st with
  | ok l =>
    obtain ⟨rfl, h1, h2⟩ := ho
    refine (rd_next l 0 h1 h).mono fun r s' ⟨h3, h4⟩ => ?_
    cases l with
    | nil => exact ⟨h3, _, h4, by show (3 : Int) ≠ 0; omega, [], by simp, rfl⟩
    | cons c l => exact ⟨h3, _, h4, rfl, by simp at h1; omega, fun x hx => h2 x (by simp [hx])⟩
  | er e =>
    obtain ⟨h0, l, h1, rfl⟩ := ho
    refine (rd_next l e h1 h).mono fun r s' ⟨h3, h4⟩ => ?_
    have hn : nextR l e = (0, l, e) := by unfold nextR; rw [if_neg h0]
    rw [hn] at h3 h4
    exact ⟨h3, _, h4, h0, l, h1, rfl⟩

theorem addR_eq {n : Nat} {c : Int} {i : Nat} (hi : i ≤ 9) (hn : n < 128 ^ i) (hc : 0 ≤ c ∧ c < 256) (h9 : i = 9 → c ≤ 1) : addR n c i = ((n + (if c < 128 then c else c - 128).toNat * 128 ^ i : Nat) : Int) := by
  have e1 : iandnot .u8 c 128 = if c < 128 then c else c - 128 := by
    have key : ∀ m : Fin 256, iandnot .u8 ((m.val : Nat) : Int) 128 = if ((m.val : Nat) : Int) < 128 then ((m.val : Nat) : Int) else ((m.val : Nat) : Int) - 128 := by decide +kernel
    have := key ⟨c.toNat, by omega⟩
    simp only [Int.toNat_of_nonneg hc.1] at this
    exact this
  unfold addR
  rw [e1]
  generalize hd : (if c < 128 then c else c - 128) = d
  have hd0 : 0 ≤ d ∧ d < 128 := by split at hd <;> omega
  have hd9 : i = 9 → d ≤ 1 := fun e => by have := h9 e; split at hd <;> omega
  have e2 : IntKind.u64.wrap d = d := wrap_u64 hd0.1 (by omega)
  rw [e2]
  have e3 : min (7 * (i : Int)).toNat IntKind.u64.bits = 7 * i := by
    show min (7 * (i : Int)).toNat 64 = 7 * i
    omega
  have e4 : ishl .u64 d (7 * (i : Int)) = IntKind.u64.wrap (d * 2 ^ (7 * i)) := by unfold ishl; rw [e3]
  have hp : (2 : Nat) ^ (7 * i) = 128 ^ i := by rw [Nat.pow_mul]
  have hp9 := pow128 hi
  obtain ⟨m, rfl⟩ : ∃ m : Nat, d = (m : Int) := ⟨d.toNat, by omega⟩
  have e5 : ((m : Int) * 2 ^ (7 * i)) = ((m * 128 ^ i : Nat) : Int) := by rw [← hp]; simp
  have hlt : n + m * 128 ^ i < 18446744073709551616 := by
    by_cases h : i = 9
    · have := hd9 h
      have hm : m ≤ 1 := by omega
      have := Nat.mul_le_mul_right (128 ^ i) hm
      subst h
      omega
    · have h4 : (128 : Nat) ^ (i + 1) ≤ 128 ^ 9 := Nat.pow_le_pow_right (by omega) (by omega)
      have hm : m ≤ 127 := by omega
      have h5 := Nat.mul_le_mul_right (128 ^ i) hm
      have h6 : (128 : Nat) ^ (i + 1) = 128 * 128 ^ i := by rw [Nat.pow_succ, Nat.mul_comm]
      omega
  rw [e4, e5, wrap_u64 (by omega) (by omega), ← e5]
  rw [ior_add (by omega) (by rw [show ((2 : Int) ^ (7 * i)) = ((2 ^ (7 * i) : Nat) : Int) by simp, hp]; omega) (by omega) (by rw [e5]; omega), e5]
  simp only [Int.toNat_natCast]
  omega

theorem uintR_M : ∀ (f i : Nat) (n : Nat) (l : List Int), f + i = 10 → n < 128 ^ i → U8s l →
    match uintM f i n l with
    | (v, .ok l') => uintR f i n l = ((v : Int), l', 0) ∧ U8s l' ∧ l'.length ≤ l.length
    | (v, .er e) => v = 0 ∧ e ≠ 0 ∧ ∃ l', uintR f i n l = (0, l', e) ∧ l'.length ≤ l.length
  | 0, i, n, l, hf, hn, hu => ⟨rfl, by omega, l, rfl, by omega⟩
  | f + 1, i, n, [], hf, hn, hu => ⟨rfl, by omega, [], rfl, by simp⟩
  | f + 1, i, n, c :: l, hf, hn, hu => by
    have hc := hu c (by simp)
    have hu' : U8s l := fun x hx => hu x (by simp [hx])
    unfold uintM uintR
    by_cases h1 : (i = 9 ∧ 1 < c) ∨ (0 < i ∧ c = 0)
    · rw [if_pos h1]
      exact ⟨rfl, by omega, l, by simp only [if_pos h1], by simp⟩
    · rw [if_neg h1]
      have ha := addR_eq (n := n) (c := c) (i := i) (by omega) hn hc (by omega)
      by_cases h2 : c < 128
      · rw [if_pos h2]
        refine ⟨?_, hu', by simp⟩
        simp only [if_neg h1, if_pos h2, ha]
      · rw [if_neg h2]
        simp only [if_neg h1, if_neg h2, ha]
        have hlt : n + (c - 128).toNat * 128 ^ i < 128 ^ (i + 1) := by
          have hm : (c - 128).toNat ≤ 127 := by omega
          have h5 := Nat.mul_le_mul_right (128 ^ i) hm
          rw [Nat.pow_succ]
          omega
        have := uintR_M f (i + 1) _ l (by omega) hlt hu'
        cases hq : uintM f (i + 1) (n + (c - 128).toNat * 128 ^ i) l with
        | mk v st =>
        rw [hq] at this
        cases st with
        | ok l' => exact ⟨this.1, this.2.1, by have := this.2.2; simp; omega⟩
        | er e =>
          obtain ⟨g1, g2, l', g3, g4⟩ := this
          exact ⟨g1, g2, l', g3, by simp; omega⟩

theorem rd_uint' (st : St) {s : Store} {id : Nat} {o : AObj} (h : s[id]? = some o) (ho : RdO st o) :
    ACalls Try.prog 48 [.ptr id 0] s (RdC s id (.int .u64 (uintT st).1) (uintT st).2) := by
  cases st with
  | ok l =>
    obtain ⟨rfl, h1, h2⟩ := ho
    refine (rd_uint l 0 h1 h).mono fun r s' ⟨h3, h4⟩ => ?_
    have := uintR_M 10 0 0 l rfl (by simp) h2
    have he : uintF l 0 = uintR 10 0 0 l := by unfold uintF; rw [if_pos rfl]
    rw [he] at h3 h4
    simp only [uintT]
    cases hq : uintM 10 0 0 l with
    | mk v st =>
    rw [hq] at this
    cases st with
    | ok l' =>
      obtain ⟨g1, g2, g3⟩ := this
      have g1' : uintR 10 0 0 l = ((v : Int), l', 0) := g1
      rw [g1'] at h3 h4
      exact ⟨h3, _, h4, rfl, by omega, g2⟩
    | er e =>
      obtain ⟨g1, g2, l', g3, g4⟩ := this
      have g3' : uintR 10 0 0 l = (0, l', e) := g3
      rw [g3'] at h3 h4
      subst g1
      exact ⟨h3, _, h4, g2, l', by omega, rfl⟩
  | er e =>
    obtain ⟨h0, l, h1, rfl⟩ := ho
    refine (rd_uint l e h1 h).mono fun r s' ⟨h3, h4⟩ => ?_
    have hn : uintF l e = (0, l, e) := by unfold uintF; rw [if_neg h0]
    rw [hn] at h3 h4
    exact ⟨h3, _, h4, h0, l, h1, rfl⟩

theorem ixor_i0 {a : Int} (h : 0 ≤ a ∧ a < 9223372036854775808) : ixor .i64 a 0 = a := by
  show IntKind.i64.wrap (((BitVec.ofInt 64 a ^^^ BitVec.ofInt 64 0).toNat : Nat) : Int) = a
  have : BitVec.ofInt 64 0 = 0#64 := rfl
  rw [this, BitVec.xor_zero, BitVec.toNat_ofInt]
  rw [wrap_i64 (by omega) (by omega)]
  omega

theorem ixor_i1 {a : Int} (h : 0 ≤ a ∧ a < 9223372036854775808) : ixor .i64 a (-1) = -a - 1 := by
  show IntKind.i64.wrap (((BitVec.ofInt 64 a ^^^ BitVec.ofInt 64 (-1)).toNat : Nat) : Int) = -a - 1
  have : BitVec.ofInt 64 (-1) = BitVec.allOnes 64 := by decide +kernel
  rw [this, BitVec.xor_allOnes, BitVec.toNat_not, BitVec.toNat_ofInt]
  simp [IntKind.wrap, IntKind.bits, IntKind.signed]
  omega

theorem iand_one {z : Nat} (h : z < 18446744073709551616) : iand .u64 z 1 = ((z % 2 : Nat) : Int) := by
  show IntKind.u64.wrap (((BitVec.ofInt 64 (z : Int) &&& BitVec.ofInt 64 1).toNat : Nat) : Int) = ((z % 2 : Nat) : Int)
  have : BitVec.ofInt 64 1 = 1#64 := rfl
  rw [this]
  have h2 : (BitVec.ofInt 64 (z : Int)).toNat = z := by
    rw [BitVec.toNat_ofInt]; omega
  have h3 : (BitVec.ofInt 64 (z : Int) &&& 1#64).toNat = z % 2 := by
    rw [BitVec.toNat_and, h2]
    show z &&& 1 = z % 2
    exact Nat.and_one_is_mod z
  rw [h3]
  exact wrap_u64 (by omega) (by omega)

theorem rd_unzig (z : Nat) (hz : z < 18446744073709551616) (σ : Store) : ACalls Try.prog 59 [.int .u64 z] σ (fun r σ' => r = .int .i64 (unzig z) ∧ σ' = σ) := by
  have e1 : ishr .u64 (z : Int) 1 = ((z / 2 : Nat) : Int) := by
    show (z : Int).fdiv 2 = _
    rw [Int.fdiv_eq_ediv_of_nonneg _ (by omega)]; omega
  have e2 : IntKind.i64.wrap ((z / 2 : Nat) : Int) = ((z / 2 : Nat) : Int) := wrap_i64 (by omega) (by omega)
  have e3 : iand .u64 (z : Int) 1 = ((z % 2 : Nat) : Int) := iand_one hz
  have e4 : IntKind.i64.wrap ((z % 2 : Nat) : Int) = ((z % 2 : Nat) : Int) := wrap_i64 (by omega) (by omega)
  have e5 : IntKind.i64.wrap (0 - ((z % 2 : Nat) : Int)) = 0 - ((z % 2 : Nat) : Int) := wrap_i64 (by omega) (by omega)
  refine acalls_of_vc (fn := Try.f59) Try.call59 Try.func59 rfl (by kernel_rfl) (by simp [Try.ntmps59]) ?_; simp -implicitDefEqProofs only [e1,e2,e3,e4,e5,Try.ntmps59,Try.results59,Q0,Q1,Q2,Q3,Q4,Q5,Q6,Q7,Q8,Q9,Qa,Qb,Qc,Qd,Qe,Qf,Qg,Qh,Qi,Qj,Qk,Ql,Qm,Qn,Qo,Qp,Qq,Qr,Qs,Qt,Qu,Qv,Qw,Qx,Qy,Qz,QA,QB,QC,QD,QE,QF,QG,QH,QI,QJ,QK,QL,QM,QN,QO,QP,QQ,QR,QS,QT,QU,QV,QW,QX,QY,QZ,X0,X1,X2,X3,X4,X5,X6,X7,X8,X9,Xa,Xb,Xc,Xd,Xe,Xf,Xg,Xh,Xi,Xj,Xk,Xl,Xm,Xn,Xo,Xp,Xq,Xr,Xs,Xt,Xu,Xv,Xw,Xx,Xy,Xz,XA,XB,XC,XD,XE,XF,XG,XH,XI,XJ,XK,XL,XM,XN,XO,XP,XQ,XR,XS,XT,XU,XV,XW,XX,XY,XZ,Y0,Y1,Y2,Y3,Y4,Y5,Y6,Y7,Y8,Y9,Ya,Yb,Yc,Yd,Ye,Yf,Yg,Yh,Yi,Yj,Yk,Yl,Ym,Yn,Yo,Yp,Yq,Yr,Ys,Yt,Yu,Yv,Yw,Yx,Yy,Yz,YA,YB,YC,YD,YE,YF,YG,YH,YI,YJ,YK,YL,YM,YN,YO,YP,YQ,YR,YS,YT,YU,YV,YW,YX,YY,reduceIte,reduceCtorEq,ite_true,ite_false,if_true,if_false,YZ,Z0,Z1,Z2,Z3,Z4,and_true,true_and,and_self,true_imp_iff,false_imp_iff,eq_self,not_true_eq_false,not_false_eq_true,ne_eq,decide_true,decide_false,Z5,Z6,Z7,Z8,Z9,Za,Zb,Zc,Zd,Ze,Zf,Zg,Zh,Zi,Zj,Zk,Zl,Try.underlying3,Try.cs3,Try.bt3,Try.pa3,Try.zr3,Try.underlying22,Try.cs22,Try.bt22,Try.pa22,Try.zr22,Try.underlying91,Try.cs91,Try.bt91,Try.pa91,Try.zr91]
  unfold unzig
  by_cases h : z % 2 = 1
  · rw [if_pos h, h, show (0 : Int) - ((1 : Nat) : Int) = -1 by omega, ixor_i1 (by omega)]
  · have h0 : z % 2 = 0 := by omega
    rw [if_neg h, h0, show (0 : Int) - ((0 : Nat) : Int) = 0 by omega, ixor_i0 (by omega)]

theorem uintT_lt {st : St} {o : AObj} (ho : RdO st o) : (uintT st).1 < 18446744073709551616 := by
  cases st with
  | er e => simp [uintT]
  | ok l =>
    cases hq : uintT (.ok l) with
    | mk v st =>
    cases st with
    | ok r => exact (uintT_back ho.2.2 hq).2
    | er e => rw [(uintM_er 10 0 0 l v e hq).1]; omega

theorem rd_int' (st : St) {s : Store} {id : Nat} {o : AObj} (h : s[id]? = some o) (ho : RdO st o) :
    ACalls Try.prog 47 [.ptr id 0] s (RdC s id (.int .i64 (intT st).1) (intT st).2) := by
  refine acalls_of_vc (fn := Try.f47) Try.call47 Try.func47 rfl (by kernel_rfl) (by simp [Try.ntmps47]) ?_; simp -implicitDefEqProofs only [Try.ntmps47,Try.results47,Q0,Q1,Q2,Q3,Q4,Q5,Q6,Q7,Q8,Q9,Qa,Qb,Qc,Qd,Qe,Qf,Qg,Qh,Qi,Qj,Qk,Ql,Qm,Qn,Qo,Qp,Qq,Qr,Qs,Qt,Qu,Qv,Qw,Qx,Qy,Qz,QA,QB,QC,QD,QE,QF,QG,QH,QI,QJ,QK,QL,QM,QN,QO,QP,QQ,QR,QS,QT,QU,QV,QW,QX,QY,QZ,X0,X1,X2,X3,X4,X5,X6,X7,X8,X9,Xa,Xb,Xc,Xd,Xe,Xf,Xg,Xh,Xi,Xj,Xk,Xl,Xm,Xn,Xo,Xp,Xq,Xr,Xs,Xt,Xu,Xv,Xw,Xx,Xy,Xz,XA,XB,XC,XD,XE,XF,XG,XH,XI,XJ,XK,XL,XM,XN,XO,XP,XQ,XR,XS,XT,XU,XV,XW,XX,XY,XZ,Y0,Y1,Y2,Y3,Y4,Y5,Y6,Y7,Y8,Y9,Ya,Yb,Yc,Yd,Ye,Yf,Yg,Yh,Yi,Yj,Yk,Yl,Ym,Yn,Yo,Yp,Yq,Yr,Ys,Yt,Yu,Yv,Yw,Yx,Yy,Yz,YA,YB,YC,YD,YE,YF,YG,YH,YI,YJ,YK,YL,YM,YN,YO,YP,YQ,YR,YS,YT,YU,YV,YW,YX,YY,reduceIte,reduceCtorEq,ite_true,ite_false,if_true,if_false,YZ,Z0,Z1,Z2,Z3,Z4,and_true,true_and,and_self,true_imp_iff,false_imp_iff,eq_self,not_true_eq_false,not_false_eq_true,ne_eq,decide_true,decide_false,Z5,Z6,Z7,Z8,Z9,Za,Zb,Zc,Zd,Ze,Zf,Zg,Zh,Zi,Zj,Zk,Zl,Try.underlying3,Try.cs3,Try.bt3,Try.pa3,Try.zr3,Try.underlying22,Try.cs22,Try.bt22,Try.pa22,Try.zr22,Try.underlying53,Try.cs53,Try.bt53,Try.pa53,Try.ty53,Try.zr53]
  refine ACalls.mono (rd_uint' st h ho) ?_
  rintro _ _ ⟨rfl, o1, rfl, ho1⟩
  simp -implicitDefEqProofs only [Q0,Q1,Q2,Q3,Q4,Q5,Q6,Q7,Q8,Q9,Qa,Qb,Qc,Qd,Qe,Qf,Qg,Qh,Qi,Qj,Qk,Ql,Qm,Qn,Qo,Qp,Qq,Qr,Qs,Qt,Qu,Qv,Qw,Qx,Qy,Qz,QA,QB,QC,QD,QE,QF,QG,QH,QI,QJ,QK,QL,QM,QN,QO,QP,QQ,QR,QS,QT,QU,QV,QW,QX,QY,QZ,X0,X1,X2,X3,X4,X5,X6,X7,X8,X9,Xa,Xb,Xc,Xd,Xe,Xf,Xg,Xh,Xi,Xj,Xk,Xl,Xm,Xn,Xo,Xp,Xq,Xr,Xs,Xt,Xu,Xv,Xw,Xx,Xy,Xz,XA,XB,XC,XD,XE,XF,XG,XH,XI,XJ,XK,XL,XM,XN,XO,XP,XQ,XR,XS,XT,XU,XV,XW,XX,XY,XZ,Y0,Y1,Y2,Y3,Y4,Y5,Y6,Y7,Y8,Y9,Ya,Yb,Yc,Yd,Ye,Yf,Yg,Yh,Yi,Yj,Yk,Yl,Ym,Yn,Yo,Yp,Yq,Yr,Ys,Yt,Yu,Yv,Yw,Yx,Yy,Yz,YA,YB,YC,YD,YE,YF,YG,YH,YI,YJ,YK,YL,YM,YN,YO,YP,YQ,YR,YS,YT,YU,YV,YW,YX,YY,reduceIte,reduceCtorEq,ite_true,ite_false,if_true,if_false,YZ,Z0,Z1,Z2,Z3,Z4,and_true,true_and,and_self,true_imp_iff,false_imp_iff,eq_self,not_true_eq_false,not_false_eq_true,ne_eq,decide_true,decide_false,Z5,Z6,Z7,Z8,Z9,Za,Zb,Zc,Zd,Ze,Zf,Zg,Zh,Zi,Zj,Zk,Zl,Try.underlying3,Try.cs3,Try.bt3,Try.pa3,Try.zr3,Try.underlying22,Try.cs22,Try.bt22,Try.pa22,Try.zr22,Try.underlying53,Try.cs53,Try.bt53,Try.pa53,Try.ty53,Try.zr53]
  refine acalls_then (rd_unzig _ (uintT_lt ho) _) ?_
  simp -implicitDefEqProofs only [Q0,Q1,Q2,Q3,Q4,Q5,Q6,Q7,Q8,Q9,Qa,Qb,Qc,Qd,Qe,Qf,Qg,Qh,Qi,Qj,Qk,Ql,Qm,Qn,Qo,Qp,Qq,Qr,Qs,Qt,Qu,Qv,Qw,Qx,Qy,Qz,QA,QB,QC,QD,QE,QF,QG,QH,QI,QJ,QK,QL,QM,QN,QO,QP,QQ,QR,QS,QT,QU,QV,QW,QX,QY,QZ,X0,X1,X2,X3,X4,X5,X6,X7,X8,X9,Xa,Xb,Xc,Xd,Xe,Xf,Xg,Xh,Xi,Xj,Xk,Xl,Xm,Xn,Xo,Xp,Xq,Xr,Xs,Xt,Xu,Xv,Xw,Xx,Xy,Xz,XA,XB,XC,XD,XE,XF,XG,XH,XI,XJ,XK,XL,XM,XN,XO,XP,XQ,XR,XS,XT,XU,XV,XW,XX,XY,XZ,Y0,Y1,Y2,Y3,Y4,Y5,Y6,Y7,Y8,Y9,Ya,Yb,Yc,Yd,Ye,Yf,Yg,Yh,Yi,Yj,Yk,Yl,Ym,Yn,Yo,Yp,Yq,Yr,Ys,Yt,Yu,Yv,Yw,Yx,Yy,Yz,YA,YB,YC,YD,YE,YF,YG,YH,YI,YJ,YK,YL,YM,YN,YO,YP,YQ,YR,YS,YT,YU,YV,YW,YX,YY,reduceIte,reduceCtorEq,ite_true,ite_false,if_true,if_false,YZ,Z0,Z1,Z2,Z3,Z4,and_true,true_and,and_self,true_imp_iff,false_imp_iff,eq_self,not_true_eq_false,not_false_eq_true,ne_eq,decide_true,decide_false,Z5,Z6,Z7,Z8,Z9,Za,Zb,Zc,Zd,Ze,Zf,Zg,Zh,Zi,Zj,Zk,Zl,Try.underlying3,Try.cs3,Try.bt3,Try.pa3,Try.zr3,Try.underlying22,Try.cs22,Try.bt22,Try.pa22,Try.zr22,Try.underlying53,Try.cs53,Try.bt53,Try.pa53,Try.ty53,Try.zr53]
  exact ⟨rfl, o1, rfl, ho1⟩

theorem rd_end' (st : St) {s : Store} {id : Nat} {o : AObj} (h : s[id]? = some o) (ho : RdO st o) :
    ACalls Try.prog 49 [.ptr id 0] s (fun r s' => r = .int .i64 (endT st) ∧ s' = s) := by
  cases st with
  | er e =>
    obtain ⟨h0, l, h1, rfl⟩ := ho
    have d1 : decide (e = 0) = false := decide_eq_false h0
    simp only [rdO] at h
    refine acalls_of_vc (fn := Try.f49) Try.call49 Try.func49 rfl (by kernel_rfl) (by simp [Try.ntmps49]) ?_; simp -implicitDefEqProofs only [YB,Try.ntmps49,Try.results49,Q0,Q1,Q2,Q3,Q4,Q5,Q6,Q7,Q8,Q9,Qa,Qb,Qc,Qd,Qe,Qf,Qg,Qh,Qi,Qj,Qk,Ql,Qm,Qn,Qo,Qp,Qq,Qr,Qs,Qt,Qu,Qv,Qw,Qx,Qy,Qz,QA,QB,QC,QD,QE,QF,QG,QH,QI,QJ,QK,QL,QM,QN,QO,QP,QQ,QR,QS,QT,QU,QV,QW,QX,QY,QZ,X0,X1,X2,X3,X4,X5,X6,X7,X8,X9,Xa,Xb,Xc,Xd,Xe,Xf,Xg,Xh,Xi,Xj,Xk,Xl,Xm,Xn,Xo,Xp,Xq,Xr,Xs,Xt,Xu,Xv,Xw,Xx,Xy,Xz,XA,XB,XC,XD,XE,XF,XG,XH,XI,XJ,XK,XL,XM,XN,XO,XP,XQ,XR,XS,XT,XU,XV,XW,XX,XY,XZ,Y0,Y1,Y2,Y3,Y4,Y5,Y6,Y7,Y8,Y9,Ya,Yb,Yc,Yd,Ye,Yf,Yg,Yh,Yi,Yj,Yk,Yl,Ym,Yn,Yo,Yp,Yq,Yr,Ys,Yt,Yu,Yv,Yw,Yx,Yy,Yz,YA,YB,YC,YD,YE,YF,YG,YH,YI,YJ,YK,YL,YM,YN,YO,YP,YQ,YR,YS,YT,YU,YV,YW,YX,YY,reduceIte,reduceCtorEq,ite_true,ite_false,if_true,if_false,YZ,Z0,Z1,Z2,Z3,Z4,and_true,true_and,and_self,true_imp_iff,false_imp_iff,eq_self,not_true_eq_false,not_false_eq_true,ne_eq,decide_true,decide_false,Z5,Z6,Z7,Z8,Z9,Za,Zb,Zc,Zd,Ze,Zf,Zg,Zh,Zi,Zj,Zk,Zl,Try.underlying3,Try.cs3,Try.bt3,Try.pa3,Try.zr3,Try.underlying4,Try.cs4,Try.bt4,Try.pa4,Try.ty4,Try.zr4,Try.underlying5,Try.cs5,Try.bt5,Try.pa5,Try.zr5,Try.underlying32,Try.cs32,Try.bt32,Try.pa32,Try.zr32,Try.underlying46,Try.cs46,Try.bt46,Try.pa46,Try.ty46,Try.sl46,Try.zr46,Try.underlying53,Try.cs53,Try.bt53,Try.pa53,Try.ty53,Try.zr53,Try.underlying79,Try.cs79,Try.bt79,Try.pa79,Try.ty79,Try.zr79,Try.pl79,Try.fd79_0,Try.fd79_1]
    simp -implicitDefEqProofs only [YB,h,d1,Q0,Q1,Q2,Q3,Q4,Q5,Q6,Q7,Q8,Q9,Qa,Qb,Qc,Qd,Qe,Qf,Qg,Qh,Qi,Qj,Qk,Ql,Qm,Qn,Qo,Qp,Qq,Qr,Qs,Qt,Qu,Qv,Qw,Qx,Qy,Qz,QA,QB,QC,QD,QE,QF,QG,QH,QI,QJ,QK,QL,QM,QN,QO,QP,QQ,QR,QS,QT,QU,QV,QW,QX,QY,QZ,X0,X1,X2,X3,X4,X5,X6,X7,X8,X9,Xa,Xb,Xc,Xd,Xe,Xf,Xg,Xh,Xi,Xj,Xk,Xl,Xm,Xn,Xo,Xp,Xq,Xr,Xs,Xt,Xu,Xv,Xw,Xx,Xy,Xz,XA,XB,XC,XD,XE,XF,XG,XH,XI,XJ,XK,XL,XM,XN,XO,XP,XQ,XR,XS,XT,XU,XV,XW,XX,XY,XZ,Y0,Y1,Y2,Y3,Y4,Y5,Y6,Y7,Y8,Y9,Ya,Yb,Yc,Yd,Ye,Yf,Yg,Yh,Yi,Yj,Yk,Yl,Ym,Yn,Yo,Yp,Yq,Yr,Ys,Yt,Yu,Yv,Yw,Yx,Yy,Yz,YA,YB,YC,YD,YE,YF,YG,YH,YI,YJ,YK,YL,YM,YN,YO,YP,YQ,YR,YS,YT,YU,YV,YW,YX,YY,reduceIte,reduceCtorEq,ite_true,ite_false,if_true,if_false,YZ,Z0,Z1,Z2,Z3,Z4,and_true,true_and,and_self,true_imp_iff,false_imp_iff,eq_self,not_true_eq_false,not_false_eq_true,ne_eq,decide_true,decide_false,Z5,Z6,Z7,Z8,Z9,Za,Zb,Zc,Zd,Ze,Zf,Zg,Zh,Zi,Zj,Zk,Zl,Try.underlying3,Try.cs3,Try.bt3,Try.pa3,Try.zr3,Try.underlying4,Try.cs4,Try.bt4,Try.pa4,Try.ty4,Try.zr4,Try.underlying5,Try.cs5,Try.bt5,Try.pa5,Try.zr5,Try.underlying32,Try.cs32,Try.bt32,Try.pa32,Try.zr32,Try.underlying46,Try.cs46,Try.bt46,Try.pa46,Try.ty46,Try.sl46,Try.zr46,Try.underlying53,Try.cs53,Try.bt53,Try.pa53,Try.ty53,Try.zr53,Try.underlying79,Try.cs79,Try.bt79,Try.pa79,Try.ty79,Try.zr79,Try.pl79,Try.fd79_0,Try.fd79_1]
    rfl
  | ok l =>
    obtain ⟨rfl, h1, h2⟩ := ho
    simp only [rdO] at h
    have d1 : decide ((0 : Int) = 0) = true := rfl
    cases l with
    | nil =>
      refine acalls_of_vc (fn := Try.f49) Try.call49 Try.func49 rfl (by kernel_rfl) (by simp [Try.ntmps49]) ?_; simp -implicitDefEqProofs only [YB,Try.ntmps49,Try.results49,Q0,Q1,Q2,Q3,Q4,Q5,Q6,Q7,Q8,Q9,Qa,Qb,Qc,Qd,Qe,Qf,Qg,Qh,Qi,Qj,Qk,Ql,Qm,Qn,Qo,Qp,Qq,Qr,Qs,Qt,Qu,Qv,Qw,Qx,Qy,Qz,QA,QB,QC,QD,QE,QF,QG,QH,QI,QJ,QK,QL,QM,QN,QO,QP,QQ,QR,QS,QT,QU,QV,QW,QX,QY,QZ,X0,X1,X2,X3,X4,X5,X6,X7,X8,X9,Xa,Xb,Xc,Xd,Xe,Xf,Xg,Xh,Xi,Xj,Xk,Xl,Xm,Xn,Xo,Xp,Xq,Xr,Xs,Xt,Xu,Xv,Xw,Xx,Xy,Xz,XA,XB,XC,XD,XE,XF,XG,XH,XI,XJ,XK,XL,XM,XN,XO,XP,XQ,XR,XS,XT,XU,XV,XW,XX,XY,XZ,Y0,Y1,Y2,Y3,Y4,Y5,Y6,Y7,Y8,Y9,Ya,Yb,Yc,Yd,Ye,Yf,Yg,Yh,Yi,Yj,Yk,Yl,Ym,Yn,Yo,Yp,Yq,Yr,Ys,Yt,Yu,Yv,Yw,Yx,Yy,Yz,YA,YB,YC,YD,YE,YF,YG,YH,YI,YJ,YK,YL,YM,YN,YO,YP,YQ,YR,YS,YT,YU,YV,YW,YX,YY,reduceIte,reduceCtorEq,ite_true,ite_false,if_true,if_false,YZ,Z0,Z1,Z2,Z3,Z4,and_true,true_and,and_self,true_imp_iff,false_imp_iff,eq_self,not_true_eq_false,not_false_eq_true,ne_eq,decide_true,decide_false,Z5,Z6,Z7,Z8,Z9,Za,Zb,Zc,Zd,Ze,Zf,Zg,Zh,Zi,Zj,Zk,Zl,Try.underlying3,Try.cs3,Try.bt3,Try.pa3,Try.zr3,Try.underlying4,Try.cs4,Try.bt4,Try.pa4,Try.ty4,Try.zr4,Try.underlying5,Try.cs5,Try.bt5,Try.pa5,Try.zr5,Try.underlying32,Try.cs32,Try.bt32,Try.pa32,Try.zr32,Try.underlying46,Try.cs46,Try.bt46,Try.pa46,Try.ty46,Try.sl46,Try.zr46,Try.underlying53,Try.cs53,Try.bt53,Try.pa53,Try.ty53,Try.zr53,Try.underlying79,Try.cs79,Try.bt79,Try.pa79,Try.ty79,Try.zr79,Try.pl79,Try.fd79_0,Try.fd79_1]
      simp -implicitDefEqProofs only [YB,h,d1,Q0,Q1,Q2,Q3,Q4,Q5,Q6,Q7,Q8,Q9,Qa,Qb,Qc,Qd,Qe,Qf,Qg,Qh,Qi,Qj,Qk,Ql,Qm,Qn,Qo,Qp,Qq,Qr,Qs,Qt,Qu,Qv,Qw,Qx,Qy,Qz,QA,QB,QC,QD,QE,QF,QG,QH,QI,QJ,QK,QL,QM,QN,QO,QP,QQ,QR,QS,QT,QU,QV,QW,QX,QY,QZ,X0,X1,X2,X3,X4,X5,X6,X7,X8,X9,Xa,Xb,Xc,Xd,Xe,Xf,Xg,Xh,Xi,Xj,Xk,Xl,Xm,Xn,Xo,Xp,Xq,Xr,Xs,Xt,Xu,Xv,Xw,Xx,Xy,Xz,XA,XB,XC,XD,XE,XF,XG,XH,XI,XJ,XK,XL,XM,XN,XO,XP,XQ,XR,XS,XT,XU,XV,XW,XX,XY,XZ,Y0,Y1,Y2,Y3,Y4,Y5,Y6,Y7,Y8,Y9,Ya,Yb,Yc,Yd,Ye,Yf,Yg,Yh,Yi,Yj,Yk,Yl,Ym,Yn,Yo,Yp,Yq,Yr,Ys,Yt,Yu,Yv,Yw,Yx,Yy,Yz,YA,YB,YC,YD,YE,YF,YG,YH,YI,YJ,YK,YL,YM,YN,YO,YP,YQ,YR,YS,YT,YU,YV,YW,YX,YY,reduceIte,reduceCtorEq,ite_true,ite_false,if_true,if_false,YZ,Z0,Z1,Z2,Z3,Z4,and_true,true_and,and_self,true_imp_iff,false_imp_iff,eq_self,not_true_eq_false,not_false_eq_true,ne_eq,decide_true,decide_false,Z5,Z6,Z7,Z8,Z9,Za,Zb,Zc,Zd,Ze,Zf,Zg,Zh,Zi,Zj,Zk,Zl,Try.underlying3,Try.cs3,Try.bt3,Try.pa3,Try.zr3,Try.underlying4,Try.cs4,Try.bt4,Try.pa4,Try.ty4,Try.zr4,Try.underlying5,Try.cs5,Try.bt5,Try.pa5,Try.zr5,Try.underlying32,Try.cs32,Try.bt32,Try.pa32,Try.zr32,Try.underlying46,Try.cs46,Try.bt46,Try.pa46,Try.ty46,Try.sl46,Try.zr46,Try.underlying53,Try.cs53,Try.bt53,Try.pa53,Try.ty53,Try.zr53,Try.underlying79,Try.cs79,Try.bt79,Try.pa79,Try.ty79,Try.zr79,Try.pl79,Try.fd79_0,Try.fd79_1]
      rfl
    | cons c l =>
      have d2 : decide ((0 : Int) < ((l.length + 1 : Nat) : Int)) = true := decide_eq_true (by omega)
      refine acalls_of_vc (fn := Try.f49) Try.call49 Try.func49 rfl (by kernel_rfl) (by simp [Try.ntmps49]) ?_; simp -implicitDefEqProofs only [YB,Try.ntmps49,Try.results49,Q0,Q1,Q2,Q3,Q4,Q5,Q6,Q7,Q8,Q9,Qa,Qb,Qc,Qd,Qe,Qf,Qg,Qh,Qi,Qj,Qk,Ql,Qm,Qn,Qo,Qp,Qq,Qr,Qs,Qt,Qu,Qv,Qw,Qx,Qy,Qz,QA,QB,QC,QD,QE,QF,QG,QH,QI,QJ,QK,QL,QM,QN,QO,QP,QQ,QR,QS,QT,QU,QV,QW,QX,QY,QZ,X0,X1,X2,X3,X4,X5,X6,X7,X8,X9,Xa,Xb,Xc,Xd,Xe,Xf,Xg,Xh,Xi,Xj,Xk,Xl,Xm,Xn,Xo,Xp,Xq,Xr,Xs,Xt,Xu,Xv,Xw,Xx,Xy,Xz,XA,XB,XC,XD,XE,XF,XG,XH,XI,XJ,XK,XL,XM,XN,XO,XP,XQ,XR,XS,XT,XU,XV,XW,XX,XY,XZ,Y0,Y1,Y2,Y3,Y4,Y5,Y6,Y7,Y8,Y9,Ya,Yb,Yc,Yd,Ye,Yf,Yg,Yh,Yi,Yj,Yk,Yl,Ym,Yn,Yo,Yp,Yq,Yr,Ys,Yt,Yu,Yv,Yw,Yx,Yy,Yz,YA,YB,YC,YD,YE,YF,YG,YH,YI,YJ,YK,YL,YM,YN,YO,YP,YQ,YR,YS,YT,YU,YV,YW,YX,YY,reduceIte,reduceCtorEq,ite_true,ite_false,if_true,if_false,YZ,Z0,Z1,Z2,Z3,Z4,and_true,true_and,and_self,true_imp_iff,false_imp_iff,eq_self,not_true_eq_false,not_false_eq_true,ne_eq,decide_true,decide_false,Z5,Z6,Z7,Z8,Z9,Za,Zb,Zc,Zd,Ze,Zf,Zg,Zh,Zi,Zj,Zk,Zl,Try.underlying3,Try.cs3,Try.bt3,Try.pa3,Try.zr3,Try.underlying4,Try.cs4,Try.bt4,Try.pa4,Try.ty4,Try.zr4,Try.underlying5,Try.cs5,Try.bt5,Try.pa5,Try.zr5,Try.underlying32,Try.cs32,Try.bt32,Try.pa32,Try.zr32,Try.underlying46,Try.cs46,Try.bt46,Try.pa46,Try.ty46,Try.sl46,Try.zr46,Try.underlying53,Try.cs53,Try.bt53,Try.pa53,Try.ty53,Try.zr53,Try.underlying79,Try.cs79,Try.bt79,Try.pa79,Try.ty79,Try.zr79,Try.pl79,Try.fd79_0,Try.fd79_1]
      simp -implicitDefEqProofs only [YB,h,d1,d2,Q0,Q1,Q2,Q3,Q4,Q5,Q6,Q7,Q8,Q9,Qa,Qb,Qc,Qd,Qe,Qf,Qg,Qh,Qi,Qj,Qk,Ql,Qm,Qn,Qo,Qp,Qq,Qr,Qs,Qt,Qu,Qv,Qw,Qx,Qy,Qz,QA,QB,QC,QD,QE,QF,QG,QH,QI,QJ,QK,QL,QM,QN,QO,QP,QQ,QR,QS,QT,QU,QV,QW,QX,QY,QZ,X0,X1,X2,X3,X4,X5,X6,X7,X8,X9,Xa,Xb,Xc,Xd,Xe,Xf,Xg,Xh,Xi,Xj,Xk,Xl,Xm,Xn,Xo,Xp,Xq,Xr,Xs,Xt,Xu,Xv,Xw,Xx,Xy,Xz,XA,XB,XC,XD,XE,XF,XG,XH,XI,XJ,XK,XL,XM,XN,XO,XP,XQ,XR,XS,XT,XU,XV,XW,XX,XY,XZ,Y0,Y1,Y2,Y3,Y4,Y5,Y6,Y7,Y8,Y9,Ya,Yb,Yc,Yd,Ye,Yf,Yg,Yh,Yi,Yj,Yk,Yl,Ym,Yn,Yo,Yp,Yq,Yr,Ys,Yt,Yu,Yv,Yw,Yx,Yy,Yz,YA,YB,YC,YD,YE,YF,YG,YH,YI,YJ,YK,YL,YM,YN,YO,YP,YQ,YR,YS,YT,YU,YV,YW,YX,YY,reduceIte,reduceCtorEq,ite_true,ite_false,if_true,if_false,YZ,Z0,Z1,Z2,Z3,Z4,and_true,true_and,and_self,true_imp_iff,false_imp_iff,eq_self,not_true_eq_false,not_false_eq_true,ne_eq,decide_true,decide_false,Z5,Z6,Z7,Z8,Z9,Za,Zb,Zc,Zd,Ze,Zf,Zg,Zh,Zi,Zj,Zk,Zl,Try.underlying3,Try.cs3,Try.bt3,Try.pa3,Try.zr3,Try.underlying4,Try.cs4,Try.bt4,Try.pa4,Try.ty4,Try.zr4,Try.underlying5,Try.cs5,Try.bt5,Try.pa5,Try.zr5,Try.underlying32,Try.cs32,Try.bt32,Try.pa32,Try.zr32,Try.underlying46,Try.cs46,Try.bt46,Try.pa46,Try.ty46,Try.sl46,Try.zr46,Try.underlying53,Try.cs53,Try.bt53,Try.pa53,Try.ty53,Try.zr53,Try.underlying79,Try.cs79,Try.bt79,Try.pa79,Try.ty79,Try.zr79,Try.pl79,Try.fd79_0,Try.fd79_1]
      rfl

end Go.Proofs
