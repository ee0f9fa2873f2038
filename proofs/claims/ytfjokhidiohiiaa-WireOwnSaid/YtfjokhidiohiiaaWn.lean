/-
  The values that are made from numbers.
-/
import Derived.Test.YtfjokhidiohiiaaWm
namespace Go.Proofs
open Go.Pa
open Go.Pa renaming vc_seq → Q0, vc_block → Q1, vc_exit → Q2, vc_ret → Q3, vc_skip → Q4, vc_region → Q5, vc_draw → Q6, vc_loop → Q7, vc_range → Q8, vc_cond → Q9, condV_true → Qa, condV_false → Qb, condV_bool → Qc, seqK_normal → Qd, seqK_ret → Qe, seqK_exit → Qf, blkK_normal → Qg, blkK_ret → Qh, blkK_exit → Qi, loopK_ret → Qj, loopK_exit → Qk, loopK_normal → Ql, vcOps_nil → Qm, vcOps_cons → Qn, vcOps_guardM → Qo, guardM_some → Qp, guardV_und → Qq, guardV_same → Qr, guardV_tf → Qs, guardV_ft → Qt, guardV_bool → Qu, vcOp_out → Qv, outV_val → Qw, outV_need → Qx, outV_no → Qy, opK_run → Qz, opK_none → QA, vcS → QB, evA → QC, evBin → QD, nilA → QE, nilOf → QF, intOp → QG, strOp → QH, evUn → QI, evConv → QJ, evField → QK, evFieldAddr → QL, evIndexAddr → QM, evIndex → QN, bnd → QO, evSlice → QP, evLen → QQ, evPick → QR, evExtract → QS, evNilCheck → QT, evMin → QU, evMax → QV, evLoadI → QW, cO_int → QX, cO_bool → QY, cO_str → QZ, cO_nils → X0, cO_emp → X1, cO_ints → X2, cO_rows → X3, cO_mvec → X4, cO_ptr → X5, cO_eptr → X6, cO_iptr → X7, cO_nilp → X8, cO_fn → X9, cO_nilf → Xa, cO_mp → Xb, cO_nilm → Xc, cO_glob → Xd, cO_agg → Xe, partsOne → Xg, intsOf → Xh, rowsAV → Xi, evBuildSlice → Xj, evBuild → Xk, fillA → Xl, splice → Xm, evBuiltin → Xn, vcE_nil → Xo, vcE_cons → Xp, vcE_guardM → Xq, guardME_some → Xr, guardD_und → Xs, guardD_same → Xt, guardD_tf → Xu, guardD_ft → Xv, guardD_bool → Xw, dK_run → Xx, dK_none → Xy, dOp_call → Xz, callA_fn → XA, dOp → XB, outA_val → XC, outA_need → XD, cl → XE, vcLoad → XF, vcStore → XG, vcMake → XH, evO_tmp → XI, evO_int → XJ, evO_bool → XK, evO_nils → XL, evO_nilp → XM, evO_nilf → XN, evO_nilm → XO, evO_str → XP, evO_func → XQ, evO_glob → XR, convA → XS, evIndexArr → XT, lookA_cons → XU, get_cons → XV, sub_cons → XW, sub_nil → XX, retK_ret → XY, retK_normal → XZ, retA → Y0, ressA → Y1, resA → Y2, envOf → Y3, vcR_skip → Y7, vcR_seq → Y8, vcR_block → Y9, vcR_exit → Ya, vcR_ret → Yb, vcR_region → Yc, vcR_draw → Yd, vcR_cond → Ye, condR_true → Yf, condR_false → Yg, condR_bool → Yh, seqR_normal → Yi, seqR_ret → Yj, seqR_exit → Yk, asgEnv → Yl, parEnv → Ym, dstAt → Z5, sto_assoc → Z6, sto_len → Z7, sto_at → Z8, sto_at0 → Z9, sto_set → Za, sto_set0 → Zb
open Go.Pa.AV renaming cell → Xf
open Go.Pa.Env renaming put → Y4
open List renaming set_cons_zero → Y5, set_cons_succ → Y6, foldl_cons → Yn, foldl_nil → Yo, map_cons → Yp, map_nil → Yq, toList_toArray → Yr, getElem?_cons_zero → Ys, getElem?_cons_succ → Yt, nil_append → Yx, append_nil → Yy, cons_append → Yz, singleton_append → YA, length_cons → YB, length_nil → YC, all_cons → YD, all_nil → YE, take_succ_cons → YF, take_zero → YG, take_nil → YH, drop_zero → YI, drop_succ_cons → YJ, drop_nil → YK, contains_nil → YL, contains_cons → YM
open Option renaming bind_some → Yu, map_some → Yv, map_none → Yw
open Bool renaming or_false → YN, false_or → YO, or_true → YP, true_or → YQ, false_eq_true → YZ, not_true → Z0, not_false → Z1, and_true → Z2, true_and → Z3, and_self → Z4
open Nat renaming reduceEqDiff → YR, reduceAdd → YS, reduceSub → YT, reduceMul → YU, reduceLT → YV, reduceLeDiff → YW, reduceBNe → YX, reduceBEq → YY, zero_add → Ze, add_zero → Zf
open UInt8 renaming reduceToNat → Zc
open Int renaming cast_ofNat_Int → Zd, reduceToNat → Zg, reduceLT → Zh, reduceLE → Zi, reduceNeg → Zj, reduceEq → Zk, reduceNe → Zl
set_option linter.unusedSimpArgs false
set_option maxRecDepth 20000
set_option maxHeartbeats 2000000

/-- A slice of a value: own, or sealed. -/
def ElI (s : Store) (n : Nat) (k : IntKind) (l : List Int) (x : AV) : Prop := BufI s n x k l ∨ x = .ints k l
def RowV (s : Store) (n : Nat) (row : List AV) (v : VV) : Prop := ∃ B L, row = [.int .i64 v.k, .int .u64 v.u, .int .i64 v.n, B, L] ∧ ElI s n .u8 v.b B ∧ ElI s n .i64 v.l L
def RowsV (s : Store) (n : Nat) (rs : List (List AV)) (vs : List VV) : Prop := rs.length = vs.length ∧ ∀ (i : Nat) r v, rs[i]? = some r → vs[i]? = some v → RowV s n r v

theorem ElI.keep {s s' : Store} {n : Nat} {k : IntKind} {l : List Int} {x : AV} (h : ElI s n k l x) (hk : ∀ (j : Nat) x, s[j]? = some x → (∀ a b, x ≠ .vecR a b) → s'[j]? = some x) : ElI s' n k l x := by
  rcases h with (h | ⟨j, h1, h2, h3⟩) | h
  · exact .inl (.inl h)
  · exact .inl (.inr ⟨j, h1, hk j _ h2 (by simp), h3⟩)
  · exact .inr h

theorem RowV.keep {s s' : Store} {n : Nat} {row : List AV} {v : VV} (h : RowV s n row v) (hk : ∀ (j : Nat) x, s[j]? = some x → (∀ a b, x ≠ .vecR a b) → s'[j]? = some x) : RowV s' n row v := by
  obtain ⟨B, L, h1, h2, h3⟩ := h
  exact ⟨B, L, h1, h2.keep hk, h3.keep hk⟩

theorem RowsV.keep {s s' : Store} {n : Nat} {rs : List (List AV)} {vs : List VV} (h : RowsV s n rs vs) (hk : ∀ (j : Nat) x, s[j]? = some x → (∀ a b, x ≠ .vecR a b) → s'[j]? = some x) : RowsV s' n rs vs :=
  ⟨h.1, fun i r v hr hv => (h.2 i r v hr hv).keep hk⟩

theorem RowsV.app {s : Store} {n : Nat} {rs rs' : List (List AV)} {vs vs' : List VV} (h : RowsV s n rs vs) (h' : RowsV s n rs' vs') : RowsV s n (rs ++ rs') (vs ++ vs') := by
  refine ⟨by simp [h.1, h'.1], fun i r v hr hv => ?_⟩
  rcases Nat.lt_or_ge i rs.length with hi | hi
  · rw [List.getElem?_append_left hi] at hr
    rw [List.getElem?_append_left (by rw [← h.1]; exact hi)] at hv
    exact h.2 i r v hr hv
  · rw [List.getElem?_append_right hi] at hr
    rw [List.getElem?_append_right (by rw [← h.1]; exact hi), ← h.1] at hv
    exact h'.2 _ r v hr hv

theorem RowsV.one {s : Store} {n : Nat} {row : List AV} {v : VV} (h : RowV s n row v) : RowsV s n [row] [v] := by
  refine ⟨rfl, fun i r w hr hw => ?_⟩
  cases i with
  | zero => cases hr; cases hw; exact h
  | succ i => simp at hr

theorem RowsV.nil {s : Store} {n : Nat} : RowsV s n [] [] := ⟨rfl, fun i r v h => by simp at h⟩

theorem RowsV.five {s : Store} {n : Nat} {rs : List (List AV)} {vs : List VV} (h : RowsV s n rs vs) : ∀ r ∈ rs, r.length = 5 := by
  intro r hr
  obtain ⟨i, hi, rfl⟩ := List.mem_iff_getElem.1 hr
  obtain ⟨B, L, h1, _⟩ := h.2 i _ _ (List.getElem?_eq_getElem hi) (List.getElem?_eq_getElem (by rw [← h.1]; exact hi))
  rw [h1]; rfl

/-- A value that is told of by the part of its kind. -/
structure VV.norm (v : VV) : Prop where
  u : v.k ≠ 0 → v.u = 0
  n : v.k ≠ 1 → v.k ≠ 2 → v.n = 0
  n2 : v.k = 2 → v.n = 0 ∨ v.n = 1
  b : v.k ≠ 3 → v.k ≠ 4 → v.b = []
  l : v.k = 0 ∨ v.k = 1 ∨ v.k = 2 ∨ v.k = 3 ∨ v.k = 4 → v.l = []
  bl : v.b.length ≤ 9
  ll : v.l.length ≤ 4

theorem shr_u64 {u a : Int} (hu : 0 ≤ u ∧ u < 18446744073709551616) : ∃ k : Nat, ishr .u64 u a = (k : Int) ∧ k < 18446744073709551616 := by
  have h2 : (0 : Int) < 2 ^ (min a.toNat IntKind.u64.bits) := Int.pow_pos (by omega)
  have h3 : ishr .u64 u a = u / 2 ^ (min a.toNat IntKind.u64.bits) := by
    unfold ishr
    exact Int.fdiv_eq_ediv_of_nonneg _ (by omega)
  have h4 := Int.ediv_nonneg hu.1 (Int.le_of_lt h2)
  have h5 : u / 2 ^ (min a.toNat IntKind.u64.bits) ≤ u := Int.ediv_le_self _ hu.1
  exact ⟨(ishr .u64 u a).toNat, by rw [h3]; omega, by rw [h3]; omega⟩

theorem shr_i64 {x a : Int} (hx : In63 x) : In63 (ishr .i64 x a) := by
  have h2 : (0 : Int) < 2 ^ (min a.toNat IntKind.i64.bits) := Int.pow_pos (by omega)
  have h3 : ishr .i64 x a = x / 2 ^ (min a.toNat IntKind.i64.bits) := by
    unfold ishr
    exact Int.fdiv_eq_ediv_of_nonneg _ (by omega)
  rw [h3]
  clear h3
  generalize (2 : Int) ^ (min a.toNat IntKind.i64.bits) = m at h2 ⊢
  unfold In63 at *
  rcases Int.lt_or_le x 0 with h | h
  · have h4 : x ≤ x / m := by
      rw [Int.le_ediv_iff_mul_le h2]
      calc x * m ≤ x * 1 := Int.mul_le_mul_of_nonpos_left (by omega) (by omega)
        _ = x := by omega
    have h5 : x / m < 0 := Int.ediv_neg_of_neg_of_pos h h2
    omega
  · have h4 := Int.ediv_nonneg h (Int.le_of_lt h2)
    have h5 : x / m ≤ x := Int.ediv_le_self _ h
    omega

/-- A list of values that the function has made. -/
def FreshV (σ : Store) (vs : List VV) (r : AV) (s' : Store) : Prop := Ext σ s' ∧ ∃ rs, BufR s' σ.length r 5 rs ∧ RowsV s' σ.length rs vs

theorem u8s_snoc {l : List Int} {x : Int} (h : U8s l) (hx : 0 ≤ x ∧ x < 256) : U8s (l ++ [x]) := U8s.app h fun y hy => by simp at hy; subst hy; exact hx

theorem wrap_u8_in (x : Int) : 0 ≤ IntKind.u8.wrap x ∧ IntKind.u8.wrap x < 256 := by
  simp [IntKind.wrap, IntKind.bits, IntKind.signed]
  omega

theorem ref_vals (l : List Int) (hl : ∀ x ∈ l, Okk .i64 x) (σ : Store) : ACalls Try.prog 19 [.ints .i64 l] σ (fun r s' => ∃ vs : List VV, (∀ v ∈ vs, v.good ∧ v.norm) ∧ vs.length ≤ 8 ∧ FreshV σ vs r s') := by
  obtain ⟨m, hm⟩ : ∃ m, m = min l.length 8 := ⟨_, rfl⟩
  refine acalls_of_vc (fn := Try.f19) Try.call19 Try.func19 rfl (by kernel_rfl) (by simp [Try.ntmps19]) ?_; simp -implicitDefEqProofs only [Try.ntmps19,Try.results19,Q0,Q1,Q2,Q3,Q4,Q5,Q6,Q7,Q8,Q9,Qa,Qb,Qc,Qd,Qe,Qf,Qg,Qh,Qi,Qj,Qk,Ql,Qm,Qn,Qo,Qp,Qq,Qr,Qs,Qt,Qu,Qv,Qw,Qx,Qy,Qz,QA,QB,QC,QD,QE,QF,QG,QH,QI,QJ,QK,QL,QM,QN,QO,QP,QQ,QR,QS,QT,QU,QV,QW,QX,QY,QZ,X0,X1,X2,X3,X4,X5,X6,X7,X8,X9,Xa,Xb,Xc,Xd,Xe,Xf,Xg,Xh,Xi,Xj,Xk,Xl,Xm,Xn,Xo,Xp,Xq,Xr,Xs,Xt,Xu,Xv,Xw,Xx,Xy,Xz,XA,XB,XC,XD,XE,XF,XG,XH,XI,XJ,XK,XL,XM,XN,XO,XP,XQ,XR,XS,XT,XU,XV,XW,XX,XY,XZ,Y0,Y1,Y2,Y3,Y4,Y5,Y6,Y7,Y8,Y9,Ya,Yb,Yc,Yd,Ye,Yf,Yg,Yh,Yi,Yj,Yk,Yl,Ym,Yn,Yo,Yp,Yq,Yr,Ys,Yt,Yu,Yv,Yw,Yx,Yy,Yz,YA,YB,YC,YD,YE,YF,YG,YH,YI,YJ,YK,YL,YM,YN,YO,YP,YQ,YR,YS,YT,YU,YV,YW,YX,YY,reduceIte,reduceCtorEq,ite_true,ite_false,if_true,if_false,YZ,Z0,Z1,Z2,Z3,Z4,and_true,true_and,and_self,true_imp_iff,false_imp_iff,eq_self,not_true_eq_false,not_false_eq_true,ne_eq,decide_true,decide_false,Z5,Z6,Z7,Z8,Z9,Za,Zb,Zc,Zd,Ze,Zf,Zg,Zh,Zi,Zj,Zk,Zl,Try.underlying3,Try.cs3,Try.bt3,Try.pa3,Try.zr3,Try.underlying4,Try.cs4,Try.bt4,Try.pa4,Try.ty4,Try.zr4,Try.underlying5,Try.cs5,Try.bt5,Try.pa5,Try.zr5,Try.underlying22,Try.cs22,Try.bt22,Try.pa22,Try.zr22,Try.underlying24,Try.cs24,Try.bt24,Try.pa24,Try.ty24,Try.sl24,Try.zr24,Try.underlying33,Try.cs33,Try.bt33,Try.pa33,Try.ty33,Try.sl33,Try.zr33,Try.underlying35,Try.cs35,Try.bt35,Try.pa35,Try.ty35,Try.sl35,Try.zr35,Try.underlying47,Try.cs47,Try.bt47,Try.pa47,Try.ty47,Try.zr47,Try.pl47,Try.fd47_0,Try.fd47_1,Try.fd47_2,Try.fd47_3,Try.fd47_4]
  refine awp_loop (fun p : Nat × AV × List (List AV) × List VV => [(4, .int .i64 p.1), (3, p.2.1), (0, .ints .i64 l)]) (fun p s => p.1 ≤ m ∧ Ext σ s ∧ BufR s σ.length p.2.1 5 p.2.2.1 ∧ RowsV s σ.length p.2.2.1 p.2.2.2 ∧ (∀ v ∈ p.2.2.2, v.good ∧ v.norm) ∧ p.2.2.2.length = p.1) (fun p => m - p.1) (0, .nils, [], []) (by kernel_rfl) (by simp [sub_cons, sub_nil, get_cons]) ⟨by omega, .refl _, .inl ⟨.inl rfl, rfl⟩, .nil, by simp, rfl⟩ ?_
  rintro ⟨i, r, rs, vs⟩ s1 ⟨hi, hx1, hb1, hv1, hg1, hvl⟩
  simp only at hi hb1 hv1 hg1 hvl
  by_cases hlt : i < m
  · have d1 : decide ((i : Int) < (l.length : Int)) = true := decide_eq_true (by omega)
    have d2 : decide ((i : Int) < 8) = true := decide_eq_true (by omega)
    have hil : i < l.length := by omega
    obtain ⟨x, hx⟩ : ∃ x, x = l[i] := ⟨_, rfl⟩
    have hxo : Okk .i64 x := by rw [hx]; exact hl _ (List.getElem_mem hil)
    have hx63 := okk_i64 hxo
    have hget : l.getD ((i : Int).toNat) 0 = x := by rw [Int.toNat_natCast, getD_get hil, hx]
    have hb0 : 0 ≤ (i : Int) ∧ (i : Int) < l.length := by omega
    have wi : IntKind.i64.wrap ((i : Int) + 1) = ((i + 1 : Nat) : Int) := by rw [wrap_i64 (by omega) (by omega)]; rfl
    obtain ⟨k, hk⟩ : ∃ k, k = aroundI x 6 := ⟨_, rfl⟩
    have hkb := aroundI_bound (m := 6) hxo (by omega)
    rw [← hk] at hkb
    have q6 : IntKind.i64.wrap (x.tdiv 6) = x.tdiv 6 := by
      have h1 : x.tdiv 6 = if 0 ≤ x then x / 6 else -((-x) / 6) := by
        split
        · rw [Int.tdiv_eq_ediv_of_nonneg (by omega)]
        · have := Int.neg_tdiv (a := -x) (b := 6)
          rw [Int.neg_neg] at this
          rw [this, Int.tdiv_eq_ediv_of_nonneg (by omega)]
      rw [h1]
      exact wrap_i64 (by split <;> omega) (by split <;> omega)
    have q6b : Okk .i64 (x.tdiv 6) := by
      have h1 : x.tdiv 6 = if 0 ≤ x then x / 6 else -((-x) / 6) := by
        split
        · rw [Int.tdiv_eq_ediv_of_nonneg (by omega)]
        · have := Int.neg_tdiv (a := -x) (b := 6)
          rw [Int.neg_neg] at this
          rw [this, Int.tdiv_eq_ediv_of_nonneg (by omega)]
      exact okk63 (by unfold In63; rw [h1]; split <;> omega)
    obtain ⟨n, hn⟩ : ∃ n, n = aroundI (x.tdiv 6) 63 := ⟨_, rfl⟩
    have hnb := aroundI_bound (m := 63) q6b (by omega)
    rw [← hn] at hnb
    have wn : IntKind.u64.wrap n = n := wrap_u64 (by omega) (by omega)
    have fin : ∀ {s' : Store} {row : List AV} {v : VV}, Ext s1 s' → RowV s' σ.length row v → ∀ (R : AV → Store → Prop), (∀ r3 s3, Ext σ s3 → BufR s3 σ.length r3 5 (rs ++ [row]) → RowsV s3 σ.length (rs ++ [row]) (vs ++ [v]) → R r3 s3) → vcAppend Try.prog 35 r (.rows 5 [row]) s' R := by
      intro s' row v hx2 hrow R hR
      have hrl := (RowsV.one hrow).five
      refine append_bufR2 (σ := σ) (l' := [row]) Try.sl35 (by simp [Try.bt47]) (hx1.trans hx2) (hb1.grow hx2) rfl hrl (by simp [appFits, Try.bt47, hv1.1]; omega) fun r3 s3 hx3 hb3 hk3 => hR r3 s3 hx3 hb3 ?_
      exact RowsV.app ((hv1.keep fun j y h _ => hx2 j y h).keep hk3) (RowsV.one (hrow.keep hk3))
    have hgv : ∀ {v : VV}, v.good → v.norm → ∀ w ∈ vs ++ [v], w.good ∧ w.norm := by
      intro v h1 h2 w hw
      rcases List.mem_append.1 hw with hw | hw
      · exact hg1 w hw
      · simp at hw; subst hw; exact ⟨h1, h2⟩
    simp -implicitDefEqProofs only [d1,d2,hget,Q0,Q1,Q2,Q3,Q4,Q5,Q6,Q7,Q8,Q9,Qa,Qb,Qc,Qd,Qe,Qf,Qg,Qh,Qi,Qj,Qk,Ql,Qm,Qn,Qo,Qp,Qq,Qr,Qs,Qt,Qu,Qv,Qw,Qx,Qy,Qz,QA,QB,QC,QD,QE,QF,QG,QH,QI,QJ,QK,QL,QM,QN,QO,QP,QQ,QR,QS,QT,QU,QV,QW,QX,QY,QZ,X0,X1,X2,X3,X4,X5,X6,X7,X8,X9,Xa,Xb,Xc,Xd,Xe,Xf,Xg,Xh,Xi,Xj,Xk,Xl,Xm,Xn,Xo,Xp,Xq,Xr,Xs,Xt,Xu,Xv,Xw,Xx,Xy,Xz,XA,XB,XC,XD,XE,XF,XG,XH,XI,XJ,XK,XL,XM,XN,XO,XP,XQ,XR,XS,XT,XU,XV,XW,XX,XY,XZ,Y0,Y1,Y2,Y3,Y4,Y5,Y6,Y7,Y8,Y9,Ya,Yb,Yc,Yd,Ye,Yf,Yg,Yh,Yi,Yj,Yk,Yl,Ym,Yn,Yo,Yp,Yq,Yr,Ys,Yt,Yu,Yv,Yw,Yx,Yy,Yz,YA,YB,YC,YD,YE,YF,YG,YH,YI,YJ,YK,YL,YM,YN,YO,YP,YQ,YR,YS,YT,YU,YV,YW,YX,YY,reduceIte,reduceCtorEq,ite_true,ite_false,if_true,if_false,YZ,Z0,Z1,Z2,Z3,Z4,and_true,true_and,and_self,true_imp_iff,false_imp_iff,eq_self,not_true_eq_false,not_false_eq_true,ne_eq,decide_true,decide_false,Z5,Z6,Z7,Z8,Z9,Za,Zb,Zc,Zd,Ze,Zf,Zg,Zh,Zi,Zj,Zk,Zl,Try.underlying3,Try.cs3,Try.bt3,Try.pa3,Try.zr3,Try.underlying4,Try.cs4,Try.bt4,Try.pa4,Try.ty4,Try.zr4,Try.underlying5,Try.cs5,Try.bt5,Try.pa5,Try.zr5,Try.underlying22,Try.cs22,Try.bt22,Try.pa22,Try.zr22,Try.underlying24,Try.cs24,Try.bt24,Try.pa24,Try.ty24,Try.sl24,Try.zr24,Try.underlying33,Try.cs33,Try.bt33,Try.pa33,Try.ty33,Try.sl33,Try.zr33,Try.underlying35,Try.cs35,Try.bt35,Try.pa35,Try.ty35,Try.sl35,Try.zr35,Try.underlying47,Try.cs47,Try.bt47,Try.pa47,Try.ty47,Try.zr47,Try.pl47,Try.fd47_0,Try.fd47_1,Try.fd47_2,Try.fd47_3,Try.fd47_4]
    refine ⟨hb0, ?_⟩
    refine acalls_then (around x 6 _ (by omega)) ?_
    simp -implicitDefEqProofs only [← hk,hget,Q0,Q1,Q2,Q3,Q4,Q5,Q6,Q7,Q8,Q9,Qa,Qb,Qc,Qd,Qe,Qf,Qg,Qh,Qi,Qj,Qk,Ql,Qm,Qn,Qo,Qp,Qq,Qr,Qs,Qt,Qu,Qv,Qw,Qx,Qy,Qz,QA,QB,QC,QD,QE,QF,QG,QH,QI,QJ,QK,QL,QM,QN,QO,QP,QQ,QR,QS,QT,QU,QV,QW,QX,QY,QZ,X0,X1,X2,X3,X4,X5,X6,X7,X8,X9,Xa,Xb,Xc,Xd,Xe,Xf,Xg,Xh,Xi,Xj,Xk,Xl,Xm,Xn,Xo,Xp,Xq,Xr,Xs,Xt,Xu,Xv,Xw,Xx,Xy,Xz,XA,XB,XC,XD,XE,XF,XG,XH,XI,XJ,XK,XL,XM,XN,XO,XP,XQ,XR,XS,XT,XU,XV,XW,XX,XY,XZ,Y0,Y1,Y2,Y3,Y4,Y5,Y6,Y7,Y8,Y9,Ya,Yb,Yc,Yd,Ye,Yf,Yg,Yh,Yi,Yj,Yk,Yl,Ym,Yn,Yo,Yp,Yq,Yr,Ys,Yt,Yu,Yv,Yw,Yx,Yy,Yz,YA,YB,YC,YD,YE,YF,YG,YH,YI,YJ,YK,YL,YM,YN,YO,YP,YQ,YR,YS,YT,YU,YV,YW,YX,YY,reduceIte,reduceCtorEq,ite_true,ite_false,if_true,if_false,YZ,Z0,Z1,Z2,Z3,Z4,and_true,true_and,and_self,true_imp_iff,false_imp_iff,eq_self,not_true_eq_false,not_false_eq_true,ne_eq,decide_true,decide_false,Z5,Z6,Z7,Z8,Z9,Za,Zb,Zc,Zd,Ze,Zf,Zg,Zh,Zi,Zj,Zk,Zl,Try.underlying3,Try.cs3,Try.bt3,Try.pa3,Try.zr3,Try.underlying4,Try.cs4,Try.bt4,Try.pa4,Try.ty4,Try.zr4,Try.underlying5,Try.cs5,Try.bt5,Try.pa5,Try.zr5,Try.underlying22,Try.cs22,Try.bt22,Try.pa22,Try.zr22,Try.underlying24,Try.cs24,Try.bt24,Try.pa24,Try.ty24,Try.sl24,Try.zr24,Try.underlying33,Try.cs33,Try.bt33,Try.pa33,Try.ty33,Try.sl33,Try.zr33,Try.underlying35,Try.cs35,Try.bt35,Try.pa35,Try.ty35,Try.sl35,Try.zr35,Try.underlying47,Try.cs47,Try.bt47,Try.pa47,Try.ty47,Try.zr47,Try.pl47,Try.fd47_0,Try.fd47_1,Try.fd47_2,Try.fd47_3,Try.fd47_4]
    refine ⟨hb0, ?_⟩
    simp -implicitDefEqProofs only [q6,Q0,Q1,Q2,Q3,Q4,Q5,Q6,Q7,Q8,Q9,Qa,Qb,Qc,Qd,Qe,Qf,Qg,Qh,Qi,Qj,Qk,Ql,Qm,Qn,Qo,Qp,Qq,Qr,Qs,Qt,Qu,Qv,Qw,Qx,Qy,Qz,QA,QB,QC,QD,QE,QF,QG,QH,QI,QJ,QK,QL,QM,QN,QO,QP,QQ,QR,QS,QT,QU,QV,QW,QX,QY,QZ,X0,X1,X2,X3,X4,X5,X6,X7,X8,X9,Xa,Xb,Xc,Xd,Xe,Xf,Xg,Xh,Xi,Xj,Xk,Xl,Xm,Xn,Xo,Xp,Xq,Xr,Xs,Xt,Xu,Xv,Xw,Xx,Xy,Xz,XA,XB,XC,XD,XE,XF,XG,XH,XI,XJ,XK,XL,XM,XN,XO,XP,XQ,XR,XS,XT,XU,XV,XW,XX,XY,XZ,Y0,Y1,Y2,Y3,Y4,Y5,Y6,Y7,Y8,Y9,Ya,Yb,Yc,Yd,Ye,Yf,Yg,Yh,Yi,Yj,Yk,Yl,Ym,Yn,Yo,Yp,Yq,Yr,Ys,Yt,Yu,Yv,Yw,Yx,Yy,Yz,YA,YB,YC,YD,YE,YF,YG,YH,YI,YJ,YK,YL,YM,YN,YO,YP,YQ,YR,YS,YT,YU,YV,YW,YX,YY,reduceIte,reduceCtorEq,ite_true,ite_false,if_true,if_false,YZ,Z0,Z1,Z2,Z3,Z4,and_true,true_and,and_self,true_imp_iff,false_imp_iff,eq_self,not_true_eq_false,not_false_eq_true,ne_eq,decide_true,decide_false,Z5,Z6,Z7,Z8,Z9,Za,Zb,Zc,Zd,Ze,Zf,Zg,Zh,Zi,Zj,Zk,Zl,Try.underlying3,Try.cs3,Try.bt3,Try.pa3,Try.zr3,Try.underlying4,Try.cs4,Try.bt4,Try.pa4,Try.ty4,Try.zr4,Try.underlying5,Try.cs5,Try.bt5,Try.pa5,Try.zr5,Try.underlying22,Try.cs22,Try.bt22,Try.pa22,Try.zr22,Try.underlying24,Try.cs24,Try.bt24,Try.pa24,Try.ty24,Try.sl24,Try.zr24,Try.underlying33,Try.cs33,Try.bt33,Try.pa33,Try.ty33,Try.sl33,Try.zr33,Try.underlying35,Try.cs35,Try.bt35,Try.pa35,Try.ty35,Try.sl35,Try.zr35,Try.underlying47,Try.cs47,Try.bt47,Try.pa47,Try.ty47,Try.zr47,Try.pl47,Try.fd47_0,Try.fd47_1,Try.fd47_2,Try.fd47_3,Try.fd47_4]
    refine acalls_then (around (x.tdiv 6) 63 _ (by omega)) ?_
    simp -implicitDefEqProofs only [← hn,Q0,Q1,Q2,Q3,Q4,Q5,Q6,Q7,Q8,Q9,Qa,Qb,Qc,Qd,Qe,Qf,Qg,Qh,Qi,Qj,Qk,Ql,Qm,Qn,Qo,Qp,Qq,Qr,Qs,Qt,Qu,Qv,Qw,Qx,Qy,Qz,QA,QB,QC,QD,QE,QF,QG,QH,QI,QJ,QK,QL,QM,QN,QO,QP,QQ,QR,QS,QT,QU,QV,QW,QX,QY,QZ,X0,X1,X2,X3,X4,X5,X6,X7,X8,X9,Xa,Xb,Xc,Xd,Xe,Xf,Xg,Xh,Xi,Xj,Xk,Xl,Xm,Xn,Xo,Xp,Xq,Xr,Xs,Xt,Xu,Xv,Xw,Xx,Xy,Xz,XA,XB,XC,XD,XE,XF,XG,XH,XI,XJ,XK,XL,XM,XN,XO,XP,XQ,XR,XS,XT,XU,XV,XW,XX,XY,XZ,Y0,Y1,Y2,Y3,Y4,Y5,Y6,Y7,Y8,Y9,Ya,Yb,Yc,Yd,Ye,Yf,Yg,Yh,Yi,Yj,Yk,Yl,Ym,Yn,Yo,Yp,Yq,Yr,Ys,Yt,Yu,Yv,Yw,Yx,Yy,Yz,YA,YB,YC,YD,YE,YF,YG,YH,YI,YJ,YK,YL,YM,YN,YO,YP,YQ,YR,YS,YT,YU,YV,YW,YX,YY,reduceIte,reduceCtorEq,ite_true,ite_false,if_true,if_false,YZ,Z0,Z1,Z2,Z3,Z4,and_true,true_and,and_self,true_imp_iff,false_imp_iff,eq_self,not_true_eq_false,not_false_eq_true,ne_eq,decide_true,decide_false,Z5,Z6,Z7,Z8,Z9,Za,Zb,Zc,Zd,Ze,Zf,Zg,Zh,Zi,Zj,Zk,Zl,Try.underlying3,Try.cs3,Try.bt3,Try.pa3,Try.zr3,Try.underlying4,Try.cs4,Try.bt4,Try.pa4,Try.ty4,Try.zr4,Try.underlying5,Try.cs5,Try.bt5,Try.pa5,Try.zr5,Try.underlying22,Try.cs22,Try.bt22,Try.pa22,Try.zr22,Try.underlying24,Try.cs24,Try.bt24,Try.pa24,Try.ty24,Try.sl24,Try.zr24,Try.underlying33,Try.cs33,Try.bt33,Try.pa33,Try.ty33,Try.sl33,Try.zr33,Try.underlying35,Try.cs35,Try.bt35,Try.pa35,Try.ty35,Try.sl35,Try.zr35,Try.underlying47,Try.cs47,Try.bt47,Try.pa47,Try.ty47,Try.zr47,Try.pl47,Try.fd47_0,Try.fd47_1,Try.fd47_2,Try.fd47_3,Try.fd47_4]
    by_cases k0 : k = 0
    · have e0 : decide (k = 0) = true := decide_eq_true k0
      obtain ⟨u, hu, hul⟩ := shr_u64 (u := IntKind.u64.wrap x) (a := n) (wrap_u64_bound x)
      simp -implicitDefEqProofs only [e0,hget,wn,hu,Q0,Q1,Q2,Q3,Q4,Q5,Q6,Q7,Q8,Q9,Qa,Qb,Qc,Qd,Qe,Qf,Qg,Qh,Qi,Qj,Qk,Ql,Qm,Qn,Qo,Qp,Qq,Qr,Qs,Qt,Qu,Qv,Qw,Qx,Qy,Qz,QA,QB,QC,QD,QE,QF,QG,QH,QI,QJ,QK,QL,QM,QN,QO,QP,QQ,QR,QS,QT,QU,QV,QW,QX,QY,QZ,X0,X1,X2,X3,X4,X5,X6,X7,X8,X9,Xa,Xb,Xc,Xd,Xe,Xf,Xg,Xh,Xi,Xj,Xk,Xl,Xm,Xn,Xo,Xp,Xq,Xr,Xs,Xt,Xu,Xv,Xw,Xx,Xy,Xz,XA,XB,XC,XD,XE,XF,XG,XH,XI,XJ,XK,XL,XM,XN,XO,XP,XQ,XR,XS,XT,XU,XV,XW,XX,XY,XZ,Y0,Y1,Y2,Y3,Y4,Y5,Y6,Y7,Y8,Y9,Ya,Yb,Yc,Yd,Ye,Yf,Yg,Yh,Yi,Yj,Yk,Yl,Ym,Yn,Yo,Yp,Yq,Yr,Ys,Yt,Yu,Yv,Yw,Yx,Yy,Yz,YA,YB,YC,YD,YE,YF,YG,YH,YI,YJ,YK,YL,YM,YN,YO,YP,YQ,YR,YS,YT,YU,YV,YW,YX,YY,reduceIte,reduceCtorEq,ite_true,ite_false,if_true,if_false,YZ,Z0,Z1,Z2,Z3,Z4,and_true,true_and,and_self,true_imp_iff,false_imp_iff,eq_self,not_true_eq_false,not_false_eq_true,ne_eq,decide_true,decide_false,Z5,Z6,Z7,Z8,Z9,Za,Zb,Zc,Zd,Ze,Zf,Zg,Zh,Zi,Zj,Zk,Zl,Try.underlying3,Try.cs3,Try.bt3,Try.pa3,Try.zr3,Try.underlying4,Try.cs4,Try.bt4,Try.pa4,Try.ty4,Try.zr4,Try.underlying5,Try.cs5,Try.bt5,Try.pa5,Try.zr5,Try.underlying22,Try.cs22,Try.bt22,Try.pa22,Try.zr22,Try.underlying24,Try.cs24,Try.bt24,Try.pa24,Try.ty24,Try.sl24,Try.zr24,Try.underlying33,Try.cs33,Try.bt33,Try.pa33,Try.ty33,Try.sl33,Try.zr33,Try.underlying35,Try.cs35,Try.bt35,Try.pa35,Try.ty35,Try.sl35,Try.zr35,Try.underlying47,Try.cs47,Try.bt47,Try.pa47,Try.ty47,Try.zr47,Try.pl47,Try.fd47_0,Try.fd47_1,Try.fd47_2,Try.fd47_3,Try.fd47_4]
      refine ⟨hb0, by omega, ?_⟩
      refine fin (v := ⟨k, u, 0, [], []⟩) (ext_app _ _) ⟨_, _, rfl, .inl (.inl ⟨.inl rfl, rfl⟩), .inl (.inl ⟨.inl rfl, rfl⟩)⟩ _ fun r3 s3 hx3 hb3 hv3 => ?_
      simp -implicitDefEqProofs only [wi,Q0,Q1,Q2,Q3,Q4,Q5,Q6,Q7,Q8,Q9,Qa,Qb,Qc,Qd,Qe,Qf,Qg,Qh,Qi,Qj,Qk,Ql,Qm,Qn,Qo,Qp,Qq,Qr,Qs,Qt,Qu,Qv,Qw,Qx,Qy,Qz,QA,QB,QC,QD,QE,QF,QG,QH,QI,QJ,QK,QL,QM,QN,QO,QP,QQ,QR,QS,QT,QU,QV,QW,QX,QY,QZ,X0,X1,X2,X3,X4,X5,X6,X7,X8,X9,Xa,Xb,Xc,Xd,Xe,Xf,Xg,Xh,Xi,Xj,Xk,Xl,Xm,Xn,Xo,Xp,Xq,Xr,Xs,Xt,Xu,Xv,Xw,Xx,Xy,Xz,XA,XB,XC,XD,XE,XF,XG,XH,XI,XJ,XK,XL,XM,XN,XO,XP,XQ,XR,XS,XT,XU,XV,XW,XX,XY,XZ,Y0,Y1,Y2,Y3,Y4,Y5,Y6,Y7,Y8,Y9,Ya,Yb,Yc,Yd,Ye,Yf,Yg,Yh,Yi,Yj,Yk,Yl,Ym,Yn,Yo,Yp,Yq,Yr,Ys,Yt,Yu,Yv,Yw,Yx,Yy,Yz,YA,YB,YC,YD,YE,YF,YG,YH,YI,YJ,YK,YL,YM,YN,YO,YP,YQ,YR,YS,YT,YU,YV,YW,YX,YY,reduceIte,reduceCtorEq,ite_true,ite_false,if_true,if_false,YZ,Z0,Z1,Z2,Z3,Z4,and_true,true_and,and_self,true_imp_iff,false_imp_iff,eq_self,not_true_eq_false,not_false_eq_true,ne_eq,decide_true,decide_false,Z5,Z6,Z7,Z8,Z9,Za,Zb,Zc,Zd,Ze,Zf,Zg,Zh,Zi,Zj,Zk,Zl,Try.underlying3,Try.cs3,Try.bt3,Try.pa3,Try.zr3,Try.underlying4,Try.cs4,Try.bt4,Try.pa4,Try.ty4,Try.zr4,Try.underlying5,Try.cs5,Try.bt5,Try.pa5,Try.zr5,Try.underlying22,Try.cs22,Try.bt22,Try.pa22,Try.zr22,Try.underlying24,Try.cs24,Try.bt24,Try.pa24,Try.ty24,Try.sl24,Try.zr24,Try.underlying33,Try.cs33,Try.bt33,Try.pa33,Try.ty33,Try.sl33,Try.zr33,Try.underlying35,Try.cs35,Try.bt35,Try.pa35,Try.ty35,Try.sl35,Try.zr35,Try.underlying47,Try.cs47,Try.bt47,Try.pa47,Try.ty47,Try.zr47,Try.pl47,Try.fd47_0,Try.fd47_1,Try.fd47_2,Try.fd47_3,Try.fd47_4]
      refine ⟨(i + 1, r3, _, _), ⟨rfl, rfl⟩, ⟨by simp only; omega, hx3, hb3, hv3, hgv ⟨hkb, hul, ⟨by simp, by simp⟩, by intro y hy; simp at hy, by simp, by simp, by simp⟩ ⟨by simp [k0], by simp, by simp, by simp, by simp, by simp, by simp⟩, by simp [hvl]⟩, by simp only; omega⟩
    have e0 : decide (k = 0) = false := decide_eq_false k0
    by_cases k1 : k = 1
    · have e1 : decide (k = 1) = true := decide_eq_true k1
      have hsh := shr_i64 (x := x) (a := n) hx63
      simp -implicitDefEqProofs only [e0,e1,hget,wn,Q0,Q1,Q2,Q3,Q4,Q5,Q6,Q7,Q8,Q9,Qa,Qb,Qc,Qd,Qe,Qf,Qg,Qh,Qi,Qj,Qk,Ql,Qm,Qn,Qo,Qp,Qq,Qr,Qs,Qt,Qu,Qv,Qw,Qx,Qy,Qz,QA,QB,QC,QD,QE,QF,QG,QH,QI,QJ,QK,QL,QM,QN,QO,QP,QQ,QR,QS,QT,QU,QV,QW,QX,QY,QZ,X0,X1,X2,X3,X4,X5,X6,X7,X8,X9,Xa,Xb,Xc,Xd,Xe,Xf,Xg,Xh,Xi,Xj,Xk,Xl,Xm,Xn,Xo,Xp,Xq,Xr,Xs,Xt,Xu,Xv,Xw,Xx,Xy,Xz,XA,XB,XC,XD,XE,XF,XG,XH,XI,XJ,XK,XL,XM,XN,XO,XP,XQ,XR,XS,XT,XU,XV,XW,XX,XY,XZ,Y0,Y1,Y2,Y3,Y4,Y5,Y6,Y7,Y8,Y9,Ya,Yb,Yc,Yd,Ye,Yf,Yg,Yh,Yi,Yj,Yk,Yl,Ym,Yn,Yo,Yp,Yq,Yr,Ys,Yt,Yu,Yv,Yw,Yx,Yy,Yz,YA,YB,YC,YD,YE,YF,YG,YH,YI,YJ,YK,YL,YM,YN,YO,YP,YQ,YR,YS,YT,YU,YV,YW,YX,YY,reduceIte,reduceCtorEq,ite_true,ite_false,if_true,if_false,YZ,Z0,Z1,Z2,Z3,Z4,and_true,true_and,and_self,true_imp_iff,false_imp_iff,eq_self,not_true_eq_false,not_false_eq_true,ne_eq,decide_true,decide_false,Z5,Z6,Z7,Z8,Z9,Za,Zb,Zc,Zd,Ze,Zf,Zg,Zh,Zi,Zj,Zk,Zl,Try.underlying3,Try.cs3,Try.bt3,Try.pa3,Try.zr3,Try.underlying4,Try.cs4,Try.bt4,Try.pa4,Try.ty4,Try.zr4,Try.underlying5,Try.cs5,Try.bt5,Try.pa5,Try.zr5,Try.underlying22,Try.cs22,Try.bt22,Try.pa22,Try.zr22,Try.underlying24,Try.cs24,Try.bt24,Try.pa24,Try.ty24,Try.sl24,Try.zr24,Try.underlying33,Try.cs33,Try.bt33,Try.pa33,Try.ty33,Try.sl33,Try.zr33,Try.underlying35,Try.cs35,Try.bt35,Try.pa35,Try.ty35,Try.sl35,Try.zr35,Try.underlying47,Try.cs47,Try.bt47,Try.pa47,Try.ty47,Try.zr47,Try.pl47,Try.fd47_0,Try.fd47_1,Try.fd47_2,Try.fd47_3,Try.fd47_4]
      refine ⟨hb0, by omega, ?_⟩
      refine fin (v := ⟨k, 0, ishr .i64 x n, [], []⟩) (ext_app _ _) ⟨_, _, rfl, .inl (.inl ⟨.inl rfl, rfl⟩), .inl (.inl ⟨.inl rfl, rfl⟩)⟩ _ fun r3 s3 hx3 hb3 hv3 => ?_
      simp -implicitDefEqProofs only [wi,Q0,Q1,Q2,Q3,Q4,Q5,Q6,Q7,Q8,Q9,Qa,Qb,Qc,Qd,Qe,Qf,Qg,Qh,Qi,Qj,Qk,Ql,Qm,Qn,Qo,Qp,Qq,Qr,Qs,Qt,Qu,Qv,Qw,Qx,Qy,Qz,QA,QB,QC,QD,QE,QF,QG,QH,QI,QJ,QK,QL,QM,QN,QO,QP,QQ,QR,QS,QT,QU,QV,QW,QX,QY,QZ,X0,X1,X2,X3,X4,X5,X6,X7,X8,X9,Xa,Xb,Xc,Xd,Xe,Xf,Xg,Xh,Xi,Xj,Xk,Xl,Xm,Xn,Xo,Xp,Xq,Xr,Xs,Xt,Xu,Xv,Xw,Xx,Xy,Xz,XA,XB,XC,XD,XE,XF,XG,XH,XI,XJ,XK,XL,XM,XN,XO,XP,XQ,XR,XS,XT,XU,XV,XW,XX,XY,XZ,Y0,Y1,Y2,Y3,Y4,Y5,Y6,Y7,Y8,Y9,Ya,Yb,Yc,Yd,Ye,Yf,Yg,Yh,Yi,Yj,Yk,Yl,Ym,Yn,Yo,Yp,Yq,Yr,Ys,Yt,Yu,Yv,Yw,Yx,Yy,Yz,YA,YB,YC,YD,YE,YF,YG,YH,YI,YJ,YK,YL,YM,YN,YO,YP,YQ,YR,YS,YT,YU,YV,YW,YX,YY,reduceIte,reduceCtorEq,ite_true,ite_false,if_true,if_false,YZ,Z0,Z1,Z2,Z3,Z4,and_true,true_and,and_self,true_imp_iff,false_imp_iff,eq_self,not_true_eq_false,not_false_eq_true,ne_eq,decide_true,decide_false,Z5,Z6,Z7,Z8,Z9,Za,Zb,Zc,Zd,Ze,Zf,Zg,Zh,Zi,Zj,Zk,Zl,Try.underlying3,Try.cs3,Try.bt3,Try.pa3,Try.zr3,Try.underlying4,Try.cs4,Try.bt4,Try.pa4,Try.ty4,Try.zr4,Try.underlying5,Try.cs5,Try.bt5,Try.pa5,Try.zr5,Try.underlying22,Try.cs22,Try.bt22,Try.pa22,Try.zr22,Try.underlying24,Try.cs24,Try.bt24,Try.pa24,Try.ty24,Try.sl24,Try.zr24,Try.underlying33,Try.cs33,Try.bt33,Try.pa33,Try.ty33,Try.sl33,Try.zr33,Try.underlying35,Try.cs35,Try.bt35,Try.pa35,Try.ty35,Try.sl35,Try.zr35,Try.underlying47,Try.cs47,Try.bt47,Try.pa47,Try.ty47,Try.zr47,Try.pl47,Try.fd47_0,Try.fd47_1,Try.fd47_2,Try.fd47_3,Try.fd47_4]
      refine ⟨(i + 1, r3, _, _), ⟨rfl, rfl⟩, ⟨by simp only; omega, hx3, hb3, hv3, hgv ⟨hkb, by simp, hsh, by intro y hy; simp at hy, by simp, by simp, by simp⟩ ⟨by simp, fun h => absurd k1 h, fun h => by simp only at h; omega, by simp, by simp, by simp, by simp⟩, by simp [hvl]⟩, by simp only; omega⟩
    have e1 : decide (k = 1) = false := decide_eq_false k1
    by_cases k2 : k = 2
    · have e2 : decide (k = 2) = true := decide_eq_true k2
      have e3 : n.tmod 2 = n % 2 := Int.tmod_eq_emod_of_nonneg (by omega)
      simp -implicitDefEqProofs only [e0,e1,e2,hget,e3,Q0,Q1,Q2,Q3,Q4,Q5,Q6,Q7,Q8,Q9,Qa,Qb,Qc,Qd,Qe,Qf,Qg,Qh,Qi,Qj,Qk,Ql,Qm,Qn,Qo,Qp,Qq,Qr,Qs,Qt,Qu,Qv,Qw,Qx,Qy,Qz,QA,QB,QC,QD,QE,QF,QG,QH,QI,QJ,QK,QL,QM,QN,QO,QP,QQ,QR,QS,QT,QU,QV,QW,QX,QY,QZ,X0,X1,X2,X3,X4,X5,X6,X7,X8,X9,Xa,Xb,Xc,Xd,Xe,Xf,Xg,Xh,Xi,Xj,Xk,Xl,Xm,Xn,Xo,Xp,Xq,Xr,Xs,Xt,Xu,Xv,Xw,Xx,Xy,Xz,XA,XB,XC,XD,XE,XF,XG,XH,XI,XJ,XK,XL,XM,XN,XO,XP,XQ,XR,XS,XT,XU,XV,XW,XX,XY,XZ,Y0,Y1,Y2,Y3,Y4,Y5,Y6,Y7,Y8,Y9,Ya,Yb,Yc,Yd,Ye,Yf,Yg,Yh,Yi,Yj,Yk,Yl,Ym,Yn,Yo,Yp,Yq,Yr,Ys,Yt,Yu,Yv,Yw,Yx,Yy,Yz,YA,YB,YC,YD,YE,YF,YG,YH,YI,YJ,YK,YL,YM,YN,YO,YP,YQ,YR,YS,YT,YU,YV,YW,YX,YY,reduceIte,reduceCtorEq,ite_true,ite_false,if_true,if_false,YZ,Z0,Z1,Z2,Z3,Z4,and_true,true_and,and_self,true_imp_iff,false_imp_iff,eq_self,not_true_eq_false,not_false_eq_true,ne_eq,decide_true,decide_false,Z5,Z6,Z7,Z8,Z9,Za,Zb,Zc,Zd,Ze,Zf,Zg,Zh,Zi,Zj,Zk,Zl,Try.underlying3,Try.cs3,Try.bt3,Try.pa3,Try.zr3,Try.underlying4,Try.cs4,Try.bt4,Try.pa4,Try.ty4,Try.zr4,Try.underlying5,Try.cs5,Try.bt5,Try.pa5,Try.zr5,Try.underlying22,Try.cs22,Try.bt22,Try.pa22,Try.zr22,Try.underlying24,Try.cs24,Try.bt24,Try.pa24,Try.ty24,Try.sl24,Try.zr24,Try.underlying33,Try.cs33,Try.bt33,Try.pa33,Try.ty33,Try.sl33,Try.zr33,Try.underlying35,Try.cs35,Try.bt35,Try.pa35,Try.ty35,Try.sl35,Try.zr35,Try.underlying47,Try.cs47,Try.bt47,Try.pa47,Try.ty47,Try.zr47,Try.pl47,Try.fd47_0,Try.fd47_1,Try.fd47_2,Try.fd47_3,Try.fd47_4]
      refine fin (v := ⟨k, 0, n % 2, [], []⟩) (ext_app _ _) ⟨_, _, rfl, .inl (.inl ⟨.inl rfl, rfl⟩), .inl (.inl ⟨.inl rfl, rfl⟩)⟩ _ fun r3 s3 hx3 hb3 hv3 => ?_
      simp -implicitDefEqProofs only [wi,Q0,Q1,Q2,Q3,Q4,Q5,Q6,Q7,Q8,Q9,Qa,Qb,Qc,Qd,Qe,Qf,Qg,Qh,Qi,Qj,Qk,Ql,Qm,Qn,Qo,Qp,Qq,Qr,Qs,Qt,Qu,Qv,Qw,Qx,Qy,Qz,QA,QB,QC,QD,QE,QF,QG,QH,QI,QJ,QK,QL,QM,QN,QO,QP,QQ,QR,QS,QT,QU,QV,QW,QX,QY,QZ,X0,X1,X2,X3,X4,X5,X6,X7,X8,X9,Xa,Xb,Xc,Xd,Xe,Xf,Xg,Xh,Xi,Xj,Xk,Xl,Xm,Xn,Xo,Xp,Xq,Xr,Xs,Xt,Xu,Xv,Xw,Xx,Xy,Xz,XA,XB,XC,XD,XE,XF,XG,XH,XI,XJ,XK,XL,XM,XN,XO,XP,XQ,XR,XS,XT,XU,XV,XW,XX,XY,XZ,Y0,Y1,Y2,Y3,Y4,Y5,Y6,Y7,Y8,Y9,Ya,Yb,Yc,Yd,Ye,Yf,Yg,Yh,Yi,Yj,Yk,Yl,Ym,Yn,Yo,Yp,Yq,Yr,Ys,Yt,Yu,Yv,Yw,Yx,Yy,Yz,YA,YB,YC,YD,YE,YF,YG,YH,YI,YJ,YK,YL,YM,YN,YO,YP,YQ,YR,YS,YT,YU,YV,YW,YX,YY,reduceIte,reduceCtorEq,ite_true,ite_false,if_true,if_false,YZ,Z0,Z1,Z2,Z3,Z4,and_true,true_and,and_self,true_imp_iff,false_imp_iff,eq_self,not_true_eq_false,not_false_eq_true,ne_eq,decide_true,decide_false,Z5,Z6,Z7,Z8,Z9,Za,Zb,Zc,Zd,Ze,Zf,Zg,Zh,Zi,Zj,Zk,Zl,Try.underlying3,Try.cs3,Try.bt3,Try.pa3,Try.zr3,Try.underlying4,Try.cs4,Try.bt4,Try.pa4,Try.ty4,Try.zr4,Try.underlying5,Try.cs5,Try.bt5,Try.pa5,Try.zr5,Try.underlying22,Try.cs22,Try.bt22,Try.pa22,Try.zr22,Try.underlying24,Try.cs24,Try.bt24,Try.pa24,Try.ty24,Try.sl24,Try.zr24,Try.underlying33,Try.cs33,Try.bt33,Try.pa33,Try.ty33,Try.sl33,Try.zr33,Try.underlying35,Try.cs35,Try.bt35,Try.pa35,Try.ty35,Try.sl35,Try.zr35,Try.underlying47,Try.cs47,Try.bt47,Try.pa47,Try.ty47,Try.zr47,Try.pl47,Try.fd47_0,Try.fd47_1,Try.fd47_2,Try.fd47_3,Try.fd47_4]
      refine ⟨(i + 1, r3, _, _), ⟨rfl, rfl⟩, ⟨by simp only; omega, hx3, hb3, hv3, hgv ⟨hkb, by simp, ⟨by simp only; omega, by simp only; omega⟩, by intro y hy; simp at hy, by simp, by simp, by simp⟩ ⟨by simp, fun _ h => absurd k2 h, fun h => by simp only; omega, by simp, by simp, by simp, by simp⟩, by simp [hvl]⟩, by simp only; omega⟩
    have e2 : decide (k = 2) = false := decide_eq_false k2
    have rd : ∀ {s' : Store} {B L : AV}, s'[s1.length]? = some (.box [.int .i64 k, .int .u64 0, .int .i64 0, B, L]) → ∀ B', (s'.set s1.length (.box [.int .i64 k, .int .u64 0, .int .i64 0, B', L]))[s1.length]? = some (.box [.int .i64 k, .int .u64 0, .int .i64 0, B', L]) := fun h B' => sto_here h
    have rdL : ∀ {s' : Store} {B L : AV}, s'[s1.length]? = some (.box [.int .i64 k, .int .u64 0, .int .i64 0, B, L]) → ∀ L', (s'.set s1.length (.box [.int .i64 k, .int .u64 0, .int .i64 0, B, L']))[s1.length]? = some (.box [.int .i64 k, .int .u64 0, .int .i64 0, B, L']) := fun h L' => sto_here h
    have ext1 : ∀ {s' : Store}, Ext (s1 ++ [.dead]) s' → Ext s1 s' := fun h => (ext_app s1 _).trans h
    by_cases k34 : k = 3 ∨ k = 4
    · have hd : decide (k = 3) = true ∨ (decide (k = 3) = false ∧ decide (k = 4) = true) := by
        rcases k34 with e | e
        · exact .inl (decide_eq_true e)
        · exact .inr ⟨decide_eq_false (by omega), decide_eq_true e⟩
      have e10 : n.tmod 10 = n % 10 := Int.tmod_eq_emod_of_nonneg (by omega)
      rcases hd with e3 | ⟨e3, e4⟩
      all_goals first
        | simp -implicitDefEqProofs only [e0,e1,e2,e3,e4,hget,Q0,Q1,Q2,Q3,Q4,Q5,Q6,Q7,Q8,Q9,Qa,Qb,Qc,Qd,Qe,Qf,Qg,Qh,Qi,Qj,Qk,Ql,Qm,Qn,Qo,Qp,Qq,Qr,Qs,Qt,Qu,Qv,Qw,Qx,Qy,Qz,QA,QB,QC,QD,QE,QF,QG,QH,QI,QJ,QK,QL,QM,QN,QO,QP,QQ,QR,QS,QT,QU,QV,QW,QX,QY,QZ,X0,X1,X2,X3,X4,X5,X6,X7,X8,X9,Xa,Xb,Xc,Xd,Xe,Xf,Xg,Xh,Xi,Xj,Xk,Xl,Xm,Xn,Xo,Xp,Xq,Xr,Xs,Xt,Xu,Xv,Xw,Xx,Xy,Xz,XA,XB,XC,XD,XE,XF,XG,XH,XI,XJ,XK,XL,XM,XN,XO,XP,XQ,XR,XS,XT,XU,XV,XW,XX,XY,XZ,Y0,Y1,Y2,Y3,Y4,Y5,Y6,Y7,Y8,Y9,Ya,Yb,Yc,Yd,Ye,Yf,Yg,Yh,Yi,Yj,Yk,Yl,Ym,Yn,Yo,Yp,Yq,Yr,Ys,Yt,Yu,Yv,Yw,Yx,Yy,Yz,YA,YB,YC,YD,YE,YF,YG,YH,YI,YJ,YK,YL,YM,YN,YO,YP,YQ,YR,YS,YT,YU,YV,YW,YX,YY,reduceIte,reduceCtorEq,ite_true,ite_false,if_true,if_false,YZ,Z0,Z1,Z2,Z3,Z4,and_true,true_and,and_self,true_imp_iff,false_imp_iff,eq_self,not_true_eq_false,not_false_eq_true,ne_eq,decide_true,decide_false,Z5,Z6,Z7,Z8,Z9,Za,Zb,Zc,Zd,Ze,Zf,Zg,Zh,Zi,Zj,Zk,Zl,Try.underlying3,Try.cs3,Try.bt3,Try.pa3,Try.zr3,Try.underlying4,Try.cs4,Try.bt4,Try.pa4,Try.ty4,Try.zr4,Try.underlying5,Try.cs5,Try.bt5,Try.pa5,Try.zr5,Try.underlying22,Try.cs22,Try.bt22,Try.pa22,Try.zr22,Try.underlying24,Try.cs24,Try.bt24,Try.pa24,Try.ty24,Try.sl24,Try.zr24,Try.underlying33,Try.cs33,Try.bt33,Try.pa33,Try.ty33,Try.sl33,Try.zr33,Try.underlying35,Try.cs35,Try.bt35,Try.pa35,Try.ty35,Try.sl35,Try.zr35,Try.underlying47,Try.cs47,Try.bt47,Try.pa47,Try.ty47,Try.zr47,Try.pl47,Try.fd47_0,Try.fd47_1,Try.fd47_2,Try.fd47_3,Try.fd47_4]
        | simp -implicitDefEqProofs only [e0,e1,e2,e3,hget,Q0,Q1,Q2,Q3,Q4,Q5,Q6,Q7,Q8,Q9,Qa,Qb,Qc,Qd,Qe,Qf,Qg,Qh,Qi,Qj,Qk,Ql,Qm,Qn,Qo,Qp,Qq,Qr,Qs,Qt,Qu,Qv,Qw,Qx,Qy,Qz,QA,QB,QC,QD,QE,QF,QG,QH,QI,QJ,QK,QL,QM,QN,QO,QP,QQ,QR,QS,QT,QU,QV,QW,QX,QY,QZ,X0,X1,X2,X3,X4,X5,X6,X7,X8,X9,Xa,Xb,Xc,Xd,Xe,Xf,Xg,Xh,Xi,Xj,Xk,Xl,Xm,Xn,Xo,Xp,Xq,Xr,Xs,Xt,Xu,Xv,Xw,Xx,Xy,Xz,XA,XB,XC,XD,XE,XF,XG,XH,XI,XJ,XK,XL,XM,XN,XO,XP,XQ,XR,XS,XT,XU,XV,XW,XX,XY,XZ,Y0,Y1,Y2,Y3,Y4,Y5,Y6,Y7,Y8,Y9,Ya,Yb,Yc,Yd,Ye,Yf,Yg,Yh,Yi,Yj,Yk,Yl,Ym,Yn,Yo,Yp,Yq,Yr,Ys,Yt,Yu,Yv,Yw,Yx,Yy,Yz,YA,YB,YC,YD,YE,YF,YG,YH,YI,YJ,YK,YL,YM,YN,YO,YP,YQ,YR,YS,YT,YU,YV,YW,YX,YY,reduceIte,reduceCtorEq,ite_true,ite_false,if_true,if_false,YZ,Z0,Z1,Z2,Z3,Z4,and_true,true_and,and_self,true_imp_iff,false_imp_iff,eq_self,not_true_eq_false,not_false_eq_true,ne_eq,decide_true,decide_false,Z5,Z6,Z7,Z8,Z9,Za,Zb,Zc,Zd,Ze,Zf,Zg,Zh,Zi,Zj,Zk,Zl,Try.underlying3,Try.cs3,Try.bt3,Try.pa3,Try.zr3,Try.underlying4,Try.cs4,Try.bt4,Try.pa4,Try.ty4,Try.zr4,Try.underlying5,Try.cs5,Try.bt5,Try.pa5,Try.zr5,Try.underlying22,Try.cs22,Try.bt22,Try.pa22,Try.zr22,Try.underlying24,Try.cs24,Try.bt24,Try.pa24,Try.ty24,Try.sl24,Try.zr24,Try.underlying33,Try.cs33,Try.bt33,Try.pa33,Try.ty33,Try.sl33,Try.zr33,Try.underlying35,Try.cs35,Try.bt35,Try.pa35,Try.ty35,Try.sl35,Try.zr35,Try.underlying47,Try.cs47,Try.bt47,Try.pa47,Try.ty47,Try.zr47,Try.pl47,Try.fd47_0,Try.fd47_1,Try.fd47_2,Try.fd47_3,Try.fd47_4]
      all_goals
        refine awp_loop (fun j : Nat => [(8, .int .i64 j), (6, .int .i64 n), (7, .ptr s1.length 0), (0, .ints .i64 l), (4, .int .i64 i), (3, r)])
          (fun j s' => (j : Int) ≤ n % 10 ∧ Ext s1 s' ∧ ∃ B acc, s'[s1.length]? = some (.box [.int .i64 k, .int .u64 0, .int .i64 0, B, .nils]) ∧ BufI s' (s1.length + 1) B .u8 acc ∧ acc.length = j ∧ U8s acc) (fun j => (n % 10).toNat - j) 0 (by kernel_rfl) (by simp [sub_cons, sub_nil, get_cons])
          ⟨by omega, ext_app _ _, .nils, [], by simp, .inl ⟨.inl rfl, rfl⟩, rfl, by intro y hy; simp at hy⟩ ?_
        rintro j s2 ⟨hj, hx2, B, acc, hB, hbB, hal, hau⟩
        have hs1 : s1.length < s2.length := (List.getElem?_eq_some_iff.1 hB).1
        by_cases hjl : (j : Int) < n % 10
        · have dj : decide ((j : Int) < n % 10) = true := decide_eq_true hjl
          have wj : IntKind.u64.wrap (j : Int) = (j : Int) := wrap_u64 (by omega) (by omega)
          have wj1 : IntKind.i64.wrap ((j : Int) + 1) = ((j + 1 : Nat) : Int) := by rw [wrap_i64 (by omega) (by omega)]; rfl
          have hu8 := wrap_u8_in (ishr .i64 x j)
          simp -implicitDefEqProofs only [e10,dj,Q0,Q1,Q2,Q3,Q4,Q5,Q6,Q7,Q8,Q9,Qa,Qb,Qc,Qd,Qe,Qf,Qg,Qh,Qi,Qj,Qk,Ql,Qm,Qn,Qo,Qp,Qq,Qr,Qs,Qt,Qu,Qv,Qw,Qx,Qy,Qz,QA,QB,QC,QD,QE,QF,QG,QH,QI,QJ,QK,QL,QM,QN,QO,QP,QQ,QR,QS,QT,QU,QV,QW,QX,QY,QZ,X0,X1,X2,X3,X4,X5,X6,X7,X8,X9,Xa,Xb,Xc,Xd,Xe,Xf,Xg,Xh,Xi,Xj,Xk,Xl,Xm,Xn,Xo,Xp,Xq,Xr,Xs,Xt,Xu,Xv,Xw,Xx,Xy,Xz,XA,XB,XC,XD,XE,XF,XG,XH,XI,XJ,XK,XL,XM,XN,XO,XP,XQ,XR,XS,XT,XU,XV,XW,XX,XY,XZ,Y0,Y1,Y2,Y3,Y4,Y5,Y6,Y7,Y8,Y9,Ya,Yb,Yc,Yd,Ye,Yf,Yg,Yh,Yi,Yj,Yk,Yl,Ym,Yn,Yo,Yp,Yq,Yr,Ys,Yt,Yu,Yv,Yw,Yx,Yy,Yz,YA,YB,YC,YD,YE,YF,YG,YH,YI,YJ,YK,YL,YM,YN,YO,YP,YQ,YR,YS,YT,YU,YV,YW,YX,YY,reduceIte,reduceCtorEq,ite_true,ite_false,if_true,if_false,YZ,Z0,Z1,Z2,Z3,Z4,and_true,true_and,and_self,true_imp_iff,false_imp_iff,eq_self,not_true_eq_false,not_false_eq_true,ne_eq,decide_true,decide_false,Z5,Z6,Z7,Z8,Z9,Za,Zb,Zc,Zd,Ze,Zf,Zg,Zh,Zi,Zj,Zk,Zl,Try.underlying3,Try.cs3,Try.bt3,Try.pa3,Try.zr3,Try.underlying4,Try.cs4,Try.bt4,Try.pa4,Try.ty4,Try.zr4,Try.underlying5,Try.cs5,Try.bt5,Try.pa5,Try.zr5,Try.underlying22,Try.cs22,Try.bt22,Try.pa22,Try.zr22,Try.underlying24,Try.cs24,Try.bt24,Try.pa24,Try.ty24,Try.sl24,Try.zr24,Try.underlying33,Try.cs33,Try.bt33,Try.pa33,Try.ty33,Try.sl33,Try.zr33,Try.underlying35,Try.cs35,Try.bt35,Try.pa35,Try.ty35,Try.sl35,Try.zr35,Try.underlying47,Try.cs47,Try.bt47,Try.pa47,Try.ty47,Try.zr47,Try.pl47,Try.fd47_0,Try.fd47_1,Try.fd47_2,Try.fd47_3,Try.fd47_4]
          refine awp_draws [11, 13, 100001] Try.mixed (by kernel_rfl) ?_
          simp -implicitDefEqProofs only [hB,hget,wj,Q0,Q1,Q2,Q3,Q4,Q5,Q6,Q7,Q8,Q9,Qa,Qb,Qc,Qd,Qe,Qf,Qg,Qh,Qi,Qj,Qk,Ql,Qm,Qn,Qo,Qp,Qq,Qr,Qs,Qt,Qu,Qv,Qw,Qx,Qy,Qz,QA,QB,QC,QD,QE,QF,QG,QH,QI,QJ,QK,QL,QM,QN,QO,QP,QQ,QR,QS,QT,QU,QV,QW,QX,QY,QZ,X0,X1,X2,X3,X4,X5,X6,X7,X8,X9,Xa,Xb,Xc,Xd,Xe,Xf,Xg,Xh,Xi,Xj,Xk,Xl,Xm,Xn,Xo,Xp,Xq,Xr,Xs,Xt,Xu,Xv,Xw,Xx,Xy,Xz,XA,XB,XC,XD,XE,XF,XG,XH,XI,XJ,XK,XL,XM,XN,XO,XP,XQ,XR,XS,XT,XU,XV,XW,XX,XY,XZ,Y0,Y1,Y2,Y3,Y4,Y5,Y6,Y7,Y8,Y9,Ya,Yb,Yc,Yd,Ye,Yf,Yg,Yh,Yi,Yj,Yk,Yl,Ym,Yn,Yo,Yp,Yq,Yr,Ys,Yt,Yu,Yv,Yw,Yx,Yy,Yz,YA,YB,YC,YD,YE,YF,YG,YH,YI,YJ,YK,YL,YM,YN,YO,YP,YQ,YR,YS,YT,YU,YV,YW,YX,YY,reduceIte,reduceCtorEq,ite_true,ite_false,if_true,if_false,YZ,Z0,Z1,Z2,Z3,Z4,and_true,true_and,and_self,true_imp_iff,false_imp_iff,eq_self,not_true_eq_false,not_false_eq_true,ne_eq,decide_true,decide_false,Z5,Z6,Z7,Z8,Z9,Za,Zb,Zc,Zd,Ze,Zf,Zg,Zh,Zi,Zj,Zk,Zl,Try.underlying3,Try.cs3,Try.bt3,Try.pa3,Try.zr3,Try.underlying4,Try.cs4,Try.bt4,Try.pa4,Try.ty4,Try.zr4,Try.underlying5,Try.cs5,Try.bt5,Try.pa5,Try.zr5,Try.underlying22,Try.cs22,Try.bt22,Try.pa22,Try.zr22,Try.underlying24,Try.cs24,Try.bt24,Try.pa24,Try.ty24,Try.sl24,Try.zr24,Try.underlying33,Try.cs33,Try.bt33,Try.pa33,Try.ty33,Try.sl33,Try.zr33,Try.underlying35,Try.cs35,Try.bt35,Try.pa35,Try.ty35,Try.sl35,Try.zr35,Try.underlying47,Try.cs47,Try.bt47,Try.pa47,Try.ty47,Try.zr47,Try.pl47,Try.fd47_0,Try.fd47_1,Try.fd47_2,Try.fd47_3,Try.fd47_4]
          have hbB' : BufI s2 (s2.take (s1.length + 1)).length B .u8 acc := by rw [take_len (by omega)]; exact hbB
          refine ⟨hb0, by omega, append_buf (σ := s2.take (s1.length + 1)) Try.sl24 (by simp [Try.bt5]) (take_ext _ _) hbB' (.inl rfl) (by simp [appFits, Try.bt5]; omega) fun B2 s3 hx3 hb3 => ?_⟩
          rw [take_len (by omega)] at hb3
          have hB3 : s3[s1.length]? = some (.box [.int .i64 k, .int .u64 0, .int .i64 0, B, .nils]) := hx3 _ _ (by rw [List.getElem?_take, if_pos (by omega)]; exact hB)
          have hc3 := hb3.cells
          have hx13 : Ext s1 s3 := fun a y h => hx3 a y (by rw [List.getElem?_take, if_pos (by have := (List.getElem?_eq_some_iff.1 h).1; omega)]; exact hx2 a y h)
          simp -implicitDefEqProofs only [hB3,hc3,wj1,Q0,Q1,Q2,Q3,Q4,Q5,Q6,Q7,Q8,Q9,Qa,Qb,Qc,Qd,Qe,Qf,Qg,Qh,Qi,Qj,Qk,Ql,Qm,Qn,Qo,Qp,Qq,Qr,Qs,Qt,Qu,Qv,Qw,Qx,Qy,Qz,QA,QB,QC,QD,QE,QF,QG,QH,QI,QJ,QK,QL,QM,QN,QO,QP,QQ,QR,QS,QT,QU,QV,QW,QX,QY,QZ,X0,X1,X2,X3,X4,X5,X6,X7,X8,X9,Xa,Xb,Xc,Xd,Xe,Xf,Xg,Xh,Xi,Xj,Xk,Xl,Xm,Xn,Xo,Xp,Xq,Xr,Xs,Xt,Xu,Xv,Xw,Xx,Xy,Xz,XA,XB,XC,XD,XE,XF,XG,XH,XI,XJ,XK,XL,XM,XN,XO,XP,XQ,XR,XS,XT,XU,XV,XW,XX,XY,XZ,Y0,Y1,Y2,Y3,Y4,Y5,Y6,Y7,Y8,Y9,Ya,Yb,Yc,Yd,Ye,Yf,Yg,Yh,Yi,Yj,Yk,Yl,Ym,Yn,Yo,Yp,Yq,Yr,Ys,Yt,Yu,Yv,Yw,Yx,Yy,Yz,YA,YB,YC,YD,YE,YF,YG,YH,YI,YJ,YK,YL,YM,YN,YO,YP,YQ,YR,YS,YT,YU,YV,YW,YX,YY,reduceIte,reduceCtorEq,ite_true,ite_false,if_true,if_false,YZ,Z0,Z1,Z2,Z3,Z4,and_true,true_and,and_self,true_imp_iff,false_imp_iff,eq_self,not_true_eq_false,not_false_eq_true,ne_eq,decide_true,decide_false,Z5,Z6,Z7,Z8,Z9,Za,Zb,Zc,Zd,Ze,Zf,Zg,Zh,Zi,Zj,Zk,Zl,Try.underlying3,Try.cs3,Try.bt3,Try.pa3,Try.zr3,Try.underlying4,Try.cs4,Try.bt4,Try.pa4,Try.ty4,Try.zr4,Try.underlying5,Try.cs5,Try.bt5,Try.pa5,Try.zr5,Try.underlying22,Try.cs22,Try.bt22,Try.pa22,Try.zr22,Try.underlying24,Try.cs24,Try.bt24,Try.pa24,Try.ty24,Try.sl24,Try.zr24,Try.underlying33,Try.cs33,Try.bt33,Try.pa33,Try.ty33,Try.sl33,Try.zr33,Try.underlying35,Try.cs35,Try.bt35,Try.pa35,Try.ty35,Try.sl35,Try.zr35,Try.underlying47,Try.cs47,Try.bt47,Try.pa47,Try.ty47,Try.zr47,Try.pl47,Try.fd47_0,Try.fd47_1,Try.fd47_2,Try.fd47_3,Try.fd47_4]
          exact ⟨j + 1, rfl, ⟨by omega, hx13.set (Nat.le_refl _) _, B2, _, sto_here hB3, hb3.move (by omega) _, by simp [hal], u8s_snoc hau hu8⟩, by omega⟩
        · have dj : decide ((j : Int) < n % 10) = false := decide_eq_false hjl
          have hcs : B = .nils ∨ B = .emp ∨ ∃ id, B = .mvec id 0 acc.length 1 := by
            rcases hbB with ⟨h | h, _⟩ | ⟨id, h, _⟩
            · exact .inl h
            · exact .inr (.inl h)
            · exact .inr (.inr ⟨id, h⟩)
          rcases hcs with rfl | rfl | ⟨id, rfl⟩
          all_goals
            simp -implicitDefEqProofs only [e10,dj,hB,Q0,Q1,Q2,Q3,Q4,Q5,Q6,Q7,Q8,Q9,Qa,Qb,Qc,Qd,Qe,Qf,Qg,Qh,Qi,Qj,Qk,Ql,Qm,Qn,Qo,Qp,Qq,Qr,Qs,Qt,Qu,Qv,Qw,Qx,Qy,Qz,QA,QB,QC,QD,QE,QF,QG,QH,QI,QJ,QK,QL,QM,QN,QO,QP,QQ,QR,QS,QT,QU,QV,QW,QX,QY,QZ,X0,X1,X2,X3,X4,X5,X6,X7,X8,X9,Xa,Xb,Xc,Xd,Xe,Xf,Xg,Xh,Xi,Xj,Xk,Xl,Xm,Xn,Xo,Xp,Xq,Xr,Xs,Xt,Xu,Xv,Xw,Xx,Xy,Xz,XA,XB,XC,XD,XE,XF,XG,XH,XI,XJ,XK,XL,XM,XN,XO,XP,XQ,XR,XS,XT,XU,XV,XW,XX,XY,XZ,Y0,Y1,Y2,Y3,Y4,Y5,Y6,Y7,Y8,Y9,Ya,Yb,Yc,Yd,Ye,Yf,Yg,Yh,Yi,Yj,Yk,Yl,Ym,Yn,Yo,Yp,Yq,Yr,Ys,Yt,Yu,Yv,Yw,Yx,Yy,Yz,YA,YB,YC,YD,YE,YF,YG,YH,YI,YJ,YK,YL,YM,YN,YO,YP,YQ,YR,YS,YT,YU,YV,YW,YX,YY,reduceIte,reduceCtorEq,ite_true,ite_false,if_true,if_false,YZ,Z0,Z1,Z2,Z3,Z4,and_true,true_and,and_self,true_imp_iff,false_imp_iff,eq_self,not_true_eq_false,not_false_eq_true,ne_eq,decide_true,decide_false,Z5,Z6,Z7,Z8,Z9,Za,Zb,Zc,Zd,Ze,Zf,Zg,Zh,Zi,Zj,Zk,Zl,Try.underlying3,Try.cs3,Try.bt3,Try.pa3,Try.zr3,Try.underlying4,Try.cs4,Try.bt4,Try.pa4,Try.ty4,Try.zr4,Try.underlying5,Try.cs5,Try.bt5,Try.pa5,Try.zr5,Try.underlying22,Try.cs22,Try.bt22,Try.pa22,Try.zr22,Try.underlying24,Try.cs24,Try.bt24,Try.pa24,Try.ty24,Try.sl24,Try.zr24,Try.underlying33,Try.cs33,Try.bt33,Try.pa33,Try.ty33,Try.sl33,Try.zr33,Try.underlying35,Try.cs35,Try.bt35,Try.pa35,Try.ty35,Try.sl35,Try.zr35,Try.underlying47,Try.cs47,Try.bt47,Try.pa47,Try.ty47,Try.zr47,Try.pl47,Try.fd47_0,Try.fd47_1,Try.fd47_2,Try.fd47_3,Try.fd47_4]
            refine fin (v := ⟨k, 0, 0, acc, []⟩) hx2 ⟨_, _, rfl, .inl (BufI.down hbB (by have := hx1.len; omega)), .inl (.inl ⟨.inl rfl, rfl⟩)⟩ _ fun r3 s3 hx3 hb3 hv3 => ?_
            simp -implicitDefEqProofs only [wi,Q0,Q1,Q2,Q3,Q4,Q5,Q6,Q7,Q8,Q9,Qa,Qb,Qc,Qd,Qe,Qf,Qg,Qh,Qi,Qj,Qk,Ql,Qm,Qn,Qo,Qp,Qq,Qr,Qs,Qt,Qu,Qv,Qw,Qx,Qy,Qz,QA,QB,QC,QD,QE,QF,QG,QH,QI,QJ,QK,QL,QM,QN,QO,QP,QQ,QR,QS,QT,QU,QV,QW,QX,QY,QZ,X0,X1,X2,X3,X4,X5,X6,X7,X8,X9,Xa,Xb,Xc,Xd,Xe,Xf,Xg,Xh,Xi,Xj,Xk,Xl,Xm,Xn,Xo,Xp,Xq,Xr,Xs,Xt,Xu,Xv,Xw,Xx,Xy,Xz,XA,XB,XC,XD,XE,XF,XG,XH,XI,XJ,XK,XL,XM,XN,XO,XP,XQ,XR,XS,XT,XU,XV,XW,XX,XY,XZ,Y0,Y1,Y2,Y3,Y4,Y5,Y6,Y7,Y8,Y9,Ya,Yb,Yc,Yd,Ye,Yf,Yg,Yh,Yi,Yj,Yk,Yl,Ym,Yn,Yo,Yp,Yq,Yr,Ys,Yt,Yu,Yv,Yw,Yx,Yy,Yz,YA,YB,YC,YD,YE,YF,YG,YH,YI,YJ,YK,YL,YM,YN,YO,YP,YQ,YR,YS,YT,YU,YV,YW,YX,YY,reduceIte,reduceCtorEq,ite_true,ite_false,if_true,if_false,YZ,Z0,Z1,Z2,Z3,Z4,and_true,true_and,and_self,true_imp_iff,false_imp_iff,eq_self,not_true_eq_false,not_false_eq_true,ne_eq,decide_true,decide_false,Z5,Z6,Z7,Z8,Z9,Za,Zb,Zc,Zd,Ze,Zf,Zg,Zh,Zi,Zj,Zk,Zl,Try.underlying3,Try.cs3,Try.bt3,Try.pa3,Try.zr3,Try.underlying4,Try.cs4,Try.bt4,Try.pa4,Try.ty4,Try.zr4,Try.underlying5,Try.cs5,Try.bt5,Try.pa5,Try.zr5,Try.underlying22,Try.cs22,Try.bt22,Try.pa22,Try.zr22,Try.underlying24,Try.cs24,Try.bt24,Try.pa24,Try.ty24,Try.sl24,Try.zr24,Try.underlying33,Try.cs33,Try.bt33,Try.pa33,Try.ty33,Try.sl33,Try.zr33,Try.underlying35,Try.cs35,Try.bt35,Try.pa35,Try.ty35,Try.sl35,Try.zr35,Try.underlying47,Try.cs47,Try.bt47,Try.pa47,Try.ty47,Try.zr47,Try.pl47,Try.fd47_0,Try.fd47_1,Try.fd47_2,Try.fd47_3,Try.fd47_4]
            refine ⟨(i + 1, r3, _, _), ⟨rfl, rfl⟩, ⟨by simp only; omega, hx3, hb3, hv3, hgv ⟨hkb, by simp, by simp only; unfold In63; omega, hau, by simp, by simp only; omega, by simp⟩ ⟨by simp, by simp, by simp, fun h h' => by simp only at h h'; omega, by simp, by simp only; omega, by simp⟩, by simp [hvl]⟩, by simp only; omega⟩
    have e3 : decide (k = 3) = false := decide_eq_false (by omega)
    have e4 : decide (k = 4) = false := decide_eq_false (by omega)
    have e5 : n.tmod 5 = n % 5 := Int.tmod_eq_emod_of_nonneg (by omega)
    simp -implicitDefEqProofs only [e0,e1,e2,e3,e4,hget,Q0,Q1,Q2,Q3,Q4,Q5,Q6,Q7,Q8,Q9,Qa,Qb,Qc,Qd,Qe,Qf,Qg,Qh,Qi,Qj,Qk,Ql,Qm,Qn,Qo,Qp,Qq,Qr,Qs,Qt,Qu,Qv,Qw,Qx,Qy,Qz,QA,QB,QC,QD,QE,QF,QG,QH,QI,QJ,QK,QL,QM,QN,QO,QP,QQ,QR,QS,QT,QU,QV,QW,QX,QY,QZ,X0,X1,X2,X3,X4,X5,X6,X7,X8,X9,Xa,Xb,Xc,Xd,Xe,Xf,Xg,Xh,Xi,Xj,Xk,Xl,Xm,Xn,Xo,Xp,Xq,Xr,Xs,Xt,Xu,Xv,Xw,Xx,Xy,Xz,XA,XB,XC,XD,XE,XF,XG,XH,XI,XJ,XK,XL,XM,XN,XO,XP,XQ,XR,XS,XT,XU,XV,XW,XX,XY,XZ,Y0,Y1,Y2,Y3,Y4,Y5,Y6,Y7,Y8,Y9,Ya,Yb,Yc,Yd,Ye,Yf,Yg,Yh,Yi,Yj,Yk,Yl,Ym,Yn,Yo,Yp,Yq,Yr,Ys,Yt,Yu,Yv,Yw,Yx,Yy,Yz,YA,YB,YC,YD,YE,YF,YG,YH,YI,YJ,YK,YL,YM,YN,YO,YP,YQ,YR,YS,YT,YU,YV,YW,YX,YY,reduceIte,reduceCtorEq,ite_true,ite_false,if_true,if_false,YZ,Z0,Z1,Z2,Z3,Z4,and_true,true_and,and_self,true_imp_iff,false_imp_iff,eq_self,not_true_eq_false,not_false_eq_true,ne_eq,decide_true,decide_false,Z5,Z6,Z7,Z8,Z9,Za,Zb,Zc,Zd,Ze,Zf,Zg,Zh,Zi,Zj,Zk,Zl,Try.underlying3,Try.cs3,Try.bt3,Try.pa3,Try.zr3,Try.underlying4,Try.cs4,Try.bt4,Try.pa4,Try.ty4,Try.zr4,Try.underlying5,Try.cs5,Try.bt5,Try.pa5,Try.zr5,Try.underlying22,Try.cs22,Try.bt22,Try.pa22,Try.zr22,Try.underlying24,Try.cs24,Try.bt24,Try.pa24,Try.ty24,Try.sl24,Try.zr24,Try.underlying33,Try.cs33,Try.bt33,Try.pa33,Try.ty33,Try.sl33,Try.zr33,Try.underlying35,Try.cs35,Try.bt35,Try.pa35,Try.ty35,Try.sl35,Try.zr35,Try.underlying47,Try.cs47,Try.bt47,Try.pa47,Try.ty47,Try.zr47,Try.pl47,Try.fd47_0,Try.fd47_1,Try.fd47_2,Try.fd47_3,Try.fd47_4]
    refine awp_loop (fun j : Nat => [(9, .int .i64 j), (6, .int .i64 n), (7, .ptr s1.length 0), (0, .ints .i64 l), (4, .int .i64 i), (3, r)])
      (fun j s' => (j : Int) ≤ n % 5 ∧ Ext s1 s' ∧ ∃ B acc, s'[s1.length]? = some (.box [.int .i64 k, .int .u64 0, .int .i64 0, .nils, B]) ∧ BufI s' (s1.length + 1) B .i64 acc ∧ acc.length = j ∧ ∀ y ∈ acc, In63 y) (fun j => (n % 5).toNat - j) 0 (by kernel_rfl) (by simp [sub_cons, sub_nil, get_cons])
      ⟨by omega, ext_app _ _, .nils, [], by simp, .inl ⟨.inl rfl, rfl⟩, rfl, by intro y hy; simp at hy⟩ ?_
    rintro j s2 ⟨hj, hx2, B, acc, hB, hbB, hal, hau⟩
    have hs1 : s1.length < s2.length := (List.getElem?_eq_some_iff.1 hB).1
    by_cases hjl : (j : Int) < n % 5
    · have dj : decide ((j : Int) < n % 5) = true := decide_eq_true hjl
      have w13 : IntKind.i64.wrap (13 * (j : Int)) = 13 * (j : Int) := wrap_i64 (by omega) (by omega)
      have wj : IntKind.u64.wrap (13 * (j : Int)) = 13 * (j : Int) := wrap_u64 (by omega) (by omega)
      have wj1 : IntKind.i64.wrap ((j : Int) + 1) = ((j + 1 : Nat) : Int) := by rw [wrap_i64 (by omega) (by omega)]; rfl
      have hu8 := shr_i64 (x := x) (a := 13 * (j : Int)) hx63
      simp -implicitDefEqProofs only [e5,dj,Q0,Q1,Q2,Q3,Q4,Q5,Q6,Q7,Q8,Q9,Qa,Qb,Qc,Qd,Qe,Qf,Qg,Qh,Qi,Qj,Qk,Ql,Qm,Qn,Qo,Qp,Qq,Qr,Qs,Qt,Qu,Qv,Qw,Qx,Qy,Qz,QA,QB,QC,QD,QE,QF,QG,QH,QI,QJ,QK,QL,QM,QN,QO,QP,QQ,QR,QS,QT,QU,QV,QW,QX,QY,QZ,X0,X1,X2,X3,X4,X5,X6,X7,X8,X9,Xa,Xb,Xc,Xd,Xe,Xf,Xg,Xh,Xi,Xj,Xk,Xl,Xm,Xn,Xo,Xp,Xq,Xr,Xs,Xt,Xu,Xv,Xw,Xx,Xy,Xz,XA,XB,XC,XD,XE,XF,XG,XH,XI,XJ,XK,XL,XM,XN,XO,XP,XQ,XR,XS,XT,XU,XV,XW,XX,XY,XZ,Y0,Y1,Y2,Y3,Y4,Y5,Y6,Y7,Y8,Y9,Ya,Yb,Yc,Yd,Ye,Yf,Yg,Yh,Yi,Yj,Yk,Yl,Ym,Yn,Yo,Yp,Yq,Yr,Ys,Yt,Yu,Yv,Yw,Yx,Yy,Yz,YA,YB,YC,YD,YE,YF,YG,YH,YI,YJ,YK,YL,YM,YN,YO,YP,YQ,YR,YS,YT,YU,YV,YW,YX,YY,reduceIte,reduceCtorEq,ite_true,ite_false,if_true,if_false,YZ,Z0,Z1,Z2,Z3,Z4,and_true,true_and,and_self,true_imp_iff,false_imp_iff,eq_self,not_true_eq_false,not_false_eq_true,ne_eq,decide_true,decide_false,Z5,Z6,Z7,Z8,Z9,Za,Zb,Zc,Zd,Ze,Zf,Zg,Zh,Zi,Zj,Zk,Zl,Try.underlying3,Try.cs3,Try.bt3,Try.pa3,Try.zr3,Try.underlying4,Try.cs4,Try.bt4,Try.pa4,Try.ty4,Try.zr4,Try.underlying5,Try.cs5,Try.bt5,Try.pa5,Try.zr5,Try.underlying22,Try.cs22,Try.bt22,Try.pa22,Try.zr22,Try.underlying24,Try.cs24,Try.bt24,Try.pa24,Try.ty24,Try.sl24,Try.zr24,Try.underlying33,Try.cs33,Try.bt33,Try.pa33,Try.ty33,Try.sl33,Try.zr33,Try.underlying35,Try.cs35,Try.bt35,Try.pa35,Try.ty35,Try.sl35,Try.zr35,Try.underlying47,Try.cs47,Try.bt47,Try.pa47,Try.ty47,Try.zr47,Try.pl47,Try.fd47_0,Try.fd47_1,Try.fd47_2,Try.fd47_3,Try.fd47_4]
      refine awp_draws [11, 13, 100001] Try.mixed (by kernel_rfl) ?_
      simp -implicitDefEqProofs only [hB,hget,w13,wj,Q0,Q1,Q2,Q3,Q4,Q5,Q6,Q7,Q8,Q9,Qa,Qb,Qc,Qd,Qe,Qf,Qg,Qh,Qi,Qj,Qk,Ql,Qm,Qn,Qo,Qp,Qq,Qr,Qs,Qt,Qu,Qv,Qw,Qx,Qy,Qz,QA,QB,QC,QD,QE,QF,QG,QH,QI,QJ,QK,QL,QM,QN,QO,QP,QQ,QR,QS,QT,QU,QV,QW,QX,QY,QZ,X0,X1,X2,X3,X4,X5,X6,X7,X8,X9,Xa,Xb,Xc,Xd,Xe,Xf,Xg,Xh,Xi,Xj,Xk,Xl,Xm,Xn,Xo,Xp,Xq,Xr,Xs,Xt,Xu,Xv,Xw,Xx,Xy,Xz,XA,XB,XC,XD,XE,XF,XG,XH,XI,XJ,XK,XL,XM,XN,XO,XP,XQ,XR,XS,XT,XU,XV,XW,XX,XY,XZ,Y0,Y1,Y2,Y3,Y4,Y5,Y6,Y7,Y8,Y9,Ya,Yb,Yc,Yd,Ye,Yf,Yg,Yh,Yi,Yj,Yk,Yl,Ym,Yn,Yo,Yp,Yq,Yr,Ys,Yt,Yu,Yv,Yw,Yx,Yy,Yz,YA,YB,YC,YD,YE,YF,YG,YH,YI,YJ,YK,YL,YM,YN,YO,YP,YQ,YR,YS,YT,YU,YV,YW,YX,YY,reduceIte,reduceCtorEq,ite_true,ite_false,if_true,if_false,YZ,Z0,Z1,Z2,Z3,Z4,and_true,true_and,and_self,true_imp_iff,false_imp_iff,eq_self,not_true_eq_false,not_false_eq_true,ne_eq,decide_true,decide_false,Z5,Z6,Z7,Z8,Z9,Za,Zb,Zc,Zd,Ze,Zf,Zg,Zh,Zi,Zj,Zk,Zl,Try.underlying3,Try.cs3,Try.bt3,Try.pa3,Try.zr3,Try.underlying4,Try.cs4,Try.bt4,Try.pa4,Try.ty4,Try.zr4,Try.underlying5,Try.cs5,Try.bt5,Try.pa5,Try.zr5,Try.underlying22,Try.cs22,Try.bt22,Try.pa22,Try.zr22,Try.underlying24,Try.cs24,Try.bt24,Try.pa24,Try.ty24,Try.sl24,Try.zr24,Try.underlying33,Try.cs33,Try.bt33,Try.pa33,Try.ty33,Try.sl33,Try.zr33,Try.underlying35,Try.cs35,Try.bt35,Try.pa35,Try.ty35,Try.sl35,Try.zr35,Try.underlying47,Try.cs47,Try.bt47,Try.pa47,Try.ty47,Try.zr47,Try.pl47,Try.fd47_0,Try.fd47_1,Try.fd47_2,Try.fd47_3,Try.fd47_4]
      have hbB' : BufI s2 (s2.take (s1.length + 1)).length B .i64 acc := by rw [take_len (by omega)]; exact hbB
      refine ⟨hb0, by omega, append_buf (σ := s2.take (s1.length + 1)) Try.sl33 (by simp [Try.bt3]) (take_ext _ _) hbB' (.inl rfl) (by simp [appFits, Try.bt3]; omega) fun B2 s3 hx3 hb3 => ?_⟩
      rw [take_len (by omega)] at hb3
      have hB3 : s3[s1.length]? = some (.box [.int .i64 k, .int .u64 0, .int .i64 0, .nils, B]) := hx3 _ _ (by rw [List.getElem?_take, if_pos (by omega)]; exact hB)
      have hc3 := hb3.cells
      have hx13 : Ext s1 s3 := fun a y h => hx3 a y (by rw [List.getElem?_take, if_pos (by have := (List.getElem?_eq_some_iff.1 h).1; omega)]; exact hx2 a y h)
      simp -implicitDefEqProofs only [hB3,hc3,wj1,Q0,Q1,Q2,Q3,Q4,Q5,Q6,Q7,Q8,Q9,Qa,Qb,Qc,Qd,Qe,Qf,Qg,Qh,Qi,Qj,Qk,Ql,Qm,Qn,Qo,Qp,Qq,Qr,Qs,Qt,Qu,Qv,Qw,Qx,Qy,Qz,QA,QB,QC,QD,QE,QF,QG,QH,QI,QJ,QK,QL,QM,QN,QO,QP,QQ,QR,QS,QT,QU,QV,QW,QX,QY,QZ,X0,X1,X2,X3,X4,X5,X6,X7,X8,X9,Xa,Xb,Xc,Xd,Xe,Xf,Xg,Xh,Xi,Xj,Xk,Xl,Xm,Xn,Xo,Xp,Xq,Xr,Xs,Xt,Xu,Xv,Xw,Xx,Xy,Xz,XA,XB,XC,XD,XE,XF,XG,XH,XI,XJ,XK,XL,XM,XN,XO,XP,XQ,XR,XS,XT,XU,XV,XW,XX,XY,XZ,Y0,Y1,Y2,Y3,Y4,Y5,Y6,Y7,Y8,Y9,Ya,Yb,Yc,Yd,Ye,Yf,Yg,Yh,Yi,Yj,Yk,Yl,Ym,Yn,Yo,Yp,Yq,Yr,Ys,Yt,Yu,Yv,Yw,Yx,Yy,Yz,YA,YB,YC,YD,YE,YF,YG,YH,YI,YJ,YK,YL,YM,YN,YO,YP,YQ,YR,YS,YT,YU,YV,YW,YX,YY,reduceIte,reduceCtorEq,ite_true,ite_false,if_true,if_false,YZ,Z0,Z1,Z2,Z3,Z4,and_true,true_and,and_self,true_imp_iff,false_imp_iff,eq_self,not_true_eq_false,not_false_eq_true,ne_eq,decide_true,decide_false,Z5,Z6,Z7,Z8,Z9,Za,Zb,Zc,Zd,Ze,Zf,Zg,Zh,Zi,Zj,Zk,Zl,Try.underlying3,Try.cs3,Try.bt3,Try.pa3,Try.zr3,Try.underlying4,Try.cs4,Try.bt4,Try.pa4,Try.ty4,Try.zr4,Try.underlying5,Try.cs5,Try.bt5,Try.pa5,Try.zr5,Try.underlying22,Try.cs22,Try.bt22,Try.pa22,Try.zr22,Try.underlying24,Try.cs24,Try.bt24,Try.pa24,Try.ty24,Try.sl24,Try.zr24,Try.underlying33,Try.cs33,Try.bt33,Try.pa33,Try.ty33,Try.sl33,Try.zr33,Try.underlying35,Try.cs35,Try.bt35,Try.pa35,Try.ty35,Try.sl35,Try.zr35,Try.underlying47,Try.cs47,Try.bt47,Try.pa47,Try.ty47,Try.zr47,Try.pl47,Try.fd47_0,Try.fd47_1,Try.fd47_2,Try.fd47_3,Try.fd47_4]
      refine ⟨j + 1, rfl, ⟨by omega, hx13.set (Nat.le_refl _) _, B2, _, sto_here hB3, hb3.move (by omega) _, by simp [hal], ?_⟩, by omega⟩
      intro y hy
      rcases List.mem_append.1 hy with hy | hy
      · exact hau y hy
      · simp at hy; subst hy; exact hu8
    · have dj : decide ((j : Int) < n % 5) = false := decide_eq_false hjl
      have hcs : B = .nils ∨ B = .emp ∨ ∃ id, B = .mvec id 0 acc.length 1 := by
        rcases hbB with ⟨h | h, _⟩ | ⟨id, h, _⟩
        · exact .inl h
        · exact .inr (.inl h)
        · exact .inr (.inr ⟨id, h⟩)
      rcases hcs with rfl | rfl | ⟨id, rfl⟩
      all_goals
        simp -implicitDefEqProofs only [e5,dj,hB,Q0,Q1,Q2,Q3,Q4,Q5,Q6,Q7,Q8,Q9,Qa,Qb,Qc,Qd,Qe,Qf,Qg,Qh,Qi,Qj,Qk,Ql,Qm,Qn,Qo,Qp,Qq,Qr,Qs,Qt,Qu,Qv,Qw,Qx,Qy,Qz,QA,QB,QC,QD,QE,QF,QG,QH,QI,QJ,QK,QL,QM,QN,QO,QP,QQ,QR,QS,QT,QU,QV,QW,QX,QY,QZ,X0,X1,X2,X3,X4,X5,X6,X7,X8,X9,Xa,Xb,Xc,Xd,Xe,Xf,Xg,Xh,Xi,Xj,Xk,Xl,Xm,Xn,Xo,Xp,Xq,Xr,Xs,Xt,Xu,Xv,Xw,Xx,Xy,Xz,XA,XB,XC,XD,XE,XF,XG,XH,XI,XJ,XK,XL,XM,XN,XO,XP,XQ,XR,XS,XT,XU,XV,XW,XX,XY,XZ,Y0,Y1,Y2,Y3,Y4,Y5,Y6,Y7,Y8,Y9,Ya,Yb,Yc,Yd,Ye,Yf,Yg,Yh,Yi,Yj,Yk,Yl,Ym,Yn,Yo,Yp,Yq,Yr,Ys,Yt,Yu,Yv,Yw,Yx,Yy,Yz,YA,YB,YC,YD,YE,YF,YG,YH,YI,YJ,YK,YL,YM,YN,YO,YP,YQ,YR,YS,YT,YU,YV,YW,YX,YY,reduceIte,reduceCtorEq,ite_true,ite_false,if_true,if_false,YZ,Z0,Z1,Z2,Z3,Z4,and_true,true_and,and_self,true_imp_iff,false_imp_iff,eq_self,not_true_eq_false,not_false_eq_true,ne_eq,decide_true,decide_false,Z5,Z6,Z7,Z8,Z9,Za,Zb,Zc,Zd,Ze,Zf,Zg,Zh,Zi,Zj,Zk,Zl,Try.underlying3,Try.cs3,Try.bt3,Try.pa3,Try.zr3,Try.underlying4,Try.cs4,Try.bt4,Try.pa4,Try.ty4,Try.zr4,Try.underlying5,Try.cs5,Try.bt5,Try.pa5,Try.zr5,Try.underlying22,Try.cs22,Try.bt22,Try.pa22,Try.zr22,Try.underlying24,Try.cs24,Try.bt24,Try.pa24,Try.ty24,Try.sl24,Try.zr24,Try.underlying33,Try.cs33,Try.bt33,Try.pa33,Try.ty33,Try.sl33,Try.zr33,Try.underlying35,Try.cs35,Try.bt35,Try.pa35,Try.ty35,Try.sl35,Try.zr35,Try.underlying47,Try.cs47,Try.bt47,Try.pa47,Try.ty47,Try.zr47,Try.pl47,Try.fd47_0,Try.fd47_1,Try.fd47_2,Try.fd47_3,Try.fd47_4]
        refine fin (v := ⟨k, 0, 0, [], acc⟩) hx2 ⟨_, _, rfl, .inl (.inl ⟨.inl rfl, rfl⟩), .inl (BufI.down hbB (by have := hx1.len; omega))⟩ _ fun r3 s3 hx3 hb3 hv3 => ?_
        simp -implicitDefEqProofs only [wi,Q0,Q1,Q2,Q3,Q4,Q5,Q6,Q7,Q8,Q9,Qa,Qb,Qc,Qd,Qe,Qf,Qg,Qh,Qi,Qj,Qk,Ql,Qm,Qn,Qo,Qp,Qq,Qr,Qs,Qt,Qu,Qv,Qw,Qx,Qy,Qz,QA,QB,QC,QD,QE,QF,QG,QH,QI,QJ,QK,QL,QM,QN,QO,QP,QQ,QR,QS,QT,QU,QV,QW,QX,QY,QZ,X0,X1,X2,X3,X4,X5,X6,X7,X8,X9,Xa,Xb,Xc,Xd,Xe,Xf,Xg,Xh,Xi,Xj,Xk,Xl,Xm,Xn,Xo,Xp,Xq,Xr,Xs,Xt,Xu,Xv,Xw,Xx,Xy,Xz,XA,XB,XC,XD,XE,XF,XG,XH,XI,XJ,XK,XL,XM,XN,XO,XP,XQ,XR,XS,XT,XU,XV,XW,XX,XY,XZ,Y0,Y1,Y2,Y3,Y4,Y5,Y6,Y7,Y8,Y9,Ya,Yb,Yc,Yd,Ye,Yf,Yg,Yh,Yi,Yj,Yk,Yl,Ym,Yn,Yo,Yp,Yq,Yr,Ys,Yt,Yu,Yv,Yw,Yx,Yy,Yz,YA,YB,YC,YD,YE,YF,YG,YH,YI,YJ,YK,YL,YM,YN,YO,YP,YQ,YR,YS,YT,YU,YV,YW,YX,YY,reduceIte,reduceCtorEq,ite_true,ite_false,if_true,if_false,YZ,Z0,Z1,Z2,Z3,Z4,and_true,true_and,and_self,true_imp_iff,false_imp_iff,eq_self,not_true_eq_false,not_false_eq_true,ne_eq,decide_true,decide_false,Z5,Z6,Z7,Z8,Z9,Za,Zb,Zc,Zd,Ze,Zf,Zg,Zh,Zi,Zj,Zk,Zl,Try.underlying3,Try.cs3,Try.bt3,Try.pa3,Try.zr3,Try.underlying4,Try.cs4,Try.bt4,Try.pa4,Try.ty4,Try.zr4,Try.underlying5,Try.cs5,Try.bt5,Try.pa5,Try.zr5,Try.underlying22,Try.cs22,Try.bt22,Try.pa22,Try.zr22,Try.underlying24,Try.cs24,Try.bt24,Try.pa24,Try.ty24,Try.sl24,Try.zr24,Try.underlying33,Try.cs33,Try.bt33,Try.pa33,Try.ty33,Try.sl33,Try.zr33,Try.underlying35,Try.cs35,Try.bt35,Try.pa35,Try.ty35,Try.sl35,Try.zr35,Try.underlying47,Try.cs47,Try.bt47,Try.pa47,Try.ty47,Try.zr47,Try.pl47,Try.fd47_0,Try.fd47_1,Try.fd47_2,Try.fd47_3,Try.fd47_4]
        refine ⟨(i + 1, r3, _, _), ⟨rfl, rfl⟩, ⟨by simp only; omega, hx3, hb3, hv3, hgv ⟨hkb, by simp, by simp only; unfold In63; omega, by intro y hy; simp at hy, hau, by simp, by simp only; omega⟩ ⟨by simp, by simp, by simp, by simp, fun h => by simp only at h; omega, by simp, by simp only; omega⟩, by simp [hvl]⟩, by simp only; omega⟩
  · have hd : (decide ((i : Int) < (l.length : Int)) = false) ∨ (decide ((i : Int) < (l.length : Int)) = true ∧ decide ((i : Int) < 8) = false) := by
      by_cases h1 : i < l.length
      · exact .inr ⟨decide_eq_true (by omega), decide_eq_false (by omega)⟩
      · exact .inl (decide_eq_false (by omega))
    rcases hd with d1 | ⟨d1, d2⟩
    · simp -implicitDefEqProofs only [d1,Q0,Q1,Q2,Q3,Q4,Q5,Q6,Q7,Q8,Q9,Qa,Qb,Qc,Qd,Qe,Qf,Qg,Qh,Qi,Qj,Qk,Ql,Qm,Qn,Qo,Qp,Qq,Qr,Qs,Qt,Qu,Qv,Qw,Qx,Qy,Qz,QA,QB,QC,QD,QE,QF,QG,QH,QI,QJ,QK,QL,QM,QN,QO,QP,QQ,QR,QS,QT,QU,QV,QW,QX,QY,QZ,X0,X1,X2,X3,X4,X5,X6,X7,X8,X9,Xa,Xb,Xc,Xd,Xe,Xf,Xg,Xh,Xi,Xj,Xk,Xl,Xm,Xn,Xo,Xp,Xq,Xr,Xs,Xt,Xu,Xv,Xw,Xx,Xy,Xz,XA,XB,XC,XD,XE,XF,XG,XH,XI,XJ,XK,XL,XM,XN,XO,XP,XQ,XR,XS,XT,XU,XV,XW,XX,XY,XZ,Y0,Y1,Y2,Y3,Y4,Y5,Y6,Y7,Y8,Y9,Ya,Yb,Yc,Yd,Ye,Yf,Yg,Yh,Yi,Yj,Yk,Yl,Ym,Yn,Yo,Yp,Yq,Yr,Ys,Yt,Yu,Yv,Yw,Yx,Yy,Yz,YA,YB,YC,YD,YE,YF,YG,YH,YI,YJ,YK,YL,YM,YN,YO,YP,YQ,YR,YS,YT,YU,YV,YW,YX,YY,reduceIte,reduceCtorEq,ite_true,ite_false,if_true,if_false,YZ,Z0,Z1,Z2,Z3,Z4,and_true,true_and,and_self,true_imp_iff,false_imp_iff,eq_self,not_true_eq_false,not_false_eq_true,ne_eq,decide_true,decide_false,Z5,Z6,Z7,Z8,Z9,Za,Zb,Zc,Zd,Ze,Zf,Zg,Zh,Zi,Zj,Zk,Zl,Try.underlying3,Try.cs3,Try.bt3,Try.pa3,Try.zr3,Try.underlying4,Try.cs4,Try.bt4,Try.pa4,Try.ty4,Try.zr4,Try.underlying5,Try.cs5,Try.bt5,Try.pa5,Try.zr5,Try.underlying22,Try.cs22,Try.bt22,Try.pa22,Try.zr22,Try.underlying24,Try.cs24,Try.bt24,Try.pa24,Try.ty24,Try.sl24,Try.zr24,Try.underlying33,Try.cs33,Try.bt33,Try.pa33,Try.ty33,Try.sl33,Try.zr33,Try.underlying35,Try.cs35,Try.bt35,Try.pa35,Try.ty35,Try.sl35,Try.zr35,Try.underlying47,Try.cs47,Try.bt47,Try.pa47,Try.ty47,Try.zr47,Try.pl47,Try.fd47_0,Try.fd47_1,Try.fd47_2,Try.fd47_3,Try.fd47_4]
      exact ⟨vs, hg1, by omega, hx1, rs, hb1, hv1⟩
    · simp -implicitDefEqProofs only [d1,d2,Q0,Q1,Q2,Q3,Q4,Q5,Q6,Q7,Q8,Q9,Qa,Qb,Qc,Qd,Qe,Qf,Qg,Qh,Qi,Qj,Qk,Ql,Qm,Qn,Qo,Qp,Qq,Qr,Qs,Qt,Qu,Qv,Qw,Qx,Qy,Qz,QA,QB,QC,QD,QE,QF,QG,QH,QI,QJ,QK,QL,QM,QN,QO,QP,QQ,QR,QS,QT,QU,QV,QW,QX,QY,QZ,X0,X1,X2,X3,X4,X5,X6,X7,X8,X9,Xa,Xb,Xc,Xd,Xe,Xf,Xg,Xh,Xi,Xj,Xk,Xl,Xm,Xn,Xo,Xp,Xq,Xr,Xs,Xt,Xu,Xv,Xw,Xx,Xy,Xz,XA,XB,XC,XD,XE,XF,XG,XH,XI,XJ,XK,XL,XM,XN,XO,XP,XQ,XR,XS,XT,XU,XV,XW,XX,XY,XZ,Y0,Y1,Y2,Y3,Y4,Y5,Y6,Y7,Y8,Y9,Ya,Yb,Yc,Yd,Ye,Yf,Yg,Yh,Yi,Yj,Yk,Yl,Ym,Yn,Yo,Yp,Yq,Yr,Ys,Yt,Yu,Yv,Yw,Yx,Yy,Yz,YA,YB,YC,YD,YE,YF,YG,YH,YI,YJ,YK,YL,YM,YN,YO,YP,YQ,YR,YS,YT,YU,YV,YW,YX,YY,reduceIte,reduceCtorEq,ite_true,ite_false,if_true,if_false,YZ,Z0,Z1,Z2,Z3,Z4,and_true,true_and,and_self,true_imp_iff,false_imp_iff,eq_self,not_true_eq_false,not_false_eq_true,ne_eq,decide_true,decide_false,Z5,Z6,Z7,Z8,Z9,Za,Zb,Zc,Zd,Ze,Zf,Zg,Zh,Zi,Zj,Zk,Zl,Try.underlying3,Try.cs3,Try.bt3,Try.pa3,Try.zr3,Try.underlying4,Try.cs4,Try.bt4,Try.pa4,Try.ty4,Try.zr4,Try.underlying5,Try.cs5,Try.bt5,Try.pa5,Try.zr5,Try.underlying22,Try.cs22,Try.bt22,Try.pa22,Try.zr22,Try.underlying24,Try.cs24,Try.bt24,Try.pa24,Try.ty24,Try.sl24,Try.zr24,Try.underlying33,Try.cs33,Try.bt33,Try.pa33,Try.ty33,Try.sl33,Try.zr33,Try.underlying35,Try.cs35,Try.bt35,Try.pa35,Try.ty35,Try.sl35,Try.zr35,Try.underlying47,Try.cs47,Try.bt47,Try.pa47,Try.ty47,Try.zr47,Try.pl47,Try.fd47_0,Try.fd47_1,Try.fd47_2,Try.fd47_3,Try.fd47_4]
      exact ⟨vs, hg1, by omega, hx1, rs, hb1, hv1⟩

end Go.Proofs
