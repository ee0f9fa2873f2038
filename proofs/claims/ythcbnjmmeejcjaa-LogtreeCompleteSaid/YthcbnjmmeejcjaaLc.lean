/-
  The log of hashes: trees that grow, trees that are ready; contracts.
-/
import Derived.Test.YthcbnjmmeejcjaaLb
namespace Go.Proofs
open Go.Pa
open Go.Pa renaming vc_seq → Q0, vc_block → Q1, vc_exit → Q2, vc_ret → Q3, vc_skip → Q4, vc_region → Q5, vc_draw → Q6, vc_loop → Q7, vc_range → Q8, vc_cond → Q9, condV_true → Qa, condV_false → Qb, condV_bool → Qc, seqK_normal → Qd, seqK_ret → Qe, seqK_exit → Qf, blkK_normal → Qg, blkK_ret → Qh, blkK_exit → Qi, loopK_ret → Qj, loopK_exit → Qk, loopK_normal → Ql, vcOps_nil → Qm, vcOps_cons → Qn, vcOps_guardM → Qo, guardM_some → Qp, guardV_und → Qq, guardV_same → Qr, guardV_tf → Qs, guardV_ft → Qt, guardV_bool → Qu, vcOp_out → Qv, outV_val → Qw, outV_need → Qx, outV_no → Qy, opK_run → Qz, opK_none → QA, vcS → QB, evA → QC, evBin → QD, nilA → QE, nilOf → QF, intOp → QG, strOp → QH, evUn → QI, evConv → QJ, evField → QK, evFieldAddr → QL, evIndexAddr → QM, evIndex → QN, bnd → QO, evSlice → QP, evLen → QQ, evPick → QR, evExtract → QS, evNilCheck → QT, evMin → QU, evMax → QV, evLoadI → QW, cO_int → QX, cO_bool → QY, cO_str → QZ, cO_nils → X0, cO_emp → X1, cO_ints → X2, cO_rows → X3, cO_mvec → X4, cO_ptr → X5, cO_eptr → X6, cO_iptr → X7, cO_nilp → X8, cO_fn → X9, cO_nilf → Xa, cO_mp → Xb, cO_nilm → Xc, cO_glob → Xd, cO_agg → Xe, partsOne → Xg, intsOf → Xh, rowsAV → Xi, evBuildSlice → Xj, evBuild → Xk, fillA → Xl, splice → Xm, evBuiltin → Xn, vcE_nil → Xo, vcE_cons → Xp, vcE_guardM → Xq, guardME_some → Xr, guardD_und → Xs, guardD_same → Xt, guardD_tf → Xu, guardD_ft → Xv, guardD_bool → Xw, dK_run → Xx, dK_none → Xy, dOp_call → Xz, callA_fn → XA, dOp → XB, outA_val → XC, outA_need → XD, cl → XE, vcLoad → XF, vcStore → XG, vcMake → XH, evO_tmp → XI, evO_int → XJ, evO_bool → XK, evO_nils → XL, evO_nilp → XM, evO_nilf → XN, evO_nilm → XO, evO_str → XP, evO_func → XQ, evO_glob → XR, convA → XS, evIndexArr → XT, lookA_cons → XU, get_cons → XV, sub_cons → XW, sub_nil → XX, retK_ret → XY, retK_normal → XZ, retA → Y0, ressA → Y1, resA → Y2, envOf → Y3, vcR_skip → Y7, vcR_seq → Y8, vcR_block → Y9, vcR_exit → Ya, vcR_ret → Yb, vcR_region → Yc, vcR_draw → Yd, vcR_cond → Ye, condR_true → Yf, condR_false → Yg, condR_bool → Yh, seqR_normal → Yi, seqR_ret → Yj, seqR_exit → Yk, asgEnv → Yl, parEnv → Ym, dstAt → Z5, sto_assoc → Z6, sto_len → Z7, sto_at → Z8, sto_at0 → Z9, sto_set → Za, sto_set0 → Zb, vcLook → Zm, vcPut → Zn, vcEnt → Zo, vcESt → Zp, vcMLen → Zq, vcDel → Zr, vcClear → Zs, vcLookD → Zt, ansL_t → Zu, ansL_f → Zv
open Go.Pa.AV renaming cell → Xf
open Go.Pa.Env renaming put → Y4
open List renaming set_cons_zero → Y5, set_cons_succ → Y6, foldl_cons → Yn, foldl_nil → Yo, map_cons → Yp, map_nil → Yq, toList_toArray → Yr, getElem?_cons_zero → Ys, getElem?_cons_succ → Yt, nil_append → Yx, append_nil → Yy, cons_append → Yz, singleton_append → YA, length_cons → YB, length_nil → YC, all_cons → YD, all_nil → YE, take_succ_cons → YF, take_zero → YG, take_nil → YH, drop_zero → YI, drop_succ_cons → YJ, drop_nil → YK, contains_nil → YL, contains_cons → YM
open Option renaming bind_some → Yu, map_some → Yv, map_none → Yw
open Bool renaming or_false → YN, false_or → YO, or_true → YP, true_or → YQ, false_eq_true → YZ, not_true → Z0, not_false → Z1, and_true → Z2, true_and → Z3, and_self → Z4
open Nat renaming reduceEqDiff → YR, reduceAdd → YS, reduceSub → YT, reduceMul → YU, reduceLT → YV, reduceLeDiff → YW, reduceBNe → YX, reduceBEq → YY, zero_add → Ze, add_zero → Zf
open UInt8 renaming reduceToNat → Zc
open Int renaming cast_ofNat_Int → Zd, reduceToNat → Zg, reduceLT → Zh, reduceLE → Zi, reduceNeg → Zj, reduceEq → Zk, reduceNe → Zl
set_option linter.unusedSimpArgs false
set_option linter.unusedVariables false
set_option maxRecDepth 20000
set_option maxHeartbeats 2000000

theorem append_bufI2 {P : Program} {σ s : Store} {t e : TypeId} {k : IntKind} {l l' : List Int} {r y : AV} {R : AV → Store → Prop} (hs : sliceElem P t = some (e, 1)) (hb : P.bytesOf e ≠ 0)
    (hx : Ext σ s) (h : BufI s σ.length r k l) (hc : contA s y = some (.I k l')) (hf : appFits P e (l.length + l'.length))
    (hR : ∀ r' s', Ext σ s' → BufI s' σ.length r' k (l ++ l') → (∀ (j : Nat) x, s[j]? = some x → (∀ a b, x ≠ .vecI a b) → s'[j]? = some x) → s.length ≤ s'.length → R r' s') : vcAppend P t r y s R := by
  have hlen := hx.len
  unfold vcAppend
  simp only [hs, hc]
  refine ⟨hb, ?_⟩
  rcases h with ⟨rfl | rfl, rfl⟩ | ⟨id, rfl, ho, hn⟩
  · refine ⟨trivial, fun h0 => hR _ _ hx (.inl ⟨.inl rfl, by simp [h0]⟩) (fun _ _ h _ => h) (Nat.le_refl _), fun h0 => ⟨by simpa using hf, hR _ _ (hx.push _) (.inr ⟨s.length, by simp, by simp, hlen⟩) (fun _ _ h _ => keepS0 h) (by simp)⟩⟩
  · refine ⟨trivial, fun h0 => hR _ _ hx (.inl ⟨.inr rfl, by simp [h0]⟩) (fun _ _ h _ => h) (Nat.le_refl _), fun h0 => ⟨by simpa using hf, hR _ _ (hx.push _) (.inr ⟨s.length, by simp, by simp, hlen⟩) (fun _ _ h _ => keepS0 h) (by simp)⟩⟩
  · simp only [ho]
    refine ⟨by simp, by simp, by simp, by simp, fun h0 => hR _ _ hx (.inr ⟨id, by simp [h0], by simp [h0, ho], hn⟩) (fun _ _ h _ => h) (Nat.le_refl _), fun h0 => ⟨hf, hR _ _ ((hx.set hn _).push _) (.inr ⟨s.length, by simp, ?_, hlen⟩) (fun j x hj hv => ?_) (by simp)⟩⟩
    · rw [List.getElem?_append_right (by simp)]
      simp
    · have hlt := (List.getElem?_eq_some_iff.1 hj).1
      rw [List.getElem?_append_left (by simp; exact hlt), List.getElem?_set_ne (fun e => by subst e; rw [ho] at hj; cases hj; exact hv _ _ rfl)]
      exact hj

theorem take_len' {s : Store} {n : Nat} (h : n ≤ s.length) : (s.take n).length = n := by simp; omega
theorem take_ext' (s : Store) (n : Nat) : Ext (s.take n) s := fun i y hy => by
  rw [List.getElem?_take] at hy
  split at hy
  · exact hy
  · cases hy

/-- A tree that grows. -/
def GrowT (s : Store) (n id j : Nat) (l : List Int) : Prop := n ≤ id ∧ n ≤ j ∧ s[j]? = some (.mp (.kv [] 0)) ∧ ∃ x, s[id]? = some (.box [x, .mp j]) ∧ BufI s n x .u64 l

theorem bufI_keep {s s' : Store} {n : Nat} {r : AV} {k : IntKind} {l : List Int} (h : BufI s n r k l) (hx : ∀ (i : Nat) a b, s[i]? = some (.vecI a b) → s'[i]? = some (.vecI a b)) : BufI s' n r k l := by
  rcases h with h | ⟨id, h1, h2, h3⟩
  · exact .inl h
  · exact .inr ⟨id, h1, hx _ _ _ h2, h3⟩

theorem c_tnew (σ : Store) : ACalls Try.prog 29 [] σ (fun r s => r = .ptr (σ.length + 1) 0 ∧ s = σ ++ [.mp (.kv [] 0), .box [.nils, .mp σ.length]]) := by
  refine acalls_of_vc (fn := Try.f29) Try.call29 Try.func29 rfl (by kernel_rfl) (by simp [Try.ntmps29]) ?_; simp -implicitDefEqProofs only [Try.ntmps29,Try.results29,Q0,Q1,Q2,Q3,Q4,Q5,Q6,Q7,Q8,Q9,Qa,Qb,Qc,Qd,Qe,Qf,Qg,Qh,Qi,Qj,Qk,Ql,Qm,Qn,Qo,Qp,Qq,Qr,Qs,Qt,Qu,Qv,Qw,Qx,Qy,Qz,QA,QB,QC,QD,QE,QF,QG,QH,QI,QJ,QK,QL,QM,QN,QO,QP,QQ,QR,QS,QT,QU,QV,QW,QX,QY,QZ,X0,X1,X2,X3,X4,X5,X6,X7,X8,X9,Xa,Xb,Xc,Xd,Xe,Xf,Xg,Xh,Xi,Xj,Xk,Xl,Xm,Xn,Xo,Xp,Xq,Xr,Xs,Xt,Xu,Xv,Xw,Xx,Xy,Xz,XA,XB,XC,XD,XE,XF,XG,XH,XI,XJ,XK,XL,XM,XN,XO,XP,XQ,XR,XS,XT,XU,XV,XW,XX,XY,XZ,Y0,Y1,Y2,Y3,Y4,Y5,Y6,Y7,Y8,Y9,Ya,Yb,Yc,Yd,Ye,Yf,Yg,Yh,Yi,Yj,Yk,Yl,Ym,Yn,Yo,Yp,Yq,Yr,Ys,Yt,Yu,Yv,Yw,Yx,Yy,Yz,YA,YB,YC,YD,YE,YF,YG,YH,YI,YJ,YK,YL,YM,YN,YO,YP,YQ,YR,YS,YT,YU,YV,YW,YX,YY,reduceIte,reduceCtorEq,ite_true,ite_false,if_true,if_false,YZ,Z0,Z1,Z2,Z3,Z4,and_true,true_and,and_self,true_imp_iff,false_imp_iff,eq_self,not_true_eq_false,not_false_eq_true,ne_eq,decide_true,decide_false,Z5,Z6,Z7,Z8,Z9,Za,Zb,Zc,Zd,Ze,Zf,Zg,Zh,Zi,Zj,Zk,Zl,Zm,Zn,Zo,Zp,Zq,Zr,Zs,Zt,Zu,Zv,Try.underlying23,Try.cs23,Try.bt23,Try.pa23,Try.ty23,Try.sl23,Try.zr23,Try.underlying25,Try.cs25,Try.bt25,Try.pa25,Try.ty25,Try.zr25,Try.underlying54,Try.cs54,Try.bt54,Try.pa54,Try.ty54,Try.zr54,Try.ky54,Try.zv54,Try.underlying56,Try.cs56,Try.bt56,Try.pa56,Try.ty56,Try.zr56,Try.pl56,Try.fd56_0,Try.fd56_1]

theorem new_grow (σ : Store) : GrowT (σ ++ [.mp (.kv [] 0), .box [.nils, .mp σ.length]]) σ.length (σ.length + 1) σ.length [] :=
  ⟨by omega, by omega, by simp, .nils, by simp, .inl ⟨.inl rfl, rfl⟩⟩

theorem c_tadd (h : Int) (l : List Int) (hl : l.length < 65536) (s : Store) (n id j : Nat) (hn : n ≤ s.length) (hT : GrowT s n id j l) :
    ACalls Try.prog 28 [.ptr id 0, .int .u64 h] s (fun r s' => r = .tup [.int .i64 l.length, .int .i64 0] ∧ Ext (s.take n) s' ∧ GrowT s' n id j (l ++ [h]) ∧ s.length ≤ s'.length ∧
      ∀ (k : Nat) y, s[k]? = some y → k ≠ id → (∀ a b, y ≠ .vecI a b) → s'[k]? = some y) := by
  obtain ⟨h1, h2, h3, x, h4, h5⟩ := hT
  have hid := (List.getElem?_eq_some_iff.1 h4).1
  have hne : id ≠ j := fun e => by rw [e, h3] at h4; cases h4
  have d1 : decide ((65536 : Int) ≤ (l.length : Int)) = false := decide_eq_false (by omega)
  have w1 : IntKind.i64.wrap (((l ++ [h]).length : Int) - 1) = (l.length : Int) := by rw [wrap_i64 (by simp <;> omega) (by simp <;> omega)]; simp
  have main : ∀ r2 s2, Ext (s.take n) s2 → BufI s2 (s.take n).length r2 .u64 (l ++ [h]) → (∀ (j : Nat) x, s[j]? = some x → (∀ a b, x ≠ .vecI a b) → s2[j]? = some x) → s.length ≤ s2.length →
      ∃ v, r2 = .mvec v 0 (l ++ [h]).length 1 ∧ s2[id]? = some (.box [x, .mp j]) ∧ (s2.set id (.box [r2, .mp j]))[id]? = some (.box [r2, .mp j]) ∧ Ext (s.take n) (s2.set id (.box [r2, .mp j])) ∧ GrowT (s2.set id (.box [r2, .mp j])) n id j (l ++ [h]) ∧ s.length ≤ s2.length ∧
      ∀ (k : Nat) y, s[k]? = some y → k ≠ id → (∀ a b, y ≠ .vecI a b) → (s2.set id (.box [r2, .mp j]))[k]? = some y := by
    intro r2 s2 hx2 hb2 hk2 hle
    rw [take_len' hn] at hb2
    have g4 := hk2 id _ h4 (by intro a b; simp)
    have g3 := hk2 j _ h3 (by intro a b; simp)
    have hid2 := (List.getElem?_eq_some_iff.1 g4).1
    have hne2 : ∀ k, k ≠ id → (s2.set id (.box [r2, .mp j]))[k]? = s2[k]? := fun k hk => List.getElem?_set_ne (Ne.symm hk)
    have hb3 : BufI (s2.set id (.box [r2, .mp j])) n r2 .u64 (l ++ [h]) := bufI_keep hb2 fun i a b hi => by
      rw [hne2 i (fun e => by rw [e, g4] at hi; cases hi)]; exact hi
    have g5 : (s2.set id (.box [r2, .mp j]))[id]? = some (.box [r2, .mp j]) := List.getElem?_set_self hid2
    refine (BufI.ne hb2 (by simp)).elim fun v hv => ⟨v, hv.1, g4, g5, fun i y hy => ?_, ⟨h1, h2, by rw [hne2 j (Ne.symm hne)]; exact g3, r2, g5, hb3⟩, hle, fun k y hk hk1 hk2' => by rw [hne2 k hk1]; exact hk2 k y hk hk2'⟩
    have : i < n := by have := (List.getElem?_eq_some_iff.1 hy).1; rw [take_len' hn] at this; exact this
    rw [hne2 i (by omega)]; exact hx2 i y hy
  have hcase : (x = .nils ∨ x = .emp) ∧ l.length = 0 ∨ ∃ v, x = .mvec v 0 l.length 1 := by
    rcases h5 with ⟨h, rfl⟩ | ⟨v, h, _⟩
    · exact .inl ⟨h, rfl⟩
    · exact .inr ⟨v, h⟩
  have h5' : BufI s (s.take n).length x .u64 l := by rw [take_len' hn]; exact h5
  rcases hcase with ⟨rfl | rfl, hl0⟩ | ⟨v, rfl⟩
  · skip
    refine acalls_of_vc (fn := Try.f28) Try.call28 Try.func28 rfl (by kernel_rfl) (by simp [Try.ntmps28]) ?_; simp -implicitDefEqProofs only [h4,Try.ntmps28,Try.results28,Q0,Q1,Q2,Q3,Q4,Q5,Q6,Q7,Q8,Q9,Qa,Qb,Qc,Qd,Qe,Qf,Qg,Qh,Qi,Qj,Qk,Ql,Qm,Qn,Qo,Qp,Qq,Qr,Qs,Qt,Qu,Qv,Qw,Qx,Qy,Qz,QA,QB,QC,QD,QE,QF,QG,QH,QI,QJ,QK,QL,QM,QN,QO,QP,QQ,QR,QS,QT,QU,QV,QW,QX,QY,QZ,X0,X1,X2,X3,X4,X5,X6,X7,X8,X9,Xa,Xb,Xc,Xd,Xe,Xf,Xg,Xh,Xi,Xj,Xk,Xl,Xm,Xn,Xo,Xp,Xq,Xr,Xs,Xt,Xu,Xv,Xw,Xx,Xy,Xz,XA,XB,XC,XD,XE,XF,XG,XH,XI,XJ,XK,XL,XM,XN,XO,XP,XQ,XR,XS,XT,XU,XV,XW,XX,XY,XZ,Y0,Y1,Y2,Y3,Y4,Y5,Y6,Y7,Y8,Y9,Ya,Yb,Yc,Yd,Ye,Yf,Yg,Yh,Yi,Yj,Yk,Yl,Ym,Yn,Yo,Yp,Yq,Yr,Ys,Yt,Yu,Yv,Yw,Yx,Yy,Yz,YA,YB,YC,YD,YE,YF,YG,YH,YI,YJ,YK,YL,YM,YN,YO,YP,YQ,YR,YS,YT,YU,YV,YW,YX,YY,reduceIte,reduceCtorEq,ite_true,ite_false,if_true,if_false,YZ,Z0,Z1,Z2,Z3,Z4,and_true,true_and,and_self,true_imp_iff,false_imp_iff,eq_self,not_true_eq_false,not_false_eq_true,ne_eq,decide_true,decide_false,Z5,Z6,Z7,Z8,Z9,Za,Zb,Zc,Zd,Ze,Zf,Zg,Zh,Zi,Zj,Zk,Zl,Zm,Zn,Zo,Zp,Zq,Zr,Zs,Zt,Zu,Zv,Try.underlying3,Try.cs3,Try.bt3,Try.pa3,Try.zr3,Try.underlying4,Try.cs4,Try.bt4,Try.pa4,Try.ty4,Try.zr4,Try.underlying23,Try.cs23,Try.bt23,Try.pa23,Try.ty23,Try.sl23,Try.zr23,Try.underlying25,Try.cs25,Try.bt25,Try.pa25,Try.ty25,Try.zr25,Try.underlying27,Try.cs27,Try.bt27,Try.pa27,Try.zr27,Try.underlying36,Try.cs36,Try.bt36,Try.pa36,Try.zr36,Try.underlying54,Try.cs54,Try.bt54,Try.pa54,Try.ty54,Try.zr54,Try.ky54,Try.zv54,Try.underlying56,Try.cs56,Try.bt56,Try.pa56,Try.ty56,Try.zr56,Try.pl56,Try.fd56_0,Try.fd56_1]
    refine append_bufI2 (σ := s.take n) Try.sl23 (by simp [Try.bt36]) (take_ext' _ _) h5' rfl (by simp only [appFits, Try.bt36, List.length_cons, List.length_nil]; omega) fun r2 s2 hx2 hb2 hk2 hle => ?_
    obtain ⟨v, rfl, q1, q2, q3, q4, q5, q6⟩ := main r2 s2 hx2 hb2 hk2 hle
    simp -implicitDefEqProofs only [h4,q1,q2,w1,Q0,Q1,Q2,Q3,Q4,Q5,Q6,Q7,Q8,Q9,Qa,Qb,Qc,Qd,Qe,Qf,Qg,Qh,Qi,Qj,Qk,Ql,Qm,Qn,Qo,Qp,Qq,Qr,Qs,Qt,Qu,Qv,Qw,Qx,Qy,Qz,QA,QB,QC,QD,QE,QF,QG,QH,QI,QJ,QK,QL,QM,QN,QO,QP,QQ,QR,QS,QT,QU,QV,QW,QX,QY,QZ,X0,X1,X2,X3,X4,X5,X6,X7,X8,X9,Xa,Xb,Xc,Xd,Xe,Xf,Xg,Xh,Xi,Xj,Xk,Xl,Xm,Xn,Xo,Xp,Xq,Xr,Xs,Xt,Xu,Xv,Xw,Xx,Xy,Xz,XA,XB,XC,XD,XE,XF,XG,XH,XI,XJ,XK,XL,XM,XN,XO,XP,XQ,XR,XS,XT,XU,XV,XW,XX,XY,XZ,Y0,Y1,Y2,Y3,Y4,Y5,Y6,Y7,Y8,Y9,Ya,Yb,Yc,Yd,Ye,Yf,Yg,Yh,Yi,Yj,Yk,Yl,Ym,Yn,Yo,Yp,Yq,Yr,Ys,Yt,Yu,Yv,Yw,Yx,Yy,Yz,YA,YB,YC,YD,YE,YF,YG,YH,YI,YJ,YK,YL,YM,YN,YO,YP,YQ,YR,YS,YT,YU,YV,YW,YX,YY,reduceIte,reduceCtorEq,ite_true,ite_false,if_true,if_false,YZ,Z0,Z1,Z2,Z3,Z4,and_true,true_and,and_self,true_imp_iff,false_imp_iff,eq_self,not_true_eq_false,not_false_eq_true,ne_eq,decide_true,decide_false,Z5,Z6,Z7,Z8,Z9,Za,Zb,Zc,Zd,Ze,Zf,Zg,Zh,Zi,Zj,Zk,Zl,Zm,Zn,Zo,Zp,Zq,Zr,Zs,Zt,Zu,Zv,Try.underlying3,Try.cs3,Try.bt3,Try.pa3,Try.zr3,Try.underlying4,Try.cs4,Try.bt4,Try.pa4,Try.ty4,Try.zr4,Try.underlying23,Try.cs23,Try.bt23,Try.pa23,Try.ty23,Try.sl23,Try.zr23,Try.underlying25,Try.cs25,Try.bt25,Try.pa25,Try.ty25,Try.zr25,Try.underlying27,Try.cs27,Try.bt27,Try.pa27,Try.zr27,Try.underlying36,Try.cs36,Try.bt36,Try.pa36,Try.zr36,Try.underlying54,Try.cs54,Try.bt54,Try.pa54,Try.ty54,Try.zr54,Try.ky54,Try.zv54,Try.underlying56,Try.cs56,Try.bt56,Try.pa56,Try.ty56,Try.zr56,Try.pl56,Try.fd56_0,Try.fd56_1]
    exact ⟨q3, q4, by simpa using q5, q6⟩
  · skip
    refine acalls_of_vc (fn := Try.f28) Try.call28 Try.func28 rfl (by kernel_rfl) (by simp [Try.ntmps28]) ?_; simp -implicitDefEqProofs only [h4,Try.ntmps28,Try.results28,Q0,Q1,Q2,Q3,Q4,Q5,Q6,Q7,Q8,Q9,Qa,Qb,Qc,Qd,Qe,Qf,Qg,Qh,Qi,Qj,Qk,Ql,Qm,Qn,Qo,Qp,Qq,Qr,Qs,Qt,Qu,Qv,Qw,Qx,Qy,Qz,QA,QB,QC,QD,QE,QF,QG,QH,QI,QJ,QK,QL,QM,QN,QO,QP,QQ,QR,QS,QT,QU,QV,QW,QX,QY,QZ,X0,X1,X2,X3,X4,X5,X6,X7,X8,X9,Xa,Xb,Xc,Xd,Xe,Xf,Xg,Xh,Xi,Xj,Xk,Xl,Xm,Xn,Xo,Xp,Xq,Xr,Xs,Xt,Xu,Xv,Xw,Xx,Xy,Xz,XA,XB,XC,XD,XE,XF,XG,XH,XI,XJ,XK,XL,XM,XN,XO,XP,XQ,XR,XS,XT,XU,XV,XW,XX,XY,XZ,Y0,Y1,Y2,Y3,Y4,Y5,Y6,Y7,Y8,Y9,Ya,Yb,Yc,Yd,Ye,Yf,Yg,Yh,Yi,Yj,Yk,Yl,Ym,Yn,Yo,Yp,Yq,Yr,Ys,Yt,Yu,Yv,Yw,Yx,Yy,Yz,YA,YB,YC,YD,YE,YF,YG,YH,YI,YJ,YK,YL,YM,YN,YO,YP,YQ,YR,YS,YT,YU,YV,YW,YX,YY,reduceIte,reduceCtorEq,ite_true,ite_false,if_true,if_false,YZ,Z0,Z1,Z2,Z3,Z4,and_true,true_and,and_self,true_imp_iff,false_imp_iff,eq_self,not_true_eq_false,not_false_eq_true,ne_eq,decide_true,decide_false,Z5,Z6,Z7,Z8,Z9,Za,Zb,Zc,Zd,Ze,Zf,Zg,Zh,Zi,Zj,Zk,Zl,Zm,Zn,Zo,Zp,Zq,Zr,Zs,Zt,Zu,Zv,Try.underlying3,Try.cs3,Try.bt3,Try.pa3,Try.zr3,Try.underlying4,Try.cs4,Try.bt4,Try.pa4,Try.ty4,Try.zr4,Try.underlying23,Try.cs23,Try.bt23,Try.pa23,Try.ty23,Try.sl23,Try.zr23,Try.underlying25,Try.cs25,Try.bt25,Try.pa25,Try.ty25,Try.zr25,Try.underlying27,Try.cs27,Try.bt27,Try.pa27,Try.zr27,Try.underlying36,Try.cs36,Try.bt36,Try.pa36,Try.zr36,Try.underlying54,Try.cs54,Try.bt54,Try.pa54,Try.ty54,Try.zr54,Try.ky54,Try.zv54,Try.underlying56,Try.cs56,Try.bt56,Try.pa56,Try.ty56,Try.zr56,Try.pl56,Try.fd56_0,Try.fd56_1]
    refine append_bufI2 (σ := s.take n) Try.sl23 (by simp [Try.bt36]) (take_ext' _ _) h5' rfl (by simp only [appFits, Try.bt36, List.length_cons, List.length_nil]; omega) fun r2 s2 hx2 hb2 hk2 hle => ?_
    obtain ⟨v, rfl, q1, q2, q3, q4, q5, q6⟩ := main r2 s2 hx2 hb2 hk2 hle
    simp -implicitDefEqProofs only [h4,q1,q2,w1,Q0,Q1,Q2,Q3,Q4,Q5,Q6,Q7,Q8,Q9,Qa,Qb,Qc,Qd,Qe,Qf,Qg,Qh,Qi,Qj,Qk,Ql,Qm,Qn,Qo,Qp,Qq,Qr,Qs,Qt,Qu,Qv,Qw,Qx,Qy,Qz,QA,QB,QC,QD,QE,QF,QG,QH,QI,QJ,QK,QL,QM,QN,QO,QP,QQ,QR,QS,QT,QU,QV,QW,QX,QY,QZ,X0,X1,X2,X3,X4,X5,X6,X7,X8,X9,Xa,Xb,Xc,Xd,Xe,Xf,Xg,Xh,Xi,Xj,Xk,Xl,Xm,Xn,Xo,Xp,Xq,Xr,Xs,Xt,Xu,Xv,Xw,Xx,Xy,Xz,XA,XB,XC,XD,XE,XF,XG,XH,XI,XJ,XK,XL,XM,XN,XO,XP,XQ,XR,XS,XT,XU,XV,XW,XX,XY,XZ,Y0,Y1,Y2,Y3,Y4,Y5,Y6,Y7,Y8,Y9,Ya,Yb,Yc,Yd,Ye,Yf,Yg,Yh,Yi,Yj,Yk,Yl,Ym,Yn,Yo,Yp,Yq,Yr,Ys,Yt,Yu,Yv,Yw,Yx,Yy,Yz,YA,YB,YC,YD,YE,YF,YG,YH,YI,YJ,YK,YL,YM,YN,YO,YP,YQ,YR,YS,YT,YU,YV,YW,YX,YY,reduceIte,reduceCtorEq,ite_true,ite_false,if_true,if_false,YZ,Z0,Z1,Z2,Z3,Z4,and_true,true_and,and_self,true_imp_iff,false_imp_iff,eq_self,not_true_eq_false,not_false_eq_true,ne_eq,decide_true,decide_false,Z5,Z6,Z7,Z8,Z9,Za,Zb,Zc,Zd,Ze,Zf,Zg,Zh,Zi,Zj,Zk,Zl,Zm,Zn,Zo,Zp,Zq,Zr,Zs,Zt,Zu,Zv,Try.underlying3,Try.cs3,Try.bt3,Try.pa3,Try.zr3,Try.underlying4,Try.cs4,Try.bt4,Try.pa4,Try.ty4,Try.zr4,Try.underlying23,Try.cs23,Try.bt23,Try.pa23,Try.ty23,Try.sl23,Try.zr23,Try.underlying25,Try.cs25,Try.bt25,Try.pa25,Try.ty25,Try.zr25,Try.underlying27,Try.cs27,Try.bt27,Try.pa27,Try.zr27,Try.underlying36,Try.cs36,Try.bt36,Try.pa36,Try.zr36,Try.underlying54,Try.cs54,Try.bt54,Try.pa54,Try.ty54,Try.zr54,Try.ky54,Try.zv54,Try.underlying56,Try.cs56,Try.bt56,Try.pa56,Try.ty56,Try.zr56,Try.pl56,Try.fd56_0,Try.fd56_1]
    exact ⟨q3, q4, by simpa using q5, q6⟩
  · skip
    refine acalls_of_vc (fn := Try.f28) Try.call28 Try.func28 rfl (by kernel_rfl) (by simp [Try.ntmps28]) ?_; simp -implicitDefEqProofs only [h4,d1,Try.ntmps28,Try.results28,Q0,Q1,Q2,Q3,Q4,Q5,Q6,Q7,Q8,Q9,Qa,Qb,Qc,Qd,Qe,Qf,Qg,Qh,Qi,Qj,Qk,Ql,Qm,Qn,Qo,Qp,Qq,Qr,Qs,Qt,Qu,Qv,Qw,Qx,Qy,Qz,QA,QB,QC,QD,QE,QF,QG,QH,QI,QJ,QK,QL,QM,QN,QO,QP,QQ,QR,QS,QT,QU,QV,QW,QX,QY,QZ,X0,X1,X2,X3,X4,X5,X6,X7,X8,X9,Xa,Xb,Xc,Xd,Xe,Xf,Xg,Xh,Xi,Xj,Xk,Xl,Xm,Xn,Xo,Xp,Xq,Xr,Xs,Xt,Xu,Xv,Xw,Xx,Xy,Xz,XA,XB,XC,XD,XE,XF,XG,XH,XI,XJ,XK,XL,XM,XN,XO,XP,XQ,XR,XS,XT,XU,XV,XW,XX,XY,XZ,Y0,Y1,Y2,Y3,Y4,Y5,Y6,Y7,Y8,Y9,Ya,Yb,Yc,Yd,Ye,Yf,Yg,Yh,Yi,Yj,Yk,Yl,Ym,Yn,Yo,Yp,Yq,Yr,Ys,Yt,Yu,Yv,Yw,Yx,Yy,Yz,YA,YB,YC,YD,YE,YF,YG,YH,YI,YJ,YK,YL,YM,YN,YO,YP,YQ,YR,YS,YT,YU,YV,YW,YX,YY,reduceIte,reduceCtorEq,ite_true,ite_false,if_true,if_false,YZ,Z0,Z1,Z2,Z3,Z4,and_true,true_and,and_self,true_imp_iff,false_imp_iff,eq_self,not_true_eq_false,not_false_eq_true,ne_eq,decide_true,decide_false,Z5,Z6,Z7,Z8,Z9,Za,Zb,Zc,Zd,Ze,Zf,Zg,Zh,Zi,Zj,Zk,Zl,Zm,Zn,Zo,Zp,Zq,Zr,Zs,Zt,Zu,Zv,Try.underlying3,Try.cs3,Try.bt3,Try.pa3,Try.zr3,Try.underlying4,Try.cs4,Try.bt4,Try.pa4,Try.ty4,Try.zr4,Try.underlying23,Try.cs23,Try.bt23,Try.pa23,Try.ty23,Try.sl23,Try.zr23,Try.underlying25,Try.cs25,Try.bt25,Try.pa25,Try.ty25,Try.zr25,Try.underlying27,Try.cs27,Try.bt27,Try.pa27,Try.zr27,Try.underlying36,Try.cs36,Try.bt36,Try.pa36,Try.zr36,Try.underlying54,Try.cs54,Try.bt54,Try.pa54,Try.ty54,Try.zr54,Try.ky54,Try.zv54,Try.underlying56,Try.cs56,Try.bt56,Try.pa56,Try.ty56,Try.zr56,Try.pl56,Try.fd56_0,Try.fd56_1]
    refine append_bufI2 (σ := s.take n) Try.sl23 (by simp [Try.bt36]) (take_ext' _ _) h5' rfl (by simp only [appFits, Try.bt36, List.length_cons, List.length_nil]; omega) fun r2 s2 hx2 hb2 hk2 hle => ?_
    obtain ⟨v', rfl, q1, q2, q3, q4, q5, q6⟩ := main r2 s2 hx2 hb2 hk2 hle
    simp -implicitDefEqProofs only [h4,d1,q1,q2,w1,Q0,Q1,Q2,Q3,Q4,Q5,Q6,Q7,Q8,Q9,Qa,Qb,Qc,Qd,Qe,Qf,Qg,Qh,Qi,Qj,Qk,Ql,Qm,Qn,Qo,Qp,Qq,Qr,Qs,Qt,Qu,Qv,Qw,Qx,Qy,Qz,QA,QB,QC,QD,QE,QF,QG,QH,QI,QJ,QK,QL,QM,QN,QO,QP,QQ,QR,QS,QT,QU,QV,QW,QX,QY,QZ,X0,X1,X2,X3,X4,X5,X6,X7,X8,X9,Xa,Xb,Xc,Xd,Xe,Xf,Xg,Xh,Xi,Xj,Xk,Xl,Xm,Xn,Xo,Xp,Xq,Xr,Xs,Xt,Xu,Xv,Xw,Xx,Xy,Xz,XA,XB,XC,XD,XE,XF,XG,XH,XI,XJ,XK,XL,XM,XN,XO,XP,XQ,XR,XS,XT,XU,XV,XW,XX,XY,XZ,Y0,Y1,Y2,Y3,Y4,Y5,Y6,Y7,Y8,Y9,Ya,Yb,Yc,Yd,Ye,Yf,Yg,Yh,Yi,Yj,Yk,Yl,Ym,Yn,Yo,Yp,Yq,Yr,Ys,Yt,Yu,Yv,Yw,Yx,Yy,Yz,YA,YB,YC,YD,YE,YF,YG,YH,YI,YJ,YK,YL,YM,YN,YO,YP,YQ,YR,YS,YT,YU,YV,YW,YX,YY,reduceIte,reduceCtorEq,ite_true,ite_false,if_true,if_false,YZ,Z0,Z1,Z2,Z3,Z4,and_true,true_and,and_self,true_imp_iff,false_imp_iff,eq_self,not_true_eq_false,not_false_eq_true,ne_eq,decide_true,decide_false,Z5,Z6,Z7,Z8,Z9,Za,Zb,Zc,Zd,Ze,Zf,Zg,Zh,Zi,Zj,Zk,Zl,Zm,Zn,Zo,Zp,Zq,Zr,Zs,Zt,Zu,Zv,Try.underlying3,Try.cs3,Try.bt3,Try.pa3,Try.zr3,Try.underlying4,Try.cs4,Try.bt4,Try.pa4,Try.ty4,Try.zr4,Try.underlying23,Try.cs23,Try.bt23,Try.pa23,Try.ty23,Try.sl23,Try.zr23,Try.underlying25,Try.cs25,Try.bt25,Try.pa25,Try.ty25,Try.zr25,Try.underlying27,Try.cs27,Try.bt27,Try.pa27,Try.zr27,Try.underlying36,Try.cs36,Try.bt36,Try.pa36,Try.zr36,Try.underlying54,Try.cs54,Try.bt54,Try.pa54,Try.ty54,Try.zr54,Try.ky54,Try.zv54,Try.underlying56,Try.cs56,Try.bt56,Try.pa56,Try.ty56,Try.zr56,Try.pl56,Try.fd56_0,Try.fd56_1]
    exact ⟨q3, q4, by simpa using q5, q6⟩

theorem c_tree (x : List Int) (hx : x.length ≤ 65536) (σ : Store) : ACalls Try.prog 10 [.ints .u64 x] σ (fun r s => ∃ id j, r = .ptr id 0 ∧ Ext σ s ∧ GrowT s σ.length id j x) := by
  refine acalls_of_vc (fn := Try.f10) Try.call10 Try.func10 rfl (by kernel_rfl) (by simp [Try.ntmps10]) ?_; simp -implicitDefEqProofs only [Try.ntmps10,Try.results10,Q0,Q1,Q2,Q3,Q4,Q5,Q6,Q7,Q8,Q9,Qa,Qb,Qc,Qd,Qe,Qf,Qg,Qh,Qi,Qj,Qk,Ql,Qm,Qn,Qo,Qp,Qq,Qr,Qs,Qt,Qu,Qv,Qw,Qx,Qy,Qz,QA,QB,QC,QD,QE,QF,QG,QH,QI,QJ,QK,QL,QM,QN,QO,QP,QQ,QR,QS,QT,QU,QV,QW,QX,QY,QZ,X0,X1,X2,X3,X4,X5,X6,X7,X8,X9,Xa,Xb,Xc,Xd,Xe,Xf,Xg,Xh,Xi,Xj,Xk,Xl,Xm,Xn,Xo,Xp,Xq,Xr,Xs,Xt,Xu,Xv,Xw,Xx,Xy,Xz,XA,XB,XC,XD,XE,XF,XG,XH,XI,XJ,XK,XL,XM,XN,XO,XP,XQ,XR,XS,XT,XU,XV,XW,XX,XY,XZ,Y0,Y1,Y2,Y3,Y4,Y5,Y6,Y7,Y8,Y9,Ya,Yb,Yc,Yd,Ye,Yf,Yg,Yh,Yi,Yj,Yk,Yl,Ym,Yn,Yo,Yp,Yq,Yr,Ys,Yt,Yu,Yv,Yw,Yx,Yy,Yz,YA,YB,YC,YD,YE,YF,YG,YH,YI,YJ,YK,YL,YM,YN,YO,YP,YQ,YR,YS,YT,YU,YV,YW,YX,YY,reduceIte,reduceCtorEq,ite_true,ite_false,if_true,if_false,YZ,Z0,Z1,Z2,Z3,Z4,and_true,true_and,and_self,true_imp_iff,false_imp_iff,eq_self,not_true_eq_false,not_false_eq_true,ne_eq,decide_true,decide_false,Z5,Z6,Z7,Z8,Z9,Za,Zb,Zc,Zd,Ze,Zf,Zg,Zh,Zi,Zj,Zk,Zl,Zm,Zn,Zo,Zp,Zq,Zr,Zs,Zt,Zu,Zv,Try.underlying3,Try.cs3,Try.bt3,Try.pa3,Try.zr3,Try.underlying4,Try.cs4,Try.bt4,Try.pa4,Try.ty4,Try.zr4,Try.underlying23,Try.cs23,Try.bt23,Try.pa23,Try.ty23,Try.sl23,Try.zr23,Try.underlying25,Try.cs25,Try.bt25,Try.pa25,Try.ty25,Try.zr25,Try.underlying27,Try.cs27,Try.bt27,Try.pa27,Try.zr27,Try.underlying36,Try.cs36,Try.bt36,Try.pa36,Try.zr36]
  refine acalls_then (c_tnew _) ?_
  simp -implicitDefEqProofs only [Q0,Q1,Q2,Q3,Q4,Q5,Q6,Q7,Q8,Q9,Qa,Qb,Qc,Qd,Qe,Qf,Qg,Qh,Qi,Qj,Qk,Ql,Qm,Qn,Qo,Qp,Qq,Qr,Qs,Qt,Qu,Qv,Qw,Qx,Qy,Qz,QA,QB,QC,QD,QE,QF,QG,QH,QI,QJ,QK,QL,QM,QN,QO,QP,QQ,QR,QS,QT,QU,QV,QW,QX,QY,QZ,X0,X1,X2,X3,X4,X5,X6,X7,X8,X9,Xa,Xb,Xc,Xd,Xe,Xf,Xg,Xh,Xi,Xj,Xk,Xl,Xm,Xn,Xo,Xp,Xq,Xr,Xs,Xt,Xu,Xv,Xw,Xx,Xy,Xz,XA,XB,XC,XD,XE,XF,XG,XH,XI,XJ,XK,XL,XM,XN,XO,XP,XQ,XR,XS,XT,XU,XV,XW,XX,XY,XZ,Y0,Y1,Y2,Y3,Y4,Y5,Y6,Y7,Y8,Y9,Ya,Yb,Yc,Yd,Ye,Yf,Yg,Yh,Yi,Yj,Yk,Yl,Ym,Yn,Yo,Yp,Yq,Yr,Ys,Yt,Yu,Yv,Yw,Yx,Yy,Yz,YA,YB,YC,YD,YE,YF,YG,YH,YI,YJ,YK,YL,YM,YN,YO,YP,YQ,YR,YS,YT,YU,YV,YW,YX,YY,reduceIte,reduceCtorEq,ite_true,ite_false,if_true,if_false,YZ,Z0,Z1,Z2,Z3,Z4,and_true,true_and,and_self,true_imp_iff,false_imp_iff,eq_self,not_true_eq_false,not_false_eq_true,ne_eq,decide_true,decide_false,Z5,Z6,Z7,Z8,Z9,Za,Zb,Zc,Zd,Ze,Zf,Zg,Zh,Zi,Zj,Zk,Zl,Zm,Zn,Zo,Zp,Zq,Zr,Zs,Zt,Zu,Zv,Try.underlying3,Try.cs3,Try.bt3,Try.pa3,Try.zr3,Try.underlying4,Try.cs4,Try.bt4,Try.pa4,Try.ty4,Try.zr4,Try.underlying23,Try.cs23,Try.bt23,Try.pa23,Try.ty23,Try.sl23,Try.zr23,Try.underlying25,Try.cs25,Try.bt25,Try.pa25,Try.ty25,Try.zr25,Try.underlying27,Try.cs27,Try.bt27,Try.pa27,Try.zr27,Try.underlying36,Try.cs36,Try.bt36,Try.pa36,Try.zr36]
  refine awp_loop (fun i : Nat => [(4, .int .i64 i), (3, .ptr (σ.length + 1) 0), (0, .ints .u64 x)]) (fun i s => i ≤ x.length ∧ Ext σ s ∧ GrowT s σ.length (σ.length + 1) σ.length (x.take i)) (fun i => x.length - i) 0 (by kernel_rfl) (by simp [sub_cons, sub_nil, get_cons])
    ⟨by omega, (((Ext.refl σ).push _).push (.box [.nils, .mp σ.length])).trans (by rw [List.append_assoc]; exact .refl _), new_grow σ⟩ ?_
  rintro i s ⟨hi, he, hg⟩
  by_cases hlt : i < x.length
  · have d : decide ((i : Int) < (x.length : Int)) = true := decide_eq_true (by omega)
    have hget : x.getD ((i : Int).toNat) 0 = x[i] := by rw [Int.toNat_natCast, getD_get hlt]
    have wi : IntKind.i64.wrap ((i : Int) + 1) = ((i + 1 : Nat) : Int) := by rw [wrap_i64 (by omega) (by omega)]; rfl
    have ht : x.take (i + 1) = x.take i ++ [x[i]] := by rw [List.take_add_one, List.getElem?_eq_getElem hlt]; rfl
    have hlen : (x.take i).length = i := by simp; omega
    have hsl := he.len
    have htk := he.take
    simp -implicitDefEqProofs only [d,hget,Q0,Q1,Q2,Q3,Q4,Q5,Q6,Q7,Q8,Q9,Qa,Qb,Qc,Qd,Qe,Qf,Qg,Qh,Qi,Qj,Qk,Ql,Qm,Qn,Qo,Qp,Qq,Qr,Qs,Qt,Qu,Qv,Qw,Qx,Qy,Qz,QA,QB,QC,QD,QE,QF,QG,QH,QI,QJ,QK,QL,QM,QN,QO,QP,QQ,QR,QS,QT,QU,QV,QW,QX,QY,QZ,X0,X1,X2,X3,X4,X5,X6,X7,X8,X9,Xa,Xb,Xc,Xd,Xe,Xf,Xg,Xh,Xi,Xj,Xk,Xl,Xm,Xn,Xo,Xp,Xq,Xr,Xs,Xt,Xu,Xv,Xw,Xx,Xy,Xz,XA,XB,XC,XD,XE,XF,XG,XH,XI,XJ,XK,XL,XM,XN,XO,XP,XQ,XR,XS,XT,XU,XV,XW,XX,XY,XZ,Y0,Y1,Y2,Y3,Y4,Y5,Y6,Y7,Y8,Y9,Ya,Yb,Yc,Yd,Ye,Yf,Yg,Yh,Yi,Yj,Yk,Yl,Ym,Yn,Yo,Yp,Yq,Yr,Ys,Yt,Yu,Yv,Yw,Yx,Yy,Yz,YA,YB,YC,YD,YE,YF,YG,YH,YI,YJ,YK,YL,YM,YN,YO,YP,YQ,YR,YS,YT,YU,YV,YW,YX,YY,reduceIte,reduceCtorEq,ite_true,ite_false,if_true,if_false,YZ,Z0,Z1,Z2,Z3,Z4,and_true,true_and,and_self,true_imp_iff,false_imp_iff,eq_self,not_true_eq_false,not_false_eq_true,ne_eq,decide_true,decide_false,Z5,Z6,Z7,Z8,Z9,Za,Zb,Zc,Zd,Ze,Zf,Zg,Zh,Zi,Zj,Zk,Zl,Zm,Zn,Zo,Zp,Zq,Zr,Zs,Zt,Zu,Zv,Try.underlying3,Try.cs3,Try.bt3,Try.pa3,Try.zr3,Try.underlying4,Try.cs4,Try.bt4,Try.pa4,Try.ty4,Try.zr4,Try.underlying23,Try.cs23,Try.bt23,Try.pa23,Try.ty23,Try.sl23,Try.zr23,Try.underlying25,Try.cs25,Try.bt25,Try.pa25,Try.ty25,Try.zr25,Try.underlying27,Try.cs27,Try.bt27,Try.pa27,Try.zr27,Try.underlying36,Try.cs36,Try.bt36,Try.pa36,Try.zr36]
    refine ⟨by omega, ACalls.mono (c_tadd x[i] (x.take i) (by omega) s σ.length _ _ hsl hg) ?_⟩
    rintro _ s2 ⟨rfl, q1, q2, q3, q4⟩
    rw [htk] at q1
    rw [← ht] at q2
    have d2 : decide ((((x.take i).length : Nat) : Int) = (i : Int)) = true := decide_eq_true (by omega)
    simp -implicitDefEqProofs only [d2,wi,Q0,Q1,Q2,Q3,Q4,Q5,Q6,Q7,Q8,Q9,Qa,Qb,Qc,Qd,Qe,Qf,Qg,Qh,Qi,Qj,Qk,Ql,Qm,Qn,Qo,Qp,Qq,Qr,Qs,Qt,Qu,Qv,Qw,Qx,Qy,Qz,QA,QB,QC,QD,QE,QF,QG,QH,QI,QJ,QK,QL,QM,QN,QO,QP,QQ,QR,QS,QT,QU,QV,QW,QX,QY,QZ,X0,X1,X2,X3,X4,X5,X6,X7,X8,X9,Xa,Xb,Xc,Xd,Xe,Xf,Xg,Xh,Xi,Xj,Xk,Xl,Xm,Xn,Xo,Xp,Xq,Xr,Xs,Xt,Xu,Xv,Xw,Xx,Xy,Xz,XA,XB,XC,XD,XE,XF,XG,XH,XI,XJ,XK,XL,XM,XN,XO,XP,XQ,XR,XS,XT,XU,XV,XW,XX,XY,XZ,Y0,Y1,Y2,Y3,Y4,Y5,Y6,Y7,Y8,Y9,Ya,Yb,Yc,Yd,Ye,Yf,Yg,Yh,Yi,Yj,Yk,Yl,Ym,Yn,Yo,Yp,Yq,Yr,Ys,Yt,Yu,Yv,Yw,Yx,Yy,Yz,YA,YB,YC,YD,YE,YF,YG,YH,YI,YJ,YK,YL,YM,YN,YO,YP,YQ,YR,YS,YT,YU,YV,YW,YX,YY,reduceIte,reduceCtorEq,ite_true,ite_false,if_true,if_false,YZ,Z0,Z1,Z2,Z3,Z4,and_true,true_and,and_self,true_imp_iff,false_imp_iff,eq_self,not_true_eq_false,not_false_eq_true,ne_eq,decide_true,decide_false,Z5,Z6,Z7,Z8,Z9,Za,Zb,Zc,Zd,Ze,Zf,Zg,Zh,Zi,Zj,Zk,Zl,Zm,Zn,Zo,Zp,Zq,Zr,Zs,Zt,Zu,Zv,Try.underlying3,Try.cs3,Try.bt3,Try.pa3,Try.zr3,Try.underlying4,Try.cs4,Try.bt4,Try.pa4,Try.ty4,Try.zr4,Try.underlying23,Try.cs23,Try.bt23,Try.pa23,Try.ty23,Try.sl23,Try.zr23,Try.underlying25,Try.cs25,Try.bt25,Try.pa25,Try.ty25,Try.zr25,Try.underlying27,Try.cs27,Try.bt27,Try.pa27,Try.zr27,Try.underlying36,Try.cs36,Try.bt36,Try.pa36,Try.zr36]
    exact ⟨i + 1, rfl, ⟨by omega, q1, q2⟩, by omega⟩
  · have d : decide ((i : Int) < (x.length : Int)) = false := decide_eq_false (by omega)
    rw [List.take_of_length_le (by omega)] at hg
    simp -implicitDefEqProofs only [d,Q0,Q1,Q2,Q3,Q4,Q5,Q6,Q7,Q8,Q9,Qa,Qb,Qc,Qd,Qe,Qf,Qg,Qh,Qi,Qj,Qk,Ql,Qm,Qn,Qo,Qp,Qq,Qr,Qs,Qt,Qu,Qv,Qw,Qx,Qy,Qz,QA,QB,QC,QD,QE,QF,QG,QH,QI,QJ,QK,QL,QM,QN,QO,QP,QQ,QR,QS,QT,QU,QV,QW,QX,QY,QZ,X0,X1,X2,X3,X4,X5,X6,X7,X8,X9,Xa,Xb,Xc,Xd,Xe,Xf,Xg,Xh,Xi,Xj,Xk,Xl,Xm,Xn,Xo,Xp,Xq,Xr,Xs,Xt,Xu,Xv,Xw,Xx,Xy,Xz,XA,XB,XC,XD,XE,XF,XG,XH,XI,XJ,XK,XL,XM,XN,XO,XP,XQ,XR,XS,XT,XU,XV,XW,XX,XY,XZ,Y0,Y1,Y2,Y3,Y4,Y5,Y6,Y7,Y8,Y9,Ya,Yb,Yc,Yd,Ye,Yf,Yg,Yh,Yi,Yj,Yk,Yl,Ym,Yn,Yo,Yp,Yq,Yr,Ys,Yt,Yu,Yv,Yw,Yx,Yy,Yz,YA,YB,YC,YD,YE,YF,YG,YH,YI,YJ,YK,YL,YM,YN,YO,YP,YQ,YR,YS,YT,YU,YV,YW,YX,YY,reduceIte,reduceCtorEq,ite_true,ite_false,if_true,if_false,YZ,Z0,Z1,Z2,Z3,Z4,and_true,true_and,and_self,true_imp_iff,false_imp_iff,eq_self,not_true_eq_false,not_false_eq_true,ne_eq,decide_true,decide_false,Z5,Z6,Z7,Z8,Z9,Za,Zb,Zc,Zd,Ze,Zf,Zg,Zh,Zi,Zj,Zk,Zl,Zm,Zn,Zo,Zp,Zq,Zr,Zs,Zt,Zu,Zv,Try.underlying3,Try.cs3,Try.bt3,Try.pa3,Try.zr3,Try.underlying4,Try.cs4,Try.bt4,Try.pa4,Try.ty4,Try.zr4,Try.underlying23,Try.cs23,Try.bt23,Try.pa23,Try.ty23,Try.sl23,Try.zr23,Try.underlying25,Try.cs25,Try.bt25,Try.pa25,Try.ty25,Try.zr25,Try.underlying27,Try.cs27,Try.bt27,Try.pa27,Try.zr27,Try.underlying36,Try.cs36,Try.bt36,Try.pa36,Try.zr36]
    exact ⟨_, _, rfl, he, hg⟩

/-- A tree, no more to be written. -/
noncomputable def shutT (s : Store) (n id j : Nat) (l : List Int) : Store := s.mapIdx fun i o => if i < n then o else if i = id then .box [.ints .u64 l, .mp j] else if i = j then o else .dead

theorem shutT_get (s : Store) (n id j : Nat) (l : List Int) (i : Nat) : (shutT s n id j l)[i]? = (s[i]?).map fun o => if i < n then o else if i = id then .box [.ints .u64 l, .mp j] else if i = j then o else .dead := by
  unfold shutT; rw [List.getElem?_mapIdx]

theorem GrowT.shut {s : Store} {n id j : Nat} {l : List Int} (h : GrowT s n id j l) : ShS s (fun i => n ≤ i ∧ i ≠ id ∧ i ≠ j) (shutT s n id j l) ∧ (shutT s n id j l)[id]? = some (.box [.ints .u64 l, .mp j]) ∧ (shutT s n id j l)[j]? = some (.mp (.kv [] 0)) := by
  obtain ⟨h1, h2, h3, x, h4, h5⟩ := h
  have hne : id ≠ j := fun e => by rw [e, h3] at h4; cases h4
  refine ⟨⟨by simp [shutT], fun i y hy => ?_⟩, by rw [shutT_get, h4]; simp; omega, by rw [shutT_get, h3]; simp [Ne.symm hne]⟩
  rw [shutT_get] at hy
  cases hs : s[i]? with
  | none => rw [hs] at hy; cases hy
  | some o =>
    rw [hs] at hy
    simp only [Option.map_some, Option.some.injEq] at hy
    split at hy
    · subst hy; exact .inr ⟨by omega, o, rfl, .same _⟩
    · split at hy
      · rename_i hi; subst hi; subst hy
        rw [h4] at hs; cases hs
        refine .inr ⟨fun h => h.2.1 rfl, _, rfl, .box _ _ rfl fun k a b ha hb => ?_⟩
        match k with
        | 0 =>
          cases ha; cases hb
          rcases h5 with ⟨rfl | rfl, rfl⟩ | ⟨v, rfl, hv, hvn⟩
          · exact .nilI _
          · exact .empI _
          · have hh := Sh.vecI (s := s) (p := fun k => n ≤ k ∧ k ≠ i ∧ k ≠ j) v 0 l.length .u64 l hv ⟨hvn, fun e => (by rw [e, h4] at hv; cases hv), fun e => (by rw [e, h3] at hv; cases hv)⟩ (by omega)
            simpa using hh
        | 1 => cases ha; cases hb; exact .same _
        | k + 2 => cases ha
      · split at hy
        · rename_i hi; subst hi; subst hy
          exact .inr ⟨fun h => h.2.2 rfl, o, rfl, .same _⟩
        · exact .inl hy.symm

theorem ACalls.retell {P : Program} {f : FuncId} {args : List AV} {σ : Store} {R : AV → Store → Prop} (h : ACalls P f args σ fun r s => ∃ j l cl Q, s[j]? = some (.mp (.kv l cl)) ∧ MemoOk Q l ∧ R r (s.set j (.mp (.memo Q)))) : ACalls P f args σ R := by
  refine ⟨h.1, fun G w vs hw hl => (h.2 G w vs hw hl).mono ?_⟩
  rintro e w' ⟨v, r, σ', G', he, hle, hw', hr, j, l, cl, Q, h1, h2, h3⟩
  exact ⟨v, r, _, G', he, hle, hw'.retell h1 fun _ _ hm => mapRel_memo hm h2, hr, h3⟩

/-- A tree of some entries, ready. -/
theorem c_treeV (x : List Int) (hx : x.length ≤ 65536) (σ : Store) : ACalls Try.prog 10 [.ints .u64 x] σ (fun r s => ∃ id j, r = .ptr id 0 ∧ Ext σ s ∧ TreeV s id j x) := by
  refine ACalls.retell (ACalls.shutP (ACalls.mono (c_tree x hx σ) ?_))
  rintro _ s ⟨id, j, rfl, he, hg⟩
  obtain ⟨q1, q2, q3⟩ := hg.shut
  have hne : id ≠ j := fun e => by subst e; rw [q3] at q2; cases q2
  have hjd := (List.getElem?_eq_some_iff.1 q3).1
  refine ⟨_, _, _, q1, .same _, j, [], 0, Q32 x, q3, by simp [MemoOk], id, j, rfl, fun i y hy => ?_, ?_, ?_⟩
  · have hi := (List.getElem?_eq_some_iff.1 hy).1
    rw [List.getElem?_set_ne (by have := hg.2.1; omega), shutT_get, he i y hy]
    simp [hi]
  · rw [List.getElem?_set_ne (Ne.symm hne)]; exact q2
  · rw [List.getElem?_set_self hjd]

/-- The root of the first entries, or why there is none. -/
noncomputable def rootV (l : List Int) (n : Int) : AV := if 0 ≤ n ∧ n ≤ l.length then .tup [.int .u64 (rootI (l.take n.toNat)), .int .i64 0] else .tup [.int .u64 0, .int .i64 5]

theorem c_Root (l : List Int) (hl : l.length ≤ 65536) (n : Int) (σ : Store) (id j : Nat) (hT : TreeV σ id j l) : ACalls Try.prog 19 [.ptr id 0, .int .i64 n] σ (fun r s => r = rootV l n ∧ s = σ) := by
  unfold rootV
  by_cases h0 : n < 0
  · have d0 : decide (n < 0) = true := decide_eq_true h0
    rw [if_neg (by omega)]
    refine acalls_of_vc (fn := Try.f19) Try.call19 Try.func19 rfl (by kernel_rfl) (by simp [Try.ntmps19]) ?_; simp -implicitDefEqProofs only [d0,Try.ntmps19,Try.results19,Q0,Q1,Q2,Q3,Q4,Q5,Q6,Q7,Q8,Q9,Qa,Qb,Qc,Qd,Qe,Qf,Qg,Qh,Qi,Qj,Qk,Ql,Qm,Qn,Qo,Qp,Qq,Qr,Qs,Qt,Qu,Qv,Qw,Qx,Qy,Qz,QA,QB,QC,QD,QE,QF,QG,QH,QI,QJ,QK,QL,QM,QN,QO,QP,QQ,QR,QS,QT,QU,QV,QW,QX,QY,QZ,X0,X1,X2,X3,X4,X5,X6,X7,X8,X9,Xa,Xb,Xc,Xd,Xe,Xf,Xg,Xh,Xi,Xj,Xk,Xl,Xm,Xn,Xo,Xp,Xq,Xr,Xs,Xt,Xu,Xv,Xw,Xx,Xy,Xz,XA,XB,XC,XD,XE,XF,XG,XH,XI,XJ,XK,XL,XM,XN,XO,XP,XQ,XR,XS,XT,XU,XV,XW,XX,XY,XZ,Y0,Y1,Y2,Y3,Y4,Y5,Y6,Y7,Y8,Y9,Ya,Yb,Yc,Yd,Ye,Yf,Yg,Yh,Yi,Yj,Yk,Yl,Ym,Yn,Yo,Yp,Yq,Yr,Ys,Yt,Yu,Yv,Yw,Yx,Yy,Yz,YA,YB,YC,YD,YE,YF,YG,YH,YI,YJ,YK,YL,YM,YN,YO,YP,YQ,YR,YS,YT,YU,YV,YW,YX,YY,reduceIte,reduceCtorEq,ite_true,ite_false,if_true,if_false,YZ,Z0,Z1,Z2,Z3,Z4,and_true,true_and,and_self,true_imp_iff,false_imp_iff,eq_self,not_true_eq_false,not_false_eq_true,ne_eq,decide_true,decide_false,Z5,Z6,Z7,Z8,Z9,Za,Zb,Zc,Zd,Ze,Zf,Zg,Zh,Zi,Zj,Zk,Zl,Zm,Zn,Zo,Zp,Zq,Zr,Zs,Zt,Zu,Zv,Try.underlying3,Try.cs3,Try.bt3,Try.pa3,Try.zr3,Try.underlying4,Try.cs4,Try.bt4,Try.pa4,Try.ty4,Try.zr4,Try.underlying23,Try.cs23,Try.bt23,Try.pa23,Try.ty23,Try.sl23,Try.zr23,Try.underlying25,Try.cs25,Try.bt25,Try.pa25,Try.ty25,Try.zr25,Try.underlying27,Try.cs27,Try.bt27,Try.pa27,Try.zr27,Try.underlying36,Try.cs36,Try.bt36,Try.pa36,Try.zr36,Try.underlying54,Try.cs54,Try.bt54,Try.pa54,Try.ty54,Try.zr54,Try.ky54,Try.zv54,Try.underlying56,Try.cs56,Try.bt56,Try.pa56,Try.ty56,Try.zr56,Try.pl56,Try.fd56_0,Try.fd56_1]
  · have d0 : decide (n < 0) = false := decide_eq_false h0
    by_cases h1 : (l.length : Int) < n
    · have d1 : decide ((l.length : Int) < n) = true := decide_eq_true h1
      rw [if_neg (by omega)]
      refine acalls_of_vc (fn := Try.f19) Try.call19 Try.func19 rfl (by kernel_rfl) (by simp [Try.ntmps19]) ?_; simp -implicitDefEqProofs only [d0,d1,hT.1,Try.ntmps19,Try.results19,Q0,Q1,Q2,Q3,Q4,Q5,Q6,Q7,Q8,Q9,Qa,Qb,Qc,Qd,Qe,Qf,Qg,Qh,Qi,Qj,Qk,Ql,Qm,Qn,Qo,Qp,Qq,Qr,Qs,Qt,Qu,Qv,Qw,Qx,Qy,Qz,QA,QB,QC,QD,QE,QF,QG,QH,QI,QJ,QK,QL,QM,QN,QO,QP,QQ,QR,QS,QT,QU,QV,QW,QX,QY,QZ,X0,X1,X2,X3,X4,X5,X6,X7,X8,X9,Xa,Xb,Xc,Xd,Xe,Xf,Xg,Xh,Xi,Xj,Xk,Xl,Xm,Xn,Xo,Xp,Xq,Xr,Xs,Xt,Xu,Xv,Xw,Xx,Xy,Xz,XA,XB,XC,XD,XE,XF,XG,XH,XI,XJ,XK,XL,XM,XN,XO,XP,XQ,XR,XS,XT,XU,XV,XW,XX,XY,XZ,Y0,Y1,Y2,Y3,Y4,Y5,Y6,Y7,Y8,Y9,Ya,Yb,Yc,Yd,Ye,Yf,Yg,Yh,Yi,Yj,Yk,Yl,Ym,Yn,Yo,Yp,Yq,Yr,Ys,Yt,Yu,Yv,Yw,Yx,Yy,Yz,YA,YB,YC,YD,YE,YF,YG,YH,YI,YJ,YK,YL,YM,YN,YO,YP,YQ,YR,YS,YT,YU,YV,YW,YX,YY,reduceIte,reduceCtorEq,ite_true,ite_false,if_true,if_false,YZ,Z0,Z1,Z2,Z3,Z4,and_true,true_and,and_self,true_imp_iff,false_imp_iff,eq_self,not_true_eq_false,not_false_eq_true,ne_eq,decide_true,decide_false,Z5,Z6,Z7,Z8,Z9,Za,Zb,Zc,Zd,Ze,Zf,Zg,Zh,Zi,Zj,Zk,Zl,Zm,Zn,Zo,Zp,Zq,Zr,Zs,Zt,Zu,Zv,Try.underlying3,Try.cs3,Try.bt3,Try.pa3,Try.zr3,Try.underlying4,Try.cs4,Try.bt4,Try.pa4,Try.ty4,Try.zr4,Try.underlying23,Try.cs23,Try.bt23,Try.pa23,Try.ty23,Try.sl23,Try.zr23,Try.underlying25,Try.cs25,Try.bt25,Try.pa25,Try.ty25,Try.zr25,Try.underlying27,Try.cs27,Try.bt27,Try.pa27,Try.zr27,Try.underlying36,Try.cs36,Try.bt36,Try.pa36,Try.zr36,Try.underlying54,Try.cs54,Try.bt54,Try.pa54,Try.ty54,Try.zr54,Try.ky54,Try.zv54,Try.underlying56,Try.cs56,Try.bt56,Try.pa56,Try.ty56,Try.zr56,Try.pl56,Try.fd56_0,Try.fd56_1]
    · have d1 : decide ((l.length : Int) < n) = false := decide_eq_false h1
      rw [if_pos (by omega)]
      obtain ⟨m, rfl⟩ : ∃ m : Nat, n = (m : Int) := ⟨n.toNat, by omega⟩
      have hr := c_troot l hl m m 0 (by omega) (by omega) σ id j hT
      rw [List.drop_zero] at hr
      rw [Int.toNat_natCast]
      refine acalls_of_vc (fn := Try.f19) Try.call19 Try.func19 rfl (by kernel_rfl) (by simp [Try.ntmps19]) ?_; simp -implicitDefEqProofs only [d0,d1,hT.1,Try.ntmps19,Try.results19,Q0,Q1,Q2,Q3,Q4,Q5,Q6,Q7,Q8,Q9,Qa,Qb,Qc,Qd,Qe,Qf,Qg,Qh,Qi,Qj,Qk,Ql,Qm,Qn,Qo,Qp,Qq,Qr,Qs,Qt,Qu,Qv,Qw,Qx,Qy,Qz,QA,QB,QC,QD,QE,QF,QG,QH,QI,QJ,QK,QL,QM,QN,QO,QP,QQ,QR,QS,QT,QU,QV,QW,QX,QY,QZ,X0,X1,X2,X3,X4,X5,X6,X7,X8,X9,Xa,Xb,Xc,Xd,Xe,Xf,Xg,Xh,Xi,Xj,Xk,Xl,Xm,Xn,Xo,Xp,Xq,Xr,Xs,Xt,Xu,Xv,Xw,Xx,Xy,Xz,XA,XB,XC,XD,XE,XF,XG,XH,XI,XJ,XK,XL,XM,XN,XO,XP,XQ,XR,XS,XT,XU,XV,XW,XX,XY,XZ,Y0,Y1,Y2,Y3,Y4,Y5,Y6,Y7,Y8,Y9,Ya,Yb,Yc,Yd,Ye,Yf,Yg,Yh,Yi,Yj,Yk,Yl,Ym,Yn,Yo,Yp,Yq,Yr,Ys,Yt,Yu,Yv,Yw,Yx,Yy,Yz,YA,YB,YC,YD,YE,YF,YG,YH,YI,YJ,YK,YL,YM,YN,YO,YP,YQ,YR,YS,YT,YU,YV,YW,YX,YY,reduceIte,reduceCtorEq,ite_true,ite_false,if_true,if_false,YZ,Z0,Z1,Z2,Z3,Z4,and_true,true_and,and_self,true_imp_iff,false_imp_iff,eq_self,not_true_eq_false,not_false_eq_true,ne_eq,decide_true,decide_false,Z5,Z6,Z7,Z8,Z9,Za,Zb,Zc,Zd,Ze,Zf,Zg,Zh,Zi,Zj,Zk,Zl,Zm,Zn,Zo,Zp,Zq,Zr,Zs,Zt,Zu,Zv,Try.underlying3,Try.cs3,Try.bt3,Try.pa3,Try.zr3,Try.underlying4,Try.cs4,Try.bt4,Try.pa4,Try.ty4,Try.zr4,Try.underlying23,Try.cs23,Try.bt23,Try.pa23,Try.ty23,Try.sl23,Try.zr23,Try.underlying25,Try.cs25,Try.bt25,Try.pa25,Try.ty25,Try.zr25,Try.underlying27,Try.cs27,Try.bt27,Try.pa27,Try.zr27,Try.underlying36,Try.cs36,Try.bt36,Try.pa36,Try.zr36,Try.underlying54,Try.cs54,Try.bt54,Try.pa54,Try.ty54,Try.zr54,Try.ky54,Try.zv54,Try.underlying56,Try.cs56,Try.bt56,Try.pa56,Try.ty56,Try.zr56,Try.pl56,Try.fd56_0,Try.fd56_1]
      refine acalls_then (hr) ?_
      simp -implicitDefEqProofs only [d0,d1,hT.1,Q0,Q1,Q2,Q3,Q4,Q5,Q6,Q7,Q8,Q9,Qa,Qb,Qc,Qd,Qe,Qf,Qg,Qh,Qi,Qj,Qk,Ql,Qm,Qn,Qo,Qp,Qq,Qr,Qs,Qt,Qu,Qv,Qw,Qx,Qy,Qz,QA,QB,QC,QD,QE,QF,QG,QH,QI,QJ,QK,QL,QM,QN,QO,QP,QQ,QR,QS,QT,QU,QV,QW,QX,QY,QZ,X0,X1,X2,X3,X4,X5,X6,X7,X8,X9,Xa,Xb,Xc,Xd,Xe,Xf,Xg,Xh,Xi,Xj,Xk,Xl,Xm,Xn,Xo,Xp,Xq,Xr,Xs,Xt,Xu,Xv,Xw,Xx,Xy,Xz,XA,XB,XC,XD,XE,XF,XG,XH,XI,XJ,XK,XL,XM,XN,XO,XP,XQ,XR,XS,XT,XU,XV,XW,XX,XY,XZ,Y0,Y1,Y2,Y3,Y4,Y5,Y6,Y7,Y8,Y9,Ya,Yb,Yc,Yd,Ye,Yf,Yg,Yh,Yi,Yj,Yk,Yl,Ym,Yn,Yo,Yp,Yq,Yr,Ys,Yt,Yu,Yv,Yw,Yx,Yy,Yz,YA,YB,YC,YD,YE,YF,YG,YH,YI,YJ,YK,YL,YM,YN,YO,YP,YQ,YR,YS,YT,YU,YV,YW,YX,YY,reduceIte,reduceCtorEq,ite_true,ite_false,if_true,if_false,YZ,Z0,Z1,Z2,Z3,Z4,and_true,true_and,and_self,true_imp_iff,false_imp_iff,eq_self,not_true_eq_false,not_false_eq_true,ne_eq,decide_true,decide_false,Z5,Z6,Z7,Z8,Z9,Za,Zb,Zc,Zd,Ze,Zf,Zg,Zh,Zi,Zj,Zk,Zl,Zm,Zn,Zo,Zp,Zq,Zr,Zs,Zt,Zu,Zv,Try.underlying3,Try.cs3,Try.bt3,Try.pa3,Try.zr3,Try.underlying4,Try.cs4,Try.bt4,Try.pa4,Try.ty4,Try.zr4,Try.underlying23,Try.cs23,Try.bt23,Try.pa23,Try.ty23,Try.sl23,Try.zr23,Try.underlying25,Try.cs25,Try.bt25,Try.pa25,Try.ty25,Try.zr25,Try.underlying27,Try.cs27,Try.bt27,Try.pa27,Try.zr27,Try.underlying36,Try.cs36,Try.bt36,Try.pa36,Try.zr36,Try.underlying54,Try.cs54,Try.bt54,Try.pa54,Try.ty54,Try.zr54,Try.ky54,Try.zv54,Try.underlying56,Try.cs56,Try.bt56,Try.pa56,Try.ty56,Try.zr56,Try.pl56,Try.fd56_0,Try.fd56_1]

theorem c_Size (l : List Int) (σ : Store) (id j : Nat) (hT : TreeV σ id j l) : ACalls Try.prog 21 [.ptr id 0] σ (fun r s => r = .int .i64 l.length ∧ s = σ) := by
  refine acalls_of_vc (fn := Try.f21) Try.call21 Try.func21 rfl (by kernel_rfl) (by simp [Try.ntmps21]) ?_; simp -implicitDefEqProofs only [hT.1,Try.ntmps21,Try.results21,Q0,Q1,Q2,Q3,Q4,Q5,Q6,Q7,Q8,Q9,Qa,Qb,Qc,Qd,Qe,Qf,Qg,Qh,Qi,Qj,Qk,Ql,Qm,Qn,Qo,Qp,Qq,Qr,Qs,Qt,Qu,Qv,Qw,Qx,Qy,Qz,QA,QB,QC,QD,QE,QF,QG,QH,QI,QJ,QK,QL,QM,QN,QO,QP,QQ,QR,QS,QT,QU,QV,QW,QX,QY,QZ,X0,X1,X2,X3,X4,X5,X6,X7,X8,X9,Xa,Xb,Xc,Xd,Xe,Xf,Xg,Xh,Xi,Xj,Xk,Xl,Xm,Xn,Xo,Xp,Xq,Xr,Xs,Xt,Xu,Xv,Xw,Xx,Xy,Xz,XA,XB,XC,XD,XE,XF,XG,XH,XI,XJ,XK,XL,XM,XN,XO,XP,XQ,XR,XS,XT,XU,XV,XW,XX,XY,XZ,Y0,Y1,Y2,Y3,Y4,Y5,Y6,Y7,Y8,Y9,Ya,Yb,Yc,Yd,Ye,Yf,Yg,Yh,Yi,Yj,Yk,Yl,Ym,Yn,Yo,Yp,Yq,Yr,Ys,Yt,Yu,Yv,Yw,Yx,Yy,Yz,YA,YB,YC,YD,YE,YF,YG,YH,YI,YJ,YK,YL,YM,YN,YO,YP,YQ,YR,YS,YT,YU,YV,YW,YX,YY,reduceIte,reduceCtorEq,ite_true,ite_false,if_true,if_false,YZ,Z0,Z1,Z2,Z3,Z4,and_true,true_and,and_self,true_imp_iff,false_imp_iff,eq_self,not_true_eq_false,not_false_eq_true,ne_eq,decide_true,decide_false,Z5,Z6,Z7,Z8,Z9,Za,Zb,Zc,Zd,Ze,Zf,Zg,Zh,Zi,Zj,Zk,Zl,Zm,Zn,Zo,Zp,Zq,Zr,Zs,Zt,Zu,Zv,Try.underlying3,Try.cs3,Try.bt3,Try.pa3,Try.zr3,Try.underlying23,Try.cs23,Try.bt23,Try.pa23,Try.ty23,Try.sl23,Try.zr23,Try.underlying25,Try.cs25,Try.bt25,Try.pa25,Try.ty25,Try.zr25,Try.underlying36,Try.cs36,Try.bt36,Try.pa36,Try.zr36,Try.underlying54,Try.cs54,Try.bt54,Try.pa54,Try.ty54,Try.zr54,Try.ky54,Try.zv54,Try.underlying56,Try.cs56,Try.bt56,Try.pa56,Try.ty56,Try.zr56,Try.pl56,Try.fd56_0,Try.fd56_1]

end Go.Proofs
