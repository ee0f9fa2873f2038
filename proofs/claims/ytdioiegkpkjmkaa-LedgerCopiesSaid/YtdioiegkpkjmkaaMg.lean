/-
  The ledger: a copy; contract.
-/
import Derived.Test.YtdioiegkpkjmkaaJt
import Derived.Shelf.SlMaps.Clone
namespace Go.Proofs
open Go.Pa Go.RowKit Go.Lib
open Go.Pa renaming VB0 → Q0, VB1 → Q1, VB2 → Q2, VB3 → Q3, VB4 → Q4, VB5 → Q5, VB6 → Q6, VB7 → Q7, VB8 → Q8, VB9 → Q9, condV_bool → Qa, guardV_bool → Qb, vcS → Qc, evA → Qd, evBin → Qe, nilA → Qf, nilOf → Qg, intOp → Qh, strOp → Qi, evUn → Qj, evConv → Qk, evField → Ql, evFieldAddr → Qm, evIndexAddr → Qn, evIndex → Qo, evIndexA → Qp, bnd → Qq, evSlice → Qr, evLen → Qs, evPick → Qt, evExtract → Qu, evNilCheck → Qv, evMin → Qw, evMax → Qx, evLoadI → Qy, partsOne → QA, intsOf → QB, rowsAV → QC, evBuildSlice → QD, evBuild → QE, fillA → QF, splice → QG, evBuiltin → QH, guardD_bool → QI, dOp → QJ, cl → QK, vcLoad → QL, vcStore → QM, vcMake → QN, convA → QO, evIndexArr → QP, retA → QQ, ressA → QR, resA → QS, envOf → QT, condR_bool → QX, asgEnv → QY, parEnv → QZ, dstAt → XI, vcLook → XT, vcPut → XU, vcEnt → XV, vcESt → XW, vcMLen → XX, vcDel → XY, vcClear → XZ, vcLookD → Y0
open Go.Pa.AV renaming cell → Qz
open Go.Pa.Env renaming put → QU
open List renaming set_cons_zero → QV, set_cons_succ → QW, foldl_cons → X0, foldl_nil → X1, map_cons → X2, map_nil → X3, toList_toArray → X4, getElem?_cons_zero → X5, getElem?_cons_succ → X6, nil_append → Xa, append_nil → Xb, cons_append → Xc, singleton_append → Xd, length_cons → Xe, length_nil → Xf, all_cons → Xg, all_nil → Xh, take_succ_cons → Xi, take_zero → Xj, take_nil → Xk, drop_zero → Xl, drop_succ_cons → Xm, drop_nil → Xn, contains_nil → Xo, contains_cons → Xp
open Option renaming bind_some → X7, map_some → X8, map_none → X9
open Bool renaming or_false → Xq, false_or → Xr, or_true → Xs, true_or → Xt, false_eq_true → XC, not_true → XD, not_false → XE, and_true → XF, true_and → XG, and_self → XH
open Nat renaming reduceEqDiff → Xu, reduceAdd → Xv, reduceSub → Xw, reduceMul → Xx, reduceLT → Xy, reduceLeDiff → Xz, reduceBNe → XA, reduceBEq → XB, zero_add → XL, add_zero → XM
open UInt8 renaming reduceToNat → XJ
open Int renaming cast_ofNat_Int → XK, reduceToNat → XN, reduceLT → XO, reduceLE → XP, reduceNeg → XQ, reduceEq → XR, reduceNe → XS
set_option linter.unusedSimpArgs false
set_option linter.unusedVariables false
set_option maxRecDepth 100000
set_option maxHeartbeats 4000000

/-- A new map that holds entries. -/
theorem pushMapOf {G : Gh} {mm : MapA} {es : Array MapEntry} {clock : Nat} (hap : Apart es) (hmr : MapRel G es clock mm) {σ : Store} {w w1 : World} (hw : WRel G σ w) (e1 : w1.heap = w.heap) (e2 : w1.os = w.os) (e3 : w1.tape = w.tape) (e4 : w1.output = w.output) :
    WRel (G.add w.heap.size 0) (σ ++ [.mp mm]) (w1.alloc (.map es clock)) := by
  have hg := Gh.le_add G w.heap.size 0
  have hnew : (w1.alloc (.map es clock)).heap[w.heap.size]? = some (.map es clock) := by
    show (w1.heap.push _)[w.heap.size]? = _
    rw [e1]; simp
  have hold : ∀ b, b < w.heap.size → (w1.alloc (.map es clock)).heap[b]? = w.heap[b]? := fun b hb => by
    show (w1.heap.push _)[b]? = _
    rw [e1, Array.getElem?_push, if_neg (Nat.ne_of_lt hb)]
  have himm : ∀ b o c, G.imm b o = some c → b < w.heap.size := fun b o c h => World.block_lt_of_cell? w _ (hw.imm b o c h).1
  have hlast : ∀ i x, (G.obj ++ [(w.heap.size, 0)])[i]? = some x → (i < G.obj.length ∧ G.obj[i]? = some x) ∨ (i = G.obj.length ∧ x = (w.heap.size, 0)) := by
    intro i x h
    rcases Nat.lt_or_ge i G.obj.length with hi | hi
    · rw [List.getElem?_append_left hi] at h; exact .inl ⟨hi, h⟩
    · rw [List.getElem?_append_right hi] at h
      have : i - G.obj.length = 0 := by
        rcases Nat.eq_zero_or_pos (i - G.obj.length) with h0 | h0
        · exact h0
        · rw [List.getElem?_eq_none (by simp; omega)] at h; cases h
      rw [this] at h; simp at h
      exact .inr ⟨by omega, h.symm⟩
  have slast : ∀ i x, (σ ++ [.mp mm])[i]? = some x → (i < σ.length ∧ σ[i]? = some x) ∨ (i = σ.length ∧ x = .mp mm) := by
    intro i x h
    rcases Nat.lt_or_ge i σ.length with hi | hi
    · rw [List.getElem?_append_left hi] at h; exact .inl ⟨hi, h⟩
    · rw [List.getElem?_append_right hi] at h
      have : i - σ.length = 0 := by
        rcases Nat.eq_zero_or_pos (i - σ.length) with h0 | h0
        · exact h0
        · rw [List.getElem?_eq_none (by simp; omega)] at h; cases h
      rw [this] at h; simp at h
      exact .inr ⟨by omega, h.symm⟩
  refine ⟨by simp [Gh.add, hw.len], fun b o c h => ?_, fun id x hx => ?_, fun i j oi oj bi bj a1 a2 a3 a4 a5 a6 a7 => ?_, fun b hb => ?_, ?_, e2.trans hw.os, e3.trans hw.tape, e4.trans hw.output, fun D o hD => ⟨(hw.marks D o hD).1, by rw [hold D (Array.getElem?_eq_some_iff.1 (hw.marks D o hD).2.1).1]; exact (hw.marks D o hD).2.1, (hw.marks D o hD).2.2⟩, by
    show _ ≤ (w1.heap.push _).size
    rw [e1]; simp; exact Nat.le_succ_of_le hw.grew, hw.globs⟩
  · have hlt := himm b o c h
    have := hw.imm b o c h
    exact ⟨by rw [World.cell?_of_block (w := w) (hold b hlt)]; exact this.1, this.2⟩
  · rcases slast id x hx with ⟨hi, hx⟩ | ⟨rfl, rfl⟩
    · cases hlv : x.live with
      | false => cases x <;> first | trivial | cases hlv
      | true =>
        obtain ⟨b, n, q1, q2, q3, q4⟩ := (hw.objs id x hx).block hlv
        refine objRel_mono hg (hw.objs id x hx) (fun b' n' e => ?_) (fun b' n' e hlt h0 o => h0 o)
        rw [q1] at e; cases e; exact hold _ q2
    · refine ⟨w.heap.size, 0, es, clock, ?_, hnew, hw.sz, (fun o => ?_), (fun D o hD => Nat.ne_of_lt (Array.getElem?_eq_some_iff.1 (hw.marks D o hD).2.1).1), hap, hmr.to fun _ _ _ h => h.mono hg⟩
      · simp only [Gh.add]; rw [← hw.len]; simp
      · show G.imm w.heap.size o = none
        cases hq : G.imm w.heap.size o with
        | none => rfl
        | some c => exact absurd (himm _ _ _ hq) (Nat.lt_irrefl _)
  · have hblk : ∀ (i : Nat) oi bi, σ[i]? = some oi → oi.live = true → G.obj[i]? = some bi → bi.1 < w.heap.size := fun i oi bi q1 q2 q3 => by
      obtain ⟨b, n, p1, p2, _⟩ := (hw.objs i oi q1).block q2
      rw [p1] at q3; cases q3; exact p2
    rcases slast i oi a1 with ⟨hi, b1⟩ | ⟨hi, rfl⟩
    · rcases slast j oj a2 with ⟨hj, b2⟩ | ⟨hj, rfl⟩
      · rcases hlast i bi a5 with ⟨_, c1⟩ | ⟨hi', _⟩
        · rcases hlast j bj a6 with ⟨_, c2⟩ | ⟨hj', _⟩
          · exact hw.inj i j oi oj bi bj b1 b2 a3 a4 c1 c2 a7
          · rw [hw.len] at hj'; omega
        · rw [hw.len] at hi'; omega
      · rcases hlast i bi a5 with ⟨_, c1⟩ | ⟨hi', _⟩
        · rcases hlast j bj a6 with ⟨hj', _⟩ | ⟨_, rfl⟩
          · rw [hw.len] at hj'; omega
          · have := hblk i oi bi b1 a3 c1
            simp only at a7; omega
        · rw [hw.len] at hi'; omega
    · rcases slast j oj a2 with ⟨hj, b2⟩ | ⟨hj, rfl⟩
      · rcases hlast j bj a6 with ⟨_, c2⟩ | ⟨hj', _⟩
        · rcases hlast i bi a5 with ⟨hi', _⟩ | ⟨_, rfl⟩
          · rw [hw.len] at hi'; omega
          · have := hblk j oj bj b2 a4 c2
            simp only at a7; omega
        · rw [hw.len] at hj'; omega
      · omega
  · show _ = G.w0.heap[b]?
    rw [hold b (Nat.lt_of_lt_of_le hb hw.sz)]
    exact hw.frame b hb
  · show G.base ≤ (w1.heap.push _).size
    rw [e1]; have := hw.sz; simp; omega

theorem mclone_run (b : Nat) (es : Array MapEntry) (clock : Nat) (w : World) (hb : w.heap[b]? = some (.map es clock)) :
    Calls Try.prog 36 #[.map (some b)] w fun e w' => e = .returned (.map (some w.heap.size)) ∧ w' = w.alloc (.map es clock) := by
  have hq := fun w => run_eql_map_nil_sl (P := Try.prog) w 64 _ _ (some b) Try.underlying64
  go_enter Try.func36, Try.ntmps36
  go_wp2
  rw [run_callFunc_extern Try.func50 (by kernel_rfl) (by kernel_rfl) (by kernel_rfl) (e := Extern.MapsClone.clone) (by kernel_rfl), run_maps_clone_sl w 64 hb]
  simp only [Result.andThen]
  rw [Oper.upon_value]
  go_wp2
  rw [run_typeAssert_map_sl _ 64 20 _ _ _ Try.underlying64]
  simp only [Result.andThen]
  rw [Oper.upon_value]
  go_wp2
  go_ret
  exact ⟨rfl, rfl⟩

theorem c_mclone (σ : Store) (j : Nat) (mm : MapA) (h0 : σ[j]? = some (.mp mm)) : ACalls Try.prog 36 [.mp j] σ (fun r s => r = .mp σ.length ∧ s = σ ++ [.mp mm]) := by
  refine ⟨Try.call36, fun G w vs hw hl => ?_⟩
  obtain ⟨l, rfl⟩ : ∃ l : List Value, vs = l.toArray := ⟨vs.toList, by simp⟩
  rw [List.toList_toArray] at hl
  cases hl with
  | cons h1 h2 =>
  cases h2
  obtain ⟨b, n, es, clock, g1, g2, g3, g4, g5, g6, g7⟩ := hw.objs j _ h0
  cases h1 with
  | mp _ b' n' h3 =>
  rw [g1] at h3
  cases h3
  refine (mclone_run b es clock w g2).mono ?_
  rintro e w' ⟨rfl, rfl⟩
  have hp := pushMapOf (w1 := w) g6 g7 hw rfl rfl rfl rfl
  refine ⟨_, .mp σ.length, _, G.add w.heap.size 0, rfl, Gh.le_add G _ _, hp, .mp σ.length w.heap.size 0 ?_, rfl, rfl⟩
  simp only [Gh.add]; rw [← hw.len]; simp

theorem led_lt {s : Store} {id j : Nat} {es : List Ent} {dn : List Int} (h : Led s id j es dn) : id < s.length ∧ j < s.length := by
  obtain ⟨h1, l, c, h2, _⟩ := h
  exact ⟨(List.getElem?_eq_some_iff.1 h1).1, (List.getElem?_eq_some_iff.1 h2).1⟩

theorem c_Copy (es : List Ent) (hl : es.length ≤ 20000) (dn : List Int) (σ : Store) (id j : Nat) (h0 : Led σ id j es dn) :
    ∃ s2, Ext σ s2 ∧ Led s2 (σ.length + 1) σ.length es dn ∧ ACalls Try.prog 17 [.ptr id 0] σ (fun r s => r = .ptr (σ.length + 1) 0 ∧ s = s2) := by
  obtain ⟨g1, l, c, g2, hk, hd⟩ := h0
  refine ⟨σ ++ [.mp (.kv l c), .box [esV es, .mp σ.length]], Ext.app _ _, ⟨by simp, l, c, by simp, hk, hd⟩, ?_⟩
  have k1 := c_cloneE es (by omega) σ
  have k2 := c_mclone σ j (.kv l c) g2
  refine acalls_of_awp (fn := Try.f17) Try.call17 Try.func17 rfl (by simp [Try.ntmps17]) ?_
  simp only [Try.ntmps17, Try.results17]
  refine awp_seq (awp_vc (by kernel_rfl) ?_)
  simp -implicitDefEqProofs only [seqA_normal,seqA_ret,seqA_exit,Q0,Q1,Q2,Q3,Q4,Q5,Q6,Q7,Q8,Q9,Qa,Qb,Qc,Qd,Qe,Qf,Qg,Qh,Qi,Qj,Qk,Ql,Qm,Qn,Qo,Qp,Qq,Qr,Qs,Qt,Qu,Qv,Qw,Qx,Qy,Qz,QA,QB,QC,QD,QE,QF,QG,QH,QI,QJ,QK,QL,QM,QN,QO,QP,QQ,QR,QS,QT,QU,QV,QW,QX,QY,QZ,X0,X1,X2,X3,X4,X5,X6,X7,X8,X9,Xa,Xb,Xc,Xd,Xe,Xf,Xg,Xh,Xi,Xj,Xk,Xl,Xm,Xn,Xo,Xp,Xq,Xr,Xs,Xt,Xu,Xv,Xw,Xx,Xy,Xz,XA,XB,reduceIte,reduceCtorEq,XC,XD,XE,XF,XG,XH,XI,XJ,XK,XL,XM,XN,XO,XP,XQ,XR,XS,XT,XU,XV,XW,XX,XY,XZ,Y0,Try.q23,Try.q29,Try.underlying37,Try.q37,Try.underlying64,Try.q64,Try.underlying66,Try.q66]
  refine awp_seq (awp_draws [9, 11] Try.mixed (by kernel_rfl) ?_)
  simp -implicitDefEqProofs only [g1,Q0,Q1,Q2,Q3,Q4,Q5,Q6,Q7,Q8,Q9,Qa,Qb,Qc,Qd,Qe,Qf,Qg,Qh,Qi,Qj,Qk,Ql,Qm,Qn,Qo,Qp,Qq,Qr,Qs,Qt,Qu,Qv,Qw,Qx,Qy,Qz,QA,QB,QC,QD,QE,QF,QG,QH,QI,QJ,QK,QL,QM,QN,QO,QP,QQ,QR,QS,QT,QU,QV,QW,QX,QY,QZ,X0,X1,X2,X3,X4,X5,X6,X7,X8,X9,Xa,Xb,Xc,Xd,Xe,Xf,Xg,Xh,Xi,Xj,Xk,Xl,Xm,Xn,Xo,Xp,Xq,Xr,Xs,Xt,Xu,Xv,Xw,Xx,Xy,Xz,XA,XB,reduceIte,reduceCtorEq,XC,XD,XE,XF,XG,XH,XI,XJ,XK,XL,XM,XN,XO,XP,XQ,XR,XS,XT,XU,XV,XW,XX,XY,XZ,Y0,Try.q23,Try.q29,Try.underlying37,Try.q37,Try.underlying64,Try.q64,Try.underlying66,Try.q66]
  refine dCall_of (k1) (by decide) ?_
  simp -implicitDefEqProofs only [g1,Q0,Q1,Q2,Q3,Q4,Q5,Q6,Q7,Q8,Q9,Qa,Qb,Qc,Qd,Qe,Qf,Qg,Qh,Qi,Qj,Qk,Ql,Qm,Qn,Qo,Qp,Qq,Qr,Qs,Qt,Qu,Qv,Qw,Qx,Qy,Qz,QA,QB,QC,QD,QE,QF,QG,QH,QI,QJ,QK,QL,QM,QN,QO,QP,QQ,QR,QS,QT,QU,QV,QW,QX,QY,QZ,X0,X1,X2,X3,X4,X5,X6,X7,X8,X9,Xa,Xb,Xc,Xd,Xe,Xf,Xg,Xh,Xi,Xj,Xk,Xl,Xm,Xn,Xo,Xp,Xq,Xr,Xs,Xt,Xu,Xv,Xw,Xx,Xy,Xz,XA,XB,reduceIte,reduceCtorEq,XC,XD,XE,XF,XG,XH,XI,XJ,XK,XL,XM,XN,XO,XP,XQ,XR,XS,XT,XU,XV,XW,XX,XY,XZ,Y0,Try.q23,Try.q29,Try.underlying37,Try.q37,Try.underlying64,Try.q64,Try.underlying66,Try.q66]
  refine dCall_of2 k2 ?_
  simp -implicitDefEqProofs only [seqA_normal,Q0,Q1,Q2,Q3,Q4,Q5,Q6,Q7,Q8,Q9,Qa,Qb,Qc,Qd,Qe,Qf,Qg,Qh,Qi,Qj,Qk,Ql,Qm,Qn,Qo,Qp,Qq,Qr,Qs,Qt,Qu,Qv,Qw,Qx,Qy,Qz,QA,QB,QC,QD,QE,QF,QG,QH,QI,QJ,QK,QL,QM,QN,QO,QP,QQ,QR,QS,QT,QU,QV,QW,QX,QY,QZ,X0,X1,X2,X3,X4,X5,X6,X7,X8,X9,Xa,Xb,Xc,Xd,Xe,Xf,Xg,Xh,Xi,Xj,Xk,Xl,Xm,Xn,Xo,Xp,Xq,Xr,Xs,Xt,Xu,Xv,Xw,Xx,Xy,Xz,XA,XB,reduceIte,reduceCtorEq,XC,XD,XE,XF,XG,XH,XI,XJ,XK,XL,XM,XN,XO,XP,XQ,XR,XS,XT,XU,XV,XW,XX,XY,XZ,Y0,Try.q23,Try.q29,Try.underlying37,Try.q37,Try.underlying64,Try.q64,Try.underlying66,Try.q66]
  refine awp_vc (by kernel_rfl) ?_
  simp -implicitDefEqProofs only [Q0,Q1,Q2,Q3,Q4,Q5,Q6,Q7,Q8,Q9,Qa,Qb,Qc,Qd,Qe,Qf,Qg,Qh,Qi,Qj,Qk,Ql,Qm,Qn,Qo,Qp,Qq,Qr,Qs,Qt,Qu,Qv,Qw,Qx,Qy,Qz,QA,QB,QC,QD,QE,QF,QG,QH,QI,QJ,QK,QL,QM,QN,QO,QP,QQ,QR,QS,QT,QU,QV,QW,QX,QY,QZ,X0,X1,X2,X3,X4,X5,X6,X7,X8,X9,Xa,Xb,Xc,Xd,Xe,Xf,Xg,Xh,Xi,Xj,Xk,Xl,Xm,Xn,Xo,Xp,Xq,Xr,Xs,Xt,Xu,Xv,Xw,Xx,Xy,Xz,XA,XB,reduceIte,reduceCtorEq,XC,XD,XE,XF,XG,XH,XI,XJ,XK,XL,XM,XN,XO,XP,XQ,XR,XS,XT,XU,XV,XW,XX,XY,XZ,Y0,Try.q23,Try.q29,Try.underlying37,Try.q37,Try.underlying64,Try.q64,Try.underlying66,Try.q66]

end Go.Proofs
