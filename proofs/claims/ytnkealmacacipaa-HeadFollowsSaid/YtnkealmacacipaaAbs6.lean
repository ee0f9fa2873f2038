/-
  Soundness of conversions, slicing, literals.
-/
import Derived.Test.YtnkealmacacipaaAbs5
namespace Go.Pa
set_option linter.unusedSectionVars false
variable [GTab]
variable {P : Program} {G : Gh}

/-- The ghost learns of a new block whose first cells never turn. -/
def Gh.learn (G : Gh) (b : Nat) (vs : List Value) : Gh := { G with imm := fun b' o => if b' = b then vs[o]? else G.imm b' o }

theorem Gh.le_learn {σ : Store} {w : World} (hw : WRel G σ w) (vs : List Value) : G.le (G.learn w.heap.size vs) := by
  refine ⟨rfl, rfl, fun b o c h => ?_, fun _ _ h => h, rfl, fun _ _ h => h⟩
  have hlt := World.block_lt_of_cell? w _ (hw.imm b o c h).1
  have : b ≠ w.heap.size := Nat.ne_of_lt hlt
  simp [Gh.learn, this, h]

theorem objRel_mono {G' : Gh} (hg : G.le G') {w w' : World} {id : Nat} {ob : AObj} (h : ObjRel G w id ob)
    (hh : ∀ b n, G.obj[id]? = some (b, n) → w'.heap[b]? = w.heap[b]?) (hi : ∀ b n, G.obj[id]? = some (b, n) → b < w.heap.size → (∀ o, G.imm b o = none) → ∀ o, G'.imm b o = none) : ObjRel G' w' id ob := by
  have cellsCase : (∃ b n arr ty, ∃ cs : List AV, ob.cells = some cs ∧ G.obj[id]? = some (b, n) ∧ w.heap[b]? = some (.cells arr ty (0, 0)) ∧ arr.size = n ∧ cs.length ≤ n ∧ G.base ≤ b ∧
      (∀ o, G.imm b o = none) ∧ (∀ (i : Nat) (x : AV), cs[i]? = some x → ∃ c, arr[i]? = some c ∧ Rep G x c) ∧ (∀ c ∈ arr.toList, c.oneCell' = true)) →
      (∃ b n arr ty, ∃ cs : List AV, ob.cells = some cs ∧ G'.obj[id]? = some (b, n) ∧ w'.heap[b]? = some (.cells arr ty (0, 0)) ∧ arr.size = n ∧ cs.length ≤ n ∧ G'.base ≤ b ∧
      (∀ o, G'.imm b o = none) ∧ (∀ (i : Nat) (x : AV), cs[i]? = some x → ∃ c, arr[i]? = some c ∧ Rep G' x c) ∧ (∀ c ∈ arr.toList, c.oneCell' = true)) := by
    rintro ⟨b, n, arr, ty, cs, h1, h2, h3, h4, h5, h6, h7, h8, h9⟩
    have hlt : b < w.heap.size := (Array.getElem?_eq_some_iff.1 h3).1
    exact ⟨b, n, arr, ty, cs, h1, hg.obj _ _ h2, by rw [hh b n h2]; exact h3, h4, h5, by rw [hg.base]; exact h6, hi b n h2 hlt h7,
      fun i x hx => let ⟨c, hc, hr⟩ := h8 i x hx; ⟨c, hc, hr.mono hg⟩, h9⟩
  cases ob with
  | dead => trivial
  | mp kv =>
    obtain ⟨b, n, es, clock, h1, h2, h3, h4, h5, h6⟩ := h
    have hlt : b < w.heap.size := (Array.getElem?_eq_some_iff.1 h2).1
    exact ⟨b, n, es, clock, hg.obj _ _ h1, by rw [hh b n h1]; exact h2, by rw [hg.base]; exact h3, hi b n h1 hlt h4, h5,
      fun i p hp => let ⟨e, he, hk, hv, hb⟩ := h6 i p hp; ⟨e, he, hk.mono hg, hv.mono hg, hb⟩⟩
  | box cs => exact cellsCase h
  | vecI k l => exact cellsCase h
  | vecR sz rs => exact cellsCase h

theorem ObjRel.block {w : World} {id : Nat} {ob : AObj} (h : ObjRel G w id ob) (hl : ob.live = true) : ∃ b n, G.obj[id]? = some (b, n) ∧ b < w.heap.size ∧ G.base ≤ b ∧ ∀ o, G.imm b o = none := by
  cases ob with
  | dead => cases hl
  | mp kv => obtain ⟨b, n, es, clock, h1, h2, h3, h4, _⟩ := h; exact ⟨b, n, h1, (Array.getElem?_eq_some_iff.1 h2).1, h3, h4⟩
  | box cs => obtain ⟨b, n, arr, ty, cs, _, h2, h3, _, _, h6, h7, _⟩ := h; exact ⟨b, n, h2, (Array.getElem?_eq_some_iff.1 h3).1, h6, h7⟩
  | vecI k l => obtain ⟨b, n, arr, ty, cs, _, h2, h3, _, _, h6, h7, _⟩ := h; exact ⟨b, n, h2, (Array.getElem?_eq_some_iff.1 h3).1, h6, h7⟩
  | vecR sz rs => obtain ⟨b, n, arr, ty, cs, _, h2, h3, _, _, h6, h7, _⟩ := h; exact ⟨b, n, h2, (Array.getElem?_eq_some_iff.1 h3).1, h6, h7⟩

/-- A world that goes on from another: new blocks alone; what is learnt lies in new blocks. -/
theorem WRel.grow {σ : Store} {w w' : World} (hw : WRel G σ w) {G' : Gh} (hg : G.le G') (hm : G'.mark = G.mark) (ho : G'.obj = G.obj)
    (hh : ∀ b, b < w.heap.size → w'.heap[b]? = w.heap[b]?) (hs : w.heap.size ≤ w'.heap.size) (h1 : w'.os = w.os) (h2 : w'.tape = w.tape) (h3 : w'.output = w.output)
    (hi : ∀ b o, b < w.heap.size → G'.imm b o = G.imm b o) (hn : ∀ b o c, w.heap.size ≤ b → G'.imm b o = some c → w'.cell? ⟨b, o, none⟩ = some c ∧ c.oneCell' = true) : WRel G' σ w' := by
  refine ⟨by rw [ho]; exact hw.len, fun b o c h => ?_, fun id ob h => ?_, fun i j oi oj bi bj a1 a2 a3 a4 a5 a6 a7 => hw.inj i j oi oj bi bj a1 a2 a3 a4 (by rw [← ho]; exact a5) (by rw [← ho]; exact a6) a7,
    fun b hb => ?_, by rw [hg.base]; exact Nat.le_trans hw.sz hs, by rw [h1, hg.w0]; exact hw.os, by rw [h2, hg.w0]; exact hw.tape, by rw [h3, hg.w0]; exact hw.output, fun D o hD => ?_, by rw [hg.lo]; exact Nat.le_trans hw.grew hs, hw.globs.mono hg.imm⟩
  · rcases Nat.lt_or_ge b w.heap.size with hb | hb
    · rw [hi b o hb] at h
      have := hw.imm b o c h
      exact ⟨by rw [World.cell?_of_block (w := w) (hh b hb)]; exact this.1, this.2⟩
    · exact hn b o c hb h
  · cases hl : ob.live with
    | false => cases ob <;> first | trivial | cases hl
    | true =>
      obtain ⟨b, n, e1, e2, e3, e4⟩ := (hw.objs id ob h).block hl
      refine objRel_mono hg (hw.objs id ob h) (fun b' n' e => ?_) (fun b' n' e hlt h0 o => ?_)
      · rw [e1] at e; cases e; exact hh _ e2
      · rw [hi b' o hlt]; exact h0 o
  · rw [hg.base] at hb
    rw [hg.w0, hh b (Nat.lt_of_lt_of_le hb hw.sz)]
    exact hw.frame b hb
  · rw [hm] at hD
    obtain ⟨q1, q2, q3⟩ := hw.marks D o hD
    exact ⟨by rw [hg.base]; exact q1, by rw [hh D (Array.getElem?_eq_some_iff.1 q2).1]; exact q2, q3⟩

/-- A new block that never turns. -/
theorem WRel.learn {σ : Store} {w : World} (hw : WRel G σ w) (w1 : World) (e1 : w1.heap = w.heap) (e2 : w1.os = w.os) (e3 : w1.tape = w.tape) (e4 : w1.output = w.output)
    {arr : Array Value} {ty : TypeId} {fr : Nat × Nat} {vs : List Value} (hv : ∀ (i : Nat) c, vs[i]? = some c → arr[i]? = some c) (h1 : ∀ c ∈ vs, c.oneCell' = true) :
    WRel (G.learn w.heap.size vs) σ (w1.alloc (.cells arr ty fr)) := by
  refine hw.grow (Gh.le_learn hw vs) rfl rfl (fun b hb => ?_) ?_ e2 e3 e4 (fun b o hb => ?_) (fun b o c hb h => ?_)
  · show (w1.heap.push _)[b]? = _
    rw [e1, Array.getElem?_push, if_neg (Nat.ne_of_lt hb)]
  · show _ ≤ (w1.heap.push _).size
    rw [e1]; simp
  · simp [Gh.learn, Nat.ne_of_lt hb]
  · simp only [Gh.learn] at h
    split at h
    · rename_i hb'; subst hb'
      refine ⟨?_, h1 c (List.mem_of_getElem? h)⟩
      have : (w1.alloc (.cells arr ty fr)).heap[w.heap.size]? = some (.cells arr ty fr) := by
        show (w1.heap.push _)[w.heap.size]? = _
        rw [e1]; simp
      simp [World.cell?, this, hv o c h]
    · have hlt := World.block_lt_of_cell? w _ (hw.imm b o c h).1
      simp only at hlt
      omega

/-! ### Conversions -/

theorem map_u8 (s : ByteArray) : (s.data.map fun b => Value.int .u8 b.toNat).toList = (s.data.toList.map (fun b => (b.toNat : Int))).map (Value.int .u8) := by
  simp

theorem conv_sound {src dst : TypeId} {x v : AV} (h : (evConv P src dst x).says v) {u : Value} (hx : Rep G x u) {σ : Store} {w : World} (hw : WRel G σ w) :
    ∃ c w' G', (convert src dst u).run P w = .ok c w' ∧ G.le G' ∧ WRel G' σ w' ∧ Rep G' v c := by
  unfold evConv at h
  split at h
  · rename_i d1 k kk n h1 h2
    have := says_val h; subst this; cases hx
    refine ⟨.int k (k.wrap n), w, G, ?_, .refl G, hw, .int _ _⟩
    simp only [convert, Sem.run_bind, run_underlying h1, run_underlying h2, Result.andThen_ok]
    rfl
  · rename_i d1 l h1 h2
    have := says_val h; subst this; cases hx; rename_i s e
    refine ⟨.string s, w, G, ?_, .refl G, hw, .str _ _ e⟩
    simp only [convert, Sem.run_bind, run_underlying h1, run_underlying h2, Result.andThen_ok]
    cases d1 <;> rfl
  · rename_i e l h1 h2
    split at h
    · rename_i h3
      obtain ⟨hlen, rfl⟩ := says_need h
      cases hx; rename_i s hs
      have hsz := str_len hs
      have hcap : s.size ≤ grownCap w s.size 0 e := grownCap_ge w _ _ _
      have hrun := run_bytes_of_string (P := P) w src dst e s h1 h2 h3
      refine ⟨_, _, _, hrun, Gh.le_learn hw (l.map (Value.int .u8)), hw.learn w.drew rfl rfl rfl rfl (fun i c hc => ?_) (fun c hc => ?_), ?_⟩
      · have hlt : i < l.length := by
          have := (List.getElem?_eq_some_iff.1 hc).1; simpa using this
        have h4 : (bytesRow s (grownCap w s.size 0 e))[i]? = (s.data.map fun b => Value.int .u8 b.toNat)[i]? := by
          simp only [bytesRow]
          rw [Array.getElem?_append_left]
          have : s.data.size = s.size := rfl
          simp [this]; omega
        rw [h4, ← Array.getElem?_toList, map_u8, hs]
        exact hc
      · simp at hc; obtain ⟨n, _, rfl⟩ := hc; rfl
      · rw [hsz]
        refine .ints .u8 l _ 0 _ (grownCap_ge w _ _ _) fun i x hx => ?_
        simp [Gh.learn, hx]
    · exact h.elim
  · rename_i e l h1 h2
    split at h
    · rename_i h3
      obtain ⟨hu8, rfl⟩ := says_need h
      have hback : (strOfNums l).data.toList.map (fun b => (b.toNat : Int)) = l := by
        rw [strOfNums_data, List.map_map]
        conv => rhs; rw [← List.map_id l]
        refine List.map_congr_left fun x hx => ?_
        have := hu8 x hx
        simp only [Function.comp, id, UInt8.toNat_ofNat']
        omega
      cases hx with
      | ints0 _ a cap =>
        refine ⟨.string (strOfNums []), w, G, ?_, .refl G, hw, .str _ _ hback⟩
        cases a with
        | none => exact run_convert_bytes_nil w src e h1 h3 0 cap dst h2
        | some a =>
          have := run_convert_bytes_back (P := P) w src dst e a cap [] h1 h3 h2 (fun j hj => by simp at hj)
          exact this
      | ints _ _ b o cap hc hm =>
        refine ⟨.string (strOfNums l), w, G, ?_, .refl G, hw, .str _ _ hback⟩
        refine run_convert_bytes_arg w src e h1 h3 b o l.length cap l rfl (fun i hi => ?_) dst h2
        exact (hw.imm _ _ _ (hm i (l.getD i 0) (by simp [List.getD, hi]))).1
    · exact h.elim
  · rename_i e h1 h2
    split at h
    · rename_i h3
      have := says_val h; subst this; cases hx
      refine ⟨.string .empty, w, G, ?_, .refl G, hw, .str _ _ rfl⟩
      simp only [convert, Sem.run_bind, run_underlying h1, run_underlying h2, run_underlying h3, Result.andThen_ok]
      rfl
    · exact h.elim
  · exact h.elim

end Go.Pa
