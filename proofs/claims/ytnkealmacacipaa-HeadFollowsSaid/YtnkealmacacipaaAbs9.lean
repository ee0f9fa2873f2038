/-
  The store: objects are made, read, written; soundness.
-/
import Derived.Test.YtnkealmacacipaaAbs8
namespace Go.Pa
set_option linter.unusedSectionVars false
variable [GTab]
variable {P : Program} {G : Gh}

/-- The ghost learns of a new object. -/
def Gh.add (G : Gh) (b n : Nat) : Gh := { G with obj := G.obj ++ [(b, n)] }

theorem Gh.le_add (G : Gh) (b n : Nat) : G.le (G.add b n) :=
  ⟨rfl, rfl, fun _ _ _ h => h, fun i x h => by
    have hlt : i < G.obj.length := (List.getElem?_eq_some_iff.1 h).1
    simp only [Gh.add]; rw [List.getElem?_append_left hlt]; exact h, rfl, fun _ _ h => h⟩

/-- The cells of an object: what they are in memory. -/
theorem ObjRel.get {w : World} {id : Nat} {ob : AObj} (h : ObjRel G w id ob) {cs : List AV} (hc : ob.cells = some cs) : ∃ b n arr ty, G.obj[id]? = some (b, n) ∧ w.heap[b]? = some (.cells arr ty (0, 0)) ∧ arr.size = n ∧
    cs.length ≤ n ∧ G.base ≤ b ∧ (∀ o, G.imm b o = none) ∧ RepL G cs (arr.toList.take cs.length) ∧ (∀ c ∈ arr.toList, c.oneCell' = true) := by
  have main : (∃ b n arr ty, ∃ cs : List AV, ob.cells = some cs ∧ G.obj[id]? = some (b, n) ∧ w.heap[b]? = some (.cells arr ty (0, 0)) ∧ arr.size = n ∧ cs.length ≤ n ∧ G.base ≤ b ∧
      (∀ o, G.imm b o = none) ∧ (∀ (i : Nat) (x : AV), cs[i]? = some x → ∃ c, arr[i]? = some c ∧ Rep G x c) ∧ (∀ c ∈ arr.toList, c.oneCell' = true)) →
      ∃ b n arr ty, G.obj[id]? = some (b, n) ∧ w.heap[b]? = some (.cells arr ty (0, 0)) ∧ arr.size = n ∧ cs.length ≤ n ∧ G.base ≤ b ∧ (∀ o, G.imm b o = none) ∧ RepL G cs (arr.toList.take cs.length) ∧ (∀ c ∈ arr.toList, c.oneCell' = true) := by
    rintro ⟨b, n, arr, ty, cs', h1, h2, h3, h4, h5, h6, h7, h8, h9⟩
    rw [hc] at h1; cases h1
    refine ⟨b, n, arr, ty, h2, h3, h4, h5, h6, h7, RepL.of_get (by simp; omega) fun i x hx => ?_, h9⟩
    obtain ⟨c, hc', hr⟩ := h8 i x hx
    have hi : i < cs.length := (List.getElem?_eq_some_iff.1 hx).1
    exact ⟨c, by rw [List.getElem?_take, if_pos hi]; simpa using hc', hr⟩
  cases ob with
  | dead => cases hc
  | mp kv => cases hc
  | box cs' => exact main h
  | vecI k l => exact main h
  | vecR sz rs => exact main h

theorem objRel_mk {w : World} {id : Nat} {ob : AObj} {cs : List AV} (hc : ob.cells = some cs) {b n : Nat} {arr : Array Value} {ty : TypeId} (h2 : G.obj[id]? = some (b, n)) (h3 : w.heap[b]? = some (.cells arr ty (0, 0)))
    (h4 : arr.size = n) (h6 : G.base ≤ b) (h7 : ∀ o, G.imm b o = none) (vs : List Value) (h8 : RepL G cs vs) (hv : ∀ (i : Nat) c, vs[i]? = some c → arr[i]? = some c) (h9 : ∀ c ∈ arr.toList, c.oneCell' = true) : ObjRel G w id ob := by
  have h5 : cs.length ≤ n := by
    rcases Nat.lt_or_ge n cs.length with h | h
    · exfalso
      have hlt : n < vs.length := by rw [← h8.length]; exact h
      have := hv n _ (List.getElem?_eq_getElem hlt)
      rw [Array.getElem?_eq_none (by omega)] at this
      cases this
    · exact h
  have main : ∃ b n arr ty, ∃ cs : List AV, ob.cells = some cs ∧ G.obj[id]? = some (b, n) ∧ w.heap[b]? = some (.cells arr ty (0, 0)) ∧ arr.size = n ∧ cs.length ≤ n ∧ G.base ≤ b ∧
      (∀ o, G.imm b o = none) ∧ (∀ (i : Nat) (x : AV), cs[i]? = some x → ∃ c, arr[i]? = some c ∧ Rep G x c) ∧ (∀ c ∈ arr.toList, c.oneCell' = true) :=
    ⟨b, n, arr, ty, cs, hc, h2, h3, h4, h5, h6, h7, fun i x hx => let ⟨c, hcc, hr⟩ := h8.get i x hx; ⟨c, hv i c hcc, hr⟩, h9⟩
  cases ob with
  | dead => cases hc
  | mp kv => cases hc
  | box cs' => exact main
  | vecI k l => exact main
  | vecR sz rs => exact main

/-- The new block of a world that is 'w' but for draws. -/
theorem WRel.push {σ : Store} {w w1 : World} (hw : WRel G σ w) (e1 : w1.heap = w.heap) (e2 : w1.os = w.os) (e3 : w1.tape = w.tape) (e4 : w1.output = w.output)
    {arr : Array Value} {ty : TypeId} {ob : AObj} {cs : List AV} (hc : ob.cells = some cs) (vs : List Value) (hl : RepL G cs vs) (hv : ∀ (i : Nat) c, vs[i]? = some c → arr[i]? = some c) (h9 : ∀ c ∈ arr.toList, c.oneCell' = true) :
    WRel (G.add w.heap.size arr.size) (σ ++ [ob]) (w1.alloc (.cells arr ty)) := by
  have hg := Gh.le_add G w.heap.size arr.size
  have hnew : (w1.alloc (.cells arr ty)).heap[w.heap.size]? = some (.cells arr ty (0, 0)) := by
    show (w1.heap.push _)[w.heap.size]? = _
    rw [e1]; simp
  have hold : ∀ b, b < w.heap.size → (w1.alloc (.cells arr ty)).heap[b]? = w.heap[b]? := fun b hb => by
    show (w1.heap.push _)[b]? = _
    rw [e1, Array.getElem?_push, if_neg (Nat.ne_of_lt hb)]
  have himm : ∀ b o c, G.imm b o = some c → b < w.heap.size := fun b o c h => World.block_lt_of_cell? w _ (hw.imm b o c h).1
  have hlast : ∀ i x, (G.obj ++ [(w.heap.size, arr.size)])[i]? = some x → (i < G.obj.length ∧ G.obj[i]? = some x) ∨ (i = G.obj.length ∧ x = (w.heap.size, arr.size)) := by
    intro i x h
    rcases Nat.lt_or_ge i G.obj.length with hi | hi
    · rw [List.getElem?_append_left hi] at h; exact .inl ⟨hi, h⟩
    · rw [List.getElem?_append_right hi] at h
      have : i - G.obj.length = 0 := by
        rcases Nat.eq_zero_or_pos (i - G.obj.length) with h0 | h0
        · exact h0
        · rw [List.getElem?_eq_none (by simp; omega)] at h; cases h
      rw [this] at h; simp at h
      exact .inr ⟨by omega, h.symm⟩
  have slast : ∀ i x, (σ ++ [ob])[i]? = some x → (i < σ.length ∧ σ[i]? = some x) ∨ (i = σ.length ∧ x = ob) := by
    intro i x h
    rcases Nat.lt_or_ge i σ.length with hi | hi
    · rw [List.getElem?_append_left hi] at h; exact .inl ⟨hi, h⟩
    · rw [List.getElem?_append_right hi] at h
      have : i - σ.length = 0 := by
        rcases Nat.eq_zero_or_pos (i - σ.length) with h0 | h0
        · exact h0
        · rw [List.getElem?_eq_none (by simp; omega)] at h; cases h
      rw [this] at h; simp at h
      exact .inr ⟨by omega, h.symm⟩
  refine ⟨by simp [Gh.add, hw.len], fun b o c h => ?_, fun id x hx => ?_, fun i j oi oj bi bj a1 a2 a3 a4 a5 a6 a7 => ?_, fun b hb => ?_, ?_, e2.trans hw.os, e3.trans hw.tape, e4.trans hw.output, fun D o hD => ⟨(hw.marks D o hD).1, by rw [hold D (Array.getElem?_eq_some_iff.1 (hw.marks D o hD).2.1).1]; exact (hw.marks D o hD).2.1, (hw.marks D o hD).2.2⟩, by
    show _ ≤ (w1.heap.push _).size
    rw [e1]; simp; exact Nat.le_succ_of_le hw.grew, hw.globs⟩
  · have hlt := himm b o c h
    have := hw.imm b o c h
    exact ⟨by rw [World.cell?_of_block (w := w) (hold b hlt)]; exact this.1, this.2⟩
  · rcases slast id x hx with ⟨hi, hx⟩ | ⟨rfl, rfl⟩
    · cases hlv : x.live with
      | false => cases x <;> first | trivial | cases hlv
      | true =>
        obtain ⟨b, n, q1, q2, q3, q4⟩ := (hw.objs id x hx).block hlv
        refine objRel_mono hg (hw.objs id x hx) (fun b' n' e => ?_) (fun b' n' e hlt h0 o => h0 o)
        rw [q1] at e; cases e; exact hold _ q2
    · refine objRel_mk hc (b := w.heap.size) (n := arr.size) (arr := arr) (ty := ty) ?_ hnew rfl hw.sz (fun o => ?_) vs (hl.mono hg) hv h9
      · simp only [Gh.add]; rw [← hw.len]; simp
      · cases hq : G.imm w.heap.size o with
        | none => exact hq
        | some c => exact absurd (himm _ _ _ hq) (Nat.lt_irrefl _)
  · have hblk : ∀ (i : Nat) oi bi, σ[i]? = some oi → oi.live = true → G.obj[i]? = some bi → bi.1 < w.heap.size := fun i oi bi q1 q2 q3 => by
      obtain ⟨b, n, p1, p2, _⟩ := (hw.objs i oi q1).block q2
      rw [p1] at q3; cases q3; exact p2
    rcases slast i oi a1 with ⟨hi, b1⟩ | ⟨hi, rfl⟩
    · rcases slast j oj a2 with ⟨hj, b2⟩ | ⟨hj, rfl⟩
      · rcases hlast i bi a5 with ⟨_, c1⟩ | ⟨hi', _⟩
        · rcases hlast j bj a6 with ⟨_, c2⟩ | ⟨hj', _⟩
          · exact hw.inj i j oi oj bi bj b1 b2 a3 a4 c1 c2 a7
          · rw [hw.len] at hj'; omega
        · rw [hw.len] at hi'; omega
      · rcases hlast i bi a5 with ⟨_, c1⟩ | ⟨hi', _⟩
        · rcases hlast j bj a6 with ⟨hj', _⟩ | ⟨_, rfl⟩
          · rw [hw.len] at hj'; omega
          · have := hblk i oi bi b1 a3 c1
            simp only at a7; omega
        · rw [hw.len] at hi'; omega
    · rcases slast j oj a2 with ⟨hj, b2⟩ | ⟨hj, rfl⟩
      · rcases hlast j bj a6 with ⟨_, c2⟩ | ⟨hj', _⟩
        · rcases hlast i bi a5 with ⟨hi', _⟩ | ⟨_, rfl⟩
          · rw [hw.len] at hi'; omega
          · have := hblk j oj bj b2 a4 c2
            simp only at a7; omega
        · rw [hw.len] at hj'; omega
      · omega
  · show _ = G.w0.heap[b]?
    rw [hold b (Nat.lt_of_lt_of_le hb hw.sz)]
    exact hw.frame b hb
  · show G.base ≤ (w1.heap.push _).size
    rw [e1]; have := hw.sz; simp; omega

/-- A block that lies there becomes an object. -/
theorem WRel.adopt {σ : Store} {w : World} (hw : WRel G σ w) {b : Nat} {arr : Array Value} {ty : TypeId} {ob : AObj} {cs : List AV} (hc : ob.cells = some cs) (hb : w.heap[b]? = some (.cells arr ty (0, 0))) (hbase : G.base ≤ b)
    (himm : ∀ o, G.imm b o = none) (hdis : ∀ (i : Nat) oi bi, σ[i]? = some oi → oi.live = true → G.obj[i]? = some bi → bi.1 ≠ b) {vs : List Value} (hl : RepL G cs vs) (hv : ∀ (i : Nat) c, vs[i]? = some c → arr[i]? = some c) (h9 : ∀ c ∈ arr.toList, c.oneCell' = true) :
    WRel (G.add b arr.size) (σ ++ [ob]) w := by
  have hg := Gh.le_add G b arr.size
  have hlast : ∀ (i : Nat) x, (G.obj ++ [(b, arr.size)])[i]? = some x → (i < G.obj.length ∧ G.obj[i]? = some x) ∨ (i = G.obj.length ∧ x = (b, arr.size)) := by
    intro i x h
    rcases Nat.lt_or_ge i G.obj.length with hi | hi
    · rw [List.getElem?_append_left hi] at h; exact .inl ⟨hi, h⟩
    · rw [List.getElem?_append_right hi] at h
      have : i - G.obj.length = 0 := by
        rcases Nat.eq_zero_or_pos (i - G.obj.length) with h0 | h0
        · exact h0
        · rw [List.getElem?_eq_none (by simp; omega)] at h; cases h
      rw [this] at h; simp at h
      exact .inr ⟨by omega, h.symm⟩
  have slast : ∀ (i : Nat) x, (σ ++ [ob])[i]? = some x → (i < σ.length ∧ σ[i]? = some x) ∨ (i = σ.length ∧ x = ob) := by
    intro i x h
    rcases Nat.lt_or_ge i σ.length with hi | hi
    · rw [List.getElem?_append_left hi] at h; exact .inl ⟨hi, h⟩
    · rw [List.getElem?_append_right hi] at h
      have : i - σ.length = 0 := by
        rcases Nat.eq_zero_or_pos (i - σ.length) with h0 | h0
        · exact h0
        · rw [List.getElem?_eq_none (by simp; omega)] at h; cases h
      rw [this] at h; simp at h
      exact .inr ⟨by omega, h.symm⟩
  have hlen := hw.len
  refine ⟨by simp [Gh.add, hw.len], hw.imm, fun id x hx => ?_, fun i j oi oj bi bj a1 a2 a3 a4 a5 a6 a7 => ?_, hw.frame, hw.sz, hw.os, hw.tape, hw.output, hw.marks, hw.grew, hw.globs⟩
  · rcases slast id x hx with ⟨hi, hx⟩ | ⟨rfl, rfl⟩
    · exact objRel_mono hg (hw.objs id x hx) (fun _ _ _ => rfl) (fun _ _ _ _ h0 => h0)
    · refine objRel_mk hc (b := b) (n := arr.size) (arr := arr) (ty := ty) ?_ hb rfl hbase himm vs (hl.mono hg) hv h9
      simp only [Gh.add]; rw [← hlen]; simp
  · rcases slast i oi a1 with ⟨hi, b1⟩ | ⟨hi, rfl⟩
    · rcases hlast i bi a5 with ⟨_, c1⟩ | ⟨hi', _⟩
      · rcases slast j oj a2 with ⟨hj, b2⟩ | ⟨hj, rfl⟩
        · rcases hlast j bj a6 with ⟨_, c2⟩ | ⟨hj', _⟩
          · exact hw.inj i j oi oj bi bj b1 b2 a3 a4 c1 c2 a7
          · omega
        · rcases hlast j bj a6 with ⟨hj', _⟩ | ⟨_, rfl⟩
          · omega
          · exact absurd a7 (hdis i oi bi b1 a3 c1)
      · omega
    · rcases hlast i bi a5 with ⟨hi', _⟩ | ⟨_, rfl⟩
      · omega
      · rcases slast j oj a2 with ⟨hj, b2⟩ | ⟨hj, rfl⟩
        · rcases hlast j bj a6 with ⟨_, c2⟩ | ⟨hj', _⟩
          · exact absurd a7.symm (hdis j oj bj b2 a4 c2)
          · omega
        · omega

/-- An object is let go. -/
theorem WRel.kill {σ : Store} {w : World} (hw : WRel G σ w) (id : Nat) : WRel G (σ.set id .dead) w := by
  have hset : ∀ (i : Nat) (x : AObj), (σ.set id AObj.dead)[i]? = some x → x.live = true → σ[i]? = some x := by
    intro i x h hl
    rw [List.getElem?_set] at h
    split at h
    · split at h
      · cases h; cases hl
      · cases h
    · exact h
  refine ⟨by simp [hw.len], hw.imm, fun i x hx => ?_, fun i j oi oj bi bj a1 a2 a3 a4 a5 a6 a7 => hw.inj i j oi oj bi bj (hset i oi a1 a3) (hset j oj a2 a4) a3 a4 a5 a6 a7, hw.frame, hw.sz, hw.os, hw.tape, hw.output, hw.marks, hw.grew, hw.globs⟩
  cases hl : x.live with
  | false => cases x <;> first | trivial | cases hl
  | true => exact hw.objs i x (hset i x hx hl)

/-- A row is written. -/
theorem WRel.write {σ : Store} {w : World} (hw : WRel G σ w) {id : Nat} {ob ob' : AObj} (ho : σ[id]? = some ob) (hl : ob.live = true) {b n : Nat} {arr arr' : Array Value} {ty : TypeId} (h2 : G.obj[id]? = some (b, n))
    (h3 : w.heap[b]? = some (.cells arr ty (0, 0))) (h4 : arr'.size = n) {cs : List AV} (hc : ob'.cells = some cs) (vs : List Value) (h8 : RepL G cs vs) (hv : ∀ (i : Nat) c, vs[i]? = some c → arr'[i]? = some c)
    (h9 : ∀ c ∈ arr'.toList, c.oneCell' = true) : WRel G (σ.set id ob') (w.setRow b arr') := by
  obtain ⟨b', n', q1, q2, q3, q4⟩ := (hw.objs id ob ho).block hl
  rw [h2] at q1; cases q1
  have hid : id < σ.length := (List.getElem?_eq_some_iff.1 ho).1
  have hother : ∀ k, k ≠ b → (w.setRow b arr').heap[k]? = w.heap[k]? := fun k hk => setRow_other w b k arr' hk
  have hset : ∀ (i : Nat) (x : AObj), (σ.set id ob')[i]? = some x → (i = id ∧ x = ob') ∨ (i ≠ id ∧ σ[i]? = some x) := by
    intro i x h
    rw [List.getElem?_set] at h
    split at h
    · rename_i e
      first
        | (cases h; exact .inl ⟨e.symm, rfl⟩)
        | (rw [if_pos hid] at h; cases h; exact .inl ⟨e.symm, rfl⟩)
    · rename_i e; exact .inr ⟨fun e' => e e'.symm, h⟩
  have hback : ∀ (i : Nat) (x : AObj), (σ.set id ob')[i]? = some x → x.live = true → ∃ y, σ[i]? = some y ∧ y.live = true := by
    intro i x h hx
    rcases hset i x h with ⟨rfl, rfl⟩ | ⟨_, h⟩
    · exact ⟨ob, ho, hl⟩
    · exact ⟨x, h, hx⟩
  refine ⟨by simp [hw.len], fun b' o c h => ?_, fun i x hx => ?_, fun i j oi oj bi bj a1 a2 a3 a4 a5 a6 a7 => ?_, fun k hk => ?_, by simp; exact hw.sz, hw.os, hw.tape, hw.output, fun D o hD => ⟨(hw.marks D o hD).1, by
    obtain ⟨_, h0, h0'⟩ := hw.marks D o hD
    have hne : D ≠ b := fun e => by subst e; rw [h3] at h0; cases h0; cases h0'
    rw [hother D hne]; exact h0, (hw.marks D o hD).2.2⟩, by simp; exact hw.grew, hw.globs⟩
  · have := hw.imm b' o c h
    have hne : b' ≠ b := fun e => by subst e; rw [q4 o] at h; cases h
    exact ⟨by rw [World.cell?_of_block (w := w) (hother b' hne)]; exact this.1, this.2⟩
  · rcases hset i x hx with ⟨rfl, rfl⟩ | ⟨hne, hx⟩
    · exact objRel_mk hc h2 (setRow_heap w b arr arr' ty _ h3) h4 q3 q4 vs h8 hv h9
    · cases hlx : x.live with
      | false => cases x <;> first | trivial | cases hlx
      | true =>
        refine objRel_mono (.refl G) (hw.objs i x hx) (fun b' n' e => hother b' fun hb => ?_) (fun _ _ _ _ h0 => h0)
        subst hb
        exact hne (hw.inj i id x ob _ _ hx ho hlx hl e h2 rfl)
  · obtain ⟨yi, p1, p2⟩ := hback i oi a1 a3
    obtain ⟨yj, p3, p4⟩ := hback j oj a2 a4
    exact hw.inj i j yi yj bi bj p1 p3 p2 p4 a5 a6 a7
  · rw [hother k (by omega)]; exact hw.frame k hk

end Go.Pa
