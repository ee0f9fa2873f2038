/-
  A range over a function: the rule.
-/
import Derived.Test.YtnkealmacacipaaAbs23
namespace Go.Pa
set_option linter.unusedSectionVars false
variable [GTab]
variable {P : Program} {N : Nat}

def NoMaps (σ : Store) : Prop := ∀ (id : Nat) kv, σ[id]? ≠ some (.mp kv)

/-- A world that goes on: cells lie as they lay. -/
theorem WRel.overC {G : Gh} {σ : Store} {w w' : World} (hw : WRel G σ w) (hn : NoMaps σ) {lo : Nat} {m : Nat → Obj → Prop} (hlo : lo ≤ w'.heap.size) (hs : w.heap.size ≤ w'.heap.size) (h1 : w'.os = w.os) (h2 : w'.tape = w.tape) (h3 : w'.output = w.output)
    (hk : ∀ (k : Nat) (o : Obj), w.heap[k]? = some o → o.isCells = true → w'.heap[k]? = some o) (hf : ∀ k, k < G.base → w'.heap[k]? = w.heap[k]?)
    (hm : ∀ D o, m D o → G.base ≤ D ∧ w'.heap[D]? = some o ∧ o.isCells = false) : WRel (G.frame lo m) σ w' :=
  ⟨hw.len, fun b o c h => by
    obtain ⟨q1, q2⟩ := hw.imm b o c h
    refine ⟨?_, q2⟩
    have hlt := World.block_lt_of_cell? w _ q1
    simp only at hlt
    cases hob : w.heap[b]? with
    | none => rw [Array.getElem?_eq_none_iff] at hob; omega
    | some x =>
      cases x with
      | cells arr ty fr => rw [World.cell?_of_block (w := w) (by rw [hk _ _ hob rfl, hob])]; exact q1
      | _ => simp [World.cell?, hob] at q1,
    fun id ob h => by
      have main : ∀ {ob : AObj}, (∃ b n arr ty, ∃ cs : List AV, ob.cells = some cs ∧ G.obj[id]? = some (b, n) ∧ w.heap[b]? = some (.cells arr ty (0, 0)) ∧ arr.size = n ∧ cs.length ≤ n ∧ G.base ≤ b ∧
          (∀ o, G.imm b o = none) ∧ (∀ (i : Nat) (x : AV), cs[i]? = some x → ∃ c, arr[i]? = some c ∧ Rep G x c) ∧ (∀ c ∈ arr.toList, c.oneCell' = true)) →
          ∃ b n arr ty, ∃ cs : List AV, ob.cells = some cs ∧ (G.frame lo m).obj[id]? = some (b, n) ∧ w'.heap[b]? = some (.cells arr ty (0, 0)) ∧ arr.size = n ∧ cs.length ≤ n ∧ (G.frame lo m).base ≤ b ∧
          (∀ o, (G.frame lo m).imm b o = none) ∧ (∀ (i : Nat) (x : AV), cs[i]? = some x → ∃ c, arr[i]? = some c ∧ Rep (G.frame lo m) x c) ∧ (∀ c ∈ arr.toList, c.oneCell' = true) := by
        rintro ob ⟨b, n, arr, ty, cs, h1, h2, h3, h4, h5, h6, h7, h8, h9⟩
        exact ⟨b, n, arr, ty, cs, h1, h2, hk _ _ h3 rfl, h4, h5, h6, h7, fun i x hx => let ⟨c, hc, hrr⟩ := h8 i x hx; ⟨c, hc, rep_frame hrr⟩, h9⟩
      have h0 := hw.objs id ob h
      cases ob with
      | dead => trivial
      | mp kv => exact absurd h (hn id kv)
      | box cs => exact main h0
      | vecI k l => exact main h0
      | vecR sz rs => exact main h0,
    hw.inj, fun b hb => (hf b hb).trans (hw.frame b hb), Nat.le_trans hw.sz hs, h1.trans hw.os, h2.trans hw.tape, h3.trans hw.output, hm, hlo, hw.globs⟩

/-- The world still holds what the iterator reads. -/
def GoodW (G : Gh) (B : Nat) (Keep : Store → Prop) (W : World) : Prop := ∃ G' σ', G.le G' ∧ WRel G' σ' W ∧ Keep σ' ∧ NoMaps σ' ∧ ∀ D o, G'.mark D o → D < B

/-- The contract of an iterator, on abstract values: it hands out xs. -/
def IterC {α : Type} (P : Program) (gf : FuncId) (cs : List AV) (Keep : Store → Prop) (encs : α → Array Value) (xs : List α) : Prop :=
  (∀ args w, (callFunc gf args).run P w = .ok (.enter gf args) w) ∧
  ∀ G σ w (hs : Array Value), WRel G σ w → NoMaps σ → Keep σ → RepL G cs hs.toList →
    SeqStopsK Fence.wide 3 P gf hs encs (fun W W' => GoodW G w.heap.size Keep W → GoodW G w.heap.size Keep W') (· = xs) (fun _ => True) xs.length w

theorem markLt {G : Gh} {σ : Store} {w : World} (hw : WRel G σ w) : ∀ D o, G.mark D o → D < w.heap.size := fun D o h => (Array.getElem?_eq_some_iff.1 (hw.marks D o h).2.1).1

/-- A block that is no cells turns, or new ones come: the relation goes on. -/
theorem WRel.grown {G : Gh} {σ : Store} {W W' : World} {row : Option Nat} {B : Nat} (hw : WRel G σ W) (hn : NoMaps σ) (hb : G.base ≤ B) (hm : ∀ D o, G.mark D o → D < B) (hg : W.grownBy W' row)
    (hr : ∀ r, row = some r → B ≤ r ∧ ∃ o : Obj, W.heap[r]? = some o ∧ o.isCells = false) : WRel (G.frame G.lo G.mark) σ W' := by
  have keep : ∀ (k : Nat) (o : Obj), W.heap[k]? = some o → (o.isCells = true ∨ k < B) → W'.heap[k]? = some o := by
    intro k o hk hc
    have hlt := (Array.getElem?_eq_some_iff.1 hk).1
    rw [hg.block k hlt ?_]; exact hk
    intro e
    obtain ⟨q1, o', q2, q3⟩ := hr k e.symm
    rcases hc with hc | hc
    · rw [hk] at q2; cases q2; rw [hc] at q3; cases q3
    · omega
  refine hw.overC hn (Nat.le_trans hw.grew hg.size) hg.size hg.os hg.tape hg.output (fun k o hk hc => keep k o hk (.inl hc)) (fun k hk => ?_) (fun D o hD => ?_)
  · have hlt : k < W.heap.size := Nat.lt_of_lt_of_le hk hw.sz
    rw [keep k _ (Array.getElem?_eq_getElem hlt) (.inr (by omega))]
    exact (Array.getElem?_eq_getElem hlt).symm
  · obtain ⟨q1, q2, q3⟩ := hw.marks D o hD
    exact ⟨q1, keep D o q2 (.inr (hm D o hD)), q3⟩

theorem NoMaps.push {s : Store} (h : NoMaps s) {x : AObj} (hx : ∀ kv, x ≠ .mp kv) : NoMaps (s ++ [x]) := by
  intro i kv hi
  rcases Nat.lt_or_ge i s.length with hl | hl
  · rw [List.getElem?_append_left hl] at hi; exact h i kv hi
  · rw [List.getElem?_append_right hl] at hi
    cases hk : i - s.length with
    | zero => rw [hk] at hi; simp at hi; exact hx kv hi
    | succ k => rw [hk] at hi; simp at hi

theorem NoMaps.set {s : Store} (h : NoMaps s) {x : AObj} (hx : ∀ kv, x ≠ .mp kv) (j : Nat) : NoMaps (s.set j x) := by
  intro i kv hi
  rw [List.getElem?_set] at hi
  split at hi
  · split at hi
    · cases hi; exact hx kv rfl
    · cases hi
  · exact h i kv hi

end Go.Pa
