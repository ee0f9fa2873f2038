/-
  What an iterator knows of the world that a round leaves.
-/
import Derived.Test.YtnkealmacacipaaAbs25
namespace Go.Pa
set_option linter.unusedSectionVars false
variable [GTab]

theorem ptr_inv {G : Gh} {id off : Nat} {v : Value} (h : Rep G (.ptr id off) v) : ∃ b n, v = .pointer (some ⟨b, off, none⟩) ∧ G.obj[id]? = some (b, n) := by
  cases h with
  | ptr _ _ b n ho => exact ⟨b, n, rfl, ho⟩

theorem goodW_start {G : Gh} {σ : Store} {w W : World} {Keep : Store → Prop} (hw : WRel G σ w) (hn : NoMaps σ) (hk : Keep σ) (hB : RowKit.Below w.heap.size w W) : GoodW G w.heap.size Keep W := by
  refine ⟨G.frame G.lo G.mark, σ, ⟨rfl, rfl, fun _ _ _ h => h, fun _ _ h => h, rfl, fun _ _ h => h⟩, ?_, hk, hn, fun D o h => markLt hw D o h⟩
  have old : ∀ (k : Nat) (o : Obj), w.heap[k]? = some o → W.heap[k]? = some o := fun k o h => by
    rw [hB.block k (Array.getElem?_eq_some_iff.1 h).1]; exact h
  exact hw.overC hn (Nat.le_trans hw.grew hB.size) hB.size hB.os hB.tape hB.output (fun k o h _ => old k o h) (fun k hk => hB.block k (Nat.lt_of_lt_of_le hk hw.sz))
    (fun D o h => ⟨(hw.marks D o h).1, old D o (hw.marks D o h).2.1, (hw.marks D o h).2.2⟩)

theorem goodW_box {G : Gh} {B id b n : Nat} {x : AV} {W : World} (h : GoodW G B (fun s => s[id]? = some (.box [x])) W) (ho : G.obj[id]? = some (b, n)) :
    ∃ c G' σ', W.cell? ⟨b, 0, none⟩ = some c ∧ G.le G' ∧ WRel G' σ' W ∧ Rep G' x c := by
  obtain ⟨G', σ', q1, q2, q3, _, _⟩ := h
  obtain ⟨b', n', arr, ty, cs, h1, h2, h3, h4, h5, h6, h7, h8, h9⟩ := q2.objs id _ q3
  cases h1
  rw [q1.obj _ _ ho] at h2
  cases h2
  obtain ⟨c, hc, hr⟩ := h8 0 x rfl
  exact ⟨c, G', σ', by simp [World.cell?, h3, hc], q1, q2, hr⟩

theorem bytes_eq_of_map {s t : ByteArray} (h : s.data.toList.map (fun b => (b.toNat : Int)) = t.data.toList.map (fun b => (b.toNat : Int))) : s = t := by
  have : s.data.toList = t.data.toList := by
    have hinj : ∀ (x y : List UInt8), x.map (fun b => (b.toNat : Int)) = y.map (fun b => (b.toNat : Int)) → x = y := by
      intro x
      induction x with
      | nil => intro y hy; cases y with
        | nil => rfl
        | cons b y => simp at hy
      | cons a x ih => intro y hy; cases y with
        | nil => simp at hy
        | cons b y =>
          simp only [List.map_cons, List.cons.injEq] at hy
          have hab : a = b := UInt8.toNat_inj.1 (by omega)
          rw [hab, ih y hy.2]
    exact hinj _ _ h
  apply ByteArray.ext
  exact Array.ext' this

end Go.Pa
