/-
  The ledger: what is refused is accepted after enough came; the law.
-/
import Derived.Test.YtdioiegkpkjmkaaJt
namespace Go.Proofs
open Go.Pa
set_option linter.unusedSimpArgs false
set_option linter.unusedVariables false
set_option maxRecDepth 20000
set_option maxHeartbeats 4000000

theorem bal_app (l m : List Ent) (a c d : Int) : bal (l ++ m) a c d = bal l a c d + bal m a c d := by
  unfold bal; rw [List.filter_append, balP_append]

/-- What comes from the outside for an entry. -/
def hlpE (e : Ent) : Ent := ⟨e.day, 0, e.fr, e.cur, e.amt, 0⟩
def hlpL : List Ent → List Ent
  | [] => []
  | e :: l => if e.fr = 0 then hlpL l else hlpE e :: hlpL l

theorem hlpL_app (l m : List Ent) : hlpL (l ++ m) = hlpL l ++ hlpL m := by
  induction l with
  | nil => rfl
  | cons e l ih =>
    simp only [List.cons_append, hlpL]
    split
    · exact ih
    · rw [ih]; rfl
theorem hlpL_len (l : List Ent) : (hlpL l).length ≤ l.length := by
  induction l with
  | nil => simp [hlpL]
  | cons e l ih =>
    simp only [hlpL]
    split
    · simp only [List.length_cons]; omega
    · simp only [List.length_cons]; omega
theorem hlpL_val {l : List Ent} (h : ∀ e ∈ l, Val e) : ∀ e ∈ hlpL l, Val e := by
  induction l with
  | nil => intro e he; cases he
  | cons x l ih =>
    intro e he
    have ih := ih fun y hy => h y (List.mem_cons_of_mem _ hy)
    have hx := h x (List.mem_cons_self ..)
    simp only [hlpL] at he
    split at he
    · exact ih e he
    · rename_i h0
      rcases List.mem_cons.1 he with rfl | he
      · exact ⟨hx.day, ⟨by simp [hlpE], by simp [hlpE]⟩, hx.fr, fun h => h0 h.symm, hx.cur, hx.amt, ⟨by simp [hlpE], by simp [hlpE]⟩⟩
      · exact ih e he

theorem hlp_net {e : Ent} (h : Val e) {a : Int} (ha : a ≠ 0) (c : Int) : 0 ≤ net (hlpE e) a c ∧ 0 ≤ net (hlpE e) a c + net e a c := by
  have h1 := h.amt
  have h2 := h.ne
  have e1 : net (hlpE e) a c = if e.cur = c then (if e.fr = a then e.amt else 0) - (if (0 : Int) = a then e.amt else 0) else 0 := rfl
  have e2 : net e a c = if e.cur = c then (if e.to = a then e.amt else 0) - (if e.fr = a then e.amt else 0) else 0 := rfl
  rw [e1, e2]
  by_cases hc : e.cur = c
  · rw [if_pos hc, if_pos hc, if_neg (Ne.symm ha)]
    by_cases hf : e.fr = a
    · have ht : e.to ≠ a := fun h => h2 (by rw [hf, h])
      rw [if_pos hf, if_neg ht]; omega
    · rw [if_neg hf]
      split <;> omega
  · rw [if_neg hc, if_neg hc]; omega

theorem net_fr0 {e : Ent} (h : Val e) (hf : e.fr = 0) {a : Int} (ha : a ≠ 0) (c : Int) : 0 ≤ net e a c := by
  have h1 := h.amt
  unfold net
  have : ¬ e.fr = a := fun h => ha (by rw [← h, hf])
  simp only [if_neg this]
  split
  · split <;> omega
  · omega

theorem hlp_bal {l : List Ent} (h : ∀ e ∈ l, Val e) {a : Int} (ha : a ≠ 0) (c d : Int) : 0 ≤ bal (hlpL l) a c d ∧ 0 ≤ bal (hlpL l) a c d + bal l a c d := by
  induction l with
  | nil => simp [hlpL, bal_nil]
  | cons e l ih =>
    have ih := ih fun y hy => h y (List.mem_cons_of_mem _ hy)
    have hv := h e (List.mem_cons_self ..)
    simp only [hlpL]
    rw [bal_cons e l]
    by_cases h0 : e.fr = 0
    · rw [if_pos h0]
      have := net_fr0 hv h0 ha c
      refine ⟨ih.1, ?_⟩
      split <;> omega
    · rw [if_neg h0, bal_cons]
      have := hlp_net hv ha c
      have hd : (hlpE e).day = e.day := rfl
      rw [hd]
      split
      · constructor <;> omega
      · constructor <;> omega

theorem enough {es l : List Ent} (hs : Snd es) (h : ∀ e ∈ l, Val e) : Snd (es ++ hlpL l) ∧ Snd (es ++ hlpL l ++ l) := by
  constructor
  · intro a c d ha
    rw [bal_app]
    have := hs a c d ha
    have := (hlp_bal h ha c d).1
    omega
  · intro a c d ha
    rw [bal_app, bal_app]
    have := hs a c d ha
    have := (hlp_bal h ha c d).2
    omega

/-- What the law's ledger keeps. -/
structure EOk (B : Nat) (es : List Ent) : Prop where
  len : es.length ≤ B
  val : ∀ e ∈ es, Val e
  snd : Snd es

theorem post_snd {es e : List Ent} (hv : ∀ x ∈ e, Val x) (hl : (es ++ e).length ≤ 16384) (hs : Snd (es ++ e)) : postR es e = (0, es ++ e) := by
  refine post_ok ?_ (by omega) hs
  rw [Bool.eq_false_iff]
  intro h
  obtain ⟨x, hx, h1⟩ := List.any_eq_true.1 h
  have := valB_iff.2 (hv x hx)
  rw [this] at h1
  cases h1

theorem EOk.app {B : Nat} {es e : List Ent} (h : EOk B es) {k : Nat} (hk : e.length ≤ k) (hv : ∀ x ∈ e, Val x) (hs : Snd (es ++ e)) : EOk (B + k) (es ++ e) :=
  ⟨by have := h.len; rw [List.length_append]; omega, fun x hx => by rcases List.mem_append.1 hx with hx | hx; exact h.val x hx; exact hv x hx, hs⟩
theorem EOk.up {B C : Nat} {es : List Ent} (h : EOk B es) (hc : B ≤ C) : EOk C es := ⟨by have := h.len; omega, h.val, h.snd⟩

theorem EOk.post {B : Nat} {es e : List Ent} (h : EOk B es) {k : Nat} (he : e.length ≤ k) : EOk (B + k) (postR es e).2 := by
  rcases postR_cases es e with ⟨_, _, h1⟩ | ⟨hv, h1⟩
  · rw [h1]; exact h.up (by omega)
  · rw [h1]
    rcases addR_cases es e with ⟨_, _, h2⟩ | ⟨_, _, h2⟩ | ⟨_, hs, h2⟩
    · rw [h2]; exact h.up (by omega)
    · rw [h2]; exact h.up (by omega)
    · rw [h2]; exact h.app he hv hs

end Go.Proofs
