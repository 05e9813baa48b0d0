/-
  Plain laws: no program in sight.
-/
import Derived.Test.YtcgcnojpcgjnmaaPlPush
import Derived.Test.YtcgcnojpcgjnmaaG11
namespace Go.Proofs.T1
open Go Go.Sx

/-! Lists of valid bodies: what the program computes with them, and what the reference computes -/
abbrev OKb (k : Nat) (b : V25) : Prop := body_Check k b = some 0
def AllK (k : Nat) (l : List V25) : Prop := ∀ i, 0 ≤ i → i < len l → OKb k (el Z25 l i)
theorem CMnn {x : Int} (h : 0 ≤ x) : 0 ≤ CM x ∧ CM x ≤ 1099511627776 := by unfold CM; split <;> (try split) <;> omega
theorem rndnn {x n : Int} (hn : 0 < n) (h : 0 ≤ x) : 0 ≤ rnd x n := Int.ediv_nonneg (by omega) (by omega)
theorem nn_sq (x : Int) : 0 ≤ x * x := by
  rcases Int.le_total 0 x with h | h
  · exact Int.mul_nonneg h h
  · have := Int.mul_nonneg (show 0 ≤ -x by omega) (show 0 ≤ -x by omega)
    rw [Int.neg_mul_neg] at this
    exact this
theorem over_nn {k : Nat} (hk : 2 ≤ k) {a n : Int} (ha : 0 ≤ a) (hn : 0 < n) (hn' : n ≤ 1099511627776) : ∃ q, body_over k a n = some q ∧ 0 ≤ q ∧ q ≤ 1099511627776 := by
  have h := CMnn (rndnn hn (Int.mul_nonneg (CMnn ha).1 (CMnn (show (0 : Int) ≤ 65536 by decide)).1))
  exact ⟨_, FOver_tot hk a hn hn', h.1, h.2⟩
theorem add_nn (k : Nat) {a b : Int} (ha : 0 ≤ a) (hb : 0 ≤ b) : ∃ q, fix_Add k a b = some q ∧ 0 ≤ q ∧ q ≤ 1099511627776 := by
  have h := CMnn (Int.add_nonneg (CMnn ha).1 (CMnn hb).1)
  exact ⟨_, FAdd_tot k a b, h.1, h.2⟩
theorem sq_nn {k : Nat} (hk : 2 ≤ k) (c : Int) : ∃ q, fix_Mul k c c = some q ∧ 0 ≤ q ∧ q ≤ 1099511627776 := by
  have h := CMnn (rndnn (show (0 : Int) < 65536 by decide) (nn_sq (CM c)))
  exact ⟨_, FMul_tot hk c c, h.1, h.2⟩
theorem vsub_tot (k : Nat) (a b : V22) : ∃ w, vec_Sub k a b = some w := by
  unfold vec_Sub
  simp only [FSub_tot, bnd_some]
  exact ⟨_, rfl⟩
theorem vadd_tot (k : Nat) (a b : V22) : ∃ w, vec_Add k a b = some w := by
  unfold vec_Add
  simp only [FAdd_tot, bnd_some]
  exact ⟨_, rfl⟩
theorem vscale_tot {k : Nat} (hk : 2 ≤ k) (a : V22) (n : Int) : ∃ w, vec_Scale k a n = some w := by
  unfold vec_Scale
  simp only [FMul_tot hk, bnd_some]
  exact ⟨_, rfl⟩
theorem vdot_tot {k : Nat} (hk : 2 ≤ k) (a b : V22) : ∃ w, vec_Dot k a b = some w := by
  unfold vec_Dot
  simp only [FMul_tot hk, FAdd_tot, bnd_some]
  exact ⟨_, rfl⟩
theorem vcross_tot {k : Nat} (hk : 2 ≤ k) (a b : V22) : ∃ w, vec_Cross k a b = some w := by
  unfold vec_Cross
  simp only [FMul_tot hk, FSub_tot, bnd_some]
  exact ⟨_, rfl⟩
section
variable {p v : V22} {ang spin mass inertia bounce rub : Int} {l : List V22} {asleep : Bool} {calm : Int}
end
end Go.Proofs.T1
