/-
  Plain laws: no program in sight.
-/
import Derived.Test.YtolkdkhdkfndfaaG2
import Derived.Test.YtolkdkhdkfndfaaSxNum
import Derived.Test.YtolkdkhdkfndfaaSxLaw
namespace Go.Proofs.T1
open Go Go.Sx

/-! Loops -/
theorem find_loop {α : Type} (F : Nat → Int → Option (α ⊕ Unit)) (lo N : Int) (P : Int → Prop) (g : Int → α)
    (hstep : ∀ n v, lo ≤ v → v < N → P v → F (n + 1) v = some (.inl (g v)))
    (hskip : ∀ n v, lo ≤ v → v < N → ¬ P v → F (n + 1) v = F n (v + 1))
    (hend : ∀ n v, lo ≤ v → N ≤ v → F (n + 1) v = some (.inr ())) :
    ∀ (n : Nat) (v : Int), lo ≤ v → N - v < (n : Int) → (∃ j, v ≤ j ∧ j < N ∧ P j ∧ (∀ i, v ≤ i → i < j → ¬ P i) ∧ F n v = some (.inl (g j))) ∨
      ((∀ j, v ≤ j → j < N → ¬ P j) ∧ (0 < n → F n v = some (.inr ()))) := by
  intro n
  induction n with
  | zero =>
    intro v h1 h2
    exact Or.inr ⟨fun j a b => by omega, fun h => absurd h (by decide)⟩
  | succ n ih =>
    intro v h1 h2
    by_cases hv : v < N
    · by_cases hp : P v
      · exact Or.inl ⟨v, by omega, hv, hp, fun i a b => by omega, hstep n v h1 hv hp⟩
      · have e := hskip n v h1 hv hp
        have hn : 0 < n := by omega
        rcases ih (v + 1) (by omega) (by omega) with ⟨j, a, b, c, d, f⟩ | ⟨a, b⟩
        · refine Or.inl ⟨j, by omega, b, c, ?_, e ▸ f⟩
          intro i x y
          by_cases hi : i = v
          · exact hi ▸ hp
          · exact d i (by omega) y
        · refine Or.inr ⟨?_, fun _ => by rw [e, b hn]⟩
          intro i x y
          by_cases hi : i = v
          · exact hi ▸ hp
          · exact a i (by omega) y
    · exact Or.inr ⟨fun j a b => by omega, fun _ => hend n v h1 (by omega)⟩

theorem inv_loop {σ : Type} (F : Nat → σ → Int → Option σ) (lo N : Int) (I : σ → Int → Prop)
    (hstep : ∀ n s v, lo ≤ v → v < N → I s v → ∃ s', I s' (v + 1) ∧ F (n + 1) s v = F n s' (v + 1))
    (hend : ∀ n s v, lo ≤ v → N ≤ v → F (n + 1) s v = some s) :
    ∀ (n : Nat) (s : σ) (v : Int), lo ≤ v → v ≤ N → N - v < (n : Int) → I s v → ∃ s', I s' N ∧ F n s v = some s' := by
  intro n
  induction n with
  | zero => intro s v h1 h2 h3; omega
  | succ n ih =>
    intro s v h1 h2 h3 h4
    by_cases hv : v < N
    · obtain ⟨s', a, b⟩ := hstep n s v h1 hv h4
      rw [b]
      exact ih s' (v + 1) (by omega) (by omega) (by omega) a
    · have : v = N := by omega
      subst this
      exact ⟨s, h4, hend n s v h1 (by omega)⟩

/-! Digits -/
end Go.Proofs.T1
namespace Go.Proofs.T1
open Go Go.Sx

theorem inL_of {α : Type} {v : Int} {l : List α} (h0 : 0 ≤ v) (h1 : v < len l) : inL v l := ⟨h0, h1⟩
theorem ilt_pos {a b : Int} (h : a < b) : ilt a b = true := decide_eq_true h
theorem ilt_neg {a b : Int} (h : b ≤ a) : ilt a b = false := decide_eq_false (by omega)
theorem ile_pos {a b : Int} (h : a ≤ b) : ile a b = true := decide_eq_true h
theorem ile_neg {a b : Int} (h : b < a) : ile a b = false := decide_eq_false (by omega)
theorem igt_pos {a b : Int} (h : a > b) : igt a b = true := decide_eq_true h
theorem igt_neg {a b : Int} (h : a ≤ b) : igt a b = false := decide_eq_false (by omega)
theorem ige_pos {a b : Int} (h : a ≥ b) : ige a b = true := decide_eq_true h
theorem ige_neg {a b : Int} (h : a < b) : ige a b = false := decide_eq_false (by omega)
theorem ine_pos {a b : Int} (h : ¬ a = b) : ine a b = true := decide_eq_true h
theorem ine_neg {a b : Int} (h : a = b) : ine a b = false := decide_eq_false (fun g => g h)
theorem ieq_pos {a b : Int} (h : a = b) : ieq a b = true := decide_eq_true h
theorem ieq_neg {a b : Int} (h : ¬ a = b) : ieq a b = false := decide_eq_false h

/-! A point in a polygon -/
end Go.Proofs.T1
namespace Go.Proofs.T1
open Go Go.Sx

/-! SolveSays -/
theorem el_app_lt {α : Type} (z : α) (l : List α) (y : α) {j : Int} (j0 : 0 ≤ j) (j1 : j < len l) : el z (l ++ [y]) j = el z l j := by
  obtain ⟨j, rfl⟩ := Int.eq_ofNat_of_zero_le j0
  have hj : j < l.length := by unfold len at j1; omega
  show (l ++ [y]).getD j z = l.getD j z
  rw [List.getD_eq_getElem?_getD, List.getD_eq_getElem?_getD, List.getElem?_append_left hj]
theorem el_app_eq {α : Type} (z : α) (l : List α) (y : α) {j : Int} (h : len l = j) : el z (l ++ [y]) j = y := by
  subst h
  show (l ++ [y]).getD l.length z = y
  rw [List.getD_eq_getElem?_getD, List.getElem?_append_right (Nat.le_refl _), Nat.sub_self]
  rfl
theorem len_app {α : Type} (l : List α) (y : α) : len (l ++ [y]) = len l + 1 := by
  unfold len
  rw [List.length_append]
  rfl
end Go.Proofs.T1
namespace Go.Proofs.T1
open Go Go.Sx

/-! Lists of valid bodies: what the program computes with them, and what the reference computes -/
theorem el_set {α : Type} (z : α) (l : List α) {i j : Int} (y : α) (i0 : 0 ≤ i) (i1 : i < len l) (j0 : 0 ≤ j) : el z (st l i y) j = if j = i then y else el z l j := by
  obtain ⟨i, rfl⟩ := Int.eq_ofNat_of_zero_le i0
  obtain ⟨j, rfl⟩ := Int.eq_ofNat_of_zero_le j0
  have hi : i < l.length := by unfold len at i1; omega
  show (l.set i y).getD j z = if (j : Int) = (i : Int) then y else l.getD j z
  rw [List.getD_eq_getElem?_getD, List.getD_eq_getElem?_getD, List.getElem?_set]
  by_cases c : j = i
  · subst c
    rw [if_pos rfl, if_pos hi, if_pos rfl]
    rfl
  · rw [if_neg (fun h => c h.symm), if_neg (by omega)]
theorem len_set {α : Type} (l : List α) (i : Int) (y : α) : len (st l i y) = len l := by
  unfold len st
  rw [List.length_set]
section
variable {p v : V27} {ang spin mass inertia bounce rub : Int} {l : List V27} {asleep : Bool} {calm : Int}
end
theorem find_any {α : Type} (F : Nat → Int → Option (α ⊕ Unit)) (N : Int) (g : Int → Option α)
    (hstep : ∀ n v, 0 ≤ v → v < N → F (n + 1) v = match g v with | some y => some (.inl y) | none => F n (v + 1))
    (hend : ∀ n v, 0 ≤ v → N ≤ v → F (n + 1) v = some (.inr ())) :
    ∀ (n : Nat) (v : Int), 0 ≤ v → v ≤ N → N - v < (n : Int) → (∃ j y, v ≤ j ∧ j < N ∧ g j = some y ∧ F n v = some (.inl y)) ∨ ((∀ j, v ≤ j → j < N → g j = none) ∧ F n v = some (.inr ())) := by
  intro n
  induction n with
  | zero => intro v h1 h2 h3; omega
  | succ n ih =>
    intro v h1 h2 h3
    by_cases hv : v < N
    · have hs := hstep n v h1 hv
      cases hg : g v with
      | some y =>
        rw [hg] at hs
        exact Or.inl ⟨v, y, by omega, hv, hg, hs⟩
      | none =>
        rw [hg] at hs
        have hs : F (n + 1) v = F n (v + 1) := hs
        rw [hs]
        rcases ih (v + 1) (by omega) (by omega) (by omega) with ⟨j, y, a, b, c, d⟩ | ⟨a, b⟩
        · exact Or.inl ⟨j, y, by omega, b, c, d⟩
        · refine Or.inr ⟨fun j j0 j1 => ?_, b⟩
          by_cases e : j = v
          · rw [e]; exact hg
          · exact a j (by omega) j1
    · exact Or.inr ⟨fun j a b => by omega, hend n v h1 (by omega)⟩
end Go.Proofs.T1
