/-
  Plain laws: no program in sight.
-/
import Derived.Test.YtolkdkhdkfndfaaPlFlat
import Derived.Test.YtolkdkhdkfndfaaG3
namespace Go.Proofs.T1
open Go Go.Sx

/-! PolyHulls -/
theorem uniq_hull {k : Nat} (hk : 1000 ≤ k) {L H H' : List V27} (hl : len L ≤ 64) (bw : ∀ x, x ∈ L → Bw x) (h : HullOf L H) (h' : HullOf L H') (h3 : 3 ≤ H.length) : H = H' := by
  have lX : ∀ X : List V27, len X = (X.length : Int) := fun _ => rfl
  have W : ∀ {G : List V27}, HullOf L G → 3 ≤ G.length → tourref2_Wrap k L = some G := by
    intro G ⟨hs, g⟩ g3
    rcases g with ⟨_, hle, r1, r2, r3⟩ | ⟨g, _⟩
    · exact Wrap_eq (k := k) (L := L) (H := G) (by omega) r1 (by rw [lX]; omega) r2 (by omega) (by rw [lX, lX]; omega) (fun x x0 x1 => r3 _ (q_mem x0 x1)) (fun x x0 x1 => bw _ (q_mem x0 x1)) (fun t t0 t1 => mem_q (hs _ (q_mem t0 t1)))
    · omega
  have w1 := W h h3
  by_cases c : 3 ≤ H'.length
  · exact Option.some.inj (w1.symm.trans (W h' c))
  · obtain ⟨_, g | ⟨_, f⟩⟩ := h'
    · omega
    · obtain ⟨r, e, hr⟩ := FWrap_eq (k := k) (L := L) (by omega) (by omega) bw f
      rw [w1] at e
      obtain rfl := Option.some.inj e
      omega
def sqr : List V27 := [(0, 0, ()), (131072, 0, ()), (131072, 131072, ()), (0, 131072, ())]
theorem square_eq (k : Nat) : tourlaw2_square k 0 0 2 = some sqr := rfl
theorem hull_given {k : Nat} (hk : 1000 ≤ k) {L H : List V27} (hl : len L ≤ 64) (hw : ∀ x, x ∈ L → Wn x) (hc : slices_Clone k L = some L) (h : HullOf L H) (h3 : 3 ≤ H.length) (h8 : H.length ≤ 8) : poly_Hull k L = some (H, 0) := by
  have bw : ∀ x, x ∈ L → Bw x := fun x hx => by have := hw x hx; unfold Wn at this; unfold Bw; omega
  rcases Hull_cases hk L (fun _ => hc) with ⟨c, _⟩ | ⟨_, e, _⟩ | ⟨_, _, H', hH, e, _⟩
  · omega
  · exfalso
    have C1 := Contains_no (l := L) (k := k) (f := fun x : (V27 × Unit) => poly_Hull_1 k (x.1)) (by omega) (by omega) (g := fun x => !decide (Wn x)) (fun x => PHull1_eq k x)
    rcases C1 with ⟨_, i, i0, i1, hi⟩ | ⟨h1, _⟩
    · have := hw _ (q_mem i0 i1)
      simp [this] at hi
    · obtain ⟨G, e', _⟩ := Hull_ok (k := k) hk (l := L) hl hw hc h1
      rw [e] at e'
      have e' := Option.some.inj e'
      split at e'
      · have h1 : (1 : Int) = _ := congrArg Prod.snd e'; exact absurd h1 (by first | decide | simp)
      · split at e'
        · have h1 : (1 : Int) = _ := congrArg Prod.snd e'; exact absurd h1 (by first | decide | simp)
        · have h1 : (1 : Int) = _ := congrArg Prod.snd e'; exact absurd h1 (by first | decide | simp)
  · have := uniq_hull hk hl bw h hH h3
    subst this
    rw [e, if_neg (by omega), if_neg (by omega)]
theorem PolyHulls_plain {k : Nat} (hk : 1000 ≤ k) (l : List V27) : tourlaw2_PolyHulls k l = some true := by
  unfold tourlaw2_PolyHulls
  rw [square_eq, bnd_some, req_pos (show room 16 sqr [(5, 5, ())] by decide)]
  have hs : HullOf (sqr ++ [(5, 5, ())]) sqr := by
    refine ⟨fun x hx => List.mem_append_left _ hx, .inl ⟨by decide, by decide, ?_, ⟨by decide, ?_⟩, ?_⟩⟩
    · intro i j i0 i1 j0 j1
      have i1 : i < 4 := i1
      have j1 : j < 4 := j1
      have hi : i = 0 ∨ i = 1 ∨ i = 2 ∨ i = 3 := by omega
      have hj : j = 0 ∨ j = 1 ∨ j = 2 ∨ j = 3 := by omega
      rcases hi with rfl | rfl | rfl | rfl <;> rcases hj with rfl | rfl | rfl | rfl <;> decide
    · intro j j0 j1
      have j1 : j < 4 := j1
      have hj : j = 0 ∨ j = 1 ∨ j = 2 ∨ j = 3 := by omega
      rcases hj with rfl | rfl | rfl | rfl <;> unfold Up <;> decide
    · intro x hx i i0 i1
      have i1 : i < 4 := i1
      have hi : i = 0 ∨ i = 1 ∨ i = 2 ∨ i = 3 := by omega
      have hx : x = (0, 0, ()) ∨ x = (131072, 0, ()) ∨ x = (131072, 131072, ()) ∨ x = (0, 131072, ()) ∨ x = (5, 5, ()) := by
        simpa [sqr] using hx
      rcases hi with rfl | rfl | rfl | rfl <;> rcases hx with rfl | rfl | rfl | rfl | rfl <;> decide
  have e1 : poly_Hull k (sqr ++ [(5, 5, ())]) = some (sqr, 0) := hull_given hk (by decide) (by
    intro x hx
    have hx : x = (0, 0, ()) ∨ x = (131072, 0, ()) ∨ x = (131072, 131072, ()) ∨ x = (0, 131072, ()) ∨ x = (5, 5, ()) := by
      simpa [sqr] using hx
    rcases hx with rfl | rfl | rfl | rfl | rfl <;> decide) (VClone_ok _ (by decide)) hs (by decide) (by decide)
  rw [e1, bnd_some]
  unfold tourlaw2_PolyHulls.c1
  rw [ine_neg rfl, bif_false, square_eq, bnd_some, VEqual_self (show sqr.length < k by unfold sqr; simp; omega) (by decide), bnd_some, bnd_some]
  show bif' (!true) _ _ = _
  rw [(show (!true) = false from rfl), bif_false]
  have fin : ∀ H : List V27, ∀ e : Int, H.length < k → H.length ≤ 1000000000000 → (bif' (ieq e e) (bnd (slices_Equal k H H) fun y19 => some y19) (some false)) = some true := by
    intro H e h1 h2
    rw [ieq_pos rfl, bif_true, VEqual_self h1 h2, bnd_some]
  rcases Hull_cases hk l (fun h => VClone_ok l h) with ⟨_, p, r⟩ | ⟨_, p, r⟩ | ⟨hl, _, H, hH, p, r⟩
  · rw [p, r, bnd_some, bnd_some]
    exact fin [] 2 (by simp; omega) (by simp)
  · rw [p, r, bnd_some, bnd_some]
    exact fin [] 1 (by simp; omega) (by simp)
  · rw [r, p, bnd_some, bnd_some]
    by_cases c : H.length < 3
    · rw [if_pos c]
      exact fin [] 3 (by simp; omega) (by simp)
    · rw [if_neg c]
      by_cases d : 8 < H.length
      · rw [if_pos d]
        exact fin [] 6 (by simp; omega) (by simp)
      · rw [if_neg d]
        exact fin H 0 (by omega) (by omega)
theorem tourlaw2_PolyHulls_plain : ∀ x : (Ty.pair T22 .unit).den, Ty.wf (.pair T22 .unit) x → ∃ k, (tourlaw2_PolyHulls.sp k).f x = some true := by
  intro x _
  obtain ⟨K, hK⟩ : ∃ K, K = 1000 := ⟨1000, rfl⟩
  exact ⟨K, PolyHulls_plain (by omega) x.1⟩
end Go.Proofs.T1
