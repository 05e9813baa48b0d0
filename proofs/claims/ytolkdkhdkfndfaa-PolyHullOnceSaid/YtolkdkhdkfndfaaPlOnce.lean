/-
  Plain laws: no program in sight.
-/
import Derived.Test.YtolkdkhdkfndfaaPlFlat
namespace Go.Proofs.T1
open Go Go.Sx

theorem irem_range (a : Int) {m : Int} (hm : 0 < m) : -m < irem a m ∧ irem a m < m := by
  unfold irem
  constructor
  · have := Int.lt_tmod_of_pos a hm; omega
  · exact Int.tmod_lt_of_pos a hm

end Go.Proofs.T1
namespace Go.Proofs.T1
open Go Go.Sx

theorem Below_eq (k : Nat) (x : Int) {n : Int} (h0 : 0 < n) (h1 : n ≤ 4611686018427387904) : ∃ y, tourmake_Below k x n = some y ∧ 0 ≤ y ∧ y < n := by
  have hr := irem_range x h0
  unfold tourmake_Below
  rw [req_pos (show nz n by unfold nz; omega)]
  by_cases h : irem x n < 0
  · rw [ilt_pos h, bif_true, iadd_i64 (by omega) (by omega)]
    exact ⟨_, rfl, by omega, by omega⟩
  · rw [ilt_neg (by omega), bif_false]
    exact ⟨_, rfl, by omega, by omega⟩

/-! Valid polygons by a test -/
theorem place_eq (k : Nat) (x y : Int) : ∃ p : V27, tourkeep2_place k x y = some p ∧ -786432 ≤ p.1 ∧ p.1 ≤ 786431 ∧ -786432 ≤ p.2.1 ∧ p.2.1 ≤ 786431 := by
  unfold tourkeep2_place
  obtain ⟨a, e1, a0, a1⟩ := Below_eq k x (n := 1572864) (by decide) (by decide)
  obtain ⟨b, e2, b0, b1⟩ := Below_eq k y (n := 1572864) (by decide) (by decide)
  rw [e1, bnd_some, e2, bnd_some, isub_i64 (by omega) (by omega), isub_i64 (by omega) (by omega)]
  exact ⟨_, rfl, by dsimp only; omega, by dsimp only; omega, by dsimp only; omega, by dsimp only; omega⟩

/-! Moving -/
/-! The area, triangle by triangle -/
end Go.Proofs.T1
namespace Go.Proofs.T1
open Go Go.Sx

/-! PolyHulls -/
theorem uniq_hull {k : Nat} (hk : 1000 ≤ k) {L H H' : List V27} (hl : len L ≤ 64) (bw : ∀ x, x ∈ L → Bw x) (h : HullOf L H) (h' : HullOf L H') (h3 : 3 ≤ H.length) : H = H' := by
  have lX : ∀ X : List V27, len X = (X.length : Int) := fun _ => rfl
  have W : ∀ {G : List V27}, HullOf L G → 3 ≤ G.length → tourref2_Wrap k L = some G := by
    intro G ⟨hs, g⟩ g3
    rcases g with ⟨_, hle, r1, r2, r3⟩ | ⟨g, _⟩
    · exact Wrap_eq (k := k) (L := L) (H := G) (by omega) r1 (by rw [lX]; omega) r2 (by omega) (by rw [lX, lX]; omega) (fun x x0 x1 => r3 _ (q_mem x0 x1)) (fun x x0 x1 => bw _ (q_mem x0 x1)) (fun t t0 t1 => mem_q (hs _ (q_mem t0 t1)))
    · omega
  have w1 := W h h3
  by_cases c : 3 ≤ H'.length
  · exact Option.some.inj (w1.symm.trans (W h' c))
  · obtain ⟨_, g | ⟨_, f⟩⟩ := h'
    · omega
    · obtain ⟨r, e, hr⟩ := FWrap_eq (k := k) (L := L) (by omega) (by omega) bw f
      rw [w1] at e
      obtain rfl := Option.some.inj e
      omega
theorem hull_given {k : Nat} (hk : 1000 ≤ k) {L H : List V27} (hl : len L ≤ 64) (hw : ∀ x, x ∈ L → Wn x) (hc : slices_Clone k L = some L) (h : HullOf L H) (h3 : 3 ≤ H.length) (h8 : H.length ≤ 8) : poly_Hull k L = some (H, 0) := by
  have bw : ∀ x, x ∈ L → Bw x := fun x hx => by have := hw x hx; unfold Wn at this; unfold Bw; omega
  rcases Hull_cases hk L (fun _ => hc) with ⟨c, _⟩ | ⟨_, e, _⟩ | ⟨_, _, H', hH, e, _⟩
  · omega
  · exfalso
    have C1 := Contains_no (l := L) (k := k) (f := fun x : (V27 × Unit) => poly_Hull_1 k (x.1)) (by omega) (by omega) (g := fun x => !decide (Wn x)) (fun x => PHull1_eq k x)
    rcases C1 with ⟨_, i, i0, i1, hi⟩ | ⟨h1, _⟩
    · have := hw _ (q_mem i0 i1)
      simp [this] at hi
    · obtain ⟨G, e', _⟩ := Hull_ok (k := k) hk (l := L) hl hw hc h1
      rw [e] at e'
      have e' := Option.some.inj e'
      split at e'
      · have h1 : (1 : Int) = _ := congrArg Prod.snd e'; exact absurd h1 (by first | decide | simp)
      · split at e'
        · have h1 : (1 : Int) = _ := congrArg Prod.snd e'; exact absurd h1 (by first | decide | simp)
        · have h1 : (1 : Int) = _ := congrArg Prod.snd e'; exact absurd h1 (by first | decide | simp)
  · have := uniq_hull hk hl bw h hH h3
    subst this
    rw [e, if_neg (by omega), if_neg (by omega)]
end Go.Proofs.T1
namespace Go.Proofs.T1
open Go Go.Sx

/-! PolyHullOnce -/
theorem works_1000 : tourkeep2_works 1000 = some true := by kernel_rfl
theorem points_ok {k : Nat} (hk : 30 ≤ k) (raw : List Int) : ∃ l, tourkeep2_PolyHullOnce.c1 k raw k 0 [] = some l ∧ l.length ≤ 20 ∧ ∀ x, x ∈ l → Wn x := by
  have key : ∀ (n : Nat) (v : Int) (l : List V27), v = 2 * len l → l.length ≤ 20 → 20 < l.length + n → (∀ x, x ∈ l → Wn x) →
      ∃ l', tourkeep2_PolyHullOnce.c1 k raw n v l = some l' ∧ l'.length ≤ 20 ∧ ∀ x, x ∈ l' → Wn x := by
    intro n
    induction n with
    | zero => intro v l _ h1 h2; omega
    | succ n ih =>
      intro v l hv h1 h2 hb
      have ll : len l = (l.length : Int) := rfl
      have lr : len raw = (raw.length : Int) := rfl
      rw [tourkeep2_PolyHullOnce.c1]
      unfold tourkeep2_PolyHullOnce.c2
      rw [iadd_i64 (x := v) (y := 1) (by omega) (by omega)]
      by_cases c1 : v + 1 < len raw
      · rw [ilt_pos c1, bif_true, bnd_some]
        by_cases c2 : l.length < 20
        · rw [ilt_pos (show len l < 20 by omega), bif_true]
          have hr : ∀ x : V27, room 16 l [x] := fun x => by unfold room roomFor; simp only [List.length_singleton]; omega
          obtain ⟨p, e1, p1, p2, p3, p4⟩ := place_eq k (el 0 raw v) (el 0 raw (v + 1))
          rw [req_pos (inL_of (by omega) (by omega)), req_pos (inL_of (by omega) (by omega)), e1, bnd_some, req_pos (hr _), iadd_i64 (x := v) (y := 2) (by omega) (by omega)]
          refine ih _ _ ?_ ?_ ?_ ?_
          · rw [len_app]; omega
          · rw [List.length_append, List.length_singleton]; omega
          · rw [List.length_append, List.length_singleton]; omega
          · intro x hx
            rcases List.mem_append.1 hx with h | h
            · exact hb x h
            · rw [List.mem_singleton.1 h]
              unfold Wn
              omega
        · rw [ilt_neg (show (20 : Int) ≤ len l by omega), bif_false]
          exact ⟨l, rfl, h1, hb⟩
      · rw [ilt_neg (by omega), bif_false, bnd_some, bif_false]
        exact ⟨l, rfl, h1, hb⟩
  exact key k 0 [] rfl (by decide) (by simp; omega) (fun b hb => by cases hb)
def sqs : List V27 := [(-65536, -65536, ()), (65536, -65536, ()), (65536, 65536, ()), (-65536, 65536, ())]
theorem sqs_eq (k : Nat) : tourkeep2_square k 0 0 1 = some sqs := rfl
theorem sqs_hull : HullOf (sqs ++ [(0, 0, ())]) sqs := by
  refine ⟨fun x hx => List.mem_append_left _ hx, .inl ⟨by decide, by decide, ?_, ⟨by decide, ?_⟩, ?_⟩⟩
  · intro i j i0 i1 j0 j1
    have i1 : i < 4 := i1
    have j1 : j < 4 := j1
    have hi : i = 0 ∨ i = 1 ∨ i = 2 ∨ i = 3 := by omega
    have hj : j = 0 ∨ j = 1 ∨ j = 2 ∨ j = 3 := by omega
    rcases hi with rfl | rfl | rfl | rfl <;> rcases hj with rfl | rfl | rfl | rfl <;> decide
  · intro j j0 j1
    have j1 : j < 4 := j1
    have hj : j = 0 ∨ j = 1 ∨ j = 2 ∨ j = 3 := by omega
    rcases hj with rfl | rfl | rfl | rfl <;> unfold Up <;> decide
  · intro x hx i i0 i1
    have i1 : i < 4 := i1
    have hi : i = 0 ∨ i = 1 ∨ i = 2 ∨ i = 3 := by omega
    have hx : x = (-65536, -65536, ()) ∨ x = (65536, -65536, ()) ∨ x = (65536, 65536, ()) ∨ x = (-65536, 65536, ()) ∨ x = (0, 0, ()) := by
      simpa [sqs] using hx
    rcases hi with rfl | rfl | rfl | rfl <;> rcases hx with rfl | rfl | rfl | rfl | rfl <;> decide
theorem Index_ok {k : Nat} {l : List V27} {x : V27} (hk : l.length < k) (hl : l.length ≤ 1000) (hx : x ∈ l) : slices_Contains k l x = some true := by
  have ll : len l = (l.length : Int) := rfl
  have H := find_loop (fun n v => slices_Index.c1 k l x n v) 0 (len l) (fun v => q l v = x) (fun v => v)
    (by
      intro n v a b c
      show slices_Index.c1 k l x (n + 1) v = _
      rw [slices_Index.c1, ilt_pos b, bif_true, req_pos (inL_of a b)]
      refine (congrArg (fun b => bif' b _ _) ((eqb24 _ _).trans (decide_eq_true ?_))).trans (bif_true _ _)
      first | exact c | exact c.symm)
    (by
      intro n v a b c
      show slices_Index.c1 k l x (n + 1) v = slices_Index.c1 k l x n (v + 1)
      rw [slices_Index.c1, ilt_pos b, bif_true, req_pos (inL_of a b), iadd_i64 (by omega) (by omega)]
      refine (congrArg (fun b => bif' b _ _) ((eqb24 _ _).trans (decide_eq_false ?_))).trans (bif_false _ _)
      first | exact c | exact fun e => c e.symm)
    (by
      intro n v a b
      show slices_Index.c1 k l x (n + 1) v = _
      rw [slices_Index.c1, ilt_neg b, bif_false])
    k 0 (by omega) (by omega)
  unfold slices_Contains slices_Index
  rcases H with ⟨j, a, b, c, _, e⟩ | ⟨a, e⟩
  · have e : slices_Index.c1 k l x k 0 = some (.inl j) := e
    rw [e, bnd_some, two_inl, bnd_some, ige_pos (by omega)]
  · obtain ⟨i, i0, i1, rfl⟩ := mem_q hx
    exact absurd rfl (a i i0 i1)
theorem Contains_none {k : Nat} {l : List V27} {f : (V27 × Unit) → Option Bool} (hk : l.length < k) (hl : l.length ≤ 1000) (hf : ∀ x, x ∈ l → f (x, ()) = some false) : slices_ContainsFunc k l f = some false := by
  have ll : len l = (l.length : Int) := rfl
  have H := find_loop (fun n v => slices_IndexFunc.c1 k l f n v) 0 (len l) (fun _ => False) (fun v => v)
    (fun _ _ _ _ h => h.elim)
    (by
      intro n v h0 h1 _
      show slices_IndexFunc.c1 k l f (n + 1) v = slices_IndexFunc.c1 k l f n (v + 1)
      have e : f (el Z27 l v, ()) = some false := hf _ (q_mem h0 h1)
      rw [slices_IndexFunc.c1, ilt_pos h1, bif_true, req_pos (inL_of h0 h1), e, bnd_some, bif_false, iadd_i64 (by omega) (by omega)])
    (by
      intro n v h0 h1
      show slices_IndexFunc.c1 k l f (n + 1) v = _
      rw [slices_IndexFunc.c1, ilt_neg h1, bif_false])
    k 0 (by omega) (by omega)
  unfold slices_ContainsFunc slices_IndexFunc
  rcases H with ⟨_, _, _, h, _⟩ | ⟨_, e⟩
  · exact h.elim
  · have e : slices_IndexFunc.c1 k l f k 0 = some (.inr ()) := e (by omega)
    rw [e, bnd_some, two_inr, bnd_some]
    rfl
open Classical in
theorem Has_true {k : Nat} (hk : 9 ≤ k) {l : List V27} (hv : Val l) {p : V27} (h : Wn p ∧ InP l p) : poly_Has k l p = some true := by
  rw [Has_val hk hv, decide_eq_true h]
theorem PolyHullOnce_plain {k : Nat} (hk : k = 1000) (raw : List Int) : tourkeep2_PolyHullOnce k raw = some true := by
  obtain ⟨l, el1, l20, lw⟩ := points_ok (k := k) (by omega) raw
  have hw1 : tourkeep2_works k = some true := by rw [hk]; exact works_1000
  have lX : ∀ X : List V27, len X = (X.length : Int) := fun _ => rfl
  unfold tourkeep2_PolyHullOnce
  rw [el1, bnd_some, sqs_eq, bnd_some, req_pos (show room 16 sqs [(0, 0, ())] by decide)]
  have e1 : poly_Hull k (sqs ++ [(0, 0, ())]) = some (sqs, 0) := hull_given (by omega) (by decide) (by
    intro x hx
    have hx : x = (-65536, -65536, ()) ∨ x = (65536, -65536, ()) ∨ x = (65536, 65536, ()) ∨ x = (-65536, 65536, ()) ∨ x = (0, 0, ()) := by
      simpa [sqs] using hx
    rcases hx with rfl | rfl | rfl | rfl | rfl <;> decide) (VClone_ok _ (by decide)) sqs_hull (by decide) (by decide)
  rw [e1, bnd_some]
  unfold tourkeep2_PolyHullOnce.c3
  rw [hw1, bnd_some, bif_true, ine_neg rfl, bif_false, sqs_eq, bnd_some, VEqual_self (show sqs.length < k by unfold sqs; simp; omega) (by decide), bnd_some, bnd_some]
  rw [(show (!true) = false from rfl), bif_false]
  rcases Hull_cases (k := k) (by omega) l (fun h => VClone_ok l h) with ⟨c, _⟩ | ⟨_, p, _⟩ | ⟨hl, _, H, hH, p, _⟩
  · rw [lX] at c; omega
  · rw [p, bnd_some, ine_pos (by decide), bif_true]
    rfl
  · rw [p, bnd_some]
    by_cases c : H.length < 3
    · rw [if_pos c, ine_pos (by decide), bif_true]
      rfl
    · rw [if_neg c]
      by_cases d : 8 < H.length
      · rw [if_pos d, ine_pos (by decide), bif_true]
        rfl
      · rw [if_neg d, ine_neg rfl, bif_false]
        obtain ⟨hs, ⟨h3, hle, r1, r2, r3⟩ | ⟨h3, _⟩⟩ := hH
        · have hW : AllW H := fun i i0 i1 => lw _ (hs _ (q_mem i0 i1))
          have hV : Val H := ⟨by rw [lX]; omega, by rw [lX]; omega, hW, r1⟩
          have hself : HullOf H H := ⟨fun _ h => h, .inl ⟨h3, Nat.le_refl _, r1, r2, fun x hx => by
            obtain ⟨i, i0, i1, rfl⟩ := mem_q hx
            exact InP_self r1 i0 i1⟩⟩
          have c4 : tourkeep2_PolyHullOnce.c4 k l (H, 0) k 0 = some (.inr ()) := by
            have Hf := find_loop (fun n v => tourkeep2_PolyHullOnce.c4 k l (H, 0) n v) 0 (len l) (fun _ => False) (fun _ => ())
              (fun _ _ _ _ h => h.elim)
              (by
                intro n v a b _
                show tourkeep2_PolyHullOnce.c4 k l (H, 0) (n + 1) v = tourkeep2_PolyHullOnce.c4 k l (H, 0) n (v + 1)
                have hx : q l v ∈ l := q_mem a b
                have hh : poly_Has k H (el Z27 l v) = some true := Has_true (by omega) hV ⟨lw _ hx, r3 _ hx⟩
                rw [tourkeep2_PolyHullOnce.c4, ilt_pos b, bif_true, req_pos (inL_of a b), hh, bnd_some, bif_true, iadd_i64 (by omega) (by omega)])
              (by
                intro n v a b
                show tourkeep2_PolyHullOnce.c4 k l (H, 0) (n + 1) v = _
                rw [tourkeep2_PolyHullOnce.c4, ilt_neg b, bif_false])
              k 0 (by omega) (by have := lX l; omega)
            rcases Hf with ⟨_, _, _, h, _⟩ | ⟨_, h⟩
            · exact h.elim
            · exact h (by omega)
          have e2 : poly_Hull k H = some (H, 0) := hull_given (by omega) (by rw [lX]; omega) (fun x hx => lw x (hs x hx)) (VClone_ok _ (by rw [lX]; omega)) hself h3 (by omega)
          rw [c4, bnd_some, two_inr, e2, bnd_some, Check_val (k := k) (by omega) hV, bnd_some, ieq_pos rfl, bif_true]
          dsimp only
          rw [bif_true, VEqual_self (by omega) (by omega), bnd_some, bif_true]
          have C := Contains_none (k := k) (l := H) (f := fun x : (V27 × Unit) => tourkeep2_PolyHullOnce_1 k (x.1) l) (by omega) (by omega) (fun x hx => by
            show tourkeep2_PolyHullOnce_1 k x l = _
            unfold tourkeep2_PolyHullOnce_1
            rw [Index_ok (by omega) (by omega) (hs x hx), bnd_some]
            rfl)
          rw [C, bnd_some]
          rfl
        · omega
theorem tourkeep2_PolyHullOnce_plain : ∀ x : (Ty.pair T31 .unit).den, Ty.wf (.pair T31 .unit) x → ∃ k, (tourkeep2_PolyHullOnce.sp k).f x = some true := by
  intro x _
  obtain ⟨K, hK⟩ : ∃ K, K = 1000 := ⟨1000, rfl⟩
  exact ⟨K, PolyHullOnce_plain hK x.1⟩
end Go.Proofs.T1
