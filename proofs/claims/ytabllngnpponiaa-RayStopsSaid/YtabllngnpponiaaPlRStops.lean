/-
  Plain laws: no program in sight.
-/
import Derived.Test.YtabllngnpponiaaPlMeet
import Derived.Test.YtabllngnpponiaaG14
namespace Go.Proofs.T1
open Go Go.Sx

/-! Bodies that a polygon meets; RayStops -/
theorem Dif_big {P p l : List V27} (hP : Val P) (hp : Val p) (D : Dif P p l) : Big1 l := by
  refine ⟨D.len3, ?_, fun t t0 t1 => Dif_bd hP.2.2.1 hp.2.2.1 D t0 t1⟩
  have h1 := D.le
  have h2 := hP.2.1
  have h3 := hp.2.1
  omega
theorem shape1_tot {k : Nat} (hk : 100 < k) {p : List V27} (hp : Val p) {b : V27} (hb : Wn b) {P : List V27} (hP : Val P) : ∃ h l, ray_Shape_1 k P p b = some h ∧ Dif P p l ∧ HitS l zed b h := by
  obtain ⟨l, e, D, _⟩ := Minus_dif (k := k) (by omega) hP hp
  obtain ⟨h, e2, hs⟩ := rline_hit (k := k) (by omega) (a := zed) (b := b) (Dif_big hP hp D) (by unfold Wn zed; decide) hb
  refine ⟨h, l, ?_, D, hs⟩
  unfold ray_Shape_1
  rw [e, bnd_some]
  have e2 : ray_line k l (0, 0, ()) b = some h := e2
  dsimp only
  rw [e2, bnd_some]
theorem shape_hit {k : Nat} (hk : 100 < k) {p : List V27} (hp : Val p) {b : V27} (hb : Wn b) (y : V49) (hy : OKb k y) : ∃ P l, body_Place k y = some P ∧ Val P ∧ Dif P p l ∧ HitS l zed b (hitOf k (fun x => ray_Shape_1 k x.1 p b) y) := by
  obtain ⟨P, p1, p2⟩ := place_tot (k := k) (by omega) y hy
  obtain ⟨h, l, e, D, hs⟩ := shape1_tot hk hp hb p2
  refine ⟨P, l, p1, p2, D, ?_⟩
  have : hitOf k (fun x => ray_Shape_1 k x.1 p b) y = h := by
    unfold hitOf
    rw [p1]
    show (ray_Shape_1 k P p b).getD (0, false) = h
    rw [e]
    rfl
  rw [this]
  exact hs
/-- A polygon that is moved through a list of bodies. -/
theorem shape_ok {k : Nat} (hk : 100 < k) {l : List V49} (hA : AllK k l) (hl : len l ≤ 64) {p : List V27} (hp : Val p) {b : V27} (hb : Wn b) :
    (∃ i, 0 ≤ i ∧ i < len l ∧ FirstOf k (fun x => ray_Shape_1 k x.1 p b) l i ∧ ray_Shape k l p b = some (i, (hitOf k (fun x => ray_Shape_1 k x.1 p b) (el Z49 l i)).1, 0)) ∨
      ((∀ j, 0 ≤ j → j < len l → (hitOf k (fun x => ray_Shape_1 k x.1 p b) (el Z49 l j)).2 = false) ∧ ray_Shape k l p b = some (0, 0, 4)) := by
  unfold ray_Shape
  rw [kcheck_okr hk hA hl, bnd_some, ine_neg rfl, bif_false, Check_val (by omega) hp, bnd_some, ine_neg rfl, bif_false, rwithin k hb, bnd_some, bif_true]
  rcases first_ok hk hA hl (f := fun x => ray_Shape_1 k x.1 p b) (fun m hm => by
    obtain ⟨h, _, e, _⟩ := shape1_tot hk hp hb hm
    exact ⟨h, e⟩) with ⟨i, i0, i1, hF, e⟩ | ⟨h, e⟩
  · rw [e, bnd_some]
    exact Or.inl ⟨i, i0, i1, hF, rfl⟩
  · rw [e, bnd_some]
    exact Or.inr ⟨h, rfl⟩
/-- A polygon that meets another one at the end of its way: the way lies in the difference. -/
theorem way_in {P p l : List V27} (hP : Val P) (hp : Val p) (D : Dif P p l) {w : V27} {X Y W : Int} (hW : 0 < W) (h1 : HIn P X Y W) (h2 : HIn p (X - W * w.1) (Y - W * w.2.1) W) : InP l w := by
  obtain ⟨m, α, β, γ, m2, m1, a0, b0, c0, s, ex, ey⟩ := between3 hP.2.2.2 hP.1 hW h1
  obtain ⟨m', α', β', γ', m2', m1', a0', b0', c0', s', ex', ey'⟩ := between3 hp.2.2.2 hp.1 hW h2
  intro t t0 t1
  have H : ∀ i j, 0 ≤ i → i < len P → 0 ≤ j → j < len p → 0 ≤ tri (q l t) (q l (nx (len l) t)) (sb (q P i) (q p j)) := fun i j i0 i1 j0 j1 => D.all t i j t0 t1 i0 i1 j0 j1
  have p3 := hP.1
  have q3 := hp.1
  have g11 := Int.mul_nonneg (Int.mul_nonneg a0 a0') (H 0 0 (by omega) (by omega) (by omega) (by omega))
  have g12 := Int.mul_nonneg (Int.mul_nonneg a0 b0') (H 0 (m' - 1) (by omega) (by omega) (by omega) (by omega))
  have g13 := Int.mul_nonneg (Int.mul_nonneg a0 c0') (H 0 m' (by omega) (by omega) (by omega) (by omega))
  have g21 := Int.mul_nonneg (Int.mul_nonneg b0 a0') (H (m - 1) 0 (by omega) (by omega) (by omega) (by omega))
  have g22 := Int.mul_nonneg (Int.mul_nonneg b0 b0') (H (m - 1) (m' - 1) (by omega) (by omega) (by omega) (by omega))
  have g23 := Int.mul_nonneg (Int.mul_nonneg b0 c0') (H (m - 1) m' (by omega) (by omega) (by omega) (by omega))
  have g31 := Int.mul_nonneg (Int.mul_nonneg c0 a0') (H m 0 (by omega) (by omega) (by omega) (by omega))
  have g32 := Int.mul_nonneg (Int.mul_nonneg c0 b0') (H m (m' - 1) (by omega) (by omega) (by omega) (by omega))
  have g33 := Int.mul_nonneg (Int.mul_nonneg c0 c0') (H m m' (by omega) (by omega) (by omega) (by omega))
  generalize q l t = u at *
  generalize q l (nx (len l) t) = v at *
  generalize q P 0 = A at *
  generalize q P (m - 1) = B at *
  generalize q P m = C at *
  generalize q p 0 = A' at *
  generalize q p (m' - 1) = B' at *
  generalize q p m' = C' at *
  have sum : α * α' * tri u v (sb A A') + α * β' * tri u v (sb A B') + α * γ' * tri u v (sb A C') + (β * α' * tri u v (sb B A') + β * β' * tri u v (sb B B') + β * γ' * tri u v (sb B C')) + (γ * α' * tri u v (sb C A') + γ * β' * tri u v (sb C B') + γ * γ' * tri u v (sb C C')) =
      (v.1 - u.1) * ((α' + β' + γ') * (α * A.2.1 + β * B.2.1 + γ * C.2.1) - (α + β + γ) * (α' * A'.2.1 + β' * B'.2.1 + γ' * C'.2.1) - (α + β + γ) * (α' + β' + γ') * u.2.1) -
      (v.2.1 - u.2.1) * ((α' + β' + γ') * (α * A.1 + β * B.1 + γ * C.1) - (α + β + γ) * (α' * A'.1 + β' * B'.1 + γ' * C'.1) - (α + β + γ) * (α' + β' + γ') * u.1) := by
    unfold tri sb
    dsimp only
    grind
  generalize α * A.1 + β * B.1 + γ * C.1 = U at *
  generalize α * A.2.1 + β * B.2.1 + γ * C.2.1 = V at *
  generalize α' * A'.1 + β' * B'.1 + γ' * C'.1 = U' at *
  generalize α' * A'.2.1 + β' * B'.2.1 + γ' * C'.2.1 = V' at *
  generalize hS : α + β + γ = S at *
  generalize hS' : α' + β' + γ' = S' at *
  have tot : 0 ≤ (v.1 - u.1) * (S' * V - S * V' - S * S' * u.2.1) - (v.2.1 - u.2.1) * (S' * U - S * U' - S * S' * u.1) := by
    rw [← sum]
    omega
  have pw := Int.mul_nonneg (Int.le_of_lt hW) tot
  have e : W * ((v.1 - u.1) * (S' * V - S * V' - S * S' * u.2.1) - (v.2.1 - u.2.1) * (S' * U - S * U' - S * S' * u.1)) = (S * S' * W) * tri u v w := by
    have e1 : W * ((v.1 - u.1) * (S' * V - S * V' - S * S' * u.2.1) - (v.2.1 - u.2.1) * (S' * U - S * U' - S * S' * u.1)) =
        (v.1 - u.1) * (S' * (W * V) - S * (W * V') - W * (S * S' * u.2.1)) - (v.2.1 - u.2.1) * (S' * (W * U) - S * (W * U') - W * (S * S' * u.1)) := by grind
    rw [e1, ← ex, ← ey, ← ex', ← ey']
    unfold tri
    grind
  rw [e] at pw
  exact nn_of_mul (Int.mul_pos (Int.mul_pos s s') hW) pw
theorem Fea_one {l : List V27} {w : V27} (h : InP l w) : Fea l zed w 1 1 := by
  intro i i0 i1
  have := h i i0 i1
  have e : nu l zed i - dn l w i = tri (q l i) (q l (nx (len l) i)) w := by unfold nu dn tri zed; grind
  omega
theorem Fea_zero {l : List V27} {b : V27} (h : InP l zed) : Fea l zed b 0 1 := by
  intro i i0 i1
  have := h i i0 i1
  have e : nu l zed i = tri (q l i) (q l (nx (len l) i)) zed := rfl
  omega
theorem RayStops_true {k : Nat} (hk : 100 < k) (hb : tourkeep2_casts k = some true) (raw shape : List Int) (x y u v : Int) : tourkeep2_RayStops k raw shape x y u v = some true := by
  obtain ⟨B, J, g, st, e1, hA, hB, _⟩ := scene_made (k := k) (by omega) raw
  obtain ⟨l, e2, hm⟩ := Poly_made k shape
  obtain ⟨a, e3, a0⟩ := place_eq k x y
  obtain ⟨w, e4, b0⟩ := place_eq k u v
  have hv := Made_val hm
  have wa : Wn a := by unfold Wn; omega
  have wb : Wn w := by unfold Wn; omega
  have b1 : ∀ i, 0 ≤ i → i < len l → q (shift l a) i = ((q l i).1 + a.1, (q l i).2.1 + a.2.1, ()) := fun i i0 i1 => q_shift i0 i1
  have al : AllW (shift l a) := by
    intro i i0 i1
    rw [len_shift] at i1
    have := hm.2.2.1 i i0 i1
    rw [b1 i i0 i1]
    unfold Wn
    dsimp only
    omega
  have vp := Val_shift hv al
  have al2 : AllW (shift (shift l a) w) := by
    intro i i0 i1
    rw [len_shift] at i1
    have i2 := i1
    rw [len_shift] at i2
    have := hm.2.2.1 i i0 i2
    rw [q_shift i0 i1, b1 i i0 i2]
    unfold Wn
    dsimp only
    omega
  have vp2 := Val_shift vp al2
  have m1 := moved_eq (k := k) (by omega) hv.2.1 hv.2.2.1 wa
  have m2 := moved_eq (k := k) (by omega) vp.2.1 vp.2.2.1 wb
  obtain ⟨L, r1, r2, r3, r4⟩ := rmeet_ok hk hA (by omega) vp
  obtain ⟨L2, s1, s2, s3, s4⟩ := rmeet_ok hk hA (by omega) vp2
  have c1 : tourkeep2_RayStops.c1 k (L, 0) (L2, 0) = some false := by
    unfold tourkeep2_RayStops.c1
    rw [hb, bnd_some, bif_true]
    dsimp only
    rw [ine_neg rfl, bif_false]
  unfold tourkeep2_RayStops
  rw [e1, bnd_some, e2, bnd_some, e3, bnd_some, m1, bnd_some, e4, bnd_some]
  dsimp only
  have at0 : ∀ j, 0 ≤ j → j < len B → MeetsAt k B (shift l a) j → (hitOf k (fun x => ray_Shape_1 k x.1 (shift l a) w) (el Z49 B j)).2 = true ∧ (hitOf k (fun x => ray_Shape_1 k x.1 (shift l a) w) (el Z49 B j)).1 = 0 := by
    intro j j0 j1 ⟨P, p1, p2, n1, n2⟩
    obtain ⟨P', d, q1, q2, D, H⟩ := shape_hit hk vp wb (el Z49 B j) (hA j j0 j1)
    rw [p1] at q1
    cases q1
    have f0 := Fea_zero (b := w) (D.zero n1 n2)
    rcases H with ⟨X, W, h2, hW, X0, X1, hf, hmin, ⟨t0, t1, t2, t3⟩, _⟩ | ⟨_, h⟩
    · have := hmin 0 1 (by decide) (by decide) (by decide) f0
      have X00 : X = 0 := by omega
      rw [X00] at t2
      refine ⟨h2, ?_⟩
      by_cases z : (hitOf k (fun x => ray_Shape_1 k x.1 (shift l a) w) (el Z49 B j)).1 = 0
      · exact z
      · have := Int.mul_pos (show 0 < (hitOf k (fun x => ray_Shape_1 k x.1 (shift l a) w) (el Z49 B j)).1 by omega) hW
        omega
    · exact absurd f0 (h 0 1 (by decide) (by decide) (by decide))
  rcases shape_ok hk hA (by omega) vp wb with ⟨i, i0, i1, hF, e⟩ | ⟨hn, e⟩
  · rw [e, bnd_some, r1, bnd_some, m2, bnd_some, s1, bnd_some, c1, bnd_some, bif_false]
    dsimp only
    by_cases hL : 0 < len L
    · rw [igt_pos hL, bif_true]
      have mem : el 0 L 0 ∈ L := by
        cases L with
        | nil => exact absurd hL (by decide)
        | cons z zs => exact List.mem_cons_self ..
      obtain ⟨z0, z1, z2⟩ := r3 _ mem
      obtain ⟨h1, h2⟩ := at0 _ z0 z1 z2
      obtain ⟨g1, g2⟩ := hF.2 _ z0 z1 h1
      have hi0 : 0 ≤ (hitOf k (fun x => ray_Shape_1 k x.1 (shift l a) w) (el Z49 B i)).1 := by
        obtain ⟨_, _, _, _, _, H⟩ := shape_hit hk vp wb (el Z49 B i) (hA i i0 i1)
        rcases H with ⟨_, _, _, _, _, _, _, _, ⟨t0, _⟩, _⟩ | ⟨h, _⟩
        · exact t0
        · rw [h]; decide
      have c2 : tourkeep2_RayStops.c2 k (i, (hitOf k (fun x => ray_Shape_1 k x.1 (shift l a) w) (el Z49 B i)).1, 0) (L, 0) = some true := by
        unfold tourkeep2_RayStops.c2
        dsimp only
        rw [ieq_pos rfl, bif_true, ieq_pos (show (hitOf k (fun x => ray_Shape_1 k x.1 (shift l a) w) (el Z49 B i)).1 = 0 by omega), bif_true, req_pos (inL_of (by omega) hL)]
        congr 1
        refine decide_eq_true ?_
        by_cases z : i ≤ el 0 L 0
        · exact z
        · have := g2 (by omega)
          omega
      rw [c2, bnd_some]
    · rw [igt_neg (by omega), bif_false, ieq_pos rfl, bif_true]
  · rw [e, bnd_some, r1, bnd_some, m2, bnd_some, s1, bnd_some, c1, bnd_some, bif_false]
    dsimp only
    have hL : ¬ 0 < len L := by
      intro hL
      have mem : el 0 L 0 ∈ L := by
        cases L with
        | nil => exact absurd hL (by decide)
        | cons z zs => exact List.mem_cons_self ..
      obtain ⟨z0, z1, z2⟩ := r3 _ mem
      have h1 := (at0 _ z0 z1 z2).1
      rw [hn _ z0 z1] at h1
      cases h1
    have hL2 : len L2 = 0 := by
      by_cases z : len L2 = 0
      · exact z
      · exfalso
        have h0 : 0 < len L2 := by unfold len at *; omega
        have mem : el 0 L2 0 ∈ L2 := by
          cases L2 with
          | nil => exact absurd h0 (by decide)
          | cons z zs => exact List.mem_cons_self ..
        obtain ⟨z0, z1, P, p1, p2, n1, n2⟩ := s3 _ mem
        obtain ⟨P', d, q1, q2, D, H⟩ := shape_hit hk vp wb (el Z49 B (el 0 L2 0)) (hA _ z0 z1)
        rw [p1] at q1
        cases q1
        obtain ⟨l2, _, D2, _⟩ := Minus_dif (k := k) (by omega) p2 vp2
        obtain ⟨X, Y, W, hW, x1, x2⟩ := common p2.2.2.2 vp2.2.2.2 D2 (D2.zero n1 n2)
        have x3 : HIn (shift l a) (X - W * w.1) (Y - W * w.2.1) W := by
          intro i i0 i1
          have hn := nx_range i0 i1
          have := x2 i i0 (by rw [len_shift]; exact i1)
          rw [len_shift, q_shift i0 i1, q_shift hn.1 hn.2, hs_move] at this
          exact this
        have f1 := Fea_one (way_in p2 vp D hW x1 x3)
        rcases H with ⟨_, _, h2, _⟩ | ⟨_, h⟩
        · rw [hn _ z0 z1] at h2; cases h2
        · exact h 1 1 (by decide) (by decide) (by decide) f1
    rw [igt_neg (by omega), bif_false, ieq_neg (by decide), bif_false, ieq_pos rfl, bif_true, ieq_pos hL2]
theorem tourkeep2_RayStops_plain (x : ((.pair (.slice T2) (.pair (.slice T2) (.pair T2 (.pair T2 (.pair T2 (.pair T2 .unit)))))) : Ty).den) (_ : Ty.wf (.pair (.slice T2) (.pair (.slice T2) (.pair T2 (.pair T2 (.pair T2 (.pair T2 .unit)))))) x) : ∃ k, (tourkeep2_RayStops.sp k).f x = some true := by
  obtain ⟨raw, shape, a, b, u, v, _⟩ := x
  obtain ⟨K, hK⟩ : ∃ K : Nat, K = 1000 := ⟨_, rfl⟩
  have hb := casts_eq
  rw [← hK] at hb
  exact ⟨K, RayStops_true (by omega) hb raw shape a b u v⟩
end Go.Proofs.T1
