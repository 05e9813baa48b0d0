/-
  Plain laws: no program in sight.
-/
import Derived.Test.YtipddonkkhjegaaGreatPlFind
import Derived.Test.YtipddonkkhjegaaGreatG15
namespace Go.Proofs.T1
open Go Go.Sx

/-! Bodies pushed and eased, by the program alone -/
section
variable {p v : V26} {ang spin mass inertia bounce rub : Int} {l : List V26} {asleep : Bool} {calm : Int}
end
theorem st_self {α : Type} (z : α) (l : List α) {i : Int} (i0 : 0 ≤ i) (i1 : i < len l) : st l i (el z l i) = l := by
  obtain ⟨i, rfl⟩ := Int.eq_ofNat_of_zero_le i0
  have ll : len l = (l.length : Int) := rfl
  have hi : i < l.length := by omega
  rw [el_get z l hi]
  show l.set i l[i] = l
  exact List.set_getElem_self hi
end Go.Proofs.T1
namespace Go.Proofs.T1
open Go Go.Sx

/-! Scenes that are made -/
theorem body_made (k : Nat) (s : (List Int) × Unit) : ∃ s' p v ang spin mass inertia bounce rub l, tourmake_body k s = some (s', (p, v, ang, spin, mass, inertia, bounce, rub, l, false, 0, ())) ∧ BMade p v ang spin mass inertia bounce rub l := by
  obtain ⟨raw, _⟩ := s
  obtain ⟨l, e1, hs⟩ := Poly_solid k raw
  unfold tourmake_Poly at e1
  obtain ⟨⟨s0, l'⟩, e0, e2⟩ := bnd_eq e1
  obtain rfl : l' = l := Option.some.inj e2
  obtain ⟨s1, y3, f3, a3, b3⟩ := Next_eq k s0 (n := 41) (by decide) (by decide)
  obtain ⟨s2, y5, f5, a5, b5⟩ := Next_eq k s1 (n := 41) (by decide) (by decide)
  obtain ⟨s3, y7, f7, a7, b7⟩ := Next_eq k s2 (n := 65536) (by decide) (by decide)
  obtain ⟨s4, y9, f9, a9, b9⟩ := Next_eq k s3 (n := 3) (by decide) (by decide)
  obtain ⟨s5, y14, f14, a14, b14⟩ := Next_eq k s4 (n := 65537) (by decide) (by decide)
  obtain ⟨s6, y16, f16, a16, b16⟩ := Next_eq k s5 (n := 65537) (by decide) (by decide)
  obtain ⟨s7, y18, f18, a18, b18⟩ := Next_eq k s6 (n := 4) (by decide) (by decide)
  have hc1 : ∃ ang, tourmake_body.c1 k (s3, y7) (s4, y9) = some ang ∧ 0 ≤ ang ∧ ang ≤ 65535 := by
    unfold tourmake_body.c1
    by_cases h : y9 = 0
    · rw [ieq_pos h, bT]
      exact ⟨0, rfl, by decide, by decide⟩
    · rw [ieq_neg h, bF]
      exact ⟨y7, rfl, a7, by omega⟩
  obtain ⟨ang, f12, g0, g1⟩ := hc1
  have e0 : tourmake_poly k (raw, ()) = some (s0, l') := e0
  unfold tourmake_body
  rw [e0, bS]
  dsimp only
  rw [f3, bS]
  dsimp only
  rw [f5, bS]
  dsimp only
  rw [f7, bS]
  dsimp only
  rw [f9, bS, f12, bS]
  dsimp only
  rw [f14, bS]
  dsimp only
  rw [f16, bS]
  dsimp only
  rw [f18, bS]
  dsimp only
  rw [half_eq a3 (by omega) (by decide) (by decide), half_eq a5 (by omega) (by decide) (by decide)]
  by_cases h : y18 = 0
  · rw [ieq_pos h, bT]
    exact ⟨_, _, _, _, _, _, _, _, _, _, rfl, ⟨hs, by dsimp only; omega, by dsimp only; omega, ⟨g0, g1⟩, by decide, ⟨a14, by omega⟩, ⟨a16, by omega⟩, Or.inl ⟨rfl, rfl, rfl, rfl⟩⟩⟩
  · rw [ieq_neg h, bF]
    obtain ⟨s8, y21, f21, a21, b21⟩ := Next_eq k s7 (n := 21) (by decide) (by decide)
    obtain ⟨s9, y23, f23, a23, b23⟩ := Next_eq k s8 (n := 21) (by decide) (by decide)
    obtain ⟨s10, y25, f25, a25, b25⟩ := Next_eq k s9 (n := 65536) (by decide) (by decide)
    obtain ⟨s11, y27, f27, a27, b27⟩ := Next_eq k s10 (n := 8) (by decide) (by decide)
    obtain ⟨s12, y29, f29, a29, b29⟩ := Next_eq k s11 (n := 30) (by decide) (by decide)
    rw [f21, bS]
    dsimp only
    rw [f23, bS]
    dsimp only
    rw [f25, bS]
    dsimp only
    rw [f27, bS]
    dsimp only
    rw [f29, bS]
    dsimp only
    rw [half_eq a21 (by omega) (by decide) (by decide), half_eq a23 (by omega) (by decide) (by decide)]
    have m1 : imul .i64 (iadd .i64 1 y27) 65536 = (1 + y27) * 65536 := by rw [iadd_i64 (by omega) (by omega), imul_i64 (by omega) (by omega)]
    have m2 : imul .i64 (iadd .i64 1 y29) 65536 = (1 + y29) * 65536 := by rw [iadd_i64 (by omega) (by omega), imul_i64 (by omega) (by omega)]
    rw [m1, m2, isub_i64 (by omega) (by omega)]
    exact ⟨_, _, _, _, _, _, _, _, _, _, rfl, ⟨hs, by dsimp only; omega, by dsimp only; omega, ⟨g0, g1⟩, by omega, ⟨a14, by omega⟩, ⟨a16, by omega⟩, Or.inr ⟨by omega, by omega, by omega, by omega⟩⟩⟩
end Go.Proofs.T1
namespace Go.Proofs.T1
open Go Go.Sx

/-! Scenes, whose bodies can be placed within a box -/
def MadeB (b : V57) : Prop := ∃ p v ang spin mass inertia bounce rub l, b = (p, v, ang, spin, mass, inertia, bounce, rub, l, false, 0, ()) ∧ BMade p v ang spin mass inertia bounce rub l
def AllM (l : List V57) : Prop := ∀ i, 0 ≤ i → i < len l → MadeB (el Z57 l i)
theorem AllM_app {l : List V57} (h : AllM l) {b : V57} (hb : MadeB b) : AllM (l ++ [b]) := by
  intro j j0 j1
  rw [len_app] at j1
  by_cases c : j < len l
  · rw [el_app_lt Z57 l b j0 c]; exact h j j0 c
  · rw [el_app_eq Z57 l b (show len l = j by omega)]; exact hb
theorem scene_mades {k : Nat} (hk : 9 ≤ k) (raw : List Int) : ∃ B J g st, tourmake_Scene k raw = some (B, J, [], g, st, ()) ∧ AllM B ∧ len B ≤ 5 ∧ len J ≤ 1 ∧ 1 ≤ st ∧ st ≤ 65536 := by
  obtain ⟨s1, y1, f1, a1, b1⟩ := Next_eq k (raw, ()) (n := 11) (by decide) (by decide)
  obtain ⟨s2, y3, f3, a3, b3⟩ := Next_eq k s1 (n := 60) (by decide) (by decide)
  obtain ⟨s3, y6, f6, a6, b6⟩ := Next_eq k s2 (n := 6) (by decide) (by decide)
  obtain ⟨⟨s4, B⟩, ⟨hA, hl⟩, hB⟩ := inv_loop (fun n (z : ((List Int) × Unit) × List V57) v => tourmake_Scene.c1 k (s3, y6) n v z.1 z.2) 0 y6 (fun z v => AllM z.2 ∧ len z.2 = v)
    (by
      intro n z v v0 v1 ⟨h1, h2⟩
      obtain ⟨s', p, v', ang, spin, mass, inertia, bounce, rub, l, e, hm⟩ := body_made k z.1
      refine ⟨(s', z.2 ++ [(p, v', ang, spin, mass, inertia, bounce, rub, l, false, 0, ())]), ⟨AllM_app h1 ⟨p, v', ang, spin, mass, inertia, bounce, rub, l, rfl, hm⟩, by rw [len_app, h2]⟩, ?_⟩
      show tourmake_Scene.c1 k (s3, y6) (n + 1) v z.1 z.2 = _
      have hroom : ∀ w : V57, room 120 z.2 [w] := by
        intro w
        show (z.2.length + 1) * 120 ≤ 140737488355328
        unfold len at h2
        omega
      rw [tourmake_Scene.c1, ilt_pos v1, bT, e, bS]
      dsimp only
      rw [rP (hroom _), iadd_i64 (by omega) (by omega)])
    (by
      intro n z v v0 v1
      show tourmake_Scene.c1 k (s3, y6) (n + 1) v z.1 z.2 = _
      rw [tourmake_Scene.c1, ilt_neg v1, bF])
    k (s3, []) 0 (by omega) (by omega) (by omega) ⟨fun j j0 j1 => by have : j < 0 := j1; omega, rfl⟩
  have hB : tourmake_Scene.c1 k (s3, y6) k 0 s3 [] = some (s4, B) := hB
  have hl : len B = y6 := hl
  have hc2 : ∃ b s5, tourmake_Scene.c2 k (s4, B) = some (b, s5) := by
    unfold tourmake_Scene.c2
    dsimp only
    by_cases c : 1 < len B
    · rw [igt_pos c, bT, rP (inL_of (by omega) (by omega)), rP (inL_of (by omega) c)]
      by_cases d : 0 < iadd .i64 (el Z57 B 0).2.2.2.2.1 (el Z57 B 1).2.2.2.2.1
      · obtain ⟨s5, y, f, _, _⟩ := Next_eq k s4 (n := 3) (by decide) (by decide)
        rw [igt_pos d, bT, f, bS]
        exact ⟨_, _, rfl⟩
      · rw [igt_neg (by omega), bF]
        exact ⟨_, _, rfl⟩
    · rw [igt_neg (by omega), bF]
      exact ⟨_, _, rfl⟩
  obtain ⟨b, s5, hc2⟩ := hc2
  obtain ⟨s6, y26, f26, _, _⟩ := Next_eq k s5 (n := 6) (by decide) (by decide)
  have hst : iquo .i64 65536 (iadd .i64 20 y3) = 65536 / (20 + y3) := by
    rw [iadd_i64 (by omega) (by omega), iquo_i64 (by decide) (by decide) (by omega)]
  have st0 : 1 ≤ 65536 / (20 + y3) := (Int.le_ediv_iff_mul_le (by omega)).2 (by omega)
  have st1 : 65536 / (20 + y3) ≤ 65536 := Int.ediv_le_self _ (by decide)
  unfold tourmake_Scene
  rw [f1, bS]
  dsimp only
  rw [f3, bS]
  dsimp only
  rw [hst, rP (show nz (iadd .i64 20 y3) by rw [iadd_i64 (by omega) (by omega)]; unfold nz; omega), f6, bS]
  dsimp only
  rw [hB, bS, hc2, bS]
  dsimp only
  cases b with
  | true =>
    rw [bT, f26, bS]
    exact ⟨_, _, _, _, rfl, hA, by omega, by show (1 : Int) ≤ 1; omega, st0, st1⟩
  | false =>
    rw [bF]
    exact ⟨_, _, _, _, rfl, hA, by omega, by show (0 : Int) ≤ 1; omega, st0, st1⟩
theorem AllM_K {k : Nat} (hk : 9 ≤ k) {l : List V57} (h : AllM l) : AllK k l := by
  intro i i0 i1
  obtain ⟨p, v, ang, spin, mass, inertia, bounce, rub, c, e, hm⟩ := h i i0 i1
  show body_Check k (el Z57 l i) = some 0
  rw [e]
  exact hm.check hk
theorem AllM_P {k : Nat} (hk : 10 ≤ k) {l : List V57} (h : AllM l) : AllP k l := by
  intro i i0 i1
  obtain ⟨p, v, ang, spin, mass, inertia, bounce, rub, c, e, hm⟩ := h i i0 i1
  obtain ⟨c', e1, hv, hl, a, s, hc, ha, hs⟩ := Place_all (k := k) hk (hm.check (by omega))
  refine ⟨c', by rw [e]; exact e1, hv, fun j j0 j1 => ?_⟩
  rw [hl] at j1
  have h4 := hm.hl.1.2.2.1 j j0 j1
  have hp := hm.hp
  rw [hc, q_tpl j0 j1]
  have rb : ∀ {x y : Int}, -262144 ≤ x → x ≤ 262144 → -65536 ≤ y → y ≤ 65536 → -262144 ≤ rnd (x * y) 65536 ∧ rnd (x * y) 65536 ≤ 262144 := by
    intro x y x0 x1 y0 y1
    have := mul_bd (x := x) (y := y) (M := 262144) (N := 65536) x0 x1 y0 y1
    exact rnd_bd (by decide) (by omega) (by omega)
  have b1 := rb (x := (q c j).1) (y := a) (by omega) (by omega) ha.1 ha.2
  have b2 := rb (x := (q c j).2.1) (y := s) (by omega) (by omega) hs.1 hs.2
  have b3 := rb (x := (q c j).1) (y := s) (by omega) (by omega) hs.1 hs.2
  have b4 := rb (x := (q c j).2.1) (y := a) (by omega) (by omega) ha.1 ha.2
  unfold Bx tp
  dsimp only
  omega

/-! Contacts carried from none -/
theorem Carry_nil {k : Nat} (hk : 10000 ≤ k) {C : List V39} (hC : C.length ≤ 5000) (hz : ∀ c, c ∈ C → c.2.2.2.2.2.2 = (0, 0, ())) : keep_Carry k [] C = some C := by
  have lC : len C = (C.length : Int) := rfl
  have hi : ∀ (v : Int) (r : List V39), slices_IndexFunc_41_h k [] v r = some (-1) := by
    intro v r
    unfold slices_IndexFunc_41_h
    obtain ⟨m, rfl⟩ : ∃ m, k = m + 1 := ⟨k - 1, by omega⟩
    have e : slices_IndexFunc_41_h.c1 (m + 1) [] v r (m + 1) 0 = some (.inr ()) := by
      rw [slices_IndexFunc_41_h.c1, ilt_neg (by decide), bF]
    rw [e, bS, two_inr]
  have same : ∀ v : Int, 0 ≤ v → v < len C → ((el Z39 C v).1, (el Z39 C v).2.1, (el Z39 C v).2.2.1, (el Z39 C v).2.2.2.1, (el Z39 C v).2.2.2.2.1, (el Z39 C v).2.2.2.2.2.1, (0 : Int), (el Z39 C v).2.2.2.2.2.2.2) = el Z39 C v := by
    intro v v0 v1
    have h := hz _ (el_in Z39 C v0 v1)
    generalize el Z39 C v = c at *
    obtain ⟨a, b, d, e, f, g, h2⟩ := c
    dsimp only at h ⊢
    rw [h]
  have same2 : ∀ v : Int, 0 ≤ v → v < len C → ((el Z39 C v).1, (el Z39 C v).2.1, (el Z39 C v).2.2.1, (el Z39 C v).2.2.2.1, (el Z39 C v).2.2.2.2.1, (el Z39 C v).2.2.2.2.2.1, (el Z39 C v).2.2.2.2.2.2.1, (0 : Int), ()) = el Z39 C v := by
    intro v v0 v1
    have h := hz _ (el_in Z39 C v0 v1)
    generalize el Z39 C v = c at *
    obtain ⟨a, b, d, e, f, g, h2⟩ := c
    dsimp only at h ⊢
    rw [h]
  have cl : slices_Clone k C = some C := by
    unfold slices_Clone
    exact rP (show room0 80 C by unfold room0 roomFor; omega) _
  have key : ∀ (n : Nat) (v : Int), 0 ≤ v → v ≤ len C → len C - v < (n : Int) → keep_Carry.c1 k [] C n v C = some C := by
    intro n
    induction n with
    | zero => intro v a b c; omega
    | succ n ih =>
      intro v a b c
      rw [keep_Carry.c1]
      by_cases h : v < len C
      · rw [ilt_pos h, bT, rP (inL_of a h), same v a h, st_self Z39 C a h, rP (inL_of a h), same2 v a h, st_self Z39 C a h, hi, bS]
        unfold keep_Carry.c2
        rw [ige_neg (by decide), bF, bS, iadd_i64 (by omega) (by omega)]
        exact ih (v + 1) (by omega) (by omega) (by omega)
      · rw [ilt_neg (by omega), bF]
  unfold keep_Carry
  rw [cl, bS, key k 0 (by omega) (by omega) (by omega), bS]
theorem Find_nil {k : Nat} (hk : 10000 ≤ k) {l : List V57} (hA : AllK k l) (hP : AllP k l) (hl : len l ≤ 5) : ∃ ps C, keep_Pairs k l = some (ps, 0) ∧ PairsIn (len l) ps ∧ keep_Find.c1 k l (ps, 0) k 0 [] = some C ∧ keep_Find k l [] = some (C, 0) ∧ Fnd (len l) ps C ∧ C.length ≤ 50 := by
  have ll : len l = (l.length : Int) := rfl
  obtain ⟨ps, C, e1, h1, e2, hF, hC⟩ := Find_ok hk hA hP (by omega)
  have sq := Nat.mul_le_mul (show l.length ≤ 5 by omega) (show l.length ≤ 5 by omega)
  refine ⟨ps, C, e1, h1, e2, ?_, hF, by omega⟩
  unfold keep_Find
  rw [e1, bS]
  dsimp only
  rw [ine_neg rfl, bF, e2, bS, Carry_nil hk (by omega) hF.zero, bS]

/-! A run of the solver -/
end Go.Proofs.T1
namespace Go.Proofs.T1
open Go Go.Sx

/-! The order of contacts -/
def ordV (a b : V39) : Int := if cmpT a.1 b.1 = 0 then (if cmpT a.2.1 b.2.1 = 0 then cmpT a.2.2.1 b.2.2.1 else cmpT a.2.1 b.2.1) else cmpT a.1 b.1
theorem Or3_eq {k : Nat} (hk : 4 ≤ k) (a b c : Int) : cmp_Or k [a, b, c] = some (if a = 0 then (if b = 0 then c else b) else a) := by
  obtain ⟨n, rfl⟩ : ∃ n, k = n + 4 := ⟨k - 4, by omega⟩
  have l3 : len [a, b, c] = 3 := rfl
  have e0 : el 0 [a, b, c] 0 = a := rfl
  have e1 : el 0 [a, b, c] (0 + 1) = b := rfl
  have e2 : el 0 [a, b, c] (0 + 1 + 1) = c := rfl
  unfold cmp_Or
  rw [cmp_Or.c1, ilt_pos (by omega), bT, rP (inL_of (by omega) (by omega)), e0]
  by_cases ha : a = 0
  · rw [ine_neg ha, bF, if_pos ha, iadd_i64 (x := 0) (y := 1) (by omega) (by omega), cmp_Or.c1, ilt_pos (by omega), bT, rP (inL_of (by omega) (by omega)), e1]
    by_cases hb : b = 0
    · rw [ine_neg hb, bF, if_pos hb, iadd_i64 (x := 0 + 1) (y := 1) (by omega) (by omega), cmp_Or.c1, ilt_pos (by omega), bT, rP (inL_of (by omega) (by omega)), e2]
      by_cases hc : c = 0
      · rw [ine_neg hc, bF, iadd_i64 (x := 0 + 1 + 1) (y := 1) (by omega) (by omega), cmp_Or.c1, ilt_neg (by omega), bF, bS, two_inr, hc]
      · rw [ine_pos hc, bT, bS, two_inl]
    · rw [ine_pos hb, bT, bS, two_inl, if_neg hb]
  · rw [ine_pos ha, bT, bS, two_inl, if_neg ha]
theorem KOrder_eq {k : Nat} (hk : 4 ≤ k) (a b : V39) : keep_Order k a b = some (ordV a b) := by
  unfold keep_Order
  rw [Compare_eq, bS, Compare_eq, bS, Compare_eq, bS, Or3_eq hk, bS]
  rfl
theorem cmpT_zero (a b : Int) : cmpT a b = 0 ↔ a = b := by unfold cmpT; split <;> (try split) <;> omega
theorem cmpT_neg {a b : Int} (h : a < b) : cmpT a b = -1 := if_pos h
theorem ordV_zero (a b : V39) : ordV a b = 0 ↔ a.1 = b.1 ∧ a.2.1 = b.2.1 ∧ a.2.2.1 = b.2.2.1 := by
  unfold ordV
  by_cases h1 : cmpT a.1 b.1 = 0
  · rw [if_pos h1]
    by_cases h2 : cmpT a.2.1 b.2.1 = 0
    · rw [if_pos h2, cmpT_zero]
      rw [cmpT_zero] at h1 h2
      exact ⟨fun h => ⟨h1, h2, h⟩, fun h => h.2.2⟩
    · rw [if_neg h2]
      exact ⟨fun h => absurd h h2, fun h => absurd ((cmpT_zero _ _).2 h.2.1) h2⟩
  · rw [if_neg h1]
    exact ⟨fun h => absurd h h1, fun h => absurd ((cmpT_zero _ _).2 h.1) h1⟩
theorem ordV_lt {a b : V39} (h : clt a b) : ordV a b = -1 := by
  unfold ordV
  rcases h with h | ⟨h, h2 | ⟨h2, h3⟩⟩
  · rw [cmpT_neg h]; rfl
  · rw [if_pos ((cmpT_zero _ _).2 h), cmpT_neg h2]; rfl
  · rw [if_pos ((cmpT_zero _ _).2 h), if_pos ((cmpT_zero _ _).2 h2), cmpT_neg h3]

/-! Contacts carried from others of the same places -/
def Like (o c : V39) : Prop := o.1 = c.1 ∧ o.2.1 = c.2.1 ∧ o.2.2.1 = c.2.2.1 ∧ o.2.2.2.1 = c.2.2.2.1 ∧ o.2.2.2.2.1 = c.2.2.2.2.1 ∧ o.2.2.2.2.2.1 = c.2.2.2.2.2.1
theorem list_ext_el {α : Type} (z : α) {l m : List α} (h : len l = len m) (e : ∀ j, 0 ≤ j → j < len l → el z l j = el z m j) : l = m := by
  have ll : len l = (l.length : Int) := rfl
  have lm : len m = (m.length : Int) := rfl
  refine List.ext_getElem (by omega) fun i h1 h2 => ?_
  have := e i (by omega) (by omega)
  rw [el_get z l h1, el_get z m h2] at this
  exact this
theorem el_st {α : Type} (z : α) (l : List α) {i : Int} (i0 : 0 ≤ i) (i1 : i < len l) (x : α) : el z (st l i x) i = x := by
  rw [el_set z l x i0 i1 i0, if_pos rfl]
theorem st_st {α : Type} (l : List α) (i : Int) (x y : α) : st (st l i x) i y = st l i y := List.set_set ..
theorem Carry_same {k : Nat} (hk : 10000 ≤ k) {old C : List V39} (hl : len old = len C) (hC : C.length ≤ 5000) (like : ∀ j, 0 ≤ j → j < len C → Like (el Z39 old j) (el Z39 C j)) (ord : ∀ i j, 0 ≤ i → i < j → j < len C → clt (el Z39 C i) (el Z39 C j)) :
    keep_Carry k old C = some old := by
  have lC : len C = (C.length : Int) := rfl
  have cl : slices_Clone k C = some C := by
    unfold slices_Clone
    exact rP (show room0 80 C by unfold room0 roomFor; omega) _
  have hi : ∀ (v : Int) (r : List V39), 0 ≤ v → v < len C → len r = len C → Like (el Z39 old v) (el Z39 r v) → slices_IndexFunc_41_h k old v r = some v := by
    intro v r v0 v1 lr hL
    have c1 : ∀ j, keep_Carry_1 k (el Z39 old j) v r = some (decide (ordV (el Z39 old j) (el Z39 r v) = 0)) := by
      intro j
      unfold keep_Carry_1
      rw [rP (inL_of v0 (by omega)), KOrder_eq (by omega), bS]
      rfl
    have H := find_loop (fun n u => slices_IndexFunc_41_h.c1 k old v r n u) 0 (len old) (fun u => ordV (el Z39 old u) (el Z39 r v) = 0) (fun u => u)
      (by
        intro n u u0 u1 hu
        show slices_IndexFunc_41_h.c1 k old v r (n + 1) u = _
        rw [slices_IndexFunc_41_h.c1, ilt_pos u1, bT, rP (inL_of u0 u1), c1, bS, decide_eq_true hu, bT])
      (by
        intro n u u0 u1 hu
        show slices_IndexFunc_41_h.c1 k old v r (n + 1) u = slices_IndexFunc_41_h.c1 k old v r n (u + 1)
        rw [slices_IndexFunc_41_h.c1, ilt_pos u1, bT, rP (inL_of u0 u1), c1, bS, decide_eq_false hu, bF, iadd_i64 (by omega) (by omega)])
      (by
        intro n u u0 u1
        show slices_IndexFunc_41_h.c1 k old v r (n + 1) u = _
        rw [slices_IndexFunc_41_h.c1, ilt_neg u1, bF])
      k 0 (by omega) (by omega)
    have hv : ordV (el Z39 old v) (el Z39 r v) = 0 := (ordV_zero _ _).2 ⟨hL.1, hL.2.1, hL.2.2.1⟩
    unfold slices_IndexFunc_41_h
    rcases H with ⟨j, j0, j1, hj, hbef, e⟩ | ⟨no, _⟩
    · have e : slices_IndexFunc_41_h.c1 k old v r k 0 = some (.inl j) := e
      have hjv : j = v := by
        rcases Int.lt_trichotomy j v with h | h | h
        · exfalso
          have a1 := (ordV_zero _ _).1 hj
          have a2 := like j j0 (by omega)
          have a3 := like v v0 v1
          have a4 := ord j v j0 h v1
          obtain ⟨b1, b2, b3, _⟩ := a2
          obtain ⟨d1, d2, d3, _⟩ := a3
          obtain ⟨f1, f2, f3, _⟩ := hL
          unfold clt at a4
          omega
        · exact h
        · exact absurd hv (hbef v (by omega) h)
      rw [e, bS, two_inl, hjv]
    · exact absurd hv (no v (by omega) (by omega))
  have key : ∀ (n : Nat) (v : Int) (cur : List V39), 0 ≤ v → v ≤ len C → len C - v < (n : Int) → len cur = len C → (∀ j, 0 ≤ j → j < len C → el Z39 cur j = if j < v then el Z39 old j else el Z39 C j) → keep_Carry.c1 k old C n v cur = some old := by
    intro n
    induction n with
    | zero => intro v cur a b c; omega
    | succ n ih =>
      intro v cur a b c lc hcur
      rw [keep_Carry.c1]
      by_cases h : v < len C
      · have e1 : ∀ X, el Z39 (st cur v X) v = X := fun X => el_st Z39 cur a (by omega) X
        have l1 : ∀ X, len (st cur v X) = len C := fun X => (len_set _ _ _).trans lc
        have s2 : ∀ X Y : V39, st (st cur v X) v Y = st cur v Y := fun X Y => st_st _ _ _ _
        have hcv : el Z39 cur v = el Z39 C v := by rw [hcur v a h, if_neg (by omega)]
        have hlv := like v a h
        rw [ilt_pos h, bT, rP (inL_of a (by omega)), rP (inL_of a (by rw [l1]; exact h))]
        simp only [e1, s2, hcv]
        have hidx := hi v (st cur v ((el Z39 C v).1, (el Z39 C v).2.1, (el Z39 C v).2.2.1, (el Z39 C v).2.2.2.1, (el Z39 C v).2.2.2.2.1, (el Z39 C v).2.2.2.2.2.1, (0 : Int), (0 : Int), ())) a h (l1 _) (by rw [e1]; exact hlv)
        rw [hidx, bS]
        unfold keep_Carry.c2
        rw [ige_pos a, bT, rP (inL_of a (by omega)), rP (inL_of a (by rw [l1]; exact h)), rP (inL_of a (by rw [len_set, l1]; exact h)), bS, iadd_i64 (by omega) (by omega)]
        have s3 : ∀ X Y Z : V39, st (st (st cur v X) v Y) v Z = st cur v Z := fun X Y Z => by rw [s2, s2]
        have e3 : ∀ X Y, el Z39 (st (st cur v X) v Y) v = Y := fun X Y => by rw [s2, e1]
        simp only [e3, e1, s2]
        have heq : (((el Z39 C v).1, (el Z39 C v).2.1, (el Z39 C v).2.2.1, (el Z39 C v).2.2.2.1, (el Z39 C v).2.2.2.2.1, (el Z39 C v).2.2.2.2.2.1, (el Z39 old v).2.2.2.2.2.2.1, (el Z39 old v).2.2.2.2.2.2.2.1, ()) : V39) = el Z39 old v := by
          obtain ⟨h1, h2, h3, h4, h5, h6⟩ := hlv
          rw [← h1, ← h2, ← h3, ← h4, ← h5, ← h6]
        rw [heq]
        refine ih (v + 1) _ (by omega) (by omega) (by omega) (l1 _) fun j j0 j1 => ?_
        rw [el_set Z39 cur _ a (by omega) j0]
        by_cases e : j = v
        · rw [if_pos e, if_pos (by omega), e]
        · rw [if_neg e, hcur j j0 j1]
          by_cases g : j < v
          · rw [if_pos g, if_pos (by omega)]
          · rw [if_neg g, if_neg (by omega)]
      · rw [ilt_neg (by omega), bF]
        congr 1
        refine list_ext_el Z39 (lc.trans hl.symm) fun j j0 j1 => ?_
        rw [hcur j j0 (by omega), if_pos (by omega)]
  unfold keep_Carry
  rw [cl, bS, key k 0 C (by omega) (by omega) (by omega) rfl (fun j j0 j1 => by rw [if_neg (by omega)]), bS]
end Go.Proofs.T1
