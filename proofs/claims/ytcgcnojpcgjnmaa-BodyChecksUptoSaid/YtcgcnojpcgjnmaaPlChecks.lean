/-
  Plain laws: no program in sight.
-/
import Derived.Test.YtcgcnojpcgjnmaaPlBox
namespace Go.Proofs.T1
open Go Go.Sx

/-! BodyChecks -/
theorem eqbox_s (x : V22 × (V22 × Unit)) : Ty.eqb (.pair T22 (.pair T22 .unit)) x x = true := by
  show (Ty.eqb T22 x.1 x.1 && (Ty.eqb T22 x.2.1 x.2.1 && true)) = true
  rw [eqb24_s, eqb24_s]
  rfl
theorem bodyBegun_2m : tourlaw2_bodyBegun 2000000 = some true := by kernel_rfl
section
variable {p v : V22} {ang spin mass inertia bounce rub : Int} {l : List V22} {asleep : Bool} {calm : Int}
theorem Move_out {K : Nat} (hl : l.length ≤ 2000000) {x : Int} (hc : body_Check K (p, v, ang, spin, mass, inertia, bounce, rub, l, asleep, calm, ()) = some x) {t : Int} (h : x ≠ 0 ∨ t < 0 ∨ 65536 < t) :
    body_Move K (p, v, ang, spin, mass, inertia, bounce, rub, l, asleep, calm, ()) t = some (p, v, ang, spin, mass, inertia, bounce, rub, l, asleep, calm, ()) := by
  unfold body_Move
  rw [own_room hl, bnd_some]
  have c1 : body_Move.c1 K t (p, v, ang, spin, mass, inertia, bounce, rub, l, asleep, calm, ()) = some true := by
    unfold body_Move.c1
    rw [hc, bnd_some]
    dsimp only
    by_cases a : x = 0
    · rw [ine_neg a, bif_false]
      by_cases b : mass = 0
      · rw [ieq_pos b, bif_true]
      · rw [ieq_neg b, bif_false]
        cases asleep with
        | true => rw [bif_true]
        | false =>
          rw [bif_false]
          by_cases c : t < 0
          · rw [ilt_pos c, bif_true]
          · rw [ilt_neg (by omega), bif_false, igt_pos (by omega)]
    · rw [ine_pos a, bif_true]
  rw [c1, bnd_some, bif_true]
theorem BodyChecks_true {K : Nat} (hK : K = 2000000) (hl : l.length ≤ 1048576) (t : Int) : tourlaw2_BodyChecks K (p, v, ang, spin, mass, inertia, bounce, rub, l, asleep, calm, ()) t = some true := by
  obtain ⟨e, e1, h1⟩ := bodyCheck_gen (k := K) (by omega) (p := p) (v := v) (ang := ang) (spin := spin) (mass := mass) (inertia := inertia) (bounce := bounce) (rub := rub) (l := l) (asleep := asleep) (calm := calm)
  obtain ⟨e', e2, h2⟩ := RBody_gen (k := K) (by omega) (p := p) (v := v) (ang := ang) (spin := spin) (mass := mass) (inertia := inertia) (bounce := bounce) (rub := rub) (l := l) (asleep := asleep) (calm := calm)
  have ee := Bc_uniq h1 h2
  subst ee
  have same : tourref2_SameBody K (p, v, ang, spin, mass, inertia, bounce, rub, l, asleep, calm, ()) (p, v, ang, spin, mass, inertia, bounce, rub, l, asleep, calm, ()) = some true := SameBody_self _ (by show l.length < K; omega) (by show l.length ≤ 1000000000; omega)
  have c1 : tourlaw2_BodyChecks.c1 K (p, v, ang, spin, mass, inertia, bounce, rub, l, asleep, calm, ()) e = some false := by
    unfold tourlaw2_BodyChecks.c1
    rw [hK, bodyBegun_2m, ← hK, bnd_some, bif_true, e1, bnd_some, ine_neg rfl]
  unfold tourlaw2_BodyChecks
  rw [e2, bnd_some, c1, bnd_some, bif_false]
  by_cases e0 : e = 0
  · subst e0
    obtain ⟨l', a1, a2, hv⟩ := Place_both (k := K) (by omega) e1
    have l3 : 3 ≤ len l' := hv.1
    have l8 : len l' ≤ 8 := hv.2.1
    have ll : len l' = (l'.length : Int) := rfl
    have hB := Bounds_box (X := (p, v, ang, spin, mass, inertia, bounce, rub, l, asleep, calm, ())) (k := K) (by omega) a1 (by omega) (by omega)
    have hA := Around_box (k := K) (by omega) (l := l') (by omega) (by omega)
    have c3 : tourlaw2_BodyChecks.c3 K (p, v, ang, spin, mass, inertia, bounce, rub, l, asleep, calm, ()) l' = some false := by
      unfold tourlaw2_BodyChecks.c3
      rw [a2, bnd_some, sEqual_self (by omega) (by omega), bnd_some, bif_true, hB, bnd_some, bnd_some, hA, bnd_some]
      exact congrArg (fun b => some (!b)) (eqbox_s (boxOf l'))
    by_cases ht : t < 0 ∨ 65536 < t
    · have c4 : tourlaw2_BodyChecks.c4 K t = some true := by
        unfold tourlaw2_BodyChecks.c4
        by_cases c : t < 0
        · rw [ilt_pos c, bif_true]
        · rw [ilt_neg (by omega), bif_false, igt_pos (by omega)]
      rw [Move_out (by omega) e1 (Or.inr ht), bnd_some, a1, bnd_some, ine_neg rfl, bif_false, c3, bnd_some, bif_false, c4, bnd_some, bif_true, same, bnd_some]
    · have c4 : tourlaw2_BodyChecks.c4 K t = some false := by
        unfold tourlaw2_BodyChecks.c4
        rw [ilt_neg (by omega), bif_false, igt_neg (by omega)]
      obtain ⟨p', ang', m1, m2, _⟩ := Step_both (k := K) (by omega) (by omega) e1 (t := t) (by omega) (by omega)
      have same2 : tourref2_SameBody K (p', v, ang', spin, mass, inertia, bounce, rub, l, asleep, calm, ()) (p', v, ang', spin, mass, inertia, bounce, rub, l, asleep, calm, ()) = some true := SameBody_self _ (by show l.length < K; omega) (by show l.length ≤ 1000000000; omega)
      rw [m1, bnd_some, a1, bnd_some, ine_neg rfl, bif_false, c3, bnd_some, bif_false, c4, bnd_some, bif_false, m2, bnd_some, same2, bnd_some]
  · have hP : body_Place K (p, v, ang, spin, mass, inertia, bounce, rub, l, asleep, calm, ()) = some [] := by
      unfold body_Place
      rw [e1, bnd_some, ine_pos e0, bif_true]
    have hB : body_Bounds K (p, v, ang, spin, mass, inertia, bounce, rub, l, asleep, calm, ()) = some ((0, 0, ()), (0, 0, ()), ()) := by
      unfold body_Bounds
      rw [hP]
      rfl
    have c2 : tourlaw2_BodyChecks.c2 K (p, v, ang, spin, mass, inertia, bounce, rub, l, asleep, calm, ()) (p, v, ang, spin, mass, inertia, bounce, rub, l, asleep, calm, ()) [] = some true := by
      unfold tourlaw2_BodyChecks.c2
      rw [ieq_pos (show len ([] : List V22) = 0 from rfl), bif_true, hB, bnd_some]
      refine (congrArg (fun b => bif' b _ _) (eqbox_s ((0, 0, ()), (0, 0, ()), ()))).trans ?_
      rw [bif_true, same, bnd_some]
    rw [Move_out (by omega) e1 (Or.inl e0), bnd_some, hP, bnd_some, ine_pos e0, bif_true, c2, bnd_some]
end
theorem tourlaw2_BodyChecks_plain (x : ((.pair T25 (.pair T2 .unit)) : Ty).den) (hs : ∀ l : List V22, x.1.2.2.2.2.2.2.2.2.1 = l → l.length ≤ 1048576) : ∃ k, (tourlaw2_BodyChecks.sp k).f x = some true := by
  obtain ⟨⟨p, v, ang, spin, mass, inertia, bounce, rub, l, asleep, calm, _⟩, t, _⟩ := x
  obtain ⟨K, hK⟩ : ∃ K : Nat, K = 2000000 := ⟨_, rfl⟩
  exact ⟨K, BodyChecks_true hK (hs l rfl) t⟩
end Go.Proofs.T1
