/-
  Plain laws: no program in sight.
-/
import Derived.Test.YtcgcnojpcgjnmaaPlBody
namespace Go.Proofs.T1
open Go Go.Sx

/-! BodyPushes -/
theorem eqb24_s (a : V22) : Ty.eqb T22 a a = true := (eqb24 a a).trans (decide_eq_true rfl)
theorem eqb4_s (b : Bool) : Ty.eqb T4 b b = true := beq_self_eq_true b
theorem sEqual_self {k : Nat} {l : List V22} (hk : l.length < k) (hl : l.length ≤ 1000000000) : slices_Equal k l l = some true := by
  have H : ∀ (n : Nat) (i : Int), 0 ≤ i → len l - i < (n : Int) → 0 < n → slices_Equal.c1 k l l n i = some (.inr ()) := by
    intro n
    induction n with
    | zero => intro i _ _ h; omega
    | succ n ih =>
      intro i i0 i1 _
      rw [slices_Equal.c1]
      by_cases c : i < len l
      · have hlen : len l = (l.length : Int) := rfl
        rw [ilt_pos c, bif_true, req_pos (inL_of i0 c), req_pos (inL_of i0 c)]
        refine (congrArg (fun b => bif' b _ _) (eqb24_s (el Z22 l i))).trans ?_
        rw [bif_true, iadd_i64 (by omega) (by omega)]
        exact ih (i + 1) (by omega) (by omega) (by omega)
      · rw [ilt_neg (by omega), bif_false]
  have hlen : len l = (l.length : Int) := rfl
  unfold slices_Equal
  rw [ine_neg rfl, bif_false, H k 0 (by omega) (by omega) (by omega), bnd_some, two_inr]
theorem SameBody_self {k : Nat} (b : V25) (hk : b.2.2.2.2.2.2.2.2.1.length < k) (hl : b.2.2.2.2.2.2.2.2.1.length ≤ 1000000000) : tourref2_SameBody k b b = some true := by
  unfold tourref2_SameBody
  refine (congrArg (fun x => bif' x _ _) (eqb24_s b.1)).trans ?_
  rw [bif_true]
  refine (congrArg (fun x => bif' x _ _) (eqb24_s b.2.1)).trans ?_
  rw [bif_true, ieq_pos rfl, bif_true, ieq_pos rfl, bif_true, ieq_pos rfl, bif_true, ieq_pos rfl, bif_true, ieq_pos rfl, bif_true, ieq_pos rfl, bif_true]
  refine (congrArg (fun x => bif' x _ _) (eqb4_s b.2.2.2.2.2.2.2.2.2.1)).trans ?_
  rw [bif_true, ieq_pos rfl, bif_true, sEqual_self hk hl, bnd_some]
theorem near_clamp (k : Nat) (x : Int) {m : Int} (h0 : 0 ≤ m) (hm : m ≤ 1099511627776) : tourref2_nearest k x m = body_clamp k x m := by
  have n1 : ineg .i64 m = -m := by unfold ineg; rw [wrap_i64 (by omega) (by omega)]; omega
  rw [clamp_tot k x h0 hm]
  unfold tourref2_nearest
  rw [n1]
  by_cases c : x < -m
  · rw [ilt_pos c, bif_true, if_pos c]
  · rw [ilt_neg (by omega), bif_false, if_neg c]
    by_cases d : m < x
    · rw [igt_pos d, bif_true, if_pos d]
    · rw [igt_neg (by omega), bif_false, if_neg d]
theorem begun_eq : tourlaw2_bodyBegun 2000000 = some true := by kernel_rfl
section
variable {p v : V22} {ang spin mass inertia bounce rub : Int} {l : List V22} {asleep : Bool} {calm : Int}
theorem own_room {k : Nat} (hl : l.length ≤ 2000000) : body_own k (p, v, ang, spin, mass, inertia, bounce, rub, l, asleep, calm, ()) = some (p, v, ang, spin, mass, inertia, bounce, rub, l, asleep, calm, ()) := by
  unfold body_own slices_Clone_129
  dsimp only
  rw [req_pos (show room0 16 l by show (0 + l.length) * 16 ≤ 140737488355328; omega), bnd_some]
end
section
variable {p v : V22} {ang spin mass inertia bounce rub : Int} {l : List V22} {asleep : Bool} {calm : Int}
theorem Push_out {K : Nat} (hl : l.length ≤ 2000000) {x : Int} (hc : body_Check K (p, v, ang, spin, mass, inertia, bounce, rub, l, asleep, calm, ()) = some x) (h : x ≠ 0 ∨ mass = 0 ∨ asleep = true) (j r : V22) :
    body_Push K (p, v, ang, spin, mass, inertia, bounce, rub, l, asleep, calm, ()) j r = some (p, v, ang, spin, mass, inertia, bounce, rub, l, asleep, calm, ()) := by
  unfold body_Push
  rw [own_room hl, bnd_some]
  have c1 : body_Push.c1 K (p, v, ang, spin, mass, inertia, bounce, rub, l, asleep, calm, ()) = some true := by
    unfold body_Push.c1
    rw [hc, bnd_some]
    dsimp only
    by_cases a : x = 0
    · rw [ine_neg a, bif_false]
      by_cases b : mass = 0
      · rw [ieq_pos b, bif_true]
      · rw [ieq_neg b, bif_false]
        rcases h with h | h | h
        · exact absurd a h
        · exact absurd h b
        · rw [h]
    · rw [ine_pos a, bif_true]
  rw [c1, bnd_some, bif_true]
theorem Ease_out {K : Nat} {x : Int} (hc : body_Check K (p, v, ang, spin, mass, inertia, bounce, rub, l, asleep, calm, ()) = some x) (h : x ≠ 0 ∨ mass = 0 ∨ asleep = true) (j r : V22) :
    body_Ease K (p, v, ang, spin, mass, inertia, bounce, rub, l, asleep, calm, ()) j r = some 0 := by
  unfold body_Ease
  have c1 : body_Ease.c1 K (p, v, ang, spin, mass, inertia, bounce, rub, l, asleep, calm, ()) = some true := by
    unfold body_Ease.c1
    rw [hc, bnd_some]
    dsimp only
    by_cases a : x = 0
    · rw [ine_neg a, bif_false]
      by_cases b : mass = 0
      · rw [ieq_pos b, bif_true]
      · rw [ieq_neg b, bif_false]
        rcases h with h | h | h
        · exact absurd a h
        · exact absurd h b
        · rw [h]
    · rw [ine_pos a, bif_true]
  rw [c1, bnd_some, bif_true]
theorem Free_eq (k : Nat) : tourref2_Free k (p, v, ang, spin, mass, inertia, bounce, rub, l, asleep, calm, ()) = some (decide (mass ≠ 0) && !asleep) := by
  unfold tourref2_Free
  dsimp only
  by_cases b : mass = 0
  · rw [ine_neg b, bif_false, decide_eq_false (fun h => h b)]; rfl
  · rw [ine_pos b, bif_true, decide_eq_true b]; rfl
theorem At_eq {K : Nat} (hk : 2 ≤ K) (hc : body_Check K (p, v, ang, spin, mass, inertia, bounce, rub, l, asleep, calm, ()) = some 0) (r : V22) :
    ∃ s, body_At K (p, v, ang, spin, mass, inertia, bounce, rub, l, asleep, calm, ()) r = some s ∧ tourref2_Speed K (p, v, ang, spin, mass, inertia, bounce, rub, l, asleep, calm, ()) r = some s := by
  unfold body_At tourref2_Speed
  rw [hc, bnd_some, ine_neg rfl, bif_false]
  unfold vec_Sub
  dsimp only
  simp only [FSub_tot, FMul_tot hk, FAdd_tot, bnd_some]
  exact ⟨_, rfl, rfl⟩
theorem Push_eq {K : Nat} (hk : 2 ≤ K) (hl : l.length ≤ 2000000) (hc : body_Check K (p, v, ang, spin, mass, inertia, bounce, rub, l, asleep, calm, ()) = some 0) (m0 : 0 < mass) (m1 : mass ≤ 1099511627776) (i0 : 0 < inertia) (i1 : inertia ≤ 1099511627776) (ha : asleep = false) (j r : V22) :
    ∃ V W, body_Push K (p, v, ang, spin, mass, inertia, bounce, rub, l, asleep, calm, ()) j r = some (p, V, ang, W, mass, inertia, bounce, rub, l, asleep, calm, ()) ∧
      tourref2_Pushed K (p, v, ang, spin, mass, inertia, bounce, rub, l, asleep, calm, ()) j r = some (p, V, ang, W, mass, inertia, bounce, rub, l, asleep, calm, ()) := by
  have oq : ∀ a n, tourref2_quotient K a n = body_over K a n := fun _ _ => rfl
  unfold body_Push tourref2_Pushed
  rw [own_room hl, bnd_some, Free_eq, bnd_some, decide_eq_true (show mass ≠ 0 by omega), ha]
  have c1 : body_Push.c1 K (p, v, ang, spin, mass, inertia, bounce, rub, l, false, calm, ()) = some false := by
    unfold body_Push.c1
    rw [← ha, hc, bnd_some]
    dsimp only
    rw [ine_neg rfl, bif_false, ieq_neg (by omega), bif_false, ha]
  rw [c1, bnd_some, bif_false]
  show ∃ V W, _ ∧ bif' true _ _ = _
  rw [bif_true]
  unfold vec_Sub vec_Cross
  dsimp only
  simp only [oq, near_clamp K _ (show (0 : Int) ≤ 268435456 by decide) (show (268435456 : Int) ≤ 1099511627776 by decide), near_clamp K _ (show (0 : Int) ≤ 16777216 by decide) (show (16777216 : Int) ≤ 1099511627776 by decide),
    clamp_tot K _ (show (0 : Int) ≤ 268435456 by decide) (show (268435456 : Int) ≤ 1099511627776 by decide), clamp_tot K _ (show (0 : Int) ≤ 16777216 by decide) (show (16777216 : Int) ≤ 1099511627776 by decide),
    FSub_tot, FMul_tot hk, FAdd_tot, FOver_tot hk _ m0 m1, FOver_tot hk _ i0 i1, FOver_tot hk _ (show (0 : Int) < 411775 by decide) (show (411775 : Int) ≤ 1099511627776 by decide), bnd_some]
  exact ⟨_, _, rfl, rfl⟩
theorem Ease_eq {K : Nat} (hk : 2 ≤ K) (hc : body_Check K (p, v, ang, spin, mass, inertia, bounce, rub, l, asleep, calm, ()) = some 0) (m0 : 0 < mass) (m1 : mass ≤ 1099511627776) (i0 : 0 < inertia) (i1 : inertia ≤ 1099511627776) (ha : asleep = false) (j r : V22) :
    ∃ s, body_Ease K (p, v, ang, spin, mass, inertia, bounce, rub, l, asleep, calm, ()) j r = some s ∧ tourref2_Ease K (p, v, ang, spin, mass, inertia, bounce, rub, l, asleep, calm, ()) j r = some s := by
  have oq : ∀ a n, tourref2_quotient K a n = body_over K a n := fun _ _ => rfl
  unfold body_Ease tourref2_Ease
  rw [Free_eq, bnd_some, decide_eq_true (show mass ≠ 0 by omega), ha]
  have c1 : body_Ease.c1 K (p, v, ang, spin, mass, inertia, bounce, rub, l, false, calm, ()) = some false := by
    unfold body_Ease.c1
    rw [← ha, hc, bnd_some]
    dsimp only
    rw [ine_neg rfl, bif_false, ieq_neg (by omega), bif_false, ha]
  rw [c1, bnd_some, bif_false]
  show ∃ s, _ ∧ bif' true _ _ = _
  rw [bif_true]
  unfold vec_Sub vec_Cross
  dsimp only
  simp only [oq, FSub_tot, FMul_tot hk, FAdd_tot, FOver_tot hk _ m0 m1, FOver_tot hk _ i0 i1, bnd_some]
  exact ⟨_, rfl, rfl⟩
theorem BodyPushes_true (hl : l.length ≤ 1048576) (j r n : V22) : tourlaw2_BodyPushes 2000000 (p, v, ang, spin, mass, inertia, bounce, rub, l, asleep, calm, ()) j r n = some true := by
  obtain ⟨e, e1, h1⟩ := bodyCheck_gen (k := 2000000) (by decide) (p := p) (v := v) (ang := ang) (spin := spin) (mass := mass) (inertia := inertia) (bounce := bounce) (rub := rub) (l := l) (asleep := asleep) (calm := calm)
  obtain ⟨e', e2, h2⟩ := RBody_gen (k := 2000000) (by decide) (p := p) (v := v) (ang := ang) (spin := spin) (mass := mass) (inertia := inertia) (bounce := bounce) (rub := rub) (l := l) (asleep := asleep) (calm := calm)
  have ee := Bc_uniq h1 h2
  subst ee
  have same : tourref2_SameBody 2000000 (p, v, ang, spin, mass, inertia, bounce, rub, l, asleep, calm, ()) (p, v, ang, spin, mass, inertia, bounce, rub, l, asleep, calm, ()) = some true := SameBody_self _ (by show l.length < 2000000; omega) (by show l.length ≤ 1000000000; omega)
  unfold tourlaw2_BodyPushes
  rw [begun_eq, bnd_some, bif_true]
  by_cases e0 : e = 0
  · subst e0
    have hr : R2 mass inertia bounce rub calm ∧ R3 v spin mass inertia asleep calm := by
      rcases h1 with ⟨_, h⟩ | ⟨_, _, h⟩ | ⟨_, _, _, _, h⟩ | ⟨_, _, h, g, _⟩
      · exact absurd rfl h
      · cases h
      · cases h
      · exact ⟨h, g⟩
    obtain ⟨s, a1, a2⟩ := At_eq (K := 2000000) (by decide) e1 r
    by_cases fr : mass = 0 ∨ asleep = true
    · have hp := Push_out (by omega) e1 (Or.inr fr) j r
      have he := Ease_out e1 (Or.inr fr) r n
      have hF : tourref2_Free 2000000 (p, v, ang, spin, mass, inertia, bounce, rub, l, asleep, calm, ()) = some false := by
        rw [Free_eq]
        rcases fr with h | h
        · rw [decide_eq_false (fun g => g h)]; rfl
        · rw [h]; simp
      have hpd : tourref2_Pushed 2000000 (p, v, ang, spin, mass, inertia, bounce, rub, l, asleep, calm, ()) j r = some (p, v, ang, spin, mass, inertia, bounce, rub, l, asleep, calm, ()) := by
        unfold tourref2_Pushed
        rw [hF, bnd_some, bif_false]
      have hpe : tourref2_Ease 2000000 (p, v, ang, spin, mass, inertia, bounce, rub, l, asleep, calm, ()) r n = some 0 := by
        unfold tourref2_Ease
        rw [hF, bnd_some, bif_false]
      rw [hp, bnd_some, e2, bnd_some, ine_neg rfl, bif_false, hpd, bnd_some, same, bnd_some, bif_true, a1, bnd_some, a2, bnd_some]
      refine (congrArg (fun x => bif' x _ _) (eqb24_s s)).trans ?_
      rw [bif_true, he, bnd_some, hpe, bnd_some, ieq_pos rfl]
    · have m1 : 0 < mass := by
        have := hr.1.1.1
        have : mass ≠ 0 := fun h => fr (Or.inl h)
        omega
      have i1 : 0 < inertia := by
        have := hr.1.2.1.1
        have : inertia ≠ 0 := fun h => absurd (hr.2.1.2 h) (by omega)
        omega
      have ha : asleep = false := by
        cases asleep with
        | false => rfl
        | true => exact absurd (Or.inr rfl) fr
      obtain ⟨V, W, hp, hpd⟩ := Push_eq (K := 2000000) (by decide) (by omega) e1 m1 hr.1.1.2 i1 hr.1.2.1.2 ha j r
      obtain ⟨t, he, hpe⟩ := Ease_eq (K := 2000000) (by decide) e1 m1 hr.1.1.2 i1 hr.1.2.1.2 ha r n
      have same2 : tourref2_SameBody 2000000 (p, V, ang, W, mass, inertia, bounce, rub, l, asleep, calm, ()) (p, V, ang, W, mass, inertia, bounce, rub, l, asleep, calm, ()) = some true := SameBody_self _ (by show l.length < 2000000; omega) (by show l.length ≤ 1000000000; omega)
      rw [hp, bnd_some, e2, bnd_some, ine_neg rfl, bif_false, hpd, bnd_some, same2, bnd_some, bif_true, a1, bnd_some, a2, bnd_some]
      refine (congrArg (fun x => bif' x _ _) (eqb24_s s)).trans ?_
      rw [bif_true, he, bnd_some, hpe, bnd_some, ieq_pos rfl]
  · have hp := Push_out (by omega) e1 (Or.inl e0) j r
    have he := Ease_out e1 (Or.inl e0) r n
    have hat : body_At 2000000 (p, v, ang, spin, mass, inertia, bounce, rub, l, asleep, calm, ()) r = some (0, 0, ()) := by
      unfold body_At
      rw [e1, bnd_some, ine_pos e0, bif_true]
    rw [hp, bnd_some, e2, bnd_some, ine_pos e0, bif_true]
    have c1 : tourlaw2_BodyPushes.c1 2000000 (p, v, ang, spin, mass, inertia, bounce, rub, l, asleep, calm, ()) r n (p, v, ang, spin, mass, inertia, bounce, rub, l, asleep, calm, ()) = some true := by
      unfold tourlaw2_BodyPushes.c1
      rw [same, bnd_some, bif_true, hat, bnd_some]
      refine (congrArg (fun x => bif' x _ _) (eqb24_s ((0, 0, ()) : V22))).trans ?_
      rw [bif_true, he, bnd_some, ieq_pos rfl]
    rw [c1, bnd_some]
end
theorem tourlaw2_BodyPushes_plain (x : ((.pair T25 (.pair T22 (.pair T22 (.pair T22 .unit)))) : Ty).den) (hs : ∀ l : List V22, x.1.2.2.2.2.2.2.2.2.1 = l → l.length ≤ 1048576) : ∃ k, (tourlaw2_BodyPushes.sp k).f x = some true :=
  by
  obtain ⟨⟨p, v, ang, spin, mass, inertia, bounce, rub, l, asleep, calm, _⟩, j, r, n, _⟩ := x
  have h := BodyPushes_true (p := p) (v := v) (ang := ang) (spin := spin) (mass := mass) (inertia := inertia) (bounce := bounce) (rub := rub) (l := l) (asleep := asleep) (calm := calm) (hs l rfl) j r n
  obtain ⟨K, hK⟩ : ∃ K : Nat, K = 2000000 := ⟨_, rfl⟩
  rw [← hK] at h
  exact ⟨K, h⟩
end Go.Proofs.T1
