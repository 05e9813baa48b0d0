/-
  Plain laws: no program in sight.
-/
import Derived.Test.YtlinkcdelenjeaaPlWrap
import Derived.Test.YtlinkcdelenjeaaG8
namespace Go.Proofs.T1
open Go Go.Sx

/-! The reference's meeting of two polygons -/
instance (x y : Int) : Decidable (Opp x y) := by unfold Opp; infer_instance
instance (a b p : V33) : Decidable (Box a b p) := by unfold Box; infer_instance
instance (a b p : V33) : Decidable (On a b p) := by unfold On; infer_instance
instance (a b c d : V33) : Decidable (CrP a b c d) := by unfold CrP; infer_instance
theorem opp_dec (x y : Int) : ilt (imul .i64 (cmpI x 0) (cmpI y 0)) 0 = decide (Opp x y) := by
  rcases Int.lt_trichotomy x 0 with a | a | a <;> rcases Int.lt_trichotomy y 0 with b | b | b <;>
    first
    | (rw [cmpI_lt a, cmpI_lt b, decide_eq_false (by unfold Opp; omega)]; decide)
    | (rw [cmpI_lt a, cmpI_eq b, decide_eq_false (by unfold Opp; omega)]; decide)
    | (rw [cmpI_lt a, cmpI_gt b, decide_eq_true (by unfold Opp; omega)]; decide)
    | (rw [cmpI_eq a, cmpI_lt b, decide_eq_false (by unfold Opp; omega)]; decide)
    | (rw [cmpI_eq a, cmpI_eq b, decide_eq_false (by unfold Opp; omega)]; decide)
    | (rw [cmpI_eq a, cmpI_gt b, decide_eq_false (by unfold Opp; omega)]; decide)
    | (rw [cmpI_gt a, cmpI_lt b, decide_eq_true (by unfold Opp; omega)]; decide)
    | (rw [cmpI_gt a, cmpI_eq b, decide_eq_false (by unfold Opp; omega)]; decide)
    | (rw [cmpI_gt a, cmpI_gt b, decide_eq_false (by unfold Opp; omega)]; decide)
theorem cmpI_zero (x : Int) : cmpI x 0 = 0 ↔ x = 0 := by
  rcases Int.lt_trichotomy x 0 with a | a | a
  · rw [cmpI_lt a]; omega
  · rw [cmpI_eq a]; omega
  · rw [cmpI_gt a]; omega
theorem cmpI_nn (x : Int) : ige (cmpI x 0) 0 = decide (0 ≤ x) := by
  rcases Int.lt_trichotomy x 0 with a | a | a
  · rw [cmpI_lt a, decide_eq_false (by omega)]; rfl
  · rw [cmpI_eq a, decide_eq_true (by omega)]; rfl
  · rw [cmpI_gt a, decide_eq_true (by omega)]; rfl
theorem cross1_eq (k : Nat) (a b p : V33) : tourref2_cross_1 k a b p (cmpI (tri a b p) 0) = some (decide (On a b p)) := by
  unfold tourref2_cross_1
  by_cases z : tri a b p = 0
  · rw [ieq_pos ((cmpI_zero _).2 z), bif_true]
    by_cases c1 : imin a.1 b.1 ≤ p.1
    · rw [ile_pos c1, bif_true]
      by_cases c2 : p.1 ≤ imax a.1 b.1
      · rw [ile_pos c2, bif_true]
        by_cases c3 : imin a.2.1 b.2.1 ≤ p.2.1
        · rw [ile_pos c3, bif_true]
          unfold ile
          congr 1
          rw [decide_eq_decide]
          exact ⟨fun h => ⟨z, c1, c2, c3, h⟩, fun h => h.2.2.2.2⟩
        · rw [ile_neg (by omega), bif_false, decide_eq_false (fun h => c3 h.2.2.2.1)]
      · rw [ile_neg (by omega), bif_false, decide_eq_false (fun h => c2 h.2.2.1)]
    · rw [ile_neg (by omega), bif_false, decide_eq_false (fun h => c1 h.2.1)]
  · rw [ieq_neg (fun h => z ((cmpI_zero _).1 h)), bif_false, decide_eq_false (fun h => z h.1)]
theorem cross_eq {k : Nat} (hk : 9 ≤ k) {a b c d : V33} (ha : Wn a) (hb : Wn b) (hc : Wn c) (hd : Wn d) : tourref2_cross k a b c d = some (decide (CrP a b c d)) := by
  unfold tourref2_cross
  rw [left_eq hk ha hb hc, bnd_some, left_eq hk ha hb hd, bnd_some, left_eq hk hc hd ha, bnd_some, left_eq hk hc hd hb, bnd_some]
  have c1 : tourref2_cross.c1 k (cmpI (tri a b c) 0) (cmpI (tri a b d) 0) (cmpI (tri c d a) 0) (cmpI (tri c d b) 0) = some (decide (Opp (tri a b c) (tri a b d) ∧ Opp (tri c d a) (tri c d b))) := by
    unfold tourref2_cross.c1
    rw [opp_dec, opp_dec]
    by_cases h : Opp (tri a b c) (tri a b d)
    · rw [decide_eq_true h, bif_true]
      congr 1
      rw [decide_eq_decide]
      exact ⟨fun g => ⟨h, g⟩, fun g => g.2⟩
    · rw [decide_eq_false h, bif_false, decide_eq_false (fun g => h g.1)]
  rw [c1, bnd_some, cross1_eq, bnd_some, cross1_eq, bnd_some, cross1_eq, bnd_some, cross1_eq, bnd_some]
  by_cases h1 : Opp (tri a b c) (tri a b d) ∧ Opp (tri c d a) (tri c d b)
  · rw [decide_eq_true h1, bif_true, decide_eq_true (show CrP a b c d from (Or.inl h1))]
  rw [decide_eq_false h1, bif_false]
  by_cases h2 : On a b c
  · rw [decide_eq_true h2, bif_true, decide_eq_true (show CrP a b c d from (Or.inr (Or.inl h2)))]
  rw [decide_eq_false h2, bif_false]
  by_cases h3 : On a b d
  · rw [decide_eq_true h3, bif_true, decide_eq_true (show CrP a b c d from (Or.inr (Or.inr (Or.inl h3))))]
  rw [decide_eq_false h3, bif_false]
  by_cases h4 : On c d a
  · rw [decide_eq_true h4, bif_true, decide_eq_true (show CrP a b c d from (Or.inr (Or.inr (Or.inr (Or.inl h4)))))]
  rw [decide_eq_false h4, bif_false]
  congr 1
  rw [decide_eq_decide]
  exact ⟨fun h => Or.inr (Or.inr (Or.inr (Or.inr h))), fun h => by
    rcases h with h | h | h | h | h
    · exact absurd h h1
    · exact absurd h h2
    · exact absurd h h3
    · exact absurd h h4
    · exact h⟩
open Classical in
theorem Inside_P {k : Nat} (hk : 9 ≤ k) {l : List V33} (hv : Val l) {p : V33} (hp : Wn p) : tourref2_Inside k l p = some (decide (InP l p)) := by
  rw [Inside_val hk hv]
  congr 1
  rw [decide_eq_decide]
  exact ⟨fun h => Fan_In hv.2.2.2 h.2, fun h => ⟨hp, In_Fan hv.1 h⟩⟩
open Classical in
theorem Meet_eq {k : Nat} (hk : 9 ≤ k) {a b : List V33} (ha : Val a) (hb : Val b) : tourref2_Meet k a b = some (decide (MeetP a b)) := by
  have a0 : 0 < len a := by have := ha.1; omega
  have b0 : 0 < len b := by have := hb.1; omega
  have a8 := ha.2.1
  have b8 := hb.2.1
  have c1 : tourref2_Meet.c1 k a b = some (decide (InP a (q b 0) ∨ InP b (q a 0))) := by
    unfold tourref2_Meet.c1
    rw [req_pos (inL_of (by decide) b0), req_pos (inL_of (by decide) a0)]
    have e1 : tourref2_Inside k a (el Z33 b 0) = some (decide (InP a (q b 0))) := Inside_P hk ha (hb.2.2.1 0 (by decide) b0)
    have e2 : tourref2_Inside k b (el Z33 a 0) = some (decide (InP b (q a 0))) := Inside_P hk hb (ha.2.2.1 0 (by decide) a0)
    rw [e1, bnd_some, e2, bnd_some]
    by_cases h : InP a (q b 0)
    · rw [decide_eq_true h, bif_true, decide_eq_true (Or.inl h)]
    · rw [decide_eq_false h, bif_false]
      congr 1
      rw [decide_eq_decide]
      exact ⟨fun g => Or.inr g, fun g => g.resolve_left h⟩
  have c3 : ∀ i, 0 ≤ i → i < len a → (tourref2_Meet.c3 k a b i k 0 = some (.inl ()) ∧ ∃ j, (0 ≤ j ∧ j < len b) ∧ CrP (q a i) (q a (nx (len a) i)) (q b j) (q b (nx (len b) j))) ∨
      (tourref2_Meet.c3 k a b i k 0 = some (.inr ()) ∧ ∀ j, 0 ≤ j → j < len b → ¬ CrP (q a i) (q a (nx (len a) i)) (q b j) (q b (nx (len b) j))) := by
    intro i i0 i1
    have hn := nx_range i0 i1
    have one : ∀ n v, 0 ≤ v → v < len b → tourref2_Meet.c3 k a b i (n + 1) v = bif' (decide (CrP (q a i) (q a (nx (len a) i)) (q b v) (q b (nx (len b) v)))) (some (.inl ())) (tourref2_Meet.c3 k a b i n (v + 1)) := by
      intro n v v0 v1
      have hm := nx_range v0 v1
      rw [tourref2_Meet.c3, ilt_pos v1, bif_true, req_pos (inL_of v0 v1), req_pos (show nz (len a) by unfold nz; omega), irem_nx i0 i1 (by omega), req_pos (inL_of hn.1 hn.2), req_pos (show nz (len b) by unfold nz; omega), irem_nx v0 v1 (by omega), req_pos (inL_of hm.1 hm.2)]
      have e : tourref2_cross k (el Z33 a i) (el Z33 a (nx (len a) i)) (el Z33 b v) (el Z33 b (nx (len b) v)) = some (decide (CrP (q a i) (q a (nx (len a) i)) (q b v) (q b (nx (len b) v)))) :=
        cross_eq hk (ha.2.2.1 i i0 i1) (ha.2.2.1 _ hn.1 hn.2) (hb.2.2.1 v v0 v1) (hb.2.2.1 _ hm.1 hm.2)
      rw [e, bnd_some, iadd_i64 (by omega) (by omega)]
    have H := find_loop (fun n v => tourref2_Meet.c3 k a b i n v) 0 (len b) (fun j => CrP (q a i) (q a (nx (len a) i)) (q b j) (q b (nx (len b) j))) (fun _ => ())
      (fun n v v0 v1 h => by show tourref2_Meet.c3 k a b i (n + 1) v = _; rw [one n v v0 v1, decide_eq_true h, bif_true])
      (fun n v v0 v1 h => by show tourref2_Meet.c3 k a b i (n + 1) v = tourref2_Meet.c3 k a b i n (v + 1); rw [one n v v0 v1, decide_eq_false h, bif_false])
      (fun n v v0 v1 => by show tourref2_Meet.c3 k a b i (n + 1) v = _; rw [tourref2_Meet.c3, ilt_neg v1, bif_false])
      k 0 (by omega) (by omega)
    rcases H with ⟨j, j0, j1, h, _, e⟩ | ⟨h, e⟩
    · exact Or.inl ⟨e, j, ⟨j0, j1⟩, h⟩
    · exact Or.inr ⟨e (by omega), h⟩
  have H := find_loop (fun n v => tourref2_Meet.c2 k a b n v) 0 (len a) (fun i => ∃ j, (0 ≤ j ∧ j < len b) ∧ CrP (q a i) (q a (nx (len a) i)) (q b j) (q b (nx (len b) j))) (fun _ => ())
    (by
      intro n v v0 v1 ⟨j, hj, h⟩
      show tourref2_Meet.c2 k a b (n + 1) v = _
      rw [tourref2_Meet.c2, ilt_pos v1, bif_true, req_pos (inL_of v0 v1)]
      rcases c3 v v0 v1 with ⟨e, _⟩ | ⟨_, g⟩
      · rw [e, bnd_some, two_inl]
      · exact absurd h (g j hj.1 hj.2))
    (by
      intro n v v0 v1 h
      show tourref2_Meet.c2 k a b (n + 1) v = tourref2_Meet.c2 k a b n (v + 1)
      rw [tourref2_Meet.c2, ilt_pos v1, bif_true, req_pos (inL_of v0 v1)]
      rcases c3 v v0 v1 with ⟨_, g⟩ | ⟨e, _⟩
      · exact absurd g h
      · rw [e, bnd_some, two_inr, iadd_i64 (by omega) (by omega)])
    (by
      intro n v v0 v1
      show tourref2_Meet.c2 k a b (n + 1) v = _
      rw [tourref2_Meet.c2, ilt_neg v1, bif_false])
    k 0 (by omega) (by omega)
  unfold tourref2_Meet
  rw [c1, bnd_some]
  by_cases h : InP a (q b 0) ∨ InP b (q a 0)
  · rw [decide_eq_true h, bif_true, decide_eq_true]
    rcases h with h | h
    · exact Or.inl h
    · exact Or.inr (Or.inl h)
  · rw [decide_eq_false h, bif_false]
    rcases H with ⟨i, i0, i1, ⟨j, hj, g⟩, _, e⟩ | ⟨g, e⟩
    · have e : tourref2_Meet.c2 k a b k 0 = some (.inl ()) := e
      rw [e, bnd_some, two_inl, decide_eq_true]
      exact Or.inr (Or.inr ⟨i, j, ⟨i0, i1⟩, hj, g⟩)
    · have e : tourref2_Meet.c2 k a b k 0 = some (.inr ()) := e (by omega)
      rw [e, bnd_some, two_inr, decide_eq_false]
      intro x
      rcases x with x | x | ⟨i, j, hi, hj, x⟩
      · exact h (Or.inl x)
      · exact h (Or.inr x)
      · exact g i hi.1 hi.2 ⟨j, hj, x⟩

/-! The reference's axis -/
theorem rnd_mono {x y n : Int} (hn : 0 < n) (h : x ≤ y) : rnd x n ≤ rnd y n := Int.ediv_le_ediv (by omega) (by omega)
theorem rnd_nn {x n : Int} (hn : 0 < n) (h : 0 ≤ x) : 0 ≤ rnd x n := Int.ediv_nonneg (by omega) (by omega)
theorem wt_nn {a b : List V33} (ha : Val a) {i : Int} (i0 : 0 ≤ i) (i1 : i < len a) (h : 0 ≤ dp a b i) : 0 ≤ wt a b i := by
  obtain ⟨_, l0, _, _⟩ := Length_eq (k := 40) (by decide) ha i0 i1
  exact rnd_nn l0 h
/-! The law -/
theorem eqbP_self (s : Bool) (v : V33) : Ty.eqb (.pair T4 T33) (s, v) (s, v) = true := by
  show (Ty.eqb T4 s s && Ty.eqb T33 v v) = true
  rw [eqb24_self]
  cases s <;> rfl
end Go.Proofs.T1
namespace Go.Proofs.T1
open Go Go.Sx

/-! BodyPushes -/
theorem eqb24_s (a : V33) : Ty.eqb T33 a a = true := (eqb24 a a).trans (decide_eq_true rfl)
theorem sEqual_self {k : Nat} {l : List V33} (hk : l.length < k) (hl : l.length ≤ 1000000000) : slices_Equal k l l = some true := by
  have H : ∀ (n : Nat) (i : Int), 0 ≤ i → len l - i < (n : Int) → 0 < n → slices_Equal.c1 k l l n i = some (.inr ()) := by
    intro n
    induction n with
    | zero => intro i _ _ h; omega
    | succ n ih =>
      intro i i0 i1 _
      rw [slices_Equal.c1]
      by_cases c : i < len l
      · have hlen : len l = (l.length : Int) := rfl
        rw [ilt_pos c, bif_true, req_pos (inL_of i0 c), req_pos (inL_of i0 c)]
        refine (congrArg (fun b => bif' b _ _) (eqb24_s (el Z33 l i))).trans ?_
        rw [bif_true, iadd_i64 (by omega) (by omega)]
        exact ih (i + 1) (by omega) (by omega) (by omega)
      · rw [ilt_neg (by omega), bif_false]
  have hlen : len l = (l.length : Int) := rfl
  unfold slices_Equal
  rw [ine_neg rfl, bif_false, H k 0 (by omega) (by omega) (by omega), bnd_some, two_inr]
section
variable {p v : V33} {ang spin mass inertia bounce rub : Int} {l : List V33} {asleep : Bool} {calm : Int}
end
section
variable {p v : V33} {ang spin mass inertia bounce rub : Int} {l : List V33} {asleep : Bool} {calm : Int}
end
end Go.Proofs.T1
namespace Go.Proofs.T1
open Go Go.Sx

/-! The distance of a point from a segment, by the reference -/
theorem apart_c1 {k : Nat} (hk : 9 ≤ k) {c s : Int} {y21 y23 : List Int} (r1 : BR y21 c) (r2 : BR y23 s) (s0 : 0 < s) (s1 : s ≤ 140000000000000000) (c0 : -140000000000000000 ≤ c) (c1 : c ≤ 140000000000000000) :
    ∀ (j f : Nat) (v : Int), j + 1 < f → j ≤ 29 → 0 ≤ v → v + 2 ^ (j + 1) ≤ 1073741824 → v * v * s ≤ c * c → c * c < (v + 2 ^ (j + 1)) * (v + 2 ^ (j + 1)) * s →
    ∃ r, tourref2_apart.c1 k y21 y23 f v (2 ^ j) = some r ∧ 0 ≤ r ∧ r ≤ 1073741824 ∧ r * r * s ≤ c * c ∧ c * c < (r + 1) * (r + 1) * s := by
  have cc := mul_bd (x := c) (y := c) (M := 140000000000000000) (N := 140000000000000000) c0 c1 c0 c1
  have st : ∀ (f : Nat) (v b : Int), 0 < b → 0 ≤ v → v + b ≤ 1073741824 → tourref2_apart.c1 k y21 y23 (f + 1) v b = tourref2_apart.c1 k y21 y23 f (if (v + b) * (v + b) * s ≤ c * c then v + b else v) (iquo .i64 b 2) := by
    intro f v b b0 v0 vb
    have p1 := mul_bd (x := v + b) (y := v + b) (M := 1073741824) (N := 1073741824) (by omega) (by omega) (by omega) (by omega)
    have p2 := mul_bd (x := (v + b) * (v + b)) (y := s) (M := 1152921504606846976) (N := 140000000000000000) (by omega) (by omega) (by omega) (by omega)
    obtain ⟨x, ex, rx⟩ := BOf hk (n := v + b) (by omega) (by omega)
    obtain ⟨y, ey, ry⟩ := BMul hk rx rx
    obtain ⟨z, ez, rz⟩ := BMul hk ry r2
    obtain ⟨w, ew, rw_⟩ := BMul hk r1 r1
    rw [tourref2_apart.c1, igt_pos b0, bif_true, iadd_i64 (by omega) (by omega), ex, bnd_some, bnd_some, ey, bnd_some, ez, bnd_some, ew, bnd_some, BCmp hk rz rw_ (by unfold SR; omega) (by unfold SR; omega), bnd_some]
    unfold tourref2_apart.c2
    by_cases g : (v + b) * (v + b) * s ≤ c * c
    · have : cmpI ((v + b) * (v + b) * s) (c * c) ≤ 0 := by unfold cmpI; split <;> (try split) <;> omega
      rw [ile_pos this, bif_true, bnd_some, if_pos g, iadd_i64 (by omega) (by omega)]
    · rw [cmpI_gt (by omega), ile_neg (by decide), bif_false, bnd_some, if_neg g]
  intro j
  induction j with
  | zero =>
    intro f v hf hj a b cc' d
    obtain ⟨f, rfl⟩ : ∃ i, f = i + 2 := ⟨f - 2, by omega⟩
    simp only [Int.pow_succ, Int.pow_zero, Int.one_mul] at b d ⊢
    have q : iquo .i64 1 2 = 0 := by rw [iquo_i64 (by decide) (by decide) (by decide)]; decide
    rw [st (f + 1) v 1 (by decide) a (by omega), q, tourref2_apart.c1, igt_neg (by decide), bif_false]
    by_cases g : (v + 1) * (v + 1) * s ≤ c * c
    · rw [if_pos g]
      exact ⟨_, rfl, by omega, by omega, g, by rw [show v + 1 + 1 = v + 2 by omega]; exact d⟩
    · rw [if_neg g]
      exact ⟨_, rfl, a, by omega, cc', by omega⟩
  | succ j ih =>
    intro f v hf hj a b cc' d
    obtain ⟨f, rfl⟩ : ∃ i, f = i + 1 := ⟨f - 1, by omega⟩
    have e2 : (2 : Int) ^ (j + 1 + 1) = 2 * 2 ^ (j + 1) := by rw [Int.pow_succ]; omega
    have e3 : (2 : Int) ^ (j + 1) = 2 * 2 ^ j := by rw [Int.pow_succ]; omega
    have p0 : (0 : Int) < 2 ^ j := Int.pow_pos (by decide)
    rw [e2] at b d
    have q : iquo .i64 (2 ^ (j + 1)) 2 = 2 ^ j := by rw [iquo_i64 (by omega) (by omega) (by decide)]; omega
    rw [st f v (2 ^ (j + 1)) (by omega) a (by omega), q]
    by_cases g : (v + 2 ^ (j + 1)) * (v + 2 ^ (j + 1)) * s ≤ c * c
    · rw [if_pos g]
      exact ih f _ (by omega) (by omega) (by omega) (by omega) g (by rw [show v + 2 ^ (j + 1) + 2 ^ (j + 1) = v + 2 * 2 ^ (j + 1) by omega]; exact d)
    · rw [if_neg g]
      exact ih f _ (by omega) (by omega) a (by omega) cc' (by omega)
theorem cmpI_np (x : Int) : ile (cmpI x 0) 0 = decide (x ≤ 0) := by
  unfold ile cmpI
  refine decide_eq_decide.2 ?_
  split
  · exact ⟨fun _ => by omega, fun _ => by decide⟩
  · split
    · exact ⟨fun _ => by omega, fun _ => by decide⟩
    · exact ⟨fun h => absurd h (by decide), fun h => by omega⟩
theorem Wn_Bw {v : V33} (h : Wn v) : Bw v := by unfold Wn at h; unfold Bw; omega
theorem apart_eq {k : Nat} (hk : 60 ≤ k) {p u r : V33} (hp : Wn p) (hu : Wn u) (hr : Wn r) :
    ∃ n, tourref2_apart k p u r = some n ∧ 0 ≤ n ∧ n ≤ 1073741824 ∧ NrS (sb u p) (sb r p) n ∧ ¬ NrS (sb u p) (sb r p) (n + 1) := by
  have hk9 : 9 ≤ k := by omega
  have eE : sb (sb r p) (sb u p) = sb r u := by refine v_ext ?_ ?_ <;> unfold sb <;> dsimp only <;> omega
  have dP : dt (sb u p) (sb u p) = dt (sb p u) (sb p u) := by unfold dt sb; grind
  have dR : dt (sb r p) (sb r p) = dt (sb p r) (sb p r) := by unfold dt sb; grind
  have dPe : dt (sb u p) (sb r u) = - dt (sb p u) (sb r u) := by unfold dt sb; grind
  have dRe : dt (sb r p) (sb r u) = - dt (sb p r) (sb r u) := by unfold dt sb; grind
  have cPR : cr (sb u p) (sb r p) = cr (sb r u) (sb p u) := by unfold cr sb; grind
  have sum : dt (sb r p) (sb r u) = dt (sb r u) (sb r u) + dt (sb u p) (sb r u) := by unfold dt sb; grind
  have E1 := fun n => NrS_end (p := sb u p) (r := sb r p) (n := n)
  have E2 := fun n => NrS_end2 (p := sb u p) (r := sb r p) (n := n)
  have E3 := fun n => NrS_mid (p := sb u p) (r := sb r p) (n := n)
  rw [eE] at E1 E2 E3
  have bd : ∀ {x y : V33}, Wn x → Wn y → -131072000 ≤ (sb x y).1 ∧ (sb x y).1 ≤ 131072000 ∧ -131072000 ≤ (sb x y).2.1 ∧ (sb x y).2.1 ≤ 131072000 := by
    intro x y hx hy
    unfold Wn at hx hy
    unfold sb
    dsimp only
    omega
  have b1 := bd hr hu
  have b2 := bd hp hu
  have b3 := bd hp hr
  have db : ∀ {x y : V33}, (-131072000 ≤ x.1 ∧ x.1 ≤ 131072000 ∧ -131072000 ≤ x.2.1 ∧ x.2.1 ≤ 131072000) → (-131072000 ≤ y.1 ∧ y.1 ≤ 131072000 ∧ -131072000 ≤ y.2.1 ∧ y.2.1 ≤ 131072000) →
      (-34359738368000000 ≤ dt x y ∧ dt x y ≤ 34359738368000000) ∧ (-34359738368000000 ≤ cr x y ∧ cr x y ≤ 34359738368000000) ∧ ∃ c, tourref2_Dot k x y = some c ∧ BR c (dt x y) := by
    intro x y hx hy
    have p1 := mul_bd (x := x.1) (y := y.1) (M := 131072000) (N := 131072000) (by omega) (by omega) (by omega) (by omega)
    have p2 := mul_bd (x := x.2.1) (y := y.2.1) (M := 131072000) (N := 131072000) (by omega) (by omega) (by omega) (by omega)
    have p3 := mul_bd (x := x.1) (y := y.2.1) (M := 131072000) (N := 131072000) (by omega) (by omega) (by omega) (by omega)
    have p4 := mul_bd (x := x.2.1) (y := y.1) (M := 131072000) (N := 131072000) (by omega) (by omega) (by omega) (by omega)
    obtain ⟨c, e, r⟩ := BDot hk9 (a := x) (b := y) (by unfold I64; omega) (by unfold I64; omega) (by unfold I64; omega) (by unfold I64; omega)
    exact ⟨by unfold dt; omega, by unfold cr; omega, c, e, r⟩
  obtain ⟨d1, _, c1, f1, g1⟩ := db b2 b1
  obtain ⟨d2, _, c2, f2, g2⟩ := db b3 b1
  obtain ⟨d3, _, c3, f3, g3⟩ := db b1 b1
  obtain ⟨_, d4, _⟩ := db b1 b2
  obtain ⟨d5, _⟩ := db b2 b2
  obtain ⟨d6, _⟩ := db b3 b3
  unfold tourref2_apart
  rw [rsub_eq k (Wn_Bw hr) (Wn_Bw hu), bnd_some, rsub_eq k (Wn_Bw hp) (Wn_Bw hu), bnd_some, f1, bnd_some, BCmp hk9 g1 BR_zero (by unfold SR; omega) (by unfold SR; omega), bnd_some, cmpI_np]
  have sqm : ∀ {x : V33}, (-131072000 ≤ x.1 ∧ x.1 ≤ 131072000 ∧ -131072000 ≤ x.2.1 ∧ x.2.1 ≤ 131072000) → iadd .i64 (imul .i64 x.1 x.1) (imul .i64 x.2.1 x.2.1) = dt x x ∧ 0 ≤ dt x x := by
    intro x hx
    have p1 := mul_bd (x := x.1) (y := x.1) (M := 131072000) (N := 131072000) (by omega) (by omega) (by omega) (by omega)
    have p2 := mul_bd (x := x.2.1) (y := x.2.1) (M := 131072000) (N := 131072000) (by omega) (by omega) (by omega) (by omega)
    have n1 := sq_nn x.1
    have n2 := sq_nn x.2.1
    rw [imul_i64 (by omega) (by omega), imul_i64 (by omega) (by omega), iadd_i64 (by omega) (by omega)]
    exact ⟨rfl, by unfold dt; omega⟩
  have rbd : ∀ {n x : Int}, Rt x n → x ≤ 34359738368000000 → n ≤ 1073741824 := by
    intro n x h hx
    have := sq_lt (a := n) (b := 1073741824) h.1 (by decide) (by have := h.2.1; omega)
    omega
  by_cases h1 : dt (sb p u) (sb r u) ≤ 0
  · rw [decide_eq_true h1, bif_true]
    obtain ⟨m1, m2⟩ := sqm b2
    rw [m1]
    obtain ⟨n, e, hn⟩ := RRoot_eq (k := k) (by omega) m2 (by omega)
    rw [e, bnd_some]
    refine ⟨n, rfl, hn.1, rbd hn (by omega), ?_, fun g => ?_⟩
    · rw [E1 _ (by omega), dP]; exact hn.2.1
    · rw [E1 _ (by omega), dP] at g
      have := hn.2.2
      omega
  rw [decide_eq_false h1, bif_false, rsub_eq k (Wn_Bw hp) (Wn_Bw hr), bnd_some, f2, bnd_some, BCmp hk9 g2 BR_zero (by unfold SR; omega) (by unfold SR; omega), bnd_some, cmpI_nn]
  by_cases h2 : 0 ≤ dt (sb p r) (sb r u)
  · rw [decide_eq_true h2, bif_true]
    obtain ⟨m1, m2⟩ := sqm b3
    rw [m1]
    obtain ⟨n, e, hn⟩ := RRoot_eq (k := k) (by omega) m2 (by omega)
    rw [e, bnd_some]
    refine ⟨n, rfl, hn.1, rbd hn (by omega), ?_, fun g => ?_⟩
    · rw [E2 _ (by omega), dR]; exact hn.2.1
    · rw [E2 _ (by omega), dR] at g
      have := hn.2.2
      omega
  rw [decide_eq_false h2, bif_false]
  obtain ⟨y, ey, ry⟩ := BCross hk9 (a := sb r u) (b := sb p u) (by unfold I64; omega) (by unfold I64; omega) (by unfold I64; omega) (by unfold I64; omega)
  have ry : BR y (cr (sb r u) (sb p u)) := ry
  have lag : dt (sb p u) (sb r u) * dt (sb p u) (sb r u) + cr (sb r u) (sb p u) * cr (sb r u) (sb p u) = dt (sb p u) (sb p u) * dt (sb r u) (sb r u) := by unfold dt cr; grind
  have S0 : 0 < dt (sb r u) (sb r u) := by omega
  obtain ⟨n, e, n0, n1, n2, n3⟩ := apart_c1 (k := k) hk9 ry g3 S0 (by omega) (by omega) (by omega) 29 k 0 (by omega) (by decide) (by decide) (by decide) (by
      have := sq_nn (cr (sb r u) (sb p u))
      simp only [Int.mul_zero, Int.zero_mul]
      exact this) (by
      have x1 := sq_nn (dt (sb p u) (sb r u))
      have x2 := Int.mul_le_mul_of_nonneg_right d5.2 (show 0 ≤ dt (sb r u) (sb r u) by omega)
      have e : ((0 : Int) + 2 ^ (29 + 1)) * (0 + 2 ^ (29 + 1)) = 1152921504606846976 := by decide
      rw [e]
      omega)
  rw [ey, bnd_some, f3, bnd_some]
  have e : tourref2_apart.c1 k y c3 k 0 536870912 = some n := e
  rw [e, bnd_some]
  refine ⟨n, rfl, n0, n1, ?_, fun g => ?_⟩
  · rw [E3 _ (by omega) (by omega), cPR]; exact n2
  · rw [E3 _ (by omega) (by omega), cPR] at g
    omega

/-! The reference's distance -/
def BadP (a b : List V33) (s : Int) : Prop := s = 1099511627776 ∨ ¬ (Nr1 a b (s + 1) ∧ Nr1 b a (s + 1))
section
variable {k : Nat} {a b X Y : List V33} {v5 : Int}
theorem RApart_c3 (hk : 60 ≤ k) (hx : el ([] : List V33) (el (List.replicate 2 []) [[a, b], [b, a]] v5) 0 = X) (hy : el ([] : List V33) (el (List.replicate 2 []) [[a, b], [b, a]] v5) 1 = Y) (vX : Val X) (vY : Val Y)
    (hb : ∀ n, ¬ Nr1 X Y n → ¬ (Nr1 a b n ∧ Nr1 b a n)) {i : Int} (i0 : 0 ≤ i) (i1 : i < len X) {s : Int} (s0 : 0 ≤ s) (sb0 : BadP a b s) :
    ∃ s', tourref2_Apart.c3 k a b v5 i k s 0 = some s' ∧ 0 ≤ s' ∧ s' ≤ s ∧ BadP a b s' ∧ ∀ j, 0 ≤ j → j < len Y → NrS (sb (q Y j) (q X i)) (sb (q Y (nx (len Y) j)) (q X i)) s' := by
  have y3 := vY.1
  have y8 := vY.2.1
  obtain ⟨s', ⟨t1, t2, t3, t4⟩, e⟩ := inv_loop (fun n s v => tourref2_Apart.c3 k a b v5 i n s v) 0 (len Y) (fun s' v => 0 ≤ s' ∧ s' ≤ s ∧ BadP a b s' ∧ ∀ j, 0 ≤ j → j < v → NrS (sb (q Y j) (q X i)) (sb (q Y (nx (len Y) j)) (q X i)) s')
    (by
      intro n z v v0 v1 ⟨h1, h2, h3, h4⟩
      have hn := nx_range v0 v1
      obtain ⟨m, em, m0, m1, m2, m3⟩ := apart_eq hk (vX.2.2.1 i i0 i1) (vY.2.2.1 v v0 v1) (vY.2.2.1 _ hn.1 hn.2)
      refine ⟨imin z m, ⟨?_, ?_, ?_, ?_⟩, ?_⟩
      · unfold imin; split <;> omega
      · unfold imin; split <;> omega
      · unfold imin
        split
        · exact Or.inr (hb _ fun g => m3 (g i v i0 i1 v0 v1))
        · exact h3
      · intro j j0 j1
        by_cases c : j = v
        · subst c; exact NrS_anti (by unfold imin; split <;> omega) (by unfold imin; split <;> omega) m2
        · exact NrS_anti (by unfold imin; split <;> omega) (by unfold imin; split <;> omega) (h4 j j0 (by omega))
      · show tourref2_Apart.c3 k a b v5 i (n + 1) z v = tourref2_Apart.c3 k a b v5 i n (imin z m) (v + 1)
        rw [tourref2_Apart.c3, hx, hy, ilt_pos v1, bif_true, req_pos (inL_of v0 v1), req_pos (show nz (len Y) by unfold nz; omega), irem_nx v0 v1 (by omega), req_pos (inL_of hn.1 hn.2)]
        show bnd (tourref2_apart k (q X i) (q Y v) (q Y (nx (len Y) v))) _ = _
        rw [em, bnd_some, iadd_i64 (by omega) (by omega)])
    (by
      intro n z v v0 v1
      show tourref2_Apart.c3 k a b v5 i (n + 1) z v = some z
      rw [tourref2_Apart.c3, hy, ilt_neg v1, bif_false])
    k s 0 (by omega) (by omega) (by omega) ⟨s0, Int.le_refl _, sb0, fun j a b => by omega⟩
  exact ⟨s', e, t1, t2, t3, t4⟩
theorem RApart_c2 (hk : 60 ≤ k) (hx : el ([] : List V33) (el (List.replicate 2 []) [[a, b], [b, a]] v5) 0 = X) (hy : el ([] : List V33) (el (List.replicate 2 []) [[a, b], [b, a]] v5) 1 = Y) (vX : Val X) (vY : Val Y)
    (hb : ∀ n, ¬ Nr1 X Y n → ¬ (Nr1 a b n ∧ Nr1 b a n)) {s : Int} (s0 : 0 ≤ s) (sb0 : BadP a b s) :
    ∃ s', tourref2_Apart.c2 k a b v5 k s 0 = some s' ∧ 0 ≤ s' ∧ s' ≤ s ∧ BadP a b s' ∧ Nr1 X Y s' := by
  have x3 := vX.1
  have x8 := vX.2.1
  obtain ⟨s', ⟨t1, t2, t3, t4⟩, e⟩ := inv_loop (fun n s v => tourref2_Apart.c2 k a b v5 n s v) 0 (len X) (fun s' v => 0 ≤ s' ∧ s' ≤ s ∧ BadP a b s' ∧ ∀ i j, 0 ≤ i → i < v → 0 ≤ j → j < len Y → NrS (sb (q Y j) (q X i)) (sb (q Y (nx (len Y) j)) (q X i)) s')
    (by
      intro n z v v0 v1 ⟨h1, h2, h3, h4⟩
      obtain ⟨m, em, m0, m1, m2, m3⟩ := RApart_c3 hk hx hy vX vY hb v0 v1 h1 h3
      refine ⟨m, ⟨m0, by omega, m2, ?_⟩, ?_⟩
      · intro i j i0 i1 j0 j1
        by_cases c : i = v
        · subst c; exact m3 j j0 j1
        · exact NrS_anti m0 m1 (h4 i j i0 (by omega) j0 j1)
      · show tourref2_Apart.c2 k a b v5 (n + 1) z v = tourref2_Apart.c2 k a b v5 n m (v + 1)
        rw [tourref2_Apart.c2, hx, ilt_pos v1, bif_true, req_pos (inL_of v0 v1), em, bnd_some, iadd_i64 (by omega) (by omega)])
    (by
      intro n z v v0 v1
      show tourref2_Apart.c2 k a b v5 (n + 1) z v = some z
      rw [tourref2_Apart.c2, hx, ilt_neg v1, bif_false])
    k s 0 (by omega) (by omega) (by omega) ⟨s0, Int.le_refl _, sb0, fun i j a b => by omega⟩
  exact ⟨s', e, t1, t2, t3, fun i j i0 i1 j0 j1 => t4 i j i0 i1 j0 j1⟩
theorem Nr1_anti {m n : Int} (m0 : 0 ≤ m) (h : m ≤ n) (g : Nr1 a b n) : Nr1 a b m := fun i j i0 i1 j0 j1 => NrS_anti m0 h (g i j i0 i1 j0 j1)
theorem RApart_c1 (hk : 60 ≤ k) (va : Val a) (vb : Val b) : ∃ s, tourref2_Apart.c1 k a b k 1099511627776 0 = some s ∧ 0 ≤ s ∧ Nr1 a b s ∧ Nr1 b a s ∧ ¬ (Nr1 a b (s + 1) ∧ Nr1 b a (s + 1)) := by
  obtain ⟨s1, e1, z1, _, b1, n1⟩ := RApart_c2 (v5 := 0) hk (X := a) (Y := b) rfl rfl va vb (fun n h g => h g.1) (s := 1099511627776) (by decide) (Or.inl rfl)
  obtain ⟨s2, e2, z2, l2, b2, n2⟩ := RApart_c2 (v5 := 1) hk (X := b) (Y := a) rfl rfl vb va (fun n h g => h g.2) z1 b1
  have hl : len [[a, b], [b, a]] = 2 := rfl
  have run : ∀ f : Nat, tourref2_Apart.c1 k a b (f + 3) 1099511627776 0 = some s2 := by
    intro f
    rw [tourref2_Apart.c1, hl, ilt_pos (by decide), bif_true, req_pos (inL_of (by decide) (by rw [hl]; decide)), e1, bnd_some, iadd_i64 (by decide) (by decide)]
    show tourref2_Apart.c1 k a b (f + 2) s1 1 = _
    rw [tourref2_Apart.c1, hl, ilt_pos (by decide), bif_true, req_pos (inL_of (by decide) (by rw [hl]; decide)), e2, bnd_some, iadd_i64 (by decide) (by decide)]
    show tourref2_Apart.c1 k a b (f + 1) s2 2 = _
    rw [tourref2_Apart.c1, hl, ilt_neg (by decide), bif_false]
  have r := run (k - 3)
  rw [show k - 3 + 3 = k by omega] at r
  refine ⟨s2, r, z2, Nr1_anti z2 l2 n1, n2, ?_⟩
  rcases b2 with h | h
  · exfalso
    have a3 := va.1
    have b3 := vb.1
    have hn := nx_range (n := len b) (i := 0) (by decide) (by omega)
    obtain ⟨m, _, m0, m1, _, m3⟩ := apart_eq hk (va.2.2.1 0 (by decide) (by omega)) (vb.2.2.1 0 (by decide) (by omega)) (vb.2.2.1 _ hn.1 hn.2)
    refine m3 (NrS_anti (by omega) ?_ (Nr1_anti z2 l2 n1 0 0 (by decide) (by omega) (by decide) (by omega)))
    omega
  · exact h
end

/-! NearSays -/
theorem Minus_E {k : Nat} (hk : 20 ≤ k) {a b l : List V33} (ha : Val a) (hb : Val b) (h : near_Minus k a b = some (l, 0)) : DifE a b l := by
  obtain ⟨a3, a8, wa, ea⟩ := ha
  obtain ⟨b3, b8, wb, eb⟩ := hb
  have lb : (negl b).length = b.length := by unfold negl; simp
  have ln := len_negl b
  obtain ⟨i0, e1, hi⟩ := lowest_eq (k := k) (by omega) ea a3 a8
  obtain ⟨k0, e2, hk0⟩ := lowest_eq (k := k) (by omega) (EdgeP_negl eb) (by omega) (by omega)
  have hA := rot_Cv ea a3 hi
  have hC := rot_Cv (EdgeP_negl eb) (by omega) hk0
  obtain ⟨T, P⟩ := path hA hC
  have hle := P.le
  have la : len a = (a.length : Int) := rfl
  have lbb : len b = (b.length : Int) := rfl
  have L := merge_loop (k := k) a8 wa (by omega) (AllW_negl wb) hi.1 hk0.1 P k 0 (Nat.zero_le _) (by omega)
  have wi := wa i0 (by omega) hi.1
  have wk := AllW_negl wb k0 (by omega) hk0.1
  have r1 : rot a i0 0 = q a i0 := by unfold rot; have := hi.1; rw [if_pos (by omega)]; congr 1
  have r2 : rot (negl b) k0 0 = q (negl b) k0 := by unfold rot; have := hk0.1; rw [if_pos (by omega)]; congr 1
  have hM : Mt a.length (negl b).length (rot a i0) (rot (negl b) k0) 0 = pl (q a i0) (q (negl b) k0) := by
    show pl (rot a i0 0) (rot (negl b) k0 0) = _
    rw [r1, r2]
  have E := dif_edges ea a3 eb b3 hi hk0 (by rw [← lb]; exact P)
  rw [← lb] at E
  have run : near_Minus k a b = some (lst T (Mt a.length (negl b).length (rot a i0) (rot (negl b) k0)), 0) := by
    unfold near_Minus
    rw [Check_val (by omega) ⟨a3, a8, wa, ea⟩, bnd_some, ine_neg rfl, bif_false, Check_val (by omega) ⟨b3, b8, wb, eb⟩, bnd_some, ine_neg rfl, bif_false]
    rw [negl_eq (by omega) b8 wb, bnd_some, e1, bnd_some, e2, bnd_some, req_pos (inL_of (by omega) hi.1), req_pos (inL_of (by omega) hk0.1)]
    have x1 : iadd .i64 (el Z33 a i0).1 (el Z33 (negl b) k0).1 = (Mt a.length (negl b).length (rot a i0) (rot (negl b) k0) 0).1 := by
      rw [hM]
      unfold Wn at wi wk
      exact iadd_i64 (x := (q a i0).1) (y := (q (negl b) k0).1) (by omega) (by omega)
    have x2 : iadd .i64 (el Z33 a i0).2.1 (el Z33 (negl b) k0).2.1 = (Mt a.length (negl b).length (rot a i0) (rot (negl b) k0) 0).2.1 := by
      rw [hM]
      unfold Wn at wi wk
      exact iadd_i64 (x := (q a i0).2.1) (y := (q (negl b) k0).2.1) (by omega) (by omega)
    rw [x1, x2]
    have L : near_Minus.c2 k a (negl b) i0 k0 k 0 0 (Mt a.length (negl b).length (rot a i0) (rot (negl b) k0) 0).1 (Mt a.length (negl b).length (rot a i0) (rot (negl b) k0) 0).2.1 [] = _ := L
    rw [L, bnd_some]
  rw [run] at h
  cases h
  exact E
theorem zed_iff {a b l : List V33} (ha : Val a) (hb : Val b) (D : Dif a b l) : InP l zed ↔ MeetP a b := by
  rw [meet_iff ha.2.2.2 ha.1 hb.2.2.2 hb.1]
  constructor
  · intro z
    obtain ⟨X, Y, w, hw, h1, h2⟩ := common ha.2.2.2 hb.2.2.2 D z
    exact ⟨noSep_of hb.2.2.2 hb.1 hw h1 h2, noSep_of ha.2.2.2 ha.1 hw h2 h1⟩
  · intro ⟨n1, n2⟩
    exact D.zero n1 n2
theorem sq1 : tourlaw2_square 200 0 0 1 = some [(0, 0, ()), (65536, 0, ()), (65536, 65536, ()), (0, 65536, ())] := by kernel_rfl
theorem sq2 : tourlaw2_square 200 4 5 1 = some [(262144, 327680, ()), (327680, 327680, ()), (327680, 393216, ()), (262144, 393216, ())] := by kernel_rfl
theorem sq3 : near_Apart 200 [(0, 0, ()), (65536, 0, ()), (65536, 65536, ()), (0, 65536, ())] [(262144, 327680, ()), (327680, 327680, ()), (327680, 393216, ()), (262144, 393216, ())] = some (327680, 0) := by kernel_rfl
theorem NearSays_c1 : tourlaw2_NearSays.c1 200 (327680, 0) = some false := by kernel_rfl
open Classical in
theorem NearSays_true (a b : List V33) : tourlaw2_NearSays 200 a b = some true := by
  have hk : 9 ≤ 200 := by decide
  obtain ⟨ea, c1, c2⟩ := Check_eq hk a
  obtain ⟨eb, d1, d2⟩ := Check_eq hk b
  obtain ⟨ea', p1, p2⟩ := Poly_eq hk a
  obtain ⟨eb', r1, r2⟩ := Poly_eq hk b
  have := Chk_uniq p2 c2
  subst this
  have := Chk_uniq r2 d2
  subst this
  unfold tourlaw2_NearSays
  rw [sq1, bnd_some, sq2, bnd_some, sq3, bnd_some, NearSays_c1, bnd_some, bif_false]
  have bad : ∀ e, e ≠ 0 → near_Minus 200 a b = some ([], e) → tourref2_Two 200 a b = some e → (bnd (near_Minus 200 a b) fun y11 =>
     bnd (near_Meet 200 a b) fun y13 =>
     bnd (near_Apart 200 a b) fun y15 =>
     bnd (tourref2_Two 200 a b) fun y17 =>
     bif' (ine y17 0)
     (bnd (tourlaw2_NearSays.c2 200 y11 y13 y15 y17) fun o25 =>
      some o25)
     (bif' (ieq y11.2 0)
      (bif' (ieq y13.2 0)
       (bif' (ieq y15.2 0)
        (bnd (tourref2_Minus 200 a b) fun y30 =>
         bnd (slices_Equal 200 y11.1 y30) fun y32 =>
         bif' y32
         (bnd (tourref2_Meet 200 a b) fun y35 =>
          bif' (Ty.eqb T4 y13.1 y35)
          (bnd (tourref2_Apart 200 a b) fun y38 =>
           some (ieq y15.1 y38))
          (some false))
         (some false))
        (some false))
       (some false))
      (some false))) = some true := by
    intro e he h1 h2
    have hm : near_Meet 200 a b = some (false, e) := by
      unfold near_Meet
      rw [h1, bnd_some, ine_pos he, bif_true]
    have hA : near_Apart 200 a b = some (0, e) := by
      unfold near_Apart
      rw [h1, bnd_some, ine_pos he, bif_true]
    rw [h1, bnd_some, hm, bnd_some, hA, bnd_some, h2, bnd_some, ine_pos he, bif_true]
    have c2 : tourlaw2_NearSays.c2 200 ([], e) (false, e) (0, e) e = some true := by
      unfold tourlaw2_NearSays.c2
      dsimp only
      rw [ieq_pos rfl, bif_true, bif_true, bif_true]
      rfl
    rw [c2, bnd_some]
  by_cases a0 : ea' = 0
  · by_cases b0 : eb' = 0
    · subst a0 b0
      have va := Chk_zero c2
      have vb := Chk_zero d2
      obtain ⟨l, e1, D, hl⟩ := Minus_dif (k := 200) (by decide) va vb
      have E := Minus_E (k := 200) (by decide) va vb e1
      obtain ⟨m, e2, hm⟩ := NMeet_eq (k := 200) (by decide) va vb e1 D
      obtain ⟨n, e3, n0, n1, nA, nB⟩ := NApart_eq (k := 200) (by decide) va vb e1 D
      have e4 : tourref2_Two 200 a b = some 0 := by
        unfold tourref2_Two
        rw [p1, bnd_some, ine_neg rfl, bif_false, r1, bnd_some]
      have e5 := RMinus_eq (k := 200) (by decide) va vb D hl
      have e6 := Meet_eq (k := 200) (by decide) va vb
      have mm : m = decide (MeetP a b) := by
        by_cases h : MeetP a b
        · rw [decide_eq_true h]; exact hm.2 ((zed_iff va vb D).2 h)
        · rw [decide_eq_false h]
          cases m with
          | false => rfl
          | true => exact absurd ((zed_iff va vb D).1 (hm.1 rfl)) h
      have e7 : tourref2_Apart 200 a b = some n := by
        unfold tourref2_Apart
        rw [e6, bnd_some]
        by_cases h : MeetP a b
        · rw [decide_eq_true h, bif_true, NrL_in ((zed_iff va vb D).2 h) n0 nA]
        · have hz : ¬ InP l zed := fun g => h ((zed_iff va vb D).1 g)
          obtain ⟨s, f1, s0, f2, f3, f4⟩ := RApart_c1 (k := 200) (by decide) va vb
          rw [decide_eq_false h, bif_false, f1, bnd_some]
          congr 1
          exact NrL_uniq s0 n0 ((NrL_pair D E hz).2 ⟨f2, f3⟩) (fun g => f4 ((NrL_pair D E hz).1 g)) nA nB
      have l3 := D.len3
      have ll := D.le
      have a8 := va.2.1
      have b8 := vb.2.1
      have ln : len l = (l.length : Int) := rfl
      rw [e1, bnd_some, e2, bnd_some, e3, bnd_some, e4, bnd_some, ine_neg rfl, bif_false]
      dsimp only
      rw [ieq_pos rfl, bif_true, bif_true, bif_true, e5, bnd_some, sEqual_self (by omega) (by omega), bnd_some, bif_true, e6, bnd_some, mm]
      refine (congrArg (fun x => bif' x _ _) (show Ty.eqb T4 (decide (MeetP a b)) (decide (MeetP a b)) = true from beq_self_eq_true _)).trans ?_
      rw [bif_true, e7, bnd_some, ieq_pos rfl]
    · subst a0
      refine bad eb' b0 ?_ ?_
      · unfold near_Minus
        rw [c1, bnd_some, ine_neg rfl, bif_false, d1, bnd_some, ine_pos b0, bif_true]
      · unfold tourref2_Two
        rw [p1, bnd_some, ine_neg rfl, bif_false, r1, bnd_some]
  · refine bad ea' a0 ?_ ?_
    · unfold near_Minus
      rw [c1, bnd_some, ine_pos a0, bif_true]
    · unfold tourref2_Two
      rw [p1, bnd_some, ine_pos a0, bif_true]
theorem tourlaw2_NearSays_plain (x : ((.pair T22 (.pair T22 .unit)) : Ty).den) (_ : Ty.wf (.pair T22 (.pair T22 .unit)) x) : ∃ k, (tourlaw2_NearSays.sp k).f x = some true :=
  by
  have h := NearSays_true x.1 x.2.1
  obtain ⟨K, hK⟩ : ∃ K : Nat, K = 200 := ⟨_, rfl⟩
  rw [← hK] at h
  exact ⟨K, h⟩
end Go.Proofs.T1
