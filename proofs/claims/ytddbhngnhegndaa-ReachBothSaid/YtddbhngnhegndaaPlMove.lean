/-
  Plain laws: no program in sight.
-/
import Derived.Test.YtddbhngnhegndaaPlSat0
import Derived.Test.YtddbhngnhegndaaG5
namespace Go.Proofs.T1
open Go Go.Sx
theorem eqb24 (a b : V28) : Ty.eqb T28 a b = decide (a = b) := by
  obtain ⟨a1, a2, u⟩ := a
  obtain ⟨b1, b2, u'⟩ := b
  show (ieq a1 b1 && (ieq a2 b2 && true)) = _
  by_cases h1 : a1 = b1
  · by_cases h2 : a2 = b2
    · rw [ieq_pos h1, ieq_pos h2]; subst h1 h2; exact (decide_eq_true rfl).symm
    · rw [ieq_pos h1, ieq_neg h2]; exact (decide_eq_false (fun h => h2 (congrArg (fun v => v.2.1) h))).symm
  · rw [ieq_neg h1]; exact (decide_eq_false (fun h => h1 (congrArg Prod.fst h))).symm
theorem eqb24_self (a : V28) : Ty.eqb T28 a a = true := by rw [eqb24]; exact decide_eq_true rfl
end Go.Proofs.T1
namespace Go.Proofs.T1
open Go Go.Sx

theorem tests_eq : tourkeep2_tests 80 = some true := by kernel_rfl

/-! Polygons that are moved together -/
theorem dp_shift {a b : List V28} (p : V28) (b0 : 0 < len b) {i : Int} (i0 : 0 ≤ i) (i1 : i < len a) : dp (shift a p) (shift b p) i = dp a b i := by
  have hl : (shift b p).length = b.length := by unfold shift; simp
  unfold dp
  rw [hl]
  refine mxf_congr _ fun j hj => ?_
  unfold dpf
  have hn := nx_range i0 i1
  rw [len_shift, q_shift i0 i1, q_shift hn.1 hn.2, q_shift (i := (j : Int)) (by omega) (by unfold len at *; omega), tri_shift]
theorem outw_shift {a : List V28} (p : V28) {i : Int} (i0 : 0 ≤ i) (i1 : i < len a) : outw (shift a p) i = outw a i := by
  have hn := nx_range i0 i1
  unfold outw
  rw [len_shift, q_shift i0 i1, q_shift hn.1 hn.2]
  refine v_ext ?_ ?_ <;> dsimp only <;> omega
theorem wt_shift {a b : List V28} (p : V28) (b0 : 0 < len b) {i : Int} (i0 : 0 ≤ i) (i1 : i < len a) : wt (shift a p) (shift b p) i = wt a b i := by
  unfold wt lenN
  rw [dp_shift p b0 i0 i1, outw_shift p i0 i1]
theorem NoSep_shift {a b : List V28} (p : V28) (b0 : 0 < len b) : NoSep (shift a p) (shift b p) ↔ NoSep a b := by
  rw [NoSep_dp (by rw [len_shift]; exact b0), NoSep_dp b0, len_shift]
  exact ⟨fun h i i0 i1 => by rw [← dp_shift p b0 i0 i1]; exact h i i0 i1, fun h i i0 i1 => by rw [dp_shift p b0 i0 i1]; exact h i i0 i1⟩
theorem PB_congr {a b a' b' : List V28} {na nb : Int} (ha : ∀ i, 0 ≤ i → i < na → wt a' b' i = wt a b i) (hb : ∀ i, 0 ≤ i → i < nb → wt b' a' i = wt b a i) {s : Bool} {e d : Int} (h : PB a b na nb s e d) : PB a' b' na nb s e d := by
  rcases h with ⟨h1, h2, h3, h4, h5, h6, h7⟩ | ⟨h1, h2, h3, h4, h5, h6, h7⟩
  · exact Or.inl ⟨h1, h2, h3, by rw [ha e h2 h3]; exact h4, fun i i0 i1 => by rw [ha i i0 (by omega)]; exact h5 i i0 i1, fun i i0 i1 => by rw [ha i (by omega) i1]; exact h6 i i0 i1, fun i i0 i1 => by rw [hb i i0 i1]; exact h7 i i0 i1⟩
  · exact Or.inr ⟨h1, h2, h3, by rw [hb e h2 h3]; exact h4, fun i i0 i1 => by rw [hb i i0 (by omega)]; exact h5 i i0 i1, fun i i0 i1 => by rw [hb i (by omega) i1]; exact h6 i i0 i1, fun i i0 i1 => by rw [ha i i0 i1]; exact h7 i i0 i1⟩
theorem Test_shift {k : Nat} (hk : 70 ≤ k) {a b : List V28} (ha : Val a) (hb : Val b) (p : V28) (ha' : Val (shift a p)) (hb' : Val (shift b p)) : ∃ y, sat_Test k a b = some y ∧ sat_Test k (shift a p) (shift b p) = some y := by
  have a0 : 0 < len a := by have := ha.1; omega
  have b0 : 0 < len b := by have := hb.1; omega
  have ns : (NoSep (shift a p) (shift b p) ∧ NoSep (shift b p) (shift a p)) ↔ (NoSep a b ∧ NoSep b a) := by rw [NoSep_shift p b0, NoSep_shift p a0]
  rcases Test_eq hk ha hb with ⟨n, e⟩ | ⟨n, s, e, d, u, h, pb, hu⟩ <;> rcases Test_eq hk ha' hb' with ⟨n', e'⟩ | ⟨n', s', e', d', u', h', pb', hu'⟩
  · exact ⟨_, e, e'⟩
  · exact absurd (ns.1 n') n
  · exact absurd (ns.2 n) n'
  · rw [len_shift, len_shift] at pb'
    have pb2 := PB_congr (a' := shift a p) (b' := shift b p) (fun i i0 i1 => wt_shift p b0 i0 i1) (fun i i0 i1 => wt_shift p a0 i0 i1) pb
    obtain ⟨r1, r2, r3⟩ := PB_uniq pb' pb2
    subst r1 r2 r3
    have rg := PB_range pb
    have w : wayV (shift a p) (shift b p) s' e' = wayV a b s' e' := by
      unfold wayV
      cases s' with
      | false => rw [if_neg (by decide), if_neg (by decide), outw_shift p (rg.1 rfl).1 (rg.1 rfl).2]
      | true => rw [if_pos rfl, if_pos rfl, outw_shift p (rg.2 rfl).1 (rg.2 rfl).2]
    rw [w, hu] at hu'
    cases hu'
    exact ⟨_, h, h'⟩
theorem made_pair (k : Nat) (hk : 9 ≤ k) (a b : List Int) (x y : Int) : ∃ l m p, tourkeep2_pair k a b x y = some (l, shift m p) ∧ Made l ∧ Made m ∧ (-786432 ≤ p.1 ∧ p.1 ≤ 786431 ∧ -786432 ≤ p.2.1 ∧ p.2.1 ≤ 786431) := by
  obtain ⟨l, e1, hl⟩ := Poly_made k a
  obtain ⟨m, e2, hm⟩ := Poly_made k b
  obtain ⟨p, e3, p1, p2, p3, p4⟩ := place_eq k x y
  have hv := Made_val hm
  refine ⟨l, m, p, ?_, hl, hm, p1, p2, p3, p4⟩
  unfold tourkeep2_pair
  rw [e1, bnd_some, e2, bnd_some, e3, bnd_some, moved_eq (p := p) hk hv.2.1 hv.2.2.1 (by unfold Wn; omega), bnd_some]
theorem Made_shift {m : List V28} (hm : Made m) {p : V28} (h : -2000000 ≤ p.1 ∧ p.1 ≤ 2000000 ∧ -2000000 ≤ p.2.1 ∧ p.2.1 ≤ 2000000) : Val (shift m p) := by
  refine Val_shift (Made_val hm) fun i h0 h1 => ?_
  rw [len_shift] at h1
  have := hm.2.2.1 i h0 h1
  rw [q_shift h0 h1]
  unfold Wn
  dsimp only
  omega
theorem shift_shift (l : List V28) (p r : V28) : shift (shift l p) r = shift l (pl p r) := by
  unfold shift
  rw [List.map_map]
  congr 1
  funext a
  exact v_ext (by show a.1 + p.1 + r.1 = a.1 + (p.1 + r.1); omega) (by show a.2.1 + p.2.1 + r.2.1 = a.2.1 + (p.2.1 + r.2.1); omega)
end Go.Proofs.T1
