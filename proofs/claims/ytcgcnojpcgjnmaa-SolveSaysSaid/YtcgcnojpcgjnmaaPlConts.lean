/-
  Plain laws: no program in sight.
-/
import Derived.Test.YtcgcnojpcgjnmaaPlPairs
namespace Go.Proofs.T1
open Go Go.Sx

/-! Contacts: their check, their rows, a round -/
def P1 (nb : Int) (x : V78) : Prop := 0 ≤ x.1 ∧ x.1 < x.2.1 ∧ x.2.1 < nb ∧ 0 ≤ x.2.2.1
def P2 (x : V78) : Prop := Bd x.2.2.2.1 65536000 ∧ Bd x.2.2.2.2.1 65536
def P3 (x : V78) : Prop := (0 ≤ x.2.2.2.2.2.1 ∧ x.2.2.2.2.2.1 ≤ 65536000) ∧ (0 ≤ x.2.2.2.2.2.2.1 ∧ x.2.2.2.2.2.2.1 ≤ 1099511627776) ∧ (-1099511627776 ≤ x.2.2.2.2.2.2.2.1 ∧ x.2.2.2.2.2.2.2.1 ≤ 1099511627776)
instance (nb : Int) (x : V78) : Decidable (P1 nb x) := by unfold P1; infer_instance
instance (x : V78) : Decidable (P2 x) := by unfold P2; infer_instance
instance (x : V78) : Decidable (P3 x) := by unfold P3; infer_instance
theorem sin_gen (k : Nat) (n a b : Int) : solve_Check_1 k n a b = some (decide (a ≤ n ∧ n ≤ b)) := by
  unfold solve_Check_1
  by_cases h : n ≥ a
  · rw [ige_pos h, bif_true]
    unfold ile
    congr 1
    rw [decide_eq_decide]
    exact ⟨fun x => ⟨h, x⟩, fun x => x.2⟩
  · rw [ige_neg (by omega), bif_false, decide_eq_false (fun x => h x.1)]
theorem btw_gen (k : Nat) (n a b : Int) : tourref2_between k n a b = some (decide (a ≤ n ∧ n ≤ b)) := sin_gen k n a b
theorem SC_c2 (k : Nat) {l : List V25} (hl : len l ≤ 64) (c : List V78) (v : Int) : solve_Check.c2 k l c v = some (!decide (P1 (len l) (el Z78 c v))) := by
  have h0 : (0 : Int) ≤ len l := by unfold len; omega
  unfold solve_Check.c2
  generalize el Z78 c v = x
  rw [isub_i64 (by omega) (by omega), sin_gen, bnd_some, sin_gen]
  by_cases a : 0 ≤ x.1 ∧ x.1 ≤ len l - 1
  · rw [decide_eq_true a, bif_true, bnd_some]
    by_cases b : 0 ≤ x.2.1 ∧ x.2.1 ≤ len l - 1
    · rw [decide_eq_true b, bif_true]
      by_cases d : x.1 ≥ x.2.1
      · rw [ige_pos d, bif_true, decide_eq_false (by unfold P1; omega)]; rfl
      · rw [ige_neg (by omega), bif_false]
        unfold ilt
        by_cases e : x.2.2.1 < 0
        · rw [decide_eq_true e, decide_eq_false (by unfold P1; omega)]; rfl
        · rw [decide_eq_false e, decide_eq_true (by unfold P1; omega)]; rfl
    · rw [decide_eq_false b, bif_false, decide_eq_false (by unfold P1; omega)]; rfl
  · rw [decide_eq_false a, bif_false, decide_eq_false (by unfold P1; omega)]; rfl
theorem SC_c3 (k : Nat) (c : List V78) (v : Int) : solve_Check.c3 k c v = some (!decide (P2 (el Z78 c v))) := by
  unfold solve_Check.c3
  generalize el Z78 c v = x
  simp only [sin_gen, bnd_some]
  by_cases a : -65536000 ≤ x.2.2.2.1.1 ∧ x.2.2.2.1.1 ≤ 65536000
  · rw [decide_eq_true a, bif_true]
    by_cases b : -65536000 ≤ x.2.2.2.1.2.1 ∧ x.2.2.2.1.2.1 ≤ 65536000
    · rw [decide_eq_true b, bif_true]
      by_cases d : -65536 ≤ x.2.2.2.2.1.1 ∧ x.2.2.2.2.1.1 ≤ 65536
      · rw [decide_eq_true d, bif_true]
        congr 2
        rw [decide_eq_decide]
        exact ⟨fun e => ⟨⟨a.1, a.2, b.1, b.2⟩, d.1, d.2, e.1, e.2⟩, fun e => e.2.2.2⟩
      · rw [decide_eq_false d, bif_false, decide_eq_false (fun e => d ⟨e.2.1, e.2.2.1⟩)]; rfl
    · rw [decide_eq_false b, bif_false, decide_eq_false (fun e => b e.1.2.2)]; rfl
  · rw [decide_eq_false a, bif_false, decide_eq_false (fun e => a ⟨e.1.1, e.1.2.1⟩)]; rfl
theorem SC_c4 (k : Nat) (c : List V78) (v : Int) : solve_Check.c4 k c v = some (!decide (P3 (el Z78 c v))) := by
  unfold solve_Check.c4
  generalize el Z78 c v = x
  simp only [sin_gen, bnd_some]
  by_cases a : 0 ≤ x.2.2.2.2.2.1 ∧ x.2.2.2.2.2.1 ≤ 65536000
  · rw [decide_eq_true a, bif_true]
    by_cases b : 0 ≤ x.2.2.2.2.2.2.1 ∧ x.2.2.2.2.2.2.1 ≤ 1099511627776
    · rw [decide_eq_true b, bif_true]
      congr 2
      rw [decide_eq_decide]
      exact ⟨fun e => ⟨a, b, e⟩, fun e => e.2.2⟩
    · rw [decide_eq_false b, bif_false, decide_eq_false (fun e => b e.2.1)]; rfl
  · rw [decide_eq_false a, bif_false, decide_eq_false (fun e => a e.1)]; rfl
theorem RC_c2 (k : Nat) (l : List V25) (c : List V78) (v : Int) : tourref2_Contacts.c2 k l c v = some (decide (P1 (len l) (el Z78 c v))) := by
  unfold tourref2_Contacts.c2
  generalize el Z78 c v = x
  by_cases a : x.1 ≥ 0
  · rw [ige_pos a, bif_true]
    by_cases b : x.1 < x.2.1
    · rw [ilt_pos b, bif_true]
      by_cases d : x.2.1 < len l
      · rw [ilt_pos d, bif_true]
        unfold ige
        congr 1
        rw [decide_eq_decide]
        exact ⟨fun e => ⟨a, b, d, e⟩, fun e => e.2.2.2⟩
      · rw [ilt_neg (by omega), bif_false, decide_eq_false (fun e => d e.2.2.1)]
    · rw [ilt_neg (by omega), bif_false, decide_eq_false (fun e => b e.2.1)]
  · rw [ige_neg (by omega), bif_false, decide_eq_false (fun e => a e.1)]
theorem RC_c3 (k : Nat) (c : List V78) (o : Bool) (v : Int) : tourref2_Contacts.c3 k c o v = some (o && decide (P2 (el Z78 c v))) := by
  unfold tourref2_Contacts.c3
  cases o with
  | false => rfl
  | true =>
    rw [bif_true, coord_eq k _ _ (by decide) (by decide), bnd_some, coord_eq k _ _ (by decide) (by decide), Bool.true_and]
    generalize el Z78 c v = x
    have e1 : (-65536000 ≤ x.2.2.2.1.1 ∧ x.2.2.2.1.1 ≤ 65536000 ∧ -65536000 ≤ x.2.2.2.1.2.1 ∧ x.2.2.2.1.2.1 ≤ 65536000) = Bd x.2.2.2.1 65536000 := rfl
    by_cases a : Bd x.2.2.2.1 65536000
    · rw [decide_eq_true (show (-65536000 ≤ x.2.2.2.1.1 ∧ x.2.2.2.1.1 ≤ 65536000 ∧ -65536000 ≤ x.2.2.2.1.2.1 ∧ x.2.2.2.1.2.1 ≤ 65536000) from a), bif_true, bnd_some]
      congr 1
      rw [decide_eq_decide]
      exact ⟨fun e => ⟨a, e⟩, fun e => e.2⟩
    · rw [decide_eq_false (show ¬ (-65536000 ≤ x.2.2.2.1.1 ∧ x.2.2.2.1.1 ≤ 65536000 ∧ -65536000 ≤ x.2.2.2.1.2.1 ∧ x.2.2.2.1.2.1 ≤ 65536000) from a), bif_false, decide_eq_false (fun e => a e.1)]
theorem RC_c4 (k : Nat) (c : List V78) (o : Bool) (v : Int) : tourref2_Contacts.c4 k c o v = some (o && decide (P3 (el Z78 c v))) := by
  unfold tourref2_Contacts.c4
  cases o with
  | false => rfl
  | true =>
    rw [bif_true, Bool.true_and]
    simp only [btw_gen, bnd_some]
    generalize el Z78 c v = x
    by_cases a : 0 ≤ x.2.2.2.2.2.1 ∧ x.2.2.2.2.2.1 ≤ 65536000
    · rw [decide_eq_true a, bif_true]
      by_cases b : 0 ≤ x.2.2.2.2.2.2.1 ∧ x.2.2.2.2.2.2.1 ≤ 1099511627776
      · rw [decide_eq_true b, bif_true]
        congr 1
        rw [decide_eq_decide]
        exact ⟨fun e => ⟨a, b, e⟩, fun e => e.2.2⟩
      · rw [decide_eq_false b, bif_false, decide_eq_false (fun e => b e.2.1)]
    · rw [decide_eq_false a, bif_false, decide_eq_false (fun e => a e.1)]
def CVx (nb : Int) (x : V78) : Prop := P1 nb x ∧ P2 x ∧ P3 x
instance (nb : Int) (x : V78) : Decidable (CVx nb x) := by unfold CVx; infer_instance
theorem ccheck {k : Nat} (hk : 9 ≤ k) (hk' : 5000 < k) (l : List V25) (c : List V78) : ∃ e, solve_Check k l c = some e ∧ tourref2_Contacts k l c = some e ∧
    (e = 0 → (AllK k l ∧ len l ≤ 64) ∧ len c ≤ 4096 ∧ ∀ j, 0 ≤ j → j < len c → CVx (len l) (el Z78 c j)) := by
  obtain ⟨e, e1, e2, e3⟩ := kcheck hk (by omega) l
  unfold solve_Check tourref2_Contacts
  rw [e1, e2, bnd_some, bnd_some]
  by_cases h0 : e = 0
  · obtain ⟨hA, hl⟩ := e3 h0
    rw [ine_neg h0, bif_false, bif_false]
    by_cases hc : 4096 < len c
    · rw [igt_pos hc, bif_true, bif_true]
      exact ⟨2, rfl, rfl, fun h => absurd h (by decide)⟩
    · rw [igt_neg (by omega), bif_false, bif_false]
      have sp : ∀ n v, 0 ≤ v → v < len c → solve_Check.c1 k l c (n + 1) v = if CVx (len l) (el Z78 c v) then solve_Check.c1 k l c n (v + 1) else some (.inl ()) := by
        intro n v v0 v1
        rw [solve_Check.c1, ilt_pos v1, bif_true, req_pos (inL_of v0 v1), SC_c2 k hl, SC_c3, SC_c4, bnd_some]
        by_cases a : P1 (len l) (el Z78 c v)
        · rw [decide_eq_true a, Bool.not_true, bif_false, bnd_some]
          by_cases b : P2 (el Z78 c v)
          · rw [decide_eq_true b, Bool.not_true, bif_false, bnd_some]
            by_cases d : P3 (el Z78 c v)
            · rw [decide_eq_true d, Bool.not_true, bif_false, if_pos ⟨a, b, d⟩, iadd_i64 (by omega) (by omega)]
            · rw [decide_eq_false d, Bool.not_false, bif_true, if_neg (fun h => d h.2.2)]
          · rw [decide_eq_false b, Bool.not_false, bif_true, if_neg (fun h => b h.2.1)]
        · rw [decide_eq_false a, Bool.not_false, bif_true, if_neg (fun h => a h.1)]
      have sr : ∀ n v, 0 ≤ v → v < len c → tourref2_Contacts.c1 k l c (n + 1) v = if CVx (len l) (el Z78 c v) then tourref2_Contacts.c1 k l c n (v + 1) else some (.inl ()) := by
        intro n v v0 v1
        rw [tourref2_Contacts.c1, ilt_pos v1, bif_true, req_pos (inL_of v0 v1), RC_c2, bnd_some, RC_c3, bnd_some, RC_c4, bnd_some]
        by_cases a : P1 (len l) (el Z78 c v)
        · by_cases b : P2 (el Z78 c v)
          · by_cases d : P3 (el Z78 c v)
            · rw [decide_eq_true a, decide_eq_true b, decide_eq_true d, if_pos ⟨a, b, d⟩, iadd_i64 (by omega) (by omega)]
              rfl
            · rw [decide_eq_false d, Bool.and_false, bif_false, if_neg (fun h => d h.2.2)]
          · rw [decide_eq_false b, Bool.and_false, Bool.false_and, bif_false, if_neg (fun h => b h.2.1)]
        · rw [decide_eq_false a, Bool.false_and, Bool.false_and, bif_false, if_neg (fun h => a h.1)]
      have same : ∀ n v, 0 ≤ v → solve_Check.c1 k l c n v = tourref2_Contacts.c1 k l c n v := by
        intro n
        induction n with
        | zero => intro v _; rfl
        | succ n ih =>
          intro v v0
          by_cases d : v < len c
          · rw [sp n v v0 d, sr n v v0 d, ih (v + 1) (by omega)]
          · rw [solve_Check.c1, tourref2_Contacts.c1, ilt_neg (by omega), bif_false, bif_false]
      rw [← same k 0 (by omega)]
      rcases find_any (fun n v => solve_Check.c1 k l c n v) (len c) (fun v => if CVx (len l) (el Z78 c v) then none else some ())
        (by
          intro n v a b
          show solve_Check.c1 k l c (n + 1) v = _
          rw [sp n v a b]
          by_cases d : CVx (len l) (el Z78 c v)
          · simp [d]
          · simp [d])
        (by
          intro n v a b
          show solve_Check.c1 k l c (n + 1) v = _
          rw [solve_Check.c1, ilt_neg b, bif_false]) k 0 (by omega) (by unfold len; omega) (by omega) with ⟨j, y, a, b, d, f⟩ | ⟨a, b⟩
      · have f : solve_Check.c1 k l c k 0 = some (.inl y) := f
        rw [f, bnd_some, two_inl]
        exact ⟨1, rfl, rfl, fun h => absurd h (by decide)⟩
      · have b : solve_Check.c1 k l c k 0 = some (.inr ()) := b
        rw [b, bnd_some, two_inr]
        refine ⟨0, rfl, rfl, fun _ => ⟨⟨hA, hl⟩, by omega, fun j j0 j1 => ?_⟩⟩
        have d := a j j0 j1
        by_cases z : CVx (len l) (el Z78 c j)
        · exact z
        · simp [z] at d
  · rw [ine_pos h0, bif_true, bif_true]
    exact ⟨e, rfl, rfl, fun h => absurd h h0⟩
theorem speed_both {k : Nat} (hk : 9 ≤ k) {bs : List V25} (hb : AllK k bs) (x : V78) (cs : List V78) (rs : List V145) (A0 : 0 ≤ x.1) (A1 : x.1 < len bs) (B0 : 0 ≤ x.2.1) (B1 : x.2.1 < len bs) :
    ∃ s, solve_solver_speed_h_2 k x bs cs rs = some s ∧ ∀ n, ∃ d, vec_Dot k s n = some d ∧ tourref2_along k bs x.1 x.2.1 x.2.2.2.1 x.2.2.2.1 n = some d := by
  obtain ⟨s, s1, s2⟩ := at_both hk _ (hb x.2.1 B0 B1) x.2.2.2.1
  obtain ⟨t, t1, t2⟩ := at_both hk _ (hb x.1 A0 A1) x.2.2.2.1
  obtain ⟨w, hw⟩ := vsub_tot k s t
  refine ⟨w, ?_, fun n => ?_⟩
  · unfold solve_solver_speed_h_2
    rw [req_pos (inL_of B0 B1), s1, bnd_some, req_pos (inL_of A0 A1), t1, bnd_some, hw, bnd_some]
  · obtain ⟨d, hd⟩ := vdot_tot (k := k) (by omega) w n
    refine ⟨d, hd, ?_⟩
    unfold tourref2_along
    rw [req_pos (inL_of B0 B1), s2, bnd_some, req_pos (inL_of A0 A1), t2, bnd_some, hw, bnd_some, hd, bnd_some]
theorem pushl_both {k : Nat} (hk : 9 ≤ k) {bs : List V25} (hb : AllK k bs) (x : V78) (j : V22) (cs : List V78) (rs : List V145) (A0 : 0 ≤ x.1) (A1 : x.1 < len bs) (B0 : 0 ≤ x.2.1) (B1 : x.2.1 < len bs) :
    ∃ bs', solve_solver_push k x j bs cs rs = some bs' ∧ tourref2_pushed k x.1 x.2.1 x.2.2.2.1 x.2.2.2.1 j bs = some bs' ∧ AllK k bs' ∧ len bs' = len bs := by
  obtain ⟨b1, p1, q1, o1⟩ := push_both hk _ (hb x.1 A0 A1) ((ineg .i64 j.1), (ineg .i64 j.2.1), ()) x.2.2.2.1
  have h1 := AllK_set hb A0 A1 o1
  have l1 : len (st bs x.1 b1) = len bs := len_set ..
  obtain ⟨b2, p2, q2, o2⟩ := push_both hk _ (h1 x.2.1 B0 (by omega)) j x.2.2.2.1
  refine ⟨st (st bs x.1 b1) x.2.1 b2, ?_, ?_, AllK_set h1 B0 (by omega) o2, by rw [len_set, l1]⟩
  · unfold solve_solver_push
    rw [req_pos (inL_of A0 A1), p1, bnd_some, req_pos (inL_of B0 (by omega)), p2, bnd_some]
  · unfold tourref2_pushed
    rw [req_pos (inL_of A0 A1), q1, bnd_some, req_pos (inL_of B0 (by omega)), q2, bnd_some]
def RB (x : V78) (r : V145) (u : V164) : Prop := u = (x.2.2.2.2.1, r.1, r.2.1, r.2.2.1, r.2.2.2.1, r.2.2.2.2.1, ()) ∧ (0 ≤ r.2.1 ∧ r.2.1 ≤ 1099511627776) ∧ (0 ≤ r.2.2.1 ∧ r.2.2.1 ≤ 1099511627776) ∧ (0 ≤ r.2.2.2.2.1 ∧ r.2.2.2.2.1 ≤ 65536)
theorem row_both {k : Nat} (hk : 9 ≤ k) {bs : List V25} (hb : AllK k bs) {cs : List V78} {v : Int} (v0 : 0 ≤ v) (v1 : v < len cs) (hc : len cs ≤ 4096) (hx : CVx (len bs) (el Z78 cs v)) {step : Int} (s0 : 1 ≤ step) (s1 : step ≤ 65536) {us : List V164} (hu : len us = v) (cs' : List V78) (rs : List V145) :
    ∃ r u, solve_solver_row_2 k (el Z78 cs v) step bs cs' rs = some r ∧ (∀ n, tourref2_Solve.c1 k cs step bs (n + 1) v us = tourref2_Solve.c1 k cs step bs n (v + 1) (us ++ [u])) ∧ RB (el Z78 cs v) r u := by
  obtain ⟨⟨A0, AB, B1, _⟩, _, ⟨D0, D1⟩, _⟩ := hx
  have go : ∀ n, tourref2_Solve.c1 k cs step bs (n + 1) v us = bif' true (tourref2_Solve.c1 k cs step bs (n + 1) v us) none := fun _ => rfl
  have c2 : tourref2_Solve.c2 k cs v bs = some (imin (el Z25 bs (el Z78 cs v).1).2.2.2.2.2.2.2.1 (el Z25 bs (el Z78 cs v).2.1).2.2.2.2.2.2.2.1) := by
    unfold tourref2_Solve.c2 imin
    by_cases h : (el Z25 bs (el Z78 cs v).2.1).2.2.2.2.2.2.2.1 < (el Z25 bs (el Z78 cs v).1).2.2.2.2.2.2.2.1
    · rw [ilt_pos h, bif_true]
      split <;> first | rfl | (congr 1; omega)
    · rw [ilt_neg (by omega), bif_false]
      split <;> first | rfl | (congr 1; omega)
  have c3 : tourref2_Solve.c3 k cs v = some (imax 0 (isub .i64 (el Z78 cs v).2.2.2.2.2.1 512)) := by
    unfold tourref2_Solve.c3 imax
    by_cases h : isub .i64 (el Z78 cs v).2.2.2.2.2.1 512 < 0
    · rw [ilt_pos h, bif_true]
      split <;> first | rfl | (congr 1; omega)
    · rw [ilt_neg (by omega), bif_false]
      split <;> first | rfl | (congr 1; omega)
  generalize hxx : el Z78 cs v = x at *
  have hA := hb x.1 A0 (by omega)
  have hB := hb x.2.1 (by omega) B1
  obtain ⟨y3, a1, a2, a3, a4⟩ := ease_both hk _ hA x.2.2.2.1 x.2.2.2.2.1
  obtain ⟨y5, b1, b2, b3, b4⟩ := ease_both hk _ hB x.2.2.2.1 x.2.2.2.2.1
  obtain ⟨y7, d1, d2, d3⟩ := add_nn k a3 b3
  obtain ⟨y9, f1, f2, f3, f4⟩ := ease_both hk _ hA x.2.2.2.1 ((ineg .i64 x.2.2.2.2.1.2.1), x.2.2.2.2.1.1, ())
  obtain ⟨y11, g1, g2, g3, g4⟩ := ease_both hk _ hB x.2.2.2.1 ((ineg .i64 x.2.2.2.2.1.2.1), x.2.2.2.2.1.1, ())
  obtain ⟨y13, i1, i2, i3⟩ := add_nn k f3 g3
  have oq : ∀ a n, tourref2_quotient k a n = body_over k a n := fun _ _ => rfl
  have os : ∀ a n, solve_over k a n = body_over k a n := fun _ _ => rfl
  obtain ⟨y15, m1⟩ : ∃ y, fix_Mul k (imax 0 (isub .i64 x.2.2.2.2.2.1 512)) 8192 = some y := ⟨_, FMul_tot (by omega) _ _⟩
  obtain ⟨y17, q1⟩ : ∃ y, body_over k y15 step = some y := ⟨_, FOver_tot (by omega) _ (by omega) (by omega)⟩
  obtain ⟨s, t1, t2⟩ := speed_both hk hb x cs' rs A0 (by omega) (by omega) B1
  obtain ⟨y21, t3, t4⟩ := t2 x.2.2.2.2.1
  have ra := rub_bd hk _ hA
  have rb := rub_bd hk _ hB
  have rm : 0 ≤ imin (el Z25 bs x.1).2.2.2.2.2.2.2.1 (el Z25 bs x.2.1).2.2.2.2.2.2.2.1 ∧ imin (el Z25 bs x.1).2.2.2.2.2.2.2.1 (el Z25 bs x.2.1).2.2.2.2.2.2.2.1 ≤ 65536 := by
    unfold imin
    split <;> omega
  have hroom : ∀ w : V164, room 64 us [w] := by
    intro w
    show (us.length + 1) * 64 ≤ 140737488355328
    unfold len at hu hc v1
    omega
  obtain ⟨y26, n1, n2⟩ : ∃ y26, (bif' (ilt y21 (-32768)) (bnd (fix_Mul k (imax (el Z25 bs x.1).2.2.2.2.2.2.1 (el Z25 bs x.2.1).2.2.2.2.2.2.1) (ineg .i64 y21)) fun y24 => bnd (fix_Add k y17 y24) fun y26 =>
        some (((ineg .i64 x.2.2.2.2.1.2.1), x.2.2.2.2.1.1, ()), y7, y13, y26, (imin (el Z25 bs x.1).2.2.2.2.2.2.2.1 (el Z25 bs x.2.1).2.2.2.2.2.2.2.1), ()))
      (some (((ineg .i64 x.2.2.2.2.1.2.1), x.2.2.2.2.1.1, ()), y7, y13, y17, (imin (el Z25 bs x.1).2.2.2.2.2.2.2.1 (el Z25 bs x.2.1).2.2.2.2.2.2.2.1), ())) : Option V145) =
        some (((ineg .i64 x.2.2.2.2.1.2.1), x.2.2.2.2.1.1, ()), y7, y13, y26, (imin (el Z25 bs x.1).2.2.2.2.2.2.2.1 (el Z25 bs x.2.1).2.2.2.2.2.2.2.1), ()) ∧
      tourref2_Solve.c4 k cs v bs y17 y21 = some y26 := by
    unfold tourref2_Solve.c4
    rw [hxx]
    by_cases h : y21 < -32768
    · rw [ilt_pos h, bif_true, bif_true]
      obtain ⟨y24, w1⟩ : ∃ y, fix_Mul k (imax (el Z25 bs x.1).2.2.2.2.2.2.1 (el Z25 bs x.2.1).2.2.2.2.2.2.1) (ineg .i64 y21) = some y := ⟨_, FMul_tot (by omega) _ _⟩
      obtain ⟨y26, w2⟩ : ∃ y, fix_Add k y17 y24 = some y := ⟨_, FAdd_tot k _ _⟩
      exact ⟨y26, by rw [w1, bnd_some, w2, bnd_some], by rw [w1, bnd_some, w2, bnd_some]⟩
    · rw [ilt_neg (by omega), bif_false, bif_false]
      exact ⟨y17, rfl, rfl⟩
  refine ⟨(((ineg .i64 x.2.2.2.2.1.2.1), x.2.2.2.2.1.1, ()), y7, y13, y26, (imin (el Z25 bs x.1).2.2.2.2.2.2.2.1 (el Z25 bs x.2.1).2.2.2.2.2.2.2.1), ()), (x.2.2.2.2.1, ((ineg .i64 x.2.2.2.2.1.2.1), x.2.2.2.2.1.1, ()), y7, y13, y26, (imin (el Z25 bs x.1).2.2.2.2.2.2.2.1 (el Z25 bs x.2.1).2.2.2.2.2.2.2.1), ()), ?_, fun n => ?_, rfl, ⟨d2, d3⟩, ⟨i2, i3⟩, rm⟩
  · unfold solve_solver_row_2
    rw [req_pos (inL_of A0 (by omega)), req_pos (inL_of (by omega) B1), a1, bnd_some, b1, bnd_some, d1, bnd_some, f1, bnd_some, g1, bnd_some, i1, bnd_some, m1, bnd_some, os, q1, bnd_some, t1, bnd_some, t3, bnd_some]
    exact n1
  · rw [tourref2_Solve.c1, ilt_pos v1, bif_true, req_pos (inL_of v0 v1), hxx, req_pos (inL_of A0 (by omega)), req_pos (inL_of (by omega) B1), c2, bnd_some, a2, bnd_some, b2, bnd_some, d1, bnd_some, f2, bnd_some, g2, bnd_some, i1, bnd_some, c3, bnd_some, m1, bnd_some, oq, q1, bnd_some, t4, bnd_some, n2, bnd_some, req_pos (hroom _), iadd_i64 (by omega) (by omega)]
end Go.Proofs.T1
