/-
  Plain laws: no program in sight.
-/
import Derived.Test.YtcgcnojpcgjnmaaPlConts
namespace Go.Proofs.T1
open Go Go.Sx

/-! A round of the solver -/
def CI (nb : Int) (x : V78) : Prop := 0 ≤ x.1 ∧ x.1 < nb ∧ 0 ≤ x.2.1 ∧ x.2.1 < nb ∧ 0 ≤ x.2.2.2.2.2.2.1 ∧ x.2.2.2.2.2.2.1 ≤ 1099511627776
def JJ (k : Nat) (nb N : Int) (rs : List V145) (us : List V164) (bs : List V25) (cs : List V78) : Prop :=
  AllK k bs ∧ len bs = nb ∧ len cs = N ∧ ∀ j, 0 ≤ j → j < N → CI nb (el Z78 cs j) ∧ RB (el Z78 cs j) (el Z145 rs j) (el Z164 us j)
theorem RB_cong {x x' : V78} {r : V145} {u : V164} (h : x'.2.2.2.2.1 = x.2.2.2.2.1) (g : RB x r u) : RB x' r u := by
  unfold RB at *
  rw [h]
  exact g
theorem near_im (k : Nat) (x : Int) {m : Int} (h0 : 0 ≤ m) (hm : m ≤ 1099511627776) : tourref2_nearest k x m = some (imin (imax x (ineg .i64 m)) m) := near_clamp k x h0 hm
theorem S_c8 (k : Nat) (y : Int) : tourref2_Solve.c8 k y = some (imax 0 y) := by
  unfold tourref2_Solve.c8 imax
  by_cases h : y < 0
  · rw [ilt_pos h, bif_true]
    split <;> first | rfl | (congr 1; omega)
  · rw [ilt_neg (by omega), bif_false]
    split <;> first | rfl | (congr 1; omega)
theorem slide_both {k : Nat} (hk : 9 ≤ k) {bs : List V25} {cs : List V78} {rs : List V145} {us : List V164} (hb : AllK k bs) {i : Int} (i0 : 0 ≤ i) (i1 : i < len cs) (hx : CI (len bs) (el Z78 cs i)) (hr : RB (el Z78 cs i) (el Z145 rs i) (el Z164 us i)) {v : Int} (hv : irem v (len cs) = i) :
    ∃ bs' cs', solve_solver_round.c1 k i bs cs rs = some (bs', cs') ∧ tourref2_Solve.c7 k us v bs cs = some (bs', cs') ∧ AllK k bs' ∧ len bs' = len bs ∧ len cs' = len cs ∧ (∀ j, 0 ≤ j → j ≠ i → el Z78 cs' j = el Z78 cs j) ∧
      ∃ s, el Z78 cs' i = ((el Z78 cs i).1, (el Z78 cs i).2.1, (el Z78 cs i).2.2.1, (el Z78 cs i).2.2.2.1, (el Z78 cs i).2.2.2.2.1, (el Z78 cs i).2.2.2.2.2.1, (el Z78 cs i).2.2.2.2.2.2.1, s, ()) := by
  obtain ⟨A0, A1, B0, B1, p0, p1⟩ := hx
  obtain ⟨ur, _, ⟨g0, g1⟩, ⟨m0, m1⟩⟩ := hr
  have oq : ∀ a n, tourref2_quotient k a n = body_over k a n := fun _ _ => rfl
  have os : ∀ a n, solve_over k a n = body_over k a n := fun _ _ => rfl
  unfold solve_solver_round.c1 tourref2_Solve.c7
  rw [hv, ur]
  dsimp only
  generalize hr' : el Z145 rs i = r at *
  by_cases h : r.2.2.1 = 0
  · rw [ine_neg h, bif_false, bif_false]
    exact ⟨bs, cs, rfl, rfl, hb, rfl, rfl, fun _ _ _ => rfl, _, rfl⟩
  · rw [ine_pos h, bif_true, bif_true, req_pos (inL_of i0 i1)]
    obtain ⟨y5, a1, a2, a3⟩ := mul_nn (k := k) (by omega) m0 p0
    obtain ⟨s, t1, t2⟩ := speed_both hk hb (el Z78 cs i) cs rs A0 A1 B0 B1
    obtain ⟨y9, t3, t4⟩ := t2 r.1
    obtain ⟨y11, q1⟩ : ∃ y, body_over k y9 r.2.2.1 = some y := ⟨_, FOver_tot (by omega) _ (by omega) g1⟩
    obtain ⟨y13, f1⟩ : ∃ y, fix_Sub k (el Z78 cs i).2.2.2.2.2.2.2.1 y11 = some y := ⟨_, FSub_tot k _ _⟩
    obtain ⟨y15, f2⟩ : ∃ y, fix_Sub k (imin (imax y13 (ineg .i64 y5)) y5) (el Z78 cs i).2.2.2.2.2.2.2.1 = some y := ⟨_, FSub_tot k _ _⟩
    obtain ⟨y17, f3⟩ := vscale_tot (k := k) (by omega) r.1 y15
    obtain ⟨b1, w1, w2, w3, w4⟩ := pushl_both hk hb (el Z78 cs i) y17 cs rs A0 A1 B0 B1
    refine ⟨b1, st cs i ((el Z78 cs i).1, (el Z78 cs i).2.1, (el Z78 cs i).2.2.1, (el Z78 cs i).2.2.2.1, (el Z78 cs i).2.2.2.2.1, (el Z78 cs i).2.2.2.2.2.1, (el Z78 cs i).2.2.2.2.2.2.1, (imin (imax y13 (ineg .i64 y5)) y5), ()), ?_, ?_, w3, w4, len_set .., fun j j0 j1 => ?_, (imin (imax y13 (ineg .i64 y5)) y5), ?_⟩
    · rw [a1, bnd_some, t1, bnd_some, t3, bnd_some, os, q1, bnd_some, f1, bnd_some, f2, bnd_some, f3, bnd_some, w1, bnd_some]
    · rw [a1, bnd_some, t4, bnd_some, oq, q1, bnd_some, f1, bnd_some, near_im k _ a2 a3, bnd_some, f2, bnd_some, f3, bnd_some, w2, bnd_some, req_pos (inL_of i0 i1)]
    · rw [el_set Z78 cs _ i0 i1 j0, if_neg j1]
    · rw [el_set Z78 cs _ i0 i1 i0, if_pos rfl]
theorem round_both {k : Nat} (hk : 9 ≤ k) {nb N : Int} {rs : List V145} {us : List V164} {bs : List V25} {cs : List V78} (h : JJ k nb N rs us bs cs) (lr : len rs = N) (lu : len us = N) {i : Int} (i0 : 0 ≤ i) (i1 : i < N) {a3 : Int} {y3 : List V78} {v : Int} (hv : irem v N = i) (v0 : 0 ≤ v) (v1 : v < imul .i64 a3 (len y3)) (v2 : v ≤ 1000000) :
    ∃ bs' cs', solve_solver_round k i bs cs rs = some (bs', cs') ∧ (∀ n, tourref2_Solve.c6 k a3 us y3 (n + 1) v bs cs = tourref2_Solve.c6 k a3 us y3 n (v + 1) bs' cs') ∧ JJ k nb N rs us bs' cs' := by
  obtain ⟨hb, lb, lc, hj⟩ := h
  obtain ⟨hx, hr⟩ := hj i i0 i1
  have hv' : irem v (len cs) = i := by rw [lc]; exact hv
  rw [← lb] at hx
  obtain ⟨b1, c1, p1, p2, h1, l1, l2, oth, s, es⟩ := slide_both hk hb i0 (by omega) hx hr hv'
  obtain ⟨A0, A1, B0, B1, q0, q1⟩ := hx
  have ur := hr.1
  have g0 := hr.2.1
  have e1 : (el Z78 c1 i).1 = (el Z78 cs i).1 := by rw [es]
  have e2 : (el Z78 c1 i).2.1 = (el Z78 cs i).2.1 := by rw [es]
  have e3 : (el Z78 c1 i).2.2.2.1 = (el Z78 cs i).2.2.2.1 := by rw [es]
  have e4 : (el Z78 c1 i).2.2.2.2.1 = (el Z78 cs i).2.2.2.2.1 := by rw [es]
  have e5 : (el Z78 c1 i).2.2.2.2.2.2.1 = (el Z78 cs i).2.2.2.2.2.2.1 := by rw [es]
  have oq : ∀ a n, tourref2_quotient k a n = body_over k a n := fun _ _ => rfl
  have os : ∀ a n, solve_over k a n = body_over k a n := fun _ _ => rfl
  have hn : ∀ n, tourref2_Solve.c6 k a3 us y3 (n + 1) v bs cs = tourref2_Solve.c6 k a3 us y3 (n + 1) v bs cs := fun _ => rfl
  unfold solve_solver_round
  rw [req_pos (inL_of i0 (by omega)), req_pos (inL_of i0 (by omega)), p1, bnd_some]
  dsimp only
  by_cases z : (el Z145 rs i).2.1 = 0
  · rw [ine_neg z, bif_false]
    refine ⟨b1, c1, rfl, fun n => ?_, h1, by omega, by omega, fun j j0 j1 => ?_⟩
    · rw [tourref2_Solve.c6, ilt_pos v1, bif_true, req_pos (show nz (len cs) by unfold nz; omega), hv', req_pos (inL_of i0 (by omega)), req_pos (inL_of i0 (by omega)), p2, bnd_some, ur]
      dsimp only
      rw [ine_neg z, bif_false, iadd_i64 (by omega) (by omega)]
    · obtain ⟨hx2, hr2⟩ := hj j j0 j1
      by_cases c : j = i
      · subst c
        refine ⟨?_, RB_cong e4 hr2⟩
        unfold CI at *
        rw [e1, e2, e5]
        exact hx2
      · rw [oth j j0 c]
        exact ⟨hx2, hr2⟩
  · obtain ⟨t, t1, t2⟩ := speed_both hk h1 (el Z78 c1 i) c1 rs (by omega) (by omega) (by omega) (by omega)
    obtain ⟨d, t3, t4⟩ := t2 (el Z78 cs i).2.2.2.2.1
    obtain ⟨y29, f1⟩ : ∃ y, fix_Sub k (el Z145 rs i).2.2.2.1 d = some y := ⟨_, FSub_tot k _ _⟩
    obtain ⟨y31, f2⟩ : ∃ y, body_over k y29 (el Z145 rs i).2.1 = some y := ⟨_, FOver_tot (by omega) _ (by omega) g0.2⟩
    obtain ⟨y33, f3, f4⟩ : ∃ y, fix_Add k (el Z78 cs i).2.2.2.2.2.2.1 y31 = some y ∧ y ≤ 1099511627776 := ⟨_, FAdd_tot k _ _, (CM_bd _).2⟩
    obtain ⟨y35, f5⟩ : ∃ y, fix_Sub k (imax 0 y33) (el Z78 cs i).2.2.2.2.2.2.1 = some y := ⟨_, FSub_tot k _ _⟩
    obtain ⟨y37, f6⟩ := vscale_tot (k := k) (by omega) (el Z78 cs i).2.2.2.2.1 y35
    obtain ⟨b2, w1, w2, w3, w4⟩ := pushl_both hk h1 (el Z78 c1 i) y37 c1 rs (by omega) (by omega) (by omega) (by omega)
    rw [e1, e2, e3] at t4 w2
    have m0 : 0 ≤ imax 0 y33 ∧ imax 0 y33 ≤ 1099511627776 := by unfold imax; split <;> omega
    rw [ine_pos z, bif_true]
    refine ⟨b2, st c1 i ((el Z78 c1 i).1, (el Z78 c1 i).2.1, (el Z78 c1 i).2.2.1, (el Z78 c1 i).2.2.2.1, (el Z78 c1 i).2.2.2.2.1, (el Z78 c1 i).2.2.2.2.2.1, (imax 0 y33), (el Z78 c1 i).2.2.2.2.2.2.2), ?_, fun n => ?_, w3, by omega, by rw [len_set]; omega, fun j j0 j1 => ?_⟩
    · rw [req_pos (inL_of i0 (by omega)), t1, bnd_some, e4, t3, bnd_some, f1, bnd_some, os, f2, bnd_some, e5, f3, bnd_some, f5, bnd_some, f6, bnd_some, w1, bnd_some]
    · rw [tourref2_Solve.c6, ilt_pos v1, bif_true, req_pos (show nz (len cs) by unfold nz; omega), hv', req_pos (inL_of i0 (by omega)), req_pos (inL_of i0 (by omega)), p2, bnd_some, ur]
      dsimp only
      rw [ine_pos z, bif_true, t4, bnd_some, f1, bnd_some, oq, f2, bnd_some, f3, bnd_some, S_c8, bnd_some, f5, bnd_some, f6, bnd_some, w2, bnd_some, req_pos (inL_of i0 (by omega)), iadd_i64 (by omega) (by omega)]
    · obtain ⟨hx2, hr2⟩ := hj j j0 j1
      rw [el_set Z78 c1 _ i0 (by omega) j0]
      by_cases c : j = i
      · subst c
        rw [if_pos rfl]
        refine ⟨⟨?_, ?_, ?_, ?_, m0.1, m0.2⟩, RB_cong e4 hr2⟩
        · show 0 ≤ (el Z78 c1 j).1; omega
        · show (el Z78 c1 j).1 < nb; omega
        · show 0 ≤ (el Z78 c1 j).2.1; omega
        · show (el Z78 c1 j).2.1 < nb; omega
      · rw [if_neg c, oth j j0 c]
        exact ⟨hx2, hr2⟩
theorem irem_at {m N i : Int} (m0 : 0 ≤ m) (i0 : 0 ≤ i) (i1 : i < N) : irem (m * N + i) N = i := by
  rw [irem_nonneg (Int.add_nonneg (Int.mul_nonneg m0 (by omega)) i0), Int.add_comm, Int.add_mul_emod_self_right]
  exact Int.emod_eq_of_lt i0 i1
theorem inner_both {k : Nat} (hk : 9 ≤ k) {nb N : Int} (hN : N ≤ 4096) {rs : List V145} {us : List V164} (lr : len rs = N) (lu : len us = N) {a3 : Int} (r0 : 0 ≤ a3) (r1 : a3 ≤ 32) {y3 c0 : List V78} (l3 : len y3 = N) (l0 : len c0 = N) :
    ∀ (d : Nat) (i : Int) (bs : List V25) (cs : List V78), 0 ≤ i → i + d = N → JJ k nb N rs us bs cs →
      ∃ bs' cs', JJ k nb N rs us bs' cs' ∧ (∀ n : Nat, d < n → solve_Run.c6 k rs c0 n i bs cs = some (bs', cs')) ∧
        (∀ (n : Nat) (m : Int), 0 ≤ m → m < a3 → tourref2_Solve.c6 k a3 us y3 (n + d) (m * N + i) bs cs = tourref2_Solve.c6 k a3 us y3 n (m * N + N) bs' cs') := by
  intro d
  induction d with
  | zero =>
    intro i bs cs i0 i1 h
    have : i = N := by omega
    subst this
    refine ⟨bs, cs, h, fun n hn => ?_, fun n m _ _ => rfl⟩
    obtain ⟨n, rfl⟩ : ∃ n', n = n' + 1 := ⟨n - 1, by omega⟩
    rw [solve_Run.c6, ilt_neg (by omega), bif_false]
  | succ d ih =>
    intro i bs cs i0 i1 h
    have iN : i < N := by omega
    have sr : ∃ b1 c1, solve_solver_round k i bs cs rs = some (b1, c1) ∧ JJ k nb N rs us b1 c1 ∧ (∀ (m : Int), 0 ≤ m → m < a3 → ∀ n, tourref2_Solve.c6 k a3 us y3 (n + 1) (m * N + i) bs cs = tourref2_Solve.c6 k a3 us y3 n (m * N + i + 1) b1 c1) := by
      have key : ∀ (m : Int), 0 ≤ m → m < a3 → irem (m * N + i) N = i ∧ 0 ≤ m * N + i ∧ m * N + i < imul .i64 a3 (len y3) ∧ m * N + i ≤ 1000000 := by
        intro m m0 m1
        have b1 := Int.mul_le_mul_of_nonneg_right (show m + 1 ≤ a3 by omega) (show 0 ≤ N by omega)
        have b2 := mul_bd (x := a3) (y := N) (M := 32) (N := 4096) (by omega) (by omega) (by omega) (by omega)
        have b3 := Int.mul_nonneg m0 (show 0 ≤ N by omega)
        rw [Int.add_mul, Int.one_mul] at b1
        refine ⟨irem_at m0 i0 iN, by omega, ?_, by omega⟩
        rw [l3, imul_i64 (by omega) (by omega)]
        omega
      by_cases hm : 0 < a3
      · obtain ⟨k1, k2, k3, k4⟩ := key 0 (by omega) hm
        obtain ⟨b1, c1, s1, s2, s3⟩ := round_both hk h lr lu i0 iN k1 k2 k3 k4
        refine ⟨b1, c1, s1, s3, fun m m0 m1 n => ?_⟩
        obtain ⟨k1, k2, k3, k4⟩ := key m m0 m1
        obtain ⟨b2, c2, g1, g2, g3⟩ := round_both hk h lr lu i0 iN k1 k2 k3 k4
        rw [s1] at g1
        cases g1
        exact g2 n
      · have v1 : i < imul .i64 1 (len y3) := by rw [l3, imul_i64 (by omega) (by omega)]; omega
        obtain ⟨b1, c1, s1, s2, s3⟩ := round_both hk h lr lu i0 iN (by have := irem_at (m := 0) (by omega) i0 iN; rw [Int.zero_mul, Int.zero_add] at this; exact this) i0 v1 (by omega)
        exact ⟨b1, c1, s1, s3, fun m m0 m1 => by omega⟩
    obtain ⟨b1, c1, s1, s2, s3⟩ := sr
    obtain ⟨b2, c2, h2, f2, g2⟩ := ih (i + 1) b1 c1 (by omega) (by omega) s2
    refine ⟨b2, c2, h2, fun n hn => ?_, fun n m m0 m1 => ?_⟩
    · obtain ⟨n, rfl⟩ : ∃ n', n = n' + 1 := ⟨n - 1, by omega⟩
      rw [solve_Run.c6, ilt_pos (by omega), bif_true, s1, bnd_some, iadd_i64 (by omega) (by omega)]
      exact f2 n (by omega)
    · rw [show n + (d + 1) = (n + d) + 1 by omega, s3 m m0 m1, show m * N + i + 1 = m * N + (i + 1) by omega]
      exact g2 n m m0 m1
theorem outer_both {k : Nat} (hk : 9 ≤ k) {nb : Int} {N : Nat} (hN : N ≤ 4096) (hkN : N < k) {rs : List V145} {us : List V164} (lr : len rs = N) (lu : len us = N) {a3 : Int} (r0 : 0 ≤ a3) (r1 : a3 ≤ 32) {y3 : List V78} (l3 : len y3 = N) :
    ∀ (d : Nat) (i : Int) (bs : List V25) (cs : List V78), 0 ≤ i → i + d = a3 → JJ k nb N rs us bs cs →
      ∃ bs' cs', JJ k nb N rs us bs' cs' ∧ (∀ n : Nat, d < n → solve_Run.c5 k a3 rs n i bs cs = some (bs', cs')) ∧
        (∀ n : Nat, 0 < n → tourref2_Solve.c6 k a3 us y3 (n + d * N) (i * N) bs cs = some (bs', cs')) := by
  intro d
  induction d with
  | zero =>
    intro i bs cs i0 i1 h
    have : i = a3 := by omega
    subst this
    have b2 := mul_bd (x := i) (y := (N : Int)) (M := 32) (N := 4096) (by omega) (by omega) (by omega) (by omega)
    refine ⟨bs, cs, h, fun n hn => ?_, fun n hn => ?_⟩
    · obtain ⟨n, rfl⟩ : ∃ n', n = n' + 1 := ⟨n - 1, by omega⟩
      rw [solve_Run.c5, ilt_neg (by omega), bif_false]
    · obtain ⟨n, rfl⟩ : ∃ n', n = n' + 1 := ⟨n - 1, by omega⟩
      rw [Nat.zero_mul, Nat.add_zero, tourref2_Solve.c6, l3, imul_i64 (by omega) (by omega), ilt_neg (by omega), bif_false]
  | succ d ih =>
    intro i bs cs i0 i1 h
    have lc := h.2.2.1
    obtain ⟨b1, c1, h1, f1, g1⟩ := inner_both hk (N := (N : Int)) (by omega) lr lu r0 r1 l3 lc N 0 bs cs (by omega) (by omega) h
    obtain ⟨b2, c2, h2, f2, g2⟩ := ih (i + 1) b1 c1 (by omega) (by omega) h1
    refine ⟨b2, c2, h2, fun n hn => ?_, fun n hn => ?_⟩
    · obtain ⟨n, rfl⟩ : ∃ n', n = n' + 1 := ⟨n - 1, by omega⟩
      rw [solve_Run.c5, ilt_pos (by omega), bif_true, f1 k hkN, bnd_some, iadd_i64 (by omega) (by omega)]
      exact f2 n (by omega)
    · have e := g1 (n + d * N) i i0 (by omega)
      rw [Int.add_zero] at e
      rw [show n + (d + 1) * N = n + d * N + N by rw [Nat.add_mul, Nat.one_mul]; omega, e]
      have e2 := g2 n hn
      rw [Int.add_mul, Int.one_mul] at e2
      exact e2
end Go.Proofs.T1
