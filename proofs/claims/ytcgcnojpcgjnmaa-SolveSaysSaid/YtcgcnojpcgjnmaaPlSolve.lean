/-
  Plain laws: no program in sight.
-/
import Derived.Test.YtcgcnojpcgjnmaaPlRounds
namespace Go.Proofs.T1
open Go Go.Sx

/-! SolveSays -/
theorem el_app_lt {α : Type} (z : α) (l : List α) (y : α) {j : Int} (j0 : 0 ≤ j) (j1 : j < len l) : el z (l ++ [y]) j = el z l j := by
  obtain ⟨j, rfl⟩ := Int.eq_ofNat_of_zero_le j0
  have hj : j < l.length := by unfold len at j1; omega
  show (l ++ [y]).getD j z = l.getD j z
  rw [List.getD_eq_getElem?_getD, List.getD_eq_getElem?_getD, List.getElem?_append_left hj]
theorem el_app_eq {α : Type} (z : α) (l : List α) (y : α) {j : Int} (h : len l = j) : el z (l ++ [y]) j = y := by
  subst h
  show (l ++ [y]).getD l.length z = y
  rw [List.getD_eq_getElem?_getD, List.getElem?_append_right (Nat.le_refl _), Nat.sub_self]
  rfl
theorem len_app {α : Type} (l : List α) (y : α) : len (l ++ [y]) = len l + 1 := by
  unfold len
  rw [List.length_append]
  rfl
theorem copy_all {k : Nat} (hk : 9 ≤ k) (hk' : 100 < k) {l : List V25} (hA : AllK k l) (hl : len l ≤ 64) : solve_Run.c2 k l k 0 [] = some l := by
  have ll : len l = (l.length : Int) := rfl
  obtain ⟨z, a, b⟩ := inv_loop (fun n (z : List V25) i => solve_Run.c2 k l n i z) 0 (len l) (fun z i => z = l.take i.toNat)
    (by
      intro n z i i0 i1 hz
      have hc := cor_bd hk _ (hA i i0 i1)
      refine ⟨z ++ [el Z25 l i], ?_, ?_⟩
      · obtain ⟨i, rfl⟩ := Int.eq_ofNat_of_zero_le i0
        have hi : i < l.length := by omega
        have hq : el Z25 l (i : Int) = l[i] := by
          show l.getD i Z25 = _
          rw [List.getD_eq_getElem?_getD, List.getElem?_eq_getElem hi]
          rfl
        rw [hq, hz, show ((i : Int) + 1).toNat = i + 1 by omega, show ((i : Int)).toNat = i by omega]
        rw [List.take_succ_eq_append_getElem hi]
      · show solve_Run.c2 k l (n + 1) i z = _
        rw [solve_Run.c2, ilt_pos i1, bif_true, req_pos (inL_of i0 i1)]
        unfold slices_Clone_129
        rw [req_pos (show room0 16 (el Z25 l i).2.2.2.2.2.2.2.2.1 by show (0 + (el Z25 l i).2.2.2.2.2.2.2.2.1.length) * 16 ≤ 140737488355328; omega), bnd_some, iadd_i64 (by omega) (by omega)]
        refine req_pos ?_ _
        have hs : z.length ≤ 64 := by
          rw [hz, List.length_take]
          omega
        show (z.length + 1) * 120 ≤ 140737488355328
        omega)
    (by
      intro n z i i0 i1
      show solve_Run.c2 k l (n + 1) i z = some z
      rw [solve_Run.c2, ilt_neg i1, bif_false])
    k [] 0 (by omega) (by omega) (by omega) rfl
  have b : solve_Run.c2 k l k 0 [] = some z := b
  rw [b, a, ll, show ((l.length : Nat) : Int).toNat = l.length by omega, List.take_length]
theorem CI_of {nb : Int} {x : V78} (h : CVx nb x) : CI nb x := by
  obtain ⟨⟨a, b, c, _⟩, _, ⟨_, d, _⟩⟩ := h
  exact ⟨a, by omega, by omega, c, d.1, d.2⟩
theorem Solve_all {k : Nat} (hk : 140000 ≤ k) {l : List V25} {c : List V78} (hA : AllK k l) (hl : len l ≤ 64) (hc : len c ≤ 4096) (hv : ∀ j, 0 ≤ j → j < len c → CVx (len l) (el Z78 c j)) {step rounds : Int} (s0 : 1 ≤ step) (s1 : step ≤ 65536) (r0 : 0 ≤ rounds) (r1 : rounds ≤ 32)
    (hcheck : solve_Check k l c = some 0) :
    ∃ bs cs, solve_Run k l c step rounds = some (bs, cs, 0) ∧ tourref2_Solve k l c step rounds = some (bs, cs) ∧ AllK k bs ∧ len bs ≤ 64 ∧ len cs ≤ 4096 := by
  have lc0 : len c = (c.length : Int) := rfl
  have ll0 : len l = (l.length : Int) := rfl
  have q1 : solve_Run.c1 k step rounds = some false := by
    unfold solve_Run.c1
    rw [ilt_neg (by omega), bif_false, igt_neg (by omega), bif_false, ilt_neg (by omega), bif_false, igt_neg (by omega)]
  have cl : slices_Clone k c = some c := by
    unfold slices_Clone
    exact req_pos (show (0 + c.length) * 80 ≤ 140737488355328 by omega) _
  have cl2 : slices_Clone_153 k l = some l := by
    unfold slices_Clone_153
    exact req_pos (show (0 + l.length) * 120 ≤ 140737488355328 by omega) _
  obtain ⟨rs, us, ⟨lr, lu, hR⟩, f1, g1⟩ := two_loop (fun n (rs : List V145) v => solve_Run.c3 k step l c n v rs) (fun n (us : List V164) v => tourref2_Solve.c1 k c step l n v us) 0 (len c)
    (fun rs us v => len rs = v ∧ len us = v ∧ ∀ j, 0 ≤ j → j < v → RB (el Z78 c j) (el Z145 rs j) (el Z164 us j))
    (by
      intro n rs us v v0 v1 ⟨lr, lu, hR⟩
      obtain ⟨r, u, e1, e2, e3⟩ := row_both (k := k) (by omega) hA v0 v1 hc (hv v v0 v1) s0 s1 lu c rs
      refine ⟨rs ++ [r], us ++ [u], ⟨by rw [len_app, lr], by rw [len_app, lu], fun j j0 j1 => ?_⟩, ?_, e2 n⟩
      · by_cases d : j = v
        · rw [d, el_app_eq Z145 rs r lr, el_app_eq Z164 us u lu]
          exact e3
        · rw [el_app_lt Z145 rs r j0 (by omega), el_app_lt Z164 us u j0 (by omega)]
          exact hR j j0 (by omega)
      · show solve_Run.c3 k step l c (n + 1) v rs = _
        have hroom : room 48 rs [r] := by
          show (rs.length + 1) * 48 ≤ 140737488355328
          unfold len at lr hc v1
          omega
        rw [solve_Run.c3, ilt_pos v1, bif_true, req_pos (inL_of v0 v1), e1, bnd_some, req_pos hroom, iadd_i64 (by omega) (by omega)])
    (by
      intro n rs us v v0 v1
      refine ⟨?_, ?_⟩
      · show solve_Run.c3 k step l c (n + 1) v rs = _
        rw [solve_Run.c3, ilt_neg v1, bif_false]
      · show tourref2_Solve.c1 k c step l (n + 1) v us = _
        rw [tourref2_Solve.c1, ilt_neg v1, bif_false])
    k [] [] 0 (by omega) (by omega) (by omega) ⟨rfl, rfl, fun j j0 j1 => by omega⟩
  have f1 : solve_Run.c3 k step l c k 0 [] = some rs := f1
  have g1 : tourref2_Solve.c1 k c step l k 0 [] = some us := g1
  obtain ⟨b1, b2, ⟨bb, hb, lb⟩, f2, g2⟩ := two_loop (fun n (bs : List V25) v => solve_Run.c4 k rs c n v bs) (fun n (bs : List V25) v => tourref2_Solve.c5 k us c n v bs) 0 (len c)
    (fun b b' _ => b = b' ∧ AllK k b ∧ len b = len l)
    (by
      intro n bs bs' v v0 v1 ⟨bb, hb, lb⟩
      subst bb
      have hx := CI_of (hv v v0 v1)
      rw [← lb] at hx
      obtain ⟨A0, A1, B0, B1, _, _⟩ := hx
      have ur := (hR v v0 v1).1
      obtain ⟨y34, e1⟩ := vscale_tot (k := k) (by omega) (el Z78 c v).2.2.2.2.1 (el Z78 c v).2.2.2.2.2.2.1
      obtain ⟨y37, e2⟩ := vscale_tot (k := k) (by omega) (el Z145 rs v).1 (el Z78 c v).2.2.2.2.2.2.2.1
      obtain ⟨y39, e3⟩ := vadd_tot k y34 y37
      obtain ⟨b1, w1, w2, w3, w4⟩ := pushl_both (k := k) (by omega) hb (el Z78 c v) y39 c rs A0 A1 B0 B1
      refine ⟨b1, b1, ⟨rfl, w3, by omega⟩, ?_, ?_⟩
      · show solve_Run.c4 k rs c (n + 1) v bs = _
        rw [solve_Run.c4, ilt_pos v1, bif_true, req_pos (inL_of v0 v1), e1, bnd_some, req_pos (inL_of v0 (by omega)), e2, bnd_some, e3, bnd_some, w1, bnd_some, iadd_i64 (by omega) (by omega)]
      · show tourref2_Solve.c5 k us c (n + 1) v bs = _
        rw [tourref2_Solve.c5, ilt_pos v1, bif_true, req_pos (inL_of v0 v1), req_pos (inL_of v0 (by omega)), ur]
        dsimp only
        rw [e1, bnd_some, e2, bnd_some, e3, bnd_some, w2, bnd_some, iadd_i64 (by omega) (by omega)])
    (by
      intro n b b' v v0 v1
      refine ⟨?_, ?_⟩
      · show solve_Run.c4 k rs c (n + 1) v b = _
        rw [solve_Run.c4, ilt_neg v1, bif_false]
      · show tourref2_Solve.c5 k us c (n + 1) v b' = _
        rw [tourref2_Solve.c5, ilt_neg v1, bif_false])
    k l l 0 (by omega) (by omega) (by omega) ⟨rfl, hA, rfl⟩
  subst bb
  have f2 : solve_Run.c4 k rs c k 0 l = some b1 := f2
  have g2 : tourref2_Solve.c5 k us c k 0 l = some b1 := g2
  obtain ⟨b3, c3, h3, f3, g3⟩ := outer_both (k := k) (by omega) (nb := len l) (N := c.length) (by omega) (by omega) (rs := rs) (us := us) lr lu r0 r1 (y3 := c) rfl rounds.toNat 0 b1 c (by omega) (by omega)
    ⟨hb, lb, rfl, fun j j0 j1 => ⟨CI_of (hv j j0 j1), hR j j0 j1⟩⟩
  have f3 := f3 k (by omega)
  have fu := Nat.mul_le_mul (show rounds.toNat ≤ 32 by omega) (show c.length ≤ 4096 by omega)
  have g3 := g3 (k - rounds.toNat * c.length) (by omega)
  rw [Nat.sub_add_cancel (by omega), Int.zero_mul] at g3
  refine ⟨b3, c3, ?_, ?_, h3.1, by have := h3.2.1; omega, by have := h3.2.2.1; omega⟩
  · unfold solve_Run
    rw [hcheck, bnd_some, ine_neg rfl, bif_false, q1, bnd_some, bif_false, cl, bnd_some, copy_all (by omega) (by omega) hA hl, bnd_some, f1, bnd_some, f2, bnd_some, f3, bnd_some]
  · unfold tourref2_Solve
    rw [cl2, bnd_some, cl, bnd_some, g1, bnd_some, g2, bnd_some, g3, bnd_some]
theorem eqb201 (x : V78) : Ty.eqb T78 x x = true := by
  have h : ∀ a : Int, ieq a a = true := fun a => ieq_pos rfl
  show (ieq x.1 x.1 && (ieq x.2.1 x.2.1 && (ieq x.2.2.1 x.2.2.1 && (Ty.eqb T22 x.2.2.2.1 x.2.2.2.1 && (Ty.eqb T22 x.2.2.2.2.1 x.2.2.2.2.1 && (ieq x.2.2.2.2.2.1 x.2.2.2.2.2.1 && (ieq x.2.2.2.2.2.2.1 x.2.2.2.2.2.2.1 && (ieq x.2.2.2.2.2.2.2.1 x.2.2.2.2.2.2.2.1 && true)))))))) = true
  simp only [h, eqb24_self, Bool.and_true]
theorem sameC {k : Nat} (hk : 5000 ≤ k) {l : List V78} (hl : len l ≤ 4096) : slices_Equal_79 k l l = some true := by
  have H : ∀ (n : Nat) (i : Int), 0 ≤ i → len l - i < (n : Int) → 0 < n → slices_Equal_79.c1 k l l n i = some (.inr ()) := by
    intro n
    induction n with
    | zero => intro i _ _ h; omega
    | succ n ih =>
      intro i i0 i1 _
      rw [slices_Equal_79.c1]
      by_cases c : i < len l
      · rw [ilt_pos c, bif_true, req_pos (inL_of i0 c), req_pos (inL_of i0 c)]
        refine (congrArg (fun b => bif' b _ _) (eqb201 (el Z78 l i))).trans ?_
        rw [bif_true, iadd_i64 (by omega) (by omega)]
        exact ih (i + 1) (by omega) (by omega) (by omega)
      · rw [ilt_neg (by omega), bif_false]
  unfold slices_Equal_79
  rw [ine_neg rfl, bif_false, H k 0 (by omega) (by omega) (by omega), bnd_some, two_inr]
theorem sameB {k : Nat} (hk : 5000 ≤ k) {l : List V25} (hA : AllK k l) (hl : len l ≤ 64) : tourref2_SameBodies k l l = some true := by
  have H : ∀ (n : Nat) (i : Int), 0 ≤ i → len l - i < (n : Int) → 0 < n → slices_EqualFunc.c1 k l l (fun x : (V25 × (V25 × Unit)) => tourref2_SameBody k (x.1) (x.2.1)) n i = some (.inr ()) := by
    intro n
    induction n with
    | zero => intro i _ _ h; omega
    | succ n ih =>
      intro i i0 i1 _
      rw [slices_EqualFunc.c1]
      by_cases c : i < len l
      · have hc := cor_bd (k := k) (by omega) _ (hA i i0 c)
        rw [ilt_pos c, bif_true, req_pos (inL_of i0 c), req_pos (inL_of i0 c)]
        have hs : tourref2_SameBody k (el Z25 l i) (el Z25 l i) = some true := SameBody_self _ (by omega) (by omega)
        show bnd (tourref2_SameBody k (el Z25 l i) (el Z25 l i)) _ = _
        rw [hs, bnd_some, bif_true, iadd_i64 (by omega) (by omega)]
        exact ih (i + 1) (by omega) (by omega) (by omega)
      · rw [ilt_neg (by omega), bif_false]
  unfold tourref2_SameBodies slices_EqualFunc
  rw [ine_neg rfl, bif_false, H k 0 (by omega) (by omega) (by omega), bnd_some, two_inr, bnd_some]
theorem sbegun_eq : tourlaw2_solveBegun 140000 = some true := by kernel_rfl
theorem SolveSays_true {k : Nat} (hk : 140000 ≤ k) (hb : tourlaw2_solveBegun k = some true) (l : List V25) (c : List V78) (step rounds : Int) : tourlaw2_SolveSays k l c step rounds = some true := by
  obtain ⟨e, e1, e2, e3⟩ := ccheck (k := k) (by omega) (by omega) l c
  unfold tourlaw2_SolveSays
  rw [hb, bnd_some, bif_true, e1, e2]
  have nil0 : ieq (iadd .i64 (len ([] : List V25)) (len ([] : List V78))) 0 = true := by decide
  by_cases h0 : e = 0
  · subst h0
    obtain ⟨⟨hA, hl⟩, hc, hv⟩ := e3 rfl
    by_cases hq : 1 ≤ step ∧ step ≤ 65536 ∧ 0 ≤ rounds ∧ rounds ≤ 32
    · obtain ⟨bs, cs, a1, a2, a3, a4, a5⟩ := Solve_all hk hA hl hc hv hq.1 hq.2.1 hq.2.2.1 hq.2.2.2 e1
      have q1 : tourlaw2_SolveSays.c1 k step rounds 0 = some false := by
        unfold tourlaw2_SolveSays.c1
        rw [ieq_pos rfl, bif_true, ilt_neg (by omega), bif_false, igt_neg (by omega), bif_false, ilt_neg (by omega), bif_false, igt_neg (by omega)]
      have q2 : tourlaw2_SolveSays.c2 k false 0 = some 0 := rfl
      rw [a1, bnd_some, bnd_some, bnd_some, ine_neg rfl, bif_false, q1, bnd_some, q2, bnd_some, ine_neg rfl, bif_false]
      by_cases hn : 40 < len c
      · rw [igt_pos hn, bif_true]
      · rw [igt_neg (by omega), bif_false, a2, bnd_some]
        dsimp only
        rw [ieq_pos rfl, bif_true, sameB (by omega) a3 a4, bnd_some, bif_true, sameC (by omega) a5, bnd_some]
    · have q0 : solve_Run.c1 k step rounds = some true := by
        unfold solve_Run.c1
        by_cases a : step < 1
        · rw [ilt_pos a, bif_true]
        · rw [ilt_neg (by omega), bif_false]
          by_cases b : 65536 < step
          · rw [igt_pos b, bif_true]
          · rw [igt_neg (by omega), bif_false]
            by_cases d : rounds < 0
            · rw [ilt_pos d, bif_true]
            · rw [ilt_neg (by omega), bif_false, igt_pos (by omega)]
      have q1 : tourlaw2_SolveSays.c1 k step rounds 0 = some true := by
        unfold tourlaw2_SolveSays.c1
        rw [ieq_pos rfl, bif_true]
        exact q0
      have hr : solve_Run k l c step rounds = some ([], [], 1) := by
        unfold solve_Run
        rw [e1, bnd_some, ine_neg rfl, bif_false, q0, bnd_some, bif_true]
      have q2 : tourlaw2_SolveSays.c2 k true 0 = some 1 := rfl
      have q3 : tourlaw2_SolveSays.c3 k 1 ([], [], 1) = some true := by
        unfold tourlaw2_SolveSays.c3
        dsimp only
        rw [ieq_pos rfl, bif_true, nil0]
      rw [hr, bnd_some, bnd_some, bnd_some, ine_neg rfl, bif_false, q1, bnd_some, q2, bnd_some, ine_pos (by decide), bif_true, q3, bnd_some]
  · have hr : solve_Run k l c step rounds = some ([], [], e) := by
      unfold solve_Run
      rw [e1, bnd_some, ine_pos h0, bif_true]
    have q1 : tourlaw2_SolveSays.c1 k step rounds e = some false := by
      unfold tourlaw2_SolveSays.c1
      rw [ieq_neg h0, bif_false]
    have q2 : tourlaw2_SolveSays.c2 k false e = some e := rfl
    have q3 : tourlaw2_SolveSays.c3 k e ([], [], e) = some true := by
      unfold tourlaw2_SolveSays.c3
      dsimp only
      rw [ieq_pos rfl, bif_true, nil0]
    rw [hr, bnd_some, bnd_some, bnd_some, ine_neg rfl, bif_false, q1, bnd_some, q2, bnd_some, ine_pos h0, bif_true, q3, bnd_some]
theorem tourlaw2_SolveSays_plain (x : ((.pair (.slice T25) (.pair (.slice T78) (.pair T2 (.pair T2 .unit)))) : Ty).den) (_ : Ty.wf (.pair (.slice T25) (.pair (.slice T78) (.pair T2 (.pair T2 .unit)))) x) : ∃ k, (tourlaw2_SolveSays.sp k).f x = some true := by
  obtain ⟨l, c, step, rounds, _⟩ := x
  obtain ⟨K, hK⟩ : ∃ K : Nat, K = 140000 := ⟨_, rfl⟩
  have hb := sbegun_eq
  rw [← hK] at hb
  exact ⟨K, SolveSays_true (by omega) hb l c step rounds⟩
end Go.Proofs.T1
