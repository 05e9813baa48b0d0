/-
  Plain laws: no program in sight.
-/
import Derived.Test.YtabllngnpponiaaPlPull
namespace Go.Proofs.T1
open Go Go.Sx
theorem jcopy_all {k : Nat} (hk : 9 ≤ k) (hk' : 100 < k) {l : List V49} (hA : AllK k l) (hl : len l ≤ 64) : joint_Run.c2 k l k 0 [] = some l := by
  have ll : len l = (l.length : Int) := rfl
  obtain ⟨z, a, b⟩ := inv_loop (fun n (z : List V49) i => joint_Run.c2 k l n i z) 0 (len l) (fun z i => z = l.take i.toNat)
    (by
      intro n z i i0 i1 hz
      have hc := cor_bd hk _ (hA i i0 i1)
      refine ⟨z ++ [el Z49 l i], ?_, ?_⟩
      · obtain ⟨i, rfl⟩ := Int.eq_ofNat_of_zero_le i0
        have hi : i < l.length := by omega
        have hq : el Z49 l (i : Int) = l[i] := by
          show l.getD i Z49 = _
          rw [List.getD_eq_getElem?_getD, List.getElem?_eq_getElem hi]
          rfl
        rw [hq, hz, show ((i : Int) + 1).toNat = i + 1 by omega, show ((i : Int)).toNat = i by omega]
        rw [List.take_succ_eq_append_getElem hi]
      · show joint_Run.c2 k l (n + 1) i z = _
        rw [joint_Run.c2, ilt_pos i1, bif_true, req_pos (inL_of i0 i1)]
        unfold slices_Clone
        rw [req_pos (show room0 16 (el Z49 l i).2.2.2.2.2.2.2.2.1 by show (0 + (el Z49 l i).2.2.2.2.2.2.2.2.1.length) * 16 ≤ 140737488355328; omega), bnd_some, iadd_i64 (by omega) (by omega)]
        refine req_pos ?_ _
        have hs : z.length ≤ 64 := by
          rw [hz, List.length_take]
          omega
        show (z.length + 1) * 120 ≤ 140737488355328
        omega)
    (by
      intro n z i i0 i1
      show joint_Run.c2 k l (n + 1) i z = some z
      rw [joint_Run.c2, ilt_neg i1, bif_false])
    k [] 0 (by omega) (by omega) (by omega) rfl
  have b : joint_Run.c2 k l k 0 [] = some z := b
  rw [b, a, ll, show ((l.length : Nat) : Int).toNat = l.length by omega, List.take_length]
theorem jround {k : Nat} (hk' : 100 < k) {l : List V49} (hl : len l ≤ 64) {js : List V76} (hj : len js ≤ 32) (hv : ∀ j, 0 ≤ j → j < len js → CJ (len l) (el Z76 js j) ∧ ¬ MJ l (el Z76 js j)) {step : Int} (s0 : 1 ≤ step) (s1 : step ≤ 65536) {bs : List V49} (hb : AllK k bs) (hb2 : KpL l bs) :
    ∃ bs', joint_Run.c4 k js step k 0 bs = some bs' ∧ tourref2_Pull.c2 k js step k 0 bs = some bs' ∧ AllK k bs' ∧ KpL l bs' := by
  have lj : len js = (js.length : Int) := rfl
  obtain ⟨b1, b2, ⟨e, h1, h2⟩, f, g⟩ := two_loop (fun n (b : List V49) v => joint_Run.c4 k js step n v b) (fun n (b : List V49) v => tourref2_Pull.c2 k js step n v b) 0 (len js) (fun b b' _ => b = b' ∧ AllK k b ∧ KpL l b)
    (by
      intro n b b' v v0 v1 ⟨e, h1, h2⟩
      subst e
      obtain ⟨c1, c2⟩ := hv v v0 v1
      have lb := h2.1
      obtain ⟨b3, f, g, h3, h4⟩ := joint_both hk' h1 (by omega) v0 v1 hj (by rw [lb]; exact c1) (MJ_keep h2 c1.1 c1.2.1 c1.2.2.1 c2) s0 s1
      exact ⟨b3, b3, ⟨rfl, h3, KpL_trans h2 h4⟩, f n, g n⟩)
    (by
      intro n b b' v v0 v1
      refine ⟨?_, ?_⟩
      · show joint_Run.c4 k js step (n + 1) v b = _
        rw [joint_Run.c4, ilt_neg v1, bif_false]
      · show tourref2_Pull.c2 k js step (n + 1) v b' = _
        rw [tourref2_Pull.c2, ilt_neg v1, bif_false])
    k bs bs 0 (by omega) (by omega) (by omega) ⟨rfl, hb, hb2⟩
  subst e
  exact ⟨b1, f, g, h1, h2⟩
theorem Joint_all {k : Nat} (hk' : 100 < k) {l : List V49} (hA : AllK k l) (hl : len l ≤ 64) {js : List V76} (hj : len js ≤ 32) (hv : ∀ j, 0 ≤ j → j < len js → CJ (len l) (el Z76 js j) ∧ ¬ MJ l (el Z76 js j)) {step rounds : Int} (s0 : 1 ≤ step) (s1 : step ≤ 65536) (r0 : 0 ≤ rounds) (r1 : rounds ≤ 32) (hc : joint_Check k l js = some 0) :
    ∃ bs, joint_Run k l js step rounds = some (bs, 0) ∧ tourref2_Pull k l js step rounds = some bs ∧ AllK k bs ∧ len bs ≤ 64 := by
  have ll0 : len l = (l.length : Int) := rfl
  have q1 : joint_Run.c1 k step rounds = some false := by
    unfold joint_Run.c1
    rw [ilt_neg (by omega), bif_false, igt_neg (by omega), bif_false, ilt_neg (by omega), bif_false, igt_neg (by omega)]
  have cl2 : slices_Clone_132 k l = some l := by
    unfold slices_Clone_132
    exact req_pos (show (0 + l.length) * 120 ≤ 140737488355328 by omega) _
  obtain ⟨b1, b2, ⟨e, h1, h2⟩, f, g⟩ := two_loop (fun n (b : List V49) v => joint_Run.c3 k js step rounds n v b) (fun n (b : List V49) v => tourref2_Pull.c1 k js step rounds n v b) 0 rounds (fun b b' _ => b = b' ∧ AllK k b ∧ KpL l b)
    (by
      intro n b b' v v0 v1 ⟨e, h1, h2⟩
      subst e
      obtain ⟨b3, f, g, h3, h4⟩ := jround hk' hl hj hv s0 s1 h1 h2
      refine ⟨b3, b3, ⟨rfl, h3, h4⟩, ?_, ?_⟩
      · show joint_Run.c3 k js step rounds (n + 1) v b = _
        rw [joint_Run.c3, ilt_pos v1, bif_true, f, bnd_some, iadd_i64 (by omega) (by omega)]
      · show tourref2_Pull.c1 k js step rounds (n + 1) v b = _
        rw [tourref2_Pull.c1, ilt_pos v1, bif_true, g, bnd_some, iadd_i64 (by omega) (by omega)])
    (by
      intro n b b' v v0 v1
      refine ⟨?_, ?_⟩
      · show joint_Run.c3 k js step rounds (n + 1) v b = _
        rw [joint_Run.c3, ilt_neg v1, bif_false]
      · show tourref2_Pull.c1 k js step rounds (n + 1) v b' = _
        rw [tourref2_Pull.c1, ilt_neg v1, bif_false])
    k l l 0 (by omega) (by omega) (by omega) ⟨rfl, hA, KpL_refl l⟩
  subst e
  have f : joint_Run.c3 k js step rounds k 0 l = some b1 := f
  have g : tourref2_Pull.c1 k js step rounds k 0 l = some b1 := g
  refine ⟨b1, ?_, ?_, h1, by have := h2.1; omega⟩
  · unfold joint_Run
    rw [hc, bnd_some, ine_neg rfl, bif_false, q1, bnd_some, bif_false, jcopy_all (by omega) (by omega) hA hl, bnd_some, f, bnd_some]
  · unfold tourref2_Pull
    rw [cl2, bnd_some, g, bnd_some]
theorem sameBj {k : Nat} (hk : 100 < k) {l : List V49} (hA : AllK k l) (hl : len l ≤ 64) : tourref2_SameBodies k l l = some true := by
  have H : ∀ (n : Nat) (i : Int), 0 ≤ i → len l - i < (n : Int) → 0 < n → slices_EqualFunc.c1 k l l (fun x : (V49 × (V49 × Unit)) => tourref2_SameBody k (x.1) (x.2.1)) n i = some (.inr ()) := by
    intro n
    induction n with
    | zero => intro i _ _ h; omega
    | succ n ih =>
      intro i i0 i1 _
      rw [slices_EqualFunc.c1]
      by_cases c : i < len l
      · have hc := cor_bd (k := k) (by omega) _ (hA i i0 c)
        rw [ilt_pos c, bif_true, req_pos (inL_of i0 c), req_pos (inL_of i0 c)]
        have hs : tourref2_SameBody k (el Z49 l i) (el Z49 l i) = some true := SameBody_self _ (by omega) (by omega)
        show bnd (tourref2_SameBody k (el Z49 l i) (el Z49 l i)) _ = _
        rw [hs, bnd_some, bif_true, iadd_i64 (by omega) (by omega)]
        exact ih (i + 1) (by omega) (by omega) (by omega)
      · rw [ilt_neg (by omega), bif_false]
  unfold tourref2_SameBodies slices_EqualFunc
  rw [ine_neg rfl, bif_false, H k 0 (by omega) (by omega) (by omega), bnd_some, two_inr, bnd_some]
theorem cut8 (js : List V76) : len (cut js 0 (imin (len js) 8)) ≤ 8 := by
  have h : (imin (len js) 8).toNat ≤ 8 := by unfold imin; split <;> omega
  show ((List.drop (0 : Int).toNat (List.take (imin (len js) 8).toNat js)).length : Int) ≤ 8
  rw [List.length_drop, List.length_take]
  omega
theorem Joint_first {k : Nat} (hk' : 100 < k) (l : List V49) (js : List V76) : ∀ (n : Nat) (i : Int), 0 ≤ i → len (cut js 0 (imin (len js) 8)) - i < (n : Int) → 0 < n → tourlaw2_JointSays.c1 k l js n i = some (.inr ()) := by
  have h8 := cut8 js
  intro n
  induction n with
  | zero => intro i _ _ h; omega
  | succ n ih =>
    intro i i0 i1 _
    rw [tourlaw2_JointSays.c1]
    by_cases c : i < len (cut js 0 (imin (len js) 8))
    · rw [ilt_pos c, bif_true, req_pos (inL_of i0 c), iadd_i64 (by omega) (by omega), ih (i + 1) (by omega) (by omega) (by omega)]
      obtain ⟨e, e1, e2, e3⟩ := jcheck hk' l [el Z76 (cut js 0 (imin (len js) 8)) i]
      rw [e2, bnd_some]
      by_cases h0 : e = 0
      · subst h0
        obtain ⟨⟨hA, hl⟩, _, hv⟩ := e3 rfl
        obtain ⟨hx, hm⟩ := hv 0 (by omega) (by show (0 : Int) < 1; omega)
        have e0 : el Z76 [el Z76 (cut js 0 (imin (len js) 8)) i] 0 = el Z76 (cut js 0 (imin (len js) 8)) i := rfl
        rw [e0] at hx hm
        obtain ⟨p, q, E1, W1, W2⟩ := ends_ok hk' hA hl hx hm
        obtain ⟨d, d1, d2⟩ := vsub_bd k q p
        obtain ⟨r, r1, _⟩ := vLen_eq (k := k) (by omega) (v := d) d2
        have G : joint_Gap k l (el Z76 (cut js 0 (imin (len js) 8)) i) = some ((imax (isub .i64 (CM r) (el Z76 (cut js 0 (imin (len js) 8)) i).2.2.2.2.1) (ineg .i64 (isub .i64 (CM r) (el Z76 (cut js 0 (imin (len js) 8)) i).2.2.2.2.1))), 0) := by
          unfold joint_Gap
          rw [E1, bnd_some]
          dsimp only
          rw [ine_neg rfl, bif_false, d1, bnd_some, r1, bnd_some]
        have c2 : ∀ a, tourlaw2_JointSays.c2 k 0 (p, q, 0) (a, 0) = some false := by
          intro a
          unfold tourlaw2_JointSays.c2
          dsimp only
          rw [ine_neg rfl, bif_false]
        have c4 : tourlaw2_JointSays.c4 k js i (p, q, 0) ((imax (isub .i64 (CM r) (el Z76 (cut js 0 (imin (len js) 8)) i).2.2.2.2.1) (ineg .i64 (isub .i64 (CM r) (el Z76 (cut js 0 (imin (len js) 8)) i).2.2.2.2.1))), 0) p q (CM r) = some false := by
          unfold tourlaw2_JointSays.c4
          dsimp only
          refine (congrArg (fun b => bif' b _ _) (eqb24_self p)).trans ?_
          rw [bif_true]
          refine (congrArg (fun b => bif' b _ _) (eqb24_self q)).trans ?_
          rw [bif_true, ine_neg rfl]
        obtain ⟨A0, AB, B1, _⟩ := id hx
        rw [E1, bnd_some, G, bnd_some, c2, bnd_some, bif_false, ine_neg rfl, bif_false, req_pos (inL_of A0 (by omega)), W1, bnd_some, req_pos (inL_of (by omega) B1), W2, bnd_some, d1, bnd_some, r1, bnd_some, c4, bnd_some, bif_false]
      · have E1 : joint_Ends k l (el Z76 (cut js 0 (imin (len js) 8)) i) = some ((0, 0, ()), (0, 0, ()), e) := by
          unfold joint_Ends
          rw [e1, bnd_some, ine_pos h0, bif_true]
        have G : joint_Gap k l (el Z76 (cut js 0 (imin (len js) 8)) i) = some (0, e) := by
          unfold joint_Gap
          rw [E1, bnd_some]
          dsimp only
          rw [ine_pos h0, bif_true]
        have c2 : tourlaw2_JointSays.c2 k e ((0, 0, ()), (0, 0, ()), e) (0, e) = some false := by
          unfold tourlaw2_JointSays.c2
          dsimp only
          rw [ine_neg rfl, bif_false]
        have c3 : tourlaw2_JointSays.c3 k ((0, 0, ()), (0, 0, ()), e) (0, e) = some false := by
          unfold tourlaw2_JointSays.c3
          dsimp only
          refine (congrArg (fun b => bif' b _ _) (eqb24_self ((0, 0, ()) : V27))).trans ?_
          rw [bif_true]
          refine (congrArg (fun b => bif' b _ _) (eqb24_self ((0, 0, ()) : V27))).trans ?_
          rw [bif_true, ine_neg rfl]
        rw [E1, bnd_some, G, bnd_some, c2, bnd_some, bif_false, ine_pos h0, bif_true, c3, bnd_some, bif_false]
    · rw [ilt_neg (by omega), bif_false]
theorem jbegun_eq : tourlaw2_jointBegun 1000 = some true := by kernel_rfl
theorem JointSays_true {k : Nat} (hk' : 100 < k) (hb : tourlaw2_jointBegun k = some true) (l : List V49) (js : List V76) (step rounds : Int) : tourlaw2_JointSays k l js step rounds = some true := by
  have hcut : cutOk js 0 (imin (len js) 8) := by
    have h : 0 ≤ imin (len js) 8 ∧ imin (len js) 8 ≤ len js := by
      have : 0 ≤ len js := by unfold len; omega
      unfold imin
      split <;> omega
    exact ⟨by omega, h.1, h.2⟩
  obtain ⟨e, e1, e2, e3⟩ := jcheck hk' l js
  unfold tourlaw2_JointSays
  rw [hb, bnd_some, bif_true, req_pos hcut, Joint_first hk' l js k 0 (by omega) (by have := cut8 js; omega) (by omega), bnd_some, two_inr, e1, e2]
  have nil0 : ieq (len ([] : List V49)) 0 = true := by decide
  by_cases h0 : e = 0
  · subst h0
    obtain ⟨⟨hA, hl⟩, hj, hv⟩ := e3 rfl
    by_cases hq : 1 ≤ step ∧ step ≤ 65536 ∧ 0 ≤ rounds ∧ rounds ≤ 32
    · obtain ⟨bs, a1, a2, a3, a4⟩ := Joint_all hk' hA hl hj hv hq.1 hq.2.1 hq.2.2.1 hq.2.2.2 e1
      have q1 : tourlaw2_JointSays.c5 k step rounds 0 = some false := by
        unfold tourlaw2_JointSays.c5
        rw [ieq_pos rfl, bif_true, ilt_neg (by omega), bif_false, igt_neg (by omega), bif_false, ilt_neg (by omega), bif_false, igt_neg (by omega)]
      have q2 : tourlaw2_JointSays.c6 k false 0 = some 0 := rfl
      rw [a1, bnd_some, bnd_some, bnd_some, ine_neg rfl, bif_false, q1, bnd_some, q2, bnd_some, ine_neg rfl, bif_false]
      dsimp only
      rw [ieq_pos rfl, bif_true, a2, bnd_some, sameBj hk' a3 a4, bnd_some]
    · have q0 : joint_Run.c1 k step rounds = some true := by
        unfold joint_Run.c1
        by_cases a : step < 1
        · rw [ilt_pos a, bif_true]
        · rw [ilt_neg (by omega), bif_false]
          by_cases b : 65536 < step
          · rw [igt_pos b, bif_true]
          · rw [igt_neg (by omega), bif_false]
            by_cases d : rounds < 0
            · rw [ilt_pos d, bif_true]
            · rw [ilt_neg (by omega), bif_false, igt_pos (by omega)]
      have q1 : tourlaw2_JointSays.c5 k step rounds 0 = some true := by
        unfold tourlaw2_JointSays.c5
        rw [ieq_pos rfl, bif_true]
        exact q0
      have hr : joint_Run k l js step rounds = some ([], 1) := by
        unfold joint_Run
        rw [e1, bnd_some, ine_neg rfl, bif_false, q0, bnd_some, bif_true]
      have q2 : tourlaw2_JointSays.c6 k true 0 = some 1 := rfl
      have q3 : tourlaw2_JointSays.c7 k 1 ([], 1) = some true := by
        unfold tourlaw2_JointSays.c7
        dsimp only
        rw [ieq_pos rfl, bif_true, nil0]
      rw [hr, bnd_some, bnd_some, bnd_some, ine_neg rfl, bif_false, q1, bnd_some, q2, bnd_some, ine_pos (by decide), bif_true, q3, bnd_some]
  · have hr : joint_Run k l js step rounds = some ([], e) := by
      unfold joint_Run
      rw [e1, bnd_some, ine_pos h0, bif_true]
    have q1 : tourlaw2_JointSays.c5 k step rounds e = some false := by
      unfold tourlaw2_JointSays.c5
      rw [ieq_neg h0, bif_false]
    have q2 : tourlaw2_JointSays.c6 k false e = some e := rfl
    have q3 : tourlaw2_JointSays.c7 k e ([], e) = some true := by
      unfold tourlaw2_JointSays.c7
      dsimp only
      rw [ieq_pos rfl, bif_true, nil0]
    rw [hr, bnd_some, bnd_some, bnd_some, ine_neg rfl, bif_false, q1, bnd_some, q2, bnd_some, ine_pos h0, bif_true, q3, bnd_some]
theorem tourlaw2_JointSays_plain (x : ((.pair (.slice T49) (.pair (.slice T76) (.pair T2 (.pair T2 .unit)))) : Ty).den) (_ : Ty.wf (.pair (.slice T49) (.pair (.slice T76) (.pair T2 (.pair T2 .unit)))) x) : ∃ k, (tourlaw2_JointSays.sp k).f x = some true := by
  obtain ⟨l, js, step, rounds, _⟩ := x
  obtain ⟨K, hK⟩ : ∃ K : Nat, K = 1000 := ⟨_, rfl⟩
  have hb := jbegun_eq
  rw [← hK] at hb
  exact ⟨K, JointSays_true (by omega) hb l js step rounds⟩
end Go.Proofs.T1
