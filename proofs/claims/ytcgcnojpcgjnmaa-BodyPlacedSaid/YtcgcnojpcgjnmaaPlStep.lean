/-
  Plain laws: no program in sight.
-/
import Derived.Test.YtcgcnojpcgjnmaaPlPush
namespace Go.Proofs.T1
open Go Go.Sx
section
variable {p v : V22} {ang spin mass inertia bounce rub : Int} {l : List V22} {asleep : Bool} {calm : Int}
theorem own_v {k : Nat} (hl : len l ≤ 8) : body_own k (p, v, ang, spin, mass, inertia, bounce, rub, l, asleep, calm, ()) = some (p, v, ang, spin, mass, inertia, bounce, rub, l, asleep, calm, ()) := own_room (by unfold len at hl; omega)
end
end Go.Proofs.T1
namespace Go.Proofs.T1
open Go Go.Sx

/-! Bodies that move, by the program and by the reference -/
theorem q_set {z : List V22} {i j : Int} {y : V22} (i0 : 0 ≤ i) (i1 : i < len z) (j0 : 0 ≤ j) : q (st z i y) j = if j = i then y else q z j := by
  obtain ⟨i, rfl⟩ := Int.eq_ofNat_of_zero_le i0
  obtain ⟨j, rfl⟩ := Int.eq_ofNat_of_zero_le j0
  have hi : i < z.length := by unfold len at i1; omega
  show (z.set i y).getD j Z22 = if (j : Int) = (i : Int) then y else z.getD j Z22
  rw [List.getD_eq_getElem?_getD, List.getD_eq_getElem?_getD, List.getElem?_set]
  by_cases c : j = i
  · subst c
    rw [if_pos rfl, if_pos hi, if_pos rfl]
    rfl
  · rw [if_neg (fun h => c h.symm), if_neg (by omega)]
theorem ext_q {a b : List V22} (h : a.length = b.length) (g : ∀ j, 0 ≤ j → j < len a → q a j = q b j) : a = b := by
  refine List.ext_getElem h fun n h1 h2 => ?_
  have := g n (by omega) (by unfold len; omega)
  have e1 : q a n = a[n] := by
    show a.getD n Z22 = _
    rw [List.getD_eq_getElem?_getD, List.getElem?_eq_getElem h1]
    rfl
  have e2 : q b n = b[n] := by
    show b.getD n Z22 = _
    rw [List.getD_eq_getElem?_getD, List.getElem?_eq_getElem h2]
    rfl
  rw [← e1, ← e2]
  exact this
section
variable {p v : V22} {ang spin mass inertia bounce rub : Int} {l : List V22} {asleep : Bool} {calm : Int}
theorem valid_parts {k : Nat} (hk : 9 ≤ k) (hc : body_Check k (p, v, ang, spin, mass, inertia, bounce, rub, l, asleep, calm, ()) = some 0) :
    Shp l 0 ∧ (Val l ∧ AllR l ∧ FatP l) ∧ R1 p v ang spin ∧ R2 mass inertia bounce rub calm ∧ R3 v spin mass inertia asleep calm := by
  obtain ⟨e, e1, h1⟩ := bodyCheck_gen hk (p := p) (v := v) (ang := ang) (spin := spin) (mass := mass) (inertia := inertia) (bounce := bounce) (rub := rub) (l := l) (asleep := asleep) (calm := calm)
  rw [hc] at e1
  cases e1
  rcases h1 with ⟨_, h⟩ | ⟨_, _, h⟩ | ⟨_, _, _, _, h⟩ | ⟨h, g, g2, g3, _⟩
  · exact absurd rfl h
  · cases h
  · cases h
  · refine ⟨h, ?_, g, g2, g3⟩
    rcases h with ⟨_, h⟩ | ⟨_, _, h⟩ | ⟨_, _, _, h⟩ | ⟨a, b, c, _, _⟩
    · exact absurd rfl h
    · cases h
    · cases h
    · exact ⟨a, b, c⟩
theorem valid_moved {k : Nat} (hk : 9 ≤ k) (hc : body_Check k (p, v, ang, spin, mass, inertia, bounce, rub, l, asleep, calm, ()) = some 0) {p' : V22} {ang' : Int} (hp : Bd p' 58982400) (ha : 0 ≤ ang' ∧ ang' ≤ 65535) :
    body_Check k (p', v, ang', spin, mass, inertia, bounce, rub, l, asleep, calm, ()) = some 0 := by
  obtain ⟨hS, _, hR, h2, h3⟩ := valid_parts hk hc
  obtain ⟨e, e1, h1⟩ := bodyCheck_gen hk (p := p') (v := v) (ang := ang') (spin := spin) (mass := mass) (inertia := inertia) (bounce := bounce) (rub := rub) (l := l) (asleep := asleep) (calm := calm)
  have := Bc_uniq h1 (Or.inr (Or.inr (Or.inr ⟨hS, ⟨hp, hR.2.1, hR.2.2.1, ha⟩, h2, h3, rfl⟩)))
  rw [e1, this]
theorem Place_both {k : Nat} (hk : 10 ≤ k) (hc : body_Check k (p, v, ang, spin, mass, inertia, bounce, rub, l, asleep, calm, ()) = some 0) :
    ∃ l', body_Place k (p, v, ang, spin, mass, inertia, bounce, rub, l, asleep, calm, ()) = some l' ∧ tourref2_Placed k (p, v, ang, spin, mass, inertia, bounce, rub, l, asleep, calm, ()) = some l' ∧ Val l' := by
  obtain ⟨_, ⟨⟨l3, l8, lw, le⟩, lr, lf⟩, ⟨bp, _, _, ba⟩, _, _⟩ := valid_parts (by omega) hc
  obtain ⟨l', e1, hv', hlen⟩ := Place_val hk hc
  unfold Bd at bp
  obtain ⟨c, s, tc, ts, c0, s0, D⟩ := trig_eq k ba.1 ba.2
  have ll : len l = (l.length : Int) := rfl
  -- what Place returns
  have isT : l' = tpl c s p l := by
    obtain ⟨z, a, b⟩ := inv_loop (fun n (z : List V22) i => body_Place.c1 k (p, v, ang, spin, mass, inertia, bounce, rub, l, asleep, calm, ()) n i z) 0 (len l) (fun z i => z = tpl c s p (l.take i.toNat))
      (by
        intro n z i i0 i1 hz
        have hr := lr i i0 i1
        obtain ⟨t, t1, t2⟩ := Turn_eq (k := k) (by omega) tc ts c0 s0 (v := q l i) (p := p) hr (by omega)
        refine ⟨z ++ [tp c s p (q l i)], ?_, ?_⟩
        · obtain ⟨i, rfl⟩ := Int.eq_ofNat_of_zero_le i0
          have hi : i < l.length := by omega
          have hq : q l (i : Int) = l[i] := by
            show l.getD i Z22 = _
            rw [List.getD_eq_getElem?_getD, List.getElem?_eq_getElem hi]
            rfl
          rw [hq, hz, show ((i : Int) + 1).toNat = i + 1 by omega, show ((i : Int)).toNat = i by omega]
          unfold tpl
          rw [List.take_succ_eq_append_getElem hi, List.map_append]
          rfl
        · show body_Place.c1 k (p, v, ang, spin, mass, inertia, bounce, rub, l, asleep, calm, ()) (n + 1) i z = _
          have t1 : vec_Turn k (el Z22 l i) ang = some t := t1
          rw [body_Place.c1]
          dsimp only
          rw [ilt_pos i1, bif_true, req_pos (inL_of i0 i1), t1, bnd_some, t2, bnd_some, iadd_i64 (by omega) (by omega)]
          refine req_pos ?_ _
          have hs : z.length ≤ 8 := by
            rw [hz]
            unfold tpl
            rw [List.length_map, List.length_take]
            omega
          show (z.length + 1) * 16 ≤ 140737488355328
          omega)
      (by
        intro n z i i0 i1
        show body_Place.c1 k (p, v, ang, spin, mass, inertia, bounce, rub, l, asleep, calm, ()) (n + 1) i z = some z
        rw [body_Place.c1]
        dsimp only
        rw [ilt_neg i1, bif_false])
      k [] 0 (by omega) (by omega) (by omega) rfl
    have b : body_Place.c1 k (p, v, ang, spin, mass, inertia, bounce, rub, l, asleep, calm, ()) k 0 [] = some z := b
    unfold body_Place at e1
    have hz : z = tpl c s p l := by rw [a, ll, show ((l.length : Nat) : Int).toNat = l.length by omega, List.take_length]
    rw [hc, bnd_some, ine_neg rfl, bif_false, b, bnd_some, req_pos (NE_of (by rw [hz, len_tpl]; omega))] at e1
    cases e1
    rw [a, ll, show ((l.length : Nat) : Int).toNat = l.length by omega, List.take_length]
  refine ⟨l', e1, ?_, hv'⟩
  rw [isT]
  have lm : len (mk0 Z22 (len l)) = len l := by
    unfold len mk0
    rw [List.length_replicate]
    omega
  obtain ⟨z, ⟨z1, z2⟩, b⟩ := inv_loop (fun n (z : List V22) i => tourref2_Placed.c1 k (p, v, ang, spin, mass, inertia, bounce, rub, l, asleep, calm, ()) n i z) 0 (len l) (fun z i => len z = len l ∧ ∀ j, 0 ≤ j → j < i → q z j = tp c s p (q l j))
    (by
      intro n z i i0 i1 ⟨h1, h2⟩
      have hr := lr i i0 i1
      obtain ⟨t, t1, t2⟩ := Turn_eq (k := k) (by omega) tc ts c0 s0 (v := q l i) (p := p) hr (by omega)
      have wl : tourref2_World k (p, v, ang, spin, mass, inertia, bounce, rub, l, asleep, calm, ()) (el Z22 l i) = some (tp c s p (q l i)) := by
        have t1 : vec_Turn k (el Z22 l i) ang = some t := t1
        unfold tourref2_World
        dsimp only
        rw [t1, bnd_some]
        exact t2
      refine ⟨st z i (tp c s p (q l i)), ⟨?_, fun j j0 j1 => ?_⟩, ?_⟩
      · rw [← h1]
        unfold len st
        rw [List.length_set]
      · rw [q_set i0 (by omega) j0]
        by_cases c : j = i
        · rw [if_pos c, c]
        · rw [if_neg c]; exact h2 j j0 (by omega)
      · show tourref2_Placed.c1 k (p, v, ang, spin, mass, inertia, bounce, rub, l, asleep, calm, ()) (n + 1) i z = _
        rw [tourref2_Placed.c1]
        dsimp only
        rw [lm, ilt_pos i1, bif_true, req_pos (inL_of i0 i1), wl, bnd_some, req_pos (inL_of i0 (by omega)), iadd_i64 (by omega) (by omega)])
    (by
      intro n z i i0 i1
      show tourref2_Placed.c1 k (p, v, ang, spin, mass, inertia, bounce, rub, l, asleep, calm, ()) (n + 1) i z = some z
      rw [tourref2_Placed.c1]
      dsimp only
      rw [lm, ilt_neg i1, bif_false])
    k (mk0 Z22 (len l)) 0 (by omega) (by omega) (by omega) ⟨lm, fun j a b => by omega⟩
  have b : tourref2_Placed.c1 k (p, v, ang, spin, mass, inertia, bounce, rub, l, asleep, calm, ()) k 0 (mk0 Z22 (len l)) = some z := b
  have hz : z = tpl c s p l := by
    have ln := len_tpl c s p l
    refine ext_q (by unfold len at z1 ln; omega) fun j j0 j1 => ?_
    rw [q_tpl j0 (by omega)]
    exact z2 j j0 (by omega)
  unfold tourref2_Placed
  dsimp only
  rw [req_pos (show mkOk 16 (len l) (len l) from ⟨rfl, by omega, by omega, by omega⟩), b, bnd_some, hz]
theorem while_eq (k : Nat) : ∀ (n : Nat) (x : Int), -(65536 * ((n : Int) - 1)) ≤ x → x ≤ 1000000000000 → 0 < n → n ≤ 10000000 → ∃ w, tourref2_Step.c1 k n x = some w ∧ 0 ≤ w ∧ w ≤ 1000000000000 ∧ w % 65536 = x % 65536 := by
  intro n
  induction n with
  | zero => intro x _ _ h; omega
  | succ n ih =>
    intro x h1 h2 _ h3
    rw [tourref2_Step.c1]
    by_cases c : x < 0
    · rw [ilt_pos c, bif_true, iadd_i64 (by omega) (by omega)]
      obtain ⟨w, e, w0, w1, w2⟩ := ih (x + 65536) (by omega) (by omega) (by omega) (by omega)
      exact ⟨w, e, w0, w1, by omega⟩
    · rw [ilt_neg (by omega), bif_false]
      exact ⟨x, rfl, by omega, h2, rfl⟩
theorem mod_eq {z : Int} (h0 : -1000000000 ≤ z) (h1 : z ≤ 1000000000) : irem (iadd .i64 (irem z 65536) 65536) 65536 = z % 65536 := by
  have r := irem_range z (m := 65536) (by decide)
  have t := Int.mul_tdiv_add_tmod z 65536
  have e : irem z 65536 = z.tmod 65536 := rfl
  rw [iadd_i64 (by omega) (by omega), irem_nonneg (by omega)]
  omega
/-- A body, later. -/
theorem Step_both {k : Nat} (hk : 300 ≤ k) (hk2 : k ≤ 10000000) (hc : body_Check k (p, v, ang, spin, mass, inertia, bounce, rub, l, asleep, calm, ()) = some 0) {t : Int} (t0 : 0 ≤ t) (t1 : t ≤ 65536) :
    ∃ p' ang', body_Move k (p, v, ang, spin, mass, inertia, bounce, rub, l, asleep, calm, ()) t = some (p', v, ang', spin, mass, inertia, bounce, rub, l, asleep, calm, ()) ∧
      tourref2_Step k (p, v, ang, spin, mass, inertia, bounce, rub, l, asleep, calm, ()) t = some (p', v, ang', spin, mass, inertia, bounce, rub, l, asleep, calm, ()) ∧ body_Check k (p', v, ang', spin, mass, inertia, bounce, rub, l, asleep, calm, ()) = some 0 := by
  obtain ⟨_, ⟨⟨l3, l8, lw, le⟩, lr, lf⟩, ⟨bp, bv, bs, ba⟩, _, _⟩ := valid_parts (by omega) hc
  have c1 : body_Move.c1 k t (p, v, ang, spin, mass, inertia, bounce, rub, l, asleep, calm, ()) = some (decide (mass = 0) || asleep) := by
    unfold body_Move.c1
    rw [hc, bnd_some, ine_neg rfl, bif_false]
    dsimp only
    by_cases hm : mass = 0
    · rw [ieq_pos hm, bif_true, decide_eq_true hm]; rfl
    · rw [ieq_neg hm, bif_false, decide_eq_false hm]
      cases asleep with
      | true => rfl
      | false => rw [bif_false, ilt_neg t0, bif_false, igt_neg t1]; rfl
  by_cases fr : mass = 0 ∨ asleep = true
  · refine ⟨p, ang, ?_, ?_, hc⟩
    · unfold body_Move
      rw [own_v l8, bnd_some, c1, bnd_some]
      have : (decide (mass = 0) || asleep) = true := by
        rcases fr with h | h
        · rw [decide_eq_true h]; rfl
        · rw [h]; simp
      rw [this, bif_true]
    · have hF : tourref2_Free k (p, v, ang, spin, mass, inertia, bounce, rub, l, asleep, calm, ()) = some false := by
        rw [Free_eq]
        rcases fr with h | h
        · rw [decide_eq_false (fun g => g h)]; rfl
        · rw [h]; simp
      unfold tourref2_Step
      rw [hF, bnd_some, bif_false]
  have hm : mass ≠ 0 := fun h => fr (Or.inl h)
  have ha : asleep = false := by
    cases asleep with
    | false => rfl
    | true => exact absurd (Or.inr rfl) fr
  have cl : ∀ x : Int, ∃ y, body_clamp k x 58982400 = some y ∧ tourref2_nearest k x 58982400 = some y ∧ -58982400 ≤ y ∧ y ≤ 58982400 := by
    intro x
    have e := clamp_tot k x (m := 58982400) (by decide) (by decide)
    refine ⟨_, e, ?_, ?_⟩
    · rw [near_clamp k x (by decide) (by decide), e]
    · split <;> (try split) <;> omega
  obtain ⟨x, ex, ex2, x0, x1⟩ := cl (iadd .i64 p.1 (CM (rnd (CM v.1 * CM t) 65536)))
  obtain ⟨y, ey, ey2, y0, y1⟩ := cl (iadd .i64 p.2.1 (CM (rnd (CM v.2.1 * CM t) 65536)))
  have sb := mul_bd (x := spin) (y := t) (M := 16777216) (N := 65536) (by omega) (by omega) (by omega) t1
  have sr := rnd_bd (x := spin * t) (n := 65536) (c := 16777216) (by decide) (by omega) (by omega)
  have es : CM (rnd (CM spin * CM t) 65536) = rnd (spin * t) 65536 := by rw [CM_in (x := spin) (by omega) (by omega), CM_in (x := t) (by omega) (by omega), CM_in (by omega) (by omega)]
  obtain ⟨w, ew, w0, w1, wm⟩ := while_eq k k (ang + rnd (spin * t) 65536) (by omega) (by omega) (by omega) hk2
  have ai : iadd .i64 ang (rnd (spin * t) 65536) = ang + rnd (spin * t) 65536 := iadd_i64 (by omega) (by omega)
  have am := mod_eq (z := ang + rnd (spin * t) 65536) (by omega) (by omega)
  have wr : irem w 65536 = (ang + rnd (spin * t) 65536) % 65536 := by rw [irem_nonneg w0, wm]
  refine ⟨(x, y, ()), (ang + rnd (spin * t) 65536) % 65536, ?_, ?_, valid_moved (by omega) hc ⟨x0, x1, y0, y1⟩ (by omega)⟩
  · unfold body_Move
    rw [own_v l8, bnd_some, c1, bnd_some, decide_eq_false hm, ha]
    show bif' false _ _ = _
    rw [bif_false]
    dsimp only
    rw [FMul_tot (by omega), bnd_some, ex, bnd_some, FMul_tot (by omega), bnd_some, ey, bnd_some, FMul_tot (by omega), bnd_some, es, ai, am]
  · unfold tourref2_Step
    rw [Free_eq, bnd_some, decide_eq_true hm, ha]
    show bif' true _ _ = _
    rw [bif_true]
    dsimp only
    rw [FMul_tot (by omega), bnd_some, Int.mul_comm (CM t) (CM v.1), ex2, bnd_some, FMul_tot (by omega), bnd_some, Int.mul_comm (CM t) (CM v.2.1), ey2, bnd_some, FMul_tot (by omega), bnd_some, Int.mul_comm (CM t) (CM spin), es, ai, ew, bnd_some, wr]
end
end Go.Proofs.T1
