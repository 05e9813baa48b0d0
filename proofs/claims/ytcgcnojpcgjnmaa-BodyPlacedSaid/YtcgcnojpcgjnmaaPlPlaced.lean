/-
  Plain laws: no program in sight.
-/
import Derived.Test.YtcgcnojpcgjnmaaPlHull
namespace Go.Proofs.T1
open Go Go.Sx

/-! BodyPlaced -/
theorem lin_both {l : List V22} (h3 : 3 ≤ len l) (he : EdgeP l) (h : InP l Z22) (A B : Int) :
    (∃ i, 0 ≤ i ∧ i < len l ∧ A * (q l i).1 + B * (q l i).2.1 ≤ 0) ∧ (∃ j, 0 ≤ j ∧ j < len l ∧ 0 ≤ A * (q l j).1 + B * (q l j).2.1) := by
  have one : ∀ A B : Int, ∃ i, 0 ≤ i ∧ i < len l ∧ A * (q l i).1 + B * (q l i).2.1 ≤ 0 := by
    intro A B
    obtain ⟨x, y, z, α, β, γ, D, hx, hy, hz, a0, b0, c0, d0, e1, e2, e3⟩ := HIn_fan (X := 0) (Y := 0) (w := 1) h3 he (by decide) (HIn_one.2 h)
    rcases Int.lt_or_le 0 (A * (q l x).1 + B * (q l x).2.1) with fx | fx
    · rcases Int.lt_or_le 0 (A * (q l y).1 + B * (q l y).2.1) with fy | fy
      · rcases Int.lt_or_le 0 (A * (q l z).1 + B * (q l z).2.1) with fz | fz
        · exfalso
          have s : α * (A * (q l x).1 + B * (q l x).2.1) + β * (A * (q l y).1 + B * (q l y).2.1) + γ * (A * (q l z).1 + B * (q l z).2.1) = 0 := by
            have t : α * (A * (q l x).1 + B * (q l x).2.1) + β * (A * (q l y).1 + B * (q l y).2.1) + γ * (A * (q l z).1 + B * (q l z).2.1) =
                A * (α * (q l x).1 + β * (q l y).1 + γ * (q l z).1) + B * (α * (q l x).2.1 + β * (q l y).2.1 + γ * (q l z).2.1) := by grind
            rw [t, ← e2, ← e3]
            simp
          have t : ∀ {u f : Int}, 0 ≤ u → 0 < f → u ≤ u * f := fun {u f} hu hf => by
            have := Int.mul_le_mul_of_nonneg_left (show 1 ≤ f by omega) hu
            omega
          have t1 := t a0 fx
          have t2 := t b0 fy
          have t3 := t c0 fz
          omega
        · exact ⟨z, hz.1, hz.2, fz⟩
      · exact ⟨y, hy.1, hy.2, fy⟩
    · exact ⟨x, hx.1, hx.2, fx⟩
  refine ⟨one A B, ?_⟩
  obtain ⟨j, j0, j1, h⟩ := one (-A) (-B)
  refine ⟨j, j0, j1, ?_⟩
  have : -A * (q l j).1 + -B * (q l j).2.1 = -(A * (q l j).1 + B * (q l j).2.1) := by grind
  omega
section
variable {p v : V22} {ang spin mass inertia bounce rub : Int} {l : List V22} {asleep : Bool} {calm : Int}
/-- The corners that Place returns, written out. -/
theorem Place_tpl {k : Nat} (hk : 10 ≤ k) (hc : body_Check k (p, v, ang, spin, mass, inertia, bounce, rub, l, asleep, calm, ()) = some 0) :
    ∃ c s, body_Place k (p, v, ang, spin, mass, inertia, bounce, rub, l, asleep, calm, ()) = some (tpl c s p l) ∧ trig_Cos k ang = some c ∧ trig_Sin k ang = some s ∧ (-65536 ≤ c ∧ c ≤ 65536) ∧ (-65536 ≤ s ∧ s ≤ 65536) ∧ 4100000000 ≤ c * c + s * s := by
  obtain ⟨_, ⟨⟨l3, l8, lw, le⟩, lr, lf⟩, ⟨bp, _, _, ba⟩, _, _⟩ := valid_parts (by omega) hc
  obtain ⟨l', e1, hv', hlen⟩ := Place_val hk hc
  unfold Bd at bp
  obtain ⟨c, s, tc, ts, c0, s0, D⟩ := trig_eq k ba.1 ba.2
  have ll : len l = (l.length : Int) := rfl
  refine ⟨c, s, ?_, tc, ts, c0, s0, D⟩
  obtain ⟨z, a, b⟩ := inv_loop (fun n (z : List V22) i => body_Place.c1 k (p, v, ang, spin, mass, inertia, bounce, rub, l, asleep, calm, ()) n i z) 0 (len l) (fun z i => z = tpl c s p (l.take i.toNat))
    (by
      intro n z i i0 i1 hz
      have hr := lr i i0 i1
      obtain ⟨t, t1, t2⟩ := Turn_eq (k := k) (by omega) tc ts c0 s0 (v := q l i) (p := p) hr (by omega)
      refine ⟨z ++ [tp c s p (q l i)], ?_, ?_⟩
      · obtain ⟨i, rfl⟩ := Int.eq_ofNat_of_zero_le i0
        have hi : i < l.length := by omega
        have hq : q l (i : Int) = l[i] := by
          show l.getD i Z22 = _
          rw [List.getD_eq_getElem?_getD, List.getElem?_eq_getElem hi]
          rfl
        rw [hq, hz, show ((i : Int) + 1).toNat = i + 1 by omega, show ((i : Int)).toNat = i by omega]
        unfold tpl
        rw [List.take_succ_eq_append_getElem hi, List.map_append]
        rfl
      · show body_Place.c1 k (p, v, ang, spin, mass, inertia, bounce, rub, l, asleep, calm, ()) (n + 1) i z = _
        have t1 : vec_Turn k (el Z22 l i) ang = some t := t1
        rw [body_Place.c1]
        dsimp only
        rw [ilt_pos i1, bif_true, req_pos (inL_of i0 i1), t1, bnd_some, t2, bnd_some, iadd_i64 (by omega) (by omega)]
        refine req_pos ?_ _
        have hs : z.length ≤ 8 := by
          rw [hz]
          unfold tpl
          rw [List.length_map, List.length_take]
          omega
        show (z.length + 1) * 16 ≤ 140737488355328
        omega)
    (by
      intro n z i i0 i1
      show body_Place.c1 k (p, v, ang, spin, mass, inertia, bounce, rub, l, asleep, calm, ()) (n + 1) i z = some z
      rw [body_Place.c1]
      dsimp only
      rw [ilt_neg i1, bif_false])
    k [] 0 (by omega) (by omega) (by omega) rfl
  have b : body_Place.c1 k (p, v, ang, spin, mass, inertia, bounce, rub, l, asleep, calm, ()) k 0 [] = some z := b
  unfold body_Place at e1 ⊢
  have hz : z = tpl c s p l := by rw [a, ll, show ((l.length : Nat) : Int).toNat = l.length by omega, List.take_length]
  rw [hc, bnd_some, ine_neg rfl, bif_false, b, bnd_some, req_pos (NE_of (by rw [hz, len_tpl]; omega)), hz]
end
theorem tp_near {c s : Int} {p v : V22} : (c * v.1 + -s * v.2.1 ≤ 0 → (tp c s p v).1 ≤ p.1 + 1) ∧ (0 ≤ c * v.1 + -s * v.2.1 → p.1 - 1 ≤ (tp c s p v).1) ∧
    (s * v.1 + c * v.2.1 ≤ 0 → (tp c s p v).2.1 ≤ p.2.1 + 1) ∧ (0 ≤ s * v.1 + c * v.2.1 → p.2.1 - 1 ≤ (tp c s p v).2.1) := by
  have k1 := rerr (x := v.1 * c) (n := 65536) (by decide)
  have k2 := rerr (x := v.2.1 * s) (n := 65536) (by decide)
  have k3 := rerr (x := v.1 * s) (n := 65536) (by decide)
  have k4 := rerr (x := v.2.1 * c) (n := 65536) (by decide)
  have e1 : c * v.1 + -s * v.2.1 = v.1 * c - v.2.1 * s := by grind
  have e2 : s * v.1 + c * v.2.1 = v.1 * s + v.2.1 * c := by grind
  rw [e1, e2]
  unfold tp
  dsimp only
  omega
theorem pushes_100 : tourkeep2_pushes 100 = some true := by kernel_rfl
theorem BodyPlaced_true {K : Nat} (hK : K = 100) (raw : List Int) : tourkeep2_BodyPlaced K raw = some true := by
  obtain ⟨p, v, ang, spin, mass, inertia, bounce, rub, l, e1, hm⟩ := Body_made K raw
  have hc := hm.check (k := K) (by omega)
  obtain ⟨hS, ⟨⟨l3, l8, lw, le⟩, lr, lf⟩, ⟨bp, _, _, ba⟩, _, _⟩ := valid_parts (by omega) hc
  have hin : InP l Z22 := by
    rcases hS with ⟨_, h⟩ | ⟨_, _, h⟩ | ⟨_, _, _, h⟩ | ⟨_, _, _, h, _⟩
    · exact absurd rfl h
    · cases h
    · cases h
    · exact h
  obtain ⟨c, s, a1, _, _, c0, s0, D⟩ := Place_tpl (k := K) (by omega) hc
  obtain ⟨l', a1', hv, hlen⟩ := Place_val (k := K) (by omega) hc
  have el' : l' = tpl c s p l := by rw [a1] at a1'; cases a1'; rfl
  have ll : len l = (l.length : Int) := rfl
  have ll' : len l' = (l'.length : Int) := rfl
  have hB := Bounds_box (X := (p, v, ang, spin, mass, inertia, bounce, rub, l, false, 0, ())) (k := K) (by omega) a1' (by omega) (by omega)
  have lo : ∀ j : Int, 0 ≤ j → j < len l' → rmn (fx l') (l'.length - 1) ≤ (q l' j).1 ∧ (q l' j).1 ≤ rmx (fx l') (l'.length - 1) ∧ rmn (fy l') (l'.length - 1) ≤ (q l' j).2.1 ∧ (q l' j).2.1 ≤ rmx (fy l') (l'.length - 1) := by
    intro j j0 j1
    obtain ⟨j, rfl⟩ := Int.eq_ofNat_of_zero_le j0
    exact ⟨rmn_le (fx l') _ j (by omega), rmx_ge (fx l') _ j (by omega), rmn_le (fy l') _ j (by omega), rmx_ge (fy l') _ j (by omega)⟩
  have c1 : tourkeep2_BodyPlaced.c1 K (p, v, ang, spin, mass, inertia, bounce, rub, l, false, 0, ()) l' (boxOf l') = some false := by
    have g := lo 0 (by omega) (by omega)
    unfold tourkeep2_BodyPlaced.c1
    dsimp only
    rw [hK, pushes_100, ← hK, bnd_some, bif_true, Check_val (by omega) hv, bnd_some, ine_neg rfl, bif_false, ine_neg hlen, bif_false]
    unfold sweep_Valid boxOf
    dsimp only
    rw [ile_pos (by omega), bif_true, ile_pos (by omega)]
    rfl
  have c2 : tourkeep2_BodyPlaced.c2 K l' (boxOf l') K 0 = some (.inr ()) := by
    rcases find_loop (fun n i => tourkeep2_BodyPlaced.c2 K l' (boxOf l') n i) 0 (len l') (fun _ => False) (fun _ => ())
      (fun n i i0 i1 h => h.elim)
      (by
        intro n i i0 i1 _
        have g := lo i i0 i1
        have eq : q l' i = el Z22 l' i := rfl
        rw [eq] at g
        show tourkeep2_BodyPlaced.c2 K l' (boxOf l') (n + 1) i = _
        have c3 : tourkeep2_BodyPlaced.c3 K i l' (boxOf l') = some false := by
          unfold tourkeep2_BodyPlaced.c3 boxOf
          dsimp only
          rw [ilt_neg g.1, bif_false, igt_neg g.2.1, bif_false, ilt_neg g.2.2.1, bif_false, igt_neg g.2.2.2]
        rw [tourkeep2_BodyPlaced.c2, ilt_pos i1, bif_true, req_pos (inL_of i0 i1), c3, bnd_some, bif_false, iadd_i64 (by omega) (by omega)])
      (by
        intro n i i0 i1
        show tourkeep2_BodyPlaced.c2 K l' (boxOf l') (n + 1) i = _
        rw [tourkeep2_BodyPlaced.c2, ilt_neg (by omega), bif_false])
      K 0 (by omega) (by omega) with ⟨_, _, _, h, _⟩ | ⟨_, h⟩
    · exact h.elim
    · exact h (by omega)
  unfold tourkeep2_BodyPlaced
  rw [e1, bnd_some, a1', bnd_some, hB, bnd_some, c1, bnd_some, bif_false, c2, bnd_some, two_inr]
  unfold Bd at bp
  have bd := hv.2.2.1
  have tq : ∀ j, 0 ≤ j → j < len l → q l' j = tp c s p (q l j) := fun j j0 j1 => by rw [el']; exact q_tpl j0 j1
  obtain ⟨⟨i1, i10, i11, f1⟩, ⟨i2, i20, i21, f2⟩⟩ := lin_both (by omega) le hin c (-s)
  obtain ⟨⟨i3, i30, i31, f3⟩, ⟨i4, i40, i41, f4⟩⟩ := lin_both (by omega) le hin s c
  have t1 := (tp_near (c := c) (s := s) (p := p) (v := q l i1)).1 f1
  have t2 := (tp_near (c := c) (s := s) (p := p) (v := q l i2)).2.1 f2
  have t3 := (tp_near (c := c) (s := s) (p := p) (v := q l i3)).2.2.1 f3
  have t4 := (tp_near (c := c) (s := s) (p := p) (v := q l i4)).2.2.2 f4
  rw [← tq i1 i10 i11] at t1
  rw [← tq i2 i20 i21] at t2
  rw [← tq i3 i30 i31] at t3
  rw [← tq i4 i40 i41] at t4
  have b1 := lo i1 i10 (by omega)
  have b2 := lo i2 i20 (by omega)
  have b3 := lo i3 i30 (by omega)
  have b4 := lo i4 i40 (by omega)
  have w1 := bd i1 i10 (by omega)
  have w2 := bd i2 i20 (by omega)
  have w3 := bd i3 i30 (by omega)
  have w4 := bd i4 i40 (by omega)
  unfold Wn at w1 w2 w3 w4
  -- the box is within bounds too
  have rb : ∀ f : Nat → Int, (∀ j, j ≤ l'.length - 1 → -65536000 ≤ f j ∧ f j ≤ 65536000) → (-65536000 ≤ rmn f (l'.length - 1) ∧ rmn f (l'.length - 1) ≤ 65536000) ∧ (-65536000 ≤ rmx f (l'.length - 1) ∧ rmx f (l'.length - 1) ≤ 65536000) := by
    intro f
    generalize l'.length - 1 = n
    induction n with
    | zero => intro h; exact ⟨h 0 (Nat.le_refl _), h 0 (Nat.le_refl _)⟩
    | succ n ih =>
      intro h
      have a := ih fun j hj => h j (by omega)
      have b := h (n + 1) (Nat.le_refl _)
      have e1 : rmn f (n + 1) = imin (rmn f n) (f (n + 1)) := rfl
      have e2 : rmx f (n + 1) = imax (rmx f n) (f (n + 1)) := rfl
      rw [e1, e2]
      unfold imin imax
      constructor <;> split <;> omega
  have r1 := rb (fx l') (fun j hj => by have := bd j (by omega) (by omega); unfold Wn at this; exact ⟨this.1, this.2.1⟩)
  have r2 := rb (fy l') (fun j hj => by have := bd j (by omega) (by omega); unfold Wn at this; exact ⟨this.2.2.1, this.2.2.2⟩)
  unfold boxOf
  dsimp only
  rw [isub_i64 (by omega) (by omega), iadd_i64 (by omega) (by omega), isub_i64 (by omega) (by omega), iadd_i64 (by omega) (by omega), ige_pos (by omega), bif_true, ile_pos (by omega), bif_true, ige_pos (by omega), bif_true, ile_pos (by omega)]
theorem tourkeep2_BodyPlaced_plain (x : ((.pair T49 .unit) : Ty).den) (_ : Ty.wf (.pair T49 .unit) x) : ∃ k, (tourkeep2_BodyPlaced.sp k).f x = some true := by
  obtain ⟨K, hK⟩ : ∃ K : Nat, K = 100 := ⟨_, rfl⟩
  exact ⟨K, BodyPlaced_true hK x.1⟩
end Go.Proofs.T1
