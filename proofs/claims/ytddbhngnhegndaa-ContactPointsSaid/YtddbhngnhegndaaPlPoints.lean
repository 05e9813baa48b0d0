/-
  Plain laws: no program in sight.
-/
import Derived.Test.YtddbhngnhegndaaPlClip
import Derived.Test.YtddbhngnhegndaaG6
namespace Go.Proofs.T1
open Go Go.Sx

/-! The edge that faces a direction -/
theorem ilt_cmp (a b : Int) : ilt (cmpI a b) 0 = decide (a < b) := by
  unfold ilt cmpI
  refine decide_eq_decide.2 ?_
  split
  · exact ⟨fun _ => by assumption, fun _ => by decide⟩
  · split
    · exact ⟨fun h => absurd h (by decide), fun h => by omega⟩
    · exact ⟨fun h => absurd h (by decide), fun h => by omega⟩
theorem dt_ng (a n : V28) : dt a (ng n) = - dt a n := by unfold dt ng; grind
theorem irem_pv {n i : Int} (i0 : 0 ≤ i) (i1 : i < n) (h : n ≤ 1000) : irem (isub .i64 (iadd .i64 i n) 1) n = pv n i := by
  rw [iadd_i64 (by omega) (by omega), isub_i64 (by omega) (by omega)]
  unfold irem pv
  rw [Int.tmod_eq_emod_of_nonneg (by omega)]
  split
  · rename_i c
    rw [c]
    exact (Int.emod_eq_of_lt (by omega) (by omega)).trans (by omega)
  · have e : i + n - 1 = (i - 1) + n * 1 := by omega
    rw [e, Int.add_mul_emod_self_left]
    exact Int.emod_eq_of_lt (by omega) (by omega)
def facV (l : List V28) (n : V28) (i : Int) : Int := if dt (q l (pv (len l) i)) n < dt (q l (nx (len l) i)) n then pv (len l) i else i
theorem facV_range {l : List V28} {n : V28} {i : Int} (i0 : 0 ≤ i) (i1 : i < len l) : 0 ≤ facV l n i ∧ facV l n i < len l := by
  have := pv_range i0 i1
  unfold facV
  split <;> omega
theorem facing_c1 {k : Nat} (hk : 10 ≤ k) {l : List V28} (l3 : 3 ≤ len l) (l8 : len l ≤ 8) (hw : AllW l) {n : V28} (hn : Ww n) : ∃ s, contact_facing.c1 k l n k 0 0 = some s ∧ FarP l (ng n) s := by
  have dd : ∀ i, 0 ≤ i → i < len l → contact_dot k (el Z28 l i) n = some (dt (q l i) n) := fun i i0 i1 => cdot_eq k (W_w (hw i i0 i1)) hn
  obtain ⟨s, ⟨_, h⟩, e⟩ := inv_loop (fun f s v => contact_facing.c1 k l n f s v) 0 (len l) (fun s v => (v = 0 → s = 0) ∧ (0 < v → 0 ≤ s ∧ s < v ∧ ∀ j, 0 ≤ j → j < v → dt (q l s) n < dt (q l j) n ∨ (dt (q l s) n = dt (q l j) n ∧ s ≤ j)))
    (by
      intro f s v v0 v1 ⟨h1, h2⟩
      have hs : 0 ≤ s ∧ s < len l := by
        by_cases c : v = 0
        · rw [h1 c]; omega
        · have := h2 (by omega); omega
      show ∃ s', _ ∧ contact_facing.c1 k l n (f + 1) s v = contact_facing.c1 k l n f s' (v + 1)
      rw [contact_facing.c1, ilt_pos v1, bif_true, req_pos (inL_of v0 v1), dd v v0 v1, bnd_some, req_pos (inL_of hs.1 hs.2), dd s hs.1 hs.2, bnd_some, iadd_i64 (by omega) (by omega)]
      by_cases c : dt (q l v) n < dt (q l s) n
      · rw [ilt_pos c, bif_true]
        refine ⟨v, ⟨fun h => by omega, fun _ => ⟨v0, by omega, fun j j0 j1 => ?_⟩⟩, rfl⟩
        by_cases d : j = v
        · subst d; exact Or.inr ⟨rfl, Int.le_refl _⟩
        · have := (h2 (by omega)).2.2 j j0 (by omega)
          left
          omega
      · rw [ilt_neg (by omega), bif_false]
        refine ⟨s, ⟨fun h => by omega, fun _ => ?_⟩, rfl⟩
        by_cases d : v = 0
        · have s0 := h1 d
          refine ⟨by omega, by omega, fun j j0 j1 => ?_⟩
          have : j = s := by omega
          subst this
          exact Or.inr ⟨rfl, Int.le_refl _⟩
        · obtain ⟨a, b, g⟩ := h2 (by omega)
          refine ⟨a, by omega, fun j j0 j1 => ?_⟩
          by_cases d2 : j = v
          · subst d2
            by_cases g2 : dt (q l s) n = dt (q l j) n
            · exact Or.inr ⟨g2, by omega⟩
            · exact Or.inl (by omega)
          · exact g j j0 (by omega))
    (by
      intro f s v v0 v1
      show contact_facing.c1 k l n (f + 1) s v = some s
      rw [contact_facing.c1, ilt_neg v1, bif_false])
    k 0 0 (by omega) (by omega) (by omega) ⟨fun _ => rfl, fun h => by omega⟩
  obtain ⟨a, b, g⟩ := h (by omega)
  refine ⟨s, e, a, b, fun j j0 j1 => ?_⟩
  rw [dt_ng, dt_ng]
  have := g j j0 j1
  omega
/-! How deep a point is -/
def tv (l : List V28) (e : Int) (x : V28) : Int := tri (q l e) (q l (nx (len l) e)) x
noncomputable def dv (l : List V28) (e : Int) (x : V28) : Int := rnd (tv l e x) (lenN l e)
theorem deep_V {k : Nat} (hk : 40 ≤ k) {l : List V28} (h : Val l) {e : Int} (e0 : 0 ≤ e) (e1 : e < len l) {x : V28} (hx : Wn x) : contact_Of_1 k x (q l e) (outw l e) = some (dv l e x, decide (0 ≤ tv l e x)) := by
  have hn := nx_range e0 e1
  have h1 := h.2.2.1 e e0 e1
  have ob := outw_bd h.2.2.1 e0 e1
  have ht := tri_range h1 (h.2.2.1 _ hn.1 hn.2) hx
  obtain ⟨f1, l0, l1, _⟩ := Length_eq (k := k) hk h e0 e1
  have ed : (sb (q l e) x).1 * (outw l e).1 + (sb (q l e) x).2.1 * (outw l e).2.1 = tri (q l e) (q l (nx (len l) e)) x := by unfold outw tri sb; dsimp only; grind
  have ow : Ww (outw l e) := ob
  have d := cdot_eq k (sb_W h1 hx) ow
  rw [ed] at d
  obtain ⟨w, g1, g2, g3⟩ := Times_eq k (a := tri (q l e) (q l (nx (len l) e)) x) (b := 1) (by omega) (by omega) (by decide) (by decide)
  have rb := rnd_in (d := tri (q l e) (q l (nx (len l) e)) x) l0 (c := 34359738368000000) (by decide) ht.1 ht.2
  unfold contact_Of_1
  rw [cminus_eq k h1 hx, bnd_some, d, bnd_some, g1, bnd_some, f1, bnd_some, Over_pos (by omega) g2 l0 (by omega), g3, Int.mul_one, fit_in (by omega), bnd_some]
  rfl

/-! The points of contact -/
def PT : Type := V28 × (V28 × V28)
noncomputable def ptv (l : List V28) (e : Int) (u : V28) (id : Int) (x : V28) (i : Int) : V28 × (V28 × V28) := (x, u, dv l e x, id + i, ())
open Classical in
noncomputable def ptl (l : List V28) (e : Int) (u : V28) (id : Int) (ok : Bool) (x y : V28) : List (V28 × (V28 × V28)) :=
  (if ok = true ∧ 0 ≤ tv l e x then [ptv l e u id x 0] else []) ++ (if ok = true ∧ 0 ≤ tv l e y ∧ ¬ y = x then [ptv l e u id y 1] else [])
section
variable {k : Nat} {ref inc : List V28} {e d : Int} {u : V28} {s ok : Bool} {x y : V28} {id kk : Int}
open Classical in
theorem Of_c4 (hk : 40 ≤ k) (hv : Val ref) (e0 : 0 ≤ e) (e1 : e < len ref) (hx : Wn x) (hy : Wn y) {idx : Int} {b1 : Bool} {b2 b3 d' : Int} {b4 : Bool} (hid : imul .i64 (iadd .i64 (imul .i64 idx 8) kk) 2 = id) (id0 : 0 ≤ id) (id1 : id ≤ 1000) (f : Nat) :
    contact_Of.c4 k (ref, inc, idx) (ok, x, y) ((s, e, d, ()), b1, b2) (b4, b3, u) (outw ref e) kk (f + 3) 0 [] = some (ptl ref e u id ok x y) := by
  have hl : len [x, y] = 2 := rfl
  have g0 : el Z28 [x, y] 0 = x := rfl
  have g1 : el Z28 [x, y] 1 = y := rfl
  have gr : el Z28 ref e = q ref e := rfl
  have last : ∀ l, contact_Of.c4 k (ref, inc, idx) (ok, x, y) ((s, e, d, ()), b1, b2) (b4, b3, u) (outw ref e) kk (f + 1) 2 l = some l := by
    intro l
    rw [contact_Of.c4]
    dsimp only
    rw [hl, ilt_neg (by decide), bif_false]
  have c5a : ∀ dd, contact_Of.c5 k (ok, x, y) 0 (dd, decide (0 ≤ tv ref e x)) = some (decide (ok = true ∧ 0 ≤ tv ref e x)) := by
    intro dd
    unfold contact_Of.c5
    dsimp only
    cases ok with
    | false => rw [bif_false, decide_eq_false (fun h => (by cases h.1))]
    | true =>
      rw [bif_true]
      by_cases c : 0 ≤ tv ref e x
      · rw [decide_eq_true c, bif_true, ieq_pos rfl, bif_true, decide_eq_true ⟨rfl, c⟩]
      · rw [decide_eq_false c, bif_false, decide_eq_false (fun h => c h.2)]
  have c5b : ∀ dd, contact_Of.c5 k (ok, x, y) 1 (dd, decide (0 ≤ tv ref e y)) = some (decide (ok = true ∧ 0 ≤ tv ref e y ∧ ¬ y = x)) := by
    intro dd
    unfold contact_Of.c5
    dsimp only
    cases ok with
    | false => rw [bif_false, decide_eq_false (fun h => (by cases h.1))]
    | true =>
      rw [bif_true]
      by_cases c : 0 ≤ tv ref e y
      · rw [decide_eq_true c, bif_true, ieq_neg (by decide), bif_false]
        by_cases g : y = x
        · refine (congrArg (fun b => some (!b)) ((eqb24 y x).trans (decide_eq_true g))).trans ?_
          rw [decide_eq_false (fun h => h.2.2 g)]
          rfl
        · refine (congrArg (fun b => some (!b)) ((eqb24 y x).trans (decide_eq_false g))).trans ?_
          rw [decide_eq_true ⟨rfl, c, g⟩]
          rfl
      · rw [decide_eq_false c, bif_false, decide_eq_false (fun h => c h.2.1)]
  have s1 : ∀ l : List (V28 × (V28 × V28)), l.length ≤ 2 → contact_Of.c4 k (ref, inc, idx) (ok, x, y) ((s, e, d, ()), b1, b2) (b4, b3, u) (outw ref e) kk (f + 2) 1 l = some (l ++ (if ok = true ∧ 0 ≤ tv ref e y ∧ ¬ y = x then [ptv ref e u id y 1] else [])) := by
    intro l hll
    rw [contact_Of.c4]
    dsimp only
    rw [hl, ilt_pos (by decide), bif_true, req_pos (inL_of (by decide) (by rw [hl]; decide)), g1, gr, deep_V hk hv e0 e1 hy, bnd_some, c5b, bnd_some, hid, iadd_i64 (by omega) (by omega), iadd_i64 (by decide) (by decide)]
    by_cases c : ok = true ∧ 0 ≤ tv ref e y ∧ ¬ y = x
    · rw [decide_eq_true c, bif_true, if_pos c]
      refine (req_pos (show room 48 l [((y, u, dv ref e y, id + 1, ()) : V28 × (V28 × V28))] by show (l.length + 1) * 48 ≤ 140737488355328; omega) _).trans ?_
      exact last _
    · rw [decide_eq_false c, bif_false, if_neg c, List.append_nil]
      exact last _
  rw [contact_Of.c4]
  dsimp only
  rw [hl, ilt_pos (by decide), bif_true, req_pos (inL_of (by decide) (by rw [hl]; decide)), g0, gr, deep_V hk hv e0 e1 hx, bnd_some, c5a, bnd_some, hid, iadd_i64 (by omega) (by omega), iadd_i64 (by decide) (by decide)]
  unfold ptl
  by_cases c : ok = true ∧ 0 ≤ tv ref e x
  · rw [decide_eq_true c, bif_true, if_pos c]
    refine (req_pos (show room 48 ([] : List (V28 × (V28 × V28))) [((x, u, dv ref e x, id + 0, ()) : V28 × (V28 × V28))] by show (0 + 1) * 48 ≤ 140737488355328; decide) _).trans ?_
    exact s1 _ (by show 1 ≤ 2; decide)
  · rw [decide_eq_false c, bif_false, if_neg c]
    exact s1 _ (by decide)
end
end Go.Proofs.T1
namespace Go.Proofs.T1
open Go Go.Sx

/-! The points of contact of two polygons near the origin -/
def Bx (M : Int) (v : V28) : Prop := -M ≤ v.1 ∧ v.1 ≤ M ∧ -M ≤ v.2.1 ∧ v.2.1 ≤ M
theorem btw_M {M : Int} {p r : V28} (hp : Bx M p) (hr : Bx M r) {a b : Int} (h : (a < 0 ∧ 0 ≤ b) ∨ (b < 0 ∧ 0 ≤ a)) : Bx M (btw p r a b) := by
  have x := qv_bd (e := r.1 - p.1) h
  have y := qv_bd (e := r.2.1 - p.2.1) h
  unfold Bx at *
  unfold btw
  dsimp only
  rcases Int.le_total 0 (r.1 - p.1) with c | c <;> rcases Int.le_total 0 (r.2.1 - p.2.1) with d | d
  · have := x.1 c; have := y.1 d; omega
  · have := x.1 c; have := y.2 d; omega
  · have := x.2 c; have := y.1 d; omega
  · have := x.2 c; have := y.2 d; omega
theorem clV_M {M : Int} {p r at_ w : V28} (hp : Bx M p) (hr : Bx M r) : Bx M (clV p r at_ w).1 ∧ Bx M (clV p r at_ w).2.1 := by
  unfold clV
  by_cases a : dw p at_ w < 0
  · by_cases b : dw r at_ w < 0
    · rw [if_pos ⟨a, b⟩]; exact ⟨hp, hr⟩
    · rw [if_neg (fun h => b h.2), if_pos a]; exact ⟨btw_M hp hr (Or.inl ⟨a, by omega⟩), hr⟩
  · by_cases b : dw r at_ w < 0
    · rw [if_neg (fun h => a h.1), if_neg a, if_pos b]; exact ⟨hp, btw_M hp hr (Or.inr ⟨b, by omega⟩)⟩
    · rw [if_neg (fun h => a h.1), if_neg a, if_neg b]; exact ⟨hp, hr⟩
theorem facing_C {k : Nat} (hk : 10 ≤ k) {l : List V28} (l3 : 3 ≤ len l) (l8 : len l ≤ 8) (hw : AllW l) {n : V28} (hn : Ww n) :
    ∃ i, contact_facing k l n = some (facV l n i) ∧ FarP l (ng n) i := by
  obtain ⟨i, e, far⟩ := facing_c1 hk l3 l8 hw hn
  have i0 := far.1
  have i1 := far.2.1
  have hp := pv_range i0 i1
  have hx := nx_range i0 i1
  have w1 := hw _ hp.1 hp.2.1
  have w2 := hw _ hx.1 hx.2
  refine ⟨i, ?_, far⟩
  unfold contact_facing
  rw [e, bnd_some, req_pos (show nz (len l) by unfold nz; omega), irem_pv i0 i1 (by omega), req_pos (inL_of hp.1 hp.2.1)]
  have d1 : contact_dot k (el Z28 l (pv (len l) i)) n = some (dt (q l (pv (len l) i)) n) := cdot_eq k (W_w w1) hn
  have d2 : contact_dot k (el Z28 l (nx (len l) i)) n = some (dt (q l (nx (len l) i)) n) := cdot_eq k (W_w w2) hn
  rw [d1, bnd_some, irem_nx i0 i1 (by omega), req_pos (inL_of hx.1 hx.2), d2, bnd_some]
  unfold facV
  by_cases c : dt (q l (pv (len l) i)) n < dt (q l (nx (len l) i)) n
  · rw [ilt_pos c, bif_true, if_pos c]
  · rw [ilt_neg (by omega), bif_false, if_neg c]
theorem emul {e n l : Int} (l0 : 0 ≤ l) (h0 : -l ≤ e) (h1 : e ≤ l) : -(l * mag n) ≤ e * n := by
  have h := mul_bd (x := e) (y := n) (M := l) (N := mag n) h0 h1 (by unfold mag; split <;> omega) (by unfold mag; split <;> omega)
  exact h.1
theorem msum {nx ny L : Int} (h : Rt (nx * nx + ny * ny) L) (L1 : 0 < L) : mag nx + mag ny ≤ 2 * L := by
  have a0 : 0 ≤ mag nx := by unfold mag; split <;> omega
  have b0 : 0 ≤ mag ny := by unfold mag; split <;> omega
  rw [← sq_mag nx, ← sq_mag ny] at h
  have h2 := h.2.2
  generalize mag nx = a at *
  generalize mag ny = b at *
  rcases Int.lt_or_le (2 * L) (a + b) with c | c
  · exfalso
    have k1 := sq_le (show 0 ≤ 2 * L + 1 by omega) (show 2 * L + 1 ≤ a + b by omega)
    have k2 := sq_nn (a - b)
    have e1 : (a + b) * (a + b) + (a - b) * (a - b) = 2 * (a * a + b * b) := by grind
    have e2 : (2 * L + 1) * (2 * L + 1) = 4 * (L * L) + 4 * L + 1 := by grind
    have e3 : (L + 1) * (L + 1) = L * L + 2 * L + 1 := by grind
    have k3 := sq_nn L
    rw [e3] at h2
    omega
  · exact c
theorem dv_small {k : Nat} (hk : 40 ≤ k) {l : List V28} (hv : Val l) {e : Int} (e0 : 0 ≤ e) (e1 : e < len l) {A B : Int} (hA : Bx A (q l e)) {x : V28} (hB : Bx B x) (hs : A + B = 1310720) (h : 0 ≤ tv l e x) : 0 ≤ dv l e x ∧ dv l e x ≤ 2621440 := by
  obtain ⟨_, l0, l1, hr⟩ := Length_eq (k := k) hk hv e0 e1
  have hS := msum hr l0
  have sm : tv l e x ≤ 1310720 * (mag (outw l e).1 + mag (outw l e).2.1) := by
    unfold Bx at hA hB
    have e1 : tv l e x = -((x.2.1 - (q l e).2.1) * (outw l e).2.1) + -((x.1 - (q l e).1) * (outw l e).1) := by unfold tv tri outw; grind
    have g1 := emul (e := x.2.1 - (q l e).2.1) (n := (outw l e).2.1) (l := 1310720) (by omega) (by omega) (by omega)
    have g2 := emul (e := x.1 - (q l e).1) (n := (outw l e).1) (l := 1310720) (by omega) (by omega) (by omega)
    rw [e1, Int.mul_add]
    omega
  refine ⟨rnd_nn l0 h, ?_⟩
  unfold dv
  have hm := Int.mul_ediv_add_emod (2 * tv l e x + lenN l e) (2 * lenN l e)
  have em0 := Int.emod_nonneg (2 * tv l e x + lenN l e) (show 2 * lenN l e ≠ 0 by omega)
  unfold rnd
  generalize (2 * tv l e x + lenN l e) / (2 * lenN l e) = D at *
  rcases Int.lt_or_le 2621440 D with g | g
  · exfalso
    have := Int.mul_le_mul_of_nonneg_left (show 2621441 ≤ D by omega) (show 0 ≤ 2 * lenN l e by omega)
    omega
  · exact g
/-- One or two points of contact. -/
def PtsOk (u : V28) (X : List (V28 × (V28 × V28))) : Prop :=
  (1 ≤ len X ∧ len X ≤ 2) ∧ (len X = 2 → ¬ (X.getD 0 (Z28, Z28, Z28)).2.2.2.1 = (X.getD 1 (Z28, Z28, Z28)).2.2.2.1 ∧ ¬ (X.getD 0 (Z28, Z28, Z28)).1 = (X.getD 1 (Z28, Z28, Z28)).1) ∧
  ∀ c ∈ X, c.2.1 = u ∧ 0 ≤ c.2.2.1 ∧ c.2.2.1 ≤ 2621440 ∧ 0 ≤ c.2.2.2.1 ∧ c.2.2.2.1 ≤ 255
section
variable {k : Nat} {ref inc : List V28} {e d : Int} {u : V28} {s ok : Bool} {x y : V28} {id kk : Int}
theorem PtsOk_ptl (hk : 40 ≤ k) (hv : Val ref) (e0 : 0 ≤ e) (e1 : e < len ref) {A B : Int} (hA : Bx A (q ref e)) (hx : Bx B x) (hy : Bx B y) (hs : A + B = 1310720) (id0 : 0 ≤ id) (id1 : id ≤ 254) (h : ¬ len (ptl ref e u id ok x y) = 0) : PtsOk u (ptl ref e u id ok x y) := by
  have good : ∀ {z : V28} {i : Int}, Bx B z → 0 ≤ i → i ≤ 1 → 0 ≤ tv ref e z → (ptv ref e u id z i).2.1 = u ∧ 0 ≤ (ptv ref e u id z i).2.2.1 ∧ (ptv ref e u id z i).2.2.1 ≤ 2621440 ∧ 0 ≤ (ptv ref e u id z i).2.2.2.1 ∧ (ptv ref e u id z i).2.2.2.1 ≤ 255 := by
    intro z i hz i0 i1 ht
    have := dv_small hk hv e0 e1 hA hz hs ht
    unfold ptv
    dsimp only
    exact ⟨rfl, this.1, this.2, by omega, by omega⟩
  unfold ptl at h ⊢
  by_cases c1 : ok = true ∧ 0 ≤ tv ref e x <;> by_cases c2 : ok = true ∧ 0 ≤ tv ref e y ∧ ¬ y = x
  · rw [if_pos c1, if_pos c2]
    refine ⟨⟨by show (1 : Int) ≤ 2; decide, by show (2 : Int) ≤ 2; decide⟩, fun _ => ⟨?_, ?_⟩, fun c hc => ?_⟩
    · show ¬ id + 0 = id + 1
      omega
    · show ¬ x = y
      exact fun g => c2.2.2 g.symm
    · rcases List.mem_cons.1 hc with g | g
      · rw [g]; exact good hx (by decide) (by decide) c1.2
      · rw [List.mem_singleton.1 g]; exact good hy (by decide) (by decide) c2.2.1
  · rw [if_pos c1, if_neg c2]
    refine ⟨⟨by show (1 : Int) ≤ 1; decide, by show (1 : Int) ≤ 2; decide⟩, fun g => ?_, fun c hc => ?_⟩
    · have g : (1 : Int) = 2 := g
      exact absurd g (by decide)
    · rw [List.mem_singleton.1 hc]; exact good hx (by decide) (by decide) c1.2
  · rw [if_neg c1, if_pos c2]
    refine ⟨⟨by show (1 : Int) ≤ 1; decide, by show (1 : Int) ≤ 2; decide⟩, fun g => ?_, fun c hc => ?_⟩
    · have g : (1 : Int) = 2 := g
      exact absurd g (by decide)
    · rw [List.mem_singleton.1 hc]; exact good hy (by decide) (by decide) c2.2.1
  · rw [if_neg c1, if_neg c2] at h
    exact absurd rfl h
theorem Of_form (hk : 60 ≤ k) {a b : List V28} (hv : Val ref) (hi : Val inc) (e0 : 0 ≤ e) (e1 : e < len ref) {f0 idx : Int} (hf : f0 = 0 ∨ f0 = 1) (hidx : idx = 8 * f0 + e) (hdp : 0 ≤ dp ref inc e)
    {A B : Int} (hA : ∀ i, 0 ≤ i → i < len ref → Bx A (q ref i)) (hB : ∀ i, 0 ≤ i → i < len inc → Bx B (q inc i)) (hAB : A + B = 1310720)
    (hL : sat_Least k a b = some ((s, e, d, ()), true, 0)) (hT : sat_Test k a b = some (true, d, u)) (h2 : contact_Of.c2 k a b ((s, e, d, ()), true, 0) = some (ref, inc, idx)) :
    ∃ X, contact_Of k a b = some X ∧ PtsOk u X := by
  obtain ⟨r3, r8, rw_, re⟩ := hv
  obtain ⟨i3, i8, iw, ie⟩ := hi
  have hv : Val ref := ⟨r3, r8, rw_, re⟩
  have hi : Val inc := ⟨i3, i8, iw, ie⟩
  have hx := nx_range e0 e1
  have ow : Ww (outw ref e) := outw_bd rw_ e0 e1
  obtain ⟨i, fa, far⟩ := facing_C (k := k) (by omega) i3 i8 iw ow
  have kr := facV_range (n := outw ref e) far.1 far.2.1
  generalize facV inc (outw ref e) i = kk at *
  have kx := nx_range kr.1 kr.2
  have w1 := rw_ e e0 e1
  have w2 := rw_ _ hx.1 hx.2
  have w3 := iw kk kr.1 kr.2
  have w4 := iw _ kx.1 kx.2
  have wi := iw i far.1 far.2.1
  have idb : 0 ≤ (idx * 8 + kk) * 2 ∧ (idx * 8 + kk) * 2 ≤ 254 := by rcases hf with h | h <;> subst h <;> omega
  have ib : 0 ≤ idx ∧ idx ≤ 16 := by rcases hf with h | h <;> subst h <;> omega
  have id1 : imul .i64 (iadd .i64 (imul .i64 idx 8) kk) 2 = (idx * 8 + kk) * 2 := by
    rw [imul_i64 (x := idx) (by omega) (by omega), iadd_i64 (by omega) (by omega), imul_i64 (by omega) (by omega)]
  have y18 : Ww (sb (q ref (nx (len ref) e)) (q ref e)) := sb_W w2 w1
  have y27 : Ww (sb (q ref e) (q ref (nx (len ref) e))) := sb_W w1 w2
  have cw := clV_W (at_ := q ref e) (w := sb (q ref (nx (len ref) e)) (q ref e)) w3 w4
  have cM := clV_M (at_ := q ref e) (w := sb (q ref (nx (len ref) e)) (q ref e)) (hB kk kr.1 kr.2) (hB _ kx.1 kx.2)
  have A1 := clip_V (k := k) (by omega) w3 w4 w1 y18
  generalize clV (q inc kk) (q inc (nx (len inc) kk)) (q ref e) (sb (q ref (nx (len ref) e)) (q ref e)) = C at *
  obtain ⟨c1, c2, ok⟩ := C
  dsimp only at cw cM
  have second : ∃ ok' z1 z2, contact_Of.c3 k (ref, inc, idx) ((s, e, d, ()), true, 0) (c1, c2, ok) = some (ok', z1, z2) ∧ (Wn z1 ∧ Wn z2) ∧ Bx B z1 ∧ Bx B z2 := by
    unfold contact_Of.c3
    dsimp only
    cases ok with
    | false =>
      rw [bif_false]
      exact ⟨false, c1, c2, rfl, cw, cM⟩
    | true =>
      have A2 := clip_V (k := k) (by omega) cw.1 cw.2 w2 y27
      have cw2 := clV_W (at_ := q ref (nx (len ref) e)) (w := sb (q ref e) (q ref (nx (len ref) e))) cw.1 cw.2
      have cM2 := clV_M (at_ := q ref (nx (len ref) e)) (w := sb (q ref e) (q ref (nx (len ref) e))) cM.1 cM.2
      rw [bif_true, irem_nx e0 e1 (by omega)]
      have m1 : contact_minus k (el Z28 ref e) (el Z28 ref (nx (len ref) e)) = some (sb (q ref e) (q ref (nx (len ref) e))) := cminus_eq k w1 w2
      have A2 : contact_clip k c1 c2 (el Z28 ref (nx (len ref) e)) (sb (q ref e) (q ref (nx (len ref) e))) = _ := A2
      rw [m1, bnd_some, A2, bnd_some]
      exact ⟨_, _, _, rfl, cw2, cM2⟩
  obtain ⟨ok', z1, z2, S1, ⟨v1, v2⟩, g1, g2⟩ := second
  have o1 := Of_c4 (k := k) (inc := inc) (s := s) (d := d) (u := u) (ok := ok') (b1 := true) (b2 := 0) (b3 := d) (d' := d) (b4 := true) (by omega) hv e0 e1 v1 v2 id1 idb.1 (by omega) (k - 3)
  rw [show k - 3 + 3 = k by omega] at o1
  have sup : ∃ j, poly_Support k inc (ng (outw ref e)) = some j ∧ FarP inc (ng (outw ref e)) j := by
    refine Supp_val (by omega) hi ?_ ?_ <;> (unfold Ww at ow; unfold I64 ng; dsimp only; omega)
  obtain ⟨j, sj, fj⟩ := sup
  have := Far_uniq fj far
  subst this
  have nn : ((ineg .i64 (outw ref e).1, ineg .i64 (outw ref e).2.1, ()) : V28) = ng (outw ref e) := by
    unfold Ww at ow
    rw [ineg_in (by omega) (by omega), ineg_in (by omega) (by omega)]
    rfl
  have gl : ∀ z : List (V28 × (V28 × V28)), z = ptl ref e u ((idx * 8 + kk) * 2) ok' z1 z2 → z.length ≤ 2 := by
    intro z hz
    rw [hz]
    unfold ptl
    rw [List.length_append]
    split <;> split <;> simp
  have m0 : contact_minus k (el Z28 ref (nx (len ref) e)) (el Z28 ref e) = some (sb (q ref (nx (len ref) e)) (q ref e)) := cminus_eq k w2 w1
  have A1 : contact_clip k (el Z28 inc kk) (el Z28 inc (nx (len inc) kk)) (el Z28 ref e) (sb (q ref (nx (len ref) e)) (q ref e)) = some (c1, c2, ok) := A1
  have dj : contact_Of_1 k (el Z28 inc j) (el Z28 ref e) (outw ref e) = some (dv ref e (q inc j), decide (0 ≤ tv ref e (q inc j))) := deep_V (by omega) hv e0 e1 wi
  have P1 : contact_Of k a b = bif' (ieq (len (ptl ref e u ((idx * 8 + kk) * 2) ok' z1 z2)) 0) (some ((ptl ref e u ((idx * 8 + kk) * 2) ok' z1 z2) ++ [(el Z28 inc j, u, dv ref e (q inc j), (idx * 8 + kk) * 2, ())])) (some (ptl ref e u ((idx * 8 + kk) * 2) ok' z1 z2)) := by
    unfold contact_Of
    rw [hL, bnd_some]
    unfold contact_Of.c1
    dsimp only
    rw [ine_neg rfl, bif_false, bnd_some]
    show bif' false _ _ = _
    rw [bif_false, hT, bnd_some, h2, bnd_some]
    dsimp only
    rw [Normal_eq k r8 rw_ e0 e1, bnd_some, req_pos (inL_of e0 e1), req_pos (show nz (len ref) by unfold nz; omega), irem_nx e0 e1 (by omega), req_pos (inL_of hx.1 hx.2), fa, bnd_some, req_pos (inL_of kr.1 kr.2), req_pos (show nz (len inc) by unfold nz; omega), irem_nx kr.1 kr.2 (by omega), req_pos (inL_of kx.1 kx.2),
      m0, bnd_some, A1, bnd_some, S1, bnd_some, o1, bnd_some, nn, sj, bnd_some, req_pos (inL_of far.1 far.2.1), dj, bnd_some, id1]
    congr 1
    exact req_pos (by
      have := gl _ rfl
      show ((ptl ref e u ((idx * 8 + kk) * 2) ok' z1 z2).length + 1) * 48 ≤ 140737488355328
      omega) _
  by_cases c : len (ptl ref e u ((idx * 8 + kk) * 2) ok' z1 z2) = 0
  · rw [ieq_pos c, bif_true] at P1
    have c0 : ptl ref e u ((idx * 8 + kk) * 2) ok' z1 z2 = [] := List.eq_nil_of_length_eq_zero (by unfold len at c; omega)
    rw [c0, List.nil_append] at P1
    refine ⟨_, P1, ⟨by show (1 : Int) ≤ 1; decide, by show (1 : Int) ≤ 2; decide⟩, fun g => ?_, fun c hc => ?_⟩
    · have g : (1 : Int) = 2 := g
      exact absurd g (by decide)
    · rw [List.mem_singleton.1 hc]
      -- the deepest corner is as deep as the polygon
      obtain ⟨m, m0', m1', em⟩ := dp_ex (a := ref) (b := inc) e (by omega)
      have fm := far.2.2 m m0' m1'
      have tt : ∀ z : V28, tv ref e z = dt z (ng (outw ref e)) - dt (q ref e) (ng (outw ref e)) := by intro z; unfold tv tri dt ng outw; grind
      have tm : tv ref e (q inc m) = dp ref inc e := em.symm
      have hj : 0 ≤ tv ref e (q inc j) := by
        have a1 := tt (q inc m)
        have a2 := tt (q inc j)
        omega
      have := dv_small (k := k) (by omega) hv e0 e1 (hA e e0 e1) (hB j far.1 far.2.1) hAB hj
      dsimp only
      exact ⟨rfl, this.1, this.2, by omega, by omega⟩
  · rw [ieq_neg c, bif_false] at P1
    exact ⟨_, P1, PtsOk_ptl (k := k) (by omega) hv e0 e1 (hA e e0 e1) g1 g2 hAB idb.1 idb.2 c⟩
end
end Go.Proofs.T1
namespace Go.Proofs.T1
open Go Go.Sx

/-! ContactPoints -/
theorem bnd_split {α β : Type} {x : Option α} {f : α → Option β} {y : β} (h : bnd x f = some y) : ∃ z, x = some z ∧ f z = some y := by
  cases x with
  | none => cases h
  | some z => exact ⟨z, rfl, h⟩
theorem pbegun : (bnd (tourkeep2_square 220 0 0 2) fun y7 => bnd (tourkeep2_square 220 3 1 2) fun y9 => bnd (contact_Of 220 y7 y9) fun y11 => tourkeep2_ContactPoints.c1 220 y11) = some false := by kernel_rfl
theorem Index34 {k : Nat} {X : List (V28 × (V28 × V28))} {f : ((V28 × (V28 × V28)) × Unit) → Option Bool} (hl : len X ≤ 100) (hf : ∀ c ∈ X, f (c, ()) = some false) : ∀ (n : Nat) (i : Int), 0 ≤ i → len X - i < (n : Int) → 0 < n → slices_IndexFunc_34.c1 k X f n i = some (.inr ()) := by
  intro n
  induction n with
  | zero => intro i _ _ h; omega
  | succ n ih =>
    intro i i0 i1 _
    rw [slices_IndexFunc_34.c1]
    by_cases c : i < len X
    · have hm : el (((0 : Int), (0 : Int), ()), ((0 : Int), (0 : Int), ()), (0 : Int), (0 : Int), ()) X i ∈ X := by
        obtain ⟨i, rfl⟩ := Int.eq_ofNat_of_zero_le i0
        have hi : i < X.length := by unfold len at c; omega
        show X.getD i _ ∈ X
        rw [List.getD_eq_getElem?_getD, List.getElem?_eq_getElem hi]
        exact List.getElem_mem hi
      rw [ilt_pos c, bif_true, req_pos (inL_of i0 c), hf _ hm, bnd_some, bif_false, iadd_i64 (by omega) (by omega)]
      exact ih (i + 1) (by omega) (by omega) (by omega)
    · rw [ilt_neg (by omega), bif_false]
theorem Contains10 {k : Nat} (hk : 110 ≤ k) {X : List (V28 × (V28 × V28))} {f : ((V28 × (V28 × V28)) × Unit) → Option Bool} (hl : len X ≤ 100) (hf : ∀ c ∈ X, f (c, ()) = some false) : slices_ContainsFunc_10 k X f = some false := by
  unfold slices_ContainsFunc_10 slices_IndexFunc_34
  rw [Index34 hl hf k 0 (by omega) (by omega) (by omega), bnd_some, two_inr, bnd_some, ige_neg (by decide)]
theorem ContactPoints_true (a b : List Int) (x y : Int) : tourkeep2_ContactPoints 220 a b x y = some true := by
  obtain ⟨l, m, p, e1, hl, hm, hp⟩ := made_pair 220 (by decide) a b x y
  have vl := Made_val hl
  have vm := Made_shift hm (p := p) (by omega)
  have l4 : ∀ i, 0 ≤ i → i < len l → Bx 262144 (q l i) := fun i i0 i1 => hl.2.2.1 i i0 i1
  have m16 : ∀ i, 0 ≤ i → i < len (shift m p) → Bx 1048576 (q (shift m p) i) := by
    intro i i0 i1
    rw [len_shift] at i1
    have := hm.2.2.1 i i0 i1
    rw [q_shift i0 i1]
    unfold Bx
    dsimp only
    omega
  generalize shift m p = m' at *
  have l0 : 0 < len l := by have := vl.1; omega
  have m0 : 0 < len m' := by have := vm.1; omega
  obtain ⟨y7, s7, h⟩ := bnd_split pbegun
  obtain ⟨y9, s9, h⟩ := bnd_split h
  obtain ⟨y11, s11, h11⟩ := bnd_split h
  unfold tourkeep2_ContactPoints
  rw [e1, bnd_some]
  dsimp only
  rcases Test_eq (k := 220) (by decide) vl vm with ⟨n, T⟩ | ⟨n, s, e, d, u, T, pb, hu⟩ <;> rcases Least_eq (k := 220) (by decide) vl vm with ⟨n', L⟩ | ⟨n', s', e', d', L, pb'⟩
  · have O : contact_Of 220 l m' = some [] := by
      unfold contact_Of
      rw [L, bnd_some]
      have c1 : contact_Of.c1 220 ((false, 0, 0, ()), false, 0) = some true := by
        unfold contact_Of.c1
        dsimp only
        rw [ine_neg rfl, bif_false]
        rfl
      rw [c1, bnd_some, bif_true]
    rw [O, bnd_some, T, bnd_some, s7, bnd_some, s9, bnd_some, s11, bnd_some, h11, bnd_some, bif_false]
    show bif' false _ _ = _
    rw [bif_false]
    rfl
  · exact absurd n' n
  · exact absurd n n'
  · obtain ⟨x1, x2, x3⟩ := PB_uniq pb' pb
    subst x1 x2 x3
    have rg := PB_range pb
    have da := (NoSep_dp m0).1 n.1
    have db := (NoSep_dp l0).1 n.2
    have key : ∃ X, contact_Of 220 l m' = some X ∧ PtsOk u X := by
      cases s' with
      | false =>
        have rg := rg.1 rfl
        exact Of_form (k := 220) (ref := l) (inc := m') (s := false) (by decide) vl vm rg.1 rg.2 (f0 := 0) (idx := e') (Or.inl rfl) (by omega) (da e' rg.1 rg.2) l4 m16 (by decide) L T rfl
      | true =>
        have rg := rg.2 rfl
        have b8 := vm.2.1
        have c2 : contact_Of.c2 220 l m' ((true, e', d', ()), true, 0) = some (m', l, 8 + e') := by
          unfold contact_Of.c2
          dsimp only
          rw [bif_true, iadd_i64 (by omega) (by omega)]
        exact Of_form (k := 220) (ref := m') (inc := l) (s := true) (by decide) vm vl rg.1 rg.2 (f0 := 1) (idx := 8 + e') (Or.inr rfl) (by omega) (db e' rg.1 rg.2) m16 l4 (by decide) L T c2
    obtain ⟨X, O, ⟨x1, x2⟩, x3, x4⟩ := key
    have c2 : tourkeep2_ContactPoints.c2 220 X = some false := by
      unfold tourkeep2_ContactPoints.c2
      rw [ilt_neg (by omega), bif_false, igt_neg (by omega), bif_false]
      by_cases c : len X = 2
      · obtain ⟨g1, g2⟩ := x3 c
        rw [ieq_pos c, bif_true, req_pos (inL_of (by decide) (by omega)), req_pos (inL_of (by decide) (by omega))]
        refine (congrArg (fun b => bif' b _ _) (ieq_neg g1)).trans ?_
        rw [bif_false]
        exact congrArg some ((eqb24 _ _).trans (decide_eq_false g2))
      · rw [ieq_neg c, bif_false]
    have cf : slices_ContainsFunc_10 220 X (fun x : ((V28 × (V28 × V28)) × Unit) => tourkeep2_ContactPoints_1 220 (x.1) u) = some false := by
      refine Contains10 (by decide) (by omega) fun c hc => ?_
      obtain ⟨g1, g2, g3, g4, g5⟩ := x4 c hc
      show tourkeep2_ContactPoints_1 220 c u = _
      unfold tourkeep2_ContactPoints_1
      refine (congrArg (fun b => bif' b _ _) ((eqb24 c.2.1 u).trans (decide_eq_true g1))).trans ?_
      rw [bif_true, ilt_neg g2, bif_false, igt_neg g3, bif_false, ilt_neg g4, bif_false, igt_neg g5]
    rw [O, bnd_some, T, bnd_some, s7, bnd_some, s9, bnd_some, s11, bnd_some, h11, bnd_some, bif_false]
    show bif' true _ _ = _
    rw [bif_true, c2, bnd_some, bif_false]
    dsimp only
    rw [cf, bnd_some]
    rfl
theorem tourkeep2_ContactPoints_plain (x : ((.pair T22 (.pair T22 (.pair T2 (.pair T2 .unit)))) : Ty).den) (_ : Ty.wf (.pair T22 (.pair T22 (.pair T2 (.pair T2 .unit)))) x) : ∃ k, (tourkeep2_ContactPoints.sp k).f x = some true := by
  have h := ContactPoints_true x.1 x.2.1 x.2.2.1 x.2.2.2.1
  obtain ⟨K, hK⟩ : ∃ K : Nat, K = 220 := ⟨_, rfl⟩
  rw [← hK] at h
  exact ⟨K, h⟩
end Go.Proofs.T1
