/-
  Plain laws: no program in sight.
-/
import Derived.Test.YtcgcnojpcgjnmaaPlClip
import Derived.Test.YtcgcnojpcgjnmaaG15
namespace Go.Proofs.T1
open Go Go.Sx

/-! The edge that faces a direction -/
theorem ilt_cmp (a b : Int) : ilt (cmpI a b) 0 = decide (a < b) := by
  unfold ilt cmpI
  refine decide_eq_decide.2 ?_
  split
  · exact ⟨fun _ => by assumption, fun _ => by decide⟩
  · split
    · exact ⟨fun h => absurd h (by decide), fun h => by omega⟩
    · exact ⟨fun h => absurd h (by decide), fun h => by omega⟩
theorem dt_ng (a n : V22) : dt a (ng n) = - dt a n := by unfold dt ng; grind
theorem irem_pv {n i : Int} (i0 : 0 ≤ i) (i1 : i < n) (h : n ≤ 1000) : irem (isub .i64 (iadd .i64 i n) 1) n = pv n i := by
  rw [iadd_i64 (by omega) (by omega), isub_i64 (by omega) (by omega)]
  unfold irem pv
  rw [Int.tmod_eq_emod_of_nonneg (by omega)]
  split
  · rename_i c
    rw [c]
    exact (Int.emod_eq_of_lt (by omega) (by omega)).trans (by omega)
  · have e : i + n - 1 = (i - 1) + n * 1 := by omega
    rw [e, Int.add_mul_emod_self_left]
    exact Int.emod_eq_of_lt (by omega) (by omega)
def facV (l : List V22) (n : V22) (i : Int) : Int := if dt (q l (pv (len l) i)) n < dt (q l (nx (len l) i)) n then pv (len l) i else i
theorem facV_range {l : List V22} {n : V22} {i : Int} (i0 : 0 ≤ i) (i1 : i < len l) : 0 ≤ facV l n i ∧ facV l n i < len l := by
  have := pv_range i0 i1
  unfold facV
  split <;> omega
theorem facing_c1 {k : Nat} (hk : 10 ≤ k) {l : List V22} (l3 : 3 ≤ len l) (l8 : len l ≤ 8) (hw : AllW l) {n : V22} (hn : Ww n) : ∃ s, contact_facing.c1 k l n k 0 0 = some s ∧ FarP l (ng n) s := by
  have dd : ∀ i, 0 ≤ i → i < len l → contact_dot k (el Z22 l i) n = some (dt (q l i) n) := fun i i0 i1 => cdot_eq k (W_w (hw i i0 i1)) hn
  obtain ⟨s, ⟨_, h⟩, e⟩ := inv_loop (fun f s v => contact_facing.c1 k l n f s v) 0 (len l) (fun s v => (v = 0 → s = 0) ∧ (0 < v → 0 ≤ s ∧ s < v ∧ ∀ j, 0 ≤ j → j < v → dt (q l s) n < dt (q l j) n ∨ (dt (q l s) n = dt (q l j) n ∧ s ≤ j)))
    (by
      intro f s v v0 v1 ⟨h1, h2⟩
      have hs : 0 ≤ s ∧ s < len l := by
        by_cases c : v = 0
        · rw [h1 c]; omega
        · have := h2 (by omega); omega
      show ∃ s', _ ∧ contact_facing.c1 k l n (f + 1) s v = contact_facing.c1 k l n f s' (v + 1)
      rw [contact_facing.c1, ilt_pos v1, bif_true, req_pos (inL_of v0 v1), dd v v0 v1, bnd_some, req_pos (inL_of hs.1 hs.2), dd s hs.1 hs.2, bnd_some, iadd_i64 (by omega) (by omega)]
      by_cases c : dt (q l v) n < dt (q l s) n
      · rw [ilt_pos c, bif_true]
        refine ⟨v, ⟨fun h => by omega, fun _ => ⟨v0, by omega, fun j j0 j1 => ?_⟩⟩, rfl⟩
        by_cases d : j = v
        · subst d; exact Or.inr ⟨rfl, Int.le_refl _⟩
        · have := (h2 (by omega)).2.2 j j0 (by omega)
          left
          omega
      · rw [ilt_neg (by omega), bif_false]
        refine ⟨s, ⟨fun h => by omega, fun _ => ?_⟩, rfl⟩
        by_cases d : v = 0
        · have s0 := h1 d
          refine ⟨by omega, by omega, fun j j0 j1 => ?_⟩
          have : j = s := by omega
          subst this
          exact Or.inr ⟨rfl, Int.le_refl _⟩
        · obtain ⟨a, b, g⟩ := h2 (by omega)
          refine ⟨a, by omega, fun j j0 j1 => ?_⟩
          by_cases d2 : j = v
          · subst d2
            by_cases g2 : dt (q l s) n = dt (q l j) n
            · exact Or.inr ⟨g2, by omega⟩
            · exact Or.inl (by omega)
          · exact g j j0 (by omega))
    (by
      intro f s v v0 v1
      show contact_facing.c1 k l n (f + 1) s v = some s
      rw [contact_facing.c1, ilt_neg v1, bif_false])
    k 0 0 (by omega) (by omega) (by omega) ⟨fun _ => rfl, fun h => by omega⟩
  obtain ⟨a, b, g⟩ := h (by omega)
  refine ⟨s, e, a, b, fun j j0 j1 => ?_⟩
  rw [dt_ng, dt_ng]
  have := g j j0 j1
  omega
theorem facing_V {k : Nat} (hk : 10 ≤ k) {l : List V22} (l3 : 3 ≤ len l) (l8 : len l ≤ 8) (hw : AllW l) {n : V22} (hn : Ww n) :
    ∃ i, contact_facing k l n = some (facV l n i) ∧ tourref2_Facing k l n = some (facV l n i) ∧ FarP l (ng n) i := by
  obtain ⟨i, e, far⟩ := facing_c1 hk l3 l8 hw hn
  have i0 := far.1
  have i1 := far.2.1
  have hp := pv_range i0 i1
  have hx := nx_range i0 i1
  have wn : I64 n.1 ∧ I64 n.2.1 := by unfold Ww at hn; unfold I64; omega
  have nn : ((ineg .i64 n.1, ineg .i64 n.2.1, ()) : V22) = ng n := by
    unfold Ww at hn
    rw [ineg_in (by omega) (by omega), ineg_in (by omega) (by omega)]
    rfl
  have w1 := hw _ hp.1 hp.2.1
  have w2 := hw _ hx.1 hx.2
  refine ⟨i, ?_, ?_, far⟩
  · unfold contact_facing
    rw [e, bnd_some, req_pos (show nz (len l) by unfold nz; omega), irem_pv i0 i1 (by omega), req_pos (inL_of hp.1 hp.2.1)]
    have d1 : contact_dot k (el Z22 l (pv (len l) i)) n = some (dt (q l (pv (len l) i)) n) := cdot_eq k (W_w w1) hn
    have d2 : contact_dot k (el Z22 l (nx (len l) i)) n = some (dt (q l (nx (len l) i)) n) := cdot_eq k (W_w w2) hn
    rw [d1, bnd_some, irem_nx i0 i1 (by omega), req_pos (inL_of hx.1 hx.2), d2, bnd_some]
    unfold facV
    by_cases c : dt (q l (pv (len l) i)) n < dt (q l (nx (len l) i)) n
    · rw [ilt_pos c, bif_true, if_pos c]
    · rw [ilt_neg (by omega), bif_false, if_neg c]
  · have wng : I64 (ng n).1 ∧ I64 (ng n).2.1 := by unfold Ww at hn; unfold I64 ng; dsimp only; omega
    have iw : ∀ {v : V22}, Wn v → I64 v.1 ∧ I64 v.2.1 := fun h => by unfold Wn at h; unfold I64; omega
    obtain ⟨x, ex, rx⟩ := BDot (k := k) (by omega) (a := q l (pv (len l) i)) (b := n) (iw w1).1 (iw w1).2 wn.1 wn.2
    obtain ⟨y, ey, ry⟩ := BDot (k := k) (by omega) (a := q l (nx (len l) i)) (b := n) (iw w2).1 (iw w2).2 wn.1 wn.2
    have r1 := dt_range w1 wn.1 wn.2
    have r2 := dt_range w2 wn.1 wn.2
    have rx : BR x (dt (q l (pv (len l) i)) n) := rx
    have ry : BR y (dt (q l (nx (len l) i)) n) := ry
    have ex : tourref2_Dot k (el Z22 l (pv (len l) i)) n = some x := ex
    have ey : tourref2_Dot k (el Z22 l (nx (len l) i)) n = some y := ey
    unfold tourref2_Facing
    rw [nn, Far_val (by omega) l8 hw wng.1 wng.2 far, bnd_some, req_pos (show nz (len l) by unfold nz; omega), irem_pv i0 i1 (by omega), req_pos (inL_of hp.1 hp.2.1), ex, bnd_some, irem_nx i0 i1 (by omega), req_pos (inL_of hx.1 hx.2), ey, bnd_some,
      BCmp (by omega) rx ry (by unfold SR; omega) (by unfold SR; omega), bnd_some, ilt_cmp]
    unfold facV
    by_cases c : dt (q l (pv (len l) i)) n < dt (q l (nx (len l) i)) n
    · rw [decide_eq_true c, bif_true, if_pos c]
    · rw [decide_eq_false c, bif_false, if_neg c]

/-! How deep a point is -/
def tv (l : List V22) (e : Int) (x : V22) : Int := tri (q l e) (q l (nx (len l) e)) x
noncomputable def dv (l : List V22) (e : Int) (x : V22) : Int := rnd (tv l e x) (lenN l e)
theorem deep_V {k : Nat} (hk : 40 ≤ k) {l : List V22} (h : Val l) {e : Int} (e0 : 0 ≤ e) (e1 : e < len l) {x : V22} (hx : Wn x) : contact_Of_1 k x (q l e) (outw l e) = some (dv l e x, decide (0 ≤ tv l e x)) := by
  have hn := nx_range e0 e1
  have h1 := h.2.2.1 e e0 e1
  have ob := outw_bd h.2.2.1 e0 e1
  have ht := tri_range h1 (h.2.2.1 _ hn.1 hn.2) hx
  obtain ⟨f1, l0, l1, _⟩ := Length_eq (k := k) hk h e0 e1
  have ed : (sb (q l e) x).1 * (outw l e).1 + (sb (q l e) x).2.1 * (outw l e).2.1 = tri (q l e) (q l (nx (len l) e)) x := by unfold outw tri sb; dsimp only; grind
  have ow : Ww (outw l e) := ob
  have d := cdot_eq k (sb_W h1 hx) ow
  rw [ed] at d
  obtain ⟨w, g1, g2, g3⟩ := Times_eq k (a := tri (q l e) (q l (nx (len l) e)) x) (b := 1) (by omega) (by omega) (by decide) (by decide)
  have rb := rnd_in (d := tri (q l e) (q l (nx (len l) e)) x) l0 (c := 34359738368000000) (by decide) ht.1 ht.2
  unfold contact_Of_1
  rw [cminus_eq k h1 hx, bnd_some, d, bnd_some, g1, bnd_some, f1, bnd_some, Over_pos (by omega) g2 l0 (by omega), g3, Int.mul_one, fit_in (by omega), bnd_some]
  rfl

/-! The points of contact -/
def PT : Type := V22 × (V22 × V22)
noncomputable def ptv (l : List V22) (e : Int) (u : V22) (id : Int) (x : V22) (i : Int) : V22 × (V22 × V22) := (x, u, dv l e x, id + i, ())
open Classical in
noncomputable def ptl (l : List V22) (e : Int) (u : V22) (id : Int) (ok : Bool) (x y : V22) : List (V22 × (V22 × V22)) :=
  (if ok = true ∧ 0 ≤ tv l e x then [ptv l e u id x 0] else []) ++ (if ok = true ∧ 0 ≤ tv l e y ∧ ¬ y = x then [ptv l e u id y 1] else [])
section
variable {k : Nat} {ref inc : List V22} {e d : Int} {u : V22} {s ok : Bool} {x y : V22} {id kk : Int}
open Classical in
theorem Of_c4 (hk : 40 ≤ k) (hv : Val ref) (e0 : 0 ≤ e) (e1 : e < len ref) (hx : Wn x) (hy : Wn y) {idx : Int} {b1 : Bool} {b2 b3 d' : Int} {b4 : Bool} (hid : imul .i64 (iadd .i64 (imul .i64 idx 8) kk) 2 = id) (id0 : 0 ≤ id) (id1 : id ≤ 1000) (f : Nat) :
    contact_Of.c4 k (ref, inc, idx) (ok, x, y) ((s, e, d, ()), b1, b2) (b4, b3, u) (outw ref e) kk (f + 3) 0 [] = some (ptl ref e u id ok x y) := by
  have hl : len [x, y] = 2 := rfl
  have g0 : el Z22 [x, y] 0 = x := rfl
  have g1 : el Z22 [x, y] 1 = y := rfl
  have gr : el Z22 ref e = q ref e := rfl
  have last : ∀ l, contact_Of.c4 k (ref, inc, idx) (ok, x, y) ((s, e, d, ()), b1, b2) (b4, b3, u) (outw ref e) kk (f + 1) 2 l = some l := by
    intro l
    rw [contact_Of.c4]
    dsimp only
    rw [hl, ilt_neg (by decide), bif_false]
  have c5a : ∀ dd, contact_Of.c5 k (ok, x, y) 0 (dd, decide (0 ≤ tv ref e x)) = some (decide (ok = true ∧ 0 ≤ tv ref e x)) := by
    intro dd
    unfold contact_Of.c5
    dsimp only
    cases ok with
    | false => rw [bif_false, decide_eq_false (fun h => (by cases h.1))]
    | true =>
      rw [bif_true]
      by_cases c : 0 ≤ tv ref e x
      · rw [decide_eq_true c, bif_true, ieq_pos rfl, bif_true, decide_eq_true ⟨rfl, c⟩]
      · rw [decide_eq_false c, bif_false, decide_eq_false (fun h => c h.2)]
  have c5b : ∀ dd, contact_Of.c5 k (ok, x, y) 1 (dd, decide (0 ≤ tv ref e y)) = some (decide (ok = true ∧ 0 ≤ tv ref e y ∧ ¬ y = x)) := by
    intro dd
    unfold contact_Of.c5
    dsimp only
    cases ok with
    | false => rw [bif_false, decide_eq_false (fun h => (by cases h.1))]
    | true =>
      rw [bif_true]
      by_cases c : 0 ≤ tv ref e y
      · rw [decide_eq_true c, bif_true, ieq_neg (by decide), bif_false]
        by_cases g : y = x
        · refine (congrArg (fun b => some (!b)) ((eqb24 y x).trans (decide_eq_true g))).trans ?_
          rw [decide_eq_false (fun h => h.2.2 g)]
          rfl
        · refine (congrArg (fun b => some (!b)) ((eqb24 y x).trans (decide_eq_false g))).trans ?_
          rw [decide_eq_true ⟨rfl, c, g⟩]
          rfl
      · rw [decide_eq_false c, bif_false, decide_eq_false (fun h => c h.2.1)]
  have s1 : ∀ l : List (V22 × (V22 × V22)), l.length ≤ 2 → contact_Of.c4 k (ref, inc, idx) (ok, x, y) ((s, e, d, ()), b1, b2) (b4, b3, u) (outw ref e) kk (f + 2) 1 l = some (l ++ (if ok = true ∧ 0 ≤ tv ref e y ∧ ¬ y = x then [ptv ref e u id y 1] else [])) := by
    intro l hll
    rw [contact_Of.c4]
    dsimp only
    rw [hl, ilt_pos (by decide), bif_true, req_pos (inL_of (by decide) (by rw [hl]; decide)), g1, gr, deep_V hk hv e0 e1 hy, bnd_some, c5b, bnd_some, hid, iadd_i64 (by omega) (by omega), iadd_i64 (by decide) (by decide)]
    by_cases c : ok = true ∧ 0 ≤ tv ref e y ∧ ¬ y = x
    · rw [decide_eq_true c, bif_true, if_pos c]
      refine (req_pos (show room 48 l [((y, u, dv ref e y, id + 1, ()) : V22 × (V22 × V22))] by show (l.length + 1) * 48 ≤ 140737488355328; omega) _).trans ?_
      exact last _
    · rw [decide_eq_false c, bif_false, if_neg c, List.append_nil]
      exact last _
  rw [contact_Of.c4]
  dsimp only
  rw [hl, ilt_pos (by decide), bif_true, req_pos (inL_of (by decide) (by rw [hl]; decide)), g0, gr, deep_V hk hv e0 e1 hx, bnd_some, c5a, bnd_some, hid, iadd_i64 (by omega) (by omega), iadd_i64 (by decide) (by decide)]
  unfold ptl
  by_cases c : ok = true ∧ 0 ≤ tv ref e x
  · rw [decide_eq_true c, bif_true, if_pos c]
    refine (req_pos (show room 48 ([] : List (V22 × (V22 × V22))) [((x, u, dv ref e x, id + 0, ()) : V22 × (V22 × V22))] by show (0 + 1) * 48 ≤ 140737488355328; decide) _).trans ?_
    exact s1 _ (by show 1 ≤ 2; decide)
  · rw [decide_eq_false c, bif_false, if_neg c]
    exact s1 _ (by decide)
open Classical in
theorem Points_c3 (hk : 200 ≤ k) (hv : Val ref) (e0 : 0 ≤ e) (e1 : e < len ref) (hx : Wn x) (hy : Wn y) {f0 : Int} (hid : imul .i64 (iadd .i64 (imul .i64 (iadd .i64 (imul .i64 8 f0) e) 8) kk) 2 = id) (id0 : 0 ≤ id) (id1 : id ≤ 1000) (f : Nat) :
    tourref2_Points.c3 k (ref, inc, f0) (ok, [x, y]) (s, e, d, ()) u kk (f + 3) 0 [] = some (ptl ref e u id ok x y) := by
  have g0 : el Z22 [x, y] 0 = x := rfl
  have g1 : el Z22 [x, y] 1 = y := rfl
  have last : ∀ l, tourref2_Points.c3 k (ref, inc, f0) (ok, [x, y]) (s, e, d, ()) u kk (f + 1) 2 l = some l := by
    intro l
    rw [tourref2_Points.c3, ilt_neg (by decide), bif_false]
  have c5a : ∀ dd, tourref2_Points.c4 k (ok, [x, y]) 0 (dd, decide (0 ≤ tv ref e x)) = some (decide (ok = true ∧ 0 ≤ tv ref e x)) := by
    intro dd
    unfold tourref2_Points.c4
    dsimp only
    cases ok with
    | false => rw [bif_false, decide_eq_false (fun h => (by cases h.1))]
    | true =>
      rw [bif_true]
      by_cases c : 0 ≤ tv ref e x
      · rw [decide_eq_true c, bif_true, ieq_pos rfl, bif_true, decide_eq_true ⟨rfl, c⟩]
      · rw [decide_eq_false c, bif_false, decide_eq_false (fun h => c h.2)]
  have c5b : ∀ dd, tourref2_Points.c4 k (ok, [x, y]) 1 (dd, decide (0 ≤ tv ref e y)) = some (decide (ok = true ∧ 0 ≤ tv ref e y ∧ ¬ y = x)) := by
    intro dd
    unfold tourref2_Points.c4
    dsimp only
    cases ok with
    | false => rw [bif_false, decide_eq_false (fun h => (by cases h.1))]
    | true =>
      rw [bif_true]
      by_cases c : 0 ≤ tv ref e y
      · rw [decide_eq_true c, bif_true, ieq_neg (by decide), bif_false]
        by_cases g : y = x
        · refine (congrArg (fun b => some (!b)) ((eqb24 y x).trans (decide_eq_true g))).trans ?_
          rw [decide_eq_false (fun h => h.2.2 g)]
          rfl
        · refine (congrArg (fun b => some (!b)) ((eqb24 y x).trans (decide_eq_false g))).trans ?_
          rw [decide_eq_true ⟨rfl, c, g⟩]
          rfl
      · rw [decide_eq_false c, bif_false, decide_eq_false (fun h => c h.2.1)]
  have D : ∀ {z : V22}, Wn z → tourref2_depth k ref e z = some (dv ref e z, decide (0 ≤ tv ref e z)) := fun hz => Rdepth_eq hk hv e0 e1 hz
  have s1 : ∀ l : List (V22 × (V22 × V22)), l.length ≤ 2 → tourref2_Points.c3 k (ref, inc, f0) (ok, [x, y]) (s, e, d, ()) u kk (f + 2) 1 l = some (l ++ (if ok = true ∧ 0 ≤ tv ref e y ∧ ¬ y = x then [ptv ref e u id y 1] else [])) := by
    intro l hll
    rw [tourref2_Points.c3]
    dsimp only
    rw [ilt_pos (by decide), bif_true, req_pos (show inR 1 2 from ⟨by decide, by decide⟩), g1, D hy, bnd_some, c5b, bnd_some, hid, iadd_i64 (by omega) (by omega), iadd_i64 (by decide) (by decide)]
    by_cases c : ok = true ∧ 0 ≤ tv ref e y ∧ ¬ y = x
    · rw [decide_eq_true c, bif_true, if_pos c]
      refine (req_pos (show room 48 l [((y, u, dv ref e y, id + 1, ()) : V22 × (V22 × V22))] by show (l.length + 1) * 48 ≤ 140737488355328; omega) _).trans ?_
      exact last _
    · rw [decide_eq_false c, bif_false, if_neg c, List.append_nil]
      exact last _
  rw [tourref2_Points.c3]
  dsimp only
  rw [ilt_pos (by decide), bif_true, req_pos (show inR 0 2 from ⟨by decide, by decide⟩), g0, D hx, bnd_some, c5a, bnd_some, hid, iadd_i64 (by omega) (by omega), iadd_i64 (by decide) (by decide)]
  unfold ptl
  by_cases c : ok = true ∧ 0 ≤ tv ref e x
  · rw [decide_eq_true c, bif_true, if_pos c]
    refine (req_pos (show room 48 ([] : List (V22 × (V22 × V22))) [((x, u, dv ref e x, id + 0, ()) : V22 × (V22 × V22))] by show (0 + 1) * 48 ≤ 140737488355328; decide) _).trans ?_
    exact s1 _ (by show 1 ≤ 2; decide)
  · rw [decide_eq_false c, bif_false, if_neg c]
    exact s1 _ (by decide)
theorem Of_core (hk : 200 ≤ k) {a b : List V22} (hv : Val ref) (hi : Val inc) (e0 : 0 ≤ e) (e1 : e < len ref) {f0 idx : Int} (hf : f0 = 0 ∨ f0 = 1) (hidx : idx = 8 * f0 + e)
    (hL : sat_Least k a b = some ((s, e, d, ()), true, 0)) (hT : sat_Test k a b = some (true, d, u)) (h2 : contact_Of.c2 k a b ((s, e, d, ()), true, 0) = some (ref, inc, idx))
    (hR : tourref2_Least k a b = some (s, e, d, ())) (hW : tourref2_Way k a b (s, e, d, ()) = some u) (h6 : tourref2_Points.c1 k a b (s, e, d, ()) = some (ref, inc, f0)) :
    ∃ X, contact_Of k a b = some X ∧ tourref2_Points k a b = some X ∧ X.length ≤ 2 ∧ 1 ≤ X.length := by
  obtain ⟨r3, r8, rw_, re⟩ := hv
  obtain ⟨i3, i8, iw, ie⟩ := hi
  have hv : Val ref := ⟨r3, r8, rw_, re⟩
  have hi : Val inc := ⟨i3, i8, iw, ie⟩
  have hx := nx_range e0 e1
  have ow : Ww (outw ref e) := outw_bd rw_ e0 e1
  obtain ⟨i, fa, fb, far⟩ := facing_V (k := k) (by omega) i3 i8 iw ow
  have kr := facV_range (n := outw ref e) far.1 far.2.1
  generalize facV inc (outw ref e) i = kk at *
  have kx := nx_range kr.1 kr.2
  have w1 := rw_ e e0 e1
  have w2 := rw_ _ hx.1 hx.2
  have w3 := iw kk kr.1 kr.2
  have w4 := iw _ kx.1 kx.2
  have wi := iw i far.1 far.2.1
  have idb : 0 ≤ (idx * 8 + kk) * 2 ∧ (idx * 8 + kk) * 2 ≤ 1000 := by rcases hf with h | h <;> subst h <;> omega
  have ib : 0 ≤ idx ∧ idx ≤ 16 := by rcases hf with h | h <;> subst h <;> omega
  have id1 : imul .i64 (iadd .i64 (imul .i64 idx 8) kk) 2 = (idx * 8 + kk) * 2 := by
    rw [imul_i64 (x := idx) (by omega) (by omega), iadd_i64 (by omega) (by omega), imul_i64 (by omega) (by omega)]
  have id2 : imul .i64 (iadd .i64 (imul .i64 (iadd .i64 (imul .i64 8 f0) e) 8) kk) 2 = (idx * 8 + kk) * 2 := by
    rw [imul_i64 (x := 8) (by rcases hf with h | h <;> subst h <;> decide) (by rcases hf with h | h <;> subst h <;> decide), iadd_i64 (x := 8 * f0) (by omega) (by omega), ← hidx, imul_i64 (x := idx) (by omega) (by omega), iadd_i64 (by omega) (by omega), imul_i64 (by omega) (by omega)]
  have y18 : Ww (sb (q ref (nx (len ref) e)) (q ref e)) := sb_W w2 w1
  have y27 : Ww (sb (q ref e) (q ref (nx (len ref) e))) := sb_W w1 w2
  have cw := clV_W (at_ := q ref e) (w := sb (q ref (nx (len ref) e)) (q ref e)) w3 w4
  -- the first clip
  have A1 := clip_V (k := k) (by omega) w3 w4 w1 y18
  have B1 := rclip_V hk w3 w4 w1 y18
  generalize clV (q inc kk) (q inc (nx (len inc) kk)) (q ref e) (sb (q ref (nx (len ref) e)) (q ref e)) = C at *
  obtain ⟨c1, c2, ok⟩ := C
  dsimp only at cw B1
  -- the second one
  have second : ∃ ok' z1 z2, contact_Of.c3 k (ref, inc, idx) ((s, e, d, ()), true, 0) (c1, c2, ok) = some (ok', z1, z2) ∧ tourref2_Points.c2 k (ref, inc, f0) (s, e, d, ()) ([c1, c2], ok) = some (ok', [z1, z2]) ∧ Wn z1 ∧ Wn z2 := by
    unfold contact_Of.c3 tourref2_Points.c2
    dsimp only
    cases ok with
    | false =>
      rw [bif_false, bif_false]
      exact ⟨false, c1, c2, rfl, rfl, cw⟩
    | true =>
      have A2 := clip_V (k := k) (by omega) cw.1 cw.2 w2 y27
      have B2 := rclip_V hk cw.1 cw.2 w2 y27
      have cw2 := clV_W (at_ := q ref (nx (len ref) e)) (w := sb (q ref e) (q ref (nx (len ref) e))) cw.1 cw.2
      rw [bif_true, bif_true, irem_nx e0 e1 (by omega)]
      have m1 : contact_minus k (el Z22 ref e) (el Z22 ref (nx (len ref) e)) = some (sb (q ref e) (q ref (nx (len ref) e))) := cminus_eq k w1 w2
      have m2 : tourref2_sub k (el Z22 ref e) (el Z22 ref (nx (len ref) e)) = some (sb (q ref e) (q ref (nx (len ref) e))) := rsub_W k w1 w2
      have A2 : contact_clip k c1 c2 (el Z22 ref (nx (len ref) e)) (sb (q ref e) (q ref (nx (len ref) e))) = _ := A2
      have B2 : tourref2_clip k [c1, c2] (el Z22 ref (nx (len ref) e)) (sb (q ref e) (q ref (nx (len ref) e))) = _ := B2
      rw [m1, bnd_some, A2, bnd_some, m2, bnd_some, B2, bnd_some]
      exact ⟨_, _, _, rfl, rfl, cw2⟩
  obtain ⟨ok', z1, z2, S1, S2, v1, v2⟩ := second
  have o1 := Of_c4 (k := k) (inc := inc) (s := s) (d := d) (u := u) (ok := ok') (b1 := true) (b2 := 0) (b3 := d) (d' := d) (b4 := true) (by omega) hv e0 e1 v1 v2 id1 idb.1 idb.2 (k - 3)
  have o2 := Points_c3 (k := k) (inc := inc) (s := s) (d := d) (u := u) (ok := ok') hk hv e0 e1 v1 v2 id2 idb.1 idb.2 (k - 3)
  rw [show k - 3 + 3 = k by omega] at o1 o2
  have sup : ∃ j, poly_Support k inc (ng (outw ref e)) = some j ∧ FarP inc (ng (outw ref e)) j := by
    refine Supp_val (by omega) hi ?_ ?_ <;> (unfold Ww at ow; unfold I64 ng; dsimp only; omega)
  obtain ⟨j, sj, fj⟩ := sup
  have := Far_uniq fj far
  subst this
  have rfar : tourref2_Far k inc (ng (outw ref e)) = some j := by
    refine Far_val (by omega) i8 iw ?_ ?_ far <;> (unfold Ww at ow; unfold I64 ng; dsimp only; omega)
  have nn : ((ineg .i64 (outw ref e).1, ineg .i64 (outw ref e).2.1, ()) : V22) = ng (outw ref e) := by
    unfold Ww at ow
    rw [ineg_in (by omega) (by omega), ineg_in (by omega) (by omega)]
    rfl
  have gl : ∀ z : List (V22 × (V22 × V22)), z = ptl ref e u ((idx * 8 + kk) * 2) ok' z1 z2 → z.length ≤ 2 := by
    intro z hz
    rw [hz]
    unfold ptl
    rw [List.length_append]
    split <;> split <;> simp
  have m0 : contact_minus k (el Z22 ref (nx (len ref) e)) (el Z22 ref e) = some (sb (q ref (nx (len ref) e)) (q ref e)) := cminus_eq k w2 w1
  have m1 : tourref2_sub k (el Z22 ref (nx (len ref) e)) (el Z22 ref e) = some (sb (q ref (nx (len ref) e)) (q ref e)) := rsub_W k w2 w1
  have A1 : contact_clip k (el Z22 inc kk) (el Z22 inc (nx (len inc) kk)) (el Z22 ref e) (sb (q ref (nx (len ref) e)) (q ref e)) = some (c1, c2, ok) := A1
  have B1 : tourref2_clip k [el Z22 inc kk, el Z22 inc (nx (len inc) kk)] (el Z22 ref e) (sb (q ref (nx (len ref) e)) (q ref e)) = some ([c1, c2], ok) := B1
  have dj : contact_Of_1 k (el Z22 inc j) (el Z22 ref e) (outw ref e) = some (dv ref e (q inc j), decide (0 ≤ tv ref e (q inc j))) := deep_V (by omega) hv e0 e1 wi
  have rj : tourref2_depth k ref e (el Z22 inc j) = some (dv ref e (q inc j), decide (0 ≤ tv ref e (q inc j))) := Rdepth_eq hk hv e0 e1 wi
  have P1 : contact_Of k a b = bif' (ieq (len (ptl ref e u ((idx * 8 + kk) * 2) ok' z1 z2)) 0) (some ((ptl ref e u ((idx * 8 + kk) * 2) ok' z1 z2) ++ [(el Z22 inc j, u, dv ref e (q inc j), (idx * 8 + kk) * 2, ())])) (some (ptl ref e u ((idx * 8 + kk) * 2) ok' z1 z2)) := by
    unfold contact_Of
    rw [hL, bnd_some]
    unfold contact_Of.c1
    dsimp only
    rw [ine_neg rfl, bif_false, bnd_some]
    show bif' false _ _ = _
    rw [bif_false, hT, bnd_some, h2, bnd_some]
    dsimp only
    rw [Normal_eq k r8 rw_ e0 e1, bnd_some, req_pos (inL_of e0 e1), req_pos (show nz (len ref) by unfold nz; omega), irem_nx e0 e1 (by omega), req_pos (inL_of hx.1 hx.2), fa, bnd_some, req_pos (inL_of kr.1 kr.2), req_pos (show nz (len inc) by unfold nz; omega), irem_nx kr.1 kr.2 (by omega), req_pos (inL_of kx.1 kx.2),
      m0, bnd_some, A1, bnd_some, S1, bnd_some, o1, bnd_some, nn, sj, bnd_some, req_pos (inL_of far.1 far.2.1), dj, bnd_some, id1]
    congr 1
    exact req_pos (by
      have := gl _ rfl
      show ((ptl ref e u ((idx * 8 + kk) * 2) ok' z1 z2).length + 1) * 48 ≤ 140737488355328
      omega) _
  have P2 : tourref2_Points k a b = bif' (ieq (len (ptl ref e u ((idx * 8 + kk) * 2) ok' z1 z2)) 0) (some ((ptl ref e u ((idx * 8 + kk) * 2) ok' z1 z2) ++ [(el Z22 inc j, u, dv ref e (q inc j), (idx * 8 + kk) * 2, ())])) (some (ptl ref e u ((idx * 8 + kk) * 2) ok' z1 z2)) := by
    unfold tourref2_Points
    rw [hR, bnd_some, hW, bnd_some, h6, bnd_some]
    dsimp only
    rw [req_pos (inL_of e0 e1), req_pos (show nz (len ref) by unfold nz; omega), irem_nx e0 e1 (by omega), req_pos (inL_of hx.1 hx.2), Out_eq k r8 rw_ e0 e1, bnd_some, fb, bnd_some, req_pos (inL_of kr.1 kr.2), req_pos (show nz (len inc) by unfold nz; omega), irem_nx kr.1 kr.2 (by omega), req_pos (inL_of kx.1 kx.2),
      m1, bnd_some, B1, bnd_some, S2, bnd_some, o2, bnd_some, nn, rfar, bnd_some, req_pos (inL_of far.1 far.2.1), rj, bnd_some, id2]
    congr 1
    exact req_pos (by
      have := gl _ rfl
      show ((ptl ref e u ((idx * 8 + kk) * 2) ok' z1 z2).length + 1) * 48 ≤ 140737488355328
      omega) _
  have lg := gl _ rfl
  generalize ptl ref e u ((idx * 8 + kk) * 2) ok' z1 z2 = Z at *
  by_cases c : len Z = 0
  · rw [ieq_pos c, bif_true] at P1 P2
    have c0 : Z.length = 0 := by unfold len at c; omega
    exact ⟨_, P1, P2, by rw [List.length_append, c0]; show 0 + 1 ≤ 2; decide, by rw [List.length_append, c0]; show 1 ≤ 0 + 1; decide⟩
  · rw [ieq_neg c, bif_false] at P1 P2
    exact ⟨_, P1, P2, lg, by unfold len at c; omega⟩
end
end Go.Proofs.T1
namespace Go.Proofs.T1
open Go Go.Sx

/-! ContactSays -/
theorem ineg_v {v : V22} (h : Ww v) : ((ineg .i64 v.1, ineg .i64 v.2.1, ()) : V22) = (-v.1, -v.2.1, ()) := by
  unfold Ww at h
  rw [ineg_in (by omega) (by omega), ineg_in (by omega) (by omega)]
theorem Of_V {k : Nat} (hk : 200 ≤ k) {a b : List V22} (va : Val a) (vb : Val b) (n : NoSep a b ∧ NoSep b a) : ∃ X, contact_Of k a b = some X ∧ tourref2_Points k a b = some X ∧ X.length ≤ 2 := by
  rcases Test_eq (k := k) (by omega) va vb with ⟨n', _⟩ | ⟨_, s, e, d, u, T, pb, hu⟩
  · exact absurd n n'
  rcases Least_eq (k := k) (by omega) va vb with ⟨n', _⟩ | ⟨_, s', e', d', L, pb'⟩
  · exact absurd n n'
  obtain ⟨x1, x2, x3⟩ := PB_uniq pb' pb
  subst x1 x2 x3
  obtain ⟨s'', e'', d'', R, pb''⟩ := RLeast_eq (k := k) hk va vb n.1 n.2
  obtain ⟨x1, x2, x3⟩ := PB_uniq pb'' pb
  subst x1 x2 x3
  have rg := PB_range pb
  cases s'' with
  | false =>
    have rg := rg.1 rfl
    have W : tourref2_Way k a b (false, e'', d'', ()) = some u := by
      unfold tourref2_Way
      dsimp only
      unfold wayV at hu
      rw [if_neg (by decide)] at hu
      rw [bif_false, Out_eq k va.2.1 va.2.2.1 rg.1 rg.2, bnd_some, hu, bnd_some]
    obtain ⟨X, x1, x2, x3, _⟩ := Of_core (k := k) (ref := a) (inc := b) (s := false) hk va vb rg.1 rg.2 (f0 := 0) (idx := e'') (Or.inl rfl) (by omega) L T rfl R W rfl
    exact ⟨X, x1, x2, x3⟩
  | true =>
    have rg := rg.2 rfl
    have o : Ww (outw b e'') := outw_bd vb.2.2.1 rg.1 rg.2
    have b8 := vb.2.1
    have W : tourref2_Way k a b (true, e'', d'', ()) = some u := by
      unfold tourref2_Way
      dsimp only
      unfold wayV at hu
      rw [if_pos rfl] at hu
      rw [bif_true, Out_eq k vb.2.1 vb.2.2.1 rg.1 rg.2, bnd_some]
      have nn := ineg_v o
      rw [nn, hu, bnd_some]
    have c2 : contact_Of.c2 k a b ((true, e'', d'', ()), true, 0) = some (b, a, 8 + e'') := by
      unfold contact_Of.c2
      dsimp only
      rw [bif_true, iadd_i64 (by omega) (by omega)]
    obtain ⟨X, x1, x2, x3, _⟩ := Of_core (k := k) (ref := b) (inc := a) (s := true) hk vb va rg.1 rg.2 (f0 := 1) (idx := 8 + e'') (Or.inr rfl) (by omega) L T c2 R W rfl
    exact ⟨X, x1, x2, x3⟩
theorem eqbP3 (x : V22 × (V22 × V22)) : Ty.eqb (.pair T22 (.pair T22 T22)) x x = true := by
  show (Ty.eqb T22 x.1 x.1 && (Ty.eqb T22 x.2.1 x.2.1 && Ty.eqb T22 x.2.2 x.2.2)) = true
  rw [(eqb24 x.1 x.1).trans (decide_eq_true rfl), (eqb24 x.2.1 x.2.1).trans (decide_eq_true rfl), (eqb24 x.2.2 x.2.2).trans (decide_eq_true rfl)]
  rfl
theorem Equal70 {k : Nat} (hk : 10 ≤ k) {X : List (V22 × (V22 × V22))} (h : X.length ≤ 2) : slices_Equal_70 k X X = some true := by
  have lX : len X = (X.length : Int) := rfl
  have H : ∀ (n : Nat) (i : Int), 0 ≤ i → len X - i < (n : Int) → 0 < n → slices_Equal_70.c1 k X X n i = some (.inr ()) := by
    intro n
    induction n with
    | zero => intro i _ _ h; omega
    | succ n ih =>
      intro i i0 i1 _
      rw [slices_Equal_70.c1]
      by_cases c : i < len X
      · rw [ilt_pos c, bif_true, req_pos (inL_of i0 c), req_pos (inL_of i0 c)]
        refine (congrArg (fun b => bif' b _ _) (eqbP3 _)).trans ?_
        rw [bif_true, iadd_i64 (by omega) (by omega)]
        exact ih (i + 1) (by omega) (by omega) (by omega)
      · rw [ilt_neg (by omega), bif_false]
  unfold slices_Equal_70
  rw [ine_neg rfl, bif_false, H k 0 (by omega) (by omega) (by omega), bnd_some, two_inr]
theorem csq1 : tourlaw2_square 220 0 0 4 = some [(0, 0, ()), (262144, 0, ()), (262144, 262144, ()), (0, 262144, ())] := by kernel_rfl
theorem csq2 : tourlaw2_square 220 3 1 4 = some [(196608, 65536, ()), (458752, 65536, ()), (458752, 327680, ()), (196608, 327680, ())] := by kernel_rfl
theorem cbegun : (bnd (contact_Of 220 [(0, 0, ()), (262144, 0, ()), (262144, 262144, ()), (0, 262144, ())] [(196608, 65536, ()), (458752, 65536, ()), (458752, 327680, ()), (196608, 327680, ())]) fun y5 => tourlaw2_ContactSays.c1 220 y5) = some false := by kernel_rfl
open Classical in
theorem ContactSays_true (a b : List V22) : tourlaw2_ContactSays 220 a b = some true := by
  have hk : 9 ≤ 220 := by decide
  obtain ⟨ea, c1, c2⟩ := Check_eq hk a
  obtain ⟨eb, d1, d2⟩ := Check_eq hk b
  obtain ⟨ea', p1, p2⟩ := Poly_eq hk a
  obtain ⟨eb', r1, r2⟩ := Poly_eq hk b
  have := Chk_uniq p2 c2
  subst this
  have := Chk_uniq r2 d2
  subst this
  have beg : ∃ y5, contact_Of 220 [(0, 0, ()), (262144, 0, ()), (262144, 262144, ()), (0, 262144, ())] [(196608, 65536, ()), (458752, 65536, ()), (458752, 327680, ()), (196608, 327680, ())] = some y5 ∧ tourlaw2_ContactSays.c1 220 y5 = some false := by
    have h := cbegun
    cases g : contact_Of 220 [(0, 0, ()), (262144, 0, ()), (262144, 262144, ()), (0, 262144, ())] [(196608, 65536, ()), (458752, 65536, ()), (458752, 327680, ()), (196608, 327680, ())] with
    | none => rw [g] at h; cases h
    | some y => rw [g, bnd_some] at h; exact ⟨y, rfl, h⟩
  obtain ⟨y5, g1, g2⟩ := beg
  unfold tourlaw2_ContactSays
  rw [csq1, bnd_some, csq2, bnd_some, g1, bnd_some, g2, bnd_some, bif_false]
  -- no contacts
  have none_ : ∀ L, sat_Least 220 a b = some L → contact_Of.c1 220 L = some true → tourlaw2_ContactSays.c2 220 a b = some true →
      (bnd (contact_Of 220 a b) fun y15 => bnd (tourlaw2_ContactSays.c2 220 a b) fun o22 => bif' o22 (some (ieq (len y15) 0)) (bnd (tourref2_Points 220 a b) fun y25 => bnd (slices_Equal_70 220 y15 y25) fun y27 => some y27)) = some true := by
    intro L h1 h2 h3
    have e : contact_Of 220 a b = some [] := by
      unfold contact_Of
      rw [h1, bnd_some, h2, bnd_some, bif_true]
    rw [e, bnd_some, h3, bnd_some, bif_true]
    rfl
  have bad : ∀ e, e ≠ 0 → sat_both 220 a b = some e → tourref2_Two 220 a b = some e → _ := fun e he h1 h2 => none_ ((false, 0, 0, ()), false, e)
    (by
      unfold sat_Least
      rw [h1, bnd_some, ine_pos he, bif_true])
    (by
      unfold contact_Of.c1
      dsimp only
      rw [ine_pos he, bif_true])
    (by
      unfold tourlaw2_ContactSays.c2
      rw [h2, bnd_some, ine_pos he, bif_true])
  by_cases ha : ea' = 0
  · subst ha
    by_cases hb : eb' = 0
    · subst hb
      have va := Chk_zero c2
      have vb := Chk_zero d2
      have T2 : tourref2_Two 220 a b = some 0 := by
        unfold tourref2_Two
        rw [p1, bnd_some, ine_neg rfl, bif_false, r1, bnd_some]
      have mi := meet_iff va.2.2.2 va.1 vb.2.2.2 vb.1
      by_cases n : NoSep a b ∧ NoSep b a
      · have M : tourref2_Meet 220 a b = some true := by
          rw [Meet_eq hk va vb, decide_eq_true (mi.2 n)]
        obtain ⟨X, x1, x2, x3⟩ := Of_V (k := 220) (by decide) va vb n
        have h3 : tourlaw2_ContactSays.c2 220 a b = some false := by
          unfold tourlaw2_ContactSays.c2
          rw [T2, bnd_some, ine_neg rfl, bif_false, M, bnd_some]
          rfl
        rw [x1, bnd_some, h3, bnd_some, bif_false, x2, bnd_some, Equal70 (by decide) x3, bnd_some]
      · have M : tourref2_Meet 220 a b = some false := by
          rw [Meet_eq hk va vb, decide_eq_false (fun h => n (mi.1 h))]
        rcases Least_eq (k := 220) (by decide) va vb with ⟨_, L⟩ | ⟨n', _⟩
        · refine none_ _ L ?_ ?_
          · unfold contact_Of.c1
            dsimp only
            rw [ine_neg rfl, bif_false]
            rfl
          · unfold tourlaw2_ContactSays.c2
            rw [T2, bnd_some, ine_neg rfl, bif_false, M, bnd_some]
            rfl
        · exact absurd n' n
    · exact bad eb' hb (by unfold sat_both; rw [c1, bnd_some, ine_neg rfl, bif_false, d1, bnd_some]) (by unfold tourref2_Two; rw [p1, bnd_some, ine_neg rfl, bif_false, r1, bnd_some])
  · exact bad ea' ha (by unfold sat_both; rw [c1, bnd_some, ine_pos ha, bif_true]) (by unfold tourref2_Two; rw [p1, bnd_some, ine_pos ha, bif_true])
theorem tourlaw2_ContactSays_plain (x : ((.pair T24 (.pair T24 .unit)) : Ty).den) (_ : Ty.wf (.pair T24 (.pair T24 .unit)) x) : ∃ k, (tourlaw2_ContactSays.sp k).f x = some true := by
  have h := ContactSays_true x.1 x.2.1
  obtain ⟨K, hK⟩ : ∃ K : Nat, K = 220 := ⟨_, rfl⟩
  rw [← hK] at h
  exact ⟨K, h⟩
end Go.Proofs.T1
