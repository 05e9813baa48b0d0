/-
  Plain laws: no program in sight.
-/
import Derived.Test.YtokhmieofiaidaaPlPoly
namespace Go.Proofs.T1
open Go Go.Sx

theorem Below_eq (k : Nat) (x : Int) {n : Int} (h0 : 0 < n) (h1 : n ≤ 4611686018427387904) : ∃ y, tourmake_Below k x n = some y ∧ 0 ≤ y ∧ y < n := by
  have hr := irem_range x h0
  unfold tourmake_Below
  rw [req_pos (show nz n by unfold nz; omega)]
  by_cases h : irem x n < 0
  · rw [ilt_pos h, bif_true, iadd_i64 (by omega) (by omega)]
    exact ⟨_, rfl, by omega, by omega⟩
  · rw [ilt_neg (by omega), bif_false]
    exact ⟨_, rfl, by omega, by omega⟩

theorem Next_eq (k : Nat) (s : (List Int) × Unit) {n : Int} (h0 : 0 < n) (h1 : n ≤ 4611686018427387904) : ∃ s' y, tourmake_Stream_Next k s n = some (s', y) ∧ 0 ≤ y ∧ y < n := by
  unfold tourmake_Stream_Next tourmake_Stream_Next.c1
  by_cases h : len s.1 = 0
  · rw [ieq_pos h, bif_true, bnd_some, bif_true]
    exact ⟨s, 0, rfl, by omega, by omega⟩
  · rw [ieq_neg h, bif_false, ilt_neg (by omega), bnd_some, bif_false]
    have hl : 0 < len s.1 := by unfold len at *; omega
    have hc : cutOk s.1 1 (List.length s.1 : Int) := ⟨by decide, by unfold len at hl; omega, by omega⟩
    obtain ⟨y, e, a, b⟩ := Below_eq k (el 0 s.1 0) h0 h1
    rw [req_pos (inL_of (by omega) hl), req_pos hc, e, bnd_some]
    exact ⟨_, _, rfl, a, b⟩

/-! Valid polygons by a test -/
def edgeB (l : List V24) : Bool := (List.range l.length).all fun i => (List.range l.length).all fun j =>
  Nat.beq j i || (Nat.beq j (if i + 1 = l.length then 0 else i + 1) || decide (0 < tri (l.getD i Z24) (l.getD (if i + 1 = l.length then 0 else i + 1) Z24) (l.getD j Z24)))
theorem edgeB_ok {l : List V24} (h : edgeB l = true) : EdgeP l := by
  intro i j h0 h1 h2 h3 h4 h5
  obtain ⟨i, rfl⟩ := Int.eq_ofNat_of_zero_le h0
  obtain ⟨j, rfl⟩ := Int.eq_ofNat_of_zero_le h2
  have hi : i < l.length := by unfold len at h1; omega
  have hj : j < l.length := by unfold len at h3; omega
  have h6 := List.all_eq_true.1 (List.all_eq_true.1 h i (List.mem_range.2 hi)) j (List.mem_range.2 hj)
  have hnx : nx (len l) (i : Int) = ((if i + 1 = l.length then 0 else i + 1 : Nat) : Int) := by
    unfold nx len
    split <;> split <;> omega
  simp only [Bool.or_eq_true, decide_eq_true_eq] at h6
  rcases h6 with h6 | h6 | h6
  · exact absurd (congrArg Int.ofNat (Nat.eq_of_beq_eq_true h6)) h4
  · rw [hnx] at h5
    exact absurd (congrArg Int.ofNat (Nat.eq_of_beq_eq_true h6)) h5
  · rw [hnx]
    exact h6
theorem EdgeP_three {a b c : V24} (h : 0 < tri a b c) : EdgeP [a, b, c] := by
  apply Trip_Edge
  intro i j m h0 h1 h2 h3
  have hl : len [a, b, c] = 3 := rfl
  have : i = 0 := by omega
  have : j = 1 := by omega
  have : m = 2 := by omega
  subst i j m
  exact h
def allB (l : List V24) : Bool := l.all fun p => decide (-262144 ≤ p.1 ∧ p.1 ≤ 262144 ∧ -262144 ≤ p.2.1 ∧ p.2.1 ≤ 262144)
/-- Within four units of the origin. -/
def All4 (l : List V24) : Prop := ∀ i, 0 ≤ i → i < len l → -262144 ≤ (q l i).1 ∧ (q l i).1 ≤ 262144 ∧ -262144 ≤ (q l i).2.1 ∧ (q l i).2.1 ≤ 262144
theorem allB_ok {l : List V24} (h : allB l = true) : All4 l := by
  intro i h0 h1
  obtain ⟨i, rfl⟩ := Int.eq_ofNat_of_zero_le h0
  have hi : i < l.length := by unfold len at h1; omega
  have h2 := List.all_eq_true.1 h (l[i]) (List.getElem_mem hi)
  simp only [decide_eq_true_eq] at h2
  have : q l (i : Int) = l[i] := by
    show l.getD i Z24 = _
    rw [List.getD_eq_getElem?_getD, List.getElem?_eq_getElem hi]
    rfl
  rw [this]
  exact h2
theorem All4_W {l : List V24} (h : All4 l) : AllW l := fun i h0 h1 => by
  have := h i h0 h1
  unfold Wn
  omega

/-- What the maker of polygons gives. -/
def Made (l : List V24) : Prop := 3 ≤ len l ∧ len l ≤ 5 ∧ All4 l ∧ EdgeP l

def madeB (l : List V24) : Bool := Nat.ble 3 l.length && (Nat.ble l.length 5 && (allB l && edgeB l))
theorem madeB_ok {l : List V24} (h : madeB l = true) : Made l := by
  simp only [madeB, Bool.and_eq_true] at h
  obtain ⟨h1, h2, h3, h4⟩ := h
  have h1 := Nat.le_of_ble_eq_true h1
  have h2 := Nat.le_of_ble_eq_true h2
  exact ⟨by unfold len; omega, by unfold len; omega, allB_ok h3, edgeB_ok h4⟩

def made0 (w h : Int) : List V24 := [((ineg .i64 w), (ineg .i64 h), ()), (w, (ineg .i64 h), ()), (w, h, ()), ((ineg .i64 w), h, ())]
def made2 (w h : Int) : List V24 := [((ineg .i64 w), (ineg .i64 h), ()), ((isub .i64 w (iquo .i64 (imin w h) 2)), (ineg .i64 h), ()), (w, (isub .i64 (iquo .i64 (imin w h) 2) h), ()), (w, h, ()), ((ineg .i64 w), h, ())]
def made3 (w h : Int) : List V24 := [((ineg .i64 w), 0, ()), (0, (ineg .i64 h), ()), (w, 0, ()), (0, h, ())]

theorem made_table : (List.range 4).all (fun a => (List.range 4).all fun b => madeB (made0 ((a + 1) * 65536) ((b + 1) * 65536)) && (madeB (made2 ((a + 1) * 65536) ((b + 1) * 65536)) && madeB (made3 ((a + 1) * 65536) ((b + 1) * 65536)))) = true := by decide +kernel

theorem Poly_made (k : Nat) (raw : List Int) : ∃ l, tourmake_Poly k raw = some l ∧ Made l := by
  unfold tourmake_Poly tourmake_poly
  obtain ⟨s1, a, e1, a0, a1⟩ := Next_eq k (raw, ()) (n := 4) (by decide) (by decide)
  obtain ⟨s2, b, e2, b0, b1⟩ := Next_eq k s1 (n := 4) (by decide) (by decide)
  obtain ⟨s3, c, e3, c0, c1⟩ := Next_eq k s2 (n := 4) (by decide) (by decide)
  rw [e1, bnd_some, e2, bnd_some, e3, bnd_some]
  dsimp only
  have hw : imul .i64 (iadd .i64 1 a) 65536 = (a + 1) * 65536 := by rw [iadd_i64 (by omega) (by omega), imul_i64 (by omega) (by omega)]; omega
  have hh : imul .i64 (iadd .i64 1 b) 65536 = (b + 1) * 65536 := by rw [iadd_i64 (by omega) (by omega), imul_i64 (by omega) (by omega)]; omega
  rw [hw, hh]
  have T := made_table
  obtain ⟨a, rfl⟩ := Int.eq_ofNat_of_zero_le a0
  obtain ⟨b, rfl⟩ := Int.eq_ofNat_of_zero_le b0
  have T := List.all_eq_true.1 (List.all_eq_true.1 T a (List.mem_range.2 (by omega))) b (List.mem_range.2 (by omega))
  simp only [Bool.and_eq_true] at T
  by_cases h0 : c = 0
  · rw [ieq_pos h0, bif_true, bnd_some]
    exact ⟨_, rfl, madeB_ok T.1⟩
  rw [ieq_neg h0, bif_false]
  by_cases h1 : c = 1
  · rw [ieq_pos h1, bif_true]
    generalize hw : ((a : Int) + 1) * 65536 = w
    generalize hh : ((b : Int) + 1) * 65536 = h
    rw [imul_i64 (by omega) (by omega)]
    obtain ⟨s4, x, e4, x0, x1⟩ := Next_eq k s3 (n := 2 * w) (by omega) (by omega)
    rw [e4, bnd_some, bnd_some]
    dsimp only
    have en : ineg .i64 w = -w := by unfold ineg; rw [wrap_i64 (by omega) (by omega)]; omega
    have en2 : ineg .i64 h = -h := by unfold ineg; rw [wrap_i64 (by omega) (by omega)]; omega
    rw [en, en2, isub_i64 (by omega) (by omega)]
    refine ⟨_, rfl, by show (3 : Int) ≤ 3; decide, by show (3 : Int) ≤ 5; decide, ?_, EdgeP_three ?_⟩
    · apply allB_ok
      simp only [allB, List.all_cons, List.all_nil, Bool.and_true, Bool.and_eq_true, decide_eq_true_eq]
      omega
    · unfold tri
      dsimp only
      have e : (w - -w) * (h - -h) - (-h - -h) * (x - w - -w) = 4 * (w * h) := by grind
      rw [e]
      have := Int.mul_pos (show 0 < w by omega) (show 0 < h by omega)
      omega
  rw [ieq_neg h1, bif_false]
  by_cases h2 : c = 2
  · rw [ieq_pos h2, bif_true, bnd_some]
    exact ⟨_, rfl, madeB_ok T.2.1⟩
  · rw [ieq_neg h2, bif_false, bnd_some]
    exact ⟨_, rfl, madeB_ok T.2.2⟩

theorem Made_val {l : List V24} (h : Made l) : Val l := ⟨h.1, by have := h.2.1; omega, All4_W h.2.2.1, h.2.2.2⟩

theorem place_eq (k : Nat) (x y : Int) : ∃ p : V24, tourkeep2_place k x y = some p ∧ -786432 ≤ p.1 ∧ p.1 ≤ 786431 ∧ -786432 ≤ p.2.1 ∧ p.2.1 ≤ 786431 := by
  unfold tourkeep2_place
  obtain ⟨a, e1, a0, a1⟩ := Below_eq k x (n := 1572864) (by decide) (by decide)
  obtain ⟨b, e2, b0, b1⟩ := Below_eq k y (n := 1572864) (by decide) (by decide)
  rw [e1, bnd_some, e2, bnd_some, isub_i64 (by omega) (by omega), isub_i64 (by omega) (by omega)]
  exact ⟨_, rfl, by dsimp only; omega, by dsimp only; omega, by dsimp only; omega, by dsimp only; omega⟩

/-! Moving -/
def shift (l : List V24) (p : V24) : List V24 := l.map fun a => (a.1 + p.1, a.2.1 + p.2.1, ())
theorem len_shift (l : List V24) (p : V24) : len (shift l p) = len l := by unfold len shift; simp
theorem q_shift {l : List V24} {p : V24} {i : Int} (h0 : 0 ≤ i) (h1 : i < len l) : q (shift l p) i = ((q l i).1 + p.1, (q l i).2.1 + p.2.1, ()) := by
  obtain ⟨i, rfl⟩ := Int.eq_ofNat_of_zero_le h0
  have hi : i < l.length := by unfold len at h1; omega
  show (shift l p).getD i Z24 = _
  have : q l (i : Int) = l[i] := by
    show l.getD i Z24 = _
    rw [List.getD_eq_getElem?_getD, List.getElem?_eq_getElem hi]
    rfl
  rw [this, List.getD_eq_getElem?_getD]
  unfold shift
  rw [List.getElem?_map, List.getElem?_eq_getElem hi]
  rfl

theorem moved_eq {k : Nat} {l : List V24} {p : V24} (hk : 9 ≤ k) (hl : len l ≤ 8) (hw : AllW l) (h : Wn p) : tourkeep2_moved k l p = some (shift l p) := by
  have H := inv_loop (fun n (s : List V24) v => tourkeep2_moved.c1 k l p n v s) 0 (len l) (fun s v => s = shift (l.take v.toNat) p)
    (by
      intro n s v a b c
      have hwv := hw v a b
      refine ⟨s ++ [((q l v).1 + p.1, (q l v).2.1 + p.2.1, ())], ?_, ?_⟩
      · obtain ⟨v, rfl⟩ := Int.eq_ofNat_of_zero_le a
        have hi : v < l.length := by unfold len at b; omega
        have hq : q l (v : Int) = l[v] := by
          show l.getD v Z24 = _
          rw [List.getD_eq_getElem?_getD, List.getElem?_eq_getElem hi]
          rfl
        rw [hq, c, show ((v : Int) + 1).toNat = v + 1 by omega, show ((v : Int)).toNat = v by omega]
        unfold shift
        rw [List.take_succ_eq_append_getElem hi, List.map_append]
        rfl
      · show tourkeep2_moved.c1 k l p (n + 1) v s = tourkeep2_moved.c1 k l p n (v + 1) _
        unfold Wn at hwv h
        have hel : el Z24 l v = q l v := rfl
        rw [tourkeep2_moved.c1, ilt_pos b, bif_true, req_pos (inL_of a b), hel, iadd_i64 (x := (q l v).1) (by omega) (by omega), iadd_i64 (x := (q l v).2.1) (by omega) (by omega), iadd_i64 (x := v) (by omega) (by omega)]
        rw [req_pos]
        have hs : s.length ≤ 8 := by
          rw [c]
          unfold shift len at *
          simp
          omega
        show (s.length + 1) * 16 ≤ 140737488355328
        omega)
    (by
      intro n s v a b
      show tourkeep2_moved.c1 k l p (n + 1) v s = some s
      rw [tourkeep2_moved.c1, ilt_neg b, bif_false])
    k [] 0 (by omega) (by unfold len; omega) (by omega) (by rfl)
  obtain ⟨s, a, b⟩ := H
  have b : tourkeep2_moved.c1 k l p k 0 [] = some s := b
  unfold tourkeep2_moved
  rw [b, bnd_some, a]
  unfold len
  rw [show (l.length : Int).toNat = l.length by omega, List.take_length]

theorem tri_shift (a b c p : V24) : tri (a.1 + p.1, a.2.1 + p.2.1, ()) (b.1 + p.1, b.2.1 + p.2.1, ()) (c.1 + p.1, c.2.1 + p.2.1, ()) = tri a b c := by unfold tri; grind

theorem Val_shift {l : List V24} {p : V24} (h : Val l) (hw : AllW (shift l p)) : Val (shift l p) := by
  refine ⟨by rw [len_shift]; exact h.1, by rw [len_shift]; exact h.2.1, hw, ?_⟩
  intro i j h0 h1 h2 h3 h4 h5
  rw [len_shift] at *
  have hn := nx_range h0 h1
  rw [q_shift h0 h1, q_shift hn.1 hn.2, q_shift h2 h3, tri_shift]
  exact h.2.2.2 i j h0 h1 h2 h3 h4 h5

/-! The area, triangle by triangle -/
def fanN (l : List V24) : Nat → Int
  | 0 => 0
  | m + 1 => fanN l m + tri (q l 0) (q l ((m : Int) + 1)) (q l ((m : Int) + 2))
theorem fan_sh (l : List V24) (m : Nat) : shn l (m + 1) + cr (q l ((m : Int) + 1)) (q l 0) = fanN l m := by
  induction m with
  | zero =>
    show 0 + cr (q l 0) (q l (0 + 1)) + cr (q l (0 + 1)) (q l 0) = 0
    unfold cr
    grind
  | succ m ih =>
    show shn l (m + 1) + cr (q l ((m + 1 : Nat) : Int)) (q l (((m + 1 : Nat) : Int) + 1)) + cr (q l (((m + 1 : Nat) : Int) + 1)) (q l 0) = fanN l m + tri (q l 0) (q l ((m : Int) + 1)) (q l ((m : Int) + 2))
    rw [← ih, show ((m + 1 : Nat) : Int) = (m : Int) + 1 by omega, show (m : Int) + 1 + 1 = (m : Int) + 2 by omega]
    unfold cr tri
    grind
theorem area_fan {l : List V24} (h : 3 ≤ len l) : area l = fanN l (l.length - 2) := by
  have e : len l - 1 = ((l.length - 2 : Nat) : Int) + 1 := by unfold len at *; omega
  rw [← fan_sh]
  unfold area sh
  rw [e, show (((l.length - 2 : Nat) : Int) + 1).toNat = l.length - 2 + 1 by omega]

theorem fan_congr {l m : List V24} : ∀ n : Nat, (∀ i, i < n → tri (q l 0) (q l ((i : Int) + 1)) (q l ((i : Int) + 2)) = tri (q m 0) (q m ((i : Int) + 1)) (q m ((i : Int) + 2))) → fanN l n = fanN m n := by
  intro n
  induction n with
  | zero => intro _; rfl
  | succ n ih =>
    intro h
    simp only [fanN]
    rw [ih (fun i hi => h i (by omega)), h n (by omega)]
theorem fan_pos {l : List V24} (h : TripP l) : ∀ n : Nat, (n : Int) + 1 < len l → 0 < n → 0 < fanN l n := by
  intro n
  induction n with
  | zero => intro _ h; omega
  | succ n ih =>
    intro h1 _
    have ht := h 0 ((n : Int) + 1) ((n : Int) + 2) (by omega) (by omega) (by omega) (by omega)
    simp only [fanN]
    by_cases hn : n = 0
    · subst hn
      simpa [fanN] using ht
    · have := ih (by omega) (by omega)
      omega
theorem area_pos {l : List V24} (h : Val l) : 0 < area l := by
  rw [area_fan h.1]
  have := h.1
  unfold len at this
  exact fan_pos (Edge_Trip h.2.2.2) _ (by unfold len; omega) (by omega)
theorem area_shift {l : List V24} {p : V24} (h : 3 ≤ len l) : area (shift l p) = area l := by
  rw [area_fan h, area_fan (by rw [len_shift]; exact h)]
  have hl : (shift l p).length = l.length := by unfold shift; simp
  rw [hl]
  unfold len at h
  refine fan_congr _ fun i hi => ?_
  rw [q_shift (by omega) (by unfold len; omega), q_shift (by omega) (by unfold len; omega), q_shift (by omega) (by unfold len; omega), tri_shift]
theorem Area_val {k : Nat} (hk : 9 ≤ k) {l : List V24} (h : Val l) : poly_Area k l = some (area l, 0) := by
  obtain ⟨e, h1, h2⟩ := Area_eq hk l
  have := Chk_uniq h1 (Val_chk h)
  subst this
  rw [h2, if_pos rfl]
theorem works_eq : tourkeep2_works 16 = some true := by kernel_rfl

theorem PolySupports_true (raw : List Int) (d by_ : V24) (x y : Int) (h3 : I64 d.1) (h4 : I64 d.2.1) : tourkeep2_PolySupports 16 raw d by_ x y = some true := by
  have hk : 9 ≤ 16 := by decide
  obtain ⟨l, e1, hm⟩ := Poly_made 16 raw
  have hv := Made_val hm
  obtain ⟨p, e2, p1, p2, p3, p4⟩ := place_eq 16 x y
  have e3 := moved_eq (p := p) hk hv.2.1 hv.2.2.1 (by unfold Wn; omega)
  have hws : AllW (shift l p) := by
    intro i h0 h1
    rw [len_shift] at h1
    have := hm.2.2.1 i h0 h1
    rw [q_shift h0 h1]
    unfold Wn
    dsimp only
    omega
  have hvs := Val_shift hv hws
  obtain ⟨b, e4, hb⟩ := Supp_val hk hv h3 h4
  obtain ⟨b', e5, hb'⟩ := Supp_val hk hvs h3 h4
  have hdt : ∀ i, 0 ≤ i → i < len l → dt (q (shift l p) i) d = dt (q l i) d + dt p d := by
    intro i h0 h1
    rw [q_shift h0 h1]
    unfold dt
    grind
  have hbb : b' = b := by
    refine Far_uniq hb' ⟨hb.1, by rw [len_shift]; exact hb.2.1, ?_⟩
    intro j h0 h1
    rw [len_shift] at h1
    rw [hdt j h0 h1, hdt b hb.1 hb.2.1]
    have := hb.2.2 j h0 h1
    omega
  subst hbb
  unfold tourkeep2_PolySupports
  rw [e1, bnd_some, e2, bnd_some, e3, bnd_some, e4, bnd_some]
  have hc1 : tourkeep2_PolySupports.c1 16 d l (shift l p) b' = some false := by
    unfold tourkeep2_PolySupports.c1
    rw [works_eq, bnd_some, bif_true, ilt_neg hb.1, bif_false, ige_neg hb.2.1, bif_false, e5, bnd_some, ine_neg rfl]
  rw [hc1, bnd_some, bif_false]
  have H := find_loop (fun n v => tourkeep2_PolySupports.c2 16 d l b' n v) 0 (len l) (fun _ => False) (fun _ => ())
    (by intro n v _ _ h; exact h.elim)
    (by
      intro n v a b _
      show tourkeep2_PolySupports.c2 16 d l b' (n + 1) v = tourkeep2_PolySupports.c2 16 d l b' n (v + 1)
      have hd := Dots 16 (a := q l v) (b := q l b') (d := d) (hv.2.2.1 v a b) (hv.2.2.1 b' hb.1 hb.2.1) h3 h4 (fun y27 => bif' (igt y27 0) (some (.inl ())) (tourkeep2_PolySupports.c2 16 d l b' n (iadd .i64 v 1)))
      have hin : inL b' l := inL_of hb.1 hb.2.1
      have h8 := hv.2.1
      have hu : tourkeep2_PolySupports.c2 16 d l b' (n + 1) v = bif' (igt (cmpI (dt (q l v) d) (dt (q l b') d)) 0) (some (.inl ())) (tourkeep2_PolySupports.c2 16 d l b' n (iadd .i64 v 1)) := by
        rw [tourkeep2_PolySupports.c2, ilt_pos b, bif_true, req_pos (inL_of a b)]
        simp only [req_pos hin]
        exact hd
      rw [hu, iadd_i64 (by omega) (by omega)]
      have h5 : igt (cmpI (dt (q l v) d) (dt (q l b') d)) 0 = false := by
        rcases hb.2.2 v a b with x | ⟨x, _⟩
        · rw [cmpI_lt x]; rfl
        · rw [cmpI_eq x]; rfl
      rw [h5, bif_false])
    (by
      intro n v a b
      show tourkeep2_PolySupports.c2 16 d l b' (n + 1) v = _
      rw [tourkeep2_PolySupports.c2, ilt_neg b, bif_false])
    16 0 (by omega) (by have := hv.2.1; omega)
  have e6 : tourkeep2_PolySupports.c2 16 d l b' 16 0 = some (.inr ()) := by
    rcases H with ⟨_, _, _, h, _⟩ | ⟨_, h⟩
    · exact h.elim
    · exact h (by decide)
  rw [e6, bnd_some, two_inr, Area_val hk hv, bnd_some, Area_val hk hvs, bnd_some, ieq_pos rfl, bif_true, bif_true, area_shift hv.1, ieq_pos rfl, bif_true, igt_pos (area_pos hv)]
end Go.Proofs.T1
namespace Go.Proofs.T1
open Go Go.Sx

theorem tourkeep2_PolySupports_plain (x : ((.pair T34 (.pair T24 (.pair T24 (.pair T3 (.pair T3 .unit))))) : Ty).den) (h : Ty.wf (.pair T34 (.pair T24 (.pair T24 (.pair T3 (.pair T3 .unit))))) x) : ∃ k, (tourkeep2_PolySupports.sp k).f x = some true := by
  obtain ⟨_, ⟨h1, h2, _⟩, _⟩ := h
  exact ⟨16, PolySupports_true x.1 x.2.1 x.2.2.1 x.2.2.2.1 x.2.2.2.2.1 (wf_i64.1 h1) (wf_i64.1 h2)⟩

/-! A polygon is cut in two -/
theorem q_get {l : List V24} {i : Nat} (h : i < l.length) : q l (i : Int) = l[i] := by
  show l.getD i Z24 = _
  rw [List.getD_eq_getElem?_getD, List.getElem?_eq_getElem h]
  rfl
theorem q_none {l : List V24} {i : Nat} (h : l.length ≤ i) : q l (i : Int) = Z24 := by
  show l.getD i Z24 = _
  rw [List.getD_eq_getElem?_getD, List.getElem?_eq_none h]
  rfl

/-- Corners chosen in order make a valid polygon. -/
theorem Val_sub {l m : List V24} (f : Int → Int) (hv : Val l) (h3 : 3 ≤ len m) (h8 : len m ≤ len l) (hf : ∀ i, 0 ≤ i → i < len m → 0 ≤ f i ∧ f i < len l) (hm : ∀ i j, 0 ≤ i → i < j → j < len m → f i < f j)
    (hq : ∀ i, 0 ≤ i → i < len m → q m i = q l (f i)) : Val m := by
  have := hv.2.1
  refine ⟨h3, by omega, fun i h0 h1 => by rw [hq i h0 h1]; exact hv.2.2.1 _ (hf i h0 h1).1 (hf i h0 h1).2, Trip_Edge ?_⟩
  intro i j k h0 h1 h2 h3
  rw [hq i h0 (by omega), hq j (by omega) (by omega), hq k (by omega) h3]
  exact Edge_Trip hv.2.2.2 _ _ _ (hf i h0 (by omega)).1 (hm i j h0 h1 (by omega)) (hm j k (by omega) h2 h3) (hf k (by omega) h3).2

theorem fan_split (l : List V24) (a : Nat) : ∀ b, fanN l (a + b) = fanN l a + (fanN l (a + b) - fanN l a) := fun b => by omega

theorem PolyCut_true (raw : List Int) (c : Int) : tourkeep2_PolyCut 16 raw c = some true := by
  have hk : 9 ≤ 16 := by decide
  obtain ⟨l, e1, hm⟩ := Poly_made 16 raw
  have hv := Made_val hm
  have h5 := hm.2.1
  unfold tourkeep2_PolyCut
  rw [e1, bnd_some, works_eq, bnd_some, bif_true]
  by_cases h4 : len l < 4
  · rw [ilt_pos h4, bif_true]
  rw [ilt_neg (by omega), bif_false, isub_i64 (by omega) (by omega)]
  obtain ⟨y, e2, y0, y1⟩ := Below_eq 16 c (n := len l - 3) (by omega) (by omega)
  rw [e2, bnd_some, Area_val hk hv, bnd_some, iadd_i64 (x := 2) (by omega) (by omega), iadd_i64 (by omega) (by omega)]
  obtain ⟨n, rfl⟩ := Int.eq_ofNat_of_zero_le y0
  have hlen : len l = (l.length : Int) := rfl
  have hc1 : cutOk l 0 (2 + (n : Int) + 1) := ⟨by decide, by omega, by omega⟩
  have hc2 : cutOk l (2 + (n : Int)) (List.length l : Int) := ⟨by omega, by omega, by omega⟩
  have ea : cut l 0 (2 + (n : Int) + 1) = l.take (n + 3) := by
    unfold cut
    rw [show (2 + (n : Int) + 1).toNat = n + 3 by omega]
    rfl
  have eb : [el Z24 l 0] ++ cut l (2 + (n : Int)) (List.length l : Int) = q l 0 :: l.drop (n + 2) := by
    unfold cut
    rw [show (2 + (n : Int)).toNat = n + 2 by omega, show (List.length l : Int).toNat = l.length by omega, List.take_length]
    rfl
  have hqa : ∀ i, 0 ≤ i → i < len (l.take (n + 3)) → q (l.take (n + 3)) i = q l i := by
    intro i h0 h1
    obtain ⟨i, rfl⟩ := Int.eq_ofNat_of_zero_le h0
    have h2 : i < (l.take (n + 3)).length := by unfold len at h1; omega
    have h3 : i < l.length := by simp at h2; omega
    rw [q_get h2, q_get h3, List.getElem_take]
  have hqb : ∀ i, 1 ≤ i → i < len (q l 0 :: l.drop (n + 2)) → q (q l 0 :: l.drop (n + 2)) i = q l (i + n + 1) := by
    intro i h0 h1
    obtain ⟨i, rfl⟩ : ∃ j : Nat, i = (j : Int) + 1 := ⟨(i - 1).toNat, by omega⟩
    have h2 : i < (l.drop (n + 2)).length := by unfold len at h1; simp at h1; simp; omega
    have h3 : n + 2 + i < l.length := by simp at h2; omega
    have e : q (q l 0 :: l.drop (n + 2)) ((i : Int) + 1) = q (l.drop (n + 2)) (i : Int) := rfl
    rw [e, q_get h2, List.getElem_drop, show (i : Int) + 1 + n + 1 = ((n + 2 + i : Nat) : Int) by omega, q_get h3]
  have hla : len (l.take (n + 3)) = n + 3 := by unfold len; simp; omega
  have hlb : len (q l 0 :: l.drop (n + 2)) = len l - n - 1 := by unfold len; simp; omega
  have hva : Val (l.take (n + 3)) := Val_sub (fun i => i) hv (by omega) (by omega) (fun i h0 h1 => ⟨h0, by omega⟩) (fun i j _ h _ => h) hqa
  have hqb' : ∀ i, 0 ≤ i → i < len (q l 0 :: l.drop (n + 2)) → q (q l 0 :: l.drop (n + 2)) i = q l (if i = 0 then 0 else i + n + 1) := by
    intro i h0 h1
    split
    · rename_i h
      subst h
      rfl
    · exact hqb i (by omega) h1
  have hvb : Val (q l 0 :: l.drop (n + 2)) := Val_sub (fun i => if i = 0 then 0 else i + n + 1) hv (by omega) (by omega) (fun i h0 h1 => by split <;> omega) (fun i j h0 h1 h2 => by split <;> split <;> omega) hqb'
  have hroom : room 16 [el Z24 l 0] (cut l (2 + (n : Int)) (List.length l : Int)) := by
    show ([el Z24 l 0].length + (cut l (2 + (n : Int)) (List.length l : Int)).length) * 16 ≤ 140737488355328
    unfold cut
    simp
    omega
  have hin : inL 0 l := inL_of (by omega) (by omega)
  rw [req_pos hc1, ea, Area_val hk hva, bnd_some, req_pos hin, req_pos hc2, req_pos hroom, eb, Area_val hk hvb, bnd_some]
  have hfa : area (l.take (n + 3)) = fanN l (n + 1) := by
    rw [area_fan hva.1]
    have e : (l.take (n + 3)).length - 2 = n + 1 := by unfold len at hla; omega
    rw [e]
    refine fan_congr _ fun i hi => ?_
    rw [hqa 0 (by omega) (by omega), hqa _ (by omega) (by omega), hqa _ (by omega) (by omega)]
  have hfb : ∀ m : Nat, (n : Int) + m + 2 < len l → fanN (q l 0 :: l.drop (n + 2)) m + fanN l (n + 1) = fanN l (n + 1 + m) := by
    intro m
    induction m with
    | zero => intro _; simp [fanN]
    | succ m ih =>
      intro h
      have := ih (by omega)
      rw [show n + 1 + (m + 1) = (n + 1 + m) + 1 by omega]
      rw [show fanN l (n + 1 + m + 1) = fanN l (n + 1 + m) + tri (q l 0) (q l (((n + 1 + m : Nat) : Int) + 1)) (q l (((n + 1 + m : Nat) : Int) + 2)) from rfl]
      rw [show fanN (q l 0 :: l.drop (n + 2)) (m + 1) = fanN (q l 0 :: l.drop (n + 2)) m + tri (q (q l 0 :: l.drop (n + 2)) 0) (q (q l 0 :: l.drop (n + 2)) ((m : Int) + 1)) (q (q l 0 :: l.drop (n + 2)) ((m : Int) + 2)) from rfl]
      rw [hqb ((m : Int) + 1) (by omega) (by omega), hqb ((m : Int) + 2) (by omega) (by omega), show q (q l 0 :: l.drop (n + 2)) 0 = q l 0 from rfl]
      rw [show (m : Int) + 1 + n + 1 = ((n + 1 + m : Nat) : Int) + 1 by omega, show (m : Int) + 2 + n + 1 = ((n + 1 + m : Nat) : Int) + 2 by omega]
      omega
  have hsum : area (l.take (n + 3)) + area (q l 0 :: l.drop (n + 2)) = area l := by
    rw [hfa, area_fan hvb.1, area_fan hv.1]
    have e : (q l 0 :: l.drop (n + 2)).length - 2 = l.length - n - 3 := by unfold len at hlb; omega
    rw [e]
    have := hfb (l.length - n - 3) (by omega)
    rw [show n + 1 + (l.length - n - 3) = l.length - 2 by omega] at this
    omega
  have ra : ∀ m, Val m → 0 ≤ area m ∧ area m ≤ 1000000000000000000 := by
    intro m hm
    refine ⟨Int.le_of_lt (area_pos hm), ?_⟩
    rw [area_fan hm.1]
    have h8 := hm.2.1
    have : ∀ j : Nat, (j : Int) + 2 ≤ len m → fanN m j ≤ j * 34359738368000000 := by
      intro j
      induction j with
      | zero => intro _; simp [fanN]
      | succ j ih =>
        intro h
        have h1 := ih (by omega)
        have h2 := tri_range (hm.2.2.1 0 (by omega) (by omega)) (hm.2.2.1 ((j : Int) + 1) (by omega) (by omega)) (hm.2.2.1 ((j : Int) + 2) (by omega) (by omega))
        simp only [fanN]
        omega
    have h3 := this (m.length - 2) (by have := hm.1; unfold len at *; omega)
    unfold len at h8
    omega
  have r1 := ra _ hva
  have r2 := ra _ hvb
  rw [ieq_pos rfl, bif_true, bif_true, bif_true]
  dsimp only
  rw [iadd_i64 (by omega) (by omega), hsum, ieq_pos rfl]

theorem tourkeep2_PolyCut_plain (x : ((.pair T34 (.pair T3 .unit)) : Ty).den) (_ : Ty.wf (.pair T34 (.pair T3 .unit)) x) : ∃ k, (tourkeep2_PolyCut.sp k).f x = some true := ⟨16, PolyCut_true _ _⟩
end Go.Proofs.T1
