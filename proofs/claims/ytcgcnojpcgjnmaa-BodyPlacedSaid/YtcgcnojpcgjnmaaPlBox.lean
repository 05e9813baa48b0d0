/-
  Plain laws: no program in sight.
-/
import Derived.Test.YtcgcnojpcgjnmaaPlStep
namespace Go.Proofs.T1
open Go Go.Sx

/-! The box of a placed body -/
def rmx (f : Nat → Int) : Nat → Int
  | 0 => f 0
  | n + 1 => imax (rmx f n) (f (n + 1))
def rmn (f : Nat → Int) : Nat → Int
  | 0 => f 0
  | n + 1 => imin (rmn f n) (f (n + 1))
theorem rmx_ge (f : Nat → Int) : ∀ n j, j ≤ n → f j ≤ rmx f n := by
  intro n
  induction n with
  | zero => intro j h; have : j = 0 := by omega
            subst this; exact Int.le_refl _
  | succ n ih =>
    intro j h
    have e : rmx f (n + 1) = imax (rmx f n) (f (n + 1)) := rfl
    rw [e]
    unfold imax
    by_cases c : j = n + 1
    · subst c; split <;> omega
    · have := ih j (by omega); split <;> omega
theorem rmn_le (f : Nat → Int) : ∀ n j, j ≤ n → rmn f n ≤ f j := by
  intro n
  induction n with
  | zero => intro j h; have : j = 0 := by omega
            subst this; exact Int.le_refl _
  | succ n ih =>
    intro j h
    have e : rmn f (n + 1) = imin (rmn f n) (f (n + 1)) := rfl
    rw [e]
    unfold imin
    by_cases c : j = n + 1
    · subst c; split <;> omega
    · have := ih j (by omega); split <;> omega
def fx (l : List V22) : Nat → Int := fun j => (q l (j : Int)).1
def fy (l : List V22) : Nat → Int := fun j => (q l (j : Int)).2.1
def boxOf (l : List V22) : V22 × (V22 × Unit) := ((rmn (fx l) (l.length - 1), rmn (fy l) (l.length - 1), ()), (rmx (fx l) (l.length - 1), rmx (fy l) (l.length - 1), ()), ())
theorem cut_tail {α : Type} (a : α) (t : List α) : cut (a :: t) 1 (List.length (a :: t) : Int) = t := by
  unfold cut
  have : ((List.length (a :: t) : Int)).toNat = (a :: t).length := by omega
  rw [this, List.take_length]
  rfl
theorem q_cons (a : V22) (t : List V22) (i : Int) (h : 0 ≤ i) : q t i = q (a :: t) (i + 1) := by
  obtain ⟨i, rfl⟩ := Int.eq_ofNat_of_zero_le h
  show t.getD i Z22 = (a :: t).getD ((i : Int) + 1).toNat Z22
  rw [show ((i : Int) + 1).toNat = i + 1 by omega]
  rfl
section
variable {X : V25}
theorem Bounds_box {k : Nat} (hk : 70 ≤ k) {l : List V22} (hp : body_Place k X = some l) (h1 : 1 ≤ l.length) (h2 : l.length ≤ 60) : body_Bounds k X = some (boxOf l) := by
  match l, hp, h1, h2 with
  | a :: t, hp, _, h2 =>
    unfold body_Bounds
    rw [hp]
    show bnd (some (Sum.inr (a, t))) _ = _
    rw [bnd_some, two_inr]
    dsimp only
    have lt : len t = (t.length : Int) := rfl
    have hl : (a :: t).length = t.length + 1 := rfl
    rw [req_pos (inL_of (by decide) (by show (0 : Int) < ((a :: t).length : Int); omega)), req_pos (show cutOk (a :: t) 1 (List.length (a :: t) : Int) from ⟨by decide, by omega, by omega⟩)]
    have loop : body_Bounds.c1 k (a, t) k 0 (el Z22 (a :: t) 0) (el Z22 (a :: t) 0) = some ((rmn (fx (a :: t)) t.length, rmn (fy (a :: t)) t.length, ()), (rmx (fx (a :: t)) t.length, rmx (fy (a :: t)) t.length, ())) := by
      obtain ⟨z, hz, e⟩ := inv_loop (fun n (z : V22 × V22) i => body_Bounds.c1 k (a, t) n i z.1 z.2) 0 (len t) (fun z i => z = ((rmn (fx (a :: t)) i.toNat, rmn (fy (a :: t)) i.toNat, ()), (rmx (fx (a :: t)) i.toNat, rmx (fy (a :: t)) i.toNat, ())))
        (by
          intro n z i i0 i1 hz
          refine ⟨((rmn (fx (a :: t)) (i.toNat + 1), rmn (fy (a :: t)) (i.toNat + 1), ()), (rmx (fx (a :: t)) (i.toNat + 1), rmx (fy (a :: t)) (i.toNat + 1), ())), by rw [show (i + 1).toNat = i.toNat + 1 by omega], ?_⟩
          show body_Bounds.c1 k (a, t) (n + 1) i z.1 z.2 = _
          rw [body_Bounds.c1]
          dsimp only
          rw [cut_tail, ilt_pos i1, bif_true, req_pos (inL_of i0 i1), iadd_i64 (by omega) (by omega), hz]
          have e1 : el Z22 t i = q (a :: t) ((i.toNat + 1 : Nat) : Int) := by
            have := q_cons a t i i0
            rw [show ((i.toNat + 1 : Nat) : Int) = i + 1 by omega]
            exact this
          rw [e1]
          rfl)
        (by
          intro n z i i0 i1
          show body_Bounds.c1 k (a, t) (n + 1) i z.1 z.2 = some z
          rw [body_Bounds.c1]
          dsimp only
          rw [cut_tail, ilt_neg i1, bif_false])
        k (el Z22 (a :: t) 0, el Z22 (a :: t) 0) 0 (by omega) (by omega) (by omega) rfl
      have e : body_Bounds.c1 k (a, t) k 0 (el Z22 (a :: t) 0) (el Z22 (a :: t) 0) = some z := e
      rw [e, hz, lt, show ((t.length : Nat) : Int).toNat = t.length by omega]
    rw [loop, bnd_some]
    rfl
end
theorem Min_run {k : Nat} (hk : 70 ≤ k) {z : List Int} (h1 : 1 ≤ z.length) (h2 : z.length ≤ 60) : slices_Min k z = some (rmn (fun j => z.getD j 0) (z.length - 1)) := by
  have lz : len z = (z.length : Int) := rfl
  obtain ⟨s, s1, f⟩ := inv_loop (fun n s i => slices_Min.c1 k z n s i) 1 (len z) (fun s i => s = rmn (fun j => z.getD j 0) (i.toNat - 1))
    (by
      intro n s i i0 i1 hs
      refine ⟨imin s (el 0 z i), ?_, ?_⟩
      · obtain ⟨j, hj⟩ : ∃ j, i.toNat = j + 1 := ⟨i.toNat - 1, by omega⟩
        rw [show (i + 1).toNat - 1 = i.toNat by omega, hj]
        rw [hj, Nat.add_sub_cancel] at hs
        rw [hs]
        show imin _ (z.getD i.toNat 0) = _
        rw [hj]
        rfl
      · show slices_Min.c1 k z (n + 1) s i = _
        rw [slices_Min.c1, ilt_pos i1, bif_true, req_pos (inL_of (by omega) (by omega)), iadd_i64 (by omega) (by omega)])
    (by
      intro n s i i0 i1
      show slices_Min.c1 k z (n + 1) s i = some s
      rw [slices_Min.c1, ilt_neg i1, bif_false])
    k (el 0 z 0) 1 (by omega) (by omega) (by omega) rfl
  have f : slices_Min.c1 k z k (el 0 z 0) 1 = some s := f
  unfold slices_Min
  rw [ilt_neg (by omega), bif_false, req_pos (inL_of (by decide) (by omega)), f, bnd_some, s1, lz, show ((z.length : Nat) : Int).toNat = z.length by omega]
theorem Max_run {k : Nat} (hk : 70 ≤ k) {z : List Int} (h1 : 1 ≤ z.length) (h2 : z.length ≤ 60) : slices_Max k z = some (rmx (fun j => z.getD j 0) (z.length - 1)) := by
  have lz : len z = (z.length : Int) := rfl
  obtain ⟨s, s1, f⟩ := inv_loop (fun n s i => slices_Max.c1 k z n s i) 1 (len z) (fun s i => s = rmx (fun j => z.getD j 0) (i.toNat - 1))
    (by
      intro n s i i0 i1 hs
      refine ⟨imax s (el 0 z i), ?_, ?_⟩
      · obtain ⟨j, hj⟩ : ∃ j, i.toNat = j + 1 := ⟨i.toNat - 1, by omega⟩
        rw [show (i + 1).toNat - 1 = i.toNat by omega, hj]
        rw [hj, Nat.add_sub_cancel] at hs
        rw [hs]
        show imax _ (z.getD i.toNat 0) = _
        rw [hj]
        rfl
      · show slices_Max.c1 k z (n + 1) s i = _
        rw [slices_Max.c1, ilt_pos i1, bif_true, req_pos (inL_of (by omega) (by omega)), iadd_i64 (by omega) (by omega)])
    (by
      intro n s i i0 i1
      show slices_Max.c1 k z (n + 1) s i = some s
      rw [slices_Max.c1, ilt_neg i1, bif_false])
    k (el 0 z 0) 1 (by omega) (by omega) (by omega) rfl
  have f : slices_Max.c1 k z k (el 0 z 0) 1 = some s := f
  unfold slices_Max
  rw [ilt_neg (by omega), bif_false, req_pos (inL_of (by decide) (by omega)), f, bnd_some, s1, lz, show ((z.length : Nat) : Int).toNat = z.length by omega]
theorem rmn_congr {f g : Nat → Int} : ∀ n, (∀ j, j ≤ n → f j = g j) → rmn f n = rmn g n := by
  intro n
  induction n with
  | zero => intro h; exact h 0 (Nat.le_refl 0)
  | succ n ih =>
    intro h
    show imin (rmn f n) (f (n + 1)) = imin (rmn g n) (g (n + 1))
    rw [ih fun j hj => h j (by omega), h (n + 1) (Nat.le_refl _)]
theorem rmx_congr {f g : Nat → Int} : ∀ n, (∀ j, j ≤ n → f j = g j) → rmx f n = rmx g n := by
  intro n
  induction n with
  | zero => intro h; exact h 0 (Nat.le_refl 0)
  | succ n ih =>
    intro h
    show imax (rmx f n) (f (n + 1)) = imax (rmx g n) (g (n + 1))
    rw [ih fun j hj => h j (by omega), h (n + 1) (Nat.le_refl _)]
theorem Around_box {k : Nat} (hk : 70 ≤ k) {l : List V22} (h1 : 1 ≤ l.length) (h2 : l.length ≤ 60) : tourref2_Around k l = some (boxOf l) := by
  have lz : len l = (l.length : Int) := rfl
  obtain ⟨z, hz, e⟩ := inv_loop (fun n (z : List Int × List Int) i => tourref2_Around.c1 k l n i z.1 z.2) 0 (len l) (fun z i => z.1.length = i.toNat ∧ z.2.length = i.toNat ∧ ∀ j : Nat, j < i.toNat → z.1.getD j 0 = fx l j ∧ z.2.getD j 0 = fy l j)
    (by
      intro n z i i0 i1 ⟨a, b, c⟩
      have app : ∀ (z : List Int) (x : Int) (j : Nat), (z ++ [x]).getD j 0 = if j < z.length then z.getD j 0 else if j = z.length then x else 0 := by
        intro z x j
        rw [List.getD_eq_getElem?_getD]
        by_cases d : j < z.length
        · rw [List.getElem?_append_left d, if_pos d, List.getD_eq_getElem?_getD]
        · rw [if_neg d]
          by_cases d' : j = z.length
          · rw [if_pos d', d', List.getElem?_concat_length]
            rfl
          · rw [if_neg d', List.getElem?_eq_none (by rw [List.length_append]; show z.length + 1 ≤ j; omega)]
            rfl
      refine ⟨(z.1 ++ [(q l i).1], z.2 ++ [(q l i).2.1]), ⟨by rw [List.length_append]; show z.1.length + 1 = _; omega, by rw [List.length_append]; show z.2.length + 1 = _; omega, fun j hj => ?_⟩, ?_⟩
      · dsimp only
        rw [app, app, a, b]
        by_cases d : j < i.toNat
        · rw [if_pos d, if_pos d]
          exact c j d
        · have d' : j = i.toNat := by omega
          have : (j : Int) = i := by omega
          rw [if_neg d, if_neg d, if_pos d', if_pos d']
          unfold fx fy
          rw [this]
          exact ⟨rfl, rfl⟩
      · show tourref2_Around.c1 k l (n + 1) i z.1 z.2 = _
        rw [tourref2_Around.c1, ilt_pos i1, bif_true, req_pos (inL_of i0 i1), req_pos (show room 8 z.1 [(el Z22 l i).1] by show (z.1.length + 1) * 8 ≤ 140737488355328; omega), req_pos (show room 8 z.2 [(el Z22 l i).2.1] by show (z.2.length + 1) * 8 ≤ 140737488355328; omega), iadd_i64 (by omega) (by omega)]
        rfl)
    (by
      intro n z i i0 i1
      show tourref2_Around.c1 k l (n + 1) i z.1 z.2 = some z
      rw [tourref2_Around.c1, ilt_neg i1, bif_false])
    k ([], []) 0 (by omega) (by omega) (by omega) ⟨rfl, rfl, fun j h => by omega⟩
  have e : tourref2_Around.c1 k l k 0 [] [] = some z := e
  obtain ⟨a, b, c⟩ := hz
  rw [lz, show ((l.length : Nat) : Int).toNat = l.length by omega] at a b c
  unfold tourref2_Around
  rw [e, bnd_some, Min_run hk (by omega) (by omega), bnd_some, Min_run hk (by omega) (by omega), bnd_some, Max_run hk (by omega) (by omega), bnd_some, Max_run hk (by omega) (by omega), bnd_some, a, b]
  have g1 : rmn (fun j => z.1.getD j 0) (l.length - 1) = rmn (fx l) (l.length - 1) := rmn_congr _ fun j hj => (c j (by omega)).1
  have g2 : rmn (fun j => z.2.getD j 0) (l.length - 1) = rmn (fy l) (l.length - 1) := rmn_congr _ fun j hj => (c j (by omega)).2
  have g3 : rmx (fun j => z.1.getD j 0) (l.length - 1) = rmx (fx l) (l.length - 1) := rmx_congr _ fun j hj => (c j (by omega)).1
  have g4 : rmx (fun j => z.2.getD j 0) (l.length - 1) = rmx (fy l) (l.length - 1) := rmx_congr _ fun j hj => (c j (by omega)).2
  rw [g1, g2, g3, g4]
  rfl
end Go.Proofs.T1
