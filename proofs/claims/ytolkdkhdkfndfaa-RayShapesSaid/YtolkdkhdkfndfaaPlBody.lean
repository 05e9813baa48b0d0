import Derived.Test.YtolkdkhdkfndfaaPlMid
import Derived.Test.YtolkdkhdkfndfaaG5
import Derived.Test.YtolkdkhdkfndfaaG7
namespace Go.Proofs.T1
open Go Go.Sx
theorem eqb24 (a b : V27) : Ty.eqb T27 a b = decide (a = b) := by
  obtain ⟨a1,a2,u⟩ := a
  obtain ⟨b1,b2,u'⟩ := b
  show (ieq a1 b1 && (ieq a2 b2 && true)) = _
  by_cases h1 : a1 = b1
  · by_cases h2 : a2 = b2
    · rw [ieq_pos h1,ieq_pos h2]; subst h1 h2; exact (decide_eq_true rfl).symm
    · rw [ieq_pos h1,ieq_neg h2]; exact (decide_eq_false (fun h => h2 (congrArg (fun v => v.2.1) h))).symm
  · rw [ieq_neg h1]; exact (decide_eq_false (fun h => h1 (congrArg Prod.fst h))).symm
end Go.Proofs.T1
namespace Go.Proofs.T1
open Go Go.Sx
theorem bwithin_eq (k : Nat) (a : V27) {m : Int} (h0 : 0 ≤ m) (h1 : m ≤ 9223372036854775807) : body_within k a m = some (decide (-m ≤ a.1 ∧ a.1 ≤ m ∧ -m ≤ a.2.1 ∧ a.2.1 ≤ m)) := by
  have n1 : ineg .i64 m = -m := by unfold ineg; rw [wrap_i64 (by omega) (by omega)]; omega
  unfold body_within
  rw [n1]
  by_cases a1 : -m ≤ a.1
  · rw [ige_pos a1,bif_true]
    by_cases a2 : a.1 ≤ m
    · rw [ile_pos a2,bif_true]
      by_cases a3 : -m ≤ a.2.1
      · rw [ige_pos a3,bif_true]
        unfold ile
        congr 1
        exact decide_eq_decide.2 ⟨fun h => ⟨a1,a2,a3,h⟩,fun h => h.2.2.2⟩
      · rw [ige_neg (by omega),bif_false,decide_eq_false (fun h => a3 h.2.2.1)]
    · rw [ile_neg (by omega),bif_false,decide_eq_false (fun h => a2 h.2.1)]
  · rw [ige_neg (by omega),bif_false,decide_eq_false (fun h => a1 h.1)]
end Go.Proofs.T1
namespace Go.Proofs.T1
open Go Go.Sx
def vsub (a c : V27) : V27 := (a.1 - c.1,a.2.1 - c.2.1,())
def AllR (l : List V27) : Prop := ∀ i,0 ≤ i → i < len l → -2097152 ≤ (q l i).1 ∧ (q l i).1 ≤ 2097152 ∧ -2097152 ≤ (q l i).2.1 ∧ (q l i).2.1 ≤ 2097152
instance (p : V27) : Decidable (-2097152 ≤ p.1 ∧ p.1 ≤ 2097152 ∧ -2097152 ≤ p.2.1 ∧ p.2.1 ≤ 2097152) := inferInstance
end Go.Proofs.T1
namespace Go.Proofs.T1
open Go Go.Sx
end Go.Proofs.T1
namespace Go.Proofs.T1
open Go Go.Sx
end Go.Proofs.T1
namespace Go.Proofs.T1
open Go Go.Sx
end Go.Proofs.T1
namespace Go.Proofs.T1
open Go Go.Sx
theorem bnd_eq {α β : Type} {x : Option α} {f : α → Option β} {y : β} (h : bnd x f = some y) : ∃ z,x = some z ∧ f z = some y := by
  cases x with
  | none => cases h
  | some z => exact ⟨z,rfl,h⟩
section
variable {p v : V27} {ang spin mass inertia bounce rub : Int} {l : List V27}
end
end Go.Proofs.T1
namespace Go.Proofs.T1
open Go Go.Sx
theorem CM_CM (x : Int) : CM (CM x) = CM x := CM_in (CM_bd x).1 (CM_bd x).2
theorem MulDiv_tot {k : Nat} (hk : 2 ≤ k) (a b : Int) {c : Int} (hc : 0 < c) (hc' : c ≤ 1099511627776) : fix_MulDiv k a b c = some (CM (rnd (CM a * CM b) c)) := by
  rw [← MulDiv_pos hk (CM_bd a) (CM_bd b) hc hc']
  unfold fix_MulDiv
  rw [Clamp_eq,bnd_some,Clamp_eq,bnd_some,Clamp_eq k (CM a),bnd_some,Clamp_eq k (CM b),bnd_some,CM_CM,CM_CM]
theorem FMul_tot {k : Nat} (hk : 2 ≤ k) (a b : Int) : fix_Mul k a b = some (CM (rnd (CM a * CM b) 65536)) := by
  unfold fix_Mul
  rw [MulDiv_tot hk a b (by decide) (by decide),bnd_some]
theorem FAdd_tot (k : Nat) (a b : Int) : fix_Add k a b = some (CM (CM a + CM b)) := by
  have h1 := CM_bd a
  have h2 := CM_bd b
  unfold fix_Add
  rw [Clamp_eq,bnd_some,Clamp_eq,bnd_some,iadd_i64 (by omega) (by omega),Clamp_eq,bnd_some]
theorem FSub_tot (k : Nat) (a b : Int) : fix_Sub k a b = some (CM (CM a - CM b)) := by
  have h1 := CM_bd a
  have h2 := CM_bd b
  unfold fix_Sub
  rw [Clamp_eq,bnd_some,Clamp_eq,bnd_some,isub_i64 (by omega) (by omega),Clamp_eq,bnd_some]
end Go.Proofs.T1
namespace Go.Proofs.T1
open Go Go.Sx
def sz (v : V27) : Int := mag v.1 + mag v.2.1
def FatP (l : List V27) : Prop := ∀ i j,0 ≤ i → i < len l → 0 ≤ j → j < len l → j ≠ i → j ≠ nx (len l) i → 8 * (sz (vsub (q l (nx (len l) i)) (q l i)) + sz (vsub (q l j) (q l i))) ≤ tri (q l i) (q l (nx (len l) i)) (q l j)
theorem imax_mag {x : Int} (h0 : -1000000000000 ≤ x) (h1 : x ≤ 1000000000000) : imax x (ineg .i64 x) = mag x := by
  have n1 : ineg .i64 x = -x := by unfold ineg; rw [wrap_i64 (by omega) (by omega)]; omega
  rw [n1]
  unfold imax mag
  split <;> split <;> omega
theorem mag_bd {x M : Int} (h0 : -M ≤ x) (h1 : x ≤ M) : 0 ≤ mag x ∧ mag x ≤ M := by unfold mag; split <;> omega
theorem size_gen (k : Nat) {v : V27} {M : Int} (hM : M ≤ 1000000000) (h : -M ≤ v.1 ∧ v.1 ≤ M ∧ -M ≤ v.2.1 ∧ v.2.1 ≤ M) : body_size k v = some (sz v) ∧ 0 ≤ sz v ∧ sz v ≤ 2 * M := by
  have a1 := mag_bd h.1 h.2.1
  have a2 := mag_bd h.2.2.1 h.2.2.2
  unfold body_size sz
  rw [imax_mag (by omega) (by omega),imax_mag (by omega) (by omega),iadd_i64 (by omega) (by omega)]
  exact ⟨rfl,by omega,by omega⟩
theorem fat_c3g (k : Nat) {l : List V27} (h8 : len l ≤ 8) (hr : AllR l) {i j : Int} (i0 : 0 ≤ i) (i1 : i < len l) (j0 : 0 ≤ j) (j1 : j < len l) :
    body_fat.c3 k l i j = some (decide (j ≠ i ∧ j ≠ nx (len l) i ∧ tri (q l i) (q l (nx (len l) i)) (q l j) < 8 * (sz (vsub (q l (nx (len l) i)) (q l i)) + sz (vsub (q l j) (q l i))))) := by
  have hn := nx_range i0 i1
  have hi := hr i i0 i1
  have hj := hr j j0 j1
  have hx := hr _ hn.1 hn.2
  unfold body_fat.c3
  by_cases a : j = i
  · rw [ine_neg a,bif_false,decide_eq_false (fun h => h.1 a)]
  rw [ine_pos a,bif_true,req_pos (show nz (len l) by unfold nz; omega),irem_nx i0 i1 (by omega)]
  by_cases b : j = nx (len l) i
  · rw [ine_neg b,bif_false,decide_eq_false (fun h => h.2.1 b)]
  rw [ine_pos b,bif_true]
  have hq1 : el Z27 l i = q l i := rfl
  have hq2 : el Z27 l (nx (len l) i) = q l (nx (len l) i) := rfl
  have hq3 : el Z27 l j = q l j := rfl
  rw [hq1,hq2,hq3]
  have s1 : isub .i64 (q l (nx (len l) i)).1 (q l i).1 = (q l (nx (len l) i)).1 - (q l i).1 := isub_i64 (by omega) (by omega)
  have s2 : isub .i64 (q l (nx (len l) i)).2.1 (q l i).2.1 = (q l (nx (len l) i)).2.1 - (q l i).2.1 := isub_i64 (by omega) (by omega)
  have s3 : isub .i64 (q l j).1 (q l i).1 = (q l j).1 - (q l i).1 := isub_i64 (by omega) (by omega)
  have s4 : isub .i64 (q l j).2.1 (q l i).2.1 = (q l j).2.1 - (q l i).2.1 := isub_i64 (by omega) (by omega)
  rw [s1,s2,s3,s4]
  obtain ⟨e1,u0,u1⟩ := size_gen k (v := vsub (q l (nx (len l) i)) (q l i)) (M := 4194304) (by decide) (by unfold vsub; dsimp only; omega)
  obtain ⟨e2,w0,w1⟩ := size_gen k (v := vsub (q l j) (q l i)) (M := 4194304) (by decide) (by unfold vsub; dsimp only; omega)
  have e1' : body_size k ((q l (nx (len l) i)).1 - (q l i).1,(q l (nx (len l) i)).2.1 - (q l i).2.1,()) = some (sz (vsub (q l (nx (len l) i)) (q l i))) := e1
  have e2' : body_size k ((q l j).1 - (q l i).1,(q l j).2.1 - (q l i).2.1,()) = some (sz (vsub (q l j) (q l i))) := e2
  have p1 := mul_bd (x := (q l (nx (len l) i)).1 - (q l i).1) (y := (q l j).2.1 - (q l i).2.1) (M := 4194304) (N := 4194304) (by omega) (by omega) (by omega) (by omega)
  have p2 := mul_bd (x := (q l (nx (len l) i)).2.1 - (q l i).2.1) (y := (q l j).1 - (q l i).1) (M := 4194304) (N := 4194304) (by omega) (by omega) (by omega) (by omega)
  rw [e1',bnd_some,e2',bnd_some,imul_i64 (x := (q l (nx (len l) i)).1 - (q l i).1) (by omega) (by omega),imul_i64 (x := (q l (nx (len l) i)).2.1 - (q l i).2.1) (by omega) (by omega),isub_i64 (by omega) (by omega),iadd_i64 (by omega) (by omega),imul_i64 (by omega) (by omega)]
  unfold ilt
  congr 1
  rw [decide_eq_decide]
  exact ⟨fun h => ⟨a,b,h⟩,fun h => h.2.2⟩
open Classical in
theorem fat_gen {k : Nat} (hk : 9 ≤ k) {l : List V27} (h3 : 3 ≤ len l) (h8 : len l ≤ 8) (hr : AllR l) : body_fat k l = some (decide (FatP l)) := by
  have c2 : ∀ i,0 ≤ i → i < len l → (body_fat.c2 k l i k 0 = some (.inl ()) ∧ ∃ j,0 ≤ j ∧ j < len l ∧ (j ≠ i ∧ j ≠ nx (len l) i ∧ tri (q l i) (q l (nx (len l) i)) (q l j) < 8 * (sz (vsub (q l (nx (len l) i)) (q l i)) + sz (vsub (q l j) (q l i))))) ∨
      (body_fat.c2 k l i k 0 = some (.inr ()) ∧ ∀ j,0 ≤ j → j < len l → ¬ (j ≠ i ∧ j ≠ nx (len l) i ∧ tri (q l i) (q l (nx (len l) i)) (q l j) < 8 * (sz (vsub (q l (nx (len l) i)) (q l i)) + sz (vsub (q l j) (q l i))))) := by
    intro i i0 i1
    have H := find_loop (fun n v => body_fat.c2 k l i n v) 0 (len l) (fun j => j ≠ i ∧ j ≠ nx (len l) i ∧ tri (q l i) (q l (nx (len l) i)) (q l j) < 8 * (sz (vsub (q l (nx (len l) i)) (q l i)) + sz (vsub (q l j) (q l i)))) (fun _ => ())
      (by
        intro n v a b c
        show body_fat.c2 k l i (n + 1) v = _
        rw [body_fat.c2,ilt_pos b,bif_true,req_pos (inL_of a b),fat_c3g k h8 hr i0 i1 a b,bnd_some,decide_eq_true c,bif_true])
      (by
        intro n v a b c
        show body_fat.c2 k l i (n + 1) v = body_fat.c2 k l i n (v + 1)
        rw [body_fat.c2,ilt_pos b,bif_true,req_pos (inL_of a b),fat_c3g k h8 hr i0 i1 a b,bnd_some,decide_eq_false c,bif_false,iadd_i64 (by omega) (by omega)])
      (by
        intro n v a b
        show body_fat.c2 k l i (n + 1) v = _
        rw [body_fat.c2,ilt_neg b,bif_false])
      k 0 (by omega) (by omega)
    rcases H with ⟨j,a,b,c,_,e⟩ | ⟨a,e⟩
    · exact Or.inl ⟨e,j,a,b,c⟩
    · exact Or.inr ⟨e (by omega),a⟩
  have H := find_loop (fun n v => body_fat.c1 k l n v) 0 (len l) (fun i => ∃ j,0 ≤ j ∧ j < len l ∧ (j ≠ i ∧ j ≠ nx (len l) i ∧ tri (q l i) (q l (nx (len l) i)) (q l j) < 8 * (sz (vsub (q l (nx (len l) i)) (q l i)) + sz (vsub (q l j) (q l i))))) (fun _ => ())
    (by
      intro n v a b c
      show body_fat.c1 k l (n + 1) v = _
      have hn := nx_range a b
      rw [body_fat.c1,ilt_pos b,bif_true,req_pos (inL_of a b),req_pos (show nz (len l) by unfold nz; omega),irem_nx a b (by omega),req_pos (inL_of hn.1 hn.2)]
      rcases c2 v a b with ⟨e,_⟩ | ⟨_,e⟩
      · rw [e,bnd_some,two_inl]
      · obtain ⟨j,x,y,z⟩ := c
        exact absurd z (e j x y))
    (by
      intro n v a b c
      show body_fat.c1 k l (n + 1) v = body_fat.c1 k l n (v + 1)
      have hn := nx_range a b
      rw [body_fat.c1,ilt_pos b,bif_true,req_pos (inL_of a b),req_pos (show nz (len l) by unfold nz; omega),irem_nx a b (by omega),req_pos (inL_of hn.1 hn.2)]
      rcases c2 v a b with ⟨_,e⟩ | ⟨e,_⟩
      · exact absurd e c
      · rw [e,bnd_some,two_inr,iadd_i64 (by omega) (by omega)])
    (by
      intro n v a b
      show body_fat.c1 k l (n + 1) v = _
      rw [body_fat.c1,ilt_neg b,bif_false])
    k 0 (by omega) (by omega)
  unfold body_fat
  rcases H with ⟨i,a,b,⟨j,c,d,f⟩,_,e⟩ | ⟨a,e⟩
  · have e : body_fat.c1 k l k 0 = some (.inl ()) := e
    rw [e,bnd_some,two_inl,decide_eq_false]
    intro h
    have := h i j a b c d f.1 f.2.1
    omega
  · have e : body_fat.c1 k l k 0 = some (.inr ()) := e (by omega)
    rw [e,bnd_some,two_inr,decide_eq_true]
    intro i j i0 i1 j0 j1 h1 h2
    have := a i i0 i1
    rcases Int.lt_or_le (tri (q l i) (q l (nx (len l) i)) (q l j)) (8 * (sz (vsub (q l (nx (len l) i)) (q l i)) + sz (vsub (q l j) (q l i)))) with g | g
    · exact absurd ⟨j,j0,j1,h1,h2,g⟩ this
    · exact g
def Shp (l : List V27) (e : Int) : Prop :=
  (Chk l e ∧ e ≠ 0) ∨ (Val l ∧ ¬ AllR l ∧ e = 1) ∨ (Val l ∧ AllR l ∧ ¬ (FatP l ∧ InP l Z27) ∧ e = 3) ∨ (Val l ∧ AllR l ∧ FatP l ∧ InP l Z27 ∧ e = 0)
theorem Shp_uniq {l : List V27} {e f : Int} (h : Shp l e) (g : Shp l f) : e = f := by
  have key : ∀ {x y : Int},Chk l x → x ≠ 0 → Val l → False := fun hx h0 hv => h0 (Chk_uniq hx (Val_chk hv))
  rcases h with ⟨a,b⟩ | ⟨a,b,c⟩ | ⟨a,b,c,d⟩ | ⟨a,b,c,d,e'⟩ <;> rcases g with ⟨x,y⟩ | ⟨x,y,z⟩ | ⟨x,y,z,w⟩ | ⟨x,y,z,w,u⟩
  · exact Chk_uniq a x
  · exact (key (y := 0) a b x).elim
  · exact (key (y := 0) a b x).elim
  · exact (key (y := 0) a b x).elim
  · exact (key (y := 0) x y a).elim
  · rw [c,z]
  · exact absurd y b
  · exact absurd y b
  · exact (key (y := 0) x y a).elim
  · exact absurd b y
  · rw [d,w]
  · exact absurd ⟨z,w⟩ c
  · exact (key (y := 0) x y a).elim
  · exact absurd b y
  · exact absurd ⟨c,d⟩ z
  · rw [e',u]
open Classical in
theorem shape_gen {k : Nat} (hk : 9 ≤ k) (l : List V27) : ∃ e,body_shape k l = some e ∧ Shp l e := by
  obtain ⟨c,e1,c1⟩ := Check_eq hk l
  unfold body_shape
  rw [e1,bnd_some]
  by_cases hc : c = 0
  · subst hc
    have hv := Chk_zero c1
    have h8 := hv.2.1
    rw [ine_neg rfl,bif_false]
    have hf : ∀ x : V27,(fun x : (V27 × Unit) => body_shape_1 k (x.1)) (x,()) = some (!decide (-2097152 ≤ x.1 ∧ x.1 ≤ 2097152 ∧ -2097152 ≤ x.2.1 ∧ x.2.1 ≤ 2097152)) := by
      intro x
      show body_shape_1 k x = _
      unfold body_shape_1
      rw [bwithin_eq k x (by decide) (by decide),bnd_some]
    rcases Contains_no (l := l) (k := k) (f := fun x : (V27 × Unit) => body_shape_1 k (x.1)) (by omega) (by omega) (g := fun x => !decide (-2097152 ≤ x.1 ∧ x.1 ≤ 2097152 ∧ -2097152 ≤ x.2.1 ∧ x.2.1 ≤ 2097152)) hf with ⟨g,i,i0,i1,i2⟩ | ⟨g,g2⟩
    · rw [g,bnd_some,bif_true]
      refine ⟨1,rfl,Or.inr (Or.inl ⟨hv,fun h => ?_,rfl⟩)⟩
      have := h i i0 i1
      simp [this] at i2
    · have hr : AllR l := by
        intro i i0 i1
        have := g2 i i0 i1
        simpa using this
      rw [g,bnd_some,bif_false]
      unfold body_shape.c1
      rw [fat_gen hk hv.1 h8 hr,bnd_some]
      by_cases hF : FatP l
      · rw [decide_eq_true hF,bif_true,Has_val hk hv,bnd_some,bnd_some]
        by_cases hI : InP l Z27
        · have : (Wn (0,0,()) ∧ InP l (0,0,())) := ⟨by decide,hI⟩
          rw [decide_eq_true this]
          exact ⟨0,rfl,Or.inr (Or.inr (Or.inr ⟨hv,hr,hF,hI,rfl⟩))⟩
        · have : ¬ (Wn (0,0,()) ∧ InP l (0,0,())) := fun h => hI h.2
          rw [decide_eq_false this]
          exact ⟨3,rfl,Or.inr (Or.inr (Or.inl ⟨hv,hr,fun h => hI h.2,rfl⟩))⟩
      · rw [decide_eq_false hF,bif_false,bnd_some,bif_true]
        exact ⟨3,rfl,Or.inr (Or.inr (Or.inl ⟨hv,hr,fun h => hF h.1,rfl⟩))⟩
  · rw [ine_pos hc,bif_true]
    exact ⟨c,rfl,Or.inl ⟨c1,hc⟩⟩
end Go.Proofs.T1
namespace Go.Proofs.T1
open Go Go.Sx
def Bd (a : V27) (m : Int) : Prop := -m ≤ a.1 ∧ a.1 ≤ m ∧ -m ≤ a.2.1 ∧ a.2.1 ≤ m
instance (a : V27) (m : Int) : Decidable (Bd a m) := by unfold Bd; infer_instance
def R1 (p v : V27) (ang spin : Int) : Prop := Bd p 58982400 ∧ Bd v 268435456 ∧ (-16777216 ≤ spin ∧ spin ≤ 16777216) ∧ (0 ≤ ang ∧ ang ≤ 65535)
def R2 (mass inertia bounce rub calm : Int) : Prop := (0 ≤ mass ∧ mass ≤ 1099511627776) ∧ (0 ≤ inertia ∧ inertia ≤ 1099511627776) ∧ (0 ≤ bounce ∧ bounce ≤ 65536) ∧ (0 ≤ rub ∧ rub ≤ 65536) ∧ (0 ≤ calm ∧ calm ≤ 1000)
def R3 (v : V27) (spin mass inertia : Int) (asleep : Bool) (calm : Int) : Prop := (mass = 0 ↔ inertia = 0) ∧ (mass = 0 → v = (0,0,()) ∧ spin = 0 ∧ asleep = false ∧ calm = 0) ∧ (asleep = true → v = (0,0,()) ∧ spin = 0)
instance (p v : V27) (ang spin : Int) : Decidable (R1 p v ang spin) := by unfold R1; infer_instance
instance (a b c d e : Int) : Decidable (R2 a b c d e) := by unfold R2; infer_instance
def Bc (p v : V27) (ang spin mass inertia bounce rub : Int) (l : List V27) (asleep : Bool) (calm : Int) (e : Int) : Prop :=
  (Shp l e ∧ e ≠ 0) ∨ (Shp l 0 ∧ ¬ (R1 p v ang spin ∧ R2 mass inertia bounce rub calm) ∧ e = 1) ∨ (Shp l 0 ∧ R1 p v ang spin ∧ R2 mass inertia bounce rub calm ∧ ¬ R3 v spin mass inertia asleep calm ∧ e = 3) ∨
  (Shp l 0 ∧ R1 p v ang spin ∧ R2 mass inertia bounce rub calm ∧ R3 v spin mass inertia asleep calm ∧ e = 0)
section
variable {p v : V27} {ang spin mass inertia bounce rub : Int} {l : List V27} {asleep : Bool} {calm : Int}
theorem Bc_uniq {e f : Int} (h : Bc p v ang spin mass inertia bounce rub l asleep calm e) (g : Bc p v ang spin mass inertia bounce rub l asleep calm f) : e = f := by
  have key : ∀ {x : Int},Shp l x → x ≠ 0 → Shp l 0 → False := fun hx h0 hz => h0 (Shp_uniq hx hz)
  rcases h with ⟨a,b⟩ | ⟨a,b,c⟩ | ⟨a,b,c,d,e'⟩ | ⟨a,b,c,d,e'⟩ <;> rcases g with ⟨x,y⟩ | ⟨x,y,z⟩ | ⟨x,y,z,w,u⟩ | ⟨x,y,z,w,u⟩
  · exact Shp_uniq a x
  · exact (key a b x).elim
  · exact (key a b x).elim
  · exact (key a b x).elim
  · exact (key x y a).elim
  · rw [c,z]
  · exact absurd ⟨y,z⟩ b
  · exact absurd ⟨y,z⟩ b
  · exact (key x y a).elim
  · exact absurd ⟨b,c⟩ y
  · rw [e',u]
  · exact absurd w d
  · exact (key x y a).elim
  · exact absurd ⟨b,c⟩ y
  · exact absurd d w
  · rw [e',u]
theorem chk_gen (k : Nat) (n a b : Int) : body_Check_1 k n a b = some (decide (a ≤ n ∧ n ≤ b)) := by
  unfold body_Check_1
  by_cases h : n ≥ a
  · rw [ige_pos h,bif_true]
    unfold ile
    congr 1
    rw [decide_eq_decide]
    exact ⟨fun x => ⟨h,x⟩,fun x => x.2⟩
  · rw [ige_neg (by omega),bif_false,decide_eq_false (fun x => h x.1)]
theorem Check_c1g (k : Nat) : body_Check.c1 k (p,v,ang,spin,mass,inertia,bounce,rub,l,asleep,calm,()) = some (!decide (R1 p v ang spin)) := by
  unfold body_Check.c1 R1
  dsimp only
  rw [bwithin_eq k p (by decide) (by decide),bnd_some,bwithin_eq k v (by decide) (by decide),chk_gen,chk_gen]
  have e1 : (-58982400 ≤ p.1 ∧ p.1 ≤ 58982400 ∧ -58982400 ≤ p.2.1 ∧ p.2.1 ≤ 58982400) = Bd p 58982400 := rfl
  have e2 : (-268435456 ≤ v.1 ∧ v.1 ≤ 268435456 ∧ -268435456 ≤ v.2.1 ∧ v.2.1 ≤ 268435456) = Bd v 268435456 := rfl
  by_cases h1 : Bd p 58982400 <;> by_cases h2 : Bd v 268435456 <;> by_cases h3 : (-16777216 ≤ spin ∧ spin ≤ 16777216) <;> by_cases h4 : (0 ≤ ang ∧ ang ≤ 65535) <;>
    simp [e1,e2,h1,h2,h3,h4,bif',bnd]
theorem Check_c2g (k : Nat) : body_Check.c2 k (p,v,ang,spin,mass,inertia,bounce,rub,l,asleep,calm,()) = some (!decide (R2 mass inertia bounce rub calm)) := by
  unfold body_Check.c2 R2
  dsimp only
  rw [chk_gen,chk_gen,chk_gen,chk_gen,chk_gen]
  by_cases h1 : (0 ≤ mass ∧ mass ≤ 1099511627776) <;> by_cases h2 : (0 ≤ inertia ∧ inertia ≤ 1099511627776) <;> by_cases h3 : (0 ≤ bounce ∧ bounce ≤ 65536) <;> by_cases h4 : (0 ≤ rub ∧ rub ≤ 65536) <;> by_cases h5 : (0 ≤ calm ∧ calm ≤ 1000) <;>
    simp [h1,h2,h3,h4,h5,bif',bnd]
theorem Check_c3g (k : Nat) : body_Check.c3 k (p,v,ang,spin,mass,inertia,bounce,rub,l,asleep,calm,()) = some (decide (v = (0,0,()) ∧ spin = 0)) := by
  unfold body_Check.c3
  dsimp only
  refine (congrArg (fun b => bif' b (some (ieq spin 0)) (some false)) (eqb24 v (0,0,()))).trans ?_
  by_cases a : v = (0,0,())
  · rw [decide_eq_true a,bif_true]
    unfold ieq
    congr 1
    rw [decide_eq_decide]
    exact ⟨fun h => ⟨a,h⟩,fun h => h.2⟩
  · rw [decide_eq_false a,bif_false,decide_eq_false (fun h => a h.1)]
open Classical in
theorem Check_c4g (k : Nat) {st : Bool} (hst : st = decide (v = (0,0,()) ∧ spin = 0)) : body_Check.c4 k (p,v,ang,spin,mass,inertia,bounce,rub,l,asleep,calm,()) st = some (decide (¬ R3 v spin mass inertia asleep calm)) := by
  have hs : st = true ↔ (v = (0,0,()) ∧ spin = 0) := by rw [hst]; exact decide_eq_true_iff
  have out : ∀ {b : Bool},(b = true ↔ ¬ R3 v spin mass inertia asleep calm) → some b = some (decide (¬ R3 v spin mass inertia asleep calm)) := by
    intro b hb
    congr 1
    by_cases h : ¬ R3 v spin mass inertia asleep calm
    · rw [decide_eq_true h]; exact hb.2 h
    · rw [decide_eq_false h]
      cases b
      · rfl
      · exact absurd (hb.1 rfl) h
  unfold body_Check.c4
  dsimp only
  have hq : Ty.eqb T4 (ieq mass (0 : Int)) (ieq inertia (0 : Int)) = (ieq mass 0 == ieq inertia 0) := rfl
  refine (congrArg (fun b => bif' b _ (some true)) hq).trans ?_
  unfold R3 at out ⊢
  by_cases a : mass = 0 <;> by_cases b : inertia = 0
  · rw [ieq_pos a,ieq_pos b]
    show bif' true _ _ = _
    rw [bif_true,bif_true]
    cases st with
    | false =>
      rw [bif_false]
      exact out ⟨fun _ h => (by have := hs.2 ⟨(h.2.1 a).1,(h.2.1 a).2.1⟩; cases this),fun _ => rfl⟩
    | true =>
      rw [bif_true]
      have hv := hs.1 rfl
      cases asleep with
      | true =>
        rw [bif_true]
        exact out ⟨fun _ h => (by have := (h.2.1 a).2.2.1; cases this),fun _ => rfl⟩
      | false =>
        rw [bif_false]
        by_cases c : calm = 0
        · rw [ine_neg c,bif_false]
          exact out ⟨fun h => absurd h Bool.false_ne_true,fun h => absurd ⟨⟨fun _ => b,fun _ => a⟩,fun _ => ⟨hv.1,hv.2,rfl,c⟩,fun h => by cases h⟩ h⟩
        · rw [ine_pos c,bif_true]
          exact out ⟨fun _ h => c (h.2.1 a).2.2.2,fun _ => rfl⟩
  · rw [ieq_pos a,ieq_neg b]
    exact out ⟨fun _ h => b (h.1.1 a),fun _ => rfl⟩
  · rw [ieq_neg a,ieq_pos b]
    exact out ⟨fun _ h => a (h.1.2 b),fun _ => rfl⟩
  · rw [ieq_neg a,ieq_neg b]
    show bif' true _ _ = _
    rw [bif_true,bif_false]
    cases asleep with
    | false =>
      rw [bif_false]
      exact out ⟨fun h => absurd h Bool.false_ne_true,fun h => absurd ⟨⟨fun h => absurd h a,fun h => absurd h b⟩,fun h => absurd h a,fun h => by cases h⟩ h⟩
    | true =>
      rw [bif_true]
      cases st with
      | true => exact out ⟨fun h => absurd h Bool.false_ne_true,fun h => absurd ⟨⟨fun h => absurd h a,fun h => absurd h b⟩,fun h => absurd h a,fun _ => hs.1 rfl⟩ h⟩
      | false => exact out ⟨fun _ h => (by have := hs.2 (h.2.2 rfl); cases this),fun _ => rfl⟩
open Classical in
theorem bodyCheck_gen {k : Nat} (hk : 9 ≤ k) : ∃ e,body_Check k (p,v,ang,spin,mass,inertia,bounce,rub,l,asleep,calm,()) = some e ∧ Bc p v ang spin mass inertia bounce rub l asleep calm e := by
  obtain ⟨s,e1,hs⟩ := shape_gen hk l
  unfold body_Check
  dsimp only
  rw [e1,bnd_some]
  by_cases h0 : s = 0
  · subst h0
    rw [ine_neg rfl,bif_false,Check_c1g,bnd_some]
    by_cases h1 : R1 p v ang spin
    · rw [decide_eq_true h1]
      show ∃ e,bif' false _ _ = some e ∧ _
      rw [bif_false,Check_c2g,bnd_some]
      by_cases h2 : R2 mass inertia bounce rub calm
      · rw [decide_eq_true h2]
        show ∃ e,bif' false _ _ = some e ∧ _
        rw [bif_false,Check_c3g,bnd_some,Check_c4g k rfl,bnd_some]
        by_cases h3 : R3 v spin mass inertia asleep calm
        · rw [decide_eq_false (fun h => h h3),bif_false]
          exact ⟨0,rfl,Or.inr (Or.inr (Or.inr ⟨hs,h1,h2,h3,rfl⟩))⟩
        · rw [decide_eq_true h3,bif_true]
          exact ⟨3,rfl,Or.inr (Or.inr (Or.inl ⟨hs,h1,h2,h3,rfl⟩))⟩
      · rw [decide_eq_false h2]
        show ∃ e,bif' true _ _ = some e ∧ _
        rw [bif_true]
        exact ⟨1,rfl,Or.inr (Or.inl ⟨hs,fun h => h2 h.2,rfl⟩)⟩
    · rw [decide_eq_false h1]
      show ∃ e,bif' true _ _ = some e ∧ _
      rw [bif_true]
      exact ⟨1,rfl,Or.inr (Or.inl ⟨hs,fun h => h1 h.1,rfl⟩)⟩
  · rw [ine_pos h0,bif_true]
    exact ⟨s,rfl,Or.inl ⟨hs,h0⟩⟩
end
end Go.Proofs.T1
namespace Go.Proofs.T1
open Go Go.Sx
def jj (n i v : Int) : Int := if i + v < n then i + v else i + v - n
theorem irem_jj {n i v : Int} (i0 : 0 ≤ i) (i1 : i < n) (v0 : 0 ≤ v) (v1 : v < n) (h : n ≤ 1000) : irem (iadd .i64 i v) n = jj n i v := by
  rw [iadd_i64 (by omega) (by omega)]
  unfold irem jj
  rw [Int.tmod_eq_emod_of_nonneg (by omega)]
  split
  · exact Int.emod_eq_of_lt (by omega) (by omega)
  · have e : i + v = (i + v - n) + n * 1 := by omega
    rw [e,Int.add_mul_emod_self_left,Int.emod_eq_of_lt (by omega) (by omega)]
    omega
theorem jj_range {n i v : Int} (i0 : 0 ≤ i) (i1 : i < n) (v0 : 0 ≤ v) (v1 : v < n) : 0 ≤ jj n i v ∧ jj n i v < n := by unfold jj; split <;> omega
theorem RCorners_c3 {k : Nat} (hk : 9 ≤ k) {l : List V27} (h8 : len l ≤ 8) (hr : AllR l) {i : Int} (i0 : 0 ≤ i) (i1 : i < len l) {n : Nat} {v : Int} (v0 : 2 ≤ v) (v1 : v < len l) :
    r2_Corners.c3 k l i (vsub (q l (nx (len l) i)) (q l i)) (n + 1) v = bif' (decide (tri (q l i) (q l (nx (len l) i)) (q l (jj (len l) i v)) < 8 * (sz (vsub (q l (nx (len l) i)) (q l i)) + sz (vsub (q l (jj (len l) i v)) (q l i))))) (some (.inl ())) (r2_Corners.c3 k l i (vsub (q l (nx (len l) i)) (q l i)) n (v + 1)) := by
  have hn := nx_range i0 i1
  have hj := jj_range (v := v) i0 i1 (by omega) v1
  have wi := hr i i0 i1
  have wj := hr _ hj.1 hj.2
  have wx := hr _ hn.1 hn.2
  rw [r2_Corners.c3,ilt_pos v1,bif_true,req_pos (show nz (len l) by unfold nz; omega),irem_jj i0 i1 (by omega) v1 (by omega),req_pos (inL_of hj.1 hj.2)]
  have hq1 : el Z27 l i = q l i := rfl
  have hq2 : el Z27 l (jj (len l) i v) = q l (jj (len l) i v) := rfl
  rw [hq1,hq2]
  generalize q l i = a at *
  generalize q l (nx (len l) i) = b at *
  generalize q l (jj (len l) i v) = c at *
  have es : r2_sub k c a = some (vsub c a) := by
    unfold r2_sub
    rw [isub_i64 (by omega) (by omega),isub_i64 (by omega) (by omega)]
    rfl
  have p1 := mul_bd (x := b.1 - a.1) (y := c.2.1 - a.2.1) (M := 4194304) (N := 4194304) (by omega) (by omega) (by omega) (by omega)
  have p2 := mul_bd (x := b.2.1 - a.2.1) (y := c.1 - a.1) (M := 4194304) (N := 4194304) (by omega) (by omega) (by omega) (by omega)
  obtain ⟨x,ex,rx⟩ := BCross hk (a := vsub b a) (b := vsub c a) (by unfold I64 vsub; dsimp only; omega) (by unfold I64 vsub; dsimp only; omega) (by unfold I64 vsub; dsimp only; omega) (by unfold I64 vsub; dsimp only; omega)
  have m1 : imax (vsub b a).1 (ineg .i64 (vsub b a).1) = mag (vsub b a).1 := imax_mag (by unfold vsub; dsimp only; omega) (by unfold vsub; dsimp only; omega)
  have m2 : imax (vsub b a).2.1 (ineg .i64 (vsub b a).2.1) = mag (vsub b a).2.1 := imax_mag (by unfold vsub; dsimp only; omega) (by unfold vsub; dsimp only; omega)
  have m3 : imax (vsub c a).1 (ineg .i64 (vsub c a).1) = mag (vsub c a).1 := imax_mag (by unfold vsub; dsimp only; omega) (by unfold vsub; dsimp only; omega)
  have m4 : imax (vsub c a).2.1 (ineg .i64 (vsub c a).2.1) = mag (vsub c a).2.1 := imax_mag (by unfold vsub; dsimp only; omega) (by unfold vsub; dsimp only; omega)
  have b1 := mag_bd (x := (vsub b a).1) (M := 4194304) (by unfold vsub; dsimp only; omega) (by unfold vsub; dsimp only; omega)
  have b2 := mag_bd (x := (vsub b a).2.1) (M := 4194304) (by unfold vsub; dsimp only; omega) (by unfold vsub; dsimp only; omega)
  have b3 := mag_bd (x := (vsub c a).1) (M := 4194304) (by unfold vsub; dsimp only; omega) (by unfold vsub; dsimp only; omega)
  have b4 := mag_bd (x := (vsub c a).2.1) (M := 4194304) (by unfold vsub; dsimp only; omega) (by unfold vsub; dsimp only; omega)
  have so : imul .i64 8 (iadd .i64 (iadd .i64 (iadd .i64 (mag (vsub b a).1) (mag (vsub b a).2.1)) (mag (vsub c a).1)) (mag (vsub c a).2.1)) = 8 * (sz (vsub b a) + sz (vsub c a)) := by
    rw [iadd_i64 (x := mag (vsub b a).1) (by omega) (by omega),iadd_i64 (x := mag (vsub b a).1 + mag (vsub b a).2.1) (by omega) (by omega),iadd_i64 (by omega) (by omega),imul_i64 (by omega) (by omega)]
    unfold sz
    omega
  have sb : 0 ≤ sz (vsub b a) + sz (vsub c a) ∧ sz (vsub b a) + sz (vsub c a) ≤ 16777216 := by unfold sz; omega
  obtain ⟨y,ey,ry⟩ := BOf hk (n := 8 * (sz (vsub b a) + sz (vsub c a))) (by omega) (by omega)
  have et : (vsub b a).1 * (vsub c a).2.1 - (vsub b a).2.1 * (vsub c a).1 = tri a b c := rfl
  rw [et] at rx
  have tb : -35184372088832 ≤ tri a b c ∧ tri a b c ≤ 35184372088832 := by unfold tri; omega
  rw [es,bnd_some,ex,bnd_some,m1,m2,m3,m4,so,ey,bnd_some,BCmp hk rx ry (by unfold SR; omega) (by unfold SR; omega),bnd_some,iadd_i64 (by omega) (by omega)]
  congr 1
  unfold ilt cmpI
  refine decide_eq_decide.2 ?_
  split
  · exact ⟨fun _ => by assumption,fun _ => by decide⟩
  · split
    · exact ⟨fun h => absurd h (by decide),fun h => by omega⟩
    · exact ⟨fun h => absurd h (by decide),fun h => by omega⟩
open Classical in
theorem RCorners_gen {k : Nat} (hk : 9 ≤ k) (l : List V27) : ∃ e,r2_Corners k l = some e ∧ Shp l e := by
  obtain ⟨c,e1,c1⟩ := Poly_eq hk l
  unfold r2_Corners
  rw [e1,bnd_some]
  by_cases hc : c = 0
  · subst hc
    have hv := Chk_zero c1
    have h3 := hv.1
    have h8 := hv.2.1
    rw [ine_neg rfl,bif_false]
    rcases find_loop (fun n v => r2_Corners.c1 k l n v) 0 (len l) (fun i => ¬ (-2097152 ≤ (q l i).1 ∧ (q l i).1 ≤ 2097152 ∧ -2097152 ≤ (q l i).2.1 ∧ (q l i).2.1 ≤ 2097152)) (fun _ => ())
      (by
        intro n v a b p
        show r2_Corners.c1 k l (n + 1) v = _
        rw [r2_Corners.c1,ilt_pos b,bif_true,req_pos (inL_of a b),coord_eq k _ _ (by decide) (by decide),bnd_some]
        show bif' (decide (-2097152 ≤ (q l v).1 ∧ (q l v).1 ≤ 2097152 ∧ -2097152 ≤ (q l v).2.1 ∧ (q l v).2.1 ≤ 2097152)) _ _ = _
        rw [decide_eq_false p,bif_false])
      (by
        intro n v a b p
        show r2_Corners.c1 k l (n + 1) v = r2_Corners.c1 k l n (v + 1)
        rw [r2_Corners.c1,ilt_pos b,bif_true,req_pos (inL_of a b),coord_eq k _ _ (by decide) (by decide),bnd_some]
        show bif' (decide (-2097152 ≤ (q l v).1 ∧ (q l v).1 ≤ 2097152 ∧ -2097152 ≤ (q l v).2.1 ∧ (q l v).2.1 ≤ 2097152)) _ _ = _
        rw [decide_eq_true (Classical.not_not.1 p),bif_true,iadd_i64 (by omega) (by omega)])
      (by
        intro n v a b
        show r2_Corners.c1 k l (n + 1) v = _
        rw [r2_Corners.c1,ilt_neg b,bif_false]) k 0 (by omega) (by omega) with ⟨j,a,b,p,_,e⟩ | ⟨a,e⟩
    · have e : r2_Corners.c1 k l k 0 = some (.inl ()) := e
      rw [e,bnd_some,two_inl]
      exact ⟨1,rfl,Or.inr (Or.inl ⟨hv,fun h => p (h j a b),rfl⟩)⟩
    · have e : r2_Corners.c1 k l k 0 = some (.inr ()) := e (by omega)
      have hr : AllR l := fun i i0 i1 => Classical.not_not.1 (a i i0 i1)
      rw [e,bnd_some,two_inr]
      have C3 : ∀ i,0 ≤ i → i < len l → (r2_Corners.c3 k l i (vsub (q l (nx (len l) i)) (q l i)) k 2 = some (.inl ()) ∧ ∃ v,2 ≤ v ∧ v < len l ∧ tri (q l i) (q l (nx (len l) i)) (q l (jj (len l) i v)) < 8 * (sz (vsub (q l (nx (len l) i)) (q l i)) + sz (vsub (q l (jj (len l) i v)) (q l i)))) ∨
          (r2_Corners.c3 k l i (vsub (q l (nx (len l) i)) (q l i)) k 2 = some (.inr ()) ∧ ∀ v,2 ≤ v → v < len l → ¬ tri (q l i) (q l (nx (len l) i)) (q l (jj (len l) i v)) < 8 * (sz (vsub (q l (nx (len l) i)) (q l i)) + sz (vsub (q l (jj (len l) i v)) (q l i)))) := by
        intro i i0 i1
        rcases find_loop (fun n v => r2_Corners.c3 k l i (vsub (q l (nx (len l) i)) (q l i)) n v) 2 (len l) (fun v => tri (q l i) (q l (nx (len l) i)) (q l (jj (len l) i v)) < 8 * (sz (vsub (q l (nx (len l) i)) (q l i)) + sz (vsub (q l (jj (len l) i v)) (q l i)))) (fun _ => ())
          (by
            intro n v a b p
            show r2_Corners.c3 k l i (vsub (q l (nx (len l) i)) (q l i)) (n + 1) v = _
            rw [RCorners_c3 hk h8 hr i0 i1 a b,decide_eq_true p,bif_true])
          (by
            intro n v a b p
            show r2_Corners.c3 k l i (vsub (q l (nx (len l) i)) (q l i)) (n + 1) v = _
            rw [RCorners_c3 hk h8 hr i0 i1 a b,decide_eq_false p,bif_false])
          (by
            intro n v a b
            show r2_Corners.c3 k l i (vsub (q l (nx (len l) i)) (q l i)) (n + 1) v = _
            rw [r2_Corners.c3,ilt_neg b,bif_false]) k 2 (by omega) (by omega) with ⟨j,a,b,p,_,e⟩ | ⟨a,e⟩
        · exact Or.inl ⟨e,j,a,b,p⟩
        · exact Or.inr ⟨e (by omega),a⟩
      have st : ∀ n i,0 ≤ i → i < len l → r2_Corners.c2 k l (n + 1) i = bnd (r2_Corners.c3 k l i (vsub (q l (nx (len l) i)) (q l i)) k 2) fun o36 => two o36 (fun _ => some (.inl ())) (fun _ => r2_Corners.c2 k l n (i + 1)) := by
        intro n i i0 i1
        have hn := nx_range i0 i1
        have wi := hr i i0 i1
        have wx := hr _ hn.1 hn.2
        rw [r2_Corners.c2,ilt_pos i1,bif_true,req_pos (inL_of i0 i1),req_pos (show nz (len l) by unfold nz; omega),irem_nx i0 i1 (by omega),req_pos (inL_of hn.1 hn.2)]
        have es : r2_sub k (el Z27 l (nx (len l) i)) (el Z27 l i) = some (vsub (q l (nx (len l) i)) (q l i)) := by
          show r2_sub k (q l (nx (len l) i)) (q l i) = _
          unfold r2_sub
          rw [isub_i64 (by omega) (by omega),isub_i64 (by omega) (by omega)]
          rfl
        rw [es,bnd_some,iadd_i64 (by omega) (by omega)]
      rcases find_loop (fun n v => r2_Corners.c2 k l n v) 0 (len l) (fun i => ∃ v,2 ≤ v ∧ v < len l ∧ tri (q l i) (q l (nx (len l) i)) (q l (jj (len l) i v)) < 8 * (sz (vsub (q l (nx (len l) i)) (q l i)) + sz (vsub (q l (jj (len l) i v)) (q l i)))) (fun _ => ())
        (by
          intro n v a b p
          show r2_Corners.c2 k l (n + 1) v = _
          rw [st n v a b]
          rcases C3 v a b with ⟨e,_⟩ | ⟨_,e⟩
          · rw [e,bnd_some,two_inl]
          · obtain ⟨j,x,y,z⟩ := p
            exact absurd z (e j x y))
        (by
          intro n v a b p
          show r2_Corners.c2 k l (n + 1) v = r2_Corners.c2 k l n (v + 1)
          rw [st n v a b]
          rcases C3 v a b with ⟨_,e⟩ | ⟨e,_⟩
          · exact absurd e p
          · rw [e,bnd_some,two_inr])
        (by
          intro n v a b
          show r2_Corners.c2 k l (n + 1) v = _
          rw [r2_Corners.c2,ilt_neg b,bif_false]) k 0 (by omega) (by omega) with ⟨i,a,b,⟨v,p1,p2,p3⟩,_,e⟩ | ⟨a,e⟩
      · have e : r2_Corners.c2 k l k 0 = some (.inl ()) := e
        rw [e,bnd_some,two_inl]
        refine ⟨3,rfl,Or.inr (Or.inr (Or.inl ⟨hv,hr,fun h => ?_,rfl⟩))⟩
        have hj := jj_range (v := v) a b (by omega) p2
        have := h.1 i (jj (len l) i v) a b hj.1 hj.2 (by unfold jj; split <;> omega) (by unfold jj nx; split <;> split <;> omega)
        omega
      · have e : r2_Corners.c2 k l k 0 = some (.inr ()) := e (by omega)
        rw [e,bnd_some,two_inr,Inside_val hk hv,bnd_some]
        have hF : FatP l := by
          intro i j i0 i1 j0 j1 n1 n2
          have h := a i i0 i1
          rcases Int.lt_or_le (tri (q l i) (q l (nx (len l) i)) (q l j)) (8 * (sz (vsub (q l (nx (len l) i)) (q l i)) + sz (vsub (q l j) (q l i)))) with g | g
          · exfalso
            refine h ⟨if i < j then j - i else j - i + len l,?_,?_,?_⟩
            · unfold nx at n2; split at n2 <;> split <;> omega
            · split <;> omega
            · have : jj (len l) i (if i < j then j - i else j - i + len l) = j := by
                unfold jj
                by_cases c : i < j
                · rw [if_pos c,if_pos (by omega)]; omega
                · rw [if_neg c,if_neg (by omega)]; omega
              rw [this]
              exact g
          · exact g
        by_cases hI : InP l Z27
        · have : Wn (0,0,()) ∧ FanP l (0,0,()) := ⟨by decide,In_Fan hv.1 hI⟩
          rw [decide_eq_true this,bif_true]
          exact ⟨0,rfl,Or.inr (Or.inr (Or.inr ⟨hv,hr,hF,hI,rfl⟩))⟩
        · have : ¬ (Wn (0,0,()) ∧ FanP l (0,0,())) := fun h => hI (Fan_In hv.2.2.2 h.2)
          rw [decide_eq_false this,bif_false]
          exact ⟨3,rfl,Or.inr (Or.inr (Or.inl ⟨hv,hr,fun h => hI h.2,rfl⟩))⟩
  · rw [ine_pos hc,bif_true]
    exact ⟨c,rfl,Or.inl ⟨c1,hc⟩⟩
section
variable {p v : V27} {ang spin mass inertia bounce rub : Int} {l : List V27} {asleep : Bool} {calm : Int}
theorem between_eq (k : Nat) (n a b : Int) : r2_between k n a b = some (decide (a ≤ n ∧ n ≤ b)) := by
  unfold r2_between
  by_cases h : a ≤ n
  · rw [ile_pos h,bif_true]
    unfold ile
    congr 1
    rw [decide_eq_decide]
    exact ⟨fun x => ⟨h,x⟩,fun x => x.2⟩
  · rw [ile_neg (by omega),bif_false,decide_eq_false (fun x => h x.1)]
theorem RBody_c1 (k : Nat) : r2_Body.c1 k (p,v,ang,spin,mass,inertia,bounce,rub,l,asleep,calm,()) = some (!decide (R1 p v ang spin)) := by
  unfold r2_Body.c1 R1
  dsimp only
  rw [coord_eq k p 58982400 (by decide) (by decide),bnd_some,coord_eq k v 268435456 (by decide) (by decide),between_eq,between_eq]
  have e1 : (-58982400 ≤ p.1 ∧ p.1 ≤ 58982400 ∧ -58982400 ≤ p.2.1 ∧ p.2.1 ≤ 58982400) = Bd p 58982400 := rfl
  have e2 : (-268435456 ≤ v.1 ∧ v.1 ≤ 268435456 ∧ -268435456 ≤ v.2.1 ∧ v.2.1 ≤ 268435456) = Bd v 268435456 := rfl
  by_cases h1 : Bd p 58982400 <;> by_cases h2 : Bd v 268435456 <;> by_cases h3 : (-16777216 ≤ spin ∧ spin ≤ 16777216) <;> by_cases h4 : (0 ≤ ang ∧ ang ≤ 65535) <;>
    simp [e1,e2,h1,h2,h3,h4,bif',bnd]
theorem RBody_c2 (k : Nat) : r2_Body.c2 k (p,v,ang,spin,mass,inertia,bounce,rub,l,asleep,calm,()) = some (!decide (R2 mass inertia bounce rub calm)) := by
  unfold r2_Body.c2 R2
  dsimp only
  rw [between_eq,bnd_some,between_eq,between_eq,between_eq,between_eq]
  by_cases h1 : (0 ≤ mass ∧ mass ≤ 1099511627776) <;> by_cases h2 : (0 ≤ inertia ∧ inertia ≤ 1099511627776) <;> by_cases h3 : (0 ≤ bounce ∧ bounce ≤ 65536) <;> by_cases h4 : (0 ≤ rub ∧ rub ≤ 65536) <;> by_cases h5 : (0 ≤ calm ∧ calm ≤ 1000) <;>
    simp [h1,h2,h3,h4,h5,bif',bnd]
theorem RBody_c3 (k : Nat) : ∃ m : Bool,r2_Body.c3 k (p,v,ang,spin,mass,inertia,bounce,rub,l,asleep,calm,()) = some m ∧ (m = false ↔ v = (0,0,()) ∧ spin = 0) := by
  obtain ⟨a,b,_⟩ := v
  unfold r2_Body.c3
  dsimp only
  by_cases ha : a = 0
  · rw [ine_neg ha,bif_false]
    by_cases hb : b = 0
    · rw [ine_neg hb,bif_false]
      refine ⟨_,rfl,?_⟩
      unfold ine
      rw [decide_eq_false_iff_not]
      subst ha hb
      exact ⟨fun h => ⟨rfl,Classical.not_not.1 h⟩,fun h g => g h.2⟩
    · rw [ine_pos hb,bif_true]
      exact ⟨true,rfl,fun h => (by cases h),fun h => absurd (congrArg (fun x : V27 => x.2.1) h.1) hb⟩
  · rw [ine_pos ha,bif_true]
    exact ⟨true,rfl,fun h => (by cases h),fun h => absurd (congrArg (fun x : V27 => x.1) h.1) ha⟩
theorem RBody_gen {k : Nat} (hk : 9 ≤ k) : ∃ e,r2_Body k (p,v,ang,spin,mass,inertia,bounce,rub,l,asleep,calm,()) = some e ∧ Bc p v ang spin mass inertia bounce rub l asleep calm e := by
  obtain ⟨s,e1,hs⟩ := RCorners_gen hk l
  unfold r2_Body
  dsimp only
  rw [e1,bnd_some]
  by_cases h0 : s = 0
  · subst h0
    rw [ine_neg rfl,bif_false,RBody_c1,bnd_some]
    by_cases h1 : R1 p v ang spin
    · rw [decide_eq_true h1]
      show ∃ e,bif' false _ _ = some e ∧ _
      rw [bif_false,RBody_c2,bnd_some]
      by_cases h2 : R2 mass inertia bounce rub calm
      · rw [decide_eq_true h2]
        show ∃ e,bif' false _ _ = some e ∧ _
        obtain ⟨m,em,hm⟩ := RBody_c3 (p := p) (v := v) (ang := ang) (spin := spin) (mass := mass) (inertia := inertia) (bounce := bounce) (rub := rub) (l := l) (asleep := asleep) (calm := calm) k
        have m0 := h2.1.1
        have n0 := h2.2.1.1
        have c0 := h2.2.2.2.2.1
        have no : ¬ R3 v spin mass inertia asleep calm → ∃ e,some 3 = some e ∧ Bc p v ang spin mass inertia bounce rub l asleep calm e := fun h => ⟨3,rfl,Or.inr (Or.inr (Or.inl ⟨hs,h1,h2,h,rfl⟩))⟩
        have yes : R3 v spin mass inertia asleep calm → ∃ e,some 0 = some e ∧ Bc p v ang spin mass inertia bounce rub l asleep calm e := fun h => ⟨0,rfl,Or.inr (Or.inr (Or.inr ⟨hs,h1,h2,h,rfl⟩))⟩
        rw [bif_false,em,bnd_some]
        unfold r2_Body.c4 r2_Body.c5 r2_Body.c6 r2_Body.c7
        dsimp only
        unfold R3 at no yes
        by_cases a : mass = 0
        · rw [ieq_pos a,bif_true,bnd_some]
          by_cases b : inertia = 0
          · rw [igt_neg (by omega),bif_false,igt_neg (by omega),bif_false,bnd_some,bif_false,bif_true]
            cases m with
            | true =>
              rw [bif_true,bnd_some,bif_true]
              exact no fun h => (by have := hm.2 ⟨(h.2.1 a).1,(h.2.1 a).2.1⟩; cases this)
            | false =>
              have hv := hm.1 rfl
              rw [bif_false]
              cases asleep with
              | true =>
                rw [bif_true,bnd_some,bif_true]
                exact no fun h => (by have := (h.2.1 a).2.2.1; cases this)
              | false =>
                rw [bif_false,bnd_some]
                by_cases c : calm = 0
                · rw [igt_neg (by omega),bif_false,bif_false,bnd_some,bif_false]
                  exact yes ⟨⟨fun _ => b,fun _ => a⟩,fun _ => ⟨hv.1,hv.2,rfl,c⟩,fun h => (by cases h)⟩
                · rw [igt_pos (by omega),bif_true]
                  exact no fun h => c (h.2.1 a).2.2.2
          · rw [igt_pos (by omega),bif_true,bnd_some,bif_true]
            exact no fun h => b (h.1.1 a)
        · rw [ieq_neg a,bif_false,bnd_some,bif_false,igt_pos (by omega),bif_true,bnd_some]
          by_cases b : inertia = 0
          · rw [ieq_pos b,bif_true]
            exact no fun h => a (h.1.2 b)
          · rw [ieq_neg b,bif_false,bif_false,bnd_some,bif_false]
            cases asleep with
            | false =>
              rw [bif_false,bnd_some,bif_false]
              exact yes ⟨⟨fun h => absurd h a,fun h => absurd h b⟩,fun h => absurd h a,fun h => (by cases h)⟩
            | true =>
              rw [bif_true,bnd_some]
              cases m with
              | true =>
                rw [bif_true]
                exact no fun h => (by have := hm.2 (h.2.2 rfl); cases this)
              | false =>
                rw [bif_false]
                exact yes ⟨⟨fun h => absurd h a,fun h => absurd h b⟩,fun h => absurd h a,fun _ => hm.1 rfl⟩
      · rw [decide_eq_false h2]
        show ∃ e,bif' true _ _ = some e ∧ _
        rw [bif_true]
        exact ⟨1,rfl,Or.inr (Or.inl ⟨hs,fun h => h2 h.2,rfl⟩)⟩
    · rw [decide_eq_false h1]
      show ∃ e,bif' true _ _ = some e ∧ _
      rw [bif_true]
      exact ⟨1,rfl,Or.inr (Or.inl ⟨hs,fun h => h1 h.1,rfl⟩)⟩
  · rw [ine_pos h0,bif_true]
    exact ⟨s,rfl,Or.inl ⟨hs,h0⟩⟩
end
end Go.Proofs.T1
