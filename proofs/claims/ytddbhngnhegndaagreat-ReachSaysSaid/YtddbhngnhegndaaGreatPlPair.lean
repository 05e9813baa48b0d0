import Derived.Test.YtddbhngnhegndaaGreatPlDist
namespace Go.Proofs.T1
open Go Go.Sx
def DifE (a b l : List V22) : Prop := ∀ t,0 ≤ t → t < len l → ∃ r s,(0 ≤ r ∧ r < len a) ∧ (0 ≤ s ∧ s < len b) ∧ q l t = sb (q a r) (q b s) ∧
  (q l (nx (len l) t) = sb (q a (nx (len a) r)) (q b s) ∨ q l (nx (len l) t) = sb (q a r) (q b (nx (len b) s)) ∨
    (q l (nx (len l) t) = sb (q a (nx (len a) r)) (q b (nx (len b) s)) ∧ tri (q l t) (q l (nx (len l) t)) (sb (q a (nx (len a) r)) (q b s)) = 0))
theorem dif_edges {a b : List V22} (ha : EdgeP a) (a3 : 3 ≤ len a) (hb : EdgeP b) (b3 : 3 ≤ len b) {i0 k0 : Nat} (hi : LowP a i0) (hk : LowP (negl b) k0) {T : Nat}
    (P : Path a.length b.length (rot a i0) (rot (negl b) k0) T) : DifE a b (lst T (Mt a.length b.length (rot a i0) (rot (negl b) k0))) := by
  have hA := rot_Cv ha a3 hi
  have lb : (negl b).length = b.length := by unfold negl; simp
  have hC := rot_Cv (EdgeP_negl hb) (by rw [len_negl]; exact b3) hk
  rw [lb] at hC
  have la : len a = (a.length : Int) := rfl
  have lbb : len b = (b.length : Int) := rfl
  have hge := P.ge
  have k1 := hk.1
  rw [len_negl] at k1
  have eA : ∀ i,i ≤ a.length → ∃ r,(0 ≤ r ∧ r < len a) ∧ rot a i0 i = q a r ∧ (i < a.length → rot a i0 (i + 1) = q a (nx (len a) r)) := by
    intro i h
    by_cases c : i = a.length
    · obtain ⟨r,r0,r1,e,_⟩ := rot_at a (i0 := i0) (i := 0) hi.1 (by omega)
      exact ⟨r,⟨r0,r1⟩,by rw [c,hA.per]; exact e,fun g => by omega⟩
    · obtain ⟨r,r0,r1,e,f,_⟩ := rot_at a (i0 := i0) (i := i) hi.1 (by omega)
      exact ⟨r,⟨r0,r1⟩,e,fun _ => f⟩
  have eC : ∀ i,i ≤ b.length → ∃ r,(0 ≤ r ∧ r < len b) ∧ rot (negl b) k0 i = ng (q b r) ∧ (i < b.length → rot (negl b) k0 (i + 1) = ng (q b (nx (len b) r))) := by
    intro i h
    have H : ∀ i,i < b.length → ∃ r,(0 ≤ r ∧ r < len b) ∧ rot (negl b) k0 i = ng (q b r) ∧ rot (negl b) k0 (i + 1) = ng (q b (nx (len b) r)) := by
      intro i h
      obtain ⟨r,r0,r1,e,f,_⟩ := rot_at (negl b) (i0 := k0) (i := i) hk.1 (by rw [len_negl]; omega)
      rw [len_negl] at r1 f
      have hn := nx_range r0 r1
      rw [q_negl r0 r1] at e
      rw [q_negl hn.1 hn.2] at f
      exact ⟨r,⟨r0,r1⟩,e,f⟩
    by_cases c : i = b.length
    · obtain ⟨r,hr,e,_⟩ := H 0 (by omega)
      exact ⟨r,hr,by rw [c,hC.per]; exact e,fun g => by omega⟩
    · obtain ⟨r,hr,e,f⟩ := H i (by omega)
      exact ⟨r,hr,e,fun _ => f⟩
  intro t t0 t1
  have hn := nx_range t0 t1
  rw [len_lst] at *
  rw [q_lst t0 t1,q_lst hn.1 hn.2]
  have e2 : Mt a.length b.length (rot a i0) (rot (negl b) k0) (nx (T : Int) t).toNat = Mt a.length b.length (rot a i0) (rot (negl b) k0) (t.toNat + 1) := by
    unfold nx
    split
    · rename_i c
      rw [show t.toNat + 1 = T by omega,M_per hA hC P]; rfl
    · congr 1; omega
  rw [e2]
  have h := P.inv t.toNat (by omega)
  have ne := P.ne t.toNat (by omega)
  have hs : Mt a.length b.length (rot a i0) (rot (negl b) k0) (t.toNat + 1) = mp (rot a i0) (rot (negl b) k0) (stp a.length b.length (rot a i0) (rot (negl b) k0) (sta a.length b.length (rot a i0) (rot (negl b) k0) t.toNat)) := rfl
  have h0 : Mt a.length b.length (rot a i0) (rot (negl b) k0) t.toNat = mp (rot a i0) (rot (negl b) k0) (sta a.length b.length (rot a i0) (rot (negl b) k0) t.toNat) := rfl
  rw [hs,h0]
  generalize sta a.length b.length (rot a i0) (rot (negl b) k0) t.toNat = s at *
  obtain ⟨x,y⟩ := s
  dsimp only at *
  obtain ⟨r,hr,e,e'⟩ := eA x h.xn
  obtain ⟨s,hs,f,f'⟩ := eC y h.ym
  refine ⟨r,s,hr,hs,?_,?_⟩
  · unfold mp
    dsimp only
    rw [e,f,sb_ng]
  · unfold stp fi mp
    dsimp only
    by_cases F1 : Fi a.length b.length (rot a i0) (rot (negl b) k0) x y <;> by_cases F2 : Fi b.length a.length (rot (negl b) k0) (rot a i0) y x
    · rw [if_pos F1,if_pos F2]
      have xe := e' F1.1
      have ye := f' F2.1
      refine Or.inr (Or.inr ⟨by rw [xe,ye,sb_ng],?_⟩)
      have c1 : 0 ≤ cr (ed (rot a i0) x) (ed (rot (negl b) k0) y) := by
        rcases F1.2 with g | g
        · have := F2.1; omega
        · exact g
      have c2 : 0 ≤ cr (ed (rot (negl b) k0) y) (ed (rot a i0) x) := by
        rcases F2.2 with g | g
        · have := F1.1; omega
        · exact g
      rw [cr_anti] at c2
      have c3 : cr (ed (rot a i0) x) (ed (rot (negl b) k0) y) = 0 := by omega
      rw [← sb_ng,← xe,← f]
      generalize rot a i0 = A at *
      generalize rot (negl b) k0 = C at *
      unfold tri pl
      unfold cr ed sb at c3
      dsimp only at *
      grind
    · rw [if_pos F1,if_neg F2]
      exact Or.inl (by show pl (rot a i0 (x + 1)) (rot (negl b) k0 y) = _; rw [e' F1.1,f,sb_ng])
    · rw [if_neg F1,if_pos F2]
      exact Or.inr (Or.inl (by show pl (rot a i0 x) (rot (negl b) k0 (y + 1)) = _; rw [e,f' F2.1,sb_ng]))
    · rcases some_Fi (A := rot a i0) (C := rot (negl b) k0) h.xn h.ym ne with c | c
      · exact absurd c F1
      · exact absurd c F2
theorem Seg_split {u v m : V22} (hm : Seg u v m.1 m.2.1 1) {X Y w : Int} (h : Seg u v X Y w) : Seg u m X Y w ∨ Seg m v X Y w := by
  obtain ⟨a,b,D,a0,b0,D0,e1,e2,e3⟩ := hm
  obtain ⟨α,β,E,α0,β0,E0,f1,f2,f3⟩ := h
  rw [Int.mul_one] at e1
  subst e1
  rcases Int.lt_or_le (β * a) (b * α) with c | c
  · have hb : 0 < b := by
      rcases Int.lt_or_le 0 b with g | g
      · exact g
      · have : b = 0 := by omega
        subst this
        have := Int.mul_nonneg β0 a0
        omega
    refine Or.inl ⟨b * α - β * a,β * (a + b),b * E,by omega,Int.mul_nonneg β0 (by omega),Int.mul_pos hb E0,?_,?_,?_⟩
    · have : b * E * w = b * (E * w) := by grind
      rw [this,f1]; grind
    · have : b * E * X = b * (E * X) := by grind
      rw [this,f2]
      have : β * (a + b) * m.1 = β * ((a + b) * m.1) := by grind
      rw [this,e2]; grind
    · have : b * E * Y = b * (E * Y) := by grind
      rw [this,f3]
      have : β * (a + b) * m.2.1 = β * ((a + b) * m.2.1) := by grind
      rw [this,e3]; grind
  · by_cases ha : a = 0
    · -- then the middle is the end
      subst ha
      have hα : b * α = 0 := by
        have := Int.mul_nonneg b0 α0
        simp only [Int.mul_zero] at c
        omega
      have hb : 0 < b := by omega
      have α1 : α = 0 := zero_of_mul hb hα
      subst α1
      simp only [Int.zero_mul,Int.zero_add] at e2 e3 f2 f3 f1
      have m1 : m.1 = v.1 := by
        have := Int.eq_of_mul_eq_mul_left (show b ≠ 0 by omega) e2
        exact this
      have m2 : m.2.1 = v.2.1 := Int.eq_of_mul_eq_mul_left (show b ≠ 0 by omega) e3
      exact Or.inr ⟨0,β,E,by decide,β0,E0,by omega,by omega,by omega⟩
    · have ha : 0 < a := by omega
      refine Or.inr ⟨α * (a + b),β * a - b * α,a * E,Int.mul_nonneg α0 (by omega),by omega,Int.mul_pos ha E0,?_,?_,?_⟩
      · have : a * E * w = a * (E * w) := by grind
        rw [this,f1]; grind
      · have : a * E * X = a * (E * X) := by grind
        rw [this,f2]
        have : α * (a + b) * m.1 = α * ((a + b) * m.1) := by grind
        rw [this,e2]; grind
      · have : a * E * Y = a * (E * Y) := by grind
        rw [this,f3]
        have : α * (a + b) * m.2.1 = α * ((a + b) * m.2.1) := by grind
        rw [this,e3]; grind
theorem Seg_in {l : List V22} {u v : V22} (hu : InP l u) (hv : InP l v) {X Y w : Int} (h : Seg u v X Y w) : HIn l X Y w := by
  obtain ⟨α,β,D,h1,h2,h3,e1,e2,e3⟩ := h
  intro i i0 i1
  refine nn_of_mul h3 ?_
  rw [hs_mul,e1,e2,e3]
  have t := hs_three (q l i) (q l (nx (len l) i)) u v v α β 0
  simp only [Int.zero_mul,Int.add_zero] at t
  rw [t]
  have := Int.mul_nonneg h1 (hu i i0 i1)
  have := Int.mul_nonneg h2 (hv i i0 i1)
  omega
theorem NrS_ng {p r : V22} {n : Int} (h : NrS p r n) : NrS (ng p) (ng r) n := by
  intro X Y w hw ⟨α,β,D,h1,h2,h3,e1,e2,e3⟩
  have := h (-X) (-Y) w hw ⟨α,β,D,h1,h2,h3,e1,by
    have : D * -X = -(D * X) := Int.mul_neg _ _
    rw [this,e2]; unfold ng; dsimp only; grind,by
    have : D * -Y = -(D * Y) := Int.mul_neg _ _
    rw [this,e3]; unfold ng; dsimp only; grind⟩
  rw [Int.neg_mul_neg,Int.neg_mul_neg] at this
  exact this
theorem ng_sb (u v : V22) : ng (sb u v) = sb v u := by
  refine v_ext ?_ ?_ <;> unfold ng sb <;> dsimp only <;> omega
def Nr1 (a b : List V22) (n : Int) : Prop := ∀ i k,0 ≤ i → i < len a → 0 ≤ k → k < len b → NrS (sb (q b k) (q a i)) (sb (q b (nx (len b) k)) (q a i)) n
theorem NrL_pair {a b l : List V22} (D : Dif a b l) (E : DifE a b l) (hz : ¬ InP l zed) {n : Int} : NrL l n ↔ Nr1 a b n ∧ Nr1 b a n := by
  have hin : ∀ i j,(0 ≤ i ∧ i < len a) → (0 ≤ j ∧ j < len b) → InP l (sb (q a i) (q b j)) := fun i j hi hj t t0 t1 => D.all t i j t0 t1 hi.1 hi.2 hj.1 hj.2
  constructor
  · intro h
    constructor
    · intro i k i0 i1 k0 k1
      have hn := nx_range k0 k1
      rw [← ng_sb (q a i) (q b k),← ng_sb (q a i) (q b (nx (len b) k))]
      exact NrS_ng fun X Y w hw g => h X Y w hw (Seg_in (hin i k ⟨i0,i1⟩ ⟨k0,k1⟩) (hin i _ ⟨i0,i1⟩ hn) g)
    · intro i k i0 i1 k0 k1
      have hn := nx_range k0 k1
      exact fun X Y w hw g => h X Y w hw (Seg_in (hin k i ⟨k0,k1⟩ ⟨i0,i1⟩) (hin _ i hn ⟨i0,i1⟩) g)
  · intro ⟨h1,h2⟩
    refine (NrL_iff D.edge D.len3 hz).2 fun t t0 t1 => ?_
    obtain ⟨r,s,hr,hs,e,f⟩ := E t t0 t1
    have hr' := nx_range hr.1 hr.2
    have hs' := nx_range hs.1 hs.2
    have A : ∀ s,0 ≤ s → s < len b → NrS (sb (q a r) (q b s)) (sb (q a (nx (len a) r)) (q b s)) n := fun s s0 s1 => h2 s r s0 s1 hr.1 hr.2
    have B : ∀ r,0 ≤ r → r < len a → NrS (sb (q a r) (q b s)) (sb (q a r) (q b (nx (len b) s))) n := by
      intro r r0 r1
      have := NrS_ng (h1 r s r0 r1 hs.1 hs.2)
      rw [ng_sb,ng_sb] at this
      exact this
    rcases f with f | f | ⟨f,z⟩
    · rw [e,f]; exact A s hs.1 hs.2
    · rw [e,f]; exact B r hr.1 hr.2
    · have hm : Seg (q l t) (q l (nx (len l) t)) (sb (q a (nx (len a) r)) (q b s)).1 (sb (q a (nx (len a) r)) (q b s)).2.1 1 := on_edge D.edge D.len3 t0 t1 (HIn_one.2 (hin _ s hr' hs)) (by rw [hs_one]; exact z)
      intro X Y w hw g
      rcases Seg_split hm g with g | g
      · rw [e] at g; exact A s hs.1 hs.2 X Y w hw g
      · rw [f] at g; exact B _ hr'.1 hr'.2 X Y w hw g
end Go.Proofs.T1
