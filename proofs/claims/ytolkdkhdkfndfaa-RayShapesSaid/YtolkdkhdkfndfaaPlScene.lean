import Derived.Test.YtolkdkhdkfndfaaPlTurn
import Derived.Test.YtolkdkhdkfndfaaG6
namespace Go.Proofs.T1
open Go Go.Sx
abbrev OKb (k : Nat) (b : V67) : Prop := body_Check k b = some 0
def AllK (k : Nat) (l : List V67) : Prop := ∀ i,0 ≤ i → i < len l → OKb k (el Z67 l i)
theorem bcheck_same {k : Nat} (hk : 9 ≤ k) (b : V67) : ∃ e,body_Check k b = some e ∧ r2_Body k b = some e := by
  obtain ⟨p,v,ang,spin,mass,inertia,bounce,rub,l,asleep,calm,_⟩ := b
  obtain ⟨e,e1,h1⟩ := bodyCheck_gen hk (p := p) (v := v) (ang := ang) (spin := spin) (mass := mass) (inertia := inertia) (bounce := bounce) (rub := rub) (l := l) (asleep := asleep) (calm := calm)
  obtain ⟨e',e2,h2⟩ := RBody_gen hk (p := p) (v := v) (ang := ang) (spin := spin) (mass := mass) (inertia := inertia) (bounce := bounce) (rub := rub) (l := l) (asleep := asleep) (calm := calm)
  have ee := Bc_uniq h1 h2
  subst ee
  exact ⟨e,e1,e2⟩
theorem nn_sq (x : Int) : 0 ≤ x * x := by
  rcases Int.le_total 0 x with h | h
  · exact Int.mul_nonneg h h
  · have := Int.mul_nonneg (show 0 ≤ -x by omega) (show 0 ≤ -x by omega)
    rw [Int.neg_mul_neg] at this
    exact this
section
variable {p v : V27} {ang spin mass inertia bounce rub : Int} {l : List V27} {asleep : Bool} {calm : Int}
end
theorem find_any {α : Type} (F : Nat → Int → Option (α ⊕ Unit)) (N : Int) (g : Int → Option α)
    (hstep : ∀ n v,0 ≤ v → v < N → F (n + 1) v = match g v with | some y => some (.inl y) | none => F n (v + 1))
    (hend : ∀ n v,0 ≤ v → N ≤ v → F (n + 1) v = some (.inr ())) :
    ∀ (n : Nat) (v : Int),0 ≤ v → v ≤ N → N - v < (n : Int) → (∃ j y,v ≤ j ∧ j < N ∧ g j = some y ∧ F n v = some (.inl y)) ∨ ((∀ j,v ≤ j → j < N → g j = none) ∧ F n v = some (.inr ())) := by
  intro n
  induction n with
  | zero => intro v h1 h2 h3; omega
  | succ n ih =>
    intro v h1 h2 h3
    by_cases hv : v < N
    · have hs := hstep n v h1 hv
      cases hg : g v with
      | some y =>
        rw [hg] at hs
        exact Or.inl ⟨v,y,by omega,hv,hg,hs⟩
      | none =>
        rw [hg] at hs
        have hs : F (n + 1) v = F n (v + 1) := hs
        rw [hs]
        rcases ih (v + 1) (by omega) (by omega) (by omega) with ⟨j,y,a,b,c,d⟩ | ⟨a,b⟩
        · exact Or.inl ⟨j,y,by omega,b,c,d⟩
        · refine Or.inr ⟨fun j j0 j1 => ?_,b⟩
          by_cases e : j = v
          · rw [e]; exact hg
          · exact a j (by omega) j1
    · exact Or.inr ⟨fun j a b => by omega,hend n v h1 (by omega)⟩
theorem kcheck {k : Nat} (hk : 9 ≤ k) (hk' : 100 < k) (l : List V67) : ∃ e,keep_Check k l = some e ∧ r2_Bodies k l = some e ∧ (e = 0 → AllK k l ∧ len l ≤ 64) := by
  unfold keep_Check r2_Bodies
  by_cases h : 64 < len l
  · rw [igt_pos h,bif_true,bif_true]
    exact ⟨2,rfl,rfl,fun h => absurd h (by decide)⟩
  · rw [igt_neg (by omega),bif_false,bif_false]
    have same : ∀ n v,0 ≤ v → keep_Check.c1 k l n v = r2_Bodies.c1 k l n v := by
      intro n
      induction n with
      | zero => intro v _; rfl
      | succ n ih =>
        intro v v0
        rw [keep_Check.c1,r2_Bodies.c1]
        by_cases c : v < len l
        · obtain ⟨e,e1,e2⟩ := bcheck_same hk (el Z67 l v)
          rw [ilt_pos c,bif_true,bif_true,e1,e2,iadd_i64 (by omega) (by omega),ih (v + 1) (by omega)]
        · rw [ilt_neg (by omega),bif_false,bif_false]
    rw [← same k 0 (by omega)]
    rcases find_any (fun n v => keep_Check.c1 k l n v) (len l) (fun v => match body_Check k (el Z67 l v) with | some e => if e = 0 then none else some e | none => none)
      (by
        intro n v a b
        show keep_Check.c1 k l (n + 1) v = _
        obtain ⟨e,e1,e2⟩ := bcheck_same hk (el Z67 l v)
        rw [keep_Check.c1,ilt_pos b,bif_true,req_pos (inL_of a b),e1,bnd_some,iadd_i64 (by omega) (by omega)]
        by_cases c : e = 0
        · rw [ine_neg c,bif_false]
          simp [c]
        · rw [ine_pos c,bif_true]
          simp [c])
      (by
        intro n v a b
        show keep_Check.c1 k l (n + 1) v = _
        rw [keep_Check.c1,ilt_neg b,bif_false]) k 0 (by omega) (by unfold len; omega) (by omega) with ⟨j,y,a,b,c,d⟩ | ⟨a,b⟩
    · have d : keep_Check.c1 k l k 0 = some (.inl y) := d
      rw [d,bnd_some,two_inl]
      refine ⟨y,rfl,rfl,fun h => ?_⟩
      obtain ⟨e,e1,e2⟩ := bcheck_same hk (el Z67 l j)
      rw [e1] at c
      have c : (if e = 0 then none else some e) = some y := c
      by_cases z : e = 0
      · rw [if_pos z] at c; cases c
      · rw [if_neg z] at c; cases c; exact absurd h z
    · have b : keep_Check.c1 k l k 0 = some (.inr ()) := b
      rw [b,bnd_some,two_inr]
      refine ⟨0,rfl,rfl,fun _ => ⟨fun j j0 j1 => ?_,by omega⟩⟩
      obtain ⟨e,e1,e2⟩ := bcheck_same hk (el Z67 l j)
      have c := a j j0 j1
      rw [e1] at c
      have c : (if e = 0 then none else some e) = none := c
      by_cases z : e = 0
      · show body_Check k _ = _
        rw [e1,z]
      · rw [if_neg z] at c; cases c
end Go.Proofs.T1
namespace Go.Proofs.T1
open Go Go.Sx
theorem len_app {α : Type} (l : List α) (y : α) : len (l ++ [y]) = len l + 1 := by
  unfold len
  rw [List.length_append]
  rfl
end Go.Proofs.T1
namespace Go.Proofs.T1
open Go Go.Sx
theorem q_set {z : List V27} {i j : Int} {y : V27} (i0 : 0 ≤ i) (i1 : i < len z) (j0 : 0 ≤ j) : q (st z i y) j = if j = i then y else q z j := by
  obtain ⟨i,rfl⟩ := Int.eq_ofNat_of_zero_le i0
  obtain ⟨j,rfl⟩ := Int.eq_ofNat_of_zero_le j0
  have hi : i < z.length := by unfold len at i1; omega
  show (z.set i y).getD j Z27 = if (j : Int) = (i : Int) then y else z.getD j Z27
  rw [List.getD_eq_getElem?_getD,List.getD_eq_getElem?_getD,List.getElem?_set]
  by_cases c : j = i
  · subst c
    rw [if_pos rfl,if_pos hi,if_pos rfl]
    rfl
  · rw [if_neg (fun h => c h.symm),if_neg (by omega)]
theorem ext_q {a b : List V27} (h : a.length = b.length) (g : ∀ j,0 ≤ j → j < len a → q a j = q b j) : a = b := by
  refine List.ext_getElem h fun n h1 h2 => ?_
  have := g n (by omega) (by unfold len; omega)
  have e1 : q a n = a[n] := by
    show a.getD n Z27 = _
    rw [List.getD_eq_getElem?_getD,List.getElem?_eq_getElem h1]
    rfl
  have e2 : q b n = b[n] := by
    show b.getD n Z27 = _
    rw [List.getD_eq_getElem?_getD,List.getElem?_eq_getElem h2]
    rfl
  rw [← e1,← e2]
  exact this
section
variable {p v : V27} {ang spin mass inertia bounce rub : Int} {l : List V27} {asleep : Bool} {calm : Int}
theorem valid_parts {k : Nat} (hk : 9 ≤ k) (hc : body_Check k (p,v,ang,spin,mass,inertia,bounce,rub,l,asleep,calm,()) = some 0) :
    Shp l 0 ∧ (Val l ∧ AllR l ∧ FatP l) ∧ R1 p v ang spin ∧ R2 mass inertia bounce rub calm ∧ R3 v spin mass inertia asleep calm := by
  obtain ⟨e,e1,h1⟩ := bodyCheck_gen hk (p := p) (v := v) (ang := ang) (spin := spin) (mass := mass) (inertia := inertia) (bounce := bounce) (rub := rub) (l := l) (asleep := asleep) (calm := calm)
  rw [hc] at e1
  cases e1
  rcases h1 with ⟨_,h⟩ | ⟨_,_,h⟩ | ⟨_,_,_,_,h⟩ | ⟨h,g,g2,g3,_⟩
  · exact absurd rfl h
  · cases h
  · cases h
  · refine ⟨h,?_,g,g2,g3⟩
    rcases h with ⟨_,h⟩ | ⟨_,_,h⟩ | ⟨_,_,_,h⟩ | ⟨a,b,c,_,_⟩
    · exact absurd rfl h
    · cases h
    · cases h
    · exact ⟨a,b,c⟩
theorem Place_both {k : Nat} (hk : 10 ≤ k) (hc : body_Check k (p,v,ang,spin,mass,inertia,bounce,rub,l,asleep,calm,()) = some 0) :
    ∃ l',body_Place k (p,v,ang,spin,mass,inertia,bounce,rub,l,asleep,calm,()) = some l' ∧ r2_Placed k (p,v,ang,spin,mass,inertia,bounce,rub,l,asleep,calm,()) = some l' ∧ Val l' := by
  obtain ⟨_,⟨⟨l3,l8,lw,le⟩,lr,lf⟩,⟨bp,_,_,ba⟩,_,_⟩ := valid_parts (by omega) hc
  obtain ⟨l',e1,hv',hlen⟩ := Place_val hk hc
  unfold Bd at bp
  obtain ⟨c,s,tc,ts,c0,s0,D⟩ := trig_eq k ba.1 ba.2
  have ll : len l = (l.length : Int) := rfl
  have isT : l' = tpl c s p l := by
    obtain ⟨z,a,b⟩ := inv_loop (fun n (z : List V27) i => body_Place.c1 k (p,v,ang,spin,mass,inertia,bounce,rub,l,asleep,calm,()) n i z) 0 (len l) (fun z i => z = tpl c s p (l.take i.toNat))
      (by
        intro n z i i0 i1 hz
        have hr := lr i i0 i1
        obtain ⟨t,t1,t2⟩ := Turn_eq (k := k) (by omega) tc ts c0 s0 (v := q l i) (p := p) hr (by omega)
        refine ⟨z ++ [tp c s p (q l i)],?_,?_⟩
        · obtain ⟨i,rfl⟩ := Int.eq_ofNat_of_zero_le i0
          have hi : i < l.length := by omega
          have hq : q l (i : Int) = l[i] := by
            show l.getD i Z27 = _
            rw [List.getD_eq_getElem?_getD,List.getElem?_eq_getElem hi]
            rfl
          rw [hq,hz,show ((i : Int) + 1).toNat = i + 1 by omega,show ((i : Int)).toNat = i by omega]
          unfold tpl
          rw [List.take_succ_eq_append_getElem hi,List.map_append]
          rfl
        · show body_Place.c1 k (p,v,ang,spin,mass,inertia,bounce,rub,l,asleep,calm,()) (n + 1) i z = _
          have t1 : vec_Turn k (el Z27 l i) ang = some t := t1
          rw [body_Place.c1]
          dsimp only
          rw [ilt_pos i1,bif_true,req_pos (inL_of i0 i1),t1,bnd_some,t2,bnd_some,iadd_i64 (by omega) (by omega)]
          refine req_pos ?_ _
          have hs : z.length ≤ 8 := by
            rw [hz]
            unfold tpl
            rw [List.length_map,List.length_take]
            omega
          show (z.length + 1) * 16 ≤ 140737488355328
          omega)
      (by
        intro n z i i0 i1
        show body_Place.c1 k (p,v,ang,spin,mass,inertia,bounce,rub,l,asleep,calm,()) (n + 1) i z = some z
        rw [body_Place.c1]
        dsimp only
        rw [ilt_neg i1,bif_false])
      k [] 0 (by omega) (by omega) (by omega) rfl
    have b : body_Place.c1 k (p,v,ang,spin,mass,inertia,bounce,rub,l,asleep,calm,()) k 0 [] = some z := b
    unfold body_Place at e1
    have hz : z = tpl c s p l := by rw [a,ll,show ((l.length : Nat) : Int).toNat = l.length by omega,List.take_length]
    rw [hc,bnd_some,ine_neg rfl,bif_false,b,bnd_some,req_pos (NE_of (by rw [hz,len_tpl]; omega))] at e1
    cases e1
    rw [a,ll,show ((l.length : Nat) : Int).toNat = l.length by omega,List.take_length]
  refine ⟨l',e1,?_,hv'⟩
  rw [isT]
  have lm : len (mk0 Z27 (len l)) = len l := by
    unfold len mk0
    rw [List.length_replicate]
    omega
  obtain ⟨z,⟨z1,z2⟩,b⟩ := inv_loop (fun n (z : List V27) i => r2_Placed.c1 k (p,v,ang,spin,mass,inertia,bounce,rub,l,asleep,calm,()) n i z) 0 (len l) (fun z i => len z = len l ∧ ∀ j,0 ≤ j → j < i → q z j = tp c s p (q l j))
    (by
      intro n z i i0 i1 ⟨h1,h2⟩
      have hr := lr i i0 i1
      obtain ⟨t,t1,t2⟩ := Turn_eq (k := k) (by omega) tc ts c0 s0 (v := q l i) (p := p) hr (by omega)
      have wl : r2_World k (p,v,ang,spin,mass,inertia,bounce,rub,l,asleep,calm,()) (el Z27 l i) = some (tp c s p (q l i)) := by
        have t1 : vec_Turn k (el Z27 l i) ang = some t := t1
        unfold r2_World
        dsimp only
        rw [t1,bnd_some]
        exact t2
      refine ⟨st z i (tp c s p (q l i)),⟨?_,fun j j0 j1 => ?_⟩,?_⟩
      · rw [← h1]
        unfold len st
        rw [List.length_set]
      · rw [q_set i0 (by omega) j0]
        by_cases c : j = i
        · rw [if_pos c,c]
        · rw [if_neg c]; exact h2 j j0 (by omega)
      · show r2_Placed.c1 k (p,v,ang,spin,mass,inertia,bounce,rub,l,asleep,calm,()) (n + 1) i z = _
        rw [r2_Placed.c1]
        dsimp only
        rw [lm,ilt_pos i1,bif_true,req_pos (inL_of i0 i1),wl,bnd_some,req_pos (inL_of i0 (by omega)),iadd_i64 (by omega) (by omega)])
    (by
      intro n z i i0 i1
      show r2_Placed.c1 k (p,v,ang,spin,mass,inertia,bounce,rub,l,asleep,calm,()) (n + 1) i z = some z
      rw [r2_Placed.c1]
      dsimp only
      rw [lm,ilt_neg i1,bif_false])
    k (mk0 Z27 (len l)) 0 (by omega) (by omega) (by omega) ⟨lm,fun j a b => by omega⟩
  have b : r2_Placed.c1 k (p,v,ang,spin,mass,inertia,bounce,rub,l,asleep,calm,()) k 0 (mk0 Z27 (len l)) = some z := b
  have hz : z = tpl c s p l := by
    have ln := len_tpl c s p l
    refine ext_q (by unfold len at z1 ln; omega) fun j j0 j1 => ?_
    rw [q_tpl j0 (by omega)]
    exact z2 j j0 (by omega)
  unfold r2_Placed
  dsimp only
  rw [req_pos (show mkOk 16 (len l) (len l) from ⟨rfl,by omega,by omega,by omega⟩),b,bnd_some,hz]
end
end Go.Proofs.T1
