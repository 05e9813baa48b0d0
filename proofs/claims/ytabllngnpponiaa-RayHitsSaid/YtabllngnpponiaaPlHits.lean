import Derived.Test.YtabllngnpponiaaPlMeet
import Derived.Test.YtabllngnpponiaaG15
namespace Go.Proofs.T1
open Go Go.Sx
def sq64 : List V27 := [(-64,-64,()),(64,-64,()),(64,64,()),(-64,64,())]
def sq1 : List V27 := [(-1,-1,()),(1,-1,()),(1,1,()),(-1,1,())]
theorem sq64_a : All4 sq64 := allB_ok (by decide)
theorem sq1_a : All4 sq1 := allB_ok (by decide)
theorem sq64_v : Val sq64 := ⟨by decide,by decide,All4_W sq64_a,edgeB_ok (by decide)⟩
theorem sq1_v : Val sq1 := ⟨by decide,by decide,All4_W sq1_a,edgeB_ok (by decide)⟩
def Sm (p : V27) : Prop := -2000000 ≤ p.1 ∧ p.1 ≤ 2000000 ∧ -2000000 ≤ p.2.1 ∧ p.2.1 ≤ 2000000
theorem spot_val {s : List V27} (hs : Val s) (ha : All4 s) {p : V27} (hp : Sm p) : Val (shift s p) := by
  obtain ⟨p1,p2,p3,p4⟩ := hp
  refine Val_shift hs fun i i0 i1 => ?_
  rw [len_shift] at i1
  have := ha i i0 i1
  rw [q_shift i0 i1]
  unfold Wn
  dsimp only
  omega
theorem spot64_eq (k : Nat) {p : V27} (hp : Sm p) : tourkeep2_spot k p 64 = some (shift sq64 p) := by
  obtain ⟨p1,p2,p3,p4⟩ := hp
  unfold tourkeep2_spot
  rw [isub_i64 (by omega) (by omega),isub_i64 (by omega) (by omega),iadd_i64 (by omega) (by omega),iadd_i64 (by omega) (by omega)]
  show some [(p.1 - 64,p.2.1 - 64,()),(p.1 + 64,p.2.1 - 64,()),(p.1 + 64,p.2.1 + 64,()),(p.1 - 64,p.2.1 + 64,())] = some [(-64 + p.1,-64 + p.2.1,()),(64 + p.1,-64 + p.2.1,()),(64 + p.1,64 + p.2.1,()),(-64 + p.1,64 + p.2.1,())]
  rw [show -64 + p.1 = p.1 - 64 by omega,show -64 + p.2.1 = p.2.1 - 64 by omega,show 64 + p.1 = p.1 + 64 by omega,show 64 + p.2.1 = p.2.1 + 64 by omega]
theorem spot1_eq (k : Nat) {p : V27} (hp : Sm p) : tourkeep2_spot k p 1 = some (shift sq1 p) := by
  obtain ⟨p1,p2,p3,p4⟩ := hp
  unfold tourkeep2_spot
  rw [isub_i64 (by omega) (by omega),isub_i64 (by omega) (by omega),iadd_i64 (by omega) (by omega),iadd_i64 (by omega) (by omega)]
  show some [(p.1 - 1,p.2.1 - 1,()),(p.1 + 1,p.2.1 - 1,()),(p.1 + 1,p.2.1 + 1,()),(p.1 - 1,p.2.1 + 1,())] = some [(-1 + p.1,-1 + p.2.1,()),(1 + p.1,-1 + p.2.1,()),(1 + p.1,1 + p.2.1,()),(-1 + p.1,1 + p.2.1,())]
  rw [show -1 + p.1 = p.1 - 1 by omega,show -1 + p.2.1 = p.2.1 - 1 by omega,show 1 + p.1 = p.1 + 1 by omega,show 1 + p.2.1 = p.2.1 + 1 by omega]
theorem HIn_spot {c : V27} {X Y w : Int} (hx : -(64 * w) ≤ X - w * c.1 ∧ X - w * c.1 ≤ 64 * w) (hy : -(64 * w) ≤ Y - w * c.2.1 ∧ Y - w * c.2.1 ≤ 64 * w) : HIn (shift sq64 c) X Y w := by
  intro i i0 i1
  rw [len_shift] at *
  have l4 : len sq64 = 4 := rfl
  have hn := nx_range i0 i1
  rw [q_shift i0 i1,q_shift hn.1 hn.2,hs_move]
  generalize X - w * c.1 = x at *
  generalize Y - w * c.2.1 = y at *
  have : i = 0 ∨ i = 1 ∨ i = 2 ∨ i = 3 := by omega
  rcases this with h | h | h | h
  · subst h
    show 0 ≤ hs ((-64,-64,()) : V27) ((64,-64,()) : V27) x y w
    unfold hs
    dsimp only
    omega
  · subst h
    show 0 ≤ hs ((64,-64,()) : V27) ((64,64,()) : V27) x y w
    unfold hs
    dsimp only
    omega
  · subst h
    show 0 ≤ hs ((64,64,()) : V27) ((-64,64,()) : V27) x y w
    unfold hs
    dsimp only
    omega
  · subst h
    show 0 ≤ hs ((-64,64,()) : V27) ((-64,-64,()) : V27) x y w
    unfold hs
    dsimp only
    omega
theorem near_frac {b X w t : Int} (b0 : -786432 ≤ b ∧ b ≤ 786432) (t2 : t * w ≤ X * 65536) (t3 : X * 65536 < (t + 1) * w) : -(64 * w) ≤ X * b - w * rnd (b * t) 65536 ∧ X * b - w * rnd (b * t) 65536 ≤ 64 * w := by
  have r := rerr (x := b * t) (n := 65536) (by decide)
  rw [Int.add_mul,Int.one_mul] at t3
  have p1 := mul_bd (x := b) (y := X * 65536 - t * w) (M := 786432) (N := w) (by omega) (by omega) (by omega) (by omega)
  have p2 := mul_bd (x := w) (y := 2 * 65536 * rnd (b * t) 65536 - 2 * (b * t)) (M := w) (N := 65536) (by omega) (by omega) (by omega) (by omega)
  have e1 : b * (X * 65536 - t * w) = 65536 * (X * b) - w * (b * t) := by grind
  have e2 : w * (2 * 65536 * rnd (b * t) 65536 - 2 * (b * t)) = 131072 * (w * rnd (b * t) 65536) - 2 * (w * (b * t)) := by grind
  rw [e1] at p1
  rw [e2] at p2
  omega
theorem el_mem {L : List Int} {i : Int} (i0 : 0 ≤ i) (i1 : i < len L) : el 0 L i ∈ L := by
  obtain ⟨i,rfl⟩ := Int.eq_ofNat_of_zero_le i0
  have hi : i < L.length := by unfold len at i1; omega
  have : el 0 L (i : Int) = L[i] := by
    show L.getD i 0 = _
    rw [List.getD_eq_getElem?_getD,List.getElem?_eq_getElem hi]
    rfl
  rw [this]
  exact List.getElem_mem hi
theorem contains_yes {k : Nat} (hk : 100 < k) {L : List Int} (hl : len L ≤ 64) {i : Int} (h : i ∈ L) : slices_Contains_34 k L i = some true := by
  obtain ⟨n,hn,en⟩ := List.getElem_of_mem h
  have e0 : el 0 L (n : Int) = i := by
    show L.getD n 0 = _
    rw [List.getD_eq_getElem?_getD,List.getElem?_eq_getElem hn]
    exact en
  unfold slices_Contains_34 slices_Index_109
  rcases find_loop (fun n v => slices_Index_109.c1 k L i n v) 0 (len L) (fun v => i = el 0 L v) (fun v => v)
    (by
      intro n v a b p
      show slices_Index_109.c1 k L i (n + 1) v = _
      rw [slices_Index_109.c1,ilt_pos b,bif_true,req_pos (inL_of a b),ieq_pos p,bif_true])
    (by
      intro n v a b p
      show slices_Index_109.c1 k L i (n + 1) v = slices_Index_109.c1 k L i n (v + 1)
      rw [slices_Index_109.c1,ilt_pos b,bif_true,req_pos (inL_of a b),ieq_neg p,bif_false,iadd_i64 (by omega) (by omega)])
    (by
      intro n v a b
      show slices_Index_109.c1 k L i (n + 1) v = _
      rw [slices_Index_109.c1,ilt_neg b,bif_false]) k 0 (by omega) (by omega) with ⟨j,a,b,p,_,e⟩ | ⟨a,e⟩
  · have e : slices_Index_109.c1 k L i k 0 = some (.inl j) := e
    rw [e,bnd_some,two_inl,bnd_some,ige_pos (by omega)]
  · exact absurd e0.symm (a n (by omega) (by unfold len; omega))
theorem contains_no {k : Nat} (hk : 100 < k) {L : List Int} (hl : len L ≤ 64) {f : (Int × Unit) → Option Bool} (h : ∀ x ∈ L,f (x,()) = some false) : slices_ContainsFunc_30 k L f = some false := by
  have H : ∀ (n : Nat) (i : Int),0 ≤ i → len L - i < (n : Int) → 0 < n → slices_IndexFunc_108.c1 k L f n i = some (.inr ()) := by
    intro n
    induction n with
    | zero => intro i _ _ h; omega
    | succ n ih =>
      intro i i0 i1 _
      rw [slices_IndexFunc_108.c1]
      by_cases c : i < len L
      · rw [ilt_pos c,bif_true,req_pos (inL_of i0 c),h _ (el_mem i0 c),bnd_some,bif_false,iadd_i64 (by omega) (by omega)]
        exact ih (i + 1) (by omega) (by omega) (by omega)
      · rw [ilt_neg (by omega),bif_false]
  unfold slices_ContainsFunc_30 slices_IndexFunc_108
  rw [H k 0 (by omega) (by omega) (by omega),bnd_some,two_inr,bnd_some]
  rfl
theorem inside_no {k : Nat} (hk : 100 < k) {y : V49} {P : List V27} (e : body_Place k y = some P) (hP : Val P) {p : V27} (hp : Sm p) (hn : ¬ InP P p) : tourkeep2_inside k y p = some false := by
  obtain ⟨p1,p2,p3,p4⟩ := hp
  have h8 := hP.2.1
  have te : ∀ v,0 ≤ v → v < len P → isub .i64 (imul .i64 (isub .i64 (el Z27 P (irem (iadd .i64 v 1) (len P))).1 (el Z27 P v).1) (isub .i64 p.2.1 (el Z27 P v).2.1)) (imul .i64 (isub .i64 (el Z27 P (irem (iadd .i64 v 1) (len P))).2.1 (el Z27 P v).2.1) (isub .i64 p.1 (el Z27 P v).1)) = tri (q P v) (q P (nx (len P) v)) p := by
    intro v v0 v1
    have hx := nx_range v0 v1
    have b1 := hP.2.2.1 v v0 v1
    have b2 := hP.2.2.1 _ hx.1 hx.2
    rw [irem_nx v0 v1 (by omega)]
    show isub .i64 (imul .i64 (isub .i64 (q P (nx (len P) v)).1 (q P v).1) (isub .i64 p.2.1 (q P v).2.1)) (imul .i64 (isub .i64 (q P (nx (len P) v)).2.1 (q P v).2.1) (isub .i64 p.1 (q P v).1)) = _
    unfold tri
    generalize q P v = a at *
    generalize q P (nx (len P) v) = r at *
    unfold Wn at b1 b2
    have m1 := mul_bd (x := r.1 - a.1) (y := p.2.1 - a.2.1) (M := 131072000) (N := 131072000) (by omega) (by omega) (by omega) (by omega)
    have m2 := mul_bd (x := r.2.1 - a.2.1) (y := p.1 - a.1) (M := 131072000) (N := 131072000) (by omega) (by omega) (by omega) (by omega)
    rw [isub_i64 (x := r.1) (by omega) (by omega),isub_i64 (x := p.2.1) (by omega) (by omega),isub_i64 (x := r.2.1) (by omega) (by omega),isub_i64 (x := p.1) (by omega) (by omega),imul_i64 (by omega) (by omega),imul_i64 (by omega) (by omega),isub_i64 (by omega) (by omega)]
  have rq : ∀ v,0 ≤ v → v < len P → inL (irem (iadd .i64 v 1) (len P)) P := by
    intro v v0 v1
    have hx := nx_range v0 v1
    rw [irem_nx v0 v1 (by omega)]
    exact inL_of hx.1 hx.2
  have h3 := hP.1
  unfold tourkeep2_inside
  rw [e,bnd_some]
  rcases find_loop (fun n v => tourkeep2_inside.c1 k p P n v) 0 (len P) (fun v => tri (q P v) (q P (nx (len P) v)) p < 0) (fun _ => ())
    (by
      intro n v a b c
      show tourkeep2_inside.c1 k p P (n + 1) v = _
      rw [tourkeep2_inside.c1,ilt_pos b,bif_true,req_pos (inL_of a b),req_pos (show nz (len P) by unfold nz; omega),req_pos (rq v a b),te v a b,ilt_pos c,bif_true])
    (by
      intro n v a b c
      show tourkeep2_inside.c1 k p P (n + 1) v = tourkeep2_inside.c1 k p P n (v + 1)
      rw [tourkeep2_inside.c1,ilt_pos b,bif_true,req_pos (inL_of a b),req_pos (show nz (len P) by unfold nz; omega),req_pos (rq v a b),te v a b,ilt_neg (by omega),bif_false,iadd_i64 (by omega) (by omega)])
    (by
      intro n v a b
      show tourkeep2_inside.c1 k p P (n + 1) v = _
      rw [tourkeep2_inside.c1,ilt_neg b,bif_false]) k 0 (by omega) (by omega) with ⟨j,a,b,c,_,f⟩ | ⟨a,f⟩
  · have f : tourkeep2_inside.c1 k p P k 0 = some (.inl ()) := f
    rw [f,bnd_some,two_inl]
  · exact absurd (fun i i0 i1 => by have := a i i0 i1; omega) hn
theorem RayHits_true {k : Nat} (hk : 100 < k) (hb : tourkeep2_casts k = some true) (raw : List Int) (x y u v : Int) : tourkeep2_RayHits k raw x y u v = some true := by
  obtain ⟨B,J,g,st,e1,hA,hB,_⟩ := scene_made (k := k) (by omega) raw
  obtain ⟨a,e3,a0⟩ := place_eq k x y
  obtain ⟨b,e4,b0⟩ := place_eq k u v
  have wa : Wn a := by unfold Wn; omega
  have wb : Wn b := by unfold Wn; omega
  have sa : Sm a := by unfold Sm; omega
  have sab : Sm (a.1 + b.1,a.2.1 + b.2.1,()) := by unfold Sm; dsimp only; omega
  have y12 : vec_Add k a b = some (a.1 + b.1,a.2.1 + b.2.1,()) := by
    unfold vec_Add
    rw [FAdd_eq k (by omega) (by omega),bnd_some,FAdd_eq k (by omega) (by omega),bnd_some,CM_in (by omega) (by omega),CM_in (by omega) (by omega)]
  obtain ⟨L1,s1,s2,s3,_⟩ := rmeet_ok hk hA (by omega) (spot_val sq1_v sq1_a sa)
  unfold tourkeep2_RayHits
  rw [e1,bnd_some,e3,bnd_some,e4,bnd_some]
  dsimp only
  have no : ∀ (o : Bool),tourkeep2_RayHits.c2 k (L1,0) (L1,0) = some false := fun _ => by
    unfold tourkeep2_RayHits.c2
    dsimp only
    rw [ine_neg rfl,bif_false]
  rcases cast_ok hk hA (by omega) wa wb with ⟨i,i0,i1,hF,e⟩ | ⟨hn,e⟩
  · obtain ⟨P,p1,p2,H⟩ := cast_hit hk wa wb (el Z49 B i) (hA i i0 i1)
    rw [e,bnd_some,hb,bnd_some,bif_true,y12,bnd_some]
    have hFi := hF.1
    generalize hitOf k (fun x => ray_Cast_1 k x.1 a b) (el Z49 B i) = h at *
    rcases H with ⟨X,w,h2,hW,X0,X1,hf,_,⟨t0,t1,t2,t3⟩,_⟩ | ⟨hh,_⟩
    · have q1 := mul_bd (x := b.1) (y := h.1) (M := 786432) (N := 65536) (by omega) (by omega) (by omega) (by omega)
      have q2 := mul_bd (x := b.2.1) (y := h.1) (M := 786432) (N := 65536) (by omega) (by omega) (by omega) (by omega)
      have r1 := rnd_bd (x := b.1 * h.1) (n := 65536) (c := 786432) (by decide) (by omega) (by omega)
      have r2 := rnd_bd (x := b.2.1 * h.1) (n := 65536) (c := 786432) (by decide) (by omega) (by omega)
      have c1 : tourkeep2_RayHits.c1 k a b (i,h.1,0) (a.1 + b.1,a.2.1 + b.2.1,()) = some (a.1 + rnd (b.1 * h.1) 65536,a.2.1 + rnd (b.2.1 * h.1) 65536,()) := by
        unfold tourkeep2_RayHits.c1 vec_Scale
        dsimp only
        rw [ieq_pos rfl,bif_true,Mul_eq (k := k) (by omega) (by omega) (by omega),bnd_some,Mul_eq (k := k) (by omega) (by omega) (by omega),bnd_some,bnd_some,CM_in (by omega) (by omega),CM_in (by omega) (by omega)]
        unfold vec_Add
        dsimp only
        rw [FAdd_eq k (by omega) (by omega),bnd_some,FAdd_eq k (by omega) (by omega),bnd_some,bnd_some,CM_in (by omega) (by omega),CM_in (by omega) (by omega)]
      have sc : Sm (a.1 + rnd (b.1 * h.1) 65536,a.2.1 + rnd (b.2.1 * h.1) 65536,()) := by unfold Sm; dsimp only; omega
      obtain ⟨L,m1,m2,m3,m4⟩ := rmeet_ok hk hA (by omega) (spot_val sq64_v sq64_a sc)
      have vs := spot_val sq64_v sq64_a sc
      have f1 := near_frac (b := b.1) (by omega) t2 t3
      have f2 := near_frac (b := b.2.1) (by omega) t2 t3
      have H1 := Fea_hs.1 hf
      have H2 : HIn (shift sq64 (a.1 + rnd (b.1 * h.1) 65536,a.2.1 + rnd (b.2.1 * h.1) 65536,())) (w * a.1 + X * b.1) (w * a.2.1 + X * b.2.1) w := by
        refine HIn_spot ?_ ?_
        · dsimp only
          rw [Int.mul_add]
          omega
        · dsimp only
          rw [Int.mul_add]
          omega
      have mem := m4 i i0 i1 ⟨P,p1,p2,noSep_of vs.2.2.2 vs.1 hW H1 H2,noSep_of p2.2.2.2 p2.1 hW H2 H1⟩
      have c2 : tourkeep2_RayHits.c2 k (L,0) (L1,0) = some false := by
        unfold tourkeep2_RayHits.c2
        dsimp only
        rw [ine_neg rfl,bif_false]
      rw [c1,bnd_some,spot64_eq k sc,bnd_some,m1,bnd_some,spot1_eq k sa,bnd_some,s1,bnd_some,c2,bnd_some,bif_false]
      dsimp only
      rw [ine_neg rfl,bif_false,contains_yes hk m2 mem,bnd_some]
    · rw [hh] at hFi
      cases hFi
  · rw [e,bnd_some,hb,bnd_some,bif_true,y12,bnd_some]
    have c1 : tourkeep2_RayHits.c1 k a b (0,0,4) (a.1 + b.1,a.2.1 + b.2.1,()) = some (a.1 + b.1,a.2.1 + b.2.1,()) := by
      unfold tourkeep2_RayHits.c1
      dsimp only
      rw [ieq_neg (by decide),bif_false]
    obtain ⟨L,m1,m2,m3,m4⟩ := rmeet_ok hk hA (by omega) (spot_val sq64_v sq64_a sab)
    have c2 : tourkeep2_RayHits.c2 k (L,0) (L1,0) = some false := by
      unfold tourkeep2_RayHits.c2
      dsimp only
      rw [ine_neg rfl,bif_false]
    have out : ∀ j,0 ≤ j → j < len B → ∃ P,body_Place k (el Z49 B j) = some P ∧ Val P ∧ ¬ InP P (a.1 + b.1,a.2.1 + b.2.1,()) ∧ ¬ InP P a := by
      intro j j0 j1
      obtain ⟨P,p1,p2,H⟩ := cast_hit hk wa wb (el Z49 B j) (hA j j0 j1)
      have hnj := hn j j0 j1
      refine ⟨P,p1,p2,?_⟩
      rcases H with ⟨_,_,h2,_⟩ | ⟨_,h⟩
      · rw [hnj] at h2; cases h2
      · refine ⟨fun z => h 1 1 (by decide) (by decide) (by decide) fun i i0 i1 => ?_,fun z => h 0 1 (by decide) (by decide) (by decide) fun i i0 i1 => ?_⟩
        · have := z i i0 i1
          have e : nu P a i - dn P b i = tri (q P i) (q P (nx (len P) i)) (a.1 + b.1,a.2.1 + b.2.1,()) := by unfold nu dn tri; grind
          omega
        · have := z i i0 i1
          have e : nu P a i = tri (q P i) (q P (nx (len P) i)) a := rfl
          omega
    have n1 : slices_ContainsFunc_30 k L (fun x : (Int × Unit) => tourkeep2_RayHits_1 k (x.1) B (a.1 + b.1,a.2.1 + b.2.1,())) = some false := by
      refine contains_no hk m2 fun x hx => ?_
      obtain ⟨x0,x1,_⟩ := m3 x hx
      obtain ⟨P,p1,p2,p3,_⟩ := out x x0 x1
      show tourkeep2_RayHits_1 k x B (a.1 + b.1,a.2.1 + b.2.1,()) = some false
      unfold tourkeep2_RayHits_1
      rw [ige_pos (by omega),bif_true,ilt_pos x1,bif_true,req_pos (inL_of x0 x1),inside_no hk p1 p2 sab p3,bnd_some]
    have n2 : slices_ContainsFunc_30 k L1 (fun x : (Int × Unit) => tourkeep2_RayHits_2 k (x.1) B a) = some false := by
      refine contains_no hk s2 fun x hx => ?_
      obtain ⟨x0,x1,_⟩ := s3 x hx
      obtain ⟨P,p1,p2,_,p3⟩ := out x x0 x1
      show tourkeep2_RayHits_2 k x B a = some false
      unfold tourkeep2_RayHits_2
      rw [ige_pos (by omega),bif_true,ilt_pos x1,bif_true,req_pos (inL_of x0 x1),inside_no hk p1 p2 sa p3,bnd_some]
    have c3 : tourkeep2_RayHits.c3 k (a.1 + b.1,a.2.1 + b.2.1,()) (B,J,[],g,st,()) a (0,0,4) (L,0) (L1,0) = some true := by
      unfold tourkeep2_RayHits.c3
      dsimp only
      rw [ieq_pos rfl,bif_true,ieq_pos rfl,bif_true,bif_true,n1,bnd_some,bif_false,n2,bnd_some]
      rfl
    rw [c1,bnd_some,spot64_eq k sab,bnd_some,m1,bnd_some,spot1_eq k sa,bnd_some,s1,bnd_some,c2,bnd_some,bif_false]
    dsimp only
    rw [ine_pos (by decide),bif_true,c3,bnd_some]
theorem tourkeep2_RayHits_plain (x : ((.pair (.slice T2) (.pair T2 (.pair T2 (.pair T2 (.pair T2 .unit))))) : Ty).den) (_ : Ty.wf (.pair (.slice T2) (.pair T2 (.pair T2 (.pair T2 (.pair T2 .unit))))) x) : ∃ k,(tourkeep2_RayHits.sp k).f x = some true := by
  obtain ⟨raw,a,b,u,v,_⟩ := x
  obtain ⟨K,hK⟩ : ∃ K : Nat,K = 1000 := ⟨_,rfl⟩
  have hb := casts_eq
  rw [← hK] at hb
  exact ⟨K,RayHits_true (by omega) hb raw a b u v⟩
end Go.Proofs.T1
