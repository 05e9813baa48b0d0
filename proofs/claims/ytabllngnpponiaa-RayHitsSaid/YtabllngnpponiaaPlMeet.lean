import Derived.Test.YtabllngnpponiaaPlLine
import Derived.Test.YtabllngnpponiaaPlNear
namespace Go.Proofs.T1
open Go Go.Sx
theorem Val_big {l : List V27} (h : Val l) : Big1 l := by
  refine ⟨h.1,by have := h.2.1; omega,fun t t0 t1 => ?_⟩
  have := h.2.2.1 t t0 t1
  unfold Wn at this
  omega
theorem nmeet_tot {k : Nat} (hk : 40 ≤ k) {P p : List V27} (hP : Val P) (hp : Val p) : ∃ m,near_Meet k P p = some (m,0) ∧ (m = true ↔ NoSep P p ∧ NoSep p P) := by
  obtain ⟨l,e,D,_⟩ := Minus_dif (k := k) (by omega) hP hp
  obtain ⟨m,f,h⟩ := NMeet_eq hk hP hp e D
  refine ⟨m,f,h.trans ⟨fun z => ?_,fun z => D.zero z.1 z.2⟩⟩
  obtain ⟨X,Y,w,hw,h1,h2⟩ := common hP.2.2.2 hp.2.2.2 D z
  exact ⟨noSep_of hp.2.2.2 hp.1 hw h1 h2,noSep_of hP.2.2.2 hP.1 hw h2 h1⟩
def MeetsAt (k : Nat) (B : List V49) (p : List V27) (j : Int) : Prop := ∃ P,body_Place k (el Z49 B j) = some P ∧ Val P ∧ NoSep P p ∧ NoSep p P
theorem rmeet_ok {k : Nat} (hk : 100 < k) {B : List V49} (hA : AllK k B) (hl : len B ≤ 64) {p : List V27} (hp : Val p) :
    ∃ L,ray_Meet k B p = some (L,0) ∧ len L ≤ 64 ∧ (∀ x ∈ L,0 ≤ x ∧ x < len B ∧ MeetsAt k B p x) ∧ (∀ j,0 ≤ j → j < len B → MeetsAt k B p j → j ∈ L) := by
  obtain ⟨L,⟨h1,h2,h3⟩,e⟩ := inv_loop (fun n (z : List Int) v => ray_Meet.c1 k B p n v z) 0 (len B) (fun z v => len z ≤ v ∧ (∀ x ∈ z,0 ≤ x ∧ x < v ∧ MeetsAt k B p x) ∧ (∀ j,0 ≤ j → j < v → MeetsAt k B p j → j ∈ z))
    (by
      intro n z v v0 v1 ⟨h1,h2,h3⟩
      obtain ⟨P,p1,p2⟩ := place_tot (k := k) (by omega) _ (hA v v0 v1)
      obtain ⟨m,m1,m2⟩ := nmeet_tot (k := k) (by omega) p2 hp
      have st : iadd .i64 v 1 = v + 1 := iadd_i64 (by omega) (by omega)
      cases m with
      | true =>
        have hm : MeetsAt k B p v := ⟨P,p1,p2,m2.1 rfl⟩
        refine ⟨z ++ [v],⟨by rw [len_app]; omega,fun x hx => ?_,fun j j0 j1 hj => ?_⟩,?_⟩
        · rcases List.mem_append.1 hx with h | h
          · have := h2 x h
            exact ⟨this.1,by omega,this.2.2⟩
          · rw [List.mem_singleton.1 h]
            exact ⟨v0,by omega,hm⟩
        · by_cases c : j = v
          · rw [c]; exact List.mem_append.2 (Or.inr (List.mem_singleton.2 rfl))
          · exact List.mem_append.2 (Or.inl (h3 j j0 (by omega) hj))
        · show ray_Meet.c1 k B p (n + 1) v z = _
          have hroom : room 8 z [v] := by
            show (z.length + 1) * 8 ≤ 140737488355328
            unfold len at h1
            omega
          rw [ray_Meet.c1,ilt_pos v1,bif_true,req_pos (inL_of v0 v1),p1,bnd_some,m1,bnd_some]
          dsimp only
          rw [bif_true,req_pos hroom,st]
      | false =>
        have hm : ¬ MeetsAt k B p v := by
          intro ⟨Q,q1,_,q2⟩
          rw [p1] at q1
          cases q1
          have := m2.2 q2
          cases this
        refine ⟨z,⟨by omega,fun x hx => ?_,fun j j0 j1 hj => ?_⟩,?_⟩
        · have := h2 x hx
          exact ⟨this.1,by omega,this.2.2⟩
        · by_cases c : j = v
          · rw [c] at hj; exact absurd hj hm
          · exact h3 j j0 (by omega) hj
        · show ray_Meet.c1 k B p (n + 1) v z = _
          rw [ray_Meet.c1,ilt_pos v1,bif_true,req_pos (inL_of v0 v1),p1,bnd_some,m1,bnd_some]
          dsimp only
          rw [bif_false,st])
    (by
      intro n z v v0 v1
      show ray_Meet.c1 k B p (n + 1) v z = _
      rw [ray_Meet.c1,ilt_neg v1,bif_false])
    k [] 0 (by omega) (by unfold len; omega) (by omega) ⟨by show (0 : Int) ≤ 0; omega,fun x hx => (by cases hx),fun j j0 j1 => (by omega)⟩
  have e : ray_Meet.c1 k B p k 0 [] = some L := e
  refine ⟨L,?_,by omega,h2,h3⟩
  unfold ray_Meet
  rw [kcheck_okr hk hA hl,bnd_some,ine_neg rfl,bif_false,Check_val (by omega) hp,bnd_some,ine_neg rfl,bif_false,e,bnd_some]
def HitS (l : List V27) (a b : V27) (h : Int × Bool) : Prop :=
  (∃ X w,h.2 = true ∧ 0 < w ∧ 0 ≤ X ∧ X ≤ w ∧ Fea l a b X w ∧ (∀ Y v,0 < v → 0 ≤ Y → Y ≤ v → Fea l a b Y v → X * v ≤ Y * w) ∧ (0 ≤ h.1 ∧ h.1 ≤ 65536 ∧ h.1 * w ≤ X * 65536 ∧ X * 65536 < (h.1 + 1) * w) ∧
      ((X = 0 ∧ w = 1) ∨ ∃ i,0 ≤ i ∧ i < len l ∧ dn l b i < 0 ∧ X = -nu l a i ∧ w = -dn l b i)) ∨
    (h = (0,false) ∧ ∀ Y v,0 < v → 0 ≤ Y → Y ≤ v → ¬ Fea l a b Y v)
theorem rline_hit {k : Nat} (hk : 40 ≤ k) {l : List V27} {a b : V27} (hl : Big1 l) (ha : Wn a) (hb : Wn b) : ∃ h,ray_line k l a b = some h ∧ HitS l a b h := by
  rcases rline_spec hk hl ha hb with ⟨X,w,t,e,h1,h2,h3,h4,h5,h6,h7⟩ | ⟨e,h⟩
  · exact ⟨(t,true),e,Or.inl ⟨X,w,rfl,h1,h2,h3,h4,h5,h6,h7⟩⟩
  · exact ⟨(0,false),e,Or.inr ⟨rfl,h⟩⟩
theorem cast_hit {k : Nat} (hk : 100 < k) {a b : V27} (ha : Wn a) (hb : Wn b) (y : V49) (hy : OKb k y) : ∃ P,body_Place k y = some P ∧ Val P ∧ HitS P a b (hitOf k (fun x => ray_Cast_1 k x.1 a b) y) := by
  obtain ⟨P,p1,p2⟩ := place_tot (k := k) (by omega) y hy
  obtain ⟨h,e,hs⟩ := rline_hit (k := k) (by omega) (Val_big p2) ha hb
  refine ⟨P,p1,p2,?_⟩
  have : hitOf k (fun x => ray_Cast_1 k x.1 a b) y = h := by
    unfold hitOf
    rw [p1]
    show (ray_Cast_1 k P a b).getD (0,false) = h
    unfold ray_Cast_1
    rw [e,bnd_some]
    rfl
  rw [this]
  exact hs
theorem hs_move (a b w : V27) (X Y W : Int) : hs (a.1 + w.1,a.2.1 + w.2.1,()) (b.1 + w.1,b.2.1 + w.2.1,()) X Y W = hs a b (X - W * w.1) (Y - W * w.2.1) W := by unfold hs; grind
end Go.Proofs.T1
