import Derived.Test.YtolkdkhdkfndfaaPlScene
import Derived.Test.YtolkdkhdkfndfaaPlGeo
import Derived.Test.YtolkdkhdkfndfaaG8
namespace Go.Proofs.T1
open Go Go.Sx
theorem pcmp_eq (k : Nat) {a b : V27} (h1 : I64 a.1) (h2 : I64 a.2.1) (g1 : I64 b.1) (g2 : I64 b.2.1) : ray_part_cmp k a b = some (cmpI (a.1 * b.2.1) (b.1 * a.2.1)) := by
  obtain ⟨x,e1,o1,v1⟩ := Times_eq k (a := a.1) (b := b.2.1) h1.1 h1.2 g2.1 g2.2
  obtain ⟨y,e2,o2,v2⟩ := Times_eq k (a := b.1) (b := a.2.1) g1.1 g1.2 h2.1 h2.2
  unfold ray_part_cmp
  rw [e1,bnd_some,e2,bnd_some,WCmp_eq k o1 o2,bnd_some,v1,v2]
theorem place_tot {k : Nat} (hk : 10 ≤ k) (b : V67) (hc : OKb k b) : ∃ l,body_Place k b = some l ∧ Val l := by
  obtain ⟨p,v,ang,spin,mass,inertia,bounce,rub,l,asleep,calm,_⟩ := b
  obtain ⟨l',e,h,_⟩ := Place_val hk hc
  exact ⟨l',e,h⟩
def hitOf (k : Nat) (f : ((List V27) × Unit) → Option (Int × Bool)) (b : V67) : Int × Bool := ((body_Place k b).bind fun l => f (l,())).getD (0,false)
def FirstOf (k : Nat) (f : ((List V27) × Unit) → Option (Int × Bool)) (l : List V67) (i : Int) : Prop :=
  (hitOf k f (el Z67 l i)).2 = true ∧ ∀ j,0 ≤ j → j < len l → (hitOf k f (el Z67 l j)).2 = true → (hitOf k f (el Z67 l i)).1 ≤ (hitOf k f (el Z67 l j)).1 ∧ (j < i → (hitOf k f (el Z67 l i)).1 < (hitOf k f (el Z67 l j)).1)
theorem first_ok {k : Nat} (hk : 100 < k) {l : List V67} (hA : AllK k l) (hl : len l ≤ 64) {f : ((List V27) × Unit) → Option (Int × Bool)} (hf : ∀ m,Val m → ∃ h,f (m,()) = some h) :
    (∃ i,0 ≤ i ∧ i < len l ∧ FirstOf k f l i ∧ ray_first k l f = some (i,(hitOf k f (el Z67 l i)).1,0)) ∨ ((∀ j,0 ≤ j → j < len l → (hitOf k f (el Z67 l j)).2 = false) ∧ ray_first k l f = some (0,0,4)) := by
  obtain ⟨s,hI,e⟩ := inv_loop (fun n (s : Int × Int) v => ray_first.c1 k l f n s.1 s.2 v) 0 (len l)
    (fun s v => (s.1 = -1 ∧ ∀ j,0 ≤ j → j < v → (hitOf k f (el Z67 l j)).2 = false) ∨ (0 ≤ s.1 ∧ s.1 < v ∧ s.2 = (hitOf k f (el Z67 l s.1)).1 ∧ (hitOf k f (el Z67 l s.1)).2 = true ∧
      ∀ j,0 ≤ j → j < v → (hitOf k f (el Z67 l j)).2 = true → (hitOf k f (el Z67 l s.1)).1 ≤ (hitOf k f (el Z67 l j)).1 ∧ (j < s.1 → (hitOf k f (el Z67 l s.1)).1 < (hitOf k f (el Z67 l j)).1)))
    (by
      intro n s v v0 v1 hI
      obtain ⟨P,p1,p2⟩ := place_tot (k := k) (by omega) _ (hA v v0 v1)
      obtain ⟨h,h1⟩ := hf P p2
      have hh : hitOf k f (el Z67 l v) = h := by unfold hitOf; rw [p1]; show (f (P,())).getD (0,false) = h; rw [h1]; rfl
      have st : iadd .i64 v 1 = v + 1 := iadd_i64 (by omega) (by omega)
      have skip : h.2 = false → (∀ a b,ray_first.c2 k a b h = some false) := by
        intro z a b
        unfold ray_first.c2
        rw [z,bif_false]
      cases hz : h.2 with
      | false =>
        refine ⟨s,?_,?_⟩
        · rcases hI with ⟨a,b⟩ | ⟨a,b,c,d,g⟩
          · refine Or.inl ⟨a,fun j j0 j1 => ?_⟩
            by_cases e : j = v
            · rw [e,hh,hz]
            · exact b j j0 (by omega)
          · refine Or.inr ⟨a,by omega,c,d,fun j j0 j1 j2 => ?_⟩
            by_cases e : j = v
            · rw [e,hh,hz] at j2; cases j2
            · exact g j j0 (by omega) j2
        · show ray_first.c1 k l f (n + 1) s.1 s.2 v = _
          rw [ray_first.c1,ilt_pos v1,bif_true,req_pos (inL_of v0 v1),p1,bnd_some,h1,bnd_some,skip hz,bnd_some,bif_false,st]
      | true =>
        rcases hI with ⟨a,b⟩ | ⟨a,b,c,d,g⟩
        · refine ⟨(v,h.1),Or.inr ⟨v0,by show v < v + 1; omega,by show h.1 = _; rw [hh],by show (hitOf k f (el Z67 l v)).2 = true; rw [hh,hz],fun j j0 j1 j2 => ?_⟩,?_⟩
          · by_cases e : j = v
            · subst e; exact ⟨Int.le_refl _,fun x => absurd x (by show ¬ j < j; omega)⟩
            · rw [b j j0 (by omega)] at j2; cases j2
          · show ray_first.c1 k l f (n + 1) s.1 s.2 v = _
            have c2 : ray_first.c2 k s.1 s.2 h = some true := by
              unfold ray_first.c2
              rw [hz,bif_true,ilt_pos (by omega),bif_true]
            rw [ray_first.c1,ilt_pos v1,bif_true,req_pos (inL_of v0 v1),p1,bnd_some,h1,bnd_some,c2,bnd_some,bif_true,st]
        · by_cases lt : h.1 < s.2
          · refine ⟨(v,h.1),Or.inr ⟨v0,by show v < v + 1; omega,by show h.1 = _; rw [hh],by show (hitOf k f (el Z67 l v)).2 = true; rw [hh,hz],fun j j0 j1 j2 => ?_⟩,?_⟩
            · show (hitOf k f (el Z67 l v)).1 ≤ _ ∧ (j < v → (hitOf k f (el Z67 l v)).1 < _)
              rw [hh]
              by_cases e : j = v
              · rw [e,hh]; exact ⟨Int.le_refl _,fun x => by omega⟩
              · have := (g j j0 (by omega) j2).1
                exact ⟨by omega,fun _ => by omega⟩
            · show ray_first.c1 k l f (n + 1) s.1 s.2 v = _
              have c2 : ray_first.c2 k s.1 s.2 h = some true := by
                unfold ray_first.c2
                rw [hz,bif_true,ilt_neg (by omega),bif_false,ilt_pos lt]
              rw [ray_first.c1,ilt_pos v1,bif_true,req_pos (inL_of v0 v1),p1,bnd_some,h1,bnd_some,c2,bnd_some,bif_true,st]
          · refine ⟨s,Or.inr ⟨a,by omega,c,d,fun j j0 j1 j2 => ?_⟩,?_⟩
            · by_cases e : j = v
              · rw [e,hh]; exact ⟨by omega,fun x => by omega⟩
              · exact g j j0 (by omega) j2
            · show ray_first.c1 k l f (n + 1) s.1 s.2 v = _
              have c2 : ray_first.c2 k s.1 s.2 h = some false := by
                unfold ray_first.c2
                rw [hz,bif_true,ilt_neg (by omega),bif_false,ilt_neg (by omega)]
              rw [ray_first.c1,ilt_pos v1,bif_true,req_pos (inL_of v0 v1),p1,bnd_some,h1,bnd_some,c2,bnd_some,bif_false,st])
    (by
      intro n s v v0 v1
      show ray_first.c1 k l f (n + 1) s.1 s.2 v = _
      rw [ray_first.c1,ilt_neg v1,bif_false])
    k (-1,0) 0 (by omega) (by unfold len; omega) (by omega) (Or.inl ⟨rfl,fun j j0 j1 => by omega⟩)
  have e : ray_first.c1 k l f k (-1) 0 0 = some s := e
  unfold ray_first
  rw [e,bnd_some]
  rcases hI with ⟨a,b⟩ | ⟨a,b,c,d,g⟩
  · rw [ilt_pos (by omega),bif_true]
    exact Or.inr ⟨b,rfl⟩
  · rw [ilt_neg (by omega),bif_false]
    exact Or.inl ⟨s.1,a,b,⟨d,g⟩,by rw [c]⟩
theorem rwithin (k : Nat) {a : V27} (h : Wn a) : ray_within k a = some true := by
  obtain ⟨h1,h2,h3,h4⟩ := h
  unfold ray_within
  have i1 : ige a.1 (-65536000) = true := ige_pos (by omega)
  have i2 : ile a.1 65536000 = true := decide_eq_true h2
  have i3 : ige a.2.1 (-65536000) = true := ige_pos (by omega)
  have i4 : ile a.2.1 65536000 = true := decide_eq_true h4
  rw [i1,i2,i3,i4,bif_true,bif_true,bif_true]
theorem kcheck_okr {k : Nat} (hk' : 100 < k) {l : List V67} (hA : AllK k l) (hl : len l ≤ 64) : keep_Check k l = some 0 := by
  have H : ∀ (n : Nat) (i : Int),0 ≤ i → len l - i < (n : Int) → 0 < n → keep_Check.c1 k l n i = some (.inr ()) := by
    intro n
    induction n with
    | zero => intro i _ _ h; omega
    | succ n ih =>
      intro i i0 i1 _
      rw [keep_Check.c1]
      by_cases c : i < len l
      · have hb : body_Check k (el Z67 l i) = some 0 := hA i i0 c
        rw [ilt_pos c,bif_true,req_pos (inL_of i0 c),hb,bnd_some,ine_neg rfl,bif_false,iadd_i64 (by omega) (by omega)]
        exact ih (i + 1) (by omega) (by omega) (by omega)
      · rw [ilt_neg (by omega),bif_false]
  unfold keep_Check
  rw [igt_neg (by omega),bif_false,H k 0 (by omega) (by omega) (by omega),bnd_some,two_inr]
end Go.Proofs.T1
