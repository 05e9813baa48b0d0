import Derived.Test.YthpbadopmihmpaaGreatPlTurn
import Derived.Test.YthpbadopmihmpaaGreatG9
namespace Go.Proofs.T1
open Go Go.Sx
abbrev OKb (k:Nat) (b:V45):Prop:=body_Check k b=some 0
def AllK (k:Nat) (l:List V45):Prop:=∀ i,0≤i→i<len l→OKb k (el Z45 l i)
section
variable {p v:V26} {ang spin mass inertia bounce rub:Int} {l:List V26} {asleep:Bool} {calm:Int}
end
end Go.Proofs.T1
namespace Go.Proofs.T1
open Go Go.Sx
theorem el_app_lt {α:Type} (z:α) (l:List α) (y:α) {j:Int} (j0:0≤j) (j1:j<len l):el z (l++[y]) j=el z l j:=by
 obtain ⟨j,rfl⟩:=Int.eq_ofNat_of_zero_le j0
 have hj:j<l.length:=by unfold len at j1; omega
 show (l++[y]).getD j z=l.getD j z
 rw [List.getD_eq_getElem?_getD,List.getD_eq_getElem?_getD,List.getElem?_append_left hj]
theorem el_app_eq {α:Type} (z:α) (l:List α) (y:α) {j:Int} (h:len l=j):el z (l++[y]) j=y:=by
 subst h
 show (l++[y]).getD l.length z=y
 rw [List.getD_eq_getElem?_getD,List.getElem?_append_right (Nat.le_refl _),Nat.sub_self]
 rfl
theorem len_app {α:Type} (l:List α) (y:α):len (l++[y])=len l+1:=by
 unfold len
 rw [List.length_append]
 rfl
end Go.Proofs.T1
namespace Go.Proofs.T1
open Go Go.Sx
theorem body_made (k:Nat) (s:(List Int) × Unit):∃ s' p v ang spin mass inertia bounce rub l,tourmake_body k s=some (s',(p,v,ang,spin,mass,inertia,bounce,rub,l,false,0,()))∧BMade p v ang spin mass inertia bounce rub l:=by
 obtain ⟨raw,_⟩:=s
 obtain ⟨l,e1,hs⟩:=Poly_solid k raw
 unfold tourmake_Poly at e1
 obtain ⟨⟨s0,l'⟩,e0,e2⟩:=bnd_eq e1
 obtain rfl:l'=l:=Option.some.inj e2
 obtain ⟨s1,y3,f3,a3,b3⟩:=Next_eq k s0 (n:=41) (by decide) (by decide)
 obtain ⟨s2,y5,f5,a5,b5⟩:=Next_eq k s1 (n:=41) (by decide) (by decide)
 obtain ⟨s3,y7,f7,a7,b7⟩:=Next_eq k s2 (n:=65536) (by decide) (by decide)
 obtain ⟨s4,y9,f9,a9,b9⟩:=Next_eq k s3 (n:=3) (by decide) (by decide)
 obtain ⟨s5,y14,f14,a14,b14⟩:=Next_eq k s4 (n:=65537) (by decide) (by decide)
 obtain ⟨s6,y16,f16,a16,b16⟩:=Next_eq k s5 (n:=65537) (by decide) (by decide)
 obtain ⟨s7,y18,f18,a18,b18⟩:=Next_eq k s6 (n:=4) (by decide) (by decide)
 have hc1:∃ ang,tourmake_body.c1 k (s3,y7) (s4,y9)=some ang∧0≤ang∧ang≤65535:=by
  unfold tourmake_body.c1
  by_cases h:y9=0
  ·rw [ieq_pos h,bT]
   exact ⟨0,rfl,by decide,by decide⟩
  ·rw [ieq_neg h,bF]
   exact ⟨y7,rfl,a7,by omega⟩
 obtain ⟨ang,f12,g0,g1⟩:=hc1
 have e0:tourmake_poly k (raw,())=some (s0,l'):=e0
 unfold tourmake_body
 rw [e0,bS]
 dsimp only
 rw [f3,bS]
 dsimp only
 rw [f5,bS]
 dsimp only
 rw [f7,bS]
 dsimp only
 rw [f9,bS,f12,bS]
 dsimp only
 rw [f14,bS]
 dsimp only
 rw [f16,bS]
 dsimp only
 rw [f18,bS]
 dsimp only
 rw [half_eq a3 (by omega) (by decide) (by decide),half_eq a5 (by omega) (by decide) (by decide)]
 by_cases h:y18=0
 ·rw [ieq_pos h,bT]
  exact ⟨_,_,_,_,_,_,_,_,_,_,rfl,⟨hs,by dsimp only; omega,by dsimp only; omega,⟨g0,g1⟩,by decide,⟨a14,by omega⟩,⟨a16,by omega⟩,Or.inl ⟨rfl,rfl,rfl,rfl⟩⟩⟩
 ·rw [ieq_neg h,bF]
  obtain ⟨s8,y21,f21,a21,b21⟩:=Next_eq k s7 (n:=21) (by decide) (by decide)
  obtain ⟨s9,y23,f23,a23,b23⟩:=Next_eq k s8 (n:=21) (by decide) (by decide)
  obtain ⟨s10,y25,f25,a25,b25⟩:=Next_eq k s9 (n:=65536) (by decide) (by decide)
  obtain ⟨s11,y27,f27,a27,b27⟩:=Next_eq k s10 (n:=8) (by decide) (by decide)
  obtain ⟨s12,y29,f29,a29,b29⟩:=Next_eq k s11 (n:=30) (by decide) (by decide)
  rw [f21,bS]
  dsimp only
  rw [f23,bS]
  dsimp only
  rw [f25,bS]
  dsimp only
  rw [f27,bS]
  dsimp only
  rw [f29,bS]
  dsimp only
  rw [half_eq a21 (by omega) (by decide) (by decide),half_eq a23 (by omega) (by decide) (by decide)]
  have m1:imul .i64 (iadd .i64 1 y27) 65536=(1+y27)*65536:=by rw [iadd_i64 (by omega) (by omega),imul_i64 (by omega) (by omega)]
  have m2:imul .i64 (iadd .i64 1 y29) 65536=(1+y29)*65536:=by rw [iadd_i64 (by omega) (by omega),imul_i64 (by omega) (by omega)]
  rw [m1,m2,isub_i64 (by omega) (by omega)]
  exact ⟨_,_,_,_,_,_,_,_,_,_,rfl,⟨hs,by dsimp only; omega,by dsimp only; omega,⟨g0,g1⟩,by omega,⟨a14,by omega⟩,⟨a16,by omega⟩,Or.inr ⟨by omega,by omega,by omega,by omega⟩⟩⟩
theorem AllK_app {k:Nat} {l:List V45} (h:AllK k l) {b:V45} (hb:OKb k b):AllK k (l++[b]):=by
 intro j j0 j1
 rw [len_app] at j1
 by_cases c:j<len l
 ·rw [el_app_lt Z45 l b j0 c]; exact h j j0 c
 ·rw [el_app_eq Z45 l b (show len l=j by omega)]; exact hb
theorem scene_made {k:Nat} (hk:9≤k) (raw:List Int):∃ B J g st,tourmake_Scene k raw=some (B,J,[],g,st,())∧AllK k B∧len B≤5∧len J≤1∧1≤st∧st≤65536:=by
 obtain ⟨s1,y1,f1,a1,b1⟩:=Next_eq k (raw,()) (n:=11) (by decide) (by decide)
 obtain ⟨s2,y3,f3,a3,b3⟩:=Next_eq k s1 (n:=60) (by decide) (by decide)
 obtain ⟨s3,y6,f6,a6,b6⟩:=Next_eq k s2 (n:=6) (by decide) (by decide)
 obtain ⟨⟨s4,B⟩,⟨hA,hl⟩,hB⟩:=inv_loop (fun n (z:((List Int) × Unit) × List V45) v=>tourmake_Scene.c1 k (s3,y6) n v z.1 z.2) 0 y6 (fun z v=>AllK k z.2∧len z.2=v)
  (by
   intro n z v v0 v1 ⟨h1,h2⟩
   obtain ⟨s',p,v',ang,spin,mass,inertia,bounce,rub,l,e,hm⟩:=body_made k z.1
   refine ⟨(s',z.2++[(p,v',ang,spin,mass,inertia,bounce,rub,l,false,0,())]),⟨AllK_app h1 (hm.check hk),by rw [len_app,h2]⟩,?_⟩
   show tourmake_Scene.c1 k (s3,y6) (n+1) v z.1 z.2=_
   have hroom:∀ w:V45,room 120 z.2 [w]:=by
    intro w
    show (z.2.length+1)*120≤140737488355328
    unfold len at h2
    omega
   rw [tourmake_Scene.c1,ilt_pos v1,bT,e,bS]
   dsimp only
   rw [rP (hroom _),iadd_i64 (by omega) (by omega)])
  (by
   intro n z v v0 v1
   show tourmake_Scene.c1 k (s3,y6) (n+1) v z.1 z.2=_
   rw [tourmake_Scene.c1,ilt_neg v1,bF])
  k (s3,[]) 0 (by omega) (by omega) (by omega) ⟨fun j j0 j1=>by have:j<0:=j1; omega,rfl⟩
 have hB:tourmake_Scene.c1 k (s3,y6) k 0 s3 []=some (s4,B):=hB
 have hl:len B=y6:=hl
 have hc2:∃ b s5,tourmake_Scene.c2 k (s4,B)=some (b,s5):=by
  unfold tourmake_Scene.c2
  dsimp only
  by_cases c:1<len B
  ·rw [igt_pos c,bT,rP (inL_of (by omega) (by omega)),rP (inL_of (by omega) c)]
   by_cases d:0<iadd .i64 (el Z45 B 0).2.2.2.2.1 (el Z45 B 1).2.2.2.2.1
   ·obtain ⟨s5,y,f,_,_⟩:=Next_eq k s4 (n:=3) (by decide) (by decide)
    rw [igt_pos d,bT,f,bS]
    exact ⟨_,_,rfl⟩
   ·rw [igt_neg (by omega),bF]
    exact ⟨_,_,rfl⟩
  ·rw [igt_neg (by omega),bF]
   exact ⟨_,_,rfl⟩
 obtain ⟨b,s5,hc2⟩:=hc2
 obtain ⟨s6,y26,f26,_,_⟩:=Next_eq k s5 (n:=6) (by decide) (by decide)
 have hst:iquo .i64 65536 (iadd .i64 20 y3)=65536 / (20+y3):=by
  rw [iadd_i64 (by omega) (by omega),iquo_i64 (by decide) (by decide) (by omega)]
 have st0:1≤65536 / (20+y3):=(Int.le_ediv_iff_mul_le (by omega)).2 (by omega)
 have st1:65536 / (20+y3)≤65536:=Int.ediv_le_self _ (by decide)
 unfold tourmake_Scene
 rw [f1,bS]
 dsimp only
 rw [f3,bS]
 dsimp only
 rw [hst,rP (show nz (iadd .i64 20 y3) by rw [iadd_i64 (by omega) (by omega)]; unfold nz; omega),f6,bS]
 dsimp only
 rw [hB,bS,hc2,bS]
 dsimp only
 cases b with
 | true =>
  rw [bT,f26,bS]
  exact ⟨_,_,_,_,rfl,hA,by omega,by show (1:Int)≤1; omega,st0,st1⟩
 | false =>
  rw [bF]
  exact ⟨_,_,_,_,rfl,hA,by omega,by show (0:Int)≤1; omega,st0,st1⟩
end Go.Proofs.T1
