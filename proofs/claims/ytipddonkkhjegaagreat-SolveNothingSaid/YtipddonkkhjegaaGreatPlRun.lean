import Derived.Test.YtipddonkkhjegaaGreatPlSolve
import Derived.Test.YtipddonkkhjegaaGreatG16
namespace Go.Proofs.T1
open Go Go.Sx
instance (nb:Int) (x:V39):Decidable (P1 nb x):=by unfold P1; infer_instance
instance (x:V39):Decidable (P2 x):=by unfold P2; infer_instance
instance (x:V39):Decidable (P3 x):=by unfold P3; infer_instance
end Go.Proofs.T1
namespace Go.Proofs.T1
open Go Go.Sx
theorem sin_gen (k:Nat) (n a b:Int):solve_Check_1 k n a b=some (decide (a≤n∧n≤b)):=by
 unfold solve_Check_1
 by_cases h:n ≥ a
 ·rw [ige_pos h,bT]
  unfold ile
  congr 1
  rw [decide_eq_decide]
  exact ⟨fun x=>⟨h,x⟩,fun x=>x.2⟩
 ·rw [ige_neg (by omega),bF,decide_eq_false (fun x=>h x.1)]
theorem SC_c2 (k:Nat) {l:List V57} (hl:len l≤64) (c:List V39) (v:Int):solve_Check.c2 k l c v=some (!decide (P1 (len l) (el Z39 c v))):=by
 have h0:(0:Int)≤len l:=by unfold len; omega
 unfold solve_Check.c2
 generalize el Z39 c v=x
 rw [isub_i64 (by omega) (by omega),sin_gen,bS,sin_gen]
 by_cases a:0≤x.1∧x.1≤len l - 1
 ·rw [decide_eq_true a,bT,bS]
  by_cases b:0≤x.2.1∧x.2.1≤len l - 1
  ·rw [decide_eq_true b,bT]
   by_cases d:x.1 ≥ x.2.1
   ·rw [ige_pos d,bT,decide_eq_false (by unfold P1; omega)]; rfl
   ·rw [ige_neg (by omega),bF]
    unfold ilt
    by_cases e:x.2.2.1<0
    ·rw [decide_eq_true e,decide_eq_false (by unfold P1; omega)]; rfl
    ·rw [decide_eq_false e,decide_eq_true (by unfold P1; omega)]; rfl
  ·rw [decide_eq_false b,bF,decide_eq_false (by unfold P1; omega)]; rfl
 ·rw [decide_eq_false a,bF,decide_eq_false (by unfold P1; omega)]; rfl
theorem SC_c3 (k:Nat) (c:List V39) (v:Int):solve_Check.c3 k c v=some (!decide (P2 (el Z39 c v))):=by
 unfold solve_Check.c3
 generalize el Z39 c v=x
 simp only [sin_gen,bS]
 by_cases a:-65536000≤x.2.2.2.1.1∧x.2.2.2.1.1≤65536000
 ·rw [decide_eq_true a,bT]
  by_cases b:-65536000≤x.2.2.2.1.2.1∧x.2.2.2.1.2.1≤65536000
  ·rw [decide_eq_true b,bT]
   by_cases d:-65536≤x.2.2.2.2.1.1∧x.2.2.2.2.1.1≤65536
   ·rw [decide_eq_true d,bT]
    congr 2
    rw [decide_eq_decide]
    exact ⟨fun e=>⟨⟨a.1,a.2,b.1,b.2⟩,d.1,d.2,e.1,e.2⟩,fun e=>e.2.2.2⟩
   ·rw [decide_eq_false d,bF,decide_eq_false (fun e=>d ⟨e.2.1,e.2.2.1⟩)]; rfl
  ·rw [decide_eq_false b,bF,decide_eq_false (fun e=>b e.1.2.2)]; rfl
 ·rw [decide_eq_false a,bF,decide_eq_false (fun e=>a ⟨e.1.1,e.1.2.1⟩)]; rfl
theorem SC_c4 (k:Nat) (c:List V39) (v:Int):solve_Check.c4 k c v=some (!decide (P3 (el Z39 c v))):=by
 unfold solve_Check.c4
 generalize el Z39 c v=x
 simp only [sin_gen,bS]
 by_cases a:0≤x.2.2.2.2.2.1∧x.2.2.2.2.2.1≤65536000
 ·rw [decide_eq_true a,bT]
  by_cases b:0≤x.2.2.2.2.2.2.1∧x.2.2.2.2.2.2.1≤1099511627776
  ·rw [decide_eq_true b,bT]
   congr 2
   rw [decide_eq_decide]
   exact ⟨fun e=>⟨a,b,e⟩,fun e=>e.2.2⟩
  ·rw [decide_eq_false b,bF,decide_eq_false (fun e=>b e.2.1)]; rfl
 ·rw [decide_eq_false a,bF,decide_eq_false (fun e=>a e.1)]; rfl
end Go.Proofs.T1
namespace Go.Proofs.T1
open Go Go.Sx
theorem body_made (k:Nat) (s:(List Int) × Unit):∃ s' p v ang spin mass inertia bounce rub l,tourmake_body k s=some (s',(p,v,ang,spin,mass,inertia,bounce,rub,l,false,0,()))∧BMade p v ang spin mass inertia bounce rub l:=by
 obtain ⟨raw,_⟩:=s
 obtain ⟨l,e1,hs⟩:=Poly_solid k raw
 unfold tourmake_Poly at e1
 obtain ⟨⟨s0,l'⟩,e0,e2⟩:=bnd_eq e1
 obtain rfl:l'=l:=Option.some.inj e2
 obtain ⟨s1,y3,f3,a3,b3⟩:=Next_eq k s0 (n:=41) (by decide) (by decide)
 obtain ⟨s2,y5,f5,a5,b5⟩:=Next_eq k s1 (n:=41) (by decide) (by decide)
 obtain ⟨s3,y7,f7,a7,b7⟩:=Next_eq k s2 (n:=65536) (by decide) (by decide)
 obtain ⟨s4,y9,f9,a9,b9⟩:=Next_eq k s3 (n:=3) (by decide) (by decide)
 obtain ⟨s5,y14,f14,a14,b14⟩:=Next_eq k s4 (n:=65537) (by decide) (by decide)
 obtain ⟨s6,y16,f16,a16,b16⟩:=Next_eq k s5 (n:=65537) (by decide) (by decide)
 obtain ⟨s7,y18,f18,a18,b18⟩:=Next_eq k s6 (n:=4) (by decide) (by decide)
 have hc1:∃ ang,tourmake_body.c1 k (s3,y7) (s4,y9)=some ang∧0≤ang∧ang≤65535:=by
  unfold tourmake_body.c1
  by_cases h:y9=0
  ·rw [ieq_pos h,bT]
   exact ⟨0,rfl,by decide,by decide⟩
  ·rw [ieq_neg h,bF]
   exact ⟨y7,rfl,a7,by omega⟩
 obtain ⟨ang,f12,g0,g1⟩:=hc1
 have e0:tourmake_poly k (raw,())=some (s0,l'):=e0
 unfold tourmake_body
 rw [e0,bS]
 dsimp only
 rw [f3,bS]
 dsimp only
 rw [f5,bS]
 dsimp only
 rw [f7,bS]
 dsimp only
 rw [f9,bS,f12,bS]
 dsimp only
 rw [f14,bS]
 dsimp only
 rw [f16,bS]
 dsimp only
 rw [f18,bS]
 dsimp only
 rw [half_eq a3 (by omega) (by decide) (by decide),half_eq a5 (by omega) (by decide) (by decide)]
 by_cases h:y18=0
 ·rw [ieq_pos h,bT]
  exact ⟨_,_,_,_,_,_,_,_,_,_,rfl,⟨hs,by dsimp only; omega,by dsimp only; omega,⟨g0,g1⟩,by decide,⟨a14,by omega⟩,⟨a16,by omega⟩,Or.inl ⟨rfl,rfl,rfl,rfl⟩⟩⟩
 ·rw [ieq_neg h,bF]
  obtain ⟨s8,y21,f21,a21,b21⟩:=Next_eq k s7 (n:=21) (by decide) (by decide)
  obtain ⟨s9,y23,f23,a23,b23⟩:=Next_eq k s8 (n:=21) (by decide) (by decide)
  obtain ⟨s10,y25,f25,a25,b25⟩:=Next_eq k s9 (n:=65536) (by decide) (by decide)
  obtain ⟨s11,y27,f27,a27,b27⟩:=Next_eq k s10 (n:=8) (by decide) (by decide)
  obtain ⟨s12,y29,f29,a29,b29⟩:=Next_eq k s11 (n:=30) (by decide) (by decide)
  rw [f21,bS]
  dsimp only
  rw [f23,bS]
  dsimp only
  rw [f25,bS]
  dsimp only
  rw [f27,bS]
  dsimp only
  rw [f29,bS]
  dsimp only
  rw [half_eq a21 (by omega) (by decide) (by decide),half_eq a23 (by omega) (by decide) (by decide)]
  have m1:imul .i64 (iadd .i64 1 y27) 65536=(1+y27)*65536:=by rw [iadd_i64 (by omega) (by omega),imul_i64 (by omega) (by omega)]
  have m2:imul .i64 (iadd .i64 1 y29) 65536=(1+y29)*65536:=by rw [iadd_i64 (by omega) (by omega),imul_i64 (by omega) (by omega)]
  rw [m1,m2,isub_i64 (by omega) (by omega)]
  exact ⟨_,_,_,_,_,_,_,_,_,_,rfl,⟨hs,by dsimp only; omega,by dsimp only; omega,⟨g0,g1⟩,by omega,⟨a14,by omega⟩,⟨a16,by omega⟩,Or.inr ⟨by omega,by omega,by omega,by omega⟩⟩⟩
end Go.Proofs.T1
namespace Go.Proofs.T1
open Go Go.Sx
def MadeB (b:V57):Prop:=∃ p v ang spin mass inertia bounce rub l,b=(p,v,ang,spin,mass,inertia,bounce,rub,l,false,0,())∧BMade p v ang spin mass inertia bounce rub l
def AllM (l:List V57):Prop:=∀ i,0≤i→i<len l→MadeB (el Z57 l i)
theorem AllM_app {l:List V57} (h:AllM l) {b:V57} (hb:MadeB b):AllM (l++[b]):=by
 intro j j0 j1
 rw [len_app] at j1
 by_cases c:j<len l
 ·rw [el_app_lt Z57 l b j0 c]; exact h j j0 c
 ·rw [el_app_eq Z57 l b (show len l=j by omega)]; exact hb
theorem scene_mades {k:Nat} (hk:9≤k) (raw:List Int):∃ B J g st,tourmake_Scene k raw=some (B,J,[],g,st,())∧AllM B∧len B≤5∧len J≤1∧1≤st∧st≤65536:=by
 obtain ⟨s1,y1,f1,a1,b1⟩:=Next_eq k (raw,()) (n:=11) (by decide) (by decide)
 obtain ⟨s2,y3,f3,a3,b3⟩:=Next_eq k s1 (n:=60) (by decide) (by decide)
 obtain ⟨s3,y6,f6,a6,b6⟩:=Next_eq k s2 (n:=6) (by decide) (by decide)
 obtain ⟨⟨s4,B⟩,⟨hA,hl⟩,hB⟩:=inv_loop (fun n (z:((List Int) × Unit) × List V57) v=>tourmake_Scene.c1 k (s3,y6) n v z.1 z.2) 0 y6 (fun z v=>AllM z.2∧len z.2=v)
  (by
   intro n z v v0 v1 ⟨h1,h2⟩
   obtain ⟨s',p,v',ang,spin,mass,inertia,bounce,rub,l,e,hm⟩:=body_made k z.1
   refine ⟨(s',z.2++[(p,v',ang,spin,mass,inertia,bounce,rub,l,false,0,())]),⟨AllM_app h1 ⟨p,v',ang,spin,mass,inertia,bounce,rub,l,rfl,hm⟩,by rw [len_app,h2]⟩,?_⟩
   show tourmake_Scene.c1 k (s3,y6) (n+1) v z.1 z.2=_
   have hroom:∀ w:V57,room 120 z.2 [w]:=by
    intro w
    show (z.2.length+1)*120≤140737488355328
    unfold len at h2
    omega
   rw [tourmake_Scene.c1,ilt_pos v1,bT,e,bS]
   dsimp only
   rw [rP (hroom _),iadd_i64 (by omega) (by omega)])
  (by
   intro n z v v0 v1
   show tourmake_Scene.c1 k (s3,y6) (n+1) v z.1 z.2=_
   rw [tourmake_Scene.c1,ilt_neg v1,bF])
  k (s3,[]) 0 (by omega) (by omega) (by omega) ⟨fun j j0 j1=>by have:j<0:=j1; omega,rfl⟩
 have hB:tourmake_Scene.c1 k (s3,y6) k 0 s3 []=some (s4,B):=hB
 have hl:len B=y6:=hl
 have hc2:∃ b s5,tourmake_Scene.c2 k (s4,B)=some (b,s5):=by
  unfold tourmake_Scene.c2
  dsimp only
  by_cases c:1<len B
  ·rw [igt_pos c,bT,rP (inL_of (by omega) (by omega)),rP (inL_of (by omega) c)]
   by_cases d:0<iadd .i64 (el Z57 B 0).2.2.2.2.1 (el Z57 B 1).2.2.2.2.1
   ·obtain ⟨s5,y,f,_,_⟩:=Next_eq k s4 (n:=3) (by decide) (by decide)
    rw [igt_pos d,bT,f,bS]
    exact ⟨_,_,rfl⟩
   ·rw [igt_neg (by omega),bF]
    exact ⟨_,_,rfl⟩
  ·rw [igt_neg (by omega),bF]
   exact ⟨_,_,rfl⟩
 obtain ⟨b,s5,hc2⟩:=hc2
 obtain ⟨s6,y26,f26,_,_⟩:=Next_eq k s5 (n:=6) (by decide) (by decide)
 have hst:iquo .i64 65536 (iadd .i64 20 y3)=65536 / (20+y3):=by
  rw [iadd_i64 (by omega) (by omega),iquo_i64 (by decide) (by decide) (by omega)]
 have st0:1≤65536 / (20+y3):=(Int.le_ediv_iff_mul_le (by omega)).2 (by omega)
 have st1:65536 / (20+y3)≤65536:=Int.ediv_le_self _ (by decide)
 unfold tourmake_Scene
 rw [f1,bS]
 dsimp only
 rw [f3,bS]
 dsimp only
 rw [hst,rP (show nz (iadd .i64 20 y3) by rw [iadd_i64 (by omega) (by omega)]; unfold nz; omega),f6,bS]
 dsimp only
 rw [hB,bS,hc2,bS]
 dsimp only
 cases b with
 | true =>
  rw [bT,f26,bS]
  exact ⟨_,_,_,_,rfl,hA,by omega,by show (1:Int)≤1; omega,st0,st1⟩
 | false =>
  rw [bF]
  exact ⟨_,_,_,_,rfl,hA,by omega,by show (0:Int)≤1; omega,st0,st1⟩
theorem AllM_K {k:Nat} (hk:9≤k) {l:List V57} (h:AllM l):AllK k l:=by
 intro i i0 i1
 obtain ⟨p,v,ang,spin,mass,inertia,bounce,rub,c,e,hm⟩:=h i i0 i1
 show body_Check k (el Z57 l i)=some 0
 rw [e]
 exact hm.check hk
theorem AllM_P {k:Nat} (hk:10≤k) {l:List V57} (h:AllM l):AllP k l:=by
 intro i i0 i1
 obtain ⟨p,v,ang,spin,mass,inertia,bounce,rub,c,e,hm⟩:=h i i0 i1
 obtain ⟨c',e1,hv,hl,a,s,hc,ha,hs⟩:=Place_all (k:=k) hk (hm.check (by omega))
 refine ⟨c',by rw [e]; exact e1,hv,fun j j0 j1=>?_⟩
 rw [hl] at j1
 have h4:=hm.hl.1.2.2.1 j j0 j1
 have hp:=hm.hp
 rw [hc,q_tpl j0 j1]
 have rb:∀ {x y:Int},-262144≤x→x≤262144→-65536≤y→y≤65536→-262144≤rnd (x*y) 65536∧rnd (x*y) 65536≤262144:=by
  intro x y x0 x1 y0 y1
  have:=mul_bd (x:=x) (y:=y) (M:=262144) (N:=65536) x0 x1 y0 y1
  exact rnd_bd (by decide) (by omega) (by omega)
 have b1:=rb (x:=(q c j).1) (y:=a) (by omega) (by omega) ha.1 ha.2
 have b2:=rb (x:=(q c j).2.1) (y:=s) (by omega) (by omega) hs.1 hs.2
 have b3:=rb (x:=(q c j).1) (y:=s) (by omega) (by omega) hs.1 hs.2
 have b4:=rb (x:=(q c j).2.1) (y:=a) (by omega) (by omega) ha.1 ha.2
 unfold Bx tp
 dsimp only
 omega
theorem Carry_nil {k:Nat} (hk:10000≤k) {C:List V39} (hC:C.length≤5000) (hz:∀ c,c∈C→c.2.2.2.2.2.2=(0,0,())):keep_Carry k [] C=some C:=by
 have lC:len C=(C.length:Int):=rfl
 have hi:∀ (v:Int) (r:List V39),slices_IndexFunc_41_h k [] v r=some (-1):=by
  intro v r
  unfold slices_IndexFunc_41_h
  obtain ⟨m,rfl⟩:∃ m,k=m+1:=⟨k - 1,by omega⟩
  have e:slices_IndexFunc_41_h.c1 (m+1) [] v r (m+1) 0=some (.inr ()):=by
   rw [slices_IndexFunc_41_h.c1,ilt_neg (by decide),bF]
  rw [e,bS,two_inr]
 have same:∀ v:Int,0≤v→v<len C→((el Z39 C v).1,(el Z39 C v).2.1,(el Z39 C v).2.2.1,(el Z39 C v).2.2.2.1,(el Z39 C v).2.2.2.2.1,(el Z39 C v).2.2.2.2.2.1,(0:Int),(el Z39 C v).2.2.2.2.2.2.2)=el Z39 C v:=by
  intro v v0 v1
  have h:=hz _ (el_in Z39 C v0 v1)
  generalize el Z39 C v=c at *
  obtain ⟨a,b,d,e,f,g,h2⟩:=c
  dsimp only at h ⊢
  rw [h]
 have same2:∀ v:Int,0≤v→v<len C→((el Z39 C v).1,(el Z39 C v).2.1,(el Z39 C v).2.2.1,(el Z39 C v).2.2.2.1,(el Z39 C v).2.2.2.2.1,(el Z39 C v).2.2.2.2.2.1,(el Z39 C v).2.2.2.2.2.2.1,(0:Int),())=el Z39 C v:=by
  intro v v0 v1
  have h:=hz _ (el_in Z39 C v0 v1)
  generalize el Z39 C v=c at *
  obtain ⟨a,b,d,e,f,g,h2⟩:=c
  dsimp only at h ⊢
  rw [h]
 have cl:slices_Clone k C=some C:=by
  unfold slices_Clone
  exact rP (show room0 80 C by unfold room0 roomFor; omega) _
 have key:∀ (n:Nat) (v:Int),0≤v→v≤len C→len C - v<(n:Int)→keep_Carry.c1 k [] C n v C=some C:=by
  intro n
  induction n with
  | zero=>intro v a b c; omega
  | succ n ih =>
   intro v a b c
   rw [keep_Carry.c1]
   by_cases h:v<len C
   ·rw [ilt_pos h,bT,rP (inL_of a h),same v a h,st_self Z39 C a h,rP (inL_of a h),same2 v a h,st_self Z39 C a h,hi,bS]
    unfold keep_Carry.c2
    rw [ige_neg (by decide),bF,bS,iadd_i64 (by omega) (by omega)]
    exact ih (v+1) (by omega) (by omega) (by omega)
   ·rw [ilt_neg (by omega),bF]
 unfold keep_Carry
 rw [cl,bS,key k 0 (by omega) (by omega) (by omega),bS]
theorem Find_nil {k:Nat} (hk:10000≤k) {l:List V57} (hA:AllK k l) (hP:AllP k l) (hl:len l≤5):∃ ps C,keep_Pairs k l=some (ps,0)∧PairsIn (len l) ps∧keep_Find.c1 k l (ps,0) k 0 []=some C∧keep_Find k l []=some (C,0)∧Fnd (len l) ps C∧C.length≤50:=by
 have ll:len l=(l.length:Int):=rfl
 obtain ⟨ps,C,e1,h1,e2,hF,hC⟩:=Find_ok hk hA hP (by omega)
 have sq:=Nat.mul_le_mul (show l.length≤5 by omega) (show l.length≤5 by omega)
 refine ⟨ps,C,e1,h1,e2,?_,hF,by omega⟩
 unfold keep_Find
 rw [e1,bS]
 dsimp only
 rw [ine_neg rfl,bF,e2,bS,Carry_nil hk (by omega) hF.zero,bS]
theorem copy_all {k:Nat} (hk:9≤k) (hk':100<k) {l:List V57} (hA:AllK k l) (hl:len l≤64):solve_Run.c2 k l k 0 []=some l:=by
 have ll:len l=(l.length:Int):=rfl
 obtain ⟨z,a,b⟩:=inv_loop (fun n (z:List V57) i=>solve_Run.c2 k l n i z) 0 (len l) (fun z i=>z=l.take i.toNat)
  (by
   intro n z i i0 i1 hz
   have hc:=cor_bd hk _ (hA i i0 i1)
   refine ⟨z++[el Z57 l i],?_,?_⟩
   ·obtain ⟨i,rfl⟩:=Int.eq_ofNat_of_zero_le i0
    have hi:i<l.length:=by omega
    have hq:el Z57 l (i:Int)=l[i]:=by
     show l.getD i Z57=_
     rw [List.getD_eq_getElem?_getD,List.getElem?_eq_getElem hi]
     rfl
    rw [hq,hz,show ((i:Int)+1).toNat=i+1 by omega,show ((i:Int)).toNat=i by omega]
    rw [List.take_succ_eq_append_getElem hi]
   ·show solve_Run.c2 k l (n+1) i z=_
    rw [solve_Run.c2,ilt_pos i1,bT,rP (inL_of i0 i1)]
    unfold slices_Clone_52
    rw [rP (show room0 16 (el Z57 l i).2.2.2.2.2.2.2.2.1 by show (0+(el Z57 l i).2.2.2.2.2.2.2.2.1.length)*16≤140737488355328; omega),bS,iadd_i64 (by omega) (by omega)]
    refine rP ?_ _
    have hs:z.length≤64:=by
     rw [hz,List.length_take]
     omega
    show (z.length+1)*120≤140737488355328
    omega)
  (by
   intro n z i i0 i1
   show solve_Run.c2 k l (n+1) i z=some z
   rw [solve_Run.c2,ilt_neg i1,bF])
  k [] 0 (by omega) (by omega) (by omega) rfl
 have b:solve_Run.c2 k l k 0 []=some z:=b
 rw [b,a,ll,show ((l.length:Nat):Int).toNat=l.length by omega,List.take_length]
theorem copy_all_h {k:Nat} (hk:9≤k) (hk':100<k) {l:List V57} (hA:AllK k l) (hl:len l≤64):solve_Run_h.c2 k l k 0 []=some l:=by
 have ll:len l=(l.length:Int):=rfl
 obtain ⟨z,a,b⟩:=inv_loop (fun n (z:List V57) i=>solve_Run_h.c2 k l n i z) 0 (len l) (fun z i=>z=l.take i.toNat)
  (by
   intro n z i i0 i1 hz
   have hc:=cor_bd hk _ (hA i i0 i1)
   refine ⟨z++[el Z57 l i],?_,?_⟩
   ·obtain ⟨i,rfl⟩:=Int.eq_ofNat_of_zero_le i0
    have hi:i<l.length:=by omega
    have hq:el Z57 l (i:Int)=l[i]:=by
     show l.getD i Z57=_
     rw [List.getD_eq_getElem?_getD,List.getElem?_eq_getElem hi]
     rfl
    rw [hq,hz,show ((i:Int)+1).toNat=i+1 by omega,show ((i:Int)).toNat=i by omega]
    rw [List.take_succ_eq_append_getElem hi]
   ·show solve_Run_h.c2 k l (n+1) i z=_
    rw [solve_Run_h.c2,ilt_pos i1,bT,rP (inL_of i0 i1)]
    unfold slices_Clone_52
    rw [rP (show room0 16 (el Z57 l i).2.2.2.2.2.2.2.2.1 by show (0+(el Z57 l i).2.2.2.2.2.2.2.2.1.length)*16≤140737488355328; omega),bS,iadd_i64 (by omega) (by omega)]
    refine rP ?_ _
    have hs:z.length≤64:=by
     rw [hz,List.length_take]
     omega
    show (z.length+1)*120≤140737488355328
    omega)
  (by
   intro n z i i0 i1
   show solve_Run_h.c2 k l (n+1) i z=some z
   rw [solve_Run_h.c2,ilt_neg i1,bF])
  k [] 0 (by omega) (by omega) (by omega) rfl
 have b:solve_Run_h.c2 k l k 0 []=some z:=b
 rw [b,a,ll,show ((l.length:Nat):Int).toNat=l.length by omega,List.take_length]
theorem SCheck_ok {k:Nat} (hk:5000<k) {l:List V57} (hA:AllK k l) (hl:len l≤64) {C:List V39} (hC:C.length≤4096) (hv:∀ c,c∈C→CVx (len l) c):solve_Check k l C=some 0:=by
 have lC:len C=(C.length:Int):=rfl
 unfold solve_Check
 rw [KCheck_ok (by omega) hA hl,bS,ine_neg rfl,bF,igt_neg (by omega),bF]
 have H:=find_loop (fun n v=>solve_Check.c1 k l C n v) 0 (len C) (fun _=>False) (fun _=>())
  (fun _ _ _ _ h=>h.elim)
  (by
   intro n v a b _
   show solve_Check.c1 k l C (n+1) v=solve_Check.c1 k l C n (v+1)
   obtain ⟨h1,h2,h3⟩:=hv _ (el_in Z39 C a b)
   rw [solve_Check.c1,ilt_pos b,bT,rP (inL_of a b),SC_c2 k hl,SC_c3,SC_c4,decide_eq_true h1,decide_eq_true h2,decide_eq_true (show P3 (el Z39 C v) from h3),bS]
   show bif' false _ _=_
   rw [bF,bS]
   show bif' false _ _=_
   rw [bF,bS]
   show bif' false _ _=_
   rw [bF,iadd_i64 (by omega) (by omega)])
  (by
   intro n v a b
   show solve_Check.c1 k l C (n+1) v=_
   rw [solve_Check.c1,ilt_neg b,bF])
  k 0 (by omega) (by omega)
 rcases H with ⟨_,_,_,h,_⟩ | ⟨_,h⟩
 ·exact h.elim
 ·have h:solve_Check.c1 k l C k 0=some (.inr ()):=h (by omega)
  rw [h,bS,two_inr]
theorem Run_pre {k:Nat} (hk:10000≤k) {l:List V57} (hA:AllK k l) {C:List V39} (hC:C.length≤4096) (hv:∀ c,c∈C→CVx (len l) c) (hz:∀ c,c∈C→c.2.2.2.2.2.2=(0,0,())) {step:Int} (s0:1≤step) (s1:step≤65536) :
  ∃ rs:List V96,len rs=len C∧(∀ j,0≤j→j<len C→RQ l (el Z39 C j) (el Z96 rs j))∧solve_Run_h.c3 k step l C k 0 []=some rs∧solve_Run_h.c4 k rs C k 0 l=some l:=by
 have lC:len C=(C.length:Int):=rfl
 obtain ⟨rs,⟨lr,hR⟩,e1⟩:=inv_loop (fun n (rs:List V96) v=>solve_Run_h.c3 k step l C n v rs) 0 (len C) (fun rs v=>len rs=v∧∀ j,0≤j→j<v→RQ l (el Z39 C j) (el Z96 rs j))
  (by
   intro n rs v v0 v1 ⟨lr,hR⟩
   obtain ⟨r,e,hr⟩:=row_one (k:=k) (by omega) hA (hv _ (el_in Z39 C v0 v1)) s0 s1 C rs
   refine ⟨rs++[r],⟨by rw [len_app,lr],fun j j0 j1=>?_⟩,?_⟩
   ·by_cases d:j=v
    ·rw [d,el_app_eq Z96 rs r lr]
     exact hr
    ·rw [el_app_lt Z96 rs r j0 (by omega)]
     exact hR j j0 (by omega)
   ·show solve_Run_h.c3 k step l C (n+1) v rs=_
    have hroom:room 48 rs [r]:=by
     show (rs.length+1)*48≤140737488355328
     unfold len at lr v1
     omega
    rw [solve_Run_h.c3,ilt_pos v1,bT,rP (inL_of v0 v1),e,bS,rP hroom,iadd_i64 (by omega) (by omega)])
  (by
   intro n rs v v0 v1
   show solve_Run_h.c3 k step l C (n+1) v rs=_
   rw [solve_Run_h.c3,ilt_neg v1,bF])
  k [] 0 (by omega) (by omega) (by omega) ⟨rfl,fun j j0 j1=>by omega⟩
 have e1:solve_Run_h.c3 k step l C k 0 []=some rs:=e1
 refine ⟨rs,lr,hR,e1,?_⟩
 obtain ⟨bs,hb,e2⟩:=inv_loop (fun n (bs:List V57) v=>solve_Run_h.c4 k rs C n v bs) 0 (len C) (fun bs _=>bs=l)
  (by
   intro n bs v v0 v1 hb
   subst hb
   refine ⟨bs,rfl,?_⟩
   show solve_Run_h.c4 k rs C (n+1) v bs=_
   have hm:=el_in Z39 C v0 v1
   have hz:=hz _ hm
   obtain ⟨⟨A0,AB,B1,_⟩,_⟩:=hv _ hm
   have z1:(el Z39 C v).2.2.2.2.2.2.1=0:=by rw [hz]
   have z2:(el Z39 C v).2.2.2.2.2.2.2.1=0:=by rw [hz]
   have sc:∀ w:V26,vec_Scale k w 0=some (0,0,()):=by
    intro w
    unfold vec_Scale
    rw [sf_zero (by omega),bS,sf_zero (by omega),bS]
   have ad:vec_Add k (0,0,()) (0,0,())=some (0,0,()):=by
    unfold vec_Add
    dsimp only
    rw [sf_add k (a:=0) (b:=0) (by omega) (by omega) (by omega),bS,bS]
    rfl
   rw [solve_Run_h.c4,ilt_pos v1,bT,rP (inL_of v0 v1),z1,z2,sc,bS,rP (inL_of v0 (by omega)),sc,bS,ad,bS,pushl_none (by omega) hA _ C rs A0 (by omega) (by omega) B1,bS,iadd_i64 (by omega) (by omega)])
  (by
   intro n bs v v0 v1
   show solve_Run_h.c4 k rs C (n+1) v bs=_
   rw [solve_Run_h.c4,ilt_neg v1,bF])
  k l 0 (by omega) (by omega) (by omega) rfl
 have e2:solve_Run_h.c4 k rs C k 0 l=some bs:=e2
 rw [e2,hb]
theorem Run_c1 (k:Nat) {step rounds:Int} (s0:1≤step) (s1:step≤65536) (r0:0≤rounds) (r1:rounds≤32):solve_Run_h.c1 k step rounds=some false∧solve_Run.c1 k step rounds=some false:=by
 constructor
 ·unfold solve_Run_h.c1
  rw [ilt_neg (by omega),bF,igt_neg (by omega),bF,ilt_neg (by omega),bF,igt_neg (by omega)]
 ·unfold solve_Run.c1
  rw [ilt_neg (by omega),bF,igt_neg (by omega),bF,ilt_neg (by omega),bF,igt_neg (by omega)]
theorem CloneX_ok {k:Nat} {C:List V39} (hC:C.length≤5000):slices_Clone k C=some C:=by
 unfold slices_Clone
 exact rP (show room0 80 C by unfold room0 roomFor; omega) _
theorem Run_zero {k:Nat} (hk:10000≤k) {l:List V57} (hA:AllK k l) (hl:len l≤64) {C:List V39} (hC:C.length≤4096) (hv:∀ c,c∈C→CVx (len l) c) (hz:∀ c,c∈C→c.2.2.2.2.2.2=(0,0,())) {step:Int} (s0:1≤step) (s1:step≤65536) :
  solve_Run_h k l step 0 C=some (l,C,0):=by
 obtain ⟨rs,_,_,e1,e2⟩:=Run_pre hk hA hC hv hz s0 s1
 have e3:solve_Run_h.c5 k 0 rs k 0 l C=some (l,C):=by
  obtain ⟨m,rfl⟩:∃ m,k=m+1:=⟨k - 1,by omega⟩
  rw [solve_Run_h.c5,ilt_neg (by decide),bF]
 unfold solve_Run_h
 rw [SCheck_ok (by omega) hA hl hC hv,bS,ine_neg rfl,bF,(Run_c1 k s0 s1 (by decide) (by decide)).1,bS,bF,CloneX_ok (by omega),bS,copy_all_h (by omega) (by omega) hA hl,bS,e1,bS,e2,bS,e3,bS]
theorem Run_empty {k:Nat} (hk:10000≤k) {l:List V57} (hA:AllK k l) (hl:len l≤64) {step rounds:Int} (s0:1≤step) (s1:step≤65536) (r0:0≤rounds) (r1:rounds≤32) :
  solve_Run k l [] step rounds=some (l,[],0):=by
 have e1:solve_Run.c3 k step l [] k 0 []=some []:=by
  obtain ⟨m,rfl⟩:∃ m,k=m+1:=⟨k - 1,by omega⟩
  rw [solve_Run.c3,ilt_neg (by decide),bF]
 have e2:solve_Run.c4 k [] [] k 0 l=some l:=by
  obtain ⟨m,rfl⟩:∃ m,k=m+1:=⟨k - 1,by omega⟩
  rw [solve_Run.c4,ilt_neg (by decide),bF]
 have e6:solve_Run.c6 k [] [] k 0 l []=some (l,[]):=by
  obtain ⟨m,rfl⟩:∃ m,k=m+1:=⟨k - 1,by omega⟩
  rw [solve_Run.c6,ilt_neg (by decide),bF]
 have e5:∀ (n:Nat) (v:Int),0≤v→v≤rounds→rounds - v<(n:Int)→solve_Run.c5 k rounds [] n v l []=some (l,[]):=by
  intro n
  induction n with
  | zero=>intro v a b c; omega
  | succ n ih =>
   intro v a b c
   rw [solve_Run.c5]
   by_cases h:v<rounds
   ·rw [ilt_pos h,bT,e6,bS,iadd_i64 (by omega) (by omega)]
    exact ih (v+1) (by omega) (by omega) (by omega)
   ·rw [ilt_neg (by omega),bF]
 unfold solve_Run
 rw [SCheck_ok (by omega) hA hl (C:=[]) (by decide) (fun c hc=>(nomatch hc)),bS,ine_neg rfl,bF,(Run_c1 k s0 s1 r0 r1).2,bS,bF,CloneX_ok (by decide),bS,copy_all (by omega) (by omega) hA hl,bS,e1,bS,e2,bS,e5 k 0 (by omega) r0 (by omega),bS]
end Go.Proofs.T1
