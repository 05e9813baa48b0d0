import Derived.Test.YthpbadopmihmpaaGreatSxCall2
namespace Go.Sx
def cutNat (k:Int):Option Nat:=match decide (0≤k) with
 | true=>some k.toNat
 | false=>none
theorem cutNat_some {k:Int} {l:Nat} (h:cutNat k=some l):k=(l:Int):=by
 unfold cutNat at h
 split at h
 ·rename_i hd
  have:=of_decide_eq_true hd
  obtain rfl:=Option.some.inj h
  omega
 ·cases h
def cutAt (lo:Option AV) (d:Nat):Option Nat :=
 match lo with
 | none=>some d
 | some (.val (.int _) k)=>cutNat k
 | _=>none
def pSliceA (P:Program) (t:TypeId) (p:Ptr) (lo hi:Option AV) (mx:Bool):Perf :=
 match mx,P.underlying t with
 | false,some (.array n et)=>match cutAt lo 0,cutAt hi n,(P.info? et).map (·.size) with
  | some l,some h,some i=>match Nat.beq p.co 0 && (Nat.beq i 1 && (Nat.blt l n && (Nat.ble l h && Nat.ble h n))) with
   | true=>.of (.win p.b l (h - l))
   | false=>.bad
  | _,_,_=>.bad
 | _,_=>.bad
def pSliceX (P:Program) (t:TypeId) (x:AV) (lo hi:Option AV) (mx:Bool):Perf :=
 match x with
 | .val .ptr p=>pSliceA P t p lo hi mx
 | av=>pSlice P t av lo hi mx
def cpy (l:List Int) (lo:Nat) (l':List Int) (lo' m:Nat):List Int:=l.take lo++((l'.drop lo').take m++l.drop (lo+m))
def pCopyB (i:Nat) (b lo n lo' n':Nat):Option Blk→Option Blk→Perf
 | some (.cells (.arr N (.int k)) l),some (.cells (.arr N' (.int k')) l')=>match decide (k=k') && (Nat.beq i 1 && (Nat.ble (lo+Nat.min n' n) N && Nat.ble (lo'+Nat.min n' n) N')) with
  | true=>⟨.val (.int .i64) ((Nat.min n' n:Nat):Int),[(b,some (.cells (.arr N (.int k)) (cpy l lo l' lo' (Nat.min n' n))))],none⟩
  | false=>.bad
 | _,_=>.bad
def pCopy (P:Program) (hp:Nat→Option Blk) (t:TypeId) (x y:AV):Perf :=
 match P.underlying t,x,y with
 | some (.slice et),.win b lo n,.win b' lo' n'=>match (P.info? et).map (·.size) with
  | some i=>pCopyB i b lo n lo' n' (hp b) (hp b')
  | none=>.bad
 | _,_,_=>.bad
def one1:(e:Ty)→Option (e.den→Value)
 | .int k=>some (Value.int k)
 | .bool=>some Value.bool
 | _=>none
theorem one1_rd {P:Program} {ρ:Nat→Value} {w:World} {I:Nat→Prop} {e:Ty} {f:e.den→Value} (h:one1 e=some f) {x:e.den} {c:List Value}:Rd P e false ρ w I x c↔c=[f x]:=by
 cases e <;> simp only [one1] at h <;> first | (obtain rfl:=Option.some.inj h; exact Iff.rfl) | cases h
theorem one1_size {e:Ty} {f:e.den→Value} (h:one1 e=some f):e.size=1:=by
 cases e <;> simp [one1] at h <;> rfl
theorem one1_refs {e:Ty} {f:e.den→Value} (h:one1 e=some f) {l:List e.den} {tid:TypeId}:(Blk.row e l tid).refs=[]:=by
 cases e <;> simp [one1] at h <;> rfl
theorem one1_one {e:Ty} {f:e.den→Value} (h:one1 e=some f) (x:e.den):(f x).oneCell'=true:=by
 cases e <;> simp only [one1] at h <;> first | (obtain rfl:=Option.some.inj h; rfl) | cases h
theorem one1_arr {P:Program} {ρ:Nat→Value} {w:World} {I:Nat→Prop} {e:Ty} {f:e.den→Value} (h:one1 e=some f) {n:Nat} {l:List e.den} {cs:List Value}:Rd P (.arr n e) false ρ w I l cs↔cs=l.map f∧l.length=n:=by
 constructor
 ·rintro ⟨hl,css,rfl,hn,hi⟩
  refine ⟨?_,hl⟩
  have hl:l.length=n:=hl
  have:css=l.map fun x=>[f x]:=by
   apply List.ext_getElem?
   intro i
   rw [List.getElem?_map]
   by_cases h':i<n
   ·have h1:i<l.length:=by omega
    have h2:i<css.length:=by omega
    rw [List.getElem?_eq_getElem h1,List.getElem?_eq_getElem h2]
    have:=(one1_rd h).1 (hi i l[i] css[i] (List.getElem?_eq_getElem h1) (List.getElem?_eq_getElem h2))
    rw [this]
    rfl
   ·rw [List.getElem?_eq_none (show l.length≤i by omega),List.getElem?_eq_none (show css.length≤i by omega)]
    rfl
  rw [this,flatten_one]
 ·rintro ⟨rfl,hl⟩
  refine ⟨hl,l.map fun x=>[f x],?_,by simpa using hl,?_⟩
  ·rw [flatten_one]
  ·intro i x c hx hc
   have hx:l[i]?=some x:=hx
   rw [List.getElem?_map,hx] at hc
   exact (one1_rd h).2 (Option.some.inj hc).symm
def pCopyO (P:Program) (hp:Nat→Option Blk) (t:TypeId) (b:Nat) (e':Ty) (l':List e'.den):Perf:=match P.underlying t,hp b with
 | some (.slice et),some (.row e l tid)=>match (P.info? et).map (·.size),one1 e,Ty.as? (.slice e') (.slice e) l' with
  | some i,some _,some (m:List e.den)=>match Nat.beq i 1 with
   | true=>⟨.val (.int .i64) ((Nat.min m.length l.length:Nat):Int),[(b,some (.row e (m.take l.length++l.drop m.length) tid))],some (l≠[]∧m≠[])⟩
   | false=>.bad
  | _,_,_=>.bad
 | _,_=>.bad
def pCopyX (P:Program) (hp:Nat→Option Blk) (t:TypeId) (x y:AV):Perf:=match x,y with
 | .val .own b,.val (.slice e') l'=>pCopyO P hp t b e' l'
 | x,y=>pCopy P hp t x y
theorem rd_ints' {P:Program} {ρ:Nat→Value} {w:World} {I:Nat→Prop} {n:Nat} {k:IntKind} {l:List Int} (h:l.length=n):Rd P (.arr n (.int k)) false ρ w I l (l.map (Value.int k)):=by
 refine ⟨h,l.map fun x=>[Value.int k x],?_,by simpa using h,?_⟩
 ·rw [flatten_one]
 ·intro i x c hx hc
  have hx:l[i]?=some x:=hx
  rw [List.getElem?_map,hx] at hc
  exact (Option.some.inj hc).symm
section
variable {cx:Cx} {s:St} {o:Oper} {nid:Nat} {c:Ctx}
theorem cutAt_run {P:Program} {w:World} {ρ:Nat→Value} {I:Nat→Prop} {lo:Option AV} {d l:Nat} (h:cutAt lo d=some l) {g:Operand→AV} {f:Operand→Value} (hv:∀ y,RV P ρ w I (g y) (f y)) {x:Option Operand} (hx:lo=x.map g) :
  (x=none∧l=d)∨∃ y k,x=some y∧f y=.int k (l:Int):=by
 subst hx
 cases x with
 | none=>exact .inl ⟨rfl,(Option.some.inj h).symm⟩
 | some y =>
  simp only [Option.map_some] at h
  unfold cutAt at h
  split at h
  ·rename_i hh; cases hh
  ·rename_i k r' hh
   have hk:=cutNat_some h
   have:=hv y
   rw [Option.some.inj hh] at this
   refine .inr ⟨y,k,rfl,?_⟩
   rw [RV_int this]
   exact congrArg _ hk
  ·cases h
theorem ok_sliceA {t:TypeId} {x:Operand} {p:Ptr} {lo hi mx:Option Operand} (ho:o.op=.slice t x lo hi mx) (hx:s.ev x=.val .ptr p):OpOk cx o s nid (pSliceA cx.P t p (lo.map s.ev) (hi.map s.ev) mx.isSome):=by
 unfold pSliceA
 split
 ·rename_i n et hm hu
  split
  ·rename_i l h i hl hh hi'
   split
   ·rename_i hb
    simp only [Bool.and_eq_true] at hb
    obtain ⟨b1,b2,b3,b4,b5⟩:=hb
    have b1:=Nat.eq_of_beq_eq_true b1
    have b2:=Nat.eq_of_beq_eq_true b2
    have b3:=blt_true b3
    have b4:=Nat.le_of_ble_eq_true b4
    have b5:=Nat.le_of_ble_eq_true b5
    subst b2
    refine ok_value rfl fun ρ F a w hM _=>?_
    have h1:=(hM.ev x).1
    rw [hx] at h1
    have hg:=RV_ptr_good h1
    have hv:=RV_ptr h1
    obtain ⟨ad,hs,hq⟩:=hg
    have hpv:a.eval x=.pointer (some (ad.add 0)):=by rw [hv,hq p rfl,b1]
    have hmx:mx=none:=by cases mx <;> simp at hm ⊢
    subst hmx
    have hlo:=cutAt_run hl (fun y=>(hM.ev y).1) (x:=lo) rfl
    have hhi:=cutAt_run hh (fun y=>(hM.ev y).1) (x:=hi) rfl
    have hsb:(Instr.sliceBounds false n n (lo.map a.eval) (hi.map a.eval) none).run cx.P w=.ok (l,h,n) w:=by
     rcases hlo with ⟨rfl,rfl⟩ | ⟨y,k,rfl,hy⟩ <;> rcases hhi with ⟨rfl,rfl⟩ | ⟨z,k',rfl,hz⟩
     ·simp [Instr.sliceBounds]
     ·simp [Instr.sliceBounds,Instr.sliceBound,hz,asIntOf,b5]
     ·simp [Instr.sliceBounds,Instr.sliceBound,hy,asIntOf,b4]
     ·simp [Instr.sliceBounds,Instr.sliceBound,hy,hz,asIntOf,b4,b5]
    have hadd:(ad.add 0).add l=ad.add l:=by
     cases ad
     simp only at hs
     subst hs
     simp [Addr.add]
    obtain ⟨ti,hti,hsz⟩:=Option.map_eq_some_iff.1 hi'
    refine ⟨.slice (some (ad.add l)) (h - l) (n - l),?_,⟨ad,n - l,hs,hq,rfl,by omega⟩,fun b hb=>?_⟩
    ·have hne:¬ n=l:=by omega
     simp only [execOp,ho,hpv,Sem.run_bind,Option.map_none]
     simp [Instr.sliceAt,run_underlying hu,Instr.sureAddr,hsb,sizeOf,typeInfo,hti,hsz,hne,hadd]
    ·have hb:b∈[p.b]:=hb
     rw [List.mem_singleton.1 hb]
     exact (hM.ev x).2 p.b (by rw [hx]; exact List.mem_singleton.2 rfl)
   ·exact bad_ok
  ·exact bad_ok
 ·exact bad_ok
theorem ok_sliceX {t:TypeId} {x:Operand} {lo hi mx:Option Operand} (ho:o.op=.slice t x lo hi mx):OpOk cx o s nid (pSliceX cx.P t (s.ev x) (lo.map s.ev) (hi.map s.ev) mx.isSome):=by
 unfold pSliceX
 split
 ·rename_i p hx
  exact ok_sliceA ho hx
 ·exact ok_slice ho
theorem ok_copyB {x y:Operand} {t t' et:TypeId} {b lo n b' lo' n' N N':Nat} {k:IntKind} {l l':List Int} (ho:o.op=.call { callee:=.builtin .copy,args:=#[x,y],argTypes:=#[t,t'] })
  (hu:cx.P.underlying t=some (.slice et)) (hi:(cx.P.info? et).map (·.size)=some 1) (hx:s.ev x=.win b lo n) (hy:s.ev y=.win b' lo' n')
  (hk:s.hp b=some (.cells (.arr N (.int k)) l)) (hk':s.hp b'=some (.cells (.arr N' (.int k)) l')) (b3:lo+Nat.min n' n≤N) (b4:lo'+Nat.min n' n≤N') :
  OpOk cx o s nid ⟨.val (.int .i64) ((Nat.min n' n:Nat):Int),[(b,some (.cells (.arr N (.int k)) (cpy l lo l' lo' (Nat.min n' n))))],none⟩:=by
 intro ρ F a w next Q hM hnF _ hn
 have h1:=(hM.ev x).1
 have h2:=(hM.ev y).1
 rw [hx] at h1
 rw [hy] at h2
 obtain ⟨ad,cap,s1,q1,v1,_⟩:=h1
 obtain ⟨ad',cap',s2,q2,v2,_⟩:=h2
 obtain ⟨r,tid,cur,e1,e2,e3⟩:=hM.blks b _ hk
 obtain ⟨r',tid',cur',f1,f2,f3⟩:=hM.blks b' _ hk'
 have a1:=win_addr s1 q1 e1
 have a2:=win_addr s2 q2 f1
 subst a1 a2
 rw [add_none,Nat.zero_add] at v1 v2
 obtain ⟨c1,c2⟩:=rd_ints (l:=l) e3
 obtain ⟨d1,d2⟩:=rd_ints (l:=l') f3
 generalize hm:Nat.min n' n=m at *
 have hlen:(((l'.drop lo').take m).map (Value.int k)).length=m:=by
  rw [List.length_map,List.length_take,List.length_drop]
  omega
 have hsize:cur.size=N:=by
  have:cur.size=cur.toList.length:=by simp
  rw [this,c1,List.length_map,c2]
 have hrun:=run_copy_row (P:=cx.P) w t t' o.type et r lo n cap ⟨r',lo',none⟩ n' cap' cur tid (((l'.drop lo').take m).map (Value.int k)) hu hi e2 (by rw [hlen,hm]) (fun j v hj=>by
  rw [add_none,cell_of_row w r' _ cur' tid' _ f2,← Array.getElem?_toList,d1]
  rw [List.getElem?_map,List.getElem?_take] at hj
  rw [List.getElem?_map]
  split at hj
  ·rw [List.getElem?_drop] at hj
   exact hj
  ·cases hj) (by rw [hlen,hsize]; exact b3) (by
  intro v hv
  obtain ⟨u,_,rfl⟩:=List.mem_map.1 hv
  rfl)
 rw [hlen] at hrun
 have hnew:(cur.toList.take lo++((l'.drop lo').take m).map (Value.int k)++cur.toList.drop (lo+m))=(cpy l lo l' lo' m).map (Value.int k):=by
  unfold cpy
  rw [c1]
  simp [List.map_take,List.map_drop]
 have hcl:(cpy l lo l' lo' m).length=N:=by
  unfold cpy
  rw [List.length_append,List.length_append,List.length_take,List.length_take,List.length_drop,List.length_drop]
  omega
 have hreal:real (ρ b)=some r:=by rw [e1]; rfl
 have hset:=M.set hM s.ok hk (k:=.cells (.arr N (.int k)) (cpy l lo l' lo' m)) (w':=w.setRow r (cur.toList.take lo++((l'.drop lo').take m).map (Value.int k)++cur.toList.drop (lo+m)).toArray) rfl ⟨rfl,Nat.le_refl _⟩ rfl (by simp [World.setRow])
  (fun q hq=>setRow_other w r q _ (fun e=>hq (by rw [hreal,e])))
  ⟨r,tid,_,e1,setRow_heap w r cur _ tid _ e2,by rw [hnew]; exact rd_ints' hcl⟩
  (fun c hc=>by
   have e0:(Blk.cells (.arr N (.int k)) (cpy l lo l' lo' m)).refs=[]:=rfl
   rw [e0] at hc
   cases hc) rfl
 unfold Oper.wp
 have hex:(execOp a.eval o).run cx.P w=.ok (.value (goInt m)) (w.setRow r (cur.toList.take lo++((l'.drop lo').take m).map (Value.int k)++cur.toList.drop (lo+m)).toArray):=by
  simp [execOp,ho,resolve,invoke,builtin,v1,v2,hrun]
 rw [hex]
 exact hn ρ (goInt m) _ ((M.put hset o.dst (av:=.val (.int .i64) (m:Int)) ⟨[.int .i64 (m:Int)],rfl,rfl⟩ (fun b hb=>by cases hb) s.ok).widen (fun b hb=>.inl hb))
theorem ok_copy {hp:Nat→Option Blk} (hhp:∀ b k,hp b=some k→s.hp b=some k) {t t':TypeId} {x y:Operand}
  (ho:o.op=.call { callee:=.builtin .copy,args:=#[x,y],argTypes:=#[t,t'] }):OpOk cx o s nid (pCopy cx.P hp t (s.ev x) (s.ev y)):=by
 unfold pCopy
 split
 ·rename_i et b lo n b' lo' n' hu hx hy
  split
  ·rename_i i hi
   unfold pCopyB
   split
   ·rename_i N k l N' k' l' hk hk'
    split
    ·rename_i hb
     simp only [Bool.and_eq_true] at hb
     obtain ⟨b1,b2,b3,b4⟩:=hb
     obtain rfl:=of_decide_eq_true b1
     have b2:=Nat.eq_of_beq_eq_true b2
     subst b2
     exact ok_copyB ho hu hi hx hy (hhp _ _ hk) (hhp _ _ hk') (Nat.le_of_ble_eq_true b3) (Nat.le_of_ble_eq_true b4)
    ·exact bad_ok
   ·exact bad_ok
  ·exact bad_ok
 ·exact bad_ok
theorem ok_copyO {x y:Operand} {t t' et:TypeId} {b:Nat} {e:Ty} {l m:List e.den} {tid:TypeId} {f:e.den→Value} (ho:o.op=.call { callee:=.builtin .copy,args:=#[x,y],argTypes:=#[t,t'] })
  (hu:cx.P.underlying t=some (.slice et)) (hi:(cx.P.info? et).map (·.size)=some 1) (hf:one1 e=some f) (hx:s.ev x=.val .own b) (hy:s.ev y=.val (.slice e) m) (hk:s.hp b=some (.row e l tid)) :
  OpOk cx o s nid ⟨.val (.int .i64) ((Nat.min m.length l.length:Nat):Int),[(b,some (.row e (m.take l.length++l.drop m.length) tid))],some (l≠[]∧m≠[])⟩:=by
 intro ρ F a w next Q hM hnF hob hn
 obtain ⟨hl0,hm0⟩:l≠[]∧m≠[]:=hob
 have h1:=(hM.ev x).1
 have h2:=(hM.ev y).1
 rw [hx] at h1
 rw [hy] at h2
 have v1:=RV_own h1
 obtain ⟨xs,⟨hxl,hr⟩,hrd⟩:=hM.blks b _ hk
 rcases hr with ⟨A,_,hn0⟩ | ⟨g,cap,cur,e1,hc0,hb0,e2,hle,hmx,hsz,htk⟩
 ·exact absurd (List.length_eq_zero_iff.1 hn0) hl0
 obtain ⟨c2,v2,A,cap',hc2,hle',hel⟩:=h2
 subst hc2
 rcases hel with h | ⟨ad,hA,hsp,hIad,hadlt,hel⟩
 ·exact absurd h hm0
 subst hA
 have v2:a.eval y=.slice (some ad) m.length cap':=v2
 rw [one1_size hf,Nat.mul_one] at hsz htk hxl
 obtain ⟨hxs,_⟩:=(one1_arr hf).1 hrd
 generalize hcs:(m.take l.length).map f=cs
 have hlen:cs.length=Nat.min m.length l.length:=by
  rw [← hcs,List.length_map,List.length_take]
  exact Nat.min_comm _ _
 have hmin:Nat.min m.length l.length≤l.length:=Nat.min_le_right _ _
 have hrun:=run_copy_row (P:=cx.P) w t t' o.type et g 0 l.length cap ad m.length cap' cur tid cs hu hi e2 hlen (fun j v hj=>by
  rw [← hcs,List.getElem?_map,List.getElem?_take] at hj
  split at hj
  ·rename_i hjl
   obtain ⟨z,hz,rfl⟩:=Option.map_eq_some_iff.1 hj
   obtain ⟨c,hc1,hc2⟩:=hel j z hz
   have hc3:=(one1_rd hf).1 hc2
   subst hc3
   have:=hc1 0 (f z) rfl
   rw [one1_size hf,Nat.mul_one] at this
   have hadd:(ad.add j).add 0=ad.add j:=by
    cases ad
    simp only at hsp
    subst hsp
    simp [Addr.add]
   rw [hadd] at this
   exact this
  ·cases hj) (by rw [hlen]; omega) (by
  intro v hv
  rw [← hcs] at hv
  obtain ⟨u,_,rfl⟩:=List.mem_map.1 hv
  exact one1_one hf u)
 rw [List.take_zero,List.nil_append,Nat.zero_add] at hrun
 have hnl:(m.take l.length++l.drop m.length).length=l.length:=by
  rw [List.length_append,List.length_take,List.length_drop]
  omega
 have hcur:cur.toList.length=cap:=by simpa using hsz
 have hnew:(cs++cur.toList.drop cs.length).take l.length=(m.take l.length++l.drop m.length).map f:=by
  have hc1:cs.length≤l.length:=by rw [hlen]; exact hmin
  rw [List.take_append,List.take_of_length_le hc1,List.map_append,hcs]
  congr 1
  rw [← List.drop_take,htk,hxs,List.map_drop]
  by_cases hh:m.length≤l.length
  ·rw [hlen,show Nat.min m.length l.length=m.length from Nat.min_eq_left hh]
  ·rw [hlen,show Nat.min m.length l.length=l.length from Nat.min_eq_right (by omega),List.drop_of_length_le (by rw [List.length_map]; exact Nat.le_refl _),List.drop_of_length_le (by rw [List.length_map]; omega)]
 have hreal:real (ρ b)=some g:=by rw [e1]; exact real_slice hc0
 have hset:=M.set hM s.ok hk (k:=.row e (m.take l.length++l.drop m.length) tid) (w':=w.setRow g (cs++cur.toList.drop cs.length).toArray) rfl ⟨rfl,Nat.le_refl _⟩ rfl (by simp [World.setRow])
  (fun q hq=>setRow_other w g q _ (fun e=>hq (by rw [hreal,e])))
  ⟨(m.take l.length++l.drop m.length).map f,⟨by rw [List.length_map,one1_size hf,Nat.mul_one],.inr ⟨g,cap,(cs++cur.toList.drop cs.length).toArray,by rw [hnl]; exact e1,hc0,hb0,setRow_heap w g cur _ tid _ e2,by rw [hnl]; exact hle,hmx,by
    rw [one1_size hf,Nat.mul_one,List.size_toArray,List.length_append,List.length_drop,hcur]
    have:=hlen
    omega,by rw [hnl,one1_size hf,Nat.mul_one]; exact hnew⟩⟩,(one1_arr hf).2 ⟨rfl,rfl⟩⟩
  (fun c hc=>by
   rw [one1_refs hf] at hc
   cases hc) rfl
 unfold Oper.wp
 have hex:(execOp a.eval o).run cx.P w=.ok (.value (goInt (Nat.min m.length l.length))) (w.setRow g (cs++cur.toList.drop cs.length).toArray):=by
  rw [hlen] at hrun
  rw [← hlen] at *
  simp [execOp,ho,resolve,invoke,builtin,v1,v2,e1,hrun]
 rw [hex]
 exact hn ρ (goInt (Nat.min m.length l.length)) _ ((M.put hset o.dst (av:=.val (.int .i64) ((Nat.min m.length l.length:Nat):Int)) ⟨[.int .i64 ((Nat.min m.length l.length:Nat):Int)],rfl,rfl⟩ (fun b hb=>by cases hb) s.ok).widen (fun b hb=>.inl hb))
theorem ok_copyX {hp:Nat→Option Blk} (hhp:∀ b k,hp b=some k→s.hp b=some k) {t t':TypeId} {x y:Operand}
  (ho:o.op=.call { callee:=.builtin .copy,args:=#[x,y],argTypes:=#[t,t'] }):OpOk cx o s nid (pCopyX cx.P hp t (s.ev x) (s.ev y)):=by
 unfold pCopyX
 split
 ·rename_i b e' l' hx hy
  unfold pCopyO
  split
  ·rename_i et e l tid hu hk
   split
   ·rename_i i f m hi hf hm
    split
    ·rename_i hb
     have:=Nat.eq_of_beq_eq_true hb
     subst this
     obtain ⟨hee,hmm⟩:=Ty.as?_some hm
     cases hee
     subst hmm
     exact ok_copyO ho hu hi hf hx hy (hhp _ _ hk)
    ·exact bad_ok
   ·exact bad_ok
  ·exact bad_ok
 ·exact ok_copy hhp ho
end
end Go.Sx
namespace Go.Sx
def leafT (P:Program) (t:TypeId):Ty→Nat→Option Ty
 | .pair a b,off=>match Nat.beq off 0 && tyOk P t (.pair a b) with
  | true=>some (.pair a b)
  | false=>match Nat.blt off a.size with
   | true=>leafT P t a off
   | false=>leafT P t b (off - a.size)
 | ty,off=>match Nat.beq off 0 && tyOk P t ty with
  | true=>some ty
  | false=>none
theorem leafT_ok {P:Program} {t:TypeId}:∀ {ty:Ty} {off:Nat} {l:Ty},leafT P t ty off=some l→tyOk P t l=true:=by
 intro ty
 have base:∀ (ty:Ty) (off:Nat) (l:Ty),(match Nat.beq off 0 && tyOk P t ty with | true=>some ty | false=>none)=some l→tyOk P t l=true:=by
  intro ty off l h
  split at h
  ·rename_i hb
   obtain rfl:=Option.some.inj h
   simp only [Bool.and_eq_true] at hb
   exact hb.2
  ·cases h
 induction ty with
 | pair a b iha ihb =>
  intro off l h
  unfold leafT at h
  split at h
  ·rename_i hb
   obtain rfl:=Option.some.inj h
   simp only [Bool.and_eq_true] at hb
   exact hb.2
  ·split at h
   ·exact iha h
   ·exact ihb h
 | _=>intro off l h; exact base _ off l h
def getL (P:Program) (t:TypeId) (ty:Ty) (x:ty.den) (off:Nat):Option TV:=match leafT P t ty off with
 | some l=>match comp ty x off l with
  | some y=>some ⟨l,y⟩
  | none=>none
 | none=>none
def useL (c:Ctx) (t:TypeId) (k:Blk) (p:Ptr):Bool:=match k with
 | .cells _ _=>match Nat.beq p.es 0 with
  | true=>match find c.T t with
   | some ty=>match (getP k p ty).1 with
    | some _=>false
    | none=>true
   | none=>true
  | false=>false
 | _=>false
def tvAV (v:TV):AV:=match v.t with
 | .nil=>.nil
 | _=>.val v.t v.x
def pLoadX (P:Program) (c:Ctx) (hp:Nat→Option Blk) (t:TypeId) (x:AV):Perf :=
 match x with
 | .val .ptr p=>match hp p.b with
  | some k=>match useL c t k p with
   | true=>match k with
    | .cells ty y=>match getL P t ty y (p.off+p.inner) with
     | some v=>.of (tvAV v)
     | none=>.bad
    | _=>.bad
   | false=>pLoad c hp t (.val .ptr p)
  | none=>.bad
 | av=>pLoad c hp t av
def setX:(t:Ty)→t.den→Nat→(l:Ty)→TV→Option TV
 | .pair a b,x,off,l,v =>
  match Nat.beq off 0 && (Ty.pair a b).same l with
  | true=>some v
  | false=>match Nat.blt off a.size with
   | true=>(setX a x.1 off l v).map fun u=>⟨.pair u.t b,(u.x,x.2)⟩
   | false=>(setX b x.2 (off - a.size) l v).map fun u=>⟨.pair a u.t,(x.1,u.x)⟩
 | t,_,off,l,v=>match Nat.beq off 0 && t.same l with
  | true=>some v
  | false=>none
def valTV (c:Ctx) (t:TypeId) (av:AV):Option TV:=match av with
 | .val t' y=>some ⟨t',y⟩
 | .nil=>match find c.T t with
  | some (.slice e)=>some ⟨.slice e,([]:List e.den)⟩
  | _=>none
 | _=>none
def useS (c:Ctx) (t:TypeId) (k:Blk) (p:Ptr) (y:AV):Bool:=match k with
 | .cells _ _=>match Nat.beq p.es 0 with
  | true=>match find c.T t with
   | some ty=>match coe ty y with
    | some z=>match (setP k p ty z).1 with
     | some _=>false
     | none=>true
    | none=>true
   | none=>true
  | false=>false
 | _=>false
def pStoreL (P:Program) (c:Ctx) (t:TypeId) (k:Blk) (p:Ptr) (y:AV):Perf:=match k with
 | .cells ty x=>match leafT P t ty (p.off+p.inner),valTV c t y with
  | some l,some v=>match tyOk P t v.t && Nat.beq p.es 0 with
   | true=>match setX ty x (p.off+p.inner) l v with
    | some u=>⟨.undef,[(p.b,some (.cells u.t u.x))],none⟩
    | none=>.bad
   | false=>.bad
  | _,_=>.bad
 | _=>.bad
def pStoreX (P:Program) (c:Ctx) (hp:Nat→Option Blk) (t:TypeId) (x y:AV):Perf :=
 match x with
 | .val .ptr p=>match hp p.b with
  | some k=>match useS c t k p y with
   | true=>pStoreL P c t k p y
   | false=>pStore c hp t (.val .ptr p) y
  | none=>.bad
 | av=>pStore c hp t av y
theorem tvAV_rv {P:Program} {ρ:Nat→Value} {w:World} {I:Nat→Prop} {t:Ty} {y:t.den} {u:Value} (h:RdV P t ρ w I y u):RV P ρ w I (tvAV ⟨t,y⟩) u:=by
 cases t with
 | nil =>
  obtain ⟨c,rfl,hc⟩:=h
  have hc:c=[.slice none 0 0]:=hc
  subst hc
  rfl
 | _=>exact h
theorem tvAV_refs {t:Ty} {y:t.den}:(tvAV ⟨t,y⟩).refs=t.refs y:=by cases t <;> rfl
section
variable {P:Program} {ρ:Nat→Value} {w:World} {I:Nat→Prop}
theorem setX_sound:∀ {t:Ty} {x:t.den} {off:Nat} {l:Ty} {v u:TV} {cs c':List Value},Rd P t false ρ w I x cs→setX t x off l v=some u→Rd P v.t false ρ w I v.x c'→v.t.size=l.size →
  ∃ pre c post,cs=pre++c++post∧pre.length=off∧c.length=c'.length∧Rd P u.t false ρ w I u.x (pre++c'++post):=by
 intro t
 have base:∀ (t:Ty) (x:t.den) (off:Nat) (l:Ty) (v u:TV) (cs c':List Value),Rd P t false ρ w I x cs→(match Nat.beq off 0 && t.same l with | true=>some v | false=>none)=some u →
   Rd P v.t false ρ w I v.x c'→v.t.size=l.size→∃ pre c post,cs=pre++c++post∧pre.length=off∧c.length=c'.length∧Rd P u.t false ρ w I u.x (pre++c'++post):=by
  intro t x off l v u cs c' h hc hy hs
  split at hc
  ·rename_i ho
   simp only [Bool.and_eq_true] at ho
   obtain rfl:=Ty.same_eq ho.2
   obtain rfl:=Option.some.inj hc
   exact ⟨[],cs,[],by simp,by simp [Nat.eq_of_beq_eq_true ho.1],by rw [h.length,hy.length,hs],by simpa using hy⟩
  ·cases hc
 induction t with
 | pair a b iha ihb =>
  intro x off l v u cs c' h hc hy hs
  unfold setX at hc
  split at hc
  ·rename_i ho
   simp only [Bool.and_eq_true] at ho
   obtain rfl:=Ty.same_eq ho.2
   obtain rfl:=Option.some.inj hc
   exact ⟨[],cs,[],by simp,by simp [Nat.eq_of_beq_eq_true ho.1],by rw [h.length,hy.length,hs],by simpa using hy⟩
  ·obtain ⟨c1,c2,rfl,h1,h2⟩:=h
   split at hc
   ·obtain ⟨z,hz,rfl⟩:=Option.map_eq_some_iff.1 hc
    obtain ⟨pre,c,post,rfl,hl,hl',hr⟩:=iha h1 hz hy hs
    exact ⟨pre,c,post++c2,by simp,hl,hl',⟨pre++c'++post,c2,by simp,hr,h2⟩⟩
   ·rename_i hlt
    obtain ⟨z,hz,rfl⟩:=Option.map_eq_some_iff.1 hc
    obtain ⟨pre,c,post,rfl,hl,hl',hr⟩:=ihb h2 hz hy hs
    refine ⟨c1++pre,c,post,by simp,?_,hl',⟨c1,pre++c'++post,by simp,h1,hr⟩⟩
    have h1l:=h1.length
    simp only [List.length_append,hl,h1l]
    have:=blt_false hlt
    omega
 | _=>intro x off l v u cs c' h hc hy hs; exact base _ x off l v u cs c' h hc hy hs
theorem setX_same:∀ {t:Ty} {x:t.den} {off:Nat} {l:Ty} {y:l.den} {v u:TV} {cs:List Value},Rd P t false ρ w I x cs→comp t x off l=some y→setX t x off l v=some u→(∀ c,Rd P l false ρ w I y c→Rd P v.t false ρ w I v.x c) →
  Rd P u.t false ρ w I u.x cs:=by
 intro t
 have base:∀ (t:Ty) (x:t.den) (off:Nat) (l:Ty) (y:l.den) (v u:TV) (cs:List Value),Rd P t false ρ w I x cs→(match Nat.beq off 0 with | true=>Ty.as? t l x | false=>none)=some y→(match Nat.beq off 0 && t.same l with | true=>some v | false=>none)=some u →
   (∀ c,Rd P l false ρ w I y c→Rd P v.t false ρ w I v.x c)→Rd P u.t false ρ w I u.x cs:=by
  intro t x off l y v u cs h hc hs hv
  split at hc
  ·obtain ⟨rfl,rfl⟩:=Ty.as?_some hc
   split at hs
   ·obtain rfl:=Option.some.inj hs
    exact hv _ h
   ·cases hs
  ·cases hc
 induction t with
 | pair a b iha ihb =>
  intro x off l y v u cs h hc hs hv
  unfold comp at hc
  unfold setX at hs
  split at hc
  ·rename_i ho
   rw [ho] at hs
   obtain ⟨rfl,rfl⟩:=Ty.as?_some hc
   obtain rfl:=Option.some.inj hs
   exact hv _ h
  ·rename_i ho
   rw [ho] at hs
   simp only at hs
   obtain ⟨c1,c2,rfl,h1,h2⟩:=h
   split at hc
   ·rename_i hlt
    rw [hlt] at hs
    obtain ⟨z,hz,rfl⟩:=Option.map_eq_some_iff.1 hs
    exact ⟨c1,c2,rfl,iha h1 hc hz hv,h2⟩
   ·rename_i hlt
    rw [hlt] at hs
    obtain ⟨z,hz,rfl⟩:=Option.map_eq_some_iff.1 hs
    exact ⟨c1,c2,rfl,h1,ihb h2 hc hz hv⟩
 | _=>intro x off l y v u cs h hc hs hv; exact base _ x off l y v u cs h hc hs hv
theorem setX_refs:∀ {t:Ty} {x:t.den} {off:Nat} {l:Ty} {v u:TV},setX t x off l v=some u→∀ b∈u.t.refs u.x,b∈t.refs x∨b∈v.t.refs v.x:=by
 intro t
 have base:∀ (t:Ty) (x:t.den) (off:Nat) (l:Ty) (v u:TV),(match Nat.beq off 0 && t.same l with | true=>some v | false=>none)=some u→∀ b∈u.t.refs u.x,b∈t.refs x∨b∈v.t.refs v.x:=by
  intro t x off l v u hc b hb
  split at hc
  ·obtain rfl:=Option.some.inj hc
   exact .inr hb
  ·cases hc
 induction t with
 | pair p q ihp ihq =>
  intro x off l v u hc b hb
  unfold setX at hc
  split at hc
  ·obtain rfl:=Option.some.inj hc
   exact .inr hb
  ·split at hc
   ·obtain ⟨z,hz,rfl⟩:=Option.map_eq_some_iff.1 hc
    rcases List.mem_append.1 hb with hb | hb
    ·rcases ihp hz b hb with h | h
     ·exact .inl (List.mem_append.2 (.inl h))
     ·exact .inr h
    ·exact .inl (List.mem_append.2 (.inr hb))
   ·obtain ⟨z,hz,rfl⟩:=Option.map_eq_some_iff.1 hc
    rcases List.mem_append.1 hb with hb | hb
    ·exact .inl (List.mem_append.2 (.inl hb))
    ·rcases ihq hz b hb with h | h
     ·exact .inl (List.mem_append.2 (.inr h))
     ·exact .inr h
 | _=>intro x off l v u hc b hb; exact base _ x off l v u hc b hb
theorem valTV_sound {c:Ctx} {t:TypeId} {av:AV} {v:TV} {u:Value} (h:RV P ρ w I av u) (hc:valTV c t av=some v):RdV P v.t ρ w I v.x u∧∀ b∈v.t.refs v.x,b∈av.refs:=by
 unfold valTV at hc
 split at hc
 ·obtain rfl:=Option.some.inj hc
  exact ⟨h,fun b hb=>hb⟩
 ·split at hc
  ·obtain rfl:=Option.some.inj hc
   have h:u=.slice none 0 0:=h
   subst h
   exact ⟨⟨[.slice none 0 0],rfl,none,0,rfl,Nat.le_refl _,.inl rfl⟩,fun b hb=>by cases hb⟩
  ·cases hc
 ·cases hc
end
section
variable {cx:Cx} {s:St} {o:Oper} {nid:Nat} {c:Ctx}
theorem ok_loadX {hp:Nat→Option Blk} (hhp:∀ b k,hp b=some k→s.hp b=some k) {t:TypeId} {x:Operand} (ho:o.op=.load t x) (hT:TOk cx.P c) :
  OpOk cx o s nid (pLoadX cx.P c hp t (s.ev x)):=by
 unfold pLoadX
 split
 ·rename_i p hx
  split
  ·rename_i k hk
   split
   ·rename_i hu
    split
    ·rename_i ty y
     split
     ·rename_i v hv
      have hes:Nat.beq p.es 0=true:=by
       unfold useL at hu
       simp only at hu
       split at hu
       ·assumption
       ·cases hu
      unfold getL at hv
      split at hv
      ·rename_i l hl
       split at hv
       ·rename_i z hz
        obtain rfl:=Option.some.inj hv
        have hty:=leafT_ok hl
        have hgp:getP (.cells ty y) p l=(some z,none):=by
         unfold getP
         simp only [hes,hz]
        refine ok_value rfl fun ρ F a w hM hob=>?_
        have h1:=(hM.ev x).1
        rw [hx] at h1
        have h1:=RV_ptr h1
        obtain ⟨r,tid,cur,pre,cc,post,_,h2,h3,h4,h5,h5r⟩:=place_sound (hM.blks p.b _ (hhp _ _ hk)) hgp trivial
        have h6:CellsAt w ⟨r,pre.length,none⟩ cc:=CellsAt_of_row h3 h4
        have hlen:cc.length=l.size:=h5.length
        refine ⟨mkV l cc,?_,?_,?_⟩
        ·simp only [execOp,ho,h1,h2,Sem.run_bind,run_loadAt hty h6 hlen,Result.andThen_ok,Sem.run_pure]
        ·exact tvAV_rv ⟨cc,rfl,h5⟩
        ·exact fun b hb=>(hM.brefs _ _ (hhp _ _ hk)).2 b (h5r b (by have hb:b∈(tvAV ⟨l,z⟩).refs:=hb; rw [tvAV_refs] at hb; exact hb))
       ·cases hv
      ·cases hv
     ·exact bad_ok
    ·exact bad_ok
   ·rw [← hx]
    exact ok_load hhp ho hT
  ·exact bad_ok
 ·exact ok_load hhp ho hT
theorem ok_storeX {hp:Nat→Option Blk} (hhp:∀ b k,hp b=some k→s.hp b=some k) {t:TypeId} {x y:Operand} (ho:o.op=.store t x y) (hT:TOk cx.P c) :
  OpOk cx o s nid (pStoreX cx.P c hp t (s.ev x) (s.ev y)):=by
 unfold pStoreX
 split
 ·rename_i p hx
  split
  ·rename_i k hk
   split
   ·unfold pStoreL
    split
    ·rename_i ty x0
     split
     ·rename_i l v hl hv
      split
      ·rename_i hb
       simp only [Bool.and_eq_true] at hb
       split
       ·rename_i u hset
        have hes:=Nat.eq_of_beq_eq_true hb.2
        intro ρ F a w next Q hM hnF hob hn
        have h1:=(hM.ev x).1
        rw [hx] at h1
        have h1:=RV_ptr h1
        obtain ⟨h2,h3⟩:=valTV_sound (hM.ev y).1 hv
        have h4:=RdV.cells h2 hM.rho
        obtain ⟨i,d,hi,hs,_,_⟩:=tyOk_sound hb.1
        obtain ⟨i',d',hi',hs',_,_⟩:=tyOk_sound (leafT_ok hl)
        obtain rfl:i=i':=Option.some.inj (hi.symm.trans hi')
        obtain ⟨r,tid,cur,hpv,hcur,hrd⟩:=hM.blks p.b _ (hhp _ _ hk)
        obtain ⟨pre,cc,post,e1,e2,e3,e4⟩:=setX_sound hrd hset h4 (by rw [← hs,← hs'])
        have hptr:p.val ρ=.pointer (some ⟨r,pre.length,none⟩):=by
         unfold Ptr.val
         rw [hpv]
         simp only [add_none,Ptr.co,e2,hes,Nat.zero_add,Nat.mul_zero,Nat.add_zero]
        have hreal:real (ρ p.b)=some r:=by rw [hpv]; rfl
        have hrun:=run_storeAt (P:=cx.P) hi (v:=a.eval y) hcur e1 rfl (by simpa using e3) (by rw [hs,← h4.length]; simp) (h4.one hM.rho)
        have hset':=M.set hM s.ok (hhp _ _ hk) (k:=.cells u.t u.x) (w':=w.setRow r (pre++(a.eval y).cells.toList++post).toArray) rfl ⟨rfl,Nat.le_refl _⟩ rfl (by simp [World.setRow]) (fun q hq=>by
          exact setRow_other w r q _ (fun e=>hq (by rw [hreal,e])))
         ⟨r,tid,_,hpv,setRow_heap w r cur _ tid _ hcur,by
          exact e4.mono ⟨by simp [World.setRow],fun q _ hq=>setRow_other w r q _ (fun e=>hq.2 p.b _ (hhp _ _ hk) (by rw [hreal,e]))⟩ (fun _ _ h=>h)⟩
         (fun b hb=>by
          rcases setX_refs hset b hb with h | h
          ·exact (hM.brefs _ _ (hhp _ _ hk)).2 b h
          ·exact (hM.ev y).2 b (h3 b h)) rfl
        unfold Oper.wp
        have:(execOp a.eval o).run cx.P w=.ok .skip (w.setRow r (pre++(a.eval y).cells.toList++post).toArray):=by
         simp only [execOp,ho,h1,hptr,Sem.run_bind,hrun,Result.andThen_ok,Sem.run_pure]
        rw [this]
        exact hn ρ undef _ ((M.put hset' o.dst (av:=.undef) trivial (fun b hb=>by cases hb) s.ok).widen (fun b hb=>.inl hb))
       ·exact bad_ok
      ·exact bad_ok
     ·exact bad_ok
    ·exact bad_ok
   ·rw [← hx]
    exact ok_store hhp ho hT
  ·exact bad_ok
 ·exact ok_store hhp ho hT
def pPartsX (P:Program) (c:Ctx) (fs:Array Field):TV→List (Nat × AV)→Option TV
 | u,[]=>some u
 | u,(i,av) :: r=>match fs[i]? with
  | some f=>match valTV c f.type av,leafT P f.type u.t f.offset with
   | some v,some l=>match tyOk P f.type v.t with
    | true=>match setX u.t u.x f.offset l v with
     | some u'=>pPartsX P c fs u' r
     | none=>none
    | false=>none
   | _,_=>none
  | none=>none
def pBuildX (P:Program) (c:Ctx) (t:TypeId) (parts:List (Nat × AV)):Perf:=match c.nz,P.underlying t with
 | true,some (.struct fs)=>match find c.T t with
  | some ty=>match zeroOk P t (ty.nilz true) with
   | true=>match placesOf P fs.toList with
    | some _=>match pPartsX P c fs ⟨ty.nilz true,(ty.nilz true).zero⟩ parts with
     | some u=>match tyOk P t u.t with
      | true=>.of (.val u.t u.x)
      | false=>.bad
     | none=>.bad
    | none=>.bad
   | false=>.bad
  | none=>.bad
 | _,_=>pBuild P c t parts
def pFieldX (P:Program) (c:Ctx) (s:TypeId) (x:AV) (f:Nat):Perf:=match c.nz,x with
 | true,.val (.pair p q) y=>match fieldOf P s f with
  | some (off,ft)=>match getL P ft (.pair p q) y off with
   | some v=>.of (tvAV v)
   | none=>.bad
  | none=>.bad
 | _,x=>pField P c s x f
theorem partsX_sound {ρ:Nat→Value} {F:Nat→Prop} {a:Act} {w:World} (hM:M cx ρ F s a w) {fs:Array Field} {places:List (Nat × Nat)} (hpl:placesOf cx.P fs.toList=some places):∀ {ps:List (Nat × Operand)} {u u':TV} {cells:Array Value},
  pPartsX cx.P c fs u (ps.map fun p=>(p.1,s.ev p.2))=some u'→Rd cx.P u.t false ρ w (cx.I ρ s) u.x cells.toList→(∀ b∈u.t.refs u.x,F b) →
  ∃ cells',Instr.fill (places.toArray[·]?) cells (ps.map fun p=>(p.1,a.eval p.2))=some cells'∧Rd cx.P u'.t false ρ w (cx.I ρ s) u'.x cells'.toList∧(∀ b∈u'.t.refs u'.x,F b):=by
 intro ps
 induction ps with
 | nil =>
  intro u u' cells h hr hF
  obtain rfl:=Option.some.inj h
  exact ⟨cells,rfl,hr,hF⟩
 | cons p ps ih =>
  intro u u' cells h hr hF
  simp only [List.map_cons] at h
  unfold pPartsX at h
  split at h
  ·rename_i f hf
   split at h
   ·rename_i v l hv hl
    split at h
    ·rename_i htv
     split at h
     ·rename_i u1 hu1
      obtain ⟨hyv,hyr⟩:=valTV_sound (hM.ev p.2).1 hv
      obtain ⟨i,_,hi,hsz,_⟩:=tyOk_sound (leafT_ok hl)
      obtain ⟨i',_,hi',hsz',_⟩:=tyOk_sound htv
      obtain rfl:i=i':=Option.some.inj (hi.symm.trans hi')
      obtain ⟨pre,ci,post,h1,h2,h3,h4⟩:=setX_sound hr hu1 (RdV.cells hyv hM.rho) (by rw [← hsz,← hsz'])
      have hplace:places.toArray[p.1]?=some (f.offset,v.t.size):=by
       have hf':fs.toList[p.1]?=some f:=by simpa using hf
       have key:∀ (l:List Field) (pl:List (Nat × Nat)),placesOf cx.P l=some pl→∀ (j:Nat) (g:Field),l[j]?=some g→pl[j]?=(cx.P.info? g.type).map fun i=>(g.offset,i.size):=by
        intro l
        induction l with
        | nil=>intro pl _ j g hg; simp at hg
        | cons f0 l ihl =>
         intro pl hpl j g hg
         unfold placesOf at hpl
         rw [List.mapM_cons] at hpl
         simp only [Option.bind_eq_bind,Option.pure_def] at hpl
         obtain ⟨q,hq,hpl⟩:=Option.bind_eq_some_iff.1 hpl
         obtain ⟨rest,hrest,hpl⟩:=Option.bind_eq_some_iff.1 hpl
         obtain rfl:=Option.some.inj hpl
         cases j with
         | zero =>
          simp only [List.getElem?_cons_zero,Option.some.injEq] at hg ⊢
          subst hg
          exact hq.symm
         | succ j=>simpa using ihl rest hrest j g (by simpa using hg)
       have:=key _ _ hpl _ _ hf'
       rw [hi] at this
       simpa [hsz'] using this
      obtain ⟨cells',hfl,hc'⟩:=fill_step (place:=(places.toArray[·]?)) (i:=p.1) (v:=a.eval p.2) (rest:=ps.map fun p=>(p.1,a.eval p.2)) hplace (mkV_cells_size hyv hM.rho) h1 (by rw [h3]; exact (RdV.cells hyv hM.rho).length) h2
      rw [← hc'] at h4
      have hF':∀ b∈u1.t.refs u1.x,F b:=by
       intro b hb
       rcases setX_refs hu1 b hb with h | h
       ·exact hF b h
       ·exact (hM.ev p.2).2 b (hyr b h)
      obtain ⟨cells'',hf',hr'',hF''⟩:=ih h h4 hF'
      refine ⟨cells'',?_,hr'',hF''⟩
      rw [List.map_cons,hfl]
      exact hf'
     ·cases h
    ·cases h
   ·cases h
  ·cases h
theorem ok_buildX {t:TypeId} {parts:Array (Nat × Operand)} (ho:o.op=.build t parts) (hT:TOk cx.P c):OpOk cx o s nid (pBuildX cx.P c t (parts.toList.map fun p=>(p.1,s.ev p.2))):=by
 unfold pBuildX
 split
 ·rename_i fs hnz hu
  split
  ·rename_i ty hty
   split
   ·rename_i hz
    split
    ·rename_i places hpl
     split
     ·rename_i u hu'
      split
      ·rename_i htu
       refine ok_value rfl fun ρ F a w hM _=>?_
       obtain ⟨i,z,hi,hzz,hR⟩:=zeroOk_sound (P:=cx.P) (ρ:=ρ) (w:=w) (I:=cx.I ρ s) hz
       obtain ⟨cells,hf,hr,hF⟩:=partsX_sound hM hpl hu' hR (fun b hb=>by rw [refs_zeroOk hz] at hb; cases hb)
       have hagg:u.t.agg=true:=by
        unfold tyOk at htu
        rw [hi,hu] at htu
        simp only [Bool.and_eq_true] at htu
        exact htu.2
       refine ⟨.agg cells,?_,RdV_agg hagg hr,hF⟩
       have hb:cx.P.built t (parts.map fun (i,x)=>(i,a.eval x)).toList=some cells:=by
        rw [map_parts]
        unfold Program.built
        unfold placesOf at hpl
        simp only [hi,hu,hzz,hpl]
        exact hf
       simp only [execOp,ho,Sem.run_bind,run_build w t _ cells hb,Result.andThen_ok,Sem.run_pure]
      ·exact bad_ok
     ·exact bad_ok
    ·exact bad_ok
   ·exact bad_ok
  ·exact bad_ok
 ·exact ok_build ho hT
theorem ok_fieldX {t:TypeId} {x:Operand} {f:Nat} (ho:o.op=.field t x f) (hT:TOk cx.P c):OpOk cx o s nid (pFieldX cx.P c t (s.ev x) f):=by
 unfold pFieldX
 split
 ·rename_i p q y _ hx
  split
  ·rename_i off ft hf
   split
   ·rename_i v hv
    unfold getL at hv
    split at hv
    ·rename_i l hl
     split at hv
     ·rename_i z hz
      obtain rfl:=Option.some.inj hv
      have hty:=leafT_ok hl
      obtain ⟨fs,fd,g1,g2,g3,g4⟩:=fieldOf_sound hf
      refine ok_value rfl fun ρ F a w hM _=>?_
      have h1:=hM.ev x
      rw [hx] at h1
      obtain ⟨⟨cs,h2,h3⟩,h4⟩:=h1
      obtain ⟨pre,cc,post,h5,h6,h7⟩:=comp_sound h3 hz
      have hag:a.eval x=.agg cs.toArray:=h2
      have hp:=run_part (P:=cx.P) (w:=w) hty (cs:=cs.toArray) (by simpa using h5) h7.length
      rw [h6] at hp
      subst g3
      subst g4
      refine ⟨mkV l cc,?_,tvAV_rv ⟨cc,rfl,h7⟩,fun b hb=>h4 b (refs_comp hz b (by have hb:b∈(tvAV ⟨l,z⟩).refs:=hb; rw [tvAV_refs] at hb; exact hb))⟩
      simp [execOp,ho,hag,Instr.field,run_underlying g1,g2,asAgg,hp]
     ·cases hv
    ·cases hv
   ·exact bad_ok
  ·exact bad_ok
 ·exact ok_field ho hT
def pSliceO (P:Program) (c:Ctx) (hp:Nat→Option Blk) (nid:Nat) (t:TypeId) (b:Nat) (lo hi:Option AV) (mx:Bool):Perf :=
 match hp b with
 | some (.row e l tid)=>match mx,lo,P.underlying t,cutIx (l.length:Int) hi with
  | false,none,some (.slice et),some n=>match Nat.ble c.pin b,(P.info? et).map (·.size) with
   | true,some _=>⟨.val .own nid,[(b,none),(nid,some (.row e (l.take n.toNat) tid))],some (0≤n∧n≤(l.length:Int))⟩
   | _,_=>.bad
  | _,_,_,_=>.bad
 | _=>.bad
theorem Rd.arr_take {P:Program} {w:World} {I:Nat→Prop} {e:Ty} {l:List e.den} {xs:List Value} {m:Nat} (hrd:Rd P (.arr l.length e) false ρ0 w I l xs):Rd P (.arr (l.take m).length e) false ρ0 w I (l.take m) (xs.take (m*e.size)):=by
 obtain ⟨hl1,css,rfl,hcl,hall⟩:=hrd
 refine ⟨rfl,css.take m,?_,by rw [List.length_take,List.length_take,hcl],fun j y cc hy hc=>?_⟩
 ·have hsz:∀ c∈css,c.length=e.size:=by
   intro c hc
   obtain ⟨j,hj,rfl⟩:=List.getElem_of_mem hc
   have hj':j<l.length:=by omega
   exact (hall j (l[j]) (css[j]) (List.getElem?_eq_getElem hj') (List.getElem?_eq_getElem hj)).length
  have:∀ (css:List (List Value)) (m:Nat),(∀ c∈css,c.length=e.size)→css.flatten.take (m*e.size)=(css.take m).flatten:=by
   intro css
   induction css with
   | nil=>intro m _; simp
   | cons c css ih =>
    intro m hs
    cases m with
    | zero=>simp
    | succ m =>
     have hc:=hs c List.mem_cons_self
     rw [List.take_succ_cons,List.flatten_cons,List.flatten_cons,Nat.add_mul,Nat.one_mul,Nat.add_comm,← hc,List.take_length_add_append,hc,ih m (fun c hc=>hs c (List.mem_cons_of_mem _ hc))]
  exact this css m hsz
 ·rw [List.getElem?_take] at hy hc
  split at hy
  ·rename_i hjn
   rw [if_pos hjn] at hc
   exact hall j y cc hy hc
  ·cases hy
def sufIn (n:Int) (len:Nat):Prop:=0≤n∧n≤(len:Int)
def pSliceS (P:Program) (hp:Nat→Option Blk) (t:TypeId) (b:Nat) (lo:AV):Perf :=
 match hp b with
 | some (.row e l _)=>match P.underlying t with
  | some (.slice et)=>match (P.info? et).map (·.size),lo with
   | some k,.val (.int _) n=>match Nat.beq k e.size with
    | true=>⟨.suf b (Int.toNat n) k,[],some (sufIn n l.length)⟩
    | false=>.bad
   | _,_=>.bad
  | _=>.bad
 | _=>.bad
theorem ok_sliceS1 {hp:Nat→Option Blk} (hhp:∀ b k,hp b=some k→s.hp b=some k) {t:TypeId} {x y:Operand} {b:Nat} (ho:o.op=.slice t x (some y) none none) (hx:s.ev x=.val .own b) {e:Ty} {l:List e.den} {tid:TypeId} (hk:hp b=some (.row e l tid)) {et:TypeId} (hu:cx.P.underlying t=some (.slice et))
  {k:Nat} {kd:IntKind} {n:Int} (hq:(cx.P.info? et).map (·.size)=some k) (hy:s.ev y=.val (.int kd) n):OpOk cx o s nid ⟨.suf b n.toNat k,[],some (sufIn n l.length)⟩:=by
 intro ρ F a w next Q hM hnF hob hn
 obtain ⟨h0,h1⟩:0≤n∧n≤(l.length:Int):=hob
 obtain ⟨i,hi',hsi⟩:=Option.map_eq_some_iff.1 hq
 have hv:=(hM.ev x).1
 rw [hx] at hv
 have hv:=RV_own hv
 have hyv:=ev_int hM hy
 obtain ⟨xs,hro,hrd⟩:=hM.blks b _ (hhp _ _ hk)
 have key:∃ A cap,ρ b=.slice A l.length cap∧l.length≤cap:=by
  rcases hro.2 with ⟨A0,h,h'⟩ | ⟨g,cap,cur,h,_,_,_,h',_⟩
  ·exact ⟨A0,0,by rw [h,h'],by omega⟩
  ·exact ⟨_,cap,h,h'⟩
 obtain ⟨A,cap,hA,hcap⟩:=key
 have hsb:(Instr.sliceBounds true l.length cap (some (.int kd n)) none none).run cx.P w=.ok (n.toNat,l.length,cap) w:=by
  have b1:∀ code,(Instr.sliceBound (.int kd n) l.length code).run cx.P w=.ok n.toNat w:=fun code=>run_sliceBound w kd n l.length code h0 h1
  simp [Instr.sliceBounds,b1]
 have hrun:(execOp a.eval o).run cx.P w=.ok (.value (.slice (if cap=n.toNat then A else A.map (·.add (n.toNat*i.size))) (l.length - n.toNat) (cap - n.toNat))) w:=by
  have hidx:(execOp a.eval o).run cx.P w=((Instr.slice t (a.eval x) (some (a.eval y)) none none).run cx.P w).andThen fun v w'=>.ok (.value v) w':=by
   simp [execOp,ho,Instr.sliceAt,run_underlying hu]
  rw [hidx,hv,hA,hyv]
  have:(Instr.slice t (.slice A l.length cap) (some (.int kd n)) none none).run cx.P w=.ok (.slice (if cap=n.toNat then A else A.map (·.add (n.toNat*i.size))) (l.length - n.toNat) (cap - n.toNat)) w:=by
   unfold Instr.slice
   simp only [Sem.run_bind,run_underlying hu,Result.andThen_ok,hsb]
   simp [sizeOf,typeInfo,hi']
  rw [this]
  rfl
 unfold Oper.wp
 rw [hrun]
 refine hn ρ _ w ((M.put hM o.dst (av:=.suf b n.toNat k) ?_ (fun q hq=>?_) s.ok).widen (fun b hb=>.inl hb))
 ·show _=sufV (ρ b) n.toNat k
  rw [hA,← hsi]
  rfl
 ·obtain rfl:=List.mem_singleton.1 hq
  exact (hM.brefs q _ (hhp _ _ hk)).1
theorem ok_sliceS {hp:Nat→Option Blk} (hhp:∀ b k,hp b=some k→s.hp b=some k) {t:TypeId} {x y:Operand} {b:Nat} (ho:o.op=.slice t x (some y) none none) (hx:s.ev x=.val .own b):OpOk cx o s nid (pSliceS cx.P hp t b (s.ev y)):=by
 unfold pSliceS
 split
 ·rename_i e l tid hk
  split
  ·rename_i et hu
   split
   ·rename_i k kd n hq hy
    split
    ·exact ok_sliceS1 hhp ho hx hk hu hq hy
    ·exact bad_ok
   ·exact bad_ok
  ·exact bad_ok
 ·exact bad_ok
theorem sufV_slice (A:Option Addr) (n cap lo k:Nat):sufV (.slice A n cap) lo k=.slice (if cap=lo then A else A.map (·.add (lo*k))) (n - lo) (cap - lo):=rfl
def isB (P:Program) (et:TypeId) (n:Nat):Bool:=match P.info? et with
 | some i=>Nat.beq i.size n
 | none=>false
def pClear (P:Program) (c:Ctx) (hp:Nat→Option Blk) (t:TypeId) (x:AV):Perf :=
 match x,P.underlying t with
 | .suf b lo k,some (.slice et)=>match hp b with
  | some (.row e l tid)=>match zeroOk P et e && (Nat.beq k e.size && (Nat.blt 0 k && (e.flat && isB P et e.size))) with
   | true=>⟨.tup [],[(b,some (.row e (l.take lo++List.replicate (l.length - lo) e.zero) tid))],some (lo≤l.length)⟩
   | false=>.bad
  | _=>.bad
 | _,_=>.bad
theorem zeroCells_list {z:Array Value} {N:Nat} {e:Ty} {i:TypeInfo} (hzs:z.size=e.size) (hsz:i.size=e.size):(Builtin.zeroCells z N).toList=(madeCells z (N*i.size)).toList:=by
 unfold Builtin.zeroCells madeCells
 rw [hsz,hzs]
theorem ok_clear {hp:Nat→Option Blk} (hhp:∀ b k,hp b=some k→s.hp b=some k) {t:TypeId} {x:Operand} (ho:o.op=.call { callee:=.builtin .clear,args:=#[x],argTypes:=#[t] }):OpOk cx o s nid (pClear cx.P c hp t (s.ev x)):=by
 unfold pClear
 split
 ·rename_i b lo k et hx hu
  split
  ·rename_i e l tid hk
   split
   ·rename_i hz
    simp only [Bool.and_eq_true] at hz
    obtain ⟨hz,hke,hk0,hfl,hsb⟩:=hz
    have hke:=Nat.eq_of_beq_eq_true hke
    have hk0:=blt_true hk0
    intro ρ F a w next Q hM hnF hob hn
    have hob:lo≤l.length:=hob
    obtain ⟨i,z,hi,hzz,hR⟩:=zeroOk_sound (P:=cx.P) (ρ:=ρ) (w:=w) (I:=cx.I ρ s) hz
    have hzs:z.cells.size=e.size:=by have:=hR.length; simpa using this
    have hisz:i.size=e.size:=by
     unfold isB at hsb
     rw [hi] at hsb
     exact Nat.eq_of_beq_eq_true hsb
    have hv:=(hM.ev x).1
    rw [hx] at hv
    have hv:a.eval x=sufV (ρ b) lo k:=hv
    obtain ⟨xs,hro,hrd⟩:=hM.blks b _ (hhp _ _ hk)
    have hz2:Rd cx.P (.arr (List.replicate (l.length - lo) e.zero:List e.den).length e) false ρ0 w (cx.I ρ s) (List.replicate (l.length - lo) e.zero:List e.den) (madeCells z.cells ((l.length - lo)*i.size)).toList:=by
     have h1:=made_Rd (P:=cx.P) (ρ:=ρ) (w:=w) (I:=cx.I ρ s) (e:=e) (z:=z) (i:=i) (by
      obtain ⟨i2,z2,hi2,_,hR2⟩:=zeroOk_sound (P:=cx.P) (ρ:=ρ) (w:=w) (I:=cx.I ρ s) hz
      exact hisz) hzs hR (l.length - lo)
     rw [List.length_replicate]
     exact Rd.flat (t:=.arr (l.length - lo) e) hfl h1
    have fin:∀ w',w'.os=w.os→Tp w w'→w'.output=w.output→w'.heap.size=w.heap.size→(∀ r,real (ρ b)≠some r→w'.heap[r]?=w.heap[r]?)→(execOp a.eval o).run cx.P w=.ok (.value (.tuple #[])) w' →
      (∃ xs',World.rowOf w' 0 tid e.size (ρ b) (l.take lo++List.replicate (l.length - lo) e.zero).length xs'∧Rd cx.P (.arr (l.take lo++List.replicate (l.length - lo) e.zero).length e) false ρ0 w' (cx.I ρ s) (l.take lo++List.replicate (l.length - lo) e.zero) xs')→o.upon cx.P a next Q ((execOp a.eval o).run cx.P w):=by
     intro w' f1 f2 f3 f4 f5 hrun hk'
     show o.upon cx.P a next Q ((execOp a.eval o).run cx.P w)
     rw [hrun]
     have hset:=M.set hM s.ok (hhp _ _ hk) (k:=.row e (l.take lo++List.replicate (l.length - lo) e.zero) tid) f1 f2 f3 f4 f5 hk' (fun c hc=>by cases hc) rfl
     exact hn ρ _ w' ((M.put hset o.dst (av:=.tup []) ⟨[],rfl,rfl,fun i t u ht=>by simp at ht⟩ (fun q hq=>by cases hq) s.ok).widen (fun b hb=>.inl hb))
    have hexec:∀ v w',(Builtin.clear_ #[t] o.type #[a.eval x]).run cx.P w=.ok v w'→(execOp a.eval o).run cx.P w=.ok (.value v) w':=by
     intro v w' h
     unfold execOp
     simp only [ho,resolve,invoke,builtin,Sem.run_bind,Sem.run_pure,Result.andThen_ok,List.map_toArray,List.map_cons,List.map_nil,h]
    have hnoop:l.length - lo=0→(∃ A c,a.eval x=.slice A 0 c)→o.upon cx.P a next Q ((execOp a.eval o).run cx.P w):=by
     intro h0 ⟨A,c,hA⟩
     have hll:l.take lo++List.replicate (l.length - lo) e.zero=l:=by rw [h0,List.replicate_zero,List.append_nil,List.take_of_length_le (by omega)]
     refine fin w rfl (Tp.refl _) rfl rfl (fun _ _=>rfl) (hexec _ _ ?_) (by rw [hll]; exact ⟨xs,hro,hrd⟩)
     rw [hA]
     cases A <;> simp [Builtin.clear_,run_underlying hu]
    unfold Oper.wp
    rcases hro.2 with ⟨A0,h,h'⟩ | ⟨g,cap,cur,h,hcp,hb',hg,hnc,hcm,hcs,htk⟩
    ·exact hnoop (by omega) ⟨(if 0=lo then A0 else A0.map (·.add (lo*k))),0 - lo,by rw [hv,h,sufV_slice,Nat.zero_sub]⟩
    ·by_cases h0:l.length - lo=0
     ·exact hnoop h0 ⟨(if cap=lo then some ⟨g,0,none⟩ else (some ⟨g,0,none⟩:Option Addr).map (·.add (lo*k))),cap - lo,by rw [hv,h,sufV_slice,h0]⟩
     ·have hne:¬ cap=lo:=by omega
      have hvs:a.eval x=.slice (some ⟨g,lo*k,none⟩) (l.length - lo) (cap - lo):=by
       rw [hv,h]
       show Value.slice (if cap=lo then _ else _) _ _=_
       rw [if_neg hne]
       show Value.slice (some ((⟨g,0,none⟩:Addr).add (lo*k))) _ _=_
       rw [add_none,Nat.zero_add]
      have hlv:(madeCells z.cells ((l.length - lo)*i.size)).toList.length=(l.length - lo)*k:=by
       have:=hz2.length
       rw [this,hke]
       show (List.replicate (l.length - lo) e.zero:List e.den).length*e.size=_
       rw [List.length_replicate]
      have hfit:lo*k+0+(madeCells z.cells ((l.length - lo)*i.size)).toList.length≤cur.size:=by
       rw [hlv,Nat.add_zero,← Nat.add_mul,hcs,hke]
       exact Nat.mul_le_mul_right _ (by omega)
      have hst:=run_storeCells_at cx.P g (lo*k) tid (madeCells z.cells ((l.length - lo)*i.size)).toList 0 cur w hg hfit (Rd.one hz2 ρ0_one)
      rw [hlv,Nat.add_zero] at hst
      have hclear:(Builtin.clear_ #[t] o.type #[a.eval x]).run cx.P w=.ok (.tuple #[]) (w.setRow g (cur.toList.take (lo*k)++(madeCells z.cells ((l.length - lo)*i.size)).toList++cur.toList.drop (lo*k+(l.length - lo)*k)).toArray):=by
       rw [hvs]
       obtain ⟨m,hm⟩:∃ m,l.length - lo=m+1:=⟨l.length - lo - 1,by omega⟩
       have hzc:=zeroCells_list (N:=m+1) (e:=e) hzs hisz
       rw [hm] at hst ⊢
       simp [Builtin.clear_,run_underlying hu,zeroValue,typeInfo,hi,hzz,hzc,hst]
      have hreal:real (ρ b)=some g:=by rw [h]; exact real_slice hcp
      have hxl:(xs.take (lo*e.size)).length=lo*e.size:=by
       rw [List.length_take,hro.1]
       exact Nat.min_eq_left (Nat.mul_le_mul_right _ hob)
      have hlen2:(l.take lo++List.replicate (l.length - lo) e.zero).length=l.length:=by
       rw [List.length_append,List.length_take,List.length_replicate]; omega
      have hmul:lo*e.size+(l.length - lo)*e.size=l.length*e.size:=by rw [← Nat.add_mul]; congr 1; omega
      have htk2:cur.toList.take (lo*e.size)=xs.take (lo*e.size):=by rw [← htk,List.take_take,Nat.min_eq_left (Nat.mul_le_mul_right _ hob)]
      refine fin (w.setRow g (cur.toList.take (lo*k)++(madeCells z.cells ((l.length - lo)*i.size)).toList++cur.toList.drop (lo*k+(l.length - lo)*k)).toArray) rfl ⟨rfl,Nat.le_refl _⟩ rfl (by simp [World.setRow]) (fun q hq=>setRow_other w g q _ (fun e=>hq (by rw [hreal,e]))) (hexec _ _ hclear)
       ⟨xs.take (lo*e.size)++(madeCells z.cells ((l.length - lo)*i.size)).toList,⟨?_,.inr ⟨g,cap,_,by rw [hlen2]; exact h,hcp,hb',setRow_heap w g cur _ tid _ hg,by rw [hlen2]; exact hnc,hcm,?_,?_⟩⟩,?_⟩
      ·rw [hlen2,List.length_append,hxl,hlv,hke,hmul]
      ·rw [← hcs]
       simp only [List.size_toArray,List.length_append,List.length_take,List.length_drop,hlv,Array.length_toList]
       omega
      ·rw [hlen2,← hmul]
       show (cur.toList.take (lo*k)++_++_).take _=_
       rw [hke,htk2]
       have:(xs.take (lo*e.size)++(madeCells z.cells ((l.length - lo)*i.size)).toList).length=lo*e.size+(l.length - lo)*e.size:=by rw [List.length_append,hxl,hlv,hke]
       rw [← this,List.take_left]
      ·have h1:=Rd.arr_take (m:=lo) hrd
       exact Rd.flat (t:=.arr (l.take lo++List.replicate (l.length - lo) e.zero).length e) hfl (Rd.arr_append h1 hz2)
   ·exact bad_ok
  ·exact bad_ok
 ·exact bad_ok
def isZ (n:Int):Prop:=n=0
def pSliceN (P:Program) (t:TypeId) (lo hi:Option AV) (mx:Bool):Perf :=
 match lo,hi,mx,P.underlying t with
 | none,some (.val (.int _) n),false,some (.slice et)=>match P.info? et with
  | some _=>⟨.nil,[],some (isZ n)⟩
  | none=>.bad
 | _,_,_,_=>.bad
theorem ok_sliceN {t:TypeId} {x:Operand} {lo hi mx:Option Operand} (ho:o.op=.slice t x lo hi mx) (hx:s.ev x=.nil):OpOk cx o s nid (pSliceN cx.P t (lo.map s.ev) (hi.map s.ev) mx.isSome):=by
 unfold pSliceN
 split
 ·rename_i k n et hlo hhi hmx hu
  split
  ·rename_i i hi'
   cases lo with
   | some _=>cases hlo
   | none =>
    cases mx with
    | some _=>cases hmx
    | none =>
     cases hi with
     | none=>cases hhi
     | some y =>
      have hy:s.ev y=.val (.int k) n:=Option.some.inj hhi
      refine ok_value rfl fun ρ F a w hM hob=>?_
      have hob:n=(0:Int):=hob
      have h1:=(hM.ev x).1
      rw [hx] at h1
      have h1:a.eval x=.slice none 0 0:=h1
      have hyv:=ev_int hM hy
      rw [hob] at hyv
      refine ⟨.slice none 0 0,?_,rfl,fun b hb=>by cases hb⟩
      have hsb:(Instr.sliceBounds true 0 0 none (some (.int k 0)) none).run cx.P w=.ok (0,0,0) w:=by
       have b1:∀ code,(Instr.sliceBound (.int k 0) 0 code).run cx.P w=.ok 0 w:=fun code=>run_sliceBound w k 0 0 code (by omega) (by omega)
       simp [Instr.sliceBounds,b1]
      simp [execOp,ho,Instr.sliceAt,run_underlying hu,h1,hyv,Instr.slice,hsb,sizeOf,typeInfo,hi']
  ·exact bad_ok
 ·exact bad_ok
def pSliceY (P:Program) (c:Ctx) (hp:Nat→Option Blk) (nid:Nat) (t:TypeId) (x:AV) (lo hi:Option AV) (mx:Bool):Perf :=
 match x with
 | .val .own b=>match lo,hi,mx with
  | some l,none,false=>pSliceS P hp t b l
  | _,_,_=>pSliceO P c hp nid t b lo hi mx
 | .nil=>pSliceN P t lo hi mx
 | av=>pSliceX P t av lo hi mx
theorem ok_sliceY {hp:Nat→Option Blk} (hhp:∀ b k,hp b=some k→s.hp b=some k) {t:TypeId} {x:Operand} {lo hi mx:Option Operand} (ho:o.op=.slice t x lo hi mx) (hE:c.pin=cx.np) :
  OpOk cx o s nid (pSliceY cx.P c hp nid t (s.ev x) (lo.map s.ev) (hi.map s.ev) mx.isSome):=by
 unfold pSliceY
 split
 ·rename_i b hx
  split
  ·rename_i lv hlo hhi hmx
   cases lo with
   | none=>cases hlo
   | some y =>
    cases hi with
    | some _=>cases hhi
    | none =>
     cases mx with
     | some _=>cases hmx
     | none =>
      obtain rfl:=Option.some.inj hlo
      exact ok_sliceS hhp ho hx
  ·unfold pSliceO
   split
   ·rename_i e l tid hk
    split
    ·rename_i et n hm hlo hu hr
     split
     ·rename_i sz hb hq
      have hnp:cx.np≤b:=hE ▸ Nat.le_of_ble_eq_true hb
      intro ρ F a w next Q hM hnF hob hn
      obtain ⟨h0,h1⟩:0≤n∧n≤(l.length:Int):=hob
      obtain ⟨i,hi',hsi⟩:=Option.map_eq_some_iff.1 hq
      have hv:=(hM.ev x).1
      rw [hx] at hv
      have hv:=RV_own hv
      have hmn:mx=none:=by cases mx <;> simp at hm ⊢
      have hln:lo=none:=by cases lo <;> simp at hlo ⊢
      subst hmn hln
      obtain ⟨xs,hro,hrd⟩:=hM.blks b _ (hhp _ _ hk)
      have key:∃ A cap,ρ b=.slice A l.length cap∧l.length≤cap:=by
       rcases hro.2 with ⟨A0,h,h'⟩ | ⟨g,cap,cur,h,_,_,_,h',_⟩
       ·exact ⟨A0,0,by rw [h,h'],by omega⟩
       ·exact ⟨_,cap,h,h'⟩
      obtain ⟨A,cap,hA,hcap⟩:=key
      have hsb:(Instr.sliceBounds true l.length cap none (hi.map a.eval) none).run cx.P w=.ok (0,n.toNat,cap) w:=by
       have hr':(0≤n∧n≤(cap:Int)):=⟨by omega,by omega⟩
       have c2:=cutIx_sound hr (fun y=>(hM.ev y).1)
       have b1:∀ k code,(Instr.sliceBound (.int k n) cap code).run cx.P w=.ok n.toNat w:=fun k code=>run_sliceBound w k n cap code hr'.1 hr'.2
       rcases c2 with ⟨rfl,rfl⟩ | ⟨y',k',rfl,hy'⟩ <;>
        simp only [Instr.sliceBounds,Option.map_some,Option.map_none, *,Sem.run_bind,Sem.run_pure,Result.andThen_ok] <;> first | rfl | (simp; done)
      have hA0:(if cap=0 then A else A.map (·.add (0*i.size)))=A:=by
       split
       ·rfl
       ·cases A with
        | none=>rfl
        | some ad =>
         simp only [Option.map_some,Nat.zero_mul]
         obtain ⟨bl,of,sp⟩:=ad
         unfold Addr.add
         split <;> simp_all
      have hrun:(execOp a.eval o).run cx.P w=.ok (.value (.slice A n.toNat cap)) w:=by
       have hidx:(execOp a.eval o).run cx.P w=((Instr.slice t (a.eval x) none (hi.map a.eval) none).run cx.P w).andThen fun v w'=>.ok (.value v) w':=by
        simp [execOp,ho,Instr.sliceAt,run_underlying hu]
       rw [hidx,hv,hA]
       have:(Instr.slice t (.slice A l.length cap) none (hi.map a.eval) none).run cx.P w=.ok (.slice (if cap=0 then A else A.map (·.add (0*i.size))) (n.toNat - 0) (cap - 0)) w:=by
        unfold Instr.slice
        simp only [Sem.run_bind,run_underlying hu,Result.andThen_ok,hsb]
        simp [sizeOf,typeInfo,hi']
       rw [this,hA0]
       rfl
      have hlen:(l.take n.toNat).length=n.toNat:=by rw [List.length_take]; omega
      have hown:World.rowOf w 0 tid e.size (.slice A n.toNat cap) (l.take n.toNat).length (xs.take (n.toNat*e.size)):=by
       rw [hlen]
       have hx0:=hro.1
       refine ⟨by rw [List.length_take,hx0]; exact Nat.min_eq_left (Nat.mul_le_mul_right _ (by omega)),?_⟩
       rcases hro.2 with ⟨A0,h,h'⟩ | ⟨g,cap',cur,h,hcp,hb',hg,h1',h2',h3',h4'⟩
       ·rw [hA] at h
        simp only [Value.slice.injEq] at h
        obtain ⟨rfl,_,rfl⟩:=h
        exact .inl ⟨A,by rw [show n.toNat=0 by omega],by omega⟩
       ·rw [hA] at h
        simp only [Value.slice.injEq] at h
        obtain ⟨rfl,_,rfl⟩:=h
        refine .inr ⟨g,cap,cur,rfl,hcp,hb',hg,by omega,h2',h3',?_⟩
        rw [← h4',List.take_take,Nat.min_eq_left (Nat.mul_le_mul_right _ (by omega))]
      have hreal:real (.slice A n.toNat cap)=real (ρ b):=by rw [hA]; cases A <;> cases cap <;> rfl
      have hone:(Value.slice A n.toNat cap).oneCell'=true:=rfl
      have hgr:w.grownBy w (real (ρ b)):=⟨rfl,rfl,rfl,Nat.le_refl _,fun _ _ _=>rfl⟩
      have htake:Rd cx.P (.arr (l.take n.toNat).length e) false ρ0 w (cx.I ρ s) (l.take n.toNat) (xs.take (n.toNat*e.size)):=by
       obtain ⟨hl1,css,rfl,hcl,hall⟩:=hrd
       refine ⟨rfl,css.take n.toNat,?_,by rw [List.length_take,hlen,hcl]; omega,fun j y cc hy hc=>?_⟩
       ·have hsz:∀ c∈css,c.length=e.size:=by
         intro c hc
         obtain ⟨j,hj,rfl⟩:=List.getElem_of_mem hc
         have hj':j<l.length:=by omega
         exact (hall j (l[j]) (css[j]) (List.getElem?_eq_getElem hj') (List.getElem?_eq_getElem hj)).length
        have:∀ (css:List (List Value)) (m:Nat),(∀ c∈css,c.length=e.size)→css.flatten.take (m*e.size)=(css.take m).flatten:=by
         intro css
         induction css with
         | nil=>intro m _; simp
         | cons c css ih =>
          intro m hs
          cases m with
          | zero=>simp
          | succ m =>
           have hc:=hs c List.mem_cons_self
           rw [List.take_succ_cons,List.flatten_cons,List.flatten_cons,Nat.add_mul,Nat.one_mul,Nat.add_comm,← hc,List.take_length_add_append,hc,ih m (fun c hc=>hs c (List.mem_cons_of_mem _ hc))]
        exact this css n.toNat hsz
       ·rw [List.getElem?_take] at hy hc
        split at hy
        ·rename_i hjn
         rw [if_pos hjn] at hc
         exact hall j y cc hy hc
        ·cases hy
      unfold Oper.wp
      rw [hrun]
      have hgrow:=M.grow hM hnF hnp s.ok (hhp _ _ hk) (l':=l.take n.toNat) ⟨hgr,Nat.le_refl _⟩ hown htake hone (fun r hr=>.inl (by rw [← hreal]; exact hr))
      exact hn (upd ρ nid (.slice A n.toNat cap)) (.slice A n.toNat cap) w (M.put hgrow o.dst (av:=.val .own nid) ⟨[.slice A n.toNat cap],rfl,by show _=[upd ρ nid _ nid]; rw [upd_same]⟩ (fun b hb=>.inr (List.mem_singleton.1 hb)) s.ok)
     ·exact bad_ok
    ·exact bad_ok
   ·exact bad_ok
 ·rename_i hx
  exact ok_sliceN ho hx
 ·exact ok_sliceX ho
end
end Go.Sx
namespace Go.Sx
def pCapN (P:Program) (t:TypeId) (x:AV):Perf:=match x,P.underlying t with
 | .nil,some (.slice _)=>.of (.val (.int .i64) (0:Int))
 | _,_=>.bad
def pBuiltin (P:Program) (c:Ctx) (hp:Nat→Option Blk) (nid:Nat) (ev:Operand→AV) (b:Builtin) (args:List Operand) (ts:List TypeId):Perf :=
 match b,args,ts with
 | .len,[x],t :: _=>pLen P hp t (ev x)
 | .min,x :: xs,_=>pMin (ev x) (xs.map ev)
 | .max,x :: xs,_=>pMax (ev x) (xs.map ev)
 | .append,[x,y],[t,t']=>pAppendY P c hp nid t t' (ev x) (ev y)
 | .copy,[x,y],[t,_]=>pCopyX P hp t (ev x) (ev y)
 | .clear,[x],[t]=>pClear P c hp t (ev x)
 | .cap,[x],[t]=>pCapN P t (ev x)
 | _,_,_=>.bad
def pPick (c x y:AV) (ans:Ans):Perf :=
 match c,ans with
 | .val .bool b,.dec t=>⟨match t with | true=>x | false=>y,[],some (b=t)⟩
 | _,_=>.bad
def pNilCheck (x:AV):Perf :=
 match x with
 | .imm t y off=>.of (.imm t y off)
 | .val .ptr p=>.of (.val .ptr p)
 | _=>.bad
theorem eqIn_nil {P:Program} {w:World} (d:Nat) {t e:TypeId} {a:Option Addr} {l c:Nat} (h:P.underlying t=some (.slice e)):(Op.equalIn (d+1) t (.slice a l c) (.slice none 0 0)).run P w=.ok a.isNone w:=by
 cases a <;> simp [Op.equalIn,run_underlying h]
def nilOf {α:Type}:List α→Perf
 | []=>.of (.anyb True)
 | _ :: _=>.of (.val .bool false)
theorem nilOf_ed {α:Type} (l:List α):(nilOf l).ed=[]:=by cases l <;> rfl
def pBinN (P:Program) (c:Ctx) (op:BinOp) (xt:TypeId) (x y:AV):Perf :=
 match op,x,y,P.underlying xt with
 | .eql,.val (.slice e) l,.nil,some (.slice _)=>nilOf (l:List e.den)
 | .eql,.nil,.nil,some (.slice _)=>.of (.val .bool true)
 | _,_,_,_=>pBin c op xt x y
def pConv (P:Program) (src dst:TypeId) (x:AV):Perf :=
 match (P.underlying src).isSome with
 | true=>pConvert P dst x
 | false=>.bad
def perf (P:Program) (c:Ctx) (hp:Nat→Option Blk) (nid:Nat) (ev:Operand→AV) (ans:Ans) (op:Op):Perf :=
 match op with
 | .move x=>.of (ev x)
 | .assign x=>.of (ev x)
 | .pick q x y=>pPick (ev q) (ev x) (ev y) ans
 | .alloc t=>pAlloc P c nid t
 | .box t x=>pBox c nid t (ev x)
 | .load t x=>pLoadX P c hp t (ev x)
 | .store t x y=>pStoreX P c hp t (ev x) (ev y)
 | .nilCheck x=>pNilCheck (ev x)
 | .binOp b xt x y _=>pBinN P c b xt (ev x) (ev y)
 | .unOp b _ x=>pUn b (ev x)
 | .convert src dst x=>pConv P src dst (ev x)
 | .fieldAddr t x f=>pFieldAddr P t (ev x) f
 | .field t x f=>pFieldX P c t (ev x) f
 | .indexAddr t x i=>pIndexAddr P hp t (ev x) (ev i)
 | .extract x i=>pExtract (ev x) i
 | .makeFunc fn first caps=>pMakeFunc fn (first.toList.map ev) (caps.toList.map ev)
 | .call q=>match q.callee with
  | .builtin b=>pBuiltin P c hp nid ev b q.args.toList q.argTypes.toList
  | .value f=>pCall c hp nid (wrOp c f) (ev f) (q.args.toList.map ev) ans
  | .invoke _ _=>.bad
 | .build t parts=>pBuildX P c t (parts.toList.map fun p=>(p.1,ev p.2))
 | .buildSlice t len parts=>pBuildSlice P c nid t len (parts.toList.map fun p=>(p.1,ev p.2)) ans
 | .slice t x lo hi mx=>pSliceY P c hp nid t (ev x) (lo.map ev) (hi.map ev) mx.isSome
 | .index t x i=>pIndex P c t x (ev x) (ev i)
 | .makeSlice t x y=>pMakeSlice P c nid t (ev x) (ev y)
 | _=>.bad
structure CtxOk (P:Program) (c:Ctx):Prop where
 T:TOk P c
 fns:FnsOk P c
 hs:HsOk P c
 eqs:∀ t ty,(t,ty)∈c.eqs→EqOk P t ty
section
variable {cx:Cx} {s:St} {o:Oper} {nid:Nat} {c:Ctx}
theorem ok_capN {t:TypeId} {x:Operand} (ho:o.op=.call { callee:=.builtin .cap,args:=#[x],argTypes:=#[t] }):OpOk cx o s nid (pCapN cx.P t (s.ev x)):=by
 unfold pCapN
 split
 ·rename_i e hx hu
  refine ok_value rfl fun ρ F a w hM _=>?_
  have h1:=(hM.ev x).1
  rw [hx] at h1
  have h1:a.eval x=.slice none 0 0:=h1
  exact ⟨.int .i64 (0:Int),by simp [execOp,ho,resolve,invoke,builtin,Builtin.cap_,h1,run_underlying hu,goInt],RV_of_int,fun b hb=>by cases hb⟩
 ·exact bad_ok
theorem perf_ok (hc:CtxOk cx.P c) (hE:c.pin=cx.np) {hp:Nat→Option Blk} (hhp:∀ b k,hp b=some k→s.hp b=some k) (ans:Ans):OpOk cx o s nid (perf cx.P c hp nid s.ev ans o.op):=by
 cases ho:o.op <;> simp only [perf] <;> first | exact bad_ok | skip
 case move x=>exact ok_move (.inl ho)
 case assign x=>exact ok_move (.inr ho)
 case pick q x y =>
  unfold pPick
  split
  ·rename_i b t hq
   exact ok_pick ho hq
  ·exact bad_ok
 case alloc t=>exact ok_alloc ho
 case box t x=>exact ok_box ho
 case load t x=>exact ok_loadX hhp ho hc.T
 case store t x y=>exact ok_storeX hhp ho hc.T
 case nilCheck x =>
  unfold pNilCheck
  split
  ·rename_i t y off hx
   have:=ok_nilCheck (cx:=cx) (nid:=nid) ho (.inl ⟨t,y,off,hx⟩)
   rw [hx] at this
   exact this
  ·rename_i p hx
   have:=ok_nilCheck (cx:=cx) (nid:=nid) ho (.inr ⟨p,hx⟩)
   rw [hx] at this
   exact this
  ·exact bad_ok
 case binOp b xt x y yt =>
  unfold pBinN
  split
  ·rename_i e l e' hx hy hu
   have run:∀ (ρ:Nat→Value) (F:Nat→Prop) (a:Act) (w:World),M cx ρ F s a w→∃ A:Option Addr,(execOp a.eval o).run cx.P w=.ok (.value (.bool A.isNone)) w∧(l=([]:List e.den)∨A.isNone=false):=by
    intro ρ F a w hM
    have h1:=(hM.ev x).1
    have h2:=(hM.ev y).1
    rw [hx] at h1
    rw [hy] at h2
    obtain ⟨cc,hv,A,cap,rfl,_,h3⟩:=h1
    have h2:a.eval y=.slice none 0 0:=h2
    have hv:a.eval x=.slice A (List.length l) cap:=hv
    refine ⟨A,?_,?_⟩
    ·have hg:(eqGuard .eql xt x y (.slice A (List.length l) cap) (.slice none 0 0)).run cx.P w=.ok () w:=by
      unfold eqGuard
      rfl
     have he:(Op.equal xt (.slice A (List.length l) cap) (.slice none 0 0)).run cx.P w=.ok A.isNone w:=by
      show (Op.equalIn (9999+1) xt (.slice A (List.length l) cap) (.slice none 0 0)).run cx.P w=_
      exact eqIn_nil 9999 hu
     simp only [execOp,ho,hv,h2,Sem.run_bind,hg,Result.andThen_ok,binOp,he,Sem.run_pure]
    ·rcases h3 with h3 | ⟨ad,hA,_⟩
     ·exact .inl h3
     ·rw [hA]; exact .inr rfl
   match l,run with
   | [],run =>
    refine ok_value rfl fun ρ F a w hM _=>?_
    obtain ⟨A,h1,_⟩:=run ρ F a w hM
    exact ⟨.bool A.isNone,h1,⟨A.isNone,rfl,fun _=>trivial⟩,fun b hb=>by cases hb⟩
   | z :: l,run =>
    refine ok_value rfl fun ρ F a w hM _=>?_
    obtain ⟨A,h1,h2⟩:=run ρ F a w hM
    have h2:=h2.resolve_left (fun h=>nomatch h)
    rw [h2] at h1
    exact ⟨.bool false,h1,⟨[.bool false],rfl,rfl⟩,fun b hb=>by cases hb⟩
  ·rename_i e' hx hy hu
   refine ok_value rfl fun ρ F a w hM _=>?_
   have h1:=(hM.ev x).1
   have h2:=(hM.ev y).1
   rw [hx] at h1
   rw [hy] at h2
   have h1:a.eval x=.slice none 0 0:=h1
   have h2:a.eval y=.slice none 0 0:=h2
   refine ⟨.bool true,?_,⟨[.bool true],rfl,rfl⟩,fun b hb=>by cases hb⟩
   have hg:(eqGuard .eql xt x y (.slice none 0 0) (.slice none 0 0)).run cx.P w=.ok () w:=by
    unfold eqGuard
    rfl
   have he:(Op.equal xt (.slice none 0 0) (.slice none 0 0)).run cx.P w=.ok true w:=by
    show (Op.equalIn (9999+1) xt (.slice none 0 0) (.slice none 0 0)).run cx.P w=_
    exact eqIn_nil 9999 hu
   simp only [execOp,ho,h1,h2,Sem.run_bind,hg,Result.andThen_ok,binOp,he,Sem.run_pure]
  ·exact ok_bin ho hc.eqs
 case unOp b xt x=>exact ok_un ho
 case convert src dst x =>
  unfold pConv
  split
  ·rename_i hs
   exact ok_convert ho hs
  ·exact bad_ok
 case fieldAddr t x f=>exact ok_fieldAddr ho
 case field t x f=>exact ok_fieldX ho hc.T
 case indexAddr t x i=>exact ok_indexAddr hhp ho
 case extract x i=>exact ok_extract ho
 case makeFunc fn first caps=>exact ok_makeFunc ho
 case call q =>
  obtain ⟨callee,args,ts⟩:=q
  cases callee with
  | invoke r m=>exact bad_ok
  | value f =>
   exact ok_pCall hhp (by rw [ho]) hE hc.fns hc.hs (args:=args.toList) (ts:=ts) (ans:=ans)
  | builtin b =>
   simp only
   unfold pBuiltin
   split
   ·rename_i x t ts' hargs hts
    have e1:args=#[x]:=by rw [← Array.toList_inj]; exact hargs
    have e2:ts=(t :: ts').toArray:=by rw [← Array.toList_inj]; exact hts
    subst e1 e2
    exact ok_len hhp ho
   ·rename_i x xs hargs
    have e1:args=(x :: xs).toArray:=by rw [← Array.toList_inj]; exact hargs
    subst e1
    exact ok_min ho
   ·rename_i x xs hargs
    have e1:args=(x :: xs).toArray:=by rw [← Array.toList_inj]; exact hargs
    subst e1
    exact ok_max ho
   ·rename_i x y t t' hargs hts
    have e1:args=#[x,y]:=by rw [← Array.toList_inj]; exact hargs
    have e2:ts=#[t,t']:=by rw [← Array.toList_inj]; exact hts
    subst e1 e2
    exact ok_appendY hhp ho hc.T hE
   ·rename_i x y t t' hargs hts
    have e1:args=#[x,y]:=by rw [← Array.toList_inj]; exact hargs
    have e2:ts=#[t,t']:=by rw [← Array.toList_inj]; exact hts
    subst e1 e2
    exact ok_copyX hhp ho
   ·rename_i x t hargs hts
    have e1:args=#[x]:=by rw [← Array.toList_inj]; exact hargs
    have e2:ts=#[t]:=by rw [← Array.toList_inj]; exact hts
    subst e1 e2
    exact ok_clear hhp ho
   ·rename_i x t hargs hts
    have e1:args=#[x]:=by rw [← Array.toList_inj]; exact hargs
    have e2:ts=#[t]:=by rw [← Array.toList_inj]; exact hts
    subst e1 e2
    exact ok_capN ho
   ·exact bad_ok
 case build t parts=>exact ok_buildX ho hc.T
 case buildSlice t len parts=>exact ok_buildSlice ho hc.T
 case slice t x lo hi mx=>exact ok_sliceY hhp ho hE
 case index t x i=>exact ok_index ho hc.T
 case makeSlice t x y=>exact ok_makeSlice ho hc.T
end
def view (hide:Nat→Bool) (hp:Nat→Option Blk) (b:Nat):Option Blk:=match hide b with
 | true=>none
 | false=>hp b
def andO (g p:Option Prop):Option Prop :=
 match g,p with
 | none,p=>p
 | some g,none=>some g
 | some g,some q=>some (g∧q)
theorem andO_iff {g p:Option Prop}:obP (andO g p)↔obP g∧obP p:=by
 cases g <;> cases p <;> simp [andO,obP]
def andP (s:Prop) (o:Option Prop):Prop :=
 match o with
 | none=>s
 | some q=>s∧q
theorem andP_iff {s:Prop} {o:Option Prop}:andP s o↔s∧obP o:=by
 cases o <;> simp [andP,obP]
def gP (g:Option Prop) (p:Perf):Perf:=⟨p.v,p.ed,andO g p.ob⟩
def put (n:Nat) (o:Oper) (s:St) (d:Perf):St:=⟨putS n s.sl o.dst d.v,app s.hp d.ed,andP s.ok d.ob⟩
theorem put_ok {n:Nat} {o:Oper} {s:St} {d:Perf} (h:(put n o s d).ok):s.ok∧d.obP:=andP_iff.1 h
theorem put_bad {n:Nat} {o:Oper} {s:St} (h:(put n o s .bad).ok):False:=(put_ok h).2
def act (P:Program) (c:Ctx) (hide:Nat→Bool) (nid:Nat) (o:Oper) (ans:Ans) (g:Option Prop) (s:St):St :=
 put c.n o s (gP g (perf P c (view hide s.hp) nid s.ev ans o.op))
def gslot (ops:Array Oper) (o:Oper):Option (Option Nat × Bool):=o.guard.map fun g=>((ops[g.1]?).bind (·.dst),g.2)
def ans0:List Ans→Ans
 | a :: _=>a
 | []=>.dec true
def delta (P:Program) (c:Ctx) (hide:Nat→Bool) (nid:Nat) (ops:Array Oper) (o:Oper) (anss:List Ans) (s:St):Perf :=
 match gslot ops o with
 | none=>gP none (perf P c (view hide s.hp) nid s.ev (ans0 anss) o.op)
 | some (some d,want)=>match s.sl d,anss with
  | .val .bool b,.dec t :: rest=>match Bool.xor t want with
   | false=>gP (some (b=t)) (perf P c (view hide s.hp) nid s.ev (ans0 rest) o.op)
   | true=>⟨.tup [],[],some (b=t)⟩
  | .tup [],.dec _ :: _=>⟨.tup [],[],none⟩
  | _,_=>.bad
 | some (none,_)=>.bad
def step (P:Program) (c:Ctx) (hide:Nat→Bool) (nid:Nat) (ops:Array Oper) (o:Oper) (anss:List Ans) (s:St):St :=
 put c.n o s (delta P c hide nid ops o anss s)
theorem step_mono {P:Program} {c:Ctx} {hide:Nat→Bool} {nid:Nat} {ops:Array Oper} {o:Oper} {anss:List Ans} {s:St} (h:(step P c hide nid ops o anss s).ok):s.ok:=(andP_iff.1 h).1
section
variable {cx:Cx} {c:Ctx}
theorem act_sound (hc:CtxOk cx.P c) (hn:c.n=cx.n) (hE:c.pin=cx.np) {ρ:Nat→Value} {F:Nat→Prop} {s:St} {a:Act} {w:World} (hM:M cx ρ F s a w) {hide:Nat→Bool} {nid:Nat} (hnF:¬ F nid) {o:Oper} {ans:Ans} {g:Option Prop}
  (hok:(act cx.P c hide nid o ans g s).ok) {K:Act→World→Prop} {Q:Exit→Act→World→Prop}
  (hK:∀ ρ' a' w',M cx ρ' (fun b=>F b∨b=nid) (act cx.P c hide nid o ans g s) a' w'→K a' w'):o.wp cx.P a w K Q:=by
 have hview:∀ b k,view hide s.hp b=some k→s.hp b=some k:=by
  intro b k h
  unfold view at h
  split at h
  ·cases h
  ·exact h
 refine perf_ok (o:=o) (nid:=nid) hc hE hview ans ρ F a w K Q hM hnF (andO_iff.1 (andP_iff.1 hok).2).2 fun ρ' v w' hM'=>hK ρ' _ w' ?_
 have:=hM'.okay (act cx.P c hide nid o ans g s).ok
 rw [← hn] at this
 exact this
theorem wanted_of {ops:Array Oper} {o:Oper} {a:Act} {j d:Nat} {b want:Bool} (hg:o.guard=some (j,want)) (hd:(ops[j]?).bind (·.dst)=some d) (h:a.tmps.getD d undef=.bool b) :
  Region.wanted o (yielded ops a.tmps)=(b == want):=by
 have h1:a.tmps[d]?=some (.bool b):=by
  rw [Array.getD_eq_getD_getElem?] at h
  cases hq:a.tmps[d]? with
  | none=>rw [hq] at h; cases h
  | some v=>rw [hq] at h; exact congrArg some h
 have hy:yielded ops a.tmps j=some b:=by
  unfold yielded
  rw [hd,Option.bind_some,h1]
 simp [Region.wanted,hg,hy]
theorem skipped_ok {ρ:Nat→Value} {w:World} {I:Nat→Prop}:RV cx.P ρ w I (.tup []) undef:=⟨[],rfl,rfl,fun i t u ht=>by simp at ht⟩
theorem wanted_none {ops:Array Oper} {o:Oper} {a:Act} {j d:Nat} {want:Bool} (hg:o.guard=some (j,want)) (hd:(ops[j]?).bind (·.dst)=some d) (h:a.tmps.getD d undef=undef) :
  Region.wanted o (yielded ops a.tmps)=false:=by
 have hy:yielded ops a.tmps j=none:=by
  unfold yielded
  rw [hd,Option.bind_some]
  rw [Array.getD_eq_getD_getElem?] at h
  cases hq:a.tmps[d]? with
  | none=>rfl
  | some v =>
   rw [hq] at h
   have h:v=undef:=h
   subst h
   rfl
 simp [Region.wanted,hg,hy]
theorem guard_sound (hc:CtxOk cx.P c) (hn:c.n=cx.n) (hE:c.pin=cx.np) {ρ:Nat→Value} {F:Nat→Prop} {s:St} {a:Act} {w:World} (hM:M cx ρ F s a w) {hide:Nat→Bool} {nid:Nat} (hnF:¬ F nid) {ops:Array Oper} {o:Oper}
  {rest:List Ans} {t want:Bool} (b:Bool) (hw:Region.wanted o (yielded ops a.tmps)=(b == want))
  (hok:(put c.n o s (match Bool.xor t want with
   | false=>gP (some (b=t)) (perf cx.P c (view hide s.hp) nid s.ev (ans0 rest) o.op)
   | true=>⟨.tup [],[],some (b=t)⟩)).ok) {K:Act→World→Prop} {Q:Exit→Act→World→Prop}
  (hK:∀ ρ' a' w',M cx ρ' (fun b=>F b∨b=nid) (put c.n o s (match Bool.xor t want with
   | false=>gP (some (b=t)) (perf cx.P c (view hide s.hp) nid s.ev (ans0 rest) o.op)
   | true=>⟨.tup [],[],some (b=t)⟩)) a' w'→K a' w') :
  (if Region.wanted o (yielded ops a.tmps) then o.wp cx.P a w K Q∨(o.asks cx.P a w∧LetsOut Q) else K (a.put o.dst undef) w):=by
 rw [hw]
 cases t <;> cases want <;> simp only [Bool.xor,Bool.bne_false,Bool.bne_true,Bool.not_false,Bool.not_true] at hok hK
 ·have hb:b=false:=(andO_iff.1 (andP_iff.1 hok).2).1
  subst hb
  exact .inl (act_sound hc hn hE hM hnF hok hK)
 ·have hb:b=false:=(put_ok hok).2
  subst hb
  refine hK ρ _ w ?_
  rw [hn]
  exact (M.put hM o.dst (av:=.tup []) skipped_ok (fun b hb=>by cases hb) _).widen (fun b hb=>.inl hb)
 ·have hb:b=true:=(put_ok hok).2
  subst hb
  refine hK ρ _ w ?_
  rw [hn]
  exact (M.put hM o.dst (av:=.tup []) skipped_ok (fun b hb=>by cases hb) _).widen (fun b hb=>.inl hb)
 ·have hb:b=true:=(andO_iff.1 (andP_iff.1 hok).2).1
  subst hb
  exact .inl (act_sound hc hn hE hM hnF hok hK)
theorem step_sound (hc:CtxOk cx.P c) (hn:c.n=cx.n) (hE:c.pin=cx.np) {ρ:Nat→Value} {F:Nat→Prop} {s:St} {a:Act} {w:World} (hM:M cx ρ F s a w) {hide:Nat→Bool} {nid:Nat} (hnF:¬ F nid) {ops:Array Oper} {i:Nat} {o:Oper}
  (hi:ops[i]?=some o) {anss:List Ans} (hok:(step cx.P c hide nid ops o anss s).ok) {K:Act→World→Prop} {Q:Exit→Act→World→Prop}
  (hK:∀ ρ' a' w',M cx ρ' (fun b=>F b∨b=nid) (step cx.P c hide nid ops o anss s) a' w'→K a' w'):wpOp cx.P ops Q i K a w:=by
 unfold wpOp
 simp only [hi]
 unfold step delta at hok hK
 cases hg:o.guard with
 | none =>
  have:gslot ops o=none:=by simp [gslot,hg]
  rw [this] at hok hK
  have hw:Region.wanted o (yielded ops a.tmps)=true:=by simp [Region.wanted,hg]
  rw [if_pos hw]
  exact .inl (act_sound hc hn hE hM hnF hok hK)
 | some g =>
  obtain ⟨j,want⟩:=g
  cases hd:(ops[j]?).bind (·.dst) with
  | none =>
   have:gslot ops o=some (none,want):=by simp [gslot,hg,hd]
   rw [this] at hok
   exact (put_bad hok).elim
  | some d =>
   have:gslot ops o=some (some d,want):=by simp [gslot,hg,hd]
   rw [this] at hok hK
   simp only at hok hK
   split at hok
   ·rename_i b t rest hs
    have hdv:a.tmps.getD d undef=.bool b:=by
     have h1:=hM.slots d
     rw [hs] at h1
     exact RV_bool h1
    rw [hs] at hK
    exact guard_sound hc hn hE hM hnF b (wanted_of hg hd hdv) hok hK
   ·rename_i t rest hs
    have hdv:a.tmps.getD d undef=undef:=by
     have h1:=hM.slots d
     rw [hs] at h1
     obtain ⟨vs,h1,h2,_⟩:=h1
     obtain rfl:=List.eq_nil_of_length_eq_zero h2
     exact h1
    rw [hs] at hK
    rw [wanted_none hg hd hdv]
    refine hK ρ _ w ?_
    rw [hn]
    exact (M.put hM o.dst (av:=.tup []) skipped_ok (fun b hb=>by cases hb) _).widen (fun b hb=>.inl hb)
   ·exact (put_bad hok).elim
end
end Go.Sx
