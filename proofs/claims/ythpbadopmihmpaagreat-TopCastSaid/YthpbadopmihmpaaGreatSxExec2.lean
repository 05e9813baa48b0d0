import Derived.Test.YthpbadopmihmpaaGreatSxRegion3
namespace Go.Sx
def lookS (l:List (Nat × AV)) (d:Nat):AV:=match find l d with
 | some v=>v
 | none=>.undef
def SL.st (s:SL):St:=⟨lookS s.sl,find s.hp,True⟩
section
variable {cx:Cx} {ρ:Nat→Value} {F:Nat→Prop} {s:St} {a:Act} {w:World}
theorem M.rename (h:M cx ρ F s a w) {s':St} (g:Nat→Nat) {F':Nat→Prop} (hs:∀ d,s'.sl d=.undef∨(s'.sl d).ren g=s.sl d) (hp:∀ b k,s'.hp b=some k→s.hp (g b)=some (k.ren g))
  (hinj:∀ b b' k k',s'.hp b=some k→s'.hp b'=some k'→g b=g b'→b=b') (hF:∀ d,∀ b∈(s'.sl d).refs,F' b) (hFb:∀ b k,s'.hp b=some k→F' b∧∀ c∈k.refs,F' c) (hpin:∀ j,j<cx.np→g j=j∧F' j) (hgp:∀ b k,s'.hp b=some k→g b<cx.np→b<cx.np) :
  M cx (fun b=>ρ (g b)) F' s' a w:=by
 have hI:∀ r,r<w.heap.size→cx.I ρ s r→cx.I (fun b=>ρ (g b)) s' r:=fun r _ hi=>⟨hi.1,fun b k hk hr=>hi.2 (g b) _ (hp b k hk) hr⟩
 refine ⟨h.os,h.tape,h.output,h.size,h.keeps,?_,?_,?_,?_,hF,hFb,fun b=>h.rho _,h.defers,h.tsize,fun j hj=>⟨by rw [(hpin j hj).1]; exact (h.pin j hj).1,(hpin j hj).2⟩⟩
 ·intro d
  rcases hs d with hd | hd
  ·rw [hd]; trivial
  ·have h1:=h.slots d
   rw [← hd] at h1
   exact h1.ren.mono (fun _ _=>rfl) (Pres.refl _ _) hI
 ·intro b k hk
  have h1:=h.blks (g b) _ (hp b k hk)
  exact h1.ren.mono (fun _ _=>rfl) (Pres.refl _ _) hI (fun _ _=>rfl)
 ·intro b b' k k' r h1 h2 h3 h4
  exact hinj b b' k k' h1 h2 (h.sep (g b) (g b') _ _ r (hp b k h1) (hp b' k' h2) h3 h4)
 ·intro b k r h1 h2
  have:=h.fresh (g b) _ r (hp b k h1) h2
  exact ⟨this.1.imp id fun h=>⟨h.1,hgp b k h1 h.2⟩,this.2⟩
def meltV (np:Nat) (hp:Nat→Option Blk):(ty:Ty)→ty.den→(t:Ty)→Option (t.den × List Nat)
 | .pair a b,x,t=>match t with
  | .pair a' b'=>match meltV np hp a x.1 a' with
   | some (y,l)=>match meltV np hp b x.2 b' with
    | some (z,m)=>some ((y,z),l++m)
    | none=>none
   | none=>none
  | _=>none
 | .own,b,t=>match t with
  | .slice e=>match hp b with
   | some (.row e' l _)=>match Nat.ble np b with
    | true=>(Ty.as? (.slice e') (.slice e) l).map fun y=>(y,[b])
    | false=>none
   | _=>none
  | _=>none
 | .nil,_,t=>match t with
  | .slice _=>some ([],[])
  | _=>none
 | ty,x,t=>(Ty.as? ty t x).map fun y=>(y,[])
def dropAll (hp:Nat→Option Blk) (bs:List Nat):Nat→Option Blk:=bs.foldl (fun h b=>upd h b none) hp
def runCmd (n np:Nat) (q:Cmd) (nx:Nat) (s:St):Nat × St :=
 match q with
 | .own d e tid=>match s.sl d with
  | .nil=>(nx+1,⟨putS n s.sl (some d) (.val .own nx),upd s.hp nx (some (.row e [] tid)),s.ok⟩)
  | .val .own _=>(nx,⟨s.sl,s.hp,s.ok⟩)
  | _=>(nx,⟨s.sl,s.hp,False⟩)
 | .ownF b off e tid=>match s.hp b with
  | some (.cells ty x)=>match comp ty x off .nil,setX ty x off .nil ⟨.own,nx⟩ with
   | some _,some u=>(nx+1,⟨s.sl,upd (upd s.hp nx (some (.row e [] tid))) b (some (.cells u.t u.x)),s.ok⟩)
   | _,_=>(nx,⟨s.sl,s.hp,False⟩)
  | _=>(nx,⟨s.sl,s.hp,False⟩)
 | .deepF b off e=>match s.hp b with
  | some (.cells ty x)=>match comp ty x off .nil,setX ty x off .nil ⟨.slice e,([]:List e.den)⟩ with
   | some _,some u=>(nx,⟨s.sl,upd s.hp b (some (.cells u.t u.x)),s.ok⟩)
   | _,_=>(nx,⟨s.sl,s.hp,False⟩)
  | _=>(nx,⟨s.sl,s.hp,False⟩)
 | .frzF b off=>match s.hp b with
  | some (.cells ty x)=>match comp ty x off .own with
   | some b'=>match s.hp b' with
    | some (.row e l _)=>match Nat.ble np b',setX ty x off .own ⟨.slice e,l⟩ with
     | true,some u=>(nx,⟨s.sl,upd (upd s.hp b' none) b (some (.cells u.t u.x)),s.ok⟩)
     | _,_=>(nx,⟨s.sl,s.hp,False⟩)
    | _=>(nx,⟨s.sl,s.hp,False⟩)
   | none=>(nx,⟨s.sl,s.hp,False⟩)
  | _=>(nx,⟨s.sl,s.hp,False⟩)
 | .melt d t=>match s.sl d with
  | .val ty x=>match meltV np s.hp ty x t with
   | some (y,bs)=>match t.deep with
    | true=>(nx,⟨putS n s.sl (some d) (.val t y),dropAll s.hp bs,s.ok⟩)
    | false=>(nx,⟨s.sl,s.hp,False⟩)
   | none=>(nx,⟨s.sl,s.hp,False⟩)
  | _=>(nx,⟨s.sl,s.hp,False⟩)
 | .deep d e=>match s.sl d with
  | .nil=>(nx,⟨putS n s.sl (some d) (.val (.slice e) []),s.hp,s.ok⟩)
  | .val .own b=>match s.hp b with
   | some (.row e l _)=>match Nat.ble np b with
    | true=>(nx,⟨putS n s.sl (some d) (.val (.slice e) l),upd s.hp b none,s.ok⟩)
    | false=>(nx,⟨s.sl,s.hp,False⟩)
   | _=>(nx,⟨s.sl,s.hp,False⟩)
  | _=>(nx,⟨s.sl,s.hp,False⟩)
 | .freeze d=>match s.sl d with
  | .val .own b=>match s.hp b with
   | some (.row e l _)=>match Nat.ble np b with
    | true=>(nx,⟨putS n s.sl (some d) (.val (.slice e) l),upd s.hp b none,s.ok⟩)
    | false=>(nx,⟨s.sl,s.hp,False⟩)
   | _=>(nx,⟨s.sl,s.hp,False⟩)
  | _=>(nx,⟨s.sl,s.hp,False⟩)
def runCmds (n np:Nat):List Cmd→Nat→St→Nat × St
 | [],nx,s=>(nx,s)
 | q :: qs,nx,s=>match runCmd n np q nx s with
  | (nx',s')=>runCmds n np qs nx' s'
theorem put_self {a:Act} {d:Nat} {n:Nat} (hn:a.tmps.size=n):(a.put (some d) (a.tmps.getD d undef))=a:=by
 obtain ⟨t,df⟩:=a
 simp only [Act.put,Act.mk.injEq,and_true]
 apply Array.ext_getElem?
 intro i
 by_cases h:d=i
 ·subst h
  by_cases hlt:d<t.size
  ·simp [hlt,Array.getD_eq_getD_getElem?]
  ·simp [hlt]
 ·rw [Array.getElem?_setIfInBounds_ne h]
theorem cmd_mono {n np:Nat} {q:Cmd} {nx:Nat} {s:St} (h:(runCmd n np q nx s).2.ok):s.ok:=by
 unfold runCmd at h
 split at h
 all_goals repeat' first | exact h | exact h.elim | split at h
theorem row_reads {F:Nat→Prop} (hM:M cx ρ F s a w) (b:Nat) (hnp:cx.np≤b) {e:Ty} {l:List e.den} {tid:TypeId} (hb:s.hp b=some (.row e l tid)) :
  RdV cx.P (.slice e) ρ w (cx.I ρ ⟨s.sl,upd s.hp b none,s.ok⟩) l (ρ b):=by
 obtain ⟨xs,⟨h0,hro⟩,hrd⟩:=hM.blks b _ hb
 have hIsub:∀ r,r<w.heap.size→cx.I ρ s r→cx.I ρ ⟨s.sl,upd s.hp b none,s.ok⟩ r:=fun r _ hi=>⟨hi.1,fun c k' hc hrr=>by
  by_cases e:c=b
  ·change upd s.hp b none c=some k' at hc
   rw [e,upd_same] at hc; cases hc
  ·change upd s.hp b none c=some k' at hc
   rw [upd_ne _ _ e] at hc
   exact hi.2 c k' hc hrr⟩
 rcases hro with ⟨A0,h1,h2⟩ | ⟨g,cap,cur,h1,hcp,_,h3,h4,h5,h6,h7⟩
 ·have hl0:l=[]:=List.eq_nil_of_length_eq_zero h2
  subst hl0
  rw [h1]
  exact ⟨[.slice A0 0 0],rfl,A0,0,rfl,Nat.le_refl _,.inl rfl⟩
 ·rw [h1]
  have hreal:real (ρ b)=some g:=by rw [h1]; exact real_slice hcp
  have hfr:=hM.fresh b _ g hb hreal
  refine ⟨[.slice (some ⟨g,0,none⟩) l.length cap],rfl,some ⟨g,0,none⟩,cap,rfl,h4,?_⟩
  by_cases hl0:l=[]
  ·exact .inl hl0
  ·refine .inr ⟨⟨g,0,none⟩,rfl,rfl,⟨.inr (hfr.1.resolve_right (fun h=>Nat.not_lt.2 hnp h.2)),fun c k' hc hrr=>?_⟩,hfr.2,fun i y hy=>?_⟩
   ·change upd s.hp b none c=some k' at hc
    by_cases e:c=b
    ·rw [e,upd_same] at hc; cases hc
    ·rw [upd_ne _ _ e] at hc
     exact e (hM.sep c b k' _ g hc hb hrr hreal)
   ·have hi:i<l.length:=(List.getElem?_eq_some_iff.1 hy).1
    obtain ⟨pre,ci,post,g1,g2,g3,_⟩:=elemAt hrd hi e.zero
    have hyy:l.getD i e.zero=y:=by simp only [List.getD]; rw [show l[i]?=some y from hy]; rfl
    rw [hyy] at g3
    refine ⟨ci,?_,g3.mono (Pres.refl _ _) hIsub⟩
    have hcur:cur.toList=pre++ci++(post++cur.toList.drop (l.length*e.size)):=by
     have:=List.take_append_drop (l.length*e.size) cur.toList
     rw [h7,g1] at this
     rw [← List.append_assoc]; exact this.symm
    have:=CellsAt_of_row h3 hcur
    rw [g2] at this
    rw [add_none,Nat.zero_add]
    exact this
theorem freeze_sound {nx:Nat} (hM:M cx ρ (fun b=>b<nx) s a w) {d:Nat} (b:Nat) (hnp:cx.np≤b) {e:Ty} {l:List e.den} {tid:TypeId} (_hd:s.sl d=.val .own b) (hb:s.hp b=some (.row e l tid)) (hv:a.tmps.getD d undef=ρ b) :
  ∃ ρ',M cx ρ' (fun b=>b<nx) ⟨putS cx.n s.sl (some d) (.val (.slice e) l),upd s.hp b none,s.ok⟩ a w:=by
 have hdrop:=M.drop hM b s.ok
 have hrd:=row_reads hM b hnp hb
 have hput:=M.put hdrop (some d) (av:=.val (.slice e) l) (v:=ρ b) hrd (fun b hb=>by cases hb) s.ok
 rw [← hv,put_self hM.tsize] at hput
 exact ⟨_,hput⟩
theorem I_less {sl sl':Nat→AV} {hp hp':Nat→Option Blk} {ok ok':Prop} (h:∀ c k,hp' c=some k→∃ k',hp c=some k') {r:Nat} (hi:cx.I ρ ⟨sl,hp,ok⟩ r):cx.I ρ ⟨sl',hp',ok'⟩ r :=
 ⟨hi.1,fun c k hk hr=>by
  obtain ⟨k',hk'⟩:=h c k hk
  exact hi.2 c k' hk' hr⟩
theorem dropAll_some:∀ {bs:List Nat} {hp:Nat→Option Blk} {c:Nat} {k:Blk},dropAll hp bs c=some k→hp c=some k∧c ∉ bs:=by
 intro bs
 induction bs with
 | nil=>intro hp c k h; exact ⟨h,by simp⟩
 | cons b bs ih =>
  intro hp c k h
  obtain ⟨h1,h2⟩:=ih (hp:=upd hp b none) h
  by_cases e:c=b
  ·subst e; rw [upd_same] at h1; cases h1
  ·rw [upd_ne _ _ e] at h1
   exact ⟨h1,by simp [e,h2]⟩
theorem M.dropAll {F:Nat→Prop}:∀ {bs:List Nat} {s:St},M cx ρ F s a w→M cx ρ F ⟨s.sl,Sx.dropAll s.hp bs,s.ok⟩ a w:=by
 intro bs
 induction bs with
 | nil=>intro s h; exact h
 | cons b bs ih=>intro s h; exact ih (M.drop h b s.ok)
theorem melt_agg {np:Nat} {hp:Nat→Option Blk} {ty:Ty} {x:ty.den} {t:Ty} {y:t.den} {bs:List Nat} (h:meltV np hp ty x t=some (y,bs)):ty.agg=t.agg:=by
 have base:∀ (ty:Ty) (x:ty.den),((Ty.as? ty t x).map fun y=>(y,([]:List Nat)))=some (y,bs)→ty.agg=t.agg:=by
  intro ty x h
  obtain ⟨z,hz,_⟩:=Option.map_eq_some_iff.1 h
  obtain ⟨rfl,_⟩:=Ty.as?_some hz
  rfl
 cases ty with
 | pair a b=>cases t <;> first | rfl | cases h
 | own=>cases t <;> first | rfl | cases h
 | nil=>cases t <;> first | rfl | cases h
 | _=>exact base _ x h
theorem melt_sound {F:Nat→Prop} (hM:M cx ρ F s a w):∀ {ty:Ty} {x:ty.den} {t:Ty} {y:t.den} {bs:List Nat} {cs:List Value},meltV cx.np s.hp ty x t=some (y,bs)→Rd cx.P ty false ρ w (cx.I ρ s) x cs →
  ∀ {bs':List Nat},(∀ b∈bs,b∈bs')→Rd cx.P t false ρ w (cx.I ρ ⟨s.sl,Sx.dropAll s.hp bs',s.ok⟩) y cs:=by
 have grow:∀ (bs':List Nat) r,r<w.heap.size→cx.I ρ s r→cx.I ρ ⟨s.sl,Sx.dropAll s.hp bs',s.ok⟩ r:=fun bs' r _ hi=>I_less (fun c k hk=>⟨k,(dropAll_some hk).1⟩) hi
 have base:∀ (ty:Ty) (x:ty.den) (t:Ty) (y:t.den) (bs:List Nat) (cs:List Value),((Ty.as? ty t x).map fun y=>(y,([]:List Nat)))=some (y,bs)→Rd cx.P ty false ρ w (cx.I ρ s) x cs →
   ∀ (bs':List Nat),Rd cx.P t false ρ w (cx.I ρ ⟨s.sl,Sx.dropAll s.hp bs',s.ok⟩) y cs:=by
  intro ty x t y bs cs h hr bs'
  obtain ⟨z,hz,he⟩:=Option.map_eq_some_iff.1 h
  obtain ⟨rfl,rfl⟩:=Ty.as?_some hz
  obtain ⟨rfl,_⟩:=Prod.mk.inj he
  exact hr.mono (Pres.refl _ _) (grow bs')
 intro ty
 induction ty with
 | pair p q ihp ihq =>
  intro x t y bs cs h hr bs' hb
  cases t with
  | pair a' b' =>
   simp only [meltV] at h
   split at h
   ·rename_i y1 l h1
    split at h
    ·rename_i z m h2
     obtain ⟨rfl,rfl⟩:=Prod.mk.inj (Option.some.inj h)
     obtain ⟨c1,c2,rfl,r1,r2⟩:=hr
     exact ⟨c1,c2,rfl,ihp h1 r1 (fun b h=>hb b (List.mem_append.2 (.inl h))),ihq h2 r2 (fun b h=>hb b (List.mem_append.2 (.inr h)))⟩
    ·cases h
   ·cases h
  | _=>cases h
 | own =>
  intro x t y bs cs h hr bs' hb
  cases t with
  | slice e =>
   simp only [meltV] at h
   split at h
   ·rename_i e' l tid hk
    split at h
    ·rename_i hnp
     obtain ⟨z,hz,he⟩:=Option.map_eq_some_iff.1 h
     obtain ⟨he',rfl⟩:=Ty.as?_some hz
     cases he'
     obtain ⟨rfl,rfl⟩:=Prod.mk.inj he
     have hr:cs=[ρ x]:=hr
     subst hr
     obtain ⟨cc,h1,h2⟩:=row_reads hM x (Nat.le_of_ble_eq_true hnp) hk
     have h1:ρ x=cc.headD undef:=h1
     have hl:cc.length=1:=h2.length
     obtain ⟨v,rfl⟩:∃ v,cc=[v]:=by
      match cc,hl with
      | [v],_=>exact ⟨v,rfl⟩
     rw [h1]
     refine h2.mono (Pres.refl _ _) fun r _ hi=>I_less (fun c k hk=>⟨k,?_⟩) hi
     obtain ⟨g1,g2⟩:=dropAll_some hk
     have hne:c≠x:=fun e=>g2 (e ▸ hb x (List.mem_singleton.2 rfl))
     show upd s.hp x none c=some k
     rw [upd_ne _ _ hne]
     exact g1
    ·cases h
   ·cases h
  | _=>cases h
 | nil =>
  intro x t y bs cs h hr bs' hb
  cases t with
  | slice e =>
   simp only [meltV] at h
   obtain ⟨rfl,rfl⟩:=Prod.mk.inj (Option.some.inj h)
   have hr:cs=[.slice none 0 0]:=hr
   subst hr
   exact ⟨none,0,rfl,Nat.le_refl _,.inl rfl⟩
  | _=>cases h
 | _=>intro x t y bs cs h hr bs' _; exact base _ x t y bs cs h hr bs'
theorem M.reread {F:Nat→Prop} {s:St} {ρ:Nat→Value} (hM:M cx ρ F s a w) {b:Nat} {ty:Ty} {x:ty.den} {off:Nat} {l:Ty} {y:l.den} {v u:TV} (hb:s.hp b=some (.cells ty x)) (hc:comp ty x off l=some y) (hs:setX ty x off l v=some u)
  (hv:∀ c,Rd cx.P l false ρ w (cx.I ρ s) y c→Rd cx.P v.t false ρ w (cx.I ρ s) v.x c) (hF:∀ c∈v.t.refs v.x,F c):M cx ρ F ⟨s.sl,upd s.hp b (some (.cells u.t u.x)),s.ok⟩ a w:=by
 refine M.set hM s.ok hb rfl (Tp.refl _) rfl rfl (fun _ _=>rfl) ?_ (fun c hc'=>?_) rfl
 ·obtain ⟨r,tid,cur,h1,h2,h3⟩:=hM.blks b _ hb
  exact ⟨r,tid,cur,h1,h2,setX_same h3 hc hs hv⟩
 ·rcases setX_refs hs c hc' with h | h
  ·exact (hM.brefs b _ hb).2 c h
  ·exact hF c h
theorem cmd_sound {q:Cmd} {nx:Nat} (hM:M cx ρ (fun b=>b<nx) s a w) (hok:(runCmd cx.n cx.np q nx s).2.ok):∃ ρ',M cx ρ' (fun b=>b<(runCmd cx.n cx.np q nx s).1) (runCmd cx.n cx.np q nx s).2 a w:=by
 have lt_of:∀ {b:Nat},b<nx∨b=nx→b<nx+1:=fun h=>by rcases h with h | h <;> omega
 cases q with
 | own d e tid =>
  simp only [runCmd] at hok ⊢
  split at hok
  ·rename_i hd
   have hv:a.tmps.getD d undef=.slice none 0 0:=by have:=hM.slots d; rw [hd] at this; exact this
   have hnew:=M.new (k:=.row e [] tid) (v:=.slice none 0 0) hM (Nat.lt_irrefl _) s.ok (Below.refl _ _) (fun r hr=>by cases hr) rfl ⟨[],World.rowOf_of (World.ownsRow_nil _ _ _ _),rfl,[],rfl,rfl,fun i x c hx=>by cases hx⟩ (fun b hb=>by cases hb)
   have hput:=M.put hnew (some d) (av:=.val .own nx) (v:=.slice none 0 0) ⟨[.slice none 0 0],rfl,by show _=[upd ρ nx _ nx]; rw [upd_same]⟩ (fun b hb=>.inr (List.mem_singleton.1 hb)) s.ok
   rw [← hv,put_self hM.tsize] at hput
   exact ⟨_,hput.widen fun b hb=>lt_of hb⟩
  ·exact ⟨ρ,hM⟩
  ·exact hok.elim
 | deep d e =>
  simp only [runCmd] at hok ⊢
  split at hok
  ·rename_i hd
   have hv:a.tmps.getD d undef=.slice none 0 0:=by have:=hM.slots d; rw [hd] at this; exact this
   have hput:=M.put hM (some d) (av:=.val (.slice e) []) (v:=.slice none 0 0) ⟨[.slice none 0 0],rfl,none,0,rfl,Nat.le_refl _,.inl rfl⟩ (fun b hb=>by cases hb) s.ok
   rw [← hv,put_self hM.tsize] at hput
   exact ⟨_,hput⟩
  ·rename_i b hd
   split at hok
   ·rename_i e l tid hb
    split at hok
    ·rename_i hnp
     have hv:a.tmps.getD d undef=ρ b:=by have:=hM.slots d; rw [hd] at this; exact RV_own this
     exact freeze_sound hM b (Nat.le_of_ble_eq_true hnp) hd hb hv
    ·exact hok.elim
   ·exact hok.elim
  ·exact hok.elim
 | freeze d =>
  simp only [runCmd] at hok ⊢
  split at hok
  ·rename_i b hd
   split at hok
   ·rename_i e l tid hb
    split at hok
    ·rename_i hnp
     have hv:a.tmps.getD d undef=ρ b:=by have:=hM.slots d; rw [hd] at this; exact RV_own this
     exact freeze_sound hM b (Nat.le_of_ble_eq_true hnp) hd hb hv
    ·exact hok.elim
   ·exact hok.elim
  ·exact hok.elim
 | ownF b off e tid =>
  simp only [runCmd] at hok ⊢
  split at hok
  ·rename_i ty x hb
   split at hok
   ·rename_i y u hc hs
    have hlt:b<nx:=(hM.brefs b _ hb).1
    have hnew:=M.new (k:=.row e [] tid) (v:=.slice none 0 0) hM (Nat.lt_irrefl _) s.ok (Below.refl _ _) (fun r hr=>by cases hr) rfl ⟨[],World.rowOf_of (World.ownsRow_nil _ _ _ _),rfl,[],rfl,rfl,fun i x c hx=>by cases hx⟩ (fun b hb=>by cases hb)
    have hb':upd s.hp nx (some (.row e [] tid)) b=some (.cells ty x):=by rw [upd_ne _ _ (by omega)]; exact hb
    have h2:=M.reread (v:=⟨.own,nx⟩) hnew hb' hc hs (fun c hcc=>by
     have hcc:c=[.slice none 0 0]:=hcc
     subst hcc
     show _=[upd ρ nx _ nx]
     rw [upd_same]) (fun c hc'=>.inr (List.mem_singleton.1 hc'))
    exact ⟨_,h2.widen fun b hb=>lt_of hb⟩
   ·exact hok.elim
  ·exact hok.elim
 | deepF b off e =>
  simp only [runCmd] at hok ⊢
  split at hok
  ·rename_i ty x hb
   split at hok
   ·rename_i y u hc hs
    exact ⟨ρ,M.reread (v:=⟨.slice e,([]:List e.den)⟩) hM hb hc hs (fun c hcc=>by
     have hcc:c=[.slice none 0 0]:=hcc
     subst hcc
     exact ⟨none,0,rfl,Nat.le_refl _,.inl rfl⟩) (fun c hc'=>by cases hc')⟩
   ·exact hok.elim
  ·exact hok.elim
 | frzF b off =>
  simp only [runCmd] at hok ⊢
  split at hok
  ·rename_i ty x hb
   split at hok
   ·rename_i b' hc
    split at hok
    ·rename_i e l tid hb'
     split at hok
     ·rename_i u hnp hs
      have hne:b≠b':=fun h=>by rw [h,hb'] at hb; cases hb
      have hbb:upd s.hp b' none b=some (.cells ty x):=by rw [upd_ne _ _ hne]; exact hb
      have hr:=row_reads hM b' (Nat.le_of_ble_eq_true hnp) hb'
      refine ⟨ρ,M.reread (v:=⟨.slice e,l⟩) (M.drop hM b' s.ok) hbb hc hs (fun c hcc=>?_) (fun c hc'=>by cases hc')⟩
      have hcc:c=[ρ b']:=hcc
      subst hcc
      obtain ⟨cc,h1,h2⟩:=hr
      have h1:ρ b'=cc.headD undef:=h1
      have hl:cc.length=1:=h2.length
      obtain ⟨v,rfl⟩:∃ v,cc=[v]:=by
       match cc,hl with
       | [v],_=>exact ⟨v,rfl⟩
      rw [h1]
      exact h2
     ·exact hok.elim
    ·exact hok.elim
   ·exact hok.elim
  ·exact hok.elim
 | melt d t =>
  simp only [runCmd] at hok ⊢
  split at hok
  ·rename_i ty x hd
   split at hok
   ·rename_i y bs hm
    split at hok
    ·rename_i hdeep
     have hv:=hM.slots d
     rw [hd] at hv
     obtain ⟨cs,hv,hr⟩:=hv
     have hr2:=melt_sound hM hm hr (bs':=bs) (fun b h=>h)
     have hput:=M.put (M.dropAll (bs:=bs) hM) (some d) (av:=.val t y) (v:=a.tmps.getD d undef) ⟨cs,by rw [hv]; unfold mkV; rw [melt_agg hm],hr2⟩ (fun b hb=>by
      have hb:b∈t.refs y:=hb
      rw [Ty.deep_refs hdeep] at hb; cases hb) s.ok
     rw [put_self hM.tsize] at hput
     exact ⟨ρ,hput⟩
    ·exact hok.elim
   ·exact hok.elim
  ·exact hok.elim
theorem cmds_mono {n np:Nat}:∀ {qs:List Cmd} {nx:Nat} {s:St},(runCmds n np qs nx s).2.ok→s.ok:=by
 intro qs
 induction qs with
 | nil=>intro nx s h; exact h
 | cons q qs ih=>intro nx s h; exact cmd_mono (ih h)
theorem cmds_sound:∀ {qs:List Cmd} {nx:Nat} {s:St} {ρ:Nat→Value},M cx ρ (fun b=>b<nx) s a w→(runCmds cx.n cx.np qs nx s).2.ok →
  ∃ ρ',M cx ρ' (fun b=>b<(runCmds cx.n cx.np qs nx s).1) (runCmds cx.n cx.np qs nx s).2 a w:=by
 intro qs
 induction qs with
 | nil=>intro nx s ρ hM _; exact ⟨ρ,hM⟩
 | cons q qs ih =>
  intro nx s ρ hM hok
  obtain ⟨ρ',hM'⟩:=cmd_sound hM (cmds_mono (qs:=qs) hok)
  exact ih hM' hok
end
def pinB (g:List (Nat × Nat)) (n:Nat):Nat→Bool
 | 0=>true
 | j+1=>(Nat.beq (ren g j) j && Nat.blt j n) && pinB g n j
theorem pinB_sound {g:List (Nat × Nat)} {n:Nat}:∀ {m:Nat},pinB g n m=true→∀ j,j<m→ren g j=j∧j<n:=by
 intro m
 induction m with
 | zero=>intro _ j hj; omega
 | succ m ih =>
  intro h j hj
  simp only [pinB,Bool.and_eq_true] at h
  by_cases e:j=m
  ·subst e; exact ⟨Nat.eq_of_beq_eq_true h.1.1,blt_true h.1.2⟩
  ·exact ih h.2 j (by omega)
def SL.okB (s:SL) (g:List (Nat × Nat)) (n:Nat) (pin:Nat):Bool :=
 (pinB g n pin && (s.hp.all fun x=>!(Nat.blt (ren g x.1) pin) || Nat.blt x.1 pin)) && (s.sl.all fun x=>x.2.refs.all (Nat.blt · n)) && ((s.hp.all fun x=>Nat.blt x.1 n && x.2.refs.all (Nat.blt · n)) &&
  (s.hp.all fun x=>s.hp.all fun y=>Nat.beq x.1 y.1 || !(Nat.beq (ren g x.1) (ren g y.1))))
def Shows (g:List (Nat × Nat)) (pre:SL) (s:St):Prop :=
 pre.sl.map (fun x=>x.2.ren (ren g))=pre.sl.map (fun x=>s.sl x.1)∧pre.hp.map (fun x=>some (x.2.ren (ren g)))=pre.hp.map (fun x=>s.hp (ren g x.1))
theorem M.shown {cx:Cx} {ρ:Nat→Value} {F:Nat→Prop} {s:St} {a:Act} {w:World} (h:M cx ρ F s a w) {g:List (Nat × Nat)} {pre:SL} {n:Nat} {pin:Nat} (hs:Shows g pre s) (hb:pre.okB g n pin=true) (hE:cx.np=pin) :
  M cx (fun b=>ρ (ren g b)) (fun b=>b<n) pre.st a w:=by
 simp only [SL.okB,Bool.and_eq_true] at hb
 obtain ⟨⟨h0,h1⟩,h2,h3⟩:=hb
 refine M.rename h (ren g) (s':=pre.st) ?_ ?_ ?_ ?_ ?_ ?_ ?_
 ·intro d
  show lookS pre.sl d=.undef∨(lookS pre.sl d).ren (ren g)=s.sl d
  unfold lookS
  cases hf:find pre.sl d with
  | none=>exact .inl rfl
  | some v=>exact .inr (find_of_map (g:=fun x:Nat × AV=>x.2.ren (ren g)) (h:=s.sl) hs.1 hf)
 ·intro b k hk
  have:=find_of_map (g:=fun x:Nat × Blk=>some (x.2.ren (ren g))) (h:=fun b=>s.hp (ren g b)) hs.2 hk
  exact this.symm
 ·intro b b' k k' hk hk' he
  have m1:=find_mem hk
  have m2:=find_mem hk'
  have:=List.all_eq_true.1 (List.all_eq_true.1 h3 _ m1) _ m2
  simp only [Bool.or_eq_true,Bool.not_eq_true'] at this
  rcases this with h | h
  ·exact Nat.eq_of_beq_eq_true h
  ·rw [he] at h
   simp at h
 ·intro d b hb
  change b∈(lookS pre.sl d).refs at hb
  unfold lookS at hb
  split at hb
  ·rename_i v hf
   have:=List.all_eq_true.1 (List.all_eq_true.1 h1 _ (find_mem hf)) b hb
   exact blt_true this
  ·cases hb
 ·intro b k hk
  have:=List.all_eq_true.1 h2 _ (find_mem hk)
  simp only [Bool.and_eq_true] at this
  exact ⟨blt_true this.1,fun c hc=>blt_true (List.all_eq_true.1 this.2 c hc)⟩
 ·intro j hj
  exact pinB_sound h0.1 j (hE ▸ hj)
 ·intro b k hk hlt
  have:=List.all_eq_true.1 h0.2 _ (find_mem hk)
  simp only [Bool.or_eq_true,Bool.not_eq_true'] at this
  rcases this with h | h
  ·exact absurd (hE ▸ hlt) (blt_false h)
  ·rw [hE]; exact blt_true h
end Go.Sx
namespace Go.Sx
def maskOf (o:Oper) (acc:List Nat):Nat:=o.after.toList.foldl (fun m e=>match Region.binds .any e with
 | true=>m ||| 2 ^ e.on ||| acc.getD e.on 0
 | false=>m) 0
def masks:List Oper→List Nat→List Nat
 | [],acc=>acc
 | o :: os,acc=>masks os (acc++[maskOf o acc])
def needs:List Oper→Nat
 | []=>0
 | o :: os=>need o+needs os
def srcOf (s:St) (tb:List (Nat × Src)):Operand→Src
 | .tmp t=>match find tb t with
  | some k=>k
  | none=>match s.sl t with
   | .val .ptr p=>.blk p.b
   | .val .own b=>.blk b
   | .val .clo g=>.many (g.2.map (·.b))
   | .val _ _=>.data
   | .imm _ _ _=>.data
   | .nil=>.data
   | _=>.unk
 | .const _=>.data
 | .func _=>.data
 | _=>.unk
def isH (c:Ctx):Operand→Bool
 | .func f=>match find c.hs f with
  | some _=>true
  | none=>false
 | .tmp _=>!c.hs.isEmpty
 | _=>false
def refsIn (s:St) (l:List Nat):List Nat:=l.flatMap fun b=>match s.hp b with
 | some k=>k.refs
 | none=>[]
def deepL (s:St) (l:List Nat):List Nat:=l++(refsIn s l++refsIn s (refsIn s l))
def deepS (s:St):Src→Src
 | .blk b=>.many (deepL s [b])
 | .two b c=>.many (deepL s [b,c])
 | .many l=>.many (deepL s l)
 | k=>k
def srcs (c:Ctx) (s:St):Nat→List Oper→List (Nat × Src)→List Src
 | _,[],_=>[]
 | n,o :: os,tb=>(match o.op with
   | .load _ x=>srcOf s tb x
   | .store _ x _=>srcOf s tb x
   | .indexAddr _ x _=>srcOf s tb x
   | .slice _ x _ _ _=>srcOf s tb x
   | .call q=>match q.callee,q.args.toList with
    | .builtin .len,[x]=>srcOf s tb x
    | .builtin .append,[x,y]=>(srcOf s tb x).with (srcOf s tb y)
    | .value f,xs=>match wrOp c f || isH c f with
     | true=>deepS s ((f :: xs).foldr (fun y k=>(srcOf s tb y).with k) .data)
     | false=>.unk
    | _,_=>.unk
   | _=>.unk) :: srcs c s (n+1) os (match o.dst with
   | none=>tb
   | some t=>(t,match o.op with
    | .alloc _=>.blk n
    | .box _ _=>.blk n
    | .buildSlice _ _ _=>.blk n
    | .fieldAddr _ x _=>srcOf s tb x
    | .indexAddr _ x _=>srcOf s tb x
    | .nilCheck x=>srcOf s tb x
    | .move x=>srcOf s tb x
    | .assign x=>srcOf s tb x
    | .load _ x=>match srcOf s tb x with
     | .blk b=>match s.hp b with
      | some k=>match k.refs with
       | []=>.data
       | l=>.many l
      | none=>.data
     | _=>.data
    | _=>.unk) :: tb)
def regOf (P:Program) (c:Ctx) (nx:Nat) (ops:Array Oper) (as:List Ans) (src:List Src):Reg:=⟨src,P,c,nx,ops,masks ops.toList [],dist ops.toList as⟩
def srcIn (c:Ctx) (draw:Bool) (s:St) (nx:Nat) (ops:Array Oper):List Src:=match draw with
 | true=>srcs c s nx ops.toList []
 | false=>[]
def Ex.to:Ex→Exit
 | .normal=>.normal
 | .exit id=>.exit id
 | .ret=>.ret
def Triple (P:Program) (c:Ctx) (code:Code) (n0:Nat) (pre:SL) (ex:Ex) (n1:Nat) (post:SL):Prop :=
 ∀ (cx:Cx) (ρ:Nat→Value) (a:Act) (w:World) (Q:Exit→Act→World→Prop),cx.P=P→cx.n=c.n→cx.np=c.pin→M cx ρ (fun b=>b<n0) pre.st a w →
  (∀ ρ' a' w',M cx ρ' (fun b=>b<n1) post.st a' w'→Q ex.to a' w')→code.wp P Q a w
def CutOk (P:Program) (c:Ctx) (code:Code) (d:CutD) (nx:Nat) (s:St):Prop :=
 match runCmds c.n c.pin d.cmds nx s with
 | (_,s')=>s'.ok∧(Shows d.g d.pre s'∧(d.pre.okB d.g d.n0 c.pin=true∧Triple P c code d.n0 d.pre d.ex d.n1 d.post))
def inBlock (id:Nat):Ex→Ex
 | .exit id'=>match Nat.beq id' id with
  | true=>.normal
  | false=>.exit id'
 | ex=>ex
def cutOf (id:Nat):List Ans→Option (CutD × List Ans)
 | .cutR i d :: as=>match Nat.beq i id with
  | true=>some (d,as)
  | false=>none
 | _=>none
def exec (P:Program) (c:Ctx):Code→Nat→St→List Ans→(Ex→Nat→St→List Ans→Prop)→Prop
 | .skip,nx,s,as,k=>k .normal nx s as
 | .ret,nx,s,as,k=>k .ret nx s as
 | .exit id,nx,s,as,k=>k (.exit id) nx s as
 | .seq a b,nx,s,as,k=>exec P c a nx s as fun ex nx' s' as'=>match ex with
  | .normal=>exec P c b nx' s' as' k
  | .exit id=>k (.exit id) nx' s' as'
  | .ret=>k .ret nx' s' as'
 | .block id body,nx,s,as,k=>exec P c body nx s as fun ex nx' s' as'=>k (inBlock id ex) nx' s' as'
 | .cond q x y,nx,s,as,k=>match as with
  | .dec t :: as'=>match s.ev q with
   | .val .bool b=>match t with
    | true=>exec P c x nx ⟨s.sl,s.hp,s.ok∧b=true⟩ as' k
    | false=>exec P c y nx ⟨s.sl,s.hp,s.ok∧b=false⟩ as' k
   | _=>False
  | .cut d :: as'=>s.ok∧CutOk P c (.cond q x y) d nx s∧k d.ex d.n1 d.post.st as'
  | .fork l r :: _=>match s.ev q with
   | .anyb p=>(p→exec P c x nx s l k)∧exec P c y nx s r k
   | _=>False
  | _=>False
 | .loop body,nx,s,as,k=>match as with
  | .cut d :: as'=>s.ok∧CutOk P c (.loop body) d nx s∧k d.ex d.n1 d.post.st as'
  | _=>False
 | .region id ops draw,nx,s,as,k=>match cutOf id as with
  | some (d,as')=>s.ok∧CutOk P c (.region id ops draw) d nx s∧k d.ex d.n1 d.post.st as'
  | none=>match draw && !(regOf P c nx ops as (srcIn c draw s nx ops)).chk with
   | true=>False
   | false=>k .normal (nx+ops.size) ((regOf P c nx ops as (srcIn c draw s nx ops)).run (fun _=>true) ops.size s) (as.drop (needs ops.toList))
 | _,_,_,_,_=>False
section
variable {P:Program} {c:Ctx}
theorem CutOk.sound {code:Code} {d:CutD} {nx:Nat} {s:St} (h:CutOk P c code d nx s) {cx:Cx} (hP:cx.P=P) (hn:cx.n=c.n) (hE:cx.np=c.pin) {ρ:Nat→Value} {a:Act} {w:World}
  (hM:M cx ρ (fun b=>b<nx) s a w) {Q:Exit→Act→World→Prop} (hQ:∀ ρ' a' w',M cx ρ' (fun b=>b<d.n1) d.post.st a' w'→Q d.ex.to a' w'):code.wp P Q a w:=by
 unfold CutOk at h
 rw [← hn,← hE] at h
 obtain ⟨h1,h2,h3,h4⟩:=h
 obtain ⟨ρ',hM'⟩:=cmds_sound hM h1
 exact h4 cx _ a w Q hP hn hE (hM'.shown h2 h3 rfl) hQ
theorem exec_ok:∀ (code:Code) {nx:Nat} {s:St} {as:List Ans} {k:Ex→Nat→St→List Ans→Prop},(∀ ex nx s as,k ex nx s as→s.ok)→exec P c code nx s as k→s.ok:=by
 intro code
 induction code with
 | skip=>intro nx s as k hk h; exact hk _ _ _ _ h
 | ret=>intro nx s as k hk h; exact hk _ _ _ _ h
 | exit id=>intro nx s as k hk h; exact hk _ _ _ _ h
 | seq x y ihx ihy =>
  intro nx s as k hk h
  refine ihx (fun ex nx' s' as' h'=>?_) h
  cases ex with
  | normal=>exact ihy hk h'
  | exit id=>exact hk _ _ _ _ h'
  | ret=>exact hk _ _ _ _ h'
 | block id body ih=>intro nx s as k hk h; exact ih (fun ex nx' s' as' h'=>hk _ _ _ _ h') h
 | cond q x y ihx ihy =>
  intro nx s as k hk h
  simp only [exec] at h
  split at h
  ·split at h
   ·split at h
    ·exact (ihx hk h).1
    ·exact (ihy hk h).1
   ·exact h.elim
  ·exact h.1
  ·split at h
   ·exact ihy hk h.2
   ·exact h.elim
  ·exact h.elim
 | loop body _ =>
  intro nx s as k hk h
  simp only [exec] at h
  split at h
  ·exact h.1
  ·exact h.elim
 | region id ops draw =>
  intro nx s as k hk h
  simp only [exec] at h
  split at h
  ·exact h.1
  ·split at h
   ·exact h.elim
   ·exact Reg.run_mono (hk _ _ _ _ h)
 | _=>intro nx s as k hk h; simp only [exec] at h
theorem inBlock_sound (id:Nat) (ex:Ex) {Q:Exit→Act→World→Prop} {a:Act} {w:World} (h:Q (inBlock id ex).to a w):Exit.inBlock id Q ex.to a w:=by
 cases ex with
 | normal=>exact h
 | ret=>exact h
 | exit id' =>
  show (if id'=id then Q .normal a w else Q (.exit id') a w)
  by_cases e:id'=id
  ·subst e
   simp only [inBlock] at h
   rw [if_pos rfl]
   have:Nat.beq id' id'=true:=Nat.beq_refl _
   rw [this] at h
   exact h
  ·rw [if_neg e]
   simp only [inBlock,beq_false e] at h
   exact h
theorem exec_sound (hc:CtxOk P c) (hmix:P.follows .mixedOrders=true) {cx:Cx} (hP:cx.P=P) (hn:cx.n=c.n) (hE:cx.np=c.pin):∀ (code:Code) {nx:Nat} {s:St} {as:List Ans} {k:Ex→Nat→St→List Ans→Prop}
  {ρ:Nat→Value} {a:Act} {w:World} {Q:Exit→Act→World→Prop},(∀ ex nx s as,k ex nx s as→s.ok)→exec P c code nx s as k→M cx ρ (fun b=>b<nx) s a w →
  (∀ ex nx' s' as' ρ' a' w',k ex nx' s' as'→M cx ρ' (fun b=>b<nx') s' a' w'→Q ex.to a' w')→code.wp P Q a w:=by
 subst hP
 intro code
 induction code with
 | skip=>intro nx s as k ρ a w Q hk h hM hQ; exact wp_skip (hQ _ _ _ _ _ _ _ h hM)
 | ret=>intro nx s as k ρ a w Q hk h hM hQ; exact wp_ret (hQ _ _ _ _ _ _ _ h hM)
 | exit id=>intro nx s as k ρ a w Q hk h hM hQ; exact wp_exit (hQ _ _ _ _ _ _ _ h hM)
 | seq x y ihx ihy =>
  intro nx s as k ρ a w Q hk h hM hQ
  have hk':∀ (ex:Ex) (nx':Nat) (s':St) (as':List Ans),(match ex with | .normal=>exec cx.P c y nx' s' as' k | .exit id=>k (.exit id) nx' s' as' | .ret=>k .ret nx' s' as')→s'.ok:=by
   intro ex nx' s' as' h'
   cases ex with
   | normal=>exact exec_ok y hk h'
   | exit id=>exact hk _ _ _ _ h'
   | ret=>exact hk _ _ _ _ h'
  refine wp_seq (ihx hk' h hM fun ex nx' s' as' ρ' a' w' h' hM'=>?_)
  cases ex with
  | normal=>exact ihy hk h' hM' hQ
  | exit id=>exact hQ _ _ _ _ _ _ _ h' hM'
  | ret=>exact hQ _ _ _ _ _ _ _ h' hM'
 | block id body ih =>
  intro nx s as k ρ a w Q hk h hM hQ
  exact wp_block (ih (fun ex nx' s' as' h'=>hk _ _ _ _ h') h hM fun ex nx' s' as' ρ' a' w' h' hM'=>inBlock_sound id ex (hQ _ _ _ _ _ _ _ h' hM'))
 | cond q x y ihx ihy =>
  intro nx s as k ρ a w Q hk h hM hQ
  simp only [exec] at h
  split at h
  ·rename_i t as'
   split at h
   ·rename_i b hq
    have hb:a.eval q=.bool b:=by have:=(hM.ev q).1; rw [hq] at this; exact RV_bool this
    split at h
    ·have hbt:b=true:=(exec_ok x hk h).2
     subst hbt
     exact wp_cond hb (ihx hk h (hM.okay _) hQ)
    ·have hbt:b=false:=(exec_ok y hk h).2
     subst hbt
     exact wp_cond hb (ihy hk h (hM.okay _) hQ)
   ·exact h.elim
  ·exact CutOk.sound h.2.1 rfl hn hE hM fun ρ' a' w' hM'=>hQ _ _ _ _ _ _ _ h.2.2 hM'
  ·split at h
   ·rename_i p hq
    have h1:=(hM.ev q).1
    rw [hq] at h1
    obtain ⟨b,hb,hp⟩:=h1
    cases b with
    | true=>exact wp_cond hb (ihx hk (h.1 (hp rfl)) hM hQ)
    | false=>exact wp_cond hb (ihy hk h.2 hM hQ)
   ·exact h.elim
  ·exact h.elim
 | loop body _ =>
  intro nx s as k ρ a w Q hk h hM hQ
  simp only [exec] at h
  split at h
  ·exact CutOk.sound h.2.1 rfl hn hE hM fun ρ' a' w' hM'=>hQ _ _ _ _ _ _ _ h.2.2 hM'
  ·exact h.elim
 | region id ops draw =>
  intro nx s as k ρ a w Q hk h hM hQ
  simp only [exec] at h
  split at h
  ·exact CutOk.sound h.2.1 rfl hn hE hM fun ρ' a' w' hM'=>hQ _ _ _ _ _ _ _ h.2.2 hM'
  ·split at h
   ·exact h.elim
   ·rename_i hch
    refine Reg.wp (R:=regOf cx.P c nx ops as (srcIn c draw s nx ops)) rfl hc hn.symm hE.symm hmix (fun hd=>?_) (hk _ _ _ _ h) hM (fun ρ' a' w' hM'=>hQ _ _ _ _ _ _ _ h hM') id
    subst hd
    simpa using hch
 | _=>intro nx s as k ρ a w Q hk h hM hQ; simp only [exec] at h
def Fin (c:Ctx) (cmds:List Cmd) (g:List (Nat × Nat)) (ex:Ex) (n1:Nat) (post:SL) (ex':Ex) (nx:Nat) (s:St) (_:List Ans):Prop :=
 match runCmds c.n c.pin cmds nx s with
 | (_,s')=>s'.ok∧(ex'=ex∧(Shows g post s'∧post.okB g n1 c.pin=true))
theorem Fin.ok {cmds:List Cmd} {g:List (Nat × Nat)} {ex:Ex} {n1:Nat} {post:SL} {ex':Ex} {nx:Nat} {s:St} {as:List Ans} (h:Fin c cmds g ex n1 post ex' nx s as):s.ok:=cmds_mono (n:=c.n) (np:=c.pin) (qs:=cmds) (nx:=nx) h.1
theorem Fin.sound {cmds:List Cmd} {g:List (Nat × Nat)} {ex:Ex} {n1:Nat} {post:SL} {ex':Ex} {nx:Nat} {s:St} {as:List Ans} (h:Fin c cmds g ex n1 post ex' nx s as) {cx:Cx} (hn:cx.n=c.n) (hE:cx.np=c.pin)
  {ρ:Nat→Value} {a:Act} {w:World} (hM:M cx ρ (fun b=>b<nx) s a w):ex'=ex∧∃ ρ',M cx ρ' (fun b=>b<n1) post.st a w:=by
 unfold Fin at h
 rw [← hn,← hE] at h
 obtain ⟨h1,h2,h3,h4⟩:=h
 obtain ⟨ρ',hM'⟩:=cmds_sound hM h1
 exact ⟨h2,_,hM'.shown h3 h4 rfl⟩
theorem tW (hc:CtxOk P c) (hmix:P.follows .mixedOrders=true) {code:Code} {n0 n1:Nat} {pre post:SL} {ex:Ex} (as:List Ans) (cmds:List Cmd) (g:List (Nat × Nat))
  (h:exec P c code n0 pre.st as (Fin c cmds g ex n1 post)):Triple P c code n0 pre ex n1 post:=by
 intro cx ρ a w Q hP hn hE hM hQ
 refine exec_sound hc hmix hP hn hE code (fun _ _ _ _ h=>Fin.ok h) h hM fun ex' nx' s' as' ρ' a' w' h' hM'=>?_
 obtain ⟨rfl,ρ2,hM2⟩:=h'.sound hn hE hM'
 exact hQ ρ2 a' w' hM2
def LoopWp (P:Program) (body:Code) (Q:Exit→Act→World→Prop) (a:Act) (w:World):Prop :=
 ∀ (b:Frame) (k:List Item) (cs:List Frame),∃ e a' w',Q e a' w'∧Arrives P (lone (b.at a (.code body :: .inLoop body :: k)) cs w) b k cs e a' w'
theorem LoopWp.loop {body:Code} {Q:Exit→Act→World→Prop} {a:Act} {w:World} (h:LoopWp P body Q a w):(Code.loop body).wp P Q a w:=by
 intro b k cs
 obtain ⟨e,a',w',hq,harr⟩:=h b k cs
 exact ⟨e,a',w',hq,.of_steps (.one step_loop) harr⟩
theorem LoopWp.once {body:Code} {Q:Exit→Act→World→Prop} {a:Act} {w:World} (h:body.wp P (Exit.then (fun a' w'=>LoopWp P body Q a' w') Q) a w):LoopWp P body Q a w:=by
 intro b k cs
 obtain ⟨e,a₁,w₁,hq,harr⟩:=h b (.inLoop body :: k) cs
 cases e with
 | normal =>
  obtain ⟨e2,a2,w2,hq2,harr2⟩:=hq b k cs
  exact ⟨e2,a2,w2,hq2,.of_steps (Steps.trans harr (.one step_inLoop)) harr2⟩
 | exit id=>exact ⟨_,a₁,w₁,hq,.pass (x:=.inLoop body) rfl (fun _ _=>.inl (by simp)) harr⟩
 | goto l=>exact ⟨_,a₁,w₁,hq,.pass (x:=.inLoop body) rfl (fun _ _=>.inl (by simp)) harr⟩
 | ret=>exact ⟨_,a₁,w₁,hq,.pass (x:=.inLoop body) rfl (fun _ _=>.inl (by simp)) harr⟩
 | panic ch=>exact ⟨_,a₁,w₁,hq,.pass (x:=.inLoop body) rfl (fun _ _=>.inl (by simp)) harr⟩
 | outgrown=>exact ⟨_,a₁,w₁,hq,.pass (x:=.inLoop body) rfl (fun _ _=>.inl (by simp)) harr⟩
def LTriple (P:Program) (c:Ctx) (body:Code) (n0:Nat) (pre:SL) (ex:Ex) (n1:Nat) (post:SL):Prop :=
 ∀ (cx:Cx) (ρ:Nat→Value) (a:Act) (w:World) (Q:Exit→Act→World→Prop),cx.P=P→cx.n=c.n→cx.np=c.pin→M cx ρ (fun b=>b<n0) pre.st a w →
  (∀ ρ' a' w',M cx ρ' (fun b=>b<n1) post.st a' w'→Q ex.to a' w')→LoopWp P body Q a w
theorem LTriple.triple {body:Code} {n0 n1:Nat} {pre post:SL} {ex:Ex} (h:LTriple P c body n0 pre ex n1 post):Triple P c (.loop body) n0 pre ex n1 post :=
 fun cx ρ a w Q hP hn hE hM hQ=>by subst hP; exact (h cx ρ a w Q rfl hn hE hM hQ).loop
theorem loop_back (hc:CtxOk P c) (hmix:P.follows .mixedOrders=true) {body:Code} {n0 n1:Nat} {pre post:SL} {ex:Ex} (n0':Nat) (pre':SL) (as:List Ans) (cmds:List Cmd) (g:List (Nat × Nat))
  (h:exec P c body n0 pre.st as (Fin c cmds g .normal n0' pre')) (hl:LTriple P c body n0' pre' ex n1 post):LTriple P c body n0 pre ex n1 post:=by
 intro cx ρ a w Q hP hn hE hM hQ
 subst hP
 refine LoopWp.once (exec_sound hc hmix rfl hn hE body (fun _ _ _ _ h=>Fin.ok h) h hM fun ex' nx' s' as' ρ' a' w' h' hM'=>?_)
 obtain ⟨rfl,ρ2,hM2⟩:=h'.sound hn hE hM'
 exact hl cx ρ2 a' w' Q rfl hn hE hM2 hQ
theorem loop_exit (hc:CtxOk P c) (hmix:P.follows .mixedOrders=true) {body:Code} {n0 n1:Nat} {pre post:SL} {ex:Ex} (as:List Ans) (cmds:List Cmd) (g:List (Nat × Nat)) (hex:ex≠.normal)
  (h:exec P c body n0 pre.st as (Fin c cmds g ex n1 post)):LTriple P c body n0 pre ex n1 post:=by
 intro cx ρ a w Q hP hn hE hM hQ
 subst hP
 refine LoopWp.once (exec_sound hc hmix rfl hn hE body (fun _ _ _ _ h=>Fin.ok h) h hM fun ex' nx' s' as' ρ' a' w' h' hM'=>?_)
 obtain ⟨rfl,ρ2,hM2⟩:=h'.sound hn hE hM'
 have hq:=hQ ρ2 a' w' hM2
 cases ex' with
 | normal=>exact absurd rfl hex
 | exit id=>exact hq
 | ret=>exact hq
def retAV (c:Ctx) (s:St):ResultVar→Option AV
 | .tmp t=>some (s.sl t)
 | .cell ad t=>match s.sl ad with
  | .val .ptr p=>match s.hp p.b,find c.T t with
   | some k,some ty=>match getP k p ty with
    | (some y,none)=>some (.val ty y)
    | _=>none
   | _,_=>none
  | _=>none
def RetV (np:Nat) (s:St):(r:RT)→r.den→AV→Prop
 | .dp t,y,av=>av=.val t y
 | .ow e tid,l,av=>match av with
  | .val .own b=>match Nat.ble np b with
   | true=>s.hp b=some (.row e l tid)
   | false=>False
  | _=>False
 | .dn e,(l:List e.den),av=>match av with
  | .nil=>NN l
  | av=>av=.val (.slice e) l∧NE l
def RetVs (c:Ctx) (s:St):(rs:Rs)→rs.den→List ResultVar→Prop
 | .none,_,vs=>vs=[]
 | .one r,y,[v]=>match retAV c s v with
  | some av=>RetV c.pin s r y av
  | none=>False
 | .more r rs,y,v :: vs=>match retAV c s v with
  | some av=>RetV c.pin s r y.1 av∧RetVs c s rs y.2 vs
  | none=>False
 | _,_,_=>False
def Ret (c:Ctx) (fn:Func) (cmds:List Cmd) (rs:Rs) (y:rs.den) (ex:Ex) (nx:Nat) (s:St) (_:List Ans):Prop :=
 match runCmds c.n c.pin cmds nx s with
 | (_,s')=>s'.ok∧((match ex with | .exit _=>False | _=>True)∧RetVs c s' rs y fn.results.toList)
end
end Go.Sx
