import Derived.Test.YteibepmkkplpeaaGreatSxRegion3
namespace Go.Sx
def ir (l:List (Nat × AV)) (d:Nat):AV:=match find l d with
 | some v=>v
 | none=>.undef
def SL.st (s:SL):St:=⟨ir s.sl,find s.hp,True⟩
section
variable {cx:Cx} {ρ:Nat→Value} {F:Nat→Prop} {s:St} {a:Act} {w:World}
theorem M.rename (h:M cx ρ F s a w) {s':St} (g:Nat→Nat) {F':Nat→Prop} (hs:∀ d,s'.sl d=.undef∨(s'.sl d).fp g=s.sl d) (hp:∀ b k,s'.hp b=some k→s.hp (g b)=some (k.fp g))
  (hinj:∀ b b' k k',s'.hp b=some k→s'.hp b'=some k'→g b=g b'→b=b') (hF:∀ d,∀ b∈(s'.sl d).refs,F' b) (hFb:∀ b k,s'.hp b=some k→F' b∧∀ c∈k.refs,F' c) (hpin:∀ j,j<cx.np→g j=j∧F' j) (hgp:∀ b k,s'.hp b=some k→g b<cx.np→b<cx.np) :
  M cx (fun b=>ρ (g b)) F' s' a w:=by
 have hI:∀ r,r<w.heap.size→cx.I ρ s r→cx.I (fun b=>ρ (g b)) s' r:=fun r _ hi=>⟨hi.1,fun b k hk hr=>hi.2 (g b) _ (hp b k hk) hr⟩;refine ⟨h.os,h.tape,h.output,h.size,h.keeps,?_,?_,?_,?_,hF,hFb,fun b=>h.iZ _,h.defers,h.tsize,fun j hj=>⟨by rw [(hpin j hj).1]; exact (h.pin j hj).1,(hpin j hj).2⟩⟩
 ·intro d
  rcases hs d with hd | hd
  ·rw [hd]; trivial
  ·have h1:=h.slots d
   rw [← hd] at h1;exact h1.fp.mono (fun _ _=>rfl) (fl.refl _ _) hI
 ·intro b k hk
  have h1:=h.blks (g b) _ (hp b k hk);exact h1.fp.mono (fun _ _=>rfl) (fl.refl _ _) hI (fun _ _=>rfl)
 ·intro b b' k k' r h1 h2 h3 h4
  exact hinj b b' k k' h1 h2 (h.sep (g b) (g b') _ _ r (hp b k h1) (hp b' k' h2) h3 h4)
 ·intro b k r h1 h2
  have:=h.fresh (g b) _ r (hp b k h1) h2;exact ⟨this.1.imp id fun h=>⟨h.1,hgp b k h1 h.2⟩,this.2⟩
def nW (np:Nat) (hp:Nat→Option dR):(ty:Ty)→ty.den→(t:Ty)→Option (t.den × List Nat)
 | .pair a b,x,t=>match t with
  | .pair a' b'=>match nW np hp a x.1 a' with
   | some (y,l)=>match nW np hp b x.2 b' with
    | some (z,m)=>some ((y,z),l++m)
    | none=>none
   | none=>none
  | _=>none
 | .own,b,t=>match t with
  | .slice e=>match hp b with
   | some (.row e' l _)=>match Nat.ble np b with
    | true=>(Ty.kK (.slice e') (.slice e) l).map fun y=>(y,[b])
    | false=>none
   | _=>none
  | _=>none
 | .nil,_,t=>match t with
  | .slice _=>some ([],[])
  | _=>none
 | ty,x,t=>(Ty.kK ty t x).map fun y=>(y,[])
def jH (hp:Nat→Option dR) (bs:List Nat):Nat→Option dR:=bs.foldl (fun h b=>gQ h b none) hp
def runCmd (n np:Nat) (q:kX) (nx:Nat) (s:St):Nat × St :=
 match q with
 | .own d e tid=>match s.sl d with
  | .nil=>(nx+1,⟨jx n s.sl (some d) (.val .own nx),gQ s.hp nx (some (.row e [] tid)),s.ok⟩)
  | .val .own _=>(nx,⟨s.sl,s.hp,s.ok⟩)
  | _=>(nx,⟨s.sl,s.hp,False⟩)
 | .ownF b off e tid=>match s.hp b with
  | some (.cells ty x)=>match comp ty x off .nil,mL ty x off .nil ⟨.own,nx⟩ with
   | some _,some u=>(nx+1,⟨s.sl,gQ (gQ s.hp nx (some (.row e [] tid))) b (some (.cells u.t u.x)),s.ok⟩)
   | _,_=>(nx,⟨s.sl,s.hp,False⟩)
  | _=>(nx,⟨s.sl,s.hp,False⟩)
 | .deepF b off e=>match s.hp b with
  | some (.cells ty x)=>match comp ty x off .nil,mL ty x off .nil ⟨.slice e,([]:List e.den)⟩ with
   | some _,some u=>(nx,⟨s.sl,gQ s.hp b (some (.cells u.t u.x)),s.ok⟩)
   | _,_=>(nx,⟨s.sl,s.hp,False⟩)
  | _=>(nx,⟨s.sl,s.hp,False⟩)
 | .frzF b off=>match s.hp b with
  | some (.cells ty x)=>match comp ty x off .own with
   | some b'=>match s.hp b' with
    | some (.row e l _)=>match Nat.ble np b',mL ty x off .own ⟨.slice e,l⟩ with
     | true,some u=>(nx,⟨s.sl,gQ (gQ s.hp b' none) b (some (.cells u.t u.x)),s.ok⟩)
     | _,_=>(nx,⟨s.sl,s.hp,False⟩)
    | _=>(nx,⟨s.sl,s.hp,False⟩)
   | none=>(nx,⟨s.sl,s.hp,False⟩)
  | _=>(nx,⟨s.sl,s.hp,False⟩)
 | .melt d t=>match s.sl d with
  | .val ty x=>match nW np s.hp ty x t with
   | some (y,bs)=>match t.deep with
    | true=>(nx,⟨jx n s.sl (some d) (.val t y),jH s.hp bs,s.ok⟩)
    | false=>(nx,⟨s.sl,s.hp,False⟩)
   | none=>(nx,⟨s.sl,s.hp,False⟩)
  | _=>(nx,⟨s.sl,s.hp,False⟩)
 | .deep d e=>match s.sl d with
  | .nil=>(nx,⟨jx n s.sl (some d) (.val (.slice e) []),s.hp,s.ok⟩)
  | .val .own b=>match s.hp b with
   | some (.row e l _)=>match Nat.ble np b with
    | true=>(nx,⟨jx n s.sl (some d) (.val (.slice e) l),gQ s.hp b none,s.ok⟩)
    | false=>(nx,⟨s.sl,s.hp,False⟩)
   | _=>(nx,⟨s.sl,s.hp,False⟩)
  | _=>(nx,⟨s.sl,s.hp,False⟩)
 | .freeze d=>match s.sl d with
  | .val .own b=>match s.hp b with
   | some (.row e l _)=>match Nat.ble np b with
    | true=>(nx,⟨jx n s.sl (some d) (.val (.slice e) l),gQ s.hp b none,s.ok⟩)
    | false=>(nx,⟨s.sl,s.hp,False⟩)
   | _=>(nx,⟨s.sl,s.hp,False⟩)
  | _=>(nx,⟨s.sl,s.hp,False⟩)
def gN (n np:Nat):List kX→Nat→St→Nat × St
 | [],nx,s=>(nx,s)
 | q :: qs,nx,s=>match runCmd n np q nx s with
  | (nx',s')=>gN n np qs nx' s'
theorem mw {a:Act} {d:Nat} {n:Nat} (hn:a.tmps.size=n):(a.put (some d) (a.tmps.getD d undef))=a:=by
 obtain ⟨t,df⟩:=a;simp only [Act.put,Act.mk.injEq,and_true];apply Array.ext_getElem?;intro i
 by_cases h:d=i
 ·subst h
  by_cases hlt:d<t.size
  ·simp [hlt,Array.getD_eq_getD_getElem?]
  ·simp [hlt]
 ·rw [Array.getElem?_setIfInBounds_ne h]
theorem ze {n np:Nat} {q:kX} {nx:Nat} {s:St} (h:(runCmd n np q nx s).2.ok):s.ok:=by
 unfold runCmd at h;split at h
 all_goals repeat' first | exact h | exact h.elim | split at h
theorem nE {F:Nat→Prop} (hM:M cx ρ F s a w) (b:Nat) (hnp:cx.np≤b) {e:Ty} {l:List e.den} {tid:TypeId} (hb:s.hp b=some (.row e l tid)) :
  iK cx.P (.slice e) ρ w (cx.I ρ ⟨s.sl,gQ s.hp b none,s.ok⟩) l (ρ b):=by
 obtain ⟨xs,⟨h0,hro⟩,hrd⟩:=hM.blks b _ hb
 have hIsub:∀ r,r<w.heap.size→cx.I ρ s r→cx.I ρ ⟨s.sl,gQ s.hp b none,s.ok⟩ r:=fun r _ hi=>⟨hi.1,fun c k' hc hrr=>by
  by_cases e:c=b
  ·change gQ s.hp b none c=some k' at hc
   rw [e,c9] at hc; cases hc
  ·change gQ s.hp b none c=some k' at hc
   rw [eB _ _ e] at hc
   exact hi.2 c k' hc hrr⟩
 rcases hro with ⟨A0,h1,h2⟩ | ⟨g,cap,cur,h1,hcp,_,h3,h4,h5,h6,h7⟩
 ·have hl0:l=[]:=List.eq_nil_of_length_eq_zero h2
  subst hl0;rw [h1];exact ⟨[.slice A0 0 0],rfl,A0,0,rfl,Nat.le_refl _,.inl rfl⟩
 ·rw [h1]
  have hreal:real (ρ b)=some g:=by rw [h1]; exact gq hcp
  have hfr:=hM.fresh b _ g hb hreal;refine ⟨[.slice (some ⟨g,0,none⟩) l.length cap],rfl,some ⟨g,0,none⟩,cap,rfl,h4,?_⟩
  by_cases hl0:l=[]
  ·exact .inl hl0
  ·refine .inr ⟨⟨g,0,none⟩,rfl,rfl,⟨.inr (hfr.1.resolve_right (fun h=>Nat.not_lt.2 hnp h.2)),fun c k' hc hrr=>?_⟩,hfr.2,fun i y hy=>?_⟩
   ·change gQ s.hp b none c=some k' at hc
    by_cases e:c=b
    ·rw [e,c9] at hc; cases hc
    ·rw [eB _ _ e] at hc
     exact e (hM.sep c b k' _ g hc hb hrr hreal)
   ·have hi:i<l.length:=(List.getElem?_eq_some_iff.1 hy).1
    obtain ⟨pre,ci,post,g1,g2,g3,_⟩:=elemAt hrd hi e.zero;have hyy:l.getD i e.zero=y:=by simp only [List.getD]; rw [show l[i]?=some y from hy]; rfl
    rw [hyy] at g3;refine ⟨ci,?_,g3.mono (fl.refl _ _) hIsub⟩;have hcur:cur.toList=pre++ci++(post++cur.toList.drop (l.length*e.size)):=by
     have:=List.take_append_drop (l.length*e.size) cur.toList;rw [h7,g1] at this;rw [← List.append_assoc]; exact this.symm
    have:=fz h3 hcur;rw [g2] at this;rw [eD,Nat.zero_add];exact this
theorem mK {nx:Nat} (hM:M cx ρ (fun b=>b<nx) s a w) {d:Nat} (b:Nat) (hnp:cx.np≤b) {e:Ty} {l:List e.den} {tid:TypeId} (_hd:s.sl d=.val .own b) (hb:s.hp b=some (.row e l tid)) (hv:a.tmps.getD d undef=ρ b) :
  ∃ ρ',M cx ρ' (fun b=>b<nx) ⟨jx cx.n s.sl (some d) (.val (.slice e) l),gQ s.hp b none,s.ok⟩ a w:=by
 have hdrop:=M.drop hM b s.ok;have hrd:=nE hM b hnp hb;have hput:=M.put hdrop (some d) (av:=.val (.slice e) l) (v:=ρ b) hrd (fun b hb=>by cases hb) s.ok;rw [← hv,mw hM.tsize] at hput;exact ⟨_,hput⟩
theorem zn {sl sl':Nat→AV} {hp hp':Nat→Option dR} {ok ok':Prop} (h:∀ c k,hp' c=some k→∃ k',hp c=some k') {r:Nat} (hi:cx.I ρ ⟨sl,hp,ok⟩ r):cx.I ρ ⟨sl',hp',ok'⟩ r :=
 ⟨hi.1,fun c k hk hr=>by
  obtain ⟨k',hk'⟩:=h c k hk
  exact hi.2 c k' hk' hr⟩
theorem mO:∀ {bs:List Nat} {hp:Nat→Option dR} {c:Nat} {k:dR},jH hp bs c=some k→hp c=some k∧c ∉ bs:=by
 intro bs
 induction bs with
 | nil=>intro hp c k h; exact ⟨h,by simp⟩
 | cons b bs ih =>
  intro hp c k h;obtain ⟨h1,h2⟩:=ih (hp:=gQ hp b none) h
  by_cases e:c=b
  ·subst e; rw [c9] at h1; cases h1
  ·rw [eB _ _ e] at h1
   exact ⟨h1,by simp [e,h2]⟩
theorem M.jH {F:Nat→Prop}:∀ {bs:List Nat} {s:St},M cx ρ F s a w→M cx ρ F ⟨s.sl,Sx.jH s.hp bs,s.ok⟩ a w:=by
 intro bs
 induction bs with
 | nil=>intro s h; exact h
 | cons b bs ih=>intro s h; exact ih (M.drop h b s.ok)
theorem AQ {np:Nat} {hp:Nat→Option dR} {ty:Ty} {x:ty.den} {t:Ty} {y:t.den} {bs:List Nat} (h:nW np hp ty x t=some (y,bs)):ty.agg=t.agg:=by
 have base:∀ (ty:Ty) (x:ty.den),((Ty.kK ty t x).map fun y=>(y,([]:List Nat)))=some (y,bs)→ty.agg=t.agg:=by
  intro ty x h;obtain ⟨z,hz,_⟩:=Option.map_eq_some_iff.1 h;obtain ⟨rfl,_⟩:=Ty.fe hz;rfl
 cases ty with
 | pair a b=>cases t <;> first | rfl | cases h
 | own=>cases t <;> first | rfl | cases h
 | nil=>cases t <;> first | rfl | cases h
 | _=>exact base _ x h
theorem uV {F:Nat→Prop} (hM:M cx ρ F s a w):∀ {ty:Ty} {x:ty.den} {t:Ty} {y:t.den} {bs:List Nat} {cs:List Value},nW cx.np s.hp ty x t=some (y,bs)→Rd cx.P ty false ρ w (cx.I ρ s) x cs →
  ∀ {bs':List Nat},(∀ b∈bs,b∈bs')→Rd cx.P t false ρ w (cx.I ρ ⟨s.sl,Sx.jH s.hp bs',s.ok⟩) y cs:=by
 have grow:∀ (bs':List Nat) r,r<w.heap.size→cx.I ρ s r→cx.I ρ ⟨s.sl,Sx.jH s.hp bs',s.ok⟩ r:=fun bs' r _ hi=>zn (fun c k hk=>⟨k,(mO hk).1⟩) hi;have base:∀ (ty:Ty) (x:ty.den) (t:Ty) (y:t.den) (bs:List Nat) (cs:List Value),((Ty.kK ty t x).map fun y=>(y,([]:List Nat)))=some (y,bs)→Rd cx.P ty false ρ w (cx.I ρ s) x cs →
   ∀ (bs':List Nat),Rd cx.P t false ρ w (cx.I ρ ⟨s.sl,Sx.jH s.hp bs',s.ok⟩) y cs:=by
  intro ty x t y bs cs h hr bs';obtain ⟨z,hz,he⟩:=Option.map_eq_some_iff.1 h;obtain ⟨rfl,rfl⟩:=Ty.fe hz;obtain ⟨rfl,_⟩:=Prod.mk.inj he;exact hr.mono (fl.refl _ _) (grow bs')
 intro ty
 induction ty with
 | pair p q ihp ihq =>
  intro x t y bs cs h hr bs' hb;cases t with
  | pair a' b' =>
   simp only [nW] at h;split at h
   ·rename_i y1 l h1
    split at h
    ·rename_i z m h2
     obtain ⟨rfl,rfl⟩:=Prod.mk.inj (Option.some.inj h);obtain ⟨c1,c2,rfl,r1,r2⟩:=hr;exact ⟨c1,c2,rfl,ihp h1 r1 (fun b h=>hb b (List.mem_append.2 (.inl h))),ihq h2 r2 (fun b h=>hb b (List.mem_append.2 (.inr h)))⟩
    ·cases h
   ·cases h
  | _=>cases h
 | own =>
  intro x t y bs cs h hr bs' hb;cases t with
  | slice e =>
   simp only [nW] at h;split at h
   ·rename_i e' l tid hk
    split at h
    ·rename_i hnp
     obtain ⟨z,hz,he⟩:=Option.map_eq_some_iff.1 h;obtain ⟨he',rfl⟩:=Ty.fe hz;cases he';obtain ⟨rfl,rfl⟩:=Prod.mk.inj he;have hr:cs=[ρ x]:=hr;subst hr;obtain ⟨cc,h1,h2⟩:=nE hM x (Nat.le_of_ble_eq_true hnp) hk;have h1:ρ x=cc.headD undef:=h1;have hl:cc.length=1:=h2.length;obtain ⟨v,rfl⟩:∃ v,cc=[v]:=by
      match cc,hl with
      | [v],_=>exact ⟨v,rfl⟩
     rw [h1];refine h2.mono (fl.refl _ _) fun r _ hi=>zn (fun c k hk=>⟨k,?_⟩) hi;obtain ⟨g1,g2⟩:=mO hk;have hne:c≠x:=fun e=>g2 (e ▸ hb x (List.mem_singleton.2 rfl));show gQ s.hp x none c=some k;rw [eB _ _ hne];exact g1
    ·cases h
   ·cases h
  | _=>cases h
 | nil =>
  intro x t y bs cs h hr bs' hb;cases t with
  | slice e =>
   simp only [nW] at h;obtain ⟨rfl,rfl⟩:=Prod.mk.inj (Option.some.inj h);have hr:cs=[.slice none 0 0]:=hr;subst hr;exact ⟨none,0,rfl,Nat.le_refl _,.inl rfl⟩
  | _=>cases h
 | _=>intro x t y bs cs h hr bs' _; exact base _ x t y bs cs h hr bs'
theorem M.uL {F:Nat→Prop} {s:St} {ρ:Nat→Value} (hM:M cx ρ F s a w) {b:Nat} {ty:Ty} {x:ty.den} {off:Nat} {l:Ty} {y:l.den} {v u:TV} (hb:s.hp b=some (.cells ty x)) (hc:comp ty x off l=some y) (hs:mL ty x off l v=some u)
  (hv:∀ c,Rd cx.P l false ρ w (cx.I ρ s) y c→Rd cx.P v.t false ρ w (cx.I ρ s) v.x c) (hF:∀ c∈v.t.refs v.x,F c):M cx ρ F ⟨s.sl,gQ s.hp b (some (.cells u.t u.x)),s.ok⟩ a w:=by
 refine M.set hM s.ok hb rfl (Tp.refl _) rfl rfl (fun _ _=>rfl) ?_ (fun c hc'=>?_) rfl
 ·obtain ⟨r,tid,cur,h1,h2,h3⟩:=hM.blks b _ hb
  exact ⟨r,tid,cur,h1,h2,xk h3 hc hs hv⟩
 ·rcases nK hs c hc' with h | h
  ·exact (hM.brefs b _ hb).2 c h
  ·exact hF c h
theorem xp {q:kX} {nx:Nat} (hM:M cx ρ (fun b=>b<nx) s a w) (hok:(runCmd cx.n cx.np q nx s).2.ok):∃ ρ',M cx ρ' (fun b=>b<(runCmd cx.n cx.np q nx s).1) (runCmd cx.n cx.np q nx s).2 a w:=by
 have lt_of:∀ {b:Nat},b<nx∨b=nx→b<nx+1:=fun h=>by rcases h with h | h <;> omega
 cases q with
 | own d e tid =>
  simp only [runCmd] at hok ⊢;split at hok
  ·rename_i hd
   have hv:a.tmps.getD d undef=.slice none 0 0:=by have:=hM.slots d; rw [hd] at this; exact this
   have hnew:=M.new (k:=.row e [] tid) (v:=.slice none 0 0) hM (Nat.lt_irrefl _) s.ok (Below.refl _ _) (fun r hr=>by cases hr) rfl ⟨[],World.ji (World.ownsRow_nil _ _ _ _),rfl,[],rfl,rfl,fun i x c hx=>by cases hx⟩ (fun b hb=>by cases hb);have hput:=M.put hnew (some d) (av:=.val .own nx) (v:=.slice none 0 0) ⟨[.slice none 0 0],rfl,by show _=[gQ ρ nx _ nx]; rw [c9]⟩ (fun b hb=>.inr (List.mem_singleton.1 hb)) s.ok;rw [← hv,mw hM.tsize] at hput;exact ⟨_,hput.ic fun b hb=>lt_of hb⟩
  ·exact ⟨ρ,hM⟩
  ·exact hok.elim
 | deep d e =>
  simp only [runCmd] at hok ⊢;split at hok
  ·rename_i hd
   have hv:a.tmps.getD d undef=.slice none 0 0:=by have:=hM.slots d; rw [hd] at this; exact this
   have hput:=M.put hM (some d) (av:=.val (.slice e) []) (v:=.slice none 0 0) ⟨[.slice none 0 0],rfl,none,0,rfl,Nat.le_refl _,.inl rfl⟩ (fun b hb=>by cases hb) s.ok;rw [← hv,mw hM.tsize] at hput;exact ⟨_,hput⟩
  ·rename_i b hd
   split at hok
   ·rename_i e l tid hb
    split at hok
    ·rename_i hnp
     have hv:a.tmps.getD d undef=ρ b:=by have:=hM.slots d; rw [hd] at this; exact iV this
     exact mK hM b (Nat.le_of_ble_eq_true hnp) hd hb hv
    ·exact hok.elim
   ·exact hok.elim
  ·exact hok.elim
 | freeze d =>
  simp only [runCmd] at hok ⊢;split at hok
  ·rename_i b hd
   split at hok
   ·rename_i e l tid hb
    split at hok
    ·rename_i hnp
     have hv:a.tmps.getD d undef=ρ b:=by have:=hM.slots d; rw [hd] at this; exact iV this
     exact mK hM b (Nat.le_of_ble_eq_true hnp) hd hb hv
    ·exact hok.elim
   ·exact hok.elim
  ·exact hok.elim
 | ownF b off e tid =>
  simp only [runCmd] at hok ⊢;split at hok
  ·rename_i ty x hb
   split at hok
   ·rename_i y u hc hs
    have hlt:b<nx:=(hM.brefs b _ hb).1;have hnew:=M.new (k:=.row e [] tid) (v:=.slice none 0 0) hM (Nat.lt_irrefl _) s.ok (Below.refl _ _) (fun r hr=>by cases hr) rfl ⟨[],World.ji (World.ownsRow_nil _ _ _ _),rfl,[],rfl,rfl,fun i x c hx=>by cases hx⟩ (fun b hb=>by cases hb);have hb':gQ s.hp nx (some (.row e [] tid)) b=some (.cells ty x):=by rw [eB _ _ (by omega)]; exact hb
    have h2:=M.uL (v:=⟨.own,nx⟩) hnew hb' hc hs (fun c hcc=>by
     have hcc:c=[.slice none 0 0]:=hcc;subst hcc;show _=[gQ ρ nx _ nx]
     rw [c9]) (fun c hc'=>.inr (List.mem_singleton.1 hc'))
    exact ⟨_,h2.ic fun b hb=>lt_of hb⟩
   ·exact hok.elim
  ·exact hok.elim
 | deepF b off e =>
  simp only [runCmd] at hok ⊢;split at hok
  ·rename_i ty x hb
   split at hok
   ·rename_i y u hc hs
    exact ⟨ρ,M.uL (v:=⟨.slice e,([]:List e.den)⟩) hM hb hc hs (fun c hcc=>by
     have hcc:c=[.slice none 0 0]:=hcc;subst hcc
     exact ⟨none,0,rfl,Nat.le_refl _,.inl rfl⟩) (fun c hc'=>by cases hc')⟩
   ·exact hok.elim
  ·exact hok.elim
 | frzF b off =>
  simp only [runCmd] at hok ⊢;split at hok
  ·rename_i ty x hb
   split at hok
   ·rename_i b' hc
    split at hok
    ·rename_i e l tid hb'
     split at hok
     ·rename_i u hnp hs
      have hne:b≠b':=fun h=>by rw [h,hb'] at hb; cases hb
      have hbb:gQ s.hp b' none b=some (.cells ty x):=by rw [eB _ _ hne]; exact hb
      have hr:=nE hM b' (Nat.le_of_ble_eq_true hnp) hb';refine ⟨ρ,M.uL (v:=⟨.slice e,l⟩) (M.drop hM b' s.ok) hbb hc hs (fun c hcc=>?_) (fun c hc'=>by cases hc')⟩;have hcc:c=[ρ b']:=hcc;subst hcc;obtain ⟨cc,h1,h2⟩:=hr;have h1:ρ b'=cc.headD undef:=h1;have hl:cc.length=1:=h2.length;obtain ⟨v,rfl⟩:∃ v,cc=[v]:=by
       match cc,hl with
       | [v],_=>exact ⟨v,rfl⟩
      rw [h1];exact h2
     ·exact hok.elim
    ·exact hok.elim
   ·exact hok.elim
  ·exact hok.elim
 | melt d t =>
  simp only [runCmd] at hok ⊢;split at hok
  ·rename_i ty x hd
   split at hok
   ·rename_i y bs hm
    split at hok
    ·rename_i hdeep
     have hv:=hM.slots d;rw [hd] at hv;obtain ⟨cs,hv,hr⟩:=hv;have hr2:=uV hM hm hr (bs':=bs) (fun b h=>h)
     have hput:=M.put (M.jH (bs:=bs) hM) (some d) (av:=.val t y) (v:=a.tmps.getD d undef) ⟨cs,by rw [hv]; unfold jf; rw [AQ hm],hr2⟩ (fun b hb=>by
      have hb:b∈t.refs y:=hb
      rw [Ty.dm hdeep] at hb; cases hb) s.ok
     rw [mw hM.tsize] at hput;exact ⟨ρ,hput⟩
    ·exact hok.elim
   ·exact hok.elim
  ·exact hok.elim
theorem ju {n np:Nat}:∀ {qs:List kX} {nx:Nat} {s:St},(gN n np qs nx s).2.ok→s.ok:=by
 intro qs
 induction qs with
 | nil=>intro nx s h; exact h
 | cons q qs ih=>intro nx s h; exact ze (ih h)
theorem iW:∀ {qs:List kX} {nx:Nat} {s:St} {ρ:Nat→Value},M cx ρ (fun b=>b<nx) s a w→(gN cx.n cx.np qs nx s).2.ok →
  ∃ ρ',M cx ρ' (fun b=>b<(gN cx.n cx.np qs nx s).1) (gN cx.n cx.np qs nx s).2 a w:=by
 intro qs
 induction qs with
 | nil=>intro nx s ρ hM _; exact ⟨ρ,hM⟩
 | cons q qs ih =>
  intro nx s ρ hM hok;obtain ⟨ρ',hM'⟩:=xp hM (ju (qs:=qs) hok);exact ih hM' hok
end
def Bj (g:List (Nat × Nat)) (n:Nat):Nat→Bool
 | 0=>true
 | j+1=>(Nat.beq (fp g j) j && Nat.blt j n) && Bj g n j
theorem uT {g:List (Nat × Nat)} {n:Nat}:∀ {m:Nat},Bj g n m=true→∀ j,j<m→fp g j=j∧j<n:=by
 intro m
 induction m with
 | zero=>intro _ j hj; omega
 | succ m ih =>
  intro h j hj;simp only [Bj,Bool.and_eq_true] at h
  by_cases e:j=m
  ·subst e; exact ⟨Nat.eq_of_beq_eq_true h.1.1,fP h.1.2⟩
  ·exact ih h.2 j (by omega)
def SL.okB (s:SL) (g:List (Nat × Nat)) (n:Nat) (pin:Nat):Bool :=
 (Bj g n pin && (s.hp.all fun x=>!(Nat.blt (fp g x.1) pin) || Nat.blt x.1 pin)) && (s.sl.all fun x=>x.2.refs.all (Nat.blt · n)) && ((s.hp.all fun x=>Nat.blt x.1 n && x.2.refs.all (Nat.blt · n)) &&
  (s.hp.all fun x=>s.hp.all fun y=>Nat.beq x.1 y.1 || !(Nat.beq (fp g x.1) (fp g y.1))))
def zj (g:List (Nat × Nat)) (pre:SL) (s:St):Prop :=
 pre.sl.map (fun x=>x.2.fp (fp g))=pre.sl.map (fun x=>s.sl x.1)∧pre.hp.map (fun x=>some (x.2.fp (fp g)))=pre.hp.map (fun x=>s.hp (fp g x.1))
theorem M.shown {cx:Cx} {ρ:Nat→Value} {F:Nat→Prop} {s:St} {a:Act} {w:World} (h:M cx ρ F s a w) {g:List (Nat × Nat)} {pre:SL} {n:Nat} {pin:Nat} (hs:zj g pre s) (hb:pre.okB g n pin=true) (hE:cx.np=pin) :
  M cx (fun b=>ρ (fp g b)) (fun b=>b<n) pre.st a w:=by
 simp only [SL.okB,Bool.and_eq_true] at hb;obtain ⟨⟨h0,h1⟩,h2,h3⟩:=hb;refine M.rename h (fp g) (s':=pre.st) ?_ ?_ ?_ ?_ ?_ ?_ ?_
 ·intro d
  show ir pre.sl d=.undef∨(ir pre.sl d).fp (fp g)=s.sl d;unfold ir;cases hf:find pre.sl d with
  | none=>exact .inl rfl
  | some v=>exact .inr (jj (g:=fun x:Nat × AV=>x.2.fp (fp g)) (h:=s.sl) hs.1 hf)
 ·intro b k hk
  have:=jj (g:=fun x:Nat × dR=>some (x.2.fp (fp g))) (h:=fun b=>s.hp (fp g b)) hs.2 hk;exact this.symm
 ·intro b b' k k' hk hk' he
  have m1:=eN hk;have m2:=eN hk';have:=List.all_eq_true.1 (List.all_eq_true.1 h3 _ m1) _ m2;simp only [Bool.or_eq_true,Bool.not_eq_true'] at this;rcases this with h | h
  ·exact Nat.eq_of_beq_eq_true h
  ·rw [he] at h
   simp at h
 ·intro d b hb
  change b∈(ir pre.sl d).refs at hb
  unfold ir at hb;split at hb
  ·rename_i v hf
   have:=List.all_eq_true.1 (List.all_eq_true.1 h1 _ (eN hf)) b hb;exact fP this
  ·cases hb
 ·intro b k hk
  have:=List.all_eq_true.1 h2 _ (eN hk);simp only [Bool.and_eq_true] at this;exact ⟨fP this.1,fun c hc=>fP (List.all_eq_true.1 this.2 c hc)⟩
 ·intro j hj
  exact uT h0.1 j (hE ▸ hj)
 ·intro b k hk hlt
  have:=List.all_eq_true.1 h0.2 _ (eN hk);simp only [Bool.or_eq_true,Bool.not_eq_true'] at this;rcases this with h | h
  ·exact absurd (hE ▸ hlt) (j8 h)
  ·rw [hE]; exact fP h
end Go.Sx
namespace Go.Sx
def DC (o:Oper) (acc:List Nat):Nat:=o.after.toList.foldl (fun m e=>match Region.binds .any e with
 | true=>m ||| 2 ^ e.on ||| acc.getD e.on 0
 | false=>m) 0
def Cz:List Oper→List Nat→List Nat
 | [],acc=>acc
 | o :: os,acc=>Cz os (acc++[DC o acc])
def Ci:List Oper→Nat
 | []=>0
 | o :: os=>Dj o+Ci os
def jI (s:St) (tb:List (Nat × Src)):Operand→Src
 | .tmp t=>match find tb t with
  | some k=>k
  | none=>match s.sl t with
   | .val .ptr p=>.blk p.b
   | .val .own b=>.blk b
   | .val .clo g=>.many (g.2.map (·.b))
   | .val _ _=>.data
   | .imm _ _ _=>.data
   | .nil=>.data
   | _=>.unk
 | .const _=>.data
 | .func _=>.data
 | _=>.unk
def E8 (c:Ctx):Operand→Bool
 | .func f=>match find c.hs f with
  | some _=>true
  | none=>false
 | .tmp _=>!c.hs.isEmpty
 | _=>false
def vF (s:St) (l:List Nat):List Nat:=l.flatMap fun b=>match s.hp b with
 | some k=>k.refs
 | none=>[]
def lS (s:St) (l:List Nat):List Nat:=l++(vF s l++vF s (vF s l))
def Ec (s:St):Src→Src
 | .blk b=>.many (lS s [b])
 | .two b c=>.many (lS s [b,c])
 | .many l=>.many (lS s l)
 | k=>k
def DI (c:Ctx) (s:St):Nat→List Oper→List (Nat × Src)→List Src
 | _,[],_=>[]
 | n,o :: os,tb=>(match o.op with
   | .load _ x=>jI s tb x
   | .store _ x _=>jI s tb x
   | .indexAddr _ x _=>jI s tb x
   | .slice _ x _ _ _=>jI s tb x
   | .call q=>match q.callee,q.args.toList with
    | .builtin .len,[x]=>jI s tb x
    | .builtin .append,[x,y]=>(jI s tb x).with (jI s tb y)
    | .value f,xs=>match C5 c f || E8 c f with
     | true=>Ec s ((f :: xs).foldr (fun y k=>(jI s tb y).with k) .data)
     | false=>.unk
    | _,_=>.unk
   | _=>.unk) :: DI c s (n+1) os (match o.dst with
   | none=>tb
   | some t=>(t,match o.op with
    | .alloc _=>.blk n
    | .box _ _=>.blk n
    | .buildSlice _ _ _=>.blk n
    | .fieldAddr _ x _=>jI s tb x
    | .indexAddr _ x _=>jI s tb x
    | .nilCheck x=>jI s tb x
    | .move x=>jI s tb x
    | .assign x=>jI s tb x
    | .load _ x=>match jI s tb x with
     | .blk b=>match s.hp b with
      | some k=>match k.refs with
       | []=>.data
       | l=>.many l
      | none=>.data
     | _=>.data
    | _=>.unk) :: tb)
def AU (P:Program) (c:Ctx) (nx:Nat) (ops:Array Oper) (as:List ig) (src:List Src):mh:=⟨src,P,c,nx,ops,Cz ops.toList [],Eh ops.toList as⟩
def yP (c:Ctx) (draw:Bool) (s:St) (nx:Nat) (ops:Array Oper):List Src:=match draw with
 | true=>DI c s nx ops.toList []
 | false=>[]
def Ex.to:Ex→Exit
 | .normal=>.normal
 | .exit id=>.exit id
 | .ret=>.ret
def Triple (P:Program) (c:Ctx) (code:Code) (n0:Nat) (pre:SL) (ex:Ex) (n1:Nat) (post:SL):Prop :=
 ∀ (cx:Cx) (ρ:Nat→Value) (a:Act) (w:World) (Q:Exit→Act→World→Prop),cx.P=P→cx.n=c.n→cx.np=c.pin→M cx ρ (fun b=>b<n0) pre.st a w →
  (∀ ρ' a' w',M cx ρ' (fun b=>b<n1) post.st a' w'→Q ex.to a' w')→code.wp P Q a w
def mm (P:Program) (c:Ctx) (code:Code) (d:zc) (nx:Nat) (s:St):Prop :=
 match gN c.n c.pin d.cmds nx s with
 | (_,s')=>s'.ok∧(zj d.g d.pre s'∧(d.pre.okB d.g d.n0 c.pin=true∧Triple P c code d.n0 d.pre d.ex d.n1 d.post))
def inBlock (id:Nat):Ex→Ex
 | .exit id'=>match Nat.beq id' id with
  | true=>.normal
  | false=>.exit id'
 | ex=>ex
def Ee (id:Nat):List ig→Option (zc × List ig)
 | .cutR i d :: as=>match Nat.beq i id with
  | true=>some (d,as)
  | false=>none
 | _=>none
def exec (P:Program) (c:Ctx):Code→Nat→St→List ig→(Ex→Nat→St→List ig→Prop)→Prop
 | .skip,nx,s,as,k=>k .normal nx s as
 | .ret,nx,s,as,k=>k .ret nx s as
 | .exit id,nx,s,as,k=>k (.exit id) nx s as
 | .seq a b,nx,s,as,k=>exec P c a nx s as fun ex nx' s' as'=>match ex with
  | .normal=>exec P c b nx' s' as' k
  | .exit id=>k (.exit id) nx' s' as'
  | .ret=>k .ret nx' s' as'
 | .block id body,nx,s,as,k=>exec P c body nx s as fun ex nx' s' as'=>k (inBlock id ex) nx' s' as'
 | .cond q x y,nx,s,as,k=>match as with
  | .dec t :: as'=>match s.ev q with
   | .val .bool b=>match t with
    | true=>exec P c x nx ⟨s.sl,s.hp,s.ok∧b=true⟩ as' k
    | false=>exec P c y nx ⟨s.sl,s.hp,s.ok∧b=false⟩ as' k
   | _=>False
  | .cut d :: as'=>s.ok∧mm P c (.cond q x y) d nx s∧k d.ex d.n1 d.post.st as'
  | .fork l r :: _=>match s.ev q with
   | .anyb p=>(p→exec P c x nx s l k)∧exec P c y nx s r k
   | _=>False
  | _=>False
 | .loop body,nx,s,as,k=>match as with
  | .cut d :: as'=>s.ok∧mm P c (.loop body) d nx s∧k d.ex d.n1 d.post.st as'
  | _=>False
 | .region id ops draw,nx,s,as,k=>match Ee id as with
  | some (d,as')=>s.ok∧mm P c (.region id ops draw) d nx s∧k d.ex d.n1 d.post.st as'
  | none=>match draw && !(AU P c nx ops as (yP c draw s nx ops)).AY with
   | true=>False
   | false=>k .normal (nx+ops.size) ((AU P c nx ops as (yP c draw s nx ops)).run (fun _=>true) ops.size s) (as.drop (Ci ops.toList))
 | _,_,_,_,_=>False
section
variable {P:Program} {c:Ctx}
theorem mm.sound {code:Code} {d:zc} {nx:Nat} {s:St} (h:mm P c code d nx s) {cx:Cx} (hP:cx.P=P) (hn:cx.n=c.n) (hE:cx.np=c.pin) {ρ:Nat→Value} {a:Act} {w:World}
  (hM:M cx ρ (fun b=>b<nx) s a w) {Q:Exit→Act→World→Prop} (hQ:∀ ρ' a' w',M cx ρ' (fun b=>b<d.n1) d.post.st a' w'→Q d.ex.to a' w'):code.wp P Q a w:=by
 unfold mm at h;rw [← hn,← hE] at h;obtain ⟨h1,h2,h3,h4⟩:=h;obtain ⟨ρ',hM'⟩:=iW hM h1;exact h4 cx _ a w Q hP hn hE (hM'.shown h2 h3 rfl) hQ
theorem rX:∀ (code:Code) {nx:Nat} {s:St} {as:List ig} {k:Ex→Nat→St→List ig→Prop},(∀ ex nx s as,k ex nx s as→s.ok)→exec P c code nx s as k→s.ok:=by
 intro code
 induction code with
 | skip=>intro nx s as k hk h; exact hk _ _ _ _ h
 | ret=>intro nx s as k hk h; exact hk _ _ _ _ h
 | exit id=>intro nx s as k hk h; exact hk _ _ _ _ h
 | seq x y ihx ihy =>
  intro nx s as k hk h;refine ihx (fun ex nx' s' as' h'=>?_) h;cases ex with
  | normal=>exact ihy hk h'
  | exit id=>exact hk _ _ _ _ h'
  | ret=>exact hk _ _ _ _ h'
 | block id body ih=>intro nx s as k hk h; exact ih (fun ex nx' s' as' h'=>hk _ _ _ _ h') h
 | cond q x y ihx ihy =>
  intro nx s as k hk h;simp only [exec] at h;split at h
  ·split at h
   ·split at h
    ·exact (ihx hk h).1
    ·exact (ihy hk h).1
   ·exact h.elim
  ·exact h.1
  ·split at h
   ·exact ihy hk h.2
   ·exact h.elim
  ·exact h.elim
 | loop body _ =>
  intro nx s as k hk h;simp only [exec] at h;split at h
  ·exact h.1
  ·exact h.elim
 | region id ops draw =>
  intro nx s as k hk h;simp only [exec] at h;split at h
  ·exact h.1
  ·split at h
   ·exact h.elim
   ·exact mh.yO (hk _ _ _ _ h)
 | _=>intro nx s as k hk h; simp only [exec] at h
theorem qk (id:Nat) (ex:Ex) {Q:Exit→Act→World→Prop} {a:Act} {w:World} (h:Q (inBlock id ex).to a w):Exit.inBlock id Q ex.to a w:=by
 cases ex with
 | normal=>exact h
 | ret=>exact h
 | exit id' =>
  show (if id'=id then Q .normal a w else Q (.exit id') a w)
  by_cases e:id'=id
  ·subst e
   simp only [inBlock] at h;rw [if_pos rfl];have:Nat.beq id' id'=true:=Nat.beq_refl _;rw [this] at h;exact h
  ·rw [if_neg e]
   simp only [inBlock,beq_false e] at h;exact h
theorem iE (hc:cf P c) (hmix:P.follows .mixedOrders=true) {cx:Cx} (hP:cx.P=P) (hn:cx.n=c.n) (hE:cx.np=c.pin):∀ (code:Code) {nx:Nat} {s:St} {as:List ig} {k:Ex→Nat→St→List ig→Prop}
  {ρ:Nat→Value} {a:Act} {w:World} {Q:Exit→Act→World→Prop},(∀ ex nx s as,k ex nx s as→s.ok)→exec P c code nx s as k→M cx ρ (fun b=>b<nx) s a w →
  (∀ ex nx' s' as' ρ' a' w',k ex nx' s' as'→M cx ρ' (fun b=>b<nx') s' a' w'→Q ex.to a' w')→code.wp P Q a w:=by
 subst hP;intro code
 induction code with
 | skip=>intro nx s as k ρ a w Q hk h hM hQ; exact wp_skip (hQ _ _ _ _ _ _ _ h hM)
 | ret=>intro nx s as k ρ a w Q hk h hM hQ; exact wp_ret (hQ _ _ _ _ _ _ _ h hM)
 | exit id=>intro nx s as k ρ a w Q hk h hM hQ; exact wp_exit (hQ _ _ _ _ _ _ _ h hM)
 | seq x y ihx ihy =>
  intro nx s as k ρ a w Q hk h hM hQ;have hk':∀ (ex:Ex) (nx':Nat) (s':St) (as':List ig),(match ex with | .normal=>exec cx.P c y nx' s' as' k | .exit id=>k (.exit id) nx' s' as' | .ret=>k .ret nx' s' as')→s'.ok:=by
   intro ex nx' s' as' h';cases ex with
   | normal=>exact rX y hk h'
   | exit id=>exact hk _ _ _ _ h'
   | ret=>exact hk _ _ _ _ h'
  refine wp_seq (ihx hk' h hM fun ex nx' s' as' ρ' a' w' h' hM'=>?_);cases ex with
  | normal=>exact ihy hk h' hM' hQ
  | exit id=>exact hQ _ _ _ _ _ _ _ h' hM'
  | ret=>exact hQ _ _ _ _ _ _ _ h' hM'
 | block id body ih =>
  intro nx s as k ρ a w Q hk h hM hQ;exact wp_block (ih (fun ex nx' s' as' h'=>hk _ _ _ _ h') h hM fun ex nx' s' as' ρ' a' w' h' hM'=>qk id ex (hQ _ _ _ _ _ _ _ h' hM'))
 | cond q x y ihx ihy =>
  intro nx s as k ρ a w Q hk h hM hQ;simp only [exec] at h;split at h
  ·rename_i t as'
   split at h
   ·rename_i b hq
    have hb:a.eval q=.bool b:=by have:=(hM.ev q).1; rw [hq] at this; exact jF this
    split at h
    ·have hbt:b=true:=(rX x hk h).2
     subst hbt;exact wp_cond hb (ihx hk h (hM.Dd _) hQ)
    ·have hbt:b=false:=(rX y hk h).2
     subst hbt;exact wp_cond hb (ihy hk h (hM.Dd _) hQ)
   ·exact h.elim
  ·exact mm.sound h.2.1 rfl hn hE hM fun ρ' a' w' hM'=>hQ _ _ _ _ _ _ _ h.2.2 hM'
  ·split at h
   ·rename_i p hq
    have h1:=(hM.ev q).1;rw [hq] at h1;obtain ⟨b,hb,hp⟩:=h1;cases b with
    | true=>exact wp_cond hb (ihx hk (h.1 (hp rfl)) hM hQ)
    | false=>exact wp_cond hb (ihy hk h.2 hM hQ)
   ·exact h.elim
  ·exact h.elim
 | loop body _ =>
  intro nx s as k ρ a w Q hk h hM hQ;simp only [exec] at h;split at h
  ·exact mm.sound h.2.1 rfl hn hE hM fun ρ' a' w' hM'=>hQ _ _ _ _ _ _ _ h.2.2 hM'
  ·exact h.elim
 | region id ops draw =>
  intro nx s as k ρ a w Q hk h hM hQ;simp only [exec] at h;split at h
  ·exact mm.sound h.2.1 rfl hn hE hM fun ρ' a' w' hM'=>hQ _ _ _ _ _ _ _ h.2.2 hM'
  ·split at h
   ·exact h.elim
   ·rename_i hch
    refine mh.wp (R:=AU cx.P c nx ops as (yP c draw s nx ops)) rfl hc hn.symm hE.symm hmix (fun hd=>?_) (hk _ _ _ _ h) hM (fun ρ' a' w' hM'=>hQ _ _ _ _ _ _ _ h hM') id;subst hd
    simpa using hch
 | _=>intro nx s as k ρ a w Q hk h hM hQ; simp only [exec] at h
def Fin (c:Ctx) (cmds:List kX) (g:List (Nat × Nat)) (ex:Ex) (n1:Nat) (post:SL) (ex':Ex) (nx:Nat) (s:St) (_:List ig):Prop :=
 match gN c.n c.pin cmds nx s with
 | (_,s')=>s'.ok∧(ex'=ex∧(zj g post s'∧post.okB g n1 c.pin=true))
theorem Fin.ok {cmds:List kX} {g:List (Nat × Nat)} {ex:Ex} {n1:Nat} {post:SL} {ex':Ex} {nx:Nat} {s:St} {as:List ig} (h:Fin c cmds g ex n1 post ex' nx s as):s.ok:=ju (n:=c.n) (np:=c.pin) (qs:=cmds) (nx:=nx) h.1
theorem Fin.sound {cmds:List kX} {g:List (Nat × Nat)} {ex:Ex} {n1:Nat} {post:SL} {ex':Ex} {nx:Nat} {s:St} {as:List ig} (h:Fin c cmds g ex n1 post ex' nx s as) {cx:Cx} (hn:cx.n=c.n) (hE:cx.np=c.pin)
  {ρ:Nat→Value} {a:Act} {w:World} (hM:M cx ρ (fun b=>b<nx) s a w):ex'=ex∧∃ ρ',M cx ρ' (fun b=>b<n1) post.st a w:=by
 unfold Fin at h;rw [← hn,← hE] at h;obtain ⟨h1,h2,h3,h4⟩:=h;obtain ⟨ρ',hM'⟩:=iW hM h1;exact ⟨h2,_,hM'.shown h3 h4 rfl⟩
theorem tW (hc:cf P c) (hmix:P.follows .mixedOrders=true) {code:Code} {n0 n1:Nat} {pre post:SL} {ex:Ex} (as:List ig) (cmds:List kX) (g:List (Nat × Nat))
  (h:exec P c code n0 pre.st as (Fin c cmds g ex n1 post)):Triple P c code n0 pre ex n1 post:=by
 intro cx ρ a w Q hP hn hE hM hQ;refine iE hc hmix hP hn hE code (fun _ _ _ _ h=>Fin.ok h) h hM fun ex' nx' s' as' ρ' a' w' h' hM'=>?_
 obtain ⟨rfl,ρ2,hM2⟩:=h'.sound hn hE hM';exact hQ ρ2 a' w' hM2
def kT (P:Program) (body:Code) (Q:Exit→Act→World→Prop) (a:Act) (w:World):Prop :=
 ∀ (b:Frame) (k:List Item) (cs:List Frame),∃ e a' w',Q e a' w'∧Arrives P (lone (b.at a (.code body :: .inLoop body :: k)) cs w) b k cs e a' w'
theorem kT.loop {body:Code} {Q:Exit→Act→World→Prop} {a:Act} {w:World} (h:kT P body Q a w):(Code.loop body).wp P Q a w:=by
 intro b k cs;obtain ⟨e,a',w',hq,harr⟩:=h b k cs;exact ⟨e,a',w',hq,.of_steps (.one step_loop) harr⟩
theorem kT.once {body:Code} {Q:Exit→Act→World→Prop} {a:Act} {w:World} (h:body.wp P (Exit.then (fun a' w'=>kT P body Q a' w') Q) a w):kT P body Q a w:=by
 intro b k cs;obtain ⟨e,a₁,w₁,hq,harr⟩:=h b (.inLoop body :: k) cs;cases e with
 | normal =>
  obtain ⟨e2,a2,w2,hq2,harr2⟩:=hq b k cs;exact ⟨e2,a2,w2,hq2,.of_steps (Steps.trans harr (.one step_inLoop)) harr2⟩
 | exit id=>exact ⟨_,a₁,w₁,hq,.pass (x:=.inLoop body) rfl (fun _ _=>.inl (by simp)) harr⟩
 | goto l=>exact ⟨_,a₁,w₁,hq,.pass (x:=.inLoop body) rfl (fun _ _=>.inl (by simp)) harr⟩
 | ret=>exact ⟨_,a₁,w₁,hq,.pass (x:=.inLoop body) rfl (fun _ _=>.inl (by simp)) harr⟩
 | panic ch=>exact ⟨_,a₁,w₁,hq,.pass (x:=.inLoop body) rfl (fun _ _=>.inl (by simp)) harr⟩
 | outgrown=>exact ⟨_,a₁,w₁,hq,.pass (x:=.inLoop body) rfl (fun _ _=>.inl (by simp)) harr⟩
def cE (P:Program) (c:Ctx) (body:Code) (n0:Nat) (pre:SL) (ex:Ex) (n1:Nat) (post:SL):Prop :=
 ∀ (cx:Cx) (ρ:Nat→Value) (a:Act) (w:World) (Q:Exit→Act→World→Prop),cx.P=P→cx.n=c.n→cx.np=c.pin→M cx ρ (fun b=>b<n0) pre.st a w →
  (∀ ρ' a' w',M cx ρ' (fun b=>b<n1) post.st a' w'→Q ex.to a' w')→kT P body Q a w
theorem cE.triple {body:Code} {n0 n1:Nat} {pre post:SL} {ex:Ex} (h:cE P c body n0 pre ex n1 post):Triple P c (.loop body) n0 pre ex n1 post :=
 fun cx ρ a w Q hP hn hE hM hQ=>by subst hP; exact (h cx ρ a w Q rfl hn hE hM hQ).loop
theorem bI (hc:cf P c) (hmix:P.follows .mixedOrders=true) {body:Code} {n0 n1:Nat} {pre post:SL} {ex:Ex} (n0':Nat) (pre':SL) (as:List ig) (cmds:List kX) (g:List (Nat × Nat))
  (h:exec P c body n0 pre.st as (Fin c cmds g .normal n0' pre')) (hl:cE P c body n0' pre' ex n1 post):cE P c body n0 pre ex n1 post:=by
 intro cx ρ a w Q hP hn hE hM hQ;subst hP;refine kT.once (iE hc hmix rfl hn hE body (fun _ _ _ _ h=>Fin.ok h) h hM fun ex' nx' s' as' ρ' a' w' h' hM'=>?_);obtain ⟨rfl,ρ2,hM2⟩:=h'.sound hn hE hM';exact hl cx ρ2 a' w' Q rfl hn hE hM2 hQ
theorem bt (hc:cf P c) (hmix:P.follows .mixedOrders=true) {body:Code} {n0 n1:Nat} {pre post:SL} {ex:Ex} (as:List ig) (cmds:List kX) (g:List (Nat × Nat)) (hex:ex≠.normal)
  (h:exec P c body n0 pre.st as (Fin c cmds g ex n1 post)):cE P c body n0 pre ex n1 post:=by
 intro cx ρ a w Q hP hn hE hM hQ;subst hP;refine kT.once (iE hc hmix rfl hn hE body (fun _ _ _ _ h=>Fin.ok h) h hM fun ex' nx' s' as' ρ' a' w' h' hM'=>?_);obtain ⟨rfl,ρ2,hM2⟩:=h'.sound hn hE hM';have hq:=hQ ρ2 a' w' hM2;cases ex' with
 | normal=>exact absurd rfl hex
 | exit id=>exact hq
 | ret=>exact hq
def pk (c:Ctx) (s:St):ResultVar→Option AV
 | .tmp t=>some (s.sl t)
 | .cell ad t=>match s.sl ad with
  | .val .ptr p=>match s.hp p.b,find c.T t with
   | some k,some ty=>match oD k p ty with
    | (some y,none)=>some (.val ty y)
    | _=>none
   | _,_=>none
  | _=>none
def qq (np:Nat) (s:St):(r:RT)→r.den→AV→Prop
 | .dp t,y,av=>av=.val t y
 | .ow e tid,l,av=>match av with
  | .val .own b=>match Nat.ble np b with
   | true=>s.hp b=some (.row e l tid)
   | false=>False
  | _=>False
 | .dn e,(l:List e.den),av=>match av with
  | .nil=>NN l
  | av=>av=.val (.slice e) l∧NE l
def lT (c:Ctx) (s:St):(rs:Rs)→rs.den→List ResultVar→Prop
 | .none,_,vs=>vs=[]
 | .one r,y,[v]=>match pk c s v with
  | some av=>qq c.pin s r y av
  | none=>False
 | .more r rs,y,v :: vs=>match pk c s v with
  | some av=>qq c.pin s r y.1 av∧lT c s rs y.2 vs
  | none=>False
 | _,_,_=>False
def qE (c:Ctx) (fn:Func) (cmds:List kX) (rs:Rs) (y:rs.den) (ex:Ex) (nx:Nat) (s:St) (_:List ig):Prop :=
 match gN c.n c.pin cmds nx s with
 | (_,s')=>s'.ok∧((match ex with | .exit _=>False | _=>True)∧lT c s' rs y fn.results.toList)
end
end Go.Sx
namespace Go.Sx
def lU (ops:Array Oper) (m:Nat):List Nat:=(List.range ops.size).filter fun i=>!(Nat.testBit m i) && match ops[i]? with
 | some o=>o.after.toList.all fun e=>!(Region.binds .any e) || Nat.testBit m e.on
 | none=>false
def k7 (P:Program) (c:Ctx) (n0:Nat) (ops:Array Oper) (an:List (List ig)) (i:Nat) (s:St):St:=match ops[i]? with
 | some o=>step P c (fun _=>false) (n0+i) ops o (an.getD i []) s
 | none=>s
def kz (P:Program) (c:Ctx) (n0:Nat) (ops:Array Oper) (an:List (List ig)) (k:St→Prop):Nat→Nat→St→Prop
 | 0,_,_=>False
 | f+1,m,s=>match lU ops m with
  | []=>k s
  | i :: l=>(i :: l).foldr (fun i q=>kz P c n0 ops an k f (m ||| 2 ^ i) (k7 P c n0 ops an i s)∧q) True
def Ei (P:Program) (c:Ctx) (n0:Nat) (an:List (List ig)) (s:St) (k:Nat→St→Prop):Code→Prop
 | .region _ ops true=>kz P c n0 ops an (k (n0+ops.size)) (ops.size+1) 0 s
 | _=>False
section
variable {P:Program} {c:Ctx} {n0:Nat} {ops:Array Oper} {an:List (List ig)} {k:St→Prop}
theorem qW {α:Type} (g:α→Prop):∀ {l:List α},l.foldr (fun i q=>g i∧q) True→∀ i∈l,g i:=by
 intro l
 induction l with
 | nil=>intro _ i hi; cases hi
 | cons a l ih =>
  intro h i hi;rcases List.mem_cons.1 hi with rfl | hi
  ·exact h.1
  ·exact ih h.2 i hi
theorem se {i:Nat} {s:St} (h:(k7 P c n0 ops an i s).ok):s.ok:=by
 unfold k7 at h;split at h
 ·exact qY h
 ·exact h
theorem yA (hk:∀ s,k s→s.ok):∀ {f m:Nat} {s:St},kz P c n0 ops an k f m s→s.ok:=by
 intro f
 induction f with
 | zero=>intro m s h; exact h.elim
 | succ f ih =>
  intro m s h;unfold kz at h;split at h
  ·exact hk _ h
  ·rename_i i l _
   exact se (ih (qW _ h i List.mem_cons_self))
theorem ki {m i:Nat}:i∈lU ops m↔i<ops.size∧Nat.testBit m i=false∧∃ o,ops[i]?=some o∧∀ e∈o.after,Region.binds .any e=true→Nat.testBit m e.on=true:=by
 unfold lU;rw [List.mem_filter,List.mem_range];constructor
 ·rintro ⟨h1,h2⟩
  simp only [Bool.and_eq_true,Bool.not_eq_true'] at h2;obtain ⟨h2,h3⟩:=h2;split at h3
  ·rename_i o ho
   refine ⟨h1,h2,o,ho,fun e he hb=>?_⟩;have:=List.all_eq_true.1 h3 e (by simpa using he);rw [hb] at this
   simpa using this
  ·cases h3
 ·rintro ⟨h1,h2,o,ho,h3⟩
  refine ⟨h1,?_⟩;rw [h2,ho];simp only [Bool.not_false,Bool.true_and];refine List.all_eq_true.2 fun e he=>?_
  cases hb:Region.binds .any e with
  | false=>rfl
  | true=>rw [h3 e (by simpa using he) hb]; rfl
theorem testBit_or (m i j:Nat):Nat.testBit (m ||| 2 ^ i) j=(Nat.testBit m j || decide (i=j)):=by
 rw [Nat.testBit_or,Nat.testBit_two_pow]
variable {cx:Cx}
theorem rU (hP:P=cx.P) (hc:cf cx.P c) (hn:c.n=cx.n) (hE:c.pin=cx.np) (hk:∀ s,k s→s.ok) {Q:Exit→Act→World→Prop}
  (hQ:∀ s ρ a w,k s→M cx ρ (fun b=>b<n0+ops.size) s a w→Q .normal a w) :
  ∀ (f fuel m:Nat) (listed:Array Bool) (s:St) (ρ:Nat→Value) (a:Act) (w:World),listed.size=ops.size→(∀ j,j<ops.size→listed.getD j false=Nat.testBit m j)→(∀ j,Nat.testBit m j=true→j<ops.size)→mh.left (fun i=>listed.getD i false) ops.size≤fuel →
   kz P c n0 ops an k f m s→M cx ρ (fun b=>b<n0∨∃ i,i<ops.size∧Nat.testBit m i=true∧b=n0+i) s a w→wpAny cx.P .any ops Q fuel listed a w:=by
 have rd:∀ (m:Nat) (listed:Array Bool) (i:Nat),listed.size=ops.size→(∀ j,j<ops.size→listed.getD j false=Nat.testBit m j)→(∀ j,ops.size≤j→listed.getD j false=false)→i∈Region.ready .any ops listed→i∈lU ops m:=by
  intro m listed i hsz hl hl2 hi;obtain ⟨h1,o,ho,h2⟩:=mem_ready.1 hi;have hlt:i<ops.size:=(Array.getElem?_eq_some_iff.1 ho).1;have hlt':i<listed.size:=by omega
  have hDi:listed.getD i false=false:=by
   simp only [Array.getD_eq_getD_getElem?,Array.getElem?_eq_getElem hlt',Option.getD_some] at h1 ⊢;exact h1
  refine ki.2 ⟨hlt,by rw [← hl i hlt]; exact hDi,o,ho,fun e he hb=>?_⟩;have:=h2 e he hb
  by_cases hj:e.on<ops.size
  ·rw [← hl _ hj]; exact this
  ·rw [hl2 _ (by omega)] at this; cases this
 have out:∀ (listed:Array Bool),listed.size=ops.size→∀ j,ops.size≤j→listed.getD j false=false:=by
  intro listed hsz j hj;rw [Array.getD_eq_getD_getElem?,Array.getElem?_eq_none (by omega)];rfl
 have fin:∀ (m:Nat) (listed:Array Bool) (f:Nat) (s:St) (ρ:Nat→Value) (a:Act) (w:World),lU ops m=[]→kz P c n0 ops an k f m s →
   M cx ρ (fun b=>b<n0∨∃ i,i<ops.size∧Nat.testBit m i=true∧b=n0+i) s a w→Q .normal a w:=by
  intro m listed f s ρ a w hr h hM;cases f with
  | zero=>exact h.elim
  | succ f =>
   unfold kz at h;rw [hr] at h;refine hQ s ρ a w h (hM.ic fun b hb=>?_);rcases hb with hb | ⟨i,hi,_,rfl⟩ <;> omega
 have back:∀ (m:Nat) (listed:Array Bool) (i:Nat),listed.size=ops.size→(∀ j,j<ops.size→listed.getD j false=Nat.testBit m j)→(∀ j,Nat.testBit m j=true→j<ops.size)→i∈lU ops m→i∈Region.ready .any ops listed:=by
  intro m listed i hsz hl hm hi;obtain ⟨hlt,h1,o,ho,h2⟩:=ki.1 hi;have hlt':i<listed.size:=by omega
  refine mem_ready.2 ⟨?_,o,ho,fun e he hb=>?_⟩
  ·have:=hl i hlt
   rw [h1] at this;simp only [Array.getD_eq_getD_getElem?,Array.getElem?_eq_getElem hlt',Option.getD_some] at this ⊢;exact this
  ·have:=h2 e he hb
   rw [hl _ (hm _ this)]; exact this
 intro f
 induction f with
 | zero=>intro fuel m listed s ρ a w _ _ _ _ h; exact h.elim
 | succ f ih =>
  intro fuel m listed s ρ a w hsz hl hm hle h hM;have none_of:Region.ready .any ops listed=[]→Q .normal a w:=by
   intro hr;refine fin m listed (f+1) s ρ a w ?_ h hM;cases hq:lU ops m with
   | nil=>rfl
   | cons i l =>
    have hi:=back m listed i hsz hl hm (by rw [hq]; exact List.mem_cons_self);rw [hr] at hi;cases hi
  cases fuel with
  | zero =>
   have hl0:=mh.j6 (by omega:mh.left (fun i=>listed.getD i false) ops.size=0);have hrd:Region.ready .any ops listed=[]:=by
    cases hr:Region.ready .any ops listed with
    | nil=>rfl
    | cons i l =>
     have hi:i∈Region.ready .any ops listed:=by rw [hr]; exact List.mem_cons_self
     obtain ⟨hlt,h1,_⟩:=ki.1 (rd m listed i hsz hl (out listed hsz) hi);have:=hl0 i hlt;rw [hl i hlt,h1] at this;cases this
   exact ⟨hrd,none_of hrd⟩
  | succ fuel =>
   refine ⟨none_of,fun i hi=>?_⟩;have hi':=rd m listed i hsz hl (out listed hsz) hi;obtain ⟨hlt,h1,o,ho,h2⟩:=ki.1 hi';have hr:kz P c n0 ops an k f (m ||| 2 ^ i) (k7 P c n0 ops an i s):=by
    unfold kz at h;split at h
    ·rename_i hnil
     rw [hnil] at hi';cases hi'
    ·rename_i j l hcons
     rw [hcons] at hi';exact qW _ h i hi'
   have hok:=yA hk hr;have hst:k7 P c n0 ops an i s=step P c (fun _=>false) (n0+i) ops o (an.getD i []) s:=by
    unfold k7;rw [ho]
   rw [hst] at hok hr;rw [hP] at hok;have hDi:listed.getD i false=false:=by rw [hl i hlt]; exact h1
   have hlt':i<listed.size:=by omega
   have hins:(fun j=>(listed.setIfInBounds i true).getD j false)=mh.ins (fun i=>listed.getD i false) i:=by
    funext j
    by_cases e:j=i
    ·subst e
     rw [mh.iM];simp [Array.getD_eq_getD_getElem?,hlt']
    ·rw [mh.jB _ e]
     simp only [Array.getD_eq_getD_getElem?];rw [Array.getElem?_setIfInBounds_ne (fun h=>e h.symm)]
   have hleft:=mh.pj (D:=fun i=>listed.getD i false) hDi hlt;refine l7 hc hn hE hM (nid:=n0+i) (fun hF=>?_) ho hok fun ρ' a' w' hM'=>?_
   ·rcases hF with hF | ⟨j,_,hj,hjj⟩
    ·omega
    ·have:j=i:=by omega
     subst this;rw [h1] at hj; cases hj
   ·refine ih fuel (m ||| 2 ^ i) (listed.setIfInBounds i true) _ ρ' a' w' (by rw [Array.size_setIfInBounds]; exact hsz) (fun j hj=>?_) (fun j hj=>?_) (by rw [hins]; omega) hr ?_
    ·have e1:(listed.setIfInBounds i true).getD j false=mh.ins (fun i=>listed.getD i false) i j:=congrFun hins j
     rw [e1,testBit_or]
     by_cases e:j=i
     ·subst e
      rw [mh.iM];simp
     ·rw [mh.jB _ e,hl j hj,decide_eq_false (fun h=>e h.symm),Bool.or_false]
    ·rw [testBit_or,Bool.or_eq_true] at hj
     rcases hj with hj | hj
     ·exact hm j hj
     ·have:=of_decide_eq_true hj
      omega
    ·rw [hP]
     refine hM'.ic fun b hb=>?_
     rcases hb with (hb | ⟨j,hj,hDj,rfl⟩) | rfl
     ·exact .inl hb
     ·exact .inr ⟨j,hj,by rw [testBit_or,hDj]; rfl,rfl⟩
     ·exact .inr ⟨i,hlt,by rw [testBit_or]; simp,rfl⟩
end
theorem Bt {P:Program} {c:Ctx} (hc:cf P c) (hmix:P.follows .mixedOrders=true) {code:Code} {n0 n1:Nat} {pre post:SL} (an:List (List ig)) (cmds:List kX) (g:List (Nat × Nat))
  (h:Ei P c n0 an pre.st (fun nx s=>Fin c cmds g .normal n1 post .normal nx s []) code):Triple P c code n0 pre .normal n1 post:=by
 intro cx ρ a w Q hP hn hE hM hQ;subst hP;unfold Ei at h;split at h
 ·rename_i id ops
  refine wp_region_any hmix ?_
  have hM':M cx ρ (fun b=>b<n0) pre.st a w.drew:=hM.world (Below.refl _ _).drew;have hz:∀ i,(Array.replicate ops.size false).getD i false=false:=by
   intro i;simp only [Array.getD_eq_getD_getElem?,Array.getElem?_replicate];split <;> rfl
  have hl0:∀ n,mh.left (fun i=>(Array.replicate ops.size false).getD i false) n≤n:=by
   intro n
   induction n with
   | zero=>exact Nat.le_refl _
   | succ n ih=>simp only [mh.left]; rw [hz]; simp only; omega
  refine rU rfl hc hn.symm hE.symm (fun s hs=>Fin.ok hs) (fun s ρ' a' w' hs hM2=>?_) _ _ 0 _ _ ρ a w.drew (by simp) (fun j _=>by rw [hz,Nat.zero_testBit]) (fun j hj=>by rw [Nat.zero_testBit] at hj; cases hj) (hl0 _) h (hM'.ic fun b hb=>.inl hb);obtain ⟨_,ρ2,hM3⟩:=hs.sound hn hE hM2;exact hQ ρ2 a' w' hM3
 ·exact h.elim
end Go.Sx
