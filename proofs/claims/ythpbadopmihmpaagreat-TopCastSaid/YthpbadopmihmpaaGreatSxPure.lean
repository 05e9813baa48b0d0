import Derived.Test.YthpbadopmihmpaaGreatSxExec2
namespace Go.Sx
def pAV:(t:Ty)→t.den→AV
 | .ref t,x=>.imm t x 0
 | .int k,x=>.val (.int k) x
 | .bool,x=>.val .bool x
 | .nil,_=>.nil
 | .nilf,x=>.val .nilf x
 | .unit,x=>.val .unit x
 | .pair a b,x=>.val (.pair a b) x
 | .slice e,x=>.val (.slice e) x
 | .arr n e,x=>.val (.arr n e) x
 | .own,x=>.val .own x
 | .ptr,x=>.val .ptr x
 | .clo,x=>.val .clo x
 | .fn ps r,x=>.val (.fn ps r) x
 | .fn2 ps a b,x=>.val (.fn2 ps a b) x
def entryL:(ps:Ty)→Nat→ps.den→List (Nat × AV)
 | .pair t r,i,x=>(i,pAV t x.1) :: entryL r (i+1) x.2
 | .int _,_,_=>[]
 | .bool,_,_=>[]
 | .nil,_,_=>[]
 | .nilf,_,_=>[]
 | .unit,_,_=>[]
 | .slice _,_,_=>[]
 | .arr _ _,_,_=>[]
 | .own,_,_=>[]
 | .ptr,_,_=>[]
 | .clo,_,_=>[]
 | .fn _ _,_,_=>[]
 | .fn2 _ _ _,_,_=>[]
 | .ref _,_,_=>[]
def entry (ps:Ty) (x:ps.den):SL:=⟨entryL ps 0 x,[]⟩
def Ty.deepL:Ty→Bool
 | .pair t r=>t.deep && r.deepL
 | .unit=>true
 | _=>false
section
variable {P:Program} {c:Ctx}
theorem pAV_sound {w:World} {I:Nat→Prop} {t:Ty} {x:t.den} {c1:List Value} (h:Rd P t false ρ0 w I x c1):RV P ρ0 w I (pAV t x) (mkV t c1):=by
 cases t with
 | ref t =>
  obtain ⟨ad,c,rfl,h1,h2,h3,h4,h5⟩:=h
  refine ⟨ad,c,?_,h1,h2,h3,h4,h5⟩
  have:ad.add 0=ad:=by cases ad; unfold Addr.add; split <;> simp_all
  rw [this]; rfl
 | nil =>
  have h:c1=[.slice none 0 0]:=h
  subst h
  rfl
 | _=>exact ⟨c1,rfl,h⟩
theorem pAV_refs {t:Ty} {x:t.den} (h:t.deep=true):(pAV t x).refs=[]:=by
 cases t with
 | ref t=>rfl
 | pair a b=>exact Ty.deep_refs (t:=.pair a b) h
 | slice e=>rfl
 | arr n e=>exact Ty.deep_refs (t:=.arr n e) h
 | fn a b=>rfl
 | fn2 p a b=>rfl
 | int k=>rfl
 | nil=>rfl
 | nilf=>rfl
 | bool=>rfl
 | unit=>rfl
 | own=>cases h
 | ptr=>cases h
 | clo=>cases h
theorem entry_sound {w:World} {I:Nat→Prop}:∀ {ps:Ty} {i:Nat} {x:ps.den} {vs:List Value},Rd P ps true ρ0 w I x vs→∀ {d:Nat} {av:AV},find (entryL ps i x) d=some av→i≤d∧∃ v,vs[d - i]?=some v∧RV P ρ0 w I av v:=by
 intro ps
 induction ps with
 | pair t r _ ihr =>
  intro i x vs h d av hf
  obtain ⟨c1,vs',rfl,h1,h2⟩:=h
  simp only [entryL] at hf
  unfold find at hf
  split at hf
  ·rename_i hd
   have hd:=Nat.eq_of_beq_eq_true hd
   obtain rfl:=Option.some.inj hf
   subst hd
   exact ⟨Nat.le_refl _,mkV t c1,by simp,pAV_sound h1⟩
  ·obtain ⟨h3,v,h4,h5⟩:=ihr h2 hf
   refine ⟨by omega,v,?_,h5⟩
   have:d - i=(d - (i+1))+1:=by omega
   rw [this]
   simpa using h4
 | _=>intro i x vs h d av hf; simp [entryL,find] at hf
theorem entry_refs:∀ {ps:Ty} {i:Nat} {x:ps.den},ps.deepL=true→∀ {d:Nat} {av:AV},find (entryL ps i x) d=some av→av.refs=[]:=by
 intro ps
 induction ps with
 | pair t r _ ihr =>
  intro i x hd d av hf
  simp only [Ty.deepL,Bool.and_eq_true] at hd
  simp only [entryL] at hf
  unfold find at hf
  split at hf
  ·obtain rfl:=Option.some.inj hf
   exact pAV_refs hd.1
  ·exact ihr hd.2 hf
 | _=>intro i x hd d av hf; simp [entryL,find] at hf
theorem args_len:∀ {ps:Ty} {ρ:Nat→Value} {w:World} {I:Nat→Prop} {x:ps.den} {vs:List Value} {n:Nat},Rd P ps true ρ w I x vs→(entryL ps n x).length=vs.length:=by
 intro ps
 induction ps with
 | pair t r _ ihr =>
  intro ρ w I x vs n h
  obtain ⟨c1,vs',rfl,h1,h2⟩:=h
  simp only [entryL,List.length_cons,ihr h2]
 | unit=>intro ρ w I x vs n h; have h:vs=[]:=h; subst h; rfl
 | _=>intro ρ w I x vs n h; exact h.elim
variable {cx:Cx} {ρ:Nat→Value} {F:Nat→Prop} {s:St} {a:Act} {w:World}
def resVar (tmps:Array Value):ResultVar→Sem Value
 | .tmp t=>pure (tmps.getD t undef)
 | .cell ad t=>do loadVar t (← asAddr (tmps.getD ad undef))
theorem retAV_sound (hT:TOk cx.P c) (hM:M cx ρ F s a w) {v:ResultVar} {av:AV} (h:retAV c s v=some av):∃ u,(resVar a.tmps v).run cx.P w=.ok u w∧RV cx.P ρ w (cx.I ρ s) av u:=by
 cases v with
 | tmp t =>
  obtain rfl:=Option.some.inj h
  exact ⟨_,rfl,hM.slots t⟩
 | cell ad t =>
  simp only [retAV] at h
  split at h
  ·rename_i p hp
   split at h
   ·rename_i k ty hk hty
    split at h
    ·rename_i y hg
     obtain rfl:=Option.some.inj h
     have h1:=hM.slots ad
     rw [hp] at h1
     have h1:=RV_ptr h1
     obtain ⟨r,tid,cur,pre,cc,post,_,h2,h3,h4,h5,_⟩:=place_sound (hM.blks p.b k hk) hg trivial
     have hl:=run_loadAt (P:=cx.P) (hT _ _ (find_mem hty)) (CellsAt_of_row h3 h4) h5.length
     refine ⟨mkV ty cc,?_,cc,rfl,h5⟩
     simp only [resVar,h1,h2,asAddr,Sem.run_bind,Sem.run_pure,Result.andThen_ok]
     simpa [Instr.loadAt,Instr.sureAddr] using hl
    ·cases h
   ·cases h
  ·cases h
def ownedBy (ρ:Nat→Value) (s:St) (r:Nat):Prop:=∃ b k,s.hp b=some k∧real (ρ b)=some r
theorem RetV.sound (hgv:∀ r,¬ cx.gv r) (hM:M cx ρ F s a w) {r:RT} {y:r.den} {av:AV} {u:Value} (hd:r.deep=true) (hE:c.pin=cx.np) (h:RetV c.pin s r y av) (hv:RV cx.P ρ w (cx.I ρ s) av u) :
  r.ok cx.P cx.w0 w cx.ok (ownedBy ρ s) y u:=by
 have hI:∀ b,b<w.heap.size→cx.I ρ s b→(cx.ok b∨cx.w0.heap.size≤b)∧¬ ownedBy ρ s b:=fun b _ hi=>⟨hi.1.imp id (fun h=>h.resolve_right (hgv b)),fun ⟨c,k,hk,hr⟩=>hi.2 c k hk hr⟩
 cases r with
 | dp t =>
  have h:av=.val t y:=h
  subst h
  obtain ⟨cc,rfl,hcc⟩:=hv
  exact ⟨cc,rfl,(hcc.rho fun b hb=>by have e0:=Ty.deep_refs (t:=t) (x:=y) hd; have hb:b∈([]:List Nat):=e0 ▸ hb; cases hb).mono (Pres.refl _ _) hI⟩
 | ow e tid =>
  unfold RetV at h
  simp only at h
  split at h
  ·rename_i b
   split at h
   ·rename_i hnp
    have hnp:cx.np≤b:=hE ▸ Nat.le_of_ble_eq_true hnp
    have hu:=RV_own hv
    subst hu
    obtain ⟨xs,hro,hrd⟩:=hM.blks b _ h
    refine ⟨⟨xs,?_,hrd.mono (Pres.refl _ _) hI⟩,fun q hq=>⟨b,_,h,hq⟩,hM.rho b⟩
    obtain ⟨h1,h2⟩:=hro
    refine ⟨h1,?_⟩
    rcases h2 with h2 | ⟨g,cap,cur,h3,hcp,_,h4⟩
    ·exact .inl h2
    ·exact .inr ⟨g,cap,cur,h3,hcp,((hM.fresh b _ g h (by rw [h3]; exact real_slice hcp)).1.resolve_right (fun h=>Nat.not_lt.2 hnp h.2)).resolve_right (hgv g),h4⟩
   ·exact h.elim
  ·exact h.elim
 | dn e =>
  have data:∀ l:List e.den,RV cx.P ρ w (cx.I ρ s) (.val (.slice e) l) u→RdV cx.P (.slice e) ρ0 w (fun b=>(cx.ok b∨cx.w0.heap.size≤b)∧¬ ownedBy ρ s b) l u:=by
   intro l ⟨cc,hc,hcc⟩
   exact ⟨cc,hc,(hcc.rho fun b hb=>by have e0:=Ty.deep_refs (t:=.slice e) (x:=l) hd; have hb:b∈([]:List Nat):=e0 ▸ hb; cases hb).mono (Pres.refl _ _) hI⟩
  unfold RetV at h
  simp only at h
  split at h
  ·have hu:u=.slice none 0 0:=hv
   match y,h with
   | [],_=>exact ⟨⟨[.slice none 0 0],hu,none,0,rfl,Nat.le_refl _,.inl rfl⟩,fun _=>hu⟩
  ·obtain ⟨h1,h2⟩:=h
   subst h1
   match y,h2,hv with
   | a :: l,_,hv=>exact ⟨data _ hv,fun h=>nomatch h⟩
theorem RetVs.sound (hgv:∀ r,¬ cx.gv r) (hT:TOk cx.P c) (hE:c.pin=cx.np) (hM:M cx ρ F s a w):∀ {rs:Rs} {y:rs.den} {vs:List ResultVar},rs.deep=true→RetVs c s rs y vs →
  ∃ us:List Value,(vs.mapM (resVar a.tmps)).run cx.P w=.ok us w∧rs.vals cx.P cx.w0 w cx.ok (ownedBy ρ s) y us∧us.length=vs.length:=by
 intro rs
 induction rs with
 | none =>
  intro y vs _ h; have h:vs=[]:=by cases vs <;> first | rfl | exact h
  subst h; exact ⟨[],rfl,rfl,rfl⟩
 | one r =>
  intro y vs hd h
  match vs,h with
  | [v],h =>
   have h:(match retAV c s v with | some av=>RetV c.pin s r y av | none=>False):=h
   split at h
   ·rename_i av hav
    obtain ⟨u,hu,hv⟩:=retAV_sound hT hM hav
    refine ⟨[u],by simp [hu],⟨u,rfl,RetV.sound hgv hM hd hE h hv⟩,rfl⟩
   ·exact h.elim
  | [],h=>exact False.elim h
  | _ :: _ :: _,h=>exact False.elim h
 | more r rs ih =>
  intro y vs hd h
  simp only [Rs.deep,Bool.and_eq_true] at hd
  match vs,h with
  | v :: vs,h =>
   have h:(match retAV c s v with | some av=>RetV c.pin s r y.1 av∧RetVs c s rs y.2 vs | none=>False):=h
   split at h
   ·rename_i av hav
    obtain ⟨u,hu,hv⟩:=retAV_sound hT hM hav
    obtain ⟨us,hus,hvals,hl⟩:=ih hd.2 h.2
    refine ⟨u :: us,by simp [hu,hus],⟨u,us,rfl,RetV.sound hgv hM hd.1 hE h.1 hv,hvals⟩,by simp [hl]⟩
   ·exact h.elim
  | [],h=>exact False.elim h
theorem results_run {fn:Func} {us:List Value} (h:(fn.results.toList.mapM (resVar a.tmps)).run cx.P w=.ok us w):(results fn a.tmps).run cx.P w=.ok (if h:us.toArray.size=1 then us.toArray[0] else .tuple us.toArray) w:=by
 have e1:results fn a.tmps=(fn.results.mapM (resVar a.tmps) >>= fun vs=>pure (if h:vs.size=1 then vs[0] else .tuple vs)):=by
  unfold results
  congr 1
 rw [e1,Array.mapM_eq_mapM_toList]
 simp [h]
theorem Rs.ok_of_vals {w0 w:World} {ok X:Nat→Prop} {rs:Rs} {y:rs.den} {us:List Value} (h:rs.vals P w0 w ok X y us) (hm:∀ r rs',rs=.more r rs'→us.length≠1) :
  rs.ok P w0 w ok X y (if h:us.toArray.size=1 then us.toArray[0] else .tuple us.toArray):=by
 cases rs with
 | none=>have h:us=[]:=h; subst h; exact ⟨[],rfl,rfl⟩
 | one r=>obtain ⟨v,rfl,hv⟩:=h; exact hv
 | more r rs =>
  have:=hm r rs rfl
  rw [dif_neg (by simpa using this)]
  exact ⟨us,rfl,h⟩
def Rs.proper:Rs→Bool
 | .more _ .none=>false
 | .more _ rs=>rs.proper
 | _=>true
theorem Rs.vals_len {w0 w:World} {ok X:Nat→Prop}:∀ {rs:Rs} {y:rs.den} {us:List Value},rs.vals P w0 w ok X y us→rs.proper=true→(∀ r rs',rs=.more r rs'→us.length≠1):=by
 intro rs y us h hp r rs' e
 subst e
 obtain ⟨v,vs',rfl,_,h2⟩:=h
 cases rs' with
 | none=>simp [Rs.proper] at hp
 | one r'=>obtain ⟨v',rfl,_⟩:=h2; simp
 | more r' rs''=>obtain ⟨v',vs'',rfl,_⟩:=h2; simp
theorem invOk_of_calls {f:FuncId} {fn:Func} {args:Array Value} {R:Value→World→Prop} (hf:P.funcs[f]?=some fn) {code:Code} (hb:fn.body=some code) (hname:(fn.name == "runtime.NumGoroutine")=false)
  (h:Calls P f args w fun e w'=>∃ v,e=.returned v∧R v w'):InvOk P f args w R:=by
 intro o a next Q hn
 have hr:(callFunc f args).run P w=.ok (.enter f args) w:=by
  have h1:fn.name≠"runtime.NumGoroutine":=by simpa using hname
  simp [callFunc,hf,h1,hb]
 rw [hr]
 refine Calls.mono h fun e w' he=>?_
 obtain ⟨v,rfl,hv⟩:=he
 exact hn v w' hv
theorem fn_ok (hc:CtxOk P c) (hmix:P.follows .mixedOrders=true) {f:FuncId} {fn:Func} {code:Code} {sp:Spec} (hf:P.funcs[f]?=some fn) (hb:fn.body=some code) (hname:(fn.name == "runtime.NumGoroutine")=false)
  (hn:c.n=fn.ntmps) (hpin:c.pin=0) (hwr:sp.wr=false) (hdl:sp.ps.deepL=true) (hd:sp.rs.deep=true) (hp:sp.rs.proper=true) (hlen:∀ x:sp.ps.den,(entryL sp.ps 0 x).length≤fn.ntmps)
  (h:∀ (x:sp.ps.den) (y:sp.rs.den),sp.f x=some y→∃ as cmds,exec P c code 0 (entry sp.ps x).st as (Ret c fn cmds sp.rs y)):FnOk P f sp:=by
 unfold FnOk
 rw [hwr]
 intro w ok x y args hok hargs hy
 refine invOk_of_calls hf hb hname ?_
 obtain ⟨as,cmds,hex⟩:=h x y hy
 refine calls_of_wp hf hb ?_
 let cx:Cx:=⟨P,w,ok,fn.ntmps,0,fun _=>undef,fun _=>False⟩
 have hsz:args.toArray.size≤fn.ntmps:=by
  have h1:=hlen x
  rw [args_len hargs] at h1
  simpa using h1
 have hI:∀ r,r<w.heap.size→ok r→cx.I ρ0 (entry sp.ps x).st r:=fun r _ hr=>⟨.inl hr,fun b k hk=>by cases hk⟩
 have hM:M cx ρ0 (fun b=>b<0) (entry sp.ps x).st { tmps:=args.toArray++Array.replicate (fn.ntmps - args.toArray.size) undef,defers:=[] } w:=by
  refine ⟨rfl,Tp.refl _,rfl,Nat.le_refl _,fun _ _ _=>rfl,?_,(fun b k hk=>nomatch hk),(fun b b' k k' r hk=>nomatch hk),(fun b k r hk=>nomatch hk),?_,(fun b k hk=>nomatch hk),ρ0_one,rfl,?_,fun j hj=>absurd hj (Nat.not_lt_zero j)⟩
  ·intro d
   show RV P ρ0 w _ (lookS (entryL sp.ps 0 x) d) _
   unfold lookS
   cases hfd:find (entryL sp.ps 0 x) d with
   | none=>trivial
   | some av =>
    obtain ⟨_,v,h2,h3⟩:=entry_sound hargs hfd
    have h2:args[d]?=some v:=by simpa using h2
    have hlt:d<args.length:=(List.getElem?_eq_some_iff.1 h2).1
    have:(args.toArray++Array.replicate (fn.ntmps - args.toArray.size) undef).getD d undef=v:=by
     rw [Array.getD_eq_getD_getElem?,Array.getElem?_append_left (by simpa using hlt)]
     simp [h2]
    rw [this]
    exact h3.mono (fun _ _=>rfl) (Pres.refl _ _) hI
  ·intro d b hb
   change b∈(lookS (entryL sp.ps 0 x) d).refs at hb
   unfold lookS at hb
   split at hb
   ·rename_i v hfd
    rw [entry_refs hdl hfd] at hb; cases hb
   ·cases hb
  ·show (args.toArray++Array.replicate (fn.ntmps - args.toArray.size) undef).size=fn.ntmps
   rw [Array.size_append,Array.size_replicate]
   omega
 refine exec_sound hc hmix (cx:=cx) rfl hn.symm hpin.symm code (fun ex nx s as h=>cmds_mono (n:=c.n) (np:=c.pin) (qs:=cmds) (nx:=nx) h.1) hex hM fun ex nx s as ρ' a' w' hret hM'=>?_
 unfold Ret at hret
 rw [hn,hpin] at hret
 obtain ⟨h1,h2,h3⟩:=hret
 obtain ⟨ρ2,hM2⟩:=cmds_sound (cx:=cx) hM' h1
 obtain ⟨us,hus,hvals,hul⟩:=RetVs.sound (fun _ h=>h) hc.T hpin hM2 hd h3
 have hres:=results_run (cx:=cx) (fn:=fn) hus
 have hpost:a'.defers=[]∧∃ v,(results fn a'.tmps).run P w'=.ok v w'∧∃ v',Ending.returned v=.returned v'∧(ResOk P w w' ok sp.rs y v'∧Below w.heap.size w w'):=by
  refine ⟨hM2.defers,_,hres,_,rfl,⟨ownedBy ρ2 (runCmds fn.ntmps 0 cmds nx s).2,fun b hb=>?_,Rs.ok_of_vals hvals (Rs.vals_len hvals hp)⟩,?_⟩
  ·obtain ⟨q,k,hk,hr⟩:=hb
   exact ((hM2.fresh q k b hk hr).1.resolve_right (fun h=>absurd h.2 (Nat.not_lt_zero _))).resolve_right (fun h=>h)
  ·exact ⟨hM2.os,hM2.tape,hM2.output,hM2.size,fun k hk=>hM2.keeps k hk (fun h=>h.elim (fun ⟨j,hj,_⟩=>absurd hj (Nat.not_lt_zero j)) (fun h=>h))⟩
 cases ex with
 | normal=>exact hpost
 | ret=>exact hpost
 | exit id=>exact h2.elim
def entryW (t ps:Ty) (x:t.den × ps.den):SL:=⟨(0,.val .ptr ⟨0,0,0,0,0⟩) :: entryL ps 1 x.2,[(0,.cells t x.1)]⟩
def RetW (c:Ctx) (fn:Func) (cmds:List Cmd) (t:Ty) (rs:Rs) (y:t.den × rs.den) (ex:Ex) (nx:Nat) (s:St) (_:List Ans):Prop :=
 match runCmds c.n c.pin cmds nx s with
 | (_,s')=>s'.ok∧((match ex with | .exit _=>False | _=>True)∧(s'.hp 0=some (.cells t y.1)∧RetVs c s' rs y.2 fn.results.toList))
theorem fnW_ok (hc:CtxOk P c) (hmix:P.follows .mixedOrders=true) {f:FuncId} {fn:Func} {code:Code} {t ps t':Ty} {rs:Rs} {g:t.den × ps.den→Option (t'.den × rs.den)} (hf:P.funcs[f]?=some fn) (hb:fn.body=some code) (hname:(fn.name == "runtime.NumGoroutine")=false)
  (hn:c.n=fn.ntmps) (hpin:c.pin=1) (hdt:t.deep=true) (hdl:ps.deepL=true) (hdt':t'.deep=true) (hd:rs.deep=true) (hp:rs.proper=true) (hlen:∀ x:ps.den,(entryL ps 1 x).length+1≤fn.ntmps)
  (h:∀ (x:t.den × ps.den) (y:t'.den × rs.den),g x=some y→∃ as cmds,exec P c code 1 (entryW t ps x).st as (RetW c fn cmds t' rs y)):FnOk P f ⟨.pair (.ref t) ps,.more (.dp t') rs,g,true⟩:=by
 show FnOkW P f (.pair (.ref t) ps) (.more (.dp t') rs) g
 intro w ok r tid cur x z x' y args hok hcur hrd hargs hy
 refine invOk_of_calls hf hb hname ?_
 obtain ⟨as,cmds,hex⟩:=h (x,z) (x',y) hy
 refine calls_of_wp hf hb ?_
 let cx:Cx:=⟨P,w,ok,fn.ntmps,1,fun _=>.pointer (some ⟨r,0,none⟩),fun _=>False⟩
 let ρ1:Nat→Value:=upd ρ0 0 (.pointer (some ⟨r,0,none⟩))
 have hr:r<w.heap.size:=(Array.getElem?_eq_some_iff.1 hcur).1
 have hsz:(Value.pointer (some ⟨r,0,none⟩) :: args).toArray.size≤fn.ntmps:=by
  have h1:=hlen z
  rw [args_len hargs] at h1
  simpa using h1
 have hp0:∀ b k,(entryW t ps (x,z)).st.hp b=some k→b=0∧k=.cells t x:=by
  intro b k hk
  change find [(0,Blk.cells t x)] b=some k at hk
  unfold find at hk
  split at hk
  ·rename_i hb0
   exact ⟨(Nat.eq_of_beq_eq_true hb0).symm,(Option.some.inj hk).symm⟩
  ·cases hk
 have hρ1:ρ1 0=.pointer (some ⟨r,0,none⟩):=upd_same _ _ _
 have hI:∀ q,q<w.heap.size→ok q→cx.I ρ1 (entryW t ps (x,z)).st q:=fun q _ hq=>⟨.inl hq,fun b k hk hrr=>by
  obtain ⟨rfl,_⟩:=hp0 b k hk
  rw [hρ1] at hrr
  exact (hok q hq).2 (Option.some.inj hrr).symm⟩
 have hM:M cx ρ1 (fun b=>b<1) (entryW t ps (x,z)).st { tmps:=(Value.pointer (some ⟨r,0,none⟩) :: args).toArray++Array.replicate (fn.ntmps - (Value.pointer (some ⟨r,0,none⟩) :: args).toArray.size) undef,defers:=[] } w:=by
  refine ⟨rfl,Tp.refl _,rfl,Nat.le_refl _,fun _ _ _=>rfl,?_,?_,?_,?_,?_,?_,?_,rfl,?_,?_⟩
  ·intro d
   have hget:∀ v,(Value.pointer (some ⟨r,0,none⟩) :: args)[d]?=some v→((Value.pointer (some ⟨r,0,none⟩) :: args).toArray++Array.replicate (fn.ntmps - (Value.pointer (some ⟨r,0,none⟩) :: args).toArray.size) undef).getD d undef=v:=by
    intro v hv
    have hlt:d<(Value.pointer (some ⟨r,0,none⟩) :: args).length:=(List.getElem?_eq_some_iff.1 hv).1
    rw [Array.getD_eq_getD_getElem?,Array.getElem?_append_left (by simpa using hlt)]
    simp only [List.getElem?_toArray,hv,Option.getD_some]
   show RV P ρ1 w _ (lookS ((0,.val .ptr ⟨0,0,0,0,0⟩) :: entryL ps 1 z) d) _
   unfold lookS
   cases hfd:find ((0,AV.val .ptr ⟨0,0,0,0,0⟩) :: entryL ps 1 z) d with
   | none=>trivial
   | some av =>
    unfold find at hfd
    split at hfd
    ·rename_i hd0
     have hd0:=Nat.eq_of_beq_eq_true hd0
     subst hd0
     obtain rfl:=Option.some.inj hfd
     simp only
     rw [hget (.pointer (some ⟨r,0,none⟩)) rfl]
     have hval:∀ q:Ptr,q.b=0→q.val ρ1=.pointer (some ((⟨r,0,none⟩:Addr).add q.co)):=by
      intro q hq
      unfold Ptr.val
      rw [hq,hρ1]
     refine ⟨[.pointer (some ⟨r,0,none⟩)],rfl,?_,⟨r,0,none⟩,rfl,fun q hq=>hval q hq⟩
     rw [hval _ rfl]
     rfl
    ·obtain ⟨h1,v,h2,h3⟩:=entry_sound hargs hfd
     obtain ⟨d',rfl⟩:∃ d',d=d'+1:=⟨d - 1,by omega⟩
     rw [hget v (by simpa using h2)]
     exact h3.mono (fun b hb=>by rw [entry_refs hdl hfd] at hb; cases hb) (Pres.refl _ _) hI
  ·intro b k hk
   obtain ⟨rfl,rfl⟩:=hp0 b k hk
   exact ⟨r,tid,cur,hρ1,hcur,(hrd.rho (fun b hb=>by rw [Ty.deep_refs hdt] at hb; cases hb)).mono (Pres.refl _ _) hI⟩
  ·intro b b' k k' q h1 h2 _ _
   rw [(hp0 b k h1).1,(hp0 b' k' h2).1]
  ·intro b k q h1 h2
   obtain ⟨rfl,rfl⟩:=hp0 b k h1
   rw [hρ1] at h2
   obtain rfl:r=q:=Option.some.inj h2
   exact ⟨.inr ⟨.inl ⟨0,Nat.zero_lt_one,rfl⟩,Nat.zero_lt_one⟩,hr⟩
  ·intro d b hb
   change b∈(lookS ((0,.val .ptr ⟨0,0,0,0,0⟩) :: entryL ps 1 z) d).refs at hb
   unfold lookS at hb
   split at hb
   ·rename_i v hfd
    unfold find at hfd
    split at hfd
    ·obtain rfl:=Option.some.inj hfd
     rw [List.mem_singleton.1 hb]
     exact Nat.zero_lt_one
    ·rw [entry_refs hdl hfd] at hb; cases hb
   ·cases hb
  ·intro b k hk
   obtain ⟨rfl,rfl⟩:=hp0 b k hk
   exact ⟨Nat.zero_lt_one,fun c hc=>by
    have hc:c∈t.refs x:=hc
    rw [Ty.deep_refs hdt] at hc; cases hc⟩
  ·intro b
   by_cases e:b=0
   ·subst e; rw [hρ1]; rfl
   ·show (upd ρ0 0 _ b).oneCell'=true
    rw [upd_ne _ _ e]; rfl
  ·show ((Value.pointer (some ⟨r,0,none⟩) :: args).toArray++Array.replicate (fn.ntmps - (Value.pointer (some ⟨r,0,none⟩) :: args).toArray.size) undef).size=fn.ntmps
   rw [Array.size_append,Array.size_replicate]
   omega
  ·intro j hj
   obtain rfl:j=0:=Nat.lt_one_iff.1 hj
   exact ⟨hρ1,Nat.zero_lt_one⟩
 refine exec_sound hc hmix (cx:=cx) rfl hn.symm hpin.symm code (fun ex nx s as h=>cmds_mono (n:=c.n) (np:=c.pin) (qs:=cmds) (nx:=nx) h.1) hex hM fun ex nx s as ρ' a' w' hret hM'=>?_
 unfold RetW at hret
 rw [hn,hpin] at hret
 obtain ⟨h1,h2,h0,h3⟩:=hret
 obtain ⟨ρ2,hM2⟩:=cmds_sound (cx:=cx) hM' h1
 obtain ⟨us,hus,hvals,hul⟩:=RetVs.sound (fun _ h=>h) hc.T hpin hM2 hd h3
 have hres:=results_run (cx:=cx) (fn:=fn) hus
 have hpost:a'.defers=[]∧∃ v,(results fn a'.tmps).run P w'=.ok v w'∧∃ v',Ending.returned v=.returned v'∧(ResW P r w w' ok t' x' rs y v'∧BelowX r w w'):=by
  obtain ⟨r',tid',cur',hv',hcur',hrd'⟩:=hM2.blks 0 _ h0
  have hpin2:=(hM2.pin 0 Nat.zero_lt_one).1
  have hpin2:ρ2 0=.pointer (some ⟨r,0,none⟩):=hpin2
  rw [hpin2] at hv'
  obtain rfl:r=r':=by injection hv' with hv'; injection hv' with hv'; injection hv'
  refine ⟨hM2.defers,_,hres,_,rfl,⟨ownedBy ρ2 (runCmds fn.ntmps 1 cmds nx s).2,⟨cur',tid',hcur',(hrd'.rho (fun b hb=>by rw [Ty.deep_refs hdt'] at hb; cases hb)).mono (Pres.refl _ _) (fun q _ hi=>⟨hi.1.imp id (fun h=>h.resolve_right (fun h=>h)),fun ⟨c,k,hk,hr⟩=>hi.2 c k hk hr⟩)⟩,Rs.ok_of_vals hvals (Rs.vals_len hvals hp)⟩,?_⟩
  exact ⟨hM2.os,hM2.tape,hM2.output,hM2.size,fun q hq hne=>hM2.keeps q hq (fun h=>h.elim (fun ⟨_,_,e⟩=>hne (Option.some.inj e).symm) (fun h=>h))⟩
 cases ex with
 | normal=>exact hpost
 | ret=>exact hpost
 | exit id=>exact h2.elim
def RT.frz:RT→RT
 | .dp t=>.dp t
 | .ow e _=>.dp (.slice e)
 | .dn e=>.dp (.slice e)
def Rs.frz:Rs→Rs
 | .none=>.none
 | .one r=>.one r.frz
 | .more r rs=>.more r.frz rs.frz
theorem RT.frz_den (r:RT):r.frz.den=r.den:=by cases r <;> rfl
theorem Rs.frz_den:(rs:Rs)→rs.frz.den=rs.den
 | .none=>rfl
 | .one r=>r.frz_den
 | .more r rs=>by show (r.frz.den × rs.frz.den)=(r.den × rs.den); rw [r.frz_den,rs.frz_den]
def Spec.frz (sp:Spec):Spec:=⟨sp.ps,sp.rs.frz,fun x=>cast (congrArg Option (sp.rs.frz_den).symm) (sp.f x),false⟩
theorem row_data {w w':World} {J:Nat→Prop} {e:Ty} {l:List e.den} {tid:TypeId} {v:Value} {xs:List Value} (hro:World.rowOf w' w.heap.size tid e.size v l.length xs) (hrd:Rd P (.arr l.length e) false ρ0 w' J l xs)
  (hJ:∀ g,w.heap.size≤g→J g):RdV P (.slice e) ρ0 w' J l v:=by
 rcases hro.2 with ⟨A0,h1,h2⟩ | ⟨g,cap,cur,h1,hcp,hg,h3,h4,h5,h6,h7⟩
 ·have hl0:l=[]:=List.eq_nil_of_length_eq_zero h2
  subst hl0
  rw [h1]
  exact ⟨[.slice A0 0 0],rfl,A0,0,rfl,Nat.le_refl _,.inl rfl⟩
 ·rw [h1]
  refine ⟨[.slice (some ⟨g,0,none⟩) l.length cap],rfl,some ⟨g,0,none⟩,cap,rfl,h4,?_⟩
  refine .inr ⟨⟨g,0,none⟩,rfl,rfl,hJ g hg,(Array.getElem?_eq_some_iff.1 h3).1,fun i x hx=>?_⟩
  have hi:i<l.length:=(List.getElem?_eq_some_iff.1 hx).1
  obtain ⟨pre,ci,post,g1,g2,g3,_⟩:=elemAt hrd hi e.zero
  have hyy:l.getD i e.zero=x:=by simp only [List.getD]; rw [show l[i]?=some x from hx]; rfl
  rw [hyy] at g3
  refine ⟨ci,?_,g3⟩
  have hcur:cur.toList=pre++ci++(post++cur.toList.drop (l.length*e.size)):=by
   have:=List.take_append_drop (l.length*e.size) cur.toList
   rw [h7,g1] at this
   rw [← List.append_assoc]; exact this.symm
  have:=CellsAt_of_row h3 hcur
  rw [g2] at this
  rw [add_none,Nat.zero_add]
  exact this
theorem RT.frz_ok {w w':World} {ok X:Nat→Prop} {r:RT} {y:r.den} {y':r.frz.den} (e:y ≍ y') {v:Value} (h:r.ok P w w' ok X y v):r.frz.ok P w w' ok (fun _=>False) y' v:=by
 cases r with
 | dp t =>
  obtain rfl:=eq_of_heq e
  obtain ⟨c,hc,hr⟩:=h
  exact ⟨c,hc,hr.mono (Pres.refl _ _) fun q _ hq=>⟨hq.1,id⟩⟩
 | ow e' tid =>
  obtain rfl:=eq_of_heq e
  obtain ⟨⟨xs,hro,hrd⟩,_,_⟩:=h
  exact row_data (e:=e') (l:=y) hro (hrd.mono (Pres.refl _ _) fun q _ hq=>⟨hq.1,id⟩) (fun g hg=>⟨.inr hg,id⟩)
 | dn e' =>
  obtain rfl:=eq_of_heq e
  obtain ⟨⟨c,hc,hr⟩,_⟩:=h
  exact ⟨c,hc,hr.mono (Pres.refl _ _) fun q _ hq=>⟨hq.1,id⟩⟩
theorem heq_pair {A A' B B':Type} (e1:A'=A) (e2:B'=B) {y:A × B} {y':A' × B'} (h:y ≍ y'):y.1 ≍ y'.1∧y.2 ≍ y'.2:=by
 subst e1 e2
 obtain rfl:=eq_of_heq h
 exact ⟨HEq.rfl,HEq.rfl⟩
theorem Rs.frz_vals {w w':World} {ok X:Nat→Prop}:∀ {rs:Rs} {y:rs.den} {y':rs.frz.den},y ≍ y'→∀ {vs:List Value},rs.vals P w w' ok X y vs→rs.frz.vals P w w' ok (fun _=>False) y' vs:=by
 intro rs
 induction rs with
 | none=>intro y y' e vs h; exact h
 | one r=>intro y y' e vs h; obtain ⟨v,h1,h2⟩:=h; exact ⟨v,h1,RT.frz_ok e h2⟩
 | more r rs ih =>
  intro y y' e vs h
  obtain ⟨v,vs',h1,h2,h3⟩:=h
  have hp:=heq_pair r.frz_den rs.frz_den e
  exact ⟨v,vs',h1,RT.frz_ok hp.1 h2,ih hp.2 h3⟩
theorem Rs.frz_ok {w w':World} {ok X:Nat→Prop}:∀ {rs:Rs} {y:rs.den} {y':rs.frz.den},y ≍ y'→∀ {v:Value},rs.ok P w w' ok X y v→rs.frz.ok P w w' ok (fun _=>False) y' v:=by
 intro rs
 cases rs with
 | none=>intro y y' _ v hok'; exact hok'
 | one r=>intro y y' he v hok'; exact RT.frz_ok he hok'
 | more r rs=>intro y y' he v hok'; obtain ⟨vs,h1,h2⟩:=hok'; exact ⟨vs,h1,Rs.frz_vals he h2⟩
theorem FnOk.frz {f:FuncId} {sp:Spec} (hwr:sp.wr=false) (h:FnOk P f sp):FnOk P f sp.frz:=by
 unfold FnOk at h
 rw [hwr] at h
 show FnOkD P f sp.ps sp.rs.frz _
 intro w ok x y' args hok hargs hy
 have key:∃ y:sp.rs.den,y ≍ y'∧sp.f x=some y:=by
  have h1:cast (congrArg Option (sp.rs.frz_den).symm) (sp.f x)=some y':=hy
  have:∀ (A B:Type) (e:A=B) (o:Option A) (y':B),cast (congrArg Option e) o=some y'→∃ y:A,y ≍ y'∧o=some y:=by
   intro A B e o y' h
   subst e
   exact ⟨y',HEq.rfl,h⟩
  exact this _ _ (sp.rs.frz_den).symm _ _ h1
 obtain ⟨y,he,hf⟩:=key
 exact (h w ok x y args hok hargs hf).mono fun v w' ⟨⟨X,_,hok'⟩,hb⟩=>⟨⟨fun _=>False,fun _ h=>h.elim,Rs.frz_ok he hok'⟩,hb⟩
end
end Go.Sx
namespace Go.Sx
def entryHL:List HArg→Nat→List (Nat × AV)
 | [],_=>[]
 | .lent av :: l,i=>(i,av) :: entryHL l (i+1)
 | .dat t x :: l,i=>(i,pAV t x) :: entryHL l (i+1)
def entryH (h:HSp) (x:h.xs.den):SL:=⟨entryHL (h.args x) 0,h.pre x⟩
def RetH (c:Ctx) (fn:Func) (cmds:List Cmd) (h:HSp) (x:h.xs.den) (y:h.ys.den) (ex:Ex) (nx:Nat) (s:St) (_:List Ans):Prop :=
 match runCmds c.n c.pin cmds nx s with
 | (_,s')=>s'.ok∧((match ex with | .exit _=>False | _=>True)∧((h.fin x y).map (fun b=>some b.2)=(h.fin x y).map (fun b=>s'.hp b.1)∧RetVs c s' h.rs (h.res y) fn.results.toList))
section
variable {P:Program} {c:Ctx}
theorem entryH_sound {ρ:Nat→Value} {w:World} {I:Nat→Prop} {np:Nat}:∀ {l:List HArg} {i:Nat} {vs:List Value},ArgsFit P ρ w I l vs→l.all (HArg.okB np)=true→∀ {d:Nat} {av:AV},find (entryHL l i) d=some av →
  i≤d∧(∃ v,vs[d - i]?=some v∧RV P ρ w I av v)∧∀ b∈av.refs,b<np:=by
 intro l
 induction l with
 | nil=>intro i vs _ _ d av h; cases h
 | cons x l ih =>
  intro i vs h hb d av hf
  simp only [List.all_cons,Bool.and_eq_true] at hb
  have step:∀ (vs':List Value) (v:Value),ArgsFit P ρ w I l vs'→find (entryHL l (i+1)) d=some av→i≤d∧(∃ u,(v :: vs')[d - i]?=some u∧RV P ρ w I av u)∧∀ b∈av.refs,b<np:=by
   intro vs' v h2 hf
   obtain ⟨h3,⟨u,h4,h5⟩,h6⟩:=ih h2 hb.2 hf
   refine ⟨by omega,⟨u,?_,h5⟩,h6⟩
   have:d - i=(d - (i+1))+1:=by omega
   rw [this]
   simpa using h4
  cases x with
  | lent av0 =>
   obtain ⟨v,vs',rfl,h1,h2⟩:=h
   simp only [entryHL] at hf
   unfold find at hf
   split at hf
   ·rename_i hd
    obtain rfl:=Nat.eq_of_beq_eq_true hd
    obtain rfl:=Option.some.inj hf
    exact ⟨Nat.le_refl _,⟨v,by simp,h1⟩,fun b hbm=>blt_true (List.all_eq_true.1 hb.1 b hbm)⟩
   ·exact step vs' v h2 hf
  | dat t y =>
   obtain ⟨v,vs',rfl,⟨cc,rfl,h1⟩,h2⟩:=h
   simp only [entryHL] at hf
   unfold find at hf
   split at hf
   ·rename_i hd
    obtain rfl:=Nat.eq_of_beq_eq_true hd
    obtain rfl:=Option.some.inj hf
    have hr:(pAV t y).refs=[]:=pAV_refs hb.1
    exact ⟨Nat.le_refl _,⟨mkV t cc,by simp,(pAV_sound h1).mono (fun b hbm=>by rw [hr] at hbm; cases hbm) (Pres.refl _ _) (fun _ _ h=>h)⟩,fun b hbm=>by rw [hr] at hbm; cases hbm⟩
   ·exact step vs' (mkV t cc) h2 hf
theorem argsFit_len {ρ:Nat→Value} {w:World} {I:Nat→Prop}:∀ {l:List HArg} {vs:List Value},ArgsFit P ρ w I l vs→vs.length=l.length:=by
 intro l
 induction l with
 | nil=>intro vs h; have h:vs=[]:=h; rw [h]; rfl
 | cons x l ih =>
  intro vs h
  cases x with
  | lent av=>obtain ⟨v,vs',rfl,_,h2⟩:=h; simp [ih h2]
  | dat t y=>obtain ⟨v,vs',rfl,_,h2⟩:=h; simp [ih h2]
theorem RB_lt {ρ:Nat→Value} {w:World} {I:Nat→Prop} {v:Value} {k:Blk} (h:RB P ρ w I v k) {r:Nat} (hr:real v=some r):r<w.heap.size:=by
 cases k with
 | cells t x =>
  obtain ⟨r',tid,cur,rfl,h2,_⟩:=h
  obtain rfl:r'=r:=Option.some.inj hr
  exact (Array.getElem?_eq_some_iff.1 h2).1
 | row e l tid =>
  obtain ⟨xs,h1,_⟩:=h
  exact (ownsRow_real h1 hr).2
theorem fnH_ok (hc:CtxOk P c) (hmix:P.follows .mixedOrders=true) {f:FuncId} {fn:Func} {code:Code} {h:HSp} (hf:P.funcs[f]?=some fn) (hb:fn.body=some code) (hname:(fn.name == "runtime.NumGoroutine")=false)
  (hn:c.n=fn.ntmps) (hpin:c.pin=h.np) (hp:h.rs.proper=true) (hgv:h.gv=false) (hlen:∀ x:h.xs.den,(h.args x).length≤fn.ntmps)
  (hw:∀ (x:h.xs.den) (y:h.ys.den),h.g x=some y→∃ as cmds,exec P c code h.np (entryH h x).st as (RetH c fn cmds h x y)):HOk P f h:=by
 unfold HOk
 rw [hgv]
 intro w ok ρ x y args hok hinj hone hblk hfit hokB hpostB hy
 refine invOk_of_calls hf hb hname ?_
 obtain ⟨as,cmds,hex⟩:=hw x y hy
 refine calls_of_wp hf hb ?_
 let cx:Cx:=⟨P,w,ok,fn.ntmps,h.np,ρ,fun _=>False⟩
 have hok1:=hokB
 have hpo1:=hpostB
 simp only [HSp.okB,Bool.and_eq_true] at hok1
 simp only [HSp.postB,Bool.and_eq_true] at hpo1
 obtain ⟨hk0,hr0,ha0⟩:=hok1
 obtain ⟨hk1,hr1,hdeep,hows⟩:=hpo1
 have hsz:args.toArray.size≤fn.ntmps:=by
  have h1:=hlen x
  rw [← argsFit_len hfit] at h1
  simpa using h1
 have hI:∀ r,r<w.heap.size→ok r→cx.I ρ (entryH h x).st r:=fun r _ hr=>⟨.inl hr,fun b k hk hrr=>(hok r hr).2 b (keysB_lt hk0 hk) hrr⟩
 have hM:M cx ρ (fun b=>b<h.np) (entryH h x).st { tmps:=args.toArray++Array.replicate (fn.ntmps - args.toArray.size) undef,defers:=[] } w:=by
  refine ⟨rfl,Tp.refl _,rfl,Nat.le_refl _,fun _ _ _=>rfl,?_,?_,?_,?_,?_,?_,hone,rfl,?_,fun j hj=>⟨rfl,hj⟩⟩
  ·intro d
   show RV P ρ w _ (lookS (entryHL (h.args x) 0) d) _
   unfold lookS
   cases hfd:find (entryHL (h.args x) 0) d with
   | none=>trivial
   | some av =>
    obtain ⟨_,⟨v,h2,h3⟩,_⟩:=entryH_sound hfit ha0 hfd
    have h2:args[d]?=some v:=by simpa using h2
    have hlt:d<args.length:=(List.getElem?_eq_some_iff.1 h2).1
    have:(args.toArray++Array.replicate (fn.ntmps - args.toArray.size) undef).getD d undef=v:=by
     rw [Array.getD_eq_getD_getElem?,Array.getElem?_append_left (by simpa using hlt)]
     simp [h2]
    rw [this]
    exact h3.mono (fun _ _=>rfl) (Pres.refl _ _) hI
  ·intro b k hk
   exact (hblk b k hk).mono (fun _ _=>rfl) (Pres.refl _ _) hI (fun _ _=>rfl)
  ·intro b b' k k' r h1 h2 h3 h4
   exact hinj b b' r (keysB_lt hk0 h1) (keysB_lt hk0 h2) h3 h4
  ·intro b k r h1 h2
   have hlt:=keysB_lt hk0 h1
   exact ⟨.inr ⟨.inl ⟨b,hlt,h2⟩,hlt⟩,RB_lt (hblk b k h1) h2⟩
  ·intro d b hb
   change b∈(lookS (entryHL (h.args x) 0) d).refs at hb
   unfold lookS at hb
   split at hb
   ·rename_i v hfd
    exact (entryH_sound hfit ha0 hfd).2.2 b hb
   ·cases hb
  ·intro b k hk
   exact ⟨keysB_lt hk0 hk,fun d hd=>blt_true (List.all_eq_true.1 (List.all_eq_true.1 hr0 _ (find_mem hk)) d hd)⟩
  ·show (args.toArray++Array.replicate (fn.ntmps - args.toArray.size) undef).size=fn.ntmps
   rw [Array.size_append,Array.size_replicate]
   omega
 refine exec_sound hc hmix (cx:=cx) rfl hn.symm hpin.symm code (fun ex nx s as h=>cmds_mono (n:=c.n) (np:=c.pin) (qs:=cmds) (nx:=nx) h.1) hex hM fun ex nx s as ρ' a' w' hret hM'=>?_
 unfold RetH at hret
 rw [hn,hpin] at hret
 obtain ⟨h1,h2,h0,h3⟩:=hret
 obtain ⟨ρ2,hM2⟩:=cmds_sound (cx:=cx) hM' h1
 obtain ⟨us,hus,hvals,hul⟩:=RetVs.sound (fun _ h=>h) hc.T hpin hM2 hdeep h3
 have hres:=results_run (cx:=cx) (fn:=fn) hus
 have hpv:∀ j,j<h.np→ρ2 j=ρ j:=fun j hj=>(hM2.pin j hj).1
 have hpost:a'.defers=[]∧∃ v,(results fn a'.tmps).run P w'=.ok v w'∧∃ v',Ending.returned v=.returned v'∧∃ X:Nat→Prop,(∀ j k,find (h.fin x y) j=some k→RB P ρ w' (fun q=>(ok q∨w.heap.size≤q)∧¬ X q) (ρ j) k)∧h.rs.ok P w w' ok X (h.res y) v' ∧
   BelowS (fun q=>∃ j,j<h.np∧real (ρ j)=some q) w w':=by
  refine ⟨hM2.defers,_,hres,_,rfl,ownedBy ρ2 (runCmds fn.ntmps h.np cmds nx s).2,fun j k hj=>?_,Rs.ok_of_vals hvals (Rs.vals_len hvals hp),?_⟩
  ·have hk:(runCmds fn.ntmps h.np cmds nx s).2.hp j=some k:=(find_of_map (g:=fun b:Nat × Blk=>some b.2) (h:=fun b=>(runCmds fn.ntmps h.np cmds nx s).2.hp b) h0 hj).symm
   have hlt:=keysB_lt hk1 hj
   rw [← hpv j hlt]
   exact (hM2.blks j k hk).mono (fun b hb=>(hpv b (blt_true (List.all_eq_true.1 (List.all_eq_true.1 hr1 _ (find_mem hj)) b hb))).symm) (Pres.refl _ _) (fun q _ hi=>⟨hi.1.imp id (fun h=>h.resolve_right (fun h=>h)),fun ⟨c,k,hk,hr⟩=>hi.2 c k hk hr⟩) (fun _ _=>rfl)
  ·exact ⟨hM2.os,hM2.tape,hM2.output,hM2.size,fun q hq hne=>hM2.keeps q hq (fun h=>h.elim (fun ⟨j,hj,e⟩=>hne ⟨j,hj,e⟩) (fun h=>h))⟩
 cases ex with
 | normal=>exact hpost
 | ret=>exact hpost
 | exit id=>exact h2.elim
def RetGV (c:Ctx) (s:St) (k:Option Blk):List ResultVar→Prop
 | [v]=>match retAV c s v with
  | some (.val .own b)=>s.hp b=k
  | _=>False
 | _=>False
def RetG (c:Ctx) (fn:Func) (cmds:List Cmd) (h:HSp) (x:h.xs.den) (y:h.ys.den) (ex:Ex) (nx:Nat) (s:St) (_:List Ans):Prop :=
 match runCmds c.n c.pin cmds nx s with
 | (_,s')=>s'.ok∧((match ex with | .exit _=>False | _=>True)∧RetGV c s' (find (h.post x y) 0) fn.results.toList)
theorem fnG_ok (hc:CtxOk P c) (hmix:P.follows .mixedOrders=true) {f:FuncId} {fn:Func} {code:Code} {h:HSp} (hf:P.funcs[f]?=some fn) (hb:fn.body=some code) (hname:(fn.name == "runtime.NumGoroutine")=false)
  (hn:c.n=fn.ntmps) (hpin:c.pin=0) (hnp:h.np=1) (hgv:h.gv=true) (hlen:∀ x:h.xs.den,(h.args x).length≤fn.ntmps) (hsh:∀ x:h.xs.den,∃ (e:Ty) (l:List e.den) (tid:TypeId),h.pre x=[(0,.row e l tid)])
  (hw:∀ (x:h.xs.den) (y:h.ys.den),h.g x=some y→∃ as cmds,exec P c code 1 (entryH h x).st as (RetG c fn cmds h x y)):HOk P f h:=by
 unfold HOk
 rw [hgv]
 intro w ok ρ x y args hok hone hblk hfit hokB hy
 refine invOk_of_calls hf hb hname ?_
 obtain ⟨as,cmds,hex⟩:=hw x y hy
 refine calls_of_wp hf hb ?_
 let cx:Cx:=⟨P,w,ok,fn.ntmps,0,fun _=>undef,fun r=>real (ρ 0)=some r⟩
 have hok1:=hokB
 simp only [HSp.okB,Bool.and_eq_true] at hok1
 obtain ⟨_,_,ha0⟩:=hok1
 rw [hnp] at ha0
 obtain ⟨e,l,tid,hpre⟩:=hsh x
 have hsz:args.toArray.size≤fn.ntmps:=by
  have h1:=hlen x
  rw [← argsFit_len hfit] at h1
  simpa using h1
 have hst:∀ b k,(entryH h x).st.hp b=some k→b=0∧k=.row e l tid:=by
  intro b k hk
  have hk:find (h.pre x) b=some k:=hk
  rw [hpre] at hk
  unfold find at hk
  split at hk
  ·rename_i hz
   exact ⟨(Nat.eq_of_beq_eq_true hz).symm,(Option.some.inj hk).symm⟩
  ·cases hk
 have hI:∀ r,r<w.heap.size→ok r→cx.I ρ (entryH h x).st r:=fun r _ hr=>⟨.inl hr,fun b k hk hrr=>by
  obtain ⟨rfl,_⟩:=hst b k hk
  exact (hok r hr).2 hrr⟩
 have hb0:RB P ρ w ok (ρ 0) (.row e l tid):=hblk _ (by rw [hpre]; rfl)
 have hM:M cx ρ (fun b=>b<1) (entryH h x).st { tmps:=args.toArray++Array.replicate (fn.ntmps - args.toArray.size) undef,defers:=[] } w:=by
  refine ⟨rfl,Tp.refl _,rfl,Nat.le_refl _,fun _ _ _=>rfl,?_,?_,?_,?_,?_,?_,hone,rfl,?_,fun j hj=>absurd hj (Nat.not_lt_zero j)⟩
  ·intro d
   show RV P ρ w _ (lookS (entryHL (h.args x) 0) d) _
   unfold lookS
   cases hfd:find (entryHL (h.args x) 0) d with
   | none=>trivial
   | some av =>
    obtain ⟨_,⟨v,h2,h3⟩,_⟩:=entryH_sound hfit ha0 hfd
    have h2:args[d]?=some v:=by simpa using h2
    have hlt:d<args.length:=(List.getElem?_eq_some_iff.1 h2).1
    have:(args.toArray++Array.replicate (fn.ntmps - args.toArray.size) undef).getD d undef=v:=by
     rw [Array.getD_eq_getD_getElem?,Array.getElem?_append_left (by simpa using hlt)]
     simp [h2]
    rw [this]
    exact h3.mono (fun _ _=>rfl) (Pres.refl _ _) hI
  ·intro b k hk
   obtain ⟨rfl,rfl⟩:=hst b k hk
   exact hb0.mono (fun _ _=>rfl) (Pres.refl _ _) hI (fun _ _=>rfl)
  ·intro b b' k k' r h1 h2 h3 h4
   rw [(hst b k h1).1,(hst b' k' h2).1]
  ·intro b k r h1 h2
   obtain ⟨rfl,rfl⟩:=hst b k h1
   exact ⟨.inl (.inr h2),RB_lt hb0 h2⟩
  ·intro d b hb
   change b∈(lookS (entryHL (h.args x) 0) d).refs at hb
   unfold lookS at hb
   split at hb
   ·rename_i v hfd
    exact (entryH_sound hfit ha0 hfd).2.2 b hb
   ·cases hb
  ·intro b k hk
   obtain ⟨rfl,rfl⟩:=hst b k hk
   exact ⟨Nat.zero_lt_one,fun d hd=>by cases hd⟩
  ·show (args.toArray++Array.replicate (fn.ntmps - args.toArray.size) undef).size=fn.ntmps
   rw [Array.size_append,Array.size_replicate]
   omega
 refine exec_sound hc hmix (cx:=cx) rfl hn.symm hpin.symm code (fun ex nx s as h=>cmds_mono (n:=c.n) (np:=c.pin) (qs:=cmds) (nx:=nx) h.1) hex hM fun ex nx s as ρ' a' w' hret hM'=>?_
 unfold RetG at hret
 rw [hn,hpin] at hret
 obtain ⟨h1,h2,h3⟩:=hret
 obtain ⟨ρ2,hM2⟩:=cmds_sound (cx:=cx) hM' h1
 have hpost:a'.defers=[]∧∃ v,(results fn a'.tmps).run P w'=.ok v w'∧∃ v',Ending.returned v=.returned v'∧∀ (e:Ty) (l':List e.den) (tid:TypeId),find (h.post x y) 0=some (.row e l' tid) →
   (∃ xs',World.rowOf w' 0 tid e.size v' l'.length xs'∧Rd P (.arr l'.length e) false ρ0 w' (fun _=>True) l' xs')∧v'.oneCell'=true∧(∀ r,real v'=some r→real (ρ 0)=some r∨(w.heap.size≤r∧r<w'.heap.size))∧BelowS (fun q=>real (ρ 0)=some q) w w':=by
  unfold RetGV at h3
  split at h3
  ·rename_i vv hres
   split at h3
   ·rename_i b hav
    obtain ⟨u,hu,hv⟩:=retAV_sound hc.T hM2 hav
    have hv:=RV_own hv
    subst hv
    have hus:(fn.results.toList.mapM (resVar a'.tmps)).run cx.P w'=.ok [ρ2 b] w':=by rw [hres]; simp [hu]
    refine ⟨hM2.defers,_,results_run (cx:=cx) (fn:=fn) hus,_,rfl,fun e l' tid hk=>?_⟩
    rw [hk] at h3
    obtain ⟨xs',hro,hrd⟩:=hM2.blks b _ h3
    refine ⟨⟨xs',hro,hrd.mono (Pres.refl _ _) (fun _ _ _=>trivial)⟩,hM2.rho b,fun r hr=>?_,hM2.os,hM2.tape,hM2.output,hM2.size,fun q hq hne=>hM2.keeps q hq (fun h=>h.elim (fun ⟨j,hj,_⟩=>absurd hj (Nat.not_lt_zero j)) hne)⟩
    have hfr:=hM2.fresh b _ r h3 hr
    rcases hfr.1.resolve_right (fun h=>Nat.not_lt_zero _ h.2) with h4 | h4
    ·exact .inr ⟨h4,hfr.2⟩
    ·exact .inl h4
   ·exact h3.elim
  ·exact h3.elim
 cases ex with
 | normal=>exact hpost
 | ret=>exact hpost
 | exit id=>exact h2.elim
end
end Go.Sx
namespace Go.Sx
def iadd (k:IntKind) (x y:Int):Int:=k.wrap (x+y)
def isub (k:IntKind) (x y:Int):Int:=k.wrap (x - y)
def imul (k:IntKind) (x y:Int):Int:=k.wrap (x*y)
def iquo (k:IntKind) (x y:Int):Int:=k.wrap (x.tdiv y)
def irem (x y:Int):Int:=x.tmod y
def ishl (k:IntKind) (x y:Int):Int:=k.wrap (x*2 ^ (min y.toNat k.bits))
def ishr (k:IntKind) (x y:Int):Int:=x.fdiv (2 ^ (min y.toNat k.bits))
def icv (k:IntKind) (x:Int):Int:=k.wrap x
def ine (x y:Int):Bool:=decide (¬ x=y)
def ilt (x y:Int):Bool:=decide (x<y)
def ile (x y:Int):Bool:=decide (x≤y)
def igt (x y:Int):Bool:=decide (x > y)
def ige (x y:Int):Bool:=decide (x ≥ y)
def nz (x:Int):Prop:=¬ x=0
def ng (x:Int):Prop:=0≤x
def len {α:Type} (l:List α):Int:=(l.length:Int)
def el {α:Type} (z:α) (l:List α) (n:Int):α:=List.getD l n.toNat z
def st {α:Type} (l:List α) (n:Int) (y:α):List α:=l.set n.toNat y
def inL {α:Type} (n:Int) (l:List α):Prop:=inR n (l.length:Int)
def cut {α:Type} (l:List α) (a b:Int):List α:=List.drop a.toNat (List.take b.toNat l)
def cutOk {α:Type} (l:List α) (a b:Int):Prop:=0≤a∧a≤b∧b≤(l.length:Int)
def room {α:Type} (bytes:Nat) (l m:List α):Prop:=roomFor bytes l.length m.length
def mk0 {α:Type} (z:α) (n:Int):List α:=List.replicate n.toNat z
def room0 {α:Type} (bytes:Nat) (m:List α):Prop:=roomFor bytes 0 m.length
instance {α:Type} (l:List α):Decidable (NE l):=match l with
 | []=>isFalse id
 | _ :: _=>isTrue trivial
instance (x:Int):Decidable (nz x):=by unfold nz; infer_instance
instance (x:Int):Decidable (ng x):=by unfold ng; infer_instance
instance (x y:Int):Decidable (inR x y):=by unfold inR; infer_instance
instance {α:Type} (x:Int) (y:List α):Decidable (inL x y):=by unfold inL; infer_instance
def tk {α:Type} (l:List α) (b:Int):List α:=List.take b.toNat l
def tkOk {α:Type} (l:List α) (b:Int):Prop:=0≤b∧b≤(l.length:Int)
def clr {α:Type} (z:α) (l:List α) (n:Nat):List α:=l.take n++List.replicate (l.length - n) z
instance (b:Nat) (n:Int):Decidable (zAp b n):=by unfold zAp; infer_instance
instance (n:Int) (m:Nat):Decidable (sufIn n m):=by unfold sufIn; infer_instance
theorem retgP {O:Prop} (o:O) (k:Option Blk):O∧(True∧k=k):=⟨o,trivial,rfl⟩
instance {α:Type} (l:List α) (y:Int):Decidable (tkOk l y):=by unfold tkOk; infer_instance
instance {α:Type} (l:List α) (x y:Int):Decidable (cutOk l x y):=by unfold cutOk; infer_instance
instance {α:Type} (b:Nat) (l m:List α):Decidable (room b l m):=by unfold room roomFor; infer_instance
instance {α:Type} (b:Nat) (m:List α):Decidable (room0 b m):=by unfold room0 roomFor; infer_instance
def bif' {α:Type} (b:Bool) (x y:Option α):Option α:=match b with
 | true=>x
 | false=>y
def req {α:Type} (p:Prop) [Decidable p] (x:Option α):Option α:=if p then x else none
def bnd {α β:Type} (x:Option α) (f:α→Option β):Option β:=match x with
 | some y=>f y
 | none=>none
def two {α β γ:Type} (x:α ⊕ β) (f:α→γ) (g:β→γ):γ:=match x with
 | .inl a=>f a
 | .inr b=>g b
def splitL {α:Type}:Option (List α)→Option (Unit ⊕ (α × List α))
 | none=>none
 | some []=>some (.inl ())
 | some (a :: l)=>some (.inr (a,l))
theorem splitL_nil {α:Type} {o:Option (List α)} {s:Unit ⊕ (α × List α)} {v:Unit} (e:splitL o=some s) (h:s=.inl v):o=some []:=by
 match o,e with
 | some [],_=>rfl
 | some (a :: l),e=>rw [h] at e; cases e
theorem splitL_cons {α:Type} {o:Option (List α)} {s:Unit ⊕ (α × List α)} {v:α × List α} (e:splitL o=some s) (h:s=.inr v):o=some (v.1 :: v.2):=by
 match o,e with
 | some [],e=>rw [h] at e; cases e
 | some (a :: l),e=>rw [h] at e; cases e; rfl
def Owp {α:Type} (o:Option α) (C:α→Prop):Prop:=∀ y,o=some y→C y
theorem Owp.none {α:Type} {C:α→Prop}:Owp (none:Option α) C:=fun _ h=>nomatch h
theorem oS {α:Type} {C:α→Prop} {v:α} (h:C v):Owp (some v) C:=fun _ e=>Option.some.inj e ▸ h
theorem oF {α:Type} {C:α→Prop} {b:Bool} {x y:Option α} (h1:b=true→Owp x C) (h2:b=false→Owp y C):Owp (bif' b x y) C:=by
 cases b
 ·exact h2 rfl
 ·exact h1 rfl
theorem oR {α:Type} {C:α→Prop} {p:Prop} [Decidable p] {x:Option α} (h:p→Owp x C):Owp (Sx.req p x) C:=by
 intro y e
 unfold Sx.req at e
 split at e
 ·rename_i hp; exact h hp y e
 ·cases e
theorem oB {α β:Type} {C:β→Prop} {x:Option α} {f:α→Option β} (h:∀ v,x=Option.some v→Owp (f v) C):Owp (Sx.bnd x f) C:=by
 intro y e
 cases x with
 | none=>cases e
 | some v=>exact h v rfl y e
theorem Owp.two {α β γ:Type} {C:γ→Prop} {x:α ⊕ β} {f:α→Option γ} {g:β→Option γ} (h1:∀ v,x=.inl v→Owp (f v) C) (h2:∀ v,x=.inr v→Owp (g v) C):Owp (Sx.two x f g) C:=by
 cases x with
 | inl a=>exact h1 a rfl
 | inr a=>exact h2 a rfl
theorem Owp.of {α:Type} {C:α→Prop} {o o':Option α} (e:o=o') (h:Owp o' C):Owp o C:=e ▸ h
theorem Owp.ap {α:Type} {C:α→Prop} {o:Option α} (h:Owp o C) {y:α} (e:o=Option.some y):C y:=h y e
theorem tt:true=true:=rfl
theorem ff:false=false:=rfl
theorem exne (i:Nat):Ex.exit i≠Ex.normal:=fun h=>nomatch h
theorem exne_ret:Ex.ret≠Ex.normal:=fun h=>nomatch h
theorem via {T X:Prop} (p:T) (e:X=T):X:=e.mpr p
def ShowsSelf (g:List (Nat × Nat)) (pre:SL):Prop :=
 pre.sl.map (fun x=>x.2.ren (ren g))=pre.sl.map (fun x=>x.2.ren (ren g))∧pre.hp.map (fun x=>some (x.2.ren (ren g)))=pre.hp.map (fun x=>some (x.2.ren (ren g)))
theorem showsSelf (g:List (Nat × Nat)) (pre:SL):ShowsSelf g pre:=⟨rfl,rfl⟩
theorem finP {O:Prop} (o:O) (ex:Ex) (g:List (Nat × Nat)) (post:SL):O∧(ex=ex∧(ShowsSelf g post∧true=true)):=⟨o,rfl,showsSelf g post,rfl⟩
theorem cutP {O T K:Prop} (o:O) (g:List (Nat × Nat)) (pre:SL) (t:T) (k:K):O∧((O∧(ShowsSelf g pre∧(true=true∧T)))∧K):=⟨o,⟨o,showsSelf g pre,rfl,t⟩,k⟩
def RT.self:(r:RT)→r.den→Prop
 | .dp t,y=>AV.val t y=AV.val t y
 | .ow e tid,(l:List e.den)=>some (Blk.row e l tid)=some (Blk.row e l tid)
 | .dn _,_=>True
theorem RT.selfP:(r:RT)→(y:r.den)→r.self y
 | .dp _,_=>rfl
 | .ow _ _,_=>rfl
 | .dn _,_=>trivial
def Rs.self:(rs:Rs)→rs.den→Prop
 | .none,_=>([]:List ResultVar)=[]
 | .one r,y=>r.self y
 | .more r rs,y=>r.self y.1∧rs.self y.2
theorem Rs.selfP:(rs:Rs)→(y:rs.den)→rs.self y
 | .none,_=>rfl
 | .one r,y=>r.selfP y
 | .more r rs,y=>⟨r.selfP y.1,rs.selfP y.2⟩
theorem retnP {O:Prop} (o:O) (e:Ty) (l:List e.den) (h:NE l):O∧(True∧(AV.val (.slice e) l=AV.val (.slice e) l∧NE l)):=⟨o,trivial,rfl,h⟩
theorem retnilP {O:Prop} (o:O):O∧(True∧True):=⟨o,trivial,trivial⟩
theorem retP {O:Prop} (o:O) (rs:Rs) (y:rs.den):O∧(True∧rs.self y):=⟨o,trivial,rs.selfP y⟩
theorem retwP {O:Prop} (o:O) (t:Ty) (x:t.den) (rs:Rs) (y:rs.den):O∧(True∧(some (Blk.cells t x)=some (Blk.cells t x)∧rs.self y)):=⟨o,trivial,rfl,rs.selfP y⟩
def SelfArgs (g:List (Nat × Nat)):List HArg→Prop
 | []=>True
 | .lent av :: l=>av.ren (ren g)=av.ren (ren g)∧SelfArgs g l
 | .dat _ x :: l=>some x=some x∧SelfArgs g l
theorem selfArgs (g:List (Nat × Nat)):∀ l,SelfArgs g l
 | []=>trivial
 | .lent _ :: l=>⟨rfl,selfArgs g l⟩
 | .dat _ _ :: l=>⟨rfl,selfArgs g l⟩
def SelfBlks (g:List (Nat × Nat)) (l:List (Nat × Blk)):Prop:=l.map (fun b=>some (b.2.ren (ren g)))=l.map (fun b=>some (b.2.ren (ren g)))
theorem callHP (h:HSp) (g:List (Nat × Nat)) (x:h.xs.den) {y:h.ys.den} (e:h.g x=some y):SelfArgs g (h.args x)∧(SelfBlks g (h.pre x)∧h.g x=some y):=⟨selfArgs g _,rfl,e⟩
theorem rethP {O:Prop} (o:O) (l:List (Nat × Blk)) (rs:Rs) (y:rs.den):O∧(True∧(l.map (fun b=>some b.2)=l.map (fun b=>some b.2)∧rs.self y)):=⟨o,trivial,rfl,rs.selfP y⟩
def sub:Code→List Nat→Code
 | c,[]=>c
 | .seq a b,i :: p=>match i with
  | 0=>sub a p
  | _=>sub b p
 | .cond _ a b,i :: p=>match i with
  | 0=>sub a p
  | _=>sub b p
 | .block _ b,_ :: p=>sub b p
 | .loop b,_ :: p=>sub b p
 | c,_=>c
def Func.cd (fn:Func):Code:=match fn.body with
 | some c=>c
 | none=>.skip
theorem FnsOk.nil {P:Program} {T:List (Nat × Ty)} {e:List (Nat × Ty)} {n p:Nat} {hs:List (Nat × HSp)} {z:Bool}:FnsOk P ⟨T,[],e,n,p,hs,z⟩:=fun _ _ h=>by cases h
theorem fC {P:Program} {T:List (Nat × Ty)} {e:List (Nat × Ty)} {n p:Nat} {hs:List (Nat × HSp)} {z:Bool} {f:Nat} {sp:Spec} {l:List (Nat × Spec)} (h:FnOk P f sp) (hl:FnsOk P ⟨T,l,e,n,p,hs,z⟩):FnsOk P ⟨T,(f,sp) :: l,e,n,p,hs,z⟩:=by
 intro g sp' hm
 rcases List.mem_cons.1 hm with hm | hm
 ·obtain ⟨rfl,rfl⟩:=Prod.mk.inj hm
  exact h
 ·exact hl g sp' hm
theorem HsOk.nil {P:Program}:∀ f h,(f,h)∈([]:List (Nat × HSp))→HOk P f h:=fun _ _ h=>by cases h
theorem HsOk.cons {P:Program} {f:Nat} {h:HSp} {l:List (Nat × HSp)} (h1:HOk P f h) (h2:∀ f h,(f,h)∈l→HOk P f h):∀ g k,(g,k)∈(f,h) :: l→HOk P g k:=by
 intro g k hm
 rcases List.mem_cons.1 hm with hm | hm
 ·obtain ⟨rfl,rfl⟩:=Prod.mk.inj hm
  exact h1
 ·exact h2 g k hm
def tysB (P:Program) (T:List (Nat × Ty)):Bool:=T.all fun x=>tyOk P x.1 x.2
theorem tys_ok {P:Program} {T:List (Nat × Ty)} (h:tysB P T=true) {f:List (Nat × Spec)} {e:List (Nat × Ty)} {n p:Nat} {hs:List (Nat × HSp)} {z:Bool}:TOk P ⟨T,f,e,n,p,hs,z⟩:=fun t ty hm=>List.all_eq_true.1 h (t,ty) hm
theorem ctx_ok {P:Program} {T:List (Nat × Ty)} (hT:tysB P T=true) {e:List (Nat × Ty)} (he:∀ t ty,(t,ty)∈e→EqOk P t ty) {n p:Nat} {hs:List (Nat × HSp)} {z:Bool} {f:List (Nat × Spec)} (hf:FnsOk P ⟨T,f,e,n,p,hs,z⟩) (hh:∀ f h,(f,h)∈hs→HOk P f h):CtxOk P ⟨T,f,e,n,p,hs,z⟩ :=
 ⟨tys_ok hT,hf,hh,he⟩
end Go.Sx
