import Derived.Test.YthpbadopmihmpaaGreatSxRen
import Derived.Laws.MakeOwn
import Derived.Laws.Tables
import Derived.Laws.Slices
import Derived.Great.BuildSlice
namespace Go.Sx
def Ty.flat:Ty→Bool
 | .int _=>true
 | .bool=>true
 | .unit=>true
 | .pair a b=>a.flat && b.flat
 | .arr _ e=>e.flat
 | _=>false
theorem Rd.flat {P:Program}:∀ {t:Ty} {ρ ρ':Nat→Value} {w w':World} {I I':Nat→Prop} {x:t.den} {c:List Value},t.flat=true→Rd P t false ρ w I x c→Rd P t false ρ' w' I' x c:=by
 intro t
 induction t with
 | pair a b iha ihb =>
  intro ρ ρ' w w' I I' x c hf h
  simp only [Ty.flat,Bool.and_eq_true] at hf
  obtain ⟨c1,c2,rfl,h1,h2⟩:=h
  exact ⟨c1,c2,rfl,iha hf.1 h1,ihb hf.2 h2⟩
 | arr n e ih =>
  intro ρ ρ' w w' I I' x c hf h
  obtain ⟨hl,css,rfl,hn,hi⟩:=h
  exact ⟨hl,css,rfl,hn,fun i x c hx hc=>ih hf (hi i x c hx hc)⟩
 | int k=>intro ρ ρ' w w' I I' x c hf h; exact h
 | bool=>intro ρ ρ' w w' I I' x c hf h; exact h
 | unit=>intro ρ ρ' w w' I I' x c hf h; exact h
 | _=>intro ρ ρ' w w' I I' x c hf h; simp [Ty.flat] at hf
def RT.same:RT→RT→Bool
 | .dp t,.dp t'=>t.same t'
 | .ow e tid,.ow e' tid'=>e.same e' && Nat.beq tid tid'
 | .dn e,.dn e'=>e.same e'
 | _,_=>false
theorem RT.same_eq {a b:RT} (h:a.same b=true):a=b:=by
 cases a <;> cases b <;> simp [RT.same] at h
 ·rw [Ty.same_eq h]
 ·rw [Ty.same_eq h.1,h.2]
 ·rw [Ty.same_eq h]
def Rs.same:Rs→Rs→Bool
 | .none,.none=>true
 | .one r,.one r'=>r.same r'
 | .more r rs,.more r' rs'=>r.same r' && rs.same rs'
 | _,_=>false
theorem Rs.same_eq:∀ {a b:Rs},a.same b=true→a=b:=by
 intro a
 induction a with
 | none=>intro b h; cases b <;> simp [Rs.same] at h; rfl
 | one r=>intro b h; cases b <;> simp [Rs.same] at h; rw [RT.same_eq h]
 | more r rs ih=>intro b h; cases b <;> simp [Rs.same] at h; rw [RT.same_eq h.1,ih h.2]
def RT.flat:RT→Bool
 | .dp t=>t.flat
 | .ow e _=>e.flat
 | .dn _=>false
def Rs.flat:Rs→Bool
 | .none=>true
 | .one r=>r.flat
 | .more r rs=>r.flat && rs.flat
def RT.deep:RT→Bool
 | .dp t=>t.deep
 | .ow _ _=>true
 | .dn e=>(Ty.slice e).deep
def Rs.deep:Rs→Bool
 | .none=>true
 | .one r=>r.deep
 | .more r rs=>r.deep && rs.deep
def RT.ows:RT→Nat
 | .dp _=>0
 | .ow _ _=>1
 | .dn _=>0
def Rs.ows:Rs→Nat
 | .none=>0
 | .one r=>r.ows
 | .more r rs=>r.ows+rs.ows
def RT.ok (P:Program) (w w':World) (ok X:Nat→Prop):(r:RT)→r.den→Value→Prop
 | .dp t,y,v=>RdV P t ρ0 w' (fun b=>(ok b∨w.heap.size≤b)∧¬ X b) y v
 | .ow e tid,(l:List e.den),v=>(∃ xs,World.rowOf w' w.heap.size tid e.size v l.length xs∧Rd P (.arr l.length e) false ρ0 w' (fun b=>(ok b∨w.heap.size≤b)∧¬ X b) l xs) ∧
   (∀ b,real v=some b→X b)∧v.oneCell'=true
 | .dn e,(l:List e.den),v=>RdV P (.slice e) ρ0 w' (fun b=>(ok b∨w.heap.size≤b)∧¬ X b) l v∧(l=[]→v=.slice none 0 0)
def Rs.vals (P:Program) (w w':World) (ok X:Nat→Prop):(rs:Rs)→rs.den→List Value→Prop
 | .none,_,vs=>vs=[]
 | .one r,y,vs=>∃ v,vs=[v]∧r.ok P w w' ok X y v
 | .more r rs,y,vs=>∃ v vs',vs=v :: vs'∧r.ok P w w' ok X y.1 v∧rs.vals P w w' ok X y.2 vs'
def Rs.ok (P:Program) (w w':World) (ok X:Nat→Prop):(rs:Rs)→rs.den→Value→Prop
 | .one r,y,v=>r.ok P w w' ok X y v
 | rs,y,v=>∃ vs:List Value,v=.tuple vs.toArray∧rs.vals P w w' ok X y vs
def ResOk (P:Program) (w w':World) (ok:Nat→Prop) (rs:Rs) (y:rs.den) (v:Value):Prop:=∃ X:Nat→Prop,(∀ b,X b→w.heap.size≤b)∧rs.ok P w w' ok X y v
structure BelowX (r:Nat) (w w':World):Prop where
 os:w'.os=w.os
 tape:Tp w w'
 output:w'.output=w.output
 size:w.heap.size≤w'.heap.size
 block:∀ q,q<w.heap.size→q≠r→w'.heap[q]?=w.heap[q]?
def FnOkD (P:Program) (f:FuncId) (ps:Ty) (rs:Rs) (g:ps.den→Option rs.den):Prop :=
 ∀ (w:World) (ok:Nat→Prop) (x:ps.den) (y:rs.den) (args:List Value),(∀ b,ok b→b<w.heap.size)→Rd P ps true ρ0 w ok x args→g x=some y →
  InvOk P f args.toArray w fun v w'=>ResOk P w w' ok rs y v∧Below w.heap.size w w'
def ResW (P:Program) (r:Nat) (w w':World) (ok:Nat→Prop) (t:Ty) (x':t.den) (rs:Rs) (y:rs.den) (v:Value):Prop :=
 ∃ X:Nat→Prop,(∃ cur tid,w'.heap[r]?=some (.cells cur tid (0,0))∧Rd P t false ρ0 w' (fun b=>(ok b∨w.heap.size≤b)∧¬ X b) x' cur.toList)∧rs.ok P w w' ok X y v
def FnOkW (P:Program) (f:FuncId):(ps:Ty)→(rs:Rs)→(ps.den→Option rs.den)→Prop
 | .pair (.ref t) ps,.more (.dp t') rs,g =>
  ∀ (w:World) (ok:Nat→Prop) (r:Nat) (tid:TypeId) (cur:Array Value) (x:t.den) (z:ps.den) (x':t'.den) (y:rs.den) (args:List Value),(∀ b,ok b→b<w.heap.size∧b≠r)→w.heap[r]?=some (.cells cur tid (0,0)) →
   Rd P t false ρ0 w ok x cur.toList→Rd P ps true ρ0 w ok z args→g (x,z)=some (x',y) →
   InvOk P f (.pointer (some ⟨r,0,none⟩) :: args).toArray w fun v w'=>ResW P r w w' ok t' x' rs y v∧BelowX r w w'
 | _,_,_=>False
def FnOk (P:Program) (f:FuncId) (sp:Spec):Prop:=match sp.wr with
 | false=>FnOkD P f sp.ps sp.rs sp.f
 | true=>FnOkW P f sp.ps sp.rs sp.f
structure BelowS (S:Nat→Prop) (w w':World):Prop where
 os:w'.os=w.os
 tape:Tp w w'
 output:w'.output=w.output
 size:w.heap.size≤w'.heap.size
 block:∀ q,q<w.heap.size→¬ S q→w'.heap[q]?=w.heap[q]?
def ArgsFit (P:Program) (ρ:Nat→Value) (w:World) (ok:Nat→Prop):List HArg→List Value→Prop
 | [],vs=>vs=[]
 | .lent av :: l,vs=>∃ v vs',vs=v :: vs'∧RV P ρ w ok av v∧ArgsFit P ρ w ok l vs'
 | .dat t x :: l,vs=>∃ v vs',vs=v :: vs'∧RdV P t ρ0 w ok x v∧ArgsFit P ρ w ok l vs'
def keysB (n:Nat):Nat→List (Nat × Blk)→Bool
 | i,[]=>Nat.beq i n
 | i,b :: l=>Nat.beq b.1 i && keysB n (i+1) l
def refsB (n:Nat) (l:List (Nat × Blk)):Bool:=l.all fun b=>b.2.refs.all (Nat.blt · n)
def HArg.okB (n:Nat):HArg→Bool
 | .lent av=>av.refs.all (Nat.blt · n)
 | .dat t _=>t.deep
def HSp.okB (h:HSp) (x:h.xs.den):Bool:=keysB h.np 0 (h.pre x) && (refsB h.np (h.pre x) && (h.args x).all (HArg.okB h.np))
def HSp.postB (h:HSp) (x:h.xs.den) (y:h.ys.den):Bool:=keysB h.np 0 (h.fin x y) && (refsB h.np (h.fin x y) && (h.rs.deep && Nat.beq h.rs.ows 0))
theorem keysB_find {n:Nat}:∀ {l:List (Nat × Blk)} {i:Nat},keysB n i l=true→∀ j,(find l j≠none↔i≤j∧j<n):=by
 intro l
 induction l with
 | nil =>
  intro i h j
  have h:=Nat.eq_of_beq_eq_true (show Nat.beq i n=true from h)
  subst h
  exact ⟨fun h=>absurd rfl h,fun h=>absurd h.2 (Nat.not_lt.2 h.1)⟩
 | cons b l ih =>
  intro i h j
  simp only [keysB,Bool.and_eq_true] at h
  have hb:=Nat.eq_of_beq_eq_true h.1
  have key:=ih h.2 j
  unfold find
  split
  ·rename_i hk
   have hk:=Nat.eq_of_beq_eq_true hk
   refine ⟨fun _=>⟨by omega,?_⟩,fun _=>by simp⟩
   have:∀ (l:List (Nat × Blk)) (i:Nat),keysB n i l=true→i≤n:=by
    intro l
    induction l with
    | nil=>intro i h; exact Nat.le_of_eq (Nat.eq_of_beq_eq_true h)
    | cons c l ih =>
     intro i h
     simp only [keysB,Bool.and_eq_true] at h
     have:=ih _ h.2
     omega
   have:=this _ _ h.2
   omega
  ·rename_i hk
   have hne:b.1≠j:=fun e=>by rw [e] at hk; simp at hk
   rw [key]
   omega
theorem keysB_some {n:Nat} {l:List (Nat × Blk)} (h:keysB n 0 l=true) {j:Nat} (hj:j<n):∃ k,find l j=some k:=by
 cases hf:find l j with
 | none=>exact absurd hf ((keysB_find h j).2 ⟨Nat.zero_le _,hj⟩)
 | some k=>exact ⟨k,rfl⟩
theorem keysB_lt {n:Nat} {l:List (Nat × Blk)} (h:keysB n 0 l=true) {j:Nat} {k:Blk} (hf:find l j=some k):j<n:=((keysB_find h j).1 (by rw [hf]; simp)).2
def HOk0 (P:Program) (f:FuncId) (h:HSp):Prop :=
 ∀ (w:World) (ok:Nat→Prop) (ρ:Nat→Value) (x:h.xs.den) (y:h.ys.den) (args:List Value),
  (∀ b,ok b→b<w.heap.size∧∀ j,j<h.np→real (ρ j)≠some b)→(∀ i j r,i<h.np→j<h.np→real (ρ i)=some r→real (ρ j)=some r→i=j)→(∀ j,(ρ j).oneCell'=true) →
  (∀ j k,find (h.pre x) j=some k→RB P ρ w ok (ρ j) k)→ArgsFit P ρ w ok (h.args x) args→h.okB x=true→h.postB x y=true→h.g x=some y →
  InvOk P f args.toArray w fun v w'=>∃ X:Nat→Prop,(∀ j k,find (h.fin x y) j=some k→RB P ρ w' (fun q=>(ok q∨w.heap.size≤q)∧¬ X q) (ρ j) k)∧h.rs.ok P w w' ok X (h.res y) v ∧
   BelowS (fun q=>∃ j,j<h.np∧real (ρ j)=some q) w w'
def GOk (P:Program) (f:FuncId) (h:HSp):Prop :=
 ∀ (w:World) (ok:Nat→Prop) (ρ:Nat→Value) (x:h.xs.den) (y:h.ys.den) (args:List Value),
  (∀ b,ok b→b<w.heap.size∧real (ρ 0)≠some b)→(∀ j,(ρ j).oneCell'=true) →
  (∀ k,find (h.pre x) 0=some k→RB P ρ w ok (ρ 0) k)→ArgsFit P ρ w ok (h.args x) args→h.okB x=true→h.g x=some y →
  InvOk P f args.toArray w fun v w'=>∀ (e:Ty) (l':List e.den) (tid:TypeId),find (h.post x y) 0=some (.row e l' tid)→(∃ xs',World.rowOf w' 0 tid e.size v l'.length xs'∧Rd P (.arr l'.length e) false ρ0 w' (fun _=>True) l' xs') ∧
   v.oneCell'=true∧(∀ r,real v=some r→real (ρ 0)=some r∨(w.heap.size≤r∧r<w'.heap.size))∧BelowS (fun q=>real (ρ 0)=some q) w w'
def HOk (P:Program) (f:FuncId) (h:HSp):Prop:=match h.gv with
 | false=>HOk0 P f h
 | true=>GOk P f h
def Rs.asOne {D:Type}:(rs:Rs)→(D→Option rs.den)→(r:Ty)→Option (D→Option r.den)
 | .one (.dp r'),f,r=>if h:r'.same r=true then some (Ty.same_eq h ▸ (f:D→Option r'.den)) else Option.none
 | _,_,_=>Option.none
def Spec.one (sp:Spec) (r:Ty):Option (sp.ps.den→Option r.den):=match sp.wr with
 | false=>sp.rs.asOne sp.f r
 | true=>Option.none
def Rs.asTwo {D:Type}:(rs:Rs)→(D→Option rs.den)→(a b:Ty)→Option (D→Option (a.den × b.den))
 | .more (.dp a') (.one (.dp b')),f,a,b=>if h:a'.same a=true∧b'.same b=true then some (Ty.same_eq h.1 ▸ Ty.same_eq h.2 ▸ (f:D→Option (a'.den × b'.den))) else Option.none
 | _,_,_,_=>Option.none
def Spec.two (sp:Spec) (a b:Ty):Option (sp.ps.den→Option (a.den × b.den)):=match sp.wr with
 | false=>sp.rs.asTwo sp.f a b
 | true=>Option.none
theorem flatten_one {α β:Type} (f:α→β) (l:List α):(l.map fun x=>[f x]).flatten=l.map f:=by
 induction l with
 | nil=>rfl
 | cons x l ih=>simp only [List.map_cons,List.flatten_cons,ih]; rfl
theorem rd_ints {P:Program} {ρ:Nat→Value} {w:World} {I:Nat→Prop} {n:Nat} {k:IntKind} {l:List Int} {cs:List Value} (h:Rd P (.arr n (.int k)) false ρ w I l cs):cs=l.map (Value.int k)∧l.length=n:=by
 obtain ⟨hl,css,rfl,hn,hi⟩:=h
 refine ⟨?_,hl⟩
 have hl:l.length=n:=hl
 have:css=l.map fun x=>[Value.int k x]:=by
  apply List.ext_getElem?
  intro i
  rw [List.getElem?_map]
  by_cases h:i<n
  ·have h1:i<l.length:=by omega
   have h2:i<css.length:=by omega
   rw [List.getElem?_eq_getElem h1,List.getElem?_eq_getElem h2]
   have:=hi i l[i] css[i] (List.getElem?_eq_getElem h1) (List.getElem?_eq_getElem h2)
   have this:css[i]=[Value.int k l[i]]:=this
   rw [this]
   rfl
  ·rw [List.getElem?_eq_none (by omega),List.getElem?_eq_none (by omega)]
   rfl
 rw [this,flatten_one]
structure Split (ps full:Ty) where
 rest:Ty
 g:ps.den→rest.den→full.den
def splitPs:(ps full:Ty)→Option (Split ps full)
 | .unit,full=>some ⟨full,fun _ r=>r⟩
 | .pair a b,.pair a' b'=>match splitPs b b' with
  | some sp=>if h:a.same a'=true then some ⟨sp.rest,fun x r=>(Ty.same_eq h ▸ x.1,sp.g x.2 r)⟩ else none
  | none=>none
 | _,_=>none
def derefP (hp:Nat→Option Blk) (p:Ptr) (t:Ty):Option t.den :=
 match hp p.b with
 | some (.cells ty x)=>match Nat.beq p.es 0 && t.deep with
  | true=>comp ty x (p.off+p.inner) t
  | false=>none
 | _=>none
def decCaps (hp:Nat→Option Blk):(rest:Ty)→List Ptr→Option rest.den
 | .unit,[]=>some ()
 | .pair (.ref t) rest,p :: ps=>match derefP hp p t,decCaps hp rest ps with
  | some x,some y=>some (x,y)
  | _,_=>none
 | _,_=>none
def decFn (c:Ctx) (hp:Nat→Option Blk) (g:FuncId × List Ptr) (ps r:Ty):Option (ps.den→Option r.den) :=
 match find c.fns g.1 with
 | some sp=>match sp.one r,splitPs ps sp.ps with
  | some f,some sl=>match decCaps hp sl.rest g.2 with
   | some z=>some fun x=>f (sl.g x z)
   | none=>none
  | _,_=>none
 | none=>none
def decFn2 (c:Ctx) (hp:Nat→Option Blk) (g:FuncId × List Ptr) (ps a b:Ty):Option (ps.den→Option (a.den × b.den)) :=
 match find c.fns g.1 with
 | some sp=>match sp.two a b,splitPs ps sp.ps with
  | some f,some sl=>match decCaps hp sl.rest g.2 with
   | some z=>some fun x=>f (sl.g x z)
   | none=>none
  | _,_=>none
 | none=>none
def decOwn (hp:Nat→Option Blk) (b:Nat):(t:Ty)→Option t.den
 | .slice e=>match hp b with
  | some (.row e' l _)=>Ty.as? (.slice e') (.slice e) l
  | _=>none
 | _=>none
def decPtr (hp:Nat→Option Blk) (p:Ptr):(t:Ty)→Option t.den
 | .ref t'=>derefP hp p t'
 | _=>none
def decClo (c:Ctx) (hp:Nat→Option Blk) (g:FuncId × List Ptr):(t:Ty)→Option t.den
 | .fn ps r=>decFn c hp g ps r
 | .fn2 ps a b=>decFn2 c hp g ps a b
 | _=>none
def decWin (hp:Nat→Option Blk) (b lo n:Nat):(t:Ty)→Option t.den
 | .slice (.int k)=>match hp b with
  | some (.cells (.arr N (.int k')) l)=>match decide (k=k') && Nat.ble (lo+n) N with
   | true=>some ((l:List Int).drop lo |>.take n)
   | false=>none
  | _=>none
 | _=>none
def decArg (c:Ctx) (hp:Nat→Option Blk) (t:Ty) (av:AV):Option t.den :=
 match av with
 | .win b lo n=>decWin hp b lo n t
 | .val .own b=>decOwn hp b t
 | .val .ptr p=>decPtr hp p t
 | .val .clo g=>decClo c hp g t
 | av=>match t.deep with
  | true=>coe t av
  | false=>none
def decArgs (c:Ctx) (hp:Nat→Option Blk):(ps:Ty)→List AV→Option ps.den
 | .unit,[]=>some ()
 | .pair t r,av :: avs=>match decArg c hp t av,decArgs c hp r avs with
  | some x,some y=>some (x,y)
  | _,_=>none
 | _,_=>none
def AV.lent:AV→Bool
 | .val .own _=>true
 | .val .ptr _=>true
 | .val .clo _=>true
 | .win _ _ _=>true
 | _=>false
def RT.av (nid:Nat):(r:RT)→r.den→TV
 | .dp t,y=>⟨t,y⟩
 | .ow _ _,_=>⟨.own,nid⟩
 | .dn e,y=>⟨.slice e,y⟩
def RT.ed (nid:Nat):(r:RT)→r.den→List (Nat × Option Blk)
 | .dp _,_=>[]
 | .ow e tid,l=>[(nid,some (.row e l tid))]
 | .dn _,_=>[]
def Rs.avs (nid:Nat):(rs:Rs)→rs.den→List TV
 | .none,_=>[]
 | .one r,y=>[r.av nid y]
 | .more r rs,y=>r.av nid y.1 :: rs.avs nid y.2
def Rs.eds (nid:Nat):(rs:Rs)→rs.den→List (Nat × Option Blk)
 | .none,_=>[]
 | .one r,y=>r.ed nid y
 | .more r rs,y=>r.ed nid y.1++rs.eds nid y.2
def Rs.av (nid:Nat):(rs:Rs)→rs.den→AV
 | .one (.dp t),y=>.val t y
 | .one (.ow _ _),_=>.val .own nid
 | .one (.dn e),(y:List e.den)=>match y with
  | []=>.nil
  | a :: l=>.val (.slice e) (a :: l)
 | rs,y=>.tup (rs.avs nid y)
def Rs.cast? (a b:Rs) (y:a.den):Option b.den:=if h:a.same b=true then some (Rs.same_eq h ▸ y) else Option.none
def AV.ofPtr (p:Ptr):AV:=.val .ptr p
def pCallBy (c:Ctx) (hp:Nat→Option Blk) (nid:Nat) (sp:Spec) (avs:List AV) (y:sp.rs.den):Perf :=
 match decArgs c hp sp.ps avs with
 | some x=>match sp.rs.deep && Nat.ble sp.rs.ows 1 && (!avs.any AV.lent || sp.rs.flat) with
  | true=>⟨sp.rs.av nid y,sp.rs.eds nid y,some (sp.f x=some y)⟩
  | false=>.bad
 | none=>.bad
def pCallFn (c:Ctx) (hp:Nat→Option Blk) {ps r:Ty} (g:ps.den→Option r.den) (avs:List AV) (y:r.den):Perf :=
 match decArgs c hp ps avs with
 | some x=>match r.flat with
  | true=>⟨.val r y,[],some (g x=some y)⟩
  | false=>.bad
 | none=>.bad
def pCallW (c:Ctx) (hp:Nat→Option Blk) (nid:Nat):(ps:Ty)→(rs:Rs)→(ps.den→Option rs.den)→List AV→rs.den→Perf
 | .pair (.ref t) ps,.more (.dp t') rs,f,.val .ptr p :: avs,y=>match hp p.b with
  | some (.cells ty x)=>match Ty.as? ty t x,decArgs c (upd hp p.b none) ps avs with
   | some x',some z=>match Nat.beq p.co 0 && (t.deep && (t'.deep && (rs.deep && (Nat.beq rs.ows 0 && !avs.any AV.lent)))) with
    | true=>⟨rs.av nid y.2,[(p.b,some (.cells t' y.1))],some (f (x',z)=some y)⟩
    | false=>.bad
   | _,_=>.bad
  | _=>.bad
 | _,_,_,_,_=>.bad
def pCallFn2 (c:Ctx) (hp:Nat→Option Blk) {ps a b:Ty} (g:ps.den→Option (a.den × b.den)) (avs:List AV) (y:a.den × b.den):Perf :=
 match decArgs c hp ps avs with
 | some x=>match a.flat && b.flat with
  | true=>⟨.tup [⟨a,y.1⟩,⟨b,y.2⟩],[],some (g x=some y)⟩
  | false=>.bad
 | none=>.bad
def wrOp (c:Ctx):Operand→Bool
 | .func f=>match find c.fns f with
  | some sp=>sp.wr
  | none=>match find c.hs f with
   | some h=>!h.ro
   | none=>false
 | _=>c.hs.any fun h=>!h.2.ro
def matchArgs (c:Ctx) (hp:Nat→Option Blk) (g:List (Nat × Nat)):List HArg→List AV→Prop
 | [],[]=>True
 | .lent av :: l,v :: m=>av.ren (ren g)=v∧matchArgs c hp g l m
 | .dat t x :: l,v :: m=>decArg c hp t v=some x∧matchArgs c hp g l m
 | _,_=>False
def matchBlks (hp:Nat→Option Blk) (g:List (Nat × Nat)) (l:List (Nat × Blk)):Prop:=l.map (fun b=>some (b.2.ren (ren g)))=l.map (fun b=>hp (ren g b.1))
def injB (g:List (Nat × Nat)) (n:Nat):Bool:=(List.range n).all fun i=>(List.range n).all fun j=>Nat.beq i j || !(Nat.beq (ren g i) (ren g j))
def datLent:List HArg→List AV→Bool
 | .dat _ _ :: l,v :: m=>v.lent || datLent l m
 | .lent _ :: l,_ :: m=>datLent l m
 | _,_=>false
def lessH (g:List (Nat × Nat)) (n:Nat) (hp:Nat→Option Blk) (b:Nat):Option Blk:=match (List.range n).any fun j=>Nat.beq (ren g j) b with
 | true=>none
 | false=>hp b
def flatB (l:List (Nat × Blk)):Bool:=l.all fun b=>match b.2 with
 | .cells t _=>t.flat
 | .row e _ _=>e.flat
def capsB (hp:Nat→Option Blk) (l:List Ptr):Bool:=l.all fun p=>match hp p.b with
 | some (.cells _ _)=>true
 | _=>false
def hasB (hp:Nat→Option Blk) (g:List (Nat × Nat)) (n:Nat):Bool:=(List.range n).all fun j=>match hp (ren g j) with
 | some _=>true
 | none=>false
def pCallH (c:Ctx) (hp:Nat→Option Blk) (nid:Nat) (h:HSp) (avs:List AV) (caps:List Ptr) (g:List (Nat × Nat)) (x:h.xs.den) (y:h.ys.den):Perf :=
 match h.okB x && (h.postB x y && (injB g h.np && ((!(datLent (h.args x) avs) || (h.rs.flat && flatB (h.fin x y))) && (capsB hp caps && hasB hp g h.np)))) with
 | true=>⟨h.rs.av nid (h.res y),(match h.ro with | true=>[] | false=>(h.post x y).map (fun b=>(ren g b.1,some (b.2.ren (ren g))))),some (matchArgs c (lessH g h.np hp) g (h.args x) avs∧(matchBlks hp g (h.pre x)∧h.g x=some y))⟩
 | false=>.bad
def pCallG (c:Ctx) (hp:Nat→Option Blk) (nid:Nat) (h:HSp) (avs:List AV) (caps:List Ptr) (g:List (Nat × Nat)) (x:h.xs.den) (y:h.ys.den):Perf :=
 match h.pre x,h.post x y with
 | [(b0,.row e _ tid)],[(b1,.row e' l' tid')]=>match e.same e' && (Nat.beq tid tid' && (e'.flat && (Nat.beq b0 0 && (Nat.beq b1 0 && (Nat.beq h.np 1 && (!h.ro && (Nat.ble c.pin (ren g 0) && (h.okB x && capsB hp caps)))))))) with
  | true=>match hp (ren g 0) with
   | some _=>⟨.val .own nid,[(ren g 0,none),(nid,some (.row e' l' tid'))],some (matchArgs c (lessH g 1 hp) g (h.args x) avs∧(matchBlks hp g (h.pre x)∧h.g x=some y))⟩
   | none=>.bad
  | false=>.bad
 | _,_=>.bad
def pCallHG (c:Ctx) (hp:Nat→Option Blk) (nid:Nat) (h:HSp) (avs:List AV) (caps:List Ptr) (g:List (Nat × Nat)) (x:h.xs.den) (y:h.ys.den):Perf:=match h.gv with
 | false=>pCallH c hp nid h avs caps g x y
 | true=>pCallG c hp nid h avs caps g x y
def pCallS (c:Ctx) (hp:Nat→Option Blk) (nid:Nat) (wr:Bool) (sp:Spec) (avs:List AV) (y:sp.rs.den):Perf:=match sp.wr,wr with
 | false,_=>pCallBy c hp nid sp avs y
 | true,true=>pCallW c hp nid sp.ps sp.rs sp.f avs y
 | true,false=>.bad
def pCall (c:Ctx) (hp:Nat→Option Blk) (nid:Nat) (wr:Bool) (callee:AV) (args:List AV) (ans:Ans):Perf :=
 match ans with
 | .hres g xs x ys y=>match callee with
  | .val .clo f=>match find c.hs f.1 with
   | some h=>match wr || h.ro,Ty.as? xs h.xs x,Ty.as? ys h.ys y with
    | true,some x',some y'=>pCallHG c hp nid h (args++f.2.map AV.ofPtr) f.2 g x' y'
    | _,_,_=>.bad
   | none=>.bad
  | _=>.bad
 | .res rs y=>match callee with
  | .val .clo g=>match find c.fns g.1 with
   | some sp=>match rs.cast? sp.rs y with
    | some z=>pCallS c hp nid (wr && g.2.isEmpty) sp (args++g.2.map AV.ofPtr) z
    | none=>.bad
   | none=>.bad
  | .val (.fn ps r) g=>match rs.cast? (.one (.dp r)) y with
   | some z=>pCallFn c hp (ps:=ps) (r:=r) g args z
   | none=>.bad
  | .val (.fn2 ps a b) g=>match rs.cast? (.more (.dp a) (.one (.dp b))) y with
   | some z=>pCallFn2 c hp (ps:=ps) (a:=a) (b:=b) g args z
   | none=>.bad
  | _=>.bad
 | _=>.bad
section
variable {P:Program} {c:Ctx}
def FnsOk (P:Program) (c:Ctx):Prop:=∀ f sp,(f,sp)∈c.fns→FnOk P f sp
def HsOk (P:Program) (c:Ctx):Prop:=∀ f h,(f,h)∈c.hs→HOk P f h
theorem Spec.one_sound {sp:Spec} {r:Ty} {f:sp.ps.den→Option r.den} (h:sp.one r=some f):∃ g:sp.ps.den→Option r.den,sp=⟨sp.ps,.one (.dp r),g,false⟩∧f=g:=by
 obtain ⟨ps,rs,f0,wr⟩:=sp
 cases wr with
 | true=>cases rs <;> simp [Spec.one] at h
 | false =>
 cases rs with
 | none=>simp [Spec.one,Rs.asOne] at h
 | more r rs=>simp [Spec.one,Rs.asOne] at h
 | one r' =>
  cases r' with
  | ow e t=>simp [Spec.one,Rs.asOne] at h
  | dn e=>simp [Spec.one,Rs.asOne] at h
  | dp r' =>
   simp only [Spec.one,Rs.asOne] at h
   split at h
   ·rename_i hs
    obtain rfl:=Ty.same_eq hs
    obtain rfl:=Option.some.inj h
    exact ⟨f0,rfl,rfl⟩
   ·cases h
theorem Spec.two_sound {sp:Spec} {a b:Ty} {f:sp.ps.den→Option (a.den × b.den)} (h:sp.two a b=some f):∃ g:sp.ps.den→Option (a.den × b.den),sp=⟨sp.ps,.more (.dp a) (.one (.dp b)),g,false⟩∧f=g:=by
 obtain ⟨ps,rs,f0,wr⟩:=sp
 cases wr with
 | true=>cases rs <;> simp [Spec.two] at h
 | false =>
 cases rs with
 | none=>simp [Spec.two,Rs.asTwo] at h
 | one r=>simp [Spec.two,Rs.asTwo] at h
 | more r rs =>
  cases r with
  | ow e t=>simp [Spec.two,Rs.asTwo] at h
  | dn e=>simp [Spec.two,Rs.asTwo] at h
  | dp a' =>
   cases rs with
   | none=>simp [Spec.two,Rs.asTwo] at h
   | more r rs=>simp [Spec.two,Rs.asTwo] at h
   | one r =>
    cases r with
    | ow e t=>simp [Spec.two,Rs.asTwo] at h
    | dn e=>simp [Spec.two,Rs.asTwo] at h
    | dp b' =>
     simp only [Spec.two,Rs.asTwo] at h
     split at h
     ·rename_i hs
      obtain ⟨h1,h2⟩:=hs
      obtain rfl:=Ty.same_eq h1
      obtain rfl:=Ty.same_eq h2
      obtain rfl:=Option.some.inj h
      exact ⟨f0,rfl,rfl⟩
     ·cases h
theorem splitPs_sound {w:World} {I:Nat→Prop}:∀ {ps full:Ty} {sl:Split ps full} {x:ps.den} {z:sl.rest.den} {a b:List Value},splitPs ps full=some sl→Rd P ps true ρ0 w I x a→Rd P sl.rest true ρ0 w I z b →
  Rd P full true ρ0 w I (sl.g x z) (a++b):=by
 intro ps
 induction ps with
 | unit =>
  intro full sl x z a b h hx hz
  simp only [splitPs] at h
  obtain rfl:=Option.some.inj h
  have hx:a=[]:=hx
  subst hx
  exact hz
 | pair p q _ ihq =>
  intro full sl x z a b h hx hz
  cases full with
  | pair p' q' =>
   simp only [splitPs] at h
   split at h
   ·rename_i sp' hsp
    split at h
    ·rename_i hs
     obtain rfl:=Ty.same_eq hs
     obtain rfl:=Option.some.inj h
     obtain ⟨c1,vs,rfl,h1,h2⟩:=hx
     exact ⟨c1,vs++b,rfl,h1,ihq hsp h2 hz⟩
    ·cases h
   ·cases h
  | _=>simp [splitPs] at h
 | _=>intro full sl x z a b h; simp [splitPs] at h
section
variable {cx:Cx} {ρ:Nat→Value} {F:Nat→Prop} {s:St} {a:Act} {w:World}
def All (w:World) (b:Nat):Prop:=b<w.heap.size
theorem M.all (_:M cx ρ F s a w):∀ r,r<w.heap.size→cx.I ρ s r→All w r:=fun _ hr _=>hr
theorem deref_sound (hM:M cx ρ F s a w) {hp:Nat→Option Blk} (hhp:∀ b k,hp b=some k→s.hp b=some k) {p:Ptr} {t:Ty} {x:t.den} (h:derefP hp p t=some x) :
  Rd cx.P (.ref t) false ρ0 w (All w) x [p.val ρ]:=by
 unfold derefP at h
 split at h
 ·rename_i ty y hk
  split at h
  ·rename_i hb
   simp only [Bool.and_eq_true] at hb
   have hg:getP (.cells ty y) p t=(some x,none):=by
    unfold getP
    simp only [hb.1,h]
   obtain ⟨r,tid,cur,pre,cc,post,h1,h2,h3,h4,h5,_⟩:=place_sound (hM.blks p.b _ (hhp _ _ hk)) hg trivial
   have hlt:r<w.heap.size:=hM.owned_lt (hhp _ _ hk) h1
   exact ⟨⟨r,pre.length,none⟩,cc,by rw [h2],rfl,hlt,hlt,CellsAt_of_row h3 h4,(h5.rho (fun b hb'=>by rw [Ty.deep_refs hb.2] at hb'; cases hb')).mono (Pres.refl _ _) (hM.all)⟩
  ·cases h
 ·cases h
theorem caps_sound (hM:M cx ρ F s a w) {hp:Nat→Option Blk} (hhp:∀ b k,hp b=some k→s.hp b=some k):∀ {rest:Ty} {ps:List Ptr} {z:rest.den},decCaps hp rest ps=some z →
  Rd cx.P rest true ρ0 w (All w) z (ps.map (·.val ρ)):=by
 intro rest
 induction rest with
 | unit=>intro ps z h; cases ps <;> simp [decCaps] at h; rfl
 | pair p q _ ihq =>
  intro ps z h
  cases p with
  | ref t =>
   cases ps with
   | nil=>simp [decCaps] at h
   | cons p ps =>
    simp only [decCaps] at h
    split at h
    ·rename_i x y hx hy
     obtain rfl:=Option.some.inj h
     exact ⟨[p.val ρ],ps.map (·.val ρ),rfl,deref_sound hM hhp hx,ihq hy⟩
    ·cases h
  | _=>simp [decCaps] at h
 | _=>intro ps z h; simp [decCaps] at h
theorem fn_sound (hc:FnsOk cx.P c) (hM:M cx ρ F s a w) {hp:Nat→Option Blk} (hhp:∀ b k,hp b=some k→s.hp b=some k) {g:FuncId × List Ptr} {ps r:Ty} {x:ps.den→Option r.den}
  (h:decFn c hp g ps r=some x):Rd cx.P (.fn ps r) false ρ0 w (All w) x [.func (.func g.1) #[] (g.2.map (·.val ρ)).toArray]:=by
 unfold decFn at h
 split at h
 ·rename_i sp hsp
  split at h
  ·rename_i f sl hf hsl
   split at h
   ·rename_i z hz
    obtain rfl:=Option.some.inj h
    have hfn:=hc _ _ (find_mem hsp)
    obtain ⟨f',hspe,rfl⟩:=Spec.one_sound hf
    have hcaps:=caps_sound hM hhp hz
    refine ⟨g.1,(g.2.map (·.val ρ)).toArray,rfl,fun w' hw' ok hok x y args hx hy=>?_⟩
    have h1:Rd cx.P sp.ps true ρ0 w' (fun b=>ok b∨b<w.heap.size) (sl.g x z) (args++g.2.map (·.val ρ)) :=
     splitPs_sound hsl (hx.mono (Pres.refl _ _) fun _ _ h=>.inl h) (hcaps.mono hw' fun _ _ h=>.inr h)
    rw [hspe] at hfn
    have hfn:FnOkD cx.P g.1 _ _ _:=hfn
    have h3:=hfn w' (fun b=>ok b∨b<w.heap.size) (sl.g x z) y (args++g.2.map (·.val ρ)) (fun b hb=>by
     rcases hb with hb | hb
     ·exact hok b hb
     ·exact Nat.lt_of_lt_of_le hb hw'.1) h1 hy
    have e:args.toArray++(g.2.map (·.val ρ)).toArray=(args++g.2.map (·.val ρ)).toArray:=by simp
    rw [e]
    refine h3.mono fun v w'' hv=>?_
    obtain ⟨⟨X,hX,cc,hv1,hv2⟩,hb⟩:=hv
    refine ⟨⟨cc,hv1,hv2.mono (Pres.refl _ _) fun q _ hq=>?_⟩,hb⟩
    rcases hq.1 with (hq | hq) | hq
    ·exact .inl hq
    ·exact .inr (.inl ⟨hq,hq⟩)
    ·exact .inr (.inr hq)
   ·cases h
  ·cases h
 ·cases h
theorem fn_sound2 (hc:FnsOk cx.P c) (hM:M cx ρ F s a w) {hp:Nat→Option Blk} (hhp:∀ b k,hp b=some k→s.hp b=some k) {g:FuncId × List Ptr} {ps a' b':Ty} {x:ps.den→Option (a'.den × b'.den)}
  (h:decFn2 c hp g ps a' b'=some x):Rd cx.P (.fn2 ps a' b') false ρ0 w (All w) x [.func (.func g.1) #[] (g.2.map (·.val ρ)).toArray]:=by
 unfold decFn2 at h
 split at h
 ·rename_i sp hsp
  split at h
  ·rename_i f sl hf hsl
   split at h
   ·rename_i z hz
    obtain rfl:=Option.some.inj h
    have hfn:=hc _ _ (find_mem hsp)
    obtain ⟨f',hspe,rfl⟩:=Spec.two_sound hf
    have hcaps:=caps_sound hM hhp hz
    refine ⟨g.1,(g.2.map (·.val ρ)).toArray,rfl,fun w' hw' ok hok x y args hx hy=>?_⟩
    have h1:Rd cx.P sp.ps true ρ0 w' (fun b=>ok b∨b<w.heap.size) (sl.g x z) (args++g.2.map (·.val ρ)) :=
     splitPs_sound hsl (hx.mono (Pres.refl _ _) fun _ _ h=>.inl h) (hcaps.mono hw' fun _ _ h=>.inr h)
    rw [hspe] at hfn
    have hfn:FnOkD cx.P g.1 _ _ _:=hfn
    have h3:=hfn w' (fun b=>ok b∨b<w.heap.size) (sl.g x z) y (args++g.2.map (·.val ρ)) (fun b hb=>by
     rcases hb with hb | hb
     ·exact hok b hb
     ·exact Nat.lt_of_lt_of_le hb hw'.1) h1 hy
    have e:args.toArray++(g.2.map (·.val ρ)).toArray=(args++g.2.map (·.val ρ)).toArray:=by simp
    rw [e]
    refine h3.mono fun v w'' hv=>?_
    obtain ⟨⟨X,hX,hv⟩,hb⟩:=hv
    obtain ⟨vs,rfl,v1,vs1,rfl,⟨c1,rfl,hv1⟩,v2,rfl,⟨c2,rfl,hv2⟩⟩:=hv
    have key:∀ q,q<w''.heap.size→(((ok q∨q<w.heap.size)∨w'.heap.size≤q)∧¬ X q)→(ok q∨(All w q∧q<w.heap.size)∨w'.heap.size≤q):=by
     intro q _ hq
     rcases hq.1 with (hq | hq) | hq
     ·exact .inl hq
     ·exact .inr (.inl ⟨hq,hq⟩)
     ·exact .inr (.inr hq)
    exact ⟨⟨c1,c2,rfl,hv1.mono (Pres.refl _ _) key,hv2.mono (Pres.refl _ _) key⟩,hb⟩
   ·cases h
  ·cases h
 ·cases h
def okSet (cx:Cx) (ρ:Nat→Value) (s:St) (w:World) (lent:Bool) (b:Nat):Prop:=b<w.heap.size∧(lent=true∨cx.I ρ s b)
theorem mkV_one {t:Ty} {v:Value} (h:t.agg=false):mkV t [v]=v:=by simp [mkV,h]
theorem RdV.lend {P:Program} {t:Ty} {x:t.den} {u v:Value} {lent:Bool} (h:Rd P t false ρ0 w (All w) x [u]) (ha:t.agg=false) (hl:lent=true) (hv:v=u):RdV P t ρ0 w (okSet cx ρ s w lent) x v :=
 ⟨[u],by rw [mkV_one ha,hv],h.mono (Pres.refl _ _) (fun _ hr _=>⟨hr,.inl hl⟩)⟩
theorem ptr_lend {P:Program} {p:Ptr} {t':Ty} {x:t'.den} {v:Value} (lent:Bool) (hl:lent=true) (hvv:v=p.val ρ)
  (h1:Rd P (.ref t') false ρ0 w (All w) x [p.val ρ]):RdV P (.ref t') ρ0 w (okSet cx ρ s w lent) x v:=by
 refine RdV.lend (u:=p.val ρ) ?_ ?_ ?_ ?_
 ·exact h1
 ·rfl
 ·exact hl
 ·exact hvv
theorem clo_lend {P:Program} {ps r:Ty} {x:ps.den→Option r.den} {u v:Value} (lent:Bool) (hl:lent=true) (hvv:v=u)
  (h1:Rd P (.fn ps r) false ρ0 w (All w) x [u]):RdV P (.fn ps r) ρ0 w (okSet cx ρ s w lent) x v:=by
 refine RdV.lend (u:=u) ?_ ?_ ?_ ?_
 ·exact h1
 ·rfl
 ·exact hl
 ·exact hvv
theorem clo_lend2 {P:Program} {ps a' b':Ty} {x:ps.den→Option (a'.den × b'.den)} {u v:Value} (lent:Bool) (hl:lent=true) (hvv:v=u)
  (h1:Rd P (.fn2 ps a' b') false ρ0 w (All w) x [u]):RdV P (.fn2 ps a' b') ρ0 w (okSet cx ρ s w lent) x v:=by
 refine RdV.lend (u:=u) ?_ ?_ ?_ ?_
 ·exact h1
 ·rfl
 ·exact hl
 ·exact hvv
theorem decPtr_ref {hp:Nat→Option Blk} {p:Ptr} {t':Ty} {x:(Ty.ref t').den} (h:decPtr hp p (.ref t')=some x):derefP hp p t'=some x:=h
theorem decClo_fn {hp:Nat→Option Blk} {g:FuncId × List Ptr} {ps r:Ty} {x:(Ty.fn ps r).den} (h:decClo c hp g (.fn ps r)=some x):decFn c hp g ps r=some x:=h
theorem decClo_fn2 {hp:Nat→Option Blk} {g:FuncId × List Ptr} {ps a' b':Ty} {x:(Ty.fn2 ps a' b').den} (h:decClo c hp g (.fn2 ps a' b')=some x):decFn2 c hp g ps a' b'=some x:=h
theorem ptr_sound' (hM:M cx ρ F s a w) {hp:Nat→Option Blk} (hhp:∀ b k,hp b=some k→s.hp b=some k) {p:Ptr} {t':Ty} {x:(Ty.ref t').den} {v:Value} (h:decPtr hp p (.ref t')=some x) (lent:Bool) (hl:lent=true)
  (hvv:v=p.val ρ):RdV cx.P (.ref t') ρ0 w (okSet cx ρ s w lent) x v:=by
 have h1:Rd cx.P (.ref t') false ρ0 w (All w) x [p.val ρ]:=deref_sound hM hhp (decPtr_ref h)
 clear hM hhp h
 exact ptr_lend (cx:=cx) (s:=s) lent hl hvv h1
theorem ptr_sound (hM:M cx ρ F s a w) {hp:Nat→Option Blk} (hhp:∀ b k,hp b=some k→s.hp b=some k) {p:Ptr} {t:Ty} {x:t.den} {v:Value} (h:decPtr hp p t=some x) (lent:Bool) (hl:lent=true)
  (hv:RV cx.P ρ w (cx.I ρ s) (.val .ptr p) v):RdV cx.P t ρ0 w (okSet cx ρ s w lent) x v:=by
 have hvv:=RV_ptr hv
 cases t with
 | ref t'=>exact ptr_sound' hM hhp h lent hl hvv
 | _=>cases h
theorem clo_sound' (hc:FnsOk cx.P c) (hM:M cx ρ F s a w) {hp:Nat→Option Blk} (hhp:∀ b k,hp b=some k→s.hp b=some k) {g:FuncId × List Ptr} {ps r:Ty} {x:(Ty.fn ps r).den} {v:Value} (h:decClo c hp g (.fn ps r)=some x) (lent:Bool) (hl:lent=true)
  (hvv:v=.func (.func g.1) #[] (g.2.map (·.val ρ)).toArray):RdV cx.P (.fn ps r) ρ0 w (okSet cx ρ s w lent) x v:=by
 have h1:Rd cx.P (.fn ps r) false ρ0 w (All w) x [.func (.func g.1) #[] (g.2.map (·.val ρ)).toArray]:=fn_sound hc hM hhp (decClo_fn h)
 clear hM hhp h
 exact clo_lend (cx:=cx) (s:=s) lent hl hvv h1
theorem clo_sound2' (hc:FnsOk cx.P c) (hM:M cx ρ F s a w) {hp:Nat→Option Blk} (hhp:∀ b k,hp b=some k→s.hp b=some k) {g:FuncId × List Ptr} {ps a' b':Ty} {x:(Ty.fn2 ps a' b').den} {v:Value} (h:decClo c hp g (.fn2 ps a' b')=some x) (lent:Bool) (hl:lent=true)
  (hvv:v=.func (.func g.1) #[] (g.2.map (·.val ρ)).toArray):RdV cx.P (.fn2 ps a' b') ρ0 w (okSet cx ρ s w lent) x v:=by
 have h1:Rd cx.P (.fn2 ps a' b') false ρ0 w (All w) x [.func (.func g.1) #[] (g.2.map (·.val ρ)).toArray]:=fn_sound2 hc hM hhp (decClo_fn2 h)
 clear hM hhp h
 exact clo_lend2 (cx:=cx) (s:=s) lent hl hvv h1
theorem clo_sound (hc:FnsOk cx.P c) (hM:M cx ρ F s a w) {hp:Nat→Option Blk} (hhp:∀ b k,hp b=some k→s.hp b=some k) {g:FuncId × List Ptr} {t:Ty} {x:t.den} {v:Value} (h:decClo c hp g t=some x) (lent:Bool) (hl:lent=true)
  (hv:RV cx.P ρ w (cx.I ρ s) (.val .clo g) v):RdV cx.P t ρ0 w (okSet cx ρ s w lent) x v:=by
 have hvv:=RV_clo hv
 cases t with
 | fn ps r=>exact clo_sound' hc hM hhp h lent hl hvv
 | fn2 ps a' b'=>exact clo_sound2' hc hM hhp h lent hl hvv
 | _=>cases h
theorem win_addr {ρ:Nat→Value} {b r:Nat} {ad:Addr} (hs:ad.spot=none) (hq:∀ q:Ptr,q.b=b→q.val ρ=.pointer (some (ad.add q.co))) (hρ:ρ b=.pointer (some ⟨r,0,none⟩)):ad=⟨r,0,none⟩:=by
 have h:=hq ⟨b,0,0,0,0⟩ rfl
 unfold Ptr.val at h
 rw [hρ] at h
 simp only [Value.pointer.injEq,Option.some.injEq] at h
 obtain ⟨bl,off,sp⟩:=ad
 simp only at hs
 subst hs
 rw [add_none,add_none] at h
 simp only [Addr.mk.injEq] at h ⊢
 have hc:(Ptr.co ⟨b,0,0,0,0⟩)=0:=rfl
 rw [hc] at h
 exact ⟨h.1.symm,by omega,trivial⟩
theorem win_lend (hM:M cx ρ F s a w) {b lo n N:Nat} {k:IntKind} {l:List Int} {v:Value} (hk:s.hp b=some (.cells (.arr N (.int k)) l)) (hle:lo+n≤N) (hv:RV cx.P ρ w (cx.I ρ s) (.win b lo n) v) :
  ∃ r cap,v=.slice (some ⟨r,lo,none⟩) ((l.drop lo).take n).length cap∧((l.drop lo).take n).length≤cap∧r<w.heap.size∧real (ρ b)=some r ∧
   ∀ (i:Nat) (x:Int),((l.drop lo).take n)[i]?=some x→CellsAt w ⟨r,lo+i,none⟩ [.int k x]:=by
 obtain ⟨ad,cap,s1,q1,v1,hc⟩:=hv
 obtain ⟨r,tid,cur,e1,e2,e3⟩:=hM.blks b _ hk
 have a1:=win_addr s1 q1 e1
 subst a1
 rw [add_none,Nat.zero_add] at v1
 obtain ⟨c1,c2⟩:=rd_ints (l:=l) e3
 have hlen:((l.drop lo).take n).length=n:=by rw [List.length_take,List.length_drop]; omega
 refine ⟨r,cap,by rw [hlen]; exact v1,by rw [hlen]; exact hc,(Array.getElem?_eq_some_iff.1 e2).1,by rw [e1]; rfl,fun i x hx=>?_⟩
 have hi:i<n:=by have:=(List.getElem?_eq_some_iff.1 hx).1; omega
 rw [List.getElem?_take,if_pos hi,List.getElem?_drop] at hx
 have hcur:cur.toList=(l.take (lo+i)).map (Value.int k)++[.int k x]++(l.drop (lo+i+1)).map (Value.int k):=by
  have hil:=(List.getElem?_eq_some_iff.1 hx).1
  have hxe:=(List.getElem?_eq_some_iff.1 hx).2
  rw [c1]
  have:l=l.take (lo+i)++[x]++l.drop (lo+i+1):=by
   rw [← hxe,List.append_assoc,List.singleton_append,← List.drop_eq_getElem_cons hil,List.take_append_drop]
  calc l.map (Value.int k)=(l.take (lo+i)++[x]++l.drop (lo+i+1)).map (Value.int k):=by rw [← this]
   _=_:=by simp
 have h:=CellsAt_of_row e2 hcur
 rw [List.length_map,List.length_take,Nat.min_eq_left (by have:=(List.getElem?_eq_some_iff.1 hx).1; omega)] at h
 exact h
theorem arg_sound (hc:FnsOk cx.P c) (hM:M cx ρ F s a w) {hp:Nat→Option Blk} (hhp:∀ b k,hp b=some k→s.hp b=some k) {t:Ty} {av:AV} {v:Value} {x:t.den} (hv:RV cx.P ρ w (cx.I ρ s) av v)
  (h:decArg c hp t av=some x) (lent:Bool) (hl:av.lent=true→lent=true):RdV cx.P t ρ0 w (okSet cx ρ s w lent) x v:=by
 have deepcase:∀ (av:AV),RV cx.P ρ w (cx.I ρ s) av v→(match t.deep with | true=>coe t av | false=>none)=some x→RdV cx.P t ρ0 w (okSet cx ρ s w lent) x v:=by
  intro av hv h
  split at h
  ·rename_i hd
   obtain ⟨⟨cc,rfl,hcc⟩,_⟩:=coe_sound hv h
   exact ⟨cc,rfl,(hcc.rho (fun b hb=>by rw [Ty.deep_refs hd] at hb; cases hb)).mono (Pres.refl _ _) fun r hr hi=>⟨hr,.inr hi⟩⟩
  ·cases h
 unfold decArg at h
 split at h
 ·rename_i b lo n
  have hlent:=hl rfl
  unfold decWin at h
  split at h
  ·rename_i k
   split at h
   ·rename_i N k' l hk
    split at h
    ·rename_i hb
     simp only [Bool.and_eq_true] at hb
     obtain rfl:=of_decide_eq_true hb.1
     obtain rfl:=Option.some.inj h
     obtain ⟨r,cap,h1,h2,h3,h4,h5⟩:=win_lend hM (hhp _ _ hk) (Nat.le_of_ble_eq_true hb.2) hv
     rw [h1]
     refine ⟨[.slice (some ⟨r,lo,none⟩) (List.take n (List.drop lo l)).length cap],rfl,some ⟨r,lo,none⟩,cap,rfl,h2,.inr ⟨⟨r,lo,none⟩,rfl,rfl,⟨h3,.inl hlent⟩,h3,fun i x hx=>?_⟩⟩
     refine ⟨[.int k x],?_,rfl⟩
     rw [add_none]
     have e:i*(Ty.int k).size=i:=Nat.mul_one i
     rw [e]
     exact h5 i x hx
    ·cases h
   ·cases h
  ·cases h
 ·rename_i b
  cases t with
  | slice e =>
   simp only [decOwn] at h
   split at h
   ·rename_i e' l tid hk
    obtain ⟨he,rfl⟩:=Ty.as?_some h
    cases he
    have hvv:=RV_own hv
    subst hvv
    have hlent:=hl rfl
    obtain ⟨xs,⟨h0,hro⟩,hrd⟩:=hM.blks b _ (hhp _ _ hk)
    rcases hro with ⟨A0,h1,h2⟩ | ⟨g,cap,cur,h1,hcp,_,h3,h4,h5,h6,h7⟩
    ·have hl0:l=[]:=List.eq_nil_of_length_eq_zero h2
     subst hl0
     rw [h1]
     exact ⟨[.slice A0 0 0],rfl,A0,0,rfl,Nat.le_refl _,.inl rfl⟩
    ·rw [h1]
     refine ⟨[.slice (some ⟨g,0,none⟩) l.length cap],rfl,some ⟨g,0,none⟩,cap,rfl,h4,?_⟩
     by_cases hl0:l=[]
     ·exact .inl hl0
     ·have hg:g<w.heap.size:=hM.owned_lt (hhp _ _ hk) (by rw [h1]; exact real_slice hcp)
      refine .inr ⟨⟨g,0,none⟩,rfl,rfl,⟨hg,.inl hlent⟩,hg,fun i y hy=>?_⟩
      have hi:i<l.length:=(List.getElem?_eq_some_iff.1 hy).1
      obtain ⟨pre,ci,post,g1,g2,g3,_⟩:=elemAt hrd hi e.zero
      have hyy:l.getD i e.zero=y:=by simp only [List.getD]; rw [show l[i]?=some y from hy]; rfl
      rw [hyy] at g3
      refine ⟨ci,?_,g3.mono (Pres.refl _ _) fun r hr hi=>⟨hr,.inr hi⟩⟩
      have hcur:cur.toList=pre++ci++(post++cur.toList.drop (l.length*e.size)):=by
       have:=List.take_append_drop (l.length*e.size) cur.toList
       rw [h7,g1] at this
       rw [← List.append_assoc]; exact this.symm
      have:=CellsAt_of_row h3 hcur
      rw [g2] at this
      rw [add_none,Nat.zero_add]
      exact this
   ·cases h
  | _=>cases h
 ·rename_i p
  exact ptr_sound hM hhp h lent (hl rfl) hv
 ·rename_i g
  exact clo_sound hc hM hhp h lent (hl rfl) hv
 ·exact deepcase _ hv h
theorem args_sound (hc:FnsOk cx.P c) (hM:M cx ρ F s a w) {hp:Nat→Option Blk} (hhp:∀ b k,hp b=some k→s.hp b=some k) (lent:Bool):∀ {ps:Ty} {avs:List AV} {vs:List Value} {x:ps.den},vs.length=avs.length →
  (∀ (i:Nat) (x:AV) (y:Value),avs[i]?=some x→vs[i]?=some y→RV cx.P ρ w (cx.I ρ s) x y)→decArgs c hp ps avs=some x→(avs.any AV.lent=true→lent=true)→Rd cx.P ps true ρ0 w (okSet cx ρ s w lent) x vs:=by
 intro ps
 induction ps with
 | unit =>
  intro avs vs x hl _ h _
  cases avs with
  | nil=>exact List.eq_nil_of_length_eq_zero hl
  | cons _ _=>simp [decArgs] at h
 | pair p q _ ihq =>
  intro avs vs x hl hall h hlent
  cases avs with
  | nil=>simp [decArgs] at h
  | cons av avs =>
   cases vs with
   | nil=>simp at hl
   | cons v vs =>
    simp only [decArgs] at h
    split at h
    ·rename_i y z hy hz
     obtain rfl:=Option.some.inj h
     obtain ⟨cc,rfl,hcc⟩:=arg_sound hc hM hhp (hall 0 _ _ rfl rfl) hy lent (fun h=>hlent (by simp only [List.any_cons,h,Bool.true_or]))
     refine ⟨cc,vs,rfl,hcc,ihq (by simpa using hl) (fun i a b ha hb=>hall (i+1) a b (by simpa using ha) (by simpa using hb)) hz (fun h=>hlent ?_)⟩
     simp only [List.any_cons,h,Bool.or_true]
    ·cases h
 | _=>intro avs vs x hl _ h _; cases avs <;> simp [decArgs] at h
def Carries (P:Program) (lent:Bool) (w':World) (J:Nat→Prop) (ρ':Nat→Value) (I':Nat→Prop):Prop :=
 ∀ (t:Ty) (y:t.den) (v:Value),t.deep=true→(lent=true→t.flat=true)→RdV P t ρ0 w' J y v→RdV P t ρ' w' I' y v
def Fits (P:Program) (w':World) (ρ':Nat→Value) (I':Nat→Prop) (l:List TV) (vs:List Value):Prop :=
 vs.length=l.length∧∀ (i:Nat) (t:TV) (u:Value),l[i]?=some t→vs[i]?=some u→RdV P t.t ρ' w' I' t.x u
theorem Fits.cons {P:Program} {w':World} {ρ':Nat→Value} {I':Nat→Prop} {l:List TV} {vs:List Value} {t:TV} {v:Value} (h0:RdV P t.t ρ' w' I' t.x v) (h:Fits P w' ρ' I' l vs):Fits P w' ρ' I' (t :: l) (v :: vs):=by
 refine ⟨by simp [h.1],fun i t' u ht hu=>?_⟩
 cases i with
 | zero =>
  obtain rfl:=Option.some.inj ht
  obtain rfl:=Option.some.inj hu
  exact h0
 | succ i=>exact h.2 i t' u (by simpa using ht) (by simpa using hu)
theorem vals0 {P:Program} {w w':World} {ok X:Nat→Prop} {lent:Bool} (nid:Nat):∀ {rs:Rs} {y:rs.den} {vs:List Value},rs.vals P w w' ok X y vs→rs.ows=0→rs.deep=true→(lent=true→rs.flat=true) →
  rs.eds nid y=[]∧(∀ t∈rs.avs nid y,t.t.refs t.x=[])∧∀ ρ' I',Carries P lent w' (fun b=>(ok b∨w.heap.size≤b)∧¬ X b) ρ' I'→Fits P w' ρ' I' (rs.avs nid y) vs:=by
 intro rs
 induction rs with
 | none=>intro y vs h _ _ _; have h:vs=[]:=h; subst h; exact ⟨rfl,(fun t ht=>nomatch ht),(fun _ _ _=>⟨rfl,(fun i t u ht=>nomatch ht)⟩)⟩
 | one r =>
  intro y vs h h0 hd hf
  obtain ⟨v,rfl,hv⟩:=h
  cases r with
  | ow e tid=>simp [Rs.ows,RT.ows] at h0
  | dp t =>
   refine ⟨rfl,fun t' ht=>?_,fun ρ' I' hc=>Fits.cons (hc t y v hd hf hv) ⟨rfl,fun i t u ht=>nomatch ht⟩⟩
   obtain rfl:=List.mem_singleton.1 ht
   exact Ty.deep_refs hd
  | dn e =>
   refine ⟨rfl,fun t' ht=>?_,fun ρ' I' hc=>Fits.cons (hc (.slice e) y v hd (fun hl=>by have:=hf hl; cases this) hv.1) ⟨rfl,fun i t u ht=>nomatch ht⟩⟩
   obtain rfl:=List.mem_singleton.1 ht
   exact Ty.deep_refs (t:=.slice e) hd
 | more r rs ih =>
  intro y vs h h0 hd hf
  obtain ⟨v,vs',rfl,hv,hvs⟩:=h
  simp only [Rs.deep,Bool.and_eq_true] at hd
  simp only [Rs.flat,Bool.and_eq_true] at hf
  cases r with
  | ow e tid=>simp [Rs.ows,RT.ows] at h0
  | dp t =>
   obtain ⟨h1,h1r,h2⟩:=ih hvs (by simpa [Rs.ows,RT.ows] using h0) hd.2 (fun hl=>(hf hl).2)
   refine ⟨by simp only [Rs.eds,RT.ed,h1,List.append_nil],fun t' ht=>?_,fun ρ' I' hc=>Fits.cons (hc t y.1 v hd.1 (fun hl=>(hf hl).1) hv) (h2 ρ' I' hc)⟩
   rcases List.mem_cons.1 ht with rfl | ht
   ·exact Ty.deep_refs hd.1
   ·exact h1r t' ht
  | dn e =>
   obtain ⟨h1,h1r,h2⟩:=ih hvs (by simpa [Rs.ows,RT.ows] using h0) hd.2 (fun hl=>(hf hl).2)
   refine ⟨by simp only [Rs.eds,RT.ed,h1,List.append_nil],fun t' ht=>?_,fun ρ' I' hc=>Fits.cons (hc (.slice e) y.1 v hd.1 (fun hl=>by have:=(hf hl).1; cases this) hv.1) (h2 ρ' I' hc)⟩
   rcases List.mem_cons.1 ht with rfl | ht
   ·exact Ty.deep_refs (t:=.slice e) hd.1
   ·exact h1r t' ht
theorem vals1 {P:Program} {w w':World} {ok X:Nat→Prop} {lent:Bool} (nid:Nat):∀ {rs:Rs} {y:rs.den} {vs:List Value},rs.vals P w w' ok X y vs→rs.ows=1→rs.deep=true→(lent=true→rs.flat=true) →
  ∃ (e:Ty) (tid:TypeId) (l:List e.den) (v:Value),rs.eds nid y=[(nid,some (.row e l tid))]∧(lent=true→e.flat=true)∧(RT.ow e tid).ok P w w' ok X l v∧(∀ t∈rs.avs nid y,∀ b∈t.t.refs t.x,b=nid) ∧
   ∀ ρ' I',ρ' nid=v→Carries P lent w' (fun b=>(ok b∨w.heap.size≤b)∧¬ X b) ρ' I'→Fits P w' ρ' I' (rs.avs nid y) vs:=by
 intro rs
 induction rs with
 | none=>intro y vs h h0; simp [Rs.ows] at h0
 | one r =>
  intro y vs h h0 hd hf
  obtain ⟨v,rfl,hv⟩:=h
  cases r with
  | dp t=>simp [Rs.ows,RT.ows] at h0
  | dn e=>simp [Rs.ows,RT.ows] at h0
  | ow e tid =>
   refine ⟨e,tid,y,v,rfl,hf,hv,fun t ht b hb=>?_,fun ρ' I' hρ' hc=>Fits.cons ⟨[v],rfl,?_⟩ ⟨rfl,fun i t u ht=>nomatch ht⟩⟩
   ·obtain rfl:=List.mem_singleton.1 ht
    exact List.mem_singleton.1 hb
   ·show [v]=[ρ' nid]
    rw [hρ']
 | more r rs ih =>
  intro y vs h h0 hd hf
  obtain ⟨v,vs',rfl,hv,hvs⟩:=h
  simp only [Rs.deep,Bool.and_eq_true] at hd
  simp only [Rs.flat,Bool.and_eq_true] at hf
  cases r with
  | dp t =>
   obtain ⟨e,tid,l,u,h1,h2,h3,h4,h5⟩:=ih hvs (by simpa [Rs.ows,RT.ows] using h0) hd.2 (fun hl=>(hf hl).2)
   refine ⟨e,tid,l,u,by simp only [Rs.eds,RT.ed,h1,List.nil_append],h2,h3,fun t' ht b hb=>?_,fun ρ' I' hρ' hc=>Fits.cons (hc t y.1 v hd.1 (fun hl=>(hf hl).1) hv) (h5 ρ' I' hρ' hc)⟩
   rcases List.mem_cons.1 ht with rfl | ht
   ·have e0:=Ty.deep_refs (t:=t) (x:=y.1) hd.1
    have hb:b∈([]:List Nat):=e0 ▸ hb
    cases hb
   ·exact h4 t' ht b hb
  | dn e' =>
   obtain ⟨e,tid,l,u,h1,h2,h3,h4,h5⟩:=ih hvs (by simpa [Rs.ows,RT.ows] using h0) hd.2 (fun hl=>(hf hl).2)
   refine ⟨e,tid,l,u,by simp only [Rs.eds,RT.ed,h1,List.nil_append],h2,h3,fun t' ht b hb=>?_,fun ρ' I' hρ' hc=>Fits.cons (hc (.slice e') y.1 v hd.1 (fun hl=>by have:=(hf hl).1; cases this) hv.1) (h5 ρ' I' hρ' hc)⟩
   rcases List.mem_cons.1 ht with rfl | ht
   ·have e0:=Ty.deep_refs (t:=.slice e') (x:=y.1) hd.1
    have hb:b∈([]:List Nat):=e0 ▸ hb
    cases hb
   ·exact h4 t' ht b hb
  | ow e tid =>
   have h0':rs.ows=0:=by simp only [Rs.ows,RT.ows] at h0; omega
   obtain ⟨h1,h1r,h2⟩:=vals0 (nid:=nid) hvs h0' hd.2 (fun hl=>(hf hl).2)
   refine ⟨e,tid,y.1,v,by simp only [Rs.eds,RT.ed,h1,List.append_nil],fun hl=>(hf hl).1,hv,fun t' ht b hb=>?_,fun ρ' I' hρ' hc=>Fits.cons ⟨[v],rfl,?_⟩ (h2 ρ' I' hc)⟩
   ·rcases List.mem_cons.1 ht with rfl | ht
    ·exact List.mem_singleton.1 hb
    ·rw [h1r t' ht] at hb; cases hb
   ·show [v]=[ρ' nid]
    rw [hρ']
theorem ownsRow_base {w:World} {b b':Nat} {e:TypeId} {size:Nat} {v:Value} {n:Nat} {xs:List Value} (h:World.rowOf w b e size v n xs) (hb:b'≤b):World.rowOf w b' e size v n xs:=by
 obtain ⟨h1,h2⟩:=h
 refine ⟨h1,?_⟩
 rcases h2 with h2 | ⟨g,cap,cur,hv,hc,hg,r⟩
 ·exact .inl h2
 ·exact .inr ⟨g,cap,cur,hv,hc,Nat.le_trans hb hg,r⟩
theorem ownsRow_real {w:World} {b:Nat} {e:TypeId} {size:Nat} {v:Value} {n:Nat} {xs:List Value} (h:World.rowOf w b e size v n xs) {r:Nat} (hr:real v=some r):b≤r∧r<w.heap.size:=by
 rcases h.2 with ⟨A,rfl,_⟩ | ⟨g,cap,cur,rfl,hc,hb,hg,_⟩
 ·rw [real_zero] at hr; cases hr
 ·obtain ⟨rfl,_⟩:=real_some hr
  exact ⟨hb,(Array.getElem?_eq_some_iff.1 hg).1⟩
theorem M.called (hM:M cx ρ F s a w) {nid:Nat} (hn:¬ F nid) {rs:Rs} {y:rs.den} {vs:List Value} {w':World} {X:Nat→Prop} {lent:Bool} (hX:∀ b,X b→w.heap.size≤b)
  (hv:rs.vals cx.P w w' (okSet cx ρ s w lent) X y vs) (hb:Below w.heap.size w w') (ho:rs.ows≤1) (hd:rs.deep=true) (hf:lent=true→rs.flat=true) :
  ∃ ρ',M cx ρ' (fun b=>F b∨b=nid) ⟨s.sl,app s.hp (rs.eds nid y),s.ok⟩ a w'∧Fits cx.P w' ρ' (cx.I ρ' ⟨s.sl,app s.hp (rs.eds nid y),s.ok⟩) (rs.avs nid y) vs∧∀ t∈rs.avs nid y,∀ b∈t.t.refs t.x,F b∨b=nid:=by
 have carries:∀ (ρ':Nat→Value) (I':Nat→Prop),(∀ b,b<w'.heap.size→cx.I ρ s b→b<w.heap.size→¬ X b→I' b)→(∀ b,w.heap.size≤b→¬ X b→I' b) →
   Carries cx.P lent w' (fun b=>(okSet cx ρ s w lent b∨w.heap.size≤b)∧¬ X b) ρ' I':=by
  intro ρ' I' h1 h2 t y v hdeep hflat ⟨cc,hcv,hcc⟩
  refine ⟨cc,hcv,?_⟩
  cases lent with
  | true=>exact hcc.flat (hflat rfl)
  | false =>
   refine (hcc.rho (fun b hb=>by rw [Ty.deep_refs hdeep] at hb; cases hb)).mono (Pres.refl _ _) fun b hb hi=>?_
   rcases hi.1 with ⟨hlt,hi'⟩ | hi'
   ·rcases hi' with hi' | hi'
    ·cases hi'
    ·exact h1 b hb hi' hlt hi.2
   ·exact h2 b hi' hi.2
 by_cases h0:rs.ows=0
 ·obtain ⟨h1,h1r,h2⟩:=vals0 (lent:=lent) nid hv h0 hd hf
  rw [h1]
  have hM':=hM.world hb
  refine ⟨ρ,hM'.widen (fun b h=>.inl h),h2 ρ _ (carries ρ _ (fun b _ hi _ _=>hi) (fun b hlt _=>⟨.inr (.inl (Nat.le_trans hM.size hlt)),fun b' k hk hr=>?_⟩)),fun t ht b hb=>by rw [h1r t ht] at hb; cases hb⟩
  have:=hM.owned_lt hk hr
  omega
 ·obtain ⟨e,tid,l,u,h1,h2,⟨⟨xs,h3,h3'⟩,h4,h4'⟩,h5,h6⟩:=vals1 (lent:=lent) nid hv (by omega) hd hf
  rw [h1]
  have hnew:=M.new (k:=.row e l tid) (v:=u) hM hn s.ok hb (fun r hr=>⟨hX r (h4 r hr),(ownsRow_real h3 hr).2⟩) h4' ⟨xs,ownsRow_base h3 (Nat.zero_le _),by
    cases lent with
    | true=>exact h3'.flat (h2 rfl)
    | false =>
     refine h3'.mono (Pres.refl _ _) fun b _ hi=>?_
     rcases hi.1 with ⟨hlt,hi'⟩ | hi'
     ·rcases hi' with hi' | hi'
      ·cases hi'
      ·exact .inl ⟨hi',hlt⟩
     ·exact .inr ⟨hi',fun hr=>hi.2 (h4 b hr)⟩⟩ (fun b hb=>by cases hb)
  refine ⟨_,hnew,h6 _ _ (upd_same _ _ _) (carries _ _ (fun b _ hi hlt hx=>⟨hi.1,fun b' k hk hr=>?_⟩) (fun b hlt hx=>⟨.inr (.inl (Nat.le_trans hM.size hlt)),fun b' k hk hr=>?_⟩)),fun t ht b hb=>.inr (h5 t ht b hb)⟩
  ·by_cases e:b'=nid
   ·subst e
    rw [upd_same] at hr
    exact hx (h4 b hr)
   ·change upd s.hp nid _ b'=some k at hk
    rw [upd_ne _ _ e] at hk hr
    exact hi.2 b' k hk hr
  ·by_cases e:b'=nid
   ·subst e
    rw [upd_same] at hr
    exact hx (h4 b hr)
   ·change upd s.hp nid _ b'=some k at hk
    rw [upd_ne _ _ e] at hk hr
    have:=hM.owned_lt hk hr
    omega
end
section
variable {cx:Cx} {s:St} {o:Oper} {nid:Nat}
theorem ok_called {rs:Rs} {y:rs.den} {p:Perf} (hp:p.v=rs.av nid y) (hed:p.ed=rs.eds nid y) (ho:rs.ows≤1) (hd:rs.deep=true)
  (h:∀ (ρ:Nat→Value) (F:Nat→Prop) (a:Act) (w:World),M cx ρ F s a w→p.obP→∃ lent:Bool,(lent=true→rs.flat=true)∧∃ f args,(execOp a.eval o).run cx.P w=(callFunc f args).run cx.P w ∧
   InvOk cx.P f args w fun v w'=>ResOk cx.P w w' (okSet cx ρ s w lent) rs y v∧Below w.heap.size w w'):OpOk cx o s nid p:=by
 intro ρ F a w next Q hM hnF hob hn
 obtain ⟨lent,hf,f,args,hr,hinv⟩:=h ρ F a w hM hob
 unfold Oper.wp
 rw [hr]
 refine hinv o a next Q fun v w' hv=>?_
 obtain ⟨⟨X,hX,hok⟩,hb⟩:=hv
 have hvals:∃ vs:List Value,rs.vals cx.P w w' (okSet cx ρ s w lent) X y vs∧∀ (ρ':Nat→Value) (I':Nat→Prop),Fits cx.P w' ρ' I' (rs.avs nid y) vs→RV cx.P ρ' w' I' (rs.av nid y) v:=by
  cases rs with
  | none =>
   obtain ⟨vs,rfl,hvs⟩:=hok
   exact ⟨vs,hvs,fun ρ' I' hfit=>⟨vs,rfl,hfit.1,hfit.2⟩⟩
  | one r =>
   refine ⟨[v],⟨v,rfl,hok⟩,fun ρ' I' hfit=>?_⟩
   cases r with
   | dp t=>exact hfit.2 0 _ _ rfl rfl
   | ow e tid=>exact hfit.2 0 _ _ rfl rfl
   | dn e =>
    have hok:RdV _ (.slice e) ρ0 _ _ y v∧(y=([]:List e.den)→v=.slice none 0 0):=hok
    match y,hok,hfit with
    | [],hok,_=>exact hok.2 rfl
    | a :: l,_,hfit=>exact hfit.2 0 _ _ rfl rfl
  | more r rs =>
   obtain ⟨vs,rfl,hvs⟩:=hok
   exact ⟨vs,hvs,fun ρ' I' hfit=>⟨vs,rfl,hfit.1,hfit.2⟩⟩
 obtain ⟨vs,hvs,hfit⟩:=hvals
 obtain ⟨ρ',hM',hF',hrefs⟩:=M.called hM hnF hX hvs hb ho hd hf
 refine hn ρ' v w' ?_
 rw [hp,hed]
 refine hM'.put o.dst (hfit ρ' _ hF') (fun b hb=>?_) s.ok
 have hmem:∀ t∈rs.avs nid y,∀ b∈t.t.refs t.x,F b∨b=nid:=hrefs
 cases rs with
 | none=>cases hb
 | one r =>
  cases r with
  | dp t=>exact hmem _ (List.mem_singleton.2 rfl) b hb
  | ow e tid=>exact hmem _ (List.mem_singleton.2 rfl) b hb
  | dn e =>
   match y,hmem,hb with
   | [],_,hb=>cases hb
   | a :: l,hmem,hb=>exact hmem _ (List.mem_singleton.2 rfl) b hb
 | more r rs =>
  obtain ⟨t,ht,hbt⟩:=List.mem_flatMap.1 hb
  exact hmem t ht b hbt
end
end
end Go.Sx
namespace Go.Sx
section
variable {c:Ctx} {cx:Cx} {ρ:Nat→Value} {F:Nat→Prop} {s:St} {a:Act} {w:World}
def AllX (X:Nat→Prop) (w:World) (b:Nat):Prop:=b<w.heap.size∧¬ X b
structure Less (cx:Cx) (ρ:Nat→Value) (s:St) (hp:Nat→Option Blk) (X:Nat→Prop):Prop where
 sub:∀ b k,hp b=some k→s.hp b=some k
 out:∀ b k r,hp b=some k→real (ρ b)=some r→¬ X r
 inn:∀ r,X r→¬ cx.I ρ s r
variable {hp:Nat→Option Blk} {X:Nat→Prop}
theorem deref_soundX (hM:M cx ρ F s a w) (hl:Less cx ρ s hp X) {p:Ptr} {t:Ty} {x:t.den} (h:derefP hp p t=some x) :
  Rd cx.P (.ref t) false ρ0 w (AllX X w) x [p.val ρ]:=by
 unfold derefP at h
 split at h
 ·rename_i ty y hk
  split at h
  ·rename_i hb
   simp only [Bool.and_eq_true] at hb
   have hg:getP (.cells ty y) p t=(some x,none):=by
    unfold getP
    simp only [hb.1,h]
   obtain ⟨r,tid,cur,pre,cc,post,h1,h2,h3,h4,h5,_⟩:=place_sound (hM.blks p.b _ (hl.sub _ _ hk)) hg trivial
   have hlt:r<w.heap.size:=hM.owned_lt (hl.sub _ _ hk) h1
   exact ⟨⟨r,pre.length,none⟩,cc,by rw [h2],rfl,⟨hlt,hl.out _ _ _ hk h1⟩,hlt,CellsAt_of_row h3 h4,(h5.rho (fun b hb'=>by rw [Ty.deep_refs hb.2] at hb'; cases hb')).mono (Pres.refl _ _) (fun r hr hi=>⟨hr,fun hx=>hl.inn r hx hi⟩)⟩
  ·cases h
 ·cases h
theorem caps_soundX (hM:M cx ρ F s a w) (hl:Less cx ρ s hp X):∀ {rest:Ty} {ps:List Ptr} {z:rest.den},decCaps hp rest ps=some z →
  Rd cx.P rest true ρ0 w (AllX X w) z (ps.map (·.val ρ)):=by
 intro rest
 induction rest with
 | unit=>intro ps z h; cases ps <;> simp [decCaps] at h; rfl
 | pair p q _ ihq =>
  intro ps z h
  cases p with
  | ref t =>
   cases ps with
   | nil=>simp [decCaps] at h
   | cons p ps =>
    simp only [decCaps] at h
    split at h
    ·rename_i x y hx hy
     obtain rfl:=Option.some.inj h
     exact ⟨[p.val ρ],ps.map (·.val ρ),rfl,deref_soundX hM hl hx,ihq hy⟩
    ·cases h
  | _=>simp [decCaps] at h
 | _=>intro ps z h; simp [decCaps] at h
theorem fn_soundX (hc:FnsOk cx.P c) (hM:M cx ρ F s a w) (hl:Less cx ρ s hp X) {g:FuncId × List Ptr} {ps r:Ty} {x:ps.den→Option r.den}
  (h:decFn c hp g ps r=some x):Rd cx.P (.fn ps r) false ρ0 w (AllX X w) x [.func (.func g.1) #[] (g.2.map (·.val ρ)).toArray]:=by
 unfold decFn at h
 split at h
 ·rename_i sp hsp
  split at h
  ·rename_i f sl hf hsl
   split at h
   ·rename_i z hz
    obtain rfl:=Option.some.inj h
    have hfn:=hc _ _ (find_mem hsp)
    obtain ⟨f',hspe,rfl⟩:=Spec.one_sound hf
    have hcaps:=caps_soundX hM hl hz
    refine ⟨g.1,(g.2.map (·.val ρ)).toArray,rfl,fun w' hw' ok hok x y args hx hy=>?_⟩
    have h1:Rd cx.P sp.ps true ρ0 w' (fun b=>ok b∨(b<w.heap.size∧¬ X b)) (sl.g x z) (args++g.2.map (·.val ρ)) :=
     splitPs_sound hsl (hx.mono (Pres.refl _ _) fun _ _ h=>.inl h) (hcaps.mono hw' fun _ _ h=>.inr h)
    rw [hspe] at hfn
    have hfn:FnOkD cx.P g.1 _ _ _:=hfn
    have h3:=hfn w' (fun b=>ok b∨(b<w.heap.size∧¬ X b)) (sl.g x z) y (args++g.2.map (·.val ρ)) (fun b hb=>by
     rcases hb with hb | hb
     ·exact hok b hb
     ·exact Nat.lt_of_lt_of_le hb.1 hw'.1) h1 hy
    have e:args.toArray++(g.2.map (·.val ρ)).toArray=(args++g.2.map (·.val ρ)).toArray:=by simp
    rw [e]
    refine h3.mono fun v w'' hv=>?_
    obtain ⟨⟨X',hX',cc,hv1,hv2⟩,hb⟩:=hv
    refine ⟨⟨cc,hv1,hv2.mono (Pres.refl _ _) fun q _ hq=>?_⟩,hb⟩
    rcases hq.1 with (hq | hq) | hq
    ·exact .inl hq
    ·exact .inr (.inl ⟨hq,hq.1⟩)
    ·exact .inr (.inr hq)
   ·cases h
  ·cases h
 ·cases h
theorem fn_sound2X (hc:FnsOk cx.P c) (hM:M cx ρ F s a w) (hl:Less cx ρ s hp X) {g:FuncId × List Ptr} {ps a' b':Ty} {x:ps.den→Option (a'.den × b'.den)}
  (h:decFn2 c hp g ps a' b'=some x):Rd cx.P (.fn2 ps a' b') false ρ0 w (AllX X w) x [.func (.func g.1) #[] (g.2.map (·.val ρ)).toArray]:=by
 unfold decFn2 at h
 split at h
 ·rename_i sp hsp
  split at h
  ·rename_i f sl hf hsl
   split at h
   ·rename_i z hz
    obtain rfl:=Option.some.inj h
    have hfn:=hc _ _ (find_mem hsp)
    obtain ⟨f',hspe,rfl⟩:=Spec.two_sound hf
    have hcaps:=caps_soundX hM hl hz
    refine ⟨g.1,(g.2.map (·.val ρ)).toArray,rfl,fun w' hw' ok hok x y args hx hy=>?_⟩
    have h1:Rd cx.P sp.ps true ρ0 w' (fun b=>ok b∨(b<w.heap.size∧¬ X b)) (sl.g x z) (args++g.2.map (·.val ρ)) :=
     splitPs_sound hsl (hx.mono (Pres.refl _ _) fun _ _ h=>.inl h) (hcaps.mono hw' fun _ _ h=>.inr h)
    rw [hspe] at hfn
    have hfn:FnOkD cx.P g.1 _ _ _:=hfn
    have h3:=hfn w' (fun b=>ok b∨(b<w.heap.size∧¬ X b)) (sl.g x z) y (args++g.2.map (·.val ρ)) (fun b hb=>by
     rcases hb with hb | hb
     ·exact hok b hb
     ·exact Nat.lt_of_lt_of_le hb.1 hw'.1) h1 hy
    have e:args.toArray++(g.2.map (·.val ρ)).toArray=(args++g.2.map (·.val ρ)).toArray:=by simp
    rw [e]
    refine h3.mono fun v w'' hv=>?_
    obtain ⟨⟨X',hX',hv⟩,hb⟩:=hv
    obtain ⟨vs,rfl,v1,vs1,rfl,⟨c1,rfl,hv1⟩,v2,rfl,⟨c2,rfl,hv2⟩⟩:=hv
    have key:∀ q,q<w''.heap.size→(((ok q∨(q<w.heap.size∧¬ X q))∨w'.heap.size≤q)∧¬ X' q)→(ok q∨(AllX X w q∧q<w.heap.size)∨w'.heap.size≤q):=by
     intro q _ hq
     rcases hq.1 with (hq | hq) | hq
     ·exact .inl hq
     ·exact .inr (.inl ⟨hq,hq.1⟩)
     ·exact .inr (.inr hq)
    exact ⟨⟨c1,c2,rfl,hv1.mono (Pres.refl _ _) key,hv2.mono (Pres.refl _ _) key⟩,hb⟩
   ·cases h
  ·cases h
 ·cases h
def okX (cx:Cx) (ρ:Nat→Value) (s:St) (w:World) (lent:Bool) (X:Nat→Prop) (b:Nat):Prop:=okSet cx ρ s w lent b∧¬ X b
theorem okX_of_I (hl:Less cx ρ s hp X) {lent:Bool}:∀ r,r<w.heap.size→cx.I ρ s r→okX cx ρ s w lent X r:=fun r hr hi=>⟨⟨hr,.inr hi⟩,fun hx=>hl.inn r hx hi⟩
theorem lendX {P:Program} {t:Ty} {x:t.den} {u v:Value} {lent:Bool} (h:Rd P t false ρ0 w (AllX X w) x [u]) (ha:t.agg=false) (hl:lent=true) (hv:v=u):RdV P t ρ0 w (okX cx ρ s w lent X) x v :=
 ⟨[u],by rw [mkV_one ha,hv],h.mono (Pres.refl _ _) (fun _ hr hx=>⟨⟨hr,.inl hl⟩,hx.2⟩)⟩
theorem ptr_lendX {P:Program} {p:Ptr} {t':Ty} {x:t'.den} {v:Value} (lent:Bool) (hl:lent=true) (hvv:v=p.val ρ)
  (h1:Rd P (.ref t') false ρ0 w (AllX X w) x [p.val ρ]):RdV P (.ref t') ρ0 w (okX cx ρ s w lent X) x v:=by
 refine lendX (u:=p.val ρ) ?_ ?_ ?_ ?_
 ·exact h1
 ·rfl
 ·exact hl
 ·exact hvv
theorem clo_lendX {P:Program} {ps r:Ty} {x:ps.den→Option r.den} {u v:Value} (lent:Bool) (hl:lent=true) (hvv:v=u)
  (h1:Rd P (.fn ps r) false ρ0 w (AllX X w) x [u]):RdV P (.fn ps r) ρ0 w (okX cx ρ s w lent X) x v:=by
 refine lendX (u:=u) ?_ ?_ ?_ ?_
 ·exact h1
 ·rfl
 ·exact hl
 ·exact hvv
theorem clo_lend2X {P:Program} {ps a' b':Ty} {x:ps.den→Option (a'.den × b'.den)} {u v:Value} (lent:Bool) (hl:lent=true) (hvv:v=u)
  (h1:Rd P (.fn2 ps a' b') false ρ0 w (AllX X w) x [u]):RdV P (.fn2 ps a' b') ρ0 w (okX cx ρ s w lent X) x v:=by
 refine lendX (u:=u) ?_ ?_ ?_ ?_
 ·exact h1
 ·rfl
 ·exact hl
 ·exact hvv
theorem ptr_soundX' (hM:M cx ρ F s a w) (hl:Less cx ρ s hp X) {p:Ptr} {t':Ty} {x:(Ty.ref t').den} {v:Value} (h:decPtr hp p (.ref t')=some x) (lent:Bool) (hlt:lent=true)
  (hvv:v=p.val ρ):RdV cx.P (.ref t') ρ0 w (okX cx ρ s w lent X) x v:=by
 have h1:Rd cx.P (.ref t') false ρ0 w (AllX X w) x [p.val ρ]:=deref_soundX hM hl (decPtr_ref h)
 clear hM hl h
 exact ptr_lendX (cx:=cx) (s:=s) lent hlt hvv h1
theorem clo_soundX' (hc:FnsOk cx.P c) (hM:M cx ρ F s a w) (hl:Less cx ρ s hp X) {g:FuncId × List Ptr} {ps r:Ty} {x:(Ty.fn ps r).den} {v:Value} (h:decClo c hp g (.fn ps r)=some x) (lent:Bool) (hlt:lent=true)
  (hvv:v=.func (.func g.1) #[] (g.2.map (·.val ρ)).toArray):RdV cx.P (.fn ps r) ρ0 w (okX cx ρ s w lent X) x v:=by
 have h1:Rd cx.P (.fn ps r) false ρ0 w (AllX X w) x [.func (.func g.1) #[] (g.2.map (·.val ρ)).toArray]:=fn_soundX hc hM hl (decClo_fn h)
 clear hM hl h
 exact clo_lendX (cx:=cx) (s:=s) lent hlt hvv h1
theorem clo_sound2X' (hc:FnsOk cx.P c) (hM:M cx ρ F s a w) (hl:Less cx ρ s hp X) {g:FuncId × List Ptr} {ps a' b':Ty} {x:(Ty.fn2 ps a' b').den} {v:Value} (h:decClo c hp g (.fn2 ps a' b')=some x) (lent:Bool) (hlt:lent=true)
  (hvv:v=.func (.func g.1) #[] (g.2.map (·.val ρ)).toArray):RdV cx.P (.fn2 ps a' b') ρ0 w (okX cx ρ s w lent X) x v:=by
 have h1:Rd cx.P (.fn2 ps a' b') false ρ0 w (AllX X w) x [.func (.func g.1) #[] (g.2.map (·.val ρ)).toArray]:=fn_sound2X hc hM hl (decClo_fn2 h)
 clear hM hl h
 exact clo_lend2X (cx:=cx) (s:=s) lent hlt hvv h1
theorem arg_soundX (hc:FnsOk cx.P c) (hM:M cx ρ F s a w) (hls:Less cx ρ s hp X) {t:Ty} {av:AV} {v:Value} {x:t.den} (hv:RV cx.P ρ w (cx.I ρ s) av v)
  (h:decArg c hp t av=some x) (lent:Bool) (hl:av.lent=true→lent=true):RdV cx.P t ρ0 w (okX cx ρ s w lent X) x v:=by
 have deepcase:∀ (av:AV),RV cx.P ρ w (cx.I ρ s) av v→(match t.deep with | true=>coe t av | false=>none)=some x→RdV cx.P t ρ0 w (okX cx ρ s w lent X) x v:=by
  intro av hv h
  split at h
  ·rename_i hd
   obtain ⟨⟨cc,rfl,hcc⟩,_⟩:=coe_sound hv h
   exact ⟨cc,rfl,(hcc.rho (fun b hb=>by rw [Ty.deep_refs hd] at hb; cases hb)).mono (Pres.refl _ _) (okX_of_I hls)⟩
  ·cases h
 unfold decArg at h
 split at h
 ·rename_i b lo n
  have hlent:=hl rfl
  unfold decWin at h
  split at h
  ·rename_i k
   split at h
   ·rename_i N k' l hk
    split at h
    ·rename_i hb
     simp only [Bool.and_eq_true] at hb
     obtain rfl:=of_decide_eq_true hb.1
     obtain rfl:=Option.some.inj h
     obtain ⟨r,cap,h1,h2,h3,h4,h5⟩:=win_lend hM (hls.sub _ _ hk) (Nat.le_of_ble_eq_true hb.2) hv
     rw [h1]
     refine ⟨[.slice (some ⟨r,lo,none⟩) (List.take n (List.drop lo l)).length cap],rfl,some ⟨r,lo,none⟩,cap,rfl,h2,.inr ⟨⟨r,lo,none⟩,rfl,rfl,⟨⟨h3,.inl hlent⟩,hls.out _ _ _ hk h4⟩,h3,fun i x hx=>?_⟩⟩
     refine ⟨[.int k x],?_,rfl⟩
     rw [add_none]
     have e:i*(Ty.int k).size=i:=Nat.mul_one i
     rw [e]
     exact h5 i x hx
    ·cases h
   ·cases h
  ·cases h
 ·rename_i b
  cases t with
  | slice e =>
   simp only [decOwn] at h
   split at h
   ·rename_i e' l tid hk
    obtain ⟨he,rfl⟩:=Ty.as?_some h
    cases he
    have hvv:=RV_own hv
    subst hvv
    have hlent:=hl rfl
    obtain ⟨xs,⟨h0,hro⟩,hrd⟩:=hM.blks b _ (hls.sub _ _ hk)
    rcases hro with ⟨A0,h1,h2⟩ | ⟨g,cap,cur,h1,hcp,_,h3,h4,h5,h6,h7⟩
    ·have hl0:l=[]:=List.eq_nil_of_length_eq_zero h2
     subst hl0
     rw [h1]
     exact ⟨[.slice A0 0 0],rfl,A0,0,rfl,Nat.le_refl _,.inl rfl⟩
    ·have hreal:real (ρ b)=some g:=by rw [h1]; exact real_slice hcp
     rw [h1]
     refine ⟨[.slice (some ⟨g,0,none⟩) l.length cap],rfl,some ⟨g,0,none⟩,cap,rfl,h4,?_⟩
     by_cases hl0:l=[]
     ·exact .inl hl0
     ·have hg:g<w.heap.size:=hM.owned_lt (hls.sub _ _ hk) hreal
      refine .inr ⟨⟨g,0,none⟩,rfl,rfl,⟨⟨hg,.inl hlent⟩,hls.out _ _ _ hk hreal⟩,hg,fun i y hy=>?_⟩
      have hi:i<l.length:=(List.getElem?_eq_some_iff.1 hy).1
      obtain ⟨pre,ci,post,g1,g2,g3,_⟩:=elemAt hrd hi e.zero
      have hyy:l.getD i e.zero=y:=by simp only [List.getD]; rw [show l[i]?=some y from hy]; rfl
      rw [hyy] at g3
      refine ⟨ci,?_,g3.mono (Pres.refl _ _) (okX_of_I hls)⟩
      have hcur:cur.toList=pre++ci++(post++cur.toList.drop (l.length*e.size)):=by
       have:=List.take_append_drop (l.length*e.size) cur.toList
       rw [h7,g1] at this
       rw [← List.append_assoc]; exact this.symm
      have:=CellsAt_of_row h3 hcur
      rw [g2] at this
      rw [add_none,Nat.zero_add]
      exact this
   ·cases h
  | _=>cases h
 ·rename_i p
  have hvv:=RV_ptr hv
  cases t with
  | ref t'=>exact ptr_soundX' hM hls h lent (hl rfl) hvv
  | _=>cases h
 ·rename_i g
  have hvv:=RV_clo hv
  cases t with
  | fn ps r=>exact clo_soundX' hc hM hls h lent (hl rfl) hvv
  | fn2 ps a' b'=>exact clo_sound2X' hc hM hls h lent (hl rfl) hvv
  | _=>cases h
 ·exact deepcase _ hv h
theorem args_fit (hc:FnsOk cx.P c) (hM:M cx ρ F s a w) (hls:Less cx ρ s hp X) (lent:Bool) {g:List (Nat × Nat)}:∀ {l:List HArg} {avs:List AV} {vs:List Value},vs.length=avs.length →
  (∀ (i:Nat) (x:AV) (y:Value),avs[i]?=some x→vs[i]?=some y→RV cx.P ρ w (cx.I ρ s) x y)→matchArgs c hp g l avs→(datLent l avs=true→lent=true) →
  ArgsFit cx.P (fun b=>ρ (ren g b)) w (okX cx ρ s w lent X) l vs:=by
 intro l
 induction l with
 | nil =>
  intro avs vs hl _ h _
  cases avs with
  | nil=>exact List.eq_nil_of_length_eq_zero hl
  | cons _ _=>exact h.elim
 | cons x l ih =>
  intro avs vs hl hall h hlent
  cases avs with
  | nil=>cases x <;> exact h.elim
  | cons av avs =>
   cases vs with
   | nil=>simp at hl
   | cons v vs =>
    have hl':vs.length=avs.length:=by simpa using hl
    have hall':∀ (i:Nat) (x:AV) (y:Value),avs[i]?=some x→vs[i]?=some y→RV cx.P ρ w (cx.I ρ s) x y:=fun i x y hx hy=>hall (i+1) x y (by simpa using hx) (by simpa using hy)
    have hv:=hall 0 av v rfl rfl
    cases x with
    | lent av0 =>
     obtain ⟨h1,h2⟩:=h
     subst h1
     refine ⟨v,vs,rfl,(RV.ren hv).mono (fun _ _=>rfl) (Pres.refl _ _) (okX_of_I hls),ih hl' hall' h2 fun h=>hlent h⟩
    | dat t y =>
     obtain ⟨h1,h2⟩:=h
     refine ⟨v,vs,rfl,arg_soundX hc hM hls hv h1 lent (fun h=>hlent ?_),ih hl' hall' h2 fun h=>hlent ?_⟩
     ·simp only [datLent,h,Bool.true_or]
     ·simp only [datLent,h,Bool.or_true]
theorem app_out {ed:List (Nat × Option Blk)}:∀ {hp:Nat→Option Blk} {b:Nat},(∀ e∈ed,e.1≠b)→app hp ed b=hp b:=by
 induction ed with
 | nil=>intro hp b _; rfl
 | cons e ed ih =>
  intro hp b h
  show app (upd hp e.1 e.2) ed b=_
  rw [ih (fun e' he'=>h e' (List.mem_cons_of_mem _ he')),upd_ne _ _ (fun he=>h e List.mem_cons_self he.symm)]
theorem keysB_mem {n:Nat}:∀ {l:List (Nat × Blk)} {i:Nat},keysB n i l=true→∀ b∈l,i≤b.1∧b.1<n:=by
 intro l
 induction l with
 | nil=>intro i _ b hb; cases hb
 | cons b l ih =>
  intro i h b' hb'
  have hlt:=(keysB_find h b.1).1 (by unfold find; simp)
  simp only [keysB,Bool.and_eq_true] at h
  rcases List.mem_cons.1 hb' with rfl | hb'
  ·exact hlt
  ·have:=ih h.2 b' hb'
   omega
def edH (g:List (Nat × Nat)) (l:List (Nat × Blk)):List (Nat × Option Blk):=l.map fun b=>(ren g b.1,some (b.2.ren (ren g)))
theorem app_edH {g:List (Nat × Nat)} {n:Nat} (hinj:∀ i j,i<n→j<n→ren g i=ren g j→i=j):∀ {l:List (Nat × Blk)} {i:Nat} {hp:Nat→Option Blk},keysB n i l=true→∀ j k,find l j=some k→app hp (edH g l) (ren g j)=some (k.ren (ren g)):=by
 intro l
 induction l with
 | nil=>intro i hp _ j k h; cases h
 | cons b l ih =>
  intro i hp h j k hf
  have hmem:=keysB_mem h
  have hj:=(keysB_find h j).1 (by rw [hf]; simp)
  simp only [keysB,Bool.and_eq_true] at h
  have hb:=Nat.eq_of_beq_eq_true h.1
  show app (upd hp (ren g b.1) (some (b.2.ren (ren g)))) (edH g l) (ren g j)=_
  unfold find at hf
  split at hf
  ·rename_i hk
   have hk:=Nat.eq_of_beq_eq_true hk
   obtain rfl:=Option.some.inj hf
   rw [app_out (fun e he=>?_),← hk,upd_same]
   obtain ⟨b',hb',rfl⟩:=List.mem_map.1 he
   have h1:=keysB_mem h.2 b' hb'
   intro e
   have:=hinj b'.1 j h1.2 hj.2 e
   omega
  ·exact ih h.2 j k hf
theorem injB_sound {g:List (Nat × Nat)} {n:Nat} (h:injB g n=true):∀ i j,i<n→j<n→ren g i=ren g j→i=j:=by
 intro i j hi hj e
 have h1:=List.all_eq_true.1 (List.all_eq_true.1 h i (List.mem_range.2 hi)) j (List.mem_range.2 hj)
 simp only [Bool.or_eq_true,Bool.not_eq_true'] at h1
 rcases h1 with h1 | h1
 ·exact Nat.eq_of_beq_eq_true h1
 ·rw [e] at h1; simp at h1
theorem RB.flat {P:Program} {ρ:Nat→Value} {w:World} {I I':Nat→Prop} {v:Value} {k:Blk} (hf:(match k with | .cells t _=>t.flat | .row e _ _=>e.flat)=true) (h:RB P ρ w I v k):RB P ρ w I' v k:=by
 cases k with
 | cells t x =>
  obtain ⟨r,tid,cur,h1,h2,h3⟩:=h
  exact ⟨r,tid,cur,h1,h2,h3.flat hf⟩
 | row e l tid =>
  obtain ⟨xs,h1,h2⟩:=h
  exact ⟨xs,h1,Rd.flat (t:=.arr l.length e) hf h2⟩
end
section
variable {cx:Cx} {s:St} {o:Oper} {nid:Nat} {c:Ctx}
theorem run_callH {P:Program} {a:Act} {w:World} {x:Operand} {args:List Operand} {ts:Array TypeId} (ho:o.op=.call { callee:=.value x,args:=args.toArray,argTypes:=ts }) {f:FuncId} {caps:Array Value}
  (hx:a.eval x=.func (.func f) #[] caps):(execOp a.eval o).run P w=(callFunc f ((args.map a.eval).toArray++caps)).run P w:=by
 simp [execOp,ho,resolve,hx,Deferred.ofValue,invoke]
theorem Rs.vals_of_okH {P:Program} {w w':World} {ok X:Nat→Prop} {nid:Nat} {rs:Rs} {y:rs.den} {v:Value} (hok:rs.ok P w w' ok X y v) :
  ∃ vs:List Value,rs.vals P w w' ok X y vs∧∀ (ρ':Nat→Value) (I':Nat→Prop),Fits P w' ρ' I' (rs.avs nid y) vs→RV P ρ' w' I' (rs.av nid y) v:=by
 cases rs with
 | none =>
  obtain ⟨vs,rfl,hvs⟩:=hok
  exact ⟨vs,hvs,fun ρ' I' hfit=>⟨vs,rfl,hfit.1,hfit.2⟩⟩
 | one r =>
  refine ⟨[v],⟨v,rfl,hok⟩,fun ρ' I' hfit=>?_⟩
  cases r with
  | dp t=>exact hfit.2 0 _ _ rfl rfl
  | ow e tid=>exact hfit.2 0 _ _ rfl rfl
  | dn e =>
   have hok:RdV _ (.slice e) ρ0 _ _ y v∧(y=([]:List e.den)→v=.slice Option.none 0 0):=hok
   match y,hok,hfit with
   | [],hok,_=>exact hok.2 rfl
   | a :: l,_,hfit=>exact hfit.2 0 _ _ rfl rfl
 | more r rs =>
  obtain ⟨vs,rfl,hvs⟩:=hok
  exact ⟨vs,hvs,fun ρ' I' hfit=>⟨vs,rfl,hfit.1,hfit.2⟩⟩
theorem av_norefs {nid:Nat} {rs:Rs} {y:rs.den} (ho:rs.ows=0) (h:∀ t∈rs.avs nid y,t.t.refs t.x=[]):(rs.av nid y).refs=[]:=by
 cases rs with
 | none=>rfl
 | one r' =>
  cases r' with
  | dp tt=>exact h _ (List.mem_singleton.2 rfl)
  | ow e' tid'=>simp [Rs.ows,RT.ows] at ho
  | dn e' =>
   match y,h with
   | [],_=>rfl
   | a :: l,h=>exact h _ (List.mem_singleton.2 rfl)
 | more r' rs' =>
  refine List.eq_nil_iff_forall_not_mem.2 fun b hb=>?_
  obtain ⟨tt,ht,hbt⟩:=List.mem_flatMap.1 hb
  rw [h tt ht] at hbt
  cases hbt
theorem ok_pCallH {hp:Nat→Option Blk} (hhp:∀ b k,hp b=some k→s.hp b=some k) {x:Operand} {args:List Operand} {ts:Array TypeId} {f:FuncId × List Ptr} {h:HSp} {g:List (Nat × Nat)} {X:h.xs.den} {Y:h.ys.den}
  (ho:o.op=.call { callee:=.value x,args:=args.toArray,argTypes:=ts }) (hx:s.ev x=.val .clo f) (hc:FnsOk cx.P c) (hfn:HOk0 cx.P f.1 h) :
  OpOk cx o s nid (pCallH c hp nid h (args.map s.ev++f.2.map AV.ofPtr) f.2 g X Y):=by
 unfold pCallH
 split
 ·rename_i hb
  simp only [Bool.and_eq_true,Bool.or_eq_true,Bool.not_eq_true'] at hb
  obtain ⟨hokB,hpostB,hinj,hlent,hcaps,_⟩:=hb
  have hinj:=injB_sound hinj
  intro ρ F a w next Q hM hnF hob hn
  obtain ⟨hma,hmb,hg⟩:=hob
  have hok1:=hokB
  have hpo1:=hpostB
  simp only [HSp.okB,Bool.and_eq_true] at hok1
  simp only [HSp.postB,Bool.and_eq_true] at hpo1
  obtain ⟨hk0,hr0,_⟩:=hok1
  obtain ⟨hk1,hr1,hdeep,hows⟩:=hpo1
  have hows:=Nat.eq_of_beq_eq_true hows
  have hpre:∀ j k,find (h.pre X) j=some k→s.hp (ren g j)=some (k.ren (ren g)):=by
   intro j k hj
   have:=find_of_map (g:=fun b:Nat × Blk=>some (b.2.ren (ren g))) (h:=fun b=>hp (ren g b)) hmb hj
   exact hhp _ _ this.symm
  have hin:∀ j,j<h.np→∃ k,find (h.pre X) j=some k∧s.hp (ren g j)=some (k.ren (ren g)):=fun j hj=>by
   obtain ⟨k,hk⟩:=keysB_some hk0 hj
   exact ⟨k,hk,hpre j k hk⟩
  let Z:Nat→Prop:=fun r=>∃ j,j<h.np∧real (ρ (ren g j))=some r
  have hls:Less cx ρ s (lessH g h.np hp) Z:=by
   have hsub:∀ b k,lessH g h.np hp b=some k→s.hp b=some k∧∀ j,j<h.np→ren g j≠b:=by
    intro b k hbk
    unfold lessH at hbk
    split at hbk
    ·cases hbk
    ·rename_i hf
     refine ⟨hhp _ _ hbk,fun j hj e=>?_⟩
     have:((List.range h.np).any fun j=>Nat.beq (ren g j) b)=true:=List.any_eq_true.2 ⟨j,List.mem_range.2 hj,by rw [e]; exact Nat.beq_refl _⟩
     rw [this] at hf
     cases hf
   refine ⟨fun b k hbk=>(hsub b k hbk).1,fun b k r hbk hr ⟨j,hj,hjr⟩=>?_,fun r ⟨j,hj,hjr⟩ hi=>?_⟩
   ·obtain ⟨k',_,hk'⟩:=hin j hj
    exact (hsub b k hbk).2 j hj (hM.sep b (ren g j) _ _ r (hsub b k hbk).1 hk' hr hjr).symm
   ·obtain ⟨k',_,hk'⟩:=hin j hj
    exact hi.2 _ _ hk' hjr
  have hcg:∀ p∈f.2,p.good ρ:=by
   intro p hp'
   have:=List.all_eq_true.1 hcaps p hp'
   split at this
   ·rename_i t y hk
    obtain ⟨r,tid,cur,hv,_⟩:=hM.blks p.b _ (hhp _ _ hk)
    exact ⟨⟨r,0,none⟩,rfl,fun q hq=>by unfold Ptr.val; rw [hq,hv]⟩
   ·cases this
  have hargs:=args_fit (vs:=args.map a.eval++f.2.map (·.val ρ)) hc hM hls (datLent (h.args X) (args.map s.ev++f.2.map AV.ofPtr)) (by simp) (fun i u v hu hv=>by
    by_cases hi:i<args.length
    ·rw [List.getElem?_append_left (by simpa using hi)] at hu hv
     exact evs_ok hM args i u v hu hv
    ·rw [List.getElem?_append_right (by simpa using hi)] at hu hv
     simp only [List.length_map] at hu hv
     rw [List.getElem?_map] at hu hv
     obtain ⟨z,hz,rfl⟩:=Option.map_eq_some_iff.1 hu
     rw [hz] at hv
     obtain rfl:=Option.some.inj hv
     exact RV_of_ptr (hcg z (List.mem_of_getElem? hz))) hma (fun h=>h)
  generalize hld:datLent (h.args X) (args.map s.ev++f.2.map AV.ofPtr)=lent at hlent hargs
  have hinv:=hfn w (okX cx ρ s w lent Z) (fun b=>ρ (ren g b)) X Y (args.map a.eval++f.2.map (·.val ρ))
   (fun b hb=>⟨hb.1.1,fun j hj e=>hb.2 ⟨j,hj,e⟩⟩)
   (fun i j r hi hj h1 h2=>by
    obtain ⟨k1,_,hk1⟩:=hin i hi
    obtain ⟨k2,_,hk2⟩:=hin j hj
    exact hinj i j hi hj (hM.sep _ _ _ _ r hk1 hk2 h1 h2))
   (fun j=>hM.rho _)
   (fun j k hj=>(RB.ren (hM.blks _ _ (hpre j k hj))).mono (fun _ _=>rfl) (Pres.refl _ _) (okX_of_I hls) (fun _ _=>rfl))
   hargs hokB hpostB hg
  unfold Oper.wp
  rw [run_callH ho (RV_clo (by have:=(hM.ev x).1; rw [hx] at this; exact this))]
  have e:(args.map a.eval).toArray++(f.2.map (·.val ρ)).toArray=(args.map a.eval++f.2.map (·.val ρ)).toArray:=by simp
  rw [e]
  refine hinv o a next Q fun v w' ⟨X',hblk',hok',hbx⟩=>?_
  have hkeys:∀ e∈edH g (h.fin X Y),∃ j,j<h.np∧e.1=ren g j:=by
   intro e he
   obtain ⟨b,hb,rfl⟩:=List.mem_map.1 he
   exact ⟨b.1,(keysB_mem hk1 b hb).2,rfl⟩
  have hcase:∀ b k,app s.hp (edH g (h.fin X Y)) b=some k→(∃ j k',j<h.np∧b=ren g j∧find (h.fin X Y) j=some k'∧k=k'.ren (ren g))∨((∀ j,j<h.np→b≠ren g j)∧s.hp b=some k):=by
   intro b k hk
   by_cases hq:∃ j,j<h.np∧b=ren g j
   ·obtain ⟨j,hj,rfl⟩:=hq
    obtain ⟨k',hk'⟩:=keysB_some hk1 hj
    rw [app_edH hinj hk1 j k' hk'] at hk
    exact .inl ⟨j,k',hj,rfl,hk',(Option.some.inj hk).symm⟩
   ·have hq':∀ j,j<h.np→b≠ren g j:=fun j hj e=>hq ⟨j,hj,e⟩
    rw [app_out (fun e he=>by
     obtain ⟨j,hj,e1⟩:=hkeys e he
     rw [e1]
     exact fun e2=>hq' j hj e2.symm)] at hk
    exact .inr ⟨hq',hk⟩
  have hdom:∀ b k,app s.hp (edH g (h.fin X Y)) b=some k→∃ k0,s.hp b=some k0:=by
   intro b k hk
   rcases hcase b k hk with ⟨j,_,hj,rfl,_⟩ | ⟨_,h2⟩
   ·obtain ⟨k0,_,hk0⟩:=hin j hj
    exact ⟨_,hk0⟩
   ·exact ⟨_,h2⟩
  have hI:∀ r,r<w.heap.size→cx.I ρ s r→cx.I ρ ⟨s.sl,app s.hp (edH g (h.fin X Y)),s.ok⟩ r:=by
   intro r _ hi
   refine ⟨hi.1,fun b k hk hr=>?_⟩
   obtain ⟨k0,hk0⟩:=hdom b k hk
   exact hi.2 b k0 hk0 hr
  have hkeep:∀ r,r<w.heap.size→(cx.I ρ s r∨(r<cx.w0.heap.size∧¬ cx.E r))→w'.heap[r]?=w.heap[r]?:=by
   intro r hr hh
   refine hbx.block r hr fun ⟨j,hj,hjr⟩=>?_
   obtain ⟨k0,_,hk0⟩:=hin j hj
   rcases hh with hh | ⟨h1,h2⟩
   ·exact hh.2 _ _ hk0 hjr
   ·rcases (hM.fresh _ _ r hk0 hjr).1 with h3 | h3
    ·exact h3.elim (fun h=>by omega) (fun h=>h2 (.inr h))
    ·exact h2 h3.1
  have hset:∀ q,q<w'.heap.size→(lent=false)→((okX cx ρ s w lent Z q∨w.heap.size≤q)∧¬ X' q)→cx.I ρ ⟨s.sl,app s.hp (edH g (h.fin X Y)),s.ok⟩ q:=by
   intro q _ hl hq
   rcases hq.1 with hq | hq
   ·exact hI q hq.1.1 (hq.1.2.resolve_left (by rw [hl]; simp))
   ·refine ⟨.inr (.inl (Nat.le_trans hM.size hq)),fun b k hk hr=>?_⟩
    obtain ⟨k0,hk0⟩:=hdom b k hk
    have:=hM.owned_lt hk0 hr
    omega
  have hpres:Pres (cx.I ρ s) w w':=⟨hbx.size,fun r hr hi=>hkeep r hr (.inl hi)⟩
  have hM':M cx ρ F ⟨s.sl,app s.hp (edH g (h.fin X Y)),s.ok⟩ a w':=by
   refine M.turn hM s.ok (fun _ _=>rfl) (fun _ h=>h) hbx.os hbx.tape hbx.output hbx.size hkeep hI ?_ ?_ ?_ ?_ hM.rho
   ·intro b k hk
    rcases hcase b k hk with ⟨j,k',hj,rfl,hk',rfl⟩ | ⟨h1,h2⟩
    ·have h3:=hblk' j k' hk'
     cases hl:lent with
     | false=>exact RB.unren (h3.mono (fun _ _=>rfl) (Pres.refl _ _) (fun q hq hi=>hset q hq hl hi) (fun _ _=>rfl))
     | true =>
      rcases hlent with h4 | h4
      ·rw [hl] at h4; cases h4
      ·exact RB.unren (RB.flat (List.all_eq_true.1 h4.2 _ (find_mem hk')) h3)
    ·exact (hM.blks b k h2).mono (fun _ _=>rfl) hpres hI (fun r hr=>hbx.block r (hM.owned_lt h2 hr) fun ⟨j,hj,hjr⟩=>by
      obtain ⟨k0,_,hk0⟩:=hin j hj
      exact h1 j hj (hM.sep b (ren g j) _ _ r h2 hk0 hr hjr))
   ·intro b b' k k' r h1 h2 h3 h4
    obtain ⟨k1,hk1⟩:=hdom b k h1
    obtain ⟨k2,hk2⟩:=hdom b' k' h2
    exact hM.sep b b' k1 k2 r hk1 hk2 h3 h4
   ·intro b k r h1 h2
    obtain ⟨k1,hk1⟩:=hdom b k h1
    have:=hM.fresh b k1 r hk1 h2
    exact ⟨this.1,Nat.lt_of_lt_of_le this.2 hbx.size⟩
   ·intro b k hk
    rcases hcase b k hk with ⟨j,k',hj,rfl,hk',rfl⟩ | ⟨h1,h2⟩
    ·obtain ⟨k0,_,hk0⟩:=hin j hj
     refine ⟨(hM.brefs _ _ hk0).1,fun d hd=>?_⟩
     obtain ⟨d',hd',rfl⟩:=Blk.ren_refs hd
     have:=blt_true (List.all_eq_true.1 (List.all_eq_true.1 hr1 _ (find_mem hk')) d' hd')
     obtain ⟨k1,_,hk1⟩:=hin d' this
     exact (hM.brefs _ _ hk1).1
    ·exact hM.brefs b k h2
  obtain ⟨vs,hvs,hfit⟩:=Rs.vals_of_okH (nid:=nid) hok'
  obtain ⟨_,h1r,h2⟩:=vals0 (lent:=lent) nid hvs hows hdeep (fun hl=>by
   rcases hlent with h4 | h4
   ·rw [hl] at h4; cases h4
   ·exact h4.1)
  have hfits:=h2 ρ (cx.I ρ ⟨s.sl,app s.hp (edH g (h.fin X Y)),s.ok⟩) (by
   intro tt yy vv hdp hfl ⟨cc,hcv,hcc⟩
   refine ⟨cc,hcv,?_⟩
   cases hl:lent with
   | true=>exact hcc.flat (hfl hl)
   | false=>exact (hcc.rho (fun b hb=>by rw [Ty.deep_refs hdp] at hb; cases hb)).mono (Pres.refl _ _) fun q hq hi=>hset q hq hl hi)
  have heq:app s.hp (match h.ro with | true=>[] | false=>(h.post X Y).map (fun b=>(ren g b.1,some (b.2.ren (ren g)))))=app s.hp (edH g (h.fin X Y)):=by
   unfold HSp.fin
   cases hro:h.ro with
   | false=>rfl
   | true =>
    funext b
    show s.hp b=app s.hp (edH g (h.pre X)) b
    by_cases hq:∃ j,j<h.np∧b=ren g j
    ·obtain ⟨j,hj,rfl⟩:=hq
     obtain ⟨k,hk,hk'⟩:=hin j hj
     rw [app_edH hinj hk0 j k hk,hk']
    ·rw [app_out (fun e he=>by
      obtain ⟨b',hb',rfl⟩:=List.mem_map.1 he
      exact fun e2=>hq ⟨b'.1,(keysB_mem hk0 b' hb').2,e2.symm⟩)]
  refine hn ρ v w' ?_
  show M cx ρ _ ⟨putS cx.n s.sl o.dst _,app s.hp (match h.ro with | true=>[] | false=>(h.post X Y).map (fun b=>(ren g b.1,some (b.2.ren (ren g))))),s.ok⟩ _ w'
  rw [heq]
  refine (M.put hM' o.dst (hfit ρ _ hfits) (fun b hb=>?_) s.ok).widen (fun b hb=>.inl hb)
  rw [av_norefs hows h1r] at hb
  cases hb
 ·exact bad_ok
end
end Go.Sx
namespace Go.Sx
theorem foldl_put (off:Nat):∀ (u:List Value) (k:Nat) (cs:Array Value) (pre old post:List Value),cs.toList=pre++old++post→old.length=u.length→pre.length=off+k →
  ((u.zipIdx k).foldl (fun cs (x:Value × Nat)=>cs.setIfInBounds (off+x.2) x.1) cs).toList=pre++u++post:=by
 intro u
 induction u with
 | nil =>
  intro k cs pre old post h1 h2 _
  have:old=[]:=List.eq_nil_of_length_eq_zero h2
  subst this
  simpa using h1
 | cons c u ih =>
  intro k cs pre old post h1 h2 h3
  cases old with
  | nil=>simp at h2
  | cons o old =>
   simp only [List.zipIdx_cons,List.foldl_cons]
   have:=ih (k+1) (cs.setIfInBounds (off+k) c) (pre++[c]) old post (by
    rw [Array.toList_setIfInBounds,h1,← h3]
    simp) (by simpa using h2) (by simp [h3]; omega)
   rw [this]
   simp
theorem fill_step {place:Nat→Option (Nat × Nat)} {cells:Array Value} {i:Nat} {v:Value} {rest:List (Nat × Value)} {off size:Nat} {pre old post:List Value} (hp:place i=some (off,size)) (hv:v.cells.size=size)
  (hc:cells.toList=pre++old++post) (ho:old.length=size) (hpre:pre.length=off) :
  ∃ cells',Instr.fill place cells ((i,v) :: rest)=Instr.fill place cells' rest∧cells'.toList=pre++v.cells.toList++post:=by
 refine ⟨_,?_,foldl_put off v.cells.toList 0 cells pre old post hc (by simp [ho,hv]) (by simp [hpre])⟩
 have hsz:¬ (v.cells.size≠size∨off+v.cells.size > cells.size):=by
  have:cells.size=cells.toList.length:=by simp
  rw [this,hc]
  simp only [List.length_append]
  omega
 have e:v.cells.zipIdx.foldl (fun cs (x:Value × Nat)=>cs.setIfInBounds (off+x.2) x.1) cells=(v.cells.toList.zipIdx 0).foldl (fun cs (x:Value × Nat)=>cs.setIfInBounds (off+x.2) x.1) cells:=by
  rw [← Array.foldl_toList,Array.toList_zipIdx]
 conv=>lhs; unfold Instr.fill
 simp only [hp]
 have hd:(decide (v.cells.size≠size) || decide (off+v.cells.size > cells.size))=false:=by
  rw [Bool.or_eq_false_iff]
  exact ⟨decide_eq_false fun h=>hsz (.inl h),decide_eq_false fun h=>hsz (.inr h)⟩
 rw [if_neg (by rw [hd]; exact Bool.false_ne_true),← e]
theorem mkV_cells_size {P:Program} {t:Ty} {ρ:Nat→Value} {w:World} {I:Nat→Prop} {x:t.den} {v:Value} (h:RdV P t ρ w I x v) (hρ:∀ b,(ρ b).oneCell'=true):v.cells.size=t.size:=by
 have:=(RdV.cells h hρ).length
 simpa using this
section
variable {cx:Cx} {ρ:Nat→Value} {F:Nat→Prop} {s:St} {a:Act} {w:World} {c:Ctx}
theorem elems_sound (hM:M cx ρ F s a w) {e:Ty} {n:Nat}:∀ {ps:List (Nat × Operand)} {l l':List e.den} {cells:Array Value},pElems e n l (ps.map fun p=>(p.1,s.ev p.2))=some l' →
  Rd cx.P (.arr n e) false ρ w (cx.I ρ s) l cells.toList→(∀ b∈(Ty.arr n e).refs l,F b) →
  ∃ cells',Instr.fill (fun i=>some (i*e.size,e.size)) cells (ps.map fun p=>(p.1,a.eval p.2))=some cells'∧Rd cx.P (.arr n e) false ρ w (cx.I ρ s) l' cells'.toList∧(∀ b∈(Ty.arr n e).refs l',F b)∧l'.length=l.length:=by
 intro ps
 induction ps with
 | nil =>
  intro l l' cells h hr hF
  obtain rfl:=Option.some.inj h
  exact ⟨cells,rfl,hr,hF,rfl⟩
 | cons p ps ih =>
  intro l l' cells h hr hF
  simp only [List.map_cons] at h
  unfold pElems at h
  split at h
  ·rename_i hlt
   split at h
   ·rename_i y hy
    have hi:=blt_true hlt
    obtain ⟨hyv,hyr⟩:=coe_sound (hM.ev p.2).1 hy
    obtain ⟨pre,ci,post,h1,h2,h3,h4⟩:=elemAt hr hi e.zero
    obtain ⟨cells',hf,hc'⟩:=fill_step (place:=fun i=>some (i*e.size,e.size)) (i:=p.1) (v:=a.eval p.2) (rest:=ps.map fun p=>(p.1,a.eval p.2)) rfl (mkV_cells_size hyv hM.rho) h1 h3.length h2
    have hr':=h4 y _ (RdV.cells hyv hM.rho)
    rw [← hc'] at hr'
    have hF':∀ b∈(Ty.arr n e).refs (l.set p.1 y:List e.den),F b:=by
     intro b hb
     obtain ⟨x,hx,hbx⟩:=refs_arr_mem hb
     rcases List.mem_or_eq_of_mem_set hx with hx | hx
     ·exact hF b (refs_arr_of hx hbx)
     ·subst hx
      exact (hM.ev p.2).2 b (hyr b hbx)
    obtain ⟨cells'',hf',hr'',hF'',hl⟩:=ih h hr' hF'
    refine ⟨cells'',?_,hr'',hF'',by rw [hl,List.length_set]⟩
    rw [List.map_cons,hf]
    exact hf'
   ·cases h
  ·cases h
theorem parts_sound (hT:TOk cx.P c) (hM:M cx ρ F s a w) {fs:Array Field} {places:List (Nat × Nat)} (hpl:placesOf cx.P fs.toList=some places) {ty:Ty}:∀ {ps:List (Nat × Operand)} {x x':ty.den} {cells:Array Value},
  pParts c fs ty x (ps.map fun p=>(p.1,s.ev p.2))=some x'→Rd cx.P ty false ρ w (cx.I ρ s) x cells.toList→(∀ b∈ty.refs x,F b) →
  ∃ cells',Instr.fill (places.toArray[·]?) cells (ps.map fun p=>(p.1,a.eval p.2))=some cells'∧Rd cx.P ty false ρ w (cx.I ρ s) x' cells'.toList∧(∀ b∈ty.refs x',F b):=by
 intro ps
 induction ps with
 | nil =>
  intro x x' cells h hr hF
  obtain rfl:=Option.some.inj h
  exact ⟨cells,rfl,hr,hF⟩
 | cons p ps ih =>
  intro x x' cells h hr hF
  simp only [List.map_cons] at h
  unfold pParts at h
  split at h
  ·rename_i f hf
   split at h
   ·rename_i ft hft
    split at h
    ·rename_i y hy
     split at h
     ·rename_i x1 hx1
      obtain ⟨hyv,hyr⟩:=coe_sound (hM.ev p.2).1 hy
      obtain ⟨pre,ci,post,h1,h2,h3,h4⟩:=setc_sound hr hx1 (RdV.cells hyv hM.rho)
      obtain ⟨i,_,hi,hsz,_⟩:=tyOk_sound (hT _ _ (find_mem hft))
      have hplace:places.toArray[p.1]?=some (f.offset,ft.size):=by
       have hf':fs.toList[p.1]?=some f:=by simpa using hf
       have key:∀ (l:List Field) (pl:List (Nat × Nat)),placesOf cx.P l=some pl→∀ (j:Nat) (g:Field),l[j]?=some g→pl[j]?=(cx.P.info? g.type).map fun i=>(g.offset,i.size):=by
        intro l
        induction l with
        | nil=>intro pl _ j g hg; simp at hg
        | cons f0 l ihl =>
         intro pl hpl j g hg
         unfold placesOf at hpl
         rw [List.mapM_cons] at hpl
         simp only [Option.bind_eq_bind,Option.pure_def] at hpl
         obtain ⟨q,hq,hpl⟩:=Option.bind_eq_some_iff.1 hpl
         obtain ⟨rest,hrest,hpl⟩:=Option.bind_eq_some_iff.1 hpl
         obtain rfl:=Option.some.inj hpl
         cases j with
         | zero =>
          simp only [List.getElem?_cons_zero,Option.some.injEq] at hg ⊢
          subst hg
          exact hq.symm
         | succ j=>simpa using ihl rest hrest j g (by simpa using hg)
       have:=key _ _ hpl _ _ hf'
       rw [hi] at this
       simpa [hsz] using this
      obtain ⟨cells',hfl,hc'⟩:=fill_step (place:=(places.toArray[·]?)) (i:=p.1) (v:=a.eval p.2) (rest:=ps.map fun p=>(p.1,a.eval p.2)) hplace (mkV_cells_size hyv hM.rho) h1 (by rw [h3]; exact (RdV.cells hyv hM.rho).length) h2
      rw [← hc'] at h4
      have hF':∀ b∈ty.refs x1,F b:=by
       intro b hb
       rcases refs_setc hx1 b hb with h | h
       ·exact hF b h
       ·exact (hM.ev p.2).2 b (hyr b h)
      obtain ⟨cells'',hf',hr'',hF''⟩:=ih h h4 hF'
      refine ⟨cells'',?_,hr'',hF''⟩
      rw [List.map_cons,hfl]
      exact hf'
     ·cases h
    ·cases h
   ·cases h
  ·cases h
theorem RdV_agg {P:Program} {t:Ty} (ht:t.agg=true) {x:t.den} {I:Nat→Prop} {cells:Array Value} (h:Rd P t false ρ w I x cells.toList):RdV P t ρ w I x (.agg cells) :=
 ⟨cells.toList,by simp [mkV,ht],h⟩
theorem map_parts (parts:Array (Nat × Operand)) (f:Operand→Value):(parts.map fun (i,x)=>(i,f x)).toList=parts.toList.map fun p=>(p.1,f p.2):=by
 rw [Array.toList_map]
variable {o:Oper} {nid:Nat}
theorem ok_build {t:TypeId} {parts:Array (Nat × Operand)} (ho:o.op=.build t parts) (hT:TOk cx.P c):OpOk cx o s nid (pBuild cx.P c t (parts.toList.map fun p=>(p.1,s.ev p.2))):=by
 unfold pBuild
 split
 ·exact bad_ok
 ·rename_i ty hty
  split
  ·exact bad_ok
  ·rename_i hz
   have hok:=hT _ _ (find_mem hty)
   split
   ·rename_i fs hu
    split
    ·exact bad_ok
    ·rename_i places hpl
     split
     ·rename_i y hy
      refine ok_value rfl fun ρ F a w hM _=>?_
      obtain ⟨i,z,hi,hzz,hR⟩:=zeroOk_sound (P:=cx.P) (ρ:=ρ) (w:=w) (I:=cx.I ρ s) hz
      obtain ⟨cells,hf,hr,hF⟩:=parts_sound hT hM hpl hy hR (fun b hb=>by rw [refs_zeroOk hz] at hb; cases hb)
      have hagg:ty.agg=true:=by
       unfold tyOk at hok
       rw [hi,hu] at hok
       simp only [Bool.and_eq_true] at hok
       exact hok.2
      refine ⟨.agg cells,?_,RdV_agg hagg hr,hF⟩
      have hb:cx.P.built t (parts.map fun (i,x)=>(i,a.eval x)).toList=some cells:=by
       rw [map_parts]
       unfold Program.built
       unfold placesOf at hpl
       simp only [hi,hu,hzz,hpl]
       exact hf
      simp only [execOp,ho,Sem.run_bind,run_build w t _ cells hb,Result.andThen_ok,Sem.run_pure]
     ·exact bad_ok
   ·rename_i n0 et hu
    split
    ·rename_i n e
     split
     ·rename_i hte
      split
      ·rename_i l hl
       refine ok_value rfl fun ρ F a w hM _=>?_
       obtain ⟨i,z,hi,hzz,hR⟩:=zeroOk_sound (P:=cx.P) (ρ:=ρ) (w:=w) (I:=cx.I ρ s) hz
       obtain ⟨ie,_,hie,hsz,_⟩:=tyOk_sound hte
       obtain ⟨cells,hf,hr,hF,_⟩:=elems_sound hM hl (cells:=z.cells) hR (fun b hb=>by rw [show (Ty.arr n e).refs (List.replicate n e.zero:List e.den)=[] from refs_zeroOk (ty:=.arr n e) hz] at hb; cases hb)
       refine ⟨.agg cells,?_,RdV_agg rfl hr,hF⟩
       have hb:cx.P.built t (parts.map fun (i,x)=>(i,a.eval x)).toList=some cells:=by
        rw [map_parts]
        unfold Program.built
        simp only [hi,hu,hzz,hie]
        rw [hsz]
        exact hf
       simp only [execOp,ho,Sem.run_bind,run_build w t _ cells hb,Result.andThen_ok,Sem.run_pure]
      ·exact bad_ok
     ·exact bad_ok
    ·exact bad_ok
   ·exact bad_ok
theorem run_buildSlice_zero {P:Program} (w:World) (t e:TypeId) (parts:Array (Nat × Value)) (cells:Array Value) (ie:TypeInfo)
  (hu:P.underlying t=some (.slice e)) (hie:P.info? e=some ie) (h:Instr.fill (fun i=>some (i*ie.size,ie.size)) #[] parts.toList=some cells) :
  (Instr.buildSlice t 0 parts).run P w=.ok (.slice (some ⟨w.heap.size,0,none⟩) 0 0) (w.alloc (.cells cells e)):=by
 have e0:(Array.map (fun _=>(default:Value)) (Array.range 0))=#[]:=by simp
 simp [Instr.buildSlice,run_underlying hu,sizeOf,typeInfo,hie,newRow,e0,h]
theorem zeros_flatten {z:Array Value} {m:Nat} (hzs:z.size=m):∀ len,((Array.range (len*m)).map (z[· % m]!)).toList=(List.replicate len z.toList).flatten:=by
 intro len
 induction len with
 | zero=>simp
 | succ len ih =>
  rw [List.replicate_succ',List.flatten_append,← ih]
  simp only [Array.toList_map,Array.toList_range,List.flatten_singleton]
  rw [Nat.succ_mul,List.range_add,List.map_append,List.map_map]
  congr 1
  apply List.ext_getElem
  ·simp [hzs]
  ·intro j h1 h2
   have hj:j<m:=by simpa using h1
   simp only [List.getElem_map,List.getElem_range,Function.comp]
   rw [Nat.add_comm,Nat.add_mul_mod_self_right,Nat.mod_eq_of_lt hj]
   simp [hzs,hj]
theorem row_of_cells {e:Ty} {et:TypeId} {n:Nat} {l:List e.den} {cells:Array Value} (hl:l.length=n) (hm:n≤maxLen) (hr:Rd cx.P (.arr n e) false ρ w (cx.I ρ s) l cells.toList) :
  World.rowOf (w.alloc (.cells cells et)) 0 et e.size (.slice (some ⟨w.heap.size,0,none⟩) n n) l.length cells.toList:=by
 refine World.rowOf_of ?_
 have hlen:cells.toList.length=n*e.size:=hr.length
 refine ⟨by rw [hlen,hl],.inr ⟨w.heap.size,n,cells,by rw [hl],Nat.zero_le _,heap_alloc_self _ _,by omega,hm,by simpa using hlen,?_⟩⟩
 rw [hl,← hlen]
 exact List.take_length
theorem made_Rd {P:Program} {ρ:Nat→Value} {w:World} {I:Nat→Prop} {e:Ty} {z:Value} {i:TypeInfo} (hsz:i.size=e.size) (hzs:z.cells.size=e.size) (hR:Rd P e false ρ w I e.zero z.cells.toList) (N:Nat) :
  Rd P (.arr N e) false ρ w I (List.replicate N e.zero:List e.den) (madeCells z.cells (N*i.size)).toList:=by
 refine ⟨by simp,List.replicate N z.cells.toList,?_,by simp,fun i x c hx hc=>?_⟩
 ·unfold madeCells
  rw [hsz,hzs]
  exact zeros_flatten hzs N
 ·have hx:=List.eq_of_mem_replicate (List.mem_of_getElem? hx)
  have hc:=List.eq_of_mem_replicate (List.mem_of_getElem? hc)
  subst hx hc
  exact hR
theorem ok_makeSlice {t:TypeId} {x y:Operand} (ho:o.op=.makeSlice t x y) (hT:TOk cx.P c) :
  OpOk cx o s nid (pMakeSlice cx.P c nid t (s.ev x) (s.ev y)):=by
 unfold pMakeSlice
 split
 ·rename_i et hu
  split
  ·rename_i e i hty hie
   split
   ·exact bad_ok
   ·rename_i hz
    simp only [Bool.and_eq_true] at hz
    obtain ⟨hz,hpos,hdeep⟩:=hz
    have hpos:=blt_true hpos
    split
    ·rename_i k n k' m hx hy
     obtain ⟨ie,_,hie',hsz,_⟩:=tyOk_sound (hT _ _ (find_mem hty))
     obtain rfl:i=ie:=Option.some.inj (hie.symm.trans hie')
     intro ρ F a w next Q hM hnF hob hn
     have hob:mkOk i.bytes n m:=hob
     obtain ⟨hmn,h0,h9,hb⟩:=hob
     have hmn:(n:Int)=m:=hmn.symm
     subst hmn
     obtain ⟨i',z,hi,hzz,hR⟩:=zeroOk_sound (P:=cx.P) (ρ:=ρ) (w:=w) (I:=cx.I ρ s) hz
     obtain rfl:i=i':=Option.some.inj (hie.symm.trans hi)
     have hzs:z.cells.size=e.size:=by have:=hR.length; simpa using this
     have hrd:Rd cx.P (.arr (Int.toNat n) e) false ρ w (cx.I ρ s) (List.replicate (Int.toNat n) e.zero:List e.den) (madeCells z.cells (Int.toNat n*i.size)).toList:=made_Rd hsz hzs hR (Int.toNat n)
     have hrun:(execOp a.eval o).run cx.P w=.ok (.value (.slice (some ⟨w.heap.size,0,none⟩) n.toNat n.toNat)) (w.alloc (.cells (madeCells z.cells (n.toNat*i.size)) et)):=by
      simp only [execOp,ho,ev_int hM hx,ev_int hM hy,Sem.run_bind,run_make w t et i z hu hie hzz k k' n n h0 (Int.le_refl n) (by omega) (by omega),Result.andThen_ok,Sem.run_pure]
     have hlen:List.length (List.replicate n.toNat e.zero:List e.den)=n.toNat:=by simp
     unfold Oper.wp
     rw [hrun]
     refine hn (upd ρ nid (.slice (some ⟨w.heap.size,0,none⟩) n.toNat n.toNat)) _ _ ?_
     have hrd0:Rd cx.P (.arr (List.length (List.replicate n.toNat e.zero:List e.den)) e) false ρ0 w (cx.I ρ s) (List.replicate n.toNat e.zero:List e.den) (madeCells z.cells (n.toNat*i.size)).toList:=by
      have h1:=hrd.rho (ρ':=ρ0) (fun b hb=>by rw [show (Ty.arr n.toNat e).refs (List.replicate n.toNat e.zero:List e.den)=[] by simp [Ty.refs,hdeep]] at hb; cases hb)
      rw [hlen]; exact h1
     have hnew:=M.new (k:=.row e (List.replicate n.toNat e.zero) et) (v:=.slice (some ⟨w.heap.size,0,none⟩) n.toNat n.toNat) hM hnF s.ok (below_alloc w (.cells (madeCells z.cells (n.toNat*i.size)) et)) (fun r hr=>by
       obtain ⟨rfl,_⟩:=real_some hr
       exact ⟨Nat.le_refl _,by show _<(w.heap.push _).size; simp⟩) rfl
      ⟨(madeCells z.cells (n.toNat*i.size)).toList,row_of_cells hlen (by simp only [maxLen]; omega) hrd,hrd0.mono ⟨(below_alloc w _).size,fun r hr _=>(below_alloc w _).block r hr⟩ (fun r hr hi=>.inl ⟨hi,hr⟩)⟩ (fun b hb=>by cases hb)
     exact M.put hnew o.dst (av:=.val .own nid) ⟨[.slice (some ⟨w.heap.size,0,none⟩) n.toNat n.toNat],rfl,by show _=[upd ρ nid _ nid]; rw [upd_same]⟩ (fun b hb=>.inr (List.mem_singleton.1 hb)) s.ok
    ·exact bad_ok
  ·exact bad_ok
 ·exact bad_ok
theorem ok_buildSlice {t:TypeId} {len:Nat} {parts:Array (Nat × Operand)} {ans:Ans} (ho:o.op=.buildSlice t len parts) (hT:TOk cx.P c) :
  OpOk cx o s nid (pBuildSlice cx.P c nid t len (parts.toList.map fun p=>(p.1,s.ev p.2)) ans):=by
 unfold pBuildSlice
 split
 ·rename_i et hu
  split
  ·exact bad_ok
  ·rename_i e hty
   split
   ·exact bad_ok
   ·rename_i hz
    simp only [Bool.and_eq_true] at hz
    obtain ⟨hz,hpos,hsm,hmx,hdeep⟩:=hz
    have hpos:=blt_true hpos
    have hsm:=Nat.le_of_ble_eq_true hsm
    have hmx:=Nat.le_of_ble_eq_true hmx
    split
    ·exact bad_ok
    ·rename_i l hl
     obtain ⟨ie,_,hie,hsz,_⟩:=tyOk_sound (hT _ _ (find_mem hty))
     have main:∀ (ρ:Nat→Value) (F:Nat→Prop) (a:Act) (w:World),M cx ρ F s a w→∃ cells,(execOp a.eval o).run cx.P w=.ok (.value (.slice (some ⟨w.heap.size,0,none⟩) len len)) (w.alloc (.cells cells et)) ∧
       Rd cx.P (.arr len e) false ρ w (cx.I ρ s) l cells.toList∧l.length=len:=by
      intro ρ F a w hM
      obtain ⟨i,z,hi,hzz,hR⟩:=zeroOk_sound (P:=cx.P) (ρ:=ρ) (w:=w) (I:=cx.I ρ s) hz
      obtain rfl:ie=i:=Option.some.inj (hie.symm.trans hi)
      have hzs:z.cells.size=e.size:=by have:=hR.length; simpa using this
      have hr0:Rd cx.P (.arr len e) false ρ w (cx.I ρ s) (List.replicate len e.zero:List e.den) ((Array.range (len*ie.size)).map (z.cells[· % z.cells.size]!)).toList:=by
       refine ⟨by simp,List.replicate len z.cells.toList,?_,by simp,fun i x c hx hc=>?_⟩
       ·rw [hsz,hzs]
        exact zeros_flatten hzs len
       ·have hx:=List.eq_of_mem_replicate (List.mem_of_getElem? hx)
        have hc:=List.eq_of_mem_replicate (List.mem_of_getElem? hc)
        subst hx hc
        exact hR
      obtain ⟨cells,hf,hr,_,hlen⟩:=elems_sound hM hl hr0 (fun b hb=>by
       have:(Ty.arr len e).refs (List.replicate len e.zero:List e.den)=[]:=by simp [Ty.refs,hdeep]
       rw [this] at hb; cases hb)
      refine ⟨cells,?_,hr,by rw [hlen]; simp⟩
      have hsmall:¬ len*ie.size > 16777216:=by rw [hsz]; omega
      have hf':Instr.fill (fun i=>some (i*ie.size,ie.size)) ((Array.range (len*ie.size)).map (z.cells[· % z.cells.size]!)) (parts.map fun (i,x)=>(i,a.eval x)).toList=some cells:=by
       rw [map_parts,hsz]
       rw [hsz] at hf
       exact hf
      by_cases h0:len*ie.size=0
      ·have hlz:len=0:=by
        rcases Nat.mul_eq_zero.1 h0 with h | h
        ·exact h
        ·rw [hsz] at h; omega
       subst hlz
       have hf2:Instr.fill (fun i=>some (i*ie.size,ie.size)) #[] (parts.map fun (i,x)=>(i,a.eval x)).toList=some cells:=by
        rw [← hf']; congr 1; simp
       simp only [execOp,ho,Sem.run_bind,run_buildSlice_zero w t et _ cells ie hu hie hf2,Result.andThen_ok,Sem.run_pure]
      ·simp only [execOp,ho,Sem.run_bind,run_buildSlice w t et len _ cells ie z hu hie hzz (by omega) h0 hf',Result.andThen_ok,Sem.run_pure]
     split
     ·intro ρ F a w next Q hM hnF _ hn
      obtain ⟨cells,hr,hrd,hlen⟩:=main ρ F a w hM
      unfold Oper.wp
      rw [hr]
      refine hn (upd ρ nid (.slice (some ⟨w.heap.size,0,none⟩) len len)) _ _ ?_
      have hrd0:Rd cx.P (.arr l.length e) false ρ0 w (cx.I ρ s) l cells.toList:=by
       have h1:=hrd.rho (ρ':=ρ0) (fun b hb=>by rw [show (Ty.arr len e).refs l=[] by simp [Ty.refs,hdeep]] at hb; cases hb)
       rw [hlen]; exact h1
      have hnew:=M.new (k:=.row e l et) (v:=.slice (some ⟨w.heap.size,0,none⟩) len len) hM hnF s.ok (below_alloc w (.cells cells et)) (fun r hr=>by
        obtain ⟨rfl,_⟩:=real_some hr
        exact ⟨Nat.le_refl _,by show _<(w.heap.push _).size; simp⟩) rfl
       ⟨cells.toList,row_of_cells hlen (by simp only [maxLen]; omega) hrd,hrd0.mono ⟨(below_alloc w _).size,fun r hr _=>(below_alloc w _).block r hr⟩ (fun r hr hi=>.inl ⟨hi,hr⟩)⟩ (fun b hb=>by cases hb)
      exact M.put hnew o.dst (av:=.val .own nid) ⟨[.slice (some ⟨w.heap.size,0,none⟩) len len],rfl,by show _=[upd ρ nid _ nid]; rw [upd_same]⟩ (fun b hb=>.inr (List.mem_singleton.1 hb)) s.ok
     ·intro ρ F a w next Q hM hnF _ hn
      obtain ⟨cells,hr,hrd,hlen⟩:=main ρ F a w hM
      unfold Oper.wp
      rw [hr]
      refine hn ρ _ _ ?_
      have hw:=M.world hM (below_alloc w (.cells cells et))
      refine (M.put hw o.dst (av:=.val (.slice e) l) ⟨[.slice (some ⟨w.heap.size,0,none⟩) l.length len],by rw [hlen]; rfl,some ⟨w.heap.size,0,none⟩,len,rfl,by omega,?_⟩ (fun b hb=>by cases hb) s.ok).widen fun b hb=>.inl hb
      refine .inr ⟨_,rfl,rfl,⟨.inr (.inl hM.size),fun b k hk hrr=>?_⟩,by show _<(w.heap.push _).size; simp,fun i x hx=>?_⟩
      ·have:=(hM.fresh b k _ hk hrr).2
       simp only at this
       omega
      ·have hi:i<l.length:=(List.getElem?_eq_some_iff.1 hx).1
       obtain ⟨pre,ci,post,g1,g2,g3,_⟩:=elemAt hrd (i:=i) (by omega) e.zero
       have hyy:l.getD i e.zero=x:=by simp only [List.getD]; rw [show l[i]?=some x from hx]; rfl
       rw [hyy] at g3
       refine ⟨ci,?_,(g3.rho (fun b hb=>by rw [Ty.deep_refs hdeep] at hb; cases hb)).mono ⟨(below_alloc w _).size,fun r hr _=>(below_alloc w _).block r hr⟩ (fun r _ hi=>hi)⟩
       have:=CellsAt_of_row (w:=w.alloc (.cells cells et)) (heap_alloc_self w (.cells cells et)) g1
       rw [g2] at this
       rw [add_none,Nat.zero_add]
       exact this
     ·exact bad_ok
 ·exact bad_ok
end
end Go.Sx
namespace Go.Sx
theorem len_cut {α:Type} (l:List α) {p r:Nat} (h:r≤l.length):(List.drop p (List.take r l)).length=r - p:=by
 rw [List.length_drop,List.length_take]; omega
theorem cut_get {α:Type} (l:List α) {p r j:Nat} {y:α} (h:(List.drop p (List.take r l))[j]?=some y):l[p+j]?=some y:=by
 rw [List.getElem?_drop] at h
 have h1:=(List.getElem?_eq_some_iff.1 h).1
 simp only [List.length_take] at h1
 rw [List.getElem?_take_of_lt (by omega)] at h
 exact h
section
variable {P:Program}
theorem gather_news {w:World} {I:Nat→Prop} {ad:Addr} (hs:ad.spot=none) {e:Ty}:∀ (l:List e.den) (k:Nat),(∀ (i:Nat) (x:e.den),l[i]?=some x→∃ c,CellsAt w (ad.add ((k+i)*e.size)) c∧Rd P e false ρ0 w I x c) →
  ∃ news,Rd P (.arr l.length e) false ρ0 w I l news∧∀ j u,news[j]?=some u→w.cell? (ad.add (k*e.size+j))=some u:=by
 intro l
 induction l with
 | nil=>intro k _; exact ⟨[],⟨rfl,[],rfl,rfl,fun i x c hx=>by simp at hx⟩,fun j u h=>by simp at h⟩
 | cons x l ih =>
  intro k h
  obtain ⟨c,hc,hr⟩:=h 0 x rfl
  obtain ⟨news,⟨_,css,rfl,hn,hall⟩,hcell⟩:=ih (k+1) fun i y hy=>by
   have:=h (i+1) y (by simpa using hy)
   rw [show k+(i+1)=k+1+i by omega] at this
   exact this
  have hcl:=hr.length
  refine ⟨c++css.flatten,⟨rfl,c :: css,rfl,by simp [hn],fun i y c' hy hc'=>?_⟩,fun j u hu=>?_⟩
  ·cases i with
   | zero =>
    simp only [List.getElem?_cons_zero,Option.some.injEq] at hy hc'
    subst hy hc'
    exact hr
   | succ i=>exact hall i y c' (by simpa using hy) (by simpa using hc')
  ·by_cases hj:j<c.length
   ·rw [List.getElem?_append_left hj] at hu
    have:=hc j u hu
    rw [add_add hs] at this
    simpa using this
   ·rw [List.getElem?_append_right (by omega)] at hu
    have:=hcell _ u hu
    rw [Nat.succ_mul] at this
    rw [show k*e.size+j=k*e.size+e.size+(j - c.length) by omega]
    exact this
theorem Rd.arr_append {ρ:Nat→Value} {w:World} {I:Nat→Prop} {e:Ty} {l m:List e.den} {xs ys:List Value} (h1:Rd P (.arr l.length e) false ρ w I l xs) (h2:Rd P (.arr m.length e) false ρ w I m ys) :
  Rd P (.arr (l++m).length e) false ρ w I (l++m:List e.den) (xs++ys):=by
 obtain ⟨hl,css,rfl,hn,hall⟩:=h1
 obtain ⟨hl',css',rfl,hn',hall'⟩:=h2
 refine ⟨rfl,css++css',by simp,by simp [hn,hn'],fun i x c hx hc=>?_⟩
 by_cases hi:i<l.length
 ·rw [List.getElem?_append_left hi] at hx
  rw [List.getElem?_append_left (by omega)] at hc
  exact hall i x c hx hc
 ·rw [List.getElem?_append_right (by omega)] at hx
  rw [List.getElem?_append_right (by omega)] at hc
  rw [hn] at hc
  exact hall' _ x c hx hc
structure GrB (w w':World) (row:Option Nat):Prop where
 kit:w.grownBy w' row
 le:w.drawn≤w'.drawn
theorem run_append2o {w:World} (t ty e:TypeId) (i:TypeInfo) (z:Value) (size:Nat) (ht:P.underlying t=some (.slice e)) (hi:P.info? e=some i) (hz:i.zero=some z)
  (hsize:i.size=size) (hzs:z.cells.size=size) (hsz:0<size) (hby:0<i.bytes)
  (v:Value) (n:Nat) (xs:List Value) (hown:w.ownsRow 0 e size v n xs)
  (A:Option Addr) (m c:Nat) (news:List Value) (hl:news.length=m*size) (hA:m=0∨∃ a,A=some a∧∀ j u,news[j]?=some u→w.cell? (a.add j)=some u) (h1:∀ u∈news,u.oneCell'=true)
  (hbytes:(n+m)*i.bytes≤140737488355328) :
  ∃ v' w',(Builtin.append_ #[t,t] ty #[v,.slice A m c]).run P w=.ok v' w'∧w'.ownsRow 0 e size v' (n+m) (xs++news)∧GrB w w' v.ownBlock∧v'.oneCell'=true ∧
   ∀ r,real v'=some r→real v=some r∨(w.heap.size≤r∧r<w'.heap.size):=by
 have hle:n+m≤(n+m)*i.bytes:=Nat.le_mul_of_pos_right _ hby
 have h63:n+m≤maxLen:=by simp only [maxLen]; omega
 by_cases hm:m=0
 ·subst hm
  have hnews:news=[]:=List.eq_nil_of_length_eq_zero (by simpa using hl)
  subst hnews
  refine ⟨v,w,?_,by simpa using hown,⟨⟨rfl,rfl,rfl,Nat.le_refl _,fun _ _ _=>rfl⟩,Nat.le_refl _⟩,?_,fun r hr=>.inl hr⟩
  ·rcases hown.2 with ⟨rfl,rfl⟩ | ⟨g,cap,cur,rfl,_,_,hc,_,_,_⟩
   ·cases A <;> simp [Builtin.append_,run_underlying ht,sizeOf,typeInfo,hi,Builtin.lenOf,Builtin.firstCells,loadCells,loadCellsFrom]
   ·cases A <;> simp [Builtin.append_,run_underlying ht,sizeOf,typeInfo,hi,Builtin.lenOf,Builtin.firstCells,loadCells,loadCellsFrom,hc,storeCells]
  ·rcases hown.2 with ⟨rfl,rfl⟩ | ⟨g,cap,cur,rfl,_⟩ <;> rfl
 ·obtain ⟨a,rfl,hnews⟩:=hA.resolve_left hm
  obtain ⟨v',w',hrun,hown',hgr,_⟩:=run_append_own (P:=P) w 0 t ty e i z size i.bytes ht hi hz hsize rfl hzs hsz v n xs hown a m c news hl hnews h1 h63 hbytes (Nat.zero_le _)
  have hreal:∀ r,real v'=some r→r<w'.heap.size:=by
   intro r hr
   rcases hown'.2 with ⟨rfl,_⟩ | ⟨g,cap,cur,rfl,_,hg,_⟩
   ·cases hr
   ·obtain ⟨rfl,_⟩:=real_some hr
    exact (Array.getElem?_eq_some_iff.1 hg).1
  have hdr:w.drawn≤w'.drawn:=by
   rcases hown.2 with ⟨rfl,rfl⟩ | ⟨g,cap,cur,rfl,hbg,hg,hnc,hcm,hcs,htake⟩
   ·have:=run_append_nil (P:=P) w t ty e i z ht hi hz a m c news (by rw [hsize]; exact hl) hnews (by omega) (by simp only [maxLen] at h63; omega) (by simp only [Nat.zero_add] at hbytes; omega)
    rw [this] at hrun
    obtain ⟨rfl,rfl⟩:=Result.ok.inj hrun
    exact Nat.le_succ _
   ·by_cases hroom:n+m≤cap
    ·have hfit:n*i.size+news.length≤cur.size:=by rw [hl,hcs,hsize,← Nat.add_mul]; exact Nat.mul_le_mul_right _ hroom
     have:=run_append_room (P:=P) w t ty e i ht hi g n cap cur hg a m c news (by rw [hsize]; exact hl) hnews h1 hroom hfit
     rw [this] at hrun
     obtain ⟨rfl,rfl⟩:=Result.ok.inj hrun
     exact Nat.le_refl _
    ·have holds:∀ j u,xs[j]?=some u→w.cell? ((⟨g,0,none⟩:Addr).add j)=some u:=hown.cells (g:=g) rfl
     have:=run_append_grow (P:=P) w t ty e i z ht hi hz ⟨g,0,none⟩ n cap xs (by rw [hsize]; exact hown.1) holds a m c news (by rw [hsize]; exact hl) hnews (by omega) (by simp only [maxLen] at h63; omega) (growslice_fits (by omega) hbytes)
     rw [this] at hrun
     obtain ⟨rfl,rfl⟩:=Result.ok.inj hrun
     exact Nat.le_succ _
  refine ⟨v',w',hrun,hown',⟨hgr,hdr⟩,?_,fun r hr=>?_⟩
  ·rcases hown'.2 with ⟨rfl,_⟩ | ⟨g,cap,cur,rfl,_⟩ <;> rfl
  ·rcases hown.2 with ⟨rfl,rfl⟩ | ⟨g,cap,cur,rfl,hbg,hg,hnc,hcm,hcs,htake⟩
   ·have:=run_append_nil (P:=P) w t ty e i z ht hi hz a m c news (by rw [hsize]; exact hl) hnews (by omega) (by simp only [maxLen] at h63; omega) (by simp only [Nat.zero_add] at hbytes; omega)
    rw [this] at hrun
    obtain ⟨rfl,rfl⟩:=Result.ok.inj hrun
    have hlt:=hreal r hr
    obtain ⟨rfl,_⟩:=real_some hr
    exact .inr ⟨Nat.le_refl _,hlt⟩
   ·by_cases hroom:n+m≤cap
    ·have hfit:n*i.size+news.length≤cur.size:=by rw [hl,hcs,hsize,← Nat.add_mul]; exact Nat.mul_le_mul_right _ hroom
     have:=run_append_room (P:=P) w t ty e i ht hi g n cap cur hg a m c news (by rw [hsize]; exact hl) hnews h1 hroom hfit
     rw [this] at hrun
     obtain ⟨rfl,rfl⟩:=Result.ok.inj hrun
     obtain ⟨rfl,hcp⟩:=real_some hr
     exact .inl (real_slice hcp)
    ·have holds:∀ j u,xs[j]?=some u→w.cell? ((⟨g,0,none⟩:Addr).add j)=some u:=hown.cells (g:=g) rfl
     have:=run_append_grow (P:=P) w t ty e i z ht hi hz ⟨g,0,none⟩ n cap xs (by rw [hsize]; exact hown.1) holds a m c news (by rw [hsize]; exact hl) hnews (by omega) (by simp only [maxLen] at h63; omega) (growslice_fits (by omega) hbytes)
     rw [this] at hrun
     obtain ⟨rfl,rfl⟩:=Result.ok.inj hrun
     have hlt:=hreal r hr
     obtain ⟨rfl,_⟩:=real_some hr
     exact .inr ⟨Nat.le_refl _,hlt⟩
theorem run_append2 {w:World} (t ty e:TypeId) (i:TypeInfo) (z:Value) (size:Nat) (ht:P.underlying t=some (.slice e)) (hi:P.info? e=some i) (hz:i.zero=some z)
  (hsize:i.size=size) (hzs:z.cells.size=size) (hsz:0<size) (hby:0<i.bytes)
  (v:Value) (n:Nat) (xs:List Value) (hown:World.rowOf w 0 e size v n xs)
  (A:Option Addr) (m c:Nat) (news:List Value) (hl:news.length=m*size) (hA:m=0∨∃ a,A=some a∧∀ j u,news[j]?=some u→w.cell? (a.add j)=some u) (h1:∀ u∈news,u.oneCell'=true)
  (hbytes:(n+m)*i.bytes≤140737488355328) :
  ∃ v' w',(Builtin.append_ #[t,t] ty #[v,.slice A m c]).run P w=.ok v' w'∧World.rowOf w' 0 e size v' (n+m) (xs++news)∧GrB w w' (real v)∧v'.oneCell'=true ∧
   ∀ r,real v'=some r→real v=some r∨(w.heap.size≤r∧r<w'.heap.size):=by
 rcases World.row_owns hown with ⟨A0,rfl,rfl,rfl⟩ | ⟨hown',g,cap,rfl,hcap⟩
 ·obtain ⟨v',w',hrun,ho',hgr,hone,hre⟩:=run_append2o t ty e i z size ht hi hz hsize hzs hsz hby (.slice none 0 0) 0 [] (World.ownsRow_nil _ _ _ _) A m c news hl hA h1 hbytes
  cases A0 with
  | none=>exact ⟨v',w',hrun,World.rowOf_of ho',hgr,hone,hre⟩
  | some ad =>
   by_cases hm:m=0
   ·subst hm
    have hnews:news=[]:=List.eq_nil_of_length_eq_zero (by simpa using hl)
    subst hnews
    refine ⟨.slice (some ad) 0 0,w,?_,⟨by simp,.inl ⟨_,rfl,rfl⟩⟩,⟨⟨rfl,rfl,rfl,Nat.le_refl _,fun _ _ _=>rfl⟩,Nat.le_refl _⟩,rfl,fun r hr=>by rw [real_zero] at hr; cases hr⟩
    cases A <;> simp [Builtin.append_,run_underlying ht,sizeOf,typeInfo,hi,Builtin.lenOf,Builtin.firstCells,loadCells,loadCellsFrom,storeCells]
   ·obtain ⟨a,rfl,hnews⟩:=hA.resolve_left hm
    have hle:0+m≤(0+m)*i.bytes:=Nat.le_mul_of_pos_right _ hby
    have hn:=run_append_nil (P:=P) w t ty e i z ht hi hz a m c news (by rw [hsize]; exact hl) hnews (by omega) (by omega) (by simp only [Nat.zero_add] at hbytes; omega)
    have hg:=run_append_grow (P:=P) w t ty e i z ht hi hz ad 0 0 [] (by simp) (fun j u hu=>by simp at hu) a m c news (by rw [hsize]; exact hl) hnews (by omega) (by omega) (growslice_fits (by omega) hbytes)
    rw [hn] at hrun
    refine ⟨v',w',?_,World.rowOf_of ho',hgr,hone,fun r hr=>?_⟩
    ·rw [hg,← hrun]
     simp
    ·rcases hre r hr with h | h
     ·cases h
     ·exact .inr h
 ·obtain ⟨v',w',hrun,ho',hgr,hone,hre⟩:=run_append2o t ty e i z size ht hi hz hsize hzs hsz hby _ n xs hown' A m c news hl hA h1 hbytes
  refine ⟨v',w',hrun,World.rowOf_of ho',?_,hone,hre⟩
  rw [real_slice hcap]
  exact hgr
end
section
variable {cx:Cx} {ρ:Nat→Value} {F:Nat→Prop} {s:St} {a:Act} {w:World} {o:Oper} {nid:Nat} {c:Ctx}
theorem addends_sound (hM:M cx ρ F s a w) {hp:Nat→Option Blk} (hhp:∀ b k,hp b=some k→s.hp b=some k) {e:Ty} {y:Operand} {m:List e.den} (h:addends hp e (s.ev y)=some m) :
  ∃ A cap news,a.eval y=.slice A m.length cap∧Rd cx.P (.arr m.length e) false ρ0 w (cx.I ρ s) m news∧(m.length=0∨∃ ad,A=some ad∧∀ j u,news[j]?=some u→w.cell? (ad.add j)=some u):=by
 have hv:=(hM.ev y).1
 have deep:∀ {t:Ty} {x:t.den},RV cx.P ρ w (cx.I ρ s) (.val t x) (a.eval y)→Ty.as? t (.slice e) x=some m →
   ∃ A cap news,a.eval y=.slice A m.length cap∧Rd cx.P (.arr m.length e) false ρ0 w (cx.I ρ s) m news∧(m.length=0∨∃ ad,A=some ad∧∀ j u,news[j]?=some u→w.cell? (ad.add j)=some u):=by
  intro t x hx hc
  obtain ⟨rfl,rfl⟩:=Ty.as?_some hc
  obtain ⟨cs,h2,A,cap,rfl,_,h3⟩:=hx
  change a.eval y=.slice A (List.length (m:List e.den)) cap at h2
  by_cases h0:List.length (m:List e.den)=0
  ·have:(m:List e.den)=[]:=List.eq_nil_of_length_eq_zero h0
   subst this
   exact ⟨A,cap,[],h2,⟨rfl,[],rfl,rfl,fun i x c hx=>by simp at hx⟩,.inl rfl⟩
  ·rcases h3 with h3 | ⟨ad,rfl,hs,_,_,hall⟩
   ·exact absurd (by rw [h3]; rfl) h0
   ·obtain ⟨news,hr,hc⟩:=gather_news (P:=cx.P) hs (m:List e.den) 0 (fun i x hx=>by simpa using hall i x hx)
    exact ⟨some ad,cap,news,h2,hr,.inr ⟨ad,rfl,fun j u hu=>by simpa using hc j u hu⟩⟩
 generalize s.ev y=av at h hv
 have other:∀ {t:Ty} {x:t.den},t≠.own→addends hp e (.val t x)=Ty.as? t (.slice e) x:=by
  intro t x hne
  cases t <;> first | exact absurd rfl hne | rfl
 cases av with
 | nil =>
  have h:some []=some m:=h
  obtain rfl:=Option.some.inj h
  exact ⟨none,0,[],hv,⟨rfl,[],rfl,rfl,fun i x c hx=>by simp at hx⟩,.inl rfl⟩
 | undef=>exact nomatch (show Option.none=some m from h)
 | anyb p=>exact nomatch (show Option.none=some m from h)
 | win b lo n=>exact nomatch (show Option.none=some m from h)
 | suf b lo k=>exact nomatch (show Option.none=some m from h)
 | tup l=>exact nomatch (show Option.none=some m from h)
 | imm t x off=>exact nomatch (show Option.none=some m from h)
 | val t x =>
  by_cases ht:t=.own
  ·subst ht
   have key:∃ e' l tid,hp x=some (.row e' l tid)∧Ty.as? (.slice e') (.slice e) l=some m:=by
    cases hk:hp x with
    | none =>
     have h2:addends hp e (.val .own x)=none:=by show (match hp x with | some (.row e' l _)=>Ty.as? (.slice e') (.slice e) l | _=>none)=none; rw [hk]
     rw [h2] at h; cases h
    | some k =>
     cases k with
     | cells t y =>
      have h2:addends hp e (.val .own x)=none:=by show (match hp x with | some (.row e' l _)=>Ty.as? (.slice e') (.slice e) l | _=>none)=none; rw [hk]
      rw [h2] at h; cases h
     | row e' l tid =>
      have h2:addends hp e (.val .own x)=Ty.as? (.slice e') (.slice e) l:=by show (match hp x with | some (.row e' l _)=>Ty.as? (.slice e') (.slice e) l | _=>none)=_; rw [hk]
      rw [h2] at h
      exact ⟨e',l,tid,rfl,h⟩
   obtain ⟨e',l,tid,hk,h⟩:=key
   have hv:=RV_own hv
   obtain ⟨he,rfl⟩:=Ty.as?_some h
   obtain rfl:e'=e:=by injection he
   obtain ⟨xs,hro,hrd⟩:=hM.blks x _ (hhp _ _ hk)
   rcases World.row_owns hro with ⟨A0,h1,h2,_⟩ | ⟨hro,g,cap,h1,_⟩
   ·have hl0:l=[]:=List.eq_nil_of_length_eq_zero h2
    subst hl0
    exact ⟨A0,0,[],by rw [hv,h1]; rfl,⟨rfl,[],rfl,rfl,fun i x c hx=>by simp at hx⟩,.inl rfl⟩
   ·exact ⟨_,cap,xs,by rw [hv,h1],hrd,.inr ⟨_,rfl,hro.cells (g:=g) (by rw [h1]; rfl)⟩⟩
  ·rw [other ht] at h
   exact deep hv h
theorem M.grow (h:M cx ρ F s a w) (hn:¬ F nid) {b:Nat} (hnp:cx.np≤b) {e:Ty} {l l':List e.den} {et:TypeId} {v':Value} {w':World} {xs:List Value} (ok:Prop)
  (hb:s.hp b=some (.row e l et)) (hg:GrB w w' (real (ρ b))) (hown:World.rowOf w' 0 et e.size v' l'.length xs) (hrd:Rd cx.P (.arr l'.length e) false ρ0 w (cx.I ρ s) l' xs)
  (hone:v'.oneCell'=true) (hreal:∀ r,real v'=some r→real (ρ b)=some r∨(w.heap.size≤r∧r<w'.heap.size)) :
  M cx (upd ρ nid v') (fun c=>F c∨c=nid) ⟨s.sl,upd (upd s.hp b none) nid (some (.row e l' et)),ok⟩ a w':=by
 have hne:∀ c k,s.hp c=some k→c≠nid:=fun c k hk he=>hn (he ▸ (h.brefs c k hk).1)
 have hρ:∀ c,F c→upd ρ nid v' c=ρ c:=fun c hc=>upd_ne _ _ (fun he=>hn (he ▸ hc))
 have hold:∀ c k,c≠nid→upd (upd s.hp b none) nid (some (.row e l' et)) c=some k→s.hp c=some k∧c≠b:=by
  intro c k hc hk
  rw [upd_ne _ _ hc] at hk
  by_cases hcb:c=b
  ·subst hcb; rw [upd_same] at hk; cases hk
  ·rw [upd_ne _ _ hcb] at hk; exact ⟨hk,hcb⟩
 have hI:∀ r,r<w.heap.size→cx.I ρ s r→cx.I (upd ρ nid v') ⟨s.sl,upd (upd s.hp b none) nid (some (.row e l' et)),ok⟩ r:=by
  intro r hr hi
  refine ⟨hi.1,fun c k hk hrr=>?_⟩
  by_cases hc:c=nid
  ·subst hc
   rw [upd_same] at hrr
   rcases hreal r hrr with h1 | ⟨h1,_⟩
   ·exact hi.2 b _ hb h1
   ·omega
  ·obtain ⟨h1,_⟩:=hold c k hc hk
   rw [upd_ne _ _ hc] at hrr
   exact hi.2 c k h1 hrr
 have hpres:Pres (cx.I ρ s) w w':=⟨hg.kit.size,fun r hr hi=>hg.kit.block r hr (fun he=>hi.2 b _ hb he.symm)⟩
 refine M.turn h ok hρ (fun c hc=>.inl hc) hg.kit.os ⟨hg.kit.tape,hg.le⟩ hg.kit.output hg.kit.size ?_ hI ?_ ?_ ?_ ?_ ?_
 ·intro r hr hh
  refine hg.kit.block r hr fun he=>?_
  rcases hh with hh | ⟨h1,h2⟩
  ·exact hh.2 b _ hb he.symm
  ·rcases (h.fresh b _ r hb he.symm).1 with h3 | h3
   ·exact h3.elim (fun h=>by omega) (fun h=>h2 (.inr h))
   ·exact h2 h3.1
 ·intro c k hk
  by_cases hc:c=nid
  ·subst hc
   rw [upd_same] at hk
   obtain rfl:=Option.some.inj hk
   rw [upd_same]
   exact ⟨xs,hown,hrd.mono hpres hI⟩
  ·obtain ⟨h1,h2⟩:=hold c k hc hk
   rw [upd_ne _ _ hc]
   exact (h.blks c k h1).mono (fun d hd=>hρ d ((h.brefs c k h1).2 d hd)) hpres hI (fun r hr=>hg.kit.block r (h.owned_lt h1 hr) (fun he=>h2 (h.sep c b k _ r h1 hb hr he.symm)))
 ·intro c c' k k' r h1 h2 h3 h4
  by_cases hc:c=nid <;> by_cases hc':c'=nid
  ·rw [hc,hc']
  ·exfalso
   subst hc
   rw [upd_same] at h3
   obtain ⟨h5,h6⟩:=hold c' k' hc' h2
   rw [upd_ne _ _ hc'] at h4
   rcases hreal r h3 with h7 | ⟨h7,_⟩
   ·exact h6 (h.sep c' b k' _ r h5 hb h4 h7)
   ·have:=h.owned_lt h5 h4; omega
  ·exfalso
   subst hc'
   rw [upd_same] at h4
   obtain ⟨h5,h6⟩:=hold c k hc h1
   rw [upd_ne _ _ hc] at h3
   rcases hreal r h4 with h7 | ⟨h7,_⟩
   ·exact h6 (h.sep c b k _ r h5 hb h3 h7)
   ·have:=h.owned_lt h5 h3; omega
  ·obtain ⟨h5,_⟩:=hold c k hc h1
   obtain ⟨h6,_⟩:=hold c' k' hc' h2
   rw [upd_ne _ _ hc] at h3
   rw [upd_ne _ _ hc'] at h4
   exact h.sep c c' k k' r h5 h6 h3 h4
 ·intro c k r h1 h2
  by_cases hc:c=nid
  ·subst hc
   rw [upd_same] at h1 h2
   obtain rfl:=Option.some.inj h1
   rcases hreal r h2 with h3 | ⟨h3,h4⟩
   ·have:=h.fresh b _ r hb h3
    exact ⟨.inl (this.1.resolve_right fun h=>Nat.not_lt.2 hnp h.2),Nat.lt_of_lt_of_le this.2 hg.kit.size⟩
   ·exact ⟨.inl (.inl (Nat.le_trans h.size h3)),h4⟩
  ·obtain ⟨h5,_⟩:=hold c k hc h1
   rw [upd_ne _ _ hc] at h2
   exact ⟨(h.fresh c k r h5 h2).1,Nat.lt_of_lt_of_le (h.fresh c k r h5 h2).2 hg.kit.size⟩
 ·intro c k h1
  by_cases hc:c=nid
  ·subst hc
   rw [upd_same] at h1
   obtain rfl:=Option.some.inj h1
   exact ⟨.inr rfl,fun d hd=>by cases hd⟩
  ·obtain ⟨h5,_⟩:=hold c k hc h1
   exact ⟨.inl (h.brefs c k h5).1,fun d hd=>.inl ((h.brefs c k h5).2 d hd)⟩
 ·intro c
  by_cases hc:c=nid
  ·subst hc; rw [upd_same]; exact hone
  ·rw [upd_ne _ _ hc]; exact h.rho c
theorem ok_append {hp:Nat→Option Blk} (hhp:∀ b k,hp b=some k→s.hp b=some k) {t t':TypeId} {x y:Operand}
  (ho:o.op=.call { callee:=.builtin .append,args:=#[x,y],argTypes:=#[t,t'] }) (hT:TOk cx.P c) (hE:c.pin=cx.np):OpOk cx o s nid (pAppend cx.P c hp nid t t' (s.ev x) (s.ev y)):=by
 unfold pAppend
 split
 ·rename_i et htt hu
  obtain rfl:=Nat.eq_of_beq_eq_true htt
  split
  ·rename_i e i hty hi
   split
   ·exact bad_ok
   ·rename_i hz
    simp only [Bool.and_eq_true] at hz
    obtain ⟨hz,hpos,hby,hdeep⟩:=hz
    have hpos:=blt_true hpos
    have hby:=blt_true hby
    obtain ⟨ie,_,hie,hsz,_⟩:=tyOk_sound (hT _ _ (find_mem hty))
    obtain rfl:i=ie:=Option.some.inj (hi.symm.trans hie)
    split
    ·exact bad_ok
    ·rename_i m hm
     split
     ·rename_i hx
      intro ρ F a w next Q hM hnF hob hn
      obtain ⟨i',z,hi',hzz,hR⟩:=zeroOk_sound (P:=cx.P) (ρ:=ρ) (w:=w) (I:=cx.I ρ s) hz
      obtain rfl:i=i':=Option.some.inj (hi.symm.trans hi')
      obtain ⟨A,cap,news,hy,hrd,hA⟩:=addends_sound hM hhp hm
      have h1:=(hM.ev x).1
      rw [hx] at h1
      have h1:a.eval x=.slice none 0 0:=h1
      obtain ⟨v',w',hrun,hown',hgr,hone,hreal⟩:=run_append2 (P:=cx.P) (w:=w) t o.type et i z e.size hu hi hzz hsz (by have:=hR.length; simpa using this) hpos hby (.slice none 0 0) 0 [] (World.rowOf_of (World.ownsRow_nil _ _ _ _)) A m.length cap news hrd.length hA (Rd.one hrd ρ0_one) hob
      unfold Oper.wp execOp
      simp only [ho,resolve,invoke,builtin,Sem.run_bind,Sem.run_pure,Result.andThen_ok,List.map_toArray,List.map_cons,List.map_nil,h1,hy,hrun]
      refine hn (upd ρ nid v') v' w' ?_
      have hbl:Below w.heap.size w w':=⟨hgr.kit.os,⟨hgr.kit.tape,hgr.le⟩,hgr.kit.output,hgr.kit.size,fun k hk=>hgr.kit.block k hk (by rw [real_zero]; simp)⟩
      have hnew:=M.new (k:=.row e m et) (v:=v') hM hnF s.ok hbl (fun r hr=>by
        rcases hreal r hr with h | h
        ·cases h
        ·exact h) hone ⟨news,by simpa using hown',hrd.mono ⟨hbl.size,fun r hr _=>hbl.block r hr⟩ (fun r hr hi=>.inl ⟨hi,hr⟩)⟩ (fun b hb=>by cases hb)
      exact M.put hnew o.dst (av:=.val .own nid) ⟨[v'],rfl,by show _=[upd ρ nid _ nid]; rw [upd_same]⟩ (fun b hb=>.inr (List.mem_singleton.1 hb)) s.ok
     ·rename_i b hx
      split
      ·rename_i e' l et' hk
       split
       ·rename_i l' het hl
        simp only [Bool.and_eq_true] at het
        have hnp:cx.np≤b:=hE ▸ Nat.le_of_ble_eq_true het.2
        have het:=het.1
        obtain rfl:=Nat.eq_of_beq_eq_true het
        obtain ⟨he,rfl⟩:=Ty.as?_some hl
        obtain rfl:e'=e:=by injection he
        intro ρ F a w next Q hM hnF hob hn
        obtain ⟨i',z,hi',hzz,hR⟩:=zeroOk_sound (P:=cx.P) (ρ:=ρ) (w:=w) (I:=cx.I ρ s) hz
        obtain rfl:i=i':=Option.some.inj (hi.symm.trans hi')
        obtain ⟨A,cap,news,hy,hrd,hA⟩:=addends_sound hM hhp hm
        have h1:=(hM.ev x).1
        rw [hx] at h1
        have h1:=RV_own h1
        obtain ⟨xs,hro,hrl⟩:=hM.blks b _ (hhp _ _ hk)
        obtain ⟨v',w',hrun,hown',hgr,hone,hreal⟩:=run_append2 (P:=cx.P) (w:=w) t o.type et i z e'.size hu hi hzz hsz (by have:=hR.length; simpa using this) hpos hby (ρ b) l.length xs hro A m.length cap news hrd.length hA (Rd.one hrd ρ0_one) hob
        unfold Oper.wp execOp
        simp only [ho,resolve,invoke,builtin,Sem.run_bind,Sem.run_pure,Result.andThen_ok,List.map_toArray,List.map_cons,List.map_nil,h1,hy,hrun]
        refine hn (upd ρ nid v') v' w' ?_
        have hgrow:=M.grow hM hnF hnp s.ok (hhp _ _ hk) (l':=l++m) hgr (by rw [List.length_append]; exact hown') (Rd.arr_append hrl hrd) hone hreal
        exact M.put hgrow o.dst (av:=.val .own nid) ⟨[v'],rfl,by show _=[upd ρ nid _ nid]; rw [upd_same]⟩ (fun b hb=>.inr (List.mem_singleton.1 hb)) s.ok
       ·exact bad_ok
      ·exact bad_ok
     ·exact bad_ok
  ·exact bad_ok
 ·exact bad_ok
theorem zeroCells_listM {z:Array Value} {N:Nat} {e:Ty} {i:TypeInfo} (hzs:z.size=e.size) (hsz:i.size=e.size):(Builtin.zeroCells z N).toList=(madeCells z (N*i.size)).toList:=by
 unfold Builtin.zeroCells madeCells
 rw [hsz,hzs]
theorem wrap_i64_small {x:Int} (h1:0≤x) (h2:x≤9223372036854775807):IntKind.i64.wrap x=x:=by
 unfold IntKind.wrap
 simp [IntKind.bits,IntKind.signed]
 omega
theorem run_appendZ {P:Program} {w:World} (t t' ty e:TypeId) (i:TypeInfo) (z:Value) (k k':IntKind) (n:Int) (ht:P.underlying t=some (.slice e)) (ht':P.underlying t'=some (.int k')) (hi:P.info? e=some i) (hz:i.zero=some z)
  (hzs:z.cells.size=i.size) (hpos:0<i.size) (h0:0<n) (hb:n*(i.bytes:Int)≤140737488355328) (hby:0<i.bytes) :
  (Builtin.append_ #[t,t'] ty #[.slice none 0 0,.int k n]).run P w =
   .ok (.slice (some ⟨w.heap.size,0,none⟩) n.toNat (grownCap w n.toNat 0 e)) (w.drew.alloc (.cells (Builtin.zeroCells z.cells n.toNat++Builtin.zeroCells z.cells (grownCap w n.toNat 0 e - n.toNat)) e)):=by
 have hle:n*1≤n*(i.bytes:Int):=Int.mul_le_mul_of_nonneg_left (by omega) (by omega)
 have hw:IntKind.i64.wrap n=n:=wrap_i64_small (by omega) (by omega)
 obtain ⟨m,rfl⟩:=Int.eq_ofNat_of_zero_le (Int.le_of_lt h0)
 have hm:m≠0:=by omega
 have hneg:¬ ((m:Int)<0):=by omega
 have hbig:¬ (281474976710656<(m:Int)*(i.bytes:Int)):=by omega
 have h63':¬ (9223372036854775807<(m:Int)):=by omega
 have hbn:m*i.bytes≤140737488355328:=by
  have:((m*i.bytes:Nat):Int)≤140737488355328:=by rw [Int.natCast_mul]; exact hb
  omega
 have h48':¬ (281474976710656<Builtin.nextslicecap m 0*i.bytes):=by rw [nextslicecap_zero (by omega)]; omega
 have hs:i.size≠0:=by omega
 simp [Builtin.append_,run_underlying ht,run_underlying ht',sizeOf,typeInfo,zeroValue,hi,hz,hw,hm,hneg,hbig,h63',h48',hs,Question.forced,run_firstCells_none,newRow,grownCap,asInt,asIntOf]
 intro h
 exact absurd h (Nat.mul_ne_zero hm hs)
theorem zAp_le {b:Nat} {n:Int} (hb:0<b) (h:zAp b n):n.toNat≤maxLen:=by
 obtain ⟨h0,h1⟩:=h
 have hle:n*1≤n*(b:Int):=Int.mul_le_mul_of_nonneg_left (by omega) (by omega)
 simp only [maxLen]
 omega
theorem ok_appendZ {t t':TypeId} {x y:Operand} (ho:o.op=.call { callee:=.builtin .append,args:=#[x,y],argTypes:=#[t,t'] }) (hT:TOk cx.P c):OpOk cx o s nid (pAppendZ cx.P c nid t t' (s.ev x) (s.ev y)):=by
 unfold pAppendZ
 split
 ·rename_i k n et k' hx hy hu hu'
  split
  ·rename_i e i hty hi
   split
   ·rename_i hz
    simp only [Bool.and_eq_true] at hz
    obtain ⟨hz,hpos,hby,hfl⟩:=hz
    have hpos:=blt_true hpos
    have hby:=blt_true hby
    obtain ⟨ie,_,hie,hsz,_⟩:=tyOk_sound (hT _ _ (find_mem hty))
    obtain rfl:i=ie:=Option.some.inj (hi.symm.trans hie)
    intro ρ F a w next Q hM hnF hob hn
    obtain ⟨i',z,hi',hzz,hR⟩:=zeroOk_sound (P:=cx.P) (ρ:=ρ) (w:=w) (I:=cx.I ρ s) hz
    obtain rfl:i=i':=Option.some.inj (hi.symm.trans hi')
    have hob:zAp i.bytes n:=hob
    have hzs:z.cells.size=e.size:=by have:=hR.length; simpa using this
    have h1:=(hM.ev x).1
    rw [hx] at h1
    have h1:a.eval x=.slice none 0 0:=h1
    have h2:=ev_int hM hy
    have hrun:=run_appendZ (P:=cx.P) (w:=w) t t' o.type et i z k k' n hu hu' hi hzz (by rw [hzs,hsz]) (by rw [hsz]; exact hpos) hob.1 hob.2 hby
    have hnl:Int.toNat n≤maxLen:=zAp_le hby hob
    have hge:=grownCap_ge w (Int.toNat n) 0 et
    have hcm:grownCap w (Int.toNat n) 0 et≤maxLen:=grownCap_le_maxLen w (Int.toNat n) 0 et hnl
    have hzl:(Builtin.zeroCells z.cells (Int.toNat n)).toList.length=Int.toNat n*e.size:=by
     simp only [Array.length_toList,size_zeroCells,hzs]
    have hmade:=made_Rd (P:=cx.P) (ρ:=ρ) (w:=w) (I:=cx.I ρ s) (e:=e) (z:=z) (i:=i) hsz hzs hR (Int.toNat n)
    rw [← zeroCells_listM hzs hsz] at hmade
    have hmade:=hmade.rho (ρ':=ρ0) (fun b hb=>by rw [show (Ty.arr (Int.toNat n) e).refs (List.replicate (Int.toNat n) e.zero:List e.den)=[] by simp [Ty.refs,hfl]] at hb; cases hb)
    generalize hw':w.drew.alloc (.cells (Builtin.zeroCells z.cells (Int.toNat n)++Builtin.zeroCells z.cells (grownCap w (Int.toNat n) 0 et - Int.toNat n)) et)=w' at *
    have hgr:w.grownBy w' none:=by
     subst hw'
     exact ⟨rfl,rfl,rfl,by simp,fun q hq _=>heap_alloc_old w.drew _ q hq⟩
    have hown:World.rowOf w' 0 et e.size (.slice (some ⟨w.heap.size,0,none⟩) (Int.toNat n) (grownCap w (Int.toNat n) 0 et)) (Int.toNat n) (Builtin.zeroCells z.cells (Int.toNat n)).toList:=by
     subst hw'
     refine World.rowOf_of ⟨hzl,.inr ⟨w.heap.size,_,_,rfl,Nat.zero_le _,heap_alloc_new w.drew _,hge,hcm,?_,?_⟩⟩
     ·simp only [Array.size_append,size_zeroCells,hzs,← Nat.add_mul]
      congr 1
      omega
     ·rw [Array.toList_append,← hzl]
      exact List.take_left
    have hdr:w.drawn≤w'.drawn:=by subst hw'; exact Nat.le_succ _
    have hsz':w'.heap.size=w.heap.size+1:=by subst hw'; simp
    unfold Oper.wp execOp
    simp only [ho,resolve,invoke,builtin,Sem.run_bind,Sem.run_pure,Result.andThen_ok,List.map_toArray,List.map_cons,List.map_nil,h1,h2,hrun]
    refine hn (upd ρ nid (.slice (some ⟨w.heap.size,0,none⟩) (Int.toNat n) (grownCap w (Int.toNat n) 0 et))) _ w' ?_
    have hbl:Below w.heap.size w w':=⟨hgr.os,⟨hgr.tape,hdr⟩,hgr.output,hgr.size,fun q hq=>hgr.block q hq (by simp)⟩
    have hnew:=M.new (k:=.row e (List.replicate (Int.toNat n) e.zero) et) (v:=.slice (some ⟨w.heap.size,0,none⟩) (Int.toNat n) (grownCap w (Int.toNat n) 0 et)) hM hnF s.ok hbl (fun r hr=>by
      obtain ⟨rfl,_⟩:=real_some hr
      exact ⟨Nat.le_refl _,by show w.heap.size<w'.heap.size; omega⟩) rfl ⟨(Builtin.zeroCells z.cells (Int.toNat n)).toList,by rw [List.length_replicate]; exact hown,by
       rw [List.length_replicate]
       exact hmade.mono ⟨hbl.size,fun r hr _=>hbl.block r hr⟩ (fun r hr hi=>.inl ⟨hi,hr⟩)⟩ (fun b hb=>by cases hb)
    exact M.put hnew o.dst (av:=.val .own nid) ⟨[_],rfl,by show _=[upd ρ nid _ nid]; rw [upd_same]⟩ (fun b hb=>.inr (List.mem_singleton.1 hb)) s.ok
   ·exact bad_ok
  ·exact bad_ok
 ·exact bad_ok
theorem ok_appendY {hp:Nat→Option Blk} (hhp:∀ b k,hp b=some k→s.hp b=some k) {t t':TypeId} {x y:Operand}
  (ho:o.op=.call { callee:=.builtin .append,args:=#[x,y],argTypes:=#[t,t'] }) (hT:TOk cx.P c) (hE:c.pin=cx.np):OpOk cx o s nid (pAppendY cx.P c hp nid t t' (s.ev x) (s.ev y)):=by
 unfold pAppendY
 split
 ·exact ok_append hhp ho hT hE
 ·exact ok_appendZ ho hT
theorem cutIx_sound {P:Program} {I:Nat→Prop} {n:Int} {x:Option Operand} {r:Int} {f:Operand→AV} {g:Operand→Value} (h:cutIx n (x.map f)=some r) (hv:∀ y,RV P ρ w I (f y) (g y)) :
  (x=none∧r=n)∨∃ y k,x=some y∧g y=.int k r:=by
 cases x with
 | none=>exact .inl ⟨rfl,(Option.some.inj h).symm⟩
 | some y =>
  simp only [Option.map_some] at h
  unfold cutIx at h
  split at h
  ·rename_i hh; cases hh
  ·rename_i k r' hh
   obtain rfl:=Option.some.inj h
   have:=hv y
   rw [Option.some.inj hh] at this
   exact .inr ⟨y,k,rfl,RV_int this⟩
  ·cases h
theorem ok_slice {t:TypeId} {x:Operand} {lo hi mx:Option Operand} (ho:o.op=.slice t x lo hi mx):OpOk cx o s nid (pSlice cx.P t (s.ev x) (lo.map s.ev) (hi.map s.ev) mx.isSome):=by
 unfold pSlice
 split
 ·rename_i et e l hm hu hx
  split
  ·rename_i q p r hq hp hr
   split
   ·rename_i hes
    have hes:=Nat.eq_of_beq_eq_true hes
    refine ok_value rfl fun ρ F a w hM hob=>?_
    obtain ⟨h0,h1,h2⟩:=hob
    obtain ⟨i,hi',hsi⟩:=Option.map_eq_some_iff.1 hq
    have hv:=(hM.ev x).1
    rw [hx] at hv
    obtain ⟨cs,h4,A,cap,rfl,hcap,h5⟩:=hv
    change a.eval x=.slice A (List.length l) cap at h4
    have hmn:mx=none:=by cases mx <;> simp at hm ⊢
    subst hmn
    have hsb:(Instr.sliceBounds true (List.length l) cap (lo.map a.eval) (hi.map a.eval) none).run cx.P w=.ok (p.toNat,r.toNat,cap) w:=by
     have hcap':(List.length l:Int)≤cap:=by exact_mod_cast hcap
     have hr':(0≤r∧r≤(cap:Int)):=⟨by omega,by omega⟩
     have hrn:((r.toNat:Nat):Int)=r:=Int.toNat_of_nonneg hr'.1
     have hpr:0≤p∧p≤((r.toNat:Nat):Int):=by rw [hrn]; exact ⟨h0,h1⟩
     have c1:=cutIx_sound hp (fun y=>(hM.ev y).1)
     have c2:=cutIx_sound hr (fun y=>(hM.ev y).1)
     have b1:∀ k code,(Instr.sliceBound (.int k r) cap code).run cx.P w=.ok r.toNat w:=fun k code=>run_sliceBound w k r cap code hr'.1 hr'.2
     have b2:∀ k code,(Instr.sliceBound (.int k p) r.toNat code).run cx.P w=.ok p.toNat w:=fun k code=>run_sliceBound w k p r.toNat code hpr.1 hpr.2
     rcases c1 with ⟨rfl,rfl⟩ | ⟨y,k,rfl,hy⟩ <;> rcases c2 with ⟨rfl,rfl⟩ | ⟨y',k',rfl,hy'⟩ <;>
      simp only [Instr.sliceBounds,Option.map_some,Option.map_none, *,Sem.run_bind,Sem.run_pure,Result.andThen_ok] <;> first | rfl | (simp; done) | (rw [Int.toNat_natCast] at b2 ⊢; simp only [b2,Result.andThen_ok])
    have hlen:List.length (List.drop p.toNat (List.take r.toNat l))=r.toNat - p.toNat:=len_cut (α:=e.den) l (by omega)
    refine ⟨.slice (if cap=p.toNat then A else A.map (·.add (p.toNat*i.size))) (r.toNat - p.toNat) (cap - p.toNat),?_,⟨[_],rfl,(if cap=p.toNat then A else A.map (·.add (p.toNat*i.size))),cap - p.toNat,by rw [hlen],by rw [hlen]; omega,?_⟩,fun b hb=>by cases hb⟩
    ·have hidx:(execOp a.eval o).run cx.P w=((Instr.slice t (a.eval x) (lo.map a.eval) (hi.map a.eval) none).run cx.P w).andThen fun v w'=>.ok (.value v) w':=by
      simp [execOp,ho,Instr.sliceAt,run_underlying hu]
     rw [hidx,h4]
     have:(Instr.slice t (.slice A (List.length l) cap) (lo.map a.eval) (hi.map a.eval) none).run cx.P w=.ok (.slice (if cap=p.toNat then A else A.map (·.add (p.toNat*i.size))) (r.toNat - p.toNat) (cap - p.toNat)) w:=by
      unfold Instr.slice
      simp only [Sem.run_bind,run_underlying hu,Result.andThen_ok,hsb]
      simp [sizeOf,typeInfo,hi']
     rw [this]
     rfl
    ·by_cases hempty:List.drop p.toNat (List.take r.toNat l)=[]
     ·exact .inl hempty
     ·refine .inr ?_
      have hpos:p.toNat<r.toNat:=by
       rcases Nat.lt_or_ge p.toNat r.toNat with h | h
       ·exact h
       ·exact absurd (List.eq_nil_of_length_eq_zero (by rw [hlen]; omega)) hempty
      rcases h5 with h5 | ⟨ad,rfl,g1,g2,g3,g4⟩
      ·have:List.length l=0:=by rw [h5]; rfl
       omega
      ·have hne:¬ cap=p.toNat:=by omega
       rw [if_neg hne]
       have hbl:(ad.add (p.toNat*i.size)).block=ad.block:=by unfold Addr.add; split <;> rfl
       refine ⟨ad.add (p.toNat*i.size),rfl,by unfold Addr.add; split <;> first | rfl | exact g1,by rw [hbl]; exact g2,by rw [hbl]; exact g3,fun j y hy=>?_⟩
       have hy:=cut_get (α:=e.den) l hy
       obtain ⟨cc,h8,h9⟩:=g4 _ y hy
       refine ⟨cc,?_,h9⟩
       rw [add_add g1,hsi,← hes,← Nat.add_mul]
       exact h8
   ·exact bad_ok
  ·exact bad_ok
 ·exact bad_ok
theorem ok_indexStr {t:TypeId} {b:ByteArray} {y:Operand} {k:IntKind} (n:Int) (ho:o.op=.index t (.const (.string b)) y) (hy:s.ev y=.val (.int k) n) (hu:cx.P.underlying t=some .string) :
  OpOk cx o s nid ⟨.val (.int .u8) (strAt b n),[],some (inR n (b.size:Int))⟩:=by
 refine ok_value rfl fun ρ F a w hM hob=>?_
 have h0:0≤n:=hob.1
 have h1:n<(b.size:Int):=hob.2
 have hlt:n.toNat<b.data.size:=by
  have:b.data.size=b.size:=rfl
  omega
 have hlt':n.toNat<b.size:=by omega
 refine ⟨.int .u8 (strAt b n),?_,RV_of_int,fun b hb=>by cases hb⟩
 have hb:b[n.toNat]?=some (b.data.getD n.toNat 0):=by
  rw [getElem?_pos b n.toNat hlt']
  congr 1
  rw [Array.getD_eq_getD_getElem?,Array.getElem?_eq_getElem hlt,Option.getD_some]
  rfl
 have hx:a.eval (.const (.string b))=.string b:=rfl
 simp only [execOp,ho,hx,ev_int hM hy,Instr.index,asIntOf,Sem.run_bind,Sem.run_pure,Result.andThen_ok,run_underlying hu,h0,if_true,hb,strAt]
theorem getD_mem' {α:Type} (l:List α) (i:Nat) (h:i<l.length) (z:α):l.getD i z∈l:=by
 rw [List.getD_eq_getElem?_getD,List.getElem?_eq_getElem h]
 exact List.getElem_mem _
theorem ok_indexV {t:TypeId} {x y:Operand} {k:IntKind} (n:Int) (ho:o.op=.index t x y) (hy:s.ev y=.val (.int k) n) (hT:TOk cx.P c):OpOk cx o s nid (pIndexV cx.P c t (s.ev x) n):=by
 unfold pIndexV
 split
 ·rename_i m e l hx
  split
  ·rename_i len elem hu
   split
   ·rename_i hlen
    have hlen:=Nat.eq_of_beq_eq_true hlen
    subst hlen
    split
    ·rename_i ty hfi
     have hty:=hT _ _ (find_mem hfi)
     split
     ·rename_i l' hl
      obtain ⟨he,rfl⟩:=Ty.as?_some hl
      cases he
      refine ok_value rfl fun ρ F a w hM hob=>?_
      have h1:=hM.ev x
      rw [hx] at h1
      obtain ⟨⟨cs,h2,h3⟩,h4⟩:=h1
      have hob1:0≤n:=hob.1
      have hob2:n<(len:Int):=hob.2
      have hlen:List.length (l:List e.den)=len:=h3.1
      obtain ⟨pre,ci,post,h5,h6,h7,_⟩:=elemAt (i:=n.toNat) h3 (by omega) e.zero
      have hag:a.eval x=.agg cs.toArray:=h2
      obtain ⟨i,d,g1,g2,_,_⟩:=tyOk_sound hty
      have hp:=run_part (P:=cx.P) (w:=w) hty (cs:=cs.toArray) (by simpa using h5) h7.length
      rw [h6] at hp
      refine ⟨mkV e ci,?_,⟨ci,rfl,h7⟩,fun b hb=>h4 b (refs_arr_of (n:=len) (e:=e) (l:=l) (x:=(l:List e.den).getD n.toNat e.zero) ?_ hb)⟩
      ·simp [execOp,ho,hag,ev_int hM hy,Instr.index,asIntOf,run_underlying hu,hob1,hob2,sizeOf,typeInfo,g1,g2,hp]
      ·exact getD_mem' (α:=e.den) l _ (by omega) _
     ·exact bad_ok
    ·exact bad_ok
   ·exact bad_ok
  ·exact bad_ok
 ·exact bad_ok
theorem ok_index {t:TypeId} {x y:Operand} (ho:o.op=.index t x y) (hT:TOk cx.P c):OpOk cx o s nid (pIndex cx.P c t x (s.ev x) (s.ev y)):=by
 unfold pIndex
 split
 ·rename_i k n hy
  split
  ·rename_i b
   split
   ·rename_i hu
    exact ok_indexStr n ho hy hu
   ·exact bad_ok
  ·exact ok_indexV n ho hy hT
 ·exact bad_ok
end
end Go.Sx
namespace Go.Sx
section
variable {cx:Cx} {s:St} {o:Oper} {nid:Nat} {c:Ctx}
theorem ok_pCallG {hp:Nat→Option Blk} (hhp:∀ b k,hp b=some k→s.hp b=some k) (hE:c.pin=cx.np) {x:Operand} {args:List Operand} {ts:Array TypeId} {f:FuncId × List Ptr} {h:HSp} {g:List (Nat × Nat)} {X:h.xs.den} {Y:h.ys.den}
  (ho:o.op=.call { callee:=.value x,args:=args.toArray,argTypes:=ts }) (hx:s.ev x=.val .clo f) (hc:FnsOk cx.P c) (hfn:GOk cx.P f.1 h) :
  OpOk cx o s nid (pCallG c hp nid h (args.map s.ev++f.2.map AV.ofPtr) f.2 g X Y):=by
 unfold pCallG
 split
 ·rename_i b0 e l tid b1 e' l' tid' hpre hpost
  split
  ·rename_i hb
   simp only [Bool.and_eq_true] at hb
   obtain ⟨he,htid,hfl,hb0,hb1,hnp,_,hpin,hokB,hcaps⟩:=hb
   have hb0:=Nat.eq_of_beq_eq_true hb0
   have hb1:=Nat.eq_of_beq_eq_true hb1
   have htid:=Nat.eq_of_beq_eq_true htid
   have hnp:=Nat.eq_of_beq_eq_true hnp
   obtain rfl:=Ty.same_eq he
   subst hb0 hb1 htid
   split
   ·rename_i k0 hk0
    intro ρ F a w next Q hM hnF hob hn
    obtain ⟨hma,hmb,hg⟩:=hob
    have hf0:find (h.pre X) 0=some (.row e l tid):=by rw [hpre]; rfl
    have hk:s.hp (ren g 0)=some (.row e l tid):=by
     have:=find_of_map (g:=fun b:Nat × Blk=>some (b.2.ren (ren g))) (h:=fun b=>hp (ren g b)) hmb hf0
     exact hhp _ _ this.symm
    let Z:Nat→Prop:=fun r=>real (ρ (ren g 0))=some r
    have hls:Less cx ρ s (lessH g 1 hp) Z:=by
     have hsub:∀ b k,lessH g 1 hp b=some k→s.hp b=some k∧ren g 0≠b:=by
      intro b k hbk
      unfold lessH at hbk
      split at hbk
      ·cases hbk
      ·rename_i hf
       refine ⟨hhp _ _ hbk,fun e=>?_⟩
       have:((List.range 1).any fun j=>Nat.beq (ren g j) b)=true:=List.any_eq_true.2 ⟨0,List.mem_range.2 Nat.zero_lt_one,by rw [e]; exact Nat.beq_refl _⟩
       rw [this] at hf
       cases hf
     refine ⟨fun b k hbk=>(hsub b k hbk).1,fun b k r hbk hr hjr=>?_,fun r hjr hi=>?_⟩
     ·exact (hsub b k hbk).2 (hM.sep b (ren g 0) _ _ r (hsub b k hbk).1 hk hr hjr).symm
     ·exact hi.2 _ _ hk hjr
    have hcg:∀ p∈f.2,p.good ρ:=by
     intro p hp'
     have:=List.all_eq_true.1 hcaps p hp'
     split at this
     ·rename_i t y hk
      obtain ⟨r,tid,cur,hv,_⟩:=hM.blks p.b _ (hhp _ _ hk)
      exact ⟨⟨r,0,none⟩,rfl,fun q hq=>by unfold Ptr.val; rw [hq,hv]⟩
     ·cases this
    have hargs:=args_fit (vs:=args.map a.eval++f.2.map (·.val ρ)) hc hM hls (datLent (h.args X) (args.map s.ev++f.2.map AV.ofPtr)) (by simp) (fun i u v hu hv=>by
      by_cases hi:i<args.length
      ·rw [List.getElem?_append_left (by simpa using hi)] at hu hv
       exact evs_ok hM args i u v hu hv
      ·rw [List.getElem?_append_right (by simpa using hi)] at hu hv
       simp only [List.length_map] at hu hv
       rw [List.getElem?_map] at hu hv
       obtain ⟨z,hz,rfl⟩:=Option.map_eq_some_iff.1 hu
       rw [hz] at hv
       obtain rfl:=Option.some.inj hv
       exact RV_of_ptr (hcg z (List.mem_of_getElem? hz))) hma (fun h=>h)
    have hinv:=hfn w (okX cx ρ s w (datLent (h.args X) (args.map s.ev++f.2.map AV.ofPtr)) Z) (fun b=>ρ (ren g b)) X Y (args.map a.eval++f.2.map (·.val ρ))
     (fun b hb=>⟨hb.1.1,fun e=>hb.2 e⟩) (fun j=>hM.rho _)
     (fun k hj=>by
      rw [hf0] at hj
      obtain rfl:=Option.some.inj hj
      exact (RB.ren (k:=.row e l tid) (g:=ren g) (hM.blks _ _ hk)).mono (fun _ _=>rfl) (Pres.refl _ _) (okX_of_I hls) (fun _ _=>rfl))
     hargs hokB hg
    unfold Oper.wp
    rw [run_callH ho (RV_clo (by have:=(hM.ev x).1; rw [hx] at this; exact this))]
    have ee:(args.map a.eval).toArray++(f.2.map (·.val ρ)).toArray=(args.map a.eval++f.2.map (·.val ρ)).toArray:=by simp
    rw [ee]
    refine hinv o a next Q fun v w' hv=>?_
    obtain ⟨⟨xs',hro,hrd⟩,hone,hreal,hbx⟩:=hv e l' tid (by rw [hpost]; rfl)
    have hgr:GrB w w' (real (ρ (ren g 0))):=⟨⟨hbx.os,hbx.tape.eq,hbx.output,hbx.size,fun k hk hne=>hbx.block k hk (fun e=>hne e.symm)⟩,hbx.tape.le⟩
    have hgrow:=M.grow hM hnF (by rw [← hE]; exact Nat.le_of_ble_eq_true hpin) s.ok hk hgr hro (Rd.flat (t:=.arr l'.length e) hfl hrd) hone hreal
    exact hn (upd ρ nid v) v w' (M.put hgrow o.dst (av:=.val .own nid) ⟨[v],rfl,by show _=[upd ρ nid _ nid]; rw [upd_same]⟩ (fun b hb=>.inr (List.mem_singleton.1 hb)) s.ok)
   ·exact bad_ok
  ·exact bad_ok
 ·exact bad_ok
end
end Go.Sx
namespace Go.Sx
section
variable {cx:Cx} {s:St} {o:Oper} {nid:Nat} {c:Ctx}
theorem run_call {P:Program} {a:Act} {w:World} {x:Operand} {args:List Operand} {ts:Array TypeId} (ho:o.op=.call { callee:=.value x,args:=args.toArray,argTypes:=ts }) {f:FuncId} {caps:Array Value}
  (hx:a.eval x=.func (.func f) #[] caps):(execOp a.eval o).run P w=(callFunc f ((args.map a.eval).toArray++caps)).run P w:=by
 simp [execOp,ho,resolve,hx,Deferred.ofValue,invoke]
theorem ptrs_ok {ρ:Nat→Value} {F:Nat→Prop} {a:Act} {w:World} (_:M cx ρ F s a w):∀ (ps:List Ptr),(∀ p∈ps,p.good ρ)→∀ (i:Nat) (x:AV) (y:Value),(ps.map AV.ofPtr)[i]?=some x→(ps.map (·.val ρ))[i]?=some y→RV cx.P ρ w (cx.I ρ s) x y:=by
 intro ps hg i x y hx hy
 rw [List.getElem?_map] at hx hy
 obtain ⟨z,hz,rfl⟩:=Option.map_eq_some_iff.1 hx
 rw [hz] at hy
 obtain rfl:=Option.some.inj hy
 exact RV_of_ptr (hg z (List.mem_of_getElem? hz))
theorem decCaps_ptr {hp:Nat→Option Blk} {p:Ptr} {t:Ty} {x:t.den} (h:decPtr hp p t=some x):∃ t' ty y,t=.ref t'∧hp p.b=some (.cells ty y):=by
 cases t with
 | ref t' =>
  have h:derefP hp p t'=some x:=h
  unfold derefP at h
  split at h
  ·rename_i ty y hk
   exact ⟨t',ty,y,rfl,hk⟩
  ·cases h
 | _=>cases h
theorem good_of_blk {ρ:Nat→Value} {F:Nat→Prop} {a:Act} {w:World} (hM:M cx ρ F s a w) {p:Ptr} {ty:Ty} {y:ty.den} (hk:s.hp p.b=some (.cells ty y)):p.good ρ:=by
 obtain ⟨r,tid,cur,hv,_⟩:=hM.blks p.b _ hk
 exact ⟨⟨r,0,none⟩,rfl,fun q hq=>by unfold Ptr.val; rw [hq,hv]⟩
theorem decArgs_good {ρ:Nat→Value} {F:Nat→Prop} {a:Act} {w:World} (hM:M cx ρ F s a w) {hp:Nat→Option Blk} (hhp:∀ b k,hp b=some k→s.hp b=some k):∀ {ps:Ty} {avs:List AV} {x:ps.den},decArgs c hp ps avs=some x →
  ∀ p,.val .ptr p∈avs→p.good ρ:=by
 intro ps
 induction ps with
 | pair q r _ ihr =>
  intro avs x h p hp'
  cases avs with
  | nil=>cases hp'
  | cons av avs =>
   simp only [decArgs] at h
   split at h
   ·rename_i y z hy hz
    rcases List.mem_cons.1 hp' with rfl | hp'
    ·obtain ⟨t',ty,y',_,hk⟩:=decCaps_ptr (show decPtr hp p q=some y from hy)
     exact good_of_blk hM (hhp _ _ hk)
    ·exact ihr hz p hp'
   ·cases h
 | unit =>
  intro avs x h p hp'
  cases avs with
  | nil=>cases hp'
  | cons _ _=>cases h
 | _=>intro avs x h p hp'; cases avs <;> cases h
theorem ok_pCallBy {hp:Nat→Option Blk} (hhp:∀ b k,hp b=some k→s.hp b=some k) {x:Operand} {args:List Operand} {ts:Array TypeId} {g:FuncId × List Ptr} {sp:Spec} {y:sp.rs.den}
  (ho:o.op=.call { callee:=.value x,args:=args.toArray,argTypes:=ts }) (hx:s.ev x=.val .clo g) (hc:FnsOk cx.P c) (hfn:FnOkD cx.P g.1 sp.ps sp.rs sp.f):OpOk cx o s nid (pCallBy c hp nid sp (args.map s.ev++g.2.map AV.ofPtr) y):=by
 unfold pCallBy
 split
 ·rename_i z hz
  split
  ·rename_i hb
   simp only [Bool.and_eq_true,Bool.or_eq_true,Bool.not_eq_true'] at hb
   refine ok_called (rs:=sp.rs) (y:=y) rfl rfl (Nat.le_of_ble_eq_true hb.1.2) hb.1.1 fun ρ F a w hM hob=>?_
   refine ⟨(args.map s.ev++g.2.map AV.ofPtr).any AV.lent,fun hl=>?_,g.1,(args.map a.eval).toArray++(g.2.map (·.val ρ)).toArray,run_call ho (RV_clo (by have:=(hM.ev x).1; rw [hx] at this; exact this)),?_⟩
   ·rcases hb.2 with h | h
    ·rw [h] at hl; cases hl
    ·exact h
   ·have hgood:∀ p∈g.2,p.good ρ:=fun p hp'=>decArgs_good hM hhp hz p (List.mem_append.2 (.inr (List.mem_map_of_mem (f:=AV.ofPtr) hp')))
    have hargs:=args_sound (vs:=args.map a.eval++g.2.map (·.val ρ)) hc hM hhp ((args.map s.ev++g.2.map AV.ofPtr).any AV.lent) (by simp) (fun i u v hu hv=>by
      by_cases hi:i<args.length
      ·rw [List.getElem?_append_left (by simpa using hi)] at hu hv
       exact evs_ok hM args i u v hu hv
      ·rw [List.getElem?_append_right (by simpa using hi)] at hu hv
       simp only [List.length_map] at hu hv
       exact ptrs_ok hM g.2 hgood _ u v hu hv) hz (fun h=>h)
    have e:(args.map a.eval).toArray++(g.2.map (·.val ρ)).toArray=(args.map a.eval++g.2.map (·.val ρ)).toArray:=by simp
    rw [e]
    exact hfn w (okSet cx ρ s w ((args.map s.ev++g.2.map AV.ofPtr).any AV.lent)) z _ _ (fun b hb=>hb.1) hargs hob
  ·exact bad_ok
 ·exact bad_ok
theorem M.setW {ρ:Nat→Value} {F:Nat→Prop} {a:Act} {w:World} (h:M cx ρ F s a w) {b r:Nat} {k0 k:Blk} {w':World} (ok:Prop) (hb:s.hp b=some k0) (hr:real (ρ b)=some r) (hx:BelowX r w w')
  (hk:RB cx.P ρ w' (fun q=>(cx.I ρ s q∧q<w.heap.size)∨w.heap.size≤q) (ρ b) k) (hkr:∀ c∈k.refs,F c) (_hkc:k.isC=k0.isC) :
  M cx ρ F ⟨s.sl,upd s.hp b (some k),ok⟩ a w':=by
 have hdom:∀ c k',upd s.hp b (some k) c=some k'→∃ k'',s.hp c=some k'':=by
  intro c k' hc
  by_cases e:c=b
  ·subst e; exact ⟨_,hb⟩
  ·rw [upd_ne _ _ e] at hc; exact ⟨_,hc⟩
 have hI:∀ q,q<w.heap.size→cx.I ρ s q→cx.I ρ ⟨s.sl,upd s.hp b (some k),ok⟩ q:=by
  intro q _ hi
  refine ⟨hi.1,fun c k' hc hrr=>?_⟩
  obtain ⟨k'',hk''⟩:=hdom c k' hc
  exact hi.2 c k'' hk'' hrr
 have hpres:Pres (cx.I ρ s) w w':=⟨hx.size,fun q hq hi=>hx.block q hq (fun e=>hi.2 b k0 hb (by rw [hr,e]))⟩
 refine M.turn h ok (fun _ _=>rfl) (fun _ h=>h) hx.os hx.tape hx.output hx.size ?_ hI ?_ ?_ ?_ ?_ h.rho
 ·intro q hq hh
  refine hx.block q hq fun e=>?_
  rcases hh with hh | ⟨h1,h2⟩
  ·exact hh.2 b k0 hb (by rw [hr,e])
  ·rcases (h.fresh b k0 q hb (by rw [hr,e])).1 with h3 | h3
   ·exact h3.elim (fun h=>by omega) (fun h=>h2 (.inr h))
   ·exact h2 h3.1
 ·intro c k' hc
  by_cases e:c=b
  ·subst e
   rw [upd_same] at hc
   obtain rfl:=Option.some.inj hc
   refine hk.mono (fun _ _=>rfl) (Pres.refl _ _) (fun q hq hi=>?_) (fun _ _=>rfl)
   rcases hi with ⟨hi,hlt⟩ | hi
   ·exact hI q hlt hi
   ·refine ⟨.inr (.inl (Nat.le_trans h.size hi)),fun c' k' hc' hrr=>?_⟩
    obtain ⟨k'',hk''⟩:=hdom c' k' hc'
    have:=h.owned_lt hk'' hrr
    omega
  ·rw [upd_ne _ _ e] at hc
   exact (h.blks c k' hc).mono (fun _ _=>rfl) hpres hI (fun q hq=>hx.block q (h.owned_lt hc hq) (fun e'=>e (h.sep c b k' k0 r hc hb (by rw [hq,e']) hr)))
 ·intro c c' k1 k2 q h1 h2 h3 h4
  obtain ⟨q1,hq1⟩:=hdom c k1 h1
  obtain ⟨q2,hq2⟩:=hdom c' k2 h2
  exact h.sep c c' q1 q2 q hq1 hq2 h3 h4
 ·intro c k' q h1 h2
  by_cases e:c=b
  ·subst e
   rw [upd_same] at h1
   obtain rfl:=Option.some.inj h1
   have:=h.fresh c k0 q hb h2
   exact ⟨this.1,Nat.lt_of_lt_of_le this.2 hx.size⟩
  ·rw [upd_ne _ _ e] at h1
   have:=h.fresh c k' q h1 h2
   exact ⟨this.1,Nat.lt_of_lt_of_le this.2 hx.size⟩
 ·intro c k' hc
  by_cases e:c=b
  ·subst e
   rw [upd_same] at hc
   obtain rfl:=Option.some.inj hc
   exact ⟨(h.brefs c k0 hb).1,hkr⟩
  ·rw [upd_ne _ _ e] at hc
   exact h.brefs c k' hc
theorem Rs.vals_of_ok {P:Program} {w w':World} {ok X:Nat→Prop} {nid:Nat} {rs:Rs} {y:rs.den} {v:Value} (hok:rs.ok P w w' ok X y v) :
  ∃ vs:List Value,rs.vals P w w' ok X y vs∧∀ (ρ':Nat→Value) (I':Nat→Prop),Fits P w' ρ' I' (rs.avs nid y) vs→RV P ρ' w' I' (rs.av nid y) v:=by
 cases rs with
 | none =>
  obtain ⟨vs,rfl,hvs⟩:=hok
  exact ⟨vs,hvs,fun ρ' I' hfit=>⟨vs,rfl,hfit.1,hfit.2⟩⟩
 | one r =>
  refine ⟨[v],⟨v,rfl,hok⟩,fun ρ' I' hfit=>?_⟩
  cases r with
  | dp t=>exact hfit.2 0 _ _ rfl rfl
  | ow e tid=>exact hfit.2 0 _ _ rfl rfl
  | dn e =>
   have hok:RdV _ (.slice e) ρ0 _ _ y v∧(y=([]:List e.den)→v=.slice Option.none 0 0):=hok
   match y,hok,hfit with
   | [],hok,_=>exact hok.2 rfl
   | a :: l,_,hfit=>exact hfit.2 0 _ _ rfl rfl
 | more r rs =>
  obtain ⟨vs,rfl,hvs⟩:=hok
  exact ⟨vs,hvs,fun ρ' I' hfit=>⟨vs,rfl,hfit.1,hfit.2⟩⟩
theorem ok_pCallW {hp:Nat→Option Blk} (hhp:∀ b k,hp b=some k→s.hp b=some k) {x:Operand} {args:List Operand} {ts:Array TypeId} {f:FuncId}
  (ho:o.op=.call { callee:=.value x,args:=args.toArray,argTypes:=ts }) (hx:s.ev x=.val .clo (f,[])) (hc:FnsOk cx.P c) {ps:Ty} {rs:Rs} {g:ps.den→Option rs.den} {y:rs.den} (hfn:FnOkW cx.P f ps rs g) :
  OpOk cx o s nid (pCallW c hp nid ps rs g (args.map s.ev) y):=by
 unfold pCallW
 split
 ·rename_i t ps t' rs g p avs y hav
  split
  ·rename_i ty x0 hk
   split
   ·rename_i x1 z hx1 hz
    split
    ·rename_i hb
     simp only [Bool.and_eq_true,Bool.not_eq_true'] at hb
     obtain ⟨hco,htd,htd',hrd',how,hnl⟩:=hb
     have hco:=Nat.eq_of_beq_eq_true hco
     have how:=Nat.eq_of_beq_eq_true how
     obtain ⟨rfl,rfl⟩:=Ty.as?_some hx1
     intro ρ F a w next Q hM hnF hob hn
     have hk':=hhp _ _ hk
     obtain ⟨r,tid,cur,hv,hcur,hrd⟩:=hM.blks p.b _ hk'
     have hreal:real (ρ p.b)=some r:=by rw [hv]; rfl
     cases args with
     | nil=>cases hav
     | cons a0 as =>
      simp only [List.map_cons,List.cons.injEq] at hav
      obtain ⟨ha0,has⟩:=hav
      have hpv:a.eval a0=.pointer (some ⟨r,0,none⟩):=by
       have h1:=(hM.ev a0).1
       rw [ha0] at h1
       rw [RV_ptr h1]
       unfold Ptr.val
       rw [hv,hco]
       rfl
      have hhp':∀ b k,upd hp p.b none b=some k→s.hp b=some k:=by
       intro b k h
       by_cases e:b=p.b
       ·subst e; rw [upd_same] at h; cases h
       ·rw [upd_ne _ _ e] at h; exact hhp b k h
      subst has
      have hargs:=args_sound (vs:=as.map a.eval) hc hM hhp' false (by simp) (evs_ok hM as) hz (fun h=>by rw [hnl] at h; cases h)
      have hokI:∀ b,okSet cx ρ s w false b→cx.I ρ s b:=fun b hb=>hb.2.resolve_left (by simp)
      have hrd0:=(hrd.rho (ρ':=ρ0) (fun b hb=>by rw [Ty.deep_refs htd] at hb; cases hb)).mono (I':=okSet cx ρ s w false) (Pres.refl _ _) (fun q hq hi=>⟨hq,.inr hi⟩)
      have hinv:=hfn w (okSet cx ρ s w false) r tid cur _ z y.1 y.2 (as.map a.eval) (fun b hb=>⟨hb.1,fun e=>(hokI b hb).2 p.b _ hk' (by rw [hreal,e])⟩) hcur hrd0 hargs hob
      unfold Oper.wp
      rw [run_call ho (f:=f) (caps:=#[]) (RV_clo (by have:=(hM.ev x).1; rw [hx] at this; exact this))]
      have e:((a0 :: as).map a.eval).toArray++(#[]:Array Value)=(.pointer (some ⟨r,0,none⟩) :: as.map a.eval).toArray:=by simp [hpv]
      rw [e]
      refine hinv o a next Q fun v w' hres=>?_
      obtain ⟨⟨X,⟨cur',tid',hcur',hrd2⟩,hok'⟩,hbx⟩:=hres
      have hM':=M.setW (k:=.cells t' y.1) hM s.ok hk' hreal hbx ⟨r,tid',cur',hv,hcur',(hrd2.rho (fun b hb=>by have e0:=Ty.deep_refs (t:=t') (x:=y.1) htd'; have hb:b∈([]:List Nat):=e0 ▸ hb; cases hb)).mono (Pres.refl _ _) (fun q _ hi=>by
       rcases hi.1 with hi | hi
       ·exact .inl ⟨hokI q hi,hi.1⟩
       ·exact .inr hi)⟩ (fun b hb=>by
        have e0:=Ty.deep_refs (t:=t') (x:=y.1) htd'
        have hb:b∈([]:List Nat):=e0 ▸ hb
        cases hb) rfl
      obtain ⟨vs,hvs,hfit⟩:=Rs.vals_of_ok (nid:=nid) hok'
      obtain ⟨_,h1r,h2⟩:=vals0 (lent:=false) nid hvs how hrd' (fun h=>by cases h)
      refine hn ρ v w' ?_
      have hfits:=h2 ρ (cx.I ρ ⟨s.sl,upd s.hp p.b (some (.cells t' y.1)),s.ok⟩) (by
       intro tt yy vv hdeep _ ⟨cc,hcv,hcc⟩
       refine ⟨cc,hcv,(hcc.rho (fun b hb=>by rw [Ty.deep_refs hdeep] at hb; cases hb)).mono (Pres.refl _ _) fun q hq hi=>?_⟩
       have hdom:∀ c k',upd s.hp p.b (some (.cells t' y.1)) c=some k'→∃ k'',s.hp c=some k'':=by
        intro c k' hc'
        by_cases e:c=p.b
        ·subst e; exact ⟨_,hk'⟩
        ·rw [upd_ne _ _ e] at hc'; exact ⟨_,hc'⟩
       rcases hi.1 with hi' | hi'
       ·refine ⟨(hokI q hi').1,fun c k' hc' hrr=>?_⟩
        obtain ⟨k'',hk''⟩:=hdom c k' hc'
        exact (hokI q hi').2 c k'' hk'' hrr
       ·refine ⟨.inr (.inl (Nat.le_trans hM.size hi')),fun c k' hc' hrr=>?_⟩
        obtain ⟨k'',hk''⟩:=hdom c k' hc'
        have:=hM.owned_lt hk'' hrr
        omega)
      refine (M.put hM' o.dst (hfit ρ _ hfits) (fun b hb=>?_) s.ok).widen (fun b hb=>.inl hb)
      cases rs with
      | none=>cases hb
      | one r' =>
       cases r' with
       | dp tt =>
        have e0:tt.refs y.2=[]:=h1r _ (List.mem_singleton.2 rfl)
        have hb:b∈([]:List Nat):=e0 ▸ hb
        cases hb
       | ow e' tid'=>simp [Rs.ows,RT.ows] at how
       | dn e' =>
        obtain ⟨y1,y2⟩:=y
        match y2,hb with
        | [],hb=>cases hb
        | a :: l,hb =>
         have e0:(Ty.slice e').refs (a :: l)=[]:=Ty.deep_refs (t:=.slice e') hrd'
         have hb:b∈([]:List Nat):=e0 ▸ hb
         cases hb
      | more r' rs' =>
       obtain ⟨tt,ht,hbt⟩:=List.mem_flatMap.1 hb
       rw [h1r tt ht] at hbt
       cases hbt
    ·exact bad_ok
   ·exact bad_ok
  ·exact bad_ok
 ·exact bad_ok
theorem flat_deep:∀ {t:Ty},t.flat=true→t.deep=true:=by
 intro t
 induction t with
 | pair a b iha ihb=>intro h; simp only [Ty.flat,Bool.and_eq_true] at h; simp [Ty.deep,iha h.1,ihb h.2]
 | arr n e ih=>intro h; exact ih h
 | _=>intro h; first | rfl | cases h
theorem ok_pCallFn {hp:Nat→Option Blk} (hhp:∀ b k,hp b=some k→s.hp b=some k) {x:Operand} {args:List Operand} {ts:Array TypeId} {ps r:Ty} {g:ps.den→Option r.den} {y:r.den}
  (ho:o.op=.call { callee:=.value x,args:=args.toArray,argTypes:=ts }) (hx:s.ev x=.val (.fn ps r) g) (hc:FnsOk cx.P c):OpOk cx o s nid (pCallFn c hp g (args.map s.ev) y):=by
 unfold pCallFn
 split
 ·rename_i z hz
  split
  ·rename_i hfl
   refine ok_called (rs:=.one (.dp r)) (y:=y) rfl rfl (Nat.zero_le _) (flat_deep hfl) fun ρ F a w hM hob=>?_
   have h1:=(hM.ev x).1
   rw [hx] at h1
   obtain ⟨cs,hxv,f,caps,rfl,hfn⟩:=h1
   refine ⟨(args.map s.ev).any AV.lent,fun _=>hfl,f,(args.map a.eval).toArray++caps,run_call ho hxv,?_⟩
   have hargs:=args_sound (vs:=args.map a.eval) hc hM hhp ((args.map s.ev).any AV.lent) (by simp) (evs_ok hM args) hz (fun h=>h)
   have hres:=hfn w (Pres.refl _ _) (okSet cx ρ s w ((args.map s.ev).any AV.lent)) (fun b hb=>hb.1) z y _ hargs hob
   exact hres.mono fun v w' ⟨⟨cc,hv,hcc⟩,hb⟩=>⟨⟨fun _=>False,fun _ h=>h.elim,cc,hv,hcc.flat hfl⟩,hb⟩
  ·exact bad_ok
 ·exact bad_ok
theorem ok_pCallFn2 {hp:Nat→Option Blk} (hhp:∀ b k,hp b=some k→s.hp b=some k) {x:Operand} {args:List Operand} {ts:Array TypeId} {ps p q:Ty} {g:ps.den→Option (p.den × q.den)} {y:p.den × q.den}
  (ho:o.op=.call { callee:=.value x,args:=args.toArray,argTypes:=ts }) (hx:s.ev x=.val (.fn2 ps p q) g) (hc:FnsOk cx.P c):OpOk cx o s nid (pCallFn2 c hp g (args.map s.ev) y):=by
 unfold pCallFn2
 split
 ·rename_i z hz
  split
  ·rename_i hfl
   simp only [Bool.and_eq_true] at hfl
   refine ok_called (rs:=.more (.dp p) (.one (.dp q))) (y:=y) rfl rfl (Nat.zero_le _) (by simp [Rs.deep,RT.deep,flat_deep hfl.1,flat_deep hfl.2]) fun ρ F a w hM hob=>?_
   have h1:=(hM.ev x).1
   rw [hx] at h1
   obtain ⟨cs,hxv,f,caps,rfl,hfn⟩:=h1
   refine ⟨(args.map s.ev).any AV.lent,fun _=>by simp [Rs.flat,RT.flat,hfl.1,hfl.2],f,(args.map a.eval).toArray++caps,run_call ho hxv,?_⟩
   have hargs:=args_sound (vs:=args.map a.eval) hc hM hhp ((args.map s.ev).any AV.lent) (by simp) (evs_ok hM args) hz (fun h=>h)
   have hres:=hfn w (Pres.refl _ _) (okSet cx ρ s w ((args.map s.ev).any AV.lent)) (fun b hb=>hb.1) z y _ hargs hob
   exact hres.mono fun v w' ⟨⟨c1,c2,hv,h1,h2⟩,hb⟩=>⟨⟨fun _=>False,fun _ h=>h.elim,[mkV p c1,mkV q c2],hv,mkV p c1,[mkV q c2],rfl,⟨c1,rfl,h1.flat hfl.1⟩,mkV q c2,rfl,⟨c2,rfl,h2.flat hfl.2⟩⟩,hb⟩
  ·exact bad_ok
 ·exact bad_ok
theorem ok_pCall {hp:Nat→Option Blk} (hhp:∀ b k,hp b=some k→s.hp b=some k) {x:Operand} {args:List Operand} {ts:Array TypeId} {ans:Ans} {wr:Bool}
  (ho:o.op=.call { callee:=.value x,args:=args.toArray,argTypes:=ts }) (hE:c.pin=cx.np) (hc:FnsOk cx.P c) (hh:HsOk cx.P c):OpOk cx o s nid (pCall c hp nid wr (s.ev x) (args.map s.ev) ans):=by
 unfold pCall
 split
 ·split
  ·rename_i f hx
   split
   ·rename_i h hsp
    split
    ·have hk:=hh _ _ (find_mem hsp)
     unfold HOk at hk
     unfold pCallHG
     cases hgv:h.gv with
     | false=>rw [hgv] at hk; exact ok_pCallH hhp ho hx hc hk
     | true=>rw [hgv] at hk; exact ok_pCallG hhp hE ho hx hc hk
    ·exact bad_ok
   ·exact bad_ok
  ·exact bad_ok
 ·split
  ·rename_i g hx
   split
   ·rename_i sp hsp
    split
    ·have hfn:=hc _ _ (find_mem hsp)
     unfold pCallS
     unfold FnOk at hfn
     split
     ·rename_i hwr
      rw [hwr] at hfn
      exact ok_pCallBy hhp ho hx hc hfn
     ·rename_i hwr hg
      rw [hwr] at hfn
      simp only [Bool.and_eq_true,List.isEmpty_iff] at hg
      have hg2:=hg.2
      obtain ⟨g1,g2⟩:=g
      simp only at hg2
      subst hg2
      rw [List.map_nil,List.append_nil]
      exact ok_pCallW hhp ho hx hc hfn
     ·exact bad_ok
    ·exact bad_ok
   ·exact bad_ok
  ·rename_i ps r g hx
   split
   ·exact ok_pCallFn hhp ho hx hc
   ·exact bad_ok
  ·rename_i ps p q g hx
   split
   ·exact ok_pCallFn2 hhp ho hx hc
   ·exact bad_ok
  ·exact bad_ok
 ·exact bad_ok
end
end Go.Sx
