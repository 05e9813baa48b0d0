import Derived.Below
import Derived.Laws.AppendOwn
import Derived.Orders
import Derived.KernelRfl
import Derived.Laws.Rows
import Derived.Laws.Tables
import Derived.Laws.CopyRow
import Derived.Laws.Entries
namespace Go.Sx
inductive Ty where
 | int (k:IntKind)
 | bool
 | unit
 | nil
 | nilf
 | pair (a b:Ty)
 | slice (e:Ty)
 | arr (n:Nat) (e:Ty)
 | own
 | ptr
 | clo
 | fn (ps r:Ty)
 | fn2 (ps a b:Ty)
 | ref (t:Ty)
def Ty.same:Ty→Ty→Bool
 | .int k,.int k'=>decide (k=k')
 | .bool,.bool=>true
 | .unit,.unit=>true
 | .nil,.nil=>true
 | .nilf,.nilf=>true
 | .pair a b,.pair c d=>a.same c && b.same d
 | .slice e,.slice e'=>e.same e'
 | .arr n e,.arr m e'=>Nat.beq n m && e.same e'
 | .own,.own=>true
 | .ptr,.ptr=>true
 | .clo,.clo=>true
 | .fn p r,.fn p' r'=>p.same p' && r.same r'
 | .fn2 p a b,.fn2 p' a' b'=>p.same p' && (a.same a' && b.same b')
 | .ref t,.ref t'=>t.same t'
 | _,_=>false
theorem Ty.same_eq:∀ {a b:Ty},a.same b=true→a=b:=by
 intro a
 induction a with
 | int k=>intro b h; cases b <;> simp [Ty.same] at h; rw [h]
 | bool=>intro b h; cases b <;> simp [Ty.same] at h; rfl
 | unit=>intro b h; cases b <;> simp [Ty.same] at h; rfl
 | nil=>intro b h; cases b <;> simp [Ty.same] at h; rfl
 | nilf=>intro b h; cases b <;> simp [Ty.same] at h; rfl
 | pair a b iha ihb=>intro c h; cases c <;> simp [Ty.same] at h; rw [iha h.1,ihb h.2]
 | slice e ih=>intro c h; cases c <;> simp [Ty.same] at h; rw [ih h]
 | arr n e ih=>intro c h; cases c <;> simp [Ty.same] at h; rw [h.1,ih h.2]
 | own=>intro b h; cases b <;> simp [Ty.same] at h; rfl
 | ptr=>intro b h; cases b <;> simp [Ty.same] at h; rfl
 | clo=>intro b h; cases b <;> simp [Ty.same] at h; rfl
 | fn p r ihp ihr=>intro c h; cases c <;> simp [Ty.same] at h; rw [ihp h.1,ihr h.2]
 | fn2 p a b ihp iha ihb=>intro c h; cases c <;> simp [Ty.same] at h; rw [ihp h.1,iha h.2.1,ihb h.2.2]
 | ref t ih=>intro c h; cases c <;> simp [Ty.same] at h; rw [ih h]
structure Ptr where
 b:Nat
 off:Nat
 i:Int
 es:Nat
 inner:Nat
def Ptr.co (p:Ptr):Nat:=p.off+p.i.toNat*p.es+p.inner
def Ty.den:Ty→Type
 | .int _=>Int
 | .bool=>Bool
 | .unit=>Unit
 | .nil=>Unit
 | .nilf=>Unit
 | .pair a b=>a.den × b.den
 | .slice e=>List e.den
 | .arr _ e=>List e.den
 | .own=>Nat
 | .ptr=>Ptr
 | .clo=>FuncId × List Ptr
 | .fn ps r=>ps.den→Option r.den
 | .fn2 ps a b=>ps.den→Option (a.den × b.den)
 | .ref t=>t.den
def Ty.size:Ty→Nat
 | .pair a b=>a.size+b.size
 | .arr n e=>n*e.size
 | .unit=>0
 | _=>1
def Ty.agg:Ty→Bool
 | .pair _ _=>true
 | .arr _ _=>true
 | .unit=>true
 | _=>false
def Ty.as? (a b:Ty) (x:a.den):Option b.den:=if h:a.same b=true then some (Ty.same_eq h ▸ x) else none
theorem Ty.as?_some {a b:Ty} {x:a.den} {y:b.den} (h:Ty.as? a b x=some y):∃ e:a=b,y=e ▸ x:=by
 unfold Ty.as? at h
 split at h
 ·rename_i hs
  exact ⟨Ty.same_eq hs,(Option.some.inj h).symm⟩
 ·cases h
def mkV (t:Ty) (cs:List Value):Value:=if t.agg then .agg cs.toArray else cs.headD undef
def CellsAt (w:World) (ad:Addr) (cs:List Value):Prop:=∀ j v,cs[j]?=some v→w.cell? (ad.add j)=some v
def Ptr.val (ρ:Nat→Value) (p:Ptr):Value :=
 match ρ p.b with
 | .pointer (some a)=>.pointer (some (a.add p.co))
 | .slice (some a) _ _=>.pointer (some (a.add p.co))
 | _=>.nilFunc
def Ptr.good (ρ:Nat→Value) (p:Ptr):Prop:=∃ ad:Addr,ad.spot=none∧∀ q:Ptr,q.b=p.b→q.val ρ=.pointer (some (ad.add q.co))
def ρ0:Nat→Value:=fun _=>.nilFunc
theorem ρ0_one (b:Nat):(ρ0 b).oneCell'=true:=rfl
structure Tp (w w':World):Prop where
 eq:w'.tape=w.tape
 le:w.drawn≤w'.drawn
theorem Tp.refl (w:World):Tp w w:=⟨rfl,Nat.le_refl _⟩
theorem Tp.trans {a b c:World} (h':Tp b c) (h:Tp a b):Tp a c:=⟨h'.eq.trans h.eq,Nat.le_trans h.le h'.le⟩
structure Below (B:Nat) (w w':World):Prop where
 os:w'.os=w.os
 tape:Tp w w'
 output:w'.output=w.output
 size:w.heap.size≤w'.heap.size
 block:∀ k,k<B→w'.heap[k]?=w.heap[k]?
theorem Below.kit {B:Nat} {w w':World} (h:Below B w w'):Go.RowKit.Below B w w':=⟨h.os,h.tape.eq,h.output,h.size,h.block⟩
theorem Below.of {B:Nat} {w w':World} (h:Go.RowKit.Below B w w') (g:w.drawn≤w'.drawn):Below B w w':=⟨h.os,⟨h.tape,g⟩,h.output,h.size,h.block⟩
theorem Below.refl (B:Nat) (w:World):Below B w w:=⟨rfl,Tp.refl w,rfl,Nat.le_refl _,fun _ _=>rfl⟩
theorem Below.drew {B:Nat} {a w:World} (h:Below B a w):Below B a w.drew:=⟨h.os,⟨h.tape.eq,Nat.le_succ_of_le h.tape.le⟩,h.output,h.size,h.block⟩
theorem Below.alloc {B:Nat} {a w:World} (h:Below B a w) (hB:B≤w.heap.size) (o:Obj):Below B a (w.alloc o):=.of (h.kit.alloc hB o) h.tape.le
def InvOk (P:Program) (f:FuncId) (args:Array Value) (w:World) (R:Value→World→Prop):Prop :=
 ∀ (o:Oper) (a:Act) (next:Act→World→Prop) (Q:Exit→Act→World→Prop),(∀ v w',R v w'→next (a.put o.dst v) w') →
  o.upon P a next Q ((callFunc f args).run P w)
def Pres (I:Nat→Prop) (w w':World):Prop:=w.heap.size≤w'.heap.size∧∀ r,r<w.heap.size→I r→w'.heap[r]?=w.heap[r]?
def Rd (P:Program):(t:Ty)→(args:Bool)→(Nat→Value)→World→(Nat→Prop)→t.den→List Value→Prop
 | .int k,false,_,_,_,n,cs=>cs=[.int k n]
 | .bool,false,_,_,_,b,cs=>cs=[.bool b]
 | .nil,false,_,_,_,_,cs=>cs=[.slice none 0 0]
 | .nilf,false,_,_,_,_,cs=>cs=[.nilFunc]
 | .unit,_,_,_,_,_,cs=>cs=[]
 | .pair a b,false,ρ,w,I,x,cs=>∃ c1 c2,cs=c1++c2∧Rd P a false ρ w I x.1 c1∧Rd P b false ρ w I x.2 c2
 | .pair a b,true,ρ,w,I,x,cs=>∃ c1 vs,cs=mkV a c1 :: vs∧Rd P a false ρ w I x.1 c1∧Rd P b true ρ w I x.2 vs
 | .slice e,false,_,w,I,(l:List e.den),cs=>∃ A cap,cs=[.slice A l.length cap]∧l.length≤cap ∧
   (l=[]∨∃ ad,A=some ad∧ad.spot=none∧I ad.block∧ad.block<w.heap.size ∧
    ∀ (i:Nat) (x:e.den),l[i]?=some x→∃ c,CellsAt w (ad.add (i*e.size)) c∧Rd P e false ρ0 w I x c)
 | .arr n e,false,ρ,w,I,(l:List e.den),cs=>l.length=n∧∃ css:List (List Value),cs=css.flatten∧css.length=n ∧
    ∀ (i:Nat) (x:e.den) (c:List Value),l[i]?=some x→css[i]?=some c→Rd P e false ρ w I x c
 | .own,false,ρ,_,_,b,cs=>cs=[ρ b]
 | .ptr,false,ρ,_,_,p,cs=>cs=[p.val ρ]∧p.good ρ
 | .clo,false,ρ,_,_,c,cs=>cs=[.func (.func c.1) #[] (c.2.map (·.val ρ)).toArray]
 | .fn ps r,false,_,w,I,g,cs=>∃ f caps,cs=[.func (.func f) #[] caps] ∧
   ∀ w',Pres I w w'→∀ ok:Nat→Prop,(∀ b,ok b→b<w'.heap.size)→∀ x y args,Rd P ps true ρ0 w' ok x args→g x=some y →
    InvOk P f (args.toArray++caps) w' fun v w''=>(∃ c,v=mkV r c∧Rd P r false ρ0 w'' (fun b=>ok b∨(I b∧b<w.heap.size)∨w'.heap.size≤b) y c)∧Below w'.heap.size w' w''
 | .fn2 ps a b,false,_,w,I,g,cs=>∃ f caps,cs=[.func (.func f) #[] caps] ∧
   ∀ w',Pres I w w'→∀ ok:Nat→Prop,(∀ b,ok b→b<w'.heap.size)→∀ x y args,Rd P ps true ρ0 w' ok x args→g x=some y →
    InvOk P f (args.toArray++caps) w' fun v w''=>(∃ c1 c2,v=.tuple #[mkV a c1,mkV b c2]∧Rd P a false ρ0 w'' (fun b=>ok b∨(I b∧b<w.heap.size)∨w'.heap.size≤b) y.1 c1 ∧
     Rd P b false ρ0 w'' (fun b=>ok b∨(I b∧b<w.heap.size)∨w'.heap.size≤b) y.2 c2)∧Below w'.heap.size w' w''
 | .ref t,false,_,w,I,x,cs=>∃ ad c,cs=[.pointer (some ad)]∧ad.spot=none∧I ad.block∧ad.block<w.heap.size∧CellsAt w ad c∧Rd P t false ρ0 w I x c
 | _,true,_,_,_,_,_=>False
theorem flatten_len {α β:Type} (m:Nat) (R:α→List β→Prop) (hR:∀ x c,R x c→c.length=m):∀ (l:List α) (css:List (List β)),l.length=css.length →
  (∀ (i:Nat) (x:α) (c:List β),l[i]?=some x→css[i]?=some c→R x c)→css.flatten.length=css.length*m:=by
 intro l
 induction l with
 | nil=>intro css hcl _; have:css=[]:=List.eq_nil_of_length_eq_zero hcl.symm; subst this; simp
 | cons y l ihl =>
  intro css hcl hr
  cases css with
  | nil=>simp at hcl
  | cons c css =>
   have h0:=hR _ _ (hr 0 y c rfl rfl)
   have h1:=ihl css (by simpa using hcl) (fun i x c hx hc=>hr (i+1) x c (by simpa using hx) (by simpa using hc))
   simp only [List.flatten_cons,List.length_append,h0,h1,List.length_cons,Nat.add_mul]
   omega
theorem Rd.length {P:Program}:∀ {t:Ty} {ρ:Nat→Value} {w:World} {I:Nat→Prop} {x:t.den} {cs:List Value},Rd P t false ρ w I x cs→cs.length=t.size:=by
 intro t
 induction t with
 | pair a b iha ihb =>
  intro ρ w I x cs h
  obtain ⟨c1,c2,rfl,h1,h2⟩:=h
  simp [Ty.size,iha h1,ihb h2]
 | arr n e ih =>
  intro ρ w I x cs h
  obtain ⟨hl,css,rfl,hn,hi⟩:=h
  have:=flatten_len e.size (fun x c=>Rd P e false ρ w I x c) (fun _ _ h=>ih h) x css (by rw [hl,hn]) hi
  simpa [Ty.size,hn] using this
 | unit=>intro ρ w I x cs h; simp only [Rd] at h; subst h; rfl
 | int k=>intro ρ w I x cs h; simp only [Rd] at h; subst h; rfl
 | bool=>intro ρ w I x cs h; simp only [Rd] at h; subst h; rfl
 | nil=>intro ρ w I x cs h; simp only [Rd] at h; subst h; rfl
 | nilf=>intro ρ w I x cs h; simp only [Rd] at h; subst h; rfl
 | own=>intro ρ w I x cs h; simp only [Rd] at h; subst h; rfl
 | ptr=>intro ρ w I x cs h; obtain ⟨rfl,_⟩:=h; rfl
 | clo=>intro ρ w I x cs h; simp only [Rd] at h; subst h; rfl
 | slice e _=>intro ρ w I x cs h; obtain ⟨A,cap,rfl,_⟩:=h; rfl
 | fn p r _ _=>intro ρ w I x cs h; obtain ⟨f,caps,rfl,_⟩:=h; rfl
 | fn2 p a b _ _ _=>intro ρ w I x cs h; obtain ⟨f,caps,rfl,_⟩:=h; rfl
 | ref t _=>intro ρ w I x cs h; obtain ⟨ad,c,rfl,_⟩:=h; rfl
theorem CellsAt.pres {w w':World} {ad:Addr} {c:List Value} (h:CellsAt w ad c) (hb:w'.heap[ad.block]?=w.heap[ad.block]?):CellsAt w' ad c:=by
 intro j v hv
 have h1:=h j v hv
 have hbl:(ad.add j).block=ad.block:=by unfold Addr.add; split <;> rfl
 exact (World.cell?_of_block (w:=w) (w':=w') (a:=ad.add j) (by rw [hbl]; exact hb)).trans h1
theorem Pres.refl (I:Nat→Prop) (w:World):Pres I w w:=⟨Nat.le_refl _,fun _ _ _=>rfl⟩
theorem Pres.trans {I I':Nat→Prop} {a b c:World} (h:Pres I a b) (hI:∀ r,r<a.heap.size→I r→I' r) (h':Pres I' b c):Pres I a c :=
 ⟨Nat.le_trans h.1 h'.1,fun r hr hi=>(h'.2 r (Nat.lt_of_lt_of_le hr h.1) (hI r hr hi)).trans (h.2 r hr hi)⟩
theorem InvOk.mono {P:Program} {f:FuncId} {args:Array Value} {w:World} {R R':Value→World→Prop} (h:InvOk P f args w R) (hr:∀ v w',R v w'→R' v w'):InvOk P f args w R' :=
 fun o a next Q hn=>h o a next Q fun v w' hv=>hn v w' (hr v w' hv)
theorem Rd.mono {P:Program}:∀ {t:Ty} {args:Bool} {ρ:Nat→Value} {w w':World} {I I':Nat→Prop} {x:t.den} {cs:List Value},
  Rd P t args ρ w I x cs→Pres I w w'→(∀ r,r<w.heap.size→I r→I' r)→Rd P t args ρ w' I' x cs:=by
 intro t
 induction t with
 | pair a b iha ihb =>
  intro args ρ w w' I I' x cs h hp hI
  cases args with
  | false=>obtain ⟨c1,c2,rfl,h1,h2⟩:=h; exact ⟨c1,c2,rfl,iha h1 hp hI,ihb h2 hp hI⟩
  | true=>obtain ⟨c1,c2,rfl,h1,h2⟩:=h; exact ⟨c1,c2,rfl,iha h1 hp hI,ihb h2 hp hI⟩
 | arr n e ih =>
  intro args ρ w w' I I' x cs h hp hI
  cases args with
  | false=>obtain ⟨hl,css,rfl,hn,hi⟩:=h; exact ⟨hl,css,rfl,hn,fun i x c hx hc=>ih (hi i x c hx hc) hp hI⟩
  | true=>exact h.elim
 | slice e ih =>
  intro args ρ w w' I I' x cs h hp hI
  cases args with
  | true=>exact h.elim
  | false =>
   obtain ⟨A,cap,rfl,hc,h⟩:=h
   refine ⟨A,cap,rfl,hc,?_⟩
   rcases h with h | ⟨ad,h1,h2,h3,h4,h5⟩
   ·exact .inl h
   ·refine .inr ⟨ad,h1,h2,hI _ h4 h3,Nat.lt_of_lt_of_le h4 hp.1,fun i x hx=>?_⟩
    obtain ⟨c,hc,hr⟩:=h5 i x hx
    refine ⟨c,hc.pres ?_,ih hr hp hI⟩
    have hbl:(ad.add (i*e.size)).block=ad.block:=by unfold Addr.add; split <;> rfl
    rw [hbl]
    exact hp.2 _ h4 h3
 | fn2 ps a b _ iha ihb =>
  intro args ρ w w' I I' x cs h hp hI
  cases args with
  | true=>exact h.elim
  | false =>
   obtain ⟨f,caps,rfl,h⟩:=h
   refine ⟨f,caps,rfl,fun w2 hp2 ok hok x y args hx hy=>(h w2 (hp.trans hI hp2) ok hok x y args hx hy).mono ?_⟩
   rintro v w3 ⟨⟨c1,c2,rfl,hc1,hc2⟩,hb⟩
   have key:∀ q,q<w3.heap.size→(ok q∨(I q∧q<w.heap.size)∨w2.heap.size≤q)→(ok q∨(I' q∧q<w'.heap.size)∨w2.heap.size≤q):=by
    rintro q _ (hq | ⟨hq,hq'⟩ | hq)
    ·exact .inl hq
    ·exact .inr (.inl ⟨hI q hq' hq,Nat.lt_of_lt_of_le hq' hp.1⟩)
    ·exact .inr (.inr hq)
   exact ⟨⟨c1,c2,rfl,iha hc1 (Pres.refl _ _) key,ihb hc2 (Pres.refl _ _) key⟩,hb⟩
 | fn ps r _ ihr =>
  intro args ρ w w' I I' x cs h hp hI
  cases args with
  | true=>exact h.elim
  | false =>
   obtain ⟨f,caps,rfl,h⟩:=h
   refine ⟨f,caps,rfl,fun w2 hp2 ok hok x y args hx hy=>(h w2 (hp.trans hI hp2) ok hok x y args hx hy).mono ?_⟩
   rintro v w3 ⟨⟨c,rfl,hc⟩,hb⟩
   refine ⟨⟨c,rfl,ihr hc (Pres.refl _ _) ?_⟩,hb⟩
   rintro q _ (hq | ⟨hq,hq'⟩ | hq)
   ·exact .inl hq
   ·exact .inr (.inl ⟨hI q hq' hq,Nat.lt_of_lt_of_le hq' hp.1⟩)
   ·exact .inr (.inr hq)
 | ref t ih =>
  intro args ρ w w' I I' x cs h hp hI
  cases args with
  | true=>exact h.elim
  | false =>
   obtain ⟨ad,c,rfl,h2,h3,h4,h5,h6⟩:=h
   exact ⟨ad,c,rfl,h2,hI _ h4 h3,Nat.lt_of_lt_of_le h4 hp.1,h5.pres (hp.2 _ h4 h3),ih h6 hp hI⟩
 | unit=>intro args ρ w w' I I' x cs h hp hI; cases args <;> exact h
 | int k=>intro args ρ w w' I I' x cs h hp hI; cases args <;> exact h
 | bool=>intro args ρ w w' I I' x cs h hp hI; cases args <;> exact h
 | nil=>intro args ρ w w' I I' x cs h hp hI; cases args <;> exact h
 | nilf=>intro args ρ w w' I I' x cs h hp hI; cases args <;> exact h
 | own=>intro args ρ w w' I I' x cs h hp hI; cases args <;> exact h
 | ptr=>intro args ρ w w' I I' x cs h hp hI; cases args <;> exact h
 | clo=>intro args ρ w w' I I' x cs h hp hI; cases args <;> exact h
def Ty.deep:Ty→Bool
 | .own=>false
 | .ptr=>false
 | .clo=>false
 | .pair a b=>a.deep && b.deep
 | .arr _ e=>e.deep
 | _=>true
def Ty.refs:(t:Ty)→t.den→List Nat
 | .own,b=>[b]
 | .ptr,p=>[p.b]
 | .clo,c=>c.2.map (·.b)
 | .pair a b,x=>a.refs x.1++b.refs x.2
 | .arr _ e,(l:List e.den)=>if e.deep then [] else l.flatMap e.refs
 | _,_=>[]
theorem Ptr.val_congr {ρ ρ':Nat→Value} {p:Ptr} (h:ρ' p.b=ρ p.b):p.val ρ'=p.val ρ:=by unfold Ptr.val; rw [h]
theorem Ty.deep_refs:∀ {t:Ty} {x:t.den},t.deep=true→t.refs x=[]:=by
 intro t
 induction t with
 | pair a b iha ihb=>intro x h; simp [Ty.deep] at h; simp [Ty.refs,iha h.1,ihb h.2]
 | arr n e _=>intro x h; simp only [Ty.deep] at h; simp [Ty.refs,h]
 | own=>intro x h; simp [Ty.deep] at h
 | ptr=>intro x h; simp [Ty.deep] at h
 | clo=>intro x h; simp [Ty.deep] at h
 | _=>intros; rfl
theorem Rd.rho {P:Program}:∀ {t:Ty} {args:Bool} {ρ ρ':Nat→Value} {w:World} {I:Nat→Prop} {x:t.den} {cs:List Value},
  Rd P t args ρ w I x cs→(∀ b∈t.refs x,ρ' b=ρ b)→Rd P t args ρ' w I x cs:=by
 intro t
 induction t with
 | pair a b iha ihb =>
  intro args ρ ρ' w I x cs h hr
  simp only [Ty.refs,List.mem_append] at hr
  cases args with
  | false=>obtain ⟨c1,c2,rfl,h1,h2⟩:=h; exact ⟨c1,c2,rfl,iha h1 (fun b hb=>hr b (.inl hb)),ihb h2 (fun b hb=>hr b (.inr hb))⟩
  | true=>obtain ⟨c1,c2,rfl,h1,h2⟩:=h; exact ⟨c1,c2,rfl,iha h1 (fun b hb=>hr b (.inl hb)),ihb h2 (fun b hb=>hr b (.inr hb))⟩
 | arr n e ih =>
  intro args ρ ρ' w I x cs h hr
  cases args with
  | true=>exact h.elim
  | false =>
   obtain ⟨hl,css,rfl,hn,hi⟩:=h
   refine ⟨hl,css,rfl,hn,fun i y c hy hc=>ih (hi i y c hy hc) fun b hb=>hr b ?_⟩
   simp only [Ty.refs]
   split
   ·rename_i hd
    rw [Ty.deep_refs hd] at hb
    cases hb
   ·exact List.mem_flatMap.2 ⟨y,List.mem_of_getElem? hy,hb⟩
 | own =>
  intro args ρ ρ' w I x cs h hr
  cases args with
  | true=>exact h.elim
  | false=>simp only [Rd] at h ⊢; rw [h,hr x (List.mem_singleton.2 rfl)]
 | ptr =>
  intro args ρ ρ' w I x cs h hr
  cases args with
  | true=>exact h.elim
  | false =>
   obtain ⟨rfl,ad,hs,hg⟩:=h
   have hx:=hr x.b (List.mem_singleton.2 rfl)
   exact ⟨by rw [Ptr.val_congr hx],ad,hs,fun q hq=>by rw [Ptr.val_congr (ρ:=ρ) (ρ':=ρ') (by rw [hq]; exact hx)]; exact hg q hq⟩
 | clo =>
  intro args ρ ρ' w I x cs h hr
  cases args with
  | true=>exact h.elim
  | false =>
   simp only [Rd] at h ⊢
   rw [h]
   congr 3
   exact List.map_congr_left fun p hp=>(Ptr.val_congr (hr p.b (by simp only [Ty.refs]; exact List.mem_map_of_mem hp))).symm
 | unit=>intro args ρ ρ' w I x cs h hr; cases args <;> exact h
 | int k=>intro args ρ ρ' w I x cs h hr; cases args <;> exact h
 | bool=>intro args ρ ρ' w I x cs h hr; cases args <;> exact h
 | nil=>intro args ρ ρ' w I x cs h hr; cases args <;> exact h
 | nilf=>intro args ρ ρ' w I x cs h hr; cases args <;> exact h
 | slice e _=>intro args ρ ρ' w I x cs h hr; cases args <;> exact h
 | fn ps r _ _=>intro args ρ ρ' w I x cs h hr; cases args <;> exact h
 | fn2 ps a b _ _ _=>intro args ρ ρ' w I x cs h hr; cases args <;> exact h
 | ref t _=>intro args ρ ρ' w I x cs h hr; cases args <;> exact h
def RdV (P:Program) (t:Ty) (ρ:Nat→Value) (w:World) (I:Nat→Prop) (x:t.den) (v:Value):Prop:=∃ c,v=mkV t c∧Rd P t false ρ w I x c
theorem Rd.cellsV {P:Program}:∀ {t:Ty} {ρ:Nat→Value} {w:World} {I:Nat→Prop} {x:t.den} {c:List Value},Rd P t false ρ w I x c →
  (∀ b,(ρ b).oneCell'=true)→(mkV t c).cells=c.toArray:=by
 intro t ρ w I x c h hρ'
 have hρ:∀ b,(ρ b).cells=#[ρ b]:=fun b=>by have:=hρ' b; revert this; cases ρ b <;> intro h <;> first | rfl | cases h
 unfold mkV
 split
 ·rfl
 ·rename_i ha
  cases t <;> simp [Ty.agg] at ha
  case int k=>simp only [Rd] at h; subst h; rfl
  case bool=>simp only [Rd] at h; subst h; rfl
  case nil=>simp only [Rd] at h; subst h; rfl
  case nilf=>simp only [Rd] at h; subst h; rfl
  case slice e=>obtain ⟨A,cap,rfl,_⟩:=h; rfl
  case own=>simp only [Rd] at h; subst h; exact hρ x
  case ptr =>
   obtain ⟨rfl,_⟩:=h
   show (Ptr.val ρ x).cells=_
   have:∀ v:Value,v=Ptr.val ρ x→v.cells=#[v]:=by
    intro v hv
    unfold Ptr.val at hv
    split at hv <;> subst hv <;> rfl
   exact this _ rfl
  case clo=>simp only [Rd] at h; subst h; rfl
  case fn ps r=>obtain ⟨f,caps,rfl,_⟩:=h; rfl
  case fn2 ps a b=>obtain ⟨f,caps,rfl,_⟩:=h; rfl
  case ref t=>obtain ⟨ad,c,rfl,_⟩:=h; rfl
theorem Rd.one {P:Program}:∀ {t:Ty} {ρ:Nat→Value} {w:World} {I:Nat→Prop} {x:t.den} {c:List Value},Rd P t false ρ w I x c →
  (∀ b,(ρ b).oneCell'=true)→∀ v∈c,v.oneCell'=true:=by
 intro t
 induction t with
 | pair a b iha ihb =>
  intro ρ w I x c h hρ v hv
  obtain ⟨c1,c2,rfl,h1,h2⟩:=h
  rcases List.mem_append.1 hv with hv | hv
  ·exact iha h1 hρ v hv
  ·exact ihb h2 hρ v hv
 | arr n e ih =>
  intro ρ w I x c h hρ v hv
  obtain ⟨hl,css,rfl,hn,hi⟩:=h
  obtain ⟨c,hc,hv⟩:=List.mem_flatten.1 hv
  obtain ⟨i,hi',hci⟩:=List.mem_iff_getElem.1 hc
  have hlt:i<List.length x:=by rw [hl,← hn]; exact hi'
  exact ih (hi i (List.get x ⟨i,hlt⟩) c (List.getElem?_eq_getElem hlt) (by rw [List.getElem?_eq_getElem hi',hci])) hρ v hv
 | unit=>intro ρ w I x c h hρ v hv; simp only [Rd] at h; subst h; cases hv
 | int k=>intro ρ w I x c h hρ v hv; simp only [Rd] at h; subst h; obtain rfl:=List.mem_singleton.1 hv; rfl
 | bool=>intro ρ w I x c h hρ v hv; simp only [Rd] at h; subst h; obtain rfl:=List.mem_singleton.1 hv; rfl
 | nil=>intro ρ w I x c h hρ v hv; simp only [Rd] at h; subst h; obtain rfl:=List.mem_singleton.1 hv; rfl
 | nilf=>intro ρ w I x c h hρ v hv; simp only [Rd] at h; subst h; obtain rfl:=List.mem_singleton.1 hv; rfl
 | own=>intro ρ w I x c h hρ v hv; simp only [Rd] at h; subst h; obtain rfl:=List.mem_singleton.1 hv; exact hρ x
 | ptr =>
  intro ρ w I x c h hρ v hv
  obtain ⟨rfl,_⟩:=h
  obtain rfl:=List.mem_singleton.1 hv
  unfold Ptr.val
  split <;> rfl
 | clo=>intro ρ w I x c h hρ v hv; simp only [Rd] at h; subst h; obtain rfl:=List.mem_singleton.1 hv; rfl
 | slice e _=>intro ρ w I x c h hρ v hv; obtain ⟨A,cap,rfl,_⟩:=h; obtain rfl:=List.mem_singleton.1 hv; rfl
 | fn p r _ _=>intro ρ w I x c h hρ v hv; obtain ⟨f,caps,rfl,_⟩:=h; obtain rfl:=List.mem_singleton.1 hv; rfl
 | fn2 p a b _ _ _=>intro ρ w I x c h hρ v hv; obtain ⟨f,caps,rfl,_⟩:=h; obtain rfl:=List.mem_singleton.1 hv; rfl
 | ref t _=>intro ρ w I x c h hρ v hv; obtain ⟨ad,c,rfl,_⟩:=h; obtain rfl:=List.mem_singleton.1 hv; rfl
end Go.Sx
namespace Go.Sx
def Ty.zero:(t:Ty)→t.den
 | .int _=>(0:Int)
 | .bool=>false
 | .nil=>()
 | .nilf=>()
 | .unit=>()
 | .pair a b=>(a.zero,b.zero)
 | .slice _=>[]
 | .arr n e=>List.replicate n e.zero
 | .own=>(0:Nat)
 | .ptr=>⟨0,0,0,0,0⟩
 | .clo=>(0,[])
 | .fn _ _=>fun _=>none
 | .fn2 _ _ _=>fun _=>none
 | .ref t=>t.zero
def comp:(t:Ty)→t.den→Nat→(tgt:Ty)→Option tgt.den
 | .pair a b,x,off,tgt =>
  match Nat.beq off 0 && (Ty.pair a b).same tgt with
  | true=>Ty.as? (.pair a b) tgt x
  | false=>match Nat.blt off a.size with
   | true=>comp a x.1 off tgt
   | false=>comp b x.2 (off - a.size) tgt
 | t,x,off,tgt=>match Nat.beq off 0 with
  | true=>Ty.as? t tgt x
  | false=>none
def setc:(t:Ty)→t.den→Nat→(tgt:Ty)→tgt.den→Option t.den
 | .pair a b,x,off,tgt,y =>
  match Nat.beq off 0 && (Ty.pair a b).same tgt with
  | true=>Ty.as? tgt (.pair a b) y
  | false=>match Nat.blt off a.size with
   | true=>(setc a x.1 off tgt y).map fun z=>(z,x.2)
   | false=>(setc b x.2 (off - a.size) tgt y).map fun z=>(x.1,z)
 | t,_,off,tgt,y=>match Nat.beq off 0 with
  | true=>Ty.as? tgt t y
  | false=>none
structure ArrC where
 n:Nat
 e:Ty
 l:List e.den
def arrc:(t:Ty)→t.den→Nat→Option ArrC
 | .pair a b,x,off =>
  match Nat.blt off a.size with
  | true=>arrc a x.1 off
  | false=>arrc b x.2 (off - a.size)
 | .arr n e,l,off=>match Nat.beq off 0 with
  | true=>some ⟨n,e,l⟩
  | false=>none
 | _,_,_=>none
def seta:(t:Ty)→t.den→Nat→(e:Ty)→List e.den→Option t.den
 | .pair a b,x,off,e,l =>
  match Nat.blt off a.size with
  | true=>(seta a x.1 off e l).map fun z=>(z,x.2)
  | false=>(seta b x.2 (off - a.size) e l).map fun z=>(x.1,z)
 | .arr n e',_,off,e,l=>match Nat.beq off 0 with
  | true=>Ty.as? (.arr n e) (.arr n e') l
  | false=>none
 | _,_,_,_,_=>none
theorem blt_false {a b:Nat} (h:Nat.blt a b=false):¬ a<b:=by
 intro hh
 have h2:Nat.ble (a+1) b=true:=by rw [Nat.ble_eq]; exact hh
 rw [show Nat.blt a b=Nat.ble (a+1) b from rfl,h2] at h
 cases h
theorem blt_true {a b:Nat} (h:Nat.blt a b=true):a<b:=by
 rw [show Nat.blt a b=Nat.ble (a+1) b from rfl,Nat.ble_eq] at h
 exact h
section
variable {P:Program} {ρ:Nat→Value} {w:World} {I:Nat→Prop}
theorem comp_sound:∀ {t:Ty} {x:t.den} {off:Nat} {tgt:Ty} {y:tgt.den} {cs:List Value},Rd P t false ρ w I x cs→comp t x off tgt=some y →
  ∃ pre c post,cs=pre++c++post∧pre.length=off∧Rd P tgt false ρ w I y c:=by
 intro t
 have base:∀ (t:Ty) (x:t.den) (off:Nat) (tgt:Ty) (y:tgt.den) (cs:List Value),Rd P t false ρ w I x cs→(match Nat.beq off 0 with | true=>Ty.as? t tgt x | false=>none)=some y →
   ∃ pre c post,cs=pre++c++post∧pre.length=off∧Rd P tgt false ρ w I y c:=by
  intro t x off tgt y cs h hc
  split at hc
  ·rename_i ho
   obtain ⟨rfl,rfl⟩:=Ty.as?_some hc
   exact ⟨[],cs,[],by simp,by simp [Nat.eq_of_beq_eq_true ho],h⟩
  ·cases hc
 induction t with
 | pair a b iha ihb =>
  intro x off tgt y cs h hc
  unfold comp at hc
  split at hc
  ·rename_i ho
   simp only [Bool.and_eq_true] at ho
   obtain ⟨rfl,rfl⟩:=Ty.as?_some hc
   exact ⟨[],cs,[],by simp,by simp [Nat.eq_of_beq_eq_true ho.1],h⟩
  ·obtain ⟨c1,c2,rfl,h1,h2⟩:=h
   split at hc
   ·obtain ⟨pre,c,post,rfl,hl,hr⟩:=iha h1 hc
    exact ⟨pre,c,post++c2,by simp,hl,hr⟩
   ·rename_i hlt
    obtain ⟨pre,c,post,rfl,hl,hr⟩:=ihb h2 hc
    refine ⟨c1++pre,c,post,by simp,?_,hr⟩
    have h1l:=h1.length
    simp only [List.length_append,hl,h1l]
    have:=blt_false hlt
    omega
 | int k=>intro x off tgt y cs h hc; exact base _ x off tgt y cs h hc
 | bool=>intro x off tgt y cs h hc; exact base _ x off tgt y cs h hc
 | nil=>intro x off tgt y cs h hc; exact base _ x off tgt y cs h hc
 | nilf=>intro x off tgt y cs h hc; exact base _ x off tgt y cs h hc
 | unit=>intro x off tgt y cs h hc; exact base _ x off tgt y cs h hc
 | slice e _=>intro x off tgt y cs h hc; exact base _ x off tgt y cs h hc
 | arr n e _=>intro x off tgt y cs h hc; exact base _ x off tgt y cs h hc
 | own=>intro x off tgt y cs h hc; exact base _ x off tgt y cs h hc
 | ptr=>intro x off tgt y cs h hc; exact base _ x off tgt y cs h hc
 | clo=>intro x off tgt y cs h hc; exact base _ x off tgt y cs h hc
 | fn p r _ _=>intro x off tgt y cs h hc; exact base _ x off tgt y cs h hc
 | fn2 p a b _ _ _=>intro x off tgt y cs h hc; exact base _ x off tgt y cs h hc
 | ref t _=>intro x off tgt y cs h hc; exact base _ x off tgt y cs h hc
theorem setc_sound:∀ {t:Ty} {x x':t.den} {off:Nat} {tgt:Ty} {y:tgt.den} {cs c':List Value},Rd P t false ρ w I x cs→setc t x off tgt y=some x'→Rd P tgt false ρ w I y c' →
  ∃ pre c post,cs=pre++c++post∧pre.length=off∧c.length=c'.length∧Rd P t false ρ w I x' (pre++c'++post):=by
 intro t
 have base:∀ (t:Ty) (x x':t.den) (off:Nat) (tgt:Ty) (y:tgt.den) (cs c':List Value),Rd P t false ρ w I x cs→(match Nat.beq off 0 with | true=>Ty.as? tgt t y | false=>none)=some x' →
   Rd P tgt false ρ w I y c'→∃ pre c post,cs=pre++c++post∧pre.length=off∧c.length=c'.length∧Rd P t false ρ w I x' (pre++c'++post):=by
  intro t x x' off tgt y cs c' h hc hy
  split at hc
  ·rename_i ho
   obtain ⟨rfl,rfl⟩:=Ty.as?_some hc
   exact ⟨[],cs,[],by simp,by simp [Nat.eq_of_beq_eq_true ho],by rw [h.length,hy.length],by simpa using hy⟩
  ·cases hc
 induction t with
 | pair a b iha ihb =>
  intro x x' off tgt y cs c' h hc hy
  unfold setc at hc
  split at hc
  ·rename_i ho
   simp only [Bool.and_eq_true] at ho
   obtain ⟨rfl,rfl⟩:=Ty.as?_some hc
   exact ⟨[],cs,[],by simp,by simp [Nat.eq_of_beq_eq_true ho.1],by rw [h.length,hy.length],by simpa using hy⟩
  ·obtain ⟨c1,c2,rfl,h1,h2⟩:=h
   split at hc
   ·cases hz:setc a x.1 off tgt y with
    | none=>rw [hz] at hc; cases hc
    | some z =>
     rw [hz] at hc
     obtain rfl:=Option.some.inj hc
     obtain ⟨pre,c,post,rfl,hl,hl',hr⟩:=iha h1 hz hy
     exact ⟨pre,c,post++c2,by simp,hl,hl',⟨pre++c'++post,c2,by simp,hr,h2⟩⟩
   ·rename_i hlt
    cases hz:setc b x.2 (off - a.size) tgt y with
    | none=>rw [hz] at hc; cases hc
    | some z =>
     rw [hz] at hc
     obtain rfl:=Option.some.inj hc
     obtain ⟨pre,c,post,rfl,hl,hl',hr⟩:=ihb h2 hz hy
     refine ⟨c1++pre,c,post,by simp,?_,hl',⟨c1,pre++c'++post,by simp,h1,hr⟩⟩
     have h1l:=h1.length
     simp only [List.length_append,hl,h1l]
     have:=blt_false hlt
     omega
 | int k=>intro x x' off tgt y cs c' h hc hy; exact base _ x x' off tgt y cs c' h hc hy
 | bool=>intro x x' off tgt y cs c' h hc hy; exact base _ x x' off tgt y cs c' h hc hy
 | nil=>intro x x' off tgt y cs c' h hc hy; exact base _ x x' off tgt y cs c' h hc hy
 | nilf=>intro x x' off tgt y cs c' h hc hy; exact base _ x x' off tgt y cs c' h hc hy
 | unit=>intro x x' off tgt y cs c' h hc hy; exact base _ x x' off tgt y cs c' h hc hy
 | slice e _=>intro x x' off tgt y cs c' h hc hy; exact base _ x x' off tgt y cs c' h hc hy
 | arr n e _=>intro x x' off tgt y cs c' h hc hy; exact base _ x x' off tgt y cs c' h hc hy
 | own=>intro x x' off tgt y cs c' h hc hy; exact base _ x x' off tgt y cs c' h hc hy
 | ptr=>intro x x' off tgt y cs c' h hc hy; exact base _ x x' off tgt y cs c' h hc hy
 | clo=>intro x x' off tgt y cs c' h hc hy; exact base _ x x' off tgt y cs c' h hc hy
 | fn p r _ _=>intro x x' off tgt y cs c' h hc hy; exact base _ x x' off tgt y cs c' h hc hy
 | fn2 p a b _ _ _=>intro x x' off tgt y cs c' h hc hy; exact base _ x x' off tgt y cs c' h hc hy
 | ref t _=>intro x x' off tgt y cs c' h hc hy; exact base _ x x' off tgt y cs c' h hc hy
theorem arrc_sound:∀ {t:Ty} {x:t.den} {off:Nat} {A:ArrC} {cs:List Value},Rd P t false ρ w I x cs→arrc t x off=some A →
  ∃ pre c post,cs=pre++c++post∧pre.length=off∧Rd P (.arr A.n A.e) false ρ w I A.l c ∧
   ∀ l' x' c',seta t x off A.e l'=some x'→Rd P (.arr A.n A.e) false ρ w I l' c'→Rd P t false ρ w I x' (pre++c'++post):=by
 intro t
 induction t with
 | pair a b iha ihb =>
  intro x off A cs h hc
  unfold arrc at hc
  obtain ⟨c1,c2,rfl,h1,h2⟩:=h
  split at hc
  ·rename_i hlt
   obtain ⟨pre,c,post,rfl,hl,hr,hs⟩:=iha h1 hc
   refine ⟨pre,c,post++c2,by simp,hl,hr,fun l' x' c' hx' hr'=>?_⟩
   unfold seta at hx'
   rw [hlt] at hx'
   cases hz:seta a x.1 off A.e l' with
   | none=>rw [hz] at hx'; cases hx'
   | some z =>
    rw [hz] at hx'
    obtain rfl:=Option.some.inj hx'
    exact ⟨pre++c'++post,c2,by simp,hs l' z c' hz hr',h2⟩
  ·rename_i hlt
   obtain ⟨pre,c,post,rfl,hl,hr,hs⟩:=ihb h2 hc
   have h1l:=h1.length
   have hnlt:=blt_false hlt
   refine ⟨c1++pre,c,post,by simp,by simp only [List.length_append,hl,h1l]; omega,hr,fun l' x' c' hx' hr'=>?_⟩
   unfold seta at hx'
   rw [hlt] at hx'
   cases hz:seta b x.2 (off - a.size) A.e l' with
   | none=>rw [hz] at hx'; cases hx'
   | some z =>
    rw [hz] at hx'
    obtain rfl:=Option.some.inj hx'
    exact ⟨c1,pre++c'++post,by simp,h1,hs l' z c' hz hr'⟩
 | arr n e _ =>
  intro x off A cs h hc
  unfold arrc at hc
  split at hc
  ·rename_i ho
   obtain rfl:=Option.some.inj hc
   refine ⟨[],cs,[],by simp,by simp [Nat.eq_of_beq_eq_true ho],h,fun l' x' c' hx' hr'=>?_⟩
   unfold seta at hx'
   rw [ho] at hx'
   obtain ⟨he,rfl⟩:=Ty.as?_some hx'
   simpa using hr'
  ·cases hc
 | _=>intro x off A cs h hc; simp [arrc] at hc
end
structure TV where
 t:Ty
 x:t.den
inductive AV where
 | val (t:Ty) (x:t.den)
 | imm (t:Ty) (x:t.den) (off:Nat)
 | tup (l:List TV)
 | anyb (p:Prop)
 | win (b lo n:Nat)
 | suf (b lo k:Nat)
 | nil
 | undef
inductive Blk where
 | cells (t:Ty) (x:t.den)
 | row (e:Ty) (l:List e.den) (tid:TypeId)
structure St where
 sl:Nat→AV
 hp:Nat→Option Blk
 ok:Prop
def Blk.isC:Blk→Bool
 | .cells _ _=>true
 | .row _ _ _=>false
def real:Value→Option Nat
 | .pointer (some a)=>some a.block
 | .slice (some a) _ (_+1)=>some a.block
 | _=>none
theorem real_slice {a:Addr} {n cap:Nat} (h:0<cap):real (.slice (some a) n cap)=some a.block:=by
 cases cap with
 | zero=>omega
 | succ c=>rfl
theorem real_some {a:Addr} {n cap r:Nat} (h:real (.slice (some a) n cap)=some r):a.block=r∧0<cap:=by
 cases cap with
 | zero=>cases h
 | succ c=>exact ⟨Option.some.inj h,Nat.succ_pos _⟩
theorem real_zero {A:Option Addr} {n:Nat}:real (.slice A n 0)=none:=by cases A <;> rfl
def World.rowOf (w:World) (base:Nat) (e:TypeId) (size:Nat) (v:Value) (n:Nat) (xs:List Value):Prop :=
 xs.length=n*size∧((∃ A,v=.slice A 0 0∧n=0) ∨
  ∃ g cap cur,v=.slice (some ⟨g,0,none⟩) n cap∧0<cap∧base≤g∧w.heap[g]?=some (.cells cur e (0,0))∧n≤cap∧cap≤maxLen∧cur.size=cap*size∧cur.toList.take (n*size)=xs)
theorem World.rowOf_of {w:World} {base:Nat} {e:TypeId} {size:Nat} {v:Value} {n:Nat} {xs:List Value} (h:w.ownsRow base e size v n xs):World.rowOf w base e size v n xs:=by
 refine ⟨h.1,?_⟩
 rcases h.2 with ⟨h1,h2⟩ | ⟨g,cap,cur,h1,h2,h3,h4,h5⟩
 ·exact .inl ⟨none,h1 ▸ rfl,h2⟩
 ·cases cap with
  | zero =>
   have:n=0:=by omega
   exact .inl ⟨_,by rw [h1,this],this⟩
  | succ c=>exact .inr ⟨g,c+1,cur,h1,Nat.succ_pos _,h2,h3,h4,h5⟩
theorem World.row_owns {w:World} {base:Nat} {e:TypeId} {size:Nat} {v:Value} {n:Nat} {xs:List Value} (h:World.rowOf w base e size v n xs) :
  (∃ A,v=.slice A 0 0∧n=0∧xs=[])∨(w.ownsRow base e size v n xs∧∃ g cap,v=.slice (some ⟨g,0,none⟩) n cap∧0<cap):=by
 rcases h.2 with ⟨A,h1,h2⟩ | ⟨g,cap,cur,h1,hc,h2⟩
 ·exact .inl ⟨A,h1,h2,List.eq_nil_of_length_eq_zero (by rw [h.1,h2,Nat.zero_mul])⟩
 ·exact .inr ⟨⟨h.1,.inr ⟨g,cap,cur,h1,h2⟩⟩,g,cap,h1,hc⟩
def sufV:Value→Nat→Nat→Value
 | .slice A n cap,lo,k=>.slice (if cap=lo then A else A.map (·.add (lo*k))) (n - lo) (cap - lo)
 | v,_,_=>v
def RV (P:Program) (ρ:Nat→Value) (w:World) (I:Nat→Prop):AV→Value→Prop
 | .val t x,v=>RdV P t ρ w I x v
 | .imm t x off,v=>∃ ad c,v=.pointer (some (ad.add off))∧ad.spot=none∧I ad.block∧ad.block<w.heap.size∧CellsAt w ad c∧Rd P t false ρ0 w I x c
 | .tup l,v=>∃ vs:List Value,v=.tuple vs.toArray∧vs.length=l.length∧∀ (i:Nat) (t:TV) (u:Value),l[i]?=some t→vs[i]?=some u→RdV P t.t ρ w I t.x u
 | .anyb p,v=>∃ b,v=.bool b∧(b=true→p)
 | .suf b lo k,v=>v=sufV (ρ b) lo k
 | .win b lo n,v=>∃ (ad:Addr) (cap:Nat),ad.spot=none∧(∀ q:Ptr,q.b=b→q.val ρ=.pointer (some (ad.add q.co)))∧v=.slice (some (ad.add lo)) n cap∧n≤cap
 | .nil,v=>v=.slice none 0 0
 | .undef,_=>True
def AV.refs:AV→List Nat
 | .val t x=>t.refs x
 | .tup l=>l.flatMap fun t=>t.t.refs t.x
 | .win b _ _=>[b]
 | .suf b _ _=>[b]
 | _=>[]
def Blk.refs:Blk→List Nat
 | .cells t x=>t.refs x
 | .row _ _ _=>[]
def RB (P:Program) (ρ:Nat→Value) (w:World) (I:Nat→Prop) (v:Value):Blk→Prop
 | .cells t x=>∃ r tid cur,v=.pointer (some ⟨r,0,none⟩)∧w.heap[r]?=some (.cells cur tid (0,0))∧Rd P t false ρ w I x cur.toList
 | .row e l tid=>∃ xs,World.rowOf w 0 tid e.size v l.length xs∧Rd P (.arr l.length e) false ρ0 w I l xs
structure Cx where
 P:Program
 w0:World
 ok:Nat→Prop
 n:Nat
 np:Nat
 pv:Nat→Value
 gv:Nat→Prop
def Cx.E (cx:Cx) (r:Nat):Prop:=(∃ j,j<cx.np∧real (cx.pv j)=some r)∨cx.gv r
def Cx.J (cx:Cx) (r:Nat):Prop:=cx.w0.heap.size≤r∨cx.gv r
def Cx.I (cx:Cx) (ρ:Nat→Value) (s:St) (r:Nat):Prop:=(cx.ok r∨cx.J r)∧∀ b k,s.hp b=some k→real (ρ b)≠some r
structure M (cx:Cx) (ρ:Nat→Value) (F:Nat→Prop) (s:St) (a:Act) (w:World):Prop where
 os:w.os=cx.w0.os
 tape:Tp cx.w0 w
 output:w.output=cx.w0.output
 size:cx.w0.heap.size≤w.heap.size
 keeps:∀ r,r<cx.w0.heap.size→¬ cx.E r→w.heap[r]?=cx.w0.heap[r]?
 slots:∀ d,RV cx.P ρ w (cx.I ρ s) (s.sl d) (a.tmps.getD d undef)
 blks:∀ b k,s.hp b=some k→RB cx.P ρ w (cx.I ρ s) (ρ b) k
 sep:∀ b b' k k' r,s.hp b=some k→s.hp b'=some k'→real (ρ b)=some r→real (ρ b')=some r→b=b'
 fresh:∀ b k r,s.hp b=some k→real (ρ b)=some r→(cx.J r∨(cx.E r∧b<cx.np))∧r<w.heap.size
 srefs:∀ d,∀ b∈(s.sl d).refs,F b
 brefs:∀ b k,s.hp b=some k→F b∧∀ c∈k.refs,F c
 rho:∀ b,(ρ b).oneCell'=true
 defers:a.defers=[]
 tsize:a.tmps.size=cx.n
 pin:∀ j,j<cx.np→ρ j=cx.pv j∧F j
theorem RV.mono {P:Program} {ρ ρ':Nat→Value} {w w':World} {I I':Nat→Prop} {av:AV} {v:Value} (h:RV P ρ w I av v) (hρ:∀ b∈av.refs,ρ' b=ρ b)
  (hp:Pres I w w') (hI:∀ r,r<w.heap.size→I r→I' r):RV P ρ' w' I' av v:=by
 cases av with
 | val t x =>
  obtain ⟨c,rfl,hc⟩:=h
  exact ⟨c,rfl,(hc.mono hp hI).rho hρ⟩
 | imm t x off =>
  obtain ⟨ad,c,rfl,h1,h2,h3,h4,h5⟩:=h
  exact ⟨ad,c,rfl,h1,hI _ h3 h2,Nat.lt_of_lt_of_le h3 hp.1,h4.pres (hp.2 _ h3 h2),h5.mono hp hI⟩
 | tup l =>
  obtain ⟨vs,rfl,hl,h⟩:=h
  refine ⟨vs,rfl,hl,fun i t u ht hu=>?_⟩
  obtain ⟨c,rfl,hc⟩:=h i t u ht hu
  exact ⟨c,rfl,(hc.mono hp hI).rho fun b hb=>hρ b (List.mem_flatMap.2 ⟨t,List.mem_of_getElem? ht,hb⟩)⟩
 | anyb p=>exact h
 | suf b lo k =>
  have h:v=sufV (ρ b) lo k:=h
  show v=sufV (ρ' b) lo k
  rw [hρ b (List.mem_singleton.2 rfl)]; exact h
 | win b lo n =>
  obtain ⟨ad,cap,h1,h2,h3⟩:=h
  exact ⟨ad,cap,h1,fun q hq=>by rw [Ptr.val_congr (ρ:=ρ) (ρ':=ρ') (by rw [hq]; exact hρ b (List.mem_singleton.2 rfl))]; exact h2 q hq,h3⟩
 | nil=>exact h
 | undef=>trivial
theorem RB.mono {P:Program} {ρ ρ':Nat→Value} {w w':World} {I I':Nat→Prop} {k:Blk} {v:Value} (h:RB P ρ w I v k) (hρ:∀ b∈k.refs,ρ' b=ρ b)
  (hp:Pres I w w') (hI:∀ r,r<w.heap.size→I r→I' r) (hv:∀ r,real v=some r→w'.heap[r]?=w.heap[r]?):RB P ρ' w' I' v k:=by
 cases k with
 | cells t x =>
  obtain ⟨r,tid,cur,rfl,h1,h2⟩:=h
  exact ⟨r,tid,cur,rfl,(hv r rfl).trans h1,(h2.mono hp hI).rho hρ⟩
 | row e l tid =>
  obtain ⟨xs,⟨h0,h1⟩,h2⟩:=h
  refine ⟨xs,⟨h0,?_⟩,h2.mono hp hI⟩
  rcases h1 with h1 | ⟨g,cap,cur,rfl,hc,hb,hg,h⟩
  ·exact .inl h1
  ·exact .inr ⟨g,cap,cur,rfl,hc,hb,(hv g (real_slice hc)).trans hg,h⟩
end Go.Sx
namespace Go.Sx
def putS (n:Nat) (sl:Nat→AV) (dst:Option Nat) (v:AV):Nat→AV :=
 match dst with
 | none=>sl
 | some d=>fun x=>match Nat.beq x d with
  | true=>match Nat.blt d n with
   | true=>v
   | false=>.undef
  | false=>sl x
def upd {α:Type} (f:Nat→α) (b:Nat) (k:α):Nat→α:=fun x=>match Nat.beq x b with
 | true=>k
 | false=>f x
theorem upd_same {α:Type} (f:Nat→α) (b:Nat) (k:α):upd f b k b=k:=by simp [upd]
theorem upd_ne {α:Type} (f:Nat→α) {b c:Nat} (k:α) (h:c≠b):upd f b k c=f c:=by
 unfold upd
 split
 ·rename_i hb; exact absurd (Nat.eq_of_beq_eq_true hb) h
 ·rfl
section
variable {cx:Cx} {ρ:Nat→Value} {F:Nat→Prop} {s:St} {a:Act} {w:World}
theorem M.put (h:M cx ρ F s a w) (dst:Option Nat) {av:AV} {v:Value} (hv:RV cx.P ρ w (cx.I ρ s) av v) (hr:∀ b∈av.refs,F b) (ok:Prop) :
  M cx ρ F ⟨putS cx.n s.sl dst av,s.hp,ok⟩ (a.put dst v) w:=by
 have hI:cx.I ρ ⟨putS cx.n s.sl dst av,s.hp,ok⟩=cx.I ρ s:=rfl
 refine ⟨h.os,h.tape,h.output,h.size,h.keeps,?_,?_,h.sep,h.fresh,?_,h.brefs,h.rho,?_,?_,h.pin⟩
 ·intro d
  rw [hI]
  cases dst with
  | none=>exact h.slots d
  | some e =>
   show RV cx.P ρ w _ (putS cx.n s.sl (some e) av d) ((a.tmps.setIfInBounds e v).getD d undef)
   unfold putS
   simp only
   split
   ·rename_i hde
    have:=Nat.eq_of_beq_eq_true hde
    subst this
    split
    ·rename_i hlt
     have hlt:=blt_true hlt
     have:(a.tmps.setIfInBounds d v).getD d undef=v:=by
      simp [Array.getD_eq_getD_getElem?,h.tsize,hlt]
     rw [this]; exact hv
    ·trivial
   ·rename_i hde
    have hne:e≠d:=by
     intro he
     subst he
     simp at hde
    have:(a.tmps.setIfInBounds e v).getD d undef=a.tmps.getD d undef:=by
     simp only [Array.getD_eq_getD_getElem?]
     rw [Array.getElem?_setIfInBounds_ne hne]
    rw [this]
    exact h.slots d
 ·intro b k hk
  rw [hI]
  exact h.blks b k hk
 ·intro d b hb
  cases dst with
  | none=>exact h.srefs d b hb
  | some e =>
   change b∈(putS cx.n s.sl (some e) av d).refs at hb
   unfold putS at hb
   simp only at hb
   split at hb
   ·split at hb
    ·exact hr b hb
    ·cases hb
   ·exact h.srefs d b hb
 ·cases dst with
  | none=>exact h.defers
  | some e=>exact h.defers
 ·cases dst with
  | none=>exact h.tsize
  | some e=>show (a.tmps.setIfInBounds e v).size=_; rw [Array.size_setIfInBounds]; exact h.tsize
theorem M.turn (h:M cx ρ F s a w) {ρ':Nat→Value} {F':Nat→Prop} {hp':Nat→Option Blk} {w':World} (ok:Prop)
  (hρ:∀ b,F b→ρ' b=ρ b) (hF:∀ b,F b→F' b)
  (hos:w'.os=w.os) (htape:Tp w w') (hout:w'.output=w.output) (hsize:w.heap.size≤w'.heap.size)
  (hkeep:∀ r,r<w.heap.size→(cx.I ρ s r∨(r<cx.w0.heap.size∧¬ cx.E r))→w'.heap[r]?=w.heap[r]?)
  (hI:∀ r,r<w.heap.size→cx.I ρ s r→cx.I ρ' ⟨s.sl,hp',ok⟩ r)
  (hblks:∀ b k,hp' b=some k→RB cx.P ρ' w' (cx.I ρ' ⟨s.sl,hp',ok⟩) (ρ' b) k)
  (hsep:∀ b b' k k' r,hp' b=some k→hp' b'=some k'→real (ρ' b)=some r→real (ρ' b')=some r→b=b')
  (hfresh:∀ b k r,hp' b=some k→real (ρ' b)=some r→(cx.J r∨(cx.E r∧b<cx.np))∧r<w'.heap.size)
  (hbrefs:∀ b k,hp' b=some k→F' b∧∀ c∈k.refs,F' c)
  (hrho:∀ b,(ρ' b).oneCell'=true) :
  M cx ρ' F' ⟨s.sl,hp',ok⟩ a w':=by
 refine ⟨hos.trans h.os,htape.trans h.tape,hout.trans h.output,Nat.le_trans h.size hsize,?_,?_,hblks,hsep,hfresh,?_,hbrefs,hrho,h.defers,h.tsize,fun j hj=>⟨(hρ j (h.pin j hj).2).trans (h.pin j hj).1,hF j (h.pin j hj).2⟩⟩
 ·intro r hr hE
  exact (hkeep r (Nat.lt_of_lt_of_le hr h.size) (.inr ⟨hr,hE⟩)).trans (h.keeps r hr hE)
 ·intro d
  exact (h.slots d).mono (fun b hb=>hρ b (h.srefs d b hb)) ⟨hsize,fun r hr hi=>hkeep r hr (.inl hi)⟩ hI
 ·intro d b hb
  exact hF b (h.srefs d b hb)
theorem M.owned_lt (h:M cx ρ F s a w) {b:Nat} {k:Blk} {r:Nat} (hb:s.hp b=some k) (hr:real (ρ b)=some r):r<w.heap.size:=(h.fresh b k r hb hr).2
theorem M.world (h:M cx ρ F s a w) {w':World} (hb:Below w.heap.size w w'):M cx ρ F s a w':=by
 have hI:∀ r,r<w.heap.size→cx.I ρ s r→cx.I ρ s r:=fun _ _ h=>h
 refine M.turn (ρ':=ρ) (F':=F) (hp':=s.hp) h s.ok (fun _ _=>rfl) (fun _ h=>h) hb.os hb.tape hb.output hb.size (fun r hr _=>hb.block r hr) hI ?_ h.sep ?_ h.brefs h.rho
 ·intro b k hk
  exact (h.blks b k hk).mono (fun _ _=>rfl) ⟨hb.size,fun r hr _=>hb.block r hr⟩ hI (fun r hr=>hb.block r (h.owned_lt hk hr))
 ·intro b k r hk hr
  exact ⟨(h.fresh b k r hk hr).1,Nat.lt_of_lt_of_le (h.fresh b k r hk hr).2 hb.size⟩
theorem M.new (h:M cx ρ F s a w) {nid:Nat} (hn:¬ F nid) {k:Blk} {v:Value} {w':World} (ok:Prop) (hb:Below w.heap.size w w')
  (hv:∀ r,real v=some r→w.heap.size≤r∧r<w'.heap.size) (hvc:v.oneCell'=true)
  (hk:RB cx.P ρ w' (fun r=>(cx.I ρ s r∧r<w.heap.size)∨(w.heap.size≤r∧real v≠some r)) v k) (hkr:∀ c∈k.refs,F c) :
  M cx (upd ρ nid v) (fun b=>F b∨b=nid) ⟨s.sl,upd s.hp nid (some k),ok⟩ a w':=by
 have hne:∀ b k,s.hp b=some k→b≠nid:=fun b k hk e=>hn (e ▸ (h.brefs b k hk).1)
 have hρ:∀ b,F b→upd ρ nid v b=ρ b:=fun b hb=>upd_ne _ _ (fun e=>hn (e ▸ hb))
 have hI:∀ r,r<w.heap.size→cx.I ρ s r→cx.I (upd ρ nid v) ⟨s.sl,upd s.hp nid (some k),ok⟩ r:=by
  intro r hr hi
  refine ⟨hi.1,fun b k' hk' hrr=>?_⟩
  by_cases e:b=nid
  ·subst e
   rw [upd_same] at hrr
   have:=(hv r hrr).1
   omega
  ·change upd s.hp nid (some k) b=some k' at hk'
   rw [upd_ne _ _ e] at hk'
   rw [upd_ne _ _ e] at hrr
   exact hi.2 b k' hk' hrr
 refine M.turn h ok hρ (fun b hb=>.inl hb) hb.os hb.tape hb.output hb.size (fun r hr _=>hb.block r hr) hI ?_ ?_ ?_ ?_ ?_
 ·intro b k' hk'
  by_cases e:b=nid
  ·subst e
   rw [upd_same] at hk'
   obtain rfl:=Option.some.inj hk'
   rw [upd_same]
   refine hk.mono (fun c hc=>hρ c (hkr c hc)) (Pres.refl _ _) (fun r _ hi=>?_) (fun _ _=>rfl)
   rcases hi with hi | ⟨hi,hi'⟩
   ·exact hI r hi.2 hi.1
   ·refine ⟨.inr (.inl (Nat.le_trans h.size hi)),fun b' k' hk' hrr=>?_⟩
    by_cases e:b'=b
    ·subst e
     rw [upd_same] at hrr
     exact hi' hrr
    ·change upd s.hp b (some k) b'=some k' at hk'
     rw [upd_ne _ _ e] at hk' hrr
     have:=h.owned_lt hk' hrr
     omega
  ·rw [upd_ne _ _ e] at hk'
   rw [upd_ne _ _ e]
   exact (h.blks b k' hk').mono (fun c hc=>hρ c ((h.brefs b k' hk').2 c hc)) ⟨hb.size,fun r hr _=>hb.block r hr⟩ hI (fun r hr=>hb.block r (h.owned_lt hk' hr))
 ·intro b b' k1 k2 r h1 h2 h3 h4
  by_cases e:b=nid <;> by_cases e':b'=nid
  ·rw [e,e']
  ·subst e
   rw [upd_same] at h3
   rw [upd_ne _ _ e'] at h2 h4
   have:=h.owned_lt h2 h4
   have:=(hv r h3).1
   omega
  ·subst e'
   rw [upd_same] at h4
   rw [upd_ne _ _ e] at h1 h3
   have:=h.owned_lt h1 h3
   have:=(hv r h4).1
   omega
  ·rw [upd_ne _ _ e] at h1 h3
   rw [upd_ne _ _ e'] at h2 h4
   exact h.sep b b' k1 k2 r h1 h2 h3 h4
 ·intro b k' r h1 h2
  by_cases e:b=nid
  ·subst e
   rw [upd_same] at h2
   have:=hv r h2
   exact ⟨.inl (.inl (Nat.le_trans h.size this.1)),this.2⟩
  ·rw [upd_ne _ _ e] at h1 h2
   exact ⟨(h.fresh b k' r h1 h2).1,Nat.lt_of_lt_of_le (h.fresh b k' r h1 h2).2 hb.size⟩
 ·intro b k' h1
  by_cases e:b=nid
  ·subst e
   rw [upd_same] at h1
   obtain rfl:=Option.some.inj h1
   exact ⟨.inr rfl,fun c hc=>.inl (hkr c hc)⟩
  ·rw [upd_ne _ _ e] at h1
   exact ⟨.inl (h.brefs b k' h1).1,fun c hc=>.inl ((h.brefs b k' h1).2 c hc)⟩
 ·intro b
  by_cases e:b=nid
  ·subst e; rw [upd_same]; exact hvc
  ·rw [upd_ne _ _ e]; exact h.rho b
theorem M.set (h:M cx ρ F s a w) {b:Nat} {k0 k:Blk} {w':World} (ok:Prop) (hb:s.hp b=some k0)
  (hos:w'.os=w.os) (htape:Tp w w') (hout:w'.output=w.output) (hsize:w'.heap.size=w.heap.size)
  (hother:∀ r,real (ρ b)≠some r→w'.heap[r]?=w.heap[r]?)
  (hk:RB cx.P ρ w' (cx.I ρ s) (ρ b) k) (hkr:∀ c∈k.refs,F c) (_hkc:k.isC=k0.isC) :
  M cx ρ F ⟨s.sl,upd s.hp b (some k),ok⟩ a w':=by
 have hdom:∀ c k',upd s.hp b (some k) c=some k'→∃ k'',s.hp c=some k'':=by
  intro c k' hc
  by_cases e:c=b
  ·subst e; exact ⟨_,hb⟩
  ·rw [upd_ne _ _ e] at hc; exact ⟨_,hc⟩
 have hI:∀ r,r<w.heap.size→cx.I ρ s r→cx.I ρ ⟨s.sl,upd s.hp b (some k),ok⟩ r:=by
  intro r hr hi
  refine ⟨hi.1,fun c k' hc hrr=>?_⟩
  obtain ⟨k'',hk''⟩:=hdom c k' hc
  exact hi.2 c k'' hk'' hrr
 have hpres:Pres (cx.I ρ s) w w':=⟨Nat.le_of_eq hsize.symm,fun r _ hi=>hother r (fun e=>hi.2 b k0 hb e)⟩
 refine M.turn h ok (fun _ _=>rfl) (fun _ h=>h) hos htape hout (Nat.le_of_eq hsize.symm) ?_ hI ?_ ?_ ?_ ?_ h.rho
 ·intro r hr hh
  refine hother r fun e=>?_
  rcases hh with hh | ⟨h1,h2⟩
  ·exact hh.2 b k0 hb e
  ·rcases (h.fresh b k0 r hb e).1 with h3 | h3
   ·exact h3.elim (fun h=>by omega) (fun h=>h2 (.inr h))
   ·exact h2 h3.1
 ·intro c k' hc
  by_cases e:c=b
  ·subst e
   rw [upd_same] at hc
   obtain rfl:=Option.some.inj hc
   refine hk.mono (fun _ _=>rfl) (Pres.refl _ _) (fun r hr hi=>hI r (by omega) hi) (fun _ _=>rfl)
  ·rw [upd_ne _ _ e] at hc
   exact (h.blks c k' hc).mono (fun _ _=>rfl) hpres hI (fun r hr=>hother r (fun e'=>e (h.sep c b k' k0 r hc hb hr e')))
 ·intro c c' k1 k2 r h1 h2 h3 h4
  obtain ⟨q1,hq1⟩:=hdom c k1 h1
  obtain ⟨q2,hq2⟩:=hdom c' k2 h2
  exact h.sep c c' q1 q2 r hq1 hq2 h3 h4
 ·intro c k' r h1 h2
  rw [hsize]
  by_cases e:c=b
  ·subst e
   rw [upd_same] at h1
   obtain rfl:=Option.some.inj h1
   exact h.fresh c k0 r hb h2
  ·rw [upd_ne _ _ e] at h1
   exact h.fresh c k' r h1 h2
 ·intro c k' hc
  by_cases e:c=b
  ·subst e
   rw [upd_same] at hc
   obtain rfl:=Option.some.inj hc
   exact ⟨(h.brefs c k0 hb).1,hkr⟩
  ·rw [upd_ne _ _ e] at hc
   exact h.brefs c k' hc
theorem M.drop (h:M cx ρ F s a w) (b:Nat) (ok:Prop):M cx ρ F ⟨s.sl,upd s.hp b none,ok⟩ a w:=by
 have hdom:∀ c k',upd s.hp b none c=some k'→s.hp c=some k'∧c≠b:=by
  intro c k' hc
  by_cases e:c=b
  ·subst e; rw [upd_same] at hc; cases hc
  ·rw [upd_ne _ _ e] at hc; exact ⟨hc,e⟩
 have hI:∀ r,r<w.heap.size→cx.I ρ s r→cx.I ρ ⟨s.sl,upd s.hp b none,ok⟩ r :=
  fun r _ hi=>⟨hi.1,fun c k' hc hrr=>hi.2 c k' (hdom c k' hc).1 hrr⟩
 refine M.turn h ok (fun _ _=>rfl) (fun _ h=>h) rfl (Tp.refl _) rfl (Nat.le_refl _) (fun _ _ _=>rfl) hI ?_ ?_ ?_ ?_ h.rho
 ·intro c k' hc
  exact (h.blks c k' (hdom c k' hc).1).mono (fun _ _=>rfl) (Pres.refl _ _) hI (fun _ _=>rfl)
 ·intro c c' k1 k2 r h1 h2 h3 h4
  exact h.sep c c' k1 k2 r (hdom c k1 h1).1 (hdom c' k2 h2).1 h3 h4
 ·intro c k' r h1 h2
  exact h.fresh c k' r (hdom c k' h1).1 h2
 ·intro c k' hc
  exact h.brefs c k' (hdom c k' hc).1
theorem M.okay (h:M cx ρ F s a w) (ok:Prop):M cx ρ F ⟨s.sl,s.hp,ok⟩ a w:=⟨h.os,h.tape,h.output,h.size,h.keeps,h.slots,h.blks,h.sep,h.fresh,h.srefs,h.brefs,h.rho,h.defers,h.tsize,h.pin⟩
theorem M.widen (h:M cx ρ F s a w) {F':Nat→Prop} (hF:∀ b,F b→F' b):M cx ρ F' s a w :=
 ⟨h.os,h.tape,h.output,h.size,h.keeps,h.slots,h.blks,h.sep,h.fresh,fun d b hb=>hF b (h.srefs d b hb),fun b k hk=>⟨hF b (h.brefs b k hk).1,fun c hc=>hF c ((h.brefs b k hk).2 c hc)⟩,h.rho,h.defers,h.tsize,fun j hj=>⟨(h.pin j hj).1,hF j (h.pin j hj).2⟩⟩
end
end Go.Sx
namespace Go.Sx
def NE {α:Type}:List α→Prop
 | []=>False
 | _ :: _=>True
def NN {α:Type}:List α→Prop
 | []=>True
 | _ :: _=>False
inductive RT where
 | dp (t:Ty)
 | ow (e:Ty) (tid:TypeId)
 | dn (e:Ty)
def RT.den:RT→Type
 | .dp t=>t.den
 | .ow e _=>List e.den
 | .dn e=>List e.den
inductive Rs where
 | none
 | one (r:RT)
 | more (r:RT) (rs:Rs)
def Rs.den:Rs→Type
 | .none=>Unit
 | .one r=>r.den
 | .more r rs=>r.den × rs.den
structure Spec where
 ps:Ty
 rs:Rs
 f:ps.den→Option rs.den
 wr:Bool
inductive HArg where
 | lent (av:AV)
 | dat (t:Ty) (x:t.den)
structure HSp where
 xs:Ty
 ys:Ty
 np:Nat
 args:xs.den→List HArg
 pre:xs.den→List (Nat × Blk)
 g:xs.den→Option ys.den
 post:xs.den→ys.den→List (Nat × Blk)
 rs:Rs
 res:ys.den→rs.den
 ro:Bool
 gv:Bool
def HSp.fin (h:HSp) (x:h.xs.den) (y:h.ys.den):List (Nat × Blk):=match h.ro with
 | true=>h.pre x
 | false=>h.post x y
structure Ctx where
 T:List (Nat × Ty)
 fns:List (Nat × Spec)
 eqs:List (Nat × Ty)
 n:Nat
 pin:Nat
 hs:List (Nat × HSp)
 nz:Bool
structure SL where
 sl:List (Nat × AV)
 hp:List (Nat × Blk)
inductive Ex where
 | normal
 | exit (id:Nat)
 | ret
inductive Cmd where
 | own (d:Nat) (e:Ty) (tid:TypeId)
 | deep (d:Nat) (e:Ty)
 | freeze (d:Nat)
 | ownF (b off:Nat) (e:Ty) (tid:TypeId)
 | deepF (b off:Nat) (e:Ty)
 | frzF (b off:Nat)
 | melt (d:Nat) (t:Ty)
structure CutD where
 cmds:List Cmd
 g:List (Nat × Nat)
 pre:SL
 n0:Nat
 ex:Ex
 post:SL
 n1:Nat
inductive Ans where
 | dec (b:Bool)
 | res (rs:Rs) (y:rs.den)
 | hres (g:List (Nat × Nat)) (xs:Ty) (x:xs.den) (ys:Ty) (y:ys.den)
 | cut (d:CutD)
 | cutR (id:Nat) (d:CutD)
 | fork (l r:List Ans)
def find {α:Type}:List (Nat × α)→Nat→Option α
 | [],_=>none
 | (k,x) :: l,n=>match Nat.beq k n with
  | true=>some x
  | false=>find l n
def tyOk (P:Program) (t:TypeId) (ty:Ty):Bool :=
 match P.info? t with
 | none=>false
 | some i=>Nat.beq i.size ty.size && match P.underlying t with
  | some (.struct _)=>ty.agg
  | some (.array _ _)=>ty.agg
  | some _=>!ty.agg
  | none=>false
def zInt (k:IntKind):List Value→Option (List Value)
 | .int k' n :: r=>match decide (k=k') && decide (n=0) with
  | true=>some r
  | false=>none
 | _=>none
def zBool:List Value→Option (List Value)
 | .bool false :: r=>some r
 | _=>none
def zFunc:List Value→Option (List Value)
 | .nilFunc :: r=>some r
 | _=>none
def zSlice:List Value→Option (List Value)
 | .slice none 0 0 :: r=>some r
 | _=>none
def zrest:Ty→List Value→Option (List Value)
 | .int k,l=>zInt k l
 | .bool,l=>zBool l
 | .unit,r=>some r
 | .pair a b,r=>(zrest a r).bind (zrest b)
 | .slice _,l=>zSlice l
 | .nil,l=>zSlice l
 | .nilf,l=>zFunc l
 | .arr n e,r=>Nat.rec (some r) (fun _ q=>q.bind (zrest e)) n
 | _,_=>none
def zeroOk (P:Program) (t:TypeId) (ty:Ty):Bool :=
 match (P.info? t).bind (·.zero) with
 | some z=>match zrest ty z.cells.toList with
  | some []=>true
  | _=>false
 | none=>false
def fieldOf (P:Program) (s:TypeId) (f:Nat):Option (Nat × TypeId) :=
 match P.underlying s with
 | some (.struct fs)=>(fs[f]?).map fun x=>(x.offset,x.type)
 | _=>none
def Ty.nilz:Bool→Ty→Ty
 | true,.slice _=>.nil
 | true,.pair a b=>.pair (a.nilz true) (b.nilz true)
 | _,t=>t
structure Perf where
 v:AV
 ed:List (Nat × Option Blk)
 ob:Option Prop
def obP:Option Prop→Prop
 | none=>True
 | some q=>q
def Perf.obP (p:Perf):Prop:=Sx.obP p.ob
def Perf.bad:Perf:=⟨.undef,[],some False⟩
def Perf.of (v:AV):Perf:=⟨v,[],none⟩
def coe (t:Ty) (av:AV):Option t.den :=
 match av with
 | .val t' x=>Ty.as? t' t x
 | .nil=>match t with
  | .slice _=>some []
  | .nil=>some ()
  | _=>none
 | _=>none
def ibits (op:BinOp) (k:IntKind) (x y:Int):Int :=
 let a:=BitVec.ofInt k.bits x
 let b:=BitVec.ofInt k.bits y
 match op with
 | .and=>k.wrap (a &&& b).toNat
 | .or=>k.wrap (a ||| b).toNat
 | .xor=>k.wrap (a ^^^ b).toNat
 | _=>k.wrap (a &&& ~~~b).toNat
def arith (op:BinOp) (k:IntKind) (x y:Int):Perf :=
 match op with
 | .add=>.of (.val (.int k) (k.wrap (x+y)))
 | .sub=>.of (.val (.int k) (k.wrap (x - y)))
 | .mul=>.of (.val (.int k) (k.wrap (x*y)))
 | .quo=>⟨.val (.int k) (k.wrap (x.tdiv y)),[],some (¬ y=0)⟩
 | .rem=>⟨.val (.int k) (x.tmod y),[],some (¬ y=0)⟩
 | .and=>.of (.val (.int k) (ibits .and k x y))
 | .or=>.of (.val (.int k) (ibits .or k x y))
 | .xor=>.of (.val (.int k) (ibits .xor k x y))
 | .andNot=>.of (.val (.int k) (ibits .andNot k x y))
 | .shl=>⟨.val (.int k) (k.wrap (x*2 ^ (min y.toNat k.bits))),[],some (0≤y)⟩
 | .shr=>⟨.val (.int k) (x.fdiv (2 ^ (min y.toNat k.bits))),[],some (0≤y)⟩
 | .eql=>.of (.val .bool (decide (x=y)))
 | .neq=>.of (.val .bool (decide (¬ x=y)))
 | .lss=>.of (.val .bool (decide (x<y)))
 | .leq=>.of (.val .bool (decide (x≤y)))
 | .gtr=>.of (.val .bool (decide (x > y)))
 | .geq=>.of (.val .bool (decide (x ≥ y)))
def inR (n len:Int):Prop:=0≤n∧n<len
def imin (x y:Int):Int:=if y<x then y else x
def imax (x y:Int):Int:=if y > x then y else x
def ieq (x y:Int):Bool:=decide (x=y)
def beqb (x y:Bool):Bool:=x == y
def ineg (k:IntKind) (n:Int):Int:=k.wrap (0 - n)
def eqbs {α:Type} (f:α→α→Bool):List α→List α→Bool
 | x :: l,y :: m=>f x y && eqbs f l m
 | _,_=>true
def Ty.eqb:(t:Ty)→t.den→t.den→Bool
 | .int _,x,y=>ieq x y
 | .bool,x,y=>beqb x y
 | .pair a b,x,y=>a.eqb x.1 y.1 && b.eqb x.2 y.2
 | .unit,_,_=>true
 | .arr _ e,x,y=>eqbs e.eqb x y
 | _,_,_=>false
def pBin (c:Ctx) (op:BinOp) (xt:TypeId) (x y:AV):Perf :=
 match x,y with
 | .val (.int k) a,.val (.int k') b =>
  match op with
  | .shl=>arith .shl k a b
  | .shr=>arith .shr k a b
  | op=>match decide (k=k') with
   | true=>arith op k a b
   | false=>.bad
 | .val tx a,.val t' b=>match find c.eqs xt with
  | some t=>match Ty.as? tx t a,Ty.as? t' t b with
   | some a,some b=>match op with
    | .eql=>.of (.val .bool (t.eqb a b))
    | .neq=>.of (.val .bool (!(t.eqb a b)))
    | _=>.bad
   | _,_=>.bad
  | none=>.bad
 | _,_=>.bad
def pUn (op:UnOp) (x:AV):Perf :=
 match op,x with
 | .neg,.val (.int k) n=>.of (.val (.int k) (ineg k n))
 | .not,.val .bool b=>.of (.val .bool (!b))
 | .xor,.val (.int k) n=>.of (.val (.int k) (ibits .xor k (if k.signed then -1 else k.max) n))
 | _,_=>.bad
def pConvert (P:Program) (dst:TypeId) (x:AV):Perf :=
 match P.underlying dst,x with
 | some (.int k),.val (.int _) n=>.of (.val (.int k) (k.wrap n))
 | _,_=>.bad
def getP (k:Blk) (p:Ptr) (t:Ty):Option t.den × Option Prop :=
 match k with
 | .cells ty x=>match Nat.beq p.es 0 with
  | true=>(comp ty x (p.off+p.inner) t,none)
  | false=>match arrc ty x p.off with
   | some A=>match Nat.beq A.e.size p.es with
    | true=>(comp A.e (A.l.getD p.i.toNat A.e.zero) p.inner t,some (inR p.i (A.n:Int)))
    | false=>(none,some False)
   | none=>(none,some False)
 | .row e l _=>match Nat.beq e.size p.es && Nat.beq p.off 0 && t.deep with
  | true=>(comp e (l.getD p.i.toNat e.zero) p.inner t,some (inR p.i (l.length:Int)))
  | false=>(none,some False)
def setP (k:Blk) (p:Ptr) (t:Ty) (y:t.den):Option Blk × Option Prop :=
 match k with
 | .cells ty x=>match Nat.beq p.es 0 with
  | true=>((setc ty x (p.off+p.inner) t y).map (Blk.cells ty),none)
  | false=>match arrc ty x p.off with
   | some A=>match Nat.beq A.e.size p.es with
    | true=>((setc A.e (A.l.getD p.i.toNat A.e.zero) p.inner t y).bind fun z=>(seta ty x p.off A.e (A.l.set p.i.toNat z)).map (Blk.cells ty),some (inR p.i (A.n:Int)))
    | false=>(none,some False)
   | none=>(none,some False)
 | .row e l tid=>match Nat.beq e.size p.es && Nat.beq p.off 0 && t.deep with
  | true=>((setc e (l.getD p.i.toNat e.zero) p.inner t y).map fun z=>Blk.row e (l.set p.i.toNat z) tid,some (inR p.i (l.length:Int)))
  | false=>(none,some False)
def pLoad (c:Ctx) (hp:Nat→Option Blk) (t:TypeId) (x:AV):Perf :=
 match find c.T t with
 | none=>.bad
 | some ty=>match x with
  | .val .ptr p=>match hp p.b with
   | some k=>match getP k p ty with
    | (some y,ob)=>⟨.val ty y,[],ob⟩
    | (none,_)=>.bad
   | none=>.bad
  | .imm t' y off=>match ty.deep with
   | true=>match comp t' y off ty with
    | some z=>.of (.val ty z)
    | none=>.bad
   | false=>.bad
  | _=>.bad
def pStore (c:Ctx) (hp:Nat→Option Blk) (t:TypeId) (x y:AV):Perf :=
 match find c.T t with
 | none=>.bad
 | some ty=>match x with
  | .val .ptr p=>match hp p.b with
   | some k=>match coe ty y with
    | some z=>match setP k p ty z with
     | (some k',ob)=>⟨.undef,[(p.b,some k')],ob⟩
     | (none,_)=>.bad
    | none=>.bad
   | none=>.bad
  | _=>.bad
def pAlloc (P:Program) (c:Ctx) (nid:Nat) (t:TypeId):Perf :=
 match find c.T t with
 | none=>.bad
 | some ty=>match zeroOk P t (ty.nilz c.nz) with
  | true=>⟨.val .ptr ⟨nid,0,0,0,0⟩,[(nid,some (.cells (ty.nilz c.nz) (ty.nilz c.nz).zero))],none⟩
  | false=>.bad
def pBox (c:Ctx) (nid:Nat) (t:TypeId) (x:AV):Perf :=
 match x with
 | .val ty y=>⟨.val .ptr ⟨nid,0,0,0,0⟩,[(nid,some (.cells ty y))],none⟩
 | .nil=>match find c.T t with
  | some (.slice e)=>⟨.val .ptr ⟨nid,0,0,0,0⟩,[(nid,some (.cells (.slice e) []))],none⟩
  | _=>.bad
 | _=>.bad
def pFieldAddr (P:Program) (s:TypeId) (x:AV) (f:Nat):Perf :=
 match fieldOf P s f with
 | none=>.bad
 | some (off,ft)=>match (P.info? ft).map (·.size) with
  | some (_+1)=>match x with
   | .val .ptr p=>match Nat.beq p.es 0 with
    | true=>.of (.val .ptr ⟨p.b,p.off+off,p.i,p.es,p.inner⟩)
    | false=>.of (.val .ptr ⟨p.b,p.off,p.i,p.es,p.inner+off⟩)
   | .imm t y o=>.of (.imm t y (o+off))
   | _=>.bad
  | _=>.bad
def pField (P:Program) (c:Ctx) (s:TypeId) (x:AV) (f:Nat):Perf :=
 match fieldOf P s f with
 | none=>.bad
 | some (off,ft)=>match find c.T ft with
  | none=>.bad
  | some ty=>match x with
   | .val (.pair p q) y=>match comp (.pair p q) y off ty with
    | some z=>.of (.val ty z)
    | none=>.bad
   | _=>.bad
def ofs (lo:Nat) (n:Int):Int:=(lo:Int)+n
def pIndexAddr (P:Program) (hp:Nat→Option Blk) (t:TypeId) (x i:AV):Perf :=
 match i with
 | .val (.int _) n=>match P.underlying t,x with
  | some (.array len elem),.val .ptr p=>match Nat.beq p.es 0 && Nat.beq p.inner 0 with
   | true=>match (P.info? elem).map (·.size) with
    | some (m+1)=>⟨.val .ptr ⟨p.b,p.off,n,m+1,0⟩,[],some (inR n (len:Int))⟩
    | _=>.bad
   | false=>.bad
  | some (.slice elem),.val (.slice e) l=>match (P.info? elem).map (·.size) with
   | some (m+1)=>match Nat.beq e.size (m+1) with
    | true=>⟨.imm e (List.getD l n.toNat e.zero) 0,[],some (inR n (List.length l:Int))⟩
    | false=>.bad
   | _=>.bad
  | some (.slice elem),.val .own b=>match hp b with
   | some (.row e l _)=>match (P.info? elem).map (·.size) with
    | some (m+1)=>match Nat.beq e.size (m+1) with
     | true=>⟨.val .ptr ⟨b,0,n,m+1,0⟩,[],some (inR n (l.length:Int))⟩
     | false=>.bad
    | _=>.bad
   | _=>.bad
  | some (.slice elem),.suf b lo k=>match hp b with
   | some (.row e l _)=>match (P.info? elem).map (·.size) with
    | some (m+1)=>match Nat.beq e.size (m+1) && Nat.beq k (m+1) with
     | true=>⟨.val .ptr ⟨b,0,ofs lo n,m+1,0⟩,[],some (inR n ((l.length - lo:Nat):Int))⟩
     | false=>.bad
    | _=>.bad
   | _=>.bad
  | _,_=>.bad
 | _=>.bad
def pLen (P:Program) (hp:Nat→Option Blk) (t:TypeId) (x:AV):Perf :=
 match P.underlying t,x with
 | some (.slice _),.val (.slice _) l=>.of (.val (.int .i64) (List.length l:Int))
 | some (.slice _),.val .own b=>match hp b with
  | some (.row _ l _)=>.of (.val (.int .i64) (l.length:Int))
  | _=>.bad
 | some (.slice _),.suf b lo _=>match hp b with
  | some (.row _ l _)=>.of (.val (.int .i64) ((l.length - lo:Nat):Int))
  | _=>.bad
 | some (.slice _),.nil=>.of (.val (.int .i64) (0:Int))
 | some (.array n _),_=>.of (.val (.int .i64) (n:Int))
 | _,_=>.bad
def pMin:AV→List AV→Perf
 | .val (.int k) x,[]=>.of (.val (.int k) x)
 | .val (.int k) x,.val (.int _) y :: l=>pMin (.val (.int k) (imin x y)) l
 | _,_=>.bad
def pMax:AV→List AV→Perf
 | .val (.int k) x,[]=>.of (.val (.int k) x)
 | .val (.int k) x,.val (.int _) y :: l=>pMax (.val (.int k) (imax x y)) l
 | _,_=>.bad
def capPtrs:List AV→Option (List Ptr)
 | []=>some []
 | .val .ptr p :: l=>(capPtrs l).map (p :: ·)
 | _ :: _=>none
def pParts (c:Ctx) (fs:Array Field) (t:Ty):t.den→List (Nat × AV)→Option t.den
 | x,[]=>some x
 | x,(i,av) :: r=>match fs[i]? with
  | some f=>match find c.T f.type with
   | some ft=>match coe ft av with
    | some y=>match setc t x f.offset ft y with
     | some x'=>pParts c fs t x' r
     | none=>none
    | none=>none
   | none=>none
  | none=>none
def pElems (e:Ty) (n:Nat):List e.den→List (Nat × AV)→Option (List e.den)
 | l,[]=>some l
 | l,(i,av) :: r=>match Nat.blt i n with
  | true=>match coe e av with
   | some y=>pElems e n (l.set i y) r
   | none=>none
  | false=>none
def placesOf (P:Program) (fs:List Field):Option (List (Nat × Nat)):=fs.mapM fun f=>(P.info? f.type).map fun i=>(f.offset,i.size)
def pBuild (P:Program) (c:Ctx) (t:TypeId) (parts:List (Nat × AV)):Perf :=
 match find c.T t with
 | none=>.bad
 | some ty=>match zeroOk P t ty with
  | false=>.bad
  | true=>match P.underlying t with
   | some (.struct fs)=>match placesOf P fs.toList with
    | none=>.bad
    | some _=>match pParts c fs ty ty.zero parts with
     | some y=>.of (.val ty y)
     | none=>.bad
   | some (.array _ et)=>match ty with
    | .arr n e=>match tyOk P et e with
     | true=>match pElems e n (List.replicate n e.zero) parts with
      | some l=>.of (.val (.arr n e) l)
      | none=>.bad
     | false=>.bad
    | _=>.bad
   | _=>.bad
def pBuildSlice (P:Program) (c:Ctx) (nid:Nat) (t:TypeId) (len:Nat) (parts:List (Nat × AV)) (ans:Ans):Perf :=
 match P.underlying t with
 | some (.slice et)=>match find c.T et with
  | none=>.bad
  | some e=>match zeroOk P et e && (Nat.blt 0 e.size && (Nat.ble (len*e.size) 16777216 && (Nat.ble len 9000000000000000000 && e.deep))) with
   | false=>.bad
   | true=>match pElems e len (List.replicate len e.zero) parts with
    | none=>.bad
    | some l=>match ans with
     | .dec true=>⟨.val .own nid,[(nid,some (.row e l et))],none⟩
     | .dec false=>.of (.val (.slice e) l)
     | _=>.bad
 | _=>.bad
def mkOk (bytes:Nat) (n m:Int):Prop:=m=n∧(0≤n∧(n≤9000000000000000000∧(bytes:Int)*n≤140737488355328))
instance (b:Nat) (n m:Int):Decidable (mkOk b n m):=by unfold mkOk; infer_instance
def pMakeSlice (P:Program) (c:Ctx) (nid:Nat) (t:TypeId) (x y:AV):Perf :=
 match P.underlying t with
 | some (.slice et)=>match find c.T et,P.info? et with
  | some e,some i=>match zeroOk P et e && (Nat.blt 0 e.size && e.deep) with
   | false=>.bad
   | true=>match x,y with
    | .val (.int _) n,.val (.int _) m=>⟨.val .own nid,[(nid,some (.row e (List.replicate n.toNat e.zero) et))],some (mkOk i.bytes n m)⟩
    | _,_=>.bad
  | _,_=>.bad
 | _=>.bad
def roomFor (bytes n m:Nat):Prop:=(n+m)*bytes≤140737488355328
def addends (hp:Nat→Option Blk) (e:Ty) (y:AV):Option (List e.den) :=
 match y with
 | .nil=>some []
 | .val .own b=>match hp b with
  | some (.row e' l _)=>Ty.as? (.slice e') (.slice e) l
  | _=>none
 | .val t l=>Ty.as? t (.slice e) l
 | _=>none
def pAppend (P:Program) (c:Ctx) (hp:Nat→Option Blk) (nid:Nat) (t t':TypeId) (x y:AV):Perf :=
 match Nat.beq t t',P.underlying t with
 | true,some (.slice et)=>match find c.T et,P.info? et with
  | some e,some i=>match zeroOk P et e && (Nat.blt 0 e.size && (Nat.blt 0 i.bytes && e.deep)) with
   | false=>.bad
   | true=>match addends hp e y with
    | none=>.bad
    | some m=>match x with
     | .nil=>⟨.val .own nid,[(nid,some (.row e m et))],some (roomFor i.bytes 0 m.length)⟩
     | .val .own b=>match hp b with
      | some (.row e' l et')=>match Nat.beq et et' && Nat.ble c.pin b,Ty.as? (.slice e') (.slice e) l with
       | true,some (l:List e.den)=>⟨.val .own nid,[(b,none),(nid,some (.row e (l++m) et))],some (roomFor i.bytes l.length m.length)⟩
       | _,_=>.bad
      | _=>.bad
     | _=>.bad
  | _,_=>.bad
 | _,_=>.bad
def zAp (bytes:Nat) (n:Int):Prop:=0<n∧n*(bytes:Int)≤140737488355328
def pAppendZ (P:Program) (c:Ctx) (nid:Nat) (t t':TypeId) (x y:AV):Perf :=
 match x,y,P.underlying t,P.underlying t' with
 | .nil,.val (.int _) n,some (.slice et),some (.int _)=>match find c.T et,P.info? et with
  | some e,some i=>match zeroOk P et e && (Nat.blt 0 e.size && (Nat.blt 0 i.bytes && e.deep)) with
   | true=>⟨.val .own nid,[(nid,some (.row e (List.replicate (Int.toNat n) e.zero) et))],some (zAp i.bytes n)⟩
   | false=>.bad
  | _,_=>.bad
 | _,_,_,_=>.bad
def pAppendY (P:Program) (c:Ctx) (hp:Nat→Option Blk) (nid:Nat) (t t':TypeId) (x y:AV):Perf:=match Nat.beq t t' with
 | true=>pAppend P c hp nid t t' x y
 | false=>pAppendZ P c nid t t' x y
def cutIx (n:Int) (hi:Option AV):Option Int :=
 match hi with
 | none=>some n
 | some (.val (.int _) h)=>some h
 | _=>none
def pSlice (P:Program) (t:TypeId) (x:AV) (lo hi:Option AV) (mx:Bool):Perf :=
 match mx,P.underlying t,x with
 | false,some (.slice et),.val (.slice e) l=>match (P.info? et).map (·.size),cutIx 0 lo,cutIx (List.length l:Int) hi with
  | some m,some a,some b=>match Nat.beq e.size m with
   | true=>⟨.val (.slice e) (List.drop a.toNat (List.take b.toNat l)),[],some (0≤a∧a≤b∧b≤(List.length l:Int))⟩
   | false=>.bad
  | _,_,_=>.bad
 | _,_,_=>.bad
def strAt (s:ByteArray) (n:Int):Int:=((s.data.getD n.toNat 0).toNat:Int)
def pIndexV (P:Program) (c:Ctx) (t:TypeId) (x:AV) (n:Int):Perf :=
 match x with
 | .val (.arr m e) l=>match P.underlying t with
  | some (.array len elem)=>match Nat.beq len m with
   | true=>match find c.T elem with
    | some ty=>match Ty.as? (.arr m e) (.arr m ty) l with
     | some (l':List ty.den)=>⟨.val ty (l'.getD n.toNat ty.zero),[],some (inR n (m:Int))⟩
     | none=>.bad
    | none=>.bad
   | false=>.bad
  | _=>.bad
 | _=>.bad
def pIndex (P:Program) (c:Ctx) (t:TypeId) (x:Operand) (xv:AV) (i:AV):Perf :=
 match i with
 | .val (.int _) n=>match x with
  | .const (.string s)=>match P.underlying t with
   | some .string=>⟨.val (.int .u8) (strAt s n),[],some (inR n (s.size:Int))⟩
   | _=>.bad
  | _=>pIndexV P c t xv n
 | _=>.bad
end Go.Sx
namespace Go.Sx
def app (hp:Nat→Option Blk) (ed:List (Nat × Option Blk)):Nat→Option Blk:=ed.foldl (fun h e=>upd h e.1 e.2) hp
def constAV:Value→AV
 | .int k n=>.val (.int k) n
 | .bool b=>.val .bool b
 | .slice none 0 0=>.nil
 | _=>.undef
def St.ev (s:St):Operand→AV
 | .tmp t=>s.sl t
 | .const v=>constAV v
 | .global _=>.undef
 | .func f=>.val .clo (f,[])
def OpOk (cx:Cx) (o:Oper) (s:St) (nid:Nat) (p:Perf):Prop :=
 ∀ (ρ:Nat→Value) (F:Nat→Prop) (a:Act) (w:World) (next:Act→World→Prop) (Q:Exit→Act→World→Prop),M cx ρ F s a w→¬ F nid→p.obP →
  (∀ ρ' v w',M cx ρ' (fun b=>F b∨b=nid) ⟨putS cx.n s.sl o.dst p.v,app s.hp p.ed,s.ok⟩ (a.put o.dst v) w'→next (a.put o.dst v) w')→o.wp cx.P a w next Q
section
variable {cx:Cx} {ρ:Nat→Value} {F:Nat→Prop} {s:St} {a:Act} {w:World} {o:Oper} {nid:Nat}
theorem RV_int {P:Program} {I:Nat→Prop} {k:IntKind} {n:Int} {v:Value} (h:RV P ρ w I (.val (.int k) n) v):v=.int k n:=by
 obtain ⟨c,rfl,hc⟩:=h
 have hc:c=[.int k n]:=hc
 subst hc
 rfl
theorem RV_bool {P:Program} {I:Nat→Prop} {b:Bool} {v:Value} (h:RV P ρ w I (.val .bool b) v):v=.bool b:=by
 obtain ⟨c,rfl,hc⟩:=h
 have hc:c=[.bool b]:=hc
 subst hc
 rfl
theorem RV_ptr {P:Program} {I:Nat→Prop} {p:Ptr} {v:Value} (h:RV P ρ w I (.val .ptr p) v):v=p.val ρ:=by
 obtain ⟨c,rfl,hc⟩:=h
 obtain ⟨rfl,_⟩:=hc
 rfl
theorem RV_ptr_good {P:Program} {I:Nat→Prop} {p:Ptr} {v:Value} (h:RV P ρ w I (.val .ptr p) v):p.good ρ:=by
 obtain ⟨c,rfl,hc⟩:=h
 exact hc.2
theorem RV_own {P:Program} {I:Nat→Prop} {b:Nat} {v:Value} (h:RV P ρ w I (.val .own b) v):v=ρ b:=by
 obtain ⟨c,rfl,hc⟩:=h
 have hc:c=[ρ b]:=hc
 subst hc
 rfl
theorem RV_clo {P:Program} {I:Nat→Prop} {g:FuncId × List Ptr} {v:Value} (h:RV P ρ w I (.val .clo g) v):v=.func (.func g.1) #[] (g.2.map (·.val ρ)).toArray:=by
 obtain ⟨c,rfl,hc⟩:=h
 have hc:c=[.func (.func g.1) #[] (g.2.map (·.val ρ)).toArray]:=hc
 subst hc
 rfl
theorem RV_of_int {P:Program} {I:Nat→Prop} {k:IntKind} {n:Int}:RV P ρ w I (.val (.int k) n) (.int k n):=⟨[.int k n],rfl,rfl⟩
theorem RV_of_bool {P:Program} {I:Nat→Prop} {b:Bool}:RV P ρ w I (.val .bool b) (.bool b):=⟨[.bool b],rfl,rfl⟩
theorem RV_of_ptr {P:Program} {I:Nat→Prop} {p:Ptr} (h:p.good ρ):RV P ρ w I (.val .ptr p) (p.val ρ):=⟨[p.val ρ],rfl,rfl,h⟩
theorem RV_const {P:Program} {I:Nat→Prop} (v:Value):RV P ρ w I (constAV v) v:=by
 unfold constAV
 split
 ·exact RV_of_int
 ·exact RV_of_bool
 ·rfl
 ·trivial
theorem refs_const (v:Value):(constAV v).refs=[]:=by
 unfold constAV
 split <;> rfl
theorem M.ev (h:M cx ρ F s a w) (x:Operand):RV cx.P ρ w (cx.I ρ s) (s.ev x) (a.eval x)∧∀ b∈(s.ev x).refs,F b:=by
 cases x with
 | tmp t=>exact ⟨h.slots t,h.srefs t⟩
 | const v=>exact ⟨RV_const v,fun b hb=>by rw [show s.ev (.const v)=constAV v from rfl,refs_const] at hb; cases hb⟩
 | global g=>exact ⟨trivial,fun b hb=>by cases hb⟩
 | func f=>exact ⟨⟨_,rfl,rfl⟩,fun b hb=>by cases hb⟩
theorem ok_value {p:Perf} (hed:p.ed=[])
  (h:∀ (ρ:Nat→Value) (F:Nat→Prop) (a:Act) (w:World),M cx ρ F s a w→p.obP→∃ v,(execOp a.eval o).run cx.P w=.ok (.value v) w∧RV cx.P ρ w (cx.I ρ s) p.v v∧∀ b∈p.v.refs,F b):OpOk cx o s nid p:=by
 intro ρ F a w next Q hM _ hob hn
 obtain ⟨v,hr,hv,hf⟩:=h ρ F a w hM hob
 unfold Oper.wp
 rw [hr]
 refine hn ρ v w ?_
 rw [hed]
 exact (hM.put o.dst hv hf s.ok).widen (fun b hb=>.inl hb)
theorem ok_move {x:Operand} (ho:o.op=.move x∨o.op=.assign x):OpOk cx o s nid (.of (s.ev x)):=by
 refine ok_value rfl fun ρ F a w hM _=>⟨a.eval x,?_,hM.ev x⟩
 rcases ho with ho | ho <;> simp [execOp,ho]
theorem ok_pick {c x y:Operand} {b t:Bool} (ho:o.op=.pick c x y) (hc:s.ev c=.val .bool b):OpOk cx o s nid ⟨match t with | true=>s.ev x | false=>s.ev y,[],some (b=t)⟩:=by
 refine ok_value rfl fun ρ F a w hM hob=>?_
 have h1:=(hM.ev c).1
 rw [hc] at h1
 have h1:=RV_bool h1
 change b=t at hob
 subst hob
 cases b with
 | true=>exact ⟨a.eval x,by simp [execOp,ho,h1,asBool],hM.ev x⟩
 | false=>exact ⟨a.eval y,by simp [execOp,ho,h1,asBool],hM.ev y⟩
theorem run_eqGuard_int {P:Program} (op:BinOp) (t:TypeId) (x y:Operand) (k k':IntKind) (m n:Int):(eqGuard op t x y (.int k m) (.int k' n)).run P w=.ok () w:=by
 unfold eqGuard
 cases op <;> rfl
theorem run_eqGuard_bool {P:Program} (op:BinOp) (t:TypeId) (x y:Operand) (m n:Bool):(eqGuard op t x y (.bool m) (.bool n)).run P w=.ok () w:=by
 unfold eqGuard
 cases op <;> rfl
theorem run_arith {P:Program} (op:BinOp) (t:TypeId) (k k':IntKind) (m n:Int) (hk:k=k'∨op=.shl∨op=.shr) (hob:(arith op k m n).obP) (ρ:Nat→Value) (I:Nat→Prop) :
  ∃ v,(binOp op t (.int k m) (.int k' n)).run P w=.ok v w∧RV P ρ w I (arith op k m n).v v∧(arith op k m n).v.refs=[]:=by
 cases op
 case shl =>
  have hn:¬ n<0:=by have:0≤n:=hob; omega
  exact ⟨_,by simp [binOp,Op.shift,hn],RV_of_int,rfl⟩
 case shr =>
  have hn:¬ n<0:=by have:0≤n:=hob; omega
  exact ⟨_,by simp [binOp,Op.shift,hn],RV_of_int,rfl⟩
 all_goals
  rcases hk with rfl | hk | hk
  rotate_left
  ·cases hk
  ·cases hk
 case add=>exact ⟨_,by simp [binOp,Op.intArith],RV_of_int,rfl⟩
 case sub=>exact ⟨_,by simp [binOp,Op.intArith],RV_of_int,rfl⟩
 case mul=>exact ⟨_,by simp [binOp,Op.intArith],RV_of_int,rfl⟩
 case quo=>exact ⟨_,by have hn:¬ n=0:=hob; simp [binOp,Op.intDiv,hn],RV_of_int,rfl⟩
 case rem=>exact ⟨_,by have hn:¬ n=0:=hob; simp [binOp,Op.intDiv,hn],RV_of_int,rfl⟩
 case and=>exact ⟨_,by simp only [binOp,Op.intBits,ne_eq,not_true_eq_false,if_false]; rfl,RV_of_int,rfl⟩
 case or=>exact ⟨_,by simp only [binOp,Op.intBits,ne_eq,not_true_eq_false,if_false]; rfl,RV_of_int,rfl⟩
 case xor=>exact ⟨_,by simp only [binOp,Op.intBits,ne_eq,not_true_eq_false,if_false]; rfl,RV_of_int,rfl⟩
 case andNot=>exact ⟨_,by simp only [binOp,Op.intBits,ne_eq,not_true_eq_false,if_false]; rfl,RV_of_int,rfl⟩
 case eql =>
  have:(m == n)=decide (m=n):=rfl
  exact ⟨.bool (m == n),by simp [binOp,Op.intCmp],by rw [this]; exact RV_of_bool,rfl⟩
 case neq =>
  have:(m != n)=decide (¬ m=n):=by simp only [bne,show (m == n)=decide (m=n) from rfl]; exact (decide_not (p:=m=n)).symm
  exact ⟨.bool (m != n),by simp [binOp,Op.intCmp],by rw [this]; exact RV_of_bool,rfl⟩
 case lss=>exact ⟨_,by simp [binOp,Op.intCmp],RV_of_bool,rfl⟩
 case leq=>exact ⟨_,by simp [binOp,Op.intCmp],RV_of_bool,rfl⟩
 case gtr=>exact ⟨_,by simp [binOp,Op.intCmp],RV_of_bool,rfl⟩
 case geq=>exact ⟨_,by simp [binOp,Op.intCmp],RV_of_bool,rfl⟩
end
def EqOk (P:Program) (t:TypeId) (ty:Ty):Prop :=
 ∀ (ρ:Nat→Value) (w:World) (I:Nat→Prop) (X Y:ty.den) (u v:Value) (x y:Operand),RdV P ty ρ w I X u→RdV P ty ρ w I Y v →
  (do eqGuard .eql t x y u v; binOp .eql t u v:Sem Value).run P w=.ok (.bool (ty.eqb X Y)) w ∧
  (do eqGuard .neq t x y u v; binOp .neq t u v:Sem Value).run P w=.ok (.bool (!ty.eqb X Y)) w
theorem find_mem {α:Type}:∀ {l:List (Nat × α)} {k:Nat} {x:α},find l k=some x→(k,x)∈l
 | [],_,_,h=>by cases h
 | (k',y) :: l,k,x,h=>by
  unfold find at h
  split at h
  ·rename_i hk
   obtain rfl:=Nat.eq_of_beq_eq_true hk
   obtain rfl:=Option.some.inj h
   exact List.mem_cons_self
  ·exact List.mem_cons_of_mem _ (find_mem h)
section
variable {cx:Cx} {s:St} {o:Oper} {nid:Nat} {c:Ctx}
theorem bad_ok:OpOk cx o s nid .bad:=fun _ _ _ _ _ _ _ _ h=>h.elim
theorem ok_bin {op:BinOp} {xt yt:TypeId} {x y:Operand} (ho:o.op=.binOp op xt x y yt) (he:∀ t ty,(t,ty)∈c.eqs→EqOk cx.P t ty) :
  OpOk cx o s nid (pBin c op xt (s.ev x) (s.ev y)):=by
 have ints:∀ (k k':IntKind) (m n:Int),s.ev x=.val (.int k) m→s.ev y=.val (.int k') n→(k=k'∨op=.shl∨op=.shr)→OpOk cx o s nid (arith op k m n):=by
  intro k k' m n hx hy hk
  have hed:(arith op k m n).ed=[]:=by cases op <;> rfl
  refine ok_value hed fun ρ F a w hM hob=>?_
  have h1:=(hM.ev x).1
  have h2:=(hM.ev y).1
  rw [hx] at h1
  rw [hy] at h2
  have h1:=RV_int h1
  have h2:=RV_int h2
  obtain ⟨v,hr,hv,hf⟩:=run_arith (P:=cx.P) (w:=w) op xt k k' m n hk hob ρ (cx.I ρ s)
  refine ⟨v,?_,hv,fun b hb=>by rw [hf] at hb; cases hb⟩
  simp only [execOp,ho,h1,h2,Sem.run_bind,run_eqGuard_int,Result.andThen_ok,hr,Sem.run_pure]
 unfold pBin
 split
 ·rename_i k m k' n hx hy
  split
  ·exact ints k k' m n hx hy (.inr (.inl rfl))
  ·exact ints k k' m n hx hy (.inr (.inr rfl))
  ·split
   ·rename_i hk
    exact ints k k' m n hx hy (.inl (of_decide_eq_true hk))
   ·exact bad_ok
 ·rename_i tx m t' n _ hx hy
  split
  ·rename_i t hf
   split
   ·rename_i A B hA hB
    obtain ⟨rfl,rfl⟩:=Ty.as?_some hA
    obtain ⟨rfl,rfl⟩:=Ty.as?_some hB
    have hE:=he _ _ (find_mem hf)
    split
    ·refine ok_value rfl fun ρ F a w hM _=>?_
     have h1:=(hM.ev x).1
     have h2:=(hM.ev y).1
     rw [hx] at h1
     rw [hy] at h2
     have hr:=(hE ρ w _ _ _ _ _ x y h1 h2).1
     exact ⟨_,by simp only [execOp,ho]; rw [Sem.run_bind,hr]; rfl,RV_of_bool,fun b hb=>by cases hb⟩
    ·refine ok_value rfl fun ρ F a w hM _=>?_
     have h1:=(hM.ev x).1
     have h2:=(hM.ev y).1
     rw [hx] at h1
     rw [hy] at h2
     have hr:=(hE ρ w _ _ _ _ _ x y h1 h2).2
     exact ⟨_,by simp only [execOp,ho]; rw [Sem.run_bind,hr]; rfl,RV_of_bool,fun b hb=>by cases hb⟩
    ·exact bad_ok
   ·exact bad_ok
  ·exact bad_ok
 ·exact bad_ok
end
end Go.Sx
