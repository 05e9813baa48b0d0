import Derived.Test.YthpbadopmihmpaaGreatSxEq
import Derived.ProofKit
import Derived.OpenShut
import Derived.SizedLaws
import Derived.WalkKit
namespace Go.Sx
mutual
def tyM (P:Program):Nat→TypeId→Ty→Bool
 | 0,_,_=>false
 | d+1,t,ty=>match P.underlying t,ty with
  | some (.int k),.int k'=>decide (k=k')
  | some .bool,.bool=>true
  | some (.slice e),.slice te=>Nat.beq (P.cellsOf e) te.size && (Nat.blt 0 te.size && tyM P d e te)
  | some (.struct fs),ty=>Nat.beq (P.cellsOf t) ty.size && tyMf P d fs.toList 0 ty
  | _,_=>false
def tyMf (P:Program):Nat→List Field→Nat→Ty→Bool
 | 0,_,_,_=>false
 | _+1,[],_,.unit=>true
 | d+1,f :: fs,off,.pair a b=>Nat.beq f.offset off && (Nat.beq (P.cellsOf f.type) a.size && (tyM P d f.type a && tyMf P d fs (off+a.size) b))
 | _+1,_,_,_=>false
end
def Ty.wf:(t:Ty)→t.den→Prop
 | .int k,n=>(Lit.int k n).wf=true
 | .pair a b,x=>a.wf x.1∧b.wf x.2
 | .slice e,(l:List e.den)=>l.length≤maxLen∧∀ x∈l,e.wf x
 | .arr _ e,(l:List e.den)=>∀ x∈l,e.wf x
 | _,_=>True
theorem mapM_get {α β:Type} {f:α→Option β}:∀ {l:List α} {r:List β},l.mapM f=some r→r.length=l.length∧∀ (i:Nat) (x:α),l[i]?=some x→∃ y,r[i]?=some y∧f x=some y:=by
 intro l
 induction l with
 | nil =>
  intro r h
  simp only [List.mapM_nil,Option.pure_def,Option.some.injEq] at h
  subst h
  exact ⟨rfl,fun i x hx=>by simp at hx⟩
 | cons a l ih =>
  intro r h
  rw [List.mapM_cons] at h
  simp only [Option.bind_eq_bind,Option.pure_def] at h
  obtain ⟨y,hy,h⟩:=Option.bind_eq_some_iff.1 h
  obtain ⟨ys,hys,h⟩:=Option.bind_eq_some_iff.1 h
  obtain rfl:=Option.some.inj h
  obtain ⟨h1,h2⟩:=ih hys
  refine ⟨by simp [h1],fun i x hx=>?_⟩
  cases i with
  | zero =>
   simp only [List.getElem?_cons_zero,Option.some.injEq] at hx
   subst hx
   exact ⟨y,rfl,hy⟩
  | succ i=>simpa using h2 i x (by simpa using hx)
theorem choose_list {α:Type} {Q:Nat→α→Prop}:∀ (n:Nat),(∀ i,i<n→∃ x,Q i x)→∃ l:List α,l.length=n∧∀ (i:Nat) (x:α),l[i]?=some x→Q i x:=by
 intro n
 induction n with
 | zero=>intro _; exact ⟨[],rfl,fun i x h=>by simp at h⟩
 | succ n ih =>
  intro h
  obtain ⟨l,hl,hq⟩:=ih fun i hi=>h i (by omega)
  obtain ⟨x,hx⟩:=h n (by omega)
  refine ⟨l++[x],by simp [hl],fun i y hy=>?_⟩
  by_cases hi:i<n
  ·rw [List.getElem?_append_left (by omega)] at hy
   exact hq i y hy
  ·rw [List.getElem?_append_right (by omega)] at hy
   by_cases he:i=n
   ·subst he
    simp [hl] at hy
    subst hy
    exact hx
   ·have:l.length+1≤i:=by omega
    rw [List.getElem?_eq_none (by simp; omega)] at hy
    cases hy
theorem cells_at {w:World} {base:Nat} {a:Addr} {n:Nat} {cs:List Value} (h:w.cells? base a n=some cs):cs.length=n∧CellsAt w a cs:=by
 unfold World.cells? at h
 split at h
 ·obtain ⟨h1,h2⟩:=mapM_get h
  simp only [List.length_range] at h1
  refine ⟨h1,fun j v hv=>?_⟩
  have hj:j<n:=by rw [← h1]; exact (List.getElem?_eq_some_iff.1 hv).1
  obtain ⟨y,hy,hf⟩:=h2 j j (by simp [hj])
  rw [hv] at hy
  obtain rfl:=Option.some.inj hy
  exact hf
 ·cases h
theorem cell_lt {w:World} {a:Addr} {v:Value} (h:w.cell? a=some v):a.block<w.heap.size:=by
 unfold World.cell? at h
 split at h
 ·rename_i hh; exact (Array.getElem?_eq_some_iff.1 hh).1
 ·cases h
section
variable {P:Program} {H:Type} {enc:TypeId × Value→H} {W:World} {sp:Nat→Bool} {held:Bool}
theorem elem_read {w:World} {n m:Nat} {e:TypeId} {te:Ty} {a:Addr} {r:DataW H × List MemPlace} (hsz:P.cellsOf e=te.size)
  (hread:∀ cs,DataW.trod enc P w 0 sp held n e cs=some r→∃ x:te.den,Rd P te false ρ0 w (fun b=>b<w.heap.size) x cs∧te.wf x)
  (h:(w.cells? 0 (a.add m) (P.cellsOf e)).bind (DataW.trod enc P w 0 sp held n e)=some r) :
  ∃ x:te.den,(∃ c,CellsAt w (a.add m) c∧c.length=te.size∧Rd P te false ρ0 w (fun b=>b<w.heap.size) x c)∧te.wf x:=by
 obtain ⟨cs,h1,h2⟩:=Option.bind_eq_some_iff.1 h
 obtain ⟨hl,hc⟩:=cells_at h1
 obtain ⟨x,hx,hw⟩:=hread cs h2
 exact ⟨x,⟨cs,hc,by rw [hl,hsz],hx⟩,hw⟩
theorem trod_read:∀ (d:Nat),
  (∀ (t:TypeId) (ty:Ty) (fuel:Nat) (cs:List Value) (r:DataW H × List MemPlace),tyM P d t ty=true→DataW.trod enc P W 0 sp held fuel t cs=some r →
   ∃ x:ty.den,Rd P ty false ρ0 W (fun b=>b<W.heap.size) x cs∧ty.wf x) ∧
  (∀ (fs:List Field) (off:Nat) (ty:Ty) (n:Nat) (cs:List Value) (xs:List (DataW H × List MemPlace)),tyMf P d fs off ty=true→xs.length=fs.length →
   (∀ (i:Nat) (f:Field),fs[i]?=some f→DataW.trod enc P W 0 sp held n f.type ((cs.drop f.offset).take (P.cellsOf f.type))=xs[i]?)→cs.length=off+ty.size →
   ∃ x:ty.den,Rd P ty false ρ0 W (fun b=>b<W.heap.size) x (cs.drop off)∧ty.wf x):=by
 intro d
 induction d with
 | zero=>exact ⟨fun t ty fuel cs r h=>by simp [tyM] at h,fun fs off ty n cs xs h=>by simp [tyMf] at h⟩
 | succ d ih =>
  constructor
  ·intro t ty fuel cs r h hr
   unfold tyM at h
   split at h
   ·rename_i k k' hu
    have hk:=of_decide_eq_true h
    subst hk
    obtain ⟨n,rfl,_,hw⟩:=DataW.trod_int hu hr
    exact ⟨n,rfl,hw⟩
   ·rename_i hu
    obtain ⟨b,rfl,_⟩:=DataW.trod_bool hu hr
    exact ⟨b,rfl,trivial⟩
   ·rename_i e te hu
    simp only [Bool.and_eq_true] at h
    obtain ⟨hsz,hpos,he⟩:=h
    have hsz:=Nat.eq_of_beq_eq_true hsz
    have hpos:=blt_true hpos
    rcases DataW.trod_slice hu hr with ⟨rfl,_⟩ | ⟨a,len,cap,elems,rest,n,rfl,rfl,rfl,hb,hlc,hcm,hel,hall,_,_⟩
    ·exact ⟨([]:List te.den),⟨none,0,rfl,Nat.le_refl _,.inl rfl⟩,Nat.zero_le _,fun x hx=>by cases hx⟩
    ·have hget:∀ i,i<len→∃ x:te.den,(∃ c,CellsAt W (a.add (i*P.cellsOf e)) c∧c.length=te.size∧Rd P te false ρ0 W (fun b=>b<W.heap.size) x c)∧te.wf x:=by
      intro i hi
      have h1:=hall i hi
      have h2:elems[i]?=some elems[i]:=List.getElem?_eq_getElem (by omega)
      rw [h2] at h1
      exact elem_read hsz (fun cs hcs=>ih.1 e te n cs _ he hcs) h1
     obtain ⟨l,hl,hq⟩:=choose_list len hget
     refine ⟨l,⟨some a,cap,by rw [hl],by omega,?_⟩,⟨by omega,fun x hx=>?_⟩⟩
     ·by_cases h0:len=0
      ·exact .inl (List.eq_nil_of_length_eq_zero (by omega))
      ·obtain ⟨x,⟨c,hc,hcl,_⟩,_⟩:=hget 0 (by omega)
       have h00:c[0]?=some c[0]:=List.getElem?_eq_getElem (by omega)
       have hcell:=hc 0 _ h00
       have ha0:(a.add (0*P.cellsOf e)).add 0=a:=by
        rw [Nat.zero_mul]
        have:∀ q:Addr,q.add 0=q:=fun q=>by unfold Addr.add; simp
        rw [this,this]
       rw [ha0] at hcell
       refine .inr ⟨a,rfl,World.cell?_spot hcell,cell_lt hcell,cell_lt hcell,fun i x hx=>?_⟩
       obtain ⟨⟨c,hc,_,hr⟩,_⟩:=hq i x hx
       rw [hsz] at hc
       exact ⟨c,hc,hr⟩
     ·obtain ⟨i,hi⟩:=List.mem_iff_getElem?.1 hx
      exact (hq i x hi).2
   ·rename_i ty _ _ fs hu
    simp only [Bool.and_eq_true] at h
    obtain ⟨xs,n,rfl,rfl,hlen,hxl,hall⟩:=DataW.trod_struct hu hr
    have hsize:P.cellsOf t=ty.size:=Nat.eq_of_beq_eq_true h.1
    obtain ⟨x,hx,hw⟩:=ih.2 fs.toList 0 ty n cs xs h.2 (by simpa using hxl) (fun i f hf=>hall i f (by simpa using hf)) (by rw [hlen,hsize]; omega)
    exact ⟨x,by simpa using hx,hw⟩
   ·cases h
  ·intro fs off ty n cs xs h hxl hall hlen
   cases fs with
   | nil =>
    cases ty with
    | unit =>
     refine ⟨(),?_,trivial⟩
     show cs.drop off=[]
     rw [List.drop_eq_nil_iff]
     simp [Ty.size] at hlen
     omega
    | _=>simp [tyMf] at h
   | cons f fs =>
    cases ty with
    | pair a b =>
     simp only [tyMf,Bool.and_eq_true] at h
     obtain ⟨hoff,hsz,ha,hb⟩:=h
     have hoff:=Nat.eq_of_beq_eq_true hoff
     have hsz:=Nat.eq_of_beq_eq_true hsz
     cases xs with
     | nil=>simp at hxl
     | cons y ys =>
      have h0:=hall 0 f rfl
      simp only [List.getElem?_cons_zero] at h0
      obtain ⟨x1,hx1,hw1⟩:=ih.1 f.type a n _ _ ha h0
      obtain ⟨x2,hx2,hw2⟩:=ih.2 fs (off+a.size) b n cs ys hb (by simpa using hxl) (fun i g hg=>by simpa using hall (i+1) g (by simpa using hg)) (by simp only [Ty.size] at hlen; omega)
      refine ⟨(x1,x2),⟨_,_,?_,hx1,hx2⟩,hw1,hw2⟩
      rw [hoff,hsz,← List.drop_drop]
      exact (List.take_append_drop _ _).symm
    | _=>simp [tyMf] at h
def tysM (P:Program):List TypeId→Ty→Bool
 | [],.unit=>true
 | t :: ts,.pair a b=>tyM P 60 t a && tysM P ts b
 | _,_=>false
theorem tyMf_agg:∀ {d:Nat} {fs:List Field} {off:Nat} {ty:Ty},tyMf P d fs off ty=true→ty.agg=true:=by
 intro d fs off ty h
 cases d with
 | zero=>simp [tyMf] at h
 | succ d =>
  cases fs with
  | nil=>cases ty <;> simp [tyMf] at h <;> rfl
  | cons f fs=>cases ty <;> simp [tyMf] at h <;> rfl
theorem value_of_cells {r:Reach} {b0:Nat} {d:Nat} {t:TypeId} {ty:Ty} {v:Value} (h:tyM P d t ty=true) (hv:Value.okWide P W r b0 t v):v=mkV ty v.cells.toList:=by
 cases d with
 | zero=>simp [tyM] at h
 | succ d =>
  unfold tyM at h
  split at h
  ·rename_i k k' hu
   obtain ⟨n,rfl⟩:=Go.WideShapes.okWide_int hu hv
   rfl
  ·rename_i hu
   obtain ⟨b,rfl⟩:=Go.WideShapes.okWide_bool hu hv
   rfl
  ·rename_i e te hu
   obtain ⟨a,l,c,rfl⟩:=Go.WideShapes.okWide_slice hu hv
   rfl
  ·rename_i ty _ _ fs hu
   simp only [Bool.and_eq_true] at h
   obtain ⟨cs,rfl,_⟩:=Go.WideShapes.okWide_struct hu hv
   have:=tyMf_agg h.2
   simp [mkV,this,Value.cells]
  ·cases h
theorem args_read {r:Reach} {b0:Nat}:∀ {ts:List TypeId} {ps:Ty} {vs:List Value} {ds:List (DataW H)} {p:List MemPlace},tysM P ts ps=true→DataW.TrodAll enc P W 0 sp held ts vs ds p →
  (∀ (j:Nat) (t:TypeId) (v:Value),ts[j]?=some t→vs[j]?=some v→Value.okWide P W r b0 t v)→∃ x:ps.den,Rd P ps true ρ0 W (fun b=>b<W.heap.size) x vs∧ps.wf x:=by
 intro ts
 induction ts with
 | nil =>
  intro ps vs ds p h hA _
  cases ps <;> simp [tysM] at h
  obtain ⟨h1,_,_⟩:=Go.ChangeShapes.trodAll_nil hA
  exact ⟨(),h1,trivial⟩
 | cons t ts ih =>
  intro ps vs ds p h hA hv
  cases ps <;> simp [tysM] at h
  rename_i a b
  obtain ⟨v,vs',d,ds',p0,q0,rfl,rfl,rfl,⟨fuel,h0⟩,hr⟩:=Go.ChangeShapes.trodAll_cons hA
  obtain ⟨x1,hx1,hw1⟩:=(trod_read 60).1 t a fuel _ _ h.1 h0
  obtain ⟨x2,hx2,hw2⟩:=ih h.2 hr (fun j t v ht hv'=>hv (j+1) t v (by simpa using ht) (by simpa using hv'))
  exact ⟨(x1,x2),⟨v.cells.toList,vs',by rw [← value_of_cells h.1 (hv 0 t v rfl rfl)],hx1,hx2⟩,hw1,hw2⟩
theorem trodAll_below (hl:laidOutB P=true) {W':World} (hb:Go.RowKit.Below W.heap.size W W'):∀ {ts:List TypeId} {vs:List Value} {ds:List (DataW H)} {p:List MemPlace},(ts.all fun t=>P.readableRec t && decide (t<P.types.size))=true →
  DataW.TrodAll enc P W 0 (fun _=>true) true ts vs ds p→DataW.TrodAll enc P W' 0 (fun b=>decide (b<W.heap.size)) true ts vs ds p:=by
 intro ts
 induction ts with
 | nil =>
  intro vs ds p _ h
  obtain ⟨h1,h2,h3⟩:=Go.ChangeShapes.trodAll_nil h
  rw [h1,h2,h3]
  exact Go.ChangeShapes.trodAll_mk0
 | cons t ts ih =>
  intro vs ds p hr h
  simp only [List.all_cons,Bool.and_eq_true,decide_eq_true_eq] at hr
  obtain ⟨v,vs',d,ds',p0,q0,rfl,rfl,rfl,h0,h1⟩:=Go.ChangeShapes.trodAll_cons h
  have lt0:∀ x∈p0,x.block<W.heap.size:=by obtain ⟨m,hm⟩:=h0; exact DataW.trod_lt m _ _ _ hm
  exact ⟨p0,q0,Go.RowKit.Below.trod hl hr.1.1 hr.1.2 h0 hb lt0,ih (by simpa using hr.2) h1,rfl⟩
end
theorem law_bool {P:Program} {f:FuncId} {fn:Func} {code:Code} (hf:P.funcs[f]?=some fn) (hb:fn.body=some code) (hname:(fn.name == "runtime.NumGoroutine")=false) {sp:Go.Sx.Spec} (h:FnOk P f sp)
  (hwr:sp.wr=false) (hrs:sp.rs=.one (.dp .bool)) {w:World} {args:Array Value} {x:sp.ps.den} {y:sp.rs.den} (hargs:Rd P sp.ps true ρ0 w (fun b=>b<w.heap.size) x args.toList) (hy:sp.f x=some y) {b:Bool} (hyb:y ≍ b) :
  Calls P f args w fun e w'=>e=.returned (.bool b)∧Go.RowKit.Below w.heap.size w w':=by
 unfold FnOk at h
 rw [hwr] at h
 have h1:=h w (fun b=>b<w.heap.size) x y args.toList (fun b hb=>hb) hargs hy
 let o:Oper:={ dst:=some 0,op:=.move (.tmp 0),type:=0,pos:="",after:=#[],guard:=none }
 have hr:(callFunc f args).run P w=.ok (.enter f args) w:=by
  have h1:fn.name≠"runtime.NumGoroutine":=by simpa using hname
  simp [callFunc,hf,h1,hb]
 have h2:=h1 o { tmps:=#[undef],defers:=[] } (fun a w'=>ResOk P w w' (fun b=>b<w.heap.size) sp.rs y (a.tmps.getD 0 undef)∧Below w.heap.size w w') (fun _ _ _=>False) (fun v w' hv=>by
  show ResOk P w w' _ sp.rs y (((#[undef]:Array Value).setIfInBounds 0 v).getD 0 undef)∧_
  have:((#[undef]:Array Value).setIfInBounds 0 v).getD 0 undef=v:=by simp
  rw [this]; exact hv)
 rw [Array.toArray_toList] at h2
 rw [hr] at h2
 change Calls P f args w _ at h2
 refine Calls.mono h2 fun e w' he=>?_
 cases e with
 | returned v =>
  obtain ⟨hres,hbel⟩:=he
  change ResOk P w w' _ sp.rs y (((#[undef]:Array Value).setIfInBounds 0 v).getD 0 undef) at hres
  have:((#[undef]:Array Value).setIfInBounds 0 v).getD 0 undef=v:=by simp
  rw [this] at hres
  refine ⟨?_,hbel.kit⟩
  obtain ⟨ps,rs,g⟩:=sp
  simp only at hrs
  subst hrs
  obtain ⟨X,_,cc,rfl,hcc⟩:=hres
  have hcc:cc=[.bool y]:=hcc
  subst hcc
  obtain rfl:=eq_of_heq hyb
  rfl
 | panicked c=>exact he.elim
 | outgrown=>obtain ⟨_,_,he⟩:=he; exact he.elim
end Go.Sx
