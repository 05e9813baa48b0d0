import Derived.Test.YthpbadopmihmpaaGreatSxLaw
import Derived.Shelf.SlSortCmp.NoneTotal
namespace Go.Sx
open Go.Proofs Go.Sort Go.Shelf
def encF:(t:Ty)→t.den→List Value
 | .int k,(n:Int)=>[.int k n]
 | .bool,(b:Bool)=>[.bool b]
 | .pair a b,x=>encF a x.1++encF b x.2
 | .arr _ e,(l:List e.den)=>(l.map (encF e)).flatten
 | _,_=>[]
theorem list_map_of {α β:Type} (f:α→β):∀ (l:List α) (css:List β),l.length=css.length→(∀ (i:Nat) (x:α) (c:β),l[i]?=some x→css[i]?=some c→c=f x)→css=l.map f:=by
 intro l
 induction l with
 | nil =>
  intro css hl _
  have:css=[]:=List.eq_nil_of_length_eq_zero hl.symm
  subst this
  rfl
 | cons a l ih =>
  intro css hl h
  cases css with
  | nil=>simp at hl
  | cons c css =>
   have h0:=h 0 a c rfl rfl
   have h1:=ih css (by simpa using hl) (fun i x c hx hc=>h (i+1) x c (by simpa using hx) (by simpa using hc))
   rw [h0,h1]
   rfl
theorem Rd.encF {P:Program}:∀ {t:Ty} {ρ:Nat→Value} {w:World} {I:Nat→Prop} {x:t.den} {cs:List Value},t.flat=true→Rd P t false ρ w I x cs→cs=Go.Sx.encF t x:=by
 intro t
 induction t with
 | int k=>intro ρ w I x cs _ h; exact h
 | bool=>intro ρ w I x cs _ h; exact h
 | unit=>intro ρ w I x cs _ h; exact h
 | pair a b iha ihb =>
  intro ρ w I x cs hf h
  simp only [Ty.flat,Bool.and_eq_true] at hf
  obtain ⟨c1,c2,rfl,h1,h2⟩:=h
  show c1++c2=Go.Sx.encF a x.1++Go.Sx.encF b x.2
  rw [iha hf.1 h1,ihb hf.2 h2]
 | arr n e ih =>
  intro ρ w I x cs hf h
  obtain ⟨hl,css,rfl,hn,hi⟩:=h
  have:=list_map_of (Go.Sx.encF e) (show List e.den from x) css (hl.trans hn.symm) (fun i x c hx hc=>ih hf (hi i x c hx hc))
  rw [this]
  rfl
 | _=>intro ρ w I x cs hf h; simp [Ty.flat] at hf
theorem enc_oneCell {P:Program}:∀ {t:Ty} {ρ:Nat→Value} {w:World} {I:Nat→Prop} {x:t.den} {cs:List Value},t.flat=true→Rd P t false ρ w I x cs→∀ v∈cs,v.oneCell'=true:=by
 intro t
 induction t with
 | int k=>intro ρ w I x cs _ h v hv; simp only [Rd] at h; subst h; rw [List.mem_singleton.1 hv]; rfl
 | bool=>intro ρ w I x cs _ h v hv; simp only [Rd] at h; subst h; rw [List.mem_singleton.1 hv]; rfl
 | unit=>intro ρ w I x cs _ h v hv; simp only [Rd] at h; subst h; cases hv
 | pair a b iha ihb =>
  intro ρ w I x cs hf h v hv
  simp only [Ty.flat,Bool.and_eq_true] at hf
  obtain ⟨c1,c2,rfl,h1,h2⟩:=h
  rcases List.mem_append.1 hv with hv | hv
  ·exact iha hf.1 h1 v hv
  ·exact ihb hf.2 h2 v hv
 | arr n e ih =>
  intro ρ w I x cs hf h v hv
  obtain ⟨hl,css,rfl,hn,hi⟩:=h
  obtain ⟨c,hc,hv⟩:=List.mem_flatten.1 hv
  obtain ⟨i,hi1,rfl⟩:=List.mem_iff_getElem.1 hc
  have h1:i<(show List e.den from x).length:=by rw [hn] at hi1; exact hl.symm ▸ hi1
  exact ih hf (hi i _ css[i] (List.getElem?_eq_getElem h1) (List.getElem?_eq_getElem hi1)) v hv
 | _=>intro ρ w I x cs hf h; simp [Ty.flat] at hf
abbrev CmpF (e:Ty):Type:=(e.den × (e.den × Unit))→Option Int
def cfOf {e:Ty} (l:List e.den) (cmp:CmpF e) (a b:{a // a∈l}):Int:=(cmp (a.1,b.1,())).getD 0
structure SortOk {e:Ty} (l:List e.den) (cmp:CmpF e):Prop where
 tot:∀ a,a∈l→∀ b,b∈l→∃ r,cmp (a,b,())=some r
 swo:SWO (ltOf (cfOf l cmp))
 len:l.length<4611686018427387904
noncomputable def sortL {e:Ty} (l:List e.den) (cmp:CmpF e):List e.den :=
 match l,cmp with
 | [],_=>[]
 | a :: l,cmp=>@id (List e.den) (letI:Inhabited {x // x∈a :: l}:=⟨⟨a,List.mem_cons_self⟩⟩
   (pdq (ltOf (cfOf (a :: l) cmp)) (a :: l).attach.toArray 0 (a :: l).attach.toArray.size (Lib.bitLen (a :: l).attach.toArray.size) true true).toList.map Subtype.val)
open Classical in
noncomputable def sortG (e:Ty) (l:List e.den) (cmp:CmpF e):Option (List e.den):=if SortOk l cmp then some (sortL l cmp) else none
theorem sortG_of {e:Ty} {l y:List e.den} {cmp:CmpF e} (h:sortG e l cmp=some y):SortOk l cmp∧y=sortL l cmp:=by
 unfold sortG at h
 by_cases c:SortOk l cmp
 ·rw [if_pos c] at h; exact ⟨c,(Option.some.inj h).symm⟩
 ·rw [if_neg c] at h; cases h
theorem pairwise_of {α:Type} [Inhabited α] {lt:α→α→Bool} {d:Array α} (h:SortedIn lt 0 d.size d):d.toList.Pairwise fun a b=>lt b a=false:=by
 rw [List.pairwise_iff_getElem]
 intro i j hi hj hij
 have:=h i j (Nat.zero_le _) hij (by simpa using hj)
 rw [getElem!_pos d j (by simpa using hj),getElem!_pos d i (by simpa using hi)] at this
 simpa using this
theorem sortL_spec {e:Ty} {l:List e.den} {cmp:CmpF e} (h:SortOk l cmp):(sortL l cmp).Perm l∧(sortL l cmp).Pairwise fun a b=>∀ r,cmp (b,a,())=some r→¬ r<0:=by
 obtain ⟨_,swo,hlen⟩:=h
 cases l with
 | nil=>exact ⟨List.Perm.refl _,List.Pairwise.nil⟩
 | cons a l =>
  letI:Inhabited {x // x∈a :: l}:=⟨⟨a,List.mem_cons_self⟩⟩
  have hp:=pdq_sorts (ltOf (cfOf (a :: l) cmp)) swo (a :: l).attach.toArray 0 (a :: l).attach.toArray.size (Lib.bitLen (a :: l).attach.toArray.size) true true (Nat.zero_le _) (Nat.le_refl _) (Or.inl rfl)
  have he:sortL (a :: l) cmp=(pdq (ltOf (cfOf (a :: l) cmp)) (a :: l).attach.toArray 0 (a :: l).attach.toArray.size (Lib.bitLen (a :: l).attach.toArray.size) true true).toList.map Subtype.val:=rfl
  rw [he]
  generalize pdq (ltOf (cfOf (a :: l) cmp)) (a :: l).attach.toArray 0 (a :: l).attach.toArray.size (Lib.bitLen (a :: l).attach.toArray.size) true true=d at hp
  obtain ⟨⟨hs,_,hpm⟩,hso⟩:=hp
  have e1:d.extract 0 (a :: l).attach.toArray.size=d:=by rw [← hs]; exact Array.extract_size
  have e2:(a :: l).attach.toArray.extract 0 (a :: l).attach.toArray.size=(a :: l).attach.toArray:=Array.extract_size
  rw [e1,e2] at hpm
  refine ⟨?_,?_⟩
  ·have:=hpm.map Subtype.val
   simpa using this
  ·rw [List.pairwise_map]
   rw [← hs] at hso
   refine (pairwise_of hso).imp ?_
   intro x y hxy r hr hneg
   have:ltOf (cfOf (a :: l) cmp) y x=true:=by
    unfold ltOf cfOf
    rw [hr]
    exact decide_eq_true hneg
   rw [this] at hxy
   cases hxy
theorem sortL_length {e:Ty} {l:List e.den} {cmp:CmpF e} (h:SortOk l cmp):(sortL l cmp).length=l.length:=(sortL_spec h).1.length_eq
theorem inv_of_calls {P:Program} {f:FuncId} {args:Array Value} {w:World} {R:Value→World→Prop} (hr:Enters P f) (h:Calls P f args w fun e w'=>∃ v,e=.returned v∧R v w'):InvOk P f args w R:=by
 intro o a next Q hn
 rw [hr args w]
 show Calls P f args w _
 refine h.mono ?_
 rintro e w' ⟨v,rfl,hv⟩
 exact hn v w' hv
theorem calls_of_inv {P:Program} {f:FuncId} {args:Array Value} {w:World} {R:Value→World→Prop} (hr:Enters P f) (h:InvOk P f args w R):Calls P f args w fun e w'=>∃ v,e=.returned v∧R v w':=by
 let o:Oper:={ dst:=some 0,op:=.move (.tmp 0),type:=0,pos:="",after:=#[],guard:=none }
 have h2:=h o { tmps:=#[undef],defers:=[] } (fun a w'=>R (a.tmps.getD 0 undef) w') (fun _ _ _=>False) (fun v w' hv=>by
  show R (((#[undef]:Array Value).setIfInBounds 0 v).getD 0 undef) w'
  have:((#[undef]:Array Value).setIfInBounds 0 v).getD 0 undef=v:=by simp
  rw [this]; exact hv)
 rw [hr args w] at h2
 change Calls P f args w _ at h2
 refine Calls.mono h2 fun e w' he=>?_
 cases e with
 | returned v =>
  change R (((#[undef]:Array Value).setIfInBounds 0 v).getD 0 undef) w' at he
  have:((#[undef]:Array Value).setIfInBounds 0 v).getD 0 undef=v:=by simp
  rw [this] at he
  exact ⟨v,rfl,he⟩
 | panicked c=>exact he.elim
 | outgrown=>obtain ⟨_,_,he⟩:=he; exact he.elim
theorem grown_of {w w':World} (h:Below w.heap.size w w'):∃ q os',w'=grow (w.drewN q) os':=by
 refine ⟨w'.drawn - w.drawn,w'.heap.extract w.heap.size w'.heap.size,?_⟩
 obtain ⟨heap',tape',drawn',os',output'⟩:=w'
 have e1:os'=w.os:=h.os
 have e2:tape'=w.tape:=h.tape.eq
 have e3:output'=w.output:=h.output
 have e4:w.drawn≤drawn':=h.tape.le
 have hs:w.heap.size≤heap'.size:=h.size
 have hb:∀ k,k<w.heap.size→heap'[k]?=w.heap[k]?:=h.block
 subst e1 e2 e3
 have eh:heap'=w.heap++heap'.extract w.heap.size heap'.size:=by
  apply Array.ext_getElem?
  intro k
  by_cases hk:k<w.heap.size
  ·rw [Array.getElem?_append_left hk]; exact hb k hk
  ·rw [Array.getElem?_append_right (by omega),Array.getElem?_extract]
   by_cases hk2:k<heap'.size
   ·rw [if_pos (by omega)]; congr 1; omega
   ·rw [if_neg (by omega),Array.getElem?_eq_none (by omega)]
 have ed:drawn'=w.drawn+(drawn' - w.drawn):=by omega
 simp only [grow,World.drewN]
 congr 1
theorem flat_get {k:Nat}:∀ (L:List (List Value)) (_:∀ c,c∈L→c.length=k) (j:Nat),j<L.length*k→L.flatten[j]?=(L[j / k]?).bind fun c=>c[j % k]?:=by
 intro L
 induction L with
 | nil=>intro _ j hj; simp at hj
 | cons c L ih =>
  intro h j hj
  have hc:c.length=k:=h c List.mem_cons_self
  have k0:0<k:=by
   rcases Nat.eq_zero_or_pos k with z | z
   ·subst z; simp at hj
   ·exact z
  rw [List.flatten_cons]
  by_cases lt:j<k
  ·rw [List.getElem?_append_left (by omega),Nat.div_eq_of_lt lt,Nat.mod_eq_of_lt lt]
   rfl
  ·rw [List.getElem?_append_right (by omega),hc,ih (fun c hc=>h c (List.mem_cons_of_mem _ hc)) (j - k) (by simp only [List.length_cons,Nat.add_mul] at hj; omega)]
   have e1:j / k=(j - k) / k+1:=by rw [Nat.div_eq_sub_div k0 (by omega)]
   have e2:(j - k) % k=j % k:=(Nat.mod_eq_sub_mod (by omega)).symm
   rw [e1,e2]
   rfl
theorem flatK_list {α:Type} [Inhabited α] (enc:α→List Value) {k:Nat} (hk:∀ x,(enc x).length=k) (d:Array α):(flatK enc k d).toList=(d.toList.map enc).flatten:=by
 have hl:(d.toList.map enc).flatten.length=d.size*k:=by
  have:∀ l:List α,(l.map enc).flatten.length=l.length*k:=by
   intro l
   induction l with
   | nil=>simp
   | cons a l ih=>rw [List.map_cons,List.flatten_cons,List.length_append,hk,ih,List.length_cons,Nat.add_mul]; omega
  rw [this]; simp
 apply List.ext_getElem?
 intro j
 by_cases hj:j<d.size*k
 ·have k0:0<k:=by
   rcases Nat.eq_zero_or_pos k with z | z
   ·subst z; simp at hj
   ·exact z
  have hq:j / k<d.size:=Nat.div_lt_of_lt_mul (by rw [Nat.mul_comm]; exact hj)
  have hr:j % k<k:=Nat.mod_lt _ k0
  have h1:(flatK enc k d).toList[j]?=some (flatK enc k d)[j]!:=by
   have hs:j<(flatK enc k d).size:=by rw [size_flatK]; exact hj
   rw [Array.getElem?_toList,Array.getElem?_eq_getElem hs,getElem!_pos (flatK enc k d) j hs]
  rw [h1,get_flatK enc k d j hj,flat_get (k:=k) (d.toList.map enc) (by intro c hc; obtain ⟨x,_,rfl⟩:=List.mem_map.1 hc; exact hk x) j (by simpa using hj),List.getElem?_map]
  have h2:d.toList[j / k]?=some d[j / k]!:=by rw [Array.getElem?_toList,Array.getElem?_eq_getElem hq,getElem!_pos d (j / k) hq]
  rw [h2]
  show some (enc d[j / k]!)[j % k]! = (enc d[j / k]!)[j % k]?
  have h3:j % k<(enc d[j / k]!).length:=by rw [hk]; exact hr
  rw [List.getElem?_eq_getElem h3,getElem!_pos (enc d[j / k]!) (j % k) h3]
 ·have hl2:(flatK enc k d).toList.length=d.size*k:=by simp
  rw [List.getElem?_eq_none (by rw [hl2]; omega),List.getElem?_eq_none (by rw [hl]; omega)]
theorem holds_id {w:World} {g:Nat} {cur:Array Value} {tid:TypeId} (hg:w.heap[g]?=some (.cells cur tid (0,0))) {F:Array Value} (hF:cur.toList.take F.size=F.toList):Holds id w g 0 F:=by
 intro j hj
 have hc:cur[j]?=some F[j]!:=by
  have h1:(cur.toList.take F.size)[j]?=cur.toList[j]?:=by rw [List.getElem?_take_of_lt hj]
  rw [hF,Array.getElem?_toList,Array.getElem?_toList,Array.getElem?_eq_getElem hj] at h1
  rw [← h1,getElem!_pos F j hj]
 constructor
 ·unfold World.cell?
  simp only [Nat.zero_add,hg]
  exact hc
 ·unfold World.frozen?
  simp only [Nat.zero_add,hg]
  simp
theorem after_sort {w:World} {g:Nat} {cur:Array Value} {tid:TypeId} (hg:w.heap[g]?=some (.cells cur tid (0,0))) {F:Array Value} (hF:F.size≤cur.size) (m:Nat) (os:Array Obj) :
  ∃ cur',(grow (putRow id (Sort.ahead w m) g 0 F) os).heap[g]?=some (.cells cur' tid (0,0))∧cur'.size=cur.size∧cur'.toList.take F.size=F.toList ∧
   (∀ q,q<w.heap.size→q≠g→(grow (putRow id (Sort.ahead w m) g 0 F) os).heap[q]?=w.heap[q]?)∧w.heap.size≤(grow (putRow id (Sort.ahead w m) g 0 F) os).heap.size:=by
 have hlt:g<w.heap.size:=(Array.getElem?_eq_some_iff.1 hg).1
 have hsz:(putRow id (Sort.ahead w m) g 0 F).heap.size=w.heap.size:=by simp [putRow,mapBlock,Sort.ahead]
 have hq:∀ q,q<w.heap.size→(grow (putRow id (Sort.ahead w m) g 0 F) os).heap[q]?=(w.heap.modify g (onCells (putCells id 0 F)))[q]?:=by
  intro q h
  show ((w.heap.modify g (onCells (putCells id 0 F)))++os)[q]?=_
  rw [Array.getElem?_append_left (by simpa using h)]
 refine ⟨putCells id 0 F cur,?_,by simp [putCells],?_,?_,?_⟩
 ·rw [hq g hlt,Array.getElem?_modify,if_pos rfl,hg]
  rfl
 ·apply List.ext_getElem?
  intro j
  by_cases hj:j<F.size
  ·rw [List.getElem?_take_of_lt hj,Array.getElem?_toList,Array.getElem?_toList]
   simp only [putCells,Array.getElem?_mapIdx]
   rw [Array.getElem?_eq_getElem (show j<cur.size by omega),Array.getElem?_eq_getElem hj]
   simp [hj]
  ·rw [List.getElem?_eq_none (by simp; omega),List.getElem?_eq_none (by simp; omega)]
 ·intro q h hne
  rw [hq q h,Array.getElem?_modify,if_neg (fun e=>hne e.symm)]
 ·show w.heap.size≤((w.heap.modify g (onCells (putCells id 0 F)))++os).size
  simp
theorem putRow_map {α:Type} [Inhabited α] (enc:α→Value) (w:World) (blk off:Nat) (d:Array α):putRow enc w blk off d=putRow id w blk off (d.map enc):=by
 unfold putRow
 congr 1
 funext c
 unfold putCells
 congr 1
 funext k x
 rw [Array.size_map]
 split
 ·rename_i h
  have h1:k - off<d.size:=by omega
  have h2:k - off<(d.map enc).size:=by rw [Array.size_map]; exact h1
  rw [getElem!_pos (d.map enc) (k - off) h2,getElem!_pos d (k - off) h1]
  simp
 ·rfl
theorem holds_map {α:Type} [Inhabited α] (enc:α→Value) {w:World} {g:Nat} {d:Array α} (h:Holds id w g 0 (d.map enc)):Holds enc w g 0 d:=by
 intro j hj
 have h1:=h j (by rw [Array.size_map]; exact hj)
 have h2:j<(d.map enc).size:=by rw [Array.size_map]; exact hj
 rw [getElem!_pos (d.map enc) j h2] at h1
 rw [getElem!_pos d j hj]
 simpa using h1
section
variable {P:Program} {ρ':Ren}
theorem arr_els {e:Ty} (hf:e.flat=true) {n:Nat} {w:World} {I:Nat→Prop} {l:List e.den} {xs:List Value} (h:Rd P (.arr n e) false ρ0 w I l xs):∀ a,a∈l→Rd P e false ρ0 w I a (encF e a):=by
 obtain ⟨hl,css,rfl,hn,hi⟩:=h
 intro a ha
 obtain ⟨i,hi1,rfl⟩:=List.mem_iff_getElem.1 ha
 have h1:i<css.length:=by rw [hn]; exact hl ▸ hi1
 have h2:=hi i _ css[i] (List.getElem?_eq_getElem hi1) (List.getElem?_eq_getElem h1)
 have h3:=h2.encF hf
 rw [h3] at h2
 exact h2
theorem arr_of_els {e:Ty} (hf:e.flat=true) {w w':World} {I I':Nat→Prop} {l y:List e.den} (h:∀ a,a∈l→Rd P e false ρ0 w I a (encF e a)) (hy:∀ a,a∈y→a∈l) :
  Rd P (.arr y.length e) false ρ0 w' I' y (y.map (encF e)).flatten:=by
 refine ⟨rfl,y.map (encF e),rfl,by simp,fun i x c hx hc=>?_⟩
 rw [List.getElem?_map,hx] at hc
 obtain rfl:=Option.some.inj hc
 exact (h x (hy x (List.mem_of_getElem? hx))).flat hf
def ClOk (P:Program) (e:Ty) (w:World) (v:Value) (l:List e.den) (g:FuncId) (caps:Array Value) (cmp:CmpF e):Prop :=
 ∀ w',w.heap.size≤w'.heap.size→(∀ q,q<w.heap.size→some q≠real v→w'.heap[q]?=w.heap[q]?)→∀ a b,a∈l→b∈l→∀ r,cmp (a,b,())=some r →
  InvOk P g (#[mkV e (encF e a),mkV e (encF e b)]++caps) w' fun u w''=>u=.int .i64 r∧Below w'.heap.size w' w''
def Sorted (P:Program) (e:Ty) (tid:TypeId) (w:World) (v:Value) (y:List e.den) (u:Value) (w':World):Prop :=
 u=.tuple #[]∧(∀ I',∃ xs',World.rowOf w' 0 tid e.size v y.length xs'∧Rd P (.arr y.length e) false ρ0 w' I' y xs')∧BelowS (fun q=>real v=some q) w w'
theorem sort_nil (L:SlLaysF0.n6 P ρ') {e:Ty} {tid:TypeId} {w:World} {v:Value} {xs:List Value} (hrow:World.rowOf w 0 tid e.size v 0 xs) {fv:Value}:InvOk P (ρ'.f 6) #[v,fv] w (Sorted P e tid w v []):=by
 obtain ⟨p,cap,rfl⟩:∃ p cap,v=.slice p 0 cap:=by
  rcases hrow.2 with ⟨A,h,_⟩ | ⟨g,cap,cur,h,_⟩
  ·exact ⟨_,_,h⟩
  ·exact ⟨_,_,h⟩
 have hx:xs=[]:=List.eq_nil_of_length_eq_zero (by rw [hrow.1,Nat.zero_mul])
 subst hx
 refine inv_of_calls (L.f6.enters rfl) ?_
 refine (AnyF.slices_SortFunc_none L p cap fv w).mono ?_
 rintro e w' ⟨rfl,rfl⟩
 exact ⟨_,rfl,rfl,fun I'=>⟨[],hrow,rfl,[],rfl,rfl,fun i x c hx=>by simp at hx⟩,⟨rfl,Tp.refl _,rfl,Nat.le_refl _,fun _ _ _=>rfl⟩⟩
theorem sort_K (L:SlLaysF0.n6 P ρ') {e:Ty} (hf:e.flat=true) (hag:e.agg=true) (aE:∀ w,(isAgg (ρ'.t 24)).run P w=.ok true w) (zE:∀ w,(Go.sizeOf (ρ'.t 24)).run P w=.ok e.size w) {tid:TypeId} {w:World} {v:Value} {l:List e.den} {xs:List Value} {I:Nat→Prop}
  (hrow:World.rowOf w 0 tid e.size v l.length xs) (hrd:Rd P (.arr l.length e) false ρ0 w I l xs) {g:FuncId} {caps:Array Value} (eg:Enters P g) {cmp:CmpF e} (hcl:ClOk P e w v l g caps cmp) {y:List e.den} (hy:sortG e l cmp=some y) :
  InvOk P (ρ'.f 6) #[v,.func (.func g) #[] caps] w (Sorted P e tid w v y):=by
 obtain ⟨ok,rfl⟩:=sortG_of hy
 have hlen:=sortL_length ok
 have hspec:=sortL_spec ok
 have hmk:∀ cs,mkV e cs=.agg cs.toArray:=by intro cs; unfold mkV; rw [if_pos hag]
 have hel:=arr_els hf hrd
 have hxs:xs=(l.map (encF e)).flatten:=hrd.encF (t:=.arr l.length e) hf
 cases l with
 | nil=>exact sort_nil L hrow
 | cons a l =>
  letI:Inhabited {x // x∈a :: l}:=⟨⟨a,List.mem_cons_self⟩⟩
  rcases hrow.2 with ⟨A,_,h⟩ | ⟨g0,cap,cur,rfl,hcap,_,hg,hnc,hcm,hcs,htake⟩
  ·simp at h
  ·have hn:(a :: l).attach.toArray.size=(a :: l).length:=by simp
   have hblk:g0<w.heap.size:=(Array.getElem?_eq_some_iff.1 hg).1
   have hk:∀ x:{x // x∈a :: l},(encF e x.1).length=e.size:=fun x=>(hel x.1 x.2).length
   have hreal:real (.slice (some ⟨g0,0,none⟩) (a :: l).length cap)=some g0:=real_slice hcap
   have hfit:∀ n,n=(a :: l).length→n*e.size≤cur.size:=by intro n h; rw [hcs,h]; exact Nat.mul_le_mul_right _ hnc
   have hH:HoldsK (fun x:{x // x∈a :: l}=>encF e x.1) e.size w g0 0 (a :: l).attach.toArray:=by
    refine holds_id hg ?_
    rw [flatK_list _ hk,size_flatK,hn,htake,hxs]
    congr 1
    simp
   have hcmp:CmpLays P g caps (fun x:{x // x∈a :: l}=>encF e x.1) e.size (cfOf (a :: l) cmp) g0 0 (a :: l).attach.toArray.size w:=by
    intro m os dk hdk x z
    obtain ⟨cur',_,_,_,h4,h5⟩:=after_sort hg (F:=flatK (fun x:{x // x∈a :: l}=>encF e x.1) e.size dk) (by rw [size_flatK]; exact hfit _ (hdk.trans hn)) m os
    obtain ⟨r,hr⟩:=ok.tot x.1 x.2 z.1 z.2
    have hc:=hcl _ h5 (fun q h hne=>h4 q h (fun e=>hne (by rw [hreal,e]))) x.1 z.1 x.2 z.2 r hr
    rw [hmk,hmk] at hc
    refine (calls_of_inv eg hc).mono ?_
    rintro _ w'' ⟨u,rfl,rfl,hb⟩
    refine ⟨?_,grown_of hb⟩
    show _=Ending.returned (.int .i64 ((cmp (x.1,z.1,())).getD 0))
    rw [hr]
    rfl
   have hcon:=AnyQ.slices_SortFunc_eq L e.size aE zE (fun x:{x // x∈a :: l}=>encF e x.1) hk (fun x v hv=>enc_oneCell hf (hel x.1 x.2) v hv) (cfOf (a :: l) cmp) ok.swo g caps g0 0 cap (a :: l).attach.toArray w (fun args w=>eg args w) hcmp hH hblk (by rw [hn]; exact ok.len)
   refine inv_of_calls (L.f6.enters rfl) ?_
   rw [← hn] at hnc hreal ⊢
   refine hcon.mono ?_
   rintro _ w' ⟨rfl,n',os,rfl⟩
   have he:sortL (a :: l) cmp=(pdq (ltOf (cfOf (a :: l) cmp)) (a :: l).attach.toArray 0 (a :: l).attach.toArray.size (Lib.bitLen (a :: l).attach.toArray.size) true true).toList.map Subtype.val:=rfl
   rw [he] at hlen hspec
   rw [he]
   generalize pdq (ltOf (cfOf (a :: l) cmp)) (a :: l).attach.toArray 0 (a :: l).attach.toArray.size (Lib.bitLen (a :: l).attach.toArray.size) true true=d at *
   have hd:d.size=(a :: l).length:=by simpa using hlen
   obtain ⟨cur',h1,h2,h3,h4,h5⟩:=after_sort hg (F:=flatK (fun x:{x // x∈a :: l}=>encF e x.1) e.size d) (by rw [size_flatK]; exact hfit _ hd) n' os
   have hF:(flatK (fun x:{x // x∈a :: l}=>encF e x.1) e.size d).toList=((d.toList.map Subtype.val).map (encF e)).flatten:=by
    rw [flatK_list _ hk,List.map_map]
    rfl
   refine ⟨_,rfl,rfl,fun I'=>⟨((d.toList.map Subtype.val).map (encF e)).flatten,⟨?_,Or.inr ⟨g0,cap,cur',?_,hcap,Nat.zero_le _,h1,?_,hcm,by rw [h2]; exact hcs,?_⟩⟩,arr_of_els hf hel (fun b hb=>?_)⟩,⟨rfl,⟨rfl,Nat.le_add_right _ _⟩,rfl,h5,fun q h hne=>h4 q h (fun e=>hne (by rw [hreal,e]))⟩⟩
   ·rw [← hF,Array.length_toList,size_flatK,hlen,hd]
   ·rw [hlen,hn]
   ·rw [hlen,← hn]; exact hnc
   ·rw [hlen,← hd,← size_flatK (fun x:{x // x∈a :: l}=>encF e x.1) e.size d,h3,hF]
   ·obtain ⟨x,_,rfl⟩:=List.mem_map.1 hb
    exact x.2
def encI (kd:IntKind) (n:(Ty.int kd).den):Value:=.int kd (show Int from n)
theorem sort_I (L:SlLaysF.n6 P ρ') (L0:SlLaysF0.n6 P ρ') {kd:IntKind} {tid:TypeId} {w:World} {v:Value} {l:List (Ty.int kd).den} {xs:List Value} {I:Nat→Prop}
  (hrow:World.rowOf w 0 tid 1 v l.length xs) (hrd:Rd P (.arr l.length (.int kd)) false ρ0 w I l xs) {g:FuncId} {caps:Array Value} (eg:Enters P g) {cmp:CmpF (.int kd)} (hcl:ClOk P (.int kd) w v l g caps cmp) {y:List (Ty.int kd).den} (hy:sortG (.int kd) l cmp=some y) :
  InvOk P (ρ'.f 6) #[v,.func (.func g) #[] caps] w (Sorted P (.int kd) tid w v y):=by
 obtain ⟨ok,rfl⟩:=sortG_of hy
 have hlen:=sortL_length ok
 have hspec:=sortL_spec ok
 have hel:=arr_els (e:=.int kd) rfl hrd
 have single:∀ z:List (Ty.int kd).den,(z.map (encF (.int kd))).flatten=z.map (encI kd):=by
  intro z
  induction z with
  | nil=>rfl
  | cons a z ih =>
   show encI kd a :: (z.map (encF (.int kd))).flatten=_
   rw [ih]
   rfl
 have hxs:xs=l.map (encI kd):=(hrd.encF (t:=.arr l.length (.int kd)) rfl).trans (single l)
 cases l with
 | nil=>exact sort_nil (e:=.int kd) L0 hrow
 | cons a l =>
  letI:Inhabited {x // x∈a :: l}:=⟨⟨a,List.mem_cons_self⟩⟩
  rcases hrow.2 with ⟨A,_,h⟩ | ⟨g0,cap,cur,rfl,hcap,_,hg,hnc,hcm,hcs,htake⟩
  ·simp at h
  ·have hn:(a :: l).attach.toArray.size=(a :: l).length:=by simp
   have hblk:g0<w.heap.size:=(Array.getElem?_eq_some_iff.1 hg).1
   have hreal:real (.slice (some ⟨g0,0,none⟩) (a :: l).length cap)=some g0:=real_slice hcap
   rw [Nat.mul_one] at hcs htake
   have hfit:∀ n,n=(a :: l).length→n≤cur.size:=by intro n h; rw [hcs,h]; exact hnc
   have hH:Holds (fun x:{x // x∈a :: l}=>encI kd x.1) w g0 0 (a :: l).attach.toArray:=by
    refine holds_map _ (holds_id hg ?_)
    rw [Array.size_map,hn,htake,hxs]
    rw [Array.toList_map]
    have e3:(a :: l).attach.toArray.toList=(a :: l).attach:=rfl
    rw [e3]
    simp
   have hcmp:CmpLays1 P g caps (fun x:{x // x∈a :: l}=>encI kd x.1) (cfOf (a :: l) cmp) g0 0 (a :: l).attach.toArray.size w:=by
    intro m os dk hdk x z
    obtain ⟨cur',_,_,_,h4,h5⟩:=after_sort hg (F:=dk.map (fun x:{x // x∈a :: l}=>encI kd x.1)) (by rw [Array.size_map]; exact hfit _ (hdk.trans hn)) m os
    obtain ⟨r,hr⟩:=ok.tot x.1 x.2 z.1 z.2
    have hc:=hcl _ h5 (fun q h hne=>h4 q h (fun e=>hne (by rw [hreal,e]))) x.1 z.1 x.2 z.2 r hr
    have ew:sortWorld (fun x:{x // x∈a :: l}=>encI kd x.1) w g0 0 m dk os=grow (putRow id (Sort.ahead w m) g0 0 (dk.map (fun x:{x // x∈a :: l}=>encI kd x.1))) os:=by
     unfold sortWorld
     rw [putRow_map]
    rw [ew]
    refine (calls_of_inv eg hc).mono ?_
    rintro _ w'' ⟨u,rfl,rfl,hb⟩
    refine ⟨?_,grown_of hb⟩
    show _=Ending.returned (.int .i64 ((cmp (x.1,z.1,())).getD 0))
    rw [hr]
    rfl
   have hcon:=Any.slices_SortFunc_eq L (fun x:{x // x∈a :: l}=>encI kd x.1) (fun _=>rfl) (cfOf (a :: l) cmp) ok.swo g caps g0 0 cap (a :: l).attach.toArray w (fun args w=>eg args w) hcmp hH hblk (by rw [hn]; exact ok.len)
   refine inv_of_calls (L.f6.enters rfl) ?_
   rw [← hn] at hnc hreal ⊢
   refine hcon.mono ?_
   rintro _ w' ⟨rfl,n',os,rfl⟩
   have he:sortL (a :: l) cmp=(pdq (ltOf (cfOf (a :: l) cmp)) (a :: l).attach.toArray 0 (a :: l).attach.toArray.size (Lib.bitLen (a :: l).attach.toArray.size) true true).toList.map Subtype.val:=rfl
   rw [he] at hlen hspec
   rw [he]
   generalize pdq (ltOf (cfOf (a :: l) cmp)) (a :: l).attach.toArray 0 (a :: l).attach.toArray.size (Lib.bitLen (a :: l).attach.toArray.size) true true=d at *
   have hd:d.size=(a :: l).length:=by simpa using hlen
   obtain ⟨cur',h1,h2,h3,h4,h5⟩:=after_sort hg (F:=d.map (fun x:{x // x∈a :: l}=>encI kd x.1)) (by rw [Array.size_map]; exact hfit _ hd) n' os
   have ew:sortWorld (fun x:{x // x∈a :: l}=>encI kd x.1) w g0 0 n' d os=grow (putRow id (Sort.ahead w n') g0 0 (d.map (fun x:{x // x∈a :: l}=>encI kd x.1))) os:=by
    unfold sortWorld
    rw [putRow_map]
   rw [ew]
   have hF:(d.map (fun x:{x // x∈a :: l}=>encI kd x.1)).toList=((d.toList.map Subtype.val).map (encF (.int kd))).flatten:=by
    refine Eq.trans ?_ (single _).symm
    rw [Array.toList_map,List.map_map]
    rfl
   refine ⟨_,rfl,rfl,fun I'=>⟨((d.toList.map Subtype.val).map (encF (.int kd))).flatten,⟨?_,Or.inr ⟨g0,cap,cur',?_,hcap,Nat.zero_le _,h1,?_,hcm,by rw [h2,hcs]; exact (Nat.mul_one _).symm,?_⟩⟩,arr_of_els (e:=.int kd) rfl hel (fun b hb=>?_)⟩,⟨rfl,⟨rfl,Nat.le_add_right _ _⟩,rfl,h5,fun q h hne=>h4 q h (fun e=>hne (by rw [hreal,e]))⟩⟩
   ·rw [← hF,Array.length_toList,Array.size_map,hlen,hd]; exact (Nat.mul_one _).symm
   ·rw [hlen,hn]
   ·rw [hlen,← hn]; exact hnc
   ·rw [hlen,← hd]
    show cur'.toList.take (d.size*1)=_
    rw [Nat.mul_one]
    have:=h3
    rw [Array.size_map] at this
    rw [this,hF]
   ·obtain ⟨x,_,rfl⟩:=List.mem_map.1 hb
    exact x.2
end
abbrev CmpSp (e:Ty) (cmp:CmpF e):Spec:=⟨.pair e (.pair e .unit),.one (.dp (.int .i64)),cmp,false⟩
abbrev CmpF1 (e t:Ty):Type:=(e.den × (e.den × (t.den × Unit)))→Option Int
abbrev CmpSp1 (e t:Ty) (cmp:CmpF1 e t):Spec:=⟨.pair e (.pair e (.pair (.ref t) .unit)),.one (.dp (.int .i64)),cmp,false⟩
noncomputable def sortH0 (e:Ty) (tid:TypeId) (fc:FuncId) (cmp:CmpF e):HSp :=
 ⟨.pair (.slice e) .unit,.slice e,1,fun _=>[.lent (.val .own (0:Nat)),.lent (.val .clo (fc,[]))],fun x=>[(0,.row e x.1 tid)],fun x=>sortG e x.1 cmp,fun _ y=>[(0,.row e y tid)],.none,fun _=>(),false,false⟩
noncomputable def sortH1 (e t:Ty) (tid:TypeId) (fc:FuncId) (cmp:CmpF1 e t):HSp :=
 ⟨.pair (.slice e) (.pair t .unit),.slice e,2,fun _=>[.lent (.val .own (0:Nat)),.lent (.val .clo (fc,[⟨1,0,(0:Int),0,0⟩]))],fun x=>[(0,.row e x.1 tid),(1,.cells t x.2.1)],fun x=>sortG e x.1 fun z=>cmp (z.1,z.2.1,x.2.1,()),
  fun x y=>[(0,.row e y tid),(1,.cells t x.2.1)],.none,fun _=>(),false,false⟩
theorem res_int {P:Program} {w w':World} {ok:Nat→Prop} {r:Int} {u:Value} (h:ResOk P w w' ok (.one (.dp (.int .i64))) r u):u=.int .i64 r:=by
 obtain ⟨X,_,c,rfl,hc⟩:=h
 have hc:c=[.int .i64 r]:=hc
 rw [hc]
 rfl
theorem clOk_of0 {P:Program} {e:Ty} (hf:e.flat=true) {fc:FuncId} {cmp:CmpF e} (hc:FnOk P fc (CmpSp e cmp)) {w0 w:World} {I:Nat→Prop} {v:Value} {l:List e.den} (hel:∀ a,a∈l→Rd P e false ρ0 w0 I a (encF e a)):ClOk P e w v l fc #[] cmp:=by
 intro w' _ _ a b ha hb r hr
 have h:=hc w' (fun _=>False) (a,b,()) r [mkV e (encF e a),mkV e (encF e b)] (fun _ h=>h.elim) ⟨_,_,rfl,(hel a ha).flat hf,_,_,rfl,(hel b hb).flat hf,rfl⟩ hr
 exact h.mono fun u w'' hh=>⟨res_int hh.1,hh.2⟩
theorem clOk_of1 {P:Program} {e t:Ty} (hf:e.flat=true) {fc:FuncId} {cmp:CmpF1 e t} (hc:FnOk P fc (CmpSp1 e t cmp)) {w0 w:World} {I:Nat→Prop} {v:Value} {l:List e.den} (hel:∀ a,a∈l→Rd P e false ρ0 w0 I a (encF e a))
  {ok:Nat→Prop} (hok:∀ b,ok b→b<w.heap.size∧real v≠some b) {x:t.den} {r1:Nat} {cur:Array Value} {tid1:TypeId} (hne:real v≠some r1) (hg:w.heap[r1]?=some (.cells cur tid1 (0,0))) (hx:Rd P t false ρ0 w ok x cur.toList) :
  ClOk P e w v l fc #[.pointer (some ⟨r1,0,none⟩)] (fun z=>cmp (z.1,z.2.1,x,())):=by
 intro w' hs hq a b ha hb r hr
 have hlt:r1<w.heap.size:=(Array.getElem?_eq_some_iff.1 hg).1
 have hg':w'.heap[r1]?=some (.cells cur tid1 (0,0)):=(hq r1 hlt (fun e=>hne e.symm)).trans hg
 have hx':Rd P t false ρ0 w' (fun b=>b<w.heap.size) x cur.toList:=hx.mono ⟨hs,fun q h hh=>hq q h (fun e=>(hok q hh).2 e.symm)⟩ (fun q h _=>h)
 have hcells:CellsAt w' ⟨r1,0,none⟩ cur.toList:=by
  intro j u hu
  rw [Array.getElem?_toList] at hu
  have e:((⟨r1,0,none⟩:Addr).add j)=⟨r1,j,none⟩:=by
   unfold Addr.add
   split
   ·rename_i h; rw [h]
   ·simp
  rw [e]
  unfold World.cell?
  simp only [hg']
  simpa using hu
 have h:=hc w' (fun b=>b<w.heap.size) (a,b,x,()) r [mkV e (encF e a),mkV e (encF e b),.pointer (some ⟨r1,0,none⟩)] (fun q h=>Nat.lt_of_lt_of_le h hs)
  ⟨_,_,rfl,(hel a ha).flat hf,_,_,rfl,(hel b hb).flat hf,[.pointer (some ⟨r1,0,none⟩)],[],rfl,⟨⟨r1,0,none⟩,cur.toList,rfl,rfl,hlt,Nat.lt_of_lt_of_le hlt hs,hcells,hx'⟩,rfl⟩ hr
 exact h.mono fun u w'' hh=>⟨res_int hh.1,hh.2⟩
def SortsAt (P:Program) (f:FuncId) (e:Ty):Prop :=
 ∀ ⦃tid:TypeId⦄ ⦃w:World⦄ ⦃v:Value⦄ ⦃l:List e.den⦄ ⦃xs:List Value⦄ ⦃I:Nat→Prop⦄,World.rowOf w 0 tid e.size v l.length xs→Rd P (.arr l.length e) false ρ0 w I l xs→∀ ⦃g:FuncId⦄ ⦃caps:Array Value⦄,Enters P g→∀ ⦃cmp:CmpF e⦄,ClOk P e w v l g caps cmp→∀ ⦃y:List e.den⦄,sortG e l cmp=some y →
  InvOk P f #[v,.func (.func g) #[] caps] w (Sorted P e tid w v y)
theorem sortsAt_K {P:Program} {ρ':Ren} (L:SlLaysF0.n6 P ρ') {e:Ty} (hf:e.flat=true) (hag:e.agg=true) (aE:∀ w,(isAgg (ρ'.t 24)).run P w=.ok true w) (zE:∀ w,(Go.sizeOf (ρ'.t 24)).run P w=.ok e.size w):SortsAt P (ρ'.f 6) e :=
 fun _ _ _ _ _ _ h1 h2 _ _ h3 _ h4 _ h5=>sort_K L hf hag aE zE h1 h2 h3 h4 h5
theorem sortsAt_I {P:Program} {ρ':Ren} (L:SlLaysF.n6 P ρ') (L0:SlLaysF0.n6 P ρ') (kd:IntKind):SortsAt P (ρ'.f 6) (.int kd) :=
 fun _ _ _ _ _ _ h1 h2 _ _ h3 _ h4 _ h5=>sort_I L L0 h1 h2 h3 h4 h5
theorem sortH0_ok {P:Program} {f:FuncId} {e:Ty} (hS:SortsAt P f e) (hf:e.flat=true) (tid:TypeId) {fc:FuncId} (eg:Enters P fc) {cmp:CmpF e} (hc:FnOk P fc (CmpSp e cmp)):HOk P f (sortH0 e tid fc cmp):=by
 show HOk0 P f (sortH0 e tid fc cmp)
 intro w ok ρ x y args hok hinj hone hpre hargs _ _ hy
 obtain ⟨xs,hrow,hrd⟩:=hpre 0 (.row e x.1 tid) rfl
 obtain ⟨v0,a1,rfl,⟨c0,rfl,h0⟩,v1,a2,rfl,⟨c1,rfl,h1⟩,rfl⟩:=hargs
 have h0:c0=[ρ 0]:=h0
 have h1:c1=[.func (.func fc) #[] #[]]:=h1
 subst h0 h1
 have hel:=arr_els hf hrd
 have h:=hS hrow hrd eg (clOk_of0 hf hc (w:=w) (v:=ρ 0) hel) hy
 refine h.mono ?_
 rintro u w' ⟨rfl,hr,hb⟩
 refine ⟨fun _=>False,fun j k hj=>?_,⟨[],rfl,rfl⟩,⟨hb.os,hb.tape,hb.output,hb.size,fun q hq hn=>hb.block q hq (fun e=>hn ⟨0,Nat.zero_lt_one,e⟩)⟩⟩
 have hj:find [(0,Blk.row e y tid)] j=some k:=hj
 unfold find at hj
 split at hj
 ·rename_i hz
  have hz:0=j:=Nat.eq_of_beq_eq_true hz
  subst hz
  obtain rfl:=Option.some.inj hj
  exact hr _
 ·cases hj
theorem sortH1_ok {P:Program} {f:FuncId} {e t:Ty} (hS:SortsAt P f e) (hf:e.flat=true) (hd:t.deep=true) (tid:TypeId) {fc:FuncId} (eg:Enters P fc) {cmp:CmpF1 e t} (hc:FnOk P fc (CmpSp1 e t cmp)):HOk P f (sortH1 e t tid fc cmp):=by
 show HOk0 P f (sortH1 e t tid fc cmp)
 intro w ok ρ x y args hok hinj hone hpre hargs _ _ hy
 obtain ⟨xs,hrow,hrd⟩:=hpre 0 (.row e x.1 tid) rfl
 obtain ⟨r1,tid1,cur,hp,hg,hx⟩:=hpre 1 (.cells t x.2.1) rfl
 obtain ⟨v0,a1,rfl,⟨c0,rfl,h0⟩,v1,a2,rfl,⟨c1,rfl,h1⟩,rfl⟩:=hargs
 have hv1:(⟨1,0,(0:Int),0,0⟩:Ptr).val ρ=.pointer (some ⟨r1,0,none⟩):=by
  unfold Ptr.val
  rw [hp]
  rfl
 have h0:c0=[ρ 0]:=h0
 have h1:c1=[.func (.func fc) #[] #[.pointer (some ⟨r1,0,none⟩)]]:=by
  have h1:c1=[.func (.func fc) #[] #[(⟨1,0,(0:Int),0,0⟩:Ptr).val ρ]]:=h1
  rw [h1,hv1]
 subst h0 h1
 have hel:=arr_els hf hrd
 have hr1:real (ρ 1)=some r1:=by rw [hp]; rfl
 have hne:real (ρ 0)≠some r1:=fun e=>by have:=hinj 0 1 r1 (by show (0:Nat)<2; decide) (by show (1:Nat)<2; decide) e hr1; cases this
 have hx0:Rd P t false ρ0 w ok x.2.1 cur.toList:=hx.rho (fun b hb=>by rw [Ty.deep_refs hd] at hb; cases hb)
 have h:=hS hrow hrd eg (clOk_of1 hf hc (w:=w) (v:=ρ 0) hel (fun b hb=>⟨(hok b hb).1,(hok b hb).2 0 (by show (0:Nat)<2; decide)⟩) hne hg hx0) hy
 refine h.mono ?_
 rintro u w' ⟨rfl,hr,hb⟩
 have hlt:r1<w.heap.size:=(Array.getElem?_eq_some_iff.1 hg).1
 refine ⟨fun _=>False,fun j k hj=>?_,⟨[],rfl,rfl⟩,⟨hb.os,hb.tape,hb.output,hb.size,fun q hq hn=>hb.block q hq (fun e=>hn ⟨0,Nat.zero_lt_two,e⟩)⟩⟩
 have hj:find [(0,Blk.row e y tid),(1,Blk.cells t x.2.1)] j=some k:=hj
 unfold find at hj
 split at hj
 ·rename_i hz
  have hz:0=j:=Nat.eq_of_beq_eq_true hz
  subst hz
  obtain rfl:=Option.some.inj hj
  exact hr _
 ·unfold find at hj
  split at hj
  ·rename_i hz
   have hz:1=j:=Nat.eq_of_beq_eq_true hz
   subst hz
   obtain rfl:=Option.some.inj hj
   exact ⟨r1,tid1,cur,hp,(hb.block r1 hlt hne).trans hg,hx.mono ⟨hb.size,fun q h hh=>hb.block q h (fun e=>(hok q hh).2 0 (by show (0:Nat)<2; decide) e)⟩ (fun q _ hh=>⟨.inl hh,fun h=>h⟩)⟩
  ·cases hj
end Go.Sx
