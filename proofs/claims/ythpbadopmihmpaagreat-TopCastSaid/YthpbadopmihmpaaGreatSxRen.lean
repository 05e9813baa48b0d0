import Derived.Test.YthpbadopmihmpaaGreatSxRun
namespace Go.Sx
theorem zrest_sound {P:Program} {ρ:Nat→Value} {w:World} {I:Nat→Prop}:∀ {ty:Ty} {cs r:List Value},zrest ty cs=some r→∃ c,cs=c++r∧Rd P ty false ρ w I ty.zero c:=by
 intro ty
 induction ty with
 | int k =>
  intro cs r h
  simp only [zrest] at h
  unfold zInt at h
  split at h
  ·split at h
   ·rename_i hd
    simp only [Bool.and_eq_true,decide_eq_true_eq] at hd
    obtain ⟨rfl,rfl⟩:=hd
    obtain rfl:=Option.some.inj h
    exact ⟨[_],rfl,rfl⟩
   ·cases h
  ·cases h
 | bool =>
  intro cs r h
  simp only [zrest] at h
  unfold zBool at h
  split at h
  ·obtain rfl:=Option.some.inj h
   exact ⟨[_],rfl,rfl⟩
  ·cases h
 | unit=>intro cs r h; simp only [zrest] at h; obtain rfl:=Option.some.inj h; exact ⟨[],rfl,rfl⟩
 | pair a b iha ihb =>
  intro cs r h
  simp only [zrest] at h
  obtain ⟨r1,h1,h2⟩:=Option.bind_eq_some_iff.1 h
  obtain ⟨c1,rfl,hc1⟩:=iha h1
  obtain ⟨c2,rfl,hc2⟩:=ihb h2
  exact ⟨c1++c2,by simp,c1,c2,rfl,hc1,hc2⟩
 | nil =>
  intro cs r h
  simp only [zrest] at h
  unfold zSlice at h
  split at h
  ·obtain rfl:=Option.some.inj h
   exact ⟨[_],rfl,rfl⟩
  ·cases h
 | nilf =>
  intro cs r h
  simp only [zrest] at h
  unfold zFunc at h
  split at h
  ·obtain rfl:=Option.some.inj h
   exact ⟨[_],rfl,rfl⟩
  ·cases h
 | slice e _ =>
  intro cs r h
  simp only [zrest] at h
  unfold zSlice at h
  split at h
  ·obtain rfl:=Option.some.inj h
   exact ⟨[_],rfl,none,0,rfl,Nat.le_refl _,.inl rfl⟩
  ·cases h
 | arr n e ih =>
  intro cs r h
  simp only [zrest] at h
  have key:∀ (n:Nat) (r:List Value),(Nat.rec (some cs) (fun _ q=>q.bind (zrest e)) n:Option (List Value))=some r →
    ∃ css:List (List Value),cs=css.flatten++r∧css.length=n∧∀ c∈css,Rd P e false ρ w I e.zero c:=by
   intro n
   induction n with
   | zero=>intro r h; obtain rfl:=Option.some.inj h; exact ⟨[],by simp,rfl,fun _ h=>by cases h⟩
   | succ n ihn =>
    intro r h
    obtain ⟨r1,h1,h2⟩:=Option.bind_eq_some_iff.1 h
    obtain ⟨css,rfl,hl,hall⟩:=ihn r1 h1
    obtain ⟨c,rfl,hc⟩:=ih h2
    refine ⟨css++[c],by simp,by simp [hl],fun c' hc'=>?_⟩
    rcases List.mem_append.1 hc' with h | h
    ·exact hall c' h
    ·obtain rfl:=List.mem_singleton.1 h; exact hc
  obtain ⟨css,rfl,hl,hall⟩:=key n r h
  refine ⟨css.flatten,rfl,by simp [Ty.zero],css,rfl,hl,fun i x c hx hc=>?_⟩
  have:x=e.zero:=by
   have:=List.mem_of_getElem? hx
   exact List.eq_of_mem_replicate this
  subst this
  exact hall c (List.mem_of_getElem? hc)
 | _=>intro cs r h; simp [zrest] at h
theorem zeroOk_sound {P:Program} {ρ:Nat→Value} {w:World} {I:Nat→Prop} {t:TypeId} {ty:Ty} (h:zeroOk P t ty=true) :
  ∃ i z,P.info? t=some i∧i.zero=some z∧Rd P ty false ρ w I ty.zero z.cells.toList:=by
 unfold zeroOk at h
 split at h
 ·rename_i z hz
  obtain ⟨i,hi,hz⟩:=Option.bind_eq_some_iff.1 hz
  split at h
  ·rename_i hr
   obtain ⟨c,hc,hR⟩:=zrest_sound (P:=P) (ρ:=ρ) (w:=w) (I:=I) hr
   refine ⟨i,z,hi,hz,?_⟩
   rw [hc,List.append_nil]
   exact hR
  ·cases h
 ·cases h
theorem refs_zero:∀ (ty:Ty) {cs r:List Value},zrest ty cs=some r→ty.refs ty.zero=[]:=by
 intro ty
 induction ty with
 | pair a b iha ihb =>
  intro cs r h
  simp only [zrest] at h
  obtain ⟨r1,h1,h2⟩:=Option.bind_eq_some_iff.1 h
  simp [Ty.refs,Ty.zero,iha h1,ihb h2]
 | arr n e ih =>
  intro cs r h
  simp only [Ty.refs,Ty.zero]
  split
  ·rfl
  ·cases n with
   | zero=>rfl
   | succ n =>
    simp only [zrest] at h
    obtain ⟨r1,h1,h2⟩:=Option.bind_eq_some_iff.1 h
    refine List.flatMap_eq_nil_iff.2 fun x hx=>?_
    rw [List.eq_of_mem_replicate hx]
    exact ih h2
 | own=>intro cs r h; simp [zrest] at h
 | ptr=>intro cs r h; simp [zrest] at h
 | clo=>intro cs r h; simp [zrest] at h
 | _=>intros; rfl
theorem refs_zeroOk {P:Program} {t:TypeId} {ty:Ty} (h:zeroOk P t ty=true):ty.refs ty.zero=[]:=by
 unfold zeroOk at h
 split at h
 ·split at h
  ·rename_i hr
   exact refs_zero ty hr
  ·cases h
 ·cases h
theorem below_alloc (w:World) (o:Obj):Below w.heap.size w (w.alloc o):=(Below.refl _ _).alloc (Nat.le_refl _) _
theorem heap_alloc_self (w:World) (o:Obj):(w.alloc o).heap[w.heap.size]?=some o:=by
 show (w.heap.push o)[w.heap.size]?=_
 simp
section
variable {cx:Cx} {s:St} {o:Oper} {nid:Nat} {c:Ctx}
theorem ptr_val_self (ρ:Nat→Value) (nid r:Nat):(Ptr.mk nid 0 0 0 0).val (upd ρ nid (.pointer (some ⟨r,0,none⟩)))=.pointer (some ⟨r,0,none⟩):=by
 unfold Ptr.val
 rw [upd_same]
 simp [Ptr.co,Addr.add]
theorem ok_newCells {ty:Ty} {x:ty.den} {p:Perf} (hp:p=⟨.val .ptr ⟨nid,0,0,0,0⟩,[(nid,some (.cells ty x))],none⟩)
  (h:∀ (ρ:Nat→Value) (F:Nat→Prop) (a:Act) (w:World),M cx ρ F s a w→∃ cs tid,(execOp a.eval o).run cx.P w=.ok (.value (.pointer (some ⟨w.heap.size,0,none⟩))) (w.alloc (.cells cs tid)) ∧
   Rd cx.P ty false ρ w (cx.I ρ s) x cs.toList∧∀ b∈ty.refs x,F b):OpOk cx o s nid p:=by
 subst hp
 intro ρ F a w next Q hM hnF _ hn
 obtain ⟨cs,tid,hr,hx,hf⟩:=h ρ F a w hM
 unfold Oper.wp
 rw [hr]
 have hb:=below_alloc w (.cells cs tid)
 have hpres:Pres (cx.I ρ s) w (w.alloc (.cells cs tid)):=⟨hb.size,fun r hr _=>hb.block r hr⟩
 have hnew:=M.new (k:=.cells ty x) (v:=.pointer (some ⟨w.heap.size,0,none⟩)) hM hnF s.ok hb (fun r hr=>by
   have:w.heap.size=r:=Option.some.inj hr
   subst this
   exact ⟨Nat.le_refl _,by show w.heap.size<(w.heap.push _).size; simp⟩) rfl
  ⟨w.heap.size,tid,cs,rfl,heap_alloc_self _ _,hx.mono hpres (fun r hr hi=>.inl ⟨hi,hr⟩)⟩ hf
 refine hn _ _ _ (M.put hnew o.dst ?_ (fun b hb=>?_) s.ok)
 ·have:=@RV_of_ptr (upd ρ nid (.pointer (some ⟨w.heap.size,0,none⟩))) (w.alloc (.cells cs tid)) cx.P (cx.I (upd ρ nid (.pointer (some ⟨w.heap.size,0,none⟩))) ⟨s.sl,upd s.hp nid (some (.cells ty x)),s.ok⟩) ⟨nid,0,0,0,0⟩ ⟨⟨w.heap.size,0,none⟩,rfl,fun q hq=>by unfold Ptr.val; rw [show q.b=nid from hq,upd_same]⟩
  rw [ptr_val_self] at this
  exact this
 ·exact .inr (List.mem_singleton.1 hb)
theorem ok_alloc {t:TypeId} (ho:o.op=.alloc t):OpOk cx o s nid (pAlloc cx.P c nid t):=by
 unfold pAlloc
 split
 ·exact bad_ok
 ·rename_i ty _
  split
  ·rename_i hz
   refine ok_newCells rfl fun ρ F a w hM=>?_
   obtain ⟨i,z,hi,hzz,hR⟩:=zeroOk_sound (P:=cx.P) (ρ:=ρ) (w:=w) (I:=cx.I ρ s) hz
   refine ⟨z.cells,t,?_,hR,fun b hb=>by rw [refs_zeroOk hz] at hb; cases hb⟩
   simp [execOp,ho,Instr.alloc,zeroValue,typeInfo,hi,hzz,newVar,newRow]
  ·exact bad_ok
theorem RdV.cells {P:Program} {t:Ty} {ρ:Nat→Value} {w:World} {I:Nat→Prop} {x:t.den} {v:Value} (h:RdV P t ρ w I x v) (hρ:∀ b,(ρ b).oneCell'=true) :
  Rd P t false ρ w I x v.cells.toList:=by
 obtain ⟨c,rfl,hc⟩:=h
 rw [hc.cellsV hρ]
 exact hc
theorem ok_box {t:TypeId} {x:Operand} (ho:o.op=.box t x):OpOk cx o s nid (pBox c nid t (s.ev x)):=by
 unfold pBox
 split
 ·rename_i ty y hx
  refine ok_newCells rfl fun ρ F a w hM=>?_
  have h1:=hM.ev x
  rw [hx] at h1
  refine ⟨(a.eval x).cells,t,?_,RdV.cells h1.1 hM.rho,h1.2⟩
  simp [execOp,ho,Instr.box,newVar,newRow]
 ·rename_i hx
  split
  ·refine ok_newCells rfl fun ρ F a w hM=>?_
   have h1:=hM.ev x
   rw [hx] at h1
   have h2:a.eval x=.slice none 0 0:=h1.1
   refine ⟨#[.slice none 0 0],t,?_,⟨none,0,rfl,Nat.le_refl _,.inl rfl⟩,fun b hb=>by cases hb⟩
   simp [execOp,ho,Instr.box,newVar,newRow,h2,Value.cells]
  ·exact bad_ok
 ·exact bad_ok
end
end Go.Sx
namespace Go.Sx
theorem add_none (r o n:Nat):(⟨r,o,none⟩:Addr).add n=⟨r,o+n,none⟩:=by unfold Addr.add; split <;> simp_all
theorem CellsAt_of_row {w:World} {r tid:Nat} {cur:Array Value} {fr:Nat × Nat} {pre c post:List Value} (hg:w.heap[r]?=some (.cells cur tid fr)) (hc:cur.toList=pre++c++post) :
  CellsAt w ⟨r,pre.length,none⟩ c:=by
 intro j v hv
 rw [add_none,cell_of_row w r _ cur tid fr hg,← Array.getElem?_toList,hc,List.append_assoc,List.getElem?_append_right (by omega)]
 have hj:j<c.length:=(List.getElem?_eq_some_iff.1 hv).1
 rw [show pre.length+j - pre.length=j by omega,List.getElem?_append_left hj]
 exact hv
theorem flatten_split {m:Nat}:∀ {css:List (List Value)} {i:Nat},(∀ c∈css,c.length=m)→i<css.length→∃ pre ci post,css[i]?=some ci∧css.flatten=pre++ci++post∧pre.length=i*m ∧
  ∀ ci',(css.set i ci').flatten=pre++ci'++post
 | [],i,_,hi=>by cases hi
 | c :: css,0,h,_=>⟨[],c,css.flatten,rfl,by simp,by simp,fun ci'=>by simp⟩
 | c :: css,i+1,h,hi=>by
  obtain ⟨pre,ci,post,h1,h2,h3,h4⟩:=flatten_split (css:=css) (i:=i) (fun c' hc'=>h c' (List.mem_cons_of_mem _ hc')) (by simpa using hi)
  refine ⟨c++pre,ci,post,by simpa using h1,by simp [h2],?_,fun ci'=>by simp [h4 ci']⟩
  rw [List.length_append,h3,h c List.mem_cons_self,Nat.add_mul]
  omega
section
variable {P:Program} {ρ:Nat→Value} {w:World} {I:Nat→Prop}
theorem elemAt {n:Nat} {e:Ty} {l:List e.den} {c:List Value} {i:Nat} (h:Rd P (.arr n e) false ρ w I l c) (hi:i<n) (z:e.den) :
  ∃ pre ci post,c=pre++ci++post∧pre.length=i*e.size∧Rd P e false ρ w I (l.getD i z) ci ∧
   ∀ y' ci',Rd P e false ρ w I y' ci'→Rd P (.arr n e) false ρ w I (l.set i y':List e.den) (pre++ci'++post):=by
 obtain ⟨hl,css,rfl,hn,hall⟩:=h
 have hil:i<l.length:=by have:l.length=n:=hl; omega
 have hlen:∀ c∈css,c.length=e.size:=by
  intro c hc
  obtain ⟨j,hj,rfl⟩:=List.mem_iff_getElem.1 hc
  have hjl:j<l.length:=by have:l.length=n:=hl; omega
  exact (hall j l[j] css[j] (List.getElem?_eq_getElem hjl) (List.getElem?_eq_getElem hj)).length
 obtain ⟨pre,ci,post,h1,h2,h3,h4⟩:=flatten_split (i:=i) hlen (by omega)
 refine ⟨pre,ci,post,h2,h3,?_,fun y' ci' hy'=>?_⟩
 ·have hx:l[i]?=some (l.getD i z):=by simp [List.getD,hil]
  exact hall i _ ci hx h1
 ·refine ⟨by rw [List.length_set]; exact hl,css.set i ci',(h4 ci').symm,by simp [hn],fun j x c' hx hc'=>?_⟩
  by_cases hij:i=j
  ·subst hij
   rw [List.getElem?_set_self hil] at hx
   rw [List.getElem?_set_self (by omega)] at hc'
   obtain rfl:=Option.some.inj hx
   obtain rfl:=Option.some.inj hc'
   exact hy'
  ·rw [List.getElem?_set_ne hij] at hx
   rw [List.getElem?_set_ne hij] at hc'
   exact hall j x c' hx hc'
theorem row_cells {e:Ty} {l:List e.den} {tid:TypeId} {v:Value} (h:RB P ρ w I v (.row e l tid)) (hl:0<l.length) :
  ∃ g cap cur xs rest,v=.slice (some ⟨g,0,none⟩) l.length cap∧w.heap[g]?=some (.cells cur tid (0,0))∧l.length≤cap∧cap≤maxLen∧cur.size=cap*e.size ∧
   cur.toList=xs++rest∧xs.length=l.length*e.size∧Rd P (.arr l.length e) false ρ0 w I l xs:=by
 obtain ⟨xs,⟨h0,h1⟩,h2⟩:=h
 rcases h1 with ⟨_,_,h1⟩ | ⟨g,cap,cur,rfl,_,_,hg,h3,h4,h5,h6⟩
 ·omega
 ·refine ⟨g,cap,cur,xs,cur.toList.drop (l.length*e.size),rfl,hg,h3,h4,h5,?_,h0,h2⟩
  rw [← h6,List.take_append_drop]
theorem refs_comp:∀ {t:Ty} {x:t.den} {off:Nat} {tgt:Ty} {y:tgt.den},comp t x off tgt=some y→∀ b∈tgt.refs y,b∈t.refs x:=by
 intro t
 have base:∀ (t:Ty) (x:t.den) (off:Nat) (tgt:Ty) (y:tgt.den),(match Nat.beq off 0 with | true=>Ty.as? t tgt x | false=>none)=some y→∀ b∈tgt.refs y,b∈t.refs x:=by
  intro t x off tgt y h b hb
  split at h
  ·obtain ⟨rfl,rfl⟩:=Ty.as?_some h; exact hb
  ·cases h
 induction t with
 | pair p q ihp ihq =>
  intro x off tgt y h b hb
  unfold comp at h
  split at h
  ·obtain ⟨rfl,rfl⟩:=Ty.as?_some h; exact hb
  ·simp only [Ty.refs,List.mem_append]
   split at h
   ·exact .inl (ihp h b hb)
   ·exact .inr (ihq h b hb)
 | int k=>intro x off tgt y h; exact base _ x off tgt y h
 | bool=>intro x off tgt y h; exact base _ x off tgt y h
 | nil=>intro x off tgt y h; exact base _ x off tgt y h
 | nilf=>intro x off tgt y h; exact base _ x off tgt y h
 | unit=>intro x off tgt y h; exact base _ x off tgt y h
 | slice e _=>intro x off tgt y h; exact base _ x off tgt y h
 | arr n e _=>intro x off tgt y h; exact base _ x off tgt y h
 | own=>intro x off tgt y h; exact base _ x off tgt y h
 | ptr=>intro x off tgt y h; exact base _ x off tgt y h
 | clo=>intro x off tgt y h; exact base _ x off tgt y h
 | fn a b _ _=>intro x off tgt y h; exact base _ x off tgt y h
 | fn2 p a b _ _ _=>intro x off tgt y h; exact base _ x off tgt y h
 | ref t _=>intro x off tgt y h; exact base _ x off tgt y h
theorem refs_setc:∀ {t:Ty} {x x':t.den} {off:Nat} {tgt:Ty} {y:tgt.den},setc t x off tgt y=some x'→∀ b∈t.refs x',b∈t.refs x∨b∈tgt.refs y:=by
 intro t
 have base:∀ (t:Ty) (x x':t.den) (off:Nat) (tgt:Ty) (y:tgt.den),(match Nat.beq off 0 with | true=>Ty.as? tgt t y | false=>none)=some x'→∀ b∈t.refs x',b∈t.refs x∨b∈tgt.refs y:=by
  intro t x x' off tgt y h b hb
  split at h
  ·obtain ⟨rfl,rfl⟩:=Ty.as?_some h; exact .inr hb
  ·cases h
 induction t with
 | pair p q ihp ihq =>
  intro x x' off tgt y h b hb
  unfold setc at h
  split at h
  ·obtain ⟨rfl,rfl⟩:=Ty.as?_some h; exact .inr hb
  ·simp only [Ty.refs,List.mem_append] at hb ⊢
   split at h
   ·obtain ⟨z,hz,rfl⟩:=Option.map_eq_some_iff.1 h
    rcases hb with hb | hb
    ·rcases ihp hz b hb with h | h
     ·exact .inl (.inl h)
     ·exact .inr h
    ·exact .inl (.inr hb)
   ·obtain ⟨z,hz,rfl⟩:=Option.map_eq_some_iff.1 h
    rcases hb with hb | hb
    ·exact .inl (.inl hb)
    ·rcases ihq hz b hb with h | h
     ·exact .inl (.inr h)
     ·exact .inr h
 | int k=>intro x x' off tgt y h; exact base _ x x' off tgt y h
 | bool=>intro x x' off tgt y h; exact base _ x x' off tgt y h
 | nil=>intro x x' off tgt y h; exact base _ x x' off tgt y h
 | nilf=>intro x x' off tgt y h; exact base _ x x' off tgt y h
 | unit=>intro x x' off tgt y h; exact base _ x x' off tgt y h
 | slice e _=>intro x x' off tgt y h; exact base _ x x' off tgt y h
 | arr n e _=>intro x x' off tgt y h; exact base _ x x' off tgt y h
 | own=>intro x x' off tgt y h; exact base _ x x' off tgt y h
 | ptr=>intro x x' off tgt y h; exact base _ x x' off tgt y h
 | clo=>intro x x' off tgt y h; exact base _ x x' off tgt y h
 | fn a b _ _=>intro x x' off tgt y h; exact base _ x x' off tgt y h
 | fn2 p a b _ _ _=>intro x x' off tgt y h; exact base _ x x' off tgt y h
 | ref t _=>intro x x' off tgt y h; exact base _ x x' off tgt y h
theorem refs_arr_mem {n:Nat} {e:Ty} {l:List e.den} {b:Nat} (h:b∈(Ty.arr n e).refs l):∃ x∈l,b∈e.refs x:=by
 simp only [Ty.refs] at h
 split at h
 ·cases h
 ·exact List.mem_flatMap.1 h
theorem refs_arr_of {n:Nat} {e:Ty} {l:List e.den} {b:Nat} {x:e.den} (hx:x∈l) (h:b∈e.refs x):b∈(Ty.arr n e).refs l:=by
 simp only [Ty.refs]
 split
 ·rename_i hd; rw [Ty.deep_refs hd] at h; cases h
 ·exact List.mem_flatMap.2 ⟨x,hx,h⟩
theorem refs_arrc:∀ {t:Ty} {x:t.den} {off:Nat} {A:ArrC},arrc t x off=some A→(∀ b∈(Ty.arr A.n A.e).refs A.l,b∈t.refs x) ∧
  ∀ l' x',seta t x off A.e l'=some x'→∀ b∈t.refs x',b∈t.refs x∨b∈(Ty.arr A.n A.e).refs l':=by
 intro t
 induction t with
 | pair p q ihp ihq =>
  intro x off A h
  unfold arrc at h
  split at h
  ·rename_i hlt
   obtain ⟨h1,h2⟩:=ihp h
   refine ⟨fun b hb=>List.mem_append.2 (.inl (h1 b hb)),fun l' x' hx' b hb=>?_⟩
   unfold seta at hx'
   rw [hlt] at hx'
   obtain ⟨z,hz,rfl⟩:=Option.map_eq_some_iff.1 hx'
   simp only [Ty.refs,List.mem_append] at hb ⊢
   rcases hb with hb | hb
   ·rcases h2 l' z hz b hb with h | h
    ·exact .inl (.inl h)
    ·exact .inr h
   ·exact .inl (.inr hb)
  ·rename_i hlt
   obtain ⟨h1,h2⟩:=ihq h
   refine ⟨fun b hb=>List.mem_append.2 (.inr (h1 b hb)),fun l' x' hx' b hb=>?_⟩
   unfold seta at hx'
   rw [hlt] at hx'
   obtain ⟨z,hz,rfl⟩:=Option.map_eq_some_iff.1 hx'
   simp only [Ty.refs,List.mem_append] at hb ⊢
   rcases hb with hb | hb
   ·exact .inl (.inl hb)
   ·rcases h2 l' z hz b hb with h | h
    ·exact .inl (.inr h)
    ·exact .inr h
 | arr n e _ =>
  intro x off A h
  unfold arrc at h
  split at h
  ·rename_i ho
   obtain rfl:=Option.some.inj h
   refine ⟨fun b hb=>hb,fun l' x' hx' b hb=>?_⟩
   unfold seta at hx'
   rw [ho] at hx'
   obtain ⟨he,rfl⟩:=Ty.as?_some hx'
   exact .inr hb
  ·cases h
 | _=>intro x off A h; simp [arrc] at h
theorem place_sound {k:Blk} {p:Ptr} {t:Ty} {y:t.den} {ob:Option Prop} (h:RB P ρ w I (ρ p.b) k) (hg:getP k p t=(some y,ob)) (hob:obP ob) :
  ∃ r tid cur pre c post,real (ρ p.b)=some r∧p.val ρ=.pointer (some ⟨r,pre.length,none⟩)∧w.heap[r]?=some (.cells cur tid (0,0))∧cur.toList=pre++c++post∧Rd P t false ρ w I y c∧(∀ b∈t.refs y,b∈k.refs):=by
 cases k with
 | cells ty x =>
  obtain ⟨r,tid,cur,hv,hcur,hx⟩:=h
  unfold getP at hg
  simp only at hg
  split at hg
  ·rename_i hes
   have hes:=Nat.eq_of_beq_eq_true hes
   simp only [Prod.mk.injEq] at hg
   obtain ⟨pre,c,post,h1,h2,h3⟩:=comp_sound hx hg.1
   refine ⟨r,tid,cur,pre,c,post,by rw [hv]; rfl,?_,hcur,h1,h3,refs_comp hg.1⟩
   unfold Ptr.val
   rw [hv]
   simp only [add_none,h2,Ptr.co,hes,Nat.mul_zero,Nat.add_zero,Nat.zero_add]
  ·split at hg
   ·rename_i A hA
    split at hg
    ·rename_i hes
     have hes:=Nat.eq_of_beq_eq_true hes
     simp only [Prod.mk.injEq] at hg
     obtain ⟨hc,rfl⟩:=hg
     obtain ⟨pre,c,post,h1,h2,h3,_⟩:=arrc_sound hx hA
     have hi:p.i.toNat<A.n:=by have:=hob.1; have:=hob.2; omega
     obtain ⟨pre2,ci,post2,h4,h5,h6,_⟩:=elemAt h3 hi A.e.zero
     obtain ⟨pre3,c3,post3,h7,h8,h9⟩:=comp_sound h6 hc
     refine ⟨r,tid,cur,pre++pre2++pre3,c3,post3++post2++post,by rw [hv]; rfl,?_,hcur,by rw [h1,h4,h7]; simp,h9,fun b hb=>?_⟩
     rotate_left
     ·have hl:A.l.length=A.n:=h3.1
      have hlt:p.i.toNat<A.l.length:=by omega
      refine (refs_arrc hA).1 b (refs_arr_of (x:=A.l.getD p.i.toNat A.e.zero) ?_ (refs_comp hc b hb))
      simp only [List.getD,List.getElem?_eq_getElem hlt,Option.getD_some]
      exact List.getElem_mem hlt
     unfold Ptr.val
     rw [hv]
     simp only [add_none,Ptr.co,List.length_append,h2,h5,h8,hes,Nat.zero_add]
    ·cases hg
   ·cases hg
 | row e l tid =>
  unfold getP at hg
  simp only at hg
  split at hg
  ·rename_i hes
   simp only [Bool.and_eq_true] at hes
   have hes1:=Nat.eq_of_beq_eq_true hes.1.1
   have hes2:=Nat.eq_of_beq_eq_true hes.1.2
   have hdeep:=hes.2
   simp only [Prod.mk.injEq] at hg
   obtain ⟨hc,rfl⟩:=hg
   have hi:p.i.toNat<l.length:=by have:=hob.1; have:=hob.2; omega
   obtain ⟨g,cap,cur,xs,rest,hv,hcur,hcap,_,_,h1,h2,h3⟩:=row_cells h (by omega)
   obtain ⟨pre2,ci,post2,h4,h5,h6,_⟩:=elemAt h3 hi e.zero
   obtain ⟨pre3,c3,post3,h7,h8,h9⟩:=comp_sound h6 hc
   refine ⟨g,tid,cur,pre2++pre3,c3,post3++post2++rest,by rw [hv]; exact real_slice (by omega),?_,hcur,by rw [h1,h4,h7]; simp,h9.rho (fun b hb=>by rw [Ty.deep_refs hdeep] at hb; cases hb),fun b hb=>by rw [Ty.deep_refs hdeep] at hb; cases hb⟩
   unfold Ptr.val
   rw [hv]
   simp only [add_none,Ptr.co,List.length_append,h5,h8,hes1,hes2,Nat.zero_add]
  ·cases hg
end
section
variable {cx:Cx} {s:St} {o:Oper} {nid:Nat} {c:Ctx}
def TOk (P:Program) (c:Ctx):Prop:=∀ t ty,(t,ty)∈c.T→tyOk P t ty=true
theorem tyOk_sound {P:Program} {t:TypeId} {ty:Ty} (h:tyOk P t ty=true) :
  ∃ i d,P.info? t=some i∧i.size=ty.size∧P.underlying t=some d∧(match d with | .struct _ | .array _ _=>true | _=>false)=ty.agg:=by
 unfold tyOk at h
 split at h
 ·cases h
 ·rename_i i hi
  simp only [Bool.and_eq_true] at h
  obtain ⟨h1,h2⟩:=h
  split at h2
  ·rename_i hd; exact ⟨i,_,hi,Nat.eq_of_beq_eq_true h1,hd,by simp [h2]⟩
  ·rename_i hd; exact ⟨i,_,hi,Nat.eq_of_beq_eq_true h1,hd,by simp [h2]⟩
  ·rename_i d hn1 hn2 hd
   refine ⟨i,d,hi,Nat.eq_of_beq_eq_true h1,hd,?_⟩
   have:ty.agg=false:=by simpa using h2
   rw [this]
   cases d <;> first | rfl | exact absurd rfl (hn1 _) | exact absurd rfl (hn2 _ _)
  ·cases h2
theorem run_loadAt {P:Program} {w:World} {t:TypeId} {ty:Ty} (hty:tyOk P t ty=true) {ad:Addr} {cs:List Value} (hc:CellsAt w ad cs) (hl:cs.length=ty.size) :
  (Instr.loadAt t (.pointer (some ad))).run P w=.ok (mkV ty cs) w:=by
 obtain ⟨i,d,hi,hs,hd,hagg⟩:=tyOk_sound hty
 have hld:=run_loadCells_list (P:=P) w ad cs hc
 have hisagg:(isAgg t).run P w=.ok ty.agg w:=by
  unfold isAgg
  rw [Sem.run_bind,run_underlying hd w]
  rw [← hagg]
  cases d <;> rfl
 simp only [Instr.loadAt,Instr.sureAddr,loadVar,Sem.run_bind,Sem.run_pure,Result.andThen_ok,hisagg]
 cases ha:ty.agg with
 | true =>
  simp only [if_true,Sem.run_bind,sizeOf,typeInfo,run_program,Result.andThen_ok,hi,Sem.run_pure,hs,← hl,hld,mkV,ha]
 | false =>
  have h1:ty.size=1:=by cases ty <;> simp [Ty.agg] at ha <;> rfl
  have hcl:cs.length=1:=by rw [hl,h1]
  match cs,hcl with
  | [v],_ =>
   have hv:=hc 0 v rfl
   have h0:ad.add 0=ad:=by simp [Addr.add]
   rw [h0] at hv
   simp only [Bool.false_eq_true,if_false,run_load,hv,mkV,ha,List.headD]
theorem ok_load {hp:Nat→Option Blk} (hhp:∀ b k,hp b=some k→s.hp b=some k) {t:TypeId} {x:Operand} (ho:o.op=.load t x) (hT:TOk cx.P c) :
  OpOk cx o s nid (pLoad c hp t (s.ev x)):=by
 unfold pLoad
 split
 ·exact bad_ok
 ·rename_i ty hf
  have hty:=hT _ _ (find_mem hf)
  split
  ·rename_i p hx
   split
   ·rename_i k hk
    split
    ·rename_i y ob hgp
     refine ok_value rfl fun ρ F a w hM hob=>?_
     have h1:=(hM.ev x).1
     rw [hx] at h1
     have h1:=RV_ptr h1
     obtain ⟨r,tid,cur,pre,cc,post,_,h2,h3,h4,h5,h5r⟩:=place_sound (hM.blks p.b k (hhp _ _ hk)) hgp hob
     have h6:CellsAt w ⟨r,pre.length,none⟩ cc:=CellsAt_of_row h3 h4
     have hlen:cc.length=ty.size:=h5.length
     refine ⟨mkV ty cc,?_,?_,?_⟩
     ·simp only [execOp,ho,h1,h2,Sem.run_bind,run_loadAt hty h6 hlen,Result.andThen_ok,Sem.run_pure]
     ·exact ⟨cc,rfl,h5⟩
     ·exact fun b hb=>(hM.brefs _ _ (hhp _ _ hk)).2 b (h5r b hb)
    ·exact bad_ok
   ·exact bad_ok
  ·rename_i t' y off hx
   split
   rotate_left
   ·exact bad_ok
   rename_i hdeep
   split
   ·rename_i z hz
    refine ok_value rfl fun ρ F a w hM _=>?_
    have h1:=(hM.ev x).1
    rw [hx] at h1
    obtain ⟨ad,cc,h1,h2,h3,h4,h5,h6⟩:=h1
    obtain ⟨pre,c3,post,rfl,h8,h9⟩:=comp_sound h6 hz
    have h10:CellsAt w (ad.add off) c3:=by
     intro j v hv
     have hj:j<c3.length:=(List.getElem?_eq_some_iff.1 hv).1
     have:=h5 (off+j) v (by
      rw [List.append_assoc,List.getElem?_append_right (by omega),h8,show off+j - off=j by omega,List.getElem?_append_left hj]
      exact hv)
     have hadd:(ad.add off).add j=ad.add (off+j):=by
      obtain ⟨b,o',sp⟩:=ad
      have h2:sp=none:=h2
      subst h2
      rw [add_none,add_none,add_none,Nat.add_assoc]
     rw [hadd]
     exact this
    refine ⟨mkV ty c3,?_,?_,?_⟩
    ·simp only [execOp,ho,h1,Sem.run_bind,run_loadAt hty h10 h9.length,Result.andThen_ok,Sem.run_pure]
    ·exact ⟨c3,rfl,h9.rho (fun b hb=>by rw [Ty.deep_refs hdeep] at hb; cases hb)⟩
    ·exact fun b hb=>by have hb:b∈ty.refs z:=hb; rw [Ty.deep_refs hdeep] at hb; cases hb
   ·exact bad_ok
  ·exact bad_ok
end
end Go.Sx
namespace Go.Sx
section
variable {P:Program} {ρ:Nat→Value} {w:World} {I:Nat→Prop}
theorem setP_isC {k k':Blk} {p:Ptr} {t:Ty} {z:t.den} {ob:Option Prop} (h:setP k p t z=(some k',ob)):k'.isC=k.isC:=by
 cases k with
 | cells ty x =>
  unfold setP at h
  simp only at h
  split at h
  ·simp only [Prod.mk.injEq,Option.map_eq_some_iff] at h
   obtain ⟨⟨_,_,rfl⟩,_⟩:=h
   rfl
  ·split at h
   ·split at h
    ·simp only [Prod.mk.injEq,Option.bind_eq_some_iff,Option.map_eq_some_iff] at h
     obtain ⟨⟨_,_,_,_,rfl⟩,_⟩:=h
     rfl
    ·simp at h
   ·simp at h
 | row e l tid =>
  unfold setP at h
  simp only at h
  split at h
  ·simp only [Prod.mk.injEq,Option.map_eq_some_iff] at h
   obtain ⟨⟨_,_,rfl⟩,_⟩:=h
   rfl
  ·simp at h
theorem put_sound {k k':Blk} {p:Ptr} {t:Ty} {z:t.den} {ob:Option Prop} {cz:List Value} (h:RB P ρ w I (ρ p.b) k) (hg:setP k p t z=(some k',ob)) (hob:obP ob) (hz:Rd P t false ρ w I z cz) :
  ∃ r tid cur pre c post,real (ρ p.b)=some r∧p.val ρ=.pointer (some ⟨r,pre.length,none⟩)∧w.heap[r]?=some (.cells cur tid (0,0))∧cur.toList=pre++c++post∧c.length=cz.length ∧
   (∀ w',Pres I w w'→w'.heap[r]?=some (.cells (pre++cz++post).toArray tid (0,0))→RB P ρ w' I (ρ p.b) k')∧(∀ b∈k'.refs,b∈k.refs∨b∈t.refs z):=by
 cases k with
 | cells ty x =>
  obtain ⟨r,tid,cur,hv,hcur,hx⟩:=h
  unfold setP at hg
  simp only at hg
  split at hg
  ·rename_i hes
   have hes:=Nat.eq_of_beq_eq_true hes
   simp only [Prod.mk.injEq] at hg
   obtain ⟨x',hx',rfl⟩:=Option.map_eq_some_iff.1 hg.1
   obtain ⟨pre,c,post,h1,h2,h3,h4⟩:=setc_sound hx hx' hz
   refine ⟨r,tid,cur,pre,c,post,by rw [hv]; rfl,?_,hcur,h1,h3,fun w' hp hw'=>⟨r,tid,_,hv,hw',?_⟩,refs_setc hx'⟩
   ·unfold Ptr.val
    rw [hv]
    simp only [add_none,h2,Ptr.co,hes,Nat.mul_zero,Nat.add_zero,Nat.zero_add]
   ·exact h4.mono hp (fun _ _ h=>h)
  ·split at hg
   ·rename_i A hA
    split at hg
    ·rename_i hes
     have hes:=Nat.eq_of_beq_eq_true hes
     simp only [Prod.mk.injEq] at hg
     obtain ⟨hc,rfl⟩:=hg
     obtain ⟨e',he',hc⟩:=Option.bind_eq_some_iff.1 hc
     obtain ⟨x',hx',rfl⟩:=Option.map_eq_some_iff.1 hc
     obtain ⟨pre,c,post,h1,h2,h3,h3'⟩:=arrc_sound hx hA
     have hi:p.i.toNat<A.n:=by have:=hob.1; have:=hob.2; omega
     obtain ⟨pre2,ci,post2,h4,h5,h6,h6'⟩:=elemAt h3 hi A.e.zero
     obtain ⟨pre3,c3,post3,h7,h8,h9,h10⟩:=setc_sound h6 he' hz
     have h11:=h3' _ x' _ hx' (h6' _ _ h10)
     refine ⟨r,tid,cur,pre++pre2++pre3,c3,post3++post2++post,by rw [hv]; rfl,?_,hcur,by rw [h1,h4,h7]; simp,h9,fun w' hp hw'=>⟨r,tid,_,hv,hw',?_⟩,fun b hb=>?_⟩
     ·unfold Ptr.val
      rw [hv]
      simp only [add_none,Ptr.co,List.length_append,h2,h5,h8,hes,Nat.zero_add]
     ·have e:pre++pre2++pre3++cz++(post3++post2++post)=pre++(pre2++(pre3++cz++post3)++post2)++post:=by simp
      rw [e]
      exact h11.mono hp (fun _ _ h=>h)
     ·have hl:A.l.length=A.n:=h3.1
      have hlt:p.i.toNat<A.l.length:=by omega
      rcases (refs_arrc hA).2 _ x' hx' b hb with hb | hb
      ·exact .inl hb
      ·obtain ⟨y,hy,hby⟩:=refs_arr_mem hb
       rcases List.mem_or_eq_of_mem_set hy with hy | rfl
       ·exact .inl ((refs_arrc hA).1 b (refs_arr_of hy hby))
       ·rcases refs_setc he' b hby with h | h
        ·refine .inl ((refs_arrc hA).1 b (refs_arr_of (x:=A.l.getD p.i.toNat A.e.zero) ?_ h))
         simp only [List.getD,List.getElem?_eq_getElem hlt,Option.getD_some]
         exact List.getElem_mem hlt
        ·exact .inr h
    ·cases hg
   ·cases hg
 | row e l tid =>
  unfold setP at hg
  simp only at hg
  split at hg
  ·rename_i hes
   simp only [Bool.and_eq_true] at hes
   have hes1:=Nat.eq_of_beq_eq_true hes.1.1
   have hes2:=Nat.eq_of_beq_eq_true hes.1.2
   have hdeep:=hes.2
   simp only [Prod.mk.injEq] at hg
   obtain ⟨hc,rfl⟩:=hg
   obtain ⟨e',he',rfl⟩:=Option.map_eq_some_iff.1 hc
   have hi:p.i.toNat<l.length:=by have:=hob.1; have:=hob.2; omega
   obtain ⟨g,cap,cur,xs,rest,hv,hcur,hcap,hmax,hsz,h1,h2,h3⟩:=row_cells h (by omega)
   obtain ⟨pre2,ci,post2,h4,h5,h6,h6'⟩:=elemAt h3 hi e.zero
   obtain ⟨pre3,c3,post3,h7,h8,h9,h10⟩:=setc_sound h6 he' (hz.rho (fun b hb=>by rw [Ty.deep_refs hdeep] at hb; cases hb))
   have h11:=h6' _ _ h10
   refine ⟨g,tid,cur,pre2++pre3,c3,post3++post2++rest,by rw [hv]; exact real_slice (by omega),?_,hcur,by rw [h1,h4,h7]; simp,h9,fun w' hp hw'=>?_,fun b hb=>by cases hb⟩
   ·unfold Ptr.val
    rw [hv]
    simp only [add_none,Ptr.co,List.length_append,h5,h8,hes1,hes2,Nat.zero_add]
   ·have hlen:(pre2++(pre3++cz++post3)++post2).length=xs.length:=by
     rw [h4,h7]; simp [h9]
    refine ⟨pre2++(pre3++cz++post3)++post2,⟨by rw [hlen,h2,List.length_set],.inr ⟨g,cap,_,by rw [hv,List.length_set],by omega,Nat.zero_le _,hw',by rw [List.length_set]; exact hcap,hmax,?_,?_⟩⟩,?_⟩
    ·have:cur.size=cur.toList.length:=by simp
     rw [h1] at this
     rw [← hsz,this]
     simp only [List.size_toArray,List.length_append,h4,h7,h9]
     omega
    ·have e:(pre2++pre3++cz++(post3++post2++rest))=(pre2++(pre3++cz++post3)++post2)++rest:=by simp
     simp only [e,List.length_set]
     rw [← h2,← hlen,List.take_left]
    ·rw [List.length_set]
     exact h11.mono hp (fun _ _ h=>h)
  ·cases hg
end
section
variable {cx:Cx} {s:St} {o:Oper} {nid:Nat} {c:Ctx}
theorem run_storeAt {P:Program} {w:World} {t:TypeId} {i:TypeInfo} (hi:P.info? t=some i) {r o:Nat} {cur:Array Value} {tid:TypeId} {v:Value} {pre cc post:List Value}
  (hg:w.heap[r]?=some (.cells cur tid (0,0))) (hcur:cur.toList=pre++cc++post) (ho:o=pre.length) (hl:cc.length=v.cells.size) (hs:v.cells.size=i.size) (h1:∀ u∈v.cells.toList,u.oneCell'=true) :
  (Instr.storeAt t (.pointer (some ⟨r,o,none⟩)) v).run P w=.ok () (w.setRow r (pre++v.cells.toList++post).toArray):=by
 subst ho
 have hsz:cur.size=(pre++cc++post).length:=by rw [← hcur]; simp
 have hst:=run_storeCells_at P r pre.length tid v.cells.toList 0 cur w hg (by simp only [hsz,List.length_append,Array.length_toList]; omega) h1
 have e:(cur.toList.take (pre.length+0)++v.cells.toList++cur.toList.drop (pre.length+0+v.cells.toList.length))=pre++v.cells.toList++post:=by
  have hl':cc.length=v.cells.toList.length:=by simpa using hl
  have e1:cur.toList.take (pre.length+0)=pre:=by rw [hcur,Nat.add_zero,List.append_assoc,List.take_left]
  have e2:cur.toList.drop (pre.length+0+v.cells.toList.length)=post:=by rw [hcur,Nat.add_zero,← hl',← List.length_append,List.drop_left]
  rw [e1,e2]
 rw [e] at hst
 simp [Instr.storeAt,Instr.sureAddr,storeVar,sizeOf,typeInfo,hi,hs,hst]
theorem coe_sound {P:Program} {ρ:Nat→Value} {w:World} {I:Nat→Prop} {t:Ty} {av:AV} {x:t.den} {v:Value} (h:RV P ρ w I av v) (hc:coe t av=some x):RdV P t ρ w I x v∧∀ b∈t.refs x,b∈av.refs:=by
 unfold coe at hc
 split at hc
 ·obtain ⟨rfl,rfl⟩:=Ty.as?_some hc
  exact ⟨h,fun b hb=>hb⟩
 ·split at hc
  ·obtain rfl:=Option.some.inj hc
   have h:v=.slice none 0 0:=h
   subst h
   exact ⟨⟨[.slice none 0 0],rfl,none,0,rfl,Nat.le_refl _,.inl rfl⟩,fun b hb=>by cases hb⟩
  ·have h:v=.slice none 0 0:=h
   subst h
   exact ⟨⟨[.slice none 0 0],rfl,rfl⟩,fun b hb=>by cases hb⟩
  ·cases hc
 ·cases hc
theorem ok_store {hp:Nat→Option Blk} (hhp:∀ b k,hp b=some k→s.hp b=some k) {t:TypeId} {x y:Operand} (ho:o.op=.store t x y) (hT:TOk cx.P c) :
  OpOk cx o s nid (pStore c hp t (s.ev x) (s.ev y)):=by
 unfold pStore
 split
 ·exact bad_ok
 ·rename_i ty hf
  have hty:=hT _ _ (find_mem hf)
  split
  ·rename_i p hx
   split
   ·rename_i k hk
    split
    ·rename_i z hz
     split
     ·rename_i k' ob hsp
      intro ρ F a w next Q hM hnF hob hn
      have h1:=(hM.ev x).1
      rw [hx] at h1
      have h1:=RV_ptr h1
      obtain ⟨h2,h3⟩:=coe_sound (hM.ev y).1 hz
      have h4:=RdV.cells h2 hM.rho
      obtain ⟨i,d,hi,hs,_,_⟩:=tyOk_sound hty
      obtain ⟨r,tid,cur,pre,cc,post,h5,h6,h7,h8,h9,h10,h11⟩:=put_sound (hM.blks p.b k (hhp _ _ hk)) hsp hob h4
      have hrun:=run_storeAt (P:=cx.P) hi (v:=a.eval y) h7 h8 rfl (by simpa using h9) (by rw [hs,← h4.length]; simp) (h4.one hM.rho)
      have hset:=M.set hM s.ok (hhp _ _ hk) (k:=k') (w':=w.setRow r (pre++(a.eval y).cells.toList++post).toArray) rfl ⟨rfl,Nat.le_refl _⟩ rfl (by simp [World.setRow]) (fun q hq=>by
        exact setRow_other w r q _ (fun e=>hq (by rw [h5,e])))
       (h10 _ ⟨by simp [World.setRow],fun q _ hq=>setRow_other w r q _ (fun e=>hq.2 p.b k (hhp _ _ hk) (by rw [h5,e]))⟩ (setRow_heap w r cur _ tid _ h7))
       (fun b hb=>by
        rcases h11 b hb with h | h
        ·exact (hM.brefs _ _ (hhp _ _ hk)).2 b h
        ·exact (hM.ev y).2 b (h3 b h)) (setP_isC hsp)
      unfold Oper.wp
      have:(execOp a.eval o).run cx.P w=.ok .skip (w.setRow r (pre++(a.eval y).cells.toList++post).toArray):=by
       simp only [execOp,ho,h1,h6,Sem.run_bind,hrun,Result.andThen_ok,Sem.run_pure]
      rw [this]
      exact hn ρ undef _ ((M.put hset o.dst (av:=.undef) trivial (fun b hb=>by cases hb) s.ok).widen (fun b hb=>.inl hb))
     ·exact bad_ok
    ·exact bad_ok
   ·exact bad_ok
  ·exact bad_ok
theorem fieldOf_sound {P:Program} {t:TypeId} {f off ft:Nat} (h:fieldOf P t f=some (off,ft)):∃ fs fd,P.underlying t=some (.struct fs)∧fs[f]?=some fd∧fd.offset=off∧fd.type=ft:=by
 unfold fieldOf at h
 split at h
 ·rename_i fs hfs
  obtain ⟨fd,hfd,he⟩:=Option.map_eq_some_iff.1 h
  simp only [Prod.mk.injEq] at he
  exact ⟨fs,fd,hfs,hfd,he.1,he.2⟩
 ·cases h
theorem run_fieldAt {P:Program} {w:World} {t:TypeId} {f off ft m:Nat} (h:fieldOf P t f=some (off,ft)) (hs:(P.info? ft).map (·.size)=some (m+1)) (ad:Addr) :
  (Instr.fieldAt t (.pointer (some ad)) f).run P w=.ok (.pointer (some (ad.add off))) w:=by
 obtain ⟨fs,fd,h1,h2,h3,h4⟩:=fieldOf_sound h
 obtain ⟨i,hi,hsi⟩:=Option.map_eq_some_iff.1 hs
 subst h3
 subst h4
 simp [Instr.fieldAt,run_underlying h1,h2,Instr.sureAddr,fieldPlace,sizeOf,typeInfo,hi,hsi]
theorem add_add {ad:Addr} (h:ad.spot=none) (m n:Nat):(ad.add m).add n=ad.add (m+n):=by
 obtain ⟨b,o,sp⟩:=ad
 have h:sp=none:=h
 subst h
 rw [add_none,add_none,add_none,Nat.add_assoc]
theorem ok_nilCheck {x:Operand} (ho:o.op=.nilCheck x) (h:(∃ t y off,s.ev x=.imm t y off)∨∃ p,s.ev x=.val .ptr p):OpOk cx o s nid (.of (s.ev x)):=by
 refine ok_value rfl fun ρ F a w hM _=>⟨a.eval x,?_,hM.ev x⟩
 have h1:=(hM.ev x).1
 rcases h with ⟨t,y,off,hx⟩ | ⟨p,hx⟩
 ·rw [hx] at h1
  obtain ⟨ad,c,h1,_⟩:=h1
  simp [execOp,ho,h1]
 ·rw [hx] at h1
  obtain ⟨ad,_,hg⟩:=RV_ptr_good h1
  have h2:=RV_ptr h1
  rw [hg p rfl] at h2
  simp [execOp,ho,h2]
theorem Ptr.good_of {ρ:Nat→Value} {p q:Ptr} (h:p.good ρ) (e:q.b=p.b):q.good ρ:=by
 obtain ⟨ad,hs,hg⟩:=h
 exact ⟨ad,hs,fun r hr=>hg r (hr.trans e)⟩
theorem ok_fieldAddr {t:TypeId} {x:Operand} {f:Nat} (ho:o.op=.fieldAddr t x f):OpOk cx o s nid (pFieldAddr cx.P t (s.ev x) f):=by
 unfold pFieldAddr
 split
 ·exact bad_ok
 ·rename_i off ft hf
  split
  ·rename_i m hm
   have key:∀ (p q:Ptr),s.ev x=.val .ptr p→q.b=p.b→q.co=p.co+off→OpOk cx o s nid (.of (.val .ptr q)):=by
    intro p q hx hb hco
    refine ok_value rfl fun ρ F a w hM _=>?_
    have h1:=(hM.ev x).1
    rw [hx] at h1
    have h2:=RV_ptr h1
    have hgood:=RV_ptr_good h1
    obtain ⟨ad,hs,hg⟩:=hgood
    rw [hg p rfl] at h2
    refine ⟨q.val ρ,?_,RV_of_ptr (Ptr.good_of ⟨ad,hs,hg⟩ hb),fun b hb'=>?_⟩
    ·simp only [execOp,ho,h2,Sem.run_bind,run_fieldAt hf hm,Result.andThen_ok,Sem.run_pure,hg q hb,add_add hs,hco]
    ·have hr:=(hM.ev x).2
     rw [hx] at hr
     refine hr b ?_
     have hb':b∈[q.b]:=hb'
     show b∈[p.b]
     rw [← hb]; exact hb'
   split
   ·rename_i p hx
    split
    ·rename_i hes
     have hes:=Nat.eq_of_beq_eq_true hes
     exact key p _ hx rfl (by simp only [Ptr.co,hes]; omega)
    ·exact key p _ hx rfl (by simp only [Ptr.co]; omega)
   ·rename_i ty y off' hx
    refine ok_value rfl fun ρ F a w hM _=>?_
    have h1:=(hM.ev x).1
    rw [hx] at h1
    obtain ⟨ad,cc,h1,h2,h3,h4,h5,h6⟩:=h1
    refine ⟨.pointer (some (ad.add (off'+off))),?_,⟨ad,cc,rfl,h2,h3,h4,h5,h6⟩,fun b hb=>by cases hb⟩
    simp only [execOp,ho,h1,Sem.run_bind,run_fieldAt hf hm,Result.andThen_ok,Sem.run_pure,add_add h2]
   ·exact bad_ok
  ·exact bad_ok
theorem run_part {P:Program} {w:World} {t:TypeId} {ty:Ty} (hty:tyOk P t ty=true) {cs:Array Value} {pre cc post:List Value} (hc:cs.toList=pre++cc++post) (hl:cc.length=ty.size) :
  (part t cs pre.length).run P w=.ok (mkV ty cc) w:=by
 obtain ⟨i,d,hi,hs,hd,hagg⟩:=tyOk_sound hty
 have hisagg:(isAgg t).run P w=.ok ty.agg w:=by
  unfold isAgg
  rw [Sem.run_bind,run_underlying hd w]
  rw [← hagg]
  cases d <;> rfl
 have hcs:cs=(pre++cc++post).toArray:=by rw [← hc]
 unfold part
 rw [Sem.run_bind,hisagg,Result.andThen_ok]
 cases ha:ty.agg with
 | true =>
  have e:cs.extract pre.length (pre.length+ty.size)=cc.toArray:=by
   rw [hcs,← hl]
   simp
  simp [sizeOf,typeInfo,hi,hs,mkV,ha,e]
 | false =>
  have h1:ty.size=1:=by cases ty <;> simp [Ty.agg] at ha <;> rfl
  have hcl:cc.length=1:=by rw [hl,h1]
  match cc,hcl with
  | [v],_ =>
   have e:cs[pre.length]?=some v:=by rw [hcs]; simp
   simp [e,mkV,ha]
theorem ok_field {t:TypeId} {x:Operand} {f:Nat} (ho:o.op=.field t x f) (hT:TOk cx.P c):OpOk cx o s nid (pField cx.P c t (s.ev x) f):=by
 unfold pField
 split
 ·exact bad_ok
 ·rename_i off ft hf
  split
  ·exact bad_ok
  ·rename_i ty hfi
   have hty:=hT _ _ (find_mem hfi)
   obtain ⟨fs,fd,g1,g2,g3,g4⟩:=fieldOf_sound hf
   split
   ·rename_i p q y hx
    split
    ·rename_i z hz
     refine ok_value rfl fun ρ F a w hM _=>?_
     have h1:=hM.ev x
     rw [hx] at h1
     obtain ⟨⟨cs,h2,h3⟩,h4⟩:=h1
     obtain ⟨pre,cc,post,h5,h6,h7⟩:=comp_sound h3 hz
     have hag:a.eval x=.agg cs.toArray:=h2
     have hp:=run_part (P:=cx.P) (w:=w) hty (cs:=cs.toArray) (by simpa using h5) h7.length
     rw [h6] at hp
     subst g3
     subst g4
     refine ⟨mkV ty cc,?_,⟨cc,rfl,h7⟩,fun b hb=>h4 b (refs_comp hz b hb)⟩
     simp [execOp,ho,hag,Instr.field,run_underlying g1,g2,asAgg,hp]
    ·exact bad_ok
   ·exact bad_ok
end
end Go.Sx
namespace Go.Sx
section
variable {cx:Cx} {s:St} {o:Oper} {nid:Nat} {c:Ctx}
theorem ev_int {ρ:Nat→Value} {F:Nat→Prop} {a:Act} {w:World} {k:IntKind} {n:Int} {y:Operand} (hM:M cx ρ F s a w) (hy:s.ev y=.val (.int k) n):a.eval y=.int k n:=by
 have h1:=(hM.ev y).1
 rw [hy] at h1
 exact RV_int h1
theorem ok_indexArr {t:TypeId} {x y:Operand} (ho:o.op=.indexAddr t x y) {k:IntKind} (n:Int) (hy:s.ev y=.val (.int k) n) {len:Nat} {elem:TypeId} (p:Ptr)
  (hu:cx.P.underlying t=some (.array len elem)) (hx:s.ev x=.val .ptr p) (hes1:p.es=0) (hes2:p.inner=0) {m:Nat} (hm:(cx.P.info? elem).map (·.size)=some (m+1)) :
  OpOk cx o s nid ⟨.val .ptr ⟨p.b,p.off,n,m+1,0⟩,[],some (inR n (len:Int))⟩:=by
 obtain ⟨i,hi,hsi⟩:=Option.map_eq_some_iff.1 hm
 refine ok_value rfl fun ρ F a w hM hob=>?_
 have h1:=(hM.ev x).1
 rw [hx] at h1
 have h2:=RV_ptr h1
 obtain ⟨ad,hs,hg⟩:=RV_ptr_good h1
 rw [hg p rfl] at h2
 refine ⟨_,?_,RV_of_ptr (p:=⟨p.b,p.off,n,m+1,0⟩) ⟨ad,hs,fun q hq=>hg q hq⟩,fun b hb=>by
  have hr:=(hM.ev x).2
  rw [hx] at hr
  exact hr b hb⟩
 have hco:(⟨p.b,p.off,n,m+1,0⟩:Ptr).co=p.co+n.toNat*(m+1):=by simp only [Ptr.co,hes1,hes2]; omega
 rw [hg ⟨p.b,p.off,n,m+1,0⟩ rfl,hco,← add_add hs]
 have hob1:0≤n:=hob.1
 have hob2:n<(len:Int):=hob.2
 simp [execOp,ho,h2,ev_int hM hy,Instr.indexAt,asIntOf,run_underlying hu,Instr.sureAddr,hob1,hob2,sizeOf,typeInfo,hi,hsi]
theorem ok_indexDeep {t:TypeId} {x y:Operand} (ho:o.op=.indexAddr t x y) {k:IntKind} (n:Int) (hy:s.ev y=.val (.int k) n) {elem:TypeId} {e:Ty} (l:List e.den)
  (hu:cx.P.underlying t=some (.slice elem)) (hx:s.ev x=.val (.slice e) l) {m:Nat} (hm:(cx.P.info? elem).map (·.size)=some (m+1)) (hes:e.size=m+1) :
  OpOk cx o s nid ⟨.imm e (l.getD n.toNat e.zero) 0,[],some (inR n (l.length:Int))⟩:=by
 obtain ⟨i,hi,hsi⟩:=Option.map_eq_some_iff.1 hm
 refine ok_value rfl fun ρ F a w hM hob=>?_
 have h1:=(hM.ev x).1
 rw [hx] at h1
 obtain ⟨cs,h2,A,cap,rfl,hcap,h3⟩:=h1
 have h2:a.eval x=.slice A l.length cap:=h2
 have hob1:0≤n:=hob.1
 have hob2:n<(l.length:Int):=hob.2
 have hlt:n.toNat<l.length:=by omega
 rcases h3 with h3 | ⟨ad,rfl,h4,h5,h6,h7⟩
 ·rw [h3] at hlt; simp at hlt
 ·have hx':l[n.toNat]?=some (l.getD n.toNat e.zero):=by simp [List.getD,hlt]
  obtain ⟨cc,h8,h9⟩:=h7 n.toNat _ hx'
  have hsp:∀ q,(ad.add q).spot=none:=fun q=>by unfold Addr.add; split <;> first | rfl | exact h4
  have hbl:∀ q,(ad.add q).block=ad.block:=fun q=>by unfold Addr.add; split <;> rfl
  refine ⟨.pointer (some (ad.add (n.toNat*(m+1)))),?_,⟨ad.add (n.toNat*e.size),cc,?_,hsp _,?_,?_,h8,h9⟩,fun b hb=>by cases hb⟩
  ·simp [execOp,ho,h2,ev_int hM hy,Instr.indexAt,asIntOf,run_underlying hu,hob1,hob2,sizeOf,typeInfo,hi,hsi]
  ·rw [hes,add_add h4]; rfl
  ·rw [hbl]; exact h5
  ·rw [hbl]; exact h6
theorem ok_indexOwn {t:TypeId} {x y:Operand} (ho:o.op=.indexAddr t x y) {k:IntKind} (n:Int) (hy:s.ev y=.val (.int k) n) {elem tid:TypeId} {e:Ty} (l:List e.den) (b:Nat)
  (hu:cx.P.underlying t=some (.slice elem)) (hx:s.ev x=.val .own b) (hk:s.hp b=some (.row e l tid)) {m:Nat} (hm:(cx.P.info? elem).map (·.size)=some (m+1)) :
  OpOk cx o s nid ⟨.val .ptr ⟨b,0,n,m+1,0⟩,[],some (inR n (l.length:Int))⟩:=by
 obtain ⟨i,hi,hsi⟩:=Option.map_eq_some_iff.1 hm
 refine ok_value rfl fun ρ F a w hM hob=>?_
 have h1:=(hM.ev x).1
 rw [hx] at h1
 have h2:=RV_own h1
 have hob1:0≤n:=hob.1
 have hob2:n<(l.length:Int):=hob.2
 obtain ⟨g,cap,cur,xs,rest,hv,_⟩:=row_cells (hM.blks b _ hk) (by omega)
 have hgood:(⟨b,0,n,m+1,0⟩:Ptr).good ρ:=⟨⟨g,0,none⟩,rfl,fun q hq=>by unfold Ptr.val; rw [hq,hv]⟩
 refine ⟨_,?_,RV_of_ptr hgood,fun b' hb=>by
  have hr:=(hM.ev x).2
  rw [hx] at hr
  exact hr b' hb⟩
 have e1:(⟨b,0,n,m+1,0⟩:Ptr).val ρ=.pointer (some ((⟨g,0,none⟩:Addr).add (n.toNat*(m+1)))):=by
  unfold Ptr.val
  rw [show (⟨b,0,n,m+1,0⟩:Ptr).b=b from rfl,hv]
  simp only [Ptr.co,Nat.zero_add,Nat.add_zero]
 rw [e1]
 rw [hv] at h2
 simp [execOp,ho,h2,ev_int hM hy,Instr.indexAt,asIntOf,run_underlying hu,hob1,hob2,sizeOf,typeInfo,hi,hsi]
theorem ok_indexSuf {t:TypeId} {x y:Operand} (ho:o.op=.indexAddr t x y) {k:IntKind} (n:Int) (hy:s.ev y=.val (.int k) n) {elem:TypeId} {e:Ty} (l:List e.den) {tid:TypeId} (b lo:Nat)
  (hu:cx.P.underlying t=some (.slice elem)) {m:Nat} (hx:s.ev x=.suf b lo (m+1)) (hk:s.hp b=some (.row e l tid)) (hm:(cx.P.info? elem).map (·.size)=some (m+1)) :
  OpOk cx o s nid ⟨.val .ptr ⟨b,0,ofs lo n,m+1,0⟩,[],some (inR n ((l.length - lo:Nat):Int))⟩:=by
 obtain ⟨i,hi,hsi⟩:=Option.map_eq_some_iff.1 hm
 refine ok_value rfl fun ρ F a w hM hob=>?_
 have h1:=(hM.ev x).1
 rw [hx] at h1
 have h2:a.eval x=sufV (ρ b) lo (m+1):=h1
 have hob1:0≤n:=hob.1
 have hob2:n<((l.length - lo:Nat):Int):=hob.2
 obtain ⟨g,cap,cur,xs,rest,hv,hcap⟩:=row_cells (hM.blks b _ hk) (by omega)
 have hcl:l.length≤cap:=by
  obtain ⟨xs,hro,_⟩:=hM.blks b _ hk
  rcases hro.2 with ⟨A0,h,h0⟩ | ⟨g',cap',cur',h,_,_,_,h4,_⟩
  ·omega
  ·rw [hv] at h
   simp only [Value.slice.injEq] at h
   obtain ⟨_,_,rfl⟩:=h
   exact h4
 have hgood:(⟨b,0,ofs lo n,m+1,0⟩:Ptr).good ρ:=⟨⟨g,0,none⟩,rfl,fun q hq=>by unfold Ptr.val; rw [hq,hv]⟩
 refine ⟨_,?_,RV_of_ptr hgood,fun b' hb=>by
  have hr:=(hM.ev x).2
  rw [hx] at hr
  exact hr b' hb⟩
 have e1:(⟨b,0,ofs lo n,m+1,0⟩:Ptr).val ρ=.pointer (some ((⟨g,0,none⟩:Addr).add ((ofs lo n).toNat*(m+1)))):=by
  unfold Ptr.val
  rw [show (⟨b,0,ofs lo n,m+1,0⟩:Ptr).b=b from rfl,hv]
  simp only [Ptr.co,Nat.zero_add,Nat.add_zero]
 rw [e1]
 rw [hv] at h2
 have hne:¬ cap=lo:=by omega
 have h2:a.eval x=.slice (some ⟨g,lo*(m+1),none⟩) (l.length - lo) (cap - lo):=by
  rw [h2]
  show Value.slice (if cap=lo then _ else _) _ _=_
  rw [if_neg hne]
  show Value.slice (some ((⟨g,0,none⟩:Addr).add (lo*(m+1)))) _ _=_
  rw [add_none,Nat.zero_add]
 have e2:((⟨g,lo*(m+1),none⟩:Addr).add (n.toNat*(m+1)))=(⟨g,0,none⟩:Addr).add ((ofs lo n).toNat*(m+1)):=by
  rw [add_none,add_none,← Nat.add_mul,Nat.zero_add]
  unfold ofs
  congr 2
  omega
 rw [← e2]
 simp [execOp,ho,h2,ev_int hM hy,Instr.indexAt,asIntOf,run_underlying hu,hob1,hob2,sizeOf,typeInfo,hi,hsi]
theorem ok_indexAddr {hp:Nat→Option Blk} (hhp:∀ b k,hp b=some k→s.hp b=some k) {t:TypeId} {x y:Operand} (ho:o.op=.indexAddr t x y) :
  OpOk cx o s nid (pIndexAddr cx.P hp t (s.ev x) (s.ev y)):=by
 unfold pIndexAddr
 split
 ·rename_i k n hy
  split
  ·rename_i len elem p hu hx
   split
   ·rename_i hes
    simp only [Bool.and_eq_true] at hes
    split
    ·rename_i m hm
     exact ok_indexArr ho n hy p hu hx (Nat.eq_of_beq_eq_true hes.1) (Nat.eq_of_beq_eq_true hes.2) hm
    ·exact bad_ok
   ·exact bad_ok
  ·rename_i elem e l hu hx
   split
   ·rename_i m hm
    split
    ·rename_i hes
     exact ok_indexDeep ho n hy l hu hx hm (Nat.eq_of_beq_eq_true hes)
    ·exact bad_ok
   ·exact bad_ok
  ·rename_i elem b hu hx
   split
   ·rename_i e l tid hk
    split
    ·rename_i m hm
     split
     ·exact ok_indexOwn ho n hy l b hu hx (hhp _ _ hk) hm
     ·exact bad_ok
    ·exact bad_ok
   ·exact bad_ok
  ·rename_i elem b lo k' hu hx
   split
   ·rename_i e l tid hk
    split
    ·rename_i m hm
     split
     ·rename_i hb
      simp only [Bool.and_eq_true] at hb
      obtain rfl:=Nat.eq_of_beq_eq_true hb.2
      exact ok_indexSuf ho n hy l b lo hu hx (hhp _ _ hk) hm
     ·exact bad_ok
    ·exact bad_ok
   ·exact bad_ok
  ·exact bad_ok
 ·exact bad_ok
theorem ok_un {op:UnOp} {xt:TypeId} {x:Operand} (ho:o.op=.unOp op xt x):OpOk cx o s nid (pUn op (s.ev x)):=by
 unfold pUn
 split
 ·rename_i k n hx
  refine ok_value rfl fun ρ F a w hM _=>?_
  have h1:=(hM.ev x).1
  rw [hx] at h1
  have h1:=RV_int h1
  exact ⟨.int k (ineg k n),by simp [execOp,ho,h1,Op.unary,Op.intArith,ineg],RV_of_int,fun b hb=>by cases hb⟩
 ·rename_i b hx
  refine ok_value rfl fun ρ F a w hM _=>?_
  have h1:=(hM.ev x).1
  rw [hx] at h1
  have h1:=RV_bool h1
  exact ⟨.bool (!b),by simp [execOp,ho,h1,Op.unary],RV_of_bool,fun b hb=>by cases hb⟩
 ·rename_i k n hx
  refine ok_value rfl fun ρ F a w hM _=>?_
  have h1:=(hM.ev x).1
  rw [hx] at h1
  have h1:=RV_int h1
  refine ⟨.int k (ibits .xor k (if k.signed then -1 else k.max) n),?_,RV_of_int,fun b hb=>by cases hb⟩
  simp only [execOp,ho,h1,Op.unary]
  rfl
 ·exact bad_ok
theorem ok_convert {src dst:TypeId} {x:Operand} (ho:o.op=.convert src dst x) (hs:(cx.P.underlying src).isSome=true):OpOk cx o s nid (pConvert cx.P dst (s.ev x)):=by
 unfold pConvert
 split
 ·rename_i k k' n hu hx
  refine ok_value rfl fun ρ F a w hM _=>?_
  have h1:=(hM.ev x).1
  rw [hx] at h1
  have h1:=RV_int h1
  obtain ⟨d,hd⟩:=Option.isSome_iff_exists.1 hs
  refine ⟨.int k (k.wrap n),?_,RV_of_int,fun b hb=>by cases hb⟩
  simp only [execOp,ho,h1,convert,Sem.run_bind,run_underlying hd,run_underlying hu,Result.andThen_ok]
  cases d <;> simp [Conv.intToInt]
 ·exact bad_ok
theorem ok_len {hp:Nat→Option Blk} (hhp:∀ b k,hp b=some k→s.hp b=some k) {t:TypeId} {ts:List TypeId} {x:Operand}
  (ho:o.op=.call { callee:=.builtin .len,args:=#[x],argTypes:=(t :: ts).toArray }):OpOk cx o s nid (pLen cx.P hp t (s.ev x)):=by
 unfold pLen
 split
 ·rename_i e e' l hu hx
  refine ok_value rfl fun ρ F a w hM _=>?_
  have h1:=(hM.ev x).1
  rw [hx] at h1
  obtain ⟨cs,h2,A,cap,rfl,_⟩:=h1
  have h2:a.eval x=.slice A (List.length l) cap:=h2
  exact ⟨.int .i64 (List.length l:Int),by simp [execOp,ho,resolve,invoke,builtin,Builtin.len_,h2,run_underlying hu,goInt],RV_of_int,fun b hb=>by cases hb⟩
 ·rename_i e b hu hx
  split
  ·rename_i e' l tid hk
   refine ok_value rfl fun ρ F a w hM _=>?_
   have h1:=(hM.ev x).1
   rw [hx] at h1
   have h2:=RV_own h1
   obtain ⟨xs,⟨_,hro⟩,_⟩:=hM.blks b _ (hhp _ _ hk)
   have h3:∃ A cap,ρ b=.slice A l.length cap:=by
    rcases hro with ⟨A0,h,h0⟩ | ⟨g,cap,cur,h,_⟩
    ·exact ⟨A0,0,by rw [h,h0]⟩
    ·exact ⟨_,_,h⟩
   obtain ⟨A,cap,h3⟩:=h3
   rw [h3] at h2
   exact ⟨.int .i64 (l.length:Int),by simp [execOp,ho,resolve,invoke,builtin,Builtin.len_,h2,run_underlying hu,goInt],RV_of_int,fun b hb=>by cases hb⟩
  ·exact bad_ok
 ·rename_i e b lo k hu hx
  split
  ·rename_i e' l tid hk
   refine ok_value rfl fun ρ F a w hM _=>?_
   have h1:=(hM.ev x).1
   rw [hx] at h1
   have h2:a.eval x=sufV (ρ b) lo k:=h1
   obtain ⟨xs,⟨_,hro⟩,_⟩:=hM.blks b _ (hhp _ _ hk)
   have h3:∃ A cap,ρ b=.slice A l.length cap:=by
    rcases hro with ⟨A0,h,h0⟩ | ⟨g,cap,cur,h,_⟩
    ·exact ⟨A0,0,by rw [h,h0]⟩
    ·exact ⟨_,_,h⟩
   obtain ⟨A,cap,h3⟩:=h3
   rw [h3] at h2
   have h2:a.eval x=.slice (if cap=lo then A else A.map (·.add (lo*k))) (l.length - lo) (cap - lo):=h2
   exact ⟨.int .i64 ((l.length - lo:Nat):Int),by simp [execOp,ho,resolve,invoke,builtin,Builtin.len_,h2,run_underlying hu,goInt],RV_of_int,fun b hb=>by cases hb⟩
  ·exact bad_ok
 ·rename_i e hu hx
  refine ok_value rfl fun ρ F a w hM _=>?_
  have h1:=(hM.ev x).1
  rw [hx] at h1
  have h1:a.eval x=.slice none 0 0:=h1
  exact ⟨.int .i64 (0:Int),by simp [execOp,ho,resolve,invoke,builtin,Builtin.len_,h1,run_underlying hu,goInt],RV_of_int,fun b hb=>by cases hb⟩
 ·rename_i n e hu
  refine ok_value rfl fun ρ F a w hM _=>?_
  exact ⟨.int .i64 (n:Int),by simp [execOp,ho,resolve,invoke,builtin,Builtin.len_,run_underlying hu,goInt],RV_of_int,fun b hb=>by cases hb⟩
 ·exact bad_ok
theorem run_min {P:Program} {ρ:Nat→Value} {w:World} {I:Nat→Prop}:∀ (avs:List AV) (vs:List Value) (av:AV) (v:Value),RV P ρ w I av v→vs.length=avs.length →
  (∀ (i:Nat) (x:AV) (y:Value),avs[i]?=some x→vs[i]?=some y→RV P ρ w I x y)→(pMin av avs).obP→∃ r,(vs.foldlM Builtin.min2 v).run P w=.ok r w∧RV P ρ w I (pMin av avs).v r∧(pMin av avs).v.refs=[]:=by
 intro avs
 induction avs with
 | nil =>
  intro vs av v h hl hall hob
  have:vs=[]:=List.eq_nil_of_length_eq_zero hl
  subst this
  unfold pMin at hob ⊢
  split at hob
  ·exact ⟨v,by simp,h,rfl⟩
  ·rename_i heq; cases heq
  ·exact hob.elim
 | cons x avs ih =>
  intro vs av v h hl hall hob
  cases vs with
  | nil=>simp at hl
  | cons y vs =>
   unfold pMin at hob ⊢
   split at hob
   ·rename_i heq; cases heq
   ·rename_i k x' k' y' l heq
    cases heq
    have h1:=RV_int h
    have h2:=RV_int (hall 0 _ y rfl rfl)
    subst h1 h2
    obtain ⟨r,hr,hv⟩:=ih vs (.val (.int k) (imin x' y')) (.int k (imin x' y')) RV_of_int (by simpa using hl) (fun i a b ha hb=>hall (i+1) a b (by simpa using ha) (by simpa using hb)) hob
    refine ⟨r,?_,hv⟩
    rw [List.foldlM_cons,Sem.run_bind]
    exact hr
   ·exact hob.elim
theorem run_max {P:Program} {ρ:Nat→Value} {w:World} {I:Nat→Prop}:∀ (avs:List AV) (vs:List Value) (av:AV) (v:Value),RV P ρ w I av v→vs.length=avs.length →
  (∀ (i:Nat) (x:AV) (y:Value),avs[i]?=some x→vs[i]?=some y→RV P ρ w I x y)→(pMax av avs).obP→∃ r,(vs.foldlM Builtin.max2 v).run P w=.ok r w∧RV P ρ w I (pMax av avs).v r∧(pMax av avs).v.refs=[]:=by
 intro avs
 induction avs with
 | nil =>
  intro vs av v h hl hall hob
  have:vs=[]:=List.eq_nil_of_length_eq_zero hl
  subst this
  unfold pMax at hob ⊢
  split at hob
  ·exact ⟨v,by simp,h,rfl⟩
  ·rename_i heq; cases heq
  ·exact hob.elim
 | cons x avs ih =>
  intro vs av v h hl hall hob
  cases vs with
  | nil=>simp at hl
  | cons y vs =>
   unfold pMax at hob ⊢
   split at hob
   ·rename_i heq; cases heq
   ·rename_i k x' k' y' l heq
    cases heq
    have h1:=RV_int h
    have h2:=RV_int (hall 0 _ y rfl rfl)
    subst h1 h2
    obtain ⟨r,hr,hv⟩:=ih vs (.val (.int k) (imax x' y')) (.int k (imax x' y')) RV_of_int (by simpa using hl) (fun i a b ha hb=>hall (i+1) a b (by simpa using ha) (by simpa using hb)) hob
    refine ⟨r,?_,hv⟩
    rw [List.foldlM_cons,Sem.run_bind]
    exact hr
   ·exact hob.elim
theorem pMin_ed:∀ (avs:List AV) (av:AV),(pMin av avs).ed=[]:=by
 intro avs
 induction avs with
 | nil=>intro av; unfold pMin; split <;> first | rfl | (rename_i heq; cases heq)
 | cons x avs ih=>intro av; unfold pMin; split <;> first | rfl | (rename_i heq; cases heq; exact ih _) | (rename_i heq; cases heq)
theorem pMax_ed:∀ (avs:List AV) (av:AV),(pMax av avs).ed=[]:=by
 intro avs
 induction avs with
 | nil=>intro av; unfold pMax; split <;> first | rfl | (rename_i heq; cases heq)
 | cons x avs ih=>intro av; unfold pMax; split <;> first | rfl | (rename_i heq; cases heq; exact ih _) | (rename_i heq; cases heq)
theorem evs_ok {ρ:Nat→Value} {F:Nat→Prop} {a:Act} {w:World} (hM:M cx ρ F s a w) (xs:List Operand) :
  ∀ (i:Nat) (x:AV) (y:Value),(xs.map s.ev)[i]?=some x→(xs.map a.eval)[i]?=some y→RV cx.P ρ w (cx.I ρ s) x y:=by
 intro i x y hx hy
 rw [List.getElem?_map] at hx hy
 obtain ⟨z,hz,rfl⟩:=Option.map_eq_some_iff.1 hx
 rw [hz] at hy
 obtain rfl:=Option.some.inj hy
 exact (hM.ev z).1
theorem ok_min {ts:Array TypeId} {x:Operand} {xs:List Operand} (ho:o.op=.call { callee:=.builtin .min,args:=(x :: xs).toArray,argTypes:=ts }) :
  OpOk cx o s nid (pMin (s.ev x) (xs.map s.ev)):=by
 refine ok_value (pMin_ed _ _) fun ρ F a w hM hob=>?_
 obtain ⟨r,hr,hv,hf⟩:=run_min (P:=cx.P) (xs.map s.ev) (xs.map a.eval) (s.ev x) (a.eval x) (hM.ev x).1 (by simp) (evs_ok hM xs) hob
 refine ⟨r,?_,hv,fun b hb=>by rw [hf] at hb; cases hb⟩
 simp [execOp,ho,resolve,invoke,builtin,Builtin.min_,hr]
theorem ok_max {ts:Array TypeId} {x:Operand} {xs:List Operand} (ho:o.op=.call { callee:=.builtin .max,args:=(x :: xs).toArray,argTypes:=ts }) :
  OpOk cx o s nid (pMax (s.ev x) (xs.map s.ev)):=by
 refine ok_value (pMax_ed _ _) fun ρ F a w hM hob=>?_
 obtain ⟨r,hr,hv,hf⟩:=run_max (P:=cx.P) (xs.map s.ev) (xs.map a.eval) (s.ev x) (a.eval x) (hM.ev x).1 (by simp) (evs_ok hM xs) hob
 refine ⟨r,?_,hv,fun b hb=>by rw [hf] at hb; cases hb⟩
 simp [execOp,ho,resolve,invoke,builtin,Builtin.max_,hr]
def pExtract (x:AV) (i:Nat):Perf :=
 match x with
 | .tup l=>match l[i]? with
  | some t=>.of (.val t.t t.x)
  | none=>.bad
 | _=>.bad
theorem ok_extract {x:Operand} {i:Nat} (ho:o.op=.extract x i):OpOk cx o s nid (pExtract (s.ev x) i):=by
 unfold pExtract
 split
 ·rename_i l hx
  split
  ·rename_i t ht
   refine ok_value rfl fun ρ F a w hM _=>?_
   have h1:=hM.ev x
   rw [hx] at h1
   obtain ⟨⟨vs,h2,h3,h4⟩,h5⟩:=h1
   have hlt:i<vs.length:=by rw [h3]; exact (List.getElem?_eq_some_iff.1 ht).1
   refine ⟨vs[i],?_,h4 i t _ ht (List.getElem?_eq_getElem hlt),fun b hb=>h5 b (List.mem_flatMap.2 ⟨t,List.mem_of_getElem? ht,hb⟩)⟩
   have:vs.toArray[i]?=some vs[i]:=by simp [hlt]
   simp [execOp,ho,h2,Instr.extract,hlt]
  ·exact bad_ok
 ·exact bad_ok
def pMakeFunc (fn:Fn) (first caps:List AV):Perf :=
 match fn,first,capPtrs caps with
 | .func f,[],some ps=>.of (.val .clo (f,ps))
 | _,_,_=>.bad
theorem capPtrs_sound {P:Program} {ρ:Nat→Value} {w:World} {I:Nat→Prop}:∀ {avs:List AV} {ps:List Ptr} {vs:List Value},capPtrs avs=some ps→vs.length=avs.length →
  (∀ (i:Nat) (x:AV) (y:Value),avs[i]?=some x→vs[i]?=some y→RV P ρ w I x y)→vs=ps.map (·.val ρ)∧∀ p∈ps,.val .ptr p∈avs∧p.good ρ:=by
 intro avs
 induction avs with
 | nil =>
  intro ps vs h hl _
  simp only [capPtrs] at h
  obtain rfl:=Option.some.inj h
  exact ⟨List.eq_nil_of_length_eq_zero hl,fun p hp=>by cases hp⟩
 | cons x avs ih =>
  intro ps vs h hl hall
  unfold capPtrs at h
  split at h
  ·rename_i heq; cases heq
  ·rename_i p l heq
   cases heq
   obtain ⟨ps',hps',rfl⟩:=Option.map_eq_some_iff.1 h
   cases vs with
   | nil=>simp at hl
   | cons y vs =>
    obtain ⟨h1,h2⟩:=ih hps' (by simpa using hl) (fun i a b ha hb=>hall (i+1) a b (by simpa using ha) (by simpa using hb))
    have h3:=hall 0 _ y rfl rfl
    refine ⟨by rw [RV_ptr h3,h1]; rfl,fun q hq=>?_⟩
    rcases List.mem_cons.1 hq with rfl | hq
    ·exact ⟨List.mem_cons_self,RV_ptr_good h3⟩
    ·exact ⟨List.mem_cons_of_mem _ (h2 q hq).1,(h2 q hq).2⟩
  ·cases h
theorem ok_makeFunc {fn:Fn} {first caps:Array Operand} (ho:o.op=.makeFunc fn first caps):OpOk cx o s nid (pMakeFunc fn (first.toList.map s.ev) (caps.toList.map s.ev)):=by
 unfold pMakeFunc
 split
 ·rename_i f ps hfirst hcaps
  refine ok_value rfl fun ρ F a w hM _=>?_
  obtain ⟨h1,h2⟩:=capPtrs_sound hcaps (vs:=caps.toList.map a.eval) (by simp) (evs_ok hM caps.toList)
  have hfe:first=#[]:=by
   have:first.toList=[]:=by simpa using hfirst
   exact Array.toList_eq_nil_iff.1 this
  subst hfe
  refine ⟨.func (.func f) #[] (ps.map (·.val ρ)).toArray,?_,⟨_,rfl,rfl⟩,fun b hb=>?_⟩
  ·have e:caps.map a.eval=(ps.map (·.val ρ)).toArray:=by rw [← h1,← Array.toList_map]
   simp [execOp,ho,Instr.makeFunc,e]
  ·have hb:b∈ps.map (·.b):=hb
   obtain ⟨p,hp,rfl⟩:=List.mem_map.1 hb
   obtain ⟨x,hx,he⟩:=List.mem_map.1 (h2 p hp).1
   have hr:=(hM.ev x).2
   rw [he] at hr
   exact hr _ (List.mem_singleton.2 rfl)
 ·exact bad_ok
end
end Go.Sx
namespace Go.Sx
def ren (g:List (Nat × Nat)) (b:Nat):Nat:=match find g b with
 | some c=>c
 | none=>b
def Ty.ren (g:Nat→Nat):(t:Ty)→t.den→t.den
 | .own,b=>g b
 | .ptr,p=>⟨g p.b,p.off,p.i,p.es,p.inner⟩
 | .clo,c=>(c.1,c.2.map fun p=>⟨g p.b,p.off,p.i,p.es,p.inner⟩)
 | .pair a b,x=>match a.deep && b.deep with
  | true=>x
  | false=>(a.ren g x.1,b.ren g x.2)
 | .arr _ e,(l:List e.den)=>match e.deep with
  | true=>l
  | false=>l.map (e.ren g)
 | .int _,x=>x
 | .bool,x=>x
 | .nil,x=>x
 | .nilf,x=>x
 | .unit,x=>x
 | .slice _,x=>x
 | .fn _ _,x=>x
 | .fn2 _ _ _,x=>x
 | .ref _,x=>x
theorem Ty.ren_deep (g:Nat→Nat):∀ {t:Ty} (x:t.den),t.deep=true→t.ren g x=x:=by
 intro t x h
 cases t with
 | pair a b=>simp only [Ty.deep] at h; simp only [Ty.ren,h]
 | arr n e=>simp only [Ty.deep] at h; simp only [Ty.ren,h]
 | own=>simp [Ty.deep] at h
 | ptr=>simp [Ty.deep] at h
 | clo=>simp [Ty.deep] at h
 | _=>rfl
theorem map_get {α β:Type} {f:α→β} {l:List α} {i:Nat} {y:α} (h:l[i]?=some y):(l.map f)[i]?=some (f y):=by rw [List.getElem?_map,h]; rfl
theorem Ptr.val_ren (ρ:Nat→Value) (g:Nat→Nat) (p:Ptr):(⟨g p.b,p.off,p.i,p.es,p.inner⟩:Ptr).val ρ=p.val (fun b=>ρ (g b)):=rfl
theorem Rd.ren {P:Program} {g:Nat→Nat}:∀ {t:Ty} {ρ:Nat→Value} {w:World} {I:Nat→Prop} {x:t.den} {c:List Value},Rd P t false ρ w I (t.ren g x) c→Rd P t false (fun b=>ρ (g b)) w I x c:=by
 have deep:∀ {t:Ty} {ρ:Nat→Value} {w:World} {I:Nat→Prop} {x:t.den} {c:List Value},t.deep=true→Rd P t false ρ w I (t.ren g x) c→Rd P t false (fun b=>ρ (g b)) w I x c:=by
  intro t ρ w I x c hd h
  rw [Ty.ren_deep g x hd] at h
  exact h.rho fun b hb=>by rw [Ty.deep_refs hd] at hb; cases hb
 intro t
 induction t with
 | pair a b iha ihb =>
  intro ρ w I x c h
  cases hd:(a.deep && b.deep) with
  | true=>exact deep hd h
  | false =>
   simp only [Ty.ren,hd] at h
   obtain ⟨c1,c2,rfl,h1,h2⟩:=h
   exact ⟨c1,c2,rfl,iha h1,ihb h2⟩
 | arr n e ih =>
  intro ρ w I x c h
  cases hd:e.deep with
  | true=>exact deep hd h
  | false =>
   simp only [Ty.ren,hd] at h
   obtain ⟨hl,css,rfl,hn,hall⟩:=h
   exact ⟨(List.length_map ..).symm.trans hl,css,rfl,hn,fun i y c hy hc=>ih (hall i _ c (map_get (l:=x) hy) hc)⟩
 | own=>intro ρ w I x c h; exact h
 | ptr =>
  intro ρ w I x c h
  obtain ⟨h1,ad,hs,hg⟩:=h
  exact ⟨h1,ad,hs,fun q hq=>by rw [← Ptr.val_ren]; exact hg _ (by show g q.b=g _; rw [hq])⟩
 | clo =>
  intro ρ w I x c h
  have h:c=[.func (.func x.1) #[] ((x.2.map fun p=>(⟨g p.b,p.off,p.i,p.es,p.inner⟩:Ptr)).map (·.val ρ)).toArray]:=h
  show c=_
  rw [h,List.map_map]
  rfl
 | unit=>intro ρ w I x c h; exact h
 | int k=>intro ρ w I x c h; exact h
 | bool=>intro ρ w I x c h; exact h
 | nil=>intro ρ w I x c h; exact h
 | nilf=>intro ρ w I x c h; exact h
 | slice e _=>intro ρ w I x c h; exact h
 | fn a b _ _=>intro ρ w I x c h; exact h
 | fn2 p a b _ _ _=>intro ρ w I x c h; exact h
 | ref t _=>intro ρ w I x c h; exact h
def AV.ren (g:Nat→Nat):AV→AV
 | .val t x=>.val t (t.ren g x)
 | .tup l=>.tup (l.map fun t=>⟨t.t,t.t.ren g t.x⟩)
 | .imm t x off=>.imm t x off
 | .nil=>.nil
 | .anyb p=>.anyb p
 | .win b lo n=>.win (g b) lo n
 | .suf b lo k=>.suf (g b) lo k
 | .undef=>.undef
theorem RV.ren {P:Program} {g:Nat→Nat} {ρ:Nat→Value} {w:World} {I:Nat→Prop} {av:AV} {v:Value} (h:RV P ρ w I (av.ren g) v):RV P (fun b=>ρ (g b)) w I av v:=by
 cases av with
 | val t x=>obtain ⟨c,rfl,hc⟩:=h; exact ⟨c,rfl,hc.ren⟩
 | imm t x off=>exact h
 | anyb p=>exact h
 | suf b lo k=>exact h
 | win b lo n =>
  obtain ⟨ad,cap,h1,h2,h3⟩:=h
  exact ⟨ad,cap,h1,fun q hq=>by rw [← Ptr.val_ren]; exact h2 _ (by show g q.b=g _; rw [hq]),h3⟩
 | nil=>exact h
 | undef=>trivial
 | tup l =>
  obtain ⟨vs,rfl,hl,hall⟩:=h
  refine ⟨vs,rfl,by simpa using hl,fun i t u ht hu=>?_⟩
  obtain ⟨c,hc,hr⟩:=hall i ⟨t.t,t.t.ren g t.x⟩ u (by rw [List.getElem?_map,ht]; rfl) hu
  exact ⟨c,hc,hr.ren⟩
def Blk.ren (g:Nat→Nat):Blk→Blk
 | .cells t x=>.cells t (t.ren g x)
 | .row e l tid=>.row e l tid
theorem RB.ren {P:Program} {g:Nat→Nat} {ρ:Nat→Value} {w:World} {I:Nat→Prop} {k:Blk} {v:Value} (h:RB P ρ w I v (k.ren g)):RB P (fun b=>ρ (g b)) w I v k:=by
 cases k with
 | cells t x =>
  obtain ⟨r,tid,cur,h1,h2,h3⟩:=h
  exact ⟨r,tid,cur,h1,h2,h3.ren⟩
 | row e l tid=>exact h
theorem Ptr.ren_val {ρ:Nat→Value} {g:Nat→Nat} {p:Ptr} {q:Ptr} (h:q.b=g p.b):q.val ρ=(⟨p.b,q.off,q.i,q.es,q.inner⟩:Ptr).val (fun b=>ρ (g b)):=by
 unfold Ptr.val
 simp only [h]
 rfl
theorem get_map {α β:Type} {f:α→β} {l:List α} {i:Nat} {z:β} (h:(l.map f)[i]?=some z):∃ y,l[i]?=some y∧z=f y:=by
 rw [List.getElem?_map] at h
 obtain ⟨y,h1,h2⟩:=Option.map_eq_some_iff.1 h
 exact ⟨y,h1,h2.symm⟩
theorem Rd.unren {P:Program} {g:Nat→Nat}:∀ {t:Ty} {ρ:Nat→Value} {w:World} {I:Nat→Prop} {x:t.den} {c:List Value},Rd P t false (fun b=>ρ (g b)) w I x c→Rd P t false ρ w I (t.ren g x) c:=by
 have deep:∀ {t:Ty} {ρ:Nat→Value} {w:World} {I:Nat→Prop} {x:t.den} {c:List Value},t.deep=true→Rd P t false (fun b=>ρ (g b)) w I x c→Rd P t false ρ w I (t.ren g x) c:=by
  intro t ρ w I x c hd h
  rw [Ty.ren_deep g x hd]
  exact h.rho fun b hb=>by rw [Ty.deep_refs hd] at hb; cases hb
 intro t
 induction t with
 | pair a b iha ihb =>
  intro ρ w I x c h
  cases hd:(a.deep && b.deep) with
  | true=>exact deep hd h
  | false =>
   obtain ⟨c1,c2,rfl,h1,h2⟩:=h
   simp only [Ty.ren,hd]
   exact ⟨c1,c2,rfl,iha h1,ihb h2⟩
 | arr n e ih =>
  intro ρ w I x c h
  cases hd:e.deep with
  | true=>exact deep hd h
  | false =>
   obtain ⟨hl,css,rfl,hn,hall⟩:=h
   simp only [Ty.ren,hd]
   refine ⟨(List.length_map ..).trans hl,css,rfl,hn,fun i y c hy hc=>?_⟩
   obtain ⟨z,hz,rfl⟩:=get_map (l:=x) hy
   exact ih (hall i z c hz hc)
 | own=>intro ρ w I x c h; exact h
 | ptr =>
  intro ρ w I x c h
  obtain ⟨h1,ad,hs,hg⟩:=h
  exact ⟨h1,ad,hs,fun q hq=>by rw [Ptr.ren_val (ρ:=ρ) (g:=g) (p:=x) hq]; exact hg _ rfl⟩
 | clo =>
  intro ρ w I x c h
  have h:c=[.func (.func x.1) #[] (x.2.map (·.val fun b=>ρ (g b))).toArray]:=h
  show c=[.func (.func x.1) #[] ((x.2.map fun p=>(⟨g p.b,p.off,p.i,p.es,p.inner⟩:Ptr)).map (·.val ρ)).toArray]
  rw [h,List.map_map]
  rfl
 | unit=>intro ρ w I x c h; exact h
 | int k=>intro ρ w I x c h; exact h
 | bool=>intro ρ w I x c h; exact h
 | nil=>intro ρ w I x c h; exact h
 | nilf=>intro ρ w I x c h; exact h
 | slice e _=>intro ρ w I x c h; exact h
 | fn a b _ _=>intro ρ w I x c h; exact h
 | fn2 p a b _ _ _=>intro ρ w I x c h; exact h
 | ref t _=>intro ρ w I x c h; exact h
theorem RB.unren {P:Program} {g:Nat→Nat} {ρ:Nat→Value} {w:World} {I:Nat→Prop} {k:Blk} {v:Value} (h:RB P (fun b=>ρ (g b)) w I v k):RB P ρ w I v (k.ren g):=by
 cases k with
 | cells t x =>
  obtain ⟨r,tid,cur,h1,h2,h3⟩:=h
  exact ⟨r,tid,cur,h1,h2,h3.unren⟩
 | row e l tid=>exact h
theorem Ty.ren_refs {g:Nat→Nat}:∀ {t:Ty} {x:t.den} {c:Nat},c∈t.refs (t.ren g x)→∃ b∈t.refs x,c=g b:=by
 have deep:∀ {t:Ty} {x:t.den} {c:Nat},t.deep=true→c∈t.refs (t.ren g x)→∃ b∈t.refs x,c=g b:=by
  intro t x c hd h
  rw [Ty.deep_refs hd] at h
  cases h
 intro t
 induction t with
 | pair a b iha ihb =>
  intro x c h
  cases hd:(a.deep && b.deep) with
  | true=>exact deep hd h
  | false =>
   simp only [Ty.ren,hd,Ty.refs,List.mem_append] at h ⊢
   rcases h with h | h
   ·obtain ⟨d,h1,h2⟩:=iha h
    exact ⟨d,.inl h1,h2⟩
   ·obtain ⟨d,h1,h2⟩:=ihb h
    exact ⟨d,.inr h1,h2⟩
 | arr n e ih =>
  intro x c h
  cases hd:e.deep with
  | true=>exact deep hd h
  | false =>
   have h:c∈(if e.deep then [] else (List.map (e.ren g) x).flatMap e.refs):=by
    have e1:(Ty.arr n e).ren g x=List.map (e.ren g) x:=by simp only [Ty.ren,hd]; rfl
    rw [e1] at h
    exact h
   rw [hd] at h
   obtain ⟨y,hy,hc⟩:=List.mem_flatMap.1 h
   obtain ⟨z,hz,rfl⟩:=List.mem_map.1 hy
   obtain ⟨d,h1,h2⟩:=ih hc
   refine ⟨d,?_,h2⟩
   show d∈(if e.deep then [] else List.flatMap e.refs x)
   rw [hd]
   exact List.mem_flatMap.2 ⟨z,hz,h1⟩
 | own =>
  intro x c h
  have h:c∈[g x]:=h
  exact ⟨x,List.mem_singleton.2 rfl,List.mem_singleton.1 h⟩
 | ptr =>
  intro x c h
  have h:c∈[g x.b]:=h
  exact ⟨x.b,List.mem_singleton.2 rfl,List.mem_singleton.1 h⟩
 | clo =>
  intro x c h
  have h:c∈(x.2.map fun p=>(⟨g p.b,p.off,p.i,p.es,p.inner⟩:Ptr)).map (·.b):=h
  rw [List.map_map] at h
  obtain ⟨p,hp,rfl⟩:=List.mem_map.1 h
  exact ⟨p.b,List.mem_map_of_mem (f:=fun p:Ptr=>p.b) hp,rfl⟩
 | _=>intro x c h; cases h
theorem Blk.ren_refs {g:Nat→Nat} {k:Blk} {c:Nat} (h:c∈(k.ren g).refs):∃ b∈k.refs,c=g b:=by
 cases k with
 | cells t x=>exact Ty.ren_refs h
 | row e l tid=>cases h
theorem find_of_map {α γ:Type} {g:Nat × α→γ} {h:Nat→γ}:∀ {l:List (Nat × α)},l.map g=l.map (fun x=>h x.1)→∀ {k:Nat} {x:α},find l k=some x→g (k,x)=h k:=by
 intro l
 induction l with
 | nil=>intro _ k x h; cases h
 | cons y l ih =>
  intro he k x hx
  simp only [List.map_cons,List.cons.injEq] at he
  unfold find at hx
  split at hx
  ·rename_i hk
   have hk:=Nat.eq_of_beq_eq_true hk
   obtain rfl:=Option.some.inj hx
   rw [← hk]; exact he.1
  ·exact ih he.2 hx
end Go.Sx
