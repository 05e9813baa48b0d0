import Derived.Test.YteibepmkkplpeaaGreatSxRun
namespace Go.Sx
theorem um {P:Program} {ρ:Nat→Value} {w:World} {I:Nat→Prop}:∀ {ty:Ty} {cs r:List Value},jb ty cs=some r→∃ c,cs=c++r∧Rd P ty false ρ w I ty.zero c:=by
 intro ty
 induction ty with
 | int k =>
  intro cs r h;simp only [jb] at h;unfold Ga at h;split at h
  ·split at h
   ·rename_i hd
    simp only [Bool.and_eq_true,decide_eq_true_eq] at hd;obtain ⟨rfl,rfl⟩:=hd;obtain rfl:=Option.some.inj h;exact ⟨[_],rfl,rfl⟩
   ·cases h
  ·cases h
 | bool =>
  intro cs r h;simp only [jb] at h;unfold EA at h;split at h
  ·obtain rfl:=Option.some.inj h
   exact ⟨[_],rfl,rfl⟩
  ·cases h
 | unit=>intro cs r h; simp only [jb] at h; obtain rfl:=Option.some.inj h; exact ⟨[],rfl,rfl⟩
 | pair a b iha ihb =>
  intro cs r h;simp only [jb] at h;obtain ⟨r1,h1,h2⟩:=Option.bind_eq_some_iff.1 h;obtain ⟨c1,rfl,hc1⟩:=iha h1;obtain ⟨c2,rfl,hc2⟩:=ihb h2;exact ⟨c1++c2,by simp,c1,c2,rfl,hc1,hc2⟩
 | nil =>
  intro cs r h;simp only [jb] at h;unfold tf at h;split at h
  ·obtain rfl:=Option.some.inj h
   exact ⟨[_],rfl,rfl⟩
  ·cases h
 | nilf =>
  intro cs r h;simp only [jb] at h;unfold D4 at h;split at h
  ·obtain rfl:=Option.some.inj h
   exact ⟨[_],rfl,rfl⟩
  ·cases h
 | slice e _ =>
  intro cs r h;simp only [jb] at h;unfold tf at h;split at h
  ·obtain rfl:=Option.some.inj h
   exact ⟨[_],rfl,none,0,rfl,Nat.le_refl _,.inl rfl⟩
  ·cases h
 | arr n e ih =>
  intro cs r h;simp only [jb] at h;have key:∀ (n:Nat) (r:List Value),(Nat.rec (some cs) (fun _ q=>q.bind (jb e)) n:Option (List Value))=some r →
    ∃ css:List (List Value),cs=css.flatten++r∧css.length=n∧∀ c∈css,Rd P e false ρ w I e.zero c:=by
   intro n
   induction n with
   | zero=>intro r h; obtain rfl:=Option.some.inj h; exact ⟨[],by simp,rfl,fun _ h=>by cases h⟩
   | succ n ihn =>
    intro r h;obtain ⟨r1,h1,h2⟩:=Option.bind_eq_some_iff.1 h;obtain ⟨css,rfl,hl,hall⟩:=ihn r1 h1;obtain ⟨c,rfl,hc⟩:=ih h2;refine ⟨css++[c],by simp,by simp [hl],fun c' hc'=>?_⟩;rcases List.mem_append.1 hc' with h | h
    ·exact hall c' h
    ·obtain rfl:=List.mem_singleton.1 h; exact hc
  obtain ⟨css,rfl,hl,hall⟩:=key n r h;refine ⟨css.flatten,rfl,by simp [Ty.zero],css,rfl,hl,fun i x c hx hc=>?_⟩;have:x=e.zero:=by
   have:=List.mem_of_getElem? hx;exact List.eq_of_mem_replicate this
  subst this;exact hall c (List.mem_of_getElem? hc)
 | _=>intro cs r h; simp [jb] at h
theorem gI {P:Program} {ρ:Nat→Value} {w:World} {I:Nat→Prop} {t:TypeId} {ty:Ty} (h:jU P t ty=true) :
  ∃ i z,P.info? t=some i∧i.zero=some z∧Rd P ty false ρ w I ty.zero z.cells.toList:=by
 unfold jU at h;split at h
 ·rename_i z hz
  obtain ⟨i,hi,hz⟩:=Option.bind_eq_some_iff.1 hz;split at h
  ·rename_i hr
   obtain ⟨c,hc,hR⟩:=um (P:=P) (ρ:=ρ) (w:=w) (I:=I) hr;refine ⟨i,z,hi,hz,?_⟩;rw [hc,List.append_nil];exact hR
  ·cases h
 ·cases h
theorem zJ:∀ (ty:Ty) {cs r:List Value},jb ty cs=some r→ty.refs ty.zero=[]:=by
 intro ty
 induction ty with
 | pair a b iha ihb =>
  intro cs r h;simp only [jb] at h;obtain ⟨r1,h1,h2⟩:=Option.bind_eq_some_iff.1 h;simp [Ty.refs,Ty.zero,iha h1,ihb h2]
 | arr n e ih =>
  intro cs r h;simp only [Ty.refs,Ty.zero];split
  ·rfl
  ·cases n with
   | zero=>rfl
   | succ n =>
    simp only [jb] at h;obtain ⟨r1,h1,h2⟩:=Option.bind_eq_some_iff.1 h;refine List.flatMap_eq_nil_iff.2 fun x hx=>?_
    rw [List.eq_of_mem_replicate hx];exact ih h2
 | own=>intro cs r h; simp [jb] at h
 | ptr=>intro cs r h; simp [jb] at h
 | clo=>intro cs r h; simp [jb] at h
 | _=>intros; rfl
theorem ko {P:Program} {t:TypeId} {ty:Ty} (h:jU P t ty=true):ty.refs ty.zero=[]:=by
 unfold jU at h;split at h
 ·split at h
  ·rename_i hr
   exact zJ ty hr
  ·cases h
 ·cases h
theorem hG (w:World) (o:Obj):Below w.heap.size w (w.alloc o):=(Below.refl _ _).alloc (Nat.le_refl _) _
theorem jS (w:World) (o:Obj):(w.alloc o).heap[w.heap.size]?=some o:=by
 show (w.heap.push o)[w.heap.size]?=_;simp
section
variable {cx:Cx} {s:St} {o:Oper} {nid:Nat} {c:Ctx}
theorem sC (ρ:Nat→Value) (nid r:Nat):(Ptr.mk nid 0 0 0 0).val (iu ρ nid (.pointer (some ⟨r,0,none⟩)))=.pointer (some ⟨r,0,none⟩):=by
 unfold Ptr.val;rw [dy];simp [Ptr.co,Addr.add]
theorem lN {ty:Ty} {x:ty.den} {p:fV} (hp:p=⟨.val .ptr ⟨nid,0,0,0,0⟩,[(nid,some (.cells ty x))],none⟩)
  (h:∀ (ρ:Nat→Value) (F:Nat→Prop) (a:Act) (w:World),M cx ρ F s a w→∃ cs tid,(execOp a.eval o).run cx.P w=.ok (.value (.pointer (some ⟨w.heap.size,0,none⟩))) (w.alloc (.cells cs tid)) ∧
   Rd cx.P ty false ρ w (cx.I ρ s) x cs.toList∧∀ b∈ty.refs x,F b):gE cx o s nid p:=by
 subst hp;intro ρ F a w next Q hM hnF _ hn;obtain ⟨cs,tid,hr,hx,hf⟩:=h ρ F a w hM;unfold Oper.wp;rw [hr];have hb:=hG w (.cells cs tid);have hpres:fQ (cx.I ρ s) w (w.alloc (.cells cs tid)):=⟨hb.size,fun r hr _=>hb.block r hr⟩
 have hnew:=M.new (k:=.cells ty x) (v:=.pointer (some ⟨w.heap.size,0,none⟩)) hM hnF s.ok hb (fun r hr=>by
   have:w.heap.size=r:=Option.some.inj hr;subst this
   exact ⟨Nat.le_refl _,by show w.heap.size<(w.heap.push _).size; simp⟩) rfl
  ⟨w.heap.size,tid,cs,rfl,jS _ _,hx.mono hpres (fun r hr hi=>.inl ⟨hi,hr⟩)⟩ hf
 refine hn _ _ _ (M.put hnew o.dst ?_ (fun b hb=>?_) s.ok)
 ·have:=@jm (iu ρ nid (.pointer (some ⟨w.heap.size,0,none⟩))) (w.alloc (.cells cs tid)) cx.P (cx.I (iu ρ nid (.pointer (some ⟨w.heap.size,0,none⟩))) ⟨s.sl,iu s.hp nid (some (.cells ty x)),s.ok⟩) ⟨nid,0,0,0,0⟩ ⟨⟨w.heap.size,0,none⟩,rfl,fun q hq=>by unfold Ptr.val; rw [show q.b=nid from hq,dy]⟩
  rw [sC] at this;exact this
 ·exact .inr (List.mem_singleton.1 hb)
theorem BD {t:TypeId} (ho:o.op=.alloc t):gE cx o s nid (tu cx.P c nid t):=by
 unfold tu;split
 ·exact bq
 ·rename_i ty _
  split
  ·rename_i hz
   refine lN rfl fun ρ F a w hM=>?_
   obtain ⟨i,z,hi,hzz,hR⟩:=gI (P:=cx.P) (ρ:=ρ) (w:=w) (I:=cx.I ρ s) hz;refine ⟨z.cells,t,?_,hR,fun b hb=>by rw [ko hz] at hb; cases hb⟩;simp [execOp,ho,Instr.alloc,zeroValue,typeInfo,hi,hzz,newVar,newRow]
  ·exact bq
theorem jr.cells {P:Program} {t:Ty} {ρ:Nat→Value} {w:World} {I:Nat→Prop} {x:t.den} {v:Value} (h:jr P t ρ w I x v) (hρ:∀ b,(ρ b).oneCell'=true) :
  Rd P t false ρ w I x v.cells.toList:=by
 obtain ⟨c,rfl,hc⟩:=h;rw [hc.FG hρ];exact hc
theorem Fz {t:TypeId} {x:Operand} (ho:o.op=.box t x):gE cx o s nid (Dd c nid t (s.ev x)):=by
 unfold Dd;split
 ·rename_i ty y hx
  refine lN rfl fun ρ F a w hM=>?_
  have h1:=hM.ev x;rw [hx] at h1;refine ⟨(a.eval x).cells,t,?_,jr.cells h1.1 hM.jy,h1.2⟩;simp [execOp,ho,Instr.box,newVar,newRow]
 ·rename_i hx
  split
  ·refine lN rfl fun ρ F a w hM=>?_
   have h1:=hM.ev x;rw [hx] at h1;have h2:a.eval x=.slice none 0 0:=h1.1;refine ⟨#[.slice none 0 0],t,?_,⟨none,0,rfl,Nat.le_refl _,.inl rfl⟩,fun b hb=>by cases hb⟩;simp [execOp,ho,Instr.box,newVar,newRow,h2,Value.cells]
  ·exact bq
 ·exact bq
end
end Go.Sx
namespace Go.Sx
theorem eN (r o n:Nat):(⟨r,o,none⟩:Addr).add n=⟨r,o+n,none⟩:=by unfold Addr.add; split <;> simp_all
theorem ga {w:World} {r tid:Nat} {cur:Array Value} {fr:Nat × Nat} {pre c post:List Value} (hg:w.heap[r]?=some (.cells cur tid fr)) (hc:cur.toList=pre++c++post) :
  ik w ⟨r,pre.length,none⟩ c:=by
 intro j v hv;rw [eN,cell_of_row w r _ cur tid fr hg,← Array.getElem?_toList,hc,List.append_assoc,List.getElem?_append_right (by omega)];have hj:j<c.length:=(List.getElem?_eq_some_iff.1 hv).1;rw [show pre.length+j - pre.length=j by omega,List.getElem?_append_left hj];exact hv
theorem mI {m:Nat}:∀ {css:List (List Value)} {i:Nat},(∀ c∈css,c.length=m)→i<css.length→∃ pre ci post,css[i]?=some ci∧css.flatten=pre++ci++post∧pre.length=i*m ∧
  ∀ ci',(css.set i ci').flatten=pre++ci'++post
 | [],i,_,hi=>by cases hi
 | c :: css,0,h,_=>⟨[],c,css.flatten,rfl,by simp,by simp,fun ci'=>by simp⟩
 | c :: css,i+1,h,hi=>by
  obtain ⟨pre,ci,post,h1,h2,h3,h4⟩:=mI (css:=css) (i:=i) (fun c' hc'=>h c' (List.mem_cons_of_mem _ hc')) (by simpa using hi);refine ⟨c++pre,ci,post,by simpa using h1,by simp [h2],?_,fun ci'=>by simp [h4 ci']⟩;rw [List.length_append,h3,h c List.mem_cons_self,Nat.add_mul];omega
section
variable {P:Program} {ρ:Nat→Value} {w:World} {I:Nat→Prop}
theorem elemAt {n:Nat} {e:Ty} {l:List e.den} {c:List Value} {i:Nat} (h:Rd P (.arr n e) false ρ w I l c) (hi:i<n) (z:e.den) :
  ∃ pre ci post,c=pre++ci++post∧pre.length=i*e.size∧Rd P e false ρ w I (l.getD i z) ci ∧
   ∀ y' ci',Rd P e false ρ w I y' ci'→Rd P (.arr n e) false ρ w I (l.set i y':List e.den) (pre++ci'++post):=by
 obtain ⟨hl,css,rfl,hn,hall⟩:=h;have hil:i<l.length:=by have:l.length=n:=hl; omega
 have hlen:∀ c∈css,c.length=e.size:=by
  intro c hc;obtain ⟨j,hj,rfl⟩:=List.mem_iff_getElem.1 hc;have hjl:j<l.length:=by have:l.length=n:=hl; omega
  exact (hall j l[j] css[j] (List.getElem?_eq_getElem hjl) (List.getElem?_eq_getElem hj)).length
 obtain ⟨pre,ci,post,h1,h2,h3,h4⟩:=mI (i:=i) hlen (by omega);refine ⟨pre,ci,post,h2,h3,?_,fun y' ci' hy'=>?_⟩
 ·have hx:l[i]?=some (l.getD i z):=by simp [List.getD,hil]
  exact hall i _ ci hx h1
 ·refine ⟨by rw [List.length_set]; exact hl,css.set i ci',(h4 ci').symm,by simp [hn],fun j x c' hx hc'=>?_⟩
  by_cases hij:i=j
  ·subst hij
   rw [List.getElem?_set_self hil] at hx;rw [List.getElem?_set_self (by omega)] at hc';obtain rfl:=Option.some.inj hx;obtain rfl:=Option.some.inj hc';exact hy'
  ·rw [List.getElem?_set_ne hij] at hx
   rw [List.getElem?_set_ne hij] at hc';exact hall j x c' hx hc'
theorem me {e:Ty} {l:List e.den} {tid:TypeId} {v:Value} (h:RB P ρ w I v (.row e l tid)) (hl:0<l.length) :
  ∃ g cap cur xs rest,v=.slice (some ⟨g,0,none⟩) l.length cap∧w.heap[g]?=some (.cells cur tid (0,0))∧l.length≤cap∧cap≤maxLen∧cur.size=cap*e.size ∧
   cur.toList=xs++rest∧xs.length=l.length*e.size∧Rd P (.arr l.length e) false ρ0 w I l xs:=by
 obtain ⟨xs,⟨h0,h1⟩,h2⟩:=h;rcases h1 with ⟨_,_,h1⟩ | ⟨g,cap,cur,rfl,_,_,hg,h3,h4,h5,h6⟩
 ·omega
 ·refine ⟨g,cap,cur,xs,cur.toList.drop (l.length*e.size),rfl,hg,h3,h4,h5,?_,h0,h2⟩
  rw [← h6,List.take_append_drop]
theorem l9:∀ {t:Ty} {x:t.den} {off:Nat} {tgt:Ty} {y:tgt.den},comp t x off tgt=some y→∀ b∈tgt.refs y,b∈t.refs x:=by
 intro t;have base:∀ (t:Ty) (x:t.den) (off:Nat) (tgt:Ty) (y:tgt.den),(match Nat.beq off 0 with | true=>Ty.lS t tgt x | false=>none)=some y→∀ b∈tgt.refs y,b∈t.refs x:=by
  intro t x off tgt y h b hb;split at h
  ·obtain ⟨rfl,rfl⟩:=Ty.fH h; exact hb
  ·cases h
 induction t with
 | pair p q ihp ihq =>
  intro x off tgt y h b hb;unfold comp at h;split at h
  ·obtain ⟨rfl,rfl⟩:=Ty.fH h; exact hb
  ·simp only [Ty.refs,List.mem_append]
   split at h
   ·exact .inl (ihp h b hb)
   ·exact .inr (ihq h b hb)
 | int k=>intro x off tgt y h; exact base _ x off tgt y h
 | bool=>intro x off tgt y h; exact base _ x off tgt y h
 | nil=>intro x off tgt y h; exact base _ x off tgt y h
 | nilf=>intro x off tgt y h; exact base _ x off tgt y h
 | unit=>intro x off tgt y h; exact base _ x off tgt y h
 | slice e _=>intro x off tgt y h; exact base _ x off tgt y h
 | arr n e _=>intro x off tgt y h; exact base _ x off tgt y h
 | own=>intro x off tgt y h; exact base _ x off tgt y h
 | ptr=>intro x off tgt y h; exact base _ x off tgt y h
 | clo=>intro x off tgt y h; exact base _ x off tgt y h
 | fn a b _ _=>intro x off tgt y h; exact base _ x off tgt y h
 | fn2 p a b _ _ _=>intro x off tgt y h; exact base _ x off tgt y h
 | ref t _=>intro x off tgt y h; exact base _ x off tgt y h
theorem oy:∀ {t:Ty} {x x':t.den} {off:Nat} {tgt:Ty} {y:tgt.den},pD t x off tgt y=some x'→∀ b∈t.refs x',b∈t.refs x∨b∈tgt.refs y:=by
 intro t;have base:∀ (t:Ty) (x x':t.den) (off:Nat) (tgt:Ty) (y:tgt.den),(match Nat.beq off 0 with | true=>Ty.lS tgt t y | false=>none)=some x'→∀ b∈t.refs x',b∈t.refs x∨b∈tgt.refs y:=by
  intro t x x' off tgt y h b hb;split at h
  ·obtain ⟨rfl,rfl⟩:=Ty.fH h; exact .inr hb
  ·cases h
 induction t with
 | pair p q ihp ihq =>
  intro x x' off tgt y h b hb;unfold pD at h;split at h
  ·obtain ⟨rfl,rfl⟩:=Ty.fH h; exact .inr hb
  ·simp only [Ty.refs,List.mem_append] at hb ⊢
   split at h
   ·obtain ⟨z,hz,rfl⟩:=Option.map_eq_some_iff.1 h
    rcases hb with hb | hb
    ·rcases ihp hz b hb with h | h
     ·exact .inl (.inl h)
     ·exact .inr h
    ·exact .inl (.inr hb)
   ·obtain ⟨z,hz,rfl⟩:=Option.map_eq_some_iff.1 h
    rcases hb with hb | hb
    ·exact .inl (.inl hb)
    ·rcases ihq hz b hb with h | h
     ·exact .inl (.inr h)
     ·exact .inr h
 | int k=>intro x x' off tgt y h; exact base _ x x' off tgt y h
 | bool=>intro x x' off tgt y h; exact base _ x x' off tgt y h
 | nil=>intro x x' off tgt y h; exact base _ x x' off tgt y h
 | nilf=>intro x x' off tgt y h; exact base _ x x' off tgt y h
 | unit=>intro x x' off tgt y h; exact base _ x x' off tgt y h
 | slice e _=>intro x x' off tgt y h; exact base _ x x' off tgt y h
 | arr n e _=>intro x x' off tgt y h; exact base _ x x' off tgt y h
 | own=>intro x x' off tgt y h; exact base _ x x' off tgt y h
 | ptr=>intro x x' off tgt y h; exact base _ x x' off tgt y h
 | clo=>intro x x' off tgt y h; exact base _ x x' off tgt y h
 | fn a b _ _=>intro x x' off tgt y h; exact base _ x x' off tgt y h
 | fn2 p a b _ _ _=>intro x x' off tgt y h; exact base _ x x' off tgt y h
 | ref t _=>intro x x' off tgt y h; exact base _ x x' off tgt y h
theorem nA {n:Nat} {e:Ty} {l:List e.den} {b:Nat} (h:b∈(Ty.arr n e).refs l):∃ x∈l,b∈e.refs x:=by
 simp only [Ty.refs] at h;split at h
 ·cases h
 ·exact List.mem_flatMap.1 h
theorem jO {n:Nat} {e:Ty} {l:List e.den} {b:Nat} {x:e.den} (hx:x∈l) (h:b∈e.refs x):b∈(Ty.arr n e).refs l:=by
 simp only [Ty.refs];split
 ·rename_i hd; rw [Ty.dD hd] at h; cases h
 ·exact List.mem_flatMap.2 ⟨x,hx,h⟩
theorem l7:∀ {t:Ty} {x:t.den} {off:Nat} {A:Fm},pF t x off=some A→(∀ b∈(Ty.arr A.n A.e).refs A.l,b∈t.refs x) ∧
  ∀ l' x',oq t x off A.e l'=some x'→∀ b∈t.refs x',b∈t.refs x∨b∈(Ty.arr A.n A.e).refs l':=by
 intro t
 induction t with
 | pair p q ihp ihq =>
  intro x off A h;unfold pF at h;split at h
  ·rename_i hlt
   obtain ⟨h1,h2⟩:=ihp h;refine ⟨fun b hb=>List.mem_append.2 (.inl (h1 b hb)),fun l' x' hx' b hb=>?_⟩;unfold oq at hx';rw [hlt] at hx';obtain ⟨z,hz,rfl⟩:=Option.map_eq_some_iff.1 hx';simp only [Ty.refs,List.mem_append] at hb ⊢;rcases hb with hb | hb
   ·rcases h2 l' z hz b hb with h | h
    ·exact .inl (.inl h)
    ·exact .inr h
   ·exact .inl (.inr hb)
  ·rename_i hlt
   obtain ⟨h1,h2⟩:=ihq h;refine ⟨fun b hb=>List.mem_append.2 (.inr (h1 b hb)),fun l' x' hx' b hb=>?_⟩;unfold oq at hx';rw [hlt] at hx';obtain ⟨z,hz,rfl⟩:=Option.map_eq_some_iff.1 hx';simp only [Ty.refs,List.mem_append] at hb ⊢;rcases hb with hb | hb
   ·exact .inl (.inl hb)
   ·rcases h2 l' z hz b hb with h | h
    ·exact .inl (.inr h)
    ·exact .inr h
 | arr n e _ =>
  intro x off A h;unfold pF at h;split at h
  ·rename_i ho
   obtain rfl:=Option.some.inj h;refine ⟨fun b hb=>hb,fun l' x' hx' b hb=>?_⟩;unfold oq at hx';rw [ho] at hx';obtain ⟨he,rfl⟩:=Ty.fH hx';exact .inr hb
  ·cases h
 | _=>intro x off A h; simp [pF] at h
theorem jK {k:dZ} {p:Ptr} {t:Ty} {y:t.den} {ob:Option Prop} (h:RB P ρ w I (ρ p.b) k) (hg:pA k p t=(some y,ob)) (hob:uo ob) :
  ∃ r tid cur pre c post,real (ρ p.b)=some r∧p.val ρ=.pointer (some ⟨r,pre.length,none⟩)∧w.heap[r]?=some (.cells cur tid (0,0))∧cur.toList=pre++c++post∧Rd P t false ρ w I y c∧(∀ b∈t.refs y,b∈k.refs):=by
 cases k with
 | cells ty x =>
  obtain ⟨r,tid,cur,hv,hcur,hx⟩:=h;unfold pA at hg;simp only at hg;split at hg
  ·rename_i hes
   have hes:=Nat.eq_of_beq_eq_true hes;simp only [Prod.mk.injEq] at hg;obtain ⟨pre,c,post,h1,h2,h3⟩:=jA hx hg.1;refine ⟨r,tid,cur,pre,c,post,by rw [hv]; rfl,?_,hcur,h1,h3,l9 hg.1⟩;unfold Ptr.val;rw [hv];simp only [eN,h2,Ptr.co,hes,Nat.mul_zero,Nat.add_zero,Nat.zero_add]
  ·split at hg
   ·rename_i A hA
    split at hg
    ·rename_i hes
     have hes:=Nat.eq_of_beq_eq_true hes;simp only [Prod.mk.injEq] at hg;obtain ⟨hc,rfl⟩:=hg;obtain ⟨pre,c,post,h1,h2,h3,_⟩:=qM hx hA;have hi:p.i.toNat<A.n:=by have:=hob.1; have:=hob.2; omega
     obtain ⟨pre2,ci,post2,h4,h5,h6,_⟩:=elemAt h3 hi A.e.zero;obtain ⟨pre3,c3,post3,h7,h8,h9⟩:=jA h6 hc;refine ⟨r,tid,cur,pre++pre2++pre3,c3,post3++post2++post,by rw [hv]; rfl,?_,hcur,by rw [h1,h4,h7]; simp,h9,fun b hb=>?_⟩
     rotate_left
     ·have hl:A.l.length=A.n:=h3.1
      have hlt:p.i.toNat<A.l.length:=by omega
      refine (l7 hA).1 b (jO (x:=A.l.getD p.i.toNat A.e.zero) ?_ (l9 hc b hb));simp only [List.getD,List.getElem?_eq_getElem hlt,Option.getD_some];exact List.getElem_mem hlt
     unfold Ptr.val;rw [hv];simp only [eN,Ptr.co,List.length_append,h2,h5,h8,hes,Nat.zero_add]
    ·cases hg
   ·cases hg
 | row e l tid =>
  unfold pA at hg;simp only at hg;split at hg
  ·rename_i hes
   simp only [Bool.and_eq_true] at hes;have hes1:=Nat.eq_of_beq_eq_true hes.1.1;have hes2:=Nat.eq_of_beq_eq_true hes.1.2;have hdeep:=hes.2;simp only [Prod.mk.injEq] at hg;obtain ⟨hc,rfl⟩:=hg;have hi:p.i.toNat<l.length:=by have:=hob.1; have:=hob.2; omega
   obtain ⟨g,cap,cur,xs,rest,hv,hcur,hcap,_,_,h1,h2,h3⟩:=me h (by omega);obtain ⟨pre2,ci,post2,h4,h5,h6,_⟩:=elemAt h3 hi e.zero;obtain ⟨pre3,c3,post3,h7,h8,h9⟩:=jA h6 hc;refine ⟨g,tid,cur,pre2++pre3,c3,post3++post2++rest,by rw [hv]; exact gO (by omega),?_,hcur,by rw [h1,h4,h7]; simp,h9.jy (fun b hb=>by rw [Ty.dD hdeep] at hb; cases hb),fun b hb=>by rw [Ty.dD hdeep] at hb; cases hb⟩;unfold Ptr.val;rw [hv];simp only [eN,Ptr.co,List.length_append,h5,h8,hes1,hes2,Nat.zero_add]
  ·cases hg
end
section
variable {cx:Cx} {s:St} {o:Oper} {nid:Nat} {c:Ctx}
def ss (P:Program) (c:Ctx):Prop:=∀ t ty,(t,ty)∈c.T→kC P t ty=true
theorem gB {P:Program} {t:TypeId} {ty:Ty} (h:kC P t ty=true) :
  ∃ i d,P.info? t=some i∧i.size=ty.size∧P.underlying t=some d∧(match d with | .struct _ | .array _ _=>true | _=>false)=ty.agg:=by
 unfold kC at h;split at h
 ·cases h
 ·rename_i i hi
  simp only [Bool.and_eq_true] at h;obtain ⟨h1,h2⟩:=h;split at h2
  ·rename_i hd; exact ⟨i,_,hi,Nat.eq_of_beq_eq_true h1,hd,by simp [h2]⟩
  ·rename_i hd; exact ⟨i,_,hi,Nat.eq_of_beq_eq_true h1,hd,by simp [h2]⟩
  ·rename_i d hn1 hn2 hd
   refine ⟨i,d,hi,Nat.eq_of_beq_eq_true h1,hd,?_⟩;have:ty.agg=false:=by simpa using h2
   rw [this];cases d <;> first | rfl | exact absurd rfl (hn1 _) | exact absurd rfl (hn2 _ _)
  ·cases h2
theorem kY {P:Program} {w:World} {t:TypeId} {ty:Ty} (hty:kC P t ty=true) {ad:Addr} {cs:List Value} (hc:ik w ad cs) (hl:cs.length=ty.size) :
  (Instr.loadAt t (.pointer (some ad))).run P w=.ok (jJ ty cs) w:=by
 obtain ⟨i,d,hi,hs,hd,hagg⟩:=gB hty;have hld:=run_loadCells_list (P:=P) w ad cs hc;have hisagg:(isAgg t).run P w=.ok ty.agg w:=by
  unfold isAgg;rw [Sem.run_bind,run_underlying hd w];rw [← hagg];cases d <;> rfl
 simp only [Instr.loadAt,Instr.sureAddr,loadVar,Sem.run_bind,Sem.run_pure,Result.andThen_ok,hisagg];cases ha:ty.agg with
 | true =>
  simp only [if_true,Sem.run_bind,sizeOf,typeInfo,run_program,Result.andThen_ok,hi,Sem.run_pure,hs,← hl,hld,jJ,ha]
 | false =>
  have h1:ty.size=1:=by cases ty <;> simp [Ty.agg] at ha <;> rfl
  have hcl:cs.length=1:=by rw [hl,h1]
  match cs,hcl with
  | [v],_ =>
   have hv:=hc 0 v rfl;have h0:ad.add 0=ad:=by simp [Addr.add]
   rw [h0] at hv;simp only [Bool.false_eq_true,if_false,run_load,hv,jJ,ha,List.headD]
theorem yq {hp:Nat→Option dZ} (hhp:∀ b k,hp b=some k→s.hp b=some k) {t:TypeId} {x:Operand} (ho:o.op=.load t x) (hT:ss cx.P c) :
  gE cx o s nid (rK c hp t (s.ev x)):=by
 unfold rK;split
 ·exact bq
 ·rename_i ty hf
  have hty:=hT _ _ (fh hf);split
  ·rename_i p hx
   split
   ·rename_i k hk
    split
    ·rename_i y ob hgp
     refine dI rfl fun ρ F a w hM hob=>?_
     have h1:=(hM.ev x).1;rw [hx] at h1;have h1:=jD h1;obtain ⟨r,tid,cur,pre,cc,post,_,h2,h3,h4,h5,h5r⟩:=jK (hM.blks p.b k (hhp _ _ hk)) hgp hob;have h6:ik w ⟨r,pre.length,none⟩ cc:=ga h3 h4;have hlen:cc.length=ty.size:=h5.length;refine ⟨jJ ty cc,?_,?_,?_⟩
     ·simp only [execOp,ho,h1,h2,Sem.run_bind,kY hty h6 hlen,Result.andThen_ok,Sem.run_pure]
     ·exact ⟨cc,rfl,h5⟩
     ·exact fun b hb=>(hM.brefs _ _ (hhp _ _ hk)).2 b (h5r b hb)
    ·exact bq
   ·exact bq
  ·rename_i t' y off hx
   split
   rotate_left
   ·exact bq
   rename_i hdeep;split
   ·rename_i z hz
    refine dI rfl fun ρ F a w hM _=>?_
    have h1:=(hM.ev x).1;rw [hx] at h1;obtain ⟨ad,cc,h1,h2,h3,h4,h5,h6⟩:=h1;obtain ⟨pre,c3,post,rfl,h8,h9⟩:=jA h6 hz;have h10:ik w (ad.add off) c3:=by
     intro j v hv;have hj:j<c3.length:=(List.getElem?_eq_some_iff.1 hv).1
     have:=h5 (off+j) v (by
      rw [List.append_assoc,List.getElem?_append_right (by omega),h8,show off+j - off=j by omega,List.getElem?_append_left hj]
      exact hv)
     have hadd:(ad.add off).add j=ad.add (off+j):=by
      obtain ⟨b,o',sp⟩:=ad;have h2:sp=none:=h2;subst h2;rw [eN,eN,eN,Nat.add_assoc]
     rw [hadd];exact this
    refine ⟨jJ ty c3,?_,?_,?_⟩
    ·simp only [execOp,ho,h1,Sem.run_bind,kY hty h10 h9.length,Result.andThen_ok,Sem.run_pure]
    ·exact ⟨c3,rfl,h9.jy (fun b hb=>by rw [Ty.dD hdeep] at hb; cases hb)⟩
    ·exact fun b hb=>by have hb:b∈ty.refs z:=hb; rw [Ty.dD hdeep] at hb; cases hb
   ·exact bq
  ·exact bq
end
end Go.Sx
namespace Go.Sx
section
variable {P:Program} {ρ:Nat→Value} {w:World} {I:Nat→Prop}
theorem Cz {k k':dZ} {p:Ptr} {t:Ty} {z:t.den} {ob:Option Prop} (h:u6 k p t z=(some k',ob)):k'.FN=k.FN:=by
 cases k with
 | cells ty x =>
  unfold u6 at h;simp only at h;split at h
  ·simp only [Prod.mk.injEq,Option.map_eq_some_iff] at h
   obtain ⟨⟨_,_,rfl⟩,_⟩:=h;rfl
  ·split at h
   ·split at h
    ·simp only [Prod.mk.injEq,Option.bind_eq_some_iff,Option.map_eq_some_iff] at h
     obtain ⟨⟨_,_,_,_,rfl⟩,_⟩:=h;rfl
    ·simp at h
   ·simp at h
 | row e l tid =>
  unfold u6 at h;simp only at h;split at h
  ·simp only [Prod.mk.injEq,Option.map_eq_some_iff] at h
   obtain ⟨⟨_,_,rfl⟩,_⟩:=h;rfl
  ·simp at h
theorem zt {k k':dZ} {p:Ptr} {t:Ty} {z:t.den} {ob:Option Prop} {cz:List Value} (h:RB P ρ w I (ρ p.b) k) (hg:u6 k p t z=(some k',ob)) (hob:uo ob) (hz:Rd P t false ρ w I z cz) :
  ∃ r tid cur pre c post,real (ρ p.b)=some r∧p.val ρ=.pointer (some ⟨r,pre.length,none⟩)∧w.heap[r]?=some (.cells cur tid (0,0))∧cur.toList=pre++c++post∧c.length=cz.length ∧
   (∀ w',fQ I w w'→w'.heap[r]?=some (.cells (pre++cz++post).toArray tid (0,0))→RB P ρ w' I (ρ p.b) k')∧(∀ b∈k'.refs,b∈k.refs∨b∈t.refs z):=by
 cases k with
 | cells ty x =>
  obtain ⟨r,tid,cur,hv,hcur,hx⟩:=h;unfold u6 at hg;simp only at hg;split at hg
  ·rename_i hes
   have hes:=Nat.eq_of_beq_eq_true hes;simp only [Prod.mk.injEq] at hg;obtain ⟨x',hx',rfl⟩:=Option.map_eq_some_iff.1 hg.1;obtain ⟨pre,c,post,h1,h2,h3,h4⟩:=kX hx hx' hz;refine ⟨r,tid,cur,pre,c,post,by rw [hv]; rfl,?_,hcur,h1,h3,fun w' hp hw'=>⟨r,tid,_,hv,hw',?_⟩,oy hx'⟩
   ·unfold Ptr.val
    rw [hv];simp only [eN,h2,Ptr.co,hes,Nat.mul_zero,Nat.add_zero,Nat.zero_add]
   ·exact h4.mono hp (fun _ _ h=>h)
  ·split at hg
   ·rename_i A hA
    split at hg
    ·rename_i hes
     have hes:=Nat.eq_of_beq_eq_true hes;simp only [Prod.mk.injEq] at hg;obtain ⟨hc,rfl⟩:=hg;obtain ⟨e',he',hc⟩:=Option.bind_eq_some_iff.1 hc;obtain ⟨x',hx',rfl⟩:=Option.map_eq_some_iff.1 hc;obtain ⟨pre,c,post,h1,h2,h3,h3'⟩:=qM hx hA;have hi:p.i.toNat<A.n:=by have:=hob.1; have:=hob.2; omega
     obtain ⟨pre2,ci,post2,h4,h5,h6,h6'⟩:=elemAt h3 hi A.e.zero;obtain ⟨pre3,c3,post3,h7,h8,h9,h10⟩:=kX h6 he' hz;have h11:=h3' _ x' _ hx' (h6' _ _ h10);refine ⟨r,tid,cur,pre++pre2++pre3,c3,post3++post2++post,by rw [hv]; rfl,?_,hcur,by rw [h1,h4,h7]; simp,h9,fun w' hp hw'=>⟨r,tid,_,hv,hw',?_⟩,fun b hb=>?_⟩
     ·unfold Ptr.val
      rw [hv];simp only [eN,Ptr.co,List.length_append,h2,h5,h8,hes,Nat.zero_add]
     ·have e:pre++pre2++pre3++cz++(post3++post2++post)=pre++(pre2++(pre3++cz++post3)++post2)++post:=by simp
      rw [e];exact h11.mono hp (fun _ _ h=>h)
     ·have hl:A.l.length=A.n:=h3.1
      have hlt:p.i.toNat<A.l.length:=by omega
      rcases (l7 hA).2 _ x' hx' b hb with hb | hb
      ·exact .inl hb
      ·obtain ⟨y,hy,hby⟩:=nA hb
       rcases List.mem_or_eq_of_mem_set hy with hy | rfl
       ·exact .inl ((l7 hA).1 b (jO hy hby))
       ·rcases oy he' b hby with h | h
        ·refine .inl ((l7 hA).1 b (jO (x:=A.l.getD p.i.toNat A.e.zero) ?_ h))
         simp only [List.getD,List.getElem?_eq_getElem hlt,Option.getD_some];exact List.getElem_mem hlt
        ·exact .inr h
    ·cases hg
   ·cases hg
 | row e l tid =>
  unfold u6 at hg;simp only at hg;split at hg
  ·rename_i hes
   simp only [Bool.and_eq_true] at hes;have hes1:=Nat.eq_of_beq_eq_true hes.1.1;have hes2:=Nat.eq_of_beq_eq_true hes.1.2;have hdeep:=hes.2;simp only [Prod.mk.injEq] at hg;obtain ⟨hc,rfl⟩:=hg;obtain ⟨e',he',rfl⟩:=Option.map_eq_some_iff.1 hc;have hi:p.i.toNat<l.length:=by have:=hob.1; have:=hob.2; omega
   obtain ⟨g,cap,cur,xs,rest,hv,hcur,hcap,hmax,hsz,h1,h2,h3⟩:=me h (by omega);obtain ⟨pre2,ci,post2,h4,h5,h6,h6'⟩:=elemAt h3 hi e.zero;obtain ⟨pre3,c3,post3,h7,h8,h9,h10⟩:=kX h6 he' (hz.jy (fun b hb=>by rw [Ty.dD hdeep] at hb; cases hb));have h11:=h6' _ _ h10;refine ⟨g,tid,cur,pre2++pre3,c3,post3++post2++rest,by rw [hv]; exact gO (by omega),?_,hcur,by rw [h1,h4,h7]; simp,h9,fun w' hp hw'=>?_,fun b hb=>by cases hb⟩
   ·unfold Ptr.val
    rw [hv];simp only [eN,Ptr.co,List.length_append,h5,h8,hes1,hes2,Nat.zero_add]
   ·have hlen:(pre2++(pre3++cz++post3)++post2).length=xs.length:=by
     rw [h4,h7]; simp [h9]
    refine ⟨pre2++(pre3++cz++post3)++post2,⟨by rw [hlen,h2,List.length_set],.inr ⟨g,cap,_,by rw [hv,List.length_set],by omega,Nat.zero_le _,hw',by rw [List.length_set]; exact hcap,hmax,?_,?_⟩⟩,?_⟩
    ·have:cur.size=cur.toList.length:=by simp
     rw [h1] at this;rw [← hsz,this];simp only [List.size_toArray,List.length_append,h4,h7,h9];omega
    ·have e:(pre2++pre3++cz++(post3++post2++rest))=(pre2++(pre3++cz++post3)++post2)++rest:=by simp
     simp only [e,List.length_set];rw [← h2,← hlen,List.take_left]
    ·rw [List.length_set]
     exact h11.mono hp (fun _ _ h=>h)
  ·cases hg
end
section
variable {cx:Cx} {s:St} {o:Oper} {nid:Nat} {c:Ctx}
theorem pe {P:Program} {w:World} {t:TypeId} {i:TypeInfo} (hi:P.info? t=some i) {r o:Nat} {cur:Array Value} {tid:TypeId} {v:Value} {pre cc post:List Value}
  (hg:w.heap[r]?=some (.cells cur tid (0,0))) (hcur:cur.toList=pre++cc++post) (ho:o=pre.length) (hl:cc.length=v.cells.size) (hs:v.cells.size=i.size) (h1:∀ u∈v.cells.toList,u.oneCell'=true) :
  (Instr.storeAt t (.pointer (some ⟨r,o,none⟩)) v).run P w=.ok () (w.setRow r (pre++v.cells.toList++post).toArray):=by
 subst ho;have hsz:cur.size=(pre++cc++post).length:=by rw [← hcur]; simp
 have hst:=run_storeCells_at P r pre.length tid v.cells.toList 0 cur w hg (by simp only [hsz,List.length_append,Array.length_toList]; omega) h1;have e:(cur.toList.take (pre.length+0)++v.cells.toList++cur.toList.drop (pre.length+0+v.cells.toList.length))=pre++v.cells.toList++post:=by
  have hl':cc.length=v.cells.toList.length:=by simpa using hl
  have e1:cur.toList.take (pre.length+0)=pre:=by rw [hcur,Nat.add_zero,List.append_assoc,List.take_left]
  have e2:cur.toList.drop (pre.length+0+v.cells.toList.length)=post:=by rw [hcur,Nat.add_zero,← hl',← List.length_append,List.drop_left]
  rw [e1,e2]
 rw [e] at hst;simp [Instr.storeAt,Instr.sureAddr,storeVar,sizeOf,typeInfo,hi,hs,hst]
theorem kR {P:Program} {ρ:Nat→Value} {w:World} {I:Nat→Prop} {t:Ty} {av:AV} {x:t.den} {v:Value} (h:RV P ρ w I av v) (hc:coe t av=some x):jr P t ρ w I x v∧∀ b∈t.refs x,b∈av.refs:=by
 unfold coe at hc;split at hc
 ·obtain ⟨rfl,rfl⟩:=Ty.fH hc
  exact ⟨h,fun b hb=>hb⟩
 ·split at hc
  ·obtain rfl:=Option.some.inj hc
   have h:v=.slice none 0 0:=h;subst h;exact ⟨⟨[.slice none 0 0],rfl,none,0,rfl,Nat.le_refl _,.inl rfl⟩,fun b hb=>by cases hb⟩
  ·have h:v=.slice none 0 0:=h
   subst h;exact ⟨⟨[.slice none 0 0],rfl,rfl⟩,fun b hb=>by cases hb⟩
  ·cases hc
 ·cases hc
theorem vB {hp:Nat→Option dZ} (hhp:∀ b k,hp b=some k→s.hp b=some k) {t:TypeId} {x y:Operand} (ho:o.op=.store t x y) (hT:ss cx.P c) :
  gE cx o s nid (oH c hp t (s.ev x) (s.ev y)):=by
 unfold oH;split
 ·exact bq
 ·rename_i ty hf
  have hty:=hT _ _ (fh hf);split
  ·rename_i p hx
   split
   ·rename_i k hk
    split
    ·rename_i z hz
     split
     ·rename_i k' ob hsp
      intro ρ F a w next Q hM hnF hob hn;have h1:=(hM.ev x).1;rw [hx] at h1;have h1:=jD h1;obtain ⟨h2,h3⟩:=kR (hM.ev y).1 hz;have h4:=jr.cells h2 hM.jy;obtain ⟨i,d,hi,hs,_,_⟩:=gB hty;obtain ⟨r,tid,cur,pre,cc,post,h5,h6,h7,h8,h9,h10,h11⟩:=zt (hM.blks p.b k (hhp _ _ hk)) hsp hob h4;have hrun:=pe (P:=cx.P) hi (v:=a.eval y) h7 h8 rfl (by simpa using h9) (by rw [hs,← h4.length]; simp) (h4.one hM.jy)
      have hset:=M.set hM s.ok (hhp _ _ hk) (k:=k') (w':=w.setRow r (pre++(a.eval y).cells.toList++post).toArray) rfl ⟨rfl,Nat.le_refl _⟩ rfl (by simp [World.setRow]) (fun q hq=>by
        exact setRow_other w r q _ (fun e=>hq (by rw [h5,e])))
       (h10 _ ⟨by simp [World.setRow],fun q _ hq=>setRow_other w r q _ (fun e=>hq.2 p.b k (hhp _ _ hk) (by rw [h5,e]))⟩ (setRow_heap w r cur _ tid _ h7))
       (fun b hb=>by
        rcases h11 b hb with h | h
        ·exact (hM.brefs _ _ (hhp _ _ hk)).2 b h
        ·exact (hM.ev y).2 b (h3 b h)) (Cz hsp)
      unfold Oper.wp;have:(execOp a.eval o).run cx.P w=.ok .skip (w.setRow r (pre++(a.eval y).cells.toList++post).toArray):=by
       simp only [execOp,ho,h1,h6,Sem.run_bind,hrun,Result.andThen_ok,Sem.run_pure]
      rw [this];exact hn ρ undef _ ((M.put hset o.dst (av:=.undef) trivial (fun b hb=>by cases hb) s.ok).jq (fun b hb=>.inl hb))
     ·exact bq
    ·exact bq
   ·exact bq
  ·exact bq
theorem kA {P:Program} {t:TypeId} {f off ft:Nat} (h:mi P t f=some (off,ft)):∃ fs fd,P.underlying t=some (.struct fs)∧fs[f]?=some fd∧fd.offset=off∧fd.type=ft:=by
 unfold mi at h;split at h
 ·rename_i fs hfs
  obtain ⟨fd,hfd,he⟩:=Option.map_eq_some_iff.1 h;simp only [Prod.mk.injEq] at he;exact ⟨fs,fd,hfs,hfd,he.1,he.2⟩
 ·cases h
theorem pd {P:Program} {w:World} {t:TypeId} {f off ft m:Nat} (h:mi P t f=some (off,ft)) (hs:(P.info? ft).map (·.size)=some (m+1)) (ad:Addr) :
  (Instr.fieldAt t (.pointer (some ad)) f).run P w=.ok (.pointer (some (ad.add off))) w:=by
 obtain ⟨fs,fd,h1,h2,h3,h4⟩:=kA h;obtain ⟨i,hi,hsi⟩:=Option.map_eq_some_iff.1 hs;subst h3;subst h4;simp [Instr.fieldAt,run_underlying h1,h2,Instr.sureAddr,fieldPlace,sizeOf,typeInfo,hi,hsi]
theorem add_add {ad:Addr} (h:ad.spot=none) (m n:Nat):(ad.add m).add n=ad.add (m+n):=by
 obtain ⟨b,o,sp⟩:=ad;have h:sp=none:=h;subst h;rw [eN,eN,eN,Nat.add_assoc]
theorem o0 {x:Operand} (ho:o.op=.nilCheck x) (h:(∃ t y off,s.ev x=.imm t y off)∨∃ p,s.ev x=.val .ptr p):gE cx o s nid (.of (s.ev x)):=by
 refine dI rfl fun ρ F a w hM _=>⟨a.eval x,?_,hM.ev x⟩;have h1:=(hM.ev x).1;rcases h with ⟨t,y,off,hx⟩ | ⟨p,hx⟩
 ·rw [hx] at h1
  obtain ⟨ad,c,h1,_⟩:=h1;simp [execOp,ho,h1]
 ·rw [hx] at h1
  obtain ⟨ad,_,hg⟩:=jQ h1;have h2:=jD h1;rw [hg p rfl] at h2;simp [execOp,ho,h2]
theorem Ptr.Dx {ρ:Nat→Value} {p q:Ptr} (h:p.kV ρ) (e:q.b=p.b):q.kV ρ:=by
 obtain ⟨ad,hs,hg⟩:=h;exact ⟨ad,hs,fun r hr=>hg r (hr.trans e)⟩
theorem tP {t:TypeId} {x:Operand} {f:Nat} (ho:o.op=.fieldAddr t x f):gE cx o s nid (kZ cx.P t (s.ev x) f):=by
 unfold kZ;split
 ·exact bq
 ·rename_i off ft hf
  split
  ·rename_i m hm
   have key:∀ (p q:Ptr),s.ev x=.val .ptr p→q.b=p.b→q.co=p.co+off→gE cx o s nid (.of (.val .ptr q)):=by
    intro p q hx hb hco;refine dI rfl fun ρ F a w hM _=>?_
    have h1:=(hM.ev x).1;rw [hx] at h1;have h2:=jD h1;have hgood:=jQ h1;obtain ⟨ad,hs,hg⟩:=hgood;rw [hg p rfl] at h2;refine ⟨q.val ρ,?_,jm (Ptr.Dx ⟨ad,hs,hg⟩ hb),fun b hb'=>?_⟩
    ·simp only [execOp,ho,h2,Sem.run_bind,pd hf hm,Result.andThen_ok,Sem.run_pure,hg q hb,add_add hs,hco]
    ·have hr:=(hM.ev x).2
     rw [hx] at hr;refine hr b ?_
     have hb':b∈[q.b]:=hb';show b∈[p.b];rw [← hb]; exact hb'
   split
   ·rename_i p hx
    split
    ·rename_i hes
     have hes:=Nat.eq_of_beq_eq_true hes;exact key p _ hx rfl (by simp only [Ptr.co,hes]; omega)
    ·exact key p _ hx rfl (by simp only [Ptr.co]; omega)
   ·rename_i ty y off' hx
    refine dI rfl fun ρ F a w hM _=>?_
    have h1:=(hM.ev x).1;rw [hx] at h1;obtain ⟨ad,cc,h1,h2,h3,h4,h5,h6⟩:=h1;refine ⟨.pointer (some (ad.add (off'+off))),?_,⟨ad,cc,rfl,h2,h3,h4,h5,h6⟩,fun b hb=>by cases hb⟩;simp only [execOp,ho,h1,Sem.run_bind,pd hf hm,Result.andThen_ok,Sem.run_pure,add_add h2]
   ·exact bq
  ·exact bq
theorem kE {P:Program} {w:World} {t:TypeId} {ty:Ty} (hty:kC P t ty=true) {cs:Array Value} {pre cc post:List Value} (hc:cs.toList=pre++cc++post) (hl:cc.length=ty.size) :
  (part t cs pre.length).run P w=.ok (jJ ty cc) w:=by
 obtain ⟨i,d,hi,hs,hd,hagg⟩:=gB hty;have hisagg:(isAgg t).run P w=.ok ty.agg w:=by
  unfold isAgg;rw [Sem.run_bind,run_underlying hd w];rw [← hagg];cases d <;> rfl
 have hcs:cs=(pre++cc++post).toArray:=by rw [← hc]
 unfold part;rw [Sem.run_bind,hisagg,Result.andThen_ok];cases ha:ty.agg with
 | true =>
  have e:cs.extract pre.length (pre.length+ty.size)=cc.toArray:=by
   rw [hcs,← hl];simp
  simp [sizeOf,typeInfo,hi,hs,jJ,ha,e]
 | false =>
  have h1:ty.size=1:=by cases ty <;> simp [Ty.agg] at ha <;> rfl
  have hcl:cc.length=1:=by rw [hl,h1]
  match cc,hcl with
  | [v],_ =>
   have e:cs[pre.length]?=some v:=by rw [hcs]; simp
   simp [e,jJ,ha]
theorem Cd {t:TypeId} {x:Operand} {f:Nat} (ho:o.op=.field t x f) (hT:ss cx.P c):gE cx o s nid (sZ cx.P c t (s.ev x) f):=by
 unfold sZ;split
 ·exact bq
 ·rename_i off ft hf
  split
  ·exact bq
  ·rename_i ty hfi
   have hty:=hT _ _ (fh hfi);obtain ⟨fs,fd,g1,g2,g3,g4⟩:=kA hf;split
   ·rename_i p q y hx
    split
    ·rename_i z hz
     refine dI rfl fun ρ F a w hM _=>?_
     have h1:=hM.ev x;rw [hx] at h1;obtain ⟨⟨cs,h2,h3⟩,h4⟩:=h1;obtain ⟨pre,cc,post,h5,h6,h7⟩:=jA h3 hz;have hag:a.eval x=.agg cs.toArray:=h2;have hp:=kE (P:=cx.P) (w:=w) hty (cs:=cs.toArray) (by simpa using h5) h7.length;rw [h6] at hp;subst g3;subst g4;refine ⟨jJ ty cc,?_,⟨cc,rfl,h7⟩,fun b hb=>h4 b (l9 hz b hb)⟩;simp [execOp,ho,hag,Instr.field,run_underlying g1,g2,asAgg,hp]
    ·exact bq
   ·exact bq
end
end Go.Sx
namespace Go.Sx
section
variable {cx:Cx} {s:St} {o:Oper} {nid:Nat} {c:Ctx}
theorem j9 {ρ:Nat→Value} {F:Nat→Prop} {a:Act} {w:World} {k:IntKind} {n:Int} {y:Operand} (hM:M cx ρ F s a w) (hy:s.ev y=.val (.int k) n):a.eval y=.int k n:=by
 have h1:=(hM.ev y).1;rw [hy] at h1;exact jt h1
theorem uK {t:TypeId} {x y:Operand} (ho:o.op=.indexAddr t x y) {k:IntKind} (n:Int) (hy:s.ev y=.val (.int k) n) {len:Nat} {elem:TypeId} (p:Ptr)
  (hu:cx.P.underlying t=some (.array len elem)) (hx:s.ev x=.val .ptr p) (hes1:p.es=0) (hes2:p.inner=0) {m:Nat} (hm:(cx.P.info? elem).map (·.size)=some (m+1)) :
  gE cx o s nid ⟨.val .ptr ⟨p.b,p.off,n,m+1,0⟩,[],some (jc n (len:Int))⟩:=by
 obtain ⟨i,hi,hsi⟩:=Option.map_eq_some_iff.1 hm;refine dI rfl fun ρ F a w hM hob=>?_
 have h1:=(hM.ev x).1;rw [hx] at h1;have h2:=jD h1;obtain ⟨ad,hs,hg⟩:=jQ h1;rw [hg p rfl] at h2
 refine ⟨_,?_,jm (p:=⟨p.b,p.off,n,m+1,0⟩) ⟨ad,hs,fun q hq=>hg q hq⟩,fun b hb=>by
  have hr:=(hM.ev x).2;rw [hx] at hr
  exact hr b hb⟩
 have hco:(⟨p.b,p.off,n,m+1,0⟩:Ptr).co=p.co+n.toNat*(m+1):=by simp only [Ptr.co,hes1,hes2]; omega
 rw [hg ⟨p.b,p.off,n,m+1,0⟩ rfl,hco,← add_add hs];have hob1:0≤n:=hob.1;have hob2:n<(len:Int):=hob.2;simp [execOp,ho,h2,j9 hM hy,Instr.indexAt,asIntOf,run_underlying hu,Instr.sureAddr,hob1,hob2,sizeOf,typeInfo,hi,hsi]
theorem tH {t:TypeId} {x y:Operand} (ho:o.op=.indexAddr t x y) {k:IntKind} (n:Int) (hy:s.ev y=.val (.int k) n) {elem:TypeId} {e:Ty} (l:List e.den)
  (hu:cx.P.underlying t=some (.slice elem)) (hx:s.ev x=.val (.slice e) l) {m:Nat} (hm:(cx.P.info? elem).map (·.size)=some (m+1)) (hes:e.size=m+1) :
  gE cx o s nid ⟨.imm e (l.getD n.toNat e.zero) 0,[],some (jc n (l.length:Int))⟩:=by
 obtain ⟨i,hi,hsi⟩:=Option.map_eq_some_iff.1 hm;refine dI rfl fun ρ F a w hM hob=>?_
 have h1:=(hM.ev x).1;rw [hx] at h1;obtain ⟨cs,h2,A,cap,rfl,hcap,h3⟩:=h1;have h2:a.eval x=.slice A l.length cap:=h2;have hob1:0≤n:=hob.1;have hob2:n<(l.length:Int):=hob.2;have hlt:n.toNat<l.length:=by omega
 rcases h3 with h3 | ⟨ad,rfl,h4,h5,h6,h7⟩
 ·rw [h3] at hlt; simp at hlt
 ·have hx':l[n.toNat]?=some (l.getD n.toNat e.zero):=by simp [List.getD,hlt]
  obtain ⟨cc,h8,h9⟩:=h7 n.toNat _ hx';have hsp:∀ q,(ad.add q).spot=none:=fun q=>by unfold Addr.add; split <;> first | rfl | exact h4
  have hbl:∀ q,(ad.add q).block=ad.block:=fun q=>by unfold Addr.add; split <;> rfl
  refine ⟨.pointer (some (ad.add (n.toNat*(m+1)))),?_,⟨ad.add (n.toNat*e.size),cc,?_,hsp _,?_,?_,h8,h9⟩,fun b hb=>by cases hb⟩
  ·simp [execOp,ho,h2,j9 hM hy,Instr.indexAt,asIntOf,run_underlying hu,hob1,hob2,sizeOf,typeInfo,hi,hsi]
  ·rw [hes,add_add h4]; rfl
  ·rw [hbl]; exact h5
  ·rw [hbl]; exact h6
theorem vC {t:TypeId} {x y:Operand} (ho:o.op=.indexAddr t x y) {k:IntKind} (n:Int) (hy:s.ev y=.val (.int k) n) {elem tid:TypeId} {e:Ty} (l:List e.den) (b:Nat)
  (hu:cx.P.underlying t=some (.slice elem)) (hx:s.ev x=.val .own b) (hk:s.hp b=some (.row e l tid)) {m:Nat} (hm:(cx.P.info? elem).map (·.size)=some (m+1)) :
  gE cx o s nid ⟨.val .ptr ⟨b,0,n,m+1,0⟩,[],some (jc n (l.length:Int))⟩:=by
 obtain ⟨i,hi,hsi⟩:=Option.map_eq_some_iff.1 hm;refine dI rfl fun ρ F a w hM hob=>?_
 have h1:=(hM.ev x).1;rw [hx] at h1;have h2:=jC h1;have hob1:0≤n:=hob.1;have hob2:n<(l.length:Int):=hob.2;obtain ⟨g,cap,cur,xs,rest,hv,_⟩:=me (hM.blks b _ hk) (by omega);have hgood:(⟨b,0,n,m+1,0⟩:Ptr).kV ρ:=⟨⟨g,0,none⟩,rfl,fun q hq=>by unfold Ptr.val; rw [hq,hv]⟩
 refine ⟨_,?_,jm hgood,fun b' hb=>by
  have hr:=(hM.ev x).2;rw [hx] at hr
  exact hr b' hb⟩
 have e1:(⟨b,0,n,m+1,0⟩:Ptr).val ρ=.pointer (some ((⟨g,0,none⟩:Addr).add (n.toNat*(m+1)))):=by
  unfold Ptr.val;rw [show (⟨b,0,n,m+1,0⟩:Ptr).b=b from rfl,hv];simp only [Ptr.co,Nat.zero_add,Nat.add_zero]
 rw [e1];rw [hv] at h2;simp [execOp,ho,h2,j9 hM hy,Instr.indexAt,asIntOf,run_underlying hu,hob1,hob2,sizeOf,typeInfo,hi,hsi]
theorem vX {t:TypeId} {x y:Operand} (ho:o.op=.indexAddr t x y) {k:IntKind} (n:Int) (hy:s.ev y=.val (.int k) n) {elem:TypeId} {e:Ty} (l:List e.den) {tid:TypeId} (b lo:Nat)
  (hu:cx.P.underlying t=some (.slice elem)) {m:Nat} (hx:s.ev x=.suf b lo (m+1)) (hk:s.hp b=some (.row e l tid)) (hm:(cx.P.info? elem).map (·.size)=some (m+1)) :
  gE cx o s nid ⟨.val .ptr ⟨b,0,Es lo n,m+1,0⟩,[],some (jc n ((l.length - lo:Nat):Int))⟩:=by
 obtain ⟨i,hi,hsi⟩:=Option.map_eq_some_iff.1 hm;refine dI rfl fun ρ F a w hM hob=>?_
 have h1:=(hM.ev x).1;rw [hx] at h1;have h2:a.eval x=vw (ρ b) lo (m+1):=h1;have hob1:0≤n:=hob.1;have hob2:n<((l.length - lo:Nat):Int):=hob.2;obtain ⟨g,cap,cur,xs,rest,hv,hcap⟩:=me (hM.blks b _ hk) (by omega);have hcl:l.length≤cap:=by
  obtain ⟨xs,hro,_⟩:=hM.blks b _ hk;rcases hro.2 with ⟨A0,h,h0⟩ | ⟨g',cap',cur',h,_,_,_,h4,_⟩
  ·omega
  ·rw [hv] at h
   simp only [Value.slice.injEq] at h;obtain ⟨_,_,rfl⟩:=h;exact h4
 have hgood:(⟨b,0,Es lo n,m+1,0⟩:Ptr).kV ρ:=⟨⟨g,0,none⟩,rfl,fun q hq=>by unfold Ptr.val; rw [hq,hv]⟩
 refine ⟨_,?_,jm hgood,fun b' hb=>by
  have hr:=(hM.ev x).2;rw [hx] at hr
  exact hr b' hb⟩
 have e1:(⟨b,0,Es lo n,m+1,0⟩:Ptr).val ρ=.pointer (some ((⟨g,0,none⟩:Addr).add ((Es lo n).toNat*(m+1)))):=by
  unfold Ptr.val;rw [show (⟨b,0,Es lo n,m+1,0⟩:Ptr).b=b from rfl,hv];simp only [Ptr.co,Nat.zero_add,Nat.add_zero]
 rw [e1];rw [hv] at h2;have hne:¬ cap=lo:=by omega
 have h2:a.eval x=.slice (some ⟨g,lo*(m+1),none⟩) (l.length - lo) (cap - lo):=by
  rw [h2];show Value.slice (if cap=lo then _ else _) _ _=_;rw [if_neg hne];show Value.slice (some ((⟨g,0,none⟩:Addr).add (lo*(m+1)))) _ _=_;rw [eN,Nat.zero_add]
 have e2:((⟨g,lo*(m+1),none⟩:Addr).add (n.toNat*(m+1)))=(⟨g,0,none⟩:Addr).add ((Es lo n).toNat*(m+1)):=by
  rw [eN,eN,← Nat.add_mul,Nat.zero_add];unfold Es;congr 2;omega
 rw [← e2];simp [execOp,ho,h2,j9 hM hy,Instr.indexAt,asIntOf,run_underlying hu,hob1,hob2,sizeOf,typeInfo,hi,hsi]
theorem tI {hp:Nat→Option dZ} (hhp:∀ b k,hp b=some k→s.hp b=some k) {t:TypeId} {x y:Operand} (ho:o.op=.indexAddr t x y) :
  gE cx o s nid (lj cx.P hp t (s.ev x) (s.ev y)):=by
 unfold lj;split
 ·rename_i k n hy
  split
  ·rename_i len elem p hu hx
   split
   ·rename_i hes
    simp only [Bool.and_eq_true] at hes;split
    ·rename_i m hm
     exact uK ho n hy p hu hx (Nat.eq_of_beq_eq_true hes.1) (Nat.eq_of_beq_eq_true hes.2) hm
    ·exact bq
   ·exact bq
  ·rename_i elem e l hu hx
   split
   ·rename_i m hm
    split
    ·rename_i hes
     exact tH ho n hy l hu hx hm (Nat.eq_of_beq_eq_true hes)
    ·exact bq
   ·exact bq
  ·rename_i elem b hu hx
   split
   ·rename_i e l tid hk
    split
    ·rename_i m hm
     split
     ·exact vC ho n hy l b hu hx (hhp _ _ hk) hm
     ·exact bq
    ·exact bq
   ·exact bq
  ·rename_i elem b lo k' hu hx
   split
   ·rename_i e l tid hk
    split
    ·rename_i m hm
     split
     ·rename_i hb
      simp only [Bool.and_eq_true] at hb;obtain rfl:=Nat.eq_of_beq_eq_true hb.2;exact vX ho n hy l b lo hu hx (hhp _ _ hk) hm
     ·exact bq
    ·exact bq
   ·exact bq
  ·exact bq
 ·exact bq
theorem Gj {op:UnOp} {xt:TypeId} {x:Operand} (ho:o.op=.unOp op xt x):gE cx o s nid (GI op (s.ev x)):=by
 unfold GI;split
 ·rename_i k n hx
  refine dI rfl fun ρ F a w hM _=>?_
  have h1:=(hM.ev x).1;rw [hx] at h1;have h1:=jt h1;exact ⟨.int k (c9 k n),by simp [execOp,ho,h1,Op.unary,Op.intArith,c9],fg,fun b hb=>by cases hb⟩
 ·rename_i b hx
  refine dI rfl fun ρ F a w hM _=>?_
  have h1:=(hM.ev x).1;rw [hx] at h1;have h1:=km h1;exact ⟨.bool (!b),by simp [execOp,ho,h1,Op.unary],im,fun b hb=>by cases hb⟩
 ·rename_i k n hx
  refine dI rfl fun ρ F a w hM _=>?_
  have h1:=(hM.ev x).1;rw [hx] at h1;have h1:=jt h1;refine ⟨.int k (cP .xor k (if k.signed then -1 else k.max) n),?_,fg,fun b hb=>by cases hb⟩;simp only [execOp,ho,h1,Op.unary];rfl
 ·exact bq
theorem xG {src dst:TypeId} {x:Operand} (ho:o.op=.convert src dst x) (hs:(cx.P.underlying src).isSome=true):gE cx o s nid (nX cx.P dst (s.ev x)):=by
 unfold nX;split
 ·rename_i k k' n hu hx
  refine dI rfl fun ρ F a w hM _=>?_
  have h1:=(hM.ev x).1;rw [hx] at h1;have h1:=jt h1;obtain ⟨d,hd⟩:=Option.isSome_iff_exists.1 hs;refine ⟨.int k (k.wrap n),?_,fg,fun b hb=>by cases hb⟩;simp only [execOp,ho,h1,convert,Sem.run_bind,run_underlying hd,run_underlying hu,Result.andThen_ok];cases d <;> simp [Conv.intToInt]
 ·exact bq
theorem Fq {hp:Nat→Option dZ} (hhp:∀ b k,hp b=some k→s.hp b=some k) {t:TypeId} {ts:List TypeId} {x:Operand}
  (ho:o.op=.call { callee:=.builtin .len,args:=#[x],argTypes:=(t :: ts).toArray }):gE cx o s nid (DL cx.P hp t (s.ev x)):=by
 unfold DL;split
 ·rename_i e e' l hu hx
  refine dI rfl fun ρ F a w hM _=>?_
  have h1:=(hM.ev x).1;rw [hx] at h1;obtain ⟨cs,h2,A,cap,rfl,_⟩:=h1;have h2:a.eval x=.slice A (List.length l) cap:=h2;exact ⟨.int .i64 (List.length l:Int),by simp [execOp,ho,resolve,invoke,builtin,Builtin.len_,h2,run_underlying hu,goInt],fg,fun b hb=>by cases hb⟩
 ·rename_i e b hu hx
  split
  ·rename_i e' l tid hk
   refine dI rfl fun ρ F a w hM _=>?_
   have h1:=(hM.ev x).1;rw [hx] at h1;have h2:=jC h1;obtain ⟨xs,⟨_,hro⟩,_⟩:=hM.blks b _ (hhp _ _ hk);have h3:∃ A cap,ρ b=.slice A l.length cap:=by
    rcases hro with ⟨A0,h,h0⟩ | ⟨g,cap,cur,h,_⟩
    ·exact ⟨A0,0,by rw [h,h0]⟩
    ·exact ⟨_,_,h⟩
   obtain ⟨A,cap,h3⟩:=h3;rw [h3] at h2;exact ⟨.int .i64 (l.length:Int),by simp [execOp,ho,resolve,invoke,builtin,Builtin.len_,h2,run_underlying hu,goInt],fg,fun b hb=>by cases hb⟩
  ·exact bq
 ·rename_i e b lo k hu hx
  split
  ·rename_i e' l tid hk
   refine dI rfl fun ρ F a w hM _=>?_
   have h1:=(hM.ev x).1;rw [hx] at h1;have h2:a.eval x=vw (ρ b) lo k:=h1;obtain ⟨xs,⟨_,hro⟩,_⟩:=hM.blks b _ (hhp _ _ hk);have h3:∃ A cap,ρ b=.slice A l.length cap:=by
    rcases hro with ⟨A0,h,h0⟩ | ⟨g,cap,cur,h,_⟩
    ·exact ⟨A0,0,by rw [h,h0]⟩
    ·exact ⟨_,_,h⟩
   obtain ⟨A,cap,h3⟩:=h3;rw [h3] at h2;have h2:a.eval x=.slice (if cap=lo then A else A.map (·.add (lo*k))) (l.length - lo) (cap - lo):=h2;exact ⟨.int .i64 ((l.length - lo:Nat):Int),by simp [execOp,ho,resolve,invoke,builtin,Builtin.len_,h2,run_underlying hu,goInt],fg,fun b hb=>by cases hb⟩
  ·exact bq
 ·rename_i e hu hx
  refine dI rfl fun ρ F a w hM _=>?_
  have h1:=(hM.ev x).1;rw [hx] at h1;have h1:a.eval x=.slice none 0 0:=h1;exact ⟨.int .i64 (0:Int),by simp [execOp,ho,resolve,invoke,builtin,Builtin.len_,h1,run_underlying hu,goInt],fg,fun b hb=>by cases hb⟩
 ·rename_i n e hu
  refine dI rfl fun ρ F a w hM _=>?_
  exact ⟨.int .i64 (n:Int),by simp [execOp,ho,resolve,invoke,builtin,Builtin.len_,run_underlying hu,goInt],fg,fun b hb=>by cases hb⟩
 ·exact bq
theorem DX {P:Program} {ρ:Nat→Value} {w:World} {I:Nat→Prop}:∀ (gT:List AV) (vs:List Value) (av:AV) (v:Value),RV P ρ w I av v→vs.length=gT.length →
  (∀ (i:Nat) (x:AV) (y:Value),gT[i]?=some x→vs[i]?=some y→RV P ρ w I x y)→(qA av gT).uo→∃ r,(vs.foldlM Builtin.min2 v).run P w=.ok r w∧RV P ρ w I (qA av gT).v r∧(qA av gT).v.refs=[]:=by
 intro gT
 induction gT with
 | nil =>
  intro vs av v h hl hall hob;have:vs=[]:=List.eq_nil_of_length_eq_zero hl;subst this;unfold qA at hob ⊢;split at hob
  ·exact ⟨v,by simp,h,rfl⟩
  ·rename_i heq; cases heq
  ·exact hob.elim
 | cons x gT ih =>
  intro vs av v h hl hall hob;cases vs with
  | nil=>simp at hl
  | cons y vs =>
   unfold qA at hob ⊢;split at hob
   ·rename_i heq; cases heq
   ·rename_i k x' k' y' l heq
    cases heq;have h1:=jt h;have h2:=jt (hall 0 _ y rfl rfl);subst h1 h2;obtain ⟨r,hr,hv⟩:=ih vs (.val (.int k) (gA x' y')) (.int k (gA x' y')) fg (by simpa using hl) (fun i a b ha hb=>hall (i+1) a b (by simpa using ha) (by simpa using hb)) hob;refine ⟨r,?_,hv⟩;rw [List.foldlM_cons,Sem.run_bind];exact hr
   ·exact hob.elim
theorem CX {P:Program} {ρ:Nat→Value} {w:World} {I:Nat→Prop}:∀ (gT:List AV) (vs:List Value) (av:AV) (v:Value),RV P ρ w I av v→vs.length=gT.length →
  (∀ (i:Nat) (x:AV) (y:Value),gT[i]?=some x→vs[i]?=some y→RV P ρ w I x y)→(qo av gT).uo→∃ r,(vs.foldlM Builtin.max2 v).run P w=.ok r w∧RV P ρ w I (qo av gT).v r∧(qo av gT).v.refs=[]:=by
 intro gT
 induction gT with
 | nil =>
  intro vs av v h hl hall hob;have:vs=[]:=List.eq_nil_of_length_eq_zero hl;subst this;unfold qo at hob ⊢;split at hob
  ·exact ⟨v,by simp,h,rfl⟩
  ·rename_i heq; cases heq
  ·exact hob.elim
 | cons x gT ih =>
  intro vs av v h hl hall hob;cases vs with
  | nil=>simp at hl
  | cons y vs =>
   unfold qo at hob ⊢;split at hob
   ·rename_i heq; cases heq
   ·rename_i k x' k' y' l heq
    cases heq;have h1:=jt h;have h2:=jt (hall 0 _ y rfl rfl);subst h1 h2;obtain ⟨r,hr,hv⟩:=ih vs (.val (.int k) (imax x' y')) (.int k (imax x' y')) fg (by simpa using hl) (fun i a b ha hb=>hall (i+1) a b (by simpa using ha) (by simpa using hb)) hob;refine ⟨r,?_,hv⟩;rw [List.foldlM_cons,Sem.run_bind];exact hr
   ·exact hob.elim
theorem yp:∀ (gT:List AV) (av:AV),(qA av gT).ed=[]:=by
 intro gT
 induction gT with
 | nil=>intro av; unfold qA; split <;> first | rfl | (rename_i heq; cases heq)
 | cons x gT ih=>intro av; unfold qA; split <;> first | rfl | (rename_i heq; cases heq; exact ih _) | (rename_i heq; cases heq)
theorem yA:∀ (gT:List AV) (av:AV),(qo av gT).ed=[]:=by
 intro gT
 induction gT with
 | nil=>intro av; unfold qo; split <;> first | rfl | (rename_i heq; cases heq)
 | cons x gT ih=>intro av; unfold qo; split <;> first | rfl | (rename_i heq; cases heq; exact ih _) | (rename_i heq; cases heq)
theorem kW {ρ:Nat→Value} {F:Nat→Prop} {a:Act} {w:World} (hM:M cx ρ F s a w) (xs:List Operand) :
  ∀ (i:Nat) (x:AV) (y:Value),(xs.map s.ev)[i]?=some x→(xs.map a.eval)[i]?=some y→RV cx.P ρ w (cx.I ρ s) x y:=by
 intro i x y hx hy;rw [List.getElem?_map] at hx hy;obtain ⟨z,hz,rfl⟩:=Option.map_eq_some_iff.1 hx;rw [hz] at hy;obtain rfl:=Option.some.inj hy;exact (hM.ev z).1
theorem E0 {ts:Array TypeId} {x:Operand} {xs:List Operand} (ho:o.op=.call { callee:=.builtin .min,args:=(x :: xs).toArray,argTypes:=ts }) :
  gE cx o s nid (qA (s.ev x) (xs.map s.ev)):=by
 refine dI (yp _ _) fun ρ F a w hM hob=>?_
 obtain ⟨r,hr,hv,hf⟩:=DX (P:=cx.P) (xs.map s.ev) (xs.map a.eval) (s.ev x) (a.eval x) (hM.ev x).1 (by simp) (kW hM xs) hob;refine ⟨r,?_,hv,fun b hb=>by rw [hf] at hb; cases hb⟩;simp [execOp,ho,resolve,invoke,builtin,Builtin.min_,hr]
theorem EM {ts:Array TypeId} {x:Operand} {xs:List Operand} (ho:o.op=.call { callee:=.builtin .max,args:=(x :: xs).toArray,argTypes:=ts }) :
  gE cx o s nid (qo (s.ev x) (xs.map s.ev)):=by
 refine dI (yA _ _) fun ρ F a w hM hob=>?_
 obtain ⟨r,hr,hv,hf⟩:=CX (P:=cx.P) (xs.map s.ev) (xs.map a.eval) (s.ev x) (a.eval x) (hM.ev x).1 (by simp) (kW hM xs) hob;refine ⟨r,?_,hv,fun b hb=>by rw [hf] at hb; cases hb⟩;simp [execOp,ho,resolve,invoke,builtin,Builtin.max_,hr]
def nQ (x:AV) (i:Nat):fV :=
 match x with
 | .tup l=>match l[i]? with
  | some t=>.of (.val t.t t.x)
  | none=>.bad
 | _=>.bad
theorem xp {x:Operand} {i:Nat} (ho:o.op=.extract x i):gE cx o s nid (nQ (s.ev x) i):=by
 unfold nQ;split
 ·rename_i l hx
  split
  ·rename_i t ht
   refine dI rfl fun ρ F a w hM _=>?_
   have h1:=hM.ev x;rw [hx] at h1;obtain ⟨⟨vs,h2,h3,h4⟩,h5⟩:=h1;have hlt:i<vs.length:=by rw [h3]; exact (List.getElem?_eq_some_iff.1 ht).1
   refine ⟨vs[i],?_,h4 i t _ ht (List.getElem?_eq_getElem hlt),fun b hb=>h5 b (List.mem_flatMap.2 ⟨t,List.mem_of_getElem? ht,hb⟩)⟩;have:vs.toArray[i]?=some vs[i]:=by simp [hlt]
   simp [execOp,ho,h2,Instr.extract,hlt]
  ·exact bq
 ·exact bq
def mf (fn:Fn) (first caps:List AV):fV :=
 match fn,first,nF caps with
 | .func f,[],some ps=>.of (.val .clo (f,ps))
 | _,_,_=>.bad
theorem rA {P:Program} {ρ:Nat→Value} {w:World} {I:Nat→Prop}:∀ {gT:List AV} {ps:List Ptr} {vs:List Value},nF gT=some ps→vs.length=gT.length →
  (∀ (i:Nat) (x:AV) (y:Value),gT[i]?=some x→vs[i]?=some y→RV P ρ w I x y)→vs=ps.map (·.val ρ)∧∀ p∈ps,.val .ptr p∈gT∧p.kV ρ:=by
 intro gT
 induction gT with
 | nil =>
  intro ps vs h hl _;simp only [nF] at h;obtain rfl:=Option.some.inj h;exact ⟨List.eq_nil_of_length_eq_zero hl,fun p hp=>by cases hp⟩
 | cons x gT ih =>
  intro ps vs h hl hall;unfold nF at h;split at h
  ·rename_i heq; cases heq
  ·rename_i p l heq
   cases heq;obtain ⟨ps',hps',rfl⟩:=Option.map_eq_some_iff.1 h;cases vs with
   | nil=>simp at hl
   | cons y vs =>
    obtain ⟨h1,h2⟩:=ih hps' (by simpa using hl) (fun i a b ha hb=>hall (i+1) a b (by simpa using ha) (by simpa using hb));have h3:=hall 0 _ y rfl rfl;refine ⟨by rw [jD h3,h1]; rfl,fun q hq=>?_⟩;rcases List.mem_cons.1 hq with rfl | hq
    ·exact ⟨List.mem_cons_self,jQ h3⟩
    ·exact ⟨List.mem_cons_of_mem _ (h2 q hq).1,(h2 q hq).2⟩
  ·cases h
theorem vD {fn:Fn} {first caps:Array Operand} (ho:o.op=.makeFunc fn first caps):gE cx o s nid (mf fn (first.toList.map s.ev) (caps.toList.map s.ev)):=by
 unfold mf;split
 ·rename_i f ps hfirst hcaps
  refine dI rfl fun ρ F a w hM _=>?_
  obtain ⟨h1,h2⟩:=rA hcaps (vs:=caps.toList.map a.eval) (by simp) (kW hM caps.toList);have hfe:first=#[]:=by
   have:first.toList=[]:=by simpa using hfirst
   exact Array.toList_eq_nil_iff.1 this
  subst hfe;refine ⟨.func (.func f) #[] (ps.map (·.val ρ)).toArray,?_,⟨_,rfl,rfl⟩,fun b hb=>?_⟩
  ·have e:caps.map a.eval=(ps.map (·.val ρ)).toArray:=by rw [← h1,← Array.toList_map]
   simp [execOp,ho,Instr.makeFunc,e]
  ·have hb:b∈ps.map (·.b):=hb
   obtain ⟨p,hp,rfl⟩:=List.mem_map.1 hb;obtain ⟨x,hx,he⟩:=List.mem_map.1 (h2 p hp).1;have hr:=(hM.ev x).2;rw [he] at hr;exact hr _ (List.mem_singleton.2 rfl)
 ·exact bq
end
end Go.Sx
namespace Go.Sx
def fU (g:List (Nat × Nat)) (b:Nat):Nat:=match find g b with
 | some c=>c
 | none=>b
def Ty.fU (g:Nat→Nat):(t:Ty)→t.den→t.den
 | .own,b=>g b
 | .ptr,p=>⟨g p.b,p.off,p.i,p.es,p.inner⟩
 | .clo,c=>(c.1,c.2.map fun p=>⟨g p.b,p.off,p.i,p.es,p.inner⟩)
 | .pair a b,x=>match a.deep && b.deep with
  | true=>x
  | false=>(a.fU g x.1,b.fU g x.2)
 | .arr _ e,(l:List e.den)=>match e.deep with
  | true=>l
  | false=>l.map (e.fU g)
 | .int _,x=>x
 | .bool,x=>x
 | .nil,x=>x
 | .nilf,x=>x
 | .unit,x=>x
 | .slice _,x=>x
 | .fn _ _,x=>x
 | .fn2 _ _ _,x=>x
 | .ref _,x=>x
theorem Ty.uw (g:Nat→Nat):∀ {t:Ty} (x:t.den),t.deep=true→t.fU g x=x:=by
 intro t x h;cases t with
 | pair a b=>simp only [Ty.deep] at h; simp only [Ty.fU,h]
 | arr n e=>simp only [Ty.deep] at h; simp only [Ty.fU,h]
 | own=>simp [Ty.deep] at h
 | ptr=>simp [Ty.deep] at h
 | clo=>simp [Ty.deep] at h
 | _=>rfl
theorem C9 {α β:Type} {f:α→β} {l:List α} {i:Nat} {y:α} (h:l[i]?=some y):(l.map f)[i]?=some (f y):=by rw [List.getElem?_map,h]; rfl
theorem Ptr.xY (ρ:Nat→Value) (g:Nat→Nat) (p:Ptr):(⟨g p.b,p.off,p.i,p.es,p.inner⟩:Ptr).val ρ=p.val (fun b=>ρ (g b)):=rfl
theorem Rd.fU {P:Program} {g:Nat→Nat}:∀ {t:Ty} {ρ:Nat→Value} {w:World} {I:Nat→Prop} {x:t.den} {c:List Value},Rd P t false ρ w I (t.fU g x) c→Rd P t false (fun b=>ρ (g b)) w I x c:=by
 have deep:∀ {t:Ty} {ρ:Nat→Value} {w:World} {I:Nat→Prop} {x:t.den} {c:List Value},t.deep=true→Rd P t false ρ w I (t.fU g x) c→Rd P t false (fun b=>ρ (g b)) w I x c:=by
  intro t ρ w I x c hd h;rw [Ty.uw g x hd] at h;exact h.jy fun b hb=>by rw [Ty.dD hd] at hb; cases hb
 intro t
 induction t with
 | pair a b iha ihb =>
  intro ρ w I x c h;cases hd:(a.deep && b.deep) with
  | true=>exact deep hd h
  | false =>
   simp only [Ty.fU,hd] at h;obtain ⟨c1,c2,rfl,h1,h2⟩:=h;exact ⟨c1,c2,rfl,iha h1,ihb h2⟩
 | arr n e ih =>
  intro ρ w I x c h;cases hd:e.deep with
  | true=>exact deep hd h
  | false =>
   simp only [Ty.fU,hd] at h;obtain ⟨hl,css,rfl,hn,hall⟩:=h;exact ⟨(List.length_map ..).symm.trans hl,css,rfl,hn,fun i y c hy hc=>ih (hall i _ c (C9 (l:=x) hy) hc)⟩
 | own=>intro ρ w I x c h; exact h
 | ptr =>
  intro ρ w I x c h;obtain ⟨h1,ad,hs,hg⟩:=h;exact ⟨h1,ad,hs,fun q hq=>by rw [← Ptr.xY]; exact hg _ (by show g q.b=g _; rw [hq])⟩
 | clo =>
  intro ρ w I x c h;have h:c=[.func (.func x.1) #[] ((x.2.map fun p=>(⟨g p.b,p.off,p.i,p.es,p.inner⟩:Ptr)).map (·.val ρ)).toArray]:=h;show c=_;rw [h,List.map_map];rfl
 | unit=>intro ρ w I x c h; exact h
 | int k=>intro ρ w I x c h; exact h
 | bool=>intro ρ w I x c h; exact h
 | nil=>intro ρ w I x c h; exact h
 | nilf=>intro ρ w I x c h; exact h
 | slice e _=>intro ρ w I x c h; exact h
 | fn a b _ _=>intro ρ w I x c h; exact h
 | fn2 p a b _ _ _=>intro ρ w I x c h; exact h
 | ref t _=>intro ρ w I x c h; exact h
def AV.fU (g:Nat→Nat):AV→AV
 | .val t x=>.val t (t.fU g x)
 | .tup l=>.tup (l.map fun t=>⟨t.t,t.t.fU g t.x⟩)
 | .imm t x off=>.imm t x off
 | .nil=>.nil
 | .anyb p=>.anyb p
 | .win b lo n=>.win (g b) lo n
 | .suf b lo k=>.suf (g b) lo k
 | .undef=>.undef
theorem RV.fU {P:Program} {g:Nat→Nat} {ρ:Nat→Value} {w:World} {I:Nat→Prop} {av:AV} {v:Value} (h:RV P ρ w I (av.fU g) v):RV P (fun b=>ρ (g b)) w I av v:=by
 cases av with
 | val t x=>obtain ⟨c,rfl,hc⟩:=h; exact ⟨c,rfl,hc.fU⟩
 | imm t x off=>exact h
 | anyb p=>exact h
 | suf b lo k=>exact h
 | win b lo n =>
  obtain ⟨ad,cap,h1,h2,h3⟩:=h;exact ⟨ad,cap,h1,fun q hq=>by rw [← Ptr.xY]; exact h2 _ (by show g q.b=g _; rw [hq]),h3⟩
 | nil=>exact h
 | undef=>trivial
 | tup l =>
  obtain ⟨vs,rfl,hl,hall⟩:=h;refine ⟨vs,rfl,by simpa using hl,fun i t u ht hu=>?_⟩;obtain ⟨c,hc,hr⟩:=hall i ⟨t.t,t.t.fU g t.x⟩ u (by rw [List.getElem?_map,ht]; rfl) hu;exact ⟨c,hc,hr.fU⟩
def dZ.fU (g:Nat→Nat):dZ→dZ
 | .cells t x=>.cells t (t.fU g x)
 | .row e l tid=>.row e l tid
theorem RB.fU {P:Program} {g:Nat→Nat} {ρ:Nat→Value} {w:World} {I:Nat→Prop} {k:dZ} {v:Value} (h:RB P ρ w I v (k.fU g)):RB P (fun b=>ρ (g b)) w I v k:=by
 cases k with
 | cells t x =>
  obtain ⟨r,tid,cur,h1,h2,h3⟩:=h;exact ⟨r,tid,cur,h1,h2,h3.fU⟩
 | row e l tid=>exact h
theorem Ptr.DI {ρ:Nat→Value} {g:Nat→Nat} {p:Ptr} {q:Ptr} (h:q.b=g p.b):q.val ρ=(⟨p.b,q.off,q.i,q.es,q.inner⟩:Ptr).val (fun b=>ρ (g b)):=by
 unfold Ptr.val;simp only [h];rfl
theorem get_map {α β:Type} {f:α→β} {l:List α} {i:Nat} {z:β} (h:(l.map f)[i]?=some z):∃ y,l[i]?=some y∧z=f y:=by
 rw [List.getElem?_map] at h;obtain ⟨y,h1,h2⟩:=Option.map_eq_some_iff.1 h;exact ⟨y,h1,h2.symm⟩
theorem Rd.yl {P:Program} {g:Nat→Nat}:∀ {t:Ty} {ρ:Nat→Value} {w:World} {I:Nat→Prop} {x:t.den} {c:List Value},Rd P t false (fun b=>ρ (g b)) w I x c→Rd P t false ρ w I (t.fU g x) c:=by
 have deep:∀ {t:Ty} {ρ:Nat→Value} {w:World} {I:Nat→Prop} {x:t.den} {c:List Value},t.deep=true→Rd P t false (fun b=>ρ (g b)) w I x c→Rd P t false ρ w I (t.fU g x) c:=by
  intro t ρ w I x c hd h;rw [Ty.uw g x hd];exact h.jy fun b hb=>by rw [Ty.dD hd] at hb; cases hb
 intro t
 induction t with
 | pair a b iha ihb =>
  intro ρ w I x c h;cases hd:(a.deep && b.deep) with
  | true=>exact deep hd h
  | false =>
   obtain ⟨c1,c2,rfl,h1,h2⟩:=h;simp only [Ty.fU,hd];exact ⟨c1,c2,rfl,iha h1,ihb h2⟩
 | arr n e ih =>
  intro ρ w I x c h;cases hd:e.deep with
  | true=>exact deep hd h
  | false =>
   obtain ⟨hl,css,rfl,hn,hall⟩:=h;simp only [Ty.fU,hd];refine ⟨(List.length_map ..).trans hl,css,rfl,hn,fun i y c hy hc=>?_⟩;obtain ⟨z,hz,rfl⟩:=get_map (l:=x) hy;exact ih (hall i z c hz hc)
 | own=>intro ρ w I x c h; exact h
 | ptr =>
  intro ρ w I x c h;obtain ⟨h1,ad,hs,hg⟩:=h;exact ⟨h1,ad,hs,fun q hq=>by rw [Ptr.DI (ρ:=ρ) (g:=g) (p:=x) hq]; exact hg _ rfl⟩
 | clo =>
  intro ρ w I x c h;have h:c=[.func (.func x.1) #[] (x.2.map (·.val fun b=>ρ (g b))).toArray]:=h;show c=[.func (.func x.1) #[] ((x.2.map fun p=>(⟨g p.b,p.off,p.i,p.es,p.inner⟩:Ptr)).map (·.val ρ)).toArray];rw [h,List.map_map];rfl
 | unit=>intro ρ w I x c h; exact h
 | int k=>intro ρ w I x c h; exact h
 | bool=>intro ρ w I x c h; exact h
 | nil=>intro ρ w I x c h; exact h
 | nilf=>intro ρ w I x c h; exact h
 | slice e _=>intro ρ w I x c h; exact h
 | fn a b _ _=>intro ρ w I x c h; exact h
 | fn2 p a b _ _ _=>intro ρ w I x c h; exact h
 | ref t _=>intro ρ w I x c h; exact h
theorem RB.yl {P:Program} {g:Nat→Nat} {ρ:Nat→Value} {w:World} {I:Nat→Prop} {k:dZ} {v:Value} (h:RB P (fun b=>ρ (g b)) w I v k):RB P ρ w I v (k.fU g):=by
 cases k with
 | cells t x =>
  obtain ⟨r,tid,cur,h1,h2,h3⟩:=h;exact ⟨r,tid,cur,h1,h2,h3.yl⟩
 | row e l tid=>exact h
theorem Ty.qq {g:Nat→Nat}:∀ {t:Ty} {x:t.den} {c:Nat},c∈t.refs (t.fU g x)→∃ b∈t.refs x,c=g b:=by
 have deep:∀ {t:Ty} {x:t.den} {c:Nat},t.deep=true→c∈t.refs (t.fU g x)→∃ b∈t.refs x,c=g b:=by
  intro t x c hd h;rw [Ty.dD hd] at h;cases h
 intro t
 induction t with
 | pair a b iha ihb =>
  intro x c h;cases hd:(a.deep && b.deep) with
  | true=>exact deep hd h
  | false =>
   simp only [Ty.fU,hd,Ty.refs,List.mem_append] at h ⊢;rcases h with h | h
   ·obtain ⟨d,h1,h2⟩:=iha h
    exact ⟨d,.inl h1,h2⟩
   ·obtain ⟨d,h1,h2⟩:=ihb h
    exact ⟨d,.inr h1,h2⟩
 | arr n e ih =>
  intro x c h;cases hd:e.deep with
  | true=>exact deep hd h
  | false =>
   have h:c∈(if e.deep then [] else (List.map (e.fU g) x).flatMap e.refs):=by
    have e1:(Ty.arr n e).fU g x=List.map (e.fU g) x:=by simp only [Ty.fU,hd]; rfl
    rw [e1] at h;exact h
   rw [hd] at h;obtain ⟨y,hy,hc⟩:=List.mem_flatMap.1 h;obtain ⟨z,hz,rfl⟩:=List.mem_map.1 hy;obtain ⟨d,h1,h2⟩:=ih hc;refine ⟨d,?_,h2⟩;show d∈(if e.deep then [] else List.flatMap e.refs x);rw [hd];exact List.mem_flatMap.2 ⟨z,hz,h1⟩
 | own =>
  intro x c h;have h:c∈[g x]:=h;exact ⟨x,List.mem_singleton.2 rfl,List.mem_singleton.1 h⟩
 | ptr =>
  intro x c h;have h:c∈[g x.b]:=h;exact ⟨x.b,List.mem_singleton.2 rfl,List.mem_singleton.1 h⟩
 | clo =>
  intro x c h;have h:c∈(x.2.map fun p=>(⟨g p.b,p.off,p.i,p.es,p.inner⟩:Ptr)).map (·.b):=h;rw [List.map_map] at h;obtain ⟨p,hp,rfl⟩:=List.mem_map.1 h;exact ⟨p.b,List.mem_map_of_mem (f:=fun p:Ptr=>p.b) hp,rfl⟩
 | _=>intro x c h; cases h
theorem dZ.qq {g:Nat→Nat} {k:dZ} {c:Nat} (h:c∈(k.fU g).refs):∃ b∈k.refs,c=g b:=by
 cases k with
 | cells t x=>exact Ty.qq h
 | row e l tid=>cases h
theorem jP {α γ:Type} {g:Nat × α→γ} {h:Nat→γ}:∀ {l:List (Nat × α)},l.map g=l.map (fun x=>h x.1)→∀ {k:Nat} {x:α},find l k=some x→g (k,x)=h k:=by
 intro l
 induction l with
 | nil=>intro _ k x h; cases h
 | cons y l ih =>
  intro he k x hx;simp only [List.map_cons,List.cons.injEq] at he;unfold find at hx;split at hx
  ·rename_i hk
   have hk:=Nat.eq_of_beq_eq_true hk;obtain rfl:=Option.some.inj hx;rw [← hk]; exact he.1
  ·exact ih he.2 hx
end Go.Sx
