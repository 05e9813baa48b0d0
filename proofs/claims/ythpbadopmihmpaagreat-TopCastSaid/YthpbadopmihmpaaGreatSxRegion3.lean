import Derived.Test.YthpbadopmihmpaaGreatSxStep
namespace Go.Sx
def need (o:Oper):Nat:=(match o.guard with | some _=>1 | none=>0)+(match o.op with
 | .pick _ _ _=>1
 | .buildSlice _ _ _=>1
 | .call q=>match q.callee with
  | .value _=>1
  | _=>0
 | _=>0)
def dist:List Oper→List Ans→List (List Ans)
 | [],_=>[]
 | o :: os,l=>l.take (need o) :: dist os (l.drop (need o))
def hideOf (n0 n m b:Nat):Bool:=Nat.ble n0 b && (Nat.blt b (n0+n) && !(Nat.testBit m (b - n0)))
inductive Src where
 | data
 | blk (b:Nat)
 | two (b c:Nat)
 | many (l:List Nat)
 | unk
def srcHide:Src→Nat→Bool
 | .data,_=>true
 | .blk c,b=>!(Nat.beq b c)
 | .two c d,b=>!(Nat.beq b c) && !(Nat.beq b d)
 | .many l,b=>!(l.any (Nat.beq b))
 | .unk,_=>false
def Src.with:Src→Src→Src
 | .data,k=>k
 | .blk b,.data=>.blk b
 | .blk b,.blk c=>.two b c
 | .many l,.data=>.many l
 | .many l,.blk c=>.many (c :: l)
 | .blk b,.many l=>.many (b :: l)
 | .many l,.many m=>.many (l++m)
 | .two b c,.data=>.two b c
 | .two b c,.blk d=>.many [b,c,d]
 | .two b c,.many l=>.many (b :: c :: l)
 | .blk b,.two c d=>.many [b,c,d]
 | .many l,.two b c=>.many (b :: c :: l)
 | .two b c,.two d e=>.many [b,c,d,e]
 | _,_=>.unk
def apartS:Src→Src→Bool
 | .data,_=>true
 | .blk b,k=>srcHide k b
 | .two b c,k=>srcHide k b && srcHide k c
 | .many l,k=>l.all (srcHide k)
 | .unk,_=>false
theorem apartS_hide {k k':Src} (h:apartS k k'=true) {b:Nat} (hb:srcHide k b=false):srcHide k' b=true:=by
 cases k with
 | data=>simp [srcHide] at hb
 | unk=>cases h
 | many l =>
  have h:l.all (srcHide k')=true:=h
  simp only [srcHide,Bool.not_eq_false'] at hb
  obtain ⟨c,hc,he⟩:=List.any_eq_true.1 hb
  obtain rfl:=Nat.eq_of_beq_eq_true he
  exact List.all_eq_true.1 h b hc
 | blk c =>
  simp only [srcHide,Bool.not_eq_false'] at hb
  obtain rfl:=Nat.eq_of_beq_eq_true hb
  exact h
 | two c d =>
  have h:(srcHide k' c && srcHide k' d)=true:=h
  simp only [Bool.and_eq_true] at h
  have hb:(!(Nat.beq b c) && !(Nat.beq b d))=false:=hb
  cases e:Nat.beq b c with
  | true =>
   obtain rfl:=Nat.eq_of_beq_eq_true e
   exact h.1
  | false =>
   cases e':Nat.beq b d with
   | true =>
    obtain rfl:=Nat.eq_of_beq_eq_true e'
    exact h.2
   | false=>rw [e,e'] at hb; cases hb
structure Reg where
 src:List Src
 P:Program
 c:Ctx
 n0:Nat
 ops:Array Oper
 tbl:List Nat
 anss:List (List Ans)
def Reg.T (R:Reg) (i:Nat) (s:St):St :=
 match R.ops[i]? with
 | some o=>step R.P R.c (fun b=>hideOf R.n0 R.ops.size (R.tbl.getD i 0) b || srcHide (R.src.getD i .unk) b) (R.n0+i) R.ops o (R.anss.getD i []) s
 | none=>s
def Reg.run (R:Reg) (D:Nat→Bool):Nat→St→St
 | 0,s=>s
 | n+1,s=>match D n with
  | true=>R.T n (R.run D n s)
  | false=>R.run D n s
def touches:Op→Bool
 | .load _ _=>true
 | .store _ _ _=>true
 | .indexAddr _ _ _=>true
 | .slice _ _ _ _ _=>true
 | .call _=>true
 | _=>false
def turns (c:Ctx):Op→Bool
 | .store _ _ _=>true
 | .slice _ _ _ _ _=>true
 | .call q=>match q.callee with
  | .builtin .append=>true
  | .builtin .copy=>true
  | .builtin .clear=>true
  | .value f=>wrOp c f
  | _=>false
 | _=>false
def comm (c:Ctx) (ops:Array Oper) (x y:Oper) (k k':Src):Bool:=x.apart ops y && ((!(turns c x.op && touches y.op) || apartS k k') && (!(turns c y.op && touches x.op) || apartS k' k))
def Reg.chk (R:Reg):Bool :=
 (List.range R.ops.size).all fun j=>match R.ops[j]? with
  | none=>true
  | some oj=>(oj.after.toList.all fun e=>!Region.binds .any e || Nat.blt e.on j) &&
   (List.range j).all fun i=>match R.ops[i]? with
    | none=>true
    | some oi=>match Nat.testBit (R.tbl.getD j 0) i with
     | true=>(oj.after.toList.any fun e=>Region.binds .any e && (Nat.beq e.on i || Nat.testBit (R.tbl.getD e.on 0) i)) && !(Nat.testBit (R.tbl.getD i 0) j)
     | false=>comm R.c R.ops oi oj (R.src.getD i .unk) (R.src.getD j .unk) && !(Nat.testBit (R.tbl.getD i 0) j)
theorem beq_false {a b:Nat} (h:a≠b):Nat.beq a b=false:=by
 cases hh:Nat.beq a b with
 | false=>rfl
 | true=>exact absurd (Nat.eq_of_beq_eq_true hh) h
theorem arith_ed {op:BinOp} {k:IntKind} {m n:Int} {e:Nat × Option Blk} (h:e∈(arith op k m n).ed):False:=by cases op <;> cases h
theorem putS_comm (n:Nat) (sl:Nat→AV) {d e:Option Nat} (v u:AV) (h:∀ x,d=some x→e≠some x):putS n (putS n sl d v) e u=putS n (putS n sl e u) d v:=by
 cases d with
 | none=>rfl
 | some d=>cases e with
  | none=>rfl
  | some e =>
   have hne:d≠e:=fun he=>h d rfl (by rw [he])
   funext x
   simp only [putS]
   by_cases h1:x=d
   ·subst h1
    have:Nat.beq x e=false:=beq_false hne
    simp [this]
   ·have:Nat.beq x d=false:=beq_false h1
    simp only [this]
theorem app_other {ed:List (Nat × Option Blk)}:∀ {hp:Nat→Option Blk} {b:Nat},(∀ e∈ed,e.1≠b)→app hp ed b=hp b:=by
 induction ed with
 | nil=>intro hp b _; rfl
 | cons e ed ih =>
  intro hp b h
  show app (upd hp e.1 e.2) ed b=_
  rw [ih (fun e' he'=>h e' (List.mem_cons_of_mem _ he')),upd_ne _ _ (fun he=>h e List.mem_cons_self he.symm)]
theorem app_congr {ed:List (Nat × Option Blk)}:∀ {hp hp':Nat→Option Blk} {b:Nat},hp b=hp' b→app hp ed b=app hp' ed b:=by
 induction ed with
 | nil=>intro hp hp' b h; exact h
 | cons e ed ih =>
  intro hp hp' b h
  refine ih (hp:=upd hp e.1 e.2) (hp':=upd hp' e.1 e.2) ?_
  unfold upd
  split <;> first | rfl | exact h
theorem app_comm {ed ed':List (Nat × Option Blk)} (hp:Nat→Option Blk) (h:∀ e∈ed,∀ e'∈ed',e.1≠e'.1):app (app hp ed) ed'=app (app hp ed') ed:=by
 funext b
 by_cases hb:∃ e∈ed,e.1=b
 ·obtain ⟨e,he,hb⟩:=hb
  rw [app_other (ed:=ed') (fun e' he' hh=>h e he e' he' (by rw [hb,hh]))]
  exact app_congr (app_other (ed:=ed') (fun e' he' hh=>h e he e' he' (by rw [hb,hh]))).symm
 ·have hb':∀ e∈ed,e.1≠b:=fun e he hh=>hb ⟨e,he,hh⟩
  rw [app_other (ed:=ed) (hp:=app hp ed') hb']
  exact app_congr (app_other hb')
section
variable {P:Program} {c:Ctx}
theorem perf_hp {op:Op} (h:touches op=false) (hp hp':Nat→Option Blk) (nid:Nat) (ev:Operand→AV) (ans:Ans):perf P c hp nid ev ans op=perf P c hp' nid ev ans op:=by
 cases op <;> first | rfl | (simp [touches] at h)
theorem perf_ev {op:Op} {ev ev':Operand→AV} (h:∀ x∈op.operands,ev x=ev' x) (hp:Nat→Option Blk) (nid:Nat) (ans:Ans):perf P c hp nid ev ans op=perf P c hp nid ev' ans op:=by
 have e1:∀ (xs:Array Operand),(∀ x∈xs,ev x=ev' x)→xs.toList.map ev=xs.toList.map ev':=fun xs hx=>List.map_congr_left fun x hx'=>hx x (by simpa using hx')
 cases op <;> simp only [perf] <;> try rfl
 case move x=>rw [h x (by simp [Op.operands])]
 case assign x=>rw [h x (by simp [Op.operands])]
 case pick q x y=>rw [h x (by simp [Op.operands]),h y (by simp [Op.operands]),h q (by simp [Op.operands])]
 case box t x=>rw [h x (by simp [Op.operands])]
 case load t x=>rw [h x (by simp [Op.operands])]
 case store t x y=>rw [h x (by simp [Op.operands]),h y (by simp [Op.operands])]
 case nilCheck x=>rw [h x (by simp [Op.operands])]
 case binOp b xt x y yt=>rw [h x (by simp [Op.operands]),h y (by simp [Op.operands])]
 case unOp b xt x=>rw [h x (by simp [Op.operands])]
 case convert s d x=>rw [h x (by simp [Op.operands])]
 case makeFunc fn first caps=>rw [e1 first (fun x hx=>h x (by simp [Op.operands,hx])),e1 caps (fun x hx=>h x (by simp [Op.operands,hx]))]
 case fieldAddr t x f=>rw [h x (by simp [Op.operands])]
 case field t x f=>rw [h x (by simp [Op.operands])]
 case indexAddr t x i=>rw [h x (by simp [Op.operands]),h i (by simp [Op.operands])]
 case build t parts =>
  have:(parts.toList.map fun p=>(p.1,ev p.2))=(parts.toList.map fun p=>(p.1,ev' p.2)):=List.map_congr_left fun p hp=>by rw [h p.2 (by simp only [Op.operands,List.mem_toArray,List.mem_map]; exact ⟨p,hp,rfl⟩)]
  rw [this]
 case buildSlice t len parts =>
  have:(parts.toList.map fun p=>(p.1,ev p.2))=(parts.toList.map fun p=>(p.1,ev' p.2)):=List.map_congr_left fun p hp=>by rw [h p.2 (by simp only [Op.operands,List.mem_toArray,List.mem_map]; exact ⟨p,hp,rfl⟩)]
  rw [this]
 case index t x i=>rw [h x (by simp [Op.operands]),h i (by simp [Op.operands])]
 case makeSlice t x y=>rw [h x (by simp [Op.operands]),h y (by simp [Op.operands])]
 case slice t x lo hi mx =>
  have o1:∀ (y:Option Operand),(∀ x∈y,ev x=ev' x)→y.map ev=y.map ev':=fun y hy=>by
   cases y with
   | none=>rfl
   | some y=>simp only [Option.map_some]; rw [hy y rfl]
  rw [h x (by simp [Op.operands]),o1 lo (fun y hy=>h y (by cases hy; simp [Op.operands])),o1 hi (fun y hy=>h y (by cases hy; simp [Op.operands]))]
 case extract x i=>rw [h x (by simp [Op.operands])]
 case call q =>
  obtain ⟨callee,args,ts⟩:=q
  cases callee with
  | invoke r m=>rfl
  | value f =>
   have h1:ev f=ev' f:=h f (by simp [Op.operands,Call.operands])
   have h2:args.toList.map ev=args.toList.map ev':=e1 args (fun x hx=>h x (by simp [Op.operands,Call.operands,hx]))
   simp only [h1,h2]
  | builtin b =>
   have h2:∀ x∈args,ev x=ev' x:=fun x hx=>h x (by simp [Op.operands,Call.operands,hx])
   simp only
   unfold pBuiltin
   split
   ·rename_i x t ts' hargs _
    rw [h2 x (by rw [← Array.mem_toList_iff,hargs]; simp)]
   ·rename_i x xs hargs
    rw [h2 x (by rw [← Array.mem_toList_iff,hargs]; simp),List.map_congr_left fun y hy=>h2 y (by rw [← Array.mem_toList_iff,hargs]; simp [hy])]
   ·rename_i x xs hargs
    rw [h2 x (by rw [← Array.mem_toList_iff,hargs]; simp),List.map_congr_left fun y hy=>h2 y (by rw [← Array.mem_toList_iff,hargs]; simp [hy])]
   ·rename_i x y t t' hargs _
    rw [h2 x (by rw [← Array.mem_toList_iff,hargs]; simp),h2 y (by rw [← Array.mem_toList_iff,hargs]; simp)]
   ·rename_i x y t t' hargs _
    rw [h2 x (by rw [← Array.mem_toList_iff,hargs]; simp),h2 y (by rw [← Array.mem_toList_iff,hargs]; simp)]
   ·rename_i x t hargs _
    rw [h2 x (by rw [← Array.mem_toList_iff,hargs]; simp)]
   ·rename_i x t hargs _
    rw [h2 x (by rw [← Array.mem_toList_iff,hargs]; simp)]
   ·rfl
theorem bad_ed {e:Nat × Option Blk} (h:e∈Perf.bad.ed):False:=by cases h
theorem eds_nid {nid:Nat}:∀ {rs:Rs} {y:rs.den} {e:Nat × Option Blk},e∈rs.eds nid y→e.1=nid:=by
 have one:∀ (r:RT) (y:r.den) (e:Nat × Option Blk),e∈r.ed nid y→e.1=nid:=by
  intro r y e he
  cases r with
  | dp t=>cases he
  | dn e=>cases he
  | ow e' tid=>obtain rfl:=List.mem_singleton.1 he; rfl
 intro rs
 induction rs with
 | none=>intro y e he; cases he
 | one r=>intro y e he; exact one r y e he
 | more r rs ih =>
  intro y e he
  rcases List.mem_append.1 he with he | he
  ·exact one r _ e he
  ·exact ih he
theorem append_ed {hp:Nat→Option Blk} {nid:Nat} {t t':TypeId} {x y:AV} {e:Nat × Option Blk} (he:e∈(pAppend P c hp nid t t' x y).ed):e.1=nid∨hp e.1≠none:=by
 unfold pAppend at he
 split at he
 ·split at he
  ·split at he
   ·cases he
   ·split at he
    ·cases he
    ·split at he
     ·obtain rfl:=List.mem_singleton.1 he; exact .inl rfl
     ·rename_i b
      split at he
      ·rename_i hb
       split at he
       ·rcases List.mem_cons.1 he with he | he
        ·subst he; exact .inr (by simp [hb])
        ·obtain rfl:=List.mem_singleton.1 he; exact .inl rfl
       ·cases he
      ·cases he
     ·cases he
  ·cases he
 ·cases he
theorem append_edY {hp:Nat→Option Blk} {nid:Nat} {t t':TypeId} {x y:AV} {e:Nat × Option Blk} (he:e∈(pAppendY P c hp nid t t' x y).ed):e.1=nid∨hp e.1≠none:=by
 unfold pAppendY at he
 split at he
 ·exact append_ed he
 ·unfold pAppendZ at he
  split at he
  ·split at he
   ·split at he
    ·obtain rfl:=List.mem_singleton.1 he; exact .inl rfl
    ·cases he
   ·cases he
  ·cases he
theorem load_ed {hp:Nat→Option Blk} {t:TypeId} {x:AV} {e:Nat × Option Blk} (he:e∈(pLoad c hp t x).ed):False:=by
 unfold pLoad at he
 split at he
 ·cases he
 ·split at he
  ·split at he
   ·split at he <;> cases he
   ·cases he
  ·split at he
   ·split at he <;> cases he
   ·cases he
  ·cases he
theorem store_ed {hp:Nat→Option Blk} {t:TypeId} {x y:AV} {e:Nat × Option Blk} (he:e∈(pStore c hp t x y).ed):hp e.1≠none:=by
 unfold pStore at he
 split at he
 ·cases he
 ·split at he
  ·split at he
   ·rename_i k hk
    split at he
    ·split at he
     ·obtain rfl:=List.mem_singleton.1 he
      rw [hk]; simp
     ·cases he
    ·cases he
   ·cases he
  ·cases he
theorem perf_ed {op:Op} {hp:Nat→Option Blk} {nid:Nat} {ev:Operand→AV} {ans:Ans} {e:Nat × Option Blk} (he:e∈(perf P c hp nid ev ans op).ed):e.1=nid∨(turns c op=true∧hp e.1≠none):=by
 cases op <;> simp only [perf] at he <;> first | exact (bad_ed he).elim | cases he; done | skip
 case pick q x y=>unfold pPick at he; split at he <;> cases he
 case alloc t =>
  unfold pAlloc at he
  split at he
  ·cases he
  ·split at he
   ·obtain rfl:=List.mem_singleton.1 he; exact .inl rfl
   ·cases he
 case box t x =>
  unfold pBox at he
  split at he
  ·obtain rfl:=List.mem_singleton.1 he; exact .inl rfl
  ·split at he
   ·obtain rfl:=List.mem_singleton.1 he; exact .inl rfl
   ·cases he
  ·cases he
 case load t x =>
  unfold pLoadX at he
  split at he
  ·split at he
   ·split at he
    ·split at he
     ·split at he <;> cases he
     ·cases he
    ·exact (load_ed he).elim
   ·cases he
  ·exact (load_ed he).elim
 case store t x y =>
  unfold pStoreX at he
  split at he
  ·split at he
   ·rename_i k hk
    split at he
    ·unfold pStoreL at he
     split at he
     ·split at he
      ·split at he
       ·split at he
        ·obtain rfl:=List.mem_singleton.1 he
         exact .inr ⟨rfl,by rw [hk]; simp⟩
        ·cases he
       ·cases he
      ·cases he
     ·cases he
    ·exact .inr ⟨rfl,store_ed he⟩
   ·cases he
  ·exact .inr ⟨rfl,store_ed he⟩
 case nilCheck x=>unfold pNilCheck at he; split at he <;> cases he
 case binOp b xt x y yt =>
  unfold pBinN at he
  split at he
  ·have he:e∈([]:List (Nat × Option Blk)):=nilOf_ed (α:=Ty.den _) _ ▸ he
   cases he
  ·cases he
  unfold pBin at he
  split at he
  ·split at he
   ·exact (arith_ed he).elim
   ·exact (arith_ed he).elim
   ·split at he
    ·exact (arith_ed he).elim
    ·cases he
  ·split at he
   ·split at he
    ·split at he <;> cases he
    ·cases he
   ·cases he
  ·cases he
 case unOp b xt x=>unfold pUn at he; split at he <;> cases he
 case convert s d x =>
  unfold pConv at he
  split at he
  ·unfold pConvert at he; split at he <;> cases he
  ·cases he
 case makeFunc fn first caps=>unfold pMakeFunc at he; split at he <;> cases he
 case fieldAddr t x f =>
  unfold pFieldAddr at he
  split at he
  ·cases he
  ·split at he
   ·split at he
    ·split at he <;> cases he
    ·cases he
    ·cases he
   ·cases he
 case field t x f =>
  unfold pFieldX at he
  split at he
  ·repeat' split at he
   all_goals cases he
  unfold pField at he
  split at he
  ·cases he
  ·split at he
   ·cases he
   ·split at he
    ·split at he <;> cases he
    ·cases he
 case indexAddr t x i =>
  unfold pIndexAddr at he
  split at he
  ·split at he
   ·split at he
    ·split at he <;> cases he
    ·cases he
   ·split at he
    ·split at he <;> cases he
    ·cases he
   ·split at he
    ·split at he
     ·split at he <;> cases he
     ·cases he
    ·cases he
   ·split at he
    ·split at he
     ·split at he <;> cases he
     ·cases he
    ·cases he
   ·cases he
  ·cases he
 case extract x i =>
  unfold pExtract at he
  split at he
  ·split at he <;> cases he
  ·cases he
 case call q =>
  obtain ⟨callee,args,ts⟩:=q
  cases callee with
  | invoke r m=>cases he
  | value f =>
   simp only at he
   unfold pCall at he
   split at he
   ·split at he
    ·split at he
     ·split at he
      ·rename_i h _ _ _ _ x' y' hwr _ _
       unfold pCallHG at he
       split at he
       ·unfold pCallH at he
        split at he
        ·rename_i hb
         cases hro:h.ro with
         | true=>rw [hro] at he; cases he
         | false =>
          rw [hro,Bool.or_false] at hwr
          rw [hro] at he
          simp only [Bool.and_eq_true] at hb
          obtain ⟨b,hb',rfl⟩:=List.mem_map.1 he
          have hp2:=hb.2.1
          simp only [HSp.postB,HSp.fin,hro,Bool.and_eq_true] at hp2
          have hj:=(keysB_mem hp2.1 b hb').2
          have:=List.all_eq_true.1 hb.2.2.2.2.2 b.1 (List.mem_range.2 hj)
          refine .inr ⟨hwr,?_⟩
          intro hnone
          simp only at hnone
          rw [hnone] at this
          cases this
        ·cases he
       ·unfold pCallG at he
        split at he
        ·split at he
         ·rename_i hb
          simp only [Bool.and_eq_true,Bool.not_eq_true'] at hb
          have hro:=hb.2.2.2.2.2.2.1
          rw [hro,Bool.or_false] at hwr
          split at he
          ·rename_i hk0
           rcases List.mem_cons.1 he with he | he
           ·subst he
            refine .inr ⟨hwr,?_⟩
            intro hnone
            simp only at hnone
            rw [hnone] at hk0
            cases hk0
           ·obtain rfl:=List.mem_singleton.1 he
            exact .inl rfl
          ·cases he
         ·cases he
        ·cases he
      ·cases he
     ·cases he
    ·cases he
   ·split at he
    ·split at he
     ·split at he
      ·unfold pCallS at he
       split at he
       ·unfold pCallBy at he
        split at he
        ·split at he
         ·exact .inl (eds_nid he)
         ·cases he
        ·cases he
       ·rename_i hg
        simp only [Bool.and_eq_true] at hg
        unfold pCallW at he
        split at he
        ·split at he
         ·rename_i hk
          split at he
          ·split at he
           ·obtain rfl:=List.mem_singleton.1 he
            refine .inr ⟨hg.1,?_⟩
            rw [hk]; simp
           ·cases he
          ·cases he
         ·cases he
        ·cases he
       ·cases he
      ·cases he
     ·cases he
    ·split at he
     ·unfold pCallFn at he
      split at he
      ·split at he <;> cases he
      ·cases he
     ·cases he
    ·split at he
     ·unfold pCallFn2 at he
      split at he
      ·split at he <;> cases he
      ·cases he
     ·cases he
    ·cases he
   ·cases he
  | builtin b =>
   simp only at he
   unfold pBuiltin at he
   split at he
   ·unfold pLen at he
    split at he
    ·cases he
    ·split at he <;> cases he
    ·split at he <;> cases he
    ·cases he
    ·cases he
    ·cases he
   ·rw [pMin_ed] at he; cases he
   ·rw [pMax_ed] at he; cases he
   ·rcases append_edY he with he | he
    ·exact .inl he
    ·exact .inr ⟨rfl,he⟩
   ·unfold pCopyX at he
    split at he
    ·unfold pCopyO at he
     split at he
     ·rename_i hk
      split at he
      ·split at he
       ·obtain rfl:=List.mem_singleton.1 he
        exact .inr ⟨rfl,by rw [hk]; simp⟩
       ·cases he
      ·cases he
     ·cases he
    unfold pCopy at he
    split at he
    ·split at he
     ·rename_i b _ _ b' _ _ _ _ _ _ _ _
      unfold pCopyB at he
      split at he
      ·rename_i hk _
       split at he
       ·obtain rfl:=List.mem_singleton.1 he
        exact .inr ⟨rfl,by rw [hk]; simp⟩
       ·cases he
      ·cases he
     ·cases he
    ·cases he
   ·unfold pClear at he
    split at he
    ·split at he
     ·rename_i hk
      split at he
      ·obtain rfl:=List.mem_singleton.1 he
       exact .inr ⟨rfl,by rw [hk]; simp⟩
      ·cases he
     ·cases he
    ·cases he
   ·unfold pCapN at he
    split at he <;> cases he
   ·cases he
 case build t parts =>
  unfold pBuildX at he
  split at he
  ·repeat' split at he
   all_goals cases he
  unfold pBuild at he
  repeat' split at he
  all_goals cases he
 case buildSlice t len parts =>
  unfold pBuildSlice at he
  split at he
  ·split at he
   ·cases he
   ·split at he
    ·cases he
    ·split at he
     ·cases he
     ·split at he
      ·obtain rfl:=List.mem_singleton.1 he; exact .inl rfl
      ·cases he
      ·cases he
  ·cases he
 case makeSlice t x y =>
  unfold pMakeSlice at he
  split at he
  ·split at he
   ·split at he
    ·cases he
    ·split at he
     ·obtain rfl:=List.mem_singleton.1 he; exact .inl rfl
     ·cases he
   ·cases he
  ·cases he
 case index t x i =>
  unfold pIndex at he
  split at he
  ·split at he
   ·split at he <;> cases he
   ·unfold pIndexV at he
    repeat' split at he
    all_goals cases he
  ·cases he
 case slice t x lo hi mx =>
  unfold pSliceY at he
  split at he
  ·split at he
   ·unfold pSliceS at he
    repeat' split at he
    all_goals cases he
   ·unfold pSliceO at he
    split at he
    ·rename_i hk
     split at he
     ·split at he
      ·rcases List.mem_cons.1 he with he | he
       ·subst he
        exact .inr ⟨rfl,by simp only; rw [hk]; simp⟩
       ·obtain rfl:=List.mem_singleton.1 he
        exact .inl rfl
      ·cases he
     ·cases he
    ·cases he
  ·unfold pSliceN at he
   repeat' split at he
   all_goals cases he
  unfold pSliceX at he
  split at he
  ·unfold pSliceA at he
   split at he
   ·split at he
    ·split at he <;> cases he
    ·cases he
   ·cases he
  unfold pSlice at he
  split at he
  ·split at he
   ·split at he <;> cases he
   ·cases he
  ·cases he
end
end Go.Sx
namespace Go.Sx
section
variable {P:Program} {c:Ctx} {hide:Nat→Bool} {nid:Nat} {ops:Array Oper} {o:Oper} {anss:List Ans}
theorem step_eq (s:St):step P c hide nid ops o anss s=⟨putS c.n s.sl o.dst (delta P c hide nid ops o anss s).v,app s.hp (delta P c hide nid ops o anss s).ed,andP s.ok (delta P c hide nid ops o anss s).ob⟩:=rfl
theorem ev_congr {s s':St} (h:∀ t∈o.looksAt ops,s.sl t=s'.sl t):∀ x∈o.op.operands,s.ev x=s'.ev x:=by
 intro x hx
 cases x with
 | tmp t =>
  refine h t ?_
  unfold Oper.looksAt
  refine List.mem_append.2 (.inl (List.mem_filterMap.2 ⟨.tmp t,by simpa using hx,rfl⟩))
 | _=>rfl
theorem gslot_looks {d:Nat} {want:Bool} (h:gslot ops o=some (some d,want)):d∈o.looksAt ops:=by
 unfold gslot at h
 obtain ⟨g,hg,he⟩:=Option.map_eq_some_iff.1 h
 simp only [Prod.mk.injEq] at he
 unfold Oper.looksAt
 refine List.mem_append.2 (.inr ?_)
 rw [hg]
 simp [he.1]
theorem delta_congr {s s':St} (h:∀ t∈o.looksAt ops,s.sl t=s'.sl t) (hv:touches o.op=true→view hide s.hp=view hide s'.hp):delta P c hide nid ops o anss s=delta P c hide nid ops o anss s':=by
 have hp:∀ ans,perf P c (view hide s.hp) nid s.ev ans o.op=perf P c (view hide s'.hp) nid s'.ev ans o.op:=by
  intro ans
  rw [perf_ev (ev_congr h)]
  cases ht:touches o.op with
  | false=>exact perf_hp ht _ _ _ _ _
  | true=>rw [hv ht]
 unfold delta
 split
 ·rw [hp]
 ·rename_i d want hg
  rw [h d (gslot_looks hg)]
  split
  ·split
   ·rw [hp]
   ·rfl
  ·rfl
  ·rfl
 ·rfl
theorem delta_ed {s:St} {e:Nat × Option Blk} (he:e∈(delta P c hide nid ops o anss s).ed):e.1=nid∨(turns c o.op=true∧view hide s.hp e.1≠none):=by
 unfold delta at he
 split at he
 ·exact perf_ed he
 ·split at he
  ·split at he
   ·exact perf_ed he
   ·cases he
  ·cases he
  ·cases he
 ·cases he
theorem view_app {hp:Nat→Option Blk} {ed:List (Nat × Option Blk)} (h:∀ e∈ed,hide e.1=true):view hide (app hp ed)=view hide hp:=by
 funext b
 unfold view
 split
 ·rfl
 ·rename_i hb
  refine app_other fun e he hh=>?_
  rw [← hh,h e he] at hb
  cases hb
end
theorem putS_look {n:Nat} {sl:Nat→AV} {d:Option Nat} {v:AV} {t:Nat} (h:d≠some t):putS n sl d v t=sl t:=by
 cases d with
 | none=>rfl
 | some d =>
  have:Nat.beq t d=false:=beq_false (fun e=>h (by rw [e]))
  simp [putS,this]
theorem step_comm {P:Program} {c:Ctx} {ops:Array Oper} {o1 o2:Oper} {hide1 hide2:Nat→Bool} {nid1 nid2:Nat} {a1 a2:List Ans} (hap:o1.apart ops o2=true) (ht1:turns c o1.op=true→touches o2.op=true→∀ b,hide1 b=false→hide2 b=true) (ht2:turns c o2.op=true→touches o1.op=true→∀ b,hide2 b=false→hide1 b=true) (h12:hide1 nid2=true) (h21:hide2 nid1=true) (hne:nid1≠nid2) (s:St) :
  step P c hide2 nid2 ops o2 a2 (step P c hide1 nid1 ops o1 a1 s)=step P c hide1 nid1 ops o1 a1 (step P c hide2 nid2 ops o2 a2 s):=by
 have hvis:∀ (hide:Nat→Bool) (b:Nat),view hide s.hp b≠none→hide b=false:=by
  intro hide b hb
  cases hq:hide b with
  | false=>rfl
  | true=>exact absurd (by simp [view,hq]) hb
 obtain ⟨s1,s2,s3⟩:=Oper.apart_spec hap
 have key:∀ {o o':Oper} {hide hide':Nat→Bool} {nid nid':Nat} {a a':List Ans},(∀ d,o'.dst=some d→d ∉ o.looksAt ops)→(turns c o'.op=true→touches o.op=true→∀ b,hide' b=false→hide b=true)→hide nid'=true →
   delta P c hide nid ops o a (step P c hide' nid' ops o' a' s)=delta P c hide nid ops o a s:=by
  intro o o' hide hide' nid nid' a a' hl ht hh
  refine delta_congr (fun t htl=>?_) (fun htou=>?_)
  ·rw [step_eq]
   exact putS_look (fun e=>hl t e htl)
  ·rw [step_eq]
   refine view_app fun e he=>?_
   rcases delta_ed he with he | ⟨he,hv⟩
   ·rw [he]; exact hh
   ·exact ht he htou _ (hvis _ _ hv)
 have k1:=key (o:=o1) (o':=o2) (hide:=hide1) (hide':=hide2) (nid:=nid1) (nid':=nid2) (a:=a1) (a':=a2) s3 ht2 h12
 have k2:=key (o:=o2) (o':=o1) (hide:=hide2) (hide':=hide1) (nid:=nid2) (nid':=nid1) (a:=a2) (a':=a1) s1 ht1 h21
 have hed:∀ e∈(delta P c hide1 nid1 ops o1 a1 s).ed,∀ e'∈(delta P c hide2 nid2 ops o2 a2 s).ed,e.1≠e'.1:=by
  intro e he e' he' hh
  have touches_of:∀ op:Op,turns c op=true→touches op=true:=by intro op h; cases op <;> simp [turns] at h <;> rfl
  rcases delta_ed he with h1 | ⟨h1,h1'⟩
  ·rcases delta_ed he' with h2 | ⟨h2,h2'⟩
   ·exact hne (by rw [← h1,← h2,hh])
   ·have:=hvis _ _ h2'
    rw [← hh,h1,h21] at this
    cases this
  ·rcases delta_ed he' with h2 | ⟨h2,h2'⟩
   ·have:=hvis _ _ h1'
    rw [hh,h2,h12] at this
    cases this
   ·have q1:=hvis _ _ h1'
    have q2:=hvis _ _ h2'
    have:=ht1 h1 (touches_of _ h2) _ q1
    rw [hh,q2] at this
    cases this
 rw [step_eq (s:=step P c hide1 nid1 ops o1 a1 s),step_eq (s:=step P c hide2 nid2 ops o2 a2 s),k1,k2,step_eq (o:=o1) (s:=s),step_eq (o:=o2) (s:=s)]
 have e1:=putS_comm c.n s.sl (delta P c hide1 nid1 ops o1 a1 s).v (delta P c hide2 nid2 ops o2 a2 s).v s2
 have e2:=app_comm s.hp hed
 have e3:andP (andP s.ok (delta P c hide1 nid1 ops o1 a1 s).ob) (delta P c hide2 nid2 ops o2 a2 s).ob=andP (andP s.ok (delta P c hide2 nid2 ops o2 a2 s).ob) (delta P c hide1 nid1 ops o1 a1 s).ob :=
  propext (by rw [andP_iff,andP_iff,andP_iff,andP_iff]; exact ⟨fun h=>⟨⟨h.1.1,h.2⟩,h.1.2⟩,fun h=>⟨⟨h.1.1,h.2⟩,h.1.2⟩⟩)
 simp only
 rw [e1,e2,e3]
namespace Reg
variable {R:Reg}
def ins (D:Nat→Bool) (i:Nat):Nat→Bool:=fun j=>match Nat.beq j i with
 | true=>true
 | false=>D j
theorem ins_same (D:Nat→Bool) (i:Nat):ins D i i=true:=by simp [ins]
theorem ins_ne (D:Nat→Bool) {i j:Nat} (h:j≠i):ins D i j=D j:=by simp [ins,beq_false h]
theorem run_congr {D D':Nat→Bool} (s:St):∀ {n:Nat},(∀ j,j<n→D j=D' j)→R.run D n s=R.run D' n s:=by
 intro n
 induction n with
 | zero=>intro _; rfl
 | succ n ih =>
  intro h
  simp only [run]
  rw [ih (fun j hj=>h j (by omega)),h n (by omega)]
theorem run_ins {D:Nat→Bool} {i:Nat} (s:St) (hi:D i=false):∀ {n:Nat},i<n→(∀ j,i<j→j<n→D j=true→∀ s,R.T j (R.T i s)=R.T i (R.T j s))→R.run (ins D i) n s=R.T i (R.run D n s):=by
 intro n
 induction n with
 | zero=>intro h; omega
 | succ n ih =>
  intro hlt hc
  by_cases e:i=n
  ·subst e
   simp only [run,ins_same,hi]
   rw [run_congr s (fun j hj=>ins_ne D (by omega))]
  ·simp only [run]
   rw [ins_ne D (fun h=>e h.symm),ih (by omega) (fun j h1 h2=>hc j h1 (by omega))]
   cases hD:D n with
   | true=>exact hc n (by omega) (by omega) hD _
   | false=>rfl
def Down (R:Reg) (D:Nat→Bool):Prop:=∀ j oj,R.ops[j]?=some oj→D j=true→∀ e∈oj.after,Region.binds .any e=true→D e.on=true
theorem chk_edge (h:R.chk=true) {j:Nat} {oj:Oper} (hj:R.ops[j]?=some oj):∀ e∈oj.after,Region.binds .any e=true→e.on<j:=by
 have hlt:j<R.ops.size:=(Array.getElem?_eq_some_iff.1 hj).1
 have h1:=List.all_eq_true.1 h j (List.mem_range.2 hlt)
 rw [hj] at h1
 simp only [Bool.and_eq_true] at h1
 intro e he hb
 have h2:=List.all_eq_true.1 h1.1 e (by simpa using he)
 rw [hb] at h2
 simp only [Bool.not_true,Bool.false_or] at h2
 exact blt_true h2
theorem chk_pair (h:R.chk=true) {i j:Nat} {oi oj:Oper} (hij:i<j) (hi:R.ops[i]?=some oi) (hj:R.ops[j]?=some oj) :
  Nat.testBit (R.tbl.getD i 0) j=false∧((Nat.testBit (R.tbl.getD j 0) i=true∧∃ e∈oj.after,Region.binds .any e=true∧(e.on=i∨Nat.testBit (R.tbl.getD e.on 0) i=true)) ∨
  (Nat.testBit (R.tbl.getD j 0) i=false∧comm R.c R.ops oi oj (R.src.getD i .unk) (R.src.getD j .unk)=true)):=by
 have hlt:j<R.ops.size:=(Array.getElem?_eq_some_iff.1 hj).1
 have h1:=List.all_eq_true.1 h j (List.mem_range.2 hlt)
 rw [hj] at h1
 simp only [Bool.and_eq_true] at h1
 have h2:=List.all_eq_true.1 h1.2 i (List.mem_range.2 hij)
 rw [hi] at h2
 simp only at h2
 split at h2
 ·rename_i ht
  simp only [Bool.and_eq_true,Bool.not_eq_true'] at h2
  obtain ⟨e,he,hh⟩:=List.any_eq_true.1 h2.1
  simp only [Bool.and_eq_true,Bool.or_eq_true] at hh
  refine ⟨h2.2,.inl ⟨ht,e,by simpa using he,hh.1,?_⟩⟩
  rcases hh.2 with h | h
  ·exact .inl (Nat.eq_of_beq_eq_true h)
  ·exact .inr h
 ·rename_i ht
  simp only [Bool.and_eq_true,Bool.not_eq_true'] at h2
  exact ⟨h2.2,.inr ⟨ht,h2.1⟩⟩
theorem down_mask (h:R.chk=true) {D:Nat→Bool} (hD:R.Down D):∀ (j:Nat) {i:Nat} {oi oj:Oper},i<j→R.ops[i]?=some oi→R.ops[j]?=some oj→D j=true→Nat.testBit (R.tbl.getD j 0) i=true→D i=true:=by
 intro j
 induction j using Nat.strongRecOn with
 | _ j ih =>
  intro i oi oj hij hi hj hDj ht
  rcases (chk_pair h hij hi hj).2 with ⟨_,e,he,hb,h1⟩ | ⟨h1,_⟩
  ·have hlt:=chk_edge h hj e he hb
   have hDe:=hD j oj hj hDj e he hb
   rcases h1 with rfl | h1
   ·exact hDe
   ·have hje:e.on<R.ops.size:=Nat.lt_trans hlt (Array.getElem?_eq_some_iff.1 hj).1
    by_cases hie:i<e.on
    ·exact ih e.on hlt hie hi (Array.getElem?_eq_getElem hje) hDe h1
    ·by_cases hie2:i=e.on
     ·rw [hie2]; exact hDe
     ·have:=(chk_pair h (show e.on<i by omega) (Array.getElem?_eq_getElem hje) hi).1
      rw [this] at h1; cases h1
  ·rw [h1] at ht; cases ht
end Reg
end Go.Sx
namespace Go.Sx
namespace Reg
variable {R:Reg}
def hide (R:Reg) (i:Nat):Nat→Bool:=fun b=>hideOf R.n0 R.ops.size (R.tbl.getD i 0) b || srcHide (R.src.getD i .unk) b
theorem T_some {i:Nat} {o:Oper} (h:R.ops[i]?=some o) (s:St):R.T i s=step R.P R.c (R.hide i) (R.n0+i) R.ops o (R.anss.getD i []) s:=by
 unfold T
 rw [h]
 rfl
theorem T_mono {i:Nat} {s:St} (h:(R.T i s).ok):s.ok:=by
 unfold T at h
 split at h
 ·exact step_mono h
 ·exact h
theorem run_mono {D:Nat→Bool} {s:St}:∀ {n:Nat},(R.run D n s).ok→s.ok:=by
 intro n
 induction n with
 | zero=>exact id
 | succ n ih =>
  intro h
  simp only [run] at h
  split at h
  ·exact ih (T_mono h)
  ·exact ih h
theorem hide_of {i j:Nat} (hj:j<R.ops.size) (h:Nat.testBit (R.tbl.getD i 0) j=false):R.hide i (R.n0+j)=true:=by
 have h1:Nat.ble R.n0 (R.n0+j)=true:=by rw [Nat.ble_eq]; omega
 have h2:Nat.blt (R.n0+j) (R.n0+R.ops.size)=true:=by
  show Nat.ble (R.n0+j+1) (R.n0+R.ops.size)=true
  rw [Nat.ble_eq]; omega
 have h3:R.n0+j - R.n0=j:=by omega
 simp only [hide,hideOf,h1,h2,h3,h,Bool.not_false,Bool.and_self,Bool.true_or]
theorem T_comm (h:R.chk=true) {D:Nat→Bool} (hD:R.Down D) {i j:Nat} (hij:i<j) (hj:j<R.ops.size) (hDj:D j=true) (hDi:D i=false) (s:St):R.T j (R.T i s)=R.T i (R.T j s):=by
 have hi':i<R.ops.size:=by omega
 have ei:=Array.getElem?_eq_getElem hi'
 have ej:=Array.getElem?_eq_getElem hj
 obtain ⟨h1,h2⟩:=chk_pair h hij ei ej
 rcases h2 with ⟨h2,_⟩ | ⟨h2,h3⟩
 ·have:=down_mask h hD j hij ei ej hDj h2
  rw [this] at hDi; cases hDi
 ·rw [T_some ei,T_some ej,T_some ej,T_some ei]
  simp only [comm,Bool.and_eq_true,Bool.or_eq_true,Bool.not_eq_true',Bool.and_eq_false_iff] at h3
  obtain ⟨h3,h4,h5⟩:=h3
  have sep:∀ {i j:Nat} {t u:Bool},(t=false∨u=false)∨apartS (R.src.getD i .unk) (R.src.getD j .unk)=true→t=true→u=true→∀ b,R.hide i b=false→R.hide j b=true:=by
   intro i j t u hh ht hu b hb
   rcases hh with (hh | hh) | hh
   ·rw [hh] at ht; cases ht
   ·rw [hh] at hu; cases hu
   ·simp only [hide,Bool.or_eq_false_iff] at hb
    simp only [hide,apartS_hide hh hb.2,Bool.or_true]
  exact step_comm h3 (sep h4) (sep h5) (hide_of hj h1) (hide_of hi' h2) (by omega) s
theorem run_add (h:R.chk=true) {D:Nat→Bool} (hD:R.Down D) {i:Nat} (hi:i<R.ops.size) (hDi:D i=false) (s:St):R.run (ins D i) R.ops.size s=R.T i (R.run D R.ops.size s) :=
 run_ins s hDi hi fun _ h1 h2 h3 s'=>T_comm h hD h1 h2 h3 hDi s'
theorem down_ins {D:Nat→Bool} (hD:R.Down D) {i:Nat} {oi:Oper} (hi:R.ops[i]?=some oi) (he:∀ e∈oi.after,Region.binds .any e=true→D e.on=true):R.Down (ins D i):=by
 intro j oj hj hDj e hee hb
 by_cases hji:j=i
 ·subst hji
  rw [hj] at hi
  obtain rfl:=Option.some.inj hi
  by_cases h:e.on=j
  ·rw [h]; exact ins_same D j
  ·rw [ins_ne D h]; exact he e hee hb
 ·rw [ins_ne D hji] at hDj
  by_cases h:e.on=i
  ·rw [h]; exact ins_same D i
  ·rw [ins_ne D h]; exact hD j oj hj hDj e hee hb
def left (D:Nat→Bool):Nat→Nat
 | 0=>0
 | n+1=>left D n+(match D n with | true=>0 | false=>1)
theorem left_ins {D:Nat→Bool} {i:Nat} (hi:D i=false):∀ {n:Nat},i<n→left (ins D i) n+1=left D n:=by
 have same:∀ {n:Nat},n≤i→left (ins D i) n=left D n:=by
  intro n
  induction n with
  | zero=>intro _; rfl
  | succ n ih=>intro h; simp only [left]; rw [ih (by omega),ins_ne D (by omega)]
 intro n
 induction n with
 | zero=>intro h; omega
 | succ n ih =>
  intro h
  by_cases e:i=n
  ·subst e
   simp only [left,ins_same,hi,same (Nat.le_refl _)]
  ·simp only [left]
   rw [ins_ne D (fun h=>e h.symm)]
   have:=ih (by omega)
   omega
theorem left_zero {D:Nat→Bool}:∀ {n:Nat},left D n=0→∀ j,j<n→D j=true:=by
 intro n
 induction n with
 | zero=>intro _ j hj; omega
 | succ n ih =>
  intro h j hj
  simp only [left] at h
  cases hD:D n with
  | false=>rw [hD] at h; simp only at h; omega
  | true =>
   rw [hD] at h
   simp only at h
   by_cases e:j=n
   ·rw [e]; exact hD
   ·exact ih (by omega) j (by omega)
theorem next_of (h:R.chk=true) {D:Nat→Bool}:∀ (n:Nat),n≤R.ops.size→left D n≠0→∃ i oi,i<n∧R.ops[i]?=some oi∧D i=false∧∀ e∈oi.after,Region.binds .any e=true→D e.on=true:=by
 intro n
 induction n with
 | zero=>intro _ h; exact absurd rfl h
 | succ n ih =>
  intro hn hl
  by_cases h0:left D n=0
  ·have hall:=left_zero h0
   simp only [left,h0] at hl
   cases hD:D n with
   | true=>rw [hD] at hl; exact absurd rfl hl
   | false =>
    have ej:=Array.getElem?_eq_getElem (xs:=R.ops) (show n<R.ops.size by omega)
    exact ⟨n,_,by omega,ej,hD,fun e he hb=>hall _ (chk_edge h ej e he hb)⟩
  ·obtain ⟨i,oi,h1,h2⟩:=ih (by omega) h0
   exact ⟨i,oi,by omega,h2⟩
theorem run_ok (h:R.chk=true) (s:St) (hok:(R.run (fun _=>true) R.ops.size s).ok):∀ (k:Nat) (D:Nat→Bool),R.Down D→left D R.ops.size=k→(R.run D R.ops.size s).ok:=by
 intro k
 induction k with
 | zero =>
  intro D _ hl
  have:=left_zero hl
  rw [run_congr s (fun j hj=>this j hj)]
  exact hok
 | succ k ih =>
  intro D hD hl
  obtain ⟨i,oi,h1,h2,h3,h4⟩:=next_of (D:=D) h R.ops.size (Nat.le_refl _) (by omega)
  have hr:=ih (ins D i) (down_ins hD h2 h4) (by have:=left_ins h3 h1; omega)
  rw [run_add h hD h1 h3] at hr
  exact T_mono hr
def names (R:Reg) (D:Nat→Bool) (b:Nat):Prop:=b<R.n0∨∃ i,i<R.ops.size∧D i=true∧b=R.n0+i
variable {cx:Cx}
theorem wp_any (hP:R.P=cx.P) (hc:CtxOk cx.P R.c) (hn:R.c.n=cx.n) (hE:R.c.pin=cx.np) (h:R.chk=true) {s:St} (hok:(R.run (fun _=>true) R.ops.size s).ok) {Q:Exit→Act→World→Prop}
  (hQ:∀ ρ a w,M cx ρ (fun b=>b<R.n0+R.ops.size) (R.run (fun _=>true) R.ops.size s) a w→Q .normal a w) :
  ∀ (fuel:Nat) (listed:Array Bool) (ρ:Nat→Value) (a:Act) (w:World),listed.size=R.ops.size→R.Down (fun i=>listed.getD i false)→left (fun i=>listed.getD i false) R.ops.size≤fuel →
   M cx ρ (R.names fun i=>listed.getD i false) (R.run (fun i=>listed.getD i false) R.ops.size s) a w→wpAny cx.P .any R.ops Q fuel listed a w:=by
 have fin:∀ (listed:Array Bool) (ρ:Nat→Value) (a:Act) (w:World),left (fun i=>listed.getD i false) R.ops.size=0 →
   M cx ρ (R.names fun i=>listed.getD i false) (R.run (fun i=>listed.getD i false) R.ops.size s) a w→Q .normal a w:=by
  intro listed ρ a w hl hM
  have hall:=left_zero hl
  rw [run_congr s (D':=fun _=>true) (fun j hj=>hall j hj)] at hM
  refine hQ ρ a w (hM.widen fun b hb=>?_)
  rcases hb with hb | ⟨i,hi,_,rfl⟩ <;> omega
 have ready0:∀ (listed:Array Bool),listed.size=R.ops.size→Region.ready .any R.ops listed=[]→left (fun i=>listed.getD i false) R.ops.size=0:=by
  intro listed hsz hr
  cases hl:left (fun i=>listed.getD i false) R.ops.size with
  | zero=>rfl
  | succ k =>
   obtain ⟨i,oi,h1,h2,h3,h4⟩:=next_of (D:=fun i=>listed.getD i false) h R.ops.size (Nat.le_refl _) (by omega)
   have:i∈Region.ready .any R.ops listed:=by
    refine mem_ready.2 ⟨?_,oi,h2,h4⟩
    have hlt:i<listed.size:=by omega
    simp only [Array.getD_eq_getD_getElem?,Array.getElem?_eq_getElem hlt,Option.getD_some] at h3 ⊢
    exact h3
   rw [hr] at this
   cases this
 intro fuel
 induction fuel with
 | zero =>
  intro listed ρ a w hsz hD hl hM
  have hl0:left (fun i=>listed.getD i false) R.ops.size=0:=by omega
  refine ⟨?_,fin listed ρ a w hl0 hM⟩
  cases hr:Region.ready .any R.ops listed with
  | nil=>rfl
  | cons i l =>
   have hi:i∈Region.ready .any R.ops listed:=by rw [hr]; exact List.mem_cons_self
   obtain ⟨h1,o,ho,_⟩:=mem_ready.1 hi
   have hlt:i<R.ops.size:=(Array.getElem?_eq_some_iff.1 ho).1
   have h2:=left_zero hl0 i hlt
   have hlt':i<listed.size:=by omega
   simp only [Array.getD_eq_getD_getElem?,Array.getElem?_eq_getElem hlt',Option.getD_some] at h1 h2
   rw [h1] at h2; cases h2
 | succ fuel ih =>
  intro listed ρ a w hsz hD hl hM
  refine ⟨fun hr=>fin listed ρ a w (ready0 listed hsz hr) hM,fun i hi=>?_⟩
  obtain ⟨h1,o,ho,h2⟩:=mem_ready.1 hi
  have hlt:i<R.ops.size:=(Array.getElem?_eq_some_iff.1 ho).1
  have hlt':i<listed.size:=by omega
  have hDi:listed.getD i false=false:=by
   simp only [Array.getD_eq_getD_getElem?,Array.getElem?_eq_getElem hlt',Option.getD_some] at h1 ⊢
   exact h1
  have hins:(fun j=>(listed.setIfInBounds i true).getD j false)=ins (fun i=>listed.getD i false) i:=by
   funext j
   by_cases e:j=i
   ·subst e
    rw [ins_same]
    simp [Array.getD_eq_getD_getElem?,hlt']
   ·rw [ins_ne _ e]
    simp only [Array.getD_eq_getD_getElem?]
    rw [Array.getElem?_setIfInBounds_ne (fun h=>e h.symm)]
  have hD':=down_ins hD ho h2
  have hrun:=run_add h hD hlt hDi s
  have hleft:=left_ins (D:=fun i=>listed.getD i false) hDi hlt
  have hokT:(R.T i (R.run (fun i=>listed.getD i false) R.ops.size s)).ok:=by
   rw [← hrun]
   exact run_ok h s hok _ _ hD' rfl
  rw [T_some ho] at hokT hrun
  rw [hP] at hokT hrun
  refine step_sound hc hn hE hM (nid:=R.n0+i) (fun hF=>?_) ho hokT fun ρ' a' w' hM'=>?_
  ·rcases hF with hF | ⟨j,_,hj,hjj⟩
   ·omega
   ·have:j=i:=by omega
    subst this
    have hj:listed.getD j false=true:=hj
    rw [hDi] at hj; cases hj
  ·refine ih (listed.setIfInBounds i true) ρ' a' w' (by rw [Array.size_setIfInBounds]; exact hsz) ?_ ?_ ?_
   ·rw [hins]; exact hD'
   ·rw [hins]; omega
   ·rw [hins,hrun]
    refine hM'.widen fun b hb=>?_
    rcases hb with (hb | ⟨j,hj,hDj,rfl⟩) | rfl
    ·exact .inl hb
    ·refine .inr ⟨j,hj,?_,rfl⟩
     by_cases e:j=i
     ·rw [e]; exact ins_same _ i
     ·rw [ins_ne _ e]; exact hDj
    ·exact .inr ⟨i,hlt,ins_same _ i,rfl⟩
theorem wp_seq (hP:R.P=cx.P) (hc:CtxOk cx.P R.c) (hn:R.c.n=cx.n) (hE:R.c.pin=cx.np) {s:St} (hok:(R.run (fun _=>true) R.ops.size s).ok) {Q:Exit→Act→World→Prop}
  (hQ:∀ ρ a w,M cx ρ (fun b=>b<R.n0+R.ops.size) (R.run (fun _=>true) R.ops.size s) a w→Q .normal a w) :
  ∀ (k j:Nat) (ρ:Nat→Value) (a:Act) (w:World),j+k=R.ops.size→M cx ρ (fun b=>b<R.n0+j) (R.run (fun _=>true) j s) a w→wpOps cx.P R.ops Q (List.range' j k) a w:=by
 have okj:∀ (k j:Nat),j+k=R.ops.size→(R.run (fun _=>true) j s).ok:=by
  intro k
  induction k with
  | zero =>
   intro j hj; have:j=R.ops.size:=by omega
   rw [this]; exact hok
  | succ k ih=>intro j hj; exact T_mono (i:=j) (ih (j+1) (by omega))
 intro k
 induction k with
 | zero =>
  intro j ρ a w hj hM
  have:j=R.ops.size:=by omega
  subst this
  exact hQ ρ a w hM
 | succ k ih =>
  intro j ρ a w hj hM
  have hlt:j<R.ops.size:=by omega
  have ho:=Array.getElem?_eq_getElem hlt
  rw [List.range'_succ,wpOps_cons]
  have hok':=okj k (j+1) (by omega)
  have hrun:R.run (fun _=>true) (j+1) s=R.T j (R.run (fun _=>true) j s):=rfl
  rw [hrun,T_some ho,hP] at hok'
  refine step_sound hc hn hE hM (nid:=R.n0+j) (fun hF=>by omega) ho hok' fun ρ' a' w' hM'=>?_
  refine ih (j+1) ρ' a' w' (by omega) ?_
  rw [hrun,T_some ho,hP]
  refine hM'.widen fun b hb=>?_
  rcases hb with hb | rfl <;> omega
theorem wp (hP:R.P=cx.P) (hc:CtxOk cx.P R.c) (hn:R.c.n=cx.n) (hE:R.c.pin=cx.np) (hmix:cx.P.follows .mixedOrders=true) {draw:Bool} (h:draw=true→R.chk=true) {s:St} (hok:(R.run (fun _=>true) R.ops.size s).ok)
  {ρ:Nat→Value} {a:Act} {w:World} (hM:M cx ρ (fun b=>b<R.n0) s a w) {Q:Exit→Act→World→Prop}
  (hQ:∀ ρ a w,M cx ρ (fun b=>b<R.n0+R.ops.size) (R.run (fun _=>true) R.ops.size s) a w→Q .normal a w) (id:Nat):(Code.region id R.ops draw).wp cx.P Q a w:=by
 cases draw with
 | false =>
  refine wp_region ?_
  rw [List.range_eq_range']
  exact wp_seq hP hc hn hE hok hQ R.ops.size 0 ρ a w (by omega) hM
 | true =>
  refine wp_region_any hmix ?_
  have hM':M cx ρ (fun b=>b<R.n0) s a w.drew:=hM.world (Below.refl _ _).drew
  have hz:∀ i,(Array.replicate R.ops.size false).getD i false=false:=by
   intro i
   simp only [Array.getD_eq_getD_getElem?,Array.getElem?_replicate]
   split <;> rfl
  have hr0:∀ n,R.run (fun i=>(Array.replicate R.ops.size false).getD i false) n s=s:=by
   intro n
   induction n with
   | zero=>rfl
   | succ n ih=>simp only [run]; rw [hz,ih]
  have hl0:∀ n,left (fun i=>(Array.replicate R.ops.size false).getD i false) n≤n:=by
   intro n
   induction n with
   | zero=>exact Nat.le_refl _
   | succ n ih=>simp only [left]; rw [hz]; simp only; omega
  refine wp_any hP hc hn hE (h rfl) hok hQ R.ops.size _ ρ a w.drew (by simp) (fun j oj _ hj=>by have hj:(Array.replicate R.ops.size false).getD j false=true:=hj; rw [hz] at hj; cases hj) (hl0 _) ?_
  rw [hr0]
  exact hM'.widen fun b hb=>.inl hb
end Reg
end Go.Sx
