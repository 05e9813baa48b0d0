import Derived.Test.YthpbadopmihmpaaGreatSxExt
import Derived.Laws.StructEq
namespace Go.Sx
mutual
def eqT (P:Program):Nat→TypeId→Ty→Bool
 | 0,_,_=>false
 | d+1,t,ty=>tyOk P t ty && match P.underlying t,ty with
  | some (.int _),.int _=>true
  | some .bool,.bool=>true
  | some (.array len t'),.arr n e=>Nat.beq len n && eqT P d t' e
  | some (.struct fs),ty=>!(P.stoodInHeld t) && eqFs P d fs.toList 0 ty
  | _,_=>false
def eqFs (P:Program):Nat→List Field→Nat→Ty→Bool
 | 0,_,_,_=>false
 | _+1,[],_,.unit=>true
 | d+1,f :: fs,off,.pair a b=>!(f.name == "_") && (Nat.beq f.offset off && (eqT P d f.type a && eqFs P d fs (off+a.size) b))
 | _+1,_,_,_=>false
end
theorem eqbs_range {α:Type} (f:α→α→Bool) (z:α):∀ (n s:Nat) (l m:List α),l.length=s+n→m.length=s+n →
  ((List.range' s n).all fun i=>f (l.getD i z) (m.getD i z))=eqbs f (l.drop s) (m.drop s)
 | 0,s,l,m,hl,hm=>by
  rw [List.drop_of_length_le (by omega),List.drop_of_length_le (by omega)]
  rfl
 | n+1,s,l,m,hl,hm=>by
  have ih:=eqbs_range f z n (s+1) l m (by omega) (by omega)
  rw [List.drop_eq_getElem_cons (i:=s) (by omega),List.drop_eq_getElem_cons (l:=m) (i:=s) (by omega),List.range'_succ,List.all_cons,ih]
  simp [eqbs,List.getD,List.getElem?_eq_getElem (show s<l.length by omega),List.getElem?_eq_getElem (show s<m.length by omega)]
theorem fieldsOf_eq {P:Program} {t:TypeId} {fs:Array Field} (h:P.underlying t=some (.struct fs)):P.underlying t=some (.struct (P.fieldsOf t)):=by
 rw [h]
 unfold Program.fieldsOf
 rw [h]
theorem fieldsOf_is {P:Program} {t:TypeId} {fs:Array Field} (h:P.underlying t=some (.struct fs)):P.fieldsOf t=fs:=by
 have:=fieldsOf_eq h
 rw [h] at this
 simpa using this.symm
section
variable {P:Program} {ρ:Nat→Value} {I:Nat→Prop} {w:World}
theorem run_equalIn_arr (n:Nat) (t t':TypeId) (len sz:Nat) (xs ys:Array Value) (x y:Nat→Value) (b:Nat→Bool)
  (hu:P.underlying t=some (.array len t')) (hs:(sizeOf t').run P w=.ok sz w)
  (hx:∀ i,i<len→(part t' xs (i*sz)).run P w=.ok (x i) w) (hy:∀ i,i<len→(part t' ys (i*sz)).run P w=.ok (y i) w)
  (hb:∀ i,i<len→(Op.equalIn n t' (x i) (y i)).run P w=.ok (b i) w) :
  (Op.equalIn (n+1) t (.agg xs) (.agg ys)).run P w=.ok ((List.range' 0 len).all b) w:=by
 simp only [Op.equalIn,Sem.run_bind,run_underlying hu,Result.andThen_ok,hs]
 simp only [Std.Legacy.Range.forIn_eq_forIn_range',Std.Legacy.Range.size,Nat.sub_zero,Nat.add_sub_cancel,Nat.div_one]
 have key:∀ k s,s+k=len→∀ i∈List.range' s k,i<len:=by
  intro k s h i hi
  have:=List.mem_range'_1.1 hi
  omega
 have hall:=key len 0 (by omega)
 clear key
 generalize List.range' 0 len=l at hall ⊢
 induction l with
 | nil=>simp
 | cons i l ih =>
  have hi:=hall i List.mem_cons_self
  simp only [List.forIn_cons,Sem.run_bind,hx i hi,hy i hi,hb i hi,Result.andThen_ok,List.all_cons]
  cases b i with
  | false=>simp
  | true=>simpa using ih fun j hj=>hall j (List.mem_cons_of_mem _ hj)
theorem eq_sound:∀ (d:Nat),
  (∀ (n:Nat) (t:TypeId) (ty:Ty) (X Y:ty.den) (u v:Value),d≤n→eqT P d t ty=true→RdV P ty ρ w I X u→RdV P ty ρ w I Y v→(Op.equalIn (n+1) t u v).run P w=.ok (ty.eqb X Y) w) ∧
  (∀ (n:Nat) (fs:List Field) (off:Nat) (ty:Ty) (X Y:ty.den) (xs ys:Array Value) (p1 c1 p2 c2:List Value),d≤n→eqFs P d fs off ty=true→xs.toList=p1++c1→ys.toList=p2++c2→p1.length=off→p2.length=off →
   Rd P ty false ρ w I X c1→Rd P ty false ρ w I Y c2→(Op.eqFields (n+1) xs ys fs).run P w=.ok (ty.eqb X Y) w):=by
 intro d
 induction d with
 | zero=>exact ⟨fun n t ty X Y u v _ h=>by simp [eqT] at h,fun n fs off ty X Y xs ys p1 c1 p2 c2 _ h=>by simp [eqFs] at h⟩
 | succ d ih =>
  constructor
  ·intro n t ty X Y u v hn h hu hv
   unfold eqT at h
   simp only [Bool.and_eq_true] at h
   obtain ⟨hty,h⟩:=h
   split at h
   ·rename_i k k' hut
    have hu:=RV_int hu
    have hv:=RV_int hv
    subst hu hv
    exact run_equalIn_int w n t k' _ X Y hut
   ·rename_i hut
    have hu:=RV_bool hu
    have hv:=RV_bool hv
    subst hu hv
    exact run_equalIn_bool' w n t X Y hut
   ·rename_i len t' n' e hut
    simp only [Bool.and_eq_true] at h
    obtain ⟨hlen,he⟩:=h
    obtain rfl:=Nat.eq_of_beq_eq_true hlen
    obtain ⟨cu,rfl,hcu⟩:=hu
    obtain ⟨cv,rfl,hcv⟩:=hv
    have hte:tyOk P t' e=true:=by
     cases d with
     | zero=>simp [eqT] at he
     | succ d =>
      unfold eqT at he
      simp only [Bool.and_eq_true] at he
      exact he.1
    obtain ⟨i0,d0,hi0,hs0,_,_⟩:=tyOk_sound hte
    have hsz:(sizeOf t').run P w=.ok e.size w:=by
     simp only [sizeOf,typeInfo,Sem.run_bind,run_program,Result.andThen_ok,hi0,Sem.run_pure,hs0]
    have e1:mkV (.arr len e) cu=.agg cu.toArray:=rfl
    have e2:mkV (.arr len e) cv=.agg cv.toArray:=rfl
    rw [e1,e2]
    have hXl:(X:List e.den).length=len:=hcu.1
    have hYl:(Y:List e.den).length=len:=hcv.1
    have hg:∀ (Z:List e.den) (c:List Value),Rd P (.arr len e) false ρ w I Z c→∀ i,i<len→∃ v,(part t' c.toArray (i*e.size)).run P w=.ok v w∧RdV P e ρ w I (Z.getD i e.zero) v:=by
     intro Z c hZ i hi
     obtain ⟨pre,ci,post,h1,h2,h3,_⟩:=elemAt hZ hi e.zero
     refine ⟨mkV e ci,?_,ci,rfl,h3⟩
     rw [← h2]
     exact run_part (P:=P) (w:=w) hte (by rw [← h1]) h3.length
    cases n with
    | zero =>
     have:d=0:=by omega
     subst this
     simp [eqT] at he
    | succ n =>
     have hX:=hg X cu hcu
     have hY:=hg Y cv hcv
     let x:Nat→Value:=fun i=>if h:i<len then (hX i h).choose else .nilIface
     let y:Nat→Value:=fun i=>if h:i<len then (hY i h).choose else .nilIface
     have hx:∀ i (h:i<len),x i=(hX i h).choose:=fun i h=>dif_pos h
     have hy:∀ i (h:i<len),y i=(hY i h).choose:=fun i h=>dif_pos h
     rw [run_equalIn_arr (n+1) t t' len e.size _ _ x y (fun i=>e.eqb ((X:List e.den).getD i e.zero) ((Y:List e.den).getD i e.zero)) hut hsz
      (fun i hi=>by rw [hx i hi]; exact (hX i hi).choose_spec.1) (fun i hi=>by rw [hy i hi]; exact (hY i hi).choose_spec.1)
      (fun i hi=>by
       rw [hx i hi,hy i hi]
       exact ih.1 n t' e _ _ _ _ (by omega) he (hX i hi).choose_spec.2 (hY i hi).choose_spec.2)]
     have hfin:=eqbs_range e.eqb e.zero len 0 (X:List e.den) Y (by rw [hXl]; omega) (by rw [hYl]; omega)
     rw [hfin]
     rfl
   ·rename_i ty _ _ fs hut
    simp only [Bool.and_eq_true,Bool.not_eq_true'] at h
    have hagg:ty.agg=true:=by
     unfold tyOk at hty
     split at hty
     ·cases hty
     ·rw [hut] at hty
      simp only [Bool.and_eq_true] at hty
      exact hty.2
    obtain ⟨cu,rfl,hcu⟩:=hu
    obtain ⟨cv,rfl,hcv⟩:=hv
    have e1:mkV ty cu=.agg cu.toArray:=by simp [mkV,hagg]
    have e2:mkV ty cv=.agg cv.toArray:=by simp [mkV,hagg]
    rw [e1,e2,run_equalIn_agg w n t _ _ (fieldsOf_eq hut) h.1,fieldsOf_is hut]
    cases n with
    | zero=>omega
    | succ n=>exact ih.2 n fs.toList 0 ty X Y _ _ [] cu [] cv (by omega) h.2 (by simp) (by simp) rfl rfl hcu hcv
   ·cases h
  ·intro n fs off ty X Y xs ys p1 c1 p2 c2 hn h hx hy hp1 hp2 hX hY
   cases fs with
   | nil =>
    cases ty with
    | unit=>simp [Op.eqFields,Ty.eqb]
    | _=>simp [eqFs] at h
   | cons f fs =>
    cases ty with
    | pair a b =>
     simp only [eqFs,Bool.and_eq_true,Bool.not_eq_true'] at h
     obtain ⟨hname,hoff,ha,hb⟩:=h
     have hoff:=Nat.eq_of_beq_eq_true hoff
     obtain ⟨x1,x2,rfl,hx1,hx2⟩:=hX
     obtain ⟨y1,y2,rfl,hy1,hy2⟩:=hY
     have hty:tyOk P f.type a=true:=by
      cases d with
      | zero=>simp [eqT] at ha
      | succ d =>
       unfold eqT at ha
       simp only [Bool.and_eq_true] at ha
       exact ha.1
     have q1:=run_part (P:=P) (w:=w) hty (cs:=xs) (pre:=p1) (cc:=x1) (post:=x2) (by rw [hx]; simp) hx1.length
     have q2:=run_part (P:=P) (w:=w) hty (cs:=ys) (pre:=p2) (cc:=y1) (post:=y2) (by rw [hy]; simp) hy1.length
     rw [hp1,← hoff] at q1
     rw [hp2,← hoff] at q2
     have q3:=ih.1 n f.type a X.1 Y.1 _ _ (by omega) ha ⟨x1,rfl,hx1⟩ ⟨y1,rfl,hy1⟩
     cases n with
     | zero =>
      have:d=0:=by omega
      subst this
      simp [eqFs] at hb
     | succ n =>
      have q4:=ih.2 (n+1) fs (off+a.size) b X.2 Y.2 xs ys (p1++x1) x2 (p2++y1) y2 (by omega) hb (by rw [hx]; simp) (by rw [hy]; simp) (by simp [hp1,hx1.length]) (by simp [hp2,hy1.length]) hx2 hy2
      have hn':f.name≠"_":=by simpa using hname
      rw [Op.eqFields]
      simp only [if_pos hn',Sem.run_bind,q1,q2,q3,Result.andThen_ok]
      show _=Result.ok (a.eqb X.1 Y.1 && b.eqb X.2 Y.2) w
      cases a.eqb X.1 Y.1 with
      | false=>simp
      | true=>simpa using q4
    | _=>simp [eqFs] at h
end
theorem eqOk_struct {P:Program} {t:TypeId} {ty:Ty} (h:eqT P 50 t ty=true) (hg:P.eqGuardType P.depth t=false) (hagg:ty.agg=true):EqOk P t ty:=by
 intro ρ w I X Y u v x y hu hv
 have key:=(eq_sound (P:=P) (ρ:=ρ) (I:=I) (w:=w) 50).1 9999 t ty X Y u v (by omega) h hu hv
 obtain ⟨cu,rfl,hcu⟩:=hu
 obtain ⟨cv,rfl,hcv⟩:=hv
 have e1:mkV ty cu=.agg cu.toArray:=by simp [mkV,hagg]
 have e2:mkV ty cv=.agg cv.toArray:=by simp [mkV,hagg]
 rw [e1,e2] at key ⊢
 constructor
 ·simp only [Sem.run_bind,run_eqGuard_agg w .eql t x y _ _ hg,Result.andThen_ok,run_eql_struct,key]
 ·simp only [Sem.run_bind,run_eqGuard_agg w .neq t x y _ _ hg,Result.andThen_ok,run_neq_struct,key]
theorem eqOk_bool {P:Program} {t:TypeId} (h:P.underlying t=some .bool):EqOk P t .bool:=by
 intro ρ w I X Y u v x y hu hv
 have key:=run_equalIn_bool' (P:=P) w 9999 t X Y h
 have hu:=RV_bool hu
 have hv:=RV_bool hv
 subst hu hv
 have g:∀ op,(eqGuard op t x y (.bool X) (.bool Y)).run P w=.ok () w:=fun op=>run_eqGuard_bool op t x y X Y
 have key:(Op.equalIn 10000 t (.bool X) (.bool Y)).run P w=.ok (beqb X Y) w:=key
 constructor
 ·rw [Sem.run_bind,g]
  simp only [Result.andThen_ok]
  simp only [binOp]
  simp [Op.equal,Op.maxDepth,key,Ty.eqb]
 ·rw [Sem.run_bind,g]
  simp only [Result.andThen_ok]
  simp only [binOp]
  simp [Op.equal,Op.maxDepth,key,Ty.eqb]
def isBoolT:Option TypeDesc→Bool
 | some .bool=>true
 | _=>false
theorem isBoolT_eq {o:Option TypeDesc} (h:isBoolT o=true):o=some .bool:=by
 unfold isBoolT at h
 split at h
 ·rfl
 ·cases h
def eqsB1 (P:Program) (t:TypeId) (ty:Ty):Bool:=eqT P 50 t ty && (!(P.eqGuardType P.depth t) && ty.agg)
def eqsB (P:Program) (l:List (Nat × Ty)):Bool:=l.all fun x=>match x.2 with
 | .bool=>isBoolT (P.underlying x.1)
 | .pair a b=>eqsB1 P x.1 (.pair a b)
 | .arr n e=>eqsB1 P x.1 (.arr n e)
 | _=>false
theorem eqs_ok {P:Program} {l:List (Nat × Ty)} (h:eqsB P l=true):∀ t ty,(t,ty)∈l→EqOk P t ty:=by
 intro t ty hm
 have h1:=List.all_eq_true.1 h (t,ty) hm
 simp only at h1
 split at h1
 ·exact eqOk_bool (isBoolT_eq h1)
 ·simp only [eqsB1,Bool.and_eq_true,Bool.not_eq_true'] at h1
  exact eqOk_struct h1.1 h1.2.1 h1.2.2
 ·simp only [eqsB1,Bool.and_eq_true,Bool.not_eq_true'] at h1
  exact eqOk_struct h1.1 h1.2.1 h1.2.2
 ·cases h1
end Go.Sx
