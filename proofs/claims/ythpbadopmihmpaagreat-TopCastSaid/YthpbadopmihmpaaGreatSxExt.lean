import Derived.Test.YthpbadopmihmpaaGreatSxPure
import Derived.Shelf.Spec.BitsCarry
namespace Go.Sx
def carryPs:Ty:=.pair (.int .u64) (.pair (.int .u64) (.pair (.int .u64) .unit))
def carryRs:Rs:=.more (.dp (.int .u64)) (.one (.dp (.int .u64)))
def bits_Add64 (_:Nat) (x y c:Int):Option (Int × Int) :=
 req (0≤x) <| req (0≤y) <| req (0≤c) <| req (c≤1) <| some ((x+y+c) % 18446744073709551616,(x+y+c) / 18446744073709551616)
def bits_Sub64 (_:Nat) (x y c:Int):Option (Int × Int) :=
 req (0≤x) <| req (0≤y) <| req (0≤c) <| req (c≤1) <| req (y≤18446744073709551615) <|
  some ((x+18446744073709551616 - y - c) % 18446744073709551616,if x<y+c then 1 else 0)
noncomputable def bits_Add64.sp (k:Nat):Go.Sx.Spec:=⟨carryPs,carryRs,fun x=>bits_Add64 k x.1 x.2.1 x.2.2.1,false⟩
noncomputable def bits_Sub64.sp (k:Nat):Go.Sx.Spec:=⟨carryPs,carryRs,fun x=>bits_Sub64 k x.1 x.2.1 x.2.2.1,false⟩
theorem carry_args {P:Program} {w:World} {I:Nat→Prop} {x:carryPs.den} {args:List Value} (h:Rd P carryPs true ρ0 w I x args):args.toArray=#[.int .u64 x.1,.int .u64 x.2.1,.int .u64 x.2.2.1]:=by
 obtain ⟨c1,v1,rfl,h1,c2,v2,rfl,h2,c3,v3,rfl,h3,h4⟩:=h
 have h1:c1=[.int .u64 x.1]:=h1
 have h2:c2=[.int .u64 x.2.1]:=h2
 have h3:c3=[.int .u64 x.2.2.1]:=h3
 have h4:v3=[]:=h4
 subst h1 h2 h3 h4
 rfl
theorem carry_res {P:Program} {w:World} {ok:Nat→Prop} {y:carryRs.den}:ResOk P w w ok carryRs y (.tuple #[.int .u64 y.1,.int .u64 y.2])∧Below w.heap.size w w :=
 ⟨⟨fun _=>False,fun _ h=>h.elim,[.int .u64 y.1,.int .u64 y.2],rfl,.int .u64 y.1,[.int .u64 y.2],rfl,⟨[.int .u64 y.1],rfl,rfl⟩,.int .u64 y.2,rfl,[.int .u64 y.2],rfl,rfl⟩,Below.refl _ _⟩
theorem invOk_value {P:Program} {f:FuncId} {args:Array Value} {w w':World} {v:Value} {R:Value→World→Prop} (h:(callFunc f args).run P w=.ok (.value v) w') (hR:R v w'):InvOk P f args w R:=by
 intro o a next Q hn
 rw [h]
 exact hn v w' hR
theorem req_some {α:Type} {p:Prop} [Decidable p] {x:Option α} {y:α} (h:req p x=some y):p∧x=some y:=by
 unfold req at h
 split at h
 ·rename_i hp; exact ⟨hp,h⟩
 ·cases h
theorem add64_def {k:Nat} {x y c:Int} {r:Int × Int} (hy:bits_Add64 k x y c=some r):0≤x∧0≤y∧0≤c∧c≤1∧((x+y+c) % 18446744073709551616,(x+y+c) / 18446744073709551616)=r:=by
 unfold bits_Add64 at hy
 obtain ⟨h1,hy⟩:=req_some hy
 obtain ⟨h2,hy⟩:=req_some hy
 obtain ⟨h3,hy⟩:=req_some hy
 obtain ⟨h4,hy⟩:=req_some hy
 exact ⟨h1,h2,h3,h4,Option.some.inj hy⟩
theorem sub64_def {k:Nat} {x y c:Int} {r:Int × Int} (hy:bits_Sub64 k x y c=some r):0≤x∧0≤y∧0≤c∧c≤1∧y≤18446744073709551615 ∧
  ((x+18446744073709551616 - y - c) % 18446744073709551616,if x<y+c then 1 else 0)=r:=by
 unfold bits_Sub64 at hy
 obtain ⟨h1,hy⟩:=req_some hy
 obtain ⟨h2,hy⟩:=req_some hy
 obtain ⟨h3,hy⟩:=req_some hy
 obtain ⟨h4,hy⟩:=req_some hy
 obtain ⟨h5,hy⟩:=req_some hy
 exact ⟨h1,h2,h3,h4,h5,Option.some.inj hy⟩
theorem add64_ok {P:Program} {f:FuncId} {fn:Func} (hf:P.funcs[f]?=some fn) (hname:(fn.name == "runtime.NumGoroutine")=false) (hb:fn.body.isNone=true) (hn:Extern.findNext fn=none)
  (he:Extern.find fn=some add64Entry) (k:Nat):FnOk P f (bits_Add64.sp k):=by
 show FnOkD P f carryPs carryRs _
 intro w ok x y args hok hargs hy
 rw [carry_args hargs]
 obtain ⟨h1,h2,h3,h4,rfl⟩:=add64_def (show bits_Add64 k x.1 x.2.1 x.2.2.1=some y from hy)
 refine invOk_value (w':=w) ?_ carry_res
 rw [run_callFunc_extern hf hname hb hn he,run_add64 _ _ _ h1 h2 h3 h4]
 rfl
theorem sub64_ok {P:Program} {f:FuncId} {fn:Func} (hf:P.funcs[f]?=some fn) (hname:(fn.name == "runtime.NumGoroutine")=false) (hb:fn.body.isNone=true) (hn:Extern.findNext fn=none)
  (he:Extern.find fn=some Proofs.sub64Entry) (k:Nat):FnOk P f (bits_Sub64.sp k):=by
 show FnOkD P f carryPs carryRs _
 intro w ok x y args hok hargs hy
 rw [carry_args hargs]
 obtain ⟨h1,h2,h3,h4,h5,rfl⟩:=sub64_def (show bits_Sub64 k x.1 x.2.1 x.2.2.1=some y from hy)
 refine invOk_value (w':=w) ?_ carry_res
 obtain ⟨X,hX⟩:=Int.eq_ofNat_of_zero_le h1
 obtain ⟨Y,hY⟩:=Int.eq_ofNat_of_zero_le h2
 obtain ⟨C,hC⟩:=Int.eq_ofNat_of_zero_le h3
 rw [hY] at h5
 rw [hC] at h4
 rw [run_callFunc_extern hf hname hb hn he,hX,hY,hC,Proofs.run_sub64 X Y C (by omega)]
 simp only [Result.andThen_ok]
 have e1:(((X+18446744073709551616 - Y - C) % 18446744073709551616:Nat):Int)=((X:Int)+18446744073709551616 - Y - C) % 18446744073709551616:=by omega
 have e2:((if X<Y+C then 1 else 0:Nat):Int)=if (X:Int)<Y+C then 1 else 0:=by split <;> split <;> omega
 rw [e1,e2]
end Go.Sx
