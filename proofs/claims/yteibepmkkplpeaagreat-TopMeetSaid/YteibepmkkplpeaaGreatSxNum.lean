import Derived.Test.YteibepmkkplpeaaGreatSxExt
namespace Go.Sx
theorem bS {α β:Type} (x:α) (f:α→Option β):bG (some x) f=f x:=rfl
theorem bT {α:Type} (x y:Option α):aR true x y=x:=rfl
theorem bF {α:Type} (x y:Option α):aR false x y=y:=rfl
theorem ir {α β γ:Type} (x:α) (f:α→γ) (g:β→γ):two (.inl x) f g=f x:=rfl
theorem ig {α β γ:Type} (x:β) (f:α→γ) (g:β→γ):two (.inr x) f g=g x:=rfl
theorem rP {α:Type} {p:Prop} [Decidable p] (h:p) (x:Option α):eB p x=x:=if_pos h
theorem wrap_u64 (x:Int):IntKind.u64.wrap x=x % 18446744073709551616:=by
 simp [IntKind.wrap,IntKind.signed,IntKind.bits]
theorem lR (x:Int):IntKind.i64.wrap x=if x % 18446744073709551616 ≥ 9223372036854775808 then x % 18446744073709551616 - 18446744073709551616 else x % 18446744073709551616:=by
 simp [IntKind.wrap,IntKind.signed,IntKind.bits]
theorem ic (x:Int):-9223372036854775808≤IntKind.i64.wrap x∧IntKind.i64.wrap x≤9223372036854775807:=by
 rw [lR];split <;> omega
theorem gQ (x:Int):∃ q:Int,IntKind.i64.wrap x=x - q*18446744073709551616:=by
 rw [lR];split
 ·exact ⟨x / 18446744073709551616+1,by omega⟩
 ·exact ⟨x / 18446744073709551616,by omega⟩
theorem wrap_i64 {x:Int} (h1:-9223372036854775808≤x) (h2:x≤9223372036854775807):IntKind.i64.wrap x=x:=by
 have h3:=ic x;obtain ⟨q,hq⟩:=gQ x;omega
theorem bH {x y:Int} (h1:-9223372036854775808≤x+y) (h2:x+y≤9223372036854775807):ag .i64 x y=x+y:=wrap_i64 h1 h2
theorem cR {x y:Int} (h1:-9223372036854775808≤x - y) (h2:x - y≤9223372036854775807):aU .i64 x y=x - y:=wrap_i64 h1 h2
theorem dr {x y:Int} (h1:-9223372036854775808≤x*y) (h2:x*y≤9223372036854775807):aN .i64 x y=x*y:=wrap_i64 h1 h2
theorem lO (x y:Int):ag .u64 x y=(x+y) % 18446744073709551616:=wrap_u64 _
theorem kh (x y:Int):aU .u64 x y=(x - y) % 18446744073709551616:=wrap_u64 _
theorem nt (x y:Int):aN .u64 x y=(x*y) % 18446744073709551616:=wrap_u64 _
theorem vY (x:Int):c9 .u64 x=(0 - x) % 18446744073709551616:=wrap_u64 _
theorem jY (x:Int):cU .u64 x=x % 18446744073709551616:=wrap_u64 _
theorem n5 {x:Int} (h1:-9223372036854775808≤x) (h2:x≤9223372036854775807):cU .i64 x=x:=wrap_i64 h1 h2
theorem kF (x:Int) {n:Nat} (hn:n≤64):dz .u64 x (n:Int)=x / 2 ^ n:=by
 unfold dz;have:min (n:Int).toNat IntKind.u64.bits=n:=by simp [IntKind.bits]; omega
 rw [this];exact Int.fdiv_eq_ediv_of_nonneg _ (Int.le_of_lt (Int.pow_pos (by decide)))
theorem qm (x:Int) {n:Nat} (hn:n≤64):cS .u64 x (n:Int)=(x*2 ^ n) % 18446744073709551616:=by
 unfold cS;have:min (n:Int).toNat IntKind.u64.bits=n:=by simp [IntKind.bits]; omega
 rw [this,wrap_u64]
theorem lZ (n:Nat):(BitVec.ofInt 64 (n:Int)).toNat=n % 18446744073709551616:=by
 simp
theorem AU {x:Int} (h0:0≤x) (h1:x≤18446744073709551615) (k:Nat) (hk:k≤64):cP .and .u64 x ((2 ^ k - 1:Nat):Int)=x % ((2 ^ k:Nat):Int):=by
 obtain ⟨n,rfl⟩:=Int.eq_ofNat_of_zero_le h0;have hb:IntKind.u64.bits=64:=rfl;simp only [cP,wrap_u64];have e:((BitVec.ofInt IntKind.u64.bits (n:Int)) &&& (BitVec.ofInt IntKind.u64.bits ((2 ^ k - 1:Nat):Int))).toNat=n % 2 ^ k:=by
  show ((BitVec.ofInt 64 (n:Int)) &&& (BitVec.ofInt 64 ((2 ^ k - 1:Nat):Int))).toNat=_;rw [BitVec.toNat_and,lZ,lZ];have hn:n % 18446744073709551616=n:=by omega
  have hk2:2 ^ k≤2 ^ 64:=Nat.pow_le_pow_right (by decide) hk;have hk3:(2 ^ k - 1) % 18446744073709551616=2 ^ k - 1:=by
   apply Nat.mod_eq_of_lt;have:0<2 ^ k:=Nat.pow_pos (by decide);simp at hk2;omega
  rw [hn,hk3,Nat.and_two_pow_sub_one_eq_mod]
 rw [e];have hlt:n % 2 ^ k≤n:=Nat.mod_le _ _;have e2:((n:Int) % ((2 ^ k:Nat):Int))=((n % 2 ^ k:Nat):Int):=(Int.natCast_emod n (2 ^ k)).symm;rw [e2];omega
end Go.Sx
