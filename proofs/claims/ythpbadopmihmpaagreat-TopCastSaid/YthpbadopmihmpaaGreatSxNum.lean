import Derived.Test.YthpbadopmihmpaaGreatSxExt
namespace Go.Sx
theorem bS {α β:Type} (x:α) (f:α→Option β):bnd (some x) f=f x:=rfl
theorem bT {α:Type} (x y:Option α):bif' true x y=x:=rfl
theorem bF {α:Type} (x y:Option α):bif' false x y=y:=rfl
theorem two_inl {α β γ:Type} (x:α) (f:α→γ) (g:β→γ):two (.inl x) f g=f x:=rfl
theorem two_inr {α β γ:Type} (x:β) (f:α→γ) (g:β→γ):two (.inr x) f g=g x:=rfl
theorem rP {α:Type} {p:Prop} [Decidable p] (h:p) (x:Option α):req p x=x:=if_pos h
theorem wrap_u64 (x:Int):IntKind.u64.wrap x=x % 18446744073709551616:=by
 simp [IntKind.wrap,IntKind.signed,IntKind.bits]
theorem wrap_i64_eq (x:Int):IntKind.i64.wrap x=if x % 18446744073709551616 ≥ 9223372036854775808 then x % 18446744073709551616 - 18446744073709551616 else x % 18446744073709551616:=by
 simp [IntKind.wrap,IntKind.signed,IntKind.bits]
theorem wrap_i64_range (x:Int):-9223372036854775808≤IntKind.i64.wrap x∧IntKind.i64.wrap x≤9223372036854775807:=by
 rw [wrap_i64_eq]
 split <;> omega
theorem wrap_i64_mod (x:Int):∃ q:Int,IntKind.i64.wrap x=x - q*18446744073709551616:=by
 rw [wrap_i64_eq]
 split
 ·exact ⟨x / 18446744073709551616+1,by omega⟩
 ·exact ⟨x / 18446744073709551616,by omega⟩
theorem wrap_i64 {x:Int} (h1:-9223372036854775808≤x) (h2:x≤9223372036854775807):IntKind.i64.wrap x=x:=by
 have h3:=wrap_i64_range x
 obtain ⟨q,hq⟩:=wrap_i64_mod x
 omega
theorem iadd_i64 {x y:Int} (h1:-9223372036854775808≤x+y) (h2:x+y≤9223372036854775807):iadd .i64 x y=x+y:=wrap_i64 h1 h2
theorem isub_i64 {x y:Int} (h1:-9223372036854775808≤x - y) (h2:x - y≤9223372036854775807):isub .i64 x y=x - y:=wrap_i64 h1 h2
theorem imul_i64 {x y:Int} (h1:-9223372036854775808≤x*y) (h2:x*y≤9223372036854775807):imul .i64 x y=x*y:=wrap_i64 h1 h2
theorem iadd_u64 (x y:Int):iadd .u64 x y=(x+y) % 18446744073709551616:=wrap_u64 _
theorem isub_u64 (x y:Int):isub .u64 x y=(x - y) % 18446744073709551616:=wrap_u64 _
theorem imul_u64 (x y:Int):imul .u64 x y=(x*y) % 18446744073709551616:=wrap_u64 _
theorem icv_u64 (x:Int):icv .u64 x=x % 18446744073709551616:=wrap_u64 _
theorem icv_i64 {x:Int} (h1:-9223372036854775808≤x) (h2:x≤9223372036854775807):icv .i64 x=x:=wrap_i64 h1 h2
theorem ishr_u64 (x:Int) {n:Nat} (hn:n≤64):ishr .u64 x (n:Int)=x / 2 ^ n:=by
 unfold ishr
 have:min (n:Int).toNat IntKind.u64.bits=n:=by simp [IntKind.bits]; omega
 rw [this]
 exact Int.fdiv_eq_ediv_of_nonneg _ (Int.le_of_lt (Int.pow_pos (by decide)))
theorem ishl_u64 (x:Int) {n:Nat} (hn:n≤64):ishl .u64 x (n:Int)=(x*2 ^ n) % 18446744073709551616:=by
 unfold ishl
 have:min (n:Int).toNat IntKind.u64.bits=n:=by simp [IntKind.bits]; omega
 rw [this,wrap_u64]
theorem ofInt_nat (n:Nat):(BitVec.ofInt 64 (n:Int)).toNat=n % 18446744073709551616:=by
 simp
theorem and_mask {x:Int} (h0:0≤x) (h1:x≤18446744073709551615) (k:Nat) (hk:k≤64):ibits .and .u64 x ((2 ^ k - 1:Nat):Int)=x % ((2 ^ k:Nat):Int):=by
 obtain ⟨n,rfl⟩:=Int.eq_ofNat_of_zero_le h0
 have hb:IntKind.u64.bits=64:=rfl
 simp only [ibits,wrap_u64]
 have e:((BitVec.ofInt IntKind.u64.bits (n:Int)) &&& (BitVec.ofInt IntKind.u64.bits ((2 ^ k - 1:Nat):Int))).toNat=n % 2 ^ k:=by
  show ((BitVec.ofInt 64 (n:Int)) &&& (BitVec.ofInt 64 ((2 ^ k - 1:Nat):Int))).toNat=_
  rw [BitVec.toNat_and,ofInt_nat,ofInt_nat]
  have hn:n % 18446744073709551616=n:=by omega
  have hk2:2 ^ k≤2 ^ 64:=Nat.pow_le_pow_right (by decide) hk
  have hk3:(2 ^ k - 1) % 18446744073709551616=2 ^ k - 1:=by
   apply Nat.mod_eq_of_lt
   have:0<2 ^ k:=Nat.pow_pos (by decide)
   simp at hk2
   omega
  rw [hn,hk3,Nat.and_two_pow_sub_one_eq_mod]
 rw [e]
 have hlt:n % 2 ^ k≤n:=Nat.mod_le _ _
 have e2:((n:Int) % ((2 ^ k:Nat):Int))=((n % 2 ^ k:Nat):Int):=(Int.natCast_emod n (2 ^ k)).symm
 rw [e2]
 omega
end Go.Sx
