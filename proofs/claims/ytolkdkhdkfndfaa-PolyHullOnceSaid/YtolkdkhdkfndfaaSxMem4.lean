/-
  That what SxPerf tells of an operation is what the machine does: indexing, lengths, small numbers, tuples, closures.
-/
import Derived.Test.YtolkdkhdkfndfaaSxMem3
namespace Go.Sx

section
variable {cx : Cx} {s : St} {o : Oper} {nid : Nat} {c : Ctx}

theorem ev_int {ρ : Nat → Value} {F : Nat → Prop} {a : Act} {w : World} {k : IntKind} {n : Int} {y : Operand} (hM : M cx ρ F s a w) (hy : s.ev y = .val (.int k) n) : a.eval y = .int k n := by
  have h1 := (hM.ev y).1
  rw [hy] at h1
  exact RV_int h1

theorem ok_indexArr {t : TypeId} {x y : Operand} (ho : o.op = .indexAddr t x y) {k : IntKind} (n : Int) (hy : s.ev y = .val (.int k) n) {len : Nat} {elem : TypeId} (p : Ptr)
    (hu : cx.P.underlying t = some (.array len elem)) (hx : s.ev x = .val .ptr p) (hes1 : p.es = 0) (hes2 : p.inner = 0) {m : Nat} (hm : (cx.P.info? elem).map (·.size) = some (m + 1)) :
    OpOk cx o s nid ⟨.val .ptr ⟨p.b, p.off, n, m + 1, 0⟩, [], some (inR n (len : Int))⟩ := by
  obtain ⟨i, hi, hsi⟩ := Option.map_eq_some_iff.1 hm
  refine ok_value rfl fun ρ F a w hM hob => ?_
  have h1 := (hM.ev x).1
  rw [hx] at h1
  have h2 := RV_ptr h1
  obtain ⟨ad, hs, hg⟩ := RV_ptr_good h1
  rw [hg p rfl] at h2
  refine ⟨_, ?_, RV_of_ptr (p := ⟨p.b, p.off, n, m + 1, 0⟩) ⟨ad, hs, fun q hq => hg q hq⟩, fun b hb => by
    have hr := (hM.ev x).2
    rw [hx] at hr
    exact hr b hb⟩
  have hco : (⟨p.b, p.off, n, m + 1, 0⟩ : Ptr).co = p.co + n.toNat * (m + 1) := by simp only [Ptr.co, hes1, hes2]; omega
  rw [hg ⟨p.b, p.off, n, m + 1, 0⟩ rfl, hco, ← add_add hs]
  have hob1 : 0 ≤ n := hob.1
  have hob2 : n < (len : Int) := hob.2
  simp [execOp, ho, h2, ev_int hM hy, Instr.indexAt, asIntOf, run_underlying hu, Instr.sureAddr, hob1, hob2, sizeOf, typeInfo, hi, hsi]

theorem ok_indexDeep {t : TypeId} {x y : Operand} (ho : o.op = .indexAddr t x y) {k : IntKind} (n : Int) (hy : s.ev y = .val (.int k) n) {elem : TypeId} {e : Ty} (l : List e.den)
    (hu : cx.P.underlying t = some (.slice elem)) (hx : s.ev x = .val (.slice e) l) {m : Nat} (hm : (cx.P.info? elem).map (·.size) = some (m + 1)) (hes : e.size = m + 1) :
    OpOk cx o s nid ⟨.imm e (l.getD n.toNat e.zero) 0, [], some (inR n (l.length : Int))⟩ := by
  obtain ⟨i, hi, hsi⟩ := Option.map_eq_some_iff.1 hm
  refine ok_value rfl fun ρ F a w hM hob => ?_
  have h1 := (hM.ev x).1
  rw [hx] at h1
  obtain ⟨cs, h2, A, cap, rfl, hcap, h3⟩ := h1
  have h2 : a.eval x = .slice A l.length cap := h2
  have hob1 : 0 ≤ n := hob.1
  have hob2 : n < (l.length : Int) := hob.2
  have hlt : n.toNat < l.length := by omega
  rcases h3 with h3 | ⟨ad, rfl, h4, h5, h6, h7⟩
  · rw [h3] at hlt; simp at hlt
  · have hx' : l[n.toNat]? = some (l.getD n.toNat e.zero) := by simp [List.getD, hlt]
    obtain ⟨cc, h8, h9⟩ := h7 n.toNat _ hx'
    have hsp : ∀ q, (ad.add q).spot = none := fun q => by unfold Addr.add; split <;> first | rfl | exact h4
    have hbl : ∀ q, (ad.add q).block = ad.block := fun q => by unfold Addr.add; split <;> rfl
    refine ⟨.pointer (some (ad.add (n.toNat * (m + 1)))), ?_, ⟨ad.add (n.toNat * e.size), cc, ?_, hsp _, ?_, ?_, h8, h9⟩, fun b hb => by cases hb⟩
    · simp [execOp, ho, h2, ev_int hM hy, Instr.indexAt, asIntOf, run_underlying hu, hob1, hob2, sizeOf, typeInfo, hi, hsi]
    · rw [hes, add_add h4]; rfl
    · rw [hbl]; exact h5
    · rw [hbl]; exact h6

theorem ok_indexOwn {t : TypeId} {x y : Operand} (ho : o.op = .indexAddr t x y) {k : IntKind} (n : Int) (hy : s.ev y = .val (.int k) n) {elem tid : TypeId} {e : Ty} (l : List e.den) (b : Nat)
    (hu : cx.P.underlying t = some (.slice elem)) (hx : s.ev x = .val .own b) (hk : s.hp b = some (.row e l tid)) {m : Nat} (hm : (cx.P.info? elem).map (·.size) = some (m + 1)) :
    OpOk cx o s nid ⟨.val .ptr ⟨b, 0, n, m + 1, 0⟩, [], some (inR n (l.length : Int))⟩ := by
  obtain ⟨i, hi, hsi⟩ := Option.map_eq_some_iff.1 hm
  refine ok_value rfl fun ρ F a w hM hob => ?_
  have h1 := (hM.ev x).1
  rw [hx] at h1
  have h2 := RV_own h1
  have hob1 : 0 ≤ n := hob.1
  have hob2 : n < (l.length : Int) := hob.2
  obtain ⟨g, cap, cur, xs, rest, hv, _⟩ := row_cells (hM.blks b _ hk) (by omega)
  have hgood : (⟨b, 0, n, m + 1, 0⟩ : Ptr).good ρ := ⟨⟨g, 0, none⟩, rfl, fun q hq => by unfold Ptr.val; rw [hq, hv]⟩
  refine ⟨_, ?_, RV_of_ptr hgood, fun b' hb => by
    have hr := (hM.ev x).2
    rw [hx] at hr
    exact hr b' hb⟩
  have e1 : (⟨b, 0, n, m + 1, 0⟩ : Ptr).val ρ = .pointer (some ((⟨g, 0, none⟩ : Addr).add (n.toNat * (m + 1)))) := by
    unfold Ptr.val
    rw [show (⟨b, 0, n, m + 1, 0⟩ : Ptr).b = b from rfl, hv]
    simp only [Ptr.co, Nat.zero_add, Nat.add_zero]
  rw [e1]
  rw [hv] at h2
  simp [execOp, ho, h2, ev_int hM hy, Instr.indexAt, asIntOf, run_underlying hu, hob1, hob2, sizeOf, typeInfo, hi, hsi]

theorem ok_indexSuf {t : TypeId} {x y : Operand} (ho : o.op = .indexAddr t x y) {k : IntKind} (n : Int) (hy : s.ev y = .val (.int k) n) {elem : TypeId} {e : Ty} (l : List e.den) {tid : TypeId} (b lo : Nat)
    (hu : cx.P.underlying t = some (.slice elem)) {m : Nat} (hx : s.ev x = .suf b lo (m + 1)) (hk : s.hp b = some (.row e l tid)) (hm : (cx.P.info? elem).map (·.size) = some (m + 1)) :
    OpOk cx o s nid ⟨.val .ptr ⟨b, 0, ofs lo n, m + 1, 0⟩, [], some (inR n ((l.length - lo : Nat) : Int))⟩ := by
  obtain ⟨i, hi, hsi⟩ := Option.map_eq_some_iff.1 hm
  refine ok_value rfl fun ρ F a w hM hob => ?_
  have h1 := (hM.ev x).1
  rw [hx] at h1
  have h2 : a.eval x = sufV (ρ b) lo (m + 1) := h1
  have hob1 : 0 ≤ n := hob.1
  have hob2 : n < ((l.length - lo : Nat) : Int) := hob.2
  obtain ⟨g, cap, cur, xs, rest, hv, hcap⟩ := row_cells (hM.blks b _ hk) (by omega)
  have hcl : l.length ≤ cap := by
    obtain ⟨xs, hro, _⟩ := hM.blks b _ hk
    rcases hro.2 with ⟨A0, h, h0⟩ | ⟨g', cap', cur', h, _, _, _, h4, _⟩
    · omega
    · rw [hv] at h
      simp only [Value.slice.injEq] at h
      obtain ⟨_, _, rfl⟩ := h
      exact h4
  have hgood : (⟨b, 0, ofs lo n, m + 1, 0⟩ : Ptr).good ρ := ⟨⟨g, 0, none⟩, rfl, fun q hq => by unfold Ptr.val; rw [hq, hv]⟩
  refine ⟨_, ?_, RV_of_ptr hgood, fun b' hb => by
    have hr := (hM.ev x).2
    rw [hx] at hr
    exact hr b' hb⟩
  have e1 : (⟨b, 0, ofs lo n, m + 1, 0⟩ : Ptr).val ρ = .pointer (some ((⟨g, 0, none⟩ : Addr).add ((ofs lo n).toNat * (m + 1)))) := by
    unfold Ptr.val
    rw [show (⟨b, 0, ofs lo n, m + 1, 0⟩ : Ptr).b = b from rfl, hv]
    simp only [Ptr.co, Nat.zero_add, Nat.add_zero]
  rw [e1]
  rw [hv] at h2
  have hne : ¬ cap = lo := by omega
  have h2 : a.eval x = .slice (some ⟨g, lo * (m + 1), none⟩) (l.length - lo) (cap - lo) := by
    rw [h2]
    show Value.slice (if cap = lo then _ else _) _ _ = _
    rw [if_neg hne]
    show Value.slice (some ((⟨g, 0, none⟩ : Addr).add (lo * (m + 1)))) _ _ = _
    rw [add_none, Nat.zero_add]
  have e2 : ((⟨g, lo * (m + 1), none⟩ : Addr).add (n.toNat * (m + 1))) = (⟨g, 0, none⟩ : Addr).add ((ofs lo n).toNat * (m + 1)) := by
    rw [add_none, add_none, ← Nat.add_mul, Nat.zero_add]
    unfold ofs
    congr 2
    omega
  rw [← e2]
  simp [execOp, ho, h2, ev_int hM hy, Instr.indexAt, asIntOf, run_underlying hu, hob1, hob2, sizeOf, typeInfo, hi, hsi]

theorem ok_indexAddr {hp : Nat → Option Blk} (hhp : ∀ b k, hp b = some k → s.hp b = some k) {t : TypeId} {x y : Operand} (ho : o.op = .indexAddr t x y) :
    OpOk cx o s nid (pIndexAddr cx.P hp t (s.ev x) (s.ev y)) := by
  unfold pIndexAddr
  split
  · rename_i k n hy
    split
    · rename_i len elem p hu hx
      split
      · rename_i hes
        simp only [Bool.and_eq_true] at hes
        split
        · rename_i m hm
          exact ok_indexArr ho n hy p hu hx (Nat.eq_of_beq_eq_true hes.1) (Nat.eq_of_beq_eq_true hes.2) hm
        · exact bad_ok
      · exact bad_ok
    · rename_i elem e l hu hx
      split
      · rename_i m hm
        split
        · rename_i hes
          exact ok_indexDeep ho n hy l hu hx hm (Nat.eq_of_beq_eq_true hes)
        · exact bad_ok
      · exact bad_ok
    · rename_i elem b hu hx
      split
      · rename_i e l tid hk
        split
        · rename_i m hm
          split
          · exact ok_indexOwn ho n hy l b hu hx (hhp _ _ hk) hm
          · exact bad_ok
        · exact bad_ok
      · exact bad_ok
    · rename_i elem b lo k' hu hx
      split
      · rename_i e l tid hk
        split
        · rename_i m hm
          split
          · rename_i hb
            simp only [Bool.and_eq_true] at hb
            obtain rfl := Nat.eq_of_beq_eq_true hb.2
            exact ok_indexSuf ho n hy l b lo hu hx (hhp _ _ hk) hm
          · exact bad_ok
        · exact bad_ok
      · exact bad_ok
    · exact bad_ok
  · exact bad_ok

theorem ok_un {op : UnOp} {xt : TypeId} {x : Operand} (ho : o.op = .unOp op xt x) : OpOk cx o s nid (pUn op (s.ev x)) := by
  unfold pUn
  split
  · rename_i k n hx
    refine ok_value rfl fun ρ F a w hM _ => ?_
    have h1 := (hM.ev x).1
    rw [hx] at h1
    have h1 := RV_int h1
    exact ⟨.int k (ineg k n), by simp [execOp, ho, h1, Op.unary, Op.intArith, ineg], RV_of_int, fun b hb => by cases hb⟩
  · rename_i b hx
    refine ok_value rfl fun ρ F a w hM _ => ?_
    have h1 := (hM.ev x).1
    rw [hx] at h1
    have h1 := RV_bool h1
    exact ⟨.bool (!b), by simp [execOp, ho, h1, Op.unary], RV_of_bool, fun b hb => by cases hb⟩
  · rename_i k n hx
    refine ok_value rfl fun ρ F a w hM _ => ?_
    have h1 := (hM.ev x).1
    rw [hx] at h1
    have h1 := RV_int h1
    refine ⟨.int k (ibits .xor k (if k.signed then -1 else k.max) n), ?_, RV_of_int, fun b hb => by cases hb⟩
    simp only [execOp, ho, h1, Op.unary]
    rfl
  · exact bad_ok

theorem ok_convert {src dst : TypeId} {x : Operand} (ho : o.op = .convert src dst x) (hs : (cx.P.underlying src).isSome = true) : OpOk cx o s nid (pConvert cx.P dst (s.ev x)) := by
  unfold pConvert
  split
  · rename_i k k' n hu hx
    refine ok_value rfl fun ρ F a w hM _ => ?_
    have h1 := (hM.ev x).1
    rw [hx] at h1
    have h1 := RV_int h1
    obtain ⟨d, hd⟩ := Option.isSome_iff_exists.1 hs
    refine ⟨.int k (k.wrap n), ?_, RV_of_int, fun b hb => by cases hb⟩
    simp only [execOp, ho, h1, convert, Sem.run_bind, run_underlying hd, run_underlying hu, Result.andThen_ok]
    cases d <;> simp [Conv.intToInt]
  · exact bad_ok

theorem ok_len {hp : Nat → Option Blk} (hhp : ∀ b k, hp b = some k → s.hp b = some k) {t : TypeId} {ts : List TypeId} {x : Operand}
    (ho : o.op = .call { callee := .builtin .len, args := #[x], argTypes := (t :: ts).toArray }) : OpOk cx o s nid (pLen cx.P hp t (s.ev x)) := by
  unfold pLen
  split
  · rename_i e e' l hu hx
    refine ok_value rfl fun ρ F a w hM _ => ?_
    have h1 := (hM.ev x).1
    rw [hx] at h1
    obtain ⟨cs, h2, A, cap, rfl, _⟩ := h1
    have h2 : a.eval x = .slice A (List.length l) cap := h2
    exact ⟨.int .i64 (List.length l : Int), by simp [execOp, ho, resolve, invoke, builtin, Builtin.len_, h2, run_underlying hu, goInt], RV_of_int, fun b hb => by cases hb⟩
  · rename_i e b hu hx
    split
    · rename_i e' l tid hk
      refine ok_value rfl fun ρ F a w hM _ => ?_
      have h1 := (hM.ev x).1
      rw [hx] at h1
      have h2 := RV_own h1
      obtain ⟨xs, ⟨_, hro⟩, _⟩ := hM.blks b _ (hhp _ _ hk)
      have h3 : ∃ A cap, ρ b = .slice A l.length cap := by
        rcases hro with ⟨A0, h, h0⟩ | ⟨g, cap, cur, h, _⟩
        · exact ⟨A0, 0, by rw [h, h0]⟩
        · exact ⟨_, _, h⟩
      obtain ⟨A, cap, h3⟩ := h3
      rw [h3] at h2
      exact ⟨.int .i64 (l.length : Int), by simp [execOp, ho, resolve, invoke, builtin, Builtin.len_, h2, run_underlying hu, goInt], RV_of_int, fun b hb => by cases hb⟩
    · exact bad_ok
  · rename_i e b lo k hu hx
    split
    · rename_i e' l tid hk
      refine ok_value rfl fun ρ F a w hM _ => ?_
      have h1 := (hM.ev x).1
      rw [hx] at h1
      have h2 : a.eval x = sufV (ρ b) lo k := h1
      obtain ⟨xs, ⟨_, hro⟩, _⟩ := hM.blks b _ (hhp _ _ hk)
      have h3 : ∃ A cap, ρ b = .slice A l.length cap := by
        rcases hro with ⟨A0, h, h0⟩ | ⟨g, cap, cur, h, _⟩
        · exact ⟨A0, 0, by rw [h, h0]⟩
        · exact ⟨_, _, h⟩
      obtain ⟨A, cap, h3⟩ := h3
      rw [h3] at h2
      have h2 : a.eval x = .slice (if cap = lo then A else A.map (·.add (lo * k))) (l.length - lo) (cap - lo) := h2
      exact ⟨.int .i64 ((l.length - lo : Nat) : Int), by simp [execOp, ho, resolve, invoke, builtin, Builtin.len_, h2, run_underlying hu, goInt], RV_of_int, fun b hb => by cases hb⟩
    · exact bad_ok
  · rename_i e hu hx
    refine ok_value rfl fun ρ F a w hM _ => ?_
    have h1 := (hM.ev x).1
    rw [hx] at h1
    have h1 : a.eval x = .slice none 0 0 := h1
    exact ⟨.int .i64 (0 : Int), by simp [execOp, ho, resolve, invoke, builtin, Builtin.len_, h1, run_underlying hu, goInt], RV_of_int, fun b hb => by cases hb⟩
  · rename_i n e hu
    refine ok_value rfl fun ρ F a w hM _ => ?_
    exact ⟨.int .i64 (n : Int), by simp [execOp, ho, resolve, invoke, builtin, Builtin.len_, run_underlying hu, goInt], RV_of_int, fun b hb => by cases hb⟩
  · exact bad_ok

theorem run_min {P : Program} {ρ : Nat → Value} {w : World} {I : Nat → Prop} : ∀ (avs : List AV) (vs : List Value) (av : AV) (v : Value), RV P ρ w I av v → vs.length = avs.length →
    (∀ (i : Nat) (x : AV) (y : Value), avs[i]? = some x → vs[i]? = some y → RV P ρ w I x y) → (pMin av avs).obP → ∃ r, (vs.foldlM Builtin.min2 v).run P w = .ok r w ∧ RV P ρ w I (pMin av avs).v r ∧ (pMin av avs).v.refs = [] := by
  intro avs
  induction avs with
  | nil =>
    intro vs av v h hl hall hob
    have : vs = [] := List.eq_nil_of_length_eq_zero hl
    subst this
    unfold pMin at hob ⊢
    split at hob
    · exact ⟨v, by simp, h, rfl⟩
    · rename_i heq; cases heq
    · exact hob.elim
  | cons x avs ih =>
    intro vs av v h hl hall hob
    cases vs with
    | nil => simp at hl
    | cons y vs =>
      unfold pMin at hob ⊢
      split at hob
      · rename_i heq; cases heq
      · rename_i k x' k' y' l heq
        cases heq
        have h1 := RV_int h
        have h2 := RV_int (hall 0 _ y rfl rfl)
        subst h1 h2
        obtain ⟨r, hr, hv⟩ := ih vs (.val (.int k) (imin x' y')) (.int k (imin x' y')) RV_of_int (by simpa using hl) (fun i a b ha hb => hall (i + 1) a b (by simpa using ha) (by simpa using hb)) hob
        refine ⟨r, ?_, hv⟩
        rw [List.foldlM_cons, Sem.run_bind]
        exact hr
      · exact hob.elim

theorem run_max {P : Program} {ρ : Nat → Value} {w : World} {I : Nat → Prop} : ∀ (avs : List AV) (vs : List Value) (av : AV) (v : Value), RV P ρ w I av v → vs.length = avs.length →
    (∀ (i : Nat) (x : AV) (y : Value), avs[i]? = some x → vs[i]? = some y → RV P ρ w I x y) → (pMax av avs).obP → ∃ r, (vs.foldlM Builtin.max2 v).run P w = .ok r w ∧ RV P ρ w I (pMax av avs).v r ∧ (pMax av avs).v.refs = [] := by
  intro avs
  induction avs with
  | nil =>
    intro vs av v h hl hall hob
    have : vs = [] := List.eq_nil_of_length_eq_zero hl
    subst this
    unfold pMax at hob ⊢
    split at hob
    · exact ⟨v, by simp, h, rfl⟩
    · rename_i heq; cases heq
    · exact hob.elim
  | cons x avs ih =>
    intro vs av v h hl hall hob
    cases vs with
    | nil => simp at hl
    | cons y vs =>
      unfold pMax at hob ⊢
      split at hob
      · rename_i heq; cases heq
      · rename_i k x' k' y' l heq
        cases heq
        have h1 := RV_int h
        have h2 := RV_int (hall 0 _ y rfl rfl)
        subst h1 h2
        obtain ⟨r, hr, hv⟩ := ih vs (.val (.int k) (imax x' y')) (.int k (imax x' y')) RV_of_int (by simpa using hl) (fun i a b ha hb => hall (i + 1) a b (by simpa using ha) (by simpa using hb)) hob
        refine ⟨r, ?_, hv⟩
        rw [List.foldlM_cons, Sem.run_bind]
        exact hr
      · exact hob.elim

theorem pMin_ed : ∀ (avs : List AV) (av : AV), (pMin av avs).ed = [] := by
  intro avs
  induction avs with
  | nil => intro av; unfold pMin; split <;> first | rfl | (rename_i heq; cases heq)
  | cons x avs ih => intro av; unfold pMin; split <;> first | rfl | (rename_i heq; cases heq; exact ih _) | (rename_i heq; cases heq)
theorem pMax_ed : ∀ (avs : List AV) (av : AV), (pMax av avs).ed = [] := by
  intro avs
  induction avs with
  | nil => intro av; unfold pMax; split <;> first | rfl | (rename_i heq; cases heq)
  | cons x avs ih => intro av; unfold pMax; split <;> first | rfl | (rename_i heq; cases heq; exact ih _) | (rename_i heq; cases heq)

theorem evs_ok {ρ : Nat → Value} {F : Nat → Prop} {a : Act} {w : World} (hM : M cx ρ F s a w) (xs : List Operand) :
    ∀ (i : Nat) (x : AV) (y : Value), (xs.map s.ev)[i]? = some x → (xs.map a.eval)[i]? = some y → RV cx.P ρ w (cx.I ρ s) x y := by
  intro i x y hx hy
  rw [List.getElem?_map] at hx hy
  obtain ⟨z, hz, rfl⟩ := Option.map_eq_some_iff.1 hx
  rw [hz] at hy
  obtain rfl := Option.some.inj hy
  exact (hM.ev z).1

theorem ok_min {ts : Array TypeId} {x : Operand} {xs : List Operand} (ho : o.op = .call { callee := .builtin .min, args := (x :: xs).toArray, argTypes := ts }) :
    OpOk cx o s nid (pMin (s.ev x) (xs.map s.ev)) := by
  refine ok_value (pMin_ed _ _) fun ρ F a w hM hob => ?_
  obtain ⟨r, hr, hv, hf⟩ := run_min (P := cx.P) (xs.map s.ev) (xs.map a.eval) (s.ev x) (a.eval x) (hM.ev x).1 (by simp) (evs_ok hM xs) hob
  refine ⟨r, ?_, hv, fun b hb => by rw [hf] at hb; cases hb⟩
  simp [execOp, ho, resolve, invoke, builtin, Builtin.min_, hr]

theorem ok_max {ts : Array TypeId} {x : Operand} {xs : List Operand} (ho : o.op = .call { callee := .builtin .max, args := (x :: xs).toArray, argTypes := ts }) :
    OpOk cx o s nid (pMax (s.ev x) (xs.map s.ev)) := by
  refine ok_value (pMax_ed _ _) fun ρ F a w hM hob => ?_
  obtain ⟨r, hr, hv, hf⟩ := run_max (P := cx.P) (xs.map s.ev) (xs.map a.eval) (s.ev x) (a.eval x) (hM.ev x).1 (by simp) (evs_ok hM xs) hob
  refine ⟨r, ?_, hv, fun b hb => by rw [hf] at hb; cases hb⟩
  simp [execOp, ho, resolve, invoke, builtin, Builtin.max_, hr]

def pExtract (x : AV) (i : Nat) : Perf :=
  match x with
  | .tup l => match l[i]? with
    | some t => .of (.val t.t t.x)
    | none => .bad
  | _ => .bad

theorem ok_extract {x : Operand} {i : Nat} (ho : o.op = .extract x i) : OpOk cx o s nid (pExtract (s.ev x) i) := by
  unfold pExtract
  split
  · rename_i l hx
    split
    · rename_i t ht
      refine ok_value rfl fun ρ F a w hM _ => ?_
      have h1 := hM.ev x
      rw [hx] at h1
      obtain ⟨⟨vs, h2, h3, h4⟩, h5⟩ := h1
      have hlt : i < vs.length := by rw [h3]; exact (List.getElem?_eq_some_iff.1 ht).1
      refine ⟨vs[i], ?_, h4 i t _ ht (List.getElem?_eq_getElem hlt), fun b hb => h5 b (List.mem_flatMap.2 ⟨t, List.mem_of_getElem? ht, hb⟩)⟩
      have : vs.toArray[i]? = some vs[i] := by simp [hlt]
      simp [execOp, ho, h2, Instr.extract, hlt]
    · exact bad_ok
  · exact bad_ok

def pMakeFunc (fn : Fn) (first caps : List AV) : Perf :=
  match fn, first, capPtrs caps with
  | .func f, [], some ps => .of (.val .clo (f, ps))
  | _, _, _ => .bad

theorem capPtrs_sound {P : Program} {ρ : Nat → Value} {w : World} {I : Nat → Prop} : ∀ {avs : List AV} {ps : List Ptr} {vs : List Value}, capPtrs avs = some ps → vs.length = avs.length →
    (∀ (i : Nat) (x : AV) (y : Value), avs[i]? = some x → vs[i]? = some y → RV P ρ w I x y) → vs = ps.map (·.val ρ) ∧ ∀ p ∈ ps, .val .ptr p ∈ avs ∧ p.good ρ := by
  intro avs
  induction avs with
  | nil =>
    intro ps vs h hl _
    simp only [capPtrs] at h
    obtain rfl := Option.some.inj h
    exact ⟨List.eq_nil_of_length_eq_zero hl, fun p hp => by cases hp⟩
  | cons x avs ih =>
    intro ps vs h hl hall
    unfold capPtrs at h
    split at h
    · rename_i heq; cases heq
    · rename_i p l heq
      cases heq
      obtain ⟨ps', hps', rfl⟩ := Option.map_eq_some_iff.1 h
      cases vs with
      | nil => simp at hl
      | cons y vs =>
        obtain ⟨h1, h2⟩ := ih hps' (by simpa using hl) (fun i a b ha hb => hall (i + 1) a b (by simpa using ha) (by simpa using hb))
        have h3 := hall 0 _ y rfl rfl
        refine ⟨by rw [RV_ptr h3, h1]; rfl, fun q hq => ?_⟩
        rcases List.mem_cons.1 hq with rfl | hq
        · exact ⟨List.mem_cons_self, RV_ptr_good h3⟩
        · exact ⟨List.mem_cons_of_mem _ (h2 q hq).1, (h2 q hq).2⟩
    · cases h

theorem ok_makeFunc {fn : Fn} {first caps : Array Operand} (ho : o.op = .makeFunc fn first caps) : OpOk cx o s nid (pMakeFunc fn (first.toList.map s.ev) (caps.toList.map s.ev)) := by
  unfold pMakeFunc
  split
  · rename_i f ps hfirst hcaps
    refine ok_value rfl fun ρ F a w hM _ => ?_
    obtain ⟨h1, h2⟩ := capPtrs_sound hcaps (vs := caps.toList.map a.eval) (by simp) (evs_ok hM caps.toList)
    have hfe : first = #[] := by
      have : first.toList = [] := by simpa using hfirst
      exact Array.toList_eq_nil_iff.1 this
    subst hfe
    refine ⟨.func (.func f) #[] (ps.map (·.val ρ)).toArray, ?_, ⟨_, rfl, rfl⟩, fun b hb => ?_⟩
    · have e : caps.map a.eval = (ps.map (·.val ρ)).toArray := by rw [← h1, ← Array.toList_map]
      simp [execOp, ho, Instr.makeFunc, e]
    · have hb : b ∈ ps.map (·.b) := hb
      obtain ⟨p, hp, rfl⟩ := List.mem_map.1 hb
      obtain ⟨x, hx, he⟩ := List.mem_map.1 (h2 p hp).1
      have hr := (hM.ev x).2
      rw [he] at hr
      exact hr _ (List.mem_singleton.2 rfl)
  · exact bad_ok
end
end Go.Sx
