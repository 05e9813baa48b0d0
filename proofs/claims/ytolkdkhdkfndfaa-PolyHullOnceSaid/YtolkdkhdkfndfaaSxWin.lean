/-
  A part of an array of the call's own, and copying from one into another.
-/
import Derived.Test.YtolkdkhdkfndfaaSxMem6
import Derived.Test.YtolkdkhdkfndfaaSxCall2
namespace Go.Sx

def cutNat (k : Int) : Option Nat := match decide (0 ≤ k) with
  | true => some k.toNat
  | false => none
theorem cutNat_some {k : Int} {l : Nat} (h : cutNat k = some l) : k = (l : Int) := by
  unfold cutNat at h
  split at h
  · rename_i hd
    have := of_decide_eq_true hd
    obtain rfl := Option.some.inj h
    omega
  · cases h
def cutAt (lo : Option AV) (d : Nat) : Option Nat :=
  match lo with
  | none => some d
  | some (.val (.int _) k) => cutNat k
  | _ => none

def pSliceA (P : Program) (t : TypeId) (p : Ptr) (lo hi : Option AV) (mx : Bool) : Perf :=
  match mx, P.underlying t with
  | false, some (.array n et) => match cutAt lo 0, cutAt hi n, (P.info? et).map (·.size) with
    | some l, some h, some i => match Nat.beq p.co 0 && (Nat.beq i 1 && (Nat.blt l n && (Nat.ble l h && Nat.ble h n))) with
      | true => .of (.win p.b l (h - l))
      | false => .bad
    | _, _, _ => .bad
  | _, _ => .bad

def pSliceX (P : Program) (t : TypeId) (x : AV) (lo hi : Option AV) (mx : Bool) : Perf :=
  match x with
  | .val .ptr p => pSliceA P t p lo hi mx
  | av => pSlice P t av lo hi mx

/-- m numbers of l' from lo' on, laid over l from lo on. -/
def cpy (l : List Int) (lo : Nat) (l' : List Int) (lo' m : Nat) : List Int := l.take lo ++ ((l'.drop lo').take m ++ l.drop (lo + m))

def pCopyB (i : Nat) (b lo n lo' n' : Nat) : Option Blk → Option Blk → Perf
  | some (.cells (.arr N (.int k)) l), some (.cells (.arr N' (.int k')) l') => match decide (k = k') && (Nat.beq i 1 && (Nat.ble (lo + Nat.min n' n) N && Nat.ble (lo' + Nat.min n' n) N')) with
    | true => ⟨.val (.int .i64) ((Nat.min n' n : Nat) : Int), [(b, some (.cells (.arr N (.int k)) (cpy l lo l' lo' (Nat.min n' n))))], none⟩
    | false => .bad
  | _, _ => .bad

def pCopy (P : Program) (hp : Nat → Option Blk) (t : TypeId) (x y : AV) : Perf :=
  match P.underlying t, x, y with
  | some (.slice et), .win b lo n, .win b' lo' n' => match (P.info? et).map (·.size) with
    | some i => pCopyB i b lo n lo' n' (hp b) (hp b')
    | none => .bad
  | _, _, _ => .bad

theorem rd_ints' {P : Program} {ρ : Nat → Value} {w : World} {I : Nat → Prop} {n : Nat} {k : IntKind} {l : List Int} (h : l.length = n) : Rd P (.arr n (.int k)) false ρ w I l (l.map (Value.int k)) := by
  refine ⟨h, l.map fun x => [Value.int k x], ?_, by simpa using h, ?_⟩
  · rw [flatten_one]
  · intro i x c hx hc
    have hx : l[i]? = some x := hx
    rw [List.getElem?_map, hx] at hc
    exact (Option.some.inj hc).symm

section
variable {cx : Cx} {s : St} {o : Oper} {nid : Nat} {c : Ctx}

theorem cutAt_run {P : Program} {w : World} {ρ : Nat → Value} {I : Nat → Prop} {lo : Option AV} {d l : Nat} (h : cutAt lo d = some l) {g : Operand → AV} {f : Operand → Value} (hv : ∀ y, RV P ρ w I (g y) (f y)) {x : Option Operand} (hx : lo = x.map g) :
    (x = none ∧ l = d) ∨ ∃ y k, x = some y ∧ f y = .int k (l : Int) := by
  subst hx
  cases x with
  | none => exact .inl ⟨rfl, (Option.some.inj h).symm⟩
  | some y =>
    simp only [Option.map_some] at h
    unfold cutAt at h
    split at h
    · rename_i hh; cases hh
    · rename_i k r' hh
      have hk := cutNat_some h
      have := hv y
      rw [Option.some.inj hh] at this
      refine .inr ⟨y, k, rfl, ?_⟩
      rw [RV_int this]
      exact congrArg _ hk
    · cases h

theorem ok_sliceA {t : TypeId} {x : Operand} {p : Ptr} {lo hi mx : Option Operand} (ho : o.op = .slice t x lo hi mx) (hx : s.ev x = .val .ptr p) : OpOk cx o s nid (pSliceA cx.P t p (lo.map s.ev) (hi.map s.ev) mx.isSome) := by
  unfold pSliceA
  split
  · rename_i n et hm hu
    split
    · rename_i l h i hl hh hi'
      split
      · rename_i hb
        simp only [Bool.and_eq_true] at hb
        obtain ⟨b1, b2, b3, b4, b5⟩ := hb
        have b1 := Nat.eq_of_beq_eq_true b1
        have b2 := Nat.eq_of_beq_eq_true b2
        have b3 := blt_true b3
        have b4 := Nat.le_of_ble_eq_true b4
        have b5 := Nat.le_of_ble_eq_true b5
        subst b2
        refine ok_value rfl fun ρ F a w hM _ => ?_
        have h1 := (hM.ev x).1
        rw [hx] at h1
        have hg := RV_ptr_good h1
        have hv := RV_ptr h1
        obtain ⟨ad, hs, hq⟩ := hg
        have hpv : a.eval x = .pointer (some (ad.add 0)) := by rw [hv, hq p rfl, b1]
        have hmx : mx = none := by cases mx <;> simp at hm ⊢
        subst hmx
        have hlo := cutAt_run hl (fun y => (hM.ev y).1) (x := lo) rfl
        have hhi := cutAt_run hh (fun y => (hM.ev y).1) (x := hi) rfl
        have hsb : (Instr.sliceBounds false n n (lo.map a.eval) (hi.map a.eval) none).run cx.P w = .ok (l, h, n) w := by
          rcases hlo with ⟨rfl, rfl⟩ | ⟨y, k, rfl, hy⟩ <;> rcases hhi with ⟨rfl, rfl⟩ | ⟨z, k', rfl, hz⟩
          · simp [Instr.sliceBounds]
          · simp [Instr.sliceBounds, Instr.sliceBound, hz, asIntOf, b5]
          · simp [Instr.sliceBounds, Instr.sliceBound, hy, asIntOf, b4]
          · simp [Instr.sliceBounds, Instr.sliceBound, hy, hz, asIntOf, b4, b5]
        have hadd : (ad.add 0).add l = ad.add l := by
          cases ad
          simp only at hs
          subst hs
          simp [Addr.add]
        obtain ⟨ti, hti, hsz⟩ := Option.map_eq_some_iff.1 hi'
        refine ⟨.slice (some (ad.add l)) (h - l) (n - l), ?_, ⟨ad, n - l, hs, hq, rfl, by omega⟩, fun b hb => ?_⟩
        · have hne : ¬ n = l := by omega
          simp only [execOp, ho, hpv, Sem.run_bind, Option.map_none]
          simp [Instr.sliceAt, run_underlying hu, Instr.sureAddr, hsb, sizeOf, typeInfo, hti, hsz, hne, hadd]
        · have hb : b ∈ [p.b] := hb
          rw [List.mem_singleton.1 hb]
          exact (hM.ev x).2 p.b (by rw [hx]; exact List.mem_singleton.2 rfl)
      · exact bad_ok
    · exact bad_ok
  · exact bad_ok

theorem ok_sliceX {t : TypeId} {x : Operand} {lo hi mx : Option Operand} (ho : o.op = .slice t x lo hi mx) : OpOk cx o s nid (pSliceX cx.P t (s.ev x) (lo.map s.ev) (hi.map s.ev) mx.isSome) := by
  unfold pSliceX
  split
  · rename_i p hx
    exact ok_sliceA ho hx
  · exact ok_slice ho

theorem ok_copyB {x y : Operand} {t t' et : TypeId} {b lo n b' lo' n' N N' : Nat} {k : IntKind} {l l' : List Int} (ho : o.op = .call { callee := .builtin .copy, args := #[x, y], argTypes := #[t, t'] })
    (hu : cx.P.underlying t = some (.slice et)) (hi : (cx.P.info? et).map (·.size) = some 1) (hx : s.ev x = .win b lo n) (hy : s.ev y = .win b' lo' n')
    (hk : s.hp b = some (.cells (.arr N (.int k)) l)) (hk' : s.hp b' = some (.cells (.arr N' (.int k)) l')) (b3 : lo + Nat.min n' n ≤ N) (b4 : lo' + Nat.min n' n ≤ N') :
    OpOk cx o s nid ⟨.val (.int .i64) ((Nat.min n' n : Nat) : Int), [(b, some (.cells (.arr N (.int k)) (cpy l lo l' lo' (Nat.min n' n))))], none⟩ := by
  intro ρ F a w next Q hM hnF _ hn
  have h1 := (hM.ev x).1
  have h2 := (hM.ev y).1
  rw [hx] at h1
  rw [hy] at h2
  obtain ⟨ad, cap, s1, q1, v1, _⟩ := h1
  obtain ⟨ad', cap', s2, q2, v2, _⟩ := h2
  obtain ⟨r, tid, cur, e1, e2, e3⟩ := hM.blks b _ hk
  obtain ⟨r', tid', cur', f1, f2, f3⟩ := hM.blks b' _ hk'
  have a1 := win_addr s1 q1 e1
  have a2 := win_addr s2 q2 f1
  subst a1 a2
  rw [add_none, Nat.zero_add] at v1 v2
  obtain ⟨c1, c2⟩ := rd_ints (l := l) e3
  obtain ⟨d1, d2⟩ := rd_ints (l := l') f3
  generalize hm : Nat.min n' n = m at *
  have hlen : (((l'.drop lo').take m).map (Value.int k)).length = m := by
    rw [List.length_map, List.length_take, List.length_drop]
    omega
  have hsize : cur.size = N := by
    have : cur.size = cur.toList.length := by simp
    rw [this, c1, List.length_map, c2]
  have hrun := run_copy_row (P := cx.P) w t t' o.type et r lo n cap ⟨r', lo', none⟩ n' cap' cur tid (((l'.drop lo').take m).map (Value.int k)) hu hi e2 (by rw [hlen, hm]) (fun j v hj => by
    rw [add_none, cell_of_row w r' _ cur' tid' _ f2, ← Array.getElem?_toList, d1]
    rw [List.getElem?_map, List.getElem?_take] at hj
    rw [List.getElem?_map]
    split at hj
    · rw [List.getElem?_drop] at hj
      exact hj
    · cases hj) (by rw [hlen, hsize]; exact b3) (by
    intro v hv
    obtain ⟨u, _, rfl⟩ := List.mem_map.1 hv
    rfl)
  rw [hlen] at hrun
  have hnew : (cur.toList.take lo ++ ((l'.drop lo').take m).map (Value.int k) ++ cur.toList.drop (lo + m)) = (cpy l lo l' lo' m).map (Value.int k) := by
    unfold cpy
    rw [c1]
    simp [List.map_take, List.map_drop]
  have hcl : (cpy l lo l' lo' m).length = N := by
    unfold cpy
    rw [List.length_append, List.length_append, List.length_take, List.length_take, List.length_drop, List.length_drop]
    omega
  have hreal : real (ρ b) = some r := by rw [e1]; rfl
  have hset := M.set hM s.ok hk (k := .cells (.arr N (.int k)) (cpy l lo l' lo' m)) (w' := w.setRow r (cur.toList.take lo ++ ((l'.drop lo').take m).map (Value.int k) ++ cur.toList.drop (lo + m)).toArray) rfl ⟨rfl, Nat.le_refl _⟩ rfl (by simp [World.setRow])
    (fun q hq => setRow_other w r q _ (fun e => hq (by rw [hreal, e])))
    ⟨r, tid, _, e1, setRow_heap w r cur _ tid _ e2, by rw [hnew]; exact rd_ints' hcl⟩
    (fun c hc => by
      have e0 : (Blk.cells (.arr N (.int k)) (cpy l lo l' lo' m)).refs = [] := rfl
      rw [e0] at hc
      cases hc) rfl
  unfold Oper.wp
  have hex : (execOp a.eval o).run cx.P w = .ok (.value (goInt m)) (w.setRow r (cur.toList.take lo ++ ((l'.drop lo').take m).map (Value.int k) ++ cur.toList.drop (lo + m)).toArray) := by
    simp [execOp, ho, resolve, invoke, builtin, v1, v2, hrun]
  rw [hex]
  exact hn ρ (goInt m) _ ((M.put hset o.dst (av := .val (.int .i64) (m : Int)) ⟨[.int .i64 (m : Int)], rfl, rfl⟩ (fun b hb => by cases hb) s.ok).widen (fun b hb => .inl hb))

theorem ok_copy {hp : Nat → Option Blk} (hhp : ∀ b k, hp b = some k → s.hp b = some k) {t t' : TypeId} {x y : Operand}
    (ho : o.op = .call { callee := .builtin .copy, args := #[x, y], argTypes := #[t, t'] }) : OpOk cx o s nid (pCopy cx.P hp t (s.ev x) (s.ev y)) := by
  unfold pCopy
  split
  · rename_i et b lo n b' lo' n' hu hx hy
    split
    · rename_i i hi
      unfold pCopyB
      split
      · rename_i N k l N' k' l' hk hk'
        split
        · rename_i hb
          simp only [Bool.and_eq_true] at hb
          obtain ⟨b1, b2, b3, b4⟩ := hb
          obtain rfl := of_decide_eq_true b1
          have b2 := Nat.eq_of_beq_eq_true b2
          subst b2
          exact ok_copyB ho hu hi hx hy (hhp _ _ hk) (hhp _ _ hk') (Nat.le_of_ble_eq_true b3) (Nat.le_of_ble_eq_true b4)
        · exact bad_ok
      · exact bad_ok
    · exact bad_ok
  · exact bad_ok
end
end Go.Sx
