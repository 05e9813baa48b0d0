/-
  That what SxPerf tells of an operation is what the machine does: reading and writing a block of the call's own.
-/
import Derived.Test.YtolkdkhdkfndfaaSxMem
namespace Go.Sx

theorem add_none (r o n : Nat) : (⟨r, o, none⟩ : Addr).add n = ⟨r, o + n, none⟩ := by unfold Addr.add; split <;> simp_all

theorem CellsAt_of_row {w : World} {r tid : Nat} {cur : Array Value} {fr : Nat × Nat} {pre c post : List Value} (hg : w.heap[r]? = some (.cells cur tid fr)) (hc : cur.toList = pre ++ c ++ post) :
    CellsAt w ⟨r, pre.length, none⟩ c := by
  intro j v hv
  rw [add_none, cell_of_row w r _ cur tid fr hg, ← Array.getElem?_toList, hc, List.append_assoc, List.getElem?_append_right (by omega)]
  have hj : j < c.length := (List.getElem?_eq_some_iff.1 hv).1
  rw [show pre.length + j - pre.length = j by omega, List.getElem?_append_left hj]
  exact hv

theorem flatten_split {m : Nat} : ∀ {css : List (List Value)} {i : Nat}, (∀ c ∈ css, c.length = m) → i < css.length → ∃ pre ci post, css[i]? = some ci ∧ css.flatten = pre ++ ci ++ post ∧ pre.length = i * m ∧
    ∀ ci', (css.set i ci').flatten = pre ++ ci' ++ post
  | [], i, _, hi => by cases hi
  | c :: css, 0, h, _ => ⟨[], c, css.flatten, rfl, by simp, by simp, fun ci' => by simp⟩
  | c :: css, i + 1, h, hi => by
    obtain ⟨pre, ci, post, h1, h2, h3, h4⟩ := flatten_split (css := css) (i := i) (fun c' hc' => h c' (List.mem_cons_of_mem _ hc')) (by simpa using hi)
    refine ⟨c ++ pre, ci, post, by simpa using h1, by simp [h2], ?_, fun ci' => by simp [h4 ci']⟩
    rw [List.length_append, h3, h c List.mem_cons_self, Nat.add_mul]
    omega

section
variable {P : Program} {ρ : Nat → Value} {w : World} {I : Nat → Prop}

theorem elemAt {n : Nat} {e : Ty} {l : List e.den} {c : List Value} {i : Nat} (h : Rd P (.arr n e) false ρ w I l c) (hi : i < n) (z : e.den) :
    ∃ pre ci post, c = pre ++ ci ++ post ∧ pre.length = i * e.size ∧ Rd P e false ρ w I (l.getD i z) ci ∧
      ∀ y' ci', Rd P e false ρ w I y' ci' → Rd P (.arr n e) false ρ w I (l.set i y' : List e.den) (pre ++ ci' ++ post) := by
  obtain ⟨hl, css, rfl, hn, hall⟩ := h
  have hil : i < l.length := by have : l.length = n := hl; omega
  have hlen : ∀ c ∈ css, c.length = e.size := by
    intro c hc
    obtain ⟨j, hj, rfl⟩ := List.mem_iff_getElem.1 hc
    have hjl : j < l.length := by have : l.length = n := hl; omega
    exact (hall j l[j] css[j] (List.getElem?_eq_getElem hjl) (List.getElem?_eq_getElem hj)).length
  obtain ⟨pre, ci, post, h1, h2, h3, h4⟩ := flatten_split (i := i) hlen (by omega)
  refine ⟨pre, ci, post, h2, h3, ?_, fun y' ci' hy' => ?_⟩
  · have hx : l[i]? = some (l.getD i z) := by simp [List.getD, hil]
    exact hall i _ ci hx h1
  · refine ⟨by rw [List.length_set]; exact hl, css.set i ci', (h4 ci').symm, by simp [hn], fun j x c' hx hc' => ?_⟩
    by_cases hij : i = j
    · subst hij
      rw [List.getElem?_set_self hil] at hx
      rw [List.getElem?_set_self (by omega)] at hc'
      obtain rfl := Option.some.inj hx
      obtain rfl := Option.some.inj hc'
      exact hy'
    · rw [List.getElem?_set_ne hij] at hx
      rw [List.getElem?_set_ne hij] at hc'
      exact hall j x c' hx hc'

theorem row_cells {e : Ty} {l : List e.den} {tid : TypeId} {v : Value} (h : RB P ρ w I v (.row e l tid)) (hl : 0 < l.length) :
    ∃ g cap cur xs rest, v = .slice (some ⟨g, 0, none⟩) l.length cap ∧ w.heap[g]? = some (.cells cur tid (0, 0)) ∧ l.length ≤ cap ∧ cap ≤ maxLen ∧ cur.size = cap * e.size ∧
      cur.toList = xs ++ rest ∧ xs.length = l.length * e.size ∧ Rd P (.arr l.length e) false ρ0 w I l xs := by
  obtain ⟨xs, ⟨h0, h1⟩, h2⟩ := h
  rcases h1 with ⟨_, _, h1⟩ | ⟨g, cap, cur, rfl, _, _, hg, h3, h4, h5, h6⟩
  · omega
  · refine ⟨g, cap, cur, xs, cur.toList.drop (l.length * e.size), rfl, hg, h3, h4, h5, ?_, h0, h2⟩
    rw [← h6, List.take_append_drop]

theorem refs_comp : ∀ {t : Ty} {x : t.den} {off : Nat} {tgt : Ty} {y : tgt.den}, comp t x off tgt = some y → ∀ b ∈ tgt.refs y, b ∈ t.refs x := by
  intro t
  have base : ∀ (t : Ty) (x : t.den) (off : Nat) (tgt : Ty) (y : tgt.den), (match Nat.beq off 0 with | true => Ty.as? t tgt x | false => none) = some y → ∀ b ∈ tgt.refs y, b ∈ t.refs x := by
    intro t x off tgt y h b hb
    split at h
    · obtain ⟨rfl, rfl⟩ := Ty.as?_some h; exact hb
    · cases h
  induction t with
  | pair p q ihp ihq =>
    intro x off tgt y h b hb
    unfold comp at h
    split at h
    · obtain ⟨rfl, rfl⟩ := Ty.as?_some h; exact hb
    · simp only [Ty.refs, List.mem_append]
      split at h
      · exact .inl (ihp h b hb)
      · exact .inr (ihq h b hb)
  | int k => intro x off tgt y h; exact base _ x off tgt y h
  | bool => intro x off tgt y h; exact base _ x off tgt y h
  | nil => intro x off tgt y h; exact base _ x off tgt y h
  | unit => intro x off tgt y h; exact base _ x off tgt y h
  | slice e _ => intro x off tgt y h; exact base _ x off tgt y h
  | arr n e _ => intro x off tgt y h; exact base _ x off tgt y h
  | own => intro x off tgt y h; exact base _ x off tgt y h
  | ptr => intro x off tgt y h; exact base _ x off tgt y h
  | clo => intro x off tgt y h; exact base _ x off tgt y h
  | fn a b _ _ => intro x off tgt y h; exact base _ x off tgt y h
  | fn2 p a b _ _ _ => intro x off tgt y h; exact base _ x off tgt y h
  | ref t _ => intro x off tgt y h; exact base _ x off tgt y h

theorem refs_setc : ∀ {t : Ty} {x x' : t.den} {off : Nat} {tgt : Ty} {y : tgt.den}, setc t x off tgt y = some x' → ∀ b ∈ t.refs x', b ∈ t.refs x ∨ b ∈ tgt.refs y := by
  intro t
  have base : ∀ (t : Ty) (x x' : t.den) (off : Nat) (tgt : Ty) (y : tgt.den), (match Nat.beq off 0 with | true => Ty.as? tgt t y | false => none) = some x' → ∀ b ∈ t.refs x', b ∈ t.refs x ∨ b ∈ tgt.refs y := by
    intro t x x' off tgt y h b hb
    split at h
    · obtain ⟨rfl, rfl⟩ := Ty.as?_some h; exact .inr hb
    · cases h
  induction t with
  | pair p q ihp ihq =>
    intro x x' off tgt y h b hb
    unfold setc at h
    split at h
    · obtain ⟨rfl, rfl⟩ := Ty.as?_some h; exact .inr hb
    · simp only [Ty.refs, List.mem_append] at hb ⊢
      split at h
      · obtain ⟨z, hz, rfl⟩ := Option.map_eq_some_iff.1 h
        rcases hb with hb | hb
        · rcases ihp hz b hb with h | h
          · exact .inl (.inl h)
          · exact .inr h
        · exact .inl (.inr hb)
      · obtain ⟨z, hz, rfl⟩ := Option.map_eq_some_iff.1 h
        rcases hb with hb | hb
        · exact .inl (.inl hb)
        · rcases ihq hz b hb with h | h
          · exact .inl (.inr h)
          · exact .inr h
  | int k => intro x x' off tgt y h; exact base _ x x' off tgt y h
  | bool => intro x x' off tgt y h; exact base _ x x' off tgt y h
  | nil => intro x x' off tgt y h; exact base _ x x' off tgt y h
  | unit => intro x x' off tgt y h; exact base _ x x' off tgt y h
  | slice e _ => intro x x' off tgt y h; exact base _ x x' off tgt y h
  | arr n e _ => intro x x' off tgt y h; exact base _ x x' off tgt y h
  | own => intro x x' off tgt y h; exact base _ x x' off tgt y h
  | ptr => intro x x' off tgt y h; exact base _ x x' off tgt y h
  | clo => intro x x' off tgt y h; exact base _ x x' off tgt y h
  | fn a b _ _ => intro x x' off tgt y h; exact base _ x x' off tgt y h
  | fn2 p a b _ _ _ => intro x x' off tgt y h; exact base _ x x' off tgt y h
  | ref t _ => intro x x' off tgt y h; exact base _ x x' off tgt y h

theorem refs_arr_mem {n : Nat} {e : Ty} {l : List e.den} {b : Nat} (h : b ∈ (Ty.arr n e).refs l) : ∃ x ∈ l, b ∈ e.refs x := by
  simp only [Ty.refs] at h
  split at h
  · cases h
  · exact List.mem_flatMap.1 h
theorem refs_arr_of {n : Nat} {e : Ty} {l : List e.den} {b : Nat} {x : e.den} (hx : x ∈ l) (h : b ∈ e.refs x) : b ∈ (Ty.arr n e).refs l := by
  simp only [Ty.refs]
  split
  · rename_i hd; rw [Ty.deep_refs hd] at h; cases h
  · exact List.mem_flatMap.2 ⟨x, hx, h⟩

theorem refs_arrc : ∀ {t : Ty} {x : t.den} {off : Nat} {A : ArrC}, arrc t x off = some A → (∀ b ∈ (Ty.arr A.n A.e).refs A.l, b ∈ t.refs x) ∧
    ∀ l' x', seta t x off A.e l' = some x' → ∀ b ∈ t.refs x', b ∈ t.refs x ∨ b ∈ (Ty.arr A.n A.e).refs l' := by
  intro t
  induction t with
  | pair p q ihp ihq =>
    intro x off A h
    unfold arrc at h
    split at h
    · rename_i hlt
      obtain ⟨h1, h2⟩ := ihp h
      refine ⟨fun b hb => List.mem_append.2 (.inl (h1 b hb)), fun l' x' hx' b hb => ?_⟩
      unfold seta at hx'
      rw [hlt] at hx'
      obtain ⟨z, hz, rfl⟩ := Option.map_eq_some_iff.1 hx'
      simp only [Ty.refs, List.mem_append] at hb ⊢
      rcases hb with hb | hb
      · rcases h2 l' z hz b hb with h | h
        · exact .inl (.inl h)
        · exact .inr h
      · exact .inl (.inr hb)
    · rename_i hlt
      obtain ⟨h1, h2⟩ := ihq h
      refine ⟨fun b hb => List.mem_append.2 (.inr (h1 b hb)), fun l' x' hx' b hb => ?_⟩
      unfold seta at hx'
      rw [hlt] at hx'
      obtain ⟨z, hz, rfl⟩ := Option.map_eq_some_iff.1 hx'
      simp only [Ty.refs, List.mem_append] at hb ⊢
      rcases hb with hb | hb
      · exact .inl (.inl hb)
      · rcases h2 l' z hz b hb with h | h
        · exact .inl (.inr h)
        · exact .inr h
  | arr n e _ =>
    intro x off A h
    unfold arrc at h
    split at h
    · rename_i ho
      obtain rfl := Option.some.inj h
      refine ⟨fun b hb => hb, fun l' x' hx' b hb => ?_⟩
      unfold seta at hx'
      rw [ho] at hx'
      obtain ⟨he, rfl⟩ := Ty.as?_some hx'
      exact .inr hb
    · cases h
  | _ => intro x off A h; simp [arrc] at h
/-- What a pointer leads to. -/
theorem place_sound {k : Blk} {p : Ptr} {t : Ty} {y : t.den} {ob : Option Prop} (h : RB P ρ w I (ρ p.b) k) (hg : getP k p t = (some y, ob)) (hob : obP ob) :
    ∃ r tid cur pre c post, real (ρ p.b) = some r ∧ p.val ρ = .pointer (some ⟨r, pre.length, none⟩) ∧ w.heap[r]? = some (.cells cur tid (0, 0)) ∧ cur.toList = pre ++ c ++ post ∧ Rd P t false ρ w I y c ∧ (∀ b ∈ t.refs y, b ∈ k.refs) := by
  cases k with
  | cells ty x =>
    obtain ⟨r, tid, cur, hv, hcur, hx⟩ := h
    unfold getP at hg
    simp only at hg
    split at hg
    · rename_i hes
      have hes := Nat.eq_of_beq_eq_true hes
      simp only [Prod.mk.injEq] at hg
      obtain ⟨pre, c, post, h1, h2, h3⟩ := comp_sound hx hg.1
      refine ⟨r, tid, cur, pre, c, post, by rw [hv]; rfl, ?_, hcur, h1, h3, refs_comp hg.1⟩
      unfold Ptr.val
      rw [hv]
      simp only [add_none, h2, Ptr.co, hes, Nat.mul_zero, Nat.add_zero, Nat.zero_add]
    · split at hg
      · rename_i A hA
        split at hg
        · rename_i hes
          have hes := Nat.eq_of_beq_eq_true hes
          simp only [Prod.mk.injEq] at hg
          obtain ⟨hc, rfl⟩ := hg
          obtain ⟨pre, c, post, h1, h2, h3, _⟩ := arrc_sound hx hA
          have hi : p.i.toNat < A.n := by have := hob.1; have := hob.2; omega
          obtain ⟨pre2, ci, post2, h4, h5, h6, _⟩ := elemAt h3 hi A.e.zero
          obtain ⟨pre3, c3, post3, h7, h8, h9⟩ := comp_sound h6 hc
          refine ⟨r, tid, cur, pre ++ pre2 ++ pre3, c3, post3 ++ post2 ++ post, by rw [hv]; rfl, ?_, hcur, by rw [h1, h4, h7]; simp, h9, fun b hb => ?_⟩
          rotate_left
          · have hl : A.l.length = A.n := h3.1
            have hlt : p.i.toNat < A.l.length := by omega
            refine (refs_arrc hA).1 b (refs_arr_of (x := A.l.getD p.i.toNat A.e.zero) ?_ (refs_comp hc b hb))
            simp only [List.getD, List.getElem?_eq_getElem hlt, Option.getD_some]
            exact List.getElem_mem hlt
          unfold Ptr.val
          rw [hv]
          simp only [add_none, Ptr.co, List.length_append, h2, h5, h8, hes, Nat.zero_add]
        · cases hg
      · cases hg
  | row e l tid =>
    unfold getP at hg
    simp only at hg
    split at hg
    · rename_i hes
      simp only [Bool.and_eq_true] at hes
      have hes1 := Nat.eq_of_beq_eq_true hes.1.1
      have hes2 := Nat.eq_of_beq_eq_true hes.1.2
      have hdeep := hes.2
      simp only [Prod.mk.injEq] at hg
      obtain ⟨hc, rfl⟩ := hg
      have hi : p.i.toNat < l.length := by have := hob.1; have := hob.2; omega
      obtain ⟨g, cap, cur, xs, rest, hv, hcur, hcap, _, _, h1, h2, h3⟩ := row_cells h (by omega)
      obtain ⟨pre2, ci, post2, h4, h5, h6, _⟩ := elemAt h3 hi e.zero
      obtain ⟨pre3, c3, post3, h7, h8, h9⟩ := comp_sound h6 hc
      refine ⟨g, tid, cur, pre2 ++ pre3, c3, post3 ++ post2 ++ rest, by rw [hv]; exact real_slice (by omega), ?_, hcur, by rw [h1, h4, h7]; simp, h9.rho (fun b hb => by rw [Ty.deep_refs hdeep] at hb; cases hb), fun b hb => by rw [Ty.deep_refs hdeep] at hb; cases hb⟩
      unfold Ptr.val
      rw [hv]
      simp only [add_none, Ptr.co, List.length_append, h5, h8, hes1, hes2, Nat.zero_add]
    · cases hg

end

section
variable {cx : Cx} {s : St} {o : Oper} {nid : Nat} {c : Ctx}

def TOk (P : Program) (c : Ctx) : Prop := ∀ t ty, (t, ty) ∈ c.T → tyOk P t ty = true

theorem tyOk_sound {P : Program} {t : TypeId} {ty : Ty} (h : tyOk P t ty = true) :
    ∃ i d, P.info? t = some i ∧ i.size = ty.size ∧ P.underlying t = some d ∧ (match d with | .struct _ | .array _ _ => true | _ => false) = ty.agg := by
  unfold tyOk at h
  split at h
  · cases h
  · rename_i i hi
    simp only [Bool.and_eq_true] at h
    obtain ⟨h1, h2⟩ := h
    split at h2
    · rename_i hd; exact ⟨i, _, hi, Nat.eq_of_beq_eq_true h1, hd, by simp [h2]⟩
    · rename_i hd; exact ⟨i, _, hi, Nat.eq_of_beq_eq_true h1, hd, by simp [h2]⟩
    · rename_i d hn1 hn2 hd
      refine ⟨i, d, hi, Nat.eq_of_beq_eq_true h1, hd, ?_⟩
      have : ty.agg = false := by simpa using h2
      rw [this]
      cases d <;> first | rfl | exact absurd rfl (hn1 _) | exact absurd rfl (hn2 _ _)
    · cases h2

theorem run_loadAt {P : Program} {w : World} {t : TypeId} {ty : Ty} (hty : tyOk P t ty = true) {ad : Addr} {cs : List Value} (hc : CellsAt w ad cs) (hl : cs.length = ty.size) :
    (Instr.loadAt t (.pointer (some ad))).run P w = .ok (mkV ty cs) w := by
  obtain ⟨i, d, hi, hs, hd, hagg⟩ := tyOk_sound hty
  have hld := run_loadCells_list (P := P) w ad cs hc
  have hisagg : (isAgg t).run P w = .ok ty.agg w := by
    unfold isAgg
    rw [Sem.run_bind, run_underlying hd w]
    rw [← hagg]
    cases d <;> rfl
  simp only [Instr.loadAt, Instr.sureAddr, loadVar, Sem.run_bind, Sem.run_pure, Result.andThen_ok, hisagg]
  cases ha : ty.agg with
  | true =>
    simp only [if_true, Sem.run_bind, sizeOf, typeInfo, run_program, Result.andThen_ok, hi, Sem.run_pure, hs, ← hl, hld, mkV, ha]
  | false =>
    have h1 : ty.size = 1 := by cases ty <;> simp [Ty.agg] at ha <;> rfl
    have hcl : cs.length = 1 := by rw [hl, h1]
    match cs, hcl with
    | [v], _ =>
      have hv := hc 0 v rfl
      have h0 : ad.add 0 = ad := by simp [Addr.add]
      rw [h0] at hv
      simp only [Bool.false_eq_true, if_false, run_load, hv, mkV, ha, List.headD]

theorem ok_load {hp : Nat → Option Blk} (hhp : ∀ b k, hp b = some k → s.hp b = some k) {t : TypeId} {x : Operand} (ho : o.op = .load t x) (hT : TOk cx.P c) :
    OpOk cx o s nid (pLoad c hp t (s.ev x)) := by
  unfold pLoad
  split
  · exact bad_ok
  · rename_i ty hf
    have hty := hT _ _ (find_mem hf)
    split
    · rename_i p hx
      split
      · rename_i k hk
        split
        · rename_i y ob hgp
          refine ok_value rfl fun ρ F a w hM hob => ?_
          have h1 := (hM.ev x).1
          rw [hx] at h1
          have h1 := RV_ptr h1
          obtain ⟨r, tid, cur, pre, cc, post, _, h2, h3, h4, h5, h5r⟩ := place_sound (hM.blks p.b k (hhp _ _ hk)) hgp hob
          have h6 : CellsAt w ⟨r, pre.length, none⟩ cc := CellsAt_of_row h3 h4
          have hlen : cc.length = ty.size := h5.length
          refine ⟨mkV ty cc, ?_, ?_, ?_⟩
          · simp only [execOp, ho, h1, h2, Sem.run_bind, run_loadAt hty h6 hlen, Result.andThen_ok, Sem.run_pure]
          · exact ⟨cc, rfl, h5⟩
          · exact fun b hb => (hM.brefs _ _ (hhp _ _ hk)).2 b (h5r b hb)
        · exact bad_ok
      · exact bad_ok
    · rename_i t' y off hx
      split
      rotate_left
      · exact bad_ok
      rename_i hdeep
      split
      · rename_i z hz
        refine ok_value rfl fun ρ F a w hM _ => ?_
        have h1 := (hM.ev x).1
        rw [hx] at h1
        obtain ⟨ad, cc, h1, h2, h3, h4, h5, h6⟩ := h1
        obtain ⟨pre, c3, post, rfl, h8, h9⟩ := comp_sound h6 hz
        have h10 : CellsAt w (ad.add off) c3 := by
          intro j v hv
          have hj : j < c3.length := (List.getElem?_eq_some_iff.1 hv).1
          have := h5 (off + j) v (by
            rw [List.append_assoc, List.getElem?_append_right (by omega), h8, show off + j - off = j by omega, List.getElem?_append_left hj]
            exact hv)
          have hadd : (ad.add off).add j = ad.add (off + j) := by
            obtain ⟨b, o', sp⟩ := ad
            have h2 : sp = none := h2
            subst h2
            rw [add_none, add_none, add_none, Nat.add_assoc]
          rw [hadd]
          exact this
        refine ⟨mkV ty c3, ?_, ?_, ?_⟩
        · simp only [execOp, ho, h1, Sem.run_bind, run_loadAt hty h10 h9.length, Result.andThen_ok, Sem.run_pure]
        · exact ⟨c3, rfl, h9.rho (fun b hb => by rw [Ty.deep_refs hdeep] at hb; cases hb)⟩
        · exact fun b hb => by have hb : b ∈ ty.refs z := hb; rw [Ty.deep_refs hdeep] at hb; cases hb
      · exact bad_ok
    · exact bad_ok
end
end Go.Sx
