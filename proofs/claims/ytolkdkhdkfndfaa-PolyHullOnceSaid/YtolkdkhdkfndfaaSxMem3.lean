/-
  That what SxPerf tells of an operation is what the machine does: writing a block of the call's own; addresses; whole values.
-/
import Derived.Test.YtolkdkhdkfndfaaSxMem2
namespace Go.Sx

section
variable {P : Program} {ρ : Nat → Value} {w : World} {I : Nat → Prop}

/-- What a store through a pointer writes. -/
theorem setP_isC {k k' : Blk} {p : Ptr} {t : Ty} {z : t.den} {ob : Option Prop} (h : setP k p t z = (some k', ob)) : k'.isC = k.isC := by
  cases k with
  | cells ty x =>
    unfold setP at h
    simp only at h
    split at h
    · simp only [Prod.mk.injEq, Option.map_eq_some_iff] at h
      obtain ⟨⟨_, _, rfl⟩, _⟩ := h
      rfl
    · split at h
      · split at h
        · simp only [Prod.mk.injEq, Option.bind_eq_some_iff, Option.map_eq_some_iff] at h
          obtain ⟨⟨_, _, _, _, rfl⟩, _⟩ := h
          rfl
        · simp at h
      · simp at h
  | row e l tid =>
    unfold setP at h
    simp only at h
    split at h
    · simp only [Prod.mk.injEq, Option.map_eq_some_iff] at h
      obtain ⟨⟨_, _, rfl⟩, _⟩ := h
      rfl
    · simp at h

theorem put_sound {k k' : Blk} {p : Ptr} {t : Ty} {z : t.den} {ob : Option Prop} {cz : List Value} (h : RB P ρ w I (ρ p.b) k) (hg : setP k p t z = (some k', ob)) (hob : obP ob) (hz : Rd P t false ρ w I z cz) :
    ∃ r tid cur pre c post, real (ρ p.b) = some r ∧ p.val ρ = .pointer (some ⟨r, pre.length, none⟩) ∧ w.heap[r]? = some (.cells cur tid (0, 0)) ∧ cur.toList = pre ++ c ++ post ∧ c.length = cz.length ∧
      (∀ w', Pres I w w' → w'.heap[r]? = some (.cells (pre ++ cz ++ post).toArray tid (0, 0)) → RB P ρ w' I (ρ p.b) k') ∧ (∀ b ∈ k'.refs, b ∈ k.refs ∨ b ∈ t.refs z) := by
  cases k with
  | cells ty x =>
    obtain ⟨r, tid, cur, hv, hcur, hx⟩ := h
    unfold setP at hg
    simp only at hg
    split at hg
    · rename_i hes
      have hes := Nat.eq_of_beq_eq_true hes
      simp only [Prod.mk.injEq] at hg
      obtain ⟨x', hx', rfl⟩ := Option.map_eq_some_iff.1 hg.1
      obtain ⟨pre, c, post, h1, h2, h3, h4⟩ := setc_sound hx hx' hz
      refine ⟨r, tid, cur, pre, c, post, by rw [hv]; rfl, ?_, hcur, h1, h3, fun w' hp hw' => ⟨r, tid, _, hv, hw', ?_⟩, refs_setc hx'⟩
      · unfold Ptr.val
        rw [hv]
        simp only [add_none, h2, Ptr.co, hes, Nat.mul_zero, Nat.add_zero, Nat.zero_add]
      · exact h4.mono hp (fun _ _ h => h)
    · split at hg
      · rename_i A hA
        split at hg
        · rename_i hes
          have hes := Nat.eq_of_beq_eq_true hes
          simp only [Prod.mk.injEq] at hg
          obtain ⟨hc, rfl⟩ := hg
          obtain ⟨e', he', hc⟩ := Option.bind_eq_some_iff.1 hc
          obtain ⟨x', hx', rfl⟩ := Option.map_eq_some_iff.1 hc
          obtain ⟨pre, c, post, h1, h2, h3, h3'⟩ := arrc_sound hx hA
          have hi : p.i.toNat < A.n := by have := hob.1; have := hob.2; omega
          obtain ⟨pre2, ci, post2, h4, h5, h6, h6'⟩ := elemAt h3 hi A.e.zero
          obtain ⟨pre3, c3, post3, h7, h8, h9, h10⟩ := setc_sound h6 he' hz
          have h11 := h3' _ x' _ hx' (h6' _ _ h10)
          refine ⟨r, tid, cur, pre ++ pre2 ++ pre3, c3, post3 ++ post2 ++ post, by rw [hv]; rfl, ?_, hcur, by rw [h1, h4, h7]; simp, h9, fun w' hp hw' => ⟨r, tid, _, hv, hw', ?_⟩, fun b hb => ?_⟩
          · unfold Ptr.val
            rw [hv]
            simp only [add_none, Ptr.co, List.length_append, h2, h5, h8, hes, Nat.zero_add]
          · have e : pre ++ pre2 ++ pre3 ++ cz ++ (post3 ++ post2 ++ post) = pre ++ (pre2 ++ (pre3 ++ cz ++ post3) ++ post2) ++ post := by simp
            rw [e]
            exact h11.mono hp (fun _ _ h => h)
          · have hl : A.l.length = A.n := h3.1
            have hlt : p.i.toNat < A.l.length := by omega
            rcases (refs_arrc hA).2 _ x' hx' b hb with hb | hb
            · exact .inl hb
            · obtain ⟨y, hy, hby⟩ := refs_arr_mem hb
              rcases List.mem_or_eq_of_mem_set hy with hy | rfl
              · exact .inl ((refs_arrc hA).1 b (refs_arr_of hy hby))
              · rcases refs_setc he' b hby with h | h
                · refine .inl ((refs_arrc hA).1 b (refs_arr_of (x := A.l.getD p.i.toNat A.e.zero) ?_ h))
                  simp only [List.getD, List.getElem?_eq_getElem hlt, Option.getD_some]
                  exact List.getElem_mem hlt
                · exact .inr h
        · cases hg
      · cases hg
  | row e l tid =>
    unfold setP at hg
    simp only at hg
    split at hg
    · rename_i hes
      simp only [Bool.and_eq_true] at hes
      have hes1 := Nat.eq_of_beq_eq_true hes.1.1
      have hes2 := Nat.eq_of_beq_eq_true hes.1.2
      have hdeep := hes.2
      simp only [Prod.mk.injEq] at hg
      obtain ⟨hc, rfl⟩ := hg
      obtain ⟨e', he', rfl⟩ := Option.map_eq_some_iff.1 hc
      have hi : p.i.toNat < l.length := by have := hob.1; have := hob.2; omega
      obtain ⟨g, cap, cur, xs, rest, hv, hcur, hcap, hmax, hsz, h1, h2, h3⟩ := row_cells h (by omega)
      obtain ⟨pre2, ci, post2, h4, h5, h6, h6'⟩ := elemAt h3 hi e.zero
      obtain ⟨pre3, c3, post3, h7, h8, h9, h10⟩ := setc_sound h6 he' (hz.rho (fun b hb => by rw [Ty.deep_refs hdeep] at hb; cases hb))
      have h11 := h6' _ _ h10
      refine ⟨g, tid, cur, pre2 ++ pre3, c3, post3 ++ post2 ++ rest, by rw [hv]; exact real_slice (by omega), ?_, hcur, by rw [h1, h4, h7]; simp, h9, fun w' hp hw' => ?_, fun b hb => by cases hb⟩
      · unfold Ptr.val
        rw [hv]
        simp only [add_none, Ptr.co, List.length_append, h5, h8, hes1, hes2, Nat.zero_add]
      · have hlen : (pre2 ++ (pre3 ++ cz ++ post3) ++ post2).length = xs.length := by
          rw [h4, h7]; simp [h9]
        refine ⟨pre2 ++ (pre3 ++ cz ++ post3) ++ post2, ⟨by rw [hlen, h2, List.length_set], .inr ⟨g, cap, _, by rw [hv, List.length_set], by omega, Nat.zero_le _, hw', by rw [List.length_set]; exact hcap, hmax, ?_, ?_⟩⟩, ?_⟩
        · have : cur.size = cur.toList.length := by simp
          rw [h1] at this
          rw [← hsz, this]
          simp only [List.size_toArray, List.length_append, h4, h7, h9]
          omega
        · have e : (pre2 ++ pre3 ++ cz ++ (post3 ++ post2 ++ rest)) = (pre2 ++ (pre3 ++ cz ++ post3) ++ post2) ++ rest := by simp
          simp only [e, List.length_set]
          rw [← h2, ← hlen, List.take_left]
        · rw [List.length_set]
          exact h11.mono hp (fun _ _ h => h)
    · cases hg
end

section
variable {cx : Cx} {s : St} {o : Oper} {nid : Nat} {c : Ctx}

theorem run_storeAt {P : Program} {w : World} {t : TypeId} {i : TypeInfo} (hi : P.info? t = some i) {r o : Nat} {cur : Array Value} {tid : TypeId} {v : Value} {pre cc post : List Value}
    (hg : w.heap[r]? = some (.cells cur tid (0, 0))) (hcur : cur.toList = pre ++ cc ++ post) (ho : o = pre.length) (hl : cc.length = v.cells.size) (hs : v.cells.size = i.size) (h1 : ∀ u ∈ v.cells.toList, u.oneCell' = true) :
    (Instr.storeAt t (.pointer (some ⟨r, o, none⟩)) v).run P w = .ok () (w.setRow r (pre ++ v.cells.toList ++ post).toArray) := by
  subst ho
  have hsz : cur.size = (pre ++ cc ++ post).length := by rw [← hcur]; simp
  have hst := run_storeCells_at P r pre.length tid v.cells.toList 0 cur w hg (by simp only [hsz, List.length_append, Array.length_toList]; omega) h1
  have e : (cur.toList.take (pre.length + 0) ++ v.cells.toList ++ cur.toList.drop (pre.length + 0 + v.cells.toList.length)) = pre ++ v.cells.toList ++ post := by
    have hl' : cc.length = v.cells.toList.length := by simpa using hl
    have e1 : cur.toList.take (pre.length + 0) = pre := by rw [hcur, Nat.add_zero, List.append_assoc, List.take_left]
    have e2 : cur.toList.drop (pre.length + 0 + v.cells.toList.length) = post := by rw [hcur, Nat.add_zero, ← hl', ← List.length_append, List.drop_left]
    rw [e1, e2]
  rw [e] at hst
  simp [Instr.storeAt, Instr.sureAddr, storeVar, sizeOf, typeInfo, hi, hs, hst]

theorem setRow_os (w : World) (g : Nat) (c : Array Value) : (w.setRow g c).os = w.os := rfl

theorem coe_sound {P : Program} {ρ : Nat → Value} {w : World} {I : Nat → Prop} {t : Ty} {av : AV} {x : t.den} {v : Value} (h : RV P ρ w I av v) (hc : coe t av = some x) : RdV P t ρ w I x v ∧ ∀ b ∈ t.refs x, b ∈ av.refs := by
  unfold coe at hc
  split at hc
  · obtain ⟨rfl, rfl⟩ := Ty.as?_some hc
    exact ⟨h, fun b hb => hb⟩
  · split at hc
    · obtain rfl := Option.some.inj hc
      have h : v = .slice none 0 0 := h
      subst h
      exact ⟨⟨[.slice none 0 0], rfl, none, 0, rfl, Nat.le_refl _, .inl rfl⟩, fun b hb => by cases hb⟩
    · have h : v = .slice none 0 0 := h
      subst h
      exact ⟨⟨[.slice none 0 0], rfl, rfl⟩, fun b hb => by cases hb⟩
    · cases hc
  · cases hc

theorem ok_store {hp : Nat → Option Blk} (hhp : ∀ b k, hp b = some k → s.hp b = some k) {t : TypeId} {x y : Operand} (ho : o.op = .store t x y) (hT : TOk cx.P c) :
    OpOk cx o s nid (pStore c hp t (s.ev x) (s.ev y)) := by
  unfold pStore
  split
  · exact bad_ok
  · rename_i ty hf
    have hty := hT _ _ (find_mem hf)
    split
    · rename_i p hx
      split
      · rename_i k hk
        split
        · rename_i z hz
          split
          · rename_i k' ob hsp
            intro ρ F a w next Q hM hnF hob hn
            have h1 := (hM.ev x).1
            rw [hx] at h1
            have h1 := RV_ptr h1
            obtain ⟨h2, h3⟩ := coe_sound (hM.ev y).1 hz
            have h4 := RdV.cells h2 hM.rho
            obtain ⟨i, d, hi, hs, _, _⟩ := tyOk_sound hty
            obtain ⟨r, tid, cur, pre, cc, post, h5, h6, h7, h8, h9, h10, h11⟩ := put_sound (hM.blks p.b k (hhp _ _ hk)) hsp hob h4
            have hrun := run_storeAt (P := cx.P) hi (v := a.eval y) h7 h8 rfl (by simpa using h9) (by rw [hs, ← h4.length]; simp) (h4.one hM.rho)
            have hset := M.set hM s.ok (hhp _ _ hk) (k := k') (w' := w.setRow r (pre ++ (a.eval y).cells.toList ++ post).toArray) rfl ⟨rfl, Nat.le_refl _⟩ rfl (by simp [World.setRow]) (fun q hq => by
                exact setRow_other w r q _ (fun e => hq (by rw [h5, e])))
              (h10 _ ⟨by simp [World.setRow], fun q _ hq => setRow_other w r q _ (fun e => hq.2 p.b k (hhp _ _ hk) (by rw [h5, e]))⟩ (setRow_heap w r cur _ tid _ h7))
              (fun b hb => by
                rcases h11 b hb with h | h
                · exact (hM.brefs _ _ (hhp _ _ hk)).2 b h
                · exact (hM.ev y).2 b (h3 b h)) (setP_isC hsp)
            unfold Oper.wp
            have : (execOp a.eval o).run cx.P w = .ok .skip (w.setRow r (pre ++ (a.eval y).cells.toList ++ post).toArray) := by
              simp only [execOp, ho, h1, h6, Sem.run_bind, hrun, Result.andThen_ok, Sem.run_pure]
            rw [this]
            exact hn ρ undef _ ((M.put hset o.dst (av := .undef) trivial (fun b hb => by cases hb) s.ok).widen (fun b hb => .inl hb))
          · exact bad_ok
        · exact bad_ok
      · exact bad_ok
    · exact bad_ok

theorem fieldOf_sound {P : Program} {t : TypeId} {f off ft : Nat} (h : fieldOf P t f = some (off, ft)) : ∃ fs fd, P.underlying t = some (.struct fs) ∧ fs[f]? = some fd ∧ fd.offset = off ∧ fd.type = ft := by
  unfold fieldOf at h
  split at h
  · rename_i fs hfs
    obtain ⟨fd, hfd, he⟩ := Option.map_eq_some_iff.1 h
    simp only [Prod.mk.injEq] at he
    exact ⟨fs, fd, hfs, hfd, he.1, he.2⟩
  · cases h

theorem run_fieldAt {P : Program} {w : World} {t : TypeId} {f off ft m : Nat} (h : fieldOf P t f = some (off, ft)) (hs : (P.info? ft).map (·.size) = some (m + 1)) (ad : Addr) :
    (Instr.fieldAt t (.pointer (some ad)) f).run P w = .ok (.pointer (some (ad.add off))) w := by
  obtain ⟨fs, fd, h1, h2, h3, h4⟩ := fieldOf_sound h
  obtain ⟨i, hi, hsi⟩ := Option.map_eq_some_iff.1 hs
  subst h3
  subst h4
  simp [Instr.fieldAt, run_underlying h1, h2, Instr.sureAddr, fieldPlace, sizeOf, typeInfo, hi, hsi]

theorem add_add {ad : Addr} (h : ad.spot = none) (m n : Nat) : (ad.add m).add n = ad.add (m + n) := by
  obtain ⟨b, o, sp⟩ := ad
  have h : sp = none := h
  subst h
  rw [add_none, add_none, add_none, Nat.add_assoc]

theorem ok_nilCheck {x : Operand} (ho : o.op = .nilCheck x) (h : (∃ t y off, s.ev x = .imm t y off) ∨ ∃ p, s.ev x = .val .ptr p) : OpOk cx o s nid (.of (s.ev x)) := by
  refine ok_value rfl fun ρ F a w hM _ => ⟨a.eval x, ?_, hM.ev x⟩
  have h1 := (hM.ev x).1
  rcases h with ⟨t, y, off, hx⟩ | ⟨p, hx⟩
  · rw [hx] at h1
    obtain ⟨ad, c, h1, _⟩ := h1
    simp [execOp, ho, h1]
  · rw [hx] at h1
    obtain ⟨ad, _, hg⟩ := RV_ptr_good h1
    have h2 := RV_ptr h1
    rw [hg p rfl] at h2
    simp [execOp, ho, h2]

theorem Ptr.good_of {ρ : Nat → Value} {p q : Ptr} (h : p.good ρ) (e : q.b = p.b) : q.good ρ := by
  obtain ⟨ad, hs, hg⟩ := h
  exact ⟨ad, hs, fun r hr => hg r (hr.trans e)⟩

theorem ok_fieldAddr {t : TypeId} {x : Operand} {f : Nat} (ho : o.op = .fieldAddr t x f) : OpOk cx o s nid (pFieldAddr cx.P t (s.ev x) f) := by
  unfold pFieldAddr
  split
  · exact bad_ok
  · rename_i off ft hf
    split
    · rename_i m hm
      have key : ∀ (p q : Ptr), s.ev x = .val .ptr p → q.b = p.b → q.co = p.co + off → OpOk cx o s nid (.of (.val .ptr q)) := by
        intro p q hx hb hco
        refine ok_value rfl fun ρ F a w hM _ => ?_
        have h1 := (hM.ev x).1
        rw [hx] at h1
        have h2 := RV_ptr h1
        have hgood := RV_ptr_good h1
        obtain ⟨ad, hs, hg⟩ := hgood
        rw [hg p rfl] at h2
        refine ⟨q.val ρ, ?_, RV_of_ptr (Ptr.good_of ⟨ad, hs, hg⟩ hb), fun b hb' => ?_⟩
        · simp only [execOp, ho, h2, Sem.run_bind, run_fieldAt hf hm, Result.andThen_ok, Sem.run_pure, hg q hb, add_add hs, hco]
        · have hr := (hM.ev x).2
          rw [hx] at hr
          refine hr b ?_
          have hb' : b ∈ [q.b] := hb'
          show b ∈ [p.b]
          rw [← hb]; exact hb'
      split
      · rename_i p hx
        split
        · rename_i hes
          have hes := Nat.eq_of_beq_eq_true hes
          exact key p _ hx rfl (by simp only [Ptr.co, hes]; omega)
        · exact key p _ hx rfl (by simp only [Ptr.co]; omega)
      · rename_i ty y off' hx
        refine ok_value rfl fun ρ F a w hM _ => ?_
        have h1 := (hM.ev x).1
        rw [hx] at h1
        obtain ⟨ad, cc, h1, h2, h3, h4, h5, h6⟩ := h1
        refine ⟨.pointer (some (ad.add (off' + off))), ?_, ⟨ad, cc, rfl, h2, h3, h4, h5, h6⟩, fun b hb => by cases hb⟩
        simp only [execOp, ho, h1, Sem.run_bind, run_fieldAt hf hm, Result.andThen_ok, Sem.run_pure, add_add h2]
      · exact bad_ok
    · exact bad_ok

theorem run_part {P : Program} {w : World} {t : TypeId} {ty : Ty} (hty : tyOk P t ty = true) {cs : Array Value} {pre cc post : List Value} (hc : cs.toList = pre ++ cc ++ post) (hl : cc.length = ty.size) :
    (part t cs pre.length).run P w = .ok (mkV ty cc) w := by
  obtain ⟨i, d, hi, hs, hd, hagg⟩ := tyOk_sound hty
  have hisagg : (isAgg t).run P w = .ok ty.agg w := by
    unfold isAgg
    rw [Sem.run_bind, run_underlying hd w]
    rw [← hagg]
    cases d <;> rfl
  have hcs : cs = (pre ++ cc ++ post).toArray := by rw [← hc]
  unfold part
  rw [Sem.run_bind, hisagg, Result.andThen_ok]
  cases ha : ty.agg with
  | true =>
    have e : cs.extract pre.length (pre.length + ty.size) = cc.toArray := by
      rw [hcs, ← hl]
      simp
    simp [sizeOf, typeInfo, hi, hs, mkV, ha, e]
  | false =>
    have h1 : ty.size = 1 := by cases ty <;> simp [Ty.agg] at ha <;> rfl
    have hcl : cc.length = 1 := by rw [hl, h1]
    match cc, hcl with
    | [v], _ =>
      have e : cs[pre.length]? = some v := by rw [hcs]; simp
      simp [e, mkV, ha]

theorem ok_field {t : TypeId} {x : Operand} {f : Nat} (ho : o.op = .field t x f) (hT : TOk cx.P c) : OpOk cx o s nid (pField cx.P c t (s.ev x) f) := by
  unfold pField
  split
  · exact bad_ok
  · rename_i off ft hf
    split
    · exact bad_ok
    · rename_i ty hfi
      have hty := hT _ _ (find_mem hfi)
      obtain ⟨fs, fd, g1, g2, g3, g4⟩ := fieldOf_sound hf
      split
      · rename_i p q y hx
        split
        · rename_i z hz
          refine ok_value rfl fun ρ F a w hM _ => ?_
          have h1 := hM.ev x
          rw [hx] at h1
          obtain ⟨⟨cs, h2, h3⟩, h4⟩ := h1
          obtain ⟨pre, cc, post, h5, h6, h7⟩ := comp_sound h3 hz
          have hag : a.eval x = .agg cs.toArray := h2
          have hp := run_part (P := cx.P) (w := w) hty (cs := cs.toArray) (by simpa using h5) h7.length
          rw [h6] at hp
          subst g3
          subst g4
          refine ⟨mkV ty cc, ?_, ⟨cc, rfl, h7⟩, fun b hb => h4 b (refs_comp hz b hb)⟩
          simp [execOp, ho, hag, Instr.field, run_underlying g1, g2, asAgg, hp]
        · exact bad_ok
      · exact bad_ok
end
end Go.Sx
