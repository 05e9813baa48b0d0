/-
  Structs, rows that are built, rows that grow, and parts of slices.
-/
import Derived.Laws.MakeOwn
import Derived.Test.YtolkdkhdkfndfaaSxMem4
import Derived.Laws.Tables
import Derived.Laws.Slices
import Derived.Great.BuildSlice
namespace Go.Sx

theorem foldl_put (off : Nat) : ∀ (u : List Value) (k : Nat) (cs : Array Value) (pre old post : List Value), cs.toList = pre ++ old ++ post → old.length = u.length → pre.length = off + k →
    ((u.zipIdx k).foldl (fun cs (x : Value × Nat) => cs.setIfInBounds (off + x.2) x.1) cs).toList = pre ++ u ++ post := by
  intro u
  induction u with
  | nil =>
    intro k cs pre old post h1 h2 _
    have : old = [] := List.eq_nil_of_length_eq_zero h2
    subst this
    simpa using h1
  | cons c u ih =>
    intro k cs pre old post h1 h2 h3
    cases old with
    | nil => simp at h2
    | cons o old =>
      simp only [List.zipIdx_cons, List.foldl_cons]
      have := ih (k + 1) (cs.setIfInBounds (off + k) c) (pre ++ [c]) old post (by
        rw [Array.toList_setIfInBounds, h1, ← h3]
        simp) (by simpa using h2) (by simp [h3]; omega)
      rw [this]
      simp

theorem fill_step {place : Nat → Option (Nat × Nat)} {cells : Array Value} {i : Nat} {v : Value} {rest : List (Nat × Value)} {off size : Nat} {pre old post : List Value} (hp : place i = some (off, size)) (hv : v.cells.size = size)
    (hc : cells.toList = pre ++ old ++ post) (ho : old.length = size) (hpre : pre.length = off) :
    ∃ cells', Instr.fill place cells ((i, v) :: rest) = Instr.fill place cells' rest ∧ cells'.toList = pre ++ v.cells.toList ++ post := by
  refine ⟨_, ?_, foldl_put off v.cells.toList 0 cells pre old post hc (by simp [ho, hv]) (by simp [hpre])⟩
  have hsz : ¬ (v.cells.size ≠ size ∨ off + v.cells.size > cells.size) := by
    have : cells.size = cells.toList.length := by simp
    rw [this, hc]
    simp only [List.length_append]
    omega
  have e : v.cells.zipIdx.foldl (fun cs (x : Value × Nat) => cs.setIfInBounds (off + x.2) x.1) cells = (v.cells.toList.zipIdx 0).foldl (fun cs (x : Value × Nat) => cs.setIfInBounds (off + x.2) x.1) cells := by
    rw [← Array.foldl_toList, Array.toList_zipIdx]
  conv => lhs; unfold Instr.fill
  simp only [hp]
  have hd : (decide (v.cells.size ≠ size) || decide (off + v.cells.size > cells.size)) = false := by
    rw [Bool.or_eq_false_iff]
    exact ⟨decide_eq_false fun h => hsz (.inl h), decide_eq_false fun h => hsz (.inr h)⟩
  rw [if_neg (by rw [hd]; exact Bool.false_ne_true), ← e]

theorem mkV_cells_size {P : Program} {t : Ty} {ρ : Nat → Value} {w : World} {I : Nat → Prop} {x : t.den} {v : Value} (h : RdV P t ρ w I x v) (hρ : ∀ b, (ρ b).oneCell' = true) : v.cells.size = t.size := by
  have := (RdV.cells h hρ).length
  simpa using this

section
variable {cx : Cx} {ρ : Nat → Value} {F : Nat → Prop} {s : St} {a : Act} {w : World} {c : Ctx}

theorem elems_sound (hM : M cx ρ F s a w) {e : Ty} {n : Nat} : ∀ {ps : List (Nat × Operand)} {l l' : List e.den} {cells : Array Value}, pElems e n l (ps.map fun p => (p.1, s.ev p.2)) = some l' →
    Rd cx.P (.arr n e) false ρ w (cx.I ρ s) l cells.toList → (∀ b ∈ (Ty.arr n e).refs l, F b) →
    ∃ cells', Instr.fill (fun i => some (i * e.size, e.size)) cells (ps.map fun p => (p.1, a.eval p.2)) = some cells' ∧ Rd cx.P (.arr n e) false ρ w (cx.I ρ s) l' cells'.toList ∧ (∀ b ∈ (Ty.arr n e).refs l', F b) ∧ l'.length = l.length := by
  intro ps
  induction ps with
  | nil =>
    intro l l' cells h hr hF
    obtain rfl := Option.some.inj h
    exact ⟨cells, rfl, hr, hF, rfl⟩
  | cons p ps ih =>
    intro l l' cells h hr hF
    simp only [List.map_cons] at h
    unfold pElems at h
    split at h
    · rename_i hlt
      split at h
      · rename_i y hy
        have hi := blt_true hlt
        obtain ⟨hyv, hyr⟩ := coe_sound (hM.ev p.2).1 hy
        obtain ⟨pre, ci, post, h1, h2, h3, h4⟩ := elemAt hr hi e.zero
        obtain ⟨cells', hf, hc'⟩ := fill_step (place := fun i => some (i * e.size, e.size)) (i := p.1) (v := a.eval p.2) (rest := ps.map fun p => (p.1, a.eval p.2)) rfl (mkV_cells_size hyv hM.rho) h1 h3.length h2
        have hr' := h4 y _ (RdV.cells hyv hM.rho)
        rw [← hc'] at hr'
        have hF' : ∀ b ∈ (Ty.arr n e).refs (l.set p.1 y : List e.den), F b := by
          intro b hb
          obtain ⟨x, hx, hbx⟩ := refs_arr_mem hb
          rcases List.mem_or_eq_of_mem_set hx with hx | hx
          · exact hF b (refs_arr_of hx hbx)
          · subst hx
            exact (hM.ev p.2).2 b (hyr b hbx)
        obtain ⟨cells'', hf', hr'', hF'', hl⟩ := ih h hr' hF'
        refine ⟨cells'', ?_, hr'', hF'', by rw [hl, List.length_set]⟩
        rw [List.map_cons, hf]
        exact hf'
      · cases h
    · cases h

theorem parts_sound (hT : TOk cx.P c) (hM : M cx ρ F s a w) {fs : Array Field} {places : List (Nat × Nat)} (hpl : placesOf cx.P fs.toList = some places) {ty : Ty} : ∀ {ps : List (Nat × Operand)} {x x' : ty.den} {cells : Array Value},
    pParts c fs ty x (ps.map fun p => (p.1, s.ev p.2)) = some x' → Rd cx.P ty false ρ w (cx.I ρ s) x cells.toList → (∀ b ∈ ty.refs x, F b) →
    ∃ cells', Instr.fill (places.toArray[·]?) cells (ps.map fun p => (p.1, a.eval p.2)) = some cells' ∧ Rd cx.P ty false ρ w (cx.I ρ s) x' cells'.toList ∧ (∀ b ∈ ty.refs x', F b) := by
  intro ps
  induction ps with
  | nil =>
    intro x x' cells h hr hF
    obtain rfl := Option.some.inj h
    exact ⟨cells, rfl, hr, hF⟩
  | cons p ps ih =>
    intro x x' cells h hr hF
    simp only [List.map_cons] at h
    unfold pParts at h
    split at h
    · rename_i f hf
      split at h
      · rename_i ft hft
        split at h
        · rename_i y hy
          split at h
          · rename_i x1 hx1
            obtain ⟨hyv, hyr⟩ := coe_sound (hM.ev p.2).1 hy
            obtain ⟨pre, ci, post, h1, h2, h3, h4⟩ := setc_sound hr hx1 (RdV.cells hyv hM.rho)
            obtain ⟨i, _, hi, hsz, _⟩ := tyOk_sound (hT _ _ (find_mem hft))
            have hplace : places.toArray[p.1]? = some (f.offset, ft.size) := by
              have hf' : fs.toList[p.1]? = some f := by simpa using hf
              have key : ∀ (l : List Field) (pl : List (Nat × Nat)), placesOf cx.P l = some pl → ∀ (j : Nat) (g : Field), l[j]? = some g → pl[j]? = (cx.P.info? g.type).map fun i => (g.offset, i.size) := by
                intro l
                induction l with
                | nil => intro pl _ j g hg; simp at hg
                | cons f0 l ihl =>
                  intro pl hpl j g hg
                  unfold placesOf at hpl
                  rw [List.mapM_cons] at hpl
                  simp only [Option.bind_eq_bind, Option.pure_def] at hpl
                  obtain ⟨q, hq, hpl⟩ := Option.bind_eq_some_iff.1 hpl
                  obtain ⟨rest, hrest, hpl⟩ := Option.bind_eq_some_iff.1 hpl
                  obtain rfl := Option.some.inj hpl
                  cases j with
                  | zero =>
                    simp only [List.getElem?_cons_zero, Option.some.injEq] at hg ⊢
                    subst hg
                    exact hq.symm
                  | succ j => simpa using ihl rest hrest j g (by simpa using hg)
              have := key _ _ hpl _ _ hf'
              rw [hi] at this
              simpa [hsz] using this
            obtain ⟨cells', hfl, hc'⟩ := fill_step (place := (places.toArray[·]?)) (i := p.1) (v := a.eval p.2) (rest := ps.map fun p => (p.1, a.eval p.2)) hplace (mkV_cells_size hyv hM.rho) h1 (by rw [h3]; exact (RdV.cells hyv hM.rho).length) h2
            rw [← hc'] at h4
            have hF' : ∀ b ∈ ty.refs x1, F b := by
              intro b hb
              rcases refs_setc hx1 b hb with h | h
              · exact hF b h
              · exact (hM.ev p.2).2 b (hyr b h)
            obtain ⟨cells'', hf', hr'', hF''⟩ := ih h h4 hF'
            refine ⟨cells'', ?_, hr'', hF''⟩
            rw [List.map_cons, hfl]
            exact hf'
          · cases h
        · cases h
      · cases h
    · cases h

theorem RdV_agg {P : Program} {t : Ty} (ht : t.agg = true) {x : t.den} {I : Nat → Prop} {cells : Array Value} (h : Rd P t false ρ w I x cells.toList) : RdV P t ρ w I x (.agg cells) :=
  ⟨cells.toList, by simp [mkV, ht], h⟩

theorem map_parts (parts : Array (Nat × Operand)) (f : Operand → Value) : (parts.map fun (i, x) => (i, f x)).toList = parts.toList.map fun p => (p.1, f p.2) := by
  rw [Array.toList_map]

variable {o : Oper} {nid : Nat}

theorem ok_build {t : TypeId} {parts : Array (Nat × Operand)} (ho : o.op = .build t parts) (hT : TOk cx.P c) : OpOk cx o s nid (pBuild cx.P c t (parts.toList.map fun p => (p.1, s.ev p.2))) := by
  unfold pBuild
  split
  · exact bad_ok
  · rename_i ty hty
    split
    · exact bad_ok
    · rename_i hz
      have hok := hT _ _ (find_mem hty)
      split
      · rename_i fs hu
        split
        · exact bad_ok
        · rename_i places hpl
          split
          · rename_i y hy
            refine ok_value rfl fun ρ F a w hM _ => ?_
            obtain ⟨i, z, hi, hzz, hR⟩ := zeroOk_sound (P := cx.P) (ρ := ρ) (w := w) (I := cx.I ρ s) hz
            obtain ⟨cells, hf, hr, hF⟩ := parts_sound hT hM hpl hy hR (fun b hb => by rw [refs_zeroOk hz] at hb; cases hb)
            have hagg : ty.agg = true := by
              unfold tyOk at hok
              rw [hi, hu] at hok
              simp only [Bool.and_eq_true] at hok
              exact hok.2
            refine ⟨.agg cells, ?_, RdV_agg hagg hr, hF⟩
            have hb : cx.P.built t (parts.map fun (i, x) => (i, a.eval x)).toList = some cells := by
              rw [map_parts]
              unfold Program.built
              unfold placesOf at hpl
              simp only [hi, hu, hzz, hpl]
              exact hf
            simp only [execOp, ho, Sem.run_bind, run_build w t _ cells hb, Result.andThen_ok, Sem.run_pure]
          · exact bad_ok
      · rename_i n0 et hu
        split
        · rename_i n e
          split
          · rename_i hte
            split
            · rename_i l hl
              refine ok_value rfl fun ρ F a w hM _ => ?_
              obtain ⟨i, z, hi, hzz, hR⟩ := zeroOk_sound (P := cx.P) (ρ := ρ) (w := w) (I := cx.I ρ s) hz
              obtain ⟨ie, _, hie, hsz, _⟩ := tyOk_sound hte
              obtain ⟨cells, hf, hr, hF, _⟩ := elems_sound hM hl (cells := z.cells) hR (fun b hb => by rw [show (Ty.arr n e).refs (List.replicate n e.zero : List e.den) = [] from refs_zeroOk (ty := .arr n e) hz] at hb; cases hb)
              refine ⟨.agg cells, ?_, RdV_agg rfl hr, hF⟩
              have hb : cx.P.built t (parts.map fun (i, x) => (i, a.eval x)).toList = some cells := by
                rw [map_parts]
                unfold Program.built
                simp only [hi, hu, hzz, hie]
                rw [hsz]
                exact hf
              simp only [execOp, ho, Sem.run_bind, run_build w t _ cells hb, Result.andThen_ok, Sem.run_pure]
            · exact bad_ok
          · exact bad_ok
        · exact bad_ok
      · exact bad_ok

theorem run_buildSlice_zero {P : Program} (w : World) (t e : TypeId) (parts : Array (Nat × Value)) (cells : Array Value) (ie : TypeInfo)
    (hu : P.underlying t = some (.slice e)) (hie : P.info? e = some ie) (h : Instr.fill (fun i => some (i * ie.size, ie.size)) #[] parts.toList = some cells) :
    (Instr.buildSlice t 0 parts).run P w = .ok (.slice (some ⟨w.heap.size, 0, none⟩) 0 0) (w.alloc (.cells cells e)) := by
  have e0 : (Array.map (fun _ => (default : Value)) (Array.range 0)) = #[] := by simp
  simp [Instr.buildSlice, run_underlying hu, sizeOf, typeInfo, hie, newRow, e0, h]

theorem zeros_flatten {z : Array Value} {m : Nat} (hzs : z.size = m) : ∀ len, ((Array.range (len * m)).map (z[· % m]!)).toList = (List.replicate len z.toList).flatten := by
  intro len
  induction len with
  | zero => simp
  | succ len ih =>
    rw [List.replicate_succ', List.flatten_append, ← ih]
    simp only [Array.toList_map, Array.toList_range, List.flatten_singleton]
    rw [Nat.succ_mul, List.range_add, List.map_append, List.map_map]
    congr 1
    apply List.ext_getElem
    · simp [hzs]
    · intro j h1 h2
      have hj : j < m := by simpa using h1
      simp only [List.getElem_map, List.getElem_range, Function.comp]
      rw [Nat.add_comm, Nat.add_mul_mod_self_right, Nat.mod_eq_of_lt hj]
      simp [hzs, hj]

theorem row_of_cells {e : Ty} {et : TypeId} {n : Nat} {l : List e.den} {cells : Array Value} (hl : l.length = n) (hm : n ≤ maxLen) (hr : Rd cx.P (.arr n e) false ρ w (cx.I ρ s) l cells.toList) :
    World.rowOf (w.alloc (.cells cells et)) 0 et e.size (.slice (some ⟨w.heap.size, 0, none⟩) n n) l.length cells.toList := by
  refine World.rowOf_of ?_
  have hlen : cells.toList.length = n * e.size := hr.length
  refine ⟨by rw [hlen, hl], .inr ⟨w.heap.size, n, cells, by rw [hl], Nat.zero_le _, heap_alloc_self _ _, by omega, hm, by simpa using hlen, ?_⟩⟩
  rw [hl, ← hlen]
  exact List.take_length

theorem made_Rd {P : Program} {ρ : Nat → Value} {w : World} {I : Nat → Prop} {e : Ty} {z : Value} {i : TypeInfo} (hsz : i.size = e.size) (hzs : z.cells.size = e.size) (hR : Rd P e false ρ w I e.zero z.cells.toList) (N : Nat) :
    Rd P (.arr N e) false ρ w I (List.replicate N e.zero : List e.den) (madeCells z.cells (N * i.size)).toList := by
  refine ⟨by simp, List.replicate N z.cells.toList, ?_, by simp, fun i x c hx hc => ?_⟩
  · unfold madeCells
    rw [hsz, hzs]
    exact zeros_flatten hzs N
  · have hx := List.eq_of_mem_replicate (List.mem_of_getElem? hx)
    have hc := List.eq_of_mem_replicate (List.mem_of_getElem? hc)
    subst hx hc
    exact hR
theorem ok_makeSlice {t : TypeId} {x y : Operand} (ho : o.op = .makeSlice t x y) (hT : TOk cx.P c) :
    OpOk cx o s nid (pMakeSlice cx.P c nid t (s.ev x) (s.ev y)) := by
  unfold pMakeSlice
  split
  · rename_i et hu
    split
    · rename_i e i hty hie
      split
      · exact bad_ok
      · rename_i hz
        simp only [Bool.and_eq_true] at hz
        obtain ⟨hz, hpos, hdeep⟩ := hz
        have hpos := blt_true hpos
        split
        · rename_i k n k' m hx hy
          obtain ⟨ie, _, hie', hsz, _⟩ := tyOk_sound (hT _ _ (find_mem hty))
          obtain rfl : i = ie := Option.some.inj (hie.symm.trans hie')
          intro ρ F a w next Q hM hnF hob hn
          have hob : mkOk i.bytes n m := hob
          obtain ⟨hmn, h0, h9, hb⟩ := hob
          have hmn : (n : Int) = m := hmn.symm
          subst hmn
          obtain ⟨i', z, hi, hzz, hR⟩ := zeroOk_sound (P := cx.P) (ρ := ρ) (w := w) (I := cx.I ρ s) hz
          obtain rfl : i = i' := Option.some.inj (hie.symm.trans hi)
          have hzs : z.cells.size = e.size := by have := hR.length; simpa using this
          have hrd : Rd cx.P (.arr (Int.toNat n) e) false ρ w (cx.I ρ s) (List.replicate (Int.toNat n) e.zero : List e.den) (madeCells z.cells (Int.toNat n * i.size)).toList := made_Rd hsz hzs hR (Int.toNat n)
          have hrun : (execOp a.eval o).run cx.P w = .ok (.value (.slice (some ⟨w.heap.size, 0, none⟩) n.toNat n.toNat)) (w.alloc (.cells (madeCells z.cells (n.toNat * i.size)) et)) := by
            simp only [execOp, ho, ev_int hM hx, ev_int hM hy, Sem.run_bind, run_make w t et i z hu hie hzz k k' n n h0 (Int.le_refl n) (by omega) (by omega), Result.andThen_ok, Sem.run_pure]
          have hlen : List.length (List.replicate n.toNat e.zero : List e.den) = n.toNat := by simp
          unfold Oper.wp
          rw [hrun]
          refine hn (upd ρ nid (.slice (some ⟨w.heap.size, 0, none⟩) n.toNat n.toNat)) _ _ ?_
          have hrd0 : Rd cx.P (.arr (List.length (List.replicate n.toNat e.zero : List e.den)) e) false ρ0 w (cx.I ρ s) (List.replicate n.toNat e.zero : List e.den) (madeCells z.cells (n.toNat * i.size)).toList := by
            have h1 := hrd.rho (ρ' := ρ0) (fun b hb => by rw [show (Ty.arr n.toNat e).refs (List.replicate n.toNat e.zero : List e.den) = [] by simp [Ty.refs, hdeep]] at hb; cases hb)
            rw [hlen]; exact h1
          have hnew := M.new (k := .row e (List.replicate n.toNat e.zero) et) (v := .slice (some ⟨w.heap.size, 0, none⟩) n.toNat n.toNat) hM hnF s.ok (below_alloc w (.cells (madeCells z.cells (n.toNat * i.size)) et)) (fun r hr => by
              obtain ⟨rfl, _⟩ := real_some hr
              exact ⟨Nat.le_refl _, by show _ < (w.heap.push _).size; simp⟩) rfl
            ⟨(madeCells z.cells (n.toNat * i.size)).toList, row_of_cells hlen (by simp only [maxLen]; omega) hrd, hrd0.mono ⟨(below_alloc w _).size, fun r hr _ => (below_alloc w _).block r hr⟩ (fun r hr hi => .inl ⟨hi, hr⟩)⟩ (fun b hb => by cases hb)
          exact M.put hnew o.dst (av := .val .own nid) ⟨[.slice (some ⟨w.heap.size, 0, none⟩) n.toNat n.toNat], rfl, by show _ = [upd ρ nid _ nid]; rw [upd_same]⟩ (fun b hb => .inr (List.mem_singleton.1 hb)) s.ok
        · exact bad_ok
    · exact bad_ok
  · exact bad_ok

theorem ok_buildSlice {t : TypeId} {len : Nat} {parts : Array (Nat × Operand)} {ans : Ans} (ho : o.op = .buildSlice t len parts) (hT : TOk cx.P c) :
    OpOk cx o s nid (pBuildSlice cx.P c nid t len (parts.toList.map fun p => (p.1, s.ev p.2)) ans) := by
  unfold pBuildSlice
  split
  · rename_i et hu
    split
    · exact bad_ok
    · rename_i e hty
      split
      · exact bad_ok
      · rename_i hz
        simp only [Bool.and_eq_true] at hz
        obtain ⟨hz, hpos, hsm, hmx, hdeep⟩ := hz
        have hpos := blt_true hpos
        have hsm := Nat.le_of_ble_eq_true hsm
        have hmx := Nat.le_of_ble_eq_true hmx
        split
        · exact bad_ok
        · rename_i l hl
          obtain ⟨ie, _, hie, hsz, _⟩ := tyOk_sound (hT _ _ (find_mem hty))
          have main : ∀ (ρ : Nat → Value) (F : Nat → Prop) (a : Act) (w : World), M cx ρ F s a w → ∃ cells, (execOp a.eval o).run cx.P w = .ok (.value (.slice (some ⟨w.heap.size, 0, none⟩) len len)) (w.alloc (.cells cells et)) ∧
              Rd cx.P (.arr len e) false ρ w (cx.I ρ s) l cells.toList ∧ l.length = len := by
            intro ρ F a w hM
            obtain ⟨i, z, hi, hzz, hR⟩ := zeroOk_sound (P := cx.P) (ρ := ρ) (w := w) (I := cx.I ρ s) hz
            obtain rfl : ie = i := Option.some.inj (hie.symm.trans hi)
            have hzs : z.cells.size = e.size := by have := hR.length; simpa using this
            have hr0 : Rd cx.P (.arr len e) false ρ w (cx.I ρ s) (List.replicate len e.zero : List e.den) ((Array.range (len * ie.size)).map (z.cells[· % z.cells.size]!)).toList := by
              refine ⟨by simp, List.replicate len z.cells.toList, ?_, by simp, fun i x c hx hc => ?_⟩
              · rw [hsz, hzs]
                exact zeros_flatten hzs len
              · have hx := List.eq_of_mem_replicate (List.mem_of_getElem? hx)
                have hc := List.eq_of_mem_replicate (List.mem_of_getElem? hc)
                subst hx hc
                exact hR
            obtain ⟨cells, hf, hr, _, hlen⟩ := elems_sound hM hl hr0 (fun b hb => by
              have : (Ty.arr len e).refs (List.replicate len e.zero : List e.den) = [] := by simp [Ty.refs, hdeep]
              rw [this] at hb; cases hb)
            refine ⟨cells, ?_, hr, by rw [hlen]; simp⟩
            have hsmall : ¬ len * ie.size > 16777216 := by rw [hsz]; omega
            have hf' : Instr.fill (fun i => some (i * ie.size, ie.size)) ((Array.range (len * ie.size)).map (z.cells[· % z.cells.size]!)) (parts.map fun (i, x) => (i, a.eval x)).toList = some cells := by
              rw [map_parts, hsz]
              rw [hsz] at hf
              exact hf
            by_cases h0 : len * ie.size = 0
            · have hlz : len = 0 := by
                rcases Nat.mul_eq_zero.1 h0 with h | h
                · exact h
                · rw [hsz] at h; omega
              subst hlz
              have hf2 : Instr.fill (fun i => some (i * ie.size, ie.size)) #[] (parts.map fun (i, x) => (i, a.eval x)).toList = some cells := by
                rw [← hf']; congr 1; simp
              simp only [execOp, ho, Sem.run_bind, run_buildSlice_zero w t et _ cells ie hu hie hf2, Result.andThen_ok, Sem.run_pure]
            · simp only [execOp, ho, Sem.run_bind, run_buildSlice w t et len _ cells ie z hu hie hzz (by omega) h0 hf', Result.andThen_ok, Sem.run_pure]
          split
          · intro ρ F a w next Q hM hnF _ hn
            obtain ⟨cells, hr, hrd, hlen⟩ := main ρ F a w hM
            unfold Oper.wp
            rw [hr]
            refine hn (upd ρ nid (.slice (some ⟨w.heap.size, 0, none⟩) len len)) _ _ ?_
            have hrd0 : Rd cx.P (.arr l.length e) false ρ0 w (cx.I ρ s) l cells.toList := by
              have h1 := hrd.rho (ρ' := ρ0) (fun b hb => by rw [show (Ty.arr len e).refs l = [] by simp [Ty.refs, hdeep]] at hb; cases hb)
              rw [hlen]; exact h1
            have hnew := M.new (k := .row e l et) (v := .slice (some ⟨w.heap.size, 0, none⟩) len len) hM hnF s.ok (below_alloc w (.cells cells et)) (fun r hr => by
                obtain ⟨rfl, _⟩ := real_some hr
                exact ⟨Nat.le_refl _, by show _ < (w.heap.push _).size; simp⟩) rfl
              ⟨cells.toList, row_of_cells hlen (by simp only [maxLen]; omega) hrd, hrd0.mono ⟨(below_alloc w _).size, fun r hr _ => (below_alloc w _).block r hr⟩ (fun r hr hi => .inl ⟨hi, hr⟩)⟩ (fun b hb => by cases hb)
            exact M.put hnew o.dst (av := .val .own nid) ⟨[.slice (some ⟨w.heap.size, 0, none⟩) len len], rfl, by show _ = [upd ρ nid _ nid]; rw [upd_same]⟩ (fun b hb => .inr (List.mem_singleton.1 hb)) s.ok
          · intro ρ F a w next Q hM hnF _ hn
            obtain ⟨cells, hr, hrd, hlen⟩ := main ρ F a w hM
            unfold Oper.wp
            rw [hr]
            refine hn ρ _ _ ?_
            have hw := M.world hM (below_alloc w (.cells cells et))
            refine (M.put hw o.dst (av := .val (.slice e) l) ⟨[.slice (some ⟨w.heap.size, 0, none⟩) l.length len], by rw [hlen]; rfl, some ⟨w.heap.size, 0, none⟩, len, rfl, by omega, ?_⟩ (fun b hb => by cases hb) s.ok).widen fun b hb => .inl hb
            refine .inr ⟨_, rfl, rfl, ⟨.inr (.inl hM.size), fun b k hk hrr => ?_⟩, by show _ < (w.heap.push _).size; simp, fun i x hx => ?_⟩
            · have := (hM.fresh b k _ hk hrr).2
              simp only at this
              omega
            · have hi : i < l.length := (List.getElem?_eq_some_iff.1 hx).1
              obtain ⟨pre, ci, post, g1, g2, g3, _⟩ := elemAt hrd (i := i) (by omega) e.zero
              have hyy : l.getD i e.zero = x := by simp only [List.getD]; rw [show l[i]? = some x from hx]; rfl
              rw [hyy] at g3
              refine ⟨ci, ?_, (g3.rho (fun b hb => by rw [Ty.deep_refs hdeep] at hb; cases hb)).mono ⟨(below_alloc w _).size, fun r hr _ => (below_alloc w _).block r hr⟩ (fun r _ hi => hi)⟩
              have := CellsAt_of_row (w := w.alloc (.cells cells et)) (heap_alloc_self w (.cells cells et)) g1
              rw [g2] at this
              rw [add_none, Nat.zero_add]
              exact this
          · exact bad_ok
  · exact bad_ok
end
end Go.Sx
