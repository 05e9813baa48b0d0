/-
  What a law of bounded bulk is handed: its slices are short.
-/
import Derived.Test.YtcgcnojpcgjnmaaSxLaw
import Derived.Test.YtcgcnojpcgjnmaaRows
import Derived.JoinedCond
namespace Go.Sx
open Go.Proofs.Ytcgcnojpcgjnmaa

/-- All slices have at most so many elements. -/
def Ty.short (n : Nat) : (t : Ty) → t.den → Prop
  | .pair a b, x => a.short n x.1 ∧ b.short n x.2
  | .slice e, (l : List e.den) => l.length ≤ n ∧ ∀ x ∈ l, e.short n x
  | .arr _ e, (l : List e.den) => ∀ x ∈ l, e.short n x
  | _, _ => True
theorem Ty.short_mono {m n : Nat} (h : m ≤ n) : ∀ (t : Ty) (x : t.den), t.short m x → t.short n x
  | .pair a b, x, hx => ⟨short_mono h a x.1 hx.1, short_mono h b x.2 hx.2⟩
  | .slice e, _, hx => ⟨Nat.le_trans hx.1 h, fun x hm => short_mono h e x (hx.2 x hm)⟩
  | .arr _ e, _, hx => fun x hm => short_mono h e x (hx x hm)
  | .int _, _, _ => trivial
  | .bool, _, _ => trivial
  | .unit, _, _ => trivial
  | .own, _, _ => trivial
  | .ptr, _, _ => trivial
  | .clo, _, _ => trivial
  | .fn _ _, _, _ => trivial
  | .ref _, _, _ => trivial

section
variable {P : Program} {H : Type} {enc : TypeId × Value → H} {W : World} {sp : Nat → Bool} {held : Bool}
theorem bulk_one (d : DataW H) : 1 ≤ Rows.uptoBulk d := by
  cases d with
  | lit l => cases l <;> simp [Rows.uptoBulk]
  | nil => simp [Rows.uptoBulk]
  | ptr d => simp [Rows.uptoBulk]
  | slice elems spare => simp [Rows.uptoBulk]
  | agg parts => simp [Rows.uptoBulk]
  | iface t d => simp [Rows.uptoBulk]
  | map entries => simp [Rows.uptoBulk]
  | held h => simp [Rows.uptoBulk]
theorem bulk_len : ∀ l : List (DataW H), l.length ≤ Rows.uptoBulkAll l
  | [] => by simp [Rows.uptoBulkAll]
  | x :: r => by
    have := bulk_one x
    have := bulk_len r
    simp only [Rows.uptoBulkAll, List.length_cons]
    omega
theorem bulk_part : ∀ (l : List (DataW H)) (i : Nat) (d : DataW H), l[i]? = some d → Rows.uptoBulk d ≤ Rows.uptoBulkAll l
  | [], i, d, h => by simp at h
  | x :: r, 0, d, h => by
    simp only [List.getElem?_cons_zero, Option.some.injEq] at h
    subst h
    simp only [Rows.uptoBulkAll]
    omega
  | x :: r, i + 1, d, h => by
    have := bulk_part r i d (by simpa using h)
    simp only [Rows.uptoBulkAll]
    omega

theorem trod_short : ∀ (d : Nat),
    (∀ (t : TypeId) (ty : Ty) (fuel : Nat) (cs : List Value) (r : DataW H × List MemPlace), tyM P d t ty = true → DataW.trod enc P W 0 sp held fuel t cs = some r →
      ∃ x : ty.den, Rd P ty false ρ0 W (fun b => b < W.heap.size) x cs ∧ ty.wf x ∧ ty.short (Rows.uptoBulk r.1) x) ∧
    (∀ (fs : List Field) (off : Nat) (ty : Ty) (n : Nat) (cs : List Value) (xs : List (DataW H × List MemPlace)), tyMf P d fs off ty = true → xs.length = fs.length →
      (∀ (i : Nat) (f : Field), fs[i]? = some f → DataW.trod enc P W 0 sp held n f.type ((cs.drop f.offset).take (P.cellsOf f.type)) = xs[i]?) → cs.length = off + ty.size →
      ∃ x : ty.den, Rd P ty false ρ0 W (fun b => b < W.heap.size) x (cs.drop off) ∧ ty.wf x ∧ ty.short (Rows.uptoBulkAll (xs.map (·.1))) x) := by
  intro d
  induction d with
  | zero => exact ⟨fun t ty fuel cs r h => by simp [tyM] at h, fun fs off ty n cs xs h => by simp [tyMf] at h⟩
  | succ d ih =>
    constructor
    · intro t ty fuel cs r h hr
      unfold tyM at h
      split at h
      · rename_i k k' hu
        have hk := of_decide_eq_true h
        subst hk
        obtain ⟨n, rfl, _, hw⟩ := DataW.trod_int hu hr
        exact ⟨n, rfl, hw, trivial⟩
      · rename_i hu
        obtain ⟨b, rfl, _⟩ := DataW.trod_bool hu hr
        exact ⟨b, rfl, trivial, trivial⟩
      · rename_i e te hu
        simp only [Bool.and_eq_true] at h
        obtain ⟨hsz, hpos, he⟩ := h
        have hsz := Nat.eq_of_beq_eq_true hsz
        have hpos := blt_true hpos
        rcases DataW.trod_slice hu hr with ⟨rfl, _⟩ | ⟨a, len, cap, elems, rest, n, rfl, rfl, rfl, hb, hlc, hcm, hel, hall, _, _⟩
        · exact ⟨([] : List te.den), ⟨none, 0, rfl, Nat.le_refl _, .inl rfl⟩, ⟨Nat.zero_le _, fun x hx => by cases hx⟩, ⟨Nat.zero_le _, fun x hx => by cases hx⟩⟩
        · have hb1 : Rows.uptoBulkAll (elems.map (·.1)) + 1 ≤ Rows.uptoBulk (.slice (elems.map (·.1)) (rest.map (·.1))) := by
            simp only [Rows.uptoBulk]
            omega
          have hb2 := bulk_len (elems.map (·.1))
          rw [List.length_map] at hb2
          have hget : ∀ i, i < len → ∃ x : te.den, (∃ c, CellsAt W (a.add (i * P.cellsOf e)) c ∧ c.length = te.size ∧ Rd P te false ρ0 W (fun b => b < W.heap.size) x c) ∧ te.wf x ∧ te.short (Rows.uptoBulkAll (elems.map (·.1))) x := by
            intro i hi
            have h1 := hall i hi
            have h2 : elems[i]? = some elems[i] := List.getElem?_eq_getElem (by omega)
            rw [h2] at h1
            obtain ⟨cs, g1, g2⟩ := Option.bind_eq_some_iff.1 h1
            obtain ⟨hl, hc⟩ := cells_at g1
            obtain ⟨x, hx, hw, hs⟩ := ih.1 e te n cs _ he g2
            exact ⟨x, ⟨cs, hc, by rw [hl, hsz], hx⟩, hw, Ty.short_mono (bulk_part _ i _ (by rw [List.getElem?_map, h2]; rfl)) _ _ hs⟩
          obtain ⟨l, hl, hq⟩ := choose_list len hget
          refine ⟨l, ⟨some a, cap, by rw [hl], by omega, ?_⟩, ⟨by omega, fun x hx => ?_⟩, ⟨Nat.le_trans (show l.length ≤ Rows.uptoBulkAll (elems.map (·.1)) by omega) (Nat.le_of_succ_le hb1), fun x hx => ?_⟩⟩
          · by_cases h0 : len = 0
            · exact .inl (List.eq_nil_of_length_eq_zero (by omega))
            · obtain ⟨x, ⟨c, hc, hcl, _⟩, _⟩ := hget 0 (by omega)
              have h00 : c[0]? = some c[0] := List.getElem?_eq_getElem (by omega)
              have hcell := hc 0 _ h00
              have ha0 : (a.add (0 * P.cellsOf e)).add 0 = a := by
                rw [Nat.zero_mul]
                have : ∀ q : Addr, q.add 0 = q := fun q => by unfold Addr.add; simp
                rw [this, this]
              rw [ha0] at hcell
              refine .inr ⟨a, rfl, World.cell?_spot hcell, cell_lt hcell, cell_lt hcell, fun i x hx => ?_⟩
              obtain ⟨⟨c, hc, _, hr⟩, _⟩ := hq i x hx
              rw [hsz] at hc
              exact ⟨c, hc, hr⟩
          · obtain ⟨i, hi⟩ := List.mem_iff_getElem?.1 hx
            exact (hq i x hi).2.1
          · obtain ⟨i, hi⟩ := List.mem_iff_getElem?.1 hx
            exact Ty.short_mono (Nat.le_of_succ_le hb1) _ _ (hq i x hi).2.2
      · rename_i ty _ _ fs hu
        simp only [Bool.and_eq_true] at h
        obtain ⟨xs, n, rfl, rfl, hlen, hxl, hall⟩ := DataW.trod_struct hu hr
        have hsize : P.cellsOf t = ty.size := Nat.eq_of_beq_eq_true h.1
        obtain ⟨x, hx, hw, hs⟩ := ih.2 fs.toList 0 ty n cs xs h.2 (by simpa using hxl) (fun i f hf => hall i f (by simpa using hf)) (by rw [hlen, hsize]; omega)
        exact ⟨x, by simpa using hx, hw, Ty.short_mono (by simp only [Rows.uptoBulk]; omega) _ _ hs⟩
      · cases h
    · intro fs off ty n cs xs h hxl hall hlen
      cases fs with
      | nil =>
        cases ty with
        | unit =>
          refine ⟨(), ?_, trivial, trivial⟩
          show cs.drop off = []
          rw [List.drop_eq_nil_iff]
          simp [Ty.size] at hlen
          omega
        | _ => simp [tyMf] at h
      | cons f fs =>
        cases ty with
        | pair a b =>
          simp only [tyMf, Bool.and_eq_true] at h
          obtain ⟨hoff, hsz, ha, hb⟩ := h
          have hoff := Nat.eq_of_beq_eq_true hoff
          have hsz := Nat.eq_of_beq_eq_true hsz
          cases xs with
          | nil => simp at hxl
          | cons y ys =>
            have h0 := hall 0 f rfl
            simp only [List.getElem?_cons_zero] at h0
            obtain ⟨x1, hx1, hw1, hs1⟩ := ih.1 f.type a n _ _ ha h0
            obtain ⟨x2, hx2, hw2, hs2⟩ := ih.2 fs (off + a.size) b n cs ys hb (by simpa using hxl) (fun i g hg => by simpa using hall (i + 1) g (by simpa using hg)) (by simp only [Ty.size] at hlen; omega)
            have hb0 : Rows.uptoBulkAll ((y :: ys).map (·.1)) = Rows.uptoBulk y.1 + Rows.uptoBulkAll (ys.map (·.1)) := by simp only [List.map_cons, Rows.uptoBulkAll]
            refine ⟨(x1, x2), ⟨_, _, ?_, hx1, hx2⟩, ⟨hw1, hw2⟩, ⟨Ty.short_mono (by omega) _ _ hs1, Ty.short_mono (by omega) _ _ hs2⟩⟩
            rw [hoff, hsz, ← List.drop_drop]
            exact (List.take_append_drop _ _).symm
        | _ => simp [tyMf] at h

theorem args_short {r : Reach} {b0 : Nat} : ∀ {ts : List TypeId} {ps : Ty} {vs : List Value} {ds : List (DataW H)} {p : List MemPlace}, tysM P ts ps = true → DataW.TrodAll enc P W 0 sp held ts vs ds p →
    (∀ (j : Nat) (t : TypeId) (v : Value), ts[j]? = some t → vs[j]? = some v → Value.okWide P W r b0 t v) → ∃ x : ps.den, Rd P ps true ρ0 W (fun b => b < W.heap.size) x vs ∧ ps.wf x ∧ ps.short (Rows.uptoBulkAll ds) x := by
  intro ts
  induction ts with
  | nil =>
    intro ps vs ds p h hA _
    cases ps <;> simp [tysM] at h
    obtain ⟨h1, _, _⟩ := Go.ChangeShapes.trodAll_nil hA
    exact ⟨(), h1, trivial, trivial⟩
  | cons t ts ih =>
    intro ps vs ds p h hA hv
    cases ps <;> simp [tysM] at h
    rename_i a b
    obtain ⟨v, vs', d, ds', p0, q0, rfl, rfl, rfl, ⟨fuel, h0⟩, hr⟩ := Go.ChangeShapes.trodAll_cons hA
    obtain ⟨x1, hx1, hw1, hs1⟩ := (trod_short 60).1 t a fuel _ _ h.1 h0
    obtain ⟨x2, hx2, hw2, hs2⟩ := ih h.2 hr (fun j t v ht hv' => hv (j + 1) t v (by simpa using ht) (by simpa using hv'))
    have hb0 : Rows.uptoBulkAll (d :: ds') = Rows.uptoBulk d + Rows.uptoBulkAll ds' := by simp only [Rows.uptoBulkAll]
    exact ⟨(x1, x2), ⟨v.cells.toList, vs', by rw [← value_of_cells h.1 (hv 0 t v rfl rfl)], hx1, hx2⟩, ⟨hw1, hw2⟩, ⟨Ty.short_mono (show Rows.uptoBulk d ≤ Rows.uptoBulkAll (d :: ds') by omega) _ _ hs1, Ty.short_mono (show Rows.uptoBulkAll ds' ≤ Rows.uptoBulkAll (d :: ds') by omega) _ _ hs2⟩⟩
end
end Go.Sx
