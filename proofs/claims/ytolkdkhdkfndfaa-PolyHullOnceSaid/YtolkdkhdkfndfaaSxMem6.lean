/-
  Rows that grow, and parts of slices.
-/
import Derived.Test.YtolkdkhdkfndfaaSxMem5
namespace Go.Sx

theorem len_cut {α : Type} (l : List α) {p r : Nat} (h : r ≤ l.length) : (List.drop p (List.take r l)).length = r - p := by
  rw [List.length_drop, List.length_take]; omega

theorem cut_get {α : Type} (l : List α) {p r j : Nat} {y : α} (h : (List.drop p (List.take r l))[j]? = some y) : l[p + j]? = some y := by
  rw [List.getElem?_drop] at h
  have h1 := (List.getElem?_eq_some_iff.1 h).1
  simp only [List.length_take] at h1
  rw [List.getElem?_take_of_lt (by omega)] at h
  exact h

section
variable {P : Program}

theorem gather_news {w : World} {I : Nat → Prop} {ad : Addr} (hs : ad.spot = none) {e : Ty} : ∀ (l : List e.den) (k : Nat), (∀ (i : Nat) (x : e.den), l[i]? = some x → ∃ c, CellsAt w (ad.add ((k + i) * e.size)) c ∧ Rd P e false ρ0 w I x c) →
    ∃ news, Rd P (.arr l.length e) false ρ0 w I l news ∧ ∀ j u, news[j]? = some u → w.cell? (ad.add (k * e.size + j)) = some u := by
  intro l
  induction l with
  | nil => intro k _; exact ⟨[], ⟨rfl, [], rfl, rfl, fun i x c hx => by simp at hx⟩, fun j u h => by simp at h⟩
  | cons x l ih =>
    intro k h
    obtain ⟨c, hc, hr⟩ := h 0 x rfl
    obtain ⟨news, ⟨_, css, rfl, hn, hall⟩, hcell⟩ := ih (k + 1) fun i y hy => by
      have := h (i + 1) y (by simpa using hy)
      rw [show k + (i + 1) = k + 1 + i by omega] at this
      exact this
    have hcl := hr.length
    refine ⟨c ++ css.flatten, ⟨rfl, c :: css, rfl, by simp [hn], fun i y c' hy hc' => ?_⟩, fun j u hu => ?_⟩
    · cases i with
      | zero =>
        simp only [List.getElem?_cons_zero, Option.some.injEq] at hy hc'
        subst hy hc'
        exact hr
      | succ i => exact hall i y c' (by simpa using hy) (by simpa using hc')
    · by_cases hj : j < c.length
      · rw [List.getElem?_append_left hj] at hu
        have := hc j u hu
        rw [add_add hs] at this
        simpa using this
      · rw [List.getElem?_append_right (by omega)] at hu
        have := hcell _ u hu
        rw [Nat.succ_mul] at this
        rw [show k * e.size + j = k * e.size + e.size + (j - c.length) by omega]
        exact this

theorem Rd.arr_append {ρ : Nat → Value} {w : World} {I : Nat → Prop} {e : Ty} {l m : List e.den} {xs ys : List Value} (h1 : Rd P (.arr l.length e) false ρ w I l xs) (h2 : Rd P (.arr m.length e) false ρ w I m ys) :
    Rd P (.arr (l ++ m).length e) false ρ w I (l ++ m : List e.den) (xs ++ ys) := by
  obtain ⟨hl, css, rfl, hn, hall⟩ := h1
  obtain ⟨hl', css', rfl, hn', hall'⟩ := h2
  refine ⟨rfl, css ++ css', by simp, by simp [hn, hn'], fun i x c hx hc => ?_⟩
  by_cases hi : i < l.length
  · rw [List.getElem?_append_left hi] at hx
    rw [List.getElem?_append_left (by omega)] at hc
    exact hall i x c hx hc
  · rw [List.getElem?_append_right (by omega)] at hx
    rw [List.getElem?_append_right (by omega)] at hc
    rw [hn] at hc
    exact hall' _ x c hx hc

/-- The world grew behind an append, and no draw was taken back. -/
structure GrB (w w' : World) (row : Option Nat) : Prop where
  kit : w.grownBy w' row
  le : w.drawn ≤ w'.drawn
/-- append to a row of one's own: the row behind it lies where it lay or in a new block. -/
theorem run_append2o {w : World} (t ty e : TypeId) (i : TypeInfo) (z : Value) (size : Nat) (ht : P.underlying t = some (.slice e)) (hi : P.info? e = some i) (hz : i.zero = some z)
    (hsize : i.size = size) (hzs : z.cells.size = size) (hsz : 0 < size) (hby : 0 < i.bytes)
    (v : Value) (n : Nat) (xs : List Value) (hown : w.ownsRow 0 e size v n xs)
    (A : Option Addr) (m c : Nat) (news : List Value) (hl : news.length = m * size) (hA : m = 0 ∨ ∃ a, A = some a ∧ ∀ j u, news[j]? = some u → w.cell? (a.add j) = some u) (h1 : ∀ u ∈ news, u.oneCell' = true)
    (hbytes : (n + m) * i.bytes ≤ 140737488355328) :
    ∃ v' w', (Builtin.append_ #[t, t] ty #[v, .slice A m c]).run P w = .ok v' w' ∧ w'.ownsRow 0 e size v' (n + m) (xs ++ news) ∧ GrB w w' v.ownBlock ∧ v'.oneCell' = true ∧
      ∀ r, real v' = some r → real v = some r ∨ (w.heap.size ≤ r ∧ r < w'.heap.size) := by
  have hle : n + m ≤ (n + m) * i.bytes := Nat.le_mul_of_pos_right _ hby
  have h63 : n + m ≤ maxLen := by simp only [maxLen]; omega
  by_cases hm : m = 0
  · subst hm
    have hnews : news = [] := List.eq_nil_of_length_eq_zero (by simpa using hl)
    subst hnews
    refine ⟨v, w, ?_, by simpa using hown, ⟨⟨rfl, rfl, rfl, Nat.le_refl _, fun _ _ _ => rfl⟩, Nat.le_refl _⟩, ?_, fun r hr => .inl hr⟩
    · rcases hown.2 with ⟨rfl, rfl⟩ | ⟨g, cap, cur, rfl, _, _, hc, _, _, _⟩
      · cases A <;> simp [Builtin.append_, run_underlying ht, sizeOf, typeInfo, hi, Builtin.lenOf, Builtin.firstCells, loadCells, loadCellsFrom]
      · cases A <;> simp [Builtin.append_, run_underlying ht, sizeOf, typeInfo, hi, Builtin.lenOf, Builtin.firstCells, loadCells, loadCellsFrom, hc, storeCells]
    · rcases hown.2 with ⟨rfl, rfl⟩ | ⟨g, cap, cur, rfl, _⟩ <;> rfl
  · obtain ⟨a, rfl, hnews⟩ := hA.resolve_left hm
    obtain ⟨v', w', hrun, hown', hgr, _⟩ := run_append_own (P := P) w 0 t ty e i z size i.bytes ht hi hz hsize rfl hzs hsz v n xs hown a m c news hl hnews h1 h63 hbytes (Nat.zero_le _)
    have hreal : ∀ r, real v' = some r → r < w'.heap.size := by
      intro r hr
      rcases hown'.2 with ⟨rfl, _⟩ | ⟨g, cap, cur, rfl, _, hg, _⟩
      · cases hr
      · obtain ⟨rfl, _⟩ := real_some hr
        exact (Array.getElem?_eq_some_iff.1 hg).1
    have hdr : w.drawn ≤ w'.drawn := by
      rcases hown.2 with ⟨rfl, rfl⟩ | ⟨g, cap, cur, rfl, hbg, hg, hnc, hcm, hcs, htake⟩
      · have := run_append_nil (P := P) w t ty e i z ht hi hz a m c news (by rw [hsize]; exact hl) hnews (by omega) (by simp only [maxLen] at h63; omega) (by simp only [Nat.zero_add] at hbytes; omega)
        rw [this] at hrun
        obtain ⟨rfl, rfl⟩ := Result.ok.inj hrun
        exact Nat.le_succ _
      · by_cases hroom : n + m ≤ cap
        · have hfit : n * i.size + news.length ≤ cur.size := by rw [hl, hcs, hsize, ← Nat.add_mul]; exact Nat.mul_le_mul_right _ hroom
          have := run_append_room (P := P) w t ty e i ht hi g n cap cur hg a m c news (by rw [hsize]; exact hl) hnews h1 hroom hfit
          rw [this] at hrun
          obtain ⟨rfl, rfl⟩ := Result.ok.inj hrun
          exact Nat.le_refl _
        · have holds : ∀ j u, xs[j]? = some u → w.cell? ((⟨g, 0, none⟩ : Addr).add j) = some u := hown.cells (g := g) rfl
          have := run_append_grow (P := P) w t ty e i z ht hi hz ⟨g, 0, none⟩ n cap xs (by rw [hsize]; exact hown.1) holds a m c news (by rw [hsize]; exact hl) hnews (by omega) (by simp only [maxLen] at h63; omega) (growslice_fits (by omega) hbytes)
          rw [this] at hrun
          obtain ⟨rfl, rfl⟩ := Result.ok.inj hrun
          exact Nat.le_succ _
    refine ⟨v', w', hrun, hown', ⟨hgr, hdr⟩, ?_, fun r hr => ?_⟩
    · rcases hown'.2 with ⟨rfl, _⟩ | ⟨g, cap, cur, rfl, _⟩ <;> rfl
    · rcases hown.2 with ⟨rfl, rfl⟩ | ⟨g, cap, cur, rfl, hbg, hg, hnc, hcm, hcs, htake⟩
      · have := run_append_nil (P := P) w t ty e i z ht hi hz a m c news (by rw [hsize]; exact hl) hnews (by omega) (by simp only [maxLen] at h63; omega) (by simp only [Nat.zero_add] at hbytes; omega)
        rw [this] at hrun
        obtain ⟨rfl, rfl⟩ := Result.ok.inj hrun
        have hlt := hreal r hr
        obtain ⟨rfl, _⟩ := real_some hr
        exact .inr ⟨Nat.le_refl _, hlt⟩
      · by_cases hroom : n + m ≤ cap
        · have hfit : n * i.size + news.length ≤ cur.size := by rw [hl, hcs, hsize, ← Nat.add_mul]; exact Nat.mul_le_mul_right _ hroom
          have := run_append_room (P := P) w t ty e i ht hi g n cap cur hg a m c news (by rw [hsize]; exact hl) hnews h1 hroom hfit
          rw [this] at hrun
          obtain ⟨rfl, rfl⟩ := Result.ok.inj hrun
          obtain ⟨rfl, hcp⟩ := real_some hr
          exact .inl (real_slice hcp)
        · have holds : ∀ j u, xs[j]? = some u → w.cell? ((⟨g, 0, none⟩ : Addr).add j) = some u := hown.cells (g := g) rfl
          have := run_append_grow (P := P) w t ty e i z ht hi hz ⟨g, 0, none⟩ n cap xs (by rw [hsize]; exact hown.1) holds a m c news (by rw [hsize]; exact hl) hnews (by omega) (by simp only [maxLen] at h63; omega) (growslice_fits (by omega) hbytes)
          rw [this] at hrun
          obtain ⟨rfl, rfl⟩ := Result.ok.inj hrun
          have hlt := hreal r hr
          obtain ⟨rfl, _⟩ := real_some hr
          exact .inr ⟨Nat.le_refl _, hlt⟩

theorem run_append2 {w : World} (t ty e : TypeId) (i : TypeInfo) (z : Value) (size : Nat) (ht : P.underlying t = some (.slice e)) (hi : P.info? e = some i) (hz : i.zero = some z)
    (hsize : i.size = size) (hzs : z.cells.size = size) (hsz : 0 < size) (hby : 0 < i.bytes)
    (v : Value) (n : Nat) (xs : List Value) (hown : World.rowOf w 0 e size v n xs)
    (A : Option Addr) (m c : Nat) (news : List Value) (hl : news.length = m * size) (hA : m = 0 ∨ ∃ a, A = some a ∧ ∀ j u, news[j]? = some u → w.cell? (a.add j) = some u) (h1 : ∀ u ∈ news, u.oneCell' = true)
    (hbytes : (n + m) * i.bytes ≤ 140737488355328) :
    ∃ v' w', (Builtin.append_ #[t, t] ty #[v, .slice A m c]).run P w = .ok v' w' ∧ World.rowOf w' 0 e size v' (n + m) (xs ++ news) ∧ GrB w w' (real v) ∧ v'.oneCell' = true ∧
      ∀ r, real v' = some r → real v = some r ∨ (w.heap.size ≤ r ∧ r < w'.heap.size) := by
  rcases World.row_owns hown with ⟨A0, rfl, rfl, rfl⟩ | ⟨hown', g, cap, rfl, hcap⟩
  · obtain ⟨v', w', hrun, ho', hgr, hone, hre⟩ := run_append2o t ty e i z size ht hi hz hsize hzs hsz hby (.slice none 0 0) 0 [] (World.ownsRow_nil _ _ _ _) A m c news hl hA h1 hbytes
    cases A0 with
    | none => exact ⟨v', w', hrun, World.rowOf_of ho', hgr, hone, hre⟩
    | some ad =>
      by_cases hm : m = 0
      · subst hm
        have hnews : news = [] := List.eq_nil_of_length_eq_zero (by simpa using hl)
        subst hnews
        refine ⟨.slice (some ad) 0 0, w, ?_, ⟨by simp, .inl ⟨_, rfl, rfl⟩⟩, ⟨⟨rfl, rfl, rfl, Nat.le_refl _, fun _ _ _ => rfl⟩, Nat.le_refl _⟩, rfl, fun r hr => by rw [real_zero] at hr; cases hr⟩
        cases A <;> simp [Builtin.append_, run_underlying ht, sizeOf, typeInfo, hi, Builtin.lenOf, Builtin.firstCells, loadCells, loadCellsFrom, storeCells]
      · obtain ⟨a, rfl, hnews⟩ := hA.resolve_left hm
        have hle : 0 + m ≤ (0 + m) * i.bytes := Nat.le_mul_of_pos_right _ hby
        have hn := run_append_nil (P := P) w t ty e i z ht hi hz a m c news (by rw [hsize]; exact hl) hnews (by omega) (by omega) (by simp only [Nat.zero_add] at hbytes; omega)
        have hg := run_append_grow (P := P) w t ty e i z ht hi hz ad 0 0 [] (by simp) (fun j u hu => by simp at hu) a m c news (by rw [hsize]; exact hl) hnews (by omega) (by omega) (growslice_fits (by omega) hbytes)
        rw [hn] at hrun
        refine ⟨v', w', ?_, World.rowOf_of ho', hgr, hone, fun r hr => ?_⟩
        · rw [hg, ← hrun]
          simp
        · rcases hre r hr with h | h
          · cases h
          · exact .inr h
  · obtain ⟨v', w', hrun, ho', hgr, hone, hre⟩ := run_append2o t ty e i z size ht hi hz hsize hzs hsz hby _ n xs hown' A m c news hl hA h1 hbytes
    refine ⟨v', w', hrun, World.rowOf_of ho', ?_, hone, hre⟩
    rw [real_slice hcap]
    exact hgr
end

section
variable {cx : Cx} {ρ : Nat → Value} {F : Nat → Prop} {s : St} {a : Act} {w : World} {o : Oper} {nid : Nat} {c : Ctx}

theorem addends_sound (hM : M cx ρ F s a w) {hp : Nat → Option Blk} (hhp : ∀ b k, hp b = some k → s.hp b = some k) {e : Ty} {y : Operand} {m : List e.den} (h : addends hp e (s.ev y) = some m) :
    ∃ A cap news, a.eval y = .slice A m.length cap ∧ Rd cx.P (.arr m.length e) false ρ0 w (cx.I ρ s) m news ∧ (m.length = 0 ∨ ∃ ad, A = some ad ∧ ∀ j u, news[j]? = some u → w.cell? (ad.add j) = some u) := by
  have hv := (hM.ev y).1
  have deep : ∀ {t : Ty} {x : t.den}, RV cx.P ρ w (cx.I ρ s) (.val t x) (a.eval y) → Ty.as? t (.slice e) x = some m →
      ∃ A cap news, a.eval y = .slice A m.length cap ∧ Rd cx.P (.arr m.length e) false ρ0 w (cx.I ρ s) m news ∧ (m.length = 0 ∨ ∃ ad, A = some ad ∧ ∀ j u, news[j]? = some u → w.cell? (ad.add j) = some u) := by
    intro t x hx hc
    obtain ⟨rfl, rfl⟩ := Ty.as?_some hc
    obtain ⟨cs, h2, A, cap, rfl, _, h3⟩ := hx
    change a.eval y = .slice A (List.length (m : List e.den)) cap at h2
    by_cases h0 : List.length (m : List e.den) = 0
    · have : (m : List e.den) = [] := List.eq_nil_of_length_eq_zero h0
      subst this
      exact ⟨A, cap, [], h2, ⟨rfl, [], rfl, rfl, fun i x c hx => by simp at hx⟩, .inl rfl⟩
    · rcases h3 with h3 | ⟨ad, rfl, hs, _, _, hall⟩
      · exact absurd (by rw [h3]; rfl) h0
      · obtain ⟨news, hr, hc⟩ := gather_news (P := cx.P) hs (m : List e.den) 0 (fun i x hx => by simpa using hall i x hx)
        exact ⟨some ad, cap, news, h2, hr, .inr ⟨ad, rfl, fun j u hu => by simpa using hc j u hu⟩⟩
  generalize s.ev y = av at h hv
  have other : ∀ {t : Ty} {x : t.den}, t ≠ .own → addends hp e (.val t x) = Ty.as? t (.slice e) x := by
    intro t x hne
    cases t <;> first | exact absurd rfl hne | rfl
  cases av with
  | nil =>
    have h : some [] = some m := h
    obtain rfl := Option.some.inj h
    exact ⟨none, 0, [], hv, ⟨rfl, [], rfl, rfl, fun i x c hx => by simp at hx⟩, .inl rfl⟩
  | undef => exact nomatch (show Option.none = some m from h)
  | anyb p => exact nomatch (show Option.none = some m from h)
  | win b lo n => exact nomatch (show Option.none = some m from h)
  | suf b lo k => exact nomatch (show Option.none = some m from h)
  | tup l => exact nomatch (show Option.none = some m from h)
  | imm t x off => exact nomatch (show Option.none = some m from h)
  | val t x =>
    by_cases ht : t = .own
    · subst ht
      have key : ∃ e' l tid, hp x = some (.row e' l tid) ∧ Ty.as? (.slice e') (.slice e) l = some m := by
        cases hk : hp x with
        | none => have h2 : addends hp e (.val .own x) = none := by show (match hp x with | some (.row e' l _) => Ty.as? (.slice e') (.slice e) l | _ => none) = none; rw [hk]
                  rw [h2] at h; cases h
        | some k =>
          cases k with
          | cells t y => have h2 : addends hp e (.val .own x) = none := by show (match hp x with | some (.row e' l _) => Ty.as? (.slice e') (.slice e) l | _ => none) = none; rw [hk]
                         rw [h2] at h; cases h
          | row e' l tid => have h2 : addends hp e (.val .own x) = Ty.as? (.slice e') (.slice e) l := by show (match hp x with | some (.row e' l _) => Ty.as? (.slice e') (.slice e) l | _ => none) = _; rw [hk]
                            rw [h2] at h
                            exact ⟨e', l, tid, rfl, h⟩
      obtain ⟨e', l, tid, hk, h⟩ := key
      have hv := RV_own hv
      obtain ⟨he, rfl⟩ := Ty.as?_some h
      obtain rfl : e' = e := by injection he
      obtain ⟨xs, hro, hrd⟩ := hM.blks x _ (hhp _ _ hk)
      rcases World.row_owns hro with ⟨A0, h1, h2, _⟩ | ⟨hro, g, cap, h1, _⟩
      · have hl0 : l = [] := List.eq_nil_of_length_eq_zero h2
        subst hl0
        exact ⟨A0, 0, [], by rw [hv, h1]; rfl, ⟨rfl, [], rfl, rfl, fun i x c hx => by simp at hx⟩, .inl rfl⟩
      · exact ⟨_, cap, xs, by rw [hv, h1], hrd, .inr ⟨_, rfl, hro.cells (g := g) (by rw [h1]; rfl)⟩⟩
    · rw [other ht] at h
      exact deep hv h

/-- A row of the call's own grows. -/
theorem M.grow (h : M cx ρ F s a w) (hn : ¬ F nid) {b : Nat} (hnp : cx.np ≤ b) {e : Ty} {l l' : List e.den} {et : TypeId} {v' : Value} {w' : World} {xs : List Value} (ok : Prop)
    (hb : s.hp b = some (.row e l et)) (hg : GrB w w' (real (ρ b))) (hown : World.rowOf w' 0 et e.size v' l'.length xs) (hrd : Rd cx.P (.arr l'.length e) false ρ0 w (cx.I ρ s) l' xs)
    (hone : v'.oneCell' = true) (hreal : ∀ r, real v' = some r → real (ρ b) = some r ∨ (w.heap.size ≤ r ∧ r < w'.heap.size)) :
    M cx (upd ρ nid v') (fun c => F c ∨ c = nid) ⟨s.sl, upd (upd s.hp b none) nid (some (.row e l' et)), ok⟩ a w' := by
  have hne : ∀ c k, s.hp c = some k → c ≠ nid := fun c k hk he => hn (he ▸ (h.brefs c k hk).1)
  have hρ : ∀ c, F c → upd ρ nid v' c = ρ c := fun c hc => upd_ne _ _ (fun he => hn (he ▸ hc))
  have hold : ∀ c k, c ≠ nid → upd (upd s.hp b none) nid (some (.row e l' et)) c = some k → s.hp c = some k ∧ c ≠ b := by
    intro c k hc hk
    rw [upd_ne _ _ hc] at hk
    by_cases hcb : c = b
    · subst hcb; rw [upd_same] at hk; cases hk
    · rw [upd_ne _ _ hcb] at hk; exact ⟨hk, hcb⟩
  have hI : ∀ r, r < w.heap.size → cx.I ρ s r → cx.I (upd ρ nid v') ⟨s.sl, upd (upd s.hp b none) nid (some (.row e l' et)), ok⟩ r := by
    intro r hr hi
    refine ⟨hi.1, fun c k hk hrr => ?_⟩
    by_cases hc : c = nid
    · subst hc
      rw [upd_same] at hrr
      rcases hreal r hrr with h1 | ⟨h1, _⟩
      · exact hi.2 b _ hb h1
      · omega
    · obtain ⟨h1, _⟩ := hold c k hc hk
      rw [upd_ne _ _ hc] at hrr
      exact hi.2 c k h1 hrr
  have hpres : Pres (cx.I ρ s) w w' := ⟨hg.kit.size, fun r hr hi => hg.kit.block r hr (fun he => hi.2 b _ hb he.symm)⟩
  refine M.turn h ok hρ (fun c hc => .inl hc) hg.kit.os ⟨hg.kit.tape, hg.le⟩ hg.kit.output hg.kit.size ?_ hI ?_ ?_ ?_ ?_ ?_
  · intro r hr hh
    refine hg.kit.block r hr fun he => ?_
    rcases hh with hh | ⟨h1, h2⟩
    · exact hh.2 b _ hb he.symm
    · rcases (h.fresh b _ r hb he.symm).1 with h3 | h3
      · exact h3.elim (fun h => by omega) (fun h => h2 (.inr h))
      · exact h2 h3.1
  · intro c k hk
    by_cases hc : c = nid
    · subst hc
      rw [upd_same] at hk
      obtain rfl := Option.some.inj hk
      rw [upd_same]
      exact ⟨xs, hown, hrd.mono hpres hI⟩
    · obtain ⟨h1, h2⟩ := hold c k hc hk
      rw [upd_ne _ _ hc]
      exact (h.blks c k h1).mono (fun d hd => hρ d ((h.brefs c k h1).2 d hd)) hpres hI (fun r hr => hg.kit.block r (h.owned_lt h1 hr) (fun he => h2 (h.sep c b k _ r h1 hb hr he.symm)))
  · intro c c' k k' r h1 h2 h3 h4
    by_cases hc : c = nid <;> by_cases hc' : c' = nid
    · rw [hc, hc']
    · exfalso
      subst hc
      rw [upd_same] at h3
      obtain ⟨h5, h6⟩ := hold c' k' hc' h2
      rw [upd_ne _ _ hc'] at h4
      rcases hreal r h3 with h7 | ⟨h7, _⟩
      · exact h6 (h.sep c' b k' _ r h5 hb h4 h7)
      · have := h.owned_lt h5 h4; omega
    · exfalso
      subst hc'
      rw [upd_same] at h4
      obtain ⟨h5, h6⟩ := hold c k hc h1
      rw [upd_ne _ _ hc] at h3
      rcases hreal r h4 with h7 | ⟨h7, _⟩
      · exact h6 (h.sep c b k _ r h5 hb h3 h7)
      · have := h.owned_lt h5 h3; omega
    · obtain ⟨h5, _⟩ := hold c k hc h1
      obtain ⟨h6, _⟩ := hold c' k' hc' h2
      rw [upd_ne _ _ hc] at h3
      rw [upd_ne _ _ hc'] at h4
      exact h.sep c c' k k' r h5 h6 h3 h4
  · intro c k r h1 h2
    by_cases hc : c = nid
    · subst hc
      rw [upd_same] at h1 h2
      obtain rfl := Option.some.inj h1
      rcases hreal r h2 with h3 | ⟨h3, h4⟩
      · have := h.fresh b _ r hb h3
        exact ⟨.inl (this.1.resolve_right fun h => Nat.not_lt.2 hnp h.2), Nat.lt_of_lt_of_le this.2 hg.kit.size⟩
      · exact ⟨.inl (.inl (Nat.le_trans h.size h3)), h4⟩
    · obtain ⟨h5, _⟩ := hold c k hc h1
      rw [upd_ne _ _ hc] at h2
      exact ⟨(h.fresh c k r h5 h2).1, Nat.lt_of_lt_of_le (h.fresh c k r h5 h2).2 hg.kit.size⟩
  · intro c k h1
    by_cases hc : c = nid
    · subst hc
      rw [upd_same] at h1
      obtain rfl := Option.some.inj h1
      exact ⟨.inr rfl, fun d hd => by cases hd⟩
    · obtain ⟨h5, _⟩ := hold c k hc h1
      exact ⟨.inl (h.brefs c k h5).1, fun d hd => .inl ((h.brefs c k h5).2 d hd)⟩
  · intro c
    by_cases hc : c = nid
    · subst hc; rw [upd_same]; exact hone
    · rw [upd_ne _ _ hc]; exact h.rho c

theorem ok_append {hp : Nat → Option Blk} (hhp : ∀ b k, hp b = some k → s.hp b = some k) {t t' : TypeId} {x y : Operand}
    (ho : o.op = .call { callee := .builtin .append, args := #[x, y], argTypes := #[t, t'] }) (hT : TOk cx.P c) (hE : c.pin = cx.np) : OpOk cx o s nid (pAppend cx.P c hp nid t t' (s.ev x) (s.ev y)) := by
  unfold pAppend
  split
  · rename_i et htt hu
    obtain rfl := Nat.eq_of_beq_eq_true htt
    split
    · rename_i e i hty hi
      split
      · exact bad_ok
      · rename_i hz
        simp only [Bool.and_eq_true] at hz
        obtain ⟨hz, hpos, hby, hdeep⟩ := hz
        have hpos := blt_true hpos
        have hby := blt_true hby
        obtain ⟨ie, _, hie, hsz, _⟩ := tyOk_sound (hT _ _ (find_mem hty))
        obtain rfl : i = ie := Option.some.inj (hi.symm.trans hie)
        split
        · exact bad_ok
        · rename_i m hm
          split
          · rename_i hx
            intro ρ F a w next Q hM hnF hob hn
            obtain ⟨i', z, hi', hzz, hR⟩ := zeroOk_sound (P := cx.P) (ρ := ρ) (w := w) (I := cx.I ρ s) hz
            obtain rfl : i = i' := Option.some.inj (hi.symm.trans hi')
            obtain ⟨A, cap, news, hy, hrd, hA⟩ := addends_sound hM hhp hm
            have h1 := (hM.ev x).1
            rw [hx] at h1
            have h1 : a.eval x = .slice none 0 0 := h1
            obtain ⟨v', w', hrun, hown', hgr, hone, hreal⟩ := run_append2 (P := cx.P) (w := w) t o.type et i z e.size hu hi hzz hsz (by have := hR.length; simpa using this) hpos hby (.slice none 0 0) 0 [] (World.rowOf_of (World.ownsRow_nil _ _ _ _)) A m.length cap news hrd.length hA (Rd.one hrd ρ0_one) hob
            unfold Oper.wp execOp
            simp only [ho, resolve, invoke, builtin, Sem.run_bind, Sem.run_pure, Result.andThen_ok, List.map_toArray, List.map_cons, List.map_nil, h1, hy, hrun]
            refine hn (upd ρ nid v') v' w' ?_
            have hbl : Below w.heap.size w w' := ⟨hgr.kit.os, ⟨hgr.kit.tape, hgr.le⟩, hgr.kit.output, hgr.kit.size, fun k hk => hgr.kit.block k hk (by rw [real_zero]; simp)⟩
            have hnew := M.new (k := .row e m et) (v := v') hM hnF s.ok hbl (fun r hr => by
                rcases hreal r hr with h | h
                · cases h
                · exact h) hone ⟨news, by simpa using hown', hrd.mono ⟨hbl.size, fun r hr _ => hbl.block r hr⟩ (fun r hr hi => .inl ⟨hi, hr⟩)⟩ (fun b hb => by cases hb)
            exact M.put hnew o.dst (av := .val .own nid) ⟨[v'], rfl, by show _ = [upd ρ nid _ nid]; rw [upd_same]⟩ (fun b hb => .inr (List.mem_singleton.1 hb)) s.ok
          · rename_i b hx
            split
            · rename_i e' l et' hk
              split
              · rename_i l' het hl
                simp only [Bool.and_eq_true] at het
                have hnp : cx.np ≤ b := hE ▸ Nat.le_of_ble_eq_true het.2
                have het := het.1
                obtain rfl := Nat.eq_of_beq_eq_true het
                obtain ⟨he, rfl⟩ := Ty.as?_some hl
                obtain rfl : e' = e := by injection he
                intro ρ F a w next Q hM hnF hob hn
                obtain ⟨i', z, hi', hzz, hR⟩ := zeroOk_sound (P := cx.P) (ρ := ρ) (w := w) (I := cx.I ρ s) hz
                obtain rfl : i = i' := Option.some.inj (hi.symm.trans hi')
                obtain ⟨A, cap, news, hy, hrd, hA⟩ := addends_sound hM hhp hm
                have h1 := (hM.ev x).1
                rw [hx] at h1
                have h1 := RV_own h1
                obtain ⟨xs, hro, hrl⟩ := hM.blks b _ (hhp _ _ hk)
                obtain ⟨v', w', hrun, hown', hgr, hone, hreal⟩ := run_append2 (P := cx.P) (w := w) t o.type et i z e'.size hu hi hzz hsz (by have := hR.length; simpa using this) hpos hby (ρ b) l.length xs hro A m.length cap news hrd.length hA (Rd.one hrd ρ0_one) hob
                unfold Oper.wp execOp
                simp only [ho, resolve, invoke, builtin, Sem.run_bind, Sem.run_pure, Result.andThen_ok, List.map_toArray, List.map_cons, List.map_nil, h1, hy, hrun]
                refine hn (upd ρ nid v') v' w' ?_
                have hgrow := M.grow hM hnF hnp s.ok (hhp _ _ hk) (l' := l ++ m) hgr (by rw [List.length_append]; exact hown') (Rd.arr_append hrl hrd) hone hreal
                exact M.put hgrow o.dst (av := .val .own nid) ⟨[v'], rfl, by show _ = [upd ρ nid _ nid]; rw [upd_same]⟩ (fun b hb => .inr (List.mem_singleton.1 hb)) s.ok
              · exact bad_ok
            · exact bad_ok
          · exact bad_ok
    · exact bad_ok
  · exact bad_ok

theorem zeroCells_listM {z : Array Value} {N : Nat} {e : Ty} {i : TypeInfo} (hzs : z.size = e.size) (hsz : i.size = e.size) : (Builtin.zeroCells z N).toList = (madeCells z (N * i.size)).toList := by
  unfold Builtin.zeroCells madeCells
  rw [hsz, hzs]
theorem wrap_i64_small {x : Int} (h1 : 0 ≤ x) (h2 : x ≤ 9223372036854775807) : IntKind.i64.wrap x = x := by
  unfold IntKind.wrap
  simp [IntKind.bits, IntKind.signed]
  omega
theorem run_appendZ {P : Program} {w : World} (t t' ty e : TypeId) (i : TypeInfo) (z : Value) (k k' : IntKind) (n : Int) (ht : P.underlying t = some (.slice e)) (ht' : P.underlying t' = some (.int k')) (hi : P.info? e = some i) (hz : i.zero = some z)
    (hzs : z.cells.size = i.size) (hpos : 0 < i.size) (h0 : 0 < n) (hb : n * (i.bytes : Int) ≤ 140737488355328) (hby : 0 < i.bytes) :
    (Builtin.append_ #[t, t'] ty #[.slice none 0 0, .int k n]).run P w =
      .ok (.slice (some ⟨w.heap.size, 0, none⟩) n.toNat (grownCap w n.toNat 0 e)) (w.drew.alloc (.cells (Builtin.zeroCells z.cells n.toNat ++ Builtin.zeroCells z.cells (grownCap w n.toNat 0 e - n.toNat)) e)) := by
  have hle : n * 1 ≤ n * (i.bytes : Int) := Int.mul_le_mul_of_nonneg_left (by omega) (by omega)
  have hw : IntKind.i64.wrap n = n := wrap_i64_small (by omega) (by omega)
  obtain ⟨m, rfl⟩ := Int.eq_ofNat_of_zero_le (Int.le_of_lt h0)
  have hm : m ≠ 0 := by omega
  have hneg : ¬ ((m : Int) < 0) := by omega
  have hbig : ¬ (281474976710656 < (m : Int) * (i.bytes : Int)) := by omega
  have h63' : ¬ (9223372036854775807 < (m : Int)) := by omega
  have hbn : m * i.bytes ≤ 140737488355328 := by
    have : ((m * i.bytes : Nat) : Int) ≤ 140737488355328 := by rw [Int.natCast_mul]; exact hb
    omega
  have h48' : ¬ (281474976710656 < Builtin.nextslicecap m 0 * i.bytes) := by rw [nextslicecap_zero (by omega)]; omega
  have hs : i.size ≠ 0 := by omega
  simp [Builtin.append_, run_underlying ht, run_underlying ht', sizeOf, typeInfo, zeroValue, hi, hz, hw, hm, hneg, hbig, h63', h48', hs, Question.forced, run_firstCells_none, newRow, grownCap, asInt, asIntOf]
  intro h
  exact absurd h (Nat.mul_ne_zero hm hs)
theorem zAp_le {b : Nat} {n : Int} (hb : 0 < b) (h : zAp b n) : n.toNat ≤ maxLen := by
  obtain ⟨h0, h1⟩ := h
  have hle : n * 1 ≤ n * (b : Int) := Int.mul_le_mul_of_nonneg_left (by omega) (by omega)
  simp only [maxLen]
  omega

theorem ok_appendZ {t t' : TypeId} {x y : Operand} (ho : o.op = .call { callee := .builtin .append, args := #[x, y], argTypes := #[t, t'] }) (hT : TOk cx.P c) : OpOk cx o s nid (pAppendZ cx.P c nid t t' (s.ev x) (s.ev y)) := by
  unfold pAppendZ
  split
  · rename_i k n et k' hx hy hu hu'
    split
    · rename_i e i hty hi
      split
      · rename_i hz
        simp only [Bool.and_eq_true] at hz
        obtain ⟨hz, hpos, hby, hfl⟩ := hz
        have hpos := blt_true hpos
        have hby := blt_true hby
        obtain ⟨ie, _, hie, hsz, _⟩ := tyOk_sound (hT _ _ (find_mem hty))
        obtain rfl : i = ie := Option.some.inj (hi.symm.trans hie)
        intro ρ F a w next Q hM hnF hob hn
        obtain ⟨i', z, hi', hzz, hR⟩ := zeroOk_sound (P := cx.P) (ρ := ρ) (w := w) (I := cx.I ρ s) hz
        obtain rfl : i = i' := Option.some.inj (hi.symm.trans hi')
        have hob : zAp i.bytes n := hob
        have hzs : z.cells.size = e.size := by have := hR.length; simpa using this
        have h1 := (hM.ev x).1
        rw [hx] at h1
        have h1 : a.eval x = .slice none 0 0 := h1
        have h2 := ev_int hM hy
        have hrun := run_appendZ (P := cx.P) (w := w) t t' o.type et i z k k' n hu hu' hi hzz (by rw [hzs, hsz]) (by rw [hsz]; exact hpos) hob.1 hob.2 hby
        have hnl : Int.toNat n ≤ maxLen := zAp_le hby hob
        have hge := grownCap_ge w (Int.toNat n) 0 et
        have hcm : grownCap w (Int.toNat n) 0 et ≤ maxLen := grownCap_le_maxLen w (Int.toNat n) 0 et hnl
        have hzl : (Builtin.zeroCells z.cells (Int.toNat n)).toList.length = Int.toNat n * e.size := by
          simp only [Array.length_toList, size_zeroCells, hzs]
        have hmade := made_Rd (P := cx.P) (ρ := ρ) (w := w) (I := cx.I ρ s) (e := e) (z := z) (i := i) hsz hzs hR (Int.toNat n)
        rw [← zeroCells_listM hzs hsz] at hmade
        have hmade := hmade.rho (ρ' := ρ0) (fun b hb => by rw [show (Ty.arr (Int.toNat n) e).refs (List.replicate (Int.toNat n) e.zero : List e.den) = [] by simp [Ty.refs, hfl]] at hb; cases hb)
        generalize hw' : w.drew.alloc (.cells (Builtin.zeroCells z.cells (Int.toNat n) ++ Builtin.zeroCells z.cells (grownCap w (Int.toNat n) 0 et - Int.toNat n)) et) = w' at *
        have hgr : w.grownBy w' none := by
          subst hw'
          exact ⟨rfl, rfl, rfl, by simp, fun q hq _ => heap_alloc_old w.drew _ q hq⟩
        have hown : World.rowOf w' 0 et e.size (.slice (some ⟨w.heap.size, 0, none⟩) (Int.toNat n) (grownCap w (Int.toNat n) 0 et)) (Int.toNat n) (Builtin.zeroCells z.cells (Int.toNat n)).toList := by
          subst hw'
          refine World.rowOf_of ⟨hzl, .inr ⟨w.heap.size, _, _, rfl, Nat.zero_le _, heap_alloc_new w.drew _, hge, hcm, ?_, ?_⟩⟩
          · simp only [Array.size_append, size_zeroCells, hzs, ← Nat.add_mul]
            congr 1
            omega
          · rw [Array.toList_append, ← hzl]
            exact List.take_left
        have hdr : w.drawn ≤ w'.drawn := by subst hw'; exact Nat.le_succ _
        have hsz' : w'.heap.size = w.heap.size + 1 := by subst hw'; simp
        unfold Oper.wp execOp
        simp only [ho, resolve, invoke, builtin, Sem.run_bind, Sem.run_pure, Result.andThen_ok, List.map_toArray, List.map_cons, List.map_nil, h1, h2, hrun]
        refine hn (upd ρ nid (.slice (some ⟨w.heap.size, 0, none⟩) (Int.toNat n) (grownCap w (Int.toNat n) 0 et))) _ w' ?_
        have hbl : Below w.heap.size w w' := ⟨hgr.os, ⟨hgr.tape, hdr⟩, hgr.output, hgr.size, fun q hq => hgr.block q hq (by simp)⟩
        have hnew := M.new (k := .row e (List.replicate (Int.toNat n) e.zero) et) (v := .slice (some ⟨w.heap.size, 0, none⟩) (Int.toNat n) (grownCap w (Int.toNat n) 0 et)) hM hnF s.ok hbl (fun r hr => by
            obtain ⟨rfl, _⟩ := real_some hr
            exact ⟨Nat.le_refl _, by show w.heap.size < w'.heap.size; omega⟩) rfl ⟨(Builtin.zeroCells z.cells (Int.toNat n)).toList, by rw [List.length_replicate]; exact hown, by
              rw [List.length_replicate]
              exact hmade.mono ⟨hbl.size, fun r hr _ => hbl.block r hr⟩ (fun r hr hi => .inl ⟨hi, hr⟩)⟩ (fun b hb => by cases hb)
        exact M.put hnew o.dst (av := .val .own nid) ⟨[_], rfl, by show _ = [upd ρ nid _ nid]; rw [upd_same]⟩ (fun b hb => .inr (List.mem_singleton.1 hb)) s.ok
      · exact bad_ok
    · exact bad_ok
  · exact bad_ok
theorem ok_appendY {hp : Nat → Option Blk} (hhp : ∀ b k, hp b = some k → s.hp b = some k) {t t' : TypeId} {x y : Operand}
    (ho : o.op = .call { callee := .builtin .append, args := #[x, y], argTypes := #[t, t'] }) (hT : TOk cx.P c) (hE : c.pin = cx.np) : OpOk cx o s nid (pAppendY cx.P c hp nid t t' (s.ev x) (s.ev y)) := by
  unfold pAppendY
  split
  · exact ok_append hhp ho hT hE
  · exact ok_appendZ ho hT

theorem cutIx_sound {P : Program} {I : Nat → Prop} {n : Int} {x : Option Operand} {r : Int} {f : Operand → AV} {g : Operand → Value} (h : cutIx n (x.map f) = some r) (hv : ∀ y, RV P ρ w I (f y) (g y)) :
    (x = none ∧ r = n) ∨ ∃ y k, x = some y ∧ g y = .int k r := by
  cases x with
  | none => exact .inl ⟨rfl, (Option.some.inj h).symm⟩
  | some y =>
    simp only [Option.map_some] at h
    unfold cutIx at h
    split at h
    · rename_i hh; cases hh
    · rename_i k r' hh
      obtain rfl := Option.some.inj h
      have := hv y
      rw [Option.some.inj hh] at this
      exact .inr ⟨y, k, rfl, RV_int this⟩
    · cases h

theorem ok_slice {t : TypeId} {x : Operand} {lo hi mx : Option Operand} (ho : o.op = .slice t x lo hi mx) : OpOk cx o s nid (pSlice cx.P t (s.ev x) (lo.map s.ev) (hi.map s.ev) mx.isSome) := by
  unfold pSlice
  split
  · rename_i et e l hm hu hx
    split
    · rename_i q p r hq hp hr
      split
      · rename_i hes
        have hes := Nat.eq_of_beq_eq_true hes
        refine ok_value rfl fun ρ F a w hM hob => ?_
        obtain ⟨h0, h1, h2⟩ := hob
        obtain ⟨i, hi', hsi⟩ := Option.map_eq_some_iff.1 hq
        have hv := (hM.ev x).1
        rw [hx] at hv
        obtain ⟨cs, h4, A, cap, rfl, hcap, h5⟩ := hv
        change a.eval x = .slice A (List.length l) cap at h4
        have hmn : mx = none := by cases mx <;> simp at hm ⊢
        subst hmn
        have hsb : (Instr.sliceBounds true (List.length l) cap (lo.map a.eval) (hi.map a.eval) none).run cx.P w = .ok (p.toNat, r.toNat, cap) w := by
          have hcap' : (List.length l : Int) ≤ cap := by exact_mod_cast hcap
          have hr' : (0 ≤ r ∧ r ≤ (cap : Int)) := ⟨by omega, by omega⟩
          have hrn : ((r.toNat : Nat) : Int) = r := Int.toNat_of_nonneg hr'.1
          have hpr : 0 ≤ p ∧ p ≤ ((r.toNat : Nat) : Int) := by rw [hrn]; exact ⟨h0, h1⟩
          have c1 := cutIx_sound hp (fun y => (hM.ev y).1)
          have c2 := cutIx_sound hr (fun y => (hM.ev y).1)
          have b1 : ∀ k code, (Instr.sliceBound (.int k r) cap code).run cx.P w = .ok r.toNat w := fun k code => run_sliceBound w k r cap code hr'.1 hr'.2
          have b2 : ∀ k code, (Instr.sliceBound (.int k p) r.toNat code).run cx.P w = .ok p.toNat w := fun k code => run_sliceBound w k p r.toNat code hpr.1 hpr.2
          rcases c1 with ⟨rfl, rfl⟩ | ⟨y, k, rfl, hy⟩ <;> rcases c2 with ⟨rfl, rfl⟩ | ⟨y', k', rfl, hy'⟩ <;>
            simp only [Instr.sliceBounds, Option.map_some, Option.map_none, *, Sem.run_bind, Sem.run_pure, Result.andThen_ok] <;> first | rfl | (simp; done) | (rw [Int.toNat_natCast] at b2 ⊢; simp only [b2, Result.andThen_ok])
        have hlen : List.length (List.drop p.toNat (List.take r.toNat l)) = r.toNat - p.toNat := len_cut (α := e.den) l (by omega)
        refine ⟨.slice (if cap = p.toNat then A else A.map (·.add (p.toNat * i.size))) (r.toNat - p.toNat) (cap - p.toNat), ?_, ⟨[_], rfl, (if cap = p.toNat then A else A.map (·.add (p.toNat * i.size))), cap - p.toNat, by rw [hlen], by rw [hlen]; omega, ?_⟩, fun b hb => by cases hb⟩
        · have hidx : (execOp a.eval o).run cx.P w = ((Instr.slice t (a.eval x) (lo.map a.eval) (hi.map a.eval) none).run cx.P w).andThen fun v w' => .ok (.value v) w' := by
            simp [execOp, ho, Instr.sliceAt, run_underlying hu]
          rw [hidx, h4]
          have : (Instr.slice t (.slice A (List.length l) cap) (lo.map a.eval) (hi.map a.eval) none).run cx.P w = .ok (.slice (if cap = p.toNat then A else A.map (·.add (p.toNat * i.size))) (r.toNat - p.toNat) (cap - p.toNat)) w := by
            unfold Instr.slice
            simp only [Sem.run_bind, run_underlying hu, Result.andThen_ok, hsb]
            simp [sizeOf, typeInfo, hi']
          rw [this]
          rfl
        · by_cases hempty : List.drop p.toNat (List.take r.toNat l) = []
          · exact .inl hempty
          · refine .inr ?_
            have hpos : p.toNat < r.toNat := by
              rcases Nat.lt_or_ge p.toNat r.toNat with h | h
              · exact h
              · exact absurd (List.eq_nil_of_length_eq_zero (by rw [hlen]; omega)) hempty
            rcases h5 with h5 | ⟨ad, rfl, g1, g2, g3, g4⟩
            · have : List.length l = 0 := by rw [h5]; rfl
              omega
            · have hne : ¬ cap = p.toNat := by omega
              rw [if_neg hne]
              have hbl : (ad.add (p.toNat * i.size)).block = ad.block := by unfold Addr.add; split <;> rfl
              refine ⟨ad.add (p.toNat * i.size), rfl, by unfold Addr.add; split <;> first | rfl | exact g1, by rw [hbl]; exact g2, by rw [hbl]; exact g3, fun j y hy => ?_⟩
              have hy := cut_get (α := e.den) l hy
              obtain ⟨cc, h8, h9⟩ := g4 _ y hy
              refine ⟨cc, ?_, h9⟩
              rw [add_add g1, hsi, ← hes, ← Nat.add_mul]
              exact h8
      · exact bad_ok
    · exact bad_ok
  · exact bad_ok

theorem ok_indexStr {t : TypeId} {b : ByteArray} {y : Operand} {k : IntKind} (n : Int) (ho : o.op = .index t (.const (.string b)) y) (hy : s.ev y = .val (.int k) n) (hu : cx.P.underlying t = some .string) :
    OpOk cx o s nid ⟨.val (.int .u8) (strAt b n), [], some (inR n (b.size : Int))⟩ := by
  refine ok_value rfl fun ρ F a w hM hob => ?_
  have h0 : 0 ≤ n := hob.1
  have h1 : n < (b.size : Int) := hob.2
  have hlt : n.toNat < b.data.size := by
    have : b.data.size = b.size := rfl
    omega
  have hlt' : n.toNat < b.size := by omega
  refine ⟨.int .u8 (strAt b n), ?_, RV_of_int, fun b hb => by cases hb⟩
  have hb : b[n.toNat]? = some (b.data.getD n.toNat 0) := by
    rw [getElem?_pos b n.toNat hlt']
    congr 1
    rw [Array.getD_eq_getD_getElem?, Array.getElem?_eq_getElem hlt, Option.getD_some]
    rfl
  have hx : a.eval (.const (.string b)) = .string b := rfl
  simp only [execOp, ho, hx, ev_int hM hy, Instr.index, asIntOf, Sem.run_bind, Sem.run_pure, Result.andThen_ok, run_underlying hu, h0, if_true, hb, strAt]

theorem getD_mem' {α : Type} (l : List α) (i : Nat) (h : i < l.length) (z : α) : l.getD i z ∈ l := by
  rw [List.getD_eq_getElem?_getD, List.getElem?_eq_getElem h]
  exact List.getElem_mem _
theorem ok_indexV {t : TypeId} {x y : Operand} {k : IntKind} (n : Int) (ho : o.op = .index t x y) (hy : s.ev y = .val (.int k) n) (hT : TOk cx.P c) : OpOk cx o s nid (pIndexV cx.P c t (s.ev x) n) := by
  unfold pIndexV
  split
  · rename_i m e l hx
    split
    · rename_i len elem hu
      split
      · rename_i hlen
        have hlen := Nat.eq_of_beq_eq_true hlen
        subst hlen
        split
        · rename_i ty hfi
          have hty := hT _ _ (find_mem hfi)
          split
          · rename_i l' hl
            obtain ⟨he, rfl⟩ := Ty.as?_some hl
            cases he
            refine ok_value rfl fun ρ F a w hM hob => ?_
            have h1 := hM.ev x
            rw [hx] at h1
            obtain ⟨⟨cs, h2, h3⟩, h4⟩ := h1
            have hob1 : 0 ≤ n := hob.1
            have hob2 : n < (len : Int) := hob.2
            have hlen : List.length (l : List e.den) = len := h3.1
            obtain ⟨pre, ci, post, h5, h6, h7, _⟩ := elemAt (i := n.toNat) h3 (by omega) e.zero
            have hag : a.eval x = .agg cs.toArray := h2
            obtain ⟨i, d, g1, g2, _, _⟩ := tyOk_sound hty
            have hp := run_part (P := cx.P) (w := w) hty (cs := cs.toArray) (by simpa using h5) h7.length
            rw [h6] at hp
            refine ⟨mkV e ci, ?_, ⟨ci, rfl, h7⟩, fun b hb => h4 b (refs_arr_of (n := len) (e := e) (l := l) (x := (l : List e.den).getD n.toNat e.zero) ?_ hb)⟩
            · simp [execOp, ho, hag, ev_int hM hy, Instr.index, asIntOf, run_underlying hu, hob1, hob2, sizeOf, typeInfo, g1, g2, hp]
            · exact getD_mem' (α := e.den) l _ (by omega) _
          · exact bad_ok
        · exact bad_ok
      · exact bad_ok
    · exact bad_ok
  · exact bad_ok
theorem ok_index {t : TypeId} {x y : Operand} (ho : o.op = .index t x y) (hT : TOk cx.P c) : OpOk cx o s nid (pIndex cx.P c t x (s.ev x) (s.ev y)) := by
  unfold pIndex
  split
  · rename_i k n hy
    split
    · rename_i b
      split
      · rename_i hu
        exact ok_indexStr n ho hy hu
      · exact bad_ok
    · exact ok_indexV n ho hy hT
  · exact bad_ok
end
end Go.Sx
