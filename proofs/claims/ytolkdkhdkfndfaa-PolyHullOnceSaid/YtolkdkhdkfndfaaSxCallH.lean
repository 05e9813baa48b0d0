/-
  A call that is lent blocks of the call's own, as an operation.
-/
import Derived.Test.YtolkdkhdkfndfaaSxCall
namespace Go.Sx

section
variable {c : Ctx} {cx : Cx} {ρ : Nat → Value} {F : Nat → Prop} {s : St} {a : Act} {w : World}

def AllX (X : Nat → Prop) (w : World) (b : Nat) : Prop := b < w.heap.size ∧ ¬ X b

/-- The blocks of hp are the call's own, and apart from X. -/
structure Less (cx : Cx) (ρ : Nat → Value) (s : St) (hp : Nat → Option Blk) (X : Nat → Prop) : Prop where
  sub : ∀ b k, hp b = some k → s.hp b = some k
  out : ∀ b k r, hp b = some k → real (ρ b) = some r → ¬ X r
  inn : ∀ r, X r → ¬ cx.I ρ s r

variable {hp : Nat → Option Blk} {X : Nat → Prop}

theorem deref_soundX (hM : M cx ρ F s a w) (hl : Less cx ρ s hp X) {p : Ptr} {t : Ty} {x : t.den} (h : derefP hp p t = some x) :
    Rd cx.P (.ref t) false ρ0 w (AllX X w) x [p.val ρ] := by
  unfold derefP at h
  split at h
  · rename_i ty y hk
    split at h
    · rename_i hb
      simp only [Bool.and_eq_true] at hb
      have hg : getP (.cells ty y) p t = (some x, none) := by
        unfold getP
        simp only [hb.1, h]
      obtain ⟨r, tid, cur, pre, cc, post, h1, h2, h3, h4, h5, _⟩ := place_sound (hM.blks p.b _ (hl.sub _ _ hk)) hg trivial
      have hlt : r < w.heap.size := hM.owned_lt (hl.sub _ _ hk) h1
      exact ⟨⟨r, pre.length, none⟩, cc, by rw [h2], rfl, ⟨hlt, hl.out _ _ _ hk h1⟩, hlt, CellsAt_of_row h3 h4, (h5.rho (fun b hb' => by rw [Ty.deep_refs hb.2] at hb'; cases hb')).mono (Pres.refl _ _) (fun r hr hi => ⟨hr, fun hx => hl.inn r hx hi⟩)⟩
    · cases h
  · cases h

theorem caps_soundX (hM : M cx ρ F s a w) (hl : Less cx ρ s hp X) : ∀ {rest : Ty} {ps : List Ptr} {z : rest.den}, decCaps hp rest ps = some z →
    Rd cx.P rest true ρ0 w (AllX X w) z (ps.map (·.val ρ)) := by
  intro rest
  induction rest with
  | unit => intro ps z h; cases ps <;> simp [decCaps] at h; rfl
  | pair p q _ ihq =>
    intro ps z h
    cases p with
    | ref t =>
      cases ps with
      | nil => simp [decCaps] at h
      | cons p ps =>
        simp only [decCaps] at h
        split at h
        · rename_i x y hx hy
          obtain rfl := Option.some.inj h
          exact ⟨[p.val ρ], ps.map (·.val ρ), rfl, deref_soundX hM hl hx, ihq hy⟩
        · cases h
    | _ => simp [decCaps] at h
  | _ => intro ps z h; simp [decCaps] at h

theorem fn_soundX (hc : FnsOk cx.P c) (hM : M cx ρ F s a w) (hl : Less cx ρ s hp X) {g : FuncId × List Ptr} {ps r : Ty} {x : ps.den → Option r.den}
    (h : decFn c hp g ps r = some x) : Rd cx.P (.fn ps r) false ρ0 w (AllX X w) x [.func (.func g.1) #[] (g.2.map (·.val ρ)).toArray] := by
  unfold decFn at h
  split at h
  · rename_i sp hsp
    split at h
    · rename_i f sl hf hsl
      split at h
      · rename_i z hz
        obtain rfl := Option.some.inj h
        have hfn := hc _ _ (find_mem hsp)
        obtain ⟨f', hspe, rfl⟩ := Spec.one_sound hf
        have hcaps := caps_soundX hM hl hz
        refine ⟨g.1, (g.2.map (·.val ρ)).toArray, rfl, fun w' hw' ok hok x y args hx hy => ?_⟩
        have h1 : Rd cx.P sp.ps true ρ0 w' (fun b => ok b ∨ (b < w.heap.size ∧ ¬ X b)) (sl.g x z) (args ++ g.2.map (·.val ρ)) :=
          splitPs_sound hsl (hx.mono (Pres.refl _ _) fun _ _ h => .inl h) (hcaps.mono hw' fun _ _ h => .inr h)
        rw [hspe] at hfn
        have hfn : FnOkD cx.P g.1 _ _ _ := hfn
        have h3 := hfn w' (fun b => ok b ∨ (b < w.heap.size ∧ ¬ X b)) (sl.g x z) y (args ++ g.2.map (·.val ρ)) (fun b hb => by
          rcases hb with hb | hb
          · exact hok b hb
          · exact Nat.lt_of_lt_of_le hb.1 hw'.1) h1 hy
        have e : args.toArray ++ (g.2.map (·.val ρ)).toArray = (args ++ g.2.map (·.val ρ)).toArray := by simp
        rw [e]
        refine h3.mono fun v w'' hv => ?_
        obtain ⟨⟨X', hX', cc, hv1, hv2⟩, hb⟩ := hv
        refine ⟨⟨cc, hv1, hv2.mono (Pres.refl _ _) fun q _ hq => ?_⟩, hb⟩
        rcases hq.1 with (hq | hq) | hq
        · exact .inl hq
        · exact .inr (.inl ⟨hq, hq.1⟩)
        · exact .inr (.inr hq)
      · cases h
    · cases h
  · cases h

theorem fn_sound2X (hc : FnsOk cx.P c) (hM : M cx ρ F s a w) (hl : Less cx ρ s hp X) {g : FuncId × List Ptr} {ps a' b' : Ty} {x : ps.den → Option (a'.den × b'.den)}
    (h : decFn2 c hp g ps a' b' = some x) : Rd cx.P (.fn2 ps a' b') false ρ0 w (AllX X w) x [.func (.func g.1) #[] (g.2.map (·.val ρ)).toArray] := by
  unfold decFn2 at h
  split at h
  · rename_i sp hsp
    split at h
    · rename_i f sl hf hsl
      split at h
      · rename_i z hz
        obtain rfl := Option.some.inj h
        have hfn := hc _ _ (find_mem hsp)
        obtain ⟨f', hspe, rfl⟩ := Spec.two_sound hf
        have hcaps := caps_soundX hM hl hz
        refine ⟨g.1, (g.2.map (·.val ρ)).toArray, rfl, fun w' hw' ok hok x y args hx hy => ?_⟩
        have h1 : Rd cx.P sp.ps true ρ0 w' (fun b => ok b ∨ (b < w.heap.size ∧ ¬ X b)) (sl.g x z) (args ++ g.2.map (·.val ρ)) :=
          splitPs_sound hsl (hx.mono (Pres.refl _ _) fun _ _ h => .inl h) (hcaps.mono hw' fun _ _ h => .inr h)
        rw [hspe] at hfn
        have hfn : FnOkD cx.P g.1 _ _ _ := hfn
        have h3 := hfn w' (fun b => ok b ∨ (b < w.heap.size ∧ ¬ X b)) (sl.g x z) y (args ++ g.2.map (·.val ρ)) (fun b hb => by
          rcases hb with hb | hb
          · exact hok b hb
          · exact Nat.lt_of_lt_of_le hb.1 hw'.1) h1 hy
        have e : args.toArray ++ (g.2.map (·.val ρ)).toArray = (args ++ g.2.map (·.val ρ)).toArray := by simp
        rw [e]
        refine h3.mono fun v w'' hv => ?_
        obtain ⟨⟨X', hX', hv⟩, hb⟩ := hv
        obtain ⟨vs, rfl, v1, vs1, rfl, ⟨c1, rfl, hv1⟩, v2, rfl, ⟨c2, rfl, hv2⟩⟩ := hv
        have key : ∀ q, q < w''.heap.size → (((ok q ∨ (q < w.heap.size ∧ ¬ X q)) ∨ w'.heap.size ≤ q) ∧ ¬ X' q) → (ok q ∨ (AllX X w q ∧ q < w.heap.size) ∨ w'.heap.size ≤ q) := by
          intro q _ hq
          rcases hq.1 with (hq | hq) | hq
          · exact .inl hq
          · exact .inr (.inl ⟨hq, hq.1⟩)
          · exact .inr (.inr hq)
        exact ⟨⟨c1, c2, rfl, hv1.mono (Pres.refl _ _) key, hv2.mono (Pres.refl _ _) key⟩, hb⟩
      · cases h
    · cases h
  · cases h

/-- The blocks that a call's data may lead to. -/
def okX (cx : Cx) (ρ : Nat → Value) (s : St) (w : World) (lent : Bool) (X : Nat → Prop) (b : Nat) : Prop := okSet cx ρ s w lent b ∧ ¬ X b

theorem okX_of_I (hl : Less cx ρ s hp X) {lent : Bool} : ∀ r, r < w.heap.size → cx.I ρ s r → okX cx ρ s w lent X r := fun r hr hi => ⟨⟨hr, .inr hi⟩, fun hx => hl.inn r hx hi⟩

theorem lendX {P : Program} {t : Ty} {x : t.den} {u v : Value} {lent : Bool} (h : Rd P t false ρ0 w (AllX X w) x [u]) (ha : t.agg = false) (hl : lent = true) (hv : v = u) : RdV P t ρ0 w (okX cx ρ s w lent X) x v :=
  ⟨[u], by rw [mkV_one ha, hv], h.mono (Pres.refl _ _) (fun _ hr hx => ⟨⟨hr, .inl hl⟩, hx.2⟩)⟩
theorem ptr_lendX {P : Program} {p : Ptr} {t' : Ty} {x : t'.den} {v : Value} (lent : Bool) (hl : lent = true) (hvv : v = p.val ρ)
    (h1 : Rd P (.ref t') false ρ0 w (AllX X w) x [p.val ρ]) : RdV P (.ref t') ρ0 w (okX cx ρ s w lent X) x v := by
  refine lendX (u := p.val ρ) ?_ ?_ ?_ ?_
  · exact h1
  · rfl
  · exact hl
  · exact hvv
theorem clo_lendX {P : Program} {ps r : Ty} {x : ps.den → Option r.den} {u v : Value} (lent : Bool) (hl : lent = true) (hvv : v = u)
    (h1 : Rd P (.fn ps r) false ρ0 w (AllX X w) x [u]) : RdV P (.fn ps r) ρ0 w (okX cx ρ s w lent X) x v := by
  refine lendX (u := u) ?_ ?_ ?_ ?_
  · exact h1
  · rfl
  · exact hl
  · exact hvv
theorem clo_lend2X {P : Program} {ps a' b' : Ty} {x : ps.den → Option (a'.den × b'.den)} {u v : Value} (lent : Bool) (hl : lent = true) (hvv : v = u)
    (h1 : Rd P (.fn2 ps a' b') false ρ0 w (AllX X w) x [u]) : RdV P (.fn2 ps a' b') ρ0 w (okX cx ρ s w lent X) x v := by
  refine lendX (u := u) ?_ ?_ ?_ ?_
  · exact h1
  · rfl
  · exact hl
  · exact hvv
theorem ptr_soundX' (hM : M cx ρ F s a w) (hl : Less cx ρ s hp X) {p : Ptr} {t' : Ty} {x : (Ty.ref t').den} {v : Value} (h : decPtr hp p (.ref t') = some x) (lent : Bool) (hlt : lent = true)
    (hvv : v = p.val ρ) : RdV cx.P (.ref t') ρ0 w (okX cx ρ s w lent X) x v := by
  have h1 : Rd cx.P (.ref t') false ρ0 w (AllX X w) x [p.val ρ] := deref_soundX hM hl (decPtr_ref h)
  clear hM hl h
  exact ptr_lendX (cx := cx) (s := s) lent hlt hvv h1
theorem clo_soundX' (hc : FnsOk cx.P c) (hM : M cx ρ F s a w) (hl : Less cx ρ s hp X) {g : FuncId × List Ptr} {ps r : Ty} {x : (Ty.fn ps r).den} {v : Value} (h : decClo c hp g (.fn ps r) = some x) (lent : Bool) (hlt : lent = true)
    (hvv : v = .func (.func g.1) #[] (g.2.map (·.val ρ)).toArray) : RdV cx.P (.fn ps r) ρ0 w (okX cx ρ s w lent X) x v := by
  have h1 : Rd cx.P (.fn ps r) false ρ0 w (AllX X w) x [.func (.func g.1) #[] (g.2.map (·.val ρ)).toArray] := fn_soundX hc hM hl (decClo_fn h)
  clear hM hl h
  exact clo_lendX (cx := cx) (s := s) lent hlt hvv h1

theorem clo_sound2X' (hc : FnsOk cx.P c) (hM : M cx ρ F s a w) (hl : Less cx ρ s hp X) {g : FuncId × List Ptr} {ps a' b' : Ty} {x : (Ty.fn2 ps a' b').den} {v : Value} (h : decClo c hp g (.fn2 ps a' b') = some x) (lent : Bool) (hlt : lent = true)
    (hvv : v = .func (.func g.1) #[] (g.2.map (·.val ρ)).toArray) : RdV cx.P (.fn2 ps a' b') ρ0 w (okX cx ρ s w lent X) x v := by
  have h1 : Rd cx.P (.fn2 ps a' b') false ρ0 w (AllX X w) x [.func (.func g.1) #[] (g.2.map (·.val ρ)).toArray] := fn_sound2X hc hM hl (decClo_fn2 h)
  clear hM hl h
  exact clo_lend2X (cx := cx) (s := s) lent hlt hvv h1

theorem arg_soundX (hc : FnsOk cx.P c) (hM : M cx ρ F s a w) (hls : Less cx ρ s hp X) {t : Ty} {av : AV} {v : Value} {x : t.den} (hv : RV cx.P ρ w (cx.I ρ s) av v)
    (h : decArg c hp t av = some x) (lent : Bool) (hl : av.lent = true → lent = true) : RdV cx.P t ρ0 w (okX cx ρ s w lent X) x v := by
  have deepcase : ∀ (av : AV), RV cx.P ρ w (cx.I ρ s) av v → (match t.deep with | true => coe t av | false => none) = some x → RdV cx.P t ρ0 w (okX cx ρ s w lent X) x v := by
    intro av hv h
    split at h
    · rename_i hd
      obtain ⟨⟨cc, rfl, hcc⟩, _⟩ := coe_sound hv h
      exact ⟨cc, rfl, (hcc.rho (fun b hb => by rw [Ty.deep_refs hd] at hb; cases hb)).mono (Pres.refl _ _) (okX_of_I hls)⟩
    · cases h
  unfold decArg at h
  split at h
  · rename_i b lo n
    have hlent := hl rfl
    unfold decWin at h
    split at h
    · rename_i k
      split at h
      · rename_i N k' l hk
        split at h
        · rename_i hb
          simp only [Bool.and_eq_true] at hb
          obtain rfl := of_decide_eq_true hb.1
          obtain rfl := Option.some.inj h
          obtain ⟨r, cap, h1, h2, h3, h4, h5⟩ := win_lend hM (hls.sub _ _ hk) (Nat.le_of_ble_eq_true hb.2) hv
          rw [h1]
          refine ⟨[.slice (some ⟨r, lo, none⟩) (List.take n (List.drop lo l)).length cap], rfl, some ⟨r, lo, none⟩, cap, rfl, h2, .inr ⟨⟨r, lo, none⟩, rfl, rfl, ⟨⟨h3, .inl hlent⟩, hls.out _ _ _ hk h4⟩, h3, fun i x hx => ?_⟩⟩
          refine ⟨[.int k x], ?_, rfl⟩
          rw [add_none]
          have e : i * (Ty.int k).size = i := Nat.mul_one i
          rw [e]
          exact h5 i x hx
        · cases h
      · cases h
    · cases h
  · rename_i b
    cases t with
    | slice e =>
      simp only [decOwn] at h
      split at h
      · rename_i e' l tid hk
        obtain ⟨he, rfl⟩ := Ty.as?_some h
        cases he
        have hvv := RV_own hv
        subst hvv
        have hlent := hl rfl
        obtain ⟨xs, ⟨h0, hro⟩, hrd⟩ := hM.blks b _ (hls.sub _ _ hk)
        rcases hro with ⟨A0, h1, h2⟩ | ⟨g, cap, cur, h1, hcp, _, h3, h4, h5, h6, h7⟩
        · have hl0 : l = [] := List.eq_nil_of_length_eq_zero h2
          subst hl0
          rw [h1]
          exact ⟨[.slice A0 0 0], rfl, A0, 0, rfl, Nat.le_refl _, .inl rfl⟩
        · have hreal : real (ρ b) = some g := by rw [h1]; exact real_slice hcp
          rw [h1]
          refine ⟨[.slice (some ⟨g, 0, none⟩) l.length cap], rfl, some ⟨g, 0, none⟩, cap, rfl, h4, ?_⟩
          by_cases hl0 : l = []
          · exact .inl hl0
          · have hg : g < w.heap.size := hM.owned_lt (hls.sub _ _ hk) hreal
            refine .inr ⟨⟨g, 0, none⟩, rfl, rfl, ⟨⟨hg, .inl hlent⟩, hls.out _ _ _ hk hreal⟩, hg, fun i y hy => ?_⟩
            have hi : i < l.length := (List.getElem?_eq_some_iff.1 hy).1
            obtain ⟨pre, ci, post, g1, g2, g3, _⟩ := elemAt hrd hi e.zero
            have hyy : l.getD i e.zero = y := by simp only [List.getD]; rw [show l[i]? = some y from hy]; rfl
            rw [hyy] at g3
            refine ⟨ci, ?_, g3.mono (Pres.refl _ _) (okX_of_I hls)⟩
            have hcur : cur.toList = pre ++ ci ++ (post ++ cur.toList.drop (l.length * e.size)) := by
              have := List.take_append_drop (l.length * e.size) cur.toList
              rw [h7, g1] at this
              rw [← List.append_assoc]; exact this.symm
            have := CellsAt_of_row h3 hcur
            rw [g2] at this
            rw [add_none, Nat.zero_add]
            exact this
      · cases h
    | _ => cases h
  · rename_i p
    have hvv := RV_ptr hv
    cases t with
    | ref t' => exact ptr_soundX' hM hls h lent (hl rfl) hvv
    | _ => cases h
  · rename_i g
    have hvv := RV_clo hv
    cases t with
    | fn ps r => exact clo_soundX' hc hM hls h lent (hl rfl) hvv
    | fn2 ps a' b' => exact clo_sound2X' hc hM hls h lent (hl rfl) hvv
    | _ => cases h
  · exact deepcase _ hv h

theorem args_fit (hc : FnsOk cx.P c) (hM : M cx ρ F s a w) (hls : Less cx ρ s hp X) (lent : Bool) {g : List (Nat × Nat)} : ∀ {l : List HArg} {avs : List AV} {vs : List Value}, vs.length = avs.length →
    (∀ (i : Nat) (x : AV) (y : Value), avs[i]? = some x → vs[i]? = some y → RV cx.P ρ w (cx.I ρ s) x y) → matchArgs c hp g l avs → (datLent l avs = true → lent = true) →
    ArgsFit cx.P (fun b => ρ (ren g b)) w (okX cx ρ s w lent X) l vs := by
  intro l
  induction l with
  | nil =>
    intro avs vs hl _ h _
    cases avs with
    | nil => exact List.eq_nil_of_length_eq_zero hl
    | cons _ _ => exact h.elim
  | cons x l ih =>
    intro avs vs hl hall h hlent
    cases avs with
    | nil => cases x <;> exact h.elim
    | cons av avs =>
      cases vs with
      | nil => simp at hl
      | cons v vs =>
        have hl' : vs.length = avs.length := by simpa using hl
        have hall' : ∀ (i : Nat) (x : AV) (y : Value), avs[i]? = some x → vs[i]? = some y → RV cx.P ρ w (cx.I ρ s) x y := fun i x y hx hy => hall (i + 1) x y (by simpa using hx) (by simpa using hy)
        have hv := hall 0 av v rfl rfl
        cases x with
        | lent av0 =>
          obtain ⟨h1, h2⟩ := h
          subst h1
          refine ⟨v, vs, rfl, (RV.ren hv).mono (fun _ _ => rfl) (Pres.refl _ _) (okX_of_I hls), ih hl' hall' h2 fun h => hlent h⟩
        | dat t y =>
          obtain ⟨h1, h2⟩ := h
          refine ⟨v, vs, rfl, arg_soundX hc hM hls hv h1 lent (fun h => hlent ?_), ih hl' hall' h2 fun h => hlent ?_⟩
          · simp only [datLent, h, Bool.true_or]
          · simp only [datLent, h, Bool.or_true]

theorem app_out {ed : List (Nat × Option Blk)} : ∀ {hp : Nat → Option Blk} {b : Nat}, (∀ e ∈ ed, e.1 ≠ b) → app hp ed b = hp b := by
  induction ed with
  | nil => intro hp b _; rfl
  | cons e ed ih =>
    intro hp b h
    show app (upd hp e.1 e.2) ed b = _
    rw [ih (fun e' he' => h e' (List.mem_cons_of_mem _ he')), upd_ne _ _ (fun he => h e List.mem_cons_self he.symm)]

theorem keysB_mem {n : Nat} : ∀ {l : List (Nat × Blk)} {i : Nat}, keysB n i l = true → ∀ b ∈ l, i ≤ b.1 ∧ b.1 < n := by
  intro l
  induction l with
  | nil => intro i _ b hb; cases hb
  | cons b l ih =>
    intro i h b' hb'
    have hlt := (keysB_find h b.1).1 (by unfold find; simp)
    simp only [keysB, Bool.and_eq_true] at h
    rcases List.mem_cons.1 hb' with rfl | hb'
    · exact hlt
    · have := ih h.2 b' hb'
      omega

def edH (g : List (Nat × Nat)) (l : List (Nat × Blk)) : List (Nat × Option Blk) := l.map fun b => (ren g b.1, some (b.2.ren (ren g)))

theorem app_edH {g : List (Nat × Nat)} {n : Nat} (hinj : ∀ i j, i < n → j < n → ren g i = ren g j → i = j) : ∀ {l : List (Nat × Blk)} {i : Nat} {hp : Nat → Option Blk}, keysB n i l = true → ∀ j k, find l j = some k → app hp (edH g l) (ren g j) = some (k.ren (ren g)) := by
  intro l
  induction l with
  | nil => intro i hp _ j k h; cases h
  | cons b l ih =>
    intro i hp h j k hf
    have hmem := keysB_mem h
    have hj := (keysB_find h j).1 (by rw [hf]; simp)
    simp only [keysB, Bool.and_eq_true] at h
    have hb := Nat.eq_of_beq_eq_true h.1
    show app (upd hp (ren g b.1) (some (b.2.ren (ren g)))) (edH g l) (ren g j) = _
    unfold find at hf
    split at hf
    · rename_i hk
      have hk := Nat.eq_of_beq_eq_true hk
      obtain rfl := Option.some.inj hf
      rw [app_out (fun e he => ?_), ← hk, upd_same]
      obtain ⟨b', hb', rfl⟩ := List.mem_map.1 he
      have h1 := keysB_mem h.2 b' hb'
      intro e
      have := hinj b'.1 j h1.2 hj.2 e
      omega
    · exact ih h.2 j k hf

theorem injB_sound {g : List (Nat × Nat)} {n : Nat} (h : injB g n = true) : ∀ i j, i < n → j < n → ren g i = ren g j → i = j := by
  intro i j hi hj e
  have h1 := List.all_eq_true.1 (List.all_eq_true.1 h i (List.mem_range.2 hi)) j (List.mem_range.2 hj)
  simp only [Bool.or_eq_true, Bool.not_eq_true'] at h1
  rcases h1 with h1 | h1
  · exact Nat.eq_of_beq_eq_true h1
  · rw [e] at h1; simp at h1

theorem RB.flat {P : Program} {ρ : Nat → Value} {w : World} {I I' : Nat → Prop} {v : Value} {k : Blk} (hf : (match k with | .cells t _ => t.flat | .row e _ _ => e.flat) = true) (h : RB P ρ w I v k) : RB P ρ w I' v k := by
  cases k with
  | cells t x =>
    obtain ⟨r, tid, cur, h1, h2, h3⟩ := h
    exact ⟨r, tid, cur, h1, h2, h3.flat hf⟩
  | row e l tid =>
    obtain ⟨xs, h1, h2⟩ := h
    exact ⟨xs, h1, Rd.flat (t := .arr l.length e) hf h2⟩
end

section
variable {cx : Cx} {s : St} {o : Oper} {nid : Nat} {c : Ctx}

theorem run_callH {P : Program} {a : Act} {w : World} {x : Operand} {args : List Operand} {ts : Array TypeId} (ho : o.op = .call { callee := .value x, args := args.toArray, argTypes := ts }) {f : FuncId} {caps : Array Value}
    (hx : a.eval x = .func (.func f) #[] caps) : (execOp a.eval o).run P w = (callFunc f ((args.map a.eval).toArray ++ caps)).run P w := by
  simp [execOp, ho, resolve, hx, Deferred.ofValue, invoke]

theorem Rs.vals_of_okH {P : Program} {w w' : World} {ok X : Nat → Prop} {nid : Nat} {rs : Rs} {y : rs.den} {v : Value} (hok : rs.ok P w w' ok X y v) :
    ∃ vs : List Value, rs.vals P w w' ok X y vs ∧ ∀ (ρ' : Nat → Value) (I' : Nat → Prop), Fits P w' ρ' I' (rs.avs nid y) vs → RV P ρ' w' I' (rs.av nid y) v := by
  cases rs with
  | none =>
    obtain ⟨vs, rfl, hvs⟩ := hok
    exact ⟨vs, hvs, fun ρ' I' hfit => ⟨vs, rfl, hfit.1, hfit.2⟩⟩
  | one r =>
    refine ⟨[v], ⟨v, rfl, hok⟩, fun ρ' I' hfit => ?_⟩
    cases r with
    | dp t => exact hfit.2 0 _ _ rfl rfl
    | ow e tid => exact hfit.2 0 _ _ rfl rfl
    | dn e =>
      have hok : RdV _ (.slice e) ρ0 _ _ y v ∧ (y = ([] : List e.den) → v = .slice Option.none 0 0) := hok
      match y, hok, hfit with
      | [], hok, _ => exact hok.2 rfl
      | a :: l, _, hfit => exact hfit.2 0 _ _ rfl rfl
  | more r rs =>
    obtain ⟨vs, rfl, hvs⟩ := hok
    exact ⟨vs, hvs, fun ρ' I' hfit => ⟨vs, rfl, hfit.1, hfit.2⟩⟩

theorem av_norefs {nid : Nat} {rs : Rs} {y : rs.den} (ho : rs.ows = 0) (h : ∀ t ∈ rs.avs nid y, t.t.refs t.x = []) : (rs.av nid y).refs = [] := by
  cases rs with
  | none => rfl
  | one r' =>
    cases r' with
    | dp tt => exact h _ (List.mem_singleton.2 rfl)
    | ow e' tid' => simp [Rs.ows, RT.ows] at ho
    | dn e' =>
      match y, h with
      | [], _ => rfl
      | a :: l, h => exact h _ (List.mem_singleton.2 rfl)
  | more r' rs' =>
    refine List.eq_nil_iff_forall_not_mem.2 fun b hb => ?_
    obtain ⟨tt, ht, hbt⟩ := List.mem_flatMap.1 hb
    rw [h tt ht] at hbt
    cases hbt

theorem ok_pCallH {hp : Nat → Option Blk} (hhp : ∀ b k, hp b = some k → s.hp b = some k) {x : Operand} {args : List Operand} {ts : Array TypeId} {f : FuncId × List Ptr} {h : HSp} {g : List (Nat × Nat)} {X : h.xs.den} {Y : h.ys.den}
    (ho : o.op = .call { callee := .value x, args := args.toArray, argTypes := ts }) (hx : s.ev x = .val .clo f) (hc : FnsOk cx.P c) (hfn : HOk0 cx.P f.1 h) :
    OpOk cx o s nid (pCallH c hp nid h (args.map s.ev ++ f.2.map AV.ofPtr) f.2 g X Y) := by
  unfold pCallH
  split
  · rename_i hb
    simp only [Bool.and_eq_true, Bool.or_eq_true, Bool.not_eq_true'] at hb
    obtain ⟨hokB, hpostB, hinj, hlent, hcaps, _⟩ := hb
    have hinj := injB_sound hinj
    intro ρ F a w next Q hM hnF hob hn
    obtain ⟨hma, hmb, hg⟩ := hob
    have hok1 := hokB
    have hpo1 := hpostB
    simp only [HSp.okB, Bool.and_eq_true] at hok1
    simp only [HSp.postB, Bool.and_eq_true] at hpo1
    obtain ⟨hk0, hr0, _⟩ := hok1
    obtain ⟨hk1, hr1, hdeep, hows⟩ := hpo1
    have hows := Nat.eq_of_beq_eq_true hows
    have hpre : ∀ j k, find (h.pre X) j = some k → s.hp (ren g j) = some (k.ren (ren g)) := by
      intro j k hj
      have := find_of_map (g := fun b : Nat × Blk => some (b.2.ren (ren g))) (h := fun b => hp (ren g b)) hmb hj
      exact hhp _ _ this.symm
    have hin : ∀ j, j < h.np → ∃ k, find (h.pre X) j = some k ∧ s.hp (ren g j) = some (k.ren (ren g)) := fun j hj => by
      obtain ⟨k, hk⟩ := keysB_some hk0 hj
      exact ⟨k, hk, hpre j k hk⟩
    -- the lent blocks
    let Z : Nat → Prop := fun r => ∃ j, j < h.np ∧ real (ρ (ren g j)) = some r
    have hls : Less cx ρ s (lessH g h.np hp) Z := by
      have hsub : ∀ b k, lessH g h.np hp b = some k → s.hp b = some k ∧ ∀ j, j < h.np → ren g j ≠ b := by
        intro b k hbk
        unfold lessH at hbk
        split at hbk
        · cases hbk
        · rename_i hf
          refine ⟨hhp _ _ hbk, fun j hj e => ?_⟩
          have : ((List.range h.np).any fun j => Nat.beq (ren g j) b) = true := List.any_eq_true.2 ⟨j, List.mem_range.2 hj, by rw [e]; exact Nat.beq_refl _⟩
          rw [this] at hf
          cases hf
      refine ⟨fun b k hbk => (hsub b k hbk).1, fun b k r hbk hr ⟨j, hj, hjr⟩ => ?_, fun r ⟨j, hj, hjr⟩ hi => ?_⟩
      · obtain ⟨k', _, hk'⟩ := hin j hj
        exact (hsub b k hbk).2 j hj (hM.sep b (ren g j) _ _ r (hsub b k hbk).1 hk' hr hjr).symm
      · obtain ⟨k', _, hk'⟩ := hin j hj
        exact hi.2 _ _ hk' hjr
    have hcg : ∀ p ∈ f.2, p.good ρ := by
      intro p hp'
      have := List.all_eq_true.1 hcaps p hp'
      split at this
      · rename_i t y hk
        obtain ⟨r, tid, cur, hv, _⟩ := hM.blks p.b _ (hhp _ _ hk)
        exact ⟨⟨r, 0, none⟩, rfl, fun q hq => by unfold Ptr.val; rw [hq, hv]⟩
      · cases this
    have hargs := args_fit (vs := args.map a.eval ++ f.2.map (·.val ρ)) hc hM hls (datLent (h.args X) (args.map s.ev ++ f.2.map AV.ofPtr)) (by simp) (fun i u v hu hv => by
        by_cases hi : i < args.length
        · rw [List.getElem?_append_left (by simpa using hi)] at hu hv
          exact evs_ok hM args i u v hu hv
        · rw [List.getElem?_append_right (by simpa using hi)] at hu hv
          simp only [List.length_map] at hu hv
          rw [List.getElem?_map] at hu hv
          obtain ⟨z, hz, rfl⟩ := Option.map_eq_some_iff.1 hu
          rw [hz] at hv
          obtain rfl := Option.some.inj hv
          exact RV_of_ptr (hcg z (List.mem_of_getElem? hz))) hma (fun h => h)
    generalize hld : datLent (h.args X) (args.map s.ev ++ f.2.map AV.ofPtr) = lent at hlent hargs
    have hinv := hfn w (okX cx ρ s w lent Z) (fun b => ρ (ren g b)) X Y (args.map a.eval ++ f.2.map (·.val ρ))
      (fun b hb => ⟨hb.1.1, fun j hj e => hb.2 ⟨j, hj, e⟩⟩)
      (fun i j r hi hj h1 h2 => by
        obtain ⟨k1, _, hk1⟩ := hin i hi
        obtain ⟨k2, _, hk2⟩ := hin j hj
        exact hinj i j hi hj (hM.sep _ _ _ _ r hk1 hk2 h1 h2))
      (fun j => hM.rho _)
      (fun j k hj => (RB.ren (hM.blks _ _ (hpre j k hj))).mono (fun _ _ => rfl) (Pres.refl _ _) (okX_of_I hls) (fun _ _ => rfl))
      hargs hokB hpostB hg
    unfold Oper.wp
    rw [run_callH ho (RV_clo (by have := (hM.ev x).1; rw [hx] at this; exact this))]
    have e : (args.map a.eval).toArray ++ (f.2.map (·.val ρ)).toArray = (args.map a.eval ++ f.2.map (·.val ρ)).toArray := by simp
    rw [e]
    refine hinv o a next Q fun v w' ⟨X', hblk', hok', hbx⟩ => ?_
    -- the blocks afterwards
    have hkeys : ∀ e ∈ edH g (h.fin X Y), ∃ j, j < h.np ∧ e.1 = ren g j := by
      intro e he
      obtain ⟨b, hb, rfl⟩ := List.mem_map.1 he
      exact ⟨b.1, (keysB_mem hk1 b hb).2, rfl⟩
    have hcase : ∀ b k, app s.hp (edH g (h.fin X Y)) b = some k → (∃ j k', j < h.np ∧ b = ren g j ∧ find (h.fin X Y) j = some k' ∧ k = k'.ren (ren g)) ∨ ((∀ j, j < h.np → b ≠ ren g j) ∧ s.hp b = some k) := by
      intro b k hk
      by_cases hq : ∃ j, j < h.np ∧ b = ren g j
      · obtain ⟨j, hj, rfl⟩ := hq
        obtain ⟨k', hk'⟩ := keysB_some hk1 hj
        rw [app_edH hinj hk1 j k' hk'] at hk
        exact .inl ⟨j, k', hj, rfl, hk', (Option.some.inj hk).symm⟩
      · have hq' : ∀ j, j < h.np → b ≠ ren g j := fun j hj e => hq ⟨j, hj, e⟩
        rw [app_out (fun e he => by
          obtain ⟨j, hj, e1⟩ := hkeys e he
          rw [e1]
          exact fun e2 => hq' j hj e2.symm)] at hk
        exact .inr ⟨hq', hk⟩
    have hdom : ∀ b k, app s.hp (edH g (h.fin X Y)) b = some k → ∃ k0, s.hp b = some k0 := by
      intro b k hk
      rcases hcase b k hk with ⟨j, _, hj, rfl, _⟩ | ⟨_, h2⟩
      · obtain ⟨k0, _, hk0⟩ := hin j hj
        exact ⟨_, hk0⟩
      · exact ⟨_, h2⟩
    have hI : ∀ r, r < w.heap.size → cx.I ρ s r → cx.I ρ ⟨s.sl, app s.hp (edH g (h.fin X Y)), s.ok⟩ r := by
      intro r _ hi
      refine ⟨hi.1, fun b k hk hr => ?_⟩
      obtain ⟨k0, hk0⟩ := hdom b k hk
      exact hi.2 b k0 hk0 hr
    have hkeep : ∀ r, r < w.heap.size → (cx.I ρ s r ∨ (r < cx.w0.heap.size ∧ ¬ cx.E r)) → w'.heap[r]? = w.heap[r]? := by
      intro r hr hh
      refine hbx.block r hr fun ⟨j, hj, hjr⟩ => ?_
      obtain ⟨k0, _, hk0⟩ := hin j hj
      rcases hh with hh | ⟨h1, h2⟩
      · exact hh.2 _ _ hk0 hjr
      · rcases (hM.fresh _ _ r hk0 hjr).1 with h3 | h3
        · exact h3.elim (fun h => by omega) (fun h => h2 (.inr h))
        · exact h2 h3.1
    have hset : ∀ q, q < w'.heap.size → (lent = false) → ((okX cx ρ s w lent Z q ∨ w.heap.size ≤ q) ∧ ¬ X' q) → cx.I ρ ⟨s.sl, app s.hp (edH g (h.fin X Y)), s.ok⟩ q := by
      intro q _ hl hq
      rcases hq.1 with hq | hq
      · exact hI q hq.1.1 (hq.1.2.resolve_left (by rw [hl]; simp))
      · refine ⟨.inr (.inl (Nat.le_trans hM.size hq)), fun b k hk hr => ?_⟩
        obtain ⟨k0, hk0⟩ := hdom b k hk
        have := hM.owned_lt hk0 hr
        omega
    have hpres : Pres (cx.I ρ s) w w' := ⟨hbx.size, fun r hr hi => hkeep r hr (.inl hi)⟩
    have hM' : M cx ρ F ⟨s.sl, app s.hp (edH g (h.fin X Y)), s.ok⟩ a w' := by
      refine M.turn hM s.ok (fun _ _ => rfl) (fun _ h => h) hbx.os hbx.tape hbx.output hbx.size hkeep hI ?_ ?_ ?_ ?_ hM.rho
      · intro b k hk
        rcases hcase b k hk with ⟨j, k', hj, rfl, hk', rfl⟩ | ⟨h1, h2⟩
        · have h3 := hblk' j k' hk'
          cases hl : lent with
          | false => exact RB.unren (h3.mono (fun _ _ => rfl) (Pres.refl _ _) (fun q hq hi => hset q hq hl hi) (fun _ _ => rfl))
          | true =>
            rcases hlent with h4 | h4
            · rw [hl] at h4; cases h4
            · exact RB.unren (RB.flat (List.all_eq_true.1 h4.2 _ (find_mem hk')) h3)
        · exact (hM.blks b k h2).mono (fun _ _ => rfl) hpres hI (fun r hr => hbx.block r (hM.owned_lt h2 hr) fun ⟨j, hj, hjr⟩ => by
            obtain ⟨k0, _, hk0⟩ := hin j hj
            exact h1 j hj (hM.sep b (ren g j) _ _ r h2 hk0 hr hjr))
      · intro b b' k k' r h1 h2 h3 h4
        obtain ⟨k1, hk1⟩ := hdom b k h1
        obtain ⟨k2, hk2⟩ := hdom b' k' h2
        exact hM.sep b b' k1 k2 r hk1 hk2 h3 h4
      · intro b k r h1 h2
        obtain ⟨k1, hk1⟩ := hdom b k h1
        have := hM.fresh b k1 r hk1 h2
        exact ⟨this.1, Nat.lt_of_lt_of_le this.2 hbx.size⟩
      · intro b k hk
        rcases hcase b k hk with ⟨j, k', hj, rfl, hk', rfl⟩ | ⟨h1, h2⟩
        · obtain ⟨k0, _, hk0⟩ := hin j hj
          refine ⟨(hM.brefs _ _ hk0).1, fun d hd => ?_⟩
          obtain ⟨d', hd', rfl⟩ := Blk.ren_refs hd
          have := blt_true (List.all_eq_true.1 (List.all_eq_true.1 hr1 _ (find_mem hk')) d' hd')
          obtain ⟨k1, _, hk1⟩ := hin d' this
          exact (hM.brefs _ _ hk1).1
        · exact hM.brefs b k h2
    obtain ⟨vs, hvs, hfit⟩ := Rs.vals_of_okH (nid := nid) hok'
    obtain ⟨_, h1r, h2⟩ := vals0 (lent := lent) nid hvs hows hdeep (fun hl => by
      rcases hlent with h4 | h4
      · rw [hl] at h4; cases h4
      · exact h4.1)
    have hfits := h2 ρ (cx.I ρ ⟨s.sl, app s.hp (edH g (h.fin X Y)), s.ok⟩) (by
      intro tt yy vv hdp hfl ⟨cc, hcv, hcc⟩
      refine ⟨cc, hcv, ?_⟩
      cases hl : lent with
      | true => exact hcc.flat (hfl hl)
      | false => exact (hcc.rho (fun b hb => by rw [Ty.deep_refs hdp] at hb; cases hb)).mono (Pres.refl _ _) fun q hq hi => hset q hq hl hi)
    have heq : app s.hp (match h.ro with | true => [] | false => (h.post X Y).map (fun b => (ren g b.1, some (b.2.ren (ren g))))) = app s.hp (edH g (h.fin X Y)) := by
      unfold HSp.fin
      cases hro : h.ro with
      | false => rfl
      | true =>
        funext b
        show s.hp b = app s.hp (edH g (h.pre X)) b
        by_cases hq : ∃ j, j < h.np ∧ b = ren g j
        · obtain ⟨j, hj, rfl⟩ := hq
          obtain ⟨k, hk, hk'⟩ := hin j hj
          rw [app_edH hinj hk0 j k hk, hk']
        · rw [app_out (fun e he => by
            obtain ⟨b', hb', rfl⟩ := List.mem_map.1 he
            exact fun e2 => hq ⟨b'.1, (keysB_mem hk0 b' hb').2, e2.symm⟩)]
    refine hn ρ v w' ?_
    show M cx ρ _ ⟨putS cx.n s.sl o.dst _, app s.hp (match h.ro with | true => [] | false => (h.post X Y).map (fun b => (ren g b.1, some (b.2.ren (ren g))))), s.ok⟩ _ w'
    rw [heq]
    refine (M.put hM' o.dst (hfit ρ _ hfits) (fun b hb => ?_) s.ok).widen (fun b hb => .inl hb)
    rw [av_norefs hows h1r] at hb
    cases hb
  · exact bad_ok
end
end Go.Sx
