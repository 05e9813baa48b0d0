/-
  Other names for the blocks of a call's own.
-/
import Derived.Test.YtolkdkhdkfndfaaSxMem4
namespace Go.Sx

def ren (g : List (Nat × Nat)) (b : Nat) : Nat := match find g b with
  | some c => c
  | none => b

/-- Other names for the blocks of the call's own. -/
def Ty.ren (g : Nat → Nat) : (t : Ty) → t.den → t.den
  | .own, b => g b
  | .ptr, p => ⟨g p.b, p.off, p.i, p.es, p.inner⟩
  | .clo, c => (c.1, c.2.map fun p => ⟨g p.b, p.off, p.i, p.es, p.inner⟩)
  | .pair a b, x => match a.deep && b.deep with
    | true => x
    | false => (a.ren g x.1, b.ren g x.2)
  | .arr _ e, (l : List e.den) => match e.deep with
    | true => l
    | false => l.map (e.ren g)
  | .int _, x => x
  | .bool, x => x
  | .nil, x => x
  | .unit, x => x
  | .slice _, x => x
  | .fn _ _, x => x
  | .fn2 _ _ _, x => x
  | .ref _, x => x

theorem Ty.ren_deep (g : Nat → Nat) : ∀ {t : Ty} (x : t.den), t.deep = true → t.ren g x = x := by
  intro t x h
  cases t with
  | pair a b => simp only [Ty.deep] at h; simp only [Ty.ren, h]
  | arr n e => simp only [Ty.deep] at h; simp only [Ty.ren, h]
  | own => simp [Ty.deep] at h
  | ptr => simp [Ty.deep] at h
  | clo => simp [Ty.deep] at h
  | _ => rfl

theorem map_get {α β : Type} {f : α → β} {l : List α} {i : Nat} {y : α} (h : l[i]? = some y) : (l.map f)[i]? = some (f y) := by rw [List.getElem?_map, h]; rfl

theorem Ptr.val_ren (ρ : Nat → Value) (g : Nat → Nat) (p : Ptr) : (⟨g p.b, p.off, p.i, p.es, p.inner⟩ : Ptr).val ρ = p.val (fun b => ρ (g b)) := rfl

theorem Rd.ren {P : Program} {g : Nat → Nat} : ∀ {t : Ty} {ρ : Nat → Value} {w : World} {I : Nat → Prop} {x : t.den} {c : List Value}, Rd P t false ρ w I (t.ren g x) c → Rd P t false (fun b => ρ (g b)) w I x c := by
  have deep : ∀ {t : Ty} {ρ : Nat → Value} {w : World} {I : Nat → Prop} {x : t.den} {c : List Value}, t.deep = true → Rd P t false ρ w I (t.ren g x) c → Rd P t false (fun b => ρ (g b)) w I x c := by
    intro t ρ w I x c hd h
    rw [Ty.ren_deep g x hd] at h
    exact h.rho fun b hb => by rw [Ty.deep_refs hd] at hb; cases hb
  intro t
  induction t with
  | pair a b iha ihb =>
    intro ρ w I x c h
    cases hd : (a.deep && b.deep) with
    | true => exact deep hd h
    | false =>
      simp only [Ty.ren, hd] at h
      obtain ⟨c1, c2, rfl, h1, h2⟩ := h
      exact ⟨c1, c2, rfl, iha h1, ihb h2⟩
  | arr n e ih =>
    intro ρ w I x c h
    cases hd : e.deep with
    | true => exact deep hd h
    | false =>
      simp only [Ty.ren, hd] at h
      obtain ⟨hl, css, rfl, hn, hall⟩ := h
      exact ⟨(List.length_map ..).symm.trans hl, css, rfl, hn, fun i y c hy hc => ih (hall i _ c (map_get (l := x) hy) hc)⟩
  | own => intro ρ w I x c h; exact h
  | ptr =>
    intro ρ w I x c h
    obtain ⟨h1, ad, hs, hg⟩ := h
    exact ⟨h1, ad, hs, fun q hq => by rw [← Ptr.val_ren]; exact hg _ (by show g q.b = g _; rw [hq])⟩
  | clo =>
    intro ρ w I x c h
    have h : c = [.func (.func x.1) #[] ((x.2.map fun p => (⟨g p.b, p.off, p.i, p.es, p.inner⟩ : Ptr)).map (·.val ρ)).toArray] := h
    show c = _
    rw [h, List.map_map]
    rfl
  | unit => intro ρ w I x c h; exact h
  | int k => intro ρ w I x c h; exact h
  | bool => intro ρ w I x c h; exact h
  | nil => intro ρ w I x c h; exact h
  | slice e _ => intro ρ w I x c h; exact h
  | fn a b _ _ => intro ρ w I x c h; exact h
  | fn2 p a b _ _ _ => intro ρ w I x c h; exact h
  | ref t _ => intro ρ w I x c h; exact h

def AV.ren (g : Nat → Nat) : AV → AV
  | .val t x => .val t (t.ren g x)
  | .tup l => .tup (l.map fun t => ⟨t.t, t.t.ren g t.x⟩)
  | .imm t x off => .imm t x off
  | .nil => .nil
  | .anyb p => .anyb p
  | .win b lo n => .win (g b) lo n
  | .suf b lo k => .suf (g b) lo k
  | .undef => .undef

theorem RV.ren {P : Program} {g : Nat → Nat} {ρ : Nat → Value} {w : World} {I : Nat → Prop} {av : AV} {v : Value} (h : RV P ρ w I (av.ren g) v) : RV P (fun b => ρ (g b)) w I av v := by
  cases av with
  | val t x => obtain ⟨c, rfl, hc⟩ := h; exact ⟨c, rfl, hc.ren⟩
  | imm t x off => exact h
  | anyb p => exact h
  | suf b lo k => exact h
  | win b lo n =>
    obtain ⟨ad, cap, h1, h2, h3⟩ := h
    exact ⟨ad, cap, h1, fun q hq => by rw [← Ptr.val_ren]; exact h2 _ (by show g q.b = g _; rw [hq]), h3⟩
  | nil => exact h
  | undef => trivial
  | tup l =>
    obtain ⟨vs, rfl, hl, hall⟩ := h
    refine ⟨vs, rfl, by simpa using hl, fun i t u ht hu => ?_⟩
    obtain ⟨c, hc, hr⟩ := hall i ⟨t.t, t.t.ren g t.x⟩ u (by rw [List.getElem?_map, ht]; rfl) hu
    exact ⟨c, hc, hr.ren⟩

def Blk.ren (g : Nat → Nat) : Blk → Blk
  | .cells t x => .cells t (t.ren g x)
  | .row e l tid => .row e l tid

theorem RB.ren {P : Program} {g : Nat → Nat} {ρ : Nat → Value} {w : World} {I : Nat → Prop} {k : Blk} {v : Value} (h : RB P ρ w I v (k.ren g)) : RB P (fun b => ρ (g b)) w I v k := by
  cases k with
  | cells t x =>
    obtain ⟨r, tid, cur, h1, h2, h3⟩ := h
    exact ⟨r, tid, cur, h1, h2, h3.ren⟩
  | row e l tid => exact h


/-! And back -/
theorem Ptr.ren_val {ρ : Nat → Value} {g : Nat → Nat} {p : Ptr} {q : Ptr} (h : q.b = g p.b) : q.val ρ = (⟨p.b, q.off, q.i, q.es, q.inner⟩ : Ptr).val (fun b => ρ (g b)) := by
  unfold Ptr.val
  simp only [h]
  rfl

theorem get_map {α β : Type} {f : α → β} {l : List α} {i : Nat} {z : β} (h : (l.map f)[i]? = some z) : ∃ y, l[i]? = some y ∧ z = f y := by
  rw [List.getElem?_map] at h
  obtain ⟨y, h1, h2⟩ := Option.map_eq_some_iff.1 h
  exact ⟨y, h1, h2.symm⟩

theorem Rd.unren {P : Program} {g : Nat → Nat} : ∀ {t : Ty} {ρ : Nat → Value} {w : World} {I : Nat → Prop} {x : t.den} {c : List Value}, Rd P t false (fun b => ρ (g b)) w I x c → Rd P t false ρ w I (t.ren g x) c := by
  have deep : ∀ {t : Ty} {ρ : Nat → Value} {w : World} {I : Nat → Prop} {x : t.den} {c : List Value}, t.deep = true → Rd P t false (fun b => ρ (g b)) w I x c → Rd P t false ρ w I (t.ren g x) c := by
    intro t ρ w I x c hd h
    rw [Ty.ren_deep g x hd]
    exact h.rho fun b hb => by rw [Ty.deep_refs hd] at hb; cases hb
  intro t
  induction t with
  | pair a b iha ihb =>
    intro ρ w I x c h
    cases hd : (a.deep && b.deep) with
    | true => exact deep hd h
    | false =>
      obtain ⟨c1, c2, rfl, h1, h2⟩ := h
      simp only [Ty.ren, hd]
      exact ⟨c1, c2, rfl, iha h1, ihb h2⟩
  | arr n e ih =>
    intro ρ w I x c h
    cases hd : e.deep with
    | true => exact deep hd h
    | false =>
      obtain ⟨hl, css, rfl, hn, hall⟩ := h
      simp only [Ty.ren, hd]
      refine ⟨(List.length_map ..).trans hl, css, rfl, hn, fun i y c hy hc => ?_⟩
      obtain ⟨z, hz, rfl⟩ := get_map (l := x) hy
      exact ih (hall i z c hz hc)
  | own => intro ρ w I x c h; exact h
  | ptr =>
    intro ρ w I x c h
    obtain ⟨h1, ad, hs, hg⟩ := h
    exact ⟨h1, ad, hs, fun q hq => by rw [Ptr.ren_val (ρ := ρ) (g := g) (p := x) hq]; exact hg _ rfl⟩
  | clo =>
    intro ρ w I x c h
    have h : c = [.func (.func x.1) #[] (x.2.map (·.val fun b => ρ (g b))).toArray] := h
    show c = [.func (.func x.1) #[] ((x.2.map fun p => (⟨g p.b, p.off, p.i, p.es, p.inner⟩ : Ptr)).map (·.val ρ)).toArray]
    rw [h, List.map_map]
    rfl
  | unit => intro ρ w I x c h; exact h
  | int k => intro ρ w I x c h; exact h
  | bool => intro ρ w I x c h; exact h
  | nil => intro ρ w I x c h; exact h
  | slice e _ => intro ρ w I x c h; exact h
  | fn a b _ _ => intro ρ w I x c h; exact h
  | fn2 p a b _ _ _ => intro ρ w I x c h; exact h
  | ref t _ => intro ρ w I x c h; exact h

theorem RB.unren {P : Program} {g : Nat → Nat} {ρ : Nat → Value} {w : World} {I : Nat → Prop} {k : Blk} {v : Value} (h : RB P (fun b => ρ (g b)) w I v k) : RB P ρ w I v (k.ren g) := by
  cases k with
  | cells t x =>
    obtain ⟨r, tid, cur, h1, h2, h3⟩ := h
    exact ⟨r, tid, cur, h1, h2, h3.unren⟩
  | row e l tid => exact h

theorem Ty.ren_refs {g : Nat → Nat} : ∀ {t : Ty} {x : t.den} {c : Nat}, c ∈ t.refs (t.ren g x) → ∃ b ∈ t.refs x, c = g b := by
  have deep : ∀ {t : Ty} {x : t.den} {c : Nat}, t.deep = true → c ∈ t.refs (t.ren g x) → ∃ b ∈ t.refs x, c = g b := by
    intro t x c hd h
    rw [Ty.deep_refs hd] at h
    cases h
  intro t
  induction t with
  | pair a b iha ihb =>
    intro x c h
    cases hd : (a.deep && b.deep) with
    | true => exact deep hd h
    | false =>
      simp only [Ty.ren, hd, Ty.refs, List.mem_append] at h ⊢
      rcases h with h | h
      · obtain ⟨d, h1, h2⟩ := iha h
        exact ⟨d, .inl h1, h2⟩
      · obtain ⟨d, h1, h2⟩ := ihb h
        exact ⟨d, .inr h1, h2⟩
  | arr n e ih =>
    intro x c h
    cases hd : e.deep with
    | true => exact deep hd h
    | false =>
      have h : c ∈ (if e.deep then [] else (List.map (e.ren g) x).flatMap e.refs) := by
        have e1 : (Ty.arr n e).ren g x = List.map (e.ren g) x := by simp only [Ty.ren, hd]; rfl
        rw [e1] at h
        exact h
      rw [hd] at h
      obtain ⟨y, hy, hc⟩ := List.mem_flatMap.1 h
      obtain ⟨z, hz, rfl⟩ := List.mem_map.1 hy
      obtain ⟨d, h1, h2⟩ := ih hc
      refine ⟨d, ?_, h2⟩
      show d ∈ (if e.deep then [] else List.flatMap e.refs x)
      rw [hd]
      exact List.mem_flatMap.2 ⟨z, hz, h1⟩
  | own =>
    intro x c h
    have h : c ∈ [g x] := h
    exact ⟨x, List.mem_singleton.2 rfl, List.mem_singleton.1 h⟩
  | ptr =>
    intro x c h
    have h : c ∈ [g x.b] := h
    exact ⟨x.b, List.mem_singleton.2 rfl, List.mem_singleton.1 h⟩
  | clo =>
    intro x c h
    have h : c ∈ (x.2.map fun p => (⟨g p.b, p.off, p.i, p.es, p.inner⟩ : Ptr)).map (·.b) := h
    rw [List.map_map] at h
    obtain ⟨p, hp, rfl⟩ := List.mem_map.1 h
    exact ⟨p.b, List.mem_map_of_mem (f := fun p : Ptr => p.b) hp, rfl⟩
  | _ => intro x c h; cases h

theorem Blk.ren_refs {g : Nat → Nat} {k : Blk} {c : Nat} (h : c ∈ (k.ren g).refs) : ∃ b ∈ k.refs, c = g b := by
  cases k with
  | cells t x => exact Ty.ren_refs h
  | row e l tid => cases h
theorem Blk.ren_isC {g : Nat → Nat} {k : Blk} : (k.ren g).isC = k.isC := by cases k <;> rfl

theorem find_of_map {α γ : Type} {g : Nat × α → γ} {h : Nat → γ} : ∀ {l : List (Nat × α)}, l.map g = l.map (fun x => h x.1) → ∀ {k : Nat} {x : α}, find l k = some x → g (k, x) = h k := by
  intro l
  induction l with
  | nil => intro _ k x h; cases h
  | cons y l ih =>
    intro he k x hx
    simp only [List.map_cons, List.cons.injEq] at he
    unfold find at hx
    split at hx
    · rename_i hk
      have hk := Nat.eq_of_beq_eq_true hk
      obtain rfl := Option.some.inj hx
      rw [← hk]; exact he.1
    · exact ih he.2 hx


end Go.Sx
