/-
  A call that is given an own row for good.
-/
import Derived.Test.YtolkdkhdkfndfaaSxCallH
import Derived.Test.YtolkdkhdkfndfaaSxMem6
namespace Go.Sx
section
variable {cx : Cx} {s : St} {o : Oper} {nid : Nat} {c : Ctx}

theorem ok_pCallG {hp : Nat → Option Blk} (hhp : ∀ b k, hp b = some k → s.hp b = some k) (hE : c.pin = cx.np) {x : Operand} {args : List Operand} {ts : Array TypeId} {f : FuncId × List Ptr} {h : HSp} {g : List (Nat × Nat)} {X : h.xs.den} {Y : h.ys.den}
    (ho : o.op = .call { callee := .value x, args := args.toArray, argTypes := ts }) (hx : s.ev x = .val .clo f) (hc : FnsOk cx.P c) (hfn : GOk cx.P f.1 h) :
    OpOk cx o s nid (pCallG c hp nid h (args.map s.ev ++ f.2.map AV.ofPtr) f.2 g X Y) := by
  unfold pCallG
  split
  · rename_i b0 e l tid b1 e' l' tid' hpre hpost
    split
    · rename_i hb
      simp only [Bool.and_eq_true] at hb
      obtain ⟨he, htid, hfl, hb0, hb1, hnp, _, hpin, hokB, hcaps⟩ := hb
      have hb0 := Nat.eq_of_beq_eq_true hb0
      have hb1 := Nat.eq_of_beq_eq_true hb1
      have htid := Nat.eq_of_beq_eq_true htid
      have hnp := Nat.eq_of_beq_eq_true hnp
      obtain rfl := Ty.same_eq he
      subst hb0 hb1 htid
      split
      · rename_i k0 hk0
        intro ρ F a w next Q hM hnF hob hn
        obtain ⟨hma, hmb, hg⟩ := hob
        have hf0 : find (h.pre X) 0 = some (.row e l tid) := by rw [hpre]; rfl
        have hk : s.hp (ren g 0) = some (.row e l tid) := by
          have := find_of_map (g := fun b : Nat × Blk => some (b.2.ren (ren g))) (h := fun b => hp (ren g b)) hmb hf0
          exact hhp _ _ this.symm
        let Z : Nat → Prop := fun r => real (ρ (ren g 0)) = some r
        have hls : Less cx ρ s (lessH g 1 hp) Z := by
          have hsub : ∀ b k, lessH g 1 hp b = some k → s.hp b = some k ∧ ren g 0 ≠ b := by
            intro b k hbk
            unfold lessH at hbk
            split at hbk
            · cases hbk
            · rename_i hf
              refine ⟨hhp _ _ hbk, fun e => ?_⟩
              have : ((List.range 1).any fun j => Nat.beq (ren g j) b) = true := List.any_eq_true.2 ⟨0, List.mem_range.2 Nat.zero_lt_one, by rw [e]; exact Nat.beq_refl _⟩
              rw [this] at hf
              cases hf
          refine ⟨fun b k hbk => (hsub b k hbk).1, fun b k r hbk hr hjr => ?_, fun r hjr hi => ?_⟩
          · exact (hsub b k hbk).2 (hM.sep b (ren g 0) _ _ r (hsub b k hbk).1 hk hr hjr).symm
          · exact hi.2 _ _ hk hjr
        have hcg : ∀ p ∈ f.2, p.good ρ := by
          intro p hp'
          have := List.all_eq_true.1 hcaps p hp'
          split at this
          · rename_i t y hk
            obtain ⟨r, tid, cur, hv, _⟩ := hM.blks p.b _ (hhp _ _ hk)
            exact ⟨⟨r, 0, none⟩, rfl, fun q hq => by unfold Ptr.val; rw [hq, hv]⟩
          · cases this
        have hargs := args_fit (vs := args.map a.eval ++ f.2.map (·.val ρ)) hc hM hls (datLent (h.args X) (args.map s.ev ++ f.2.map AV.ofPtr)) (by simp) (fun i u v hu hv => by
            by_cases hi : i < args.length
            · rw [List.getElem?_append_left (by simpa using hi)] at hu hv
              exact evs_ok hM args i u v hu hv
            · rw [List.getElem?_append_right (by simpa using hi)] at hu hv
              simp only [List.length_map] at hu hv
              rw [List.getElem?_map] at hu hv
              obtain ⟨z, hz, rfl⟩ := Option.map_eq_some_iff.1 hu
              rw [hz] at hv
              obtain rfl := Option.some.inj hv
              exact RV_of_ptr (hcg z (List.mem_of_getElem? hz))) hma (fun h => h)
        have hinv := hfn w (okX cx ρ s w (datLent (h.args X) (args.map s.ev ++ f.2.map AV.ofPtr)) Z) (fun b => ρ (ren g b)) X Y (args.map a.eval ++ f.2.map (·.val ρ))
          (fun b hb => ⟨hb.1.1, fun e => hb.2 e⟩) (fun j => hM.rho _)
          (fun k hj => by
            rw [hf0] at hj
            obtain rfl := Option.some.inj hj
            exact (RB.ren (k := .row e l tid) (g := ren g) (hM.blks _ _ hk)).mono (fun _ _ => rfl) (Pres.refl _ _) (okX_of_I hls) (fun _ _ => rfl))
          hargs hokB hg
        unfold Oper.wp
        rw [run_callH ho (RV_clo (by have := (hM.ev x).1; rw [hx] at this; exact this))]
        have ee : (args.map a.eval).toArray ++ (f.2.map (·.val ρ)).toArray = (args.map a.eval ++ f.2.map (·.val ρ)).toArray := by simp
        rw [ee]
        refine hinv o a next Q fun v w' hv => ?_
        obtain ⟨⟨xs', hro, hrd⟩, hone, hreal, hbx⟩ := hv e l' tid (by rw [hpost]; rfl)
        have hgr : GrB w w' (real (ρ (ren g 0))) := ⟨⟨hbx.os, hbx.tape.eq, hbx.output, hbx.size, fun k hk hne => hbx.block k hk (fun e => hne e.symm)⟩, hbx.tape.le⟩
        have hgrow := M.grow hM hnF (by rw [← hE]; exact Nat.le_of_ble_eq_true hpin) s.ok hk hgr hro (Rd.flat (t := .arr l'.length e) hfl hrd) hone hreal
        exact hn (upd ρ nid v) v w' (M.put hgrow o.dst (av := .val .own nid) ⟨[v], rfl, by show _ = [upd ρ nid _ nid]; rw [upd_same]⟩ (fun b hb => .inr (List.mem_singleton.1 hb)) s.ok)
      · exact bad_ok
    · exact bad_ok
  · exact bad_ok
end
end Go.Sx
