/- AuditLost: whatever the input the call returns true, and each argument reads afterwards as it read before. Conditions: the listed package variables hold what the program's text zM (the card ties them to the text). -/
import Derived.Test.YtfpeholdlkfmoaaGreatDoorCards
import Derived.Test.YtfpeholdlkfmoaaGreatDoorTie
import Derived.Test.YtfpeholdlkfmoaaGreatDoorBS00
import Derived.Test.YtfpeholdlkfmoaaGreatDoorBS10
import Derived.Test.YtfpeholdlkfmoaaGreatDoorBS18
import Derived.Test.YtfpeholdlkfmoaaGreatDoorBS20
import Derived.Deep.DeepWitnessRowRef
import Derived.SevenTiedAt
namespace Go.Proofs.YtfpeholdlkfmoaaGreatDoor.lawAuditLost
set_option linter.unusedSimpArgs false
set_option linter.unusedVariables false
open Go.ChangeShapes Go.WideShapes Go.ChangeAt Go.RowKit
open Go.ChangeMaps (open_string)
theorem own : ownKnob Tryz.prog.godebug = none := by kernel_rfl
set_option maxRecDepth 100000 in
theorem contract (H : Type) (enc : TypeId × Value → H) (W : World) (base : Nat) (args : Array Value) (ds gs : List (DataW H)) (before : List MemPlace)
    (hval : ∀ (j : Nat) t v, Tryz.f6.params[j]? = some t → args[j]? = some v → Value.okWide Tryz.prog W .any base t v)
    (hW : DataW.Whole enc Tryz.prog Tryz.f6.params.toList Rows.auditLostSpec.vars false W args.toList ds gs before) (hL : laidMetH Tryz.prog Rows.auditLostRow.laid W) :
    Calls Tryz.prog 6 args W fun e W' => ∃ v, e = .returned v ∧ Rows.auditLostSpec.post enc Tryz.prog Tryz.f6 false true false false W args v W' := by
  have hW' := hW
  obtain ⟨p, q, hA0, hV, hpq, hfz, hnd⟩ := hW
  have hA : DataW.TrodAll enc Tryz.prog W 0 (fun _ => true) true Tryz.f6.params.toList args.toList ds p := hA0
  rw [Tryz.params6] at hA hval
  obtain ⟨v0, vs0, d0, ds0, p0, q0, hargs0, hds0, hps0, h0, r0⟩ := trodAll_cons hA
  obtain ⟨v1, vs1, d1, ds1, p1, q1, hargs1, hds1, hps1, h1, r1⟩ := trodAll_cons r0
  obtain ⟨v2, vs2, d2, ds2, p2, q2, hargs2, hds2, hps2, h2, r2⟩ := trodAll_cons r1
  obtain ⟨hvs, hdn, hpn⟩ := trodAll_nil r2
  have hargs : args.toList = [v0, v1, v2] := by rw [hargs0, hargs1, hargs2, hvs]
  have hds : ds = [d0, d1, d2] := by rw [hds0, hds1, hds2, hdn]
  have hargs' : args = #[v0, v1, v2] := by apply Array.toList_inj.1; rw [hargs]
  have hgs : gs = [] := (trodVars_none hV).1
  have hfn : Rows.auditLostSpec.fn H (ds ++ gs) = { results := [.lit (.bool true)], args := ds } := by rw [hds, hgs]; rfl
  have fin : ∀ W', Below W.heap.size W W' → Rows.auditLostSpec.post enc Tryz.prog Tryz.f6 false true false false W args (.bool true) W' := fun W' hb =>
    law_post (tb := 4) (by kernel_rfl) (by kernel_rfl) (by kernel_rfl) Tryz.underlying4 rfl hW' hfn hb
  subst hargs'
  obtain ⟨A, n, c, cs, hx0, hnm, hcm⟩ := open_cmdl (hval 0 40 v0 rfl rfl) h0
  obtain ⟨A2, n2, c2, hx1, hnm2, hst⟩ := open_stps (hval 1 41 v1 rfl rfl) h1
  obtain ⟨s2, hx2, _⟩ := open_string Tryz.underlying9 (hval 2 9 v2 rfl rfl) h2
  subst hx0; subst hx1; subst hx2
  obtain ⟨⟨key⟩⟩ := s2
  have henv : Env W := env_of_laid (show laidMet Tryz.prog Rows.auditLostRow.laid W from hL)
  have walk := aulos_w (lc := c) (sc := c2) key hcm hst (by unfold maxLen at hnm; omega) (by unfold maxLen at hnm2; omega) henv
  refine walk.mono fun e W' ⟨he, hb⟩ => ?_
  exact ⟨_, he, fin W' hb⟩
noncomputable def laidWorld (os : Os) : World := Go.Proofs.YtfpeholdlkfmoaaGreatDoor.laidWorld os
theorem laid_met (os : Os) : laidMet Tryz.prog Rows.auditLostRow.laid ((laidWorld os).forCall (fun _ _ => 0) ⟨#[], #[.slice none 0 0, .slice none 0 0, .string ⟨#[]⟩], []⟩).memory :=
  laidMet_of_run' 8 (by kernel_rfl) (by kernel_rfl)
theorem reads (os : Os) {H : Type} (enc : TypeId × Value → H) : ∃ places, DataW.whole enc Tryz.prog ((laidWorld os).forCall (fun _ _ => 0) ⟨#[], #[.slice none 0 0, .slice none 0 0, .string ⟨#[]⟩], []⟩).memory Tryz.f6.params.toList Rows.auditLostSpec.vars false #[.slice none 0 0, .slice none 0 0, .string ⟨#[]⟩].toList 8 = some ([.nil, .nil, .lit (.string [])], [], places) :=
  ⟨[], by kernel_rfl⟩
set_option maxRecDepth 100000 in
theorem lifted (os : Os) (started : os.Started) (H : Type) (enc : TypeId × Value → H) (F : Stop.Interp) :
    ReturnsInHanded {} Tryz.checked os 6 .any ((OpenSpec.ofChange Rows.auditLostSpec).preRow enc Tryz.prog Tryz.f6 Rows.auditLostRow.domain false Rows.auditLostRow.laid) (((OpenSpec.ofChange Rows.auditLostSpec).at F).post enc Tryz.prog Tryz.f6 false true false false) := by
  obtain ⟨places, hx⟩ := reads os enc
  refine returnsInHanded_of_row (C := Tryz.checked) (s := OpenSpec.ofChange Rows.auditLostSpec) own started (by kernel_rfl) Tryz.func6
    (witness_row_atRef (enc := enc) (C := Tryz.checked) false (laidWorld os) #[.slice none 0 0, .slice none 0 0, .string ⟨#[]⟩] rfl (by kernel_rfl) (by kernel_rfl) (by kernel_rfl)
      (OpenSpec.preRow_of_cond 8 hx (by kernel_rfl) (fun k hk => by cases hk) (by kernel_rfl) (laid_met os))) ?_
  intro W base args ds gs before hval hW _ _ _ hL _ _
  exact contract H enc W base args ds gs before hval hW hL
theorem said : Rows.AuditLostSaid :=
  OpenClaim.holds_of_cond 6 Tryz.f6 rfl rfl rfl rfl rfl rfl rfl ⟨rfl, rfl, rfl, rfl, rfl⟩ rfl rfl rfl rfl rfl (by kernel_rfl) Tryz.func6 (by kernel_rfl)
    (of_decide_eq_true (by kernel_rfl)) (by unfold Func.isWrapper; first | (rw [if_pos (by decide +kernel)]; kernel_rfl) | (rw [if_neg (by decide +kernel)]; exact ⟨rfl, rfl⟩))
    (fun os started H enc _ F => by rw [OpenClaim.pre_eq_preRow]; exact lifted os started H enc F)
theorem plain (f : FuncId) (fn : Func) (hf : Tryz.pinned.checked.prog.funcNamed "ambry/ambrylaw24.AuditLost" = some f) (hfn : Tryz.pinned.checked.prog.funcs[f]? = some fn) :
    true = Tryz.pinned.checked.prog.looks [] ∧ ∀ (j : Nat) t, fn.params[j]? = some t → Tryz.pinned.checked.prog.wantsStandIn t = false := by
  obtain rfl : f = 6 := Option.some.inj ((show Tryz.prog.funcNamed "ambry/ambrylaw24.AuditLost" = some 6 by kernel_rfl).symm.trans hf) |>.symm
  obtain rfl : fn = Tryz.f6 := (Option.some.inj (Tryz.func6.symm.trans hfn)).symm
  refine ⟨by kernel_rfl, fun j t ht => ?_⟩
  rw [Tryz.params6] at ht
  have hm : t ∈ [40, 41, 9] := by simpa using Array.mem_of_getElem? ht
  have hall : ([40, 41, 9].all fun u => !Tryz.prog.wantsStandIn u) = true := by kernel_rfl
  exact (show Tryz.prog.wantsStandIn t = false by simpa using List.all_eq_true.1 hall t hm)
theorem card : Rows.AuditLostCardSaid :=
  Claim7.holds_tied_plain_at .later [] _ _ _ _ said (fun _ h => by cases h) (by kernel_rfl) (fun _ h => by cases h) auditLost_row_tie rfl ⟨rfl, rfl⟩ (by kernel_rfl) rfl plain (by kernel_rfl)
#print axioms card
end Go.Proofs.YtfpeholdlkfmoaaGreatDoor.lawAuditLost
