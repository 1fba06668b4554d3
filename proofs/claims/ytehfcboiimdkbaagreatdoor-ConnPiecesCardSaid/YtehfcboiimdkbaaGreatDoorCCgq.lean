/- Requests of either protocol, as a walk hands them back. -/
import Derived.Test.YtehfcboiimdkbaaGreatDoorCVparse
import Derived.Test.YtehfcboiimdkbaaGreatDoorCEparse
import Derived.Test.YtehfcboiimdkbaaGreatDoorBC
namespace Go.Proofs.YtehfcboiimdkbaaGreatDoor
set_option linter.unusedSimpArgs false
set_option linter.unusedVariables false
open Go.RowKit
set_option maxRecDepth 100000
def gqA (cv fv : Value) (r : Gq) : Value := .agg #[.int .i64 r.kind, cv, .bool r.quiet, .bool r.tokens, .string ⟨r.reply.toArray⟩, .string ⟨r.arg.toArray⟩, .int .i64 r.skip, .bool r.close, .string ⟨r.name.toArray⟩, fv, .string ⟨r.word.toArray⟩]
def gqS (cv fl : SC) (r : Gq) : List SC := [.i .i64 r.kind, cv, .b r.quiet, .b r.tokens, .s r.reply, .s r.arg, .i .i64 r.skip, .b r.close, .s r.name, fl, .s r.word]
def GqV (b : Nat) (w' : World) (v : Value) (r : Gq) : Prop :=
  ∃ r1 r2 : RE, v = gqA (rwOf r1 r.cmds.length) (rwOf r2 r.flags.length) r ∧ RowOk b w' r1 54 16 r.cmds.length (ecV r.cmds) ∧ RowOk b w' r2 9 1 r.flags.length (r.flags.map encW) ∧ (r1.nl = none → r2.nl = none → r1.blk ≠ r2.blk)
theorem GqV.none {b : Nat} {w' : World} {r : Gq} (h1 : r.cmds = []) (h2 : r.flags = []) : GqV b w' (gqA (.slice none 0 0) (.slice none 0 0) r) r := by
  refine ⟨nilR b, nilR b, by rw [h1, h2]; rfl, by rw [h1]; exact RowOk.nil _ _ _ _, by rw [h2]; exact RowOk.nil _ _ _ _, fun h => by cases h⟩
theorem GqV.ofM {b : Nat} {w' : World} {v : Value} {r : Mq} (h : MqV b w' v r) : GqV b w' v (gqM r) := by
  obtain ⟨r1, r2, h1, h2, h3, h4⟩ := h
  exact ⟨r1, r2, h1, h2, h3, h4⟩
theorem GqV.ofT {b : Nat} {w' : World} {v : Value} {r : Rq} (h : ReqV b w' v r) : GqV b w' v (gqT r) := by
  obtain ⟨cv, rfl, hcv⟩ := h
  rcases hcv with ⟨h0, rfl⟩ | ⟨h0, g, cap, rest, rfl, h1, h2, h3, h4, h5⟩
  · refine ⟨nilR b, nilR b, ?_, ?_, RowOk.nil _ _ _ _, fun h => by cases h⟩
    · show rqA _ r = gqA (rwOf (nilR b) r.cmds.length) _ _
      rw [h0]; rfl
    · show RowOk _ _ _ _ _ r.cmds.length (ecV r.cmds)
      rw [h0]; exact RowOk.nil _ _ _ _
  · have hl : (ecV r.cmds).length = r.cmds.length * 16 := by
      rw [← ec_den (fun _ => reOf 0), dens_len]
      exact flatG_len ecS_len _
    have hv : r.cmds.flatMap rcA = ecV r.cmds := rfl
    rw [hv] at h2 h3
    refine ⟨⟨g, [], rest, cap, Option.none⟩, nilR b, rfl, ⟨h1, ⟨hl, .inl ⟨rfl, rfl, ?_, h4, h5⟩⟩, fun _ => h2, fun h => absurd rfl h⟩, RowOk.nil _ _ _ _, fun _ h => by cases h⟩
    show (ecV r.cmds).length + rest.length = cap * 16
    rw [← h3, List.length_append]
def cmG (r : Gq) : EN := rwE 54 16 r.cmds.length (flatG ecS r.cmds)
def flG (r : Gq) : EN := rwE 9 1 r.flags.length (r.flags.map SC.s)
def gqZ (r : Gq) (N : Nat) : List SC := gqS (.rw N r.cmds.length) (.rw (N + 1) r.flags.length) r
theorem gqR_wf {pr : Nat → Prop} {r : Gq} {N : Nat} (h1 : pr N) (h2 : pr (N + 1)) : wfs pr (gqZ r N) := by
  intro z hz
  simp only [gqZ, gqS, List.mem_cons, List.not_mem_nil, or_false] at hz
  rcases hz with rfl | rfl | rfl | rfl | rfl | rfl | rfl | rfl | rfl | rfl | rfl
  case inr.inl => exact h1
  case inr.inr.inr.inr.inr.inr.inr.inr.inr.inl => exact h2
  all_goals trivial
def GPost (w : World) (x : Gq × Int) (e : Ending) (w' : World) : Prop := Below w.heap.size w w' ∧ ∃ v, e = .returned (.tuple #[v, .int .i64 x.2]) ∧ GqV w.heap.size w' v x.1
def pgV (x : Gq × Int) (N : Nat) : SV := .t [.g (gqZ x.1 N), .c (.i .i64 x.2)]
theorem gparse_h {C : Cx} {nE N : Nat} {mk : Nat → Prop} {en en' : List EN} {f : FuncId} {ys : List SV} {x : Gq × Int} (hP : C.P = Tryz.prog) (hent : ∀ args w, (callFunc f args).run Tryz.prog w = .ok (.enter f args) w)
    (H : ∀ (ρ : Nat → RE) w, Upd C.S C.w0 w → Calls Tryz.prog f (ys.map (SV.den ρ)).toArray w (GPost w x)) (hmk : ∀ q, mk q ↔ q = N ∨ q = N + 1) (hn0 : C.n0 ≤ N) (hN : zD en' N = some (cmG x.1)) (hM : zD en' (N + 1) = some (flG x.1)) (hq : ∀ q, q ≠ N → q ≠ N + 1 → zD en' q = zD en q) :
    HCall C nE mk en en' f ys (pgV x N) := by
  refine fresh2_h (N := N) (M := N + 1) (e1 := cmG x.1) (e2 := flG x.1) (vals1 := ecV x.1.cmds) (vals2 := x.1.flags.map encW) (fun args w => by rw [hP]; exact hent args w) hmk (by omega) hn0 (by omega) hN hM hq (by show ¬ (54 : Nat) = DEAD; decide) (by show ¬ (9 : Nat) = DEAD; decide) (fun ρ => ec_den ρ _) (fun ρ => st_den ρ _) (fun pr => ec_wf pr _) (fun pr => st_wf pr _) (fun pr h1 h2 => ?_) ?_
  · intro y hy
    simp only [List.mem_cons, List.not_mem_nil, or_false] at hy
    rcases hy with rfl | rfl
    · exact gqR_wf h1 h2
    · trivial
  · intro ρ pr w hw _ _
    rw [hP]
    refine (H ρ w hw.up).mono ?_
    rintro z w' ⟨hbl, v, rfl, r1, r2, rfl, m1, m2, m3⟩
    refine ⟨r1, r2, m1.made (fun ρ => ec_den ρ _), m2.made (fun ρ => st_den ρ _), m3, fun ρ' _ e1 e2 => ?_, hbl⟩
    rw [← e1, ← e2]; rfl
theorem EnvT.toV {w : World} (h : EnvT w) : EnvTV w := ⟨h.env, h.max⟩
theorem tparse_g {b : List UInt8} {w : World} (hb : b.length ≤ 9223372036854775807) (hE : EnvT w) : Calls Tryz.prog 27 #[.string ⟨b.toArray⟩] w (GPost w (gqT (tParse b).1, (tParse b).2)) := by
  refine (parse_w b hb w hE.toV).mono ?_
  rintro z w' ⟨hbl, v, rfl, h⟩
  exact ⟨hbl, v, rfl, GqV.ofT h⟩
theorem mparse_g {b : List UInt8} {w : World} (hb : b.length ≤ 9223372036854775807) (hE : EnvT w) : Calls Tryz.prog 26 #[.string ⟨b.toArray⟩] w (GPost w (gqM (mParse b).1, (mParse b).2)) := by
  refine (mparse_w b hb w hE).mono ?_
  rintro z w' ⟨hbl, v, rfl, h⟩
  exact ⟨hbl, v, rfl, GqV.ofM h⟩
end Go.Proofs.YtehfcboiimdkbaaGreatDoor
