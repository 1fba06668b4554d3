/- modes, and where a name stands among them. -/
import Derived.Test.YtehfcboiimdkbaaGreatDoorCVget
import Derived.Test.YtehfcboiimdkbaaGreatDoorCShelfI
import Derived.Test.YtehfcboiimdkbaaGreatDoorBM
namespace Go.Proofs.YtehfcboiimdkbaaGreatDoor
set_option linter.unusedSimpArgs false
set_option linter.unusedVariables false
set_option linter.unusedSimpArgs false
set_option linter.unusedVariables false
set_option maxHeartbeats 8000000
open Go.RowKit
set_option maxRecDepth 100000
def mdN : List (List UInt8) := [[115, 101, 116], [97, 100, 100], [114, 101, 112, 108, 97, 99, 101], [97, 112, 112, 101, 110, 100], [112, 114, 101, 112, 101, 110, 100]]
def mdS : List SC := [.s [115, 101, 116], .s [97, 100, 100], .s [114, 101, 112, 108, 97, 99, 101], .s [97, 112, 112, 101, 110, 100], .s [112, 114, 101, 112, 101, 110, 100]]
def mdE : EN := ⟨(9, 0, whole), mdS, true⟩
theorem modes_w (w : World) : Calls Tryz.prog 81 #[] w fun e w' => ∃ g, w.heap.size ≤ g ∧ e = .returned (.slice (some ⟨g, 0, none⟩) 5 5) ∧ w'.heap[g]? = some (.cells (mdN.map fun x => Value.string ⟨x.toArray⟩).toArray 9 (0, 0)) ∧ Below w.heap.size w w' := by
  refine calls_of_Run Tryz.func81 rfl kp81 (S := Non) (ρ := fun _ => reOfV 0) (en := []) [] Tryz.ntmps81 (At.nil _ _ _) (by simp) (by simp) ?_
  intro C hC hP hk
  have hctr := noC_ok hP
  (refine VC_ok hctr (rs := res81) 200 _ _ _ ?_; simp (maxSteps := 1000000) only [VC, qA, qB, qC, qD, qE, qF, qG, qH, qI, qJ, qK, qL, qM, qN, qO, qP, qQ, qR, qS, qT, qU, qV, qW, qX, qY, qZ, qe, qf, qg, qh, qj, qk, ql, qm, qn, qo, qp, qq, q0t, qu, qv, ev, qw, qy, qz, zA, zB, zC, zD, zE, zF, zG, zH, zI, zJ, TE.sv, zK, zL, zM, ↓reduceIte, reduceCtorEq, Value.oneCell', Nat.reduceEqDiff, Nat.reduceAdd, Nat.reduceLT, Nat.reduceBEq, Nat.reduceSub, Nat.reduceLeDiff, zP, zQ, zR, zS, zT, zU, zV, zW, zX, zY, zZ, za, zb, zc, zd, ze, zf, zg, zh, zi, zj, zk, zl, zm, zn, zo, zp, zq, zr, zt, zu, zw, zx, zy, zz, cE, jA, jB, hap, killE, deadOf, rwE, cD, cO, jC, jD, jE, jF, jG, jH, jI, jJ, jK, jL, jM, jN, jO, jP, jQ, jR, jS, jT, jU, jV, jW, jX, jY, hP, hk, res81, kp81, noC, Nat.reduceMul])
  refine Fin_cx (v := .c (.sl 0 0 5 5)) hC hres81 fun ρ w' hw _ _ => ?_
  obtain ⟨k1, k2, k3, k4, k5⟩ := ent_blkV (c := 0) hw.hp hw.ho (by simp) rfl (by decide) (by simp)
  have hm := hw.mu 0 _ _ (by simp) rfl
  have hup := hw.up
  rw [hC] at hm hup
  exact ⟨(ρ 0).blk, hm.resolve_left (fun h => h), by simp [SV.den, SC.den, k3], k1, hup.to_below⟩
theorem modes_h {C : Cx} {nE N : Nat} {mk : Nat → Prop} {en en' : List EN} (hP : C.P = Tryz.prog) (hmk : ∀ q, mk q ↔ q = N) (hn0 : C.n0 ≤ N) (hN : zD en' N = some mdE) (hq : ∀ q, q ≠ N → zD en' q = zD en q) : HCall C nE mk en en' 81 [] (.c (.sl N 0 5 5)) := by
  refine fresh_h (vals := mdN.map fun x => Value.string ⟨x.toArray⟩) (fun args w => by rw [hP]; exact Tryz.call81 args w) hmk hn0 hN hq (by show ¬ (9 : Nat) = DEAD; decide) (fun ρ => rfl) ?_ (fun pr h => h) ?_
  · intro pr x hx
    simp only [mdE, mdS, List.mem_cons, List.not_mem_nil, or_false] at hx
    rcases hx with rfl | rfl | rfl | rfl | rfl <;> trivial
  · intro ρ pr w hw _ _
    rw [hP]
    refine (modes_w w).mono ?_
    rintro z w' ⟨g, h1, rfl, h2, h3⟩
    exact ⟨reOfV g, ⟨rfl, ⟨rfl, rfl⟩, fun _ => ⟨h1, by simpa [reOfV, mdE] using h2⟩, fun h => absurd rfl h, fun h => absurd rfl h⟩, fun ρ' _ hr => by simp [SV.den, SC.den, hr, reOfV], h3⟩
def mdI (name : List UInt8) : Int := Lib.idxOfS (mdN.map fun x => ⟨x.toArray⟩) ⟨name.toArray⟩
theorem index_h {C : Cx} {nE d : Nat} {mk : Nat → Prop} {en : List EN} (name : List UInt8) (hP : C.P = Tryz.prog) (hmk : ∀ q, ¬ mk q) (hd : zD en d = some mdE) : HCall C nE mk en en 80 [.c (.sl d 0 5 5), .c (.s name)] (.c (.i .i64 (mdI name))) := by
  refine soft_h (fun args w => by rw [hP]; exact Tryz.call80 args w) hmk ?_
  intro ρ pr w hw hpr hx
  refine ⟨trivial, ?_⟩
  have hdp : pr d := hx (.c (.sl d 0 5 5)) (by simp)
  rw [hP]
  obtain ⟨k1, k2, k3, k4, k5⟩ := ent_blkV (c := d) hw.hp hw.ho hdp hd (by decide) (by simp [mdS])
  have hi := Tryz.slices_Index_string (ρ d).blk 0 5 5 (mdN.map fun x => ⟨x.toArray⟩) ⟨name.toArray⟩ w (by simp [mdN]) (by decide) (fun j hj => by
    have hj : j < 5 := hj
    have := k1.cell j
    rw [Nat.zero_add, this]
    match j, hj with
    | 0, _ => rfl
    | 1, _ => rfl
    | 2, _ => rfl
    | 3, _ => rfl
    | 4, _ => rfl)
  have e0 : (List.map (SV.den ρ) [.c (.sl d 0 5 5), .c (.s name)]).toArray = #[.slice (some ⟨(ρ d).blk, 0, none⟩) 5 5, .string ⟨name.toArray⟩] := by simp [SV.den, SC.den, k3]
  rw [e0]
  refine hi.mono ?_
  rintro z w' ⟨rfl, rfl⟩
  refine ⟨?_, Below.refl _ _⟩
  rw [List.take_of_length_le (by simp [mdN])]; rfl
theorem mdI_mode {name : List UInt8} (h : name = [115, 101, 116] ∨ name = [97, 100, 100] ∨ name = [114, 101, 112, 108, 97, 99, 101] ∨ name = [97, 112, 112, 101, 110, 100] ∨ name = [112, 114, 101, 112, 101, 110, 100] ∨ name = [99, 97, 115]) :
    (if (0 : Int) < mdI name then mdI name else 0) = modeF name := by
  rcases h with rfl | rfl | rfl | rfl | rfl | rfl <;> decide
theorem four_of {α : Type} {l : List α} (h : l.length = 4) : ∃ a b c d, l = [a, b, c, d] := by
  match l, h with
  | [a, b, c, d], _ => exact ⟨a, b, c, d, rfl⟩
theorem five_of {α : Type} {l : List α} (h : l.length = 5) : ∃ a b c d e, l = [a, b, c, d, e] := by
  match l, h with
  | [a, b, c, d, e], _ => exact ⟨a, b, c, d, e, rfl⟩
theorem sec_get (x : List UInt8) : (signedV x).getD 0 = (secF x).1 := by unfold secF; cases signedV x <;> rfl
theorem cut_sufV {b : List UInt8} {n : Nat} (h : n + 2 ≤ b.length) : Lib.hasSuffix (b.take (n + 2)) [13, 10] = ((b.take (n + 2)).drop n == [13, 10]) ∧ (Lib.hasSuffix (b.take (n + 2)) [13, 10] = true → Lib.trimSuffix (b.take (n + 2)) [13, 10] = b.take n) := by
  have hl : (b.take (n + 2)).length = n + 2 := by rw [List.length_take]; omega
  constructor
  · rw [Bool.eq_iff_iff, beq_iff_eq]
    show ([13, 10] : List UInt8).isSuffixOf _ = true ↔ _
    rw [List.isSuffixOf_iff_suffix, List.suffix_iff_eq_drop, hl]
    exact ⟨fun h => h.symm, fun h => h.symm⟩
  · intro hs
    unfold Lib.trimSuffix
    rw [if_pos hs, hl, List.take_take, Nat.min_eq_left (by simp)]
    simp
end Go.Proofs.YtehfcboiimdkbaaGreatDoor
