/- Adding to and taking from the number of a text: the program and the reference return the same. -/
import Derived.Test.YtjfkfnlnjklcdaaDoorNumsW
namespace Go.Proofs.YtjfkfnlnjklcdaaDoor
open Go.Shelf Go.RowKit

/-- what Add returns -/
def addR (l : List UInt8) (d : Int) : Value := match parseV l with | some n => .tuple #[.string ⟨(decI (IntKind.u64.wrap ((n : Int) + d))).toArray⟩, .bool true] | none => .tuple #[.string ⟨#[]⟩, .bool false]
/-- what Sub returns -/
def subR (l : List UInt8) (d : Int) : Value := match parseV l with | some n => .tuple #[.string ⟨(decI ((n : Int) - min (n : Int) d)).toArray⟩, .bool true] | none => .tuple #[.string ⟨#[]⟩, .bool false]
theorem parseV_lt {l : List UInt8} {n : Nat} (h : parseV l = some n) : n < 18446744073709551616 := by
  unfold parseV at h
  split at h
  · rename_i hh; cases h; exact hh.2.2.2
  · cases h
theorem u64_rng (n : Int) : 0 ≤ IntKind.u64.wrap n ∧ IntKind.u64.wrap n < 18446744073709551616 := by rw [IntKind.wrap_u64]; omega

set_option maxRecDepth 100000 in
set_option maxHeartbeats 1000000 in
theorem add (l : List UInt8) (hl : l.length ≤ 9223372036854775807) (d : Int) (_hd0 : 0 ≤ d) (_hd1 : d < 18446744073709551616) (w : World) (he : Env w) :
    Calls Tryd.prog 27 #[.string ⟨l.toArray⟩, .int .u64 d] w fun e w' => e = .returned (addR l d) ∧ Below w.heap.size w w' := by
  have P := fun w he => parse l hl w he
  cases hp : parseV l with
  | none =>
    have hfin : addR l d = .tuple #[.string ⟨#[]⟩, .bool false] := by unfold addR; rw [hp]
    rw [hfin]
    rw [parseR_none hp] at P
    have PA := Lib.hid P
    clear P hp hfin
    go_enter Tryd.func27, Tryd.ntmps27
    go_wp2_with fail
    refine (PA.out _ he).mono ?_
    rintro e w1 ⟨rfl, b1⟩
    go_wp2_with fail
    go_ret2
    exact ⟨rfl, b1⟩
  | some n =>
    have hn := parseV_lt hp
    have hn0 : (0 : Int) ≤ (n : Int) := by omega
    have hn1 : (n : Int) < 18446744073709551616 := by omega
    rw [parseR_some hp] at P
    have PA := Lib.hid P
    clear P
    have hfin : addR l d = .tuple #[.string ⟨(decI (IntKind.u64.wrap ((n : Int) + d))).toArray⟩, .bool true] := by unfold addR; rw [hp]
    rw [hfin]
    obtain ⟨q, hq⟩ : ∃ q, q = IntKind.u64.wrap ((n : Int) + d) := ⟨_, rfl⟩
    have hr := u64_rng ((n : Int) + d)
    rw [← hq] at hr ⊢
    have T := Lib.hid (fun w htab => textI q hr.1 hr.2 w htab)
    clear hp hfin
    have HQ := Lib.hid hq; clear hq
    go_enter Tryd.func27, Tryd.ntmps27
    go_wp2_with fail
    refine (PA.out _ he).mono ?_
    rintro e w1 ⟨rfl, b1⟩
    go_wp2_with fail
    rw [← HQ.out]
    refine (T.out _ (he.below b1).pow).mono ?_
    rintro e w2 ⟨rfl, b2⟩
    go_wp2_with fail
    go_ret2
    exact ⟨rfl, b1.trans (b2.mono b1.size)⟩

set_option maxRecDepth 100000 in
set_option maxHeartbeats 1000000 in
theorem sub (l : List UInt8) (hl : l.length ≤ 9223372036854775807) (d : Int) (hd0 : 0 ≤ d) (hd1 : d < 18446744073709551616) (w : World) (he : Env w) :
    Calls Tryd.prog 29 #[.string ⟨l.toArray⟩, .int .u64 d] w fun e w' => e = .returned (subR l d) ∧ Below w.heap.size w w' := by
  have P := fun w he => parse l hl w he
  cases hp : parseV l with
  | none =>
    have hfin : subR l d = .tuple #[.string ⟨#[]⟩, .bool false] := by unfold subR; rw [hp]
    rw [hfin]
    rw [parseR_none hp] at P
    have PA := Lib.hid P
    clear P hp hfin
    go_enter Tryd.func29, Tryd.ntmps29
    go_wp2_with fail
    refine (PA.out _ he).mono ?_
    rintro e w1 ⟨rfl, b1⟩
    go_wp2_with fail
    go_ret2
    exact ⟨rfl, b1⟩
  | some n =>
    have hn := parseV_lt hp
    have hn0 : (0 : Int) ≤ (n : Int) := by omega
    have hn1 : (n : Int) < 18446744073709551616 := by omega
    rw [parseR_some hp] at P
    have PA := Lib.hid P
    clear P
    have hfin : subR l d = .tuple #[.string ⟨(decI ((n : Int) - min (n : Int) d)).toArray⟩, .bool true] := by unfold subR; rw [hp]
    rw [hfin]
    have T := Lib.hid (fun w htab => textI ((n : Int) - min (n : Int) d) (by omega) (by omega) w htab)
    clear hp hfin
    go_enter Tryd.func29, Tryd.ntmps29
    go_wp2_with fail
    refine (PA.out _ he).mono ?_
    rintro e w1 ⟨rfl, b1⟩
    go_wp2_with fail
    refine (T.out _ (he.below b1).pow).mono ?_
    rintro e w2 ⟨rfl, b2⟩
    go_wp2_with fail
    go_ret2
    exact ⟨rfl, b1.trans (b2.mono b1.size)⟩

set_option maxRecDepth 100000 in
set_option maxHeartbeats 1000000 in
theorem radd (l : List UInt8) (hl : l.length ≤ 9223372036854775807) (d : Int) (_hd0 : 0 ≤ d) (_hd1 : d < 18446744073709551616) (w : World) :
    Calls Tryd.prog 28 #[.string ⟨l.toArray⟩, .int .u64 d] w fun e w' => e = .returned (addR l d) ∧ Below w.heap.size w w' := by
  have P := fun w => rparse l hl w
  cases hp : parseV l with
  | none =>
    have hfin : addR l d = .tuple #[.string ⟨#[]⟩, .bool false] := by unfold addR; rw [hp]
    rw [hfin]
    rw [parseR_none hp] at P
    have PA := Lib.hid P
    clear P hp hfin
    go_enter Tryd.func28, Tryd.ntmps28
    go_wp2_with fail
    refine (PA.out _).mono ?_
    rintro e w1 ⟨rfl, rfl⟩
    go_wp2_with fail
    go_ret2
    exact ⟨rfl, Below.refl _ _⟩
  | some n =>
    have hn := parseV_lt hp
    have hn0 : (0 : Int) ≤ (n : Int) := by omega
    have hn1 : (n : Int) < 18446744073709551616 := by omega
    rw [parseR_some hp] at P
    have PA := Lib.hid P
    clear P
    have hfin : addR l d = .tuple #[.string ⟨(decI (IntKind.u64.wrap ((n : Int) + d))).toArray⟩, .bool true] := by unfold addR; rw [hp]
    rw [hfin]
    obtain ⟨q, hq⟩ : ∃ q, q = IntKind.u64.wrap ((n : Int) + d) := ⟨_, rfl⟩
    have hr := u64_rng ((n : Int) + d)
    rw [← hq] at hr ⊢
    have T := Lib.hid (fun w => rtextI q hr.1 hr.2 w)
    clear hp hfin
    have HQ := Lib.hid hq; clear hq
    go_enter Tryd.func28, Tryd.ntmps28
    go_wp2_with fail
    refine (PA.out _).mono ?_
    rintro e w1 ⟨rfl, rfl⟩
    go_wp2_with fail
    rw [← HQ.out]
    refine (T.out _).mono ?_
    rintro e w2 ⟨rfl, b2⟩
    go_wp2_with fail
    go_ret2
    exact ⟨rfl, b2⟩

set_option maxRecDepth 100000 in
set_option maxHeartbeats 1000000 in
theorem rsub (l : List UInt8) (hl : l.length ≤ 9223372036854775807) (d : Int) (hd0 : 0 ≤ d) (hd1 : d < 18446744073709551616) (w : World) :
    Calls Tryd.prog 30 #[.string ⟨l.toArray⟩, .int .u64 d] w fun e w' => e = .returned (subR l d) ∧ Below w.heap.size w w' := by
  have P := fun w => rparse l hl w
  cases hp : parseV l with
  | none =>
    have hfin : subR l d = .tuple #[.string ⟨#[]⟩, .bool false] := by unfold subR; rw [hp]
    rw [hfin]
    rw [parseR_none hp] at P
    have PA := Lib.hid P
    clear P hp hfin
    go_enter Tryd.func30, Tryd.ntmps30
    go_wp2_with fail
    refine (PA.out _).mono ?_
    rintro e w1 ⟨rfl, rfl⟩
    go_wp2_with fail
    go_ret2
    exact ⟨rfl, Below.refl _ _⟩
  | some n =>
    have hn := parseV_lt hp
    have hn0 : (0 : Int) ≤ (n : Int) := by omega
    have hn1 : (n : Int) < 18446744073709551616 := by omega
    rw [parseR_some hp] at P
    have PA := Lib.hid P
    clear P
    by_cases hc : (n : Int) < d
    · have hfin : subR l d = .tuple #[.string ⟨(decI 0).toArray⟩, .bool true] := by unfold subR; rw [hp]; simp only [show (n : Int) - min (n : Int) d = 0 by omega]
      rw [hfin]
      have e0 : decI 0 = [48] := by decide +kernel
      rw [e0]
      clear hp hfin e0
      go_enter Tryd.func30, Tryd.ntmps30
      go_wp2_with fail
      refine (PA.out _).mono ?_
      rintro e w1 ⟨rfl, rfl⟩
      go_wp2_with fail
      go_ret2
      exact ⟨rfl, Below.refl _ _⟩
    · have hfin : subR l d = .tuple #[.string ⟨(decI ((n : Int) - d)).toArray⟩, .bool true] := by unfold subR; rw [hp]; simp only [show (n : Int) - min (n : Int) d = ((n : Int) - d) by omega]
      rw [hfin]
      have T := Lib.hid (fun w => rtextI ((n : Int) - d) (by omega) (by omega) w)
      have hc2 : d ≤ (n : Int) := by omega
      clear hp hfin hc hn
      generalize (n : Int) = q at *
      go_enter Tryd.func30, Tryd.ntmps30
      go_wp2_with fail
      refine (PA.out _).mono ?_
      rintro e w1 ⟨rfl, rfl⟩
      go_wp2_with fail
      refine (T.out _).mono ?_
      rintro e w2 ⟨rfl, b2⟩
      go_wp2_with fail
      go_ret2
      exact ⟨rfl, b2⟩
end Go.Proofs.YtjfkfnlnjklcdaaDoor
