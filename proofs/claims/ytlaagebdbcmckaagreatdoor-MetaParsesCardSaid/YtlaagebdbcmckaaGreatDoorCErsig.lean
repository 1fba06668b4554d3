/- (from XRSigned) Signed: the reference's reader of numbers with a sign returns the same. -/
import Derived.Test.YtlaagebdbcmckaaGreatDoorBE
import Derived.Test.YtlaagebdbcmckaaGreatDoorCErnum
namespace Go.Proofs.YtlaagebdbcmckaaGreatDoor
set_option linter.unusedSimpArgs false
set_option linter.unusedVariables false
open Go.Shelf Go.RowKit
theorem parseV_inv {l : List UInt8} {n : Nat} (h : parseV l = some n) : l ≠ [] ∧ l.length ≤ 20 ∧ allDgt l = true ∧ valOf l = n ∧ n < 18446744073709551616 := by
  unfold parseV at h
  split at h
  · rename_i hh; cases h; exact ⟨hh.1, hh.2.1, hh.2.2.1, rfl, hh.2.2.2⟩
  · cases h
theorem signedV_none {l : List UInt8} (h : parseV (unsig l) = none) : signedV l = none := by
  unfold signedV
  rw [if_neg]
  rintro ⟨h0, h1, h2, h3⟩
  have := val19 _ h1 h2
  rw [parseV_all _ h0 (by omega) h2 (by omega)] at h
  cases h
theorem signedV_some {l : List UInt8} {n : Nat} (h : parseV (unsig l) = some n) (h1 : (unsig l).length ≤ 19) (h2 : n < 9223372036854775808 ∨ isNeg l = true ∧ n = 9223372036854775808) : signedV l = some (if isNeg l then -(n : Int) else (n : Int)) := by
  obtain ⟨a, _, c, e, _⟩ := parseV_inv h
  subst e
  unfold signedV
  rw [if_pos ⟨a, h1, c, h2⟩]
theorem signedV_out {l : List UInt8} {n : Nat} (h : parseV (unsig l) = some n) (h1 : ¬ ((unsig l).length ≤ 19 ∧ (n < 9223372036854775808 ∨ isNeg l = true ∧ n = 9223372036854775808))) : signedV l = none := by
  obtain ⟨a, _, c, e, _⟩ := parseV_inv h
  subst e
  unfold signedV
  rw [if_neg (fun ⟨_, x, _, y⟩ => h1 ⟨x, y⟩)]
theorem i64_neg (n : Int) (h0 : 0 ≤ n) (h1 : n ≤ 9223372036854775808) : wrap64 (IntKind.u64.wrap (-n)) = -n := by unfold wrap64; rw [IntKind.wrap_u64]; omega
theorem i64_pos (n : Int) (h0 : 0 ≤ n) (h1 : n < 9223372036854775808) : wrap64 n = n := by unfold wrap64; omega
theorem w63 : wrap64 (IntKind.u64.wrap (-9223372036854775808)) = -9223372036854775808 := by decide +kernel
theorem ret_pair {k : IntKind} {a b : Int} (h : a = b) : Ending.returned (.tuple #[.int k a, .bool true]) = .returned (.tuple #[.int k b, .bool true]) := by rw [h]
theorem tail_one (r : List UInt8) : (⟨((45 : UInt8) :: r).toArray⟩ : ByteArray).extract 1 (⟨((45 : UInt8) :: r).toArray⟩ : ByteArray).size = ⟨r.toArray⟩ := by
  apply ByteArray.ext
  apply Array.toList_inj.1
  rw [Go.Lib.extract_to_end]
  rfl
set_option maxHeartbeats 1000000 in
set_option maxRecDepth 100000 in
theorem rsigned_neg (r : List UInt8) (hl : r.length ≤ 9223372036854775806) (w : World) :
    Calls Tryz.prog 114 #[.string ⟨((45 : UInt8) :: r).toArray⟩] w fun e w' => e = .returned (signedR (45 :: r)) ∧ w = w' := by
  have hsl : ∀ W, (Instr.slice 9 (.string ⟨((45 : UInt8) :: r).toArray⟩) (some (.int .i64 1)) none none).run Tryz.prog W = .ok (.string ⟨r.toArray⟩) W := fun W => by
    rw [run_slice_string_l (P := Tryz.prog) W 9 ⟨((45 : UInt8) :: r).toArray⟩ Tryz.underlying9 .i64 1 (by omega) (by show (1 : Int) ≤ ((((45 : UInt8) :: r).toArray.size : Nat) : Int); simp; omega)]
    exact congrArg (fun b => Result.ok (Value.string b) W) (tail_one r)
  have hb45 : ((((⟨((45 : UInt8) :: r).toArray⟩ : ByteArray)[0]'(by show 0 < (((45 : UInt8) :: r).toArray).size; simp)).toNat : Nat) : Int) = 45 := rfl
  have P := fun w => rparse r (by omega) w
  have hu : unsig (45 :: r) = r := rfl
  cases hp : parseV r with
  | none =>
    rw [signedR_none (signedV_none (by rw [hu]; exact hp))]
    rw [parseR_none hp] at P
    have PA := Lib.hid P
    clear P hp hu
    go_enter Tryz.func114, Tryz.ntmps114
    go_wp2_with fail
    refine (PA.out _).mono ?_
    rintro e w1 ⟨rfl, rfl⟩
    go_wp2_with fail
    go_ret2
    exact ⟨rfl, rfl⟩
  | some n =>
    obtain ⟨_, hlen, _, _, hn⟩ := parseV_inv hp
    rw [parseR_some hp] at P
    have PA := Lib.hid P
    clear P
    by_cases h1 : r.length ≤ 19
    · have h1' : (r.length : Int) ≤ 19 := by omega
      by_cases h2 : n ≤ 9223372036854775808
      · rw [signedR_some (signedV_some (l := 45 :: r) hp h1 (by rcases Nat.lt_or_ge n 9223372036854775808 with h | h; exact .inl h; exact .inr ⟨rfl, by omega⟩)), if_pos (show isNeg (45 :: r) = true from rfl)]
        by_cases h3 : n = 9223372036854775808
        · have h2' : (n : Int) ≤ 9223372036854775808 := by omega
          have h2b : ((n : Int) == 9223372036854775808) = true := by rw [beq_iff_eq]; omega
          have HQ := Lib.hid (show (n : Int) = 9223372036854775808 by omega)
          clear hp hu h1 h2 hn hlen h3
          generalize (n : Int) = q at *
          go_enter Tryz.func114, Tryz.ntmps114
          go_wp2_with fail
          refine (PA.out _).mono ?_
          rintro e w1 ⟨rfl, rfl⟩
          go_wp2_with fail
          go_ret2
          exact ⟨by rw [HQ.out]; exact ret_pair w63, rfl⟩
        · have h2' : (n : Int) < 9223372036854775808 := by omega
          have h2b : ((n : Int) == 9223372036854775808) = false := by rw [beq_eq_false_iff_ne]; omega
          have h0' : 0 ≤ (n : Int) := by omega
          have hw := i64_neg n h0' (by omega)
          have HW := Lib.hid hw
          clear hp hu hw h1 h2 hn hlen h3
          generalize (n : Int) = q at *
          go_enter Tryz.func114, Tryz.ntmps114
          go_wp2_with fail
          refine (PA.out _).mono ?_
          rintro e w1 ⟨rfl, rfl⟩
          go_wp2_with fail
          go_ret2
          exact ⟨ret_pair HW.out, rfl⟩
      · rw [signedR_none (signedV_out (l := 45 :: r) hp (by rw [hu]; omega))]
        have h2' : 9223372036854775808 < (n : Int) := by omega
        clear hp hu h1 h2 hn hlen
        generalize (n : Int) = q at *
        go_enter Tryz.func114, Tryz.ntmps114
        go_wp2_with fail
        refine (PA.out _).mono ?_
        rintro e w1 ⟨rfl, rfl⟩
        go_wp2_with fail
        go_ret2
        exact ⟨rfl, rfl⟩
    · rw [signedR_none (signedV_out (l := 45 :: r) hp (by rw [hu]; omega))]
      have h1' : 19 < (r.length : Int) := by omega
      clear hp hu h1 hn hlen
      generalize (n : Int) = q at *
      go_enter Tryz.func114, Tryz.ntmps114
      go_wp2_with fail
      refine (PA.out _).mono ?_
      rintro e w1 ⟨rfl, rfl⟩
      go_wp2_with fail
      go_ret2
      exact ⟨rfl, rfl⟩
theorem isNeg_byte (c : UInt8) (r : List UInt8) (h : isNeg (c :: r) = false) : (((((⟨(c :: r).toArray⟩ : ByteArray)[0]'(by show 0 < ((c :: r).toArray).size; simp)).toNat : Nat) : Int) == 45) = false := by
  show ((c.toNat : Int) == 45) = false
  unfold isNeg at h
  rw [beq_eq_false_iff_ne] at h ⊢
  intro e
  exact h (UInt8.toNat_inj.1 (show c.toNat = (45 : UInt8).toNat by rw [show (45 : UInt8).toNat = 45 from rfl]; omega))
set_option maxHeartbeats 1000000 in
set_option maxRecDepth 100000 in
theorem rsigned_nil (w : World) :
    Calls Tryz.prog 114 #[.string ⟨#[]⟩] w fun e w' => e = .returned (signedR []) ∧ w = w' := by
  have P := fun w => rparse [] (by decide) w
  rw [parseR_none (parseV_len [] (.inl (by decide)))] at P
  rw [signedR_none (signedV_none (l := []) (parseV_len [] (.inl (by decide))))]
  have PA := Lib.hid P
  clear P
  go_enter Tryz.func114, Tryz.ntmps114
  go_wp2_with fail
  refine (PA.out _).mono ?_
  rintro e w1 ⟨rfl, rfl⟩
  go_wp2_with fail
  go_ret2
  exact ⟨rfl, rfl⟩
set_option maxHeartbeats 1000000 in
set_option maxRecDepth 100000 in
theorem rsigned_pos (c : UInt8) (r : List UInt8) (hl : (c :: r).length ≤ 9223372036854775807) (hneg : isNeg (c :: r) = false) (w : World) :
    Calls Tryz.prog 114 #[.string ⟨(c :: r).toArray⟩] w fun e w' => e = .returned (signedR (c :: r)) ∧ w = w' := by
  have hb45 := isNeg_byte c r hneg
  have P := fun w => rparse (c :: r) hl w
  have hu : unsig (c :: r) = c :: r := by unfold unsig; rw [if_neg (by rw [hneg]; decide)]
  have hll : ((c :: r).length : Int) = (r.length : Int) + 1 := by simp
  cases hp : parseV (c :: r) with
  | none =>
    rw [signedR_none (signedV_none (by rw [hu]; exact hp))]
    rw [parseR_none hp] at P
    have PA := Lib.hid P
    clear P hp hu hll hneg
    go_enter Tryz.func114, Tryz.ntmps114
    go_wp2_with fail
    refine (PA.out _).mono ?_
    rintro e w1 ⟨rfl, rfl⟩
    go_wp2_with fail
    go_ret2
    exact ⟨rfl, rfl⟩
  | some n =>
    obtain ⟨_, hlen, _, _, hn⟩ := parseV_inv hp
    rw [parseR_some hp] at P
    have PA := Lib.hid P
    clear P
    have hp' : parseV (unsig (c :: r)) = some n := by rw [hu]; exact hp
    by_cases h1 : (c :: r).length ≤ 19
    · have h1' : (r.length : Int) + 1 ≤ 19 := by omega
      by_cases h2 : n < 9223372036854775808
      · rw [signedR_some (signedV_some (l := c :: r) hp' (by rw [hu]; exact h1) (.inl h2)), if_neg (by rw [hneg]; decide)]
        have h2' : (n : Int) < 9223372036854775808 := by omega
        have h2b : ((n : Int) == 9223372036854775808) = false := by rw [beq_eq_false_iff_ne]; omega
        have h0' : 0 ≤ (n : Int) := by omega
        have hw := i64_pos n h0' h2'
        have HW := Lib.hid hw
        clear hp hp' hu hw h1 h2 hn hlen hll hneg
        generalize (n : Int) = q at *
        go_enter Tryz.func114, Tryz.ntmps114
        go_wp2_with fail
        refine (PA.out _).mono ?_
        rintro e w1 ⟨rfl, rfl⟩
        go_wp2_with fail
        go_ret2
        exact ⟨by first | rfl | exact ret_pair HW.out, rfl⟩
      · rw [signedR_none (signedV_out (l := c :: r) hp' (by rw [hu, hneg]; simp; omega))]
        by_cases h3 : n = 9223372036854775808
        · have h2' : (n : Int) ≤ 9223372036854775808 := by omega
          have h2b : ((n : Int) == 9223372036854775808) = true := by rw [beq_iff_eq]; omega
          clear hp hp' hu h1 h2 hn hlen hll hneg h3
          generalize (n : Int) = q at *
          go_enter Tryz.func114, Tryz.ntmps114
          go_wp2_with fail
          refine (PA.out _).mono ?_
          rintro e w1 ⟨rfl, rfl⟩
          go_wp2_with fail
          go_ret2
          exact ⟨rfl, rfl⟩
        · have h2' : 9223372036854775808 < (n : Int) := by omega
          clear hp hp' hu h1 h2 hn hlen hll hneg h3
          generalize (n : Int) = q at *
          go_enter Tryz.func114, Tryz.ntmps114
          go_wp2_with fail
          refine (PA.out _).mono ?_
          rintro e w1 ⟨rfl, rfl⟩
          go_wp2_with fail
          go_ret2
          exact ⟨rfl, rfl⟩
    · rw [signedR_none (signedV_out (l := c :: r) hp' (by rw [hu]; omega))]
      have h1' : 19 < (r.length : Int) + 1 := by omega
      clear hp hp' hu h1 hn hlen hll hneg
      generalize (n : Int) = q at *
      go_enter Tryz.func114, Tryz.ntmps114
      go_wp2_with fail
      refine (PA.out _).mono ?_
      rintro e w1 ⟨rfl, rfl⟩
      go_wp2_with fail
      go_ret2
      exact ⟨rfl, rfl⟩
theorem rsigned (l : List UInt8) (hl : l.length ≤ 9223372036854775807) (w : World) :
    Calls Tryz.prog 114 #[.string ⟨l.toArray⟩] w fun e w' => e = .returned (signedR l) ∧ w = w' := by
  cases l with
  | nil => exact rsigned_nil w
  | cons c r =>
    cases hn : isNeg (c :: r) with
    | true =>
      obtain ⟨r', e⟩ := isNeg_cons hn
      cases e
      exact rsigned_neg r (by simp at hl; omega) w
    | false => exact rsigned_pos c r hl hn w
end Go.Proofs.YtlaagebdbcmckaaGreatDoor
