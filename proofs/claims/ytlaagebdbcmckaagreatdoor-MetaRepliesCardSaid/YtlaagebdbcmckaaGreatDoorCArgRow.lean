/- Arguments that are slices of plain structs (numbers, texts, truths), opened: where each cell lies, and of what kind it is. -/
import Derived.Test.YtlaagebdbcmckaaGreatDoorBK
namespace Go.Proofs.YtlaagebdbcmckaaGreatDoor
set_option linter.unusedSimpArgs false
set_option linter.unusedVariables false
open Go.ChangeShapes Go.WideShapes Go.ChangeAt Go.RowKit Go.Deep

/-- what a cell is -/
inductive KD where
  | i (k : IntKind)
  | s
  | b
def kdOf (P : Program) (t : TypeId) : Option KD := match P.underlying t with
  | some (.int k) => some (.i k)
  | some .string => some .s
  | some .bool => some .b
  | _ => none
def KD.ok : KD → Value → Prop
  | .i k, v => ∃ n, v = .int k n ∧ (Lit.int k n).wf = true
  | .s, v => ∃ l : List UInt8, v = .string ⟨l.toArray⟩ ∧ l.length ≤ maxLen
  | .b, v => ∃ x, v = .bool x
def intV : Value → Int | .int _ n => n | _ => 0
def strV : Value → List UInt8 | .string s => s.data.toList | _ => []
def truV : Value → Bool | .bool b => b | _ => false

section
variable {H : Type} {enc : TypeId × Value → H} {P : Program} {w : World}
theorem kd_cell {t : TypeId} {kd : KD} {v : Value} {held : Bool} {m : Nat} {y : DataW H × List MemPlace} (hk : kdOf P t = some kd) (h : DataW.trod enc P w 0 (fun _ => true) held m t [v] = some y) : kd.ok v := by
  unfold kdOf at hk
  split at hk <;> simp only [Option.some.injEq, reduceCtorEq] at hk <;> subst hk
  · rename_i k hu
    obtain ⟨n, hn, _, hw⟩ := DataW.trod_int hu h
    simp only [List.cons.injEq, and_true] at hn
    exact ⟨n, hn, hw⟩
  · rename_i hu
    obtain ⟨s, hs, _, hl⟩ := DataW.trod_string hu h
    simp only [List.cons.injEq, and_true] at hs
    obtain ⟨⟨l⟩⟩ := s
    exact ⟨l, hs, hl⟩
  · rename_i hu
    obtain ⟨x, hx, _⟩ := DataW.trod_bool hu h
    simp only [List.cons.injEq, and_true] at hx
    exact ⟨x, hx⟩
/-- the kinds of a struct's cells -/
def kinds (P : Program) (e : TypeId) : Option (List (Option KD)) := match P.underlying e with
  | some (.struct fs) => if oneCellFields P fs && P.cellsOf e == fs.size then some (fs.toList.map fun f => kdOf P f.type) else none
  | _ => none
theorem open_rows {base : Nat} {t e : TypeId} {ks : List KD} {v : Value} {d : DataW H} {ps : List MemPlace} (ht : P.underlying t = some (.slice e)) (hks : kinds P e = some (ks.map some)) (hpos : 0 < ks.length) (hv : Value.okWide P w .any base t v) (h : DataW.Trod enc P w 0 (fun _ => true) true t v d ps) :
    ∃ (A : Option Addr) (n c : Nat), v = .slice A n c ∧ n ≤ maxLen ∧ ∀ k, k < n → ∃ b o, A = some ⟨b, o, none⟩ ∧ b < w.heap.size ∧ ∀ j kd, ks[j]? = some kd → ∃ u, w.cell? ⟨b, o + k * ks.length + j, none⟩ = some u ∧ kd.ok u := by
  obtain ⟨a0, len, cap, rfl⟩ := okWide_slice ht hv
  obtain ⟨fuel, hf⟩ := h
  unfold kinds at hks
  split at hks <;> try cases hks
  rename_i fs hu
  split at hks <;> simp only [Option.some.injEq, reduceCtorEq] at hks
  rename_i hone
  simp only [Bool.and_eq_true, beq_iff_eq] at hone
  obtain ⟨A, n, c, hcs, hn, hel⟩ := open_structs ht hu hone.1 hone.2 hf
  have e0 : Value.slice a0 len cap = .slice A n c := by simpa [Value.cells] using hcs
  have hsz : fs.size = ks.length := by have := congrArg List.length hks; simpa using this
  have hat : ∀ (j : Nat) (kd : KD), ks[j]? = some kd → ∃ f, fs[j]? = some f ∧ kdOf P f.type = some kd := fun j kd hj => by
    have h1 : (fs.toList.map fun f => kdOf P f.type)[j]? = (ks.map some)[j]? := by rw [hks]
    rw [List.getElem?_map, List.getElem?_map, hj] at h1
    simp only [Option.map_some, Option.map_eq_some_iff] at h1
    obtain ⟨f, hf1, hf2⟩ := h1
    exact ⟨f, by simpa using hf1, hf2⟩
  refine ⟨A, n, c, e0, hn, fun k hk => ?_⟩
  obtain ⟨k0, hk0⟩ : ∃ k0, ks[0]? = some k0 := ⟨ks[0]'hpos, List.getElem?_eq_getElem _⟩
  obtain ⟨f0, hf0, _⟩ := hat 0 k0 hk0
  obtain ⟨a, ha, hj⟩ := hel 0 (by omega)
  obtain ⟨v0, _, _, hc0, _⟩ := hj 0 f0 hf0
  rw [Nat.zero_mul, Nat.zero_add] at hc0
  obtain ⟨b, o, rfl, hb⟩ := plain_addr hc0
  refine ⟨b, o, ha, hb, fun j kd hjk => ?_⟩
  obtain ⟨f, hf1, hf2⟩ := hat j kd hjk
  obtain ⟨a', ha', hj'⟩ := hel k hk
  rw [ha] at ha'; cases ha'
  obtain ⟨u, y, m, hc, hr⟩ := hj' j f hf1
  rw [hsz, Go.WideShapes.add_plain, ← Nat.add_assoc] at hc
  exact ⟨u, hc, kd_cell hf2 hr⟩
end
end Go.Proofs.YtlaagebdbcmckaaGreatDoor
