/- What a command does to a sorted state, seen by keys; what stays so. No program in sight. -/
import Derived.Test.YtfmpdbngpknmaaaDoorBC
namespace Go.Proofs.YtfmpdbngpknmaaaDoor
set_option linter.unusedSimpArgs false
set_option linter.unusedVariables false
open Go.Lib Go.Op

theorem Sorted.tail {a : It} {l : List It} (h : Sorted (a :: l)) : Sorted l := (List.pairwise_cons.1 h).2
theorem Sorted.head {a : It} {l : List It} (h : Sorted (a :: l)) : ∀ b ∈ l, bytesLess a.key b.key = true := (List.pairwise_cons.1 h).1
theorem atF_cons (a : It) (l : List It) (k : List UInt8) : atF (a :: l) k = if bytesLess a.key k = true then atF l k + 1 else 0 := by
  unfold atF
  rw [List.takeWhile_cons]
  split <;> simp
theorem isF_cons_lt {a : It} {l : List It} {k : List UInt8} (h : bytesLess a.key k = true) : isF (a :: l) k = isF l k := by
  unfold isF
  rw [atF_cons, if_pos h, List.getElem?_cons_succ]
theorem isF_cons_ge {a : It} {l : List It} {k : List UInt8} (h : ¬ bytesLess a.key k = true) : isF (a :: l) k = (a.key == k) := by
  unfold isF
  rw [atF_cons, if_neg h]
  rfl
theorem take_at : ∀ {l : List It} {k : List UInt8}, Sorted l → l.take (atF l k) = l.filter fun x => bytesLess x.key k
  | [], _, _ => by simp
  | a :: l, k, h => by
    rw [atF_cons]
    by_cases hk : bytesLess a.key k = true
    · rw [if_pos hk, List.take_succ_cons, List.filter_cons, if_pos hk, take_at h.tail]
    · rw [if_neg hk, List.take_zero, List.filter_cons, if_neg hk]
      refine (List.filter_eq_nil_iff.2 fun b hb hc => hk ?_).symm
      exact less_trans (h.head b hb) hc
theorem ge_all {a : It} {l : List It} {k : List UInt8} (h : Sorted (a :: l)) (hk : ¬ bytesLess a.key k = true) : (l.filter fun x => bytesLess k x.key) = l := by
  refine List.filter_eq_self.2 fun b hb => ?_
  have h1 := h.head b hb
  by_cases he : bytesLess k a.key = true
  · exact less_trans he h1
  · rw [← less_total a.key k (by simpa using hk) (by simpa using he)]; exact h1
theorem drop_at_not : ∀ {l : List It} {k : List UInt8}, Sorted l → isF l k = false → l.drop (atF l k) = l.filter fun x => bytesLess k x.key
  | [], _, _, _ => by simp
  | a :: l, k, h, hn => by
    rw [atF_cons]
    by_cases hk : bytesLess a.key k = true
    · rw [isF_cons_lt hk] at hn
      rw [if_pos hk, List.drop_succ_cons, List.filter_cons, if_neg (by rw [less_asymm hk]; simp), drop_at_not h.tail hn]
    · rw [isF_cons_ge hk] at hn
      rw [if_neg hk, List.drop_zero, List.filter_cons, ge_all h hk]
      have : bytesLess k a.key = true := Decidable.byContradiction fun hc => by
        rw [less_total a.key k (by simpa using hk) (by simpa using hc)] at hn; simp at hn
      rw [if_pos this]
theorem drop_at_is : ∀ {l : List It} {k : List UInt8}, Sorted l → isF l k = true → l.drop (atF l k + 1) = l.filter fun x => bytesLess k x.key
  | [], _, _, hn => by simp [isF] at hn
  | a :: l, k, h, hn => by
    rw [atF_cons]
    by_cases hk : bytesLess a.key k = true
    · rw [isF_cons_lt hk] at hn
      rw [if_pos hk, List.drop_succ_cons, List.filter_cons, if_neg (by rw [less_asymm hk]; simp), drop_at_is h.tail hn]
    · rw [isF_cons_ge hk] at hn
      have e : a.key = k := by simpa using hn
      rw [if_neg hk, List.drop_succ_cons, List.drop_zero, List.filter_cons, if_neg (by rw [e, less_irrefl]; simp), ge_all h hk]

/-- an item in its place -/
def putL (l : List It) (x : It) : List It := (l.filter fun y => bytesLess y.key x.key) ++ x :: l.filter fun y => bytesLess x.key y.key
/-- without a key's item -/
def rmL (l : List It) (k : List UInt8) : List It := (l.filter fun y => bytesLess y.key k) ++ l.filter fun y => bytesLess k y.key
/-- a key's item -/
def fE (l : List It) (k : List UInt8) : Option It := l.find? fun x => x.key == k
theorem set_at {l : List It} {k : List UInt8} {y : It} (h : Sorted l) (hi : isF l k = true) (hk : y.key = k) : l.set (atF l k) y = putL l y := by
  subst hk
  rw [List.set_eq_take_append_cons_drop, if_pos (isF_lt hi), take_at h, drop_at_is h hi]; rfl
theorem ins_at {l : List It} {k : List UInt8} {y : It} (h : Sorted l) (hi : isF l k = false) (hk : y.key = k) : l.take (atF l k) ++ y :: l.drop (atF l k) = putL l y := by
  subst hk
  rw [take_at h, drop_at_not h hi]; rfl
theorem del_at {l : List It} {k : List UInt8} (h : Sorted l) (hi : isF l k = true) : l.eraseIdx (atF l k) = rmL l k := by
  rw [List.eraseIdx_eq_take_drop_succ, take_at h, drop_at_is h hi]; rfl
theorem rmL_eq : ∀ {l : List It} {k : List UInt8}, Sorted l → rmL l k = l.filter fun y => !(y.key == k)
  | [], _, _ => rfl
  | a :: l, k, h => by
    have ih := rmL_eq (k := k) h.tail
    unfold rmL at ih ⊢
    by_cases hk : bytesLess a.key k = true
    · have hne : (a.key == k) = false := by
        rw [beq_eq_false_iff_ne]; intro e; rw [e, less_irrefl] at hk; cases hk
      rw [List.filter_cons, if_pos hk, List.filter_cons, if_neg (by rw [less_asymm hk]; simp), List.filter_cons, if_pos (by rw [hne]; rfl), List.cons_append, ih]
    · have hnil : (l.filter fun y => bytesLess y.key k) = [] := List.filter_eq_nil_iff.2 fun b hb hc => hk (less_trans (h.head b hb) hc)
      rw [hnil, List.nil_append] at ih
      rw [List.filter_cons, if_neg hk, hnil, List.nil_append, List.filter_cons, List.filter_cons, ← ih]
      by_cases he : bytesLess k a.key = true
      · have hne : (a.key == k) = false := by
          rw [beq_eq_false_iff_ne]; intro e; rw [e, less_irrefl] at he; cases he
        rw [if_pos he, if_pos (by rw [hne]; rfl)]
      · have e := less_total a.key k (by simpa using hk) (by simpa using he)
        rw [if_neg he, if_neg (by rw [e]; simp)]
theorem fE_is : ∀ {l : List It} {k : List UInt8}, Sorted l → isF l k = (fE l k).isSome
  | [], _, _ => rfl
  | a :: l, k, h => by
    have ih := fE_is (k := k) h.tail
    unfold fE at ih ⊢
    rw [List.find?_cons]
    by_cases hk : bytesLess a.key k = true
    · have hne : (a.key == k) = false := by
        rw [beq_eq_false_iff_ne]; intro e; rw [e, less_irrefl] at hk; cases hk
      rw [isF_cons_lt hk, hne, ih]
    · rw [isF_cons_ge hk]
      cases hc : (a.key == k) with
      | true => rfl
      | false =>
        symm
        rw [Option.isSome_eq_false_iff, Option.isNone_iff_eq_none, List.find?_eq_none]
        intro b hb hbk
        have e : b.key = k := by simpa using hbk
        exact hk (e ▸ h.head b hb)
theorem fE_it {l : List It} {k : List UInt8} {x : It} (h : Sorted l) (hx : fE l k = some x) : itF l (atF l k) = x := by
  have hi : isF l k = true := by rw [fE_is h, hx]; rfl
  obtain ⟨y, hy, hyk⟩ := isF_iff.1 hi
  rw [itF_of hy]
  have h1 := List.find?_some hx
  have hxk : x.key = k := by simpa using h1
  obtain ⟨i, hi⟩ := List.mem_iff_getElem?.1 (List.mem_of_find?_eq_some hx)
  rcases Nat.lt_trichotomy (atF l k) i with hlt | heq | hgt
  · have := h.get hy hi hlt
    rw [hyk, hxk, less_irrefl] at this; cases this
  · rw [heq, hi] at hy; exact (Option.some.inj hy).symm
  · have := h.get hi hy hgt
    rw [hyk, hxk, less_irrefl] at this; cases this
theorem fE_key {l : List It} {k : List UInt8} {x : It} (hx : fE l k = some x) : x.key = k := by
  have h1 := List.find?_some hx
  simpa using h1
theorem fE_mem {l : List It} {k : List UInt8} {x : It} (hx : fE l k = some x) : x ∈ l := List.mem_of_find?_eq_some hx

/-! ### a command, by keys -/
/-- an item with the next token -/
def tok (X : St) (x : It) : It := { x with cas := IntKind.u64.wrap (X.cas + 1) }
/-- a state with an item put by the next token -/
def putK' (X : St) (x : It) : St := { X with cas := IntKind.u64.wrap (X.cas + 1), items := putL X.items (tok X x) }
theorem putF_eq {X : St} {k : List UInt8} {x : It} (h : Sorted X.items) (hk : x.key = k) : putF X (atF X.items k) (isF X.items k) x = (putK' X x, tok X x) := by
  unfold putF putK'
  cases hi : isF X.items k with
  | true => simp only [if_true]; rw [set_at h hi (by exact hk)]; rfl
  | false => simp only [Bool.false_eq_true, if_false]; rw [ins_at h hi (by exact hk)]; rfl

def getK (X : St) (now : Int) (c : Cd) : Option It → St × An
  | some x => ({ X with items := putL X.items (gotF now c x) }, ⟨1, gotF now c x, 0, winB now c x, x.stale, x.won⟩)
  | none => if c.viv then (putK' X ⟨c.key, 0, [], momF now c.vive, 0, 0, false, true⟩, ⟨1, tok X ⟨c.key, 0, [], momF now c.vive, 0, 0, false, true⟩, 0, true, false, false⟩) else (X, toldF 5)
theorem newF_key {now : Int} {c : Cd} {x : It} {b : Bool} (h : c.mode = 3 ∨ c.mode = 4 → x.key = c.key) : (newF now c x b).key = c.key := by
  unfold newF
  split
  · rename_i hm; exact h (.inl hm)
  · split
    · rename_i hm; exact h (.inr hm)
    · rfl
def fitK (X : St) (most : Int) (st : Int) (num : Int) (x : It) : St × An := if fitsB most x then (putK' X x, ⟨st, tok X x, num, false, false, false⟩) else (X, toldF 11)
def stoK (X : St) (now : Int) (c : Cd) (most : Int) : Option It → St × An
  | some x =>
    if c.mode = 1 then (X, toldF 3)
    else if (otherB c x && !(c.inval && decide (c.cas < x.cas))) = true then (X, toldF 4)
    else fitK X most 2 0 (newF now c x (otherB c x))
  | none =>
    if 1 < c.mode then (X, toldF 3)
    else if c.hasCas then (X, toldF 5)
    else fitK X most 2 0 (newF now c It.zero false)
def mathK (X : St) (now : Int) (c : Cd) (most : Int) : Option It → St × An
  | some x =>
    if otherB c x then (X, toldF 4)
    else match (if c.down then subV x.val c.delta else addV x.val c.delta) with
      | none => (X, toldF 7)
      | some v => fitK X most 6 ((parseV v).getD 0 : Nat) { x with val := v, exp := if c.hasExp then momF now c.exp else x.exp }
  | none => if c.viv then fitK X most 6 ((parseV (decDigits c.init.toNat)).getD 0 : Nat) ⟨c.key, 0, decDigits c.init.toNat, momF now c.vive, 0, 0, false, false⟩ else (X, toldF 5)
def touchK (X : St) (now : Int) (c : Cd) : Option It → St × An
  | some x => ({ X with items := putL X.items { x with exp := momF now c.exp } }, ⟨8, { x with exp := momF now c.exp }, 0, false, false, false⟩)
  | none => (X, toldF 5)
def lookK (X : St) : Option It → St × An
  | some x => (X, ⟨1, x, 0, false, false, false⟩)
  | none => (X, toldF 5)
def removeK (X : St) (now : Int) (c : Cd) : Option It → St × An
  | some x =>
    if otherB c x then (X, toldF 4)
    else if c.inval then (putK' X (goneF now c x), ⟨9, tok X (goneF now c x), 0, false, false, false⟩)
    else ({ X with items := rmL X.items c.key }, toldF 9)
  | none => (X, toldF 5)
def doK (X : St) (now : Int) (c : Cd) (most : Int) (o : Option It) : St × An :=
  if c.op = 1 then getK X now c o
  else if c.op = 2 then stoK X now c most o
  else if c.op = 3 then mathK X now c most o
  else if c.op = 4 then touchK X now c o
  else if c.op = 7 then lookK X o
  else if c.op = 5 then removeK X now c o
  else flushF X now c
theorem numPut_eq {X : St} {k : List UInt8} {x : It} {most : Int} (h : Sorted X.items) (hk : x.key = k) : numPut X most (atF X.items k) (isF X.items k) x = fitK X most 6 ((parseV x.val).getD 0 : Nat) x := by
  unfold numPut fitK
  rw [putF_eq h hk]
theorem doK_eq {X : St} {now : Int} {c : Cd} {most : Int} (h : Sorted X.items) : doF X now c most (atF X.items c.key) (isF X.items c.key) = doK X now c most (fE X.items c.key) := by
  have hw : ∀ x, fE X.items c.key = some x → isF X.items c.key = true ∧ itF X.items (atF X.items c.key) = x ∧ x.key = c.key := fun x hx => ⟨by rw [fE_is h, hx]; rfl, fE_it h hx, fE_key hx⟩
  have hn : fE X.items c.key = none → isF X.items c.key = false := fun hx => by rw [fE_is h, hx]; rfl
  unfold doF doK
  by_cases h1 : c.op = 1
  · rw [if_pos h1, if_pos h1]
    unfold getF
    cases hx : fE X.items c.key with
    | some x =>
      obtain ⟨e1, e2, e3⟩ := hw x hx
      rw [e1, if_pos rfl, e2, set_at h e1 (show (gotF now c x).key = c.key from e3)]
      rfl
    | none =>
      have e1 := hn hx
      have hp := putF_eq (X := X) (k := c.key) (x := ⟨c.key, 0, [], momF now c.vive, 0, 0, false, true⟩) h rfl
      rw [e1] at hp ⊢
      rw [hp]; rfl
  rw [if_neg h1, if_neg h1]
  by_cases h2 : c.op = 2
  · rw [if_pos h2, if_pos h2]
    unfold storeF
    cases hx : fE X.items c.key with
    | some x =>
      obtain ⟨e1, e2, e3⟩ := hw x hx
      have hp := putF_eq (X := X) (k := c.key) (x := newF now c x (otherB c x)) h (newF_key fun _ => e3)
      rw [e1] at hp ⊢
      simp only [e2, Bool.and_true, Bool.not_true, Bool.and_false, Bool.or_false, Bool.true_and, Bool.false_eq_true, if_false, decide_eq_true_eq, hp, stoK, fitK]
    | none =>
      have e1 := hn hx
      have hp : ¬ (decide (1 < c.mode) = true) → putF X (atF X.items c.key) (isF X.items c.key) (newF now c (itF X.items (atF X.items c.key)) false) = (putK' X (newF now c It.zero false), tok X (newF now c It.zero false)) := by
        intro hm
        have hm' : ¬ 1 < c.mode := by simpa using hm
        have en : newF now c (itF X.items (atF X.items c.key)) false = newF now c It.zero false := by
          unfold newF; rw [if_neg (by omega), if_neg (by omega), if_neg (by omega), if_neg (by omega)]
        rw [en, putF_eq h (newF_key fun hh => by omega)]
      rw [e1] at hp ⊢
      simp only [Bool.and_false, Bool.not_false, Bool.and_true, Bool.false_or, Bool.false_and, Bool.false_eq_true, if_false, decide_eq_true_eq, stoK]
      by_cases hm : 1 < c.mode
      · rw [if_pos hm, if_pos hm]
      rw [if_neg hm, if_neg hm]
      have hp' := hp (by simpa using hm)
      have en : newF now c (itF X.items (atF X.items c.key)) false = newF now c It.zero false := by
        unfold newF; rw [if_neg (by omega), if_neg (by omega), if_neg (by omega), if_neg (by omega)]
      rw [hp', en]
      rfl
  rw [if_neg h2, if_neg h2]
  by_cases h3 : c.op = 3
  · rw [if_pos h3, if_pos h3]
    unfold mathF
    cases hx : fE X.items c.key with
    | some x =>
      obtain ⟨e1, e2, e3⟩ := hw x hx
      have hp := fun (v : List UInt8) (e : Int) => numPut_eq (X := X) (k := c.key) (most := most) (x := { x with val := v, exp := e }) h e3
      rw [e1] at hp ⊢
      simp only [e2, if_true, mathK, hp]
      congr 1
    | none =>
      have e1 := hn hx
      have hp := numPut_eq (X := X) (k := c.key) (most := most) (x := ⟨c.key, 0, decDigits c.init.toNat, momF now c.vive, 0, 0, false, false⟩) h rfl
      rw [e1] at hp ⊢
      simp only [Bool.false_eq_true, if_false, mathK, hp]
  rw [if_neg h3, if_neg h3]
  by_cases h4 : c.op = 4
  · rw [if_pos h4, if_pos h4]
    unfold touchF
    cases hx : fE X.items c.key with
    | some x =>
      obtain ⟨e1, e2, e3⟩ := hw x hx
      rw [e1, if_pos rfl, e2, set_at h e1 (by exact e3)]
      rfl
    | none => rw [hn hx]; rfl
  rw [if_neg h4, if_neg h4]
  by_cases h7 : c.op = 7
  · rw [if_pos h7, if_pos h7]
    unfold lookF
    cases hx : fE X.items c.key with
    | some x => obtain ⟨e1, e2, e3⟩ := hw x hx; rw [e1, if_pos rfl, e2]; rfl
    | none => rw [hn hx]; rfl
  rw [if_neg h7, if_neg h7]
  by_cases h5 : c.op = 5
  · rw [if_pos h5, if_pos h5]
    unfold removeF
    cases hx : fE X.items c.key with
    | some x =>
      obtain ⟨e1, e2, e3⟩ := hw x hx
      have hp := putF_eq (X := X) (k := c.key) (x := goneF now c x) h e3
      rw [e1] at hp ⊢
      simp only [e2, if_true, removeK, hp, del_at h e1]
    | none => rw [hn hx]; rfl
  rw [if_neg h5, if_neg h5]
theorem live_sorted {X : St} (now : Int) (h : Sorted X.items) : Sorted (liveF X now).items := by
  unfold liveF
  split
  · exact Sorted.nil
  · exact h.filter _
/-- what Apply does, by keys -/
theorem app_eq {X : St} {now : Int} {c : Cd} {most : Int} (h : Sorted X.items) (hm : mayB c = true ∧ 1 ≤ now ∧ now ≤ 1099511627776) : applyF X now c most = doK (liveF X now) now c most (fE (liveF X now).items c.key) := by
  unfold applyF
  rw [if_pos hm, doK_eq (live_sorted now h)]

/-! ### what stays so -/
theorem mem_putL {l : List It} {x y : It} (h : y ∈ putL l x) : y = x ∨ y ∈ l := by
  unfold putL at h
  rw [List.mem_append, List.mem_cons] at h
  rcases h with h | h | h
  · exact .inr (List.mem_filter.1 h).1
  · exact .inl h
  · exact .inr (List.mem_filter.1 h).1
theorem Sorted.putL {l : List It} (h : Sorted l) (x : It) : Sorted (putL l x) := by
  unfold Proofs.YtfmpdbngpknmaaaDoor.putL
  refine List.pairwise_append.2 ⟨h.filter _, List.pairwise_cons.2 ⟨fun b hb => ?_, h.filter _⟩, ?_⟩
  · simpa using (List.mem_filter.1 hb).2
  · intro a ha b hb
    have h1 : bytesLess a.key x.key = true := by simpa using (List.mem_filter.1 ha).2
    rcases List.mem_cons.1 hb with rfl | hb
    · exact h1
    · exact less_trans h1 (by simpa using (List.mem_filter.1 hb).2)
theorem len_rmL {l : List It} {k : List UInt8} (h : Sorted l) : (rmL l k).length ≤ l.length := by rw [rmL_eq h]; exact List.length_filter_le _ _
theorem len_putL {l : List It} (h : Sorted l) (x : It) : (putL l x).length ≤ l.length + 1 := by
  have := len_rmL (k := x.key) h
  unfold rmL at this
  unfold putL
  simp only [List.length_append, List.length_cons] at this ⊢
  omega
theorem Sorted.rmL {l : List It} (h : Sorted l) (k : List UInt8) : Sorted (rmL l k) := by rw [rmL_eq h]; exact h.filter _
structure Nice (most : Int) (n : Nat) (X : St) : Prop where
  sorted : Sorted X.items
  len : X.items.length ≤ n
  bd : ∀ x ∈ X.items, x.key.length ≤ 250 ∧ (x.val.length : Int) ≤ most ∧ -4398046511104 ≤ x.exp ∧ x.exp ≤ 4398046511104
theorem Nice.mono {most : Int} {n m : Nat} {X : St} (h : Nice most n X) (hm : n ≤ m) : Nice most m X := ⟨h.sorted, Nat.le_trans h.len hm, h.bd⟩
theorem Nice.live {most : Int} {n : Nat} {X : St} (h : Nice most n X) (now : Int) : Nice most n (liveF X now) := by
  refine ⟨live_sorted now h.sorted, ?_, ?_⟩
  · unfold liveF; split
    · exact Nat.zero_le _
    · exact Nat.le_trans (List.length_filter_le _ _) h.len
  · unfold liveF; split
    · simp
    · intro x hx; exact h.bd x (List.mem_filter.1 hx).1
theorem mom_near {now e : Int} (h : nearB e = true) (h0 : 1 ≤ now) (h1 : now ≤ 1099511627776) : -4398046511104 ≤ momF now e ∧ momF now e ≤ 4398046511104 := by
  have : -1099511627776 ≤ e ∧ e ≤ 1099511627776 := by simpa [nearB] using h
  unfold momF
  split
  · omega
  · split <;> omega
theorem may_split {c : Cd} (h : mayB c = true) : (c.op = 6 ∨ keyB c.key = true) ∧ nearB c.exp = true ∧ nearB c.vive = true ∧ nearB c.recache = true ∧ c.val.length ≤ 65536 ∧ 1 ≤ c.op ∧ c.op ≤ 7 := by
  simp only [mayB, Bool.and_eq_true, Bool.or_eq_true, decide_eq_true_eq] at h
  obtain ⟨⟨⟨⟨⟨⟨q1, q2⟩, q3⟩, q4⟩, h1⟩, ⟨h2, h3⟩, h4⟩, h5⟩ := h
  exact ⟨h5, h2, h3, h4, h1, q1, q2⟩
theorem key_lt {key : List UInt8} (h : keyB key = true) : key.length ≤ 250 := by
  simp only [keyB, Bool.and_eq_true, decide_eq_true_eq] at h; exact h.2
theorem Nice.put {most : Int} {n : Nat} {X : St} (h : Nice most n X) {x : It} {cas : Int} (hx : x.key.length ≤ 250 ∧ (x.val.length : Int) ≤ most ∧ -4398046511104 ≤ x.exp ∧ x.exp ≤ 4398046511104) : Nice most (n + 1) { X with cas := cas, items := putL X.items x } := by
  refine ⟨h.sorted.putL x, Nat.le_trans (len_putL h.sorted x) (Nat.succ_le_succ h.len), ?_⟩
  intro y hy
  rcases mem_putL hy with rfl | hy
  · exact hx
  · exact h.bd y hy
theorem Nice.fit {most : Int} {n : Nat} {X : St} (h : Nice most n X) {x : It} {st num : Int} (hx : x.key.length ≤ 250 ∧ -4398046511104 ≤ x.exp ∧ x.exp ≤ 4398046511104) : Nice most (n + 1) (fitK X most st num x).1 := by
  unfold fitK
  split
  · rename_i hf
    refine Nice.put h ⟨hx.1, ?_, hx.2⟩
    have : (x.key.length : Int) + (x.val.length : Int) ≤ most := by simpa [fitsB] using hf
    show (x.val.length : Int) ≤ most
    omega
  · exact h.mono (Nat.le_succ _)
theorem nice_do {most : Int} {n : Nat} {X : St} {now : Int} {c : Cd} (hmost : 0 ≤ most) (h : Nice most n X) (hm : mayB c = true ∧ 1 ≤ now ∧ now ≤ 1099511627776) (o : Option It) (ho : ∀ x, o = some x → x ∈ X.items ∧ x.key = c.key) : Nice most (n + 1) (doK X now c most o).1 := by
  obtain ⟨m1, m2, m3, m4, m5, m6, m7⟩ := may_split hm.1
  have hsame : Nice most (n + 1) X := h.mono (Nat.le_succ _)
  have b1 := mom_near m2 hm.2.1 hm.2.2
  have b2 := mom_near m3 hm.2.1 hm.2.2
  unfold doK
  by_cases h1 : c.op = 1
  · rw [if_pos h1]
    have hk := key_lt (m1.resolve_left (by omega))
    cases o with
    | some x =>
      obtain ⟨k1, k2, k3⟩ := h.bd x (ho x rfl).1
      refine Nice.put h ⟨k1, k2, ?_⟩
      show _ ≤ (if c.hasExp then momF now c.exp else x.exp) ∧ (if c.hasExp then momF now c.exp else x.exp) ≤ _
      split
      · exact b1
      · exact k3
    | none =>
      simp only [getK]
      split
      · exact Nice.put h ⟨hk, by exact hmost, b2⟩
      · exact hsame
  rw [if_neg h1]
  by_cases h2 : c.op = 2
  · rw [if_pos h2]
    have hk := key_lt (m1.resolve_left (by omega))
    cases o with
    | some x =>
      obtain ⟨k1, k2, k3⟩ := h.bd x (ho x rfl).1
      simp only [stoK]
      split
      · exact hsame
      split
      · exact hsame
      refine Nice.fit h ⟨by rw [newF_key fun _ => (ho x rfl).2]; exact hk, ?_⟩
      unfold newF
      split
      · exact k3
      · split
        · exact k3
        · exact b1
    | none =>
      simp only [stoK]
      split
      · exact hsame
      split
      · exact hsame
      rename_i hmd _
      refine Nice.fit h ⟨by rw [newF_key fun hh => by omega]; exact hk, ?_⟩
      unfold newF
      rw [if_neg (by omega), if_neg (by omega)]
      exact b1
  rw [if_neg h2]
  by_cases h3 : c.op = 3
  · rw [if_pos h3]
    have hk := key_lt (m1.resolve_left (by omega))
    cases o with
    | some x =>
      obtain ⟨k1, k2, k3⟩ := h.bd x (ho x rfl).1
      simp only [mathK]
      split
      · exact hsame
      split
      · exact hsame
      refine Nice.fit h ⟨k1, ?_⟩
      show _ ≤ (if c.hasExp then momF now c.exp else x.exp) ∧ (if c.hasExp then momF now c.exp else x.exp) ≤ _
      split
      · exact b1
      · exact k3
    | none =>
      simp only [mathK]
      split
      · exact Nice.fit h ⟨hk, b2⟩
      · exact hsame
  rw [if_neg h3]
  by_cases h4 : c.op = 4
  · rw [if_pos h4]
    cases o with
    | some x =>
      obtain ⟨k1, k2, k3⟩ := h.bd x (ho x rfl).1
      exact Nice.put h ⟨k1, k2, b1⟩
    | none => exact hsame
  rw [if_neg h4]
  by_cases h7 : c.op = 7
  · rw [if_pos h7]
    cases o <;> exact hsame
  rw [if_neg h7]
  by_cases h5 : c.op = 5
  · rw [if_pos h5]
    cases o with
    | some x =>
      obtain ⟨k1, k2, k3⟩ := h.bd x (ho x rfl).1
      simp only [removeK]
      split
      · exact hsame
      split
      · refine Nice.put h ⟨k1, k2, ?_⟩
        show _ ≤ (if c.hasExp then momF now c.exp else x.exp) ∧ (if c.hasExp then momF now c.exp else x.exp) ≤ _
        split
        · exact b1
        · exact k3
      · exact ⟨h.sorted.rmL _, Nat.le_trans (len_rmL h.sorted) (Nat.le_succ_of_le h.len), fun y hy => by rw [rmL_eq h.sorted] at hy; exact h.bd y (List.mem_filter.1 hy).1⟩
    | none => exact hsame
  rw [if_neg h5]
  unfold flushF
  split
  · exact ⟨Sorted.nil, Nat.zero_le _, by simp⟩
  · exact ⟨h.sorted, Nat.le_succ_of_le h.len, h.bd⟩
theorem nice_app {most : Int} {n : Nat} {X : St} {now : Int} {c : Cd} (hmost : 0 ≤ most) (h : Nice most n X) : Nice most (n + 1) (applyF X now c most).1 := by
  by_cases hm : mayB c = true ∧ 1 ≤ now ∧ now ≤ 1099511627776
  · rw [app_eq h.sorted hm]
    exact nice_do hmost (h.live now) hm _ fun x hx => ⟨fE_mem hx, fE_key hx⟩
  · unfold applyF
    rw [if_neg hm]
    exact ⟨Sorted.nil, Nat.zero_le _, by simp [St.zero]⟩
end Go.Proofs.YtfmpdbngpknmaaaDoor
