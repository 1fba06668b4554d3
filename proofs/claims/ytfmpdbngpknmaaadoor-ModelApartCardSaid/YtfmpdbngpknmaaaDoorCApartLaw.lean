/- ModelApart: commands of other keys are told the same but for tokens, whatever is done to one key. No program in sight. -/
import Derived.Test.YtfmpdbngpknmaaaDoorCStepLaw
namespace Go.Proofs.YtfmpdbngpknmaaaDoor
set_option linter.unusedSimpArgs false
set_option linter.unusedVariables false
open Go.Lib Go.Op

theorem sorted_inj {l : List It} : ∀ {y z : It}, Sorted l → y ∈ l → z ∈ l → y.key = z.key → y = z := by
  induction l with
  | nil => intro y z _ hy; cases hy
  | cons a l ih =>
    intro y z h hy hz e
    rcases List.mem_cons.1 hy with hy | hy
    · rcases List.mem_cons.1 hz with hz | hz
      · rw [hy, hz]
      · have := h.head z hz; rw [← hy, e, less_irrefl] at this; cases this
    · rcases List.mem_cons.1 hz with hz | hz
      · have := h.head y hy; rw [← hz, e, less_irrefl] at this; cases this
      · exact ih h.tail hy hz e
theorem fE_iff {l : List It} {k : List UInt8} {y : It} (h : Sorted l) : fE l k = some y ↔ y ∈ l ∧ y.key = k := by
  constructor
  · intro hy; exact ⟨fE_mem hy, fE_key hy⟩
  · rintro ⟨h1, h2⟩
    cases hz : fE l k with
    | none =>
      unfold fE at hz
      rw [List.find?_eq_none] at hz
      exact absurd (by simpa using h2) (hz y h1)
    | some z => rw [sorted_inj h (fE_mem hz) h1 (by rw [fE_key hz, h2])]
theorem fE_filter {l : List It} {k : List UInt8} (h : Sorted l) (p : It → Bool) : fE (l.filter p) k = (fE l k).filter p := by
  refine Option.ext fun y => ?_
  rw [fE_iff (h.filter p), List.mem_filter, Option.filter_eq_some_iff, fE_iff h]
  constructor
  · rintro ⟨⟨h1, h2⟩, h3⟩; exact ⟨⟨h1, h3⟩, h2⟩
  · rintro ⟨⟨h1, h3⟩, h2⟩; exact ⟨⟨h1, h2⟩, h3⟩
theorem mem_putL_iff {l : List It} {x y : It} : y ∈ putL l x ↔ y = x ∨ (y ∈ l ∧ y.key ≠ x.key) := by
  unfold putL
  rw [List.mem_append, List.mem_cons, List.mem_filter, List.mem_filter]
  constructor
  · rintro (⟨h1, h2⟩ | h | ⟨h1, h2⟩)
    · exact .inr ⟨h1, fun e => by rw [e, less_irrefl] at h2; cases h2⟩
    · exact .inl h
    · exact .inr ⟨h1, fun e => by rw [e, less_irrefl] at h2; cases h2⟩
  · rintro (h | ⟨h1, h2⟩)
    · exact .inr (.inl h)
    · by_cases h3 : bytesLess y.key x.key = true
      · exact .inl ⟨h1, h3⟩
      · by_cases h4 : bytesLess x.key y.key = true
        · exact .inr (.inr ⟨h1, h4⟩)
        · exact absurd (less_total _ _ (by simpa using h3) (by simpa using h4)) h2
theorem fE_putL {l : List It} {x : It} {k : List UInt8} (h : Sorted l) : fE (putL l x) k = if x.key = k then some x else fE l k := by
  refine Option.ext fun y => ?_
  rw [fE_iff (h.putL x), mem_putL_iff]
  by_cases e : x.key = k
  · rw [if_pos e]
    constructor
    · rintro ⟨rfl | ⟨_, h2⟩, h3⟩
      · rfl
      · exact absurd (h3.trans e.symm) h2
    · intro hy; cases hy; exact ⟨.inl rfl, e⟩
  · rw [if_neg e, fE_iff h]
    constructor
    · rintro ⟨rfl | ⟨h1, h2⟩, h3⟩
      · exact absurd h3 e
      · exact ⟨h1, h3⟩
    · rintro ⟨h1, h2⟩; exact ⟨.inr ⟨h1, fun e' => e (e'.symm.trans h2)⟩, h2⟩
theorem fE_rmL {l : List It} {k k' : List UInt8} (h : Sorted l) : fE (rmL l k') k = if k' = k then none else fE l k := by
  refine Option.ext fun y => ?_
  rw [fE_iff (h.rmL k'), rmL_eq h, List.mem_filter]
  by_cases e : k' = k
  · rw [if_pos e]
    constructor
    · rintro ⟨⟨_, h2⟩, h3⟩; rw [h3, e] at h2; simp at h2
    · intro hy; cases hy
  · rw [if_neg e, fE_iff h]
    constructor
    · rintro ⟨⟨h1, _⟩, h3⟩; exact ⟨h1, h3⟩
    · rintro ⟨h1, h3⟩; refine ⟨⟨h1, ?_⟩, h3⟩
      rw [h3]; simp; exact fun e' => e e'.symm

/-- an item but for its token -/
def uncas (x : It) : It := { x with cas := 0 }
theorem un_key {x y : It} (h : uncas x = uncas y) : x.key = y.key := by
  have e : (uncas x).key = (uncas y).key := by rw [h]
  exact e
theorem un_val {x y : It} (h : uncas x = uncas y) : x.val = y.val := by
  have e : (uncas x).val = (uncas y).val := by rw [h]
  exact e
theorem un_exp {x y : It} (h : uncas x = uncas y) : x.exp = y.exp := by
  have e : (uncas x).exp = (uncas y).exp := by rw [h]
  exact e
def sameO (a b : Option It) : Prop := a.map uncas = b.map uncas
def bare (a : An) : An := { a with it := uncas a.it }
/-- the same thing is done to two states, and the answers are the same but for tokens -/
inductive Rs (X Y : St) (k : List UInt8) : St × An → St × An → Prop
  | same {a b : An} : bare a = bare b → Rs X Y k (X, a) (Y, b)
  | put {a b : An} {x y : It} {m n : Int} : x.key = k → uncas x = uncas y → bare a = bare b → Rs X Y k ({ X with cas := m, items := putL X.items x }, a) ({ Y with cas := n, items := putL Y.items y }, b)
  | rm {a b : An} : bare a = bare b → Rs X Y k ({ X with items := rmL X.items k }, a) ({ Y with items := rmL Y.items k }, b)
  | set {a b : An} {x y : It} : x.key = k → uncas x = uncas y → bare a = bare b → Rs X Y k ({ X with items := putL X.items x }, a) ({ Y with items := putL Y.items y }, b)
theorem Rs.tok {X Y : St} {k : List UInt8} {x y : It} {st num : Int} {w : Bool} (h1 : x.key = k) (h2 : uncas x = uncas y) : Rs X Y k (putK' X x, ⟨st, tok X x, num, w, false, false⟩) (putK' Y y, ⟨st, tok Y y, num, w, false, false⟩) := by
  refine Rs.put h1 ?_ ?_
  · exact h2
  · have : uncas (Proofs.YtfmpdbngpknmaaaDoor.tok X x) = uncas (Proofs.YtfmpdbngpknmaaaDoor.tok Y y) := h2
    simp only [bare, this]
theorem Rs.fit {X Y : St} {k : List UInt8} {x y : It} {most st num : Int} (h1 : x.key = k) (h2 : uncas x = uncas y) : Rs X Y k (fitK X most st num x) (fitK Y most st num y) := by
  have e1 : fitsB most x = fitsB most y := by
    have q1 := un_key h2
    have q2 := un_val h2
    unfold fitsB; rw [q1, q2]
  unfold fitK
  rw [e1]
  split
  · exact Rs.tok h1 h2
  · exact Rs.same rfl
theorem two {X Y : St} {now : Int} {c : Cd} {most : Int} {o o' : Option It} (hc : c.hasCas = false) (h6 : mayB c = true) (h6' : c.op ≠ 6) (ho : sameO o o') (hk : ∀ x, o = some x → x.key = c.key) : Rs X Y c.key (doK X now c most o) (doK Y now c most o') := by
  have hob : ∀ x, otherB c x = false := fun x => by simp [otherB, hc]
  obtain ⟨_, _, _, _, _, p6, p7⟩ := may_split h6
  cases o with
  | none =>
    have e : o' = none := by
      cases o' with
      | none => rfl
      | some y => cases ho
    subst e
    unfold doK getK stoK mathK touchK lookK removeK
    by_cases h1 : c.op = 1
    · rw [if_pos h1, if_pos h1]
      by_cases hv : c.viv = true
      · rw [if_pos hv, if_pos hv]; exact Rs.tok rfl rfl
      · rw [if_neg hv, if_neg hv]; exact Rs.same rfl
    rw [if_neg h1, if_neg h1]
    by_cases h2 : c.op = 2
    · rw [if_pos h2, if_pos h2]
      by_cases hm : 1 < c.mode
      · rw [if_pos hm, if_pos hm]; exact Rs.same rfl
      · rw [if_neg hm, if_neg hm, hc]
        exact Rs.fit (newF_key fun h => by omega) rfl
    rw [if_neg h2, if_neg h2]
    by_cases h3 : c.op = 3
    · rw [if_pos h3, if_pos h3]
      by_cases hv : c.viv = true
      · rw [if_pos hv, if_pos hv]; exact Rs.fit rfl rfl
      · rw [if_neg hv, if_neg hv]; exact Rs.same rfl
    rw [if_neg h3, if_neg h3]
    by_cases h4 : c.op = 4
    · rw [if_pos h4, if_pos h4]; exact Rs.same rfl
    rw [if_neg h4, if_neg h4]
    by_cases h7 : c.op = 7
    · rw [if_pos h7, if_pos h7]; exact Rs.same rfl
    have h5 : c.op = 5 := by omega
    rw [if_neg h7, if_neg h7, if_pos h5, if_pos h5]
    exact Rs.same rfl
  | some x =>
    cases o' with
    | none => cases ho
    | some y =>
      have hu : uncas x = uncas y := Option.some.inj ho
      have hkx := hk x rfl
      obtain ⟨k, f, v, e, c1, l, s, w⟩ := x
      obtain ⟨k', f', v', e', c2, l', s', w'⟩ := y
      simp only [uncas, It.mk.injEq] at hu
      obtain ⟨rfl, rfl, rfl, rfl, _, rfl, rfl, rfl⟩ := hu
      simp only at hkx
      unfold doK getK stoK mathK touchK lookK removeK
      simp only [hob, Bool.false_and, Bool.false_eq_true, if_false]
      by_cases h1 : c.op = 1
      · rw [if_pos h1, if_pos h1]; exact Rs.set hkx rfl rfl
      rw [if_neg h1, if_neg h1]
      by_cases h2 : c.op = 2
      · rw [if_pos h2, if_pos h2]
        by_cases hm : c.mode = 1
        · rw [if_pos hm, if_pos hm]; exact Rs.same rfl
        · rw [if_neg hm, if_neg hm]
          refine Rs.fit (newF_key fun _ => hkx) ?_
          unfold newF
          split
          · rfl
          · split <;> rfl
      rw [if_neg h2, if_neg h2]
      by_cases h3 : c.op = 3
      · rw [if_pos h3, if_pos h3]
        cases (if c.down = true then subV v c.delta else addV v c.delta) with
        | none => exact Rs.same rfl
        | some z => exact Rs.fit hkx rfl
      rw [if_neg h3, if_neg h3]
      by_cases h4 : c.op = 4
      · rw [if_pos h4, if_pos h4]; exact Rs.set hkx rfl rfl
      rw [if_neg h4, if_neg h4]
      by_cases h7 : c.op = 7
      · rw [if_pos h7, if_pos h7]; exact Rs.same rfl
      have h5 : c.op = 5 := by omega
      rw [if_neg h7, if_neg h7, if_pos h5, if_pos h5]
      by_cases hi : c.inval = true
      · rw [if_pos hi, if_pos hi]; exact Rs.tok hkx rfl
      · rw [if_neg hi, if_neg hi]; exact Rs.rm rfl

/-- what is there still at a moment -/
def lv (n : Int) (o : Option It) : Option It := o.filter fun x => !goneB n x
theorem gone_mono {n m : Int} {x : It} (h : n ≤ m) (hg : goneB n x = true) : goneB m x = true := by
  simp only [goneB, Bool.and_eq_true, Bool.not_eq_true', decide_eq_false_iff_not, decide_eq_true_eq] at hg ⊢
  exact ⟨hg.1, by omega⟩
theorem lv_lv {n m : Int} (h : n ≤ m) (o : Option It) : lv m (lv n o) = lv m o := by
  cases o with
  | none => rfl
  | some x =>
    unfold lv
    cases hg : goneB n x with
    | false => simp [Option.filter, hg]
    | true => simp [Option.filter, hg, gone_mono h hg]
theorem sameO_lv {n : Int} {a b : Option It} (h : sameO a b) : sameO (lv n a) (lv n b) := by
  cases a with
  | none => cases b with
    | none => rfl
    | some y => cases h
  | some x => cases b with
    | none => cases h
    | some y =>
      have hu : uncas x = uncas y := Option.some.inj h
      have e := un_exp hu
      have g : goneB n x = goneB n y := by unfold goneB; rw [e]
      unfold lv
      cases hg : goneB n y with
      | true => rw [hg] at g; simp [Option.filter, hg, g, sameO]
      | false => rw [hg] at g; simp [Option.filter, hg, g, sameO, hu]
/-- two states that are the same but for one key, and for tokens, from a moment on -/
def Ap (n : Int) (k0 : List UInt8) (X Y : St) : Prop := X.flush = 0 ∧ Y.flush = 0 ∧ ∀ k, k ≠ k0 → sameO (lv n (fE X.items k)) (lv n (fE Y.items k))
theorem Ap.mono {n m : Int} {k0 : List UInt8} {X Y : St} (h : Ap n k0 X Y) (hm : n ≤ m) : Ap m k0 X Y :=
  ⟨h.1, h.2.1, fun k hk => by rw [← lv_lv hm, ← lv_lv hm (fE Y.items k)]; exact sameO_lv (h.2.2 k hk)⟩
theorem live_fE {X : St} {n : Int} {k : List UInt8} (h : Sorted X.items) (hf : X.flush = 0) : fE (liveF X n).items k = lv n (fE X.items k) := by
  unfold liveF
  rw [if_neg (by omega)]
  exact fE_filter h _
theorem live_flush {X : St} {n : Int} (hf : X.flush = 0) : (liveF X n).flush = 0 := by
  unfold liveF
  rw [if_neg (by omega)]; exact hf
theorem Ap.live {n : Int} {k0 : List UInt8} {X Y : St} (h : Ap n k0 X Y) (hX : Sorted X.items) (hY : Sorted Y.items) : ∀ k, k ≠ k0 → sameO (fE (liveF X n).items k) (fE (liveF Y n).items k) := fun k hk => by
  rw [live_fE hX h.1, live_fE hY h.2.1]; exact h.2.2 k hk
theorem Ap.of {n : Int} {k0 : List UInt8} {X Y : St} (h1 : X.flush = 0) (h2 : Y.flush = 0) (h : ∀ k, k ≠ k0 → sameO (fE X.items k) (fE Y.items k)) : Ap n k0 X Y := ⟨h1, h2, fun k hk => sameO_lv (h k hk)⟩
theorem Rs.ap {n : Int} {k k0 : List UInt8} {X Y : St} {R S : St × An} (h : Rs X Y k R S) (hX : Sorted X.items) (hY : Sorted Y.items) (h1 : X.flush = 0) (h2 : Y.flush = 0) (hs : ∀ k, k ≠ k0 → sameO (fE X.items k) (fE Y.items k)) : Ap n k0 R.1 S.1 ∧ bare R.2 = bare S.2 := by
  cases h with
  | same h => exact ⟨Ap.of h1 h2 hs, h⟩
  | put hk hu hb =>
    refine ⟨Ap.of h1 h2 fun k' hk' => ?_, hb⟩
    have e := un_key hu
    show sameO (fE (putL X.items _) k') (fE (putL Y.items _) k')
    rw [fE_putL hX, fE_putL hY, e]
    split
    · exact congrArg some hu
    · exact hs k' hk'
  | set hk hu hb =>
    refine ⟨Ap.of h1 h2 fun k' hk' => ?_, hb⟩
    have e := un_key hu
    show sameO (fE (putL X.items _) k') (fE (putL Y.items _) k')
    rw [fE_putL hX, fE_putL hY, e]
    split
    · exact congrArg some hu
    · exact hs k' hk'
  | rm hb =>
    refine ⟨Ap.of h1 h2 fun k' hk' => ?_, hb⟩
    show sameO (fE (rmL X.items _) k') (fE (rmL Y.items _) k')
    rw [fE_rmL hX, fE_rmL hY]
    split
    · rfl
    · exact hs k' hk'
theorem Rs.left {X Y : St} {k : List UInt8} {R S : St × An} (h : Rs X Y k R S) : R.1 = X ∨ (∃ x m, x.key = k ∧ R.1 = { X with cas := m, items := putL X.items x }) ∨ R.1 = { X with items := rmL X.items k } := by
  cases h with
  | same _ => exact .inl rfl
  | put hk _ _ => exact .inr (.inl ⟨_, _, hk, rfl⟩)
  | rm _ => exact .inr (.inr rfl)
  | set hk _ _ => exact .inr (.inl ⟨_, X.cas, hk, rfl⟩)
/-- a command of another key, done to both -/
theorem Ap.both {n m : Int} {k0 : List UInt8} {X Y : St} {c : Cd} {most : Int} (h : Ap n k0 X Y) (hm : n ≤ m) (hX : Sorted X.items) (hY : Sorted Y.items) (hv : mayB c = true ∧ 1 ≤ m ∧ m ≤ 1099511627776) (hc : c.hasCas = false) (h6 : c.op ≠ 6) (hk : c.key ≠ k0) :
    Ap m k0 (applyF X m c most).1 (applyF Y m c most).1 ∧ bare (applyF X m c most).2 = bare (applyF Y m c most).2 := by
  rw [app_eq hX hv, app_eq hY hv]
  have hl := (h.mono hm).live hX hY
  exact (two hc hv.1 h6 (hl c.key hk) fun x hx => fE_key hx).ap (live_sorted m hX) (live_sorted m hY) (live_flush h.1) (live_flush h.2.1) hl
/-- a command of the key itself, done to one -/
theorem Ap.own {n m : Int} {X Y : St} {c : Cd} {most : Int} (h : Ap n c.key X Y) (hm : n ≤ m) (hX : Sorted X.items) (hv : mayB c = true ∧ 1 ≤ m ∧ m ≤ 1099511627776) (hc : c.hasCas = false) (h6 : c.op ≠ 6) : Ap m c.key (applyF X m c most).1 Y := by
  rw [app_eq hX hv]
  have hs := live_sorted m hX
  have hf := live_flush (n := m) h.1
  have hl : ∀ k, k ≠ c.key → sameO (lv m (fE (liveF X m).items k)) (lv m (fE Y.items k)) := fun k hk => by
    rw [live_fE hX h.1, lv_lv (Int.le_refl m)]; exact (h.mono hm).2.2 k hk
  have h2 := two (X := liveF X m) (Y := liveF X m) (now := m) (most := most) hc hv.1 h6 (show sameO (fE (liveF X m).items c.key) (fE (liveF X m).items c.key) from rfl) fun x hx => fE_key hx
  have h3 := h2.left
  generalize doK (liveF X m) m c most (fE (liveF X m).items c.key) = R at h3 ⊢
  rcases h3 with h3 | ⟨x, i, hk', h3⟩ | h3
  · rw [h3]; exact ⟨hf, h.2.1, hl⟩
  · rw [h3]
    refine ⟨hf, h.2.1, fun k hk => ?_⟩
    show sameO (lv m (fE (putL (liveF X m).items x) k)) _
    rw [fE_putL hs, if_neg (by rw [hk']; exact fun e => hk e.symm)]; exact hl k hk
  · rw [h3]
    refine ⟨hf, h.2.1, fun k hk => ?_⟩
    show sameO (lv m (fE (rmL (liveF X m).items c.key) k)) _
    rw [fE_rmL hs, if_neg (fun e => hk e.symm)]; exact hl k hk
theorem Ap.start (k0 : List UInt8) : Ap 0 k0 St.zero St.zero := ⟨rfl, rfl, fun _ _ => rfl⟩
theorem app_bad' {X : St} {now : Int} {c : Cd} {most : Int} (h : ¬ (mayB c = true ∧ 1 ≤ now ∧ now ≤ 1099511627776)) : applyF X now c most = (St.zero, An.zero) := by
  unfold applyF; rw [if_neg h]
/-- a command is done, if it may be -/
theorem told_pos {X : St} {now : Int} {c : Cd} {most : Int} (h : mayB c = true ∧ 1 ≤ now ∧ now ≤ 1099511627776) : (applyF X now c most).2.st ≠ 0 := by
  unfold applyF
  rw [if_pos h]
  unfold doF getF storeF mathF numPut touchF lookF removeF flushF toldF
  repeat' split
  all_goals simp
end Go.Proofs.YtfmpdbngpknmaaaDoor
