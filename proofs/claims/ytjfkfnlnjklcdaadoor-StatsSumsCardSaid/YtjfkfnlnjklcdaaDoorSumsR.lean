/- StatsSums: the last statement's region. -/
import Derived.Test.YtjfkfnlnjklcdaaDoorSumsW
namespace Go.Proofs.YtjfkfnlnjklcdaaDoor
open Go.RowKit

/-- region n of a body -/
def findRegion (n : Nat) : Code → Option Code
  | .region id ops d => if id = n then some (.region id ops d) else none
  | .seq a b => match findRegion n a with
    | some c => some c
    | none => findRegion n b
  | .block _ c => findRegion n c
  | .scope c => findRegion n c
  | .loop c => findRegion n c
  | .cond _ a b => match findRegion n a with
    | some c => some c
    | none => findRegion n b
  | _ => none
noncomputable def endRegion : Code := (Tryd.f13.body.bind (findRegion 13)).getD .skip

set_option maxRecDepth 1000000 in
set_option maxHeartbeats 8000000 in
theorem sums_region (gm q c : Nat) (n0 n1 n2 n3 n4 n5 n6 n7 n12 n13 n14 n15 n16 n17 m1 m2 m4 m5 m6 : Int) (w5 : World) (c0 c1 c2 c3 c4 c5 c6 c8 c10 c11 c12 c13 c14 c15 c16 c17 c18 c19 c20 c21 c22 c23 c24 c25 c26 c27 c28 c29 c30 c31 c32 c33 c34 c35 c36 c37 c38 c39 c40 c41 c42 c43 c44 c45 c46 c47 c48 c49 c50 c51 c52 c53 c54 c55 c56 c57 c58 c59 c60 c61 c62 c63 c64 c65 c66 c67 c68 c69 c70 c71 c72 c73 c74 c75 c76 c77 c78 c79 c80 c81 c82 c83 c84 c85 c86 c87 c88 c89 c90 c91 c92 c93 c94 c95 c96 c97 c98 c99 c100 c101 c102 c103 c104 c105 c106 c107 c108 c109 c110 c111 c112 c113 c114 c115 c116 c117 c118 c119 c120 c121 c122 c123 c124 c125 c126 c127 c128 c129 c130 c131 c132 c133 c134 c135 c136 c137 c138 c139 c140 c141 c142 c143 c144 c145 c146 c147 c148 c149 c150 c151 c152 c153 c154 c155 c156 c157 c158 c159 c160 c161 c162 : Value) (Q : Exit → Act → World → Prop)
    (HK : ∀ x, Below w5.heap.size w5 x → (fun w' => w'.cell? ⟨gm, 1, none⟩ = some (.int .u64 m1) ∧ w'.cell? ⟨gm, 2, none⟩ = some (.int .u64 m2) ∧ w'.cell? ⟨gm, 4, none⟩ = some (.int .u64 m4) ∧ w'.cell? ⟨gm, 5, none⟩ = some (.int .u64 m5) ∧ w'.cell? ⟨gm, 6, none⟩ = some (.int .u64 m6) ∧ Below w5.heap.size w5 w') x)
    (HC0 : ∀ x, Below w5.heap.size w5 x → Calls Tryd.prog 33 #[.slice (some ⟨q, 0, none⟩) 18 c, .int .i64 0] x fun e y => e = .returned (.int .u64 n0) ∧ Below w5.heap.size w5 y)
    (HC4 : ∀ x, Below w5.heap.size w5 x → Calls Tryd.prog 33 #[.slice (some ⟨q, 0, none⟩) 18 c, .int .i64 4] x fun e y => e = .returned (.int .u64 n4) ∧ Below w5.heap.size w5 y)
    (HC5 : ∀ x, Below w5.heap.size w5 x → Calls Tryd.prog 33 #[.slice (some ⟨q, 0, none⟩) 18 c, .int .i64 5] x fun e y => e = .returned (.int .u64 n5) ∧ Below w5.heap.size w5 y)
    (HC1 : ∀ x, Below w5.heap.size w5 x → Calls Tryd.prog 33 #[.slice (some ⟨q, 0, none⟩) 18 c, .int .i64 1] x fun e y => e = .returned (.int .u64 n1) ∧ Below w5.heap.size w5 y)
    (HC12 : ∀ x, Below w5.heap.size w5 x → Calls Tryd.prog 33 #[.slice (some ⟨q, 0, none⟩) 18 c, .int .i64 12] x fun e y => e = .returned (.int .u64 n12) ∧ Below w5.heap.size w5 y)
    (HC13 : ∀ x, Below w5.heap.size w5 x → Calls Tryd.prog 33 #[.slice (some ⟨q, 0, none⟩) 18 c, .int .i64 13] x fun e y => e = .returned (.int .u64 n13) ∧ Below w5.heap.size w5 y)
    (HC14 : ∀ x, Below w5.heap.size w5 x → Calls Tryd.prog 33 #[.slice (some ⟨q, 0, none⟩) 18 c, .int .i64 14] x fun e y => e = .returned (.int .u64 n14) ∧ Below w5.heap.size w5 y)
    (HC6 : ∀ x, Below w5.heap.size w5 x → Calls Tryd.prog 33 #[.slice (some ⟨q, 0, none⟩) 18 c, .int .i64 6] x fun e y => e = .returned (.int .u64 n6) ∧ Below w5.heap.size w5 y)
    (HC7 : ∀ x, Below w5.heap.size w5 x → Calls Tryd.prog 33 #[.slice (some ⟨q, 0, none⟩) 18 c, .int .i64 7] x fun e y => e = .returned (.int .u64 n7) ∧ Below w5.heap.size w5 y)
    (HC2 : ∀ x, Below w5.heap.size w5 x → Calls Tryd.prog 33 #[.slice (some ⟨q, 0, none⟩) 18 c, .int .i64 2] x fun e y => e = .returned (.int .u64 n2) ∧ Below w5.heap.size w5 y)
    (HC15 : ∀ x, Below w5.heap.size w5 x → Calls Tryd.prog 33 #[.slice (some ⟨q, 0, none⟩) 18 c, .int .i64 15] x fun e y => e = .returned (.int .u64 n15) ∧ Below w5.heap.size w5 y)
    (HC16 : ∀ x, Below w5.heap.size w5 x → Calls Tryd.prog 33 #[.slice (some ⟨q, 0, none⟩) 18 c, .int .i64 16] x fun e y => e = .returned (.int .u64 n16) ∧ Below w5.heap.size w5 y)
    (HC3 : ∀ x, Below w5.heap.size w5 x → Calls Tryd.prog 33 #[.slice (some ⟨q, 0, none⟩) 18 c, .int .i64 3] x fun e y => e = .returned (.int .u64 n3) ∧ Below w5.heap.size w5 y)
    (HC17 : ∀ x, Below w5.heap.size w5 x → Calls Tryd.prog 33 #[.slice (some ⟨q, 0, none⟩) 18 c, .int .i64 17] x fun e y => e = .returned (.int .u64 n17) ∧ Below w5.heap.size w5 y)
    (z1 : IntKind.u64.wrap (n4 + n5) = n4 + n5) (z2 : IntKind.u64.wrap (n12 + n13) = n12 + n13) (z3 : IntKind.u64.wrap (n12 + n13 + n14) = n12 + n13 + n14) (z4 : IntKind.u64.wrap (n6 + n7) = n6 + n7) (z5 : IntKind.u64.wrap (n15 + n16) = n15 + n16)
    (t1 : (n0 == m1) = true) (t2 : (n4 + n5 == m1) = true) (t3 : (n1 == m2) = true) (t6 : (n2 == m4) = true) (t8 : (n3 == m6) = true) (t9 : (n17 == 0) = true)
    (r4 : n12 + n13 + n14 ≤ m2) (r5 : n6 + n7 ≤ m5) (r7 : n15 + n16 ≤ m4)
    (hQ : ∀ (T : Array Value) y, T[4]? = some (.bool true) → Below w5.heap.size w5 y → Q .normal ⟨T, []⟩ y) :
    endRegion.wp Tryd.prog Q ⟨#[c0, c1, c2, c3, c4, c5, c6, .pointer (some ⟨gm, 0, none⟩), c8, .slice (some ⟨q, 0, none⟩) 18 c, c10, c11, c12, c13, c14, c15, c16, c17, c18, c19, c20, c21, c22, c23, c24, c25, c26, c27, c28, c29, c30, c31, c32, c33, c34, c35, c36, c37, c38, c39, c40, c41, c42, c43, c44, c45, c46, c47, c48, c49, c50, c51, c52, c53, c54, c55, c56, c57, c58, c59, c60, c61, c62, c63, c64, c65, c66, c67, c68, c69, c70, c71, c72, c73, c74, c75, c76, c77, c78, c79, c80, c81, c82, c83, c84, c85, c86, c87, c88, c89, c90, c91, c92, c93, c94, c95, c96, c97, c98, c99, c100, c101, c102, c103, c104, c105, c106, c107, c108, c109, c110, c111, c112, c113, c114, c115, c116, c117, c118, c119, c120, c121, c122, c123, c124, c125, c126, c127, c128, c129, c130, c131, c132, c133, c134, c135, c136, c137, c138, c139, c140, c141, c142, c143, c144, c145, c146, c147, c148, c149, c150, c151, c152, c153, c154, c155, c156, c157, c158, c159, c160, c161, c162], []⟩ w5 := by
  have HK := Lib.hid HK
  have HC0 := Lib.hid HC0
  have HC4 := Lib.hid HC4
  have HC5 := Lib.hid HC5
  have HC1 := Lib.hid HC1
  have HC12 := Lib.hid HC12
  have HC13 := Lib.hid HC13
  have HC14 := Lib.hid HC14
  have HC6 := Lib.hid HC6
  have HC7 := Lib.hid HC7
  have HC2 := Lib.hid HC2
  have HC15 := Lib.hid HC15
  have HC16 := Lib.hid HC16
  have HC3 := Lib.hid HC3
  have HC17 := Lib.hid HC17
  have HQ := Lib.hid hQ; clear hQ
  conv => arg 2; whnf
  go_wp2_with fail
  go_region_held3 (fun w' => w'.cell? ⟨gm, 1, none⟩ = some (.int .u64 m1) ∧ w'.cell? ⟨gm, 2, none⟩ = some (.int .u64 m2) ∧ w'.cell? ⟨gm, 4, none⟩ = some (.int .u64 m4) ∧ w'.cell? ⟨gm, 5, none⟩ = some (.int .u64 m5) ∧ w'.cell? ⟨gm, 6, none⟩ = some (.int .u64 m6) ∧ Below w5.heap.size w5 w')
    (first | exact HK.out _ hbx | exact HK.out _ (Below.refl _ _).drew | exact HK.out _ (Below.refl _ _))
    (first
      | (with_reducible refine (HC0.out _ ?_).mono ?_; (first | exact hbx | exact (Below.refl _ _).drew | assumption); rintro e y ⟨rfl, hbx⟩)
      | (with_reducible refine (HC4.out _ ?_).mono ?_; (first | exact hbx | exact (Below.refl _ _).drew | assumption); rintro e y ⟨rfl, hbx⟩)
      | (with_reducible refine (HC5.out _ ?_).mono ?_; (first | exact hbx | exact (Below.refl _ _).drew | assumption); rintro e y ⟨rfl, hbx⟩)
      | (with_reducible refine (HC1.out _ ?_).mono ?_; (first | exact hbx | exact (Below.refl _ _).drew | assumption); rintro e y ⟨rfl, hbx⟩)
      | (with_reducible refine (HC12.out _ ?_).mono ?_; (first | exact hbx | exact (Below.refl _ _).drew | assumption); rintro e y ⟨rfl, hbx⟩)
      | (with_reducible refine (HC13.out _ ?_).mono ?_; (first | exact hbx | exact (Below.refl _ _).drew | assumption); rintro e y ⟨rfl, hbx⟩)
      | (with_reducible refine (HC14.out _ ?_).mono ?_; (first | exact hbx | exact (Below.refl _ _).drew | assumption); rintro e y ⟨rfl, hbx⟩)
      | (with_reducible refine (HC6.out _ ?_).mono ?_; (first | exact hbx | exact (Below.refl _ _).drew | assumption); rintro e y ⟨rfl, hbx⟩)
      | (with_reducible refine (HC7.out _ ?_).mono ?_; (first | exact hbx | exact (Below.refl _ _).drew | assumption); rintro e y ⟨rfl, hbx⟩)
      | (with_reducible refine (HC2.out _ ?_).mono ?_; (first | exact hbx | exact (Below.refl _ _).drew | assumption); rintro e y ⟨rfl, hbx⟩)
      | (with_reducible refine (HC15.out _ ?_).mono ?_; (first | exact hbx | exact (Below.refl _ _).drew | assumption); rintro e y ⟨rfl, hbx⟩)
      | (with_reducible refine (HC16.out _ ?_).mono ?_; (first | exact hbx | exact (Below.refl _ _).drew | assumption); rintro e y ⟨rfl, hbx⟩)
      | (with_reducible refine (HC3.out _ ?_).mono ?_; (first | exact hbx | exact (Below.refl _ _).drew | assumption); rintro e y ⟨rfl, hbx⟩)
      | (with_reducible refine (HC17.out _ ?_).mono ?_; (first | exact hbx | exact (Below.refl _ _).drew | assumption); rintro e y ⟨rfl, hbx⟩))
  exact HQ.out _ _ rfl hbx
end Go.Proofs.YtjfkfnlnjklcdaaDoor
