/- Apply, by the symbolic walk: printed by gen_apply.py from XMaply.head. -/
import Derived.Test.YtfpeholdlkfmoaaGreatDoorBS09
import Derived.Test.YtfpeholdlkfmoaaGreatDoorBS03
import Derived.Test.YtfpeholdlkfmoaaGreatDoorBS00
namespace Go.Proofs.YtfpeholdlkfmoaaGreatDoor
set_option linter.unusedSimpArgs false
set_option linter.unusedVariables false
set_option maxHeartbeats 8000000
open Go.RowKit
set_option maxRecDepth 100000
set_option maxHeartbeats 4000000
theorem mayB_val {c:Cd} (h:zT0 c=true):c.val.length≤100000000:=by
 simp only [zT0,Bool.and_eq_true,decide_eq_true_eq] at h; omega
theorem zO5 {c:Cd} (h:zT0 c=true) (h6:¬ c.op=6):c.key.length≤100000000:=by
 simp only [zT0,keyB,Bool.and_eq_true,Bool.or_eq_true,decide_eq_true_eq] at h; omega
theorem apply_bad (X:St) (v:Value) (now:Int) (c:Cd) (most:Int) (w:World) (ho:OwnI 0 w v X.items)
  (hkl:c.key.length≤9223372036854775807) (hvl:c.val.length≤9223372036854775807) (hbad:¬ (zT0 c=true∧1≤now∧now≤1099511627776)) :
  Calls Tryz.prog 12 #[.agg #[v,.int .u64 X.cas,.int .i64 X.flush],.int .i64 now,.agg (cdA c),.int .i64 most] w (AppR (St.zero,An.zero) w):=by
 obtain ⟨ρ,hat,hv⟩:=src_at ho
 have key:=zB8 (R:=AppR (St.zero,An.zero) w) Tryz.func12 rfl kp12 [.g [.rw 0 X.items.length,.i .u64 X.cas,.i .i64 X.flush],.c (.i .i64 now),.g (cdS c),.c (.i .i64 most)] Tryz.ntmps12 hat (by simp [SV.wf,SC.wf,wfs,cdS]) (by simp) ?_
 ·rw [← hv]; exact key
 intro C hC hP hk
 have hctr:=mCA_ok w.heap.size (zB1 X now).items hP
 have hce:(⟨c.op,c.mode,c.key,c.val,c.flags,c.exp,c.hasExp,c.cas,c.hasCas,c.delta,c.init,c.down,c.viv,c.vive,c.recache,c.inval⟩:Cd)=c:=rfl
 cases hm:zT0 c with
 | false =>
  (refine zA6 hctr (rs:=res12) true 300 _ _ _ ?_; simp (maxSteps:=1000000) only [VG,ja,jd,qE,qF,qG,qH,qI,qJ,qK,qO,qP,qT,qf,qg,qp,q0t,qu,qv,ev,qw,qy,qz,zA,zB,zC,zD,zE,zF,zG,zI,zJ,zK,zM,↓reduceIte,reduceCtorEq,Value.oneCell',Nat.reduceEqDiff,Nat.reduceAdd,Nat.reduceLT,zP,zQ,zR,zS,zT,zV,zW,zb,zc,zt,zy,hP,hk,res12,kp12,cdS,mCA,zZ5,hm,hvl,hkl,hce])
  exact zY3 hC hres12 rfl rfl
 | true =>
  by_cases h1:now < 1
  ·have h1':decide (now < 1)=true:=decide_eq_true h1
   (refine zA6 hctr (rs:=res12) true 300 _ _ _ ?_; simp (maxSteps:=1000000) only [VG,jZ,ja,jd,je,qE,qF,qG,qH,qI,qJ,qK,qO,qP,qR,qS,qT,qf,qg,qp,q0t,qu,qv,ev,qw,qy,qz,zA,zB,zC,zD,zE,zF,zG,zI,zJ,zK,zM,↓reduceIte,reduceCtorEq,Value.oneCell',Nat.reduceEqDiff,Nat.reduceAdd,Nat.reduceLT,zP,zQ,zR,zS,zT,zV,zW,zb,zc,zt,zy,zz,hP,hk,res12,kp12,cdS,mCA,zZ5,hm,hvl,hkl,hce,h1'])
   exact zY3 hC hres12 rfl rfl
  ·have h1':decide (now < 1)=false:=decide_eq_false h1
   have h2':decide (1099511627776 < now)=true:=decide_eq_true (by have:¬ (1≤now∧now≤1099511627776):=fun h=>hbad ⟨hm,h⟩; omega)
   (refine zA6 hctr (rs:=res12) true 300 _ _ _ ?_; simp (maxSteps:=1000000) only [VG,jZ,je,qE,qF,qG,qH,qI,qJ,qK,qO,qP,qR,qS,qT,qf,qg,qp,q0t,qu,qv,ev,qw,qy,qz,zA,zB,zC,zD,zE,zF,zG,zI,zJ,zK,zM,↓reduceIte,reduceCtorEq,Value.oneCell',Nat.reduceEqDiff,Nat.reduceAdd,Nat.reduceLT,zP,zQ,zR,zS,zT,zV,zW,zb,zc,zt,zz,hP,hk,res12,kp12,cdS,mCA,zZ5,hm,hvl,hkl,hce,h1',h2'])
   exact zY3 hC hres12 rfl rfl
theorem apply_ok (X:St) (v:Value) (now:Int) (c:Cd) (most:Int) (w:World) (ho:OwnI 0 w v X.items) (hs:Sorted X.items) (hl:X.items.length≤10000000)
  (hkl:c.key.length≤9223372036854775807) (hvl:c.val.length≤9223372036854775807) (hm:zT0 c=true) (h1:1≤now) (h2:now≤1099511627776) (hd0:0≤c.delta) (hd1:c.delta < 18446744073709551616) (hi0:0≤c.init) (hi1:c.init < 18446744073709551616) (hE0:Env w)
  (hxb:∀ x∈X.items,x.key.length≤100000000∧x.val.length≤100000000∧-4398046511104≤x.exp∧x.exp≤9223372036854775807) :
  Calls Tryz.prog 12 #[.agg #[v,.int .u64 X.cas,.int .i64 X.flush],.int .i64 now,.agg (cdA c),.int .i64 most] w (AppR (zA9 X now c most) w):=by
 obtain ⟨ρ,hat,hv⟩:=src_at ho
 have key:=zB8 (R:=AppR (zA9 X now c most) w) Tryz.func12 rfl kp12 [.g [.rw 0 X.items.length,.i .u64 X.cas,.i .i64 X.flush],.c (.i .i64 now),.g (cdS c),.c (.i .i64 most)] Tryz.ntmps12 hat (by simp [SV.wf,SC.wf,wfs,cdS]) (by simp) ?_
 ·rw [← hv]; exact key
 intro C hC hP hk
 have hctr:=mCA_ok w.heap.size (zB1 X now).items hP
 have hce:(⟨c.op,c.mode,c.key,c.val,c.flags,c.exp,c.hasExp,c.cas,c.hasCas,c.delta,c.init,c.down,c.viv,c.vive,c.recache,c.inval⟩:Cd)=c:=rfl
 have h1':decide (now < 1)=false:=decide_eq_false (by omega)
 have h2':decide (1099511627776 < now)=false:=decide_eq_false (by omega)
 have hS:∀ k,C.S k→w.heap.size≤k:=by rw [hC]; exact fun k h=>h.elim
 have hE:∀ w1,Upd C.S C.w0 w1→EnvB w.heap.size w1:=by rw [hC]; exact fun w1 hu=>(EnvB.of hE0).upd (Nat.le_refl _) hu (fun k h=>h.elim)
 have hcv:c.val.length≤100000000:=mayB_val hm
 have hw0:C.w0.heap.size=w.heap.size:=by rw [hC]; rfl
 have hn0:C.n0=1:=by rw [hC]; rfl
 (refine zA6 hctr (rs:=res12) true 300 _ _ _ ?_; simp (maxSteps:=1000000) only [VG,jZ,je,qH,qI,qJ,qK,qO,qP,qQ,qR,qS,qT,qV,qf,qg,qk,qp,q0t,qu,qv,ev,qw,qy,qz,zA,zB,zC,zD,zE,zF,zG,zI,zJ,zK,zM,↓reduceIte,reduceCtorEq,Value.oneCell',Nat.reduceEqDiff,Nat.reduceAdd,Nat.reduceLT,zP,zQ,zR,zS,zT,zV,zW,zb,zc,zk,zl,zt,zu,zz,hP,hk,res12,kp12,cdS,mCA,zZ5,hm,hvl,hkl,hce,h1',h2'])
 refine Run_clone (base:=w.heap.size) (d:=0) (xs:=X.items) hP rfl (by rw [hw0]; exact Nat.le_refl _) (by rw [hn0]; simp [zG]) (by omega) rfl (by simp) ?_
 (refine zA6 hctr (rs:=res12) true 300 _ _ _ ?_; simp (maxSteps:=1000000) only [VG,qH,qI,qK,qk,ev,qw,qy,zF,zG,↓reduceIte,Nat.reduceEqDiff,Nat.reduceAdd,Nat.reduceLT,zR,zt,jN,mCA,mC1,mC0])
 refine Run_gone (base:=w.heap.size) (d:=7) (y:=2) (xs:=X.items) (now:=now) hP rfl rfl rfl (by decide) (by rw [hw0]; exact Nat.le_refl _) (by rw [hn0]; simp [zG]) (by omega) rfl (by simp) ?_
 have hop7:c.op=1∨c.op=2∨c.op=3∨c.op=4∨c.op=5∨c.op=6∨c.op=7:=by
  simp only [zT0,Bool.and_eq_true,decide_eq_true_eq] at hm
  omega
 by_cases hfl:X.flush ≠ 0∧X.flush≤now
 ·have hf1:(X.flush != 0)=true:=by simpa using hfl.1
  have hf2:decide (X.flush≤now)=true:=decide_eq_true hfl.2
  (refine zA6 hctr (rs:=res12) true 300 _ _ _ ?_; simp (maxSteps:=1000000) only [VG,jZ,je,qH,qI,qJ,qK,qO,qP,qQ,qR,qS,qV,qp,q0t,qv,ev,qy,qz,zC,zD,zE,zF,zG,zI,zJ,zM,↓reduceIte,reduceCtorEq,Value.oneCell',Nat.reduceEqDiff,Nat.reduceAdd,Nat.reduceLT,zP,zQ,zR,zS,zV,zb,zc,zt,zu,zy,zA4,jN,hP,hk,res12,kp12,zG3,srcE,zA4,hf1,hf2])
  have hY:zB1 X now={ X with items:=[],flush:=0 }:=by unfold zB1; rw [if_pos hfl]
  have hY0:(zB1 X now).items=[]:=by rw [hY]
  have hxb:∀ x:It,x∈([]:List It)→x.key.length≤100000000∧x.val.length≤100000000∧-4398046511104≤x.exp∧x.exp≤9223372036854775807:=fun x hx=>by cases hx
  have hys2:([]:List It).length≤10000000:=by simp
  (refine zA1 hctr (by rw [hP]; rfl) rs12_7 [] (ensure_type_of% (Cmp.of (by simp (maxSteps := 1000000) only [qK, qO, qP, qQ, qV, qh, q0t, qv, ev, qw, qy, zC, zD, zE, zF, zG, TE.sv, zM, ↓reduceIte, Nat.reduceEqDiff, Nat.reduceAdd, zP, zt, zu, cD, cO, jC, jD, jH, jN, hP, mCA, zJ6, hY0]; rfl)) "" Cmp.mk) (by kernel_rfl) (by kernel_rfl) (by first | exact zA2 _ | kernel_rfl) (by kernel_rfl) (by rfl) (by rfl) (by first | exact zA0 _ | rfl) (by rfl) (by simp (maxSteps := 1000000) only [qK, qO, qP, qQ, qV, qh, q0t, qv, ev, qw, qy, zC, zD, zE, zG, TE.sv, zM, ↓reduceIte, Nat.reduceEqDiff, Nat.reduceAdd, Nat.reduceLT, Nat.reduceSub, zP, zS, zT, zn, zo, zt, zu, jD, jH, jI, jN, jP, jQ, jR, jS, jT, jV, jW, jX, jY, hP, mCA, zJ6, hY0]) ?_; refine zA6 hctr (rs := res12) true 300 _ _ _ ?_; simp (maxSteps := 1000000) only [VG, qH, qI, qK, qO, qP, qR, qS, qV, ev, qy, qz, zD, zF, zG, zI, zJ, zM, ↓reduceIte, reduceCtorEq, Nat.reduceEqDiff, Nat.reduceAdd, Nat.reduceLT, zP, zQ, zR, zd, ze, zt, zu, jN, jO, hP, hk, res12, kp12, hY0])
  rcases hop7 with hop | hop | hop | hop | hop | hop | hop
  ·have b1:(c.op == 1)=true:=by simp [hop]
   have n1:(c.op=1)=True:=by simp [hop]
   have b2:(c.op == 2)=false:=by simp [hop]
   have n2:(c.op=2)=False:=by simp [hop]
   have b3:(c.op == 3)=false:=by simp [hop]
   have n3:(c.op=3)=False:=by simp [hop]
   have b4:(c.op == 4)=false:=by simp [hop]
   have n4:(c.op=4)=False:=by simp [hop]
   have b7:(c.op == 7)=false:=by simp [hop]
   have n7:(c.op=7)=False:=by simp [hop]
   have b5:(c.op == 5)=false:=by simp [hop]
   have n5:(c.op=5)=False:=by simp [hop]
   have b6:(c.op == 6)=false:=by simp [hop]
   have n6:(c.op=6)=False:=by simp [hop]
   simp (maxSteps:=1000000) only [VG,qH,qI,qK,qO,ev,qw,qy,↓reduceIte,Nat.reduceEqDiff,Nat.reduceLT,zR,zS,zV,zb,zc,not_true_eq_false,mCA,mC1,mC0,b1,n1]
   have hA:zA9 X now c most=getF ({ X with items:=[],flush:=0 }:St) now c (atF [] c.key) (isF [] c.key):=by unfold zA9; rw [if_pos ⟨hm,h1,h2⟩,hY]; simp [doF,hop]
   refine zY4 (z:=6) (base:=w.heap.size) (X:=({ X with items:=[],flush:=0 }:St)) (X':=(getF ({ X with items:=[],flush:=0 }:St) now c (atF [] c.key) (isF [] c.key)).1) (now:=now) (c:=c) (most:=most) (i:=(atF [] c.key)) (is:=(isF [] c.key)) (an:=(getF ({ X with items:=[],flush:=0 }:St) now c (atF [] c.key) (isF [] c.key)).2) hP Tryz.call34 rfl rfl (by rw [hw0]; exact Nat.le_refl _) hS (by rw [hn0]; simp [zG]) (fun w1 g v hu1 hb1 hW=>?_) rfl (by simp) ?_
   ·exact get_op _ g v _ now c most _ _ w1 hW hb1 (zN2 _ _) zG7 (Nat.le_trans hys2 (by decide)) h1 h2 (fun x hx=>⟨(hxb x (List.mem_of_getElem? hx)).2.2.1,(hxb x (List.mem_of_getElem? hx)).2.2.2⟩)
   (refine zA6 hctr (rs:=res12) true 300 _ _ _ ?_; simp (maxSteps:=1000000) only [VG,qH,qJ,q0t,qu,qv,ev,qy,zC,zD,zE,zF,zG,zI,zJ,zM,↓reduceIte,reduceCtorEq,Nat.reduceEqDiff,Nat.reduceAdd,zP,zQ,zt,jN,hP,hk,kp12,anS,woE,woS,zG3])
   (refine zA1 hctr (by rw [hP]; rfl) rs12_29 [] (ensure_type_of% (Cmp.of (by simp (maxSteps := 1000000) only [qK, qO, qP, qQ, qV, q0t, qu, qv, ev, qy, zA, zB, zC, zD, zE, zF, zG, zM, ↓reduceIte, Nat.reduceEqDiff, Nat.reduceAdd, zP, zt, zu, cD, cO, jC, jD, jH, jN, hP]; rfl)) "" Cmp.mk) (by kernel_rfl) (by kernel_rfl) (by first | exact zA2 _ | kernel_rfl) (by kernel_rfl) (by rfl) (by rfl) (by first | exact zA0 _ | rfl) (by rfl) (by simp (maxSteps := 1000000) only [qK, qO, qP, qQ, qV, q0t, qu, qv, ev, qy, zA, zB, zC, zD, zE, zG, zM, ↓reduceIte, Nat.reduceEqDiff, Nat.reduceAdd, zP, zT, zn, zt, zu, jD, jH, jN, jP, jQ, jR, jS, jT, hP]) ?_; refine zA6 hctr (rs := res12) true 300 _ _ _ ?_; simp (maxSteps := 1000000) only [VG, qE, qF, qG, qP, qy, zA, zB, zD, zG, zI, zJ, zM, ↓reduceIte, reduceCtorEq, Nat.reduceEqDiff, Nat.reduceAdd, zP, zQ, zt, jN, jO, hP, hk, res12, kp12])
   exact zI4 hC hres12 (d:=10) (by rw [hA]; rfl) (by rw [hA]; rfl)
  ·have b1:(c.op == 1)=false:=by simp [hop]
   have n1:(c.op=1)=False:=by simp [hop]
   have b2:(c.op == 2)=true:=by simp [hop]
   have n2:(c.op=2)=True:=by simp [hop]
   have b3:(c.op == 3)=false:=by simp [hop]
   have n3:(c.op=3)=False:=by simp [hop]
   have b4:(c.op == 4)=false:=by simp [hop]
   have n4:(c.op=4)=False:=by simp [hop]
   have b7:(c.op == 7)=false:=by simp [hop]
   have n7:(c.op=7)=False:=by simp [hop]
   have b5:(c.op == 5)=false:=by simp [hop]
   have n5:(c.op=5)=False:=by simp [hop]
   have b6:(c.op == 6)=false:=by simp [hop]
   have n6:(c.op=6)=False:=by simp [hop]
   simp (maxSteps:=1000000) only [VG,qH,qI,qK,qO,qR,qS,ev,qw,qy,qz,zI,zJ,↓reduceIte,reduceCtorEq,Nat.reduceEqDiff,Nat.reduceLT,zP,zQ,zR,zS,zV,zW,zb,zc,hk,kp12,not_false_eq_true,mCA,mC1,mC0,b1,n1,b2]
   have hA:zA9 X now c most=zA8 ({ X with items:=[],flush:=0 }:St) now c most (atF [] c.key) (isF [] c.key):=by unfold zA9; rw [if_pos ⟨hm,h1,h2⟩,hY]; simp [doF,hop]
   refine zY4 (z:=6) (base:=w.heap.size) (X:=({ X with items:=[],flush:=0 }:St)) (X':=(zA8 ({ X with items:=[],flush:=0 }:St) now c most (atF [] c.key) (isF [] c.key)).1) (now:=now) (c:=c) (most:=most) (i:=(atF [] c.key)) (is:=(isF [] c.key)) (an:=(zA8 ({ X with items:=[],flush:=0 }:St) now c most (atF [] c.key) (isF [] c.key)).2) hP Tryz.call35 rfl rfl (by rw [hw0]; exact Nat.le_refl _) hS (by rw [hn0]; simp [zG]) (fun w1 g v hu1 hb1 hW=>?_) rfl (by simp) ?_
   ·have hck:=zO5 hm (by omega)
    exact store_op _ g v _ now c most _ _ w1 hW hb1 (zN2 _ _) zG7 (Nat.le_trans hys2 (by decide)) h1 h2 hck hcv (fun x hx=>⟨(hxb x (List.mem_of_getElem? hx)).1,(hxb x (List.mem_of_getElem? hx)).2.1⟩)
   (refine zA6 hctr (rs:=res12) true 300 _ _ _ ?_; simp (maxSteps:=1000000) only [VG,qH,qJ,q0t,qu,qv,ev,qy,zC,zD,zE,zF,zG,zI,zJ,zM,↓reduceIte,reduceCtorEq,Nat.reduceEqDiff,Nat.reduceAdd,zP,zQ,zt,jN,hP,hk,kp12,anS,woE,woS,zG3])
   (refine zA1 hctr (by rw [hP]; rfl) rs12_29 [] (ensure_type_of% (Cmp.of (by simp (maxSteps := 1000000) only [qK, qO, qP, qQ, qV, q0t, qu, qv, ev, qy, zA, zB, zC, zD, zE, zF, zG, zM, ↓reduceIte, Nat.reduceEqDiff, Nat.reduceAdd, zP, zt, zu, cD, cO, jC, jD, jH, jN, hP]; rfl)) "" Cmp.mk) (by kernel_rfl) (by kernel_rfl) (by first | exact zA2 _ | kernel_rfl) (by kernel_rfl) (by rfl) (by rfl) (by first | exact zA0 _ | rfl) (by rfl) (by simp (maxSteps := 1000000) only [qK, qO, qP, qQ, qV, q0t, qu, qv, ev, qy, zA, zB, zC, zD, zE, zG, zM, ↓reduceIte, Nat.reduceEqDiff, Nat.reduceAdd, zP, zT, zn, zt, zu, jD, jH, jN, jP, jQ, jR, jS, jT, hP]) ?_; refine zA6 hctr (rs := res12) true 300 _ _ _ ?_; simp (maxSteps := 1000000) only [VG, qE, qF, qG, qP, qy, zA, zB, zD, zG, zI, zJ, zM, ↓reduceIte, reduceCtorEq, Nat.reduceEqDiff, Nat.reduceAdd, zP, zQ, zt, jN, jO, hP, hk, res12, kp12])
   exact zI4 hC hres12 (d:=10) (by rw [hA]; rfl) (by rw [hA]; rfl)
  ·have b1:(c.op == 1)=false:=by simp [hop]
   have n1:(c.op=1)=False:=by simp [hop]
   have b2:(c.op == 2)=false:=by simp [hop]
   have n2:(c.op=2)=False:=by simp [hop]
   have b3:(c.op == 3)=true:=by simp [hop]
   have n3:(c.op=3)=True:=by simp [hop]
   have b4:(c.op == 4)=false:=by simp [hop]
   have n4:(c.op=4)=False:=by simp [hop]
   have b7:(c.op == 7)=false:=by simp [hop]
   have n7:(c.op=7)=False:=by simp [hop]
   have b5:(c.op == 5)=false:=by simp [hop]
   have n5:(c.op=5)=False:=by simp [hop]
   have b6:(c.op == 6)=false:=by simp [hop]
   have n6:(c.op=6)=False:=by simp [hop]
   simp (maxSteps:=1000000) only [VG,qH,qI,qK,qO,qR,qS,ev,qw,qy,qz,zI,zJ,↓reduceIte,reduceCtorEq,Nat.reduceEqDiff,Nat.reduceLT,zP,zQ,zR,zS,zV,zW,zb,zc,hk,kp12,not_false_eq_true,mCA,mC1,mC0,b1,n1,b2,b3]
   have hA:zA9 X now c most=zD3 ({ X with items:=[],flush:=0 }:St) now c most (atF [] c.key) (isF [] c.key):=by unfold zA9; rw [if_pos ⟨hm,h1,h2⟩,hY]; simp [doF,hop]
   refine zY4 (z:=6) (base:=w.heap.size) (X:=({ X with items:=[],flush:=0 }:St)) (X':=(zD3 ({ X with items:=[],flush:=0 }:St) now c most (atF [] c.key) (isF [] c.key)).1) (now:=now) (c:=c) (most:=most) (i:=(atF [] c.key)) (is:=(isF [] c.key)) (an:=(zD3 ({ X with items:=[],flush:=0 }:St) now c most (atF [] c.key) (isF [] c.key)).2) hP Tryz.call36 rfl rfl (by rw [hw0]; exact Nat.le_refl _) hS (by rw [hn0]; simp [zG]) (fun w1 g v hu1 hb1 hW=>?_) rfl (by simp) ?_
   ·have hck:=zO5 hm (by omega)
    exact math_op _ g v _ now c most _ _ w1 hW hb1 (zN2 _ _) zG7 (Nat.le_trans hys2 (by decide)) h1 h2 hck hd0 hd1 hi0 hi1 (hE w1 hu1) (fun x hx=>⟨(hxb x (List.mem_of_getElem? hx)).1,(hxb x (List.mem_of_getElem? hx)).2.1⟩)
   (refine zA6 hctr (rs:=res12) true 300 _ _ _ ?_; simp (maxSteps:=1000000) only [VG,qH,qJ,q0t,qu,qv,ev,qy,zC,zD,zE,zF,zG,zI,zJ,zM,↓reduceIte,reduceCtorEq,Nat.reduceEqDiff,Nat.reduceAdd,zP,zQ,zt,jN,hP,hk,kp12,anS,woE,woS,zG3])
   (refine zA1 hctr (by rw [hP]; rfl) rs12_29 [] (ensure_type_of% (Cmp.of (by simp (maxSteps := 1000000) only [qK, qO, qP, qQ, qV, q0t, qu, qv, ev, qy, zA, zB, zC, zD, zE, zF, zG, zM, ↓reduceIte, Nat.reduceEqDiff, Nat.reduceAdd, zP, zt, zu, cD, cO, jC, jD, jH, jN, hP]; rfl)) "" Cmp.mk) (by kernel_rfl) (by kernel_rfl) (by first | exact zA2 _ | kernel_rfl) (by kernel_rfl) (by rfl) (by rfl) (by first | exact zA0 _ | rfl) (by rfl) (by simp (maxSteps := 1000000) only [qK, qO, qP, qQ, qV, q0t, qu, qv, ev, qy, zA, zB, zC, zD, zE, zG, zM, ↓reduceIte, Nat.reduceEqDiff, Nat.reduceAdd, zP, zT, zn, zt, zu, jD, jH, jN, jP, jQ, jR, jS, jT, hP]) ?_; refine zA6 hctr (rs := res12) true 300 _ _ _ ?_; simp (maxSteps := 1000000) only [VG, qE, qF, qG, qP, qy, zA, zB, zD, zG, zI, zJ, zM, ↓reduceIte, reduceCtorEq, Nat.reduceEqDiff, Nat.reduceAdd, zP, zQ, zt, jN, jO, hP, hk, res12, kp12])
   exact zI4 hC hres12 (d:=10) (by rw [hA]; rfl) (by rw [hA]; rfl)
  ·have b1:(c.op == 1)=false:=by simp [hop]
   have n1:(c.op=1)=False:=by simp [hop]
   have b2:(c.op == 2)=false:=by simp [hop]
   have n2:(c.op=2)=False:=by simp [hop]
   have b3:(c.op == 3)=false:=by simp [hop]
   have n3:(c.op=3)=False:=by simp [hop]
   have b4:(c.op == 4)=true:=by simp [hop]
   have n4:(c.op=4)=True:=by simp [hop]
   have b7:(c.op == 7)=false:=by simp [hop]
   have n7:(c.op=7)=False:=by simp [hop]
   have b5:(c.op == 5)=false:=by simp [hop]
   have n5:(c.op=5)=False:=by simp [hop]
   have b6:(c.op == 6)=false:=by simp [hop]
   have n6:(c.op=6)=False:=by simp [hop]
   simp (maxSteps:=1000000) only [VG,qH,qI,qJ,qK,qO,qP,qQ,qR,qS,qV,q0t,qu,qv,ev,qw,qy,qz,zC,zD,zE,zG,zI,zJ,zM,↓reduceIte,reduceCtorEq,Nat.reduceEqDiff,Nat.reduceAdd,Nat.reduceLT,zP,zQ,zR,zS,zV,zW,zb,zc,zt,hP,hk,kp12,not_false_eq_true,mCA,mC1,mC0,zB5,zA7,It.zero,anS,b1,n1,b2,b3,b4]
   have hI:isF [] c.key=false:=rfl
   have hA:zA9 X now c most=(({ X with items:=[],flush:=0 }:St),zA7 5):=by unfold zA9; rw [if_pos ⟨hm,h1,h2⟩,hY]; simp [doF,hop,zV1,hI]
   simp (maxSteps:=1000000) only [VG,reduceCtorEq,zR,zW,zb,zc,hI]
   (refine zA1 hctr (by rw [hP]; rfl) rs12_29 [] (ensure_type_of% (Cmp.of (by simp (maxSteps := 1000000) only [qK, qO, qP, qQ, qV, q0t, qu, qv, ev, qy, zA, zB, zC, zD, zE, zF, zG, zM, ↓reduceIte, Value.oneCell', Nat.reduceEqDiff, Nat.reduceAdd, zP, zt, zu, cD, cO, jC, jD, jH, jN, hP]; rfl)) "" Cmp.mk) (by kernel_rfl) (by kernel_rfl) (by first | exact zA2 _ | kernel_rfl) (by kernel_rfl) (by rfl) (by rfl) (by first | exact zA0 _ | rfl) (by rfl) (by simp (maxSteps := 1000000) only [qK, qO, qP, qQ, qV, q0t, qu, qv, ev, qy, zA, zB, zC, zD, zE, zG, zM, ↓reduceIte, Value.oneCell', Nat.reduceEqDiff, Nat.reduceAdd, zP, zT, zn, zt, zu, jD, jH, jN, jP, jQ, jR, jS, jT, hP]) ?_; refine zA6 hctr (rs := res12) true 300 _ _ _ ?_; simp (maxSteps := 1000000) only [VG, qE, qF, qG, qP, qy, zA, zB, zD, zG, zI, zJ, zM, ↓reduceIte, reduceCtorEq, Nat.reduceEqDiff, Nat.reduceAdd, zP, zQ, zt, jN, jO, hP, hk, res12, kp12])
   exact zY3 hC hres12 (by rw [hA]) (by rw [hA]; rfl)
  ·have b1:(c.op == 1)=false:=by simp [hop]
   have n1:(c.op=1)=False:=by simp [hop]
   have b2:(c.op == 2)=false:=by simp [hop]
   have n2:(c.op=2)=False:=by simp [hop]
   have b3:(c.op == 3)=false:=by simp [hop]
   have n3:(c.op=3)=False:=by simp [hop]
   have b4:(c.op == 4)=false:=by simp [hop]
   have n4:(c.op=4)=False:=by simp [hop]
   have b7:(c.op == 7)=false:=by simp [hop]
   have n7:(c.op=7)=False:=by simp [hop]
   have b5:(c.op == 5)=true:=by simp [hop]
   have n5:(c.op=5)=True:=by simp [hop]
   have b6:(c.op == 6)=false:=by simp [hop]
   have n6:(c.op=6)=False:=by simp [hop]
   simp (maxSteps:=1000000) only [VG,qH,qI,qK,qO,qR,qS,ev,qw,qy,qz,zI,zJ,↓reduceIte,reduceCtorEq,Nat.reduceEqDiff,Nat.reduceLT,zP,zQ,zR,zS,zV,zW,zb,zc,hk,kp12,not_false_eq_true,mCA,mC1,mC0,b1,n1,b2,b3,b4,b7,b5]
   have hA:zA9 X now c most=zD1 ({ X with items:=[],flush:=0 }:St) now c (atF [] c.key) (isF [] c.key):=by unfold zA9; rw [if_pos ⟨hm,h1,h2⟩,hY]; simp [doF,hop]
   refine zY4 (z:=6) (base:=w.heap.size) (X:=({ X with items:=[],flush:=0 }:St)) (X':=(zD1 ({ X with items:=[],flush:=0 }:St) now c (atF [] c.key) (isF [] c.key)).1) (now:=now) (c:=c) (most:=most) (i:=(atF [] c.key)) (is:=(isF [] c.key)) (an:=(zD1 ({ X with items:=[],flush:=0 }:St) now c (atF [] c.key) (isF [] c.key)).2) hP Tryz.call40 rfl rfl (by rw [hw0]; exact Nat.le_refl _) hS (by rw [hn0]; simp [zG]) (fun w1 g v hu1 hb1 hW=>?_) rfl (by simp) ?_
   ·exact zV7 _ g v _ now c most _ _ w1 hW hb1 (zN2 _ _) zG7 (Nat.le_trans hys2 (by decide)) h1 h2
   (refine zA6 hctr (rs:=res12) true 300 _ _ _ ?_; simp (maxSteps:=1000000) only [VG,qH,qJ,q0t,qu,qv,ev,qy,zC,zD,zE,zF,zG,zI,zJ,zM,↓reduceIte,reduceCtorEq,Nat.reduceEqDiff,Nat.reduceAdd,zP,zQ,zt,jN,hP,hk,kp12,anS,woE,woS,zG3])
   (refine zA1 hctr (by rw [hP]; rfl) rs12_29 [] (ensure_type_of% (Cmp.of (by simp (maxSteps := 1000000) only [qK, qO, qP, qQ, qV, q0t, qu, qv, ev, qy, zA, zB, zC, zD, zE, zF, zG, zM, ↓reduceIte, Nat.reduceEqDiff, Nat.reduceAdd, zP, zt, zu, cD, cO, jC, jD, jH, jN, hP]; rfl)) "" Cmp.mk) (by kernel_rfl) (by kernel_rfl) (by first | exact zA2 _ | kernel_rfl) (by kernel_rfl) (by rfl) (by rfl) (by first | exact zA0 _ | rfl) (by rfl) (by simp (maxSteps := 1000000) only [qK, qO, qP, qQ, qV, q0t, qu, qv, ev, qy, zA, zB, zC, zD, zE, zG, zM, ↓reduceIte, Nat.reduceEqDiff, Nat.reduceAdd, zP, zT, zn, zt, zu, jD, jH, jN, jP, jQ, jR, jS, jT, hP]) ?_; refine zA6 hctr (rs := res12) true 300 _ _ _ ?_; simp (maxSteps := 1000000) only [VG, qE, qF, qG, qP, qy, zA, zB, zD, zG, zI, zJ, zM, ↓reduceIte, reduceCtorEq, Nat.reduceEqDiff, Nat.reduceAdd, zP, zQ, zt, jN, jO, hP, hk, res12, kp12])
   exact zI4 hC hres12 (d:=10) (by rw [hA]; rfl) (by rw [hA]; rfl)
  ·have b1:(c.op == 1)=false:=by simp [hop]
   have n1:(c.op=1)=False:=by simp [hop]
   have b2:(c.op == 2)=false:=by simp [hop]
   have n2:(c.op=2)=False:=by simp [hop]
   have b3:(c.op == 3)=false:=by simp [hop]
   have n3:(c.op=3)=False:=by simp [hop]
   have b4:(c.op == 4)=false:=by simp [hop]
   have n4:(c.op=4)=False:=by simp [hop]
   have b7:(c.op == 7)=false:=by simp [hop]
   have n7:(c.op=7)=False:=by simp [hop]
   have b5:(c.op == 5)=false:=by simp [hop]
   have n5:(c.op=5)=False:=by simp [hop]
   have b6:(c.op == 6)=true:=by simp [hop]
   have n6:(c.op=6)=True:=by simp [hop]
   simp (maxSteps:=1000000) only [VG,qH,qI,qK,qO,qR,qS,ev,qw,qy,qz,zI,zJ,↓reduceIte,reduceCtorEq,Nat.reduceEqDiff,Nat.reduceLT,zP,zQ,zR,zS,zV,zW,zb,zc,hk,kp12,not_false_eq_true,mCA,mC1,mC0,b1,n1,b2,b3,b4,b7,b5,b6]
   have hA:zA9 X now c most=zI2 ({ X with items:=[],flush:=0 }:St) now c:=by unfold zA9; rw [if_pos ⟨hm,h1,h2⟩,hY]; simp [doF,hop]
   refine zY4 (z:=6) (base:=w.heap.size) (X:=({ X with items:=[],flush:=0 }:St)) (X':=(zI2 ({ X with items:=[],flush:=0 }:St) now c).1) (now:=now) (c:=c) (most:=most) (i:=(atF [] c.key)) (is:=(isF [] c.key)) (an:=(zI2 ({ X with items:=[],flush:=0 }:St) now c).2) hP Tryz.call41 rfl rfl (by rw [hw0]; exact Nat.le_refl _) hS (by rw [hn0]; simp [zG]) (fun w1 g v hu1 hb1 hW=>?_) rfl (by simp) ?_
   ·exact flush_op _ g v _ now c most _ _ w1 hW hb1 zG7 h1 h2
   (refine zA6 hctr (rs:=res12) true 300 _ _ _ ?_; simp (maxSteps:=1000000) only [VG,qH,qJ,q0t,qu,qv,ev,qy,zC,zD,zE,zF,zG,zI,zJ,zM,↓reduceIte,reduceCtorEq,Nat.reduceEqDiff,Nat.reduceAdd,zP,zQ,zt,jN,hP,hk,kp12,anS,woE,woS,zG3])
   (refine zA1 hctr (by rw [hP]; rfl) rs12_29 [] (ensure_type_of% (Cmp.of (by simp (maxSteps := 1000000) only [qK, qO, qP, qQ, qV, q0t, qu, qv, ev, qy, zA, zB, zC, zD, zE, zF, zG, zM, ↓reduceIte, Nat.reduceEqDiff, Nat.reduceAdd, zP, zt, zu, cD, cO, jC, jD, jH, jN, hP]; rfl)) "" Cmp.mk) (by kernel_rfl) (by kernel_rfl) (by first | exact zA2 _ | kernel_rfl) (by kernel_rfl) (by rfl) (by rfl) (by first | exact zA0 _ | rfl) (by rfl) (by simp (maxSteps := 1000000) only [qK, qO, qP, qQ, qV, q0t, qu, qv, ev, qy, zA, zB, zC, zD, zE, zG, zM, ↓reduceIte, Nat.reduceEqDiff, Nat.reduceAdd, zP, zT, zn, zt, zu, jD, jH, jN, jP, jQ, jR, jS, jT, hP]) ?_; refine zA6 hctr (rs := res12) true 300 _ _ _ ?_; simp (maxSteps := 1000000) only [VG, qE, qF, qG, qP, qy, zA, zB, zD, zG, zI, zJ, zM, ↓reduceIte, reduceCtorEq, Nat.reduceEqDiff, Nat.reduceAdd, zP, zQ, zt, jN, jO, hP, hk, res12, kp12])
   exact zI4 hC hres12 (d:=10) (by rw [hA]; rfl) (by rw [hA]; rfl)
  ·have b1:(c.op == 1)=false:=by simp [hop]
   have n1:(c.op=1)=False:=by simp [hop]
   have b2:(c.op == 2)=false:=by simp [hop]
   have n2:(c.op=2)=False:=by simp [hop]
   have b3:(c.op == 3)=false:=by simp [hop]
   have n3:(c.op=3)=False:=by simp [hop]
   have b4:(c.op == 4)=false:=by simp [hop]
   have n4:(c.op=4)=False:=by simp [hop]
   have b7:(c.op == 7)=true:=by simp [hop]
   have n7:(c.op=7)=True:=by simp [hop]
   have b5:(c.op == 5)=false:=by simp [hop]
   have n5:(c.op=5)=False:=by simp [hop]
   have b6:(c.op == 6)=false:=by simp [hop]
   have n6:(c.op=6)=False:=by simp [hop]
   simp (maxSteps:=1000000) only [VG,qH,qI,qJ,qK,qO,qP,qQ,qR,qS,qV,q0t,qu,qv,ev,qw,qy,qz,zC,zD,zE,zG,zI,zJ,zM,↓reduceIte,reduceCtorEq,Nat.reduceEqDiff,Nat.reduceAdd,Nat.reduceLT,zP,zQ,zR,zS,zV,zW,zb,zc,zt,hP,hk,kp12,not_false_eq_true,mCA,mC1,mC0,zB5,zA7,It.zero,anS,b1,n1,b2,b3,b4,b7]
   have hI:isF [] c.key=false:=rfl
   have hA:zA9 X now c most=(({ X with items:=[],flush:=0 }:St),zA7 5):=by unfold zA9; rw [if_pos ⟨hm,h1,h2⟩,hY]; simp [doF,hop,lookF,hI]
   simp (maxSteps:=1000000) only [VG,reduceCtorEq,zR,zW,zb,zc,hI]
   (refine zA1 hctr (by rw [hP]; rfl) rs12_29 [] (ensure_type_of% (Cmp.of (by simp (maxSteps := 1000000) only [qK, qO, qP, qQ, qV, q0t, qu, qv, ev, qy, zA, zB, zC, zD, zE, zF, zG, zM, ↓reduceIte, Value.oneCell', Nat.reduceEqDiff, Nat.reduceAdd, zP, zt, zu, cD, cO, jC, jD, jH, jN, hP]; rfl)) "" Cmp.mk) (by kernel_rfl) (by kernel_rfl) (by first | exact zA2 _ | kernel_rfl) (by kernel_rfl) (by rfl) (by rfl) (by first | exact zA0 _ | rfl) (by rfl) (by simp (maxSteps := 1000000) only [qK, qO, qP, qQ, qV, q0t, qu, qv, ev, qy, zA, zB, zC, zD, zE, zG, zM, ↓reduceIte, Value.oneCell', Nat.reduceEqDiff, Nat.reduceAdd, zP, zT, zn, zt, zu, jD, jH, jN, jP, jQ, jR, jS, jT, hP]) ?_; refine zA6 hctr (rs := res12) true 300 _ _ _ ?_; simp (maxSteps := 1000000) only [VG, qE, qF, qG, qP, qy, zA, zB, zD, zG, zI, zJ, zM, ↓reduceIte, reduceCtorEq, Nat.reduceEqDiff, Nat.reduceAdd, zP, zQ, zt, jN, jO, hP, hk, res12, kp12])
   exact zY3 hC hres12 (by rw [hA]) (by rw [hA]; rfl)
 ·obtain ⟨ys,hys⟩:∃ ys,ys=X.items.filter fun x=>!zE2 now x:=⟨_,rfl⟩
  have hY:zB1 X now={ X with items:=ys }:=by unfold zB1; rw [if_neg hfl,hys]
  have hYi:(zB1 X now).items=ys:=by rw [hY]
  have hxb:∀ x:It,x∈ys→x.key.length≤100000000∧x.val.length≤100000000∧-4398046511104≤x.exp∧x.exp≤9223372036854775807:=fun x hx=>hxb x (by rw [hys] at hx; exact (List.mem_filter.1 hx).1)
  rw [← hys]
  have hys1:Sorted ys:=by rw [hys]; exact hs.filter _
  have hys2:ys.length≤10000000:=by rw [hys]; exact Nat.le_trans (List.length_filter_le _ _) hl
  have hys3:ys.length≤1000000000:=by omega
  by_cases hf:X.flush=0
  ·have hf1:(X.flush != 0)=false:=by simp [hf]
   (refine zA6 hctr (rs:=res12) true 300 _ _ _ ?_; simp (maxSteps:=1000000) only [VG,ja,jd,qH,qI,qJ,qK,qO,qP,qQ,qR,qS,qV,qp,q0t,qv,ev,qy,qz,zC,zD,zE,zF,zG,zI,zJ,zM,↓reduceIte,reduceCtorEq,Nat.reduceEqDiff,Nat.reduceAdd,Nat.reduceLT,zP,zQ,zR,zV,zW,zb,zc,zt,zu,zz,zA4,jN,hP,hk,res12,kp12,zG3,srcE,zA4,hf1])
   (refine zA1 hctr (by rw [hP]; rfl) rs12_7 [] (ensure_type_of% (Cmp.of (by simp (maxSteps := 1000000) only [qK, qO, qP, qQ, qV, qh, q0t, qv, ev, qw, qy, zC, zD, zE, zF, zG, TE.sv, zM, ↓reduceIte, Nat.reduceEqDiff, Nat.reduceAdd, zP, zT, zt, zu, cD, cO, jC, jD, jH, jI, jN, hP, mCA, zJ6, hYi, hys1, hys3]; rfl)) "" Cmp.mk) (by kernel_rfl) (by kernel_rfl) (by first | exact zA2 _ | kernel_rfl) (by kernel_rfl) (by rfl) (by rfl) (by first | exact zA0 _ | rfl) (by rfl) (by simp (maxSteps := 1000000) only [qK, qO, qP, qQ, qV, qh, q0t, qv, ev, qw, qy, zC, zD, zE, zG, TE.sv, zM, ↓reduceIte, Nat.reduceEqDiff, Nat.reduceAdd, Nat.reduceLT, Nat.reduceSub, zP, zR, zS, zT, zn, zo, zt, zu, jD, jH, jI, jN, jP, jQ, jR, jS, jT, jV, jW, jX, jY, hP, mCA, zJ6, hYi, hys1, hys3]) ?_; refine zA6 hctr (rs := res12) true 300 _ _ _ ?_; simp (maxSteps := 1000000) only [VG, qH, qI, qK, qO, qP, qR, qS, qV, ev, qy, qz, zD, zF, zG, zI, zJ, zM, ↓reduceIte, reduceCtorEq, Nat.reduceEqDiff, Nat.reduceAdd, Nat.reduceLT, zP, zQ, zR, zd, ze, zt, zu, jN, jO, hP, hk, res12, kp12, hYi])
   rcases hop7 with hop | hop | hop | hop | hop | hop | hop
   ·have b1:(c.op == 1)=true:=by simp [hop]
    have n1:(c.op=1)=True:=by simp [hop]
    have b2:(c.op == 2)=false:=by simp [hop]
    have n2:(c.op=2)=False:=by simp [hop]
    have b3:(c.op == 3)=false:=by simp [hop]
    have n3:(c.op=3)=False:=by simp [hop]
    have b4:(c.op == 4)=false:=by simp [hop]
    have n4:(c.op=4)=False:=by simp [hop]
    have b7:(c.op == 7)=false:=by simp [hop]
    have n7:(c.op=7)=False:=by simp [hop]
    have b5:(c.op == 5)=false:=by simp [hop]
    have n5:(c.op=5)=False:=by simp [hop]
    have b6:(c.op == 6)=false:=by simp [hop]
    have n6:(c.op=6)=False:=by simp [hop]
    simp (maxSteps:=1000000) only [VG,qH,qI,qK,qO,ev,qw,qy,↓reduceIte,Nat.reduceEqDiff,Nat.reduceLT,zR,zS,zV,zb,zc,not_true_eq_false,mCA,mC1,mC0,b1,n1]
    have hA:zA9 X now c most=getF ({ X with items:=ys }:St) now c (atF ys c.key) (isF ys c.key):=by unfold zA9; rw [if_pos ⟨hm,h1,h2⟩,hY]; simp [doF,hop]
    refine zP6 (z:=6) (d:=8) (base:=w.heap.size) (X:=({ X with items:=ys }:St)) (X':=(getF ({ X with items:=ys }:St) now c (atF ys c.key) (isF ys c.key)).1) (now:=now) (c:=c) (most:=most) (i:=(atF ys c.key)) (is:=(isF ys c.key)) (an:=(getF ({ X with items:=ys }:St) now c (atF ys c.key) (isF ys c.key)).2) hP Tryz.call34 rfl rfl (by decide) (by rw [hw0]; exact Nat.le_refl _) hS (by rw [hn0]; simp [zG]) (fun w1 g v hu1 hb1 hW=>?_) rfl (by simp) ?_
    ·exact get_op _ g v _ now c most _ _ w1 hW hb1 (zN2 _ _) zG7 (Nat.le_trans hys2 (by decide)) h1 h2 (fun x hx=>⟨(hxb x (List.mem_of_getElem? hx)).2.2.1,(hxb x (List.mem_of_getElem? hx)).2.2.2⟩)
    (refine zA6 hctr (rs:=res12) true 300 _ _ _ ?_; simp (maxSteps:=1000000) only [VG,qH,qJ,q0t,qu,qv,ev,qy,zC,zD,zE,zF,zG,zI,zJ,zM,↓reduceIte,reduceCtorEq,Nat.reduceEqDiff,Nat.reduceAdd,zP,zQ,zt,zA4,jN,hP,hk,kp12,anS,woE,woS,zG3,zA4])
    (refine zA1 hctr (by rw [hP]; rfl) rs12_29 [] (ensure_type_of% (Cmp.of (by simp (maxSteps := 1000000) only [qK, qO, qP, qQ, qV, q0t, qu, qv, ev, qy, zA, zB, zC, zD, zE, zF, zG, zM, ↓reduceIte, Nat.reduceEqDiff, Nat.reduceAdd, zP, zt, zu, cD, cO, jC, jD, jH, jN, hP]; rfl)) "" Cmp.mk) (by kernel_rfl) (by kernel_rfl) (by first | exact zA2 _ | kernel_rfl) (by kernel_rfl) (by rfl) (by rfl) (by first | exact zA0 _ | rfl) (by rfl) (by simp (maxSteps := 1000000) only [qK, qO, qP, qQ, qV, q0t, qu, qv, ev, qy, zA, zB, zC, zD, zE, zG, zM, ↓reduceIte, Nat.reduceEqDiff, Nat.reduceAdd, zP, zT, zn, zt, zu, jD, jH, jN, jP, jQ, jR, jS, jT, hP]) ?_; refine zA6 hctr (rs := res12) true 300 _ _ _ ?_; simp (maxSteps := 1000000) only [VG, qE, qF, qG, qP, qy, zA, zB, zD, zG, zI, zJ, zM, ↓reduceIte, reduceCtorEq, Nat.reduceEqDiff, Nat.reduceAdd, zP, zQ, zt, jN, jO, hP, hk, res12, kp12])
    exact zI4 hC hres12 (d:=10) (by rw [hA]; rfl) (by rw [hA]; rfl)
   ·have b1:(c.op == 1)=false:=by simp [hop]
    have n1:(c.op=1)=False:=by simp [hop]
    have b2:(c.op == 2)=true:=by simp [hop]
    have n2:(c.op=2)=True:=by simp [hop]
    have b3:(c.op == 3)=false:=by simp [hop]
    have n3:(c.op=3)=False:=by simp [hop]
    have b4:(c.op == 4)=false:=by simp [hop]
    have n4:(c.op=4)=False:=by simp [hop]
    have b7:(c.op == 7)=false:=by simp [hop]
    have n7:(c.op=7)=False:=by simp [hop]
    have b5:(c.op == 5)=false:=by simp [hop]
    have n5:(c.op=5)=False:=by simp [hop]
    have b6:(c.op == 6)=false:=by simp [hop]
    have n6:(c.op=6)=False:=by simp [hop]
    simp (maxSteps:=1000000) only [VG,qH,qI,qK,qO,qR,qS,ev,qw,qy,qz,zI,zJ,↓reduceIte,reduceCtorEq,Nat.reduceEqDiff,Nat.reduceLT,zP,zQ,zR,zS,zV,zW,zb,zc,hk,kp12,not_false_eq_true,mCA,mC1,mC0,b1,n1,b2]
    have hA:zA9 X now c most=zA8 ({ X with items:=ys }:St) now c most (atF ys c.key) (isF ys c.key):=by unfold zA9; rw [if_pos ⟨hm,h1,h2⟩,hY]; simp [doF,hop]
    refine zP6 (z:=6) (d:=8) (base:=w.heap.size) (X:=({ X with items:=ys }:St)) (X':=(zA8 ({ X with items:=ys }:St) now c most (atF ys c.key) (isF ys c.key)).1) (now:=now) (c:=c) (most:=most) (i:=(atF ys c.key)) (is:=(isF ys c.key)) (an:=(zA8 ({ X with items:=ys }:St) now c most (atF ys c.key) (isF ys c.key)).2) hP Tryz.call35 rfl rfl (by decide) (by rw [hw0]; exact Nat.le_refl _) hS (by rw [hn0]; simp [zG]) (fun w1 g v hu1 hb1 hW=>?_) rfl (by simp) ?_
    ·have hck:=zO5 hm (by omega)
     exact store_op _ g v _ now c most _ _ w1 hW hb1 (zN2 _ _) zG7 (Nat.le_trans hys2 (by decide)) h1 h2 hck hcv (fun x hx=>⟨(hxb x (List.mem_of_getElem? hx)).1,(hxb x (List.mem_of_getElem? hx)).2.1⟩)
    (refine zA6 hctr (rs:=res12) true 300 _ _ _ ?_; simp (maxSteps:=1000000) only [VG,qH,qJ,q0t,qu,qv,ev,qy,zC,zD,zE,zF,zG,zI,zJ,zM,↓reduceIte,reduceCtorEq,Nat.reduceEqDiff,Nat.reduceAdd,zP,zQ,zt,zA4,jN,hP,hk,kp12,anS,woE,woS,zG3,zA4])
    (refine zA1 hctr (by rw [hP]; rfl) rs12_29 [] (ensure_type_of% (Cmp.of (by simp (maxSteps := 1000000) only [qK, qO, qP, qQ, qV, q0t, qu, qv, ev, qy, zA, zB, zC, zD, zE, zF, zG, zM, ↓reduceIte, Nat.reduceEqDiff, Nat.reduceAdd, zP, zt, zu, cD, cO, jC, jD, jH, jN, hP]; rfl)) "" Cmp.mk) (by kernel_rfl) (by kernel_rfl) (by first | exact zA2 _ | kernel_rfl) (by kernel_rfl) (by rfl) (by rfl) (by first | exact zA0 _ | rfl) (by rfl) (by simp (maxSteps := 1000000) only [qK, qO, qP, qQ, qV, q0t, qu, qv, ev, qy, zA, zB, zC, zD, zE, zG, zM, ↓reduceIte, Nat.reduceEqDiff, Nat.reduceAdd, zP, zT, zn, zt, zu, jD, jH, jN, jP, jQ, jR, jS, jT, hP]) ?_; refine zA6 hctr (rs := res12) true 300 _ _ _ ?_; simp (maxSteps := 1000000) only [VG, qE, qF, qG, qP, qy, zA, zB, zD, zG, zI, zJ, zM, ↓reduceIte, reduceCtorEq, Nat.reduceEqDiff, Nat.reduceAdd, zP, zQ, zt, jN, jO, hP, hk, res12, kp12])
    exact zI4 hC hres12 (d:=10) (by rw [hA]; rfl) (by rw [hA]; rfl)
   ·have b1:(c.op == 1)=false:=by simp [hop]
    have n1:(c.op=1)=False:=by simp [hop]
    have b2:(c.op == 2)=false:=by simp [hop]
    have n2:(c.op=2)=False:=by simp [hop]
    have b3:(c.op == 3)=true:=by simp [hop]
    have n3:(c.op=3)=True:=by simp [hop]
    have b4:(c.op == 4)=false:=by simp [hop]
    have n4:(c.op=4)=False:=by simp [hop]
    have b7:(c.op == 7)=false:=by simp [hop]
    have n7:(c.op=7)=False:=by simp [hop]
    have b5:(c.op == 5)=false:=by simp [hop]
    have n5:(c.op=5)=False:=by simp [hop]
    have b6:(c.op == 6)=false:=by simp [hop]
    have n6:(c.op=6)=False:=by simp [hop]
    simp (maxSteps:=1000000) only [VG,qH,qI,qK,qO,qR,qS,ev,qw,qy,qz,zI,zJ,↓reduceIte,reduceCtorEq,Nat.reduceEqDiff,Nat.reduceLT,zP,zQ,zR,zS,zV,zW,zb,zc,hk,kp12,not_false_eq_true,mCA,mC1,mC0,b1,n1,b2,b3]
    have hA:zA9 X now c most=zD3 ({ X with items:=ys }:St) now c most (atF ys c.key) (isF ys c.key):=by unfold zA9; rw [if_pos ⟨hm,h1,h2⟩,hY]; simp [doF,hop]
    refine zP6 (z:=6) (d:=8) (base:=w.heap.size) (X:=({ X with items:=ys }:St)) (X':=(zD3 ({ X with items:=ys }:St) now c most (atF ys c.key) (isF ys c.key)).1) (now:=now) (c:=c) (most:=most) (i:=(atF ys c.key)) (is:=(isF ys c.key)) (an:=(zD3 ({ X with items:=ys }:St) now c most (atF ys c.key) (isF ys c.key)).2) hP Tryz.call36 rfl rfl (by decide) (by rw [hw0]; exact Nat.le_refl _) hS (by rw [hn0]; simp [zG]) (fun w1 g v hu1 hb1 hW=>?_) rfl (by simp) ?_
    ·have hck:=zO5 hm (by omega)
     exact math_op _ g v _ now c most _ _ w1 hW hb1 (zN2 _ _) zG7 (Nat.le_trans hys2 (by decide)) h1 h2 hck hd0 hd1 hi0 hi1 (hE w1 hu1) (fun x hx=>⟨(hxb x (List.mem_of_getElem? hx)).1,(hxb x (List.mem_of_getElem? hx)).2.1⟩)
    (refine zA6 hctr (rs:=res12) true 300 _ _ _ ?_; simp (maxSteps:=1000000) only [VG,qH,qJ,q0t,qu,qv,ev,qy,zC,zD,zE,zF,zG,zI,zJ,zM,↓reduceIte,reduceCtorEq,Nat.reduceEqDiff,Nat.reduceAdd,zP,zQ,zt,zA4,jN,hP,hk,kp12,anS,woE,woS,zG3,zA4])
    (refine zA1 hctr (by rw [hP]; rfl) rs12_29 [] (ensure_type_of% (Cmp.of (by simp (maxSteps := 1000000) only [qK, qO, qP, qQ, qV, q0t, qu, qv, ev, qy, zA, zB, zC, zD, zE, zF, zG, zM, ↓reduceIte, Nat.reduceEqDiff, Nat.reduceAdd, zP, zt, zu, cD, cO, jC, jD, jH, jN, hP]; rfl)) "" Cmp.mk) (by kernel_rfl) (by kernel_rfl) (by first | exact zA2 _ | kernel_rfl) (by kernel_rfl) (by rfl) (by rfl) (by first | exact zA0 _ | rfl) (by rfl) (by simp (maxSteps := 1000000) only [qK, qO, qP, qQ, qV, q0t, qu, qv, ev, qy, zA, zB, zC, zD, zE, zG, zM, ↓reduceIte, Nat.reduceEqDiff, Nat.reduceAdd, zP, zT, zn, zt, zu, jD, jH, jN, jP, jQ, jR, jS, jT, hP]) ?_; refine zA6 hctr (rs := res12) true 300 _ _ _ ?_; simp (maxSteps := 1000000) only [VG, qE, qF, qG, qP, qy, zA, zB, zD, zG, zI, zJ, zM, ↓reduceIte, reduceCtorEq, Nat.reduceEqDiff, Nat.reduceAdd, zP, zQ, zt, jN, jO, hP, hk, res12, kp12])
    exact zI4 hC hres12 (d:=10) (by rw [hA]; rfl) (by rw [hA]; rfl)
   ·have b1:(c.op == 1)=false:=by simp [hop]
    have n1:(c.op=1)=False:=by simp [hop]
    have b2:(c.op == 2)=false:=by simp [hop]
    have n2:(c.op=2)=False:=by simp [hop]
    have b3:(c.op == 3)=false:=by simp [hop]
    have n3:(c.op=3)=False:=by simp [hop]
    have b4:(c.op == 4)=true:=by simp [hop]
    have n4:(c.op=4)=True:=by simp [hop]
    have b7:(c.op == 7)=false:=by simp [hop]
    have n7:(c.op=7)=False:=by simp [hop]
    have b5:(c.op == 5)=false:=by simp [hop]
    have n5:(c.op=5)=False:=by simp [hop]
    have b6:(c.op == 6)=false:=by simp [hop]
    have n6:(c.op=6)=False:=by simp [hop]
    simp (maxSteps:=1000000) only [VG,qH,qI,qJ,qK,qO,qP,qQ,qR,qS,qV,q0t,qu,qv,ev,qw,qy,qz,zC,zD,zE,zG,zI,zJ,zM,↓reduceIte,reduceCtorEq,Nat.reduceEqDiff,Nat.reduceAdd,Nat.reduceLT,zP,zQ,zR,zS,zV,zW,zb,zc,zt,hP,hk,kp12,not_false_eq_true,mCA,mC1,mC0,zB5,zA7,It.zero,anS,b1,n1,b2,b3,b4]
    cases hI:isF ys c.key with
    | false =>
     have hA:zA9 X now c most=(({ X with items:=ys }:St),zA7 5):=by unfold zA9; rw [if_pos ⟨hm,h1,h2⟩,hY]; simp [doF,hop,zV1,hI]
     simp (maxSteps:=1000000) only [VG,reduceCtorEq,zR,zW,zb,zc]
     (refine zA1 hctr (by rw [hP]; rfl) rs12_29 [] (ensure_type_of% (Cmp.of (by simp (maxSteps := 1000000) only [qK, qO, qP, qQ, qV, q0t, qu, qv, ev, qy, zA, zB, zC, zD, zE, zF, zG, zM, ↓reduceIte, Nat.reduceEqDiff, Nat.reduceAdd, zP, zt, zu, cD, cO, jC, jD, jH, jN, hP]; rfl)) "" Cmp.mk) (by kernel_rfl) (by kernel_rfl) (by first | exact zA2 _ | kernel_rfl) (by kernel_rfl) (by rfl) (by rfl) (by first | exact zA0 _ | rfl) (by rfl) (by simp (maxSteps := 1000000) only [qK, qO, qP, qQ, qV, q0t, qu, qv, ev, qy, zA, zB, zC, zD, zE, zG, zM, ↓reduceIte, Nat.reduceEqDiff, Nat.reduceAdd, zP, zT, zn, zt, zu, jD, jH, jN, jP, jQ, jR, jS, jT, hP]) ?_; refine zA6 hctr (rs := res12) true 300 _ _ _ ?_; simp (maxSteps := 1000000) only [VG, qE, qF, qG, qP, qy, zA, zB, zD, zG, zI, zJ, zM, ↓reduceIte, reduceCtorEq, Nat.reduceEqDiff, Nat.reduceAdd, zP, zQ, zt, jN, jO, hP, hk, res12, kp12])
     exact zI4 hC hres12 (d:=8) (by rw [hA]; rfl) (by rw [hA]; rfl)
    | true =>
     simp (maxSteps:=1000000) only [VG,reduceCtorEq,zS,zV,zb,zc]
     have hil:=zG7 hI
     have hx:=List.getElem?_eq_getElem hil
     have hil':((atF ys c.key:Nat):Int) < (ys.length:Int):=by omega
     obtain ⟨x,hxe⟩:∃ x,x=ys[atF ys c.key]:=⟨_,rfl⟩
     rw [← hxe] at hx
     refine Run_win (base:=w.heap.size) (d:=8) (xs:=ys) (i:=(atF ys c.key)) (x:=x) rfl hx (by rw [hn0]; decide) rfl rfl ?_
     have hA:zA9 X now c most=({ X with items:=ys.set (atF ys c.key) { x with exp:=zF3 now c.exp } },⟨8,{ x with exp:=zF3 now c.exp },0,false,false,false⟩):=by unfold zA9; rw [if_pos ⟨hm,h1,h2⟩,hY]; simp [doF,hop,zV1,hI,itF_of hx]
     simp only [zE]
     (refine zA1 hctr (by rw [hP]; rfl) rs12_19 [] (ensure_type_of% (Cmp.of (by simp (maxSteps := 1000000) only [qK, qO, qP, qQ, qV, q0t, qv, ev, qw, qy, zC, zD, zE, zF, zG, zM, ↓reduceIte, Nat.reduceEqDiff, Nat.reduceAdd, zP, zT, zh, zt, cD, cO, jC, jD, jH, jI, jN, hP, mCA, mC1, mC0, zA3, zB7, zF1, itS, h1, h2, Int.natCast_nonneg, hil']; rfl)) "" Cmp.mk) (by kernel_rfl) (by kernel_rfl) (by first | exact zA2 _ | kernel_rfl) (by kernel_rfl) (by rfl) (by rfl) (by first | exact zA0 _ | rfl) (by rfl) (by simp (maxSteps := 1000000) only [qK, qO, qP, qQ, qV, q0t, qv, ev, qw, qy, zC, zD, zE, zG, zM, ↓reduceIte, Nat.reduceEqDiff, Nat.reduceAdd, Nat.reduceLT, zP, zR, zT, zh, zn, zo, zt, jD, jH, jI, jN, jP, jQ, jR, jS, jT, jV, jW, jX, jY, hP, mCA, mC1, mC0, zA3, zB7, h1, h2, Int.natCast_nonneg, hil']) ?_; refine zA6 hctr (rs := res12) true 300 _ _ _ ?_; simp (maxSteps := 1000000) only [VG, qH, qI, qJ, qK, qO, qP, qQ, qf, qg, q0t, qu, qv, ev, qw, qy, qz, zA, zB, zC, zD, zE, zG, zI, zJ, zM, ↓reduceIte, reduceCtorEq, Nat.reduceEqDiff, Nat.reduceAdd, Nat.reduceLT, zP, zQ, zR, zT, zh, zk, zl, zt, jN, jO, hP, hk, kp12, mCA, mC1, mC0, zB7, Int.natCast_nonneg, hil'])
     (refine zA1 hctr (by rw [hP]; rfl) rs12_29 [] (ensure_type_of% (Cmp.of (by simp (maxSteps := 1000000) only [qK, qO, qP, qQ, qV, q0t, qu, qv, ev, qy, zA, zB, zC, zD, zE, zF, zG, zM, ↓reduceIte, Nat.reduceEqDiff, Nat.reduceAdd, zP, zt, zu, cD, cO, jC, jD, jH, jN, hP]; rfl)) "" Cmp.mk) (by kernel_rfl) (by kernel_rfl) (by first | exact zA2 _ | kernel_rfl) (by kernel_rfl) (by rfl) (by rfl) (by first | exact zA0 _ | rfl) (by rfl) (by simp (maxSteps := 1000000) only [qK, qO, qP, qQ, qV, q0t, qu, qv, ev, qy, zA, zB, zC, zD, zE, zG, zM, ↓reduceIte, Nat.reduceEqDiff, Nat.reduceAdd, zP, zT, zn, zt, zu, jD, jH, jN, jP, jQ, jR, jS, jT, hP]) ?_; refine zA6 hctr (rs := res12) true 300 _ _ _ ?_; simp (maxSteps := 1000000) only [VG, qE, qF, qG, qP, qy, zA, zB, zD, zG, zI, zJ, zM, ↓reduceIte, reduceCtorEq, Nat.reduceEqDiff, Nat.reduceAdd, zP, zQ, zt, jN, jO, hP, hk, res12, kp12])
     refine appFinW (Y:=zA9 X now c most) (d:=8) (j:=(atF ys c.key)) (x:={ x with exp:=zF3 now c.exp }) hC hres12 ?_ ?_ ?_
     ·rw [hA]; exact List.getElem?_set_self hil
     ·rw [hA]; unfold zF1; rw [winI_set]; rfl
     ·rw [hA]; simp only [List.length_set]; rfl
   ·have b1:(c.op == 1)=false:=by simp [hop]
    have n1:(c.op=1)=False:=by simp [hop]
    have b2:(c.op == 2)=false:=by simp [hop]
    have n2:(c.op=2)=False:=by simp [hop]
    have b3:(c.op == 3)=false:=by simp [hop]
    have n3:(c.op=3)=False:=by simp [hop]
    have b4:(c.op == 4)=false:=by simp [hop]
    have n4:(c.op=4)=False:=by simp [hop]
    have b7:(c.op == 7)=false:=by simp [hop]
    have n7:(c.op=7)=False:=by simp [hop]
    have b5:(c.op == 5)=true:=by simp [hop]
    have n5:(c.op=5)=True:=by simp [hop]
    have b6:(c.op == 6)=false:=by simp [hop]
    have n6:(c.op=6)=False:=by simp [hop]
    simp (maxSteps:=1000000) only [VG,qH,qI,qK,qO,qR,qS,ev,qw,qy,qz,zI,zJ,↓reduceIte,reduceCtorEq,Nat.reduceEqDiff,Nat.reduceLT,zP,zQ,zR,zS,zV,zW,zb,zc,hk,kp12,not_false_eq_true,mCA,mC1,mC0,b1,n1,b2,b3,b4,b7,b5]
    have hA:zA9 X now c most=zD1 ({ X with items:=ys }:St) now c (atF ys c.key) (isF ys c.key):=by unfold zA9; rw [if_pos ⟨hm,h1,h2⟩,hY]; simp [doF,hop]
    refine zP6 (z:=6) (d:=8) (base:=w.heap.size) (X:=({ X with items:=ys }:St)) (X':=(zD1 ({ X with items:=ys }:St) now c (atF ys c.key) (isF ys c.key)).1) (now:=now) (c:=c) (most:=most) (i:=(atF ys c.key)) (is:=(isF ys c.key)) (an:=(zD1 ({ X with items:=ys }:St) now c (atF ys c.key) (isF ys c.key)).2) hP Tryz.call40 rfl rfl (by decide) (by rw [hw0]; exact Nat.le_refl _) hS (by rw [hn0]; simp [zG]) (fun w1 g v hu1 hb1 hW=>?_) rfl (by simp) ?_
    ·exact zV7 _ g v _ now c most _ _ w1 hW hb1 (zN2 _ _) zG7 (Nat.le_trans hys2 (by decide)) h1 h2
    (refine zA6 hctr (rs:=res12) true 300 _ _ _ ?_; simp (maxSteps:=1000000) only [VG,qH,qJ,q0t,qu,qv,ev,qy,zC,zD,zE,zF,zG,zI,zJ,zM,↓reduceIte,reduceCtorEq,Nat.reduceEqDiff,Nat.reduceAdd,zP,zQ,zt,zA4,jN,hP,hk,kp12,anS,woE,woS,zG3,zA4])
    (refine zA1 hctr (by rw [hP]; rfl) rs12_29 [] (ensure_type_of% (Cmp.of (by simp (maxSteps := 1000000) only [qK, qO, qP, qQ, qV, q0t, qu, qv, ev, qy, zA, zB, zC, zD, zE, zF, zG, zM, ↓reduceIte, Nat.reduceEqDiff, Nat.reduceAdd, zP, zt, zu, cD, cO, jC, jD, jH, jN, hP]; rfl)) "" Cmp.mk) (by kernel_rfl) (by kernel_rfl) (by first | exact zA2 _ | kernel_rfl) (by kernel_rfl) (by rfl) (by rfl) (by first | exact zA0 _ | rfl) (by rfl) (by simp (maxSteps := 1000000) only [qK, qO, qP, qQ, qV, q0t, qu, qv, ev, qy, zA, zB, zC, zD, zE, zG, zM, ↓reduceIte, Nat.reduceEqDiff, Nat.reduceAdd, zP, zT, zn, zt, zu, jD, jH, jN, jP, jQ, jR, jS, jT, hP]) ?_; refine zA6 hctr (rs := res12) true 300 _ _ _ ?_; simp (maxSteps := 1000000) only [VG, qE, qF, qG, qP, qy, zA, zB, zD, zG, zI, zJ, zM, ↓reduceIte, reduceCtorEq, Nat.reduceEqDiff, Nat.reduceAdd, zP, zQ, zt, jN, jO, hP, hk, res12, kp12])
    exact zI4 hC hres12 (d:=10) (by rw [hA]; rfl) (by rw [hA]; rfl)
   ·have b1:(c.op == 1)=false:=by simp [hop]
    have n1:(c.op=1)=False:=by simp [hop]
    have b2:(c.op == 2)=false:=by simp [hop]
    have n2:(c.op=2)=False:=by simp [hop]
    have b3:(c.op == 3)=false:=by simp [hop]
    have n3:(c.op=3)=False:=by simp [hop]
    have b4:(c.op == 4)=false:=by simp [hop]
    have n4:(c.op=4)=False:=by simp [hop]
    have b7:(c.op == 7)=false:=by simp [hop]
    have n7:(c.op=7)=False:=by simp [hop]
    have b5:(c.op == 5)=false:=by simp [hop]
    have n5:(c.op=5)=False:=by simp [hop]
    have b6:(c.op == 6)=true:=by simp [hop]
    have n6:(c.op=6)=True:=by simp [hop]
    simp (maxSteps:=1000000) only [VG,qH,qI,qK,qO,qR,qS,ev,qw,qy,qz,zI,zJ,↓reduceIte,reduceCtorEq,Nat.reduceEqDiff,Nat.reduceLT,zP,zQ,zR,zS,zV,zW,zb,zc,hk,kp12,not_false_eq_true,mCA,mC1,mC0,b1,n1,b2,b3,b4,b7,b5,b6]
    have hA:zA9 X now c most=zI2 ({ X with items:=ys }:St) now c:=by unfold zA9; rw [if_pos ⟨hm,h1,h2⟩,hY]; simp [doF,hop]
    refine zP6 (z:=6) (d:=8) (base:=w.heap.size) (X:=({ X with items:=ys }:St)) (X':=(zI2 ({ X with items:=ys }:St) now c).1) (now:=now) (c:=c) (most:=most) (i:=(atF ys c.key)) (is:=(isF ys c.key)) (an:=(zI2 ({ X with items:=ys }:St) now c).2) hP Tryz.call41 rfl rfl (by decide) (by rw [hw0]; exact Nat.le_refl _) hS (by rw [hn0]; simp [zG]) (fun w1 g v hu1 hb1 hW=>?_) rfl (by simp) ?_
    ·exact flush_op _ g v _ now c most _ _ w1 hW hb1 zG7 h1 h2
    (refine zA6 hctr (rs:=res12) true 300 _ _ _ ?_; simp (maxSteps:=1000000) only [VG,qH,qJ,q0t,qu,qv,ev,qy,zC,zD,zE,zF,zG,zI,zJ,zM,↓reduceIte,reduceCtorEq,Nat.reduceEqDiff,Nat.reduceAdd,zP,zQ,zt,zA4,jN,hP,hk,kp12,anS,woE,woS,zG3,zA4])
    (refine zA1 hctr (by rw [hP]; rfl) rs12_29 [] (ensure_type_of% (Cmp.of (by simp (maxSteps := 1000000) only [qK, qO, qP, qQ, qV, q0t, qu, qv, ev, qy, zA, zB, zC, zD, zE, zF, zG, zM, ↓reduceIte, Nat.reduceEqDiff, Nat.reduceAdd, zP, zt, zu, cD, cO, jC, jD, jH, jN, hP]; rfl)) "" Cmp.mk) (by kernel_rfl) (by kernel_rfl) (by first | exact zA2 _ | kernel_rfl) (by kernel_rfl) (by rfl) (by rfl) (by first | exact zA0 _ | rfl) (by rfl) (by simp (maxSteps := 1000000) only [qK, qO, qP, qQ, qV, q0t, qu, qv, ev, qy, zA, zB, zC, zD, zE, zG, zM, ↓reduceIte, Nat.reduceEqDiff, Nat.reduceAdd, zP, zT, zn, zt, zu, jD, jH, jN, jP, jQ, jR, jS, jT, hP]) ?_; refine zA6 hctr (rs := res12) true 300 _ _ _ ?_; simp (maxSteps := 1000000) only [VG, qE, qF, qG, qP, qy, zA, zB, zD, zG, zI, zJ, zM, ↓reduceIte, reduceCtorEq, Nat.reduceEqDiff, Nat.reduceAdd, zP, zQ, zt, jN, jO, hP, hk, res12, kp12])
    exact zI4 hC hres12 (d:=10) (by rw [hA]; rfl) (by rw [hA]; rfl)
   ·have b1:(c.op == 1)=false:=by simp [hop]
    have n1:(c.op=1)=False:=by simp [hop]
    have b2:(c.op == 2)=false:=by simp [hop]
    have n2:(c.op=2)=False:=by simp [hop]
    have b3:(c.op == 3)=false:=by simp [hop]
    have n3:(c.op=3)=False:=by simp [hop]
    have b4:(c.op == 4)=false:=by simp [hop]
    have n4:(c.op=4)=False:=by simp [hop]
    have b7:(c.op == 7)=true:=by simp [hop]
    have n7:(c.op=7)=True:=by simp [hop]
    have b5:(c.op == 5)=false:=by simp [hop]
    have n5:(c.op=5)=False:=by simp [hop]
    have b6:(c.op == 6)=false:=by simp [hop]
    have n6:(c.op=6)=False:=by simp [hop]
    simp (maxSteps:=1000000) only [VG,qH,qI,qJ,qK,qO,qP,qQ,qR,qS,qV,q0t,qu,qv,ev,qw,qy,qz,zC,zD,zE,zG,zI,zJ,zM,↓reduceIte,reduceCtorEq,Nat.reduceEqDiff,Nat.reduceAdd,Nat.reduceLT,zP,zQ,zR,zS,zV,zW,zb,zc,zt,hP,hk,kp12,not_false_eq_true,mCA,mC1,mC0,zB5,zA7,It.zero,anS,b1,n1,b2,b3,b4,b7]
    cases hI:isF ys c.key with
    | false =>
     have hA:zA9 X now c most=(({ X with items:=ys }:St),zA7 5):=by unfold zA9; rw [if_pos ⟨hm,h1,h2⟩,hY]; simp [doF,hop,lookF,hI]
     simp (maxSteps:=1000000) only [VG,reduceCtorEq,zR,zW,zb,zc]
     (refine zA1 hctr (by rw [hP]; rfl) rs12_29 [] (ensure_type_of% (Cmp.of (by simp (maxSteps := 1000000) only [qK, qO, qP, qQ, qV, q0t, qu, qv, ev, qy, zA, zB, zC, zD, zE, zF, zG, zM, ↓reduceIte, Nat.reduceEqDiff, Nat.reduceAdd, zP, zt, zu, cD, cO, jC, jD, jH, jN, hP]; rfl)) "" Cmp.mk) (by kernel_rfl) (by kernel_rfl) (by first | exact zA2 _ | kernel_rfl) (by kernel_rfl) (by rfl) (by rfl) (by first | exact zA0 _ | rfl) (by rfl) (by simp (maxSteps := 1000000) only [qK, qO, qP, qQ, qV, q0t, qu, qv, ev, qy, zA, zB, zC, zD, zE, zG, zM, ↓reduceIte, Nat.reduceEqDiff, Nat.reduceAdd, zP, zT, zn, zt, zu, jD, jH, jN, jP, jQ, jR, jS, jT, hP]) ?_; refine zA6 hctr (rs := res12) true 300 _ _ _ ?_; simp (maxSteps := 1000000) only [VG, qE, qF, qG, qP, qy, zA, zB, zD, zG, zI, zJ, zM, ↓reduceIte, reduceCtorEq, Nat.reduceEqDiff, Nat.reduceAdd, zP, zQ, zt, jN, jO, hP, hk, res12, kp12])
     exact zI4 hC hres12 (d:=8) (by rw [hA]; rfl) (by rw [hA]; rfl)
    | true =>
     simp (maxSteps:=1000000) only [VG,qH,qI,qK,qO,ev,qw,qy,zD,↓reduceIte,reduceCtorEq,Nat.reduceEqDiff,Nat.reduceLT,zR,zS,zV,zb,zc,mCA,mC1,mC0,zB7]
     have hil:=zG7 hI
     have hx:=List.getElem?_eq_getElem hil
     have hil':((atF ys c.key:Nat):Int) < (ys.length:Int):=by omega
     obtain ⟨x,hxe⟩:∃ x,x=ys[atF ys c.key]:=⟨_,rfl⟩
     rw [← hxe] at hx
     refine Run_win (base:=w.heap.size) (d:=8) (xs:=ys) (i:=(atF ys c.key)) (x:=x) rfl hx (by rw [hn0]; decide) rfl rfl ?_
     have hA:zA9 X now c most=(({ X with items:=ys }:St),⟨1,x,0,false,false,false⟩):=by unfold zA9; rw [if_pos ⟨hm,h1,h2⟩,hY]; simp [doF,hop,lookF,hI,itF_of hx]
     simp only [zE]
     (refine zA6 hctr (rs:=res12) true 300 _ _ _ ?_; simp (maxSteps:=1000000) only [VG,qH,qI,qJ,qK,qP,qQ,qf,qg,q0t,qu,qv,ev,qw,qy,qz,zA,zB,zC,zD,zE,zG,zI,zJ,zM,↓reduceIte,reduceCtorEq,Nat.reduceEqDiff,Nat.reduceAdd,Nat.reduceLT,zP,zQ,zR,zT,zh,zk,zl,zt,hP,hk,kp12,mCA,mC1,mC0,zB7,zF1,itS,Int.natCast_nonneg,hil'])
     (refine zA1 hctr (by rw [hP]; rfl) rs12_29 [] (ensure_type_of% (Cmp.of (by simp (maxSteps := 1000000) only [qK, qO, qP, qQ, qV, q0t, qu, qv, ev, qy, zA, zB, zC, zD, zE, zF, zG, zM, ↓reduceIte, Nat.reduceEqDiff, Nat.reduceAdd, zP, zt, zu, cD, cO, jC, jD, jH, jN, hP]; rfl)) "" Cmp.mk) (by kernel_rfl) (by kernel_rfl) (by first | exact zA2 _ | kernel_rfl) (by kernel_rfl) (by rfl) (by rfl) (by first | exact zA0 _ | rfl) (by rfl) (by simp (maxSteps := 1000000) only [qK, qO, qP, qQ, qV, q0t, qu, qv, ev, qy, zA, zB, zC, zD, zE, zG, zM, ↓reduceIte, Nat.reduceEqDiff, Nat.reduceAdd, zP, zT, zn, zt, zu, jD, jH, jN, jP, jQ, jR, jS, jT, hP]) ?_; refine zA6 hctr (rs := res12) true 300 _ _ _ ?_; simp (maxSteps := 1000000) only [VG, qE, qF, qG, qP, qy, zA, zB, zD, zG, zI, zJ, zM, ↓reduceIte, reduceCtorEq, Nat.reduceEqDiff, Nat.reduceAdd, zP, zQ, zt, jN, jO, hP, hk, res12, kp12])
     exact appFinW (Y:=zA9 X now c most) (d:=8) (j:=(atF ys c.key)) (x:=x) hC hres12 (by rw [hA]; exact hx) (by rw [hA]; rfl) (by rw [hA]; rfl)
  ·have hf1:(X.flush != 0)=true:=by simpa using hf
   have hf2:decide (X.flush≤now)=false:=decide_eq_false fun h=>hfl ⟨hf,h⟩
   (refine zA6 hctr (rs:=res12) true 300 _ _ _ ?_; simp (maxSteps:=1000000) only [VG,jZ,je,qH,qI,qJ,qK,qO,qP,qQ,qR,qS,qV,qp,q0t,qv,ev,qy,qz,zC,zD,zE,zF,zG,zI,zJ,zM,↓reduceIte,reduceCtorEq,Nat.reduceEqDiff,Nat.reduceAdd,Nat.reduceLT,zP,zQ,zR,zS,zV,zW,zb,zc,zt,zu,zy,zA4,jN,hP,hk,res12,kp12,zG3,srcE,zA4,hf1,hf2])
   (refine zA1 hctr (by rw [hP]; rfl) rs12_7 [] (ensure_type_of% (Cmp.of (by simp (maxSteps := 1000000) only [qK, qO, qP, qQ, qV, qh, q0t, qv, ev, qw, qy, zC, zD, zE, zF, zG, TE.sv, zM, ↓reduceIte, Nat.reduceEqDiff, Nat.reduceAdd, zP, zT, zt, zu, cD, cO, jC, jD, jH, jI, jN, hP, mCA, zJ6, hYi, hys1, hys3]; rfl)) "" Cmp.mk) (by kernel_rfl) (by kernel_rfl) (by first | exact zA2 _ | kernel_rfl) (by kernel_rfl) (by rfl) (by rfl) (by first | exact zA0 _ | rfl) (by rfl) (by simp (maxSteps := 1000000) only [qK, qO, qP, qQ, qV, qh, q0t, qv, ev, qw, qy, zC, zD, zE, zG, TE.sv, zM, ↓reduceIte, Nat.reduceEqDiff, Nat.reduceAdd, Nat.reduceLT, Nat.reduceSub, zP, zR, zS, zT, zn, zo, zt, zu, jD, jH, jI, jN, jP, jQ, jR, jS, jT, jV, jW, jX, jY, hP, mCA, zJ6, hYi, hys1, hys3]) ?_; refine zA6 hctr (rs := res12) true 300 _ _ _ ?_; simp (maxSteps := 1000000) only [VG, qH, qI, qK, qO, qP, qR, qS, qV, ev, qy, qz, zD, zF, zG, zI, zJ, zM, ↓reduceIte, reduceCtorEq, Nat.reduceEqDiff, Nat.reduceAdd, Nat.reduceLT, zP, zQ, zR, zd, ze, zt, zu, jN, jO, hP, hk, res12, kp12, hYi])
   rcases hop7 with hop | hop | hop | hop | hop | hop | hop
   ·have b1:(c.op == 1)=true:=by simp [hop]
    have n1:(c.op=1)=True:=by simp [hop]
    have b2:(c.op == 2)=false:=by simp [hop]
    have n2:(c.op=2)=False:=by simp [hop]
    have b3:(c.op == 3)=false:=by simp [hop]
    have n3:(c.op=3)=False:=by simp [hop]
    have b4:(c.op == 4)=false:=by simp [hop]
    have n4:(c.op=4)=False:=by simp [hop]
    have b7:(c.op == 7)=false:=by simp [hop]
    have n7:(c.op=7)=False:=by simp [hop]
    have b5:(c.op == 5)=false:=by simp [hop]
    have n5:(c.op=5)=False:=by simp [hop]
    have b6:(c.op == 6)=false:=by simp [hop]
    have n6:(c.op=6)=False:=by simp [hop]
    simp (maxSteps:=1000000) only [VG,qH,qI,qK,qO,ev,qw,qy,↓reduceIte,Nat.reduceEqDiff,Nat.reduceLT,zR,zS,zV,zb,zc,not_true_eq_false,mCA,mC1,mC0,b1,n1]
    have hA:zA9 X now c most=getF ({ X with items:=ys }:St) now c (atF ys c.key) (isF ys c.key):=by unfold zA9; rw [if_pos ⟨hm,h1,h2⟩,hY]; simp [doF,hop]
    refine zP6 (z:=6) (d:=8) (base:=w.heap.size) (X:=({ X with items:=ys }:St)) (X':=(getF ({ X with items:=ys }:St) now c (atF ys c.key) (isF ys c.key)).1) (now:=now) (c:=c) (most:=most) (i:=(atF ys c.key)) (is:=(isF ys c.key)) (an:=(getF ({ X with items:=ys }:St) now c (atF ys c.key) (isF ys c.key)).2) hP Tryz.call34 rfl rfl (by decide) (by rw [hw0]; exact Nat.le_refl _) hS (by rw [hn0]; simp [zG]) (fun w1 g v hu1 hb1 hW=>?_) rfl (by simp) ?_
    ·exact get_op _ g v _ now c most _ _ w1 hW hb1 (zN2 _ _) zG7 (Nat.le_trans hys2 (by decide)) h1 h2 (fun x hx=>⟨(hxb x (List.mem_of_getElem? hx)).2.2.1,(hxb x (List.mem_of_getElem? hx)).2.2.2⟩)
    (refine zA6 hctr (rs:=res12) true 300 _ _ _ ?_; simp (maxSteps:=1000000) only [VG,qH,qJ,q0t,qu,qv,ev,qy,zC,zD,zE,zF,zG,zI,zJ,zM,↓reduceIte,reduceCtorEq,Nat.reduceEqDiff,Nat.reduceAdd,zP,zQ,zt,zA4,jN,hP,hk,kp12,anS,woE,woS,zG3,zA4])
    (refine zA1 hctr (by rw [hP]; rfl) rs12_29 [] (ensure_type_of% (Cmp.of (by simp (maxSteps := 1000000) only [qK, qO, qP, qQ, qV, q0t, qu, qv, ev, qy, zA, zB, zC, zD, zE, zF, zG, zM, ↓reduceIte, Nat.reduceEqDiff, Nat.reduceAdd, zP, zt, zu, cD, cO, jC, jD, jH, jN, hP]; rfl)) "" Cmp.mk) (by kernel_rfl) (by kernel_rfl) (by first | exact zA2 _ | kernel_rfl) (by kernel_rfl) (by rfl) (by rfl) (by first | exact zA0 _ | rfl) (by rfl) (by simp (maxSteps := 1000000) only [qK, qO, qP, qQ, qV, q0t, qu, qv, ev, qy, zA, zB, zC, zD, zE, zG, zM, ↓reduceIte, Nat.reduceEqDiff, Nat.reduceAdd, zP, zT, zn, zt, zu, jD, jH, jN, jP, jQ, jR, jS, jT, hP]) ?_; refine zA6 hctr (rs := res12) true 300 _ _ _ ?_; simp (maxSteps := 1000000) only [VG, qE, qF, qG, qP, qy, zA, zB, zD, zG, zI, zJ, zM, ↓reduceIte, reduceCtorEq, Nat.reduceEqDiff, Nat.reduceAdd, zP, zQ, zt, jN, jO, hP, hk, res12, kp12])
    exact zI4 hC hres12 (d:=10) (by rw [hA]; rfl) (by rw [hA]; rfl)
   ·have b1:(c.op == 1)=false:=by simp [hop]
    have n1:(c.op=1)=False:=by simp [hop]
    have b2:(c.op == 2)=true:=by simp [hop]
    have n2:(c.op=2)=True:=by simp [hop]
    have b3:(c.op == 3)=false:=by simp [hop]
    have n3:(c.op=3)=False:=by simp [hop]
    have b4:(c.op == 4)=false:=by simp [hop]
    have n4:(c.op=4)=False:=by simp [hop]
    have b7:(c.op == 7)=false:=by simp [hop]
    have n7:(c.op=7)=False:=by simp [hop]
    have b5:(c.op == 5)=false:=by simp [hop]
    have n5:(c.op=5)=False:=by simp [hop]
    have b6:(c.op == 6)=false:=by simp [hop]
    have n6:(c.op=6)=False:=by simp [hop]
    simp (maxSteps:=1000000) only [VG,qH,qI,qK,qO,qR,qS,ev,qw,qy,qz,zI,zJ,↓reduceIte,reduceCtorEq,Nat.reduceEqDiff,Nat.reduceLT,zP,zQ,zR,zS,zV,zW,zb,zc,hk,kp12,not_false_eq_true,mCA,mC1,mC0,b1,n1,b2]
    have hA:zA9 X now c most=zA8 ({ X with items:=ys }:St) now c most (atF ys c.key) (isF ys c.key):=by unfold zA9; rw [if_pos ⟨hm,h1,h2⟩,hY]; simp [doF,hop]
    refine zP6 (z:=6) (d:=8) (base:=w.heap.size) (X:=({ X with items:=ys }:St)) (X':=(zA8 ({ X with items:=ys }:St) now c most (atF ys c.key) (isF ys c.key)).1) (now:=now) (c:=c) (most:=most) (i:=(atF ys c.key)) (is:=(isF ys c.key)) (an:=(zA8 ({ X with items:=ys }:St) now c most (atF ys c.key) (isF ys c.key)).2) hP Tryz.call35 rfl rfl (by decide) (by rw [hw0]; exact Nat.le_refl _) hS (by rw [hn0]; simp [zG]) (fun w1 g v hu1 hb1 hW=>?_) rfl (by simp) ?_
    ·have hck:=zO5 hm (by omega)
     exact store_op _ g v _ now c most _ _ w1 hW hb1 (zN2 _ _) zG7 (Nat.le_trans hys2 (by decide)) h1 h2 hck hcv (fun x hx=>⟨(hxb x (List.mem_of_getElem? hx)).1,(hxb x (List.mem_of_getElem? hx)).2.1⟩)
    (refine zA6 hctr (rs:=res12) true 300 _ _ _ ?_; simp (maxSteps:=1000000) only [VG,qH,qJ,q0t,qu,qv,ev,qy,zC,zD,zE,zF,zG,zI,zJ,zM,↓reduceIte,reduceCtorEq,Nat.reduceEqDiff,Nat.reduceAdd,zP,zQ,zt,zA4,jN,hP,hk,kp12,anS,woE,woS,zG3,zA4])
    (refine zA1 hctr (by rw [hP]; rfl) rs12_29 [] (ensure_type_of% (Cmp.of (by simp (maxSteps := 1000000) only [qK, qO, qP, qQ, qV, q0t, qu, qv, ev, qy, zA, zB, zC, zD, zE, zF, zG, zM, ↓reduceIte, Nat.reduceEqDiff, Nat.reduceAdd, zP, zt, zu, cD, cO, jC, jD, jH, jN, hP]; rfl)) "" Cmp.mk) (by kernel_rfl) (by kernel_rfl) (by first | exact zA2 _ | kernel_rfl) (by kernel_rfl) (by rfl) (by rfl) (by first | exact zA0 _ | rfl) (by rfl) (by simp (maxSteps := 1000000) only [qK, qO, qP, qQ, qV, q0t, qu, qv, ev, qy, zA, zB, zC, zD, zE, zG, zM, ↓reduceIte, Nat.reduceEqDiff, Nat.reduceAdd, zP, zT, zn, zt, zu, jD, jH, jN, jP, jQ, jR, jS, jT, hP]) ?_; refine zA6 hctr (rs := res12) true 300 _ _ _ ?_; simp (maxSteps := 1000000) only [VG, qE, qF, qG, qP, qy, zA, zB, zD, zG, zI, zJ, zM, ↓reduceIte, reduceCtorEq, Nat.reduceEqDiff, Nat.reduceAdd, zP, zQ, zt, jN, jO, hP, hk, res12, kp12])
    exact zI4 hC hres12 (d:=10) (by rw [hA]; rfl) (by rw [hA]; rfl)
   ·have b1:(c.op == 1)=false:=by simp [hop]
    have n1:(c.op=1)=False:=by simp [hop]
    have b2:(c.op == 2)=false:=by simp [hop]
    have n2:(c.op=2)=False:=by simp [hop]
    have b3:(c.op == 3)=true:=by simp [hop]
    have n3:(c.op=3)=True:=by simp [hop]
    have b4:(c.op == 4)=false:=by simp [hop]
    have n4:(c.op=4)=False:=by simp [hop]
    have b7:(c.op == 7)=false:=by simp [hop]
    have n7:(c.op=7)=False:=by simp [hop]
    have b5:(c.op == 5)=false:=by simp [hop]
    have n5:(c.op=5)=False:=by simp [hop]
    have b6:(c.op == 6)=false:=by simp [hop]
    have n6:(c.op=6)=False:=by simp [hop]
    simp (maxSteps:=1000000) only [VG,qH,qI,qK,qO,qR,qS,ev,qw,qy,qz,zI,zJ,↓reduceIte,reduceCtorEq,Nat.reduceEqDiff,Nat.reduceLT,zP,zQ,zR,zS,zV,zW,zb,zc,hk,kp12,not_false_eq_true,mCA,mC1,mC0,b1,n1,b2,b3]
    have hA:zA9 X now c most=zD3 ({ X with items:=ys }:St) now c most (atF ys c.key) (isF ys c.key):=by unfold zA9; rw [if_pos ⟨hm,h1,h2⟩,hY]; simp [doF,hop]
    refine zP6 (z:=6) (d:=8) (base:=w.heap.size) (X:=({ X with items:=ys }:St)) (X':=(zD3 ({ X with items:=ys }:St) now c most (atF ys c.key) (isF ys c.key)).1) (now:=now) (c:=c) (most:=most) (i:=(atF ys c.key)) (is:=(isF ys c.key)) (an:=(zD3 ({ X with items:=ys }:St) now c most (atF ys c.key) (isF ys c.key)).2) hP Tryz.call36 rfl rfl (by decide) (by rw [hw0]; exact Nat.le_refl _) hS (by rw [hn0]; simp [zG]) (fun w1 g v hu1 hb1 hW=>?_) rfl (by simp) ?_
    ·have hck:=zO5 hm (by omega)
     exact math_op _ g v _ now c most _ _ w1 hW hb1 (zN2 _ _) zG7 (Nat.le_trans hys2 (by decide)) h1 h2 hck hd0 hd1 hi0 hi1 (hE w1 hu1) (fun x hx=>⟨(hxb x (List.mem_of_getElem? hx)).1,(hxb x (List.mem_of_getElem? hx)).2.1⟩)
    (refine zA6 hctr (rs:=res12) true 300 _ _ _ ?_; simp (maxSteps:=1000000) only [VG,qH,qJ,q0t,qu,qv,ev,qy,zC,zD,zE,zF,zG,zI,zJ,zM,↓reduceIte,reduceCtorEq,Nat.reduceEqDiff,Nat.reduceAdd,zP,zQ,zt,zA4,jN,hP,hk,kp12,anS,woE,woS,zG3,zA4])
    (refine zA1 hctr (by rw [hP]; rfl) rs12_29 [] (ensure_type_of% (Cmp.of (by simp (maxSteps := 1000000) only [qK, qO, qP, qQ, qV, q0t, qu, qv, ev, qy, zA, zB, zC, zD, zE, zF, zG, zM, ↓reduceIte, Nat.reduceEqDiff, Nat.reduceAdd, zP, zt, zu, cD, cO, jC, jD, jH, jN, hP]; rfl)) "" Cmp.mk) (by kernel_rfl) (by kernel_rfl) (by first | exact zA2 _ | kernel_rfl) (by kernel_rfl) (by rfl) (by rfl) (by first | exact zA0 _ | rfl) (by rfl) (by simp (maxSteps := 1000000) only [qK, qO, qP, qQ, qV, q0t, qu, qv, ev, qy, zA, zB, zC, zD, zE, zG, zM, ↓reduceIte, Nat.reduceEqDiff, Nat.reduceAdd, zP, zT, zn, zt, zu, jD, jH, jN, jP, jQ, jR, jS, jT, hP]) ?_; refine zA6 hctr (rs := res12) true 300 _ _ _ ?_; simp (maxSteps := 1000000) only [VG, qE, qF, qG, qP, qy, zA, zB, zD, zG, zI, zJ, zM, ↓reduceIte, reduceCtorEq, Nat.reduceEqDiff, Nat.reduceAdd, zP, zQ, zt, jN, jO, hP, hk, res12, kp12])
    exact zI4 hC hres12 (d:=10) (by rw [hA]; rfl) (by rw [hA]; rfl)
   ·have b1:(c.op == 1)=false:=by simp [hop]
    have n1:(c.op=1)=False:=by simp [hop]
    have b2:(c.op == 2)=false:=by simp [hop]
    have n2:(c.op=2)=False:=by simp [hop]
    have b3:(c.op == 3)=false:=by simp [hop]
    have n3:(c.op=3)=False:=by simp [hop]
    have b4:(c.op == 4)=true:=by simp [hop]
    have n4:(c.op=4)=True:=by simp [hop]
    have b7:(c.op == 7)=false:=by simp [hop]
    have n7:(c.op=7)=False:=by simp [hop]
    have b5:(c.op == 5)=false:=by simp [hop]
    have n5:(c.op=5)=False:=by simp [hop]
    have b6:(c.op == 6)=false:=by simp [hop]
    have n6:(c.op=6)=False:=by simp [hop]
    simp (maxSteps:=1000000) only [VG,qH,qI,qJ,qK,qO,qP,qQ,qR,qS,qV,q0t,qu,qv,ev,qw,qy,qz,zC,zD,zE,zG,zI,zJ,zM,↓reduceIte,reduceCtorEq,Nat.reduceEqDiff,Nat.reduceAdd,Nat.reduceLT,zP,zQ,zR,zS,zV,zW,zb,zc,zt,hP,hk,kp12,not_false_eq_true,mCA,mC1,mC0,zB5,zA7,It.zero,anS,b1,n1,b2,b3,b4]
    cases hI:isF ys c.key with
    | false =>
     have hA:zA9 X now c most=(({ X with items:=ys }:St),zA7 5):=by unfold zA9; rw [if_pos ⟨hm,h1,h2⟩,hY]; simp [doF,hop,zV1,hI]
     simp (maxSteps:=1000000) only [VG,reduceCtorEq,zR,zW,zb,zc]
     (refine zA1 hctr (by rw [hP]; rfl) rs12_29 [] (ensure_type_of% (Cmp.of (by simp (maxSteps := 1000000) only [qK, qO, qP, qQ, qV, q0t, qu, qv, ev, qy, zA, zB, zC, zD, zE, zF, zG, zM, ↓reduceIte, Nat.reduceEqDiff, Nat.reduceAdd, zP, zt, zu, cD, cO, jC, jD, jH, jN, hP]; rfl)) "" Cmp.mk) (by kernel_rfl) (by kernel_rfl) (by first | exact zA2 _ | kernel_rfl) (by kernel_rfl) (by rfl) (by rfl) (by first | exact zA0 _ | rfl) (by rfl) (by simp (maxSteps := 1000000) only [qK, qO, qP, qQ, qV, q0t, qu, qv, ev, qy, zA, zB, zC, zD, zE, zG, zM, ↓reduceIte, Nat.reduceEqDiff, Nat.reduceAdd, zP, zT, zn, zt, zu, jD, jH, jN, jP, jQ, jR, jS, jT, hP]) ?_; refine zA6 hctr (rs := res12) true 300 _ _ _ ?_; simp (maxSteps := 1000000) only [VG, qE, qF, qG, qP, qy, zA, zB, zD, zG, zI, zJ, zM, ↓reduceIte, reduceCtorEq, Nat.reduceEqDiff, Nat.reduceAdd, zP, zQ, zt, jN, jO, hP, hk, res12, kp12])
     exact zI4 hC hres12 (d:=8) (by rw [hA]; rfl) (by rw [hA]; rfl)
    | true =>
     simp (maxSteps:=1000000) only [VG,reduceCtorEq,zS,zV,zb,zc]
     have hil:=zG7 hI
     have hx:=List.getElem?_eq_getElem hil
     have hil':((atF ys c.key:Nat):Int) < (ys.length:Int):=by omega
     obtain ⟨x,hxe⟩:∃ x,x=ys[atF ys c.key]:=⟨_,rfl⟩
     rw [← hxe] at hx
     refine Run_win (base:=w.heap.size) (d:=8) (xs:=ys) (i:=(atF ys c.key)) (x:=x) rfl hx (by rw [hn0]; decide) rfl rfl ?_
     have hA:zA9 X now c most=({ X with items:=ys.set (atF ys c.key) { x with exp:=zF3 now c.exp } },⟨8,{ x with exp:=zF3 now c.exp },0,false,false,false⟩):=by unfold zA9; rw [if_pos ⟨hm,h1,h2⟩,hY]; simp [doF,hop,zV1,hI,itF_of hx]
     simp only [zE]
     (refine zA1 hctr (by rw [hP]; rfl) rs12_19 [] (ensure_type_of% (Cmp.of (by simp (maxSteps := 1000000) only [qK, qO, qP, qQ, qV, q0t, qv, ev, qw, qy, zC, zD, zE, zF, zG, zM, ↓reduceIte, Nat.reduceEqDiff, Nat.reduceAdd, zP, zT, zh, zt, cD, cO, jC, jD, jH, jI, jN, hP, mCA, mC1, mC0, zA3, zB7, zF1, itS, h1, h2, Int.natCast_nonneg, hil']; rfl)) "" Cmp.mk) (by kernel_rfl) (by kernel_rfl) (by first | exact zA2 _ | kernel_rfl) (by kernel_rfl) (by rfl) (by rfl) (by first | exact zA0 _ | rfl) (by rfl) (by simp (maxSteps := 1000000) only [qK, qO, qP, qQ, qV, q0t, qv, ev, qw, qy, zC, zD, zE, zG, zM, ↓reduceIte, Nat.reduceEqDiff, Nat.reduceAdd, Nat.reduceLT, zP, zR, zT, zh, zn, zo, zt, jD, jH, jI, jN, jP, jQ, jR, jS, jT, jV, jW, jX, jY, hP, mCA, mC1, mC0, zA3, zB7, h1, h2, Int.natCast_nonneg, hil']) ?_; refine zA6 hctr (rs := res12) true 300 _ _ _ ?_; simp (maxSteps := 1000000) only [VG, qH, qI, qJ, qK, qO, qP, qQ, qf, qg, q0t, qu, qv, ev, qw, qy, qz, zA, zB, zC, zD, zE, zG, zI, zJ, zM, ↓reduceIte, reduceCtorEq, Nat.reduceEqDiff, Nat.reduceAdd, Nat.reduceLT, zP, zQ, zR, zT, zh, zk, zl, zt, jN, jO, hP, hk, kp12, mCA, mC1, mC0, zB7, Int.natCast_nonneg, hil'])
     (refine zA1 hctr (by rw [hP]; rfl) rs12_29 [] (ensure_type_of% (Cmp.of (by simp (maxSteps := 1000000) only [qK, qO, qP, qQ, qV, q0t, qu, qv, ev, qy, zA, zB, zC, zD, zE, zF, zG, zM, ↓reduceIte, Nat.reduceEqDiff, Nat.reduceAdd, zP, zt, zu, cD, cO, jC, jD, jH, jN, hP]; rfl)) "" Cmp.mk) (by kernel_rfl) (by kernel_rfl) (by first | exact zA2 _ | kernel_rfl) (by kernel_rfl) (by rfl) (by rfl) (by first | exact zA0 _ | rfl) (by rfl) (by simp (maxSteps := 1000000) only [qK, qO, qP, qQ, qV, q0t, qu, qv, ev, qy, zA, zB, zC, zD, zE, zG, zM, ↓reduceIte, Nat.reduceEqDiff, Nat.reduceAdd, zP, zT, zn, zt, zu, jD, jH, jN, jP, jQ, jR, jS, jT, hP]) ?_; refine zA6 hctr (rs := res12) true 300 _ _ _ ?_; simp (maxSteps := 1000000) only [VG, qE, qF, qG, qP, qy, zA, zB, zD, zG, zI, zJ, zM, ↓reduceIte, reduceCtorEq, Nat.reduceEqDiff, Nat.reduceAdd, zP, zQ, zt, jN, jO, hP, hk, res12, kp12])
     refine appFinW (Y:=zA9 X now c most) (d:=8) (j:=(atF ys c.key)) (x:={ x with exp:=zF3 now c.exp }) hC hres12 ?_ ?_ ?_
     ·rw [hA]; exact List.getElem?_set_self hil
     ·rw [hA]; unfold zF1; rw [winI_set]; rfl
     ·rw [hA]; simp only [List.length_set]; rfl
   ·have b1:(c.op == 1)=false:=by simp [hop]
    have n1:(c.op=1)=False:=by simp [hop]
    have b2:(c.op == 2)=false:=by simp [hop]
    have n2:(c.op=2)=False:=by simp [hop]
    have b3:(c.op == 3)=false:=by simp [hop]
    have n3:(c.op=3)=False:=by simp [hop]
    have b4:(c.op == 4)=false:=by simp [hop]
    have n4:(c.op=4)=False:=by simp [hop]
    have b7:(c.op == 7)=false:=by simp [hop]
    have n7:(c.op=7)=False:=by simp [hop]
    have b5:(c.op == 5)=true:=by simp [hop]
    have n5:(c.op=5)=True:=by simp [hop]
    have b6:(c.op == 6)=false:=by simp [hop]
    have n6:(c.op=6)=False:=by simp [hop]
    simp (maxSteps:=1000000) only [VG,qH,qI,qK,qO,qR,qS,ev,qw,qy,qz,zI,zJ,↓reduceIte,reduceCtorEq,Nat.reduceEqDiff,Nat.reduceLT,zP,zQ,zR,zS,zV,zW,zb,zc,hk,kp12,not_false_eq_true,mCA,mC1,mC0,b1,n1,b2,b3,b4,b7,b5]
    have hA:zA9 X now c most=zD1 ({ X with items:=ys }:St) now c (atF ys c.key) (isF ys c.key):=by unfold zA9; rw [if_pos ⟨hm,h1,h2⟩,hY]; simp [doF,hop]
    refine zP6 (z:=6) (d:=8) (base:=w.heap.size) (X:=({ X with items:=ys }:St)) (X':=(zD1 ({ X with items:=ys }:St) now c (atF ys c.key) (isF ys c.key)).1) (now:=now) (c:=c) (most:=most) (i:=(atF ys c.key)) (is:=(isF ys c.key)) (an:=(zD1 ({ X with items:=ys }:St) now c (atF ys c.key) (isF ys c.key)).2) hP Tryz.call40 rfl rfl (by decide) (by rw [hw0]; exact Nat.le_refl _) hS (by rw [hn0]; simp [zG]) (fun w1 g v hu1 hb1 hW=>?_) rfl (by simp) ?_
    ·exact zV7 _ g v _ now c most _ _ w1 hW hb1 (zN2 _ _) zG7 (Nat.le_trans hys2 (by decide)) h1 h2
    (refine zA6 hctr (rs:=res12) true 300 _ _ _ ?_; simp (maxSteps:=1000000) only [VG,qH,qJ,q0t,qu,qv,ev,qy,zC,zD,zE,zF,zG,zI,zJ,zM,↓reduceIte,reduceCtorEq,Nat.reduceEqDiff,Nat.reduceAdd,zP,zQ,zt,zA4,jN,hP,hk,kp12,anS,woE,woS,zG3,zA4])
    (refine zA1 hctr (by rw [hP]; rfl) rs12_29 [] (ensure_type_of% (Cmp.of (by simp (maxSteps := 1000000) only [qK, qO, qP, qQ, qV, q0t, qu, qv, ev, qy, zA, zB, zC, zD, zE, zF, zG, zM, ↓reduceIte, Nat.reduceEqDiff, Nat.reduceAdd, zP, zt, zu, cD, cO, jC, jD, jH, jN, hP]; rfl)) "" Cmp.mk) (by kernel_rfl) (by kernel_rfl) (by first | exact zA2 _ | kernel_rfl) (by kernel_rfl) (by rfl) (by rfl) (by first | exact zA0 _ | rfl) (by rfl) (by simp (maxSteps := 1000000) only [qK, qO, qP, qQ, qV, q0t, qu, qv, ev, qy, zA, zB, zC, zD, zE, zG, zM, ↓reduceIte, Nat.reduceEqDiff, Nat.reduceAdd, zP, zT, zn, zt, zu, jD, jH, jN, jP, jQ, jR, jS, jT, hP]) ?_; refine zA6 hctr (rs := res12) true 300 _ _ _ ?_; simp (maxSteps := 1000000) only [VG, qE, qF, qG, qP, qy, zA, zB, zD, zG, zI, zJ, zM, ↓reduceIte, reduceCtorEq, Nat.reduceEqDiff, Nat.reduceAdd, zP, zQ, zt, jN, jO, hP, hk, res12, kp12])
    exact zI4 hC hres12 (d:=10) (by rw [hA]; rfl) (by rw [hA]; rfl)
   ·have b1:(c.op == 1)=false:=by simp [hop]
    have n1:(c.op=1)=False:=by simp [hop]
    have b2:(c.op == 2)=false:=by simp [hop]
    have n2:(c.op=2)=False:=by simp [hop]
    have b3:(c.op == 3)=false:=by simp [hop]
    have n3:(c.op=3)=False:=by simp [hop]
    have b4:(c.op == 4)=false:=by simp [hop]
    have n4:(c.op=4)=False:=by simp [hop]
    have b7:(c.op == 7)=false:=by simp [hop]
    have n7:(c.op=7)=False:=by simp [hop]
    have b5:(c.op == 5)=false:=by simp [hop]
    have n5:(c.op=5)=False:=by simp [hop]
    have b6:(c.op == 6)=true:=by simp [hop]
    have n6:(c.op=6)=True:=by simp [hop]
    simp (maxSteps:=1000000) only [VG,qH,qI,qK,qO,qR,qS,ev,qw,qy,qz,zI,zJ,↓reduceIte,reduceCtorEq,Nat.reduceEqDiff,Nat.reduceLT,zP,zQ,zR,zS,zV,zW,zb,zc,hk,kp12,not_false_eq_true,mCA,mC1,mC0,b1,n1,b2,b3,b4,b7,b5,b6]
    have hA:zA9 X now c most=zI2 ({ X with items:=ys }:St) now c:=by unfold zA9; rw [if_pos ⟨hm,h1,h2⟩,hY]; simp [doF,hop]
    refine zP6 (z:=6) (d:=8) (base:=w.heap.size) (X:=({ X with items:=ys }:St)) (X':=(zI2 ({ X with items:=ys }:St) now c).1) (now:=now) (c:=c) (most:=most) (i:=(atF ys c.key)) (is:=(isF ys c.key)) (an:=(zI2 ({ X with items:=ys }:St) now c).2) hP Tryz.call41 rfl rfl (by decide) (by rw [hw0]; exact Nat.le_refl _) hS (by rw [hn0]; simp [zG]) (fun w1 g v hu1 hb1 hW=>?_) rfl (by simp) ?_
    ·exact flush_op _ g v _ now c most _ _ w1 hW hb1 zG7 h1 h2
    (refine zA6 hctr (rs:=res12) true 300 _ _ _ ?_; simp (maxSteps:=1000000) only [VG,qH,qJ,q0t,qu,qv,ev,qy,zC,zD,zE,zF,zG,zI,zJ,zM,↓reduceIte,reduceCtorEq,Nat.reduceEqDiff,Nat.reduceAdd,zP,zQ,zt,zA4,jN,hP,hk,kp12,anS,woE,woS,zG3,zA4])
    (refine zA1 hctr (by rw [hP]; rfl) rs12_29 [] (ensure_type_of% (Cmp.of (by simp (maxSteps := 1000000) only [qK, qO, qP, qQ, qV, q0t, qu, qv, ev, qy, zA, zB, zC, zD, zE, zF, zG, zM, ↓reduceIte, Nat.reduceEqDiff, Nat.reduceAdd, zP, zt, zu, cD, cO, jC, jD, jH, jN, hP]; rfl)) "" Cmp.mk) (by kernel_rfl) (by kernel_rfl) (by first | exact zA2 _ | kernel_rfl) (by kernel_rfl) (by rfl) (by rfl) (by first | exact zA0 _ | rfl) (by rfl) (by simp (maxSteps := 1000000) only [qK, qO, qP, qQ, qV, q0t, qu, qv, ev, qy, zA, zB, zC, zD, zE, zG, zM, ↓reduceIte, Nat.reduceEqDiff, Nat.reduceAdd, zP, zT, zn, zt, zu, jD, jH, jN, jP, jQ, jR, jS, jT, hP]) ?_; refine zA6 hctr (rs := res12) true 300 _ _ _ ?_; simp (maxSteps := 1000000) only [VG, qE, qF, qG, qP, qy, zA, zB, zD, zG, zI, zJ, zM, ↓reduceIte, reduceCtorEq, Nat.reduceEqDiff, Nat.reduceAdd, zP, zQ, zt, jN, jO, hP, hk, res12, kp12])
    exact zI4 hC hres12 (d:=10) (by rw [hA]; rfl) (by rw [hA]; rfl)
   ·have b1:(c.op == 1)=false:=by simp [hop]
    have n1:(c.op=1)=False:=by simp [hop]
    have b2:(c.op == 2)=false:=by simp [hop]
    have n2:(c.op=2)=False:=by simp [hop]
    have b3:(c.op == 3)=false:=by simp [hop]
    have n3:(c.op=3)=False:=by simp [hop]
    have b4:(c.op == 4)=false:=by simp [hop]
    have n4:(c.op=4)=False:=by simp [hop]
    have b7:(c.op == 7)=true:=by simp [hop]
    have n7:(c.op=7)=True:=by simp [hop]
    have b5:(c.op == 5)=false:=by simp [hop]
    have n5:(c.op=5)=False:=by simp [hop]
    have b6:(c.op == 6)=false:=by simp [hop]
    have n6:(c.op=6)=False:=by simp [hop]
    simp (maxSteps:=1000000) only [VG,qH,qI,qJ,qK,qO,qP,qQ,qR,qS,qV,q0t,qu,qv,ev,qw,qy,qz,zC,zD,zE,zG,zI,zJ,zM,↓reduceIte,reduceCtorEq,Nat.reduceEqDiff,Nat.reduceAdd,Nat.reduceLT,zP,zQ,zR,zS,zV,zW,zb,zc,zt,hP,hk,kp12,not_false_eq_true,mCA,mC1,mC0,zB5,zA7,It.zero,anS,b1,n1,b2,b3,b4,b7]
    cases hI:isF ys c.key with
    | false =>
     have hA:zA9 X now c most=(({ X with items:=ys }:St),zA7 5):=by unfold zA9; rw [if_pos ⟨hm,h1,h2⟩,hY]; simp [doF,hop,lookF,hI]
     simp (maxSteps:=1000000) only [VG,reduceCtorEq,zR,zW,zb,zc]
     (refine zA1 hctr (by rw [hP]; rfl) rs12_29 [] (ensure_type_of% (Cmp.of (by simp (maxSteps := 1000000) only [qK, qO, qP, qQ, qV, q0t, qu, qv, ev, qy, zA, zB, zC, zD, zE, zF, zG, zM, ↓reduceIte, Nat.reduceEqDiff, Nat.reduceAdd, zP, zt, zu, cD, cO, jC, jD, jH, jN, hP]; rfl)) "" Cmp.mk) (by kernel_rfl) (by kernel_rfl) (by first | exact zA2 _ | kernel_rfl) (by kernel_rfl) (by rfl) (by rfl) (by first | exact zA0 _ | rfl) (by rfl) (by simp (maxSteps := 1000000) only [qK, qO, qP, qQ, qV, q0t, qu, qv, ev, qy, zA, zB, zC, zD, zE, zG, zM, ↓reduceIte, Nat.reduceEqDiff, Nat.reduceAdd, zP, zT, zn, zt, zu, jD, jH, jN, jP, jQ, jR, jS, jT, hP]) ?_; refine zA6 hctr (rs := res12) true 300 _ _ _ ?_; simp (maxSteps := 1000000) only [VG, qE, qF, qG, qP, qy, zA, zB, zD, zG, zI, zJ, zM, ↓reduceIte, reduceCtorEq, Nat.reduceEqDiff, Nat.reduceAdd, zP, zQ, zt, jN, jO, hP, hk, res12, kp12])
     exact zI4 hC hres12 (d:=8) (by rw [hA]; rfl) (by rw [hA]; rfl)
    | true =>
     simp (maxSteps:=1000000) only [VG,qH,qI,qK,qO,ev,qw,qy,zD,↓reduceIte,reduceCtorEq,Nat.reduceEqDiff,Nat.reduceLT,zR,zS,zV,zb,zc,mCA,mC1,mC0,zB7]
     have hil:=zG7 hI
     have hx:=List.getElem?_eq_getElem hil
     have hil':((atF ys c.key:Nat):Int) < (ys.length:Int):=by omega
     obtain ⟨x,hxe⟩:∃ x,x=ys[atF ys c.key]:=⟨_,rfl⟩
     rw [← hxe] at hx
     refine Run_win (base:=w.heap.size) (d:=8) (xs:=ys) (i:=(atF ys c.key)) (x:=x) rfl hx (by rw [hn0]; decide) rfl rfl ?_
     have hA:zA9 X now c most=(({ X with items:=ys }:St),⟨1,x,0,false,false,false⟩):=by unfold zA9; rw [if_pos ⟨hm,h1,h2⟩,hY]; simp [doF,hop,lookF,hI,itF_of hx]
     simp only [zE]
     (refine zA6 hctr (rs:=res12) true 300 _ _ _ ?_; simp (maxSteps:=1000000) only [VG,qH,qI,qJ,qK,qP,qQ,qf,qg,q0t,qu,qv,ev,qw,qy,qz,zA,zB,zC,zD,zE,zG,zI,zJ,zM,↓reduceIte,reduceCtorEq,Nat.reduceEqDiff,Nat.reduceAdd,Nat.reduceLT,zP,zQ,zR,zT,zh,zk,zl,zt,hP,hk,kp12,mCA,mC1,mC0,zB7,zF1,itS,Int.natCast_nonneg,hil'])
     (refine zA1 hctr (by rw [hP]; rfl) rs12_29 [] (ensure_type_of% (Cmp.of (by simp (maxSteps := 1000000) only [qK, qO, qP, qQ, qV, q0t, qu, qv, ev, qy, zA, zB, zC, zD, zE, zF, zG, zM, ↓reduceIte, Nat.reduceEqDiff, Nat.reduceAdd, zP, zt, zu, cD, cO, jC, jD, jH, jN, hP]; rfl)) "" Cmp.mk) (by kernel_rfl) (by kernel_rfl) (by first | exact zA2 _ | kernel_rfl) (by kernel_rfl) (by rfl) (by rfl) (by first | exact zA0 _ | rfl) (by rfl) (by simp (maxSteps := 1000000) only [qK, qO, qP, qQ, qV, q0t, qu, qv, ev, qy, zA, zB, zC, zD, zE, zG, zM, ↓reduceIte, Nat.reduceEqDiff, Nat.reduceAdd, zP, zT, zn, zt, zu, jD, jH, jN, jP, jQ, jR, jS, jT, hP]) ?_; refine zA6 hctr (rs := res12) true 300 _ _ _ ?_; simp (maxSteps := 1000000) only [VG, qE, qF, qG, qP, qy, zA, zB, zD, zG, zI, zJ, zM, ↓reduceIte, reduceCtorEq, Nat.reduceEqDiff, Nat.reduceAdd, zP, zQ, zt, jN, jO, hP, hk, res12, kp12])
     exact appFinW (Y:=zA9 X now c most) (d:=8) (j:=(atF ys c.key)) (x:=x) hC hres12 (by rw [hA]; exact hx) (by rw [hA]; rfl) (by rw [hA]; rfl)
end Go.Proofs.YtfpeholdlkfmoaaGreatDoor
/- Apply as a call in the walk of a law. -/
namespace Go.Proofs.YtfpeholdlkfmoaaGreatDoor
set_option linter.unusedSimpArgs false
set_option linter.unusedVariables false
open Go.RowKit
structure Good (X:St):Prop where
 sorted:Sorted X.items
 len:X.items.length≤10000000
 bd:∀ x∈X.items,x.key.length≤100000000∧x.val.length≤100000000∧-4398046511104≤x.exp∧x.exp≤9223372036854775807
structure CdOk (c:Cd):Prop where
 key:c.key.length≤9223372036854775807
 val:c.val.length≤9223372036854775807
 d0:0≤c.delta
 d1:c.delta < 18446744073709551616
 i0:0≤c.init
 i1:c.init < 18446744073709551616
theorem apply_any (X:St) (v:Value) (now:Int) (c:Cd) (most:Int) (w:World) (ho:OwnI 0 w v X.items) (hg:Good X) (hc:CdOk c) (hE:Env w) :
  Calls Tryz.prog 12 #[.agg #[v,.int .u64 X.cas,.int .i64 X.flush],.int .i64 now,.agg (cdA c),.int .i64 most] w (AppR (zA9 X now c most) w):=by
 by_cases h:zT0 c=true∧1≤now∧now≤1099511627776
 ·exact apply_ok X v now c most w ho hg.sorted hg.len hc.key hc.val h.1 h.2.1 h.2.2 hc.d0 hc.d1 hc.i0 hc.i1 hE hg.bd
 ·have:zA9 X now c most=(St.zero,An.zero):=by unfold zA9; rw [if_neg h]
  rw [this]
  exact apply_bad X v now c most w ho hc.key hc.val h
theorem new_src {C:Cx} {ρ:Nat→RE} {pr:Nat→Prop} {en en':List EN} {w w':World} {xs:List It} {v':Value} {N:Nat} (hw:Hw C ρ pr en w) (lN:¬ pr N) (hn1:C.n0≤N) (hN:zD en' N=some (srcE xs)) (hq:∀ q,pr q→zD en' q=zD en q)
  (hb:Below w.heap.size w w') (ho:OwnI w.heap.size w' v' xs) :
  ∃ ρ',(∀ q,pr q→ρ' q=ρ q)∧zE9 (ρ' N) xs.length=v'∧Hw C ρ' (fun q=>pr q∨q=N) en' w':=by
 obtain ⟨r,h1,h2,h3,h4,h5⟩:=row_re ho w.heap.size (Nat.le_refl _)
 have hlow:w.heap.size≤r.blk:=by
  cases hr:r.nl with
  | none=>exact (ho.lt _ (h3 hr).1).1
  | some p=>rw [h4 (by rw [hr]; simp)]; exact Nat.le_refl _
 have hrow:rowI 0 xs r:=h2.imp (fun h=>⟨h.1,Nat.zero_le _,h.2.2⟩) id
 have he:=he_row (C:=C) (ρ:=ρ) (pr:=pr) (base:=0) (xs:=xs) (N:=N) h3
 obtain ⟨k1,k2⟩:=Hw.rebuild (e:=srcE xs) (T:=Non) r hw lN hn1 (Upd.of_below hb) (fun k _ h=>h.elim) (fun q hq'=>.inl ⟨hq q hq',fun _ h=>h⟩) hN ⟨he.heap,he.wf,fun hd=>absurd (show (33:Nat)=zE8 from hd) (by decide),he.non⟩ ⟨by rw [h5]; rfl,hrow⟩
  (fun _ q hq' hl=>by rw [hq q hq'] at hl; have:=hw.lt hq' hl; omega) (fun h=>by cases h)
 exact ⟨_,k1,by rw [show zL6 ρ N r N=r from if_pos rfl]; exact h1,k2⟩
def StOf (en:List EN) (X:St) (v:SC):Prop:=(v=.v (.slice none 0 0)∧X.items=[])∨∃ d,v=.rw d X.items.length∧zD en d=some (srcE X.items)
theorem apply_h {C:Cx} {nE N:Nat} {mk:Nat→Prop} {en en':List EN} {X:St} {now:Int} {c:Cd} {most:Int} {v:SC} (hP:C.P=Tryz.prog) (hE:EnvC C) (hv:StOf en X v) (hg:Good X) (hc:CdOk c) (hn1:C.n0≤N) (hmk:∀ q,mk q ↔ q=N)
  (hN:zD en' N=some (srcE (zA9 X now c most).1.items)) (hq:∀ q,q ≠ N→zD en' q=zD en q) :
  zP3 C nE mk en en' 12 [.g [v,.i .u64 X.cas,.i .i64 X.flush],.c (.i .i64 now),.g (cdS c),.c (.i .i64 most)] (.t [.g [.rw N (zA9 X now c most).1.items.length,.i .u64 (zA9 X now c most).1.cas,.i .i64 (zA9 X now c most).1.flush],.g (anS (zA9 X now c most).2)]):=by
 refine ⟨fun args w=>by rw [hP]; exact Tryz.call12 args w,?_⟩
 intro ρ pr w hpr hmn hw hex hwf
 rw [hP]
 have lN:¬ pr N:=hmn _ ((hmk _).2 rfl)
 have ho:OwnI 0 w (v.den ρ) X.items:=by
  rcases hv with ⟨rfl,hx⟩ | ⟨d,rfl,hd⟩
  ·exact .inl ⟨none,rfl,hx⟩
  ·have h0:wfs pr [.rw d X.items.length,.i .u64 X.cas,.i .i64 X.flush]:=hwf (.g _) (List.mem_cons_self ..)
   exact zW6 hw (h0 (.rw d _) (List.mem_cons_self ..)) hd
 refine (apply_any X (v.den ρ) now c most w ho hg hc (hE w hw.up)).mono ?_
 rintro e w' ⟨v',rfl,ho',hb⟩
 obtain ⟨ρ',k1,k2,k3⟩:=new_src hw lN hn1 hN (fun q hq'=>hq q (fun h=>lN (h ▸ hq'))) hb ho'
 have hsame:(fun q=>pr q∨mk q)=fun q=>pr q∨q=N:=funext fun q=>propext (or_congr_right (hmk q))
 rw [hsame]
 refine ⟨ρ',k1,by rw [← k2]; rfl,?_,k3,fun q hq'=>?_⟩
 ·intro y hy
  simp only [List.mem_cons,List.not_mem_nil,or_false] at hy
  rcases hy with rfl | rfl
  ·intro z hz
   simp only [List.mem_cons,List.not_mem_nil,or_false] at hz
   rcases hz with rfl | rfl | rfl
   ·exact .inr rfl
   ·trivial
   ·trivial
  ·intro z hz
   simp only [anS,List.mem_cons,List.not_mem_nil,or_false] at hz
   rcases hz with rfl | rfl | rfl | rfl | rfl | rfl | rfl | rfl | rfl | rfl | rfl | rfl | rfl <;> trivial
 ·rw [(hmk q).1 hq',hN]; exact fun h=>nomatch h
variable {C:Cx} {nt:Nat} {sl:List (Nat × SV)} {k:List KI} {dst:Option Nat} {args:Array Operand} {tys:Array TypeId} {ty:TypeId} {pos:String} {af:Array Edge} {all r:List Oper} {en:List EN}
theorem Run_apply (Y:St × An) {X:St} {now:Int} {c:Cd} {most:Int} {v:SC} (hY:Y=zA9 X now c most) (hP:C.P=Tryz.prog) (hE:EnvC C) (hv:StOf en X v) (hg:Good X) (hc:CdOk c) (hn1:C.n0≤zG en)
  (hxs:qw sl args.toList=some [.g [v,.i .u64 X.cas,.i .i64 X.flush],.c (.i .i64 now),.g (cdS c),.c (.i .i64 most)]) (hdst:∀ d,dst=some d→d < nt)
  (hK:Run C (.ops all r :: k) nt (jN dst (.t [.g [.rw (zG en) Y.1.items.length,.i .u64 Y.1.cas,.i .i64 Y.1.flush],.g (anS Y.2)]) sl) (zF en (srcE Y.1.items))) :
  Run C (.ops all (⟨dst,.call ⟨.value (.func 12),args,tys⟩,ty,pos,af,none⟩ :: r) :: k) nt sl en:=by
 subst hY
 refine zE5 hxs _ _ ?_ (by rw [zC7]; omega) hdst hK
 exact apply_h hP hE hv hg hc hn1 (mk_new zC7) zM9 (fun q hq=>zC3 hq)
def getC (key:List UInt8):Cd:=⟨1,0,key,[],0,0,false,0,false,0,0,false,false,0,-1,false⟩
theorem lawFin {C:Cx} {fn:Func} {w:World} {ρ:Nat→RE} {n:Nat} {kp:List Nat} {en:List EN} {rs:List ResultVar} {b:Bool} (hC:C=zL Tryz.prog fn (fun e w'=>e=.returned (.bool true)∧Below w.heap.size w w') Non w ρ n kp) (hrs:fn.results.toList=rs) (hb:b=true):Fin C rs (.c (.b b)) en:=by
 subst hC
 subst hb
 exact zK7 zL1 hrs fun ρ' w' h hn _=>⟨rfl,h.up.to_below⟩
theorem envC_of {C:Cx} {fn:Func} {R:Ending→World→Prop} {w:World} {ρ:Nat→RE} {n:Nat} {kp:List Nat} (hC:C=zL Tryz.prog fn R Non w ρ n kp) (hE:Env w):EnvC C:=by
 subst hC
 exact fun w' hu=>hE.below hu.to_below
end Go.Proofs.YtfpeholdlkfmoaaGreatDoor
/- Arguments that are slices of commands, opened. -/
namespace Go.Proofs.YtfpeholdlkfmoaaGreatDoor
set_option linter.unusedSimpArgs false
set_option linter.unusedVariables false
open Go.ChangeShapes Go.WideShapes Go.ChangeAt Go.RowKit Go.Deep
def cmdKs:List KD:=[.i .i64,.i .i64,.s,.s,.i .u32,.i .i64,.b,.i .u64,.b,.i .u64,.i .u64,.b,.b,.i .i64,.i .i64,.b]
def cdOf (u:Nat→Value):Cd:=⟨intV (u 0),intV (u 1),strV (u 2),strV (u 3),intV (u 4),intV (u 5),truV (u 6),intV (u 7),truV (u 8),intV (u 9),intV (u 10),truV (u 11),truV (u 12),intV (u 13),intV (u 14),truV (u 15)⟩
def CmdsAt (W:World) (A:Option Addr) (n:Nat) (cs:Nat→Cd):Prop:=∀ k,k < n→∃ b o,A=some ⟨b,o,none⟩∧b < W.heap.size∧(∀ (j:Nat) v,(cdA (cs k)).toList[j]?=some v→W.cell? ⟨b,o+k * 16+j,none⟩=some v)∧CdOk (cs k)
set_option maxRecDepth 100000 in
theorem open_cmdl {H:Type} {enc:TypeId × Value→H} {W:World} {base:Nat} {v:Value} {d:DataW H} {ps:List MemPlace} (hv:Value.okWide Tryz.prog W .any base 40 v) (h:DataW.Trod enc Tryz.prog W 0 (fun _=>true) true 40 v d ps) :
  ∃ (A:Option Addr) (n c:Nat) (cs:Nat→Cd),v=.slice A n c∧n≤maxLen∧CmdsAt W A n cs:=by
 obtain ⟨A,n,c,rfl,hn,hel⟩:=open_rows (ks:=cmdKs) Tryz.underlying40 (by kernel_rfl) (by decide) hv h
 refine ⟨A,n,c,fun k=>cdOf fun j=>match A with | some a=>(W.cell? ⟨a.block,a.off+k * 16+j,none⟩).getD undef | none=>undef,rfl,hn,fun k hk=>?_⟩
 obtain ⟨b,o,rfl,hb,hj⟩:=hel k hk
 have hlen:cmdKs.length=16:=rfl
 rw [hlen] at hj
 obtain ⟨q0,c0,n0,rfl,_⟩:=hj 0 _ rfl
 obtain ⟨q1,c1,n1,rfl,_⟩:=hj 1 _ rfl
 obtain ⟨q2,c2,l2,rfl,k2⟩:=hj 2 _ rfl
 obtain ⟨q3,c3,l3,rfl,k3⟩:=hj 3 _ rfl
 obtain ⟨q4,c4,n4,rfl,_⟩:=hj 4 _ rfl
 obtain ⟨q5,c5,n5,rfl,_⟩:=hj 5 _ rfl
 obtain ⟨q6,c6,b6,rfl⟩:=hj 6 _ rfl
 obtain ⟨q7,c7,n7,rfl,_⟩:=hj 7 _ rfl
 obtain ⟨q8,c8,b8,rfl⟩:=hj 8 _ rfl
 obtain ⟨q9,c9,n9,rfl,w9⟩:=hj 9 _ rfl
 obtain ⟨q10,c10,n10,rfl,w10⟩:=hj 10 _ rfl
 obtain ⟨q11,c11,b11,rfl⟩:=hj 11 _ rfl
 obtain ⟨q12,c12,b12,rfl⟩:=hj 12 _ rfl
 obtain ⟨q13,c13,n13,rfl,_⟩:=hj 13 _ rfl
 obtain ⟨q14,c14,n14,rfl,_⟩:=hj 14 _ rfl
 obtain ⟨q15,c15,b15,rfl⟩:=hj 15 _ rfl
 have e:(cdOf fun j=>(W.cell? ⟨b,o+k * 16+j,none⟩).getD undef)=⟨n0,n1,l2,l3,n4,n5,b6,n7,b8,n9,n10,b11,b12,n13,n14,b15⟩:=by
  simp only [cdOf,c0,c1,c2,c3,c4,c5,c6,c7,c8,c9,c10,c11,c12,c13,c14,c15,Option.getD_some]
  rfl
 refine ⟨b,o,rfl,hb,?_,?_⟩
 ·show ∀ (j:Nat) v,(cdA (cdOf fun j=>(W.cell? ⟨b,o+k * 16+j,none⟩).getD undef)).toList[j]?=some v→_
  rw [e]
  intro j v hv
  have hj16:j < 16:=(List.getElem?_eq_some_iff.1 hv).1
  have:j=0∨j=1∨j=2∨j=3∨j=4∨j=5∨j=6∨j=7∨j=8∨j=9∨j=10∨j=11∨j=12∨j=13∨j=14∨j=15:=by omega
  rcases this with rfl | rfl | rfl | rfl | rfl | rfl | rfl | rfl | rfl | rfl | rfl | rfl | rfl | rfl | rfl | rfl
  ·rw [c0]; exact hv
  ·rw [c1]; exact hv
  ·rw [c2]; exact hv
  ·rw [c3]; exact hv
  ·rw [c4]; exact hv
  ·rw [c5]; exact hv
  ·rw [c6]; exact hv
  ·rw [c7]; exact hv
  ·rw [c8]; exact hv
  ·rw [c9]; exact hv
  ·rw [c10]; exact hv
  ·rw [c11]; exact hv
  ·rw [c12]; exact hv
  ·rw [c13]; exact hv
  ·rw [c14]; exact hv
  ·rw [c15]; exact hv
 ·show CdOk (cdOf fun j=>(W.cell? ⟨b,o+k * 16+j,none⟩).getD undef)
  rw [e]
  have u9:=bounds_u64 w9
  have u10:=bounds_u64 w10
  exact ⟨k2,k3,u9.1,by show n9 < _; omega,u10.1,by show n10 < _; omega⟩
end Go.Proofs.YtfpeholdlkfmoaaGreatDoor
