/- ambrylaw24.shown, walked. Printed by gen_aushown.py. -/
import Derived.Test.YtfpeholdlkfmoaaGreatDoorBS18
import Derived.Test.YtfpeholdlkfmoaaGreatDoorBS10
namespace Go.Proofs.YtfpeholdlkfmoaaGreatDoor
set_option linter.unusedSimpArgs false
set_option linter.unusedVariables false
set_option maxHeartbeats 8000000
open Go.RowKit
set_option maxRecDepth 100000
def asC1:Cd:=⟨2,0,[107],[118],0,0,false,0,false,0,0,false,false,0,-1,false⟩
def asX1:It:=⟨[107],0,[118],0,1,0,false,false⟩
def asA1:An:=⟨2,asX1,0,false,false,false⟩
def asE0:Ev:=⟨1,5,0,1,0,asC1,asA1,[]⟩
def asE1:Ev:=⟨2,5,0,0,0,Cd.zero,An.zero,[[107]]⟩
def asE2:Ev:=⟨1,6,0,2,0,getC [107],zA7 5,[]⟩
theorem as1:zA9 St.zero 5 asC1 99=(⟨[asX1],1,0⟩,asA1):=by
 rw [show St.zero=none' 0 from rfl,app_nil ⟨by decide,by decide,by decide⟩]
 simp [doF,asC1,zA8,zD9,zK4,zJ0,none',zE9,itF,asX1,asA1,It.zero,zB2,wrap64]
theorem as_r1:(zM0 (au0 99) [asE0] 0).1.X=⟨[asX1],1,0⟩:=by rfl
theorem as_r3:(zM0 (au0 99) [asE0,asE1,asE2] 0).2=-1:=by rfl
theorem as_r2:(zM0 (au0 99) [asE0,asE2] 0).2=1:=by rfl
theorem as_r4:(zM0 (au0 99) [asE0,asE1,asE1] 0).2=2:=by rfl
structure AsI (w0:World) (m:Nat × Nat × Nat × Nat) (w:World):Prop where
 up:Upd Non w0 w
 el:∃ g,RawEv w (some ⟨m.1,0,none⟩) [⟨asE0,none,0,0⟩,⟨asE1,some ⟨g,0,none⟩,1,1⟩,⟨asE2,none,0,0⟩]
 em:RawEv w (some ⟨m.2.1,0,none⟩) [⟨asE0,none,0,0⟩,⟨asE2,none,0,0⟩]
 eN:∃ g,RawEv w (some ⟨m.2.2.1,0,none⟩) [⟨asE0,none,0,0⟩,⟨asE1,some ⟨g,0,none⟩,1,1⟩,⟨asE1,some ⟨g,0,none⟩,1,1⟩]
 ne:m.1 ≠ m.2.2.1
 lm:m.1 ≠ m.2.1
 mn:m.2.1 ≠ m.2.2.1
 s:∃ a c,w.heap[m.2.2.2]?=some (.cells #[.slice a 1 c,.int .u64 1,.int .i64 0] 25 (0,0))∧RawI w a [asX1]
theorem AsI.upd {w0 w w':World} {m:Nat × Nat × Nat × Nat} (h:AsI w0 m w) (hu:Upd Non w w'):AsI w0 m w':=by
 obtain ⟨h1,⟨g,h2⟩,h3,⟨g',h4⟩,h5,h6,h7,a,c,h8,h9⟩:=h
 exact ⟨h1.trans hu (fun _ _ h=>h),⟨g,h2.upd hu⟩,h3.upd hu,⟨g',h4.upd hu⟩,h5,h6,h7,a,c,by rw [hu.block _ (Array.getElem?_eq_some_iff.1 h8).1 (fun h=>h)]; exact h8,h9.below hu.to_below⟩
def slAs (m:Nat × Nat × Nat × Nat):List (Nat × SV):=[(7,.c (.v (.slice (some ⟨m.2.2.1,0,none⟩) 3 3))),(6,.c (.v (.slice (some ⟨m.2.1,0,none⟩) 2 2))),(5,.c (.v (.slice (some ⟨m.1,0,none⟩) 3 3))),(2,.c (.v (.pointer (some ⟨m.2.2.2,0,none⟩)))),(0,.c (.b false))]
theorem as_cd1:CdOk asC1:=⟨by decide,by decide,by decide,by decide,by decide,by decide⟩
theorem as_cd2:CdOk (getC [107]):=⟨by decide,by decide,by decide,by decide,by decide,by decide⟩
theorem ashown_w {w:World} (hE:Env w):Calls Tryz.prog 14 #[] w fun e w'=>e=.returned (.bool true)∧Below w.heap.size w w':=by
 refine zB6 Tryz.func14 rfl kp14 (S:=Non) (ρ:=fun _=>⟨0,[],[],0,none⟩) (en:=[]) [] Tryz.ntmps14 (At.nil _ _ _) (by simp) (by simp) ?_
 intro C hC hP hk
 have hctr:=zE8 hP
 have hEC:=envC_of hC hE
 have hn0:C.n0=0:=by rw [hC]; rfl
 (refine zB0 hctr (rs:=res14) true 300 _ _ _ ?_; simp (maxSteps:=1000000) only [VT,qH,qI,qJ,qK,qO,qP,qf,qg,q0t,qu,qv,ev,qw,qy,qz,zA,zB,zC,zD,zE,zF,zG,zI,zJ,zK,zM,↓reduceIte,reduceCtorEq,Nat.reduceEqDiff,Nat.reduceAdd,Nat.reduceLT,zP,zQ,zR,zt,hP,hk,kp14,noC,Nat.reduceAdd])
 refine Run_apply (⟨[asX1],1,0⟩,asA1) (X:=St.zero) (c:=asC1) (now:=5) (most:=99) as1.symm hP hEC (.inl ⟨rfl,rfl⟩) (good_nil _ _) as_cd1 (by rw [hn0]; exact Nat.zero_le _) rfl (by simp) ?_
 (refine zB0 hctr (rs:=res14) true 300 _ _ _ ?_; simp (maxSteps:=1000000) only [VT,qA,qB,qC,qD,qH,qI,qJ,qK,qO,qP,qf,qg,qh,q0t,qu,qv,ev,qy,qz,zA,zB,zC,zD,zE,zF,zG,zI,zJ,TE.sv,zM,↓reduceIte,reduceCtorEq,Nat.reduceEqDiff,Nat.reduceAdd,Nat.reduceLT,Nat.reduceLeDiff,zP,zQ,zR,zT,zk,zl,zt,jN,hP,hk,kp14,Nat.reduceAdd,Nat.reduceMul,srcE,anS,asX1,asA1])
 have b0:(0:Int) < ((3:Nat):Int):=by decide
 have b1:(1:Int) < ((3:Nat):Int):=by decide
 have b2:(2:Int) < ((3:Nat):Int):=by decide
 have b3:(0:Int)≤2:=by decide
 have b4:(0:Int)≤1:=by decide
 (refine zF5 hctr (by rw [hP]; rfl) rs14_5 [] (ensure_type_of% (Cmp.of (by simp (maxSteps := 1000000) only [qA, qB, qC, qD, qK, qO, qP, qX, qg, ev, qy, qz, zA, zB, zC, zD, zF, zG, zM, ↓reduceIte, Nat.reduceEqDiff, Nat.reduceAdd, Nat.reduceLT, Nat.reduceLeDiff, zT, zk, zl, zt, zu, cE, jA, jC, jD, jF, jG, jJ, jN, hP, Int.le_refl, Nat.reduceAdd, Nat.reduceMul, b0, b2, b3, Int.toNat_zero, Int.reduceToNat, Nat.zero_mul]; rfl)) "" Cmp.mk) (by kernel_rfl) (by kernel_rfl) (by first | exact zA2 _ | kernel_rfl) (by kernel_rfl) (by rfl) (by rfl) (by first | exact zA0 _ | rfl) (by rfl) ?_ ?_; rotate_left; refine zB0 hctr (rs := res14) true 300 _ _ _ ?_; simp (maxSteps := 1000000) only [VT, zG, zI, zJ, ↓reduceIte, reduceCtorEq, Nat.reduceEqDiff, Nat.reduceAdd, zP, zQ, zt, jN, jO, hk, kp14, Nat.reduceAdd]; rotate_left; simp (maxSteps := 1000000) only [qA, qB, qC, qD, qK, qO, qP, qX, qg, ev, qy, qz, zA, zB, zC, zD, zG, zM, ↓reduceIte, Nat.reduceEqDiff, Nat.reduceAdd, Nat.reduceLT, Nat.reduceLeDiff, zT, zk, zl, zm, zn, zq, zt, zu, jD, jF, jG, jN, jP, jQ, jR, jS, jT, hP, Int.le_refl, Nat.reduceAdd, Nat.reduceMul, b0, b2, b3, Int.toNat_zero, Int.reduceToNat, Nat.zero_mul])
 (refine zF5 hctr (by rw [hP]; rfl) rs14_6 [] (ensure_type_of% (Cmp.of (by simp (maxSteps := 1000000) only [qA, qB, qC, qD, qK, qO, qP, qX, qg, ev, qy, qz, zA, zB, zC, zD, zF, zG, zM, ↓reduceIte, Nat.reduceEqDiff, Nat.reduceAdd, Nat.reduceLT, Nat.reduceLeDiff, zT, zk, zl, zt, zu, cE, jA, jC, jD, jF, jG, jJ, jN, hP, Int.le_refl, Nat.reduceAdd, Nat.reduceMul, b0, b1, b4, Int.toNat_zero, Int.toNat_one, Nat.zero_mul, Nat.one_mul]; rfl)) "" Cmp.mk) (by kernel_rfl) (by kernel_rfl) (by first | exact zA2 _ | kernel_rfl) (by kernel_rfl) (by rfl) (by rfl) (by first | exact zA0 _ | rfl) (by rfl) ?_ ?_; rotate_left; refine zB0 hctr (rs := res14) true 300 _ _ _ ?_; simp (maxSteps := 1000000) only [VT, qH, qI, qK, qO, qZ, ql, ev, qw, qy, qz, zG, zI, zJ, zM, ↓reduceIte, reduceCtorEq, Nat.reduceEqDiff, Nat.reduceAdd, Nat.reduceLT, zP, zQ, zR, zn, zt, zu, jN, jO, hP, hk, kp14, noC, Int.le_refl, Nat.reduceAdd, b4, Int.toNat_zero, Int.toNat_one, Nat.zero_mul]; rotate_left; simp (maxSteps := 1000000) only [qA, qB, qC, qD, qK, qO, qP, qX, qg, ev, qy, qz, zA, zB, zC, zD, zG, zM, ↓reduceIte, Nat.reduceEqDiff, Nat.reduceAdd, Nat.reduceLT, Nat.reduceLeDiff, zT, zk, zl, zm, zn, zq, zt, zu, jD, jF, jG, jN, jP, jQ, jR, jS, jT, hP, Int.le_refl, Nat.reduceAdd, Nat.reduceMul, b0, b1, b4, Int.toNat_zero, Int.toNat_one, Nat.zero_mul, Nat.one_mul])
 refine ⟨by decide,?_⟩
 refine Run_W (M:=Nat × Nat × Nat × Nat) (I:=fun m _ w'=>AsI w m w') (sl':=fun m=>(44,.c (.v (.slice (some ⟨m.1,0,none⟩) 1 3))) :: slAs m) (en':=fun _=>[]) ?_ ?_
 ·intro ρ' a' w' hr'
  obtain ⟨p5,b5⟩:=zN3 (c:=5) hr'.hw rfl (by simp) (by decide)
  obtain ⟨p6,b6⟩:=zN3 (c:=6) hr'.hw rfl (by simp) (by decide)
  obtain ⟨p7,b7⟩:=zN3 (c:=7) hr'.hw rfl (by simp) (by decide)
  obtain ⟨p8,b8⟩:=zN3 (c:=8) hr'.hw rfl (by simp) (by decide)
  obtain ⟨p2,b2⟩:=zN3 (c:=2) hr'.hw rfl (by simp) (by decide)
  have n68:=ent_ne (c:=6) (d:=8) hr'.hw rfl (by simp) (by decide) rfl (by simp) (by decide) (by decide)
  have n67:=ent_ne (c:=6) (d:=7) hr'.hw rfl (by simp) (by decide) rfl (by simp) (by decide) (by decide)
  have n78:=ent_ne (c:=7) (d:=8) hr'.hw rfl (by simp) (by decide) rfl (by simp) (by decide) (by decide)
  have ho:OwnI 0 w' (zF6 (ρ' 1) 1) [asX1]:=own_hp (xs:=[asX1]) hr'.hw.hp hr'.hw.ho (by decide) rfl
  obtain ⟨aX,cX,hv,hR⟩:=zV2 ho
  have hu:Upd Non w w':=by have:=hr'.hw.up; rw [hC] at this; exact this
  have e5:(⟨(ρ' 5).blk,(ρ' 5).pre.length,none⟩:Addr)=⟨(ρ' 5).blk,0,none⟩:=by rw [p5]; rfl
  refine ⟨((ρ' 6).blk,(ρ' 7).blk,(ρ' 8).blk,(ρ' 2).blk),fun i=>ρ' (([]:List Nat).getD i 0),hr'.wt.pick [] rfl (fun i hi=>nomatch hi) (fun i t cells mu hi=>by simp [zD] at hi) (fun d v' hd=>zU6 (s:=_) ?_ d v' hd),?_⟩
  ·exact ⟨⟨_,rfl,by simp only [SV.den,SC.den,p6,List.length_nil,Nat.zero_add],trivial⟩,⟨_,rfl,by simp only [SV.den,SC.den,p8,List.length_nil,Nat.zero_add],trivial⟩,⟨_,rfl,by simp only [SV.den,SC.den,p7,List.length_nil,Nat.zero_add],trivial⟩,⟨_,rfl,by simp only [SV.den,SC.den,p6,List.length_nil,Nat.zero_add],trivial⟩,⟨_,rfl,by simp only [SV.den,SC.den,p2,zG1,List.length_nil,Nat.zero_add],trivial⟩,⟨_,rfl,rfl,trivial⟩,trivial⟩
  ·have q5:(SC.sl 5 0 1 1).den ρ'=.slice (some ⟨(ρ' 5).blk,0,none⟩) 1 1:=by simp only [SC.den,p5,List.length_nil,Nat.zero_add]
   have c1:LosK w' ⟨asE1,some ⟨(ρ' 5).blk,0,none⟩,1,1⟩:=los_one (k:=[107]) (post:=[]) rfl b5
   have c0:LosK w' ⟨asE0,none,0,0⟩:=los_none rfl
   have c2:LosK w' ⟨asE2,none,0,0⟩:=los_none rfl
   refine ⟨hu,⟨(ρ' 5).blk,RawEv.of (t:=48) (m:=(0,0)) (ρ:=ρ') (post:=[]) (b6.trans ?_) fun x hx=>?_⟩,RawEv.of (t:=48) (m:=(0,0)) (ρ:=ρ') (post:=[]) (b7.trans ?_) fun x hx=>?_,⟨(ρ' 5).blk,RawEv.of (t:=48) (m:=(0,0)) (ρ:=ρ') (post:=[]) (b8.trans ?_) fun x hx=>?_⟩,n68,n67,n78,aX,cX,b2.trans ?_,hR⟩
   ·rw [List.append_nil]
    exact congrArg (fun v=>some (Obj.cells (zC2 ρ' (evC ⟨asE0,none,0,0⟩)++((zC2 ρ' (evC ⟨asE1,none,0,0⟩)).dropLast++[v]++zC2 ρ' (evC ⟨asE2,none,0,0⟩))).toArray 48 (0,0))) q5
   ·simp only [List.mem_cons,List.not_mem_nil,or_false] at hx; rcases hx with rfl | rfl | rfl <;> assumption
   ·rw [List.append_nil]; rfl
   ·simp only [List.mem_cons,List.not_mem_nil,or_false] at hx; rcases hx with rfl | rfl <;> assumption
   ·rw [List.append_nil]
    exact congrArg (fun v=>some (Obj.cells (zC2 ρ' (evC ⟨asE0,none,0,0⟩)++((zC2 ρ' (evC ⟨asE1,none,0,0⟩)).dropLast++[v]++((zC2 ρ' (evC ⟨asE1,none,0,0⟩)).dropLast++[v]))).toArray 48 (0,0))) q5
   ·simp only [List.mem_cons,List.not_mem_nil,or_false] at hx; rcases hx with rfl | rfl | rfl <;> assumption
   ·simp only [zC2,List.map_cons,List.map_nil,SC.den]; rw [hv]; rfl
 rintro m ρ1 w1 _ hI
 obtain ⟨G,hG⟩:∃ G,G=cxW C ρ1 w1 []:=⟨_,rfl⟩
 have hI:AsI w m w1:=hI
 show Run (cxW C ρ1 w1 []) _ 64 ((44,.c (.v (.slice (some ⟨m.1,0,none⟩) 1 3))) :: slAs m) []
 rw [← hG]
 have hP0:=hP; have hk0:=hk
 have hP:G.P=Tryz.prog:=by rw [hG]; exact hP0
 have hk:G.kp=kp14:=by rw [hG]; exact hk0
 have hctr:zE1 G noC:=zE8 hP
 have hCx:Ctx C Tryz.prog Tryz.f14 (fun e w'=>e=.returned (.bool true)∧Below w.heap.size w w'):=by rw [hC]; exact zK8
 have hCxG:Ctx G Tryz.prog Tryz.f14 (fun e w'=>e=.returned (.bool true)∧Below w.heap.size w w'):=by rw [hG]; exact hCx.cxW _ _ _
 have hU:∀ w',Upd G.S G.w0 w'→Upd Non w1 w':=by
  rw [hG]
  exact fun w' hu=>hu.mono fun q _ hq=>absurd hq no_wr
 refine zR1 (M:=Option Addr × Nat) (I:=fun r _ w'=>AsI w m w'∧RawI w' r.1 [asX1]) (sl':=fun r=>(45,.g [.v (.slice r.1 1 r.2),.i .u64 1,.i .i64 0]) :: slAs m) (en':=fun _=>[]) rfl (fun args w=>by rw [hP]; exact Tryz.call17 args w) ?_ ?_
 ·intro ρ2 a2 w2 hr2
  have hI2:=hI.upd (hU w2 hr2.hw.up)
  obtain ⟨g5,hl⟩:=hI2.el
  rw [hP]
  have hE2:Evs w2 (some ⟨m.1,0,none⟩) 1 [⟨asE0,none,0,0⟩] 99:=Evs.of (hl.take 1) rfl (by decide) (fun x hx=>by simp only [List.mem_cons,List.not_mem_nil,or_false] at hx; subst hx; exact as_cd1) (hE.below hI2.up.to_below)
  refine (replay_w (c:=3) hE2).mono ?_
  rintro z w3 ⟨v,rfl,ho,hu3⟩
  rw [show (zM0 (au0 99) ([(⟨asE0,none,0,0⟩:EvR)].map (·.e)) 0).1.X=⟨[asX1],1,0⟩ from as_r1] at ho ⊢
  obtain ⟨a9,c9,rfl,hR⟩:=zV2 ho
  exact ⟨(a9,c9),ρ2,_,rfl,zT8 (v0:=.g [.v (.slice a9 1 c9),.i .u64 1,.i .i64 0]) (s:=slAs m) hr2 (At.nil (fun _=>True) ρ2 w3) (by decide) (zD0 trivial) ⟨⟨_,rfl,rfl,trivial⟩,⟨_,rfl,rfl,trivial⟩,⟨_,rfl,rfl,trivial⟩,⟨_,rfl,rfl,trivial⟩,⟨_,rfl,rfl,trivial⟩,trivial⟩,hI2.upd hu3,hR⟩
 rintro ⟨a9,c9⟩ ρ3 w3 _ ⟨hI3,hR9⟩
 have hI3:AsI w m w3:=hI3
 have hR9:RawI w3 a9 [asX1]:=hR9
 obtain ⟨H,hH⟩:∃ H,H=cxW G ρ3 w3 []:=⟨_,rfl⟩
 show Run (cxW G ρ3 w3 []) _ 64 ((45,.g [.v (.slice a9 1 c9),.i .u64 1,.i .i64 0]) :: slAs m) []
 rw [← hH]
 obtain ⟨g6,g7,g8,g2⟩:=m
 have hP1:=hP; have hk1:=hk
 have hP:H.P=Tryz.prog:=by rw [hH]; exact hP1
 have hk:H.kp=kp14:=by rw [hH]; exact hk1
 have hCxH:Ctx H Tryz.prog Tryz.f14 (fun e w'=>e=.returned (.bool true)∧Below w.heap.size w w'):=by rw [hH]; exact hCxG.cxW _ _ _
 have hU3:∀ w',Upd H.S H.w0 w'→Upd Non w3 w':=by
  rw [hH]
  exact fun w' hu=>hu.mono fun q _ hq=>absurd hq no_wr
 obtain ⟨V,hV⟩:∃ V:Option Addr→Nat→Int,V=fun a _=>if a=some ⟨g6,0,none⟩ then -1 else if a=some ⟨g7,0,none⟩ then 1 else 2:=⟨_,rfl⟩
 have hctr:zE1 H (auC w3 V):=auC_ok hP hU3
 have hne:g6 ≠ g8:=hI3.ne
 have hlm:g6 ≠ g7:=hI3.lm
 have hmn:g7 ≠ g8:=hI3.mn
 have v1:V (some ⟨g6,0,none⟩) 3=-1:=by rw [hV]; simp
 have v2:V (some ⟨g7,0,none⟩) 2=1:=by rw [hV]; simp []
 have v3:V (some ⟨g8,0,none⟩) 3=2:=by rw [hV]; simp []
 have hE3:Env w3:=hE.below hI3.up.to_below
 have k1:CkP w3 V (some ⟨g6,0,none⟩) 3 99:=by
  obtain ⟨g5,hl⟩:=hI3.el
  exact ⟨_,Evs.of hl rfl (by simp) (fun x hx=>by simp only [List.mem_cons,List.not_mem_nil,or_false] at hx; rcases hx with rfl | rfl | rfl; exact as_cd1; exact cd_zero; exact as_cd2) hE3,by rw [v1]; exact as_r3⟩
 have k2:CkP w3 V (some ⟨g7,0,none⟩) 2 99:=
  ⟨_,Evs.of hI3.em rfl (by decide) (fun x hx=>by simp only [List.mem_cons,List.not_mem_nil,or_false] at hx; rcases hx with rfl | rfl; exact as_cd1; exact as_cd2) hE3,by rw [v2]; exact as_r2⟩
 have k3:CkP w3 V (some ⟨g8,0,none⟩) 3 99:=by
  obtain ⟨g5,hl⟩:=hI3.eN
  exact ⟨_,Evs.of hl rfl (by simp) (fun x hx=>by simp only [List.mem_cons,List.not_mem_nil,or_false] at hx; rcases hx with rfl | rfl | rfl; exact as_cd1; exact cd_zero; exact cd_zero) hE3,by rw [v3]; exact as_r4⟩
 obtain ⟨aX,cX,hst,hRX⟩:=hI3.s
 have k4:SrP w3 aX 1 a9 1:=⟨[asX1],hRX,hR9,rfl,rfl,by decide⟩
 have hst:w3.heap[g2]?=some (.cells #[.slice aX 1 cX,.int .u64 1,.int .i64 0] 25 (0,0)):=hst
 have hrd:H.rd g2 0 3=some [.v (.slice aX 1 cX),.i .u64 1,.i .i64 0]:=rd_of (vs:=[.slice aX 1 cX,.int .u64 1,.int .i64 0]) (fun w' hu j v hv=>by
  have hu:=hU3 w' hu
  rw [Go.cell_of_row w' _ _ _ _ (0,0) ((hu.block _ (Array.getElem?_eq_some_iff.1 hst).1 (fun h=>h)).trans hst)]
  match j with
  | 0=>exact hv
  | 1=>exact hv
  | 2=>exact hv
  | _+3=>simp at hv) rfl
 (refine zB0 hctr (rs:=res14) true 300 _ _ _ ?_; simp (maxSteps:=1000000) only [VT,jf,jZ,qE,qF,qG,qH,qI,qJ,qK,qO,qP,qR,qS,qp,q0t,qu,qv,ev,qw,qy,qz,zA,zB,zC,zD,zE,zF,zG,zI,zJ,TE.sv,zM,↓reduceIte,reduceCtorEq,Value.oneCell',Nat.reduceEqDiff,Nat.reduceAdd,Nat.reduceLT,zP,zQ,zR,zT,zV,zt,hP,hk,res14,kp14,auC,Nat.reduceAdd,slAs,rowCk,rowSr,v1,v2,v3,k1,k2,k3,k4,hrd,beq_self_eq_true])
 refine zK3 hCxH hres14 fun ρ' w' hw' _ _=>⟨rfl,?_⟩
 exact (hI3.up.trans (hU3 w' hw'.up) (fun _ _ h=>h)).to_below
end Go.Proofs.YtfpeholdlkfmoaaGreatDoor
/- AuditOne, walked. Printed by gen_auone.py. -/
namespace Go.Proofs.YtfpeholdlkfmoaaGreatDoor
set_option linter.unusedSimpArgs false
set_option linter.unusedVariables false
set_option maxHeartbeats 8000000
open Go.RowKit
set_option maxRecDepth 100000
def ashC:Ctr:=fun f _ xs=>match f with
 | 14=>(match xs with
  | []=>some (True,.c (.b true))
  | _=>none)
 | _=>none
theorem ashC_ok {C:Cx} (hP:C.P=Tryz.prog) (hE:EnvC C):zE1 C ashC:=by
 intro f en xs p v h hp ρ w hup hHp hHo hinj hwf
 unfold ashC at h
 split at h
 ·rw [hP]
  refine ⟨fun args w=>Tryz.call14 args w,?_⟩
  split at h <;> simp only [Option.some.injEq,Prod.mk.injEq,reduceCtorEq] at h
  obtain ⟨rfl,rfl⟩:=h
  exact ⟨trivial,ashown_w (hE w hup)⟩
 ·cases h
theorem CmdsAt.up {w w':World} {A:Option Addr} {n:Nat} {cs:Nat→Cd} (h:CmdsAt w A n cs) (hu:Upd Non w w'):CmdsAt w' A n cs:=fun k hk=>by
 obtain ⟨b,o,e,hb,hc,hd⟩:=h k hk
 exact ⟨b,o,e,Nat.lt_of_lt_of_le hb hu.size,fun j v hv=>by rw [hu.cell (p:=⟨b,o+k * 16+j,none⟩) hb (fun h=>h)]; exact hc j v hv,hd⟩
theorem StepsAt.up {w w':World} {a:Option Addr} {n:Nat} (h:StepsAt w a n) (hu:Upd Non w w'):StepsAt w' a n:=fun k hk=>by
 obtain ⟨g,o,z,e,hg,hc⟩:=h k hk
 exact ⟨g,o,z,e,Nat.lt_of_lt_of_le hg hu.size,by rw [hu.cell (p:=⟨g,o+k,none⟩) hg (fun h=>h)]; exact hc⟩
structure TolI (w0:World) (most:Int) (t:ToI most) (a:Option Addr) (w:World):Prop where
 i:t.i≤40
 up:Upd Non w0 w
 raw:RawEv w a t.L
theorem TolI.evs {w0 w:World} {most:Int} {t:ToI most} {a:Option Addr} (h:TolI w0 most t a w) (hE:Env w0):Evs w a t.L.length t.L most:=
 Evs.of h.raw rfl (by have:=t.len h.i; omega) t.cd (hE.below h.up.to_below)
theorem TolI.run {w0 w:World} {most:Int} {t:ToI most} {a:Option Addr} (_:TolI w0 most t a w):(zM0 (au0 most) (t.L.map (·.e)) 0).2=-1:=by
 obtain ⟨now',tn,hr,_⟩:=t.h.run
 rw [hr]
theorem auone_w {w:World} {A Bs:Option Addr} {nl lc ns sc:Nat} {cs:Nat→Cd} (most:Int) (hCm:CmdsAt w A nl cs) (hSt:StepsAt w Bs ns) (hnl:nl≤9223372036854775807) (hns:ns≤9223372036854775807) (hE:Env w) :
  Calls Tryz.prog 4 #[.slice A nl lc,.slice Bs ns sc,.int .i64 most] w fun e w'=>e=.returned (.bool true)∧Below w.heap.size w w':=by
 refine zB6 Tryz.func4 rfl kp4 (S:=Non) (ρ:=fun _=>⟨0,[],[],0,none⟩) (en:=[]) [.c (.v (.slice A nl lc)),.c (.v (.slice Bs ns sc)),.c (.i .i64 most)] Tryz.ntmps4 (At.nil _ _ _) (by intro y hy; simp only [List.mem_cons,List.not_mem_nil,or_false] at hy; rcases hy with rfl | rfl | rfl <;> trivial) (by simp) ?_
 intro C hC hP hk
 have hEC:=envC_of hC hE
 have hn0:C.n0=0:=by rw [hC]; rfl
 have hctr:zE1 C ashC:=ashC_ok hP hEC
 (refine zB0 hctr (rs:=res4) true 300 _ _ _ ?_; simp (maxSteps:=1000000) only [VT,jf,jZ,qE,qF,qG,qH,qI,qK,qO,qp,ev,qw,qy,qz,zD,zI,zJ,TE.sv,zK,↓reduceIte,reduceCtorEq,Nat.reduceEqDiff,Nat.reduceAdd,Nat.reduceLT,zP,zQ,zR,zV,zt,hP,hk,res4,kp4,ashC,Nat.reduceAdd])
 have hCx:Ctx C Tryz.prog Tryz.f4 (fun e w'=>e=.returned (.bool true)∧Below w.heap.size w w'):=by rw [hC]; exact zK8
 have hU0:∀ w',Upd C.S C.w0 w'→Upd Non w w':=by rw [hC]; exact fun w' hu=>hu
 refine Run_callWG (M:=(ToI most) × Option Addr × Nat) (I:=fun m _ w'=>TolI w most m.1 m.2.1 w') (sl':=fun m=>[(14,.c (.v (.slice m.2.1 m.1.L.length m.2.2))),(10,.c (.b true)),(2,.c (.i .i64 most))]) (en':=fun _=>[]) rfl rfl (fun args w=>by rw [hP]; exact Tryz.call16 args w) ?_ ?_
 ·intro ρ1 a1 w1 hr1
  have hu:=hU0 w1 hr1.hw.up
  rw [hP]
  refine (told_w (w:=w1) most (hCm.up hu) (hSt.up hu) hnl hns (hE.below hu.to_below)).mono ?_
  rintro z w2 ⟨a,c,t,rfl,hi,hu2,hR⟩
  exact ⟨(t,a,c),ρ1,_,rfl,zT8 (v0:=.c (.v (.slice a t.L.length c))) (s:=_) hr1 (At.nil (fun _=>True) ρ1 w2) (by decide) trivial ⟨⟨_,rfl,rfl,trivial⟩,⟨_,rfl,rfl,trivial⟩,trivial⟩,hi,hu.trans hu2 (fun _ _ h=>h),hR⟩
 rintro ⟨t,a,c⟩ ρ1 w1 _ hI
 have hI:TolI w most t a w1:=hI
 obtain ⟨G,hG⟩:∃ G,G=cxW C ρ1 w1 []:=⟨_,rfl⟩
 show Run (cxW C ρ1 w1 []) _ 19 [(14,.c (.v (.slice a t.L.length c))),(10,.c (.b true)),(2,.c (.i .i64 most))] []
 rw [← hG]
 have hP0:=hP; have hk0:=hk
 have hP:G.P=Tryz.prog:=by rw [hG]; exact hP0
 have hk:G.kp=kp4:=by rw [hG]; exact hk0
 have hCxG:Ctx G Tryz.prog Tryz.f4 (fun e w'=>e=.returned (.bool true)∧Below w.heap.size w w'):=by rw [hG]; exact hCx.cxW _ _ _
 have hU:∀ w',Upd G.S G.w0 w'→Upd Non w1 w':=by
  rw [hG]
  exact fun w' hu=>hu.mono fun q _ hq=>absurd hq no_wr
 obtain ⟨V,hV⟩:∃ V:Option Addr→Nat→Int,V=fun _ _=>-1:=⟨_,rfl⟩
 have hctr:zE1 G (auC w1 V):=auC_ok hP hU
 have v1:V a t.L.length=-1:=by rw [hV]
 have k1:CkP w1 V a t.L.length most:=⟨_,hI.evs hE,by rw [v1]; exact hI.run⟩
 (refine zB0 hctr (rs:=res4) true 300 _ _ _ ?_; simp (maxSteps:=1000000) only [VT,jf,jZ,qE,qF,qG,qH,qI,qK,qO,qR,qS,qp,ev,qw,qy,qz,zD,zI,zJ,TE.sv,↓reduceIte,reduceCtorEq,Nat.reduceEqDiff,Nat.reduceLT,zP,zQ,zR,zV,hP,hk,res4,kp4,auC,rowCk,v1,k1,beq_self_eq_true])
 refine zK3 hCxG hres4 fun ρ' w' hw' _ _=>⟨rfl,?_⟩
 exact (hI.up.trans (hU w' hw'.up) (fun _ _ h=>h)).to_below
end Go.Proofs.YtfpeholdlkfmoaaGreatDoor
