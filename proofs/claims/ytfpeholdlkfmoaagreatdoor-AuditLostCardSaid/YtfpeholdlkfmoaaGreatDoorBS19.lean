/- ambrylaw24.shown, walked. Printed by gen_aushown.py. -/
import Derived.Test.YtfpeholdlkfmoaaGreatDoorBS18
import Derived.Test.YtfpeholdlkfmoaaGreatDoorBS10
import Derived.Test.YtfpeholdlkfmoaaGreatDoorBS12
import Derived.Test.YtfpeholdlkfmoaaGreatDoorBS11
namespace Go.Proofs.YtfpeholdlkfmoaaGreatDoor
set_option linter.unusedSimpArgs false
set_option linter.unusedVariables false
set_option maxHeartbeats 8000000
open Go.RowKit
set_option maxRecDepth 100000
def asC1:Cd:=⟨2,0,[107],[118],0,0,false,0,false,0,0,false,false,0,-1,false⟩
def asX1:It:=⟨[107],0,[118],0,1,0,false,false⟩
def asA1:An:=⟨2,asX1,0,false,false,false⟩
def asE0:Ev:=⟨1,5,0,1,0,asC1,asA1,[]⟩
def asE1:Ev:=⟨2,5,0,0,0,Cd.zero,An.zero,[[107]]⟩
def asE2:Ev:=⟨1,6,0,2,0,getC [107],zA7 5,[]⟩
theorem as1:zA9 St.zero 5 asC1 99=(⟨[asX1],1,0⟩,asA1):=by
 rw [show St.zero=none' 0 from rfl,app_nil ⟨by decide,by decide,by decide⟩]
 simp [doF,asC1,zA8,zD9,zK1,zJ4,none',zF3,itF,asX1,asA1,It.zero,zB3,wrap64]
theorem as_r1:(zH7 (au0 99) [asE0] 0).1.X=⟨[asX1],1,0⟩:=by rfl
theorem as_r3:(zH7 (au0 99) [asE0,asE1,asE2] 0).2=-1:=by rfl
theorem as_r2:(zH7 (au0 99) [asE0,asE2] 0).2=1:=by rfl
theorem as_r4:(zH7 (au0 99) [asE0,asE1,asE1] 0).2=2:=by rfl
structure AsI (w0:World) (m:Nat × Nat × Nat × Nat) (w:World):Prop where
 up:Upd Non w0 w
 el:∃ g,RawEv w (some ⟨m.1,0,none⟩) [⟨asE0,none,0,0⟩,⟨asE1,some ⟨g,0,none⟩,1,1⟩,⟨asE2,none,0,0⟩]
 em:RawEv w (some ⟨m.2.1,0,none⟩) [⟨asE0,none,0,0⟩,⟨asE2,none,0,0⟩]
 eN:∃ g,RawEv w (some ⟨m.2.2.1,0,none⟩) [⟨asE0,none,0,0⟩,⟨asE1,some ⟨g,0,none⟩,1,1⟩,⟨asE1,some ⟨g,0,none⟩,1,1⟩]
 ne:m.1 ≠ m.2.2.1
 lm:m.1 ≠ m.2.1
 mn:m.2.1 ≠ m.2.2.1
 s:∃ a c,w.heap[m.2.2.2]?=some (.cells #[.slice a 1 c,.int .u64 1,.int .i64 0] 25 (0,0))∧RawI w a [asX1]
theorem AsI.upd {w0 w w':World} {m:Nat × Nat × Nat × Nat} (h:AsI w0 m w) (hu:Upd Non w w'):AsI w0 m w':=by
 obtain ⟨h1,⟨g,h2⟩,h3,⟨g',h4⟩,h5,h6,h7,a,c,h8,h9⟩:=h
 exact ⟨h1.trans hu (fun _ _ h=>h),⟨g,h2.upd hu⟩,h3.upd hu,⟨g',h4.upd hu⟩,h5,h6,h7,a,c,by rw [hu.block _ (Array.getElem?_eq_some_iff.1 h8).1 (fun h=>h)]; exact h8,h9.below hu.to_below⟩
def slAs (m:Nat × Nat × Nat × Nat):List (Nat × SV):=[(7,.c (.v (.slice (some ⟨m.2.2.1,0,none⟩) 3 3))),(6,.c (.v (.slice (some ⟨m.2.1,0,none⟩) 2 2))),(5,.c (.v (.slice (some ⟨m.1,0,none⟩) 3 3))),(2,.c (.v (.pointer (some ⟨m.2.2.2,0,none⟩)))),(0,.c (.b false))]
theorem as_cd1:CdOk asC1:=⟨by decide,by decide,by decide,by decide,by decide,by decide⟩
theorem as_cd2:CdOk (getC [107]):=⟨by decide,by decide,by decide,by decide,by decide,by decide⟩
theorem ashown_w {w:World} (hE:Env w):Calls Tryz.prog 14 #[] w fun e w'=>e=.returned (.bool true)∧Below w.heap.size w w':=by
 refine zB8 Tryz.func14 rfl kp14 (S:=Non) (ρ:=fun _=>⟨0,[],[],0,none⟩) (en:=[]) [] Tryz.ntmps14 (At.nil _ _ _) (by simp) (by simp) ?_
 intro C hC hP hk
 have hctr:=zE6 hP
 have hEC:=envC_of hC hE
 have hn0:C.n0=0:=by rw [hC]; rfl
 (refine zB0 hctr (rs:=res14) true 300 _ _ _ ?_; simp (maxSteps:=1000000) only [VT,qH,qI,qJ,qK,qO,qP,qf,qg,q0t,qu,qv,ev,qw,qy,qz,zA,zB,zC,zD,zE,zF,zG,zI,zJ,zK,zM,↓reduceIte,reduceCtorEq,Nat.reduceEqDiff,Nat.reduceAdd,Nat.reduceLT,zP,zQ,zR,zt,hP,hk,kp14,noC,Nat.reduceAdd])
 refine Run_apply (⟨[asX1],1,0⟩,asA1) (X:=St.zero) (c:=asC1) (now:=5) (most:=99) as1.symm hP hEC (.inl ⟨rfl,rfl⟩) (good_nil _ _) as_cd1 (by rw [hn0]; exact Nat.zero_le _) rfl (by simp) ?_
 (refine zB0 hctr (rs:=res14) true 300 _ _ _ ?_; simp (maxSteps:=1000000) only [VT,qA,qB,qC,qD,qH,qI,qJ,qK,qO,qP,qf,qg,qh,q0t,qu,qv,ev,qy,qz,zA,zB,zC,zD,zE,zF,zG,zI,zJ,TE.sv,zM,↓reduceIte,reduceCtorEq,Nat.reduceEqDiff,Nat.reduceAdd,Nat.reduceLT,Nat.reduceLeDiff,zP,zQ,zR,zT,zk,zl,zt,jN,hP,hk,kp14,Nat.reduceAdd,Nat.reduceMul,srcE,anS,asX1,asA1])
 have b0:(0:Int) < ((3:Nat):Int):=by decide
 have b1:(1:Int) < ((3:Nat):Int):=by decide
 have b2:(2:Int) < ((3:Nat):Int):=by decide
 have b3:(0:Int)≤2:=by decide
 have b4:(0:Int)≤1:=by decide
 (refine zG1 hctr (by rw [hP]; rfl) rs14_5 [] (ensure_type_of% (Cmp.of (by simp (maxSteps := 1000000) only [qA, qB, qC, qD, qK, qO, qP, qX, qg, ev, qy, qz, zA, zB, zC, zD, zF, zG, zM, ↓reduceIte, Nat.reduceEqDiff, Nat.reduceAdd, Nat.reduceLT, Nat.reduceLeDiff, zT, zk, zl, zt, zu, cE, jA, jC, jD, jF, jG, jJ, jN, hP, Int.le_refl, Nat.reduceAdd, Nat.reduceMul, b0, b2, b3, Int.toNat_zero, Int.reduceToNat, Nat.zero_mul]; rfl)) "" Cmp.mk) (by kernel_rfl) (by kernel_rfl) (by first | exact zA2 _ | kernel_rfl) (by kernel_rfl) (by rfl) (by rfl) (by first | exact zA0 _ | rfl) (by rfl) ?_ ?_; rotate_left; refine zB0 hctr (rs := res14) true 300 _ _ _ ?_; simp (maxSteps := 1000000) only [VT, zG, zI, zJ, ↓reduceIte, reduceCtorEq, Nat.reduceEqDiff, Nat.reduceAdd, zP, zQ, zt, jN, jO, hk, kp14, Nat.reduceAdd]; rotate_left; simp (maxSteps := 1000000) only [qA, qB, qC, qD, qK, qO, qP, qX, qg, ev, qy, qz, zA, zB, zC, zD, zG, zM, ↓reduceIte, Nat.reduceEqDiff, Nat.reduceAdd, Nat.reduceLT, Nat.reduceLeDiff, zT, zk, zl, zm, zn, zq, zt, zu, jD, jF, jG, jN, jP, jQ, jR, jS, jT, hP, Int.le_refl, Nat.reduceAdd, Nat.reduceMul, b0, b2, b3, Int.toNat_zero, Int.reduceToNat, Nat.zero_mul])
 (refine zG1 hctr (by rw [hP]; rfl) rs14_6 [] (ensure_type_of% (Cmp.of (by simp (maxSteps := 1000000) only [qA, qB, qC, qD, qK, qO, qP, qX, qg, ev, qy, qz, zA, zB, zC, zD, zF, zG, zM, ↓reduceIte, Nat.reduceEqDiff, Nat.reduceAdd, Nat.reduceLT, Nat.reduceLeDiff, zT, zk, zl, zt, zu, cE, jA, jC, jD, jF, jG, jJ, jN, hP, Int.le_refl, Nat.reduceAdd, Nat.reduceMul, b0, b1, b4, Int.toNat_zero, Int.toNat_one, Nat.zero_mul, Nat.one_mul]; rfl)) "" Cmp.mk) (by kernel_rfl) (by kernel_rfl) (by first | exact zA2 _ | kernel_rfl) (by kernel_rfl) (by rfl) (by rfl) (by first | exact zA0 _ | rfl) (by rfl) ?_ ?_; rotate_left; refine zB0 hctr (rs := res14) true 300 _ _ _ ?_; simp (maxSteps := 1000000) only [VT, qH, qI, qK, qO, qZ, ql, ev, qw, qy, qz, zG, zI, zJ, zM, ↓reduceIte, reduceCtorEq, Nat.reduceEqDiff, Nat.reduceAdd, Nat.reduceLT, zP, zQ, zR, zn, zt, zu, jN, jO, hP, hk, kp14, noC, Int.le_refl, Nat.reduceAdd, b4, Int.toNat_zero, Int.toNat_one, Nat.zero_mul]; rotate_left; simp (maxSteps := 1000000) only [qA, qB, qC, qD, qK, qO, qP, qX, qg, ev, qy, qz, zA, zB, zC, zD, zG, zM, ↓reduceIte, Nat.reduceEqDiff, Nat.reduceAdd, Nat.reduceLT, Nat.reduceLeDiff, zT, zk, zl, zm, zn, zq, zt, zu, jD, jF, jG, jN, jP, jQ, jR, jS, jT, hP, Int.le_refl, Nat.reduceAdd, Nat.reduceMul, b0, b1, b4, Int.toNat_zero, Int.toNat_one, Nat.zero_mul, Nat.one_mul])
 refine ⟨by decide,?_⟩
 refine Run_W (M:=Nat × Nat × Nat × Nat) (I:=fun m _ w'=>AsI w m w') (sl':=fun m=>(44,.c (.v (.slice (some ⟨m.1,0,none⟩) 1 3))) :: slAs m) (en':=fun _=>[]) ?_ ?_
 ·intro ρ' a' w' hr'
  obtain ⟨p5,b5⟩:=zM1 (c:=5) hr'.hw rfl (by simp) (by decide)
  obtain ⟨p6,b6⟩:=zM1 (c:=6) hr'.hw rfl (by simp) (by decide)
  obtain ⟨p7,b7⟩:=zM1 (c:=7) hr'.hw rfl (by simp) (by decide)
  obtain ⟨p8,b8⟩:=zM1 (c:=8) hr'.hw rfl (by simp) (by decide)
  obtain ⟨p2,b2⟩:=zM1 (c:=2) hr'.hw rfl (by simp) (by decide)
  have n68:=ent_ne (c:=6) (d:=8) hr'.hw rfl (by simp) (by decide) rfl (by simp) (by decide) (by decide)
  have n67:=ent_ne (c:=6) (d:=7) hr'.hw rfl (by simp) (by decide) rfl (by simp) (by decide) (by decide)
  have n78:=ent_ne (c:=7) (d:=8) hr'.hw rfl (by simp) (by decide) rfl (by simp) (by decide) (by decide)
  have ho:OwnI 0 w' (zE9 (ρ' 1) 1) [asX1]:=own_hp (xs:=[asX1]) hr'.hw.hp hr'.hw.ho (by decide) rfl
  obtain ⟨aX,cX,hv,hR⟩:=zS9 ho
  have hu:Upd Non w w':=by have:=hr'.hw.up; rw [hC] at this; exact this
  have e5:(⟨(ρ' 5).blk,(ρ' 5).pre.length,none⟩:Addr)=⟨(ρ' 5).blk,0,none⟩:=by rw [p5]; rfl
  refine ⟨((ρ' 6).blk,(ρ' 7).blk,(ρ' 8).blk,(ρ' 2).blk),fun i=>ρ' (([]:List Nat).getD i 0),hr'.wt.pick [] rfl (fun i hi=>nomatch hi) (fun i t cells mu hi=>by simp [zD] at hi) (fun d v' hd=>zM7 (s:=_) ?_ d v' hd),?_⟩
  ·exact ⟨⟨_,rfl,by simp only [SV.den,SC.den,p6,List.length_nil,Nat.zero_add],trivial⟩,⟨_,rfl,by simp only [SV.den,SC.den,p8,List.length_nil,Nat.zero_add],trivial⟩,⟨_,rfl,by simp only [SV.den,SC.den,p7,List.length_nil,Nat.zero_add],trivial⟩,⟨_,rfl,by simp only [SV.den,SC.den,p6,List.length_nil,Nat.zero_add],trivial⟩,⟨_,rfl,by simp only [SV.den,SC.den,p2,zG5,List.length_nil,Nat.zero_add],trivial⟩,⟨_,rfl,rfl,trivial⟩,trivial⟩
  ·have q5:(SC.sl 5 0 1 1).den ρ'=.slice (some ⟨(ρ' 5).blk,0,none⟩) 1 1:=by simp only [SC.den,p5,List.length_nil,Nat.zero_add]
   have c1:LosK w' ⟨asE1,some ⟨(ρ' 5).blk,0,none⟩,1,1⟩:=los_one (k:=[107]) (post:=[]) rfl b5
   have c0:LosK w' ⟨asE0,none,0,0⟩:=los_none rfl
   have c2:LosK w' ⟨asE2,none,0,0⟩:=los_none rfl
   refine ⟨hu,⟨(ρ' 5).blk,RawEv.of (t:=48) (m:=(0,0)) (ρ:=ρ') (post:=[]) (b6.trans ?_) fun x hx=>?_⟩,RawEv.of (t:=48) (m:=(0,0)) (ρ:=ρ') (post:=[]) (b7.trans ?_) fun x hx=>?_,⟨(ρ' 5).blk,RawEv.of (t:=48) (m:=(0,0)) (ρ:=ρ') (post:=[]) (b8.trans ?_) fun x hx=>?_⟩,n68,n67,n78,aX,cX,b2.trans ?_,hR⟩
   ·rw [List.append_nil]
    exact congrArg (fun v=>some (Obj.cells (zC1 ρ' (evC ⟨asE0,none,0,0⟩)++((zC1 ρ' (evC ⟨asE1,none,0,0⟩)).dropLast++[v]++zC1 ρ' (evC ⟨asE2,none,0,0⟩))).toArray 48 (0,0))) q5
   ·simp only [List.mem_cons,List.not_mem_nil,or_false] at hx; rcases hx with rfl | rfl | rfl <;> assumption
   ·rw [List.append_nil]; rfl
   ·simp only [List.mem_cons,List.not_mem_nil,or_false] at hx; rcases hx with rfl | rfl <;> assumption
   ·rw [List.append_nil]
    exact congrArg (fun v=>some (Obj.cells (zC1 ρ' (evC ⟨asE0,none,0,0⟩)++((zC1 ρ' (evC ⟨asE1,none,0,0⟩)).dropLast++[v]++((zC1 ρ' (evC ⟨asE1,none,0,0⟩)).dropLast++[v]))).toArray 48 (0,0))) q5
   ·simp only [List.mem_cons,List.not_mem_nil,or_false] at hx; rcases hx with rfl | rfl | rfl <;> assumption
   ·simp only [zC1,List.map_cons,List.map_nil,SC.den]; rw [hv]; rfl
 rintro m ρ1 w1 _ hI
 obtain ⟨G,hG⟩:∃ G,G=cxW C ρ1 w1 []:=⟨_,rfl⟩
 have hI:AsI w m w1:=hI
 show Run (cxW C ρ1 w1 []) _ 64 ((44,.c (.v (.slice (some ⟨m.1,0,none⟩) 1 3))) :: slAs m) []
 rw [← hG]
 have hP0:=hP; have hk0:=hk
 have hP:G.P=Tryz.prog:=by rw [hG]; exact hP0
 have hk:G.kp=kp14:=by rw [hG]; exact hk0
 have hctr:zE4 G noC:=zE6 hP
 have hCx:Ctx C Tryz.prog Tryz.f14 (fun e w'=>e=.returned (.bool true)∧Below w.heap.size w w'):=by rw [hC]; exact zL1
 have hCxG:Ctx G Tryz.prog Tryz.f14 (fun e w'=>e=.returned (.bool true)∧Below w.heap.size w w'):=by rw [hG]; exact hCx.cxW _ _ _
 have hU:∀ w',Upd G.S G.w0 w'→Upd Non w1 w':=by
  rw [hG]
  exact fun w' hu=>hu.mono fun q _ hq=>absurd hq no_wr
 refine zS3 (M:=Option Addr × Nat) (I:=fun r _ w'=>AsI w m w'∧RawI w' r.1 [asX1]) (sl':=fun r=>(45,.g [.v (.slice r.1 1 r.2),.i .u64 1,.i .i64 0]) :: slAs m) (en':=fun _=>[]) rfl (fun args w=>by rw [hP]; exact Tryz.call17 args w) ?_ ?_
 ·intro ρ2 a2 w2 hr2
  have hI2:=hI.upd (hU w2 hr2.hw.up)
  obtain ⟨g5,hl⟩:=hI2.el
  rw [hP]
  have hE2:Evs w2 (some ⟨m.1,0,none⟩) 1 [⟨asE0,none,0,0⟩] 99:=Evs.of (hl.take 1) rfl (by decide) (fun x hx=>by simp only [List.mem_cons,List.not_mem_nil,or_false] at hx; subst hx; exact as_cd1) (hE.below hI2.up.to_below)
  refine (replay_w (c:=3) hE2).mono ?_
  rintro z w3 ⟨v,rfl,ho,hu3⟩
  rw [show (zH7 (au0 99) ([(⟨asE0,none,0,0⟩:EvR)].map (·.e)) 0).1.X=⟨[asX1],1,0⟩ from as_r1] at ho ⊢
  obtain ⟨a9,c9,rfl,hR⟩:=zS9 ho
  exact ⟨(a9,c9),ρ2,_,rfl,zS6 (v0:=.g [.v (.slice a9 1 c9),.i .u64 1,.i .i64 0]) (s:=slAs m) hr2 (At.nil (fun _=>True) ρ2 w3) (by decide) (zC8 trivial) ⟨⟨_,rfl,rfl,trivial⟩,⟨_,rfl,rfl,trivial⟩,⟨_,rfl,rfl,trivial⟩,⟨_,rfl,rfl,trivial⟩,⟨_,rfl,rfl,trivial⟩,trivial⟩,hI2.upd hu3,hR⟩
 rintro ⟨a9,c9⟩ ρ3 w3 _ ⟨hI3,hR9⟩
 have hI3:AsI w m w3:=hI3
 have hR9:RawI w3 a9 [asX1]:=hR9
 obtain ⟨H,hH⟩:∃ H,H=cxW G ρ3 w3 []:=⟨_,rfl⟩
 show Run (cxW G ρ3 w3 []) _ 64 ((45,.g [.v (.slice a9 1 c9),.i .u64 1,.i .i64 0]) :: slAs m) []
 rw [← hH]
 obtain ⟨g6,g7,g8,g2⟩:=m
 have hP1:=hP; have hk1:=hk
 have hP:H.P=Tryz.prog:=by rw [hH]; exact hP1
 have hk:H.kp=kp14:=by rw [hH]; exact hk1
 have hCxH:Ctx H Tryz.prog Tryz.f14 (fun e w'=>e=.returned (.bool true)∧Below w.heap.size w w'):=by rw [hH]; exact hCxG.cxW _ _ _
 have hU3:∀ w',Upd H.S H.w0 w'→Upd Non w3 w':=by
  rw [hH]
  exact fun w' hu=>hu.mono fun q _ hq=>absurd hq no_wr
 obtain ⟨V,hV⟩:∃ V:Option Addr→Nat→Int,V=fun a _=>if a=some ⟨g6,0,none⟩ then -1 else if a=some ⟨g7,0,none⟩ then 1 else 2:=⟨_,rfl⟩
 have hctr:zE4 H (auC w3 V):=auC_ok hP hU3
 have hne:g6 ≠ g8:=hI3.ne
 have hlm:g6 ≠ g7:=hI3.lm
 have hmn:g7 ≠ g8:=hI3.mn
 have v1:V (some ⟨g6,0,none⟩) 3=-1:=by rw [hV]; simp
 have v2:V (some ⟨g7,0,none⟩) 2=1:=by rw [hV]; simp []
 have v3:V (some ⟨g8,0,none⟩) 3=2:=by rw [hV]; simp []
 have hE3:Env w3:=hE.below hI3.up.to_below
 have k1:CkP w3 V (some ⟨g6,0,none⟩) 3 99:=by
  obtain ⟨g5,hl⟩:=hI3.el
  exact ⟨_,Evs.of hl rfl (by simp) (fun x hx=>by simp only [List.mem_cons,List.not_mem_nil,or_false] at hx; rcases hx with rfl | rfl | rfl; exact as_cd1; exact zY0; exact as_cd2) hE3,by rw [v1]; exact as_r3⟩
 have k2:CkP w3 V (some ⟨g7,0,none⟩) 2 99:=
  ⟨_,Evs.of hI3.em rfl (by decide) (fun x hx=>by simp only [List.mem_cons,List.not_mem_nil,or_false] at hx; rcases hx with rfl | rfl; exact as_cd1; exact as_cd2) hE3,by rw [v2]; exact as_r2⟩
 have k3:CkP w3 V (some ⟨g8,0,none⟩) 3 99:=by
  obtain ⟨g5,hl⟩:=hI3.eN
  exact ⟨_,Evs.of hl rfl (by simp) (fun x hx=>by simp only [List.mem_cons,List.not_mem_nil,or_false] at hx; rcases hx with rfl | rfl | rfl; exact as_cd1; exact zY0; exact zY0) hE3,by rw [v3]; exact as_r4⟩
 obtain ⟨aX,cX,hst,hRX⟩:=hI3.s
 have k4:SrP w3 aX 1 a9 1:=⟨[asX1],hRX,hR9,rfl,rfl,by decide⟩
 have hst:w3.heap[g2]?=some (.cells #[.slice aX 1 cX,.int .u64 1,.int .i64 0] 25 (0,0)):=hst
 have hrd:H.rd g2 0 3=some [.v (.slice aX 1 cX),.i .u64 1,.i .i64 0]:=zY9 (vs:=[.slice aX 1 cX,.int .u64 1,.int .i64 0]) (fun w' hu j v hv=>by
  have hu:=hU3 w' hu
  rw [Go.cell_of_row w' _ _ _ _ (0,0) ((hu.block _ (Array.getElem?_eq_some_iff.1 hst).1 (fun h=>h)).trans hst)]
  match j with
  | 0=>exact hv
  | 1=>exact hv
  | 2=>exact hv
  | _+3=>simp at hv) rfl
 (refine zB0 hctr (rs:=res14) true 300 _ _ _ ?_; simp (maxSteps:=1000000) only [VT,jf,jZ,qE,qF,qG,qH,qI,qJ,qK,qO,qP,qR,qS,qp,q0t,qu,qv,ev,qw,qy,qz,zA,zB,zC,zD,zE,zF,zG,zI,zJ,TE.sv,zM,↓reduceIte,reduceCtorEq,Value.oneCell',Nat.reduceEqDiff,Nat.reduceAdd,Nat.reduceLT,zP,zQ,zR,zT,zV,zt,hP,hk,res14,kp14,auC,Nat.reduceAdd,slAs,rowCk,rowSr,v1,v2,v3,k1,k2,k3,k4,hrd,beq_self_eq_true])
 refine zK7 hCxH hres14 fun ρ' w' hw' _ _=>⟨rfl,?_⟩
 exact (hI3.up.trans (hU3 w' hw'.up) (fun _ _ h=>h)).to_below
end Go.Proofs.YtfpeholdlkfmoaaGreatDoor
/- AuditOne, walked. Printed by gen_auone.py. -/
namespace Go.Proofs.YtfpeholdlkfmoaaGreatDoor
set_option linter.unusedSimpArgs false
set_option linter.unusedVariables false
set_option maxHeartbeats 8000000
open Go.RowKit
set_option maxRecDepth 100000
def ashC:Ctr:=fun f _ xs=>match f with
 | 14=>(match xs with
  | []=>some (True,.c (.b true))
  | _=>none)
 | _=>none
theorem ashC_ok {C:Cx} (hP:C.P=Tryz.prog) (hE:EnvC C):zE4 C ashC:=by
 intro f en xs p v h hp ρ w hup hHp hHo hinj hwf
 unfold ashC at h
 split at h
 ·rw [hP]
  refine ⟨fun args w=>Tryz.call14 args w,?_⟩
  split at h <;> simp only [Option.some.injEq,Prod.mk.injEq,reduceCtorEq] at h
  obtain ⟨rfl,rfl⟩:=h
  exact ⟨trivial,ashown_w (hE w hup)⟩
 ·cases h
theorem CmdsAt.up {w w':World} {A:Option Addr} {n:Nat} {cs:Nat→Cd} (h:CmdsAt w A n cs) (hu:Upd Non w w'):CmdsAt w' A n cs:=fun k hk=>by
 obtain ⟨b,o,e,hb,hc,hd⟩:=h k hk
 exact ⟨b,o,e,Nat.lt_of_lt_of_le hb hu.size,fun j v hv=>by rw [hu.cell (p:=⟨b,o+k * 16+j,none⟩) hb (fun h=>h)]; exact hc j v hv,hd⟩
theorem StepsAt.up {w w':World} {a:Option Addr} {n:Nat} (h:StepsAt w a n) (hu:Upd Non w w'):StepsAt w' a n:=fun k hk=>by
 obtain ⟨g,o,z,e,hg,hc⟩:=h k hk
 exact ⟨g,o,z,e,Nat.lt_of_lt_of_le hg hu.size,by rw [hu.cell (p:=⟨g,o+k,none⟩) hg (fun h=>h)]; exact hc⟩
structure TolI (w0:World) (most:Int) (t:ToI most) (a:Option Addr) (w:World):Prop where
 i:t.i≤40
 up:Upd Non w0 w
 raw:RawEv w a t.L
theorem TolI.run {w0 w:World} {most:Int} {t:ToI most} {a:Option Addr} (_:TolI w0 most t a w):(zH7 (au0 most) (t.L.map (·.e)) 0).2=-1:=by
 obtain ⟨now',tn,hr,_⟩:=t.h.run
 rw [hr]
end Go.Proofs.YtfpeholdlkfmoaaGreatDoor
/- What is spoilt is found: the plain law. No program in sight. -/
namespace Go.Proofs.YtfpeholdlkfmoaaGreatDoor
set_option linter.unusedSimpArgs false
set_option linter.unusedVariables false
open Go.RowKit
set_option maxRecDepth 100000
theorem rDo_key {P:List UInt8→Prop} {X:St} {now:Int} {c:Cd} {most:Int} {x:It} {is:Bool} (hc:c.op ≠ 6→P c.key) (hX:∀ y∈X.items,P y.key) (hx:is=true→P x.key) {y:It} (hy:y∈(rDo X now c most x is).1.items):P y.key:=by
 have fit:∀ {st num:Int} {z:It},P z.key→y∈(rFit X most st num z).1.items→P y.key:=fun {st num z} hz hy=>by
  unfold rFit at hy
  split at hy
  ·exact hX y hy
  ·rcases zI9 hy with rfl | h
   ·exact hz
   ·exact hX y h
 unfold rDo at hy
 split at hy
 ·rename_i ho
  unfold rGet at hy
  split at hy
  ·exact hX y hy
  split at hy
  ·rcases zI9 hy with rfl | h
   ·exact hc (by omega)
   ·exact hX y h
  ·rename_i hns
   have his:is=true:=by cases is with | true=>rfl | false=>exact absurd rfl hns
   rcases zI9 hy with rfl | h
   ·exact hx his
   ·exact hX y h
 split at hy
 ·rename_i ho
  unfold zT9 at hy
  split at hy
  ·exact hX y hy
  rename_i hq
  split at hy
  ·exact hX y hy
  split at hy
  ·exact hX y hy
  refine fit ?_ hy
  unfold rNew
  have hi:c.mode=3∨c.mode=4→is=true:=fun h=>by
   cases is with
   | true=>rfl
   | false=>exact absurd (by rcases h with h | h <;> simp [h]) hq
  split
  ·rename_i h3
   exact hx (hi (.inl h3))
  split
  ·rename_i h4
   exact hx (hi (.inr h4))
  ·exact hc (by omega)
 split at hy
 ·rename_i ho
  unfold rMath at hy
  split at hy
  ·exact hX y hy
  split at hy
  ·exact fit (by exact hc (by omega)) hy
  rename_i hns
  have his:is=true:=by cases is with | true=>rfl | false=>exact absurd rfl hns
  split at hy
  ·exact hX y hy
  split at hy
  ·exact hX y hy
  ·rename_i v hv
   exact fit (z:={ x with val:=v,exp:=if c.hasExp then zY7 now c.exp else x.exp }) (hx his) hy
 split at hy
 ·split at hy
  ·exact hX y hy
  ·cases hy
 split at hy
 ·exact hX y hy
 rename_i hns
 have his:is=true:=by cases is with | true=>rfl | false=>exact absurd rfl hns
 split at hy
 ·unfold zP7 at hy
  split at hy
  ·exact hX y hy
  split at hy
  ·unfold rDrop at hy
   split at hy
   ·simp only [List.mem_append] at hy
    rcases hy with h | h
    ·exact hX y (List.mem_of_mem_take h)
    ·exact hX y (List.mem_of_mem_drop h)
   ·exact hX y hy
  ·rcases zI9 hy with rfl | h
   ·exact hx his
   ·exact hX y h
 split at hy
 ·exact hX y hy
 ·rcases zI9 hy with rfl | h
  ·exact hx his
  ·exact hX y h
def KeyV (X:St):Prop:=∀ y∈X.items,keyB y.key=true
theorem KeyV.live {X:St} (h:KeyV X) (now:Int):KeyV (zB1 X now):=fun y hy=>h y (zU8 hy)
theorem app_key {X:St} {now:Int} {c:Cd} {most:Int} (hs:Sorted X.items) (h:KeyV X):KeyV (zA9 X now c most).1:=by
 rw [← ref_eq hs]
 intro y hy
 unfold refF at hy
 split at hy
 ·rename_i hm
  refine rDo_key (P:=fun k=>keyB k=true) (fun ho=>(zR2 hm.1).1.resolve_left ho) (h.live now) (fun his=>?_) hy
  have hlt:=zG7 his
  rw [if_pos his]
  refine h.live now _ ?_
  have:itF (zB1 X now).items (atF (zB1 X now).items c.key)=(zB1 X now).items[atF (zB1 X now).items c.key]:=by unfold itF; rw [List.getD_eq_getElem?_getD,List.getElem?_eq_getElem hlt]; rfl
  rw [this]
  exact List.getElem_mem hlt
 ·cases hy
theorem isF_mem {l:List It} {k:List UInt8} (h:isF l k=true):∃ x∈l,x.key=k:=by
 unfold isF at h
 split at h
 ·rename_i x hx
  exact ⟨x,List.mem_of_getElem? hx,by simpa using h⟩
 ·cases h
structure WellF (k:Nat) (W:Au):Prop where
 nice:NiceV k W.X
 key:KeyV W.X
 now:1≤W.now
theorem goes_well {k:Nat} {W W':Au} {e:Ev} (h:WellF k W) (hc:CdOk e.cmd) (hg:zD7 W e=some W'):WellF (k+1) W'∧W'.now=e.now∧W.now≤e.now:=by
 have hn:=goes_nice h.nice hc hg
 unfold zD7 at hg
 split at hg
 ·cases hg
 rename_i h1
 split at hg
 ·cases hg
 split at hg
 ·cases hg
 rename_i s hs
 have hsub:=zO6 hs
 have hk:KeyV s:=fun y hy=>h.key.live e.now y (hsub.1 y hy)
 have hso:=zX8 (h.nice.live e.now) hs
 have h0:=h.now
 have key:W'.now=e.now∧KeyV W'.X:=by
  split at hg
  ·split at hg
   ·cases hg; exact ⟨rfl,hk⟩
   ·cases hg
  split at hg
  ·split at hg
   ·cases hg
   split at hg
   ·cases hg
   split at hg
   ·split at hg
    ·cases hg; exact ⟨rfl,hk⟩
    ·cases hg
   split at hg
   ·cases hg; exact ⟨rfl,app_key hso.sorted hk⟩
   ·cases hg
  ·cases hg
 exact ⟨⟨hn,key.2,by rw [key.1]; omega⟩,key.1,by omega⟩
theorem well0 (most:Int):WellF 0 (au0 most):=⟨⟨Sorted.nil,Nat.le_refl _,(fun x hx=>nomatch hx)⟩,(fun y hy=>nomatch hy),Int.le_refl 1⟩
theorem run_well {most:Int}:∀ {qw:List Ev} {k i:Nat} {W W':Au},WellF k W→(∀ e∈qw,CdOk e.cmd)→zH7 W qw i=(W',-1)→WellF (k+qw.length) W':=by
 intro qw
 induction qw with
 | nil =>
  intro k i W W' h _ hr
  simp only [zH7,Prod.mk.injEq,and_true] at hr
  subst hr
  exact h
 | cons x r ih =>
  intro k i W W' h hc hr
  simp only [zH7] at hr
  cases hx:zD7 W x with
  | none=>rw [hx] at hr; simp only [Prod.mk.injEq] at hr; omega
  | some W2 =>
   rw [hx] at hr
   have:=ih (goes_well h (hc x (List.mem_cons_self ..)) hx).1 (fun e he=>hc e (List.mem_cons_of_mem _ he)) hr
   rw [List.length_cons]
   exact (show k+(r.length+1)=k+1+r.length by omega) ▸ this
theorem run_at {W W':Au} {x:Ev} {b:List Ev}:∀ {a:List Ev} {i:Nat},zH7 W a i=(W',-1)→zD7 W' x=none→(zH7 W (a++x :: b) i).2=((i+a.length:Nat):Int):=by
 intro a
 induction a generalizing W with
 | nil =>
  intro i h hx
  simp only [zH7,Prod.mk.injEq,and_true] at h
  subst h
  simp only [List.nil_append,zH7,hx,List.length_nil,Nat.add_zero]
 | cons y r ih =>
  intro i h hx
  simp only [List.cons_append,zH7] at h ⊢
  cases hy:zD7 W y with
  | none=>rw [hy] at h; simp only [Prod.mk.injEq] at h; omega
  | some W2 =>
   rw [hy] at h
   simp only at h ⊢
   rw [ih h hx,List.length_cons]
   congr 1; omega
theorem run_split {most:Int} {qw:List Ev} {W:Au} (hr:zH7 (au0 most) qw 0=(W,-1)) (hc:∀ e∈qw,CdOk e.cmd) {j:Nat} {e:Ev} (hj:qw[j]?=some e) :
  ∃ W1 W2,zH7 (au0 most) (qw.take j) 0=(W1,-1)∧zD7 W1 e=some W2∧WellF j W1:=by
 have hjl:=(List.getElem?_eq_some_iff.1 hj).1
 have hs:qw=qw.take j++(e :: qw.drop (j+1)):=by
  conv=>lhs; rw [← List.take_append_drop j qw]
  congr 1
  rw [List.drop_eq_getElem_cons hjl]
  congr 1
  exact (List.getElem?_eq_some_iff.1 hj).2
 have hr2:=hr
 rw [hs] at hr2
 obtain ⟨W1,h1⟩:=run_pre hr2
 have hw:=run_well (most:=most) (well0 most) (fun x hx=>hc x (List.mem_of_mem_take hx)) h1
 rw [Nat.zero_add,List.length_take,Nat.min_eq_left (by omega)] at hw
 cases hg:zD7 W1 e with
 | some W2=>exact ⟨W1,W2,h1,hg,hw⟩
 | none =>
  have:=run_at (b:=qw.drop (j+1)) h1 hg
  rw [hr2] at this
  simp only at this
  omega
theorem goes_hi {W W':Au} {e:Ev} (hg:zD7 W e=some W'):e.now≤1099511627776:=by
 unfold zD7 at hg
 split at hg
 ·cases hg
 split at hg
 ·cases hg
 ·omega
theorem run_now {most:Int} {qw:List Ev} {W:Au} (hr:zH7 (au0 most) qw 0=(W,-1)) (hc:∀ e∈qw,CdOk e.cmd) {j:Nat} {e:Ev} (hj:qw[j]?=some e) :
  ∃ W1,zH7 (au0 most) (qw.take (j+1)) 0=(W1,-1)∧W1.now=e.now∧1≤e.now∧e.now≤1099511627776:=by
 obtain ⟨W0,W2,h1,h2,h3⟩:=run_split hr hc hj
 have hw:=goes_well h3 (hc e (List.mem_of_getElem? hj)) h2
 have:=h3.now
 refine ⟨W2,?_,hw.2.1,by omega,goes_hi h2⟩
 rw [List.take_add_one,hj]
 show zH7 (au0 most) (qw.take j++[e]) 0=(W2,-1)
 rw [zM5 h1,h2]
end Go.Proofs.YtfpeholdlkfmoaaGreatDoor
/- AuditSpoils, walked. Printed by gen_auspo.py. -/
namespace Go.Proofs.YtfpeholdlkfmoaaGreatDoor
set_option linter.unusedSimpArgs false
set_option linter.unusedVariables false
set_option maxHeartbeats 8000000
open Go.RowKit
set_option maxRecDepth 100000
structure SpI (w0:World) (most:Int) (r:RE) (t:ToI most) (w:World):Prop where
 i:t.i≤40
 up:Upd Non w0 w
 row:RowOk w0.heap.size w r 48 35 t.L.length (zC1 (fun _=>⟨0,[],[],0,none⟩) (zB6 evC t.L))
 los:∀ x∈t.L,LosK w x∧x.ln≤1∧∀ a',x.la=some a'→a'.block ≠ r.blk
theorem LosK.upd {S:Nat→Prop} {w w':World} {x:EvR} (h:LosK w x) (hu:Upd S w w') (hS:∀ a',x.la=some a'→¬ S a'.block):LosK w' x:=by
 obtain ⟨h1,h2,h3,h4⟩:=h
 refine ⟨fun k s hk=>?_,h2,h3,fun a' ha=>Nat.lt_of_lt_of_le (h4 a' ha) hu.size⟩
 obtain ⟨g,o,e,hg,hc⟩:=h1 k s hk
 exact ⟨g,o,e,Nat.lt_of_lt_of_le hg hu.size,by rw [hu.cell (p:=⟨g,o+k,none⟩) hg (show ¬ S g from hS ⟨g,o,none⟩ e)]; exact hc⟩
section
variable {C:Cx} {nt:Nat} {sl:List (Nat × SV)} {en:List EN} {k:List KI}
theorem append0_opT {dst:Option Nat} {x y:Operand} {t e:TypeId} {i:TypeInfo} {X:SC} {B:Option Addr} {cp:Nat} {ty:TypeId} {pos:String} {af:Array Edge} {all r:List Oper} (ht:C.P.underlying t=some (.slice e)) (hi:C.P.info? e=some i) (hx:ev sl x=some (.c X)) (hy:ev sl y=some (.c (.v (.slice B 0 cp)))) (hX:∀ ρ:Nat→RE,∃ A n c,X.den ρ=.slice A n c∧n≤c) (hwf:X.wf (· < en.length)) (hd:∀ d,dst=some d→d < nt)
  (hK:Run C (.ops all r :: k) nt (jN dst (.c X) sl) en):Run C (.ops all (⟨dst,.call ⟨.builtin .append,#[x,y],#[t,t]⟩,ty,pos,af,none⟩ :: r) :: k) nt sl en:=by
 refine Run_soft1 (.c X) (fun ρ a w hr=>⟨?_,hwf⟩) hd hK
 obtain ⟨x1,_⟩:=hr.ev_ok _ _ hx
 obtain ⟨y1,_⟩:=hr.ev_ok _ _ hy
 obtain ⟨A,n,c,hA,hnc⟩:=hX ρ
 have x1':a.eval x=.slice A n c:=x1.trans hA
 have y1':a.eval y=.slice B 0 cp:=y1
 have h:=run_append0 (P:=C.P) w (ty:=ty) ht hi A B n c cp hnc
 rw [show (SV.c X).den ρ=.slice A n c from hA]
 simp [execOp,resolve,invoke,builtin,x1',y1',h]
end
structure SqI (w0:World) (most:Int) (j n:Nat) (m:Nat) (a:Option Addr) (w:World):Prop where
 up:Upd Non w0 w
 xs:∃ L':List EvR,RawEv w a L'∧L'.length=n∧n≤80∧(∀ x∈L',CdOk x.e.cmd)∧(zH7 (au0 most) (L'.map (·.e)) 0).2=(j:Int)∧(zH7 (au0 most) ((L'.map (·.e)).take j) 0).2=-1
 jn:j < n
 nm:n≤m
theorem SqI.upd {w0 w w':World} {most:Int} {j n m:Nat} {a:Option Addr} (h:SqI w0 most j n m a w) (hu:Upd Non w w'):SqI w0 most j n m a w':=by
 obtain ⟨h1,⟨L',h2,h3⟩,h4,h5⟩:=h
 exact ⟨h1.trans hu (fun _ _ h=>h),⟨L',h2.upd hu,h3⟩,h4,h5⟩
def spV (n:Nat) (j:Nat):Option Addr→Nat→Int:=fun _ k=>if k=n then (j:Int) else -1
theorem SqI.one {w0 w:World} {most:Int} {j n m:Nat} {a:Option Addr} (h:SqI w0 most j n m a w) (hE:Env w0):CkP w (spV n j) a n most:=by
 obtain ⟨h1,⟨L',h2,h3,h3',h4,h5,h6⟩,h7,h8⟩:=h
 exact ⟨L',Evs.of h2 h3.symm (by omega) h4 (hE.below h1.to_below),by rw [h5]; simp [spV]⟩
theorem SqI.two {w0 w:World} {most:Int} {j n m:Nat} {a:Option Addr} (h:SqI w0 most j n m a w) (hE:Env w0):CkP w (spV n j) a j most:=by
 obtain ⟨h1,⟨L',h2,h3,h3',h4,h5,h6⟩,h7,h8⟩:=h
 exact ⟨L'.take j,Evs.of (h2.take j) (by rw [List.length_take]; omega) (by rw [List.length_take]; omega) (fun x hx=>h4 x (List.mem_of_mem_take hx)) (hE.below h1.to_below),by rw [← List.map_take] at h6; rw [h6]; simp [spV]; omega⟩
end Go.Proofs.YtfpeholdlkfmoaaGreatDoor
/- ModelApart: commands of other keys are told the same but for tokens, whatever is done to one key. No program in sight. -/
namespace Go.Proofs.YtfpeholdlkfmoaaGreatDoor
set_option linter.unusedSimpArgs false
set_option linter.unusedVariables false
open Go.Lib Go.Op
theorem sorted_inj {l:List It}:∀ {y z:It},Sorted l→y∈l→z∈l→y.key=z.key→y=z:=by
 induction l with
 | nil=>intro y z _ hy; cases hy
 | cons a l ih =>
  intro y z h hy hz e
  rcases List.mem_cons.1 hy with hy | hy
  ·rcases List.mem_cons.1 hz with hz | hz
   ·rw [hy,hz]
   ·have:=h.head z hz; rw [← hy,e,zE3] at this; cases this
  ·rcases List.mem_cons.1 hz with hz | hz
   ·have:=h.head y hy; rw [← hz,e,zE3] at this; cases this
   ·exact ih h.tail hy hz e
theorem zX6 {l:List It} {k:List UInt8} {y:It} (h:Sorted l):fE l k=some y ↔ y∈l∧y.key=k:=by
 constructor
 ·intro hy; exact ⟨fE_mem hy,fE_key hy⟩
 ·rintro ⟨h1,h2⟩
  cases hz:fE l k with
  | none =>
   unfold fE at hz
   rw [List.find?_eq_none] at hz
   exact absurd (by simpa using h2) (hz y h1)
  | some z=>rw [sorted_inj h (fE_mem hz) h1 (by rw [fE_key hz,h2])]
theorem fE_filter {l:List It} {k:List UInt8} (h:Sorted l) (p:It→Bool):fE (l.filter p) k=(fE l k).filter p:=by
 refine Option.ext fun y=>?_
 rw [zX6 (h.filter p),List.mem_filter,Option.filter_eq_some_iff,zX6 h]
 constructor
 ·rintro ⟨⟨h1,h2⟩,h3⟩; exact ⟨⟨h1,h3⟩,h2⟩
 ·rintro ⟨⟨h1,h3⟩,h2⟩; exact ⟨⟨h1,h2⟩,h3⟩
theorem mem_putL_iff {l:List It} {x y:It}:y∈putL l x ↔ y=x∨(y∈l∧y.key ≠ x.key):=by
 unfold putL
 rw [List.mem_append,List.mem_cons,List.mem_filter,List.mem_filter]
 constructor
 ·rintro (⟨h1,h2⟩ | h | ⟨h1,h2⟩)
  ·exact .inr ⟨h1,fun e=>by rw [e,zE3] at h2; cases h2⟩
  ·exact .inl h
  ·exact .inr ⟨h1,fun e=>by rw [e,zE3] at h2; cases h2⟩
 ·rintro (h | ⟨h1,h2⟩)
  ·exact .inr (.inl h)
  ·by_cases h3:bytesLess y.key x.key=true
   ·exact .inl ⟨h1,h3⟩
   ·by_cases h4:bytesLess x.key y.key=true
    ·exact .inr (.inr ⟨h1,h4⟩)
    ·exact absurd (zL8 _ _ (by simpa using h3) (by simpa using h4)) h2
theorem zX5 {l:List It} {x:It} {k:List UInt8} (h:Sorted l):fE (putL l x) k=if x.key=k then some x else fE l k:=by
 refine Option.ext fun y=>?_
 rw [zX6 (h.putL x),mem_putL_iff]
 by_cases e:x.key=k
 ·rw [if_pos e]
  constructor
  ·rintro ⟨rfl | ⟨_,h2⟩,h3⟩
   ·rfl
   ·exact absurd (h3.trans e.symm) h2
  ·intro hy; cases hy; exact ⟨.inl rfl,e⟩
 ·rw [if_neg e,zX6 h]
  constructor
  ·rintro ⟨rfl | ⟨h1,h2⟩,h3⟩
   ·exact absurd h3 e
   ·exact ⟨h1,h3⟩
  ·rintro ⟨h1,h2⟩; exact ⟨.inr ⟨h1,fun e'=>e (e'.symm.trans h2)⟩,h2⟩
theorem fE_rmL {l:List It} {k k':List UInt8} (h:Sorted l):fE (rmL l k') k=if k'=k then none else fE l k:=by
 refine Option.ext fun y=>?_
 rw [zX6 (h.rmL k'),rmL_eq h,List.mem_filter]
 by_cases e:k'=k
 ·rw [if_pos e]
  constructor
  ·rintro ⟨⟨_,h2⟩,h3⟩; rw [h3,e] at h2; simp at h2
  ·intro hy; cases hy
 ·rw [if_neg e,zX6 h]
  constructor
  ·rintro ⟨⟨h1,_⟩,h3⟩; exact ⟨h1,h3⟩
  ·rintro ⟨h1,h3⟩; refine ⟨⟨h1,?_⟩,h3⟩
   rw [h3]; simp; exact fun e'=>e e'.symm
def zI0 (x:It):It:={ x with cas:=0 }
theorem un_key {x y:It} (h:zI0 x=zI0 y):x.key=y.key:=by
 have e:(zI0 x).key=(zI0 y).key:=by rw [h]
 exact e
theorem un_val {x y:It} (h:zI0 x=zI0 y):x.val=y.val:=by
 have e:(zI0 x).val=(zI0 y).val:=by rw [h]
 exact e
theorem un_exp {x y:It} (h:zI0 x=zI0 y):x.exp=y.exp:=by
 have e:(zI0 x).exp=(zI0 y).exp:=by rw [h]
 exact e
def zP2 (a b:Option It):Prop:=a.map zI0=b.map zI0
def bare (a:An):An:={ a with it:=zI0 a.it }
inductive Rs (X Y:St) (k:List UInt8):St × An→St × An→Prop
 | same {a b:An}:bare a=bare b→Rs X Y k (X,a) (Y,b)
 | put {a b:An} {x y:It} {m n:Int}:x.key=k→zI0 x=zI0 y→bare a=bare b→Rs X Y k ({ X with cas:=m,items:=putL X.items x },a) ({ Y with cas:=n,items:=putL Y.items y },b)
 | rm {a b:An}:bare a=bare b→Rs X Y k ({ X with items:=rmL X.items k },a) ({ Y with items:=rmL Y.items k },b)
 | set {a b:An} {x y:It}:x.key=k→zI0 x=zI0 y→bare a=bare b→Rs X Y k ({ X with items:=putL X.items x },a) ({ Y with items:=putL Y.items y },b)
theorem Rs.tok {X Y:St} {k:List UInt8} {x y:It} {st num:Int} {w:Bool} (h1:x.key=k) (h2:zI0 x=zI0 y):Rs X Y k (zZ0 X x,⟨st,tok X x,num,w,false,false⟩) (zZ0 Y y,⟨st,tok Y y,num,w,false,false⟩):=by
 refine Rs.put h1 ?_ ?_
 ·exact h2
 ·have:zI0 (Proofs.YtfpeholdlkfmoaaGreatDoor.tok X x)=zI0 (Proofs.YtfpeholdlkfmoaaGreatDoor.tok Y y):=h2
  simp only [bare,this]
theorem Rs.fit {X Y:St} {k:List UInt8} {x y:It} {most st num:Int} (h1:x.key=k) (h2:zI0 x=zI0 y):Rs X Y k (fitK X most st num x) (fitK Y most st num y):=by
 have e1:zD9 most x=zD9 most y:=by
  have q1:=un_key h2
  have q2:=un_val h2
  unfold zD9; rw [q1,q2]
 unfold fitK
 rw [e1]
 split
 ·exact Rs.tok h1 h2
 ·exact Rs.same rfl
theorem two {X Y:St} {now:Int} {c:Cd} {most:Int} {o o':Option It} (hc:c.hasCas=false) (h6:zT0 c=true) (h6':c.op ≠ 6) (ho:zP2 o o') (hk:∀ x,o=some x→x.key=c.key):Rs X Y c.key (doK X now c most o) (doK Y now c most o'):=by
 have hob:∀ x,zB3 c x=false:=fun x=>by simp [zB3,hc]
 obtain ⟨_,_,_,_,_,p6,p7⟩:=zR2 h6
 cases o with
 | none =>
  have e:o'=none:=by
   cases o' with
   | none=>rfl
   | some y=>cases ho
  subst e
  unfold doK getK stoK mathK touchK lookK zV8
  by_cases h1:c.op=1
  ·rw [if_pos h1,if_pos h1]
   by_cases hv:c.viv=true
   ·rw [if_pos hv,if_pos hv]; exact Rs.tok rfl rfl
   ·rw [if_neg hv,if_neg hv]; exact Rs.same rfl
  rw [if_neg h1,if_neg h1]
  by_cases h2:c.op=2
  ·rw [if_pos h2,if_pos h2]
   by_cases hm:1 < c.mode
   ·rw [if_pos hm,if_pos hm]; exact Rs.same rfl
   ·rw [if_neg hm,if_neg hm,hc]
    exact Rs.fit (zU7 fun h=>by omega) rfl
  rw [if_neg h2,if_neg h2]
  by_cases h3:c.op=3
  ·rw [if_pos h3,if_pos h3]
   by_cases hv:c.viv=true
   ·rw [if_pos hv,if_pos hv]; exact Rs.fit rfl rfl
   ·rw [if_neg hv,if_neg hv]; exact Rs.same rfl
  rw [if_neg h3,if_neg h3]
  by_cases h4:c.op=4
  ·rw [if_pos h4,if_pos h4]; exact Rs.same rfl
  rw [if_neg h4,if_neg h4]
  by_cases h7:c.op=7
  ·rw [if_pos h7,if_pos h7]; exact Rs.same rfl
  have h5:c.op=5:=by omega
  rw [if_neg h7,if_neg h7,if_pos h5,if_pos h5]
  exact Rs.same rfl
 | some x =>
  cases o' with
  | none=>cases ho
  | some y =>
   have hu:zI0 x=zI0 y:=Option.some.inj ho
   have hkx:=hk x rfl
   obtain ⟨k,f,v,e,c1,l,s,w⟩:=x
   obtain ⟨k',f',v',e',c2,l',s',w'⟩:=y
   simp only [zI0,It.mk.injEq] at hu
   obtain ⟨rfl,rfl,rfl,rfl,_,rfl,rfl,rfl⟩:=hu
   simp only at hkx
   unfold doK getK stoK mathK touchK lookK zV8
   simp only [hob,Bool.false_and,Bool.false_eq_true,if_false]
   by_cases h1:c.op=1
   ·rw [if_pos h1,if_pos h1]; exact Rs.set hkx rfl rfl
   rw [if_neg h1,if_neg h1]
   by_cases h2:c.op=2
   ·rw [if_pos h2,if_pos h2]
    by_cases hm:c.mode=1
    ·rw [if_pos hm,if_pos hm]; exact Rs.same rfl
    ·rw [if_neg hm,if_neg hm]
     refine Rs.fit (zU7 fun _=>hkx) ?_
     unfold zK1
     split
     ·rfl
     ·split <;> rfl
   rw [if_neg h2,if_neg h2]
   by_cases h3:c.op=3
   ·rw [if_pos h3,if_pos h3]
    cases (if c.down=true then subV v c.delta else addV v c.delta) with
    | none=>exact Rs.same rfl
    | some z=>exact Rs.fit hkx rfl
   rw [if_neg h3,if_neg h3]
   by_cases h4:c.op=4
   ·rw [if_pos h4,if_pos h4]; exact Rs.set hkx rfl rfl
   rw [if_neg h4,if_neg h4]
   by_cases h7:c.op=7
   ·rw [if_pos h7,if_pos h7]; exact Rs.same rfl
   have h5:c.op=5:=by omega
   rw [if_neg h7,if_neg h7,if_pos h5,if_pos h5]
   by_cases hi:c.inval=true
   ·rw [if_pos hi,if_pos hi]; exact Rs.tok hkx rfl
   ·rw [if_neg hi,if_neg hi]; exact Rs.rm rfl
def lv (n:Int) (o:Option It):Option It:=o.filter fun x=>!zE2 n x
theorem gone_mono {n m:Int} {x:It} (h:n≤m) (hg:zE2 n x=true):zE2 m x=true:=by
 simp only [zE2,Bool.and_eq_true,Bool.not_eq_true',decide_eq_false_iff_not,decide_eq_true_eq] at hg ⊢
 exact ⟨hg.1,by omega⟩
theorem lv_lv {n m:Int} (h:n≤m) (o:Option It):lv m (lv n o)=lv m o:=by
 cases o with
 | none=>rfl
 | some x =>
  unfold lv
  cases hg:zE2 n x with
  | false=>simp [Option.filter,hg]
  | true=>simp [Option.filter,hg,gone_mono h hg]
theorem sameO_lv {n:Int} {a b:Option It} (h:zP2 a b):zP2 (lv n a) (lv n b):=by
 cases a with
 | none=>cases b with
  | none=>rfl
  | some y=>cases h
 | some x=>cases b with
  | none=>cases h
  | some y =>
   have hu:zI0 x=zI0 y:=Option.some.inj h
   have e:=un_exp hu
   have g:zE2 n x=zE2 n y:=by unfold zE2; rw [e]
   unfold lv
   cases hg:zE2 n y with
   | true=>rw [hg] at g; simp [Option.filter,hg,g,zP2]
   | false=>rw [hg] at g; simp [Option.filter,hg,g,zP2,hu]
def Ap (n:Int) (k0:List UInt8) (X Y:St):Prop:=X.flush=0∧Y.flush=0∧∀ k,k ≠ k0→zP2 (lv n (fE X.items k)) (lv n (fE Y.items k))
theorem Ap.mono {n m:Int} {k0:List UInt8} {X Y:St} (h:Ap n k0 X Y) (hm:n≤m):Ap m k0 X Y:=
 ⟨h.1,h.2.1,fun k hk=>by rw [← lv_lv hm,← lv_lv hm (fE Y.items k)]; exact sameO_lv (h.2.2 k hk)⟩
theorem live_fE {X:St} {n:Int} {k:List UInt8} (h:Sorted X.items) (hf:X.flush=0):fE (zB1 X n).items k=lv n (fE X.items k):=by
 unfold zB1
 rw [if_neg (by omega)]
 exact fE_filter h _
theorem zT1 {X:St} {n:Int} (hf:X.flush=0):(zB1 X n).flush=0:=by
 unfold zB1
 rw [if_neg (by omega)]; exact hf
theorem Ap.live {n:Int} {k0:List UInt8} {X Y:St} (h:Ap n k0 X Y) (hX:Sorted X.items) (hY:Sorted Y.items):∀ k,k ≠ k0→zP2 (fE (zB1 X n).items k) (fE (zB1 Y n).items k):=fun k hk=>by
 rw [live_fE hX h.1,live_fE hY h.2.1]; exact h.2.2 k hk
theorem Ap.of {n:Int} {k0:List UInt8} {X Y:St} (h1:X.flush=0) (h2:Y.flush=0) (h:∀ k,k ≠ k0→zP2 (fE X.items k) (fE Y.items k)):Ap n k0 X Y:=⟨h1,h2,fun k hk=>sameO_lv (h k hk)⟩
theorem Rs.ap {n:Int} {k k0:List UInt8} {X Y:St} {R S:St × An} (h:Rs X Y k R S) (hX:Sorted X.items) (hY:Sorted Y.items) (h1:X.flush=0) (h2:Y.flush=0) (hs:∀ k,k ≠ k0→zP2 (fE X.items k) (fE Y.items k)):Ap n k0 R.1 S.1∧bare R.2=bare S.2:=by
 cases h with
 | same h=>exact ⟨Ap.of h1 h2 hs,h⟩
 | put hk hu hb =>
  refine ⟨Ap.of h1 h2 fun k' hk'=>?_,hb⟩
  have e:=un_key hu
  show zP2 (fE (putL X.items _) k') (fE (putL Y.items _) k')
  rw [zX5 hX,zX5 hY,e]
  split
  ·exact congrArg some hu
  ·exact hs k' hk'
 | set hk hu hb =>
  refine ⟨Ap.of h1 h2 fun k' hk'=>?_,hb⟩
  have e:=un_key hu
  show zP2 (fE (putL X.items _) k') (fE (putL Y.items _) k')
  rw [zX5 hX,zX5 hY,e]
  split
  ·exact congrArg some hu
  ·exact hs k' hk'
 | rm hb =>
  refine ⟨Ap.of h1 h2 fun k' hk'=>?_,hb⟩
  show zP2 (fE (rmL X.items _) k') (fE (rmL Y.items _) k')
  rw [fE_rmL hX,fE_rmL hY]
  split
  ·rfl
  ·exact hs k' hk'
theorem Rs.left {X Y:St} {k:List UInt8} {R S:St × An} (h:Rs X Y k R S):R.1=X∨(∃ x m,x.key=k∧R.1={ X with cas:=m,items:=putL X.items x })∨R.1={ X with items:=rmL X.items k }:=by
 cases h with
 | same _=>exact .inl rfl
 | put hk _ _=>exact .inr (.inl ⟨_,_,hk,rfl⟩)
 | rm _=>exact .inr (.inr rfl)
 | set hk _ _=>exact .inr (.inl ⟨_,X.cas,hk,rfl⟩)
theorem Ap.both {n m:Int} {k0:List UInt8} {X Y:St} {c:Cd} {most:Int} (h:Ap n k0 X Y) (hm:n≤m) (hX:Sorted X.items) (hY:Sorted Y.items) (hv:zT0 c=true∧1≤m∧m≤1099511627776) (hc:c.hasCas=false) (h6:c.op ≠ 6) (hk:c.key ≠ k0) :
  Ap m k0 (zA9 X m c most).1 (zA9 Y m c most).1∧bare (zA9 X m c most).2=bare (zA9 Y m c most).2:=by
 rw [app_eq hX hv,app_eq hY hv]
 have hl:=(h.mono hm).live hX hY
 exact (two hc hv.1 h6 (hl c.key hk) fun x hx=>fE_key hx).ap (zD6 m hX) (zD6 m hY) (zT1 h.1) (zT1 h.2.1) hl
theorem Ap.own {n m:Int} {X Y:St} {c:Cd} {most:Int} (h:Ap n c.key X Y) (hm:n≤m) (hX:Sorted X.items) (hv:zT0 c=true∧1≤m∧m≤1099511627776) (hc:c.hasCas=false) (h6:c.op ≠ 6):Ap m c.key (zA9 X m c most).1 Y:=by
 rw [app_eq hX hv]
 have hs:=zD6 m hX
 have hf:=zT1 (n:=m) h.1
 have hl:∀ k,k ≠ c.key→zP2 (lv m (fE (zB1 X m).items k)) (lv m (fE Y.items k)):=fun k hk=>by
  rw [live_fE hX h.1,lv_lv (Int.le_refl m)]; exact (h.mono hm).2.2 k hk
 have h2:=two (X:=zB1 X m) (Y:=zB1 X m) (now:=m) (most:=most) hc hv.1 h6 (show zP2 (fE (zB1 X m).items c.key) (fE (zB1 X m).items c.key) from rfl) fun x hx=>fE_key hx
 have h3:=h2.left
 generalize doK (zB1 X m) m c most (fE (zB1 X m).items c.key)=R at h3 ⊢
 rcases h3 with h3 | ⟨x,i,hk',h3⟩ | h3
 ·rw [h3]; exact ⟨hf,h.2.1,hl⟩
 ·rw [h3]
  refine ⟨hf,h.2.1,fun k hk=>?_⟩
  show zP2 (lv m (fE (putL (zB1 X m).items x) k)) _
  rw [zX5 hs,if_neg (by rw [hk']; exact fun e=>hk e.symm)]; exact hl k hk
 ·rw [h3]
  refine ⟨hf,h.2.1,fun k hk=>?_⟩
  show zP2 (lv m (fE (rmL (zB1 X m).items c.key) k)) _
  rw [fE_rmL hs,if_neg (fun e=>hk e.symm)]; exact hl k hk
theorem Ap.start (k0:List UInt8):Ap 0 k0 St.zero St.zero:=⟨rfl,rfl,fun _ _=>rfl⟩
end Go.Proofs.YtfpeholdlkfmoaaGreatDoor
