/- meta.read, walked. Printed by gen_eread.py. -/
import Derived.Test.YtcbmlanpianclaaGreatDoorBS07
import Derived.Test.YtcbmlanpianclaaGreatDoorBS04
import Derived.Test.YtcbmlanpianclaaGreatDoorBS05
namespace Go.Proofs.YtcbmlanpianclaaGreatDoor
set_option linter.unusedSimpArgs false
set_option linter.unusedVariables false
set_option maxHeartbeats 8000000
open Go.RowKit
set_option maxRecDepth 100000
def rq1 (name word:List UInt8):Mq:=⟨1,[],false,[],0,false,name,[],word⟩
def rqE (name word:List UInt8):EN:=⟨(35,0,whole),mqS noS noS (rq1 name word),true⟩
def slRead (b o n cap size:Nat) (al behind:List UInt8):List (Nat × SV):=[(11,.c (.i .i64 (size:Int))),(8,.c (.v (.slice (some ⟨b,o,none⟩) n cap))),(10,.c (.s al)),(9,.c (.p 1 0)),(4,.c (.p 0 0)),(1,.c (.s behind))]
def zS0 (b o n cap size:Nat) (behind wr:List UInt8) (kok qt:Bool):List (Nat × SV):=[(17,.c (.b kok)),(16,.c (.b qt)),(14,.c (.s wr)),(11,.c (.i .i64 (size:Int))),(8,.c (.v (.slice (some ⟨b,o,none⟩) n cap))),(9,.c (.p 1 0)),(4,.c (.p 0 0)),(1,.c (.s behind))]
def slRead3 (b o n cap size:Nat) (qt:Bool):List (Nat × SV):=[(16,.c (.b qt)),(11,.c (.i .i64 (size:Int))),(8,.c (.v (.slice (some ⟨b,o,none⟩) n cap))),(9,.c (.p 1 0)),(4,.c (.p 0 0))]
def rdQ (name:List UInt8) (rest:List (List UInt8)) (x:Mq × Int × Bool):Mq:=if x.2.2 then rq1 name (rest.headD []) else x.1
def ReadP (w:World) (r0:Mq) (x:Mq × Int × Bool) (e:Ending) (w':World):Prop:=Below w.heap.size w w'∧∃ v,e=.returned (.tuple #[v,.int .i64 x.2.1,.bool x.2.2])∧MqV w.heap.size w' v r0
theorem infoStr:(Tryz.prog.info? 9).map (fun i=>(i.zero,i.size,i.bytes))=some (some (.string ⟨#[]⟩),1,16):=by kernel_rfl
theorem ones_st:∀ ws:List (List UInt8),qu (ws.map SC.s)=true
 | []=>rfl
 | x :: ws=>by simp only [List.map_cons,qu,q0t,cond_true]; exact ones_st ws
theorem setM_val (c:Cd) (x:UInt8) (s:List UInt8):(zS3 c x s).1.val=c.val:=by
 unfold zS3 zV3
 repeat' split
 all_goals rfl
theorem allM_val (al:List UInt8):∀ (ws:List (List UInt8)) (c:Cd) (seen:List UInt8),(zV8 al ws c seen).1.val=c.val
 | [],_,_=>rfl
 | [] :: _,_,_=>rfl
 | (x :: s) :: l,c,seen=>by
  rw [zV8]
  split
  ·rfl
  ·split
   ·rfl
   ·split
    ·rw [allM_val al l,setM_val]
    ·exact setM_val c x s
theorem kindM_val (name:List UInt8):(zF0 name).1.val=[]:=by
 unfold zF0
 repeat' split
 all_goals rfl
theorem dec_le (s:List UInt8):((zU3 s).getD []).length≤s.length:=by
 cases h:zU3 s with
 | none=>exact Nat.zero_le _
 | some t =>
  have h1:=encB_len t
  have h2:=(decB_iff s t).1 h
  rw [← h2] at h1
  show t.length≤_
  omega
theorem cut_suf {b:List UInt8} {n:Nat} (h:n+2≤b.length):Lib.hasSuffix (b.take (n+2)) [13,10]=((b.take (n+2)).drop n == [13,10])∧(Lib.hasSuffix (b.take (n+2)) [13,10]=true→Lib.trimSuffix (b.take (n+2)) [13,10]=b.take n):=by
 have hl:(b.take (n+2)).length=n+2:=by rw [List.length_take]; omega
 constructor
 ·rw [Bool.eq_iff_iff,beq_iff_eq]
  show ([13,10]:List UInt8).isSuffixOf _=true ↔ _
  rw [List.isSuffixOf_iff_suffix,List.suffix_iff_eq_drop,hl]
  exact ⟨fun h=>h.symm,fun h=>h.symm⟩
 ·intro hs
  unfold Lib.trimSuffix
  rw [if_pos hs,hl,List.take_take,Nat.min_eq_left (by simp)]
  simp
theorem read_w {w:World} (hE0:Env w) {a:Option Addr} {n cap:Nat} {name:List UInt8} {rest:List (List UInt8)} (hraw:RawT w a (name :: rest)) (hn:n=rest.length+1) (hnc:n≤cap) (hcap:cap≤maxLen) (hl:∀ x∈name :: rest,x ≠ []∧x.length≤5000) (hlen:n≤5000) (behind:List UInt8) (hb:behind.length≤9223372036854775807) :
  Calls Tryz.prog 41 #[.slice a n cap,.string ⟨behind.toArray⟩] w (ReadP w (rdQ name rest (readM name rest behind)) (readM name rest behind)):=by
 refine zA1 Tryz.func41 rfl kp41 (S:=Non) (ρ:=fun _=>zG7 0) (en:=[]) [.c (.v (.slice a n cap)),.c (.s behind)] Tryz.ntmps41 (At.nil _ _ _) (by simp [SV.wf,SC.wf]) (by simp) ?_
 intro C hC hP hk
 have hE:EnvC C:=fun w' hu=>by rw [hC] at hu; exact hE0.below hu.to_below
 have hctr:=eR_ok hP hE
 have hS:C.S=Non:=by rw [hC]; rfl
 have hw0:C.w0=w:=by rw [hC]; rfl
 have hn0:C.n0=0:=by rw [hC]; rfl
 unfold maxLen at hcap
 obtain ⟨b,o,ha,r0⟩:=hraw.rd (D:=C) hS hw0 (k:=0) (x:=name) rfl
 subst ha
 have r0:C.rd b o 1=some [.s name]:=r0
 obtain ⟨oo,hoo⟩:∃ oo,(if cap=1 then o else o+1)=oo:=⟨_,rfl⟩
 have q1:(0:Int)≤1:=by decide
 have q2:(1:Int)≤(n:Int):=by omega
 have q3:(n:Int)≤(cap:Int):=by omega
 have q4:(0:Int) < (n:Int):=by omega
 have q5:(0:Int)≤0:=by decide
 obtain ⟨m1,hm1⟩:∃ m1,n - 1=m1:=⟨_,rfl⟩
 have fin0:∀ (r:Mq) (sk:Int) (en:List EN),readM name rest behind=(r,sk,false)→r.cmds=[]→r.flags=[]→Fin C res41 (.t [.g (mqS noS noS r),.c (.i .i64 sk),.c (.b false)]) en:=fun r sk en h1 h2 h3=>by
  refine zC3 (v:=.t [.g (mqS noS noS r),.c (.i .i64 sk),.c (.b false)]) hC hres41 fun ρ w' hw _ _=>?_
  have hup:=hw.up
  rw [hC] at hup
  rw [h1]
  exact ⟨hup.to_below,_,rfl,MqV.none h2 h3⟩
 cases rest with
 | nil =>
  obtain rfl:m1=0:=by rw [← hm1,hn]; rfl
  have c0:(((0:Nat):Int) == 0)=true:=rfl
  (refine zA0 hctr (rs:=res41) true 300 _ _ _ ?_; simp (maxSteps:=1000000) only [VT,qH,qI,qK,qO,ev,qz,zF,zG,zI,zJ,zK,zM,↓reduceIte,reduceCtorEq,Nat.reduceEqDiff,Nat.reduceLT,zP,zR,zt,hP,hk,kp41])
  (refine zE5 hctr (by rw [hP]; rfl) rs41_1 [] (ensure_type_of% (Cmp.of (by simp (maxSteps := 1000000) only [qK, qO, qP, qX, qZ, ql, qm, ev, qy, qz, zD, zM, ↓reduceIte, reduceCtorEq, Nat.reduceEqDiff, zT, zh, zu, cD, cO, jC, jD, jN, hP, Int.toNat_zero, Int.toNat_one, Nat.mul_one, r0, hoo, q1, q2, q3, q4, q5, hm1]; rfl)) "" Cmp.mk) (by kernel_rfl) (by kernel_rfl) (by first | exact zC7 _ | kernel_rfl) (by kernel_rfl) (by rfl) (by rfl) (by first | exact zB2 _ | rfl) (by rfl) (by simp (maxSteps := 1000000) only [qK, qO, qP, qX, qZ, ql, qm, ev, qy, qz, zD, zM, ↓reduceIte, reduceCtorEq, Nat.reduceEqDiff, zT, zh, zn, zt, zu, jD, jN, jP, jQ, jR, jS, jT, hP, Int.toNat_zero, Int.toNat_one, Nat.mul_one, r0, hoo, q1, q2, q3, q4, q5, hm1]) ?_; refine zA0 hctr (rs := res41) true 300 _ _ _ ?_; simp (maxSteps := 1000000) only [VT, jf, qE, qF, qG, qH, qI, qJ, qK, qN, qO, qP, qR, qS, qe, q0t, qu, qv, ev, qw, qy, qz, zA, zB, zC, zD, zE, zG, zI, zJ, zM, ↓reduceIte, reduceCtorEq, Value.oneCell', Nat.reduceEqDiff, Nat.reduceAdd, Nat.reduceLT, zP, zQ, zR, zV, zt, jN, jO, hP, hk, res41, kp41, eR, zJ9, mqS, noS, zD8, c0])
  exact fin0 (zD8 zA2 0) 0 _ rfl rfl rfl
 | cons word l0 =>
  have hn2:n=l0.length+2:=by rw [hn]; rfl
  have c0:((m1:Int) == 0)=false:=by
   have:m1 ≠ 0:=by omega
   simpa using this
  obtain rfl:oo=o+1:=by rw [← hoo,if_neg (by omega)]
  obtain ⟨_,_,he,r1⟩:=hraw.rd (D:=C) hS hw0 (k:=1) (x:=word) rfl
  cases he
  obtain ⟨cap1,hcap1⟩:∃ cap1,cap - 1=cap1:=⟨_,rfl⟩
  obtain ⟨o2,ho2⟩:∃ o2,(if cap1=1 then o+1 else o+1+1)=o2:=⟨_,rfl⟩
  have q6:(0:Int) < (m1:Int):=by omega
  have q7:(1:Int)≤(m1:Int):=by omega
  have q8:(m1:Int)≤(cap1:Int):=by omega
  obtain ⟨m2,hm2⟩:∃ m2,m1 - 1=m2:=⟨_,rfl⟩
  obtain ⟨cap2,hcap2⟩:∃ cap2,cap1 - 1=cap2:=⟨_,rfl⟩
  obtain ⟨kc,hkc⟩:∃ kc,(zF0 name).1=kc:=⟨_,rfl⟩
  obtain ⟨al,hal⟩:∃ al,(zF0 name).2=al:=⟨_,rfl⟩
  (refine zA0 hctr (rs:=res41) true 300 _ _ _ ?_; simp (maxSteps:=1000000) only [VT,qH,qI,qK,qO,ev,qz,zF,zG,zI,zJ,zK,zM,↓reduceIte,reduceCtorEq,Nat.reduceEqDiff,Nat.reduceLT,zP,zR,zt,hP,hk,kp41])
  (refine zE5 hctr (by rw [hP]; rfl) rs41_1 [] (ensure_type_of% (Cmp.of (by simp (maxSteps := 1000000) only [qK, qO, qP, qX, qZ, ql, qm, ev, qy, qz, zD, zM, ↓reduceIte, reduceCtorEq, Nat.reduceEqDiff, zT, zh, zu, cD, cO, jC, jD, jN, hP, Int.toNat_zero, Int.toNat_one, Nat.mul_one, r0, hoo, q1, q2, q3, q4, q5, hm1, hcap1]; rfl)) "" Cmp.mk) (by kernel_rfl) (by kernel_rfl) (by first | exact zC7 _ | kernel_rfl) (by kernel_rfl) (by rfl) (by rfl) (by first | exact zB2 _ | rfl) (by rfl) (by simp (maxSteps := 1000000) only [qK, qO, qP, qX, qZ, ql, qm, ev, qy, qz, zD, zM, ↓reduceIte, reduceCtorEq, Nat.reduceEqDiff, zT, zh, zn, zt, zu, jD, jN, jP, jQ, jR, jS, jT, hP, Int.toNat_zero, Int.toNat_one, Nat.mul_one, r0, hoo, q1, q2, q3, q4, q5, hm1, hcap1]) ?_; refine zA0 hctr (rs := res41) true 45 _ _ _ ?_; simp (maxSteps := 1000000) only [VT, jg, qH, qI, qJ, qK, qN, qO, qP, qR, qS, qX, qZ, qe, qf, qg, qh, ql, qm, q0t, qu, qv, ev, qw, qy, qz, zC, zD, zE, zF, zG, zI, zJ, TE.sv, zM, ↓reduceIte, reduceCtorEq, Value.oneCell', Nat.reduceEqDiff, Nat.reduceAdd, Nat.reduceLT, zP, zQ, zR, zT, zW, zh, zt, zu, jN, jO, hP, hk, res41, kp41, eR, ecS, zU9, Int.toNat_zero, Int.toNat_one, Nat.mul_one, r1, q1, q5, q6, q7, q8, hm2, hcap2, ho2, hkc, hal, c0])
  have hr0:∀ (k:Nat) x,(name :: word :: l0)[k]?=some x→b < w.heap.size∧w.cell? ⟨b,o+k,none⟩=some (.string ⟨x.toArray⟩):=fun k x hx=>by
   obtain ⟨_,_,he,h1,h2⟩:=hraw k x hx
   cases he; exact ⟨h1,h2⟩
  refine zL1 (κ:={ y:Nat × Nat × Nat × List (List UInt8) × Nat // y.2.1=y.2.2.2.1.length∧y.2.1≤5000∧y.2.1≤y.2.2.1∧RawT w (some ⟨b,y.1,none⟩) y.2.2.2.1∧(∀ x∈y.2.2.2.1,x ≠ []∧x.length≤5000)∧readM name (word :: l0) behind=zO8 name word y.2.2.2.1 y.2.2.2.2 behind∧y.2.2.2.2≤1073741826∧(y.2.2.2.2=0∨2≤y.2.2.2.2) }) (fun y=>slRead b y.1.1 y.1.2.1 y.1.2.2.1 y.1.2.2.2.2 al behind) (fun _=>[rqE name word,enC kc true]) ?_ ?_
  rotate_left
  ·intro htail
   by_cases hms:name=m_ms
   ·have c1:(name == [109,115])=true:=by rw [hms]; rfl
    have rm:∀ z l',readM name (word :: z :: l') behind=if (zT8 z).2 && decide ((zT8 z).1≤1073741824) then zO8 name word l' ((zT8 z).1.toNat+2) behind else (zD8 zA2 0,0,false):=fun z l'=>by
     simp only [readM,if_pos hms]
    cases l0 with
    | nil =>
     obtain rfl:m2=0:=by simp at hn2; omega
     have c2:(((0:Nat):Int) == 0)=true:=rfl
     (refine zA0 hctr (rs:=res41) true 300 _ _ _ ?_; simp (maxSteps:=1000000) only [VT,jf,qE,qF,qG,qH,qI,qJ,qK,qN,qO,qP,qR,qS,qe,q0t,qu,qv,ev,qw,qy,qz,zA,zB,zC,zD,zE,zG,zI,zJ,zM,↓reduceIte,reduceCtorEq,Value.oneCell',Nat.reduceEqDiff,Nat.reduceAdd,Nat.reduceLT,zP,zQ,zR,zV,zt,hP,hk,res41,kp41,eR,zJ9,mqS,noS,zD8,c1,c2])
     exact fin0 (zD8 zA2 0) 0 _ (by simp only [readM,if_pos hms]) rfl rfl
    | cons z l1 =>
     have hn3:n=l1.length+3:=by rw [hn2]; rfl
     have c2:((m2:Int) == 0)=false:=by
      have:m2 ≠ 0:=by omega
      simpa using this
     obtain rfl:o2=o+1+1:=by rw [← ho2,if_neg (by omega)]
     obtain ⟨_,_,he,r2⟩:=hraw.rd (D:=C) hS hw0 (k:=2) (x:=z) rfl
     cases he
     have r2:C.rd b (o+1+1) 1=some [.s z]:=r2
     obtain ⟨o3,ho3⟩:∃ o3,(if cap2=1 then o+1+1 else o+1+1+1)=o3:=⟨_,rfl⟩
     have q9:(0:Int) < (m2:Int):=by omega
     have q10:(1:Int)≤(m2:Int):=by omega
     have q11:(m2:Int)≤(cap2:Int):=by omega
     have q12:z.length≤9223372036854775807:=by have:=(hl z (by simp)).2; omega
     obtain ⟨m3,hm3⟩:∃ m3,m2 - 1=m3:=⟨_,rfl⟩
     obtain ⟨cap3,hcap3⟩:∃ cap3,cap2 - 1=cap3:=⟨_,rfl⟩
     cases hv:zB0 z with
     | none =>
      (refine zA0 hctr (rs:=res41) true 300 _ _ _ ?_; simp (maxSteps:=1000000) only [VT,jf,jg,aA,qE,qF,qG,qH,qI,qJ,qK,qN,qO,qP,qR,qS,qT,qX,qe,qh,qp,q0t,qu,qv,ev,qw,qy,qz,zA,zB,zC,zD,zE,zG,zI,zJ,TE.sv,zM,↓reduceIte,reduceCtorEq,Value.oneCell',Nat.reduceEqDiff,Nat.reduceAdd,Nat.reduceLT,zP,zQ,zR,zT,zV,zW,zt,zu,hP,hk,res41,kp41,eR,tC0,zJ9,zA8,mqS,noS,zD8,Int.toNat_zero,Nat.mul_one,q5,c1,c2,r2,q9,q12,hv,Option.getD_none,Option.isSome_none])
      exact fin0 (zD8 zA2 0) 0 _ (by rw [rm]; simp [zT8,hv]) rfl rfl
     | some v =>
      by_cases hbig:1073741824 < v
      ·have c3:decide ((1073741824:Int) < (v:Int))=true:=decide_eq_true (by omega)
       (refine zA0 hctr (rs:=res41) true 300 _ _ _ ?_; simp (maxSteps:=1000000) only [VT,jf,jg,jZ,qE,qF,qG,qH,qI,qJ,qK,qN,qO,qP,qR,qS,qT,qX,qe,qh,qp,q0t,qu,qv,ev,qw,qy,qz,zA,zB,zC,zD,zE,zG,zI,zJ,TE.sv,zM,↓reduceIte,reduceCtorEq,Value.oneCell',Nat.reduceEqDiff,Nat.reduceAdd,Nat.reduceLT,zP,zQ,zR,zT,zV,zW,zt,zu,hP,hk,res41,kp41,eR,tC0,zJ9,zA8,mqS,noS,zD8,Int.toNat_zero,Nat.mul_one,q5,c1,c2,r2,q9,q12,hv,Option.getD_some,Option.isSome_some,c3])
       exact fin0 (zD8 zA2 0) 0 _ (by rw [rm]; simp [zT8,hv]; omega) rfl rfl
      ·have c3:decide ((1073741824:Int) < (v:Int))=false:=decide_eq_false (by omega)
       have w1:IntKind.i64.wrap (v:Int)=(v:Int):=IntWalk.i64_in _ (by omega)
       have w2:IntKind.i64.wrap ((v:Int)+2)=((v+2:Nat):Int):=by rw [IntWalk.i64_in _ (by omega)]; rfl
       (refine zA0 hctr (rs:=res41) true 300 _ _ _ ?_; simp (maxSteps:=1000000) only [VT,jf,jg,jZ,qH,qI,qK,qN,qO,qP,qR,qS,qT,qX,qe,qh,qp,ev,qw,qy,qz,zD,zI,zJ,TE.sv,zM,↓reduceIte,reduceCtorEq,Nat.reduceEqDiff,Nat.reduceLT,zP,zQ,zR,zT,zV,zW,zu,hP,hk,res41,kp41,eR,tC0,zA8,Int.toNat_zero,Nat.mul_one,q5,c1,c2,r2,q9,q12,hv,Option.getD_some,Option.isSome_some,c3])
       (refine zE5 hctr (by rw [hP]; rfl) rs41_14 [] (ensure_type_of% (Cmp.of (by simp (maxSteps := 1000000) only [qK, qO, qR, qS, qU, qZ, ql, qm, ev, qy, qz, zD, zM, ↓reduceIte, Nat.reduceEqDiff, zT, zh, cD, cO, jC, jD, jN, hP, Int.toNat_one, Nat.mul_one, w1, w2, ho3, hm3, hcap3, q1, q10, q11]; rfl)) "" Cmp.mk) (by kernel_rfl) (by kernel_rfl) (by first | exact zC7 _ | kernel_rfl) (by kernel_rfl) (by rfl) (by rfl) (by first | exact zB2 _ | rfl) (by rfl) (by simp (maxSteps := 1000000) only [qK, qO, qR, qS, qU, qZ, ql, qm, ev, qy, qz, zD, zM, ↓reduceIte, Nat.reduceEqDiff, zT, zh, zn, zt, jD, jN, jP, jQ, jR, jS, jT, hP, Int.toNat_one, Nat.mul_one, w1, w2, ho3, hm3, hcap3, q1, q10, q11]) ?_; refine zA0 hctr (rs := res41) true 0 _ _ _ ?_; simp (maxSteps := 1000000) only [VT, zG, zI, zJ, ↓reduceIte, reduceCtorEq, Nat.reduceEqDiff, Nat.reduceAdd, zP, zQ, zt, jN, jO, hk, kp41])
       refine htail ⟨(o3,m3,cap3,l1,v+2),by simp only; omega,by simp only; omega,by simp only; omega,?_,fun x hx=>hl x (by simp at hx ⊢; exact .inr (.inr (.inr hx))),by rw [rm]; simp [zT8,hv]; omega,by simp only; omega,by simp only; omega⟩ _ (zB3 ⟨rfl,rfl,rfl,rfl,rfl,rfl,trivial⟩)
       intro k x hx
       have hx':(name :: word :: z :: l1)[k+3]?=some x:=hx
       have:=hr0 _ _ hx'
       have hk:=(List.getElem?_eq_some_iff.1 hx).1
       have ho:o3=o+3:=by rw [← ho3,if_neg (by simp only at hk; omega)]
       exact ⟨b,o3,rfl,this.1,by rw [ho,show o+3+k=o+(k+3) by omega]; exact this.2⟩
   ·have c1:(name == [109,115])=false:=by simpa [m_ms] using hms
    (refine zA0 hctr (rs:=res41) true 2 _ _ _ ?_; simp (maxSteps:=1000000) only [VT,jg,ev,qy,↓reduceIte,zW,res41,c1])
    refine htail ⟨(o2,m2,cap2,l0,0),by simp only; omega,by simp only; omega,by simp only; omega,?_,fun x hx=>hl x (by simp at hx ⊢; exact .inr (.inr hx)),by simp only [readM,if_neg hms],Nat.zero_le _,.inl rfl⟩ _ (zB3 ⟨rfl,rfl,rfl,rfl,rfl,rfl,trivial⟩)
    intro k x hx
    have hx':(name :: word :: l0)[k+2]?=some x:=hx
    have:=hr0 _ _ hx'
    have hk:=(List.getElem?_eq_some_iff.1 hx).1
    have ho:o2=o+2:=by rw [← ho2,if_neg (by simp only at hk; omega)]
    exact ⟨b,o2,rfl,this.1,by rw [ho,show o+2+k=o+(k+2) by omega]; exact this.2⟩
  ·rintro ⟨⟨oo,n',cap',ws,size⟩,e1,e2,e3,e4,e5,e6,e7,e8⟩
   simp only at e1 e2 e3 e4 e5 e6 e7 e8
   show Run C _ 134 (slRead b oo n' cap' size al behind) [rqE name word,enC kc true]
   (refine zA0 hctr (rs:=res41) true 300 _ _ _ ?_; simp (maxSteps:=1000000) only [VT,qH,qI,qK,qO,ev,qw,qy,↓reduceIte,Nat.reduceEqDiff,Nat.reduceLT,zR,eR,tC0,ecS,mqS,noS,slRead,rqE,rq1,enC])
   obtain ⟨c',wr,seen,hR⟩:∃ c' wr seen,zV8 al ws kc []=(c',wr,seen):=⟨_,_,_,rfl⟩
   have hfm:zR2 name ws=(c',wr,seen):=by unfold zR2; rw [hal,hkc,hR]
   obtain ⟨lt,hlt⟩:∃ lt,seen.contains 98=lt:=⟨_,rfl⟩
   obtain ⟨qt,hqt⟩:∃ qt,seen.contains 113=qt:=⟨_,rfl⟩
   refine zA6 rfl (.t [.c (.s wr),.c (.b lt),.c (.b qt)]) [rqE name word,enC c' true] (by
    have:=all_h (C:=C) (nE:=2) (mk:=fun c=>2≤c∧c < 2) (en:=[rqE name word,enC kc true]) (N:=1) (c:=kc) (allowed:=al) (a:=some ⟨b,oo,none⟩) (n:=n') (cap:=cap') (ws:=ws) hP hE hS rfl (by decide) (fun q hq=>by omega) e1 (by rw [hw0]; exact e4) (fun x hx=>⟨(e5 x hx).1,by have:=(e5 x hx).2; omega⟩) (by omega) rfl
    rw [hR,hlt,hqt] at this
    exact this) (by simp [zG]) (by simp) ?_
   (refine zA0 hctr (rs:=res41) true 24 _ _ _ ?_; simp (maxSteps:=1000000) only [VT,qH,qI,qJ,qK,qO,qP,qV,qh,q0t,qv,ev,qy,qz,zC,zD,zE,zG,zI,zJ,TE.sv,zM,↓reduceIte,reduceCtorEq,Nat.reduceEqDiff,Nat.reduceLT,zP,zQ,zR,zt,jN,hP,hk,kp41,ecS,mqS,noS,rqE,rq1,enC])
   obtain ⟨key,kok,hkey,hkok⟩:∃ key kok,(keyM name word ws).getD []=key∧(keyM name word ws).isSome=kok:=⟨_,_,rfl,rfl⟩
   have hkm:keyM name word ws=if lt=true then zU3 word else some word:=by unfold keyM; rw [hfm,hlt]
   refine zL1 (κ:=Unit) (fun _=>zS0 b oo n' cap' size behind wr kok qt) (fun _=>[rqE name word,enC { c' with key:=key } true]) ?_ ?_
   rotate_left
   ·intro htail
    cases lt with
    | false =>
     rw [if_neg (by decide)] at hkm
     rw [hkm] at hkey hkok
     (refine zA0 hctr (rs:=res41) true 2 _ _ _ ?_; simp (maxSteps:=1000000) only [VT,jg,ev,qy,↓reduceIte,zW,res41])
     subst hkey; subst hkok
     exact htail () _ (zB3 ⟨rfl,rfl,rfl,rfl,rfl,rfl,rfl,rfl,trivial⟩)
    | true =>
     rw [if_pos rfl] at hkm
     rw [hkm] at hkey hkok
     have l1:word.length≤5000:=(hl word (by simp)).2
     (refine zA0 hctr (rs:=res41) true 12 _ _ _ ?_; simp (maxSteps:=1000000) only [VT,jf,qH,qI,qJ,qK,qO,qP,qV,qh,q0t,qv,ev,qw,qy,zC,zD,zE,zG,zI,zJ,TE.sv,zM,↓reduceIte,reduceCtorEq,Nat.reduceEqDiff,Nat.reduceLT,zP,zQ,zR,zV,zt,hP,hk,res41,kp41,eR,rowDec,hkey,hkok,l1])
     exact htail () _ (zB3 ⟨rfl,rfl,rfl,rfl,rfl,rfl,rfl,rfl,trivial⟩)
   ·intro _
    show Run C _ 134 (zS0 b oo n' cap' size behind wr kok qt) [rqE name word,enC { c' with key:=key } true]
    have hwm:zU4 name word ws size=if wr ≠ [] then wr else if okM (keyM name word ws)=false then zA2 else if 65538 < size then zM3 else []:=by unfold zU4; rw [hfm]
    have hok:okM (keyM name word ws)=(kok && zG3 key):=by
     rw [← hkey,← hkok]
     cases keyM name word ws with
     | none=>rfl
     | some k=>simp [okM]
    have hkl:key.length≤9223372036854775807:=by
     have:=(hl word (by simp)).2
     rw [← hkey,hkm]
     split
     ·have:=dec_le word; omega
     ·show word.length≤_; omega
    by_cases hwr:wr=[]
    ·subst hwr
     rw [if_neg (by simp)] at hwm
     have w0:(([]:List UInt8) == [])=true:=rfl
     cases kok with
     | false =>
      rw [hok,if_pos (by rfl)] at hwm
      (refine zA0 hctr (rs:=res41) true 300 _ _ _ ?_; simp (maxSteps:=1000000) only [VT,jf,jg,aA,qE,qF,qG,qH,qI,qJ,qK,qO,qP,qR,qS,qT,qp,q0t,qu,qv,ev,qw,qy,qz,zA,zB,zC,zD,zE,zG,zI,zJ,zM,↓reduceIte,reduceCtorEq,Value.oneCell',Nat.reduceEqDiff,Nat.reduceAdd,Nat.reduceLT,zP,zQ,zR,zV,zW,zt,hP,hk,res41,kp41,eR,ecS,zJ9,mqS,noS,zD8,zS0,rqE,rq1,enC,w0,lb2])
      exact fin0 (zD8 zA2 size) 0 _ (by rw [e6,zO8,hwm]; rfl) rfl rfl
     | true =>
      rw [Bool.true_and] at hok
      cases hkb:zG3 key with
      | false =>
       rw [hok,if_pos hkb] at hwm
       (refine zA0 hctr (rs:=res41) true 300 _ _ _ ?_; simp (maxSteps:=1000000) only [VT,jf,jg,jZ,qE,qF,qG,qH,qI,qJ,qK,qO,qP,qR,qS,qT,qV,qp,q0t,qu,qv,ev,qw,qy,qz,zA,zB,zC,zD,zE,zG,zI,zJ,zM,↓reduceIte,reduceCtorEq,Value.oneCell',Nat.reduceEqDiff,Nat.reduceAdd,Nat.reduceLT,zP,zQ,zR,zV,zW,zt,hP,hk,res41,kp41,eR,tC0,ecS,zJ9,zV0,mqS,noS,zD8,zS0,rqE,rq1,enC,w0,lb2,hkb,hkl])
       exact fin0 (zD8 zA2 size) 0 _ (by rw [e6,zO8,hwm]; rfl) rfl rfl
      | true =>
       rw [hok,if_neg (by rw [hkb]; simp)] at hwm
       by_cases hs:65538 < size
       ·rw [if_pos hs] at hwm
        have c4:decide ((65538:Int) < (size:Int))=true:=decide_eq_true (by omega)
        (refine zA0 hctr (rs:=res41) true 300 _ _ _ ?_; simp (maxSteps:=1000000) only [VT,jf,jg,jZ,qE,qF,qG,qH,qI,qJ,qK,qO,qP,qR,qS,qT,qV,qp,q0t,qu,qv,ev,qw,qy,qz,zA,zB,zC,zD,zE,zG,zI,zJ,zM,↓reduceIte,reduceCtorEq,Value.oneCell',Nat.reduceEqDiff,Nat.reduceAdd,Nat.reduceLT,zP,zQ,zR,zV,zW,zt,hP,hk,res41,kp41,eR,tC0,ecS,zJ9,zV0,mqS,noS,zD8,zS0,rqE,rq1,enC,w0,lb2,hkb,hkl,c4])
        exact fin0 (zD8 zM3 size) 0 _ (by rw [e6,zO8,hwm]; rfl) rfl rfl
       ·rw [if_neg hs] at hwm
        have c4:decide ((65538:Int) < (size:Int))=false:=decide_eq_false (by omega)
        by_cases hbh:behind.length < size
        ·have c5:decide ((behind.length:Int) < (size:Int))=true:=decide_eq_true (by omega)
         (refine zA0 hctr (rs:=res41) true 300 _ _ _ ?_; simp (maxSteps:=1000000) only [VT,jf,jg,jZ,qE,qF,qG,qH,qI,qJ,qK,qN,qO,qP,qR,qS,qT,qV,qe,qp,q0t,qu,qv,ev,qw,qy,qz,zA,zB,zC,zD,zE,zG,zI,zJ,zM,↓reduceIte,reduceCtorEq,Value.oneCell',Nat.reduceEqDiff,Nat.reduceAdd,Nat.reduceLT,zP,zQ,zR,zV,zW,zt,hP,hk,res41,kp41,eR,tC0,ecS,zV0,mqS,noS,zS0,rqE,rq1,enC,w0,hkb,hkl,c4,c5])
         refine zC3 (v:=.t [.g (mqS noS noS (rq1 name word)),.c (.i .i64 0),.c (.b true)]) hC hres41 fun ρ w' hw _ _=>?_
         have hup:=hw.up
         rw [hC] at hup
         rw [e6,zO8,if_neg (by rw [hwm]; simp),if_pos hbh]
         exact ⟨hup.to_below,_,rfl,MqV.none rfl rfl⟩
        ·have c5:decide ((behind.length:Int) < (size:Int))=false:=decide_eq_false (by omega)
         obtain ⟨val,hval⟩:∃ val,(if 0 < size then behind.take (size - 2) else [])=val:=⟨_,rfl⟩
         have hcv:c'.val=[]:=by
          have:=allM_val al ws kc []
          rw [hR,← hkc,kindM_val] at this
          exact this
         (refine zA0 hctr (rs:=res41) true 54 _ _ _ ?_; simp (maxSteps:=1000000) only [VT,jg,jZ,qH,qI,qK,qN,qO,qP,qR,qS,qT,qV,qe,qp,ev,qw,qy,qz,zD,zI,zJ,zM,↓reduceIte,reduceCtorEq,Nat.reduceEqDiff,Nat.reduceLT,zP,zQ,zR,zV,zW,zt,hP,hk,res41,kp41,eR,tC0,ecS,zV0,mqS,noS,zS0,rqE,rq1,enC,w0,hkb,hkl,c4,c5])
         refine zL1 (κ:={ _u:Unit // readM name (word :: l0) behind=(doneM name word ws val,(size:Int),false) }) (fun _=>slRead3 b oo n' cap' size qt) (fun _=>[rqE name word,enC { c' with key:=key,val:=val } true]) ?_ ?_
         rotate_left
         ·intro htail
          by_cases hz:size=0
          ·subst hz
           have c6:decide ((0:Int) < ((0:Nat):Int))=false:=rfl
           rw [if_neg (by omega)] at hval
           (refine zA0 hctr (rs:=res41) true 2 _ _ _ ?_; simp (maxSteps:=1000000) only [VT,jg,ev,qy,↓reduceIte,zW,res41,c6])
           rw [hcv]
           subst hval
           exact htail ⟨(),by rw [e6,zO8,if_neg (by rw [hwm]; simp),if_neg hbh,if_neg (by simp),if_neg (by simp)]⟩ _ (zB3 ⟨rfl,rfl,rfl,rfl,rfl,trivial⟩)
          ·obtain ⟨m,rfl⟩:∃ m,size=m+2:=⟨size - 2,by omega⟩
           have c6:decide ((0:Int) < ((m+2:Nat):Int))=true:=decide_eq_true (by omega)
           rw [if_pos (by omega),show m+2 - 2=m by omega] at hval
           have d1:(0:Int)≤((m+2:Nat):Int):=by omega
           have d2:((m+2:Nat):Int)≤(behind.length:Int):=by omega
           have d3:(behind.take (m+2)).length≤9223372036854775807:=by rw [List.length_take]; omega
           obtain ⟨cs1,cs2⟩:=cut_suf (b:=behind) (n:=m) (by omega)
           cases hsf:Lib.hasSuffix (behind.take (m+2)) [13,10] with
           | false =>
            (refine zA0 hctr (rs:=res41) true 300 _ _ _ ?_; simp (maxSteps:=1000000) only [VT,jf,qE,qF,qG,qH,qI,qJ,qK,qO,qP,qT,qV,qZ,qh,ql,q0t,qu,qv,ev,qw,qy,qz,zA,zB,zC,zD,zE,zG,zI,zJ,TE.sv,zM,↓reduceIte,reduceCtorEq,Value.oneCell',Nat.reduceEqDiff,Nat.reduceAdd,Nat.reduceLT,zP,zQ,zR,zT,zV,zW,zh,zt,hP,hk,res41,kp41,eR,zJ9,zW7,mqS,noS,zD8,Int.toNat_zero,Int.le_refl,c6,d1,d2,d3,hsf,List.drop_zero])
            rw [hsf] at cs1
            exact fin0 (zD8 zO6 0) ((m+2:Nat):Int) _ (by
             rw [e6,zO8,if_neg (by rw [hwm]; simp),if_neg hbh,if_pos ⟨by omega,by
              rw [show m+2 - 2=m by omega]
              intro e; rw [e] at cs1; cases cs1⟩]) rfl rfl
           | true =>
            have cs3:=cs2 hsf
            rw [hval] at cs3
            (refine zA0 hctr (rs:=res41) true 21 _ _ _ ?_; simp (maxSteps:=1000000) only [VT,jf,jg,qH,qI,qJ,qK,qO,qT,qV,qZ,qh,ql,q0t,qv,ev,qw,qy,qz,zC,zD,zE,zG,zI,zJ,TE.sv,zM,↓reduceIte,reduceCtorEq,Nat.reduceEqDiff,Nat.reduceLT,zP,zQ,zR,zT,zV,zW,zh,zt,hP,hk,res41,kp41,eR,zW7,Int.toNat_zero,Int.le_refl,c6,d1,d2,d3,hsf,cs3,List.drop_zero])
            refine htail ⟨(),?_⟩ _ (zB3 ⟨rfl,rfl,rfl,rfl,rfl,trivial⟩)
            rw [hsf] at cs1
            rw [e6,zO8,if_neg (by rw [hwm]; simp),if_neg hbh,if_neg,if_pos (by omega),show m+2 - 2=m by omega,hval]
            intro h
            rw [show m+2 - 2=m by omega] at h
            exact h.2 (eq_of_beq cs1.symm)
         ·rintro ⟨_,hrd⟩
          show Run C _ 134 (slRead3 b oo n' cap' size qt) [rqE name word,enC { c' with key:=key,val:=val } true]
          (refine zA0 hctr (rs:=res41) true 300 _ _ _ ?_; simp (maxSteps:=1000000) only [VT,qA,qB,qC,qD,qH,qI,qJ,qK,qN,qO,qP,qV,qg,q0t,qv,ev,qy,zA,zB,zC,zD,zE,zF,zG,zI,zJ,zM,↓reduceIte,reduceCtorEq,Nat.reduceEqDiff,Nat.reduceAdd,Nat.reduceLT,Nat.reduceLeDiff,zP,zQ,zR,zT,zk,zl,zt,hP,hk,kp41,ecS,mqS,noS,Nat.reduceMul,slRead3,rqE,rq1,enC])
          have hdone:doneM name word ws val=⟨1,[{ c' with key:=key,val:=val }],qt,[],0,false,name,ws,word⟩:=by
           unfold doneM; rw [hfm,hkey,hqt]
          obtain ⟨cc,hcc⟩:∃ cc:Cd,cc={ c' with key:=key,val:=val }:=⟨_,rfl⟩
          have ecc:ecS cc=[.i .i64 c'.op,.i .i64 c'.mode,.s key,.s val,.i .u32 c'.flags,.i .i64 c'.exp,.b c'.hasExp,.i .u64 c'.cas,.b c'.hasCas,.i .u64 c'.delta,.i .u64 c'.init,.b c'.down,.b c'.viv,.i .i64 c'.vive,.i .i64 c'.recache,.b c'.inval]:=by rw [hcc]; rfl
          rw [← hcc] at hdone
          obtain ⟨i0,hi',hz0,hz1,hz2⟩:=info_parts infoStr
          have hend:∀ (fl:SC) (en:List EN) (r2:Nat→World→(Nat→RE)→Prop),True:=fun _ _ _=>trivial
          cases n' with
          | zero =>
           obtain rfl:ws=[]:=List.eq_nil_of_length_eq_zero e1.symm
           refine append_none_op (e:=9) (by rw [hP]; exact Tryz.underlying33) (by rw [hP]; exact hi') rfl rfl (by simp) ?_
           (refine zA0 hctr (rs:=res41) true 300 _ _ _ ?_; simp (maxSteps:=1000000) only [VT,qE,qF,qG,qH,qI,qJ,qK,qO,qP,qV,q0t,qu,qv,ev,qy,qz,zA,zB,zC,zD,zE,zG,zI,zJ,zM,↓reduceIte,reduceCtorEq,Value.oneCell',Nat.reduceEqDiff,Nat.reduceAdd,Nat.reduceLT,zP,zQ,zR,zt,jN,hP,hk,res41,kp41])
           refine zC3 (v:=.t [.g (mqS (.sl 2 0 1 1) noS ⟨1,[cc],qt,[],0,false,name,[],word⟩),.c (.i .i64 (size:Int)),.c (.b false)]) hC hres41 fun ρ w' hw _ _=>?_
           have hup:=hw.up
           rw [hC] at hup
           obtain ⟨k1,k2⟩:=RowOk.lit (N:=2) (n:=1) (z:=16) (e:=52) (cells:=ecS cc) hw hS (by rw [ecc]; rfl) (by decide) (by simp [ecS]) rfl (by unfold maxLen; decide)
           rw [hw0] at k1
           rw [hrd,hdone]
           refine ⟨hup.to_below,_,rfl,⟨_,nilR w.heap.size,?_,k1,RowOk.nil _ _ _ _,fun _ h=>by cases h⟩⟩
           show mqA ((SC.sl 2 0 1 1).den ρ) _ _=_
           rw [k2]; rfl
          | succ n2 =>
           have hrdw:C.rd b oo (n2+1)=some (ws.map SC.s):=by
            have hmm:(ws.map encW).map qz=ws.map SC.s:=by simp [encW,qz,Function.comp_def]
            rw [← hmm]
            refine rd_of (vs:=ws.map encW) ?_ (by rw [List.length_map,← e1])
            intro w' hu j v hv
            rw [List.getElem?_map,Option.map_eq_some_iff] at hv
            obtain ⟨x,hx,rfl⟩:=hv
            obtain ⟨_,_,he,h1,h2⟩:=e4 j x hx
            cases he
            rw [hS,hw0] at hu
            exact (hu.cell (p:=⟨b,oo+j,none⟩) h1 (fun h=>h)).trans h2
           refine zH9 (X:=.v (.slice none 0 0)) (Y:=.v (.slice (some ⟨b,oo,none⟩) (n2+1) cap')) (o:=none) (n:=0) (m:=n2+1) (z:=1) (bts:=16) (cells:=[]) (news:=ws.map SC.s) (e:=9) (by rw [hP]; exact Tryz.underlying33) (by rw [hP]; exact hi') hz0 hz1 hz2 rfl Nat.zero_lt_one (by decide) (.none rfl rfl) rfl rfl (src_raw (L:=n2+1) hrdw) (by rw [List.length_map,← e1,Nat.mul_one]) (ones_st ws) (fun pr=>st_wf pr ws) (by omega) (by omega) (by rw [hn0]; exact Nat.zero_le _) rfl (by simp) ?_
           (refine zA0 hctr (rs:=res41) true 300 _ _ _ ?_; simp (maxSteps:=1000000) only [VT,qE,qF,qG,qH,qI,qJ,qK,qO,qP,qV,q0t,qu,qv,ev,qy,qz,zA,zB,zC,zD,zE,zF,zG,zI,zJ,zM,↓reduceIte,reduceCtorEq,Nat.reduceEqDiff,Nat.reduceAdd,Nat.reduceLT,zP,zQ,zR,zt,zM2,rwE,jN,hP,hk,res41,kp41,zM2,rwE])
           refine zC3 (v:=.t [.g (mqS (.sl 2 0 1 1) (.rw 3 (n2+1)) ⟨1,[cc],qt,[],0,false,name,ws,word⟩),.c (.i .i64 (size:Int)),.c (.b false)]) hC hres41 fun ρ w' hw _ _=>?_
           have hup:=hw.up
           rw [hC] at hup
           obtain ⟨k1,k2⟩:=RowOk.lit (N:=2) (n:=1) (z:=16) (e:=52) (cells:=ecS cc) hw hS (by rw [ecc]; rfl) (by decide) (by simp [ecS]) rfl (by unfold maxLen; decide)
           have k3:=RowOk.of (N:=3) (n:=n2+1) (z:=1) (e:=9) (cells:=[]++ws.map SC.s) hw hS rfl (by decide)
           rw [hw0] at k1 k3
           rw [List.nil_append,zF4,e1] at k3
           rw [hrd,hdone]
           refine ⟨hup.to_below,_,rfl,⟨_,ρ 3,?_,k1,k3,fun _ h3 he=>?_⟩⟩
           ·show mqA ((SC.sl 2 0 1 1).den ρ) (zL3 (ρ 3) (n2+1)) _=_
            rw [k2]
            rw [e1]; rfl
           ·have hnl:(ρ 2).nl=none:=Decidable.byContradiction fun hd=>by
             have:=(hw.hp 2 _ _ _ (by simp) rfl).non hd
             cases this
            have:=hw.inj 2 3 (by simp) (by simp) ((zA4 rfl).2 ⟨by decide,hnl⟩) ((zA4 rfl).2 ⟨by show ¬ ((9:Nat)=zC9); decide,h3⟩) he
            cases this
    ·rw [if_pos hwr] at hwm
     have w1:(wr == [])=false:=by simpa using hwr
     (refine zA0 hctr (rs:=res41) true 300 _ _ _ ?_; simp (maxSteps:=1000000) only [VT,jf,qE,qF,qG,qH,qI,qJ,qK,qO,qP,qR,qS,q0t,qu,qv,ev,qw,qy,qz,zA,zB,zC,zD,zE,zG,zI,zJ,zM,↓reduceIte,reduceCtorEq,Value.oneCell',Nat.reduceEqDiff,Nat.reduceAdd,Nat.reduceLT,zP,zQ,zR,zV,zW,zt,hP,hk,res41,kp41,eR,ecS,zJ9,mqS,noS,zD8,zS0,rqE,rq1,enC,w1])
     exact fin0 (zD8 wr size) 0 _ (by rw [e6,zO8,if_pos (by rw [hwm]; exact hwr),hwm]) rfl rfl
end Go.Proofs.YtcbmlanpianclaaGreatDoor
/- TextPieces: a request that is there is the same, whatever stands behind it. No program in sight. -/
namespace Go.Proofs.YtcbmlanpianclaaGreatDoor
set_option linter.unusedSimpArgs false
set_option linter.unusedVariables false
open Go.Lib
theorem lineV_pre {a r:List UInt8} (h:(zB1 a).2 ≠ 0):zB1 (a++r)=zB1 a∧(zB1 a).2≤a.length∧0 < (zB1 a).2:=by
 unfold zB1 at h ⊢
 by_cases hl:(a.takeWhile (· != 10)).length < a.length
 ·have he:(a++r).takeWhile (· != 10)=a.takeWhile (· != 10):=by
   have hd:a.takeWhile (· != 10)++a.dropWhile (· != 10)=a:=List.takeWhile_append_dropWhile
   cases hdw:a.dropWhile (· != 10) with
   | nil=>rw [hdw,List.append_nil] at hd; rw [hd] at hl; exact absurd hl (Nat.lt_irrefl _)
   | cons c t =>
    have hc:(c != 10)=false:=by
     have:=List.head?_dropWhile_not (· != 10) a
     rw [hdw] at this
     simpa using this
    rw [hdw] at hd
    rw [← hd,List.append_assoc,List.takeWhile_append_of_pos (fun x hx=>List.all_eq_true.1 List.all_takeWhile x hx),List.cons_append,List.takeWhile_cons,hc]
    simp only [Bool.false_eq_true,if_false,List.append_nil]
    rw [List.takeWhile_append_of_pos (fun x hx=>List.all_eq_true.1 List.all_takeWhile x hx),List.takeWhile_cons,hc]
    simp
  simp only [he]
  rw [if_pos hl,if_pos (by rw [List.length_append]; omega)]
  exact ⟨rfl,hl,Nat.succ_pos _⟩
 ·rw [if_neg hl] at h; exact absurd rfl h
theorem store_pre {name:List UInt8} {w:List (List UInt8)} {a r:List UInt8} {q:Rq} {u:Int} (h:zB4 name w a=.got q false u):zB4 name w (a++r)=.got q false u∧0≤u∧u≤(a.length:Int):=by
 unfold zB4 at h ⊢
 simp only at h ⊢
 split at h
 ·cases h
 rename_i hc
 rw [if_neg hc]
 split at h
 ·cases h
 rename_i n hn
 split at h
 ·cases h
 rename_i hd
 rw [if_neg hd]
 split at h
 ·rename_i hb
  rw [if_pos hb]
  simp only [Rd'.got.injEq,true_and] at h
  obtain ⟨rfl,_,rfl⟩:=h
  exact ⟨rfl,Int.le_refl _,by omega⟩
 rename_i hb
 rw [if_neg hb]
 split at h
 ·rename_i hm
  rw [if_pos hm]
  simp only [Rd'.got.injEq,true_and] at h
  obtain ⟨rfl,_,rfl⟩:=h
  exact ⟨rfl,Int.le_refl _,by omega⟩
 rename_i hm
 rw [if_neg hm]
 split at h
 ·cases h
 rename_i hs
 have hs':n+2≤a.length:=by omega
 have e1:(a++r).take (n+2)=a.take (n+2):=List.take_append_of_le_length hs'
 have e2:(a++r).take n=a.take n:=List.take_append_of_le_length (by omega)
 rw [if_neg (by rw [List.length_append]; omega),e1,e2]
 split at h
 ·rename_i he
  rw [if_pos he]
  simp only [Rd'.got.injEq,true_and] at h
  obtain ⟨rfl,rfl⟩:=h
  exact ⟨rfl,by omega,by omega⟩
 ·rename_i he
  rw [if_neg he]
  simp only [Rd'.got.injEq,true_and] at h
  obtain ⟨rfl,rfl⟩:=h
  exact ⟨rfl,by omega,by omega⟩
theorem get_used {name:List UInt8} {w:List (List UInt8)} {q:Rq} {u:Int} (h:zJ7 name w=.got q false u):u=0:=by
 unfold zJ7 at h
 simp only at h
 repeat' split at h
 all_goals first
  | cases h; done
  | (simp only [Rd'.got.injEq,true_and] at h; exact h.2.symm)
theorem plain_used {name:List UInt8} {w:List (List UInt8)} {q:Rq} {u:Int} (h:zA7 name w=.got q false u):u=0:=by
 unfold zA7 zI1 at h
 simp only at h
 repeat' split at h
 all_goals first
  | cases h; done
  | (simp only [Rd'.got.injEq,true_and] at h; exact h.2.symm)
theorem read_pre {name:List UInt8} {w:List (List UInt8)} {a r:List UInt8} {q:Rq} {u:Int} (h:zJ2 name w a=.got q false u):zJ2 name w (a++r)=.got q false u∧0≤u∧u≤(a.length:Int):=by
 unfold zJ2 at h ⊢
 split at h
 ·rename_i h1
  rw [if_pos h1]
  have:=get_used h
  subst this
  exact ⟨h,Int.le_refl _,by omega⟩
 ·rename_i h1
  rw [if_neg h1]
  split at h
  ·rename_i h2
   rw [if_pos h2]
   exact store_pre h
  ·rename_i h2
   rw [if_neg h2]
   have:=plain_used h
   subst this
   exact ⟨h,Int.le_refl _,by omega⟩
theorem read_fault {name:List UInt8} {w:List (List UInt8)} {a b:List UInt8} {f:List UInt8} (h:zJ2 name w a=.fault f):zJ2 name w b=.fault f:=by
 unfold zJ2 at h ⊢
 split at h
 ·rename_i h1; rw [if_pos h1]; exact h
 ·rename_i h1
  rw [if_neg h1]
  split at h
  ·rename_i h2
   rw [if_pos h2]
   unfold zB4 at h ⊢
   simp only at h ⊢
   split at h
   ·rename_i hc; rw [if_pos hc]; exact h
   rename_i hc
   rw [if_neg hc]
   split at h
   ·exact h
   split at h
   ·rename_i hd; rw [if_pos hd]; exact h
   repeat' split at h
   all_goals cases h
  ·rename_i h2; rw [if_neg h2]; exact h
theorem parse_pre {a r:List UInt8} (h:(zE6 a).1.kind ≠ 0):zE6 (a++r)=zE6 a∧0 < (zE6 a).2∧(zE6 a).2≤(a.length:Int):=by
 have htk:(a++r).take 2048=a.take 2048++r.take (2048 - a.length):=List.take_append
 by_cases hs:(zB1 (a.take 2048)).2=0
 ·have hl:¬ a.length < 2048:=fun hl=>h (by unfold zE6; simp only; rw [if_pos hs,if_pos hl]; rfl)
  have e:(a++r).take 2048=a.take 2048:=by rw [htk,show 2048 - a.length=0 by omega]; simp
  have e1:zE6 a=({ zD9 zL8 with close:=true },2048):=by unfold zE6; simp only; rw [if_pos hs,if_neg hl]
  have e2:zE6 (a++r)=({ zD9 zL8 with close:=true },2048):=by
   unfold zE6; simp only; rw [e,if_pos hs,if_neg (by rw [List.length_append]; omega)]
  rw [e1,e2]
  exact ⟨rfl,by decide,by show (2048:Int)≤_; omega⟩
 ·obtain ⟨p1,p2,p3⟩:=lineV_pre (r:=r.take (2048 - a.length)) hs
  rw [← htk] at p1
  have p2':(zB1 (a.take 2048)).2≤a.length:=Nat.le_trans p2 (by rw [List.length_take]; omega)
  have hdr:(a++r).drop (zB1 (a.take 2048)).2=a.drop (zB1 (a.take 2048)).2++r:=List.drop_append_of_le_length p2'
  have ea:zE6 a=lineR (zB1 (a.take 2048)).2 (a.drop (zB1 (a.take 2048)).2) (wordsF ((zB1 (a.take 2048)).1.length+1) (zB1 (a.take 2048)).1):=by
   unfold zE6; simp only; rw [if_neg hs]
  have eb:zE6 (a++r)=lineR (zB1 (a.take 2048)).2 (a.drop (zB1 (a.take 2048)).2++r) (wordsF ((zB1 (a.take 2048)).1.length+1) (zB1 (a.take 2048)).1):=by
   unfold zE6; simp only; rw [p1,if_neg hs,hdr]
  rw [ea] at h
  rw [ea,eb]
  generalize wordsF ((zB1 (a.take 2048)).1.length+1) (zB1 (a.take 2048)).1=ws at h ⊢
  cases ws with
  | nil=>exact ⟨rfl,by show (0:Int) < ((zB1 (a.take 2048)).2:Int); omega,by show ((zB1 (a.take 2048)).2:Int)≤_; omega⟩
  | cons name w =>
   simp only [lineR] at h ⊢
   have hlen:(a.drop (zB1 (a.take 2048)).2).length=a.length - (zB1 (a.take 2048)).2:=List.length_drop
   cases hr:zJ2 name w (a.drop (zB1 (a.take 2048)).2) with
   | fault f =>
    rw [read_fault (b:=a.drop (zB1 (a.take 2048)).2++r) hr]
    simp only [endR]
    exact ⟨trivial,by omega,by omega⟩
   | got q more u =>
    rw [hr] at h
    simp only [endR] at h
    cases more with
    | true=>exact absurd rfl h
    | false =>
     obtain ⟨k1,k2,k3⟩:=read_pre (r:=r) hr
     rw [k1]
     simp only [endR]
     exact ⟨trivial,by omega,by omega⟩
end Go.Proofs.YtcbmlanpianclaaGreatDoor
/- MetaPieces: a request that is there is the same, whatever stands behind it. No program in sight. -/
namespace Go.Proofs.YtcbmlanpianclaaGreatDoor
set_option linter.unusedSimpArgs false
set_option linter.unusedVariables false
open Go.Lib
theorem restM_pre {name word:List UInt8} {l:List (List UInt8)} {size:Nat} {a r:List UInt8} {q:Mq} {u:Int} (h:zO8 name word l size a=(q,u,false)):zO8 name word l size (a++r)=(q,u,false)∧0≤u∧u≤(a.length:Int):=by
 unfold zO8 at h ⊢
 by_cases h1:zU4 name word l size ≠ []
 ·rw [if_pos h1] at h ⊢
  simp only [Prod.mk.injEq,and_true] at h
  obtain ⟨rfl,rfl⟩:=h
  exact ⟨rfl,Int.le_refl _,by omega⟩
 rw [if_neg h1] at h ⊢
 by_cases hs:a.length < size
 ·rw [if_pos hs] at h; simp at h
 rw [if_neg hs] at h
 have hs':size≤a.length:=by omega
 have e1:(a++r).take size=a.take size:=List.take_append_of_le_length hs'
 have e2:(a++r).take (size - 2)=a.take (size - 2):=List.take_append_of_le_length (by omega)
 rw [if_neg (by rw [List.length_append]; omega),e1,e2]
 by_cases hc:0 < size∧(a.take size).drop (size - 2) ≠ [13,10]
 ·rw [if_pos hc] at h ⊢
  simp only [Prod.mk.injEq,and_true] at h
  obtain ⟨rfl,rfl⟩:=h
  exact ⟨rfl,by omega,by omega⟩
 ·rw [if_neg hc] at h ⊢
  simp only [Prod.mk.injEq,and_true] at h
  obtain ⟨rfl,rfl⟩:=h
  exact ⟨rfl,by omega,by omega⟩
theorem readM_pre {name:List UInt8} {w:List (List UInt8)} {a r:List UInt8} {q:Mq} {u:Int} (h:readM name w a=(q,u,false)):readM name w (a++r)=(q,u,false)∧0≤u∧u≤(a.length:Int):=by
 unfold readM at h ⊢
 have triv:∀ {x:Mq},(x,(0:Int),false)=(q,u,false)→(x,(0:Int),false)=(q,u,false)∧0≤u∧u≤(a.length:Int):=fun {x} h=>by
  simp only [Prod.mk.injEq,and_true] at h
  obtain ⟨rfl,rfl⟩:=h
  exact ⟨rfl,Int.le_refl _,by omega⟩
 cases w with
 | nil=>exact triv h
 | cons word l =>
  simp only at h ⊢
  by_cases hn:name=m_ms
  ·rw [if_pos hn] at h ⊢
   cases l with
   | nil=>exact triv h
   | cons z l' =>
    simp only at h ⊢
    split at h
    ·rename_i hz
     rw [if_pos hz]
     exact restM_pre h
    ·rename_i hz
     rw [if_neg hz]
     exact triv h
  ·rw [if_neg hn] at h ⊢
   exact restM_pre h
theorem mparse_pre {a r:List UInt8} (h:(zE9 a).1.kind ≠ 0):zE9 (a++r)=zE9 a∧0 < (zE9 a).2∧(zE9 a).2≤(a.length:Int):=by
 have htk:(a++r).take 2048=a.take 2048++r.take (2048 - a.length):=List.take_append
 by_cases hs:(zB1 (a.take 2048)).2=0
 ·have hl:¬ a.length < 2048:=fun hl=>h (by unfold zE9; simp only; rw [if_pos hs,if_pos hl]; rfl)
  have e:(a++r).take 2048=a.take 2048:=by rw [htk,show 2048 - a.length=0 by omega]; simp
  have e1:zE9 a=({ zD8 zL8 0 with close:=true },2048):=by unfold zE9; simp only; rw [if_pos hs,if_neg hl]
  have e2:zE9 (a++r)=({ zD8 zL8 0 with close:=true },2048):=by
   unfold zE9; simp only; rw [e,if_pos hs,if_neg (by rw [List.length_append]; omega)]
  rw [e1,e2]
  exact ⟨rfl,by decide,by show (2048:Int)≤_; omega⟩
 ·obtain ⟨p1,p2,p3⟩:=lineV_pre (r:=r.take (2048 - a.length)) hs
  rw [← htk] at p1
  have p2':(zB1 (a.take 2048)).2≤a.length:=Nat.le_trans p2 (by rw [List.length_take]; omega)
  have hdr:(a++r).drop (zB1 (a.take 2048)).2=a.drop (zB1 (a.take 2048)).2++r:=List.drop_append_of_le_length p2'
  have ea:zE9 a=zR6 (zB1 (a.take 2048)).2 (a.drop (zB1 (a.take 2048)).2) (wordsF ((zB1 (a.take 2048)).1.length+1) (zB1 (a.take 2048)).1):=by
   unfold zE9; simp only; rw [if_neg hs]
  have eb:zE9 (a++r)=zR6 (zB1 (a.take 2048)).2 (a.drop (zB1 (a.take 2048)).2++r) (wordsF ((zB1 (a.take 2048)).1.length+1) (zB1 (a.take 2048)).1):=by
   unfold zE9; simp only; rw [p1,if_neg hs,hdr]
  rw [ea] at h
  rw [ea,eb]
  generalize wordsF ((zB1 (a.take 2048)).1.length+1) (zB1 (a.take 2048)).1=ws at h ⊢
  have same:∀ x:Mq,(x,(((zB1 (a.take 2048)).2:Nat):Int))=(x,(((zB1 (a.take 2048)).2:Nat):Int))∧(0:Int) < ((zB1 (a.take 2048)).2:Int)∧((zB1 (a.take 2048)).2:Int)≤(a.length:Int):=fun x=>⟨rfl,by omega,by omega⟩
  cases ws with
  | nil=>exact same _
  | cons name w =>
   simp only [zR6] at h ⊢
   by_cases hk:(zF0 name).2 ≠ []
   ·rw [if_pos hk] at h
    rw [if_pos hk,if_pos hk]
    have hlen:(a.drop (zB1 (a.take 2048)).2).length=a.length - (zB1 (a.take 2048)).2:=List.length_drop
    rcases hr:readM name w (a.drop (zB1 (a.take 2048)).2) with ⟨q,u,more⟩
    rw [hr] at h
    cases more with
    | true=>simp only [if_true] at h; exact absurd rfl h
    | false =>
     obtain ⟨k1,k2,k3⟩:=readM_pre (r:=r) hr
     rw [k1]
     simp only [Bool.false_eq_true,if_false]
     exact ⟨trivial,by omega,by omega⟩
   ·simp only [if_neg hk]
    split
    ·exact ⟨trivial,by show (0:Int) < ((zB1 (a.take 2048)).2:Int); omega,by show ((zB1 (a.take 2048)).2:Int)≤_; omega⟩
    ·exact ⟨trivial,by show (0:Int) < ((zB1 (a.take 2048)).2:Int); omega,by show ((zB1 (a.take 2048)).2:Int)≤_; omega⟩
end Go.Proofs.YtcbmlanpianclaaGreatDoor
/- meta.Parse, walked. Printed by gen_eparse.py. -/
namespace Go.Proofs.YtcbmlanpianclaaGreatDoor
set_option linter.unusedSimpArgs false
set_option linter.unusedVariables false
set_option maxHeartbeats 8000000
open Go.RowKit
set_option maxRecDepth 100000
def wdE (ws:List (List UInt8)):EN:=rwE 9 1 ws.length (ws.map SC.s)
theorem split_h {C:Cx} {nE N:Nat} {mk:Nat→Prop} {en en':List EN} (s:List UInt8) (hs:s.length≤100000) (hP:C.P=Tryz.prog) (hE:∀ w,Upd C.S C.w0 w→EnvT w) (hmk:∀ q,mk q ↔ q=N) (hn0:C.n0≤N) (hN:zD en' N=some (wdE (wordsF (s.length+1) s))) (hq:∀ q,q ≠ N→zD en' q=zD en q) :
  zJ0 C nE mk en en' 39 [.c (.s s)] (.c (.rw N (wordsF (s.length+1) s).length)):=by
 have hcw:∀ (ρ:Nat→RE) (l:List (List UInt8)),zB8 ρ (l.map SC.s)=l.map encW:=fun ρ l=>by simp [zB8,SC.den,encW,Function.comp_def]
 refine zZ2 (vals:=(wordsF (s.length+1) s).map encW) (fun args w=>by rw [hP]; exact Tryz.call39 args w) hmk hn0 hN hq (by show ¬ (9:Nat)=zC9; decide) (fun ρ=>hcw ρ _) ?_ (fun pr h=>h) ?_
 ·intro pr x hx
  simp only [wdE,rwE,List.mem_map] at hx
  obtain ⟨y,_,rfl⟩:=hx
  trivial
 ·intro ρ pr w hw _ _
  rw [hP]
  obtain ⟨m,hm⟩:=(hE w hw.up).max
  refine (split_any s hs m w hm).mono ?_
  rintro z w' ⟨v,rfl,⟨o1,o2⟩,hb⟩
  generalize wordsF (s.length+1) s=ws at o1 o2 ⊢
  rcases o2 with ⟨rfl,h0⟩ | ⟨g,cap,cur,rfl,h1,h2,h3,h4,h5,h6⟩
  ·obtain rfl:=List.eq_nil_of_length_eq_zero h0
   refine ⟨⟨w.heap.size,[],[],0,some none⟩,⟨rfl,⟨rfl,.inr ⟨rfl,rfl,rfl⟩⟩,(fun h=>by cases h),(fun _=>rfl),(fun _=>Nat.le_refl _)⟩,fun ρ' _ hr=>?_,hb⟩
   simp only [SV.den,SC.den,hr]; rfl
  ·rw [Nat.mul_one] at h5 h6
   refine ⟨⟨g,[],cur.toList.drop ws.length,cap,none⟩,⟨rfl,⟨by simp [],.inl ⟨rfl,rfl,?_,h3,h4⟩⟩,fun _=>⟨h1,?_⟩,fun h=>absurd rfl h,fun h=>absurd rfl h⟩,fun ρ' _ hr=>?_,hb⟩
   ·simp [h5]; omega
   ·rw [h2,List.nil_append,← h6,List.take_append_drop]; rfl
   ·simp only [SV.den,SC.den,hr]; rfl
theorem zU8:∀ (k:Nat) (l:List UInt8),∀ x∈wordsF k l,x.length≤l.length:=by
 intro k
 induction k with
 | zero=>intro l x hx; cases hx
 | succ k ih =>
  intro l x hx
  rw [zI7] at hx
  split at hx
  ·cases hx
  ·have h1:=(List.dropWhile_sublist (p:=(· == (32:UInt8))) (l:=l)).length_le
   rcases List.mem_cons.1 hx with rfl | hx
   ·exact Nat.le_trans (List.takeWhile_sublist _).length_le h1
   ·have h2:=(List.dropWhile_sublist (p:=(· != (32:UInt8))) (l:=l.dropWhile (· == 32))).length_le
    have:=ih _ x hx
    rw [List.length_drop] at this
    omega
theorem zZ4 (p:UInt8→Bool):∀ (l:List UInt8) (c:UInt8) (t:List UInt8),l.dropWhile p=c :: t→p c=false
 | [],c,t,h=>by cases h
 | x :: l,c,t,h=>by
  rw [List.dropWhile_cons] at h
  split at h
  ·exact zZ4 p l c t h
  ·rename_i hx
   injection h with h1 h2
   rw [← h1]; simpa using hx
theorem wordsF_ne:∀ (k:Nat) (l:List UInt8),∀ x∈wordsF k l,x ≠ []:=by
 intro k
 induction k with
 | zero=>intro l x hx; cases hx
 | succ k ih =>
  intro l x hx
  rw [zI7] at hx
  split at hx
  ·cases hx
  ·rename_i hne
   rcases List.mem_cons.1 hx with rfl | hx
   ·cases hd:l.dropWhile (· == (32:UInt8)) with
    | nil=>exact absurd hd hne
    | cons c t =>
     have hc:=zZ4 _ l c t hd
     have:(c != (32:UInt8))=true:=by simpa [bne] using hc
     rw [List.takeWhile_cons,this]; simp
   ·exact ih _ x hx
theorem read_h {C:Cx} {nE Nw N:Nat} {mk:Nat→Prop} {en en':List EN} {name:List UInt8} {rest:List (List UInt8)} {behind:List UInt8} {x:Mq × Int × Bool} {r0:Mq} (hP:C.P=Tryz.prog) (hE:EnvC C) (hw0:zD en Nw=some (wdE (name :: rest))) (hNw:Nw < nE) (hl:∀ x∈name :: rest,x ≠ []∧x.length≤5000) (hlen:rest.length+1≤5000) (hb:behind.length≤9223372036854775807)
  (hx:readM name rest behind=x) (hr0:rdQ name rest x=r0) (hmk:∀ q,mk q ↔ q=N∨q=N+1) (hn0:C.n0≤N) (hN:zD en' N=some (cmE r0)) (hM:zD en' (N+1)=some (flE r0)) (hq:∀ q,q ≠ N→q ≠ N+1→zD en' q=zD en q) :
  zJ0 C nE mk en en' 41 [.c (.rw Nw (rest.length+1)),.c (.s behind)] (.t [.g (mqZ r0 N),.c (.i .i64 x.2.1),.c (.b x.2.2)]):=by
 refine zX6 (N:=N) (M:=N+1) (e1:=cmE r0) (e2:=flE r0) (vals1:=ecV r0.cmds) (vals2:=r0.flags.map encW) (fun args w=>by rw [hP]; exact Tryz.call41 args w) hmk (by omega) hn0 (by omega) hN hM hq (by show ¬ (52:Nat)=zC9; decide) (by show ¬ (9:Nat)=zC9; decide) (fun ρ=>zE7 ρ _) (fun ρ=>zF4 ρ _) (fun pr=>ec_wf pr _) (fun pr=>st_wf pr _) (fun pr h1 h2=>?_) ?_
 ·intro y hy
  simp only [List.mem_cons,List.not_mem_nil,or_false] at hy
  rcases hy with rfl | rfl | rfl
  ·exact mqR_wf h1 h2
  ·trivial
  ·trivial
 ·intro ρ pr w hw hpr _
  have lN:=hpr Nw hNw
  have hne:(name :: rest).map SC.s ≠ []:=by simp
  have hnl:(ρ Nw).nl=none:=Decidable.byContradiction fun hd=>hne ((hw.hp Nw _ _ _ lN hw0).non hd)
  obtain ⟨_,_,hO⟩:=hw.ho Nw _ _ _ lN hw0
  obtain ⟨_,k1,_,k3,k4⟩:=hO.resolve_right (fun hd=>by rw [hnl] at hd; exact absurd hd.1 (by simp))
  have hwd:=(hw.hp Nw _ _ _ lN hw0).heap ⟨(by show ¬ (9:Nat)=zC9; decide),hnl⟩
  rw [k1,List.nil_append] at hwd
  have hraw:RawT w (some ⟨(ρ Nw).blk,0,none⟩) (name :: rest):=by
   intro k y hy
   refine ⟨_,0,rfl,(Array.getElem?_eq_some_iff.1 hwd).1,?_⟩
   rw [Nat.zero_add,Go.cell_of_row w _ k _ _ (0,0) hwd]
   have hi:=(List.getElem?_eq_some_iff.1 hy).1
   simp only [List.getElem?_toArray]
   rw [List.getElem?_append_left (by simpa [zB8] using hi)]
   simp only [zB8,List.getElem?_map,hy]
   rfl
  have hv:(SC.rw Nw (rest.length+1)).den ρ=.slice (some ⟨(ρ Nw).blk,0,none⟩) (rest.length+1) (ρ Nw).cap:=zI3 hnl _
  have hargs:(List.map (SV.den ρ) [.c (.rw Nw (rest.length+1)),.c (.s behind)]).toArray=#[.slice (some ⟨(ρ Nw).blk,0,none⟩) (rest.length+1) (ρ Nw).cap,.string ⟨behind.toArray⟩]:=by
   simp only [List.map_cons,List.map_nil,SV.den,hv]; rfl
  rw [hargs,hP]
  refine (read_w (hE w hw.up) hraw rfl k3 k4 hl hlen behind hb).mono ?_
  rintro z w' ⟨hbl,v,rfl,r1,r2,rfl,m1,m2,m3⟩
  rw [hx] at *
  rw [hr0] at *
  refine ⟨r1,r2,m1.made (fun ρ=>zE7 ρ _),m2.made (fun ρ=>zF4 ρ _),m3,fun ρ' _ e1 e2=>?_,hbl⟩
  rw [← e1,← e2]; rfl
def eP:Ctr:=fun f en xs=>match f with
 | 21=>(match xs with
  | [.c (.s l)]=>some (l.length < 4294967281,.t [.c (.s (zB1 l).1),.c (.i .i64 (((zB1 l).2:Nat):Int))])
  | _=>none)
 | _=>eR f en xs
theorem eP_ok {C:Cx} (hP:C.P=Tryz.prog) (hE:∀ w,Upd C.S C.w0 w→EnvT w):zC1 C eP:=by
 intro f en xs p v h hp ρ w hup hHp hHo hinj hwf
 unfold eP at h
 split at h
 ·rw [hP]
  refine ⟨fun args w=>Tryz.call21 args w,?_⟩
  split at h <;> simp only [Option.some.injEq,Prod.mk.injEq,reduceCtorEq] at h
  obtain ⟨rfl,rfl⟩:=h
  exact ⟨by intro x hx; simp at hx; rcases hx with rfl | rfl <;> trivial,line_w _ hp w (hE w hup)⟩
 ·exact eR_ok hP (fun w hu=>(hE w hu).env) f en xs p v h hp ρ w hup hHp hHo hinj hwf
def MPost (w:World) (x:Mq × Int) (e:Ending) (w':World):Prop:=Below w.heap.size w w'∧∃ v,e=.returned (.tuple #[v,.int .i64 x.2])∧MqV w.heap.size w' v x.1
theorem mparse_w (b:List UInt8) (hb:b.length≤9223372036854775807) (w:World) (hE0:EnvT w):Calls Tryz.prog 25 #[.string ⟨b.toArray⟩] w (MPost w (zE9 b)):=by
 refine zA1 Tryz.func25 rfl kp25 (S:=Non) (ρ:=fun _=>zG7 0) (en:=[]) [.c (.s b)] Tryz.ntmps25 (At.nil _ _ _) (by simp [SV.wf,SC.wf]) (by simp) ?_
 intro C hC hP hk
 have hE:∀ w',Upd C.S C.w0 w'→EnvT w':=fun w' hu=>by rw [hC] at hu; exact hE0.below hu.to_below
 have hEC:EnvC C:=fun w' hu=>(hE w' hu).env
 have hctr:=eP_ok hP hE
 have hS:C.S=Non:=by rw [hC]; rfl
 have hw0:C.w0=w:=by rw [hC]; rfl
 have hn0:C.n0=0:=by rw [hC]; rfl
 obtain ⟨k,hk2⟩:∃ k:Int,(if (2048:Int) < (b.length:Int) then 2048 else (b.length:Int))=k:=⟨_,rfl⟩
 have hkk:k=((b.take 2048).length:Int):=by rw [← hk2,List.length_take]; split <;> omega
 have hkt:b.take k.toNat=b.take 2048:=by
  rw [hkk,Int.toNat_natCast,List.length_take,List.take_eq_take_iff]; omega
 have k0:0≤k:=by omega
 have k1:k≤(b.length:Int):=by rw [hkk,List.length_take]; omega
 have kl:(b.take 2048).length < 4294967281:=by rw [List.length_take]; omega
 obtain ⟨s,n,hsn⟩:∃ s n,zB1 (b.take 2048)=(s,n):=⟨_,_,rfl⟩
 (refine zA0 hctr (rs:=res25) true 300 _ _ _ ?_; simp (maxSteps:=1000000) only [VT,qH,qI,qK,qN,qO,qR,qS,qZ,qe,qh,ql,qn,ev,qw,qy,qz,zD,zF,zG,zI,zJ,TE.sv,zK,zM,↓reduceIte,reduceCtorEq,Nat.reduceEqDiff,Nat.reduceLT,zP,zQ,zR,zT,hP,hk,res25,kp25,eP,Int.toNat_zero,Int.le_refl,List.drop_zero,hk2,hkt,k0,k1,kl,hsn])
 have hfin:∀ (r:Mq) (m:Int) (en:List EN),zE9 b=(r,m)→r.cmds=[]→r.flags=[]→Fin C res25 (.t [.g (mqS noS noS r),.c (.i .i64 m)]) en:=fun r m en h1 h2 h3=>by
  refine zC3 (v:=.t [.g (mqS noS noS r),.c (.i .i64 m)]) hC hres25 fun ρ w' hw _ _=>?_
  have hup:=hw.up
  rw [hC] at hup
  rw [h1]
  exact ⟨hup.to_below,_,rfl,MqV.none h2 h3⟩
 by_cases hn:n=0
 ·subst hn
  have c1:(((0:Nat):Int) == 0)=true:=rfl
  by_cases hs:b.length < 2048
  ·have c2:decide ((b.length:Int) < 2048)=true:=decide_eq_true (by omega)
   simp (maxSteps:=1000000) only [VT,jf,jZ,qE,qF,qG,qH,qI,qJ,qK,qN,qO,qP,qR,qS,qe,qf,qg,qp,q0t,qu,qv,ev,qy,qz,zA,zB,zC,zD,zE,zG,zI,zJ,zM,↓reduceIte,reduceCtorEq,Value.oneCell',Nat.reduceEqDiff,Nat.reduceAdd,Nat.reduceLT,zP,zQ,zR,zV,zt,hP,hk,kp25,c1,c2]
   exact hfin Mq.zero 0 _ (by unfold zE9; simp only [hsn]; rw [if_pos trivial,if_pos hs]) rfl rfl
  ·have c2:decide ((b.length:Int) < 2048)=false:=decide_eq_false (by omega)
   simp (maxSteps:=1000000) only [VT,jf,jg,jZ,qE,qF,qG,qH,qI,qJ,qK,qN,qO,qP,qR,qS,qV,qe,qp,q0t,qu,qv,ev,qw,qy,qz,zA,zB,zC,zD,zE,zF,zG,zI,zJ,zM,↓reduceIte,reduceCtorEq,Value.oneCell',Nat.reduceEqDiff,Nat.reduceAdd,Nat.reduceLT,zP,zQ,zR,zV,zW,zt,hP,hk,kp25,eP,eR,zJ9,mqS,noS,zD8,c1,c2]
   exact hfin { zD8 zL8 0 with close:=true } 2048 _ (by unfold zE9; simp only [hsn]; rw [if_pos trivial,if_neg hs]) rfl rfl
 ·have c1:((n:Int) == 0)=false:=by simpa using hn
  simp (maxSteps:=1000000) only [VT,jg,aA,qH,qI,qK,qO,qR,qS,qp,ev,qw,qy,qz,zD,zI,zJ,↓reduceIte,reduceCtorEq,Nat.reduceEqDiff,Nat.reduceLT,zP,zQ,zR,zW,hP,hk,kp25,eP,eR,tC0,c1]
  have hsl:s.length≤2048∧n≤(b.take 2048).length:=by
   have h1:(zB1 (b.take 2048)).1=s:=by rw [hsn]
   have h2:(zB1 (b.take 2048)).2=n:=by rw [hsn]
   have ht:=(List.takeWhile_sublist (p:=(· != (10:UInt8))) (l:=b.take 2048)).length_le
   have hl:(b.take 2048).length≤2048:=by rw [List.length_take]; omega
   unfold zB1 at h1 h2
   simp only at h1 h2
   split at h1
   ·rename_i hlt
    rw [if_pos hlt] at h2
    refine ⟨?_,by simp only at h2; omega⟩
    simp only at h1
    split at h1
    ·rw [← h1,List.length_dropLast]; omega
    ·rw [← h1]; omega
   ·rename_i hlt
    rw [if_neg hlt] at h2
    exact absurd h2.symm hn
  obtain ⟨hs1,hs2⟩:=hsl
  have hnb:(n:Int)≤(b.length:Int):=by rw [List.length_take] at hs2; omega
  have hn0':(0:Int)≤(n:Int):=by omega
  obtain ⟨ws,hws⟩:∃ ws,wordsF (s.length+1) s=ws:=⟨_,rfl⟩
  have htp:zE9 b=zR6 n (b.drop n) ws:=by
   unfold zE9
   simp only [hsn]
   rw [if_neg hn,hws]
  refine zA6 rfl (.c (.rw 1 ws.length)) [⟨(35,0,whole),mqS noS noS Mq.zero,true⟩,wdE ws] (by
   rw [← hws]
   exact split_h s (by omega) hP hE (zR1 rfl) (by rw [hn0]; exact Nat.zero_le _) rfl (fun q hq=>by match q with | 0=>rfl | 1=>exact absurd rfl hq | _+2=>rfl)) (by simp [zG]) (by simp) ?_
  cases ws with
  | nil =>
   have c2:decide ((0:Int) < ((0:Nat):Int))=false:=rfl
   (refine zA0 hctr (rs:=res25) true 300 _ _ _ ?_; simp (maxSteps:=1000000) only [VT,jg,qE,qF,qG,qH,qI,qJ,qK,qN,qO,qP,qR,qS,qe,q0t,qu,qv,ev,qw,qy,qz,zA,zB,zC,zD,zE,zG,zI,zJ,zM,↓reduceIte,reduceCtorEq,Value.oneCell',Nat.reduceEqDiff,Nat.reduceAdd,Nat.reduceLT,zP,zQ,zR,zW,za,zl,zt,rwE,jN,hP,hk,res25,kp25,eP,eR,zJ9,mqS,noS,zD8,c2,wdE,rwE,Mq.zero])
   exact hfin (zD8 zA5 0) n _ (by rw [htp]; rfl) rfl rfl
  | cons name rest =>
   obtain ⟨m,hm⟩:∃ m,rest.length+1=m:=⟨_,rfl⟩
   have c2:decide ((0:Int) < (m:Int))=true:=decide_eq_true (by omega)
   have c3:(0:Int) < (m:Int):=by omega
   obtain ⟨kc,hkc⟩:∃ kc,(zF0 name).1=kc:=⟨_,rfl⟩
   obtain ⟨al,hal⟩:∃ al,(zF0 name).2=al:=⟨_,rfl⟩
   by_cases hk0:al=[]
   ·have c4:(([]:List UInt8) == [])=true:=rfl
    subst hk0
    by_cases hmn:name=m_mn
    ·have c5:(name == [109,110])=true:=by rw [hmn]; rfl
     cases rest with
     | nil =>
      obtain rfl:m=1:=hm.symm
      have c6:(((1:Nat):Int) == 1)=true:=rfl
      (refine zA0 hctr (rs:=res25) true 300 _ _ _ ?_; simp (maxSteps:=1000000) only [VT,jf,jg,jZ,qE,qF,qG,qH,qI,qJ,qK,qN,qO,qP,qR,qS,qX,qe,qf,qg,qh,qp,q0t,qu,qv,ev,qw,qy,qz,zA,zB,zC,zD,zE,zF,zG,zI,zJ,TE.sv,zM,↓reduceIte,reduceCtorEq,Value.oneCell',Nat.reduceEqDiff,Nat.reduceAdd,Nat.reduceLT,zP,zQ,zR,zT,zV,zW,zZ,za,zk,zl,zo,zt,rwE,jN,hP,hk,res25,kp25,eP,eR,ecS,zU9,mqS,noS,Int.toNat_zero,Nat.mul_one,Int.le_refl,c3,hkc,hal,c4,c5,c6,wdE,rwE,Mq.zero])
      exact hfin ⟨7,[],false,[],0,false,m_mn,[],[]⟩ n _ (by rw [htp,zR6,hal,if_neg (by simp),if_pos ⟨hmn,rfl⟩]) rfl rfl
     | cons y l =>
      have hm:l.length+1+1=m:=hm
      have c6:((m:Int) == 1)=false:=by
       have:m ≠ 1:=by omega
       have:¬ (m:Int)=1:=by omega
       simpa using this
      (refine zA0 hctr (rs:=res25) true 300 _ _ _ ?_; simp (maxSteps:=1000000) only [VT,jf,jg,jZ,qE,qF,qG,qH,qI,qJ,qK,qN,qO,qP,qR,qS,qX,qe,qh,qp,q0t,qu,qv,ev,qw,qy,qz,zA,zB,zC,zD,zE,zF,zG,zI,zJ,TE.sv,zM,↓reduceIte,reduceCtorEq,Value.oneCell',Nat.reduceEqDiff,Nat.reduceAdd,Nat.reduceLT,zP,zQ,zR,zT,zV,zW,zZ,zk,zo,zt,rwE,jN,hP,hk,res25,kp25,eP,eR,ecS,zJ9,zU9,mqS,noS,zD8,Int.toNat_zero,Nat.mul_one,Int.le_refl,c3,hkc,hal,c4,c5,c6,wdE,rwE,Mq.zero,hm])
      exact hfin (zD8 zA5 0) n _ (by rw [htp,zR6,hal,if_neg (by simp),if_neg (by simp)]) rfl rfl
    ·have c5:(name == [109,110])=false:=by simpa [m_mn] using hmn
     (refine zA0 hctr (rs:=res25) true 300 _ _ _ ?_; simp (maxSteps:=1000000) only [VT,jf,jg,aA,qE,qF,qG,qH,qI,qJ,qK,qN,qO,qP,qR,qS,qX,qe,qh,qp,q0t,qu,qv,ev,qw,qy,qz,zA,zB,zC,zD,zE,zF,zG,zI,zJ,TE.sv,zM,↓reduceIte,reduceCtorEq,Value.oneCell',Nat.reduceEqDiff,Nat.reduceAdd,Nat.reduceLT,zP,zQ,zR,zT,zV,zW,zZ,zk,zo,zt,rwE,jN,hP,hk,res25,kp25,eP,eR,ecS,zJ9,zU9,mqS,noS,zD8,Int.toNat_zero,Nat.mul_one,Int.le_refl,c3,hkc,hal,c4,c5,wdE,rwE,Mq.zero,hm])
     exact hfin (zD8 zA5 0) n _ (by rw [htp,zR6,hal,if_neg (by simp),if_neg (fun h=>hmn h.1)]) rfl rfl
   ·have c4:(al == [])=false:=by simpa using hk0
    (refine zA0 hctr (rs:=res25) true 300 _ _ _ ?_; simp (maxSteps:=1000000) only [VT,jf,qH,qI,qJ,qK,qN,qO,qP,qR,qS,qX,qZ,qe,qh,ql,qm,q0t,qu,qv,ev,qw,qy,qz,zC,zD,zE,zF,zG,zI,zJ,TE.sv,zM,↓reduceIte,reduceCtorEq,Nat.reduceEqDiff,Nat.reduceAdd,Nat.reduceLT,zP,zQ,zR,zT,zV,zW,zZ,zh,zk,zo,zt,rwE,jN,hP,hk,res25,kp25,eP,eR,tC0,ecS,zU9,mqS,noS,Int.toNat_zero,Nat.mul_one,Int.le_refl,c3,hkc,hal,c4,wdE,rwE,Mq.zero,hm,hnb,hn0',List.take_length])
    obtain ⟨xq,used,more,hrm⟩:∃ xq used more,readM name rest (b.drop n)=(xq,used,more):=⟨_,_,_,rfl⟩
    obtain ⟨r0,hr0⟩:∃ r0,rdQ name rest (xq,used,more)=r0:=⟨_,rfl⟩
    subst hm
    refine zA6 rfl (.t [.g (mqZ r0 3),.c (.i .i64 used),.c (.b more)]) [⟨(35,0,whole),mqS noS noS Mq.zero,true⟩,wdE (name :: rest),enC kc true,cmE r0,flE r0] (read_h (C:=C) (Nw:=1) (N:=3) (x:=(xq,used,more)) hP hEC rfl (by simp [zG]) (fun x hx=>⟨wordsF_ne _ _ x (by rw [hws]; exact hx),by have:=zU8 _ _ x (by rw [hws]; exact hx); omega⟩) (by have:=zP7 (s.length+1) s; rw [hws] at this; simp at this; omega) (by rw [List.length_drop]; omega) hrm hr0 (fun q=>by simp only [zG]; omega) (by rw [hn0]; exact Nat.zero_le _) rfl rfl (fun q h1 h2=>by match q with | 0=>rfl | 1=>rfl | 2=>rfl | 3=>exact absurd rfl h1 | 4=>exact absurd rfl h2 | _+5=>rfl)) (by simp [zG]) (by simp) ?_
    cases more with
    | true =>
     (refine zA0 hctr (rs:=res25) true 300 _ _ _ ?_; simp (maxSteps:=1000000) only [VT,jf,qE,qF,qG,qH,qI,qJ,qK,qO,qP,qf,qg,qh,q0t,qu,qv,ev,qy,qz,zA,zB,zC,zD,zE,zF,zG,zI,zJ,TE.sv,zM,↓reduceIte,reduceCtorEq,Value.oneCell',Nat.reduceEqDiff,Nat.reduceAdd,Nat.reduceLT,zP,zQ,zR,zV,zZ,zk,zt,rwE,jN,hP,hk,res25,kp25,ecS,mqS,noS,mqZ,Mq.zero,cmE,flE,rwE,wdE,enC])
     exact hfin Mq.zero 0 _ (by rw [htp,zR6,hal,if_pos hk0,hrm]; rfl) rfl rfl
    | false =>
     obtain ⟨_,u0,u1⟩:=readM_pre (r:=[]) hrm
     have ww:IntKind.i64.wrap ((n:Int)+used)=(n:Int)+used:=IntWalk.i64_in _ (by rw [List.length_drop] at u1; omega)
     (refine zA0 hctr (rs:=res25) true 300 _ _ _ ?_; simp (maxSteps:=1000000) only [VT,jg,qE,qF,qG,qH,qI,qJ,qK,qO,qP,qR,qS,qh,q0t,qu,qv,ev,qy,zA,zB,zC,zD,zE,zF,zG,zI,zJ,TE.sv,zM,↓reduceIte,reduceCtorEq,Nat.reduceEqDiff,Nat.reduceAdd,Nat.reduceLT,zP,zQ,zR,zW,zZ,zk,zt,rwE,jN,hP,hk,res25,kp25,ecS,mqS,noS,mqZ,Mq.zero,cmE,flE,rwE,wdE,enC,ww])
     have hr0':xq=r0:=hr0
     subst hr0'
     refine zC3 (v:=.t [.g (mqZ xq 3),.c (.i .i64 ((n:Int)+used))]) hC hres25 fun ρ w' hw _ _=>?_
     have hup:=hw.up
     rw [hC] at hup
     have k1:=RowOk.of (N:=3) (n:=xq.cmds.length) (z:=16) (e:=52) (cells:=zC2 ecS xq.cmds) hw hS rfl (by decide)
     have k2:=RowOk.of (N:=4) (n:=xq.flags.length) (z:=1) (e:=9) (cells:=xq.flags.map SC.s) hw hS rfl (by decide)
     rw [hw0] at k1 k2
     rw [zE7] at k1
     rw [zF4] at k2
     rw [htp,zR6,hal,if_pos hk0,hrm]
     refine ⟨hup.to_below,_,rfl,⟨ρ 3,ρ 4,rfl,k1,k2,fun h3 h4 he=>?_⟩⟩
     have:=hw.inj 3 4 (by simp) (by simp) ((zA4 rfl).2 ⟨by show ¬ ((52:Nat)=zC9); decide,h3⟩) ((zA4 rfl).2 ⟨by show ¬ ((9:Nat)=zC9); decide,h4⟩) he
     cases this
end Go.Proofs.YtcbmlanpianclaaGreatDoor
/- The document's Split, walked. Printed by gen_edoc8.py. -/
namespace Go.Proofs.YtcbmlanpianclaaGreatDoor
set_option linter.unusedSimpArgs false
set_option linter.unusedVariables false
set_option maxHeartbeats 8000000
open Go.RowKit
set_option maxRecDepth 100000
def zL2:List UInt8→List UInt8→List (List UInt8)→List (List UInt8)
 | [],cur,out=>if cur=[] then out else out++[cur]
 | c :: l,cur,out=>if c=32 then zL2 l [] (if cur=[] then out else out++[cur]) else zL2 l (cur++[c]) out
def slDs (s:List UInt8) (i fr n:Nat):List (Nat × SV):=[(5,.c (.i .i64 (i:Int))),(4,.c (.i .i64 (fr:Int))),(3,.c (.rw 0 n)),(0,.c (.s s))]
theorem word_app {D:Cx} {nt:Nat} {sl:List (Nat × SV)} {k:List KI} {dst:Option Nat} {ty:TypeId} {pos:String} {af:Array Edge} {all r:List Oper} {x y:Operand} {l:List (List UInt8)} {u:List UInt8} (hP:D.P=Tryz.prog) (hn0:D.n0=0) (hl:l.length≤1000000000)
  (hx:ev sl x=some (.c (.rw 0 l.length))) (hy:ev sl y=some (.c (.sl 1 0 1 1))) (hd:∀ d,dst=some d→d < nt)
  (hK:∀ E,Run D (.ops all r :: k) nt (jN dst (.c (.rw 2 (l.length+1))) sl) [E,⟨(9,0,whole),[.s u],true⟩,wdE (l++[u])]) :
  Run D (.ops all (⟨dst,.call ⟨.builtin .append,#[x,y],#[33,33]⟩,ty,pos,af,none⟩ :: r) :: k) nt sl [wdE l,⟨(9,0,whole),[.s u],true⟩]:=by
 obtain ⟨i0,hi',hz0,hz1,hz2⟩:=info_parts infoStr
 refine zH9 (X:=.rw 0 l.length) (Y:=.sl 1 0 1 1) (o:=some 0) (n:=l.length) (m:=1) (z:=1) (bts:=16) (cells:=l.map SC.s) (news:=[.s u]) (e:=9) (by rw [hP]; exact Tryz.underlying33) (by rw [hP]; exact hi') hz0 hz1 hz2 rfl Nat.zero_lt_one (by show ¬ ((9:Nat)=zC9); decide) (.some rfl) hx hy (zU5 (c:=1) (o:=0) (L:=1) rfl rfl) rfl rfl (fun pr y hy=>by simp only [List.mem_singleton] at hy; subst hy; trivial) (by omega) (by omega) (by rw [hn0]; exact Nat.zero_le _) rfl hd ?_
 have hr:rwE 9 1 (l.length+1) (l.map SC.s++[.s u])=wdE (l++[u]):=by simp [wdE]
 rw [hr]
 exact hK _
theorem dsplit_w (s:List UInt8) (hs:s.length≤500000000) (w:World):Calls Tryz.prog 28 #[.string ⟨s.toArray⟩] w fun e w'=>∃ r,RowOk w.heap.size w' r 9 1 (zL2 s [] []).length ((zL2 s [] []).map encW)∧e=.returned (zL3 r (zL2 s [] []).length)∧Below w.heap.size w w':=by
 refine zA1 Tryz.func28 rfl kp28 (S:=Non) (ρ:=fun _=>zG7 0) (en:=[]) [.c (.s s)] Tryz.ntmps28 (At.nil _ _ _) (by simp [SV.wf,SC.wf]) (by simp) ?_
 intro C hC hP hk
 have hctr:=zR4 hP
 have hn0:C.n0=0:=by rw [hC]; rfl
 have fin:∀ W,zL2 s [] []=W→Fin C res28 (.c (.rw 0 W.length)) [wdE W]:=fun W hW=>by
  subst hW
  refine zC3 (v:=.c (.rw 0 (zL2 s [] []).length)) hC hres28 fun ρ w' hw _ _=>?_
  have h1:=RowOk.of (N:=0) (n:=(zL2 s [] []).length) (z:=1) (e:=9) (cells:=(zL2 s [] []).map SC.s) hw (by rw [hC]; rfl) rfl (by decide)
  have hup:=hw.up
  rw [hC] at hup h1
  have hcw:zB8 ρ ((zL2 s [] []).map SC.s)=(zL2 s [] []).map encW:=by simp [zB8,SC.den,encW,Function.comp_def]
  rw [hcw] at h1
  exact ⟨ρ 0,h1,rfl,hup.to_below⟩
 (refine zA0 hctr (rs:=res28) true 300 _ _ _ ?_; simp (maxSteps:=1000000) only [VT,qH,qI,qK,qO,ev,qz,zI,zJ,zK,↓reduceIte,reduceCtorEq,Nat.reduceEqDiff,Nat.reduceLT,zP,zR,hk,kp28])
 refine zG2 true (en':=[]) (sl':=slDs s 0 0 0) (9,0,rowP 1 0 0) rfl (fun _=>⟨rfl,.inr ⟨rfl,rfl,rfl⟩⟩) (fun _=>by show ¬ ((9:Nat)=zC9); decide) trivial ?_ ?_
 ·refine ⟨⟨⟨_,rfl,fun ρ h=>rfl⟩,?_⟩,⟨⟨_,rfl,fun ρ h=>rfl⟩,?_⟩,⟨⟨_,rfl,fun ρ h=>?_⟩,?_⟩,⟨⟨_,rfl,fun ρ h=>rfl⟩,?_⟩,trivial⟩
  rotate_left 2
  ·have h:(ρ 0).nl=some none:=h
   simp only [SV.den,SC.den,zF1 h]
  all_goals simp [SV.wf,SC.wf,zG]
 refine zD6 (ι:={ y:Nat × Nat × List (List UInt8) // y.1≤s.length+1∧y.2.1≤y.1∧y.2.2.length≤y.1∧(y.1≤s.length→zL2 (s.drop y.1) ((s.take y.1).drop y.2.1) y.2.2=zL2 s [] [])∧(y.1=s.length+1→y.2.2=zL2 s [] []) }) (fun y=>slDs s y.1.1 y.1.2.1 y.1.2.2.length) (fun y=>[wdE y.1.2.2]) (fun y=>s.length+2 - y.1.1) ⟨(0,0,[]),by simp only; omega,Nat.le_refl _,Nat.le_refl _,fun _=>rfl,by simp only; omega⟩ (zB3 ⟨rfl,rfl,rfl,rfl,trivial⟩) rfl ?_
 rintro ⟨⟨i,fr,out⟩,hi,hfr,hol,hall,hend⟩ D dP dS dw dn dr dk ddf dPan dRet hX hJ
 have hP0:=hP; have hk0:=hk; have hctr0:=hctr
 have hP:D.P=Tryz.prog:=by rw [dP]; exact hP0
 have hk:D.kp=kp28:=by rw [dk]; exact hk0
 have hctr:zC1 D dG0:=zR4 hP
 simp only at hi hfr hol hall hend
 show Run D _ _ (slDs s i fr out.length) [wdE out]
 by_cases hin:i≤s.length
 ·have q1:decide ((i:Int)≤(s.length:Int))=true:=decide_eq_true (by omega)
  have hall:=hall hin
  have p0:(0:Int)≤(i:Int):=by omega
  have p3:IntKind.i64.wrap ((i:Int)+1)=((i+1:Nat):Int):=by rw [IntWalk.i64_in _ (by omega)]; rfl
  have p4:(0:Int)≤(fr:Int):=by omega
  have p5:(fr:Int)≤(i:Int):=by omega
  have p6:(i:Int)≤(s.length:Int):=by omega
  have nx:∀ o2,(i < s.length→zL2 (s.drop (i+1)) [] o2=zL2 s [] [])→(i=s.length→o2=zL2 s [] [])→o2.length≤out.length+1→∀ s',sub (slDs s (i+1) (i+1) o2.length) s'→Run D [] 35 s' [wdE o2]:=fun o2 h1 h2 h3 s' hs'=>by
   refine hJ ⟨(i+1,i+1,o2),by simp only; omega,Nat.le_refl _,by simp only; omega,fun h=>?_,fun h=>h2 (by simp only at h; omega)⟩ s' (by show s.length+2 - (i+1) < s.length+2 - i; omega) hs'
   simp only at h
   rw [← h1 (by omega),List.drop_take]; simp
  have hin2:(i < s.length∧∃ x,s[i]?=some x∧x ≠ 32)∨(¬ (i < s.length∧∃ x,s[i]?=some x∧x ≠ 32)):=Classical.em _
  rcases hin2 with ⟨hlt,x,hx,hx32⟩ | hno
  ·have c1:decide ((i:Int) < (s.length:Int))=true:=decide_eq_true (by omega)
   have hgx:s.getD i 0=x:=by rw [List.getD_eq_getElem?_getD,hx]; rfl
   have c2:((x.toNat:Int) != 32)=true:=by
    rw [bne_iff_ne]; intro h; exact hx32 (UInt8.toNat_inj.1 (by have:(32:UInt8).toNat=32:=rfl; omega))
   have p1:(i:Int) < (s.length:Int):=by omega
   (refine zA0 hctr (rs:=res28) true 300 _ _ _ ?_; simp (maxSteps:=1000000) only [VT,jf,jZ,qH,qI,qK,qN,qO,qR,qS,qY,qe,qp,ev,qy,qz,zD,zH,zI,zJ,zM,↓reduceIte,reduceCtorEq,Nat.reduceEqDiff,Nat.reduceLT,zP,zQ,zR,zT,zV,zh,zo,rwE,hP,hk,res28,kp28,slDs,wdE,rwE,q1,p0,p1,p3,c2,hgx])
   refine hJ ⟨(i+1,fr,out),by simp only; omega,by simp only; omega,by simp only; omega,fun _=>?_,fun h=>by simp only at h; omega⟩ _ (by show s.length+2 - (i+1) < s.length+2 - i; omega) (zB3 ⟨rfl,rfl,rfl,rfl,trivial⟩)
   have hd:s.drop i=x :: s.drop (i+1):=by
    rw [List.drop_eq_getElem_cons hlt]; congr 1
    exact (List.getElem?_eq_some_iff.1 hx).2
   rw [hd,zL2,if_neg hx32] at hall
   rw [← hall]
   have htk:s.take (i+1)=s.take i++[x]:=by rw [List.take_add_one,hx]; rfl
   simp only [htk]
   rw [List.drop_append_of_le_length (by rw [List.length_take]; omega)]
  ·-- the facts of both ways here
   have go:∀ (o2:List (List UInt8)),o2=(if (s.take i).drop fr=[] then out else out++[(s.take i).drop fr])→((i < s.length→zL2 (s.drop (i+1)) [] o2=zL2 s [] [])∧(i=s.length→o2=zL2 s [] [])):=fun o2 ho=>by
    refine ⟨fun hlt=>?_,fun he=>?_⟩
    ·have hd:=List.drop_eq_getElem_cons hlt
     have h32:s[i]=32:=Decidable.byContradiction fun h=>hno ⟨hlt,s[i],List.getElem?_eq_getElem hlt,h⟩
     rw [hd,zL2,if_pos h32] at hall
     rw [ho]; exact hall
    ·rw [List.drop_of_length_le (by omega),zL2] at hall
     rw [ho]; exact hall
   have hcur:((s.take i).drop fr=[]) ↔ i=fr:=by
    rw [List.drop_eq_nil_iff,List.length_take]; omega
   have cc:(decide ((i:Int) < (s.length:Int))=false)∨(decide ((i:Int) < (s.length:Int))=true∧(i:Int) < (s.length:Int)∧((((s.getD i 0).toNat:Nat):Int) != 32)=false):=by
    by_cases hlt:i < s.length
    ·right
     refine ⟨decide_eq_true (by omega),by omega,?_⟩
     have h32:s[i]=32:=Decidable.byContradiction fun h=>hno ⟨hlt,s[i],List.getElem?_eq_getElem hlt,h⟩
     rw [List.getD_eq_getElem?_getD,List.getElem?_eq_getElem hlt,Option.getD_some,h32]; rfl
    ·left; exact decide_eq_false (by omega)
   rcases cc with c1 | ⟨c1,p1,c2⟩
   ·by_cases hfi:fr < i
    ·have q2:decide ((fr:Int) < (i:Int))=true:=decide_eq_true (by omega)
     have hg:=go (out++[(s.take i).drop fr]) (by rw [if_neg (fun h=>by have:=hcur.1 h; omega)])
     (refine zA0 hctr (rs:=res28) true 300 _ _ _ ?_; simp (maxSteps:=1000000) only [VT,jf,jg,aA,qA,qB,qC,qD,qH,qI,qK,qN,qO,qR,qS,qZ,qe,qg,ql,qp,q0t,ev,qy,qz,zC,zD,zF,zG,zI,zJ,zM,↓reduceIte,reduceCtorEq,Nat.reduceEqDiff,Nat.reduceLT,Nat.reduceLeDiff,zP,zQ,zR,zT,zV,zW,zh,zo,zt,rwE,hP,hk,res28,kp28,slDs,wdE,rwE,Nat.reduceLeDiff,Nat.mul_one,p4,p5,p6,q2,c1])
     repeat (refine ⟨by first | decide | omega | exact ⟨by omega,by omega,by omega⟩,?_⟩)
     refine word_app (l:=out) (u:=(s.take i).drop fr) hP (by rw [dn,hn0]) (by omega) rfl rfl (by simp) fun E=>?_
     (refine zA0 hctr (rs:=res28) true 300 _ _ _ ?_; simp (maxSteps:=1000000) only [VT,qH,qI,qK,qO,qR,qS,ev,qy,qz,zI,zJ,↓reduceIte,reduceCtorEq,Nat.reduceEqDiff,Nat.reduceLT,zP,zQ,zR,rwE,jN,hk,kp28,wdE,rwE,p3])
     have hf:∀ s',sub [(5,.c (.i .i64 ((i+1:Nat):Int))),(4,.c (.i .i64 ((i+1:Nat):Int))),(3,.c (.rw 2 (out.length+1))),(0,.c (.s s))] s'→Run D [] 35 s' [E,⟨(9,0,whole),[.s ((s.take i).drop fr)],true⟩,wdE (out++[(s.take i).drop fr])]:=fun s' hs'=>by
      refine zN2 hs' ?_
      have hJ':=nx (out++[(s.take i).drop fr]) hg.1 hg.2 (by simp) _ (fun d v h=>h)
      refine zI6 (f:=fun _=>2) (enK:=[wdE (out++[(s.take i).drop fr])]) (slK:=slDs s (i+1) (i+1) (out++[(s.take i).drop fr]).length) ⟨fun q hq=>absurd hq (by rw [dn,hn0]; exact Nat.not_lt_zero _),by rw [dn,hn0]; exact Nat.zero_le _⟩ (fun p q hp hq _=>?_) ?_ ?_ hJ'
      ·have hp:p < 1:=hp
       have hq:q < 1:=hq
       omega
      ·refine ⟨⟨_,rfl,fun ρ=>by show zB8 _ ((out++[(s.take i).drop fr]).map SC.s)=zB8 ρ ((out++[(s.take i).drop fr]).map SC.s); rw [zF4,zF4],st_wf _ _⟩,trivial⟩
      ·refine ⟨⟨?_,_,rfl,fun ρ=>rfl⟩,⟨?_,_,rfl,fun ρ=>rfl⟩,⟨?_,_,rfl,fun ρ=>?_⟩,⟨?_,_,rfl,fun ρ=>rfl⟩,trivial⟩
       all_goals simp [SV.wf,SC.wf,SV.den,SC.den]
     exact hf _ (zB3 ⟨rfl,rfl,rfl,rfl,trivial⟩)
    ·have q2:decide ((fr:Int) < (i:Int))=false:=decide_eq_false (by omega)
     have hg:=go out (by rw [if_pos (hcur.2 (by omega))])
     (refine zA0 hctr (rs:=res28) true 300 _ _ _ ?_; simp (maxSteps:=1000000) only [VT,jf,jg,aA,qH,qI,qK,qN,qO,qR,qS,qe,qp,ev,qy,qz,zD,zI,zJ,zM,↓reduceIte,reduceCtorEq,Nat.reduceEqDiff,Nat.reduceLT,zP,zQ,zR,zV,zW,zo,rwE,hP,hk,res28,kp28,slDs,wdE,rwE,p3,p6,q2,c1])
     exact nx out hg.1 hg.2 (by omega) _ (zB3 ⟨rfl,rfl,rfl,rfl,trivial⟩)
   ·by_cases hfi:fr < i
    ·have q2:decide ((fr:Int) < (i:Int))=true:=decide_eq_true (by omega)
     have hg:=go (out++[(s.take i).drop fr]) (by rw [if_neg (fun h=>by have:=hcur.1 h; omega)])
     (refine zA0 hctr (rs:=res28) true 300 _ _ _ ?_; simp (maxSteps:=1000000) only [VT,jf,jg,jZ,qA,qB,qC,qD,qH,qI,qK,qN,qO,qR,qS,qY,qZ,qe,qg,ql,qp,q0t,ev,qy,qz,zC,zD,zF,zG,zI,zJ,zM,↓reduceIte,reduceCtorEq,Nat.reduceEqDiff,Nat.reduceLT,Nat.reduceLeDiff,zP,zQ,zR,zT,zV,zW,zh,zo,zt,rwE,hP,hk,res28,kp28,slDs,wdE,rwE,Nat.reduceLeDiff,Nat.mul_one,p0,p4,p5,p6,q2,p1,c2])
     repeat (refine ⟨by first | decide | omega | exact ⟨by omega,by omega,by omega⟩,?_⟩)
     refine word_app (l:=out) (u:=(s.take i).drop fr) hP (by rw [dn,hn0]) (by omega) rfl rfl (by simp) fun E=>?_
     (refine zA0 hctr (rs:=res28) true 300 _ _ _ ?_; simp (maxSteps:=1000000) only [VT,qH,qI,qK,qO,qR,qS,ev,qy,qz,zI,zJ,↓reduceIte,reduceCtorEq,Nat.reduceEqDiff,Nat.reduceLT,zP,zQ,zR,rwE,jN,hk,kp28,wdE,rwE,p3])
     have hf:∀ s',sub [(5,.c (.i .i64 ((i+1:Nat):Int))),(4,.c (.i .i64 ((i+1:Nat):Int))),(3,.c (.rw 2 (out.length+1))),(0,.c (.s s))] s'→Run D [] 35 s' [E,⟨(9,0,whole),[.s ((s.take i).drop fr)],true⟩,wdE (out++[(s.take i).drop fr])]:=fun s' hs'=>by
      refine zN2 hs' ?_
      have hJ':=nx (out++[(s.take i).drop fr]) hg.1 hg.2 (by simp) _ (fun d v h=>h)
      refine zI6 (f:=fun _=>2) (enK:=[wdE (out++[(s.take i).drop fr])]) (slK:=slDs s (i+1) (i+1) (out++[(s.take i).drop fr]).length) ⟨fun q hq=>absurd hq (by rw [dn,hn0]; exact Nat.not_lt_zero _),by rw [dn,hn0]; exact Nat.zero_le _⟩ (fun p q hp hq _=>?_) ?_ ?_ hJ'
      ·have hp:p < 1:=hp
       have hq:q < 1:=hq
       omega
      ·refine ⟨⟨_,rfl,fun ρ=>by show zB8 _ ((out++[(s.take i).drop fr]).map SC.s)=zB8 ρ ((out++[(s.take i).drop fr]).map SC.s); rw [zF4,zF4],st_wf _ _⟩,trivial⟩
      ·refine ⟨⟨?_,_,rfl,fun ρ=>rfl⟩,⟨?_,_,rfl,fun ρ=>rfl⟩,⟨?_,_,rfl,fun ρ=>?_⟩,⟨?_,_,rfl,fun ρ=>rfl⟩,trivial⟩
       all_goals simp [SV.wf,SC.wf,SV.den,SC.den]
     exact hf _ (zB3 ⟨rfl,rfl,rfl,rfl,trivial⟩)
    ·have q2:decide ((fr:Int) < (i:Int))=false:=decide_eq_false (by omega)
     have hg:=go out (by rw [if_pos (hcur.2 (by omega))])
     (refine zA0 hctr (rs:=res28) true 300 _ _ _ ?_; simp (maxSteps:=1000000) only [VT,jf,jg,jZ,qH,qI,qK,qN,qO,qR,qS,qY,qe,qp,ev,qy,qz,zD,zI,zJ,zM,↓reduceIte,reduceCtorEq,Nat.reduceEqDiff,Nat.reduceLT,zP,zQ,zR,zT,zV,zW,zh,zo,rwE,hP,hk,res28,kp28,slDs,wdE,rwE,p0,p3,p6,q2,p1,c2])
     exact nx out hg.1 hg.2 (by omega) _ (zB3 ⟨rfl,rfl,rfl,rfl,trivial⟩)
 ·have q1:decide ((i:Int)≤(s.length:Int))=false:=decide_eq_false (by omega)
  have hW:=hend (by omega)
  (refine zA0 hctr (rs:=res28) true 300 _ _ _ ?_; simp (maxSteps:=1000000) only [VT,jg,qH,qI,qK,qN,qO,qR,qS,qe,ev,qy,zH,zI,zJ,zM,↓reduceIte,reduceCtorEq,Nat.reduceEqDiff,Nat.reduceLT,zP,zQ,zR,zW,rwE,hP,hk,res28,kp28,slDs,wdE,rwE,q1])
  refine hX rfl rfl ?_
  have hP:=hP0; have hk:=hk0; have hctr:=hctr0
  (refine zA0 hctr (rs:=res28) true 300 _ _ _ ?_; simp (maxSteps:=1000000) only [VT,qE,qF,qG,qH,qI,qK,qO,ev,qy,zI,zJ,TE.sv,↓reduceIte,reduceCtorEq,Nat.reduceEqDiff,Nat.reduceLT,zP,zQ,zR,hk,res28,kp28])
  exact fin out hW.symm
end Go.Proofs.YtcbmlanpianclaaGreatDoor
/- What a connection does with bytes (package conn), as plain functions. No program in sight. -/
namespace Go.Proofs.YtcbmlanpianclaaGreatDoor
set_option linter.unusedSimpArgs false
set_option linter.unusedVariables false
open Go.RowKit
structure Gq where
 kind:Int
 cmds:List Cd
 quiet:Bool
 tokens:Bool
 reply:List UInt8
 arg:List UInt8
 skip:Int
 close:Bool
 name:List UInt8
 flags:List (List UInt8)
 word:List UInt8
def Gq.zero:Gq:=⟨0,[],false,false,[],[],0,false,[],[],[]⟩
def gqM (r:Mq):Gq:=⟨r.kind,r.cmds,r.quiet,false,r.reply,[],r.skip,r.close,r.name,r.flags,r.word⟩
def gqT (r:Rq):Gq:=⟨r.kind,r.cmds,r.quiet,r.tokens,r.reply,r.arg,r.skip,r.close,[],[],r.word⟩
def firstW (b:List UInt8):List UInt8:=((zB1 (b.take 2048)).1.dropWhile (· == 32)).takeWhile (· != 32)
def zX1 (name:List UInt8):Bool:=match name with
 | [m,x]=>m == 109 && [110,101,103,115,100,97].contains x
 | _=>false
def zG4 (b:List UInt8):Gq × Int:=if zX1 (firstW b) then (gqM (zE9 b).1,(zE9 b).2) else (gqT (zE6 b).1,(zE6 b).2)
structure Cn where
 inp:List UInt8
 out:List UInt8
 skip:Int
 ends:Bool
def Cn.zero:Cn:=⟨[],[],0,false⟩
def zH5 (c:Cn) (b:List UInt8):Cn × Int:=
 if c.ends then (c,0)
 else ({ c with skip:=c.skip - ((min c.skip.toNat b.length:Nat):Int),inp:=c.inp++(b.drop (min c.skip.toNat b.length)).take (min (b.length - min c.skip.toNat b.length) (70000 - c.inp.length)) },
  ((min c.skip.toNat b.length+min (b.length - min c.skip.toNat b.length) (70000 - c.inp.length):Nat):Int))
def zK8 (c:Cn):Cn:={ c with ends:=true,inp:=[] }
def zP2 (c:Cn) (r:Gq) (n:Nat):Cn:={ c with inp:=c.inp.drop (n+min r.skip.toNat (c.inp.length - n)),skip:=r.skip - ((min r.skip.toNat (c.inp.length - n):Nat):Int) }
def zH0 (c:Cn):Cn × Gq × Bool:=
 if c.ends=true∨100000≤c.out.length then (c,Gq.zero,false)
 else if (zG4 c.inp).1.kind=0 then (c,Gq.zero,false)
 else (if (zG4 c.inp).1.close then zK8 (zP2 c (zG4 c.inp).1 (zG4 c.inp).2.toNat) else zP2 c (zG4 c.inp).1 (zG4 c.inp).2.toNat,(zG4 c.inp).1,true)
def cnPut (c:Cn) (s:List UInt8):Cn:={ c with out:=c.out++s }
def cnHow (c:Cn) (n:Int):Nat:=min n.toNat c.out.length
def zG1 (c:Cn) (n:Int):Cn × List UInt8:=({ c with out:=c.out.drop (cnHow c n) },c.out.take (cnHow c n))
structure CnOk (c:Cn):Prop where
 inp:c.inp.length≤70000
 out:c.out.length≤1000000000000
 s0:0≤c.skip
 s1:c.skip≤1073741826
theorem CnOk.zero:CnOk Cn.zero:=⟨Nat.zero_le _,Nat.zero_le _,Int.le_refl _,by decide⟩
theorem CnOk.feed {c:Cn} (h:CnOk c) (b:List UInt8):CnOk (zH5 c b).1:=by
 obtain ⟨h1,h2,h3,h4⟩:=h
 unfold zH5
 split
 ·exact ⟨h1,h2,h3,h4⟩
 ·refine ⟨?_,h2,?_,?_⟩
  ·simp only [List.length_append,List.length_take,List.length_drop]; omega
  ·simp only; omega
  ·simp only; omega
theorem CnOk.hang {c:Cn} (h:CnOk c):CnOk (zK8 c):=⟨Nat.zero_le _,h.out,h.s0,h.s1⟩
theorem CnOk.pass {c:Cn} (h:CnOk c) {r:Gq} (h0:0≤r.skip) (h1:r.skip≤1073741826) (n:Nat):CnOk (zP2 c r n):=by
 obtain ⟨k1,k2,k3,k4⟩:=h
 refine ⟨?_,k2,?_,?_⟩
 ·simp only [zP2,List.length_drop]; omega
 ·simp only [zP2]; omega
 ·simp only [zP2]; omega
theorem CnOk.write {c:Cn} (h:CnOk c) (n:Int):CnOk (zG1 c n).1:=by
 obtain ⟨k1,k2,k3,k4⟩:=h
 exact ⟨k1,by simp only [zG1,List.length_drop]; omega,k3,k4⟩
theorem CnOk.put {c:Cn} (h:CnOk c) {s:List UInt8} (hs:c.out.length+s.length≤1000000000000):CnOk (cnPut c s):=⟨h.inp,by simp only [cnPut,List.length_append]; exact hs,h.s0,h.s1⟩
end Go.Proofs.YtcbmlanpianclaaGreatDoor
/- What a request of either protocol passes over, and what it uses, in bounds. No program in sight. -/
namespace Go.Proofs.YtcbmlanpianclaaGreatDoor
set_option linter.unusedSimpArgs false
set_option linter.unusedVariables false
open Go.RowKit
def zP3 (n:Int):Prop:=0≤n∧n≤1073741826
def rdSkip:Rd'→Int
 | .fault _=>0
 | .got r _ _=>r.skip
theorem zN7:zP3 0:=⟨Int.le_refl _,by decide⟩
theorem skip_get (name:List UInt8) (w:List (List UInt8)):zP3 (rdSkip (zJ7 name w)):=by
 unfold zJ7
 simp only
 repeat' split
 all_goals exact zN7
theorem skip_store (name:List UInt8) (w:List (List UInt8)) (behind:List UInt8):zP3 (rdSkip (zB4 name w behind)):=by
 unfold zB4
 simp only
 split
 ·exact zN7
 ·split
  ·exact zN7
  ·rename_i n _
   by_cases h:1073741824 < n
   ·rw [if_pos h]; exact zN7
   ·rw [if_neg h]
    have hk:zP3 ((n+2:Nat):Int):=⟨by omega,by omega⟩
    repeat' split
    all_goals first | exact zN7 | exact hk
theorem skip_key (s:List UInt8) (k:List UInt8→Rd') (h:∀ x,zP3 (rdSkip (k x))):zP3 (rdSkip (zI1 s k)):=by
 unfold zI1
 split
 ·exact h _
 ·exact zN7
theorem skip_plain (name:List UInt8) (w:List (List UInt8)):zP3 (rdSkip (zA7 name w)):=by
 unfold zA7
 simp only
 repeat' split
 all_goals first
  | exact zN7
  | (refine skip_key _ _ fun x=>?_; (repeat' split) <;> exact zN7)
theorem skip_read (name:List UInt8) (w:List (List UInt8)) (behind:List UInt8):zP3 (rdSkip (zJ2 name w behind)):=by
 unfold zJ2
 split
 ·exact skip_get _ _
 ·split
  ·exact skip_store _ _ _
  ·exact skip_plain _ _
theorem skipT (b:List UInt8):zP3 (zE6 b).1.skip:=by
 unfold zE6
 simp only
 split
 ·split
  ·exact zN7
  ·exact zN7
 ·cases wordsF _ _ with
  | nil=>exact zN7
  | cons name w =>
   show zP3 (endR _ (zJ2 name w _)).1.skip
   have h:=skip_read name w (b.drop (zB1 (b.take 2048)).2)
   cases hr:zJ2 name w (b.drop (zB1 (b.take 2048)).2) with
   | fault f=>exact zN7
   | got r more used =>
    rw [hr] at h
    cases more with
    | true=>exact zN7
    | false=>exact h
theorem skip_rest (name word:List UInt8) (l:List (List UInt8)) (size:Nat) (behind:List UInt8) (hs:size≤1073741826):zP3 (zO8 name word l size behind).1.skip:=by
 unfold zO8
 repeat' split
 all_goals first
  | exact zN7
  | exact ⟨by show (0:Int)≤(size:Int); omega,by show (size:Int)≤1073741826; omega⟩
theorem skipM (b:List UInt8):zP3 (zE9 b).1.skip:=by
 unfold zE9
 simp only
 split
 ·split
  ·exact zN7
  ·exact zN7
 ·cases wordsF _ _ with
  | nil=>exact zN7
  | cons name w =>
   rw [zR6]
   split
   ·split
    ·exact zN7
    ·show zP3 (readM name w _).1.skip
     unfold readM
     split
     ·exact zN7
     ·split
      ·split
       ·exact zN7
       ·split
        ·rename_i h
         refine skip_rest _ _ _ _ _ ?_
         simp only [Bool.and_eq_true,decide_eq_true_eq] at h
         omega
        ·exact zN7
      ·exact skip_rest _ _ _ _ _ (Nat.zero_le _)
   ·split
    ·exact zN7
    ·exact zN7
theorem skipC (b:List UInt8):zP3 (zG4 b).1.skip:=by
 unfold zG4
 split
 ·exact skipM b
 ·exact skipT b
theorem cparse_len {b:List UInt8} (h:(zG4 b).1.kind ≠ 0):0 < (zG4 b).2∧(zG4 b).2≤(b.length:Int):=by
 unfold zG4 at h ⊢
 split at h
 ·rename_i hm; rw [if_pos hm]; exact (mparse_pre (r:=[]) h).2
 ·rename_i hm; rw [if_neg hm]; exact (parse_pre (r:=[]) h).2
theorem CnOk.next {c:Cn} (h:CnOk c):CnOk (zH0 c).1:=by
 unfold zH0
 split
 ·exact h
 ·split
  ·exact h
  ·obtain ⟨h1,h2⟩:=skipC c.inp
   split
   ·exact (h.pass h1 h2 _).hang
   ·exact h.pass h1 h2 _
end Go.Proofs.YtcbmlanpianclaaGreatDoor
/- What the document says of the bytes that a request begins with, either protocol (ambryref20.Parse, ambryref22.Parse), is what is read. No program in sight but the definitions of the walks. -/
namespace Go.Proofs.YtcbmlanpianclaaGreatDoor
set_option linter.unusedSimpArgs false
set_option linter.unusedVariables false
open Go.RowKit
def docT (b:List UInt8):Rq × Int:=
 if (zB7 b).2.2.2 then lineR (zB7 b).2.1 (b.drop (zB7 b).2.1) (wordsF ((zB7 b).1.length+1) (zB7 b).1) else if b.length < 2048 then (Rq.zero,0) else ({ zD9 zL8 with close:=true },2048)
theorem docT_is (b:List UInt8):docT b=zE6 b:=by
 unfold docT zE6 zB7
 simp only [line_take]
 by_cases h:0 < (zB1 b).2∧(zB1 b).2≤2048
 ·simp only [if_pos h,if_true]
  rw [if_neg (by omega)]
 ·simp only [if_neg h,if_true]
  by_cases h2:b.length < 2048
  ·simp only [if_pos h2,Bool.false_eq_true,if_false]
  ·simp only [if_neg h2,Bool.false_eq_true,if_false]
theorem splD_out:∀ (s cur:List UInt8) (o out:List (List UInt8)),zL2 s cur (o++out)=o++zL2 s cur out
 | [],cur,o,out=>by
  unfold zL2
  split
  ·rfl
  ·rw [List.append_assoc]
 | c :: s,cur,o,out=>by
  unfold zL2
  split
  ·split
   ·exact splD_out s [] o out
   ·rw [List.append_assoc]; exact splD_out s [] o _
  ·exact splD_out s _ o out
theorem splD_cur:∀ (s cur:List UInt8),cur ≠ []→∃ t,zL2 s cur []=(cur++s.takeWhile (· != 32)) :: t
 | [],cur,h=>⟨[],by unfold zL2; rw [if_neg h]; simp⟩
 | c :: s,cur,h=>by
  unfold zL2
  by_cases hc:c=32
  ·rw [if_pos hc,if_neg h,List.nil_append]
   subst hc
   refine ⟨zL2 s [] [],?_⟩
   have:=splD_out s [] [cur] []
   rw [List.append_nil] at this
   rw [this]
   simp
  ·rw [if_neg hc]
   obtain ⟨t,ht⟩:=splD_cur s (cur++[c]) (by simp)
   refine ⟨t,?_⟩
   rw [ht,List.takeWhile_cons]
   have:(c != 32)=true:=by simpa using hc
   rw [this]
   simp
theorem splD_head:∀ s:List UInt8,(zL2 s [] []=[]∧(s.dropWhile (· == 32)).takeWhile (· != 32)=[])∨∃ t,zL2 s [] []=(s.dropWhile (· == 32)).takeWhile (· != 32) :: t
 | []=>.inl ⟨rfl,rfl⟩
 | c :: s=>by
  unfold zL2
  by_cases hc:c=32
  ·subst hc
   rw [if_pos rfl,if_pos rfl]
   exact splD_head s
  ·rw [if_neg hc]
   obtain ⟨t,ht⟩:=splD_cur s ([]++[c]) (by simp)
   right
   refine ⟨t,?_⟩
   have h1:(c == 32)=false:=by simpa using hc
   have h2:(c != 32)=true:=by simpa using hc
   rw [ht,List.dropWhile_cons,h1]
   simp only [Bool.false_eq_true,if_false]
   rw [List.takeWhile_cons,h2]
   simp
def docM (b:List UInt8):Bool:=decide (0 < (zB1 b).2∧(zB1 b).2≤2048) && zX1 ((zL2 (zB1 b).1 [] []).headD [])
theorem docM_is (b:List UInt8):docM b=zX1 (firstW b):=by
 unfold docM firstW
 rw [line_take]
 by_cases h:0 < (zB1 b).2∧(zB1 b).2≤2048
 ·rw [if_pos h,decide_eq_true h,Bool.true_and]
  rcases splD_head (zB1 b).1 with ⟨h1,h2⟩ | ⟨t,ht⟩
  ·rw [h1,h2]; rfl
  ·rw [ht]; rfl
 ·rw [if_neg h,decide_eq_false h]
  rfl
theorem docC_is (b:List UInt8):zG4 b=if docM b then (gqM (docP b).1,(docP b).2) else (gqT (docT b).1,(docT b).2):=by
 rw [docM_is,doc_is,docT_is]; rfl
end Go.Proofs.YtcbmlanpianclaaGreatDoor
/- The small functions of package text, walked: need, bad, seconds, count, key; a line in memory. -/
namespace Go.Proofs.YtcbmlanpianclaaGreatDoor
set_option linter.unusedSimpArgs false
set_option linter.unusedVariables false
set_option maxHeartbeats 8000000
open Go.RowKit
set_option maxRecDepth 100000
def zM6 (C:Cx):Prop:=∀ w,Upd C.S C.w0 w→Env w
def zF6:List SV→Option (Prop × SV)
 | [.c (.s l)]=>some (l.length≤9223372036854775807,.t [.c (.i .u64 (((zB0 l).getD 0:Nat):Int)),.c (.b (zB0 l).isSome)])
 | _=>none
def zN3:List SV→Option (Prop × SV)
 | [.c (.s l)]=>some (l.length≤9223372036854775807,.t [.c (.i .i64 ((zC5 l).getD 0)),.c (.b (zC5 l).isSome)])
 | _=>none
def zI8:List SV→Option (Prop × SV)
 | [.c (.s l)]=>some (l.length≤9223372036854775807,.c (.b (zG3 l)))
 | _=>none
def zD0:List SV→Option (Prop × SV)
 | [.c (.b true),.c (.s _)]=>some (True,.t [])
 | _=>none
def zN6:Ctr:=fun f _ xs=>match f with
 | 57=>zF6 xs
 | 122=>zN3 xs
 | 60=>zI8 xs
 | _=>none
section
variable {en:List EN} {ρ:Nat→RE} {w:World} {xs:List SV} {p:Prop} {v:SV}
theorem rowParse_okV (h:zF6 xs=some (p,v)) (hp:p) (he:Env w):v.wf (· < en.length)∧Calls Tryz.prog 57 (xs.map (SV.den ρ)).toArray w fun e w'=>e=.returned (v.den ρ)∧Below w.heap.size w w':=by
 unfold zF6 at h
 split at h <;> simp only [Option.some.injEq,Prod.mk.injEq,reduceCtorEq] at h
 rename_i l
 obtain ⟨rfl,rfl⟩:=h
 refine ⟨by intro x hx; simp at hx; rcases hx with rfl | rfl <;> trivial,?_⟩
 exact parse l hp w he
theorem rowSigned_okV (h:zN3 xs=some (p,v)) (hp:p) (he:Env w):v.wf (· < en.length)∧Calls Tryz.prog 122 (xs.map (SV.den ρ)).toArray w fun e w'=>e=.returned (v.den ρ)∧Below w.heap.size w w':=by
 unfold zN3 at h
 split at h <;> simp only [Option.some.injEq,Prod.mk.injEq,reduceCtorEq] at h
 rename_i l
 obtain ⟨rfl,rfl⟩:=h
 refine ⟨by intro x hx; simp at hx; rcases hx with rfl | rfl <;> trivial,?_⟩
 exact signed l hp w he
theorem rowKeyB_okV (h:zI8 xs=some (p,v)) (hp:p):v.wf (· < en.length)∧Calls Tryz.prog 60 (xs.map (SV.den ρ)).toArray w fun e w'=>e=.returned (v.den ρ)∧Below w.heap.size w w':=by
 unfold zI8 at h
 split at h <;> simp only [Option.some.injEq,Prod.mk.injEq,reduceCtorEq] at h
 rename_i l
 obtain ⟨rfl,rfl⟩:=h
 refine ⟨trivial,(key l hp w).mono ?_⟩
 rintro e w' ⟨rfl,rfl⟩
 exact ⟨rfl,Below.refl _ _⟩
end
theorem tC0_okV {C:Cx} (hP:C.P=Tryz.prog) (hE:zM6 C):zC1 C zN6:=by
 intro f en xs p v h hp ρ w hup hHp hHo hinj hwf
 unfold zN6 at h
 split at h
 ·rw [hP]; exact ⟨fun args w=>Tryz.call57 args w,rowParse_okV h hp (hE w hup)⟩
 ·rw [hP]; exact ⟨fun args w=>Tryz.call122 args w,rowSigned_okV h hp (hE w hup)⟩
 ·rw [hP]; exact ⟨fun args w=>Tryz.call60 args w,rowKeyB_okV h hp⟩
 ·cases h
def faultV (f:List UInt8):Value:=.iface 96 (.string ⟨f.toArray⟩)
def zJ3 (f:List UInt8):List PanicEntry:=[{ v:=faultV f,recovered:=false }]
theorem need_yes (f:List UInt8) (w:World):Calls Tryz.prog 94 #[.bool true,.string ⟨f.toArray⟩] w fun e w'=>e=.returned (.tuple #[])∧Below w.heap.size w w':=by
 refine zA1 Tryz.func94 rfl kp94 (S:=Non) (ρ:=fun _=>⟨0,[],[],0,none⟩) (en:=[]) [.c (.b true),.c (.s f)] Tryz.ntmps94 (At.nil _ _ _) (by simp [SV.wf,SC.wf]) (by simp) ?_
 intro C hC hP hk
 have hctr:=zF8 hP
 (refine zR7 hctr (rs:=res94) 200 _ _ _ ?_; simp (maxSteps:=1000000) only [VC,qH,qI,qK,qO,qT,qj,qq,ev,qy,zI,zJ,zK,zM,↓reduceIte,reduceCtorEq,Nat.reduceEqDiff,Nat.reduceLT,zP,zQ,zR,zV,zb,zc,zt,hP,hk,kp94])
 refine zQ6 hC hres94 fun ρ w' hw hn=>⟨rfl,?_⟩
 rw [hC] at hw
 exact hw.up.to_below
theorem need_no (f:List UInt8) (w:World):Calls Tryz.prog 94 #[.bool false,.string ⟨f.toArray⟩] w fun e w'=>e=.panicked (zJ3 f)∧Below w.heap.size w w':=by
 refine zA1 Tryz.func94 rfl kp94 (S:=Non) (ρ:=fun _=>⟨0,[],[],0,none⟩) (en:=[]) [.c (.b false),.c (.s f)] Tryz.ntmps94 (At.nil _ _ _) (by simp [SV.wf,SC.wf]) (by simp) ?_
 intro C hC hP hk
 have hctr:=zF8 hP
 (refine zR7 hctr (rs:=res94) 200 _ _ _ ?_; simp (maxSteps:=1000000) only [VC,qH,qI,qK,qO,qT,qj,qq,ev,qy,zI,zJ,zK,zM,↓reduceIte,reduceCtorEq,Nat.reduceEqDiff,Nat.reduceLT,zP,zQ,zR,zS,zW,zb,zc,zt,hP,hk,kp94])
 refine Run_panic rfl (Pan_of hC fun ρ w' hw hn=>⟨rfl,?_⟩)
 rw [hC] at hw
 exact hw.up.to_below
end Go.Proofs.YtcbmlanpianclaaGreatDoor
