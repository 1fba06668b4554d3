/- The document's Parse of text (ambryref20), walked. Printed by gen_dt8.py. -/
import Derived.Test.YtcbmlanpianclaaGreatDoorBS16
import Derived.Test.YtcbmlanpianclaaGreatDoorBS07
import Derived.Test.YtcbmlanpianclaaGreatDoorBS05
import Derived.Test.YtcbmlanpianclaaGreatDoorBS12
namespace Go.Proofs.YtcbmlanpianclaaGreatDoor
set_option linter.unusedSimpArgs false
set_option linter.unusedVariables false
set_option maxHeartbeats 8000000
open Go.RowKit
set_option maxRecDepth 100000
theorem dtparse_w (b:List UInt8) (hb:b.length≤9223372036854775806) (w:World):Calls Tryz.prog 30 #[.string ⟨b.toArray⟩] w (GPost w (gqT (docT b).1,(docT b).2)):=by
 refine zA1 Tryz.func30 rfl kp30 (S:=Non) (ρ:=fun _=>zG7 0) (en:=[]) [.c (.s b)] Tryz.ntmps30 (At.nil _ _ _) (by simp [SV.wf,SC.wf]) (by simp) ?_
 intro C hC hP hk
 have hctr:=dP0_ok hP
 have hS:C.S=Non:=by rw [hC]; rfl
 have hw0:C.w0=w:=by rw [hC]; rfl
 have hn0:C.n0=0:=by rw [hC]; rfl
 have e3:=front_len (b:=b)
 have hfin:∀ (r:Rq) (m:Int) (en:List EN),docT b=(r,m)→r.cmds=[]→Fin C res30 (.t [.g (gqS noS noS (gqT r)),.c (.i .i64 m)]) en:=fun r m en h1 h2=>by
  refine zC3 (v:=.t [.g (gqS noS noS (gqT r)),.c (.i .i64 m)]) hC hres30 fun ρ w' hw _ _=>?_
  have hup:=hw.up
  rw [hC] at hup
  rw [h1]
  exact ⟨hup.to_below,_,rfl,GqV.none h2 rfl⟩
 have hpost:∀ (x:Rq) (m:Int) (N:Nat) en,zD en N=some (cmG (gqT x))→zD en (N+1)=some (flG (gqT x))→N+2≤en.length→docT b=(x,m)→Fin C res30 (.t [.g (gqZ (gqT x) N),.c (.i .i64 m)]) en:=fun x m N en h1 h2 hlen hx=>by
  refine zC3 (v:=.t [.g (gqZ (gqT x) N),.c (.i .i64 m)]) hC hres30 fun ρ w' hw _ _=>?_
  have hup:=hw.up
  rw [hC] at hup
  have k1:=RowOk.of (N:=N) (n:=(gqT x).cmds.length) (z:=16) (e:=52) (cells:=zC2 ecS (gqT x).cmds) hw hS h1 (by decide)
  have k2:=RowOk.of (N:=N+1) (n:=(gqT x).flags.length) (z:=1) (e:=9) (cells:=(gqT x).flags.map SC.s) hw hS h2 (by decide)
  rw [hw0] at k1 k2
  rw [zE7] at k1
  rw [zF4] at k2
  rw [hx]
  refine ⟨hup.to_below,_,rfl,⟨ρ N,ρ (N+1),rfl,k1,k2,fun h3 h4 he=>?_⟩⟩
  have:=hw.inj N (N+1) (by show N < en.length; omega) (by show N+1 < en.length; omega) ((zA4 h1).2 ⟨by show ¬ ((52:Nat)=zC9); decide,h3⟩) ((zA4 h2).2 ⟨by show ¬ ((9:Nat)=zC9); decide,h4⟩) he
  omega
 have hdoc:docT b=if (zB7 b).2.2.2 then lineR (zB7 b).2.1 (b.drop (zB7 b).2.1) (wordsF ((zB7 b).1.length+1) (zB7 b).1) else if b.length < 2048 then (Rq.zero,0) else ({ zD9 zL8 with close:=true },2048):=rfl
 have hff:(zB7 b).2.2.2=false→(b.length < 2048∧zB7 b=([],0,Mq.zero,false))∨(¬ b.length < 2048∧zB7 b=([],2048,{ zD8 zL8 0 with close:=true },false)):=fun h=>by
  unfold zB7 at h ⊢
  split at h
  ·cases h
  ·rename_i h1
   rw [if_neg h1]
   by_cases h2:b.length < 2048
   ·left; exact ⟨h2,if_pos h2⟩
   ·right; exact ⟨h2,if_neg h2⟩
 cases hok:(zB7 b).2.2.2 with
 | false =>
  rw [hok,if_neg (by simp)] at hdoc
  rcases hff hok with ⟨h1,hF⟩ | ⟨h1,hF⟩
  ·rw [if_pos h1] at hdoc
   (refine zA0 hctr (rs:=res30) true 300 _ _ _ ?_; simp (maxSteps:=1000000) only [VT,jf,qE,qF,qG,qH,qI,qJ,qK,qO,qP,qT,qh,q0t,qu,qv,ev,qw,qy,qz,zA,zB,zC,zD,zE,zF,zG,zI,zJ,TE.sv,zK,zM,↓reduceIte,reduceCtorEq,Value.oneCell',Nat.reduceEqDiff,Nat.reduceAdd,Nat.reduceLT,zP,zQ,zR,zV,zW,zt,hP,hk,res30,kp30,dP0,zO0,mqS,noS,Mq.zero,hF])
   exact ⟨hb,hfin Rq.zero 0 _ hdoc rfl⟩
  ·rw [if_neg h1] at hdoc
   (refine zA0 hctr (rs:=res30) true 300 _ _ _ ?_; simp (maxSteps:=1000000) only [VT,jf,qE,qF,qG,qH,qI,qJ,qK,qO,qP,qT,qh,q0t,qu,qv,ev,qw,qy,qz,zA,zB,zC,zD,zE,zF,zG,zI,zJ,TE.sv,zK,zM,↓reduceIte,reduceCtorEq,Value.oneCell',Nat.reduceEqDiff,Nat.reduceAdd,Nat.reduceLT,zP,zQ,zR,zV,zW,zt,hP,hk,res30,kp30,dP0,zO0,mqS,noS,zD8,hF])
   exact ⟨hb,hfin { zD9 zL8 with close:=true } 2048 _ hdoc rfl⟩
 | true =>
  obtain ⟨s,n,r,ok,hF⟩:∃ s n r ok,zB7 b=(s,n,r,ok):=⟨_,_,_,_,rfl⟩
  rw [hok,if_pos rfl] at hdoc
  rw [hF] at hok hdoc e3
  simp only at hok hdoc e3
  subst hok
  obtain ⟨hs,hnb⟩:=e3 rfl
  (refine zA0 hctr (rs:=res30) true 300 _ _ _ ?_; simp (maxSteps:=1000000) only [VT,jg,qH,qI,qJ,qK,qO,qT,qh,q0t,qu,qv,ev,qw,qy,qz,zC,zD,zE,zF,zG,zI,zJ,TE.sv,zK,zM,↓reduceIte,reduceCtorEq,Value.oneCell',Nat.reduceEqDiff,Nat.reduceAdd,Nat.reduceLT,zP,zQ,zR,zV,zW,zt,hP,hk,res30,kp30,dP0,zO0,mqS,noS,hF])
  refine ⟨hb,?_⟩
  have hsp:zL2 s [] []=wordsF (s.length+1) s:=by have:=spl_is (s.length+1) s [] (Nat.lt_succ_self _); simpa using this
  obtain ⟨ws,hws⟩:∃ ws,wordsF (s.length+1) s=ws:=⟨_,rfl⟩
  rw [hws] at hdoc
  refine zA6 rfl (.c (.rw 2 ws.length)) [⟨(35,0,whole),mqS noS noS Mq.zero,true⟩,⟨(35,0,whole),mqS noS noS r,true⟩,wdE ws] (by
   rw [← hws,← hsp]
   exact dsplit_h s (by omega) hP (zR1 rfl) (by rw [hn0]; exact Nat.zero_le _) rfl (fun q hq=>by match q with | 0=>rfl | 1=>rfl | 2=>exact absurd rfl hq | _+3=>rfl)) (by simp [zG]) (by simp) ?_
  have hnb':(n:Int)≤(b.length:Int):=by omega
  have hn0':(0:Int)≤(n:Int):=by omega
  cases ws with
  | nil =>
   have c2:(((0:Nat):Int) == 0)=true:=rfl
   (refine zA0 hctr (rs:=res30) true 300 _ _ _ ?_; simp (maxSteps:=1000000) only [VT,jf,qE,qF,qG,qH,qI,qJ,qK,qN,qO,qP,qR,qS,qe,q0t,qu,qv,ev,qw,qy,qz,zA,zB,zC,zD,zE,zG,zI,zJ,zM,↓reduceIte,reduceCtorEq,Value.oneCell',Nat.reduceEqDiff,Nat.reduceAdd,Nat.reduceLT,zP,zQ,zR,zV,za,zl,zt,rwE,jN,hP,hk,res30,kp30,dP0,zA9,mqS,noS,zD8,Mq.zero,wdE,rwE,c2])
   exact hfin (zD9 zA5) n _ (by rw [hdoc]; rfl) rfl
  | cons name rest =>
   obtain ⟨m,hm⟩:∃ m,rest.length+1=m:=⟨_,rfl⟩
   have c2:((m:Int) == 0)=false:=by
    have:¬ (m:Int)=0:=by omega
    simpa using this
   have c3:(0:Int) < (m:Int):=by omega
   have hlr:∀ x∈rest,x.length≤5000:=fun x hx=>by have:=zU8 _ _ x (by rw [hws]; exact List.mem_cons_of_mem _ hx); omega
   have hlm:rest.length+1≤5000:=by have:=zP7 (s.length+1) s; rw [hws] at this; simp at this; omega
   have hline:docT b=endR n (zJ2 name rest (b.drop n)):=hdoc
   by_cases hg:gN name
   ·have hrd:zJ2 name rest (b.drop n)=zJ7 name rest:=by
     unfold zJ2; exact if_pos hg
    rw [hrd,end_noT n (get_noT _ _)] at hline
    obtain ⟨x,hx⟩:∃ x,(rdX (zJ7 name rest)).1=x:=⟨_,rfl⟩
    rw [hx] at hline
    have hc:=fun a cap w h1 h2 h3=>dgets_w (w:=w) (a:=a) (cap:=cap) hg h1 rfl h2 h3 hlr hlm
    rw [hx] at hc
    have hg2:=hg
    subst hm
    rcases hg2 with rfl | rfl | rfl | rfl
    all_goals
     (refine zA0 hctr (rs:=res30) true 300 _ _ _ ?_; simp (maxSteps:=1000000) only [VT,jf,jg,qH,qI,qK,qN,qO,qP,qR,qS,qX,qe,ev,qw,qy,qz,zD,zI,zJ,zM,↓reduceIte,reduceCtorEq,Nat.reduceEqDiff,Nat.reduceLT,Nat.reduceBEq,zP,zQ,zR,zT,zV,zW,zZ,zk,zw,zx,rwE,jN,hP,hk,res30,kp30,dP0,mqS,noS,Int.toNat_zero,Nat.mul_one,Int.le_refl,Mq.zero,wdE,rwE,c2,c3,lb1,lb2,lb3,lb4,u8b,UInt8.reduceToNat])
     refine zA6 rfl (.g (gqZ (gqT x) 3)) [⟨(35,0,whole),mqS noS noS Mq.zero,true⟩,⟨(35,0,whole),mqS noS noS r,true⟩,wdE (_ :: rest),cmG (gqT x),flG (gqT x)] (dreq_h (C:=C) (M:=2) (N:=3) hP (fun args w=>Tryz.call47 args w) rfl (by simp [zG]) hc (fun q=>by simp only [zG]; omega) (by rw [hn0]; exact Nat.zero_le _) rfl rfl (fun q h1 h2=>by match q with | 0=>rfl | 1=>rfl | 2=>rfl | 3=>exact absurd rfl h1 | 4=>exact absurd rfl h2 | _+5=>rfl)) (by simp [zG]) (by simp) ?_
     (refine zA0 hctr (rs:=res30) true 300 _ _ _ ?_; simp (maxSteps:=1000000) only [VT,qE,qF,qG,qH,qI,qJ,qK,qO,qP,q0t,qu,qv,ev,qy,zA,zB,zC,zD,zE,zG,zI,zJ,zM,↓reduceIte,reduceCtorEq,Nat.reduceEqDiff,Nat.reduceAdd,Nat.reduceLT,zP,zQ,zR,zZ,zk,zl,zt,rwE,jN,hP,hk,res30,kp30,mqS,noS,Mq.zero,wdE,rwE,gqZ,gqS,gqT])
     exact hpost x n 3 _ rfl rfl (by simp) hline
   by_cases hst:stN name
   ·have hrd:zJ2 name rest (b.drop n)=zB4 name rest (b.drop n):=by
     unfold zJ2; exact (if_neg hg).trans (if_pos (by rcases hst with h | h | h | h | h | h <;> simp [h]))
    rw [hrd,end_isT n (store_okT _ _ _)] at hline
    have hle:=rdX_le (store_okT name rest (b.drop n))
    obtain ⟨x,u,hx⟩:∃ x u,rdX (zB4 name rest (b.drop n))=(x,u):=⟨_,_,rfl⟩
    rw [hx] at hline hle
    simp only at hline hle
    have hst2:=hst
    have hbl:(b.drop n).length≤9223372036854775806:=by rw [List.length_drop]; omega
    have hc:=fun (en':List EN) (hN:zD en' 3=some (cmG (gqT x))) (hM:zD en' 4=some (flG (gqT x))) hq=>dstore_h (C:=C) (nE:=3) (M:=2) (N:=3) (mk:=fun q=>3≤q∧q < 5) (en:=[⟨(35,0,whole),mqS noS noS Mq.zero,true⟩,⟨(35,0,whole),mqS noS noS r,true⟩,wdE (name :: rest)]) (en':=en') (rest:=rest) (x:=(gqT x,u)) hP rfl (by decide) hst hlr hbl (by rw [hx]) (fun q=>by omega) (by rw [hn0]; exact Nat.zero_le _) hN hM hq
    subst hm
    rcases hst2 with rfl | rfl | rfl | rfl | rfl | rfl
    all_goals
     (refine zA0 hctr (rs:=res30) true 300 _ _ _ ?_; simp (maxSteps:=1000000) only [VT,jf,jg,qH,qI,qK,qN,qO,qP,qR,qS,qX,qZ,qe,ql,qm,ev,qw,qy,qz,zD,zI,zJ,zM,↓reduceIte,reduceCtorEq,Nat.reduceEqDiff,Nat.reduceLT,Nat.reduceBEq,zP,zQ,zR,zT,zV,zW,zZ,zh,zk,zw,zx,rwE,jN,hP,hk,res30,kp30,dP0,mqS,noS,Int.toNat_zero,Nat.mul_one,Int.le_refl,Mq.zero,wdE,rwE,c2,c3,hnb',hn0',List.take_length,lb1,lb2,lb3,lb4,u8b,UInt8.reduceToNat])
     refine zA6 rfl (pgV (gqT x,u) 3) [⟨(35,0,whole),mqS noS noS Mq.zero,true⟩,⟨(35,0,whole),mqS noS noS r,true⟩,wdE (_ :: rest),cmG (gqT x),flG (gqT x)] (hc _ rfl rfl (fun q h1 h2=>by match q with | 0=>rfl | 1=>rfl | 2=>rfl | 3=>exact absurd rfl h1 | 4=>exact absurd rfl h2 | _+5=>rfl)) (by simp [zG]) (by simp) ?_
     rcases hle with h7 | h7
     ·have c7:decide (u < 0)=true:=decide_eq_true h7
      rw [if_pos h7] at hline
      (refine zA0 hctr (rs:=res30) true 300 _ _ _ ?_; simp (maxSteps:=1000000) only [VT,jf,qE,qF,qG,qH,qI,qJ,qK,qO,qP,qR,qS,qf,qg,qh,q0t,qu,qv,ev,qy,qz,zA,zB,zC,zD,zE,zF,zG,zI,zJ,TE.sv,zM,↓reduceIte,reduceCtorEq,Value.oneCell',Nat.reduceEqDiff,Nat.reduceAdd,Nat.reduceLT,zP,zQ,zR,zV,zZ,zk,zl,zt,rwE,jN,hP,hk,res30,kp30,mqS,noS,Mq.zero,wdE,rwE,c7,pgV,gqZ,gqS,gqT])
      exact hfin Rq.zero 0 _ hline rfl
     ·have c7:decide (u < 0)=false:=decide_eq_false (by omega)
      rw [if_neg (show ¬ u < 0 by omega)] at hline
      have ww:IntKind.i64.wrap ((n:Int)+u)=(n:Int)+u:=IntWalk.i64_in _ (by rw [List.length_drop] at h7; omega)
      (refine zA0 hctr (rs:=res30) true 300 _ _ _ ?_; simp (maxSteps:=1000000) only [VT,jg,qE,qF,qG,qH,qI,qJ,qK,qO,qP,qR,qS,qh,q0t,qu,qv,ev,qy,qz,zA,zB,zC,zD,zE,zF,zG,zI,zJ,TE.sv,zM,↓reduceIte,reduceCtorEq,Nat.reduceEqDiff,Nat.reduceAdd,Nat.reduceLT,zP,zQ,zR,zW,zZ,zk,zl,zt,rwE,jN,hP,hk,res30,kp30,mqS,noS,Mq.zero,wdE,rwE,c7,ww,pgV,gqZ,gqS,gqT])
      exact hpost x _ 3 _ rfl rfl (by simp) hline
   have hrd:zJ2 name rest (b.drop n)=zA7 name rest:=by
    unfold zJ2; exact (if_neg hg).trans (if_neg (fun h=>hst (by rcases h with h | h | h | h | h | h <;> simp [stN,h])))
   rw [hrd,end_noT n (plain_noT _ _)] at hline
   by_cases hsh:shN name
   ·obtain ⟨x,hx⟩:∃ x,(rdX (zA7 name rest)).1=x:=⟨_,rfl⟩
    rw [hx] at hline
    have hc:=fun a cap w h1 h2 h3=>dshort_w (w:=w) (a:=a) (cap:=cap) hsh h1 rfl h2 h3 hlr
    rw [hx] at hc
    have hsh2:=hsh
    subst hm
    rcases hsh2 with rfl | rfl | rfl | rfl | rfl | rfl
    all_goals
     (refine zA0 hctr (rs:=res30) true 300 _ _ _ ?_; simp (maxSteps:=1000000) only [VT,jf,jg,qH,qI,qK,qN,qO,qP,qR,qS,qX,qe,ev,qw,qy,qz,zD,zI,zJ,zM,↓reduceIte,reduceCtorEq,Nat.reduceEqDiff,Nat.reduceLT,Nat.reduceBEq,zP,zQ,zR,zT,zV,zW,zZ,zk,zw,zx,rwE,jN,hP,hk,res30,kp30,dP0,mqS,noS,Int.toNat_zero,Nat.mul_one,Int.le_refl,Mq.zero,wdE,rwE,c2,c3,lb1,lb2,lb3,lb4,u8b,UInt8.reduceToNat])
     refine zA6 rfl (.g (gqZ (gqT x) 3)) [⟨(35,0,whole),mqS noS noS Mq.zero,true⟩,⟨(35,0,whole),mqS noS noS r,true⟩,wdE (_ :: rest),cmG (gqT x),flG (gqT x)] (dreq_h (C:=C) (M:=2) (N:=3) hP (fun args w=>Tryz.call49 args w) rfl (by simp [zG]) hc (fun q=>by simp only [zG]; omega) (by rw [hn0]; exact Nat.zero_le _) rfl rfl (fun q h1 h2=>by match q with | 0=>rfl | 1=>rfl | 2=>rfl | 3=>exact absurd rfl h1 | 4=>exact absurd rfl h2 | _+5=>rfl)) (by simp [zG]) (by simp) ?_
     (refine zA0 hctr (rs:=res30) true 300 _ _ _ ?_; simp (maxSteps:=1000000) only [VT,qE,qF,qG,qH,qI,qJ,qK,qO,qP,q0t,qu,qv,ev,qy,zA,zB,zC,zD,zE,zG,zI,zJ,zM,↓reduceIte,reduceCtorEq,Nat.reduceEqDiff,Nat.reduceAdd,Nat.reduceLT,zP,zQ,zR,zZ,zk,zl,zt,rwE,jN,hP,hk,res30,kp30,mqS,noS,Mq.zero,wdE,rwE,gqZ,gqS,gqT])
     exact hpost x n 3 _ rfl rfl (by simp) hline
   have w3:∀ x y,rest=x :: y→2≤m:=fun x y h=>by rw [← hm,h]; simp
   by_cases hv:name=[118,101,114,115,105,111,110]
   ·subst hv
    by_cases hr:rest=[]
    ·have c4:((m:Int) == 1)=true:=by rw [beq_iff_eq,← hm,hr]; rfl
     (refine zA0 hctr (rs:=res30) true 300 _ _ _ ?_; simp (maxSteps:=1000000) only [VT,jf,jg,qE,qF,qG,qH,qI,qJ,qK,qN,qO,qP,qR,qS,qX,qe,qf,qg,q0t,qu,qv,ev,qy,qz,zA,zB,zC,zD,zE,zG,zI,zJ,zM,↓reduceIte,reduceCtorEq,Value.oneCell',Nat.reduceEqDiff,Nat.reduceAdd,Nat.reduceLT,Nat.reduceBEq,zP,zQ,zR,zT,zV,zW,zZ,zk,zt,zw,zx,rwE,jN,hP,hk,res30,kp30,mqS,noS,Int.toNat_zero,Nat.mul_one,Int.le_refl,Mq.zero,wdE,rwE,hm,c2,c3,c4,lb1,lb2,lb3,lb4,u8b,UInt8.reduceToNat])
     exact hfin { Rq.zero with kind:=3 } n _ (by rw [hline]; simp [zA7,rdX,hr]) rfl
    ·have hr2:¬ rest.length=0:=fun h=>hr (List.eq_nil_of_length_eq_zero h)
     have c4:((m:Int) == 1)=false:=by rw [beq_eq_false_iff_ne]; omega
     (refine zA0 hctr (rs:=res30) true 300 _ _ _ ?_; simp (maxSteps:=1000000) only [VT,jf,jg,qE,qF,qG,qH,qI,qJ,qK,qN,qO,qP,qR,qS,qX,qe,q0t,qu,qv,ev,qw,qy,qz,zA,zB,zC,zD,zE,zG,zI,zJ,zM,↓reduceIte,reduceCtorEq,Value.oneCell',Nat.reduceEqDiff,Nat.reduceAdd,Nat.reduceLT,Nat.reduceBEq,zP,zQ,zR,zT,zV,zW,zZ,zk,zt,zw,zx,rwE,jN,hP,hk,res30,kp30,dP0,zA9,mqS,noS,zD8,Int.toNat_zero,Nat.mul_one,Int.le_refl,Mq.zero,wdE,rwE,hm,c2,c3,c4,lb1,lb2,lb3,lb4,u8b,UInt8.reduceToNat])
     exact hfin (zD9 zA5) n _ (by rw [hline]; simp [zA7,rdX,hr]) rfl
   by_cases hq:name=[113,117,105,116]
   ·subst hq
    by_cases hr:rest=[]
    ·have c4:((m:Int) == 1)=true:=by rw [beq_iff_eq,← hm,hr]; rfl
     (refine zA0 hctr (rs:=res30) true 300 _ _ _ ?_; simp (maxSteps:=1000000) only [VT,jf,jg,qE,qF,qG,qH,qI,qJ,qK,qN,qO,qP,qR,qS,qX,qe,qf,qg,q0t,qu,qv,ev,qy,qz,zA,zB,zC,zD,zE,zG,zI,zJ,zM,↓reduceIte,reduceCtorEq,Value.oneCell',Nat.reduceEqDiff,Nat.reduceAdd,Nat.reduceLT,Nat.reduceBEq,zP,zQ,zR,zT,zV,zW,zZ,zk,zt,zw,zx,rwE,jN,hP,hk,res30,kp30,mqS,noS,Int.toNat_zero,Nat.mul_one,Int.le_refl,Mq.zero,wdE,rwE,hm,c2,c3,c4,lb1,lb2,lb3,lb4,u8b,UInt8.reduceToNat])
     exact hfin { Rq.zero with kind:=6,close:=true } n _ (by rw [hline]; simp [zA7,rdX,hr]) rfl
    ·have hr2:¬ rest.length=0:=fun h=>hr (List.eq_nil_of_length_eq_zero h)
     have c4:((m:Int) == 1)=false:=by rw [beq_eq_false_iff_ne]; omega
     (refine zA0 hctr (rs:=res30) true 300 _ _ _ ?_; simp (maxSteps:=1000000) only [VT,jf,jg,qE,qF,qG,qH,qI,qJ,qK,qN,qO,qP,qR,qS,qX,qe,q0t,qu,qv,ev,qw,qy,qz,zA,zB,zC,zD,zE,zG,zI,zJ,zM,↓reduceIte,reduceCtorEq,Value.oneCell',Nat.reduceEqDiff,Nat.reduceAdd,Nat.reduceLT,Nat.reduceBEq,zP,zQ,zR,zT,zV,zW,zZ,zk,zt,zw,zx,rwE,jN,hP,hk,res30,kp30,dP0,zA9,mqS,noS,zD8,Int.toNat_zero,Nat.mul_one,Int.le_refl,Mq.zero,wdE,rwE,hm,c2,c3,c4,lb1,lb2,lb3,lb4,u8b,UInt8.reduceToNat])
     exact hfin (zD9 zA5) n _ (by rw [hline]; simp [zA7,rdX,hr]) rfl
   by_cases hs2:name=[115,116,97,116,115]
   ·subst hs2
    match rest,hm,hline,w3 with
    | [],hm,hline,_ =>
     obtain rfl:m=1:=hm.symm
     have c4:(((1:Nat):Int) == 1)=true:=rfl
     (refine zA0 hctr (rs:=res30) true 300 _ _ _ ?_; simp (maxSteps:=1000000) only [VT,jf,jg,qE,qF,qG,qH,qI,qJ,qK,qN,qO,qP,qR,qS,qX,qe,qf,qg,q0t,qu,qv,ev,qy,qz,zA,zB,zC,zD,zE,zG,zI,zJ,zM,↓reduceIte,reduceCtorEq,Value.oneCell',Nat.reduceEqDiff,Nat.reduceAdd,Nat.reduceLT,Nat.reduceBEq,zP,zQ,zR,zT,zV,zW,zZ,za,zk,zl,zt,zw,zx,rwE,jN,hP,hk,res30,kp30,mqS,noS,Int.toNat_zero,Nat.mul_one,Int.le_refl,Mq.zero,wdE,rwE,c2,c3,c4,Nat.reduceAdd,lb1,lb2,lb3,lb4,u8b,UInt8.reduceToNat])
     exact hfin { Rq.zero with kind:=5 } n _ (by rw [hline]; rfl) rfl
    | [x],hm,hline,_ =>
     obtain rfl:m=2:=hm.symm
     have c4:(((2:Nat):Int) == 1)=false:=rfl
     have c5:(((2:Nat):Int) == 2)=true:=rfl
     have z1:(0:Int)≤1:=by decide
     have z2:(1:Int) < ((2:Nat):Int):=by decide
     refine Run_alias (M:={ m:Nat // 2≤m∧m≤maxLen }) (Φ:=fun m ρ=>(SC.sl 2 0 2 m.1).den ρ=(SC.rw 2 2).den ρ) (en':=fun _=>[⟨(35,0,whole),mqS noS noS Mq.zero,true⟩,⟨(35,0,whole),mqS noS noS r,true⟩,wdE [[115,116,97,116,115],x]]) (sl':=fun m'=>[(23,.c (.sl 2 0 2 m'.1)),(5,.c (.i .i64 (n:Int))),(2,.c (.p 0 0))]) (fun ρ w hw=>row_sl (N:=2) (n:=2) hw rfl (by decide)) (fun _=>aliE_same _ _ _) (fun _=>⟨⟨_,rfl,fun _ h=>h,id⟩,⟨_,rfl,fun _ _=>rfl,id⟩,⟨_,rfl,fun _ _=>rfl,id⟩,trivial⟩) (fun m'=>?_)
     (refine zA0 hctr (rs:=res30) true 300 _ _ _ ?_; simp (maxSteps:=1000000) only [VT,jf,jg,qE,qF,qG,qH,qI,qJ,qK,qN,qO,qP,qR,qS,qX,qe,qf,qg,q0t,qu,qv,ev,qy,qz,zA,zB,zC,zD,zE,zG,zI,zJ,zM,↓reduceIte,reduceCtorEq,Value.oneCell',Nat.reduceEqDiff,Nat.reduceAdd,Nat.reduceLT,Nat.reduceBEq,zP,zQ,zR,zT,zV,zW,zZ,za,zk,zl,zt,zu,zw,zx,rwE,hP,hk,res30,kp30,mqS,noS,Int.toNat_zero,Int.toNat_one,Nat.mul_one,Int.le_refl,Mq.zero,wdE,rwE,c2,c3,c4,c5,z1,z2,Nat.reduceAdd,lb1,lb2,lb3,lb4,u8b,UInt8.reduceToNat])
     exact hfin { Rq.zero with kind:=5,arg:=x } n _ (by rw [hline]; rfl) rfl
    | x :: y :: l,hm,hline,_ =>
     have hm2:l.length+3=m:=hm
     have hm:l.length+1+1+1=m:=hm
     have c4:((m:Int) == 1)=false:=by rw [beq_eq_false_iff_ne]; omega
     have c5:((m:Int) == 2)=false:=by rw [beq_eq_false_iff_ne]; omega
     (refine zA0 hctr (rs:=res30) true 300 _ _ _ ?_; simp (maxSteps:=1000000) only [VT,jf,jg,qE,qF,qG,qH,qI,qJ,qK,qN,qO,qP,qR,qS,qX,qe,q0t,qu,qv,ev,qw,qy,qz,zA,zB,zC,zD,zE,zG,zI,zJ,zM,↓reduceIte,reduceCtorEq,Value.oneCell',Nat.reduceEqDiff,Nat.reduceAdd,Nat.reduceLT,Nat.reduceBEq,zP,zQ,zR,zT,zV,zW,zZ,zk,zt,zw,zx,rwE,jN,hP,hk,res30,kp30,dP0,zA9,mqS,noS,zD8,Int.toNat_zero,Nat.mul_one,Int.le_refl,Mq.zero,wdE,rwE,hm,c2,c3,c4,c5,lb1,lb2,lb3,lb4,u8b,UInt8.reduceToNat])
     exact hfin (zD9 zA5) n _ (by rw [hline]; rfl) rfl
   ·have hno:∀ l:List UInt8,(name=l→False)→(name == l)=false:=fun l h=>by rw [beq_eq_false_iff_ne]; exact h
    have n1:=hno [103,101,116] (fun h=>hg (by unfold gN; simp [h]))
    have n2:=hno [103,101,116,115] (fun h=>hg (by unfold gN; simp [h]))
    have n3:=hno [103,97,116] (fun h=>hg (by unfold gN; simp [h]))
    have n4:=hno [103,97,116,115] (fun h=>hg (by unfold gN; simp [h]))
    have n5:=hno [115,101,116] (fun h=>hst (by unfold stN; simp [h]))
    have n6:=hno [97,100,100] (fun h=>hst (by unfold stN; simp [h]))
    have n7:=hno [114,101,112,108,97,99,101] (fun h=>hst (by unfold stN; simp [h]))
    have n8:=hno [97,112,112,101,110,100] (fun h=>hst (by unfold stN; simp [h]))
    have n9:=hno [112,114,101,112,101,110,100] (fun h=>hst (by unfold stN; simp [h]))
    have n10:=hno [99,97,115] (fun h=>hst (by unfold stN; simp [h]))
    have n11:=hno [105,110,99,114] (fun h=>hsh (by unfold shN; simp [h]))
    have n12:=hno [100,101,99,114] (fun h=>hsh (by unfold shN; simp [h]))
    have n13:=hno [116,111,117,99,104] (fun h=>hsh (by unfold shN; simp [h]))
    have n14:=hno [100,101,108,101,116,101] (fun h=>hsh (by unfold shN; simp [h]))
    have n15:=hno [102,108,117,115,104,95,97,108,108] (fun h=>hsh (by unfold shN; simp [h]))
    have n16:=hno [118,101,114,98,111,115,105,116,121] (fun h=>hsh (by unfold shN; simp [h]))
    have n17:=hno [118,101,114,115,105,111,110] hv
    have n18:=hno [113,117,105,116] hq
    have n19:=hno [115,116,97,116,115] hs2
    have hpl:zA7 name rest=.fault zA5:=by
     simp only [beq_eq_false_iff_ne,ne_eq] at n1 n2 n3 n4 n5 n6 n7 n8 n9 n10 n11 n12 n13 n14 n15 n16 n17 n18 n19
     simp only [zA7,n11,n12,n13,n14,n15,n16,n17,n18,n19,or_self,if_false]
    (refine zA0 hctr (rs:=res30) true 300 _ _ _ ?_; simp (maxSteps:=1000000) only [VT,jg,qE,qF,qG,qH,qI,qJ,qK,qN,qO,qP,qR,qS,qX,qe,q0t,qu,qv,ev,qw,qy,qz,zA,zB,zC,zD,zE,zG,zI,zJ,zM,↓reduceIte,reduceCtorEq,Value.oneCell',Nat.reduceEqDiff,Nat.reduceAdd,Nat.reduceLT,zP,zQ,zR,zT,zW,zZ,zk,zt,rwE,jN,hP,hk,res30,kp30,dP0,zA9,mqS,noS,zD8,Int.toNat_zero,Nat.mul_one,Int.le_refl,Mq.zero,wdE,rwE,hm,c2,c3,n1,n2,n3,n4,n5,n6,n7,n8,n9,n10,n11,n12,n13,n14,n15,n16,n17,n18,n19])
    exact hfin (zD9 zA5) n _ (by rw [hline,hpl]; rfl) rfl
end Go.Proofs.YtcbmlanpianclaaGreatDoor
/- The document's Parse of a connection (ambryref22), walked. Printed by gen_dt10.py. -/
namespace Go.Proofs.YtcbmlanpianclaaGreatDoor
set_option linter.unusedSimpArgs false
set_option linter.unusedVariables false
set_option maxHeartbeats 8000000
open Go.RowKit
set_option maxRecDepth 100000
def dQ0:Ctr:=fun f _ xs=>match f with
 | 27=>zJ6 xs
 | _=>none
theorem dQ0_ok {C:Cx} (hP:C.P=Tryz.prog):zC1 C dQ0:=by
 intro f en xs p v h hp ρ w hup hHp hHo hinj hwf
 unfold dQ0 at h
 split at h
 ·rw [hP]
  refine ⟨fun args w=>Tryz.call27 args w,?_⟩
  unfold zJ6 at h
  split at h <;> simp only [Option.some.injEq,Prod.mk.injEq,reduceCtorEq] at h
  obtain ⟨rfl,rfl⟩:=h
  exact ⟨by simp [SV.wf,TE.wf,SC.wf],dline_w _ hp w⟩
 ·cases h
theorem metaB_iff (name:List UInt8):zX1 name=true ↔ name=[109,110]∨name=[109,101]∨name=[109,103]∨name=[109,115]∨name=[109,100]∨name=[109,97]:=by
 constructor
 ·intro h
  unfold zX1 at h
  split at h
  ·rename_i m x
   simp only [Bool.and_eq_true,beq_iff_eq,List.contains_iff_mem,List.mem_cons,List.not_mem_nil,or_false] at h
   obtain ⟨rfl,h⟩:=h
   rcases h with rfl | rfl | rfl | rfl | rfl | rfl <;> simp
  ·cases h
 ·rintro (rfl | rfl | rfl | rfl | rfl | rfl) <;> rfl
theorem dm_g {b:List UInt8} (hb:b.length≤9223372036854775806) {w:World} (hE:Env w):Calls Tryz.prog 29 #[.string ⟨b.toArray⟩] w (GPost w (gqM (zE9 b).1,(zE9 b).2)):=by
 refine (dparse_w b hb w hE).mono ?_
 rintro z w' ⟨hbl,v,rfl,h⟩
 exact ⟨hbl,v,rfl,GqV.ofM h⟩
theorem dcparse_w (b:List UInt8) (hb:b.length≤9223372036854775806) (w:World) (hE0:Env w):Calls Tryz.prog 19 #[.string ⟨b.toArray⟩] w (GPost w (zG4 b)):=by
 refine zA1 Tryz.func19 rfl kp19 (S:=Non) (ρ:=fun _=>zG7 0) (en:=[]) [.c (.s b)] Tryz.ntmps19 (At.nil _ _ _) (by simp [SV.wf,SC.wf]) (by simp) ?_
 intro C hC hP hk
 have hctr:=dQ0_ok hP
 have hE:∀ w',Upd C.S C.w0 w'→Env w':=fun w' hu=>by rw [hC] at hu; exact hE0.below hu.to_below
 have hS:C.S=Non:=by rw [hC]; rfl
 have hw0:C.w0=w:=by rw [hC]; rfl
 have hn0:C.n0=0:=by rw [hC]; rfl
 have hpost:∀ (x:Gq × Int) (N:Nat) en,zD en N=some (cmG x.1)→zD en (N+1)=some (flG x.1)→N+2≤en.length→zG4 b=x→Fin C res19 (.t [.g (gqZ x.1 N),.c (.i .i64 x.2)]) en:=fun x N en h1 h2 hlen hx=>by
  refine zC3 (v:=.t [.g (gqZ x.1 N),.c (.i .i64 x.2)]) hC hres19 fun ρ w' hw _ _=>?_
  have hup:=hw.up
  rw [hC] at hup
  have k1:=RowOk.of (N:=N) (n:=x.1.cmds.length) (z:=16) (e:=52) (cells:=zC2 ecS x.1.cmds) hw hS h1 (by decide)
  have k2:=RowOk.of (N:=N+1) (n:=x.1.flags.length) (z:=1) (e:=9) (cells:=x.1.flags.map SC.s) hw hS h2 (by decide)
  rw [hw0] at k1 k2
  rw [zE7] at k1
  rw [zF4] at k2
  rw [hx]
  refine ⟨hup.to_below,_,rfl,⟨ρ N,ρ (N+1),rfl,k1,k2,fun h3 h4 he=>?_⟩⟩
  have:=hw.inj N (N+1) (by show N < en.length; omega) (by show N+1 < en.length; omega) ((zA4 h1).2 ⟨by show ¬ ((52:Nat)=zC9); decide,h3⟩) ((zA4 h2).2 ⟨by show ¬ ((9:Nat)=zC9); decide,h4⟩) he
  omega
 have ht:∀ w',Upd C.S C.w0 w'→Calls Tryz.prog 30 #[.string ⟨b.toArray⟩] w' (GPost w' (gqT (docT b).1,(docT b).2)):=fun w' hu=>dtparse_w b hb w'
 have hm:∀ w',Upd C.S C.w0 w'→Calls Tryz.prog 29 #[.string ⟨b.toArray⟩] w' (GPost w' (gqM (docP b).1,(docP b).2)):=fun w' hu=>by rw [doc_is]; exact dm_g hb (hE w' hu)
 have hdc:=docC_is b
 obtain ⟨s,n,hsn⟩:∃ s n,zB1 b=(s,n):=⟨_,_,rfl⟩
 have hdm:docM b=(decide (0 < n∧n≤2048) && zX1 ((zL2 s [] []).headD [])):=by unfold docM; rw [hsn]
 have d0:∀ n:Nat,decide ((n:Int) > 0)=decide (0 < n):=fun n=>by simp
 by_cases h0:0 < n
 rotate_left
 ·have c1:decide ((0:Int) < (n:Int))=false:=decide_eq_false (by omega)
  have hmf:docM b=false:=by rw [hdm,decide_eq_false (by omega)]; rfl
  rw [hmf,if_neg (by simp)] at hdc
  (refine zA0 hctr (rs:=res19) true 300 _ _ _ ?_; simp (maxSteps:=1000000) only [VT,jg,aA,qH,qI,qK,qO,qR,qS,qh,qp,ev,qw,qy,qz,zD,zF,zG,zI,zJ,TE.sv,zK,zM,↓reduceIte,reduceCtorEq,Nat.reduceEqDiff,Nat.reduceLT,zP,zQ,zR,zW,hP,hk,res19,kp19,dQ0,zJ6,hsn,c1])
  refine ⟨hb,?_⟩
  obtain ⟨xq,hxq⟩:∃ xq:Gq × Int,(gqT (docT b).1,(docT b).2)=xq:=⟨_,rfl⟩
  rw [hxq] at hdc ht
  refine zA6 rfl (pgV xq 1) [⟨(35,0,whole),mqS noS noS Mq.zero,true⟩,cmG xq.1,flG xq.1] (zK5 (C:=C) (N:=1) (ys:=[.c (.s b)]) hP (fun args w=>Tryz.call30 args w) (fun ρ w hu=>ht w hu) (fun q=>by simp only [zG]; omega) (by rw [hn0]; exact Nat.zero_le _) rfl rfl (fun q h1 h2=>by match q with | 0=>rfl | 1=>exact absurd rfl h1 | 2=>exact absurd rfl h2 | _+3=>rfl)) (by simp [zG]) (by simp) ?_
  (refine zA0 hctr (rs:=res19) true 300 _ _ _ ?_; simp (maxSteps:=1000000) only [VT,qE,qF,qG,qH,qI,qJ,qK,qO,qP,qh,q0t,qu,qv,ev,qy,zA,zB,zC,zD,zE,zG,zI,zJ,TE.sv,zM,↓reduceIte,reduceCtorEq,Nat.reduceEqDiff,Nat.reduceAdd,Nat.reduceLT,zP,zQ,zR,zt,jN,hP,hk,res19,kp19,mqS,noS,Mq.zero,pgV,gqZ,gqS])
  exact hpost xq 1 _ rfl rfl (by simp) hdc
 have c1:decide ((0:Int) < (n:Int))=true:=decide_eq_true (by omega)
 by_cases h1:n≤2048
 rotate_left
 ·have c2:decide ((n:Int)≤2048)=false:=decide_eq_false (by omega)
  have hmf:docM b=false:=by rw [hdm,decide_eq_false (by omega)]; rfl
  rw [hmf,if_neg (by simp)] at hdc
  (refine zA0 hctr (rs:=res19) true 300 _ _ _ ?_; simp (maxSteps:=1000000) only [VT,jf,jg,jZ,qH,qI,qK,qO,qR,qS,qh,qp,ev,qw,qy,qz,zD,zF,zG,zI,zJ,TE.sv,zK,zM,↓reduceIte,reduceCtorEq,Nat.reduceEqDiff,Nat.reduceLT,zP,zQ,zR,zV,zW,hP,hk,res19,kp19,dQ0,zJ6,hsn,c1,c2])
  refine ⟨hb,?_⟩
  obtain ⟨xq,hxq⟩:∃ xq:Gq × Int,(gqT (docT b).1,(docT b).2)=xq:=⟨_,rfl⟩
  rw [hxq] at hdc ht
  refine zA6 rfl (pgV xq 1) [⟨(35,0,whole),mqS noS noS Mq.zero,true⟩,cmG xq.1,flG xq.1] (zK5 (C:=C) (N:=1) (ys:=[.c (.s b)]) hP (fun args w=>Tryz.call30 args w) (fun ρ w hu=>ht w hu) (fun q=>by simp only [zG]; omega) (by rw [hn0]; exact Nat.zero_le _) rfl rfl (fun q h1 h2=>by match q with | 0=>rfl | 1=>exact absurd rfl h1 | 2=>exact absurd rfl h2 | _+3=>rfl)) (by simp [zG]) (by simp) ?_
  (refine zA0 hctr (rs:=res19) true 300 _ _ _ ?_; simp (maxSteps:=1000000) only [VT,qE,qF,qG,qH,qI,qJ,qK,qO,qP,qh,q0t,qu,qv,ev,qy,zA,zB,zC,zD,zE,zG,zI,zJ,TE.sv,zM,↓reduceIte,reduceCtorEq,Nat.reduceEqDiff,Nat.reduceAdd,Nat.reduceLT,zP,zQ,zR,zt,jN,hP,hk,res19,kp19,mqS,noS,Mq.zero,pgV,gqZ,gqS])
  exact hpost xq 1 _ rfl rfl (by simp) hdc
 have c2:decide ((n:Int)≤2048)=true:=decide_eq_true (by omega)
 rw [decide_eq_true ⟨h0,h1⟩,Bool.true_and] at hdm
 have hsl:s.length≤2048:=by
  have:=front_len (b:=b) (by unfold zB7; rw [hsn,if_pos ⟨h0,h1⟩])
  unfold zB7 at this
  rw [hsn,if_pos ⟨h0,h1⟩] at this
  exact this.1
 (refine zA0 hctr (rs:=res19) true 300 _ _ _ ?_; simp (maxSteps:=1000000) only [VT,jf,jZ,qH,qI,qK,qO,qR,qS,qh,qp,ev,qw,qy,qz,zD,zF,zG,zI,zJ,TE.sv,zK,zM,↓reduceIte,reduceCtorEq,Nat.reduceEqDiff,Nat.reduceLT,zP,zQ,zR,zV,hP,hk,res19,kp19,dQ0,zJ6,hsn,c1,c2])
 refine ⟨hb,?_⟩
 obtain ⟨ws,hws⟩:∃ ws,zL2 s [] []=ws:=⟨_,rfl⟩
 rw [hws] at hdm
 refine zA6 rfl (.c (.rw 1 ws.length)) [⟨(35,0,whole),mqS noS noS Mq.zero,true⟩,wdE ws] (by
  rw [← hws]
  exact dsplit_h s (by omega) hP (zR1 rfl) (by rw [hn0]; exact Nat.zero_le _) rfl (fun q hq=>by match q with | 0=>rfl | 1=>exact absurd rfl hq | _+2=>rfl)) (by simp [zG]) (by simp) ?_
 cases ws with
 | nil =>
  have hmf:docM b=false:=hdm
  rw [hmf,if_neg (by simp)] at hdc
  have c3:decide ((0:Int) < ((0:Nat):Int))=false:=rfl
  (refine zA0 hctr (rs:=res19) true 300 _ _ _ ?_; simp (maxSteps:=1000000) only [VT,jg,qH,qI,qK,qN,qO,qR,qS,qe,ev,qw,qy,qz,zI,zJ,zM,↓reduceIte,reduceCtorEq,Nat.reduceEqDiff,Nat.reduceLT,zP,zQ,zR,zW,za,zl,rwE,jN,hP,hk,res19,kp19,dQ0,mqS,noS,Mq.zero,wdE,rwE,c3])
  obtain ⟨xq,hxq⟩:∃ xq:Gq × Int,(gqT (docT b).1,(docT b).2)=xq:=⟨_,rfl⟩
  rw [hxq] at hdc ht
  refine zA6 rfl (pgV xq 2) [⟨(35,0,whole),mqS noS noS Mq.zero,true⟩,wdE [],cmG xq.1,flG xq.1] (zK5 (C:=C) (N:=2) (ys:=[.c (.s b)]) hP (fun args w=>Tryz.call30 args w) (fun ρ w hu=>ht w hu) (fun q=>by simp only [zG]; omega) (by rw [hn0]; exact Nat.zero_le _) rfl rfl (fun q h1 h2=>by match q with | 0=>rfl | 1=>rfl | 2=>exact absurd rfl h1 | 3=>exact absurd rfl h2 | _+4=>rfl)) (by simp [zG]) (by simp) ?_
  (refine zA0 hctr (rs:=res19) true 300 _ _ _ ?_; simp (maxSteps:=1000000) only [VT,qE,qF,qG,qH,qI,qJ,qK,qO,qP,qh,q0t,qu,qv,ev,qy,zA,zB,zC,zD,zE,zG,zI,zJ,TE.sv,zM,↓reduceIte,reduceCtorEq,Nat.reduceEqDiff,Nat.reduceAdd,Nat.reduceLT,zP,zQ,zR,za,zl,zt,rwE,jN,hP,hk,res19,kp19,mqS,noS,Mq.zero,wdE,rwE,pgV,gqZ,gqS])
  exact hpost xq 2 _ rfl rfl (by simp) hdc
 | cons name rest =>
  have c3:decide ((0:Int) < ((rest.length+1:Nat):Int))=true:=decide_eq_true (by omega)
  have c4:(0:Int) < ((rest.length+1:Nat):Int):=by omega
  have hdm:docM b=zX1 name:=hdm
  cases hmb:zX1 name with
  | true =>
   rw [hdm,hmb,if_pos rfl] at hdc
   have hn:=(metaB_iff name).1 hmb
   rcases hn with rfl | rfl | rfl | rfl | rfl | rfl
   all_goals
    (refine zA0 hctr (rs:=res19) true 300 _ _ _ ?_; simp (maxSteps:=1000000) only [VT,jf,jg,qH,qI,qK,qN,qO,qP,qR,qS,qX,qe,ev,qw,qy,qz,zD,zI,zJ,zM,↓reduceIte,reduceCtorEq,Nat.reduceEqDiff,Nat.reduceLT,Nat.reduceBEq,zP,zQ,zR,zT,zV,zW,zZ,zk,zo,zw,zx,rwE,jN,hP,hk,res19,kp19,dQ0,mqS,noS,Int.toNat_zero,Nat.mul_one,Int.le_refl,Mq.zero,wdE,rwE,c4,lb1,lb4,u8b,UInt8.reduceToNat])
    obtain ⟨xq,hxq⟩:∃ xq:Gq × Int,(gqM (docP b).1,(docP b).2)=xq:=⟨_,rfl⟩
    rw [hxq] at hdc hm
    refine zA6 rfl (pgV xq 2) [⟨(35,0,whole),mqS noS noS Mq.zero,true⟩,wdE (_ :: rest),cmG xq.1,flG xq.1] (zK5 (C:=C) (N:=2) (ys:=[.c (.s b)]) hP (fun args w=>Tryz.call29 args w) (fun ρ w hu=>hm w hu) (fun q=>by simp only [zG]; omega) (by rw [hn0]; exact Nat.zero_le _) rfl rfl (fun q h1 h2=>by match q with | 0=>rfl | 1=>rfl | 2=>exact absurd rfl h1 | 3=>exact absurd rfl h2 | _+4=>rfl)) (by simp [zG]) (by simp) ?_
    (refine zA0 hctr (rs:=res19) true 300 _ _ _ ?_; simp (maxSteps:=1000000) only [VT,qE,qF,qG,qH,qI,qJ,qK,qO,qP,qh,q0t,qu,qv,ev,qy,zA,zB,zC,zD,zE,zG,zI,zJ,TE.sv,zM,↓reduceIte,reduceCtorEq,Nat.reduceEqDiff,Nat.reduceAdd,Nat.reduceLT,zP,zQ,zR,zZ,zk,zt,rwE,jN,hP,hk,res19,kp19,mqS,noS,Mq.zero,wdE,rwE,pgV,gqZ,gqS])
    exact hpost xq 2 _ rfl rfl (by simp) hdc
  | false =>
   rw [hdm,hmb,if_neg (by simp)] at hdc
   have hno:∀ l:List UInt8,zX1 l=true→(name == l)=false:=fun l h=>by
    rw [beq_eq_false_iff_ne]; rintro rfl; rw [hmb] at h; cases h
   have n1:=hno [109,110] rfl
   have n2:=hno [109,101] rfl
   have n3:=hno [109,103] rfl
   have n4:=hno [109,115] rfl
   have n5:=hno [109,100] rfl
   have n6:=hno [109,97] rfl
   (refine zA0 hctr (rs:=res19) true 300 _ _ _ ?_; simp (maxSteps:=1000000) only [VT,jf,jg,qH,qI,qK,qN,qO,qP,qR,qS,qX,qe,ev,qw,qy,qz,zD,zI,zJ,zM,↓reduceIte,reduceCtorEq,Nat.reduceEqDiff,Nat.reduceLT,zP,zQ,zR,zT,zV,zW,zZ,zk,zo,rwE,jN,hP,hk,res19,kp19,dQ0,mqS,noS,Int.toNat_zero,Nat.mul_one,Int.le_refl,Mq.zero,wdE,rwE,c4,n1,n2,n3,n4,n5,n6])
   obtain ⟨xq,hxq⟩:∃ xq:Gq × Int,(gqT (docT b).1,(docT b).2)=xq:=⟨_,rfl⟩
   rw [hxq] at hdc ht
   refine zA6 rfl (pgV xq 2) [⟨(35,0,whole),mqS noS noS Mq.zero,true⟩,wdE (name :: rest),cmG xq.1,flG xq.1] (zK5 (C:=C) (N:=2) (ys:=[.c (.s b)]) hP (fun args w=>Tryz.call30 args w) (fun ρ w hu=>ht w hu) (fun q=>by simp only [zG]; omega) (by rw [hn0]; exact Nat.zero_le _) rfl rfl (fun q h1 h2=>by match q with | 0=>rfl | 1=>rfl | 2=>exact absurd rfl h1 | 3=>exact absurd rfl h2 | _+4=>rfl)) (by simp [zG]) (by simp) ?_
   (refine zA0 hctr (rs:=res19) true 300 _ _ _ ?_; simp (maxSteps:=1000000) only [VT,qE,qF,qG,qH,qI,qJ,qK,qO,qP,qh,q0t,qu,qv,ev,qy,zA,zB,zC,zD,zE,zG,zI,zJ,TE.sv,zM,↓reduceIte,reduceCtorEq,Nat.reduceEqDiff,Nat.reduceAdd,Nat.reduceLT,zP,zQ,zR,zZ,zk,zt,rwE,jN,hP,hk,res19,kp19,mqS,noS,Mq.zero,wdE,rwE,pgV,gqZ,gqS])
   exact hpost xq 2 _ rfl rfl (by simp) hdc
end Go.Proofs.YtcbmlanpianclaaGreatDoor
/- A call that turns the cells of an entry, and hands back two pieces of memory of its own. No program in sight. -/
namespace Go.Proofs.YtcbmlanpianclaaGreatDoor
set_option linter.unusedSimpArgs false
set_option linter.unusedVariables false
open Go.RowKit
theorem freshT2_h {C:Cx} {nE G N M:Nat} {ty:TypeId × Nat × (RE→Prop)} {cells cells':List SC} {mk:Nat→Prop} {en en':List EN} {f:FuncId} {xs:List SV} {v:SV} {e1 e2:EN} {vals1 vals2:List Value} (hent:∀ args w,(callFunc f args).run C.P w=.ok (.enter f args) w)
  (hmk:∀ q,mk q ↔ q=N∨q=M) (hNM:N ≠ M) (hn0:C.n0≤N) (hm0:C.n0≤M) (hN:zD en' N=some e1) (hM:zD en' M=some e2) (hG:zD en G=some ⟨ty,cells,true⟩) (hGn:G < nE) (hty:ty.1 ≠ zC9) (hGc:cells ≠ []) (hGw:∀ pr,wfs pr cells') (hq:∀ q,q ≠ N→q ≠ M→zD en' q=zD (zE en G ⟨ty,cells',true⟩) q) (hl1:e1.ty.1 ≠ zC9) (hl2:e2.ty.1 ≠ zC9)
  (hc1:∀ ρ,zB8 ρ e1.cells=vals1) (hc2:∀ ρ,zB8 ρ e2.cells=vals2) (hwf1:∀ pr,wfs pr e1.cells) (hwf2:∀ pr,wfs pr e2.cells) (hvw:∀ pr:Nat→Prop,pr N→pr M→v.wf pr)
  (h:∀ ρ pr w,Hw C ρ pr en w→(∀ c,c < nE→pr c)→(∀ x∈xs,x.wf pr)→Calls C.P f (xs.map (SV.den ρ)).toArray w fun z w'=>∃ r1 r2,Made w w' e1 vals1 r1∧Made w w' e2 vals2 r2∧(r1.nl=none→r2.nl=none→r1.blk ≠ r2.blk)∧(∀ ρ':Nat→RE,(∀ c,pr c→ρ' c=ρ c)→ρ' N=r1→ρ' M=r2→z=.returned (v.den ρ'))∧Upd (One (ρ G).blk) w w'∧w'.heap[(ρ G).blk]?=some (.cells ((ρ G).pre++zB8 ρ cells'++(ρ G).post).toArray ty.1 (0,0))) :
  zJ0 C nE mk en en' f xs v:=by
 refine ⟨hent,?_⟩
 intro ρ pr w hpr hmn hw hex hx
 refine (h ρ pr w hw hpr hx).mono ?_
 rintro z w' ⟨r1,r2,⟨a1,a2,a3,a4,a6⟩,⟨b1,b2,b3,b4,b6⟩,hne,k5,hU,hbG⟩
 have lG:=hpr G hGn
 have hnlG:(ρ G).nl=none:=Decidable.byContradiction fun hd=>hGc ((hw.hp G _ _ _ lG hG).non hd)
 have hpl:∀ c,pr c→c < en.length:=by
  intro q hq
  refine Decidable.byContradiction fun hd=>hex q hq ?_
  rw [zA3,List.getElem?_eq_none (by omega)]
 have hw1:=hw.turn hpl lG hG hty hnlG hU hbG (hGw _)
 have hdd:∀ q,zG5 (ρ q) (zD (zE en G ⟨ty,cells',true⟩) q)=false→zG5 (ρ q) (zD en q)=false:=by
  intro q h
  by_cases e:q=G
  ·subst e; rw [nth_set hG] at h; rw [zA4 hG]; exact (zA4 (en:=[⟨ty,cells',true⟩]) (c:=0) rfl).1 h
  ·rwa [zG8 e] at h
 have lN:¬ pr N:=hmn _ ((hmk _).2 (.inl rfl))
 have lM:¬ pr M:=hmn _ ((hmk _).2 (.inr rfl))
 have hup1:zK7 ρ N r1 N=r1:=if_pos rfl
 obtain ⟨en1,hen1⟩:∃ en1,en1=zE en' M (zH4 e2):=⟨_,rfl⟩
 have h1N:zD en1 N=some e1:=by rw [hen1,zG8 hNM]; exact hN
 have h1q:∀ q,q ≠ N→q ≠ M→zD en1 q=zD (zE en G ⟨ty,cells',true⟩) q:=fun q h1 h2=>by rw [hen1,zG8 h2]; exact hq q h1 h2
 obtain ⟨g1,g2⟩:=Hw.rebuild (C:=C) (ρ:=ρ) (pr:=pr) (en:=zE en G ⟨ty,cells',true⟩) (en':=en1) (w:=w') (w':=w') (N:=N) (e:=e1) (T:=Non) r1 hw1 lN hn0 (Upd.refl _ _) (fun _ _ h=>h.elim)
  (fun q hpq=>.inl ⟨h1q q (fun e=>lN (e ▸ hpq)) (fun e=>lM (e ▸ hpq)),fun _ h=>h⟩) h1N
  ⟨fun hh=>by rw [hup1] at hh ⊢; rw [hc1]; exact (a3 hh.2).2,hwf1 _,fun hd=>absurd hd hl1,fun hh=>by rw [hup1] at hh; exact a4 hh⟩ ⟨a1,a2⟩
  (fun hnl q hpq hd=>by
   rw [h1q q (fun e=>lN (e ▸ hpq)) (fun e=>lM (e ▸ hpq))] at hd
   have:=hw.lt hpq (hdd q hd)
   have:=(a3 hnl).1
   omega)
  (fun _=>.inr (by
   have:=hw.up.size
   by_cases hnl:r1.nl=none
   ·have:=(a3 hnl).1; omega
   ·have:=a6 hnl; omega))
 have lM':¬ (pr M∨M=N):=fun h=>h.elim lM (fun h=>hNM h.symm)
 have hup2:zK7 (zK7 ρ N r1) M r2 M=r2:=if_pos rfl
 have hup21:zK7 (zK7 ρ N r1) M r2 N=r1:=by
  rw [show zK7 (zK7 ρ N r1) M r2 N=zK7 ρ N r1 N from if_neg hNM]; exact hup1
 obtain ⟨g3,g4⟩:=Hw.rebuild (C:=C) (ρ:=zK7 ρ N r1) (pr:=fun q=>pr q∨q=N) (en:=en1) (en':=en') (w:=w') (w':=w') (N:=M) (e:=e2) (T:=Non) r2 g2 lM' hm0 (Upd.refl _ _) (fun _ _ h=>h.elim)
  (fun q hpq=>.inl ⟨by
   have hqM:q ≠ M:=fun e=>lM' (e ▸ hpq)
   rw [hen1,zG8 hqM],fun _ h=>h⟩) hM
  ⟨fun hh=>by rw [hup2] at hh ⊢; rw [hc2]; exact (b3 hh.2).2,hwf2 _,fun hd=>absurd hd hl2,fun hh=>by rw [hup2] at hh; exact b4 hh⟩ ⟨b1,b2⟩
  (fun hnl q hpq hd=>by
   have hqM:q ≠ M:=fun e=>lM' (e ▸ hpq)
   rcases hpq with hpq | rfl
   ·have hqN:q ≠ N:=fun e=>lN (e ▸ hpq)
    rw [show zK7 ρ N r1 q=ρ q from if_neg hqN] at hd ⊢
    rw [hq q hqN hqM] at hd
    have:=hw.lt hpq (hdd q hd)
    have:=(b3 hnl).1
    omega
   ·rw [hup1] at hd ⊢
    rw [hN] at hd
    exact hne (by
     cases e1 with | mk t c m=>cases t with | mk t1 t2=>simp [zG5] at hd; exact hd.2) hnl)
  (fun _=>.inr (by
   have:=hw.up.size
   by_cases hnl:r2.nl=none
   ·have:=(b3 hnl).1; omega
   ·have:=b6 hnl; omega))
 have hsame:(fun q=>(pr q∨q=N)∨q=M)=fun q=>pr q∨mk q:=funext fun q=>propext (by rw [hmk]; exact or_assoc)
 rw [hsame] at g4
 refine ⟨zK7 (zK7 ρ N r1) M r2,fun c hc=>(g3 c (.inl hc)).trans (g1 c hc),k5 _ (fun c hc=>(g3 c (.inl hc)).trans (g1 c hc)) hup21 hup2,hvw _ (.inr ((hmk _).2 (.inl rfl))) (.inr ((hmk _).2 (.inr rfl))),g4,fun q hq'=>?_⟩
 rcases (hmk q).1 hq' with rfl | rfl
 ·rw [hN]; exact fun h=>nomatch h
 ·rw [hM]; exact fun h=>nomatch h
end Go.Proofs.YtcbmlanpianclaaGreatDoor
/- A call that changes memory, guarded, in a region that follows the text. No program in sight. -/
namespace Go.Proofs.YtcbmlanpianclaaGreatDoor
set_option linter.unusedSimpArgs false
set_option linter.unusedVariables false
open Go.RowKit
section
variable {C:Cx} {nt:Nat} {sl:List (Nat × SV)} {en:List EN} {k:List KI}
theorem Run_hcallG {dst:Option Nat} {f:FuncId} {args:Array Operand} {tys:Array TypeId} {ty:TypeId} {pos:String} {af:Array Edge} {all r:List Oper} {xs:List SV} {gd:Option (Nat × Bool)} (hg:gdT all sl gd=true) (hxs:qw sl args.toList=some xs) (v:SV) (en':List EN)
  (hH:zJ0 C (zG en) (fun c=>zG en≤c∧c < zG en') en en' f xs v) (hn:zG en≤zG en') (hd:∀ d,dst=some d→d < nt) (hK:Run C (.ops all r :: k) nt (jN dst v sl) en') :
  Run C (.ops all (⟨dst,.call ⟨.value (.func f),args,tys⟩,ty,pos,af,gd⟩ :: r) :: k) nt sl en:=by
 rw [zC8] at hn
 rw [zC8] at hn
 obtain ⟨k1,k2⟩:=hH
 refine zF9 hxs hg k1 fun ρ a w hr g2=>?_
 refine (k2 ρ (· < en.length) w (fun c hc=>by rw [zC8] at hc; exact hc) (fun c hc=>by rw [zC8] at hc; omega) hr.hw (fun c hc=>by rw [zA3,List.getElem?_eq_getElem hc]; simp) g2).mono ?_
 rintro e w' ⟨ρ',hρ,rfl,hvw,hw',_⟩
 have hiff:∀ c,c < en'.length ↔ (c < en.length∨(zG en≤c∧c < zG en')):=fun c=>by rw [zC8,zC8]; omega
 have hr1:Rep C ρ' nt sl en' a w':=by
  refine ⟨hw'.iff hiff,fun d u hd=>?_,hr.sz,hr.df,by have:=hr.n0; omega⟩
  obtain ⟨h1,h2⟩:=hr.tm d u hd
  rw [SV.den_congr h2 hρ]
  exact ⟨h1,SV.wf_mono h2 (fun c hc=>by omega)⟩
 refine .inl ⟨_,rfl,hK ρ' _ w' ?_⟩
 cases dst with
 | none=>exact hr1
 | some d=>exact hr1.put (hd d rfl) (SV.wf_mono hvw (fun c hc=>(hiff c).2 hc))
end
end Go.Proofs.YtcbmlanpianclaaGreatDoor
/- A connection in memory; its small methods as calls of a walk. Printed by gen_cn.py. -/
namespace Go.Proofs.YtcbmlanpianclaaGreatDoor
set_option linter.unusedSimpArgs false
set_option linter.unusedVariables false
set_option maxHeartbeats 8000000
open Go.RowKit
set_option maxRecDepth 100000
def cnA (c:Cn):Array Value:=#[.string ⟨c.inp.toArray⟩,.string ⟨c.out.toArray⟩,.int .i64 c.skip,.bool c.ends]
def cnS (c:Cn):List SC:=[.s c.inp,.s c.out,.i .i64 c.skip,.b c.ends]
def cnE (c:Cn) (mu:Bool):EN:=⟨(45,0,whole),cnS c,mu⟩
theorem dens_cn (ρ:Nat→RE) (c:Cn):zB8 ρ (cnS c)=(cnA c).toList:=rfl
theorem cn_wf (pr:Nat→Prop) (c:Cn):wfs pr (cnS c):=by
 intro x hx
 simp only [cnS,List.mem_cons,List.not_mem_nil,or_false] at hx
 rcases hx with rfl | rfl | rfl | rfl <;> trivial
theorem cn_at {w:World} {g:Nat} {c:Cn} (h:Blk w g 45 (cnA c)) (mu:Bool) (S:Nat→Prop) (hS:mu=true→S g):At S (fun _=>zG7 g) [cnE c mu] w:=by
 have h0:∀ i (e:EN),zD [cnE c mu] i=some e→i=0:=by
  intro i e hc
  match i with
  | 0=>rfl
  | i+1=>simp [zD] at hc
 refine ⟨?_,?_,?_,?_⟩
 ·intro i ty cells mu' hc he
  have:i=0:=by have:i < 1:=hc; omega
  subst this
  simp only [zD,cnE,Option.some.injEq,EN.mk.injEq] at he
  obtain ⟨rfl,rfl,rfl⟩:=he
  refine ⟨fun _=>h,?_,fun hd=>absurd hd (by decide),fun hn=>absurd rfl hn⟩
  intro x hx
  simp only [cnS,List.mem_cons,List.not_mem_nil,or_false] at hx
  rcases hx with rfl | rfl | rfl | rfl | rfl | rfl | rfl | rfl | rfl | rfl | rfl | rfl | rfl | rfl | rfl | rfl <;> trivial
 ·intro i ty cells mu' hc he
  have:i=0:=by have:i < 1:=hc; omega
  subst this
  simp only [zD,cnE,Option.some.injEq,EN.mk.injEq] at he
  obtain ⟨rfl,rfl,rfl⟩:=he
  exact ⟨rfl,rfl,rfl⟩
 ·intro i d hc hd _ _ _
  have h1:i < 1:=hc
  have h2:d < 1:=hd
  omega
 ·intro i ty cells hc he
  have:i=0:=by have:i < 1:=hc; omega
  subst this
  simp only [zD,cnE,Option.some.injEq,EN.mk.injEq] at he
  exact hS he.2.2
theorem cn_blk {C:Cx} {ρ:Nat→RE} {en:List EN} {w':World} {g:Nat} {c:Cn} {mu:Bool} (hw:Hw C ρ (· < en.length) en w') (hen:zD en 0=some (cnE c mu)) (hn0:0 < C.n0) (hρ:C.ρ0 0=zG7 g):Blk w' g 45 (cnA c):=by
 have e:=hw.ini 0 hn0
 rw [hρ] at e
 have hl:0 < en.length:=by rw [zA3] at hen; exact (List.getElem?_eq_some_iff.1 hen).1
 have:=(hw.hp 0 _ _ _ hl hen).heap ⟨(by show (45:Nat) ≠ zC9; decide),by rw [e]; rfl⟩
 rw [e] at this
 exact this
def CnP (g:Nat) (w:World) (c':Cn) (val:Value) (e:Ending) (w':World):Prop:=e=.returned val∧Upd (One g) w w'∧Blk w' g 45 (cnA c')
theorem cn_h {C:Cx} {nE:Nat} {mk:Nat→Prop} {en en':List EN} {N:Nat} {c c':Cn} {f:FuncId} {ys:List SV} {v:SV} (hP:C.P=Tryz.prog) (h0:zD en N=some (cnE c true)) (hN:N < nE) (hmk:∀ q,¬ mk q)
  (hent:∀ args w,(callFunc f args).run Tryz.prog w=.ok (.enter f args) w) (hv:∀ pr,v.wf pr)
  (H:∀ (ρ:Nat→RE) w g,Blk w g 45 (cnA c)→Calls Tryz.prog f (Value.pointer (some ⟨g,0,none⟩) :: ys.map (SV.den ρ)).toArray w (CnP g w c' (v.den ρ)))
  (hen:en'=zE en N (cnE c' true)):zJ0 C nE mk en en' f (.c (.p N 0) :: ys) v:=by
 subst hen
 refine ⟨fun args w=>by rw [hP]; exact hent args w,?_⟩
 intro ρ pr w hpr hmn hw hex hwf
 rw [hP]
 have hNp:=hpr N hN
 obtain ⟨k1,k2,k3,k4,k5⟩:=zO4 hw.hp hw.ho hNp h0 (by decide) (by simp [cnS])
 have hpl:∀ c,pr c→c < en.length:=by
  intro q hq
  refine Decidable.byContradiction fun hd=>hex q hq ?_
  rw [zA3,List.getElem?_eq_none (by omega)]
 have hc:=H ρ w (ρ N).blk k1
 simp only [List.map_cons,SV.den,SC.den,k2]
 refine hc.mono ?_
 rintro e w' ⟨rfl,hU,hb⟩
 refine ⟨ρ,fun _ _=>rfl,rfl,hv _,?_,fun q hq=>absurd hq (hmk q)⟩
 have:=hw.turn hpl hNp h0 (by show ¬ (45:Nat)=zC9; decide) k5 hU (cells':=cnS c') (by rw [k3,k4]; simpa [Blk,dens_cn] using hb) (cn_wf _ _)
 exact this.iff fun q=>⟨fun h=>h.resolve_right (hmk q),Or.inl⟩
theorem zU7 {C:Cx} {nt:Nat} {sl:List (Nat × SV)} {en:List EN} {k:List KI} {dst:Option Nat} {ty:TypeId} {pos:String} {af:Array Edge} {all r:List Oper} {args:Array Operand} {tys:Array TypeId} {gd:Option (Nat × Bool)} {N:Nat} {c:Cn} (c':Cn) {f:FuncId} {ys:List SV} (v:SV) (hg:gdT all sl gd=true) (hP:C.P=Tryz.prog) (h0:zD en N=some (cnE c true)) (hN:N < zG en)
  (hent:∀ args w,(callFunc f args).run Tryz.prog w=.ok (.enter f args) w) (hv:∀ pr,v.wf pr)
  (H:∀ (ρ:Nat→RE) w g,Blk w g 45 (cnA c)→Calls Tryz.prog f (Value.pointer (some ⟨g,0,none⟩) :: ys.map (SV.den ρ)).toArray w (CnP g w c' (v.den ρ)))
  (hxs:qw sl args.toList=some (.c (.p N 0) :: ys)) (hd:∀ d,dst=some d→d < nt) (hK:Run C (.ops all r :: k) nt (jN dst v sl) (zE en N (cnE c' true))) :
  Run C (.ops all (⟨dst,.call ⟨.value (.func f),args,tys⟩,ty,pos,af,gd⟩ :: r) :: k) nt sl en:=by
 have hl:zG (zE en N (cnE c' true))=zG en:=len_set
 exact Run_hcallG hg hxs v _ (cn_h hP h0 hN (fun q hq=>by rw [hl] at hq; omega) hent hv H rfl) (by rw [hl]; exact Nat.le_refl _) hd hK
theorem hang_w {c:Cn} {w:World} {g:Nat} (h:Blk w g 45 (cnA c)):Calls Tryz.prog 14 #[.pointer (some ⟨g,0,none⟩)] w (CnP g w (zK8 c) (.tuple #[])):=by
 refine zA1 Tryz.func14 rfl kp14 (S:=One g) (ρ:=fun _=>zG7 g) [.c (.p 0 0)] Tryz.ntmps14 (cn_at h true (One g) (fun _=>rfl)) (by simp [SV.wf,SC.wf]) (by simp) ?_
 intro C hC hP hk
 have hctr:zC1 C (fun _ _ _=>none):=by intro f en xs p v h; cases h
 have fin:∀ (c':Cn) sl en,zK8 c=c'→en=[cnE c' true]→Run C [] Tryz.f14.ntmps sl en:=fun c' sl en he hen=>by
  subst hen
  refine zQ6 hC hres14 fun ρ w' hw _=>?_
  have hb:=cn_blk hw rfl (by rw [hC]; exact Nat.zero_lt_one) (by rw [hC]; rfl)
  have hup:=hw.up
  rw [hC] at hup
  subst he
  exact ⟨rfl,hup,hb⟩
 (refine zA0 hctr (rs:=res14) true 300 _ _ _ ?_; simp (maxSteps:=1000000) only [VT,qH,qI,qJ,qK,qO,qQ,qV,q0t,qv,ev,qy,qz,zC,zD,zE,zG,zI,zJ,zK,zM,↓reduceIte,reduceCtorEq,Nat.reduceEqDiff,Nat.reduceLT,zP,zQ,zR,zt,zu,hP,hk,kp14,cnE,cnS])
 exact fin _ _ _ rfl rfl
theorem ends_w {c:Cn} {w:World} {g:Nat} (h:Blk w g 45 (cnA c)):Calls Tryz.prog 17 #[.pointer (some ⟨g,0,none⟩)] w (CnP g w c (.bool c.ends)):=by
 refine zA1 Tryz.func17 rfl kp17 (S:=One g) (ρ:=fun _=>zG7 g) [.c (.p 0 0)] Tryz.ntmps17 (cn_at h true (One g) (fun _=>rfl)) (by simp [SV.wf,SC.wf]) (by simp) ?_
 intro C hC hP hk
 have hctr:zC1 C (fun _ _ _=>none):=by intro f en xs p v h; cases h
 have fin:∀  (c':Cn) en,c=c'→en=[cnE c' true]→Fin C res17 (.c (.b c.ends)) en:=fun  c' en he hen=>by
  subst hen
  refine zC3 (v:=(.c (.b c.ends))) hC hres17 fun ρ w' hw _ _=>?_
  have hb:=cn_blk hw rfl (by rw [hC]; exact Nat.zero_lt_one) (by rw [hC]; rfl)
  have hup:=hw.up
  rw [hC] at hup
  subst he
  exact ⟨rfl,hup,hb⟩
 (refine zA0 hctr (rs:=res17) true 300 _ _ _ ?_; simp (maxSteps:=1000000) only [VT,qE,qF,qG,qH,qI,qK,qO,qP,qQ,qV,ev,qy,qz,zD,zI,zJ,TE.sv,zK,zM,↓reduceIte,reduceCtorEq,Nat.reduceEqDiff,Nat.reduceLT,zP,zQ,zR,zt,hP,hk,res17,kp17,cnE,cnS])
 exact fin _ _ rfl rfl
theorem sizes_w {c:Cn} {w:World} {g:Nat} (h:Blk w g 45 (cnA c)):Calls Tryz.prog 16 #[.pointer (some ⟨g,0,none⟩)] w (CnP g w c (.tuple #[.int .i64 c.inp.length,.int .i64 c.out.length])):=by
 refine zA1 Tryz.func16 rfl kp16 (S:=One g) (ρ:=fun _=>zG7 g) [.c (.p 0 0)] Tryz.ntmps16 (cn_at h true (One g) (fun _=>rfl)) (by simp [SV.wf,SC.wf]) (by simp) ?_
 intro C hC hP hk
 have hctr:zC1 C (fun _ _ _=>none):=by intro f en xs p v h; cases h
 have fin:∀  (c':Cn) en,c=c'→en=[cnE c' true]→Fin C res16 (.t [.c (.i .i64 c.inp.length),.c (.i .i64 c.out.length)]) en:=fun  c' en he hen=>by
  subst hen
  refine zC3 (v:=(.t [.c (.i .i64 c.inp.length),.c (.i .i64 c.out.length)])) hC hres16 fun ρ w' hw _ _=>?_
  have hb:=cn_blk hw rfl (by rw [hC]; exact Nat.zero_lt_one) (by rw [hC]; rfl)
  have hup:=hw.up
  rw [hC] at hup
  subst he
  exact ⟨rfl,hup,hb⟩
 (refine zA0 hctr (rs:=res16) true 300 _ _ _ ?_; simp (maxSteps:=1000000) only [VT,qH,qI,qK,qO,ev,qz,zI,zJ,zK,↓reduceIte,reduceCtorEq,Nat.reduceEqDiff,Nat.reduceLT,zP,zR,hk,kp16,cnE,cnS])
 (refine zE5 hctr (by rw [hP]; rfl) rs16_1 [] (ensure_type_of% (Cmp.of (by simp (maxSteps := 1000000) only [qK, qN, qO, qP, qQ, qV, qe, ev, qy, zD, zM, ↓reduceIte, reduceCtorEq, Nat.reduceEqDiff, zt, zu, cD, cO, jC, jD, jN, hP]; rfl)) "" Cmp.mk) (by kernel_rfl) (by kernel_rfl) (by first | exact zC7 _ | kernel_rfl) (by kernel_rfl) (by rfl) (by rfl) (by first | exact zB2 _ | rfl) (by rfl) (by simp (maxSteps := 1000000) only [qK, qN, qO, qP, qQ, qV, qe, ev, qy, zD, zM, ↓reduceIte, reduceCtorEq, Nat.reduceEqDiff, zT, zn, zt, zu, jD, jN, jP, jQ, jR, jS, jT, hP]) ?_; refine zA0 hctr (rs := res16) true 300 _ _ _ ?_; simp (maxSteps := 1000000) only [VT, qE, qF, qG, qy, zG, zI, zJ, ↓reduceIte, reduceCtorEq, Nat.reduceEqDiff, Nat.reduceAdd, zP, zQ, zt, jN, jO, hk, res16, kp16])
 exact fin _ _ rfl rfl
theorem put_w {c:Cn} (s:List UInt8) (hs:c.out.length+s.length≤1000000000000) {w:World} {g:Nat} (h:Blk w g 45 (cnA c)):Calls Tryz.prog 11 #[.pointer (some ⟨g,0,none⟩),.string ⟨s.toArray⟩] w (CnP g w (cnPut c s) (.tuple #[])):=by
 refine zA1 Tryz.func11 rfl kp11 (S:=One g) (ρ:=fun _=>zG7 g) [.c (.p 0 0),.c (.s s)] Tryz.ntmps11 (cn_at h true (One g) (fun _=>rfl)) (by simp [SV.wf,SC.wf]) (by simp) ?_
 intro C hC hP hk
 have hctr:zC1 C (fun _ _ _=>none):=by intro f en xs p v h; cases h
 have fin:∀ (c':Cn) sl en,cnPut c s=c'→en=[cnE c' true]→Run C [] Tryz.f11.ntmps sl en:=fun c' sl en he hen=>by
  subst hen
  refine zQ6 hC hres11 fun ρ w' hw _=>?_
  have hb:=cn_blk hw rfl (by rw [hC]; exact Nat.zero_lt_one) (by rw [hC]; rfl)
  have hup:=hw.up
  rw [hC] at hup
  subst he
  exact ⟨rfl,hup,hb⟩
 (refine zA0 hctr (rs:=res11) true 300 _ _ _ ?_; simp (maxSteps:=1000000) only [VT,qH,qI,qJ,qK,qO,qP,qQ,qR,qS,qV,q0t,qv,ev,qy,zC,zD,zE,zG,zI,zJ,zK,zM,↓reduceIte,reduceCtorEq,Nat.reduceEqDiff,Nat.reduceLT,zP,zQ,zR,zt,hP,hk,kp11,cnE,cnS])
 exact ⟨by omega,fin _ _ _ rfl rfl⟩
theorem write_w {c:Cn} (n:Int) (hko:c.out.length≤1000000000000) {w:World} {g:Nat} (h:Blk w g 45 (cnA c)):Calls Tryz.prog 12 #[.pointer (some ⟨g,0,none⟩),.int .i64 n] w (CnP g w (zG1 c n).1 (.string ⟨(zG1 c n).2.toArray⟩)):=by
 refine zA1 Tryz.func12 rfl kp12 (S:=One g) (ρ:=fun _=>zG7 g) [.c (.p 0 0),.c (.i .i64 n)] Tryz.ntmps12 (cn_at h true (One g) (fun _=>rfl)) (by simp [SV.wf,SC.wf]) (by simp) ?_
 intro C hC hP hk
 have hctr:zC1 C (fun _ _ _=>none):=by intro f en xs p v h; cases h
 have fin:∀  (c':Cn) en,(zG1 c n).1=c'→en=[cnE c' true]→Fin C res12 (.c (.s (zG1 c n).2)) en:=fun  c' en he hen=>by
  subst hen
  refine zC3 (v:=(.c (.s (zG1 c n).2))) hC hres12 fun ρ w' hw _ _=>?_
  have hb:=cn_blk hw rfl (by rw [hC]; exact Nat.zero_lt_one) (by rw [hC]; rfl)
  have hup:=hw.up
  rw [hC] at hup
  subst he
  exact ⟨rfl,hup,hb⟩
 obtain ⟨k,hk2⟩:∃ k,cnHow c n=k:=⟨_,rfl⟩
 have hkl:k≤c.out.length:=by rw [← hk2]; unfold cnHow; omega
 have h1:(if (c.out.length:Int) < (if (0:Int) < n then n else 0) then (c.out.length:Int) else (if (0:Int) < n then n else 0))=(k:Int):=by
  rw [← hk2]; unfold cnHow; repeat' split
  all_goals omega
 have h2:(0:Int)≤(k:Int):=by omega
 have h3:(k:Int)≤(c.out.length:Int):=by omega
 (refine zA0 hctr (rs:=res12) true 300 _ _ _ ?_; simp (maxSteps:=1000000) only [VT,qE,qF,qG,qH,qI,qJ,qK,qN,qO,qP,qQ,qV,qZ,qe,ql,qm,qn,qo,q0t,qv,ev,qy,qz,zC,zD,zE,zG,zI,zJ,TE.sv,zK,zM,↓reduceIte,reduceCtorEq,Nat.reduceEqDiff,Nat.reduceLT,zP,zQ,zR,zT,zh,zt,hP,hk,res12,kp12,cnE,cnS,Int.toNat_zero,Int.le_refl,List.drop_zero,h1,h2,h3,List.take_length])
 have hw2:zG1 c n=({ c with out:=c.out.drop k },c.out.take k):=by unfold zG1; rw [hk2]
 rw [hw2] at fin
 exact fin _ _ rfl rfl
theorem feed_w {c:Cn} (hok:CnOk c) (b:List UInt8) (hbl:b.length≤1000000000000) {w:World} {g:Nat} (h:Blk w g 45 (cnA c)):Calls Tryz.prog 6 #[.pointer (some ⟨g,0,none⟩),.string ⟨b.toArray⟩] w (CnP g w (zH5 c b).1 (.int .i64 (zH5 c b).2)):=by
 refine zA1 Tryz.func6 rfl kp6 (S:=One g) (ρ:=fun _=>zG7 g) [.c (.p 0 0),.c (.s b)] Tryz.ntmps6 (cn_at h true (One g) (fun _=>rfl)) (by simp [SV.wf,SC.wf]) (by simp) ?_
 intro C hC hP hk
 have hctr:zC1 C (fun _ _ _=>none):=by intro f en xs p v h; cases h
 have fin:∀  (c':Cn) en,(zH5 c b).1=c'→en=[cnE c' true]→Fin C res6 (.c (.i .i64 (zH5 c b).2)) en:=fun  c' en he hen=>by
  subst hen
  refine zC3 (v:=(.c (.i .i64 (zH5 c b).2))) hC hres6 fun ρ w' hw _ _=>?_
  have hb:=cn_blk hw rfl (by rw [hC]; exact Nat.zero_lt_one) (by rw [hC]; rfl)
  have hup:=hw.up
  rw [hC] at hup
  subst he
  exact ⟨rfl,hup,hb⟩
 obtain ⟨o1,o2,o3,o4⟩:=hok
 cases he:c.ends with
 | true =>
  (refine zA0 hctr (rs:=res6) true 300 _ _ _ ?_; simp (maxSteps:=1000000) only [VT,jf,qE,qF,qG,qH,qI,qK,qO,qP,qQ,qV,ev,qy,qz,zD,zI,zJ,TE.sv,zK,zM,↓reduceIte,reduceCtorEq,Nat.reduceEqDiff,Nat.reduceLT,zP,zQ,zR,zV,zt,hP,hk,res6,kp6,cnE,cnS,he])
  have hz:zH5 c b=(c,0):=by unfold zH5; rw [if_pos he]
  rw [hz] at fin
  exact fin _ _ rfl (by simp [cnE,cnS,he])
 | false =>
  obtain ⟨p,hp⟩:∃ p,min c.skip.toNat b.length=p:=⟨_,rfl⟩
  obtain ⟨m,hm⟩:∃ m,min (b.length - p) (70000 - c.inp.length)=m:=⟨_,rfl⟩
  have hz:zH5 c b=({ c with skip:=c.skip - (p:Int),inp:=c.inp++(b.drop p).take m },((p+m:Nat):Int)):=by
   unfold zH5; rw [if_neg (by rw [he]; simp)]; simp only [hp,hm]
  have h1:(if (b.length:Int) < c.skip then (b.length:Int) else c.skip)=(p:Int):=by split <;> omega
  have h2:(0:Int)≤(p:Int):=by omega
  have h3:(p:Int)≤(b.length:Int):=by omega
  have h4:IntKind.i64.wrap (c.skip - (p:Int))=c.skip - (p:Int):=IntWalk.i64_in _ (by omega)
  have h5:(b.drop p).length=b.length - p:=List.length_drop
  have h6:IntKind.i64.wrap (70000 - (c.inp.length:Int))=70000 - (c.inp.length:Int):=IntWalk.i64_in _ (by omega)
  have h7:(if 70000 - (c.inp.length:Int) < ((b.length - p:Nat):Int) then 70000 - (c.inp.length:Int) else ((b.length - p:Nat):Int))=(m:Int):=by split <;> omega
  have h8:(0:Int)≤(m:Int):=by omega
  have h9:(m:Int)≤((b.length - p:Nat):Int):=by omega
  have h10:IntKind.i64.wrap ((p:Int)+(m:Int))=((p+m:Nat):Int):=by rw [IntWalk.i64_in _ (by omega)]; rfl
  (refine zA0 hctr (rs:=res6) true 300 _ _ _ ?_; simp (maxSteps:=1000000) only [VT,jg,qH,qI,qJ,qK,qN,qO,qP,qQ,qR,qS,qV,qZ,qe,ql,qm,qn,q0t,qv,ev,qy,qz,zC,zD,zE,zG,zI,zJ,zK,zM,↓reduceIte,reduceCtorEq,Nat.reduceEqDiff,Nat.reduceLT,zP,zQ,zR,zT,zW,zh,zt,zu,hP,hk,res6,kp6,cnE,cnS,Int.le_refl,he,h1,h2,h3,h4,h5,h6,h7,List.take_length])
  (refine zE5 hctr (by rw [hP]; rfl) rs6_7 [] (ensure_type_of% (Cmp.of (by simp (maxSteps := 1000000) only [qK, qO, qP, qQ, qR, qS, qV, qZ, ql, q0t, qv, ev, qy, zC, zD, zE, zF, zG, zM, ↓reduceIte, reduceCtorEq, Nat.reduceEqDiff, zP, zT, zh, zt, zu, cD, cO, jC, jD, jH, jN, hP, Int.toNat_zero, List.drop_zero, Int.le_refl, h5, h8, h9]; rfl)) "" Cmp.mk) (by kernel_rfl) (by kernel_rfl) (by first | exact zC7 _ | kernel_rfl) (by kernel_rfl) (by rfl) (by rfl) (by first | exact zB2 _ | rfl) (by rfl) ?_ ?_; rotate_left; refine zA0 hctr (rs := res6) true 300 _ _ _ ?_; simp (maxSteps := 1000000) only [VT, qE, qF, qG, qH, qI, qK, qO, qR, qS, ev, qy, zG, zI, zJ, TE.sv, ↓reduceIte, reduceCtorEq, Nat.reduceEqDiff, Nat.reduceAdd, Nat.reduceLT, zP, zQ, zR, zt, jN, jO, hk, res6, kp6, h10]; rotate_left; simp (maxSteps := 1000000) only [qK, qO, qP, qQ, qR, qS, qV, qZ, ql, q0t, qv, ev, qy, zC, zD, zE, zG, zM, ↓reduceIte, reduceCtorEq, Nat.reduceEqDiff, zP, zR, zS, zT, zh, zn, zt, zu, jD, jH, jN, jP, jQ, jR, jS, jT, hP, Int.toNat_zero, List.drop_zero, Int.le_refl, h5, h8, h9])
  ·rw [List.length_take,List.length_drop]; omega
  rw [hz] at fin
  refine fin _ _ rfl ?_
  simp only [cnE,cnS,he]
end Go.Proofs.YtcbmlanpianclaaGreatDoor
/- The document's connection in memory; its small methods as calls of a walk. Printed by gen_dcn.py. -/
namespace Go.Proofs.YtcbmlanpianclaaGreatDoor
set_option linter.unusedSimpArgs false
set_option linter.unusedVariables false
set_option maxHeartbeats 8000000
open Go.RowKit
set_option maxRecDepth 100000
def wnA (c:Cn):Array Value:=#[.string ⟨c.inp.toArray⟩,.int .i64 c.skip,.string ⟨c.out.toArray⟩,.bool c.ends]
def wnS (c:Cn):List SC:=[.s c.inp,.i .i64 c.skip,.s c.out,.b c.ends]
def wnE (c:Cn) (mu:Bool):EN:=⟨(28,0,whole),wnS c,mu⟩
theorem dens_wn (ρ:Nat→RE) (c:Cn):zB8 ρ (wnS c)=(wnA c).toList:=rfl
theorem wn_wf (pr:Nat→Prop) (c:Cn):wfs pr (wnS c):=by
 intro x hx
 simp only [wnS,List.mem_cons,List.not_mem_nil,or_false] at hx
 rcases hx with rfl | rfl | rfl | rfl <;> trivial
theorem wn_at {w:World} {g:Nat} {c:Cn} (h:Blk w g 28 (wnA c)) (mu:Bool) (S:Nat→Prop) (hS:mu=true→S g):At S (fun _=>zG7 g) [wnE c mu] w:=by
 have h0:∀ i (e:EN),zD [wnE c mu] i=some e→i=0:=by
  intro i e hc
  match i with
  | 0=>rfl
  | i+1=>simp [zD] at hc
 refine ⟨?_,?_,?_,?_⟩
 ·intro i ty cells mu' hc he
  have:i=0:=by have:i < 1:=hc; omega
  subst this
  simp only [zD,wnE,Option.some.injEq,EN.mk.injEq] at he
  obtain ⟨rfl,rfl,rfl⟩:=he
  refine ⟨fun _=>h,?_,fun hd=>absurd hd (by decide),fun hn=>absurd rfl hn⟩
  intro x hx
  simp only [wnS,List.mem_cons,List.not_mem_nil,or_false] at hx
  rcases hx with rfl | rfl | rfl | rfl | rfl | rfl | rfl | rfl | rfl | rfl | rfl | rfl | rfl | rfl | rfl | rfl <;> trivial
 ·intro i ty cells mu' hc he
  have:i=0:=by have:i < 1:=hc; omega
  subst this
  simp only [zD,wnE,Option.some.injEq,EN.mk.injEq] at he
  obtain ⟨rfl,rfl,rfl⟩:=he
  exact ⟨rfl,rfl,rfl⟩
 ·intro i d hc hd _ _ _
  have h1:i < 1:=hc
  have h2:d < 1:=hd
  omega
 ·intro i ty cells hc he
  have:i=0:=by have:i < 1:=hc; omega
  subst this
  simp only [zD,wnE,Option.some.injEq,EN.mk.injEq] at he
  exact hS he.2.2
theorem wn_blk {C:Cx} {ρ:Nat→RE} {en:List EN} {w':World} {g:Nat} {c:Cn} {mu:Bool} (hw:Hw C ρ (· < en.length) en w') (hen:zD en 0=some (wnE c mu)) (hn0:0 < C.n0) (hρ:C.ρ0 0=zG7 g):Blk w' g 28 (wnA c):=by
 have e:=hw.ini 0 hn0
 rw [hρ] at e
 have hl:0 < en.length:=by rw [zA3] at hen; exact (List.getElem?_eq_some_iff.1 hen).1
 have:=(hw.hp 0 _ _ _ hl hen).heap ⟨(by show (28:Nat) ≠ zC9; decide),by rw [e]; rfl⟩
 rw [e] at this
 exact this
def WnP (g:Nat) (w:World) (c':Cn) (val:Value) (e:Ending) (w':World):Prop:=e=.returned val∧Upd (One g) w w'∧Blk w' g 28 (wnA c')
theorem wn_h {C:Cx} {nE:Nat} {mk:Nat→Prop} {en en':List EN} {N:Nat} {c c':Cn} {f:FuncId} {ys:List SV} {v:SV} (hP:C.P=Tryz.prog) (h0:zD en N=some (wnE c true)) (hN:N < nE) (hmk:∀ q,¬ mk q)
  (hent:∀ args w,(callFunc f args).run Tryz.prog w=.ok (.enter f args) w) (hv:∀ pr,v.wf pr)
  (H:∀ (ρ:Nat→RE) w g,Blk w g 28 (wnA c)→Calls Tryz.prog f (Value.pointer (some ⟨g,0,none⟩) :: ys.map (SV.den ρ)).toArray w (WnP g w c' (v.den ρ)))
  (hen:en'=zE en N (wnE c' true)):zJ0 C nE mk en en' f (.c (.p N 0) :: ys) v:=by
 subst hen
 refine ⟨fun args w=>by rw [hP]; exact hent args w,?_⟩
 intro ρ pr w hpr hmn hw hex hwf
 rw [hP]
 have hNp:=hpr N hN
 obtain ⟨k1,k2,k3,k4,k5⟩:=zO4 hw.hp hw.ho hNp h0 (by decide) (by simp [wnS])
 have hpl:∀ c,pr c→c < en.length:=by
  intro q hq
  refine Decidable.byContradiction fun hd=>hex q hq ?_
  rw [zA3,List.getElem?_eq_none (by omega)]
 have hc:=H ρ w (ρ N).blk k1
 simp only [List.map_cons,SV.den,SC.den,k2]
 refine hc.mono ?_
 rintro e w' ⟨rfl,hU,hb⟩
 refine ⟨ρ,fun _ _=>rfl,rfl,hv _,?_,fun q hq=>absurd hq (hmk q)⟩
 have:=hw.turn hpl hNp h0 (by show ¬ (28:Nat)=zC9; decide) k5 hU (cells':=wnS c') (by rw [k3,k4]; simpa [Blk,dens_wn] using hb) (wn_wf _ _)
 exact this.iff fun q=>⟨fun h=>h.resolve_right (hmk q),Or.inl⟩
theorem Run_wn {C:Cx} {nt:Nat} {sl:List (Nat × SV)} {en:List EN} {k:List KI} {dst:Option Nat} {ty:TypeId} {pos:String} {af:Array Edge} {all r:List Oper} {args:Array Operand} {tys:Array TypeId} {gd:Option (Nat × Bool)} {N:Nat} {c:Cn} (c':Cn) {f:FuncId} {ys:List SV} (v:SV) (hg:gdT all sl gd=true) (hP:C.P=Tryz.prog) (h0:zD en N=some (wnE c true)) (hN:N < zG en)
  (hent:∀ args w,(callFunc f args).run Tryz.prog w=.ok (.enter f args) w) (hv:∀ pr,v.wf pr)
  (H:∀ (ρ:Nat→RE) w g,Blk w g 28 (wnA c)→Calls Tryz.prog f (Value.pointer (some ⟨g,0,none⟩) :: ys.map (SV.den ρ)).toArray w (WnP g w c' (v.den ρ)))
  (hxs:qw sl args.toList=some (.c (.p N 0) :: ys)) (hd:∀ d,dst=some d→d < nt) (hK:Run C (.ops all r :: k) nt (jN dst v sl) (zE en N (wnE c' true))) :
  Run C (.ops all (⟨dst,.call ⟨.value (.func f),args,tys⟩,ty,pos,af,gd⟩ :: r) :: k) nt sl en:=by
 have hl:zG (zE en N (wnE c' true))=zG en:=len_set
 exact Run_hcallG hg hxs v _ (wn_h hP h0 hN (fun q hq=>by rw [hl] at hq; omega) hent hv H rfl) (by rw [hl]; exact Nat.le_refl _) hd hK
theorem whang_w {c:Cn} {w:World} {g:Nat} (h:Blk w g 28 (wnA c)):Calls Tryz.prog 15 #[.pointer (some ⟨g,0,none⟩)] w (WnP g w (zK8 c) (.tuple #[])):=by
 refine zA1 Tryz.func15 rfl kp15 (S:=One g) (ρ:=fun _=>zG7 g) [.c (.p 0 0)] Tryz.ntmps15 (wn_at h true (One g) (fun _=>rfl)) (by simp [SV.wf,SC.wf]) (by simp) ?_
 intro C hC hP hk
 have hctr:zC1 C (fun _ _ _=>none):=by intro f en xs p v h; cases h
 have fin:∀ (c':Cn) sl en,zK8 c=c'→en=[wnE c' true]→Run C [] Tryz.f15.ntmps sl en:=fun c' sl en he hen=>by
  subst hen
  refine zQ6 hC hres15 fun ρ w' hw _=>?_
  have hb:=wn_blk hw rfl (by rw [hC]; exact Nat.zero_lt_one) (by rw [hC]; rfl)
  have hup:=hw.up
  rw [hC] at hup
  subst he
  exact ⟨rfl,hup,hb⟩
 (refine zA0 hctr (rs:=res15) true 300 _ _ _ ?_; simp (maxSteps:=1000000) only [VT,qH,qI,qJ,qK,qO,qQ,qV,q0t,qv,ev,qy,qz,zC,zD,zE,zG,zI,zJ,zK,zM,↓reduceIte,reduceCtorEq,Nat.reduceLT,zP,zQ,zR,zt,zu,hP,hk,kp15,wnE,wnS])
 exact fin _ _ _ rfl rfl
theorem wwrite_w {c:Cn} (n:Int) (hko:c.out.length≤1000000000000) {w:World} {g:Nat} (h:Blk w g 28 (wnA c)):Calls Tryz.prog 13 #[.pointer (some ⟨g,0,none⟩),.int .i64 n] w (WnP g w (zG1 c n).1 (.string ⟨(zG1 c n).2.toArray⟩)):=by
 refine zA1 Tryz.func13 rfl kp13 (S:=One g) (ρ:=fun _=>zG7 g) [.c (.p 0 0),.c (.i .i64 n)] Tryz.ntmps13 (wn_at h true (One g) (fun _=>rfl)) (by simp [SV.wf,SC.wf]) (by simp) ?_
 intro C hC hP hk
 have hctr:zC1 C (fun _ _ _=>none):=by intro f en xs p v h; cases h
 have fin:∀  (c':Cn) en,(zG1 c n).1=c'→en=[wnE c' true]→Fin C res13 (.c (.s (zG1 c n).2)) en:=fun  c' en he hen=>by
  subst hen
  refine zC3 (v:=(.c (.s (zG1 c n).2))) hC hres13 fun ρ w' hw _ _=>?_
  have hb:=wn_blk hw rfl (by rw [hC]; exact Nat.zero_lt_one) (by rw [hC]; rfl)
  have hup:=hw.up
  rw [hC] at hup
  subst he
  exact ⟨rfl,hup,hb⟩
 obtain ⟨k,hk2⟩:∃ k,cnHow c n=k:=⟨_,rfl⟩
 have hkl:k≤c.out.length:=by rw [← hk2]; unfold cnHow; omega
 have h1:(if (0:Int) < (if (c.out.length:Int) < n then (c.out.length:Int) else n) then (if (c.out.length:Int) < n then (c.out.length:Int) else n) else 0)=(k:Int):=by
  rw [← hk2]; unfold cnHow; repeat' split
  all_goals omega
 have h2:(0:Int)≤(k:Int):=by omega
 have h3:(k:Int)≤(c.out.length:Int):=by omega
 (refine zA0 hctr (rs:=res13) true 300 _ _ _ ?_; simp (maxSteps:=1000000) only [VT,qE,qF,qG,qH,qI,qJ,qK,qN,qO,qP,qQ,qV,qZ,qe,ql,qm,qn,qo,q0t,qv,ev,qy,qz,zC,zD,zE,zG,zI,zJ,TE.sv,zK,zM,↓reduceIte,reduceCtorEq,Nat.reduceEqDiff,Nat.reduceLT,zP,zQ,zR,zT,zh,zt,hP,hk,res13,kp13,wnE,wnS,Int.toNat_zero,Int.le_refl,List.drop_zero,h1,h2,h3,List.take_length])
 have hw2:zG1 c n=({ c with out:=c.out.drop k },c.out.take k):=by unfold zG1; rw [hk2]
 rw [hw2] at fin
 exact fin _ _ rfl rfl
theorem wfeed_w {c:Cn} (hok:CnOk c) (b:List UInt8) (hbl:b.length≤1000000000000) {w:World} {g:Nat} (h:Blk w g 28 (wnA c)):Calls Tryz.prog 7 #[.pointer (some ⟨g,0,none⟩),.string ⟨b.toArray⟩] w (WnP g w (zH5 c b).1 (.int .i64 (zH5 c b).2)):=by
 refine zA1 Tryz.func7 rfl kp7 (S:=One g) (ρ:=fun _=>zG7 g) [.c (.p 0 0),.c (.s b)] Tryz.ntmps7 (wn_at h true (One g) (fun _=>rfl)) (by simp [SV.wf,SC.wf]) (by simp) ?_
 intro C hC hP hk
 have hctr:zC1 C (fun _ _ _=>none):=by intro f en xs p v h; cases h
 have fin:∀  (c':Cn) en,(zH5 c b).1=c'→en=[wnE c' true]→Fin C res7 (.c (.i .i64 (zH5 c b).2)) en:=fun  c' en he hen=>by
  subst hen
  refine zC3 (v:=(.c (.i .i64 (zH5 c b).2))) hC hres7 fun ρ w' hw _ _=>?_
  have hb:=wn_blk hw rfl (by rw [hC]; exact Nat.zero_lt_one) (by rw [hC]; rfl)
  have hup:=hw.up
  rw [hC] at hup
  subst he
  exact ⟨rfl,hup,hb⟩
 obtain ⟨o1,o2,o3,o4⟩:=hok
 cases he:c.ends with
 | true =>
  (refine zA0 hctr (rs:=res7) true 300 _ _ _ ?_; simp (maxSteps:=1000000) only [VT,jf,qE,qF,qG,qH,qI,qK,qO,qP,qQ,qV,ev,qy,qz,zD,zI,zJ,TE.sv,zK,zM,↓reduceIte,reduceCtorEq,Nat.reduceEqDiff,Nat.reduceLT,zP,zQ,zR,zV,zt,hP,hk,res7,kp7,wnE,wnS,he])
  have hz:zH5 c b=(c,0):=by unfold zH5; rw [if_pos he]
  rw [hz] at fin
  exact fin _ _ rfl (by simp [wnE,wnS,he])
 | false =>
  obtain ⟨p,hp⟩:∃ p,min c.skip.toNat b.length=p:=⟨_,rfl⟩
  obtain ⟨m,hm⟩:∃ m,min (b.length - p) (70000 - c.inp.length)=m:=⟨_,rfl⟩
  have hz:zH5 c b=({ c with skip:=c.skip - (p:Int),inp:=c.inp++(b.drop p).take m },((p+m:Nat):Int)):=by
   unfold zH5; rw [if_neg (by rw [he]; simp)]; simp only [hp,hm]
  have h1:(if (b.length:Int) < c.skip then (b.length:Int) else c.skip)=(p:Int):=by split <;> omega
  have h2:(0:Int)≤(p:Int):=by omega
  have h3:(p:Int)≤(b.length:Int):=by omega
  have h4:IntKind.i64.wrap (c.skip - (p:Int))=c.skip - (p:Int):=IntWalk.i64_in _ (by omega)
  have h5:IntKind.i64.wrap ((b.length:Int) - (p:Int))=((b.length - p:Nat):Int):=by rw [IntWalk.i64_in _ (by omega)]; omega
  have h6:IntKind.i64.wrap (70000 - (c.inp.length:Int))=70000 - (c.inp.length:Int):=IntWalk.i64_in _ (by omega)
  have h7:(if 70000 - (c.inp.length:Int) < ((b.length - p:Nat):Int) then 70000 - (c.inp.length:Int) else ((b.length - p:Nat):Int))=(m:Int):=by split <;> omega
  have h8:(p:Int)≤((p+m:Nat):Int):=by omega
  have h9:((p+m:Nat):Int)≤(b.length:Int):=by omega
  have h10:IntKind.i64.wrap ((p:Int)+(m:Int))=((p+m:Nat):Int):=by rw [IntWalk.i64_in _ (by omega)]; rfl
  have h11:(b.take (p+m)).drop p=(b.drop p).take m:=by rw [List.drop_take,Nat.add_sub_cancel_left]
  (refine zA0 hctr (rs:=res7) true 300 _ _ _ ?_; simp (maxSteps:=1000000) only [VT,jg,qH,qI,qJ,qK,qN,qO,qP,qQ,qR,qS,qV,qe,qn,q0t,qv,ev,qy,qz,zC,zD,zE,zG,zI,zJ,zK,zM,↓reduceIte,reduceCtorEq,Nat.reduceEqDiff,Nat.reduceLT,zP,zQ,zR,zW,zt,zu,hP,hk,res7,kp7,wnE,wnS,he,h1,h4,h5,h6,h7])
  (refine zE5 hctr (by rw [hP]; rfl) rs7_6 [] (ensure_type_of% (Cmp.of (by simp (maxSteps := 1000000) only [qK, qO, qP, qQ, qR, qS, qV, qZ, ql, q0t, qv, ev, qy, zC, zD, zE, zF, zG, zM, ↓reduceIte, reduceCtorEq, Nat.reduceEqDiff, zP, zT, zh, zt, zu, cD, cO, jC, jD, jH, jN, hP, h2, h8, h9, h10, h11]; rfl)) "" Cmp.mk) (by kernel_rfl) (by kernel_rfl) (by first | exact zC7 _ | kernel_rfl) (by kernel_rfl) (by rfl) (by rfl) (by first | exact zB2 _ | rfl) (by rfl) ?_ ?_; rotate_left; refine zA0 hctr (rs := res7) true 300 _ _ _ ?_; simp (maxSteps := 1000000) only [VT, qE, qF, qG, qH, qI, qK, qO, qR, qS, ev, qy, zG, zI, zJ, TE.sv, ↓reduceIte, reduceCtorEq, Nat.reduceEqDiff, Nat.reduceAdd, Nat.reduceLT, zP, zQ, zR, zt, jN, jO, hk, res7, kp7, h10]; rotate_left; simp (maxSteps := 1000000) only [qK, qO, qP, qQ, qR, qS, qV, qZ, ql, q0t, qv, ev, qy, zC, zD, zE, zG, zM, ↓reduceIte, reduceCtorEq, Nat.reduceEqDiff, zP, zR, zS, zT, zh, zn, zt, zu, jD, jH, jN, jP, jQ, jR, jS, jT, hP, h2, h8, h9, h10, h11])
  ·rw [List.length_take,List.length_drop]; omega
  rw [hz] at fin
  refine fin _ _ rfl ?_
  simp only [wnE,wnS,he]
end Go.Proofs.YtcbmlanpianclaaGreatDoor
/- The request with which a connection's bytes begin (conn.parse), walked. Printed by gen_cp.py. -/
namespace Go.Proofs.YtcbmlanpianclaaGreatDoor
set_option linter.unusedSimpArgs false
set_option linter.unusedVariables false
set_option maxHeartbeats 8000000
open Go.RowKit
set_option maxRecDepth 100000
def zT6:List SV→Option (Prop × SV)
 | [.c (.s l),.c (.s [32])]=>some (l.length < 4294967281,.t [.c (.s (l.takeWhile (· != 32))),.c (.s ((l.dropWhile (· != 32)).drop 1)),.c (.b (Lib.cut l [32]).2.2)])
 | _=>none
def zT4:List SV→Option (Prop × SV)
 | [.c (.s l),.c (.s [32])]=>some (True,.c (.s (l.dropWhile (· == 32))))
 | _=>none
def rowIBc:List SV→Option (Prop × SV)
 | [.c (.s l),.c (.i .u8 c)]=>some (True,.c (.i .i64 (Lib.indexByte l c.toNat.toUInt8)))
 | _=>none
def cpC:Ctr:=fun f _ xs=>match f with
 | 21=>(match xs with
  | [.c (.s l)]=>some (l.length < 4294967281,.t [.c (.s (zB1 l).1),.c (.i .i64 (((zB1 l).2:Nat):Int))])
  | _=>none)
 | 22=>zT6 xs
 | 23=>zT4 xs
 | 24=>rowIBc xs
 | _=>none
theorem cpC_ok {C:Cx} (hP:C.P=Tryz.prog) (hE:∀ w,Upd C.S C.w0 w→EnvT w):zC1 C cpC:=by
 intro f en xs p v h hp ρ w hup hHp hHo hinj hwf
 unfold cpC at h
 split at h
 ·rw [hP]
  refine ⟨fun args w=>Tryz.call21 args w,?_⟩
  split at h <;> simp only [Option.some.injEq,Prod.mk.injEq,reduceCtorEq] at h
  obtain ⟨rfl,rfl⟩:=h
  exact ⟨by intro x hx; simp at hx; rcases hx with rfl | rfl <;> trivial,line_w _ hp w (hE w hup)⟩
 ·rw [hP]
  refine ⟨fun args w=>Tryz.call22 args w,?_⟩
  unfold zT6 at h
  split at h <;> simp only [Option.some.injEq,Prod.mk.injEq,reduceCtorEq] at h
  rename_i l
  obtain ⟨rfl,rfl⟩:=h
  refine ⟨by intro x hx; simp at hx; rcases hx with rfl | rfl | rfl <;> trivial,?_⟩
  obtain ⟨m,hm⟩:=(hE w hup).max
  have:=Tryz.strings_Cut ⟨l.toArray⟩ ⟨#[32]⟩ m w (by simpa [ByteArray.size] using hp) hm
  have e1:(⟨l.toArray⟩:ByteArray).data.toList=l:=rfl
  have e2:(⟨#[32]⟩:ByteArray).data.toList=[32]:=rfl
  rw [e1,e2,(zP5 32 l).1,(zP5 32 l).2] at this
  refine this.mono ?_
  rintro e w' ⟨rfl,q,rfl⟩
  exact ⟨rfl,rfl,rfl,rfl,Nat.le_refl _,fun _ _=>rfl⟩
 ·rw [hP]
  refine ⟨fun args w=>Tryz.call23 args w,?_⟩
  unfold zT4 at h
  split at h <;> simp only [Option.some.injEq,Prod.mk.injEq,reduceCtorEq] at h
  rename_i l
  obtain ⟨rfl,rfl⟩:=h
  refine ⟨trivial,(Tryz.strings_TrimLeft_one ⟨l.toArray⟩ 32 (by decide) w).mono ?_⟩
  rintro e w' ⟨rfl,rfl⟩
  exact ⟨rfl,Below.refl _ _⟩
 ·rw [hP]
  refine ⟨fun args w=>Tryz.call24 args w,?_⟩
  unfold rowIBc at h
  split at h <;> simp only [Option.some.injEq,Prod.mk.injEq,reduceCtorEq] at h
  rename_i l c
  obtain ⟨rfl,rfl⟩:=h
  refine ⟨trivial,(Tryz.strings_IndexByte ⟨l.toArray⟩ c w).mono ?_⟩
  rintro e w' ⟨rfl,rfl⟩
  exact ⟨rfl,Below.refl _ _⟩
 ·cases h
theorem ib6 (x:UInt8):decide ((0:Int)≤Lib.indexByte [110,101,103,115,100,97] x)=[110,101,103,115,100,97].contains x:=con_ib _ x
theorem takeW_le (p:UInt8→Bool) (b:List UInt8):(b.takeWhile p).length≤b.length:=(List.takeWhile_sublist p).length_le
theorem cparse_w (b:List UInt8) (hb:b.length≤9223372036854775806) (w:World) (hE0:EnvT w):Calls Tryz.prog 18 #[.string ⟨b.toArray⟩] w (GPost w (zG4 b)):=by
 refine zA1 Tryz.func18 rfl kp18 (S:=Non) (ρ:=fun _=>zG7 0) (en:=[]) [.c (.s b)] Tryz.ntmps18 (At.nil _ _ _) (by simp [SV.wf,SC.wf]) (by simp) ?_
 intro C hC hP hk
 have hE:∀ w',Upd C.S C.w0 w'→EnvT w':=fun w' hu=>by rw [hC] at hu; exact hE0.below hu.to_below
 have hctr:=cpC_ok hP hE
 have hS:C.S=Non:=by rw [hC]; rfl
 have hw0:C.w0=w:=by rw [hC]; rfl
 have hn0:C.n0=0:=by rw [hC]; rfl
 obtain ⟨k,hk2⟩:∃ k:Int,(if (2048:Int) < (b.length:Int) then 2048 else (b.length:Int))=k:=⟨_,rfl⟩
 have hkk:k=((b.take 2048).length:Int):=by rw [← hk2,List.length_take]; split <;> omega
 have hkt:b.take k.toNat=b.take 2048:=by
  rw [hkk,Int.toNat_natCast,List.length_take,List.take_eq_take_iff]; omega
 have k0:0≤k:=by omega
 have k1:k≤(b.length:Int):=by rw [hkk,List.length_take]; omega
 have kl:(b.take 2048).length < 4294967281:=by rw [List.length_take]; omega
 obtain ⟨s,n,hsn⟩:∃ s n,zB1 (b.take 2048)=(s,n):=⟨_,_,rfl⟩
 have hsl:s.length≤2048:=by
  have e:(zB1 (b.take 2048)).1.length≤(b.take 2048).length:=by
   unfold zB1
   simp only
   have hl:=takeW_le (fun c:UInt8=>c != 10) (b.take 2048)
   split
   ·split
    ·rw [List.length_dropLast]; omega
    ·exact hl
   ·exact Nat.zero_le _
  rw [hsn] at e
  rw [List.length_take] at e
  simp only at e; omega
 have hds:=(List.dropWhile_sublist (p:=(· == (32:UInt8))) (l:=s)).length_le
 have kd:(s.dropWhile (· == 32)).length < 4294967281:=by omega
 obtain ⟨nm,hnm⟩:∃ nm,(s.dropWhile (· == 32)).takeWhile (· != 32)=nm:=⟨_,rfl⟩
 have hfw:firstW b=nm:=by unfold firstW; rw [hsn]; exact hnm
 have hpost:∀ (x:Gq × Int) en,zD en 1=some (cmG x.1)→zD en 2=some (flG x.1)→3≤en.length→zG4 b=x→Fin C res18 (.t [.g (gqZ x.1 1),.c (.i .i64 x.2)]) en:=fun x en h1 h2 hlen hx=>by
  refine zC3 (v:=.t [.g (gqZ x.1 1),.c (.i .i64 x.2)]) hC hres18 fun ρ w' hw _ _=>?_
  have hup:=hw.up
  rw [hC] at hup
  have k1:=RowOk.of (N:=1) (n:=x.1.cmds.length) (z:=16) (e:=52) (cells:=zC2 ecS x.1.cmds) hw hS h1 (by decide)
  have k2:=RowOk.of (N:=2) (n:=x.1.flags.length) (z:=1) (e:=9) (cells:=x.1.flags.map SC.s) hw hS h2 (by decide)
  rw [hw0] at k1 k2
  rw [zE7] at k1
  rw [zF4] at k2
  rw [hx]
  refine ⟨hup.to_below,_,rfl,⟨ρ 1,ρ 2,rfl,k1,k2,fun h3 h4 he=>?_⟩⟩
  have:=hw.inj 1 2 (by show 1 < en.length; omega) (by show 2 < en.length; omega) ((zA4 h1).2 ⟨by show ¬ ((52:Nat)=zC9); decide,h3⟩) ((zA4 h2).2 ⟨by show ¬ ((9:Nat)=zC9); decide,h4⟩) he
  cases this
 have enm:∀ (x:Gq × Int) q,q ≠ 1→q ≠ 1+1→zD [⟨(35,0,whole),mqS noS noS Mq.zero,true⟩,cmG x.1,flG x.1] q=zD [⟨(35,0,whole),mqS noS noS Mq.zero,true⟩] q:=fun x q h1 h2=>by
  match q with
  | 0=>rfl
  | 1=>exact absurd rfl h1
  | 2=>exact absurd rfl h2
  | _+3=>rfl
 by_cases h2:nm.length=2
 ·obtain ⟨m,x,rfl⟩:∃ m x,nm=[m,x]:=by
   match nm,h2 with
   | [m,x],_=>exact ⟨m,x,rfl⟩
  have e0:(((2:Nat):Int) == 2)=true:=rfl
  have e1:([m,x]:List UInt8).length=2:=rfl
  have q0:(0:Int)≤0:=by decide
  have q1:(0:Int) < ((2:Nat):Int):=by decide
  have q2:(0:Int)≤1:=by decide
  have q3:(1:Int) < ((2:Nat):Int):=by decide
  have g0:([m,x]:List UInt8).getD 0 0=m:=rfl
  have g1:([m,x]:List UInt8).getD 1 0=x:=rfl
  have u1:x.toNat.toUInt8=x:=UInt8.ofNat_toNat
  by_cases hm:m=109
  ·have e2:((m.toNat:Int) == 109)=true:=by rw [hm]; rfl
   cases hx6:decide ((0:Int)≤Lib.indexByte [110,101,103,115,100,97] x) with
   | true =>
    have hmb:zX1 [m,x]=true:=by
     subst hm
     show ((109:UInt8) == 109 && [110,101,103,115,100,97].contains x)=true
     rw [← ib6,hx6]; rfl
    obtain ⟨xq,hxq⟩:∃ xq:Gq × Int,(gqM (zE9 b).1,(zE9 b).2)=xq:=⟨_,rfl⟩
    have hcp:zG4 b=xq:=by unfold zG4; rw [hfw]; simp only [hmb,if_true]; exact hxq
    (refine zA0 hctr (rs:=res18) true 300 _ _ _ ?_; simp (maxSteps:=1000000) only [VT,jf,jZ,qH,qI,qK,qN,qO,qR,qS,qY,qZ,qe,qh,ql,qn,qp,ev,qw,qy,qz,zD,zF,zG,zI,zJ,TE.sv,zK,zM,↓reduceIte,reduceCtorEq,Nat.reduceEqDiff,Nat.reduceLT,zP,zQ,zR,zT,zV,zh,hP,hk,res18,kp18,cpC,zT6,zT4,rowIBc,Int.toNat_zero,Int.toNat_one,List.drop_zero,k0,k1,kl,kd,hk2,hkt,hsn,hnm,e0,e1,q0,q1,q2,q3,g0,g1,u1,e2,hx6])
    refine zA6 rfl (pgV xq 1) [⟨(35,0,whole),mqS noS noS Mq.zero,true⟩,cmG xq.1,flG xq.1] (zK5 (C:=C) (N:=1) (ys:=[.c (.s b)]) hP (fun args w=>Tryz.call25 args w) (fun ρ w hu=>by rw [← hxq]; exact mparse_g (by omega) (hE w hu)) (fun q=>by simp only [zG]; omega) (by rw [hn0]; exact Nat.zero_le _) rfl rfl (enm xq)) (by simp [zG]) (by simp) ?_
    (refine zA0 hctr (rs:=res18) true 300 _ _ _ ?_; simp (maxSteps:=1000000) only [VT,qE,qF,qG,qH,qI,qJ,qK,qO,qP,qh,q0t,qu,qv,ev,qy,zA,zB,zC,zD,zE,zG,zI,zJ,TE.sv,zM,↓reduceIte,reduceCtorEq,Nat.reduceEqDiff,Nat.reduceAdd,Nat.reduceLT,zP,zQ,zR,zt,jN,hP,hk,res18,kp18,pgV,gqZ,gqS,mqS,noS,Mq.zero])
    exact hpost xq _ rfl rfl (by simp) hcp
   | false =>
    have hmb:zX1 [m,x]=false:=by
     subst hm
     show ((109:UInt8) == 109 && [110,101,103,115,100,97].contains x)=false
     rw [← ib6,hx6]; rfl
    obtain ⟨xq,hxq⟩:∃ xq:Gq × Int,(gqT (zE6 b).1,(zE6 b).2)=xq:=⟨_,rfl⟩
    have hcp:zG4 b=xq:=by unfold zG4; rw [hfw]; simp only [hmb,Bool.false_eq_true,if_false]; exact hxq
    (refine zA0 hctr (rs:=res18) true 300 _ _ _ ?_; simp (maxSteps:=1000000) only [VT,jf,jg,jZ,qH,qI,qK,qN,qO,qR,qS,qY,qZ,qe,qh,ql,qn,qp,ev,qw,qy,qz,zD,zF,zG,zI,zJ,TE.sv,zK,zM,↓reduceIte,reduceCtorEq,Nat.reduceEqDiff,Nat.reduceLT,zP,zQ,zR,zT,zV,zW,zh,hP,hk,res18,kp18,cpC,zT6,zT4,rowIBc,Int.toNat_zero,Int.toNat_one,List.drop_zero,k0,k1,kl,kd,hk2,hkt,hsn,hnm,e0,e1,q0,q1,q2,q3,g0,g1,u1,e2,hx6])
    refine zA6 rfl (pgV xq 1) [⟨(35,0,whole),mqS noS noS Mq.zero,true⟩,cmG xq.1,flG xq.1] (zK5 (C:=C) (N:=1) (ys:=[.c (.s b)]) hP (fun args w=>Tryz.call26 args w) (fun ρ w hu=>by rw [← hxq]; exact tparse_g (by omega) (hE w hu)) (fun q=>by simp only [zG]; omega) (by rw [hn0]; exact Nat.zero_le _) rfl rfl (enm xq)) (by simp [zG]) (by simp) ?_
    (refine zA0 hctr (rs:=res18) true 300 _ _ _ ?_; simp (maxSteps:=1000000) only [VT,qE,qF,qG,qH,qI,qJ,qK,qO,qP,qh,q0t,qu,qv,ev,qy,zA,zB,zC,zD,zE,zG,zI,zJ,TE.sv,zM,↓reduceIte,reduceCtorEq,Nat.reduceEqDiff,Nat.reduceAdd,Nat.reduceLT,zP,zQ,zR,zt,jN,hP,hk,res18,kp18,pgV,gqZ,gqS,mqS,noS,Mq.zero])
    exact hpost xq _ rfl rfl (by simp) hcp
  ·have e2:((m.toNat:Int) == 109)=false:=by
    rw [beq_eq_false_iff_ne]; intro h; exact hm (UInt8.toNat_inj.1 (by have:(109:UInt8).toNat=109:=rfl; omega))
   have hmb:zX1 [m,x]=false:=by
    have:(m == 109)=false:=by simpa using hm
    show (m == 109 && [110,101,103,115,100,97].contains x)=false
    rw [this]; rfl
   obtain ⟨xq,hxq⟩:∃ xq:Gq × Int,(gqT (zE6 b).1,(zE6 b).2)=xq:=⟨_,rfl⟩
   have hcp:zG4 b=xq:=by unfold zG4; rw [hfw]; simp only [hmb,Bool.false_eq_true,if_false]; exact hxq
   (refine zA0 hctr (rs:=res18) true 300 _ _ _ ?_; simp (maxSteps:=1000000) only [VT,jf,jg,jZ,aA,qH,qI,qK,qN,qO,qR,qS,qY,qZ,qe,qh,ql,qn,qp,ev,qw,qy,qz,zD,zF,zG,zI,zJ,TE.sv,zK,zM,↓reduceIte,reduceCtorEq,Nat.reduceEqDiff,Nat.reduceLT,zP,zQ,zR,zT,zV,zW,hP,hk,res18,kp18,cpC,zT6,zT4,Int.toNat_zero,List.drop_zero,k0,k1,kl,kd,hk2,hkt,hsn,hnm,e0,e1,q0,q1,g0,e2])
   refine zA6 rfl (pgV xq 1) [⟨(35,0,whole),mqS noS noS Mq.zero,true⟩,cmG xq.1,flG xq.1] (zK5 (C:=C) (N:=1) (ys:=[.c (.s b)]) hP (fun args w=>Tryz.call26 args w) (fun ρ w hu=>by rw [← hxq]; exact tparse_g (by omega) (hE w hu)) (fun q=>by simp only [zG]; omega) (by rw [hn0]; exact Nat.zero_le _) rfl rfl (enm xq)) (by simp [zG]) (by simp) ?_
   (refine zA0 hctr (rs:=res18) true 300 _ _ _ ?_; simp (maxSteps:=1000000) only [VT,qE,qF,qG,qH,qI,qJ,qK,qO,qP,qh,q0t,qu,qv,ev,qy,zA,zB,zC,zD,zE,zG,zI,zJ,TE.sv,zM,↓reduceIte,reduceCtorEq,Nat.reduceEqDiff,Nat.reduceAdd,Nat.reduceLT,zP,zQ,zR,zt,jN,hP,hk,res18,kp18,pgV,gqZ,gqS,mqS,noS,Mq.zero])
   exact hpost xq _ rfl rfl (by simp) hcp
 ·have e0:((nm.length:Int) == 2)=false:=by
   rw [beq_eq_false_iff_ne]; omega
  have hmb:zX1 nm=false:=by
   unfold zX1
   split
   ·exact absurd rfl h2
   ·rfl
  obtain ⟨xq,hxq⟩:∃ xq:Gq × Int,(gqT (zE6 b).1,(zE6 b).2)=xq:=⟨_,rfl⟩
  have hcp:zG4 b=xq:=by unfold zG4; rw [hfw]; simp only [hmb,Bool.false_eq_true,if_false]; exact hxq
  (refine zA0 hctr (rs:=res18) true 300 _ _ _ ?_; simp (maxSteps:=1000000) only [VT,jg,aA,qH,qI,qK,qN,qO,qR,qS,qZ,qe,qh,ql,qn,qp,ev,qw,qy,qz,zD,zF,zG,zI,zJ,TE.sv,zK,zM,↓reduceIte,reduceCtorEq,Nat.reduceEqDiff,Nat.reduceLT,zP,zQ,zR,zT,zW,hP,hk,res18,kp18,cpC,zT6,zT4,Int.toNat_zero,Int.le_refl,List.drop_zero,k0,k1,kl,kd,hk2,hkt,hsn,hnm,e0])
  refine zA6 rfl (pgV xq 1) [⟨(35,0,whole),mqS noS noS Mq.zero,true⟩,cmG xq.1,flG xq.1] (zK5 (C:=C) (N:=1) (ys:=[.c (.s b)]) hP (fun args w=>Tryz.call26 args w) (fun ρ w hu=>by rw [← hxq]; exact tparse_g (by omega) (hE w hu)) (fun q=>by simp only [zG]; omega) (by rw [hn0]; exact Nat.zero_le _) rfl rfl (enm xq)) (by simp [zG]) (by simp) ?_
  (refine zA0 hctr (rs:=res18) true 300 _ _ _ ?_; simp (maxSteps:=1000000) only [VT,qE,qF,qG,qH,qI,qJ,qK,qO,qP,qh,q0t,qu,qv,ev,qy,zA,zB,zC,zD,zE,zG,zI,zJ,TE.sv,zM,↓reduceIte,reduceCtorEq,Nat.reduceEqDiff,Nat.reduceAdd,Nat.reduceLT,zP,zQ,zR,zt,jN,hP,hk,res18,kp18,pgV,gqZ,gqS,mqS,noS,Mq.zero])
  exact hpost xq _ rfl rfl (by simp) hcp
end Go.Proofs.YtcbmlanpianclaaGreatDoor
