/- The document's get and gets, walked. Printed by gen_dt6.py. -/
import Derived.Test.YtcbmlanpianclaaGreatDoorBS15
import Derived.Test.YtcbmlanpianclaaGreatDoorBS14
import Derived.Test.YtcbmlanpianclaaGreatDoorBS07
import Derived.Test.YtcbmlanpianclaaGreatDoorBS08
import Derived.Test.YtcbmlanpianclaaGreatDoorBS04
namespace Go.Proofs.YtcbmlanpianclaaGreatDoor
set_option linter.unusedSimpArgs false
set_option linter.unusedVariables false
set_option maxHeartbeats 8000000
open Go.RowKit
set_option maxRecDepth 100000
def gtC (ex:Int) (gat:Bool) (key:List UInt8):Cd:={ Cd.zero with op:=1,key:=key,exp:=ex,hasExp:=gat,recache:=-1 }
def gtE (ex:Int) (gat:Bool):EN:=⟨(52,0,whole),ecS { Cd.zero with op:=1,exp:=ex,hasExp:=gat },true⟩
def gtR (tk:Bool) (cs:List Cd):Rq:=⟨1,cs,false,tk,[],[],0,false,[]⟩
def gtQ (tk:Bool) (N n:Nat):EN:=⟨(35,0,whole),gqS (.rw N n) noS (gqT (gtR tk [])),true⟩
def gtW (ex:Int) (gat:Bool) (ks:List (List UInt8)):EN:=rwE 52 16 ks.length (zC2 ecS (ks.map (gtC ex gat)))
def gtS (b o n c i:Nat):List (Nat × SV):=[(8,.c (.i .i64 (i:Int))),(7,.c (.p 2 0)),(4,.c (.v (.slice (some ⟨b,o,none⟩) n c))),(3,.c (.p 1 0)),(2,.c (.p 0 0))]
theorem gtW_app (ex:Int) (gat:Bool) (ks:List (List UInt8)) (k:List UInt8):rwE 52 16 (ks.length+1) (zC2 ecS (ks.map (gtC ex gat))++ecS (gtC ex gat k))=gtW ex gat (ks++[k]):=by
 unfold gtW
 rw [List.map_append,flatG_app,List.length_append]
 congr 1
theorem gtR_is (ks:List (List UInt8)) (ex:Int) (gat tk:Bool):{ doR (ks.map fun k=>{ Cd.zero with op:=1,key:=k,exp:=ex,hasExp:=gat }) false with tokens:=tk }=gtR tk (ks.map (gtC ex gat)):=by
 unfold doR gtR
 rw [List.map_map]
 rfl
theorem dg_get_w {w:World} {a:Option Addr} {n cap:Nat} {w0:List (List UInt8)} (hraw:RawT w a ([103,101,116] :: w0)) (hn:n=w0.length+1) (hnc:n≤cap) (hcap:cap≤maxLen) (hl:∀ x∈w0,x.length≤5000) (hlen:n≤5000) :
  Calls Tryz.prog 47 #[.slice a n cap] w (zJ5 w (gqT (rdX (zJ7 [103,101,116] w0)).1)):=by
 obtain ⟨b,oo,rfl,hwb,hc0⟩:=hraw 0 [103,101,116] rfl
 unfold maxLen at hcap
 refine zA1 Tryz.func47 rfl kp47 (S:=Non) (ρ:=fun _=>zG7 0) (en:=[]) [.c (.v (.slice (some ⟨b,oo,none⟩) n cap))] Tryz.ntmps47 (At.nil _ _ _) (by simp [SV.wf,SC.wf]) (by simp) ?_
 intro C hC hP hk
 have hS:C.S=Non:=by rw [hC]; rfl
 have hw:C.w0=w:=by rw [hC]; rfl
 have hn0:C.n0=0:=by rw [hC]; rfl
 have hCtx:Ctx C Tryz.prog Tryz.f47 (zJ5 w (gqT (rdX (zJ7 [103,101,116] w0)).1)):=by rw [hC]; exact ctx_of
 have hctr:zC1 C (dT0 (some ⟨b,oo,none⟩) n cap _ _):=zM9 hP hS hw hraw (by simpa using hn) hnc (by unfold maxLen; exact hcap) rfl rfl
 have fin:∀ {D:Cx} (_:Ctx D Tryz.prog Tryz.f47 (zJ5 w (gqT (rdX (zJ7 [103,101,116] w0)).1))) (_:D.S=Non) (_:D.w0=w) (r:Rq) (en:List EN),(rdX (zJ7 [103,101,116] w0)).1=r→r.cmds=[]→Fin D res47 (.g (gqS noS noS (gqT r))) en:=fun h1 h2 h3 r en h h4 =>
  zR5 (v:=.g (gqS noS noS (gqT r))) h1 rfl fun ρ w' hw _ _=>by
   have hup:=hw.up
   rw [h2,h3] at hup
   rw [h]
   exact ⟨hup.to_below,_,rfl,GqV.none h4 rfl⟩
 have rd:∀ (i:Nat) x,([103,101,116] :: w0)[i]?=some x→C.rd b (oo+i) 1=some [.s x]:=fun i x hx=>by
  obtain ⟨b',o',e,hr⟩:=hraw.rd (D:=C) hS hw hx
  cases e; exact hr
 have r0:C.rd b oo 1=some [.s [103,101,116]]:=rd 0 _ rfl
 have z0:(0:Int) < (n:Int):=by omega
 have z1:(0:Int)≤1:=by decide
 have z2:(1:Int)≤(n:Int):=by omega
 have z3:(n:Int)≤(cap:Int):=by omega
 have hgt:([103,97,116]:List UInt8).isPrefixOf [103,101,116]=false:=rfl
 have htk:(([103,101,116]:List UInt8).getLast? == some 115)=false:=rfl
 obtain ⟨o1,ho1⟩:∃ o1,(if cap=1 then oo else oo+1)=o1:=⟨_,rfl⟩
 by_cases hne:w0=[]
 ·subst hne
  have c1:(((n - 1:Nat):Int) == 0)=true:=by rw [beq_iff_eq]; simp at hn; omega
  (refine zA0 hctr (rs:=res47) true 300 _ _ _ ?_; simp (maxSteps:=1000000) only [VT,jf,jg,jZ,qE,qF,qG,qH,qI,qJ,qK,qN,qO,qP,qR,qS,qX,qZ,qe,qf,qg,ql,qm,qp,q0t,qu,qv,ev,qw,qy,qz,zA,zB,zC,zD,zE,zF,zG,zI,zJ,TE.sv,zK,zM,↓reduceIte,reduceCtorEq,Value.oneCell',Nat.reduceEqDiff,Nat.reduceAdd,Nat.reduceLT,Nat.reduceBEq,zP,zQ,zR,zT,zV,zW,zh,zk,zl,zt,zu,zw,zx,hP,hk,res47,kp47,dT0,zA9,mqS,noS,zD8,Int.toNat_zero,Int.toNat_one,Nat.mul_one,Int.le_refl,Nat.reduceAdd,lb1,lb3,lb4,u8b,UInt8.reduceToNat,r0,z0,z1,z2,z3,ho1,c1])
  exact fin hCtx hS hw (zD9 zA5) _ rfl rfl
 obtain ⟨ks,hks⟩:∃ ks,w0=ks:=⟨_,rfl⟩
 rw [hks] at hne
 have hlp:=List.length_pos_iff.2 hne
 have hkn:n - 1=ks.length:=by rw [← hks]; omega
 obtain ⟨kn,hkn2⟩:∃ kn,n - 1=kn:=⟨_,rfl⟩
 obtain ⟨kc,hkc⟩:∃ kc,cap - 1=kc:=⟨_,rfl⟩
 obtain ⟨ko,hko⟩:∃ ko,o1=ko:=⟨_,rfl⟩
 have hkr:∀ (i:Nat) y,ks[i]?=some y→C.rd b (ko+i) 1=some [.s y]:=fun i y hy=>by
  have:=rd (i+1) y (by rw [hks]; exact hy)
  rw [← hko,← ho1,if_neg (by rw [← hks] at hlp; omega),show oo+1+i=oo+(i+1) by omega]
  exact this
 have hkl:∀ y∈ks,y.length≤5000:=fun y hy=>hl y (by rw [hks]; exact hy)
 rw [hkn2] at hkn
 have c0:((kn:Int) == 0)=false:=by
  rw [beq_eq_false_iff_ne]
  have:=List.length_pos_iff.2 hne
  omega
 have hgood:ks.all zG3=true→(rdX (zJ7 [103,101,116] w0)).1=gtR false (ks.map (gtC 0 false)):=fun h=>by
  rw [← gtR_is]
  unfold zJ7
  simp only [hgt,htk]
  simp [rdX,hks,hne,h]
 have hbad:ks.all zG3=false→(rdX (zJ7 [103,101,116] w0)).1=zD9 zA2:=fun h=>by
  unfold zJ7
  simp only [hgt,htk]
  simp [rdX,hks,hne,h]
 (refine zA0 hctr (rs:=res47) true 300 _ _ _ ?_; simp (maxSteps:=1000000) only [VT,jg,jZ,qH,qI,qJ,qK,qN,qO,qP,qR,qS,qX,qZ,qe,qf,qg,ql,qm,qp,q0t,qu,qv,ev,qy,qz,zC,zD,zE,zF,zG,zI,zJ,zK,zM,↓reduceIte,reduceCtorEq,Value.oneCell',Nat.reduceEqDiff,Nat.reduceAdd,Nat.reduceLT,Nat.reduceBEq,zP,zQ,zR,zT,zW,zh,zk,zt,zu,zw,zx,hP,hk,res47,kp47,Int.toNat_zero,Int.toNat_one,Nat.mul_one,Int.le_refl,Nat.reduceAdd,lb1,lb3,lb4,u8b,UInt8.reduceToNat,r0,z0,z1,z2,z3,ho1,hkn2,hkc,hko,c0])
 refine zG2 true (en':=[rqZ,gtE 0 false,gtQ false 3 0]) (sl':=gtS b ko kn kc 0) (52,0,rowP 16 0 0) rfl (fun _=>⟨rfl,.inr ⟨rfl,rfl,rfl⟩⟩) (fun _=>by show ¬ ((52:Nat)=zC9); decide) ?_ ?_ ?_
 ·refine ⟨⟨rfl,rfl,fun _ _=>rfl,zL5 (r:=Gq.zero) trivial trivial⟩,⟨rfl,rfl,fun _ _=>rfl,zM8 _ _⟩,⟨rfl,rfl,fun ρ h=>?_,zL5 (by show 3 < 3+1; decide) trivial⟩,trivial⟩
  have h:(ρ 3).nl=some none:=h
  simp only [gtQ,gqS,zB8,List.map_cons,List.map_nil,SC.den,noS,zF1 h,gqT,gtR]
 ·refine ⟨⟨⟨_,rfl,fun _ _=>rfl⟩,trivial⟩,⟨⟨_,rfl,fun _ _=>rfl⟩,?_⟩,⟨⟨_,rfl,fun _ _=>rfl⟩,trivial⟩,⟨⟨_,rfl,fun _ _=>rfl⟩,?_⟩,⟨⟨_,rfl,fun _ _=>rfl⟩,?_⟩,trivial⟩
  ·show 2 < 3+1; decide
  ·show 1 < 3+1; decide
  ·show 0 < 3+1; decide
 refine zD6 (ι:={ i:Nat // i≤ks.length∧(ks.take i).all zG3=true }) (fun i=>gtS b ko kn kc i.1) (fun i=>[rqZ,gtE 0 false,gtQ false 3 i.1,gtW 0 false (ks.take i.1)]) (fun i=>ks.length - i.1) ⟨0,Nat.zero_le _,rfl⟩ (zB3 ⟨rfl,rfl,rfl,rfl,rfl,trivial⟩) rfl ?_
 rintro ⟨i,hi,hall⟩ D dP dS dw dn dr dk ddf dPan dRet hX hJ
 have hP0:=hP; have hk0:=hk; have hctr0:=hctr
 have hP:D.P=Tryz.prog:=by rw [dP]; exact hP0
 have hk:D.kp=kp47:=by rw [dk]; exact hk0
 have hDS:D.S=Non:=by rw [dS]; exact hS
 have hDw:D.w0=w:=by rw [dw]; exact hw
 have hctr:zC1 D (dT0 (some ⟨b,oo,none⟩) n cap _ _):=zM9 hP hDS hDw hraw (by simpa using hn) hnc (by unfold maxLen; exact hcap) rfl rfl
 have hDx:Ctx D Tryz.prog Tryz.f47 _:=⟨dP.trans hCtx.p,fun a w hb=>dRet a w (hCtx.ret a w hb),ddf.trans hCtx.df⟩
 have hi:i≤ks.length:=hi
 have hall:(ks.take i).all zG3=true:=hall
 show Run D _ _ (gtS b ko kn kc i) [rqZ,gtE 0 false,gtQ false 3 i,gtW 0 false (ks.take i)]
 have htl:(ks.take i).length=i:=by rw [List.length_take]; omega
 by_cases hin:i < ks.length
 ·have q1:decide ((i:Int) < (kn:Int))=true:=decide_eq_true (by omega)
  obtain ⟨y,hy⟩:∃ y,ks[i]?=some y:=⟨_,List.getElem?_eq_getElem hin⟩
  have ry:D.rd b (ko+i) 1=some [.s y]:=by
   have:=hkr i y hy
   rw [← this]
   simp only [Cx.rd,dS,dw]
  have p0:(0:Int)≤(i:Int):=by omega
  have p1:(i:Int) < (kn:Int):=by omega
  have ly:y.length≤9223372036854775806:=by have:=hkl y (List.mem_of_getElem? hy); omega
  cases hkb:zG3 y with
  | false =>
   (refine zA0 hctr (rs:=res47) true 300 _ _ _ ?_; simp (maxSteps:=1000000) only [VT,jf,qE,qF,qG,qH,qI,qJ,qK,qN,qO,qP,qR,qS,qT,qX,qe,q0t,qu,qv,ev,qw,qy,qz,zA,zB,zC,zD,zE,zG,zI,zJ,TE.sv,zM,↓reduceIte,reduceCtorEq,Value.oneCell',Nat.reduceEqDiff,Nat.reduceAdd,Nat.reduceLT,zP,zQ,zR,zT,zV,zW,zh,zk,zo,zt,rwE,hP,hk,res47,kp47,dT0,zC0,zA9,mqS,noS,zD8,rqZ,Mq.zero,Nat.mul_one,Nat.reduceAdd,gtS,gtE,gtQ,gtW,p0,p1,ry,ly,hkb])
   exact fin hDx hDS hDw (zD9 zA2) _ (hbad (by
    cases h:ks.all zG3 with
    | false=>rfl
    | true =>
     have:=List.all_eq_true.1 h y (List.mem_of_getElem? hy)
     rw [hkb] at this; cases this)) rfl
  | true =>
   (refine zA0 hctr (rs:=res47) true 300 _ _ _ ?_; simp (maxSteps:=1000000) only [VT,jf,jg,qA,qB,qC,qD,qH,qI,qJ,qK,qN,qO,qP,qR,qS,qT,qV,qX,qe,qg,q0t,qu,qv,ev,qw,qy,qz,zA,zB,zC,zD,zE,zF,zG,zI,zJ,zM,↓reduceIte,reduceCtorEq,Nat.reduceEqDiff,Nat.reduceAdd,Nat.reduceLT,Nat.reduceLeDiff,zP,zQ,zR,zT,zV,zW,zh,zk,zl,zo,zt,rwE,hP,hk,res47,kp47,dT0,zC0,mqS,noS,rqZ,Mq.zero,Nat.mul_one,Nat.reduceAdd,Nat.reduceMul,gtS,gtE,gtQ,gtW,gqS,gqT,gtR,ecS,Cd.zero,p0,p1,ry,ly,hkb])
   obtain ⟨i0,hi',hz0,hz1,hz2⟩:=info_parts zZ0
   refine zH9 (X:=.rw 3 i) (Y:=.sl 5 0 1 1) (o:=some 3) (n:=i) (m:=1) (z:=16) (bts:=136) (cells:=zC2 ecS ((ks.take i).map (gtC 0 false))) (news:=ecS (gtC 0 false y)) (e:=52) (by rw [hP]; exact Tryz.underlying32) (by rw [hP]; exact hi') hz0 hz1 hz2 rfl (by decide) (by show ¬ ((52:Nat)=zC9); decide) (.some (by show some (rwE 52 16 (ks.take i).length _)=_; rw [htl])) rfl rfl (zU5 (c:=5) (o:=0) (L:=16) rfl rfl) rfl rfl (fun pr=>zM8 pr _) (by omega) (by omega) (by rw [dn,hn0]; exact Nat.zero_le _) rfl (by simp) ?_
   have p3:IntKind.i64.wrap ((i:Int)+1)=((i+1:Nat):Int):=by rw [IntWalk.i64_in _ (by omega)]; rfl
   have hap:rwE 52 16 (i+1) (zC2 ecS ((ks.take i).map (gtC 0 false))++ecS (gtC 0 false y))=gtW 0 false (ks.take (i+1)):=by
    have:=gtW_app 0 false (ks.take i) y
    rw [htl] at this
    rw [this,List.take_add_one,hy]; rfl
   rw [hap]
   (refine zA0 hctr (rs:=res47) true 300 _ _ _ ?_; simp (maxSteps:=1000000) only [VT,qH,qI,qJ,qK,qO,qR,qS,qV,q0t,qv,ev,qy,qz,zC,zD,zE,zF,zG,zI,zJ,zM,↓reduceIte,reduceCtorEq,Nat.reduceEqDiff,Nat.reduceAdd,Nat.reduceLT,zP,zQ,zR,zt,zM2,zH4,jN,hP,hk,kp47,Nat.reduceAdd,p3])
   have hJ':=hJ ⟨i+1,hin,by rw [List.take_add_one,hy,List.all_append,hall]; simp [hkb]⟩ _ (by show ks.length - (i+1) < ks.length - i; omega) (fun d v h=>h)
   refine zN2 (s:=[(8,.c (.i .i64 ((i+1:Nat):Int))),(7,.c (.p 2 0)),(4,.c (.v (.slice (some ⟨b,ko,none⟩) kn kc))),(3,.c (.p 1 0)),(2,.c (.p 0 0))]) (zB3 ⟨rfl,rfl,rfl,rfl,rfl,trivial⟩) ?_
   refine zI6 (f:=fun c=>if c=3 then 6 else c) (enK:=[rqZ,gtE 0 false,gtQ false 3 (i+1),gtW 0 false (ks.take (i+1))]) (slK:=gtS b ko kn kc (i+1)) ⟨fun q hq=>absurd hq (by rw [dn,hn0]; exact Nat.not_lt_zero _),by rw [dn,hn0]; exact Nat.zero_le _⟩ (fun p q hp hq h=>?_) ?_ ?_ hJ'
   ·have hp:p < 4:=hp
    have hq:q < 4:=hq
    split at h <;> split at h <;> omega
   ·refine ⟨⟨_,rfl,fun ρ=>rfl,zL5 (r:=Gq.zero) trivial trivial⟩,⟨_,rfl,fun ρ=>rfl,zM8 _ _⟩,⟨_,rfl,fun ρ=>rfl,zL5 (by show 3 < 4; decide) trivial⟩,⟨_,rfl,fun ρ=>(zE7 _ _).trans (zE7 _ _).symm,ec_wf _ _⟩,trivial⟩
   ·refine ⟨⟨?_,_,rfl,fun ρ=>rfl⟩,⟨?_,_,rfl,fun ρ=>rfl⟩,⟨?_,_,rfl,fun ρ=>rfl⟩,⟨?_,_,rfl,fun ρ=>rfl⟩,⟨?_,_,rfl,fun ρ=>rfl⟩,trivial⟩
    all_goals simp [SV.wf,SC.wf]
 ·have hie:i=ks.length:=by omega
  subst hie
  have q1:decide ((ks.length:Int) < (kn:Int))=false:=decide_eq_false (by omega)
  rw [List.take_length] at hall ⊢
  (refine zA0 hctr (rs:=res47) true 300 _ _ _ ?_; simp (maxSteps:=1000000) only [VT,jg,qH,qI,qK,qN,qO,qR,qS,qe,ev,qy,zH,zI,zJ,zM,↓reduceIte,reduceCtorEq,Nat.reduceEqDiff,Nat.reduceLT,zP,zQ,zR,zW,zk,rwE,hP,hk,res47,kp47,mqS,noS,rqZ,Mq.zero,gtS,gtE,gtQ,gtW,q1])
  refine hX rfl rfl ?_
  have hP:=hP0; have hk:=hk0; have hctr:=hctr0
  (refine zA0 hctr (rs:=res47) true 300 _ _ _ ?_; simp (maxSteps:=1000000) only [VT,qE,qF,qG,qH,qI,qJ,qK,qP,q0t,qu,qv,ev,qy,zA,zB,zC,zD,zE,zG,zI,zJ,TE.sv,zM,↓reduceIte,reduceCtorEq,Value.oneCell',Nat.reduceEqDiff,Nat.reduceAdd,Nat.reduceLT,zP,zQ,zR,zt,hP,hk,res47,kp47,Nat.reduceAdd,gqS,gqT,gtR,ecS,Cd.zero])
  obtain ⟨rr,hrr⟩:∃ rr,rr=gtR false (ks.map (gtC 0 false)):=⟨_,rfl⟩
  have hlr:(gqT rr).cmds.length=ks.length:=by rw [hrr]; exact List.length_map _
  refine zR5 (v:=.g (gqS (.rw 3 ks.length) noS (gqT (gtR false [])))) hCtx rfl fun ρ w' hw' _ _=>?_
  have hup:=hw'.up
  rw [hS,hw] at hup
  have k1:=RowOk.of (N:=3) (n:=ks.length) (z:=16) (e:=52) (cells:=zC2 ecS (ks.map (gtC 0 false))) hw' hS rfl (by decide)
  rw [hw,zE7] at k1
  rw [hgood hall]
  refine ⟨hup.to_below,_,rfl,ρ 3,nilR _,?_,?_,RowOk.nil _ _ _ _,fun _ h=>by cases h⟩
  ·show gqA (zL3 (ρ 3) ks.length) _ _=gqA (zL3 (ρ 3) (ks.map _).length) _ _
   rw [List.length_map]; rfl
  ·show RowOk _ _ _ _ _ (ks.map _).length _
   rw [List.length_map]; exact k1
theorem dg_gets_w {w:World} {a:Option Addr} {n cap:Nat} {w0:List (List UInt8)} (hraw:RawT w a ([103,101,116,115] :: w0)) (hn:n=w0.length+1) (hnc:n≤cap) (hcap:cap≤maxLen) (hl:∀ x∈w0,x.length≤5000) (hlen:n≤5000) :
  Calls Tryz.prog 47 #[.slice a n cap] w (zJ5 w (gqT (rdX (zJ7 [103,101,116,115] w0)).1)):=by
 obtain ⟨b,oo,rfl,hwb,hc0⟩:=hraw 0 [103,101,116,115] rfl
 unfold maxLen at hcap
 refine zA1 Tryz.func47 rfl kp47 (S:=Non) (ρ:=fun _=>zG7 0) (en:=[]) [.c (.v (.slice (some ⟨b,oo,none⟩) n cap))] Tryz.ntmps47 (At.nil _ _ _) (by simp [SV.wf,SC.wf]) (by simp) ?_
 intro C hC hP hk
 have hS:C.S=Non:=by rw [hC]; rfl
 have hw:C.w0=w:=by rw [hC]; rfl
 have hn0:C.n0=0:=by rw [hC]; rfl
 have hCtx:Ctx C Tryz.prog Tryz.f47 (zJ5 w (gqT (rdX (zJ7 [103,101,116,115] w0)).1)):=by rw [hC]; exact ctx_of
 have hctr:zC1 C (dT0 (some ⟨b,oo,none⟩) n cap _ _):=zM9 hP hS hw hraw (by simpa using hn) hnc (by unfold maxLen; exact hcap) rfl rfl
 have fin:∀ {D:Cx} (_:Ctx D Tryz.prog Tryz.f47 (zJ5 w (gqT (rdX (zJ7 [103,101,116,115] w0)).1))) (_:D.S=Non) (_:D.w0=w) (r:Rq) (en:List EN),(rdX (zJ7 [103,101,116,115] w0)).1=r→r.cmds=[]→Fin D res47 (.g (gqS noS noS (gqT r))) en:=fun h1 h2 h3 r en h h4 =>
  zR5 (v:=.g (gqS noS noS (gqT r))) h1 rfl fun ρ w' hw _ _=>by
   have hup:=hw.up
   rw [h2,h3] at hup
   rw [h]
   exact ⟨hup.to_below,_,rfl,GqV.none h4 rfl⟩
 have rd:∀ (i:Nat) x,([103,101,116,115] :: w0)[i]?=some x→C.rd b (oo+i) 1=some [.s x]:=fun i x hx=>by
  obtain ⟨b',o',e,hr⟩:=hraw.rd (D:=C) hS hw hx
  cases e; exact hr
 have r0:C.rd b oo 1=some [.s [103,101,116,115]]:=rd 0 _ rfl
 have z0:(0:Int) < (n:Int):=by omega
 have z1:(0:Int)≤1:=by decide
 have z2:(1:Int)≤(n:Int):=by omega
 have z3:(n:Int)≤(cap:Int):=by omega
 have hgt:([103,97,116]:List UInt8).isPrefixOf [103,101,116,115]=false:=rfl
 have htk:(([103,101,116,115]:List UInt8).getLast? == some 115)=true:=rfl
 obtain ⟨o1,ho1⟩:∃ o1,(if cap=1 then oo else oo+1)=o1:=⟨_,rfl⟩
 by_cases hne:w0=[]
 ·subst hne
  have c1:(((n - 1:Nat):Int) == 0)=true:=by rw [beq_iff_eq]; simp at hn; omega
  (refine zA0 hctr (rs:=res47) true 300 _ _ _ ?_; simp (maxSteps:=1000000) only [VT,jf,jg,jZ,qE,qF,qG,qH,qI,qJ,qK,qN,qO,qP,qR,qS,qX,qZ,qe,qf,qg,ql,qm,qp,q0t,qu,qv,ev,qw,qy,qz,zA,zB,zC,zD,zE,zF,zG,zI,zJ,TE.sv,zK,zM,↓reduceIte,reduceCtorEq,Value.oneCell',Nat.reduceEqDiff,Nat.reduceAdd,Nat.reduceLT,Nat.reduceBEq,zP,zQ,zR,zT,zV,zW,zh,zk,zl,zt,zu,zw,zx,hP,hk,res47,kp47,dT0,zA9,mqS,noS,zD8,Int.toNat_zero,Int.toNat_one,Nat.mul_one,Int.le_refl,Nat.reduceAdd,lb1,lb2,lb4,u8b,UInt8.reduceToNat,r0,z0,z1,z2,z3,ho1,c1])
  exact fin hCtx hS hw (zD9 zA5) _ rfl rfl
 obtain ⟨ks,hks⟩:∃ ks,w0=ks:=⟨_,rfl⟩
 rw [hks] at hne
 have hlp:=List.length_pos_iff.2 hne
 have hkn:n - 1=ks.length:=by rw [← hks]; omega
 obtain ⟨kn,hkn2⟩:∃ kn,n - 1=kn:=⟨_,rfl⟩
 obtain ⟨kc,hkc⟩:∃ kc,cap - 1=kc:=⟨_,rfl⟩
 obtain ⟨ko,hko⟩:∃ ko,o1=ko:=⟨_,rfl⟩
 have hkr:∀ (i:Nat) y,ks[i]?=some y→C.rd b (ko+i) 1=some [.s y]:=fun i y hy=>by
  have:=rd (i+1) y (by rw [hks]; exact hy)
  rw [← hko,← ho1,if_neg (by rw [← hks] at hlp; omega),show oo+1+i=oo+(i+1) by omega]
  exact this
 have hkl:∀ y∈ks,y.length≤5000:=fun y hy=>hl y (by rw [hks]; exact hy)
 rw [hkn2] at hkn
 have c0:((kn:Int) == 0)=false:=by
  rw [beq_eq_false_iff_ne]
  have:=List.length_pos_iff.2 hne
  omega
 have hgood:ks.all zG3=true→(rdX (zJ7 [103,101,116,115] w0)).1=gtR true (ks.map (gtC 0 false)):=fun h=>by
  rw [← gtR_is]
  unfold zJ7
  simp only [hgt,htk]
  simp [rdX,hks,hne,h]
 have hbad:ks.all zG3=false→(rdX (zJ7 [103,101,116,115] w0)).1=zD9 zA2:=fun h=>by
  unfold zJ7
  simp only [hgt,htk]
  simp [rdX,hks,hne,h]
 (refine zA0 hctr (rs:=res47) true 300 _ _ _ ?_; simp (maxSteps:=1000000) only [VT,jf,jg,jZ,aA,qH,qI,qJ,qK,qN,qO,qP,qR,qS,qX,qZ,qe,qf,qg,ql,qm,qp,q0t,qu,qv,ev,qy,qz,zC,zD,zE,zF,zG,zI,zJ,zK,zM,↓reduceIte,reduceCtorEq,Value.oneCell',Nat.reduceEqDiff,Nat.reduceAdd,Nat.reduceLT,Nat.reduceBEq,zP,zQ,zR,zT,zV,zW,zh,zk,zt,zu,zw,zx,hP,hk,res47,kp47,Int.toNat_zero,Int.toNat_one,Nat.mul_one,Int.le_refl,Nat.reduceAdd,lb1,lb2,lb4,u8b,UInt8.reduceToNat,r0,z0,z1,z2,z3,ho1,hkn2,hkc,hko,c0])
 refine zG2 true (en':=[rqZ,gtE 0 false,gtQ true 3 0]) (sl':=gtS b ko kn kc 0) (52,0,rowP 16 0 0) rfl (fun _=>⟨rfl,.inr ⟨rfl,rfl,rfl⟩⟩) (fun _=>by show ¬ ((52:Nat)=zC9); decide) ?_ ?_ ?_
 ·refine ⟨⟨rfl,rfl,fun _ _=>rfl,zL5 (r:=Gq.zero) trivial trivial⟩,⟨rfl,rfl,fun _ _=>rfl,zM8 _ _⟩,⟨rfl,rfl,fun ρ h=>?_,zL5 (by show 3 < 3+1; decide) trivial⟩,trivial⟩
  have h:(ρ 3).nl=some none:=h
  simp only [gtQ,gqS,zB8,List.map_cons,List.map_nil,SC.den,noS,zF1 h,gqT,gtR]
 ·refine ⟨⟨⟨_,rfl,fun _ _=>rfl⟩,trivial⟩,⟨⟨_,rfl,fun _ _=>rfl⟩,?_⟩,⟨⟨_,rfl,fun _ _=>rfl⟩,trivial⟩,⟨⟨_,rfl,fun _ _=>rfl⟩,?_⟩,⟨⟨_,rfl,fun _ _=>rfl⟩,?_⟩,trivial⟩
  ·show 2 < 3+1; decide
  ·show 1 < 3+1; decide
  ·show 0 < 3+1; decide
 refine zD6 (ι:={ i:Nat // i≤ks.length∧(ks.take i).all zG3=true }) (fun i=>gtS b ko kn kc i.1) (fun i=>[rqZ,gtE 0 false,gtQ true 3 i.1,gtW 0 false (ks.take i.1)]) (fun i=>ks.length - i.1) ⟨0,Nat.zero_le _,rfl⟩ (zB3 ⟨rfl,rfl,rfl,rfl,rfl,trivial⟩) rfl ?_
 rintro ⟨i,hi,hall⟩ D dP dS dw dn dr dk ddf dPan dRet hX hJ
 have hP0:=hP; have hk0:=hk; have hctr0:=hctr
 have hP:D.P=Tryz.prog:=by rw [dP]; exact hP0
 have hk:D.kp=kp47:=by rw [dk]; exact hk0
 have hDS:D.S=Non:=by rw [dS]; exact hS
 have hDw:D.w0=w:=by rw [dw]; exact hw
 have hctr:zC1 D (dT0 (some ⟨b,oo,none⟩) n cap _ _):=zM9 hP hDS hDw hraw (by simpa using hn) hnc (by unfold maxLen; exact hcap) rfl rfl
 have hDx:Ctx D Tryz.prog Tryz.f47 _:=⟨dP.trans hCtx.p,fun a w hb=>dRet a w (hCtx.ret a w hb),ddf.trans hCtx.df⟩
 have hi:i≤ks.length:=hi
 have hall:(ks.take i).all zG3=true:=hall
 show Run D _ _ (gtS b ko kn kc i) [rqZ,gtE 0 false,gtQ true 3 i,gtW 0 false (ks.take i)]
 have htl:(ks.take i).length=i:=by rw [List.length_take]; omega
 by_cases hin:i < ks.length
 ·have q1:decide ((i:Int) < (kn:Int))=true:=decide_eq_true (by omega)
  obtain ⟨y,hy⟩:∃ y,ks[i]?=some y:=⟨_,List.getElem?_eq_getElem hin⟩
  have ry:D.rd b (ko+i) 1=some [.s y]:=by
   have:=hkr i y hy
   rw [← this]
   simp only [Cx.rd,dS,dw]
  have p0:(0:Int)≤(i:Int):=by omega
  have p1:(i:Int) < (kn:Int):=by omega
  have ly:y.length≤9223372036854775806:=by have:=hkl y (List.mem_of_getElem? hy); omega
  cases hkb:zG3 y with
  | false =>
   (refine zA0 hctr (rs:=res47) true 300 _ _ _ ?_; simp (maxSteps:=1000000) only [VT,jf,qE,qF,qG,qH,qI,qJ,qK,qN,qO,qP,qR,qS,qT,qX,qe,q0t,qu,qv,ev,qw,qy,qz,zA,zB,zC,zD,zE,zG,zI,zJ,TE.sv,zM,↓reduceIte,reduceCtorEq,Value.oneCell',Nat.reduceEqDiff,Nat.reduceAdd,Nat.reduceLT,zP,zQ,zR,zT,zV,zW,zh,zk,zo,zt,rwE,hP,hk,res47,kp47,dT0,zC0,zA9,mqS,noS,zD8,rqZ,Mq.zero,Nat.mul_one,Nat.reduceAdd,gtS,gtE,gtQ,gtW,p0,p1,ry,ly,hkb])
   exact fin hDx hDS hDw (zD9 zA2) _ (hbad (by
    cases h:ks.all zG3 with
    | false=>rfl
    | true =>
     have:=List.all_eq_true.1 h y (List.mem_of_getElem? hy)
     rw [hkb] at this; cases this)) rfl
  | true =>
   (refine zA0 hctr (rs:=res47) true 300 _ _ _ ?_; simp (maxSteps:=1000000) only [VT,jf,jg,qA,qB,qC,qD,qH,qI,qJ,qK,qN,qO,qP,qR,qS,qT,qV,qX,qe,qg,q0t,qu,qv,ev,qw,qy,qz,zA,zB,zC,zD,zE,zF,zG,zI,zJ,zM,↓reduceIte,reduceCtorEq,Nat.reduceEqDiff,Nat.reduceAdd,Nat.reduceLT,Nat.reduceLeDiff,zP,zQ,zR,zT,zV,zW,zh,zk,zl,zo,zt,rwE,hP,hk,res47,kp47,dT0,zC0,mqS,noS,rqZ,Mq.zero,Nat.mul_one,Nat.reduceAdd,Nat.reduceMul,gtS,gtE,gtQ,gtW,gqS,gqT,gtR,ecS,Cd.zero,p0,p1,ry,ly,hkb])
   obtain ⟨i0,hi',hz0,hz1,hz2⟩:=info_parts zZ0
   refine zH9 (X:=.rw 3 i) (Y:=.sl 5 0 1 1) (o:=some 3) (n:=i) (m:=1) (z:=16) (bts:=136) (cells:=zC2 ecS ((ks.take i).map (gtC 0 false))) (news:=ecS (gtC 0 false y)) (e:=52) (by rw [hP]; exact Tryz.underlying32) (by rw [hP]; exact hi') hz0 hz1 hz2 rfl (by decide) (by show ¬ ((52:Nat)=zC9); decide) (.some (by show some (rwE 52 16 (ks.take i).length _)=_; rw [htl])) rfl rfl (zU5 (c:=5) (o:=0) (L:=16) rfl rfl) rfl rfl (fun pr=>zM8 pr _) (by omega) (by omega) (by rw [dn,hn0]; exact Nat.zero_le _) rfl (by simp) ?_
   have p3:IntKind.i64.wrap ((i:Int)+1)=((i+1:Nat):Int):=by rw [IntWalk.i64_in _ (by omega)]; rfl
   have hap:rwE 52 16 (i+1) (zC2 ecS ((ks.take i).map (gtC 0 false))++ecS (gtC 0 false y))=gtW 0 false (ks.take (i+1)):=by
    have:=gtW_app 0 false (ks.take i) y
    rw [htl] at this
    rw [this,List.take_add_one,hy]; rfl
   rw [hap]
   (refine zA0 hctr (rs:=res47) true 300 _ _ _ ?_; simp (maxSteps:=1000000) only [VT,qH,qI,qJ,qK,qO,qR,qS,qV,q0t,qv,ev,qy,qz,zC,zD,zE,zF,zG,zI,zJ,zM,↓reduceIte,reduceCtorEq,Nat.reduceEqDiff,Nat.reduceAdd,Nat.reduceLT,zP,zQ,zR,zt,zM2,zH4,jN,hP,hk,kp47,Nat.reduceAdd,p3])
   have hJ':=hJ ⟨i+1,hin,by rw [List.take_add_one,hy,List.all_append,hall]; simp [hkb]⟩ _ (by show ks.length - (i+1) < ks.length - i; omega) (fun d v h=>h)
   refine zN2 (s:=[(8,.c (.i .i64 ((i+1:Nat):Int))),(7,.c (.p 2 0)),(4,.c (.v (.slice (some ⟨b,ko,none⟩) kn kc))),(3,.c (.p 1 0)),(2,.c (.p 0 0))]) (zB3 ⟨rfl,rfl,rfl,rfl,rfl,trivial⟩) ?_
   refine zI6 (f:=fun c=>if c=3 then 6 else c) (enK:=[rqZ,gtE 0 false,gtQ true 3 (i+1),gtW 0 false (ks.take (i+1))]) (slK:=gtS b ko kn kc (i+1)) ⟨fun q hq=>absurd hq (by rw [dn,hn0]; exact Nat.not_lt_zero _),by rw [dn,hn0]; exact Nat.zero_le _⟩ (fun p q hp hq h=>?_) ?_ ?_ hJ'
   ·have hp:p < 4:=hp
    have hq:q < 4:=hq
    split at h <;> split at h <;> omega
   ·refine ⟨⟨_,rfl,fun ρ=>rfl,zL5 (r:=Gq.zero) trivial trivial⟩,⟨_,rfl,fun ρ=>rfl,zM8 _ _⟩,⟨_,rfl,fun ρ=>rfl,zL5 (by show 3 < 4; decide) trivial⟩,⟨_,rfl,fun ρ=>(zE7 _ _).trans (zE7 _ _).symm,ec_wf _ _⟩,trivial⟩
   ·refine ⟨⟨?_,_,rfl,fun ρ=>rfl⟩,⟨?_,_,rfl,fun ρ=>rfl⟩,⟨?_,_,rfl,fun ρ=>rfl⟩,⟨?_,_,rfl,fun ρ=>rfl⟩,⟨?_,_,rfl,fun ρ=>rfl⟩,trivial⟩
    all_goals simp [SV.wf,SC.wf]
 ·have hie:i=ks.length:=by omega
  subst hie
  have q1:decide ((ks.length:Int) < (kn:Int))=false:=decide_eq_false (by omega)
  rw [List.take_length] at hall ⊢
  (refine zA0 hctr (rs:=res47) true 300 _ _ _ ?_; simp (maxSteps:=1000000) only [VT,jg,qH,qI,qK,qN,qO,qR,qS,qe,ev,qy,zH,zI,zJ,zM,↓reduceIte,reduceCtorEq,Nat.reduceEqDiff,Nat.reduceLT,zP,zQ,zR,zW,zk,rwE,hP,hk,res47,kp47,mqS,noS,rqZ,Mq.zero,gtS,gtE,gtQ,gtW,q1])
  refine hX rfl rfl ?_
  have hP:=hP0; have hk:=hk0; have hctr:=hctr0
  (refine zA0 hctr (rs:=res47) true 300 _ _ _ ?_; simp (maxSteps:=1000000) only [VT,qE,qF,qG,qH,qI,qJ,qK,qP,q0t,qu,qv,ev,qy,zA,zB,zC,zD,zE,zG,zI,zJ,TE.sv,zM,↓reduceIte,reduceCtorEq,Value.oneCell',Nat.reduceEqDiff,Nat.reduceAdd,Nat.reduceLT,zP,zQ,zR,zt,hP,hk,res47,kp47,Nat.reduceAdd,gqS,gqT,gtR,ecS,Cd.zero])
  obtain ⟨rr,hrr⟩:∃ rr,rr=gtR true (ks.map (gtC 0 false)):=⟨_,rfl⟩
  have hlr:(gqT rr).cmds.length=ks.length:=by rw [hrr]; exact List.length_map _
  refine zR5 (v:=.g (gqS (.rw 3 ks.length) noS (gqT (gtR true [])))) hCtx rfl fun ρ w' hw' _ _=>?_
  have hup:=hw'.up
  rw [hS,hw] at hup
  have k1:=RowOk.of (N:=3) (n:=ks.length) (z:=16) (e:=52) (cells:=zC2 ecS (ks.map (gtC 0 false))) hw' hS rfl (by decide)
  rw [hw,zE7] at k1
  rw [hgood hall]
  refine ⟨hup.to_below,_,rfl,ρ 3,nilR _,?_,?_,RowOk.nil _ _ _ _,fun _ h=>by cases h⟩
  ·show gqA (zL3 (ρ 3) ks.length) _ _=gqA (zL3 (ρ 3) (ks.map _).length) _ _
   rw [List.length_map]; rfl
  ·show RowOk _ _ _ _ _ (ks.map _).length _
   rw [List.length_map]; exact k1
end Go.Proofs.YtcbmlanpianclaaGreatDoor
/- The document's gat and gats, walked. Printed by gen_dt6.py. -/
namespace Go.Proofs.YtcbmlanpianclaaGreatDoor
set_option linter.unusedSimpArgs false
set_option linter.unusedVariables false
set_option maxHeartbeats 8000000
open Go.RowKit
set_option maxRecDepth 100000
theorem dg_gat_w {w:World} {a:Option Addr} {n cap:Nat} {w0:List (List UInt8)} (hraw:RawT w a ([103,97,116] :: w0)) (hn:n=w0.length+1) (hnc:n≤cap) (hcap:cap≤maxLen) (hl:∀ x∈w0,x.length≤5000) (hlen:n≤5000) :
  Calls Tryz.prog 47 #[.slice a n cap] w (zJ5 w (gqT (rdX (zJ7 [103,97,116] w0)).1)):=by
 obtain ⟨b,oo,rfl,hwb,hc0⟩:=hraw 0 [103,97,116] rfl
 unfold maxLen at hcap
 refine zA1 Tryz.func47 rfl kp47 (S:=Non) (ρ:=fun _=>zG7 0) (en:=[]) [.c (.v (.slice (some ⟨b,oo,none⟩) n cap))] Tryz.ntmps47 (At.nil _ _ _) (by simp [SV.wf,SC.wf]) (by simp) ?_
 intro C hC hP hk
 have hS:C.S=Non:=by rw [hC]; rfl
 have hw:C.w0=w:=by rw [hC]; rfl
 have hn0:C.n0=0:=by rw [hC]; rfl
 have hCtx:Ctx C Tryz.prog Tryz.f47 (zJ5 w (gqT (rdX (zJ7 [103,97,116] w0)).1)):=by rw [hC]; exact ctx_of
 have hctr:zC1 C (dT0 (some ⟨b,oo,none⟩) n cap _ _):=zM9 hP hS hw hraw (by simpa using hn) hnc (by unfold maxLen; exact hcap) rfl rfl
 have fin:∀ {D:Cx} (_:Ctx D Tryz.prog Tryz.f47 (zJ5 w (gqT (rdX (zJ7 [103,97,116] w0)).1))) (_:D.S=Non) (_:D.w0=w) (r:Rq) (en:List EN),(rdX (zJ7 [103,97,116] w0)).1=r→r.cmds=[]→Fin D res47 (.g (gqS noS noS (gqT r))) en:=fun h1 h2 h3 r en h h4 =>
  zR5 (v:=.g (gqS noS noS (gqT r))) h1 rfl fun ρ w' hw _ _=>by
   have hup:=hw.up
   rw [h2,h3] at hup
   rw [h]
   exact ⟨hup.to_below,_,rfl,GqV.none h4 rfl⟩
 have rd:∀ (i:Nat) x,([103,97,116] :: w0)[i]?=some x→C.rd b (oo+i) 1=some [.s x]:=fun i x hx=>by
  obtain ⟨b',o',e,hr⟩:=hraw.rd (D:=C) hS hw hx
  cases e; exact hr
 have r0:C.rd b oo 1=some [.s [103,97,116]]:=rd 0 _ rfl
 have z0:(0:Int) < (n:Int):=by omega
 have z1:(0:Int)≤1:=by decide
 have z2:(1:Int)≤(n:Int):=by omega
 have z3:(n:Int)≤(cap:Int):=by omega
 have hgt:([103,97,116]:List UInt8).isPrefixOf [103,97,116]=true:=rfl
 have htk:(([103,97,116]:List UInt8).getLast? == some 115)=false:=rfl
 obtain ⟨o1,ho1⟩:∃ o1,(if cap=1 then oo else oo+1)=o1:=⟨_,rfl⟩
 by_cases h3:n < 3
 ·have c1:decide ((n:Int) < 3)=true:=decide_eq_true (by omega)
  (refine zA0 hctr (rs:=res47) true 300 _ _ _ ?_; simp (maxSteps:=1000000) only [VT,jf,aA,qE,qF,qG,qH,qI,qJ,qK,qN,qO,qP,qR,qS,qX,qZ,qe,qf,qg,ql,qm,qp,q0t,qu,qv,ev,qw,qy,qz,zA,zB,zC,zD,zE,zF,zG,zI,zJ,TE.sv,zK,zM,↓reduceIte,reduceCtorEq,Value.oneCell',Nat.reduceEqDiff,Nat.reduceAdd,Nat.reduceLT,Nat.reduceBEq,zP,zQ,zR,zT,zV,zh,zk,zt,zu,zx,hP,hk,res47,kp47,dT0,zA9,mqS,noS,zD8,Int.toNat_zero,Int.toNat_one,Nat.mul_one,Int.le_refl,Nat.reduceAdd,lb1,lb4,u8b,UInt8.reduceToNat,r0,z0,z1,z2,z3,ho1,c1])
  have h4:w0.length < 2:=by omega
  exact fin hCtx hS hw (zD9 zA5) _ (by unfold zJ7; simp only [hgt,htk]; simp [rdX,h4]) rfl
 have c1:decide ((n:Int) < 3)=false:=decide_eq_false (by omega)
 obtain ⟨x,w1,rfl⟩:∃ x w1,w0=x :: w1:=by
  cases w0 with
  | nil=>simp at hn; omega
  | cons x w1=>exact ⟨x,w1,rfl⟩
 have hn2:n=w1.length+2:=by simpa using hn
 have hw5:¬ w1.length+1 < 2:=by omega
 obtain ⟨s1,s2⟩:=sec_is x
 have r1:C.rd b (oo+1) 1=some [.s x]:=rd 1 _ rfl
 have z4:(1:Int) < (n:Int):=by omega
 have z5:(0:Int)≤2:=by decide
 have z6:(2:Int)≤(n:Int):=by omega
 have lx:x.length≤9223372036854775807:=by have:=hl x (by simp); omega
 obtain ⟨o2,ho2⟩:∃ o2,(if cap=2 then oo else oo+2)=o2:=⟨_,rfl⟩
 cases hex:(zD2 x).2 with
 | false =>
  (refine zA0 hctr (rs:=res47) true 300 _ _ _ ?_; simp (maxSteps:=1000000) only [VT,jf,jg,aA,qE,qF,qG,qH,qI,qJ,qK,qN,qO,qP,qR,qS,qT,qX,qZ,qe,qf,qg,qh,ql,qm,qp,q0t,qu,qv,ev,qw,qy,qz,zA,zB,zC,zD,zE,zF,zG,zI,zJ,TE.sv,zK,zM,↓reduceIte,reduceCtorEq,Value.oneCell',Nat.reduceEqDiff,Nat.reduceAdd,Nat.reduceLT,Nat.reduceBEq,zP,zQ,zR,zT,zV,zW,zh,zk,zt,zu,zx,hP,hk,res47,kp47,dT0,zA9,zC4,mqS,noS,zD8,Int.toNat_zero,Int.toNat_one,Nat.mul_one,Int.le_refl,Nat.reduceAdd,lb1,lb4,u8b,UInt8.reduceToNat,r0,z0,z1,z2,z3,ho1,c1,r1,z4,lx,hex])
  exact fin hCtx hS hw (zD9 zG9) _ (by unfold zJ7; simp only [hgt,htk]; simp [rdX,hw5,← s1,hex]) rfl
 | true =>
 have e1:=s2 (by rw [← s1]; exact hex)
 obtain ⟨ks,hks⟩:∃ ks,w1=ks:=⟨_,rfl⟩
 have hkn:n - 2=ks.length:=by rw [← hks]; omega
 obtain ⟨kn,hkn2⟩:∃ kn,n - 2=kn:=⟨_,rfl⟩
 obtain ⟨kc,hkc⟩:∃ kc,cap - 2=kc:=⟨_,rfl⟩
 obtain ⟨ko,hko⟩:∃ ko,o2=ko:=⟨_,rfl⟩
 have hne:ks ≠ []:=fun h=>by rw [h] at hkn; simp at hkn; omega
 have hk5:¬ ks.length+1 < 2:=by have:=List.length_pos_iff.2 hne; omega
 have hkr:∀ (i:Nat) y,ks[i]?=some y→C.rd b (ko+i) 1=some [.s y]:=fun i y hy=>by
  have:=rd (i+2) y (by rw [hks]; exact hy)
  rw [← hko,← ho2,if_neg (by omega),show oo+2+i=oo+(i+2) by omega]
  exact this
 have hkl:∀ y∈ks,y.length≤5000:=fun y hy=>hl y (by rw [hks]; exact List.mem_cons_of_mem _ hy)
 rw [hkn2] at hkn
 have c0:((kn:Int) == 0)=false:=by
  rw [beq_eq_false_iff_ne]
  have:=List.length_pos_iff.2 hne
  omega
 have hgood:ks.all zG3=true→(rdX (zJ7 [103,97,116] (x :: w1))).1=gtR false (ks.map (gtC (zD2 x).1 true)):=fun h=>by
  rw [← gtR_is]
  unfold zJ7
  simp only [hgt,htk]
  simp [rdX,hk5,← s1,hex,← e1,hks,hne,h]
 have hbad:ks.all zG3=false→(rdX (zJ7 [103,97,116] (x :: w1))).1=zD9 zA2:=fun h=>by
  unfold zJ7
  simp only [hgt,htk]
  simp [rdX,hk5,← s1,hex,hks,hne,h]
 (refine zA0 hctr (rs:=res47) true 300 _ _ _ ?_; simp (maxSteps:=1000000) only [VT,jf,jg,jZ,aA,qH,qI,qJ,qK,qN,qO,qP,qR,qS,qT,qV,qX,qZ,qe,qf,qg,qh,ql,qm,qp,q0t,qu,qv,ev,qw,qy,qz,zC,zD,zE,zF,zG,zI,zJ,TE.sv,zK,zM,↓reduceIte,reduceCtorEq,Value.oneCell',Nat.reduceEqDiff,Nat.reduceAdd,Nat.reduceLT,Nat.reduceBEq,zP,zQ,zR,zT,zV,zW,zh,zk,zt,zu,zw,zx,hP,hk,res47,kp47,dT0,zC4,Int.toNat_zero,Int.toNat_one,Nat.mul_one,Int.le_refl,Int.reduceToNat,Nat.reduceAdd,lb1,lb3,lb4,u8b,UInt8.reduceToNat,r0,z0,z1,z2,z3,ho1,c1,r1,z4,z5,z6,lx,hex,ho2,hkn2,hkc,hko,c0])
 refine zG2 true (en':=[rqZ,gtE (zD2 x).1 true,gtQ false 3 0]) (sl':=gtS b ko kn kc 0) (52,0,rowP 16 0 0) rfl (fun _=>⟨rfl,.inr ⟨rfl,rfl,rfl⟩⟩) (fun _=>by show ¬ ((52:Nat)=zC9); decide) ?_ ?_ ?_
 ·refine ⟨⟨rfl,rfl,fun _ _=>rfl,zL5 (r:=Gq.zero) trivial trivial⟩,⟨rfl,rfl,fun _ _=>rfl,zM8 _ _⟩,⟨rfl,rfl,fun ρ h=>?_,zL5 (by show 3 < 3+1; decide) trivial⟩,trivial⟩
  have h:(ρ 3).nl=some none:=h
  simp only [gtQ,gqS,zB8,List.map_cons,List.map_nil,SC.den,noS,zF1 h,gqT,gtR]
 ·refine ⟨⟨⟨_,rfl,fun _ _=>rfl⟩,trivial⟩,⟨⟨_,rfl,fun _ _=>rfl⟩,?_⟩,⟨⟨_,rfl,fun _ _=>rfl⟩,trivial⟩,⟨⟨_,rfl,fun _ _=>rfl⟩,?_⟩,⟨⟨_,rfl,fun _ _=>rfl⟩,?_⟩,trivial⟩
  ·show 2 < 3+1; decide
  ·show 1 < 3+1; decide
  ·show 0 < 3+1; decide
 refine zD6 (ι:={ i:Nat // i≤ks.length∧(ks.take i).all zG3=true }) (fun i=>gtS b ko kn kc i.1) (fun i=>[rqZ,gtE (zD2 x).1 true,gtQ false 3 i.1,gtW (zD2 x).1 true (ks.take i.1)]) (fun i=>ks.length - i.1) ⟨0,Nat.zero_le _,rfl⟩ (zB3 ⟨rfl,rfl,rfl,rfl,rfl,trivial⟩) rfl ?_
 rintro ⟨i,hi,hall⟩ D dP dS dw dn dr dk ddf dPan dRet hX hJ
 have hP0:=hP; have hk0:=hk; have hctr0:=hctr
 have hP:D.P=Tryz.prog:=by rw [dP]; exact hP0
 have hk:D.kp=kp47:=by rw [dk]; exact hk0
 have hDS:D.S=Non:=by rw [dS]; exact hS
 have hDw:D.w0=w:=by rw [dw]; exact hw
 have hctr:zC1 D (dT0 (some ⟨b,oo,none⟩) n cap _ _):=zM9 hP hDS hDw hraw (by simpa using hn) hnc (by unfold maxLen; exact hcap) rfl rfl
 have hDx:Ctx D Tryz.prog Tryz.f47 _:=⟨dP.trans hCtx.p,fun a w hb=>dRet a w (hCtx.ret a w hb),ddf.trans hCtx.df⟩
 have hi:i≤ks.length:=hi
 have hall:(ks.take i).all zG3=true:=hall
 show Run D _ _ (gtS b ko kn kc i) [rqZ,gtE (zD2 x).1 true,gtQ false 3 i,gtW (zD2 x).1 true (ks.take i)]
 have htl:(ks.take i).length=i:=by rw [List.length_take]; omega
 by_cases hin:i < ks.length
 ·have q1:decide ((i:Int) < (kn:Int))=true:=decide_eq_true (by omega)
  obtain ⟨y,hy⟩:∃ y,ks[i]?=some y:=⟨_,List.getElem?_eq_getElem hin⟩
  have ry:D.rd b (ko+i) 1=some [.s y]:=by
   have:=hkr i y hy
   rw [← this]
   simp only [Cx.rd,dS,dw]
  have p0:(0:Int)≤(i:Int):=by omega
  have p1:(i:Int) < (kn:Int):=by omega
  have ly:y.length≤9223372036854775806:=by have:=hkl y (List.mem_of_getElem? hy); omega
  cases hkb:zG3 y with
  | false =>
   (refine zA0 hctr (rs:=res47) true 300 _ _ _ ?_; simp (maxSteps:=1000000) only [VT,jf,qE,qF,qG,qH,qI,qJ,qK,qN,qO,qP,qR,qS,qT,qX,qe,q0t,qu,qv,ev,qw,qy,qz,zA,zB,zC,zD,zE,zG,zI,zJ,TE.sv,zM,↓reduceIte,reduceCtorEq,Value.oneCell',Nat.reduceEqDiff,Nat.reduceAdd,Nat.reduceLT,zP,zQ,zR,zT,zV,zW,zh,zk,zo,zt,rwE,hP,hk,res47,kp47,dT0,zC0,zA9,mqS,noS,zD8,rqZ,Mq.zero,Nat.mul_one,Nat.reduceAdd,gtS,gtE,gtQ,gtW,p0,p1,ry,ly,hkb])
   exact fin hDx hDS hDw (zD9 zA2) _ (hbad (by
    cases h:ks.all zG3 with
    | false=>rfl
    | true =>
     have:=List.all_eq_true.1 h y (List.mem_of_getElem? hy)
     rw [hkb] at this; cases this)) rfl
  | true =>
   (refine zA0 hctr (rs:=res47) true 300 _ _ _ ?_; simp (maxSteps:=1000000) only [VT,jf,jg,qA,qB,qC,qD,qH,qI,qJ,qK,qN,qO,qP,qR,qS,qT,qV,qX,qe,qg,q0t,qu,qv,ev,qw,qy,qz,zA,zB,zC,zD,zE,zF,zG,zI,zJ,zM,↓reduceIte,reduceCtorEq,Nat.reduceEqDiff,Nat.reduceAdd,Nat.reduceLT,Nat.reduceLeDiff,zP,zQ,zR,zT,zV,zW,zh,zk,zl,zo,zt,rwE,hP,hk,res47,kp47,dT0,zC0,mqS,noS,rqZ,Mq.zero,Nat.mul_one,Nat.reduceAdd,Nat.reduceMul,gtS,gtE,gtQ,gtW,gqS,gqT,gtR,ecS,Cd.zero,p0,p1,ry,ly,hkb])
   obtain ⟨i0,hi',hz0,hz1,hz2⟩:=info_parts zZ0
   refine zH9 (X:=.rw 3 i) (Y:=.sl 5 0 1 1) (o:=some 3) (n:=i) (m:=1) (z:=16) (bts:=136) (cells:=zC2 ecS ((ks.take i).map (gtC (zD2 x).1 true))) (news:=ecS (gtC (zD2 x).1 true y)) (e:=52) (by rw [hP]; exact Tryz.underlying32) (by rw [hP]; exact hi') hz0 hz1 hz2 rfl (by decide) (by show ¬ ((52:Nat)=zC9); decide) (.some (by show some (rwE 52 16 (ks.take i).length _)=_; rw [htl])) rfl rfl (zU5 (c:=5) (o:=0) (L:=16) rfl rfl) rfl rfl (fun pr=>zM8 pr _) (by omega) (by omega) (by rw [dn,hn0]; exact Nat.zero_le _) rfl (by simp) ?_
   have p3:IntKind.i64.wrap ((i:Int)+1)=((i+1:Nat):Int):=by rw [IntWalk.i64_in _ (by omega)]; rfl
   have hap:rwE 52 16 (i+1) (zC2 ecS ((ks.take i).map (gtC (zD2 x).1 true))++ecS (gtC (zD2 x).1 true y))=gtW (zD2 x).1 true (ks.take (i+1)):=by
    have:=gtW_app (zD2 x).1 true (ks.take i) y
    rw [htl] at this
    rw [this,List.take_add_one,hy]; rfl
   rw [hap]
   (refine zA0 hctr (rs:=res47) true 300 _ _ _ ?_; simp (maxSteps:=1000000) only [VT,qH,qI,qJ,qK,qO,qR,qS,qV,q0t,qv,ev,qy,qz,zC,zD,zE,zF,zG,zI,zJ,zM,↓reduceIte,reduceCtorEq,Nat.reduceEqDiff,Nat.reduceAdd,Nat.reduceLT,zP,zQ,zR,zt,zM2,zH4,jN,hP,hk,kp47,Nat.reduceAdd,p3])
   have hJ':=hJ ⟨i+1,hin,by rw [List.take_add_one,hy,List.all_append,hall]; simp [hkb]⟩ _ (by show ks.length - (i+1) < ks.length - i; omega) (fun d v h=>h)
   refine zN2 (s:=[(8,.c (.i .i64 ((i+1:Nat):Int))),(7,.c (.p 2 0)),(4,.c (.v (.slice (some ⟨b,ko,none⟩) kn kc))),(3,.c (.p 1 0)),(2,.c (.p 0 0))]) (zB3 ⟨rfl,rfl,rfl,rfl,rfl,trivial⟩) ?_
   refine zI6 (f:=fun c=>if c=3 then 6 else c) (enK:=[rqZ,gtE (zD2 x).1 true,gtQ false 3 (i+1),gtW (zD2 x).1 true (ks.take (i+1))]) (slK:=gtS b ko kn kc (i+1)) ⟨fun q hq=>absurd hq (by rw [dn,hn0]; exact Nat.not_lt_zero _),by rw [dn,hn0]; exact Nat.zero_le _⟩ (fun p q hp hq h=>?_) ?_ ?_ hJ'
   ·have hp:p < 4:=hp
    have hq:q < 4:=hq
    split at h <;> split at h <;> omega
   ·refine ⟨⟨_,rfl,fun ρ=>rfl,zL5 (r:=Gq.zero) trivial trivial⟩,⟨_,rfl,fun ρ=>rfl,zM8 _ _⟩,⟨_,rfl,fun ρ=>rfl,zL5 (by show 3 < 4; decide) trivial⟩,⟨_,rfl,fun ρ=>(zE7 _ _).trans (zE7 _ _).symm,ec_wf _ _⟩,trivial⟩
   ·refine ⟨⟨?_,_,rfl,fun ρ=>rfl⟩,⟨?_,_,rfl,fun ρ=>rfl⟩,⟨?_,_,rfl,fun ρ=>rfl⟩,⟨?_,_,rfl,fun ρ=>rfl⟩,⟨?_,_,rfl,fun ρ=>rfl⟩,trivial⟩
    all_goals simp [SV.wf,SC.wf]
 ·have hie:i=ks.length:=by omega
  subst hie
  have q1:decide ((ks.length:Int) < (kn:Int))=false:=decide_eq_false (by omega)
  rw [List.take_length] at hall ⊢
  (refine zA0 hctr (rs:=res47) true 300 _ _ _ ?_; simp (maxSteps:=1000000) only [VT,jg,qH,qI,qK,qN,qO,qR,qS,qe,ev,qy,zH,zI,zJ,zM,↓reduceIte,reduceCtorEq,Nat.reduceEqDiff,Nat.reduceLT,zP,zQ,zR,zW,zk,rwE,hP,hk,res47,kp47,mqS,noS,rqZ,Mq.zero,gtS,gtE,gtQ,gtW,q1])
  refine hX rfl rfl ?_
  have hP:=hP0; have hk:=hk0; have hctr:=hctr0
  (refine zA0 hctr (rs:=res47) true 300 _ _ _ ?_; simp (maxSteps:=1000000) only [VT,qE,qF,qG,qH,qI,qJ,qK,qP,q0t,qu,qv,ev,qy,zA,zB,zC,zD,zE,zG,zI,zJ,TE.sv,zM,↓reduceIte,reduceCtorEq,Value.oneCell',Nat.reduceEqDiff,Nat.reduceAdd,Nat.reduceLT,zP,zQ,zR,zt,hP,hk,res47,kp47,Nat.reduceAdd,gqS,gqT,gtR,ecS,Cd.zero])
  obtain ⟨rr,hrr⟩:∃ rr,rr=gtR false (ks.map (gtC (zD2 x).1 true)):=⟨_,rfl⟩
  have hlr:(gqT rr).cmds.length=ks.length:=by rw [hrr]; exact List.length_map _
  refine zR5 (v:=.g (gqS (.rw 3 ks.length) noS (gqT (gtR false [])))) hCtx rfl fun ρ w' hw' _ _=>?_
  have hup:=hw'.up
  rw [hS,hw] at hup
  have k1:=RowOk.of (N:=3) (n:=ks.length) (z:=16) (e:=52) (cells:=zC2 ecS (ks.map (gtC (zD2 x).1 true))) hw' hS rfl (by decide)
  rw [hw,zE7] at k1
  rw [hgood hall]
  refine ⟨hup.to_below,_,rfl,ρ 3,nilR _,?_,?_,RowOk.nil _ _ _ _,fun _ h=>by cases h⟩
  ·show gqA (zL3 (ρ 3) ks.length) _ _=gqA (zL3 (ρ 3) (ks.map _).length) _ _
   rw [List.length_map]; rfl
  ·show RowOk _ _ _ _ _ (ks.map _).length _
   rw [List.length_map]; exact k1
theorem dg_gats_w {w:World} {a:Option Addr} {n cap:Nat} {w0:List (List UInt8)} (hraw:RawT w a ([103,97,116,115] :: w0)) (hn:n=w0.length+1) (hnc:n≤cap) (hcap:cap≤maxLen) (hl:∀ x∈w0,x.length≤5000) (hlen:n≤5000) :
  Calls Tryz.prog 47 #[.slice a n cap] w (zJ5 w (gqT (rdX (zJ7 [103,97,116,115] w0)).1)):=by
 obtain ⟨b,oo,rfl,hwb,hc0⟩:=hraw 0 [103,97,116,115] rfl
 unfold maxLen at hcap
 refine zA1 Tryz.func47 rfl kp47 (S:=Non) (ρ:=fun _=>zG7 0) (en:=[]) [.c (.v (.slice (some ⟨b,oo,none⟩) n cap))] Tryz.ntmps47 (At.nil _ _ _) (by simp [SV.wf,SC.wf]) (by simp) ?_
 intro C hC hP hk
 have hS:C.S=Non:=by rw [hC]; rfl
 have hw:C.w0=w:=by rw [hC]; rfl
 have hn0:C.n0=0:=by rw [hC]; rfl
 have hCtx:Ctx C Tryz.prog Tryz.f47 (zJ5 w (gqT (rdX (zJ7 [103,97,116,115] w0)).1)):=by rw [hC]; exact ctx_of
 have hctr:zC1 C (dT0 (some ⟨b,oo,none⟩) n cap _ _):=zM9 hP hS hw hraw (by simpa using hn) hnc (by unfold maxLen; exact hcap) rfl rfl
 have fin:∀ {D:Cx} (_:Ctx D Tryz.prog Tryz.f47 (zJ5 w (gqT (rdX (zJ7 [103,97,116,115] w0)).1))) (_:D.S=Non) (_:D.w0=w) (r:Rq) (en:List EN),(rdX (zJ7 [103,97,116,115] w0)).1=r→r.cmds=[]→Fin D res47 (.g (gqS noS noS (gqT r))) en:=fun h1 h2 h3 r en h h4 =>
  zR5 (v:=.g (gqS noS noS (gqT r))) h1 rfl fun ρ w' hw _ _=>by
   have hup:=hw.up
   rw [h2,h3] at hup
   rw [h]
   exact ⟨hup.to_below,_,rfl,GqV.none h4 rfl⟩
 have rd:∀ (i:Nat) x,([103,97,116,115] :: w0)[i]?=some x→C.rd b (oo+i) 1=some [.s x]:=fun i x hx=>by
  obtain ⟨b',o',e,hr⟩:=hraw.rd (D:=C) hS hw hx
  cases e; exact hr
 have r0:C.rd b oo 1=some [.s [103,97,116,115]]:=rd 0 _ rfl
 have z0:(0:Int) < (n:Int):=by omega
 have z1:(0:Int)≤1:=by decide
 have z2:(1:Int)≤(n:Int):=by omega
 have z3:(n:Int)≤(cap:Int):=by omega
 have hgt:([103,97,116]:List UInt8).isPrefixOf [103,97,116,115]=true:=rfl
 have htk:(([103,97,116,115]:List UInt8).getLast? == some 115)=true:=rfl
 obtain ⟨o1,ho1⟩:∃ o1,(if cap=1 then oo else oo+1)=o1:=⟨_,rfl⟩
 by_cases h3:n < 3
 ·have c1:decide ((n:Int) < 3)=true:=decide_eq_true (by omega)
  (refine zA0 hctr (rs:=res47) true 300 _ _ _ ?_; simp (maxSteps:=1000000) only [VT,jf,jg,jZ,qE,qF,qG,qH,qI,qJ,qK,qN,qO,qP,qR,qS,qX,qZ,qe,qf,qg,ql,qm,qp,q0t,qu,qv,ev,qw,qy,qz,zA,zB,zC,zD,zE,zF,zG,zI,zJ,TE.sv,zK,zM,↓reduceIte,reduceCtorEq,Value.oneCell',Nat.reduceEqDiff,Nat.reduceAdd,Nat.reduceLT,Nat.reduceBEq,zP,zQ,zR,zT,zV,zW,zh,zk,zt,zu,zx,hP,hk,res47,kp47,dT0,zA9,mqS,noS,zD8,Int.toNat_zero,Int.toNat_one,Nat.mul_one,Int.le_refl,Nat.reduceAdd,lb1,lb2,lb4,u8b,UInt8.reduceToNat,r0,z0,z1,z2,z3,ho1,c1])
  have h4:w0.length < 2:=by omega
  exact fin hCtx hS hw (zD9 zA5) _ (by unfold zJ7; simp only [hgt,htk]; simp [rdX,h4]) rfl
 have c1:decide ((n:Int) < 3)=false:=decide_eq_false (by omega)
 obtain ⟨x,w1,rfl⟩:∃ x w1,w0=x :: w1:=by
  cases w0 with
  | nil=>simp at hn; omega
  | cons x w1=>exact ⟨x,w1,rfl⟩
 have hn2:n=w1.length+2:=by simpa using hn
 have hw5:¬ w1.length+1 < 2:=by omega
 obtain ⟨s1,s2⟩:=sec_is x
 have r1:C.rd b (oo+1) 1=some [.s x]:=rd 1 _ rfl
 have z4:(1:Int) < (n:Int):=by omega
 have z5:(0:Int)≤2:=by decide
 have z6:(2:Int)≤(n:Int):=by omega
 have lx:x.length≤9223372036854775807:=by have:=hl x (by simp); omega
 obtain ⟨o2,ho2⟩:∃ o2,(if cap=2 then oo else oo+2)=o2:=⟨_,rfl⟩
 cases hex:(zD2 x).2 with
 | false =>
  (refine zA0 hctr (rs:=res47) true 300 _ _ _ ?_; simp (maxSteps:=1000000) only [VT,jf,jg,jZ,qE,qF,qG,qH,qI,qJ,qK,qN,qO,qP,qR,qS,qT,qX,qZ,qe,qf,qg,qh,ql,qm,qp,q0t,qu,qv,ev,qw,qy,qz,zA,zB,zC,zD,zE,zF,zG,zI,zJ,TE.sv,zK,zM,↓reduceIte,reduceCtorEq,Value.oneCell',Nat.reduceEqDiff,Nat.reduceAdd,Nat.reduceLT,Nat.reduceBEq,zP,zQ,zR,zT,zV,zW,zh,zk,zt,zu,zx,hP,hk,res47,kp47,dT0,zA9,zC4,mqS,noS,zD8,Int.toNat_zero,Int.toNat_one,Nat.mul_one,Int.le_refl,Nat.reduceAdd,lb1,lb2,lb4,u8b,UInt8.reduceToNat,r0,z0,z1,z2,z3,ho1,c1,r1,z4,lx,hex])
  exact fin hCtx hS hw (zD9 zG9) _ (by unfold zJ7; simp only [hgt,htk]; simp [rdX,hw5,← s1,hex]) rfl
 | true =>
 have e1:=s2 (by rw [← s1]; exact hex)
 obtain ⟨ks,hks⟩:∃ ks,w1=ks:=⟨_,rfl⟩
 have hkn:n - 2=ks.length:=by rw [← hks]; omega
 obtain ⟨kn,hkn2⟩:∃ kn,n - 2=kn:=⟨_,rfl⟩
 obtain ⟨kc,hkc⟩:∃ kc,cap - 2=kc:=⟨_,rfl⟩
 obtain ⟨ko,hko⟩:∃ ko,o2=ko:=⟨_,rfl⟩
 have hne:ks ≠ []:=fun h=>by rw [h] at hkn; simp at hkn; omega
 have hk5:¬ ks.length+1 < 2:=by have:=List.length_pos_iff.2 hne; omega
 have hkr:∀ (i:Nat) y,ks[i]?=some y→C.rd b (ko+i) 1=some [.s y]:=fun i y hy=>by
  have:=rd (i+2) y (by rw [hks]; exact hy)
  rw [← hko,← ho2,if_neg (by omega),show oo+2+i=oo+(i+2) by omega]
  exact this
 have hkl:∀ y∈ks,y.length≤5000:=fun y hy=>hl y (by rw [hks]; exact List.mem_cons_of_mem _ hy)
 rw [hkn2] at hkn
 have c0:((kn:Int) == 0)=false:=by
  rw [beq_eq_false_iff_ne]
  have:=List.length_pos_iff.2 hne
  omega
 have hgood:ks.all zG3=true→(rdX (zJ7 [103,97,116,115] (x :: w1))).1=gtR true (ks.map (gtC (zD2 x).1 true)):=fun h=>by
  rw [← gtR_is]
  unfold zJ7
  simp only [hgt,htk]
  simp [rdX,hk5,← s1,hex,← e1,hks,hne,h]
 have hbad:ks.all zG3=false→(rdX (zJ7 [103,97,116,115] (x :: w1))).1=zD9 zA2:=fun h=>by
  unfold zJ7
  simp only [hgt,htk]
  simp [rdX,hk5,← s1,hex,hks,hne,h]
 (refine zA0 hctr (rs:=res47) true 300 _ _ _ ?_; simp (maxSteps:=1000000) only [VT,jf,jg,jZ,qH,qI,qJ,qK,qN,qO,qP,qR,qS,qT,qV,qX,qZ,qe,qf,qg,qh,ql,qm,qp,q0t,qu,qv,ev,qw,qy,qz,zC,zD,zE,zF,zG,zI,zJ,TE.sv,zK,zM,↓reduceIte,reduceCtorEq,Value.oneCell',Nat.reduceEqDiff,Nat.reduceAdd,Nat.reduceLT,Nat.reduceBEq,zP,zQ,zR,zT,zV,zW,zh,zk,zt,zu,zw,zx,hP,hk,res47,kp47,dT0,zC4,Int.toNat_zero,Int.toNat_one,Nat.mul_one,Int.le_refl,Int.reduceToNat,Nat.reduceAdd,lb1,lb2,lb4,u8b,UInt8.reduceToNat,r0,z0,z1,z2,z3,ho1,c1,r1,z4,z5,z6,lx,hex,ho2,hkn2,hkc,hko,c0])
 refine zG2 true (en':=[rqZ,gtE (zD2 x).1 true,gtQ true 3 0]) (sl':=gtS b ko kn kc 0) (52,0,rowP 16 0 0) rfl (fun _=>⟨rfl,.inr ⟨rfl,rfl,rfl⟩⟩) (fun _=>by show ¬ ((52:Nat)=zC9); decide) ?_ ?_ ?_
 ·refine ⟨⟨rfl,rfl,fun _ _=>rfl,zL5 (r:=Gq.zero) trivial trivial⟩,⟨rfl,rfl,fun _ _=>rfl,zM8 _ _⟩,⟨rfl,rfl,fun ρ h=>?_,zL5 (by show 3 < 3+1; decide) trivial⟩,trivial⟩
  have h:(ρ 3).nl=some none:=h
  simp only [gtQ,gqS,zB8,List.map_cons,List.map_nil,SC.den,noS,zF1 h,gqT,gtR]
 ·refine ⟨⟨⟨_,rfl,fun _ _=>rfl⟩,trivial⟩,⟨⟨_,rfl,fun _ _=>rfl⟩,?_⟩,⟨⟨_,rfl,fun _ _=>rfl⟩,trivial⟩,⟨⟨_,rfl,fun _ _=>rfl⟩,?_⟩,⟨⟨_,rfl,fun _ _=>rfl⟩,?_⟩,trivial⟩
  ·show 2 < 3+1; decide
  ·show 1 < 3+1; decide
  ·show 0 < 3+1; decide
 refine zD6 (ι:={ i:Nat // i≤ks.length∧(ks.take i).all zG3=true }) (fun i=>gtS b ko kn kc i.1) (fun i=>[rqZ,gtE (zD2 x).1 true,gtQ true 3 i.1,gtW (zD2 x).1 true (ks.take i.1)]) (fun i=>ks.length - i.1) ⟨0,Nat.zero_le _,rfl⟩ (zB3 ⟨rfl,rfl,rfl,rfl,rfl,trivial⟩) rfl ?_
 rintro ⟨i,hi,hall⟩ D dP dS dw dn dr dk ddf dPan dRet hX hJ
 have hP0:=hP; have hk0:=hk; have hctr0:=hctr
 have hP:D.P=Tryz.prog:=by rw [dP]; exact hP0
 have hk:D.kp=kp47:=by rw [dk]; exact hk0
 have hDS:D.S=Non:=by rw [dS]; exact hS
 have hDw:D.w0=w:=by rw [dw]; exact hw
 have hctr:zC1 D (dT0 (some ⟨b,oo,none⟩) n cap _ _):=zM9 hP hDS hDw hraw (by simpa using hn) hnc (by unfold maxLen; exact hcap) rfl rfl
 have hDx:Ctx D Tryz.prog Tryz.f47 _:=⟨dP.trans hCtx.p,fun a w hb=>dRet a w (hCtx.ret a w hb),ddf.trans hCtx.df⟩
 have hi:i≤ks.length:=hi
 have hall:(ks.take i).all zG3=true:=hall
 show Run D _ _ (gtS b ko kn kc i) [rqZ,gtE (zD2 x).1 true,gtQ true 3 i,gtW (zD2 x).1 true (ks.take i)]
 have htl:(ks.take i).length=i:=by rw [List.length_take]; omega
 by_cases hin:i < ks.length
 ·have q1:decide ((i:Int) < (kn:Int))=true:=decide_eq_true (by omega)
  obtain ⟨y,hy⟩:∃ y,ks[i]?=some y:=⟨_,List.getElem?_eq_getElem hin⟩
  have ry:D.rd b (ko+i) 1=some [.s y]:=by
   have:=hkr i y hy
   rw [← this]
   simp only [Cx.rd,dS,dw]
  have p0:(0:Int)≤(i:Int):=by omega
  have p1:(i:Int) < (kn:Int):=by omega
  have ly:y.length≤9223372036854775806:=by have:=hkl y (List.mem_of_getElem? hy); omega
  cases hkb:zG3 y with
  | false =>
   (refine zA0 hctr (rs:=res47) true 300 _ _ _ ?_; simp (maxSteps:=1000000) only [VT,jf,qE,qF,qG,qH,qI,qJ,qK,qN,qO,qP,qR,qS,qT,qX,qe,q0t,qu,qv,ev,qw,qy,qz,zA,zB,zC,zD,zE,zG,zI,zJ,TE.sv,zM,↓reduceIte,reduceCtorEq,Value.oneCell',Nat.reduceEqDiff,Nat.reduceAdd,Nat.reduceLT,zP,zQ,zR,zT,zV,zW,zh,zk,zo,zt,rwE,hP,hk,res47,kp47,dT0,zC0,zA9,mqS,noS,zD8,rqZ,Mq.zero,Nat.mul_one,Nat.reduceAdd,gtS,gtE,gtQ,gtW,p0,p1,ry,ly,hkb])
   exact fin hDx hDS hDw (zD9 zA2) _ (hbad (by
    cases h:ks.all zG3 with
    | false=>rfl
    | true =>
     have:=List.all_eq_true.1 h y (List.mem_of_getElem? hy)
     rw [hkb] at this; cases this)) rfl
  | true =>
   (refine zA0 hctr (rs:=res47) true 300 _ _ _ ?_; simp (maxSteps:=1000000) only [VT,jf,jg,qA,qB,qC,qD,qH,qI,qJ,qK,qN,qO,qP,qR,qS,qT,qV,qX,qe,qg,q0t,qu,qv,ev,qw,qy,qz,zA,zB,zC,zD,zE,zF,zG,zI,zJ,zM,↓reduceIte,reduceCtorEq,Nat.reduceEqDiff,Nat.reduceAdd,Nat.reduceLT,Nat.reduceLeDiff,zP,zQ,zR,zT,zV,zW,zh,zk,zl,zo,zt,rwE,hP,hk,res47,kp47,dT0,zC0,mqS,noS,rqZ,Mq.zero,Nat.mul_one,Nat.reduceAdd,Nat.reduceMul,gtS,gtE,gtQ,gtW,gqS,gqT,gtR,ecS,Cd.zero,p0,p1,ry,ly,hkb])
   obtain ⟨i0,hi',hz0,hz1,hz2⟩:=info_parts zZ0
   refine zH9 (X:=.rw 3 i) (Y:=.sl 5 0 1 1) (o:=some 3) (n:=i) (m:=1) (z:=16) (bts:=136) (cells:=zC2 ecS ((ks.take i).map (gtC (zD2 x).1 true))) (news:=ecS (gtC (zD2 x).1 true y)) (e:=52) (by rw [hP]; exact Tryz.underlying32) (by rw [hP]; exact hi') hz0 hz1 hz2 rfl (by decide) (by show ¬ ((52:Nat)=zC9); decide) (.some (by show some (rwE 52 16 (ks.take i).length _)=_; rw [htl])) rfl rfl (zU5 (c:=5) (o:=0) (L:=16) rfl rfl) rfl rfl (fun pr=>zM8 pr _) (by omega) (by omega) (by rw [dn,hn0]; exact Nat.zero_le _) rfl (by simp) ?_
   have p3:IntKind.i64.wrap ((i:Int)+1)=((i+1:Nat):Int):=by rw [IntWalk.i64_in _ (by omega)]; rfl
   have hap:rwE 52 16 (i+1) (zC2 ecS ((ks.take i).map (gtC (zD2 x).1 true))++ecS (gtC (zD2 x).1 true y))=gtW (zD2 x).1 true (ks.take (i+1)):=by
    have:=gtW_app (zD2 x).1 true (ks.take i) y
    rw [htl] at this
    rw [this,List.take_add_one,hy]; rfl
   rw [hap]
   (refine zA0 hctr (rs:=res47) true 300 _ _ _ ?_; simp (maxSteps:=1000000) only [VT,qH,qI,qJ,qK,qO,qR,qS,qV,q0t,qv,ev,qy,qz,zC,zD,zE,zF,zG,zI,zJ,zM,↓reduceIte,reduceCtorEq,Nat.reduceEqDiff,Nat.reduceAdd,Nat.reduceLT,zP,zQ,zR,zt,zM2,zH4,jN,hP,hk,kp47,Nat.reduceAdd,p3])
   have hJ':=hJ ⟨i+1,hin,by rw [List.take_add_one,hy,List.all_append,hall]; simp [hkb]⟩ _ (by show ks.length - (i+1) < ks.length - i; omega) (fun d v h=>h)
   refine zN2 (s:=[(8,.c (.i .i64 ((i+1:Nat):Int))),(7,.c (.p 2 0)),(4,.c (.v (.slice (some ⟨b,ko,none⟩) kn kc))),(3,.c (.p 1 0)),(2,.c (.p 0 0))]) (zB3 ⟨rfl,rfl,rfl,rfl,rfl,trivial⟩) ?_
   refine zI6 (f:=fun c=>if c=3 then 6 else c) (enK:=[rqZ,gtE (zD2 x).1 true,gtQ true 3 (i+1),gtW (zD2 x).1 true (ks.take (i+1))]) (slK:=gtS b ko kn kc (i+1)) ⟨fun q hq=>absurd hq (by rw [dn,hn0]; exact Nat.not_lt_zero _),by rw [dn,hn0]; exact Nat.zero_le _⟩ (fun p q hp hq h=>?_) ?_ ?_ hJ'
   ·have hp:p < 4:=hp
    have hq:q < 4:=hq
    split at h <;> split at h <;> omega
   ·refine ⟨⟨_,rfl,fun ρ=>rfl,zL5 (r:=Gq.zero) trivial trivial⟩,⟨_,rfl,fun ρ=>rfl,zM8 _ _⟩,⟨_,rfl,fun ρ=>rfl,zL5 (by show 3 < 4; decide) trivial⟩,⟨_,rfl,fun ρ=>(zE7 _ _).trans (zE7 _ _).symm,ec_wf _ _⟩,trivial⟩
   ·refine ⟨⟨?_,_,rfl,fun ρ=>rfl⟩,⟨?_,_,rfl,fun ρ=>rfl⟩,⟨?_,_,rfl,fun ρ=>rfl⟩,⟨?_,_,rfl,fun ρ=>rfl⟩,⟨?_,_,rfl,fun ρ=>rfl⟩,trivial⟩
    all_goals simp [SV.wf,SC.wf]
 ·have hie:i=ks.length:=by omega
  subst hie
  have q1:decide ((ks.length:Int) < (kn:Int))=false:=decide_eq_false (by omega)
  rw [List.take_length] at hall ⊢
  (refine zA0 hctr (rs:=res47) true 300 _ _ _ ?_; simp (maxSteps:=1000000) only [VT,jg,qH,qI,qK,qN,qO,qR,qS,qe,ev,qy,zH,zI,zJ,zM,↓reduceIte,reduceCtorEq,Nat.reduceEqDiff,Nat.reduceLT,zP,zQ,zR,zW,zk,rwE,hP,hk,res47,kp47,mqS,noS,rqZ,Mq.zero,gtS,gtE,gtQ,gtW,q1])
  refine hX rfl rfl ?_
  have hP:=hP0; have hk:=hk0; have hctr:=hctr0
  (refine zA0 hctr (rs:=res47) true 300 _ _ _ ?_; simp (maxSteps:=1000000) only [VT,qE,qF,qG,qH,qI,qJ,qK,qP,q0t,qu,qv,ev,qy,zA,zB,zC,zD,zE,zG,zI,zJ,TE.sv,zM,↓reduceIte,reduceCtorEq,Value.oneCell',Nat.reduceEqDiff,Nat.reduceAdd,Nat.reduceLT,zP,zQ,zR,zt,hP,hk,res47,kp47,Nat.reduceAdd,gqS,gqT,gtR,ecS,Cd.zero])
  obtain ⟨rr,hrr⟩:∃ rr,rr=gtR true (ks.map (gtC (zD2 x).1 true)):=⟨_,rfl⟩
  have hlr:(gqT rr).cmds.length=ks.length:=by rw [hrr]; exact List.length_map _
  refine zR5 (v:=.g (gqS (.rw 3 ks.length) noS (gqT (gtR true [])))) hCtx rfl fun ρ w' hw' _ _=>?_
  have hup:=hw'.up
  rw [hS,hw] at hup
  have k1:=RowOk.of (N:=3) (n:=ks.length) (z:=16) (e:=52) (cells:=zC2 ecS (ks.map (gtC (zD2 x).1 true))) hw' hS rfl (by decide)
  rw [hw,zE7] at k1
  rw [hgood hall]
  refine ⟨hup.to_below,_,rfl,ρ 3,nilR _,?_,?_,RowOk.nil _ _ _ _,fun _ h=>by cases h⟩
  ·show gqA (zL3 (ρ 3) ks.length) _ _=gqA (zL3 (ρ 3) (ks.map _).length) _ _
   rw [List.length_map]; rfl
  ·show RowOk _ _ _ _ _ (ks.map _).length _
   rw [List.length_map]; exact k1
end Go.Proofs.YtcbmlanpianclaaGreatDoor
/- The document's Parse (ambryref21), walked. Printed by gen_edoc11.py. -/
namespace Go.Proofs.YtcbmlanpianclaaGreatDoor
set_option linter.unusedSimpArgs false
set_option linter.unusedVariables false
set_option maxHeartbeats 8000000
open Go.RowKit
set_option maxRecDepth 100000
theorem dsplit_h {C:Cx} {nE N:Nat} {mk:Nat→Prop} {en en':List EN} (s:List UInt8) (hs:s.length≤500000000) (hP:C.P=Tryz.prog) (hmk:∀ q,mk q ↔ q=N) (hn0:C.n0≤N) (hN:zD en' N=some (wdE (zL2 s [] []))) (hq:∀ q,q ≠ N→zD en' q=zD en q) :
  zJ0 C nE mk en en' 28 [.c (.s s)] (.c (.rw N (zL2 s [] []).length)):=by
 refine zZ2 (vals:=(zL2 s [] []).map encW) (fun args w=>by rw [hP]; exact Tryz.call28 args w) hmk hn0 hN hq (by show ¬ (9:Nat)=zC9; decide) (fun ρ=>zF4 ρ _) (fun pr=>st_wf pr _) (fun pr h=>h) ?_
 intro ρ pr w hw _ _
 rw [hP]
 refine (dsplit_w s hs w).mono ?_
 rintro z w' ⟨r,hr,rfl,hb⟩
 exact ⟨r,hr.made (fun ρ=>zF4 ρ _),fun ρ' _ h=>by simp only [SV.den,SC.den,h],hb⟩
theorem dread_h {C:Cx} {nE Nw N:Nat} {mk:Nat→Prop} {en en':List EN} {name:List UInt8} {rest:List (List UInt8)} {behind:List UInt8} {x:Mq × Int × Bool} (hP:C.P=Tryz.prog) (hE:EnvC C) (hw0:zD en Nw=some (wdE (name :: rest))) (hNw:Nw < nE) (hl:∀ x∈name :: rest,x ≠ []∧x.length≤5000) (hlen:rest.length+1≤5000) (hkind:(zF0 name).2 ≠ []) (hb:behind.length≤9223372036854775806)
  (hx:readM name rest behind=x) (hmk:∀ q,mk q ↔ q=N∨q=N+1) (hn0:C.n0≤N) (hN:zD en' N=some (cmE x.1)) (hM:zD en' (N+1)=some (flE x.1)) (hq:∀ q,q ≠ N→q ≠ N+1→zD en' q=zD en q) :
  zJ0 C nE mk en en' 46 [.c (.rw Nw (rest.length+1)),.c (.s behind)] (.t [.g (mqZ x.1 N),.c (.i .i64 (if x.2.2 then -1 else x.2.1))]):=by
 refine zX6 (N:=N) (M:=N+1) (e1:=cmE x.1) (e2:=flE x.1) (vals1:=ecV x.1.cmds) (vals2:=x.1.flags.map encW) (fun args w=>by rw [hP]; exact Tryz.call46 args w) hmk (by omega) hn0 (by omega) hN hM hq (by show ¬ (52:Nat)=zC9; decide) (by show ¬ (9:Nat)=zC9; decide) (fun ρ=>zE7 ρ _) (fun ρ=>zF4 ρ _) (fun pr=>ec_wf pr _) (fun pr=>st_wf pr _) (fun pr h1 h2=>?_) ?_
 ·intro y hy
  simp only [List.mem_cons,List.not_mem_nil,or_false] at hy
  rcases hy with rfl | rfl
  ·exact mqR_wf h1 h2
  ·trivial
 ·intro ρ pr w hw hpr _
  have lN:=hpr Nw hNw
  have hne:(name :: rest).map SC.s ≠ []:=by simp
  have hnl:(ρ Nw).nl=none:=Decidable.byContradiction fun hd=>hne ((hw.hp Nw _ _ _ lN hw0).non hd)
  obtain ⟨_,_,hO⟩:=hw.ho Nw _ _ _ lN hw0
  obtain ⟨_,k1,_,k3,k4⟩:=hO.resolve_right (fun hd=>by rw [hnl] at hd; exact absurd hd.1 (by simp))
  have hwd:=(hw.hp Nw _ _ _ lN hw0).heap ⟨(by show ¬ (9:Nat)=zC9; decide),hnl⟩
  rw [k1,List.nil_append] at hwd
  have hraw:RawT w (some ⟨(ρ Nw).blk,0,none⟩) (name :: rest):=by
   intro k y hy
   refine ⟨_,0,rfl,(Array.getElem?_eq_some_iff.1 hwd).1,?_⟩
   rw [Nat.zero_add,Go.cell_of_row w _ k _ _ (0,0) hwd]
   have hi:=(List.getElem?_eq_some_iff.1 hy).1
   simp only [List.getElem?_toArray]
   rw [List.getElem?_append_left (by simpa [zB8] using hi)]
   simp only [zB8,List.getElem?_map,hy]
   rfl
  have hv:(SC.rw Nw (rest.length+1)).den ρ=.slice (some ⟨(ρ Nw).blk,0,none⟩) (rest.length+1) (ρ Nw).cap:=zI3 hnl _
  have hargs:(List.map (SV.den ρ) [.c (.rw Nw (rest.length+1)),.c (.s behind)]).toArray=#[.slice (some ⟨(ρ Nw).blk,0,none⟩) (rest.length+1) (ρ Nw).cap,.string ⟨behind.toArray⟩]:=by
   simp only [List.map_cons,List.map_nil,SV.den,hv]; rfl
  rw [hargs,hP]
  refine (dread_w (hE w hw.up) hraw rfl k3 k4 hl hlen hkind behind hb).mono ?_
  rintro z w' ⟨hbl,v,rfl,r1,r2,rfl,m1,m2,m3⟩
  rw [hx] at *
  refine ⟨r1,r2,m1.made (fun ρ=>zE7 ρ _),m2.made (fun ρ=>zF4 ρ _),m3,fun ρ' _ e1 e2=>?_,hbl⟩
  rw [← e1,← e2]; rfl
def zO0:List SV→Option (Prop × SV)
 | [.c (.s b)]=>some (b.length≤9223372036854775806,.t [.c (.s (zB7 b).1),.c (.i .i64 ((zB7 b).2.1:Int)),.g (mqS noS noS (zB7 b).2.2.1),.c (.b (zB7 b).2.2.2)])
 | _=>none
def dP0:Ctr:=fun f _ xs=>match f with
 | 44=>zO0 xs
 | 45=>zA9 xs
 | _=>none
theorem dP0_ok {C:Cx} (hP:C.P=Tryz.prog):zC1 C dP0:=by
 intro f en xs p v h hp ρ w hup hHp hHo hinj hwf
 unfold dP0 at h
 split at h
 ·rw [hP]
  refine ⟨fun args w=>Tryz.call44 args w,?_⟩
  unfold zO0 at h
  split at h <;> simp only [Option.some.injEq,Prod.mk.injEq,reduceCtorEq] at h
  obtain ⟨rfl,rfl⟩:=h
  exact ⟨by simp [SV.wf,TE.wf,wfs,SC.wf,mqS,noS],dfront_w _ hp w ρ⟩
 ·rw [hP]
  refine ⟨fun args w=>Tryz.call45 args w,?_⟩
  unfold zA9 at h
  split at h <;> simp only [Option.some.injEq,Prod.mk.injEq,reduceCtorEq] at h
  obtain ⟨rfl,rfl⟩:=h
  exact ⟨by simp [SV.wf,wfs,SC.wf,mqS,noS],dbad_w _ w ρ⟩
 ·cases h
theorem front_none (b:List UInt8):(zB7 b).2.2.1.cmds=[]∧(zB7 b).2.2.1.flags=[]:=by
 unfold zB7
 repeat' split
 all_goals exact ⟨rfl,rfl⟩
theorem front_len {b:List UInt8} (h:(zB7 b).2.2.2=true):(zB7 b).1.length≤2048∧(zB7 b).2.1≤b.length:=by
 unfold zB7 at h ⊢
 split at h
 ·rename_i hc
  rw [if_pos hc]
  have e:zB1 b=(let l:=b.takeWhile (· != 10); if l.length < b.length then ((if l.getLast?=some 13 then l.dropLast else l),l.length+1) else ([],0)):=rfl
  simp only at e
  split at e
  ·rename_i hl
   rw [e] at hc ⊢
   simp only at hc ⊢
   refine ⟨?_,by omega⟩
   split
   ·rw [List.length_dropLast]; omega
   ·omega
  ·rw [e] at hc; exact absurd hc.1 (by simp)
 ·split at h <;> cases h
theorem dparse_w (b:List UInt8) (hb:b.length≤9223372036854775806) (w:World) (hE0:Env w):Calls Tryz.prog 29 #[.string ⟨b.toArray⟩] w (MPost w (zE9 b)):=by
 rw [← doc_is]
 refine zA1 Tryz.func29 rfl kp29 (S:=Non) (ρ:=fun _=>zG7 0) (en:=[]) [.c (.s b)] Tryz.ntmps29 (At.nil _ _ _) (by simp [SV.wf,SC.wf]) (by simp) ?_
 intro C hC hP hk
 have hEC:EnvC C:=fun w' hu=>by rw [hC] at hu; exact hE0.below hu.to_below
 have hctr:=dP0_ok hP
 have hS:C.S=Non:=by rw [hC]; rfl
 have hw0:C.w0=w:=by rw [hC]; rfl
 have hn0:C.n0=0:=by rw [hC]; rfl
 obtain ⟨e1,e2⟩:=front_none b
 have e3:=front_len (b:=b)
 have hdoc:docP b=if (zB7 b).2.2.2 then zR6 (zB7 b).2.1 (b.drop (zB7 b).2.1) (wordsF ((zB7 b).1.length+1) (zB7 b).1) else ((zB7 b).2.2.1,((zB7 b).2.1:Int)):=rfl
 have hfr:zB7 b=((zB7 b).1,(zB7 b).2.1,(zB7 b).2.2.1,(zB7 b).2.2.2):=rfl
 obtain ⟨s,n,r,ok,hF⟩:∃ s n r ok,zB7 b=(s,n,r,ok):=⟨_,_,_,_,hfr⟩
 rw [hF] at hdoc e1 e2 e3
 simp only at hdoc e1 e2 e3
 have hfin:∀ (r:Mq) (m:Int) (en:List EN),docP b=(r,m)→r.cmds=[]→r.flags=[]→Fin C res29 (.t [.g (mqS noS noS r),.c (.i .i64 m)]) en:=fun r m en h1 h2 h3=>by
  refine zC3 (v:=.t [.g (mqS noS noS r),.c (.i .i64 m)]) hC hres29 fun ρ w' hw _ _=>?_
  have hup:=hw.up
  rw [hC] at hup
  rw [h1]
  exact ⟨hup.to_below,_,rfl,MqV.none h2 h3⟩
 cases ok with
 | false =>
  rw [if_neg (by simp)] at hdoc
  (refine zA0 hctr (rs:=res29) true 300 _ _ _ ?_; simp (maxSteps:=1000000) only [VT,jf,qE,qF,qG,qH,qI,qJ,qK,qO,qP,qT,qh,q0t,qu,qv,ev,qw,qy,qz,zA,zB,zC,zD,zE,zF,zG,zI,zJ,TE.sv,zK,zM,↓reduceIte,reduceCtorEq,Value.oneCell',Nat.reduceEqDiff,Nat.reduceAdd,Nat.reduceLT,zP,zQ,zR,zV,zW,zt,hP,hk,res29,kp29,dP0,zO0,mqS,noS,hF])
  exact ⟨hb,hfin r n _ hdoc e1 e2⟩
 | true =>
  rw [if_pos rfl] at hdoc
  obtain ⟨hs,hnb⟩:=e3 rfl
  (refine zA0 hctr (rs:=res29) true 300 _ _ _ ?_; simp (maxSteps:=1000000) only [VT,jg,qH,qI,qJ,qK,qO,qT,qh,q0t,qu,qv,ev,qw,qy,qz,zC,zD,zE,zF,zG,zI,zJ,TE.sv,zK,zM,↓reduceIte,reduceCtorEq,Value.oneCell',Nat.reduceEqDiff,Nat.reduceAdd,Nat.reduceLT,zP,zQ,zR,zV,zW,zt,hP,hk,res29,kp29,dP0,zO0,mqS,noS,hF])
  refine ⟨hb,?_⟩
  have hsp:zL2 s [] []=wordsF (s.length+1) s:=by have:=spl_is (s.length+1) s [] (Nat.lt_succ_self _); simpa using this
  obtain ⟨ws,hws⟩:∃ ws,wordsF (s.length+1) s=ws:=⟨_,rfl⟩
  rw [hws] at hdoc
  refine zA6 rfl (.c (.rw 2 ws.length)) [⟨(35,0,whole),mqS noS noS Mq.zero,true⟩,⟨(35,0,whole),mqS noS noS r,true⟩,wdE ws] (by
   rw [← hws,← hsp]
   exact dsplit_h s (by omega) hP (zR1 rfl) (by rw [hn0]; exact Nat.zero_le _) rfl (fun q hq=>by match q with | 0=>rfl | 1=>rfl | 2=>exact absurd rfl hq | _+3=>rfl)) (by simp [zG]) (by simp) ?_
  have hnb':(n:Int)≤(b.length:Int):=by omega
  have hn0':(0:Int)≤(n:Int):=by omega
  cases ws with
  | nil =>
   have c2:(((0:Nat):Int) == 0)=true:=rfl
   (refine zA0 hctr (rs:=res29) true 300 _ _ _ ?_; simp (maxSteps:=1000000) only [VT,jf,qE,qF,qG,qH,qI,qJ,qK,qN,qO,qP,qR,qS,qe,q0t,qu,qv,ev,qw,qy,qz,zA,zB,zC,zD,zE,zG,zI,zJ,zM,↓reduceIte,reduceCtorEq,Value.oneCell',Nat.reduceEqDiff,Nat.reduceAdd,Nat.reduceLT,zP,zQ,zR,zV,za,zl,zt,rwE,jN,hP,hk,res29,kp29,dP0,zA9,mqS,noS,zD8,c2,wdE,rwE,Mq.zero])
   exact hfin (zD8 zA5 0) n _ (by rw [hdoc]; rfl) rfl rfl
  | cons name rest =>
   obtain ⟨m,hm⟩:∃ m,rest.length+1=m:=⟨_,rfl⟩
   have c2:((m:Int) == 0)=false:=by
    have:¬ (m:Int)=0:=by omega
    simpa using this
   have c3:(0:Int) < (m:Int):=by omega
   by_cases hmn:name=m_mn
   ·have c5:(name == [109,110])=true:=by rw [hmn]; rfl
    have hal:(zF0 name).2=[]:=by rw [hmn]; rfl
    cases rest with
    | nil =>
     obtain rfl:m=1:=hm.symm
     have c6:(((1:Nat):Int) == 1)=true:=rfl
     (refine zA0 hctr (rs:=res29) true 300 _ _ _ ?_; simp (maxSteps:=1000000) only [VT,jf,jg,qE,qF,qG,qH,qI,qJ,qK,qN,qO,qP,qR,qS,qX,qe,qf,qg,q0t,qu,qv,ev,qy,qz,zA,zB,zC,zD,zE,zG,zI,zJ,zM,↓reduceIte,reduceCtorEq,Value.oneCell',Nat.reduceEqDiff,Nat.reduceAdd,Nat.reduceLT,zP,zQ,zR,zT,zV,zW,zZ,za,zk,zl,zt,rwE,jN,hP,hk,res29,kp29,mqS,noS,Int.toNat_zero,Nat.mul_one,Int.le_refl,c2,c3,c5,c6,wdE,rwE,Mq.zero])
     exact hfin ⟨7,[],false,[],0,false,m_mn,[],[]⟩ n _ (by rw [hdoc,zR6,hal,if_neg (by simp),if_pos ⟨hmn,rfl⟩]) rfl rfl
    | cons y l =>
     have hm:l.length+1+1=m:=hm
     have c6:((m:Int) == 1)=false:=by
      have:¬ (m:Int)=1:=by omega
      simpa using this
     (refine zA0 hctr (rs:=res29) true 300 _ _ _ ?_; simp (maxSteps:=1000000) only [VT,jf,jg,qE,qF,qG,qH,qI,qJ,qK,qN,qO,qP,qR,qS,qX,qe,q0t,qu,qv,ev,qw,qy,qz,zA,zB,zC,zD,zE,zG,zI,zJ,zM,↓reduceIte,reduceCtorEq,Value.oneCell',Nat.reduceEqDiff,Nat.reduceAdd,Nat.reduceLT,zP,zQ,zR,zT,zV,zW,zZ,zk,zt,rwE,jN,hP,hk,res29,kp29,dP0,zA9,mqS,noS,zD8,Int.toNat_zero,Nat.mul_one,Int.le_refl,c2,c3,c5,c6,wdE,rwE,Mq.zero,hm])
     exact hfin (zD8 zA5 0) n _ (by rw [hdoc,zR6,hal,if_neg (by simp),if_neg (by simp)]) rfl rfl
   ·have c5:(name == [109,110])=false:=by simpa [m_mn] using hmn
    by_cases hkn:(zF0 name).2=[]
    ·have hno:name ≠ m_me∧name ≠ m_mg∧name ≠ m_ms∧name ≠ m_md∧name ≠ m_ma:=by
      refine ⟨?_,?_,?_,?_,?_⟩ <;> (rintro rfl; revert hkn; decide)
     obtain ⟨o1,o2,o3,o4,o5⟩:=hno
     have n1:(name == [109,101])=false:=by simpa [m_me] using o1
     have n2:(name == [109,103])=false:=by simpa [m_mg] using o2
     have n3:(name == [109,115])=false:=by simpa [m_ms] using o3
     have n4:(name == [109,100])=false:=by simpa [m_md] using o4
     have n5:(name == [109,97])=false:=by simpa [m_ma] using o5
     (refine zA0 hctr (rs:=res29) true 300 _ _ _ ?_; simp (maxSteps:=1000000) only [VT,jg,qE,qF,qG,qH,qI,qJ,qK,qN,qO,qP,qR,qS,qX,qe,q0t,qu,qv,ev,qw,qy,qz,zA,zB,zC,zD,zE,zG,zI,zJ,zM,↓reduceIte,reduceCtorEq,Value.oneCell',Nat.reduceEqDiff,Nat.reduceAdd,Nat.reduceLT,zP,zQ,zR,zT,zW,zZ,zk,zt,rwE,jN,hP,hk,res29,kp29,dP0,zA9,mqS,noS,zD8,Int.toNat_zero,Nat.mul_one,Int.le_refl,c2,c3,c5,n1,n2,n3,n4,n5,wdE,rwE,Mq.zero,hm])
     exact hfin (zD8 zA5 0) n _ (by rw [hdoc,zR6,hkn,if_neg (by simp),if_neg (fun h=>hmn h.1)]) rfl rfl
    ·have hyes:name=m_me∨name=m_mg∨name=m_ms∨name=m_md∨name=m_ma:=by
      unfold zF0 at hkn
      repeat' split at hkn
      all_goals simp_all
     obtain ⟨b1,n1⟩:∃ x,(name == [109,101])=x:=⟨_,rfl⟩
     obtain ⟨b2,n2⟩:∃ x,(name == [109,103])=x:=⟨_,rfl⟩
     obtain ⟨b3,n3⟩:∃ x,(name == [109,115])=x:=⟨_,rfl⟩
     obtain ⟨b4,n4⟩:∃ x,(name == [109,100])=x:=⟨_,rfl⟩
     obtain ⟨b5,n5⟩:∃ x,(name == [109,97])=x:=⟨_,rfl⟩
     have hbb:(b1=true∧b2=false∧b3=false∧b4=false∧b5=false)∨(b1=false∧b2=true∧b3=false∧b4=false∧b5=false)∨(b1=false∧b2=false∧b3=true∧b4=false∧b5=false)∨(b1=false∧b2=false∧b3=false∧b4=true∧b5=false)∨(b1=false∧b2=false∧b3=false∧b4=false∧b5=true):=by
      rw [← n1,← n2,← n3,← n4,← n5]
      rcases hyes with rfl | rfl | rfl | rfl | rfl <;> decide
     rcases hbb with ⟨rfl,rfl,rfl,rfl,rfl⟩ | ⟨rfl,rfl,rfl,rfl,rfl⟩ | ⟨rfl,rfl,rfl,rfl,rfl⟩ | ⟨rfl,rfl,rfl,rfl,rfl⟩ | ⟨rfl,rfl,rfl,rfl,rfl⟩
     all_goals
      (refine zA0 hctr (rs:=res29) true 300 _ _ _ ?_; simp (maxSteps:=1000000) only [VT,jf,jg,qH,qI,qK,qN,qO,qP,qR,qS,qX,qZ,qe,ql,qm,ev,qw,qy,qz,zD,zI,zJ,zM,↓reduceIte,reduceCtorEq,Nat.reduceEqDiff,Nat.reduceLT,zP,zQ,zR,zT,zV,zW,zZ,zh,zk,rwE,jN,hP,hk,res29,kp29,dP0,mqS,noS,Int.toNat_zero,Nat.mul_one,Int.le_refl,c2,c3,c5,n1,n2,n3,n4,n5,wdE,rwE,Mq.zero,hm,hnb',hn0',List.take_length])
      obtain ⟨xq,used,more,hrm⟩:∃ xq used more,readM name rest (b.drop n)=(xq,used,more):=⟨_,_,_,rfl⟩
      subst hm
      refine zA6 rfl (.t [.g (mqZ xq 3),.c (.i .i64 (if more then -1 else used))]) [⟨(35,0,whole),mqS noS noS Mq.zero,true⟩,⟨(35,0,whole),mqS noS noS r,true⟩,wdE (name :: rest),cmE xq,flE xq] (dread_h (C:=C) (Nw:=2) (N:=3) (x:=(xq,used,more)) hP hEC rfl (by simp [zG]) (fun x hx=>⟨wordsF_ne _ _ x (by rw [hws]; exact hx),by have:=zU8 _ _ x (by rw [hws]; exact hx); omega⟩) (by have:=zP7 (s.length+1) s; rw [hws] at this; simp at this; omega) hkn (by rw [List.length_drop]; omega) hrm (fun q=>by simp only [zG]; omega) (by rw [hn0]; exact Nat.zero_le _) rfl rfl (fun q h1 h2=>by match q with | 0=>rfl | 1=>rfl | 2=>rfl | 3=>exact absurd rfl h1 | 4=>exact absurd rfl h2 | _+5=>rfl)) (by simp [zG]) (by simp) ?_
      cases more with
      | true =>
       have c7:decide ((-1:Int) < 0)=true:=rfl
       (refine zA0 hctr (rs:=res29) true 300 _ _ _ ?_; simp (maxSteps:=1000000) only [VT,jf,qE,qF,qG,qH,qI,qJ,qK,qO,qP,qR,qS,qf,qg,qh,q0t,qu,qv,ev,qy,qz,zA,zB,zC,zD,zE,zF,zG,zI,zJ,TE.sv,zM,↓reduceIte,reduceCtorEq,Value.oneCell',Nat.reduceEqDiff,Nat.reduceAdd,Nat.reduceLT,zP,zQ,zR,zV,zZ,zk,zt,rwE,jN,hP,hk,res29,kp29,mqS,noS,c7,mqZ,Mq.zero,cmE,flE,rwE,wdE])
       exact hfin Mq.zero 0 _ (by rw [hdoc,zR6,if_pos hkn,hrm]; rfl) rfl rfl
      | false =>
       obtain ⟨_,u0,u1⟩:=readM_pre (r:=[]) hrm
       have ww:IntKind.i64.wrap ((n:Int)+used)=(n:Int)+used:=IntWalk.i64_in _ (by rw [List.length_drop] at u1; omega)
       have c7:decide (used < 0)=false:=decide_eq_false (by omega)
       (refine zA0 hctr (rs:=res29) true 300 _ _ _ ?_; simp (maxSteps:=1000000) only [VT,jg,qE,qF,qG,qH,qI,qJ,qK,qO,qP,qR,qS,qh,q0t,qu,qv,ev,qy,qz,zA,zB,zC,zD,zE,zF,zG,zI,zJ,TE.sv,zM,↓reduceIte,reduceCtorEq,Nat.reduceEqDiff,Nat.reduceAdd,Nat.reduceLT,zP,zQ,zR,zW,zZ,zk,zt,rwE,jN,hP,hk,res29,kp29,mqS,noS,mqZ,Mq.zero,cmE,flE,rwE,wdE,ww,c7,Bool.false_eq_true])
       refine zC3 (v:=.t [.g (mqZ xq 3),.c (.i .i64 ((n:Int)+used))]) hC hres29 fun ρ w' hw _ _=>?_
       have hup:=hw.up
       rw [hC] at hup
       have k1:=RowOk.of (N:=3) (n:=xq.cmds.length) (z:=16) (e:=52) (cells:=zC2 ecS xq.cmds) hw hS rfl (by decide)
       have k2:=RowOk.of (N:=4) (n:=xq.flags.length) (z:=1) (e:=9) (cells:=xq.flags.map SC.s) hw hS rfl (by decide)
       rw [hw0] at k1 k2
       rw [zE7] at k1
       rw [zF4] at k2
       rw [hdoc,zR6,if_pos hkn,hrm]
       refine ⟨hup.to_below,_,rfl,⟨ρ 3,ρ 4,rfl,k1,k2,fun h3 h4 he=>?_⟩⟩
       have:=hw.inj 3 4 (by simp) (by simp) ((zA4 rfl).2 ⟨by show ¬ ((52:Nat)=zC9); decide,h3⟩) ((zA4 rfl).2 ⟨by show ¬ ((9:Nat)=zC9); decide,h4⟩) he
       cases this
end Go.Proofs.YtcbmlanpianclaaGreatDoor
/- The document's gets, store, short as calls of a walk. Printed by gen_dt8.py. -/
namespace Go.Proofs.YtcbmlanpianclaaGreatDoor
set_option linter.unusedSimpArgs false
set_option linter.unusedVariables false
open Go.RowKit
set_option maxRecDepth 100000
def RdUp (L:Int):Rd'→Prop
 | .fault _=>True
 | .got _ true _=>True
 | .got _ false u=>0≤u∧u≤L
def RdNm:Rd'→Prop
 | .fault _=>True
 | .got _ m u=>m=false∧u=0
theorem end_isT {L:Int} {x:Rd'} (n:Nat) (h:RdUp L x):endR n x=if (rdX x).2 < 0 then (Rq.zero,0) else ((rdX x).1,(n:Int)+(rdX x).2):=by
 match x,h with
 | .fault f,_=>simp [endR,rdX]
 | .got r true u,_=>simp [endR,rdX]
 | .got r false u,⟨h1,h2⟩=>exact (if_neg (show ¬ u < 0 by omega)).symm
theorem end_noT {x:Rd'} (n:Nat) (h:RdNm x):endR n x=((rdX x).1,(n:Int)):=by
 match x,h with
 | .fault f,_=>rfl
 | .got r m u,⟨h1,h2⟩=>subst h1; subst h2; simp [endR,rdX]
theorem rdX_le {L:Int} {x:Rd'} (h:RdUp L x):(rdX x).2 < 0∨(0≤(rdX x).2∧((rdX x).2≤L∨(rdX x).2=0)):=by
 match x,h with
 | .fault f,_=>right; exact ⟨Int.le_refl _,.inr rfl⟩
 | .got r true u,_=>left; show (-1:Int) < 0; decide
 | .got r false u,⟨h1,h2⟩=>right; exact ⟨h1,.inl h2⟩
theorem get_noT (name:List UInt8) (w:List (List UInt8)):RdNm (zJ7 name w):=by
 unfold zJ7
 simp only
 repeat' split
 all_goals first | trivial | exact ⟨rfl,rfl⟩
theorem ok_noT {s:List UInt8} {k:List UInt8→Rd'} (h:RdNm (k s)):RdNm (zI1 s k):=by
 unfold zI1
 split
 ·exact h
 ·trivial
theorem plain_noT (name:List UInt8) (w:List (List UInt8)):RdNm (zA7 name w):=by
 unfold zA7
 simp only
 repeat' split
 all_goals first | trivial | exact ⟨rfl,rfl⟩ | (refine ok_noT ?_; (repeat' split) <;> first | trivial | exact ⟨rfl,rfl⟩)
theorem store_okT (name:List UInt8) (w:List (List UInt8)) (behind:List UInt8):RdUp behind.length (zB4 name w behind):=by
 unfold zB4
 simp only
 repeat' split
 all_goals first | trivial | (refine ⟨by omega,?_⟩; omega)
def gN (name:List UInt8):Prop:=name=[103,101,116]∨name=[103,101,116,115]∨name=[103,97,116]∨name=[103,97,116,115]
def shN (name:List UInt8):Prop:=name=[105,110,99,114]∨name=[100,101,99,114]∨name=[116,111,117,99,104]∨name=[100,101,108,101,116,101]∨name=[102,108,117,115,104,95,97,108,108]∨name=[118,101,114,98,111,115,105,116,121]
section
variable {w:World} {a:Option Addr} {n cap:Nat} {name:List UInt8} {w0:List (List UInt8)}
theorem dgets_w (hN:gN name) (hraw:RawT w a (name :: w0)) (hn:n=w0.length+1) (hnc:n≤cap) (hcap:cap≤maxLen) (hl:∀ x∈w0,x.length≤5000) (hlen:n≤5000) :
  Calls Tryz.prog 47 #[.slice a n cap] w (zJ5 w (gqT (rdX (zJ7 name w0)).1)):=by
 rcases hN with rfl | rfl | rfl | rfl
 ·exact dg_get_w hraw hn hnc hcap hl hlen
 ·exact dg_gets_w hraw hn hnc hcap hl hlen
 ·exact dg_gat_w hraw hn hnc hcap hl hlen
 ·exact dg_gats_w hraw hn hnc hcap hl hlen
theorem dshort_w (hN:shN name) (hraw:RawT w a (name :: w0)) (hn:n=w0.length+1) (hnc:n≤cap) (hcap:cap≤maxLen) (hl:∀ x∈w0,x.length≤5000) :
  Calls Tryz.prog 49 #[.slice a n cap] w (zJ5 w (gqT (rdX (zA7 name w0)).1)):=by
 rcases hN with rfl | rfl | rfl | rfl | rfl | rfl
 ·exact dsh_incr_w hraw hn hnc hcap hl
 ·exact dsh_decr_w hraw hn hnc hcap hl
 ·exact dsh_touch_w hraw hn hnc hcap hl
 ·exact dsh_del_w hraw hn hnc hcap hl
 ·exact dsh_flush_w hraw hn hnc hcap hl
 ·exact dsh_verb_w hraw hn hnc hcap hl
theorem dstore_w (hN:stN name) (hraw:RawT w a (name :: w0)) (hn:n=w0.length+1) (hnc:n≤cap) (hcap:cap≤maxLen) (hl:∀ x∈w0,x.length≤5000) (behind:List UInt8) (hb:behind.length≤9223372036854775806) :
  Calls Tryz.prog 48 #[.slice a n cap,.string ⟨behind.toArray⟩] w (GPost w (gqT (rdX (zB4 name w0 behind)).1,(rdX (zB4 name w0 behind)).2)):=by
 by_cases hc:name=[99,97,115]
 ·subst hc
  exact dstoreC_w hraw hn hnc hcap hl behind hb
 ·exact dstoreN_w hraw hn hnc hcap hl hN (by simpa using hc) behind hb
end
theorem row_raw {C:Cx} {ρ:Nat→RE} {pr:Nat→Prop} {en:List EN} {w:World} {M:Nat} {name:List UInt8} {rest:List (List UInt8)} (hw:Hw C ρ pr en w) (hM:zD en M=some (wdE (name :: rest))) (lM:pr M) :
  ∃ a cap,(SC.rw M (rest.length+1)).den ρ=.slice a (rest.length+1) cap∧RawT w a (name :: rest)∧rest.length+1≤cap∧cap≤maxLen:=by
 have hne:(name :: rest).map SC.s ≠ []:=by simp
 have hnl:(ρ M).nl=none:=Decidable.byContradiction fun hd=>hne ((hw.hp M _ _ _ lM hM).non hd)
 obtain ⟨_,_,hO⟩:=hw.ho M _ _ _ lM hM
 obtain ⟨_,k1,_,k3,k4⟩:=hO.resolve_right (fun hd=>by rw [hnl] at hd; exact absurd hd.1 (by simp))
 have hwd:=(hw.hp M _ _ _ lM hM).heap ⟨(by show ¬ (9:Nat)=zC9; decide),hnl⟩
 rw [k1,List.nil_append] at hwd
 refine ⟨_,_,zI3 hnl _,?_,k3,k4⟩
 intro k y hy
 refine ⟨_,0,rfl,(Array.getElem?_eq_some_iff.1 hwd).1,?_⟩
 rw [Nat.zero_add,Go.cell_of_row w _ k _ _ (0,0) hwd]
 have hi:=(List.getElem?_eq_some_iff.1 hy).1
 simp only [List.getElem?_toArray]
 rw [List.getElem?_append_left (by simpa [zB8] using hi)]
 simp only [zB8,List.getElem?_map,hy]
 rfl
theorem dreq_h {C:Cx} {nE M N:Nat} {mk:Nat→Prop} {en en':List EN} {name:List UInt8} {rest:List (List UInt8)} {f:FuncId} {x:Gq} (hP:C.P=Tryz.prog) (hent:∀ args w,(callFunc f args).run Tryz.prog w=.ok (.enter f args) w) (hM0:zD en M=some (wdE (name :: rest))) (hM1:M < nE)
  (H:∀ a cap w,RawT w a (name :: rest)→rest.length+1≤cap→cap≤maxLen→Calls Tryz.prog f #[.slice a (rest.length+1) cap] w (zJ5 w x)) (hmk:∀ q,mk q ↔ q=N∨q=N+1) (hn0:C.n0≤N) (hN:zD en' N=some (cmG x)) (hM:zD en' (N+1)=some (flG x)) (hq:∀ q,q ≠ N→q ≠ N+1→zD en' q=zD en q) :
  zJ0 C nE mk en en' f [.c (.rw M (rest.length+1))] (.g (gqZ x N)):=by
 refine zX6 (N:=N) (M:=N+1) (e1:=cmG x) (e2:=flG x) (vals1:=ecV x.cmds) (vals2:=x.flags.map encW) (fun args w=>by rw [hP]; exact hent args w) hmk (by omega) hn0 (by omega) hN hM hq (by show ¬ (52:Nat)=zC9; decide) (by show ¬ (9:Nat)=zC9; decide) (fun ρ=>zE7 ρ _) (fun ρ=>zF4 ρ _) (fun pr=>ec_wf pr _) (fun pr=>st_wf pr _) (fun pr h1 h2=>gqR_wf h1 h2) ?_
 intro ρ pr w hw hpr _
 rw [hP]
 obtain ⟨a,cap,hv,hraw,h1,h2⟩:=row_raw hw hM0 (hpr M hM1)
 have hargs:(List.map (SV.den ρ) [.c (.rw M (rest.length+1))]).toArray=#[.slice a (rest.length+1) cap]:=by
  simp only [List.map_cons,List.map_nil,SV.den,hv]
 rw [hargs]
 refine (H a cap w hraw h1 h2).mono ?_
 rintro z w' ⟨hbl,v,rfl,r1,r2,rfl,m1,m2,m3⟩
 refine ⟨r1,r2,m1.made (fun ρ=>zE7 ρ _),m2.made (fun ρ=>zF4 ρ _),m3,fun ρ' _ e1 e2=>?_,hbl⟩
 rw [← e1,← e2]; rfl
theorem dstore_h {C:Cx} {nE M N:Nat} {mk:Nat→Prop} {en en':List EN} {name:List UInt8} {rest:List (List UInt8)} {behind:List UInt8} {x:Gq × Int} (hP:C.P=Tryz.prog) (hM0:zD en M=some (wdE (name :: rest))) (hM1:M < nE) (hN0:stN name) (hl:∀ x∈rest,x.length≤5000) (hb:behind.length≤9223372036854775806)
  (hx:(gqT (rdX (zB4 name rest behind)).1,(rdX (zB4 name rest behind)).2)=x) (hmk:∀ q,mk q ↔ q=N∨q=N+1) (hn0:C.n0≤N) (hN:zD en' N=some (cmG x.1)) (hM:zD en' (N+1)=some (flG x.1)) (hq:∀ q,q ≠ N→q ≠ N+1→zD en' q=zD en q) :
  zJ0 C nE mk en en' 48 [.c (.rw M (rest.length+1)),.c (.s behind)] (pgV x N):=by
 refine zX6 (N:=N) (M:=N+1) (e1:=cmG x.1) (e2:=flG x.1) (vals1:=ecV x.1.cmds) (vals2:=x.1.flags.map encW) (fun args w=>by rw [hP]; exact Tryz.call48 args w) hmk (by omega) hn0 (by omega) hN hM hq (by show ¬ (52:Nat)=zC9; decide) (by show ¬ (9:Nat)=zC9; decide) (fun ρ=>zE7 ρ _) (fun ρ=>zF4 ρ _) (fun pr=>ec_wf pr _) (fun pr=>st_wf pr _) (fun pr h1 h2=>?_) ?_
 ·intro y hy
  simp only [List.mem_cons,List.not_mem_nil,or_false] at hy
  rcases hy with rfl | rfl
  ·exact gqR_wf h1 h2
  ·trivial
 intro ρ pr w hw hpr _
 rw [hP]
 obtain ⟨a,cap,hv,hraw,h1,h2⟩:=row_raw hw hM0 (hpr M hM1)
 have hargs:(List.map (SV.den ρ) [.c (.rw M (rest.length+1)),.c (.s behind)]).toArray=#[.slice a (rest.length+1) cap,.string ⟨behind.toArray⟩]:=by
  simp only [List.map_cons,List.map_nil,SV.den,hv]; rfl
 rw [hargs]
 refine (dstore_w hN0 hraw rfl h1 h2 hl behind hb).mono ?_
 rw [hx]
 rintro z w' ⟨hbl,v,rfl,r1,r2,rfl,m1,m2,m3⟩
 refine ⟨r1,r2,m1.made (fun ρ=>zE7 ρ _),m2.made (fun ρ=>zF4 ρ _),m3,fun ρ' _ e1 e2=>?_,hbl⟩
 rw [← e1,← e2]; rfl
end Go.Proofs.YtcbmlanpianclaaGreatDoor
/- A walk: values told in another way, where a fact on where entries lie makes them the same; a row as a slice with a room that is a letter. No program in sight. -/
namespace Go.Proofs.YtcbmlanpianclaaGreatDoor
set_option linter.unusedSimpArgs false
set_option linter.unusedVariables false
open Go.RowKit
section
variable {C:Cx} {nt:Nat} {sl:List (Nat × SV)} {en:List EN} {k:List KI}
def aliE (Φ:(Nat→RE)→Prop) (n:Nat):List EN→List EN→Prop
 | [],[]=>True
 | e :: l,e' :: l'=>(e.ty=e'.ty∧e.mu=e'.mu∧(∀ ρ:Nat→RE,Φ ρ→zB8 ρ e'.cells=zB8 ρ e.cells)∧(wfs (· < n) e.cells→wfs (· < n) e'.cells))∧aliE Φ n l l'
 | _,_=>False
theorem aliE_same (Φ:(Nat→RE)→Prop) (n:Nat):∀ l:List EN,aliE Φ n l l
 | []=>trivial
 | _ :: l=>⟨⟨rfl,rfl,fun _ _=>rfl,id⟩,aliE_same Φ n l⟩
theorem aliE_len {Φ:(Nat→RE)→Prop} {n:Nat}:∀ {l l':List EN},aliE Φ n l l'→l.length=l'.length
 | [],[],_=>rfl
 | _ :: l,_ :: l',h=>by simp [aliE_len h.2]
 | [],_ :: _,h=>h.elim
 | _ :: _,[],h=>h.elim
theorem zY0 {Φ:(Nat→RE)→Prop} {n:Nat}:∀ {l l':List EN},aliE Φ n l l'→∀ c e',zD l' c=some e'→∃ e,zD l c=some e∧e.ty=e'.ty∧e.mu=e'.mu∧(∀ ρ:Nat→RE,Φ ρ→zB8 ρ e'.cells=zB8 ρ e.cells)∧(wfs (· < n) e.cells→wfs (· < n) e'.cells)
 | [],[],_,c,e',h=>by simp [zD] at h
 | e :: l,e' :: l',h,0,x,hx=>by
  simp only [zD,Option.some.injEq] at hx; subst hx
  exact ⟨e,rfl,h.1.1,h.1.2.1,h.1.2.2.1,h.1.2.2.2⟩
 | e :: l,e' :: l',h,c+1,x,hx=>by
  simp only [zD] at hx ⊢
  exact zY0 h.2 c x hx
 | [],_ :: _,h,_,_,_=>h.elim
 | _ :: _,[],h,_,_,_=>h.elim
def aliS (Φ:(Nat→RE)→Prop) (n:Nat) (sl:List (Nat × SV)):List (Nat × SV)→Prop
 | []=>True
 | (d,v') :: r=>(∃ v,qy sl d=some v∧(∀ ρ:Nat→RE,Φ ρ→v'.den ρ=v.den ρ)∧(v.wf (· < n)→v'.wf (· < n)))∧aliS Φ n sl r
theorem aliS_get {Φ:(Nat→RE)→Prop} {n:Nat} {sl:List (Nat × SV)}:∀ {s:List (Nat × SV)},aliS Φ n sl s→∀ d v',qy s d=some v'→∃ v,qy sl d=some v∧(∀ ρ:Nat→RE,Φ ρ→v'.den ρ=v.den ρ)∧(v.wf (· < n)→v'.wf (· < n))
 | [],_,d,v,h=>by simp [qy] at h
 | (e,u) :: s,hs,d,v,h=>by
  simp only [qy] at h
  split at h
  ·rename_i e'; subst e'; simp only [Option.some.injEq] at h; subst h; exact hs.1
  ·exact aliS_get hs.2 d v h
theorem Rep.alias {Φ:(Nat→RE)→Prop} {ρ:Nat→RE} {a:Act} {w:World} {en':List EN} {sl':List (Nat × SV)} (hr:Rep C ρ nt sl en a w) (hΦ:Φ ρ) (hen:aliE Φ (zG en) en en') (hsl:aliS Φ (zG en) sl sl'):Rep C ρ nt sl' en' a w:=by
 rw [zC8] at hen hsl
 have hlen:=aliE_len hen
 have hdd:∀ c,c < en'.length→zG5 (ρ c) (zD en' c)=false→zG5 (ρ c) (zD en c)=false:=by
  intro c hc hd
  obtain ⟨e',he'⟩:∃ e',zD en' c=some e':=⟨_,by rw [zA3]; exact List.getElem?_eq_getElem hc⟩
  obtain ⟨t1,c1,m1⟩:=e'
  obtain ⟨⟨t0,c0,m0⟩,q1,q2,_⟩:=zY0 hen c _ he'
  simp only at q2; subst q2
  exact (zA4 q1).2 ((zA4 he').1 hd)
 refine ⟨⟨?_,?_,?_,hr.hw.up,?_,hr.hw.ini⟩,?_,hr.sz,hr.df,by have:=hr.n0; omega⟩
 ·intro c t cells mu' hc he
  obtain ⟨⟨t0,c0,m0⟩,q1,q2,q3,q4,q5⟩:=zY0 hen c _ he
  simp only at q2 q3 q4 q5
  subst q2; subst q3
  have hc:c < en'.length:=hc
  have hh:=hr.hw.hp c t0 c0 m0 (by show c < en.length; omega) q1
  have hd:=q4 ρ hΦ
  have nil:c0=[]→cells=[]:=fun e=>by rw [e] at hd; simpa [zB8] using hd
  refine ⟨fun hl=>by rw [hd]; exact hh.heap hl,?_,fun hd'=>⟨nil (hh.dead hd').1,(hh.dead hd').2⟩,fun hn=>nil (hh.non hn)⟩
  have:=q5 hh.wf
  rwa [hlen] at this
 ·intro c t cells mu' hc he
  obtain ⟨⟨t0,c0,m0⟩,q1,q2,q3,q4,q5⟩:=zY0 hen c _ he
  simp only at q2 q4; subst q2
  have hc:c < en'.length:=hc
  exact hr.hw.ho c t0 c0 m0 (by show c < en.length; omega) q1
 ·intro c d hc hd h1 h2 h3
  have hc:c < en'.length:=hc
  have hd:d < en'.length:=hd
  exact hr.hw.inj c d (by show c < en.length; omega) (by show d < en.length; omega) (hdd c hc h1) (hdd d hd h2) h3
 ·intro c t cells hc he
  obtain ⟨⟨t0,c0,m0⟩,q1,q2,q3,q4,q5⟩:=zY0 hen c _ he
  simp only at q2 q3; subst q2; subst q3
  have hc:c < en'.length:=hc
  exact hr.hw.mu c t0 c0 (by show c < en.length; omega) q1
 ·intro d v' hd
  obtain ⟨v,q1,q2,q3⟩:=aliS_get hsl d v' hd
  obtain ⟨t1,t2⟩:=hr.tm d v q1
  rw [q2 ρ hΦ]
  refine ⟨t1,?_⟩
  have:=q3 t2
  rwa [hlen] at this
theorem Run_alias {M:Type} {Φ:M→(Nat→RE)→Prop} {en':M→List EN} {sl':M→List (Nat × SV)} (hΦ:∀ ρ w,Hw C ρ (· < en.length) en w→∃ m,Φ m ρ) (hen:∀ m,aliE (Φ m) (zG en) en (en' m)) (hsl:∀ m,aliS (Φ m) (zG en) sl (sl' m)) (h:∀ m,Run C k nt (sl' m) (en' m)):Run C k nt sl en:=by
 intro ρ a w hr
 obtain ⟨m,hm⟩:=hΦ ρ w hr.hw
 exact h m ρ a w (hr.alias hm (hen m) (hsl m))
theorem row_sl {e z n N:Nat} {cells:List SC} {ρ:Nat→RE} {w:World} (hw:Hw C ρ (· < en.length) en w) (hN:zD en N=some (rwE e z n cells)) (hne:n ≠ 0):∃ m:{ m:Nat // n≤m∧m≤maxLen },(SC.sl N 0 n m.1).den ρ=(SC.rw N n).den ρ:=by
 have lN:N < en.length:=by rw [zA3] at hN; exact (List.getElem?_eq_some_iff.1 hN).1
 obtain ⟨_,_,h⟩:=hw.ho N _ _ _ lN hN
 rcases h with ⟨h1,h2,h3,h4,h5⟩ | ⟨h1,h2,h3⟩
 ·refine ⟨⟨(ρ N).cap,h4,h5⟩,?_⟩
  simp only [SC.den,h2,List.length_nil,Nat.zero_add]
  rw [zI3 h1]
 ·exact absurd h2 hne
end
end Go.Proofs.YtcbmlanpianclaaGreatDoor
