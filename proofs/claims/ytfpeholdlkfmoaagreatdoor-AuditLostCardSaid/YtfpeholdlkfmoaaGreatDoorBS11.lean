/- Structs compared: cell by cell, nested structs too. -/
import Derived.Test.YtfpeholdlkfmoaaGreatDoorBS05
import Derived.Test.YtfpeholdlkfmoaaGreatDoorBS03
import Derived.Test.YtfpeholdlkfmoaaGreatDoorBS09
import Derived.Test.YtfpeholdlkfmoaaGreatDoorBS04
import Derived.WalkSmall
import Derived.Recover
import Derived.WideLaws
import Derived.Maps.Own
namespace Go.Proofs.YtfpeholdlkfmoaaGreatDoor
set_option linter.unusedSimpArgs false
set_option linter.unusedVariables false
open Go.RowKit
def ckB (P:Program):Nat→Nat→List Field→List SC→List SC→Option (List SC × List SC)
 | 0,_,_,_,_=>none
 | _+1,_,[],l,m=>some (l,m)
 | n + 1, o, f :: fs, l, m => if f.name = "_" ∨ f.offset ≠ o then none else match P.underlying f.type, l, m with
  | some (.int _),.i k _ :: l,.i k' _ :: m=>if k=k' then ckB P n (o+1) fs l m else none
  | some .string,.s _ :: l,.s _ :: m=>ckB P n (o+1) fs l m
  | some .bool,.b _ :: l,.b _ :: m=>ckB P n (o+1) fs l m
  | some (.struct gs),l,m=>if P.stoodInHeld f.type then none else match ckB P n 0 gs.toList l m with
   | some (l',m')=>if P.info? f.type |>.any (fun i=>i.size+l'.length == l.length && i.size+m'.length == m.length) then ckB P n (o+(l.length - l'.length)) fs l' m' else none
   | none=>none
  | _,_,_=>none
theorem eqCs_app:∀ {a c b d:List SC},a.length=c.length→qM (a++b) (c++d)=(qM a c && qM b d)
 | [],[],_,_,_=>by simp [qM]
 | x :: a,y :: c,b,d,h=>by
  simp only [List.cons_append,qM,eqCs_app (a:=a) (c:=c) (by simpa using h),Bool.and_assoc]
 | [],_ :: _,_,_,h=>by simp at h
 | _ :: _,[],_,_,h=>by simp at h
section
variable {P:Program}
theorem part_cell {t:TypeId} {d:TypeDesc} {xs:Array Value} {o:Nat} {v:Value} (w:World) (ht:P.underlying t=some d) (ha:aggD (some d)=false) (hx:xs[o]?=some v):(part t xs o).run P w=.ok v w:=by
 have:=zN8 (P:=P) (w:=w) ht
 rw [ha] at this
 simp [part,this,hx]
theorem part_agg {t:TypeId} {d:TypeDesc} {i:TypeInfo} {xs:Array Value} {o:Nat} (w:World) (ht:P.underlying t=some d) (hi:P.info? t=some i) (ha:aggD (some d)=true):(part t xs o).run P w=.ok (.agg (xs.extract o (o+i.size))) w:=by
 have:=zN8 (P:=P) (w:=w) ht
 rw [ha] at this
 simp [part,this,zC6 hi]
theorem bs_list (l:List UInt8):(ByteArray.mk l.toArray).toList=l:=by rw [ByteArray.toList_eq]
theorem fields_eq {ρ:Nat→RE} {w:World}:∀ (n o:Nat) (fs:List Field) (l m l' m':List SC),ckB P n o fs l m=some (l',m') →
  ∃ l1 m1,l=l1++l'∧m=m1++m'∧l1.length=m1.length∧∀ (d:Nat) (xs ys:Array Value),(∀ (i:Nat) x,l1[i]?=some x→xs[o+i]?=some (x.den ρ))→(∀ (i:Nat) x,m1[i]?=some x→ys[o+i]?=some (x.den ρ))→(Op.eqFields (d+n) xs ys fs).run P w=.ok (qM l1 m1) w:=by
 intro n
 induction n with
 | zero=>intro o fs l m l' m' h; simp [ckB] at h
 | succ n ih =>
  intro o fs l m l' m' h
  cases fs with
  | nil =>
   simp only [ckB,Option.some.injEq,Prod.mk.injEq] at h
   obtain ⟨rfl,rfl⟩:=h
   exact ⟨[],[],rfl,rfl,rfl,fun d xs ys _ _=>by simp [Op.eqFields,qM]⟩
  | cons f fs =>
   simp only [ckB] at h
   split at h
   ·cases h
   rename_i hno
   have hname : f.name ≠ "_" := fun e => hno (.inl e)
   have hoff:f.offset=o:=Decidable.byContradiction fun e=>hno (.inr e)
   have one:∀ (x y:SC) (l0 m0:List SC) (td:TypeDesc),l=x :: l0→m=y :: m0→P.underlying f.type=some td→aggD (some td)=false→(∀ d,(Op.equalIn (d+1) f.type (x.den ρ) (y.den ρ)).run P w=.ok (qL x y) w)→ckB P n (o+1) fs l0 m0=some (l',m') →
     ∃ l1 m1,l=l1++l'∧m=m1++m'∧l1.length=m1.length∧∀ (d:Nat) (xs ys:Array Value),(∀ (i:Nat) x,l1[i]?=some x→xs[o+i]?=some (x.den ρ))→(∀ (i:Nat) x,m1[i]?=some x→ys[o+i]?=some (x.den ρ))→(Op.eqFields (d+(n+1)) xs ys (f :: fs)).run P w=.ok (qM l1 m1) w:=by
    intro x y l0 m0 td e1 e2 hu hag heq hck
    obtain ⟨l1,m1,rfl,rfl,hlen,hrun⟩:=ih (o+1) fs l0 m0 l' m' hck
    refine ⟨x :: l1,y :: m1,e1,e2,by simp [hlen],fun d xs ys hx hy=>?_⟩
    have p1:=part_cell (P:=P) w hu hag (hx 0 x rfl)
    have p2:=part_cell (P:=P) w hu hag (hy 0 y rfl)
    rw [Nat.add_zero,← hoff] at p1 p2
    have hr:=hrun (d+1) xs ys (fun i z hz=>by have:=hx (i+1) z hz; rwa [show o+(i+1)=o+1+i by omega] at this) (fun i z hz=>by have:=hy (i+1) z hz; rwa [show o+(i+1)=o+1+i by omega] at this)
    rw [show d+1+n=d+(n+1) by omega] at hr
    have he:=heq (d+n)
    rw [show d+n+1=d+(n+1) by omega] at he
    simp only [Op.eqFields,if_pos hname,Sem.run_bind,p1,p2,Result.andThen_ok,he,qM]
    cases qL x y with
    | true=>simpa using hr
    | false=>simp
   split at h
   ·rename_i q k a l0 k' b m0 hu
    split at h
    ·rename_i hk
     subst hk
     exact one (.i k a) (.i k b) l0 m0 _ rfl rfl hu rfl (fun d=>run_equalIn_int w d f.type k q a b hu) h
    ·cases h
   ·rename_i a l0 b m0 hu
    refine one (.s a) (.s b) l0 m0 _ rfl rfl hu rfl (fun d=>?_) h
    have:=run_equalIn_string (P:=P) w d f.type ⟨a.toArray⟩ ⟨b.toArray⟩ hu
    rw [bs_list,bs_list] at this
    exact this
   ·rename_i a l0 b m0 hu
    exact one (.b a) (.b b) l0 m0 _ rfl rfl hu rfl (fun d=>run_equalIn_bool' w d f.type a b hu) h
   ·rename_i l m _ _ _ gs hu
    split at h
    ·cases h
    rename_i hst
    split at h
    ·rename_i l2 m2 hck
     split at h
     ·rename_i hsz
      obtain ⟨l1,m1,rfl,rfl,hlen,hrun⟩:=ih 0 gs.toList l m l2 m2 hck
      obtain ⟨l3,m3,rfl,rfl,hlen3,hrun3⟩:=ih _ fs l2 m2 l' m' h
      cases hi:P.info? f.type with
      | none=>rw [hi] at hsz; simp at hsz
      | some i =>
       rw [hi] at hsz
       simp only [Option.any_some,Bool.and_eq_true,beq_iff_eq,List.length_append] at hsz
       have hs1:i.size=l1.length:=by omega
       have hs2:i.size=m1.length:=by omega
       refine ⟨l1++l3,m1++m3,by simp,by simp,by simp [hlen,hlen3],fun d xs ys hx hy=>?_⟩
       have p1:=part_agg (P:=P) (xs:=xs) (o:=o) w hu hi rfl
       have p2:=part_agg (P:=P) (xs:=ys) (o:=o) w hu hi rfl
       have hfo:P.fieldsOf f.type=gs:=by simp [Program.fieldsOf,hu]
       have hr:=hrun d (xs.extract o (o+i.size)) (ys.extract o (o+i.size))
        (fun j z hz=>by
         have hj:=(List.getElem?_eq_some_iff.1 hz).1
         have:=hx j z (by rw [List.getElem?_append_left hj]; exact hz)
         rw [Nat.zero_add,Array.getElem?_extract,if_pos (by
          have:=(Array.getElem?_eq_some_iff.1 this).1
          omega)]
         exact this)
        (fun j z hz=>by
         have hj:=(List.getElem?_eq_some_iff.1 hz).1
         have:=hy j z (by rw [List.getElem?_append_left hj]; exact hz)
         rw [Nat.zero_add,Array.getElem?_extract,if_pos (by
          have:=(Array.getElem?_eq_some_iff.1 this).1
          omega)]
         exact this)
       have he:=run_equalIn_struct (P:=P) w (d+n) f.type (xs.extract o (o+i.size)) (ys.extract o (o+i.size)) (by rw [hfo]; exact hu) (by simpa using hst)
       rw [hfo,hr] at he
       have hr3:=hrun3 (d+1) xs ys
        (fun j z hz=>by
         have:=hx (l1.length+j) z (by rw [List.getElem?_append_right (by omega),Nat.add_sub_cancel_left]; exact hz)
         rw [show o+((l1++(l3++l')).length - (l3++l').length)+j=o+(l1.length+j) by simp; omega]; exact this)
        (fun j z hz=>by
         have:=hy (m1.length+j) z (by rw [List.getElem?_append_right (by omega),Nat.add_sub_cancel_left]; exact hz)
         rw [show o+((l1++(l3++l')).length - (l3++l').length)+j=o+(m1.length+j) by simp; omega]; exact this)
       rw [show d+1+n=d+(n+1) by omega] at hr3
       rw [show d+n+1=d+(n+1) by omega] at he
       rw [eqCs_app hlen]
       simp only [Op.eqFields,if_pos hname,hoff,Sem.run_bind,p1,p2,Result.andThen_ok,he]
       cases qM l1 m1 with
       | true=>simpa using hr3
       | false=>simp
     ·cases h
    ·cases h
   ·cases h
theorem stEq_of {t:TypeId} {la lb:List SC} (hg:P.eqGuardType P.depth t=false) (hu:P.underlying t=some (.struct (P.fieldsOf t))) (hst:P.stoodInHeld t=false) (h:ckB P 100 0 (P.fieldsOf t).toList la lb=some ([],[])):StEq P t la lb:=by
 refine ⟨hg,fun ρ w=>?_⟩
 obtain ⟨l1,m1,e1,e2,_,hrun⟩:=fields_eq (P:=P) (ρ:=ρ) (w:=w) 100 0 _ la lb [] [] h
 rw [List.append_nil] at e1 e2
 subst e1; subst e2
 have hr:=hrun 9899 (zC1 ρ la).toArray (zC1 ρ lb).toArray (fun i x hx=>by rw [Nat.zero_add]; simp [zC1,hx]) (fun i x hx=>by rw [Nat.zero_add]; simp [zC1,hx])
 unfold Op.equal Op.maxDepth
 rw [show (10000:Nat)=9999+1 from rfl,run_equalIn_struct (P:=P) w 9999 t _ _ hu hst]
 exact hr
end
end Go.Proofs.YtfpeholdlkfmoaaGreatDoor
/- Answers and items compared. -/
namespace Go.Proofs.YtfpeholdlkfmoaaGreatDoor
set_option linter.unusedSimpArgs false
set_option linter.unusedVariables false
open Go.RowKit
theorem stEq_an (a b:An):StEq Tryz.prog 35 (anS a) (anS b):=stEq_of (by kernel_rfl) (by kernel_rfl) (by kernel_rfl) (by kernel_rfl)
theorem steq_an (s:Int) (k:List UInt8) (f:Int) (v:List UInt8) (e c l:Int) (st wn:Bool) (n:Int) (w x z:Bool) (s':Int) (k':List UInt8) (f':Int) (v':List UInt8) (e' c' l':Int) (st' wn':Bool) (n':Int) (w' x' z':Bool) :
  StEq Tryz.prog 35 [.i .i64 s,.s k,.i .u32 f,.s v,.i .i64 e,.i .u64 c,.i .i64 l,.b st,.b wn,.i .u64 n,.b w,.b x,.b z] [.i .i64 s',.s k',.i .u32 f',.s v',.i .i64 e',.i .u64 c',.i .i64 l',.b st',.b wn',.i .u64 n',.b w',.b x',.b z']:=
 stEq_an ⟨s,⟨k,f,v,e,c,l,st,wn⟩,n,w,x,z⟩ ⟨s',⟨k',f',v',e',c',l',st',wn'⟩,n',w',x',z'⟩
theorem stEq_it (a b:It):StEq Tryz.prog 33 (itS a) (itS b):=stEq_of (by kernel_rfl) (by kernel_rfl) (by kernel_rfl) (by kernel_rfl)
theorem steq_it (k:List UInt8) (f:Int) (v:List UInt8) (e c l:Int) (st wn:Bool) (k':List UInt8) (f':Int) (v':List UInt8) (e' c' l':Int) (st' wn':Bool) :
  StEq Tryz.prog 33 [.s k,.i .u32 f,.s v,.i .i64 e,.i .u64 c,.i .i64 l,.b st,.b wn] [.s k',.i .u32 f',.s v',.i .i64 e',.i .u64 c',.i .i64 l',.b st',.b wn']:=
 stEq_it ⟨k,f,v,e,c,l,st,wn⟩ ⟨k',f',v',e',c',l',st',wn'⟩
end Go.Proofs.YtfpeholdlkfmoaaGreatDoor
/- What a command does to a sorted state, seen by keys; what stays so. No program in sight. -/
namespace Go.Proofs.YtfpeholdlkfmoaaGreatDoor
set_option linter.unusedSimpArgs false
set_option linter.unusedVariables false
open Go.Lib Go.Op
theorem Sorted.tail {a:It} {l:List It} (h:Sorted (a :: l)):Sorted l:=(List.pairwise_cons.1 h).2
theorem Sorted.head {a:It} {l:List It} (h:Sorted (a :: l)):∀ b∈l,bytesLess a.key b.key=true:=(List.pairwise_cons.1 h).1
theorem zR9 (a:It) (l:List It) (k:List UInt8):atF (a :: l) k=if bytesLess a.key k=true then atF l k+1 else 0:=by
 unfold atF
 rw [List.takeWhile_cons]
 split <;> simp
theorem zQ0 {a:It} {l:List It} {k:List UInt8} (h:bytesLess a.key k=true):isF (a :: l) k=isF l k:=by
 unfold isF
 rw [zR9,if_pos h,List.getElem?_cons_succ]
theorem zQ1 {a:It} {l:List It} {k:List UInt8} (h:¬ bytesLess a.key k=true):isF (a :: l) k=(a.key == k):=by
 unfold isF
 rw [zR9,if_neg h]
 rfl
theorem zV3:∀ {l:List It} {k:List UInt8},Sorted l→l.take (atF l k)=l.filter fun x=>bytesLess x.key k
 | [],_,_=>by simp
 | a :: l,k,h=>by
  rw [zR9]
  by_cases hk:bytesLess a.key k=true
  ·rw [if_pos hk,List.take_succ_cons,List.filter_cons,if_pos hk,zV3 h.tail]
  ·rw [if_neg hk,List.take_zero,List.filter_cons,if_neg hk]
   refine (List.filter_eq_nil_iff.2 fun b hb hc=>hk ?_).symm
   exact zH8 (h.head b hb) hc
theorem ge_all {a:It} {l:List It} {k:List UInt8} (h:Sorted (a :: l)) (hk:¬ bytesLess a.key k=true):(l.filter fun x=>bytesLess k x.key)=l:=by
 refine List.filter_eq_self.2 fun b hb=>?_
 have h1:=h.head b hb
 by_cases he:bytesLess k a.key=true
 ·exact zH8 he h1
 ·rw [← zL8 a.key k (by simpa using hk) (by simpa using he)]; exact h1
theorem zQ4:∀ {l:List It} {k:List UInt8},Sorted l→isF l k=false→l.drop (atF l k)=l.filter fun x=>bytesLess k x.key
 | [],_,_,_=>by simp
 | a :: l,k,h,hn=>by
  rw [zR9]
  by_cases hk:bytesLess a.key k=true
  ·rw [zQ0 hk] at hn
   rw [if_pos hk,List.drop_succ_cons,List.filter_cons,if_neg (by rw [zT2 hk]; simp),zQ4 h.tail hn]
  ·rw [zQ1 hk] at hn
   rw [if_neg hk,List.drop_zero,List.filter_cons,ge_all h hk]
   have:bytesLess k a.key=true:=Decidable.byContradiction fun hc=>by
    rw [zL8 a.key k (by simpa using hk) (by simpa using hc)] at hn; simp at hn
   rw [if_pos this]
theorem zO7:∀ {l:List It} {k:List UInt8},Sorted l→isF l k=true→l.drop (atF l k+1)=l.filter fun x=>bytesLess k x.key
 | [],_,_,hn=>by simp [isF] at hn
 | a :: l,k,h,hn=>by
  rw [zR9]
  by_cases hk:bytesLess a.key k=true
  ·rw [zQ0 hk] at hn
   rw [if_pos hk,List.drop_succ_cons,List.filter_cons,if_neg (by rw [zT2 hk]; simp),zO7 h.tail hn]
  ·rw [zQ1 hk] at hn
   have e:a.key=k:=by simpa using hn
   rw [if_neg hk,List.drop_succ_cons,List.drop_zero,List.filter_cons,if_neg (by rw [e,zE3]; simp),ge_all h hk]
def putL (l:List It) (x:It):List It:=(l.filter fun y=>bytesLess y.key x.key)++x :: l.filter fun y=>bytesLess x.key y.key
def rmL (l:List It) (k:List UInt8):List It:=(l.filter fun y=>bytesLess y.key k)++l.filter fun y=>bytesLess k y.key
def fE (l:List It) (k:List UInt8):Option It:=l.find? fun x=>x.key == k
theorem set_at {l:List It} {k:List UInt8} {y:It} (h:Sorted l) (hi:isF l k=true) (hk:y.key=k):l.set (atF l k) y=putL l y:=by
 subst hk
 rw [List.set_eq_take_append_cons_drop,if_pos (zG7 hi),zV3 h,zO7 h hi]; rfl
theorem ins_at {l:List It} {k:List UInt8} {y:It} (h:Sorted l) (hi:isF l k=false) (hk:y.key=k):l.take (atF l k)++y :: l.drop (atF l k)=putL l y:=by
 subst hk
 rw [zV3 h,zQ4 h hi]; rfl
theorem del_at {l:List It} {k:List UInt8} (h:Sorted l) (hi:isF l k=true):l.eraseIdx (atF l k)=rmL l k:=by
 rw [List.eraseIdx_eq_take_drop_succ,zV3 h,zO7 h hi]; rfl
theorem rmL_eq:∀ {l:List It} {k:List UInt8},Sorted l→rmL l k=l.filter fun y=>!(y.key == k)
 | [],_,_=>rfl
 | a :: l,k,h=>by
  have ih:=rmL_eq (k:=k) h.tail
  unfold rmL at ih ⊢
  by_cases hk:bytesLess a.key k=true
  ·have hne:(a.key == k)=false:=by
    rw [beq_eq_false_iff_ne]; intro e; rw [e,zE3] at hk; cases hk
   rw [List.filter_cons,if_pos hk,List.filter_cons,if_neg (by rw [zT2 hk]; simp),List.filter_cons,if_pos (by rw [hne]; rfl),List.cons_append,ih]
  ·have hnil:(l.filter fun y=>bytesLess y.key k)=[]:=List.filter_eq_nil_iff.2 fun b hb hc=>hk (zH8 (h.head b hb) hc)
   rw [hnil,List.nil_append] at ih
   rw [List.filter_cons,if_neg hk,hnil,List.nil_append,List.filter_cons,List.filter_cons,← ih]
   by_cases he:bytesLess k a.key=true
   ·have hne:(a.key == k)=false:=by
     rw [beq_eq_false_iff_ne]; intro e; rw [e,zE3] at he; cases he
    rw [if_pos he,if_pos (by rw [hne]; rfl)]
   ·have e:=zL8 a.key k (by simpa using hk) (by simpa using he)
    rw [if_neg he,if_neg (by rw [e]; simp)]
theorem fE_is:∀ {l:List It} {k:List UInt8},Sorted l→isF l k=(fE l k).isSome
 | [],_,_=>rfl
 | a :: l,k,h=>by
  have ih:=fE_is (k:=k) h.tail
  unfold fE at ih ⊢
  rw [List.find?_cons]
  by_cases hk:bytesLess a.key k=true
  ·have hne:(a.key == k)=false:=by
    rw [beq_eq_false_iff_ne]; intro e; rw [e,zE3] at hk; cases hk
   rw [zQ0 hk,hne,ih]
  ·rw [zQ1 hk]
   cases hc:(a.key == k) with
   | true=>rfl
   | false =>
    symm
    rw [Option.isSome_eq_false_iff,Option.isNone_iff_eq_none,List.find?_eq_none]
    intro b hb hbk
    have e:b.key=k:=by simpa using hbk
    exact hk (e ▸ h.head b hb)
theorem fE_it {l:List It} {k:List UInt8} {x:It} (h:Sorted l) (hx:fE l k=some x):itF l (atF l k)=x:=by
 have hi:isF l k=true:=by rw [fE_is h,hx]; rfl
 obtain ⟨y,hy,hyk⟩:=isF_iff.1 hi
 rw [itF_of hy]
 have h1:=List.find?_some hx
 have hxk:x.key=k:=by simpa using h1
 obtain ⟨i,hi⟩:=List.mem_iff_getElem?.1 (List.mem_of_find?_eq_some hx)
 rcases Nat.lt_trichotomy (atF l k) i with hlt | heq | hgt
 ·have:=h.get hy hi hlt
  rw [hyk,hxk,zE3] at this; cases this
 ·rw [heq,hi] at hy; exact (Option.some.inj hy).symm
 ·have:=h.get hi hy hgt
  rw [hyk,hxk,zE3] at this; cases this
theorem fE_key {l:List It} {k:List UInt8} {x:It} (hx:fE l k=some x):x.key=k:=by
 have h1:=List.find?_some hx
 simpa using h1
theorem fE_mem {l:List It} {k:List UInt8} {x:It} (hx:fE l k=some x):x∈l:=List.mem_of_find?_eq_some hx
def tok (X:St) (x:It):It:={ x with cas:=IntKind.u64.wrap (X.cas+1) }
def zZ0 (X:St) (x:It):St:={ X with cas:=IntKind.u64.wrap (X.cas+1),items:=putL X.items (tok X x) }
theorem zV9 {X:St} {k:List UInt8} {x:It} (h:Sorted X.items) (hk:x.key=k):zJ4 X (atF X.items k) (isF X.items k) x=(zZ0 X x,tok X x):=by
 unfold zJ4 zZ0
 cases hi:isF X.items k with
 | true=>simp only [if_true]; rw [set_at h hi (by exact hk)]; rfl
 | false=>simp only [Bool.false_eq_true,if_false]; rw [ins_at h hi (by exact hk)]; rfl
def getK (X:St) (now:Int) (c:Cd):Option It→St × An
 | some x=>({ X with items:=putL X.items (gotF now c x) },⟨1,gotF now c x,0,winB now c x,x.stale,x.won⟩)
 | none=>if c.viv then (zZ0 X ⟨c.key,0,[],zF3 now c.vive,0,0,false,true⟩,⟨1,tok X ⟨c.key,0,[],zF3 now c.vive,0,0,false,true⟩,0,true,false,false⟩) else (X,zA7 5)
theorem zU7 {now:Int} {c:Cd} {x:It} {b:Bool} (h:c.mode=3∨c.mode=4→x.key=c.key):(zK1 now c x b).key=c.key:=by
 unfold zK1
 split
 ·rename_i hm; exact h (.inl hm)
 ·split
  ·rename_i hm; exact h (.inr hm)
  ·rfl
def fitK (X:St) (most:Int) (st:Int) (num:Int) (x:It):St × An:=if zD9 most x then (zZ0 X x,⟨st,tok X x,num,false,false,false⟩) else (X,zA7 11)
def stoK (X:St) (now:Int) (c:Cd) (most:Int):Option It→St × An
 | some x =>
  if c.mode=1 then (X,zA7 3)
  else if (zB3 c x && !(c.inval && decide (c.cas < x.cas)))=true then (X,zA7 4)
  else fitK X most 2 0 (zK1 now c x (zB3 c x))
 | none =>
  if 1 < c.mode then (X,zA7 3)
  else if c.hasCas then (X,zA7 5)
  else fitK X most 2 0 (zK1 now c It.zero false)
def mathK (X:St) (now:Int) (c:Cd) (most:Int):Option It→St × An
 | some x =>
  if zB3 c x then (X,zA7 4)
  else match (if c.down then subV x.val c.delta else addV x.val c.delta) with
   | none=>(X,zA7 7)
   | some v=>fitK X most 6 ((zD8 v).getD 0:Nat) { x with val:=v,exp:=if c.hasExp then zF3 now c.exp else x.exp }
 | none=>if c.viv then fitK X most 6 ((zD8 (decDigits c.init.toNat)).getD 0:Nat) ⟨c.key,0,decDigits c.init.toNat,zF3 now c.vive,0,0,false,false⟩ else (X,zA7 5)
def touchK (X:St) (now:Int) (c:Cd):Option It→St × An
 | some x=>({ X with items:=putL X.items { x with exp:=zF3 now c.exp } },⟨8,{ x with exp:=zF3 now c.exp },0,false,false,false⟩)
 | none=>(X,zA7 5)
def lookK (X:St):Option It→St × An
 | some x=>(X,⟨1,x,0,false,false,false⟩)
 | none=>(X,zA7 5)
def zV8 (X:St) (now:Int) (c:Cd):Option It→St × An
 | some x =>
  if zB3 c x then (X,zA7 4)
  else if c.inval then (zZ0 X (zX0 now c x),⟨9,tok X (zX0 now c x),0,false,false,false⟩)
  else ({ X with items:=rmL X.items c.key },zA7 9)
 | none=>(X,zA7 5)
def doK (X:St) (now:Int) (c:Cd) (most:Int) (o:Option It):St × An:=
 if c.op=1 then getK X now c o
 else if c.op=2 then stoK X now c most o
 else if c.op=3 then mathK X now c most o
 else if c.op=4 then touchK X now c o
 else if c.op=7 then lookK X o
 else if c.op=5 then zV8 X now c o
 else zI2 X now c
theorem numPut_eq {X:St} {k:List UInt8} {x:It} {most:Int} (h:Sorted X.items) (hk:x.key=k):zH0 X most (atF X.items k) (isF X.items k) x=fitK X most 6 ((zD8 x.val).getD 0:Nat) x:=by
 unfold zH0 fitK
 rw [zV9 h hk]
theorem doK_eq {X:St} {now:Int} {c:Cd} {most:Int} (h:Sorted X.items):doF X now c most (atF X.items c.key) (isF X.items c.key)=doK X now c most (fE X.items c.key):=by
 have hw:∀ x,fE X.items c.key=some x→isF X.items c.key=true∧itF X.items (atF X.items c.key)=x∧x.key=c.key:=fun x hx=>⟨by rw [fE_is h,hx]; rfl,fE_it h hx,fE_key hx⟩
 have hn:fE X.items c.key=none→isF X.items c.key=false:=fun hx=>by rw [fE_is h,hx]; rfl
 unfold doF doK
 by_cases h1:c.op=1
 ·rw [if_pos h1,if_pos h1]
  unfold getF
  cases hx:fE X.items c.key with
  | some x =>
   obtain ⟨e1,e2,e3⟩:=hw x hx
   rw [e1,if_pos rfl,e2,set_at h e1 (show (gotF now c x).key=c.key from e3)]
   rfl
  | none =>
   have e1:=hn hx
   have hp:=zV9 (X:=X) (k:=c.key) (x:=⟨c.key,0,[],zF3 now c.vive,0,0,false,true⟩) h rfl
   rw [e1] at hp ⊢
   rw [hp]; rfl
 rw [if_neg h1,if_neg h1]
 by_cases h2:c.op=2
 ·rw [if_pos h2,if_pos h2]
  unfold zA8
  cases hx:fE X.items c.key with
  | some x =>
   obtain ⟨e1,e2,e3⟩:=hw x hx
   have hp:=zV9 (X:=X) (k:=c.key) (x:=zK1 now c x (zB3 c x)) h (zU7 fun _=>e3)
   rw [e1] at hp ⊢
   simp only [e2,Bool.and_true,Bool.not_true,Bool.and_false,Bool.or_false,Bool.true_and,Bool.false_eq_true,if_false,decide_eq_true_eq,hp,stoK,fitK]
  | none =>
   have e1:=hn hx
   have hp:¬ (decide (1 < c.mode)=true)→zJ4 X (atF X.items c.key) (isF X.items c.key) (zK1 now c (itF X.items (atF X.items c.key)) false)=(zZ0 X (zK1 now c It.zero false),tok X (zK1 now c It.zero false)):=by
    intro hm
    have hm':¬ 1 < c.mode:=by simpa using hm
    have en:zK1 now c (itF X.items (atF X.items c.key)) false=zK1 now c It.zero false:=by
     unfold zK1; rw [if_neg (by omega),if_neg (by omega),if_neg (by omega),if_neg (by omega)]
    rw [en,zV9 h (zU7 fun hh=>by omega)]
   rw [e1] at hp ⊢
   simp only [Bool.and_false,Bool.not_false,Bool.and_true,Bool.false_or,Bool.false_and,Bool.false_eq_true,if_false,decide_eq_true_eq,stoK]
   by_cases hm:1 < c.mode
   ·rw [if_pos hm,if_pos hm]
   rw [if_neg hm,if_neg hm]
   have hp':=hp (by simpa using hm)
   have en:zK1 now c (itF X.items (atF X.items c.key)) false=zK1 now c It.zero false:=by
    unfold zK1; rw [if_neg (by omega),if_neg (by omega),if_neg (by omega),if_neg (by omega)]
   rw [hp',en]
   rfl
 rw [if_neg h2,if_neg h2]
 by_cases h3:c.op=3
 ·rw [if_pos h3,if_pos h3]
  unfold zD3
  cases hx:fE X.items c.key with
  | some x =>
   obtain ⟨e1,e2,e3⟩:=hw x hx
   have hp:=fun (v:List UInt8) (e:Int)=>numPut_eq (X:=X) (k:=c.key) (most:=most) (x:={ x with val:=v,exp:=e }) h e3
   rw [e1] at hp ⊢
   simp only [e2,if_true,mathK,hp]
   congr 1
  | none =>
   have e1:=hn hx
   have hp:=numPut_eq (X:=X) (k:=c.key) (most:=most) (x:=⟨c.key,0,decDigits c.init.toNat,zF3 now c.vive,0,0,false,false⟩) h rfl
   rw [e1] at hp ⊢
   simp only [Bool.false_eq_true,if_false,mathK,hp]
 rw [if_neg h3,if_neg h3]
 by_cases h4:c.op=4
 ·rw [if_pos h4,if_pos h4]
  unfold zV1
  cases hx:fE X.items c.key with
  | some x =>
   obtain ⟨e1,e2,e3⟩:=hw x hx
   rw [e1,if_pos rfl,e2,set_at h e1 (by exact e3)]
   rfl
  | none=>rw [hn hx]; rfl
 rw [if_neg h4,if_neg h4]
 by_cases h7:c.op=7
 ·rw [if_pos h7,if_pos h7]
  unfold lookF
  cases hx:fE X.items c.key with
  | some x=>obtain ⟨e1,e2,e3⟩:=hw x hx; rw [e1,if_pos rfl,e2]; rfl
  | none=>rw [hn hx]; rfl
 rw [if_neg h7,if_neg h7]
 by_cases h5:c.op=5
 ·rw [if_pos h5,if_pos h5]
  unfold zD1
  cases hx:fE X.items c.key with
  | some x =>
   obtain ⟨e1,e2,e3⟩:=hw x hx
   have hp:=zV9 (X:=X) (k:=c.key) (x:=zX0 now c x) h e3
   rw [e1] at hp ⊢
   simp only [e2,if_true,zV8,hp,del_at h e1]
  | none=>rw [hn hx]; rfl
 rw [if_neg h5,if_neg h5]
theorem zD6 {X:St} (now:Int) (h:Sorted X.items):Sorted (zB1 X now).items:=by
 unfold zB1
 split
 ·exact Sorted.nil
 ·exact h.filter _
theorem app_eq {X:St} {now:Int} {c:Cd} {most:Int} (h:Sorted X.items) (hm:zT0 c=true∧1≤now∧now≤1099511627776):zA9 X now c most=doK (zB1 X now) now c most (fE (zB1 X now).items c.key):=by
 unfold zA9
 rw [if_pos hm,doK_eq (zD6 now h)]
theorem mem_putL {l:List It} {x y:It} (h:y∈putL l x):y=x∨y∈l:=by
 unfold putL at h
 rw [List.mem_append,List.mem_cons] at h
 rcases h with h | h | h
 ·exact .inr (List.mem_filter.1 h).1
 ·exact .inl h
 ·exact .inr (List.mem_filter.1 h).1
theorem Sorted.putL {l:List It} (h:Sorted l) (x:It):Sorted (putL l x):=by
 unfold Proofs.YtfpeholdlkfmoaaGreatDoor.putL
 refine List.pairwise_append.2 ⟨h.filter _,List.pairwise_cons.2 ⟨fun b hb=>?_,h.filter _⟩,?_⟩
 ·simpa using (List.mem_filter.1 hb).2
 ·intro a ha b hb
  have h1:bytesLess a.key x.key=true:=by simpa using (List.mem_filter.1 ha).2
  rcases List.mem_cons.1 hb with rfl | hb
  ·exact h1
  ·exact zH8 h1 (by simpa using (List.mem_filter.1 hb).2)
theorem len_rmL {l:List It} {k:List UInt8} (h:Sorted l):(rmL l k).length≤l.length:=by rw [rmL_eq h]; exact List.length_filter_le _ _
theorem len_putL {l:List It} (h:Sorted l) (x:It):(putL l x).length≤l.length+1:=by
 have:=len_rmL (k:=x.key) h
 unfold rmL at this
 unfold putL
 simp only [List.length_append,List.length_cons] at this ⊢
 omega
theorem Sorted.rmL {l:List It} (h:Sorted l) (k:List UInt8):Sorted (rmL l k):=by rw [rmL_eq h]; exact h.filter _
structure Nice (most:Int) (n:Nat) (X:St):Prop where
 sorted:Sorted X.items
 len:X.items.length≤n
 bd:∀ x∈X.items,x.key.length≤250∧(x.val.length:Int)≤most∧-4398046511104≤x.exp∧x.exp≤4398046511104
theorem Nice.mono {most:Int} {n m:Nat} {X:St} (h:Nice most n X) (hm:n≤m):Nice most m X:=⟨h.sorted,Nat.le_trans h.len hm,h.bd⟩
theorem Nice.live {most:Int} {n:Nat} {X:St} (h:Nice most n X) (now:Int):Nice most n (zB1 X now):=by
 refine ⟨zD6 now h.sorted,?_,?_⟩
 ·unfold zB1; split
  ·exact Nat.zero_le _
  ·exact Nat.le_trans (List.length_filter_le _ _) h.len
 ·unfold zB1; split
  ·simp
  ·intro x hx; exact h.bd x (List.mem_filter.1 hx).1
theorem mom_near {now e:Int} (h:zF5 e=true) (h0:1≤now) (h1:now≤1099511627776):-4398046511104≤zF3 now e∧zF3 now e≤4398046511104:=by
 have:-1099511627776≤e∧e≤1099511627776:=by simpa [zF5] using h
 unfold zF3
 split
 ·omega
 ·split <;> omega
theorem zR2 {c:Cd} (h:zT0 c=true):(c.op=6∨keyB c.key=true)∧zF5 c.exp=true∧zF5 c.vive=true∧zF5 c.recache=true∧c.val.length≤65536∧1≤c.op∧c.op≤7:=by
 simp only [zT0,Bool.and_eq_true,Bool.or_eq_true,decide_eq_true_eq] at h
 obtain ⟨⟨⟨⟨⟨⟨q1,q2⟩,q3⟩,q4⟩,h1⟩,⟨h2,h3⟩,h4⟩,h5⟩:=h
 exact ⟨h5,h2,h3,h4,h1,q1,q2⟩
theorem key_lt {key:List UInt8} (h:keyB key=true):key.length≤250:=by
 simp only [keyB,Bool.and_eq_true,decide_eq_true_eq] at h; exact h.2
theorem Nice.put {most:Int} {n:Nat} {X:St} (h:Nice most n X) {x:It} {cas:Int} (hx:x.key.length≤250∧(x.val.length:Int)≤most∧-4398046511104≤x.exp∧x.exp≤4398046511104):Nice most (n+1) { X with cas:=cas,items:=putL X.items x }:=by
 refine ⟨h.sorted.putL x,Nat.le_trans (len_putL h.sorted x) (Nat.succ_le_succ h.len),?_⟩
 intro y hy
 rcases mem_putL hy with rfl | hy
 ·exact hx
 ·exact h.bd y hy
theorem Nice.fit {most:Int} {n:Nat} {X:St} (h:Nice most n X) {x:It} {st num:Int} (hx:x.key.length≤250∧-4398046511104≤x.exp∧x.exp≤4398046511104):Nice most (n+1) (fitK X most st num x).1:=by
 unfold fitK
 split
 ·rename_i hf
  refine Nice.put h ⟨hx.1,?_,hx.2⟩
  have:(x.key.length:Int)+(x.val.length:Int)≤most:=by simpa [zD9] using hf
  show (x.val.length:Int)≤most
  omega
 ·exact h.mono (Nat.le_succ _)
end Go.Proofs.YtfpeholdlkfmoaaGreatDoor
/- A walk through decided branches, which stops at open ones; lean where many guards stand in a row. -/
namespace Go.Proofs.YtfpeholdlkfmoaaGreatDoor
set_option linter.unusedSimpArgs false
set_option linter.unusedVariables false
open Go.RowKit
def VT (C:Cx) (ctr:Ctr) (rs:List ResultVar):Bool→Nat→List KI→Nat→List (Nat × SV)→List EN→Prop
 | false,_,k,nt,sl,en=>Run C k nt sl en
 | true,0,k,nt,sl,en=>Run C k nt sl en
 | true,_+1,[],nt,sl,en=>Run C [] nt sl en
 | true,n+1,.blk _ :: k,nt,sl,en=>VT C ctr rs true n k nt sl en
 | true,n+1,.ops _ [] :: k,nt,sl,en=>VT C ctr rs true n k nt (zJ C.kp sl) en
 | true,n+1,.ops all (⟨dst,op,ty,pos,af,none⟩ :: r) :: k,nt,sl,en =>
  qH C.P C.rd ctr nt (VT C ctr rs true n (.ops all r :: k) nt) (Run C (.ops all (⟨dst,op,ty,pos,af,none⟩ :: r) :: k) nt sl en) dst sl en op
 | true,n+1,.ops all (⟨dst,op,ty,pos,af,some (j,b)⟩ :: r) :: k,nt,sl,en =>
  match zD all j with
  | some ⟨some d,_,_,_,_,_⟩=>match qy sl d with
   | some (.c (.b x))=>match x,b with
    | true,true=>opG (x || !x) C.P C.rd ctr nt (VT C ctr rs (x || !x) n (.ops all r :: k) nt) (Run C (.ops all (⟨dst,op,ty,pos,af,some (j,b)⟩ :: r) :: k) nt sl en) dst sl en op
    | false,false=>opG (x || !x) C.P C.rd ctr nt (VT C ctr rs (x || !x) n (.ops all r :: k) nt) (Run C (.ops all (⟨dst,op,ty,pos,af,some (j,b)⟩ :: r) :: k) nt sl en) dst sl en op
    | true,false=>putG (x || !x) nt (VT C ctr rs (x || !x) n (.ops all r :: k) nt) (Run C (.ops all (⟨dst,op,ty,pos,af,some (j,b)⟩ :: r) :: k) nt sl en) dst (.c .u) sl en
    | false,true=>putG (x || !x) nt (VT C ctr rs (x || !x) n (.ops all r :: k) nt) (Run C (.ops all (⟨dst,op,ty,pos,af,some (j,b)⟩ :: r) :: k) nt sl en) dst (.c .u) sl en
   | some (.c .u)=>qI nt (VT C ctr rs true n (.ops all r :: k) nt) (Run C (.ops all (⟨dst,op,ty,pos,af,some (j,b)⟩ :: r) :: k) nt sl en) dst (.c .u) sl en
   | _=>Run C (.ops all (⟨dst,op,ty,pos,af,some (j,b)⟩ :: r) :: k) nt sl en
  | _=>Run C (.ops all (⟨dst,op,ty,pos,af,some (j,b)⟩ :: r) :: k) nt sl en
 | true,n+1,.code .skip :: k,nt,sl,en=>VT C ctr rs true n k nt sl en
 | true,n+1,.code (.seq a b) :: k,nt,sl,en=>VT C ctr rs true n (.code a :: .code b :: k) nt sl en
 | true,n+1,.code (.block id c) :: k,nt,sl,en=>VT C ctr rs true n (.code c :: .blk id :: k) nt sl en
 | true,n+1,.code (.exit id) :: k,nt,sl,en=>match zH id k with
  | some k'=>VT C ctr rs true n k' nt sl en
  | none=>Run C (.code (.exit id) :: k) nt sl en
 | true,n+1,.code (.cond c a b) :: k,nt,sl,en=>match ev sl c with
  | some (.c (.b x))=>match x with
   | true=>VT C ctr rs (x || !x) n (.code a :: k) nt sl en
   | false=>VT C ctr rs (x || !x) n (.code b :: k) nt sl en
  | _=>Run C (.code (.cond c a b) :: k) nt sl en
 | true,n+1,.code (.region _ ops false) :: k,nt,sl,en=>VT C ctr rs true n (.ops ops.toList ops.toList :: k) nt sl en
 | true,_+1,.code .ret :: k,nt,sl,en=>match qE C.P sl en rs with
  | some l=>Fin C rs (qG l) en
  | none=>Run C (.code .ret :: k) nt sl en
 | true,_+1,k,nt,sl,en=>Run C k nt sl en
section
variable {C:Cx} {ρ:Nat→RE} {nt:Nat} {sl:List (Nat × SV)} {en:List EN} {a:Act} {w:World}
variable {K:Act→World→Prop} {Q:Exit→Act→World→Prop}
theorem zB0 {ctr:Ctr} (hctr:zE4 C ctr) {rs:List ResultVar}:∀ (go:Bool) (n:Nat) (k:List KI) (sl:List (Nat × SV)) (en:List EN),VT C ctr rs go n k nt sl en→Run C k nt sl en
 | false,_,k,sl,en,h=>by simpa only [VT] using h
 | true,0,k,sl,en,h=>h
 | true,n+1,[],sl,en,h=>h
 | true,n+1,.blk id :: k,sl,en,h=>fun ρ a w hr=>zB0 hctr true n k sl en h ρ a w hr
 | true,n+1,.ops all [] :: k,sl,en,h=>fun ρ a w hr=>zB0 hctr true n k _ en h ρ a w (hr.trim _)
 | true,n+1,.ops all (⟨dst,op,ty,pos,af,none⟩ :: r) :: k,sl,en,h=>fun ρ a w hr=>by
  rcases zZ7 hctr (o:=⟨dst,op,ty,pos,af,none⟩) (K:=wpList C.P all.toArray (KQ C k) r) (Q:=KQ C k) h hr (fun sl' en' ρ' a' w' hk hr'=>zB0 hctr true n _ sl' en' hk ρ' a' w' hr') with hst | hwp
  ·exact hst ρ a w hr
  ·rw [zH9]
   unfold wpList
   rw [if_pos (by simp [Region.wanted])]
   exact .inl hwp
 | true,n+1,.ops all (⟨dst,op,ty,pos,af,some (j,b)⟩ :: r) :: k,sl,en,h=>fun ρ a w hr=>by
  have skip:∀ sl',Rep C ρ nt sl' en a w→Region.wanted ⟨dst,op,ty,pos,af,some (j,b)⟩ (yielded all.toArray a.tmps)=false →
    qI nt (VT C ctr rs true n (.ops all r :: k) nt) (Run C (.ops all (⟨dst,op,ty,pos,af,some (j,b)⟩ :: r) :: k) nt sl en) dst (.c .u) sl' en→KQ C (.ops all (⟨dst,op,ty,pos,af,some (j,b)⟩ :: r) :: k) .normal a w:=by
   intro sl' hr' hw hp
   rcases zN9 hp hr' (v:=.c .u) trivial with hst | ⟨sl'',hk,hr''⟩
   ·exact hst ρ a w hr
   ·rw [zH9]
    unfold wpList
    rw [if_neg (by rw [hw]; simp)]
    exact zB0 hctr true n _ sl'' en hk ρ _ w hr''
  simp only [VT] at h
  split at h <;> try exact h ρ a w hr
  rename_i d _ _ _ _ _ hj
  rw [zA5] at hj
  have hy:∀ v,a.tmps[d]?=some v→yielded all.toArray a.tmps j=(match v with | .bool b=>some b | _=>none):=by
   intro v hv
   simp only [yielded,List.getElem?_toArray,hj,Option.bind_some,hv]
   cases v <;> rfl
  split at h <;> try exact h ρ a w hr
  ·rename_i x hx
   have h1:=(hr.tm d _ hx).1
   have h2:=hy _ h1
   have go:∀ (hxb:x=b),qH C.P C.rd ctr nt (VT C ctr rs true n (.ops all r :: k) nt) (Run C (.ops all (⟨dst,op,ty,pos,af,some (j,b)⟩ :: r) :: k) nt sl en) dst sl en op→KQ C (.ops all (⟨dst,op,ty,pos,af,some (j,b)⟩ :: r) :: k) .normal a w:=by
    intro hxb ha
    subst hxb
    rcases zZ7 hctr (o:=⟨dst,op,ty,pos,af,some (j,x)⟩) (K:=wpList C.P all.toArray (KQ C k) r) (Q:=KQ C k) ha hr (fun sl' en' ρ' a' w' hk hr'=>zB0 hctr true n _ sl' en' hk ρ' a' w' hr') with hst | hwp
    ·exact hst ρ a w hr
    ·rw [zH9]
     unfold wpList
     rw [if_pos (by simp [Region.wanted,h2,SV.den,SC.den])]
     exact .inl hwp
   have no:∀ (hxb:x ≠ b),qI nt (VT C ctr rs true n (.ops all r :: k) nt) (Run C (.ops all (⟨dst,op,ty,pos,af,some (j,b)⟩ :: r) :: k) nt sl en) dst (.c .u) sl en→KQ C (.ops all (⟨dst,op,ty,pos,af,some (j,b)⟩ :: r) :: k) .normal a w:=by
    intro hxb hb
    refine skip _ hr ?_ hb
    simp [Region.wanted,h2,SV.den,SC.den]
    exact fun e=>hxb e
   cases x <;> cases b <;> simp only [Bool.not_true,Bool.not_false,Bool.or_true,Bool.or_false,opG,putG] at h
   ·exact go rfl h
   ·exact no (by decide) h
   ·exact no (by decide) h
   ·exact go rfl h
  ·rename_i hx
   have h1:=(hr.tm d _ hx).1
   have h2:=hy _ h1
   refine skip _ hr ?_ h
   simp [Region.wanted,h2,SV.den,SC.den,undef]
 | true,n+1,.code .skip :: k,sl,en,h=>fun ρ a w hr=>wp_skip (zB0 hctr true n k sl en h ρ a w hr)
 | true,n+1,.code (.seq x y) :: k,sl,en,h=>fun ρ a w hr=>wp_seq (zB0 hctr true n (.code x :: .code y :: k) sl en h ρ a w hr)
 | true,n+1,.code (.block id c) :: k,sl,en,h=>fun ρ a w hr=>wp_block (zB0 hctr true n (.code c :: .blk id :: k) sl en h ρ a w hr)
 | true,n+1,.code (.exit id) :: k,sl,en,h=>fun ρ a w hr=>by
  simp only [VT] at h
  split at h
  ·rename_i k' hk
   exact wp_exit (zT6 hk a w (zB0 hctr true n k' sl en h ρ a w hr))
  ·exact h ρ a w hr
 | true,n+1,.code (.cond c x y) :: k,sl,en,h=>fun ρ a w hr=>by
  simp only [VT] at h
  split at h <;> try exact h ρ a w hr
  rename_i t ht
  obtain ⟨e1,_⟩:=hr.ev_ok _ _ ht
  refine wp_cond (t:=t) e1 ?_
  cases t with
  | true=>exact zB0 hctr true n (.code x :: k) sl en h ρ a w hr
  | false=>exact zB0 hctr true n (.code y :: k) sl en h ρ a w hr
 | true,n+1,.code (.region id ops draw) :: k,sl,en,h=>fun ρ a w hr=>by
  cases draw with
  | true=>exact h ρ a w hr
  | false=>exact wp_region_list (zB0 hctr true n (.ops ops.toList ops.toList :: k) sl en h ρ a w hr)
 | true,n+1,.code (.loop c) :: k,sl,en,h=>h
 | true,n+1,.code (.rangeFunc _ _ _ _) :: k,sl,en,h=>h
 | true,n+1,.code (.scope _) :: k,sl,en,h=>h
 | true,n+1,.code (.label _) :: k,sl,en,h=>h
 | true,n+1,.code (.goto _) :: k,sl,en,h=>h
 | true,n+1,.code .ret :: k,sl,en,h=>fun ρ a w hr=>by
  simp only [VT] at h
  split at h
  ·rename_i l hl
   refine wp_ret (zS4 k a w (h ρ a w hr.hw hr.n0 ?_ hr.df fun fn hfn=>?_))
   ·exact resV_wf (hr.res _ _ hl).2
   ·subst hfn; exact (hr.resOk hl).1
  ·exact h ρ a w hr
 | true,n+1,.code (.refuse _) :: k,sl,en,h=>h
theorem jf (b:Bool):(true || b)=true:=rfl
theorem jg (b:Bool):(false || b)=b:=rfl
end
end Go.Proofs.YtfpeholdlkfmoaaGreatDoor
/- A walk that comes to a panic: an operation that panics, a call that does. -/
namespace Go.Proofs.YtfpeholdlkfmoaaGreatDoor
set_option linter.unusedSimpArgs false
set_option linter.unusedVariables false
open Go.RowKit
section
variable {C:Cx} {nt:Nat} {sl:List (Nat × SV)} {en:List EN} {k:List KI}
variable {dst:Option Nat} {op:Op} {ty:TypeId} {pos:String} {af:Array Edge} {all r:List Oper} {gd:Option (Nat × Bool)}
theorem zY6 {P:Program} {fn:Func} {R:Ending→World→Prop} {S:Nat→Prop} {w0:World} {ρ0:Nat→RE} {n0:Nat} {kp:List Nat} (hC:C=zL P fn R S w0 ρ0 n0 kp) {rs:List ResultVar} (hrs:fn.results.toList=rs) {v:SV}
  (h:∀ ρ w,Hw C ρ (· < en.length) en w→C.n0≤en.length→v.wf (· < en.length)→R (.returned (v.den ρ)) w):Fin C rs v en:=
 zK7 (P:=P) (R:=R) (by rw [hC]; exact zL1) hrs h
theorem zS1 {ι:Type} {c:Code} {k:List KI} (slF:ι→List (Nat × SV)) (enF:ι→List EN) (μ:ι→Nat) (x0:ι) (h0:sub (slF x0) sl) (he0:enF x0=en)
  (round:∀ (x:ι) (D:Cx),D.P=C.P→D.S=C.S→D.w0=C.w0→D.n0=C.n0→D.ρ0=C.ρ0→D.kp=C.kp→D.df=C.df→(∀ ch a w,C.Q (.panic ch) a w→D.Q (.panic ch) a w)→(∀ a w,C.Q .ret a w→D.Q .ret a w) →
   (∀ {id:Nat} {k' kk:List KI} {s:List (Nat × SV)} {e:List EN},zH id kk=none→zH id k=some k'→Run C k' nt s e→Run D (.code (.exit id) :: kk) nt s e) →
   (∀ y s,μ y < μ x→sub (slF y) s→Run D [] nt s (enF y))→Run D [.code c] nt (slF x) (enF x)):Run C (.code (.loop c) :: k) nt sl en:=
 Run_loop slF enF μ x0 h0 he0 fun x J hJ=>round x (lpC C k J) rfl rfl rfl rfl rfl rfl rfl (fun ch a w h=>zP1 k ch a w h) (fun a w h=>zS4 k a w h) (fun h1 h2 h3=>Run_lpExit h1 h2 h3) hJ
end
end Go.Proofs.YtfpeholdlkfmoaaGreatDoor
/- A walk of a function that defers a closure, and of a deferred function that recovers. -/
namespace Go.Proofs.YtfpeholdlkfmoaaGreatDoor
set_option linter.unusedSimpArgs false
set_option linter.unusedVariables false
open Go.RowKit
section
variable {P:Program} {C:Cx} {ρ:Nat→RE} {nt:Nat} {sl:List (Nat × SV)} {en:List EN} {a:Act} {w:World} {k:List KI}
variable {dst:Option Nat} {op:Op} {ty:TypeId} {pos:String} {af:Array Edge} {all r:List Oper} {gd:Option (Nat × Bool)}
theorem zI5 {C D:Cx} (hP:D.P=C.P) (hQ:D.Q=C.Q):∀ k:List KI,KQ D k=KQ C k
 | []=>hQ
 | .code c :: k=>by simp only [KQ]; rw [zI5 hP hQ k,hP]
 | .blk id :: k=>by simp only [KQ]; rw [zI5 hP hQ k]
 | .ops all r :: k=>by simp only [KQ]; rw [zI5 hP hQ k,hP]
theorem Run_ocall {f:FuncId} {args:Array Operand} {tys:Array TypeId} {xs:List SV} (hxs:qw sl args.toList=some xs) (hg:gdT all sl gd=true) (hent:∀ args w,(callFunc f args).run C.P w=.ok (.enter f args) w)
  (hc:∀ ρ a w,Rep C ρ nt sl en a w→(∀ x∈xs,x.wf (· < en.length))→Calls C.P f (xs.map (SV.den ρ)).toArray w fun e w'=>(∃ v,e=.returned v∧KQ C (.ops all r :: k) .normal (a.put dst v) w')∨∃ ch,e=.panicked ch∧C.Q (.panic ch) a w') :
  Run C (.ops all (⟨dst,.call ⟨.value (.func f),args,tys⟩,ty,pos,af,gd⟩ :: r) :: k) nt sl en:=by
 intro ρ a w hr
 obtain ⟨g1,g2⟩:=hr.evs_ok _ _ hxs
 have hargs:args.map a.eval=(xs.map (SV.den ρ)).toArray:=by apply Array.toList_inj.1; simpa using g1
 rw [zH9]
 unfold wpList
 rw [if_pos (gd_wanted hr hg)]
 left
 unfold Oper.wp
 have hx':(execOp a.eval ⟨dst,.call ⟨.value (.func f),args,tys⟩,ty,pos,af,gd⟩).run C.P w=.ok (.enter f (xs.map (SV.den ρ)).toArray) w:=by
  simp [execOp,resolve,Act.eval,Deferred.ofValue,invoke,hargs,hent]
 rw [hx']
 simp only [Oper.upon]
 refine (hc ρ a w hr g2).mono ?_
 rintro e w' (⟨v,rfl,h⟩ | ⟨ch,rfl,h⟩)
 ·rw [zH9] at h; exact h
 ·exact zP1 _ _ _ _ h
end
end Go.Proofs.YtfpeholdlkfmoaaGreatDoor
/- A loop whose invariant also says facts of the world: each round is walked from its very world. No program in sight. -/
namespace Go.Proofs.YtfpeholdlkfmoaaGreatDoor
set_option linter.unusedSimpArgs false
set_option linter.unusedVariables false
open Go.RowKit
section
variable {C D:Cx} {nt:Nat} {sl:List (Nat × SV)} {en:List EN} {k:List KI} {ρ:Nat→RE} {a:Act} {w:World}
structure Wt (df:List Deferred) (ρ:Nat→RE) (nt:Nat) (sl:List (Nat × SV)) (en:List EN) (a:Act) (w:World):Prop where
 hp:Hp ρ (· < en.length) en w
 ho:Ho ρ (· < en.length) en
 inj:Inj ρ (· < en.length) en
 tm:∀ d v,qy sl d=some v→a.tmps[d]?=some (v.den ρ)∧v.wf (· < en.length)
 sz:a.tmps.size=nt
 df:a.defers=df
def wrB (ρ:Nat→RE) (en:List EN) (b:Nat):Prop:=∃ c ty cells,zD en c=some ⟨ty,cells,true⟩∧(ρ c).blk=b
def cxW (C:Cx) (ρ:Nat→RE) (w:World) (en:List EN):Cx:=⟨C.P,C.Q,wrB ρ en,w,ρ,en.length,C.kp,C.df⟩
theorem Rep.wt (h:Rep C ρ nt sl en a w):Wt C.df ρ nt sl en a w:=⟨h.hw.hp,h.hw.ho,h.hw.inj,h.tm,h.sz,h.df⟩
theorem Wt.rep (h:Wt C.df ρ nt sl en a w):Rep (cxW C ρ w en) ρ nt sl en a w:=
 ⟨⟨h.hp,h.ho,h.inj,Upd.refl _ _,fun c ty cells _ he=>.inl ⟨c,ty,cells,he,rfl⟩,fun _ _=>rfl⟩,h.tm,h.sz,h.df,Nat.le_refl _⟩
theorem Ctx.cxW {P:Program} {fn:Func} {R:Ending→World→Prop} (h:Ctx C P fn R) (ρ:Nat→RE) (w:World) (en:List EN):Ctx (cxW C ρ w en) P fn R:=⟨h.p,h.ret,h.df⟩
structure SameQ (E D:Cx):Prop where
 P:E.P=D.P
 Q:E.Q=D.Q
 kp:E.kp=D.kp
 df:E.df=D.df
theorem SameQ.refl (D:Cx):SameQ D D:=⟨rfl,rfl,rfl,rfl⟩
theorem SameQ.cxW {E D:Cx} (h:SameQ E D) (ρ:Nat→RE) (w:World) (en:List EN):SameQ (cxW E ρ w en) D:=⟨h.P,h.Q,h.kp,h.df⟩
theorem Ctx.sameQ {E D:Cx} {P:Program} {fn:Func} {R:Ending→World→Prop} (h:Ctx D P fn R) (hE:SameQ E D):Ctx E P fn R:=⟨hE.P.trans h.p,fun a w hb=>by rw [hE.Q]; exact h.ret a w hb,hE.df.trans h.df⟩
theorem Run_W {M:Type} {I:M→(Nat→RE)→World→Prop} {sl':M→List (Nat × SV)} {en':M→List EN} (hI:∀ ρ a w,Rep C ρ nt sl en a w→∃ m ρ',Wt C.df ρ' nt (sl' m) (en' m) a w∧I m ρ' w)
  (h:∀ m ρ w,(∃ a,Wt C.df ρ nt (sl' m) (en' m) a w)→I m ρ w→Run (cxW C ρ w (en' m)) k nt (sl' m) (en' m)):Run C k nt sl en:=by
 intro ρ a w hr
 obtain ⟨m,ρ',h1,h2⟩:=hI ρ a w hr
 have:=h m ρ' w ⟨a,h1⟩ h2 ρ' a w h1.rep
 rwa [show KQ (cxW C ρ' w (en' m)) k=KQ C k from zI5 (C:=C) (D:=cxW C ρ' w (en' m)) rfl rfl k] at this
theorem Wt.pick {df:List Deferred} (h:Wt df ρ nt sl en a w) (ps:List Nat) {en':List EN} {sl':List (Nat × SV)} (hlen:en'.length=ps.length) (hnd:∀ i,i < ps.length→∀ j,j < ps.length→ps.getD i 0=ps.getD j 0→i=j)
  (he:∀ i t cells mu,zD en' i=some ⟨t,cells,mu⟩→∃ cells0,zD en (ps.getD i 0)=some ⟨t,cells0,mu⟩∧zC1 (fun i=>ρ (ps.getD i 0)) cells=zC1 ρ cells0∧wfs (· < en'.length) cells)
  (hs:∀ d v',qy sl' d=some v'→∃ v,qy sl d=some v∧v'.den (fun i=>ρ (ps.getD i 0))=v.den ρ∧v'.wf (· < en'.length)):Wt df (fun i=>ρ (ps.getD i 0)) nt sl' en' a w:=by
 have hlt:∀ {c e},zD en c=some e→c < en.length:=fun h=>by rw [zA5] at h; exact (List.getElem?_eq_some_iff.1 h).1
 have nil:∀ {r r':Nat→RE} {l l':List SC},zC1 r l=zC1 r' l'→l'=[]→l=[]:=fun h e=>by subst e; simpa [zC1] using h
 have hget:∀ i,i < en'.length→∃ e,zD en' i=some e:=fun i hi=>⟨_,by rw [zA5]; exact List.getElem?_eq_getElem hi⟩
 refine ⟨?_,?_,?_,?_,h.sz,h.df⟩
 ·intro i t cells mu _ hi
  obtain ⟨c0,h1,h2,h3⟩:=he i t cells mu hi
  have g:=h.hp _ t c0 mu (hlt h1) h1
  exact ⟨fun hl=>by rw [h2]; exact g.heap hl,h3,fun hd=>⟨nil h2 (g.dead hd).1,(g.dead hd).2⟩,fun hn=>nil h2 (g.non hn)⟩
 ·intro i t cells mu _ hi
  obtain ⟨c0,h1,_,_⟩:=he i t cells mu hi
  exact h.ho _ t c0 mu (hlt h1) h1
 ·intro i j hi hj h1 h2 h3
  have hi:i < en'.length:=hi
  have hj:j < en'.length:=hj
  obtain ⟨⟨ti,ci,mi⟩,ei⟩:=hget i hi
  obtain ⟨⟨tj,cj,mj⟩,ej⟩:=hget j hj
  obtain ⟨ci0,a1,_⟩:=he i ti ci mi ei
  obtain ⟨cj0,a2,_⟩:=he j tj cj mj ej
  have b1:=(zB4 ei).1 h1
  have b2:=(zB4 ej).1 h2
  have:=h.inj _ _ (hlt a1) (hlt a2) ((zB4 a1).2 b1) ((zB4 a2).2 b2) h3
  exact hnd i (by omega) j (by omega) this
 ·intro d v' hd
  obtain ⟨v,h1,h2,h3⟩:=hs d v' hd
  exact ⟨by rw [h2]; exact (h.tm d v h1).1,h3⟩
def pkS (ρ ρ':Nat→RE) (n:Nat) (sl:List (Nat × SV)):List (Nat × SV)→Prop
 | []=>True
 | (d,v') :: r=>(∃ v,qy sl d=some v∧v'.den ρ'=v.den ρ∧v'.wf (· < n))∧pkS ρ ρ' n sl r
theorem zM7 {ρ ρ':Nat→RE} {n:Nat} {sl:List (Nat × SV)}:∀ {s:List (Nat × SV)},pkS ρ ρ' n sl s→∀ d v',qy s d=some v'→∃ v,qy sl d=some v∧v'.den ρ'=v.den ρ∧v'.wf (· < n)
 | [],_,d,v,h=>by simp [qy] at h
 | (e,u) :: s,hs,d,v,h=>by
  simp only [qy] at h
  split at h
  ·rename_i e'; subst e'; simp only [Option.some.injEq] at h; subst h; exact hs.1
  ·exact zM7 hs.2 d v h
theorem Wt.re {df:List Deferred} {ρ':Nat→RE} {N b:Nat} (h:Wt df ρ nt sl en a w) (hne:∀ c,c ≠ N→ρ' c=ρ c) (hN:(ρ N).nl ≠ none) (hN':ρ' N={ ρ N with blk:=b }) (hty:∀ t cells mu,zD en N=some ⟨t,cells,mu⟩→t.2.2 (ρ N)→t.2.2 (ρ' N))
  (hs:∀ d v,qy sl d=some v→v.den ρ'=v.den ρ) (he:∀ c t cells mu,zD en c=some ⟨t,cells,mu⟩→zC1 ρ' cells=zC1 ρ cells):Wt df ρ' nt sl en a w:=by
 have hnl:(ρ' N).nl=(ρ N).nl:=by rw [hN']
 have hpre:(ρ' N).pre=(ρ N).pre:=by rw [hN']
 have hlv:∀ c,zE7 (ρ' c) (zD en c)=false→c ≠ N∧zE7 (ρ c) (zD en c)=false:=by
  intro c hc
  by_cases e:c=N
  ·subst e
   exfalso
   cases hx:zD en c with
   | none=>rw [hx] at hc; simp [zE7] at hc
   | some x =>
    obtain ⟨t,cs,m⟩:=x
    have:=((zB4 hx).1 hc).2
    rw [hnl] at this
    exact hN this
  ·rw [hne c e] at hc; exact ⟨e,hc⟩
 refine ⟨?_,?_,?_,?_,h.sz,h.df⟩
 ·intro c t cells mu hc hx
  have g:=h.hp c t cells mu hc hx
  by_cases e:c=N
  ·subst e
   exact ⟨fun hl=>absurd hl.2 (by rw [hnl]; exact hN),g.wf,g.dead,fun _=>g.non hN⟩
  ·refine ⟨fun hl=>?_,g.wf,g.dead,by rw [hne c e]; exact g.non⟩
   rw [hne c e] at hl ⊢
   rw [he c t cells mu hx]
   exact g.heap hl
 ·intro c t cells mu hc hx
  obtain ⟨g1,g2⟩:=h.ho c t cells mu hc hx
  by_cases e:c=N
  ·subst e
   exact ⟨by rw [hpre]; exact g1,hty t cells mu hx g2⟩
  ·rw [hne c e]; exact ⟨g1,g2⟩
 ·intro c d hc hd h1 h2 h3
  obtain ⟨e1,l1⟩:=hlv c h1
  obtain ⟨e2,l2⟩:=hlv d h2
  rw [hne c e1,hne d e2] at h3
  exact h.inj c d hc hd l1 l2 h3
 ·intro d v hd
  obtain ⟨g1,g2⟩:=h.tm d v hd
  exact ⟨by rw [hs d v hd]; exact g1,g2⟩
theorem Run_loopW {ι κ:Type} {c:Code} {k k':List KI} (id:Nat) (slF:ι→List (Nat × SV)) (enF:ι→List EN) (I:ι→(Nat→RE)→World→Prop) (μ:ι→Nat) (x0:ι)
  (slX:κ→List (Nat × SV)) (enX:κ→List EN) (IX:κ→(Nat→RE)→World→Prop) (hid:zH id k=some k')
  (h0:∀ ρ a w,Rep C ρ nt sl en a w→∃ ρ',Wt C.df ρ' nt (slF x0) (enF x0) a w∧I x0 ρ' w)
  (rest:∀ y ρ w,(∃ a,Wt C.df ρ nt (slX y) (enX y) a w)→IX y ρ w→Run (cxW C ρ w (enX y)) k' nt (slX y) (enX y))
  (round:∀ (x:ι) (D:Cx) (ρ:Nat→RE) (w:World),D.P=C.P→D.S=wrB ρ (enF x)→D.w0=w→D.n0=(enF x).length→D.ρ0=ρ→D.kp=C.kp→D.df=C.df→(∀ ch a w,C.Q (.panic ch) a w→D.Q (.panic ch) a w)→(∀ a w,C.Q .ret a w→D.Q .ret a w)→(∃ a,Wt C.df ρ nt (slF x) (enF x) a w)→I x ρ w →
   (∀ (E:Cx) (_:SameQ E D) (y:κ) {kk:List KI} {s:List (Nat × SV)} {e:List EN},zH id kk=none→(∀ ρ' a w',Rep E ρ' nt s e a w'→∃ ρ'',Wt C.df ρ'' nt (slX y) (enX y) a w'∧IX y ρ'' w')→Run E (.code (.exit id) :: kk) nt s e) →
   (∀ (E:Cx) (_:SameQ E D) (y:ι) {s:List (Nat × SV)} {e:List EN},μ y < μ x→(∀ ρ' a w',Rep E ρ' nt s e a w'→∃ ρ'',Wt C.df ρ'' nt (slF y) (enF y) a w'∧I y ρ'' w')→Run E [] nt s e) →
   Run D [.code c] nt (slF x) (enF x)):Run C (.code (.loop c) :: k) nt sl en:=by
 intro ρ a w hr
 obtain ⟨ρ0,g1,g2⟩:=h0 ρ a w hr
 refine wp_loop_ghost (fun n a w=>∃ x ρ,μ x=n∧Wt C.df ρ nt (slF x) (enF x) a w∧I x ρ w) (μ x0) ⟨x0,ρ0,rfl,g1,g2⟩ ?_
 rintro n a w ⟨x,ρ,rfl,hx,hI⟩
 have hrep:=hx.rep (C:=C)
 have key:Run (lpC (cxW C ρ w (enF x)) k (fun a' w'=>∃ n',n' < μ x∧∃ y ρ,μ y=n'∧Wt C.df ρ nt (slF y) (enF y) a' w'∧I y ρ w')) [.code c] nt (slF x) (enF x):=by
  refine round x _ ρ w rfl rfl rfl rfl rfl rfl rfl (fun ch a w h=>zP1 k ch a w h) (fun a w h=>zS4 k a w h) ⟨a,hx⟩ hI ?_ ?_
  ·intro E hE y kk s e hkk hy ρ' a' w' hr'
   refine wp_exit (zY5 kk a' w' hkk ?_)
   rw [hE.Q]
   have hko:=zT6 (C:=cxW C ρ w (enF x)) hid a' w'
   refine hko ?_
   obtain ⟨ρ'',q1,q2⟩:=hy ρ' a' w' hr'
   have:=rest y ρ'' w' ⟨a',q1⟩ q2 ρ'' a' w' (Wt.rep (C:=C) q1)
   rw [show KQ (cxW C ρ'' w' (enX y)) k'=KQ C k' from zI5 (C:=C) (D:=cxW C ρ'' w' (enX y)) rfl rfl k'] at this
   rwa [show KQ (cxW C ρ w (enF x)) k'=KQ C k' from zI5 (C:=C) (D:=cxW C ρ w (enF x)) rfl rfl k']
  ·intro E hE y s e hy h' ρ' a' w' hr'
   obtain ⟨ρ'',q1,q2⟩:=h' ρ' a' w' hr'
   show E.Q _ _ _
   rw [hE.Q]
   exact ⟨μ y,hy,y,ρ'',rfl,q1,q2⟩
 have h:c.wp C.P (Exit.then (fun a' w'=>∃ n',n' < μ x∧∃ y ρ,μ y=n'∧Wt C.df ρ nt (slF y) (enF y) a' w'∧I y ρ w') (KQ (cxW C ρ w (enF x)) k)) a w:=key ρ a w (hrep.toC rfl rfl rfl rfl rfl)
 rw [show KQ (cxW C ρ w (enF x)) k=KQ C k from zI5 (C:=C) (D:=cxW C ρ w (enF x)) rfl rfl k] at h
 exact h
end
end Go.Proofs.YtfpeholdlkfmoaaGreatDoor
/- A map of integers to pairs of integers in memory: what a look-up and an update do. No program in sight. -/
namespace Go.Proofs.YtfpeholdlkfmoaaGreatDoor
set_option linter.unusedSimpArgs false
set_option linter.unusedVariables false
open Go.RowKit Go.Instr Go.ChangeMaps Go.WideAt
def tnV (x:Int × Int):Value:=.agg #[.int .i64 x.1,.int .i64 x.2]
def Ent:List MapEntry→List (Int × (Int × Int))→Prop
 | [],[]=>True
 | e :: es,x :: ks=>e.key=.int .i64 x.1∧e.val=tnV x.2∧Ent es ks
 | _,_=>False
def zQ7:List (Int × (Int × Int))→Int→Option (Nat × (Int × Int))
 | [],_=>none
 | x :: ks,c=>if x.1=c then some (0,x.2) else (zQ7 ks c).map fun y=>(y.1+1,y.2)
def zJ0 (f:Int→Option (Int × Int)) (c:Int) (v:Int × Int):Int→Option (Int × Int):=fun d=>if d=c then some v else f d
def MapAt (w:World) (b:Nat) (f:Int→Option (Int × Int)):Prop:=∃ es clock ks,w.heap[b]?=some (.map es clock)∧Ent es.toList ks∧∀ c,(zQ7 ks c).map (·.2)=f c
theorem Ent.at:∀ {es:List MapEntry} {ks:List (Int × (Int × Int))},Ent es ks→∀ (c:Int) (i:Nat),findNow (.int .i64) (.int .i64 c) es i=some ((zQ7 ks c).map fun y=>(i+y.1,tnV y.2))
 | [],[],_,c,i=>rfl
 | e :: es,x :: ks,h,c,i=>by
  obtain ⟨h1,h2,h3⟩:=h
  unfold findNow zQ7
  rw [h1]
  simp only [sameNow,if_true]
  by_cases hc:x.1=c
  ·subst hc
   simp [h2]
  ·rw [if_neg hc]
   have:(c == x.1)=false:=by rw [beq_eq_false_iff_ne]; exact fun h=>hc h.symm
   rw [this]
   simp only
   rw [h3.at c (i+1)]
   cases zQ7 ks c with
   | none=>rfl
   | some y=>simp; omega
 | [],_ :: _,h,_,_=>h.elim
 | _ :: _,[],h,_,_=>h.elim
theorem Ent.get:∀ {es:List MapEntry} {ks:List (Int × (Int × Int))},Ent es ks→∀ {c:Int} {j:Nat} {v:Int × Int},zQ7 ks c=some (j,v)→∃ e,es[j]?=some e∧e.key=.int .i64 c∧e.val=tnV v
 | [],[],_,c,j,v,h=>by simp [zQ7] at h
 | e :: es,x :: ks,h,c,j,v,hj=>by
  obtain ⟨h1,h2,h3⟩:=h
  unfold zQ7 at hj
  split at hj
  ·rename_i hc
   simp only [Option.some.injEq,Prod.mk.injEq] at hj
   obtain ⟨rfl,rfl⟩:=hj
   exact ⟨e,rfl,by rw [h1,hc],h2⟩
  ·cases hx:zQ7 ks c with
   | none=>rw [hx] at hj; cases hj
   | some y =>
    rw [hx] at hj
    simp only [Option.map_some,Option.some.injEq,Prod.mk.injEq] at hj
    obtain ⟨rfl,rfl⟩:=hj
    obtain ⟨e',g1,g2,g3⟩:=h3.get (j:=y.1) (v:=y.2) hx
    exact ⟨e',by simpa using g1,g2,g3⟩
 | [],_ :: _,h,_,_,_,_=>h.elim
 | _ :: _,[],h,_,_,_,_=>h.elim
theorem Ent.set:∀ {es:List MapEntry} {ks:List (Int × (Int × Int))},Ent es ks→∀ {c:Int} {j:Nat} {v v':Int × Int} {e':MapEntry},zQ7 ks c=some (j,v)→e'.key=.int .i64 c→e'.val=tnV v'→∃ ks',Ent (es.set j e') ks'∧∀ d,(zQ7 ks' d).map (·.2)=zJ0 (fun d=>(zQ7 ks d).map (·.2)) c v' d
 | [],[],_,c,j,v,v',e',h,_,_=>by simp [zQ7] at h
 | e :: es,x :: ks,h,c,j,v,v',e',hj,k1,k2=>by
  obtain ⟨h1,h2,h3⟩:=h
  unfold zQ7 at hj
  split at hj
  ·rename_i hc
   simp only [Option.some.injEq,Prod.mk.injEq] at hj
   obtain ⟨rfl,rfl⟩:=hj
   refine ⟨(c,v') :: ks,⟨k1,k2,h3⟩,fun d=>?_⟩
   unfold zJ0
   simp only [zQ7]
   by_cases hd:d=c
   ·subst hd; simp
   ·rw [if_neg (fun h=>hd h.symm),if_neg hd,hc,if_neg (fun h=>hd h.symm)]
  ·rename_i hc
   cases hx:zQ7 ks c with
   | none=>rw [hx] at hj; cases hj
   | some y =>
    rw [hx] at hj
    simp only [Option.map_some,Option.some.injEq,Prod.mk.injEq] at hj
    obtain ⟨rfl,rfl⟩:=hj
    obtain ⟨ks',g1,g2⟩:=h3.set (j:=y.1) (v:=y.2) (v':=v') hx k1 k2
    refine ⟨x :: ks',⟨h1,h2,g1⟩,fun d=>?_⟩
    have g:=g2 d
    unfold zJ0 at g ⊢
    simp only [zQ7]
    by_cases hd:x.1=d
    ·rw [if_pos hd,if_pos hd]
     rw [if_neg (show ¬ d=c by rw [← hd]; exact hc)]
    ·rw [if_neg hd,if_neg hd]
     simp only [Option.map_map]
     have e1:((fun x:Nat × (Int × Int)=>x.2) ∘ fun y:Nat × (Int × Int)=>(y.1+1,y.2))=fun x=>x.2:=rfl
     rw [e1]
     exact g
 | [],_ :: _,h,_,_,_,_,_,_,_,_=>h.elim
 | _ :: _,[],h,_,_,_,_,_,_,_,_=>h.elim
theorem Ent.push:∀ {es:List MapEntry} {ks:List (Int × (Int × Int))},Ent es ks→∀ {c:Int} {v':Int × Int} {e':MapEntry},zQ7 ks c=none→e'.key=.int .i64 c→e'.val=tnV v'→∃ ks',Ent (es++[e']) ks'∧∀ d,(zQ7 ks' d).map (·.2)=zJ0 (fun d=>(zQ7 ks d).map (·.2)) c v' d
 | [],[],_,c,v',e',_,k1,k2=>by
  refine ⟨[(c,v')],⟨k1,k2,trivial⟩,fun d=>?_⟩
  unfold zJ0
  simp only [zQ7]
  by_cases hd:d=c
  ·subst hd; simp
  ·rw [if_neg (fun h=>hd h.symm),if_neg hd]; rfl
 | e :: es,x :: ks,h,c,v',e',hj,k1,k2=>by
  obtain ⟨h1,h2,h3⟩:=h
  unfold zQ7 at hj
  split at hj
  ·cases hj
  rename_i hc
  have hx:zQ7 ks c=none:=by
   cases hx:zQ7 ks c with
   | none=>rfl
   | some y=>rw [hx] at hj; cases hj
  obtain ⟨ks',g1,g2⟩:=h3.push (v':=v') hx k1 k2
  refine ⟨x :: ks',⟨h1,h2,g1⟩,fun d=>?_⟩
  have g:=g2 d
  unfold zJ0 at g ⊢
  simp only [zQ7]
  by_cases hd:x.1=d
  ·rw [if_pos hd,if_pos hd]
   rw [if_neg (show ¬ d=c by rw [← hd]; exact hc)]
  ·rw [if_neg hd,if_neg hd]
   simp only [Option.map_map]
   have e1:((fun x:Nat × (Int × Int)=>x.2) ∘ fun y:Nat × (Int × Int)=>(y.1+1,y.2))=fun x=>x.2:=rfl
   rw [e1]
   exact g
 | [],_ :: _,h,_,_,_,_,_,_=>h.elim
 | _ :: _,[],h,_,_,_,_,_,_=>h.elim
section
variable {P:Program} {w:World} {t kt e:TypeId} {b:Nat} {f:Int→Option (Int × Int)}
theorem zM6 (hk:P.underlying kt=some (.int .i64)) {es:List MapEntry} {ks:List (Int × (Int × Int))} (h:Ent es ks) (c:Int):(findKey kt (.int .i64 c) es).run P w=.ok ((zQ7 ks c).map fun y=>(y.1,tnV y.2)) w:=by
 have:=h.at c 0
 simp only [Nat.zero_add] at this
 simp [findKey,run_underlying hk,this]
theorem zK9 (hk:P.underlying kt=some (.int .i64)) (em:Bool) (c:Int):(checkKey em 10000 kt (.int .i64 c)).run P w=.ok () w:=by
 show (checkKey em (9999+1) kt (.int .i64 c)).run P w=.ok () w
 rw [checkKey]
 simp [run_underlying hk]
theorem MapAt.look (h:MapAt w b f) (ht:P.underlying t=some (.map kt e)) (hk:P.underlying kt=some (.int .i64)) (hz:(zeroValue e).run P w=.ok (tnV (0,0)) w) (c:Int) :
  (Instr.lookup t (.map (some b)) (.int .i64 c) true).run P w=.ok (.tuple #[tnV ((f c).getD (0,0)),.bool (f c).isSome]) w:=by
 obtain ⟨es,clock,ks,hb,hE,hf⟩:=h
 rw [← hf c]
 cases hx:zQ7 ks c with
 | none=>simp [Instr.lookup,run_underlying ht,MapKept.run_getObj_map hb,zK9 hk,zM6 hk hE,hx,hz,Result.andThen]
 | some y=>simp [Instr.lookup,run_underlying ht,MapKept.run_getObj_map hb,zK9 hk,zM6 hk hE,hx,Result.andThen]
theorem MapAt.put (h:MapAt w b f) (ht:P.underlying t=some (.map kt e)) (hk:P.underlying kt=some (.int .i64)) (c:Int) (v:Int × Int) :
  ∃ o,(Instr.mapUpdate t (.map (some b)) (.int .i64 c) (tnV v)).run P w=.ok () (setBlock w b o)∧MapAt (setBlock w b o) b (zJ0 f c v):=by
 obtain ⟨es,clock,ks,hb,hE,hf⟩:=h
 have hff:(fun d=>(zQ7 ks d).map (·.2))=f:=funext hf
 cases hx:zQ7 ks c with
 | none =>
  obtain ⟨ks',g1,g2⟩:=hE.push (e':=⟨.int .i64 c,tnV v,clock⟩) (v':=v) hx rfl rfl
  rw [hff] at g2
  refine ⟨.map (es.push ⟨.int .i64 c,tnV v,clock⟩) (clock+1),?_,_,_,ks',heap_setBlock_same hb _,by simpa using g1,g2⟩
  simp [Instr.mapUpdate,run_underlying ht,MapKept.run_getObj_map hb,zK9 hk,zM6 hk hE,hx,MapKept.run_setObj_map _ hb,Result.andThen,setBlock]
 | some y =>
  obtain ⟨j,v0⟩:=y
  obtain ⟨e0,q1,q2,q3⟩:=hE.get hx
  have hj:es[j]?=some e0:=by simpa using q1
  obtain ⟨ks',g1,g2⟩:=hE.set (e':={ e0 with key:=.int .i64 c,val:=tnV v }) (v':=v) hx rfl rfl
  rw [hff] at g2
  have hst:(keyThatStays (.int .i64 c) (.int .i64 c)).run P w=.ok (.int .i64 c) w:=by simp [keyThatStays,sameBits]
  refine ⟨.map (es.modify j fun e'=>{ e' with key:=.int .i64 c,val:=tnV v }) clock,?_,_,_,ks',heap_setBlock_same hb _,?_,g2⟩
  ·simp [Instr.mapUpdate,run_underlying ht,MapKept.run_getObj_map hb,zK9 hk,zM6 hk hE,hx,hj,q2,hst,MapKept.run_setObj_map _ hb,Result.andThen,setBlock]
  ·have hlist:(es.modify j fun e'=>{ e' with key:=.int .i64 c,val:=tnV v }).toList=es.toList.set j { e0 with key:=.int .i64 c,val:=tnV v }:=by rw [Array.toList_modify,modify_eq_set _ _ _ _ q1]
   rw [hlist]; exact g1
end
end Go.Proofs.YtfpeholdlkfmoaaGreatDoor
/- What audit computes: plain functions. No program in sight. -/
namespace Go.Proofs.YtfpeholdlkfmoaaGreatDoor
set_option linter.unusedSimpArgs false
set_option linter.unusedVariables false
open Go.RowKit
structure Ev where
 kind:Int
 now:Int
 conn:Int
 seq:Int
 idx:Int
 cmd:Cd
 ans:An
 lost:List (List UInt8)
def noMem:An:=zA7 12
def eqAn (a b:An):Bool:=qM (anS a) (anS b)
def zQ5 (X:St) (k:List UInt8):Option St:=if isF X.items k then some { X with items:=X.items.eraseIdx (atF X.items k) } else none
def zF8:St→List (List UInt8)→Option St
 | X,[]=>some X
 | X,k :: ks=>match zQ5 X k with
  | some Y=>zF8 Y ks
  | none=>none
structure Au where
 X:St
 now:Int
 tn:Int→Option (Int × Int)
 most:Int
def zP9 (tn:Int→Option (Int × Int)) (e:Ev):Bool:=
 if e.conn < 0 then false
 else if e.seq < 1 then false
 else if (!(tn e.conn).isSome || decide (((tn e.conn).getD (0,0)).1 < e.seq))=true then e.idx == 0
 else (e.seq == ((tn e.conn).getD (0,0)).1 && decide (((tn e.conn).getD (0,0)).2 < e.idx)) && (IntKind.i64.wrap (e.idx - 1) == ((tn e.conn).getD (0,0)).2)
def zK2 (c:Cd) (st:Int):Bool:=if st=1 then c.op == 1 && c.viv else if st=2 then c.op == 2 else if st=6 then c.op == 3 else false
def zD7 (W:Au) (e:Ev):Option Au:=
 if e.now < W.now then none
 else if 1099511627776 < e.now then none
 else match zF8 (zB1 W.X e.now) e.lost with
  | none=>none
  | some s =>
   if e.kind=2 then (if e.lost.length=1 then some { W with X:=s,now:=e.now } else none)
   else if e.kind=1 then
    (if zP9 W.tn e=false then none
     else if e.ans.st=0 then none
     else if eqAn e.ans noMem=true then (if zK2 e.cmd (zA9 s e.now e.cmd W.most).2.st=true then some ⟨s,e.now,zJ0 W.tn e.conn (e.seq,e.idx),W.most⟩ else none)
     else if eqAn e.ans (zA9 s e.now e.cmd W.most).2=true then some ⟨(zA9 s e.now e.cmd W.most).1,e.now,zJ0 W.tn e.conn (e.seq,e.idx),W.most⟩ else none)
   else none
def zH7:Au→List Ev→Nat→Au × Int
 | W,[],_=>(W,-1)
 | W,e :: r,i=>match zD7 W e with
  | some W'=>zH7 W' r (i+1)
  | none=>(W,(i:Int))
def au0 (most:Int):Au:=⟨St.zero,1,fun _=>none,most⟩
theorem dropF_sub {X Y:St} {k:List UInt8} (h:zQ5 X k=some Y):(∀ x∈Y.items,x∈X.items)∧Y.items.length≤X.items.length∧Y.cas=X.cas∧Y.flush=X.flush∧(Sorted X.items→Sorted Y.items):=by
 unfold zQ5 at h
 split at h
 ·simp only [Option.some.injEq] at h
  subst h
  exact ⟨fun x hx=>(List.eraseIdx_sublist _ _).subset hx,(List.eraseIdx_sublist _ _).length_le,rfl,rfl,fun hs=>hs.erase _⟩
 ·cases h
theorem zO6:∀ {ks:List (List UInt8)} {X Y:St},zF8 X ks=some Y→(∀ x∈Y.items,x∈X.items)∧Y.items.length≤X.items.length∧Y.cas=X.cas∧Y.flush=X.flush∧(Sorted X.items→Sorted Y.items)
 | [],X,Y,h=>by
  simp only [zF8,Option.some.injEq] at h
  subst h
  exact ⟨fun x hx=>hx,Nat.le_refl _,rfl,rfl,fun hs=>hs⟩
 | k :: ks,X,Y,h=>by
  unfold zF8 at h
  split at h
  ·rename_i Z hZ
   obtain ⟨a1,a2,a3,a4,a5⟩:=dropF_sub hZ
   obtain ⟨b1,b2,b3,b4,b5⟩:=zO6 h
   exact ⟨fun x hx=>a1 x (b1 x hx),Nat.le_trans b2 a2,b3.trans a3,b4.trans a4,fun hs=>b5 (a5 hs)⟩
  ·cases h
end Go.Proofs.YtfpeholdlkfmoaaGreatDoor
/- What the document's answer (ambryref16.Apply) computes, and that it is what the model computes. No program in sight. -/
namespace Go.Proofs.YtfpeholdlkfmoaaGreatDoor
set_option linter.unusedSimpArgs false
set_option linter.unusedVariables false
open Go.Lib Go.Op
def zY7 (now e:Int):Int:=if e=0 then 0 else if e < 0 then now else if e≤2592000 then now+e else e
theorem zL4 (now e:Int):zY7 now e=zF3 now e:=by
 unfold zY7 zF3
 repeat' split
 all_goals omega
def rPut (X:St) (x:It):St:={ X with items:=X.items.take (atF X.items x.key)++x :: X.items.drop (if isF X.items x.key then atF X.items x.key+1 else atF X.items x.key) }
theorem zS8 {X:St} {x:It} (h:Sorted X.items):rPut X x={ X with items:=putL X.items x }:=by
 unfold rPut putL
 rw [zV3 h]
 cases hi:isF X.items x.key with
 | true=>rw [if_pos rfl,zO7 h hi]
 | false=>rw [if_neg (by simp),zQ4 h hi]
def nx (X:St):Int:=IntKind.u64.wrap (X.cas+1)
def rGot (now:Int) (c:Cd) (x:It):It:={ x with won:=x.won || winB now c x,exp:=if c.hasExp then zY7 now c.exp else x.exp,last:=now }
def rNewI (now:Int) (c:Cd) (X:St):It:=⟨c.key,0,[],zY7 now c.vive,nx X,0,false,true⟩
def rGet (X:St) (now:Int) (c:Cd) (x:It) (is:Bool):St × An:=
 if (!is && !c.viv)=true then (X,zA7 5)
 else if (!is)=true then (rPut { X with cas:=nx X } (rNewI now c X),⟨1,rNewI now c X,0,true,false,false⟩)
 else (rPut X (rGot now c x),⟨1,rGot now c x,0,winB now c x,x.stale,x.won⟩)
def rNew (now:Int) (c:Cd) (x:It) (stale:Bool):It:=
 if c.mode=3 then { x with val:=x.val++c.val,stale:=stale,won:=false }
 else if c.mode=4 then { x with val:=c.val++x.val,stale:=stale,won:=false }
 else ⟨c.key,c.flags,c.val,zY7 now c.exp,0,0,stale,false⟩
def rFit (X:St) (most st num:Int) (y:It):St × An:=
 if most < (y.key.length:Int)+(y.val.length:Int) then (X,zA7 11)
 else (rPut { X with cas:=nx X } { y with cas:=nx X },⟨st,{ y with cas:=nx X },num,false,false,false⟩)
def zT9 (X:St) (now:Int) (c:Cd) (x:It) (is:Bool) (most:Int):St × An:=
 if ((c.mode == 1 && is) || (decide (2≤c.mode) && !is))=true then (X,zA7 3)
 else if (c.hasCas && !is)=true then (X,zA7 5)
 else if (c.hasCas && !(x.cas == c.cas) && !(c.inval && decide (c.cas < x.cas)))=true then (X,zA7 4)
 else rFit X most 2 0 (rNew now c x (c.hasCas && !(x.cas == c.cas)))
def rMath (X:St) (now:Int) (c:Cd) (x:It) (is:Bool) (most:Int):St × An:=
 if (!is && !c.viv)=true then (X,zA7 5)
 else if (!is)=true then rFit X most 6 (((zD8 (decDigits c.init.toNat)).getD 0:Nat):Int) ⟨c.key,0,decDigits c.init.toNat,zY7 now c.vive,0,0,false,false⟩
 else if (c.hasCas && !(x.cas == c.cas))=true then (X,zA7 4)
 else match (if c.down then subV x.val c.delta else addV x.val c.delta) with
  | none=>(X,zA7 7)
  | some v=>rFit X most 6 (((zD8 v).getD 0:Nat):Int) { x with val:=v,exp:=if c.hasExp then zY7 now c.exp else x.exp }
def rGone (now:Int) (c:Cd) (X:St) (x:It):It:={ x with cas:=nx X,stale:=true,won:=false,exp:=if c.hasExp then zY7 now c.exp else x.exp }
def rDrop (X:St) (k:List UInt8):St:=if isF X.items k then { X with items:=X.items.take (atF X.items k)++X.items.drop (atF X.items k+1) } else X
def zP7 (X:St) (now:Int) (c:Cd) (x:It):St × An:=
 if (c.hasCas && !(x.cas == c.cas))=true then (X,zA7 4)
 else if (!c.inval)=true then (rDrop X c.key,zA7 9)
 else (rPut { X with cas:=nx X } (rGone now c X x),⟨9,rGone now c X x,0,false,false,false⟩)
def rDo (X:St) (now:Int) (c:Cd) (most:Int) (x:It) (is:Bool):St × An:=
 if c.op=1 then rGet X now c x is
 else if c.op=2 then zT9 X now c x is most
 else if c.op=3 then rMath X now c x is most
 else if c.op=6 then (if now < zY7 now c.exp then ({ X with flush:=zY7 now c.exp },zA7 10) else ({ X with items:=[],flush:=0 },zA7 10))
 else if (!is)=true then (X,zA7 5)
 else if c.op=5 then zP7 X now c x
 else if c.op=7 then (X,⟨1,x,0,false,false,false⟩)
 else (rPut X { x with exp:=zY7 now c.exp },⟨8,{ x with exp:=zY7 now c.exp },0,false,false,false⟩)
def refF (X:St) (now:Int) (c:Cd) (most:Int):St × An:=
 if zT0 c=true∧1≤now∧now≤1099511627776 then rDo (zB1 X now) now c most (if isF (zB1 X now).items c.key then itF (zB1 X now).items (atF (zB1 X now).items c.key) else It.zero) (isF (zB1 X now).items c.key)
 else (St.zero,An.zero)
theorem rFit_eq {X:St} {most st num:Int} {y:It} (h:Sorted X.items):rFit X most st num y=fitK X most st num y:=by
 unfold rFit fitK
 by_cases hf:(y.key.length:Int)+(y.val.length:Int)≤most
 ·rw [if_neg (show ¬ most < (y.key.length:Int)+(y.val.length:Int) by omega),if_pos (by simpa [zD9] using hf),zS8 (X:={ X with cas:=nx X }) h]; rfl
 ·rw [if_pos (show most < (y.key.length:Int)+(y.val.length:Int) by omega),if_neg (by simpa [zD9] using hf)]
theorem rNew_eq (now:Int) (c:Cd) (x:It) (b:Bool):rNew now c x b=zK1 now c x b:=by
 unfold rNew zK1; rw [zL4]
theorem beqI (a b:Int):(a == b)=decide (a=b):=by
 by_cases h:a=b <;> simp [h]
theorem rDo_eq {X:St} {now:Int} {c:Cd} {most:Int} (h:Sorted X.items) (hop:1≤c.op∧c.op≤7) :
  rDo X now c most (if isF X.items c.key then itF X.items (atF X.items c.key) else It.zero) (isF X.items c.key)=doK X now c most (fE X.items c.key):=by
 have hn:∀ c':Int,Sorted ({ X with cas:=c' }:St).items:=fun _=>h
 cases hx:fE X.items c.key with
 | some x =>
  have e1:isF X.items c.key=true:=by rw [fE_is h,hx]; rfl
  have e2:=fE_it h hx
  have e3:=fE_key hx
  rw [e1,if_pos rfl,e2]
  unfold rDo doK
  by_cases h1:c.op=1
  ·rw [if_pos h1,if_pos h1]
   simp only [rGet,Bool.not_true,Bool.false_and,Bool.false_eq_true,if_false,getK,zS8 h]
   have:rGot now c x=gotF now c x:=by unfold rGot gotF; rw [zL4]
   rw [this]
  rw [if_neg h1,if_neg h1]
  by_cases h2:c.op=2
  ·rw [if_pos h2,if_pos h2]
   simp only [zT9,Bool.and_true,Bool.not_true,Bool.and_false,Bool.or_false,Bool.false_eq_true,if_false,stoK,zB3,beqI,decide_eq_true_eq,rFit_eq h,rNew_eq]
   congr
  rw [if_neg h2,if_neg h2]
  by_cases h3:c.op=3
  ·rw [if_pos h3,if_pos h3]
   simp only [rMath,Bool.not_true,Bool.false_and,Bool.false_eq_true,if_false,mathK,zB3,beqI,rFit_eq h,zL4]
   congr
  rw [if_neg h3,if_neg h3]
  by_cases h6:c.op=6
  ·rw [if_pos h6,if_neg (show ¬ c.op=4 by omega),if_neg (show ¬ c.op=7 by omega),if_neg (show ¬ c.op=5 by omega),zL4,zI2]
   by_cases hm:zF3 now c.exp≤now
   ·rw [if_neg (show ¬ now < zF3 now c.exp by omega),if_pos hm]
   ·rw [if_pos (show now < zF3 now c.exp by omega),if_neg hm]
  rw [if_neg h6]
  simp only [Bool.not_true,Bool.false_eq_true,if_false]
  by_cases h4:c.op=4
  ·rw [if_neg (show ¬ c.op=5 by omega),if_neg (show ¬ c.op=7 by omega),if_pos h4,zS8 h,zL4]; rfl
  rw [if_neg h4]
  by_cases h7:c.op=7
  ·rw [if_neg (show ¬ c.op=5 by omega),if_pos h7,if_pos h7]; rfl
  have h5:c.op=5:=by omega
  rw [if_pos h5,if_neg h7,if_pos h5]
  have hd:rDrop X c.key={ X with items:=rmL X.items c.key }:=by
   unfold rDrop
   rw [e1,if_pos rfl,← List.eraseIdx_eq_take_drop_succ,del_at h e1]
  have hg:rGone now c X x=tok X (zX0 now c x):=by unfold rGone tok zX0 nx; rw [zL4]
  simp only [zP7,zV8,zB3,beqI,hd,zS8 (hn (nx X)),hg]
  cases c.inval <;> simp [zZ0,nx]
 | none =>
  have e1:isF X.items c.key=false:=by rw [fE_is h,hx]; rfl
  rw [e1,if_neg (by simp)]
  unfold rDo doK
  by_cases h1:c.op=1
  ·rw [if_pos h1,if_pos h1]
   simp only [rGet,Bool.not_false,Bool.true_and,if_true,getK,zS8 (hn (nx X))]
   cases hv:c.viv with
   | true=>simp [rNewI,zZ0,tok,nx,zL4]
   | false=>simp
  rw [if_neg h1,if_neg h1]
  by_cases h2:c.op=2
  ·rw [if_pos h2,if_pos h2]
   simp only [zT9,Bool.and_false,Bool.not_false,Bool.and_true,Bool.false_or,decide_eq_true_eq,stoK]
   by_cases hm:1 < c.mode
   ·rw [if_pos (show 2≤c.mode by omega),if_pos hm]
   rw [if_neg (show ¬ 2≤c.mode by omega),if_neg hm]
   cases hc:c.hasCas with
   | true=>simp
   | false=>simp only [Bool.false_and,Bool.false_eq_true,if_false,rFit_eq h,rNew_eq]
  rw [if_neg h2,if_neg h2]
  by_cases h3:c.op=3
  ·rw [if_pos h3,if_pos h3]
   simp only [rMath,Bool.not_false,Bool.true_and,if_true,mathK,rFit_eq h,zL4]
   cases hv:c.viv <;> simp
  rw [if_neg h3,if_neg h3]
  by_cases h6:c.op=6
  ·rw [if_pos h6,if_neg (show ¬ c.op=4 by omega),if_neg (show ¬ c.op=7 by omega),if_neg (show ¬ c.op=5 by omega),zL4,zI2]
   by_cases hm:zF3 now c.exp≤now
   ·rw [if_neg (show ¬ now < zF3 now c.exp by omega),if_pos hm]
   ·rw [if_pos (show now < zF3 now c.exp by omega),if_neg hm]
  rw [if_neg h6]
  simp only [Bool.not_false,if_true]
  by_cases h4:c.op=4
  ·rw [if_pos h4]; rfl
  rw [if_neg h4]
  by_cases h7:c.op=7
  ·rw [if_pos h7]; rfl
  rw [if_neg h7,if_pos (show c.op=5 by omega)]; rfl
theorem ref_eq {X:St} {now:Int} {c:Cd} {most:Int} (h:Sorted X.items):refF X now c most=zA9 X now c most:=by
 by_cases hm:zT0 c=true∧1≤now∧now≤1099511627776
 ·rw [app_eq h hm]
  unfold refF
  rw [if_pos hm]
  obtain ⟨_,_,_,_,_,m6,m7⟩:=zR2 hm.1
  exact rDo_eq (zD6 now h) ⟨m6,m7⟩
 ·unfold refF zA9
  rw [if_neg hm,if_neg hm]
end Go.Proofs.YtfpeholdlkfmoaaGreatDoor
/- Rows told as their elements' cells, one behind the other: what is read and stored at an element. -/
namespace Go.Proofs.YtfpeholdlkfmoaaGreatDoor
set_option linter.unusedSimpArgs false
set_option linter.unusedVariables false
open Go.RowKit
section
variable {α:Type} {f:α→List SC} {z:Nat}
def zB6 (f:α→List SC) (xs:List α):List SC:=xs.flatMap f
theorem zK4 (hz:∀ x,(f x).length=z):∀ xs:List α,(zB6 f xs).length=xs.length * z
 | []=>by simp [zB6]
 | x :: xs=>by
  have:=zK4 hz xs
  simp only [zB6,List.flatMap_cons,List.length_append,List.length_cons,hz] at this ⊢
  rw [this,Nat.add_mul]; omega
theorem zH3 (xs ys:List α):zB6 f (xs++ys)=zB6 f xs++zB6 f ys:=by simp [zB6]
theorem zI3 (x:α):zB6 f [x]=f x:=by simp [zB6]
theorem zX2 (hz:∀ x,(f x).length=z) {xs:List α} {i:Nat} {x:α} (hx:xs[i]?=some x):zB6 f xs=zB6 f (xs.take i)++f x++zB6 f (xs.drop (i+1))∧(zB6 f (xs.take i)).length=i * z:=by
 have hi:=(List.getElem?_eq_some_iff.1 hx).1
 have e:xs=xs.take i++x :: xs.drop (i+1):=by
  have h1:xs[i]=x:=(List.getElem?_eq_some_iff.1 hx).2
  rw [← h1,← List.drop_eq_getElem_cons hi,List.take_append_drop]
 refine ⟨?_,by rw [zK4 hz,List.length_take,Nat.min_eq_left (by omega)]⟩
 conv=>lhs; rw [e]
 rw [zH3]
 simp [zB6]
end
end Go.Proofs.YtfpeholdlkfmoaaGreatDoor
