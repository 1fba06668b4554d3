/- Structs compared: cell by cell, nested structs too. -/
import Derived.Test.YtfpeholdlkfmoaaGreatDoorBS05
import Derived.Test.YtfpeholdlkfmoaaGreatDoorBS03
import Derived.Test.YtfpeholdlkfmoaaGreatDoorBS09
import Derived.Test.YtfpeholdlkfmoaaGreatDoorBS04
import Derived.Test.YtfpeholdlkfmoaaGreatDoorBS10
import Derived.WalkSmall
namespace Go.Proofs.YtfpeholdlkfmoaaGreatDoor
set_option linter.unusedSimpArgs false
set_option linter.unusedVariables false
open Go.RowKit
def ckB (P:Program):Nat→Nat→List Field→List SC→List SC→Option (List SC × List SC)
 | 0,_,_,_,_=>none
 | _+1,_,[],l,m=>some (l,m)
 | n + 1, o, f :: fs, l, m => if f.name = "_" ∨ f.offset ≠ o then none else match P.underlying f.type, l, m with
  | some (.int _),.i k _ :: l,.i k' _ :: m=>if k=k' then ckB P n (o+1) fs l m else none
  | some .string,.s _ :: l,.s _ :: m=>ckB P n (o+1) fs l m
  | some .bool,.b _ :: l,.b _ :: m=>ckB P n (o+1) fs l m
  | some (.struct gs),l,m=>if P.stoodInHeld f.type then none else match ckB P n 0 gs.toList l m with
   | some (l',m')=>if P.info? f.type |>.any (fun i=>i.size+l'.length == l.length && i.size+m'.length == m.length) then ckB P n (o+(l.length - l'.length)) fs l' m' else none
   | none=>none
  | _,_,_=>none
theorem eqCs_app:∀ {a c b d:List SC},a.length=c.length→qM (a++b) (c++d)=(qM a c && qM b d)
 | [],[],_,_,_=>by simp [qM]
 | x :: a,y :: c,b,d,h=>by
  simp only [List.cons_append,qM,eqCs_app (a:=a) (c:=c) (by simpa using h),Bool.and_assoc]
 | [],_ :: _,_,_,h=>by simp at h
 | _ :: _,[],_,_,h=>by simp at h
section
variable {P:Program}
theorem part_cell {t:TypeId} {d:TypeDesc} {xs:Array Value} {o:Nat} {v:Value} (w:World) (ht:P.underlying t=some d) (ha:aggD (some d)=false) (hx:xs[o]?=some v):(part t xs o).run P w=.ok v w:=by
 have:=zN7 (P:=P) (w:=w) ht
 rw [ha] at this
 simp [part,this,hx]
theorem part_agg {t:TypeId} {d:TypeDesc} {i:TypeInfo} {xs:Array Value} {o:Nat} (w:World) (ht:P.underlying t=some d) (hi:P.info? t=some i) (ha:aggD (some d)=true):(part t xs o).run P w=.ok (.agg (xs.extract o (o+i.size))) w:=by
 have:=zN7 (P:=P) (w:=w) ht
 rw [ha] at this
 simp [part,this,zD4 hi]
theorem bs_list (l:List UInt8):(ByteArray.mk l.toArray).toList=l:=by rw [ByteArray.toList_eq]
theorem fields_eq {ρ:Nat→RE} {w:World}:∀ (n o:Nat) (fs:List Field) (l m l' m':List SC),ckB P n o fs l m=some (l',m') →
  ∃ l1 m1,l=l1++l'∧m=m1++m'∧l1.length=m1.length∧∀ (d:Nat) (xs ys:Array Value),(∀ (i:Nat) x,l1[i]?=some x→xs[o+i]?=some (x.den ρ))→(∀ (i:Nat) x,m1[i]?=some x→ys[o+i]?=some (x.den ρ))→(Op.eqFields (d+n) xs ys fs).run P w=.ok (qM l1 m1) w:=by
 intro n
 induction n with
 | zero=>intro o fs l m l' m' h; simp [ckB] at h
 | succ n ih =>
  intro o fs l m l' m' h
  cases fs with
  | nil =>
   simp only [ckB,Option.some.injEq,Prod.mk.injEq] at h
   obtain ⟨rfl,rfl⟩:=h
   exact ⟨[],[],rfl,rfl,rfl,fun d xs ys _ _=>by simp [Op.eqFields,qM]⟩
  | cons f fs =>
   simp only [ckB] at h
   split at h
   ·cases h
   rename_i hno
   have hname : f.name ≠ "_" := fun e => hno (.inl e)
   have hoff:f.offset=o:=Decidable.byContradiction fun e=>hno (.inr e)
   have one:∀ (x y:SC) (l0 m0:List SC) (td:TypeDesc),l=x :: l0→m=y :: m0→P.underlying f.type=some td→aggD (some td)=false→(∀ d,(Op.equalIn (d+1) f.type (x.den ρ) (y.den ρ)).run P w=.ok (qL x y) w)→ckB P n (o+1) fs l0 m0=some (l',m') →
     ∃ l1 m1,l=l1++l'∧m=m1++m'∧l1.length=m1.length∧∀ (d:Nat) (xs ys:Array Value),(∀ (i:Nat) x,l1[i]?=some x→xs[o+i]?=some (x.den ρ))→(∀ (i:Nat) x,m1[i]?=some x→ys[o+i]?=some (x.den ρ))→(Op.eqFields (d+(n+1)) xs ys (f :: fs)).run P w=.ok (qM l1 m1) w:=by
    intro x y l0 m0 td e1 e2 hu hag heq hck
    obtain ⟨l1,m1,rfl,rfl,hlen,hrun⟩:=ih (o+1) fs l0 m0 l' m' hck
    refine ⟨x :: l1,y :: m1,e1,e2,by simp [hlen],fun d xs ys hx hy=>?_⟩
    have p1:=part_cell (P:=P) w hu hag (hx 0 x rfl)
    have p2:=part_cell (P:=P) w hu hag (hy 0 y rfl)
    rw [Nat.add_zero,← hoff] at p1 p2
    have hr:=hrun (d+1) xs ys (fun i z hz=>by have:=hx (i+1) z hz; rwa [show o+(i+1)=o+1+i by omega] at this) (fun i z hz=>by have:=hy (i+1) z hz; rwa [show o+(i+1)=o+1+i by omega] at this)
    rw [show d+1+n=d+(n+1) by omega] at hr
    have he:=heq (d+n)
    rw [show d+n+1=d+(n+1) by omega] at he
    simp only [Op.eqFields,if_pos hname,Sem.run_bind,p1,p2,Result.andThen_ok,he,qM]
    cases qL x y with
    | true=>simpa using hr
    | false=>simp
   split at h
   ·rename_i q k a l0 k' b m0 hu
    split at h
    ·rename_i hk
     subst hk
     exact one (.i k a) (.i k b) l0 m0 _ rfl rfl hu rfl (fun d=>run_equalIn_int w d f.type k q a b hu) h
    ·cases h
   ·rename_i a l0 b m0 hu
    refine one (.s a) (.s b) l0 m0 _ rfl rfl hu rfl (fun d=>?_) h
    have:=run_equalIn_string (P:=P) w d f.type ⟨a.toArray⟩ ⟨b.toArray⟩ hu
    rw [bs_list,bs_list] at this
    exact this
   ·rename_i a l0 b m0 hu
    exact one (.b a) (.b b) l0 m0 _ rfl rfl hu rfl (fun d=>run_equalIn_bool' w d f.type a b hu) h
   ·rename_i l m _ _ _ gs hu
    split at h
    ·cases h
    rename_i hst
    split at h
    ·rename_i l2 m2 hck
     split at h
     ·rename_i hsz
      obtain ⟨l1,m1,rfl,rfl,hlen,hrun⟩:=ih 0 gs.toList l m l2 m2 hck
      obtain ⟨l3,m3,rfl,rfl,hlen3,hrun3⟩:=ih _ fs l2 m2 l' m' h
      cases hi:P.info? f.type with
      | none=>rw [hi] at hsz; simp at hsz
      | some i =>
       rw [hi] at hsz
       simp only [Option.any_some,Bool.and_eq_true,beq_iff_eq,List.length_append] at hsz
       have hs1:i.size=l1.length:=by omega
       have hs2:i.size=m1.length:=by omega
       refine ⟨l1++l3,m1++m3,by simp,by simp,by simp [hlen,hlen3],fun d xs ys hx hy=>?_⟩
       have p1:=part_agg (P:=P) (xs:=xs) (o:=o) w hu hi rfl
       have p2:=part_agg (P:=P) (xs:=ys) (o:=o) w hu hi rfl
       have hfo:P.fieldsOf f.type=gs:=by simp [Program.fieldsOf,hu]
       have hr:=hrun d (xs.extract o (o+i.size)) (ys.extract o (o+i.size))
        (fun j z hz=>by
         have hj:=(List.getElem?_eq_some_iff.1 hz).1
         have:=hx j z (by rw [List.getElem?_append_left hj]; exact hz)
         rw [Nat.zero_add,Array.getElem?_extract,if_pos (by
          have:=(Array.getElem?_eq_some_iff.1 this).1
          omega)]
         exact this)
        (fun j z hz=>by
         have hj:=(List.getElem?_eq_some_iff.1 hz).1
         have:=hy j z (by rw [List.getElem?_append_left hj]; exact hz)
         rw [Nat.zero_add,Array.getElem?_extract,if_pos (by
          have:=(Array.getElem?_eq_some_iff.1 this).1
          omega)]
         exact this)
       have he:=run_equalIn_struct (P:=P) w (d+n) f.type (xs.extract o (o+i.size)) (ys.extract o (o+i.size)) (by rw [hfo]; exact hu) (by simpa using hst)
       rw [hfo,hr] at he
       have hr3:=hrun3 (d+1) xs ys
        (fun j z hz=>by
         have:=hx (l1.length+j) z (by rw [List.getElem?_append_right (by omega),Nat.add_sub_cancel_left]; exact hz)
         rw [show o+((l1++(l3++l')).length - (l3++l').length)+j=o+(l1.length+j) by simp; omega]; exact this)
        (fun j z hz=>by
         have:=hy (m1.length+j) z (by rw [List.getElem?_append_right (by omega),Nat.add_sub_cancel_left]; exact hz)
         rw [show o+((l1++(l3++l')).length - (l3++l').length)+j=o+(m1.length+j) by simp; omega]; exact this)
       rw [show d+1+n=d+(n+1) by omega] at hr3
       rw [show d+n+1=d+(n+1) by omega] at he
       rw [eqCs_app hlen]
       simp only [Op.eqFields,if_pos hname,hoff,Sem.run_bind,p1,p2,Result.andThen_ok,he]
       cases qM l1 m1 with
       | true=>simpa using hr3
       | false=>simp
     ·cases h
    ·cases h
   ·cases h
theorem stEq_of {t:TypeId} {la lb:List SC} (hg:P.eqGuardType P.depth t=false) (hu:P.underlying t=some (.struct (P.fieldsOf t))) (hst:P.stoodInHeld t=false) (h:ckB P 100 0 (P.fieldsOf t).toList la lb=some ([],[])):StEq P t la lb:=by
 refine ⟨hg,fun ρ w=>?_⟩
 obtain ⟨l1,m1,e1,e2,_,hrun⟩:=fields_eq (P:=P) (ρ:=ρ) (w:=w) 100 0 _ la lb [] [] h
 rw [List.append_nil] at e1 e2
 subst e1; subst e2
 have hr:=hrun 9899 (zC4 ρ la).toArray (zC4 ρ lb).toArray (fun i x hx=>by rw [Nat.zero_add]; simp [zC4,hx]) (fun i x hx=>by rw [Nat.zero_add]; simp [zC4,hx])
 unfold Op.equal Op.maxDepth
 rw [show (10000:Nat)=9999+1 from rfl,run_equalIn_struct (P:=P) w 9999 t _ _ hu hst]
 exact hr
end
end Go.Proofs.YtfpeholdlkfmoaaGreatDoor
/- Answers and items compared. -/
namespace Go.Proofs.YtfpeholdlkfmoaaGreatDoor
set_option linter.unusedSimpArgs false
set_option linter.unusedVariables false
open Go.RowKit
theorem stEq_an (a b:An):StEq Tryz.prog 35 (anS a) (anS b):=stEq_of (by kernel_rfl) (by kernel_rfl) (by kernel_rfl) (by kernel_rfl)
theorem steq_an (s:Int) (k:List UInt8) (f:Int) (v:List UInt8) (e c l:Int) (st wn:Bool) (n:Int) (w x z:Bool) (s':Int) (k':List UInt8) (f':Int) (v':List UInt8) (e' c' l':Int) (st' wn':Bool) (n':Int) (w' x' z':Bool) :
  StEq Tryz.prog 35 [.i .i64 s,.s k,.i .u32 f,.s v,.i .i64 e,.i .u64 c,.i .i64 l,.b st,.b wn,.i .u64 n,.b w,.b x,.b z] [.i .i64 s',.s k',.i .u32 f',.s v',.i .i64 e',.i .u64 c',.i .i64 l',.b st',.b wn',.i .u64 n',.b w',.b x',.b z']:=
 stEq_an ⟨s,⟨k,f,v,e,c,l,st,wn⟩,n,w,x,z⟩ ⟨s',⟨k',f',v',e',c',l',st',wn'⟩,n',w',x',z'⟩
theorem stEq_it (a b:It):StEq Tryz.prog 33 (itS a) (itS b):=stEq_of (by kernel_rfl) (by kernel_rfl) (by kernel_rfl) (by kernel_rfl)
theorem steq_it (k:List UInt8) (f:Int) (v:List UInt8) (e c l:Int) (st wn:Bool) (k':List UInt8) (f':Int) (v':List UInt8) (e' c' l':Int) (st' wn':Bool) :
  StEq Tryz.prog 33 [.s k,.i .u32 f,.s v,.i .i64 e,.i .u64 c,.i .i64 l,.b st,.b wn] [.s k',.i .u32 f',.s v',.i .i64 e',.i .u64 c',.i .i64 l',.b st',.b wn']:=
 stEq_it ⟨k,f,v,e,c,l,st,wn⟩ ⟨k',f',v',e',c',l',st',wn'⟩
end Go.Proofs.YtfpeholdlkfmoaaGreatDoor
/- What a command does to a sorted state, seen by keys; what stays so. No program in sight. -/
namespace Go.Proofs.YtfpeholdlkfmoaaGreatDoor
set_option linter.unusedSimpArgs false
set_option linter.unusedVariables false
open Go.Lib Go.Op
theorem Sorted.tail {a:It} {l:List It} (h:Sorted (a :: l)):Sorted l:=(List.pairwise_cons.1 h).2
theorem Sorted.head {a:It} {l:List It} (h:Sorted (a :: l)):∀ b∈l,bytesLess a.key b.key=true:=(List.pairwise_cons.1 h).1
theorem zQ9 (a:It) (l:List It) (k:List UInt8):atF (a :: l) k=if bytesLess a.key k=true then atF l k+1 else 0:=by
 unfold atF
 rw [List.takeWhile_cons]
 split <;> simp
theorem zP3 {a:It} {l:List It} {k:List UInt8} (h:bytesLess a.key k=true):isF (a :: l) k=isF l k:=by
 unfold isF
 rw [zQ9,if_pos h,List.getElem?_cons_succ]
theorem zP4 {a:It} {l:List It} {k:List UInt8} (h:¬ bytesLess a.key k=true):isF (a :: l) k=(a.key == k):=by
 unfold isF
 rw [zQ9,if_neg h]
 rfl
theorem zU2:∀ {l:List It} {k:List UInt8},Sorted l→l.take (atF l k)=l.filter fun x=>bytesLess x.key k
 | [],_,_=>by simp
 | a :: l,k,h=>by
  rw [zQ9]
  by_cases hk:bytesLess a.key k=true
  ·rw [if_pos hk,List.take_succ_cons,List.filter_cons,if_pos hk,zU2 h.tail]
  ·rw [if_neg hk,List.take_zero,List.filter_cons,if_neg hk]
   refine (List.filter_eq_nil_iff.2 fun b hb hc=>hk ?_).symm
   exact zH3 (h.head b hb) hc
theorem ge_all {a:It} {l:List It} {k:List UInt8} (h:Sorted (a :: l)) (hk:¬ bytesLess a.key k=true):(l.filter fun x=>bytesLess k x.key)=l:=by
 refine List.filter_eq_self.2 fun b hb=>?_
 have h1:=h.head b hb
 by_cases he:bytesLess k a.key=true
 ·exact zH3 he h1
 ·rw [← zO6 a.key k (by simpa using hk) (by simpa using he)]; exact h1
theorem zP7:∀ {l:List It} {k:List UInt8},Sorted l→isF l k=false→l.drop (atF l k)=l.filter fun x=>bytesLess k x.key
 | [],_,_,_=>by simp
 | a :: l,k,h,hn=>by
  rw [zQ9]
  by_cases hk:bytesLess a.key k=true
  ·rw [zP3 hk] at hn
   rw [if_pos hk,List.drop_succ_cons,List.filter_cons,if_neg (by rw [zR8 hk]; simp),zP7 h.tail hn]
  ·rw [zP4 hk] at hn
   rw [if_neg hk,List.drop_zero,List.filter_cons,ge_all h hk]
   have:bytesLess k a.key=true:=Decidable.byContradiction fun hc=>by
    rw [zO6 a.key k (by simpa using hk) (by simpa using hc)] at hn; simp at hn
   rw [if_pos this]
theorem zO7:∀ {l:List It} {k:List UInt8},Sorted l→isF l k=true→l.drop (atF l k+1)=l.filter fun x=>bytesLess k x.key
 | [],_,_,hn=>by simp [isF] at hn
 | a :: l,k,h,hn=>by
  rw [zQ9]
  by_cases hk:bytesLess a.key k=true
  ·rw [zP3 hk] at hn
   rw [if_pos hk,List.drop_succ_cons,List.filter_cons,if_neg (by rw [zR8 hk]; simp),zO7 h.tail hn]
  ·rw [zP4 hk] at hn
   have e:a.key=k:=by simpa using hn
   rw [if_neg hk,List.drop_succ_cons,List.drop_zero,List.filter_cons,if_neg (by rw [e,zF8]; simp),ge_all h hk]
def putL (l:List It) (x:It):List It:=(l.filter fun y=>bytesLess y.key x.key)++x :: l.filter fun y=>bytesLess x.key y.key
def rmL (l:List It) (k:List UInt8):List It:=(l.filter fun y=>bytesLess y.key k)++l.filter fun y=>bytesLess k y.key
def fE (l:List It) (k:List UInt8):Option It:=l.find? fun x=>x.key == k
theorem set_at {l:List It} {k:List UInt8} {y:It} (h:Sorted l) (hi:isF l k=true) (hk:y.key=k):l.set (atF l k) y=putL l y:=by
 subst hk
 rw [List.set_eq_take_append_cons_drop,if_pos (zE6 hi),zU2 h,zO7 h hi]; rfl
theorem ins_at {l:List It} {k:List UInt8} {y:It} (h:Sorted l) (hi:isF l k=false) (hk:y.key=k):l.take (atF l k)++y :: l.drop (atF l k)=putL l y:=by
 subst hk
 rw [zU2 h,zP7 h hi]; rfl
theorem del_at {l:List It} {k:List UInt8} (h:Sorted l) (hi:isF l k=true):l.eraseIdx (atF l k)=rmL l k:=by
 rw [List.eraseIdx_eq_take_drop_succ,zU2 h,zO7 h hi]; rfl
theorem rmL_eq:∀ {l:List It} {k:List UInt8},Sorted l→rmL l k=l.filter fun y=>!(y.key == k)
 | [],_,_=>rfl
 | a :: l,k,h=>by
  have ih:=rmL_eq (k:=k) h.tail
  unfold rmL at ih ⊢
  by_cases hk:bytesLess a.key k=true
  ·have hne:(a.key == k)=false:=by
    rw [beq_eq_false_iff_ne]; intro e; rw [e,zF8] at hk; cases hk
   rw [List.filter_cons,if_pos hk,List.filter_cons,if_neg (by rw [zR8 hk]; simp),List.filter_cons,if_pos (by rw [hne]; rfl),List.cons_append,ih]
  ·have hnil:(l.filter fun y=>bytesLess y.key k)=[]:=List.filter_eq_nil_iff.2 fun b hb hc=>hk (zH3 (h.head b hb) hc)
   rw [hnil,List.nil_append] at ih
   rw [List.filter_cons,if_neg hk,hnil,List.nil_append,List.filter_cons,List.filter_cons,← ih]
   by_cases he:bytesLess k a.key=true
   ·have hne:(a.key == k)=false:=by
     rw [beq_eq_false_iff_ne]; intro e; rw [e,zF8] at he; cases he
    rw [if_pos he,if_pos (by rw [hne]; rfl)]
   ·have e:=zO6 a.key k (by simpa using hk) (by simpa using he)
    rw [if_neg he,if_neg (by rw [e]; simp)]
theorem fE_is:∀ {l:List It} {k:List UInt8},Sorted l→isF l k=(fE l k).isSome
 | [],_,_=>rfl
 | a :: l,k,h=>by
  have ih:=fE_is (k:=k) h.tail
  unfold fE at ih ⊢
  rw [List.find?_cons]
  by_cases hk:bytesLess a.key k=true
  ·have hne:(a.key == k)=false:=by
    rw [beq_eq_false_iff_ne]; intro e; rw [e,zF8] at hk; cases hk
   rw [zP3 hk,hne,ih]
  ·rw [zP4 hk]
   cases hc:(a.key == k) with
   | true=>rfl
   | false =>
    symm
    rw [Option.isSome_eq_false_iff,Option.isNone_iff_eq_none,List.find?_eq_none]
    intro b hb hbk
    have e:b.key=k:=by simpa using hbk
    exact hk (e ▸ h.head b hb)
theorem fE_it {l:List It} {k:List UInt8} {x:It} (h:Sorted l) (hx:fE l k=some x):itF l (atF l k)=x:=by
 have hi:isF l k=true:=by rw [fE_is h,hx]; rfl
 obtain ⟨y,hy,hyk⟩:=isF_iff.1 hi
 rw [zY8 hy]
 have h1:=List.find?_some hx
 have hxk:x.key=k:=by simpa using h1
 obtain ⟨i,hi⟩:=List.mem_iff_getElem?.1 (List.mem_of_find?_eq_some hx)
 rcases Nat.lt_trichotomy (atF l k) i with hlt | heq | hgt
 ·have:=h.get hy hi hlt
  rw [hyk,hxk,zF8] at this; cases this
 ·rw [heq,hi] at hy; exact (Option.some.inj hy).symm
 ·have:=h.get hi hy hgt
  rw [hyk,hxk,zF8] at this; cases this
theorem fE_key {l:List It} {k:List UInt8} {x:It} (hx:fE l k=some x):x.key=k:=by
 have h1:=List.find?_some hx
 simpa using h1
def tok (X:St) (x:It):It:={ x with cas:=IntKind.u64.wrap (X.cas+1) }
def putK' (X:St) (x:It):St:={ X with cas:=IntKind.u64.wrap (X.cas+1),items:=putL X.items (tok X x) }
theorem zV1 {X:St} {k:List UInt8} {x:It} (h:Sorted X.items) (hk:x.key=k):zK4 X (atF X.items k) (isF X.items k) x=(putK' X x,tok X x):=by
 unfold zK4 putK'
 cases hi:isF X.items k with
 | true=>simp only [if_true]; rw [set_at h hi (by exact hk)]; rfl
 | false=>simp only [Bool.false_eq_true,if_false]; rw [ins_at h hi (by exact hk)]; rfl
def getK (X:St) (now:Int) (c:Cd):Option It→St × An
 | some x=>({ X with items:=putL X.items (gotF now c x) },⟨1,gotF now c x,0,zS1 now c x,x.stale,x.won⟩)
 | none=>if c.viv then (putK' X ⟨c.key,0,[],zF2 now c.vive,0,0,false,true⟩,⟨1,tok X ⟨c.key,0,[],zF2 now c.vive,0,0,false,true⟩,0,true,false,false⟩) else (X,zA6 5)
theorem newF_key {now:Int} {c:Cd} {x:It} {b:Bool} (h:c.mode=3∨c.mode=4→x.key=c.key):(zL2 now c x b).key=c.key:=by
 unfold zL2
 split
 ·rename_i hm; exact h (.inl hm)
 ·split
  ·rename_i hm; exact h (.inr hm)
  ·rfl
def fitK (X:St) (most:Int) (st:Int) (num:Int) (x:It):St × An:=if zE1 most x then (putK' X x,⟨st,tok X x,num,false,false,false⟩) else (X,zA6 11)
def stoK (X:St) (now:Int) (c:Cd) (most:Int):Option It→St × An
 | some x =>
  if c.mode=1 then (X,zA6 3)
  else if (zB4 c x && !(c.inval && decide (c.cas < x.cas)))=true then (X,zA6 4)
  else fitK X most 2 0 (zL2 now c x (zB4 c x))
 | none =>
  if 1 < c.mode then (X,zA6 3)
  else if c.hasCas then (X,zA6 5)
  else fitK X most 2 0 (zL2 now c It.zero false)
def mathK (X:St) (now:Int) (c:Cd) (most:Int):Option It→St × An
 | some x =>
  if zB4 c x then (X,zA6 4)
  else match (if c.down then subV x.val c.delta else addV x.val c.delta) with
   | none=>(X,zA6 7)
   | some v=>fitK X most 6 ((zC1 v).getD 0:Nat) { x with val:=v,exp:=if c.hasExp then zF2 now c.exp else x.exp }
 | none=>if c.viv then fitK X most 6 ((zC1 (decDigits c.init.toNat)).getD 0:Nat) ⟨c.key,0,decDigits c.init.toNat,zF2 now c.vive,0,0,false,false⟩ else (X,zA6 5)
def touchK (X:St) (now:Int) (c:Cd):Option It→St × An
 | some x=>({ X with items:=putL X.items { x with exp:=zF2 now c.exp } },⟨8,{ x with exp:=zF2 now c.exp },0,false,false,false⟩)
 | none=>(X,zA6 5)
def lookK (X:St):Option It→St × An
 | some x=>(X,⟨1,x,0,false,false,false⟩)
 | none=>(X,zA6 5)
def removeK (X:St) (now:Int) (c:Cd):Option It→St × An
 | some x =>
  if zB4 c x then (X,zA6 4)
  else if c.inval then (putK' X (zV9 now c x),⟨9,tok X (zV9 now c x),0,false,false,false⟩)
  else ({ X with items:=rmL X.items c.key },zA6 9)
 | none=>(X,zA6 5)
def doK (X:St) (now:Int) (c:Cd) (most:Int) (o:Option It):St × An:=
 if c.op=1 then getK X now c o
 else if c.op=2 then stoK X now c most o
 else if c.op=3 then mathK X now c most o
 else if c.op=4 then touchK X now c o
 else if c.op=7 then lookK X o
 else if c.op=5 then removeK X now c o
 else zI9 X now c
theorem numPut_eq {X:St} {k:List UInt8} {x:It} {most:Int} (h:Sorted X.items) (hk:x.key=k):zG6 X most (atF X.items k) (isF X.items k) x=fitK X most 6 ((zC1 x.val).getD 0:Nat) x:=by
 unfold zG6 fitK
 rw [zV1 h hk]
theorem doK_eq {X:St} {now:Int} {c:Cd} {most:Int} (h:Sorted X.items):doF X now c most (atF X.items c.key) (isF X.items c.key)=doK X now c most (fE X.items c.key):=by
 have hw:∀ x,fE X.items c.key=some x→isF X.items c.key=true∧itF X.items (atF X.items c.key)=x∧x.key=c.key:=fun x hx=>⟨by rw [fE_is h,hx]; rfl,fE_it h hx,fE_key hx⟩
 have hn:fE X.items c.key=none→isF X.items c.key=false:=fun hx=>by rw [fE_is h,hx]; rfl
 unfold doF doK
 by_cases h1:c.op=1
 ·rw [if_pos h1,if_pos h1]
  unfold zX4
  cases hx:fE X.items c.key with
  | some x =>
   obtain ⟨e1,e2,e3⟩:=hw x hx
   rw [e1,if_pos rfl,e2,set_at h e1 (show (gotF now c x).key=c.key from e3)]
   rfl
  | none =>
   have e1:=hn hx
   have hp:=zV1 (X:=X) (k:=c.key) (x:=⟨c.key,0,[],zF2 now c.vive,0,0,false,true⟩) h rfl
   rw [e1] at hp ⊢
   rw [hp]; rfl
 rw [if_neg h1,if_neg h1]
 by_cases h2:c.op=2
 ·rw [if_pos h2,if_pos h2]
  unfold zB0
  cases hx:fE X.items c.key with
  | some x =>
   obtain ⟨e1,e2,e3⟩:=hw x hx
   have hp:=zV1 (X:=X) (k:=c.key) (x:=zL2 now c x (zB4 c x)) h (newF_key fun _=>e3)
   rw [e1] at hp ⊢
   simp only [e2,Bool.and_true,Bool.not_true,Bool.and_false,Bool.or_false,Bool.true_and,Bool.false_eq_true,if_false,decide_eq_true_eq,hp,stoK,fitK]
  | none =>
   have e1:=hn hx
   have hp:¬ (decide (1 < c.mode)=true)→zK4 X (atF X.items c.key) (isF X.items c.key) (zL2 now c (itF X.items (atF X.items c.key)) false)=(putK' X (zL2 now c It.zero false),tok X (zL2 now c It.zero false)):=by
    intro hm
    have hm':¬ 1 < c.mode:=by simpa using hm
    have en:zL2 now c (itF X.items (atF X.items c.key)) false=zL2 now c It.zero false:=by
     unfold zL2; rw [if_neg (by omega),if_neg (by omega),if_neg (by omega),if_neg (by omega)]
    rw [en,zV1 h (newF_key fun hh=>by omega)]
   rw [e1] at hp ⊢
   simp only [Bool.and_false,Bool.not_false,Bool.and_true,Bool.false_or,Bool.false_and,Bool.false_eq_true,if_false,decide_eq_true_eq,stoK]
   by_cases hm:1 < c.mode
   ·rw [if_pos hm,if_pos hm]
   rw [if_neg hm,if_neg hm]
   have hp':=hp (by simpa using hm)
   have en:zL2 now c (itF X.items (atF X.items c.key)) false=zL2 now c It.zero false:=by
    unfold zL2; rw [if_neg (by omega),if_neg (by omega),if_neg (by omega),if_neg (by omega)]
   rw [hp',en]
   rfl
 rw [if_neg h2,if_neg h2]
 by_cases h3:c.op=3
 ·rw [if_pos h3,if_pos h3]
  unfold zD1
  cases hx:fE X.items c.key with
  | some x =>
   obtain ⟨e1,e2,e3⟩:=hw x hx
   have hp:=fun (v:List UInt8) (e:Int)=>numPut_eq (X:=X) (k:=c.key) (most:=most) (x:={ x with val:=v,exp:=e }) h e3
   rw [e1] at hp ⊢
   simp only [e2,if_true,mathK,hp]
   congr 1
  | none =>
   have e1:=hn hx
   have hp:=numPut_eq (X:=X) (k:=c.key) (most:=most) (x:=⟨c.key,0,decDigits c.init.toNat,zF2 now c.vive,0,0,false,false⟩) h rfl
   rw [e1] at hp ⊢
   simp only [Bool.false_eq_true,if_false,mathK,hp]
 rw [if_neg h3,if_neg h3]
 by_cases h4:c.op=4
 ·rw [if_pos h4,if_pos h4]
  unfold zU0
  cases hx:fE X.items c.key with
  | some x =>
   obtain ⟨e1,e2,e3⟩:=hw x hx
   rw [e1,if_pos rfl,e2,set_at h e1 (by exact e3)]
   rfl
  | none=>rw [hn hx]; rfl
 rw [if_neg h4,if_neg h4]
 by_cases h7:c.op=7
 ·rw [if_pos h7,if_pos h7]
  unfold lookF
  cases hx:fE X.items c.key with
  | some x=>obtain ⟨e1,e2,e3⟩:=hw x hx; rw [e1,if_pos rfl,e2]; rfl
  | none=>rw [hn hx]; rfl
 rw [if_neg h7,if_neg h7]
 by_cases h5:c.op=5
 ·rw [if_pos h5,if_pos h5]
  unfold zC9
  cases hx:fE X.items c.key with
  | some x =>
   obtain ⟨e1,e2,e3⟩:=hw x hx
   have hp:=zV1 (X:=X) (k:=c.key) (x:=zV9 now c x) h e3
   rw [e1] at hp ⊢
   simp only [e2,if_true,removeK,hp,del_at h e1]
  | none=>rw [hn hx]; rfl
 rw [if_neg h5,if_neg h5]
theorem zM9 {X:St} (now:Int) (h:Sorted X.items):Sorted (zE4 X now).items:=by
 unfold zE4
 split
 ·exact Sorted.nil
 ·exact h.filter _
theorem app_eq {X:St} {now:Int} {c:Cd} {most:Int} (h:Sorted X.items) (hm:zK1 c=true∧1≤now∧now≤1099511627776):zB3 X now c most=doK (zE4 X now) now c most (fE (zE4 X now).items c.key):=by
 unfold zB3
 rw [if_pos hm,doK_eq (zM9 now h)]
theorem mem_putL {l:List It} {x y:It} (h:y∈putL l x):y=x∨y∈l:=by
 unfold putL at h
 rw [List.mem_append,List.mem_cons] at h
 rcases h with h | h | h
 ·exact .inr (List.mem_filter.1 h).1
 ·exact .inl h
 ·exact .inr (List.mem_filter.1 h).1
theorem Sorted.putL {l:List It} (h:Sorted l) (x:It):Sorted (putL l x):=by
 unfold Proofs.YtfpeholdlkfmoaaGreatDoor.putL
 refine List.pairwise_append.2 ⟨h.filter _,List.pairwise_cons.2 ⟨fun b hb=>?_,h.filter _⟩,?_⟩
 ·simpa using (List.mem_filter.1 hb).2
 ·intro a ha b hb
  have h1:bytesLess a.key x.key=true:=by simpa using (List.mem_filter.1 ha).2
  rcases List.mem_cons.1 hb with rfl | hb
  ·exact h1
  ·exact zH3 h1 (by simpa using (List.mem_filter.1 hb).2)
theorem len_rmL {l:List It} {k:List UInt8} (h:Sorted l):(rmL l k).length≤l.length:=by rw [rmL_eq h]; exact List.length_filter_le _ _
theorem len_putL {l:List It} (h:Sorted l) (x:It):(putL l x).length≤l.length+1:=by
 have:=len_rmL (k:=x.key) h
 unfold rmL at this
 unfold putL
 simp only [List.length_append,List.length_cons] at this ⊢
 omega
theorem Sorted.rmL {l:List It} (h:Sorted l) (k:List UInt8):Sorted (rmL l k):=by rw [rmL_eq h]; exact h.filter _
structure Nice (most:Int) (n:Nat) (X:St):Prop where
 sorted:Sorted X.items
 len:X.items.length≤n
 bd:∀ x∈X.items,x.key.length≤250∧(x.val.length:Int)≤most∧-4398046511104≤x.exp∧x.exp≤4398046511104
theorem Nice.mono {most:Int} {n m:Nat} {X:St} (h:Nice most n X) (hm:n≤m):Nice most m X:=⟨h.sorted,Nat.le_trans h.len hm,h.bd⟩
theorem Nice.live {most:Int} {n:Nat} {X:St} (h:Nice most n X) (now:Int):Nice most n (zE4 X now):=by
 refine ⟨zM9 now h.sorted,?_,?_⟩
 ·unfold zE4; split
  ·exact Nat.zero_le _
  ·exact Nat.le_trans (List.length_filter_le _ _) h.len
 ·unfold zE4; split
  ·simp
  ·intro x hx; exact h.bd x (List.mem_filter.1 hx).1
theorem may_split {c:Cd} (h:zK1 c=true):(c.op=6∨zS6 c.key=true)∧zD8 c.exp=true∧zD8 c.vive=true∧zD8 c.recache=true∧c.val.length≤65536∧1≤c.op∧c.op≤7:=by
 simp only [zK1,Bool.and_eq_true,Bool.or_eq_true,decide_eq_true_eq] at h
 obtain ⟨⟨⟨⟨⟨⟨q1,q2⟩,q3⟩,q4⟩,h1⟩,⟨h2,h3⟩,h4⟩,h5⟩:=h
 exact ⟨h5,h2,h3,h4,h1,q1,q2⟩
theorem key_lt {key:List UInt8} (h:zS6 key=true):key.length≤250:=by
 simp only [zS6,Bool.and_eq_true,decide_eq_true_eq] at h; exact h.2
theorem Nice.put {most:Int} {n:Nat} {X:St} (h:Nice most n X) {x:It} {cas:Int} (hx:x.key.length≤250∧(x.val.length:Int)≤most∧-4398046511104≤x.exp∧x.exp≤4398046511104):Nice most (n+1) { X with cas:=cas,items:=putL X.items x }:=by
 refine ⟨h.sorted.putL x,Nat.le_trans (len_putL h.sorted x) (Nat.succ_le_succ h.len),?_⟩
 intro y hy
 rcases mem_putL hy with rfl | hy
 ·exact hx
 ·exact h.bd y hy
theorem Nice.fit {most:Int} {n:Nat} {X:St} (h:Nice most n X) {x:It} {st num:Int} (hx:x.key.length≤250∧-4398046511104≤x.exp∧x.exp≤4398046511104):Nice most (n+1) (fitK X most st num x).1:=by
 unfold fitK
 split
 ·rename_i hf
  refine Nice.put h ⟨hx.1,?_,hx.2⟩
  have:(x.key.length:Int)+(x.val.length:Int)≤most:=by simpa [zE1] using hf
  show (x.val.length:Int)≤most
  omega
 ·exact h.mono (Nat.le_succ _)
end Go.Proofs.YtfpeholdlkfmoaaGreatDoor
/- What the document's answer (ambryref16.Apply) computes, and that it is what the model computes. No program in sight. -/
namespace Go.Proofs.YtfpeholdlkfmoaaGreatDoor
set_option linter.unusedSimpArgs false
set_option linter.unusedVariables false
open Go.Lib Go.Op
def zJ1 (now e:Int):Int:=if e=0 then 0 else if e < 0 then now else if e≤2592000 then now+e else e
theorem zM7 (now e:Int):zJ1 now e=zF2 now e:=by
 unfold zJ1 zF2
 repeat' split
 all_goals omega
def zH7 (X:St) (x:It):St:={ X with items:=X.items.take (atF X.items x.key)++x :: X.items.drop (if isF X.items x.key then atF X.items x.key+1 else atF X.items x.key) }
theorem zU9 {X:St} {x:It} (h:Sorted X.items):zH7 X x={ X with items:=putL X.items x }:=by
 unfold zH7 putL
 rw [zU2 h]
 cases hi:isF X.items x.key with
 | true=>rw [if_pos rfl,zO7 h hi]
 | false=>rw [if_neg (by simp),zP7 h hi]
def nx (X:St):Int:=IntKind.u64.wrap (X.cas+1)
def rGot (now:Int) (c:Cd) (x:It):It:={ x with won:=x.won || zS1 now c x,exp:=if c.hasExp then zJ1 now c.exp else x.exp,last:=now }
def zX5 (now:Int) (c:Cd) (X:St):It:=⟨c.key,0,[],zJ1 now c.vive,nx X,0,false,true⟩
def rGet (X:St) (now:Int) (c:Cd) (x:It) (is:Bool):St × An:=
 if (!is && !c.viv)=true then (X,zA6 5)
 else if (!is)=true then (zH7 { X with cas:=nx X } (zX5 now c X),⟨1,zX5 now c X,0,true,false,false⟩)
 else (zH7 X (rGot now c x),⟨1,rGot now c x,0,zS1 now c x,x.stale,x.won⟩)
def rNew (now:Int) (c:Cd) (x:It) (stale:Bool):It:=
 if c.mode=3 then { x with val:=x.val++c.val,stale:=stale,won:=false }
 else if c.mode=4 then { x with val:=c.val++x.val,stale:=stale,won:=false }
 else ⟨c.key,c.flags,c.val,zJ1 now c.exp,0,0,stale,false⟩
def rFit (X:St) (most st num:Int) (y:It):St × An:=
 if most < (y.key.length:Int)+(y.val.length:Int) then (X,zA6 11)
 else (zH7 { X with cas:=nx X } { y with cas:=nx X },⟨st,{ y with cas:=nx X },num,false,false,false⟩)
def zE5 (X:St) (now:Int) (c:Cd) (x:It) (is:Bool) (most:Int):St × An:=
 if ((c.mode == 1 && is) || (decide (2≤c.mode) && !is))=true then (X,zA6 3)
 else if (c.hasCas && !is)=true then (X,zA6 5)
 else if (c.hasCas && !(x.cas == c.cas) && !(c.inval && decide (c.cas < x.cas)))=true then (X,zA6 4)
 else rFit X most 2 0 (rNew now c x (c.hasCas && !(x.cas == c.cas)))
def zI5 (X:St) (now:Int) (c:Cd) (x:It) (is:Bool) (most:Int):St × An:=
 if (!is && !c.viv)=true then (X,zA6 5)
 else if (!is)=true then rFit X most 6 (((zC1 (decDigits c.init.toNat)).getD 0:Nat):Int) ⟨c.key,0,decDigits c.init.toNat,zJ1 now c.vive,0,0,false,false⟩
 else if (c.hasCas && !(x.cas == c.cas))=true then (X,zA6 4)
 else match (if c.down then subV x.val c.delta else addV x.val c.delta) with
  | none=>(X,zA6 7)
  | some v=>rFit X most 6 (((zC1 v).getD 0:Nat):Int) { x with val:=v,exp:=if c.hasExp then zJ1 now c.exp else x.exp }
def rGone (now:Int) (c:Cd) (X:St) (x:It):It:={ x with cas:=nx X,stale:=true,won:=false,exp:=if c.hasExp then zJ1 now c.exp else x.exp }
def zF6 (X:St) (k:List UInt8):St:=if isF X.items k then { X with items:=X.items.take (atF X.items k)++X.items.drop (atF X.items k+1) } else X
def zE3 (X:St) (now:Int) (c:Cd) (x:It):St × An:=
 if (c.hasCas && !(x.cas == c.cas))=true then (X,zA6 4)
 else if (!c.inval)=true then (zF6 X c.key,zA6 9)
 else (zH7 { X with cas:=nx X } (rGone now c X x),⟨9,rGone now c X x,0,false,false,false⟩)
def rDo (X:St) (now:Int) (c:Cd) (most:Int) (x:It) (is:Bool):St × An:=
 if c.op=1 then rGet X now c x is
 else if c.op=2 then zE5 X now c x is most
 else if c.op=3 then zI5 X now c x is most
 else if c.op=6 then (if now < zJ1 now c.exp then ({ X with flush:=zJ1 now c.exp },zA6 10) else ({ X with items:=[],flush:=0 },zA6 10))
 else if (!is)=true then (X,zA6 5)
 else if c.op=5 then zE3 X now c x
 else if c.op=7 then (X,⟨1,x,0,false,false,false⟩)
 else (zH7 X { x with exp:=zJ1 now c.exp },⟨8,{ x with exp:=zJ1 now c.exp },0,false,false,false⟩)
def refF (X:St) (now:Int) (c:Cd) (most:Int):St × An:=
 if zK1 c=true∧1≤now∧now≤1099511627776 then rDo (zE4 X now) now c most (if isF (zE4 X now).items c.key then itF (zE4 X now).items (atF (zE4 X now).items c.key) else It.zero) (isF (zE4 X now).items c.key)
 else (St.zero,An.zero)
theorem rFit_eq {X:St} {most st num:Int} {y:It} (h:Sorted X.items):rFit X most st num y=fitK X most st num y:=by
 unfold rFit fitK
 by_cases hf:(y.key.length:Int)+(y.val.length:Int)≤most
 ·rw [if_neg (show ¬ most < (y.key.length:Int)+(y.val.length:Int) by omega),if_pos (by simpa [zE1] using hf),zU9 (X:={ X with cas:=nx X }) h]; rfl
 ·rw [if_pos (show most < (y.key.length:Int)+(y.val.length:Int) by omega),if_neg (by simpa [zE1] using hf)]
theorem rNew_eq (now:Int) (c:Cd) (x:It) (b:Bool):rNew now c x b=zL2 now c x b:=by
 unfold rNew zL2; rw [zM7]
theorem beqI (a b:Int):(a == b)=decide (a=b):=by
 by_cases h:a=b <;> simp [h]
theorem rDo_eq {X:St} {now:Int} {c:Cd} {most:Int} (h:Sorted X.items) (hop:1≤c.op∧c.op≤7) :
  rDo X now c most (if isF X.items c.key then itF X.items (atF X.items c.key) else It.zero) (isF X.items c.key)=doK X now c most (fE X.items c.key):=by
 have hn:∀ c':Int,Sorted ({ X with cas:=c' }:St).items:=fun _=>h
 cases hx:fE X.items c.key with
 | some x =>
  have e1:isF X.items c.key=true:=by rw [fE_is h,hx]; rfl
  have e2:=fE_it h hx
  have e3:=fE_key hx
  rw [e1,if_pos rfl,e2]
  unfold rDo doK
  by_cases h1:c.op=1
  ·rw [if_pos h1,if_pos h1]
   simp only [rGet,Bool.not_true,Bool.false_and,Bool.false_eq_true,if_false,getK,zU9 h]
   have:rGot now c x=gotF now c x:=by unfold rGot gotF; rw [zM7]
   rw [this]
  rw [if_neg h1,if_neg h1]
  by_cases h2:c.op=2
  ·rw [if_pos h2,if_pos h2]
   simp only [zE5,Bool.and_true,Bool.not_true,Bool.and_false,Bool.or_false,Bool.false_eq_true,if_false,stoK,zB4,beqI,decide_eq_true_eq,rFit_eq h,rNew_eq]
   congr
  rw [if_neg h2,if_neg h2]
  by_cases h3:c.op=3
  ·rw [if_pos h3,if_pos h3]
   simp only [zI5,Bool.not_true,Bool.false_and,Bool.false_eq_true,if_false,mathK,zB4,beqI,rFit_eq h,zM7]
   congr
  rw [if_neg h3,if_neg h3]
  by_cases h6:c.op=6
  ·rw [if_pos h6,if_neg (show ¬ c.op=4 by omega),if_neg (show ¬ c.op=7 by omega),if_neg (show ¬ c.op=5 by omega),zM7,zI9]
   by_cases hm:zF2 now c.exp≤now
   ·rw [if_neg (show ¬ now < zF2 now c.exp by omega),if_pos hm]
   ·rw [if_pos (show now < zF2 now c.exp by omega),if_neg hm]
  rw [if_neg h6]
  simp only [Bool.not_true,Bool.false_eq_true,if_false]
  by_cases h4:c.op=4
  ·rw [if_neg (show ¬ c.op=5 by omega),if_neg (show ¬ c.op=7 by omega),if_pos h4,zU9 h,zM7]; rfl
  rw [if_neg h4]
  by_cases h7:c.op=7
  ·rw [if_neg (show ¬ c.op=5 by omega),if_pos h7,if_pos h7]; rfl
  have h5:c.op=5:=by omega
  rw [if_pos h5,if_neg h7,if_pos h5]
  have hd:zF6 X c.key={ X with items:=rmL X.items c.key }:=by
   unfold zF6
   rw [e1,if_pos rfl,← List.eraseIdx_eq_take_drop_succ,del_at h e1]
  have hg:rGone now c X x=tok X (zV9 now c x):=by unfold rGone tok zV9 nx; rw [zM7]
  simp only [zE3,removeK,zB4,beqI,hd,zU9 (hn (nx X)),hg]
  cases c.inval <;> simp [putK',nx]
 | none =>
  have e1:isF X.items c.key=false:=by rw [fE_is h,hx]; rfl
  rw [e1,if_neg (by simp)]
  unfold rDo doK
  by_cases h1:c.op=1
  ·rw [if_pos h1,if_pos h1]
   simp only [rGet,Bool.not_false,Bool.true_and,if_true,getK,zU9 (hn (nx X))]
   cases hv:c.viv with
   | true=>simp [zX5,putK',tok,nx,zM7]
   | false=>simp
  rw [if_neg h1,if_neg h1]
  by_cases h2:c.op=2
  ·rw [if_pos h2,if_pos h2]
   simp only [zE5,Bool.and_false,Bool.not_false,Bool.and_true,Bool.false_or,decide_eq_true_eq,stoK]
   by_cases hm:1 < c.mode
   ·rw [if_pos (show 2≤c.mode by omega),if_pos hm]
   rw [if_neg (show ¬ 2≤c.mode by omega),if_neg hm]
   cases hc:c.hasCas with
   | true=>simp
   | false=>simp only [Bool.false_and,Bool.false_eq_true,if_false,rFit_eq h,rNew_eq]
  rw [if_neg h2,if_neg h2]
  by_cases h3:c.op=3
  ·rw [if_pos h3,if_pos h3]
   simp only [zI5,Bool.not_false,Bool.true_and,if_true,mathK,rFit_eq h,zM7]
   cases hv:c.viv <;> simp
  rw [if_neg h3,if_neg h3]
  by_cases h6:c.op=6
  ·rw [if_pos h6,if_neg (show ¬ c.op=4 by omega),if_neg (show ¬ c.op=7 by omega),if_neg (show ¬ c.op=5 by omega),zM7,zI9]
   by_cases hm:zF2 now c.exp≤now
   ·rw [if_neg (show ¬ now < zF2 now c.exp by omega),if_pos hm]
   ·rw [if_pos (show now < zF2 now c.exp by omega),if_neg hm]
  rw [if_neg h6]
  simp only [Bool.not_false,if_true]
  by_cases h4:c.op=4
  ·rw [if_pos h4]; rfl
  rw [if_neg h4]
  by_cases h7:c.op=7
  ·rw [if_pos h7]; rfl
  rw [if_neg h7,if_pos (show c.op=5 by omega)]; rfl
theorem ref_eq {X:St} {now:Int} {c:Cd} {most:Int} (h:Sorted X.items):refF X now c most=zB3 X now c most:=by
 by_cases hm:zK1 c=true∧1≤now∧now≤1099511627776
 ·rw [app_eq h hm]
  unfold refF
  rw [if_pos hm]
  obtain ⟨_,_,_,_,_,m6,m7⟩:=may_split hm.1
  exact rDo_eq (zM9 now h) ⟨m6,m7⟩
 ·unfold refF zB3
  rw [if_neg hm,if_neg hm]
end Go.Proofs.YtfpeholdlkfmoaaGreatDoor
/- Rows told as their elements' cells, one behind the other: what is read and stored at an element. -/
namespace Go.Proofs.YtfpeholdlkfmoaaGreatDoor
set_option linter.unusedSimpArgs false
set_option linter.unusedVariables false
open Go.RowKit
theorem takeN_of {α:Type}:∀ {n:Nat} {l:List α},n≤l.length→zA n l=some (l.take n)
 | 0,l,_=>by simp [zA]
 | n+1,[],h=>by simp at h
 | n+1,x :: l,h=>by simp [zA,takeN_of (n:=n) (l:=l) (by simpa using h)]
theorem takeAt_of {α:Type}:∀ {o n:Nat} {l:List α},o+n≤l.length→zB o n l=some ((l.drop o).take n)
 | 0,n,l,h=>by simp [zB,takeN_of (show n≤l.length by omega)]
 | o+1,n,[],h=>by simp at h
 | o+1,n,x :: l,h=>by simp only [zB,List.drop_succ_cons]; exact takeAt_of (by simp at h; omega)
section
variable {α:Type} {f:α→List SC} {z:Nat}
def zB2 (f:α→List SC) (xs:List α):List SC:=xs.flatMap f
theorem zF9 (hz:∀ x,(f x).length=z):∀ xs:List α,(zB2 f xs).length=xs.length * z
 | []=>by simp [zB2]
 | x :: xs=>by
  have:=zF9 hz xs
  simp only [zB2,List.flatMap_cons,List.length_append,List.length_cons,hz] at this ⊢
  rw [this,Nat.add_mul]; omega
theorem zW1 (xs ys:List α):zB2 f (xs++ys)=zB2 f xs++zB2 f ys:=by simp [zB2]
theorem flatG_one (x:α):zB2 f [x]=f x:=by simp [zB2]
theorem zP5 (hz:∀ x,(f x).length=z) {xs:List α} {i:Nat} {x:α} (hx:xs[i]?=some x):zB2 f xs=zB2 f (xs.take i)++f x++zB2 f (xs.drop (i+1))∧(zB2 f (xs.take i)).length=i * z:=by
 have hi:=(List.getElem?_eq_some_iff.1 hx).1
 have e:xs=xs.take i++x :: xs.drop (i+1):=by
  have h1:xs[i]=x:=(List.getElem?_eq_some_iff.1 hx).2
  rw [← h1,← List.drop_eq_getElem_cons hi,List.take_append_drop]
 refine ⟨?_,by rw [zF9 hz,List.length_take,Nat.min_eq_left (by omega)]⟩
 conv=>lhs; rw [e]
 rw [zW1]
 simp [zB2]
theorem flatG_take (hz:∀ x,(f x).length=z) {xs:List α} {i:Nat} {x:α} (hx:xs[i]?=some x):zB (i * z) z (zB2 f xs)=some (f x):=by
 obtain ⟨h1,h2⟩:=zP5 hz hx
 rw [takeAt_of (by rw [h1]; simp only [List.length_append,h2,hz]; omega),h1,List.append_assoc,← h2,List.drop_left,List.take_left' (hz x)]
theorem flatG_lay (hz:∀ x,(f x).length=z) {xs:List α} {i:Nat} {x y:α} (hx:xs[i]?=some x):zC (i * z) (f y) (zB2 f xs)=some (zB2 f (xs.set i y)):=by
 obtain ⟨h1,h2⟩:=zP5 hz hx
 have hi:=(List.getElem?_eq_some_iff.1 hx).1
 have hy:(xs.set i y)[i]?=some y:=by rw [List.getElem?_set_self hi]
 obtain ⟨h3,_⟩:=zP5 hz hy
 rw [List.take_set_of_le (Nat.le_refl i),List.drop_set_of_lt (by omega)] at h3
 rw [h1,h3]
 have key:∀ (a b c d:List SC),b.length=d.length→zC a.length d (a++b++c)=some (a++d++c):=by
  intro a b c d hbd
  induction a with
  | nil =>
   simp only [List.length_nil,List.nil_append]
   induction d generalizing b with
   | nil =>
    have:b=[]:=List.eq_nil_of_length_eq_zero hbd
    subst this; simp [zC]
   | cons q d ih =>
    cases b with
    | nil=>simp at hbd
    | cons p b=>simp [zC,ih b (by simpa using hbd)]
  | cons p a ih=>simp only [List.cons_append,List.length_cons,zC]; rw [ih]
 rw [← h2]
 exact key _ _ _ _ (by rw [hz,hz])
end
end Go.Proofs.YtfpeholdlkfmoaaGreatDoor
/- A walk through decided branches, which stops at open ones; lean where many guards stand in a row. -/
namespace Go.Proofs.YtfpeholdlkfmoaaGreatDoor
set_option linter.unusedSimpArgs false
set_option linter.unusedVariables false
open Go.RowKit
def VT (C:Cx) (ctr:Ctr) (rs:List ResultVar):Bool→Nat→List KI→Nat→List (Nat × SV)→List EN→Prop
 | false,_,k,nt,sl,en=>Run C k nt sl en
 | true,0,k,nt,sl,en=>Run C k nt sl en
 | true,_+1,[],nt,sl,en=>Run C [] nt sl en
 | true,n+1,.blk _ :: k,nt,sl,en=>VT C ctr rs true n k nt sl en
 | true,n+1,.ops _ [] :: k,nt,sl,en=>VT C ctr rs true n k nt (zJ C.kp sl) en
 | true,n+1,.ops all (⟨dst,op,ty,pos,af,none⟩ :: r) :: k,nt,sl,en =>
  qH C.P C.rd ctr nt (VT C ctr rs true n (.ops all r :: k) nt) (Run C (.ops all (⟨dst,op,ty,pos,af,none⟩ :: r) :: k) nt sl en) dst sl en op
 | true,n+1,.ops all (⟨dst,op,ty,pos,af,some (j,b)⟩ :: r) :: k,nt,sl,en =>
  match zD all j with
  | some ⟨some d,_,_,_,_,_⟩=>match qy sl d with
   | some (.c (.b x))=>match x,b with
    | true,true=>opG (x || !x) C.P C.rd ctr nt (VT C ctr rs (x || !x) n (.ops all r :: k) nt) (Run C (.ops all (⟨dst,op,ty,pos,af,some (j,b)⟩ :: r) :: k) nt sl en) dst sl en op
    | false,false=>opG (x || !x) C.P C.rd ctr nt (VT C ctr rs (x || !x) n (.ops all r :: k) nt) (Run C (.ops all (⟨dst,op,ty,pos,af,some (j,b)⟩ :: r) :: k) nt sl en) dst sl en op
    | true,false=>putG (x || !x) nt (VT C ctr rs (x || !x) n (.ops all r :: k) nt) (Run C (.ops all (⟨dst,op,ty,pos,af,some (j,b)⟩ :: r) :: k) nt sl en) dst (.c .u) sl en
    | false,true=>putG (x || !x) nt (VT C ctr rs (x || !x) n (.ops all r :: k) nt) (Run C (.ops all (⟨dst,op,ty,pos,af,some (j,b)⟩ :: r) :: k) nt sl en) dst (.c .u) sl en
   | some (.c .u)=>qI nt (VT C ctr rs true n (.ops all r :: k) nt) (Run C (.ops all (⟨dst,op,ty,pos,af,some (j,b)⟩ :: r) :: k) nt sl en) dst (.c .u) sl en
   | _=>Run C (.ops all (⟨dst,op,ty,pos,af,some (j,b)⟩ :: r) :: k) nt sl en
  | _=>Run C (.ops all (⟨dst,op,ty,pos,af,some (j,b)⟩ :: r) :: k) nt sl en
 | true,n+1,.code .skip :: k,nt,sl,en=>VT C ctr rs true n k nt sl en
 | true,n+1,.code (.seq a b) :: k,nt,sl,en=>VT C ctr rs true n (.code a :: .code b :: k) nt sl en
 | true,n+1,.code (.block id c) :: k,nt,sl,en=>VT C ctr rs true n (.code c :: .blk id :: k) nt sl en
 | true,n+1,.code (.exit id) :: k,nt,sl,en=>match zH id k with
  | some k'=>VT C ctr rs true n k' nt sl en
  | none=>Run C (.code (.exit id) :: k) nt sl en
 | true,n+1,.code (.cond c a b) :: k,nt,sl,en=>match ev sl c with
  | some (.c (.b x))=>match x with
   | true=>VT C ctr rs (x || !x) n (.code a :: k) nt sl en
   | false=>VT C ctr rs (x || !x) n (.code b :: k) nt sl en
  | _=>Run C (.code (.cond c a b) :: k) nt sl en
 | true,n+1,.code (.region _ ops false) :: k,nt,sl,en=>VT C ctr rs true n (.ops ops.toList ops.toList :: k) nt sl en
 | true,_+1,.code .ret :: k,nt,sl,en=>match qE C.P sl en rs with
  | some l=>Fin C rs (qG l) en
  | none=>Run C (.code .ret :: k) nt sl en
 | true,_+1,k,nt,sl,en=>Run C k nt sl en
section
variable {C:Cx} {ρ:Nat→RE} {nt:Nat} {sl:List (Nat × SV)} {en:List EN} {a:Act} {w:World}
variable {K:Act→World→Prop} {Q:Exit→Act→World→Prop}
theorem zA4 {ctr:Ctr} (hctr:zE8 C ctr) {rs:List ResultVar}:∀ (go:Bool) (n:Nat) (k:List KI) (sl:List (Nat × SV)) (en:List EN),VT C ctr rs go n k nt sl en→Run C k nt sl en
 | false,_,k,sl,en,h=>by simpa only [VT] using h
 | true,0,k,sl,en,h=>h
 | true,n+1,[],sl,en,h=>h
 | true,n+1,.blk id :: k,sl,en,h=>fun ρ a w hr=>zA4 hctr true n k sl en h ρ a w hr
 | true,n+1,.ops all [] :: k,sl,en,h=>fun ρ a w hr=>zA4 hctr true n k _ en h ρ a w (hr.trim _)
 | true,n+1,.ops all (⟨dst,op,ty,pos,af,none⟩ :: r) :: k,sl,en,h=>fun ρ a w hr=>by
  rcases zY3 hctr (o:=⟨dst,op,ty,pos,af,none⟩) (K:=wpList C.P all.toArray (KQ C k) r) (Q:=KQ C k) h hr (fun sl' en' ρ' a' w' hk hr'=>zA4 hctr true n _ sl' en' hk ρ' a' w' hr') with hst | hwp
  ·exact hst ρ a w hr
  ·rw [zN3]
   unfold wpList
   rw [if_pos (by simp [Region.wanted])]
   exact .inl hwp
 | true,n+1,.ops all (⟨dst,op,ty,pos,af,some (j,b)⟩ :: r) :: k,sl,en,h=>fun ρ a w hr=>by
  have skip:∀ sl',Rep C ρ nt sl' en a w→Region.wanted ⟨dst,op,ty,pos,af,some (j,b)⟩ (yielded all.toArray a.tmps)=false →
    qI nt (VT C ctr rs true n (.ops all r :: k) nt) (Run C (.ops all (⟨dst,op,ty,pos,af,some (j,b)⟩ :: r) :: k) nt sl en) dst (.c .u) sl' en→KQ C (.ops all (⟨dst,op,ty,pos,af,some (j,b)⟩ :: r) :: k) .normal a w:=by
   intro sl' hr' hw hp
   rcases zN9 hp hr' (v:=.c .u) trivial with hst | ⟨sl'',hk,hr''⟩
   ·exact hst ρ a w hr
   ·rw [zN3]
    unfold wpList
    rw [if_neg (by rw [hw]; simp)]
    exact zA4 hctr true n _ sl'' en hk ρ _ w hr''
  simp only [VT] at h
  split at h <;> try exact h ρ a w hr
  rename_i d _ _ _ _ _ hj
  rw [zA8] at hj
  have hy:∀ v,a.tmps[d]?=some v→yielded all.toArray a.tmps j=(match v with | .bool b=>some b | _=>none):=by
   intro v hv
   simp only [yielded,List.getElem?_toArray,hj,Option.bind_some,hv]
   cases v <;> rfl
  split at h <;> try exact h ρ a w hr
  ·rename_i x hx
   have h1:=(hr.tm d _ hx).1
   have h2:=hy _ h1
   have go:∀ (hxb:x=b),qH C.P C.rd ctr nt (VT C ctr rs true n (.ops all r :: k) nt) (Run C (.ops all (⟨dst,op,ty,pos,af,some (j,b)⟩ :: r) :: k) nt sl en) dst sl en op→KQ C (.ops all (⟨dst,op,ty,pos,af,some (j,b)⟩ :: r) :: k) .normal a w:=by
    intro hxb ha
    subst hxb
    rcases zY3 hctr (o:=⟨dst,op,ty,pos,af,some (j,x)⟩) (K:=wpList C.P all.toArray (KQ C k) r) (Q:=KQ C k) ha hr (fun sl' en' ρ' a' w' hk hr'=>zA4 hctr true n _ sl' en' hk ρ' a' w' hr') with hst | hwp
    ·exact hst ρ a w hr
    ·rw [zN3]
     unfold wpList
     rw [if_pos (by simp [Region.wanted,h2,SV.den,SC.den])]
     exact .inl hwp
   have no:∀ (hxb:x ≠ b),qI nt (VT C ctr rs true n (.ops all r :: k) nt) (Run C (.ops all (⟨dst,op,ty,pos,af,some (j,b)⟩ :: r) :: k) nt sl en) dst (.c .u) sl en→KQ C (.ops all (⟨dst,op,ty,pos,af,some (j,b)⟩ :: r) :: k) .normal a w:=by
    intro hxb hb
    refine skip _ hr ?_ hb
    simp [Region.wanted,h2,SV.den,SC.den]
    exact fun e=>hxb e
   cases x <;> cases b <;> simp only [Bool.not_true,Bool.not_false,Bool.or_true,Bool.or_false,opG,putG] at h
   ·exact go rfl h
   ·exact no (by decide) h
   ·exact no (by decide) h
   ·exact go rfl h
  ·rename_i hx
   have h1:=(hr.tm d _ hx).1
   have h2:=hy _ h1
   refine skip _ hr ?_ h
   simp [Region.wanted,h2,SV.den,SC.den,undef]
 | true,n+1,.code .skip :: k,sl,en,h=>fun ρ a w hr=>wp_skip (zA4 hctr true n k sl en h ρ a w hr)
 | true,n+1,.code (.seq x y) :: k,sl,en,h=>fun ρ a w hr=>wp_seq (zA4 hctr true n (.code x :: .code y :: k) sl en h ρ a w hr)
 | true,n+1,.code (.block id c) :: k,sl,en,h=>fun ρ a w hr=>wp_block (zA4 hctr true n (.code c :: .blk id :: k) sl en h ρ a w hr)
 | true,n+1,.code (.exit id) :: k,sl,en,h=>fun ρ a w hr=>by
  simp only [VT] at h
  split at h
  ·rename_i k' hk
   exact wp_exit (zT9 hk a w (zA4 hctr true n k' sl en h ρ a w hr))
  ·exact h ρ a w hr
 | true,n+1,.code (.cond c x y) :: k,sl,en,h=>fun ρ a w hr=>by
  simp only [VT] at h
  split at h <;> try exact h ρ a w hr
  rename_i t ht
  obtain ⟨e1,_⟩:=hr.ev_ok _ _ ht
  refine wp_cond (t:=t) e1 ?_
  cases t with
  | true=>exact zA4 hctr true n (.code x :: k) sl en h ρ a w hr
  | false=>exact zA4 hctr true n (.code y :: k) sl en h ρ a w hr
 | true,n+1,.code (.region id ops draw) :: k,sl,en,h=>fun ρ a w hr=>by
  cases draw with
  | true=>exact h ρ a w hr
  | false=>exact wp_region_list (zA4 hctr true n (.ops ops.toList ops.toList :: k) sl en h ρ a w hr)
 | true,n+1,.code (.loop c) :: k,sl,en,h=>h
 | true,n+1,.code (.rangeFunc _ _ _ _) :: k,sl,en,h=>h
 | true,n+1,.code (.scope _) :: k,sl,en,h=>h
 | true,n+1,.code (.label _) :: k,sl,en,h=>h
 | true,n+1,.code (.goto _) :: k,sl,en,h=>h
 | true,n+1,.code .ret :: k,sl,en,h=>fun ρ a w hr=>by
  simp only [VT] at h
  split at h
  ·rename_i l hl
   refine wp_ret (zS9 k a w (h ρ a w hr.hw hr.n0 ?_ hr.df fun fn hfn=>?_))
   ·exact resV_wf (hr.res _ _ hl).2
   ·subst hfn; exact (hr.resOk hl).1
  ·exact h ρ a w hr
 | true,n+1,.code (.refuse _) :: k,sl,en,h=>h
theorem jf (b:Bool):(true || b)=true:=rfl
theorem jg (b:Bool):(false || b)=b:=rfl
end
end Go.Proofs.YtfpeholdlkfmoaaGreatDoor
/- The document's answer, walked: Moment, Gone, Find. -/
namespace Go.Proofs.YtfpeholdlkfmoaaGreatDoor
set_option linter.unusedSimpArgs false
set_option linter.unusedVariables false
set_option maxHeartbeats 8000000
open Go.RowKit
set_option maxRecDepth 100000
theorem ref_moment (now e:Int) (hn0:1≤now) (hn1:now≤1099511627776) (w:World) :
  Calls Tryz.prog 26 #[.int .i64 now,.int .i64 e] w fun e' w'=>e'=.returned (.int .i64 (zJ1 now e))∧Below w.heap.size w w':=by
 refine zA9 Tryz.func26 rfl kp26 (S:=Non) (ρ:=fun _=>⟨0,[],[],0,none⟩) (en:=[]) [.c (.i .i64 now),.c (.i .i64 e)] Tryz.ntmps26 (At.nil _ _ _) (by simp [SV.wf,SC.wf]) (by simp) ?_
 intro C hC hP hk
 have hctr:=zK6 hP
 have fin:∀ x:Int,x=zJ1 now e→Fin C res26 (.c (.i .i64 x)) []:=fun x hx=>zL9 (v:=.c (.i .i64 (zJ1 now e))) hC hres26 (by rw [hx]) trivial
 (refine zH4 hctr (rs:=res26) 200 _ _ _ ?_; simp (maxSteps:=1000000) only [VC,qE,qF,qG,qH,qI,qK,qO,qR,qS,ev,qy,qz,zI,zJ,TE.sv,zK,↓reduceIte,reduceCtorEq,Nat.reduceEqDiff,Nat.reduceLT,zP,zQ,zR,zd,ze,zf,zg,zt,hk,res26,kp26])
 refine ⟨fun h=>fin _ ?_,fun h=>⟨fun h1=>fin _ ?_,fun h1=>⟨fun h2=>fin _ ?_,fun h2=>fin _ ?_⟩⟩⟩
 ·unfold zJ1; rw [if_pos h]
 ·unfold zJ1; rw [if_neg h,if_pos h1]
 ·unfold zJ1; rw [if_neg h,if_neg h1,if_pos h2]; exact IntWalk.i64_in _ (by omega)
 ·unfold zJ1; rw [if_neg h,if_neg h1,if_neg h2]
def zR7:List SV→Option (Prop × SV)
 | [.g [.s _,.i .u32 _,.s _,.i .i64 e,.i .u64 _,.i .i64 _,.b _,.b _],.c (.i .i64 now)]=>some (True,.c (.b (!decide (e=0) && decide (e≤now))))
 | _=>none
theorem ref_gone (x:It) (now:Int) (w:World) :
  Calls Tryz.prog 44 #[.agg (itA x),.int .i64 now] w fun e' w'=>e'=.returned (.bool (zE9 now x))∧Below w.heap.size w w':=by
 refine zA9 Tryz.func44 rfl kp44 (S:=Non) (ρ:=fun _=>⟨0,[],[],0,none⟩) (en:=[]) [.g (itS x),.c (.i .i64 now)] Tryz.ntmps44 (At.nil _ _ _) (by simp [SV.wf,SC.wf,wfs,itS]) (by simp) ?_
 intro C hC hP hk
 have hctr:=zK6 hP
 have fin:∀ b:Bool,b=zE9 now x→∀ en,Fin C res44 (.c (.b b)) en:=fun b hb en=>zL9 (v:=.c (.b (zE9 now x))) hC hres44 (by rw [hb]) trivial
 (refine zH4 hctr (rs:=res44) 200 _ _ _ ?_; simp (maxSteps:=1000000) only [VC,qE,qF,qG,qH,qI,qK,qO,qP,qR,qS,qV,qp,q0t,qu,qv,ev,qy,qz,zD,zF,zG,zI,zJ,TE.sv,zK,zM,↓reduceIte,reduceCtorEq,Nat.reduceEqDiff,Nat.reduceLT,zP,zQ,zR,zS,zV,zb,zc,zt,hP,hk,res44,kp44,itS])
 refine ⟨fun h=>fin _ ?_ _,fun h=>fin _ ?_ _⟩
 ·have hx:¬ x.exp=0:=by simpa using h
  unfold zE9; simp [hx]
 ·have hx:x.exp=0:=by simpa using h
  unfold zE9; simp [hx]
def RawI (w:World) (a:Option Addr) (xs:List It):Prop:=∀ k x,xs[k]?=some x→∃ g o,a=some ⟨g,o,none⟩∧g < w.heap.size∧∀ (j:Nat) v,x.cells[j]?=some v→w.cell? ⟨g,o+k * 8+j,none⟩=some v
theorem zU8 {D:Cx} {w:World} {g o k:Nat} {x:It} (hS:D.S=Non) (hw:D.w0=w) (hg:g < w.heap.size) (hc:∀ (j:Nat) v,x.cells[j]?=some v→w.cell? ⟨g,o+k * 8+j,none⟩=some v) :
  D.rd g (o+k * 8) 8=some (itS x)∧D.rd g (o+k * 8) 1=some [.s x.key]:=by
 refine ⟨rd_arg (vs:=x.cells) hS hw hg (fun j v hv=>hc j v hv) rfl,rd_arg (vs:=[.string ⟨x.key.toArray⟩]) hS hw hg (fun j v hv=>?_) rfl⟩
 have hj:j=0:=by have:=(List.getElem?_eq_some_iff.1 hv).1; simp at this; exact this
 subst hj
 exact hc 0 v hv
def enFd (a:Option Addr) (n c:Nat) (cas flush:Int):List EN:=[⟨(25,0,whole),[.v (.slice a n c),.i .u64 cas,.i .i64 flush],true⟩]
def slFd (k:List UInt8) (i:Nat):List (Nat × SV):=[(6,.c (.i .i64 (i:Int))),(2,.c (.p 0 0)),(1,.c (.s k))]
theorem ref_find (xs:List It) (cas flush:Int) (a:Option Addr) (c:Nat) (k:List UInt8) (w:World) (ha:RawI w a xs) (hs:Sorted xs) (hn:xs.length≤100000000) :
  Calls Tryz.prog 22 #[.agg #[.slice a xs.length c,.int .u64 cas,.int .i64 flush],.string ⟨k.toArray⟩] w fun e w'=>e=.returned (.tuple #[.int .i64 (atF xs k),.bool (isF xs k)])∧Below w.heap.size w w':=by
 obtain ⟨n,hnn⟩:∃ n,n=xs.length:=⟨_,rfl⟩
 rw [← hnn] at hn ⊢
 refine zA9 Tryz.func22 rfl kp22 (S:=Non) (ρ:=fun _=>⟨0,[],[],0,none⟩) (en:=[]) [.g [.v (.slice a n c),.i .u64 cas,.i .i64 flush],.c (.s k)] Tryz.ntmps22 (At.nil _ _ _) (by simp [SV.wf,SC.wf,wfs]) (by simp) ?_
 intro C hC hP hk
 have hctr:=zK6 hP
 have hn0:C.n0=0:=by rw [hC]; rfl
 have hS:C.S=Non:=by rw [hC]; rfl
 have hw0:C.w0=w:=by rw [hC]; rfl
 (refine zA4 hctr (rs:=res22) true 300 _ _ _ ?_; simp (maxSteps:=1000000) only [VT,qH,qI,qK,qO,q0t,qu,qv,ev,qy,qz,zF,zG,zI,zJ,zK,↓reduceIte,reduceCtorEq,Value.oneCell',Nat.reduceEqDiff,Nat.reduceLT,zP,zR,zt,hk,kp22])
 refine Run_loopD (ι:={ i:Nat // i≤n∧∀ j x,j < i→xs[j]?=some x→Op.bytesLess x.key k=true }) (fun i=>slFd k i.1) (fun _=>enFd a n c cas flush) (fun i=>n+1 - i.1) ⟨0,Nat.zero_le _,fun j x hj=>absurd hj (Nat.not_lt_zero _)⟩ (zC6 ⟨rfl,rfl,rfl,trivial⟩) rfl ?_
 rintro ⟨i,hin,hpre⟩ D dP dS dw dn dk _ hX hJ
 have hP0:=hP; have hk1:=hk; have hctr0:=hctr; have hn00:=hn0
 have hP:D.P=Tryz.prog:=by rw [dP]; exact hP0
 have hk:D.kp=kp22:=by rw [dk]; exact hk1
 have hctr:=zK6 hP
 have hn0:D.n0=0:=by rw [dn]; exact hn00
 have hS':D.S=Non:=by rw [dS]; exact hS
 have hw':D.w0=w:=by rw [dw]; exact hw0
 obtain ⟨j,hj⟩:∃ j:Int,j=(i:Int):=⟨_,rfl⟩
 show Run D _ _ [(6,.c (.i .i64 (i:Int))),(2,.c (.p 0 0)),(1,.c (.s k))] [⟨(25,0,whole),[.v (.slice a n c),.i .u64 cas,.i .i64 flush],true⟩]
 rw [← hj]
 have hji:j.toNat=i:=by omega
 by_cases hjn:j < (n:Int)
 ·have c1:decide (j < (n:Int))=true:=decide_eq_true hjn
  have p1:0≤j:=by omega
  have p3:IntKind.i64.wrap (j+1)=j+1:=IntWalk.i64_in _ (by omega)
  obtain ⟨x,hx⟩:∃ x,xs[i]?=some x:=⟨xs[i]'(by omega),List.getElem?_eq_getElem _⟩
  obtain ⟨g,o,rfl,hg,hc⟩:=ha i x hx
  have hr1:D.rd g (o+j.toNat * 8) 1=some [.s x.key]:=by rw [hji]; exact (zU8 hS' hw' hg hc).2
  cases hlt:Op.bytesLess x.key k with
  | true =>
   (refine zA4 hctr (rs:=res22) true 300 _ _ _ ?_; simp (maxSteps:=1000000) only [VT,jf,jZ,qH,qI,qK,qN,qO,qP,qR,qS,qV,qX,qe,qp,ev,qy,qz,zD,zI,zJ,zM,↓reduceIte,reduceCtorEq,Nat.reduceEqDiff,Nat.reduceLT,zP,zQ,zR,zT,zV,zo,zu,hP,hk,res22,kp22,p1,hjn,p3,hr1,hlt])
   refine Run_keep (f:=fun c=>c) (enK:=enFd (some ⟨g,o,none⟩) n c cas flush) (slK:=slFd k (i+1)) hn0 (fun _ _ _ _ h=>h) ?_ ?_ (hJ ⟨i+1,by omega,fun q y hq hy=>?_⟩ _ (by show n+1 - (i+1) < n+1 - i; omega) (fun d v h=>h))
   ·refine ⟨⟨_,rfl,fun ρ=>rfl,?_⟩,trivial⟩ <;> simp [wfs,SC.wf,enFd]
   ·refine ⟨⟨?_,_,rfl,fun ρ=>?_⟩,⟨?_,_,rfl,fun ρ=>rfl⟩,⟨?_,_,rfl,fun ρ=>rfl⟩,trivial⟩
    case refine_2=>show Value.int .i64 _=Value.int .i64 _; rw [hj]; rfl
    all_goals simp [SV.wf,SC.wf,enFd]
   ·rcases Nat.lt_or_ge q i with h | h
    ·exact hpre q y h hy
    ·obtain rfl:q=i:=by omega
     rw [hx] at hy; cases hy; exact hlt
  | false =>
   have hat:atF xs k=i:=zP9 (by omega) hpre (fun y hy=>by rw [hx] at hy; cases hy; exact hlt)
   have his:isF xs k=(x.key == k):=by unfold isF; rw [hat,hx]
   (refine zA4 hctr (rs:=res22) true 300 _ _ _ ?_; simp (maxSteps:=1000000) only [VT,jf,jg,jZ,qH,qI,qK,qN,qO,qP,qR,qS,qV,qX,qe,qp,ev,qy,qz,zD,zH,zI,zJ,zM,↓reduceIte,reduceCtorEq,Nat.reduceEqDiff,Nat.reduceLT,zP,zQ,zR,zT,zV,zW,zo,zu,hP,hk,res22,kp22,p1,hjn,hr1,hlt])
   refine hX rfl rfl ?_
   have hP:=hP0; have hk:=hk1; have hctr:=hctr0; have hn0:=hn00
   have hr1:C.rd g (o+j.toNat * 8) 1=some [.s x.key]:=by rw [hji]; exact (zU8 hS hw0 hg hc).2
   (refine zA4 hctr (rs:=res22) true 300 _ _ _ ?_; simp (maxSteps:=1000000) only [VT])
   (refine zB9 hctr (by rw [hP]; rfl) rs22_4 [] (ensure_type_of% (Cmp.of (by simp (maxSteps := 1000000) only [qK, qN, qO, qP, qR, qS, qV, qX, qe, qp, ev, qy, qz, zD, zM, ↓reduceIte, Nat.reduceEqDiff, zT, zo, zu, cE, jA, jC, jD, jE, jN, hP, p1, hjn, hr1]; rfl)) "" Cmp.mk) (by kernel_rfl) (by kernel_rfl) (by first | exact zA1 _ | kernel_rfl) (by kernel_rfl) (by rfl) (by rfl) (by first | exact zA0 _ | rfl) (by rfl) ?_ ?_; rotate_left; refine zA4 hctr (rs := res22) true 300 _ _ _ ?_; simp (maxSteps := 1000000) only [VT, qE, qF, qG, qy, zG, zI, zJ, ↓reduceIte, reduceCtorEq, Nat.reduceEqDiff, Nat.reduceAdd, zP, zQ, zt, jN, jO, hk, res22, kp22]; rotate_left; simp (maxSteps := 1000000) only [qK, qN, qO, qP, qR, qS, qV, qX, qe, qp, ev, qy, qz, zD, zM, ↓reduceIte, Nat.reduceEqDiff, zT, zn, zo, zt, zu, jD, jE, jN, jP, jQ, jR, jS, jT, hP, p1, hjn, hr1])
   exact zL9 (v:=.t [.c (.i .i64 (atF xs k)),.c (.b (isF xs k))]) hC hres22 (by rw [hat,his,hj]) (by simp [SV.wf,TE.wf,SC.wf])
 ·have c1:decide (j < (n:Int))=false:=decide_eq_false hjn
  have hat:atF xs k=i:=zP9 (by omega) hpre (fun y hy=>by have:=(List.getElem?_eq_some_iff.1 hy).1; omega)
  have his:isF xs k=false:=by unfold isF; rw [hat,List.getElem?_eq_none (by omega)]
  (refine zA4 hctr (rs:=res22) true 300 _ _ _ ?_; simp (maxSteps:=1000000) only [VT,jg,jd,qH,qI,qK,qN,qO,qP,qR,qS,qV,qe,qp,ev,qy,qz,zD,zH,zI,zJ,zM,↓reduceIte,reduceCtorEq,Nat.reduceEqDiff,Nat.reduceLT,zP,zQ,zR,zW,zu,hP,hk,res22,kp22,c1])
  refine hX rfl rfl ?_
  have hP:=hP0; have hk:=hk1; have hctr:=hctr0; have hn0:=hn00
  (refine zA4 hctr (rs:=res22) true 300 _ _ _ ?_; simp (maxSteps:=1000000) only [VT])
  (refine zB9 hctr (by rw [hP]; rfl) rs22_4 [] (ensure_type_of% (Cmp.of (by simp (maxSteps := 1000000) only [qK, qN, qO, qP, qR, qS, qV, qe, qp, ev, qy, qz, zD, zM, ↓reduceIte, Nat.reduceEqDiff, zu, cE, jA, jC, jD, jE, jN, hP, c1]; rfl)) "" Cmp.mk) (by kernel_rfl) (by kernel_rfl) (by first | exact zA1 _ | kernel_rfl) (by kernel_rfl) (by rfl) (by rfl) (by first | exact zA0 _ | rfl) (by rfl) ?_ ?_; rotate_left; refine zA4 hctr (rs := res22) true 300 _ _ _ ?_; simp (maxSteps := 1000000) only [VT, qE, qF, qG, qy, zG, zI, zJ, ↓reduceIte, reduceCtorEq, Nat.reduceEqDiff, Nat.reduceAdd, zP, zQ, zt, jN, jO, hk, res22, kp22]; rotate_left; simp (maxSteps := 1000000) only [qK, qN, qO, qP, qR, qS, qV, qe, qp, ev, qy, qz, zD, zM, ↓reduceIte, Nat.reduceEqDiff, zT, zn, zt, zu, jD, jE, jN, jP, jQ, jR, jS, jT, hP, c1])
  exact zL9 (v:=.t [.c (.i .i64 (atF xs k)),.c (.b (isF xs k))]) hC hres22 (by rw [hat,his,hj]) (by simp [SV.wf,TE.wf,SC.wf])
end Go.Proofs.YtfpeholdlkfmoaaGreatDoor
/- A state and a command as arguments, opened. -/
namespace Go.Proofs.YtfpeholdlkfmoaaGreatDoor
set_option linter.unusedSimpArgs false
set_option linter.unusedVariables false
open Go.ChangeShapes Go.WideShapes Go.ChangeAt Go.RowKit Go.Deep
theorem rows_cell {H:Type} {enc:TypeId × Value→H} {P:Program} {w:World} {t e:TypeId} {ks:List KD} {u:Value} {m:Nat} {x:DataW H × List MemPlace} (ht:P.underlying t=some (.slice e)) (hks:kinds P e=some (ks.map some)) (hpos:0 < ks.length) (hf:DataW.trod enc P w 0 (fun _=>true) true m t [u]=some x) :
  ∃ (A:Option Addr) (n c:Nat),u=.slice A n c∧n≤maxLen∧∀ k,k < n→∃ b o,A=some ⟨b,o,none⟩∧b < w.heap.size∧∀ j kd,ks[j]?=some kd→∃ u,w.cell? ⟨b,o+k * ks.length+j,none⟩=some u∧kd.ok u:=by
 unfold kinds at hks
 split at hks <;> try cases hks
 rename_i fs hu
 split at hks <;> simp only [Option.some.injEq,reduceCtorEq] at hks
 rename_i hone
 simp only [Bool.and_eq_true,beq_iff_eq] at hone
 obtain ⟨A,n,c,jB,hn,hel⟩:=open_structs ht hu hone.1 hone.2 hf
 have e0:u=.slice A n c:=by simpa using jB
 have hsz:fs.size=ks.length:=by have:=congrArg List.length hks; simpa using this
 have hat:∀ (j:Nat) (kd:KD),ks[j]?=some kd→∃ f,fs[j]?=some f∧kdOf P f.type=some kd:=fun j kd hj=>by
  have h1:(fs.toList.map fun f=>kdOf P f.type)[j]?=(ks.map some)[j]?:=by rw [hks]
  rw [List.getElem?_map,List.getElem?_map,hj] at h1
  simp only [Option.map_some,Option.map_eq_some_iff] at h1
  obtain ⟨f,hf1,hf2⟩:=h1
  exact ⟨f,by simpa using hf1,hf2⟩
 refine ⟨A,n,c,e0,hn,fun k hk=>?_⟩
 obtain ⟨k0,hk0⟩:∃ k0,ks[0]?=some k0:=⟨ks[0]'hpos,List.getElem?_eq_getElem _⟩
 obtain ⟨f0,hf0,_⟩:=hat 0 k0 hk0
 obtain ⟨a,ha,hj⟩:=hel 0 (by omega)
 obtain ⟨v0,_,_,hc0,_⟩:=hj 0 f0 hf0
 rw [Nat.zero_mul,Nat.zero_add] at hc0
 obtain ⟨b,o,rfl,hb⟩:=plain_addr hc0
 refine ⟨b,o,ha,hb,fun j kd hjk=>?_⟩
 obtain ⟨f,hf1,hf2⟩:=hat j kd hjk
 obtain ⟨a',ha',hj'⟩:=hel k hk
 rw [ha] at ha'; cases ha'
 obtain ⟨u,y,m,hc,hr⟩:=hj' j f hf1
 rw [hsz,Go.WideShapes.add_plain,← Nat.add_assoc] at hc
 exact ⟨u,hc,kd_cell hf2 hr⟩
def itKs:List KD:=[.s,.i .u32,.s,.i .i64,.i .u64,.i .i64,.b,.b]
def itOf (u:Nat→Value):It:=⟨strV (u 0),intV (u 1),strV (u 2),intV (u 3),intV (u 4),intV (u 5),truV (u 6),truV (u 7)⟩
def ItW (x:It):Prop:=x.key.length≤maxLen∧x.val.length≤maxLen∧x.exp≤9223372036854775807
set_option maxRecDepth 100000 in
theorem open_items {H:Type} {enc:TypeId × Value→H} {W:World} {u:Value} {m:Nat} {x:DataW H × List MemPlace} (h:DataW.trod enc Tryz.prog W 0 (fun _=>true) true m 22 [u]=some x) :
  ∃ (A:Option Addr) (c:Nat) (xs:List It),u=.slice A xs.length c∧xs.length≤maxLen∧RawI W A xs∧∀ x∈xs,ItW x:=by
 obtain ⟨A,n,c,rfl,hn,hel⟩:=rows_cell (ks:=itKs) Tryz.underlying22 (by kernel_rfl) (by decide) h
 obtain ⟨F,hF⟩:∃ F:Nat→It,F=fun k=>itOf fun j=>match A with | some a=>(W.cell? ⟨a.block,a.off+k * 8+j,none⟩).getD undef | none=>undef:=⟨_,rfl⟩
 have key:∀ k,k < n→∃ b o,A=some ⟨b,o,none⟩∧b < W.heap.size∧(∀ (j:Nat) v,(F k).cells[j]?=some v→W.cell? ⟨b,o+k * 8+j,none⟩=some v)∧ItW (F k):=by
  intro k hk
  obtain ⟨b,o,rfl,hb,hj⟩:=hel k hk
  have hlen:itKs.length=8:=rfl
  rw [hlen] at hj
  obtain ⟨q0,c0,l0,rfl,k0⟩:=hj 0 _ rfl
  obtain ⟨q1,c1,n1,rfl,w1⟩:=hj 1 _ rfl
  obtain ⟨q2,c2,l2,rfl,k2⟩:=hj 2 _ rfl
  obtain ⟨q3,c3,n3,rfl,w3⟩:=hj 3 _ rfl
  obtain ⟨q4,c4,n4,rfl,w4⟩:=hj 4 _ rfl
  obtain ⟨q5,c5,n5,rfl,_⟩:=hj 5 _ rfl
  obtain ⟨q6,c6,b6,rfl⟩:=hj 6 _ rfl
  obtain ⟨q7,c7,b7,rfl⟩:=hj 7 _ rfl
  have e:F k=⟨l0,n1,l2,n3,n4,n5,b6,b7⟩:=by
   rw [hF]
   simp only [itOf,c0,c1,c2,c3,c4,c5,c6,c7,Option.getD_some]
   rfl
  refine ⟨b,o,rfl,hb,?_,?_⟩
  ·rw [e]
   intro j v hv
   have hj16:j < 8:=(List.getElem?_eq_some_iff.1 hv).1
   have:j=0∨j=1∨j=2∨j=3∨j=4∨j=5∨j=6∨j=7:=by omega
   rcases this with rfl | rfl | rfl | rfl | rfl | rfl | rfl | rfl
   ·rw [c0]; exact hv
   ·rw [c1]; exact hv
   ·rw [c2]; exact hv
   ·rw [c3]; exact hv
   ·rw [c4]; exact hv
   ·rw [c5]; exact hv
   ·rw [c6]; exact hv
   ·rw [c7]; exact hv
  ·rw [e]
   have u3:=bounds_i64 w3
   exact ⟨k0,k2,by show n3≤_; omega⟩
 refine ⟨A,c,(List.range n).map F,by simp,by simpa using hn,fun k x hx=>?_,fun x hx=>?_⟩
 ·rw [List.getElem?_map,Option.map_eq_some_iff] at hx
  obtain ⟨k',hk',rfl⟩:=hx
  obtain ⟨hlt,he⟩:=List.getElem?_eq_some_iff.1 hk'
  simp at hlt he
  subst he
  obtain ⟨b,o,h1,h2,h3,_⟩:=key k hlt
  exact ⟨b,o,h1,h2,h3⟩
 ·obtain ⟨k,hk,rfl⟩:=List.mem_map.1 hx
  obtain ⟨_,_,_,_,_,h4⟩:=key k (by simpa using hk)
  exact h4
theorem one_cell {cs:List Value} {n:Nat} (h:n < cs.length):∃ u,cs[n]?=some u∧(cs.drop n).take 1=[u]:=
 ⟨cs[n]'h,List.getElem?_eq_getElem h,by rw [List.drop_eq_getElem_cons h]; rfl⟩
set_option maxRecDepth 100000 in
theorem open_state {H:Type} {enc:TypeId × Value→H} {W:World} {base:Nat} {v:Value} {d:DataW H} {ps:List MemPlace} (hv:Value.okWide Tryz.prog W .any base 25 v) (h:DataW.Trod enc Tryz.prog W 0 (fun _=>true) true 25 v d ps) :
  ∃ (A:Option Addr) (c:Nat) (X:St),v=.agg #[.slice A X.items.length c,.int .u64 X.cas,.int .i64 X.flush]∧X.items.length≤maxLen∧RawI W A X.items∧∀ x∈X.items,ItW x:=by
 have hu:=Tryz.underlying25
 obtain ⟨cs,rfl,hsz⟩:=okWide_struct hu hv
 obtain ⟨fuel,hf⟩:=h
 obtain ⟨ys,n',_,_,hcl,hyl,hf⟩:=DataW.trod_struct hu hf
 have hcells:(Value.agg cs).cells.toList=cs.toList:=rfl
 rw [hcells] at hcl hf
 have hc3:Tryz.prog.cellsOf 25=3:=by kernel_rfl
 rw [hc3] at hcl
 have hci:Tryz.prog.cellsOf 2=1:=by kernel_rfl
 have hcu:Tryz.prog.cellsOf 23=1:=by kernel_rfl
 have jB:Tryz.prog.cellsOf 22=1:=by kernel_rfl
 have hy:∀ i,i < 3→∃ y,ys[i]?=some y:=fun i hi=>⟨_,List.getElem?_eq_getElem (by rw [hyl]; exact hi)⟩
 obtain ⟨y0,e0⟩:=hy 0 (by omega)
 obtain ⟨y1,e1⟩:=hy 1 (by omega)
 obtain ⟨y2,e2⟩:=hy 2 (by omega)
 have f0:DataW.trod enc Tryz.prog W 0 (fun _=>true) true n' 22 ((cs.toList.drop 0).take (Tryz.prog.cellsOf 22))=some y0:=(hf 0 _ rfl).trans e0
 rw [jB] at f0
 have f1:DataW.trod enc Tryz.prog W 0 (fun _=>true) true n' 23 ((cs.toList.drop 1).take (Tryz.prog.cellsOf 23))=some y1:=(hf 1 _ rfl).trans e1
 rw [hcu] at f1
 have f2:DataW.trod enc Tryz.prog W 0 (fun _=>true) true n' 2 ((cs.toList.drop 2).take (Tryz.prog.cellsOf 2))=some y2:=(hf 2 _ rfl).trans e2
 rw [hci] at f2
 obtain ⟨u0,c0,t0⟩:=one_cell (cs:=cs.toList) (n:=0) (by omega)
 obtain ⟨u1,c1,t1⟩:=one_cell (cs:=cs.toList) (n:=1) (by omega)
 obtain ⟨u2,c2,t2⟩:=one_cell (cs:=cs.toList) (n:=2) (by omega)
 rw [t0] at f0; rw [t1] at f1; rw [t2] at f2
 obtain ⟨A,c,xs,rfl,hn,hr,hx⟩:=open_items f0
 obtain ⟨n1,rfl,_⟩:=kd_cell (kd:=.i .u64) (by kernel_rfl) f1
 obtain ⟨n2,rfl,_⟩:=kd_cell (kd:=.i .i64) (by kernel_rfl) f2
 refine ⟨A,c,⟨xs,n1,n2⟩,?_,hn,hr,hx⟩
 congr 1
 apply Array.toList_inj.1
 apply List.ext_getElem?
 intro j
 match j with
 | 0=>exact c0
 | 1=>exact c1
 | 2=>exact c2
 | j+3=>rw [List.getElem?_eq_none (by omega),List.getElem?_eq_none (by simp)]
theorem open_struct {H:Type} {enc:TypeId × Value→H} {P:Program} {w:World} {base:Nat} {t:TypeId} {ks:List KD} {v:Value} {d:DataW H} {ps:List MemPlace} (hks:kinds P t=some (ks.map some)) (hv:Value.okWide P w .any base t v) (h:DataW.Trod enc P w 0 (fun _=>true) true t v d ps) :
  ∃ cs:Array Value,v=.agg cs∧cs.size=ks.length∧∀ (j:Nat) (kd:KD),ks[j]?=some kd→∃ u,cs[j]?=some u∧kd.ok u:=by
 unfold kinds at hks
 split at hks <;> try cases hks
 rename_i fs hu
 split at hks <;> simp only [Option.some.injEq,reduceCtorEq] at hks
 rename_i hone
 simp only [Bool.and_eq_true,beq_iff_eq] at hone
 obtain ⟨cs,rfl,hsz⟩:=okWide_struct hu hv
 obtain ⟨fuel,hf⟩:=h
 obtain ⟨ys,n',_,_,hcl,hyl,hf⟩:=DataW.trod_struct hu hf
 have hfsz:fs.size=ks.length:=by have:=congrArg List.length hks; simpa using this
 have hcsz:cs.size=ks.length:=by rw [hsz,hone.2,hfsz]
 have hcells:(Value.agg cs).cells.toList=cs.toList:=rfl
 refine ⟨cs,rfl,hcsz,fun j kd hj=>?_⟩
 have h1:(fs.toList.map fun f=>kdOf P f.type)[j]?=(ks.map some)[j]?:=by rw [hks]
 rw [List.getElem?_map,List.getElem?_map,hj] at h1
 simp only [Option.map_some,Option.map_eq_some_iff] at h1
 obtain ⟨f,hf1,hf2⟩:=h1
 have hfj:fs[j]?=some f:=by simpa using hf1
 obtain ⟨ho,hk⟩:=hone_of hone.1 j f hfj
 have hjl:j < cs.toList.length:=by rw [Array.length_toList,hcsz]; exact (List.getElem?_eq_some_iff.1 hj).1
 have h2:=hf j f hfj
 rw [ho,hk,hcells,show (cs.toList.drop j).take 1=[cs.toList[j]'hjl] from by rw [List.drop_eq_getElem_cons hjl]; rfl] at h2
 have hys:ys[j]?=some (ys[j]'(by rw [hyl]; exact (Array.getElem?_eq_some_iff.1 hfj).1)):=List.getElem?_eq_getElem _
 rw [hys] at h2
 refine ⟨_,?_,kd_cell hf2 h2⟩
 rw [← Array.getElem?_toList]
 exact List.getElem?_eq_getElem hjl
set_option maxRecDepth 100000 in
theorem open_cmd {H:Type} {enc:TypeId × Value→H} {W:World} {base:Nat} {v:Value} {d:DataW H} {ps:List MemPlace} (hv:Value.okWide Tryz.prog W .any base 28 v) (h:DataW.Trod enc Tryz.prog W 0 (fun _=>true) true 28 v d ps) :
  ∃ cd:Cd,v=.agg (cdA cd)∧CdOk cd:=by
 obtain ⟨cs,rfl,hsz,hj⟩:=open_struct (ks:=cmdKs) (by kernel_rfl) hv h
 have hlen:cmdKs.length=16:=rfl
 rw [hlen] at hsz
 obtain ⟨q0,c0,n0,rfl,_⟩:=hj 0 _ rfl
 obtain ⟨q1,c1,n1,rfl,_⟩:=hj 1 _ rfl
 obtain ⟨q2,c2,l2,rfl,k2⟩:=hj 2 _ rfl
 obtain ⟨q3,c3,l3,rfl,k3⟩:=hj 3 _ rfl
 obtain ⟨q4,c4,n4,rfl,_⟩:=hj 4 _ rfl
 obtain ⟨q5,c5,n5,rfl,_⟩:=hj 5 _ rfl
 obtain ⟨q6,c6,b6,rfl⟩:=hj 6 _ rfl
 obtain ⟨q7,c7,n7,rfl,_⟩:=hj 7 _ rfl
 obtain ⟨q8,c8,b8,rfl⟩:=hj 8 _ rfl
 obtain ⟨q9,c9,n9,rfl,w9⟩:=hj 9 _ rfl
 obtain ⟨q10,c10,n10,rfl,w10⟩:=hj 10 _ rfl
 obtain ⟨q11,c11,b11,rfl⟩:=hj 11 _ rfl
 obtain ⟨q12,c12,b12,rfl⟩:=hj 12 _ rfl
 obtain ⟨q13,c13,n13,rfl,_⟩:=hj 13 _ rfl
 obtain ⟨q14,c14,n14,rfl,_⟩:=hj 14 _ rfl
 obtain ⟨q15,c15,b15,rfl⟩:=hj 15 _ rfl
 refine ⟨⟨n0,n1,l2,l3,n4,n5,b6,n7,b8,n9,n10,b11,b12,n13,n14,b15⟩,?_,?_⟩
 ·congr 1
  apply Array.toList_inj.1
  apply List.ext_getElem?
  intro j
  rw [Array.getElem?_toList]
  rcases Nat.lt_or_ge j 16 with hj8 | hj8
  ·have:j=0∨j=1∨j=2∨j=3∨j=4∨j=5∨j=6∨j=7∨j=8∨j=9∨j=10∨j=11∨j=12∨j=13∨j=14∨j=15:=by omega
   rcases this with rfl | rfl | rfl | rfl | rfl | rfl | rfl | rfl | rfl | rfl | rfl | rfl | rfl | rfl | rfl | rfl <;> (first | rw [c0] | rw [c1] | rw [c2] | rw [c3] | rw [c4] | rw [c5] | rw [c6] | rw [c7] | rw [c8] | rw [c9] | rw [c10] | rw [c11] | rw [c12] | rw [c13] | rw [c14] | rw [c15]) <;> rfl
  ·rw [Array.getElem?_eq_none (by omega),List.getElem?_eq_none (by simpa [cdA] using hj8)]
 ·have u9:=bounds_u64 w9
  have u10:=bounds_u64 w10
  exact ⟨k2,k3,u9.1,by show n9 < _; omega,u10.1,by show n10 < _; omega⟩
end Go.Proofs.YtfpeholdlkfmoaaGreatDoor
/- A walk that comes to a panic: an operation that panics, a call that does. -/
namespace Go.Proofs.YtfpeholdlkfmoaaGreatDoor
set_option linter.unusedSimpArgs false
set_option linter.unusedVariables false
open Go.RowKit
section
variable {C:Cx} {nt:Nat} {sl:List (Nat × SV)} {en:List EN} {k:List KI}
variable {dst:Option Nat} {op:Op} {ty:TypeId} {pos:String} {af:Array Edge} {all r:List Oper} {gd:Option (Nat × Bool)}
theorem zH5 {P:Program} {fn:Func} {R:Ending→World→Prop} {S:Nat→Prop} {w0:World} {ρ0:Nat→RE} {n0:Nat} {kp:List Nat} (hC:C=zL P fn R S w0 ρ0 n0 kp) {rs:List ResultVar} (hrs:fn.results.toList=rs) {v:SV}
  (h:∀ ρ w,Hw C ρ (· < en.length) en w→C.n0≤en.length→v.wf (· < en.length)→R (.returned (v.den ρ)) w):Fin C rs v en:=
 zX3 (P:=P) (R:=R) (by rw [hC]; exact zW5) hrs h
theorem zL1 {ι:Type} {c:Code} {k:List KI} (slF:ι→List (Nat × SV)) (enF:ι→List EN) (μ:ι→Nat) (x0:ι) (h0:sub (slF x0) sl) (he0:enF x0=en)
  (round:∀ (x:ι) (D:Cx),D.P=C.P→D.S=C.S→D.w0=C.w0→D.n0=C.n0→D.ρ0=C.ρ0→D.kp=C.kp→D.df=C.df→(∀ ch a w,C.Q (.panic ch) a w→D.Q (.panic ch) a w)→(∀ a w,C.Q .ret a w→D.Q .ret a w) →
   (∀ {id:Nat} {k' kk:List KI} {s:List (Nat × SV)} {e:List EN},zH id kk=none→zH id k=some k'→Run C k' nt s e→Run D (.code (.exit id) :: kk) nt s e) →
   (∀ y s,μ y < μ x→sub (slF y) s→Run D [] nt s (enF y))→Run D [.code c] nt (slF x) (enF x)):Run C (.code (.loop c) :: k) nt sl en:=
 Run_loop slF enF μ x0 h0 he0 fun x J hJ=>round x (lpC C k J) rfl rfl rfl rfl rfl rfl rfl (fun ch a w h=>zT7 k ch a w h) (fun a w h=>zS9 k a w h) (fun h1 h2 h3=>zZ2 h1 h2 h3) hJ
end
end Go.Proofs.YtfpeholdlkfmoaaGreatDoor
/- An entry whose cells were changed by a call; a store at one place of an element of a row. -/
namespace Go.Proofs.YtfpeholdlkfmoaaGreatDoor
set_option linter.unusedSimpArgs false
set_option linter.unusedVariables false
open Go.RowKit
section
variable {α:Type} {f:α→List SC} {z:Nat}
end
end Go.Proofs.YtfpeholdlkfmoaaGreatDoor
/- A call that hands back memory of its own, as a call of a walk: its block becomes an entry. -/
namespace Go.Proofs.YtfpeholdlkfmoaaGreatDoor
set_option linter.unusedSimpArgs false
set_option linter.unusedVariables false
open Go.RowKit
def Made (w w':World) (e:EN) (vals:List Value) (r:RE):Prop:=
 r.pre.length=e.ty.2.1∧e.ty.2.2 r∧(r.nl=none→w.heap.size≤r.blk∧w'.heap[r.blk]?=some (.cells (r.pre++vals++r.post).toArray e.ty.1 (0,0)))∧(r.nl ≠ none→e.cells=[])∧(r.nl ≠ none→w.heap.size≤r.blk)
theorem zO2 {C:Cx} {nE N:Nat} {mk:Nat→Prop} {en en':List EN} {f:FuncId} {xs:List SV} {v:SV} {e:EN} {vals:List Value} (hent:∀ args w,(callFunc f args).run C.P w=.ok (.enter f args) w)
  (hmk:∀ q,mk q ↔ q=N) (hn0:C.n0≤N) (hN:zD en' N=some e) (hq:∀ q,q ≠ N→zD en' q=zD en q) (hl:e.ty.1 ≠ zG0) (hcells:∀ ρ,zC4 ρ e.cells=vals) (hwf:∀ pr,wfs pr e.cells) (hvw:∀ pr:Nat→Prop,pr N→v.wf pr)
  (h:∀ ρ pr w,Hw C ρ pr en w→(∀ c,c < nE→pr c)→(∀ x∈xs,x.wf pr)→Calls C.P f (xs.map (SV.den ρ)).toArray w fun z w'=>∃ r,Made w w' e vals r∧(∀ ρ':Nat→RE,(∀ c,pr c→ρ' c=ρ c)→ρ' N=r→z=.returned (v.den ρ'))∧Below w.heap.size w w') :
  zL3 C nE mk en en' f xs v:=by
 refine ⟨hent,?_⟩
 intro ρ pr w hpr hmn hw hex hx
 refine (h ρ pr w hw hpr hx).mono ?_
 rintro z w' ⟨r,⟨k1,k2,k3,k4,k6⟩,k5,hb⟩
 have lN:¬ pr N:=hmn _ ((hmk _).2 rfl)
 have hsame:(fun q=>pr q∨mk q)=fun q=>pr q∨q=N:=funext fun q=>propext (or_congr_right (hmk q))
 have hup:zM2 ρ N r N=r:=if_pos rfl
 obtain ⟨g1,g2⟩:=Hw.rebuild (C:=C) (ρ:=ρ) (pr:=pr) (en:=en) (en':=en') (w:=w) (w':=w') (N:=N) (e:=e) (T:=Non) r hw lN hn0 (Upd.of_below hb) (fun _ _ h=>h.elim)
  (fun q hpq=>.inl ⟨hq q (fun e=>lN (e ▸ hpq)),fun _ h=>h⟩) hN
  ⟨fun hh=>by rw [hup] at hh ⊢; rw [hcells]; exact (k3 hh.2).2,hwf _,fun hd=>absurd hd hl,fun hh=>by rw [hup] at hh; exact k4 hh⟩ ⟨k1,k2⟩
  (fun hnl q hpq hd=>by
   rw [hq q (fun e=>lN (e ▸ hpq))] at hd
   have:=hw.lt hpq hd
   have:=(k3 hnl).1
   omega)
  (fun _=>.inr (by
   have:=hw.up.size
   by_cases hnl:r.nl=none
   ·have:=(k3 hnl).1; omega
   ·have:=k6 hnl; omega))
 rw [hsame]
 exact ⟨zM2 ρ N r,g1,k5 _ g1 hup,hvw _ (.inr rfl),g2,fun q hq'=>by rw [(hmk q).1 hq',hN]; exact fun h=>nomatch h⟩
theorem zV6 {nE j:Nat} {crs:List Cr} (h:Cr.h j ∉ crs) (q:Nat):¬ mkC nE crs j q:=fun ⟨_,h2⟩=>h (List.mem_of_getElem? h2)
theorem zI7 {nE j:Nat} {rest:List Cr} (h:Cr.h j ∉ rest) (q:Nat):mkC nE (.h j :: rest) j q ↔ q=nE:=by
 constructor
 ·rintro ⟨h1,h2⟩
  cases hk:q - nE with
  | zero=>omega
  | succ k =>
   rw [hk,List.getElem?_cons_succ] at h2
   exact absurd (List.mem_of_getElem? h2) h
 ·rintro rfl
  exact ⟨Nat.le_refl _,by rw [Nat.sub_self]; rfl⟩
theorem soft_h {C:Cx} {nE:Nat} {mk:Nat→Prop} {en:List EN} {f:FuncId} {xs:List SV} {v:SV} (hent:∀ args w,(callFunc f args).run C.P w=.ok (.enter f args) w) (hmk:∀ q,¬ mk q)
  (h:∀ ρ pr w,Hw C ρ pr en w→(∀ c,c < nE→pr c)→(∀ x∈xs,x.wf pr)→v.wf pr∧Calls C.P f (xs.map (SV.den ρ)).toArray w fun z w'=>z=.returned (v.den ρ)∧Below w.heap.size w w'):zL3 C nE mk en en f xs v:=by
 refine ⟨hent,?_⟩
 intro ρ pr w hpr hmn hw hex hx
 obtain ⟨hv,hc⟩:=h ρ pr w hw hpr hx
 refine hc.mono ?_
 rintro z w' ⟨rfl,hb⟩
 exact ⟨ρ,fun _ _=>rfl,rfl,SV.wf_mono hv (fun _ h=>.inl h),(hw.same hb).iff (fun q=>⟨fun h=>h.resolve_right (hmk q),.inl⟩),fun q hq=>absurd hq (hmk q)⟩
end Go.Proofs.YtfpeholdlkfmoaaGreatDoor
/- A slice in new memory, as a walk hands it back. Printed by gen_refw2.py. -/
namespace Go.Proofs.YtfpeholdlkfmoaaGreatDoor
set_option linter.unusedSimpArgs false
set_option linter.unusedVariables false
open Go.RowKit
def RowOk (b:Nat) (w':World) (r:RE) (e z n:Nat) (vals:List Value):Prop:=
 b≤r.blk∧rowP z n vals.length r∧(r.nl=none→w'.heap[r.blk]?=some (.cells (r.pre++vals++r.post).toArray e (0,0)))∧(r.nl ≠ none→vals=[])
def nilR (b:Nat):RE:=⟨b,[],[],0,some none⟩
theorem RowOk.nil (b:Nat) (w':World) (e z:Nat):RowOk b w' (nilR b) e z 0 []:=
 ⟨Nat.le_refl _,⟨by simp,.inr ⟨rfl,rfl,rfl⟩⟩,(fun h=>by cases h),fun _=>rfl⟩
theorem RowOk.mono {b b':Nat} {w':World} {r:RE} {e z n:Nat} {vals:List Value} (h:RowOk b w' r e z n vals) (hb:b'≤b):RowOk b' w' r e z n vals:=⟨Nat.le_trans hb h.1,h.2⟩
theorem RowOk.upd {b:Nat} {w w':World} {r:RE} {e z n:Nat} {vals:List Value} (h:RowOk b w r e z n vals) (hu:Below w.heap.size w w'):RowOk b w' r e z n vals:=
 ⟨h.1,h.2.1,fun hn=>by
  have h1:=h.2.2.1 hn
  rw [hu.block r.blk (Array.getElem?_eq_some_iff.1 h1).1]; exact h1,h.2.2.2⟩
theorem RowOk.made {w w':World} {r:RE} {e z n:Nat} {vals:List Value} {cells:List SC} (h:RowOk w.heap.size w' r e z n vals) (hc:∀ ρ,zC4 ρ cells=vals):Made w w' (rwE e z n cells) vals r:=by
 obtain ⟨h1,h2,h3,h4⟩:=h
 have hl:cells.length=vals.length:=by rw [← hc (fun _=>⟨0,[],[],0,none⟩),zE2]
 refine ⟨?_,?_,fun hn=>⟨h1,h3 hn⟩,fun hn=>?_,fun _=>h1⟩
 ·rcases h2.2 with h | h
  ·show r.pre.length=0; rw [h.2.1]; rfl
  ·show r.pre.length=0; rw [h.2.2]; rfl
 ·show rowP z n cells.length r
  rw [hl]; exact h2
 ·have:=h4 hn
  rw [this] at hl
  exact List.eq_nil_of_length_eq_zero hl
section
variable {C:Cx} {ρ:Nat→RE} {en:List EN} {w':World} {N e z n:Nat} {cells:List SC}
theorem RowOk.of (hw:Hw C ρ (· < en.length) en w') (hS:C.S=Non) (hN:zD en N=some (rwE e z n cells)) (he:e ≠ zG0):RowOk C.w0.heap.size w' (ρ N) e z n (zC4 ρ cells):=by
 have lN:N < en.length:=by rw [zA8] at hN; exact (List.getElem?_eq_some_iff.1 hN).1
 refine ⟨(hw.mu N _ _ lN hN).resolve_left (by rw [hS]; exact fun h=>h),?_,fun hn=>?_,fun hn=>?_⟩
 ·have:=(hw.ho N _ _ _ lN hN).2
  rw [zE2]; exact this
 ·exact (hw.hp N _ _ _ lN hN).heap ⟨he,hn⟩
 ·have:=(hw.hp N _ _ _ lN hN).non hn
  rw [this]; rfl
theorem RowOk.lit (hw:Hw C ρ (· < en.length) en w') (hS:C.S=Non) (hN:zD en N=some ⟨(e,0,whole),cells,true⟩) (he:e ≠ zG0) (hne:cells ≠ []) (hl:cells.length=n * z) (hn:n≤maxLen) :
  RowOk C.w0.heap.size w' ⟨(ρ N).blk,[],[],n,none⟩ e z n (zC4 ρ cells)∧(SC.sl N 0 n n).den ρ=zJ7 ⟨(ρ N).blk,[],[],n,none⟩ n:=by
 have lN:N < en.length:=by rw [zA8] at hN; exact (List.getElem?_eq_some_iff.1 hN).1
 have hnl:(ρ N).nl=none:=Decidable.byContradiction fun hd=>hne ((hw.hp N _ _ _ lN hN).non hd)
 obtain ⟨_,h1,h2⟩:=hw.ho N _ _ _ lN hN
 have hb:=(hw.hp N _ _ _ lN hN).heap ⟨he,hnl⟩
 rw [h1,h2] at hb
 refine ⟨⟨(hw.mu N _ _ lN hN).resolve_left (by rw [hS]; exact fun h=>h),⟨by rw [zE2,hl],.inl ⟨rfl,rfl,by simp [zE2,hl],Nat.le_refl _,hn⟩⟩,fun _=>hb,fun h=>absurd rfl h⟩,?_⟩
 simp only [SC.den,zJ7,h1,List.length_nil]
end
end Go.Proofs.YtfpeholdlkfmoaaGreatDoor
/- append of nothing to a slice, in a drawn region: it is the slice. No program in sight. -/
namespace Go.Proofs.YtfpeholdlkfmoaaGreatDoor
set_option linter.unusedSimpArgs false
set_option linter.unusedVariables false
open Go.RowKit
section
variable {C:Cx}
theorem zG8 {nE:Nat} {mk:Nat→Prop} {en:List EN} {t e:TypeId} {X Y:SC} {i:TypeInfo} (ht:C.P.underlying t=some (.slice e)) (hi:C.P.info? e=some i) (hmk:∀ q,¬ mk q)
  (hX:∀ ρ pr w,Hw C ρ pr en w→X.wf pr→∃ A n c,X.den ρ=.slice A n c∧n≤c) (hY:∀ ρ,∃ B cp,Y.den ρ=.slice B 0 cp):HApp C nE mk en en #[t,t] [.c X,.c Y] (.c X):=by
 intro ρ pr w hpr hmn hw hex hwf ty
 have x2:X.wf pr:=hwf (.c X) (by simp)
 obtain ⟨A,n,c,hA,hnc⟩:=hX ρ pr w hw x2
 obtain ⟨B,cp,hB⟩:=hY ρ
 have hsame:(fun q=>pr q∨mk q)=pr:=funext fun q=>propext ⟨fun h=>h.resolve_right (hmk q),Or.inl⟩
 rw [hsame]
 refine ⟨ρ,w,?_,fun _ _=>rfl,x2,hw⟩
 show (Builtin.append_ #[t,t] ty #[X.den ρ,Y.den ρ]).run C.P w=.ok (X.den ρ) w
 rw [hA,hB]
 exact zU6 w ht hi A B n c cp hnc
theorem row_le {ρ:Nat→RE} {pr:Nat→Prop} {en:List EN} {w:World} {d e z n:Nat} {cells:List SC} (hd:zD en d=some (rwE e z n cells)) (hw:Hw C ρ pr en w) (h:(SC.rw d n).wf pr):∃ A m c,(SC.rw d n).den ρ=.slice A m c∧m≤c:=by
 obtain ⟨_,_,hO⟩:=hw.ho d _ _ _ h hd
 rcases hO with ⟨h1,h2,h3,h4,h5⟩ | ⟨h1,h2,h3⟩
 ·exact ⟨_,_,_,zG2 h1 n,h4⟩
 ·exact ⟨_,_,_,zI4 h1 n,by omega⟩
end
end Go.Proofs.YtfpeholdlkfmoaaGreatDoor
/- A slice literal without elements, as a row that may grow. No program in sight. -/
namespace Go.Proofs.YtfpeholdlkfmoaaGreatDoor
set_option linter.unusedSimpArgs false
set_option linter.unusedVariables false
open Go.RowKit
section
variable {C:Cx} {nt:Nat} {sl:List (Nat × SV)} {en:List EN} {k:List KI}
variable {dst:Option Nat} {ty:TypeId} {pos:String} {af:Array Edge} {all r:List Oper} {gd:Option (Nat × Bool)}
theorem build0_op {t e:TypeId} {z:Nat} {i:TypeInfo} (ht:C.P.underlying t=some (.slice e)) (hi:C.P.info? e=some i) (he:e ≠ zG0) (hn0:C.n0≤en.length)
  (hg:gdT all sl gd=true) (hd:∀ d,dst=some d→d < nt)
  (hK:Run C (.ops all r :: k) nt (jN dst (.c (.rw (zG en) 0)) sl) (zF en (rwE e z 0 []))) :
  Run C (.ops all (⟨dst,.buildSlice t 0 #[],ty,pos,af,gd⟩ :: r) :: k) nt sl en:=by
 have hle:(zF en (rwE e z 0 [])).length=en.length+1:=by rw [zD9]; simp
 refine Run_hop _ _ hg (by rw [hle]; omega) ?_ hd hK
 intro ρ a w hrep
 have hw:=hrep.hw
 have hnr:∀ cs:Array Value,(newRow e cs).run C.P w=.ok ⟨w.heap.size,0,none⟩ (w.alloc (.cells cs e)):=fun _=>rfl
 have h00:∀ q:Nat→Value,Array.map q (Array.range 0)=#[]:=fun q=>by apply Array.toList_inj.1; simp
 have hsz:(sizeOf e).run C.P w=.ok i.size w:=zD4 hi
 have hrun:(Instr.buildSlice t 0 #[]).run C.P w=.ok (.slice (some ⟨w.heap.size,0,none⟩) 0 0) (w.alloc (.cells #[] e)):=by
  simp [Instr.buildSlice,zD2 ht,hsz,Instr.fill,hnr,h00]
 obtain ⟨v',hv'⟩:∃ v':Value,v'=.slice (some ⟨w.heap.size,0,none⟩) 0 0:=⟨_,rfl⟩
 obtain ⟨w',hw'⟩:∃ w',w'=w.alloc (.cells #[] e):=⟨_,rfl⟩
 rw [← hv',← hw'] at hrun
 have h2:w'.ownsRow 0 e z v' (0+0) (zC4 ρ ([]++[])):=
  ⟨by simp [zC4],.inr ⟨w.heap.size,0,#[],hv',Nat.zero_le _,by rw [hw']; exact heap_alloc_new w _,Nat.le_refl _,Nat.zero_le _,by simp,by simp [zC4]⟩⟩
 have h3:w.grownBy w' none:=by rw [hw']; exact ⟨rfl,rfl,rfl,by simp,fun k hk _=>Go.heap_alloc_old w _ hk⟩
 obtain ⟨ρ',e0,k1,k2⟩:=zW8 (C:=C) (pr:=(· < en.length)) (N:=en.length) (mk:=fun q=>q=en.length) (en:=en) (en':=zF en (rwE e z (0+0) ([]++[]))) (m:=0) (n:=0) (cells:=[]) (news:=[]) (X:=.v (.slice none 0 0)) (o:=none) (vb:=none) he (.none rfl rfl)
  (fun pr y hy=>nomatch hy) hn0 (fun _=>Iff.rfl) (by have:=zI6 (en:=en) (e:=rwE e z (0+0) ([]++[])); rwa [zC0] at this)
  (fun q hq=>zD0 (by rw [zC0]; exact hq)) (Nat.lt_irrefl _) hw trivial (fun g h=>by cases h) h2 h3 (.inr (by rw [hv']; rfl))
 refine ⟨ρ',w',?_,k1,?_,k2.iff (fun q=>by rw [hle]; omega)⟩
 ·rw [zC0,e0]
  simp [execOp,hrun]
 ·show zG en < _
  rw [zC0,hle]; omega
end
end Go.Proofs.YtfpeholdlkfmoaaGreatDoor
