/- Rows as entries: entries behind a step that makes one; append. -/
import Derived.Test.YtfpeholdlkfmoaaGreatDoorBS03
import Derived.Maps.AppendAt
namespace Go.Proofs.YtfpeholdlkfmoaaGreatDoor
set_option linter.unusedSimpArgs false
set_option linter.unusedVariables false
open Go.RowKit
theorem zM9 {en:List EN} {e:EN}:zD (zF en e) (zG en)=some e:=by rw [zA5,zE0,zB9]; simp
theorem zC3 {en:List EN} {e:EN} {q:Nat} (h:q ≠ zG en):zD (zF en e) q=zD en q:=by
 rw [zA5,zA5,zE0]
 rw [zB9] at h
 rcases Nat.lt_or_ge q en.length with hl | hl
 ·rw [List.getElem?_append_left hl]
 ·rw [List.getElem?_eq_none hl,List.getElem?_eq_none (by simp; omega)]
theorem zK0 {en:List EN} {e:EN} {q:Nat} (h:zD en q=some e):q < zG en:=by rw [zA5] at h; rw [zB9]; exact (List.getElem?_eq_some_iff.1 h).1
theorem zP8 {en:List EN} {e x:EN} {q:Nat} (h:zD en q=some e):zD (zE en q x) q=some x:=by
 rw [zA5] at h
 rw [zA5,zL3,List.getElem?_set_self (List.getElem?_eq_some_iff.1 h).1]
theorem zG9 {en:List EN} {x:EN} {q d:Nat} (h:q ≠ d):zD (zE en d x) q=zD en q:=by
 rw [zA5,zA5,zL3,List.getElem?_set_ne (fun e=>h e.symm)]
theorem zF6 {en:List EN} {x:EN} {d:Nat}:zG (zE en d x)=zG en:=by rw [zB9,zB9,zL3]; simp
theorem zC7 {en:List EN} {x:EN}:zG (zF en x)=zG en+1:=by rw [zB9,zB9,zE0]; simp
theorem mk_new {n:Nat} {en:List EN} (h:zG en=n+1) (q:Nat):(n≤q∧q < zG en) ↔ q=n:=by rw [h]; omega
def zA4 (e:EN):EN:=⟨(zE8,e.ty.2.1,e.ty.2.2),[],false⟩
theorem Hw.rebuild {C:Cx} {ρ:Nat→RE} {pr:Nat→Prop} {en en':List EN} {w w':World} {N:Nat} {e:EN} {T:Nat→Prop} (r:RE) (hw:Hw C ρ pr en w) (lN:¬ pr N) (hn1:C.n0≤N) (hU:Upd T w w') (hT:∀ k,k < C.w0.heap.size→T k→C.S k)
  (hold:∀ q,pr q →
   (zD en' q=zD en q∧(zE7 (ρ q) (zD en q)=false→¬ T (ρ q).blk)) ∨
   (∃ e,zD en q=some e∧zD en' q=some (zA4 e)) ∨
   (∃ ty cells cells' mu,zD en q=some ⟨ty,cells,mu⟩∧zD en' q=some ⟨ty,cells',mu⟩∧ty.1 ≠ zE8∧HE (zL6 ρ N r) (fun q=>pr q∨q=N) w' q ty cells' mu))
  (hN:zD en' N=some e) (hE:HE (zL6 ρ N r) (fun q=>pr q∨q=N) w' N e.ty e.cells e.mu) (hO:r.pre.length=e.ty.2.1∧e.ty.2.2 r)
  (hne:r.nl=none→∀ q,pr q→zE7 (ρ q) (zD en' q)=false→(ρ q).blk ≠ r.blk) (hmu:e.mu=true→C.S r.blk∨C.w0.heap.size≤r.blk) :
  (∀ q,pr q→zL6 ρ N r q=ρ q)∧Hw C (zL6 ρ N r) (fun q=>pr q∨q=N) en' w':=by
 have ho:∀ q,pr q→zL6 ρ N r q=ρ q:=fun q hq=>if_neg (fun h:q=N=>lN (h ▸ hq))
 have hn:zL6 ρ N r N=r:=if_pos rfl
 have hlive:∀ q,pr q→zE7 (ρ q) (zD en' q)=false→zE7 (ρ q) (zD en q)=false:=by
  intro q hq hl
  rcases hold q hq with ⟨h1,_⟩ | ⟨e,h1,h2⟩ | ⟨ty,cells,cells',mu,h1,h2,h3,_⟩
  ·rw [← h1]; exact hl
  ·rw [h2] at hl; exact absurd hl (by simp [zA4,zE7])
  ·exact (zB4 h1).2 ⟨h3,((zB4 h2).1 hl).2⟩
 refine ⟨ho,?_,?_,?_,hw.up.trans hU hT,?_,?_⟩
 ·intro q ty cells mu hq hqe
  by_cases hqN:q=N
  ·subst hqN
   rw [hN] at hqe
   cases e
   simp only [Option.some.injEq,EN.mk.injEq] at hqe
   obtain ⟨rfl,rfl,rfl⟩:=hqe
   exact hE
  have hq':=hq.resolve_right hqN
  rcases hold q hq' with ⟨h1,h2⟩ | ⟨e',h1,h2⟩ | ⟨ty',cells0,cells',mu',h1,h2,h3,h4⟩
  ·rw [h1] at hqe
   have hp:=hw.hp q ty cells mu hq' hqe
   refine ⟨fun hl=>?_,zJ3 hp.wf (fun _ h=>Or.inl h),hp.dead,by rw [ho q hq']; exact hp.non⟩
   rw [ho q hq'] at hl
   have hlv:zE7 (ρ q) (zD en q)=false:=(zB4 hqe).2 hl
   rw [ho q hq',zF9 hp.wf ho,hU.block _ (hw.lt hq' hlv) (h2 hlv)]
   exact hp.heap hl
  ·rw [h2] at hqe
   simp only [Option.some.injEq,zA4,EN.mk.injEq] at hqe
   obtain ⟨rfl,rfl,rfl⟩:=hqe
   exact ⟨fun hl=>absurd rfl hl.1,(fun y hy=>nomatch hy),fun _=>⟨rfl,rfl⟩,fun _=>rfl⟩
  ·rw [h2] at hqe
   simp only [Option.some.injEq,EN.mk.injEq] at hqe
   obtain ⟨rfl,rfl,rfl⟩:=hqe
   exact h4
 ·intro q ty cells mu hq hqe
  by_cases hqN:q=N
  ·subst hqN
   rw [hN] at hqe
   cases e
   simp only [Option.some.injEq,EN.mk.injEq] at hqe
   obtain ⟨rfl,rfl,rfl⟩:=hqe
   rw [hn]; exact hO
  have hq':=hq.resolve_right hqN
  rw [ho q hq']
  rcases hold q hq' with ⟨h1,h2⟩ | ⟨e',h1,h2⟩ | ⟨ty',cells0,cells',mu',h1,h2,h3,h4⟩
  ·rw [h1] at hqe; exact hw.ho q ty cells mu hq' hqe
  ·rw [h2] at hqe
   cases e'
   simp only [Option.some.injEq,zA4,EN.mk.injEq] at hqe
   obtain ⟨rfl,rfl,rfl⟩:=hqe
   have h3:=hw.ho q _ _ _ hq' h1
   exact h3
  ·rw [h2] at hqe
   simp only [Option.some.injEq,EN.mk.injEq] at hqe
   obtain ⟨rfl,rfl,rfl⟩:=hqe
   exact hw.ho q _ _ _ hq' h1
 ·intro q d hq hd hql hdl hb
  rcases hq with hq | rfl <;> rcases hd with hd | rfl
  ·rw [ho q hq,ho d hd] at hb
   rw [ho q hq] at hql
   rw [ho d hd] at hdl
   exact hw.inj q d hq hd (hlive q hq hql) (hlive d hd hdl) hb
  ·rw [ho q hq,hn] at hb
   rw [ho q hq] at hql
   rw [hn] at hdl
   exact absurd hb (hne ((zB4 hN).1 hdl).2 q hq hql)
  ·rw [ho d hd,hn] at hb
   rw [ho d hd] at hdl
   rw [hn] at hql
   exact absurd hb.symm (hne ((zB4 hN).1 hql).2 d hd hdl)
  ·rfl
 ·intro q ty cells hq hqe
  by_cases hqN:q=N
  ·subst hqN
   rw [hN] at hqe
   cases e
   simp only [Option.some.injEq,EN.mk.injEq] at hqe
   obtain ⟨rfl,rfl,rfl⟩:=hqe
   rw [hn]; exact hmu rfl
  have hq':=hq.resolve_right hqN
  rw [ho q hq']
  rcases hold q hq' with ⟨h1,h2⟩ | ⟨e',h1,h2⟩ | ⟨ty',cells0,cells',mu',h1,h2,h3,h4⟩
  ·rw [h1] at hqe; exact hw.mu q ty cells hq' hqe
  ·rw [h2] at hqe
   simp only [Option.some.injEq,zA4,EN.mk.injEq] at hqe
   exact absurd hqe.2.2 (by decide)
  ·rw [h2] at hqe
   simp only [Option.some.injEq,EN.mk.injEq] at hqe
   obtain ⟨rfl,rfl,rfl⟩:=hqe
   exact hw.mu q _ _ hq' h1
 ·intro q hq
  rw [show zL6 ρ N r q=ρ q from if_neg (by omega)]
  exact hw.ini q hq
section
variable {C:Cx} {nt:Nat} {sl:List (Nat × SV)} {en:List EN} {k:List KI}
variable {dst:Option Nat} {op:Op} {ty:TypeId} {pos:String} {af:Array Edge} {all r:List Oper} {gd:Option (Nat × Bool)}
theorem gd_wanted {a:Act} {ρ:Nat→RE} {w:World} (hr:Rep C ρ nt sl en a w) (hg:gdT all sl gd=true):Region.wanted ⟨dst,op,ty,pos,af,gd⟩ (yielded all.toArray a.tmps)=true:=by
 cases gd with
 | none=>simp [Region.wanted]
 | some jb =>
  obtain ⟨j,b⟩:=jb
  simp only [gdT] at hg
  split at hg <;> try cases hg
  rename_i d _ _ _ _ _ hj
  split at hg <;> try cases hg
  rename_i x hx
  have e1:=(hr.tm d _ hx).1
  rw [zA5] at hj
  have hxb:x=b:=by simpa using hg
  subst hxb
  simp [Region.wanted,yielded,hj,e1,SV.den,SC.den]
theorem Run_hop (v:SV) (en':List EN) (hg:gdT all sl gd=true) (hn:en.length≤en'.length)
  (H:∀ ρ a w,Rep C ρ nt sl en a w→∃ ρ' w',(execOp a.eval ⟨dst,op,ty,pos,af,gd⟩).run C.P w=.ok (.value (v.den ρ')) w'∧(∀ c,c < en.length→ρ' c=ρ c)∧v.wf (· < en'.length)∧Hw C ρ' (· < en'.length) en' w')
  (hd:∀ d,dst=some d→d < nt) (hK:Run C (.ops all r :: k) nt (jN dst v sl) en'):Run C (.ops all (⟨dst,op,ty,pos,af,gd⟩ :: r) :: k) nt sl en:=by
 intro ρ a w hr
 obtain ⟨ρ',w',h1,h2,h3,h4⟩:=H ρ a w hr
 rw [zH9]
 unfold wpList
 rw [if_pos (gd_wanted hr hg)]
 left
 unfold Oper.wp
 rw [h1]
 simp only [Oper.upon]
 have hr1:Rep C ρ' nt sl en' a w':=by
  refine ⟨h4,fun d u hd=>?_,hr.sz,hr.df,by have:=hr.n0; omega⟩
  obtain ⟨q1,q2⟩:=hr.tm d u hd
  rw [SV.den_congr q2 h2]
  exact ⟨q1,SV.wf_mono q2 (fun c hc=>by show c < _; have:c < en.length:=hc; omega)⟩
 refine hK ρ' _ w' ?_
 cases dst with
 | none=>exact hr1
 | some d=>exact hr1.put (hd d rfl) h3
theorem run_append0 {P:Program} (w:World) {t ty e:TypeId} {i:TypeInfo} (ht:P.underlying t=some (.slice e)) (hi:P.info? e=some i) (A B:Option Addr) (n c k:Nat) (hn:n≤c) :
  (Builtin.append_ #[t,t] ty #[.slice A n c,.slice B 0 k]).run P w=.ok (.slice A n c) w:=by
 have hf:(Builtin.firstCells i.size 0 (.slice B 0 k)).run P w=.ok #[] w:=by
  cases B with
  | none=>simp [run_firstCells_none]
  | some b=>exact run_firstCells_some (P:=P) w i.size 0 b 0 k [] (by simp) (by simp)
 cases A <;> simp [Builtin.append_,run_underlying ht,sizeOf,typeInfo,hi,Builtin.lenOf,hn,hf,storeCells]
def rowP (z n L:Nat):RE→Prop:=fun r=>L=n * z∧((r.nl=none∧r.pre=[]∧L+r.post.length=r.cap * z∧n≤r.cap∧r.cap≤maxLen)∨(r.nl=some none∧n=0∧r.pre=[]))
def rwE (e z n:Nat) (cells:List SC):EN:=⟨(e,0,rowP z n cells.length),cells,true⟩
def SrcOk (C:Cx) (en:List EN) (Y:SC) (m:Nat) (news:List SC):Prop:=∀ ρ pr w,Hw C ρ pr en w→Y.wf pr→∃ a cp,Y.den ρ=.slice (some a) m cp∧∀ (j:Nat) u,(zC1 ρ news)[j]?=some u→w.cell? (a.add j)=some u
theorem zN7 {c o m cp L:Nat} {ty:TypeId × Nat × (RE→Prop)} {cells news:List SC} {mu:Bool} (hc:zD en c=some ⟨ty,cells,mu⟩) (ht:zB o L cells=some news):SrcOk C en (.sl c o m cp) m news:=by
 intro ρ pr w hw hwf
 refine ⟨_,cp,rfl,fun j u hu=>?_⟩
 obtain ⟨h1,h2⟩:=zM4 ht
 have hx:∃ y,news[j]?=some y∧u=y.den ρ:=by
  simp only [zC1,List.getElem?_map,Option.map_eq_some_iff] at hu
  obtain ⟨y,hy,rfl⟩:=hu
  exact ⟨y,hy,rfl⟩
 obtain ⟨y,hy,rfl⟩:=hx
 have hjl:j < news.length:=(List.getElem?_eq_some_iff.1 hy).1
 have hjL:j < L:=by rw [h1,List.length_take] at hjl; omega
 rw [zG0,Nat.add_assoc]
 refine hw.hp.cellAt hwf hc ?_
 rw [h1,List.getElem?_take,if_pos hjL,List.getElem?_drop] at hy
 exact hy
theorem src_raw {b o m cp L:Nat} {news:List SC} (hr:C.rd b o L=some news):SrcOk C en (.v (.slice (some ⟨b,o,none⟩) m cp)) m news:=by
 intro ρ pr w hw _
 obtain ⟨vs,h1,rfl,h3⟩:=rd_ok hw.up b o L news hr
 refine ⟨_,cp,rfl,fun j u hu=>?_⟩
 rw [zG0]
 refine h3 j u ?_
 have e:zC1 ρ (vs.map qz)=vs:=by
  unfold zC1; rw [List.map_map]
  conv=>rhs; rw [← List.map_id vs]
  exact List.map_congr_left fun z _=>zJ1 ρ z
 rw [e] at hu; exact hu
theorem onesS_den {ρ:Nat→RE} {l:List SC} (h:qu l=true):∀ u∈zC1 ρ l,u.oneCell'=true:=by
 intro u hu
 obtain ⟨x,hx,rfl⟩:=List.mem_map.1 hu
 exact one_of (zW7 h x hx)
def rowM (z n L m:Nat):RE→Prop:=fun r=>rowP z n L r∧r.nl=none∧r.cap=m
inductive RowV (en:List EN) (e z n m:Nat) (cells:List SC):SC→Option Nat→Prop
 | none:n=0→cells=[]→RowV en e z n m cells (.v (.slice .none 0 0)) .none
 | zero {d:Nat}:n=0→cells=[]→0 < m→RowV en e z n m cells (.sl d 0 0 0) .none
 | some {d:Nat}:zD en d=.some (rwE e z n cells)→RowV en e z n m cells (.rw d n) (.some d)
 | slc {d c:Nat}:zD en d=.some ⟨(e,0,rowM z n cells.length c),cells,true⟩→RowV en e z n m cells (.sl d 0 n c) (.some d)
 | lit {d:Nat}:cells.length=n * z→cells ≠ []→n≤maxLen→zD en d=.some ⟨(e,0,whole),cells,true⟩→RowV en e z n m cells (.sl d 0 n n) (.some d)
def zF7 (en:List EN):Option Nat→List EN
 | none=>en
 | some d=>match zD en d with
  | some e=>zE en d (zA4 e)
  | none=>en
theorem zW8 (en:List EN) (o:Option Nat):(zF7 en o).length=en.length:=by
 unfold zF7
 split
 ·rfl
 ·split
  ·exact setN_len _ _ _
  ·rfl
theorem zV5 {P:Program} (w:World) {t ty e:TypeId} {i:TypeInfo} {zv:Value} {z bts:Nat} (ht:P.underlying t=some (.slice e)) (hi:P.info? e=some i) (hz:i.zero=some zv) (hs:i.size=z) (hb:i.bytes=bts) (hzs:zv.cells.size=z)
  (b a:Addr) (m c:Nat) (news:List Value) (hl:news.length=m * z) (hnews:∀ (j:Nat) u,news[j]?=some u→w.cell? (a.add j)=some u) (hm:0 < m) (h63:m≤100000000000) (hbts:m * bts≤140737488355328) :
  ∃ v' w',(Builtin.append_ #[t,t] ty #[.slice (some b) 0 0,.slice (some a) m c]).run P w=.ok v' w'∧w'.ownsRow 0 e z v' (0+m) news∧w.grownBy w' none∧v'.ownBlock=some w.heap.size:=by
 subst hs; subst hb
 have hr:=run_append_grow (P:=P) w t ty e i zv ht hi hz b 0 0 [] (by simp) (fun j v h=>by simp at h) a m c news hl hnews (by omega) (by omega) (by rw [Nat.zero_add,nextslicecap_zero hm]; omega)
 have hge:=grownCap_ge w (0+m) 0 e
 have hcm:=grownCap_le_maxLen w (0+m) 0 e (by unfold maxLen; omega)
 refine ⟨_,_,hr,⟨by rw [hl,Nat.zero_add],.inr ⟨w.heap.size,_,_,rfl,Nat.zero_le _,heap_alloc_new w.drew _,hge,hcm,?_,?_⟩⟩,⟨rfl,rfl,rfl,by simp,fun k hk _=>Go.heap_alloc_old w.drew _ hk⟩,rfl⟩
 ·simp only [Array.size_append,List.size_toArray,List.length_nil,size_zeroCells,hzs,hl,Nat.zero_add] at hge ⊢
  rw [← Nat.add_mul]
  congr 1
  omega
 ·simp only [Array.toList_append,List.nil_append]
  rw [List.take_left' (by rw [hl,Nat.zero_add])]
theorem zY2 {N:Nat} {mk:Nat→Prop} {en en':List EN} {e z n m:Nat} {X:SC} {cells news:List SC} {o:Option Nat} {ρ:Nat→RE} {pr:Nat→Prop} {w w':World} {vb:Option Nat} {v':Value}
  (he:e ≠ zE8) (hX:RowV en e z n m cells X o) (hwn:wfs pr news) (hn0:C.n0≤N) (hmk:∀ q,mk q ↔ q=N)
  (hNe:zD en' N=some (rwE e z (n+m) (cells++news))) (hq:∀ q,q ≠ N→zD en' q=zD (zF7 en o) q) (lN:¬ pr N) (hw:Hw C ρ pr en w) (x2:X.wf pr)
  (hblk:∀ g,vb=some g→∃ d iv,o=some d∧pr d∧zD en d=some ⟨(e,0,iv),cells,true⟩∧(ρ d).nl=none∧(ρ d).blk=g)
  (h2:w'.ownsRow 0 e z v' (n+m) (zC1 ρ (cells++news))) (h3:w.grownBy w' vb) (h5:v'.ownBlock=vb∨v'.ownBlock=some w.heap.size) :
  ∃ ρ',(SV.c (SC.rw N (n+m))).den ρ'=v'∧(∀ q,pr q→ρ' q=ρ q)∧Hw C ρ' (fun q=>pr q∨mk q) en' w':=by
 have ldX:∀ d,X=.rw d n→pr d:=fun d h=>by rw [h] at x2; exact x2
 obtain ⟨rr,hr1,hr2,hr3,hr4⟩:∃ rr:RE,v'=zE9 rr (n+m)∧rowP z (n+m) (cells++news).length rr∧(rr.nl=none→v'.ownBlock=some rr.blk∧rr.pre=[]∧w'.heap[rr.blk]?=some (.cells (rr.pre++zC1 ρ (cells++news)++rr.post).toArray e (0,0)))∧(rr.nl ≠ none→rr.blk=C.w0.heap.size):=by
  have hL:(cells++news).length=(n+m) * z:=by have:=h2.1; rwa [zD5] at this
  rcases h2.2 with ⟨e1,e2⟩ | ⟨g,cap,cur,e1,_,e3,e4,e5,e6,e7⟩
  ·exact ⟨⟨C.w0.heap.size,[],[],0,some none⟩,by rw [e1,e2]; rfl,⟨hL,.inr ⟨rfl,e2,rfl⟩⟩,(fun h=>by cases h),fun _=>rfl⟩
  ·refine ⟨⟨g,[],cur.toList.drop ((n+m) * z),cap,none⟩,by rw [e1]; rfl,⟨hL,.inl ⟨rfl,rfl,?_,e4,e5⟩⟩,(fun _=>⟨by rw [e1]; rfl,rfl,?_⟩),fun h=>absurd rfl h⟩
   ·show (cells++news).length+(cur.toList.drop ((n+m) * z)).length=cap * z
    rw [hL,List.length_drop,Array.length_toList,e6]
    have:(n+m) * z≤cap * z:=Nat.mul_le_mul_right _ e4
    omega
   ·rw [e3]
    congr 2
    apply Array.toList_inj.1
    rw [← e7]
    simp
 have hU:Upd (fun q=>some q=vb) w w':=⟨h3.os,h3.tape,h3.output,h3.size,fun q hq hnq=>h3.block q hq hnq⟩
 have hupN:zL6 ρ N rr N=rr:=if_pos rfl
 have hNo:∀ d,o=some d→∃ iv,zD en d=some ⟨(e,0,iv),cells,true⟩∧pr d∧zF7 en o=zE en d (zA4 ⟨(e,0,iv),cells,true⟩):=fun d h=>by
  subst h
  cases hX with
  | some h=>exact ⟨_,h,ldX _ rfl,by simp only [zF7,h]; rfl⟩
  | lit _ _ _ h=>exact ⟨_,h,x2,by simp only [zF7,h]⟩
  | slc h=>exact ⟨_,h,x2,by simp only [zF7,h]⟩
 have hcw:wfs pr cells:=by
  cases hX with
  | none _ h2=>subst h2; exact fun y hy=>nomatch hy
  | zero _ h2 _=>subst h2; exact fun y hy=>nomatch hy
  | some hd'=>exact (hw.hp _ _ _ _ (ldX _ rfl) hd').wf
  | lit _ _ _ hd'=>exact (hw.hp _ _ _ _ x2 hd').wf
  | slc hd'=>exact (hw.hp _ _ _ _ x2 hd').wf
 obtain ⟨k1,k2⟩:=Hw.rebuild (C:=C) (ρ:=ρ) (pr:=pr) (en:=en) (en':=en') (w:=w) (w':=w') (N:=N) (e:=rwE e z (n+m) (cells++news)) (T:=fun q=>some q=vb) rr hw lN hn0 hU
  (fun q hq' hT=>by
   obtain ⟨d,iv,e1,e2,e3,e4,e5⟩:=hblk q hT.symm
   rcases hw.mu d _ _ e2 e3 with h | h
   ·rw [e5] at h; exact h
   ·rw [e5] at h; omega)
  (fun q hq'=>by
   have hqN:q ≠ N:=fun h=>lN (h ▸ hq')
   rw [hq q hqN]
   cases ho:o with
   | none =>
    refine .inl ⟨rfl,fun _ hT=>?_⟩
    obtain ⟨d,_,e1,_⟩:=hblk _ hT.symm
    rw [ho] at e1; cases e1
   | some d =>
    obtain ⟨iv,hd',ld,hkd⟩:=hNo d ho
    rw [← ho,hkd]
    by_cases hqd:q=d
    ·subst hqd
     exact .inr (.inl ⟨_,hd',by rw [zP8 hd']⟩)
    ·refine .inl ⟨zG9 hqd,fun hl hT=>?_⟩
     obtain ⟨d',_,e1,e2,e3,e4,e5⟩:=hblk _ hT.symm
     rw [ho] at e1; cases e1
     exact hqd (hw.inj q d hq' ld hl ((zB4 hd').2 ⟨he,e4⟩) e5.symm))
  hNe ⟨fun hl=>by
    have hnl:rr.nl=none:=by have:=hl.2; rwa [hupN] at this
    obtain ⟨_,_,hh⟩:=hr3 hnl
    rw [hupN,hh]
    congr 3
    congr 1
    congr 1
    exact (zF9 (pr:=pr) (by
     intro y hy
     rcases List.mem_append.1 hy with hy | hy
     ·exact hcw y hy
     ·exact hwn y hy) (fun q hq'=>if_neg (fun h:q=N=>lN (h ▸ hq')))).symm,
   (by
    intro y hy
    rcases List.mem_append.1 hy with hy | hy
    ·exact SC.wf_mono (hcw y hy) (fun _ h=>.inl h)
    ·exact SC.wf_mono (hwn y hy) (fun _ h=>.inl h)),
   (fun hd=>absurd (show e=zE8 from hd) he),
   (fun hn=>by
    have hnl:rr.nl ≠ none:=by rwa [hupN] at hn
    obtain ⟨hL,h | ⟨_,h2,_⟩⟩:=hr2
    ·exact absurd h.1 hnl
    ·rw [h2,Nat.zero_mul] at hL
     exact List.eq_nil_of_length_eq_zero hL)⟩
  ⟨(by
    obtain ⟨_,h | h⟩:=hr2
    ·show rr.pre.length=0; rw [h.2.1]; rfl
    ·show rr.pre.length=0; rw [h.2.2]; rfl),hr2⟩
  (fun hnl q hq' hl hbq=>by
   have hqN:q ≠ N:=fun h=>lN (h ▸ hq')
   rw [hq q hqN] at hl
   obtain ⟨hvb,_,_⟩:=hr3 hnl
   have hlive:zE7 (ρ q) (zD en q)=false∧(∀ d,o=some d→q ≠ d):=by
    cases ho:o with
    | none=>rw [ho] at hl; exact ⟨hl,fun d h=>by cases h⟩
    | some d =>
     obtain ⟨iv,hd',ld,hkd⟩:=hNo d ho
     rw [hkd] at hl
     by_cases hqd:q=d
     ·subst hqd; rw [zP8 hd'] at hl; simp [zA4,zE7] at hl
     ·rw [zG9 hqd] at hl
      exact ⟨hl,fun d' h=>by cases h; exact hqd⟩
   rcases h5 with h5 | h5
   ·rw [hvb] at h5
    obtain ⟨d,_,e1,e2,e3,e4,e5⟩:=hblk _ h5.symm
    exact hlive.2 d e1 (hw.inj q d hq' e2 hlive.1 ((zB4 e3).2 ⟨he,e4⟩) (by rw [e5]; exact hbq))
   ·rw [hvb] at h5
    have:=hw.lt hq' hlive.1
    simp only [Option.some.injEq] at h5
    omega)
  (fun _=>by
   cases hnl:rr.nl with
   | some p=>exact .inr (by rw [hr4 (by rw [hnl]; simp)]; exact Nat.le_refl _)
   | none =>
    obtain ⟨hvb,_,_⟩:=hr3 hnl
    rcases h5 with h5 | h5
    ·rw [hvb] at h5
     obtain ⟨d,_,e1,e2,e3,e4,e5⟩:=hblk _ h5.symm
     rw [← e5]; exact hw.mu d _ _ e2 e3
    ·rw [hvb] at h5
     simp only [Option.some.injEq] at h5
     rw [h5]; exact .inr hw.up.size)
 have hsame:(fun q=>pr q∨mk q)=fun q=>pr q∨q=N:=funext fun q=>propext (or_congr_right (hmk q))
 rw [hsame]
 refine ⟨zL6 ρ N rr,?_,k1,k2⟩
 rw [hr1]
 show zE9 (zL6 ρ N rr N) (n+m)=zE9 rr (n+m)
 rw [hupN]
theorem zU2 {nE N:Nat} {mk:Nat→Prop} {en en':List EN} {t e z n m bts:Nat} {X Y:SC} {cells news:List SC} {o:Option Nat} {i:TypeInfo} {zv:Value}
  (ht:C.P.underlying t=some (.slice e)) (hi:C.P.info? e=some i) (hz:i.zero=some zv) (hs:i.size=z) (hb:i.bytes=bts) (hzs:zv.cells.size=z) (hz0:0 < z) (he:e ≠ zE8)
  (hX:RowV en e z n m cells X o) (hY:SrcOk C en Y m news) (hl:news.length=m * z) (hone:qu news=true) (hwn:∀ pr:Nat→Prop,(∀ q,q < nE→pr q)→wfs pr news)
  (hnm:n+m≤100000000000) (hbts:(n+m) * bts≤140737488355328) (hn0:C.n0≤N) (hmk:∀ q,mk q ↔ q=N)
  (hNe:zD en' N=some (rwE e z (n+m) (cells++news))) (hq:∀ q,q ≠ N→zD en' q=zD (zF7 en o) q) :
  HApp C nE mk en en' #[t,t] [.c X,.c Y] (.c (.rw N (n+m))):=by
 intro ρ pr w hpr hmn hw hex hwf ty
 have lN:¬ pr N:=hmn _ ((hmk _).2 rfl)
 have x2:X.wf pr:=hwf (.c X) (by simp)
 have y2:Y.wf pr:=hwf (.c Y) (by simp)
 obtain ⟨ad,cp,hyd,hcell⟩:=hY ρ pr w hw y2
 have hln:(zC1 ρ news).length=m * z:=by rw [zD5,hl]
 have ldX:∀ d,X=.rw d n→pr d:=fun d h=>by rw [h] at x2; exact x2
 obtain ⟨vb,hblk,v',w',h1,h2,h3,h5⟩:∃ vb:Option Nat,(∀ g,vb=some g→∃ d iv,o=some d∧pr d∧zD en d=some ⟨(e,0,iv),cells,true⟩∧(ρ d).nl=none∧(ρ d).blk=g)∧∃ v' w',(Builtin.append_ #[t,t] ty #[X.den ρ,.slice (some ad) m cp]).run C.P w=.ok v' w'∧w'.ownsRow 0 e z v' (n+m) (zC1 ρ cells++zC1 ρ news)∧w.grownBy w' vb∧(v'.ownBlock=vb∨v'.ownBlock=some w.heap.size):=by
  have own:∀ V,w.ownsRow 0 e z V n (zC1 ρ cells)→∃ v' w',(Builtin.append_ #[t,t] ty #[V,.slice (some ad) m cp]).run C.P w=.ok v' w'∧w'.ownsRow 0 e z v' (n+m) (zC1 ρ cells++zC1 ρ news)∧w.grownBy w' V.ownBlock∧(v'.ownBlock=V.ownBlock∨v'.ownBlock=some w.heap.size):=fun V hown=>by
   obtain ⟨v',w',h1,h2,h3,_,h5⟩:=run_append_own_at (P:=C.P) w 0 t ty e i zv z bts ht hi hz hs hb hzs hz0 V n _ hown ad m cp (zC1 ρ news) hln hcell (onesS_den hone) (by unfold maxLen; omega) hbts (Nat.zero_le _)
   exact ⟨v',w',h1,h2,h3,h5⟩
  cases hX with
  | none e1 e2 =>
   subst e1; subst e2
   obtain ⟨v',w',h1,h2,h3,h5⟩:=own (.slice none 0 0) (World.ownsRow_nil w 0 e z)
   exact ⟨none,(fun g h=>by cases h),v',w',h1,h2,h3,h5⟩
  | zero e1 e2 hm =>
   subst e1; subst e2
   obtain ⟨v',w',h1,h2,h3,h5⟩:=zV5 (P:=C.P) w (ty:=ty) ht hi hz hs hb hzs _ ad m cp (zC1 ρ news) hln hcell hm (by omega) (by rw [Nat.zero_add] at hbts; exact hbts)
   exact ⟨none,(fun g h=>by cases h),v',w',h1,by simpa [zC1] using h2,h3,.inr h5⟩
  | some hd' =>
   rename_i d
   have ld:pr d:=ldX d rfl
   have hP:=hw.hp d _ _ _ ld hd'
   obtain ⟨hL,h | ⟨h1,h2,_⟩⟩:=(hw.ho d _ _ _ ld hd').2
   ·obtain ⟨h1,h2,h3,h4,h5⟩:=h
    have hh:=hP.heap ⟨he,h1⟩
    have hown:w.ownsRow 0 e z (zE9 (ρ d) n) n (zC1 ρ cells):=by
     refine ⟨by rw [zD5,hL],.inr ⟨(ρ d).blk,(ρ d).cap,_,zF2 h1 n,Nat.zero_le _,hh,h4,h5,?_,?_⟩⟩
     ·simp [h2,zD5]; exact h3
     ·rw [h2]; simp only [List.nil_append]
      rw [List.take_append_of_le_length (by rw [zD5,hL]; exact Nat.le_refl _),List.take_of_length_le (by rw [zD5,hL]; exact Nat.le_refl _)]
    obtain ⟨v',w',g1,g2,g3,g5⟩:=own _ hown
    have hob:(zE9 (ρ d) n).ownBlock=some (ρ d).blk:=by rw [zF2 h1]; rfl
    rw [hob] at g3 g5
    exact ⟨some (ρ d).blk,(fun g hg=>⟨d,_,rfl,ld,hd',h1,Option.some.inj hg⟩),v',w',g1,g2,g3,g5⟩
   ·subst h2
    have hc:cells=[]:=List.eq_nil_of_length_eq_zero (by rw [hL]; simp)
    subst hc
    obtain ⟨v',w',g1,g2,g3,g5⟩:=own (.slice none 0 0) (World.ownsRow_nil w 0 e z)
    have hvd:(SC.rw d 0).den ρ=.slice none 0 0:=by show zE9 (ρ d) 0=_; rw [zG4 h1]
    rw [hvd]
    exact ⟨none,(fun g h=>by cases h),v',w',g1,g2,g3,g5⟩
  | slc hd' =>
   rename_i d c
   have ld:pr d:=x2
   have hP:=hw.hp d _ _ _ ld hd'
   obtain ⟨_,⟨hL,h⟩,hnl,hcap⟩:=hw.ho d _ _ _ ld hd'
   obtain ⟨h1,h2,h3,h4,h5⟩:=h.resolve_right fun h=>by rw [hnl] at h; cases h.1
   have hh:=hP.heap ⟨he,h1⟩
   have hvd:(SC.sl d 0 n c).den ρ=zE9 (ρ d) n:=by rw [zF2 h1,← hcap]; simp only [SC.den,h2]; rfl
   have hown:w.ownsRow 0 e z (zE9 (ρ d) n) n (zC1 ρ cells):=by
    refine ⟨by rw [zD5,hL],.inr ⟨(ρ d).blk,(ρ d).cap,_,zF2 h1 n,Nat.zero_le _,hh,h4,h5,?_,?_⟩⟩
    ·simp [h2,zD5]; exact h3
    ·rw [h2]; simp only [List.nil_append]
     rw [List.take_append_of_le_length (by rw [zD5,hL]; exact Nat.le_refl _),List.take_of_length_le (by rw [zD5,hL]; exact Nat.le_refl _)]
   obtain ⟨v',w',g1,g2,g3,g5⟩:=own _ hown
   have hob:(zE9 (ρ d) n).ownBlock=some (ρ d).blk:=by rw [zF2 h1]; rfl
   rw [hob] at g3 g5
   rw [hvd]
   exact ⟨some (ρ d).blk,(fun g hg=>⟨d,_,rfl,ld,hd',h1,Option.some.inj hg⟩),v',w',g1,g2,g3,g5⟩
  | lit hcl hcn hnx hd' =>
   rename_i d
   have ld:pr d:=x2
   have hP:=hw.hp d _ _ _ ld hd'
   have hnl:(ρ d).nl=none:=Decidable.byContradiction fun h=>hcn (hP.non h)
   obtain ⟨_,h1,h2⟩:=hw.ho d _ _ _ ld hd'
   have hh:=hP.heap ⟨he,hnl⟩
   rw [h1,h2] at hh
   have hvd:(SC.sl d 0 n n).den ρ=.slice (some ⟨(ρ d).blk,0,none⟩) n n:=by simp only [SC.den,h1]; rfl
   have hown:w.ownsRow 0 e z (.slice (some ⟨(ρ d).blk,0,none⟩) n n) n (zC1 ρ cells):=by
    refine ⟨by rw [zD5,hcl],.inr ⟨(ρ d).blk,n,_,rfl,Nat.zero_le _,hh,Nat.le_refl _,hnx,?_,?_⟩⟩
    ·simp [zD5,hcl]
    ·simp only [List.nil_append,List.append_nil]
     rw [List.take_of_length_le (by rw [zD5,hcl]; exact Nat.le_refl _)]
   obtain ⟨v',w',g1,g2,g3,g5⟩:=own _ hown
   rw [hvd]
   exact ⟨some (ρ d).blk,(fun g hg=>⟨d,_,rfl,ld,hd',hnl,Option.some.inj hg⟩),v',w',g1,g2,g3,g5⟩
 have hcat:zC1 ρ cells++zC1 ρ news=zC1 ρ (cells++news):=by simp [zC1]
 rw [hcat] at h2
 obtain ⟨ρ',e0,k1,k2⟩:=zY2 (C:=C) he hX (hwn pr hpr) hn0 hmk hNe hq lN hw x2 hblk h2 h3 h5
 refine ⟨ρ',w',?_,k1,.inr ((hmk N).2 rfl),k2⟩
 rw [e0]
 have eX:(SV.c X).den ρ=X.den ρ:=rfl
 have eY:(SV.c Y).den ρ=.slice (some ad) m cp:=hyd
 simp only [List.map_cons,List.map_nil,eX,eY]
 exact h1
theorem zN0 {nE N:Nat} {mk:Nat→Prop} {en en':List EN} {t e z n m bts:Nat} {X Y:SC} {cells news:List SC} {o:Option Nat} {i:TypeInfo} {zv:Value}
  (ht:C.P.underlying t=some (.slice e)) (hi:C.P.info? e=some i) (hz:i.zero=some zv) (hs:i.size=z) (hb:i.bytes=bts) (hzs:zv.cells.size=z) (hz0:0 < z) (he:e ≠ zE8)
  (hX:RowV en e z n m cells X o) (hY:SrcOk C en Y m news) (hl:news.length=m * z) (hone:qu news=true) (hwn:∀ pr,wfs pr news)
  (hnm:n+m≤100000000000) (hbts:(n+m) * bts≤140737488355328) (hn0:C.n0≤N) (hmk:∀ q,mk q ↔ q=N)
  (hNe:zD en' N=some (rwE e z (n+m) (cells++news))) (hq:∀ q,q ≠ N→zD en' q=zD (zF7 en o) q) :
  HApp C nE mk en en' #[t,t] [.c X,.c Y] (.c (.rw N (n+m))):=
 zU2 ht hi hz hs hb hzs hz0 he hX hY hl hone (fun pr _=>hwn pr) hnm hbts hn0 hmk hNe hq
def hap (o:Option Nat) (e z n:Nat) (cells:List SC):HF:=fun en=>(.c (.rw (zG en) n),zF (zF7 en o) (rwE e z n cells))
theorem zP0 {x y:Operand} {t e z n m bts:Nat} {X Y:SC} {cells news:List SC} {o:Option Nat} {i:TypeInfo} {zv:Value}
  (ht:C.P.underlying t=some (.slice e)) (hi:C.P.info? e=some i) (hz:i.zero=some zv) (hs:i.size=z) (hb:i.bytes=bts) (hzs:zv.cells.size=z) (hz0:0 < z) (he:e ≠ zE8)
  (hX:RowV en e z n m cells X o) (hx:ev sl x=some (.c X)) (hy:ev sl y=some (.c Y)) (hY:SrcOk C en Y m news) (hl:news.length=m * z) (hone:qu news=true) (hwn:wfs (· < en.length) news)
  (hnm:n+m≤100000000000) (hbts:(n+m) * bts≤140737488355328) (hn0:C.n0≤en.length)
  (hg:gdT all sl gd=true) (hd:∀ d,dst=some d→d < nt)
  (hK:Run C (.ops all r :: k) nt (jN dst (.c (.rw (zG en) (n+m))) sl) (zF (zF7 en o) (rwE e z (n+m) (cells++news)))) :
  Run C (.ops all (⟨dst,.call ⟨.builtin .append,#[x,y],#[t,t]⟩,ty,pos,af,gd⟩ :: r) :: k) nt sl en:=by
 have hle:(zF (zF7 en o) (rwE e z (n+m) (cells++news))).length=en.length+1:=by rw [zE0]; simp [zW8]
 refine Run_hop _ _ hg (by rw [hle]; omega) ?_ hd hK
 intro ρ a w hr
 obtain ⟨x1,x2⟩:=hr.ev_ok _ _ hx
 obtain ⟨y1,y2⟩:=hr.ev_ok _ _ hy
 have hA:=zU2 (C:=C) (nE:=en.length) (N:=en.length) (mk:=fun q=>q=en.length) (en:=en) (en':=zF (zF7 en o) (rwE e z (n+m) (cells++news))) ht hi hz hs hb hzs hz0 he hX hY hl hone (fun pr hp y hy=>SC.wf_mono (hwn y hy) hp) hnm hbts hn0 (fun _=>Iff.rfl)
  (by have:=zM9 (en:=zF7 en o) (e:=rwE e z (n+m) (cells++news)); rwa [zB9,zW8] at this)
  (fun q hq=>zC3 (by rw [zB9,zW8]; exact hq))
 obtain ⟨ρ',w',h1,h2,h3,h4⟩:=hA ρ (· < en.length) w (fun c hc=>hc) (fun c hc hp=>by rw [hc] at hp; exact Nat.lt_irrefl _ hp) hr.hw (fun c hc=>by rw [zA5,List.getElem?_eq_getElem hc]; simp)
  (fun q hq=>by simp only [List.mem_cons,List.not_mem_nil,or_false] at hq; rcases hq with rfl | rfl <;> first | exact x2 | exact y2) ty
 refine ⟨ρ',w',?_,h2,?_,h4.iff (fun q=>by rw [hle]; omega)⟩
 ·simp only [List.map_cons,List.map_nil,← x1,← y1] at h1
  rw [zB9]
  simp [execOp,resolve,invoke,builtin,h1]
 ·show zG en < _
  rw [zB9,hle]; omega
theorem zM2 {x y:Operand} {t e z n m bts:Nat} {X Y:SC} {cells news:List SC} {o:Option Nat} {i:TypeInfo} {zv:Value}
  (ht:C.P.underlying t=some (.slice e)) (hi:C.P.info? e=some i) (hz:i.zero=some zv) (hs:i.size=z) (hb:i.bytes=bts) (hzs:zv.cells.size=z) (hz0:0 < z) (he:e ≠ zE8)
  (hX:RowV en e z n m cells X o) (hx:ev sl x=some (.c X)) (hy:ev sl y=some (.c Y)) (hY:SrcOk C en Y m news) (hl:news.length=m * z) (hone:qu news=true) (hwn:∀ pr,wfs pr news)
  (hnm:n+m≤100000000000) (hbts:(n+m) * bts≤140737488355328) (hn0:C.n0≤en.length)
  (hg:gdT all sl gd=true) (hd:∀ d,dst=some d→d < nt)
  (hK:Run C (.ops all r :: k) nt (jN dst (.c (.rw (zG en) (n+m))) sl) (zF (zF7 en o) (rwE e z (n+m) (cells++news)))) :
  Run C (.ops all (⟨dst,.call ⟨.builtin .append,#[x,y],#[t,t]⟩,ty,pos,af,gd⟩ :: r) :: k) nt sl en:=
 zP0 ht hi hz hs hb hzs hz0 he hX hx hy hY hl hone (hwn _) hnm hbts hn0 hg hd hK
end
end Go.Proofs.YtfpeholdlkfmoaaGreatDoor
/- Short names for laws of Lean's own that the walk rewrites by, and one for what the program says of its types. -/
namespace Go.Proofs.YtfpeholdlkfmoaaGreatDoor
set_option linter.unusedSimpArgs false
set_option linter.unusedVariables false
universe u v
theorem zP {α:Type u} (a b:α):(bif true then a else b)=a:=rfl
theorem zQ {α:Type u} (a b:α):(bif false then a else b)=b:=rfl
theorem zR (p:Prop):(True∧p)=p:=true_and p
theorem zS (p:Prop):(p∧True)=p:=and_true p
theorem zT (p:Prop):(p∧p)=p:=and_self p
theorem zV:(!true)=false:=rfl
theorem zW:(!false)=true:=rfl
theorem zb (p:Prop):(True→p)=p:=by simp
theorem zc (p:Prop):(False→p)=True:=by simp
theorem zd {α:Type u} [BEq α] [LawfulBEq α] (a b:α):((a == b)=true)=(a=b):=by simp
theorem ze {α:Type u} [BEq α] [LawfulBEq α] (a b:α):((a == b)=false)=¬ a=b:=by simp
theorem zf (p:Prop) [Decidable p]:(decide p=true)=p:=by simp
theorem zg (p:Prop) [Decidable p]:(decide p=false)=¬ p:=by simp
theorem zh (n:Nat):((n:Int)).toNat=n:=Int.toNat_natCast n
theorem zk {α:Type u} (a:α) (l:List α):(a :: l).length=l.length+1:=rfl
theorem zl {α:Type u}:([]:List α).length=0:=rfl
theorem zm (n:Nat):n - n=0:=Nat.sub_self n
theorem zn (n:Nat):n - 0=n:=rfl
theorem zo [Decidable True]:decide True=true:=by simp
theorem zp [Decidable False]:decide False=false:=by simp
theorem zq (n:Nat):(n≤n)=True:=by simp
theorem zt (n:Nat):0+n=n:=Nat.zero_add n
theorem zu (n:Nat):n+0=n:=rfl
theorem zw (b:Bool):(false && b)=false:=rfl
theorem zx (b:Bool):(true && b)=b:=rfl
theorem zy (b:Bool):(true == b)=b:=by cases b <;> rfl
theorem zz (b:Bool):(false == b)=!b:=by cases b <;> rfl
end Go.Proofs.YtfpeholdlkfmoaaGreatDoor
