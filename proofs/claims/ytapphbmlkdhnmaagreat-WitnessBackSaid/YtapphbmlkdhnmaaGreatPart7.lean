/- Part 7 of the proof. -/
import Derived.Test.YtapphbmlkdhnmaaGreatPart2
import Derived.Test.YtapphbmlkdhnmaaGreatPart6
import Derived.Test.YtapphbmlkdhnmaaGreatPart3
import Derived.Test.YtapphbmlkdhnmaaGreatPart4
/- Shortest ways: the walk of the whole. -/
namespace Go.Proofs.YtapphbmlkdhnmaaGreat
open Go.GV
attribute [local irreducible] A2 W Wq Wt

/-- The blocks that Ways makes, by the operation that makes them. -/
def GS:Nat→List Nat
 | 1=>[0] | 2=>[1,0] | 4=>[3] | 5=>[4,3] | 7=>[6] | 8=>[7,6] | 10=>[9] | 11=>[10,9]
 | 12=>[2,1,0,5,4,3,8,7,6,11,10,9] | 13=>[12,2,1,0,5,4,3,8,7,6,11,10,9] | 15=>[14,13,12,2,1,0,5,4,3,8,7,6,11,10,9] | _=>[]
def KZ (i:Nat):Nat:=if i=14 then 11 else 23+i
def UR (b4 n:Nat) (i:Nat) (B:Nat→Nat):Value :=
 if i=1∨i=4∨i=7∨i=10 then .int .i64 (n:Int) else if i=2∨i=5∨i=8∨i=11 then .slice (some ⟨B i,0,none⟩) n n
 else if i=12 then .agg (FB (B 2) (B 5) (B 8) (B 11) n).toArray else if i=13∨i=14 then ptr (B i) else .pointer (some ⟨b4,0+0,none⟩)
def Ec (n:Nat) (i:Nat):Option ((Nat→Nat)→Obj) :=
 if i=2 then some fun _=>Bl 230 ((List.range n).map fun _ => .slice none 0 0) else if i=5 then some fun _=>Bl 2 (B4 (fun _=>0) n) else if i=8∨i=11 then some fun _=>Bl 3 (B4 (fun _=>0) n)
 else if i=13 then some fun B=>Bl 224 (FB (B 2) (B 5) (B 8) (B 11) n) else if i=14 then some fun _=>Bl 221 [.pointer none] else none
theorem US:∀ i j,i<15→j<15→KZ i=KZ j→i=j:=fun i j hi hj h=>by
 unfold KZ at h
 split at h <;> split at h <;> omega
theorem wStab (b4 n:Nat) (i k b:Nat) (B:Nat→Nat) (hi:i<15) (hki:k≠i) (hka:k∉GS i):UR b4 n i (Ir B k b)=UR b4 n i B∧∀ ob,Ec n i=some ob→ob (Ir B k b)=ob B:=by
 have h0:Ir B k b i=B i:=F6 (Ne.symm hki)
 have h1:i=12∨i=13→Ir B k b 2=B 2∧Ir B k b 5=B 5∧Ir B k b 8=B 8∧Ir B k b 11=B 11:=fun h=>by
  have:k≠2∧k≠5∧k≠8∧k≠11:=by
   rcases h with rfl | rfl <;> (simp [GS] at hka; omega)
  exact ⟨F6 (Ne.symm this.1),F6 (Ne.symm this.2.1),F6 (Ne.symm this.2.2.1),F6 (Ne.symm this.2.2.2)⟩
 constructor
 ·unfold UR
  by_cases e:i=12
  ·have:=h1 (.inl e)
   subst e
   simp [this]
  ·rw [h0]; simp [e]
 ·intro ob hob
  unfold Ec at hob
  by_cases e:i=13
  ·have:=h1 (.inr e)
   subst e
   simp at hob
   subst hob
   simp [this]
  ·split at hob
   ·cases hob; rfl
   ·split at hob
    ·cases hob; rfl
    ·split at hob
     ·cases hob; rfl
     ·split at hob
      ·cases hob; rfl
      ·cases hob

theorem JG {N:Int} {es:List Ed} (hr:BV N es=true):(grE N es).Ok:=by
 have h:∀ i,i<es.length→(es.getD i e0).f.toNat<N.toNat∧(es.getD i e0).t.toNat<N.toNat:=fun i hi=>by
  obtain ⟨e,he⟩:=AC (l:=es) (i:=i) hi
  have:=CN ((BR hr).2.2.2.1 e (List.mem_of_getElem? he))
  rw [Bn he]
  omega
 exact ⟨fun i hi=>(h i hi).1,fun i hi=>(h i hi).2⟩
theorem TK {cap x:Nat→Int} {k a:Nat} (h:a∈Eb cap x k):a<2*k:=List.mem_range.1 (List.mem_filter.1 h).1
def MK (i:Nat) (v:Nat):Int:=if v<i then -1 else 0
theorem TL (i:Nat):MK (i+1) i = -1:=if_pos (by omega)
theorem TM {i q:Nat} (h:q≠i):MK (i+1) q=MK i q:=by unfold MK; split <;> split <;> omega

theorem Zo {P:Program} {e:Env} {w:World} {fn:Func} {R:Value→World→Prop} {t1 t2 t3:Tmp} {v1 v2 v3:Value} (hr:fn.results=#[.tmp t1,.tmp t2,.tmp t3]) (h1:e.g t1=v1) (h2:e.g t2=v2) (h3:e.g t3=v3) (h:Marks e.ds w (R (.tuple #[v1,v2,v3]))):PV P fn R .ret e w :=
 Marks.mono (fun w h tmps ht=>by
  have q1:=(ht t1).trans h1
  have q2:=(ht t2).trans h2
  have q3:=(ht t3).trans h3
  rw [Array.getD_eq_getD_getElem?] at q1 q2 q3
  exact ⟨_,by simp [results,hr,q1,q2,q3],h⟩) h
theorem S2 {L L':List (Nat × Obj)} (h:(L++L').Pairwise (fun x y=>x.1≠y.1)) {x:Nat × Obj} (hx:x∈L):x.1∉L'.map (·.1):=fun hm=>by
 obtain ⟨y,hy,he⟩:=List.mem_map.1 hm
 exact (List.pairwise_append.1 h).2.2 x hx y hy he.symm
theorem Rd.lt {α:Type} {w:World} {a:Option Addr} {s:Nat} {enc:α→List Value} {xs:List α} (R:Rd w a s enc xs) (h:xs≠[]) (hs:∀ x∈xs,∃ v,(enc x)[0]? = some v) (h0:0<s):(adr a).block<w.heap.size:=by
 obtain ⟨x,hx⟩:=AC (l:=xs) (i:=0) (List.length_pos_iff.2 h)
 obtain ⟨v,hv⟩:=hs x (List.mem_of_getElem? hx)
 exact World.block_lt_of_cell? w ⟨(adr a).block,(adr a).off+0*s+0,none⟩ (R.cell 0 x hx 0 v hv h0)
theorem Zp:(lb0 []).d=fun _ => -1:=by
 funext v
 show (if v∈([]:List Nat) then (0:Int) else -1) = -1
 exact if_neg List.not_mem_nil
structure WSt where
 s:Lb
 a:Option Addr
 hn:Nat
 c:Nat
 full:List Value
 L:List Tg
 D:Int

set_option maxRecDepth 20000 in
set_option maxHeartbeats 8000000 in
theorem Zq (N:Int) (a b p fr:Option Addr) (n c m d q r fc:Nat) (es:List Ed) (fl pot:List Int) (src:List Nat) (w:World) (R:Rd w a 4 Bv es) (hn:es.length=n) (hN:I64 N) (Rf:Rd w b 1 I1 fl) (hm:fl.length=m) (hm2:m≤9223372036854775000) (Rp:Rd w p 1 I1 pot) (hq:pot.length=q) (hq2:q≤9223372036854775000) (Rs:Rd w fr 1 I1 (src.map fun v:Nat=>(v:Int)))
  (hfit:GD N es fl pot=true) (hsrc:∀ v∈src,v<N.toNat) (hnd:src.Nodup) (hs0:0<src.length) :
  Ret Tryz.prog 167 #[CG N a n c,.slice b m d,.slice p q r,.slice fr src.length fc] w fun v w'=>∃ (od ob:Nat) (s:Lb) (by':Nat→Int),v = .tuple #[.slice (some ⟨od,0,none⟩) N.toNat N.toNat,.slice (some ⟨ob,0,none⟩) N.toNat N.toNat,.int .i64 0]∧Done (Lo (grE N es) (Cl es) (flE fl) (Ez pot)) src N.toNat 2199023256552 s∧Bys (grE N es) (Cl es) (flE fl) (Ez pot) s (fun v=>if by' v = -1 then none else some (by' v).toNat)∧(∀ v,by' v = -1∨∃ a:Nat,by' v=(a:Int)∧a<2*es.length)∧Ctx w [] w' [(od,Bl 2 (B4 s.d N.toNat)),(ob,Bl 3 (B4 by' N.toNat))]:=by
 subst hn hm hq
 obtain ⟨w0,rfl⟩:∃ w0,w0=w:=⟨_,rfl⟩
 have H:=Ctx.start w0 []
 refine Gc (fn:=Tryz.f167) Tryz.func167 rfl [CG N a es.length c,.slice b fl.length d,.slice p pot.length r,.slice fr src.length fc] rfl (by kernel_rfl) ?_
 refine Ag (Bs rfl [.int .i64 N,.slice a es.length c] (.agg _) rfl rfl H ?_)
 rintro b4 w - H
 refine AJ rfl rfl (AJ rfl rfl (Af rfl rfl (Ab (Aa (Aq (Ag (Bh rfl Cu Ci rfl H at0 rfl (An rfl rfl (An rfl rfl (Ao rfl Ab8 (Zh N a b p es.length c fl.length d pot.length r es fl pot _ (R.ext0 H.ext) rfl hN (Rf.ext0 H.ext) rfl hm2 (Rp.ext0 H.ext) rfl hq2) rfl ?_))))))))))
 rintro v w ⟨rfl,hx21⟩
 replace H:=H.call hx21
 refine Bu rfl rfl (Ab (Aa (Ax _ rfl ?_ ?_)))
 ·intro h1
  replace h1:=Bp h1
  rw [hfit] at h1
  cases h1
 ·intro h1
  replace h1:=Bq h1
  have hw:B1 N es fl=true:=by unfold GD at hfit; rw [Bool.and_eq_true] at hfit; exact hfit.1
  obtain ⟨hN1,hN40,hn200,-⟩:=BR (BE hw).2.1
  obtain ⟨nn,rfl⟩:∃ nn:Nat,N=(nn:Int):=⟨N.toNat,by omega⟩
  refine Av (Aa (Dw 137430566912 (α:=Nat × Nat × Nat × Nat × Nat × Nat) (fun z=>[(11,ptr z.1)]) (fun z w'=>Ctx w0 [] w' [(z.1,Bl 221 [ptr z.2.1]),(z.2.1,Bl 224 (FB z.2.2.1 z.2.2.2.1 z.2.2.2.2.1 z.2.2.2.2.2 nn)),(z.2.2.1,Bl 230 ((List.range nn).map fun _ => .slice none 0 0)),(z.2.2.2.1,Bl 2 (B4 (fun _=>0) nn)),(z.2.2.2.2.1,Bl 3 (B4 (fun _=>0) nn)),(z.2.2.2.2.2,Bl 3 (B4 (fun _=>0) nn)),(b4,Bl 28 [.int .i64 (nn:Int),.slice a es.length c])]) rfl ?_ ?_))
  ·skip
   have hb4:=H.get at0
   refine Qa (n:=15) (anc:=GS) KZ (UR b4 nn) (Ec nn) (show Tryz.prog.follows .mixedOrders=true by kernel_rfl) rfl (by kernel_rfl) ?_ US (wStab b4 nn) ?_ ?_
   ·intro k hk
    have:k=0∨k=1∨k=2∨k=3∨k=4∨k=5∨k=6∨k=7∨k=8∨k=9∨k=10∨k=11∨k=12∨k=13∨k=14:=by omega
    simp [GS]
    omega
   ·intro i o e' w' B hi ho hold hsl hx hbl
    have h4:e'.g 4=ptr b4:=(hold 4 fun j hj h=>by
     have h:(4:Nat)=KZ j:=h
     unfold KZ at h
     split at h <;> omega).trans rfl
    have hc4:w'.heap[b4]? = some (Bl 28 [.int .i64 (nn:Int),.slice a es.length c]):=hx.to (by exact hb4) (by simp)
    have hcs:i=0∨i=1∨i=2∨i=3∨i=4∨i=5∨i=6∨i=7∨i=8∨i=9∨i=10∨i=11∨i=12∨i=13∨i=14:=by omega
    have hpure:∀ {v:Value},Ec nn i=none→UR b4 nn i (Ir B i 0)=v→AQ KZ (UR b4 nn) (Ec nn) i e' w' B (put e' (some (KZ i)) v) w':=fun h1 h2=>⟨0,fun ob h=>(by rw [h1] at h; cases h),.refl _ _,by rw [h2]⟩
    rcases hcs with rfl | rfl | rfl | rfl | rfl | rfl | rfl | rfl | rfl | rfl | rfl | rfl | rfl | rfl | rfl
    ·cases Option.some.inj ho
     exact Ah rfl (by kernel_rfl) h4 (Ab (hpure rfl rfl))
    ·cases Option.some.inj ho
     exact AX rfl BH (hsl 0 (by simp [GS])) (by rw [Ay hc4]; rfl) (Ab (hpure rfl rfl))
    ·cases Option.some.inj ho
     refine FX rfl K8 K9 Aay Adf (hsl 1 (by simp [GS])) (hsl 1 (by simp [GS])) (by omega) (by omega) (by omega) (by omega) (Ctx.start w' []) fun b w2 hb H=>?_
     have hbb:=H.get at0
     rw [show ((nn:Int)).toNat=nn from rfl,Ex] at hbb
     exact Ab ⟨b,fun ob h=>(by obtain rfl:=Option.some.inj h; exact ⟨by omega,hbb⟩),H.ext,rfl⟩
    ·cases Option.some.inj ho
     exact Ah rfl (by kernel_rfl) h4 (Ab (hpure rfl rfl))
    ·cases Option.some.inj ho
     exact AX rfl BH (hsl 3 (by simp [GS])) (by rw [Ay hc4]; rfl) (Ab (hpure rfl rfl))
    ·cases Option.some.inj ho
     refine FX rfl AR B2 OV GP (hsl 4 (by simp [GS])) (hsl 4 (by simp [GS])) (by omega) (by omega) (by omega) (by omega) (Ctx.start w' []) fun b w2 hb H=>?_
     have hbb:=H.get at0
     rw [show ((nn:Int)).toNat=nn from rfl,Ex] at hbb
     exact Ab ⟨b,fun ob h=>(by obtain rfl:=Option.some.inj h; exact ⟨by omega,hbb⟩),H.ext,rfl⟩
    ·cases Option.some.inj ho
     exact Ah rfl (by kernel_rfl) h4 (Ab (hpure rfl rfl))
    ·cases Option.some.inj ho
     exact AX rfl BH (hsl 6 (by simp [GS])) (by rw [Ay hc4]; rfl) (Ab (hpure rfl rfl))
    ·cases Option.some.inj ho
     refine FX rfl DB EJ by_3 Qv (hsl 7 (by simp [GS])) (hsl 7 (by simp [GS])) (by omega) (by omega) (by omega) (by omega) (Ctx.start w' []) fun b w2 hb H=>?_
     have hbb:=H.get at0
     rw [show ((nn:Int)).toNat=nn from rfl,Ex] at hbb
     exact Ab ⟨b,fun ob h=>(by obtain rfl:=Option.some.inj h; exact ⟨by omega,hbb⟩),H.ext,rfl⟩
    ·cases Option.some.inj ho
     exact Ah rfl (by kernel_rfl) h4 (Ab (hpure rfl rfl))
    ·cases Option.some.inj ho
     exact AX rfl BH (hsl 9 (by simp [GS])) (by rw [Ay hc4]; rfl) (Ab (hpure rfl rfl))
    ·cases Option.some.inj ho
     refine FX rfl DB EJ by_3 Qv (hsl 10 (by simp [GS])) (hsl 10 (by simp [GS])) (by omega) (by omega) (by omega) (by omega) (Ctx.start w' []) fun b w2 hb H=>?_
     have hbb:=H.get at0
     rw [show ((nn:Int)).toNat=nn from rfl,Ex] at hbb
     exact Ab ⟨b,fun ob h=>(by obtain rfl:=Option.some.inj h; exact ⟨by omega,hbb⟩),H.ext,rfl⟩
    ·cases Option.some.inj ho
     refine CC (FB (B 2) (B 5) (B 8) (B 11) nn) rfl Ac0 Ade ?_ (Ab (hpure rfl rfl))
     show Instr.fill _ _ [(0,e'.g 25),(1,e'.g 28),(2,e'.g 31),(3,e'.g 34)]=_
     rw [show e'.g 25 = .slice (some ⟨B 2,0,none⟩) nn nn from hsl 2 (by simp [GS]),show e'.g 28 = .slice (some ⟨B 5,0,none⟩) nn nn from hsl 5 (by simp [GS]),show e'.g 31 = .slice (some ⟨B 8,0,none⟩) nn nn from hsl 8 (by simp [GS]),show e'.g 34 = .slice (some ⟨B 11,0,none⟩) nn nn from hsl 11 (by simp [GS])]
     rfl
    ·cases Option.some.inj ho
     refine Bs rfl (FB (B 2) (B 5) (B 8) (B 11) nn) (.agg _) (hsl 12 (by simp [GS])) rfl (Ctx.start w' []) fun b w2 hb H=>?_
     exact Ab ⟨b,fun ob h=>(by obtain rfl:=Option.some.inj h; exact ⟨by omega,H.get at0⟩),H.ext,rfl⟩
    ·cases Option.some.inj ho
     refine Bm rfl Add (Ctx.start w' []) fun b w2 hb H=>?_
     exact Ab ⟨b,fun ob h=>(by obtain rfl:=Option.some.inj h; exact ⟨by omega,H.get at0⟩),H.ext,rfl⟩
   ·intro o e' w' B ho A
    have hl4:=Bt hb4
    have hs0:=H.size
    have h9:w.drew.heap.size=w.heap.size:=rfl
    have n14_13:B 14≠B 13:=A.ne 14 13 (by omega) (by omega) (by omega) trivial trivial (by simp [Ec]) (by simp [Ec])
    have n14_2:B 14≠B 2:=A.ne 14 2 (by omega) (by omega) (by omega) trivial trivial (by simp [Ec]) (by simp [Ec])
    have n14_5:B 14≠B 5:=A.ne 14 5 (by omega) (by omega) (by omega) trivial trivial (by simp [Ec]) (by simp [Ec])
    have n14_8:B 14≠B 8:=A.ne 14 8 (by omega) (by omega) (by omega) trivial trivial (by simp [Ec]) (by simp [Ec])
    have n14_11:B 14≠B 11:=A.ne 14 11 (by omega) (by omega) (by omega) trivial trivial (by simp [Ec]) (by simp [Ec])
    have n13_2:B 13≠B 2:=A.ne 13 2 (by omega) (by omega) (by omega) trivial trivial (by simp [Ec]) (by simp [Ec])
    have n13_5:B 13≠B 5:=A.ne 13 5 (by omega) (by omega) (by omega) trivial trivial (by simp [Ec]) (by simp [Ec])
    have n13_8:B 13≠B 8:=A.ne 13 8 (by omega) (by omega) (by omega) trivial trivial (by simp [Ec]) (by simp [Ec])
    have n13_11:B 13≠B 11:=A.ne 13 11 (by omega) (by omega) (by omega) trivial trivial (by simp [Ec]) (by simp [Ec])
    have n2_5:B 2≠B 5:=A.ne 2 5 (by omega) (by omega) (by omega) trivial trivial (by simp [Ec]) (by simp [Ec])
    have n2_8:B 2≠B 8:=A.ne 2 8 (by omega) (by omega) (by omega) trivial trivial (by simp [Ec]) (by simp [Ec])
    have n2_11:B 2≠B 11:=A.ne 2 11 (by omega) (by omega) (by omega) trivial trivial (by simp [Ec]) (by simp [Ec])
    have n5_8:B 5≠B 8:=A.ne 5 8 (by omega) (by omega) (by omega) trivial trivial (by simp [Ec]) (by simp [Ec])
    have n5_11:B 5≠B 11:=A.ne 5 11 (by omega) (by omega) (by omega) trivial trivial (by simp [Ec]) (by simp [Ec])
    have n8_11:B 8≠B 11:=A.ne 8 11 (by omega) (by omega) (by omega) trivial trivial (by simp [Ec]) (by simp [Ec])
    have k14:=A.blk 14 _ (by omega) trivial (show Ec nn 14=some _ from rfl)
    have m14:B 14≠b4:=by have:=k14.2; have h9:w.drew.heap.size=w.heap.size:=rfl; omega
    have k13:=A.blk 13 _ (by omega) trivial (show Ec nn 13=some _ from rfl)
    have m13:B 13≠b4:=by have:=k13.2; have h9:w.drew.heap.size=w.heap.size:=rfl; omega
    have k2:=A.blk 2 _ (by omega) trivial (show Ec nn 2=some _ from rfl)
    have m2:B 2≠b4:=by have:=k2.2; have h9:w.drew.heap.size=w.heap.size:=rfl; omega
    have k5:=A.blk 5 _ (by omega) trivial (show Ec nn 5=some _ from rfl)
    have m5:B 5≠b4:=by have:=k5.2; have h9:w.drew.heap.size=w.heap.size:=rfl; omega
    have k8:=A.blk 8 _ (by omega) trivial (show Ec nn 8=some _ from rfl)
    have m8:B 8≠b4:=by have:=k8.2; have h9:w.drew.heap.size=w.heap.size:=rfl; omega
    have k11:=A.blk 11 _ (by omega) trivial (show Ec nn 11=some _ from rfl)
    have m11:B 11≠b4:=by have:=k11.2; have h9:w.drew.heap.size=w.heap.size:=rfl; omega
    have Hc:Ctx w0 [] w' [(B 14,Bl 221 [.pointer none]),(B 13,Bl 224 (FB (B 2) (B 5) (B 8) (B 11) nn)),(B 2,Bl 230 ((List.range nn).map fun _ => .slice none 0 0)),(B 5,Bl 2 (B4 (fun _=>0) nn)),(B 8,Bl 3 (B4 (fun _=>0) nn)),(B 11,Bl 3 (B4 (fun _=>0) nn)),(b4,Bl 28 [.int .i64 (nn:Int),.slice a es.length c])]:=by
     refine ⟨(H.ext.trans (Ext.drew [] _)).trans A.ext,fun x hx=>?_,?_,fun x hx => .inr ?_⟩
     ·simp only [List.mem_cons,List.not_mem_nil,or_false] at hx
      rcases hx with rfl | rfl | rfl | rfl | rfl | rfl | rfl
      ·exact k14.1
      ·exact k13.1
      ·exact k2.1
      ·exact k5.1
      ·exact k8.1
      ·exact k11.1
      ·exact A.ext.to hb4 (by simp)
     ·simp only [List.pairwise_cons,List.mem_cons,List.not_mem_nil,or_false,forall_eq_or_imp,forall_eq,List.Pairwise.nil,false_imp_iff,implies_true,and_true]
      exact ⟨⟨n14_13,n14_2,n14_5,n14_8,n14_11,m14⟩,⟨n13_2,n13_5,n13_8,n13_11,m13⟩,⟨n2_5,n2_8,n2_11,m2⟩,⟨n5_8,n5_11,m5⟩,⟨n8_11,m8⟩,m11⟩
     ·simp only [List.mem_cons,List.not_mem_nil,or_false] at hx
      have hb40:=(H.own _ (List.mem_cons_self ..)).elim (fun h=>by cases h) id
      rcases hx with rfl | rfl | rfl | rfl | rfl | rfl | rfl
      ·have:=k14.2; dsimp only; omega
      ·have:=k13.2; dsimp only; omega
      ·have:=k2.2; dsimp only; omega
      ·have:=k5.2; dsimp only; omega
      ·have:=k8.2; dsimp only; omega
      ·have:=k11.2; dsimp only; omega
      ·exact hb40
    cases Option.some.inj ho
    exact Cj (ptr (B 13)) rfl Ac6 (A.slot 14 (by omega) trivial) (A.slot 13 (by omega) trivial) rfl Hc at0 (by decide) fun w2 H2=>Ab ⟨(B 14,B 13,B 2,B 5,B 8,B 11),A.ds,⟨A.slot 14 (by omega) trivial,trivial⟩,H2⟩
  ·rintro ⟨b11,b36,oo,od,oh,ob⟩ j w H; dsimp only at H; dsimp only
   refine Aq (Ag (Ah rfl Dn rfl (AA rfl BH rfl H at6 rfl (Ad rfl rfl (Ab (Aa (Au (Bi 36028247263154176 (α:=Nat) (fun i=>[(39,.int .i64 (i:Int))]) (fun i w'=>i≤nn∧Ctx w0 [] w' [(b11,Bl 221 [ptr b36]),(b36,Bl 224 (FB oo od oh ob nn)),(oo,Bl 230 ((List.range nn).map fun _ => .slice none 0 0)),(od,Bl 2 (B4 (MK i) nn)),(oh,Bl 3 (B4 (fun _=>0) nn)),(ob,Bl 3 (B4 (MK i) nn)),(b4,Bl 28 [.int .i64 (nn:Int),.slice a es.length c])]) (fun i=>nn - i) 0 rfl ?_ ?_ ?_))))))))
   ·exact ⟨rfl,trivial⟩
   ·exact ⟨Nat.zero_le _,H⟩
   ·rintro i j2 w ⟨hi,H⟩
    refine Ag (AN rfl rfl rfl (Ab (Aa (Aq (Ax _ rfl ?_ ?_)))))
    ·intro h2
     replace h2:=AF h2
     refine Av (Aa (Aq (Au (Ag (Ad rfl rfl (Af rfl rfl (Ab (Aa (Fx [([0,1,2,3,4,5,6,7,8,9,10],11),([12],13)] (fun z=>z.heap[b11]? = some (Bl 221 [ptr b36])∧z.heap[b36]? = some (Bl 224 (FB oo od oh ob nn))) [13] B3 (by kernel_rfl) (⟨H.drew.get at0,H.drew.get at1⟩) ?_)))))))))
     refine Ba rfl rfl ?_
     refine Ck rfl GN rfl (fun _ hx=>(by rw [Ay hx.1]; rfl)) ?_
     refine B6 rfl rfl (AV rfl DF rfl (Ck rfl BF rfl (fun _ hx=>(by rw [Ay hx.2]; rfl)) ?_))
     refine AO rfl rfl (Ck rfl GN rfl (fun _ hx=>(by rw [Ay hx.1]; rfl)) ?_)
     refine B6 rfl rfl (AV rfl Ix rfl (Ck rfl Fl rfl (fun _ hx=>(by rw [Ay hx.2]; rfl)) ?_))
     refine AO rfl rfl (AE rfl AR B2 rfl rfl (by omega) (by omega) ?_)
     refine BJ ?_
     replace H:=H.drew
     refine BP i (fun q => .int .i64 (MK (i+1) q)) (.int _ _) rfl B2 rfl rfl rfl H at3 (by simp) (by omega) (by rw [TL]) (fun q _ hq=>by rw [TM hq]) ?_
     rintro w H
     refine Ab (CX (⟨H.get at0,H.get at1⟩) (Ba rfl rfl ?_))
     refine AE rfl DB EJ rfl rfl (by omega) (by omega) ?_
     refine BJ (BP i (fun q => .int .i64 (MK (i+1) q)) (.int _ _) rfl EJ rfl rfl rfl H at5 (by simp) (by omega) (by rw [TL]) (fun q _ hq=>by rw [TM hq]) ?_)
     rintro w H
     refine Ab (BS rfl (Ch (A5 (Aa (Aw (Ap rfl rfl rfl (by omega) (by omega) ?_))))))
     refine Ad rfl rfl (Ab (Aa ?_))
     exact ⟨i+1,rfl,⟨rfl,trivial⟩,⟨by omega,H⟩,by omega⟩
    ·intro h2
     replace h2:=AG h2
     obtain rfl:nn=i:=by omega
     have htab:B4 (MK nn) nn=B4 (fun _ => -1) nn:=List.map_congr_left fun v hv=>by
      show Value.int _ (MK nn v)=Value.int _ (-1)
      unfold MK; rw [if_pos (List.mem_range.1 hv)]
     rw [htab] at H
     have hr:=(BE hw).2.1
     have hp:E3 (nn:Int) pot=true:=by unfold GD at hfit; rw [Bool.and_eq_true,Bool.and_eq_true] at hfit; exact hfit.2.1
     obtain ⟨g,hg⟩:∃ g,g=grE (nn:Int) es:=⟨_,rfl⟩
     obtain ⟨pf,hpf⟩:∃ pf,pf=Ez pot:=⟨_,rfl⟩
     obtain ⟨l,hl⟩:∃ l,l=Eb (Cl es) (flE fl) es.length:=⟨_,rfl⟩
     have hgo:g.Ok:=by rw [hg]; exact JG hr
     have hlen400:l.length≤400:=by
      rw [hl]; unfold Eb
      have:=List.length_filter_le (fun a=>decide (0<C6 (Cl es) (flE fl) a)) (List.range (2*es.length))
      rw [List.length_range] at this
      omega
     refine Bd (Aj (Aj (AD (Aa (Aq (Ag (Bh rfl Cu Ci rfl H at6 rfl (An rfl rfl (An rfl rfl ?_)))))))))
     have hb7:=H
     refine Ao rfl Wx (TI (nn:Int) a b p es.length c fl.length d pot.length r _) rfl ?_
     rintro v w ⟨x1,x2,x3,rfl,hb1,hb2,hb3,hs1,hs2,hs3,hx58⟩
     replace H:=H.call hx58
     refine Ab (Aa (Au ?_))
     obtain ⟨ws,rfl⟩:∃ z,z=w:=⟨_,rfl⟩
     have hk1:=Bt hb1
     have hk2:=Bt hb2
     have hk3:=Bt hb3
     have hs07:=H.size
     have hoo:=H.get at2
     have HL:=(H.perm (List.perm_middle (l₁:=[_,_]) (l₂:=[_,_,_,_]))).tail
     have hoolt:=Bt hoo
     have hoo7:=Bt (hb7.get at2)
     have hooge:w0.heap.size≤oo:=(H.own (oo,_) (List.mem_of_getElem? (i:=2) rfl)).elim (fun h=>by cases h) id
     obtain ⟨OL,hOL⟩:∃ OL:List (Nat × Obj),OL=[(b11,Bl 221 [ptr b36]),(b36,Bl 224 (FB oo od oh ob nn)),(od,Bl 2 (B4 (fun _ => -1) nn)),(oh,Bl 3 (B4 (fun _=>0) nn)),(ob,Bl 3 (B4 (fun _ => -1) nn)),(b4,Bl 28 [.int .i64 (nn:Int),.slice a es.length c])]:=⟨_,rfl⟩
     have HL':Ctx w0 [] ws OL:=by rw [hOL]; exact HL
     have hOLlt:∀ y∈OL,y.1<ws.heap.size:=fun y hy=>Bt (HL'.blk y hy)
     have hOLoo:∀ y∈OL,y.1≠oo:=fun y hy=>by
      have h9:=H.perm (List.perm_middle (l₁:=[_,_]) (l₂:=[_,_,_,_]))
      rw [hOL] at hy
      exact fun h=>(List.pairwise_cons.1 h9.nd).1 y hy h.symm
     obtain ⟨hD,hhD⟩:∃ hD,hD=ws.heap.size:=⟨_,rfl⟩
     have hM:∀ {w':World} {st:Nat→Slo} {sel:Nat→List Nat},OutR w0 w' oo nn g pf st sel (fun x=>x<ws.heap.size+2)→∀ x,MF oo nn st x→x<w'.heap.size∧x≠ws.heap.size∧x≠ws.heap.size+1:=fun {w' st sel} RO x hx=>by
      rcases hx with rfl | ⟨u,hu,y,hy,rfl⟩
      ·exact ⟨Bt RO.tbl,by omega,by omega⟩
      ·have h1:=RO.blk u hu y hy
       have h2:=Bt h1.1
       have h3:¬ y.1<ws.heap.size+2:=h1.2.2.1
       exact ⟨h2,by omega,by omega⟩
     refine JW (gf:=212) rfl W1 (Q2 (b1:=x1) (b2:=x2) (b3:=x3) (a:=a) (b:=b) (p:=p) (c:=c) (d:=d) (r:=r) hw hp) (by kernel_rfl) (by kernel_rfl) (fun v hv=>by obtain ⟨p,-,rfl⟩:=List.mem_map.1 hv; rfl)
      (fun i M w'=>∃ st,M=MF oo nn st∧OutR w0 w' oo nn g pf st (fun u=>Hn g (l.take i) u) (fun x=>x<ws.heap.size+2)∧(∀ u,u<nn→(st u).n≤i)∧Ctx w0 [] w' OL∧w'.heap[x1]? = some (Bl 28 [.int .i64 (nn:Int),.slice a es.length c])∧w'.heap[x2]? = some (Bl 29 [.slice p pot.length r])∧w'.heap[x3]? = some (Bl 29 [.slice b fl.length d]))
      (fun _=>False) (by simp)
      (fun w2 hx2 _=>⟨_,fun _=>⟨none,0,0,[]⟩,rfl,⟨hx2.to hoo (by simp),fun u _=>OS.nil,(fun u _ y hy=>by cases hy),(fun u v _ _ _ y hy=>by cases hy)⟩,fun u _=>Nat.le_refl _,HL'.call hx2,hx2.to hb1 (by simp),hx2.to hb2 (by simp),hx2.to hb3 (by simp)⟩)
      (fun i M w' w'' hJ hx=>?_) (fun _ _ h _=>h) (fun i M w' hJ=>?_) ?_ ?_ (fun _ h _=>h.elim)
     ·obtain ⟨st,h1,RO,hni,HJ,g1,g2,g3⟩:=hJ
      refine ⟨st,h1,RO.keep hx fun x hx hm=>?_,hni,HJ.step hx (fun y hy=>?_) fun z hz => .inr ?_,hx.to g1 ?_,hx.to g2 ?_,hx.to g3 ?_⟩
      ·have:=hM RO x hm
       simp only [List.mem_cons,List.not_mem_nil,or_false] at hx
       omega
      ·have:=hOLlt y hy
       simp only [List.mem_cons,List.not_mem_nil,or_false]
       omega
      ·simp only [List.mem_cons,List.not_mem_nil,or_false] at hz
       omega
      ·simp only [List.mem_cons,List.not_mem_nil,or_false]; omega
      ·simp only [List.mem_cons,List.not_mem_nil,or_false]; omega
      ·simp only [List.mem_cons,List.not_mem_nil,or_false]; omega
     ·obtain ⟨st,rfl,RO,hni,HJ,g1,g2,g3⟩:=hJ
      exact ⟨hM RO,g1,g2,g3,R.ext0 HJ.ext,Rf.ext0 HJ.ext,Rp.ext0 HJ.ext⟩
     ·rintro i v _ w hxv ⟨st,rfl,RO,hni,HJ,g1,g2,g3⟩ hsz
      unfold Ju at hxv
      rw [List.getElem?_map,← hl,← hg,← hpf] at hxv
      obtain ⟨y,hy,rfl⟩:=Option.map_eq_some_iff.1 hxv
      have hil:=CB hy
      have hyl:=List.mem_of_getElem? hy
      have hyu:g.u y<nn:=by
       have h1:=hgo.u (a:=y) (by rw [hl] at hyl; have:=TK hyl; rw [hg]; exact this)
       rw [hg] at h1 ⊢
       exact h1
      obtain ⟨w1,rfl⟩:∃ z,z=w:=⟨_,rfl⟩
      have H:=Ctx.start w1 []
      refine Aw (Bm rfl I0 H ?_)
      rintro b13 w - H
      refine BD rfl Gq rfl rfl rfl (by exact MD _ _ _) H at0 rfl ?_
      rintro w H
      refine Ab ?_
      refine ⟨H.ext,fun wB hxB=>?_⟩
      have hb13:=(H.own _ (List.mem_cons_self ..)).elim (fun h=>by cases h) id
      have k13:=hxB.to (H.get at0) (by rw [List.mem_singleton]; omega)
      have ROB:=(RO.keep H.ext (fun x hx=>by cases hx)).keep hxB fun x hx hm=>(hM RO x hm).2.2 (List.mem_singleton.1 hx)
      have HB:=(HJ.call H.ext).step hxB (fun y hy=>by have:=hOLlt y hy; rw [List.mem_singleton]; omega) (fun z hz => .inr (by rw [List.mem_singleton.1 hz]; omega))
      have e1:=hxB.to (H.ext.to g1 (by simp)) (by rw [List.mem_singleton]; omega)
      have e2:=hxB.to (H.ext.to g2 (by simp)) (by rw [List.mem_singleton]; omega)
      have e3:=hxB.to (H.ext.to g3 (by simp)) (by rw [List.mem_singleton]; omega)
      have hsB:=hxB.size
      have hsH:=H.ext.size
      have HB':=HB
      rw [hOL] at HB'
      have k11:=HB'.get at0
      have k36:=HB'.get at1
      obtain ⟨u,hu⟩:∃ u,u=g.u y:=⟨_,rfl⟩
      rw [← hu] at hyu
      have hnot:∀ x,x≠oo→(x<ws.heap.size+2∨w1.heap.size≤x)→x∉oo::(JF (st u)).map (·.1):=fun x h1 h2 h=>by
       rcases List.mem_cons.1 h with h | h
       ·exact h1 h
       ·obtain ⟨z,hz,he⟩:=List.mem_map.1 h
        have q1:=RO.blk u hyu z hz
        have q2:=Bt q1.1
        have q3:¬ z.1<ws.heap.size+2:=q1.2.2.1
        omega
      have hO11:=hOLoo (b11,_) (by rw [hOL]; exact List.mem_of_getElem? (i:=0) rfl)
      have hO36:=hOLoo (b36,_) (by rw [hOL]; exact List.mem_of_getElem? (i:=1) rfl)
      have hl11:=hOLlt (b11,_) (by rw [hOL]; exact List.mem_of_getElem? (i:=0) rfl)
      have hl36:=hOLlt (b36,_) (by rw [hOL]; exact List.mem_of_getElem? (i:=1) rfl)
      have hoo1:=Bt RO.tbl
      dsimp only at hO11 hO36 hl11 hl36
      have n11:=hnot b11 hO11 (.inl (by omega))
      have n36:=hnot b36 hO36 (.inl (by omega))
      have n13:=hnot b13 (by omega) (.inr hb13)
      have hgu:(UM nn st)[u]? = some (.slice (st u).a (st u).n (st u).c):=Dl hyu
      have hnu:=hni u hyu
      obtain ⟨w2,rfl⟩:∃ z,z=wB:=⟨_,rfl⟩
      replace H:=ROB.ctx hyu
      have hrow:FM g pf y=[.int .i64 (y:Int),.int .i64 (u:Int),.int .i64 (g.v y:Int),.int .i64 (g.len pf y)]:=by unfold FM; rw [← hu]
      refine Au (Fx [([0,1,2,3,4,5,6,7,8,9,10,11,12,13,14],15),([],16),([17],18)] (fun z=>z.heap[b11]? = some (Bl 221 [ptr b36])∧z.heap[b36]? = some (Bl 224 (FB oo od oh ob nn))∧z.heap[b13]? = some (Bl 229 (FM g pf y))∧z.heap[oo]? = some (Bl 230 (UM nn st))) [18] B3 (by kernel_rfl) (⟨H.drew.ext.to k11 n11,H.drew.ext.to k36 n36,H.drew.ext.to k13 n13,H.drew.get at0⟩) ?_)
      refine Ba rfl rfl ?_
      refine Ck rfl GN rfl (fun _ hx=>(by rw [Ay hx.1]; rfl)) ?_
      refine B6 rfl rfl (AV rfl Ka rfl (Ck rfl OU rfl (fun _ hx=>(by rw [Ay hx.2.1]; rfl)) ?_))
      refine AV rfl Qs rfl (Ck rfl BH rfl (fun _ hx=>(by rw [Ay hx.2.2.1,hrow]; rfl)) ?_)
      refine Ck rfl GN rfl (fun _ hx=>(by rw [Ay hx.1]; rfl)) ?_
      refine B6 rfl rfl (AV rfl Ka rfl (Ck rfl OU rfl (fun _ hx=>(by rw [Ay hx.2.1]; rfl)) ?_))
      refine AV rfl Qs rfl (Ck rfl BH rfl (fun _ hx=>(by rw [Ay hx.2.2.1,hrow]; rfl)) ?_)
      refine AE rfl K8 K9 rfl rfl (by omega) (by omega) ?_
      refine Ck rfl Sc rfl (fun _ hx=>(by rw [Ay hx.2.2.2]; simpa using hgu)) ?_
      refine Gl _ rfl Sb Gq rfl rfl (fun _ hx=>(Hk hx.2.2.1)) ?_
      refine BJ ?_
      replace H:=H.drew
      refine DC (FM g pf y) (.agg _) rfl JA Gq I0 rfl (by decide) (by decide) rfl rfl rfl H ?_
      rintro b75 w - H
      refine Ab (CX (⟨H.ext.to k11 n11,H.ext.to k36 n36,H.ext.to k13 n13,H.get at1⟩) (Ba rfl rfl ?_))
      refine BJ (DM (L:=[(oo,_)]) rfl JA JA Gq Aax I0 rfl (by decide) rfl rfl H (ROB.os u hyu) rfl (MD g pf y) (by omega) ?_)
      rintro a76 c76 f76 w H O76
      refine Ab (CX (⟨H.ext.to k11 n11,H.ext.to k36 n36,H.ext.to k13 n13,H.get at0⟩) (Ba rfl rfl ?_))
      refine AE rfl K8 K9 rfl rfl (by omega) (by omega) ?_
      refine BJ (BP u (fun q=>sloV (stS st u ⟨a76,(st u).n+1,c76,f76⟩ q)) (.slice _ _ _) rfl K9 rfl rfl rfl H at0 (by simp) hyu (by rw [G0]; rfl) (fun q _ hq=>by rw [IA hq]) ?_)
      rintro w H
      refine Ab (BS rfl (Ch (A5 ?_)))
      have hss:=UN (g:=g) hy
      rw [← hu] at hss
      have hO':OS a76 ((st u).n+1) c76 4 f76 ((Hn g (l.take (i+1)) u).flatMap (FM g pf)):=by rw [hss.1,List.flatMap_append]; simpa using O76
      have h02:w0.heap.size≤w2.heap.size:=by omega
      obtain ⟨RO',hnewM⟩:=ROB.step hyu (s:=⟨a76,(st u).n+1,c76,f76⟩) (sel':=fun q=>Hn g (l.take (i+1)) q) (fun x hx=>by have hx:x<ws.heap.size+2:=hx; omega) h02 H hO' (fun q hq=>hss.2 q hq)
      have hidM:∀ x∈oo::(JF (st u)).map (·.1),MF oo nn st x:=fun x hx=>by
       rcases List.mem_cons.1 hx with h | h
       ·exact .inl h
       ·obtain ⟨z,hz,he⟩:=List.mem_map.1 h
        exact .inr ⟨u,hyu,z,hz,he⟩
      refine ⟨_,⟨stS st u ⟨a76,(st u).n+1,c76,f76⟩,rfl,RO',fun q hq=>?_,HB.step H.ext (fun z hz=>hnot z.1 (hOLoo z hz) (.inl (by have:=hOLlt z hz; omega))) (fun z hz => .inr ?_),H.ext.to e1 (hnot x1 (by omega) (.inl (by omega))),H.ext.to e2 (hnot x2 (by omega) (.inl (by omega))),H.ext.to e3 (hnot x3 (by omega) (.inl (by omega)))⟩,fun x hx=>?_,_,H.ext,fun x hx => .inl (hidM x hx)⟩
      ·by_cases e:q=u
       ·subst e; rw [G0]; dsimp only; omega
       ·rw [IA e]; have:=hni q hq; omega
      ·rcases List.mem_cons.1 hz with h | h
       ·rw [h]; exact hooge
       ·obtain ⟨t,ht,he⟩:=List.mem_map.1 h
        have:=(RO.blk u hyu t ht).2.1
        omega
      ·exact (hnewM x hx).imp id fun h=>by omega
     ·rintro M w ⟨st,rfl,RO,hni,HJ,-,-,-⟩ hD
      have htk:l.take (Ju (grE (nn:Int) es) (Ez pot) (Eb (Cl es) (flE fl) es.length)).length=l:=List.take_of_length_le (by unfold Ju; rw [List.length_map,← hl]; exact Nat.le_refl _)
      simp only [htk] at RO
      clear hni htk
      obtain ⟨w5,rfl⟩:∃ z,z=w:=⟨_,rfl⟩
      have h59:∀ x,MF oo nn st x→x<w5.heap.size:=fun x hx=>(hM RO x hx).1
      have h5D:=Bt hD
      obtain ⟨ids,hids⟩:∃ ids,ids=OL.map (·.1):=⟨_,rfl⟩
      have hidM:∀ x∈ids,¬ MF oo nn st x:=fun x hx hm=>by
       rw [hids] at hx
       obtain ⟨y,hy,rfl⟩:=List.mem_map.1 hx
       have a1:=hOLlt y hy
       have a2:=hOLoo y hy
       rcases hm with h | ⟨u,hu,z,hz,he⟩
       ·exact a2 h
       ·have h3:=(RO.blk u hu z hz).2.2.1
        apply h3
        show z.1<_
        omega
      have hidD:ws.heap.size∉ids:=fun hx=>by
       rw [hids] at hx
       obtain ⟨y,hy,he⟩:=List.mem_map.1 hx
       have a1:=hOLlt y hy
       omega
      have hB:∀ {w':World} {L':List (Nat × Obj)},Ctx w5 ids w' L'→Ctx w0 [] w' L':=fun h=>(Ctx.back (L1:=OL) (L2:=[]) HJ.app_nil (by rw [← hids]; exact h)).nil_app
      have hnotL:∀ x,MF oo nn st x→∀ {w':World} {L':List (Nat × Obj)},Ctx w5 ids w' L'→x∉L'.map (·.1):=fun x hx {w' L'} h hm=>by
       obtain ⟨y,hy,he⟩:=List.mem_map.1 hm
       rcases h.own y hy with h1 | h1
       ·rw [he] at h1; exact hidM x h1 hx
       ·have:=h59 x hx; omega
      have H:Ctx w5 ids w5 OL:=by rw [hids]; exact HJ.app_nil.lend
      rw [hOL] at H
      clear hids
      obtain ⟨A,hA⟩:∃ A,A=Lo g (Cl es) (flE fl) pf:=⟨_,rfl⟩
      have hF:=Pn hfit
      rw [← hg,← hpf] at hF
      have hlb:∀ a,g.len pf a≤2199023256552 ∧ -2199023256552≤g.len pf a:=fun a=>by
       rw [hg,hpf]; exact Zk hr (Zl hp) a
      have hgN:g.N=nn:=by rw [hg]; rfl
      have hgE:g.E=es.length:=by rw [hg]; rfl
      have hArcs:Ph A nn 2199023256552:=by rw [hA,← hgN]; exact hF.arcs hgo fun a _=>(hlb a).1
      have hlE:l=Eb (Cl es) (flE fl) g.E:=by rw [hgE]; exact hl
      have hAf:∀ u,A.filter (fun a=>decide (a.1=u))=(Hn g l u).map (HO g pf):=fun u=>by rw [hA,hlE]; exact Q4 g _ _ pf u
      have hsl:∀ u,(Hn g l u).length≤400:=fun u=>Nat.le_trans (List.length_filter_le _ _) hlen400
      have hdeg:∀ u,Hm A u≤400:=fun u=>by unfold Hm; rw [hAf,List.length_map]; have:=hsl u; omega
      have hsn:src.length≤nn:=Kd nn src hnd hsrc
      have hfr:src≠[]→(adr fr).block<w0.heap.size:=fun h=>Rd.lt Rs (by simpa using h) (fun x _=>⟨_,rfl⟩) (by decide)
      have hselx:∀ u,u<nn→∀ x∈Hn g l u,g.u x=u∧g.v x<nn∧x<2*es.length:=fun u _ x hx=>by
       obtain ⟨h1,h2⟩:=List.mem_filter.1 hx
       have h3:x<2*es.length:=by rw [hl] at h1; exact TK h1
       have h4:=hgo.v (a:=x) (by rw [hgE]; exact h3)
       exact ⟨of_decide_eq_true h2,by rw [← hgN]; exact h4,h3⟩
      have hstn:∀ u,u<nn→(st u).n=(Hn g l u).length:=fun u hu=>(RO.os u hu).numN (fun _ _=>rfl) (by decide)
      have hget:∀ u,u<nn→(UM nn st)[u]? = some (.slice (st u).a (Hn g l u).length (st u).c):=fun u hu=>by
       have:=Dl (f:=fun u=>sloV (st u)) hu
       rw [← hstn u hu]; exact this
      have hrow:∀ {w':World} {S:List Nat},Ext S w5 w'→(∀ x∈S,x∈ids)→∀ u,u<nn→Rd w' (st u).a 4 (FM g pf) (Hn g l u):=fun {w' S} hx hS u hu=>by
       have RO':=RO.keep hx fun x hx'=>hidM x (hS x hx')
       exact (RO'.os u hu).rd (t:=229) (fun y hy=>(RO'.blk u hu y hy).1) (fun _ _=>rfl) (by decide)
      have hrowM:∀ u,u<nn→Hn g l u≠[]→MF oo nn st (adr (st u).a).block:=fun u hu hne=>by
       obtain ⟨b,hb⟩:=(RO.os u hu).form (by rw [hstn u hu]; exact List.length_pos_iff.2 hne)
       exact Or.inr ⟨u,hu,(b,Bl 229 (st u).full),by show _∈ent (st u).a _ _; rw [YA hb]; exact List.mem_cons_self ..,by rw [hb]; rfl⟩
      have hooM:MF oo nn st oo := .inl rfl
      refine A5 (Aa (Ag (Ao rfl Ab9 (Ze _) rfl ?_)))
      rintro v w ⟨bh,rfl,hbh,hbhv,hx78⟩
      replace H:=H.callAdd hx78 hbhv hbh
      have Hp0:=H.perm (List.perm_middle (l₁:=[_,_,_]) (l₂:=[_,_,_]))
      have hlb0:=Zp
      have Hp:Ctx w5 ids w (NBl od nn (lb0 []) bh none 0 0 []++[(b11,Bl 221 [ptr b36]),(b36,Bl 224 (FB oo od oh ob nn)),(oh,Bl 3 (B4 (fun _=>0) nn)),(ob,Bl 3 (B4 (fun _ => -1) nn)),(b4,Bl 28 [.int .i64 (nn:Int),.slice a es.length c])]):=by show Ctx w5 ids w ((od,Bl 2 (B4 (lb0 []).d nn))::_); rw [hlb0]; exact Hp0
      refine Dr rfl rfl (Ab (Aa (Aq (Ag (AA rfl GN rfl H at1 rfl (Bj rfl rfl (An rfl rfl (Ao rfl Aca (Xe (Ctx.lend Hp) OS.nil (Hp.get at3) (S2 (Hp.comm).nd (x:=(b36,_)) (List.mem_of_getElem? (i:=1) rfl)) ((Rs.ext0 (hB Hp).ext)) (fun hne hm=>by have h1:=hfr hne; have h2:=(hB Hp.left).own; obtain ⟨y,hy,he⟩:=List.mem_map.1 hm; rcases h2 y hy with h | h; cases h; omega) (by omega) hsrc hnd (by omega)) rfl ?_))))))))
      rintro v w ⟨rfl,a0,c0,f0,L0,hp0,hH0,O0,H2⟩
      replace H:=Ctx.comm (L:=NBl od nn (lb0 src) bh a0 src.length c0 f0) (Ctx.back Hp H2)
      refine Bu rfl rfl (Ab (Aa (Ax _ rfl ?_ ?_)))
      ·intro h4
       replace h4:=Bp h4
       have:=of_decide_eq_false h4
       omega
      ·intro h4
       replace h4:=Bq h4
       refine Av (Aa (Aq (Au ?_)))
       have hn0:src.length=L0.length:=O0.numN (fun _ _=>rfl) (by decide)
       have hps:=UO (n:=nn) (A:=A) (src:=src) (d:=400) (by omega) fun v _=>hdeg v
       have hps2:(nn:Int)*(400*((nn:Int)+1))≤40*(400*41):=Int.mul_le_mul (by omega) (by omega) (by omega) (by omega)
       refine Bi 81129619071793567861722210074624 (α:=WSt) (fun _=>[]) (fun t w'=>MI A src nn 2199023256552 t.D t.s t.L∧HeapL t.L∧OS t.a t.hn t.c 2 t.full (t.L.flatMap Ew)∧psi nn A t.D t.s t.L≤1000000∧Ctx w5 ids w' ([(b11,Bl 221 [ptr b36]),(b36,Bl 224 (FB oo od oh ob nn)),(ob,Bl 3 (B4 (fun _ => -1) nn)),(b4,Bl 28 [.int .i64 (nn:Int),.slice a es.length c])]++GB od oh nn t.s bh t.a t.hn t.c t.full)) (fun t=>(psi nn A t.D t.s t.L).toNat) ⟨lb0 src,a0,src.length,c0,f0,L0,-1⟩ rfl ?_ ?_ ?_
       ·exact trivial
       ·refine ⟨(MI.start hsrc hnd).perm hp0.symm,hH0,O0,?_,?_⟩
        ·dsimp only
         rw [ME hp0]
         omega
        ·exact H.perm (List.Perm.cons _ (List.Perm.cons _ (List.perm_middle (l₁:=[_,_,_])).symm))
       ·rintro ⟨s,a',hn,c',full,L,D⟩ j w ⟨MM,hH,O,hpsi,H⟩; dsimp only at MM hH O hpsi H; dsimp only
        have hnl:hn=L.length:=O.numN (fun _ _=>rfl) (by decide)
        have hpl:=Pm (n:=nn) (A:=A) (D:=D) (s:=s) (hp:=L)
        refine Aq (Ag (Bj rfl rfl (Ao rfl Acb (Zf (H.get (k:=6) rfl)) rfl ?_)))
        rintro v w ⟨rfl,rfl⟩
        refine C0 rfl rfl rfl (Ab (Aa (Ax _ rfl ?_ ?_)))
        ·intro h5
         replace h5:=AF h5
         obtain ⟨⟨d,v⟩,L1,rfl⟩:∃ t L1,L=t::L1:=by
          cases L with
          | nil=>simp at hnl; omega
          | cons t L1=>exact ⟨t,L1,rfl⟩
         obtain ⟨q,rfl⟩:=O.form (by omega)
         have hmin:∀ x∈L1,d≤x.1:=fun x hx=>by
          obtain ⟨i,hi⟩:=List.getElem?_of_mem hx
          have h:=hH.root (r:=(d,v)) rfl (i+1) x (by simpa using hi)
          rcases h with h | h
          ·exact Int.le_of_lt h
          ·exact Int.le_of_eq h.1
         have hvn:=MM.top hArcs
         dsimp only at hvn
         obtain ⟨dv,hdv⟩:∃ dv,dv=s.d v:=⟨_,rfl⟩
         have hgd:(tab s.d nn)[v]? = some dv:=by rw [BM hvn,hdv]
         refine Av (Aa (Au (Ag (Bj rfl rfl ?_))))
         have Hc:=Ctx.comm (L:=[_,_,_,_,_,_]) (L':=HB bh (some ⟨q,0,none⟩) hn c' full) H
         refine Ao rfl Acc (Adk (Ctx.lend (L1:=HB bh (some ⟨q,0,none⟩) hn c' full) (L2:=[_,_,_,_,_,_]) Hc) O (by omega) hH) rfl ?_
         rintro rv w ⟨rfl,f2,L2,hp2,hH2,O2,H2⟩
         replace H:=Ctx.comm (L:=HB bh (some ⟨q,0,none⟩) L1.length c' f2) (L':=[_,_,_,_,_,_]) (Ctx.back (L1:=HB bh (some ⟨q,0,none⟩) hn c' full) (L2:=[_,_,_,_,_,_]) Hc H2)
         refine BG rfl rfl (A7 rfl rfl rfl (A7 rfl rfl rfl (A7 rfl rfl rfl (Af rfl rfl (Af rfl rfl (Af rfl rfl (Ab (Aa ?_))))))))
         have MM2:MI A src nn 2199023256552 D s ((d,v)::L2):=MM.perm ((hp2.cons _).symm)
         have hmin2:∀ x∈L2,d≤x.1:=fun x hx=>hmin x (hp2.mem_iff.1 hx)
         have hps3:psi nn A D s ((d,v)::L2)=psi nn A D s ((d,v)::L1):=ME (hp2.cons _)
         refine Ag (Ad rfl rfl (AA rfl GN rfl H at0 rfl (Bc rfl rfl (Ah rfl DF rfl (AA rfl BF rfl H at1 rfl (Ad rfl rfl (Bb rfl AR B2 rfl rfl (by omega) (by omega) ?_)))))))
         refine AX rfl Bw rfl (((Ct (H.get at4)).fld hgd rfl (j:=0) rfl)) ?_
         refine BX rfl rfl rfl (Ab (Aa (Ax _ rfl ?_ ?_)))
         ·intro h6
          replace h6:=AF h6
          have he:(d,v).1=s.d (d,v).2:=by dsimp only; rw [← hdv]; exact h6
          obtain ⟨La,hLa⟩:∃ La,La=Hn g l v:=⟨_,rfl⟩
          have hll:La.length≤400:=by rw [hLa]; exact hsl v
          have hfold:∀ k,(goP g pf s L2 (La.take k))=(((La.take k).map (HO g pf)).foldl HQ (s,L2)):=fun k=>rfl
          have hgoes:∀ k,DJ A src nn 2199023256552 (goP g pf s L2 (La.take k)).1:=fun k=>by
           rw [hfold]
           exact (MM2.go hArcs (by omega) (by omega) hmin2 he (l:=(La.take k).map (HO g pf)) (l1:=(La.drop k).map (HO g pf)) (by rw [← List.map_append,List.take_append_drop,hLa]; exact hAf v)).1
          obtain ⟨M3,hps4⟩:=(MM2.go hArcs (by omega) (by omega) hmin2 he (l:=La.map (HO g pf)) (l1:=[]) (by rw [List.append_nil,hLa]; exact hAf v)).2 rfl
          have RO1:=RO.keep H.ext hidM
          have RX:=hrow H.ext (fun _ h=>h) v hvn
          have hgv:=hget v hvn
          rw [← hLa] at RX hgv
          refine Aw (AA rfl GN rfl H at0 rfl (Bj rfl rfl (Ad rfl rfl ?_)))
          have Hc:=Ctx.comm (L:=[_,_,_,_]) (L':=GB od oh nn s bh (some ⟨q,0,none⟩) L1.length c' f2) H
          refine Ao rfl Acd (Zj (Ctx.lend (L1:=GB od oh nn s bh (some ⟨q,0,none⟩) L1.length c' f2) (L2:=[_,_,_,_]) Hc) O2 hH2 (H.get at1) (S2 (L:=[_,_,_,_]) H.nd (x:=(b36,_)) (List.mem_of_getElem? (i:=1) rfl)) RO1.tbl (hnotL oo hooM (Ctx.left (L':=[_,_,_,_]) Hc)) hgv hvn RX (fun hne=>hnotL _ (hrowM v hvn (hLa ▸ hne)) (Ctx.left (L':=[_,_,_,_]) Hc)) (by omega) (fun x hx=>by rw [hLa] at hx; have h7:=hselx v hvn x hx; have h8:=hlb x; exact ⟨h7.1,h7.2.1,by omega,by omega⟩) (by simp only [List.length_cons] at hnl hpl; omega) (fun k x _=>by have h7:=(hgoes k).dist (by omega) (by omega) x; exact ⟨h7.1,by omega,by omega⟩)) rfl ?_
          rintro rv w ⟨rfl,a3,hn3,c3,f3,L3,hp3,hH3,O3,H3⟩
          replace H:=Ctx.comm (L:=GB od oh nn (goP g pf s L2 La).1 bh a3 hn3 c3 f3) (L':=[_,_,_,_]) (Ctx.back (L1:=GB od oh nn s bh (some ⟨q,0,none⟩) L1.length c' f2) (L2:=[_,_,_,_]) Hc H3)
          refine Ab (A5 (Aa ?_))
          have hps7:psi nn A d (goP g pf s L2 La).1 (goP g pf s L2 La).2+1≤psi nn A D s ((d,v)::L2):=hps4
          have hps5:psi nn A d (goP g pf s L2 La).1 L3+1≤psi nn A D s ((d,v)::L1):=by
           rw [ME hp3,← hps3]; exact hps7
          have hps6:=Pm (n:=nn) (A:=A) (D:=d) (s:=(goP g pf s L2 La).1) (hp:=L3)
          exact ⟨⟨(goP g pf s L2 La).1,a3,hn3,c3,f3,L3,d⟩,rfl,trivial,⟨MI.perm M3 hp3.symm,hH3,O3,by dsimp only; omega,H⟩,by dsimp only; omega⟩
         ·intro h6
          replace h6:=AG h6
          have hne:(d,v).1≠s.d (d,v).2:=by dsimp only; rw [← hdv]; exact h6
          obtain ⟨M3,hps4⟩:=MM2.drop hArcs hmin2 hne
          have hps6:=Pm (n:=nn) (A:=A) (D:=d) (s:=s) (hp:=L2)
          refine Av (A5 (Aa ?_))
          exact ⟨⟨s,some ⟨q,0,none⟩,L1.length,c',f2,L2,d⟩,rfl,trivial,⟨M3,hH2,O2,by dsimp only at hps4 ⊢; omega,H⟩,by dsimp only at hps4 ⊢; omega⟩
        ·intro h5
         replace h5:=AG h5
         obtain rfl:L=[]:=List.eq_nil_of_length_eq_zero (by omega)
         have DN:=MM.ends
         have hsd:=fun v=>MM.dj.dist (by omega) (by omega) v
         have hge:∀ u,u<nn→g.u u=g.u u:=fun _ _=>rfl
         have RO1:=RO.keep H.ext hidM
         have hooG:=hnotL oo hooM H
         have Hp4:=H.perm (List.perm_middle (l₁:=[_,_]) (l₂:=[_,_,_]++_))
         have hobM:∀ u,u<nn→Hn g l u≠[]→(adr (st u).a).block≠ob:=fun u hu hne e=>hnotL _ (hrowM u hu hne) H (by rw [e]; exact List.mem_map.2 ⟨(ob,_),List.mem_of_getElem? (i:=2) rfl,rfl⟩)
         refine Bd (Aj (Aj (AD (Aa (Ag (AA rfl GN rfl H at0 rfl (Ao rfl Ace (Xf (outL:=fun u=>Hn g l u) (g:=g) (p:=pf) (s:=s) (H.get at2) (H.get at1) (H.get at4) (H.get at5) RO1.tbl (H.ne at1 at2 (by decide)) (H.ne at4 at2 (by decide)) (H.ne at5 at2 (by decide)) (fun e=>hooG (by rw [e]; exact List.mem_map.2 ⟨(ob,_),List.mem_of_getElem? (i:=2) rfl,rfl⟩)) (by omega) (fun v=>by have h7:=hsd v; omega) (fun u hu=>⟨_,_,hget u hu,hrow H.ext (fun _ h=>h) u hu,hobM u hu,by have:=hsl u; omega,fun x hx=>by have h7:=hselx u hu x hx; have h8:=hlb x; exact ⟨h7.1,h7.2.1,by omega,by omega,by omega⟩⟩)) rfl ?_)))))))
         rintro rv w ⟨rfl,by',BB,H3⟩
         replace H:=Ctx.back (L1:=[_]) (L2:=[_,_,_,_,_]++_) Hp4 H3
         refine Ab (Aa (DS (fun x=>x=_) B3 (by kernel_rfl) rfl ?_))
         refine BZ rfl GN rfl (by rintro _ rfl; exact H.drew) at1 rfl ?_
         refine Bg rfl rfl (A6 rfl DF rfl (BZ rfl BF rfl (by rintro _ rfl; exact H.drew) at2 rfl ?_))
         refine BZ rfl GN rfl (by rintro _ rfl; exact H.drew) at1 rfl ?_
         refine Bg rfl rfl (A6 rfl Ix rfl (BZ rfl Fl rfl (by rintro _ rfl; exact H.drew) at2 rfl ?_))
         refine NB rfl rfl (NB rfl rfl (Co rfl rfl (BQ ?_)))
         rintro _ rfl
         replace H:=H.drew
         refine A9 (Zo rfl rfl rfl rfl ?_)
         have hodlt:=hOLlt (od,_) (by rw [hOL]; exact List.mem_of_getElem? (i:=2) rfl)
         have hoblt:=hOLlt (ob,_) (by rw [hOL]; exact List.mem_of_getElem? (i:=4) rfl)
         dsimp only at hodlt hoblt
         have hall:∀ a,a∈Hn g l (g.u a)→a<2*g.E∧0<C6 (Cl es) (flE fl) a:=fun x hx=>by
          have h1:=(List.mem_filter.1 hx).1
          rw [hlE] at h1
          obtain ⟨h2,h3⟩:=List.mem_filter.1 h1
          exact ⟨List.mem_range.1 h2,of_decide_eq_true h3⟩
         have BY:=Adl (cap:=Cl es) (x:=flE fl) (by rw [← hA]; exact DN) (by rw [← hA]; exact hArcs) BB hall (fun x h1 h2=>⟨by rw [← hgN]; exact hgo.u h1,List.mem_filter.2 ⟨by rw [hlE]; exact List.mem_filter.2 ⟨List.mem_range.2 h1,decide_eq_true h2⟩,decide_eq_true rfl⟩⟩)
         refine Gd (H.ext.to hD hidD) rfl fun wF hxF=>⟨od,ob,s,by',rfl,?_,?_,fun v=>?_,?_⟩
         ·rw [hA,hg,hpf] at DN; exact DN
         ·rw [hg,hpf] at BY; exact BY
         ·rcases BB.val v with h | ⟨x,h1,h2,-⟩
          ·exact .inl h
          ·exact .inr ⟨x,h1,by rw [← hgE]; exact (hall x h2).1⟩
         ·refine ((hB H).sub (L':=[(od,Bl 2 (B4 s.d nn)),(ob,Bl 3 (B4 by' nn))]) (fun x hx=>?_) ?_).step hxF (fun x hx=>?_) fun x hx => .inr ?_
          ·simp only [List.mem_cons,List.not_mem_nil,or_false] at hx
           rcases hx with rfl | rfl
           ·exact List.mem_of_getElem? (i:=4) rfl
           ·exact List.mem_of_getElem? (i:=0) rfl
          ·simp only [List.pairwise_cons,List.mem_singleton,forall_eq,List.not_mem_nil,false_imp_iff,implies_true,List.Pairwise.nil,and_true]
           exact H.ne at4 at0 (by decide)
          ·simp only [List.mem_cons,List.not_mem_nil,or_false] at hx
           rw [List.mem_singleton]
           rcases hx with rfl | rfl
           ·dsimp only; omega
           ·dsimp only; omega
          ·rw [List.mem_singleton.1 hx]; exact hs07

end Go.Proofs.YtapphbmlkdhnmaaGreat

/- Nets with other caps; phases: plain law. -/
namespace Go.Proofs.YtapphbmlkdhnmaaGreat
open Go.GV

theorem OS.setf {α:Type} {a:Option Addr} {n c s:Nat} {full:List Value} {enc:α→List Value} {L:List α} (O:OS a n c s full (L.flatMap enc)) (hs:∀ x,(enc x).length=s) {i j:Nat} {x y:α} {v:Value} (hx:L[i]? = some x) (hj:j<s) (hy:enc y=(enc x).set j v):OS a n c s (full.set (i*s+j) v) ((L.set i y).flatMap enc):=by
 refine ⟨O.zero,O.none',by rw [List.length_set]; exact O.len,O.le,?_⟩
 rw [O.split,Zc (fun z _=>hs z) hx hj hy]
 have h1:=O.llen
 rw [Ev fun z _=>hs z] at h1
 exact List.take_left' (by rw [Ev fun z _=>hs z,List.length_set,h1])

/-- The edges, with other caps. -/
def edC (es:List Ed) (c:Nat→Int) (i:Nat):Ed:={ es.getD i e0 with cap:=c i }
def esC (es:List Ed) (c:Nat→Int):List Ed:=(List.range es.length).map (edC es c)
theorem HS (es:List Ed) (c:Nat→Int):(esC es c).length=es.length:=by unfold esC; simp
theorem HT {es:List Ed} {c:Nat→Int} {i:Nat} (h:i<es.length):(esC es c)[i]? = some (edC es c i):=Dl h
theorem Je {es:List Ed} {c d:Nat→Int} (h:∀ i,i<es.length→c i=d i):esC es c=esC es d:=List.map_congr_left fun i hi=>by unfold edC; rw [h i (List.mem_range.1 hi)]
theorem TN {es:List Ed} {c d:Nat→Int} {i:Nat} {e:Ed} (he:edC es d i=e) (h:∀ j,j<es.length→j≠i→d j=c j):(esC es c).set i e=esC es d:=IQ he fun j hj hn=>by unfold edC; rw [h j hj hn]
theorem ML (es:List Ed):esC es (Cl es)=es:=by
 refine List.ext_getElem? fun i=>?_
 rcases Nat.lt_or_ge i es.length with h | h
 ·obtain ⟨e,he⟩:=AC h
  rw [HT h,he]
  unfold edC Cl
  rw [Bn he]
 ·rw [List.getElem?_eq_none (by rw [HS]; exact h),List.getElem?_eq_none h]
theorem Adm {es:List Ed} {c:Nat→Int} {i:Nat} (h:i<es.length):Cl (esC es c) i=c i:=by
 unfold Cl; rw [Bn (HT h)]; rfl
theorem grE_C (N:Int) (es:List Ed) (c:Nat→Int):grE N (esC es c)=grE N es:=by
 have h:∀ i,((esC es c).getD i e0).f=(es.getD i e0).f∧((esC es c).getD i e0).t=(es.getD i e0).t∧((esC es c).getD i e0).cost=(es.getD i e0).cost:=fun i=>by
  rcases Nat.lt_or_ge i es.length with h | h
  ·rw [Bn (HT h)]; exact ⟨rfl,rfl,rfl⟩
  ·rw [List.getD_eq_getElem?_getD,List.getElem?_eq_none (by rw [HS]; exact h),List.getD_eq_getElem?_getD,List.getElem?_eq_none h]
   exact ⟨rfl,rfl,rfl⟩
 unfold grE
 rw [HS]
 congr 1
 ·funext i; rw [(h i).1]
 ·funext i; rw [(h i).2.1]
 ·funext i; rw [(h i).2.2]
theorem NP {α:Type} {f g:α→Nat}:∀ {l:List α},(∀ x∈l,f x≤g x)→(l.map f).sum≤(l.map g).sum
 | [],_=>Nat.le_refl _
 | x::l,h=>by
  have h1:=h x (List.mem_cons_self ..)
  have h2:=NP (l:=l) fun y hy=>h y (List.mem_cons_of_mem _ hy)
  simp only [List.map_cons,List.sum_cons]
  omega
theorem TO {N:Int} {es:List Ed} {c:Nat→Int} (h:BV N es=true) (hc:∀ i,i<es.length→0≤c i∧c i≤Cl es i):BV N (esC es c)=true:=by
 obtain ⟨h1,h2,h3,h4,h5⟩:=BR h
 have h6:DI (esC es c)≤DI es:=by
  have e1:DI es=((List.range es.length).map fun i=>EG (es.getD i e0)).sum:=by
   conv=>lhs; rw [← ML es]
   unfold DI esC
   rw [List.map_map]
   congr 1
  have e2:DI (esC es c)=((List.range es.length).map fun i=>EG (edC es c i)).sum:=by
   unfold DI esC
   rw [List.map_map]
   congr 1
  rw [e1,e2]
  refine NP fun i hi=>?_
  have h7:=hc i (List.mem_range.1 hi)
  unfold EG edC
  dsimp only
  exact Nat.mul_le_mul_right _ (by unfold Cl at h7; omega)
 have h7:(esC es c).all (D9 N)=true:=List.all_eq_true.2 fun e he=>by
  obtain ⟨i,hi,rfl⟩:=List.mem_map.1 he
  have hil:=List.mem_range.1 hi
  obtain ⟨e,he⟩:=AC hil
  have h8:=CN (h4 e (List.mem_of_getElem? he))
  have h9:=hc i hil
  unfold Cl at h9
  rw [Bn he] at h9
  unfold edC D9 Gz
  rw [Bn he]
  dsimp only
  simp only [Bool.and_eq_true,decide_eq_true_eq]
  omega
 unfold BV
 rw [h7,HS]
 simp only [Bool.and_eq_true,decide_eq_true_eq]
 exact ⟨⟨h1,h2⟩,h3,trivial,by omega⟩
theorem Xm {N:Int} {es:List Ed} {c x:Nat→Int} (h:BV N es=true) (hc:∀ i,i<es.length→0≤c i∧c i≤Cl es i) (hx:∀ i,i<es.length→0≤x i∧x i≤c i):B1 N (esC es c) (tab x es.length)=true:=by
 unfold B1
 rw [TO h hc,Db,HS,decide_eq_true rfl]
 refine List.all_eq_true.2 fun b hb=>?_
 obtain ⟨i,hi⟩:=List.getElem?_of_mem hb
 have hil:i<es.length:=by
  have:=CB hi
  rw [List.length_zipWith,HS,Db] at this
  omega
 rw [JD (HT hil) (BM hil)] at hi
 obtain rfl:=Option.some.inj hi
 have:=hx i hil
 unfold inB edC
 simp only [Bool.and_eq_true,decide_eq_true_eq,id_eq]
 omega
/-- The caps of a phase. -/
def Fv (es:List Ed) (k i:Nat):Int:=(((Cl es i).toNat / 2 ^ k:Nat):Int)
theorem L9 {N:Int} {es:List Ed} (h:BV N es=true) (k:Nat):∀ i,i<es.length→0≤Fv es k i∧Fv es k i≤Cl es i:=fun i hi=>by
 obtain ⟨e,he⟩:=AC hi
 have h8:=CN ((BR h).2.2.2.1 e (List.mem_of_getElem? he))
 have h9:(Cl es i).toNat / 2 ^ k≤(Cl es i).toNat:=Nat.div_le_self _ _
 have h7:0≤Cl es i:=by unfold Cl; rw [Bn he]; omega
 unfold Fv
 obtain ⟨z,hz⟩:∃ z,z=(Cl es i).toNat / 2 ^ k:=⟨_,rfl⟩
 rw [← hz] at h9 ⊢
 omega
theorem NQ (es:List Ed) (k i:Nat):2*Fv es (k+1) i≤Fv es k i∧Fv es k i≤2*Fv es (k+1) i+1:=by
 have h:(Cl es i).toNat / 2 ^ (k+1)=((Cl es i).toNat / 2 ^ k) / 2:=by rw [Nat.pow_succ,Nat.div_div_eq_div_mul]
 unfold Fv
 rw [h]
 obtain ⟨z,hz⟩:∃ z,z=(Cl es i).toNat / 2 ^ k:=⟨_,rfl⟩
 rw [← hz]
 omega
theorem UT {N:Int} {es:List Ed} (h:BV N es=true):∀ i,i<es.length→Fv es 0 i=Cl es i:=fun i hi=>by
 have h7:=L9 h 0 i hi
 unfold Fv at h7 ⊢
 rw [Nat.pow_zero,Nat.div_one] at h7 ⊢
 omega
theorem LA {N:Int} {es:List Ed} (h:BV N es=true):∀ i,i<es.length→0≤Cl es i∧Cl es i≤4503599627370496:=fun i hi=>by
 obtain ⟨e,he⟩:=AC hi
 have h8:=CN ((BR h).2.2.2.1 e (List.mem_of_getElem? he))
 unfold Cl; rw [Bn he]; omega
theorem KC {g:Gr} {cap cap' x p:Nat→Int} (h:Fine g cap x p) (hc:∀ i,i<g.E→cap' i=cap i):Fine g cap' x p:=by
 refine ⟨fun i hi=>by rw [hc i hi]; exact h.in' i hi,fun a ha hr=>h.fit a ha ?_⟩
 unfold C6 at hr ⊢
 rw [hc _ (by omega)] at hr
 exact hr
theorem TP {g:Gr} {x:Nat→Int} (hE:g.E≤200) (hx:∀ i,i<g.E→0≤x i∧x i≤4503599627370496) (v:Nat) : -900719925474099200≤B0 g x v∧B0 g x v≤900719925474099200:=by
 have h:=I6 (g:=g) (x:=x) (c:=4503599627370496) v (k:=g.E) hx
 have h2:(g.E:Int)*4503599627370496≤200*4503599627370496:=by omega
 unfold B0
 omega

end Go.Proofs.YtapphbmlkdhnmaaGreat

/- The solver: finer caps: the walk. -/
namespace Go.Proofs.YtapphbmlkdhnmaaGreat
open Go.GV
attribute [local irreducible] A2 W Wq Wt

def HU (c c':Nat→Int) (i j:Nat):Int:=if j<i then c' j else c j
def flW (g:Gr) (c' x p:Nat→Int) (i j:Nat):Int:=if j<i then I5 g c' x p j else x j
theorem TQ {c c':Nat→Int} {i j:Nat} (h:j≠i):HU c c' (i+1) j=HU c c' i j:=by unfold HU; split <;> split <;> first | rfl | omega
theorem Xn {g:Gr} {c' x p:Nat→Int} {i j:Nat} (h:j≠i):flW g c' x p (i+1) j=flW g c' x p i j:=by unfold flW; split <;> split <;> first | rfl | omega
abbrev FL (bf bo n N:Nat) (x ov:Nat→Int) (ae:Option Addr) (full:List Value):List (Nat × Obj):=(bf,Bl 2 (B4 x n))::(bo,Bl 2 (B4 ov N))::ent ae 92 full

set_option maxRecDepth 20000 in
set_option maxHeartbeats 8000000 in
theorem Xo {w:World} {bs:Nat} {N:Nat} {ae aw:Option Addr} {ce cw bf bp bo k:Nat} {kk:Int} {es:List Ed} {c x p ov:Nat→Int} {full:List Value} (H0:Ctx w ((FL bf bo es.length N x ov ae full).map (·.1)) w (FL bf bo es.length N x ov ae full)) (O:OS ae es.length ce 4 full ((esC es c).flatMap Bv))
  (hs:w.heap[bs]? = some (Bl 170 (SC N ae es.length ce bf bp bo kk))) (hbs:bs∉(FL bf bo es.length N x ov ae full).map (·.1)) (hp:w.heap[bp]? = some (Bl 2 (B4 p N))) (hbp:bp∉(FL bf bo es.length N x ov ae full).map (·.1)) (Rw:Rd w aw 4 Bv es) (hRw:es≠[]→(adr aw).block∉(FL bf bo es.length N x ov ae full).map (·.1))
  (hr:BV (N:Int) es=true) (hk:k≤64) (hc:∀ i,i<es.length→2*c i≤Fv es k i∧Fv es k i≤2*c i+1) (hF:Fine (grE (N:Int) es) c x p) (hx0:∀ v,v<N→B0 (grE (N:Int) es) x v=0) (hov:∀ v,v<N→ov v=0) (hpb:∀ v,v<N → -1073741824≤p v∧p v≤1073741824) :
  Ret Tryz.prog 119 #[ptr bs,CG (N:Int) aw es.length cw,.int .i64 (k:Int)] w fun v w'=>v = .tuple #[]∧∃ full',OS ae es.length ce 4 full' ((esC es (Fv es k)).flatMap Bv) ∧
   Ctx w ((FL bf bo es.length N x ov ae full).map (·.1)) w' (FL bf bo es.length N (I5 (grE (N:Int) es) (Fv es k) x p) (B0 (grE (N:Int) es) (I5 (grE (N:Int) es) (Fv es k) x p)) ae full'):=by
 obtain ⟨w0,rfl⟩:∃ w0,w0=w:=⟨_,rfl⟩
 obtain ⟨ids,hids⟩:∃ ids,ids=(FL bf bo es.length N x ov ae full).map (·.1):=⟨_,rfl⟩
 rw [← hids] at H0 hbs hbp hRw ⊢
 have H:=H0
 obtain ⟨hN1,hN40,hn200,hall,-⟩:=BR hr
 obtain ⟨g,hg⟩:∃ g,g=grE (N:Int) es:=⟨_,rfl⟩
 obtain ⟨c',hc'⟩:∃ c',c'=Fv es k:=⟨_,rfl⟩
 have hgE:g.E=es.length:=by rw [hg]; rfl
 have hgo:g.Ok:=by rw [hg]; exact JG hr
 have hin:=L9 hr k
 have hcb:=LA hr
 rw [← hg] at hF hx0 ⊢
 rw [← hc'] at hc hin ⊢
 have hF2:=M9 hF (cap':=c') (fun i hi=>hc i (by rw [← hgE]; exact hi))
 have hxb:∀ i,i<es.length→0≤x i∧2*x i≤c' i∧c' i≤4503599627370496:=fun i hi=>by
  have h1:=hF.in' i (by rw [hgE]; exact hi)
  have h2:=hc i hi
  have h3:=hin i hi
  have h4:=hcb i hi
  omega
 have hmix:∀ i v,-900719925474099200≤B0 g (GR g c' x p i) v∧B0 g (GR g c' x p i) v≤900719925474099200:=fun i v=>TP (by omega) (fun j hj=>by
  have h1:=hxb j (by rw [← hgE]; exact hj)
  have h2:=hF2.in' j hj
  unfold GR
  split <;> omega) v
 refine A1 (fn:=Tryz.f119) Tryz.func119 rfl [.pointer (some ⟨bs,0,none⟩),CG (N:Int) aw es.length cw,.int .i64 (k:Int)] rfl (by kernel_rfl) ?_
 refine Ag (Bs rfl [.int .i64 (N:Int),.slice aw es.length cw] (.agg _) rfl rfl H ?_)
 rintro b4 w - H
 refine Ab (Aa (Ag (Bj rfl rfl (Bc rfl rfl (Ah rfl Et rfl (AX rfl BF rfl ((by rw [Ay (H.ext.to hs hbs)]; rfl)) ?_))))))
 refine AU rfl AR rfl (Ad rfl rfl (Ab (Aa (Au (Bi 21778071482940061661655974875633165517248 (α:=Nat × List Value) (fun t=>[(14,.int .i64 (t.1:Int))]) (fun t w'=>t.1≤es.length∧OS ae es.length ce 4 t.2 ((esC es (HU c c' t.1)).flatMap Bv)∧Ctx w0 ids w' ((b4,Bl 28 [.int .i64 (N:Int),.slice aw es.length cw])::FL bf bo es.length N (flW g c' x p t.1) (B0 g (GR g c' x p t.1)) ae t.2)) (fun t=>es.length - t.1) (0,full) rfl ?_ ?_ ?_)))))
 ·exact ⟨rfl,trivial⟩
 ·refine ⟨Nat.zero_le _,?_,?_⟩
  ·rw [Je (d:=c) fun i _=>by unfold HU; rw [if_neg (Nat.not_lt_zero _)]]
   exact O
  ·have e1:B4 (flW g c' x p 0) es.length=B4 x es.length:=List.map_congr_left fun i _=>by unfold flW; rw [if_neg (Nat.not_lt_zero _)]
   have e2:B4 (B0 g (GR g c' x p 0)) N=B4 ov N:=List.map_congr_left fun v hv=>by
    have hv:=List.mem_range.1 hv
    rw [WN (hx0 v hv),hov v hv]
   dsimp only [FL]
   rw [e1,e2]
   exact H
 ·rintro ⟨i,full1⟩ j w ⟨hi,O,H⟩; dsimp only at hi O H; dsimp only
  refine Ag (AN rfl rfl rfl (Ab (Aa (Aq (Ax _ rfl ?_ ?_)))))
  ·intro h1
   replace h1:=AF h1
   have hil:i<es.length:=by omega
   obtain ⟨e,he⟩:=AC hil
   have hee:=CN (hall e (List.mem_of_getElem? he))
   obtain ⟨un,hun⟩:∃ un:Nat,e.f=un:=⟨e.f.toNat,by omega⟩
   obtain ⟨vn,hvn⟩:∃ vn:Nat,e.t=vn:=⟨e.t.toNat,by omega⟩
   obtain ⟨cc,hcc⟩:∃ cc:Nat,e.cap=cc:=⟨e.cap.toNat,by omega⟩
   have hgf:g.f i=un:=by rw [hg]; show (es.getD i e0).f.toNat=un; rw [Bn he,hun]; rfl
   have hgt:g.t i=vn:=by rw [hg]; show (es.getD i e0).t.toNat=vn; rw [Bn he,hvn]; rfl
   have hgc:g.co i=e.cost:=by rw [hg]; show (es.getD i e0).cost=_; rw [Bn he]
   have hck:c' i=((cc / 2 ^ k:Nat):Int):=by
    rw [hc']; unfold Fv Cl; rw [Bn he,hcc]; rfl
   have hunN:un<N:=by omega
   have hvnN:vn<N:=by omega
   obtain ⟨q,rfl⟩:=O.form (by omega)
   have hxi:=hxb i hil
   obtain ⟨xi,hxie⟩:∃ xi,xi=x i:=⟨_,rfl⟩
   obtain ⟨ck,hcke⟩:∃ ck,ck=c' i:=⟨_,rfl⟩
   rw [← hxie,← hcke] at hxi
   rw [← hcke] at hck
   have hgx:(tab (flW g c' x p i) es.length)[i]? = some xi:=by rw [BM hil,hxie]; unfold flW; rw [if_neg (Nat.lt_irrefl _)]
   have hcap2:(Bv e)[2]? = some (.int .i64 (cc:Int)):=by unfold Bv; rw [hcc]; rfl
   have hes:es≠[]:=fun h=>by rw [h] at he; cases he
   have hqn:=O.le
   have hOl:=O.len
   refine Av (Aa (Aq (Au (Ag (Ad rfl rfl (Af rfl rfl (Ab (Aa (Ag (Bj rfl rfl (Bc rfl rfl ?_)))))))))))
   refine Ah rfl FE rfl (Ah rfl BU rfl (AX rfl CI rfl ((by rw [Ay (H.ext.to hs hbs)]; rfl)) ?_))
   refine Ad rfl rfl (Bb rfl Ce BC rfl rfl (by omega) (by omega) ?_)
   refine Dr rfl rfl (Ab (Aa (Ag (Bj rfl rfl (Bc rfl rfl (Ah rfl Et rfl (AX rfl BF rfl ((by rw [Ay (H.ext.to hs hbs)]; rfl)) ?_)))))))
   refine Ad rfl rfl (Bb rfl AR B2 rfl rfl (by omega) (by omega) ?_)
   refine AX rfl Bw rfl (((Ct (H.get at1)).fld hgx rfl (j:=0) rfl)) ?_
   refine Cf rfl rfl rfl (by omega) (by omega) ?_
   refine Bb rfl AR B2 rfl rfl (by omega) (by omega) ?_
   refine BP i (fun z => .int .i64 (if z=i then xi*2 else flW g c' x p i z)) (.int _ _) rfl B2 rfl rfl rfl H at1 (by simp) hil (by rw [if_pos rfl]) (fun z _ hz=>by rw [if_neg hz]) ?_
   rintro w H
   refine Ab (Aa (Ag (Bj rfl rfl (Ah rfl BU rfl (AA rfl CI rfl H at0 rfl (Ad rfl rfl (AZ Rw rfl Ce BC rfl rfl (by omega) (by omega) (by rfl) ?_)))))))
   refine Ah rfl CU rfl (AX rfl Bw rfl (((Rw.ext H.ext (hRw hes)).fld he rfl (j:=2) hcap2)) ?_)
   refine Ad rfl rfl (HD (a:=cc) (n:=k) rfl rfl rfl (by omega) ?_)
   rw [← hck]
   refine Bc rfl rfl (Ah rfl CU rfl (Cj (.int _ _) rfl B2 rfl rfl rfl H at3 (by omega) ?_))
   rintro w H
   refine Ab (Aa ?_)
   rw [show 0+((i:Int)).toNat*4+2=i*4+2 by omega] at H
   have O1:=OS.setf O (y:=edC es (HU c c' (i+1)) i) (j:=2) (v := .int .i64 ck) (fun _=>rfl) (HT (c:=HU c c' i) hil) (by decide) (by unfold edC Bv HU; dsimp only; rw [if_pos (by omega),← hcke]; rfl)
   rw [TN rfl (fun j _ hj=>TQ hj)] at O1
   obtain ⟨full2,hf2⟩:∃ full2,full2=full1.set (i*4+2) (.int .i64 ck):=⟨_,rfl⟩
   rw [← hf2] at O1
   replace H:Ctx w0 ids w ((b4,Bl 28 [.int .i64 (N:Int),.slice aw es.length cw])::(bf,Bl 2 (B4 (fun z=>if z=i then xi*2 else flW g c' x p i z) es.length))::(bo,Bl 2 (B4 (B0 g (GR g c' x p i)) N))::[(q,Bl 92 full2)]):=by rw [hf2]; exact H
   have hrow:=HT (c:=HU c c' (i+1)) hil
   have henc:Bv (edC es (HU c c' (i+1)) i)=[.int .i64 (un:Int),.int .i64 (vn:Int),.int .i64 ck,.int .i64 e.cost]:=by
    unfold edC Bv HU; rw [Bn he]; dsimp only; rw [if_pos (by omega),hun,hvn,← hcke]
   have hfin:I5 g c' x p i=if 2*xi<ck∧e.cost+p un - p vn<0 then ck else 2*xi:=by
    unfold I5; rw [hgc,hgf,hgt,← hxie,← hcke]
   have hms:=fun v=>WO (g:=g) (cap':=c') (x:=x) (p:=p) (k:=i) (by omega) v
   rw [hgf,hgt,← hxie] at hms
   obtain ⟨pu,hpu⟩:∃ pu,pu=p un:=⟨_,rfl⟩
   obtain ⟨pv,hpv⟩:∃ pv,pv=p vn:=⟨_,rfl⟩
   have hpbu:=hpb un hunN
   have hpbv:=hpb vn hvnN
   rw [← hpu] at hpbu hfin
   rw [← hpv] at hpbv hfin
   have hgpu:(tab p N)[un]? = some pu:=by rw [BM hunN,hpu]
   have hgpv:(tab p N)[vn]? = some pv:=by rw [BM hvnN,hpv]
   have hgx2:(tab (fun z=>if z=i then xi*2 else flW g c' x p i z) es.length)[i]? = some (xi*2):=by rw [BM hil,if_pos rfl]
   have RP:=Ct hp
   have hRE:∀ {z:World},z.heap[q]? = some (Bl 92 full2)→Rd z (some ⟨q,0,none⟩) 4 Bv (esC es (HU c c' (i+1))):=fun h=>O1.rd (t:=92) (fun y hy=>by have hy:=List.mem_singleton.1 hy; rw [hy]; exact h) (fun _ _=>rfl) (by decide)
   have RE:=hRE (H.drew.get at3)
   refine Dw 38685626227650541404553216 (α:=Unit) (fun _=>[(84,.bool (decide (xi*2<ck∧e.cost+pu - pv<0)))]) (fun _ w'=>Ctx w0 ids w' ((b4,Bl 28 [.int .i64 (N:Int),.slice aw es.length cw])::(bf,Bl 2 (B4 (fun z=>if z=i then xi*2 else flW g c' x p i z) es.length))::(bo,Bl 2 (B4 (B0 g (GR g c' x p i)) N))::[(q,Bl 92 full2)])) rfl ?_ ?_
   ·skip
    refine Tn (fun x=>x=_) B3 (by kernel_rfl) rfl ?_
    refine Cb rfl rfl (Bg rfl rfl (A6 rfl Et rfl (Cc rfl BF rfl (by rintro _ rfl; exact ((by rw [Ay (H.drew.ext.to hs hbs)]; rfl))) ?_)))
    refine AM rfl rfl (AL rfl AR B2 rfl rfl (by omega) (by omega) ?_)
    refine Cc rfl Bw rfl (by rintro _ rfl; exact (((Ct (H.drew.get at1)).fld hgx2 rfl (j:=0) rfl))) ?_
    refine Cb rfl rfl (Bg rfl rfl (A6 rfl CU rfl (Cc rfl Bw rfl (by rintro _ rfl; exact ((RE.fld hrow rfl (j:=2) (by rw [henc]; rfl)))) ?_)))
    refine KS rfl rfl rfl (Di rfl rfl (Dc 56 rfl ?_ ?_))
    ·intro h1
     replace h1:=AF h1
     refine Cb rfl rfl (Bg rfl rfl (A6 rfl Dq rfl (Cc rfl Bw rfl (by rintro _ rfl; exact ((RE.fld hrow rfl (j:=3) (by rw [henc]; rfl)))) ?_)))
     refine Cb rfl rfl (Bg rfl rfl (A6 rfl Eu rfl (Cc rfl BF rfl (by rintro _ rfl; exact ((by rw [Ay (H.drew.ext.to hs hbs)]; rfl))) ?_)))
     refine Cb rfl rfl (Bg rfl rfl (A6 rfl Dp rfl (Cc rfl BH rfl (by rintro _ rfl; exact ((RE.fld hrow rfl (j:=0) (by rw [henc]; rfl)))) ?_)))
     refine AL rfl AR B2 rfl rfl (by omega) (by omega) ?_
     refine Cc rfl Bw rfl (by rintro _ rfl; exact (((RP.ext H.drew.ext hbp).fld hgpu rfl (j:=0) rfl))) ?_
     refine CE rfl rfl rfl (by omega) (by omega) ?_
     refine Cb rfl rfl (Bg rfl rfl (A6 rfl Eu rfl (Cc rfl BF rfl (by rintro _ rfl; exact ((by rw [Ay (H.drew.ext.to hs hbs)]; rfl))) ?_)))
     refine Cb rfl rfl (Bg rfl rfl (A6 rfl Dz rfl (Cc rfl BH rfl (by rintro _ rfl; exact ((RE.fld hrow rfl (j:=1) (by rw [henc]; rfl)))) ?_)))
     refine AL rfl AR B2 rfl rfl (by omega) (by omega) ?_
     refine Cc rfl Bw rfl (by rintro _ rfl; exact (((RP.ext H.drew.ext hbp).fld hgpv rfl (j:=0) rfl))) ?_
     refine CW rfl rfl rfl (by omega) (by omega) ?_
     refine KS rfl rfl rfl (H9 rfl rfl (.bool _) rfl (BQ ?_))
     rintro _ rfl
     replace H:=H.drew
     refine Aa ?_
     exact ⟨(),rfl,⟨congrArg Value.bool (by clear hgx hgx2 hgpu hgpv hcke hxie hpu hpv hms hmix hxb hfin henc hrow hgf hgt hgc; rw [Bool.eq_iff_iff]; simp_all; try omega),trivial⟩,H⟩
    ·intro h2
     replace h2:=AG h2
     refine Az rfl (Az rfl (Az rfl (Az rfl (Az rfl (Az rfl (Az rfl (Az rfl (Az rfl (Az rfl ?_)))))))))
     refine Az rfl (Az rfl (Az rfl (Az rfl (Az rfl (Az rfl (Az rfl (Az rfl (Az rfl (Az rfl ?_)))))))))
     refine Az rfl (Az rfl (Az rfl (Az rfl (Az rfl (Az rfl (Az rfl (Lu rfl rfl (.bool _) rfl (BQ ?_))))))))
     rintro _ rfl
     replace H:=H.drew
     refine Aa ?_
     exact ⟨(),rfl,⟨congrArg Value.bool (by clear hgx hgx2 hgpu hgpv hcke hxie hpu hpv hms hmix hxb hfin henc hrow hgf hgt hgc; rw [Bool.eq_iff_iff]; simp_all; try omega),trivial⟩,H⟩
   ·rintro - j6 w H
    refine Ax _ rfl ?_ ?_
    ·intro h2
     have h2:=of_decide_eq_true h2
     rw [if_pos ⟨by omega,h2.2⟩] at hfin
     have ob1:=hmix i un
     have ob2:=hmix i vn
     have ob3:=hmix (i+1) un
     have ob4:=hmix (i+1) vn
     obtain ⟨ov1,hov1⟩:∃ ov1,ov1=B0 g (GR g c' x p i):=⟨_,rfl⟩
     have hgo2:(tab ov1 N)[vn]? = some (ov1 vn):=BM hvnN
     have hgo1:(tab (upd ov1 vn (ov1 vn+(ck - xi*2))) N)[un]? = some (upd ov1 vn (ov1 vn+(ck - xi*2)) un):=BM hunN
     rw [← hov1] at ob1 ob2 H
     rw [hms,hfin,← hov1] at ob3 ob4
     have ob5:upd ov1 vn (ov1 vn+(ck - xi*2)) un=ov1 un+(ck - xi*2)*one (vn=un):=by
      by_cases e:un=vn
      ·rw [e,Dd,Hj rfl]; omega
      ·rw [DZ e,GC (Ne.symm e)]; omega
     have ob6:∀ u,one (vn=u)=0∨one (vn=u)=1:=fun u=>by unfold one; split <;> omega
     have ob7:=ob6 un
     have ob8 : -1801439850948198400≤upd ov1 vn (ov1 vn+(ck - xi*2)) un∧upd ov1 vn (ov1 vn+(ck - xi*2)) un≤1801439850948198400:=by
      rw [ob5]
      rcases ob7 with h | h <;> rw [h] <;> omega
     refine DS (fun x=>x=_) B3 (by kernel_rfl) rfl ?_
     refine Cb rfl rfl (Bg rfl rfl (A6 rfl CU rfl (Cc rfl Bw rfl (by rintro _ rfl; exact (((hRE (H.drew.get at3)).fld hrow rfl (j:=2) (by rw [henc]; rfl)))) ?_)))
     refine Cb rfl rfl (Bg rfl rfl (A6 rfl Et rfl (Cc rfl BF rfl (by rintro _ rfl; exact ((by rw [Ay (H.drew.ext.to hs hbs)]; rfl))) ?_)))
     refine AM rfl rfl (AL rfl AR B2 rfl rfl (by omega) (by omega) ?_)
     refine Cc rfl Bw rfl (by rintro _ rfl; exact (((Ct (H.drew.get at1)).fld hgx2 rfl (j:=0) rfl))) ?_
     refine CW rfl rfl rfl (by omega) (by omega) ?_
     refine Co rfl rfl (BQ ?_)
     rintro _ rfl
     replace H:=H.drew
     refine Ag (Bj rfl rfl (Bc rfl rfl (Ah rfl Et rfl (AX rfl BF rfl ((by rw [Ay (H.ext.to hs hbs)]; rfl)) ?_))))
     refine Ad rfl rfl (Bb rfl AR B2 rfl rfl (by omega) (by omega) ?_)
     refine AX rfl Bw rfl (((Ct (H.get at1)).fld hgx2 rfl (j:=0) rfl)) ?_
     refine Ad rfl rfl (Ap rfl rfl rfl (by omega) (by omega) ?_)
     refine Bb rfl AR B2 rfl rfl (by omega) (by omega) ?_
     refine BP i (fun z => .int .i64 (if z=i then ck else flW g c' x p i z)) (.int _ _) rfl B2 rfl rfl rfl H at1 (by simp) hil (by rw [if_pos rfl]; congr 1; omega) (fun z _ hz=>by dsimp only; rw [if_neg hz,if_neg hz]) ?_
     rintro w H
     refine Ab (Aa (Ek 13 B3 (by kernel_rfl) rfl rfl ?_))
     refine Cb rfl rfl (Bg rfl rfl (A6 rfl FG rfl (Cc rfl BF rfl (by rintro _ rfl; exact ((by rw [Ay (H.drew.ext.to hs hbs)]; rfl))) ?_)))
     refine Cb rfl rfl (Bg rfl rfl (A6 rfl Dz rfl (Cc rfl BH rfl (by rintro _ rfl; exact (((hRE (H.drew.get at3)).fld hrow rfl (j:=1) (by rw [henc]; rfl)))) ?_)))
     refine AL rfl AR B2 rfl rfl (by omega) (by omega) ?_
     refine Cc rfl Bw rfl (by rintro _ rfl; exact (((Ct (H.drew.get at2)).fld hgo2 rfl (j:=0) rfl))) ?_
     refine AM rfl rfl (CE rfl rfl rfl (by omega) (by omega) ?_)
     refine AL rfl AR B2 rfl rfl (by omega) (by omega) ?_
     refine BQ ?_
     replace H:=H.drew
     refine BP vn (fun z => .int .i64 (upd ov1 vn (ov1 vn+(ck - xi*2)) z)) (.int _ _) rfl B2 rfl rfl rfl H at2 (by simp) hvnN (by rw [Dd]) (fun z _ hz=>by rw [DZ hz]) ?_
     rintro w H
     refine Ab (Aa (Ff 13 B3 (by kernel_rfl) rfl rfl ?_))
     refine Cb rfl rfl (Bg rfl rfl (A6 rfl FG rfl (Cc rfl BF rfl (by rintro _ rfl; exact ((by rw [Ay (H.drew.ext.to hs hbs)]; rfl))) ?_)))
     refine Cb rfl rfl (Bg rfl rfl (A6 rfl Dp rfl (Cc rfl BH rfl (by rintro _ rfl; exact (((hRE (H.drew.get at3)).fld hrow rfl (j:=0) (by rw [henc]; rfl)))) ?_)))
     refine AL rfl AR B2 rfl rfl (by omega) (by omega) ?_
     refine Cc rfl Bw rfl (by rintro _ rfl; exact (((Ct (H.drew.get at2)).fld hgo1 rfl (j:=0) rfl))) ?_
     refine AM rfl rfl (CW rfl rfl rfl (by omega) (by omega) ?_)
     refine AL rfl AR B2 rfl rfl (by omega) (by omega) ?_
     refine BQ ?_
     replace H:=H.drew
     refine BP un (fun z => .int .i64 (upd (upd ov1 vn (ov1 vn+(ck - xi*2))) un (upd ov1 vn (ov1 vn+(ck - xi*2)) un - (ck - xi*2)) z)) (.int _ _) rfl B2 rfl rfl rfl H at2 (by simp) hunN (by rw [Dd]) (fun z _ hz=>by rw [DZ hz]) ?_
     rintro w H
     refine Ab (A5 (Aa (Aw (Ap rfl rfl rfl (by omega) (by omega) ?_))))
     refine Ad rfl rfl (Ab (Aa ?_))
     have e1:B4 (fun z=>if z=i then ck else flW g c' x p i z) es.length=B4 (flW g c' x p (i+1)) es.length:=List.map_congr_left fun z _=>by
      dsimp only
      by_cases e:z=i
      ·subst e
       rw [if_pos rfl]; unfold flW; rw [if_pos (by omega),hfin]
      ·rw [if_neg e,Xn e]
     have e2:B4 (upd (upd ov1 vn (ov1 vn+(ck - xi*2))) un (upd ov1 vn (ov1 vn+(ck - xi*2)) un - (ck - xi*2))) N=B4 (B0 g (GR g c' x p (i+1))) N:=List.map_congr_left fun z _=>by
      congr 1
      rw [hms,hfin,← hov1]
      by_cases e:z=un
      ·subst e
       rw [Dd,ob5,Hj rfl]
       rcases ob7 with h | h <;> rw [h] <;> omega
      ·rw [DZ e,GC (p:=un=z) (Ne.symm e)]
       by_cases e3:z=vn
       ·subst e3
        rw [Dd,Hj rfl]; omega
       ·rw [DZ e3,GC (Ne.symm e3)]; omega
     refine ⟨(i+1,full2),rfl,⟨rfl,trivial⟩,⟨by dsimp only; omega,O1,?_⟩,by dsimp only; omega⟩
     dsimp only [FL]
     rw [← e1,← e2]
     exact H
    ·intro h2
     have h2:=of_decide_eq_false h2
     rw [if_neg (fun h=>h2 ⟨by omega,h.2⟩)] at hfin
     refine Av (A5 (Aa (Aw (Ap rfl rfl rfl (by omega) (by omega) ?_))))
     refine Ad rfl rfl (Ab (Aa ?_))
     have e1:B4 (fun z=>if z=i then xi*2 else flW g c' x p i z) es.length=B4 (flW g c' x p (i+1)) es.length:=List.map_congr_left fun z _=>by
      dsimp only
      by_cases e:z=i
      ·subst e
       rw [if_pos rfl]; unfold flW; rw [if_pos (by omega),hfin]; congr 1; omega
      ·rw [if_neg e,Xn e]
     have e2:B4 (B0 g (GR g c' x p i)) N=B4 (B0 g (GR g c' x p (i+1))) N:=List.map_congr_left fun z _=>by
      congr 1
      rw [hms,hfin,Int.sub_self,Int.zero_mul,Int.add_zero]
     refine ⟨(i+1,full2),rfl,⟨rfl,trivial⟩,⟨by dsimp only; omega,O1,?_⟩,by dsimp only; omega⟩
     dsimp only [FL]
     rw [← e1,← e2]
     exact H
  ·intro h1
   replace h1:=AG h1
   refine Bd (Aj (Aj (AD (CJ rfl rfl ?_))))
   obtain rfl:i=es.length:=by omega
   rw [Je (d:=c') fun i hi=>by unfold HU; rw [if_pos hi]] at O
   have e1:B4 (flW g c' x p es.length) es.length=B4 (I5 g c' x p) es.length:=List.map_congr_left fun z hz=>by
    unfold flW; rw [if_pos (List.mem_range.1 hz)]
   have e2:B4 (B0 g (GR g c' x p es.length)) N=B4 (B0 g (I5 g c' x p)) N:=List.map_congr_left fun z _=>by
    congr 1
    refine JC (fun i hi=>?_) z
    rw [← hgE]; exact YP hi
   refine ⟨rfl,full1,O,?_⟩
   have H:=H.tail
   dsimp only [FL] at H ⊢
   rw [e1,e2] at H
   exact H

end Go.Proofs.YtapphbmlkdhnmaaGreat

/- The solver: a way is filled: what the walk needs. -/
namespace Go.Proofs.YtapphbmlkdhnmaaGreat
open Go.GV
attribute [local irreducible] A2 W Wq Wt

section
variable {P:Program} {r:Option Nat} {ops rest:List Oper} {Q:Exit→Env→World→Prop} {e:Env} {w:World} {dst:Option Tmp} {ty:TypeId} {pos:String} {af:Array Edge} {gd:Option (Nat × Bool)} {t t2:TypeId} {x y:Operand} {a b:Int}
/-- An addition, with what does not fit cut off. -/
theorem Lc (hg:AK ⟨dst,.binOp .add t x y t2,ty,pos,af,gd⟩ ops e=true) (hx:ev e x = .int .i64 a) (hy:ev e y = .int .i64 b)
  (h:∀ z,A2 P r ops Q rest (put e dst (.int .i64 z)) w):A2 P r ops Q (⟨dst,.binOp .add t x y t2,ty,pos,af,gd⟩::rest) e w:=Br (v := .int .i64 (IntKind.i64.wrap (a+b))) hg rfl (B9 hx hy (by simp [binOp,Op.intArith])) (h _)
theorem UU {D1 D2:Nat} {ds:List Deferred} {K:World→Prop} (h2:w.heap[D2]? = some (.deferred (some []))) (h1:w.heap[D1]? = some (.deferred (some []))) (hne:D1≠D2) (hds:ds=[{ target := .collected D2,args:=#[] },{ target := .collected D1,args:=#[] }]) (hK:∀ wF,Ext [D2,D1] w wF→K wF):Marks ds w K:=by
 subst hds
 have x2:=Ext.setB w D2 (.deferred none)
 have x1:=Ext.setB (w.putObj D2 (.deferred none)) D1 (.deferred none)
 refine ⟨D2,rfl,h2,D1,rfl,x2.to h1 (by rw [List.mem_singleton]; exact hne),hK _ ((x2.mono (by simp)).trans (x1.mono (by simp)))⟩
end
theorem Rd.map {α β:Type} {w:World} {a:Option Addr} {s:Nat} {enc:α→List Value} {f:β→α} {xs:List β} (R:Rd w a s (fun x=>enc (f x)) xs):Rd w a s enc (xs.map f):=by
 refine ⟨fun h=>R.some' fun h'=>h (by rw [h']; rfl),fun i x hx j v hv hj=>?_⟩
 rw [List.getElem?_map] at hx
 obtain ⟨y,hy,rfl⟩:=Option.map_eq_some_iff.1 hx
 exact R.cell i y hy j v hv hj
/-- Where a way back begins. -/
def Q8 (g:Gr) (v:Nat) (l:List Nat):Nat:=l.foldl (fun _ a=>g.u a) v
theorem UV {g:Gr} {v i a:Nat} {l:List Nat} (h:l[i]? = some a):Q8 g v (l.take (i+1))=g.u a:=by
 unfold Q8
 rw [C5 h,List.foldl_append]; rfl
theorem NR {g:Gr} {cap x p:Nat→Int} {s:Lb} {by':Nat→Option Nat} (hB:Bys g cap x p s by'):∀ {k v:Nat},s.d v ≠ -1→s.h v=k→Q8 g v (D8 by' g k v)=KX by' g k v
 | 0,_,_,_=>rfl
 | k+1,v,hd,hk=>by
  obtain ⟨a,h1,h2,h3⟩:=hB.2 v hd (by omega)
  have hh:=h2.h
  rw [h3,hk] at hh
  obtain ⟨e1,e2⟩:=Gf (g:=g) (k:=k) h1
  rw [e1,e2,← NR hB h2.du (by omega)]
  rfl
theorem UW {m:Int} {x:Nat→Int} {l:List Nat} {i a:Nat} (h:l[i]? = some a):EK m x (l.take (i+1))=Hh m (EK m x (l.take i)) a:=by
 unfold EK
 rw [C5 h,List.foldl_append]; rfl
theorem Ld {N:Int} {es:List Ed} {x p:Nat→Int} (hr:BV N es=true) (h:Fine (grE N es) (Cl es) x p):B1 N es (tab x es.length)=true:=by
 have h1:=Xm (c:=Cl es) (x:=x) hr (fun i hi=>by have:=LA hr i hi; omega) (fun i hi=>h.in' i hi)
 rw [ML] at h1
 exact h1
theorem Zr {N:Nat} {p:Nat→Int} (hp:∀ v,v<N → -1073741824≤p v∧p v≤1073741824):E3 (N:Int) (tab p N)=true:=by
 unfold E3
 rw [Db,decide_eq_true rfl,Bool.and_true]
 refine List.all_eq_true.2 fun x hx=>?_
 obtain ⟨i,hi⟩:=List.getElem?_of_mem hx
 obtain ⟨h1,rfl⟩:=MA hi
 have:=hp i h1
 unfold I8
 simp only [Bool.and_eq_true,decide_eq_true_eq]
 omega
theorem Ctx.ltI {w0 w:World} {S:List Nat} {L:List (Nat × Obj)} (H:Ctx w0 S w L):∀ b∈L.map (·.1),b<w.heap.size:=fun b hb=>by
 obtain ⟨y,hy,rfl⟩:=List.mem_map.1 hb
 exact Bt (H.blk y hy)
theorem F8 {L L':List (Nat × Obj)} (h:(L++L').Pairwise (fun x y=>x.1≠y.1)) {x:Nat × Obj} (hx:x∈L'):x.1∉L.map (·.1):=fun hm=>by
 obtain ⟨y,hy,he⟩:=List.mem_map.1 hm
 exact (List.pairwise_append.1 h).2.2 y hy x hx he
theorem UX {α:Type} {R:α→α→Prop} {l:List α} (h:l.Pairwise R) {i:Nat} {a:α} (ha:l[i]? = some a):∀ b∈l.take i,R b a:=fun b hb=>by
 rw [← List.take_append_drop i l] at h
 exact (List.pairwise_append.1 h).2.2 b hb a (List.mem_of_getElem? (i:=0) (by rw [List.getElem?_drop]; exact ha))
theorem Zs {N:Nat} {p:Nat→Int} (hpn:Ez (tab p N)=p) (hpb:∀ v,v<N → -1073741824≤p v∧p v≤1073741824) (v:Nat) : -1152921504606846976≤p v∧p v≤1152921504606846976:=by
 rcases Nat.lt_or_ge v N with h | h
 ·have:=hpb v h; omega
 ·rw [← hpn]
  unfold Ez
  rw [List.getD_eq_getElem?_getD,List.getElem?_eq_none (by rw [Db]; exact h)]
  exact ⟨by decide,by decide⟩
/-- The solver's blocks. -/
abbrev SL (bs bf bp bo:Nat) (N:Nat) (ae:Option Addr) (n ce:Nat) (k:Int) (x p ov:Nat→Int) (full:List Value):List (Nat × Obj) :=
 (bs,Bl 170 (SC N ae n ce bf bp bo k))::(bf,Bl 2 (B4 x n))::(bp,Bl 2 (B4 p N))::(bo,Bl 2 (B4 ov N))::ent ae 92 full
theorem Adn {ov:Nat→Int} {N:Nat}:(∀ v∈G7 ov N,v<N)∧(G7 ov N).Nodup∧∀ v,v∈G7 ov N↔v<N∧0<ov v:=by
 have h:∀ v,v∈G7 ov N↔v<N∧0<ov v:=fun v=>by unfold G7; rw [List.mem_filter,List.mem_range,decide_eq_true_eq]
 exact ⟨fun v hv=>((h v).1 hv).1,List.nodup_range.filter _,h⟩

end Go.Proofs.YtapphbmlkdhnmaaGreat

/- The solver: a way is filled: the walk. -/
namespace Go.Proofs.YtapphbmlkdhnmaaGreat
open Go.GV
attribute [local irreducible] A2 W Wq Wt

set_option maxRecDepth 20000 in
set_option maxHeartbeats 8000000 in
theorem Zt {w:World} {bs bf bp bo:Nat} {N:Nat} {ae:Option Addr} {ce:Nat} {kk:Int} {es:List Ed} {x p ov:Nat→Int} {full:List Value} (H0:Ctx w ((SL bs bf bp bo N ae es.length ce kk x p ov full).map (·.1)) w (SL bs bf bp bo N ae es.length ce kk x p ov full)) (O:OS ae es.length ce 4 full (es.flatMap Bv))
  (hr:BV (N:Int) es=true) (hF:Fine (grE (N:Int) es) (Cl es) x p) (hov:∀ v,v<N→ov v=B0 (grE (N:Int) es) x v) (hpb:∀ v,v<N → -1073741824≤p v∧p v≤1073741824)
  (hxn:flE (tab x es.length)=x) (hpn:Ez (tab p N)=p) :
  Ret Tryz.prog 120 #[ptr bs] w fun v w'=>∃ (b:Bool) (x' p' ov':Nat→Int) (kk':Int),v = .bool b∧Ctx w ((SL bs bf bp bo N ae es.length ce kk x p ov full).map (·.1)) w' (SL bs bf bp bo N ae es.length ce kk' x' p' ov' full)∧Fine (grE (N:Int) es) (Cl es) x' p'∧(∀ v,v<N→ov' v=B0 (grE (N:Int) es) x' v)∧(∀ v,v<N → -1073741824≤p' v∧p' v≤1073741824) ∧
   (b=false→∀ v,v<N→B0 (grE (N:Int) es) x' v≤0)∧(b=true→Gy (grE (N:Int) es) x'+1≤Gy (grE (N:Int) es) x):=by
 obtain ⟨w0,rfl⟩:∃ w0,w0=w:=⟨_,rfl⟩
 obtain ⟨ids,hids⟩:∃ ids,ids=(SL bs bf bp bo N ae es.length ce kk x p ov full).map (·.1):=⟨_,rfl⟩
 rw [← hids] at H0 ⊢
 have H:=H0
 obtain ⟨hN1,hN40,hn200,hall,-⟩:=BR hr
 have hI:I64 (N:Int):=by unfold I64; omega
 have hw:=Ld hr hF
 have hpot:=Zr hpb
 have hfit:GD (N:Int) es (tab x es.length) (tab p N)=true:=Po hw hpot (by rw [hxn,hpn]; exact hF)
 obtain ⟨hsrc,hsnd,hsm⟩:=Adn (ov:=ov) (N:=N)
 have hRe:∀ {z:World},(∀ y∈ent ae 92 full,z.heap[y.1]? = some y.2)→Rd z ae 4 Bv es:=fun h=>O.rd h (fun _ _=>rfl) (by decide)
 obtain ⟨g,hg⟩:∃ g,g=grE (N:Int) es:=⟨_,rfl⟩
 have hgE:g.E=es.length:=by rw [hg]; rfl
 have hgN:g.N=N:=by rw [hg]; rfl
 have hgo:g.Ok:=by rw [hg]; exact JG hr
 have hxb:=hF.in'
 rw [← hg] at hF hov hxb ⊢
 rw [hgE] at hxb
 have hcb:=LA hr
 have hovb:∀ v,v<N → -900719925474099200≤ov v∧ov v≤900719925474099200:=fun v hv=>by
  rw [hov v hv]
  exact TP (by omega) (fun i hi=>by have h1:=hxb i (by omega); have h2:=hcb i (by omega); omega) v
 refine Gc (fn:=Tryz.f120) Tryz.func120 rfl [.pointer (some ⟨bs,0,none⟩)] rfl (by kernel_rfl) ?_
 refine Ag (Bs rfl _ (.pointer _) rfl rfl H ?_)
 rintro b1 w - H
 refine Ai rfl rfl (Ab (Aa (Ag (AA rfl Eo rfl H at0 rfl (Ao rfl Aby (Sz (H.get at1) (H.get (k:=4) rfl) (by omega)) rfl ?_)))))
 rintro v w ⟨⟨fr,fn,fc,ff,rfl,Of,hbf⟩,hx14⟩
 have hfn:=Of.num
 subst hfn
 have Rs:Rd w fr 1 I1 ((G7 ov N).map fun v:Nat=>(v:Int)):=Rd.map (Of.rd1 (f:=iN) fun y hy=>(hbf y hy).1)
 replace H:=H.call hx14
 refine AJ rfl rfl (Ab (Aa (Aq (Ag (An rfl rfl (AU rfl DB rfl (BX rfl rfl rfl (Ab (Aa (Ax _ rfl ?_ ?_))))))))))
 ·intro h1
  replace h1:=AF h1
  refine Ag (Ai rfl rfl (Ab (Aa (A9 (Al (JU (v:=(.bool _)) rfl rfl ?_))))))
  have hp0:G7 ov N=[]:=List.eq_nil_of_length_eq_zero (by omega)
  have H2:=H.tail
  refine ⟨false,x,p,ov,kk,rfl,H2,hF,hov,hpb,fun _ v hv=>?_,fun h=>by cases h⟩
  rw [← hov v hv]
  rcases Int.lt_or_le 0 (ov v) with h | h
  ·have:=(hsm v).2 ⟨hv,h⟩
   rw [hp0] at this; cases this
  ·exact h
 ·intro h1
  replace h1:=AG h1
  have hs0:0<(G7 ov N).length:=by omega
  refine Av (Aa (CZ [([0,1,2,3,4,5,6,7,8,9,10,11,12],13),([14,15,16,17,18,19],20)] (fun z=>z.heap[b1]? = some (Bl 168 [ptr bs])∧z.heap[bs]? = some (Bl 170 (SC N ae es.length ce bf bp bo kk))) [] B3 (by kernel_rfl) (⟨H.drew.get at0,H.drew.get at1⟩) ?_))
  refine Ba rfl rfl ?_
  refine Ck rfl Eo rfl (fun _ hx=>(by rw [Ay hx.1]; rfl)) ?_
  refine B6 rfl rfl (AV rfl FE rfl (Gl _ rfl Cu Ci rfl rfl (fun _ hx=>(Ho hx.2)) ?_))
  refine Ck rfl Eo rfl (fun _ hx=>(by rw [Ay hx.1]; rfl)) ?_
  refine B6 rfl rfl (AV rfl Et rfl (Ck rfl BF rfl (fun _ hx=>(by rw [Ay hx.2]; rfl)) ?_))
  refine Ck rfl Eo rfl (fun _ hx=>(by rw [Ay hx.1]; rfl)) ?_
  refine B6 rfl rfl (AV rfl Eu rfl (Ck rfl BF rfl (fun _ hx=>(by rw [Ay hx.2]; rfl)) ?_))
  refine Bo rfl rfl (BJ ?_)
  replace H:=H.drew
  refine Ao rfl Abz (Zq (N:Int) ae (some ⟨bf,0,none⟩) (some ⟨bp,0,none⟩) fr es.length ce es.length es.length N N fc es (tab x es.length) (tab p N) (G7 ov N) _ (hRe fun y hy=>H.blk y (List.mem_append_right [_,_,_,_,_] hy)) rfl hI (Ct (H.get at2)) (Db _ _) (by omega) (Ct (H.get at3)) (Db _ _) (by omega) (Rs.ext0 (Ext.drew [] _)) hfit hsrc hsnd hs0) rfl ?_
  rintro rv w ⟨od,ob,s,by',hrv,DN,BY,hby,H3⟩
  rw [Int.toNat_natCast] at hrv DN H3
  subst hrv
  replace H:=Ctx.back (L1:=[]) (L2:=_::_::_::_::_::_) H H3
  refine Ab (CX (⟨H.get at2,H.get at3⟩) (Ba rfl rfl ?_))
  refine Tt rfl rfl (Gb rfl rfl rfl (Gb rfl rfl rfl (Gb rfl rfl rfl (NC rfl rfl (NC rfl rfl (BJ (Af rfl rfl (Ab (CX (⟨H.get at2,H.get at3⟩) (Ch ?_))))))))))
  refine Aq (Ag (Ad rfl rfl (CH rfl rfl rfl (Ab (Aa (Ax _ rfl ?_ ?_))))))
  ·intro h2
   replace h2:=CO h2
   exact absurd h2 (by decide)
  ·intro h2
   replace h2:=CP h2
   have hlow:=DN.J.low
   have hds:∀ v,v∈G7 ov N→s.d v=0∧s.h v=0:=fun v hv=>(DN.J.src' v hv).2
   rw [← hg,hxn,hpn] at DN BY
   rw [← hgN] at DN
   refine Av (Aa (Ag (AA rfl Eo rfl H at2 rfl (An rfl rfl (Ao rfl Ab0 (S1 (H.get at3) (H.get at6) (H.get at0) (by omega)) rfl ?_)))))
   rintro rv w ⟨⟨to,rfl,hto⟩,rfl⟩
   refine Af rfl rfl (Ab (Aa (Aq (Ag (Ad rfl rfl (AN rfl rfl rfl (Ab (Aa (Ax _ rfl ?_ ?_)))))))))
   ·intro h3
    replace h3:=AF h3
    exfalso
    rcases hto with ⟨h,h7⟩ | ⟨tv,_,h,-,-⟩
    ·obtain ⟨v0,hv0⟩:=AC hs0
     have hm:=List.mem_of_getElem? hv0
     have h8:=(hsm v0).1 hm
     obtain ⟨z,hz1,hz2,hz3⟩:=reach hgo hF DN (v:=v0) (by omega) (by rw [(hds v0 hm).1]; omega) (by rw [← hov v0 h8.1]; exact h8.2)
     rw [hgN] at hz1
     exact h7 z hz1 ⟨by rw [hov z hz1]; exact hz3,(hlow z).resolve_left hz2⟩
    ·omega
   ·intro h3
    replace h3:=AG h3
    obtain ⟨tv,htv,rfl,hov0,hd0⟩:∃ tv:Nat,tv<N∧to=tv∧ov tv<0∧0≤s.d tv:=by
     rcases hto with ⟨h,_⟩ | h
     ·omega
     ·exact h
    have hdt:s.d tv ≠ -1:=by omega
    have hovt:=hovb tv htv
    have hgot:(tab ov N)[tv]? = some (ov tv):=BM htv
    refine Av (Aa (Dw 4494803534349056 (α:=Nat × Nat) (fun z=>[(8,ptr z.1),(9,ptr z.2)]) (fun z w'=>Ctx w0 ids w' ((z.1,Bl 3 [.int .i64 (tv:Int)])::(z.2,Bl 2 [.int .i64 (-ov tv)])::(od,Bl 2 (B4 s.d N))::(ob,Bl 3 (B4 by' N))::(b1,Bl 168 [ptr bs])::SL bs bf bp bo N ae es.length ce kk x p ov full)) rfl ?_ ?_))
    ·skip
     refine W_trz (.two [0,1,2,3,4,5,6,7,8] 9 (.one [] 10 (.one [] 11 (.one [] 12 .stop))) 10 (.one [] 9 (.one [] 11 (.one [] 12 .stop)))) (fun z=>z.heap[b1]? = some (Bl 168 [ptr bs])∧z.heap[bs]? = some (Bl 170 (SC N ae es.length ce bf bp bo kk))∧z.heap[bo]? = some (Bl 2 (B4 ov N))) B3 (by kernel_rfl) (⟨H.drew.get at2,H.drew.get at3,H.drew.get at6⟩) ?_
     refine Aao rfl rfl rfl ?_
     refine AO rfl rfl (Ck rfl Eo rfl (fun _ hx=>(by rw [Ay hx.1]; rfl)) ?_)
     refine B6 rfl rfl (AV rfl FG rfl (Ck rfl BF rfl (fun _ hx=>(by rw [Ay hx.2.1]; rfl)) ?_))
     refine AO rfl rfl (AE rfl AR B2 rfl rfl (by omega) (by omega) ?_)
     refine Ck rfl Bw rfl (fun _ hx=>((Ct hx.2.2).fld hgot rfl (j:=0) rfl)) ?_
     refine U5 rfl rfl (by omega) (by omega) ?_
     refine BJ ?_
     replace H:=H.drew
     refine ⟨?_,?_⟩
     ·skip
      refine Bm rfl Qv H ?_
      rintro b8 w - H
      refine Ab (KQ (⟨H.get at3,H.get at4,H.get at7⟩) (Kw rfl rfl ?_))
      refine BJ (Bm rfl GP H ?_)
      rintro b9 w - H
      refine Ab (KQ (⟨H.get at4,H.get at5,H.get at8⟩) (Kw rfl rfl ?_))
      refine BJ (Cj (.int _ _) rfl EJ rfl rfl rfl H at1 (by decide) ?_)
      rintro w H
      refine Ab (KQ (⟨H.get at4,H.get at5,H.get at8⟩) (Kw rfl rfl ?_))
      refine BJ (Cj (.int _ _) rfl B2 rfl rfl rfl H at0 (by decide) ?_)
      rintro w H
      refine Ab (KQ (⟨H.get at4,H.get at5,H.get at8⟩) (To ?_))
      refine Aa ?_
      exact ⟨(b8,b9),rfl,⟨rfl,rfl,trivial⟩,H.perm (List.Perm.swap ..)⟩
     ·skip
      refine Bm rfl GP H ?_
      rintro b9 w - H
      refine Ab (KQ (⟨H.get at3,H.get at4,H.get at7⟩) (Kw rfl rfl ?_))
      refine BJ (Bm rfl Qv H ?_)
      rintro b8 w - H
      refine Ab (KQ (⟨H.get at4,H.get at5,H.get at8⟩) (Kw rfl rfl ?_))
      refine BJ (Cj (.int _ _) rfl EJ rfl rfl rfl H at0 (by decide) ?_)
      rintro w H
      refine Ab (KQ (⟨H.get at4,H.get at5,H.get at8⟩) (Kw rfl rfl ?_))
      refine BJ (Cj (.int _ _) rfl B2 rfl rfl rfl H at1 (by decide) ?_)
      rintro w H
      refine Ab (KQ (⟨H.get at4,H.get at5,H.get at8⟩) (To ?_))
      refine Aa ?_
      exact ⟨(b8,b9),rfl,⟨rfl,rfl,trivial⟩,H⟩
    ·rintro ⟨b8,b9⟩ j w H; dsimp only at H; dsimp only
     obtain ⟨path,hpath⟩:∃ path,path=D8 (byO by') g (s.h tv) tv:=⟨_,rfl⟩
     have BY':Bys g (Cl es) x p s (byO by'):=BY
     obtain ⟨q1,q2,q3,q4⟩:=Jc BY' hdt rfl
     have hpe:=M8 BY' hdt rfl
     have hwp:=NR BY' hdt rfl
     rw [← hpath] at q1 hpe hwp
     have hsd0:=fun v=>DN.J.dist (by omega) (by omega) v
     refine Aq (Ag (AA rfl Eo rfl H at4 rfl (An rfl rfl (Ad rfl rfl ?_))))
     have hlt:=Ctx.ltI H
     have hwb0:=H.size
     refine Ao rfl Wu (Q5 _ _ (some ⟨ob,0,none⟩) N N bs (tv:Int) _ rfl rfl) rfl ?_
     rintro rv w ⟨b3,b4,b5,rfl,hb3,hb4,hb5,s3,s4,s5,n53,n54,hx55⟩
     replace H:=H.call hx55
     refine Ab (Aa (Au ?_))
     obtain ⟨ws,rfl⟩:∃ z,z=w:=⟨_,rfl⟩
     have l3:=Bt hb3
     have l4:=Bt hb4
     have l5:=Bt hb5
     have hwsz:=H.size
     have h05:w0.heap.size≤b5:=Nat.le_trans hwb0 s5
     have n8:=hlt b8 (List.mem_cons_self ..)
     have n9:=hlt b9 (List.mem_cons_of_mem _ (List.mem_cons_self ..))
     refine PZ (gf:=196) rfl Wy (Q7 (b3:=b3) (b4:=b4) (b5:=b5) (bs:=bs) (ob:=ob) (N:=N) (ae:=ae) (ce:=ce) (bf:=bf) (bp:=bp) (bo:=bo) (kk:=kk) (es:=es) (by':=by') (x:=x) (p:=p) (s:=s) hw (by rw [← hg]; exact BY') hby htv hdt rfl) (by kernel_rfl) (by kernel_rfl) (fun v hv=>by obtain ⟨p,-,rfl⟩:=List.mem_map.1 hv; rfl)
      (fun i M w'=>(M=fun y=>y=b8∨y=b9)∧(∃ mo:Int,Ctx w0 ids w' ((b8,Bl 3 [.int .i64 ((Q8 g tv (path.take i):Nat):Int)])::(b9,Bl 2 [.int .i64 (mo)])::(od,Bl 2 (B4 s.d N))::(ob,Bl 3 (B4 by' N))::(b1,Bl 168 [ptr bs])::SL bs bf bp bo N ae es.length ce kk (x) (p) (ov) full)∧0<mo∧mo ≤ -ov tv∧∀ a∈path.take i,mo≤C6 (Cl es) x a)∧w'.heap[b3]? = some (Bl 168 [ptr bs])∧w'.heap[b4]? = some (Bl 203 [.slice (some ⟨ob,0,none⟩) N N]))
      (fun _=>False) (by simp only [List.mem_singleton]; omega) (fun w2 hx2=>hx2.to hb5 (by simp))
      (fun w2 hx2 _=>⟨_,rfl,⟨-ov tv,H.call hx2,by omega,Int.le_refl _,fun a ha=>by cases ha⟩,hx2.to hb3 (by simp),hx2.to hb4 (by simp)⟩)
      (fun i M w' w'' hJ hx=>?_) (fun _ _ h _=>h) (fun i M w' hJ=>?_) ?_ ?_ (fun _ h _=>h.elim)
     ·obtain ⟨hM,⟨mo,HJ,m1,m2,m3⟩,g3,g4⟩:=hJ
      refine ⟨hM,⟨mo,HJ.step hx (fun y hy=>?_) (fun z hz => .inr ?_),m1,m2,m3⟩,hx.to g3 ?_,hx.to g4 ?_⟩
      ·have h7:=List.mem_map_of_mem (f:=(·.1)) hy
       have:=hlt y.1 h7
       simp only [List.mem_cons,List.not_mem_nil,or_false]; omega
      ·simp only [List.mem_cons,List.not_mem_nil,or_false] at hz; omega
      ·simp only [List.mem_cons,List.not_mem_nil,or_false]; omega
      ·simp only [List.mem_cons,List.not_mem_nil,or_false]; omega
     ·obtain ⟨hM,⟨mo,HJ,m1,m2,m3⟩,g3,g4⟩:=hJ
      refine ⟨fun y hy=>?_,g4,g3,HJ.get at5,HJ.get at3,hRe fun y hy=>HJ.blk y (List.mem_append_right [_,_,_,_,_,_,_,_,_] hy),?_⟩
      ·rw [hM] at hy
       rcases hy with rfl | rfl
       ·exact ⟨Bt (HJ.get at0),by omega,by omega⟩
       ·exact ⟨Bt (HJ.get at1),by omega,by omega⟩
      ·rw [hM]; dsimp only; omega
     ·rintro i v _ w hxv ⟨rfl,⟨mo,HJ,m1,m2,m3⟩,g3,g4⟩ hsz
      rw [← hg,← hpath,List.getElem?_map] at hxv
      obtain ⟨a,ha,rfl⟩:=Option.map_eq_some_iff.1 hxv
      obtain ⟨hWa,-⟩:=q1 a (List.mem_of_getElem? ha)
      have hWlt:=hWa.lt
      obtain ⟨-,hR,-⟩:=MH hw (k:=a) (by omega)
      obtain ⟨w1,rfl⟩:∃ z,z=w:=⟨_,rfl⟩
      refine Ag (Af rfl rfl (Ab (Aa (Aw (Af rfl rfl (Ab ?_))))))
      refine ⟨Ext.refl _ _,fun wB hxB=>?_⟩
      have HB:=HJ.step hxB (fun y hy=>by have h7:=List.mem_map_of_mem (f:=(·.1)) hy; have:=hlt y.1 h7; rw [List.mem_singleton]; omega) (fun z hz => .inr (by rw [List.mem_singleton.1 hz]; omega))
      have e3:=hxB.to g3 (by rw [List.mem_singleton]; omega)
      have e4:=hxB.to g4 (by rw [List.mem_singleton]; omega)
      have k1:=HB.get at4
      have ks:=HB.get at5
      have kf:=HB.get at6
      have hn1:=F8 (L:=[_,_]) HB.nd (x:=(b1,_)) (List.mem_of_getElem? (i:=2) rfl)
      have hns:=F8 (L:=[_,_]) HB.nd (x:=(bs,_)) (List.mem_of_getElem? (i:=3) rfl)
      have hnf:=F8 (L:=[_,_]) HB.nd (x:=(bf,_)) (List.mem_of_getElem? (i:=4) rfl)
      have hke:∀ y∈ent ae 92 full,wB.heap[y.1]? = some y.2∧y.1∉[b8,b9]:=fun y hy=>⟨HB.blk y (List.mem_append_right [_,_,_,_,_,_,_,_,_] hy),F8 (L:=[_,_]) HB.nd (List.mem_append_right [_,_,_,_,_,_,_] hy)⟩
      obtain ⟨w2,rfl⟩:∃ z,z=wB:=⟨_,rfl⟩
      have H:=Ctx.lend (L1:=[_,_]) (L2:=_::_::_::_::_::_::_::_) HB
      refine Au (Fx [([0,1,2,3,4,5,6,7,8,9,10],11),([12],13),([],14)] (fun z=>z.heap[b9]? = some (Bl 2 [.int .i64 mo])∧z.heap[b1]? = some (Bl 168 [ptr bs])∧z.heap[bs]? = some (Bl 170 (SC N ae es.length ce bf bp bo kk))) [14] B3 (by kernel_rfl) (⟨H.drew.get at1,H.drew.ext.to k1 hn1,H.drew.ext.to ks hns⟩) ?_)
      refine Ba rfl rfl ?_
      refine AO rfl rfl (Ck rfl Bw rfl (fun _ hx=>(by rw [Ay hx.1]; rfl)) ?_)
      refine Ck rfl Eo rfl (fun _ hx=>(by rw [Ay hx.2.1]; rfl)) ?_
      refine B6 rfl rfl (AV rfl FE rfl (Gl _ rfl Cu Ci rfl rfl (fun _ hx=>(Ho hx.2.2)) ?_))
      refine Ck rfl Eo rfl (fun _ hx=>(by rw [Ay hx.2.1]; rfl)) ?_
      refine B6 rfl rfl (AV rfl Et rfl (Ck rfl BF rfl (fun _ hx=>(by rw [Ay hx.2.2]; rfl)) ?_))
      refine AO rfl rfl (BJ ?_)
      replace H:=H.drew
      refine Ao rfl Sh (Pk (N:Int) ae (some ⟨bf,0,none⟩) es.length ce es.length es.length es (tab x es.length) _ (hRe fun y hy=>H.ext.to (hke y hy).1 (hke y hy).2) rfl (by omega) hI (Ct (H.ext.to kf hnf)) (Db _ _) (by omega) (a:Int)) rfl ?_
      rintro v w ⟨rfl,hx69⟩
      replace H:=H.call hx69
      rw [hR]
      refine Ab (CX (⟨H.get at1,H.ext.to k1 hn1,H.ext.to ks hns⟩) (Ba rfl rfl ?_))
      refine Aar rfl rfl rfl ?_
      refine BJ (Cj (.int _ _) rfl EJ rfl rfl rfl H at0 (by (simp; done)) ?_)
      rintro w H
      refine Ab (CX (⟨H.get at1,H.ext.to k1 hn1,H.ext.to ks hns⟩) (Ba rfl rfl ?_))
      refine BJ (Cj (.int _ _) rfl B2 rfl rfl rfl H at1 (by (simp; done)) ?_)
      rintro w H
      refine Ab (BS rfl (Ch (A5 ?_)))
      have hrm:=hWa.room
      have HH:=Ctx.back (L1:=[_,_]) (L2:=_::_::_::_::_::_::_::_) HB H
      refine ⟨_,⟨rfl,⟨min mo (C6 (Cl es) x a),by rw [UV ha]; exact HH,by omega,by omega,fun a' ha'=>?_⟩,H.ext.to e3 (by simp only [List.map_cons,List.map_nil,List.mem_cons,List.not_mem_nil,or_false]; omega),H.ext.to e4 (by simp only [List.map_cons,List.map_nil,List.mem_cons,List.not_mem_nil,or_false]; omega)⟩,fun x hx => .inl hx,_,H.ext,fun x hx => .inl (by simpa using hx)⟩
      rw [C5 ha] at ha'
      rcases List.mem_append.1 ha' with h | h
      ·have:=m3 a' h; omega
      ·rw [List.mem_singleton.1 h]; omega
     ·rintro M w ⟨-,⟨mo,HJ,m1,m2,m3⟩,-,-⟩ hD
      have hxl:(List.map (Xl (grE (N:Int) es)) (D8 (byO by') (grE (N:Int) es) (s.h tv) tv)).length=path.length:=by rw [List.length_map,← hg,← hpath]
      rw [hxl,List.take_length] at HJ m3
      obtain ⟨f0,hf0⟩:∃ f0,f0=Q8 g tv path:=⟨_,rfl⟩
      rw [← hf0] at HJ hwp
      rw [← hwp] at q3 q4
      have hf0s:=(hsm f0).1 (by have h7:=DN.J.zero f0 q3 q4; rw [hgN] at h7; exact h7)
      have hovf:=hovb f0 hf0s.1
      have hgof:(tab ov N)[f0]? = some (ov f0):=BM hf0s.1
      have H:=HJ.add hD (.inr hwsz) (fun y hy e=>by have h7:=List.mem_map_of_mem (f:=(·.1)) hy; have:=hlt y.1 h7; omega)
      refine A5 (Aa (Ek 9 B3 (by kernel_rfl) rfl rfl ?_))
      refine BZ rfl Bw rfl (by rintro _ rfl; exact H.drew) at2 rfl ?_
      refine BZ rfl Eo rfl (by rintro _ rfl; exact H.drew) at5 rfl ?_
      refine Bg rfl rfl (A6 rfl FG rfl (BZ rfl BF rfl (by rintro _ rfl; exact H.drew) at6 rfl ?_))
      refine BZ rfl BH rfl (by rintro _ rfl; exact H.drew) at1 rfl ?_
      refine AL rfl AR B2 rfl rfl (by omega) (by omega) ?_
      refine Cc rfl Bw rfl (by rintro _ rfl; exact (((Ct (H.drew.get at9)).fld hgof rfl (j:=0) rfl))) ?_
      refine Aaq rfl rfl rfl ?_
      refine BQ ?_
      replace H:=H.drew
      refine Cj (.int _ _) rfl B2 rfl rfl rfl H at2 (by (simp; done)) ?_
      rintro w H
      refine Ab (Aa (Aq ?_))
      obtain ⟨mm,hmm⟩:∃ mm,mm=min mo (ov f0):=⟨_,rfl⟩
      rw [← hmm] at H
      have hmm0:0<mm∧mm≤ov f0∧mm ≤ -ov tv:=by omega
      refine Ag (AA rfl Eo rfl H at5 rfl (An rfl rfl (Ad rfl rfl ?_)))
      have hlt2:=Ctx.ltI H
      have hwb2:=H.size
      refine Ao rfl Wu (Q5 _ _ (some ⟨ob,0,none⟩) N N bs (tv:Int) _ rfl rfl) rfl ?_
      rintro rv w ⟨c3,c4,c5,rfl,hc3,hc4,hc5,t3,t4,t5,nc53,nc54,hx83⟩
      replace H:=H.call hx83
      refine Ab (Aa (Au ?_))
      obtain ⟨wt,rfl⟩:∃ z,z=w:=⟨_,rfl⟩
      have j3:=Bt hc3
      have j4:=Bt hc4
      have j5:=Bt hc5
      have hwtz:=H.size
      have nbf:=hlt2 bf (List.mem_of_getElem? (i:=7) rfl)
      refine PZ (gf:=196) rfl Wy (Q7 (b3:=c3) (b4:=c4) (b5:=c5) (bs:=bs) (ob:=ob) (N:=N) (ae:=ae) (ce:=ce) (bf:=bf) (bp:=bp) (bo:=bo) (kk:=kk) (es:=es) (by':=by') (x:=x) (p:=p) (s:=s) hw (by rw [← hg]; exact BY') hby htv hdt rfl) (by kernel_rfl) (by kernel_rfl) (fun v hv=>by obtain ⟨p,-,rfl⟩:=List.mem_map.1 hv; rfl)
       (fun i M w'=>(M=fun y=>y=bf)∧Ctx w0 ids w' ((ws.heap.size,.deferred (some []))::((b8,Bl 3 [.int .i64 (f0:Int)])::(b9,Bl 2 [.int .i64 (mm)])::(od,Bl 2 (B4 s.d N))::(ob,Bl 3 (B4 by' N))::(b1,Bl 168 [ptr bs])::SL bs bf bp bo N ae es.length ce kk (EK mm x (path.take i)) (p) (ov) full))∧w'.heap[c3]? = some (Bl 168 [ptr bs])∧w'.heap[c4]? = some (Bl 203 [.slice (some ⟨ob,0,none⟩) N N]))
       (fun _=>False) (by simp only [List.mem_singleton]; omega) (fun w2 hx2=>hx2.to hc5 (by simp))
       (fun w2 hx2 _=>⟨_,rfl,H.call hx2,hx2.to hc3 (by simp),hx2.to hc4 (by simp)⟩)
       (fun i M w' w'' hJ hx=>?_) (fun _ _ h _=>h) (fun i M w' hJ=>?_) ?_ ?_ (fun _ h _=>h.elim)
      ·obtain ⟨hM,HJ,g3,g4⟩:=hJ
       refine ⟨hM,HJ.step hx (fun y hy=>?_) (fun z hz => .inr ?_),hx.to g3 ?_,hx.to g4 ?_⟩
       ·have h7:=List.mem_map_of_mem (f:=(·.1)) hy
        have:=hlt2 y.1 h7
        simp only [List.mem_cons,List.not_mem_nil,or_false]; omega
       ·simp only [List.mem_cons,List.not_mem_nil,or_false] at hz; omega
       ·simp only [List.mem_cons,List.not_mem_nil,or_false]; omega
       ·simp only [List.mem_cons,List.not_mem_nil,or_false]; omega
      ·obtain ⟨hM,HJ,g3,g4⟩:=hJ
       refine ⟨fun y hy=>?_,g4,g3,HJ.get at6,HJ.get at4,hRe fun y hy=>HJ.blk y (List.mem_append_right [_,_,_,_,_,_,_,_,_,_] hy),?_⟩
       ·rw [hM] at hy
        rw [hy]
        exact ⟨Bt (HJ.get at7),by omega,by omega⟩
       ·rw [hM]; dsimp only; omega
      ·rintro i v _ w hxv ⟨rfl,HJ,g3,g4⟩ hsz
       rw [← hg,← hpath,List.getElem?_map] at hxv
       obtain ⟨a,ha,rfl⟩:=Option.map_eq_some_iff.1 hxv
       have ham:=List.mem_of_getElem? ha
       obtain ⟨hWa,-⟩:=q1 a ham
       have hWlt:=hWa.lt
       have hai:a / 2<es.length:=by omega
       have hm4:=m3 a ham
       have hcb2:=hcb (a / 2) hai
       have hxb2:=hxb (a / 2) hai
       have hxa:EK mm x (path.take i) (a / 2)=x (a / 2):=HK fun b hb=>UX hpe ha b hb
       have hgxa:(tab (EK mm x (path.take i)) es.length)[a / 2]? = some (x (a / 2)):=by rw [BM hai,hxa]
       have hsuc:∀ z,EK mm x (path.take (i+1)) z=if z=a / 2 then (if a % 2=0 then x (a / 2)+mm else x (a / 2) - mm) else EK mm x (path.take i) z:=fun z=>by
        rw [UW ha]
        unfold Hh
        by_cases e:z=a / 2
        ·rw [if_pos e,if_pos e,e,hxa]
        ·rw [if_neg e,if_neg e]
       have ha9:a<9223372036854775808:=by omega
       have hml:mm≤C6 (Cl es) x a:=by omega
       obtain ⟨w1,rfl⟩:∃ z,z=w:=⟨_,rfl⟩
       refine Aw (Af rfl rfl (Ab ?_))
       refine ⟨Ext.refl _ _,fun wB hxB=>?_⟩
       have HB:=HJ.step hxB (fun y hy=>by have h7:=List.mem_map_of_mem (f:=(·.1)) hy; have:=hlt2 y.1 h7; rw [List.mem_singleton]; omega) (fun z hz => .inr (by rw [List.mem_singleton.1 hz]; omega))
       have e3:=hxB.to g3 (by rw [List.mem_singleton]; omega)
       have e4:=hxB.to g4 (by rw [List.mem_singleton]; omega)
       have HP:=HB.perm (List.perm_middle (l₁:=[_,_,_,_,_,_,_]) (l₂:=_::_::_))
       have k1:=HP.get at6
       have ks:=HP.get at7
       have k9:=HP.get at3
       have hn1:=F8 (L:=[_]) HP.nd (x:=(b1,_)) (List.mem_of_getElem? (i:=5) rfl)
       have hns:=F8 (L:=[_]) HP.nd (x:=(bs,_)) (List.mem_of_getElem? (i:=6) rfl)
       have hn9:=F8 (L:=[_]) HP.nd (x:=(b9,_)) (List.mem_of_getElem? (i:=2) rfl)
       have hnc:bf≠c3∧bf≠c4:=by omega
       obtain ⟨w2,rfl⟩:∃ z,z=wB:=⟨_,rfl⟩
       have H:=Ctx.lend (L1:=[_]) (L2:=_::_::_::_::_::_::_::_::_::_) HP
       clear HJ g3 g4 hlt hlt2 m1 m2 m3 q1 hpe hwp hRe hall hxb hovb hsrc hsnd hsm hds hlow hto hfit hpot hw hov hpb DN BY BY' hby hd0 hovt hgot hgof hwb0 hwb2 hWa ham ha hxv hsz hxB hsd0 hcb q2 q3 q4 hF
       refine Au (Ag (Ad rfl rfl (Mj (a:=a) (b:=1) rfl rfl rfl ha9 (by decide) ?_)))
       rw [Nat.and_one_is_mod]
       refine BX rfl rfl rfl (Ab (Aa (Ax _ rfl ?_ ?_)))
       ·intro hpar
        replace hpar:=AF hpar
        have hp2:a % 2=0:=by omega
        unfold C6 at hml
        rw [if_pos hp2] at hml
        refine Fx [([0,1,2,3,4,5,6,7,8,9,10],11)] (fun z=>z.heap[b1]? = some (Bl 168 [ptr bs])∧z.heap[bs]? = some (Bl 170 (SC N ae es.length ce bf bp bo kk))∧z.heap[b9]? = some (Bl 2 [.int .i64 mm])∧z.heap[bf]? = some (Bl 2 (B4 (EK mm x (path.take i)) es.length))) [11] B3 (by kernel_rfl) (⟨H.drew.ext.to k1 hn1,H.drew.ext.to ks hns,H.drew.ext.to k9 hn9,H.drew.get at0⟩) ?_
        refine Ba rfl rfl ?_
        refine Ck rfl Eo rfl (fun _ hx=>(by rw [Ay hx.1]; rfl)) ?_
        refine B6 rfl rfl (AV rfl Et rfl (Ck rfl BF rfl (fun _ hx=>(by rw [Ay hx.2.1]; rfl)) ?_))
        refine AO rfl rfl (ND (a:=a) (n:=1) rfl rfl rfl (by decide) ?_)
        rw [Nat.pow_one]
        refine AE rfl AR B2 rfl rfl (by omega) (by omega) ?_
        refine Ck rfl Bw rfl (fun _ hx=>((Ct hx.2.2.2).fld hgxa rfl (j:=0) rfl)) ?_
        refine Ck rfl Bw rfl (fun _ hx=>(by rw [Ay hx.2.2.1]; rfl)) ?_
        refine DW rfl rfl rfl (by omega) (by omega) ?_
        refine AE rfl AR B2 rfl rfl (by omega) (by omega) ?_
        refine BJ ?_
        replace H:=H.drew
        refine BP (a / 2) (fun z => .int .i64 (EK mm x (path.take (i+1)) z)) (.int _ _) rfl B2 rfl rfl rfl H at0 (by omega) hai (by rw [hsuc,if_pos rfl,if_pos hp2]) (fun z _ hz=>by (try dsimp only); rw [hsuc,if_neg hz]) ?_
        rintro w H
        refine Ab (BS rfl (Ch (A5 ?_)))
        have HH:=(Ctx.back (L1:=[_]) (L2:=_::_::_::_::_::_::_::_::_::_) HP H).perm (List.perm_middle (l₁:=[_,_,_,_,_,_,_]) (l₂:=_::_::_)).symm
        exact ⟨_,⟨rfl,HH,H.ext.to e3 (by rw [List.map_cons,List.map_nil,List.mem_singleton]; exact Ne.symm hnc.1),H.ext.to e4 (by rw [List.map_cons,List.map_nil,List.mem_singleton]; exact Ne.symm hnc.2)⟩,fun x hx => .inl hx,_,H.ext,fun x hx => .inl (List.mem_singleton.1 hx)⟩
       ·intro hpar
        replace hpar:=AG hpar
        have hp2:¬ a % 2=0:=by omega
        unfold C6 at hml
        rw [if_neg hp2] at hml
        refine Fx [([0,1,2,3,4,5,6,7,8,9,10],11)] (fun z=>z.heap[b1]? = some (Bl 168 [ptr bs])∧z.heap[bs]? = some (Bl 170 (SC N ae es.length ce bf bp bo kk))∧z.heap[b9]? = some (Bl 2 [.int .i64 mm])∧z.heap[bf]? = some (Bl 2 (B4 (EK mm x (path.take i)) es.length))) [11] B3 (by kernel_rfl) (⟨H.drew.ext.to k1 hn1,H.drew.ext.to ks hns,H.drew.ext.to k9 hn9,H.drew.get at0⟩) ?_
        refine Ba rfl rfl ?_
        refine Ck rfl Eo rfl (fun _ hx=>(by rw [Ay hx.1]; rfl)) ?_
        refine B6 rfl rfl (AV rfl Et rfl (Ck rfl BF rfl (fun _ hx=>(by rw [Ay hx.2.1]; rfl)) ?_))
        refine AO rfl rfl (ND (a:=a) (n:=1) rfl rfl rfl (by decide) ?_)
        rw [Nat.pow_one]
        refine AE rfl AR B2 rfl rfl (by omega) (by omega) ?_
        refine Ck rfl Bw rfl (fun _ hx=>((Ct hx.2.2.2).fld hgxa rfl (j:=0) rfl)) ?_
        refine Ck rfl Bw rfl (fun _ hx=>(by rw [Ay hx.2.2.1]; rfl)) ?_
        refine EC rfl rfl rfl (by omega) (by omega) ?_
        refine AE rfl AR B2 rfl rfl (by omega) (by omega) ?_
        refine BJ ?_
        replace H:=H.drew
        refine BP (a / 2) (fun z => .int .i64 (EK mm x (path.take (i+1)) z)) (.int _ _) rfl B2 rfl rfl rfl H at0 (by omega) hai (by rw [hsuc,if_pos rfl,if_neg hp2]) (fun z _ hz=>by (try dsimp only); rw [hsuc,if_neg hz]) ?_
        rintro w H
        refine Ab (BS rfl (Ch (A5 ?_)))
        have HH:=(Ctx.back (L1:=[_]) (L2:=_::_::_::_::_::_::_::_::_::_) HP H).perm (List.perm_middle (l₁:=[_,_,_,_,_,_,_]) (l₂:=_::_::_)).symm
        exact ⟨_,⟨rfl,HH,H.ext.to e3 (by rw [List.map_cons,List.map_nil,List.mem_singleton]; exact Ne.symm hnc.1),H.ext.to e4 (by rw [List.map_cons,List.map_nil,List.mem_singleton]; exact Ne.symm hnc.2)⟩,fun x hx => .inl hx,_,H.ext,fun x hx => .inl (List.mem_singleton.1 hx)⟩
      ·rintro M w ⟨-,HJ,-,-⟩ hD2
       rw [hxl,List.take_length] at HJ
       have H:=HJ.add hD2 (.inr hwtz) (fun y hy e=>by have h7:=List.mem_map_of_mem (f:=(·.1)) hy; have:=hlt2 y.1 h7; omega)
       replace H:=H.erase 5
       obtain ⟨x',hx'⟩:∃ x',x'=EK mm x path:=⟨_,rfl⟩
       rw [← hx'] at H
       have FF:=UF hF DN BY' hdt (m:=mm) (by omega) (fun a ha=>by have:=m3 a (hpath ▸ ha); omega)
       rw [← hpath,← hx'] at FF
       have hov':∀ z,B0 g x' z=B0 g x z+mm*(one (tv=z) - one (f0=z)):=fun z=>by rw [hx',hpath,hwp]; exact KY g mm BY' z x hdt rfl
       have hw':=Ld hr (x:=x') (by rw [← hg]; exact FF)
       have hne:tv≠f0:=fun e=>by rw [e] at hov0; omega
       have hgo2:(tab (upd ov f0 (ov f0 - mm)) N)[tv]? = some (ov tv):=by rw [BM htv,DZ hne]
       have hgdt:(tab s.d N)[tv]? = some (s.d tv):=BM htv
       have hsdt:=hsd0 tv
       have hpf:=Zs hpn hpb
       have hne0:es≠[]→(adr ae).block≠bp:=fun h e=>by
        obtain ⟨q,rfl⟩:=O.form (List.length_pos_iff.2 h)
        have h7:=S2 (L:=[_,_,_,_]) H0.nd (x:=(bp,_)) (List.mem_of_getElem? (i:=2) rfl)
        exact h7 (by show bp∈[q]; rw [List.mem_singleton]; exact e.symm)
       have hex:=UG (g:=g) (x:=x) (x':=x') (u:=f0) (v:=tv) (m:=mm) (by omega) (by omega) (by rw [← hov f0 hf0s.1]; omega) (by rw [← hov tv htv]; omega) hov'
       refine A5 (Aa ?_)
       clear hlt hlt2 q1 hpe hall hxb hovb hsrc hsnd hsm hds hlow hto hfit hpot hw DN BY BY' hby hwb0 hwb2 hsd0 hcb q2 q3 q4 HJ
       refine Ek 10 B3 (by kernel_rfl) rfl rfl ?_
       refine BZ rfl Eo rfl (by rintro _ rfl; exact H.drew) at5 rfl ?_
       refine Bg rfl rfl (A6 rfl FG rfl (BZ rfl BF rfl (by rintro _ rfl; exact H.drew) at6 rfl ?_))
       refine BZ rfl BH rfl (by rintro _ rfl; exact H.drew) at2 rfl ?_
       refine AL rfl AR B2 rfl rfl (by omega) (by omega) ?_
       refine Cc rfl Bw rfl (by rintro _ rfl; exact (((Ct (H.drew.get at9)).fld hgof rfl (j:=0) rfl))) ?_
       refine BZ rfl Bw rfl (by rintro _ rfl; exact H.drew) at3 rfl ?_
       refine CW rfl rfl rfl (by omega) (by omega) ?_
       refine AL rfl AR B2 rfl rfl (by omega) (by omega) ?_
       refine BQ ?_
       replace H:=H.drew
       refine BP f0 (fun z => .int .i64 (upd ov f0 (ov f0 - mm) z)) (.int _ _) rfl B2 rfl rfl rfl H at9 (by simp) hf0s.1 (by rw [Dd]) (fun z _ hz=>by (try dsimp only); rw [DZ hz]) ?_
       rintro w H
       refine Ab (Aa (Ek 10 B3 (by kernel_rfl) rfl rfl ?_))
       refine BZ rfl Eo rfl (by rintro _ rfl; exact H.drew) at5 rfl ?_
       refine Bg rfl rfl (A6 rfl FG rfl (BZ rfl BF rfl (by rintro _ rfl; exact H.drew) at6 rfl ?_))
       refine AM rfl rfl (AL rfl AR B2 rfl rfl (by omega) (by omega) ?_)
       refine Cc rfl Bw rfl (by rintro _ rfl; exact (((Ct (H.drew.get at9)).fld hgo2 rfl (j:=0) rfl))) ?_
       refine BZ rfl Bw rfl (by rintro _ rfl; exact H.drew) at3 rfl ?_
       refine CE rfl rfl rfl (by omega) (by omega) ?_
       refine AL rfl AR B2 rfl rfl (by omega) (by omega) ?_
       refine BQ ?_
       replace H:=H.drew
       refine BP tv (fun z => .int .i64 (upd (upd ov f0 (ov f0 - mm)) tv (ov tv+mm) z)) (.int _ _) rfl B2 rfl rfl rfl H at9 (by simp) htv (by rw [Dd]) (fun z _ hz=>by (try dsimp only); rw [DZ hz]) ?_
       rintro w H
       refine Ab (Aa (Ek 6 B3 (by kernel_rfl) rfl rfl ?_))
       refine BZ rfl Eo rfl (by rintro _ rfl; exact H.drew) at5 rfl ?_
       refine BT rfl rfl (BT rfl rfl (AM rfl rfl (AL rfl AR B2 rfl rfl (by omega) (by omega) ?_)))
       refine Cc rfl Bw rfl (by rintro _ rfl; exact (((Ct (H.drew.get at4)).fld hgdt rfl (j:=0) rfl))) ?_
       refine BQ ?_
       replace H:=H.drew
       have Hp:=H.perm (List.perm_middle (l₁:=[_,_,_,_,_,_,_,_]) (l₂:=_::_))
       refine Ao rfl Ab1 (Xi (H.get at6) (H.get at8) (H.get at4) (H.ne at6 at8 (by decide)) (H.ne at4 at8 (by decide)) (by omega) ⟨by omega,by omega⟩ hpf) rfl ?_
       rintro rv w ⟨rfl,H2⟩
       replace H:=Ctx.back (L1:=[_]) (L2:=_::_::_::_::_::_::_::_::_::_) Hp H2
       refine Ab (Aa (Ag (AA rfl Eo rfl H at6 rfl (Ao rfl Ab2 (UQ (H.get at7) (hRe fun y hy=>H.blk y (List.mem_append_right [_,_,_,_,_,_,_,_,_,_] hy)) hne0 (H.get at8) (H.get at0) (H.ne at7 at0 (by decide)) (H.ne at8 at0 (by decide)) hw' (by rw [← hg]; exact FF)) rfl ?_))))
       rintro rv w ⟨rfl,p',FF2,hpb',H2⟩
       replace H:=Ctx.back (L1:=[_]) (L2:=_::_::_::_::_::_::_::_::_::_) H H2
       refine Ab (Aa (Ag (AA rfl Eo rfl H at6 rfl (Bc rfl rfl (Ah rfl Mu rfl (AA rfl BH rfl H at7 rfl (Lc rfl rfl rfl ?_)))))))
       intro kk2
       refine Bc rfl rfl (Ah rfl Mu rfl (Cj (.int _ _) rfl EJ rfl rfl rfl H at7 (by (simp; done)) ?_))
       rintro w H
       refine Ab (Aa (Ag (Ai rfl rfl (Ab (Aa (A9 (JU (v:=(.bool _)) rfl rfl (UU (H.get at1) (H.get at2) (H.ne at2 at1 (by decide)) rfl fun wF hxF=>?_))))))))
       have HF:=(H.perm (List.perm_middle (l₁:=[_,_,_,_,_,_,_,_]) (l₂:=_::_)).symm)
       rw [← hg] at FF2
       refine ⟨true,x',p',upd (upd ov f0 (ov f0 - mm)) tv (ov tv+mm),kk2,rfl,(HF.drop 6).step hxF (fun y hy=>F8 (L:=[_,_]) HF.nd (List.mem_of_mem_drop (i:=4) hy)) (fun z hz => .inr ?_),FF2,fun z hz=>?_,hpb',(fun h=>by cases h),fun _=>by omega⟩
       ·simp only [List.mem_cons,List.not_mem_nil,or_false] at hz
        omega
       ·rw [hov',← hov z hz]
        by_cases e1:z=tv
        ·subst e1
         rw [Dd,Hj rfl,GC (Ne.symm hne)]; omega
        ·rw [DZ e1,GC (Ne.symm e1)]
         by_cases e2:z=f0
         ·subst e2
          rw [Dd,Hj rfl]; omega
         ·rw [DZ e2,GC (Ne.symm e2)]; omega

end Go.Proofs.YtapphbmlkdhnmaaGreat

/- How many bits; the solver's beginning. -/
namespace Go.Proofs.YtapphbmlkdhnmaaGreat
open Go.GV
attribute [local irreducible] A2 W Wq Wt

def Pp:List UInt8:=[0]++List.replicate 1 1++List.replicate 2 2++List.replicate 4 3++List.replicate 8 4++List.replicate 16 5++List.replicate 32 6++List.replicate 64 7++List.replicate 128 8
theorem UY:∀ i,i<256→∃ b:UInt8,Pp[i]? = some b∧i<2 ^ b.toNat∧b.toNat≤8∧(0<i→2 ^ b.toNat≤2*i):=fun i hi=>by
 have h:(List.range 256).all (fun i=>match Pp[i]? with | some b=>decide (i<2 ^ b.toNat) && (decide (b.toNat≤8) && (decide (i=0) || decide (2 ^ b.toNat≤2*i))) | none=>false)=true:=by kernel_rfl
 have h1:=List.all_eq_true.1 h i (List.mem_range.2 hi)
 cases hb:Pp[i]? with
 | none=>rw [hb] at h1; cases h1
 | some b =>
  rw [hb] at h1
  simp only [Bool.and_eq_true,Bool.or_eq_true,decide_eq_true_eq] at h1
  exact ⟨b,rfl,h1.1,h1.2.1,fun h=>h1.2.2.resolve_left (by omega)⟩
theorem S4 {x k n:Nat} (h:x / 2 ^ k<2 ^ n):x<2 ^ (n+k):=by
 rw [Nat.pow_add]
 exact (Nat.div_lt_iff_lt_mul (Nat.two_pow_pos k)).1 h

theorem S5 {x k n:Nat} (h:2 ^ n≤2*(x / 2 ^ k)):2 ^ (n+k)≤2*x:=by
 rw [Nat.pow_add]
 have h1:2 ^ n*2 ^ k≤2*(x / 2 ^ k)*2 ^ k:=Nat.mul_le_mul_right _ h
 have h2:x / 2 ^ k*2 ^ k≤x:=Nat.div_mul_le_self x _
 rw [Nat.mul_assoc] at h1
 omega

set_option maxRecDepth 20000 in
theorem Q9 (x:Nat) (hx:x≤4503599627370496) (w:World):Ret Tryz.prog 118 #[.int .u64 (x:Int)] w fun v w'=>∃ r:Nat,v = .int .i64 (r:Int)∧x<2 ^ r∧r≤64∧(0<x→2 ^ r≤2*x)∧w=w':=by
 obtain ⟨w0,rfl⟩:∃ w0,w0=w:=⟨_,rfl⟩
 have H:=Ctx.start w0 []
 refine A1 (fn:=Tryz.f118) Tryz.func118 rfl [.int .u64 (x:Int)] rfl (by kernel_rfl) ?_
 refine Ag (Af rfl rfl (Ab (Aa (Aq (Ag (Ad rfl rfl (CD rfl rfl rfl (Ab (Aa (Em 101 (α:=Nat × Nat) (fun z=>[(0,.int .u64 (z.1:Int)),(2,.int .i64 (z.2:Int))]) (fun z w'=>w0=w'∧(∀ k,z.1<2 ^ k→x<2 ^ (k+z.2))∧(∀ k,2 ^ k≤2*z.1→2 ^ (k+z.2)≤2*x)∧(0<x→0<z.1)∧z.1<4294967296∧z.2≤32) rfl ?_ ?_))))))))))
 ·skip
  refine Ax _ rfl ?_ ?_
  ·intro h
   replace h:=AF h
   refine Ag (Ad rfl rfl (El (n:=32) rfl rfl rfl (by omega) ?_))
   refine Af rfl rfl (Ab (Aa (Aw (Af rfl rfl (Ab (Aa ?_))))))
   exact ⟨(x / 2 ^ 32,32),rfl,⟨rfl,rfl,trivial⟩,rfl,fun k hk=>S4 hk,fun k hk=>S5 hk,fun _=>by dsimp only; omega,by dsimp only; omega,by dsimp only; omega⟩
  ·intro h
   replace h:=AG h
   refine Av (Aa ?_)
   exact ⟨(x,0),rfl,⟨rfl,rfl,trivial⟩,rfl,fun k hk=>hk,fun k hk=>hk,fun h=>h,by dsimp only; omega,by dsimp only; omega⟩
 ·rintro ⟨y,n⟩ j w ⟨rfl,hk,hg,h0,hy,hn⟩; dsimp only at hk hg h0 hy hn; dsimp only
  refine Aq (Ag (Ad rfl rfl (CD rfl rfl rfl (Ab (Aa (Em 7685 (α:=Nat × Nat) (fun z=>[(0,.int .u64 (z.1:Int)),(2,.int .i64 (z.2:Int))]) (fun z w'=>w0=w'∧(∀ k,z.1<2 ^ k→x<2 ^ (k+z.2))∧(∀ k,2 ^ k≤2*z.1→2 ^ (k+z.2)≤2*x)∧(0<x→0<z.1)∧z.1<65536∧z.2≤48) rfl ?_ ?_))))))
  ·skip
   refine Ax _ rfl ?_ ?_
   ·intro h
    replace h:=AF h
    refine Ag (Ad rfl rfl (El (n:=16) rfl rfl rfl (by omega) ?_))
    refine Af rfl rfl (Ab (Aa (Aw (Ad rfl rfl (Ap rfl rfl rfl (by omega) (by omega) ?_)))))
    refine Af rfl rfl (Ab (Aa ?_))
    exact ⟨(y / 2 ^ 16,n+16),rfl,⟨rfl,rfl,trivial⟩,rfl,fun k h7=>by have:=hk _ (S4 h7); rw [show k+(n+16)=k+16+n by omega]; exact this,(fun k h7=>by have:=hg _ (S5 h7); rw [show k+(n+16)=k+16+n by omega]; exact this),fun _=>by dsimp only; omega,by dsimp only; omega,by dsimp only; omega⟩
   ·intro h
    replace h:=AG h
    refine Av (Aa ?_)
    exact ⟨(y,n),rfl,⟨rfl,rfl,trivial⟩,rfl,hk,hg,h0,by dsimp only; omega,by dsimp only; omega⟩
  ·rintro ⟨y,n⟩ j2 w ⟨rfl,hk,hg,h0,hy,hn⟩; dsimp only at hk hg h0 hy hn; dsimp only
   refine Aq (Ag (Ad rfl rfl (CD rfl rfl rfl (Ab (Aa (Em 491525 (α:=Nat × Nat) (fun z=>[(0,.int .u64 (z.1:Int)),(2,.int .i64 (z.2:Int))]) (fun z w'=>w0=w'∧(∀ k,z.1<2 ^ k→x<2 ^ (k+z.2))∧(∀ k,2 ^ k≤2*z.1→2 ^ (k+z.2)≤2*x)∧(0<x→0<z.1)∧z.1<256∧z.2≤56) rfl ?_ ?_))))))
   ·skip
    refine Ax _ rfl ?_ ?_
    ·intro h
     replace h:=AF h
     refine Ag (Ad rfl rfl (El (n:=8) rfl rfl rfl (by omega) ?_))
     refine Af rfl rfl (Ab (Aa (Aw (Ad rfl rfl (Ap rfl rfl rfl (by omega) (by omega) ?_)))))
     refine Af rfl rfl (Ab (Aa ?_))
     exact ⟨(y / 2 ^ 8,n+8),rfl,⟨rfl,rfl,trivial⟩,rfl,fun k h7=>by have:=hk _ (S4 h7); rw [show k+(n+8)=k+8+n by omega]; exact this,(fun k h7=>by have:=hg _ (S5 h7); rw [show k+(n+8)=k+8+n by omega]; exact this),fun _=>by dsimp only; omega,by dsimp only; omega,by dsimp only; omega⟩
    ·intro h
     replace h:=AG h
     refine Av (Aa ?_)
     exact ⟨(y,n),rfl,⟨rfl,rfl,trivial⟩,rfl,hk,hg,h0,by dsimp only; omega,by dsimp only; omega⟩
   ·rintro ⟨y,n⟩ j3 w ⟨rfl,hk,hg,h0,hy,hn⟩; dsimp only at hk hg h0 hy hn; dsimp only
    obtain ⟨b,hb,hb1,hb2,hb3⟩:=UY y hy
    have hb0:(bv b) = .int .u8 ((b.toNat:Nat):Int):=rfl
    refine Ag (Ad rfl rfl (Ad rfl rfl (RL rfl rfl FH Iz (by omega) (by omega) ?_)))
    refine U6 (l:=Pp) b rfl WE (by kernel_rfl) rfl (by omega) hb ?_
    rw [hb0]
    refine Eh rfl rfl Iz Gu (by omega) (by omega) ?_
    refine Ap rfl rfl rfl (by omega) (by omega) ?_
    refine Af rfl rfl (Ab (Aa (A9 (AB (v:=(.int _ _)) rfl rfl rfl ?_))))
    refine ⟨n+b.toNat,congrArg (Value.int .i64) (by omega),?_,by omega,fun hx0=>?_,rfl⟩
    ·have:=hk _ hb1
     rw [Nat.add_comm]; exact this
    ·have:=hg _ (hb3 (h0 hx0))
     rw [Nat.add_comm]; exact this

structure Bk where
 b:Nat
 c:Nat
 f:List Value
instance:Inhabited Bk:=⟨⟨0,0,[]⟩⟩
/-- The blocks that Best makes, by the operation that makes them. -/
def FR:Nat→List Nat
 | 1=>[0] | 4=>[3] | 5=>[2,4,3] | 6=>[1,0,5,2,4,3] | 8=>[7] | 9=>[8,7] | 10=>[9,8,7] | 12=>[11] | 13=>[12,11] | 15=>[14] | 16=>[15,14]
 | 17=>[6,1,0,5,2,4,3,10,9,8,7,13,12,11,16,15,14] | 18=>[17,6,1,0,5,2,4,3,10,9,8,7,13,12,11,16,15,14] | 19=>[18,17,6,1,0,5,2,4,3,10,9,8,7,13,12,11,16,15,14] | _=>[]
/-- The edges' own array. -/
def sQ (n:Nat) (B:Nat→Bk):Bk:=if n=0 then ⟨(B 2).b,0,[]⟩ else B 5
def sSC (N n:Nat) (B:Nat→Bk):List Value:=SC N (some ⟨(sQ n B).b,0,none⟩) n (sQ n B).c (B 10).b (B 13).b (B 16).b 0
def QA (b1:Nat) (N n:Nat) (a:Option Addr) (c:Nat) (i:Nat) (B:Nat→Bk):Value :=
 if i=0∨i=11∨i=14 then .pointer (some ⟨b1,0+0,none⟩) else if i=1∨i=12∨i=15 then .int .i64 (N:Int)
 else if i=2 then .slice (some ⟨(B 2).b,0,none⟩) 0 0 else if i=3∨i=7 then .pointer (some ⟨b1,0+1,none⟩) else if i=4∨i=8 then .slice a n c
 else if i=5 then .slice (some ⟨(sQ n B).b,0,none⟩) n (sQ n B).c else if i=6 then .agg #[.int .i64 (N:Int),.slice (some ⟨(sQ n B).b,0,none⟩) n (sQ n B).c]
 else if i=9 then .int .i64 (n:Int) else if i=10 then .slice (some ⟨(B 10).b,0,none⟩) n n else if i=13 then .slice (some ⟨(B 13).b,0,none⟩) N N
 else if i=16 then .slice (some ⟨(B 16).b,0,none⟩) N N else if i=17 then .agg (sSC N n B).toArray else ptr (B 18).b
def FS (N n:Nat) (i:Nat):Option ((Nat→Bk)→Obj) :=
 if i=2 then some fun _=>Bl 92 [] else if i=5 then (if n=0 then none else some fun B=>Bl 92 (B 5).f) else if i=10 then some fun _=>Bl 2 (B4 (fun _=>0) n) else if i=13∨i=16 then some fun _=>Bl 2 (B4 (fun _=>0) N)
 else if i=18 then some fun B=>Bl 170 (sSC N n B) else none
def Aad (n:Nat) (es:List Ed) (i:Nat) (b:Bk):Prop:=i=5→n=0∨OS (some ⟨b.b,0,none⟩) n b.c 4 b.f (es.flatMap Bv)
theorem sStab (b1 N n:Nat) (a:Option Addr) (c i k:Nat) (b:Bk) (B:Nat→Bk) (hi:i<19) (hki:k≠i) (hka:k∉FR i):QA b1 N n a c i (Iu B k b)=QA b1 N n a c i B∧∀ ob,FS N n i=some ob→ob (Iu B k b)=ob B:=by
 have hne:∀ j,k≠j→Iu B k b j=B j:=fun j h=>HI (Ne.symm h)
 have hq:k≠2→k≠5→sQ n (Iu B k b)=sQ n B:=fun h2 h5=>by unfold sQ; rw [hne 2 h2,hne 5 h5]
 have hcs:i=0∨i=1∨i=2∨i=3∨i=4∨i=5∨i=6∨i=7∨i=8∨i=9∨i=10∨i=11∨i=12∨i=13∨i=14∨i=15∨i=16∨i=17∨i=18:=by omega
 have hs:(k≠2∧k≠5∧k≠10∧k≠13∧k≠16)→sSC N n (Iu B k b)=sSC N n B:=fun h=>by unfold sSC; rw [hq h.1 h.2.1,hne 10 h.2.2.1,hne 13 h.2.2.2.1,hne 16 h.2.2.2.2]
 rcases hcs with rfl | rfl | rfl | rfl | rfl | rfl | rfl | rfl | rfl | rfl | rfl | rfl | rfl | rfl | rfl | rfl | rfl | rfl | rfl <;> simp only [FR,List.mem_cons,List.not_mem_nil,or_false,not_or,not_false_eq_true] at hka <;> (try simp [QA,FS]) <;> (try rw [hne _ hki]) <;> (try rw [hq (by omega) (by omega)]) <;> (try rw [hs (by omega)]) <;> (try (constructor)) <;> (try rfl) <;> (try (split <;> simp)) <;> (try (intro ob h; subst h; rw [hne _ hki])) <;> (try (intro ob h; subst h; rw [hs (by omega)])) <;> (try exact ⟨rfl,rfl⟩) <;> (try (intro _; rfl))

end Go.Proofs.YtapphbmlkdhnmaaGreat
