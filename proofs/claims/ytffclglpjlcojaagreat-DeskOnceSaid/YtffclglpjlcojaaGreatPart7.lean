/- Part 7 of the proof. -/
import Derived.Test.YtffclglpjlcojaaGreatPart6
set_option maxRecDepth 20000
set_option maxHeartbeats 8000000
namespace Go.Proofs.YtffclglpjlcojaaGreat
open Go.GV Go.Proofs.Tryz
attribute [local irreducible] A7 W Wq Wt
def Jm:Nat->List Nat
 |1=>[0]|2=>[1,0]|4=>[3]|5=>[4,3]|7=>[6]|8=>[7,6]|10=>[9]|11=>[10,9]
 |12=>[2,1,0,5,4,3,8,7,6,11,10,9]|13=>[12,2,1,0,5,4,3,8,7,6,11,10,9]|15=>[14,13,12,2,1,0,5,4,3,8,7,6,11,10,9]|_=>[]
def OV(i:Nat):Nat:=if i=14 then 11 else 23+i
def Aap(b4 n:Nat)(i:Nat)(B:Nat->Nat):Value :=
 if i=1\/i=4\/i=7\/i=10 then .int .i64 (n:Int)else if i=2\/i=5\/i=8\/i=11 then .slice (some ⟨B i,0,none⟩) n n
 else if i=12 then .agg (FB (B 2) (B 5) (B 8) (B 11) n).toArray else if i=13\/i=14 then ptr (B i)else .pointer (some ⟨b4,0+0,none⟩)
def EV(n:Nat)(i:Nat):Option ((Nat->Nat)->Obj) :=
 if i=2 then some fun _=>Bl 271 ((List.range n).map fun _ => .slice none 0 0)else if i=5 then some fun _=>Bl 2 (BZ (fun _=>0) n)else if i=8\/i=11 then some fun _=>Bl 3 (BZ (fun _=>0) n)
 else if i=13 then some fun B=>Bl 265 (FB (B 2) (B 5) (B 8) (B 11) n)else if i=14 then some fun _=>Bl 262 [.pointer none]else none
theorem Aaq:∀i j,i<15->j<15->OV i=OV j->i=j:=fun i j hi hj h=>by
 unfold OV at h
 split at h <;> split at h <;> omega
theorem wStab(b4 n:Nat)(i k b:Nat)(B:Nat->Nat)(hi:i<15)(hki:k≠i)(hka:k∉Jm i):Aap b4 n i (KG B k b)=Aap b4 n i B/\∀ob,EV n i=some ob->ob (KG B k b)=ob B:=by
 have h0:KG B k b i=B i:=Hd (Ne.symm hki)
 have h1:i=12\/i=13->KG B k b 2=B 2/\KG B k b 5=B 5/\KG B k b 8=B 8/\KG B k b 11=B 11:=fun h=>by
  have:k≠2/\k≠5/\k≠8/\k≠11:=by
   rcases h with rfl|rfl <;> (simp[Jm]at hka;omega)
  exact⟨Hd (Ne.symm this.1),Hd (Ne.symm this.2.1),Hd (Ne.symm this.2.2.1),Hd (Ne.symm this.2.2.2)⟩
 constructor
 .unfold Aap
  by_cases e:i=12
  .have:=h1 (.inl e);subst e;simp[this]
  .rw[h0];simp[e]
 .intro ob hob;unfold EV at hob
  by_cases e:i=13
  .have:=h1 (.inr e);subst e;simp at hob;subst hob;simp[this]
  .split at hob
   .cases hob;rfl
   .split at hob
    .cases hob;rfl
    .split at hob
     .cases hob;rfl
     .split at hob
      .cases hob;rfl
      .cases hob
theorem Li{N:Int}{es:List Ed}(hr:CA N es=true):(grE N es).Ok:=by
 have h:∀i,i<es.length->(es.getD i e0).f.toNat<N.toNat/\(es.getD i e0).t.toNat<N.toNat:=fun i hi=>by
  obtain⟨e,he⟩:=AE (l:=es) (i:=i) (h:=hi);have:=Fb ((CS hr).2.2.2.1 e (qac he));rw[Bv he];omega
 exact⟨fun i hi=>(h i hi).1,fun i hi=>(h i hi).2⟩
theorem YR{cap x:Nat->Int}{k a:Nat}(h:a∈EU cap x k):a<2*k:=qa5.1 (qbe.1 h).1
def QF(i:Nat)(v:Nat):Int:=if v<i then -1 else 0
theorem YS(i:Nat):QF (i+1) i = -1:=if_pos (by omega)
theorem YT{i q:Nat}(h:q≠i):QF (i+1) q=QF i q:=by unfold QF;split <;> split <;> omega
theorem Aj1{P:Program}{e:Env}{w:World}{fn:Func}{R:Value->World->Prop}{t1 t2 t3:Tmp}{v1 v2 v3:Value}(hr:fn.results=#[.tmp t1,.tmp t2,.tmp t3])(h1:e.g t1=v1)(h2:e.g t2=v2)(h3:e.g t3=v3)(h:Marks e.ds w (R (.tuple #[v1,v2,v3]))):UR P fn R .ret e w :=
 Marks.mono (fun w h tmps ht=>by
  have q1:=(ht t1).trans h1;have q2:=(ht t2).trans h2;have q3:=(ht t3).trans h3;rw[qax]at q1 q2 q3
  exact⟨_,by simp[results,hr,q1,q2,q3],h⟩) h
theorem X8{L L':List (Nat × Obj)}(h:(L++L').Pairwise (fun x y=>x.1≠y.1)){x:Nat × Obj}(hx:x∈L):x.1∉L'.map (·.1):=fun hm=>by
 obtain⟨y,hy,he⟩:=qah.1 hm;exact(qcd.1 h).2.2 x hx y hy he.symm
theorem Rd.lt{α:Type}{w:World}{a:Option Addr}{s:Nat}{enc:α->List Value}{xs:List α}(R:Rd w a s enc xs)(h:xs≠[])(hs:∀x∈xs,∃v,(enc x)[0]?=some v)(h0:0<s):(adr a).block<w.heap.size:=by
 obtain⟨x,hx⟩:=AE (l:=xs) (i:=0) (h:=qb2.2 h);obtain⟨v,hv⟩:=hs x (qac hx);exact World.block_lt_of_cell? w ⟨(adr a).block,(adr a).off+0*s+0,none⟩ (R.cell 0 x hx 0 v hv h0)
theorem Aj2:(lb0 []).d=fun _ => -1:=by
 funext v
 show(if v∈([]:List Nat)then(0:Int)else -1) = -1;exact if_neg qau
structure WSt where
 s:Lb
 a:Option Addr
 hn:Nat
 c:Nat
 full:List Value
 L:List Tg
 D:Int
theorem Aj3(N:Int)(a b p fr:Option Addr)(n c m d q r fc:Nat)(es:List Ed)(fl pot:List Int)(src:List Nat)(w:World)(R:Rd w a 4 CO es)(hn:es.length=n)(hN:I64 N)(Rf:Rd w b 1 I1 fl)(hm:fl.length=m)(Rp:Rd w p 1 I1 pot)(hq:pot.length=q)(Rs:Rd w fr 1 I1 (src.map fun v:Nat=>(v:Int)))(hfit:Ja N es fl pot=true)(hsrc:∀v∈src,v<N.toNat)(hnd:src.Nodup)(hs0:0<src.length)(hm2:m<=9223372036854775000:=by omega)(hq2:q<=9223372036854775000:=by omega):
  Ret prog 170 #[Eo N a n c,.slice b m d,.slice p q r,.slice fr src.length fc] w fun v w'=>∃(od ob:Nat) (s:Lb) (by':Nat->Int),v=.tuple #[.slice (some ⟨od,0,none⟩) N.toNat N.toNat,.slice (some ⟨ob,0,none⟩) N.toNat N.toNat,.int .i64 0]/\Done (Nb (grE N es) (Cs es) (flE fl) (Fk pot)) src N.toNat 2199023256552 s/\Bys (grE N es) (Cs es) (flE fl) (Fk pot) s (fun v=>if by' v = -1 then none else some (by' v).toNat)/\(∀v,by' v = -1\/∃a:Nat,by' v=(a:Int)/\a<2*es.length)/\WaysX (grE N es) (Cs es) (flE fl) (Fk pot) s by'/\Ctx w [] w' [(od,Bl 2 (BZ s.d N.toNat)),(ob,Bl 3 (BZ by' N.toNat))]:=by
 subst hn hm hq;obtain⟨w0,rfl,H⟩:=qE w;refine Ii (fn:=f170) func170 U [Eo N a es.length c,.slice b fl.length d,.slice p pot.length r,.slice fr src.length fc] U (Ae (Bu [.int .i64 N,.slice a es.length c] (.agg _) U U H ?_));rintro b4 w - H;refine Am U (Am U (Ad U (qA (Ax (Ae (Cg CE Ct U H at0 U (Ap U (Ap U (Al qB (Aju N a b p es.length c fl.length d pot.length r es fl pot _ (R.ext0 H.ext) U hN (Rf.ext0 H.ext) U hm2 (Rp.ext0 H.ext) U hq2) U ?_)))))))));rintro v w ⟨rfl,hx21⟩;replace H:=H.call hx21;refine BP U (qA (Aw _ U ?_ ?_))
 .intro h1;replace h1:=BM h1;rw[hfit]at h1;cases h1
 .intro h1;replace h1:=BN h1;have hw:Cu N es fl=true:=by unfold Ja at hfit;rw[qae]at hfit;exact hfit.1
  obtain⟨hN1,hN40,hn200,-⟩:=CS (C5 hw).2.1;obtain⟨nn,rfl⟩:∃nn:Nat,N=(nn:Int):=⟨N.toNat,by omega⟩;refine Ay (Aa (DV 137430566912 (α:=Nat × Nat × Nat × Nat × Nat × Nat) (fun z=>[(11,ptr z.1)]) (fun z w'=>Ctx w0 [] w' [(z.1,Bl 262 [ptr z.2.1]),(z.2.1,Bl 265 (FB z.2.2.1 z.2.2.2.1 z.2.2.2.2.1 z.2.2.2.2.2 nn)),(z.2.2.1,Bl 271 ((List.range nn).map fun _ => .slice none 0 0)),(z.2.2.2.1,Bl 2 (BZ (fun _=>0) nn)),(z.2.2.2.2.1,Bl 3 (BZ (fun _=>0) nn)),(z.2.2.2.2.2,Bl 3 (BZ (fun _=>0) nn)),(b4,Bl 123 [.int .i64 (nn:Int),.slice a es.length c])]) U ?_ ?_))
  .skip
   have hb4:=H.get at0;refine Ac3 (n:=15) (anc:=Jm) OV (Aap b4 nn) (EV nn) (show Tryz.prog.follows .mixedOrders=true by kernel_rfl) U ?_ Aaq (wStab b4 nn) ?_ ?_
   .intro k hk;have:k=0\/k=1\/k=2\/k=3\/k=4\/k=5\/k=6\/k=7\/k=8\/k=9\/k=10\/k=11\/k=12\/k=13\/k=14:=by omega
    simp[Jm];omega
   .intro i o e' w' B hi ho hold hsl hx hbl
    have h4:e'.g 4=ptr b4:=(hold 4 fun j hj h=>by
     have h:(4:Nat)=OV j:=h;unfold OV at h
     split at h <;> omega).trans rfl
    have hc4:w'.heap[b4]?=some (Bl 123 [.int .i64 (nn:Int),.slice a es.length c]):=hx.to (by exact hb4) (by simp);have hcs:i=0\/i=1\/i=2\/i=3\/i=4\/i=5\/i=6\/i=7\/i=8\/i=9\/i=10\/i=11\/i=12\/i=13\/i=14:=by omega
    have hpure:∀{v:Value},EV nn i=none->Aap b4 nn i (KG B i 0)=v->AQ OV (Aap b4 nn) (EV nn) i e' w' B (put e' (some (OV i)) v) w':=fun h1 h2=>⟨0,fun ob h=>(by rw[h1]at h;cases h),.refl _ _,by rw[h2]⟩
    rcases hcs with rfl|rfl|rfl|rfl|rfl|rfl|rfl|rfl|rfl|rfl|rfl|rfl|rfl|rfl|rfl
    .cases qag ho;exact Ah (by kernel_rfl) h4 (Ab (hpure U U))
    .cases qag ho;exact Bb Cc (hsl 0 (by simp[Jm])) (by rw[Aj hc4];rfl) (Ab (hpure U U))
    .cases qag ho;refine HY NL NN Am9 Ap5 (hsl 1 (by simp[Jm])) (hsl 1 (by simp[Jm])) (Ctx.start w' []) fun b w2 hb H=>?_;have hbb:=H.get at0;rw[show((nn:Int)).toNat=nn from rfl,Fo]at hbb;exact Ab ⟨b,fun ob h=>(by obtain rfl:=qag h;exact⟨by omega,hbb⟩),H.ext,rfl⟩
    .cases qag ho;exact Ah (by kernel_rfl) h4 (Ab (hpure U U))
    .cases qag ho;exact Bb Cc (hsl 3 (by simp[Jm])) (by rw[Aj hc4];rfl) (Ab (hpure U U))
    .cases qag ho;refine HY Bf BD Mn Fh (hsl 4 (by simp[Jm])) (hsl 4 (by simp[Jm])) (Ctx.start w' []) fun b w2 hb H=>?_;have hbb:=H.get at0;rw[show((nn:Int)).toNat=nn from rfl,Fo]at hbb;exact Ab ⟨b,fun ob h=>(by obtain rfl:=qag h;exact⟨by omega,hbb⟩),H.ext,rfl⟩
    .cases qag ho;exact Ah (by kernel_rfl) h4 (Ab (hpure U U))
    .cases qag ho;exact Bb Cc (hsl 6 (by simp[Jm])) (by rw[Aj hc4];rfl) (Ab (hpure U U))
    .cases qag ho;refine HY E5 Gb by_3 Xx (hsl 7 (by simp[Jm])) (hsl 7 (by simp[Jm])) (Ctx.start w' []) fun b w2 hb H=>?_;have hbb:=H.get at0;rw[show((nn:Int)).toNat=nn from rfl,Fo]at hbb;exact Ab ⟨b,fun ob h=>(by obtain rfl:=qag h;exact⟨by omega,hbb⟩),H.ext,rfl⟩
    .cases qag ho;exact Ah (by kernel_rfl) h4 (Ab (hpure U U))
    .cases qag ho;exact Bb Cc (hsl 9 (by simp[Jm])) (by rw[Aj hc4];rfl) (Ab (hpure U U))
    .cases qag ho;refine HY E5 Gb by_3 Xx (hsl 10 (by simp[Jm])) (hsl 10 (by simp[Jm])) (Ctx.start w' []) fun b w2 hb H=>?_;have hbb:=H.get at0;rw[show((nn:Int)).toNat=nn from rfl,Fo]at hbb;exact Ab ⟨b,fun ob h=>(by obtain rfl:=qag h;exact⟨by omega,hbb⟩),H.ext,rfl⟩
    .cases qag ho;refine BA (FB (B 2) (B 5) (B 8) (B 11) nn) Apu Ap4 (hl:=?_) (Ab (hpure U U));show Instr.fill _ _ [(0,e'.g 25),(1,e'.g 28),(2,e'.g 31),(3,e'.g 34)]=_;rw[show e'.g 25=.slice (some ⟨B 2,0,none⟩) nn nn from hsl 2 (by simp[Jm]),show e'.g 28=.slice (some ⟨B 5,0,none⟩) nn nn from hsl 5 (by simp[Jm]),show e'.g 31=.slice (some ⟨B 8,0,none⟩) nn nn from hsl 8 (by simp[Jm]),show e'.g 34=.slice (some ⟨B 11,0,none⟩) nn nn from hsl 11 (by simp[Jm])];rfl
    .cases qag ho;refine Bu (FB (B 2) (B 5) (B 8) (B 11) nn) (.agg _) (hsl 12 (by simp[Jm])) U (Ctx.start w' []) fun b w2 hb H=>?_;exact Ab ⟨b,fun ob h=>(by obtain rfl:=qag h;exact⟨by omega,H.get at0⟩),H.ext,rfl⟩
    .cases qag ho;refine Bc Ap3 (Ctx.start w' []) fun b w2 hb H=>?_;exact Ab ⟨b,fun ob h=>(by obtain rfl:=qag h;exact⟨by omega,H.get at0⟩),H.ext,rfl⟩
   .intro o e' w' B ho A;have hl4:=Bd hb4;have hs0:=H.size;have h9:w.drew.heap.size=w.heap.size:=rfl;have n14_13:B 14≠B 13:=A.ne 14 13 (by omega) (by omega) (by omega) trivial trivial (by simp[EV]) (by simp[EV]);have n14_2:B 14≠B 2:=A.ne 14 2 (by omega) (by omega) (by omega) trivial trivial (by simp[EV]) (by simp[EV]);have n14_5:B 14≠B 5:=A.ne 14 5 (by omega) (by omega) (by omega) trivial trivial (by simp[EV]) (by simp[EV]);have n14_8:B 14≠B 8:=A.ne 14 8 (by omega) (by omega) (by omega) trivial trivial (by simp[EV]) (by simp[EV]);have n14_11:B 14≠B 11:=A.ne 14 11 (by omega) (by omega) (by omega) trivial trivial (by simp[EV]) (by simp[EV]);have n13_2:B 13≠B 2:=A.ne 13 2 (by omega) (by omega) (by omega) trivial trivial (by simp[EV]) (by simp[EV]);have n13_5:B 13≠B 5:=A.ne 13 5 (by omega) (by omega) (by omega) trivial trivial (by simp[EV]) (by simp[EV])
    have n13_8:B 13≠B 8:=A.ne 13 8 (by omega) (by omega) (by omega) trivial trivial (by simp[EV]) (by simp[EV]);have n13_11:B 13≠B 11:=A.ne 13 11 (by omega) (by omega) (by omega) trivial trivial (by simp[EV]) (by simp[EV]);have n2_5:B 2≠B 5:=A.ne 2 5 (by omega) (by omega) (by omega) trivial trivial (by simp[EV]) (by simp[EV]);have n2_8:B 2≠B 8:=A.ne 2 8 (by omega) (by omega) (by omega) trivial trivial (by simp[EV]) (by simp[EV]);have n2_11:B 2≠B 11:=A.ne 2 11 (by omega) (by omega) (by omega) trivial trivial (by simp[EV]) (by simp[EV]);have n5_8:B 5≠B 8:=A.ne 5 8 (by omega) (by omega) (by omega) trivial trivial (by simp[EV]) (by simp[EV]);have n5_11:B 5≠B 11:=A.ne 5 11 (by omega) (by omega) (by omega) trivial trivial (by simp[EV]) (by simp[EV]);have n8_11:B 8≠B 11:=A.ne 8 11 (by omega) (by omega) (by omega) trivial trivial (by simp[EV]) (by simp[EV])
    have k14:=A.blk 14 _ (by omega) trivial (show EV nn 14=some _ from rfl);have m14:B 14≠b4:=by have:=k14.2;have h9:w.drew.heap.size=w.heap.size:=rfl;omega
    have k13:=A.blk 13 _ (by omega) trivial (show EV nn 13=some _ from rfl);have m13:B 13≠b4:=by have:=k13.2;have h9:w.drew.heap.size=w.heap.size:=rfl;omega
    have k2:=A.blk 2 _ (by omega) trivial (show EV nn 2=some _ from rfl);have m2:B 2≠b4:=by have:=k2.2;have h9:w.drew.heap.size=w.heap.size:=rfl;omega
    have k5:=A.blk 5 _ (by omega) trivial (show EV nn 5=some _ from rfl);have m5:B 5≠b4:=by have:=k5.2;have h9:w.drew.heap.size=w.heap.size:=rfl;omega
    have k8:=A.blk 8 _ (by omega) trivial (show EV nn 8=some _ from rfl);have m8:B 8≠b4:=by have:=k8.2;have h9:w.drew.heap.size=w.heap.size:=rfl;omega
    have k11:=A.blk 11 _ (by omega) trivial (show EV nn 11=some _ from rfl);have m11:B 11≠b4:=by have:=k11.2;have h9:w.drew.heap.size=w.heap.size:=rfl;omega
    have Hc:Ctx w0 [] w' [(B 14,Bl 262 [.pointer none]),(B 13,Bl 265 (FB (B 2) (B 5) (B 8) (B 11) nn)),(B 2,Bl 271 ((List.range nn).map fun _ => .slice none 0 0)),(B 5,Bl 2 (BZ (fun _=>0) nn)),(B 8,Bl 3 (BZ (fun _=>0) nn)),(B 11,Bl 3 (BZ (fun _=>0) nn)),(b4,Bl 123 [.int .i64 (nn:Int),.slice a es.length c])]:=by
     refine⟨(H.ext.trans (Ext.drew [] _)).trans A.ext,fun x hx=>?_,?_,fun x hx => .inr ?_⟩
     .simp only[qai,qau,or_false]at hx
      rcases hx with rfl|rfl|rfl|rfl|rfl|rfl|rfl
      .exact k14.1
      .exact k13.1
      .exact k2.1
      .exact k5.1
      .exact k8.1
      .exact k11.1
      .exact A.ext.to hb4 (by simp)
     .simp only[qbx,qai,qau,or_false,forall_eq_or_imp,forall_eq,List.Pairwise.nil,false_imp_iff,implies_true,and_true];exact⟨⟨n14_13,n14_2,n14_5,n14_8,n14_11,m14⟩,⟨n13_2,n13_5,n13_8,n13_11,m13⟩,⟨n2_5,n2_8,n2_11,m2⟩,⟨n5_8,n5_11,m5⟩,⟨n8_11,m8⟩,m11⟩
     .simp only[qai,qau,or_false]at hx;have hb40:=(H.own _ (qak ..)).elim (fun h=>by cases h) id
      rcases hx with rfl|rfl|rfl|rfl|rfl|rfl|rfl
      .have:=k14.2;dsimp only;omega
      .have:=k13.2;dsimp only;omega
      .have:=k2.2;dsimp only;omega
      .have:=k5.2;dsimp only;omega
      .have:=k8.2;dsimp only;omega
      .have:=k11.2;dsimp only;omega
      .exact hb40
    cases qag ho;exact Cb (ptr (B 13)) Apx (A.slot 14 (by omega) trivial) (A.slot 13 (by omega) trivial) U Hc at0 (by decide) fun w2 H2=>Ab ⟨(B 14,B 13,B 2,B 5,B 8,B 11),A.ds,⟨A.slot 14 (by omega) trivial,trivial⟩,H2⟩
  .rintro⟨b11,b36,oo,od,oh,ob⟩ j w H;dsimp only at H;dsimp only;refine Ax (Ae (Ah Ev U (AG Cc U H at6 U (Af U (qA (A1 (Bw 36028247263154176 (α:=Nat) (fun i=>[(39,.int .i64 (i:Int))]) (fun i w'=>i<=nn/\Ctx w0 [] w' [(b11,Bl 262 [ptr b36]),(b36,Bl 265 (FB oo od oh ob nn)),(oo,Bl 271 ((List.range nn).map fun _ => .slice none 0 0)),(od,Bl 2 (BZ (QF i) nn)),(oh,Bl 3 (BZ (fun _=>0) nn)),(ob,Bl 3 (BZ (QF i) nn)),(b4,Bl 123 [.int .i64 (nn:Int),.slice a es.length c])]) (fun i=>nn - i) 0 U ?_ ?_ ?_)))))))
   .exact⟨rfl,trivial⟩
   .exact⟨qaq _,H⟩
   .rintro i j2 w ⟨hi,H⟩;refine Ae (Bm U U (qA (Ax (Aw _ U ?_ ?_))))
    .intro h2;replace h2:=AM h2;refine Ay (Aa (Ax (A1 (Ae (Af U (Ad U (qA (Ft [([0,1,2,3,4,5,6,7,8,9,10],11),([12],13)] (fun z=>z.heap[b11]?=some (Bl 262 [ptr b36])/\z.heap[b36]?=some (Bl 265 (FB oo od oh ob nn))) [13] Br (⟨H.drew.get at0,H.drew.get at1⟩) ?_))))))));refine AD U U (B0 Ji U (fun _ hx=>(by rw[Aj hx.1];rfl)) ?_);refine Ba U (Ao EG U (B0 BU U (fun _ hx=>(by rw[Aj hx.2];rfl)) ?_));refine Bj U (B0 Ji U (fun _ hx=>(by rw[Aj hx.1];rfl)) ?_);refine Ba U (Ao KS U (B0 GA U (fun _ hx=>(by rw[Aj hx.2];rfl)) ?_));refine Bj U (AP Bf BD U U ?_);refine AU ?_;replace H:=H.drew;refine Cl i (fun q => .int .i64 (QF (i+1) q)) (.int _ _) BD U U U H at3 (by simp) (by rw[YS]) (fun q _ hq=>by rw[YT hq]) ?_;rintro w H;refine Ab (BH (⟨H.get at0,H.get at1⟩) (AD U U ?_))
     refine AP E5 Gb U U ?_;refine AU (Cl i (fun q => .int .i64 (QF (i+1) q)) (.int _ _) Gb U U U H at5 (by simp) (by rw[YS]) (fun q _ hq=>by rw[YT hq]) ?_);rintro w H;refine Ab (Bz U (BF (A8 (Aa (A0 (Az U U ?_))))));refine Af U (qA ?_);exact⟨i+1,rfl,⟨rfl,trivial⟩,⟨by omega,H⟩,by omega⟩
    .intro h2;replace h2:=AN h2;obtain rfl:nn=i:=by omega
     have htab:BZ (QF nn) nn=BZ (fun _ => -1) nn:=qbo fun v hv=>by
      show Value.int _ (QF nn v)=Value.int _ (-1);unfold QF;rw[if_pos (qa5.1 hv)]
     rw[htab]at H;have hr:=(C5 hw).2.1;have hp:GL (nn:Int) pot=true:=by unfold Ja at hfit;rw[qae,qae]at hfit;exact hfit.2.1
     obtain⟨g,hg⟩:=qD (grE (nn:Int) es);obtain⟨pf,hpf⟩:=qD (Fk pot);obtain⟨l,hl⟩:=qD (EU (Cs es) (flE fl) es.length);have hgo:g.Ok:=by rw[hg];exact Li hr
     have hlen400:l.length<=400:=by
      rw[hl];unfold EU;have:=qdz (fun a=>decide (0<CI (Cs es) (flE fl) a)) (List.range (2*es.length));rw[List.length_range]at this;omega
     refine Bt (An (An (AK (Aa (Ax (Ae (Cg CE Ct U H at6 U (Ap U (Ap U ?_)))))))));have hb7:=H;refine Al qB (YP (nn:Int) a b p es.length c fl.length d pot.length r _) U ?_;rintro v w ⟨x1,x2,x3,rfl,hb1,hb2,hb3,hs1,hs2,hs3,hx58⟩;replace H:=H.call hx58;refine qA (A1 ?_);obtain⟨ws,rfl⟩:=qD w;have hk1:=Bd hb1;have hk2:=Bd hb2;have hk3:=Bd hb3;have hs07:=H.size;have hoo:=H.get at2;have HL:=(H.perm (qb1 (l₁:=[_,_]) (l₂:=[_,_,_,_]))).tail;have hoolt:=Bd hoo;have hoo7:=Bd (hb7.get at2);have hooge:w0.heap.size<=oo:=(H.own (oo,_) (qac (i:=2) rfl)).elim (fun h=>by cases h) id;obtain⟨OL,hOL⟩:=qD ([(b11,Bl 262 [ptr b36]),(b36,Bl 265 (FB oo od oh ob nn)),(od,Bl 2 (BZ (fun _ => -1) nn)),(oh,Bl 3 (BZ (fun _=>0) nn)),(ob,Bl 3 (BZ (fun _ => -1) nn)),(b4,Bl 123 [.int .i64 (nn:Int),.slice a es.length c])]:List (Nat × Obj))
     have HL':Ctx w0 [] ws OL:=by rw[hOL];exact HL
     have hOLlt:∀y∈OL,y.1<ws.heap.size:=fun y hy=>Bd (HL'.blk y hy)
     have hOLoo:∀y∈OL,y.1≠oo:=fun y hy=>by
      have h9:=H.perm (qb1 (l₁:=[_,_]) (l₂:=[_,_,_,_]));rw[hOL]at hy;exact fun h=>(qbx.1 h9.nd).1 y hy h.symm
     obtain⟨hD,hhD⟩:=qD ws.heap.size
     have hM:∀{w':World} {st:Nat->Slo} {sel:Nat->List Nat},OutR w0 w' oo nn g pf st sel (fun x=>x<ws.heap.size+2)->∀x,QC oo nn st x->x<w'.heap.size/\x≠ws.heap.size/\x≠ws.heap.size+1:=fun{w' st sel} RO x hx=>by
      rcases hx with rfl|⟨u,hu,y,hy,rfl⟩
      .exact⟨Bd RO.tbl,by omega,by omega⟩
      .have h1:=RO.blk u hu y hy;have h2:=Bd h1.1;have h3:¬y.1<ws.heap.size+2:=h1.2.2.1;exact⟨h2,by omega,by omega⟩
     refine Pw (gf:=212) U qB (V1 (b1:=x1) (b2:=x2) (b3:=x3) (a:=a) (b:=b) (p:=p) (c:=c) (d:=d) (r:=r) hw hp) (by kernel_rfl) (by kernel_rfl) (fun v hv=>by obtain⟨p,-,rfl⟩:=qah.1 hv;rfl)
      (fun i M w'=>∃st,M=QC oo nn st/\OutR w0 w' oo nn g pf st (fun u=>Jl g (l.take i) u) (fun x=>x<ws.heap.size+2)/\(∀u,u<nn->(st u).n<=i)/\Ctx w0 [] w' OL/\w'.heap[x1]?=some (Bl 123 [.int .i64 (nn:Int),.slice a es.length c])/\w'.heap[x2]?=some (Bl 31 [.slice p pot.length r])/\w'.heap[x3]?=some (Bl 31 [.slice b fl.length d]))
      (fun _=>False) (by simp)
      (fun w2 hx2 _=>⟨_,fun _=>⟨none,0,0,[]⟩,rfl,⟨hx2.to hoo (by simp),fun u _=>OS.nil,(fun u _ y hy=>by cases hy),(fun u v _ _ _ y hy=>by cases hy)⟩,fun u _=>qam _,HL'.call hx2,hx2.to hb1 (by simp),hx2.to hb2 (by simp),hx2.to hb3 (by simp)⟩)
      (fun i M w' w'' hJ hx=>?_) (fun _ _ h _=>h) (fun i M w' hJ=>?_) ?_ ?_ (fun _ h _=>h.elim)
     .obtain⟨st,h1,RO,hni,HJ,g1,g2,g3⟩:=hJ;refine⟨st,h1,RO.keep hx fun x hx hm=>?_,hni,HJ.step hx (fun y hy=>?_) fun z hz => .inr ?_,hx.to g1 ?_,hx.to g2 ?_,hx.to g3 ?_⟩
      .have:=hM RO x hm;simp only[qai,qau,or_false]at hx;omega
      .have:=hOLlt y hy;simp only[qai,qau,or_false];omega
      .simp only[qai,qau,or_false]at hz;omega
      .simp only[qai,qau,or_false];omega
      .simp only[qai,qau,or_false];omega
      .simp only[qai,qau,or_false];omega
     .obtain⟨st,rfl,RO,hni,HJ,g1,g2,g3⟩:=hJ;exact⟨hM RO,g1,g2,g3,R.ext0 HJ.ext,Rf.ext0 HJ.ext,Rp.ext0 HJ.ext⟩
     .rintro i v _ w hxv ⟨st,rfl,RO,hni,HJ,g1,g2,g3⟩ hsz;unfold LZ at hxv;rw[qa1,<-hl,<-hg,<-hpf]at hxv;obtain⟨y,hy,rfl⟩:=qdf.1 hxv;have hil:=CD hy;have hyl:=qac hy
      have hyu:g.u y<nn:=by
       have h1:=hgo.u (a:=y) (by rw[hl]at hyl;have:=YR hyl;rw[hg];exact this);rw[hg]at h1 |-;exact h1
      obtain⟨w1,rfl,H⟩:=qE w;refine A0 (Bc KW H ?_);rintro b13 w - H;refine Bn Iw U U U (by exact QA _ _ _) H at0 U ?_;rintro w H;refine Ab ?_;refine⟨H.ext,fun wB hxB=>?_⟩;have hb13:=(H.own _ (qak ..)).elim (fun h=>by cases h) id;have k13:=hxB.to (H.get at0) (by rw[qab];omega);have ROB:=(RO.keep H.ext (fun x hx=>by cases hx)).keep hxB fun x hx hm=>(hM RO x hm).2.2 (qab.1 hx);have HB:=(HJ.call H.ext).step hxB (fun y hy=>by have:=hOLlt y hy;rw[qab];omega) (fun z hz => .inr (by rw[qab.1 hz];omega));have e1:=hxB.to (H.ext.to g1 (by simp)) (by rw[qab];omega);have e2:=hxB.to (H.ext.to g2 (by simp)) (by rw[qab];omega);have e3:=hxB.to (H.ext.to g3 (by simp)) (by rw[qab];omega);have hsB:=hxB.size;have hsH:=H.ext.size
      have HB':=HB;rw[hOL]at HB';have k11:=HB'.get at0;have k36:=HB'.get at1;obtain⟨u,hu⟩:=qD (g.u y);rw[<-hu]at hyu
      have hnot:∀x,x≠oo->(x<ws.heap.size+2\/w1.heap.size<=x)->x∉oo::(Mv (st u)).map (·.1):=fun x h1 h2 h=>by
       rcases qai.1 h with h|h
       .exact h1 h
       .obtain⟨z,hz,he⟩:=qah.1 h;have q1:=RO.blk u hyu z hz;have q2:=Bd q1.1;have q3:¬z.1<ws.heap.size+2:=q1.2.2.1;omega
      have hO11:=hOLoo (b11,_) (by rw[hOL];exact qac (i:=0) rfl);have hO36:=hOLoo (b36,_) (by rw[hOL];exact qac (i:=1) rfl);have hl11:=hOLlt (b11,_) (by rw[hOL];exact qac (i:=0) rfl);have hl36:=hOLlt (b36,_) (by rw[hOL];exact qac (i:=1) rfl);have hoo1:=Bd RO.tbl;dsimp only at hO11 hO36 hl11 hl36;have n11:=hnot b11 hO11 (.inl (by omega));have n36:=hnot b36 hO36 (.inl (by omega));have n13:=hnot b13 (by omega) (.inr hb13);have hgu:(Aak nn st)[u]?=some (.slice (st u).a (st u).n (st u).c):=Ec hyu;have hnu:=hni u hyu;obtain⟨w2,rfl⟩:=qD wB;replace H:=ROB.ctx hyu;have hrow:Hv g pf y=[.int .i64 (y:Int),.int .i64 (u:Int),.int .i64 (g.v y:Int),.int .i64 (g.len pf y)]:=by unfold Hv;rw[<-hu]
      refine A1 (Ft [([0,1,2,3,4,5,6,7,8,9,10,11,12,13,14],15),([],16),([17],18)] (fun z=>z.heap[b11]?=some (Bl 262 [ptr b36])/\z.heap[b36]?=some (Bl 265 (FB oo od oh ob nn))/\z.heap[b13]?=some (Bl 270 (Hv g pf y))/\z.heap[oo]?=some (Bl 271 (Aak nn st))) [18] Br (⟨H.drew.ext.to k11 n11,H.drew.ext.to k36 n36,H.drew.ext.to k13 n13,H.drew.get at0⟩) ?_);refine AD U U (B0 Ji U (fun _ hx=>(by rw[Aj hx.1];rfl)) ?_);refine Ba U (Ao MR U (B0 TI U (fun _ hx=>(by rw[Aj hx.2.1];rfl)) ?_));refine Ao Vp U (B0 Cc U (fun _ hx=>(by rw[Aj hx.2.2.1,hrow];rfl)) ?_);refine B0 Ji U (fun _ hx=>(by rw[Aj hx.1];rfl)) ?_;refine Ba U (Ao MR U (B0 TI U (fun _ hx=>(by rw[Aj hx.2.1];rfl)) ?_));refine Ao Vp U (B0 Cc U (fun _ hx=>(by rw[Aj hx.2.2.1,hrow];rfl)) ?_);refine AP NL NN U U ?_
      refine B0 Xg U (fun _ hx=>(by rw[Aj hx.2.2.2];simpa using hgu)) ?_;refine G9 _ Xf Iw U U (fun _ hx=>(Jy hx.2.2.1)) (AU ?_);replace H:=H.drew;refine Cp (Hv g pf y) (.agg _) Mo Iw KW U U U U H ?_;rintro b75 w - H;refine Ab (BH (⟨H.ext.to k11 n11,H.ext.to k36 n36,H.ext.to k13 n13,H.get at1⟩) (AD U U ?_));refine AU (Cy (L:=[(oo,_)]) Mo Mo Iw Am8 KW U U U H (ROB.os u hyu) U (QA g pf y) ?_);rintro a76 c76 f76 w H O76;refine Ab (BH (⟨H.ext.to k11 n11,H.ext.to k36 n36,H.ext.to k13 n13,H.get at0⟩) (AD U U ?_));refine AP NL NN U U ?_;refine AU (Cl u (fun q=>sloV (stS st u ⟨a76,(st u).n+1,c76,f76⟩ q)) (.slice _ _ _) NN U U U H at0 (by simp) (hk:=hyu) (by rw[I5];rfl) (fun q _ hq=>by rw[Lh hq]) ?_);rintro w H;refine Ab (Bz U (BF (A8 ?_)));have hss:=Aal (g:=g) hy;rw[<-hu]at hss
      have hO':OS a76 ((st u).n+1) c76 4 f76 ((Jl g (l.take (i+1)) u).flatMap (Hv g pf)):=by rw[hss.1,qbt];simpa using O76
      have h02:w0.heap.size<=w2.heap.size:=by omega
      obtain⟨RO',hnewM⟩:=ROB.step hyu (s:=⟨a76,(st u).n+1,c76,f76⟩) (sel':=fun q=>Jl g (l.take (i+1)) q) (fun x hx=>by have hx:x<ws.heap.size+2:=hx;omega) h02 H hO' (fun q hq=>hss.2 q hq)
      have hidM:∀x∈oo::(Mv (st u)).map (·.1),QC oo nn st x:=fun x hx=>by
       rcases qai.1 hx with h|h
       .exact .inl h
       .obtain⟨z,hz,he⟩:=qah.1 h;exact .inr ⟨u,hyu,z,hz,he⟩
      refine⟨_,⟨stS st u ⟨a76,(st u).n+1,c76,f76⟩,rfl,RO',fun q hq=>?_,HB.step H.ext (fun z hz=>hnot z.1 (hOLoo z hz) (.inl (by have:=hOLlt z hz;omega))) (fun z hz => .inr ?_),H.ext.to e1 (hnot x1 (by omega) (.inl (by omega))),H.ext.to e2 (hnot x2 (by omega) (.inl (by omega))),H.ext.to e3 (hnot x3 (by omega) (.inl (by omega)))⟩,fun x hx=>?_,_,H.ext,fun x hx => .inl (hidM x hx)⟩
      .by_cases e:q=u
       .subst e;rw[I5];dsimp only;omega
       .rw[Lh e];have:=hni q hq;omega
      .rcases qai.1 hz with h|h
       .rw[h];exact hooge
       .obtain⟨t,ht,he⟩:=qah.1 h;have:=(RO.blk u hyu t ht).2.1;omega
      .exact(hnewM x hx).imp id fun h=>by omega
     .rintro M w ⟨st,rfl,RO,hni,HJ,-,-,-⟩ hD;have htk:l.take (LZ (grE (nn:Int) es) (Fk pot) (EU (Cs es) (flE fl) es.length)).length=l:=qc2 (by unfold LZ;rw[qal,<-hl];exact qam _);simp only[htk]at RO;clear hni htk;obtain⟨w5,rfl⟩:=qD w;have h59:∀x,QC oo nn st x->x<w5.heap.size:=fun x hx=>(hM RO x hx).1;have h5D:=Bd hD;obtain⟨ids,hids⟩:=qD (OL.map (·.1))
      have hidM:∀x∈ids,¬QC oo nn st x:=fun x hx hm=>by
       rw[hids]at hx;obtain⟨y,hy,rfl⟩:=qah.1 hx;have a1:=hOLlt y hy;have a2:=hOLoo y hy
       rcases hm with h|⟨u,hu,z,hz,he⟩
       .exact a2 h
       .have h3:=(RO.blk u hu z hz).2.2.1;apply h3;show z.1<_;omega
      have hidD:ws.heap.size∉ids:=fun hx=>by
       rw[hids]at hx;obtain⟨y,hy,he⟩:=qah.1 hx;have a1:=hOLlt y hy;omega
      have hB:∀{w':World} {L':List (Nat × Obj)},Ctx w5 ids w' L'->Ctx w0 [] w' L':=fun h=>(Ctx.back (L1:=OL) (L2:=[]) HJ.app_nil (by rw[<-hids];exact h)).nil_app
      have hnotL:∀x,QC oo nn st x->∀{w':World} {L':List (Nat × Obj)},Ctx w5 ids w' L'->x∉L'.map (·.1):=fun x hx {w' L'} h hm=>by
       obtain⟨y,hy,he⟩:=qah.1 hm
       rcases h.own y hy with h1|h1
       .rw[he]at h1;exact hidM x h1 hx
       .have:=h59 x hx;omega
      have H:Ctx w5 ids w5 OL:=by rw[hids];exact HJ.app_nil.lend
      rw[hOL]at H;clear hids;obtain⟨A,hA⟩:=qD (Nb g (Cs es) (flE fl) pf);have hF:=Uh hfit;rw[<-hg,<-hpf]at hF
      have hlb:∀a,g.len pf a<=2199023256552 /\ -2199023256552<=g.len pf a:=fun a=>by
       rw[hg,hpf];exact Ajx hr (Ajy hp) a
      have hgN:g.N=nn:=by rw[hg];rfl
      have hgE:g.E=es.length:=by rw[hg];rfl
      have hArcs:TZ A nn 2199023256552:=by rw[hA,<-hgN];exact hF.arcs hgo fun a _=>(hlb a).1
      have hlE:l=EU (Cs es) (flE fl) g.E:=by rw[hgE];exact hl
      have hAf:∀u,A.filter (fun a=>decide (a.1=u))=(Jl g l u).map (JV g pf):=fun u=>by rw[hA,hlE];exact V3 g _ _ pf u
      have hsl:∀u,(Jl g l u).length<=400:=fun u=>qa6 (qdz _ _) hlen400;have hdeg:∀u,J0 A u<=400:=fun u=>by unfold J0;rw[hAf,qal];have:=hsl u;omega
      have hsn:src.length<=nn:=MY nn src hnd hsrc;have hfr:src≠[]->(adr fr).block<w0.heap.size:=fun h=>Rd.lt Rs (by simpa using h) (fun x _=>⟨_,rfl⟩) (by decide)
      have hselx:∀u,u<nn->∀x∈Jl g l u,g.u x=u/\g.v x<nn/\x<2*es.length:=fun u _ x hx=>by
       obtain⟨h1,h2⟩:=qbe.1 hx;have h3:x<2*es.length:=by rw[hl]at h1;exact YR h1
       have h4:=hgo.v (a:=x) (by rw[hgE];exact h3);exact⟨qba h2,by rw[<-hgN];exact h4,h3⟩
      have hstn:∀u,u<nn->(st u).n=(Jl g l u).length:=fun u hu=>(RO.os u hu).numN (fun _ _=>rfl) (by decide)
      have hget:∀u,u<nn->(Aak nn st)[u]?=some (.slice (st u).a (Jl g l u).length (st u).c):=fun u hu=>by
       have:=Ec (f:=fun u=>sloV (st u)) hu;rw[<-hstn u hu];exact this
      have hrow:∀{w':World} {S:List Nat},Ext S w5 w'->(∀x∈S,x∈ids)->∀u,u<nn->Rd w' (st u).a 4 (Hv g pf) (Jl g l u):=fun{w' S} hx hS u hu=>by
       have RO':=RO.keep hx fun x hx'=>hidM x (hS x hx');exact(RO'.os u hu).rd (t:=270) (fun y hy=>(RO'.blk u hu y hy).1) (fun _ _=>rfl) (by decide)
      have hrowM:∀u,u<nn->Jl g l u≠[]->QC oo nn st (adr (st u).a).block:=fun u hu hne=>by
       obtain⟨b,hb⟩:=(RO.os u hu).form (by rw[hstn u hu];exact qb2.2 hne);exact Or.inr ⟨u,hu,(b,Bl 270 (st u).full),by show _∈ent (st u).a _ _;rw[Aiw hb];exact qak ..,by rw[hb];rfl⟩
      have hooM:QC oo nn st oo := .inl rfl;refine A8 (Aa (Ae (Al qB (Ajr _) U ?_)));rintro v w ⟨bh,rfl,hbh,hbhv,hx78⟩;replace H:=H.callAdd hx78 hbhv hbh;have Hp0:=H.perm (qb1 (l₁:=[_,_,_]) (l₂:=[_,_,_]));have hlb0:=Aj2;have Hp:Ctx w5 ids w (NBl od nn (lb0 []) bh none 0 0 []++[(b11,Bl 262 [ptr b36]),(b36,Bl 265 (FB oo od oh ob nn)),(oh,Bl 3 (BZ (fun _=>0) nn)),(ob,Bl 3 (BZ (fun _ => -1) nn)),(b4,Bl 123 [.int .i64 (nn:Int),.slice a es.length c])]):=by show Ctx w5 ids w ((od,Bl 2 (BZ (lb0 []).d nn))::_);rw[hlb0];exact Hp0
      refine Cn U (qA (Ax (Ae (AG Ji U H at1 U (A4 U (Ap U (Al qB (Afb (Ctx.lend Hp) OS.nil (Hp.get at3) (X8 (Hp.comm).nd (x:=(b36,_)) (qac (i:=1) U)) ((Rs.ext0 (hB Hp).ext)) (fun hne hm=>by have h1:=hfr hne;have h2:=(hB Hp.left).own;obtain⟨y,hy,he⟩:=qah.1 hm;rcases h2 y hy with h|h;cases h;omega) hsrc hnd) U ?_)))))));rintro v w ⟨rfl,a0,c0,f0,L0,hp0,hH0,O0,H2⟩;replace H:=Ctx.comm (L:=NBl od nn (lb0 src) bh a0 src.length c0 f0) (Ctx.back Hp H2);refine BP U (qA (Aw _ U ?_ ?_))
      .intro h4;replace h4:=BM h4;have:=qbn h4;omega
      .intro h4;replace h4:=BN h4;refine Ay (Aa (Ax (A1 ?_)));have hn0:src.length=L0.length:=O0.numN (fun _ _=>rfl) (by decide);have hps:=Aam (n:=nn) (A:=A) (src:=src) (d:=400) fun v _=>hdeg v;have hps2:(nn:Int)*(400*((nn:Int)+1))<=40*(400*41):=Int.mul_le_mul (by omega) (by omega) (by omega) (by omega);refine Bw 81129619071793567861722210074624 (α:=WSt) (fun _=>[]) (fun t w'=>MI A src nn 2199023256552 t.D t.s t.L/\HeapL t.L/\OS t.a t.hn t.c 2 t.full (t.L.flatMap Fj)/\psi nn A t.D t.s t.L<=1000000/\Ctx w5 ids w' ([(b11,Bl 262 [ptr b36]),(b36,Bl 265 (FB oo od oh ob nn)),(ob,Bl 3 (BZ (fun _ => -1) nn)),(b4,Bl 123 [.int .i64 (nn:Int),.slice a es.length c])]++GB od oh nn t.s bh t.a t.hn t.c t.full)) (fun t=>(psi nn A t.D t.s t.L).toNat) ⟨lb0 src,a0,src.length,c0,f0,L0,-1⟩ U ?_ ?_ ?_
       .exact trivial
       .refine⟨(MI.start hsrc hnd).perm hp0.symm,hH0,O0,?_,?_⟩
        .dsimp only;rw[QB hp0];omega
        .exact H.perm (List.Perm.cons _ (List.Perm.cons _ (qb1 (l₁:=[_,_,_])).symm))
       .rintro⟨s,a',hn,c',full,L,D⟩ j w ⟨MM,hH,O,hpsi,H⟩;dsimp only at MM hH O hpsi H;dsimp only;have hnl:hn=L.length:=O.numN (fun _ _=>rfl) (by decide);have hpl:=Uf (n:=nn) (A:=A) (D:=D) (s:=s) (hp:=L);refine Ax (Ae (A4 U (Al qB (Ajs (H.get (k:=6) U)) U ?_)));rintro v w ⟨rfl,rfl⟩;refine C8 U U (qA (Aw _ U ?_ ?_))
        .intro h5;replace h5:=AM h5
         obtain⟨⟨d,v⟩,L1,rfl⟩:∃t L1,L=t::L1:=by
          cases L with
          |nil=>simp at hnl;omega
          |cons t L1=>exact⟨t,L1,rfl⟩
         obtain⟨q,rfl⟩:=O.form (by omega)
         have hmin:∀x∈L1,d<=x.1:=fun x hx=>by
          obtain⟨i,hi⟩:=qdd hx;have h:=hH.root (r:=(d,v)) rfl (i+1) x (by simpa using hi)
          rcases h with h|h
          .exact Int.le_of_lt h
          .exact Int.le_of_eq h.1
         have hvn:=MM.top hArcs;dsimp only at hvn;obtain⟨dv,hdv⟩:=qD (s.d v);have hgd:(tab s.d nn)[v]?=some dv:=by rw[BW hvn,hdv]
         refine Ay (Aa (A1 (Ae (A4 U ?_))));have Hc:=Ctx.comm (L:=[_,_,_,_,_,_]) (L':=HB bh (some ⟨q,0,none⟩) hn c' full) H;refine Al qB (Aqb (Ctx.lend (L1:=HB bh (some ⟨q,0,none⟩) hn c' full) (L2:=[_,_,_,_,_,_]) Hc) O hH) U ?_;rintro rv w ⟨rfl,f2,L2,hp2,hH2,O2,H2⟩;replace H:=Ctx.comm (L:=HB bh (some ⟨q,0,none⟩) L1.length c' f2) (L':=[_,_,_,_,_,_]) (Ctx.back (L1:=HB bh (some ⟨q,0,none⟩) hn c' full) (L2:=[_,_,_,_,_,_]) Hc H2);refine Cr U (AH U U (AH U U (AH U U (Ad U (Ad U (Ad U (qA ?_)))))));have MM2:MI A src nn 2199023256552 D s ((d,v)::L2):=MM.perm ((hp2.cons _).symm);have hmin2:∀x∈L2,d<=x.1:=fun x hx=>hmin x (hp2.mem_iff.1 hx);have hps3:psi nn A D s ((d,v)::L2)=psi nn A D s ((d,v)::L1):=QB (hp2.cons _);refine Ae (Af U (AG Ji U H at0 U (A9 U (Ah EG U (AG BU U H at1 U (Af U (Bp Bf BD U U ?_)))))))
         refine Bb B4 U (((CB (H.get at4)).fld hgd U (j:=0) U)) (C3 U U (qA (Aw _ U ?_ ?_)))
         .intro h6;replace h6:=AM h6;have he:(d,v).1=s.d (d,v).2:=by dsimp only;rw[<-hdv];exact h6
          obtain⟨La,hLa⟩:=qD (Jl g l v);have hll:La.length<=400:=by rw[hLa];exact hsl v
          have hfold:∀k,(goP g pf s L2 (La.take k))=(((La.take k).map (JV g pf)).foldl JW (s,L2)):=fun k=>rfl
          have hgoes:∀k,DJ A src nn 2199023256552 (goP g pf s L2 (La.take k)).1:=fun k=>by
           rw[hfold];exact(MM2.go hArcs (by omega) (by omega) hmin2 he (l:=(La.take k).map (JV g pf)) (l1:=(La.drop k).map (JV g pf)) (by rw[<-qav,qbq,hLa];exact hAf v)).1
          obtain⟨M3,hps4⟩:=(MM2.go hArcs (by omega) (by omega) hmin2 he (l:=La.map (JV g pf)) (l1:=[]) (by rw[qa0,hLa];exact hAf v)).2 rfl;have RO1:=RO.keep H.ext hidM;have RX:=hrow H.ext (fun _ h=>h) v hvn;have hgv:=hget v hvn;rw[<-hLa]at RX hgv;refine A0 (AG Ji U H at0 U (A4 U (Af U ?_)));have Hc:=Ctx.comm (L:=[_,_,_,_]) (L':=GB od oh nn s bh (some ⟨q,0,none⟩) L1.length c' f2) H
          refine Al qB (Ajw (Ctx.lend (L1:=GB od oh nn s bh (some ⟨q,0,none⟩) L1.length c' f2) (L2:=[_,_,_,_]) Hc) O2 hH2 (H.get at1) (X8 (L:=[_,_,_,_]) H.nd (x:=(b36,_)) (qac (i:=1) U)) RO1.tbl (hnotL oo hooM (Ctx.left (L':=[_,_,_,_]) Hc)) hgv hvn RX (fun hne=>hnotL _ (hrowM v hvn (hLa ▸ hne)) (Ctx.left (L':=[_,_,_,_]) Hc)) (fun x hx=>by rw[hLa]at hx;have h7:=hselx v hvn x hx;have h8:=hlb x;exact⟨h7.1,h7.2.1,by omega,by omega⟩) (by simp only[qa9]at hnl hpl;omega) (fun k x _=>by have h7:=(hgoes k).dist (by omega) (by omega) x;exact⟨h7.1,by omega,by omega⟩)) U ?_;rintro rv w ⟨rfl,a3,hn3,c3,f3,L3,hp3,hH3,O3,H3⟩;replace H:=Ctx.comm (L:=GB od oh nn (goP g pf s L2 La).1 bh a3 hn3 c3 f3) (L':=[_,_,_,_]) (Ctx.back (L1:=GB od oh nn s bh (some ⟨q,0,none⟩) L1.length c' f2) (L2:=[_,_,_,_]) Hc H3);refine Ab (A8 (Aa ?_))
          have hps7:psi nn A d (goP g pf s L2 La).1 (goP g pf s L2 La).2+1<=psi nn A D s ((d,v)::L2):=hps4
          have hps5:psi nn A d (goP g pf s L2 La).1 L3+1<=psi nn A D s ((d,v)::L1):=by
           rw[QB hp3,<-hps3];exact hps7
          have hps6:=Uf (n:=nn) (A:=A) (D:=d) (s:=(goP g pf s L2 La).1) (hp:=L3);exact⟨⟨(goP g pf s L2 La).1,a3,hn3,c3,f3,L3,d⟩,rfl,trivial,⟨MI.perm M3 hp3.symm,hH3,O3,by dsimp only;omega,H⟩,by dsimp only;omega⟩
         .intro h6;replace h6:=AN h6;have hne:(d,v).1≠s.d (d,v).2:=by dsimp only;rw[<-hdv];exact h6
          obtain⟨M3,hps4⟩:=MM2.drop hArcs hmin2 hne;have hps6:=Uf (n:=nn) (A:=A) (D:=d) (s:=s) (hp:=L2);refine Ay (A8 (Aa ?_));exact⟨⟨s,some ⟨q,0,none⟩,L1.length,c',f2,L2,d⟩,rfl,trivial,⟨M3,hH2,O2,by dsimp only at hps4 |-;omega,H⟩,by dsimp only at hps4 |-;omega⟩
        .intro h5;replace h5:=AN h5;obtain rfl:L=[]:=qb0 (by omega);have DN:=MM.ends;have hsd:=fun v=>MM.dj.dist (by omega) (by omega) v;have hge:∀u,u<nn->g.u u=g.u u:=fun _ _=>rfl;have RO1:=RO.keep H.ext hidM;have hooG:=hnotL oo hooM H;have Hp4:=H.perm (qb1 (l₁:=[_,_]) (l₂:=[_,_,_]++_));have hobM:∀u,u<nn->Jl g l u≠[]->(adr (st u).a).block≠ob:=fun u hu hne e=>hnotL _ (hrowM u hu hne) H (by rw[e];exact qah.2 ⟨(ob,_),qac (i:=2) rfl,rfl⟩)
         refine Bt (An (An (AK (Aa (Ae (AG Ji U H at0 U (Al qB (Afc (outL:=fun u=>Jl g l u) (g:=g) (p:=pf) (s:=s) (H.get at2) (H.get at1) (H.get at4) (H.get at5) RO1.tbl (H.ne at1 at2 (by decide)) (H.ne at4 at2 (by decide)) (H.ne at5 at2 (by decide)) (fun e=>hooG (by rw[e];exact qah.2 ⟨(ob,_),qac (i:=2) rfl,rfl⟩)) (fun v=>by have h7:=hsd v;omega) (fun u hu=>⟨_,_,hget u hu,hrow H.ext (fun _ h=>h) u hu,hobM u hu,by have:=hsl u;omega,fun x hx=>by have h7:=hselx u hu x hx;have h8:=hlb x;exact⟨h7.1,h7.2.1,by omega,by omega,by omega⟩⟩)) U ?_)))))));rintro rv w ⟨rfl,by',BB,H3⟩;replace H:=Ctx.back (L1:=[_]) (L2:=[_,_,_,_,_]++_) Hp4 H3;refine qA (DT (fun x=>x=_) Br U ?_);refine Cj Ji U (by rintro _ rfl;exact H.drew) at1 U ?_;refine AZ U (A6 EG U (Cj BU U (by rintro _ rfl;exact H.drew) at2 U ?_))
         refine Cj Ji U (by rintro _ rfl;exact H.drew) at1 U ?_;refine AZ U (A6 KS U (Cj GA U (by rintro _ rfl;exact H.drew) at2 U ?_));refine Sh U U (Sh U U (Dv U (BS ?_)));rintro _ rfl;replace H:=H.drew;refine A5 (Aj1 U U U U ?_);have hodlt:=hOLlt (od,_) (by rw[hOL];exact qac (i:=2) rfl);have hoblt:=hOLlt (ob,_) (by rw[hOL];exact qac (i:=4) rfl);dsimp only at hodlt hoblt
         have hall:∀a,a∈Jl g l (g.u a)->a<2*g.E/\0<CI (Cs es) (flE fl) a:=fun x hx=>by
          have h1:=(qbe.1 hx).1;rw[hlE]at h1;obtain⟨h2,h3⟩:=qbe.1 h1;exact⟨qa5.1 h2,qba h3⟩
         have hdn:∀x,x<2*g.E->0<CI (Cs es) (flE fl) x->g.u x<nn/\x∈Jl g l (g.u x):=fun x h1 h2=>⟨by rw[<-hgN];exact hgo.u h1,qbe.2 ⟨by rw[hlE];exact qbe.2 ⟨qa5.2 h1,qan h2⟩,qan rfl⟩⟩;have BY:=Aqc (cap:=Cs es) (x:=flE fl) (by rw[<-hA];exact DN) (by rw[<-hA];exact hArcs) BB hall hdn
         have WX:WaysX g (Cs es) (flE fl) pf s by':=by
          refine⟨by rw[<-hA];exact MM.rlx,fun v a h b h1 h2 h3 h4=>BB.fst v a h b (hdn b h1 h2) h3 h4,fun v a h=>?_,fun b h1 h2 h3=>BB.in' b (hdn b h1 h2) h3,fun v=>(BB.val v).imp id fun⟨a,h,_⟩=>⟨a,h⟩⟩
          rcases BB.val v with h'|⟨c,h',h1,h2,h3⟩
          .omega
          .obtain rfl:a=c:=by omega
           exact⟨(hall a h1).1,(hall a h1).2,h2,h3⟩
         refine Ij (H.ext.to hD hidD) U fun wF hxF=>⟨od,ob,s,by',rfl,?_,?_,fun v=>?_,?_,?_⟩
         .rw[hA,hg,hpf]at DN;exact DN
         .rw[hg,hpf]at BY;exact BY
         .rcases BB.val v with h|⟨x,h1,h2,-⟩
          .exact .inl h
          .exact .inr ⟨x,h1,by rw[<-hgE];exact(hall x h2).1⟩
         .rw[hg,hpf]at WX;exact WX
         .refine((hB H).sub (L':=[(od,Bl 2 (BZ s.d nn)),(ob,Bl 3 (BZ by' nn))]) (fun x hx=>?_) ?_).step hxF (fun x hx=>?_) fun x hx => .inr ?_
          .simp only[qai,qau,or_false]at hx
           rcases hx with rfl|rfl
           .exact qac (i:=4) U
           .exact qac (i:=0) U
          .simp only[qbx,qab,forall_eq,qau,false_imp_iff,implies_true,List.Pairwise.nil,and_true];exact H.ne at4 at0 (by decide)
          .simp only[qai,qau,or_false]at hx;rw[qab]
           rcases hx with rfl|rfl
           .dsimp only;omega
           .dsimp only;omega
          .rw[qab.1 hx];exact hs07
theorem OS.setf{α:Type}{a:Option Addr}{n c s:Nat}{full:List Value}{enc:α->List Value}{L:List α}(O:OS a n c s full (L.flatMap enc))(hs:∀x,(enc x).length=s){i j:Nat}{x y:α}{v:Value}(hx:L[i]?=some x)(hj:j<s)(hy:enc y=(enc x).set j v):OS a n c s (full.set (i*s+j) v) ((L.set i y).flatMap enc):=by
 refine⟨O.zero,O.none',by rw[qco];exact O.len,O.le,?_⟩;rw[O.split,Ajp (fun z _=>hs z) hx hj hy];have h1:=O.llen;rw[Fi fun z _=>hs z]at h1;exact qch (by rw[Fi fun z _=>hs z,qco,h1])
def edC(es:List Ed)(c:Nat->Int)(i:Nat):Ed:={ es.getD i e0 with cap:=c i }
def esC(es:List Ed)(c:Nat->Int):List Ed:=(List.range es.length).map (edC es c)
theorem JY(es:List Ed)(c:Nat->Int):(esC es c).length=es.length:=by unfold esC;simp
theorem JZ{es:List Ed}{c:Nat->Int}{i:Nat}(h:i<es.length):(esC es c)[i]?=some (edC es c i):=Ec h
theorem LD{es:List Ed}{c d:Nat->Int}(h:∀i,i<es.length->c i=d i):esC es c=esC es d:=qbo fun i hi=>by unfold edC;rw[h i (qa5.1 hi)]
theorem YU{es:List Ed}{c d:Nat->Int}{i:Nat}{e:Ed}(he:edC es d i=e)(h:∀j,j<es.length->j≠i->d j=c j):(esC es c).set i e=esC es d:=Jq he fun j hj hn=>by unfold edC;rw[h j hj hn]
theorem QG(es:List Ed):esC es (Cs es)=es:=by
 refine qci fun i=>?_
 rcases qap i es.length with h|h
 .obtain⟨e,he⟩:=AE (h:=h);rw[JZ h,he];unfold edC Cs;rw[Bv he]
 .rw[qbi (by rw[JY];exact h),qbi h]
theorem Aqe{es:List Ed}{c:Nat->Int}{i:Nat}(h:i<es.length):Cs (esC es c) i=c i:=by
 unfold Cs;rw[Bv (JZ h)];rfl
theorem grE_C(N:Int)(es:List Ed)(c:Nat->Int):grE N (esC es c)=grE N es:=by
 have h:∀i,((esC es c).getD i e0).f=(es.getD i e0).f/\((esC es c).getD i e0).t=(es.getD i e0).t/\((esC es c).getD i e0).cost=(es.getD i e0).cost:=fun i=>by
  rcases qap i es.length with h|h
  .rw[Bv (JZ h)];exact⟨rfl,rfl,rfl⟩
  .rw[qbu,qbi (by rw[JY];exact h),qbu,qbi h];exact⟨rfl,rfl,rfl⟩
 unfold grE;rw[JY]
 congr 1
 .funext i;rw[(h i).1]
 .funext i;rw[(h i).2.1]
 .funext i;rw[(h i).2.2]
theorem S7{α:Type}{f g:α->Nat}:∀{l:List α},(∀x∈l,f x<=g x)->(l.map f).sum<=(l.map g).sum
 | [],_=>qam _
 |x::l,h=>by
  have h1:=h x (qak ..);have h2:=S7 (l:=l) fun y hy=>h y (qaj _ hy);simp only[qay,List.sum_cons];omega
theorem YV{N:Int}{es:List Ed}{c:Nat->Int}(h:CA N es=true)(hc:∀i,i<es.length->0<=c i/\c i<=Cs es i):CA N (esC es c)=true:=by
 obtain⟨h1,h2,h3,h4,h5⟩:=CS h
 have h6:Gy (esC es c)<=Gy es:=by
  have e1:Gy es=((List.range es.length).map fun i=>HS (es.getD i e0)).sum:=by
   conv=>lhs;rw[<-QG es]
   unfold Gy esC;rw[qcf]
   congr 1
  have e2:Gy (esC es c)=((List.range es.length).map fun i=>HS (edC es c i)).sum:=by
   unfold Gy esC;rw[qcf]
   congr 1
  rw[e1,e2];refine S7 fun i hi=>?_;have h7:=hc i (qa5.1 hi);unfold HS edC;dsimp only;exact qcc _ (by unfold Cs at h7;omega)
 have h7:(esC es c).all (Gx N)=true:=qaw.2 fun e he=>by
  obtain⟨i,hi,rfl⟩:=qah.1 he;have hil:=qa5.1 hi;obtain⟨e,he⟩:=AE (h:=hil);have h8:=Fb (h4 e (qac he));have h9:=hc i hil;unfold Cs at h9;rw[Bv he]at h9;unfold edC Gx Nc;rw[Bv he];dsimp only;simp only[qae,qar];omega
 unfold CA;rw[h7,JY];simp only[qae,qar];exact⟨⟨h1,h2⟩,h3,trivial,by omega⟩
theorem Afl{N:Int}{es:List Ed}{c x:Nat->Int}(h:CA N es=true)(hc:∀i,i<es.length->0<=c i/\c i<=Cs es i)(hx:∀i,i<es.length->0<=x i/\x i<=c i):Cu N (esC es c) (tab x es.length)=true:=by
 unfold Cu;rw[YV h hc,Ds,JY,qan rfl];refine qaw.2 fun b hb=>?_;obtain⟨i,hi⟩:=qdd hb
 have hil:i<es.length:=by
  have:=CD hi;rw[qc5,JY,Ds]at this;omega
 rw[Q7 (JZ hil) (BW hil)]at hi;obtain rfl:=qag hi;have:=hx i hil;unfold inB edC;simp only[qae,qar,id_eq];omega
def Ge(es:List Ed)(k i:Nat):Int:=(((Cs es i).toNat / 2 ^ k:Nat):Int)
theorem P5{N:Int}{es:List Ed}(h:CA N es=true)(k:Nat):∀i,i<es.length->0<=Ge es k i/\Ge es k i<=Cs es i:=fun i hi=>by
 obtain⟨e,he⟩:=AE (h:=hi);have h8:=Fb ((CS h).2.2.2.1 e (qac he));have h9:(Cs es i).toNat / 2 ^ k<=(Cs es i).toNat:=Nat.div_le_self _ _;have h7:0<=Cs es i:=by unfold Cs;rw[Bv he];omega
 unfold Ge;obtain⟨z,hz⟩:=qD ((Cs es i).toNat / 2 ^ k);rw[<-hz]at h9 |-;omega
theorem S8(es:List Ed)(k i:Nat):2*Ge es (k+1) i<=Ge es k i/\Ge es k i<=2*Ge es (k+1) i+1:=by
 have h:(Cs es i).toNat / 2 ^ (k+1)=((Cs es i).toNat / 2 ^ k) / 2:=by rw[Nat.pow_succ,Nat.div_div_eq_div_mul]
 unfold Ge;rw[h];obtain⟨z,hz⟩:=qD ((Cs es i).toNat / 2 ^ k);rw[<-hz];omega
theorem Aar{N:Int}{es:List Ed}(h:CA N es=true):∀i,i<es.length->Ge es 0 i=Cs es i:=fun i hi=>by
 have h7:=P5 h 0 i hi;unfold Ge at h7 |-;rw[Nat.pow_zero,Nat.div_one]at h7 |-;omega
theorem P6{N:Int}{es:List Ed}(h:CA N es=true):∀i,i<es.length->0<=Cs es i/\Cs es i<=4503599627370496:=fun i hi=>by
 obtain⟨e,he⟩:=AE (h:=hi);have h8:=Fb ((CS h).2.2.2.1 e (qac he));unfold Cs;rw[Bv he];omega
theorem NQ{g:Gr}{cap cap' x p:Nat->Int}(h:Fine g cap x p)(hc:∀i,i<g.E->cap' i=cap i):Fine g cap' x p:=by
 refine⟨fun i hi=>by rw[hc i hi];exact h.in' i hi,fun a ha hr=>h.fit a ha ?_⟩;unfold CI at hr |-;rw[hc _ (by omega)]at hr;exact hr
theorem YW{g:Gr}{x:Nat->Int}(hx:∀i,i<g.E->0<=x i/\x i<=4503599627370496)(v:Nat)(hE:g.E<=200:=by omega): -900719925474099200<=BK g x v/\BK g x v<=900719925474099200:=by
 have h:=Le (g:=g) (x:=x) (c:=4503599627370496) v (k:=g.E) hx;have h2:(g.E:Int)*4503599627370496<=200*4503599627370496:=by omega
 unfold BK;omega
def Ka(c c':Nat->Int)(i j:Nat):Int:=if j<i then c' j else c j
def flW(g:Gr)(c' x p:Nat->Int)(i j:Nat):Int:=if j<i then Kw g c' x p j else x j
theorem YX{c c':Nat->Int}{i j:Nat}(h:j≠i):Ka c c' (i+1) j=Ka c c' i j:=by unfold Ka;split <;> split <;> first|rfl|omega
theorem Afm{g:Gr}{c' x p:Nat->Int}{i j:Nat}(h:j≠i):flW g c' x p (i+1) j=flW g c' x p i j:=by unfold flW;split <;> split <;> first|rfl|omega
abbrev FL(bf bo n N:Nat)(x ov:Nat->Int)(ae:Option Addr)(full:List Value):List (Nat × Obj):=(bf,Bl 2 (BZ x n))::(bo,Bl 2 (BZ ov N))::ent ae 158 full
theorem Afn{w:World}{bs:Nat}{N:Nat}{ae aw:Option Addr}{ce cw bf bp bo k:Nat}{kk:Int}{es:List Ed}{c x p ov:Nat->Int}{full:List Value}(H0:Ctx w ((FL bf bo es.length N x ov ae full).map (·.1)) w (FL bf bo es.length N x ov ae full))(O:OS ae es.length ce 4 full ((esC es c).flatMap CO))(hs:w.heap[bs]?=some (Bl 217 (SC N ae es.length ce bf bp bo kk)))(hbs:bs∉(FL bf bo es.length N x ov ae full).map (·.1))(hp:w.heap[bp]?=some (Bl 2 (BZ p N)))(hbp:bp∉(FL bf bo es.length N x ov ae full).map (·.1))(Rw:Rd w aw 4 CO es)(hRw:es≠[]->(adr aw).block∉(FL bf bo es.length N x ov ae full).map (·.1))(hr:CA (N:Int) es=true)(hc:∀i,i<es.length->2*c i<=Ge es k i/\Ge es k i<=2*c i+1)(hF:Fine (grE (N:Int) es) c x p)(hx0:∀v,v<N->BK (grE (N:Int) es) x v=0)(hov:∀v,v<N->ov v=0)(hpb:∀v,v<N -> -1073741824<=p v/\p v<=1073741824)(hk:k<=64:=by omega):
  Ret prog 144 #[ptr bs,Eo (N:Int) aw es.length cw,.int .i64 (k:Int)] w fun v w'=>v=.tuple #[]/\∃full',OS ae es.length ce 4 full' ((esC es (Ge es k)).flatMap CO) /\
   Ctx w ((FL bf bo es.length N x ov ae full).map (·.1)) w' (FL bf bo es.length N (Kw (grE (N:Int) es) (Ge es k) x p) (BK (grE (N:Int) es) (Kw (grE (N:Int) es) (Ge es k) x p)) ae full'):=by
 obtain⟨w0,rfl⟩:=qD w;obtain⟨ids,hids⟩:=qD ((FL bf bo es.length N x ov ae full).map (·.1));rw[<-hids]at H0 hbs hbp hRw |-;have H:=H0;obtain⟨hN1,hN40,hn200,hall,-⟩:=CS hr;obtain⟨g,hg⟩:=qD (grE (N:Int) es);obtain⟨c',hc'⟩:∃c',c'=Ge es k:=⟨_,rfl⟩;have hgE:g.E=es.length:=by rw[hg];rfl
 have hgo:g.Ok:=by rw[hg];exact Li hr
 have hin:=P5 hr k;have hcb:=P6 hr;rw[<-hg]at hF hx0 |-;rw[<-hc']at hc hin |-;have hF2:=Q6 hF (cap':=c') (fun i hi=>hc i (by rw[<-hgE];exact hi))
 have hxb:∀i,i<es.length->0<=x i/\2*x i<=c' i/\c' i<=4503599627370496:=fun i hi=>by
  have h1:=hF.in' i (by rw[hgE];exact hi);have h2:=hc i hi;have h3:=hin i hi;have h4:=hcb i hi;omega
 have hmix:∀i v,-900719925474099200<=BK g (Jk g c' x p i) v/\BK g (Jk g c' x p i) v<=900719925474099200:=fun i v=>YW (fun j hj=>by
  have h1:=hxb j (by rw[<-hgE];exact hj);have h2:=hF2.in' j hj;unfold Jk
  split <;> omega) v
 refine Au (fn:=f144) func144 U [.pointer (some ⟨bs,0,none⟩),Eo (N:Int) aw es.length cw,.int .i64 (k:Int)] U ?_;refine Ae (Bu [.int .i64 (N:Int),.slice aw es.length cw] (.agg _) U U H ?_);rintro b4 w - H;refine qA (Ae (A4 U (A9 U (Ah Ff U (Bb BU U ((by rw[Aj (H.ext.to hs hbs)];rfl)) ?_)))));refine Be Bf U (Af U (qA (A1 (Bw 21778071482940061661655974875633165517248 (α:=Nat × List Value) (fun t=>[(14,.int .i64 (t.1:Int))]) (fun t w'=>t.1<=es.length/\OS ae es.length ce 4 t.2 ((esC es (Ka c c' t.1)).flatMap CO)/\Ctx w0 ids w' ((b4,Bl 123 [.int .i64 (N:Int),.slice aw es.length cw])::FL bf bo es.length N (flW g c' x p t.1) (BK g (Jk g c' x p t.1)) ae t.2)) (fun t=>es.length - t.1) (0,full) U ?_ ?_ ?_))))
 .exact⟨rfl,trivial⟩
 .refine⟨qaq _,?_,?_⟩
  .rw[LD (d:=c) fun i _=>by unfold Ka;rw[if_neg (qbd _)]];exact O
  .have e1:BZ (flW g c' x p 0) es.length=BZ x es.length:=qbo fun i _=>by unfold flW;rw[if_neg (qbd _)]
   have e2:BZ (BK g (Jk g c' x p 0)) N=BZ ov N:=qbo fun v hv=>by
    have hv:=qa5.1 hv;rw[Aey (hx0 v hv),hov v hv]
   dsimp only[FL];rw[e1,e2];exact H
 .rintro⟨i,full1⟩ j w ⟨hi,O,H⟩;dsimp only at hi O H;dsimp only;refine Ae (Bm U U (qA (Ax (Aw _ U ?_ ?_))))
  .intro h1;replace h1:=AM h1;have hil:i<es.length:=by omega
   obtain⟨e,he⟩:=AE (h:=hil);have hee:=Fb (hall e (qac he));obtain⟨un,hun⟩:∃un:Nat,e.f=un:=⟨e.f.toNat,by omega⟩;obtain⟨vn,hvn⟩:∃vn:Nat,e.t=vn:=⟨e.t.toNat,by omega⟩;obtain⟨cc,hcc⟩:∃cc:Nat,e.cap=cc:=⟨e.cap.toNat,by omega⟩;have hgf:g.f i=un:=by rw[hg];show(es.getD i e0).f.toNat=un;rw[Bv he,hun];rfl
   have hgt:g.t i=vn:=by rw[hg];show(es.getD i e0).t.toNat=vn;rw[Bv he,hvn];rfl
   have hgc:g.co i=e.cost:=by rw[hg];show(es.getD i e0).cost=_;rw[Bv he]
   have hck:c' i=((cc / 2 ^ k:Nat):Int):=by
    rw[hc'];unfold Ge Cs;rw[Bv he,hcc];rfl
   have hunN:un<N:=by omega
   have hvnN:vn<N:=by omega
   obtain⟨q,rfl⟩:=O.form (by omega);have hxi:=hxb i hil;obtain⟨xi,hxie⟩:=qD (x i);obtain⟨ck,hcke⟩:=qD (c' i);rw[<-hxie,<-hcke]at hxi;rw[<-hcke]at hck;have hgx:(tab (flW g c' x p i) es.length)[i]?=some xi:=by rw[BW hil,hxie];unfold flW;rw[if_neg (Nat.lt_irrefl _)]
   have hcap2:(CO e)[2]?=some (.int .i64 (cc:Int)):=by unfold CO;rw[hcc];rfl
   have hes:es≠[]:=fun h=>by rw[h]at he;cases he
   have hqn:=O.le;have hOl:=O.len;refine Ay (Aa (Ax (A1 (Ae (Af U (Ad U (qA (Ae (A4 U (A9 U ?_))))))))));refine Ah Hm U (Ah CL U (Bb DM U ((by rw[Aj (H.ext.to hs hbs)];rfl)) ?_));refine Af U (Bp CF CG U U ?_);refine Cn U (qA (Ae (A4 U (A9 U (Ah Ff U (Bb BU U ((by rw[Aj (H.ext.to hs hbs)];rfl)) ?_))))));refine Af U (Bp Bf BD U U ?_);refine Bb B4 U (((CB (H.get at1)).fld hgx U (j:=0) U)) (D0 U U ?_);refine Bp Bf BD U U (Cl i (fun z => .int .i64 (if z=i then xi*2 else flW g c' x p i z)) (.int _ _) BD U U U H at1 (by simp) (hk:=hil) (by rw[if_pos rfl]) (fun z _ hz=>by rw[if_neg hz]) ?_);rintro w H;refine qA (Ae (A4 U (Ah CL U (AG DM U H at0 U (Af U (Bg Rw CF CG U U (by rfl) ?_))))))
   refine Ah EE U (Bb B4 U (((Rw.ext H.ext (hRw hes)).fld he U (j:=2) hcap2)) ?_);refine Af U (JK (a:=cc) (n:=k) U U U ?_);rw[<-hck];refine A9 U (Ah EE U (Cb (.int _ _) BD U U U H at3 (by omega) ?_));rintro w H;refine qA ?_;rw[show 0+((i:Int)).toNat*4+2=i*4+2 by omega]at H;have O1:=OS.setf O (y:=edC es (Ka c c' (i+1)) i) (j:=2) (v := .int .i64 ck) (fun _=>rfl) (JZ (c:=Ka c c' i) hil) (by decide) (by unfold edC CO Ka;dsimp only;rw[if_pos (by omega),<-hcke];rfl);rw[YU rfl (fun j _ hj=>YX hj)]at O1;obtain⟨full2,hf2⟩:=qD (full1.set (i*4+2) (.int .i64 ck));rw[<-hf2]at O1;replace H:Ctx w0 ids w ((b4,Bl 123 [.int .i64 (N:Int),.slice aw es.length cw])::(bf,Bl 2 (BZ (fun z=>if z=i then xi*2 else flW g c' x p i z) es.length))::(bo,Bl 2 (BZ (BK g (Jk g c' x p i)) N))::[(q,Bl 158 full2)]):=by rw[hf2];exact H
   have hrow:=JZ (c:=Ka c c' (i+1)) hil
   have henc:CO (edC es (Ka c c' (i+1)) i)=[.int .i64 (un:Int),.int .i64 (vn:Int),.int .i64 ck,.int .i64 e.cost]:=by
    unfold edC CO Ka;rw[Bv he];dsimp only;rw[if_pos (by omega),hun,hvn,<-hcke]
   have hfin:Kw g c' x p i=if 2*xi<ck/\e.cost+p un - p vn<0 then ck else 2*xi:=by
    unfold Kw;rw[hgc,hgf,hgt,<-hxie,<-hcke]
   have hms:=fun v=>Aez (g:=g) (cap':=c') (x:=x) (p:=p) (k:=i) v;rw[hgf,hgt,<-hxie]at hms;obtain⟨pu,hpu⟩:=qD (p un);obtain⟨pv,hpv⟩:=qD (p vn);have hpbu:=hpb un hunN;have hpbv:=hpb vn hvnN;rw[<-hpu]at hpbu hfin;rw[<-hpv]at hpbv hfin;have hgpu:(tab p N)[un]?=some pu:=by rw[BW hunN,hpu]
   have hgpv:(tab p N)[vn]?=some pv:=by rw[BW hvnN,hpv]
   have hgx2:(tab (fun z=>if z=i then xi*2 else flW g c' x p i z) es.length)[i]?=some (xi*2):=by rw[BW hil,if_pos rfl]
   have RP:=CB hp;have hRE:∀{z:World},z.heap[q]?=some (Bl 158 full2)->Rd z (some ⟨q,0,none⟩) 4 CO (esC es (Ka c c' (i+1))):=fun h=>O1.rd (t:=158) (fun y hy=>by have hy:=qab.1 hy;rw[hy];exact h) (fun _ _=>rfl) (by decide);have RE:=hRE (H.drew.get at3);refine DV 38685626227650541404553216 (α:=Unit) (fun _=>[(84,.bool (decide (xi*2<ck/\e.cost+pu - pv<0)))]) (fun _ w'=>Ctx w0 ids w' ((b4,Bl 123 [.int .i64 (N:Int),.slice aw es.length cw])::(bf,Bl 2 (BZ (fun z=>if z=i then xi*2 else flW g c' x p i z) es.length))::(bo,Bl 2 (BZ (BK g (Jk g c' x p i)) N))::[(q,Bl 158 full2)])) U ?_ ?_
   .skip
    refine Ym (fun x=>x=_) Br U ?_;refine BE U (AZ U (A6 Ff U (BX BU U (by rintro _ rfl;exact((by rw[Aj (H.drew.ext.to hs hbs)];rfl))) ?_)));refine AX U (Bi Bf BD U U ?_);refine BX B4 U (by rintro _ rfl;exact(((CB (H.drew.get at1)).fld hgx2 rfl (j:=0) rfl))) ?_;refine BE U (AZ U (A6 EE U (BX B4 U (by rintro _ rfl;exact((RE.fld hrow rfl (j:=2) (by rw[henc];rfl)))) ?_)));refine LO U U (CW U (DK 56 U ?_ ?_))
    .intro h1;replace h1:=AM h1;refine BE U (AZ U (A6 GD U (BX B4 U (by rintro _ rfl;exact((RE.fld hrow rfl (j:=3) (by rw[henc];rfl)))) ?_)));refine BE U (AZ U (A6 Fg U (BX BU U (by rintro _ rfl;exact((by rw[Aj (H.drew.ext.to hs hbs)];rfl))) ?_)));refine BE U (AZ U (A6 F5 U (BX Cc U (by rintro _ rfl;exact((RE.fld hrow rfl (j:=0) (by rw[henc];rfl)))) ?_)));refine Bi Bf BD U U ?_;refine BX B4 U (by rintro _ rfl;exact(((RP.ext H.drew.ext hbp).fld hgpu rfl (j:=0) rfl))) ?_;refine D4 U U ?_;refine BE U (AZ U (A6 Fg U (BX BU U (by rintro _ rfl;exact((by rw[Aj (H.drew.ext.to hs hbs)];rfl))) ?_)));refine BE U (AZ U (A6 F6 U (BX Cc U (by rintro _ rfl;exact((RE.fld hrow rfl (j:=1) (by rw[henc];rfl)))) ?_)));refine Bi Bf BD U U ?_
     refine BX B4 U (by rintro _ rfl;exact(((RP.ext H.drew.ext hbp).fld hgpv rfl (j:=0) rfl))) ?_;refine EA U U (LO U U (IQ U (.bool _) U (BS ?_)));rintro _ rfl;replace H:=H.drew;refine Aa ?_;exact⟨(),rfl,⟨qaa Value.bool (by clear hgx hgx2 hgpu hgpv hcke hxie hpu hpv hms hmix hxb hfin henc hrow hgf hgt hgc;rw[qad];simp_all;try omega),trivial⟩,H⟩
    .intro h2;replace h2:=AN h2;refine A3 U (A3 U (A3 U (A3 U (A3 U (A3 U (A3 U (A3 U (A3 U (A3 U ?_)))))))));refine A3 U (A3 U (A3 U (A3 U (A3 U (A3 U (A3 U (A3 U (A3 U (A3 U ?_)))))))));refine A3 U (A3 U (A3 U (A3 U (A3 U (A3 U (A3 U (Gh U (.bool _) U (BS ?_))))))));rintro _ rfl;replace H:=H.drew;refine Aa ?_;exact⟨(),rfl,⟨qaa Value.bool (by clear hgx hgx2 hgpu hgpv hcke hxie hpu hpv hms hmix hxb hfin henc hrow hgf hgt hgc;rw[qad];simp_all;try omega),trivial⟩,H⟩
   .rintro - j6 w H;refine Aw _ U ?_ ?_
    .intro h2;have h2:=qba h2;rw[if_pos ⟨by omega,h2.2⟩]at hfin;have ob1:=hmix i un;have ob2:=hmix i vn;have ob3:=hmix (i+1) un;have ob4:=hmix (i+1) vn;obtain⟨ov1,hov1⟩:=qD (BK g (Jk g c' x p i));have hgo2:(tab ov1 N)[vn]?=some (ov1 vn):=BW hvnN;have hgo1:(tab (upd ov1 vn (ov1 vn+(ck - xi*2))) N)[un]?=some (upd ov1 vn (ov1 vn+(ck - xi*2)) un):=BW hunN;rw[<-hov1]at ob1 ob2 H;rw[hms,hfin,<-hov1]at ob3 ob4
     have ob5:upd ov1 vn (ov1 vn+(ck - xi*2)) un=ov1 un+(ck - xi*2)*one (vn=un):=by
      by_cases e:un=vn
      .rw[e,Dw,GF rfl];omega
      .rw[E6 e,Gd (Ne.symm e)];omega
     have ob6:∀u,one (vn=u)=0\/one (vn=u)=1:=fun u=>by unfold one;split <;> omega
     have ob7:=ob6 un
     have ob8 : -1801439850948198400<=upd ov1 vn (ov1 vn+(ck - xi*2)) un/\upd ov1 vn (ov1 vn+(ck - xi*2)) un<=1801439850948198400:=by
      rw[ob5]
      rcases ob7 with h|h <;> rw[h] <;> omega
     refine DT (fun x=>x=_) Br U ?_;refine BE U (AZ U (A6 EE U (BX B4 U (by rintro _ rfl;exact(((hRE (H.drew.get at3)).fld hrow rfl (j:=2) (by rw[henc];rfl)))) ?_)));refine BE U (AZ U (A6 Ff U (BX BU U (by rintro _ rfl;exact((by rw[Aj (H.drew.ext.to hs hbs)];rfl))) ?_)));refine AX U (Bi Bf BD U U ?_);refine BX B4 U (by rintro _ rfl;exact(((CB (H.drew.get at1)).fld hgx2 rfl (j:=0) rfl))) ?_;refine EA U U (Dv U (BS ?_));rintro _ rfl;replace H:=H.drew;refine Ae (A4 U (A9 U (Ah Ff U (Bb BU U ((by rw[Aj (H.ext.to hs hbs)];rfl)) ?_))));refine Af U (Bp Bf BD U U ?_);refine Bb B4 U (((CB (H.get at1)).fld hgx2 U (j:=0) U)) (Af U (Az U U ?_));refine Bp Bf BD U U ?_
     refine Cl i (fun z => .int .i64 (if z=i then ck else flW g c' x p i z)) (.int _ _) BD U U U H at1 (by simp) (hk:=hil) (by rw[if_pos rfl];congr 1;omega) (fun z _ hz=>by dsimp only;rw[if_neg hz,if_neg hz]) ?_;rintro w H;refine qA (Ej 13 Br U U ?_);refine BE U (AZ U (A6 Hn U (BX BU U (by rintro _ rfl;exact((by rw[Aj (H.drew.ext.to hs hbs)];rfl))) ?_)));refine BE U (AZ U (A6 F6 U (BX Cc U (by rintro _ rfl;exact(((hRE (H.drew.get at3)).fld hrow rfl (j:=1) (by rw[henc];rfl)))) ?_)));refine Bi Bf BD U U ?_;refine BX B4 U (by rintro _ rfl;exact(((CB (H.drew.get at2)).fld hgo2 rfl (j:=0) rfl))) ?_;refine AX U (D4 U U ?_);refine Bi Bf BD U U (BS ?_);replace H:=H.drew
     refine Cl vn (fun z => .int .i64 (upd ov1 vn (ov1 vn+(ck - xi*2)) z)) (.int _ _) BD U U U H at2 (by simp) (hk:=hvnN) (by rw[Dw]) (fun z _ hz=>by rw[E6 hz]) ?_;rintro w H;refine qA (Gm 13 Br U U ?_);refine BE U (AZ U (A6 Hn U (BX BU U (by rintro _ rfl;exact((by rw[Aj (H.drew.ext.to hs hbs)];rfl))) ?_)));refine BE U (AZ U (A6 F5 U (BX Cc U (by rintro _ rfl;exact(((hRE (H.drew.get at3)).fld hrow rfl (j:=0) (by rw[henc];rfl)))) ?_)));refine Bi Bf BD U U ?_;refine BX B4 U (by rintro _ rfl;exact(((CB (H.drew.get at2)).fld hgo1 rfl (j:=0) rfl))) ?_;refine AX U (EA U U ?_);refine Bi Bf BD U U (BS ?_);replace H:=H.drew
     refine Cl un (fun z => .int .i64 (upd (upd ov1 vn (ov1 vn+(ck - xi*2))) un (upd ov1 vn (ov1 vn+(ck - xi*2)) un - (ck - xi*2)) z)) (.int _ _) BD U U U H at2 (by simp) (hk:=hunN) (by rw[Dw]) (fun z _ hz=>by rw[E6 hz]) ?_;rintro w H;refine Ab (A8 (Aa (A0 (Az U U ?_))));refine Af U (qA ?_)
     have e1:BZ (fun z=>if z=i then ck else flW g c' x p i z) es.length=BZ (flW g c' x p (i+1)) es.length:=qbo fun z _=>by
      dsimp only
      by_cases e:z=i
      .subst e;rw[if_pos rfl];unfold flW;rw[if_pos (by omega),hfin]
      .rw[if_neg e,Afm e]
     have e2:BZ (upd (upd ov1 vn (ov1 vn+(ck - xi*2))) un (upd ov1 vn (ov1 vn+(ck - xi*2)) un - (ck - xi*2))) N=BZ (BK g (Jk g c' x p (i+1))) N:=qbo fun z _=>by
      congr 1
      rw[hms,hfin,<-hov1]
      by_cases e:z=un
      .subst e;rw[Dw,ob5,GF rfl]
       rcases ob7 with h|h <;> rw[h] <;> omega
      .rw[E6 e,Gd (p:=un=z) (Ne.symm e)]
       by_cases e3:z=vn
       .subst e3;rw[Dw,GF rfl];omega
       .rw[E6 e3,Gd (Ne.symm e3)];omega
     refine⟨(i+1,full2),rfl,⟨rfl,trivial⟩,⟨by dsimp only;omega,O1,?_⟩,by dsimp only;omega⟩;dsimp only[FL];rw[<-e1,<-e2];exact H
    .intro h2;have h2:=qbn h2;rw[if_neg (fun h=>h2 ⟨by omega,h.2⟩)]at hfin;refine Ay (A8 (Aa (A0 (Az U U ?_))));refine Af U (qA ?_)
     have e1:BZ (fun z=>if z=i then xi*2 else flW g c' x p i z) es.length=BZ (flW g c' x p (i+1)) es.length:=qbo fun z _=>by
      dsimp only
      by_cases e:z=i
      .subst e;rw[if_pos rfl];unfold flW;rw[if_pos (by omega),hfin];congr 1;omega
      .rw[if_neg e,Afm e]
     have e2:BZ (BK g (Jk g c' x p i)) N=BZ (BK g (Jk g c' x p (i+1))) N:=qbo fun z _=>by
      congr 1
      rw[hms,hfin,Int.sub_self,Int.zero_mul,Int.add_zero]
     refine⟨(i+1,full2),rfl,⟨rfl,trivial⟩,⟨by dsimp only;omega,O1,?_⟩,by dsimp only;omega⟩;dsimp only[FL];rw[<-e1,<-e2];exact H
  .intro h1;replace h1:=AN h1;refine Bt (An (An (AK (CV U U ?_))));obtain rfl:i=es.length:=by omega
   rw[LD (d:=c') fun i hi=>by unfold Ka;rw[if_pos hi]]at O
   have e1:BZ (flW g c' x p es.length) es.length=BZ (Kw g c' x p) es.length:=qbo fun z hz=>by
    unfold flW;rw[if_pos (qa5.1 hz)]
   have e2:BZ (BK g (Jk g c' x p es.length)) N=BZ (BK g (Kw g c' x p)) N:=qbo fun z _=>by
    congr 1
    refine Mr (fun i hi=>?_) z;rw[<-hgE];exact Ajc hi
   refine⟨rfl,full1,O,?_⟩;have H:=H.tail;dsimp only[FL]at H |-;rw[e1,e2]at H;exact H
section
variable {P:Program}{r:Option Nat}{ops rest:List Oper}{Q:Exit->Env->World->Prop}{e:Env}{w:World}{dst:Option Tmp}{ty:TypeId}{pos:String}{af:Array Edge}{gd:Option (Nat × Bool)}{t t2:TypeId}{x y:Operand}{a b:Int}
theorem OX(hg:AV ⟨dst,.binOp .add t x y t2,ty,pos,af,gd⟩ ops e=true)(hx:ev e x=.int .i64 a)(hy:ev e y=.int .i64 b)(h:∀z,A7 P r ops Q rest (put e dst (.int .i64 z)) w):A7 P r ops Q (⟨dst,.binOp .add t x y t2,ty,pos,af,gd⟩::rest) e w:=B7 (v := .int .i64 (IntKind.i64.wrap (a+b))) hg rfl (Ch hx hy (by simp[binOp,Op.intArith])) (h _)
theorem Aas{D1 D2:Nat}{ds:List Deferred}{K:World->Prop}(h2:w.heap[D2]?=some (.deferred (some [])))(h1:w.heap[D1]?=some (.deferred (some [])))(hne:D1≠D2)(hds:ds=[{ target := .collected D2,args:=#[] },{ target := .collected D1,args:=#[] }])(hK:∀wF,Ext [D2,D1] w wF->K wF):Marks ds w K:=by
 subst hds;have x2:=Ext.setB w D2 (.deferred none);have x1:=Ext.setB (w.putObj D2 (.deferred none)) D1 (.deferred none);refine⟨D2,rfl,h2,D1,rfl,x2.to h1 (by rw[qab];exact hne),hK _ ((x2.mono (by simp)).trans (x1.mono (by simp)))⟩
end
theorem Rd.map{α β:Type}{w:World}{a:Option Addr}{s:Nat}{enc:α->List Value}{f:β->α}{xs:List β}(R:Rd w a s (fun x=>enc (f x)) xs):Rd w a s enc (xs.map f):=by
 refine⟨fun h=>R.some' fun h'=>h (by rw[h'];rfl),fun i x hx j v hv hj=>?_⟩;rw[qa1]at hx;obtain⟨y,hy,rfl⟩:=qdf.1 hx;exact R.cell i y hy j v hv hj
def SA(g:Gr)(v:Nat)(l:List Nat):Nat:=l.foldl (fun _ a=>g.u a) v
theorem Aat{g:Gr}{v i a:Nat}{l:List Nat}(h:l[i]?=some a):SA g v (l.take (i+1))=g.u a:=by
 unfold SA;rw[Ee h,qdy];rfl
theorem SB{g:Gr}{cap x p:Nat->Int}{s:Lb}{by':Nat->Option Nat}(hB:Bys g cap x p s by'):∀{k v:Nat},s.d v ≠ -1->s.h v=k->SA g v (Ex by' g k v)=ON by' g k v
 |0,_,_,_=>rfl
 |k+1,v,hd,hk=>by
  obtain⟨a,h1,h2,h3⟩:=hB.2 v hd (by omega);have hh:=h2.h;rw[h3,hk]at hh;obtain⟨e1,e2⟩:=Ik (g:=g) (k:=k) h1;rw[e1,e2,<-SB hB h2.du (by omega)];rfl
theorem Aau{m:Int}{x:Nat->Int}{l:List Nat}{i a:Nat}(h:l[i]?=some a):FQ m x (l.take (i+1))=Jx m (FQ m x (l.take i)) a:=by
 unfold FQ;rw[Ee h,qdy];rfl
theorem OY{N:Int}{es:List Ed}{x p:Nat->Int}(hr:CA N es=true)(h:Fine (grE N es) (Cs es) x p):Cu N es (tab x es.length)=true:=by
 have h1:=Afl (c:=Cs es) (x:=x) hr (fun i hi=>by have:=P6 hr i hi;omega) (fun i hi=>h.in' i hi);rw[QG]at h1;exact h1
theorem Aj4{N:Nat}{p:Nat->Int}(hp:∀v,v<N -> -1073741824<=p v/\p v<=1073741824):GL (N:Int) (tab p N)=true:=by
 unfold GL;rw[Ds,qan rfl,qdu];refine qaw.2 fun x hx=>?_;obtain⟨i,hi⟩:=qdd hx;obtain⟨h1,rfl⟩:=Q8 hi;have:=hp i h1;unfold Pk;simp only[qae,qar];omega
theorem Ctx.ltI{w0 w:World}{S:List Nat}{L:List (Nat × Obj)}(H:Ctx w0 S w L):∀b∈L.map (·.1),b<w.heap.size:=fun b hb=>by
 obtain⟨y,hy,rfl⟩:=qah.1 hb;exact Bd (H.blk y hy)
theorem Hf{L L':List (Nat × Obj)}(h:(L++L').Pairwise (fun x y=>x.1≠y.1)){x:Nat × Obj}(hx:x∈L'):x.1∉L.map (·.1):=fun hm=>by
 obtain⟨y,hy,he⟩:=qah.1 hm;exact(qcd.1 h).2.2 y hy x hx he
theorem Aav{α:Type}{R:α->α->Prop}{l:List α}(h:l.Pairwise R){i:Nat}{a:α}(ha:l[i]?=some a):∀b∈l.take i,R b a:=fun b hb=>by
 rw[<-qbq i l]at h;exact(qcd.1 h).2.2 b hb a (qac (i:=0) (by rw[qct];exact ha))
theorem Aj5{N:Nat}{p:Nat->Int}(hpn:Fk (tab p N)=p)(hpb:∀v,v<N -> -1073741824<=p v/\p v<=1073741824)(v:Nat) : -1152921504606846976<=p v/\p v<=1152921504606846976:=by
 rcases qap v N with h|h
 .have:=hpb v h;omega
 .rw[<-hpn];unfold Fk;rw[qbu,qbi (by rw[Ds];exact h)];exact⟨by decide,by decide⟩
abbrev SL(bs bf bp bo:Nat)(N:Nat)(ae:Option Addr)(n ce:Nat)(k:Int)(x p ov:Nat->Int)(full:List Value):List (Nat × Obj) :=
 (bs,Bl 217 (SC N ae n ce bf bp bo k))::(bf,Bl 2 (BZ x n))::(bp,Bl 2 (BZ p N))::(bo,Bl 2 (BZ ov N))::ent ae 158 full
theorem Aqf{ov:Nat->Int}{N:Nat}:(∀v∈HD ov N,v<N)/\(HD ov N).Nodup/\∀v,v∈HD ov N↔v<N/\0<ov v:=by
 have h:∀v,v∈HD ov N↔v<N/\0<ov v:=fun v=>by unfold HD;rw[qbe,qa5,qar]
 exact⟨fun v hv=>((h v).1 hv).1,List.nodup_range.filter _,h⟩
def Afo(cap x:Nat->Int)(l:List Nat)(m:Int):Int:=l.foldl (fun m a=>min m (CI cap x a)) m
def QH(es:List Ed)(n:Nat)(x p ov:Nat->Int)(b:Bool)(x' p' ov':Nat->Int):Prop :=
 (HD ov n=[]/\b=false/\x'=x/\p'=p/\ov'=ov) \/
 (HD ov n≠[]/\b=true/\∃(s:Lb) (by':Nat->Int) (tv f0:Nat) (l:List Nat) (m:Int),Done (Nb (grE (n:Int) es) (Cs es) x p) (HD ov n) (grE (n:Int) es).N 2199023256552 s/\WaysX (grE (n:Int) es) (Cs es) x p s by'/\V4 ov s.d n (tv:Int)/\l=Ex (byO by') (grE (n:Int) es) (s.h tv) tv/\f0=SA (grE (n:Int) es) tv l /\
  m=min (Afo (Cs es) x l (-ov tv)) (ov f0)/\x'=FQ m x l/\p'=narF es n x' (fun v=>p v+Nf s.d (s.d tv) v)/\ov'=upd (upd ov f0 (ov f0 - m)) tv (ov tv+m))
theorem Lj{es:List Ed}{n:Nat}{x p ov:Nat->Int}{b b2:Bool}{x' p' ov' x2 p2 ov2:Nat->Int}(h:QH es n x p ov b x' p' ov')(k:QH es n x p ov b2 x2 p2 ov2):b=b2/\x'=x2/\p'=p2/\ov'=ov2:=by
 rcases h with⟨h0,rfl,rfl,rfl,rfl⟩|⟨h0,rfl,s,by',tv,f0,l,m,D,X,Z,rfl,rfl,rfl,rfl,rfl,rfl⟩
 .rcases k with⟨-,rfl,rfl,rfl,rfl⟩|⟨k0,-⟩
  .exact⟨rfl,rfl,rfl,rfl⟩
  .exact absurd h0 k0
 .rcases k with⟨k0,-⟩|⟨-,rfl,s2,by2,tv2,f2,l2,m2,D2,X2,Z2,rfl,rfl,rfl,rfl,rfl,rfl⟩
  .exact absurd k0 h0
  .obtain rfl:=Afd D D2 X.rlx X2.rlx;obtain rfl:=Aqd X X2;have ht:=Afg Z Z2;obtain rfl:tv=tv2:=by omega
   exact⟨rfl,rfl,rfl,rfl⟩
theorem Aj6{w:World}{bs bf bp bo:Nat}{N:Nat}{ae:Option Addr}{ce:Nat}{kk:Int}{es:List Ed}{x p ov:Nat->Int}{full:List Value}(H0:Ctx w ((SL bs bf bp bo N ae es.length ce kk x p ov full).map (·.1)) w (SL bs bf bp bo N ae es.length ce kk x p ov full))(O:OS ae es.length ce 4 full (es.flatMap CO))(hr:CA (N:Int) es=true)(hF:Fine (grE (N:Int) es) (Cs es) x p)(hov:∀v,v<N->ov v=BK (grE (N:Int) es) x v)(hpb:∀v,v<N -> -1073741824<=p v/\p v<=1073741824)(hxn:flE (tab x es.length)=x)(hpn:Fk (tab p N)=p) :
  Ret prog 145 #[ptr bs] w fun v w'=>∃(b:Bool) (x' p' ov':Nat->Int) (kk':Int),v=.bool b/\Ctx w ((SL bs bf bp bo N ae es.length ce kk x p ov full).map (·.1)) w' (SL bs bf bp bo N ae es.length ce kk' x' p' ov' full)/\Fine (grE (N:Int) es) (Cs es) x' p'/\(∀v,v<N->ov' v=BK (grE (N:Int) es) x' v)/\(∀v,v<N -> -1073741824<=p' v/\p' v<=1073741824) /\
   (b=false->∀v,v<N->BK (grE (N:Int) es) x' v<=0)/\(b=true->I3 (grE (N:Int) es) x'+1<=I3 (grE (N:Int) es) x)/\QH es N x p ov b x' p' ov':=by
 obtain⟨w0,rfl⟩:=qD w;obtain⟨ids,hids⟩:=qD ((SL bs bf bp bo N ae es.length ce kk x p ov full).map (·.1));rw[<-hids]at H0 |-;have H:=H0;obtain⟨hN1,hN40,hn200,hall,-⟩:=CS hr;have hI:I64 (N:Int):=by unfold I64;omega
 have hw:=OY hr hF;have hpot:=Aj4 hpb;have hfit:Ja (N:Int) es (tab x es.length) (tab p N)=true:=Ui hw hpot (by rw[hxn,hpn];exact hF);obtain⟨hsrc,hsnd,hsm⟩:=Aqf (ov:=ov) (N:=N);have hRe:∀{z:World},(∀y∈ent ae 158 full,z.heap[y.1]?=some y.2)->Rd z ae 4 CO es:=fun h=>O.rd h (fun _ _=>rfl) (by decide);obtain⟨g,hg⟩:=qD (grE (N:Int) es);have hgE:g.E=es.length:=by rw[hg];rfl
 have hgN:g.N=N:=by rw[hg];rfl
 have hgo:g.Ok:=by rw[hg];exact Li hr
 have hxb:=hF.in';rw[<-hg]at hF hov hxb |-;rw[hgE]at hxb;have hcb:=P6 hr
 have hovb:∀v,v<N -> -900719925474099200<=ov v/\ov v<=900719925474099200:=fun v hv=>by
  rw[hov v hv];exact YW (fun i hi=>by have h1:=hxb i (by omega);have h2:=hcb i (by omega);omega) v
 refine Ii (fn:=f145) func145 U [.pointer (some ⟨bs,0,none⟩)] U ?_;refine Ae (Bu _ (.pointer _) U U H ?_);rintro b1 w - H;refine Ai U (qA (Ae (AG EZ U H at0 U (Al qB (X5 (H.get at1) (H.get (k:=4) U)) U ?_))));rintro v w ⟨⟨fr,fn,fc,ff,rfl,Of,hbf⟩,hx14⟩;have hfn:=Of.num;subst hfn;have Rs:Rd w fr 1 I1 ((HD ov N).map fun v:Nat=>(v:Int)):=Rd.map (Of.rd1 (f:=iN) fun y hy=>(hbf y hy).1);replace H:=H.call hx14;refine Am U (qA (Ax (Ae (Ap U (Be E5 U (C3 U U (qA (Aw _ U ?_ ?_))))))))
 .intro h1;replace h1:=AM h1;refine Ae (Ai U (qA (A5 (Av (MJ (v:=(.bool _)) U U ?_)))));have hp0:HD ov N=[]:=qb0 (by omega);have H2:=H.tail;refine⟨false,x,p,ov,kk,rfl,H2,hF,hov,hpb,fun _ v hv=>?_,(fun h=>by cases h),.inl ⟨hp0,rfl,rfl,rfl,rfl⟩⟩;rw[<-hov v hv]
  rcases qcq 0 (ov v)with h|h
  .have:=(hsm v).2 ⟨hv,h⟩;rw[hp0]at this;cases this
  .exact h
 .intro h1;replace h1:=AN h1;have hs0:0<(HD ov N).length:=by omega
  refine Ay (Aa (Ck [([0,1,2,3,4,5,6,7,8,9,10,11,12],13),([14,15,16,17,18,19],20)] (fun z=>z.heap[b1]?=some (Bl 215 [ptr bs])/\z.heap[bs]?=some (Bl 217 (SC N ae es.length ce bf bp bo kk))) [] Br (⟨H.drew.get at0,H.drew.get at1⟩) ?_));refine AD U U (B0 EZ U (fun _ hx=>(by rw[Aj hx.1];rfl)) ?_);refine Ba U (Ao Hm U (G9 _ CE Ct U U (fun _ hx=>(J3 hx.2)) ?_));refine B0 EZ U (fun _ hx=>(by rw[Aj hx.1];rfl)) ?_;refine Ba U (Ao Ff U (B0 BU U (fun _ hx=>(by rw[Aj hx.2];rfl)) ?_));refine B0 EZ U (fun _ hx=>(by rw[Aj hx.1];rfl)) ?_;refine Ba U (Ao Fg U (B0 BU U (fun _ hx=>(by rw[Aj hx.2];rfl)) ?_));refine B3 U (AU ?_);replace H:=H.drew
  refine Al qB (Aj3 (N:Int) ae (some ⟨bf,0,none⟩) (some ⟨bp,0,none⟩) fr es.length ce es.length es.length N N fc es (tab x es.length) (tab p N) (HD ov N) _ (hRe fun y hy=>H.blk y (qaf [_,_,_,_,_] hy)) U hI (CB (H.get at2)) (Ds _ _) (CB (H.get at3)) (Ds _ _) (Rs.ext0 (Ext.drew [] _)) hfit hsrc hsnd hs0) U ?_;rintro rv w ⟨od,ob,s,by',hrv,DN,BY,hby,WX,H3⟩;rw[qbg]at hrv DN H3;subst hrv;replace H:=Ctx.back (L1:=[]) (L2:=_::_::_::_::_::_) H H3;refine Ab (BH (⟨H.get at2,H.get at3⟩) (AD U U ?_));refine DH U (Bs U U (Bs U U (Bs U U (EC U (EC U (AU (Ad U (Ab (BH (⟨H.get at2,H.get at3⟩) (BF ?_))))))))));refine Ax (Ae (Af U (CK U U (qA (Aw _ U ?_ ?_)))))
  .intro h2;replace h2:=CY h2;exact absurd h2 (by decide)
  .intro h2;replace h2:=CZ h2;have hlow:=DN.J.low;have hds:∀v,v∈HD ov N->s.d v=0/\s.h v=0:=fun v hv=>(DN.J.src' v hv).2;rw[<-hg,hxn,hpn]at DN BY WX;rw[<-hgN]at DN;refine Ay (Aa (Ae (AG EZ U H at2 U (Ap U (Al qB (X6 (H.get at3) (H.get at6) (H.get at0)) U ?_)))));rintro rv w ⟨⟨to,rfl,hto⟩,rfl⟩;refine Ad U (qA (Ax (Ae (Af U (Bm U U (qA (Aw _ U ?_ ?_)))))))
   .intro h3;replace h3:=AM h3;exfalso
    rcases hto with⟨h,h7⟩|⟨tv,_,h,-,-,-⟩
    .obtain⟨v0,hv0⟩:=AE (h:=hs0);have hm:=qac hv0;have h8:=(hsm v0).1 hm;obtain⟨z,hz1,hz2,hz3⟩:=reach hgo hF DN (v:=v0) (by omega) (by rw[(hds v0 hm).1];omega) (by rw[<-hov v0 h8.1];exact h8.2);rw[hgN]at hz1;exact h7 z hz1 ⟨by rw[hov z hz1];exact hz3,(hlow z).resolve_left hz2⟩
    .omega
   .intro h3;replace h3:=AN h3;have hnear:=hto
    obtain⟨tv,htv,rfl,hov0,hd0⟩:∃tv:Nat,tv<N/\to=tv/\ov tv<0/\0<=s.d tv:=by
     rcases hto with⟨h,_⟩|⟨q,h5,h6,h7,h8,-⟩
     .omega
     .exact⟨q,h5,h6,h7,h8⟩
    have hdt:s.d tv ≠ -1:=by omega
    have hovt:=hovb tv htv;have hgot:(tab ov N)[tv]?=some (ov tv):=BW htv;refine Ay (Aa (DV 4494803534349056 (α:=Nat × Nat) (fun z=>[(8,ptr z.1),(9,ptr z.2)]) (fun z w'=>Ctx w0 ids w' ((z.1,Bl 3 [.int .i64 (tv:Int)])::(z.2,Bl 2 [.int .i64 (-ov tv)])::(od,Bl 2 (BZ s.d N))::(ob,Bl 3 (BZ by' N))::(b1,Bl 215 [ptr bs])::SL bs bf bp bo N ae es.length ce kk x p ov full)) U ?_ ?_))
    .skip
     refine PM (.two [0,1,2,3,4,5,6,7,8] 9 (.one [] 10 (.one [] 11 (.one [] 12 .stop))) 10 (.one [] 9 (.one [] 11 (.one [] 12 .stop)))) (fun z=>z.heap[b1]?=some (Bl 215 [ptr bs])/\z.heap[bs]?=some (Bl 217 (SC N ae es.length ce bf bp bo kk))/\z.heap[bo]?=some (Bl 2 (BZ ov N))) Br (⟨H.drew.get at2,H.drew.get at3,H.drew.get at6⟩) ?_;refine Jf U U U (Bj U (B0 EZ U (fun _ hx=>(by rw[Aj hx.1];rfl)) ?_));refine Ba U (Ao Hn U (B0 BU U (fun _ hx=>(by rw[Aj hx.2.1];rfl)) ?_));refine Bj U (AP Bf BD U U ?_);refine B0 B4 U (fun _ hx=>((CB hx.2.2).fld hgot rfl (j:=0) rfl)) (ZN U U ?_);refine AU ?_;replace H:=H.drew;refine⟨?_,?_⟩
     .skip
      refine Bc Xx H ?_;rintro b8 w - H;refine Ab (BT (⟨H.get at3,H.get at4,H.get at7⟩) (BR U U ?_));refine AU (Bc Fh H ?_);rintro b9 w - H;refine Ab (BT (⟨H.get at4,H.get at5,H.get at8⟩) (BR U U ?_));refine AU (Cb (.int _ _) Gb U U U H at1 (by decide) ?_);rintro w H;refine Ab (BT (⟨H.get at4,H.get at5,H.get at8⟩) (BR U U ?_));refine AU (Cb (.int _ _) BD U U U H at0 (by decide) ?_);rintro w H;refine Ab (BT (⟨H.get at4,H.get at5,H.get at8⟩) (Ey ?_));refine Aa ?_;exact⟨(b8,b9),rfl,⟨rfl,rfl,trivial⟩,H.perm (List.Perm.swap ..)⟩
     .skip
      refine Bc Fh H ?_;rintro b9 w - H;refine Ab (BT (⟨H.get at3,H.get at4,H.get at7⟩) (BR U U ?_));refine AU (Bc Xx H ?_);rintro b8 w - H;refine Ab (BT (⟨H.get at4,H.get at5,H.get at8⟩) (BR U U ?_));refine AU (Cb (.int _ _) Gb U U U H at0 (by decide) ?_);rintro w H;refine Ab (BT (⟨H.get at4,H.get at5,H.get at8⟩) (BR U U ?_));refine AU (Cb (.int _ _) BD U U U H at1 (by decide) ?_);rintro w H;refine Ab (BT (⟨H.get at4,H.get at5,H.get at8⟩) (Ey ?_));refine Aa ?_;exact⟨(b8,b9),rfl,⟨rfl,rfl,trivial⟩,H⟩
    .rintro⟨b8,b9⟩ j w H;dsimp only at H;dsimp only;obtain⟨path,hpath⟩:=qD (Ex (byO by') g (s.h tv) tv);have BY':Bys g (Cs es) x p s (byO by'):=BY;obtain⟨q1,q2,q3,q4⟩:=LB BY' hdt rfl;have hpe:=Q5 BY' hdt rfl;have hwp:=SB BY' hdt rfl;rw[<-hpath]at q1 hpe hwp;have hsd0:=fun v=>DN.J.dist (by omega) (by omega) v;refine Ax (Ae (AG EZ U H at4 U (Ap U (Af U ?_))));have hlt:=Ctx.ltI H;have hwb0:=H.size;refine Al qB (V5 _ _ (some ⟨ob,0,none⟩) N N bs (tv:Int) _ U U) U ?_;rintro rv w ⟨b3,b4,b5,rfl,hb3,hb4,hb5,s3,s4,s5,n53,n54,hx55⟩;replace H:=H.call hx55;refine qA (A1 ?_);obtain⟨ws,rfl⟩:=qD w;have l3:=Bd hb3;have l4:=Bd hb4;have l5:=Bd hb5;have hwsz:=H.size;have h05:w0.heap.size<=b5:=qa6 hwb0 s5;have n8:=hlt b8 (qak ..);have n9:=hlt b9 (qaj _ (qak ..))
     refine UT (gf:=200) U qB (V7 (b3:=b3) (b4:=b4) (b5:=b5) (bs:=bs) (ob:=ob) (N:=N) (ae:=ae) (ce:=ce) (bf:=bf) (bp:=bp) (bo:=bo) (kk:=kk) (es:=es) (by':=by') (x:=x) (p:=p) (s:=s) hw (by rw[<-hg];exact BY') hby htv hdt U) (by kernel_rfl) (by kernel_rfl) (fun v hv=>by obtain⟨p,-,rfl⟩:=qah.1 hv;rfl)
      (fun i M w'=>(M=fun y=>y=b8\/y=b9)/\(∃mo:Int,Ctx w0 ids w' ((b8,Bl 3 [.int .i64 ((SA g tv (path.take i):Nat):Int)])::(b9,Bl 2 [.int .i64 (mo)])::(od,Bl 2 (BZ s.d N))::(ob,Bl 3 (BZ by' N))::(b1,Bl 215 [ptr bs])::SL bs bf bp bo N ae es.length ce kk (x) (p) (ov) full)/\0<mo/\mo <= -ov tv/\(∀a∈path.take i,mo<=CI (Cs es) x a)/\mo=Afo (Cs es) x (path.take i) (-ov tv))/\w'.heap[b3]?=some (Bl 215 [ptr bs])/\w'.heap[b4]?=some (Bl 235 [.slice (some ⟨ob,0,none⟩) N N]))
      (fun _=>False) (by simp only[qab];omega) (fun w2 hx2=>hx2.to hb5 (by simp))
      (fun w2 hx2 _=>⟨_,rfl,⟨-ov tv,H.call hx2,by omega,qa3 _,(fun a ha=>by cases ha),rfl⟩,hx2.to hb3 (by simp),hx2.to hb4 (by simp)⟩)
      (fun i M w' w'' hJ hx=>?_) (fun _ _ h _=>h) (fun i M w' hJ=>?_) ?_ ?_ (fun _ h _=>h.elim)
     .obtain⟨hM,⟨mo,HJ,m1,m2,m3,m4⟩,g3,g4⟩:=hJ;refine⟨hM,⟨mo,HJ.step hx (fun y hy=>?_) (fun z hz => .inr ?_),m1,m2,m3,m4⟩,hx.to g3 ?_,hx.to g4 ?_⟩
      .have h7:=qa4 (f:=(·.1)) hy;have:=hlt y.1 h7;simp only[qai,qau,or_false];omega
      .simp only[qai,qau,or_false]at hz;omega
      .simp only[qai,qau,or_false];omega
      .simp only[qai,qau,or_false];omega
     .obtain⟨hM,⟨mo,HJ,m1,m2,m3,m4⟩,g3,g4⟩:=hJ;refine⟨fun y hy=>?_,g4,g3,HJ.get at5,HJ.get at3,hRe fun y hy=>HJ.blk y (qaf [_,_,_,_,_,_,_,_,_] hy),?_⟩
      .rw[hM]at hy
       rcases hy with rfl|rfl
       .exact⟨Bd (HJ.get at0),by omega,by omega⟩
       .exact⟨Bd (HJ.get at1),by omega,by omega⟩
      .rw[hM];dsimp only;omega
     .rintro i v _ w hxv ⟨rfl,⟨mo,HJ,m1,m2,m3,m4⟩,g3,g4⟩ hsz;rw[<-hg,<-hpath,qa1]at hxv;obtain⟨a,ha,rfl⟩:=qdf.1 hxv;obtain⟨hWa,-⟩:=q1 a (qac ha);have hWlt:=hWa.lt;obtain⟨-,hR,-⟩:=QD hw (k:=a) (by omega);obtain⟨w1,rfl⟩:=qD w;refine Ae (Ad U (qA (A0 (Ad U (Ab ?_)))));refine⟨Ext.refl _ _,fun wB hxB=>?_⟩;have HB:=HJ.step hxB (fun y hy=>by have h7:=qa4 (f:=(·.1)) hy;have:=hlt y.1 h7;rw[qab];omega) (fun z hz => .inr (by rw[qab.1 hz];omega));have e3:=hxB.to g3 (by rw[qab];omega);have e4:=hxB.to g4 (by rw[qab];omega);have k1:=HB.get at4;have ks:=HB.get at5;have kf:=HB.get at6;have hn1:=Hf (L:=[_,_]) HB.nd (x:=(b1,_)) (qac (i:=2) rfl);have hns:=Hf (L:=[_,_]) HB.nd (x:=(bs,_)) (qac (i:=3) rfl)
      have hnf:=Hf (L:=[_,_]) HB.nd (x:=(bf,_)) (qac (i:=4) rfl);have hke:∀y∈ent ae 158 full,wB.heap[y.1]?=some y.2/\y.1∉[b8,b9]:=fun y hy=>⟨HB.blk y (qaf [_,_,_,_,_,_,_,_,_] hy),Hf (L:=[_,_]) HB.nd (qaf [_,_,_,_,_,_,_] hy)⟩;obtain⟨w2,rfl⟩:=qD wB;have H:=Ctx.lend (L1:=[_,_]) (L2:=_::_::_::_::_::_::_::_) HB;refine A1 (Ft [([0,1,2,3,4,5,6,7,8,9,10],11),([12],13),([],14)] (fun z=>z.heap[b9]?=some (Bl 2 [.int .i64 mo])/\z.heap[b1]?=some (Bl 215 [ptr bs])/\z.heap[bs]?=some (Bl 217 (SC N ae es.length ce bf bp bo kk))) [14] Br (⟨H.drew.get at1,H.drew.ext.to k1 hn1,H.drew.ext.to ks hns⟩) ?_);refine AD U U (Bj U (B0 B4 U (fun _ hx=>(by rw[Aj hx.1];rfl)) ?_));refine B0 EZ U (fun _ hx=>(by rw[Aj hx.2.1];rfl)) ?_;refine Ba U (Ao Hm U (G9 _ CE Ct U U (fun _ hx=>(J3 hx.2.2)) ?_))
      refine B0 EZ U (fun _ hx=>(by rw[Aj hx.2.1];rfl)) ?_;refine Ba U (Ao Ff U (B0 BU U (fun _ hx=>(by rw[Aj hx.2.2];rfl)) ?_));refine Bj U (AU ?_);replace H:=H.drew;refine Al qB (Uc (N:Int) ae (some ⟨bf,0,none⟩) es.length ce es.length es.length es (tab x es.length) _ (hRe fun y hy=>H.ext.to (hke y hy).1 (hke y hy).2) U hI (CB (H.ext.to kf hnf)) (Ds _ _) (a:Int)) U ?_;rintro v w ⟨rfl,hx69⟩;replace H:=H.call hx69;rw[hR];refine Ab (BH (⟨H.get at1,H.ext.to k1 hn1,H.ext.to ks hns⟩) (AD U U ?_));refine Acy U U U (AU (Cb (.int _ _) Gb U U U H at0 (by(simp;done)) ?_));rintro w H;refine Ab (BH (⟨H.get at1,H.ext.to k1 hn1,H.ext.to ks hns⟩) (AD U U ?_));refine AU (Cb (.int _ _) BD U U U H at1 (by(simp;done)) ?_);rintro w H;refine Ab (Bz U (BF (A8 ?_)));have hrm:=hWa.room;have HH:=Ctx.back (L1:=[_,_]) (L2:=_::_::_::_::_::_::_::_) HB H
      refine⟨_,⟨rfl,⟨min mo (CI (Cs es) x a),by rw[Aat ha];exact HH,by omega,by omega,fun a' ha'=>?_,by unfold Afo at m4 |-;rw[Ee ha,qdy,<-m4];rfl⟩,H.ext.to e3 (by simp only[qay,qcn,qai,qau,or_false];omega),H.ext.to e4 (by simp only[qay,qcn,qai,qau,or_false];omega)⟩,fun x hx => .inl hx,_,H.ext,fun x hx => .inl (by simpa using hx)⟩;rw[Ee ha]at ha'
      rcases qbc.1 ha' with h|h
      .have:=m3 a' h;omega
      .rw[qab.1 h];omega
     .rintro M w ⟨-,⟨mo,HJ,m1,m2,m3,m4⟩,-,-⟩ hD;have hxl:(List.map (Afk (grE (N:Int) es)) (Ex (byO by') (grE (N:Int) es) (s.h tv) tv)).length=path.length:=by rw[qal,<-hg,<-hpath]
      rw[hxl,qbm]at HJ m3 m4;obtain⟨f0,hf0⟩:=qD (SA g tv path);rw[<-hf0]at HJ hwp;rw[<-hwp]at q3 q4;have hf0s:=(hsm f0).1 (by have h7:=DN.J.zero f0 q3 q4;rw[hgN]at h7;exact h7);have hovf:=hovb f0 hf0s.1;have hgof:(tab ov N)[f0]?=some (ov f0):=BW hf0s.1;have H:=HJ.add hD (.inr hwsz) (fun y hy e=>by have h7:=qa4 (f:=(·.1)) hy;have:=hlt y.1 h7;omega);refine A8 (Aa (Ej 9 Br U U ?_));refine Cj B4 U (by rintro _ rfl;exact H.drew) at2 U ?_;refine Cj EZ U (by rintro _ rfl;exact H.drew) at5 U ?_;refine AZ U (A6 Hn U (Cj BU U (by rintro _ rfl;exact H.drew) at6 U ?_));refine Cj Cc U (by rintro _ rfl;exact H.drew) at1 U ?_;refine Bi Bf BD U U ?_;refine BX B4 U (by rintro _ rfl;exact(((CB (H.drew.get at9)).fld hgof rfl (j:=0) rfl))) ?_;refine Am0 U U U (BS ?_);replace H:=H.drew
      refine Cb (.int _ _) BD U U U H at2 (by(simp;done)) ?_;rintro w H;refine qA (Ax ?_);obtain⟨mm,hmm⟩:=qD (min mo (ov f0));rw[<-hmm]at H;have hmm0:0<mm/\mm<=ov f0/\mm <= -ov tv:=by omega
      refine Ae (AG EZ U H at5 U (Ap U (Af U ?_)));have hlt2:=Ctx.ltI H;have hwb2:=H.size;refine Al qB (V5 _ _ (some ⟨ob,0,none⟩) N N bs (tv:Int) _ U U) U ?_;rintro rv w ⟨c3,c4,c5,rfl,hc3,hc4,hc5,t3,t4,t5,nc53,nc54,hx83⟩;replace H:=H.call hx83;refine qA (A1 ?_);obtain⟨wt,rfl⟩:=qD w;have j3:=Bd hc3;have j4:=Bd hc4;have j5:=Bd hc5;have hwtz:=H.size;have nbf:=hlt2 bf (qac (i:=7) rfl)
      refine UT (gf:=200) U qB (V7 (b3:=c3) (b4:=c4) (b5:=c5) (bs:=bs) (ob:=ob) (N:=N) (ae:=ae) (ce:=ce) (bf:=bf) (bp:=bp) (bo:=bo) (kk:=kk) (es:=es) (by':=by') (x:=x) (p:=p) (s:=s) hw (by rw[<-hg];exact BY') hby htv hdt U) (by kernel_rfl) (by kernel_rfl) (fun v hv=>by obtain⟨p,-,rfl⟩:=qah.1 hv;rfl)
       (fun i M w'=>(M=fun y=>y=bf)/\Ctx w0 ids w' ((ws.heap.size,.deferred (some []))::((b8,Bl 3 [.int .i64 (f0:Int)])::(b9,Bl 2 [.int .i64 (mm)])::(od,Bl 2 (BZ s.d N))::(ob,Bl 3 (BZ by' N))::(b1,Bl 215 [ptr bs])::SL bs bf bp bo N ae es.length ce kk (FQ mm x (path.take i)) (p) (ov) full))/\w'.heap[c3]?=some (Bl 215 [ptr bs])/\w'.heap[c4]?=some (Bl 235 [.slice (some ⟨ob,0,none⟩) N N]))
       (fun _=>False) (by simp only[qab];omega) (fun w2 hx2=>hx2.to hc5 (by simp))
       (fun w2 hx2 _=>⟨_,rfl,H.call hx2,hx2.to hc3 (by simp),hx2.to hc4 (by simp)⟩)
       (fun i M w' w'' hJ hx=>?_) (fun _ _ h _=>h) (fun i M w' hJ=>?_) ?_ ?_ (fun _ h _=>h.elim)
      .obtain⟨hM,HJ,g3,g4⟩:=hJ;refine⟨hM,HJ.step hx (fun y hy=>?_) (fun z hz => .inr ?_),hx.to g3 ?_,hx.to g4 ?_⟩
       .have h7:=qa4 (f:=(·.1)) hy;have:=hlt2 y.1 h7;simp only[qai,qau,or_false];omega
       .simp only[qai,qau,or_false]at hz;omega
       .simp only[qai,qau,or_false];omega
       .simp only[qai,qau,or_false];omega
      .obtain⟨hM,HJ,g3,g4⟩:=hJ;refine⟨fun y hy=>?_,g4,g3,HJ.get at6,HJ.get at4,hRe fun y hy=>HJ.blk y (qaf [_,_,_,_,_,_,_,_,_,_] hy),?_⟩
       .rw[hM]at hy;rw[hy];exact⟨Bd (HJ.get at7),by omega,by omega⟩
       .rw[hM];dsimp only;omega
      .rintro i v _ w hxv ⟨rfl,HJ,g3,g4⟩ hsz;rw[<-hg,<-hpath,qa1]at hxv;obtain⟨a,ha,rfl⟩:=qdf.1 hxv;have ham:=qac ha;obtain⟨hWa,-⟩:=q1 a ham;have hWlt:=hWa.lt;have hai:a / 2<es.length:=by omega
       have hm4:=m3 a ham;have hcb2:=hcb (a / 2) hai;have hxb2:=hxb (a / 2) hai;have hxa:FQ mm x (path.take i) (a / 2)=x (a / 2):=JT fun b hb=>Aav hpe ha b hb;have hgxa:(tab (FQ mm x (path.take i)) es.length)[a / 2]?=some (x (a / 2)):=by rw[BW hai,hxa]
       have hsuc:∀z,FQ mm x (path.take (i+1)) z=if z=a / 2 then(if a % 2=0 then x (a / 2)+mm else x (a / 2) - mm)else FQ mm x (path.take i) z:=fun z=>by
        rw[Aau ha];unfold Jx
        by_cases e:z=a / 2
        .rw[if_pos e,if_pos e,e,hxa]
        .rw[if_neg e,if_neg e]
       have ha9:a<9223372036854775808:=by omega
       have hml:mm<=CI (Cs es) x a:=by omega
       obtain⟨w1,rfl⟩:=qD w;refine A0 (Ad U (Ab ?_));refine⟨Ext.refl _ _,fun wB hxB=>?_⟩;have HB:=HJ.step hxB (fun y hy=>by have h7:=qa4 (f:=(·.1)) hy;have:=hlt2 y.1 h7;rw[qab];omega) (fun z hz => .inr (by rw[qab.1 hz];omega));have e3:=hxB.to g3 (by rw[qab];omega);have e4:=hxB.to g4 (by rw[qab];omega);have HP:=HB.perm (qb1 (l₁:=[_,_,_,_,_,_,_]) (l₂:=_::_::_));have k1:=HP.get at6;have ks:=HP.get at7;have k9:=HP.get at3;have hn1:=Hf (L:=[_]) HP.nd (x:=(b1,_)) (qac (i:=5) rfl);have hns:=Hf (L:=[_]) HP.nd (x:=(bs,_)) (qac (i:=6) rfl);have hn9:=Hf (L:=[_]) HP.nd (x:=(b9,_)) (qac (i:=2) rfl);have hnc:bf≠c3/\bf≠c4:=by omega
       obtain⟨w2,rfl⟩:=qD wB;have H:=Ctx.lend (L1:=[_]) (L2:=_::_::_::_::_::_::_::_::_::_) HP;clear HJ g3 g4 hlt hlt2 m1 m2 m3 q1 hpe hwp hRe hall hxb hovb hsrc hsnd hsm hds hlow hto hfit hpot hw hov hpb DN BY BY' hby hd0 hovt hgot hgof hwb0 hwb2 hWa ham ha hxv hsz hxB hsd0 hcb q2 q3 q4 hF;refine A1 (Ae (Af U (Qd (a:=a) (b:=1) U U U ha9 (by decide) ?_)));rw[Nat.and_one_is_mod];refine C3 U U (qA (Aw _ U ?_ ?_))
       .intro hpar;replace hpar:=AM hpar;have hp2:a % 2=0:=by omega
        unfold CI at hml;rw[if_pos hp2]at hml;refine Ft [([0,1,2,3,4,5,6,7,8,9,10],11)] (fun z=>z.heap[b1]?=some (Bl 215 [ptr bs])/\z.heap[bs]?=some (Bl 217 (SC N ae es.length ce bf bp bo kk))/\z.heap[b9]?=some (Bl 2 [.int .i64 mm])/\z.heap[bf]?=some (Bl 2 (BZ (FQ mm x (path.take i)) es.length))) [11] Br (⟨H.drew.ext.to k1 hn1,H.drew.ext.to ks hns,H.drew.ext.to k9 hn9,H.drew.get at0⟩) ?_;refine AD U U (B0 EZ U (fun _ hx=>(by rw[Aj hx.1];rfl)) ?_);refine Ba U (Ao Ff U (B0 BU U (fun _ hx=>(by rw[Aj hx.2.1];rfl)) ?_));refine Bj U (Si (a:=a) (n:=1) U U U ?_);rw[Nat.pow_one];refine AP Bf BD U U ?_;refine B0 B4 U (fun _ hx=>((CB hx.2.2.2).fld hgxa rfl (j:=0) rfl)) (B0 B4 U (fun _ hx=>(by rw[Aj hx.2.2.1];rfl)) ?_);refine EB U U (AP Bf BD U U ?_)
        refine AU ?_;replace H:=H.drew;refine Cl (a / 2) (fun z => .int .i64 (FQ mm x (path.take (i+1)) z)) (.int _ _) BD U U U H at0 (by omega) (hk:=hai) (by rw[hsuc,if_pos rfl,if_pos hp2]) (fun z _ hz=>by(try dsimp only);rw[hsuc,if_neg hz]) ?_;rintro w H;refine Ab (Bz U (BF (A8 ?_)));have HH:=(Ctx.back (L1:=[_]) (L2:=_::_::_::_::_::_::_::_::_::_) HP H).perm (qb1 (l₁:=[_,_,_,_,_,_,_]) (l₂:=_::_::_)).symm;exact⟨_,⟨rfl,HH,H.ext.to e3 (by rw[qay,qcn,qab];exact Ne.symm hnc.1),H.ext.to e4 (by rw[qay,qcn,qab];exact Ne.symm hnc.2)⟩,fun x hx => .inl hx,_,H.ext,fun x hx => .inl (qab.1 hx)⟩
       .intro hpar;replace hpar:=AN hpar;have hp2:¬a % 2=0:=by omega
        unfold CI at hml;rw[if_neg hp2]at hml;refine Ft [([0,1,2,3,4,5,6,7,8,9,10],11)] (fun z=>z.heap[b1]?=some (Bl 215 [ptr bs])/\z.heap[bs]?=some (Bl 217 (SC N ae es.length ce bf bp bo kk))/\z.heap[b9]?=some (Bl 2 [.int .i64 mm])/\z.heap[bf]?=some (Bl 2 (BZ (FQ mm x (path.take i)) es.length))) [11] Br (⟨H.drew.ext.to k1 hn1,H.drew.ext.to ks hns,H.drew.ext.to k9 hn9,H.drew.get at0⟩) ?_;refine AD U U (B0 EZ U (fun _ hx=>(by rw[Aj hx.1];rfl)) ?_);refine Ba U (Ao Ff U (B0 BU U (fun _ hx=>(by rw[Aj hx.2.1];rfl)) ?_));refine Bj U (Si (a:=a) (n:=1) U U U ?_);rw[Nat.pow_one];refine AP Bf BD U U ?_;refine B0 B4 U (fun _ hx=>((CB hx.2.2.2).fld hgxa rfl (j:=0) rfl)) (B0 B4 U (fun _ hx=>(by rw[Aj hx.2.2.1];rfl)) ?_);refine Fq U U (AP Bf BD U U ?_)
        refine AU ?_;replace H:=H.drew;refine Cl (a / 2) (fun z => .int .i64 (FQ mm x (path.take (i+1)) z)) (.int _ _) BD U U U H at0 (by omega) (hk:=hai) (by rw[hsuc,if_pos rfl,if_neg hp2]) (fun z _ hz=>by(try dsimp only);rw[hsuc,if_neg hz]) ?_;rintro w H;refine Ab (Bz U (BF (A8 ?_)));have HH:=(Ctx.back (L1:=[_]) (L2:=_::_::_::_::_::_::_::_::_::_) HP H).perm (qb1 (l₁:=[_,_,_,_,_,_,_]) (l₂:=_::_::_)).symm;exact⟨_,⟨rfl,HH,H.ext.to e3 (by rw[qay,qcn,qab];exact Ne.symm hnc.1),H.ext.to e4 (by rw[qay,qcn,qab];exact Ne.symm hnc.2)⟩,fun x hx => .inl hx,_,H.ext,fun x hx => .inl (qab.1 hx)⟩
      .rintro M w ⟨-,HJ,-,-⟩ hD2;rw[hxl,qbm]at HJ;have H:=HJ.add hD2 (.inr hwtz) (fun y hy e=>by have h7:=qa4 (f:=(·.1)) hy;have:=hlt2 y.1 h7;omega);replace H:=H.erase 5;obtain⟨x',hx'⟩:∃x',x'=FQ mm x path:=⟨_,rfl⟩;rw[<-hx']at H;have FF:=Aae hF DN BY' hdt (m:=mm) (fun a ha=>by have:=m3 a (hpath ▸ ha);omega);rw[<-hpath,<-hx']at FF;have hov':∀z,BK g x' z=BK g x z+mm*(one (tv=z) - one (f0=z)):=fun z=>by rw[hx',hpath,hwp];exact OQ g mm BY' z x hdt rfl
       have hw':=OY hr (x:=x') (by rw[<-hg];exact FF);have hne:tv≠f0:=fun e=>by rw[e]at hov0;omega
       have hgo2:(tab (upd ov f0 (ov f0 - mm)) N)[tv]?=some (ov tv):=by rw[BW htv,E6 hne]
       have hgdt:(tab s.d N)[tv]?=some (s.d tv):=BW htv;have hsdt:=hsd0 tv;have hpf:=Aj5 hpn hpb
       have hne0:es≠[]->(adr ae).block≠bp:=fun h e=>by
        obtain⟨q,rfl⟩:=O.form (qb2.2 h);have h7:=X8 (L:=[_,_,_,_]) H0.nd (x:=(bp,_)) (qac (i:=2) rfl);exact h7 (by show bp∈[q];rw[qab];exact e.symm)
       have hex:=Aaf (g:=g) (x:=x) (x':=x') (u:=f0) (v:=tv) (m:=mm) (by rw[<-hov f0 hf0s.1];omega) (by rw[<-hov tv htv];omega) hov'
       have KEY:∀p',p'=narF es N x' (fun v=>p v+Nf s.d (s.d tv) v)->QH es N x p ov true x' p' (upd (upd ov f0 (ov f0 - mm)) tv (ov tv+mm)):=fun p' hp' =>
        .inr ⟨fun h=>by rw[h]at hs0;exact absurd hs0 (by decide),rfl,s,by',tv,f0,path,mm,by rw[<-hg,hgN];rw[hgN]at DN;exact DN,by rw[<-hg];exact WX,hnear,by rw[<-hg];exact hpath,by rw[<-hg];exact hf0,by rw[hmm,m4],hx',hp',rfl⟩
       refine A8 (Aa ?_);clear hlt hlt2 q1 hpe hall hxb hovb hsrc hsnd hsm hds hlow hto hfit hpot hw DN BY BY' hby hwb0 hwb2 hsd0 hcb q2 q3 q4 HJ;refine Ej 10 Br U U (Cj EZ U (by rintro _ rfl;exact H.drew) at5 U ?_);refine AZ U (A6 Hn U (Cj BU U (by rintro _ rfl;exact H.drew) at6 U ?_));refine Cj Cc U (by rintro _ rfl;exact H.drew) at2 U ?_;refine Bi Bf BD U U ?_;refine BX B4 U (by rintro _ rfl;exact(((CB (H.drew.get at9)).fld hgof rfl (j:=0) rfl))) ?_;refine Cj B4 U (by rintro _ rfl;exact H.drew) at3 U ?_;refine EA U U (Bi Bf BD U U ?_);refine BS ?_;replace H:=H.drew;refine Cl f0 (fun z => .int .i64 (upd ov f0 (ov f0 - mm) z)) (.int _ _) BD U U U H at9 (by simp) (hk:=hf0s.1) (by rw[Dw]) (fun z _ hz=>by(try dsimp only);rw[E6 hz]) ?_;rintro w H
       refine qA (Ej 10 Br U U ?_);refine Cj EZ U (by rintro _ rfl;exact H.drew) at5 U ?_;refine AZ U (A6 Hn U (Cj BU U (by rintro _ rfl;exact H.drew) at6 U ?_));refine AX U (Bi Bf BD U U ?_);refine BX B4 U (by rintro _ rfl;exact(((CB (H.drew.get at9)).fld hgo2 rfl (j:=0) rfl))) ?_;refine Cj B4 U (by rintro _ rfl;exact H.drew) at3 U ?_;refine D4 U U (Bi Bf BD U U ?_);refine BS ?_;replace H:=H.drew;refine Cl tv (fun z => .int .i64 (upd (upd ov f0 (ov f0 - mm)) tv (ov tv+mm) z)) (.int _ _) BD U U U H at9 (by simp) (hk:=htv) (by rw[Dw]) (fun z _ hz=>by(try dsimp only);rw[E6 hz]) ?_;rintro w H;refine qA (Ej 6 Br U U ?_);refine Cj EZ U (by rintro _ rfl;exact H.drew) at5 U ?_;refine Ca U (Ca U (AX U (Bi Bf BD U U ?_)))
       refine BX B4 U (by rintro _ rfl;exact(((CB (H.drew.get at4)).fld hgdt rfl (j:=0) rfl))) ?_;refine BS ?_;replace H:=H.drew;have Hp:=H.perm (qb1 (l₁:=[_,_,_,_,_,_,_,_]) (l₂:=_::_));refine Al qB (Afh (H.get at6) (H.get at8) (H.get at4) (H.ne at6 at8 (by decide)) (H.ne at4 at8 (by decide)) ⟨by omega,by omega⟩ hpf) U ?_;rintro rv w ⟨rfl,H2⟩;replace H:=Ctx.back (L1:=[_]) (L2:=_::_::_::_::_::_::_::_::_::_) Hp H2;refine qA (Ae (AG EZ U H at6 U (Al qB (Aao (H.get at7) (hRe fun y hy=>H.blk y (qaf [_,_,_,_,_,_,_,_,_,_] hy)) hne0 (H.get at8) (H.get at0) (H.ne at7 at0 (by decide)) (H.ne at8 at0 (by decide)) hw' (by rw[<-hg];exact FF)) U ?_)));rintro rv w ⟨rfl,p',hp',FF2,hpb',H2⟩;replace H:=Ctx.back (L1:=[_]) (L2:=_::_::_::_::_::_::_::_::_::_) H H2
       refine qA (Ae (AG EZ U H at6 U (A9 U (Ah Qv U (AG Cc U H at7 U (OX U U U ?_))))));intro kk2;refine A9 U (Ah Qv U (Cb (.int _ _) Gb U U U H at7 (by(simp;done)) ?_));rintro w H;refine qA (Ae (Ai U (qA (A5 (MJ (v:=(.bool _)) U U (Aas (H.get at1) (H.get at2) (H.ne at2 at1 (by decide)) U fun wF hxF=>?_))))));have HF:=(H.perm (qb1 (l₁:=[_,_,_,_,_,_,_,_]) (l₂:=_::_)).symm);rw[<-hg]at FF2;refine⟨true,x',p',upd (upd ov f0 (ov f0 - mm)) tv (ov tv+mm),kk2,rfl,(HF.drop 6).step hxF (fun y hy=>Hf (L:=[_,_]) HF.nd (qc7 (i:=4) hy)) (fun z hz => .inr ?_),FF2,fun z hz=>?_,hpb',(fun h=>by cases h),(fun _=>by omega),KEY p' hp'⟩
       .simp only[qai,qau,or_false]at hz;omega
       .rw[hov',<-hov z hz]
        by_cases e1:z=tv
        .subst e1;rw[Dw,GF rfl,Gd (Ne.symm hne)];omega
        .rw[E6 e1,Gd (Ne.symm e1)]
         by_cases e2:z=f0
         .subst e2;rw[Dw,GF rfl];omega
         .rw[E6 e2,Gd (Ne.symm e2)];omega
def QI:List UInt8:=[0]++List.replicate 1 1++List.replicate 2 2++List.replicate 4 3++List.replicate 8 4++List.replicate 16 5++List.replicate 32 6++List.replicate 64 7++List.replicate 128 8
theorem Aaw:∀i,i<256->∃b:UInt8,QI[i]?=some b/\i<2 ^ b.toNat/\b.toNat<=8/\(0<i->2 ^ b.toNat<=2*i):=fun i hi=>by
 have h:(List.range 256).all (fun i=>match QI[i]? with|some b=>decide (i<2 ^ b.toNat) && (decide (b.toNat<=8) && (decide (i=0) || decide (2 ^ b.toNat<=2*i)))|none=>false)=true:=by kernel_rfl
 have h1:=qaw.1 h i (qa5.2 hi)
 cases hb:QI[i]? with
 |none=>rw[hb]at h1;cases h1
 |some b =>
  rw[hb]at h1;simp only[qae,qbf,qar]at h1;exact⟨b,rfl,h1.1,h1.2.1,fun h=>h1.2.2.resolve_left (by omega)⟩
theorem X9{x k n:Nat}(h:x / 2 ^ k<2 ^ n):x<2 ^ (n+k):=by
 rw[Nat.pow_add];exact(Nat.div_lt_iff_lt_mul (Nat.two_pow_pos k)).1 h
theorem XA{x k n:Nat}(h:2 ^ n<=2*(x / 2 ^ k)):2 ^ (n+k)<=2*x:=by
 rw[Nat.pow_add];have h1:2 ^ n*2 ^ k<=2*(x / 2 ^ k)*2 ^ k:=qcc _ h;have h2:x / 2 ^ k*2 ^ k<=x:=Nat.div_mul_le_self x _;rw[Nat.mul_assoc]at h1;omega
theorem V8(x:Nat)(hx:x<=4503599627370496)(w:World):Ret prog 143 #[.int .u64 (x:Int)] w fun v w'=>∃r:Nat,v=.int .i64 (r:Int)/\x<2 ^ r/\r<=64/\(0<x->2 ^ r<=2*x)/\(x=0->r=0)/\w=w':=by
 obtain⟨w0,rfl,H⟩:=qE w;refine Au (fn:=f143) func143 U [.int .u64 (x:Int)] U ?_;refine Ae (Ad U (qA (Ax (Ae (Af U (CM U U (qA (Gi 101 (α:=Nat × Nat) (fun z=>[(0,.int .u64 (z.1:Int)),(2,.int .i64 (z.2:Int))]) (fun z w'=>w0=w'/\(∀k,z.1<2 ^ k->x<2 ^ (k+z.2))/\(∀k,2 ^ k<=2*z.1->2 ^ (k+z.2)<=2*x)/\(0<x->0<z.1)/\z.1<4294967296/\z.2<=32/\(x=0->z.1=0/\z.2=0)) U ?_ ?_))))))))
 .skip
  refine Aw _ U ?_ ?_
  .intro h;replace h:=AM h;refine Ae (Af U (EJ (n:=32) U U ?_));refine Ad U (qA (A0 (Ad U (qA ?_))));exact⟨(x / 2 ^ 32,32),rfl,⟨rfl,rfl,trivial⟩,rfl,fun k hk=>X9 hk,fun k hk=>XA hk,fun _=>by dsimp only;omega,by dsimp only;omega,by dsimp only;omega,fun hx0=>by dsimp only;omega⟩
  .intro h;replace h:=AN h;refine Ay (Aa ?_);exact⟨(x,0),rfl,⟨rfl,rfl,trivial⟩,rfl,fun k hk=>hk,fun k hk=>hk,fun h=>h,by dsimp only;omega,by dsimp only;omega,fun hx0=>by dsimp only;omega⟩
 .rintro⟨y,n⟩ j w ⟨rfl,hk,hg,h0,hy,hn,hz⟩;dsimp only at hk hg h0 hy hn hz;dsimp only;refine Ax (Ae (Af U (CM U U (qA (Gi 7685 (α:=Nat × Nat) (fun z=>[(0,.int .u64 (z.1:Int)),(2,.int .i64 (z.2:Int))]) (fun z w'=>w0=w'/\(∀k,z.1<2 ^ k->x<2 ^ (k+z.2))/\(∀k,2 ^ k<=2*z.1->2 ^ (k+z.2)<=2*x)/\(0<x->0<z.1)/\z.1<65536/\z.2<=48/\(x=0->z.1=0/\z.2=0)) U ?_ ?_)))))
  .skip
   refine Aw _ U ?_ ?_
   .intro h;replace h:=AM h;refine Ae (Af U (EJ (n:=16) U U ?_));refine Ad U (qA (A0 (Af U (Az U U ?_))));refine Ad U (qA ?_);exact⟨(y / 2 ^ 16,n+16),rfl,⟨rfl,rfl,trivial⟩,rfl,fun k h7=>by have:=hk _ (X9 h7);rw[show k+(n+16)=k+16+n by omega];exact this,(fun k h7=>by have:=hg _ (XA h7);rw[show k+(n+16)=k+16+n by omega];exact this),fun _=>by dsimp only;omega,by dsimp only;omega,by dsimp only;omega,fun hx0=>by dsimp only;omega⟩
   .intro h;replace h:=AN h;refine Ay (Aa ?_);exact⟨(y,n),rfl,⟨rfl,rfl,trivial⟩,rfl,hk,hg,h0,by dsimp only;omega,by dsimp only;omega,fun hx0=>by dsimp only;omega⟩
  .rintro⟨y,n⟩ j2 w ⟨rfl,hk,hg,h0,hy,hn,hz⟩;dsimp only at hk hg h0 hy hn hz;dsimp only;refine Ax (Ae (Af U (CM U U (qA (Gi 491525 (α:=Nat × Nat) (fun z=>[(0,.int .u64 (z.1:Int)),(2,.int .i64 (z.2:Int))]) (fun z w'=>w0=w'/\(∀k,z.1<2 ^ k->x<2 ^ (k+z.2))/\(∀k,2 ^ k<=2*z.1->2 ^ (k+z.2)<=2*x)/\(0<x->0<z.1)/\z.1<256/\z.2<=56/\(x=0->z.1=0/\z.2=0)) U ?_ ?_)))))
   .skip
    refine Aw _ U ?_ ?_
    .intro h;replace h:=AM h;refine Ae (Af U (EJ (n:=8) U U ?_));refine Ad U (qA (A0 (Af U (Az U U ?_))));refine Ad U (qA ?_);exact⟨(y / 2 ^ 8,n+8),rfl,⟨rfl,rfl,trivial⟩,rfl,fun k h7=>by have:=hk _ (X9 h7);rw[show k+(n+8)=k+8+n by omega];exact this,(fun k h7=>by have:=hg _ (XA h7);rw[show k+(n+8)=k+8+n by omega];exact this),fun _=>by dsimp only;omega,by dsimp only;omega,by dsimp only;omega,fun hx0=>by dsimp only;omega⟩
    .intro h;replace h:=AN h;refine Ay (Aa ?_);exact⟨(y,n),rfl,⟨rfl,rfl,trivial⟩,rfl,hk,hg,h0,by dsimp only;omega,by dsimp only;omega,fun hx0=>by dsimp only;omega⟩
   .rintro⟨y,n⟩ j3 w ⟨rfl,hk,hg,h0,hy,hn,hz⟩;dsimp only at hk hg h0 hy hn hz;dsimp only;obtain⟨b,hb,hb1,hb2,hb3⟩:=Aaw y hy;have hb0:(bv b)=.int .u8 ((b.toNat:Nat):Int):=rfl;refine Ae (Af U (Af U (Mf U U Dc Hr ?_)));refine ZQ (l:=QI) b U NO U hb ?_;rw[hb0];refine Di U Hr Ho (Az U U ?_);refine Ad U (qA (A5 (AB (v:=(.int _ _)) U U U ?_)));refine⟨n+b.toNat,qaa (Value.int .i64) (by omega),?_,by omega,fun hx0=>?_,fun hx0=>?_,rfl⟩
    .have:=hk _ hb1;rw[qcy];exact this
    .have:=hg _ (hb3 (h0 hx0));rw[qcy];exact this
    .obtain⟨rfl,rfl⟩:=hz hx0;have h7:QI[0]?=some (0:UInt8):=rfl;rw[h7]at hb;obtain rfl:=qag hb;rfl
structure Bk where
 b:Nat
 c:Nat
 f:List Value
instance:Inhabited Bk:=⟨⟨0,0,[]⟩⟩
def HG:Nat->List Nat
 |1=>[0]|4=>[3]|5=>[2,4,3]|6=>[1,0,5,2,4,3]|8=>[7]|9=>[8,7]|10=>[9,8,7]|12=>[11]|13=>[12,11]|15=>[14]|16=>[15,14]
 |17=>[6,1,0,5,2,4,3,10,9,8,7,13,12,11,16,15,14]|18=>[17,6,1,0,5,2,4,3,10,9,8,7,13,12,11,16,15,14]|19=>[18,17,6,1,0,5,2,4,3,10,9,8,7,13,12,11,16,15,14]|_=>[]
def sQ(n:Nat)(B:Nat->Bk):Bk:=if n=0 then⟨(B 2).b,0,[]⟩else B 5
def sSC(N n:Nat)(B:Nat->Bk):List Value:=SC N (some ⟨(sQ n B).b,0,none⟩) n (sQ n B).c (B 10).b (B 13).b (B 16).b 0
def V9(b1:Nat)(N n:Nat)(a:Option Addr)(c:Nat)(i:Nat)(B:Nat->Bk):Value :=
 if i=0\/i=11\/i=14 then .pointer (some ⟨b1,0+0,none⟩)else if i=1\/i=12\/i=15 then .int .i64 (N:Int)
 else if i=2 then .slice (some ⟨(B 2).b,0,none⟩) 0 0 else if i=3\/i=7 then .pointer (some ⟨b1,0+1,none⟩)else if i=4\/i=8 then .slice a n c
 else if i=5 then .slice (some ⟨(sQ n B).b,0,none⟩) n (sQ n B).c else if i=6 then .agg #[.int .i64 (N:Int),.slice (some ⟨(sQ n B).b,0,none⟩) n (sQ n B).c]
 else if i=9 then .int .i64 (n:Int)else if i=10 then .slice (some ⟨(B 10).b,0,none⟩) n n else if i=13 then .slice (some ⟨(B 13).b,0,none⟩) N N
 else if i=16 then .slice (some ⟨(B 16).b,0,none⟩) N N else if i=17 then .agg (sSC N n B).toArray else ptr (B 18).b
def HI(N n:Nat)(i:Nat):Option ((Nat->Bk)->Obj) :=
 if i=2 then some fun _=>Bl 158 []else if i=5 then(if n=0 then none else some fun B=>Bl 158 (B 5).f)else if i=10 then some fun _=>Bl 2 (BZ (fun _=>0) n)else if i=13\/i=16 then some fun _=>Bl 2 (BZ (fun _=>0) N)
 else if i=18 then some fun B=>Bl 217 (sSC N n B)else none
def Amm(n:Nat)(es:List Ed)(i:Nat)(b:Bk):Prop:=i=5->n=0\/OS (some ⟨b.b,0,none⟩) n b.c 4 b.f (es.flatMap CO)
theorem sStab(b1 N n:Nat)(a:Option Addr)(c i k:Nat)(b:Bk)(B:Nat->Bk)(hi:i<19)(hki:k≠i)(hka:k∉HG i):V9 b1 N n a c i (KI B k b)=V9 b1 N n a c i B/\∀ob,HI N n i=some ob->ob (KI B k b)=ob B:=by
 have hne:∀j,k≠j->KI B k b j=B j:=fun j h=>JL (Ne.symm h);have hq:k≠2->k≠5->sQ n (KI B k b)=sQ n B:=fun h2 h5=>by unfold sQ;rw[hne 2 h2,hne 5 h5]
 have hcs:i=0\/i=1\/i=2\/i=3\/i=4\/i=5\/i=6\/i=7\/i=8\/i=9\/i=10\/i=11\/i=12\/i=13\/i=14\/i=15\/i=16\/i=17\/i=18:=by omega
 have hs:(k≠2/\k≠5/\k≠10/\k≠13/\k≠16)->sSC N n (KI B k b)=sSC N n B:=fun h=>by unfold sSC;rw[hq h.1 h.2.1,hne 10 h.2.2.1,hne 13 h.2.2.2.1,hne 16 h.2.2.2.2]
 rcases hcs with rfl|rfl|rfl|rfl|rfl|rfl|rfl|rfl|rfl|rfl|rfl|rfl|rfl|rfl|rfl|rfl|rfl|rfl|rfl <;> simp only[HG,qai,qau,or_false,not_or,not_false_eq_true]at hka <;> (try simp[V9,HI]) <;> (try rw[hne _ hki]) <;> (try rw[hq (by omega) (by omega)]) <;> (try rw[hs (by omega)]) <;> (try (constructor)) <;> (try rfl) <;> (try (split <;> simp)) <;> (try (intro ob h;subst h;rw[hne _ hki])) <;> (try (intro ob h;subst h;rw[hs (by omega)])) <;> (try exact⟨rfl,rfl⟩) <;> (try (intro _;rfl))
abbrev CP(f:Nat->Int)(m:Nat):List Value:=(List.range m).map fun i => .int .u64 (f i)
theorem CC{w:World}{q m i:Nat}{f:Nat->Int}(h:w.heap[q]?=some (Bl 23 (CP f m)))(hi:i<m:=by omega):w.cell? ⟨q,0+i*1,none⟩=some (.int .u64 (f i)):=by
 rw[Aj h,qaz,qdg,Ec hi]
def sw(f:Nat->Int)(i j k:Nat):Int:=if k=j then f i else if k=i then f j else f k
theorem Ep(f:Nat->Int)(i j:Nat):sw f i j j=f i:=if_pos rfl
theorem Em{f:Nat->Int}{i j k:Nat}(h:k≠j):sw f i j k=if k=i then f j else f k:=if_neg h
theorem I8(f:Nat->Int)(i j:Nat):sw f i j i=f j:=by
 unfold sw
 by_cases e:i=j
 .subst e;rw[if_pos rfl]
 .rw[if_neg e,if_pos rfl]
theorem EX{f:Nat->Int}{i j k:Nat}(h1:k≠i:=by omega)(h2:k≠j:=by omega):sw f i j k=f k:=by unfold sw;rw[if_neg h2,if_neg h1]
inductive Sw (a b:Nat):(Nat->Int)->(Nat->Int)->Prop
 |refl (f:Nat->Int):Sw a b f f
 |step {f g:Nat->Int} (h:Sw a b f g) (i j:Nat) (hi:a<=i/\i<b) (hj:a<=j/\j<b):Sw a b f (sw g i j)
theorem Sw.trans{a b:Nat}{f g h:Nat->Int}(h1:Sw a b f g)(h2:Sw a b g h):Sw a b f h:=by
 induction h2 with
 |refl=>exact h1
 |step _ i j hi hj ih=>exact ih.step i j hi hj
theorem Sw.mono{a b a' b':Nat}{f g:Nat->Int}(h:Sw a b f g)(ha:a'<=a)(hb:b<=b'):Sw a' b' f g:=by
 induction h with
 |refl=>exact .refl _
 |step _ i j hi hj ih=>exact ih.step i j ⟨by omega,by omega⟩ ⟨by omega,by omega⟩
theorem Sw.out{a b:Nat}{f g:Nat->Int}(h:Sw a b f g):∀k,(k<a\/b<=k)->g k=f k:=by
 induction h with
 |refl=>exact fun _ _=>rfl
 |step _ i j hi hj ih=>exact fun k hk=>by rw[EX];exact ih k hk
theorem Sw.mem{a b:Nat}{f g:Nat->Int}(h:Sw a b f g):∀k,a<=k->k<b->∃k',a<=k'/\k'<b/\g k=f k':=by
 induction h with
 |refl=>exact fun k h1 h2=>⟨k,h1,h2,rfl⟩
 | @step g h i j hi hj ih =>
  intro k h1 h2
  by_cases e2:k=j
  .rw[e2,Ep];exact ih i hi.1 hi.2
  .by_cases e1:k=i
   .rw[e1,I8];exact ih j hj.1 hj.2
   .rw[EX (h1:=e1) (h2:=e2)];exact ih k h1 h2
theorem Aqg{f:Nat->Int}{n i j:Nat}(hi:i<n:=by omega)(hj:j<n:=by omega):(tab (sw f i j) n).Perm (tab f n):=by
 have h:=NP (L:=tab f n) (i:=i) (j:=j) (x:=f i) (y:=f j) (BW hi) (BW hj)
 have e:((tab f n).set i (f j)).set j (f i)=tab (sw f i j) n:=by
  unfold tab;rw[Jq (g:=fun k=>if k=i then f j else f k) (if_pos rfl) (fun k _ hk=>if_neg hk),Jq (g:=sw f i j) (Ep f i j) (fun k _ hk=>Em hk)]
 rw[e]at h;exact h
theorem Sw.perm{a b n:Nat}{f g:Nat->Int}(h:Sw a b f g)(hb:b<=n):(tab g n).Perm (tab f n):=by
 induction h with
 |refl=>exact .refl _
 |step _ i j hi hj ih=>exact(Aqg).trans ih
def Kz(f:Nat->Int)(a b:Nat):Prop:=∀x y,a<=x->x<y->y<b->f x<=f y
def InsU(f:Nat->Int)(a j i:Nat):Prop:=∀x y,a<=x->x<y->y<=i->y≠j->f x<=f y
theorem InsU.step{f:Nat->Int}{a j i:Nat}(h:InsU f a j i)(ha:a<j)(hi:j<=i)(hlt:f j<f (j - 1)):InsU (sw f j (j - 1)) a (j - 1) i:=fun x y hx hxy hy hne=>by
 by_cases e1:y=j
 .subst e1;rw[I8]
  by_cases e2:x=y - 1
  .rw[e2,Ep];omega
  .rw[EX (h2:=e2)];exact h x (y - 1) hx (by omega) (by omega) (by omega)
 .rw[EX (h1:=e1) (h2:=hne)]
  by_cases e2:x=j - 1
  .rw[e2,Ep];exact h j y (by omega) (by omega) hy e1
  .by_cases e3:x=j
   .rw[e3,I8];exact h (j - 1) y (by omega) (by omega) hy e1
   .rw[EX (h1:=e3) (h2:=e2)];exact h x y hx hxy hy e1
theorem InsU.done{f:Nat->Int}{a j i:Nat}(h:InsU f a j i)(hj:a<=j)(hj0:a<j->f (j - 1)<=f j):Kz f a (i+1):=fun x y hx hxy hy=>by
 by_cases e:y=j
 .subst e;have h1:=hj0 (by omega)
  by_cases e2:x=y - 1
  .rw[e2];exact h1
  .exact qbh (h x (y - 1) hx (by omega) (by omega) (by omega)) h1
 .exact h x y hx hxy (by omega) e
theorem Fy(x y:Int)(w:World):Ret prog 187 #[.int .u64 x,.int .u64 y] w fun v w'=>v=.bool (decide (x<y))/\w=w':=by
 have nan:∀(x:Int) (w:World),Ret prog 211 #[.int .u64 x] w fun v w'=>v=.bool false/\w=w':=fun x w=>by
  refine Au (fn:=f211) func211 U [.int .u64 x] U (Ae (Ai U (qA (Ae (Af U (Af U (CK U U (Ai U (qA (A5 (AB (v:=(.bool _)) U U U ?_)))))))))));exact⟨qaa Value.bool (by simp),rfl⟩
 refine Au (fn:=f187) func187 U [.int .u64 x,.int .u64 y] U (Ae (Ai U (qA (Ae (Af U (Al qB (nan x w) U ?_))))));rintro v w ⟨rfl,rfl⟩;refine A2 U (AR 7 U ?_ ?_)
 .intro h1;refine Af U (Al qB (nan y _) U ?_);rintro v w ⟨rfl,rfl⟩;refine BP U (AA U (.bool _) U (A2 U (AR 12 U ?_ ?_)))
  .intro h2;replace h2:=BM h2;refine Ag U (Ag U (Ag U (AA U (.bool _) U (Ai U (qA (A5 (AB (v:=(.bool _)) U U U ?_)))))));exact⟨qaa Value.bool (by simp_all),rfl⟩
  .intro h3;replace h3:=BN h3;refine Af U (Af U (Bm U U (AJ U (.bool _) U (Ai U (qA (A5 (AB (v:=(.bool _)) U U U ?_)))))));exact⟨qaa Value.bool (by simp_all),rfl⟩
 .intro h4;refine Ag U (Ag U (Ag U (AJ U (.bool _) U (A2 U (Af U (Af U (Bm U U (AJ U (.bool _) U (Ai U ?_)))))))));refine qA (A5 (AB (v:=(.bool _)) U U U ?_));exact⟨qaa Value.bool (by simp_all),rfl⟩
section
variable {w:World}{q n c m a b:Nat}{f:Nat->Int}
theorem Uj(hd:w.heap[q]?=some (Bl 23 (CP f m)))(hab:a<=b)(hn:n<=m)(hm:n<=1000000000)(hb:b<=n:=by omega):
  Ret prog 181 #[.slice (some ⟨q,0,none⟩) n c,.int .i64 (a:Int),.int .i64 (b:Int)] w fun v w'=>v=.tuple #[]/\∃g,Sw a b f g/\Kz g a b/\Ctx w [q] w' [(q,Bl 23 (CP g m))]:=by
 obtain⟨w0,rfl⟩:=qD w;have H:=Ctx.start1 hd;refine Au (fn:=f181) func181 U [.slice (some ⟨q,0,none⟩) n c,.int .i64 (a:Int),.int .i64 (b:Int)] U ?_;refine Ae (Af U (Az U U ?_));refine Ad U (qA (A1 (Bw 562949953420480 (α:=Nat × (Nat->Int)) (fun t=>[(6,.int .i64 (t.1:Int))]) (fun t w'=>a+1<=t.1/\t.1<=max b (a+1)/\Sw a b f t.2/\Kz t.2 a t.1/\Ctx w0 [q] w' [(q,Bl 23 (CP t.2 m))]) (fun t=>b - t.1) (a+1,f) U ?_ ?_ ?_)))
 .exact⟨qaa (Value.int .i64) (by dsimp only;omega),trivial⟩
 .exact⟨qam _,by dsimp only;omega,.refl _,fun x y h1 h2 h3=>by dsimp only at h3;omega,H⟩
 .rintro⟨i,g⟩ j0 w ⟨hi1,hi2,hS,hO,H⟩;dsimp only at hi1 hi2 hS hO H;dsimp only;refine Ax (Ae (Af U (Af U (Bm U U (qA (Aw _ U ?_ ?_))))))
  .intro h1;replace h1:=AM h1;refine Ay (Aa (Ax (A1 (Ae (Af U (Ad U (qA (A1 (Bw 562949953355904 (α:=Nat × (Nat->Int)) (fun t=>[(7,.int .i64 (t.1:Int))]) (fun t w'=>a<=t.1/\t.1<=i/\Sw a b f t.2/\InsU t.2 a t.1 i/\Ctx w0 [q] w' [(q,Bl 23 (CP t.2 m))]) (fun t=>t.1) (i,g) U ?_ ?_ ?_)))))))))
   .exact⟨rfl,trivial⟩
   .exact⟨by dsimp only;omega,qam _,hS,fun x y hx hxy hy hne=>hO x y hx hxy (by dsimp only at hne;omega),H⟩
   .rintro⟨j,g⟩ j1 w ⟨hj1,hj2,hS,hI,H⟩;dsimp only at hj1 hj2 hS hI H;dsimp only;have e1:(j:Int).toNat=j:=rfl;have e2:((j:Int) - 1).toNat=j - 1:=by omega
    refine Ax (Ej 13 Br U U ?_);refine AX U (AX U (Se U U U (CW U (DK 19 U ?_ ?_))))
    .intro h2;replace h2:=AM h2;refine Ca U (AX U (Bi Bh Bq U U ?_));refine BX B6 U (by rintro _ rfl;exact((CC (H.drew.get at0)))) ?_;refine Ca U (AX U (EA U U ?_));refine Bi Bh Bq U U ?_;refine BX B6 U (by rintro _ rfl;exact((CC (H.drew.get at0)))) ?_;refine BS ?_;replace H:=H.drew;refine Al qB (Fy _ _ _) U ?_;rintro v w ⟨rfl,rfl⟩;refine AA U (.bool _) U (qA (Aw _ U ?_ ?_))
     .intro h3;rw[e1,e2]at h3;have h3:=qba h3;refine Ay (Aa (Ax (A1 (Ft [([0,1,2,3,4,5,6,7,8,9,10,11,12,13,14],15),([16],17)] (fun z=>z.heap[q]?=some (Bl 23 (CP g m))) [15,17] Br (H.drew.get at0) ?_))));refine AD U U (B3 U (Bj U (B3 U (Bj U (Fq U U ?_)))));refine B3 U (Bj U (Fq U U ?_));refine AP Bh Bq U U (B0 B6 U (fun _ hx=>(CC hx)) ?_);refine B3 U (Bj U (AP Bh Bq U U ?_));refine B0 B6 U (fun _ hx=>(CC hx)) (AP Bh Bq U U ?_);refine AU ?_;replace H:=H.drew
      refine Cl j (fun k => .int .u64 (if k=j then g (j - 1)else g k)) (.int _ _) Bq U U U H at0 (by omega) (by rw[if_pos rfl];exact qaa (fun z=>Value.int .u64 (g z)) (by omega)) (fun k _ hk=>by rw[if_neg hk]) ?_;rintro w H;refine Ab (Bz U (AD U U ?_));refine AP Bh Bq U U ?_;refine AU (Cl (j - 1) (fun k => .int .u64 (sw g j (j - 1) k)) (.int _ _) Bq U U U H at0 (by omega) (by rw[Ep];rfl) (fun k _ hk=>by rw[Em hk]) ?_);rintro w H;refine Ab (Bz U (BF (A8 (Aa (A0 (Af U (Bo U U ?_)))))));refine Ad U (qA ?_);exact⟨(j - 1,sw g j (j - 1)),rfl,⟨qaa (Value.int .i64) (by dsimp only;omega),trivial⟩,⟨by dsimp only;omega,by dsimp only;omega,hS.step j (j - 1) ⟨by omega,by omega⟩ ⟨by omega,by omega⟩,hI.step (by omega) hj2 h3,H⟩,by dsimp only;omega⟩
     .intro h3;rw[e1,e2]at h3;have h3:=qbn h3;refine Bt (An (An (AK (A8 (Aa (A0 (Af U (Az U U ?_))))))));refine Ad U (qA ?_);exact⟨(i+1,g),rfl,⟨rfl,trivial⟩,⟨by dsimp only;omega,by dsimp only;omega,hS,hI.done hj1 fun _=>by omega,H⟩,by dsimp only;omega⟩
    .intro h2;replace h2:=AN h2;refine A3 U (A3 U (A3 U (A3 U (A3 U (A3 U (A3 U (A3 U (A3 U (BS ?_)))))))));replace H:=H.drew;refine Ag U (AJ U (.bool _) U (qA (FE U (Bt (An (An (AK (A8 (Aa (A0 (Af U (Az U U ?_))))))))))));refine Ad U (qA ?_);exact⟨(i+1,g),rfl,⟨rfl,trivial⟩,⟨by dsimp only;omega,by dsimp only;omega,hS,hI.done hj1 fun h=>by omega,H⟩,by dsimp only;omega⟩
  .intro h1;replace h1:=AN h1;refine Bt (An (An (AK (CV U U ?_))));exact⟨rfl,g,hS,fun x y hx hxy hy=>hO x y hx hxy (by omega),H⟩
end
end Go.Proofs.YtffclglpjlcojaaGreat
