/- Part 8 of the proof. -/
import Derived.Test.YtcpgbcabmcbclaaGreatDoorPart7
import Derived.Sort.OwnSortedInts
set_option maxRecDepth 20000
set_option maxHeartbeats 8000000
namespace Go.Proofs.YtcpgbcabmcbclaaGreatDoor
open Go.GV Go.Proofs.Tryz
attribute [local irreducible] Ay W Wq Wt
abbrev Nd:=Int × Bool × List It
def Hc(f:Int->Int × List Nd):List It->Int × List Nd
 | []=>(0,[])
 |x::l=>if(f (x.page:Int)).1≠0 then f (x.page:Int)else((Hc f l).1,(f (x.page:Int)).2++(Hc f l).2)
def DZ(A:Dev)(fr sz:Nat):Nat->Int->Nat->Int × List Nd
 |0,_,_=>(9,[])
 |n+1,page,d=>match(CM A fr sz page (d:Int)).2 with
  |none=>((CM A fr sz page (d:Int)).1,[])
  |some (false,l)=>(0,[(page,false,l)])
  |some (true,l)=>((Hc (fun p=>DZ A fr sz n p (d+1)) l).1,(page,true,l)::(Hc (fun p=>DZ A fr sz n p (d+1)) l).2)
structure JOk(bt bd bp ba fr:Nat)(A:Dev)(P:List Nat)(F Z:Mut)(N l:Nat)(J:List Nd->Mut->World->Prop):Prop where
 lt:∀{v M w},J v M w->∀x,M x->x<w.heap.size
 ext:∀{v M w w'},J v M w->Ext [] w w'->J v M w'
 tx:∀{v M w},J v M w->Tx w bt bd bp ba fr A P F []
 round:∀{v:List Nd} {M:Mut} {w:World} (page:Int) (i:Bool) (a:Option Addr) (n c:Nat) (L:List It),J v M w->v.length<N->Its w (MZ M Z) a n c L->L.length<=65535->(∀x∈L,x.key.length<=505/\x.val.length<=505) -> -9223372036854775808<=page/\page<=9223372036854775807 ->
  Go.GV.YieldAt prog l [.int .i64 page,.agg #[.bool i,.slice a n c]] w fun u w'=>u=.bool true/\∃M',J (v++[(page,i,L)]) M' w'/\Grown M M' w w'
def VD(bt fr:Nat)(A:Dev)(sz:Nat)(Z:Mut)(N l:Nat)(J:List Nd->Mut->World->Prop)(n:Nat):Prop :=
 ∀{w:World} {M:Mut} {v:List Nd},J v M w->(∀x,Z x->x<w.heap.size)->∀(page:Int) (d:Nat),d+n=17 -> -9223372036854775808<=page->page<=9223372036854775807->v.length+(DZ A fr sz (n+1) page d).2.length<=N ->
  Ret prog 152 #[ptr bt,.int .i64 page,.int .i64 (d:Int),.func (.yield l) #[] #[]] w fun r w'=>r=.tuple #[.bool (decide ((DZ A fr sz (n+1) page d).1=0)),.int .i64 (DZ A fr sz (n+1) page d).1]/\∃M',J (v++(DZ A fr sz (n+1) page d).2) M' w'/\Grown M M' w w'
theorem QD{bt bd bp ba fr:Nat}{A:Dev}{P:List Nat}{F Z:Mut}{N l:Nat}{J:List Nd->Mut->World->Prop}(JO:JOk bt bd bp ba fr A P F Z N l J)(hfr:fr<=5000){mx:Nat}(hfew:Few A mx)(hmx:mx<=1000000000)(n:Nat)(IH:∀n',n=n'+1->VD bt fr A P.length Z N l J n'):VD bt fr A P.length Z N l J n:=by
 intro w M v hJ hZ page d hd hp1 hp2 hN;obtain⟨w0,rfl⟩:=qD w;obtain⟨ea,hea⟩:=qD (DZ A fr P.length (n+1) page d);rw[<-hea]at hN |-;rw[DZ]at hea;obtain⟨rt,hrt⟩:=qD (CM A fr P.length page (d:Int));rw[<-hrt]at hea;refine Ax (fn:=f152) func152 U [.pointer (some ⟨bt,0,none⟩),.int .i64 page,.int .i64 (d:Int),.func (.yield l) #[] #[]] U ?_;refine Ad (Am U (Ac U (qA (Ad (Ao U (Ae U (Ae U (Ah qB (OR (JO.tx hJ) hfr page (d:Int) ⟨hp1,hp2⟩ hfew hmx) U ?_))))))));rintro v2 w2 ⟨inner,aa,nn,cc,rfl,hx20,hits⟩;rw[<-hrt]at hits;rw[<-hrt];have hJ2:=JO.ext hJ hx20;have H:=Ctx.start w2 [];refine AL U (Ag U U (Ag U U (Bf CJ H ?_)));rintro b10 w - H;refine Bc Bm U U U (by simp[AX]) H at0 U ?_;rintro w H;refine Ac U (qA (Aq (Ad (Ae U (AN U U (A4 U (AU 25 U ?_ ?_)))))))
 .intro hA;replace hA:=Bh hA
  have hnone:rt.2=none:=by
   cases h5:rt.2 with
   |none=>rfl
   |some r=>obtain⟨i,l⟩:=r;rw[hrt]at h5;rw[hrt]at hA;exact absurd (Er h5).1 hA
  rw[hnone]at hea;dsimp only at hea;refine Ak U (Ak U (Ak U (Ak U (Ak U (AR U (.bool _) U (qA (Eg U (Ad (Ae U ?_)))))))));refine Am U (Ac U (qA (Aw (An (BA (v1:=(.bool _)) (v2:=(.int _ _)) U U U U ?_)))));have hx3:=hx20.trans H.ext;refine⟨by rw[hea,qag hA],M,?_,.call0 hx3⟩;rw[hea]
  simpa using JO.ext hJ hx3
 .intro hA;replace hA:=Bi hA;have hA':rt.1=0:=by simpa using hA
  obtain⟨⟨i,li⟩,hsome⟩:∃r,rt.2=some r:=by
   cases h5:rt.2 with
   |none=>rw[hrt]at h5;rw[hrt]at hA';exact absurd hA' (GX h5)
   |some r=>exact⟨r,rfl⟩
  obtain⟨-,hne,hd16,-,-,hll⟩:=Er (A:=A) (fr:=fr) (sz:=P.length) (page:=page) (depth:=(d:Int)) (by rw[<-hrt];exact hsome);obtain⟨rfl,I2f,hb⟩:=hits i li hsome;have I2:=I2f.weak (M':=MZ M Z) fun x h=>h.elim (JO.lt hJ x) (hZ x);rw[hsome]at hea;have hnum:=I2.num;obtain⟨O3,g3⟩:=Fo.nil.own (JO.lt hJ2) H;have I3:=(I2.weak (M':=MZ (MY M []) Z) fun x h=>h.elim (fun h => .inl (MY.nil x h)) .inr).turn (g3.or Z);have hJ3:=JO.ext hJ2 H.ext;have hx3:=hx20.trans H.ext
  have hvl:v.length<N:=by
   have:1<=ea.2.length:=by
    rw[hea]
    cases inner with
    |true=>simp
    |false=>simp
   omega
  obtain⟨w3,rfl⟩:=qD w;replace H:=O3.ctx;refine B4 (.func _ _ _) U ?_;refine Ae U (BH BJ Bm U H at0 U (NY U U (JO.round page inner aa nn cc li hJ3 hvl (I3.weak fun x h=>h.elim (fun h => .inl (.inl h)) .inr) hll (fun x hx=>⟨(hb x hx).1,(hb x hx).2.1⟩) ⟨hp1,hp2⟩) U ?_));rintro _ w4 ⟨rfl,M4,hJ4,g4⟩;obtain⟨O4,gy4⟩:=O3.call g4;have I4:=I3.turn (gy4.or Z);have gg4:=(Grown.call0 hx3).trans g4;replace H:=O4.ctx;refine Cc U (AJ U (.bool _) U (qA (Br U (Ap (Aa (Aq (Ad (Af B0 U (AG BV U H at0 U (AP Bu U ?_))))))))))
  refine Ae U (qA (AB (BE 144115119356437248 (α:=Nat × List Nd × Mut) (fun s=>[(36,.int .i64 (s.1:Int))]) (fun s w'=>s.1<=nn/\J (v++[(page,inner,li)]++s.2.1) s.2.2 w'/\Fo w' s.2.2 [(b10,NBl inner aa nn cc)]/\Its w' (MZ (MY s.2.2 [(b10,NBl inner aa nn cc)]) Z) aa nn cc li/\Grown M s.2.2 w0 w'/\(inner=false->s.2.1=[])/\(inner=true->Hc (fun p=>DZ A fr P.length n p (d+1)) li=((Hc (fun p=>DZ A fr P.length n p (d+1)) (li.drop s.1)).1,s.2.1++(Hc (fun p=>DZ A fr P.length n p (d+1)) (li.drop s.1)).2))) (fun s=>nn - s.1) (0,[],M4) U ?_ ?_ ?_)))
  .exact⟨rfl,trivial⟩
  .exact⟨qal _,by rw[qa2];exact hJ4,O4,I4,gg4,fun _=>rfl,fun _=>rfl⟩
  .rintro⟨i,vs,M5⟩ j w ⟨hi,hJ5,O5,I5,g5,hvs,hkg⟩;dsimp only at hi hJ5 O5 I5 g5 hvs hkg;dsimp only;obtain⟨ms,R,-,hl,hok⟩:=I5.ex;have hml:ms.length=nn:=by rw[hnum,<-hl,qan]
   have hb10:=O5.blk (b10,_) (qab.2 rfl);have H:=Ctx.start w [];refine Ad (Bp U U (qA (Aq (Ar _ U ?_ ?_))))
   .intro hB;replace hB:=AV hB;obtain⟨x,hx1⟩:=AY (l:=ms) (i:=i);have hxL:=Im.at hl hx1;have hxb:=hb x.it (qaf hxL);obtain⟨wl,rfl⟩:=qD w;refine Ap (Aa (Aq (AB (Ad (Bo R Bu Bn U U ?_)))));refine EK _ Dg Bn U U (R.row hx1 U) (Bf Dn H ?_);rintro b13 w - H;refine Bc Bn U U U (by exact Im.oneE _) H at0 U ?_;rintro w H;refine qA (Aq (Ad (Af Dh U (Bq Gp U ((by rw[Au (show _=some (NBl inner aa nn cc)from by rw[H.ext.block b10 (Al hb10) (by simp)];exact hb10)];rfl)) ?_))));refine Cc U (qA (Ar _ U ?_ ?_))
    .intro hC;replace hC:=Cs hC;have hea1:ea=(0,[(page,inner,li)]):=by rw[hea,hC]
     refine B9 (A6 (Xt U (A6 (A6 (Bd (Aa (Ad (Am U (Ac U (qA (Aw (BA (v1:=(.bool _)) (v2:=(.int _ _)) U U U U ?_))))))))))));refine⟨by rw[hea1];rfl,M5,?_,g5.trans (.call0 H.ext)⟩;rw[hea1];have:=JO.ext hJ5 H.ext;rw[hvs hC,qa2]at this;exact this
    .intro hC;replace hC:=Cu hC;replace hea:ea=((Hc (fun p=>DZ A fr P.length n p (d+1)) li).1,(page,inner,li)::(Hc (fun p=>DZ A fr P.length n p (d+1)) li).2):=by rw[hea,hC]
     have hkg:=hkg hC;rw[JS hxL,Hc]at hkg;obtain⟨n',rfl⟩:∃n',n=n'+1:=⟨n - 1,by omega⟩;obtain⟨f5,hf5⟩:=qD (DZ A fr P.length (n'+1) (x.it.page:Int) (d+1));rw[<-hf5]at hkg
     have hN5:(v++[(page,inner,li)]++vs).length+f5.2.length<=N:=by
      rw[hea,hkg]at hN
      by_cases h0:f5.1≠0
      .rw[if_pos h0]at hN;simp only[qam,qaw,qbt]at hN |-;omega
      .rw[if_neg h0]at hN;simp only[qam,qaw,qbt]at hN |-;omega
     refine Ap (Aa (Ad (Ao U (Af Fm U (AG DE U H at0 U (Ae U (A8 U U ?_)))))));rw[show((d:Int)+1)=((d+1:Nat):Int)by omega];refine B4 (.func _ _ _) U ?_;have hx6:=H.ext;refine Ah qB (IH n' U (JO.ext hJ5 hx6) (fun x h=>qas (hZ x h) (qav g5.1.size hx6.size)) (x.it.page:Int) (d+1) (by omega) (by omega) (by omega) (by rw[<-hf5];exact hN5)) U ?_;rintro v7 w7 ⟨rfl,M7,hJ7,g7⟩;rw[<-hf5]at hJ7;rw[<-hf5];obtain⟨O6,gy6⟩:=O5.call (.call0 hx6);obtain⟨O7,gy7⟩:=O6.call g7;have I7:=(I5.turn (gy6.or Z)).turn (gy7.or Z);have gg7:=(g5.trans (.call0 hx6)).trans g7;refine AL U (Ag U U (Ag U U (Am U (Ac U (qA (Ad (A4 U (Cc U (qA ?_)))))))));refine Ar _ U ?_ ?_
     .intro hD;replace hD:=Cs hD;have hD':f5.1≠0:=by simpa using hD
      rw[if_pos hD']at hkg;refine Ad (Ae U (Am U (Ac U (qA (Aw (AK (An (An (AK (An (BA (v1:=(.bool _)) (v2:=(.int _ _)) U U U U ?_)))))))))));refine⟨by rw[hea,hkg];dsimp only;rw[qag hD'],M7,?_,gg7⟩;rw[hea,hkg]
      simpa using hJ7
     .intro hD;replace hD:=Cu hD;have hD':f5.1=0:=by simpa using hD
      rw[if_neg (by rw[hD'];simp)]at hkg;refine Ap (AH (Aa (A5 (A8 U U ?_))));refine Ae U (qA ?_);exact⟨(i+1,vs++f5.2,M7),rfl,⟨rfl,trivial⟩,⟨by dsimp only;omega,by dsimp only;rw[<-qa1];exact hJ7,O7,I7,gg7,(fun h=>by rw[hC]at h;cases h),fun _=>by dsimp only;rw[hkg,qa1]⟩,by dsimp only;omega⟩
   .intro hB;replace hB:=AW hB;have hii:i=nn:=by omega
    refine B9 (A6 (A6 (Bd (Aa (Ad (Am U (Ac U (qA (Aw (BA (v1:=(.bool _)) (v2:=(.int _ _)) U U U U ?_))))))))))
    cases inner with
    |false =>
     dsimp only at hea;refine⟨by rw[hea];rfl,M5,?_,g5⟩;rw[hea];rw[hvs rfl,qa2]at hJ5;exact hJ5
    |true =>
     dsimp only at hea;have hkg:=hkg rfl;rw[qb6 (by omega),Hc,qa2]at hkg;refine⟨by rw[hea,hkg];rfl,M5,?_,g5⟩;rw[hea,hkg]
     simpa using hJ5
theorem Um{bt bd bp ba fr:Nat}{A:Dev}{P:List Nat}{F Z:Mut}{N l:Nat}{J:List Nd->Mut->World->Prop}(JO:JOk bt bd bp ba fr A P F Z N l J)(hfr:fr<=5000){mx:Nat}(hfew:Few A mx)(hmx:mx<=1000000000):∀n,VD bt fr A P.length Z N l J n
 |0=>QD JO hfr hfew hmx 0 fun n' h=>by omega
 |n+1=>QD JO hfr hfew hmx (n+1) fun n' h=>by
   obtain rfl:n=n':=by omega
   exact Um JO hfr hfew hmx n
def Dq(A:Dev)(fr sz:Nat)(root:Int):Int × List Nd:=if root = -1 then(0,[])else DZ A fr sz 18 root 0
theorem Un(bt be:Nat)(root:Int)(w:World):Ret prog 124 #[ptr bt,.int .i64 root,ptr be] w fun v w'=>∃b3 b4 b5,v=.func (.func 151) #[] #[ptr b4,ptr b3,ptr b5]/\(∃t,w'.heap[b4]?=some (Bl t [.int .i64 root]))/\(∃t,w'.heap[b3]?=some (Bl t [ptr bt]))/\(∃t,w'.heap[b5]?=some (Bl t [ptr be]))/\w.heap.size<=b4/\w.heap.size<=b3/\w.heap.size<=b5/\Ext [] w w':=by
 obtain⟨w0,rfl,H⟩:=qE w;refine Ax (fn:=f124) func124 U [.pointer (some ⟨bt,0,none⟩),.int .i64 root,.pointer (some ⟨be,0,none⟩)] U ?_;refine Ad (BN _ (.pointer _) U U H ?_);rintro b3 w - H;refine BN _ (.int _ _) U U H ?_;rintro b4 w - H;refine BN _ (.pointer _) U U H ?_;rintro b5 w - H;refine BL U .nilFunc U (qA (Ad (Cl [.pointer _,.pointer _,.pointer _] U (BL U (.func _ _ _) U ?_))));refine qA (Aw (AE (v:=(.func _ _ _)) U U U ?_));have ho:∀x∈[(b5,Bl 179 [ptr be]),(b4,Bl 3 [.int .i64 root]),(b3,Bl 90 [ptr bt])],w0.heap.size<=x.1:=fun x hx=>(H.own x hx).elim (fun h=>by cases h) id
 exact⟨b3,b4,b5,rfl,⟨_,H.get at1⟩,⟨_,H.get at2⟩,⟨_,H.get at0⟩,ho (b4,_) (qah _ (qad ..)),ho (b3,_) (qah _ (qah _ (qad ..))),ho (b5,_) (qad ..),H.ext⟩
theorem QE{bt bd bp ba fr:Nat}{A:Dev}{P:List Nat}{F Z:Mut}{N l:Nat}{J:List Nd->Mut->World->Prop}(JO:JOk bt bd bp ba fr A P F Z N l J)(hfr:fr<=5000){mx:Nat}(hfew:Few A mx)(hmx:mx<=1000000000){w:World}{M:Mut}(hJ:J [] M w)(hZ:∀x,Z x->x<w.heap.size){b3 b4 b5 be t3 t4 t5 te:Nat}{root:Int}(h4:w.heap[b4]?=some (Bl t4 [.int .i64 root]))(h3:w.heap[b3]?=some (Bl t3 [ptr bt]))(h5:w.heap[b5]?=some (Bl t5 [ptr be]))(he:w.heap[be]?=some (Bl te [.int .i64 0]))(n4:¬M b4)(n3:¬M b3)(n5:¬M b5)(ne:¬M be)(hr1 : -9223372036854775808<=root)(hr2:root<=9223372036854775807)(hN:(Dq A fr P.length root).2.length<=N) :
  Ret prog 151 #[.func (.yield l) #[] #[],ptr b4,ptr b3,ptr b5] w fun _ w'=>∃wx M',J (Dq A fr P.length root).2 M' wx/\Grown M M' w wx/\Ext [be] wx w'/\w'.heap[be]?=some (Bl te [.int .i64 (Dq A fr P.length root).1]):=by
 obtain⟨w0,rfl⟩:=qD w;obtain⟨g,hg⟩:=qD (Dq A fr P.length root);rw[<-hg]at hN |-;unfold Dq at hg;refine Ax (fn:=f151) func151 U [.func (.yield l) #[] #[],.pointer (some ⟨b4,0,none⟩),.pointer (some ⟨b3,0,none⟩),.pointer (some ⟨b5,0,none⟩)] U ?_;have H:=Ctx.start w0 [];refine Ad (Bq DE U ((by rw[Au h4];rfl)) ?_);refine AN U U (qA (Ar _ U ?_ ?_))
 .intro hA;replace hA:=Bh hA;rw[if_neg hA]at hg;have hg':g=DZ A fr P.length (17+1) root 0:=hg;refine Kq [([0,1,2,3],4),([5,6,7,8],9)] (fun z=>z.heap[b5]?=some (Bl t5 [ptr be])/\z.heap[b3]?=some (Bl t3 [ptr bt])/\z.heap[b4]?=some (Bl t4 [.int .i64 root])) [9] mixed (⟨h5,h3,h4⟩) ?_;refine A7 U U (BO Agt U (fun _ hx=>(by rw[Au hx.1];rfl)) ?_);refine BO KW U (fun _ hx=>(by rw[Au hx.2.1];rfl)) ?_;refine BO DE U (fun _ hx=>(by rw[Au hx.2.2];rfl)) ?_;refine FA U (.func _ _ _) U ?_;refine Bj ?_
  skip
  refine Ah qB (Um JO hfr hfew hmx 17 (JO.ext hJ (Ext.drew [] w0)) hZ root 0 (by omega) hr1 hr2 (by rw[<-hg'];simpa using hN)) U ?_;rintro v w3 ⟨rfl,M3,hJ3,g3⟩;rw[<-hg',qa7]at hJ3;rw[<-hg'];have gg:=(Grown.call0 (Ext.drew [] w0)).trans g3;have H:=Ctx.start1 (gg.keep he ne);refine Ab (Be (⟨gg.keep h5 n5,gg.keep h3 n3,gg.keep h4 n4⟩) (A7 U U ?_));refine Ic U (BX U U (BX U U (Bg U (Bj (Bk (.int _ _) FV U U U H at0 (by decide) ?_)))));rintro w H;refine Ab (CD U (B2 (Hi U U ?_)));exact⟨w3,M3,hJ3,gg,H.ext,H.get at0⟩
 .intro hA;replace hA:=Bi hA;rw[if_pos (by simpa using hA)]at hg;refine Ap (Hi U U ?_);exact⟨w0,M,by rw[hg];exact hJ,.call0 (.refl _ _),.refl _ _,by rw[hg];exact he⟩
def iv(x:Int):Value := .int .i64 x
abbrev IB(l:List Int):List Int:=l.mergeSort fun x y=>decide (x<=y)
theorem Pd(full:List Value)(ts:List Int)(h:ts.length<=full.length):(Go.Sort.putCells (Value.int .i64) 0 ts.toArray full.toArray).toList=ts.map iv++full.drop ts.length:=by
 apply qck;intro j
 by_cases hj:j<ts.length
 .rw[qc2 (by simpa using hj),qcz];simp[Go.Sort.putCells,hj,show j<full.length by omega,iv]
 .rw[qdf (by simp;omega),qcz,qcq]
  by_cases h2:j<full.length
  .simp[Go.Sort.putCells,hj,h2,show ts.length+(j - ts.length)=j by omega]
  .rw[qbu (by simp;omega)];simp[Go.Sort.putCells,h2]
theorem Acc{w:World}{b t c:Nat}{full:List Value}{l:List Int}(hb:w.heap[b]?=some (Bl t full))(hl:full.take l.length=l.map iv)(hsz:l.length<=1000000)(hf:l.length<=full.length:=by omega):
  Ret prog 125 #[.slice (some ⟨b,0,none⟩) l.length c] w fun v w'=>v=.tuple #[]/\w'.heap[b]?=some (Bl t ((IB l).map iv++full.drop l.length))/\Ext [b] w w':=by
 have hH:=Go.holds_of_blockI (ss:=l) hb (by rw[List.toList_toArray];exact hl);have h:=Go.Proofs.AnyM.slices_Sort_int sortA b 0 c l w hH (Al hb) (by omega);refine CallsIn.mono (callsIn_wide.2 h) ?_;rintro e w' ⟨rfl,n,os,rfl⟩;have g:=Go.grownBy_sortedI (n:=n) (os:=os) (w:=w) (g:=b) (IB l).toArray;refine⟨_,rfl,rfl,?_,?_⟩
 .rw[Go.heap_sortedI (IB l).toArray hb];have h1:=Pd full (IB l) (by rw[qcm];exact hf);rw[qcm]at h1;show some (Obj.cells _ t (0,0))=some (Obj.cells _ t (0,0));rw[<-h1]
 .obtain⟨g1,g2,g3,g4,g5⟩:=g;exact⟨g1,g2,g3,g4,fun x hx hn=>g5 x hx (by simpa using fun e=>hn (by simp[e]))⟩
theorem Yv(c:Nat)(w:World):Ret prog 125 #[.slice none 0 c] w fun v w'=>v=.tuple #[]/\w=w':=by
 refine CallsIn.mono (callsIn_wide.2 (Go.Proofs.AnyM.slices_Sort_int_none sortA none c w)) ?_;rintro e w' ⟨rfl,rfl⟩;exact⟨_,rfl,rfl,rfl⟩
structure GJ(w0:World)(bt bd bp ba fr:Nat)(A:Dev)(P:List Nat)(F:Mut)(tL tE s b l:Nat)(lo:Loop)(vals:List Value)(M:Mut)(w:World)(a:Option Addr)(n c:Nat)(full:List Value):Prop where
 M:M=fun x=>x=l\/x∈((b,Bl tL [.slice a n c])::ent a tE full).map (·.1)
 tx:Tx w bt bd bp ba fr A P F []
 loop:w.heap[l]?=some (.loop lo)
 blk:∀y∈(b,Bl tL [.slice a n c])::ent a tE full,w.heap[y.1]?=some y.2/\w0.heap.size<=y.1/\y.1≠l
 nd:((b,Bl tL [.slice a n c])::ent a tE full).Pairwise fun x y=>x.1≠y.1
 os:OS a n c s full vals
section
variable {w0 w wR wE wF:World}{bt bd bp ba fr:Nat}{A:Dev}{P:List Nat}{F M:Mut}{tL tE s b l:Nat}{lo lo2:Loop}{vals vals':List Value}{a a':Option Addr}{n n' c c':Nat}{full full':List Value}
theorem GJ.lt(G:GJ w0 bt bd bp ba fr A P F tL tE s b l lo vals M w a n c full):∀x,M x->x<w.heap.size:=fun x h=>by
 rw[G.M]at h
 rcases h with rfl|h
 .exact Al G.loop
 .obtain⟨y,hy,rfl⟩:=qak.1 h;exact Al (G.blk y hy).1
theorem GJ.ext(G:GJ w0 bt bd bp ba fr A P F tL tE s b l lo vals M w a n c full){w':World}(hx:Ext [] w w'):GJ w0 bt bd bp ba fr A P F tL tE s b l lo vals M w' a n c full :=
 ⟨G.M,G.tx.call hx,by rw[hx.block l (Al G.loop) (by simp)];exact G.loop,fun y hy=>⟨by rw[hx.block y.1 (Al (G.blk y hy).1) (by simp)];exact(G.blk y hy).1,(G.blk y hy).2⟩,G.nd,G.os⟩
theorem GJ.body(G:GJ w0 bt bd bp ba fr A P F tL tE s b l lo vals M w a n c full)(hxR:Ext [l] w wR):Ctx wR (((b,Bl tL [.slice a n c])::ent a tE full).map (·.1)) wR ((b,Bl tL [.slice a n c])::ent a tE full) :=
 Ctx.startL (fun y hy=>by rw[hxR.block y.1 (Al (G.blk y hy).1) (by simpa using(G.blk y hy).2.2)];exact(G.blk y hy).1) G.nd
theorem GJ.next(G:GJ w0 bt bd bp ba fr A P F tL tE s b l lo vals M w a n c full)(h0:∀x,TM F ba bt bp [] x->x<w0.heap.size)(hl0:w0.heap.size<=l)(hxR:Ext [l] w wR)(H:Ctx wR (((b,Bl tL [.slice a n c])::ent a tE full).map (·.1)) wE ((b,Bl tL [.slice a' n' c'])::ent a' tE full'))(hO:OS a' n' c' s full' vals')(hxF:Ext [l] wE wF)(hlF:wF.heap[l]?=some (.loop lo)) :
  GJ w0 bt bd bp ba fr A P F tL tE s b l lo vals' (fun x=>x=l\/x∈((b,Bl tL [.slice a' n' c'])::ent a' tE full').map (·.1)) wF a' n' c' full'/\Grown M (fun x=>x=l\/x∈((b,Bl tL [.slice a' n' c'])::ent a' tE full').map (·.1)) w wF:=by
 have hll:=Al G.loop;have hsR:=hxR.size
 have hnew:∀y∈(b,Bl tL [.slice a' n' c'])::ent a' tE full',w0.heap.size<=y.1/\y.1≠l/\(y.1∈((b,Bl tL [.slice a n c])::ent a tE full).map (·.1)\/w.heap.size<=y.1):=fun y hy=>by
  have hsz:w0.heap.size<=w.heap.size:=by omega
  rcases H.own y hy with h|h
  .obtain⟨z,hz,he⟩:=qak.1 h;exact⟨by rw[<-he];exact(G.blk z hz).2.1,by rw[<-he];exact(G.blk z hz).2.2,.inl h⟩
  .exact⟨by omega,by omega,.inr (by omega)⟩
 have hx:Ext (l::((b,Bl tL [.slice a n c])::ent a tE full).map (·.1)) w wF :=
  ((hxR.mono (fun x h=>by rw[qab.1 h];exact qad ..)).trans (H.ext.mono fun x h=>qah _ h)).trans (hxF.mono fun x h=>by rw[qab.1 h];exact qad ..)
 refine⟨⟨rfl,G.tx.side hx fun x h hT=>?_,hlF,fun y hy=>⟨?_,(hnew y hy).1,(hnew y hy).2.1⟩,H.nd,hO⟩,⟨⟨_,fun x h=>?_,hx⟩,fun x h=>?_⟩⟩
 .have:=h0 x hT
  rcases qaa.1 h with rfl|h
  .omega
  .obtain⟨y,hy,rfl⟩:=qak.1 h;have:=(G.blk y hy).2.1;omega
 .rw[hxF.block y.1 (Al (H.blk y hy)) (by simpa using(hnew y hy).2.1)];exact H.blk y hy
 .rw[G.M]
  rcases qaa.1 h with rfl|h
  .exact .inl U
  .exact .inr h
 .rw[G.M]
  rcases h with rfl|h
  .exact .inl (.inl U)
  .obtain⟨y,hy,rfl⟩:=qak.1 h;exact(hnew y hy).2.2.imp .inr id
end
theorem FJ{P:Program}{e:Env}{w:World}{fn:Func}{R:Value->World->Prop}{a1 a2:Tmp}{t1 t2:TypeId}{b1 b2:Nat}(hr:fn.results=#[.cell a1 t1,.cell a2 t2])(h1:e.g a1=.pointer (some ⟨b1,0,none⟩))(h2:e.g a2=.pointer (some ⟨b2,0,none⟩))(hg1:Dc P t1=some false)(hg2:Dc P t2=some false)(h:Marks e.ds w fun w'=>∃v1 v2 x1 x2 l1 l2,w'.heap[b1]?=some (Bl x1 (v1::l1))/\w'.heap[b2]?=some (Bl x2 (v2::l2))/\R (.tuple #[v1,v2]) w'):Ww P fn R .ret e w :=
 Marks.mono (fun w' ⟨v1,v2,x1,x2,l1,l2,hb1,hb2,hR⟩ tmps ht=>by
  have g1:=(ht a1).trans h1;have g2:=(ht a2).trans h2;rw[qbk]at g1 g2;have k1:(loadVar t1 ⟨b1,0,none⟩).run P w'=.ok v1 w':=F8 hg1 (by rw[Au hb1];rfl);have k2:(loadVar t2 ⟨b2,0,none⟩).run P w'=.ok v2 w':=F8 hg2 (by rw[Au hb2];rfl)
  exact⟨_,by simp[results,hr,g1,g2,asAddr,k1,k2],hR⟩) h
theorem Jy{w6 w:World}{ids:List Nat}{L':List (Nat × Obj)}(H:Ctx w6 ids w L'){Db:Nat}(hD6:w6.heap[Db]?=some (.deferred (some [])))(hids:Db∉ids){K:World->Prop}{ds:List Deferred}(hds:ds=[{ target := .collected Db,args:=#[] }])(hK:∀wF,Ext [Db] w wF->(∀(b t:Nat) (l:List Value),w.heap[b]?=some (Bl t l)->wF.heap[b]?=some (Bl t l))->K wF):Marks ds w K:=by
 have hD:w.heap[Db]?=some (.deferred (some [])):=by rw[H.ext.block Db (Al hD6) hids];exact hD6
 subst hds;refine⟨Db,rfl,hD,hK _ (Ext.setB w Db _) fun b t l hb=>?_⟩
 rw[(Ext.setB w Db _).block b (Al hb) (by
  rw[qab];rintro rfl;rw[hD]at hb
  cases hb)]
 exact hb
theorem Acd{w:World}{a:Option Addr}{n c t:Nat}{full:List Value}{l:List Int}(O:OS a n c 1 full (l.map iv))(hb:∀y∈ent a t full,w.heap[y.1]?=some y.2)(hsz:l.length<=1000000) :
  Ret prog 125 #[.slice a n c] w fun v w'=>v=.tuple #[]/\∃full',(∀y∈ent a t full',w'.heap[y.1]?=some y.2)/\OS a n c 1 full' ((IB l).map iv)/\Ext ((ent a t full).map (·.1)) w w':=by
 have hn:n=l.length:=O.num
 cases ha:a with
 |none =>
  have h0:=O.none' ha;have h1:=O.le;have hl:l=[]:=qa8 (by omega);subst hl hn ha;refine Ret.mono (Yv c w) ?_;rintro v w' ⟨rfl,rfl⟩;exact⟨rfl,full,(fun y hy=>by cases hy),by simpa[IB]using O,.refl _ _⟩
 |some p =>
  have hp:=O.zero p ha;subst ha;rw[hp]at hb O |-;have h2:=O.len;have h3:=O.le;have hpre:=O.pre;rw[qb7]at hpre h2;subst hn;refine Ret.mono (Acc (c:=c) (hb (p.block,_) (qab.2 U)) hpre hsz) ?_;rintro v w' ⟨rfl,h4,h5⟩;refine⟨rfl,_,fun y hy=>by rw[qab.1 hy];exact h4,⟨O.zero,O.none',?_,O.le,?_⟩,h5⟩
  .rw[qam,qan,qcm,qbe];omega
  .rw[qb7,qdt (by rw[qan,qcm])]
theorem _root_.Go.GV.Ctx.sorted{w6 w7:World}{S:List Nat}{b5 b4 t:Nat}{o5 o4:Obj}{a:Option Addr}{full full':List Value}(H:Ctx w6 S w6 ((b5,o5)::(b4,o4)::ent a t full))(hf:∀y∈ent a t full',w7.heap[y.1]?=some y.2)(hx:Ext ((ent a t full).map (·.1)) w6 w7)(h4:∀y∈ent a t full,b4≠y.1)(h5:∀y∈ent a t full,b5≠y.1)(hS:S=((b5,o5)::(b4,o4)::ent a t full).map (·.1)):Ctx w6 S w7 ((b5,o5)::(b4,o4)::ent a t full'):=by
 subst hS
 have hid:∀y∈ent a t full',∃z∈ent a t full,z.1=y.1:=fun y hy=>by
  cases a with
  |none=>cases hy
  |some q=>rw[qab.1 hy];exact⟨_,qab.2 rfl,rfl⟩
 have hnd:=qbh.1 H.nd;refine⟨hx.mono fun x h=>qah _ (qah _ h),fun y hy=>?_,qbh.2 ⟨fun y hy=>?_,qbh.2 ⟨fun y hy=>?_,?_⟩⟩,fun y hy => .inl ?_⟩
 .rcases qaa.1 hy with rfl|hy
  .rw[hx.block b5 (Al (H.get at0)) fun h=>by obtain⟨y,hy,he⟩:=qak.1 h;exact h5 y hy he.symm];exact H.get at0
  .rcases qaa.1 hy with rfl|hy
   .rw[hx.block b4 (Al (H.get at1)) fun h=>by obtain⟨y,hy,he⟩:=qak.1 h;exact h4 y hy he.symm];exact H.get at1
   .exact hf y hy
 .rcases qaa.1 hy with rfl|hy
  .exact hnd.1 _ (qad ..)
  .obtain⟨z,hz,he⟩:=hid y hy;rw[<-he];exact h5 z hz
 .obtain⟨z,hz,he⟩:=hid y hy;rw[<-he];exact h4 z hz
 .cases a with
  |none=>exact List.Pairwise.nil
  |some q=>exact qea ..
 .rcases qaa.1 hy with rfl|hy
  .exact qad ..
  .rcases qaa.1 hy with rfl|hy
   .exact qah _ (qad ..)
   .obtain⟨z,hz,he⟩:=hid y hy;rw[<-he];exact qah _ (qah _ (qak.2 ⟨z,hz,rfl⟩))
def Km(A:Dev)(fr sz:Nat)(root:Int):Int × List Int :=
 if Gs sz root≠0 then(1,[])else if(Dq A fr sz root).1≠0 then((Dq A fr sz root).1,[])else(0,IB ((Dq A fr sz root).2.map (·.1)))
theorem Ace{fr:Nat}{w:World}{bt bd bp ba:Nat}{A:Dev}{P:List Nat}{F:Mut}(T:Tx w bt bd bp ba fr A P F [])(root:Int){mx:Nat}(hfew:Few A mx)(hmx:mx<=1000000000)(hfr:fr<=5000:=by decide)(hr1: -9223372036854775808<=root:=by omega)(hr2:root<=9223372036854775807:=by omega)(hN:(Dq A fr P.length root).2.length<=100000:=by omega):
  Ret prog 92 #[ptr bt,.int .i64 root] w fun v w'=>∃a c,v=.tuple #[.slice a (Km A fr P.length root).2.length c,.int .i64 (Km A fr P.length root).1]/\Rd w' a 1 (fun x:Int=>[.int .i64 x]) (Km A fr P.length root).2/\((Km A fr P.length root).2=[]\/w.heap.size<=(adr a).block)/\(Km A fr P.length root).2.length<=c/\Ext [] w w':=by
 obtain⟨w0,rfl⟩:=qD w;obtain⟨wt,hwt⟩:=qD (Km A fr P.length root);rw[<-hwt];unfold Km at hwt;have h0:=T.mlt;have H:=Ctx.start w0 [];refine HI (fn:=f92) func92 U [.pointer (some ⟨bt,0,none⟩),.int .i64 root] U ?_;refine Ad (Bf zc_40 H ?_);rintro b4 w - H;refine Bf W7 H ?_;rintro b5 w - H;refine qA (Aq (Ad (Ao U (Ae U (Ah qB (Ny (T.call H.ext) root) U ?_)))));rintro v w2 ⟨rfl,rfl⟩;refine Ac U (qA (Ad (Ae U (AN U U (qA (Ar _ U ?_ ?_))))))
 .intro hA;replace hA:=Bh hA;rw[if_pos hA]at hwt;have he:Gs P.length root=1:=by unfold Gs at hA |-;split <;> simp_all
  rw[he];refine Ad (Ae U (Bk (.slice _ _ _) Ox U U U H at1 (by decide) ?_));rintro w H;refine Bk (.int _ _) FV U U U H at0 (by decide) ?_;rintro w H;refine qA (Aw (An (FJ U U U HK EX ?_)));exact⟨_,_,_,_,_,_,H.get at1,H.get at0,none,0,by rw[hwt];rfl,by rw[hwt];exact Rd.nil,by rw[hwt];exact .inl rfl,by rw[hwt];exact qae _,H.ext⟩
 .intro hA;replace hA:=Bi hA;rw[if_neg (by simpa using hA)]at hwt;obtain⟨ng,hng⟩:=qD (Dq A fr P.length root);rw[<-hng]at hwt hN;refine Ap (Aa (Aq (Ad (Ao U (Ae U ?_)))));have hb4w:=H.lt (k:=1) rfl;have hb5w:=H.lt (k:=0) rfl;refine Ah qB (Un bt b5 root _) U ?_;rintro v w3 ⟨x3,x4,x5,rfl,⟨t4,hx4⟩,⟨t3,hx3⟩,⟨t5,hx5⟩,n4,n3,n5,hxn⟩;replace H:=H.call hxn;refine qA (AB (FS U qB ?_));intro fn tmps hts htm Db l w2 hDb hl hx2 hD hrec;obtain⟨lo,hlo,hrec'⟩:∃lo,lo=_/\w2.heap[l]?=some (.loop lo):=⟨_,rfl,hrec⟩;have hw03:=H.ext;have hs03:=hw03.size;have hs32:=hx2.size;have up2:∀{b:Nat} {o:Obj},w3.heap[b]?=some o->w2.heap[b]?=some o:=fun{b o} g=>by rw[hx2.block b (Al g) (by simp)];exact g
  have hb4:=H.get at1;have hb5:=H.get at0;have hb45:=H.ne at1 at0 (by decide);have ho4:w0.heap.size<=b4:=(H.own _ (qah _ (qad ..))).elim (fun h=>by cases h) id;have ho5:w0.heap.size<=b5:=(H.own _ (qad ..)).elim (fun h=>by cases h) id;have hl4:=Al hb4;have hl5:=Al hb5;have hxl4:=Al hx4;have hxl3:=Al hx3;have hxl5:=Al hx5;have hN':(Dq A fr P.length root).2.length<=100000:=by rw[<-hng];exact hN
  have JO:JOk bt bd bp ba fr A P F Z0 100000 l (fun v M w=>∃a n c full,GJ w0 bt bd bp ba fr A P F 40 3 1 b4 l lo (v.map fun x=>iv x.1) M w a n c full):=by
   refine⟨fun{v M w} h=>?_,fun{v M w w'} h hx=>?_,fun{v M w} h=>?_,?_⟩
   .obtain⟨a,n,c,full,G⟩:=h;exact G.lt
   .obtain⟨a,n,c,full,G⟩:=h;exact⟨a,n,c,full,G.ext hx⟩
   .obtain⟨a,n,c,full,G⟩:=h;exact G.tx
   .rintro v M w page i a7 n7 c7 L7 ⟨a,n,c,full,G⟩ hv I hL hLb hpg;have hn:n=v.length:=by have:=G.os.num;exact this
    have hloop:=G.loop;subst hlo;refine Jd hloop U (GN _ (Ln hts htm) ?_);refine A5 (Ac U (Ab (Jn hloop U ?_)));intro wR lo2 hxR hlR hlo2;have H:=G.body hxR;have O:=G.os;refine AB (A5 (AG HK U H at0 U (Ae U (C3 [.int .i64 page] (.int .i64 page) EZ H1 XL U U U U H ?_))));rintro b21 w - H;refine Df (L:=[_]) EZ EZ H1 by_3 XL U U U H O U (by simp[AX]) ?_;rintro a22 c22 f22 w H O22;refine Bk (.slice _ _ _) Ox U U U H at0 (by(simp;done)) ?_;rintro w H;refine Ab (AH ?_);have H9:=H
    have hlE:w.heap[l]?=some (.loop lo2):=by
     rw[H9.ext.block l (Al hlR) fun h=>?_]
     .exact hlR
     .obtain⟨y,hy,he⟩:=qak.1 h;exact(G.blk y hy).2.2 he
    refine GF hlE hlo2 U U ?_;intro wF hxF hlF;have O23:OS a22 (n+1) c22 1 f22 ((v++[(page,i,L7)]).map fun x=>iv x.1):=by rw[qa0];exact O22
    obtain⟨G9,g9⟩:=G.next h0 (by omega) hxR H9 O23 hxF hlF
    exact⟨rfl,_,⟨a22,n+1,c22,f22,G9⟩,g9⟩
  have hJ0:(fun(v:List Nd) (M:Mut) (w:World)=>∃a n c full,GJ w0 bt bd bp ba fr A P F 40 3 1 b4 l lo (v.map fun x=>iv x.1) M w a n c full) [] (fun x=>x=l\/x∈((b4,Bl 40 [.slice none 0 0])::ent none 3 []).map (·.1)) w2:=by
   refine⟨none,0,0,[],rfl,T.call (hw03.trans hx2),hrec',fun y hy=>?_,qea ..,OS.nil⟩;rw[qab.1 hy];exact⟨up2 hb4,ho4,by dsimp only;omega⟩
  have hnM:∀x,x≠l->x≠b4->¬(x=l\/x∈((b4,Bl 40 [.slice none 0 0])::ent none 3 []).map (·.1)):=fun x h1 h2 h=>by
   rcases h with h|h
   .exact h1 h
   .exact h2 (by simpa[ent]using h)
  refine Ret.mono (QE JO hfr hfew hmx hJ0 (fun x h=>h.elim) (up2 hx4) (up2 hx3) (up2 hx5) (up2 hb5) (hnM _ (by omega) (by omega)) (hnM _ (by omega) (by omega)) (hnM _ (by omega) (by omega)) (hnM _ (by omega) (Ne.symm hb45)) hr1 hr2 hN') ?_;rintro v w4 ⟨wx,Mx,⟨a,n,c,full,G⟩,gx,hx5w,he5⟩;rw[<-hng]at G he5;have hloop:=G.loop;have hb5l:b5≠l:=by omega
  have hx1:w4.heap[l]?=some (.loop lo):=by rw[hx5w.block l (Al hloop) (by simpa using fun h=>hb5l h.symm)];exact hloop
  refine⟨_,hx1,by subst hlo;exact(fun h=>by cases h),Gb (by rw[hlo]) ?_⟩;have hx6:=Ext.setB w4 l (.loop { lo with state := .exhausted });generalize w4.putObj l (.loop { lo with state := .exhausted })=w6 at hx6 |-
  have hEnt:∀y∈(b4,Bl 40 [.slice a n c])::ent a 3 full,w6.heap[y.1]?=some y.2:=fun y hy=>by
   have h1:=G.blk y hy
   have h2:y.1≠b5:=fun e=>by
    rcases gx.2 y.1 (by rw[G.M];exact .inr (qak.2 ⟨y,hy,rfl⟩))with h|h
    .exact hnM y.1 h1.2.2 (fun e4=>hb45 (e4 ▸ e)) h
    .omega
   rw[hx6.block y.1 (qas (Al h1.1) hx5w.size) (by simpa using h1.2.2),hx5w.block y.1 (Al h1.1) (by simpa using h2)];exact h1.1
  have hb56:w6.heap[b5]?=some (Bl 28 [.int .i64 ng.1]):=by
   rw[hx6.block b5 (Al he5) (by simpa using hb5l)];exact he5
  obtain⟨⟨Sg,hSg,hxg⟩,hgg⟩:=gx;have hsx:=hxg.size;have hs45:=hx5w.size;have hs46:=hx6.size;have hM2:∀x,(x=l\/x∈((b4,Bl 40 [.slice none 0 0])::ent none 3 []).map (·.1))->x=l\/x=b4:=fun x h=>h.imp id fun h=>by simpa[ent]using h
  have E06:Ext [] w0 w6:=(((hw03.trans hx2).then hxg fun x h => .inr (by rcases hM2 x (hSg x h)with h|h <;> omega)).then hx5w fun x h => .inr (by rw[qab.1 h];exact ho5)).then hx6 fun x h => .inr (by rw[qab.1 h];omega)
  have hD6:w6.heap[Db]?=some (.deferred (some [])):=by
   rw[hx6.block Db (by have:=Al hD;omega) (by rw[qab];omega),hx5w.block Db (by have:=Al hD;omega) (by rw[qab];omega),hxg.block Db (Al hD) fun h=>by rcases hM2 _ (hSg _ h)with h|h <;> omega];exact hD
  have hEne:∀y∈(b4,Bl 40 [.slice a n c])::ent a 3 full,b5≠y.1:=fun y hy e=>by
   have h1:=G.blk y hy
   rcases hgg y.1 (by rw[G.M];exact .inr (qak.2 ⟨y,hy,rfl⟩))with h|h
   .rcases hM2 _ h with h|h
    .exact hb5l (e.trans h)
    .exact hb45 (h ▸ e ▸ U)
   .omega
  have hEge:∀x∈(((b5,Bl 28 [.int .i64 ng.1])::(b4,Bl 40 [.slice a n c])::ent a 3 full).map (·.1)),w0.heap.size<=x/\x≠Db:=fun x h=>by
   obtain⟨y,hy,rfl⟩:=qak.1 h
   rcases qaa.1 hy with rfl|hy
   .exact⟨ho5,by dsimp only;omega⟩
   .refine⟨(G.blk y hy).2.1,fun e=>?_⟩;have h1:=hEnt y hy;rw[e,hD6]at h1
    rcases qaa.1 hy with rfl|hy
    .cases h1
    .cases ha:a with
     |none=>rw[ha]at hy;cases hy
     |some q=>rw[ha]at hy;rw[qab.1 hy]at h1;cases h1
  have H:=Ctx.startL (L:=(b5,Bl 28 [.int .i64 ng.1])::(b4,Bl 40 [.slice a n c])::ent a 3 full) (w:=w6) (fun y hy=>by
   rcases qaa.1 hy with rfl|hy
   .exact hb56
   .exact hEnt y hy) (qbh.2 ⟨hEne,G.nd⟩)
  have hnn:n=ng.2.length:=by have:=G.os.num;exact this
  have hDn:Db∉(((b5,Bl 28 [.int .i64 ng.1])::(b4,Bl 40 [.slice a n c])::ent a 3 full).map (·.1)):=fun h=>(hEge Db h).2 rfl;refine AH (Aa (Aq (Ad (AG EX U H at0 U (AN U U (qA (Ar _ U ?_ ?_)))))))
  .intro hB;replace hB:=Bh hB;rw[if_pos hB]at hwt;refine BQ [([0],1),([],2)] (fun z=>z.heap[b5]?=some (Bl 28 [.int .i64 ng.1])) [2] mixed (H.drew.get at0) (A7 U U ?_);refine BO EX U (fun _ hx=>(by rw[Au hx];rfl)) ?_;refine Bj ?_;replace H:=H.drew;refine Bk (.slice _ _ _) Ox U U U H at1 (by(simp;done)) ?_;rintro w H;refine Ab (Be (H.get at0) (A7 U U ?_));refine Bj (Bk (.int _ _) FV U U U H at0 (by(simp;done)) ?_);rintro w H;refine Ab (CD U (B2 (Aw (An (FJ U U U HK EX (Jy H hD6 hDn U fun wF hxF hkF=>?_))))));exact⟨_,_,_,_,_,_,hkF _ _ _ (H.get at1),hkF _ _ _ (H.get at0),none,0,by rw[hwt];rfl,by rw[hwt];exact Rd.nil,by rw[hwt];exact .inl rfl,by rw[hwt];exact qae _,(E06.then H.ext fun x h => .inr (hEge x h).1).then hxF fun x h => .inr (by rw[qab.1 h];omega)⟩
  .intro hB;replace hB:=Bi hB;have hB':ng.1=0:=by simpa using hB
   rw[if_neg (by simpa using hB)]at hwt;have O9:OS a n c 1 full ((ng.2.map (·.1)).map iv):=by rw[qbw];exact G.os
   refine Ap (Aa (Ad (AG HK U H at1 U (Ah qB (Acd (t:=3) O9 (fun y hy=>H.blk y (qah _ (qah _ hy))) (by rw[qan];omega)) U ?_))));rintro v w7 ⟨rfl,full',hf7,O7,hx7⟩;have H7:Ctx w6 _ w7 ((b5,Bl 28 [.int .i64 ng.1])::(b4,Bl 40 [.slice a n c])::ent a 3 full'):=H.sorted hf7 hx7 (fun y hy=>(qbh.1 G.nd).1 y hy) (fun y hy=>hEne y (qah _ hy)) rfl;replace H:=H7;refine qA (Ad (AG HK U H at1 U (Bk (.slice _ _ _) Ox U U U H at1 (by(simp;done)) ?_)));rintro w H;refine Bk (.int _ _) FV U U U H at0 (by(simp;done)) ?_;rintro w H;refine qA (Aw ?_);have hs9:(IB (ng.2.map (·.1))).length=n:=by rw[qcm,qan,hnn]
   refine FJ U U U HK EX (Jy H hD6 hDn U fun wF hxF hkF=>?_);refine⟨_,_,_,_,_,_,hkF _ _ _ (H.get at1),hkF _ _ _ (H.get at0),a,c,by rw[hwt,hs9],?_,?_,?_,(E06.then H.ext fun x h => .inr (hEge x h).1).then hxF fun x h => .inr (by rw[qab.1 h];omega)⟩
   .rw[hwt]
    exact OS.rd1 (t:=3) (f:=iv) O7 fun y hy=>by
     have h1:=H.blk y (qah _ (qah _ hy))
     cases ha:a with
     |none=>rw[ha]at hy;cases hy
     |some q =>
      rw[ha]at hy;rw[qab.1 hy]at h1 |-;exact hkF _ _ _ h1
   .rw[hwt]
    cases ha:a with
    |none =>
     left;have h8:=O7.none' ha;have h9:=O7.le;exact qa8 (by rw[hs9];omega)
    |some q =>
     right;have h8:=(hEge q.block (by rw[ha];simp[ent])).1;obtain⟨qb,qo,qs⟩:=q;exact h8
   .rw[hwt,hs9];exact O7.le
def prI(x:It):Pr:=(x.key,x.val)
def Kn(kf:Byt)(i:Bool)(l:List It):List Pr:=if i=true then[]else(l.filter fun x=>decide (0<=Ds x.key kf)).map prI
def Jz(kf:Byt)(v:List Nd):List Pr:=v.flatMap fun x=>Kn kf x.2.1 x.2.2
def Uo(kt:Byt)(L:List Pr):List Pr:=if kt=[]then L else L.takeWhile fun p=>decide (Ds p.1 kt<0)
def LI(A:Dev)(fr sz:Nat)(root:Int)(kf kt:Byt):Int × List Pr :=
 if Gs sz root≠0 then(1,[])else if(Dq A fr sz root).1≠0 then((Dq A fr sz root).1,[])else(0,Uo kt (Jz kf (Dq A fr sz root).2))
def K1(m:Im):List Value:=[.slice m.ka m.it.key.length m.kc,.slice m.va m.it.val.length m.vc]
theorem LJ(m:Im):∀v∈K1 m,AX v=true:=fun v hv=>by
 simp only[K1,qaa,qaj,or_false]at hv
 rcases hv with rfl|rfl <;> rfl
structure Prs(w:World)(M:Mut)(a:Option Addr)(n c:Nat)(L:List Pr):Prop where
 ex:∃ps:List Im,Rd w a 2 K1 ps/\(ps=[]\/¬M (adr a).block)/\ps.map (fun m=>prI m.it)=L/\∀m∈ps,m.Ok w M
 num:n=L.length
 le:n<=c
theorem Rdx.read{w w':World}{M:Mut}{a:Option Addr}{l:Byt}{S:List Nat}(X:Rdx w M a l)(hx:Ext S w w')(hS:∀x∈S,M x):Rd w' a 1 B8 l:=by
 obtain⟨R,hn⟩:=X
 rcases hn with rfl|hn
 .exact Rd.nil
 .exact R.ext hx fun h=>hn (hS _ h)
theorem VE{kf:Byt}{i:Bool}{l:List It}{k:Nat}{x:It}(h:l[k]?=some x):Kn kf i (l.take (k+1))=Kn kf i (l.take k)++if(decide (i=false) && decide (0<=Ds x.key kf))=true then[prI x]else[]:=by
 unfold Kn
 cases i with
 |true=>simp
 |false =>
  simp only[qc5,if_false,decide_true,Bool.true_and,qaq];rw[Bt h,qbj,qa0]
  congr 1
  by_cases hc:0<=Ds x.key kf
  .rw[if_pos hc,qbo,qai hc];rfl
  .rw[if_neg hc,qbo,qag hc];rfl
theorem Sq{α:Type}{p:α->Bool}:∀{L:List α} {i:Nat},(∀(j:Nat) (x:α),j<i->L[j]?=some x->p x=true)->(∀x,L[i]?=some x->p x=false)->L.takeWhile p=L.take i
 | [],i,_,_=>by simp
 |x::L,0,_,h=>by rw[qcn,h x rfl];rfl
 |x::L,i+1,h1,h2=>by
  rw[qcn,h1 0 x (by omega) rfl,qeq];simp only[if_true];rw[Sq (i:=i) (fun j y hj hy=>h1 (j+1) y (by omega) (by simpa using hy)) fun y hy=>h2 y (by simpa using hy)]
theorem Acf{wx z:World}{Mx:Mut}{w0 w2:World}{S':List Nat}{ps:List Im}(hok:∀m∈ps,m.Ok wx (MZ Mx (Old w2)))(hx:Ext S' wx z)(hS:∀x∈S',Mx x\/x<w2.heap.size)(hle:w0.heap.size<=w2.heap.size):∀m∈ps,m.Ok z (Old w0):=fun m hm =>
 (hok m hm).turn ⟨⟨S',fun x h=>hS x h,hx⟩,fun _ h => .inl (.inr (qas h hle))⟩
structure SJ(w0:World)(bt bd bp ba fr:Nat)(A:Dev)(P:List Nat)(F:Mut)(b l:Nat)(lo:Loop)(b6:Nat)(o6:Obj)(Z:Mut)(kf:Byt)(v:List Nd)(M:Mut)(w:World)(a:Option Addr)(n c:Nat)(full:List Value)(ps:List Im):Prop where
 G:GJ w0 bt bd bp ba fr A P F 36 68 2 b l lo (ps.flatMap K1) M w a n c full
 x0:Ext [] w0 w
 prs:ps.map (fun m=>prI m.it)=Jz kf v
 ok:∀m∈ps,m.Ok w (MZ M Z)
 h6:w.heap[b6]?=some o6
 n6:¬M b6
theorem SJ.ext{w0 w w':World}{bt bd bp ba fr:Nat}{A:Dev}{P:List Nat}{F:Mut}{b l:Nat}{lo:Loop}{b6:Nat}{o6:Obj}{Z:Mut}{kf:Byt}{v:List Nd}{M:Mut}{a:Option Addr}{n c:Nat}{full:List Value}{ps:List Im}(S:SJ w0 bt bd bp ba fr A P F b l lo b6 o6 Z kf v M w a n c full ps)(hx:Ext [] w w'):SJ w0 bt bd bp ba fr A P F b l lo b6 o6 Z kf v M w' a n c full ps :=
 ⟨S.G.ext hx,S.x0.trans hx,S.prs,fun m hm=>(S.ok m hm).call hx,by rw[hx.block b6 (Al S.h6) (by simp)];exact S.h6,S.n6⟩
theorem Acg{fr:Nat}{w:World}{bt bd bp ba:Nat}{A:Dev}{P:List Nat}{F:Mut}(T:Tx w bt bd bp ba fr A P F [])(root:Int)(fa ta:Option Addr)(fc tc fn' tn:Nat)(kf kt:Byt)(Rf:Rd w fa 1 B8 kf)(hfn:kf.length=fn')(Rt:Rd w ta 1 B8 kt)(htn:kt.length=tn){mx:Nat}(hfew:Few A mx)(hmx:mx<=1000000000)(hN:(Dq A fr P.length root).2.length<=100000)(hfr:fr<=5000:=by decide)(hr1: -9223372036854775808<=root:=by omega)(hr2:root<=9223372036854775807:=by omega):
  Ret prog 100 #[ptr bt,.int .i64 root,.slice fa fn' fc,.slice ta tn tc] w fun v w'=>∃a c,v=.tuple #[.slice a (LI A fr P.length root kf kt).2.length c,.int .i64 (LI A fr P.length root kf kt).1]/\Prs w' (Old w) a (LI A fr P.length root kf kt).2.length c (LI A fr P.length root kf kt).2/\Ext [] w w':=by
 subst hfn htn;obtain⟨w0,rfl⟩:=qD w;obtain⟨wt,hwt⟩:=qD (LI A fr P.length root kf kt);rw[<-hwt];unfold LI at hwt;have h0:=T.mlt;have H:=Ctx.start w0 [];refine HI (fn:=f100) func100 U [.pointer (some ⟨bt,0,none⟩),.int .i64 root,.slice fa kf.length fc,.slice ta kt.length tc] U ?_;refine Ad (BN _ (.slice _ _ _) U U H ?_);rintro b6 w - H;refine Bf zc_36 H ?_;rintro b8 w - H;refine Bf W7 H ?_;rintro b9 w - H;refine qA (Aq (Ad (Ao U (Ae U (Ah qB (Ny (T.call H.ext) root) U ?_)))));rintro v w2 ⟨rfl,rfl⟩;refine Ac U (qA (Ad (Ae U (AN U U (qA (Ar _ U ?_ ?_))))))
 .intro hA;replace hA:=Bh hA;rw[if_pos hA]at hwt;have he:Gs P.length root=1:=by unfold Gs at hA |-;split <;> simp_all
  rw[he];refine Ad (Ae U (Bk (.slice _ _ _) Tu U U U H at1 (by decide) ?_));rintro w H;refine Bk (.int _ _) FV U U U H at0 (by decide) ?_;rintro w H;refine qA (Aw (An (FJ U U U MQ EX ?_)));exact⟨_,_,_,_,_,_,H.get at1,H.get at0,none,0,by rw[hwt];rfl,by rw[hwt];exact⟨⟨[],Rd.nil,.inl rfl,rfl,fun m h=>by cases h⟩,rfl,qae _⟩,H.ext⟩
 .intro hA;replace hA:=Bi hA;rw[if_neg (by simpa using hA)]at hwt;obtain⟨ng,hng⟩:=qD (Dq A fr P.length root);rw[<-hng]at hwt hN;refine Ap (Aa (Aq (Ad (Ao U (Ae U ?_)))));have hb8w:=H.lt (k:=1) rfl;have hb9w:=H.lt (k:=0) rfl;have hb6w:=H.lt (k:=2) rfl;refine Ah qB (Un bt b9 root _) U ?_;rintro v w3 ⟨x3,x4,x5,rfl,⟨t4,hx4⟩,⟨t3,hx3⟩,⟨t5,hx5⟩,n4,n3,n5,hxn⟩;replace H:=H.call hxn;refine qA (AB (FS U qB ?_));intro fn tmps hts htm Db l w2 hDb hl hx2 hD hrec;obtain⟨lo,hlo,hrec'⟩:∃lo,lo=_/\w2.heap[l]?=some (.loop lo):=⟨_,rfl,hrec⟩;have hw03:=H.ext;have hs03:=hw03.size;have hs32:=hx2.size;have up2:∀{b:Nat} {o:Obj},w3.heap[b]?=some o->w2.heap[b]?=some o:=fun{b o} g=>by rw[hx2.block b (Al g) (by simp)];exact g
  have hb8:=H.get at1;have hb9:=H.get at0;have hb6:=H.get at2;have hb89:=H.ne at1 at0 (by decide);have hb68:=H.ne at2 at1 (by decide);have ho8:w0.heap.size<=b8:=(H.own _ (qah _ (qad ..))).elim (fun h=>by cases h) id;have ho9:w0.heap.size<=b9:=(H.own _ (qad ..)).elim (fun h=>by cases h) id;have hl8:=Al hb8;have hl9:=Al hb9;have hl6:=Al hb6;have hxl4:=Al hx4;have hxl3:=Al hx3;have hxl5:=Al hx5;have hN':(Dq A fr P.length root).2.length<=100000:=by rw[<-hng];exact hN
  have JO:JOk bt bd bp ba fr A P F (Old w2) 100000 l (fun v M w=>v.length<=100000/\∃a n c full ps,n<=65535*v.length/\SJ w0 bt bd bp ba fr A P F b8 l lo b6 (Bl 24 [.slice fa kf.length fc]) (Old w2) kf v M w a n c full ps):=by
   refine⟨fun{v M w} h=>?_,fun{v M w w'} h hx=>?_,fun{v M w} h=>?_,?_⟩
   .obtain⟨-,a,n,c,full,ps,-,S⟩:=h;exact S.G.lt
   .obtain⟨hv,a,n,c,full,ps,hn,S⟩:=h;exact⟨hv,a,n,c,full,ps,hn,S.ext hx⟩
   .obtain⟨-,a,n,c,full,ps,-,S⟩:=h;exact S.G.tx
   .rintro v M wJ page i a7 n7 c7 L7 ⟨hvl,a,n,c,full,ps,hnv,S⟩ hv I hL hLb hpg;have G:=S.G;have hloop:=G.loop;obtain⟨ms,R7,hR7,hl7,hok7⟩:=I.ex;have hn7:=I.num;have hml7:ms.length=n7:=by rw[hn7,<-hl7,qan]
    subst hlo;refine Jd hloop U (GN _ (Ln hts htm) ?_);have H:=Ctx.start wJ [];refine A5 (Bf CJ H ?_);rintro b12 w - H;refine Bc Bm U U U (by simp[AX]) H at0 U ?_;rintro w H;refine Ab ?_;have hxa:=H.ext;have SA:=S.ext hxa;have GA:=SA.G;refine Jn GA.loop U ?_;intro wR lo2 hxR hlR hlo2;have hb12:=H.get at0;have ho12:wJ.heap.size<=b12:=(H.own _ (qad ..)).elim (fun h=>by cases h) id
    have hb12R:wR.heap[b12]?=some (NBl i a7 n7 c7):=by
     rw[hxR.block b12 (Al hb12) (by rw[qab];have:=Al hloop;omega)];exact hb12
    have n12:b12∉((b8,Bl 36 [.slice a n c])::ent a 68 full).map (·.1):=fun h=>by
     obtain⟨y,hy,he⟩:=qak.1 h;have:=Al (G.blk y hy).1;omega
    have hb6R:wR.heap[b6]?=some (Bl 24 [.slice fa kf.length fc]):=by
     rw[hxR.block b6 (Al SA.h6) (by rw[qab];omega)];exact SA.h6
    have n6:b6∉((b8,Bl 36 [.slice a n c])::ent a 68 full).map (·.1):=fun h=>S.n6 (by rw[G.M];exact .inr h);have H:=GA.body hxR
    have hMl:∀x∈l::((b8,Bl 36 [.slice a n c])::ent a 68 full).map (·.1),M x/\w0.heap.size<=x:=fun x h=>by
     rw[G.M]
     rcases qaa.1 h with rfl|h
     .exact⟨.inl rfl,by omega⟩
     .obtain⟨y,hy,he⟩:=qak.1 h;exact⟨.inr h,by rw[<-he];exact(G.blk y hy).2.1⟩
    have hxw:∀{z:World},Ext (((b8,Bl 36 [.slice a n c])::ent a 68 full).map (·.1)) wR z->Ext (l::((b8,Bl 36 [.slice a n c])::ent a 68 full).map (·.1)) wJ z:=fun{z} hz=>((hxa.mono (by simp)).trans (hxR.mono (fun x h=>by rw[qab.1 h];exact qad ..))).trans (hz.mono fun x h=>qah _ h);have k12:∀{z:World},Ext (((b8,Bl 36 [.slice a n c])::ent a 68 full).map (·.1)) wR z->z.heap[b12]?=some (NBl i a7 n7 c7):=fun{z} hz=>by rw[hz.block b12 (Al hb12R) n12];exact hb12R
    have k6:∀{z:World},Ext (((b8,Bl 36 [.slice a n c])::ent a 68 full).map (·.1)) wR z->z.heap[b6]?=some (Bl 24 [.slice fa kf.length fc]):=fun{z} hz=>by rw[hz.block b6 (Al hb6R) n6];exact hb6R
    have kR:∀{z:World},Ext (((b8,Bl 36 [.slice a n c])::ent a 68 full).map (·.1)) wR z->Rd z a7 3 Im.enc ms:=fun{z} hz=>by
     rcases hR7 with h|h
     .rw[h];exact Rd.nil
     .exact R7.ext (hxw hz) fun h5=>h (.inl (hMl _ h5).1)
    have kF:∀{z:World},Ext (((b8,Bl 36 [.slice a n c])::ent a 68 full).map (·.1)) wR z->Rd z fa 1 B8 kf:=fun{z} hz=>Rf.ext0 (S.x0.then (hxw hz) fun x h => .inr (hMl x h).2);refine AB (Ad (Af B0 U (Bq BV U ((by rw[Au (k12 H.ext)];rfl)) ?_)));refine AP Bu U (Ae U (qA (AB (BE 18014396362014720 (α:=Nat × Option Addr × Nat × Nat × List Value × List Im) (fun s=>[(31,.int .i64 (s.1:Int))]) (fun s w'=>s.1<=n7/\s.2.2.1<=n+s.1/\Ctx wR (((b8,Bl 36 [.slice a n c])::ent a 68 full).map (·.1)) w' ((b8,Bl 36 [.slice s.2.1 s.2.2.1 s.2.2.2.1])::ent s.2.1 68 s.2.2.2.2.1)/\OS s.2.1 s.2.2.1 s.2.2.2.1 2 s.2.2.2.2.1 (s.2.2.2.2.2.flatMap K1)/\s.2.2.2.2.2.map (fun m=>prI m.it)=Jz kf v++Kn kf i (L7.take s.1)/\∀m∈s.2.2.2.2.2,m.Ok wJ (MZ M (Old w2))) (fun s=>n7 - s.1) (0,a,n,c,full,ps) U ?_ ?_ ?_))))
    .exact⟨rfl,trivial⟩
    .exact⟨qal _,qae _,H,G.os,by dsimp only;rw[S.prs];unfold Kn;simp,S.ok⟩
    .rintro⟨k,a2,n2,c2,full2,ps2⟩ j w' ⟨hk,hn2,H2,O2,hps2,hok2⟩;dsimp only at hk hn2 H2 O2 hps2 hok2;dsimp only;have H:=H2;have Rk:=kR H.ext;refine Ad (Bp U U (qA (Aq (Ar _ U ?_ ?_))))
     .intro hB;replace hB:=AV hB;obtain⟨x,hx1⟩:=AY (l:=ms) (i:=k);have hxL:=Im.at hl7 hx1;have hxo:=hok7 x (qaf hx1);have hxb:=hLb x.it (qaf hxL);have hsn:=VE (kf:=kf) (i:=i) hxL;refine Ap (Aa (Aq (AB (Ad (Bo Rk Bu Bn U U ?_)))));refine EK _ Dg Bn U U (Rk.row hx1 U) (Bf Dn H ?_);rintro b14 w - H;refine Bc Bn U U U (by exact Im.oneE _) H at0 U ?_;rintro w H;refine qA ?_;obtain⟨wq,rfl⟩:=qD w;have Rx:=hxo.k.read (hxw H.ext) fun z hz => .inl (hMl z hz).1;refine Ad (B5 (α:=Unit) 35150012350464 (fun _=>[(44,.bool (decide (i=false) && decide (0<=Ds x.it.key kf)))]) (fun _ w'=>wq=w') U ?_ ?_)
      .refine Af Dh U (Bq Gp U ((by rw[Au (k12 H.ext)];rfl)) ?_);refine Cc U (A4 U (AU 38 U ?_ ?_))
       .intro h1;replace h1:=Cs h1;refine Af El U (AG BF U H at0 U (Bq BF U ((by rw[Au (k6 H.ext)];rfl)) ?_));refine Ah qB (Iq x.ka fa x.kc fc _ _ x.it.key kf Rx (kF H.ext) U U) U ?_;rintro v5 w5 ⟨rfl,rfl⟩;refine Hv U U (AR U (.bool _) U (Ab ?_));exact⟨rfl,(),rfl,⟨qac Value.bool (by(rw[h1];rfl)),trivial⟩,rfl⟩
       .intro h2;replace h2:=Cu h2;refine Ak U (Ak U (Ak U (Ak U (Ak U (AJ U (.bool _) U (Ab ?_))))));exact⟨rfl,(),rfl,⟨qac Value.bool (by(rw[h2];rfl)),trivial⟩,rfl⟩
      rintro - j44 w rfl;refine Ar _ U ?_ ?_
      .intro hC;rw[if_pos hC]at hsn;refine A5 (AG MQ U H at1 U (Af El U (AG BF U H at0 U (Af Ji U (AG BF U H at0 U (Bw [.slice x.ka x.it.key.length x.kc,.slice x.va x.it.val.length x.vc] Aag Ki ?_))))));refine C3 [.slice x.ka x.it.key.length x.kc,.slice x.va x.it.val.length x.vc] (.agg _) EY Gv Ki U U U U H ?_;rintro b51 w - H;refine Df (L:=[_,_]) EY EY Gv Afz Ki U U U H O2 U (LJ x) ?_;rintro a52 c52 f52 w H O52;refine Bk (.slice _ _ _) Tu U U U H at1 (by(simp;done)) ?_;rintro w H;refine Ab (AH (Aa (A5 (A8 U U ?_))));refine Ae U (qA ?_)
       refine⟨(k+1,a52,n2+1,c52,f52,ps2++[x]),rfl,⟨rfl,trivial⟩,⟨by dsimp only;omega,by dsimp only;omega,H.tail,by dsimp only;rw[qcg,qdm];exact O52,by dsimp only;rw[qa0,hsn,hps2,qa1];rfl,fun m hm=>?_⟩,by dsimp only;omega⟩;dsimp only at hm
       rcases qat.1 hm with hm|hm
       .exact hok2 m hm
       .rw[qab.1 hm];exact hxo
      .intro hC;rw[if_neg (by rw[hC];simp),qa2]at hsn;refine Ap (AH (Aa (A5 (A8 U U ?_))));refine Ae U (qA ?_);exact⟨(k+1,a2,n2,c2,full2,ps2),rfl,⟨rfl,trivial⟩,⟨by dsimp only;omega,by dsimp only;omega,H.tail,O2,by dsimp only;rw[hsn];exact hps2,hok2⟩,by dsimp only;omega⟩
     .intro hB;replace hB:=AW hB;have hii:k=n7:=by omega
      rw[qa3 (by omega)]at hps2;refine B9 (A6 (A6 (Bd (AH ?_))))
      have hlE:w'.heap[l]?=some (.loop lo2):=by
       rw[H.ext.block l (Al hlR) fun h=>?_]
       .exact hlR
       .obtain⟨y,hy,he⟩:=qak.1 h;exact(G.blk y hy).2.2 he
      refine GF hlE hlo2 U U ?_;intro wF hxF hlF
      obtain⟨G9,g9⟩:=GA.next h0 (by omega) hxR H O2 hxF hlF
      have gg9:=(Grown.call0 hxa).trans g9;obtain⟨⟨S9,hS9,hx9⟩,-⟩:=id g9;refine⟨rfl,_,⟨by simp;omega,a2,n2,c2,full2,ps2,by rw[qam,qbx];omega,G9,SA.x0.then hx9 fun x h => .inr ?_,?_,fun m hm=>(hok2 m hm).turn (gg9.or _),gg9.keep S.h6 S.n6,fun h=>(gg9.2 b6 h).elim S.n6 fun h5=>by have:=Al S.h6;omega⟩,gg9⟩
      .have h5:=hS9 x h;rw[G.M]at h5
       rcases h5 with h5|h5
       .omega
       .obtain⟨y,hy,he⟩:=qak.1 h5;have:=(G.blk y hy).2.1;omega
      .rw[hps2];unfold Jz;simp
  have hJ0:(fun(v:List Nd) (M:Mut) (w:World)=>v.length<=100000/\∃a n c full ps,n<=65535*v.length/\SJ w0 bt bd bp ba fr A P F b8 l lo b6 (Bl 24 [.slice fa kf.length fc]) (Old w2) kf v M w a n c full ps) [] (fun x=>x=l\/x∈((b8,Bl 36 [.slice none 0 0])::ent none 68 []).map (·.1)) w2:=by
   refine⟨by simp,none,0,0,[],[],qal _,⟨rfl,T.call (hw03.trans hx2),hrec',fun y hy=>?_,qea ..,OS.nil⟩,hw03.trans hx2,rfl,(fun m hm=>by cases hm),up2 hb6,fun h=>?_⟩
   .rw[qab.1 hy];exact⟨up2 hb8,ho8,by dsimp only;omega⟩
   .rcases h with h|h
    .omega
    .exact hb68 (by simpa[ent]using h)
  have hnM:∀x,x≠l->x≠b8->¬(x=l\/x∈((b8,Bl 36 [.slice none 0 0])::ent none 68 []).map (·.1)):=fun x h1 h2 h=>by
   rcases h with h|h
   .exact h1 h
   .exact h2 (by simpa[ent]using h)
  refine Ret.mono (QE JO hfr hfew hmx hJ0 (fun x h=>h) (up2 hx4) (up2 hx3) (up2 hx5) (up2 hb9) (hnM _ (by omega) (by omega)) (hnM _ (by omega) (by omega)) (hnM _ (by omega) (by omega)) (hnM _ (by omega) (Ne.symm hb89)) hr1 hr2 hN') ?_;rintro v w4 ⟨wx,Mx,⟨-,a,n,c,full,ps,hnv,S⟩,gx,hx9w,he9⟩;rw[<-hng]at S he9 hnv;have G:=S.G;have hloop:=G.loop;have hb9l:b9≠l:=by omega
  have hl1:w4.heap[l]?=some (.loop lo):=by rw[hx9w.block l (Al hloop) (by simpa using fun h=>hb9l h.symm)];exact hloop
  refine⟨_,hl1,by subst hlo;exact(fun h=>by cases h),Gb (by rw[hlo]) ?_⟩;have hx6:=Ext.setB w4 l (.loop { lo with state := .exhausted });generalize w4.putObj l (.loop { lo with state := .exhausted })=w6 at hx6 |-
  have hEnt:∀y∈(b8,Bl 36 [.slice a n c])::ent a 68 full,w6.heap[y.1]?=some y.2:=fun y hy=>by
   have h1:=G.blk y hy
   have h2:y.1≠b9:=fun e=>by
    rcases gx.2 y.1 (by rw[G.M];exact .inr (qak.2 ⟨y,hy,rfl⟩))with h|h
    .exact hnM y.1 h1.2.2 (fun e4=>hb89 (e4 ▸ e)) h
    .omega
   rw[hx6.block y.1 (qas (Al h1.1) hx9w.size) (by simpa using h1.2.2),hx9w.block y.1 (Al h1.1) (by simpa using h2)];exact h1.1
  have hb96:w6.heap[b9]?=some (Bl 28 [.int .i64 ng.1]):=by
   rw[hx6.block b9 (Al he9) (by simpa using hb9l)];exact he9
  obtain⟨⟨Sg,hSg,hxg⟩,hgg⟩:=gx;have hsx:=hxg.size;have hs45:=hx9w.size;have hs46:=hx6.size;have hM2:∀x,(x=l\/x∈((b8,Bl 36 [.slice none 0 0])::ent none 68 []).map (·.1))->x=l\/x=b8:=fun x h=>h.imp id fun h=>by simpa[ent]using h
  have E46:Ext [b9,l] wx w6:=(hx9w.mono (by simp)).trans (hx6.mono (by simp));have E06:Ext [] w0 w6:=S.x0.then E46 fun x h => .inr (by simp only[qaa,qaj,or_false]at h;rcases h with rfl|rfl <;> omega)
  have hD6:w6.heap[Db]?=some (.deferred (some [])):=by
   rw[hx6.block Db (by have:=Al hD;omega) (by rw[qab];omega),hx9w.block Db (by have:=Al hD;omega) (by rw[qab];omega),hxg.block Db (Al hD) fun h=>by rcases hM2 _ (hSg _ h)with h|h <;> omega];exact hD
  have n9:¬Mx b9:=fun h=>(hgg b9 h).elim (hnM _ hb9l (Ne.symm hb89)) fun h=>by omega
  have hEne:∀y∈(b8,Bl 36 [.slice a n c])::ent a 68 full,b9≠y.1:=fun y hy e=>n9 (by rw[G.M];exact .inr (qak.2 ⟨y,hy,e.symm⟩))
  have hEge:∀x∈(((b9,Bl 28 [.int .i64 ng.1])::(b8,Bl 36 [.slice a n c])::ent a 68 full).map (·.1)),w0.heap.size<=x/\x≠Db:=fun x h=>by
   obtain⟨y,hy,rfl⟩:=qak.1 h
   rcases qaa.1 hy with rfl|hy
   .exact⟨ho9,by dsimp only;omega⟩
   .refine⟨(G.blk y hy).2.1,fun e=>?_⟩;have h1:=hEnt y hy;rw[e,hD6]at h1
    rcases qaa.1 hy with rfl|hy
    .cases h1
    .cases ha:a with
     |none=>rw[ha]at hy;cases hy
     |some q=>rw[ha]at hy;rw[qab.1 hy]at h1;cases h1
  have H:=Ctx.startL (L:=(b9,Bl 28 [.int .i64 ng.1])::(b8,Bl 36 [.slice a n c])::ent a 68 full) (w:=w6) (fun y hy=>by
   rcases qaa.1 hy with rfl|hy
   .exact hb96
   .exact hEnt y hy) (qbh.2 ⟨hEne,G.nd⟩)
  have hDn:Db∉(((b9,Bl 28 [.int .i64 ng.1])::(b8,Bl 36 [.slice a n c])::ent a 68 full).map (·.1)):=fun h=>(hEge Db h).2 rfl;have hnp:n=ps.length:=G.os.numN (fun _ _=>rfl) (by decide)
  -- what was read lives on
  have hlive:∀{z:World},Ext (((b9,Bl 28 [.int .i64 ng.1])::(b8,Bl 36 [.slice a n c])::ent a 68 full).map (·.1)) w6 z->∃S',Ext S' wx z/\∀x∈S',Mx x\/x<w2.heap.size:=fun{z} hz=>by
   refine⟨_,(E46.mono (S':=b9::l::((b9,Bl 28 [.int .i64 ng.1])::(b8,Bl 36 [.slice a n c])::ent a 68 full).map (·.1)) (by simp)).trans (hz.mono fun x h=>qah _ (qah _ h)),fun x h=>?_⟩
   rcases qaa.1 h with rfl|h
   .exact .inr (Al (up2 hb9))
   .rcases qaa.1 h with rfl|h
    .exact .inl (by rw[G.M];exact .inl rfl)
    .rcases qaa.1 h with rfl|h
     .exact .inr (Al (up2 hb9))
     .exact .inl (by rw[G.M];exact .inr h)
  have hDlt:Db<w2.heap.size:=by have:=Al hrec';omega
  have hs02:w0.heap.size<=w2.heap.size:=by omega
  refine AH (Aa (Aq (Ad (AG EX U H at0 U (AN U U (qA (Ar _ U ?_ ?_)))))))
  .intro hB;replace hB:=Bh hB;rw[if_pos hB]at hwt;refine BQ [([0],1),([],2)] (fun z=>z.heap[b9]?=some (Bl 28 [.int .i64 ng.1])) [2] mixed (H.drew.get at0) (A7 U U ?_);refine BO EX U (fun _ hx=>(by rw[Au hx];rfl)) ?_;refine Bj ?_;replace H:=H.drew;refine Bk (.slice _ _ _) Tu U U U H at1 (by(simp;done)) ?_;rintro w H;refine Ab (Be (H.get at0) (A7 U U ?_));refine Bj (Bk (.int _ _) FV U U U H at0 (by(simp;done)) ?_);rintro w H;refine Ab (CD U (B2 (Aw (An (FJ U U U MQ EX (Jy H hD6 hDn U fun wF hxF hkF=>?_))))));exact⟨_,_,_,_,_,_,hkF _ _ _ (H.get at1),hkF _ _ _ (H.get at0),none,0,by rw[hwt];rfl,by rw[hwt];exact⟨⟨[],Rd.nil,.inl rfl,rfl,fun m h=>by cases h⟩,rfl,qae _⟩,(E06.then H.ext fun x h => .inr (hEge x h).1).then hxF fun x h => .inr (by rw[qab.1 h];omega)⟩
  .intro hB;replace hB:=Bi hB;have hB':ng.1=0:=by simpa using hB
   rw[if_neg (by simpa using hB),<-S.prs]at hwt;obtain⟨PL,hPL⟩:=qD (ps.map fun m=>prI m.it);rw[<-hPL]at hwt;have hnc:=G.os.le;have hPn:PL.length=n:=by rw[hPL,qan,hnp]
   have hres:∀{z wF:World} {i:Nat},Ext (((b9,Bl 28 [.int .i64 ng.1])::(b8,Bl 36 [.slice a n c])::ent a 68 full).map (·.1)) w6 z->(∀y∈ent a 68 full,z.heap[y.1]?=some y.2)->Ext [Db] z wF->(∀(b t:Nat) (l:List Value),z.heap[b]?=some (Bl t l)->wF.heap[b]?=some (Bl t l))->i<=n->Prs wF (Old w0) a i c (PL.take i):=fun{z wF i} hz he hxF hkF hi=>by
    obtain⟨S',hS1,hS2⟩:=hlive hz;have hokF:=Acf S.ok ((hS1.mono (S':=S'++[Db]) fun x h=>qbb _ h).trans (hxF.mono fun x h=>qaz _ h)) (fun x h=>(qat.1 h).elim (hS2 x) fun h => .inr (by rw[qab.1 h];exact hDlt)) hs02
    have Rz:=OS.rd (t:=68) (w:=wF) G.os (fun y hy=>by
     have h1:=he y hy
     cases ha:a with
     |none=>rw[ha]at hy;cases hy
     |some q =>
      rw[ha]at hy;rw[qab.1 hy]at h1 |-
      exact hkF _ _ _ h1) (fun _ _=>rfl) (by decide)
    refine⟨⟨ps.take i,Rz.take i,?_,by rw[List.map_take,hPL],fun m hm=>hokF m (qbm hm)⟩,by rw[qay];omega,qav hi G.os.le⟩
    cases ha:a with
    |none =>
     left;have h8:=G.os.none' ha;have h9:=G.os.le;exact qa8 (by rw[qay];omega)
    |some q =>
     right;have h8:=(hEge q.block (by rw[ha];simp[ent])).1;obtain⟨qb,qo,qs⟩:=q;exact Nat.not_lt.2 h8
   refine Ap (Aa (Aq (Ad (AG MQ U H at1 U (AP EY U (Ae U (qA (AB (BE 302230878442904990351360 (α:=Nat) (fun i=>[(59,.int .i64 (i:Int))]) (fun i w'=>i<=n/\Ctx w6 (((b9,Bl 28 [.int .i64 ng.1])::(b8,Bl 36 [.slice a n c])::ent a 68 full).map (·.1)) w' ((b9,Bl 28 [.int .i64 ng.1])::(b8,Bl 36 [.slice a n c])::ent a 68 full)/\(kt=[]\/∀(j:Nat) (p:Pr),j<i->PL[j]?=some p->Ds p.1 kt<0)) (fun i=>n - i) 0 U ?_ ?_ ?_)))))))))
   .exact⟨rfl,trivial⟩
   .exact⟨qal _,H,.inr fun j p h=>absurd h (qcw _)⟩
   .rintro i j w ⟨hi,H5,hlow⟩;have H:=H5;have Rp:=OS.rd (t:=68) (w:=w) G.os (fun y hy=>H.blk y (qah _ (qah _ hy))) (fun _ _=>rfl) (by decide);refine Ad (Bp U U (qA (Aq (Ar _ U ?_ ?_))))
    .intro hC;replace hC:=AV hC;obtain⟨x,hx1⟩:=AY (l:=ps) (i:=i);have hxP:PL[i]?=some (prI x.it):=by rw[hPL,qax,hx1];rfl
     refine Ap (Aa (Aq (AB (Ad (Ae U (Bo Rp EY Gv U U ?_))))));refine EK _ Afx Gv U U (Rp.row hx1 U) (Bf Ki H ?_);rintro b16 w - H;refine Ac U (Bc Gv U U U (by exact LJ _) H at0 U ?_);rintro w H;refine qA ?_;obtain⟨wq,rfl⟩:=qD w;obtain⟨Sx,hSx1,hSx2⟩:=hlive H.ext;have hxo:=Acf S.ok hSx1 hSx2 hs02 x (qaf hx1);have Rtw:=Rt.ext0 (E06.then H.ext fun x h => .inr (hEge x h).1);refine Ad (B5 (α:=Unit) 18871019187404871303168 (fun _=>[(73,.bool (decide (0<kt.length) && decide (0<=Ds x.it.key kt)))]) (fun _ w'=>wq=w') U ?_ ?_)
     .refine Aj U (AP AO U (BP U U (A4 U (AU 67 U ?_ ?_))))
      .intro h3;replace h3:=AV h3;refine Af Nu U (AG BF U H at0 U (Aj U (Ah qB (Iq x.ka ta x.kc tc _ _ x.it.key kt hxo.k.1 Rtw U U) U ?_)));rintro v5 w5 ⟨rfl,rfl⟩;refine Hv U U (AR U (.bool _) U (Ab ?_));exact⟨rfl,(),rfl,⟨qac Value.bool (by(rw[qai (show 0<kt.length by omega)]);rfl),trivial⟩,rfl⟩
      .intro h4;replace h4:=AW h4;refine Ak U (Ak U (Ak U (Ak U (Ak U (AJ U (.bool _) U (Ab ?_))))));exact⟨rfl,(),rfl,⟨qac Value.bool (by(rw[qag (show ¬0<kt.length by omega)]);rfl),trivial⟩,rfl⟩
     rintro - j73 w rfl;refine Ar _ U ?_ ?_
     .intro hE;rw[qao,qaq,qaq]at hE;have hkt:kt≠[]:=qbs.1 hE.1
      have hup:Uo kt PL=PL.take i:=by
       unfold Uo;rw[if_neg hkt,Sq (i:=i) (fun j p hj hp=>qai ((hlow.resolve_left hkt) j p hj hp)) fun p hp=>?_];rw[hxP]at hp;cases hp;exact qag (by show ¬Ds x.it.key kt<0;omega)
      rw[hup]at hwt;refine Ad (AG MQ U H at2 U (Ae U (DP EY Gv U U ?_)));refine Bk (.slice _ _ _) Tu U U U H at2 (by(simp;done)) ?_;rintro w H;refine Bk (.int _ _) FV U U U H at1 (by(simp;done)) ?_;rintro w H;refine qA (Aw (AK (An (An (AK (An (FJ U U U MQ EX (Jy H hD6 hDn U fun wF hxF hkF=>?_))))))));have hti:(PL.take i).length=i:=by rw[qay];omega
      refine⟨_,_,_,_,_,_,hkF _ _ _ (H.get at2),hkF _ _ _ (H.get at1),a,c,by rw[hwt,hti];rfl,?_,(E06.then H.ext fun x h => .inr (hEge x h).1).then hxF fun x h => .inr (by rw[qab.1 h];omega)⟩;rw[hwt,hti];exact hres H.ext (fun y hy=>H.blk y (qah _ (qah _ (qah _ hy)))) hxF hkF hi
     .intro hE;refine Ap (AH (Aa (A5 (A8 U U ?_))));refine Ae U (qA ?_);refine⟨i+1,rfl,⟨rfl,trivial⟩,⟨by omega,H.tail,?_⟩,by omega⟩
      by_cases hkt:kt=[]
      .exact .inl hkt
      .right;rw[Bool.and_eq_false_iff]at hE;have hpos:=qbs.2 hkt;have hE2:¬0<=Ds x.it.key kt:=hE.elim (fun h=>absurd hpos (qde h)) qde;intro j p hj hp
       rcases qbl j i with h3|h3
       .exact(hlow.resolve_left hkt) j p h3 hp
       .obtain rfl:j=i:=by omega
        rw[hxP]at hp;cases hp;show Ds x.it.key kt<0;omega
    .intro hC;replace hC:=AW hC;have hii:i=n:=by omega
     have hup:Uo kt PL=PL.take n:=by
      rw[qa3 (by omega)];unfold Uo
      by_cases hkt:kt=[]
      .rw[if_pos hkt]
      .rw[if_neg hkt,Sq (i:=n) (fun j p hj hp=>qai ((hlow.resolve_left hkt) j p (by omega) hp)) fun p hp=>?_,qa3 (by omega)];have:=(qar.1 hp).1;omega
     rw[hup]at hwt;refine B9 (A6 (A6 (Bd (Aa (Ad (AG MQ U H at1 U (Bk (.slice _ _ _) Tu U U U H at1 (by(simp;done)) ?_)))))));rintro w H;refine Bk (.int _ _) FV U U U H at0 (by(simp;done)) ?_;rintro w H;refine qA (Aw (FJ U U U MQ EX (Jy H hD6 hDn U fun wF hxF hkF=>?_)));have hti:(PL.take n).length=n:=by rw[qay];omega
     refine⟨_,_,_,_,_,_,hkF _ _ _ (H.get at1),hkF _ _ _ (H.get at0),a,c,by rw[hwt,hti],?_,(E06.then H.ext fun x h => .inr (hEge x h).1).then hxF fun x h => .inr (by rw[qab.1 h];omega)⟩;rw[hwt,hti];exact hres H.ext (fun y hy=>H.blk y (qah _ (qah _ hy))) hxF hkF (qae _)
structure Wr where
 k:Byt
 v:Byt
 d:Bool
structure Wm where
 ka:Option Addr
 kc:Nat
 va:Option Addr
 vc:Nat
 x:Wr
def CZ(m:Wm):List Value:=[.slice m.ka m.x.k.length m.kc,.slice m.va m.x.v.length m.vc,.bool m.x.d]
theorem GI(m:Wm):∀v∈CZ m,AX v=true:=fun v hv=>by
 simp only[CZ,qaa,qaj,or_false]at hv
 rcases hv with rfl|rfl|rfl <;> rfl
structure Wm.Ok(w:World)(M:Mut)(m:Wm):Prop where
 k:Rdx w M m.ka m.x.k
 v:Rdx w M m.va m.x.v
 kc:m.x.k.length<=m.kc
 vc:m.x.v.length<=m.vc
structure Wrs(w:World)(M:Mut)(a:Option Addr)(n c:Nat)(L:List Wr):Prop where
 ex:∃ps:List Wm,Rd w a 3 CZ ps/\(ps=[]\/¬M (adr a).block)/\ps.map (·.x)=L/\∀m∈ps,m.Ok w M
 num:n=L.length
 le:n<=c
theorem Wm.Ok.call{w w':World}{M:Mut}{m:Wm}(h:m.Ok w M)(hx:Ext [] w w'):m.Ok w' M:=⟨h.k.call hx,h.v.call hx,h.kc,h.vc⟩
theorem Wm.Ok.turn{w w':World}{M M':Mut}{m:Wm}(h:m.Ok w M)(t:Grown M M' w w'):m.Ok w' M':=⟨h.k.turn t,h.v.turn t,h.kc,h.vc⟩
theorem Wrs.turn{w w':World}{M M':Mut}{a:Option Addr}{n c:Nat}{L:List Wr}(h:Wrs w M a n c L)(t:Grown M M' w w'):Wrs w' M' a n c L:=by
 obtain⟨ps,R,hs,hl,hm⟩:=h.ex;obtain⟨R',hs'⟩:=Rd.turnM R hs (by decide) (fun _ _=>rfl) t;exact⟨⟨ps,R',hs',hl,fun m hx=>(hm m hx).turn t⟩,h.num,h.le⟩
def Up(d:Bool):Nat:=bif d then 1 else 0
def wrB(x:Wr):Byt:=AZ (Up x.d) 1++((AZ x.k.length 2++x.k)++(AZ x.v.length 2++x.v))
def opB(L:List Wr):Byt:=L.flatMap wrB
def Wr.Few(x:Wr):Prop:=x.k.length<=32/\x.v.length<=128
theorem WS(x:Wr):(wrB x).length=5+x.k.length+x.v.length:=by simp[wrB,AM];omega
theorem N0:∀{L:List Wr},(∀x∈L,x.Few)->(opB L).length<=165*L.length
 | [],_=>qae _
 |x::L,h=>by
  have h1:=N0 (L:=L) fun y hy=>h y (qah _ hy);have h2:=h x (qad ..);have h3:=WS x;unfold opB at h1 |-;rw[qcc,qam,h3,qaw];unfold Wr.Few at h2;omega
theorem Uq{L:List Wr}{i:Nat}{x:Wr}(h:L[i]?=some x):opB (L.take (i+1))=opB (L.take i)++wrB x:=by
 unfold opB;rw[Bt h,qcg,qdm]
theorem Agn(l:List UInt8)(n:Nat):Ku l n 1=l++AZ n 1:=rfl
theorem HU(x y:Byt)(a:Option Addr)(c:Nat)(w:World)(h:x.length<=100000:=by omega)(h2:y.length<=100000:=by omega):Ret prog 84 #[str x,.slice a y.length c] w fun v w'=>v=.int .i64 (((x.length+y.length+4:Nat)):Int)/\w=w':=by
 obtain⟨w0,rfl⟩:=qD w;refine Ax (fn:=f84) func84 U [str x,.slice a y.length c] U (Ad (Ac U (qA (Ad (BU U (RF U Fp U ?_))))));refine Aj U (AP AO U (A8 U U ?_));refine A8 U U (Ac U (qA (Aw (AE (v:=(.int _ _)) U U U ?_))));exact⟨qac (Value.int .i64) (by simp;try omega),rfl⟩
theorem Ae3{M:Mut}(w:World)(a:Option Addr)(n c:Nat)(L:List Wr)(X:Wrs w M a n c L)(hL:∀x∈L,x.Few)(hn:n<=1000:=by omega):
  Ret prog 44 #[.slice a n c] w fun v w'=>∃a' c',v=.slice a' (opB L).length c'/\Rd w' a' 1 B8 (opB L)/\(opB L=[]\/w.heap.size<=(adr a').block)/\(opB L).length<=c'/\Ext [] w w':=by
 obtain⟨w0,rfl⟩:=qD w;obtain⟨ps,R,-,hl,hp⟩:=X.ex;have hnL:=X.num;have hpn:ps.length=n:=by rw[hnL,<-hl,qan]
 refine Ax (fn:=f44) func44 U [.slice a n c] U (Ad (Ai U (qA (Ad (Ai U (qA (Aq (Ad (Aj U (AP FU U ?_))))))))));refine Ae U (qA (AB (BE 8589934184 (α:=Nat × Option Addr × Nat) (fun s=>[(9,.int .i64 (s.1:Int)),(3,.slice s.2.1 (opB (L.take s.1)).length s.2.2)]) (fun s w'=>s.1<=n/\Ext [] w0 w'/\Rd w' s.2.1 1 B8 (opB (L.take s.1))/\(opB (L.take s.1)=[]\/w0.heap.size<=(adr s.2.1).block)/\(opB (L.take s.1)).length<=s.2.2) (fun s=>n - s.1) (0,none,0) U ?_ ?_ ?_)))
 .exact⟨rfl,rfl,trivial⟩
 .exact⟨qal _,Ext.refl _ _,Rd.nil,.inl rfl,qae _⟩
 .rintro⟨i,a3,c3⟩ j w1 ⟨hi,hx,R3,h3,hc3⟩;dsimp only at hi hx R3 h3 hc3;dsimp only;have H:=Ctx.start w1 [];refine Ad (Bp U U (qA (Aq (Ar _ U ?_ ?_))))
  .intro h1;replace h1:=AV h1;obtain⟨m,hm⟩:=AY (l:=ps) (i:=i);have hok:=hp m (qaf hm);have hxL:L[i]?=some m.x:=by rw[<-hl,qax,hm];rfl
   have hfew:=hL _ (qaf hxL)
   have hlen:(opB (L.take i)).length<=165000:=by
    have h5:=N0 (L:=L.take i) fun x hx=>hL x (qbm hx);have h6:=List.length_take_le i L;omega
   have hs:=Uq hxL;unfold Wr.Few at hfew;refine Ap (Aa (Aq (AB (Ad (Bo R FU EA U U ?_)))));refine EK _ Ob EA U U ((R.ext0 hx).row hm U) (Bf GR H ?_);rintro b5 w - H;refine Bc EA U U U (by exact GI m) H at0 U ?_;rintro w H;refine qA (Ad (Ac U (qA (Aq (Ad (Af Lf U (AG Gp U H at0 U (qA (Ar _ U ?_ ?_)))))))))
   .intro hd;refine A5 (Ac U (qA (Ad (Aj U (Ae U (Ah qB (EP a3 c3 _ (opB (L.take i)) 1 1 _ (R3.ext0 H.ext) U (hm:=by omega) (by decide)) U ?_))))));rintro v w F17;rw[Agn]at F17;obtain⟨a17,c17,rfl,R17,hc17⟩:=Fresh.rdB F17;replace H:=H.call F17.ext;refine Ai U (qA (Ad (Aj U (Af Nt U (AG BF U H at0 U (Ah qB (Ep a17 c17 _ _ m.ka m.kc _ m.x.k _ R17 U (by simp[AM];omega) ((hok.k.1.ext0 hx).ext0 H.ext) U hok.kc) U ?_))))));rintro v w ⟨x22,rfl,F22⟩;obtain⟨a22,c22,rfl,R22,hc22⟩:=Fresh.rdB F22;replace H:=H.call F22.ext;refine AL U (Ag U U (Ag U U (Ai U (qA (A5 (Aj U (Af Hm U (AG BF U H at0 U (Ah qB (Ep a22 c22 _ _ m.va m.vc _ m.x.v _ R22 U (by simp[AM];omega) ((hok.v.1.ext0 hx).ext0 H.ext) U hok.vc) U ?_)))))))));rintro v w ⟨x29,rfl,F29⟩
    rw[qa1,qa1,show AZ 1 1++((AZ m.x.k.length 2++m.x.k)++(AZ m.x.v.length 2++m.x.v))=wrB m.x by(unfold wrB;rw[hd];rfl),<-hs]at F29;have hx29:=hx.trans H.ext;obtain⟨a29,c29,rfl,R29,hc29,h29⟩:=Fresh.newB (Fresh.since F29 hx29);replace H:=H.call F29.ext;refine AL U (Ag U U (Ag U U (Ai U (Ab (AH (Aa (A5 (A8 U U ?_))))))));refine Ae U (qA ?_);exact⟨(i+1,a29,c29),rfl,⟨rfl,rfl,trivial⟩,⟨by dsimp only;omega,hx.trans H.ext,R29,h29,hc29⟩,by dsimp only;omega⟩
   .intro hd;refine Ap (Aa (Ad (Aj U (Ae U (Ah qB (EP a3 c3 _ (opB (L.take i)) 0 1 _ (R3.ext0 H.ext) U (hm:=by omega) (by decide)) U ?_)))));rintro v w F17;rw[Agn]at F17;obtain⟨a17,c17,rfl,R17,hc17⟩:=Fresh.rdB F17;replace H:=H.call F17.ext;refine Ai U (qA (Ad (Aj U (Af Nt U (AG BF U H at0 U (Ah qB (Ep a17 c17 _ _ m.ka m.kc _ m.x.k _ R17 U (by simp[AM];omega) ((hok.k.1.ext0 hx).ext0 H.ext) U hok.kc) U ?_))))));rintro v w ⟨x22,rfl,F22⟩;obtain⟨a22,c22,rfl,R22,hc22⟩:=Fresh.rdB F22;replace H:=H.call F22.ext;refine AL U (Ag U U (Ag U U (Ai U (qA (A5 (Aj U (Af Hm U (AG BF U H at0 U (Ah qB (Ep a22 c22 _ _ m.va m.vc _ m.x.v _ R22 U (by simp[AM];omega) ((hok.v.1.ext0 hx).ext0 H.ext) U hok.vc) U ?_)))))))));rintro v w ⟨x29,rfl,F29⟩
    rw[qa1,qa1,show AZ 0 1++((AZ m.x.k.length 2++m.x.k)++(AZ m.x.v.length 2++m.x.v))=wrB m.x by(unfold wrB;rw[hd];rfl),<-hs]at F29;have hx29:=hx.trans H.ext;obtain⟨a29,c29,rfl,R29,hc29,h29⟩:=Fresh.newB (Fresh.since F29 hx29);replace H:=H.call F29.ext;refine AL U (Ag U U (Ag U U (Ai U (Ab (AH (Aa (A5 (A8 U U ?_))))))));refine Ae U (qA ?_);exact⟨(i+1,a29,c29),rfl,⟨rfl,rfl,trivial⟩,⟨by dsimp only;omega,hx.trans H.ext,R29,h29,hc29⟩,by dsimp only;omega⟩
  .intro h1;replace h1:=AW h1;obtain rfl:i=n:=by omega
   refine B9 (A6 (A6 (Bd (Aa (Ad (Aj U (Ai U (qA (Aw (AE (v:=(.slice _ _ _)) U U U ?_))))))))));have ht:L.take i=L:=qa3 (by omega);rw[ht]at R3 h3 hc3 |-;exact⟨a3,c3,rfl,R3,h3,hc3,hx⟩
section
variable {α β:Type}{f:α->β}{k k':Byt}{x:α}
theorem EE{m:List (Byt × α)}:B7 (m.map fun p=>(p.1,f p.2)) k=(B7 m k).map f:=by
 induction m with
 |nil=>rfl
 |cons p m ih =>
  unfold B7 at ih |-
  by_cases h:p.1=k <;> simp_all
theorem LK:∀{m:List (Byt × α)},Ig (m.map fun p=>(p.1,f p.2)) k (f x)=(Ig m k x).map fun p=>(p.1,f p.2)
 | []=>rfl
 |p::m=>by
  simp only[qau,Ig]
  split
  .rfl
  .rw[LK (m:=m)];rfl
theorem LL:∀{m:List (Byt × α)},EN (m.map fun p=>(p.1,f p.2)) k=(EN m k).map fun p=>(p.1,f p.2)
 | []=>rfl
 |p::m=>by
  simp only[qau,EN]
  split
  .rfl
  .rw[LL (m:=m)];rfl
theorem EF{m:List (Byt × α)}(h:B7 m k=some x):(k,x)∈m:=by
 unfold B7 at h;obtain⟨p,hp,rfl⟩:=qeo.1 h;have h1:=List.mem_of_find?_eq_some hp;have h2:=List.find?_some hp;simp only[qaq]at h2;subst h2;exact h1
theorem GK{m:List (Byt × α)}:(B7 m k).isSome=decide (k∈m.map (·.1)):=by
 induction m with
 |nil=>rfl
 |cons p m ih =>
  unfold B7 at ih |-
  by_cases h:p.1=k
  .simp[h]
  .have h':¬k=p.1:=fun e=>h e.symm;simp_all
end
structure Sv where
 a:Option Addr
 c:Nat
 v:Byt
def Sv.enc(s:Sv):Value := .slice s.a s.v.length s.c
abbrev mv(l:List (Byt × Sv)):List (Byt × Value):=l.map fun p=>(p.1,p.2.enc)
abbrev mi(l:List (Byt × Int)):List (Byt × Value):=l.map fun p=>(p.1,.int .i64 p.2)
structure KvAt(w:World)(M:Mut)(l:List (Byt × Sv))(o:Obj):Prop where
 m:Ec str (mv l) o
 ok:∀p∈l,Rdx w M p.2.a p.2.v/\p.2.v.length<=p.2.c
 few:∀p∈l,p.1.length<=32/\p.2.v.length<=128
def Kd(k v:Byt):Int:=((k.length+v.length+4:Nat):Int)
def Hg(l:List (Byt × Sv))(k:Byt):Int:=match B7 l k with|some s=>Kd k s.v|none=>0
def FK(x:Wr):Int:=if x.d=true then 0 else Kd x.k x.v
def LM(seen:Bool)(x:Wr):Bool:=seen || (decide (x.k=[]) || (decide (32<x.k.length) || (decide (128<x.v.length) || (x.d && decide (0<x.v.length)))))
def goR(l:List (Byt × Sv))(room:Int):List Byt->Int->List Wr->Int
 |_,b,[]=>if room<b then 7 else 0
 |seen,b,x::L=>if LM (decide (x.k∈seen)) x=true then 1 else goR l room (seen++[x.k]) (b - Hg l x.k+FK x) L
def Ss(l:List (Byt × Sv))(n room:Int)(L:List Wr):Int:=if 1000<L.length then 6 else goR l room [] n L
theorem Yw{bs bd bsu bma m1 m2 sz gen:Nat}{left n root:Int}{on dead:Bool}{vj vp vt:Value}{o1:Obj}{M:Mut}{l:List (Byt × Sv)}(w:World)(a:Option Addr)(nn c:Nat)(L:List Wr)(hs:w.heap[bs]?=some (Bl CV (CK (ptr bd) vj vp vt gen root m1 m2 n dead)))(hd:w.heap[bd]?=some (Bl TD (DB sz bsu bma left on)))(h1m:w.heap[m1]?=some o1)(K:KvAt w M l o1)(X:Wrs w M a nn c L)(hnn:nn<=1000000000)(hsz:sz<=100000:=by omega)(hn0: -1000000000<=n:=by omega)(hn1:n<=1000000000:=by omega):
  Ret prog 43 #[ptr bs,.slice a nn c] w fun v w'=>v=.int .i64 (Ss l n (DJ sz) L)/\Ext [] w w':=by
 obtain⟨w0,rfl,H⟩:=qE w;obtain⟨ps,R,-,hl,hp⟩:=X.ex;have hnL:=X.num;have hpn:ps.length=nn:=by rw[hnL,<-hl,qan]
 refine Ax (fn:=f43) func43 U [ptr bs,.slice a nn c] U (Ad (Ac U (qA (Aq (Ad (Aj U (AP FU U (BP U U (qA (Ar _ U ?_ ?_))))))))))
 .intro h1;replace h1:=AV h1;refine Ad (Ac U (qA (Aw (An (AE (v:=(.int _ _)) U U U ?_)))));exact⟨qac (Value.int .i64) (if_pos (by omega)).symm,Ext.refl _ _⟩
 .intro h1;replace h1:=AW h1;have hrE:Ss l n (DJ sz) L=goR l (DJ sz) [] n L:=if_neg (by omega);rw[hrE];refine Ap (Aa (Ad (Jc (κ:=List UInt8) str U H ?_)));rintro b17 o17 w hM H;refine NR U U (qA (Ad (Ao U (AD U (Af JQ U (Bq DE U ((by rw[Au (H.ext.to hs (by simp))];rfl)) ?_))))));refine Ac U (qA (Aq (Ad (Aj U (AP FU U (Ae U (qA (AB (BE 38685626227668133573836752 (α:=Nat × Int × List (Byt × Int) × Obj) (fun s=>[(24,.int .i64 (s.1:Int)),(6,.int .i64 s.2.1)]) (fun s w'=>s.1<=nn/\Ctx w0 [] w' [(b17,s.2.2.2)]/\Ec str (mi s.2.2.1) s.2.2.2/\goR l (DJ sz) (s.2.2.1.map (·.1)) s.2.1 (L.drop s.1)=goR l (DJ sz) [] n L/\n - 200*(s.1:Int)<=s.2.1/\s.2.1<=n+200*(s.1:Int)) (fun s=>nn - s.1) (0,n,[],o17) U ?_ ?_ ?_)))))))))
  .exact⟨rfl,rfl,trivial⟩
  .exact⟨qal _,H,hM,rfl,by simp,by simp⟩
  .clear H hM;rintro⟨i,b,ss,o⟩ j w1 ⟨hi,H,hM,hgo,hb1,hb2⟩;dsimp only at hi H hM hgo hb1 hb2;dsimp only;refine Ad (Bp U U (qA (Aq (Ar _ U ?_ ?_))))
   .intro h2;replace h2:=AV h2;obtain⟨m,hm⟩:=AY (l:=ps) (i:=i);have hok:=hp m (qaf hm);have hxL:L[i]?=some m.x:=by rw[<-hl,qax,hm];rfl
    have hdr:L.drop i=m.x::L.drop (i+1):=by
     obtain⟨hlt,he⟩:=qar.1 hxL;rw[qep hlt,he]
    rw[hdr,goR]at hgo;refine Ap (Aa (Aq (AB (Ad (Ae U (Bo R FU EA U U ?_))))));refine EK _ Ob EA U U ((R.ext0 H.ext).row hm U) (Bf GR H ?_);rintro b8 w - H;refine Ac U (Bc EA U U U (by exact GI m) H at0 U ?_);rintro w H;refine qA (Ad (Af Nt U (AG BF U H at0 U (Ie AO Gz Fp U (hok.k.1.ext0 H.ext) ?_))));refine Kt U U (qA (Ad (Jb U U (BU U (Gy (m:=mi ss) (n:=m.x.k) U Qh (EH Fp) zv_3 U U H at1 hM ?_)))));rw[show(B7 (mi ss) m.x.k).getD (.int .i64 0)=.int .i64 ((B7 ss m.x.k).getD 0)by(rw[EE (f:=Value.int .i64)];cases B7 ss m.x.k <;> rfl),show(B7 (mi ss) m.x.k).isSome=decide (m.x.k∈ss.map (·.1))by(rw[EE (f:=Value.int .i64),qet,GK])];refine AL U (Ag U U (Ag U U (Ac U (Am U (qA (Aq (AB (Aq (Ad ?_)))))))))
    refine A4 U (Am U (qA (Fk 144114363442135040 (α:=Unit) (fun _=>[(38,.bool (LM (decide (m.x.k∈ss.map (·.1))) m.x))]) (fun _ w'=>Ctx w0 [] w' [(b8,Bl 56 (CZ m)),(b17,o)]) U ?_ ?_)))
    .skip
     refine CG 38 U ?_ ?_
     .intro c1;refine Ap (Aa ?_);exact⟨(),rfl,⟨qac Value.bool (by unfold LM;simp_all),trivial⟩,H⟩
     .intro c1;refine Ad (BU U (NT (m:=[]) U U U ?_));refine Am U (qA (CG 38 U ?_ ?_))
      .intro c2;refine Ap (Aa ?_);exact⟨(),rfl,⟨qac Value.bool (by unfold LM;simp_all),trivial⟩,H⟩
      .intro c2;refine Ad (BU U (RF U Fp U ?_));refine BP U U (Am U (qA (CG 38 U ?_ ?_)))
       .intro c3;replace c3:=AV c3;refine Ap (Aa ?_);exact⟨(),rfl,⟨qac Value.bool (by unfold LM;simp_all;omega),trivial⟩,H⟩
       .intro c3;replace c3:=AW c3;refine Ad (Af Hm U (AG BF U H at0 U (AP AO U (BP U U (Am U (qA (CG 38 U ?_ ?_)))))))
        .intro c4;replace c4:=AV c4;refine Ap (Aa ?_);exact⟨(),rfl,⟨qac Value.bool (by unfold LM;simp_all;omega),trivial⟩,H⟩
        .intro c4;replace c4:=AW c4;refine A5 (Af Lf U (AG Gp U H at0 U (A4 U (AU 51 U ?_ ?_))))
         .intro c5;refine Af Hm U (AG BF U H at0 U (AP AO U (BP U U (AR U (.bool _) U (Am U (qA ?_))))));exact⟨(),rfl,⟨qac Value.bool (by unfold LM;simp_all;(rw[qag (show ¬32<m.x.k.length by omega),qag (show ¬128<m.x.v.length by omega)];rfl)),trivial⟩,H⟩
         .intro c5;refine Ak U (Ak U (Ak U (Ak U (AJ U (.bool _) U (Am U (qA ?_))))));exact⟨(),rfl,⟨qac Value.bool (by unfold LM;simp_all;omega),trivial⟩,H⟩
    .rintro - j38 w H;refine CG 38 U ?_ ?_
     .intro hb;rw[if_pos hb]at hgo;refine Ad (Ac U (qA (Aw (AK (An (AK (An (An (AK (An (AE (v:=(.int _ _)) U U U ?_)))))))))));exact⟨qac (Value.int .i64) hgo,H.ext⟩
     .intro hb;rw[if_neg (by simp[hb])]at hgo
      have hfew:m.x.k.length<=32/\m.x.v.length<=128/\m.x.k∉ss.map (·.1):=by
       unfold LM at hb;simp only[qd1,qc9]at hb;exact⟨by omega,by omega,hb.1⟩
      have hset:Ig (mi ss) m.x.k (.int .i64 (i:Int))=mi (ss++[(m.x.k,(i:Int))]):=by
       rw[G8 (by rw[EE (f:=Value.int .i64),Option.map_eq_none_iff,<-qeb,GK];simpa using hfew.2.2)];simp
      rcases hq:B7 l m.x.k with _|s
      .skip
       have hold:Hg l m.x.k=0:=by unfold Hg;rw[hq]
       refine Ap (AH (Aa (Ad (Jb U U (BU U (Ae U (FN (.int .i64 (i:Int)) U Qh (EH Fp) U U U H at1 hM ?_)))))));rw[hset];clear hM;rintro o16 w hM H;refine qA (Aq (Ad (Ao U (AD U (Af Hn U (Bq MS U ((by rw[Au (H.ext.to hs (by simp))];rfl)) ?_))))));refine BU U (Gy (m:=mv l) (n:=m.x.k) U Ov (EH Fp) Ty U U (Ctx.start1 (H.ext.to h1m (by simp))) at0 K.m ?_);rw[EE (f:=Sv.enc),hq];refine AL U (Ag U U (Ag U U (Ai U (Am U (qA (Ad (A4 U (qA (Br U ?_)))))))));refine Ap (Aa (Ad (Af Lf U (AG Gp U H at0 U (Cc U (qA (Ar _ U ?_ ?_)))))))
       .intro hdd;replace hdd:=Cs hdd;have hnew:FK m.x=Kd m.x.k m.x.v:=by unfold FK;rw[if_neg (by simp_all)]
        rw[hold,hnew]at hgo;refine A5 (Ae U (BU U (Af Hm U (AG BF U H at0 U (Ah qB (HU m.x.k m.x.v m.va m.vc _) U ?_)))));rintro v w ⟨rfl,rfl⟩;refine A8 U U (Ac U (Ab (AH (Aa (A5 (A8 U U ?_))))));refine Ae U (qA ?_);refine⟨(i+1,b+((m.x.k.length+m.x.v.length+4:Nat):Int),ss++[(m.x.k,(i:Int))],o16),rfl,⟨rfl,rfl,trivial⟩,⟨by dsimp only;omega,(H.drop 1:Ctx w0 [] _ [(b17,o16)]),hM,?_,?_,?_⟩,by dsimp only;omega⟩
        .dsimp only;rw[qa0,<-hgo];simp[Kd]
        .dsimp only;omega
        .dsimp only;omega
       .intro hdd;replace hdd:=Cu hdd;have hnew:FK m.x=0:=by unfold FK;rw[if_pos (by simp_all)]
        rw[hold,hnew]at hgo;refine Ap (AH (Aa (A5 (A8 U U ?_))));refine Ae U (qA ?_);refine⟨(i+1,b,ss++[(m.x.k,(i:Int))],o16),rfl,⟨rfl,rfl,trivial⟩,⟨by dsimp only;omega,(H.drop 1:Ctx w0 [] _ [(b17,o16)]),hM,?_,?_,?_⟩,by dsimp only;omega⟩
        .dsimp only;rw[qa0,<-hgo];simp
        .dsimp only;omega
        .dsimp only;omega
      .skip
       have hold:Hg l m.x.k=Kd m.x.k s.v:=by unfold Hg;rw[hq]
       have hsf:=(K.few _ (EF hq)).2;dsimp only at hsf;refine Ap (AH (Aa (Ad (Jb U U (BU U (Ae U (FN (.int .i64 (i:Int)) U Qh (EH Fp) U U U H at1 hM ?_)))))));rw[hset];clear hM;rintro o16 w hM H;refine qA (Aq (Ad (Ao U (AD U (Af Hn U (Bq MS U ((by rw[Au (H.ext.to hs (by simp))];rfl)) ?_))))));refine BU U (Gy (m:=mv l) (n:=m.x.k) U Ov (EH Fp) Ty U U (Ctx.start1 (H.ext.to h1m (by simp))) at0 K.m ?_);rw[EE (f:=Sv.enc),hq];refine AL U (Ag U U (Ag U U (Ai U (Am U (qA (Ad (A4 U (qA (Eg U ?_)))))))));refine A5 (Ae U (BU U (Aj U (Ah qB (HU m.x.k s.v s.a s.c _) U ?_))));rintro v w ⟨rfl,rfl⟩;refine Bx U U (Ac U (qA (Ad (Af Lf U (AG Gp U H at0 U (Cc U (qA (Ar _ U ?_ ?_))))))))
       .intro hdd;replace hdd:=Cs hdd;have hnew:FK m.x=Kd m.x.k m.x.v:=by unfold FK;rw[if_neg (by simp_all)]
        rw[hold,hnew]at hgo;refine A5 (Ae U (BU U (Af Hm U (AG BF U H at0 U (Ah qB (HU m.x.k m.x.v m.va m.vc _) U ?_)))));rintro v w ⟨rfl,rfl⟩;refine A8 U U (Ac U (Ab (AH (Aa (A5 (A8 U U ?_))))));refine Ae U (qA ?_);refine⟨(i+1,b - ((m.x.k.length+s.v.length+4:Nat):Int)+((m.x.k.length+m.x.v.length+4:Nat):Int),ss++[(m.x.k,(i:Int))],o16),rfl,⟨rfl,rfl,trivial⟩,⟨by dsimp only;omega,(H.drop 1:Ctx w0 [] _ [(b17,o16)]),hM,?_,?_,?_⟩,by dsimp only;omega⟩
        .dsimp only;rw[qa0,<-hgo];simp[Kd]
        .dsimp only;omega
        .dsimp only;omega
       .intro hdd;replace hdd:=Cu hdd;have hnew:FK m.x=0:=by unfold FK;rw[if_pos (by simp_all)]
        rw[hold,hnew]at hgo;refine Ap (AH (Aa (A5 (A8 U U ?_))));refine Ae U (qA ?_);refine⟨(i+1,b - ((m.x.k.length+s.v.length+4:Nat):Int),ss++[(m.x.k,(i:Int))],o16),rfl,⟨rfl,rfl,trivial⟩,⟨by dsimp only;omega,(H.drop 1:Ctx w0 [] _ [(b17,o16)]),hM,?_,?_,?_⟩,by dsimp only;omega⟩
        .dsimp only;rw[qa0,<-hgo];simp[Kd]
        .dsimp only;omega
        .dsimp only;omega
   .intro h2;replace h2:=AW h2;obtain rfl:i=nn:=by omega
    rw[qb6 (by omega),goR]at hgo;refine B9 (A6 (A6 (Bd (Aa (Aq (Ad (Ae U (Ao U (AD U (Af Ad3 U (Bq Cy U ((by rw[Au (H.ext.to hs (by simp))];rfl)) ?_)))))))))));refine Ah qB (Ga (H.ext.to hd (by simp))) U ?_;rintro v w ⟨rfl,rfl⟩;refine Ah qB (HR _ (by omega) _) U ?_;rintro v w ⟨rfl,rfl⟩;refine BP U U (qA (Ar _ U ?_ ?_))
    .intro h3;replace h3:=AV h3;refine Ad (Ac U (qA (Aw (An (AE (v:=(.int _ _)) U U U ?_)))));exact⟨qac (Value.int .i64) (by rw[<-hgo,if_pos h3]),H.ext⟩
    .intro h3;replace h3:=AW h3;refine Ap (Aa (Ad (Ac U (qA (Aw (AE (v:=(.int _ _)) U U U ?_))))));exact⟨qac (Value.int .i64) (by rw[<-hgo,if_neg h3]),H.ext⟩
theorem Prs.turn{w w':World}{M M':Mut}{a:Option Addr}{n c:Nat}{L:List Pr}(h:Prs w M a n c L)(t:Grown M M' w w'):Prs w' M' a n c L:=by
 obtain⟨ps,R,hs,hl,hm⟩:=h.ex;obtain⟨R',hs'⟩:=Rd.turnM R hs (by decide) (fun _ _=>rfl) t;exact⟨⟨ps,R',hs',hl,fun m hx=>(hm m hx).turn t⟩,h.num,h.le⟩
theorem Prs.weak{w:World}{M M':Mut}{a:Option Addr}{n c:Nat}{L:List Pr}(h:Prs w M a n c L)(hM:∀x,M' x->M x):Prs w M' a n c L:=by
 obtain⟨ps,R,hs,hl,hm⟩:=h.ex;exact⟨⟨ps,R,hs.imp id fun h h2=>h (hM _ h2),hl,fun m hx=>(hm m hx).weak hM⟩,h.num,h.le⟩
theorem Prs.nil{w:World}{M:Mut}:Prs w M none 0 0 []:=⟨⟨[],Rd.nil,.inl rfl,rfl,fun m h=>by cases h⟩,rfl,qae _⟩
theorem Ach{α:Type}{p:α->Bool}:∀(T:List α),(∀j x,j<(T.takeWhile p).length->T[j]?=some x->p x=true)/\(∀x,T[(T.takeWhile p).length]?=some x->p x=false)
 | []=>⟨fun j x h=>absurd h (qcw _),fun x h=>by cases h⟩
 |y::T=>by
  obtain⟨h1,h2⟩:=Ach (p:=p) T
  by_cases hy:p y=true
  .rw[qcn,hy];simp only[if_true,qaw];refine⟨fun j x hj hx=>?_,fun x hx=>h2 x (by simpa using hx)⟩
   cases j with
   |zero=>simp only[qcs,qba]at hx;rw[<-hx];exact hy
   |succ j=>exact h1 j x (by omega) (by simpa using hx)
  .have hy:p y=false:=by simpa using hy
   rw[qcn,hy];refine⟨fun j x h=>absurd h (qcw _),fun x hx=>?_⟩
   have:y=x:=by simpa using hx
   rw[<-this];exact hy
theorem Aci{L:List Pr}(hr:Rising L){k:Byt}(hk:L[0]?.map (·.1)=some k):∀p∈L,¬ltB p.1 k:=by
 cases L with
 |nil=>cases hk
 |cons q L =>
  have hq:q.1=k:=by simpa using hk
  intro p hp
  rcases qaa.1 hp with rfl|hp
  .rw[hq];exact FG _
  .rw[<-hq];exact Ex ((qbh.1 hr).1 p hp)
theorem Kids.first{Q:Nat->List Pr->List Nat->Prop}{x:It}{l:List It}{L:List Pr}{S:List Nat}(h:Kids Q (x::l) L S):L[0]?.map (·.1)=some x.key:=by
 obtain⟨L1,L2,S1,S2,rfl,rfl,h1,h2,h3,h4⟩:=h
 cases L1 with
 |nil=>cases h2
 |cons y L1=>exact h2
theorem Nb{Q:Nat->List Pr->List Nat->Prop}{l:List It}{L:List Pr}{S:List Nat}(hk:Kids Q l L S)(hr:Rising L)(hl:l≠[])(key:Byt) :
  ∃a x b La Lx Lb Sa Sx Sb,l=a++x::b/\a.length=BR l key/\L=La++(Lx++Lb)/\S=Sa++(Sx++Sb)/\Kids Q a La Sa/\Q x.page Lx Sx/\Lx[0]?.map (·.1)=some x.key/\x.val=[]/\Kids Q b Lb Sb/\(∀p∈La,ltB p.1 key)/\(∀p∈Lb,ltB key p.1):=by
 have hi:=M9 hl key;obtain⟨t1,t2⟩:=Ach (p:=fun x:It=>decide (Ds x.key key<=0)) l.tail;obtain⟨x,hx⟩:=AY (l:=l) (i:=BR l key) (h:=hi)
 have hsp:l=l.take (BR l key)++x::l.drop (BR l key+1):=by
  rw[<-JS hx,qbp]
 have hk':=hk;rw[hsp]at hk';obtain⟨La,Lr,Sa,Sr,rfl,rfl,ka,kr⟩:=Es.1 hk';obtain⟨Lx,Lb,Sx,Sb,rfl,rfl,q1,q2,q3,kb⟩:=kr;obtain⟨r1,r2,r3⟩:=Rising.append.1 hr;obtain⟨r4,r5,r6⟩:=Rising.append.1 r2;refine⟨_,x,_,La,Lx,Lb,Sa,Sx,Sb,hsp,by rw[qay];omega,rfl,rfl,ka,q1,q2,q3,kb,fun p hp=>?_,fun p hp=>?_⟩
 .rcases Nat.eq_zero_or_pos (BR l key)with h0|h0
  .rw[h0,qdj]at ka;rw[ka.1]at hp;cases hp
  .have h5:=t1 (BR l key - 1) x (by show _<BR l key;omega) (by rw[List.getElem?_tail,Nat.sub_add_cancel h0];exact hx);have h6:=Sh.1 (qc0 h5)
   cases Lx with
   |nil=>cases q2
   |cons y Lx =>
    have hy:y.1=x.key:=by simpa using q2
    exact Abe (hy ▸ r3 p hp y (by simp)) h6
 .cases hb:l.drop (BR l key+1)with
  |nil =>
   rw[hb]at kb;rw[kb.1]at hp;cases hp
  |cons y b =>
   rw[hb]at kb
   have h5:=t2 y (by
    show l.tail[BR l key]?=some y;rw[List.getElem?_tail]
    have:(l.drop (BR l key+1))[0]?=some y:=by rw[hb];rfl
    rw[qcq]at this;exact this)
   have h6:ltB key y.key:=by
    have:=qde h5
    rcases Lu key y.key with h7|h7|h7
    .exact h7
    .exact absurd (Sh.2 (by rw[h7];exact FG _)) this
    .exact absurd (Sh.2 (Ex h7)) this
   exact Abe h6 (Aci r5 kb.first p hp)
structure Acts(key:Byt)(G:List It->List It)(g:List Pr->List Pr):Prop where
 leaf:∀L,Rising L->OkP L->G (L.map BK)=(g L).map BK
 mid:∀A L B,(∀p∈A,ltB p.1 key)->(∀p∈B,ltB key p.1)->g (A++(L++B))=A++(g L++B)
 ok:∀L,OkP L->OkP (g L)
 size:∀L,Rising L->OkP L->AQ false ((g L).map BK)<=AQ false (L.map BK)+164
structure Eds(fr h:Nat)(L:List Pr)(S t g':List Nat)(r:Int × Ch × Bool × List It):Prop where
 ok:r.1=0
 on:On fr r.2.1
 part:∃S',Part (RD r.2.1.A fr) h r.2.2.1 r.2.2.2 L S'/\(S'++g').Perm (S++t)/\Held r.2.1.P S'
 ne:0<h->r.2.2.2≠[]
 sz:AQ r.2.2.1 r.2.2.2<=667
theorem OkP.sub{L L':List Pr}(h:OkP L)(hs:∀p∈L',p∈L):OkP L':=fun p hp=>h p (hs p hp)
theorem OkP.app{L L':List Pr}(h:OkP L)(h':OkP L'):OkP (L++L'):=fun p hp=>(qat.1 hp).elim (h p) (h' p)
theorem VF{fr:Nat}{c:Ch}{p d:Nat}(h:(CM c.A fr c.P.length (p:Int) (d:Int)).1=0):rdC fr c p d={ c with gn:=c.gn++[p] }:=by
 unfold rdC;rw[if_pos h]
theorem K2{a b:List It}{x:It}{i:Nat}(h:a.length=i):Ce (a++x::b) i=x.page:=by
 subst h;unfold Ce;simp
theorem Lies.read{fr h p d:Nat}{c:Ch}{L:List Pr}{S:List Nat}(hL:Lies (RD c.A fr) h p L S)(hh:Held c.P S)(hn:On fr c)(hd:d<=16) :
  ∃i M S',CM c.A fr c.P.length (p:Int) (d:Int)=(0,some (i,M))/\Part (RD c.A fr) h i M L S'/\S=p::S'/\Many i M/\AQ i M<=503:=by
 have hp:=hh.lt hL.page;obtain⟨i,M,S',h1,h2,h3,h4,h5⟩:=hL;exact⟨i,M,S',Ju hn.on hp hn.has hd h2,h1,h3,h4,h5⟩
theorem Part.inner0{R:Nat->Option (Bool × List It)}{i:Bool}{M:List It}{L:List Pr}{S:List Nat}(h:Part R 0 i M L S):i=false:=h.1
theorem Kids.total{R:Nat->Option (Bool × List It)}{h:Nat}{l:List It}{L:List Pr}{S:List Nat}(hk:Kids (Lies R h) l L S)(ho:OkP L):AQ true l<=38*l.length :=
 Ey fun x hx=>by have:=(hk.items ho x hx).2.1;show 6+x.key.length<=38;omega
structure Sides(fr h:Nat)(c:Ch)(l:List It)(La Lx' Lb:List Pr)(Sa Sx' Sb g':List Nat)(i:Bool)(s:Int × Ch × List It × Nat × Nat):Prop where
 ok:s.1=0
 ci:CI fr c s.2.1 [] g'
 on:On fr s.2.1
 many:(s.2.2.1=[]/\h=0)\/Many i s.2.2.1
 sz:AQ i s.2.2.1<=667
 part:∃(a b:List It) (L1 L2 L3:List Pr) (S1 S2 S3:List Nat),l.take s.2.2.2.1=a/\l.drop s.2.2.2.2=b/\AQ true a+AQ true b<=503/\1<=a.length+b.length+(if s.2.2.1=[]then 0 else 1)/\Kids (Lies (RD c.A fr) h) a L1 S1/\Part (RD c.A fr) h i s.2.2.1 L2 S2/\Kids (Lies (RD c.A fr) h) b L3 S3 /\
  L1++(L2++L3)=La++(Lx'++Lb)/\(S1++(S2++(S3++g'))).Perm (Sa++(Sx'++Sb))
theorem Yx{fr h d:Nat}{c:Ch}{l a b:List It}{x:It}{i:Bool}{M:List It}{La Lx Lb:List Pr}{Sa Sx Sb:List Nat}(hl:l=a++x::b)(h2:2<=l.length)(hT:AQ true l<=503)(ka:Kids (Lies (RD c.A fr) h) a La Sa)(kb:Kids (Lies (RD c.A fr) h) b Lb Sb)(hp:Part (RD c.A fr) h i M Lx Sx)(hoa:OkP La)(hox:OkP Lx)(hob:OkP Lb)(hha:Held c.P Sa)(_:Held c.P Sx)(hhb:Held c.P Sb)(hn:On fr c)(hne:0<h->M≠[])(hz:AQ i M<=667)(hd:d+1<=16:=by omega):
  ∃g',Sides fr h c l La Lx Lb Sa Sx Sb g' i (DM fr c l a.length d i M):=by
 have hta:=Bs true a (x::b);have htb:=Cr true x b
 by_cases hf:IJ i M=true
 .have hi:i=true:=by unfold IJ at hf;simp at hf;exact hf.1
  have hM:M.length=1:=by unfold IJ at hf;simp at hf;exact hf.2
  cases h with
  |zero=>rw[hp.inner0]at hi;cases hi
  |succ h =>
   obtain⟨_,kx⟩:=hp;have hxt:=Kids.total kx hox;rw[hM]at hxt;subst hi
   have key:∀(pre post:List It) (y:It) (Ly:List Pr) (Sy:List Nat),Lies (RD c.A fr) (h+1) y.page Ly Sy->OkP Ly->Held c.P Sy->Ce l (Ha a.length)=y.page ->
     Ha a.length<l.length->∃o So,Kids (Lies (RD c.A fr) h) o Ly So/\Sy=y.page::So/\2<=o.length/\AQ true o<=503/\CI fr c (rdC fr c y.page (d+1)) [] [y.page]/\On fr (rdC fr c y.page (d+1)) /\
     DM fr c l a.length d true M=(0,rdC fr c y.page (d+1),if a.length=0 then M++o else o++M,a.length - 1,if a.length=0 then 2 else a.length+1):=by
    intro pre post y Ly Sy hy hoy hhy hpy hlt;obtain⟨i2,o,So,r1,r2,r3,r4,r5⟩:=hy.read hhy hn (d:=d+1) hd;obtain⟨rfl,ko⟩:=r2;have r1':(CM c.A fr c.P.length ((y.page:Nat):Int) ((d+1:Nat):Int)).1=0:=by rw[r1]
    have hrd:=VF r1';refine⟨o,So,ko,r3,r4,r5,by rw[hrd];exact CI.gone _ _ _,by rw[hrd];exact⟨hn.on,hn.has,hn.few⟩,?_⟩;unfold DM;rw[if_pos hf,if_neg (by omega),hpy,r1]
   by_cases ha0:a=[]
   .subst ha0
    cases b with
    |nil=>rw[hl]at h2;simp at h2
    |cons y b =>
     obtain⟨Ly,L2,Sy,S2,rfl,rfl,y1,y2,y3,y4⟩:=kb;have hty:=Cr true y b;obtain⟨o,So,ko,rfl,o2,o3,ci,on',hs⟩:=key [] b y Ly Sy y1 (hob.sub fun p hp=>qbb _ hp) (hhb.sub fun p hp=>qbb _ hp) (by rw[hl];rfl) (by rw[hl];simp[Ha]);obtain⟨rfl,rfl⟩:=ka;rw[hs];refine⟨[y.page],rfl,ci,on',.inr ?_,?_,[],b,[],Lx++Ly,L2,[],Sx++So,S2,rfl,by rw[hl];rfl,?_,?_,⟨rfl,rfl⟩,?_,y4,by simp,?_⟩
     .show 2<=(M++o).length;rw[qam];omega
     .show AQ true (M++o)<=667;rw[Bs];omega
     .have e0:AQ true ([]:List It)=0:=rfl;rw[hl]at hT;omega
     .have:(if(List.length ([]:List It)=0)then M++o else o++M)≠[]:=by
       intro e;have h9:(M++o).length=0:=qac List.length e;rw[qam]at h9;omega
      show 1<=_+(if _=[]then 0 else 1);rw[if_neg this];omega
     .exact⟨rfl,Es.2 ⟨Lx,Ly,Sx,So,rfl,rfl,kx,ko⟩⟩
     .rw[qec];intro z;simp only[qed,qd4,List.count_nil];omega
   .obtain⟨a',y,rfl⟩:∃a' y,a=a'++[y]:=⟨a.dropLast,a.getLast ha0,(List.dropLast_concat_getLast ha0).symm⟩;obtain⟨La',Lr,Sa',Sr,rfl,rfl,ka',kr⟩:=Es.1 ka;obtain⟨Ly,L0,Sy,S0,rfl,rfl,y1,y2,y3,y4⟩:=kr;obtain⟨rfl,rfl⟩:=y4;have hal:(a'++[y]).length=a'.length+1:=by simp
    have hll:l=a'++y::x::b:=by rw[hl];simp
    have hty:=Bs true a' [y];have htb2:AQ true [y]=Cn true y:=by simp[AQ]
    obtain⟨o,So,ko,rfl,o2,o3,ci,on',hs⟩:=key a' b y Ly Sy y1 (hoa.sub fun p hp=>by simp[hp]) (hha.sub fun p hp=>by simp[hp]) (by rw[hll,hal];exact K2 (by simp[Ha])) (by rw[hll,hal];simp[Ha]);rw[hs];refine⟨[y.page],rfl,ci,on',.inr ?_,?_,a',b,La',Ly++Lx,Lb,Sa',So++Sx,Sb,?_,?_,?_,?_,ka',?_,kb,by simp,?_⟩
    .show 2<=(if(a'++[y]).length=0 then M++o else o++M).length;rw[if_neg (by omega),qam];omega
    .show AQ true (if(a'++[y]).length=0 then M++o else o++M)<=667;rw[if_neg (by omega),Bs];omega
    .show l.take ((a'++[y]).length - 1)=a';rw[hll,hal];simp
    .show l.drop (if(a'++[y]).length=0 then 2 else(a'++[y]).length+1)=b;rw[if_neg (by omega),hl];rw[List.drop_append,qb6 (by omega)];simp
    .rw[hl,hta,htb,hty]at hT;omega
    .show 1<=_+(if(if(a'++[y]).length=0 then M++o else o++M)=[]then 0 else 1);rw[if_neg (c:=(a'++[y]).length=0) (by omega),if_neg]
     .omega
     .intro e;have h9:(o++M).length=0:=qac List.length e;rw[qam]at h9;omega
    .show Part _ _ _ (if(a'++[y]).length=0 then M++o else o++M) _ _;rw[if_neg (by omega)];exact⟨rfl,Es.2 ⟨Ly,Lx,So,Sx,rfl,rfl,ko,kx⟩⟩
    .rw[qec];intro z;simp only[qed,qd4,List.count_nil];omega
 .have hs:DM fr c l a.length d i M=(0,c,M,a.length,a.length+1):=by unfold DM;rw[if_neg hf]
  rw[hs];refine⟨[],rfl,CI.refl _ _,hn,?_,hz,a,b,La,Lx,Lb,Sa,Sx,Sb,by rw[hl];simp,?_,?_,?_,ka,hp,kb,rfl,by simp⟩
  .show(M=[]/\h=0)\/Many i M
   cases h with
   |zero =>
    by_cases hM:M=[]
    .exact .inl ⟨hM,rfl⟩
    .right;rw[hp.inner0];exact hM
   |succ h =>
    right;have hM:=hne (by omega);obtain⟨rfl,_⟩:=hp;show 2<=M.length
    have:¬M.length=1:=fun h=>hf (by unfold IJ;rw[qai h];rfl)
    have:=qbs.2 hM;omega
  .show l.drop (a.length+1)=b;rw[hl,List.drop_append,qb6 (by omega)];simp
  .rw[hl,hta,htb]at hT;omega
  .have:l.length=a.length+b.length+1:=by rw[hl];simp;omega
   omega
theorem QF{fr:Nat}{key:Byt}{G:List It->List It}{g:List Pr->List Pr}(act:Acts key G g):∀(h n:Nat) (c:Ch) (p d:Nat) (L:List Pr) (S:List Nat),Lies (RD c.A fr) h p L S->Rising L->OkP L->Held c.P S->On fr c->d+h<=16->h<n ->
  ∃t g',CI fr c (C8 fr G key n c p d).2.1 t g'/\t.length<=2*h/\(Eds fr h (g L) S t g' (C8 fr G key n c p d)\/Bad c (C8 fr G key n c p d).1 (2*h))
 |0,n+1,c,p,d,L,S,hL,hr,ho,hh,hn,hd,hf=>by
  obtain⟨i,M,S',r1,r2,r3,r4,r5⟩:=hL.read hh hn (d:=d) (by omega);obtain⟨rfl,rfl,rfl⟩:=r2;subst r3;have hrd:=VF (fr:=fr) (c:=c) (p:=p) (d:=d) (by rw[r1])
  have he:C8 fr G key (n+1) c p d=(0,{ c with gn:=c.gn++[p] },false,G (L.map BK)):=by
   rw[C8,r1];dsimp only;rw[hrd]
  rw[he,act.leaf L hr ho];refine⟨[],[p],CI.gone _ _ _,by simp,.inl ⟨rfl,⟨hn.on,hn.has,hn.few⟩,⟨[],⟨rfl,rfl,rfl⟩,by simp,fun x hx=>by cases hx⟩,fun h=>absurd h (Nat.lt_irrefl 0),?_⟩⟩;have:=act.size L hr ho;show AQ false (List.map BK (g L))<=667;omega
 |h+1,n+1,c,p,d,L,S,hL,hr,ho,hh,hn,hd,hf=>by
  obtain⟨i,l,S0,r1,r2,r3,r4,r5⟩:=hL.read hh hn (d:=d) (by omega);obtain⟨rfl,hk'⟩:=r2;have hk:Kids (Lies (RD c.A fr) h) l L S0:=hk';subst r3;have hrd:=VF (fr:=fr) (c:=c) (p:=p) (d:=d) (by rw[r1]);have hci:=CI.gone fr c p;rw[<-hrd]at hci;have hn1:On fr (rdC fr c p d):=by rw[hrd];exact⟨hn.on,hn.has,hn.few⟩
  obtain⟨a,x,b,La,Lx,Lb,Sa,Sx,Sb,rfl,hal,rfl,rfl,ka,q1,q2,q3,kb,hlo,hhi⟩:=Nb hk hr r4.ne key;have hh0:Held c.P (Sa++(Sx++Sb)):=hh.sub fun x hx=>qah _ hx;have hha:Held c.P Sa:=hh0.sub fun x hx=>by simp[hx]
  have hhx:Held c.P Sx:=hh0.sub fun x hx=>by simp[hx]
  have hhb:Held c.P Sb:=hh0.sub fun x hx=>by simp[hx]
  have hoa:OkP La:=ho.sub fun x hx=>by simp[hx]
  have hox:OkP Lx:=ho.sub fun x hx=>by simp[hx]
  have hob:OkP Lb:=ho.sub fun x hx=>by simp[hx]
  have hrx:Rising Lx:=(Rising.append.1 (Rising.append.1 hr).2.1).1;obtain⟨t1,g1,e1,e2,e3⟩:=QF act h n (rdC fr c p d) x.page (d+1) Lx Sx (q1.frame (hci.rd hhx)) hrx hox (hhx.keep hci) hn1 (by omega) (by omega);have hpg:Ce (a++x::b) (BR (a++x::b) key)=x.page:=K2 hal;obtain⟨r,hrr⟩:=qD (C8 fr G key n (rdC fr c p d) x.page (d+1));rw[<-hrr]at e1 e3
  have he:C8 fr G key (n+1) c p d=if r.1≠0 then(r.1,r.2.1,true,[])else
    if(DM fr r.2.1 (a++x::b) a.length d r.2.2.1 r.2.2.2).1≠0 then((DM fr r.2.1 (a++x::b) a.length d r.2.2.1 r.2.2.2).1,(DM fr r.2.1 (a++x::b) a.length d r.2.2.1 r.2.2.2).2.1,true,[])else
    ((Ei fr (DM fr r.2.1 (a++x::b) a.length d r.2.2.1 r.2.2.2).2.1 r.2.2.1 (DM fr r.2.1 (a++x::b) a.length d r.2.2.1 r.2.2.2).2.2.1).1,
     (Ei fr (DM fr r.2.1 (a++x::b) a.length d r.2.2.1 r.2.2.2).2.1 r.2.2.1 (DM fr r.2.1 (a++x::b) a.length d r.2.2.1 r.2.2.2).2.2.1).2.1,true,
     (a++x::b).take (DM fr r.2.1 (a++x::b) a.length d r.2.2.1 r.2.2.2).2.2.2.1++((Ei fr (DM fr r.2.1 (a++x::b) a.length d r.2.2.1 r.2.2.2).2.1 r.2.2.1 (DM fr r.2.1 (a++x::b) a.length d r.2.2.1 r.2.2.2).2.2.1).2.2++(a++x::b).drop (DM fr r.2.1 (a++x::b) a.length d r.2.2.1 r.2.2.2).2.2.2.2)):=by
   rw[C8,r1];dsimp only;rw[hpg,<-hrr,<-hal]
  rw[he];have hci1:=hci.trans e1;rw[qa7]at hci1
  rcases e3 with e3|e3
  .obtain⟨S1,p1,p2,p3⟩:=e3.part;rw[if_neg (by rw[e3.ok];simp)];have hn2:=e3.on;have h4:2<=(a++x::b).length:=r4;obtain⟨g2,sd⟩:=Yx (fr:=fr) (c:=r.2.1) (d:=d) rfl h4 r5 (ka.frame (hci1.rd hha)) (kb.frame (hci1.rd hhb)) p1 hoa (act.ok _ hox) hob (hha.keep hci1) p3 (hhb.keep hci1) hn2 e3.ne e3.sz;obtain⟨s,hss⟩:=qD (DM fr r.2.1 (a++x::b) a.length d r.2.2.1 r.2.2.2);rw[<-hss]at sd |-;rw[if_neg (by rw[sd.ok];simp)];obtain⟨a',b',L1,L2,L3,S1',S2',S3',s1,s2,s3,s4,s5,s6,s7,s8,s9⟩:=sd.part;have hci2:=hci1.trans sd.ci;rw[qa2]at hci2
   have hall:Held r.2.1.P (S1'++(S2'++(S3'++g2))):=by
    intro z hz;have:=s9.mem_iff.1 hz
    rcases qat.1 this with h5|h5
    .exact(hha.keep hci1) z h5
    .rcases qat.1 h5 with h5|h5
     .exact p3 z h5
     .exact(hhb.keep hci1) z h5
   have hO:OkP (L1++(L2++L3)):=by rw[s8];exact hoa.app ((act.ok _ hox).app hob)
   have hO2:OkP L2:=hO.sub fun p hp=>by simp[hp]
   have hH2:Held r.2.1.P S2':=hall.sub fun p hp=>by simp[hp]
   have hH1:Held r.2.1.P S1':=hall.sub fun p hp=>by simp[hp]
   have hH3:Held r.2.1.P S3':=hall.sub fun p hp=>by simp[hp]
   obtain⟨t2,u1,u2,u3⟩:=Ui (s6.frame (sd.ci.rd hH2)) hO2 (hH2.keep sd.ci) sd.on sd.many sd.sz;have hci3:=hci2.trans u1;rw[qa2]at hci3;refine⟨_,_,hci3,by rw[qam];omega,?_⟩
   rcases u3 with u3|u3
   .obtain⟨S4,k1,k2,k3⟩:=u3.kids;left;have hfin:=sd.ci.trans u1;have hk1:=s5.frame (hfin.rd hH1);have hk3:=s7.frame (hfin.rd hH3);have ht1:=Kids.total k1 hO2;have hnum:=u3.num;refine⟨u3.ok,u3.on,⟨S1'++(S4++S3'),⟨rfl,?_⟩,?_,?_⟩,fun _=>?_,?_⟩
    .rw[act.mid La Lx Lb hlo hhi,<-s8,s1,s2];exact Es.2 ⟨_,_,_,_,rfl,rfl,hk1,Es.2 ⟨_,_,_,_,rfl,rfl,k1,hk3⟩⟩
    .rw[qec]at *;intro z;have e1:=p2 z;have e2:=s9 z;have e3:=k2 z;simp only[qed,qd4,List.count_nil]at *;omega
    .exact(hH1.keep hfin).app (k3.app (hH3.keep hfin))
    .show(a++x::b).take s.2.2.2.1++(_++(a++x::b).drop s.2.2.2.2)≠[];rw[s1,s2];intro e;have e':=qac List.length e;simp only[qam,qbt]at e'
     by_cases h9:s.2.2.1=[]
     .rw[if_pos h9]at s4;omega
     .have:=qbs.2 (u3.ne h9);omega
    .show AQ true ((a++x::b).take s.2.2.2.1++(_++(a++x::b).drop s.2.2.2.2))<=667;rw[s1,s2,Bs,Bs]
     have:38*(Ei fr s.2.1 r.2.2.1 s.2.2.1).2.2.length<=38*2:=qb0 _ hnum
     omega
   .right;exact u3.back hci2 (by omega)
  .rw[if_pos e3.ne];refine⟨t1,_,hci1,by omega,.inr ?_⟩;exact(e3.back hci (m':=2*h) (by simp)).mono (by omega)
theorem Yy(h:Nat):2 ^ (h+1)=2 ^ h+2 ^ h:=by rw[qdy];omega
theorem Kids.count{R:Nat->Option (Bool × List It)}{h:Nat}(ih:∀p L S,Lies R h p L S->2 ^ (h+1)<=S.length+1/\S.length+1<=2*L.length):∀{l:List It} {L:List Pr} {S:List Nat},Kids (Lies R h) l L S->l.length*2 ^ (h+1)<=S.length+l.length/\S.length+l.length<=2*L.length
 | [],_,_,⟨rfl,rfl⟩=>by simp
 |x::l,_,_,⟨L1,L2,S1,S2,rfl,rfl,h1,_,_,h4⟩=>by
  have a:=ih _ _ _ h1;have b:=Kids.count ih h4;simp only[qaw,qam,Nat.succ_mul,Nat.mul_add];omega
theorem Lies.count{R:Nat->Option (Bool × List It)}:∀{h p:Nat} {L:List Pr} {S:List Nat},Lies R h p L S->2 ^ (h+1)<=S.length+1/\S.length+1<=2*L.length
 |0,p,L,S,hL=>by
  have hne:=qbs.2 hL.ne;obtain⟨i,M,S',⟨_,_,rfl⟩,h2,rfl,h4,h5⟩:=hL;simp;omega
 |h+1,p,L,S,⟨i,M,S',h1,h2,h3,h4,h5⟩=>by
  obtain⟨rfl,hk⟩:=h1;subst h3;have hm:2<=M.length:=h4;obtain⟨a,b⟩:=Kids.count (fun p L S h=>Lies.count h) hk;have hp:=Yy (h+1);have h1:0<2 ^ (h+1):=Nat.pow_pos (by omega);have h6:(M.length - 2)*1<=(M.length - 2)*2 ^ (h+1):=qb0 _ h1;have h7:M.length*2 ^ (h+1)=(M.length - 2)*2 ^ (h+1)+2*2 ^ (h+1):=by rw[<-qci];congr 1;omega
  rw[qaw];omega
def Root(R:Nat->Option (Bool × List It))(root:Int)(L:List Pr)(S:List Nat):Prop:=(root = -1/\L=[]/\S=[])\/∃(h p:Nat),root=(p:Int)/\Lies R h p L S
theorem Root.frame{R R':Nat->Option (Bool × List It)}{root:Int}{L:List Pr}{S:List Nat}(hr:Root R root L S)(he:∀x∈S,R' x=R x):Root R' root L S :=
 hr.imp id fun⟨h,p,h1,h2⟩=>⟨h,p,h1,h2.frame he⟩
structure TreeAt(fr:Nat)(A:Dev)(P:List Nat)(root:Int)(L:List Pr):Prop where
 lies:∃S,Root (RD A fr) root L S/\S.Nodup/\∀x:Nat,(x∈S↔P[x]?=some 1\/P[x]?=some 2)
 rise:Rising L
 ok:OkP L
def LN(s:Nat):Nat:=if s=1 then 3 else if s=2 then 0 else s
theorem Yz(P:List Nat)(k x:Nat):(Fu P k)[x]?=if x=k then P[x]?.map LN else P[x]? := by
 unfold Fu
 by_cases hx:x=k
 .subst hx;rw[if_pos rfl]
  by_cases h1:P[x]?=some 1
  .rw[if_pos h1,qem (qar.1 h1).1,h1];rfl
  .rw[if_neg h1]
   by_cases h2:P[x]?=some 2
   .rw[if_pos h2,qem (qar.1 h2).1,h2];rfl
   .rw[if_neg h2]
    cases h3:P[x]? with
    |none=>rfl
    |some s =>
     have hs1:s≠1:=fun e=>h1 (by rw[h3,e]);have hs2:s≠2:=fun e=>h2 (by rw[h3,e]);rw[qbd,LN,if_neg hs1,if_neg hs2]
 .rw[if_neg hx]
  split
  .rw[qen (fun e=>hx e.symm)]
  .split
   .rw[qen (fun e=>hx e.symm)]
   .rfl
theorem Pe:∀(g:List Nat) (P:List Nat),g.Nodup->∀x:Nat,(g.foldl Fu P)[x]?=if x∈g then P[x]?.map LN else P[x]?
 | [],P,_,x=>by simp
 |k::g,P,hd,x=>by
  obtain⟨h1,h2⟩:=qcf.1 hd;rw[qc4,Pe g _ h2 x,Yz]
  by_cases hx:x=k
  .subst hx;rw[if_neg h1,if_pos rfl,if_pos (qad ..)]
  .rw[if_neg hx]
   by_cases hg:x∈g
   .rw[if_pos hg,if_pos (qah _ hg)]
   .rw[if_neg hg,if_neg (by simp[hx,hg])]
theorem QG:∀(g:List Nat) (P:List Nat),(g.foldl Fu P).length=P.length
 | [],P=>rfl
 |k::g,P=>by
  rw[qc4,QG g];unfold Fu
  split
  .simp
  .split <;> simp
theorem QH(s:Nat):LN s≠1/\LN s≠2:=by
 unfold LN
 split
 .decide
 .split
  .decide
  .omega
theorem Y0(s:Nat):Q0 (LN s)=Q0 s:=by
 unfold LN
 split
 .rename_i h;rw[h];rfl
 .split
  .rename_i h;rw[h];rfl
  .rfl
structure Tops(fr:Nat)(L:List Pr)(S t:List Nat)(r:Int × Ch × Int):Prop where
 ok:r.1=0
 on:On fr r.2.1
 root:∃S',Root (RD r.2.1.A fr) r.2.2 L S'/\S'.Perm (S++t)/\Held r.2.1.P S'
theorem Acj{fr h:Nat}{c:Ch}{i:Bool}{M:List It}{L:List Pr}{S:List Nat}(hp:Part (RD c.A fr) h i M L S)(ho:OkP L)(hh:Held c.P S)(hn:On fr c)(hne:0<h->M≠[])(hz:AQ i M<=667) :
  ∃t,CI fr c (DO fr c i M).2.1 t []/\t.length<=3/\(Tops fr L S t (DO fr c i M)\/Bad c (DO fr c i M).1 3):=by
 by_cases hf:IJ i M=true
 .have hi:i=true:=by unfold IJ at hf;simp at hf;exact hf.1
  have hM:M.length=1:=by unfold IJ at hf;simp at hf;exact hf.2
  subst hi;have ht:DO fr c true M=(0,c,(Ce M 0:Int)):=by unfold DO;rw[if_pos hf]
  rw[ht];refine⟨[],CI.refl _ _,by simp,.inl ⟨rfl,hn,S,?_,by simp,hh⟩⟩
  cases h with
  |zero=>exact absurd hp.inner0 (by simp)
  |succ h =>
   obtain⟨_,hk⟩:=hp
   match M,hM with
   | [z],_ =>
    obtain⟨L1,L2,S1,S2,rfl,rfl,h1,h2,h3,rfl,rfl⟩:=hk;rw[qa2,qa2];exact .inr ⟨h,z.page,rfl,h1⟩
 .have hm:(M=[]/\h=0)\/Many i M:=by
   cases h with
   |zero =>
    by_cases hM:M=[]
    .exact .inl ⟨hM,rfl⟩
    .right;rw[hp.inner0];exact hM
   |succ h =>
    right;have hM:=hne (by omega);obtain⟨rfl,_⟩:=hp;show 2<=M.length
    have:¬M.length=1:=fun h=>hf (by unfold IJ;rw[qai h];rfl)
    have:=qbs.2 hM;omega
  obtain⟨t,u1,u2,u3⟩:=Ui hp ho hh hn hm hz;obtain⟨q,hq⟩:=qD (Ei fr c i M)
  have ht:DO fr c i M=if q.1≠0 then(q.1,q.2.1,-1)else if q.2.2=[]then(0,q.2.1,-1)else if 1<q.2.2.length then((wrC fr q.2.1 true q.2.2).1,(wrC fr q.2.1 true q.2.2).2,(BZ q.2.1.P:Int))else(0,q.2.1,(Ce q.2.2 0:Int)):=by
   unfold DO;rw[if_neg hf,hq]
  rw[<-hq]at u1 u3;rw[ht]
  rcases u3 with u3|u3
  .obtain⟨S',k1,k2,k3⟩:=u3.kids;have hnum:=u3.num;rw[if_neg (by rw[u3.ok];simp)]
   by_cases h0:q.2.2=[]
   .rw[if_pos h0];rw[h0]at k1;obtain⟨rfl,rfl⟩:=k1;exact⟨t,u1,by omega,.inl ⟨rfl,u3.on,[],.inl ⟨rfl,rfl,rfl⟩,k2,k3⟩⟩
   .rw[if_neg h0];have hpos:=qbs.2 h0
    by_cases h1:1<q.2.2.length
    .rw[if_pos h1];have hk38:=k1.total ho
     have:38*q.2.2.length<=38*2:=qb0 _ hnum
     obtain⟨t2,v1,v2,v3⟩:=LH (h:=h+1) (i:=true) ⟨rfl,k1⟩ ho k3 u3.on (show Many true q.2.2 from h1) (by omega);have hci:=u1.trans v1;rw[qa2]at hci;refine⟨_,hci,by rw[qam];omega,?_⟩
     rcases v3 with⟨v3,rfl,v4,v5,v6⟩|v3
     .refine .inl ⟨v3,v4,BZ q.2.1.P::S',.inr ⟨h+1,_,rfl,v5⟩,?_,v1.held.app (k3.keep v1)⟩;rw[qec]at *;intro z;have e1:=k2 z;simp only[qed,qd4,List.count_nil]at *;omega
     .exact .inr (v3.back u1 (by omega))
    .rw[if_neg h1];refine⟨t,u1,by omega,.inl ⟨rfl,u3.on,S',.inr ?_,k2,k3⟩⟩;have h2:q.2.2.length=1:=by omega
     match hq2:q.2.2,h2 with
     | [z],_ =>
      rw[hq2]at k1;obtain⟨L1,L2,S1,S2,rfl,rfl,h1,h2,h3,rfl,rfl⟩:=k1;rw[qa2,qa2];exact⟨h,z.page,rfl,h1⟩
  .rw[if_pos u3.ne];exact⟨t,u1,by omega,.inr (u3.mono (by omega))⟩
structure After(fr:Nat)(A:Dev)(P:List Nat)(A':Dev)(P':List Nat):Prop where
 blk:∀q,(∀x:Nat,P[x]?=some 0->q≠fr+x)->A'.B.getD q (zeros,[])=A.B.getD q (zeros,[])
 blen:A'.B.length=A.B.length
 left:A.left = -1->A'.left = -1
 len:P'.length=P.length
 back:P'.map Q0=P.map Q0
def Worse(A:Dev)(P:List Nat)(e:Int)(m:Nat):Prop:=(e=8/\A.left ≠ -1)\/(e=7/\Dt P<m)
theorem Ae4{fr:Nat}{c0 c:Ch}{t g:List Nat}{S S':List Nat}(h:CI fr c0 c t g)(h0:c0.tk=[]/\c0.gn=[])(hS:∀x:Nat,(x∈S↔c0.P[x]?=some 1\/c0.P[x]?=some 2))(hd:S.Nodup)(hp:(S'++g).Perm (S++t)) :
  After fr c0.A c0.P (DC c 0).A (DC c 0).P/\S'.Nodup/\∀x:Nat,(x∈S'↔(DC c 0).P[x]?=some 1\/(DC c 0).P[x]?=some 2):=by
 have hgn:c.gn=g:=by rw[h.gn,h0.2];rfl
 have hH:Held c0.P S:=fun x hx=>((hS x).1 hx).elim (fun h=>⟨1,h,by decide⟩) fun h=>⟨2,h,by decide⟩
 have hnd:(S++t).Nodup:=by
  rw[qdh];exact⟨hd,h.nd,fun a ha b hb e=>h.apart hH a ha (e ▸ hb)⟩
 have hnd2:=hp.nodup_iff.2 hnd;rw[qdh]at hnd2;obtain⟨n1,n2,n3⟩:=hnd2
 have hget:∀x:Nat,(DC c 0).P[x]?=if x∈g then c.P[x]?.map LN else c.P[x]? := fun x=>by
  show(List.foldl Fu c.P (if(0:Int)≠0 then c.tk else c.gn))[x]?=_;rw[if_neg (by simp),hgn,Pe g _ n2 x]
 have hlen:(DC c 0).P.length=c0.P.length:=by
  show(List.foldl Fu c.P _).length=_;rw[QG,h.len]
 refine⟨⟨fun q hq=>h.blk q fun x hx=>hq x (h.was x hx),h.blen,h.left,hlen,?_⟩,n1,fun x=>?_⟩
 .refine qck fun x=>?_;rw[qax,qax,hget x,h.now x]
  by_cases ht:x∈t
  .rw[if_pos ht,h.was x ht]
   split <;> rfl
  .rw[if_neg ht]
   split
   .cases c0.P[x]? with
    |none=>rfl
    |some s=>simp only[qbd,Y0]
   .rfl
 .rw[hget x];have hm:=hp.mem_iff (a:=x);simp only[qat]at hm;constructor
  .intro hx;have hxg:x∉g:=fun h2=>n3 x hx x h2 rfl;rw[if_neg hxg,h.now x]
   rcases hm.1 (.inl hx)with h2|h2
   .rw[if_neg (h.apart hH x h2)];exact(hS x).1 h2
   .rw[if_pos h2];exact .inr rfl
  .intro hx
   by_cases hxg:x∈g
   .rw[if_pos hxg]at hx;exfalso
    cases hc:c.P[x]? with
    |none=>rw[hc]at hx;simp at hx
    |some s =>
     rw[hc]at hx;simp only[qbd,qba]at hx;exact hx.elim (QH s).1 (QH s).2
   .rw[if_neg hxg,h.now x]at hx
    have:x∈S\/x∈t:=by
     by_cases ht:x∈t
     .exact .inr ht
     .rw[if_neg ht]at hx;exact .inl ((hS x).2 hx)
    exact(hm.2 this).elim id fun h2=>absurd h2 hxg
theorem Ur{fr:Nat}{c0 c:Ch}{t g:List Nat}{e:Int}(h:CI fr c0 c t g)(h0:c0.tk=[]/\c0.gn=[])(he:e≠0):After fr c0.A c0.P (DC c e).A (DC c e).P/\(DC c e).P=c0.P:=by
 have htk:c.tk=t:=by rw[h.tk,h0.1];rfl
 have hP:(DC c e).P=c0.P:=by
  refine qck fun x=>?_;show(List.foldl Fu c.P (if e≠0 then c.tk else c.gn))[x]?=_;rw[if_pos he,htk,Pe t _ h.nd x,h.now x]
  by_cases ht:x∈t
  .rw[if_pos ht,if_pos ht,h.was x ht];rfl
  .rw[if_neg ht,if_neg ht]
 exact⟨⟨fun q hq=>h.blk q fun x hx=>hq x (h.was x hx),h.blen,h.left,by rw[hP],by rw[hP]⟩,hP⟩
structure Turned(fr:Nat)(A:Dev)(P:List Nat)(root:Int)(L:List Pr)(m:Nat)(r:Int × Int × Ch):Prop where
 aft:After fr A P r.2.2.A r.2.2.P
 out:(r.1=0/\r.2.2.A.on=true/\TreeAt fr r.2.2.A r.2.2.P r.2.1 L)\/(r.2.1=root/\r.2.2.P=P/\Worse A P r.1 m)
theorem Ack{R:Nat->Option (Bool × List It)}{h p n:Nat}{L:List Pr}{S:List Nat}(hL:Lies R h p L S)(hd:S.Nodup)(hlt:∀x∈S,x<n)(hn:n<=2000):h<=9:=by
 have h1:=hL.count.1;have h2:=Se n S hd hlt
 rcases qbl h 10 with h3|h3
 .omega
 .have:2 ^ 11<=2 ^ (h+1):=qcl (by omega) (by omega)
  omega
theorem Y1{fr:Nat}{A:Dev}{P:List Nat}{root:Int}{L:List Pr}{key:Byt}{G:List It->List It}{g:List Pr->List Pr}(act:Acts key G g)(hr:∀L,Rising L->Rising (g L))(T:TreeAt fr A P root L)(hon:A.on=true)(hl:fr+P.length<=A.B.length)(hP:P.length<=2000){m:Nat}(hm:∀h,h=0\/2 ^ (h+1)<=P.length+1->2*h+3<=m) :
  Turned fr A P root (g L) m (Dw fr A P root key G):=by
 obtain⟨S,hroot,hnd,hS⟩:=T.lies;have hH:Held P S:=fun x hx=>((hS x).1 hx).elim (fun h=>⟨1,h,by decide⟩) fun h=>⟨2,h,by decide⟩;obtain⟨ed,hed⟩:=qD (if root = -1 then(0,⟨A,P,[],[]⟩,false,G [])else C8 fr G key 18 ⟨A,P,[],[]⟩ root.toNat 0:Int × Ch × Bool × List It);have hn:On fr (⟨A,P,[],[]⟩:Ch):=⟨hon,hl,by show P.length<=4096;omega⟩
 have he:∃(h:Nat) (t g':List Nat),2*h+3<=m/\CI fr ⟨A,P,[],[]⟩ ed.2.1 t g'/\t.length<=2*h/\(Eds fr h (g L) S t g' ed\/Bad ⟨A,P,[],[]⟩ ed.1 (2*h)):=by
  rcases hroot with⟨rfl,rfl,rfl⟩|⟨h,p,rfl,hLies⟩
  .rw[if_pos rfl]at hed;have h0:=act.leaf [] List.Pairwise.nil (fun p hp=>by cases hp);rw[qbq]at h0;have hsz:=act.size [] List.Pairwise.nil (fun p hp=>by cases hp);rw[hed,h0];exact⟨0,[],[],hm 0 (.inl U),CI.refl _ _,by simp,.inl ⟨rfl,hn,⟨[],⟨rfl,rfl,rfl⟩,by simp,fun x hx=>by cases hx⟩,fun h=>absurd h (Nat.lt_irrefl 0),by show AQ false (List.map BK (g []))<=667;have:AQ false (List.map BK [])=0:=rfl;omega⟩⟩
  .rw[if_neg (by omega),qbi]at hed;have hh:=Ack hLies hnd (fun x hx=>hH.lt hx) hP;obtain⟨t,g',e1,e2,e3⟩:=QF act h 18 ⟨A,P,[],[]⟩ p 0 L S hLies T.rise T.ok hH hn (by omega) (by omega);rw[hed];have h1:=hLies.count.1;have h2:=Se P.length S hnd fun x hx=>hH.lt hx;exact⟨h,t,g',hm h (.inr (by omega)),e1,e2,e3⟩
 obtain⟨h,t,g',hh,e1,e2,e3⟩:=he
 have hturn:Dw fr A P root key G=if ed.1≠0 then(ed.1,root,DC ed.2.1 ed.1)else if(DO fr ed.2.1 ed.2.2.1 ed.2.2.2).1≠0 then((DO fr ed.2.1 ed.2.2.1 ed.2.2.2).1,root,DC (DO fr ed.2.1 ed.2.2.1 ed.2.2.2).2.1 (DO fr ed.2.1 ed.2.2.1 ed.2.2.2).1)else(0,(DO fr ed.2.1 ed.2.2.1 ed.2.2.2).2.2,DC (DO fr ed.2.1 ed.2.2.1 ed.2.2.2).2.1 0):=by
  unfold Dw;rw[hed]
 rw[hturn]
 rcases e3 with e3|e3
 .obtain⟨S1,p1,p2,p3⟩:=e3.part;rw[if_neg (by rw[e3.ok];simp)];obtain⟨t2,v1,v2,v3⟩:=Acj p1 (act.ok _ T.ok) p3 e3.on e3.ne e3.sz;have hci:=e1.trans v1;rw[qa2]at hci
  rcases v3 with v3|v3
  .obtain⟨S2,k1,k2,k3⟩:=v3.root;rw[if_neg (by rw[v3.ok];simp)]
   obtain⟨o1,o2,o3⟩:=Ae4 (S:=S) (S':=S2) hci ⟨rfl,rfl⟩ hS hnd (by
    rw[qec]at *;intro z;have e1:=p2 z;have e2:=k2 z;simp only[qed]at *
    omega)
   exact⟨o1,.inl ⟨rfl,v3.on.on,⟨⟨S2,k1,o2,o3⟩,hr _ T.rise,act.ok _ T.ok⟩⟩⟩
  .rw[if_pos v3.ne];obtain⟨o1,o2⟩:=Ur (e:=(DO fr ed.2.1 ed.2.2.1 ed.2.2.2).1) hci ⟨rfl,rfl⟩ v3.ne;exact⟨o1,.inr ⟨rfl,o2,(v3.back e1 (show 3+t.length<=m by omega))⟩⟩
 .rw[if_pos e3.ne];obtain⟨o1,o2⟩:=Ur (e:=ed.1) e1 ⟨rfl,rfl⟩ e3.ne;exact⟨o1,.inr ⟨rfl,o2,e3.mono (by omega)⟩⟩
end Go.Proofs.YtcpgbcabmcbclaaGreatDoor
