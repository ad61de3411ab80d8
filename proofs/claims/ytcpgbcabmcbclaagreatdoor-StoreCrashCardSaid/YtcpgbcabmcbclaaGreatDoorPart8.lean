/- Part 8 of the proof. -/
import Derived.Test.YtcpgbcabmcbclaaGreatDoorPart7
set_option maxRecDepth 20000
set_option maxHeartbeats 8000000
namespace Go.Proofs.YtcpgbcabmcbclaaGreatDoor
open Go.GV Go.Proofs.Tryz
attribute [local irreducible] AB W Wq Wt
def prI(x:It):Pr:=(x.key,x.val)
def MQ(kf:Byt)(i:Bool)(l:List It):List Pr:=if i=true then[]else(l.filter fun x=>decide (0<=DX x.key kf)).map prI
def Lu(kf:Byt)(v:List Nd):List Pr:=v.flatMap fun x=>MQ kf x.2.1 x.2.2
def XR(kt:Byt)(L:List Pr):List Pr:=if kt=[]then L else L.takeWhile fun p=>decide (DX p.1 kt<0)
def Oo(A:Dev)(fr sz:Nat)(root:Int)(kf kt:Byt):Int × List Pr :=
 if Ib sz root≠0 then(1,[])else if(Ev A fr sz root).1≠0 then((Ev A fr sz root).1,[])else(0,XR kt (Lu kf (Ev A fr sz root).2))
def Hh(m:Im):List Value:=[.slice m.ka m.it.key.length m.kc,.slice m.va m.it.val.length m.vc]
theorem Hi(m:Im):∀v∈Hh m,Bi v=true:=fun v hv=>by
 simp only[Hh,qac,qam,or_false]at hv
 rcases hv with rfl|rfl <;> rfl
structure Prs(w:World)(M:Mut)(a:Option Addr)(n c:Nat)(L:List Pr):Prop where
 ex:∃ps:List Im,Rd w a 2 Hh ps/\(ps=[]\/¬M (adr a).block)/\ps.map (fun m=>prI m.it)=L/\∀m∈ps,m.Ok w M
 num:n=L.length
 le:n<=c
theorem Rdx.read{w w':World}{M:Mut}{a:Option Addr}{l:Byt}{S:List Nat}(X:Rdx w M a l)(hx:Ext S w w')(hS:∀x∈S,M x):Rd w' a 1 B8 l:=by
 obtain⟨R,hn⟩:=X
 rcases hn with rfl|hn
 .exact Rd.nil
 .exact R.ext hx fun h=>hn (hS _ h)
theorem ZZ{kf:Byt}{i:Bool}{l:List It}{k:Nat}{x:It}(h:l[k]?=some x):MQ kf i (l.take (k+1))=MQ kf i (l.take k)++if(decide (i=false) && decide (0<=DX x.key kf))=true then[prI x]else[]:=by
 unfold MQ
 cases i with
 |true=>simp
 |false =>
  simp only[qdn,if_false,decide_true,qdx,qap];rw[Bp h,qbq,qaz]
  congr 1
  by_cases hc:0<=DX x.key kf
  .rw[if_pos hc,qbm,qal hc];rfl
  .rw[if_neg hc,qbm,qag hc];rfl
theorem Wn{α:Type}{p:α->Bool}:∀{L:List α} {i:Nat},(∀(j:Nat) (x:α),j<i->L[j]?=some x->p x=true)->(∀x,L[i]?=some x->p x=false)->L.takeWhile p=L.take i
 | [],i,_,_=>by simp
 |x::L,0,_,h=>by rw[qc4,h x rfl];rfl
 |x::L,i+1,h1,h2=>by
  rw[qc4,h1 0 x (by omega) rfl,qek];simp only[if_true];rw[Wn (i:=i) (fun j y hj hy=>h1 (j+1) y (by omega) (by simpa using hy)) fun y hy=>h2 y (by simpa using hy)]
theorem Ajs{wx z:World}{Mx:Mut}{w0 w2:World}{S':List Nat}{ps:List Im}(hok:∀m∈ps,m.Ok wx (MZ Mx (Old w2)))(hx:Ext S' wx z)(hS:∀x∈S',Mx x\/x<w2.heap.size)(hle:w0.heap.size<=w2.heap.size):∀m∈ps,m.Ok z (Old w0):=fun m hm =>
 (hok m hm).turn ⟨⟨S',fun x h=>hS x h,hx⟩,fun _ h => .inl (.inr (qas h hle))⟩
structure SJ(w0:World)(bt bd bp ba fr:Nat)(A:Dev)(P:List Nat)(F:Mut)(b l:Nat)(lo:Loop)(b6:Nat)(o6:Obj)(Z:Mut)(kf:Byt)(v:List Nd)(M:Mut)(w:World)(a:Option Addr)(n c:Nat)(full:List Value)(ps:List Im):Prop where
 G:GJ w0 bt bd bp ba fr A P F 36 68 2 b l lo (ps.flatMap Hh) M w a n c full
 x0:Ext [] w0 w
 prs:ps.map (fun m=>prI m.it)=Lu kf v
 ok:∀m∈ps,m.Ok w (MZ M Z)
 h6:w.heap[b6]?=some o6
 n6:¬M b6
theorem SJ.ext{w0 w w':World}{bt bd bp ba fr:Nat}{A:Dev}{P:List Nat}{F:Mut}{b l:Nat}{lo:Loop}{b6:Nat}{o6:Obj}{Z:Mut}{kf:Byt}{v:List Nd}{M:Mut}{a:Option Addr}{n c:Nat}{full:List Value}{ps:List Im}(S:SJ w0 bt bd bp ba fr A P F b l lo b6 o6 Z kf v M w a n c full ps)(hx:Ext [] w w'):SJ w0 bt bd bp ba fr A P F b l lo b6 o6 Z kf v M w' a n c full ps :=
 ⟨S.G.ext hx,S.x0.trans hx,S.prs,fun m hm=>(S.ok m hm).call hx,by rw[hx.block b6 (Al S.h6) (by simp)];exact S.h6,S.n6⟩
theorem Ajt{fr:Nat}{w:World}{bt bd bp ba:Nat}{A:Dev}{P:List Nat}{F:Mut}(T:Tx w bt bd bp ba fr A P F [])(root:Int)(fa ta:Option Addr)(fc tc fn' tn:Nat)(kf kt:Byt)(Rf:Rd w fa 1 B8 kf)(hfn:kf.length=fn')(Rt:Rd w ta 1 B8 kt)(htn:kt.length=tn){mx:Nat}(hfew:Few A mx)(hmx:mx<=1000000000)(hN:(Ev A fr P.length root).2.length<=100000)(hfr:fr<=5000:=by decide)(hr1: -9223372036854775808<=root:=by omega)(hr2:root<=9223372036854775807:=by omega):
  Ret prog 100 #[ptr bt,.int .i64 root,.slice fa fn' fc,.slice ta tn tc] w fun v w'=>∃a c,v=.tuple #[.slice a (Oo A fr P.length root kf kt).2.length c,.int .i64 (Oo A fr P.length root kf kt).1]/\Prs w' (Old w) a (Oo A fr P.length root kf kt).2.length c (Oo A fr P.length root kf kt).2/\Ext [] w w':=by
 subst hfn htn;obtain⟨w0,rfl⟩:=qD w;obtain⟨wt,hwt⟩:=qD (Oo A fr P.length root kf kt);rw[<-hwt];unfold Oo at hwt;have h0:=T.mlt;have H:=Ctx.start w0 [];refine JI (fn:=f100) func100 U [.pointer (some ⟨bt,0,none⟩),.int .i64 root,.slice fa kf.length fc,.slice ta kt.length tc] U ?_;refine Ad (Cn _ (.slice _ _ _) U U H ?_);rintro b6 w - H;refine Bj zc_36 H ?_;rintro b8 w - H;refine Bj Xr H ?_;rintro b9 w - H;refine qA (Aq (Ad (Am U (Ae U (Ai qB (QK (T.call H.ext) root) U ?_)))));rintro v w2 ⟨rfl,rfl⟩;refine Ac U (qA (Ad (Ae U (Ba U U (qA (Au _ U ?_ ?_))))))
 .intro hA;replace hA:=Bu hA;rw[if_pos hA]at hwt;have he:Ib P.length root=1:=by unfold Ib at hA |-;split <;> simp_all
  rw[he];refine Ad (Ae U (Bf (.slice _ _ _) UE U U U H at1 (by decide) ?_));rintro w H;refine Bf (.int _ _) Ga U U U H at0 (by decide) ?_;rintro w H;refine qA (Ax (Ao (H3 U U U JJ EW ?_)));exact⟨_,_,_,_,_,_,H.get at1,H.get at0,none,0,by rw[hwt];rfl,by rw[hwt];exact⟨⟨[],Rd.nil,.inl rfl,rfl,fun m h=>by cases h⟩,rfl,qae _⟩,H.ext⟩
 .intro hA;replace hA:=Bv hA;rw[if_neg (by simpa using hA)]at hwt;obtain⟨ng,hng⟩:=qD (Ev A fr P.length root);rw[<-hng]at hwt hN;refine Ap (Aa (Aq (Ad (Am U (Ae U ?_)))));have hb8w:=H.lt (k:=1) rfl;have hb9w:=H.lt (k:=0) rfl;have hb6w:=H.lt (k:=2) rfl;refine Ai qB (XP bt b9 root _) U ?_;rintro v w3 ⟨x3,x4,x5,rfl,⟨t4,hx4⟩,⟨t3,hx3⟩,⟨t5,hx5⟩,n4,n3,n5,hxn⟩;replace H:=H.call hxn;refine qA (AE (HK U qB ?_));intro fn tmps hts htm Db l w2 hDb hl hx2 hD hrec;obtain⟨lo,hlo,hrec'⟩:∃lo,lo=_/\w2.heap[l]?=some (.loop lo):=⟨_,rfl,hrec⟩;have hw03:=H.ext;have hs03:=hw03.size;have hs32:=hx2.size;have up2:∀{b:Nat} {o:Obj},w3.heap[b]?=some o->w2.heap[b]?=some o:=fun{b o} g=>by rw[hx2.block b (Al g) (by simp)];exact g
  have hb8:=H.get at1;have hb9:=H.get at0;have hb6:=H.get at2;have hb89:=H.ne at1 at0 (by decide);have hb68:=H.ne at2 at1 (by decide);have ho8:w0.heap.size<=b8:=(H.own _ (qai _ (qaf ..))).elim (fun h=>by cases h) id;have ho9:w0.heap.size<=b9:=(H.own _ (qaf ..)).elim (fun h=>by cases h) id;have hl8:=Al hb8;have hl9:=Al hb9;have hl6:=Al hb6;have hxl4:=Al hx4;have hxl3:=Al hx3;have hxl5:=Al hx5;have hN':(Ev A fr P.length root).2.length<=100000:=by rw[<-hng];exact hN
  have JO:JOk bt bd bp ba fr A P F (Old w2) 100000 l (fun v M w=>v.length<=100000/\∃a n c full ps,n<=65535*v.length/\SJ w0 bt bd bp ba fr A P F b8 l lo b6 (Bl 24 [.slice fa kf.length fc]) (Old w2) kf v M w a n c full ps):=by
   refine⟨fun{v M w} h=>?_,fun{v M w w'} h hx=>?_,fun{v M w} h=>?_,?_⟩
   .obtain⟨-,a,n,c,full,ps,-,S⟩:=h;exact S.G.lt
   .obtain⟨hv,a,n,c,full,ps,hn,S⟩:=h;exact⟨hv,a,n,c,full,ps,hn,S.ext hx⟩
   .obtain⟨-,a,n,c,full,ps,-,S⟩:=h;exact S.G.tx
   .rintro v M wJ page i a7 n7 c7 L7 ⟨hvl,a,n,c,full,ps,hnv,S⟩ hv I hL hLb hpg;have G:=S.G;have hloop:=G.loop;obtain⟨ms,R7,hR7,hl7,hok7⟩:=I.ex;have hn7:=I.num;have hml7:ms.length=n7:=by rw[hn7,<-hl7,qaj]
    subst hlo;refine KW hloop U (II _ (NY hts htm) ?_);have H:=Ctx.start wJ [];refine Av (Bj Cl H ?_);rintro b12 w - H;refine Bo Bh U U U (by simp[Bi]) H at0 U ?_;rintro w H;refine Ab ?_;have hxa:=H.ext;have SA:=S.ext hxa;have GA:=SA.G;refine Lj GA.loop U ?_;intro wR lo2 hxR hlR hlo2;have hb12:=H.get at0;have ho12:wJ.heap.size<=b12:=(H.own _ (qaf ..)).elim (fun h=>by cases h) id
    have hb12R:wR.heap[b12]?=some (NBl i a7 n7 c7):=by
     rw[hxR.block b12 (Al hb12) (by rw[qaa];have:=Al hloop;omega)];exact hb12
    have n12:b12∉((b8,Bl 36 [.slice a n c])::ent a 68 full).map (·.1):=fun h=>by
     obtain⟨y,hy,he⟩:=qah.1 h;have:=Al (G.blk y hy).1;omega
    have hb6R:wR.heap[b6]?=some (Bl 24 [.slice fa kf.length fc]):=by
     rw[hxR.block b6 (Al SA.h6) (by rw[qaa];omega)];exact SA.h6
    have n6:b6∉((b8,Bl 36 [.slice a n c])::ent a 68 full).map (·.1):=fun h=>S.n6 (by rw[G.M];exact .inr h);have H:=GA.body hxR
    have hMl:∀x∈l::((b8,Bl 36 [.slice a n c])::ent a 68 full).map (·.1),M x/\w0.heap.size<=x:=fun x h=>by
     rw[G.M]
     rcases qac.1 h with rfl|h
     .exact⟨.inl rfl,by omega⟩
     .obtain⟨y,hy,he⟩:=qah.1 h;exact⟨.inr h,by rw[<-he];exact(G.blk y hy).2.1⟩
    have hxw:∀{z:World},Ext (((b8,Bl 36 [.slice a n c])::ent a 68 full).map (·.1)) wR z->Ext (l::((b8,Bl 36 [.slice a n c])::ent a 68 full).map (·.1)) wJ z:=fun{z} hz=>((hxa.mono (by simp)).trans (hxR.mono (fun x h=>by rw[qaa.1 h];exact qaf ..))).trans (hz.mono fun x h=>qai _ h);have k12:∀{z:World},Ext (((b8,Bl 36 [.slice a n c])::ent a 68 full).map (·.1)) wR z->z.heap[b12]?=some (NBl i a7 n7 c7):=fun{z} hz=>by rw[hz.block b12 (Al hb12R) n12];exact hb12R
    have k6:∀{z:World},Ext (((b8,Bl 36 [.slice a n c])::ent a 68 full).map (·.1)) wR z->z.heap[b6]?=some (Bl 24 [.slice fa kf.length fc]):=fun{z} hz=>by rw[hz.block b6 (Al hb6R) n6];exact hb6R
    have kR:∀{z:World},Ext (((b8,Bl 36 [.slice a n c])::ent a 68 full).map (·.1)) wR z->Rd z a7 3 Im.enc ms:=fun{z} hz=>by
     rcases hR7 with h|h
     .rw[h];exact Rd.nil
     .exact R7.ext (hxw hz) fun h5=>h (.inl (hMl _ h5).1)
    have kF:∀{z:World},Ext (((b8,Bl 36 [.slice a n c])::ent a 68 full).map (·.1)) wR z->Rd z fa 1 B8 kf:=fun{z} hz=>Rf.ext0 (S.x0.then (hxw hz) fun x h => .inr (hMl x h).2);refine AE (Ad (Af Br U (Be BT U ((by rw[Ar (k12 H.ext)];rfl)) ?_)));refine AP Bw U (Ae U (qA (AE (B7 18014396362014720 (α:=Nat × Option Addr × Nat × Nat × List Value × List Im) (fun s=>[(31,.int .i64 (s.1:Int))]) (fun s w'=>s.1<=n7/\s.2.2.1<=n+s.1/\Ctx wR (((b8,Bl 36 [.slice a n c])::ent a 68 full).map (·.1)) w' ((b8,Bl 36 [.slice s.2.1 s.2.2.1 s.2.2.2.1])::ent s.2.1 68 s.2.2.2.2.1)/\OS s.2.1 s.2.2.1 s.2.2.2.1 2 s.2.2.2.2.1 (s.2.2.2.2.2.flatMap Hh)/\s.2.2.2.2.2.map (fun m=>prI m.it)=Lu kf v++MQ kf i (L7.take s.1)/\∀m∈s.2.2.2.2.2,m.Ok wJ (MZ M (Old w2))) (fun s=>n7 - s.1) (0,a,n,c,full,ps) U ?_ ?_ ?_))))
    .exact⟨rfl,trivial⟩
    .exact⟨qak _,qae _,H,G.os,by dsimp only;rw[S.prs];unfold MQ;simp,S.ok⟩
    .rintro⟨k,a2,n2,c2,full2,ps2⟩ j w' ⟨hk,hn2,H2,O2,hps2,hok2⟩;dsimp only at hk hn2 H2 O2 hps2 hok2;dsimp only;have H:=H2;have Rk:=kR H.ext;refine Ad (Bn U U (qA (Aq (Au _ U ?_ ?_))))
     .intro hB;replace hB:=AV hB;obtain⟨x,hx1⟩:=AO (l:=ms) (i:=k);have hxL:=Im.at hl7 hx1;have hxo:=hok7 x (qad hx1);have hxb:=hLb x.it (qad hxL);have hsn:=ZZ (kf:=kf) (i:=i) hxL;refine Ap (Aa (Aq (AE (Ad (AY Rk Bw Bm U U ?_)))));refine EY _ Ds Bm U U (Rk.row hx1 U) (Bj C3 H ?_);rintro b14 w - H;refine Bo Bm U U U (by exact Im.oneE _) H at0 U ?_;rintro w H;refine qA ?_;obtain⟨wq,rfl⟩:=qD w;have Rx:=hxo.k.read (hxw H.ext) fun z hz => .inl (hMl z hz).1;refine Ad (BE (α:=Unit) 35150012350464 (fun _=>[(44,.bool (decide (i=false) && decide (0<=DX x.it.key kf)))]) (fun _ w'=>wq=w') U ?_ ?_)
      .refine Af DD U (Be Gf U ((by rw[Ar (k12 H.ext)];rfl)) ?_);refine BX U (AA U (AR 38 U ?_ ?_))
       .intro h1;replace h1:=Cz h1;refine Af FC U (AH B4 U H at0 U (Be B4 U ((by rw[Ar (k6 H.ext)];rfl)) ?_));refine Ai qB (IV x.ka fa x.kc fc _ _ x.it.key kf Rx (kF H.ext) U U) U ?_;rintro v5 w5 ⟨rfl,rfl⟩;refine IE U U (AN U (.bool _) U (Ab ?_));exact⟨rfl,(),rfl,⟨qab Value.bool (by(rw[h1];rfl)),trivial⟩,rfl⟩
       .intro h2;replace h2:=C0 h2;refine Ag U (Ag U (Ag U (Ag U (Ag U (AK U (.bool _) U (Ab ?_))))));exact⟨rfl,(),rfl,⟨qab Value.bool (by(rw[h2];rfl)),trivial⟩,rfl⟩
      rintro - j44 w rfl;refine Au _ U ?_ ?_
      .intro hC;rw[if_pos hC]at hsn;refine Av (AH JJ U H at1 U (Af FC U (AH B4 U H at0 U (Af Le U (AH B4 U H at0 U (B2 [.slice x.ka x.it.key.length x.kc,.slice x.va x.it.val.length x.vc] UD FD ?_))))));refine BJ [.slice x.ka x.it.key.length x.kc,.slice x.va x.it.val.length x.vc] (.agg _) Cv Dq FD U U U U H ?_;rintro b51 w - H;refine BO (L:=[_,_]) Cv Cv Dq Qh FD U U U H O2 U (Hi x) ?_;rintro a52 c52 f52 w H O52;refine Bf (.slice _ _ _) UE U U U H at1 (by(simp;done)) ?_;rintro w H;refine Ab (AF (Aa (Av (A7 U U ?_))));refine Ae U (qA ?_)
       refine⟨(k+1,a52,n2+1,c52,f52,ps2++[x]),rfl,⟨rfl,trivial⟩,⟨by dsimp only;omega,by dsimp only;omega,H.tail,by dsimp only;rw[qbf,qb8];exact O52,by dsimp only;rw[qaz,hsn,hps2,qa1];rfl,fun m hm=>?_⟩,by dsimp only;omega⟩;dsimp only at hm
       rcases qau.1 hm with hm|hm
       .exact hok2 m hm
       .rw[qaa.1 hm];exact hxo
      .intro hC;rw[if_neg (by rw[hC];simp),qa3]at hsn;refine Ap (AF (Aa (Av (A7 U U ?_))));refine Ae U (qA ?_);exact⟨(k+1,a2,n2,c2,full2,ps2),rfl,⟨rfl,trivial⟩,⟨by dsimp only;omega,by dsimp only;omega,H.tail,O2,by dsimp only;rw[hsn];exact hps2,hok2⟩,by dsimp only;omega⟩
     .intro hB;replace hB:=AW hB;have hii:k=n7:=by omega
      rw[qa6 (by omega)]at hps2;refine B3 (Ay (Ay (Bb (AF ?_))))
      have hlE:w'.heap[l]?=some (.loop lo2):=by
       rw[H.ext.block l (Al hlR) fun h=>?_]
       .exact hlR
       .obtain⟨y,hy,he⟩:=qah.1 h;exact(G.blk y hy).2.2 he
      refine IA hlE hlo2 U U ?_;intro wF hxF hlF
      obtain⟨G9,g9⟩:=GA.next h0 (by omega) hxR H O2 hxF hlF
      have gg9:=(Grown.call0 hxa).trans g9;obtain⟨⟨S9,hS9,hx9⟩,-⟩:=id g9;refine⟨rfl,_,⟨by simp;omega,a2,n2,c2,full2,ps2,by rw[qan,qbu];omega,G9,SA.x0.then hx9 fun x h => .inr ?_,?_,fun m hm=>(hok2 m hm).turn (gg9.or _),gg9.keep S.h6 S.n6,fun h=>(gg9.2 b6 h).elim S.n6 fun h5=>by have:=Al S.h6;omega⟩,gg9⟩
      .have h5:=hS9 x h;rw[G.M]at h5
       rcases h5 with h5|h5
       .omega
       .obtain⟨y,hy,he⟩:=qah.1 h5;have:=(G.blk y hy).2.1;omega
      .rw[hps2];unfold Lu;simp
  have hJ0:(fun(v:List Nd) (M:Mut) (w:World)=>v.length<=100000/\∃a n c full ps,n<=65535*v.length/\SJ w0 bt bd bp ba fr A P F b8 l lo b6 (Bl 24 [.slice fa kf.length fc]) (Old w2) kf v M w a n c full ps) [] (fun x=>x=l\/x∈((b8,Bl 36 [.slice none 0 0])::ent none 68 []).map (·.1)) w2:=by
   refine⟨by simp,none,0,0,[],[],qak _,⟨rfl,T.call (hw03.trans hx2),hrec',fun y hy=>?_,qem ..,OS.nil⟩,hw03.trans hx2,rfl,(fun m hm=>by cases hm),up2 hb6,fun h=>?_⟩
   .rw[qaa.1 hy];exact⟨up2 hb8,ho8,by dsimp only;omega⟩
   .rcases h with h|h
    .omega
    .exact hb68 (by simpa[ent]using h)
  have hnM:∀x,x≠l->x≠b8->¬(x=l\/x∈((b8,Bl 36 [.slice none 0 0])::ent none 68 []).map (·.1)):=fun x h1 h2 h=>by
   rcases h with h|h
   .exact h1 h
   .exact h2 (by simpa[ent]using h)
  refine Ret.mono (UZ JO hfr hfew hmx hJ0 (fun x h=>h) (up2 hx4) (up2 hx3) (up2 hx5) (up2 hb9) (hnM _ (by omega) (by omega)) (hnM _ (by omega) (by omega)) (hnM _ (by omega) (by omega)) (hnM _ (by omega) (Ne.symm hb89)) hr1 hr2 hN') ?_;rintro v w4 ⟨wx,Mx,⟨-,a,n,c,full,ps,hnv,S⟩,gx,hx9w,he9⟩;rw[<-hng]at S he9 hnv;have G:=S.G;have hloop:=G.loop;have hb9l:b9≠l:=by omega
  have hl1:w4.heap[l]?=some (.loop lo):=by rw[hx9w.block l (Al hloop) (by simpa using fun h=>hb9l h.symm)];exact hloop
  refine⟨_,hl1,by subst hlo;exact(fun h=>by cases h),HS (by rw[hlo]) ?_⟩;have hx6:=Ext.setB w4 l (.loop { lo with state := .exhausted });generalize w4.putObj l (.loop { lo with state := .exhausted })=w6 at hx6 |-
  have hEnt:∀y∈(b8,Bl 36 [.slice a n c])::ent a 68 full,w6.heap[y.1]?=some y.2:=fun y hy=>by
   have h1:=G.blk y hy
   have h2:y.1≠b9:=fun e=>by
    rcases gx.2 y.1 (by rw[G.M];exact .inr (qah.2 ⟨y,hy,rfl⟩))with h|h
    .exact hnM y.1 h1.2.2 (fun e4=>hb89 (e4 ▸ e)) h
    .omega
   rw[hx6.block y.1 (qas (Al h1.1) hx9w.size) (by simpa using h1.2.2),hx9w.block y.1 (Al h1.1) (by simpa using h2)];exact h1.1
  have hb96:w6.heap[b9]?=some (Bl 28 [.int .i64 ng.1]):=by
   rw[hx6.block b9 (Al he9) (by simpa using hb9l)];exact he9
  obtain⟨⟨Sg,hSg,hxg⟩,hgg⟩:=gx;have hsx:=hxg.size;have hs45:=hx9w.size;have hs46:=hx6.size;have hM2:∀x,(x=l\/x∈((b8,Bl 36 [.slice none 0 0])::ent none 68 []).map (·.1))->x=l\/x=b8:=fun x h=>h.imp id fun h=>by simpa[ent]using h
  have E46:Ext [b9,l] wx w6:=(hx9w.mono (by simp)).trans (hx6.mono (by simp));have E06:Ext [] w0 w6:=S.x0.then E46 fun x h => .inr (by simp only[qac,qam,or_false]at h;rcases h with rfl|rfl <;> omega)
  have hD6:w6.heap[Db]?=some (.deferred (some [])):=by
   rw[hx6.block Db (by have:=Al hD;omega) (by rw[qaa];omega),hx9w.block Db (by have:=Al hD;omega) (by rw[qaa];omega),hxg.block Db (Al hD) fun h=>by rcases hM2 _ (hSg _ h)with h|h <;> omega];exact hD
  have n9:¬Mx b9:=fun h=>(hgg b9 h).elim (hnM _ hb9l (Ne.symm hb89)) fun h=>by omega
  have hEne:∀y∈(b8,Bl 36 [.slice a n c])::ent a 68 full,b9≠y.1:=fun y hy e=>n9 (by rw[G.M];exact .inr (qah.2 ⟨y,hy,e.symm⟩))
  have hEge:∀x∈(((b9,Bl 28 [.int .i64 ng.1])::(b8,Bl 36 [.slice a n c])::ent a 68 full).map (·.1)),w0.heap.size<=x/\x≠Db:=fun x h=>by
   obtain⟨y,hy,rfl⟩:=qah.1 h
   rcases qac.1 hy with rfl|hy
   .exact⟨ho9,by dsimp only;omega⟩
   .refine⟨(G.blk y hy).2.1,fun e=>?_⟩;have h1:=hEnt y hy;rw[e,hD6]at h1
    rcases qac.1 hy with rfl|hy
    .cases h1
    .cases ha:a with
     |none=>rw[ha]at hy;cases hy
     |some q=>rw[ha]at hy;rw[qaa.1 hy]at h1;cases h1
  have H:=Ctx.startL (L:=(b9,Bl 28 [.int .i64 ng.1])::(b8,Bl 36 [.slice a n c])::ent a 68 full) (w:=w6) (fun y hy=>by
   rcases qac.1 hy with rfl|hy
   .exact hb96
   .exact hEnt y hy) (qbh.2 ⟨hEne,G.nd⟩)
  have hDn:Db∉(((b9,Bl 28 [.int .i64 ng.1])::(b8,Bl 36 [.slice a n c])::ent a 68 full).map (·.1)):=fun h=>(hEge Db h).2 rfl;have hnp:n=ps.length:=G.os.numN (fun _ _=>rfl) (by decide)
  -- what was read lives on
  have hlive:∀{z:World},Ext (((b9,Bl 28 [.int .i64 ng.1])::(b8,Bl 36 [.slice a n c])::ent a 68 full).map (·.1)) w6 z->∃S',Ext S' wx z/\∀x∈S',Mx x\/x<w2.heap.size:=fun{z} hz=>by
   refine⟨_,(E46.mono (S':=b9::l::((b9,Bl 28 [.int .i64 ng.1])::(b8,Bl 36 [.slice a n c])::ent a 68 full).map (·.1)) (by simp)).trans (hz.mono fun x h=>qai _ (qai _ h)),fun x h=>?_⟩
   rcases qac.1 h with rfl|h
   .exact .inr (Al (up2 hb9))
   .rcases qac.1 h with rfl|h
    .exact .inl (by rw[G.M];exact .inl rfl)
    .rcases qac.1 h with rfl|h
     .exact .inr (Al (up2 hb9))
     .exact .inl (by rw[G.M];exact .inr h)
  have hDlt:Db<w2.heap.size:=by have:=Al hrec';omega
  have hs02:w0.heap.size<=w2.heap.size:=by omega
  refine AF (Aa (Aq (Ad (AH EW U H at0 U (Ba U U (qA (Au _ U ?_ ?_)))))))
  .intro hB;replace hB:=Bu hB;rw[if_pos hB]at hwt;refine BR [([0],1),([],2)] (fun z=>z.heap[b9]?=some (Bl 28 [.int .i64 ng.1])) [2] mixed (H.drew.get at0) (AC U U ?_);refine BG EW U (fun _ hx=>(by rw[Ar hx];rfl)) ?_;refine AU ?_;replace H:=H.drew;refine Bf (.slice _ _ _) UE U U U H at1 (by(simp;done)) ?_;rintro w H;refine Ab (Bc (H.get at0) (AC U U ?_));refine AU (Bf (.int _ _) Ga U U U H at0 (by(simp;done)) ?_);rintro w H;refine Ab (De U (B1 (Ax (Ao (H3 U U U JJ EW (Lq H hD6 hDn U fun wF hxF hkF=>?_))))));exact⟨_,_,_,_,_,_,hkF _ _ _ (H.get at1),hkF _ _ _ (H.get at0),none,0,by rw[hwt];rfl,by rw[hwt];exact⟨⟨[],Rd.nil,.inl rfl,rfl,fun m h=>by cases h⟩,rfl,qae _⟩,(E06.then H.ext fun x h => .inr (hEge x h).1).then hxF fun x h => .inr (by rw[qaa.1 h];omega)⟩
  .intro hB;replace hB:=Bv hB;have hB':ng.1=0:=by simpa using hB
   rw[if_neg (by simpa using hB),<-S.prs]at hwt;obtain⟨PL,hPL⟩:=qD (ps.map fun m=>prI m.it);rw[<-hPL]at hwt;have hnc:=G.os.le;have hPn:PL.length=n:=by rw[hPL,qaj,hnp]
   have hres:∀{z wF:World} {i:Nat},Ext (((b9,Bl 28 [.int .i64 ng.1])::(b8,Bl 36 [.slice a n c])::ent a 68 full).map (·.1)) w6 z->(∀y∈ent a 68 full,z.heap[y.1]?=some y.2)->Ext [Db] z wF->(∀(b t:Nat) (l:List Value),z.heap[b]?=some (Bl t l)->wF.heap[b]?=some (Bl t l))->i<=n->Prs wF (Old w0) a i c (PL.take i):=fun{z wF i} hz he hxF hkF hi=>by
    obtain⟨S',hS1,hS2⟩:=hlive hz;have hokF:=Ajs S.ok ((hS1.mono (S':=S'++[Db]) fun x h=>qa5 _ h).trans (hxF.mono fun x h=>qax _ h)) (fun x h=>(qau.1 h).elim (hS2 x) fun h => .inr (by rw[qaa.1 h];exact hDlt)) hs02
    have Rz:=OS.rd (t:=68) (w:=wF) G.os (fun y hy=>by
     have h1:=he y hy
     cases ha:a with
     |none=>rw[ha]at hy;cases hy
     |some q =>
      rw[ha]at hy;rw[qaa.1 hy]at h1 |-
      exact hkF _ _ _ h1) (fun _ _=>rfl) (by decide)
    refine⟨⟨ps.take i,Rz.take i,?_,by rw[List.map_take,hPL],fun m hm=>hokF m (qbp hm)⟩,by rw[qa0];omega,qav hi G.os.le⟩
    cases ha:a with
    |none =>
     left;have h8:=G.os.none' ha;have h9:=G.os.le;exact qa4 (by rw[qa0];omega)
    |some q =>
     right;have h8:=(hEge q.block (by rw[ha];simp[ent])).1;obtain⟨qb,qo,qs⟩:=q;exact Nat.not_lt.2 h8
   refine Ap (Aa (Aq (Ad (AH JJ U H at1 U (AP Cv U (Ae U (qA (AE (B7 302230878442904990351360 (α:=Nat) (fun i=>[(59,.int .i64 (i:Int))]) (fun i w'=>i<=n/\Ctx w6 (((b9,Bl 28 [.int .i64 ng.1])::(b8,Bl 36 [.slice a n c])::ent a 68 full).map (·.1)) w' ((b9,Bl 28 [.int .i64 ng.1])::(b8,Bl 36 [.slice a n c])::ent a 68 full)/\(kt=[]\/∀(j:Nat) (p:Pr),j<i->PL[j]?=some p->DX p.1 kt<0)) (fun i=>n - i) 0 U ?_ ?_ ?_)))))))))
   .exact⟨rfl,trivial⟩
   .exact⟨qak _,H,.inr fun j p h=>absurd h (qc3 _)⟩
   .rintro i j w ⟨hi,H5,hlow⟩;have H:=H5;have Rp:=OS.rd (t:=68) (w:=w) G.os (fun y hy=>H.blk y (qai _ (qai _ hy))) (fun _ _=>rfl) (by decide);refine Ad (Bn U U (qA (Aq (Au _ U ?_ ?_))))
    .intro hC;replace hC:=AV hC;obtain⟨x,hx1⟩:=AO (l:=ps) (i:=i);have hxP:PL[i]?=some (prI x.it):=by rw[hPL,qat,hx1];rfl
     refine Ap (Aa (Aq (AE (Ad (Ae U (AY Rp Cv Dq U U ?_))))));refine EY _ Ag3 Dq U U (Rp.row hx1 U) (Bj FD H ?_);rintro b16 w - H;refine Ac U (Bo Dq U U U (by exact Hi _) H at0 U ?_);rintro w H;refine qA ?_;obtain⟨wq,rfl⟩:=qD w;obtain⟨Sx,hSx1,hSx2⟩:=hlive H.ext;have hxo:=Ajs S.ok hSx1 hSx2 hs02 x (qad hx1);have Rtw:=Rt.ext0 (E06.then H.ext fun x h => .inr (hEge x h).1);refine Ad (BE (α:=Unit) 18871019187404871303168 (fun _=>[(73,.bool (decide (0<kt.length) && decide (0<=DX x.it.key kt)))]) (fun _ w'=>wq=w') U ?_ ?_)
     .refine Aj U (AP AX U (BZ U U (AA U (AR 67 U ?_ ?_))))
      .intro h3;replace h3:=AV h3;refine Af FV U (AH B4 U H at0 U (Aj U (Ai qB (IV x.ka ta x.kc tc _ _ x.it.key kt hxo.k.1 Rtw U U) U ?_)));rintro v5 w5 ⟨rfl,rfl⟩;refine IE U U (AN U (.bool _) U (Ab ?_));exact⟨rfl,(),rfl,⟨qab Value.bool (by(rw[qal (show 0<kt.length by omega)]);rfl),trivial⟩,rfl⟩
      .intro h4;replace h4:=AW h4;refine Ag U (Ag U (Ag U (Ag U (Ag U (AK U (.bool _) U (Ab ?_))))));exact⟨rfl,(),rfl,⟨qab Value.bool (by(rw[qag (show ¬0<kt.length by omega)]);rfl),trivial⟩,rfl⟩
     rintro - j73 w rfl;refine Au _ U ?_ ?_
     .intro hE;rw[qao,qap,qap]at hE;have hkt:kt≠[]:=qbv.1 hE.1
      have hup:XR kt PL=PL.take i:=by
       unfold XR;rw[if_neg hkt,Wn (i:=i) (fun j p hj hp=>qal ((hlow.resolve_left hkt) j p hj hp)) fun p hp=>?_];rw[hxP]at hp;cases hp;exact qag (by show ¬DX x.it.key kt<0;omega)
      rw[hup]at hwt;refine Ad (AH JJ U H at2 U (Ae U (Ei Cv Dq U U ?_)));refine Bf (.slice _ _ _) UE U U U H at2 (by(simp;done)) ?_;rintro w H;refine Bf (.int _ _) Ga U U U H at1 (by(simp;done)) ?_;rintro w H;refine qA (Ax (AL (Ao (Ao (AL (Ao (H3 U U U JJ EW (Lq H hD6 hDn U fun wF hxF hkF=>?_))))))));have hti:(PL.take i).length=i:=by rw[qa0];omega
      refine⟨_,_,_,_,_,_,hkF _ _ _ (H.get at2),hkF _ _ _ (H.get at1),a,c,by rw[hwt,hti];rfl,?_,(E06.then H.ext fun x h => .inr (hEge x h).1).then hxF fun x h => .inr (by rw[qaa.1 h];omega)⟩;rw[hwt,hti];exact hres H.ext (fun y hy=>H.blk y (qai _ (qai _ (qai _ hy)))) hxF hkF hi
     .intro hE;refine Ap (AF (Aa (Av (A7 U U ?_))));refine Ae U (qA ?_);refine⟨i+1,rfl,⟨rfl,trivial⟩,⟨by omega,H.tail,?_⟩,by omega⟩
      by_cases hkt:kt=[]
      .exact .inl hkt
      .right;rw[qe4]at hE;have hpos:=qbv.2 hkt;have hE2:¬0<=DX x.it.key kt:=hE.elim (fun h=>absurd hpos (qcx h)) qcx;intro j p hj hp
       rcases qbr j i with h3|h3
       .exact(hlow.resolve_left hkt) j p h3 hp
       .obtain rfl:j=i:=by omega
        rw[hxP]at hp;cases hp;show DX x.it.key kt<0;omega
    .intro hC;replace hC:=AW hC;have hii:i=n:=by omega
     have hup:XR kt PL=PL.take n:=by
      rw[qa6 (by omega)];unfold XR
      by_cases hkt:kt=[]
      .rw[if_pos hkt]
      .rw[if_neg hkt,Wn (i:=n) (fun j p hj hp=>qal ((hlow.resolve_left hkt) j p (by omega) hp)) fun p hp=>?_,qa6 (by omega)];have:=(qaq.1 hp).1;omega
     rw[hup]at hwt;refine B3 (Ay (Ay (Bb (Aa (Ad (AH JJ U H at1 U (Bf (.slice _ _ _) UE U U U H at1 (by(simp;done)) ?_)))))));rintro w H;refine Bf (.int _ _) Ga U U U H at0 (by(simp;done)) ?_;rintro w H;refine qA (Ax (H3 U U U JJ EW (Lq H hD6 hDn U fun wF hxF hkF=>?_)));have hti:(PL.take n).length=n:=by rw[qa0];omega
     refine⟨_,_,_,_,_,_,hkF _ _ _ (H.get at1),hkF _ _ _ (H.get at0),a,c,by rw[hwt,hti],?_,(E06.then H.ext fun x h => .inr (hEge x h).1).then hxF fun x h => .inr (by rw[qaa.1 h];omega)⟩;rw[hwt,hti];exact hres H.ext (fun y hy=>H.blk y (qai _ (qai _ hy))) hxF hkF (qae _)
theorem Prs.turn{w w':World}{M M':Mut}{a:Option Addr}{n c:Nat}{L:List Pr}(h:Prs w M a n c L)(t:Grown M M' w w'):Prs w' M' a n c L:=by
 obtain⟨ps,R,hs,hl,hm⟩:=h.ex;obtain⟨R',hs'⟩:=Rd.turnM R hs (by decide) (fun _ _=>rfl) t;exact⟨⟨ps,R',hs',hl,fun m hx=>(hm m hx).turn t⟩,h.num,h.le⟩
theorem Prs.weak{w:World}{M M':Mut}{a:Option Addr}{n c:Nat}{L:List Pr}(h:Prs w M a n c L)(hM:∀x,M' x->M x):Prs w M' a n c L:=by
 obtain⟨ps,R,hs,hl,hm⟩:=h.ex;exact⟨⟨ps,R,hs.imp id fun h h2=>h (hM _ h2),hl,fun m hx=>(hm m hx).weak hM⟩,h.num,h.le⟩
theorem Prs.nil{w:World}{M:Mut}:Prs w M none 0 0 []:=⟨⟨[],Rd.nil,.inl rfl,rfl,fun m h=>by cases h⟩,rfl,qae _⟩
theorem Aju{α:Type}{p:α->Bool}:∀(T:List α),(∀j x,j<(T.takeWhile p).length->T[j]?=some x->p x=true)/\(∀x,T[(T.takeWhile p).length]?=some x->p x=false)
 | []=>⟨fun j x h=>absurd h (qc3 _),fun x h=>by cases h⟩
 |y::T=>by
  obtain⟨h1,h2⟩:=Aju (p:=p) T
  by_cases hy:p y=true
  .rw[qc4,hy];simp only[if_true,qaw];refine⟨fun j x hj hx=>?_,fun x hx=>h2 x (by simpa using hx)⟩
   cases j with
   |zero=>simp only[qc7,qbb]at hx;rw[<-hx];exact hy
   |succ j=>exact h1 j x (by omega) (by simpa using hx)
  .have hy:p y=false:=by simpa using hy
   rw[qc4,hy];refine⟨fun j x h=>absurd h (qc3 _),fun x hx=>?_⟩
   have:y=x:=by simpa using hx
   rw[<-this];exact hy
theorem Ajv{L:List Pr}(hr:Rising L){k:Byt}(hk:L[0]?.map (·.1)=some k):∀p∈L,¬ltB p.1 k:=by
 cases L with
 |nil=>cases hk
 |cons q L =>
  have hq:q.1=k:=by simpa using hk
  intro p hp
  rcases qac.1 hp with rfl|hp
  .rw[hq];exact Hw _
  .rw[<-hq];exact Fl ((qbh.1 hr).1 p hp)
theorem Kids.first{Q:Nat->List Pr->List Nat->Prop}{x:It}{l:List It}{L:List Pr}{S:List Nat}(h:Kids Q (x::l) L S):L[0]?.map (·.1)=some x.key:=by
 obtain⟨L1,L2,S1,S2,rfl,rfl,h1,h2,h3,h4⟩:=h
 cases L1 with
 |nil=>cases h2
 |cons y L1=>exact h2
theorem Qt{Q:Nat->List Pr->List Nat->Prop}{l:List It}{L:List Pr}{S:List Nat}(hk:Kids Q l L S)(hr:Rising L)(hl:l≠[])(key:Byt) :
  ∃a x b La Lx Lb Sa Sx Sb,l=a++x::b/\a.length=Cf l key/\L=La++(Lx++Lb)/\S=Sa++(Sx++Sb)/\Kids Q a La Sa/\Q x.page Lx Sx/\Lx[0]?.map (·.1)=some x.key/\x.val=[]/\Kids Q b Lb Sb/\(∀p∈La,ltB p.1 key)/\(∀p∈Lb,ltB key p.1):=by
 have hi:=Pv hl key;obtain⟨t1,t2⟩:=Aju (p:=fun x:It=>decide (DX x.key key<=0)) l.tail;obtain⟨x,hx⟩:=AO (l:=l) (i:=Cf l key) (h:=hi)
 have hsp:l=l.take (Cf l key)++x::l.drop (Cf l key+1):=by
  rw[<-Ey hx,qbj]
 have hk':=hk;rw[hsp]at hk';obtain⟨La,Lr,Sa,Sr,rfl,rfl,ka,kr⟩:=FK.1 hk';obtain⟨Lx,Lb,Sx,Sb,rfl,rfl,q1,q2,q3,kb⟩:=kr;obtain⟨r1,r2,r3⟩:=Rising.append.1 hr;obtain⟨r4,r5,r6⟩:=Rising.append.1 r2;refine⟨_,x,_,La,Lx,Lb,Sa,Sx,Sb,hsp,by rw[qa0];omega,rfl,rfl,ka,q1,q2,q3,kb,fun p hp=>?_,fun p hp=>?_⟩
 .rcases Nat.eq_zero_or_pos (Cf l key)with h0|h0
  .rw[h0,qdw]at ka;rw[ka.1]at hp;cases hp
  .have h5:=t1 (Cf l key - 1) x (by show _<Cf l key;omega) (by rw[List.getElem?_tail,Nat.sub_add_cancel h0];exact hx);have h6:=We.1 (qb5 h5)
   cases Lx with
   |nil=>cases q2
   |cons y Lx =>
    have hy:y.1=x.key:=by simpa using q2
    exact Air (hy ▸ r3 p hp y (by simp)) h6
 .cases hb:l.drop (Cf l key+1)with
  |nil =>
   rw[hb]at kb;rw[kb.1]at hp;cases hp
  |cons y b =>
   rw[hb]at kb
   have h5:=t2 y (by
    show l.tail[Cf l key]?=some y;rw[List.getElem?_tail]
    have:(l.drop (Cf l key+1))[0]?=some y:=by rw[hb];rfl
    rw[qcm]at this;exact this)
   have h6:ltB key y.key:=by
    have:=qcx h5
    rcases Mj key y.key with h7|h7|h7
    .exact h7
    .exact absurd (We.2 (by rw[h7];exact Hw _)) this
    .exact absurd (We.2 (Fl h7)) this
   exact Air h6 (Ajv r5 kb.first p hp)
structure Acts(key:Byt)(G:List It->List It)(g:List Pr->List Pr):Prop where
 leaf:∀L,Rising L->OkP L->G (L.map BL)=(g L).map BL
 mid:∀A L B,(∀p∈A,ltB p.1 key)->(∀p∈B,ltB key p.1)->g (A++(L++B))=A++(g L++B)
 ok:∀L,OkP L->OkP (g L)
 size:∀L,Rising L->OkP L->Bd false ((g L).map BL)<=Bd false (L.map BL)+164
structure Eds(fr h:Nat)(L:List Pr)(S t g':List Nat)(r:Int × Ch × Bool × List It):Prop where
 ok:r.1=0
 on:On fr r.2.1
 part:∃S',Part (RD r.2.1.A fr) h r.2.2.1 r.2.2.2 L S'/\(S'++g').Perm (S++t)/\Held r.2.1.P S'
 ne:0<h->r.2.2.2≠[]
 sz:Bd r.2.2.1 r.2.2.2<=667
theorem OkP.sub{L L':List Pr}(h:OkP L)(hs:∀p∈L',p∈L):OkP L':=fun p hp=>h p (hs p hp)
theorem OkP.app{L L':List Pr}(h:OkP L)(h':OkP L'):OkP (L++L'):=fun p hp=>(qau.1 hp).elim (h p) (h' p)
theorem Aaa{fr:Nat}{c:Ch}{p d:Nat}(h:(Dr c.A fr c.P.length (p:Int) (d:Int)).1=0):rdC fr c p d={ c with gn:=c.gn++[p] }:=by
 unfold rdC;rw[if_pos h]
theorem Nm{a b:List It}{x:It}{i:Nat}(h:a.length=i):Cq (a++x::b) i=x.page:=by
 subst h;unfold Cq;simp
theorem Lies.read{fr h p d:Nat}{c:Ch}{L:List Pr}{S:List Nat}(hL:Lies (RD c.A fr) h p L S)(hh:Held c.P S)(hn:On fr c)(hd:d<=16) :
  ∃i M S',Dr c.A fr c.P.length (p:Int) (d:Int)=(0,some (i,M))/\Part (RD c.A fr) h i M L S'/\S=p::S'/\Many i M/\Bd i M<=503:=by
 have hp:=hh.lt hL.page;obtain⟨i,M,S',h1,h2,h3,h4,h5⟩:=hL;exact⟨i,M,S',Ln hn.on hp hn.has hd h2,h1,h3,h4,h5⟩
theorem Part.inner0{R:Nat->Option (Bool × List It)}{i:Bool}{M:List It}{L:List Pr}{S:List Nat}(h:Part R 0 i M L S):i=false:=h.1
theorem Kids.total{R:Nat->Option (Bool × List It)}{h:Nat}{l:List It}{L:List Pr}{S:List Nat}(hk:Kids (Lies R h) l L S)(ho:OkP L):Bd true l<=38*l.length :=
 Fp fun x hx=>by have:=(hk.items ho x hx).2.1;show 6+x.key.length<=38;omega
structure Sides(fr h:Nat)(c:Ch)(l:List It)(La Lx' Lb:List Pr)(Sa Sx' Sb g':List Nat)(i:Bool)(s:Int × Ch × List It × Nat × Nat):Prop where
 ok:s.1=0
 ci:CI fr c s.2.1 [] g'
 on:On fr s.2.1
 many:(s.2.2.1=[]/\h=0)\/Many i s.2.2.1
 sz:Bd i s.2.2.1<=667
 part:∃(a b:List It) (L1 L2 L3:List Pr) (S1 S2 S3:List Nat),l.take s.2.2.2.1=a/\l.drop s.2.2.2.2=b/\Bd true a+Bd true b<=503/\1<=a.length+b.length+(if s.2.2.1=[]then 0 else 1)/\Kids (Lies (RD c.A fr) h) a L1 S1/\Part (RD c.A fr) h i s.2.2.1 L2 S2/\Kids (Lies (RD c.A fr) h) b L3 S3 /\
  L1++(L2++L3)=La++(Lx'++Lb)/\(S1++(S2++(S3++g'))).Perm (Sa++(Sx'++Sb))
theorem Ael{fr h d:Nat}{c:Ch}{l a b:List It}{x:It}{i:Bool}{M:List It}{La Lx Lb:List Pr}{Sa Sx Sb:List Nat}(hl:l=a++x::b)(h2:2<=l.length)(hT:Bd true l<=503)(ka:Kids (Lies (RD c.A fr) h) a La Sa)(kb:Kids (Lies (RD c.A fr) h) b Lb Sb)(hp:Part (RD c.A fr) h i M Lx Sx)(hoa:OkP La)(hox:OkP Lx)(hob:OkP Lb)(hha:Held c.P Sa)(_:Held c.P Sx)(hhb:Held c.P Sb)(hn:On fr c)(hne:0<h->M≠[])(hz:Bd i M<=667)(hd:d+1<=16:=by omega):
  ∃g',Sides fr h c l La Lx Lb Sa Sx Sb g' i (EF fr c l a.length d i M):=by
 have hta:=BA true a (x::b);have htb:=Da true x b
 by_cases hf:IZ i M=true
 .have hi:i=true:=by unfold IZ at hf;simp at hf;exact hf.1
  have hM:M.length=1:=by unfold IZ at hf;simp at hf;exact hf.2
  cases h with
  |zero=>rw[hp.inner0]at hi;cases hi
  |succ h =>
   obtain⟨_,kx⟩:=hp;have hxt:=Kids.total kx hox;rw[hM]at hxt;subst hi
   have key:∀(pre post:List It) (y:It) (Ly:List Pr) (Sy:List Nat),Lies (RD c.A fr) (h+1) y.page Ly Sy->OkP Ly->Held c.P Sy->Cq l (Ja a.length)=y.page ->
     Ja a.length<l.length->∃o So,Kids (Lies (RD c.A fr) h) o Ly So/\Sy=y.page::So/\2<=o.length/\Bd true o<=503/\CI fr c (rdC fr c y.page (d+1)) [] [y.page]/\On fr (rdC fr c y.page (d+1)) /\
     EF fr c l a.length d true M=(0,rdC fr c y.page (d+1),if a.length=0 then M++o else o++M,a.length - 1,if a.length=0 then 2 else a.length+1):=by
    intro pre post y Ly Sy hy hoy hhy hpy hlt;obtain⟨i2,o,So,r1,r2,r3,r4,r5⟩:=hy.read hhy hn (d:=d+1) hd;obtain⟨rfl,ko⟩:=r2;have r1':(Dr c.A fr c.P.length ((y.page:Nat):Int) ((d+1:Nat):Int)).1=0:=by rw[r1]
    have hrd:=Aaa r1';refine⟨o,So,ko,r3,r4,r5,by rw[hrd];exact CI.gone _ _ _,by rw[hrd];exact⟨hn.on,hn.has,hn.few⟩,?_⟩;unfold EF;rw[if_pos hf,if_neg (by omega),hpy,r1]
   by_cases ha0:a=[]
   .subst ha0
    cases b with
    |nil=>rw[hl]at h2;simp at h2
    |cons y b =>
     obtain⟨Ly,L2,Sy,S2,rfl,rfl,y1,y2,y3,y4⟩:=kb;have hty:=Da true y b;obtain⟨o,So,ko,rfl,o2,o3,ci,on',hs⟩:=key [] b y Ly Sy y1 (hob.sub fun p hp=>qa5 _ hp) (hhb.sub fun p hp=>qa5 _ hp) (by rw[hl];rfl) (by rw[hl];simp[Ja]);obtain⟨rfl,rfl⟩:=ka;rw[hs];refine⟨[y.page],rfl,ci,on',.inr ?_,?_,[],b,[],Lx++Ly,L2,[],Sx++So,S2,rfl,by rw[hl];rfl,?_,?_,⟨rfl,rfl⟩,?_,y4,by simp,?_⟩
     .show 2<=(M++o).length;rw[qan];omega
     .show Bd true (M++o)<=667;rw[BA];omega
     .have e0:Bd true ([]:List It)=0:=rfl;rw[hl]at hT;omega
     .have:(if(List.length ([]:List It)=0)then M++o else o++M)≠[]:=by
       intro e;have h9:(M++o).length=0:=qab List.length e;rw[qan]at h9;omega
      show 1<=_+(if _=[]then 0 else 1);rw[if_neg this];omega
     .exact⟨rfl,FK.2 ⟨Lx,Ly,Sx,So,rfl,rfl,kx,ko⟩⟩
     .rw[qen];intro z;simp only[qeo,qej,List.count_nil];omega
   .obtain⟨a',y,rfl⟩:∃a' y,a=a'++[y]:=⟨a.dropLast,a.getLast ha0,(qfh ha0).symm⟩;obtain⟨La',Lr,Sa',Sr,rfl,rfl,ka',kr⟩:=FK.1 ka;obtain⟨Ly,L0,Sy,S0,rfl,rfl,y1,y2,y3,y4⟩:=kr;obtain⟨rfl,rfl⟩:=y4;have hal:(a'++[y]).length=a'.length+1:=by simp
    have hll:l=a'++y::x::b:=by rw[hl];simp
    have hty:=BA true a' [y];have htb2:Bd true [y]=CK true y:=by simp[Bd]
    obtain⟨o,So,ko,rfl,o2,o3,ci,on',hs⟩:=key a' b y Ly Sy y1 (hoa.sub fun p hp=>by simp[hp]) (hha.sub fun p hp=>by simp[hp]) (by rw[hll,hal];exact Nm (by simp[Ja])) (by rw[hll,hal];simp[Ja]);rw[hs];refine⟨[y.page],rfl,ci,on',.inr ?_,?_,a',b,La',Ly++Lx,Lb,Sa',So++Sx,Sb,?_,?_,?_,?_,ka',?_,kb,by simp,?_⟩
    .show 2<=(if(a'++[y]).length=0 then M++o else o++M).length;rw[if_neg (by omega),qan];omega
    .show Bd true (if(a'++[y]).length=0 then M++o else o++M)<=667;rw[if_neg (by omega),BA];omega
    .show l.take ((a'++[y]).length - 1)=a';rw[hll,hal];simp
    .show l.drop (if(a'++[y]).length=0 then 2 else(a'++[y]).length+1)=b;rw[if_neg (by omega),hl];rw[List.drop_append,qb7 (by omega)];simp
    .rw[hl,hta,htb,hty]at hT;omega
    .show 1<=_+(if(if(a'++[y]).length=0 then M++o else o++M)=[]then 0 else 1);rw[if_neg (c:=(a'++[y]).length=0) (by omega),if_neg]
     .omega
     .intro e;have h9:(o++M).length=0:=qab List.length e;rw[qan]at h9;omega
    .show Part _ _ _ (if(a'++[y]).length=0 then M++o else o++M) _ _;rw[if_neg (by omega)];exact⟨rfl,FK.2 ⟨Ly,Lx,So,Sx,rfl,rfl,ko,kx⟩⟩
    .rw[qen];intro z;simp only[qeo,qej,List.count_nil];omega
 .have hs:EF fr c l a.length d i M=(0,c,M,a.length,a.length+1):=by unfold EF;rw[if_neg hf]
  rw[hs];refine⟨[],rfl,CI.refl _ _,hn,?_,hz,a,b,La,Lx,Lb,Sa,Sx,Sb,by rw[hl];simp,?_,?_,?_,ka,hp,kb,rfl,by simp⟩
  .show(M=[]/\h=0)\/Many i M
   cases h with
   |zero =>
    by_cases hM:M=[]
    .exact .inl ⟨hM,rfl⟩
    .right;rw[hp.inner0];exact hM
   |succ h =>
    right;have hM:=hne (by omega);obtain⟨rfl,_⟩:=hp;show 2<=M.length
    have:¬M.length=1:=fun h=>hf (by unfold IZ;rw[qal h];rfl)
    have:=qbv.2 hM;omega
  .show l.drop (a.length+1)=b;rw[hl,List.drop_append,qb7 (by omega)];simp
  .rw[hl,hta,htb]at hT;omega
  .have:l.length=a.length+b.length+1:=by rw[hl];simp;omega
   omega
theorem Va{fr:Nat}{key:Byt}{G:List It->List It}{g:List Pr->List Pr}(act:Acts key G g):∀(h n:Nat) (c:Ch) (p d:Nat) (L:List Pr) (S:List Nat),Lies (RD c.A fr) h p L S->Rising L->OkP L->Held c.P S->On fr c->d+h<=16->h<n ->
  ∃t g',CI fr c (CM fr G key n c p d).2.1 t g'/\t.length<=2*h/\(Eds fr h (g L) S t g' (CM fr G key n c p d)\/Bad c (CM fr G key n c p d).1 (2*h))
 |0,n+1,c,p,d,L,S,hL,hr,ho,hh,hn,hd,hf=>by
  obtain⟨i,M,S',r1,r2,r3,r4,r5⟩:=hL.read hh hn (d:=d) (by omega);obtain⟨rfl,rfl,rfl⟩:=r2;subst r3;have hrd:=Aaa (fr:=fr) (c:=c) (p:=p) (d:=d) (by rw[r1])
  have he:CM fr G key (n+1) c p d=(0,{ c with gn:=c.gn++[p] },false,G (L.map BL)):=by
   rw[CM,r1];dsimp only;rw[hrd]
  rw[he,act.leaf L hr ho];refine⟨[],[p],CI.gone _ _ _,by simp,.inl ⟨rfl,⟨hn.on,hn.has,hn.few⟩,⟨[],⟨rfl,rfl,rfl⟩,by simp,fun x hx=>by cases hx⟩,fun h=>absurd h (Nat.lt_irrefl 0),?_⟩⟩;have:=act.size L hr ho;show Bd false (List.map BL (g L))<=667;omega
 |h+1,n+1,c,p,d,L,S,hL,hr,ho,hh,hn,hd,hf=>by
  obtain⟨i,l,S0,r1,r2,r3,r4,r5⟩:=hL.read hh hn (d:=d) (by omega);obtain⟨rfl,hk'⟩:=r2;have hk:Kids (Lies (RD c.A fr) h) l L S0:=hk';subst r3;have hrd:=Aaa (fr:=fr) (c:=c) (p:=p) (d:=d) (by rw[r1]);have hci:=CI.gone fr c p;rw[<-hrd]at hci;have hn1:On fr (rdC fr c p d):=by rw[hrd];exact⟨hn.on,hn.has,hn.few⟩
  obtain⟨a,x,b,La,Lx,Lb,Sa,Sx,Sb,rfl,hal,rfl,rfl,ka,q1,q2,q3,kb,hlo,hhi⟩:=Qt hk hr r4.ne key;have hh0:Held c.P (Sa++(Sx++Sb)):=hh.sub fun x hx=>qai _ hx;have hha:Held c.P Sa:=hh0.sub fun x hx=>by simp[hx]
  have hhx:Held c.P Sx:=hh0.sub fun x hx=>by simp[hx]
  have hhb:Held c.P Sb:=hh0.sub fun x hx=>by simp[hx]
  have hoa:OkP La:=ho.sub fun x hx=>by simp[hx]
  have hox:OkP Lx:=ho.sub fun x hx=>by simp[hx]
  have hob:OkP Lb:=ho.sub fun x hx=>by simp[hx]
  have hrx:Rising Lx:=(Rising.append.1 (Rising.append.1 hr).2.1).1;obtain⟨t1,g1,e1,e2,e3⟩:=Va act h n (rdC fr c p d) x.page (d+1) Lx Sx (q1.frame (hci.rd hhx)) hrx hox (hhx.keep hci) hn1 (by omega) (by omega);have hpg:Cq (a++x::b) (Cf (a++x::b) key)=x.page:=Nm hal;obtain⟨r,hrr⟩:=qD (CM fr G key n (rdC fr c p d) x.page (d+1));rw[<-hrr]at e1 e3
  have he:CM fr G key (n+1) c p d=if r.1≠0 then(r.1,r.2.1,true,[])else
    if(EF fr r.2.1 (a++x::b) a.length d r.2.2.1 r.2.2.2).1≠0 then((EF fr r.2.1 (a++x::b) a.length d r.2.2.1 r.2.2.2).1,(EF fr r.2.1 (a++x::b) a.length d r.2.2.1 r.2.2.2).2.1,true,[])else
    ((Fa fr (EF fr r.2.1 (a++x::b) a.length d r.2.2.1 r.2.2.2).2.1 r.2.2.1 (EF fr r.2.1 (a++x::b) a.length d r.2.2.1 r.2.2.2).2.2.1).1,
     (Fa fr (EF fr r.2.1 (a++x::b) a.length d r.2.2.1 r.2.2.2).2.1 r.2.2.1 (EF fr r.2.1 (a++x::b) a.length d r.2.2.1 r.2.2.2).2.2.1).2.1,true,
     (a++x::b).take (EF fr r.2.1 (a++x::b) a.length d r.2.2.1 r.2.2.2).2.2.2.1++((Fa fr (EF fr r.2.1 (a++x::b) a.length d r.2.2.1 r.2.2.2).2.1 r.2.2.1 (EF fr r.2.1 (a++x::b) a.length d r.2.2.1 r.2.2.2).2.2.1).2.2++(a++x::b).drop (EF fr r.2.1 (a++x::b) a.length d r.2.2.1 r.2.2.2).2.2.2.2)):=by
   rw[CM,r1];dsimp only;rw[hpg,<-hrr,<-hal]
  rw[he];have hci1:=hci.trans e1;rw[qa7]at hci1
  rcases e3 with e3|e3
  .obtain⟨S1,p1,p2,p3⟩:=e3.part;rw[if_neg (by rw[e3.ok];simp)];have hn2:=e3.on;have h4:2<=(a++x::b).length:=r4;obtain⟨g2,sd⟩:=Ael (fr:=fr) (c:=r.2.1) (d:=d) rfl h4 r5 (ka.frame (hci1.rd hha)) (kb.frame (hci1.rd hhb)) p1 hoa (act.ok _ hox) hob (hha.keep hci1) p3 (hhb.keep hci1) hn2 e3.ne e3.sz;obtain⟨s,hss⟩:=qD (EF fr r.2.1 (a++x::b) a.length d r.2.2.1 r.2.2.2);rw[<-hss]at sd |-;rw[if_neg (by rw[sd.ok];simp)];obtain⟨a',b',L1,L2,L3,S1',S2',S3',s1,s2,s3,s4,s5,s6,s7,s8,s9⟩:=sd.part;have hci2:=hci1.trans sd.ci;rw[qa3]at hci2
   have hall:Held r.2.1.P (S1'++(S2'++(S3'++g2))):=by
    intro z hz;have:=s9.mem_iff.1 hz
    rcases qau.1 this with h5|h5
    .exact(hha.keep hci1) z h5
    .rcases qau.1 h5 with h5|h5
     .exact p3 z h5
     .exact(hhb.keep hci1) z h5
   have hO:OkP (L1++(L2++L3)):=by rw[s8];exact hoa.app ((act.ok _ hox).app hob)
   have hO2:OkP L2:=hO.sub fun p hp=>by simp[hp]
   have hH2:Held r.2.1.P S2':=hall.sub fun p hp=>by simp[hp]
   have hH1:Held r.2.1.P S1':=hall.sub fun p hp=>by simp[hp]
   have hH3:Held r.2.1.P S3':=hall.sub fun p hp=>by simp[hp]
   obtain⟨t2,u1,u2,u3⟩:=XJ (s6.frame (sd.ci.rd hH2)) hO2 (hH2.keep sd.ci) sd.on sd.many sd.sz;have hci3:=hci2.trans u1;rw[qa3]at hci3;refine⟨_,_,hci3,by rw[qan];omega,?_⟩
   rcases u3 with u3|u3
   .obtain⟨S4,k1,k2,k3⟩:=u3.kids;left;have hfin:=sd.ci.trans u1;have hk1:=s5.frame (hfin.rd hH1);have hk3:=s7.frame (hfin.rd hH3);have ht1:=Kids.total k1 hO2;have hnum:=u3.num;refine⟨u3.ok,u3.on,⟨S1'++(S4++S3'),⟨rfl,?_⟩,?_,?_⟩,fun _=>?_,?_⟩
    .rw[act.mid La Lx Lb hlo hhi,<-s8,s1,s2];exact FK.2 ⟨_,_,_,_,rfl,rfl,hk1,FK.2 ⟨_,_,_,_,rfl,rfl,k1,hk3⟩⟩
    .rw[qen]at *;intro z;have e1:=p2 z;have e2:=s9 z;have e3:=k2 z;simp only[qeo,qej,List.count_nil]at *;omega
    .exact(hH1.keep hfin).app (k3.app (hH3.keep hfin))
    .show(a++x::b).take s.2.2.2.1++(_++(a++x::b).drop s.2.2.2.2)≠[];rw[s1,s2];intro e;have e':=qab List.length e;simp only[qan,qby]at e'
     by_cases h9:s.2.2.1=[]
     .rw[if_pos h9]at s4;omega
     .have:=qbv.2 (u3.ne h9);omega
    .show Bd true ((a++x::b).take s.2.2.2.1++(_++(a++x::b).drop s.2.2.2.2))<=667;rw[s1,s2,BA,BA]
     have:38*(Fa fr s.2.1 r.2.2.1 s.2.2.1).2.2.length<=38*2:=qb6 _ hnum
     omega
   .right;exact u3.back hci2 (by omega)
  .rw[if_pos e3.ne];refine⟨t1,_,hci1,by omega,.inr ?_⟩;exact(e3.back hci (m':=2*h) (by simp)).mono (by omega)
theorem Aem(h:Nat):2 ^ (h+1)=2 ^ h+2 ^ h:=by rw[qea];omega
theorem Kids.count{R:Nat->Option (Bool × List It)}{h:Nat}(ih:∀p L S,Lies R h p L S->2 ^ (h+1)<=S.length+1/\S.length+1<=2*L.length):∀{l:List It} {L:List Pr} {S:List Nat},Kids (Lies R h) l L S->l.length*2 ^ (h+1)<=S.length+l.length/\S.length+l.length<=2*L.length
 | [],_,_,⟨rfl,rfl⟩=>by simp
 |x::l,_,_,⟨L1,L2,S1,S2,rfl,rfl,h1,_,_,h4⟩=>by
  have a:=ih _ _ _ h1;have b:=Kids.count ih h4;simp only[qaw,qan,Nat.succ_mul,Nat.mul_add];omega
theorem Lies.count{R:Nat->Option (Bool × List It)}:∀{h p:Nat} {L:List Pr} {S:List Nat},Lies R h p L S->2 ^ (h+1)<=S.length+1/\S.length+1<=2*L.length
 |0,p,L,S,hL=>by
  have hne:=qbv.2 hL.ne;obtain⟨i,M,S',⟨_,_,rfl⟩,h2,rfl,h4,h5⟩:=hL;simp;omega
 |h+1,p,L,S,⟨i,M,S',h1,h2,h3,h4,h5⟩=>by
  obtain⟨rfl,hk⟩:=h1;subst h3;have hm:2<=M.length:=h4;obtain⟨a,b⟩:=Kids.count (fun p L S h=>Lies.count h) hk;have hp:=Aem (h+1);have h1:0<2 ^ (h+1):=Nat.pow_pos (by omega);have h6:(M.length - 2)*1<=(M.length - 2)*2 ^ (h+1):=qb6 _ h1;have h7:M.length*2 ^ (h+1)=(M.length - 2)*2 ^ (h+1)+2*2 ^ (h+1):=by rw[<-qco];congr 1;omega
  rw[qaw];omega
def Root(R:Nat->Option (Bool × List It))(root:Int)(L:List Pr)(S:List Nat):Prop:=(root = -1/\L=[]/\S=[])\/∃(h p:Nat),root=(p:Int)/\Lies R h p L S
theorem Root.frame{R R':Nat->Option (Bool × List It)}{root:Int}{L:List Pr}{S:List Nat}(hr:Root R root L S)(he:∀x∈S,R' x=R x):Root R' root L S :=
 hr.imp id fun⟨h,p,h1,h2⟩=>⟨h,p,h1,h2.frame he⟩
structure TreeAt(fr:Nat)(A:Dev)(P:List Nat)(root:Int)(L:List Pr):Prop where
 lies:∃S,Root (RD A fr) root L S/\S.Nodup/\∀x:Nat,(x∈S↔P[x]?=some 1\/P[x]?=some 2)
 rise:Rising L
 ok:OkP L
def Oq(s:Nat):Nat:=if s=1 then 3 else if s=2 then 0 else s
theorem Aen(P:List Nat)(k x:Nat):(EE P k)[x]?=if x=k then P[x]?.map Oq else P[x]? := by
 unfold EE
 by_cases hx:x=k
 .subst hx;rw[if_pos rfl]
  by_cases h1:P[x]?=some 1
  .rw[if_pos h1,qew (qaq.1 h1).1,h1];rfl
  .rw[if_neg h1]
   by_cases h2:P[x]?=some 2
   .rw[if_pos h2,qew (qaq.1 h2).1,h2];rfl
   .rw[if_neg h2]
    cases h3:P[x]? with
    |none=>rfl
    |some s =>
     have hs1:s≠1:=fun e=>h1 (by rw[h3,e]);have hs2:s≠2:=fun e=>h2 (by rw[h3,e]);rw[qbc,Oq,if_neg hs1,if_neg hs2]
 .rw[if_neg hx]
  split
  .rw[qex (fun e=>hx e.symm)]
  .split
   .rw[qex (fun e=>hx e.symm)]
   .rfl
theorem JR:∀(g:List Nat) (P:List Nat),g.Nodup->∀x:Nat,(g.foldl EE P)[x]?=if x∈g then P[x]?.map Oq else P[x]?
 | [],P,_,x=>by simp
 |k::g,P,hd,x=>by
  obtain⟨h1,h2⟩:=qck.1 hd;rw[qdk,JR g _ h2 x,Aen]
  by_cases hx:x=k
  .subst hx;rw[if_neg h1,if_pos rfl,if_pos (qaf ..)]
  .rw[if_neg hx]
   by_cases hg:x∈g
   .rw[if_pos hg,if_pos (qai _ hg)]
   .rw[if_neg hg,if_neg (by simp[hx,hg])]
theorem P3:∀(g:List Nat) (P:List Nat),(g.foldl EE P).length=P.length
 | [],P=>rfl
 |k::g,P=>by
  rw[qdk,P3 g];unfold EE
  split
  .simp
  .split <;> simp
theorem Mu(s:Nat):Oq s≠1/\Oq s≠2:=by
 unfold Oq
 split
 .decide
 .split
  .decide
  .omega
theorem Vb(s:Nat):DE (Oq s)=DE s:=by
 unfold Oq
 split
 .rename_i h;rw[h];rfl
 .split
  .rename_i h;rw[h];rfl
  .rfl
structure Tops(fr:Nat)(L:List Pr)(S t:List Nat)(r:Int × Ch × Int):Prop where
 ok:r.1=0
 on:On fr r.2.1
 root:∃S',Root (RD r.2.1.A fr) r.2.2 L S'/\S'.Perm (S++t)/\Held r.2.1.P S'
theorem Ajw{fr h:Nat}{c:Ch}{i:Bool}{M:List It}{L:List Pr}{S:List Nat}(hp:Part (RD c.A fr) h i M L S)(ho:OkP L)(hh:Held c.P S)(hn:On fr c)(hne:0<h->M≠[])(hz:Bd i M<=667) :
  ∃t,CI fr c (Ef fr c i M).2.1 t []/\t.length<=3/\(Tops fr L S t (Ef fr c i M)\/Bad c (Ef fr c i M).1 3):=by
 by_cases hf:IZ i M=true
 .have hi:i=true:=by unfold IZ at hf;simp at hf;exact hf.1
  have hM:M.length=1:=by unfold IZ at hf;simp at hf;exact hf.2
  subst hi;have ht:Ef fr c true M=(0,c,(Cq M 0:Int)):=by unfold Ef;rw[if_pos hf]
  rw[ht];refine⟨[],CI.refl _ _,by simp,.inl ⟨rfl,hn,S,?_,by simp,hh⟩⟩
  cases h with
  |zero=>exact absurd hp.inner0 (by simp)
  |succ h =>
   obtain⟨_,hk⟩:=hp
   match M,hM with
   | [z],_ =>
    obtain⟨L1,L2,S1,S2,rfl,rfl,h1,h2,h3,rfl,rfl⟩:=hk;rw[qa3,qa3];exact .inr ⟨h,z.page,rfl,h1⟩
 .have hm:(M=[]/\h=0)\/Many i M:=by
   cases h with
   |zero =>
    by_cases hM:M=[]
    .exact .inl ⟨hM,rfl⟩
    .right;rw[hp.inner0];exact hM
   |succ h =>
    right;have hM:=hne (by omega);obtain⟨rfl,_⟩:=hp;show 2<=M.length
    have:¬M.length=1:=fun h=>hf (by unfold IZ;rw[qal h];rfl)
    have:=qbv.2 hM;omega
  obtain⟨t,u1,u2,u3⟩:=XJ hp ho hh hn hm hz;obtain⟨q,hq⟩:=qD (Fa fr c i M)
  have ht:Ef fr c i M=if q.1≠0 then(q.1,q.2.1,-1)else if q.2.2=[]then(0,q.2.1,-1)else if 1<q.2.2.length then((wrC fr q.2.1 true q.2.2).1,(wrC fr q.2.1 true q.2.2).2,(Ci q.2.1.P:Int))else(0,q.2.1,(Cq q.2.2 0:Int)):=by
   unfold Ef;rw[if_neg hf,hq]
  rw[<-hq]at u1 u3;rw[ht]
  rcases u3 with u3|u3
  .obtain⟨S',k1,k2,k3⟩:=u3.kids;have hnum:=u3.num;rw[if_neg (by rw[u3.ok];simp)]
   by_cases h0:q.2.2=[]
   .rw[if_pos h0];rw[h0]at k1;obtain⟨rfl,rfl⟩:=k1;exact⟨t,u1,by omega,.inl ⟨rfl,u3.on,[],.inl ⟨rfl,rfl,rfl⟩,k2,k3⟩⟩
   .rw[if_neg h0];have hpos:=qbv.2 h0
    by_cases h1:1<q.2.2.length
    .rw[if_pos h1];have hk38:=k1.total ho
     have:38*q.2.2.length<=38*2:=qb6 _ hnum
     obtain⟨t2,v1,v2,v3⟩:=Mq (h:=h+1) (i:=true) ⟨rfl,k1⟩ ho k3 u3.on (show Many true q.2.2 from h1) (by omega);have hci:=u1.trans v1;rw[qa3]at hci;refine⟨_,hci,by rw[qan];omega,?_⟩
     rcases v3 with⟨v3,rfl,v4,v5,v6⟩|v3
     .refine .inl ⟨v3,v4,Ci q.2.1.P::S',.inr ⟨h+1,_,rfl,v5⟩,?_,v1.held.app (k3.keep v1)⟩;rw[qen]at *;intro z;have e1:=k2 z;simp only[qeo,qej,List.count_nil]at *;omega
     .exact .inr (v3.back u1 (by omega))
    .rw[if_neg h1];refine⟨t,u1,by omega,.inl ⟨rfl,u3.on,S',.inr ?_,k2,k3⟩⟩;have h2:q.2.2.length=1:=by omega
     match hq2:q.2.2,h2 with
     | [z],_ =>
      rw[hq2]at k1;obtain⟨L1,L2,S1,S2,rfl,rfl,h1,h2,h3,rfl,rfl⟩:=k1;rw[qa3,qa3];exact⟨h,z.page,rfl,h1⟩
  .rw[if_pos u3.ne];exact⟨t,u1,by omega,.inr (u3.mono (by omega))⟩
structure After(fr:Nat)(A:Dev)(P:List Nat)(A':Dev)(P':List Nat):Prop where
 blk:∀q,(∀x:Nat,P[x]?=some 0->q≠fr+x)->A'.B.getD q (zeros,[])=A.B.getD q (zeros,[])
 blen:A'.B.length=A.B.length
 left:A.left = -1->A'.left = -1
 len:P'.length=P.length
 back:P'.map DE=P.map DE
def Worse(A:Dev)(P:List Nat)(e:Int)(m:Nat):Prop:=(e=8/\A.left ≠ -1)\/(e=7/\DF P<m)
theorem Amg{fr:Nat}{c0 c:Ch}{t g:List Nat}{S S':List Nat}(h:CI fr c0 c t g)(h0:c0.tk=[]/\c0.gn=[])(hS:∀x:Nat,(x∈S↔c0.P[x]?=some 1\/c0.P[x]?=some 2))(hd:S.Nodup)(hp:(S'++g).Perm (S++t)) :
  After fr c0.A c0.P (DH c 0).A (DH c 0).P/\S'.Nodup/\∀x:Nat,(x∈S'↔(DH c 0).P[x]?=some 1\/(DH c 0).P[x]?=some 2):=by
 have hgn:c.gn=g:=by rw[h.gn,h0.2];rfl
 have hH:Held c0.P S:=fun x hx=>((hS x).1 hx).elim (fun h=>⟨1,h,by decide⟩) fun h=>⟨2,h,by decide⟩
 have hnd:(S++t).Nodup:=by
  rw[qdm];exact⟨hd,h.nd,fun a ha b hb e=>h.apart hH a ha (e ▸ hb)⟩
 have hnd2:=hp.nodup_iff.2 hnd;rw[qdm]at hnd2;obtain⟨n1,n2,n3⟩:=hnd2
 have hget:∀x:Nat,(DH c 0).P[x]?=if x∈g then c.P[x]?.map Oq else c.P[x]? := fun x=>by
  show(List.foldl EE c.P (if(0:Int)≠0 then c.tk else c.gn))[x]?=_;rw[if_neg (by simp),hgn,JR g _ n2 x]
 have hlen:(DH c 0).P.length=c0.P.length:=by
  show(List.foldl EE c.P _).length=_;rw[P3,h.len]
 refine⟨⟨fun q hq=>h.blk q fun x hx=>hq x (h.was x hx),h.blen,h.left,hlen,?_⟩,n1,fun x=>?_⟩
 .refine qci fun x=>?_;rw[qat,qat,hget x,h.now x]
  by_cases ht:x∈t
  .rw[if_pos ht,h.was x ht]
   split <;> rfl
  .rw[if_neg ht]
   split
   .cases c0.P[x]? with
    |none=>rfl
    |some s=>simp only[qbc,Vb]
   .rfl
 .rw[hget x];have hm:=hp.mem_iff (a:=x);simp only[qau]at hm;constructor
  .intro hx;have hxg:x∉g:=fun h2=>n3 x hx x h2 rfl;rw[if_neg hxg,h.now x]
   rcases hm.1 (.inl hx)with h2|h2
   .rw[if_neg (h.apart hH x h2)];exact(hS x).1 h2
   .rw[if_pos h2];exact .inr rfl
  .intro hx
   by_cases hxg:x∈g
   .rw[if_pos hxg]at hx;exfalso
    cases hc:c.P[x]? with
    |none=>rw[hc]at hx;simp at hx
    |some s =>
     rw[hc]at hx;simp only[qbc,qbb]at hx;exact hx.elim (Mu s).1 (Mu s).2
   .rw[if_neg hxg,h.now x]at hx
    have:x∈S\/x∈t:=by
     by_cases ht:x∈t
     .exact .inr ht
     .rw[if_neg ht]at hx;exact .inl ((hS x).2 hx)
    exact(hm.2 this).elim id fun h2=>absurd h2 hxg
theorem Tf{fr:Nat}{c0 c:Ch}{t g:List Nat}{e:Int}(h:CI fr c0 c t g)(h0:c0.tk=[]/\c0.gn=[])(he:e≠0):After fr c0.A c0.P (DH c e).A (DH c e).P/\(DH c e).P=c0.P:=by
 have htk:c.tk=t:=by rw[h.tk,h0.1];rfl
 have hP:(DH c e).P=c0.P:=by
  refine qci fun x=>?_;show(List.foldl EE c.P (if e≠0 then c.tk else c.gn))[x]?=_;rw[if_pos he,htk,JR t _ h.nd x,h.now x]
  by_cases ht:x∈t
  .rw[if_pos ht,if_pos ht,h.was x ht];rfl
  .rw[if_neg ht,if_neg ht]
 exact⟨⟨fun q hq=>h.blk q fun x hx=>hq x (h.was x hx),h.blen,h.left,by rw[hP],by rw[hP]⟩,hP⟩
structure Turned(fr:Nat)(A:Dev)(P:List Nat)(root:Int)(L:List Pr)(m:Nat)(r:Int × Int × Ch):Prop where
 aft:After fr A P r.2.2.A r.2.2.P
 out:(r.1=0/\r.2.2.A.on=true/\TreeAt fr r.2.2.A r.2.2.P r.2.1 L)\/(r.2.1=root/\r.2.2.P=P/\Worse A P r.1 m)
theorem Ajx{R:Nat->Option (Bool × List It)}{h p n:Nat}{L:List Pr}{S:List Nat}(hL:Lies R h p L S)(hd:S.Nodup)(hlt:∀x∈S,x<n)(hn:n<=2000):h<=9:=by
 have h1:=hL.count.1;have h2:=Wh n S hd hlt
 rcases qbr h 10 with h3|h3
 .omega
 .have:2 ^ 11<=2 ^ (h+1):=qc2 (by omega) (by omega)
  omega
theorem Vc{fr:Nat}{A:Dev}{P:List Nat}{root:Int}{L:List Pr}{key:Byt}{G:List It->List It}{g:List Pr->List Pr}(act:Acts key G g)(hr:∀L,Rising L->Rising (g L))(T:TreeAt fr A P root L)(hon:A.on=true)(hl:fr+P.length<=A.B.length)(hP:P.length<=2000){m:Nat}(hm:∀h,h=0\/2 ^ (h+1)<=P.length+1->2*h+3<=m) :
  Turned fr A P root (g L) m (DG fr A P root key G):=by
 obtain⟨S,hroot,hnd,hS⟩:=T.lies;have hH:Held P S:=fun x hx=>((hS x).1 hx).elim (fun h=>⟨1,h,by decide⟩) fun h=>⟨2,h,by decide⟩;obtain⟨ed,hed⟩:=qD (if root = -1 then(0,⟨A,P,[],[]⟩,false,G [])else CM fr G key 18 ⟨A,P,[],[]⟩ root.toNat 0:Int × Ch × Bool × List It);have hn:On fr (⟨A,P,[],[]⟩:Ch):=⟨hon,hl,by show P.length<=4096;omega⟩
 have he:∃(h:Nat) (t g':List Nat),2*h+3<=m/\CI fr ⟨A,P,[],[]⟩ ed.2.1 t g'/\t.length<=2*h/\(Eds fr h (g L) S t g' ed\/Bad ⟨A,P,[],[]⟩ ed.1 (2*h)):=by
  rcases hroot with⟨rfl,rfl,rfl⟩|⟨h,p,rfl,hLies⟩
  .rw[if_pos rfl]at hed;have h0:=act.leaf [] List.Pairwise.nil (fun p hp=>by cases hp);rw[qbn]at h0;have hsz:=act.size [] List.Pairwise.nil (fun p hp=>by cases hp);rw[hed,h0];exact⟨0,[],[],hm 0 (.inl U),CI.refl _ _,by simp,.inl ⟨rfl,hn,⟨[],⟨rfl,rfl,rfl⟩,by simp,fun x hx=>by cases hx⟩,fun h=>absurd h (Nat.lt_irrefl 0),by show Bd false (List.map BL (g []))<=667;have:Bd false (List.map BL [])=0:=rfl;omega⟩⟩
  .rw[if_neg (by omega),qbo]at hed;have hh:=Ajx hLies hnd (fun x hx=>hH.lt hx) hP;obtain⟨t,g',e1,e2,e3⟩:=Va act h 18 ⟨A,P,[],[]⟩ p 0 L S hLies T.rise T.ok hH hn (by omega) (by omega);rw[hed];have h1:=hLies.count.1;have h2:=Wh P.length S hnd fun x hx=>hH.lt hx;exact⟨h,t,g',hm h (.inr (by omega)),e1,e2,e3⟩
 obtain⟨h,t,g',hh,e1,e2,e3⟩:=he
 have hturn:DG fr A P root key G=if ed.1≠0 then(ed.1,root,DH ed.2.1 ed.1)else if(Ef fr ed.2.1 ed.2.2.1 ed.2.2.2).1≠0 then((Ef fr ed.2.1 ed.2.2.1 ed.2.2.2).1,root,DH (Ef fr ed.2.1 ed.2.2.1 ed.2.2.2).2.1 (Ef fr ed.2.1 ed.2.2.1 ed.2.2.2).1)else(0,(Ef fr ed.2.1 ed.2.2.1 ed.2.2.2).2.2,DH (Ef fr ed.2.1 ed.2.2.1 ed.2.2.2).2.1 0):=by
  unfold DG;rw[hed]
 rw[hturn]
 rcases e3 with e3|e3
 .obtain⟨S1,p1,p2,p3⟩:=e3.part;rw[if_neg (by rw[e3.ok];simp)];obtain⟨t2,v1,v2,v3⟩:=Ajw p1 (act.ok _ T.ok) p3 e3.on e3.ne e3.sz;have hci:=e1.trans v1;rw[qa3]at hci
  rcases v3 with v3|v3
  .obtain⟨S2,k1,k2,k3⟩:=v3.root;rw[if_neg (by rw[v3.ok];simp)]
   obtain⟨o1,o2,o3⟩:=Amg (S:=S) (S':=S2) hci ⟨rfl,rfl⟩ hS hnd (by
    rw[qen]at *;intro z;have e1:=p2 z;have e2:=k2 z;simp only[qeo]at *
    omega)
   exact⟨o1,.inl ⟨rfl,v3.on.on,⟨⟨S2,k1,o2,o3⟩,hr _ T.rise,act.ok _ T.ok⟩⟩⟩
  .rw[if_pos v3.ne];obtain⟨o1,o2⟩:=Tf (e:=(Ef fr ed.2.1 ed.2.2.1 ed.2.2.2).1) hci ⟨rfl,rfl⟩ v3.ne;exact⟨o1,.inr ⟨rfl,o2,(v3.back e1 (show 3+t.length<=m by omega))⟩⟩
 .rw[if_pos e3.ne];obtain⟨o1,o2⟩:=Tf (e:=ed.1) e1 ⟨rfl,rfl⟩ e3.ne;exact⟨o1,.inr ⟨rfl,o2,e3.mono (by omega)⟩⟩
def Ach(M:List It):Prop:=M.Pairwise fun x y=>ltB x.key y.key
theorem Aci{M:List It}(hr:Ach M){i j:Nat}{x y:It}(hx:M[i]?=some x)(hy:M[j]?=some y)(h:i<j):ltB x.key y.key:=by
 obtain⟨h1,h2⟩:=qaq.1 hx;obtain⟨h3,h4⟩:=qaq.1 hy;have:=qb9.1 hr i j h1 h3 h
 rwa [h2,h4]at this
theorem Wo{M:List It}(hr:Ach M)(key:Byt):∀(n i j:Nat),j - i<=n->i<=j->j<=M.length->(∀(k:Nat) (x:It),k<i->M[k]?=some x->ltB x.key key)->(∀(k:Nat) (x:It),j<=k->M[k]?=some x->¬ltB x.key key) ->
  (∀(k:Nat) (x:It),k<bsN M key i j->M[k]?=some x->ltB x.key key)/\(∀(k:Nat) (x:It),bsN M key i j<=k->M[k]?=some x->¬ltB x.key key)
 |0,i,j,h,hij,hj,h1,h2=>by
  rw[Oa];exact⟨h1,fun k x hk=>h2 k x (by omega)⟩
 |n+1,i,j,h,hij,hj,h1,h2=>by
  by_cases hlt:i<j
  .rw[ZP hlt];obtain⟨x,hx⟩:=AO (l:=M) (i:=(i+j) / 2);rw[hx];simp only[qbc,qdr]
   by_cases hc:DX x.key key<0
   .rw[if_pos hc];have hlx:=Ju.1 hc;refine Wo hr key n _ j (by omega) (by omega) hj (fun k y hk hy=>?_) h2
    rcases qbr k ((i+j) / 2)with h3|h3
    .exact ER (Aci hr hy hx h3) hlx
    .obtain rfl:k=(i+j) / 2:=by omega
     rw[hx]at hy;cases hy;exact hlx
   .rw[if_neg hc];have hlx:¬ltB x.key key:=fun h=>hc (Ju.2 h);refine Wo hr key n i _ (by omega) (by omega) (by omega) h1 fun k y hk hy=>?_
    rcases Nat.eq_or_lt_of_le hk with h3|h3
    .subst h3;rw[hx]at hy;cases hy;exact hlx
    .exact fun h4=>hlx (ER (Aci hr hx hy h3) h4)
  .rw[Oa];exact⟨h1,fun k x hk=>h2 k x (by omega)⟩
theorem Aab{M:List It}(hr:Ach M)(key:Byt):(∀x∈M.take (CJ M key),ltB x.key key)/\(∀x∈M.drop (CJ M key),¬ltB x.key key):=by
 obtain⟨h1,h2⟩:=Wo hr key _ 0 M.length (qae _) (qak _) (qae _) (fun k x hk=>absurd hk (qc3 _)) (fun k x hk hx=>by have:=(qaq.1 hx).1;omega);constructor
 .intro x hx;obtain⟨k,hk⟩:=List.getElem?_of_mem hx;have:=(qaq.1 hk).1;rw[qa0]at this;rw[List.getElem?_take_of_lt (by omega)]at hk;exact h1 k x (by show k<CJ M key;omega) hk
 .intro x hx;obtain⟨k,hk⟩:=List.getElem?_of_mem hx;rw[qcm]at hk;exact h2 _ x (by show CJ M key<=_;omega) hk
theorem Aeo{L:List Pr}(h:Rising L):Ach (L.map BL):=qbs.2 h
theorem Lw{L:List Pr}(hr:Rising L)(key:Byt):∃A B:List Pr,(∀p∈A,ltB p.1 key)/\(∀p∈B,ltB key p.1)/\(L.map BL).take (CJ (L.map BL) key)=A.map BL /\
  ((Fv (L.map BL) key=true/\∃v,L=A++(key,v)::B/\(L.map BL).drop (CJ (L.map BL) key+1)=B.map BL/\(L.map BL)[CJ (L.map BL) key]?=some (BL (key,v))) \/
   (Fv (L.map BL) key=false/\L=A++B/\(L.map BL).drop (CJ (L.map BL) key)=B.map BL)):=by
 obtain⟨h1,h2⟩:=Aab (Aeo hr) key;obtain⟨k,hk⟩:=qD (CJ (L.map BL) key);have hle:k<=L.length:=by have:=Pw (L.map BL) key;rw[qaj]at this;omega
 rw[<-hk]at h1 h2 |-;rw[<-List.map_take]at h1 |-;rw[<-qd1]at h2;have hA:∀p∈L.take k,ltB p.1 key:=fun p hp=>h1 _ (qah.2 ⟨p,hp,rfl⟩);have hB:∀p∈L.drop k,¬ltB p.1 key:=fun p hp=>h2 _ (qah.2 ⟨p,hp,rfl⟩);have hsp:=(qbj k L).symm
 cases hd:L.drop k with
 |nil =>
  rw[hd]at hsp;have hlen:L.length<=k:=by have:=qab List.length hd;simp at this;omega
  refine⟨L.take k,[],hA,(fun p hp=>by cases hp),rfl,.inr ⟨?_,hsp,?_⟩⟩
  .unfold Fv;rw[<-hk,qbz (by rw[qaj];exact hlen)]
  .rw[<-qd1,hd]
 |cons q B =>
  rw[hd]at hsp hB
  have hq0:L[k]?=some q:=by
   have:(L.drop k)[0]?=some q:=by rw[hd];rfl
   rw[qcm]at this;exact this
  have hg:(L.map BL)[k]?=some (BL q):=by rw[qat,hq0];rfl
  have hrB:Rising (q::B):=by rw[hsp]at hr;exact(Rising.append.1 hr).2.1
  have hqB:=(qbh.1 hrB).1;have hdr:L.drop (k+1)=B:=by rw[<-qdq,hd];rfl
  rcases Mj q.1 key with h3|h3|h3
  .exact absurd h3 (hB q (qaf ..))
  .refine⟨L.take k,B,hA,fun p hp=>h3 ▸ hqB p hp,rfl,.inl ⟨?_,q.2,?_,?_,?_⟩⟩
   .unfold Fv;rw[<-hk,hg];exact qal (by show DX q.1 key=0;rw[h3];exact Mi _)
   .rw[<-h3];exact hsp
   .rw[<-qd1,hdr]
   .rw[hg,<-h3]
  .refine⟨L.take k,q::B,hA,fun p hp=>?_,rfl,.inr ⟨?_,hsp,?_⟩⟩
   .rcases qac.1 hp with rfl|hp
    .exact h3
    .exact ER h3 (hqB p hp)
   .unfold Fv;rw[<-hk,hg];exact qag fun h=>Hx h3 (NS h).symm
   .rw[<-qd1,hd]
theorem QM{A B:List Pr}{k v:Byt}{L:List Pr}(hA:∀p∈A,ltB p.1 k)(hB:∀p∈B,ltB k p.1)(hL:L=A++B\/∃u,L=A++(k,u)::B):HO L k v=A++((k,v)::B):=by
 have f1:A.filter (fun p=>decide (ltB p.1 k))=A:=Er fun p hp=>qal (hA p hp);have f2:B.filter (fun p=>decide (ltB p.1 k))=[]:=FG fun p hp=>qag (Fl (hB p hp));have f3:A.filter (fun p=>decide (ltB k p.1))=[]:=FG fun p hp=>qag (Fl (hA p hp));have f4:B.filter (fun p=>decide (ltB k p.1))=B:=Er fun p hp=>qal (hB p hp);unfold HO
 rcases hL with rfl|⟨u,rfl⟩
 .rw[qbq,qbq,f1,f2,f3,f4];simp
 .have hkk:decide (ltB k k)=false:=qag (Hw k);rw[qbq,qbq,qbm,qbm,f1,f2,f3,f4];simp[hkk]
theorem Wp{A B:List Pr}{k:Byt}{L:List Pr}(hA:∀p∈A,ltB p.1 k)(hB:∀p∈B,ltB k p.1)(hL:L=A++B\/∃u,L=A++(k,u)::B):JA L k=A++B:=by
 have f1:A.filter (fun p => !decide (p.1=k))=A:=Er fun p hp=>by rw[qag (Hx (hA p hp))];rfl
 have f2:B.filter (fun p => !decide (p.1=k))=B:=Er fun p hp=>by rw[qag (fun e=>Hx (hB p hp) e.symm)];rfl
 unfold JA
 rcases hL with rfl|⟨u,rfl⟩
 .rw[qbq,f1,f2]
 .rw[qbq,qbm,f1,f2];simp
theorem Acj{A B:List Pr}{k:Byt}(hA:∀p∈A,ltB p.1 k)(hB:∀p∈B,ltB k p.1):DQ (A++B) k=none/\∀u,DQ (A++(k,u)::B) k=some u:=by
 have f1:A.find? (fun p=>decide (p.1=k))=none:=qed.2 fun p hp=>by simpa using Hx (hA p hp)
 have f2:B.find? (fun p=>decide (p.1=k))=none:=qed.2 fun p hp=>by simpa using fun e=>Hx (hB p hp) e.symm
 unfold DQ;refine⟨by rw[qee,f1,f2];rfl,fun u=>?_⟩;rw[qee,f1,qda,qal rfl];rfl
theorem XS{L:List Pr}(hr:Rising L)(key val:Byt):Lo key val (L.map BL)=(HO L key val).map BL:=by
 obtain⟨A,B,hA,hB,ht,h|h⟩:=Lw hr key
 .obtain⟨h1,v,h2,h3,_⟩:=h;unfold Lo;rw[if_pos h1,ht,h3,QM hA hB (.inr ⟨v,h2⟩),qaz,qay];rfl
 .obtain⟨h1,h2,h3⟩:=h;unfold Lo;rw[if_neg (by rw[h1];simp),ht,h3,QM hA hB (.inl h2),qaz,qay];rfl
theorem XT{L:List Pr}(hr:Rising L)(key:Byt):KG key (L.map BL)=(JA L key).map BL:=by
 obtain⟨A,B,hA,hB,ht,h|h⟩:=Lw hr key
 .obtain⟨h1,v,h2,h3,_⟩:=h;unfold KG;rw[if_pos h1,ht,h3,Wp hA hB (.inr ⟨v,h2⟩),qaz]
 .obtain⟨h1,h2,h3⟩:=h;unfold KG;rw[if_neg (by rw[h1];simp),Wp hA hB (.inl h2),<-h2]
theorem P7(i:Bool)(l:List It)(k m:Nat)(hk:k<=m:=by omega):Bd i (l.take k)+Bd i (l.drop m)<=Bd i l:=by
 have h1:=BA i (l.take k) (l.drop k);rw[qbj]at h1;have h2:=BA i ((l.drop k).take (m - k)) ((l.drop k).drop (m - k));rw[qbj,qdq,show k+(m - k)=m by omega]at h2;omega
theorem XU{key val:Byt}(hk:1<=key.length)(hk2:key.length<=32)(hv:val.length<=128):Acts key (Lo key val) (fun L=>HO L key val):=by
 refine⟨fun L hr _=>XS hr key val,fun A L B hA hB=>Ais hA hB,fun L ho p hp=>?_,fun L hr ho=>?_⟩
 .rcases Xx hp with rfl|h
  .exact⟨hk,hk2,hv⟩
  .exact ho p h
 .rw[<-XS hr key val];have h5:Bd false [(⟨key,val,0⟩:It)]<=164:=by show 4+key.length+val.length+0<=164;omega
  unfold Lo
  split
  .have:=P7 false (L.map BL) (CJ (L.map BL) key) (CJ (L.map BL) key+1);rw[BA,BA];omega
  .have:=P7 false (L.map BL) (CJ (L.map BL) key) (CJ (L.map BL) key);rw[BA,BA];omega
theorem XV(key:Byt):Acts key (KG key) (fun L=>JA L key):=by
 refine⟨fun L hr _=>XT hr key,fun A L B hA hB=>Ait hA hB,fun L ho p hp=>ho p (Xy hp),fun L hr ho=>?_⟩;rw[<-XT hr key];unfold KG
 split
 .have:=P7 false (L.map BL) (CJ (L.map BL) key) (CJ (L.map BL) key+1);rw[BA];omega
 .omega
theorem XW{fr sz:Nat}{A:Dev}(key:Byt)(hon:A.on=true)(hl:fr+sz<=A.B.length):∀(h n p d:Nat) (L:List Pr) (S:List Nat),Lies (RD A fr) h p L S->Rising L->(∀x∈S,x<sz)->d+h<=16->h<n ->
  XF A fr sz key n (p:Int) (d:Int)=(0,DQ L key)
 |0,n+1,p,d,L,S,hL,hr,hs,hd,hn=>by
  have hp:=hs p hL.page;obtain⟨i,M,S',⟨rfl,rfl,rfl⟩,h2,rfl,h4,h5⟩:=hL;have hrd:=Ln hon hp hl (show d<=16 by omega) h2;rw[Wk,if_neg (by omega),hrd];dsimp only;obtain⟨A',B',hA,hB,ht,h|h⟩:=Lw hr key
  .obtain⟨h1,v,h2,h3,h6⟩:=h;rw[if_pos h1,h6,h2,(Acj hA hB).2 v];rfl
  .obtain⟨h1,h2,h3⟩:=h;rw[if_neg (by rw[h1];simp),h2,(Acj hA hB).1]
 |h+1,n+1,p,d,L,S,hL,hr,hs,hd,hn=>by
  have hp:=hs p hL.page;obtain⟨i,l,S',⟨rfl,hk⟩,h2,rfl,h4,h5⟩:=hL;have hrd:=Ln hon hp hl (show d<=16 by omega) h2;rw[Wk,if_neg (by omega),hrd];dsimp only;obtain⟨a,x,b,La,Lx,Lb,Sa,Sx,Sb,rfl,hal,rfl,rfl,ka,q1,q2,q3,kb,hlo,hhi⟩:=Qt hk hr h4.ne key;have hpg:((a++x::b)[Cf (a++x::b) key]?.map (·.page)).getD 0=x.page:=Nm hal;rw[hpg,Aiu hlo hhi];exact XW key hon hl h n x.page (d+1) Lx Sx q1 (Rising.append.1 (Rising.append.1 hr).2.1).1 (fun x hx=>hs x (by simp[hx])) (by omega) (by omega)
theorem Prs.of{w0 w:World}{M:Mut}(hM:∀x,M x->x<w0.heap.size){a:Option Addr}{n c:Nat}{full:List Value}{ps:List Im}(H:Ctx w0 [] w (ent a 68 full))(O:OS a n c 2 full (ps.flatMap Hh))(hok:∀m∈ps,m.Ok w0 M){L:List Pr}(hl:ps.map (fun m=>prI m.it)=L):Prs w M a L.length c L:=by
 have hn:n=ps.length:=O.numN (fun _ _=>rfl) (by decide);have hL:L.length=n:=by rw[<-hl,qaj,hn]
 refine⟨⟨ps,OS.rd O H.blk (fun _ _=>rfl) (by decide),?_,hl,fun m hm=>(hok m hm).call H.ext⟩,rfl,by rw[hL];exact O.le⟩
 cases ha:a with
 |none =>
  left;have h8:=O.none' ha;have h9:=O.le;exact qa4 (by omega)
 |some q =>
  right;have h8:=(H.own (q.block,Bl 68 full) (by rw[ha];exact qaa.2 rfl)).elim (fun h=>by cases h) id;obtain⟨qb,qo,qs⟩:=q;exact fun h=>by have:=hM _ h;dsimp only[adr]at this h8;omega
def inR(kf kt:Byt)(k:Byt):Bool := !decide (ltB k kf) && (decide (kt.length=0) || decide (ltB k kt))
def MR(kf kt:Byt)(L:List Pr):List Pr:=L.filter fun p=>inR kf kt p.1
theorem Amh{w:World}{bd bp ba:Nat}{A:Dev}{F:Nat->Prop}{P:List Nat}(hD:DevAt w bd A F)(hP:PgAt w bp ba P)(frm:Int)(_ : -9223372036854775808<=frm)(_:frm<=9223372036854775807) :
  Ret prog 80 #[ptr bd,ptr bp,.int .i64 frm] w fun v w'=>Ext [] w w'/\((frm<0\/(A.B.length:Int) - (P.length:Int)<frm)/\v=.tuple #[.pointer none,.int .i64 1]\/(¬(frm<0\/(A.B.length:Int) - (P.length:Int)<frm)/\∃bt,v=.tuple #[ptr bt,.int .i64 0]/\w'.heap[bt]?=some (Bl TT [ptr bd,ptr bp,.int .i64 frm])/\w.heap.size<=bt)):=by
 obtain⟨w0,rfl⟩:=qD w;have hlen:=hP.len;obtain⟨role,bs,bm,sv,m,o,D,hF⟩:=hD;have hwf:=D.wf.hi;have H:=Ctx.start w0 [];refine A6 (fn:=f80) func80 U [.pointer (some ⟨bd,0,none⟩),.pointer (some ⟨bp,0,none⟩),.int .i64 frm] U ?_;refine Ad (Bx U (Ac U (qA (Aq (AE (Ad (Am U (BW MM U ?_))))))));refine AA U (Am U (BW St U ?_));refine AK U (.bool _) U (An U (qA (Bz U (Ad (BE (α:=Unit) 134184960 (fun _=>[(15,.bool (decide (frm<0) || decide ((A.B.length:Int) - (P.length:Int)<frm)))]) (fun _ w'=>w0=w') U ?_ ?_)))))
 .refine Ae U (Bn U U (AA U (AR 18 U ?_ ?_)))
  .intro h1;replace h1:=AV h1;refine Ag U (Ag U (Ag U (Ag U (Ag U (Ag U (Ag U (AN U (.bool _) U (An U (Ab ?_)))))))));exact⟨rfl,(),rfl,⟨qab Value.bool (by(rw[qal h1]);rfl),trivial⟩,rfl⟩
  .intro h2;replace h2:=AW h2;refine Ae U (Am U (Ai qB (He D.hd) U ?_));rintro v w ⟨rfl,rfl⟩;refine Am U (Ai qB (Oi hP) U ?_);rintro v w ⟨rfl,rfl⟩;refine BB U U (BZ U U (AK U (.bool _) U (An U (Ab ?_))));exact⟨rfl,(),rfl,⟨qab Value.bool (by(rw[qag h2]);rfl),trivial⟩,rfl⟩
 rintro - j15 w rfl;refine Au _ U ?_ ?_
 .intro hA;refine Ad (Bx U (Ac U (qA (Ax (AL (Ao (Ce (v1:=(.pointer _)) (v2:=(.int _ _)) U U U U ?_)))))));exact⟨.refl _ _,.inl ⟨by simpa using hA,rfl⟩⟩
 .intro hA;refine Ap (AF (Aa (Ad (Am U (Am U (Ae U (B2 [ptr bd,ptr bp,.int .i64 frm] Apn Aps ?_)))))));refine Cn [ptr bd,ptr bp,.int .i64 frm] (.agg _) U U H ?_;rintro bt w - H;refine Bx U (Ac U (qA (Ax (Ce (v1:=(.pointer _)) (v2:=(.int _ _)) U U U U ?_))));refine⟨H.ext,.inr ⟨fun h=>?_,bt,rfl,H.get at0,(H.own _ (qaf ..)).elim (fun h=>by cases h) id⟩⟩;have h6:(decide (frm<0) || decide ((A.B.length:Int) - (P.length:Int)<frm))=true:=by simpa using h
  rw[hA]at h6;cases h6
structure Dk(w:World)(bx bt bd bp ba:Nat)(A:Dev)(P:List Nat)(F:Mut):Prop where
 dk:w.heap[bx]?=some (Bl 0 [ptr bd,ptr bp,ptr bt])
 T:Tx w bt bd bp ba 10 A P F []
 nx:¬TM F ba bt bp [] bx
theorem Aac(kf:Byt)(L:List Pr):MQ kf false (L.map BL)=L.filter fun p => !decide (ltB p.1 kf):=by
 unfold MQ;rw[if_neg (by simp)]
 induction L with
 |nil=>rfl
 |cons p L ih =>
  have hd:decide (0<=DX p.1 kf) = !decide (ltB p.1 kf):=by
   by_cases h:ltB p.1 kf
   .rw[qal h,qag (fun h2=>Ab1.1 h2 h)];rfl
   .rw[qag h,qal (Ab1.2 h)];rfl
  rw[qay,qbm,qbm,show(BL p).key=p.1 from rfl,hd]
  by_cases h:(!decide (ltB p.1 kf))=true
  .rw[if_pos h,if_pos h,qay,ih];rfl
  .rw[if_neg h,if_neg h,ih]
theorem Aep(kf:Byt)(a b:List Nd):Lu kf (a++b)=Lu kf a++Lu kf b:=qbf
theorem Vd{fr sz:Nat}{A:Dev}(hon:A.on=true)(hl:fr+sz<=A.B.length):∀(h n p d:Nat) (L:List Pr) (S:List Nat),Lies (RD A fr) h p L S->(∀x∈S,x<sz)->sz<=4096->d+h<=16->h<n ->
  (Ff A fr sz n (p:Int) d).1=0/\(Ff A fr sz n (p:Int) d).2.map (·.1)=S.map (fun x:Nat=>(x:Int))/\∀kf,Lu kf (Ff A fr sz n (p:Int) d).2=L.filter fun p => !decide (ltB p.1 kf)
 |0,n+1,p,d,L,S,hL,hs,hz,hd,hn=>by
  have hp:=hs p hL.page;obtain⟨i,M,S',⟨rfl,rfl,rfl⟩,h2,rfl,h4,h5⟩:=hL;have hrd:=Ln hon hp hl (show d<=16 by omega) h2;unfold Ff;rw[hrd];refine⟨rfl,rfl,fun kf=>?_⟩;show MQ kf false (L.map BL)++[]=_;rw[qa3,Aac]
 |h+1,n+1,p,d,L,S,hL,hs,hz,hd,hn=>by
  have hp:=hs p hL.page;obtain⟨i,l,S',⟨rfl,hk'⟩,h2,rfl,h4,h5⟩:=hL;have hk:Kids (Lies (RD A fr) h) l L S':=hk';have hrd:=Ln hon hp hl (show d<=16 by omega) h2;have hs':∀x∈S',x<sz:=fun x hx=>hs x (qai _ hx);have hkid:Kids (fun p L S=>Lies (RD A fr) h p L S/\∀x∈S,x<sz) l L S':=hk.mono fun p L S hsub hq=>⟨hq,fun x hx=>hs' x (hsub x hx)⟩
  obtain⟨b1,b2,b3⟩:(Jb (fun p=>Ff A fr sz n p (d+1)) l).1=0/\(Jb (fun p=>Ff A fr sz n p (d+1)) l).2.map (·.1)=S'.map (fun x:Nat=>(x:Int))/\∀kf,Lu kf (Jb (fun p=>Ff A fr sz n p (d+1)) l).2=L.filter fun p => !decide (ltB p.1 kf):=by
   clear h2 h4 h5 hrd hp hs hk hk'
   induction l generalizing L S' with
   |nil=>obtain⟨rfl,rfl⟩:=hkid;exact⟨rfl,rfl,fun _=>rfl⟩
   |cons x l ih =>
    obtain⟨L1,L2,S1,S2,rfl,rfl,⟨h3,h3s⟩,_,_,h6⟩:=hkid;obtain⟨a1,a2,a3⟩:=Vd hon hl h n x.page (d+1) L1 S1 h3 h3s hz (by omega) (by omega);obtain⟨b1,b2,b3⟩:=ih L2 S2 (fun x hx=>hs' x (qax _ hx)) h6;unfold Jb;rw[if_neg (by rw[a1];simp)];exact⟨b1,by rw[qaz,qaz,a2,b2],fun kf=>by rw[Aep,a3,b3,qbq]⟩
  unfold Ff;rw[hrd];dsimp only;refine⟨b1,by rw[qay,qay,b2],fun kf=>?_⟩;show MQ kf true l++Lu kf _=_;rw[b3];rfl
theorem Aeq{L:List Pr}(hr:Rising L)(kt:Byt):L.takeWhile (fun p=>decide (DX p.1 kt<0))=L.filter fun p=>decide (ltB p.1 kt):=by
 induction L with
 |nil=>rfl
 |cons p L ih =>
  obtain⟨h1,h2⟩:=qbh.1 hr
  have hd:decide (DX p.1 kt<0)=decide (ltB p.1 kt):=by
   by_cases h:ltB p.1 kt
   .rw[qal h,qal (Ju.2 h)]
   .rw[qag h,qag (fun h2=>h (Ju.1 h2))]
  rw[qc4,qbm,hd]
  by_cases h:ltB p.1 kt
  .rw[qal h];simp only[if_true];rw[ih h2]
  .rw[qag h];simp only[qdn,if_false];refine(FG fun q hq=>qag fun h3=>h (ER (h1 q hq) h3)).symm
theorem Aer{L:List Pr}(hr:Rising L)(kf kt:Byt):XR kt (L.filter fun p => !decide (ltB p.1 kf))=MR kf kt L:=by
 unfold XR MR inR
 by_cases hk:kt=[]
 .rw[if_pos hk,hk];simp
 .rw[if_neg hk,Aeq (hr.sublist qeu),List.filter_filter]
  congr 1
  funext p
  rw[qag (show ¬kt.length=0 from fun h=>hk (qa4 h)),Bool.false_or,Bool.and_comm]
structure Told(fr:Nat)(A:Dev)(P:List Nat)(root:Int)(L:List Pr)(S:List Nat):Prop where
 may:Ib P.length root=0
 rlo : -1<=root
 rhi:root<P.length
 none:root = -1↔L=[]
 scan:∀kf kt,Oo A fr P.length root kf kt=(0,MR kf kt L)
 walk:Lt A fr P.length root=(0,Jd (S.map fun x:Nat=>(x:Int)))
 num:(Ev A fr P.length root).2.length=S.length
 get:∀key,XF A fr P.length key 18 root 0=(0,DQ L key)
 len:S.length<=2*L.length
theorem told{fr:Nat}{A:Dev}{P:List Nat}{root:Int}{L:List Pr}{S:List Nat}(hR:Root (RD A fr) root L S)(hon:A.on=true)(hl:fr+P.length<=A.B.length)(hP:P.length<=2000)(hnd:S.Nodup)(hS:∀x∈S,x<P.length)(hr:Rising L):Told fr A P root L S:=by
 rcases hR with⟨rfl,rfl,rfl⟩|⟨h,p,rfl,hL⟩
 .have hm:Ib P.length (-1)=0:=by unfold Ib;rw[if_neg (by omega)]
  have hn:Ev A fr P.length (-1)=(0,[]):=by unfold Ev;rw[if_pos rfl]
  refine⟨hm,by omega,by omega,by simp,fun kf kt=>?_,?_,by rw[hn];rfl,fun key=>?_,qak _⟩
  .unfold Oo;rw[if_neg (by rw[hm];simp),hn,if_neg (by simp)];unfold XR Lu MR
   split <;> rfl
  .unfold Lt;rw[if_neg (by rw[hm];simp),hn,if_neg (by simp)];rfl
  .rw[Wk,if_pos rfl];rfl
 .have hp:=hS p hL.page;have hm:Ib P.length (p:Int)=0:=by unfold Ib;rw[if_neg (by omega)]
  have hh:=Ajx hL hnd hS hP;obtain⟨e1,e2,e3⟩:=Vd hon hl h 18 p 0 L S hL hS (by omega) (by omega) (by omega);have hn:Ev A fr P.length (p:Int)=Ff A fr P.length 18 (p:Int) 0:=by unfold Ev;rw[if_neg (by omega)]
  rw[<-hn]at e1 e2 e3;refine⟨hm,by omega,by omega,⟨fun h=>by omega,fun h=>absurd h hL.ne⟩,fun kf kt=>?_,?_,?_,fun key=>?_,?_⟩
  .unfold Oo;rw[if_neg (by rw[hm];simp),if_neg (by rw[e1];simp),e3,Aer hr]
  .unfold Lt;rw[if_neg (by rw[hm];simp),if_neg (by rw[e1];simp),e2]
  .have:=qab List.length e2
   rwa [qaj,qaj]at this
  .exact XW key hon hl h 18 p 0 L S hL hr hS (by omega) (by omega)
  .have:=hL.count.2;omega
theorem P9(L:List Pr):MR [] [] L=L:=Er fun p _=>by
 unfold inR
 have:¬ltB p.1 []:=by
  cases p.1 with
  |nil=>exact Hw _
  |cons x l=>intro h;cases h
 rw[qag this];rfl
theorem TreeAt.told{fr:Nat}{A:Dev}{P:List Nat}{root:Int}{L:List Pr}(T:TreeAt fr A P root L)(hon:A.on=true)(hl:fr+P.length<=A.B.length)(hP:P.length<=2000):∃S,Told fr A P root L S/\S.Nodup/\(∀x:Nat,x∈S↔P[x]?=some 1\/P[x]?=some 2):=by
 obtain⟨S,hR,hnd,hS⟩:=T.lies;exact⟨S,Go.Proofs.YtcpgbcabmcbclaaGreatDoor.told hR hon hl hP hnd (fun x hx=>((hS x).1 hx).elim (fun h=>(qaq.1 h).1) fun h=>(qaq.1 h).1) T.rise,hnd,hS⟩
theorem Ajy{fr:Nat}{c:Ch}{i:Bool}{M:List It}{m:Nat}(h:Few c.A m):Few (Ef fr c i M).2.1.A (m+3):=by
 obtain⟨-,-,q3,-⟩:=Lp (fr:=fr) (c:=c) (i:=i) (M:=M) (m:=m);have q3:=q3 h;unfold Ef
 split
 .exact h.mono (by omega)
 .split
  .exact q3.mono (by omega)
  .split
   .exact q3.mono (by omega)
   .split
    .exact(QL q3).mono (by omega)
    .exact q3.mono (by omega)
theorem Ve{fr:Nat}{A:Dev}{P:List Nat}{root:Int}{key:Byt}{G:List It->List It}{m:Nat}(h:Few A m):Few (DG fr A P root key G).2.2.A (m+40):=by
 obtain⟨ed,hed⟩:=qD (if root = -1 then(0,⟨A,P,[],[]⟩,false,G [])else CM fr G key 18 ⟨A,P,[],[]⟩ root.toNat 0:Int × Ch × Bool × List It)
 have hb:Few ed.2.1.A (m+36):=by
  rw[hed]
  split
  .exact h.mono (by omega)
  .obtain⟨x1,x2,x3⟩:=Mr (fr:=fr) (G:=G) (key:=key) (m:=m) (n:=18) (c:=⟨A,P,[],[]⟩) (p:=root.toNat) (d:=0);exact x3 h
 have hturn:DG fr A P root key G=if ed.1≠0 then(ed.1,root,DH ed.2.1 ed.1)else if(Ef fr ed.2.1 ed.2.2.1 ed.2.2.2).1≠0 then((Ef fr ed.2.1 ed.2.2.1 ed.2.2.2).1,root,DH (Ef fr ed.2.1 ed.2.2.1 ed.2.2.2).2.1 (Ef fr ed.2.1 ed.2.2.1 ed.2.2.2).1)else(0,(Ef fr ed.2.1 ed.2.2.1 ed.2.2.2).2.2,DH (Ef fr ed.2.1 ed.2.2.1 ed.2.2.2).2.1 0):=by
  unfold DG;rw[hed]
 rw[hturn];have ht:=Ajy (fr:=fr) (i:=ed.2.2.1) (M:=ed.2.2.2) hb
 split
 .exact hb.mono (by omega)
 .split
  .exact ht.mono (by omega)
  .exact ht.mono (by omega)
theorem hm24{P:List Nat}(hP:P.length<=2000):∀h,h=0\/2 ^ (h+1)<=P.length+1->2*h+3<=24:=fun h hh=>by
 rcases hh with rfl|hh
 .omega
 .rcases qbr h 10 with h3|h3
  .omega
  .have:2 ^ 11<=2 ^ (h+1):=qc2 (by omega) (by omega)
   omega
structure Stepped(fr:Nat)(A:Dev)(P:List Nat)(root':Int)(L':List Pr)(A':Dev)(P':List Nat)(mx:Nat):Prop where
 tree:TreeAt fr A' P' root' L'
 aft:After fr A P A' P'
 on:A'.on=true
 few:Few A' mx
theorem After.refl(fr:Nat)(A:Dev)(P:List Nat):After fr A P A P:=⟨fun _ _=>rfl,rfl,fun h=>h,rfl,rfl⟩
theorem Vf{fr:Nat}{A:Dev}{P:List Nat}{root:Int}{L:List Pr}{key:Byt}{G:List It->List It}{g:List Pr->List Pr}(act:Acts key G g)(hr:∀L,Rising L->Rising (g L))(T:TreeAt fr A P root L)(hon:A.on=true)(hl:fr+P.length<=A.B.length)(hP:P.length<=2000)(hleft:A.left = -1)(hfree:24<=DF P){mx:Nat}(hfew:Few A mx) :
  (DG fr A P root key G).1=0/\Stepped fr A P (DG fr A P root key G).2.1 (g L) (DG fr A P root key G).2.2.A (DG fr A P root key G).2.2.P (mx+40):=by
 obtain⟨h1,h2⟩:=Vc act hr T hon hl hP (hm24 hP)
 rcases h2 with⟨h3,h4,h5⟩|⟨_,_,h3⟩
 .exact⟨h3,h5,h1,h4,Ve hfew⟩
 .rcases h3 with⟨_,h3⟩|⟨_,h3⟩
  .exact absurd hleft h3
  .omega
theorem Ajz{fr:Nat}{A:Dev}{P:List Nat}{root:Int}{L:List Pr}{key val:Byt}(T:TreeAt fr A P root L)(hon:A.on=true)(hl:fr+P.length<=A.B.length)(hleft:A.left = -1)(hfree:24<=DF P){mx:Nat}(hfew:Few A mx)(hP:P.length<=2000:=by omega):
  (Dh key.length val.length=false/\JQ fr A P root key val=(1,root,A,P))\/(Dh key.length val.length=true/\(JQ fr A P root key val).1=0/\Stepped fr A P (JQ fr A P root key val).2.1 (HO L key val) (JQ fr A P root key val).2.2.1 (JQ fr A P root key val).2.2.2 (mx+40)):=by
 obtain⟨S,td,-,-⟩:=T.told hon hl hP;unfold JQ;rw[if_neg (by rw[td.may];simp)]
 by_cases hk:Dh key.length val.length=true
 .right;rw[if_pos hk];have hk2:=hk;unfold Dh at hk2;simp only[qao,qap]at hk2;obtain⟨h1,h2⟩:=Vf (XU hk2.1 hk2.2.1 hk2.2.2) (fun L h=>GI h key val) T hon hl hP hleft hfree hfew;exact⟨hk,h1,h2⟩
 .left;rw[if_neg hk];exact⟨by simpa using hk,rfl⟩
theorem Aj0{fr:Nat}{A:Dev}{P:List Nat}{root:Int}{L:List Pr}{key:Byt}(T:TreeAt fr A P root L)(hon:A.on=true)(hl:fr+P.length<=A.B.length)(hleft:A.left = -1)(hfree:24<=DF P){mx:Nat}(hfew:Few A mx)(hP:P.length<=2000:=by omega):
  (Dh key.length 0=false/\Hg fr A P root key=(1,root,false,A,P))\/(Dh key.length 0=true/\(Hg fr A P root key).1=0/\(Hg fr A P root key).2.2.1=(DQ L key).isSome/\((DQ L key).isSome=false->(Hg fr A P root key).2.1=root) /\
   Stepped fr A P (Hg fr A P root key).2.1 (JA L key) (Hg fr A P root key).2.2.2.1 (Hg fr A P root key).2.2.2.2 (mx+40)):=by
 obtain⟨S,td,-,-⟩:=T.told hon hl hP
 have hget:Ol A fr P.length root key=if Dh key.length 0=true then(0,DQ L key)else(1,none):=by
  unfold Ol;rw[if_neg (by rw[td.may];simp),td.get]
 unfold Hg;rw[hget]
 by_cases hk:Dh key.length 0=true
 .right;rw[if_pos hk,if_neg (by simp)]
  cases hg:DQ L key with
  |none =>
   rw[if_pos (show((0,(none:Option Byt)):Int × Option Byt).2.isSome=false from rfl),UL hg];exact⟨hk,rfl,rfl,fun _=>rfl,T,After.refl _ _ _,hon,hfew.mono (by omega)⟩
  |some u =>
   rw[if_neg (by simp)];obtain⟨h1,h2⟩:=Vf (XV key) (fun L h=>HP h key) T hon hl hP hleft hfree hfew;exact⟨hk,h1,by dsimp only;rw[qal h1];rfl,(fun h=>by cases h),h2⟩
 .left;rw[if_neg hk,if_pos (by simp)];exact⟨by simpa using hk,rfl⟩
theorem XX{fr:Nat}{A:Dev}{P:List Nat}{root:Int}{L:List Pr}{key:Byt}(T:TreeAt fr A P root L)(hon:A.on=true)(hl:fr+P.length<=A.B.length)(hP:P.length<=2000):Ol A fr P.length root key=if Dh key.length 0=true then(0,DQ L key)else(1,none):=by
 obtain⟨S,td,-,-⟩:=T.told hon hl hP;unfold Ol;rw[if_neg (by rw[td.may];simp),td.get]
def Jw(P:List Nat)(k:Nat):Bool:=decide (P[k]?=some 1) || decide (P[k]?=some 2)
def Hj(P:List Nat)(k:Nat):List Nat:=(List.range k).filter (Jw P)
theorem Tg(P:List Nat)(k:Nat):Hj P (k+1)=Hj P k++if Jw P k=true then[k]else[]:=by
 unfold Hj;rw[List.range_succ,qbq]
 congr 1
 by_cases h:Jw P k=true
 .rw[if_pos h,qbm,h];rfl
 .rw[if_neg h,qbm,show Jw P k=false by simpa using h];rfl
section
variable {ops rest:List Oper}{Q:Exit->Env->World->Prop}{e:Env}{w:World}{dst:Option Tmp}{ty:TypeId}{pos:String}{af:Array Edge}{g:Option (Nat × Bool)}{r:Option Nat}
theorem HI(h:∀b w',Ext [] w w'->w.heap.size<=b->w'.heap[b]?=some (Bl 5 [])->AB prog r ops Q rest (put e dst (.slice (some ⟨b,0,none⟩) 0 0)) w')(hg:AJ ⟨dst,.buildSlice 24 0 #[],ty,pos,af,g⟩ ops e=true:=by exact U):AB prog r ops Q (⟨dst,.buildSlice 24 0 #[],ty,pos,af,g⟩::rest) e w :=
 JF hg AX CT (Ctx.start w []) fun b w' H _=>h b w' H.ext ((H.own (b,Bl 5 []) (qax _ (qaa.2 rfl))).elim (fun h=>by cases h) id) (H.blk (b,Bl 5 []) (qax _ (qaa.2 rfl)))
theorem Mw{x y:Operand}{b c2:Nat}{a2:Option Addr}{l:Byt}(hg:AJ ⟨dst,.call ⟨.builtin .append,#[x,y],#[24,24]⟩,ty,pos,af,g⟩ ops e=true)(hx:ev e x=.slice (some ⟨b,0,none⟩) 0 0)(hy:ev e y=.slice a2 l.length c2)(hb:w.heap[b]?=some (Bl 5 []))(R:Rd w a2 1 B8 l)(h:∀a' c' w',Ext [b] w w'->Rd w' a' 1 B8 l->l.length<=c'->(l=[]\/(adr a').block=b\/w.heap.size<=(adr a').block)->AB prog r ops Q rest (put e dst (.slice a' l.length c')) w')(hl:l.length<=1000000:=by omega):
  AB prog r ops Q (⟨dst,.call ⟨.builtin .append,#[x,y],#[24,24]⟩,ty,pos,af,g⟩::rest) e w:=by
 refine DS (L:=[]) (a:=some ⟨b,0,none⟩) (n:=0) (c:=0) (full:=[]) (l:=[]) hg AX AX CT Pf IP U (l.map bv) hx hy (Ctx.start1 hb) ⟨(fun p hp=>by injection hp with hp;subst hp;rfl),(fun hp=>by cases hp),by simp,qae _,by simp⟩ (by simp) (Ht l) (Rd.appB R) fun a' c' full' w' H' O'=>?_;rw[qa2]at O' |-;refine h a' c' w' H'.ext (OS.rdB (by simpa using O') fun y hy=>H'.blk y hy) O'.le ?_
 cases ha:a' with
 |none =>
  left;have h8:=O'.none' ha;have h9:=O'.le;exact qa4 (by omega)
 |some q =>
  have h8:=H'.own (q.block,Bl 5 full') (by rw[ha];exact qaa.2 rfl);obtain⟨qb,qo,qs⟩:=q;exact .inr (h8.imp (fun h=>qaa.1 h) id)
end
theorem Ez{w2 w:World}{l:Byt}{b:Nat}{a:Option Addr}(h:l=[]\/(adr a).block=b\/w.heap.size<=(adr a).block)(hs:w2.heap.size<=w.heap.size)(hb:w2.heap.size<=b:=by omega):l=[]\/w2.heap.size<=(adr a).block:=by
 rcases h with h|h|h
 .exact .inl h
 .exact .inr (by omega)
 .exact .inr (by omega)
theorem JS{w w':World}{l:Byt}{b:Nat}{a:Option Addr}(R:Rd w a 1 B8 l)(h:l=[]\/(adr a).block≠b)(hx:Ext [b] w w'):Rd w' a 1 B8 l:=by
 rcases h with rfl|h
 .exact Rd.nil
 .exact R.ext hx (by simpa using h)
theorem Aj1{w:World}{l:Byt}{b2:Nat}{a:Option Addr}(R:Rd w a 1 B8 l)(h:w.heap.size<=b2):l=[]\/(adr a).block≠b2:=by
 rcases Pq R (fun _ _=>rfl)with h1|h1
 .exact .inl h1
 .exact .inr (by omega)
structure St7 where
 cut:Bool
 key:Byt
 val:Byt
 settle:Bool
structure Sm where
 ka:Option Addr
 kc:Nat
 va:Option Addr
 vc:Nat
 s:St7
def Sm.enc(m:Sm):List Value:=[.bool m.s.cut,.slice m.ka m.s.key.length m.kc,.slice m.va m.s.val.length m.vc,.bool m.s.settle]
theorem Sm.oneE(m:Sm):∀v∈m.enc,Bi v=true:=fun v hv=>by
 simp only[Sm.enc,qac,qam,or_false]at hv
 rcases hv with rfl|rfl|rfl|rfl <;> rfl
structure Sm.Ok(w:World)(M:Mut)(m:Sm):Prop where
 k:Rdx w M m.ka m.s.key
 v:Rdx w M m.va m.s.val
 kc:m.s.key.length<=m.kc
 vc:m.s.val.length<=m.vc
 kl:m.s.key.length<=200
 vl:m.s.val.length<=500
def Th(s:St7)(L:List Pr):List Pr :=
 if s.cut=true then(if Dh s.key.length 0=true then JA L s.key else L)else if Dh s.key.length s.val.length=true then HO L s.key s.val else L
structure Does(w0:World)(bx bt bd bp ba:Nat)(A:Dev)(P:List Nat)(F:Mut)(L':List Pr)(mx:Nat)(v:Value)(w':World):Prop where
 ex:∃(root':Int) (a':Option Addr) (c':Nat) (A':Dev) (P':List Nat) (F':Mut),v=.tuple #[.int .i64 root',.slice a' L'.length c',.bool true]/\Dk w' bx bt bd bp ba A' P' F'/\Grown (TM F ba bt bp []) (TM F' ba bt bp []) w0 w'/\Stepped 10 A P root' L' A' P' (mx+40)/\Prs w' (TM F' ba bt bp []) a' L'.length c' L'
theorem Dk.step{w w':World}{bx bt bd bp ba:Nat}{A A':Dev}{P P':List Nat}{F F':Mut}(D:Dk w bx bt bd bp ba A P F)(T:Tx w' bt bd bp ba 10 A' P' F' [])(t:Grown (TM F ba bt bp []) (TM F' ba bt bp []) w w'):Dk w' bx bt bd bp ba A' P' F' :=
 ⟨t.keep D.dk D.nx,T,fun h=>(t.2 bx h).elim D.nx fun h=>by have:=Al D.dk;omega⟩
theorem Dk.call{w w':World}{bx bt bd bp ba:Nat}{A:Dev}{P:List Nat}{F:Mut}(D:Dk w bx bt bd bp ba A P F)(hx:Ext [] w w'):Dk w' bx bt bd bp ba A P F:=D.step (D.T.call hx) (.call0 hx)
theorem Qu(P:List Nat)(x:Nat):((P.map BM)[x]?=some 1\/(P.map BM)[x]?=some 2)↔(P[x]?=some 1\/P[x]?=some 2):=by
 rw[qat]
 cases P[x]? with
 |none=>simp
 |some s =>
  simp only[qbc,qbb];unfold BM
  split
  .omega
  .split
   .omega
   .exact Iff.rfl
theorem TreeAt.settle{fr:Nat}{A:Dev}{P:List Nat}{root:Int}{L:List Pr}(T:TreeAt fr A P root L):TreeAt fr A (P.map BM) root L:=by
 obtain⟨S,h1,h2,h3⟩:=T.lies;exact⟨⟨S,h1,h2,fun x=>(h3 x).trans (Qu P x).symm⟩,T.rise,T.ok⟩
theorem Ku{P:List Nat}(hok:∀s∈P,s<=3):∀k,k<=P.length->(Hj P k).length+DF ((P.map BM).take k)=k
 |0,_=>rfl
 |k+1,hk=>by
  have ih:=Ku hok k (by omega);obtain⟨s,hs⟩:=AO (l:=P) (i:=k);have hs3:=hok s (qad hs);have hq:(P.map BM)[k]?=some (BM s):=by rw[qat,hs];rfl
  rw[Tg,qan,XE hq];have hb:Jw P k=(decide (s=1) || decide (s=2)):=by unfold Jw;rw[hs];simp
  rw[hb];have h4:s=0\/s=1\/s=2\/s=3:=by omega
  rcases h4 with rfl|rfl|rfl|rfl
  .rw[if_neg (by decide),if_pos (by decide)];simp only[qby];omega
  .rw[if_pos (by decide),if_neg (by decide)];simp only[qaw,qby];omega
  .rw[if_pos (by decide),if_neg (by decide)];simp only[qaw,qby];omega
  .rw[if_neg (by decide),if_pos (by decide)];simp only[qby];omega
theorem XY{P S:List Nat}(hok:∀s∈P,s<=3)(hnd:S.Nodup)(hS:∀x:Nat,x∈S↔P[x]?=some 1\/P[x]?=some 2):S.length+DF (P.map BM)=P.length:=by
 have h1:=Ku hok P.length (qae _);rw[qa6 (by rw[qaj];omega)]at h1
 have hperm:S.Perm (Hj P P.length):=by
  refine(qd2 hnd (List.nodup_range.filter _)).2 fun x=>?_;rw[qbk,qdc,hS];unfold Jw;rw[qcf,qap,qap];refine⟨fun h=>⟨h.elim (fun h=>(qaq.1 h).1) fun h=>(qaq.1 h).1,h⟩,And.right⟩
 have h2:=hperm.length_eq;omega
theorem Aes{s:St7}{L:List Pr}(h:Rising L):(Th s L).length<=L.length+1:=by
 unfold Th
 split
 .split
  .exact Nat.le_succ_of_le (X0 _ _)
  .omega
 .split
  .exact Xz _ _ _ h
  .omega
structure Std(w0 w:World)(bx bt bd bp ba n:Nat)(root:Int)(L:List Pr)(i:Nat)(A:Dev)(P:List Nat)(F:Mut):Prop where
 D:Dk w bx bt bd bp ba A P F
 T:TreeAt 10 A P root L
 on:A.on=true
 left:A.left = -1
 num:P.length=n
 blen:A.B.length=10+n
 few:Few A (40*i)
 li:L.length<=i
 new:∀x,TM F ba bt bp [] x->w0.heap.size<=x
 hx:Ext [] w0 w
section
variable {w0 w w':World}{bx bt bd bp ba n:Nat}{root:Int}{L:List Pr}{i:Nat}{A:Dev}{P:List Nat}{F:Mut}
theorem Std.call(s:Std w0 w bx bt bd bp ba n root L i A P F)(hx:Ext [] w w'):Std w0 w' bx bt bd bp ba n root L i A P F :=
 ⟨s.D.call hx,s.T,s.on,s.left,s.num,s.blen,s.few,s.li,s.new,s.hx.trans hx⟩
theorem Std.hl(s:Std w0 w bx bt bd bp ba n root L i A P F):10+P.length<=A.B.length:=by rw[s.num,s.blen];exact qae _
theorem Std.settle(s:Std w0 w bx bt bd bp ba n root L i A P F)(h:PgAt w' bp ba (P.map BM))(hx:Ext [ba] w w'):Std w0 w' bx bt bd bp ba n root L i A (P.map BM) F/\Grown (TM F ba bt bp []) (TM F ba bt bp []) w w':=by
 obtain⟨h1,h2⟩:=s.D.T.page h hx;exact⟨⟨s.D.step h1 h2,s.T.settle,s.on,s.left,by rw[qaj];exact s.num,s.blen,s.few,s.li,s.new,h2.1.new s.hx s.new⟩,h2⟩
theorem Std.told(s:Std w0 w bx bt bd bp ba n root L i A P F)(hn:n<=2000):∃S,Told 10 A P root L S/\S.Nodup/\(∀x:Nat,x∈S↔P[x]?=some 1\/P[x]?=some 2):=s.T.told s.on s.hl (by rw[s.num];exact hn)
theorem Std.free(s:Std w0 w bx bt bd bp ba n root L i A P F)(hn:n<=2000):n<=DF (P.map BM)+2*i:=by
 obtain⟨S,td,hnd,hS⟩:=s.told hn;have h1:=XY s.D.T.pg.ok hnd hS;have h2:=td.len;have h3:=s.li;have h4:=s.num;omega
theorem Std.step{root':Int}{L':List Pr}{A':Dev}{P':List Nat}{F':Mut}(s:Std w0 w bx bt bd bp ba n root L i A P F)(D':Dk w' bx bt bd bp ba A' P' F')(g:Grown (TM F ba bt bp []) (TM F' ba bt bp []) w w')(h:Stepped 10 A P root' L' A' P' (40*i+40))(hl:L'.length<=L.length+1) :
  Std w0 w' bx bt bd bp ba n root' L' (i+1) A' P' F':=by
 obtain⟨T',af,on',few'⟩:=h;refine⟨D',T',on',af.left s.left,af.len.trans s.num,af.blen.trans s.blen,few'.mono (by omega),?_,fun x hx=>?_,g.1.new s.hx s.new⟩
 .have:=s.li;omega
 .exact(g.2 x hx).elim (s.new x) fun h=>qav s.hx.size h
theorem Std.does{t:St7}{v:Value}(s:Std w0 w bx bt bd bp ba n root L i A P F)(h:Does w bx bt bd bp ba A P F (Th t L) (40*i) v w') :
  ∃root' a' c' A' P' F',v=.tuple #[.int .i64 root',.slice a' (Th t L).length c',.bool true]/\Std w0 w' bx bt bd bp ba n root' (Th t L) (i+1) A' P' F'/\Prs w' (TM F' ba bt bp []) a' (Th t L).length c' (Th t L)/\Grown (TM F ba bt bp []) (TM F' ba bt bp []) w w'/\After 10 A P A' P':=by
 obtain⟨root',a',c',A',P',F',hv,D',g,st,PL'⟩:=h.ex;exact⟨root',a',c',A',P',F',hv,s.step D' g st (Aes s.T.rise),PL',g,st.aft⟩
theorem Std.put(s:Std w0 w bx bt bd bp ba n root L i A P F)(hn:n<=2000)(hi:i<=1000)(hfree:24<=DF P){ka va:Option Addr}{kc vc:Nat}{key val:Byt}(Rk:Rdx w (TM F ba bt bp []) ka key)(Rv:Rdx w (TM F ba bt bp []) va val)(hkc:key.length<=kc)(hvc:val.length<=vc)(hk:Dh key.length val.length=true) :
  Ret prog 120 #[ptr bt,.int .i64 root,.slice ka key.length kc,.slice va val.length vc] w fun v w'=>∃root' A' P' F',v=.tuple #[.int .i64 root',.int .i64 0]/\Std w0 w' bx bt bd bp ba n root' (HO L key val) (i+1) A' P' F'/\After 10 A P A' P'/\Grown (TM F ba bt bp []) (TM F' ba bt bp []) w w':=by
 obtain⟨S,td,-,-⟩:=s.told hn;have hlo:=td.rlo;have hhi:=td.rhi;have hnum:=s.num;have hkl:key.length<=32:=by unfold Dh at hk;simp only[qao,qap]at hk;omega
 have hgood:=Ajz (key:=key) (val:=val) s.T s.on s.hl s.left hfree s.few
 rcases hgood with⟨h,_⟩|⟨_,h1,h4⟩
 .rw[hk]at h;cases h
 .refine(Acf (by omega) s.D.T root ka va kc vc _ _ key val Rk Rv U U hkc hvc s.few (by omega) (by rw[h1];decide)).mono fun v w' ⟨F',hv,T',g⟩=>?_;rw[h1]at hv;exact⟨_,_,_,F',hv,s.step (s.D.step T' g) g h4 (Xz _ _ _ s.T.rise),h4.aft,g⟩
theorem Std.cut(s:Std w0 w bx bt bd bp ba n root L i A P F)(hn:n<=2000)(hi:i<=1000)(hfree:24<=DF P){ka:Option Addr}{kc:Nat}{key:Byt}(Rk:Rdx w (TM F ba bt bp []) ka key)(hk:Dh key.length 0=true) :
  Ret prog 121 #[ptr bt,.int .i64 root,.slice ka key.length kc] w fun v w'=>∃root' A' P' F',v=.tuple #[.int .i64 root',.bool (DQ L key).isSome,.int .i64 0]/\Std w0 w' bx bt bd bp ba n root' (JA L key) (i+1) A' P' F'/\After 10 A P A' P'/\((DQ L key).isSome=false->root'=root)/\Grown (TM F ba bt bp []) (TM F' ba bt bp []) w w':=by
 obtain⟨S,td,-,-⟩:=s.told hn;have hlo:=td.rlo;have hhi:=td.rhi;have hnum:=s.num;have hkl:key.length<=32:=by unfold Dh at hk;simp only[qao,qap]at hk;omega
 have hgood:=Aj0 (key:=key) s.T s.on s.hl s.left hfree s.few
 rcases hgood with⟨h,_⟩|⟨_,h1,h2,h3,h4⟩
 .rw[hk]at h;cases h
 .refine(Acg (by omega) s.D.T root ka kc _ key Rk U s.few (by omega) (by rw[h1];decide)).mono fun v w' ⟨F',hv,T',g⟩=>?_;rw[h1,h2]at hv;exact⟨_,_,_,F',hv,s.step (s.D.step T' g) g h4 (Nat.le_succ_of_le (X0 _ _)),h4.aft,h3,g⟩
theorem Std.get(s:Std w0 w bx bt bd bp ba n root L i A P F)(hn:n<=2000)(hi:i<=1000){ka:Option Addr}{kc:Nat}{key:Byt}(Rk:Rd w ka 1 B8 key) :
  Ret prog 148 #[ptr bt,.int .i64 root,.slice ka key.length kc] w fun v w'=>∃va vc u b e,v=.tuple #[.slice va (List.length u) vc,.bool b,.int .i64 e]/\Ext [] w w'/\Rdx w' (TM F ba bt bp []) va u/\(Dh key.length 0=true->e=0/\b=(DQ L key).isSome/\u=(DQ L key).getD []):=by
 obtain⟨S,td,-,-⟩:=s.told hn;have hlo:=td.rlo;have hhi:=td.rhi;have hnum:=s.num;have hg:=XX (key:=key) s.T s.on s.hl (by omega);refine(Ab8 s.D.T (by omega) root ⟨by omega,by omega⟩ ka kc _ key Rk U s.few).mono fun v w' ⟨va,vc,u,hv,hx,X,hc,hu⟩=>?_;refine⟨va,vc,u,_,_,hv,hx,⟨X.1,X.2.imp id fun h hm=>h (s.D.T.mlt _ hm)⟩,fun hk=>?_⟩;rw[hu,hg,if_pos hk];exact⟨rfl,rfl,rfl⟩
end
structure Sm.In(w:World)(m:Sm):Prop where
 k:Rd w m.ka 1 B8 m.s.key
 v:Rd w m.va 1 B8 m.s.val
 kc:m.s.key.length<=m.kc
 vc:m.s.val.length<=m.vc
theorem Rdx.of0{w0 w:World}{M:Mut}{a:Option Addr}{l:Byt}(R:Rd w0 a 1 B8 l)(hx:Ext [] w0 w)(hM:∀x,M x->w0.heap.size<=x):Rdx w M a l:=by
 refine⟨R.ext0 hx,?_⟩
 rcases Pq R (fun _ _=>rfl)with h|h
 .exact .inl h
 .exact .inr fun hm=>by have:=hM _ hm;omega
theorem Sm.In.ok{w0 w:World}{M:Mut}{m:Sm}(h:m.In w0)(hk:m.s.key.length<=200)(hv:m.s.val.length<=500)(hx:Ext [] w0 w)(hM:∀x,M x->w0.heap.size<=x):m.Ok w M :=
 ⟨.of0 h.k hx hM,.of0 h.v hx hM,h.kc,h.vc,hk,hv⟩
def smallS(m:Sm):Prop:=m.s.key.length<=200/\m.s.val.length<=500
def bigS(m:Sm):Bool:=decide (200<m.s.key.length) || decide (500<m.s.val.length)
def heavy7B(l:List Sm):Bool:=(l.take 500).any bigS || decide (300<l.length)
structure Sunk(A0:Dev)(P0:List Nat)(root:Int)(L:List Pr)(A:Dev)(P:List Nat):Prop where
 T:TreeAt 10 A0 P0 root L
 back:P.map DE=P0
 blk:∀q,(∀x:Nat,P0[x]?=some 0->q≠10+x)->A.B.getD q (zeros,[])=A0.B.getD q (zeros,[])
 blen:A.B.length=A0.B.length
section
variable {A0 A A':Dev}{P0 P P':List Nat}{root:Int}{L:List Pr}
theorem Sunk.len(s:Sunk A0 P0 root L A P):P.length=P0.length:=by rw[<-s.back,qaj]
theorem Sunk.pages(s:Sunk A0 P0 root L A P):∃S,Root (RD A0 10) root L S/\S.Nodup/\(∀x:Nat,x∈S↔P0[x]?=some 1\/P0[x]?=some 2)/\(∀x∈S,x<P0.length)/\∀x∈S,A.B.getD (10+x) (zeros,[])=A0.B.getD (10+x) (zeros,[]):=by
 obtain⟨S,h1,h2,h3⟩:=s.T.lies;refine⟨S,h1,h2,h3,fun x hx=>((h3 x).1 hx).elim (fun h=>(qaq.1 h).1) fun h=>(qaq.1 h).1,fun x hx=>s.blk _ fun y hy he=>?_⟩;obtain rfl:x=y:=by omega
 rcases(h3 x).1 hx with h|h
 .rw[hy]at h;cases h
 .rw[hy]at h;cases h
theorem Sunk.told(s:Sunk A0 P0 root L A P)(hon:A.on=true)(hl:10+P.length<=A.B.length)(hP:P.length<=2000):∃S,Told 10 A P root L S:=by
 obtain⟨S,h1,h2,h3,h4,h5⟩:=s.pages;exact⟨S,Go.Proofs.YtcpgbcabmcbclaaGreatDoor.told (h1.frame fun x hx=>by unfold RD;rw[h5 x hx]) hon hl hP h2 (fun x hx=>by rw[s.len];exact h4 x hx) s.T.rise⟩
theorem Sunk.after(s:Sunk A0 P0 root L A P)(af:After 10 A P A' P'):Sunk A0 P0 root L A' P' :=
 ⟨s.T,af.back.trans s.back,fun q hq=>(af.blk q fun x hx=>hq x (by rw[<-s.back,qat,hx];rfl)).trans (s.blk q hq),af.blen.trans s.blen⟩
theorem Sunk.start(T:TreeAt 10 A P root L)(h01:∀s∈P,s=0\/s=1):Sunk A P root L A P:=by
 refine⟨T,?_,fun q _=>rfl,rfl⟩
 have h:∀s∈P,DE s=id s:=fun s hs=>by rcases h01 s hs with rfl|rfl <;> rfl
 rw[qc0 h,List.map_id]
theorem Sunk.calm(s:Sunk A0 P0 root L A P):TreeAt 10 A P0 root L:=by
 obtain⟨S,h1,h2,h3,h4,h5⟩:=s.pages;exact⟨⟨S,h1.frame fun x hx=>by unfold RD;rw[h5 x hx],h2,h3⟩,s.T.rise,s.T.ok⟩
theorem Sunk.crash(s:Sunk A0 P0 root L A P)(hs:∀p∈A0.B,p.2=[])(hl:10+P0.length<=A0.B.length)(picks:List Int):TreeAt 10 (onD (MF A) picks) P0 root L:=by
 obtain⟨S,h1,h2,h3,h4,h5⟩:=s.pages;refine⟨⟨S,h1.frame fun x hx=>?_,h2,h3⟩,s.T.rise,s.T.ok⟩;have hx4:=h4 x hx;have hb:=s.blen;obtain⟨p,hp⟩:=AO (l:=A.B) (i:=10+x);have hp5:=h5 x hx;rw[qa8,hp]at hp5;have hp6:p=A0.B.getD (10+x) (zeros,[]):=hp5;have hp2:p.2=[]:=by rw[hp6];exact hs _ (NW)
 have hk:=SL A.B picks hp;rw[if_pos hp2]at hk;unfold RD;rw[<-hp6,show(onD (MF A) picks).B=Es A.B picks from rfl,qa8,hk];obtain⟨p1,p2⟩:=p;obtain rfl:p2=[]:=hp2;rfl
end
def Tells(A:Dev)(e:Int):Prop:=A.on = !decide (e=8)
theorem Tells.ok{A:Dev}(h:A.on=true){e:Int}(he:e≠8):Tells A e:=by
 unfold Tells;rw[h,qag he];rfl
theorem Tells.on{A:Dev}{e:Int}(h:Tells A e)(he:e≠8):A.on=true:=by
 unfold Tells at h;rw[h,qag he];rfl
theorem Tells.off{A:Dev}(h:Tells A 8):A.on=false:=by
 unfold Tells at h;rw[h];rfl
theorem XZ{A:Dev}(h:A.on=true)(k:Int)(b:Byt):Tells (CE A k b) (Dt A k b):=by
 unfold Tells CE Dt;rw[h]
 cases A.has k && decide (b.length=512)with
 |false=>simpa using h
 |true =>
  cases hg:A.goes with
  |true =>
   have h0:A.left=0:=qb5 hg;show A.less.on=_;unfold Dev.less;rw[if_pos h0];rfl
  |false =>
   have h0:¬A.left=0:=qcx hg;show(Pi A.less k.toNat b).on=_;unfold Pi Dev.less;rw[if_neg h0]
   split
   .exact h
   .exact h
theorem Vg{A:Dev}(h:A.on=true)(fr sz:Nat)(page depth:Int):(Dr A fr sz page depth).1≠8:=by
 have hr:GK A ((fr:Int)+page)≠8:=by
  unfold GK;rw[h];cases A.has ((fr:Int)+page) <;> decide
 unfold Dr
 split
 .exact(show(9:Int)≠8 by decide)
 .split
  .split
   .exact(show(9:Int)≠8 by decide)
   .exact(show(0:Int)≠8 by decide)
  .exact hr
theorem Aet(k:UInt8)(l:List UInt8):GD k l≠8:=by
 unfold GD
 cases decide (k.toNat=0)with
 |true=>exact(show(1:Int)≠8 by decide)
 |false=>cases decide (505<l.length) <;> decide
theorem Vh{fr:Nat}{c:Ch}{i:Bool}{M:List It}(h:c.A.on=true):Tells (wrC fr c i M).2.A (wrC fr c i M).1:=by
 unfold wrC
 split
 .refine .ok h ?_;show Ic c.P≠8;unfold Ic
  split <;> decide
 .split
  .exact .ok h (Aet _ _)
  .exact XZ h _ _
theorem Nn{fr:Nat}{i:Bool}:∀{Hs:List (List It)} {c:Ch} {acc:List It},c.A.on=true->Tells (C4 fr i Hs c acc).2.1.A (C4 fr i Hs c acc).1
 | [],c,acc,h => .ok h (show(0:Int)≠8 by decide)
 |x::Hs,c,acc,h=>by
  have h1:=Vh (fr:=fr) (i:=i) (M:=x) h;unfold C4
  split
  .rename_i h0
   exact Nn (h1.on (by rw[h0];decide))
  .exact h1
theorem Ti{fr:Nat}{c:Ch}{i:Bool}{M:List It}(h:c.A.on=true):Tells (Fa fr c i M).2.1.A (Fa fr c i M).1:=by
 unfold Fa
 cases okM i M with
 |false=>exact .ok h (show(99:Int)≠8 by decide)
 |true =>
  show Tells (JC fr c i M).2.1.A (JC fr c i M).1;unfold JC
  split
  .exact .ok h (show(0:Int)≠8 by decide)
  .exact Nn h
theorem Aad{fr:Nat}{c:Ch}{l:List It}{i d:Nat}{inner:Bool}{kid:List It}(h:c.A.on=true):(EF fr c l i d inner kid).1≠8:=by
 unfold EF
 split
 .split
  .exact(show(9:Int)≠8 by decide)
  .split
   .exact Vg h _ _ _ _
   .exact(show(9:Int)≠8 by decide)
   .exact(show(0:Int)≠8 by decide)
 .exact(show(0:Int)≠8 by decide)
theorem Qv{fr:Nat}{G:List It->List It}{key:Byt}:∀{n:Nat} {c:Ch} {p d:Nat},c.A.on=true->Tells (CM fr G key n c p d).2.1.A (CM fr G key n c p d).1
 |0,c,p,d,h => .ok h (show(9:Int)≠8 by decide)
 |n+1,c,p,d,h=>by
  have hr:=(Ik (fr:=fr) (c:=c) (p:=p) (d:=d)).2.2.1;unfold CM
  split
  .exact .ok h (Vg h _ _ _ _)
  .exact .ok (show(rdC fr c p d).A.on=true by rw[hr];exact h) (show(0:Int)≠8 by decide)
  .rename_i l _
   have h1:=Qv (fr:=fr) (G:=G) (key:=key) (n:=n) (c:=rdC fr c p d) (p:=Cq l (Cf l key)) (d:=d+1) (by rw[hr];exact h);dsimp only
   split
   .exact h1
   .rename_i h0
    have h2:=h1.on (by rw[Classical.not_not.1 h0];decide);obtain⟨b1,b2,b3⟩:=Pz (fr:=fr) (c:=(CM fr G key n (rdC fr c p d) (Cq l (Cf l key)) (d+1)).2.1) (l:=l) (i:=Cf l key) (d:=d) (inner:=(CM fr G key n (rdC fr c p d) (Cq l (Cf l key)) (d+1)).2.2.1) (kid:=(CM fr G key n (rdC fr c p d) (Cq l (Cf l key)) (d+1)).2.2.2)
    split
    .exact .ok (by dsimp only;rw[b3];exact h2) (Aad h2)
    .exact Ti (by rw[b3];exact h2)
theorem Aae{fr:Nat}{c:Ch}{i:Bool}{M:List It}(h:c.A.on=true):Tells (Ef fr c i M).2.1.A (Ef fr c i M).1:=by
 have h1:=Ti (fr:=fr) (i:=i) (M:=M) h;unfold Ef
 split
 .exact .ok h (show(0:Int)≠8 by decide)
 .split
  .exact h1
  .rename_i h0
   have h2:=h1.on (by rw[Classical.not_not.1 h0];decide)
   split
   .exact .ok h2 (show(0:Int)≠8 by decide)
   .split
    .exact Vh h2
    .exact .ok h2 (show(0:Int)≠8 by decide)
theorem Ya{fr:Nat}{A:Dev}{P:List Nat}{root:Int}{key:Byt}{G:List It->List It}(h:A.on=true):Tells (DG fr A P root key G).2.2.A (DG fr A P root key G).1:=by
 obtain⟨ed,hed⟩:=qD (if root = -1 then(0,⟨A,P,[],[]⟩,false,G [])else CM fr G key 18 ⟨A,P,[],[]⟩ root.toNat 0:Int × Ch × Bool × List It)
 have hb:Tells ed.2.1.A ed.1:=by
  rw[hed]
  split
  .exact .ok h (show(0:Int)≠8 by decide)
  .exact Qv h
 have hturn:DG fr A P root key G=if ed.1≠0 then(ed.1,root,DH ed.2.1 ed.1)else if(Ef fr ed.2.1 ed.2.2.1 ed.2.2.2).1≠0 then((Ef fr ed.2.1 ed.2.2.1 ed.2.2.2).1,root,DH (Ef fr ed.2.1 ed.2.2.1 ed.2.2.2).2.1 (Ef fr ed.2.1 ed.2.2.1 ed.2.2.2).1)else(0,(Ef fr ed.2.1 ed.2.2.1 ed.2.2.2).2.2,DH (Ef fr ed.2.1 ed.2.2.1 ed.2.2.2).2.1 0):=by
  unfold DG;rw[hed]
 rw[hturn]
 split
 .exact hb
 .rename_i h0
  have ht:=Aae (fr:=fr) (i:=ed.2.2.1) (M:=ed.2.2.2) (hb.on (by rw[Classical.not_not.1 h0];decide))
  split
  .exact ht
  .rename_i h1
   exact .ok (ht.on (by rw[Classical.not_not.1 h1];decide)) (show(0:Int)≠8 by decide)
structure Res(A:Dev)(P:List Nat)(L':List Pr)(e r':Int)(A':Dev)(P':List Nat)(mx:Nat):Prop where
 aft:After 10 A P A' P'
 few:Few A' mx
 out:(e=0/\A'.on=true/\TreeAt 10 A' P' r' L')\/(e=8/\A.left ≠ -1/\A'.on=false/\P'=P)\/(e=7/\DF P<17/\A'.on=true/\P'=P)
section
variable {A:Dev}{P:List Nat}{root:Int}{L:List Pr}{key val:Byt}{mx:Nat}
end
end Go.Proofs.YtcpgbcabmcbclaaGreatDoor
