/- Part 10 of the proof. -/
import Derived.Test.YtdagmpmdcgedcaaGreatPart9
set_option maxRecDepth 20000
set_option maxHeartbeats 8000000
namespace Go.Proofs.YtdagmpmdcgedcaaGreat
open Go.GV Tryz
theorem Iq(rs:List Int)(os:List Du)(net:Bool):(BX rs os net).length=os.length+if net=true then 0 else 2*rs.length:=by
 unfold BX;rw[qat,qak]
 split
 .rfl
 .rw[YY]
theorem Hu{rs:List Int}{os:List Du}{net:Bool}{i:Nat}{d:Du}(h:os[i]?=some d):(BX rs os net)[i]?=some (KI d):=by
 unfold BX;have hl:=Cb h;rw[qb7 (by rw[qak];exact hl),qa1,h];rfl
theorem LQ{rs:List Int}{os:List Du}{j:Nat}{e:Ed}(h:(Og rs)[j]?=some e):(BX rs os false)[os.length+j]?=some e:=by
 unfold BX;rw[qc4 (by rw[qak];omega),qak,show os.length+j - os.length=j by omega,if_neg (by decide),h]
def Zb(n:Nat)(d:Du):Prop:=mayD d=true/\d.fr<n/\d.to<n
theorem Tt{n:Nat}:∀{os:List Du},(∀d∈os,Zb n d)->((((os.map KI).map GC).sum:Nat):Int)<=1000*Ch (os.map Du.am)
 | [],_=>by show(0:Int)<=1000*0;omega
 |d::os,h=>by
  have ih:=Tt (os:=os) fun e he=>h e (qai _ he);have hm:=C4 (h d (qaj ..)).1;rw[qau,qau,List.sum_cons,qau,BJ];have h1:GC (KI d)<=d.am.toNat*1000:=qes _ (by show(-d.we).natAbs<=1000;omega);have h2:((d.am.toNat:Nat):Int)=d.am:=qek (by omega);have h3:((GC (KI d):Nat):Int)<=d.am*1000:=by omega
  rw[qc5,qdk];omega
theorem Abb{rs:List Int}{os:List Du}{net:Bool}(hn:rs.length<=16)(hm:os.length<=64)(hrs:∀x∈rs,Db x=true)(hos:∀d∈os,Zb rs.length d)(hsum:Ch (os.map Du.am)<=4503599627370496):Cv ((rs.length+1:Nat):Int) (BX rs os net)=true:=by
 have hl:=Iq rs os net;have hE:(BX rs os net).length<=200:=by rw[hl];split <;> omega
 have hall:(BX rs os net).all (EL ((rs.length+1:Nat):Int))=true:=by
  rw[qas];intro e he;unfold BX at he
  rcases qbg.1 he with he|he
  .obtain⟨d,hd,rfl⟩:=qah.1 he;obtain⟨h1,h2,h3⟩:=hos d hd;have:=C4 h1;unfold EL IF KI;simp only[qae,qam];omega
  .split at he
   .cases he
   .unfold Og at he;obtain⟨j,hj,rfl⟩:=qah.1 he;rw[qaz]at hj;obtain⟨r,hr⟩:=AB (l:=rs) (i:=j / 2);have hr2:=CR.1 (hrs r (qac hr));unfold EL IF;rw[Br hr]
    split
    .simp only[qae,qam];omega
    .simp only[qae,qam];omega
 have hp:Fh (BX rs os net)<=4611686018427387904:=by
  unfold Fh BX;rw[qax,List.sum_append];have h1:=Tt hos
  have h2:((if net=true then[]else Og rs).map GC).sum=0:=by
   split
   .rfl
   .unfold Og;rw[qb8]
    have:∀l:List Nat,(l.map (GC ∘ fun j=>if j % 2=0 then(⟨rs.length,(j / 2:Nat),rs.getD (j / 2) 0,0⟩:Ed)else⟨(j / 2:Nat),rs.length,4503599627370496,0⟩)).sum=0:=by
     intro l
     induction l with
     |nil=>rfl
     |cons j l ih =>
      rw[qau,List.sum_cons,ih];show GC (if j % 2=0 then _ else _)+0=0
      split <;> rfl
    exact this _
  rw[h2];omega
 unfold Cv;rw[hall,qal hE,qal hp,qal (show(1:Int)<=((rs.length+1:Nat):Int)by omega),qal (show((rs.length+1:Nat):Int)<=40 by omega)];rfl
theorem QP{g:Gr}{x:Nat->Int}{n m:Nat}(hE:∀k,k<n->(g.f (m+2*k)=n/\g.t (m+2*k)=k)/\g.f (m+2*k+1)=k/\g.t (m+2*k+1)=n){v:Nat}(hv:v<n):∀j,j<=n->Ea g x (m+2*j) v=Ea g x m v+if v<j then x (m+2*v) - x (m+2*v+1)else 0
 |0,_=>by rw[if_neg (by omega)];simp
 |j+1,hj=>by
  obtain⟨⟨h1,h2⟩,h3,h4⟩:=hE j (by omega);rw[show m+2*(j+1)=m+2*j+1+1 by omega,Gd,Gd,h1,h2,h3,h4,QP hE hv j (by omega),E4 (show ¬n=v by omega)]
  by_cases e:j=v
  .subst e;rw[Fj rfl,if_neg (by omega),if_pos (by omega)];omega
  .rw[E4 e]
   by_cases h:v<j
   .rw[if_pos h,if_pos (by omega)];omega
   .rw[if_neg h,if_neg (by omega)];omega
theorem QQ{N:Int}{es:List Ed}{i:Nat}{e:Ed}(h:es[i]?=some e):(grE N es).f i=e.f.toNat:=by show(es.getD i e0).f.toNat=_;rw[Br h]
theorem QR{N:Int}{es:List Ed}{i:Nat}{e:Ed}(h:es[i]?=some e):(grE N es).t i=e.t.toNat:=by show(es.getD i e0).t.toNat=_;rw[Br h]
theorem VJ{N:Int}{es:List Ed}{i:Nat}{e:Ed}(h:es[i]?=some e):(grE N es).co i=e.cost:=by show(es.getD i e0).cost=_;rw[Br h]
def byK(rs:List Int)(os:List Du)(net:Bool)(fl:List Int)(k:Nat):Int:=Ea (grE ((rs.length+1:Nat):Int) (BX rs os net)) (flE fl) os.length k
theorem VK{rs:List Int}{os:List Du}{net:Bool}{fl:List Int}(hrs:∀x∈rs,0<=x)(hos:∀d∈os,Zb rs.length d)(hf:Fi ((rs.length+1:Nat):Int) (BX rs os net) fl=true) :
  PayIn os (fl.take os.length)/\fl.length=(BX rs os net).length/\(∀(k:Nat) (r:Int),rs[k]?=some r->(net=true->byK rs os net fl k=0) /\ -r<=byK rs os net fl k/\byK rs os net fl k<=4503599627370496)/\BQ (byK rs os net fl) rs.length=0:=by
 obtain⟨hw,hz⟩:=ER hf;obtain⟨hl,hr,hin⟩:=Cw hw;have hlen:=Iq rs os net;refine⟨⟨by rw[qbm];omega,fun i d x hd hx=>?_⟩,hl,fun k r hk=>?_,?_⟩
 .have hi:=Cb hd;rw[qb0,if_pos hi]at hx;exact hin i (KI d) x (Hu hd) hx
 .have hkn:=Cb hk;have h0:=hz k (by omega);have hE:(grE ((rs.length+1:Nat):Int) (BX rs os net)).E=(BX rs os net).length:=rfl;unfold BP at h0;rw[hE,hlen]at h0;have hr0:=hrs r (qac hk)
  cases net with
  |true =>
   rw[if_pos rfl,qdx]at h0;have h0':byK rs os true fl k=0:=h0;exact⟨fun _=>h0',by omega,by omega⟩
  |false =>
   rw[if_neg (by decide),QP (x:=flE fl) (n:=rs.length) (fun j hj=>?_) hkn rs.length (qan _),if_pos hkn]at h0
   .obtain⟨y,hy⟩:=AB (l:=fl) (i:=os.length+2*k) (h:=by rw[hl,hlen,if_neg (by decide)];omega);obtain⟨z,hzz⟩:=AB (l:=fl) (i:=os.length+2*k+1) (h:=by rw[hl,hlen,if_neg (by decide)];omega);have h1:=hin _ _ y (LQ (Nn hk)) hy;have h2:=hin _ _ z (by rw[qc2];exact LQ (PA hkn)) hzz;rw[show flE fl (os.length+2*k)=y from Br hy,show flE fl (os.length+2*k+1)=z from Br hzz]at h0;have h0':byK rs os false fl k+(y - z)=0:=h0;dsimp only at h1 h2;exact⟨(fun h=>by cases h),by omega,by omega⟩
   .obtain⟨r',hr'⟩:=AB (h:=hj);have e1:(BX rs os false)[os.length+2*j]?=_:=LQ (Nn hr');have e2:(BX rs os false)[os.length+2*j+1]?=some ⟨j,rs.length,4503599627370496,0⟩:=by rw[qc2];exact LQ (PA hj)
    rw[QQ e1,QR e1,QQ e2,QR e2];dsimp only;omega
 .have:=over_all ⟨rs.length,os.length,(grE ((rs.length+1:Nat):Int) (BX rs os net)).f,(grE ((rs.length+1:Nat):Int) (BX rs os net)).t,fun _=>0⟩ ⟨fun i hi=>?_,fun i hi=>?_⟩ (flE fl)
  .exact this
  .obtain⟨d,hd⟩:=AB (l:=os) (i:=i) (h:=hi);obtain⟨h1,h2,h3⟩:=hos d (qac hd);have:=C4 h1;dsimp only;rw[QQ (Hu hd)];unfold KI;dsimp only;omega
  .obtain⟨d,hd⟩:=AB (l:=os) (i:=i) (h:=hi);obtain⟨h1,h2,h3⟩:=hos d (qac hd);have:=C4 h1;dsimp only;rw[QR (Hu hd)];unfold KI;dsimp only;omega
theorem Abc{xs ys:List Int}(hl:xs.length=ys.length)(hx:∀x∈xs,Db x=true)(hy:∀y∈ys,Hf y=true)(hs:Ch ys=0)(hz:∀z∈Dy xs ys,Db z=true):Ec xs ys=0:=by
 unfold Ec Jh;rw[qal hl,qas.2 hx,qas.2 hy,qal hs,if_neg (by decide),if_neg,if_neg]
 .rw[qas.2 hz];decide
 .rw[qas.2 fun z h=>qal (CR.1 (hz z h)).1];decide
theorem QS:∀{xs ys:List Int},xs.length=ys.length->Ch (Dy xs ys)=Ch xs+Ch ys
 | [],[],_=>rfl
 | [],_::_,h=>by cases h
 |_::_,[],h=>by cases h
 |x::xs,y::ys,h=>by
  have ih:=QS (xs:=xs) (ys:=ys) (by simpa using h);show Ch ((x+y)::Dy xs ys)=_;rw[BJ,BJ,BJ,ih];omega
theorem QT{xs:List Int}(h:∀x∈xs,0<=x):∀x∈xs,x<=Ch xs:=by
 induction xs with
 |nil=>intro x hx;cases hx
 |cons y xs ih =>
  intro x hx;rw[BJ];have h0:=h y (qaj ..);have h1:=FX fun z hz=>h z (qai _ hz)
  rcases qag.1 hx with rfl|hx
  .omega
  .have:=ih (fun z hz=>h z (qai _ hz)) x hx;omega
theorem Cr{acs:List Ac}:EA acs=0↔acs.length<=16/\(∀a∈acs,Jj a=true)/\(EN (acs.map Ac.ba)).2=0:=by
 unfold EA
 by_cases h1:16<acs.length
 .rw[if_pos h1];exact⟨fun h=>by simp at h,fun h=>absurd h.1 (by omega)⟩
 rw[if_neg h1]
 cases h2:acs.all Jj with
 |false =>
  rw[if_pos rfl];refine⟨fun h=>by simp at h,fun h=>?_⟩;rw[qas.2 h.2.1]at h2;cases h2
 |true =>
  rw[if_neg (by decide)];rw[qas]at h2;exact⟨fun h=>⟨by omega,h2,h⟩,fun h=>h.2.2⟩
theorem Fq{a:Ac}:Jj a=true↔(0<=a.ba/\a.ba<=4503599627370496)/\0<=a.re/\a.re<=4503599627370496:=by
 unfold Jj;rw[qae,CR,CR]
theorem Zc{acs:List Ac}{by':Nat->Int}(hs:Ec (acs.map Ac.ba) (tab by' acs.length)=0){k:Nat}{a:Ac}(hk:acs[k]?=some a):(shA acs (tab by' acs.length))[k]?=some ⟨a.ba+by' k,a.re⟩:=by
 unfold shA;rw[if_pos hs,qcw,hk,Cd (Cb hk)]
theorem U9{acs:List Ac}{by':Nat->Int}:(shA acs (tab by' acs.length)).length=acs.length:=by
 unfold shA
 split
 .rw[qck,CY];omega
 .rfl
theorem Lw{acs:List Ac}{by':Nat->Int}(ha:EA acs=0)(hb:∀(k:Nat) (a:Ac),acs[k]?=some a -> -(C9 a)<=by' k/\by' k<=4503599627370496)(hs:BQ by' acs.length=0) :
  Ec (acs.map Ac.ba) (tab by' acs.length)=0/\EA (shA acs (tab by' acs.length))=0:=by
 obtain⟨h1,h2,h3⟩:=Cr.1 ha;obtain⟨h4,h5⟩:=DF.1 h3;have hl:(acs.map Ac.ba).length=(tab by' acs.length).length:=by rw[qak,CY]
 have hsum:Ch (tab by' acs.length)=0:=by rw[V9];exact hs
 have hat:∀z∈Dy (acs.map Ac.ba) (tab by' acs.length),∃k a,acs[k]?=some a/\z=a.ba+by' k:=fun z hz=>by
  obtain⟨k,hk⟩:=qbl.1 hz;have hkl:=Cb hk;unfold Dy at hkl;rw[qck,qak,CY]at hkl;obtain⟨a,hka⟩:=AB (l:=acs) (i:=k);rw[Lr (x:=a.ba) (y:=by' k) (by rw[qa1,hka];rfl) (Cd (by omega))]at hk
  injection hk with hk
  exact⟨k,a,hka,hk.symm⟩
 have hnn:∀z∈Dy (acs.map Ac.ba) (tab by' acs.length),0<=z:=fun z hz=>by
  obtain⟨k,a,hk,rfl⟩:=hat z hz;have:=hb k a hk;have h6:=Fq.1 (h2 a (qac hk));unfold C9 at this;omega
 have htot:=QS hl;rw[hsum]at htot
 have hmay:∀z∈Dy (acs.map Ac.ba) (tab by' acs.length),Db z=true:=fun z hz=>by
  have:=QT hnn z hz;exact CR.2 ⟨hnn z hz,by omega⟩
 have hC:Ec (acs.map Ac.ba) (tab by' acs.length)=0:=by
  refine Abc hl h4 (fun y hy=>?_) hsum hmay;obtain⟨k,hk⟩:=qbl.1 hy;obtain⟨hkl,rfl⟩:=NZ hk;obtain⟨a,hka⟩:=AB (l:=acs) (i:=k) (h:=hkl);have:=hb k a hka;have h6:=Fq.1 (h2 a (qac hka));unfold C9 at this;unfold Hf;rw[qae,qam,qam];omega
 have hmap:(shA acs (tab by' acs.length)).map Ac.ba=Dy (acs.map Ac.ba) (tab by' acs.length):=by
  unfold shA Dy;rw[if_pos hC,List.map_zipWith,List.zipWith_map_left]
 refine⟨hC,Cr.2 ⟨by rw[U9];exact h1,fun a' ha'=>?_,DF.2 ⟨by rw[hmap];exact hmay,by rw[hmap];omega⟩⟩⟩;obtain⟨k,hk⟩:=qbl.1 ha';have hkl:=Cb hk;rw[U9]at hkl;obtain⟨a,hka⟩:=AB (l:=acs) (i:=k) (h:=hkl);have h7:=Zc hC hka;rw[h7]at hk
 injection hk with hk
 subst hk;have h8:Db (a.ba+by' k)=true:=hmay _ (qac (i:=k) (Lr (by rw[qa1,hka];rfl) (Cd hkl)));unfold Jj at *;rw[qae];have:=h2 a (qac hka);rw[qae]at this;exact⟨h8,this.2⟩
structure Bright(rs:List Int)(ds:List Du):Prop where
 n16:rs.length<=16
 may:∀x∈rs,Db x=true
 m64:ds.length<=64
 due:∀d∈ds,Zb rs.length d
 tot:Ch (ds.map Du.am)<=4503599627370496
theorem Hg{rs:List Int}{ds:List Du}(hl:ds.length<=1000000:=by omega):DH rs ds=true↔Bright rs ds:=by
 rw[<-Af2 rs ds hl];unfold Aa8;simp only[qae,qam,qas,Pm];constructor
 .rintro⟨⟨h1,h2⟩,h3,h4,h5⟩;exact⟨h1,h3,h2,fun d hd=>⟨(h4 d hd).1,(h4 d hd).2.1,(h4 d hd).2.2⟩,(DF.1 h5).2⟩
 .rintro⟨h1,h3,h2,h4,h5⟩;refine⟨⟨h1,h2⟩,h3,fun d hd=>⟨(h4 d hd).1,(h4 d hd).2.1,(h4 d hd).2.2⟩,DF.2 ⟨fun x hx=>?_,h5⟩⟩;obtain⟨d,hd,rfl⟩:=qah.1 hx;have:=(C4 (h4 d hd).1).2.2.2.1;exact CR.2 ⟨by omega,this.2⟩
theorem Zd{ds:List Du}{d:Du}(h:d∈opn ds):d∈ds/\d.held=false:=by
 unfold opn at h;rw[qbc]at h;exact⟨h.1,by simpa using h.2⟩
theorem Hv(ds:List Du):(opn ds).length<=ds.length:=qdp _ _
theorem Ze{ds:List Du}(h:∀d∈ds,0<=d.am):Ch ((opn ds).map Du.am)<=Ch (ds.map Du.am):=by
 induction ds with
 |nil=>exact qav _
 |cons d ds ih =>
  have h0:=h d (qaj ..);have ih:=ih fun e he=>h e (qai _ he);rw[Ee,qau,BJ]
  split
  .rw[qbp];omega
  .show Ch (d.am::(opn ds).map Du.am)<=_;rw[BJ];omega
theorem Bright.open'{rs:List Int}{ds:List Du}(h:Bright rs ds):Bright rs (opn ds) :=
 ⟨h.n16,h.may,qbe (Hv ds) h.m64,fun d hd=>h.due d (Zd hd).1,qbj (Ze fun d hd=>by have:=(C4 (h.due d hd).1).2.2.2.1;omega) h.tot⟩
theorem Bright.right{rs:List Int}{ds:List Du}(h:Bright rs ds)(net:Bool):Cv ((rs.length+1:Nat):Int) (BX rs (opn ds) net)=true :=
 Abb h.n16 h.open'.m64 h.may h.open'.due h.open'.tot
theorem MA{acs:List Ac}{ds:List Du}{nx:Int}(ha:EA acs=0)(hd:ofC ds nx=0)(hb:∀d∈ds,d.fr<acs.length/\d.to<acs.length):Bright (acs.map C9) ds:=by
 obtain⟨h1,h2,h3⟩:=Cr.1 ha;obtain⟨h4,h5,h6,h7⟩:=Ge.1 hd;refine⟨by rw[qak];exact h1,fun x hx=>?_,h4,fun d hd'=>⟨(Af9 hd hd').2.2,by rw[qak];exact(hb d hd').1,by rw[qak];exact(hb d hd').2⟩,(DF.1 h7).2⟩;obtain⟨a,ha',rfl⟩:=qah.1 hx;have:=Fq.1 (h2 a ha');unfold C9;exact CR.2 ⟨by omega,by omega⟩
attribute [local irreducible] AN W Wq Wt
theorem VL{P:Program}{e:Env}{w:World}{fn:Func}{R:Value->World->Prop}{a s2 s3:Tmp}{t:TypeId}{p:Addr}{v2 v3:Value}(hr:fn.results=#[.cell a t,.tmp s2,.tmp s3])(ha:e.g a=.pointer (some p))(h2:e.g s2=v2)(h3:e.g s3=v3)(h:Marks e.ds w fun w'=>∃v,(loadVar t p).run P w'=.ok v w'/\R (.tuple #[v,v2,v3]) w'):Vb P fn R .ret e w :=
 Marks.mono (fun w ⟨v,hv,h⟩ tmps ht=>by
  have h1:=(ht a).trans ha;have g2:=(ht s2).trans h2;have g3:=(ht s3).trans h3;rw[qa5]at h1 g2 g3
  exact⟨.tuple #[v,v2,v3],by simp[results,hr,h1,g2,g3,asAddr,hv],h⟩) h
def RoundRes(w:World)(rs:List Int)(ds:List Du)(net:Bool)(v:Value)(w':World):Prop :=
 Ext [] w w'/\((DH rs ds=false/\v=.tuple #[Dx 0 none 0 0,.slice none 0 0,.int .i64 1]) \/
  (DH rs ds=true/\∃aE nE cE vI,v=.tuple #[Dx ((rs.length+1:Nat):Int) aE nE cE,vI,.int .i64 0]/\Sl w w' (.slice aE nE cE) 4 CJ (BX rs (opn ds) net)/\Sl w w' vI 1 U1 ((opn ds).map Du.id)))
def rndJ(ws:World)(b6:Nat)(N:Int)(es:List Ed)(i:Nat)(M:Mt)(w:World):Prop :=
 ∃a c full,(M=fun y=>y∈((b6,Bl 51 [.int .i64 N,.slice a i c])::ent a 59 full).map (·.1))/\Ctx ws [b6] w ((b6,Bl 51 [.int .i64 N,.slice a i c])::ent a 59 full) /\
  OS a i c 4 full ((es.take i).flatMap CJ)/\∀y∈((b6,Bl 51 [.int .i64 N,.slice a i c])::ent a 59 full).map (·.1),y≠ws.heap.size/\y≠ws.heap.size+1
theorem I5(a b:Option Addr)(n c m e:Nat)(rs:List Int)(ds:List Du)(net:Bool)(w:World)(R:Rd w a 1 I1 rs)(hn:rs.length=n)(Rd':Rd w b 7 CM ds)(hm:ds.length=m)(hn2:n<=1000000:=by omega)(hm2:m<=1000000:=by omega):
  Ret prog 179 #[.slice a n c,.slice b m e,.bool net] w (RoundRes w rs ds net):=by
 subst hn hm;obtain⟨w0,rfl,H⟩:=qE w;obtain⟨bb,hbb⟩:=qD (DH rs ds);obtain⟨os,hos⟩:=qD (opn ds);have hol:os.length<=ds.length:=by rw[hos];exact Hv ds
 refine Iv (fn:=f179) func179 U [.slice a rs.length c,.slice b ds.length e,.bool net] U (Ad (AX OQ H ?_));rintro b6 w - H;refine Az U (Af U (qA (Ap (Ad (Ao U (Ao U (Am qB (Aa6 a b _ c _ e rs ds _ (R.ext0 H.ext) U hn2 (Rd'.ext0 H.ext) U hm2) U ?_)))))));rintro v w ⟨rfl,hx14⟩;replace H:=H.call hx14;rw[<-hbb];refine B1 U (qA (Av _ U ?_ ?_))
 .intro h1;replace h1:=Bv h1;refine Ad (BV CG C2 U H at0 U (Bi C2 U U U (by simp[AS]) H at0 U ?_));rintro w H;refine Az U (Af U (qA (A6 (Al (VL U U U U ?_)))));exact⟨_,Ga CG C2 U (fun j v hv=>by rw[An (H.get at0),qa2];exact hv),H.ext,.inl ⟨by rw[<-hbb];exact h1,rfl⟩⟩
 .intro h1;replace h1:=Bw h1;refine Aq (Aa (Ad (Ao U (AU AR U (Aw U U ?_)))));refine Ah DW U (Cz (.int _ _) D9 U U U H at0 (by decide) ?_);rintro w H;refine qA (Ad (Ao U (Am qB (YX b _ e ds _ (Rd'.ext0 H.ext) U hm2) U ?_)));rintro v w F;rw[<-hos]at F;obtain⟨a4,n4,c4,f4,rfl,O4,hb4⟩:=F.ex;have hl4:=O4.llen;rw[QN]at hl4;obtain rfl:os.length=n4:=by omega
  refine Az U (qA (Ap ?_));have hb6:=H.lt at0;have RO:Rd w a4 7 CM os:=OS.rd O4 (fun y hy=>(hb4 y hy).1) (fun _ _=>rfl) (by omega)
  have hROn:os≠[]->(adr a4).block∉[b6]:=fun hne=>by
   obtain⟨q,rfl⟩:=O4.form (qbv.2 hne);have:=(hb4 (q,Bl 67 f4) (qab.2 rfl)).2;rw[qab];show q≠b6;dsimp only at this;omega
  have H4:=H.call F.ext;have hs4:=H4.size;have hl64:=H4.lt at0;obtain⟨w4,rfl⟩:=qD w;have H:=Ctx.lend (L1:=[_]) (L2:=[]) H4;dsimp only[List.map]at H;refine Ad (Ao U (AU BT U (Ae U (qA (Ax (Bn 34326185088 (α:=LSt) (fun t=>[(7,.slice t.a t.i t.c),(25,.int .i64 (t.i:Int))]) (fun t w'=>t.i<=os.length/\OS t.a t.i t.c 1 t.full (((os.take t.i).map Du.id).map HY)/\Ctx w4 [b6] w' ((b6,Bl 51 [.int .i64 ((rs.length:Int)+1),.slice none 0 0])::ent t.a 28 t.full)) (fun t=>os.length - t.i) ⟨0,none,0,[]⟩ U ?_ ?_ ?_))))))
  .exact⟨rfl,rfl,trivial⟩
  .exact⟨qaf _,OS.nil,H⟩
  .clear H;rintro⟨i,a2,c2,full⟩ jj w ⟨hi,O,H⟩;dsimp only at hi O H;dsimp only;refine Ad (AZ U U (qA (Ap (Av _ U ?_ ?_))))
   .intro h3;replace h3:=AJ h3;obtain⟨d,hd⟩:=AB (l:=os) (i:=i);refine Aq (Aa (Ap (Ax (Ad (AM RO BT BC U U (by rfl) ?_)))));refine Ca _ EF BC U U ((RO.ext' H.ext hROn).row hd U) (AX DR H ?_);rintro b10 w - H;refine Bi BC U U U (by exact Dt _) H at0 U ?_;rintro w H;refine qA (Ay (Ao U (Ah Hr U (AG BL U H at0 U (Cs _ (.int _ _) BA Bx Qy U U U U H ?_)))));rintro b32 w - H;refine C3 (L:=[_,_]) BA BA Bx Yz Qy U U U H O U (by simp[AS]) ?_;rintro a' c' full' w H O;refine Az U (Ab (A7 (Aa (Ay (Aw U U ?_)))));refine Ae U (qA ?_);exact⟨⟨i+1,a',c',full'⟩,rfl,⟨rfl,rfl,trivial⟩,⟨by dsimp only;omega,by dsimp only;rw[JM hd,qax];exact O,H.tail⟩,by dsimp only;omega⟩
   .intro h3;replace h3:=AK h3;obtain rfl:i=os.length:=by omega
    rw[qbf]at O;refine Be (Aj (Aj (AH (Aa (Ap (Ad (Ao U (Ao U (Au U (Am qB (Aa7 a a4 _ c _ c4 net _) U ?_))))))))));rintro v w ⟨x1,x2,x3,rfl,H10⟩;have H5:=H.call H10.ext;refine qA (Ax ?_);have RI0:Rd w a2 1 U1 (os.map Du.id):=O.rd1 fun x hx=>H5.blk x (qai _ hx)
    have hRIn:os.map Du.id≠[]->w4.heap.size<=(adr a2).block:=fun hne=>by
     obtain⟨q,rfl⟩:=O.form (by have:=qbv.2 hne;rw[qak]at this;exact this)
     rcases H.own (q,Bl 28 full) (qai _ (qab.2 rfl))with h|h
     .exact absurd (qab.1 h) fun h=>H.ne (i:=1) (j:=0) rfl rfl (by decide) h
     .exact h
    have hk1:=H10.get at1;have hk2:=H10.get at0;have hk3:=H10.get at2;have ho1:=(H10.own _ (qac at1)).elim (fun h=>by cases h) id;have ho2:=(H10.own _ (qac at0)).elim (fun h=>by cases h) id;have ho3:=(H10.own _ (qac at2)).elim (fun h=>by cases h) id;dsimp only at ho1 ho2 ho3;have hl6:=H.lt at0;have hs5:=H5.size;have hx5:=H4.ext.then H5.ext fun x hx => .inr (by rw[qab.1 hx];exact(H4.own _ (qac at0)).elim (fun h=>by cases h) id);have hb60:w0.heap.size<=b6:=(H4.own _ (qac at0)).elim (fun h=>by cases h) id;have RR:=R.ext0 hx5;have RO5:=RO.ext' H5.ext hROn
    have hwe:∀d∈os,-1000000000<=d.we/\d.we<=1000000000:=fun d hd=>by
     rw[hbb]at h1;have hB:=(Hg).1 h1;rw[hos]at hd;have:=(C4 (hB.due d (Zd hd).1).1).2.2.2.2.1;omega
    obtain⟨ws,rfl⟩:=qD w;have H:=Ctx.lend (L1:=[_]) (L2:=_) H5;dsimp only[List.map]at H;obtain⟨es,hes⟩:=qD (BX rs os net)
    have hnR:rs≠[]->(adr a).block∉[b6]:=fun hne=>by
     have:=R.lt' (fun _ _=>rfl) (by decide) hne;rw[qab];omega
    have heL:es.length<=3000000:=by rw[hes,Iq];split <;> omega
    refine Px (gf:=240) U qB (XE (b1:=x1) (b2:=x2) (b3:=x3) (a:=a) (b:=a4) (c:=c) (e:=c4) (rs:=rs) (ds:=os) (net:=net) U U hn2 hwe) (by kernel_rfl) (by kernel_rfl) (fun v hv=>by obtain⟨p,-,rfl⟩:=qah.1 hv;rfl)
     (rndJ ws b6 ((rs.length:Int)+1) es) (fun _=>False) (by simp)
     (fun w2 hx2 _=>⟨_,none,0,[],rfl,H.call hx2,OS.nil,by simp[ent];omega⟩)
     (fun i M w' w'' hJ hx=>?_) (fun _ _ h _=>h) (fun i M w' hJ=>?_) ?_ ?_ (fun _ h _=>h.elim)
    .obtain⟨a7,c7,f7,hM,HJ,O7,hne⟩:=hJ;refine⟨a7,c7,f7,hM,HJ.step hx (fun y hy hy2=>?_) (fun x hx => .inr ?_),O7,hne⟩
     .have:=hne _ (qa8 (f:=(·.1)) hy);simp only[qag,qar,or_false]at hy2;omega
     .simp only[qag,qar,or_false]at hx;omega
    .obtain⟨a7,c7,f7,hM,HJ,O7,hne⟩:=hJ;refine⟨fun x hx=>?_,HJ.ext.to hk1 (by rw[qab];omega),HJ.ext.to hk2 (by rw[qab];omega),HJ.ext.to hk3 (by rw[qab];omega),RR.ext' HJ.ext hnR,RO5.ext' HJ.ext hROn⟩;rw[hM]at hx;obtain⟨y,hy,rfl⟩:=qah.1 hx;exact⟨Bf (HJ.blk y hy),hne _ hx⟩
    .rintro i v M w hxv ⟨a7,c7,f7,rfl,HJ,O7,hne⟩ hsz;rw[qa1]at hxv;obtain⟨ed,hed,rfl⟩:=qdn.1 hxv;rw[<-hes]at hed;have hil:=Cb hed;obtain⟨w1,rfl,H⟩:=qE w;refine Ay (AX GY H ?_);rintro b11 w - H;refine Bi CW U U U (by exact GO _) H at0 U ?_;rintro w H;refine Ab ?_;refine⟨H.ext,fun wB hxB=>?_⟩;have hb11:=(H.own _ (qaj ..)).elim (fun h=>by cases h) id;dsimp only at hb11;have hs1:=H.size;have hsB:=hxB.size
     have HB:=(HJ.callAdd H.ext (H.get at0) hb11).step hxB (fun y hy=>by
      rw[qab]
      rcases qag.1 hy with rfl|hy
      .dsimp only;omega
      .exact(hne _ (qa8 (f:=(·.1)) hy)).2) (fun z hz => .inr (by rw[qab.1 hz];omega))
     obtain⟨w2,rfl⟩:=qD wB;rw[<-qa4 (_::_::ent a7 59 f7)]at HB;have H:=Ctx.lend (L1:=_::_::ent a7 59 f7) (L2:=[]) HB;obtain⟨SS,hSS⟩:=qD (((b11,Bl 59 (CJ ed))::(b6,Bl 51 [.int .i64 ((rs.length:Int)+1),.slice a7 i c7])::ent a7 59 f7).map (·.1));rw[<-hSS]at H;refine Ax (Ay (Ah C8 U (AG DO U H at1 U (BV Je CW U H at0 U (Cs _ (.agg _) CU CW GY U U U U H ?_)))));rintro b43 w - H;refine C3 (L:=[_,_]) CU CU CW Ac4 GY U U U H O7 U (GO ed) ?_;rintro a' c' full' w H O;refine Ah C8 U (Cz (.slice _ _ _) Amc U U U H at1 (by(simp;done)) ?_);rintro w H;refine Ab (A7 ?_);rw[hSS]at H;have HE:=H.ext;have HH:=Ctx.back HB H;rw[qa4]at HH;refine⟨_,⟨a',c',full',rfl,HH.tail,by rw[qbt,hed,qb1];exact O,fun y hy=>?_⟩,fun y hy=>?_,_,HE,fun y hy=>?_⟩
     .obtain⟨z,hz,rfl⟩:=qah.1 hy
      rcases H.own z (qai _ hz)with h|h
      .rcases qag.1 h with h|h
       .dsimp only at h;omega
       .exact hne _ h
      .have:=hxB.size;have:=H.ext.size;omega
     .obtain⟨z,hz,rfl⟩:=qah.1 hy
      rcases H.own z (qai _ hz)with h|h
      .rcases qag.1 h with h|h
       .exact .inr (by dsimp only at h;omega)
       .exact .inl h
      .exact .inr (by have:=hxB.size;omega)
     .rcases qag.1 hy with h|h
      .exact .inr (by dsimp only at h;omega)
      .exact .inl h
    .rintro M w ⟨a7,c7,f7,rfl,HJ,O7,hne⟩ hD;rw[qak,<-hes]at HJ O7 hne;rw[qbf]at O7;have H:=HJ;obtain⟨w1,rfl⟩:=qD w;rw[<-qa4 (_::ent a7 59 f7)]at HJ;have H:=Ctx.lend (L1:=_::ent a7 59 f7) (L2:=[]) HJ;obtain⟨SS,hSS⟩:=qD (((b6,Bl 51 [.int .i64 ((rs.length:Int)+1),.slice a7 es.length c7])::ent a7 59 f7).map (·.1));rw[<-hSS]at H hne;have hDn:ws.heap.size∉SS:=fun h=>(hne _ h).1 rfl;refine A7 (Aa (Ad (BV CG C2 U H at0 U (Ao U (Bi C2 U U U (by simp[AS]) H at0 U ?_)))));rintro w H;refine Az U (Af U (qA (A6 (VL U U U U ?_))));refine Iw (H.ext.to hD hDn) U fun wF hxF=>?_;rw[hSS]at H;have HH:=Ctx.back HJ H;rw[qa4]at HH;rw[hSS]at hne;have HF:=HH.step hxF (fun y hy h=>(hne _ (qa8 (f:=(·.1)) hy)).1 (qab.1 h)) (fun z hz => .inr (by rw[qab.1 hz];omega))
     have hown:∀y∈((b6,Bl 51 [.int .i64 ((rs.length:Int)+1),.slice a7 es.length c7])::ent a7 59 f7),w0.heap.size<=y.1:=fun y hy=>by
      rcases HF.own y hy with h|h
      .rw[qab.1 h];exact hb60
      .have:=hx5.size;omega
     have hxx:=hx5.then HF.ext fun x hx => .inr (by rw[qab.1 hx];exact hb60);refine⟨_,Ga CG C2 U (fun j v hv=>by rw[An (HF.get at0),qa2];exact hv),hxx,.inr ⟨by rw[<-hbb];exact h1,a7,es.length,c7,.slice a2 os.length c2,rfl,?_,?_⟩⟩
     .rw[<-hos,<-hes];refine⟨a7,c7,rfl,O7.le,OS.rd O7 (fun x hx=>HF.blk x (qai _ hx)) (fun _ _=>rfl) (by decide),fun hne'=>?_⟩;obtain⟨q,rfl⟩:=O7.form (qbv.2 hne');exact hown (q,Bl 59 f7) (qai _ (qab.2 U))
     .rw[<-hos];have hd4:os.map Du.id≠[]->w4.heap.size<=(adr a2).block:=hRIn;refine⟨a2,c2,by rw[qak],by rw[qak];exact O.le,RI0.ext' HF.ext (fun hne'=>?_),fun hne'=>?_⟩
      .have:=hRIn hne';rw[qab];omega
      .have:=hRIn hne';omega
theorem Jk(N:Int)(a:Option Addr)(n c:Nat)(es:List Ed)(w:World)(R:Rd w a 4 CJ es)(hn:es.length=n)(hn2:n<=1000000):Ret prog 73 #[Dx N a n c] w fun v w'=>v=.bool (Cv N es)/\Ext [] w w':=by
 subst hn;obtain⟨w0,rfl,H⟩:=qE w;refine A2 (fn:=f73) func73 U [Dx N a es.length c] U (Ad (Bu [.int .i64 N,.slice a es.length c] (.agg _) U U H ?_));rintro b1 w - H;refine Ai U (qA (Ap (Ad (B9 (α:=Unit) 1048512 (fun _=>[(19,.bool (!((decide (1<=N) && decide (N<=40)) && decide (es.length<=200))))]) (fun _ w'=>Ctx w0 [] w' [(b1,Bl 51 [.int .i64 N,.slice a es.length c])]) U ?_ ?_))))
 .refine Ah DW U (AG B6 U H at0 U (AZ U U (Au U (AE 9 U ?_ ?_))))
  .intro h1;replace h1:=AJ h1;refine Ag U (Ag U (Ag U (A8 U (.bool _) U (Au U (Ag U (Ag U (Ag U (Ag U (A8 U (.bool _) U ?_)))))))));refine Ab ?_;exact⟨rfl,(),rfl,⟨qaa Value.bool (by rw[qad];simp_all;try omega),trivial⟩,H⟩
  .intro h2;replace h2:=AK h2;refine Ah DW U (AG B6 U H at0 U (Cp U U (AA U (.bool _) U (Au U (AE 14 U ?_ ?_)))))
   .intro h3;replace h3:=AJ h3;refine Ag U (Ag U (Ag U (Ag U (A8 U (.bool _) U (Ab ?_)))));exact⟨rfl,(),rfl,⟨qaa Value.bool (by rw[qad];simp_all;try omega),trivial⟩,H⟩
   .intro h4;replace h4:=AK h4;refine Ah C8 U (AG DO U H at0 U (AU CU U (Cp U U (AA U (.bool _) U (Ab ?_)))));exact⟨rfl,(),rfl,⟨qaa Value.bool (by rw[qad];simp_all;try omega),trivial⟩,H⟩
 rintro - j19 w H;refine Av _ U ?_ ?_
 .intro h1;replace h1:=Bv h1;refine Ad (Ai U (qA (A6 (Al (AD (v:=(.bool _)) U U U ?_)))));exact⟨qaa Value.bool (by unfold Cv;rw[<-qdd,show((decide (1<=N) && decide (N<=40)) && decide (es.length<=200))=false by simpa using h1];rfl),H.ext⟩
 .intro h1;replace h1:=Bw h1;have h1':((decide (1<=N) && decide (N<=40)) && decide (es.length<=200))=true:=by simpa using h1
  have hrN:Cv N es=(es.all (EL N) && decide (Fh es<=4611686018427387904)):=by unfold Cv;rw[<-qdd,h1'];rfl
  refine Aq (Aa (Ad (Af U (qA (Ap (Ad (Af U (qA (Ax (Bn 2417851639229258348363836 (α:=Nat) (fun i=>[(3,.int .i64 ((Fh (es.take i):Nat):Int)),(4,.int .i64 (i:Int))]) (fun i w'=>i<=es.length/\Ctx w0 [] w' [(b1,Bl 51 [.int .i64 N,.slice a es.length c])]/\Fh (es.take i)<=4611686018427387904/\∀(k:Nat) (e:Ed),k<i->es[k]?=some e->EL N e=true) (fun i=>es.length - i) 0 U ?_ ?_ ?_))))))))))
  .exact⟨rfl,rfl,trivial⟩
  .exact⟨qaf _,H,qaf _,fun k e h=>absurd h (qaw _)⟩
  .rintro i j w ⟨hi,H,hpr,hb⟩;refine Ap (Ad (Ae U (Ah C8 U (AG DO U H at0 U (AU CU U (AZ U U (qA (Av _ U ?_ ?_))))))))
   .intro h2;replace h2:=AJ h2;obtain⟨e,he⟩:=AB (l:=es) (i:=i);have hps:=Q6 he;have hpt:=Q7 es (i+1);refine Aq (Aa (Ap (Ax (Ad (Ah C8 U (AG DO U H at0 U (Ae U (AM R CU CW U U (by rfl) ?_))))))));refine Ca _ Je CW U U ((R.ext0 H.ext).row he U) (AX GY H ?_);rintro b5 w - H;refine Bi CW U U U (by exact GO _) H at0 U ?_;rintro w H;refine qA (Ap (Ad (B9 (α:=Unit) 18446744069414584320 (fun _=>[(63,.bool (!EL N e))]) (fun _ w'=>Ctx w0 [] w' [(b5,Bl 59 (CJ e)),(b1,Bl 51 [.int .i64 N,.slice a es.length c])]) U ?_ ?_)))
    .refine BV CG C2 U H at1 U (Ah EX U (AG B6 U H at0 U (Am qB (VG N a es.length c e.f _) U ?_)));rintro v w ⟨rfl,hx35⟩;replace H:=H.call hx35;refine B1 U (Au U (AE 37 U ?_ ?_))
     .intro h5;replace h5:=Bv h5;refine Ag U (Ag U (Ag U (Ag U (Ag U (A8 U (.bool _) U (Au U (Ag U (Ag U (Ag U ?_)))))))));refine A8 U (.bool _) U (Au U (Ag U (Ag U (Ag U (A8 U (.bool _) U (Au U (Ag U (Ag U (Ag U ?_)))))))));refine A8 U (.bool _) U (Au U (Ag U (Ag U (Ag U (A8 U (.bool _) U (Ab ?_))))));exact⟨rfl,(),rfl,⟨qaa Value.bool (by unfold EL;unfold Nq at *;unfold IF;rw[qad];simp_all;try omega),trivial⟩,H⟩
     .intro h6;replace h6:=Bw h6;refine BV CG C2 U H at1 U (Ah EY U (AG B6 U H at0 U (Am qB (VG N a es.length c e.t _) U ?_)));rintro v w ⟨rfl,hx41⟩;replace H:=H.call hx41;refine B1 U (AA U (.bool _) U (Au U (AE 44 U ?_ ?_)))
      .intro h7;replace h7:=Bv h7;refine Ag U (Ag U (Ag U (A8 U (.bool _) U (Au U (Ag U (Ag U (Ag U (A8 U (.bool _) U (Au U ?_)))))))));refine Ag U (Ag U (Ag U (A8 U (.bool _) U (Au U (Ag U (Ag U (Ag U (A8 U (.bool _) U (Ab ?_)))))))));exact⟨rfl,(),rfl,⟨qaa Value.bool (by unfold EL;unfold Nq at *;unfold IF;rw[qad];simp_all;try omega),trivial⟩,H⟩
      .intro h8;replace h8:=Bw h8;refine Ah DX U (AG Bm U H at0 U (AZ U U (AA U (.bool _) U (Au U (AE 49 U ?_ ?_)))))
       .intro h9;replace h9:=AJ h9;refine Ag U (Ag U (Ag U (A8 U (.bool _) U (Au U (Ag U (Ag U (Ag U (A8 U (.bool _) U (Au U ?_)))))))));refine Ag U (Ag U (Ag U (A8 U (.bool _) U (Ab ?_))));exact⟨rfl,(),rfl,⟨qaa Value.bool (by unfold EL;unfold Nq at *;unfold IF;rw[qad];simp_all;try omega),trivial⟩,H⟩
       .intro h10;replace h10:=AK h10;refine Ah DX U (AG Bm U H at0 U (Cp U U (AA U (.bool _) U (Au U (AE 54 U ?_ ?_)))))
        .intro h11;replace h11:=AJ h11;refine Ag U (Ag U (Ag U (A8 U (.bool _) U (Au U (Ag U (Ag U (Ag U (A8 U (.bool _) U (Ab ?_)))))))));exact⟨rfl,(),rfl,⟨qaa Value.bool (by unfold EL;unfold Nq at *;unfold IF;rw[qad];simp_all;try omega),trivial⟩,H⟩
        .intro h12;replace h12:=AK h12;refine Ah EZ U (AG Bm U H at0 U (AZ U U (AA U (.bool _) U (Au U (AE 59 U ?_ ?_)))))
         .intro h13;replace h13:=AJ h13;refine Ag U (Ag U (Ag U (A8 U (.bool _) U (Ab ?_))));exact⟨rfl,(),rfl,⟨qaa Value.bool (by unfold EL;unfold Nq at *;unfold IF;rw[qad];simp_all;try omega),trivial⟩,H⟩
         .intro h14;replace h14:=AK h14;refine Ah EZ U (AG Bm U H at0 U (Cp U U (AA U (.bool _) U (Ab ?_))));exact⟨rfl,(),rfl,⟨qaa Value.bool (by unfold EL;unfold Nq at *;unfold IF;rw[qad];simp_all;try omega),trivial⟩,H⟩
    rintro - j63 w H;refine Av _ U ?_ ?_
    .intro h3;replace h3:=Bv h3;refine Ad (Ai U (qA (A6 (Al (A5 (Al (Al (A5 (Al (AD (v:=(.bool _)) U U U ?_))))))))));exact⟨qaa Value.bool (by rw[hrN,Dw he (by simpa using h3)];rfl),H.ext⟩
    .intro h3;replace h3:=Bw h3;have h3':EL N e=true:=by simpa using h3
     obtain⟨-,-,-,-,q1,q2,q3,q4⟩:=Em h3';obtain⟨cp,hcp⟩:∃cp:Nat,e.cap=(cp:Int):=⟨e.cap.toNat,by omega⟩;have hpe:GC e=cp*e.cost.natAbs:=by unfold GC;rw[hcp,qa7]
     have hpm:GC e<=4503599627370496*1000:=by rw[hpe];exact qeh (by omega) (by omega)
     have hmx:e.cap*max e.cost (-e.cost)=((GC e:Nat):Int):=by
      rw[hpe,hcp,qdm]
      congr 1
      omega
     refine Aq (Aa (Ad (Ae U (Ah DX U (AG Bm U H at0 U (Ah EZ U (AG Bm U H at0 U (Ah EZ U (AG Bm U H at0 U (JZ U U ?_))))))))));refine Jc U U (D8 U U (h1:=by rw[hmx];omega) (h2:=by rw[hmx];omega) ?_);rw[hmx];refine Aw U U ?_;rw[<-qc5,<-hps];refine Af U (qA (Ad (B9 (α:=Unit) 2380072707366301187702784 (fun _=>[(80,.bool (!decide (Fh (es.take (i+1))<=4611686018427387904)))]) (fun _ w'=>Ctx w0 [] w' [(b5,Bl 59 (CJ e)),(b1,Bl 51 [.int .i64 N,.slice a es.length c])]) U ?_ ?_)))
     .refine Ae U (AZ U U (Au U (AE 77 U ?_ ?_)))
      .intro h15;replace h15:=AJ h15;refine Ag U (Ag U (A8 U (.bool _) U (Ab ?_)));exact⟨rfl,(),rfl,⟨qaa Value.bool (by rw[qad];simp_all;try omega),trivial⟩,H⟩
      .intro h16;replace h16:=AK h16;refine Ae U (Cp U U (AA U (.bool _) U (Ab ?_)));exact⟨rfl,(),rfl,⟨qaa Value.bool (by rw[qad];simp_all;try omega),trivial⟩,H⟩
     rintro - j80 w H;refine Av _ U ?_ ?_
     .intro h4;replace h4:=Bv h4;refine Ad (Ai U (qA (A6 (A5 (Al (Al (A5 (Al (AD (v:=(.bool _)) U U U ?_)))))))));have h4':¬Fh (es.take (i+1))<=4611686018427387904:=by simpa using h4
      exact⟨qaa Value.bool (by rw[hrN,qay (show ¬Fh es<=4611686018427387904 by omega),qcn]),H.ext⟩
     .intro h4;replace h4:=Bw h4;have h4':Fh (es.take (i+1))<=4611686018427387904:=by simpa using h4
      refine Aq (A7 (Aa (Ay (Ae U (Aw U U ?_)))));refine Af U (qA ?_);refine⟨i+1,rfl,⟨rfl,rfl,trivial⟩,⟨by omega,H.tail,h4',fun k y hk hy=>?_⟩,by omega⟩
      rcases qap k i with h7|h7
      .exact hb k y h7 hy
      .obtain rfl:k=i:=by omega
       rw[he]at hy;cases hy;exact h3'
   .intro h2;replace h2:=AK h2;refine Be (Aj (Aj (AH (Aa (Ad (Ai U (qA (A6 (AD (v:=(.bool _)) U U U ?_)))))))));rw[qcf (by omega)]at hpr;exact⟨qaa Value.bool (by rw[hrN,Eb fun k x hk hx=>hb k x (by omega) hx,qal hpr];rfl),H.ext⟩
theorem Ku(N:Int)(a b:Option Addr)(n c m d:Nat)(es:List Ed)(fl:List Int)(w:World)(R:Rd w a 4 CJ es)(hn:es.length=n)(hn2:n<=1000000)(Rf:Rd w b 1 I1 fl)(hm:fl.length=m)(hm2:m<=1000000) :
  Ret prog 126 #[Dx N a n c,.slice b m d] w fun v w'=>v=.bool (Cf N es fl)/\Ext [] w w':=by
 subst hn hm;obtain⟨w0,rfl,H⟩:=qE w;refine A2 (fn:=f126) func126 U [Dx N a es.length c,.slice b fl.length d] U (Ad (Bu [.int .i64 N,.slice a es.length c] (.agg _) U U H ?_));rintro b2 w - H;refine Ai U (qA (Ap (Ad (B9 (α:=Unit) 131008 (fun _=>[(16,.bool (!(decide (fl.length=es.length) && Cv N es)))]) (fun _ w'=>Ctx w0 [] w' [(b2,Bl 51 [.int .i64 N,.slice a es.length c])]) U ?_ ?_))))
 .refine BV CG C2 U H at0 U (Am qB (Jk N a es.length c es _ (R.ext0 H.ext) U hn2) U ?_);rintro v w ⟨rfl,hx7⟩;replace H:=H.call hx7;refine B1 U (Au U (AE 9 U ?_ ?_))
  .intro h1;replace h1:=Bv h1;refine Ag U (Ag U (Ag U (Ag U (Ag U (Ag U (A8 U (.bool _) U (Ab ?_)))))));exact⟨rfl,(),rfl,⟨qaa Value.bool (by rw[qad];simp_all;try omega),trivial⟩,H⟩
  .intro h2;replace h2:=Bw h2;refine Ao U (AU AR U (Ah C8 U (AG DO U H at0 U (AU CU U (C0 U U (AA U (.bool _) U (Ab ?_)))))));exact⟨rfl,(),rfl,⟨qaa Value.bool (by rw[qad];simp_all;try omega),trivial⟩,H⟩
 rintro - j16 w H;refine Av _ U ?_ ?_
 .intro h1;replace h1:=Bv h1;refine Ad (Ai U (qA (A6 (Al (AD (v:=(.bool _)) U U U ?_)))));exact⟨qaa Value.bool (by unfold Cf;rw[show(decide (fl.length=es.length) && Cv N es)=false by simpa using h1];rfl),H.ext⟩
 .intro h1;replace h1:=Bw h1;have h1':(decide (fl.length=es.length) && Cv N es)=true:=by simpa using h1
  have hw:Cf N es fl=(List.zipWith inB es fl).all id:=by unfold Cf;rw[h1'];rfl
  have hle:fl.length=es.length:=by simp only[qae,qam]at h1';exact h1'.1
  refine Aq (Aa (Ap (Ad (Af U (qA (Ax (Bn 2199023124528 (α:=Nat) (fun i=>[(5,.int .i64 (i:Int))]) (fun i w'=>i<=fl.length/\Ctx w0 [] w' [(b2,Bl 51 [.int .i64 N,.slice a es.length c])]/\∀(k:Nat) (e:Ed) (x:Int),k<i->es[k]?=some e->fl[k]?=some x->inB e x=true) (fun i=>fl.length - i) 0 U ?_ ?_ ?_)))))))
  .exact⟨rfl,trivial⟩
  .exact⟨qaf _,H,fun k e x h=>absurd h (qaw _)⟩
  .rintro i j w ⟨hi,H,hb⟩;refine Ap (Ad (Ae U (Ao U (AU AR U (AZ U U (qA (Av _ U ?_ ?_)))))))
   .intro h2;replace h2:=AJ h2;obtain⟨e,he⟩:=AB (l:=es) (i:=i);obtain⟨x,hx⟩:=AB (l:=fl) (i:=i)
    have hnext:inB e x=true->∀(k:Nat) (f:Ed) (y:Int),k<i+1->es[k]?=some f->fl[k]?=some y->inB f y=true:=fun h3 k f y hk hf hy=>by
     rcases qap k i with h7|h7
     .exact hb k f y h7 hf hy
     .obtain rfl:k=i:=by omega
      rw[he]at hf;rw[hx]at hy;cases hf;cases hy;exact h3
    have hbad:inB e x=false->Cf N es fl=false:=fun h3=>by rw[hw,Dw (M8 he hx) (show id (inB e x)=false from h3)]
    have hxf:=hx;refine Aq (Aa (Ap (Ax (C1 [([0,1,2,3,4,5,6,7,8,9,10,11,12,13,14,15,16],17)] (fun z=>Ext [] w0 z/\z.heap[b2]?=some (Bl 51 [.int .i64 N,.slice a es.length c])) [] Bs (⟨H.drew.ext,H.drew.get at0⟩) ?_))));refine AO U U (B4 U (Bg U (C5 Rf AR Bt U U (by rfl) ?_)));refine B5 Bm U (fun _ hx=>((Rf.ext0 hx.1).fld hxf rfl (j:=0) rfl)) (Alk U U U (MR U U (Qb 28 U ?_ ?_)))
    .intro g1;replace g1:=AJ g1;refine F3 U (F3 U (F3 U (F3 U (F3 U (F3 U (F3 U (F3 U (F3 U (F3 U ?_)))))))));refine F3 U (Bb ?_);replace H:=H.drew;refine A8 U (.bool _) U (Ab (BR (⟨H.ext,H.get at0⟩) (BK (D4 U (Ad (Ai U (qA (A6 (A5 (Al (Al (A5 (Al (AD (v:=(.bool _)) U U U ?_))))))))))))));exact⟨qaa Value.bool (hbad (by unfold inB;rw[qay (show ¬0<=x by omega)];rfl)).symm,H.ext⟩
    .intro g1;replace g1:=AK g1;refine B4 U (Bg U (C5 Rf AR Bt U U (by rfl) ?_));refine B5 Bm U (fun _ hx=>((Rf.ext0 hx.1).fld hxf rfl (j:=0) rfl)) ?_;refine A1 C8 U (B5 DO U (fun _ hx=>(by rw[An (hx.2)];rfl)) ?_);refine Bg U (C5 R CU CW U U (by rfl) ?_);refine A1 DX U (B5 Bm U (fun _ hx=>((R.ext0 hx.1).fld he rfl (j:=2) rfl)) ?_);refine Acn U U U (Bb ?_);replace H:=H.drew;refine AA U (.bool _) U (Ab (BR (⟨H.ext,H.get at0⟩) (BK (Av _ U ?_ ?_))))
     .intro g2;replace g2:=AJ g2;refine Ad (Ai U (qA (A6 (A5 (Al (Al (A5 (Al (AD (v:=(.bool _)) U U U ?_)))))))));exact⟨qaa Value.bool (hbad (by unfold inB;rw[qay (show ¬x<=e.cap by omega),qcn])).symm,H.ext⟩
     .intro g2;replace g2:=AK g2;refine Aq (A7 (Aa (Ay (Ae U (Aw U U ?_)))));refine Af U (qA ?_);exact⟨i+1,rfl,⟨rfl,trivial⟩,⟨by omega,H,hnext (by unfold inB;rw[qal (show 0<=x by omega),qal (show x<=e.cap by omega)];rfl)⟩,by omega⟩
   .intro h2;replace h2:=AK h2;refine Be (Aj (Aj (AH (Aa (Ad (Ai U (qA (A6 (AD (v:=(.bool _)) U U U ?_)))))))));refine⟨qaa Value.bool ?_,H.ext⟩;rw[hw,Eb fun k x hk hx=>?_];rw[qck]at hk;obtain⟨e,he⟩:=AB (l:=es) (i:=k);obtain⟨y,hy⟩:=AB (l:=fl) (i:=k);rw[M8 he hy]at hx;cases hx;exact hb k e y (by omega) he hy
def ovI(g:Gr)(x:Nat->Int)(v i q:Nat):Int:=if q<v then BP g x q else if q=v then Ea g x i v else 0
theorem Agb(g:Gr)(x:Nat->Int)(q:Nat):ovI g x 0 0 q=0:=by
 unfold ovI;rw[if_neg (by omega)]
 split
 .rfl
 .rfl
theorem Ake(g:Gr)(x:Nat->Int)(v q:Nat):ovI g x v g.E q=ovI g x (v+1) 0 q:=by
 unfold ovI
 by_cases h:q<v
 .rw[if_pos h,if_pos (by omega)]
 .rw[if_neg h]
  by_cases h2:q=v
  .subst h2;rw[if_pos rfl,if_pos (by omega)];rfl
  .rw[if_neg h2,if_neg (by omega)]
   split <;> rfl
theorem UA(g:Gr)(x:Nat->Int)(v i:Nat):ovI g x v i v=Ea g x i v:=by unfold ovI;rw[if_neg (by omega),if_pos rfl]
theorem Agc(g:Gr)(x:Nat->Int)(v i j:Nat){q:Nat}(h:q≠v):ovI g x v i q=ovI g x v j q:=by unfold ovI;rw[if_neg h,if_neg h]
theorem XG(N:Int)(a b:Option Addr)(n c m d:Nat)(es:List Ed)(fl:List Int)(w:World)(R:Rd w a 4 CJ es)(hn:es.length=n)(hn2:n<=1000000)(Rf:Rd w b 1 I1 fl)(hm:fl.length=m)(hm2:m<=1000000)(hwi:Cf N es fl=true) :
  Ret prog 127 #[Dx N a n c,.slice b m d] w fun v w'=>∃b',v=.slice (some ⟨b',0,none⟩) N.toNat N.toNat/\Ctx w [] w' [(b',Bl 2 (Ce (BP (grE N es) (flE fl)) N.toNat))]:=by
 subst hn hm;obtain⟨w0,rfl,H⟩:=qE w;obtain⟨hl,hr,hin⟩:=Cw hwi;obtain⟨h1,h40,hE,hall,-⟩:=CB hr;obtain⟨nn,hnn⟩:∃nn:Nat,N=(nn:Int):=⟨N.toNat,by omega⟩;obtain⟨g,hg⟩:=qD (grE N es);obtain⟨x,hx⟩:=qD (flE fl);have hgE:g.E=es.length:=by rw[hg];rfl
 rw[<-hg,<-hx];subst hnn;rw[show((nn:Int)).toNat=nn from rfl]
 have hxb:∀j,j<es.length->0<=x j/\x j<=4503599627370496:=fun j hj=>by
  obtain⟨e',he'⟩:=AB (l:=es) (i:=j) (h:=hj);obtain⟨y,hy⟩:=AB (l:=fl) (i:=j);have h3:=hin j e' y he' hy;have h4:=Em (hall e' (qac he'));rw[hx];show 0<=fl.getD j 0/\fl.getD j 0<=4503599627370496;rw[Br hy];omega
 refine A2 (fn:=f127) func127 U [Dx (nn:Int) a es.length c,.slice b fl.length d] U (Ad (Bu [.int .i64 (nn:Int),.slice a es.length c] (.agg _) U U H ?_));rintro b2 w - H;refine Az U (qA (Ap (Ad (BV CG C2 U H at0 U (Ao U (Am qB (Ku (nn:Int) a b es.length c fl.length d es fl _ (R.ext0 H.ext) U hn2 (Rf.ext0 H.ext) U hm2) U ?_))))));rintro v w ⟨rfl,hx10⟩;replace H:=H.call hx10;rw[hwi];refine B1 U (qA (Av _ U ?_ ?_))
 .intro g1;replace g1:=Bv g1;cases g1
 .intro g1;replace g1:=Bw g1;refine Aq (Aa (Ad (Ah DW U (AG B6 U H at0 U (F2 AR Bt J9 Eh U U H ?_)))));rintro b14 w - H;rw[show((nn:Int)).toNat=nn from rfl,Ej]at H;refine Az U (qA (Ap (Ad (Af U (qA (Ax (Bn 147573952589676380352 (α:=Nat) (fun v=>[(6,.int .i64 (v:Int))]) (fun v w'=>v<=nn/\Ctx w0 [] w' [(b14,Bl 2 (Ce (ovI g x v 0) nn)),(b2,Bl 51 [.int .i64 (nn:Int),.slice a es.length c])]) (fun v=>nn - v) 0 U ?_ ?_ ?_)))))))
  .exact⟨rfl,trivial⟩
  .refine⟨qaf _,?_⟩;rw[show Ce (ovI g x 0 0) nn=Ce (fun _=>0) nn from qbi fun q _=>by rw[Agb]];exact H
  .clear H;rintro v j6 w ⟨hv,H⟩;refine Ap (Ad (Ae U (Ah DW U (AG B6 U H at1 U (AZ U U (qA (Av _ U ?_ ?_)))))))
   .intro g2;replace g2:=AJ g2;refine Aq (Aa (Ap (Ax (Ad (Af U (qA (Ax (Bn 147573952589674315904 (α:=Nat) (fun i=>[(7,.int .i64 (i:Int))]) (fun i w'=>i<=es.length/\Ctx w0 [] w' [(b14,Bl 2 (Ce (ovI g x v i) nn)),(b2,Bl 51 [.int .i64 (nn:Int),.slice a es.length c])]) (fun i=>es.length - i) 0 U ?_ ?_ ?_))))))))
    .exact⟨rfl,trivial⟩
    .exact⟨qaf _,H⟩
    .clear H;rintro i j7 w ⟨hi,H⟩;refine Ap (Ad (Ae U (Ao U (AU AR U (AZ U U (qA (Av _ U ?_ ?_)))))))
     .intro g3;replace g3:=AJ g3;obtain⟨e,he⟩:=AB (l:=es) (i:=i);obtain⟨y,hy⟩:=AB (l:=fl) (i:=i);have hxi:x i=y:=by rw[hx];exact Br hy
      obtain⟨hf0,hfN,ht0,htN,-⟩:=Em (hall e (qac he));have hgf:g.f i=e.f.toNat:=by rw[hg];exact QQ he
      have hgt:g.t i=e.t.toNat:=by rw[hg];exact QR he
      have hbi:=JF (g:=g) (x:=x) (c:=4503599627370496) v (k:=i) fun j hj=>hxb j (by omega);have hyb:=hxb i (by omega);rw[hxi]at hyb;obtain⟨z,hz⟩:=qD (Ea g x i v+if e.t=(v:Int)then y else 0)
      have hzb : -(300*4503599627370496)<=z/\z<=300*4503599627370496:=by
       rw[hz];split <;> omega
      have hst:Ea g x (i+1) v=z - if e.f=(v:Int)then y else 0:=by
       rw[Gd,hgf,hgt,hxi,hz]
       by_cases h1:e.t=(v:Int)
       .rw[Fj (show e.t.toNat=v by omega),if_pos h1]
        by_cases h2:e.f=(v:Int)
        .rw[Fj (show e.f.toNat=v by omega),if_pos h2];omega
        .rw[E4 (show ¬e.f.toNat=v by omega),if_neg h2];omega
       .rw[E4 (show ¬e.t.toNat=v by omega),if_neg h1]
        by_cases h2:e.f=(v:Int)
        .rw[Fj (show e.f.toNat=v by omega),if_pos h2];omega
        .rw[E4 (show ¬e.f.toNat=v by omega),if_neg h2];omega
      refine Aq (Aa (Ap (Ax (Ap (Ad (Ah C8 U (AG DO U H at1 U (Ae U (AM R CU CW U U (by rfl) ?_)))))))));refine Ah EY U (Ba B6 U (((R.ext0 H.ext).fld he U (j:=1) U)) ?_);refine Ae U (Cj U U (qA (FO 140703128616960 (α:=Unit) (fun _=>[]) (fun _ w'=>Ctx w0 [] w' [(b14,Bl 2 (Ce (fun q=>if q=v then z else ovI g x v i q) nn)),(b2,Bl 51 [.int .i64 (nn:Int),.slice a es.length c])]) U ?_ ?_)))
      .skip
       refine Av _ U ?_ ?_
       .intro g4;replace g4:=AJ g4;refine FK 12 Bs U U (B0 U (AY U (B0 U (AY U (Bd AR Bt U U ?_)))));refine Yp v _ U Bm U (by rintro _ rfl;exact H.drew) at0 (by simp) (qaa (Value.int .i64) (UA g x v i)) ?_;refine B0 U (AY U (Bo Rf AR Bt U U (by rfl) ?_));refine BF Bm U (by rintro _ rfl;exact(((Rf.ext0 H.drew.ext).fld hy rfl (j:=0) rfl))) ?_;refine CX U U (Bd AR Bt U U ?_);refine BM ?_;replace H:=H.drew;refine Cl v (fun q => .int .i64 (if q=v then z else ovI g x v i q)) (.int _ _) Bt U U U H at0 (by simp) (by rw[if_pos rfl,hz,if_pos g4]) (fun q _ hq=>by rw[if_neg hq]) ?_;rintro w H;refine qA ?_;exact⟨(),rfl,trivial,H⟩
       .intro g4;replace g4:=AK g4;refine Aq (Aa ?_);refine⟨(),rfl,trivial,?_⟩
        rw[show Ce (fun q=>if q=v then z else ovI g x v i q) nn=Ce (ovI g x v i) nn from qbi fun q _=>by
         dsimp only
         split
         .rename_i h;subst h;rw[UA,hz,if_neg g4,qca]
         .rfl]
        exact H
      .rintro - j34 w H;refine Ad (Ah C8 U (AG DO U H at1 U (Ae U (AM R CU CW U U (by rfl) ?_))));refine Ah EX U (Ba B6 U (((R.ext0 H.ext).fld he U (j:=0) U)) ?_);refine Ae U (Cj U U (qA (Av _ U ?_ ?_)))
       .intro g5;replace g5:=AJ g5;refine FK 12 Bs U U (B0 U (AY U (B0 U (AY U (Bd AR Bt U U ?_)))));refine Yp v _ U Bm U (by rintro _ rfl;exact H.drew) at0 (by simp) (qaa (Value.int .i64) (if_pos U)) ?_;refine B0 U (AY U (Bo Rf AR Bt U U (by rfl) ?_));refine BF Bm U (by rintro _ rfl;exact(((Rf.ext0 H.drew.ext).fld hy rfl (j:=0) rfl))) ?_;refine Dp U U (Bd AR Bt U U ?_);refine BM ?_;replace H:=H.drew;refine Cl v (fun q => .int .i64 (ovI g x v (i+1) q)) (.int _ _) Bt U U U H at0 (by simp) (by rw[UA,hst,if_pos g5]) (fun q _ hq=>by dsimp only;rw[if_neg hq,Agc g x v (i+1) i hq]) ?_;rintro w H;refine Ab (A7 (Aa (Ay (Ae U (Aw U U ?_)))));refine Af U (qA ?_)
        exact⟨i+1,rfl,⟨rfl,trivial⟩,⟨by omega,H⟩,by omega⟩
       .intro g5;replace g5:=AK g5;refine Aq (A7 (Aa (Ay (Ae U (Aw U U ?_)))));refine Af U (qA ?_);refine⟨i+1,rfl,⟨rfl,trivial⟩,⟨by omega,?_⟩,by omega⟩
        rw[show Ce (ovI g x v (i+1)) nn=Ce (fun q=>if q=v then z else ovI g x v i q) nn from qbi fun q _=>by
         dsimp only
         split
         .rename_i h;subst h;rw[UA,hst,if_neg g5,Int.sub_zero]
         .rename_i h;rw[Agc g x v (i+1) i h]]
        exact H
     .intro g3;replace g3:=AK g3;refine Be (Aj (Aj (AH (A7 (Aa (Ay (Ae U (Aw U U ?_))))))));refine Af U (qA ?_);obtain rfl:i=es.length:=by omega
      refine⟨v+1,rfl,⟨rfl,trivial⟩,⟨by omega,?_⟩,by omega⟩;rw[show Ce (ovI g x (v+1) 0) nn=Ce (ovI g x v es.length) nn from qbi fun q _=>by rw[<-Ake,hgE]];exact H
   .intro g2;replace g2:=AK g2;refine Be (Aj (Aj (AH (Aa (Ad (Ao U (Az U (qA (A6 (AD (v:=(.slice _ _ _)) U U U ?_))))))))));obtain rfl:v=nn:=by omega
    rw[show Ce (ovI g x v 0) v=Ce (BP g x) v from qbi fun q hq=>by
     rw[qaz]at hq;unfold ovI
     rw[if_pos hq]]at H
    exact⟨b14,rfl,H.left (L:=[_]) (L':=[_])⟩
theorem VM(N:Int)(a b:Option Addr)(n c m d:Nat)(es:List Ed)(fl:List Int)(w:World)(R:Rd w a 4 CJ es)(hn:es.length=n)(hn2:n<=1000000)(Rf:Rd w b 1 I1 fl)(hm:fl.length=m)(hm2:m<=1000000) :
  Ret prog 74 #[Dx N a n c,.slice b m d] w fun v w'=>v=.bool (Fi N es fl)/\Ext [] w w':=by
 subst hn hm;obtain⟨w0,rfl,H⟩:=qE w;obtain⟨bw,hbw⟩:=qD (Cf N es fl);refine A2 (fn:=f74) func74 U [Dx N a es.length c,.slice b fl.length d] U (Ad (Bu [.int .i64 N,.slice a es.length c] (.agg _) U U H ?_));rintro b2 w - H;refine Ai U (qA (Ap (Ad (BV CG C2 U H at0 U (Ao U (Am qB (Ku N a b es.length c fl.length d es fl _ (R.ext0 H.ext) U hn2 (Rf.ext0 H.ext) U hm2) U ?_))))));rintro v w ⟨rfl,hx9⟩;replace H:=H.call hx9;rw[<-hbw];refine B1 U (qA (Av _ U ?_ ?_))
 .intro h1;replace h1:=Bv h1;refine Ad (Ai U (qA (A6 (Al (AD (v:=(.bool _)) U U U ?_)))));exact⟨qaa Value.bool (by unfold Fi;rw[<-hbw,show bw=false by simpa using h1];rfl),H.ext⟩
 .intro h1;replace h1:=Bw h1;have h1':bw=true:=by simpa using h1
  have hw:Cf N es fl=true:=by rw[<-hbw];exact h1'
  have hf:Fi N es fl=(Ml N es fl).all fun x=>decide (x=0):=by unfold Fi;rw[hw];rfl
  obtain⟨h40a,h40,-⟩:=CB (Cw hw).2.1;obtain⟨nn,hnn⟩:∃nn:Nat,N=(nn:Int):=⟨N.toNat,by omega⟩;have hov:Ml N es fl=tab (BP (grE N es) (flE fl)) nn:=by rw[hnn];rfl
  refine Aq (Aa (Ad (BV CG C2 U H at0 U (Ao U (Am qB (XG N a b es.length c fl.length d es fl _ (R.ext0 H.ext) U hn2 (Rf.ext0 H.ext) U hm2 hw) U ?_)))));rintro v w ⟨b',rfl,H13⟩;replace H:=Ctx.back (L1:=[]) (L2:=[_]) H H13;rw[show N.toNat=nn by omega]at H |-;refine Az U (qA (Ap (Ad (Af U (qA (Ax ?_))))));obtain⟨z,hz⟩:=qD (BP (grE N es) (flE fl));rw[hf,hov,<-hz];rw[<-hz]at H;have RT:Rd w (some ⟨b',0,none⟩) 1 I1 (tab z nn):=CE (H.get at0);obtain⟨w1,rfl⟩:=qD w;have hx1:=H.ext;have H:=Ctx.start w1 [];refine Bn 33538128 (α:=Nat) (fun i=>[(6,.int .i64 (i:Int))]) (fun i w'=>i<=nn/\Ctx w1 [] w' []/\∀k,k<i->z k=0) (fun i=>nn - i) 0 U ?_ ?_ ?_
  .exact⟨rfl,trivial⟩
  .exact⟨qaf _,H,fun k h=>absurd h (qaw _)⟩
  .clear H;rintro i j w ⟨hi,H,hb⟩;refine Ap (Ad (Ae U (Ao U (AU AR U (AZ U U (qA (Av _ U ?_ ?_)))))))
   .intro h2;replace h2:=AJ h2;refine Aq (Aa (Ap (Ax (Ad (Ao U (Ae U (Bq AR Bt U U ?_)))))));refine Ba Bm U (((RT.ext0 H.ext).fld (Cd (f:=z) (show i<nn by omega)) U (j:=0) U)) ?_;refine C0 U U (qA (Av _ U ?_ ?_))
    .intro h3;replace h3:=CC h3;refine Ad (Ai U (qA (A6 (A5 (Al (Al (A5 (Al (AD (v:=(.bool _)) U U U ?_)))))))));exact⟨qaa Value.bool (Dw (Cd (f:=z) (show i<nn by omega)) (qay h3)).symm,hx1.trans H.ext⟩
    .intro h3;replace h3:=CD h3;refine Aq (A7 (Aa (Ay (Ae U (Aw U U ?_)))));refine Af U (qA ?_);refine⟨i+1,rfl,⟨rfl,trivial⟩,⟨by omega,H,fun k hk=>?_⟩,by omega⟩
     rcases qap k i with h7|h7
     .exact hb k h7
     .obtain rfl:k=i:=by omega
      exact h3
   .intro h2;replace h2:=AK h2;refine Be (Aj (Aj (AH (Aa (Ad (Ai U (qA (A6 (AD (v:=(.bool _)) U U U ?_)))))))));have hin:i=nn:=by omega
    refine⟨qaa Value.bool (Eb fun k x hk hx=>?_).symm,hx1.trans H.ext⟩;obtain⟨h7,rfl⟩:=NZ hx;exact qal (hb k (by omega))
theorem Tu(N:Int)(a:Option Addr)(n c:Nat)(es:List Ed)(hn:es.length=n)(hb:n<=1000000)(k:Int)(w:World):Ret prog 189 #[Dx N a n c,.int .i64 k] w fun v w'=>v=.bool (JG es k)/\Ext [] w w':=by
 subst hn;obtain⟨w0,rfl,H⟩:=qE w;refine A2 (fn:=f189) func189 U [Dx N a es.length c,.int .i64 k] U (Ad (Bu [.int .i64 N,.slice a es.length c] (.agg _) U U H ?_));rintro b2 w - H;refine Ai U (qA (Ad (Ae U (Cq U U (Au U (AE 7 U ?_ ?_))))))
 .intro h1;replace h1:=AJ h1;refine Ae U (Ah C8 U (AG DO U H at0 U (AU CU U (D8 U U ?_))));refine AZ U U (A8 U (.bool _) U (Ai U (qA (A6 (AD (v:=(.bool _)) U U U ?_)))));exact⟨qaa Value.bool (by unfold JG;rw[qad];simp_all;try omega),H.ext⟩
 .intro h2;replace h2:=AK h2;refine Ag U (Ag U (Ag U (Ag U (Ag U (Ag U (AA U (.bool _) U (Ai U (qA (A6 (AD (v:=(.bool _)) U U U ?_))))))))));exact⟨qaa Value.bool (by unfold JG;rw[qad];simp_all;try omega),H.ext⟩
theorem Agd{es:List Ed}{k:Nat}(h:k<2*es.length:=by omega):JG es (k:Int)=true:=by unfold JG;simp;omega
theorem XH(N:Int)(a:Option Addr)(n c:Nat)(es:List Ed)(w:World)(R:Rd w a 4 CJ es)(hn:es.length=n)(hb:n<=1000000)(k:Nat){e:Ed}(he:es[k / 2]?=some e)(hr:Cv N es=true):Ret prog 190 #[Dx N a n c,.int .i64 (k:Int)] w fun v w'=>v=.tuple #[.int .i64 (Gt e k).1,.int .i64 (Gt e k).2.1,.int .i64 (Gt e k).2.2]/\Ext [] w w':=by
 subst hn;obtain⟨w0,rfl,H⟩:=qE w;have hk:=Cb he;have hco:=Em ((CB hr).2.2.2.1 e (qac he));refine A2 (fn:=f190) func190 U [Dx N a es.length c,.int .i64 (k:Int)] U (Ad (Bu [.int .i64 N,.slice a es.length c] (.agg _) U U H ?_));rintro b2 w - H;refine Af U (Af U (Af U (qA (Ap (Ad (B9 (α:=Unit) 130816 (fun _=>[(16,.bool (false))]) (fun _ w'=>Ctx w0 [] w' [(b2,Bl 51 [.int .i64 N,.slice a es.length c])]) U ?_ ?_))))))
 .refine BV CG C2 U H at0 U (Am qB (Jk N a es.length c es _ (R.ext0 H.ext) U hb) U ?_);rintro v w ⟨rfl,hx9⟩;replace H:=H.call hx9;rw[hr];refine B1 U (Au U (AE 11 U ?_ ?_))
  .intro h1;replace h1:=Bv h1;refine Ag U (Ag U (Ag U (Ag U (A8 U (.bool _) U (Ab ?_)))));exact⟨rfl,(),rfl,⟨qaa Value.bool (by simp_all),trivial⟩,H⟩
  .intro h2;replace h2:=Bw h2;refine BV CG C2 U H at0 U (Ae U (Am qB (Tu N a es.length c es U hb (k:Int) _) U ?_));rintro v w ⟨rfl,hx14⟩;replace H:=H.call hx14;rw[Agd];refine B1 U (AA U (.bool _) U (Ab ?_));exact⟨rfl,(),rfl,⟨qaa Value.bool (by rfl),trivial⟩,H⟩
 rintro - j16 w H;refine D5 U (Aq (Aa (Ad (Ah C8 U (AG DO U H at0 U (Ae U (Jr U U (show _<=(9223372036854775807:Int)by omega) ?_)))))));rw[show(k:Int) / 2=((k / 2:Nat):Int)by omega];refine AM R CU CW U U (by rfl) (Ca _ Je CW U U ((R.ext0 H.ext).row he U) ?_);refine AX GY H ?_;rintro b7 w - H;refine Bi CW U U U (by exact GO _) H at0 U ?_;rintro w H;refine qA (Ap (Ad (Ae U (WJ U U U ?_))));rw[show(k:Int) % 2=((k % 2:Nat):Int)by omega];refine Cj U U (qA (Av _ U ?_ ?_))
 .intro h1;replace h1:=AJ h1;refine CN (fun x=>x=_) Bs U (A3 EX U (BS B6 U (by rintro _ rfl;exact H.drew) at0 U ?_));refine A3 EY U (BS B6 U (by rintro _ rfl;exact H.drew) at0 U ?_);refine A3 EZ U (BS Bm U (by rintro _ rfl;exact H.drew) at0 U ?_);refine C6 U (C6 U (C6 U (BM ?_)));rintro _ rfl;replace H:=H.drew;refine A6 (Al (KP (v1:=(.int _ _)) (v2:=(.int _ _)) (v3:=(.int _ _)) U U U U U ?_));exact⟨by unfold Gt;rw[if_neg (by omega)],H.ext⟩
 .intro h1;replace h1:=AK h1;refine Aq (Aa (CN (fun x=>x=_) Bs U ?_));refine A3 EY U (BS B6 U (by rintro _ rfl;exact H.drew) at0 U ?_);refine A3 EX U (BS B6 U (by rintro _ rfl;exact H.drew) at0 U ?_);refine A3 EZ U (BS Bm U (by rintro _ rfl;exact H.drew) at0 U ?_);refine SH U U (C6 U (C6 U (C6 U (BM ?_))));rintro _ rfl;replace H:=H.drew;refine A6 (KP (v1:=(.int _ _)) (v2:=(.int _ _)) (v3:=(.int _ _)) U U U U U ?_);exact⟨by unfold Gt;rw[if_pos (by omega)],H.ext⟩
theorem XI(N:Int)(a b:Option Addr)(n c m d:Nat)(es:List Ed)(fl:List Int)(w:World)(R:Rd w a 4 CJ es)(hn:es.length=n)(hb:n<=1000000)(Rf:Rd w b 1 I1 fl)(hm:fl.length=m)(k:Nat){e:Ed}{x:Int}(he:es[k / 2]?=some e)(hx:fl[k / 2]?=some x)(hw:Cf N es fl=true) :
  Ret prog 128 #[Dx N a n c,.slice b m d,.int .i64 (k:Int)] w fun v w'=>v=.int .i64 (Ln e x k)/\Ext [] w w':=by
 subst hn hm;obtain⟨w0,rfl,H⟩:=qE w;have hk:=Cb he;obtain⟨hl,hr,hin⟩:=Cw hw;have hco:=Em ((CB hr).2.2.2.1 e (qac he));have hxx:=hin _ e x he hx;refine A2 (fn:=f128) func128 U [Dx N a es.length c,.slice b fl.length d,.int .i64 (k:Int)] U (Ad (Bu [.int .i64 N,.slice a es.length c] (.agg _) U U H ?_));rintro b3 w - H;refine Af U (qA (Ap (Ad (B9 (α:=Unit) 130944 (fun _=>[(16,.bool (false))]) (fun _ w'=>Ctx w0 [] w' [(b3,Bl 51 [.int .i64 N,.slice a es.length c])]) U ?_ ?_))))
 .refine BV CG C2 U H at0 U (Ao U (Am qB (Ku N a b es.length c fl.length d es fl _ (R.ext0 H.ext) U hb (Rf.ext0 H.ext) U (by omega)) U ?_));rintro v w ⟨rfl,hx9⟩;replace H:=H.call hx9;rw[hw];refine B1 U (Au U (AE 11 U ?_ ?_))
  .intro h1;replace h1:=Bv h1;refine Ag U (Ag U (Ag U (Ag U (A8 U (.bool _) U (Ab ?_)))));exact⟨rfl,(),rfl,⟨qaa Value.bool (by simp_all),trivial⟩,H⟩
  .intro h2;replace h2:=Bw h2;refine BV CG C2 U H at0 U (Ae U (Am qB (Tu N a es.length c es U hb (k:Int) _) U ?_));rintro v w ⟨rfl,hx14⟩;replace H:=H.call hx14;rw[Agd];refine B1 U (AA U (.bool _) U (Ab ?_));exact⟨rfl,(),rfl,⟨qaa Value.bool (by rfl),trivial⟩,H⟩
 rintro - j16 w H;refine D5 U (Aq (Aa (Ap (Ad (Ae U (WJ U U U ?_))))));rw[show(k:Int) % 2=((k % 2:Nat):Int)by omega];refine Cj U U (qA (Av _ U ?_ ?_))
 .intro h1;replace h1:=AJ h1;refine CN (fun x=>x=_) Bs U (A3 C8 U (BS DO U (by rintro _ rfl;exact H.drew) at0 U ?_));refine AY U (Alj U U U (show _<=(9223372036854775807:Int)by omega) ?_);rw[show(k:Int) / 2=((k / 2:Nat):Int)by omega];refine Bo R CU CW U U (by rfl) ?_;refine A3 DX U (BF Bm U (by rintro _ rfl;exact(((R.ext0 H.drew.ext).fld he rfl (j:=2) rfl))) ?_);refine B0 U (AY U (Alj U U U (show _<=(9223372036854775807:Int)by omega) ?_));rw[show(k:Int) / 2=((k / 2:Nat):Int)by omega];refine Bo Rf AR Bt U U (by rfl) ?_;refine BF Bm U (by rintro _ rfl;exact(((Rf.ext0 H.drew.ext).fld hx rfl (j:=0) rfl))) ?_;refine Dp U U (C6 U (BM ?_));rintro _ rfl;replace H:=H.drew;refine A6 (Al (AD (v:=(.int _ _)) U U U ?_))
  exact⟨by unfold Ln;rw[if_neg (by omega)],H.ext⟩
 .intro h1;replace h1:=AK h1;refine Aq (Aa (Ad (Ao U (Ae U (Jr U U (show _<=(9223372036854775807:Int)by omega) ?_)))));rw[show(k:Int) / 2=((k / 2:Nat):Int)by omega];refine AM Rf AR Bt U U (by rfl) (Ba Bm U (((Rf.ext0 H.drew.ext).fld hx U (j:=0) U)) ?_);refine Af U (qA (A6 (AD (v:=(.int _ _)) U U U ?_)));exact⟨by unfold Ln;rw[if_pos (by omega)],H.ext⟩
theorem Abd(N:Int)(a p:Option Addr)(n c q r:Nat)(es:List Ed)(pot:List Int)(w:World)(R:Rd w a 4 CJ es)(hn:es.length=n)(hb:n<=1000000)(Rp:Rd w p 1 I1 pot)(hq:pot.length=q)(k:Nat)(hk:k<2*es.length)(hr:Cv N es=true)(hp:FQ N pot=true) :
  Ret prog 129 #[Dx N a n c,.slice p q r,.int .i64 (k:Int)] w fun v w'=>v=.int .i64 (Vw N es pot (k:Int))/\Ext [] w w':=by
 subst hn hq;obtain⟨w0,rfl,H⟩:=qE w;obtain⟨hN1,hN40,hn200,-⟩:=CB hr;obtain⟨hpl,hpb⟩:=Lo hp;obtain⟨e,he,hE,q1,q2,q3,q4,q5,q6⟩:=P6 hr hk;obtain⟨un,hun⟩:∃un:Nat,(Gt e k).1=un:=⟨(Gt e k).1.toNat,by omega⟩;obtain⟨vn,hvn⟩:∃vn:Nat,(Gt e k).2.1=vn:=⟨(Gt e k).2.1.toNat,by omega⟩;obtain⟨pu,hpu⟩:=AB (l:=pot) (i:=un);obtain⟨pv,hpv⟩:=AB (l:=pot) (i:=vn);have hbu:=hpb _ _ hpu;have hbv:=hpb _ _ hpv
 have hli:Vw N es pot (k:Int)=(Gt e k).2.2+pu - pv:=by
  unfold Vw;rw[hE,hun,hvn,qa7,qa7,Br hpu,Br hpv]
 rw[hli];refine A2 (fn:=f129) func129 U [Dx N a es.length c,.slice p pot.length r,.int .i64 (k:Int)] U (Ad (Bu [.int .i64 N,.slice a es.length c] (.agg _) U U H ?_));rintro b3 w - H;refine Af U (qA (Ad (BV CG C2 U H at0 U (Ae U (Am qB (XH N a es.length c es _ (R.ext0 H.ext) U hb k he hr) U ?_)))));rintro v w ⟨rfl,hx13⟩;replace H:=H.call hx13;rw[hun,hvn];refine BN U (AF U U (AF U U (AF U U (Af U (Af U (Af U (qA (CN (fun x=>x=_) Bs U ?_))))))));refine AY U (B0 U (AY U (Bo Rp AR Bt U U (by rfl) ?_)));refine BF Bm U (by rintro _ rfl;exact(((Rp.ext0 H.drew.ext).fld hpu rfl (j:=0) rfl))) ?_;refine CX U U (B0 U (AY U (Bo Rp AR Bt U U (by rfl) ?_)))
 refine BF Bm U (by rintro _ rfl;exact(((Rp.ext0 H.drew.ext).fld hpv rfl (j:=0) rfl))) ?_;refine Dp U U (C6 U (BM ?_));rintro _ rfl;replace H:=H.drew;refine A6 (AD (v:=(.int _ _)) U U U ?_);exact⟨rfl,H.ext⟩
theorem XJ(N:Int)(a b p:Option Addr)(n c m d q r:Nat)(es:List Ed)(fl pot:List Int)(w:World)(R:Rd w a 4 CJ es)(hn:es.length=n)(hn2:n<=1000000)(Rf:Rd w b 1 I1 fl)(hm:fl.length=m)(Rp:Rd w p 1 I1 pot)(hq:pot.length=q)(hq2:q<=1000000)(hw:Cf N es fl=true) :
  Ret prog 75 #[Dx N a n c,.slice b m d,.slice p q r] w fun v w'=>v=.bool (FQ N pot && Ic N es fl pot)/\Ext [] w w':=by
 subst hn hm hq;obtain⟨w0,rfl,H⟩:=qE w;obtain⟨hfl,hr,hin⟩:=Cw hw;obtain⟨hN1,hN40,hn200,-⟩:=CB hr;refine A2 (fn:=f75) func75 U [Dx N a es.length c,.slice b fl.length d,.slice p pot.length r] U (Ad (Bu [.int .i64 N,.slice a es.length c] (.agg _) U U H ?_));rintro b3 w - H;refine Ai U (qA (Ap (Ad (B9 (α:=Unit) 268434432 (fun _=>[(27,.bool (!decide ((pot.length:Int)=N)))]) (fun _ w'=>Ctx w0 [] w' [(b3,Bl 51 [.int .i64 N,.slice a es.length c])]) U ?_ ?_))))
 .refine BV CG C2 U H at0 U (Am qB (Jk N a es.length c es _ (R.ext0 H.ext) U hn2) U ?_);rintro v w ⟨rfl,hx11⟩;replace H:=H.call hx11;rw[hr];refine B1 U (Au U (AE 13 U ?_ ?_))
  .intro h1;replace h1:=Bv h1;refine Ag U (Ag U (Ag U (Ag U (Ag U (Ag U (A8 U (.bool _) U (Au U (Ag U (Ag U ?_)))))))));refine Ag U (Ag U (Ag U (A8 U (.bool _) U (Ab ?_))));exact⟨rfl,(),rfl,⟨qaa Value.bool (by rw[qad] <;> simp_all <;> try omega),trivial⟩,H⟩
  .intro h2;replace h2:=Bw h2;refine Ao U (AU AR U (Ah C8 U (AG DO U H at0 U (AU CU U (C0 U U (AA U (.bool _) U (Au U (AE 21 U ?_ ?_))))))))
   .intro h3;replace h3:=CC h3;refine Ag U (Ag U (Ag U (Ag U (Ag U (A8 U (.bool _) U (Ab ?_))))));exact⟨rfl,(),rfl,⟨qaa Value.bool (by rw[qad] <;> simp_all <;> try omega),trivial⟩,H⟩
   .intro h4;replace h4:=CD h4;refine Ao U (AU AR U (Ah DW U (AG B6 U H at0 U (C0 U U (AA U (.bool _) U (Ab ?_))))));exact⟨rfl,(),rfl,⟨qaa Value.bool (by rw[qad] <;> simp_all <;> try omega),trivial⟩,H⟩
 rintro - j27 w H;refine Av _ U ?_ ?_
 .intro h1;replace h1:=Bv h1;refine Ad (Ai U (qA (A6 (Al (AD (v:=(.bool _)) U U U ?_)))));exact⟨qaa Value.bool (by unfold FQ;rw[show decide ((pot.length:Int)=N)=false by simpa using h1];simp),H.ext⟩
 .intro h1;replace h1:=Bw h1;have h1':(pot.length:Int)=N:=by simpa using h1
  refine Aq (Aa (Ap (Ad (Af U (qA (Ax (Bn 4503599358935232 (α:=Nat) (fun i=>[(7,.int .i64 (i:Int))]) (fun i w'=>i<=fl.length/\Ctx w0 [] w' [(b3,Bl 51 [.int .i64 N,.slice a es.length c])]) (fun i=>fl.length - i) 0 U ?_ ?_ ?_)))))))
  .exact⟨rfl,trivial⟩
  .exact⟨qaf _,H⟩
  .clear H;rintro i j w ⟨hi,H⟩;refine Ap (Ad (Ae U (Ao U (AU AR U (AZ U U (qA (Av _ U ?_ ?_)))))))
   .intro h2;replace h2:=AJ h2;obtain⟨e,he⟩:=AB (l:=es) (i:=i);obtain⟨x,hxf⟩:=AB (l:=fl) (i:=i);have hxx:=hin _ e x he hxf;refine Aq (Aa (Ap (Ax (C1 [([0,1,2,3,4,5,6,7,8,9,10,11,12,13,14,15,16],17)] (fun z=>Ext [] w0 z/\z.heap[b3]?=some (Bl 51 [.int .i64 N,.slice a es.length c])) [] Bs (⟨H.drew.ext,H.drew.get at0⟩) ?_))));refine AO U U (B4 U (Bg U (C5 Rf AR Bt U U (by rfl) ?_)));refine B5 Bm U (fun _ hx=>((Rf.ext0 hx.1).fld hxf rfl (j:=0) rfl)) ?_;refine Alk U U U (MR U U (Qb 39 U ?_ ?_))
    .intro g1;replace g1:=AJ g1;omega
    .intro g1;replace g1:=AK g1;refine B4 U (Bg U (C5 Rf AR Bt U U (by rfl) ?_));refine B5 Bm U (fun _ hx=>((Rf.ext0 hx.1).fld hxf rfl (j:=0) rfl)) ?_;refine A1 C8 U (B5 DO U (fun _ hx=>(by rw[An (hx.2)];rfl)) ?_);refine Bg U (C5 R CU CW U U (by rfl) ?_);refine A1 DX U (B5 Bm U (fun _ hx=>((R.ext0 hx.1).fld he rfl (j:=2) rfl)) ?_);refine Acn U U U (Bb ?_);replace H:=H.drew;refine AA U (.bool _) U (Ab (BR (⟨H.ext,H.get at0⟩) (BK (Av _ U ?_ ?_))))
     .intro g2;replace g2:=AJ g2;omega
     .intro g2;replace g2:=AK g2;refine Aq (A7 (Aa (Ay (Ae U (Aw U U ?_)))));refine Af U (qA ?_);exact⟨i+1,rfl,⟨rfl,trivial⟩,⟨by omega,H⟩,by omega⟩
   .intro h2;replace h2:=AK h2;refine Be (Aj (Aj (AH (Aa (Ap (Ad (Af U (qA (Ax (Bn 1180587117117783933248 (α:=Nat) (fun i=>[(8,.int .i64 (i:Int))]) (fun i w'=>i<=pot.length/\Ctx w0 [] w' [(b3,Bl 51 [.int .i64 N,.slice a es.length c])]/\∀(k:Nat) (x:Int),k<i->pot[k]?=some x->LZ x=true) (fun i=>pot.length - i) 0 U ?_ ?_ ?_))))))))))
    .exact⟨rfl,trivial⟩
    .exact⟨qaf _,H,fun k x h=>absurd h (qaw _)⟩
    .clear H;rintro i8 j8 w ⟨hi8,H,hb⟩;refine Ap (Ad (Ae U (Ao U (AU AR U (AZ U U (qA (Av _ U ?_ ?_)))))))
     .intro h3;replace h3:=AJ h3;obtain⟨x,hx⟩:=AB (l:=pot) (i:=i8);refine Aq (Aa (Ap (Ax (Ad (B9 (α:=Unit) 1180303390341259591680 (fun _=>[(69,.bool (!LZ x))]) (fun _ w'=>Ctx w0 [] w' [(b3,Bl 51 [.int .i64 N,.slice a es.length c])]) U ?_ ?_)))))
      .refine Ao U (Ae U (AM Rp AR Bt U U (by rfl) ?_));refine Ba Bm U (((Rp.ext0 H.ext).fld hx U (j:=0) U)) ?_;refine Cp U U (Au U (AE 63 U ?_ ?_))
       .intro h5;replace h5:=AJ h5;refine Ag U (Ag U (Ag U (Ag U (Ag U (A8 U (.bool _) U (Ab ?_))))));exact⟨rfl,(),rfl,⟨qaa Value.bool (by unfold LZ;rw[qad];simp_all;try omega),trivial⟩,H⟩
       .intro h6;replace h6:=AK h6;refine Ao U (Ae U (AM Rp AR Bt U U (by rfl) ?_));refine Ba Bm U (((Rp.ext0 H.ext).fld hx U (j:=0) U)) (AZ U U (AA U (.bool _) U (Ab ?_)));exact⟨rfl,(),rfl,⟨qaa Value.bool (by unfold LZ;rw[qad];simp_all;try omega),trivial⟩,H⟩
      rintro - j69 w H;refine Av _ U ?_ ?_
      .intro g1;replace g1:=Bv g1;refine Ad (Ai U (qA (A6 (A5 (Al (Al (A5 (Al (AD (v:=(.bool _)) U U U ?_)))))))));exact⟨qaa Value.bool (by unfold FQ;rw[Dw hx (by simpa using g1)];rfl),H.ext⟩
      .intro g1;replace g1:=Bw g1;refine Aq (A7 (Aa (Ay (Ae U (Aw U U ?_)))));refine Af U (qA ?_);exact⟨i8+1,rfl,⟨rfl,trivial⟩,⟨by omega,H,Gv hx hb (by simpa using g1)⟩,by omega⟩
     .intro h3;replace h3:=AK h3
      have hp:FQ N pot=true:=by
       unfold FQ;rw[Eb fun k x hk hx=>hb k x (by omega) hx,qal h1'];rfl
      rw[hp,qb9];refine Be (Aj (Aj (AH (Aa (Ap (Ad (Af U (qA (Ax (Bn 618968839051069420038259264 (α:=Nat) (fun i=>[(9,.int .i64 (i:Int))]) (fun i w'=>i<=2*es.length/\Ctx w0 [] w' [(b3,Bl 51 [.int .i64 N,.slice a es.length c])]/\∀k,k<i->Gz N es fl pot k=true) (fun i=>2*es.length - i) 0 U ?_ ?_ ?_))))))))))
      .exact⟨rfl,trivial⟩
      .exact⟨qaf _,H,fun k h=>absurd h (qaw _)⟩
      .clear H;rintro i9 j9 w ⟨hi9,H,hb9⟩;refine Ap (Ad (Ae U (Ao U (AU AR U (D8 U U ?_)))));refine AZ U U (qA (Av _ U ?_ ?_))
       .intro h4;replace h4:=AJ h4;have hi2:i9<2*es.length:=by omega
        obtain⟨e,x,he,hx,hro,r1,r2,r3⟩:=P7 hw hi2
        have hgo:Gz N es fl pot i9=true->∀k,k<i9+1->Gz N es fl pot k=true:=fun h3 k hk=>by
         rcases qap k i9 with h7|h7
         .exact hb9 k h7
         .obtain rfl:k=i9:=by omega
          exact h3
        refine Aq (Aa (Ap (Ax (Ad (B9 (α:=Unit) 618818903915238308802723840 (fun _=>[(88,.bool (!Gz N es fl pot i9))]) (fun _ w'=>Ctx w0 [] w' [(b3,Bl 51 [.int .i64 N,.slice a es.length c])]) U ?_ ?_)))))
        .refine BV CG C2 U H at0 U (Ao U (Ae U (Am qB (XI N a b es.length c fl.length d es fl _ (R.ext0 H.ext) U hn2 (Rf.ext0 H.ext) U i9 he hx hw) U ?_)));rintro v w ⟨rfl,hx80⟩;replace H:=H.call hx80;rw[<-hro];refine Cp U U (Au U (AE 82 U ?_ ?_))
         .intro h7;replace h7:=AJ h7;refine BV CG C2 U H at0 U (Ao U (Ae U (Am qB (Abd N a p es.length c pot.length r es pot _ (R.ext0 H.ext) U hn2 (Rp.ext0 H.ext) U i9 hi2 hr hp) U ?_)));rintro v w ⟨rfl,hx86⟩;replace H:=H.call hx86;refine AZ U U (A8 U (.bool _) U (Ab ?_));exact⟨rfl,(),rfl,⟨qaa Value.bool (by unfold Gz;rw[qad];simp_all;try omega),trivial⟩,H⟩
         .intro h8;replace h8:=AK h8;refine Ag U (Ag U (Ag U (Ag U (Ag U (AA U (.bool _) U (Ab ?_))))));exact⟨rfl,(),rfl,⟨qaa Value.bool (by unfold Gz;rw[qad];simp_all;try omega),trivial⟩,H⟩
        rintro - j88 w H;refine Av _ U ?_ ?_
        .intro g1;replace g1:=Bv g1;refine Ad (Ai U (qA (A6 (A5 (Al (Al (A5 (Al (AD (v:=(.bool _)) U U U ?_)))))))));exact⟨qaa Value.bool (by unfold Ic;rw[Dw (qet hi2) (by simpa using g1)]),H.ext⟩
        .intro g1;replace g1:=Bw g1;refine Aq (A7 (Aa (Ay (Ae U (Aw U U ?_)))));refine Af U (qA ?_);exact⟨i9+1,rfl,⟨rfl,trivial⟩,⟨by omega,H,hgo (by simpa using g1)⟩,by omega⟩
       .intro h4;replace h4:=AK h4;refine Be (Aj (Aj (AH (Aa (Ad (Ai U (qA (A6 (AD (v:=(.bool _)) U U U ?_)))))))));exact⟨qaa Value.bool (by unfold Ic;rw[qas.2 fun k hk=>hb9 k (by have:=qaz.1 hk;omega)]),H.ext⟩
theorem VN(N:Int)(a b p:Option Addr)(n c m d q r:Nat)(es:List Ed)(fl pot:List Int)(w:World)(R:Rd w a 4 CJ es)(hn:es.length=n)(hn2:n<=1000000)(Rf:Rd w b 1 I1 fl)(hm:fl.length=m)(hm2:m<=1000000)(Rp:Rd w p 1 I1 pot)(hq:pot.length=q)(hq2:q<=1000000) :
  Ret prog 24 #[Dx N a n c,Q8 b p m d q r] w fun v w'=>v=.bool (Fk N es fl pot)/\Ext [] w w':=by
 subst hn hm hq;obtain⟨w0,rfl,H⟩:=qE w;obtain⟨br,hbr⟩:=qD (Cv N es);obtain⟨bf,hbf⟩:=qD (Fi N es fl);obtain⟨bp,hbp⟩:=qD (FQ N pot && Ic N es fl pot);have hC:Fk N es fl pot=(br && (bf && bp)):=by rw[hbr,hbf,hbp];rfl
 rw[hC];refine A2 (fn:=f24) func24 U [Dx N a es.length c,Q8 b p fl.length d pot.length r] U (Ad (Bu [.int .i64 N,.slice a es.length c] (.agg _) U U H ?_));rintro b2 w - H;refine Bu [.slice b fl.length d,.slice p pot.length r] (.agg _) U U H ?_;rintro b3 w - H;refine Ai U (qA (Ad (BV CG C2 U H at1 U (Am qB (Jk N a es.length c es _ (R.ext0 H.ext) U hn2) U ?_))));rintro v w ⟨rfl,hx6⟩;replace H:=H.call hx6;rw[<-hbr];refine Au U (AE 7 U ?_ ?_)
 .intro h1;refine BV CG C2 U H at1 U (Ah Ho U (AG Cc U H at0 U (Am qB (VM N a b es.length c fl.length d es fl _ (R.ext0 H.ext) U hn2 (Rf.ext0 H.ext) U hm2) U ?_)));rintro v w ⟨rfl,hx11⟩;replace H:=H.call hx11;rw[<-hbf];refine A8 U (.bool _) U (Au U (AE 13 U ?_ ?_))
  .intro h2;refine BV CG C2 U H at1 U (Ah Ho U (AG Cc U H at0 U (Ah Kh U (AG Cc U H at0 U ?_))));have hwi:Cf N es fl=true:=(ER (by rw[<-hbf];simp_all)).1;refine Am qB (XJ N a b p es.length c fl.length d pot.length r es fl pot _ (R.ext0 H.ext) U hn2 (Rf.ext0 H.ext) U (Rp.ext0 H.ext) U hq2 hwi) U ?_;rintro v w ⟨rfl,hx19⟩;replace H:=H.call hx19;rw[<-hbp];refine A8 U (.bool _) U (Ai U (qA (A6 (AD (v:=(.bool _)) U U U ?_))));exact⟨qaa Value.bool (by simp_all),H.ext⟩
  .intro h3;refine Ag U (Ag U (Ag U (Ag U (Ag U (Ag U (AA U (.bool _) U (Ai U (qA (A6 (AD (v:=(.bool _)) U U U ?_))))))))));exact⟨qaa Value.bool (by simp_all),H.ext⟩
 .intro h4;refine Ag U (Ag U (Ag U (Ag U (AA U (.bool _) U (Au U (Ag U (Ag U (Ag U (Ag U ?_)))))))));refine Ag U (Ag U (AA U (.bool _) U (Ai U (qA (A6 (AD (v:=(.bool _)) U U U ?_))))));exact⟨qaa Value.bool (by simp_all),H.ext⟩
structure LS2 where
 i:Nat
 a:Option Addr
 c:Nat
 f:List Value
 a2:Option Addr
 c2:Nat
 f2:List Value
theorem perm5{α:Type}{a b c d e:α}{r:List α}:(a::b::c::d::e::r).Perm (d::a::e::b::c::r) :=
 (qbu (l₁:=[a,b,c]) (l₂:=e::r)).trans (((qbu (l₁:=[b,c]) (l₂:=r)).cons _).cons _)
theorem VO(f:Nat->Int)(n:Nat):∃f1:Nat->Int,Ce f n=Ce f1 n/\flE (tab f1 n)=f1/\FH (tab f1 n)=f1/\∀i,i<n->f1 i=f i:=by
 refine⟨fun i=>if i<n then f i else 0,qbi fun i hi=>by dsimp only;rw[if_pos (qaz.1 hi)],?_,?_,fun i hi=>if_pos hi⟩
 all_goals
  funext i
  first|unfold flE|unfold FH
  rcases qap i n with h|h
  .rw[Br (Cd h)]
  .rw[qby,qba (by rw[CY];exact h)];exact(if_neg (by omega)).symm
theorem Age{g:Gr}{cap x y p:Nat->Int}(h:Fine g cap x p)(hy:∀i,i<g.E->y i=x i):Fine g cap y p:=by
 refine⟨fun i hi=>by rw[hy i hi];exact h.in' i hi,fun a ha hr=>h.fit a ha ?_⟩;unfold Da at hr |-;rw[hy _ (by omega)]at hr;exact hr
theorem Aqo{w:World}{bs bf bp bo:Nat}{N n:Nat}{ae:Option Addr}{ce:Nat}{kk:Int}{es:List Ed}{x p ov:Nat->Int}{full:List Value}{g:Gr}{cap:Nat->Int}(hn:es.length=n)(hg:grE (N:Int) es=g)(hcap:∀i,i<n->CA es i=cap i)(H0:Ctx w ((SL bs bf bp bo N ae n ce kk x p ov full).map (·.1)) w (SL bs bf bp bo N ae n ce kk x p ov full))(O:OS ae n ce 4 full (es.flatMap CJ))(hr:Cv (N:Int) es=true)(hF:Fine g cap x p)(hov:∀v,v<N->ov v=BP g x v)(hpb:∀v,v<N -> -1073741824<=p v/\p v<=1073741824) :
  Ret prog 212 #[ptr bs] w fun v w'=>∃(b:Bool) (x' p' ov':Nat->Int) (kk':Int),v=.bool b/\Ctx w ((SL bs bf bp bo N ae n ce kk x p ov full).map (·.1)) w' (SL bs bf bp bo N ae n ce kk' x' p' ov' full)/\Fine g cap x' p'/\(∀v,v<N->ov' v=BP g x' v)/\(∀v,v<N -> -1073741824<=p' v/\p' v<=1073741824) /\
   (b=false->∀v,v<N->BP g x' v<=0)/\(b=true->IE g x'+1<=IE g x):=by
 subst hn hg;obtain⟨x1,hx1,hxn,-,hxe⟩:=VO x es.length;obtain⟨p1,hp1,-,hpn,hpe⟩:=VO p N;have hgo:=Kn hr;have hsl:SL bs bf bp bo N ae es.length ce kk x p ov full=SL bs bf bp bo N ae es.length ce kk x1 p1 ov full:=by unfold SL;rw[hx1,hp1]
 have hF1:Fine (grE (N:Int) es) (CA es) x1 p1:=QF hgo (Age (Ob hF hcap) hxe) hpe;have hov1:∀v,BP (grE (N:Int) es) x1 v=BP (grE (N:Int) es) x v:=fun v=>M6 hxe v;have hex:IE (grE (N:Int) es) x1=IE (grE (N:Int) es) x:=CF fun v _=>by rw[hov1]
 rw[hsl]at H0 |-;refine Ret.mono (Ajz H0 O hr hF1 (fun v hv=>by rw[hov1];exact hov v hv) (fun v hv=>by rw[hpe v hv];exact hpb v hv) hxn hpn) ?_;rintro v w' ⟨b,x',p',ov',kk',h1,h2,h3,h4,h5,h6,h7⟩;exact⟨b,x',p',ov',kk',h1,h2,Ob h3 fun i hi=>(hcap i hi).symm,h4,h5,h6,fun h=>by rw[<-hex];exact h7 h⟩
theorem Agf(g:Gr)(v:Nat):BP g (fun _=>0) v=0:=by
 have:BP g (fun _=>0) v=BQ (fun _=>0) g.E:=CF fun i _=>by rw[Int.mul_zero]
 rw[this,HQ]
structure PSt where
 j:Nat
 full:List Value
 x:Nat->Int
 p:Nat->Int
 ov:Nat->Int
 kk:Int
structure FSt where
 x:Nat->Int
 p:Nat->Int
 ov:Nat->Int
 kk:Int
theorem Akf(N:Nat)(a:Option Addr)(c:Nat)(es:List Ed)(w:World)(R:Rd w a 4 CJ es)(hr:Cv (N:Int) es=true) :
  Ret prog 181 #[Dx (N:Int) a es.length c] w fun v w'=>∃(bf bp:Nat) (x p:Nat->Int) (k:Int),v=.tuple #[Q8 (some ⟨bf,0,none⟩) (some ⟨bp,0,none⟩) es.length es.length N N,.int .i64 k,.int .i64 0]/\Fine (grE (N:Int) es) (CA es) x p/\(∀v,v<N->BP (grE (N:Int) es) x v=0)/\(∀v,v<N -> -1073741824<=p v/\p v<=1073741824)/\Ctx w [] w' [(bf,Bl 2 (Ce x es.length)),(bp,Bl 2 (Ce p N))]:=by
 obtain⟨w0,rfl,H⟩:=qE w;obtain⟨hN1,hN40,hn200,hall,-⟩:=CB hr;have hI:I64 (N:Int):=by unfold I64;omega
 refine A2 (fn:=f181) func181 U [Dx (N:Int) a es.length c] U (Ad (Bu [.int .i64 (N:Int),.slice a es.length c] (.agg _) U U H ?_));rintro b1 w - H;refine AX Y7 H ?_;rintro b2 w - H;refine Af U (Af U (qA (Pt (Ap (Ad (BV CG C2 U H at1 U (Am qB (Nj (N:Int) a es.length c es _ (R.ext0 H.ext) U hI) U ?_)))))));rintro v w ⟨rfl,hx11⟩;replace H:=H.call hx11;refine B1 U (qA (Av _ U ?_ ?_))
 .intro h1;replace h1:=Bv h1;rw[hr]at h1;cases h1
 .intro h1;replace h1:=Bw h1;refine Aq (Aa (Eo 8589918240 (α:=Nat × Nat × Nat × Nat × Nat × Nat × List Value) (fun z=>[(5,ptr z.1)]) (fun z w'=>OS (some ⟨z.2.2.2.2.1,0,none⟩) es.length z.2.2.2.2.2.1 4 z.2.2.2.2.2.2 (es.flatMap CJ)/\Ctx w0 [] w' [(z.2.1,Bl 2 (Ce (fun _=>0) es.length)),(z.2.2.2.1,Bl 2 (Ce (fun _=>0) N)),(z.2.2.2.2.1,Bl 59 z.2.2.2.2.2.2),(z.1,Bl 254 (SC N (some ⟨z.2.2.2.2.1,0,none⟩) es.length z.2.2.2.2.2.1 z.2.1 z.2.2.1 z.2.2.2.1 0)),(z.2.2.1,Bl 2 (Ce (fun _=>0) N)),(b2,Bl 53 [.slice none 0 0,.slice none 0 0]),(b1,Bl 51 [.int .i64 (N:Int),.slice a es.length c])]) U ?_ ?_))
  .skip
   have hb1:=H.get at1;refine ZQ (n:=19) (anc:=Ie) Bk.b (Amf es.length es) (fun i=>14+i) (V7 b1 N es.length a c) (Ig N es.length) (show Tryz.prog.follows .mixedOrders=true by kernel_rfl) U ?_ (fun i j _ _ h=>by have h:14+i=14+j:=h;omega) (fun i k b B=>sStab b1 N es.length a c i k b B) ?_ ?_
   .intro k hk;have:k=0\/k=1\/k=2\/k=3\/k=4\/k=5\/k=6\/k=7\/k=8\/k=9\/k=10\/k=11\/k=12\/k=13\/k=14\/k=15\/k=16\/k=17\/k=18:=by omega
    simp[Ie];omega
   .intro i o e' w' B hi ho hold hsl hx hbl hgd;have h4:e'.g 1=ptr b1:=(hold 1 fun j hj h=>by have h:1=14+j:=h;omega).trans rfl;have hc4:w'.heap[b1]?=some (Bl 51 [.int .i64 (N:Int),.slice a es.length c]):=hx.to (by exact hb1) (by simp);have hcs:i=0\/i=1\/i=2\/i=3\/i=4\/i=5\/i=6\/i=7\/i=8\/i=9\/i=10\/i=11\/i=12\/i=13\/i=14\/i=15\/i=16\/i=17\/i=18:=by omega
    have hpure:∀{v:Value},Ig N es.length i=none->i≠5->V7 b1 N es.length a c i (KV B i default)=v->AQB Bk.b (Amf es.length es) (fun i=>14+i) (V7 b1 N es.length a c) (Ig N es.length) i e' w' B (put e' (some (14+i)) v) w':=fun h1 h5 h2=>⟨default,fun h=>absurd h h5,fun ob h=>(by rw[h1]at h;cases h),.refl _ _,by rw[h2]⟩
    rcases hcs with rfl|rfl|rfl|rfl|rfl|rfl|rfl|rfl|rfl|rfl|rfl|rfl|rfl|rfl|rfl|rfl|rfl|rfl|rfl
    .cases qaq ho;exact Ah (by kernel_rfl) h4 (Ab (hpure U (by decide) U))
    .cases qaq ho;exact Ba B6 (hsl 0 (by simp[Ie])) (by rw[An hc4];rfl) (Ab (hpure U (by decide) U))
    .cases qaq ho;refine Hd CU CW (Ctx.start w' []) fun b w2 H O=>?_;have hbb:=H.blk (b,_) (qaj ..);exact Ab ⟨⟨b,0,[]⟩,(fun h=>by cases h),fun ob h=>(by obtain rfl:=qaq h;exact⟨(H.own _ (qaj ..)).elim (fun h=>by cases h) id,hbb⟩),H.ext,rfl⟩
    .cases qaq ho;exact Ah (by kernel_rfl) h4 (Ab (hpure U (by decide) U))
    .cases qaq ho;exact Ba DO (hsl 3 (by simp[Ie])) (by rw[An hc4];rfl) (Ab (hpure U (by decide) U))
    .cases qaq ho;have h16:e'.g 16=.slice (some ⟨(B 2).b,0,none⟩) 0 0:=hsl 2 (by simp[Ie]);have h18:e'.g 18=.slice a es.length c:=hsl 4 (by simp[Ie])
     by_cases hn:es.length=0
     .rw[hn]at h18;exact Vf U CU CU CW h16 h18 (Ab ⟨default,fun _ => .inl hn,fun ob h=>(by simp[Ig,hn]at h),.refl _ _,by simp[V7,sQ,hn,KV]⟩)
     .refine WV U CU CU CW Ac4 GY U (es.flatMap CJ) h16 h18 (FE fun _ _=>rfl) (Rd.app (R.ext0 ((H.ext.trans (Ext.drew [] _)).trans hx)) (fun _ _=>rfl) (by decide)) fun b c' full' w2 hb hx2 hbl2 O2=>?_;exact Ab ⟨⟨b,c',full'⟩,fun _ => .inr O2,fun ob h=>(by simp only[Ig,hn]at h;simp at h;subst h;exact⟨by dsimp only;omega,by dsimp only;rw[J8];exact hbl2⟩),hx2,by simp[V7,sQ,hn,KV]⟩
    .cases qaq ho;refine Bz [.int .i64 (N:Int),.slice (some ⟨(sQ es.length B).b,0,none⟩) es.length (sQ es.length B).c] pl_51 OQ (hl:=?_) (Ab (hpure U (by decide) U));show Instr.fill _ _ [(0,e'.g 15),(1,e'.g 19)]=_;rw[show e'.g 15=.int .i64 (N:Int)from hsl 1 (by simp[Ie]),show e'.g 19=.slice (some ⟨(sQ es.length B).b,0,none⟩) es.length (sQ es.length B).c from hsl 5 (by simp[Ie])];rfl
    .cases qaq ho;exact Ah (by kernel_rfl) h4 (Ab (hpure U (by decide) U))
    .cases qaq ho;exact Ba DO (hsl 7 (by simp[Ie])) (by rw[An hc4];rfl) (Ab (hpure U (by decide) U))
    .cases qaq ho;exact AU CU (hsl 8 (by simp[Ie])) (Ab (hpure U (by decide) U))
    .cases qaq ho;refine F2 AR Bt J9 Eh (hsl 9 (by simp[Ie])) (hsl 9 (by simp[Ie])) (Ctx.start w' []) fun b w2 hb H=>?_;have hbb:=H.get at0;rw[show((es.length:Nat):Int).toNat=es.length from rfl,Ej]at hbb;exact Ab ⟨⟨b,0,[]⟩,(fun h=>by cases h),fun ob h=>(by obtain rfl:=qaq h;exact⟨by dsimp only;omega,hbb⟩),H.ext,rfl⟩
    .cases qaq ho;exact Ah (by kernel_rfl) h4 (Ab (hpure U (by decide) U))
    .cases qaq ho;exact Ba B6 (hsl 11 (by simp[Ie])) (by rw[An hc4];rfl) (Ab (hpure U (by decide) U))
    .cases qaq ho;refine F2 AR Bt J9 Eh (hsl 12 (by simp[Ie])) (hsl 12 (by simp[Ie])) (Ctx.start w' []) fun b w2 hb H=>?_;have hbb:=H.get at0;rw[show((N:Nat):Int).toNat=N from rfl,Ej]at hbb;exact Ab ⟨⟨b,0,[]⟩,(fun h=>by cases h),fun ob h=>(by obtain rfl:=qaq h;exact⟨by dsimp only;omega,hbb⟩),H.ext,rfl⟩
    .cases qaq ho;exact Ah (by kernel_rfl) h4 (Ab (hpure U (by decide) U))
    .cases qaq ho;exact Ba B6 (hsl 14 (by simp[Ie])) (by rw[An hc4];rfl) (Ab (hpure U (by decide) U))
    .cases qaq ho;refine F2 AR Bt J9 Eh (hsl 15 (by simp[Ie])) (hsl 15 (by simp[Ie])) (Ctx.start w' []) fun b w2 hb H=>?_;have hbb:=H.get at0;rw[show((N:Nat):Int).toNat=N from rfl,Ej]at hbb;exact Ab ⟨⟨b,0,[]⟩,(fun h=>by cases h),fun ob h=>(by obtain rfl:=qaq h;exact⟨by dsimp only;omega,hbb⟩),H.ext,rfl⟩
    .cases qaq ho;refine Bz (sSC N es.length B) App Apz (hl:=?_) (Ab (hpure U (by decide) U));show Instr.fill _ _ [(0,e'.g 20),(1,e'.g 24),(2,e'.g 27),(3,e'.g 30)]=_;rw[show e'.g 20=.agg #[.int .i64 (N:Int),.slice (some ⟨(sQ es.length B).b,0,none⟩) es.length (sQ es.length B).c]from hsl 6 (by simp[Ie]),show e'.g 24=.slice (some ⟨(B 10).b,0,none⟩) es.length es.length from hsl 10 (by simp[Ie]),show e'.g 27=.slice (some ⟨(B 13).b,0,none⟩) N N from hsl 13 (by simp[Ie]),show e'.g 30=.slice (some ⟨(B 16).b,0,none⟩) N N from hsl 16 (by simp[Ie])];rfl
    .cases qaq ho;refine Bu (sSC N es.length B) (.agg _) (hsl 17 (by simp[Ie])) U (Ctx.start w' []) fun b w2 hb H=>?_;exact Ab ⟨⟨b,0,[]⟩,(fun h=>by cases h),fun ob h=>(by obtain rfl:=qaq h;exact⟨by dsimp only;omega,H.get at0⟩),H.ext,rfl⟩
   .intro o e' w' B ho A;have hl1:=Bf hb1;have hl2:=Bf (H.get at0);have h9:w.drew.heap.size=w.heap.size:=rfl
    obtain⟨iq,hiq,hqb,hqh,hqo,O5⟩:∃iq,(iq=2\/iq=5)/\(sQ es.length B).b=(B iq).b/\w'.heap[(B iq).b]?=some (Bl 59 (sQ es.length B).f)/\(Ig N es.length iq≠none)/\OS (some ⟨(sQ es.length B).b,0,none⟩) es.length (sQ es.length B).c 4 (sQ es.length B).f (es.flatMap CJ):=by
     by_cases hn:es.length=0
     .have he:es=[]:=qb5 hn;have hsq:sQ es.length B=⟨(B 2).b,0,[]⟩:=if_pos hn;rw[hsq];refine⟨2,.inl rfl,rfl,(A.blk 2 _ (by omega) trivial (show Ig N es.length 2=some _ from rfl)).1,by simp[Ig],?_⟩;subst he;exact⟨(fun q hq=>by injection hq with hq;subst hq;rfl),(fun h=>by cases h),rfl,qan _,rfl⟩
     .have hsq:sQ es.length B=B 5:=if_neg hn;have ho5:Ig N es.length 5=some fun B=>Bl 59 (B 5).f:=by simp[Ig,hn]
      rw[hsq];exact⟨5,.inr rfl,rfl,(A.blk 5 _ (by omega) trivial ho5).1,by rw[ho5];simp,(A.good 5 (by omega) trivial rfl).resolve_left hn⟩
    have hiq19:iq<19:=by omega
    have ob10:Ig N es.length 10≠none:=by simp[Ig]
    have ob13:Ig N es.length 13≠none:=by simp[Ig]
    have ob16:Ig N es.length 16≠none:=by simp[Ig]
    have ob18:Ig N es.length 18≠none:=by simp[Ig]
    have hne:=fun i j hi hj hij oi oj=>A.ne i j hi hj hij trivial trivial oi oj;have k10:=A.blk 10 _ (by omega) trivial (show Ig N es.length 10=some _ from rfl);have k13:=A.blk 13 _ (by omega) trivial (show Ig N es.length 13=some _ from rfl);have k16:=A.blk 16 _ (by omega) trivial (show Ig N es.length 16=some _ from rfl);have k18:=A.blk 18 _ (by omega) trivial (show Ig N es.length 18=some _ from rfl)
    have kq:w.heap.size<=(B iq).b:=by
     cases hoq:Ig N es.length iq with
     |none=>exact absurd hoq hqo
     |some ob=>exact(A.blk iq ob hiq19 trivial hoq).2
    have hs0:=H.size;have n10_16:=hne 10 16 (by omega) (by omega) (by omega) ob10 ob16;have n10_q:=hne 10 iq (by omega) hiq19 (by omega) ob10 hqo;have n10_18:=hne 10 18 (by omega) (by omega) (by omega) ob10 ob18;have n10_13:=hne 10 13 (by omega) (by omega) (by omega) ob10 ob13;have n16_q:=hne 16 iq (by omega) hiq19 (by omega) ob16 hqo;have n16_18:=hne 16 18 (by omega) (by omega) (by omega) ob16 ob18;have n16_13:=hne 16 13 (by omega) (by omega) (by omega) ob16 ob13;have nq_18:=hne iq 18 hiq19 (by omega) (by omega) hqo ob18;have nq_13:=hne iq 13 hiq19 (by omega) (by omega) hqo ob13;have n18_13:=hne 18 13 (by omega) (by omega) (by omega) ob18 ob13;have n12:=H.ne at0 at1 (by decide);have hb20:=(H.own _ (qaj ..)).elim (fun h=>by cases h) id;have hb10:=(H.own _ (qai _ (qaj ..))).elim (fun h=>by cases h) id
    have Hc:Ctx w0 [] w' [((B 10).b,Bl 2 (Ce (fun _=>0) es.length)),((B 16).b,Bl 2 (Ce (fun _=>0) N)),((B iq).b,Bl 59 (sQ es.length B).f),((B 18).b,Bl 254 (sSC N es.length B)),((B 13).b,Bl 2 (Ce (fun _=>0) N)),(b2,Bl 53 [.slice none 0 0,.slice none 0 0]),(b1,Bl 51 [.int .i64 (N:Int),.slice a es.length c])]:=by
     refine⟨(H.ext.trans (Ext.drew [] _)).trans A.ext,fun x hx=>?_,?_,fun x hx => .inr ?_⟩
     .simp only[qag,qar,or_false]at hx
      rcases hx with rfl|rfl|rfl|rfl|rfl|rfl|rfl
      .exact k10.1
      .exact k16.1
      .exact hqh
      .exact k18.1
      .exact k13.1
      .exact A.ext.to (H.get at0) (by simp)
      .exact A.ext.to hb1 (by simp)
     .simp only[qbb,qag,qar,or_false,forall_eq_or_imp,forall_eq,List.Pairwise.nil,false_imp_iff,implies_true,and_true];refine⟨⟨n10_16,n10_q,n10_18,n10_13,?_,?_⟩,⟨n16_q,n16_18,n16_13,?_,?_⟩,⟨nq_18,nq_13,?_,?_⟩,⟨n18_13,?_,?_⟩,⟨?_,?_⟩,n12⟩ <;> omega
     .simp only[qag,qar,or_false]at hx
      rcases hx with rfl|rfl|rfl|rfl|rfl|rfl|rfl <;> (dsimp only;omega)
    cases qaq ho;refine Dg U (ptr (B 18).b) (A.slot 18 (by omega) trivial) (Ab ⟨((B 18).b,(B 10).b,(B 13).b,(B 16).b,(sQ es.length B).b,(sQ es.length B).c,(sQ es.length B).f),A.ds,⟨rfl,trivial⟩,O5,?_⟩);dsimp only;rw[hqb];have hsc:sSC N es.length B=SC N (some ⟨(B iq).b,0,none⟩) es.length (sQ es.length B).c (B 10).b (B 13).b (B 16).b 0:=by unfold sSC;rw[hqb]
    rw[hsc]at Hc;exact Hc
  .rintro⟨bs,bf,bp,bo,q,ce,full⟩ j w ⟨O,H⟩;dsimp only at O H;dsimp only;obtain⟨g,hg⟩:=qD (grE (N:Int) es);have hgE:g.E=es.length:=by rw[hg];rfl
   have hgN:g.N=N:=by rw[hg];rfl
   have hgo:g.Ok:=by rw[hg];exact Kn hr
   have hcb:=P9 hr;rw[<-hg];refine Ad (Af U (qA (Ap (Ad (Ah C8 U (AG DO U H at6 U (AU CU U (Ae U (qA ?_)))))))));refine Ax (Bn 72057525318451648 (α:=Nat × Nat × List Value) (fun t=>[(36,.int .i64 (t.1:Int)),(6,.int .i64 (t.2.1:Int))]) (fun t w'=>t.1<=es.length/\OS (some ⟨q,0,none⟩) es.length ce 4 t.2.2 ((esC es (Kq (CA es) (fun _=>0) t.1)).flatMap CJ)/\(∀j,j<t.1->(CA es j).toNat<2 ^ t.2.1)/\t.2.1<=64/\Ctx w0 [] w' [(bf,Bl 2 (Ce (fun _=>0) es.length)),(bo,Bl 2 (Ce (fun _=>0) N)),(q,Bl 59 t.2.2),(bs,Bl 254 (SC N (some ⟨q,0,none⟩) es.length ce bf bp bo 0)),(bp,Bl 2 (Ce (fun _=>0) N)),(b2,Bl 53 [.slice none 0 0,.slice none 0 0]),(b1,Bl 51 [.int .i64 (N:Int),.slice a es.length c])]) (fun t=>es.length - t.1) (0,0,full) U ?_ ?_ ?_)
   .exact⟨rfl,rfl,trivial⟩
   .refine⟨qaf _,?_,fun j h=>absurd h (qaw _),by dsimp only;omega,H⟩;rw[LO (d:=CA es) fun i _=>by unfold Kq;rw[if_neg (qaw _)],QH];exact O
   .rintro⟨i,m,full⟩ j w ⟨hi,O,hm,hm6,H⟩;dsimp only at hi O hm hm6 H;dsimp only;refine Ad (AZ U U (qA (Ap (Av _ U ?_ ?_))))
    .intro h2;replace h2:=AJ h2;have hil:i<es.length:=by omega
     obtain⟨e,he⟩:=AB (h:=hil);have hee:=Em (hall e (qac he));obtain⟨cc,hcc⟩:∃cc:Nat,e.cap=cc:=⟨e.cap.toNat,by omega⟩;have henc:CJ e=[.int .i64 e.f,.int .i64 e.t,.int .i64 (cc:Int),.int .i64 e.cost]:=by unfold CJ;rw[hcc]
     have hOl:=O.len;have hOe:=O.le;refine Aq (Aa (Ap (Ax (Ad (Ae U (AM R CU CW U U (by rfl) ?_))))));refine Ca _ Je CW U U (Rd.rowE (R.ext0 H.ext) he henc U) (AX GY H ?_);rintro b8 w - H;refine Af U (Bi CW U U U (by simp[AS]) H at0 U ?_);rintro w H;refine qA (Ad (A9 U (AP U (Ah HM U (Ah C8 U (AG DO U H at4 U (Ae U (Bq CU CW U U ?_))))))));refine Ah DX U (Cz (.int _ _) Bt U U U H at3 (by omega) ?_);rintro w H;refine qA (Ay (Ae U (Ah DX U (AG Bm U H at0 U (E0 U Xs FD ?_)))));refine Am qB (V6 cc (by omega) _) U ?_;rintro v w ⟨r,rfl,hr1,hr2,-,rfl⟩;refine Jc U U (Af U (Ab (A7 (Aa (Ay (Aw U U ?_))))));refine Ae U (qA ?_);rw[show 0+((i:Int)).toNat*4+2=i*4+2 by omega]at H
     have O1:=OS.setf O (y:=edC es (Kq (CA es) (fun _=>0) (i+1)) i) (j:=2) (v := .int .i64 0) (fun _=>rfl) (Kp (c:=Kq (CA es) (fun _=>0) i) hil) (by decide) (by unfold edC CJ Kq;dsimp only;rw[if_pos (by omega)];rfl);rw[YM rfl (fun j _ hj=>YP hj)]at O1;have hce:CA es i=(cc:Int):=by unfold CA;rw[Br he,hcc]
     refine⟨(i+1,max m r,full.set (i*4+2) (.int .i64 0)),rfl,⟨rfl,qaa (Value.int .i64) (by dsimp only;omega),trivial⟩,⟨by dsimp only;omega,O1,fun j hj=>?_,by dsimp only;omega,H.tail⟩,by dsimp only;omega⟩;dsimp only at hj |-
     by_cases ej:j=i
     .subst ej;rw[hce];exact qa3 (by omega) (Nat.pow_le_pow_right (by decide) (Nat.le_max_right m r))
     .exact qa3 (hm j (by omega)) (Nat.pow_le_pow_right (by decide) (Nat.le_max_left m r))
    .intro h2;replace h2:=AK h2;obtain rfl:i=es.length:=by omega
     rw[LO (d:=GW es m) fun i hi=>by unfold Kq GW;rw[if_pos hi,Nat.div_eq_of_lt (hm i hi)];rfl]at O;refine Be (Aj (Aj (AH (Aa (Ad (Ae U (Af U (qA (Ap (Ps (Aa (Ap (Ax (Bn 147429837401600557568 (α:=PSt) (fun t=>[(9,.int .i64 (t.j:Int))]) (fun t w'=>t.j<=64/\OS (some ⟨q,0,none⟩) es.length ce 4 t.full ((esC es (GW es t.j)).flatMap CJ)/\Fine g (GW es t.j) t.x t.p/\(∀v,v<N->BP g t.x v=0)/\(∀v,v<N->t.ov v=0)/\(∀v,v<N -> -1073741824<=t.p v/\t.p v<=1073741824)/\Ctx w0 [] w' [(bf,Bl 2 (Ce (t.x) es.length)),(bo,Bl 2 (Ce (t.ov) N)),(q,Bl 59 t.full),(bs,Bl 254 (SC N (some ⟨q,0,none⟩) es.length ce bf bp bo t.kk)),(bp,Bl 2 (Ce (t.p) N)),(b2,Bl 53 [.slice none 0 0,.slice none 0 0]),(b1,Bl 51 [.int .i64 (N:Int),.slice a es.length c])]) (fun t=>t.j) ⟨m,full,fun _=>0,fun _=>0,fun _=>0,0⟩ U ?_ ?_ ?_))))))))))))))
     .exact⟨rfl,trivial⟩
     .refine⟨hm6,O,⟨fun i hi=>⟨qav _,(P8 hr m i (by omega)).1⟩,fun a ha hra=>?_⟩,fun v _=>Agf g v,fun _ _=>rfl,fun _ _=>⟨by dsimp only;omega,by dsimp only;omega⟩,H⟩;exfalso;unfold Da at hra;have hai:a / 2<es.length:=by omega
      have hk0:GW es m (a / 2)=0:=by unfold GW;rw[Nat.div_eq_of_lt (hm _ hai)];rfl
      dsimp only at hra;rw[hk0]at hra
      split at hra <;> omega
     .rintro⟨j,full,x,p,ov,kk⟩ jj w ⟨hj6,O,hF,hx0,hov,hpb,H⟩;dsimp only at hj6 O hF hx0 hov hpb H;dsimp only
      rcases j with _|j
      .skip
       refine Ax (Ap (Ad (Ae U (B3 U U ?_))));refine Af U (qA (Ad (Ae U (AZ U U (qA (Av _ U ?_ ?_))))))
       .intro h3;replace h3:=AJ h3;refine Be (Aj (FJ U (Aj (AH (Aa (C1 [([0,1,2,3,4,5,6,7,8,9,10,11,12],13),([14],15)] (fun z=>z.heap[bs]?=some (Bl 254 (SC N (some ⟨q,0,none⟩) es.length ce bf bp bo kk))) [] Bs (H.drew.get at3) ?_))))));refine AO U U (BZ U (Bp U (A1 F8 U (B5 Cc U (fun _ hx=>(by rw[An hx];rfl)) ?_))));refine BZ U (Bp U (A1 F9 U (B5 Cc U (fun _ hx=>(by rw[An hx];rfl)) ?_)));refine Qf [.slice (some ⟨bf,0,none⟩) es.length es.length,.slice (some ⟨bp,0,none⟩) N N] U Al7 Y7 (hl:=U) ?_;refine BZ U (Bp U (A1 Qt U (B5 B6 U (fun _ hx=>(by rw[An hx];rfl)) ?_)));refine Bb ?_;replace H:=H.drew;refine Bi Nd U U U (by simp[AS]) H at5 U ?_;rintro w H;refine Ab (BR (H.get at3) (AO U U ?_))
        refine LD U U (Bb (Af U (Ab (BR (H.get at3) (BK (A6 (LC (Aiv U U U SV Nd H at5 U (show _=(.int _ _)from rfl) (show _=(.int _ _)from rfl) ?_))))))));refine⟨bf,bp,x,p,kk,rfl,Ob hF fun i hi=>(Aai hr i (by omega)).symm,hx0,hpb,H.sub (fun y hy=>?_) ?_⟩
        .simp only[qag,qar,or_false]at hy
         rcases hy with rfl|rfl
         .exact qac (i:=0) U
         .exact qac (i:=4) U
        .simp only[qbb,qab,forall_eq,qar,false_imp_iff,implies_true,List.Pairwise.nil,and_true];exact H.ne at0 at4 (by decide)
       .intro h3;replace h3:=AK h3;omega
      .skip
       refine Ax (Ap (Ad (Ae U (B3 U U ?_))));rw[show((j+1:Nat):Int) - 1=(j:Int)by omega];refine Af U (qA (Ad (Ae U (AZ U U (qA (Av _ U ?_ ?_))))))
       .intro h3;replace h3:=AJ h3;omega
       .intro h3;replace h3:=AK h3;have hF1:=Q5 hF (cap':=GW es j) fun i _=>Te es j i;obtain⟨x1,hx1⟩:=qD (Ll g (GW es j) x p);refine Aq (Aa (Ad (A9 U (BV CG C2 U H at6 U (Ae U (Am qB (Afe (bf:=bf) (bo:=bo) (ae:=some ⟨q,0,none⟩) (Ctx.lend (L1:=[_,_,_]) (L2:=[_,_,_,_]) H) O (H.get at3) (Ht (L:=[_,_,_]) H.nd (x:=(bs,_)) (qac (i:=0) U)) (H.get at4) (Ht (L:=[_,_,_]) H.nd (x:=(bp,_)) (qac (i:=1) U)) (R.ext0 H.ext) (fun hne hm=>by have h7:=Rd.lt R hne (fun x _=>⟨_,rfl⟩) (by decide);have h8:=(Ctx.left (L:=[_,_,_]) (L':=[_,_,_,_]) H).own;obtain⟨y,hy,he⟩:=qah.1 hm;rcases h8 y hy with h|h;cases h;omega) hr (fun i _=>Te es j i) (by rw[<-hg];exact hF) (by rw[<-hg];exact hx0) hov hpb) U ?_))))));rintro rv w ⟨rfl,full',O',H2⟩;rw[<-hg]at H2;replace H:=Ctx.back (L1:=[_,_,_]) (L2:=[_,_,_,_]) H H2
        refine qA (Ax ?_);rw[<-hx1]at hF1 H;refine Bn 110680464442257309696 (α:=FSt) (fun _=>[]) (fun t w'=>Fine g (GW es j) t.x t.p/\(∀v,v<N->t.ov v=BP g t.x v)/\(∀v,v<N -> -1073741824<=t.p v/\t.p v<=1073741824)/\Ctx w0 [] w' [(bf,Bl 2 (Ce (t.x) es.length)),(bo,Bl 2 (Ce (t.ov) N)),(q,Bl 59 full'),(bs,Bl 254 (SC N (some ⟨q,0,none⟩) es.length ce bf bp bo t.kk)),(bp,Bl 2 (Ce (t.p) N)),(b2,Bl 53 [.slice none 0 0,.slice none 0 0]),(b1,Bl 51 [.int .i64 (N:Int),.slice a es.length c])]) (fun t=>(IE g t.x).toNat) ⟨x1,p,BP g x1,kk⟩ U ?_ ?_ ?_
        .exact trivial
        .exact⟨hF1,fun _ _=>rfl,hpb,H⟩
        .rintro⟨x,p,ov,kk⟩ jj2 w ⟨hF,hov,hpb,H⟩;dsimp only at hF hov hpb H;dsimp only;refine Ap (Ad (A9 U ?_));have Hq:=H.perm perm5;refine Am qB (Aqo (bs:=bs) (bf:=bf) (bp:=bp) (bo:=bo) (N:=N) (n:=es.length) (ae:=some ⟨q,0,none⟩) (ce:=ce) (es:=esC es (GW es j)) (g:=g) (cap:=GW es j) (Ko es _) (by rw[grE_C,<-hg]) (fun i hi=>Aqa hi) (Ctx.lend (L1:=[_,_,_,_,_]) (L2:=[_,_]) Hq) O' (YN hr (P8 hr j)) hF hov hpb) U ?_;rintro rv w ⟨b,x',p',ov',kk',rfl,H2,hF',hov',hpb',hb0,hb1⟩;replace H:=(Ctx.back (L1:=[_,_,_,_,_]) (L2:=[_,_]) Hq H2).perm perm5.symm;refine qA (Av _ U ?_ ?_)
         .intro h4;refine Aq (Aa (Ax (Aq (A7 (Aa ?_)))));have h5:=hb1 h4;have h6:=ZX g x';exact⟨⟨x',p',ov',kk'⟩,rfl,trivial,⟨hF',hov',hpb',H⟩,by dsimp only;omega⟩
         .intro h4;refine Be (Aj (Aj (AH (A7 (Aa ?_)))));have hz:∀v,v<N->BP g x' v=0:=fun v hv=>Vu hgo (fun u hu=>hb0 h4 u (by omega)) v (by omega);exact⟨⟨j,full',x',p',ov',kk'⟩,rfl,⟨rfl,trivial⟩,⟨by dsimp only;omega,O',hF',hz,fun v hv=>(hov' v hv).trans (hz v hv),hpb',H⟩,by dsimp only;omega⟩
theorem Zf{N:Int}{es:List Ed}{pot:List Int}(hr:Cv N es=true){k:Nat}(hk:k<2*es.length):Vw N es pot (k:Int)=(grE N es).len (FH pot) k:=by
 obtain⟨e,he,hE,-⟩:=P6 hr hk;unfold Vw Gr.len Gr.c Gr.u Gr.v;rw[hE];unfold Gt
 rcases Nat.mod_two_eq_zero_or_one k with h|h
 .rw[if_pos h,if_pos h,if_pos h,VJ he,QQ he,QR he,if_neg (by omega)];rfl
 .rw[if_pos h,if_neg (show ¬k % 2=0 by omega),if_neg (show ¬k % 2=0 by omega),if_neg (show ¬k % 2=0 by omega),VJ he,QQ he,QR he];rfl
theorem VP{N:Int}{es:List Ed}{fl:List Int}(hw:Cf N es fl=true){k:Nat}(hk:k<2*es.length):Mk N es fl (k:Int)=Da (CA es) (flE fl) k:=by
 obtain⟨e,x,he,hx,hro,-⟩:=P7 hw hk;rw[hro];unfold Ln Da CA flE;rw[Br he,Br hx]
 rcases Nat.mod_two_eq_zero_or_one k with h|h
 .rw[if_neg (by omega),if_pos h]
 .rw[if_pos h,if_neg (by omega)]
theorem Agg{N:Int}{es:List Ed}{fl:List Int}(hw:Cf N es fl=true)(h:∀v,v<N.toNat->BP (grE N es) (flE fl) v=0):Fi N es fl=true:=by
 unfold Fi Ml;rw[hw,qb9,qas];intro x hx;obtain⟨i,hi⟩:=qbl.1 hx;obtain⟨h1,rfl⟩:=NZ hi;exact qal (h i h1)
theorem GF{N:Int}{es:List Ed}{fl pot:List Int}:Fk N es fl pot=true↔Fi N es fl=true/\FQ N pot=true/\Fine (grE N es) (CA es) (flE fl) (FH pot):=by
 have hE:(grE N es).E=es.length:=rfl;unfold Fk;simp only[qae];constructor
 .rintro⟨hr,hf,hp,ht⟩;have hw:=(ER hf).1;obtain⟨hl,-,hin⟩:=Cw hw;refine⟨hf,hp,fun i hi=>?_,fun a ha hro=>?_⟩
  .rw[hE]at hi;obtain⟨e,he⟩:=AB (h:=hi);obtain⟨x,hx⟩:=AB (l:=fl) (i:=i);unfold flE CA;rw[Br he,Br hx];exact hin i e x he hx
  .rw[hE]at ha;have h1:=qas.1 ht a (qaz.2 ha);unfold Gz at h1;rw[Zf hr ha,VP hw ha,qal hro,qdo,qbr,qda]at h1;omega
 .rintro⟨hf,hp,hF⟩;have hw:=(ER hf).1;obtain⟨hl,hr,hin⟩:=Cw hw;refine⟨hr,hf,hp,qas.2 fun a ha=>?_⟩;rw[qaz]at ha;unfold Gz;rw[Zf hr ha,VP hw ha,qbr]
  by_cases h:0<Da (CA es) (flE fl) a
  .rw[qay (by have:=hF.fit a ha h;omega),qd5]
  .rw[qay h,qcn]
theorem XK{N:Nat}{es:List Ed}{x p:Nat->Int}(hr:Cv (N:Int) es=true)(hF:Fine (grE (N:Int) es) (CA es) x p)(ho:∀v,v<N->BP (grE (N:Int) es) x v=0)(hp:∀v,v<N -> -1073741824<=p v/\p v<=1073741824):Fk (N:Int) es (tab x es.length) (tab p N)=true:=by
 have hx:∀i,i<es.length->flE (tab x es.length) i=x i:=fun i hi=>Ajs hi;have hq:∀v,v<N->FH (tab p N) v=p v:=fun v hv=>Br (Cd hv)
 have hw:Cf (N:Int) es (tab x es.length)=true:=by
  unfold Cf;rw[hr,CY,qal rfl];refine qas.2 fun b hb=>?_;obtain⟨i,hi⟩:=qbl.1 hb;have hl:=Cb hi;rw[qck,CY]at hl;obtain⟨e,he⟩:=AB (l:=es) (i:=i);rw[M8 he (Cd (f:=x) (by omega))]at hi
  injection hi with hi
  have h1:=hF.in' i (by show i<es.length;omega);unfold CA at h1;rw[Br he]at h1;rw[<-hi];show inB e (x i)=true;unfold inB;rw[qal h1.1,qal h1.2];rfl
 refine GF.2 ⟨Agg hw fun v hv=>?_,?_,QF (Kn hr) (Age hF hx) hq⟩
 .rw[M6 hx];exact ho v hv
 .unfold FQ;rw[CY,qal rfl,qdo,qas];intro y hy;obtain⟨i,hi⟩:=qbl.1 hy;obtain⟨h1,rfl⟩:=NZ hi;have:=hp i h1;unfold LZ;rw[qae,qam,qam];omega
theorem Nr{ds es:List Du}(h:Afn ds es)(hs:(es.map (·.id)).Pairwise (·<·)):ds=es:=by
 obtain⟨hp,hd⟩:=h
 induction es generalizing ds with
 |nil=>exact hp.eq_nil
 |cons e es ih =>
  cases ds with
  |nil=>exact absurd hp.symm.eq_nil (by simp)
  |cons d ds =>
   rw[qau,qbb]at hs hd
   have hde:d=e:=by
    rcases qag.1 (hp.mem_iff.1 (qaj ..))with h|h
    .exact h
    .rcases qag.1 (hp.mem_iff.2 (qaj ..))with h2|h2
     .exact h2.symm
     .have h3:=hs.1 d.id (qa8 (f:=fun d:Du=>d.id) h);have h4:=hd.1 e.id (qa8 (f:=fun d:Du=>d.id) h2);omega
   subst hde;rw[ih hs.2 (List.Perm.cons_inv hp) hd.2]
structure Rnd where
 no:Int
 day:Int
 cmp:Bool
 ids:List Int
 N:Int
 es:List Ed
 fl:List Int
 pot:List Int
structure RSl where
 aI:Option Addr
 cI:Nat
 aE:Option Addr
 cE:Nat
 aF:Option Addr
 cF:Nat
 aP:Option Addr
 cP:Nat
abbrev BD(r:Rnd)(q:RSl):List Value:=[.int .u64 r.no,.int .i64 r.day,.bool r.cmp,.slice q.aI r.ids.length q.cI,.int .i64 r.N,.slice q.aE r.es.length q.cE,.slice q.aF r.fl.length q.cF,.slice q.aP r.pot.length q.cP]
structure RAt(w:World)(r:Rnd)(q:RSl):Prop where
 I:Rd w q.aI 1 U1 r.ids
 E:Rd w q.aE 4 CJ r.es
 F:Rd w q.aF 1 I1 r.fl
 P:Rd w q.aP 1 I1 r.pot
 fc:r.fl.length<=q.cF
structure ROff(q:RSl)(r:Rnd)(S:Nat->Prop):Prop where
 I:r.ids≠[]->¬S (adr q.aI).block
 E:r.es≠[]->¬S (adr q.aE).block
 F:r.fl≠[]->¬S (adr q.aF).block
 P:r.pot≠[]->¬S (adr q.aP).block
theorem RAt.ext{w w':World}{r:Rnd}{q:RSl}{S:List Nat}(h:RAt w r q)(he:Ext S w w')(hn:ROff q r (·∈S)):RAt w' r q :=
 ⟨h.I.ext' he hn.I,h.E.ext' he hn.E,h.F.ext' he hn.F,h.P.ext' he hn.P,h.fc⟩
theorem RAt.ext0{w w':World}{r:Rnd}{q:RSl}(h:RAt w r q)(he:Ext [] w w'):RAt w' r q:=h.ext he ⟨fun _=>by simp,fun _=>by simp,fun _=>by simp,fun _=>by simp⟩
theorem ROff.mono{q:RSl}{r:Rnd}{S S':Nat->Prop}(h:ROff q r S)(hs:∀x,S' x->S x):ROff q r S':=⟨fun g k=>h.I g (hs _ k),fun g k=>h.E g (hs _ k),fun g k=>h.F g (hs _ k),fun g k=>h.P g (hs _ k)⟩
theorem RAt.lt{w:World}{r:Rnd}{q:RSl}(h:RAt w r q):ROff q r (fun x=>w.heap.size<=x) :=
 ⟨fun g=>qdr.2 (h.I.lt' (fun _ _=>rfl) (by decide) g),fun g=>qdr.2 (h.E.lt' (fun _ _=>rfl) (by decide) g),fun g=>qdr.2 (h.F.lt' (fun _ _=>rfl) (by decide) g),fun g=>qdr.2 (h.P.lt' (fun _ _=>rfl) (by decide) g)⟩
def AcAt(w:World)(t:TypeId)(bx:Nat)(acs:List Ac):Prop:=∃a c,w.heap[bx]?=some (Bl t [.slice a acs.length c])/\Rd w a 2 Dm acs
def DuAt(w:World)(bd:Nat)(ds:List Du):Prop:=∃b nx o,w.heap[bd]?=some (Bl 165 (DU b nx))/\w.heap[b]?=some o/\Ds .u64 (dm ds) o
theorem AcAt.ext0{w w':World}{t:TypeId}{bx:Nat}{acs:List Ac}(h:AcAt w t bx acs)(he:Ext [] w w'):AcAt w' t bx acs:=by
 obtain⟨a,c,h1,h2⟩:=h;exact⟨a,c,he.to h1 (by simp),h2.ext0 he⟩
theorem DuAt.ext0{w w':World}{bd:Nat}{ds:List Du}(h:DuAt w bd ds)(he:Ext [] w w'):DuAt w' bd ds:=by
 obtain⟨b,nx,o,h1,h2,h3⟩:=h;exact⟨b,nx,o,he.to h1 (by simp),he.to h2 (by simp),h3⟩
theorem LR{bx:Nat}{acs:List Ac}(ha:EA acs=0)(w:World)(A:AcAt w 162 bx acs) :
  Ret prog 180 #[ptr bx] w fun v w'=>Ext [] w w'/\∃a c,v=.slice a (acs.map C9).length c/\Rd w' a 1 I1 (acs.map C9):=by
 obtain⟨h1,h2,-⟩:=Cr.1 ha;obtain⟨a,c,g1,g2⟩:=A;refine Ret.mono (Afr a acs.length c acs w g1 g2 U h2) fun v w' F=>⟨F.ext,?_⟩;obtain⟨a',n',c',f',rfl,O,hb⟩:=F.ex;obtain rfl:=O.num;exact⟨a',c',rfl,O.rd1 fun x hx=>(hb x hx).1⟩
theorem JN{bd:Nat}{ds:List Du}{nx:Int}(hd:ofC ds nx=0)(w:World)(D:DuAt w bd ds) :
  Ret prog 50 #[ptr bd] w fun v w'=>Ext [] w w'/\∃a c,v=.slice a ds.length c/\Rd w' a 7 CM ds:=by
 obtain⟨h1,-,h3,-⟩:=Ge.1 hd;obtain⟨b,nx',o,g1,g2,g3⟩:=D;refine Ret.mono (Nl w g1 g2 g3 (Lv hd)) ?_;rintro v w' ⟨ds',hS,F⟩;obtain rfl:=Nr hS (Kt h3).2.1;refine⟨F.ext,?_⟩;obtain⟨a',n',c',f',rfl,O,hb⟩:=F.ex;obtain rfl:=O.numN (fun _ _=>rfl) (by decide);exact⟨a',c',rfl,OS.rd O (fun x hx=>(hb x hx).1) (fun _ _=>rfl) (by decide)⟩
structure PlanR(acs:List Ac)(ds:List Du)(net:Bool)(r:Rnd):Prop where
 no:r.no=0
 day:r.day=0
 cmp:r.cmp=net
 ids:r.ids=(opn ds).map Du.id
 N:r.N=((acs.length+1:Nat):Int)
 es:r.es=BX (acs.map C9) (opn ds) net
 chk:Fk r.N r.es r.fl r.pot=true
def rnd0:List Value:=[.int .u64 0,.int .i64 0,.bool false,.slice none 0 0,.int .i64 0,.slice none 0 0,.slice none 0 0,.slice none 0 0]
def Akg(w:World)(acs:List Ac)(ds:List Du)(net:Bool)(v:Value)(w':World):Prop :=
 Ext [] w w'/\((DH (acs.map C9) ds=false/\v=.tuple #[.agg rnd0.toArray,.int .i64 1]) \/
  (DH (acs.map C9) ds=true/\∃r q,v=.tuple #[.agg (BD r q).toArray,.int .i64 0]/\PlanR acs ds net r/\RAt w' r q/\ROff q r (fun x=>x<w.heap.size)))
theorem Zg{bx bd:Nat}{acs:List Ac}{ds:List Du}{nx:Int}(ha:EA acs=0)(hd:ofC ds nx=0)(net:Bool)(w:World)(A:AcAt w 162 bx acs)(D:DuAt w bd ds) :
  Ret prog 112 #[ptr bx,ptr bd,.bool net] w (Akg w acs ds net):=by
 obtain⟨w0,rfl,H⟩:=qE w;have hn16:=(Cr.1 ha).1;have hm64:=(Ge.1 hd).1;obtain⟨rs,hrs⟩:=qD (acs.map C9);have hrl:rs.length=acs.length:=by rw[hrs,qak]
 refine A2 (fn:=f112) func112 U [.pointer (some ⟨bx,0,none⟩),.pointer (some ⟨bd,0,none⟩),.bool net] U ?_;refine Ad (AX GA H ?_);rintro b6 w - H;refine Af U (qA (Ap (Ad (B9 (α:=Unit) 516096 (fun _=>[(18,.bool (false))]) (fun _ w'=>Ctx w0 [] w' [(b6,Bl 55 rnd0)]) U ?_ ?_))))
 .refine A9 U (C7 OJ U ?_);refine Au U (AE 15 U ?_ ?_)
  .intro h1;refine Ag U (Ag U (A8 U (.bool _) U (Ab ?_)));exact⟨rfl,(),rfl,⟨qaa Value.bool (by simp_all),trivial⟩,H⟩
  .intro h2;refine A9 U (C7 Ju U ?_);refine AA U (.bool _) U (Ab ?_);exact⟨rfl,(),rfl,⟨qaa Value.bool (by rfl),trivial⟩,H⟩
 rintro - j18 w H;refine D5 U (Aq (Aa ?_));cases hbb:DH rs ds
 .skip
  refine Ad (A9 U (Am qB (LR ha _ (A.ext0 H.ext)) U ?_));rintro v w ⟨hx22,a2,c2,rfl,R2⟩;rw[<-hrs]at R2 |-;replace H:=H.call hx22;refine A9 U (Am qB (JN hd _ (D.ext0 H.ext)) U ?_);rintro v w ⟨hx24,a3,c3,rfl,R3⟩;replace H:=H.call hx24;replace R2:=R2.ext0 hx24;refine Au U (Am qB (I5 a2 a3 _ c2 _ c3 rs ds net _ R2 U R3 U) U ?_);rintro v w ⟨hx26,⟨-,rfl⟩|⟨hb1,-⟩⟩
  rotate_left
  (rw[hbb]at hb1;cases hb1)
  replace H:=H.call hx26;refine BN U (AF U U (AF U U (AF U U (AX OQ H ?_))));rintro b8 w - H;refine Bi C2 U U U (by simp[AS]) H at0 U ?_;rintro w H;refine Az U (Af U (qA (Ap (Ad (Ae U (C0 U U (qA (Av _ U ?_ ?_))))))))
  .intro h1;replace h1:=CC h1;refine Ad (Bz [.int .u64 0,.int .i64 0,.bool false,.slice none 0 0,.int .i64 0,.slice none 0 0,.slice none 0 0,.slice none 0 0] Y5 GA ?_);refine Ae U (Bi Dv U U U (by simp[AS]) H at1 U ?_);rintro w H;refine Af U (qA (A6 (Al (Jd U U U Gm Dv H at1 U (show _=(.int _ _)from rfl) ?_))));exact⟨H.ext,.inl ⟨by rw[<-hrs];exact hbb,rfl⟩⟩
  .intro h1;replace h1:=CD h1;cases h1
 .skip
  have hB:=(Hg).1 hbb;obtain⟨es,hes⟩:=qD (BX rs (opn ds) net);refine Ad (A9 U (Am qB (LR ha _ (A.ext0 H.ext)) U ?_));rintro v w ⟨hx22,a2,c2,rfl,R2⟩;rw[<-hrs]at R2 |-;replace H:=H.call hx22;refine A9 U (Am qB (JN hd _ (D.ext0 H.ext)) U ?_);rintro v w ⟨hx24,a3,c3,rfl,R3⟩;replace H:=H.call hx24;replace R2:=R2.ext0 hx24;refine Au U ?_;have hlb:=H.lt at0;refine Am qB (I5 a2 a3 _ c2 _ c3 rs ds net _ R2 U R3 U) U ?_;rintro v w ⟨hx26,⟨hb1,-⟩|⟨-,aE,nE,cE,vI,rfl,SE,SI⟩⟩
  (rw[hbb]at hb1;cases hb1)
  replace H:=H.call hx26;rw[<-hes]at SE;obtain⟨aE,cE,hE1,-,RE,hEn⟩:=SE.ex;obtain⟨aI,cI,rfl,-,RI,hIn⟩:=SI.ex;cases hE1;have hx026:=H.ext;have hb60:w0.heap.size<=b6:=(H.own _ (qaj ..)).elim (fun h=>by cases h) id;obtain⟨w26,rfl⟩:=qD w;replace H:=Ctx.lend (L1:=[_]) (L2:=[]) H;dsimp only[List.map]at H;have hs24:=hx26.size;refine BN U (AF U U (AF U U (AF U U (AX OQ H ?_))));rintro b8 w - H;refine Bi C2 U U U (by simp[AS]) H at0 U ?_;rintro w H;refine Az U (Af U (qA (Ap (Ad (Ae U (C0 U U (qA (Av _ U ?_ ?_))))))))
  .intro h1;replace h1:=CC h1;exact absurd U h1
  .intro h1;replace h1:=CD h1;have hri:Cv ((rs.length+1:Nat):Int) es=true:=by rw[hes];exact hB.right net
   have hE6:es≠[]->(adr aE).block∉[b6]:=fun h=>by have:=hEn h;rw[qab];omega
   have hI6:(opn ds).map Du.id≠[]->(adr aI).block∉[b6]:=fun h=>by have:=hIn h;rw[qab];omega
   have hE26:=RE.lt' (fun _ _=>rfl) (by decide);have hI26:=RI.lt' (fun _ _=>rfl) (by decide);refine Aq (Aa (Ad (BV CG C2 U H at0 U ?_)));have hl8:=H.lt at0;have hl6:=H.lt at1;refine Am qB (Akf (rs.length+1) aE cE es _ (RE.ext' H.ext hE6) hri) U ?_;rintro v w ⟨bf,bp,x,p,k,rfl,hF,hov,hpb,HB⟩;replace H:=H.call HB.ext;have RF:Rd w (some ⟨bf,0,none⟩) 1 I1 (tab x es.length):=CE (HB.get at0);have RP:Rd w (some ⟨bp,0,none⟩) 1 I1 (tab p (rs.length+1)):=CE (HB.get at1);have hbf:=(HB.own _ (qac at0)).elim (fun h=>by cases h) id;have hbp:=(HB.own _ (qac at1)).elim (fun h=>by cases h) id;dsimp only at hbf hbp;replace RE:=RE.ext' H.ext hE6;replace RI:=RI.ext' H.ext hI6;have hb80:=(H.own _ (qac at0)).elim (fun h => .inl (qab.1 h)) Or.inr;have hx036:=hx026.then H.ext (fun x hx => .inr (by rw[qab.1 hx];exact hb60))
   have hs36:=HB.ext.size;have hs26:=H.size;obtain⟨w36,rfl⟩:=qD w;replace H:=Ctx.lend (L1:=[_,_]) (L2:=[]) H;dsimp only[List.map]at H;refine BN U (AF U U (AF U U (AF U U (AX Y7 H ?_))));rintro b11 w - H;refine Bi Nd U U U (by simp[AS]) H at0 U ?_;rintro w H;refine Af U (Af U (qA (Ap (Ad (Ae U (C0 U U (qA (Av _ U ?_ ?_))))))))
   .intro h2;replace h2:=CC h2;exact absurd U h2
   .intro h2;replace h2:=CD h2;obtain⟨r,hr⟩:=qD (⟨0,0,net,(opn ds).map Du.id,((rs.length+1:Nat):Int),es,tab x es.length,tab p (rs.length+1)⟩:Rnd);obtain⟨q,hq⟩:=qD (⟨aI,cI,aE,cE,some ⟨bf,0,none⟩,es.length,some ⟨bp,0,none⟩,rs.length+1⟩:RSl)
    have hcells:BD r q=[.int .u64 0,.int .i64 0,.bool net,.slice aI ((opn ds).map Du.id).length cI,.int .i64 ((rs.length+1:Nat):Int),.slice aE es.length cE,.slice (some ⟨bf,0,none⟩) es.length es.length,.slice (some ⟨bp,0,none⟩) (rs.length+1) (rs.length+1)]:=by
     rw[hr,hq];unfold BD;dsimp only;rw[CY,CY]
    refine Aq (Aa (Ad (Au U (Ao U (BV CG C2 U H at1 U (BV SV Nd U H at0 U (Bz [.int .u64 0,.int .i64 0,.bool net,.slice aI ((opn ds).map Du.id).length cI,.int .i64 ((rs.length+1:Nat):Int),.slice aE es.length cE,.slice (some ⟨bf,0,none⟩) es.length es.length,.slice (some ⟨bp,0,none⟩) (rs.length+1) (rs.length+1)] Y5 GA ?_)))))));refine Bi Dv U U U (by simp[AS]) H at2 U ?_;rintro w H;refine Af U (qA (A6 (Jd U U U Gm Dv H at2 U (show _=(.int _ _)from rfl) ?_)))
    have h8:w0.heap.size<=b8:=by rcases hb80 with h|h <;> omega
    have hxx:=hx036.then H.ext fun x hx => .inr (by simp only[qag,qar,or_false]at hx;omega);refine⟨hxx,.inr ⟨by rw[<-hrs];exact hbb,r,q,by rw[hcells],⟨by rw[hr],by rw[hr],by rw[hr],by rw[hr],by rw[hr,hrl],by rw[hr,<-hrs];exact hes,?_⟩,⟨?_,?_,?_,?_,?_⟩,⟨?_,?_,?_,?_⟩⟩⟩
    .rw[hr];exact XK hri hF hov hpb
    .rw[hr,hq];exact RI.ext' H.ext fun h=>by have h1:=hI26 h;have h2:=hI6 h;rw[qab]at h2;simp only[qag,qar,or_false];rcases hb80 with h3|h3 <;> omega
    .rw[hr,hq];exact RE.ext' H.ext fun h=>by have h1:=hE26 h;have h2:=hE6 h;rw[qab]at h2;simp only[qag,qar,or_false];rcases hb80 with h3|h3 <;> omega
    .rw[hr,hq];exact RF.ext' H.ext fun _=>by show bf∉[b8,b6];simp only[qag,qar,or_false];omega
    .rw[hr,hq];exact RP.ext' H.ext fun _=>by show bp∉[b8,b6];simp only[qag,qar,or_false];omega
    .rw[hr,hq];dsimp only;rw[CY];exact qan _
    .rw[hr,hq];intro h;have:=hIn h;dsimp only;omega
    .rw[hr,hq];intro h;have:=hEn h;dsimp only;omega
    .rw[hr,hq];intro _;show ¬bf<w0.heap.size;omega
    .rw[hr,hq];intro _;show ¬bp<w0.heap.size;omega
end Go.Proofs.YtdagmpmdcgedcaaGreat
