/- Part 10 of the proof. -/
import Derived.Test.YtfnfnmgilmejmaaGreatPart9
set_option maxRecDepth 20000
set_option maxHeartbeats 8000000
namespace Go.Proofs.YtfnfnmgilmejmaaGreat
open Go.GV Go.Proofs.Tryz
variable{α:Type}{a:Ac}{net:Bool}{d:Du}{e:Ed}{fn:Func}{g:Gr}{N kk nx:Int}{acs:List Ac}{ds os:List Du}{es:List Ed}{fl pot rs xs ys:List Int}{S:List Nat}{full:List Value}{r:List α}{bd bf bo bp bs bx ce i j k n q:Nat}{by' cap ov p x y:Nat->Int}{S':Nat->Prop}{ae:Option Addr}{P:Program}{s2 s3:Tmp}{t:TypeId}{v2 v3:Value}{R:Value->World->Prop}{w w':World}
theorem Hi(rs:List Int)(os:List Du)(net:Bool):(Cm rs os net).length=os.length+if net=true then 0 else 2*rs.length:=by
 unfold Cm;rw[qat,qaj]
 split
 .rfl
 .rw[Mr]
theorem I4(h:os[i]?=some d):(Cm rs os net)[i]?=some (Jh d):=by
 unfold Cm;have hl:=BH h;rw[qcw (by rw[qaj];exact hl),qa9,h];rfl
theorem Mu(h:(Ji rs)[j]?=some e):(Cm rs os false)[os.length+j]?=some e:=by
 unfold Cm;rw[qcp (by rw[qaj];omega),qaj,show os.length+j - os.length=j by omega,if_neg<|by decide,h]
def Vg(n:Nat)(d:Du):Prop:=CZ d=true/\d.fr<n/\d.to<n
theorem Pa{n:Nat}:∀{os:List Du},(∀d∈os,Vg n d)->((((os.map Jh).map Fx).sum:Nat):Int)<=1000*Cl (os.map Du.am)
 | [],_=>by show(0:Int)<=1000*0;omega
 |d::os,h=>by
  have ih:=Pa (os:=os) fun e he=>h e<|qae _ he;have hm:=CD (h d<|qah ..).1;rw[qas,qas,List.sum_cons,qas,Ce];have h1:Fx (Jh d)<=d.am.toNat*1000:=Nat.mul_le_mul_left _ (by show(-d.we).natAbs<=1000;omega);have h2:((d.am.toNat:Nat):Int)=d.am:=qd4 (by omega);have h3:((Fx (Jh d):Nat):Int)<=d.am*1000:=by omega
  rw[qc8,Int.mul_add];omega
theorem WA(hn:rs.length<=16)(hm:os.length<=64)(hrs:∀x∈rs,C0 x=true)(hos:∀d∈os,Vg rs.length d)(hsum:Cl (os.map Du.am)<=4503599627370496):Cd ((rs.length+1:Nat):Int) (Cm rs os net)=true:=by
 have hl:=Hi rs os net;have hE:(Cm rs os net).length<=200:=by rw[hl];split <;> omega
 have hall:(Cm rs os net).all (DK ((rs.length+1:Nat):Int))=true:=by
  rw[qaw];intro e he;unfold Cm at he
  rcases qa2.1 he with he|he
  .obtain⟨d,hd,rfl⟩:=qak.1 he;obtain⟨h1,h2,h3⟩:=hos d hd;have:=CD h1;unfold DK GH Jh;simp only[qag,qav];omega
  .split at he
   .cases he
   .unfold Ji at he;obtain⟨j,hj,rfl⟩:=qak.1 he;rw[qa5]at hj;obtain⟨r,hr⟩:=Au (l:=rs) (i:=j / 2);have hr2:=Cq.1<|hrs r<|qad hr;unfold DK GH;rw[Bp hr]
    split
    .simp only[qag,qav];omega
    .simp only[qag,qav];omega
 have hp:Eh (Cm rs os net)<=4611686018427387904:=by
  unfold Eh Cm;rw[qau,List.sum_append];have h1:=Pa hos
  have h2:((if net=true then[]else Ji rs).map Fx).sum=0:=by
   split
   .rfl
   .unfold Ji;rw[qcb]
    have:∀l:List Nat,(l.map<|Fx ∘ fun j=>if j % 2=0 then(⟨rs.length,(j / 2:Nat),rs.getD (j / 2) 0,0⟩:Ed)else⟨(j / 2:Nat),rs.length,4503599627370496,0⟩).sum=0:=by
     intro l
     induction l with
     |nil=>rfl
     |cons j l ih =>
      rw[qas,List.sum_cons,ih];show Fx (if j % 2=0 then _ else _)+0=0
      split <;> rfl
    exact this _
  rw[h2];omega
 unfold Cd;rw[hall,qam hE,qam hp,qam<|show(1:Int)<=((rs.length+1:Nat):Int)by omega,qam<|show((rs.length+1:Nat):Int)<=40 by omega];rfl
theorem Sd{g:Gr}{x:Nat->Int}{n m:Nat}(hE:∀k,k<n->(g.f (m+2*k)=n/\g.t (m+2*k)=k)/\g.f (m+2*k+1)=k/\g.t (m+2*k+1)=n){v:Nat}(hv:v<n):∀j,j<=n->Em g x (m+2*j) v=Em g x m v+if v<j then x (m+2*v) - x (m+2*v+1)else 0
 |0,_=>by rw[if_neg<|by omega];simp
 |j+1,hj=>by
  obtain⟨⟨h1,h2⟩,h3,h4⟩:=hE j (by omega);rw[show m+2*(j+1)=m+2*j+1+1 by omega,G1,G1,h1,h2,h3,h4,Sd hE hv j<|by omega,E3<|show ¬n=v by omega]
  by_cases e:j=v
  .subst e;rw[EM rfl,if_neg<|by omega,if_pos<|by omega];omega
  .rw[E3 e]
   by_cases h:v<j
   .rw[if_pos h,if_pos<|by omega];omega
   .rw[if_neg h,if_neg<|by omega];omega
theorem Se(h:es[i]?=some e):(grE N es).f i=e.f.toNat:=by show(es.getD i e0).f.toNat=_;rw[Bp h]
theorem Sf(h:es[i]?=some e):(grE N es).t i=e.t.toNat:=by show(es.getD i e0).t.toNat=_;rw[Bp h]
theorem Afb(h:es[i]?=some e):(grE N es).co i=e.cost:=by show(es.getD i e0).cost=_;rw[Bp h]
def byK(rs:List Int)(os:List Du)(net:Bool)(fl:List Int)(k:Nat):Int:=Em (grE ((rs.length+1:Nat):Int) (Cm rs os net)) (flE fl) os.length k
theorem ZA(hrs:∀x∈rs,0<=x)(hos:∀d∈os,Vg rs.length d)(hf:Ei ((rs.length+1:Nat):Int) (Cm rs os net) fl=true) :
  PayIn os (fl.take os.length)/\fl.length=(Cm rs os net).length/\(∀(k:Nat) (r:Int),rs[k]?=some r->(net=true->byK rs os net fl k=0) /\ -r<=byK rs os net fl k/\byK rs os net fl k<=4503599627370496)/\BU (byK rs os net fl) rs.length=0:=by
 obtain⟨hw,hz⟩:=E4 hf;obtain⟨hl,hr,hin⟩:=Cj hw;have hlen:=Hi rs os net;refine⟨⟨by rw[qa8];omega,fun i d x hd hx=>?_⟩,hl,fun k r hk=>?_,?_⟩
 .have hi:=BH hd;rw[qbt,if_pos hi]at hx;exact hin i (Jh d) x (I4 hd) hx
 .have hkn:=BH hk;have h0:=hz k (by omega);have hE:(grE ((rs.length+1:Nat):Int)<|Cm rs os net).E=(Cm rs os net).length:=rfl;unfold BJ at h0;rw[hE,hlen]at h0;have hr0:=hrs r (qad hk)
  cases net with
  |true =>
   rw[if_pos rfl,Nat.add_zero]at h0;have h0':byK rs os true fl k=0:=h0;exact⟨fun _=>h0',by omega,by omega⟩
  |false =>
   rw[if_neg<|by decide,Sd (x:=flE fl) (n:=rs.length) (fun j hj=>?_) hkn rs.length<|qaq _,if_pos hkn]at h0
   .obtain⟨y,hy⟩:=Au (l:=fl) (i:=os.length+2*k) (h:=by rw[hl,hlen,if_neg<|by decide];omega);obtain⟨z,hzz⟩:=Au (l:=fl) (i:=os.length+2*k+1) (h:=by rw[hl,hlen,if_neg<|by decide];omega);have h1:=hin _ _ y (Mu<|KH hk) hy;have h2:=hin _ _ z (by rw[qcz];exact Mu<|Mq hkn) hzz;rw[show flE fl (os.length+2*k)=y from Bp hy,show flE fl (os.length+2*k+1)=z from Bp hzz]at h0;have h0':byK rs os false fl k+(y - z)=0:=h0;dsimp only at h1 h2;exact⟨(fun h=>by cases h),by omega,by omega⟩
   .obtain⟨r',hr'⟩:=Au (h:=hj);have e1:(Cm rs os false)[os.length+2*j]?=_:=Mu<|KH hr';have e2:(Cm rs os false)[os.length+2*j+1]?=some ⟨j,rs.length,4503599627370496,0⟩:=by rw[qcz];exact Mu (Mq hj)
    rw[Se e1,Sf e1,Se e2,Sf e2];dsimp only;omega
 .have:=over_all ⟨rs.length,os.length,(grE ((rs.length+1:Nat):Int)<|Cm rs os net).f,(grE ((rs.length+1:Nat):Int)<|Cm rs os net).t,fun _=>0⟩ ⟨fun i hi=>?_,fun i hi=>?_⟩<|flE fl
  .exact this
  .obtain⟨d,hd⟩:=Au (l:=os) (i:=i) (h:=hi);obtain⟨h1,h2,h3⟩:=hos d<|qad hd;have:=CD h1;dsimp only;rw[Se<|I4 hd];unfold Jh;dsimp only;omega
  .obtain⟨d,hd⟩:=Au (l:=os) (i:=i) (h:=hi);obtain⟨h1,h2,h3⟩:=hos d<|qad hd;have:=CD h1;dsimp only;rw[Sf<|I4 hd];unfold Jh;dsimp only;omega
theorem WB(hl:xs.length=ys.length)(hx:∀x∈xs,C0 x=true)(hy:∀y∈ys,Ew y=true)(hs:Cl ys=0)(hz:∀z∈Cw xs ys,C0 z=true):C7 xs ys=0:=by
 unfold C7 Fz;rw[qam hl,qaw.2 hx,qaw.2 hy,qam hs,if_neg<|by decide,if_neg,if_neg]
 .rw[qaw.2 hz];decide
 .rw[qaw.2 fun z h=>qam (Cq.1<|hz z h).1];decide
theorem Nr:∀{xs ys:List Int},xs.length=ys.length->Cl (Cw xs ys)=Cl xs+Cl ys
 | [],[],_=>rfl
 | [],_::_,h=>by cases h
 |_::_,[],h=>by cases h
 |x::xs,y::ys,h=>by
  have ih:=Nr (xs:=xs) (ys:=ys) (by simpa using h);show Cl ((x+y)::Cw xs ys)=_;rw[Ce,Ce,Ce,ih];omega
theorem Sg(h:∀x∈xs,0<=x):∀x∈xs,x<=Cl xs:=by
 induction xs with
 |nil=>intro x hx;cases hx
 |cons y xs ih =>
  intro x hx;rw[Ce];have h0:=h y<|qah ..;have h1:=EO fun z hz=>h z<|qae _ hz
  rcases qaf.1 hx with rfl|hx
  .omega
  .have:=ih (fun z hz=>h z<|qae _ hz) x hx;omega
theorem BM:CO acs=0↔acs.length<=16/\(∀a∈acs,Fl a=true)/\(Dp<|acs.map Ac.ba).2=0:=by
 unfold CO
 by_cases h1:16<acs.length
 .rw[if_pos h1];exact⟨fun h=>by simp at h,fun h=>absurd h.1<|by omega⟩
 rw[if_neg h1]
 cases h2:acs.all Fl with
 |false =>
  rw[if_pos rfl];refine⟨fun h=>by simp at h,fun h=>?_⟩;rw[qaw.2 h.2.1]at h2;cases h2
 |true =>
  rw[if_neg<|by decide];rw[qaw]at h2;exact⟨fun h=>⟨by omega,h2,h⟩,fun h=>h.2.2⟩
theorem F1:Fl a=true↔(0<=a.ba/\a.ba<=4503599627370496)/\0<=a.re/\a.re<=4503599627370496:=by
 unfold Fl;rw[qag,Cq,Cq]
theorem Vh(hs:C7 (acs.map Ac.ba) (tab by' acs.length)=0)(hk:acs[k]?=some a):(shA acs<|tab by' acs.length)[k]?=some ⟨a.ba+by' k,a.re⟩:=by
 unfold shA;rw[if_pos hs,qd1,hk,BP<|BH hk]
theorem Qh:(shA acs<|tab by' acs.length).length=acs.length:=by
 unfold shA
 split
 .rw[qcl,CP];omega
 .rfl
theorem Hj(ha:CO acs=0)(hb:∀(k:Nat) (a:Ac),acs[k]?=some a -> -(CF a)<=by' k/\by' k<=4503599627370496)(hs:BU by' acs.length=0) :
  C7 (acs.map Ac.ba) (tab by' acs.length)=0/\CO (shA acs<|tab by' acs.length)=0:=by
 obtain⟨h1,h2,h3⟩:=BM.1 ha;obtain⟨h4,h5⟩:=CU.1 h3;have hl:(acs.map Ac.ba).length=(tab by' acs.length).length:=by rw[qaj,CP]
 have hsum:Cl (tab by' acs.length)=0:=by rw[YW];exact hs
 have hat:∀z∈Cw (acs.map Ac.ba) (tab by' acs.length),∃k a,acs[k]?=some a/\z=a.ba+by' k:=fun z hz=>by
  obtain⟨k,hk⟩:=qbi.1 hz;have hkl:=BH hk;unfold Cw at hkl;rw[qcl,qaj,CP]at hkl;obtain⟨a,hka⟩:=Au (l:=acs) (i:=k);rw[GL (x:=a.ba) (y:=by' k) (by rw[qa9,hka];rfl)<|BP<|by omega]at hk
  injection hk with hk
  exact⟨k,a,hka,hk.symm⟩
 have hnn:∀z∈Cw (acs.map Ac.ba) (tab by' acs.length),0<=z:=fun z hz=>by
  obtain⟨k,a,hk,rfl⟩:=hat z hz;have:=hb k a hk;have h6:=F1.1<|h2 a<|qad hk;unfold CF at this;omega
 have htot:=Nr hl;rw[hsum]at htot
 have hmay:∀z∈Cw (acs.map Ac.ba) (tab by' acs.length),C0 z=true:=fun z hz=>by
  have:=Sg hnn z hz;exact Cq.2 ⟨hnn z hz,by omega⟩
 have hC:C7 (acs.map Ac.ba) (tab by' acs.length)=0:=by
  refine WB hl h4 (fun y hy=>?_) hsum hmay;obtain⟨k,hk⟩:=qbi.1 hy;obtain⟨hkl,rfl⟩:=Lr hk;obtain⟨a,hka⟩:=Au (l:=acs) (i:=k) (h:=hkl);have:=hb k a hka;have h6:=F1.1<|h2 a<|qad hka;unfold CF at this;unfold Ew;rw[qag,qav,qav];omega
 have hmap:(shA acs<|tab by' acs.length).map Ac.ba=Cw (acs.map Ac.ba) (tab by' acs.length):=by
  unfold shA Cw;rw[if_pos hC,List.map_zipWith,List.zipWith_map_left]
 refine⟨hC,BM.2 ⟨by rw[Qh];exact h1,fun a' ha'=>?_,CU.2 ⟨by rw[hmap];exact hmay,by rw[hmap];omega⟩⟩⟩;obtain⟨k,hk⟩:=qbi.1 ha';have hkl:=BH hk;rw[Qh]at hkl;obtain⟨a,hka⟩:=Au (l:=acs) (i:=k) (h:=hkl);have h7:=Vh hC hka;rw[h7]at hk
 injection hk with hk
 subst hk;have h8:C0 (a.ba+by' k)=true:=hmay _<|qad (i:=k)<|GL (by rw[qa9,hka];rfl)<|BP hkl;unfold Fl at *;rw[qag];have:=h2 a<|qad hka;rw[qag]at this;exact⟨h8,this.2⟩
structure Bright(rs:List Int)(ds:List Du):Prop where
 n16:rs.length<=16
 may:∀x∈rs,C0 x=true
 m64:ds.length<=64
 due:∀d∈ds,Vg rs.length d
 tot:Cl (ds.map Du.am)<=4503599627370496
theorem FO(hl:ds.length<=1000000:=by omega):CY rs ds=true↔Bright rs ds:=by
 rw[<-Zz rs ds hl];unfold W6;simp only[qag,qav,qaw,Me];constructor
 .rintro⟨⟨h1,h2⟩,h3,h4,h5⟩;exact⟨h1,h3,h2,fun d hd=>⟨(h4 d hd).1,(h4 d hd).2.1,(h4 d hd).2.2⟩,(CU.1 h5).2⟩
 .rintro⟨h1,h3,h2,h4,h5⟩;refine⟨⟨h1,h2⟩,h3,fun d hd=>⟨(h4 d hd).1,(h4 d hd).2.1,(h4 d hd).2.2⟩,CU.2 ⟨fun x hx=>?_,h5⟩⟩;obtain⟨d,hd,rfl⟩:=qak.1 hx;have:=(CD (h4 d hd).1).2.2.2.1;exact Cq.2 ⟨by omega,this.2⟩
theorem Qi(h:d∈opn ds):d∈ds/\d.held=false:=by
 unfold opn at h;rw[qbc]at h;exact⟨h.1,by simpa using h.2⟩
theorem EW(ds:List Du):(opn ds).length<=ds.length:=qcy _ _
theorem Qj(h:∀d∈ds,0<=d.am):Cl ((opn ds).map Du.am)<=Cl (ds.map Du.am):=by
 induction ds with
 |nil=>exact qa4 _
 |cons d ds ih =>
  have h0:=h d<|qah ..;have ih:=ih fun e he=>h e<|qae _ he;rw[Ia,qas,Ce]
  split
  .rw[qcm];omega
  .show Cl (d.am::(opn ds).map Du.am)<=_;rw[Ce];omega
theorem Bright.open'(h:Bright rs ds):Bright rs (opn ds) :=
 ⟨h.n16,h.may,qa3 (EW ds) h.m64,fun d hd=>h.due d (Qi hd).1,qbj (Qj fun d hd=>by have:=(CD (h.due d hd).1).2.2.2.1;omega) h.tot⟩
theorem Bright.right(h:Bright rs ds)(net:Bool):Cd ((rs.length+1:Nat):Int) (Cm rs (opn ds) net)=true :=
 WA h.n16 h.open'.m64 h.may h.open'.due h.open'.tot
theorem Ka(ha:CO acs=0)(hd:ofC ds nx=0)(hb:∀d∈ds,d.fr<acs.length/\d.to<acs.length):Bright (acs.map CF) ds:=by
 obtain⟨h1,h2,h3⟩:=BM.1 ha;obtain⟨h4,h5,h6,h7⟩:=DZ.1 hd;refine⟨by rw[qaj];exact h1,fun x hx=>?_,h4,fun d hd'=>⟨(Z9 hd hd').2.2,by rw[qaj];exact(hb d hd').1,by rw[qaj];exact(hb d hd').2⟩,(CU.1 h7).2⟩;obtain⟨a,ha',rfl⟩:=qak.1 hx;have:=F1.1<|h2 a ha';unfold CF;exact Cq.2 ⟨by omega,by omega⟩
attribute [local irreducible] A4 W Wq Wt
theorem Sh{e:Env}{a:Tmp}{p:Addr}(hr:fn.results=#[.cell a t,.tmp s2,.tmp s3])(ha:e.g a=.pointer (some p))(h2:e.g s2=v2)(h3:e.g s3=v3)(h:Marks e.ds w fun w'=>∃v,(loadVar t p).run P w'=.ok v w'/\R (.tuple #[v,v2,v3]) w'):QK P fn R .ret e w :=
 Marks.mono (fun w ⟨v,hv,h⟩ tmps ht=>by
  have h1:=(ht a).trans ha;have g2:=(ht s2).trans h2;have g3:=(ht s3).trans h3;rw[qbm]at h1 g2 g3
  exact⟨.tuple #[v,v2,v3],by simp[results,hr,h1,g2,g3,asAddr,hv],h⟩) h
def RoundRes(w:World)(rs:List Int)(ds:List Du)(net:Bool)(v:Value)(w':World):Prop :=
 Ext [] w w'/\((CY rs ds=false/\v=.tuple #[CM 0 none 0 0,.slice none 0 0,.int .i64 1]) \/
  (CY rs ds=true/\∃aE nE cE vI,v=.tuple #[CM ((rs.length+1:Nat):Int) aE nE cE,vI,.int .i64 0]/\Sl w w' (.slice aE nE cE) 4 Co (Cm rs (opn ds) net)/\Sl w w' vI 1 U1 ((opn ds).map Du.id)))
def rndJ(ws:World)(b6:Nat)(N:Int)(es:List Ed)(i:Nat)(M:Mt)(w:World):Prop :=
 ∃a c full,(M=fun y=>y∈((b6,Bl 53 [.int .i64 N,.slice a i c])::ent a 195 full).map (·.1))/\Ctx ws [b6] w ((b6,Bl 53 [.int .i64 N,.slice a i c])::ent a 195 full) /\
  OS a i c 4 full ((es.take i).flatMap Co)/\∀y∈((b6,Bl 53 [.int .i64 N,.slice a i c])::ent a 195 full).map (·.1),y≠ws.heap.size/\y≠ws.heap.size+1
theorem G3(a b:Option Addr)(n c m e:Nat)(rs:List Int)(ds:List Du)(net:Bool)(w:World)(R:Rd w a 1 I1 rs)(hn:rs.length=n)(Rd':Rd w b 7 BK ds)(hm:ds.length=m)(hn2:n<=1000000:=by omega)(hm2:m<=1000000:=by omega):
  Ret prog 154 #[.slice a n c,.slice b m e,.bool net] w (RoundRes w rs ds net):=by
 subst hn hm;obtain⟨w0,rfl,H⟩:=qE w;obtain⟨bb,hbb⟩:=qD<|CY rs ds;obtain⟨os,hos⟩:=qD<|opn ds;have hol:os.length<=ds.length:=by rw[hos];exact EW ds
 refine Gx (fn:=f154) func154 U [.slice a rs.length c,.slice b ds.length e,.bool net] U<|Af<|AN qf H ?_;rintro b6 w - H;refine qG 8 ?_;refine Aj qB (W4 a b _ c _ e rs ds _ (R.ext0 H.ext) U hn2 (Rd'.ext0 H.ext) U hm2) U ?_;rintro v w ⟨rfl,hx14⟩;replace H:=H.call hx14;rw[<-hbb];refine qGp 3 ?_ ?_
 .intro h1;refine qG 3 ?_;rintro w H;refine qG 6 ?_;refine Sh U U U U ?_;exact⟨_,Fv qf qf U (fun j v hv=>by rw[Ai<|H.get at0,qa0];exact hv),H.ext,.inl ⟨by rw[<-hbb];exact h1,rfl⟩⟩
 .intro h1;refine qG 8 ?_;rintro w H;refine qG 4 ?_;refine Aj qB (Ve b _ e ds _ (Rd'.ext0 H.ext) U hm2) U ?_;rintro v w F;rw[<-hos]at F;obtain⟨a4,n4,c4,f4,rfl,O4,hb4⟩:=F.ex;have hl4:=O4.llen;rw[GO]at hl4;obtain rfl:os.length=n4:=by omega
  refine qG 4 ?_;have hb6:=H.lt at0;have RO:Rd w a4 7 BK os:=OS.rd O4 (fun y hy=>(hb4 y hy).1) (fun _ _=>rfl)<|by omega
  have hROn:os≠[]->(adr a4).block∉[b6]:=fun hne=>by
   obtain⟨q,rfl⟩:=O4.form<|qbu.2 hne;have:=(hb4 (q,Bl 111 f4)<|qab.2 rfl).2;rw[qab];show q≠b6;dsimp only at this;omega
  have H4:=H.call F.ext;have hs4:=H4.size;have hl64:=H4.lt at0;obtain⟨w4,rfl⟩:=qD w;have H:=Ctx.lend (L1:=[_]) (L2:=[]) H4;dsimp only[List.map]at H;refine qG 7 ?_;refine AY 34326185088 (α:=LSt) (fun t=>[(7,.slice t.a t.i t.c),(25,.int .i64 (t.i:Int))]) (fun t w'=>t.i<=os.length/\OS t.a t.i t.c 1 t.full (((os.take t.i).map Du.id).map F2)/\Ctx w4 [b6] w' ((b6,Bl 53 [.int .i64<|(rs.length:Int)+1,.slice none 0 0])::ent t.a 24 t.full)) (fun t=>os.length - t.i) ⟨0,none,0,[]⟩ U ?_ ?_ ?_
  .exact⟨rfl,rfl,trivial⟩
  .exact⟨qai _,OS.nil,H⟩
  .clear H;rintro⟨i,a2,c2,full⟩ jj w ⟨hi,O,H⟩;dsimp only at hi O H;dsimp only;refine qGp 5 ?_ ?_
   .intro h3;obtain⟨d,hd⟩:=Au (l:=os) (i:=i);refine qG 5 ?_;refine A2 RO qf qf U U (by rfl)<|BC _ qf qf U U ((RO.ext' H.ext hROn).row hd U)<|AN qf H ?_;rintro b10 w - H;refine AM qf U U U (by exact Cx _) H at0 U ?_;rintro w H;refine qG 7 ?_;rintro b32 w - H;refine BL (L:=[_,_]) qf qf qf qf qf U U U H O U (by simp[AF]) ?_;rintro a' c' full' w H O;refine AP U<|Ab<|Av<|Aa<|Aw<|Ap U U ?_;refine Ad U<|qA ?_;exact⟨⟨i+1,a',c',full'⟩,rfl,⟨rfl,rfl,trivial⟩,⟨by dsimp only;omega,by dsimp only;rw[Fk hd,qau];exact O,H.tail⟩,by dsimp only;omega⟩
   .intro h3;obtain rfl:i=os.length:=by omega
    rw[qba]at O;refine Bi<|Am<|Am<|A8<|Aa<|AB<|Af<|AH U<|AH U<|Bj U<|Aj qB (W5 a a4 _ c _ c4 net _) U ?_;rintro v w ⟨x1,x2,x3,rfl,H10⟩;have H5:=H.call H10.ext;refine qA<|AK ?_;have RI0:Rd w a2 1 U1 (os.map Du.id):=O.rd1 fun x hx=>H5.blk x<|qae _ hx
    have hRIn:os.map Du.id≠[]->w4.heap.size<=(adr a2).block:=fun hne=>by
     obtain⟨q,rfl⟩:=O.form (by have:=qbu.2 hne;rw[qaj]at this;exact this)
     rcases H.own (q,Bl 24 full) (qae _<|qab.2 rfl)with h|h
     .exact absurd (qab.1 h) fun h=>H.ne (i:=1) (j:=0) rfl rfl (by decide) h
     .exact h
    have hk1:=H10.get at1;have hk2:=H10.get at0;have hk3:=H10.get at2;have ho1:=(H10.own _<|qad at1).elim (fun h=>by cases h) id;have ho2:=(H10.own _<|qad at0).elim (fun h=>by cases h) id;have ho3:=(H10.own _<|qad at2).elim (fun h=>by cases h) id;dsimp only at ho1 ho2 ho3;have hl6:=H.lt at0;have hs5:=H5.size;have hx5:=H4.ext.then H5.ext fun x hx => .inr (by rw[qab.1 hx];exact(H4.own _<|qad at0).elim (fun h=>by cases h) id);have hb60:w0.heap.size<=b6:=(H4.own _<|qad at0).elim (fun h=>by cases h) id;have RR:=R.ext0 hx5;have RO5:=RO.ext' H5.ext hROn
    have hwe:∀d∈os,-1000000000<=d.we/\d.we<=1000000000:=fun d hd=>by
     rw[hbb]at h1;have hB:=(FO).1 h1;rw[hos]at hd;have:=(CD (hB.due d (Qi hd).1).1).2.2.2.2.1;omega
    obtain⟨ws,rfl⟩:=qD w;have H:=Ctx.lend (L1:=[_]) (L2:=_) H5;dsimp only[List.map]at H;obtain⟨es,hes⟩:=qD<|Cm rs os net
    have hnR:rs≠[]->(adr a).block∉[b6]:=fun hne=>by
     have:=R.lt' (fun _ _=>rfl) (by decide) hne;rw[qab];omega
    have heL:es.length<=3000000:=by rw[hes,Hi];split <;> omega
    refine Mk (gf:=228) U qB (TT (b1:=x1) (b2:=x2) (b3:=x3) (a:=a) (b:=a4) (c:=c) (e:=c4) (rs:=rs) (ds:=os) (net:=net) U U hn2 hwe) (by kernel_rfl) (by kernel_rfl) (fun v hv=>by obtain⟨p,-,rfl⟩:=qak.1 hv;rfl)
     (rndJ ws b6 ((rs.length:Int)+1) es) (fun _=>False) (by simp)
     (fun w2 hx2 _=>⟨_,none,0,[],rfl,H.call hx2,OS.nil,by simp[ent];omega⟩)
     (fun i M w' w'' hJ hx=>?_) (fun _ _ h _=>h) (fun i M w' hJ=>?_) ?_ ?_ (fun _ h _=>h.elim)
    .obtain⟨a7,c7,f7,hM,HJ,O7,hne⟩:=hJ;refine⟨a7,c7,f7,hM,HJ.step hx (fun y hy hy2=>?_) fun x hx => .inr ?_,O7,hne⟩
     .have:=hne _<|qa6 (f:=(·.1)) hy;simp only[qaf,qan,or_false]at hy2;omega
     .simp only[qaf,qan,or_false]at hx;omega
    .obtain⟨a7,c7,f7,hM,HJ,O7,hne⟩:=hJ;refine⟨fun x hx=>?_,HJ.ext.to hk1 (by rw[qab];omega),HJ.ext.to hk2 (by rw[qab];omega),HJ.ext.to hk3 (by rw[qab];omega),RR.ext' HJ.ext hnR,RO5.ext' HJ.ext hROn⟩;rw[hM]at hx;obtain⟨y,hy,rfl⟩:=qak.1 hx;exact⟨AX<|HJ.blk y hy,hne _ hx⟩
    .rintro i v M w hxv ⟨a7,c7,f7,rfl,HJ,O7,hne⟩ hsz;rw[qa9]at hxv;obtain⟨ed,hed,rfl⟩:=qdc.1 hxv;rw[<-hes]at hed;have hil:=BH hed;obtain⟨w1,rfl,H⟩:=qE w;refine qG 2 ?_;rintro b11 w - H;refine AM qf U U U (by exact Eg _) H at0 U ?_;rintro w H;refine Ab ?_;refine⟨H.ext,fun wB hxB=>?_⟩;have hb11:=(H.own _<|qah ..).elim (fun h=>by cases h) id;dsimp only at hb11;have hs1:=H.size;have hsB:=hxB.size
     have HB:=(HJ.callAdd H.ext (H.get at0) hb11).step hxB (fun y hy=>by
      rw[qab]
      rcases qaf.1 hy with rfl|hy
      .dsimp only;omega
      .exact(hne _<|qa6 (f:=(·.1)) hy).2) fun z hz => .inr (by rw[qab.1 hz];omega)
     obtain⟨w2,rfl⟩:=qD wB;rw[<-qar (_::_::ent a7 195 f7)]at HB;have H:=Ctx.lend (L1:=_::_::ent a7 195 f7) (L2:=[]) HB;obtain⟨SS,hSS⟩:=qD<|((b11,Bl 195 (Co ed))::(b6,Bl 53 [.int .i64<|(rs.length:Int)+1,.slice a7 i c7])::ent a7 195 f7).map (·.1);rw[<-hSS]at H;refine qG 6 ?_;rintro b43 w - H;refine BL (L:=[_,_]) qf qf qf qf qf U U U H O7 U (Eg ed) ?_;rintro a' c' full' w H O;refine qG 2 ?_;rintro w H;refine Ab<|Av ?_;rw[hSS]at H;have HE:=H.ext;have HH:=Ctx.back HB H;rw[qar]at HH;refine⟨_,⟨a',c',full',rfl,HH.tail,by rw[qbr,hed,qbn];exact O,fun y hy=>?_⟩,fun y hy=>?_,_,HE,fun y hy=>?_⟩
     .obtain⟨z,hz,rfl⟩:=qak.1 hy
      rcases H.own z (qae _ hz)with h|h
      .rcases qaf.1 h with h|h
       .dsimp only at h;omega
       .exact hne _ h
      .have:=hxB.size;have:=H.ext.size;omega
     .obtain⟨z,hz,rfl⟩:=qak.1 hy
      rcases H.own z (qae _ hz)with h|h
      .rcases qaf.1 h with h|h
       .exact .inr (by dsimp only at h;omega)
       .exact .inl h
      .exact .inr (by have:=hxB.size;omega)
     .rcases qaf.1 hy with h|h
      .exact .inr (by dsimp only at h;omega)
      .exact .inl h
    .rintro M w ⟨a7,c7,f7,rfl,HJ,O7,hne⟩ hD;rw[qaj,<-hes]at HJ O7 hne;rw[qba]at O7;have H:=HJ;obtain⟨w1,rfl⟩:=qD w;rw[<-qar (_::ent a7 195 f7)]at HJ;have H:=Ctx.lend (L1:=_::ent a7 195 f7) (L2:=[]) HJ;obtain⟨SS,hSS⟩:=qD<|((b6,Bl 53 [.int .i64<|(rs.length:Int)+1,.slice a7 es.length c7])::ent a7 195 f7).map (·.1);rw[<-hSS]at H hne;have hDn:ws.heap.size∉SS:=fun h=>(hne _ h).1 rfl;refine Av<|Aa<|Af<|Dh qf qf U H at0 U<|AH U<|AM qf U U U (by simp[AF]) H at0 U ?_;rintro w H;refine qG 5 ?_;refine Sh U U U U<|Gy (H.ext.to hD hDn) U fun wF hxF=>?_;rw[hSS]at H;have HH:=Ctx.back HJ H;rw[qar]at HH;rw[hSS]at hne;have HF:=HH.step hxF (fun y hy h=>(hne _<|qa6 (f:=(·.1)) hy).1<|qab.1 h) (fun z hz => .inr (by rw[qab.1 hz];omega))
     have hown:∀y∈((b6,Bl 53 [.int .i64<|(rs.length:Int)+1,.slice a7 es.length c7])::ent a7 195 f7),w0.heap.size<=y.1:=fun y hy=>by
      rcases HF.own y hy with h|h
      .rw[qab.1 h];exact hb60
      .have:=hx5.size;omega
     have hxx:=hx5.then HF.ext fun x hx => .inr (by rw[qab.1 hx];exact hb60);refine⟨_,Fv qf qf U (fun j v hv=>by rw[Ai<|HF.get at0,qa0];exact hv),hxx,.inr ⟨by rw[<-hbb];exact h1,a7,es.length,c7,.slice a2 os.length c2,rfl,?_,?_⟩⟩
     .rw[<-hos,<-hes];refine⟨a7,c7,rfl,O7.le,OS.rd O7 (fun x hx=>HF.blk x<|qae _ hx) (fun _ _=>rfl)<|by decide,fun hne'=>?_⟩;obtain⟨q,rfl⟩:=O7.form<|qbu.2 hne';exact hown (q,Bl 195 f7)<|qae _<|qab.2 U
     .rw[<-hos];have hd4:os.map Du.id≠[]->w4.heap.size<=(adr a2).block:=hRIn;refine⟨a2,c2,by rw[qaj],by rw[qaj];exact O.le,RI0.ext' HF.ext fun hne'=>?_,fun hne'=>?_⟩
      .have:=hRIn hne';rw[qab];omega
      .have:=hRIn hne';omega
theorem Hk(N:Int)(a:Option Addr)(n c:Nat)(es:List Ed)(w:World)(R:Rd w a 4 Co es)(hn:es.length=n)(hn2:n<=1000000):Ret prog 192 #[CM N a n c] w fun v w'=>v=.bool (Cd N es)/\Ext [] w w':=by
 subst hn;obtain⟨w0,rfl,H⟩:=qE w;refine iG func192 U<|Af<|Be [.int .i64 N,.slice a es.length c] (.agg _) U U H ?_;rintro b1 w - H;refine qG 5 ?_;refine Bo (α:=Unit) 1048512 (fun _=>[(19,.bool<|!((decide (1<=N) && decide (N<=40)) && decide (es.length<=200)))]) (fun _ w'=>Ctx w0 [] w' [(b1,Bl 53 [.int .i64 N,.slice a es.length c])]) U ?_ ?_
 .refine qG 4 ?_;refine iC 9 U ?_ ?_
  .intro h1;refine qG 11 ?_;exact⟨rfl,(),rfl,⟨qaa Value.bool (by rw[qac];simp_all;try omega),trivial⟩,H⟩
  .intro h2;refine qG 5 ?_;refine iC 14 U ?_ ?_
   .intro h3;refine qG 6 ?_;exact⟨rfl,(),rfl,⟨qaa Value.bool (by rw[qac];simp_all;try omega),trivial⟩,H⟩
   .intro h4;refine qG 6 ?_;exact⟨rfl,(),rfl,⟨qaa Value.bool (by rw[qac];simp_all;try omega),trivial⟩,H⟩
 rintro - j19 w H;refine iB U ?_ ?_
 .intro h1;refine qG 7 ?_;exact⟨qaa Value.bool (by unfold Cd;rw[<-qc4,show((decide (1<=N) && decide (N<=40)) && decide (es.length<=200))=false by simpa using h1];rfl),H.ext⟩
 .intro h1;have h1':((decide (1<=N) && decide (N<=40)) && decide (es.length<=200))=true:=by simpa using h1
  have hrN:Cd N es=(es.all (DK N) && decide (Eh es<=4611686018427387904)):=by unfold Cd;rw[<-qc4,h1'];rfl
  refine qG 12 ?_;refine AY 2417851639229258348363836 (α:=Nat) (fun i=>[(3,.int .i64 ((Eh (es.take i):Nat):Int)),(4,.int .i64 (i:Int))]) (fun i w'=>i<=es.length/\Ctx w0 [] w' [(b1,Bl 53 [.int .i64 N,.slice a es.length c])]/\Eh (es.take i)<=4611686018427387904/\∀(k:Nat) (e:Ed),k<i->es[k]?=some e->DK N e=true) (fun i=>es.length - i) 0 U ?_ ?_ ?_
  .exact⟨rfl,rfl,trivial⟩
  .exact⟨qai _,H,qai _,fun k e h=>absurd h<|qay _⟩
  .rintro i j w ⟨hi,H,hpr,hb⟩;refine qGp 9 ?_ ?_
   .intro h2;obtain⟨e,he⟩:=Au (l:=es) (i:=i);have hps:=MY he;have hpt:=MZ es<|i+1;refine qG 8 ?_;refine A2 R qf qf U U (by rfl)<|BC _ qf qf U U ((R.ext0 H.ext).row he U)<|AN qf H ?_;rintro b5 w - H;refine AM qf U U U (by exact Eg _) H at0 U ?_;rintro w H;refine qG 4 ?_;refine Bo (α:=Unit) 18446744069414584320 (fun _=>[(63,.bool<|!DK N e)]) (fun _ w'=>Ctx w0 [] w' [(b5,Bl 195 (Co e)),(b1,Bl 53 [.int .i64 N,.slice a es.length c])]) U ?_ ?_
    .refine qG 3 ?_;refine Aj qB (Sb N a es.length c e.f _) U ?_;rintro v w ⟨rfl,hx35⟩;replace H:=H.call hx35;refine qG 2 ?_;refine iC 37 U ?_ ?_
     .intro h5;refine qG 27 ?_;exact⟨rfl,(),rfl,⟨qaa Value.bool (by unfold DK;unfold KI at *;unfold GH;rw[qac];simp_all;try omega),trivial⟩,H⟩
     .intro h6;refine qG 3 ?_;refine Aj qB (Sb N a es.length c e.t _) U ?_;rintro v w ⟨rfl,hx41⟩;replace H:=H.call hx41;refine qG 3 ?_;refine iC 44 U ?_ ?_
      .intro h7;refine qG 20 ?_;exact⟨rfl,(),rfl,⟨qaa Value.bool (by unfold DK;unfold KI at *;unfold GH;rw[qac];simp_all;try omega),trivial⟩,H⟩
      .intro h8;refine qG 5 ?_;refine iC 49 U ?_ ?_
       .intro h9;refine qG 15 ?_;exact⟨rfl,(),rfl,⟨qaa Value.bool (by unfold DK;unfold KI at *;unfold GH;rw[qac];simp_all;try omega),trivial⟩,H⟩
       .intro h10;refine qG 5 ?_;refine iC 54 U ?_ ?_
        .intro h11;refine qG 10 ?_;exact⟨rfl,(),rfl,⟨qaa Value.bool (by unfold DK;unfold KI at *;unfold GH;rw[qac];simp_all;try omega),trivial⟩,H⟩
        .intro h12;refine qG 5 ?_;refine iC 59 U ?_ ?_
         .intro h13;refine qG 5 ?_;exact⟨rfl,(),rfl,⟨qaa Value.bool (by unfold DK;unfold KI at *;unfold GH;rw[qac];simp_all;try omega),trivial⟩,H⟩
         .intro h14;refine qG 5 ?_;exact⟨rfl,(),rfl,⟨qaa Value.bool (by unfold DK;unfold KI at *;unfold GH;rw[qac];simp_all;try omega),trivial⟩,H⟩
    rintro - j63 w H;refine iB U ?_ ?_
    .intro h3;refine qG 12 ?_;exact⟨qaa Value.bool (by rw[hrN,C2 he<|by simpa using h3];rfl),H.ext⟩
    .intro h3;have h3':DK N e=true:=by simpa using h3
     obtain⟨-,-,-,-,q1,q2,q3,q4⟩:=Dw h3';obtain⟨cp,hcp⟩:∃cp:Nat,e.cap=(cp:Int):=⟨e.cap.toNat,by omega⟩;have hpe:Fx e=cp*e.cost.natAbs:=by unfold Fx;rw[hcp,qa7]
     have hpm:Fx e<=4503599627370496*1000:=by rw[hpe];exact qd0 (by omega)<|by omega
     have hmx:e.cap*max e.cost (-e.cost)=((Fx e:Nat):Int):=by
      rw[hpe,hcp,qdb]
      congr 1
      omega
     refine qG 12 ?_;refine Fm U U (h1:=by rw[hmx];omega) (h2:=by rw[hmx];omega) ?_;rw[hmx];refine Ap U U ?_;rw[<-qc8,<-hps];refine qG 4 ?_;refine Bo (α:=Unit) 2380072707366301187702784 (fun _=>[(80,.bool<|!decide (Eh (es.take<|i+1)<=4611686018427387904))]) (fun _ w'=>Ctx w0 [] w' [(b5,Bl 195 (Co e)),(b1,Bl 53 [.int .i64 N,.slice a es.length c])]) U ?_ ?_
     .refine qG 3 ?_;refine iC 77 U ?_ ?_
      .intro h15;refine qG 4 ?_;exact⟨rfl,(),rfl,⟨qaa Value.bool (by rw[qac];simp_all;try omega),trivial⟩,H⟩
      .intro h16;refine qG 4 ?_;exact⟨rfl,(),rfl,⟨qaa Value.bool (by rw[qac];simp_all;try omega),trivial⟩,H⟩
     rintro - j80 w H;refine iB U ?_ ?_
     .intro h4;refine qG 11 ?_;have h4':¬Eh (es.take<|i+1)<=4611686018427387904:=by simpa using h4
      exact⟨qaa Value.bool<|by rw[hrN,qa1<|show ¬Eh es<=4611686018427387904 by omega,qcv],H.ext⟩
     .intro h4;have h4':Eh (es.take<|i+1)<=4611686018427387904:=by simpa using h4
      refine A1<|Av<|Aa<|Aw<|Ad U<|Ap U U ?_;refine Ag U<|qA ?_;refine⟨i+1,rfl,⟨rfl,rfl,trivial⟩,⟨by omega,H.tail,h4',fun k y hk hy=>?_⟩,by omega⟩
      rcases qao k i with h7|h7
      .exact hb k y h7 hy
      .obtain rfl:k=i:=by omega
       rw[he]at hy;cases hy;exact h3'
   .intro h2;refine Bi<|Am<|Am<|A8<|Aa<|Af<|A5 U<|qA<|Bf<|B6 (v:=(.bool _)) U U U ?_;rw[qc5<|by omega]at hpr;exact⟨qaa Value.bool (by rw[hrN,CN fun k x hk hx=>hb k x (by omega) hx,qam hpr];rfl),H.ext⟩
theorem I5(N:Int)(a b:Option Addr)(n c m d:Nat)(es:List Ed)(fl:List Int)(w:World)(R:Rd w a 4 Co es)(hn:es.length=n)(hn2:n<=1000000)(Rf:Rd w b 1 I1 fl)(hm:fl.length=m)(hm2:m<=1000000) :
  Ret prog 224 #[CM N a n c,.slice b m d] w fun v w'=>v=.bool (BO N es fl)/\Ext [] w w':=by
 subst hn hm;obtain⟨w0,rfl,H⟩:=qE w;refine iG func224 U<|Af<|Be [.int .i64 N,.slice a es.length c] (.agg _) U U H ?_;rintro b2 w - H;refine A5 U<|qA<|AB<|Af<|Bo (α:=Unit) 131008 (fun _=>[(16,.bool<|!(decide (fl.length=es.length) && Cd N es))]) (fun _ w'=>Ctx w0 [] w' [(b2,Bl 53 [.int .i64 N,.slice a es.length c])]) U ?_ ?_
 .refine Dh qf qf U H at0 U (Aj qB (Hk N a es.length c es _ (R.ext0 H.ext) U hn2) U ?_);rintro v w ⟨rfl,hx7⟩;replace H:=H.call hx7;refine Df U<|Bj U<|iC 9 U ?_ ?_
  .intro h1;refine Al U<|Al U<|Al U<|Al U<|Al U<|Al U<|Bz U (.bool _) U<|Ab ?_;exact⟨rfl,(),rfl,⟨qaa Value.bool (by rw[qac];simp_all;try omega),trivial⟩,H⟩
  .intro h2;refine AH U<|Cp qf U<|Ae qf U<|Bh qf U H at0 U<|Cp qf U<|CV U U<|B9 U (.bool _) U<|Ab ?_;exact⟨rfl,(),rfl,⟨qaa Value.bool (by rw[qac];simp_all;try omega),trivial⟩,H⟩
 rintro - j16 w H;refine iB U ?_ ?_
 .intro h1;refine Af<|A5 U<|qA<|Bf<|AD<|B6 (v:=(.bool _)) U U U ?_;exact⟨qaa Value.bool (by unfold BO;rw[show(decide (fl.length=es.length) && Cd N es)=false by simpa using h1];rfl),H.ext⟩
 .intro h1;have h1':(decide (fl.length=es.length) && Cd N es)=true:=by simpa using h1
  have hw:BO N es fl=(List.zipWith inB es fl).all id:=by unfold BO;rw[h1'];rfl
  have hle:fl.length=es.length:=by simp only[qag,qav]at h1';exact h1'.1
  refine A1<|Aa<|AB<|Af<|Ag U<|qA<|AK<|AY 2199023124528 (α:=Nat) (fun i=>[(5,.int .i64 (i:Int))]) (fun i w'=>i<=fl.length/\Ctx w0 [] w' [(b2,Bl 53 [.int .i64 N,.slice a es.length c])]/\∀(k:Nat) (e:Ed) (x:Int),k<i->es[k]?=some e->fl[k]?=some x->inB e x=true) (fun i=>fl.length - i) 0 U ?_ ?_ ?_
  .exact⟨rfl,trivial⟩
  .exact⟨qai _,H,fun k e x h=>absurd h<|qay _⟩
  .rintro i j w ⟨hi,H,hb⟩;refine AB<|Af<|Ad U<|AH U<|Cp qf U<|CH U U<|qA<|iB U ?_ ?_
   .intro h2;obtain⟨e,he⟩:=Au (l:=es) (i:=i);obtain⟨x,hx⟩:=Au (l:=fl) (i:=i)
    have hnext:inB e x=true->∀(k:Nat) (f:Ed) (y:Int),k<i+1->es[k]?=some f->fl[k]?=some y->inB f y=true:=fun h3 k f y hk hf hy=>by
     rcases qao k i with h7|h7
     .exact hb k f y h7 hf hy
     .obtain rfl:k=i:=by omega
      rw[he]at hf;rw[hx]at hy;cases hf;cases hy;exact h3
    have hbad:inB e x=false->BO N es fl=false:=fun h3=>by rw[hw,C2 (JU he hx)<|show id (inB e x)=false from h3]
    have hxf:=hx;refine A1<|Aa<|AB<|AK<|BG [([0,1,2,3,4,5,6,7,8,9,10,11,12,13,14,15,16],17)] (fun z=>Ext [] w0 z/\z.heap[b2]?=some (Bl 53 [.int .i64 N,.slice a es.length c])) [] AW (⟨H.drew.ext,H.drew.get at0⟩) ?_;refine A0 U U<|Bq U<|AG U<|B4 Rf qf qf U U (by rfl) ?_;refine AU qf U (fun _ hx=>((Rf.ext0 hx.1).fld hxf rfl (j:=0) rfl))<|X4 U U U<|DT U<|iF 28 U ?_ ?_
    .intro g1;refine Bs U<|Bs U<|Bs U<|Bs U<|Bs U<|Bs U<|Bs U<|Bs U<|Bs U<|Bs U ?_;refine Bs U<|A6 ?_;replace H:=H.drew;refine Bz U (.bool _) U<|Ab<|Bv (⟨H.ext,H.get at0⟩)<|Bu<|EG U<|Af<|A5 U<|qA<|Bf<|Bn<|AD<|AD<|Bn<|AD<|B6 (v:=(.bool _)) U U U ?_;exact⟨qaa Value.bool (hbad (by unfold inB;rw[qa1<|show ¬0<=x by omega];rfl)).symm,H.ext⟩
    .intro g1;refine Bq U<|AG U<|B4 Rf qf qf U U (by rfl) ?_;refine AU qf U (fun _ hx=>((Rf.ext0 hx.1).fld hxf rfl (j:=0) rfl)) ?_;refine Ah qf U<|AU qf U (fun _ hx=>(by rw[Ai<|hx.2];rfl)) ?_;refine AG U<|B4 R qf qf U U (by rfl) ?_;refine Ah qf U<|AU qf U (fun _ hx=>((R.ext0 hx.1).fld he rfl (j:=2) rfl)) ?_;refine X5 U U U<|A6 ?_;replace H:=H.drew;refine B9 U (.bool _) U<|Ab<|Bv (⟨H.ext,H.get at0⟩)<|Bu<|iB U ?_ ?_
     .intro g2;refine Af<|A5 U<|qA<|Bf<|Bn<|AD<|AD<|Bn<|AD<|B6 (v:=(.bool _)) U U U ?_;exact⟨qaa Value.bool (hbad (by unfold inB;rw[qa1<|show ¬x<=e.cap by omega,qcv])).symm,H.ext⟩
     .intro g2;refine A1<|Av<|Aa<|Aw<|Ad U<|Ap U U ?_;refine Ag U<|qA ?_;exact⟨i+1,rfl,⟨rfl,trivial⟩,⟨by omega,H,hnext (by unfold inB;rw[qam<|show 0<=x by omega,qam<|show x<=e.cap by omega];rfl)⟩,by omega⟩
   .intro h2;refine Bi<|Am<|Am<|A8<|Aa<|Af<|A5 U<|qA<|Bf<|B6 (v:=(.bool _)) U U U ?_;refine⟨qaa Value.bool ?_,H.ext⟩;rw[hw,CN fun k x hk hx=>?_];rw[qcl]at hk;obtain⟨e,he⟩:=Au (l:=es) (i:=k);obtain⟨y,hy⟩:=Au (l:=fl) (i:=k);rw[JU he hy]at hx;cases hx;exact hb k e y (by omega) he hy
def ovI(g:Gr)(x:Nat->Int)(v i q:Nat):Int:=if q<v then BJ g x q else if q=v then Em g x i v else 0
theorem ZB(g:Gr)(x:Nat->Int)(q:Nat):ovI g x 0 0 q=0:=by
 unfold ovI;rw[if_neg<|by omega]
 split
 .rfl
 .rfl
theorem Ado(g:Gr)(x:Nat->Int)(v q:Nat):ovI g x v g.E q=ovI g x (v+1) 0 q:=by
 unfold ovI
 by_cases h:q<v
 .rw[if_pos h,if_pos<|by omega]
 .rw[if_neg h]
  by_cases h2:q=v
  .subst h2;rw[if_pos rfl,if_pos<|by omega];rfl
  .rw[if_neg h2,if_neg<|by omega]
   split <;> rfl
theorem Ql(g:Gr)(x:Nat->Int)(v i:Nat):ovI g x v i v=Em g x i v:=by unfold ovI;rw[if_neg<|by omega,if_pos rfl]
theorem ZC(g:Gr)(x:Nat->Int)(v i j:Nat)(h:q≠v):ovI g x v i q=ovI g x v j q:=by unfold ovI;rw[if_neg h,if_neg h]
theorem TV(N:Int)(a b:Option Addr)(n c m d:Nat)(es:List Ed)(fl:List Int)(w:World)(R:Rd w a 4 Co es)(hn:es.length=n)(hn2:n<=1000000)(Rf:Rd w b 1 I1 fl)(hm:fl.length=m)(hm2:m<=1000000)(hwi:BO N es fl=true) :
  Ret prog 225 #[CM N a n c,.slice b m d] w fun v w'=>∃b',v=.slice (some ⟨b',0,none⟩) N.toNat N.toNat/\Ctx w [] w' [(b',Bl 2 (BF (BJ (grE N es)<|flE fl) N.toNat))]:=by
 subst hn hm;obtain⟨w0,rfl,H⟩:=qE w;obtain⟨hl,hr,hin⟩:=Cj hwi;obtain⟨h1,h40,hE,hall,-⟩:=Cr hr;obtain⟨nn,hnn⟩:∃nn:Nat,N=(nn:Int):=⟨N.toNat,by omega⟩;obtain⟨g,hg⟩:=qD<|grE N es;obtain⟨x,hx⟩:=qD<|flE fl;have hgE:g.E=es.length:=by rw[hg];rfl
 rw[<-hg,<-hx];subst hnn;rw[show((nn:Int)).toNat=nn from rfl]
 have hxb:∀j,j<es.length->0<=x j/\x j<=4503599627370496:=fun j hj=>by
  obtain⟨e',he'⟩:=Au (l:=es) (i:=j) (h:=hj);obtain⟨y,hy⟩:=Au (l:=fl) (i:=j);have h3:=hin j e' y he' hy;have h4:=Dw<|hall e'<|qad he';rw[hx];show 0<=fl.getD j 0/\fl.getD j 0<=4503599627370496;rw[Bp hy];omega
 refine iG func225 U<|Af<|Be [.int .i64 (nn:Int),.slice a es.length c] (.agg _) U U H ?_;rintro b2 w - H;refine qG 7 ?_;refine Aj qB (I5 (nn:Int) a b es.length c fl.length d es fl _ (R.ext0 H.ext) U hn2 (Rf.ext0 H.ext) U hm2) U ?_;rintro v w ⟨rfl,hx10⟩;replace H:=H.call hx10;rw[hwi];refine qGp 3 ?_ ?_
 .intro g1;cases g1
 .intro g1;refine qG 6 ?_;rintro b14 w - H;rw[show((nn:Int)).toNat=nn from rfl,DP]at H;refine qG 9 ?_;refine AY 147573952589676380352 (α:=Nat) (fun v=>[(6,.int .i64 (v:Int))]) (fun v w'=>v<=nn/\Ctx w0 [] w' [(b14,Bl 2 (BF (ovI g x v 0) nn)),(b2,Bl 53 [.int .i64 (nn:Int),.slice a es.length c])]) (fun v=>nn - v) 0 U ?_ ?_ ?_
  .exact⟨rfl,trivial⟩
  .refine⟨qai _,?_⟩;rw[show BF (ovI g x 0 0) nn=BF (fun _=>0) nn from qbk fun q _=>by rw[ZB]];exact H
  .clear H;rintro v j6 w ⟨hv,H⟩;refine qGp 8 ?_ ?_
   .intro g2;refine qG 9 ?_;refine AY 147573952589674315904 (α:=Nat) (fun i=>[(7,.int .i64 (i:Int))]) (fun i w'=>i<=es.length/\Ctx w0 [] w' [(b14,Bl 2 (BF (ovI g x v i) nn)),(b2,Bl 53 [.int .i64 (nn:Int),.slice a es.length c])]) (fun i=>es.length - i) 0 U ?_ ?_ ?_
    .exact⟨rfl,trivial⟩
    .exact⟨qai _,H⟩
    .clear H;rintro i j7 w ⟨hi,H⟩;refine qGp 8 ?_ ?_
     .intro g3;obtain⟨e,he⟩:=Au (l:=es) (i:=i);obtain⟨y,hy⟩:=Au (l:=fl) (i:=i);have hxi:x i=y:=by rw[hx];exact Bp hy
      obtain⟨hf0,hfN,ht0,htN,-⟩:=Dw<|hall e<|qad he;have hgf:g.f i=e.f.toNat:=by rw[hg];exact Se he
      have hgt:g.t i=e.t.toNat:=by rw[hg];exact Sf he
      have hbi:=GG (g:=g) (x:=x) (c:=4503599627370496) v (k:=i) fun j hj=>hxb j (by omega);have hyb:=hxb i (by omega);rw[hxi]at hyb;obtain⟨z,hz⟩:=qD<|Em g x i v+if e.t=(v:Int)then y else 0
      have hzb : -(300*4503599627370496)<=z/\z<=300*4503599627370496:=by
       rw[hz];split <;> omega
      have hst:Em g x (i+1) v=z - if e.f=(v:Int)then y else 0:=by
       rw[G1,hgf,hgt,hxi,hz]
       by_cases h1:e.t=(v:Int)
       .rw[EM<|show e.t.toNat=v by omega,if_pos h1]
        by_cases h2:e.f=(v:Int)
        .rw[EM<|show e.f.toNat=v by omega,if_pos h2];omega
        .rw[E3<|show ¬e.f.toNat=v by omega,if_neg h2];omega
       .rw[E3<|show ¬e.t.toNat=v by omega,if_neg h1]
        by_cases h2:e.f=(v:Int)
        .rw[EM<|show e.f.toNat=v by omega,if_pos h2];omega
        .rw[E3<|show ¬e.f.toNat=v by omega,if_neg h2];omega
      refine qG 9 ?_;refine A2 R qf qf U U (by rfl)<|Ae qf U<|A9 qf U (((R.ext0 H.ext).fld he U (j:=1) U)) ?_;refine qG 4 ?_;refine EH 140703128616960 (α:=Unit) (fun _=>[]) (fun _ w'=>Ctx w0 [] w' [(b14,Bl 2 (BF (fun q=>if q=v then z else ovI g x v i q) nn)),(b2,Bl 53 [.int .i64 (nn:Int),.slice a es.length c])]) U ?_ ?_
      .skip
       refine iB U ?_ ?_
       .intro g4;refine DL 12 AW U U ?_;refine qG 5 ?_;refine U0 v _ U qf U (by rintro _ rfl;exact H.drew) at0 (by simp) (qaa (Value.int .i64)<|Ql g x v i)<|BT U<|AS U<|Br Rf qf qf U U (by rfl)<|BD qf U (by rintro _ rfl;exact(((Rf.ext0 H.drew.ext).fld hy rfl (j:=0) rfl))) ?_;refine qG 3 ?_;replace H:=H.drew;refine BZ v (fun q => .int .i64 (if q=v then z else ovI g x v i q)) (.int _ _) qf U U U H at0 (by simp) (by rw[if_pos rfl,hz,if_pos g4]) (fun q _ hq=>by rw[if_neg hq]) ?_;rintro w H;refine qA ?_;exact⟨(),rfl,trivial,H⟩
       .intro g4;refine A1<|Aa ?_;refine⟨(),rfl,trivial,?_⟩
        rw[show BF (fun q=>if q=v then z else ovI g x v i q) nn=BF (ovI g x v i) nn from qbk fun q _=>by
         dsimp only
         split
         .rename_i h;subst h;rw[Ql,hz,if_neg g4,qds]
         .rfl]
        exact H
      .rintro - j34 w H;refine qG 4 ?_;refine A2 R qf qf U U (by rfl)<|Ae qf U<|A9 qf U (((R.ext0 H.ext).fld he U (j:=0) U)) ?_;refine qGp 4 ?_ ?_
       .intro g5;refine DL 12 AW U U ?_;refine qG 5 ?_;refine U0 v _ U qf U (by rintro _ rfl;exact H.drew) at0 (by simp) (qaa (Value.int .i64)<|if_pos U)<|BT U<|AS U<|Br Rf qf qf U U (by rfl)<|BD qf U (by rintro _ rfl;exact(((Rf.ext0 H.drew.ext).fld hy rfl (j:=0) rfl))) ?_;refine qG 3 ?_;replace H:=H.drew;refine BZ v (fun q => .int .i64 (ovI g x v (i+1) q)) (.int _ _) qf U U U H at0 (by simp) (by rw[Ql,hst,if_pos g5]) (fun q _ hq=>by dsimp only;rw[if_neg hq,ZC g x v (i+1) i hq]) ?_;rintro w H;refine Ab<|Av<|Aa<|Aw<|Ad U<|Ap U U ?_;refine Ag U<|qA ?_;exact⟨i+1,rfl,⟨rfl,trivial⟩,⟨by omega,H⟩,by omega⟩
       .intro g5;refine A1<|Av<|Aa<|Aw<|Ad U<|Ap U U ?_;refine Ag U<|qA ?_;refine⟨i+1,rfl,⟨rfl,trivial⟩,⟨by omega,?_⟩,by omega⟩
        rw[show BF (ovI g x v<|i+1) nn=BF (fun q=>if q=v then z else ovI g x v i q) nn from qbk fun q _=>by
         dsimp only
         split
         .rename_i h;subst h;rw[Ql,hst,if_neg g5,Int.sub_zero]
         .rename_i h;rw[ZC g x v (i+1) i h]]
        exact H
     .intro g3;refine Bi<|Am<|Am<|A8<|Av<|Aa<|Aw<|Ad U<|Ap U U ?_;refine Ag U<|qA ?_;obtain rfl:i=es.length:=by omega
      refine⟨v+1,rfl,⟨rfl,trivial⟩,⟨by omega,?_⟩,by omega⟩;rw[show BF (ovI g x (v+1) 0) nn=BF (ovI g x v es.length) nn from qbk fun q _=>by rw[<-Ado,hgE]];exact H
   .intro g2;refine Bi<|Am<|Am<|A8<|Aa<|Af<|AH U<|AP U<|qA<|Bf<|B6 (v:=(.slice _ _ _)) U U U ?_;obtain rfl:v=nn:=by omega
    rw[show BF (ovI g x v 0) v=BF (BJ g x) v from qbk fun q hq=>by
     rw[qa5]at hq;unfold ovI
     rw[if_pos hq]]at H
    exact⟨b14,rfl,H.left (L:=[_]) (L':=[_])⟩
theorem Si(N:Int)(a b:Option Addr)(n c m d:Nat)(es:List Ed)(fl:List Int)(w:World)(R:Rd w a 4 Co es)(hn:es.length=n)(hn2:n<=1000000)(Rf:Rd w b 1 I1 fl)(hm:fl.length=m)(hm2:m<=1000000) :
  Ret prog 193 #[CM N a n c,.slice b m d] w fun v w'=>v=.bool (Ei N es fl)/\Ext [] w w':=by
 subst hn hm;obtain⟨w0,rfl,H⟩:=qE w;obtain⟨bw,hbw⟩:=qD<|BO N es fl;refine iG func193 U<|Af<|Be [.int .i64 N,.slice a es.length c] (.agg _) U U H ?_;rintro b2 w - H;refine qG 7 ?_;refine Aj qB (I5 N a b es.length c fl.length d es fl _ (R.ext0 H.ext) U hn2 (Rf.ext0 H.ext) U hm2) U ?_;rintro v w ⟨rfl,hx9⟩;replace H:=H.call hx9;rw[<-hbw];refine qGp 3 ?_ ?_
 .intro h1;refine qG 7 ?_;exact⟨qaa Value.bool (by unfold Ei;rw[<-hbw,show bw=false by simpa using h1];rfl),H.ext⟩
 .intro h1;have h1':bw=true:=by simpa using h1
  have hw:BO N es fl=true:=by rw[<-hbw];exact h1'
  have hf:Ei N es fl=(JH N es fl).all fun x=>decide (x=0):=by unfold Ei;rw[hw];rfl
  obtain⟨h40a,h40,-⟩:=Cr (Cj hw).2.1;obtain⟨nn,hnn⟩:∃nn:Nat,N=(nn:Int):=⟨N.toNat,by omega⟩;have hov:JH N es fl=tab (BJ (grE N es)<|flE fl) nn:=by rw[hnn];rfl
  refine qG 5 ?_;refine Aj qB (TV N a b es.length c fl.length d es fl _ (R.ext0 H.ext) U hn2 (Rf.ext0 H.ext) U hm2 hw) U ?_;rintro v w ⟨b',rfl,H13⟩;replace H:=Ctx.back (L1:=[]) (L2:=[_]) H H13;rw[show N.toNat=nn by omega]at H |-;refine qG 9 ?_;obtain⟨z,hz⟩:=qD<|BJ (grE N es)<|flE fl;rw[hf,hov,<-hz];rw[<-hz]at H;have RT:Rd w (some ⟨b',0,none⟩) 1 I1 (tab z nn):=Cv<|H.get at0;obtain⟨w1,rfl⟩:=qD w;have hx1:=H.ext;have H:=Ctx.start w1 [];refine AY 33538128 (α:=Nat) (fun i=>[(6,.int .i64 (i:Int))]) (fun i w'=>i<=nn/\Ctx w1 [] w' []/\∀k,k<i->z k=0) (fun i=>nn - i) 0 U ?_ ?_ ?_
  .exact⟨rfl,trivial⟩
  .exact⟨qai _,H,fun k h=>absurd h<|qay _⟩
  .clear H;rintro i j w ⟨hi,H,hb⟩;refine qGp 8 ?_ ?_
   .intro h2;refine qG 8 ?_;refine A9 qf U (((RT.ext0 H.ext).fld (BP (f:=z)<|show i<nn by omega) U (j:=0) U)) ?_;refine qGp 3 ?_ ?_
    .intro h3;refine qG 11 ?_;exact⟨qaa Value.bool (C2 (BP (f:=z)<|show i<nn by omega)<|qa1 h3).symm,hx1.trans H.ext⟩
    .intro h3;refine A1<|Av<|Aa<|Aw<|Ad U<|Ap U U ?_;refine Ag U<|qA ?_;refine⟨i+1,rfl,⟨rfl,trivial⟩,⟨by omega,H,fun k hk=>?_⟩,by omega⟩
     rcases qao k i with h7|h7
     .exact hb k h7
     .obtain rfl:k=i:=by omega
      exact h3
   .intro h2;refine Bi<|Am<|Am<|A8<|Aa<|Af<|A5 U<|qA<|Bf<|B6 (v:=(.bool _)) U U U ?_;have hin:i=nn:=by omega
    refine⟨qaa Value.bool (CN fun k x hk hx=>?_).symm,hx1.trans H.ext⟩;obtain⟨h7,rfl⟩:=Lr hx;exact qam<|hb k<|by omega
theorem Pb(N:Int)(a:Option Addr)(n c:Nat)(es:List Ed)(hn:es.length=n)(hb:n<=1000000)(k:Int)(w:World):Ret prog 254 #[CM N a n c,.int .i64 k] w fun v w'=>v=.bool (HQ es k)/\Ext [] w w':=by
 subst hn;obtain⟨w0,rfl,H⟩:=qE w;refine iG func254 U<|Af<|Be [.int .i64 N,.slice a es.length c] (.agg _) U U H ?_;rintro b2 w - H;refine qG 7 ?_;refine iC 7 U ?_ ?_
 .intro h1;refine qG 12 ?_;exact⟨qaa Value.bool (by unfold HQ;rw[qac];simp_all;try omega),H.ext⟩
 .intro h2;refine qG 12 ?_;exact⟨qaa Value.bool (by unfold HQ;rw[qac];simp_all;try omega),H.ext⟩
theorem ZD(h:k<2*es.length:=by omega):HQ es (k:Int)=true:=by unfold HQ;simp;omega
theorem TW(N:Int)(a:Option Addr)(n c:Nat)(es:List Ed)(w:World)(R:Rd w a 4 Co es)(hn:es.length=n)(hb:n<=1000000)(k:Nat)(he:es[k / 2]?=some e)(hr:Cd N es=true):Ret prog 255 #[CM N a n c,.int .i64 (k:Int)] w fun v w'=>v=.tuple #[.int .i64 (Fh e k).1,.int .i64 (Fh e k).2.1,.int .i64 (Fh e k).2.2]/\Ext [] w w':=by
 subst hn;obtain⟨w0,rfl,H⟩:=qE w;have hk:=BH he;have hco:=Dw<|(Cr hr).2.2.2.1 e<|qad he;refine iG func255 U<|Af<|Be [.int .i64 N,.slice a es.length c] (.agg _) U U H ?_;rintro b2 w - H;refine qG 7 ?_;refine Bo (α:=Unit) 130816 (fun _=>[(16,.bool<|false)]) (fun _ w'=>Ctx w0 [] w' [(b2,Bl 53 [.int .i64 N,.slice a es.length c])]) U ?_ ?_
 .refine Dh qf qf U H at0 U (Aj qB (Hk N a es.length c es _ (R.ext0 H.ext) U hb) U ?_);rintro v w ⟨rfl,hx9⟩;replace H:=H.call hx9;rw[hr];refine qG 2 ?_;refine iC 11 U ?_ ?_
  .intro h1;refine qG 6 ?_;exact⟨rfl,(),rfl,⟨qaa Value.bool<|by simp_all,trivial⟩,H⟩
  .intro h2;refine qG 2 ?_;refine Aj qB (Pb N a es.length c es U hb (k:Int) _) U ?_;rintro v w ⟨rfl,hx14⟩;replace H:=H.call hx14;rw[ZD];refine qG 3 ?_;exact⟨rfl,(),rfl,⟨qaa Value.bool<|by rfl,trivial⟩,H⟩
 rintro - j16 w H;refine qG 7 ?_;refine Hn U U (show _<=(9223372036854775807:Int)by omega) ?_;rw[show(k:Int) / 2=((k / 2:Nat):Int)by omega];refine A2 R qf qf U U (by rfl)<|BC _ qf qf U U ((R.ext0 H.ext).row he U) ?_;refine AN qf H ?_;rintro b7 w - H;refine AM qf U U U (by exact Eg _) H at0 U ?_;rintro w H;refine qG 5 ?_;refine SU U U U ?_;rw[show(k:Int) % 2=((k % 2:Nat):Int)by omega];refine qGp 3 ?_ ?_
 .intro h1;refine CG (fun x=>x=_) AW U<|Aq qf U<|B7 qf U (by rintro _ rfl;exact H.drew) at0 U<|Aq qf U<|B7 qf U (by rintro _ rfl;exact H.drew) at0 U<|Aq qf U<|B7 qf U (by rintro _ rfl;exact H.drew) at0 U ?_;refine qG 4 ?_;rintro _ rfl;replace H:=H.drew;refine qG 3 ?_;exact⟨by unfold Fh;rw[if_neg<|by omega],H.ext⟩
 .intro h1;refine A1<|Aa<|CG (fun x=>x=_) AW U<|Aq qf U<|B7 qf U (by rintro _ rfl;exact H.drew) at0 U<|Aq qf U<|B7 qf U (by rintro _ rfl;exact H.drew) at0 U<|Aq qf U<|B7 qf U (by rintro _ rfl;exact H.drew) at0 U<|NX U U ?_;refine qG 4 ?_;rintro _ rfl;replace H:=H.drew;refine qG 2 ?_;exact⟨by unfold Fh;rw[if_pos<|by omega],H.ext⟩
theorem TX(N:Int)(a b:Option Addr)(n c m d:Nat)(es:List Ed)(fl:List Int)(w:World)(R:Rd w a 4 Co es)(hn:es.length=n)(hb:n<=1000000)(Rf:Rd w b 1 I1 fl)(hm:fl.length=m)(k:Nat){x:Int}(he:es[k / 2]?=some e)(hx:fl[k / 2]?=some x)(hw:BO N es fl=true) :
  Ret prog 226 #[CM N a n c,.slice b m d,.int .i64 (k:Int)] w fun v w'=>v=.int .i64 (Jd e x k)/\Ext [] w w':=by
 subst hn hm;obtain⟨w0,rfl,H⟩:=qE w;have hk:=BH he;obtain⟨hl,hr,hin⟩:=Cj hw;have hco:=Dw<|(Cr hr).2.2.2.1 e<|qad he;have hxx:=hin _ e x he hx;refine iG func226 U<|Af<|Be [.int .i64 N,.slice a es.length c] (.agg _) U U H ?_;rintro b3 w - H;refine qG 5 ?_;refine Bo (α:=Unit) 130944 (fun _=>[(16,.bool<|false)]) (fun _ w'=>Ctx w0 [] w' [(b3,Bl 53 [.int .i64 N,.slice a es.length c])]) U ?_ ?_
 .refine qG 2 ?_;refine Aj qB (I5 N a b es.length c fl.length d es fl _ (R.ext0 H.ext) U hb (Rf.ext0 H.ext) U<|by omega) U ?_;rintro v w ⟨rfl,hx9⟩;replace H:=H.call hx9;rw[hw];refine qG 2 ?_;refine iC 11 U ?_ ?_
  .intro h1;refine qG 6 ?_;exact⟨rfl,(),rfl,⟨qaa Value.bool<|by simp_all,trivial⟩,H⟩
  .intro h2;refine qG 2 ?_;refine Aj qB (Pb N a es.length c es U hb (k:Int) _) U ?_;rintro v w ⟨rfl,hx14⟩;replace H:=H.call hx14;rw[ZD];refine qG 3 ?_;exact⟨rfl,(),rfl,⟨qaa Value.bool<|by rfl,trivial⟩,H⟩
 rintro - j16 w H;refine qG 6 ?_;refine SU U U U ?_;rw[show(k:Int) % 2=((k % 2:Nat):Int)by omega];refine qGp 3 ?_ ?_
 .intro h1;refine CG (fun x=>x=_) AW U<|Aq qf U<|B7 qf U (by rintro _ rfl;exact H.drew) at0 U ?_;refine AS U<|Aeq U U U (show _<=(9223372036854775807:Int)by omega) ?_;rw[show(k:Int) / 2=((k / 2:Nat):Int)by omega];refine Br R qf qf U U (by rfl) ?_;refine Aq qf U<|BD qf U (by rintro _ rfl;exact(((R.ext0 H.drew.ext).fld he rfl (j:=2) rfl))) ?_;refine BT U<|AS U<|Aeq U U U (show _<=(9223372036854775807:Int)by omega) ?_;rw[show(k:Int) / 2=((k / 2:Nat):Int)by omega];refine Br Rf qf qf U U (by rfl)<|BD qf U (by rintro _ rfl;exact(((Rf.ext0 H.drew.ext).fld hx rfl (j:=0) rfl))) ?_;refine qG 3 ?_;rintro _ rfl;replace H:=H.drew;refine qG 3 ?_;exact⟨by unfold Jd;rw[if_neg<|by omega],H.ext⟩
 .intro h1;refine qG 5 ?_;refine Hn U U (show _<=(9223372036854775807:Int)by omega) ?_;rw[show(k:Int) / 2=((k / 2:Nat):Int)by omega];refine A2 Rf qf qf U U (by rfl)<|A9 qf U (((Rf.ext0 H.drew.ext).fld hx U (j:=0) U)) ?_;refine qG 5 ?_;exact⟨by unfold Jd;rw[if_pos<|by omega],H.ext⟩
theorem WC(N:Int)(a p:Option Addr)(n c q r:Nat)(es:List Ed)(pot:List Int)(w:World)(R:Rd w a 4 Co es)(hn:es.length=n)(hb:n<=1000000)(Rp:Rd w p 1 I1 pot)(hq:pot.length=q)(k:Nat)(hk:k<2*es.length)(hr:Cd N es=true)(hp:EN N pot=true) :
  Ret prog 227 #[CM N a n c,.slice p q r,.int .i64 (k:Int)] w fun v w'=>v=.int .i64 (Rh N es pot (k:Int))/\Ext [] w w':=by
 subst hn hq;obtain⟨w0,rfl,H⟩:=qE w;obtain⟨hN1,hN40,hn200,-⟩:=Cr hr;obtain⟨hpl,hpb⟩:=Je hp;obtain⟨e,he,hE,q1,q2,q3,q4,q5,q6⟩:=Mm hr hk;obtain⟨un,hun⟩:∃un:Nat,(Fh e k).1=un:=⟨(Fh e k).1.toNat,by omega⟩;obtain⟨vn,hvn⟩:∃vn:Nat,(Fh e k).2.1=vn:=⟨(Fh e k).2.1.toNat,by omega⟩;obtain⟨pu,hpu⟩:=Au (l:=pot) (i:=un);obtain⟨pv,hpv⟩:=Au (l:=pot) (i:=vn);have hbu:=hpb _ _ hpu;have hbv:=hpb _ _ hpv
 have hli:Rh N es pot (k:Int)=(Fh e k).2.2+pu - pv:=by
  unfold Rh;rw[hE,hun,hvn,qa7,qa7,Bp hpu,Bp hpv]
 rw[hli];refine iG func227 U<|Af<|Be [.int .i64 N,.slice a es.length c] (.agg _) U U H ?_;rintro b3 w - H;refine qG 6 ?_;refine Aj qB (TW N a es.length c es _ (R.ext0 H.ext) U hb k he hr) U ?_;rintro v w ⟨rfl,hx13⟩;replace H:=H.call hx13;rw[hun,hvn];refine qG 9 ?_;refine CG (fun x=>x=_) AW U<|AS U<|BT U<|AS U<|Br Rp qf qf U U (by rfl)<|BD qf U (by rintro _ rfl;exact(((Rp.ext0 H.drew.ext).fld hpu rfl (j:=0) rfl)))<|Fw U U<|BT U<|AS U<|Br Rp qf qf U U (by rfl)<|BD qf U (by rintro _ rfl;exact(((Rp.ext0 H.drew.ext).fld hpv rfl (j:=0) rfl))) ?_;refine qG 3 ?_;rintro _ rfl;replace H:=H.drew;refine qG 2 ?_;exact⟨rfl,H.ext⟩
theorem TY(N:Int)(a b p:Option Addr)(n c m d q r:Nat)(es:List Ed)(fl pot:List Int)(w:World)(R:Rd w a 4 Co es)(hn:es.length=n)(hn2:n<=1000000)(Rf:Rd w b 1 I1 fl)(hm:fl.length=m)(Rp:Rd w p 1 I1 pot)(hq:pot.length=q)(hq2:q<=1000000)(hw:BO N es fl=true) :
  Ret prog 194 #[CM N a n c,.slice b m d,.slice p q r] w fun v w'=>v=.bool (EN N pot && Gl N es fl pot)/\Ext [] w w':=by
 subst hn hm hq;obtain⟨w0,rfl,H⟩:=qE w;obtain⟨hfl,hr,hin⟩:=Cj hw;obtain⟨hN1,hN40,hn200,-⟩:=Cr hr;refine iG func194 U<|Af<|Be [.int .i64 N,.slice a es.length c] (.agg _) U U H ?_;rintro b3 w - H;refine A5 U<|qA<|AB<|Af<|Bo (α:=Unit) 268434432 (fun _=>[(27,.bool<|!decide ((pot.length:Int)=N))]) (fun _ w'=>Ctx w0 [] w' [(b3,Bl 53 [.int .i64 N,.slice a es.length c])]) U ?_ ?_
 .refine Dh qf qf U H at0 U (Aj qB (Hk N a es.length c es _ (R.ext0 H.ext) U hn2) U ?_);rintro v w ⟨rfl,hx11⟩;replace H:=H.call hx11;rw[hr];refine Df U<|Bj U<|iC 13 U ?_ ?_
  .intro h1;refine Al U<|Al U<|Al U<|Al U<|Al U<|Al U<|Bz U (.bool _) U<|Bj U<|Al U<|Al U ?_;refine Al U<|Al U<|Al U<|Bz U (.bool _) U<|Ab ?_;exact⟨rfl,(),rfl,⟨qaa Value.bool (by rw[qac] <;> simp_all <;> try omega),trivial⟩,H⟩
  .intro h2;refine AH U<|Cp qf U<|Ae qf U<|Bh qf U H at0 U<|Cp qf U<|CV U U<|B9 U (.bool _) U<|Bj U<|iC 21 U ?_ ?_
   .intro h3;refine Al U<|Al U<|Al U<|Al U<|Al U<|Bz U (.bool _) U<|Ab ?_;exact⟨rfl,(),rfl,⟨qaa Value.bool (by rw[qac] <;> simp_all <;> try omega),trivial⟩,H⟩
   .intro h4;refine AH U<|Cp qf U<|Ae qf U<|Bh qf U H at0 U<|CV U U<|B9 U (.bool _) U<|Ab ?_;exact⟨rfl,(),rfl,⟨qaa Value.bool (by rw[qac] <;> simp_all <;> try omega),trivial⟩,H⟩
 rintro - j27 w H;refine iB U ?_ ?_
 .intro h1;refine Af<|A5 U<|qA<|Bf<|AD<|B6 (v:=(.bool _)) U U U ?_;exact⟨qaa Value.bool (by unfold EN;rw[show decide ((pot.length:Int)=N)=false by simpa using h1];simp),H.ext⟩
 .intro h1;have h1':(pot.length:Int)=N:=by simpa using h1
  refine A1<|Aa<|AB<|Af<|Ag U<|qA<|AK<|AY 4503599358935232 (α:=Nat) (fun i=>[(7,.int .i64 (i:Int))]) (fun i w'=>i<=fl.length/\Ctx w0 [] w' [(b3,Bl 53 [.int .i64 N,.slice a es.length c])]) (fun i=>fl.length - i) 0 U ?_ ?_ ?_
  .exact⟨rfl,trivial⟩
  .exact⟨qai _,H⟩
  .clear H;rintro i j w ⟨hi,H⟩;refine AB<|Af<|Ad U<|AH U<|Cp qf U<|CH U U<|qA<|iB U ?_ ?_
   .intro h2;obtain⟨e,he⟩:=Au (l:=es) (i:=i);obtain⟨x,hxf⟩:=Au (l:=fl) (i:=i);have hxx:=hin _ e x he hxf;refine A1<|Aa<|AB<|AK<|BG [([0,1,2,3,4,5,6,7,8,9,10,11,12,13,14,15,16],17)] (fun z=>Ext [] w0 z/\z.heap[b3]?=some (Bl 53 [.int .i64 N,.slice a es.length c])) [] AW (⟨H.drew.ext,H.drew.get at0⟩) ?_;refine A0 U U<|Bq U<|AG U<|B4 Rf qf qf U U (by rfl) ?_;refine AU qf U (fun _ hx=>((Rf.ext0 hx.1).fld hxf rfl (j:=0) rfl)) ?_;refine X4 U U U<|DT U<|iF 39 U ?_ ?_
    .intro g1;omega
    .intro g1;refine Bq U<|AG U<|B4 Rf qf qf U U (by rfl) ?_;refine AU qf U (fun _ hx=>((Rf.ext0 hx.1).fld hxf rfl (j:=0) rfl)) ?_;refine Ah qf U<|AU qf U (fun _ hx=>(by rw[Ai<|hx.2];rfl)) ?_;refine AG U<|B4 R qf qf U U (by rfl) ?_;refine Ah qf U<|AU qf U (fun _ hx=>((R.ext0 hx.1).fld he rfl (j:=2) rfl)) ?_;refine X5 U U U<|A6 ?_;replace H:=H.drew;refine B9 U (.bool _) U<|Ab<|Bv (⟨H.ext,H.get at0⟩)<|Bu<|iB U ?_ ?_
     .intro g2;omega
     .intro g2;refine A1<|Av<|Aa<|Aw<|Ad U<|Ap U U ?_;refine Ag U<|qA ?_;exact⟨i+1,rfl,⟨rfl,trivial⟩,⟨by omega,H⟩,by omega⟩
   .intro h2;refine Bi<|Am<|Am<|A8<|Aa<|AB<|Af<|Ag U<|qA<|AK<|AY 1180587117117783933248 (α:=Nat) (fun i=>[(8,.int .i64 (i:Int))]) (fun i w'=>i<=pot.length/\Ctx w0 [] w' [(b3,Bl 53 [.int .i64 N,.slice a es.length c])]/\∀(k:Nat) (x:Int),k<i->pot[k]?=some x->J8 x=true) (fun i=>pot.length - i) 0 U ?_ ?_ ?_
    .exact⟨rfl,trivial⟩
    .exact⟨qai _,H,fun k x h=>absurd h<|qay _⟩
    .clear H;rintro i8 j8 w ⟨hi8,H,hb⟩;refine AB<|Af<|Ad U<|AH U<|Cp qf U<|CH U U<|qA<|iB U ?_ ?_
     .intro h3;obtain⟨x,hx⟩:=Au (l:=pot) (i:=i8);refine A1<|Aa<|AB<|AK<|Af<|Bo (α:=Unit) 1180303390341259591680 (fun _=>[(69,.bool<|!J8 x)]) (fun _ w'=>Ctx w0 [] w' [(b3,Bl 53 [.int .i64 N,.slice a es.length c])]) U ?_ ?_
      .refine AH U (Ad U<|A2 Rp qf qf U U (by rfl) ?_);refine A9 qf U (((Rp.ext0 H.ext).fld hx U (j:=0) U)) ?_;refine Es U U<|Bj U<|iC 63 U ?_ ?_
       .intro h5;refine Al U<|Al U<|Al U<|Al U<|Al U<|Bz U (.bool _) U<|Ab ?_;exact⟨rfl,(),rfl,⟨qaa Value.bool (by unfold J8;rw[qac];simp_all;try omega),trivial⟩,H⟩
       .intro h6;refine AH U<|Ad U<|A2 Rp qf qf U U (by rfl) ?_;refine A9 qf U (((Rp.ext0 H.ext).fld hx U (j:=0) U))<|CH U U<|B9 U (.bool _) U<|Ab ?_;exact⟨rfl,(),rfl,⟨qaa Value.bool (by unfold J8;rw[qac];simp_all;try omega),trivial⟩,H⟩
      rintro - j69 w H;refine iB U ?_ ?_
      .intro g1;refine Af<|A5 U<|qA<|Bf<|Bn<|AD<|AD<|Bn<|AD<|B6 (v:=(.bool _)) U U U ?_;exact⟨qaa Value.bool (by unfold EN;rw[C2 hx<|by simpa using g1];rfl),H.ext⟩
      .intro g1;refine A1<|Av<|Aa<|Aw<|Ad U<|Ap U U ?_;refine Ag U<|qA ?_;exact⟨i8+1,rfl,⟨rfl,trivial⟩,⟨by omega,H,GN hx hb<|by simpa using g1⟩,by omega⟩
     .intro h3
      have hp:EN N pot=true:=by
       unfold EN;rw[CN fun k x hk hx=>hb k x (by omega) hx,qam h1'];rfl
      rw[hp,qbs];refine Bi<|Am<|Am<|A8<|Aa<|AB<|Af<|Ag U<|qA<|AK<|AY 618968839051069420038259264 (α:=Nat) (fun i=>[(9,.int .i64 (i:Int))]) (fun i w'=>i<=2*es.length/\Ctx w0 [] w' [(b3,Bl 53 [.int .i64 N,.slice a es.length c])]/\∀k,k<i->Fo N es fl pot k=true) (fun i=>2*es.length - i) 0 U ?_ ?_ ?_
      .exact⟨rfl,trivial⟩
      .exact⟨qai _,H,fun k h=>absurd h<|qay _⟩
      .clear H;rintro i9 j9 w ⟨hi9,H,hb9⟩;refine AB<|Af<|Ad U<|AH U<|Cp qf U<|Fm U U ?_;refine CH U U<|qA<|iB U ?_ ?_
       .intro h4;have hi2:i9<2*es.length:=by omega
        obtain⟨e,x,he,hx,hro,r1,r2,r3⟩:=Mn hw hi2
        have hgo:Fo N es fl pot i9=true->∀k,k<i9+1->Fo N es fl pot k=true:=fun h3 k hk=>by
         rcases qao k i9 with h7|h7
         .exact hb9 k h7
         .obtain rfl:k=i9:=by omega
          exact h3
        refine A1<|Aa<|AB<|AK<|Af<|Bo (α:=Unit) 618818903915238308802723840 (fun _=>[(88,.bool<|!Fo N es fl pot i9)]) (fun _ w'=>Ctx w0 [] w' [(b3,Bl 53 [.int .i64 N,.slice a es.length c])]) U ?_ ?_
        .refine Dh qf qf U H at0 U (AH U<|Ad U<|Aj qB (TX N a b es.length c fl.length d es fl _ (R.ext0 H.ext) U hn2 (Rf.ext0 H.ext) U i9 he hx hw) U ?_);rintro v w ⟨rfl,hx80⟩;replace H:=H.call hx80;rw[<-hro];refine Es U U<|Bj U<|iC 82 U ?_ ?_
         .intro h7;refine Dh qf qf U H at0 U<|AH U<|Ad U<|Aj qB (WC N a p es.length c pot.length r es pot _ (R.ext0 H.ext) U hn2 (Rp.ext0 H.ext) U i9 hi2 hr hp) U ?_;rintro v w ⟨rfl,hx86⟩;replace H:=H.call hx86;refine CH U U<|Bz U (.bool _) U<|Ab ?_;exact⟨rfl,(),rfl,⟨qaa Value.bool (by unfold Fo;rw[qac];simp_all;try omega),trivial⟩,H⟩
         .intro h8;refine Al U<|Al U<|Al U<|Al U<|Al U<|B9 U (.bool _) U<|Ab ?_;exact⟨rfl,(),rfl,⟨qaa Value.bool (by unfold Fo;rw[qac];simp_all;try omega),trivial⟩,H⟩
        rintro - j88 w H;refine iB U ?_ ?_
        .intro g1;refine Af<|A5 U<|qA<|Bf<|Bn<|AD<|AD<|Bn<|AD<|B6 (v:=(.bool _)) U U U ?_;exact⟨qaa Value.bool (by unfold Gl;rw[C2 (qef hi2)<|by simpa using g1]),H.ext⟩
        .intro g1;refine A1<|Av<|Aa<|Aw<|Ad U<|Ap U U ?_;refine Ag U<|qA ?_;exact⟨i9+1,rfl,⟨rfl,trivial⟩,⟨by omega,H,hgo<|by simpa using g1⟩,by omega⟩
       .intro h4;refine Bi<|Am<|Am<|A8<|Aa<|Af<|A5 U<|qA<|Bf<|B6 (v:=(.bool _)) U U U ?_;exact⟨qaa Value.bool (by unfold Gl;rw[qaw.2 fun k hk=>hb9 k (by have:=qa5.1 hk;omega)]),H.ext⟩
theorem LV(N:Int)(a b p:Option Addr)(n c m d q r:Nat)(es:List Ed)(fl pot:List Int)(w:World)(R:Rd w a 4 Co es)(hn:es.length=n)(hn2:n<=1000000)(Rf:Rd w b 1 I1 fl)(hm:fl.length=m)(hm2:m<=1000000)(Rp:Rd w p 1 I1 pot)(hq:pot.length=q)(hq2:q<=1000000) :
  Ret prog 141 #[CM N a n c,Na b p m d q r] w fun v w'=>v=.bool (Ev N es fl pot)/\Ext [] w w':=by
 subst hn hm hq;obtain⟨w0,rfl,H⟩:=qE w;obtain⟨br,hbr⟩:=qD<|Cd N es;obtain⟨bf,hbf⟩:=qD<|Ei N es fl;obtain⟨bp,hbp⟩:=qD<|EN N pot && Gl N es fl pot;have hC:Ev N es fl pot=(br && (bf && bp)):=by rw[hbr,hbf,hbp];rfl
 rw[hC];refine iG func141 U<|Af<|Be [.int .i64 N,.slice a es.length c] (.agg _) U U H ?_;rintro b2 w - H;refine Be [.slice b fl.length d,.slice p pot.length r] (.agg _) U U H ?_;rintro b3 w - H;refine qG 5 ?_;refine Aj qB (Hk N a es.length c es _ (R.ext0 H.ext) U hn2) U ?_;rintro v w ⟨rfl,hx6⟩;replace H:=H.call hx6;rw[<-hbr];refine Bj U<|Az 7 U ?_ ?_
 .intro h1;refine qG 3 ?_;refine Aj qB (Si N a b es.length c fl.length d es fl _ (R.ext0 H.ext) U hn2 (Rf.ext0 H.ext) U hm2) U ?_;rintro v w ⟨rfl,hx11⟩;replace H:=H.call hx11;rw[<-hbf];refine qG 2 ?_;refine Az 13 U ?_ ?_
  .intro h2;refine qG 5 ?_;have hwi:BO N es fl=true:=(E4 (by rw[<-hbf];simp_all)).1;refine Aj qB (TY N a b p es.length c fl.length d pot.length r es fl pot _ (R.ext0 H.ext) U hn2 (Rf.ext0 H.ext) U (Rp.ext0 H.ext) U hq2 hwi) U ?_;rintro v w ⟨rfl,hx19⟩;replace H:=H.call hx19;rw[<-hbp];refine qG 6 ?_;exact⟨qaa Value.bool<|by simp_all,H.ext⟩
  .intro h3;refine qG 12 ?_;exact⟨qaa Value.bool<|by simp_all,H.ext⟩
 .intro h4;refine qG 18 ?_;exact⟨qaa Value.bool<|by simp_all,H.ext⟩
structure LS2 where
 i:Nat
 a:Option Addr
 c:Nat
 f:List Value
 a2:Option Addr
 c2:Nat
 f2:List Value
theorem ZE{x:Int}(h:rs[i]?=some x):(Ji rs).take (2*(i+1))=(Ji rs).take (2*i)++[⟨rs.length,i,x,0⟩,⟨i,rs.length,4503599627370496,0⟩]:=by
 rw[show 2*(i+1)=2*i+1+1 by omega,qbr,qbr,KH h,Mq<|BH h,qaz];rfl
theorem WD(rs:List Int)(os:List Du)(net:Bool)(i:Nat)(h1:net=true->i=0)(h2:¬net=true->i=rs.length):os.map Jh++(Ji rs).take (2*i)=Cm rs os net:=by
 unfold Cm
 congr 1
 split
 .rename_i h;rw[h1 h];rfl
 .rename_i h;rw[h2 h,qc5 (by rw[Mr];omega)]
theorem Jk(a b:Option Addr)(n c m e:Nat)(rs:List Int)(ds:List Du)(net:Bool)(w:World)(R:Rd w a 1 I1 rs)(hn:rs.length=n)(Rd':Rd w b 7 BK ds)(hm:ds.length=m)(hn2:n<=1000000:=by omega)(hm2:m<=1000000:=by omega):
  Ret prog 211 #[.slice a n c,.slice b m e,.bool net] w (RoundRes w rs ds net):=by
 subst hn hm;obtain⟨w0,rfl,H⟩:=qE w;obtain⟨bb,hbb⟩:=qD<|CY rs ds;obtain⟨os,hos⟩:=qD<|opn ds;have hol:os.length<=ds.length:=by rw[hos];exact EW ds
 refine iG func211 U<|Af<|AN qf H ?_;rintro b6 w - H;refine AP U<|Ag U<|qA<|AB<|Af<|AH U<|AH U<|Aj qB (Sa a b _ c _ e rs ds _ (R.ext0 H.ext) U hn2 (Rd'.ext0 H.ext) U hm2) U ?_;rintro v w ⟨rfl,hx17⟩;replace H:=H.call hx17;rw[<-hbb];refine Df U<|qA<|iB U ?_ ?_
 .intro h1;refine Af<|Bd [.int .i64 0,.slice none 0 0] qf qf ?_;refine AM qf U U U (by simp[AF]) H at0 U ?_;rintro w H;refine AP U<|Ag U<|qA<|Bf<|AD<|P7 U U U qf qf H at0 U (show _=(.slice _ _ _)from rfl) (show _=(.int _ _)from rfl) ?_;exact⟨H.ext,.inl ⟨by rw[<-hbb];exact h1,rfl⟩⟩
 .intro h1;refine A1<|Aa<|Af<|AH U<|Cp qf U<|Ag U<|qA<|Af<|Ad U<|Ap U U ?_;refine Bd [.int .i64<|(rs.length:Int)+1,.slice none 0 0] qf qf<|AN qf H ?_;rintro b10 w - H;refine AM qf U U U (by simp[AF]) H at0 U ?_;rintro w H;refine qA<|Af<|AP U<|qA<|Af<|AH U<|Aj qB (JZ b _ e ds _ (Rd'.ext0 H.ext) U (hm:=hm2)) U ?_;rintro v w F;rw[<-hos]at F;obtain⟨a4,n4,c4,f4,rfl,O4,hb4⟩:=F.ex;have hl4:=O4.llen;rw[GO]at hl4;obtain rfl:os.length=n4:=by omega
  refine AP U<|qA<|AB ?_;have hb6:=H.lt at1;have hb10:=H.lt at0;have RO:Rd w a4 7 BK os:=OS.rd O4 (fun y hy=>(hb4 y hy).1) (fun _ _=>rfl)<|by omega
  have hROn:os≠[]->(adr a4).block∉[b10,b6]:=fun hne=>by
   obtain⟨q,rfl⟩:=O4.form<|qbu.2 hne;have:=(hb4 (q,Bl 111 f4)<|qab.2 rfl).2;simp only[qaf,qan,or_false];show ¬(q=b10\/q=b6);dsimp only at this;omega
  have H4:=H.call F.ext;have hs4:=H4.size;have hb60:w0.heap.size<=b6:=(H4.own _<|qad at1).elim (fun h=>by cases h) id;have hb100:w0.heap.size<=b10:=(H4.own _<|qad at0).elim (fun h=>by cases h) id;have hl6:=H4.lt at1;have hl10:=H4.lt at0;have hx4:=H4.ext
  have hnR:rs≠[]->(adr a).block∉[b10,b6]:=fun hne=>by
   have:=R.lt' (fun _ _=>rfl) (by decide) hne;simp only[qaf,qan,or_false];omega
  have RR:=R.ext0 hx4;obtain⟨w4,rfl⟩:=qD w;have H:=Ctx.lend (L1:=[_,_]) (L2:=[]) H4;dsimp only[List.map]at H
  have hwe:∀d∈os,-1000000000<=d.we/\d.we<=1000000000:=fun d hd=>by
   rw[hbb]at h1;have hB:=(FO).1 (show CY rs ds=true by simpa using h1);rw[hos]at hd;have:=(CD (hB.due d (Qi hd).1).1).2.2.2.2.1;omega
  refine Af<|Ag U<|qA<|AK<|AY 295147905179218618368 (α:=LS2) (fun t=>[(11,.slice t.a2 t.i t.c2),(13,.int .i64 (t.i:Int))]) (fun t w'=>t.i<=os.length/\OS t.a t.i t.c 4 t.f (((os.take t.i).map Jh).flatMap Co)/\OS t.a2 t.i t.c2 1 t.f2 (((os.take t.i).map Du.id).map F2)/\Ctx w4 [b10,b6] w' ((b10,Bl 53 [.int .i64<|(rs.length:Int)+1,.slice t.a t.i t.c])::(b6,Bl 53 [.int .i64 0,.slice none 0 0])::(ent t.a2 24 t.f2++ent t.a 195 t.f))) (fun t=>os.length - t.i) ⟨0,none,0,[],none,0,[]⟩ U ?_ ?_ ?_
  .exact⟨rfl,rfl,trivial⟩
  .exact⟨qai _,OS.nil,OS.nil,H⟩
  .clear H;rintro⟨i,aE,cE,fE,aI,cI,fI⟩ jj w ⟨hi,O,OI,H⟩;dsimp only at hi O OI H;dsimp only;refine AB<|Af<|Ad U<|AH U<|Cp qf U<|CH U U<|qA<|iB U ?_ ?_
   .intro h3;obtain⟨d,hd⟩:=Au (l:=os) (i:=i);have hwd:=hwe d<|qad hd;refine A1<|Aa<|AB<|AK<|BG [([0,1,2,3,4,5,6,7,8,9,10,11,12,13,14,15,16,17,18,19,20,21,22,23],24),([],25),([26],27)] (fun z=>Ext [b10,b6] w4 z/\z.heap[b10]?=some (Bl 53 [.int .i64<|(rs.length:Int)+1,.slice aE i cE])) [27] AW (⟨H.drew.ext,H.drew.get at0⟩) ?_;refine A0 U U<|Ah qf U<|AU qf U (fun _ hx=>(by rw[Ai hx.2];rfl)) ?_;refine Bq U<|AG U<|B4 RO qf qf U U (by rfl) ?_;refine Ah qf U<|AU qf U (fun _ hx=>((RO.ext' hx.1 hROn).fld hd rfl (j:=1) rfl)) ?_;refine Bq U<|AG U<|B4 RO qf qf U U (by rfl) ?_;refine Ah qf U<|AU qf U (fun _ hx=>((RO.ext' hx.1 hROn).fld hd rfl (j:=2) rfl)) ?_;refine Bq U (AG U<|B4 RO qf qf U U (by rfl) ?_)
    refine Ah qf U<|AU qf U (fun _ hx=>((RO.ext' hx.1 hROn).fld hd rfl (j:=3) rfl)) ?_;refine Bq U<|AG U<|B4 RO qf qf U U (by rfl) ?_;refine Ah qf U<|AU qf U (fun _ hx=>((RO.ext' hx.1 hROn).fld hd rfl (j:=4) rfl)) ?_;refine Ob U U<|Ef (Co<|Jh d) qf qf ?_;refine A6 ?_;replace H:=H.drew;refine C5 _ (.agg _) qf qf qf U U U U H ?_;rintro b57 w - H;refine Ab<|Bv (⟨H.ext,H.get at1⟩)<|A0 U U ?_;refine A6<|BL (L:=_::_::ent aI 24 fI) qf qf qf qf qf U U U H O U (Eg _) ?_;rintro aE' cE' fE' w H O;refine Ab<|Bv (⟨H.ext,H.get at0⟩)<|A0 U U ?_;refine Ah qf U<|A6<|Ch (.slice _ _ _) qf U U U H at0 (by(simp;done)) ?_;rintro w H;refine Ab<|Bw U<|Bu ?_
    replace H:=H.perm<|qc6 [_,_]<|qb5 (l₁:=ent aI 24 fI) (l₂:=ent aE' 195 fE');refine Aw<|AH U<|AH U<|Ad U<|A2 RO qf qf U U (by rfl) ?_;refine Ae qf U<|A9 qf U (((RO.ext' H.ext hROn).fld hd U (j:=0) U)) ?_;refine C5 _ (.int _ _) qf qf qf U U U U H ?_;rintro b66 w - H;refine BL (L:=_::_::ent aE' 195 fE') qf qf qf qf qf U U U H OI U (by simp[AF]) ?_;rintro aI' cI' fI' w H OI;refine AP U<|Ab<|Av<|Aa<|Aw<|Ad U<|Ap U U ?_;refine Ag U<|qA ?_
    exact⟨⟨i+1,aE',cE',fE',aI',cI',fI'⟩,rfl,⟨rfl,rfl,trivial⟩,⟨by dsimp only;omega,by dsimp only;rw[Fk hd,qbn];exact O,by dsimp only;rw[Fk hd,qau];exact OI,H.perm<|qc6 [_,_]<|qb5 (l₁:=ent aE' 195 fE') (l₂:=ent aI' 24 fI')⟩,by dsimp only;omega⟩
   .intro h3;obtain rfl:i=os.length:=by omega
    rw[qba]at O OI;obtain⟨wq,rfl⟩:=qD w;have H7:=H;refine Bi<|Am<|Am<|A8<|Aa<|AB<|Af<|Ag U<|qA<|AK<|AY 9903520019135137019840184320 (α:=LSt) (fun t=>[(14,.int .i64 (t.i:Int))]) (fun t w'=>(t.i<=rs.length/\(net=true->t.i=0))/\OS t.a (os.length+2*t.i) t.c 4 t.full ((os.map Jh++(Ji rs).take (2*t.i)).flatMap Co)/\Ctx w4 [b10,b6] w' ((b10,Bl 53 [.int .i64<|(rs.length:Int)+1,.slice t.a (os.length+2*t.i) t.c])::(b6,Bl 53 [.int .i64 0,.slice none 0 0])::(ent aI 24 fI++ent t.a 195 t.full))) (fun t=>rs.length - t.i) ⟨0,aE,cE,fE⟩ U ?_ ?_ ?_
    .exact⟨rfl,trivial⟩
    .exact⟨⟨qai _,fun _=>rfl⟩,by dsimp only;rw[Nat.mul_zero,List.take_zero,qar];exact O,H⟩
    .clear H H7 O;rintro⟨i,aE2,cE2,fE2⟩ jj2 w ⟨⟨hi,hnet⟩,O,H⟩;dsimp only at hi hnet O H;dsimp only;refine AB<|Af<|Bo (α:=Unit) 75262715820734970593280 (fun _=>[(75,.bool<|(decide (i<rs.length) && !net))]) (fun _ w'=>Ctx w4 [b10,b6] w' ((b10,Bl 53 [.int .i64<|(rs.length:Int)+1,.slice aE2 (os.length+2*i) cE2])::(b6,Bl 53 [.int .i64 0,.slice none 0 0])::(ent aI 24 fI++ent aE2 195 fE2))) U ?_ ?_
     .refine Ad U (AH U<|Cp qf U<|CH U U<|Bj U<|iC 72 U ?_ ?_)
      .intro h1;refine Bj U<|Df U<|Bz U (.bool _) U<|Ab ?_;exact⟨rfl,(),rfl,⟨qaa Value.bool (by rw[qac];simp_all;try omega),trivial⟩,H⟩
      .intro h2;refine Al U<|Al U<|B9 U (.bool _) U<|Ab ?_;exact⟨rfl,(),rfl,⟨qaa Value.bool (by rw[qac];simp_all;try omega),trivial⟩,H⟩
     rintro - j75 w H;refine A3 _ U ?_ ?_
     .intro h4;rw[qag,qav,qcf]at h4;obtain⟨x,hx7⟩:=Au (l:=rs) (i:=i) (h:=h4.1);refine A1<|Aa<|AB<|AK<|Eb [([0,1,2,3,4,5,6,7,8,9,10,11],12),([],13),([14],15)] (fun z=>Ext [b10,b6] w4 z/\z.heap[b10]?=some (Bl 53 [.int .i64<|(rs.length:Int)+1,.slice aE2 (os.length+2*i) cE2])) [15] AW (⟨H.drew.ext,H.drew.get at0⟩) ?_;refine A0 U U<|Ah qf U<|AU qf U (fun _ hx=>(by rw[Ai hx.2];rfl)) ?_;refine AG U<|AG U<|Bq U<|AG U<|B4 R qf qf U U (by rfl) ?_;refine AU qf U (fun _ hx=>((RR.ext' hx.1 hnR).fld hx7 rfl (j:=0) rfl))<|Ef (Co ⟨rs.length,i,x,0⟩) qf qf ?_;refine AG U<|AG U<|Ef (Co ⟨i,rs.length,4503599627370496,0⟩) qf qf ?_;refine A6 ?_;replace H:=H.drew
      refine Cs (Co ⟨rs.length,i,x,0⟩++Co ⟨i,rs.length,4503599627370496,0⟩) qf qf qf H ?_;rintro b90 w - H;refine Ab<|Bv (⟨H.ext,H.get at1⟩)<|A0 U U ?_;refine A6<|BL (L:=_::_::ent aI 24 fI) qf qf qf qf qf U U U H O U (fun v hv=>(qa2.1 hv).elim (Eg _ v)<|Eg _ v) ?_;rintro aE' cE' fE' w H O;refine Ab<|Bv (⟨H.ext,H.get at0⟩)<|A0 U U ?_;refine Ah qf U<|A6<|Ch (.slice _ _ _) qf U U U H at0 (by(simp;done)) ?_;rintro w H;refine Ab<|Bw U<|Bu<|Av<|Aa<|Aw<|Ad U<|Ap U U ?_;refine Ag U<|qA ?_;refine⟨⟨i+1,aE',cE',fE'⟩,rfl,⟨rfl,trivial⟩,⟨⟨by dsimp only;omega,fun h=>by rw[h4.2]at h;cases h⟩,?_,?_⟩,by dsimp only;omega⟩
      .dsimp only;rw[ZE hx7,<-qaz,qbn,show os.length+2*(i+1)=os.length+2*i+2 by omega];exact O
      .dsimp only;rw[show os.length+2*(i+1)=os.length+2*i+2 by omega];exact H
     .intro h4;have h4':¬(i<rs.length/\net=false):=fun h=>by rw[qam h.1,h.2]at h4;cases h4
      have hre:=WD rs os net i hnet (fun h=>by
       have hf:net=false:=by simpa using h
       rcases qao i rs.length with h7|h7
       .exact absurd ⟨h7,hf⟩ h4'
       .omega)
      rw[hre]at O
      have hlen:os.length+2*i=(Cm rs os net).length:=by
       rw[<-hre,qat,qaj,qa8,Mr];omega
      rw[hlen]at O H;refine Bi<|Am<|Am<|A8<|Aa<|Af<|Dh qf qf U H at0 U<|AH U<|AM qf U U U (by simp[AF]) H at1 U ?_;rintro w H;refine AP U<|Ag U<|qA<|Bf<|P7 U U U qf qf H at1 U (show _=(.slice _ _ _)from rfl) (show _=(.int _ _)from rfl) ?_;have hxx:=hx4.then H.ext fun x hx => .inr (by simp only[qaf,qan,or_false]at hx;omega)
      have hown:∀y∈((b10,Bl 53 [.int .i64<|(rs.length:Int)+1,.slice aE2 (Cm rs os net).length cE2])::(b6,Bl 53 [.int .i64<|(rs.length:Int)+1,.slice aE2 (Cm rs os net).length cE2])::(ent aI 24 fI++ent aE2 195 fE2)),w0.heap.size<=y.1:=fun y hy=>by
       rcases H.own y hy with h|h
       .simp only[qaf,qan,or_false]at h;omega
       .omega
      refine⟨hxx,.inr ⟨by rw[<-hbb];simpa using h1,aE2,(Cm rs os net).length,cE2,.slice aI os.length cI,rfl,?_,?_⟩⟩
      .rw[<-hos];refine⟨aE2,cE2,rfl,O.le,OS.rd O (fun x hx=>H.blk x<|qae _<|qae _<|qap _ hx) (fun _ _=>rfl)<|by decide,fun hne'=>?_⟩;obtain⟨q,rfl⟩:=O.form<|qbu.2 hne';exact hown (q,Bl 195 fE2)<|qae _<|qae _<|qap _<|qab.2 U
      .rw[<-hos];refine⟨aI,cI,by rw[qaj],by rw[qaj];exact OI.le,OI.rd1 fun x hx=>H.blk x<|qae _<|qae _<|qax _ hx,fun hne'=>?_⟩;obtain⟨q,rfl⟩:=OI.form (by have:=qbu.2 hne';rw[qaj]at this;exact this);exact hown (q,Bl 24 fI)<|qae _<|qae _<|qax _<|qab.2 U
theorem perm5{a b c d e:α}:(a::b::c::d::e::r).Perm (d::a::e::b::c::r) :=
 (qbl (l₁:=[a,b,c]) (l₂:=e::r)).trans (((qbl (l₁:=[b,c]) (l₂:=r)).cons _).cons _)
def nrm(k:Nat)(f:Nat->Int):Nat->Int:=fun i=>if i<k then f i else 0
def BitN(x r:Nat):Prop:=x<2 ^ r/\(0<x->2 ^ r<=2*x)/\(x=0->r=0)
def ZF(es:List Ed):Nat->Nat->Prop
 |0,m=>m=0
 |i+1,m=>∃m0 r,ZF es i m0/\BitN (Ck es i).toNat r/\m=max m0 r
inductive Fills (es:List Ed) (n:Nat):(Nat->Int)->(Nat->Int)->(Nat->Int)->(Nat->Int)->(Nat->Int)->(Nat->Int)->Prop
 |stop {x p ov x' p' ov':Nat->Int} (h:R9 es n (nrm es.length x) (nrm n p) ov false x' p' ov'):Fills es n x p ov x' p' ov'
 |go {x p ov x1 p1 ov1 x' p' ov':Nat->Int} (h:R9 es n (nrm es.length x) (nrm n p) ov true x1 p1 ov1) (k:Fills es n x1 p1 ov1 x' p' ov'):Fills es n x p ov x' p' ov'
def Qm(es:List Ed)(n:Nat):Nat->(Nat->Int)->(Nat->Int)->(Nat->Int)->(Nat->Int)->Prop
 |0,x,p,xf,pf=>xf=x/\pf=p
 |j+1,x,p,xf,pf=>∃x1 x' p' ov',x1=IG (grE (n:Int) es) (Fi es j) x p/\Fills (esC es (Fi es j)) n x1 p (BJ (grE (n:Int) es) x1) x' p' ov'/\Qm es n j x' p' xf pf
def Afc(es:List Ed)(n:Nat)(x p:Nat->Int):Prop:=∃m,ZF es es.length m/\Qm es n m (fun _=>0) (fun _=>0) x p
theorem Sj(f:Nat->Int)(n:Nat):∃f1:Nat->Int,f1=nrm n f/\BF f n=BF f1 n/\flE (tab f1 n)=f1/\E7 (tab f1 n)=f1/\∀i,i<n->f1 i=f i:=by
 refine⟨fun i=>if i<n then f i else 0,rfl,qbk fun i hi=>by dsimp only;rw[if_pos<|qa5.1 hi],?_,?_,fun i hi=>if_pos hi⟩
 all_goals
  funext i
  first|unfold flE|unfold E7
  rcases qao i n with h|h
  .rw[Bp<|BP h]
  .rw[qb1,qbg (by rw[CP];exact h)];exact(if_neg<|by omega).symm
theorem ZG(h:Fine g cap x p)(hy:∀i,i<g.E->y i=x i):Fine g cap y p:=by
 refine⟨fun i hi=>by rw[hy i hi];exact h.in' i hi,fun a ha hr=>h.fit a ha ?_⟩;unfold C3 at hr |-;rw[hy _<|by omega]at hr;exact hr
theorem Aja{N:Nat}(hn:es.length=n)(hg:grE (N:Int) es=g)(hcap:∀i,i<n->Ck es i=cap i)(H0:Ctx w ((SL bs bf bp bo N ae n ce kk x p ov full).map (·.1)) w<|SL bs bf bp bo N ae n ce kk x p ov full)(O:OS ae n ce 4 full (es.flatMap Co))(hr:Cd (N:Int) es=true)(hF:Fine g cap x p)(hov:∀v,v<N->ov v=BJ g x v)(hpb:∀v,v<N -> -1073741824<=p v/\p v<=1073741824) :
  Ret prog 200 #[ptr bs] w fun v w'=>∃(b:Bool) (x' p' ov':Nat->Int) (kk':Int),v=.bool b/\Ctx w ((SL bs bf bp bo N ae n ce kk x p ov full).map (·.1)) w' (SL bs bf bp bo N ae n ce kk' x' p' ov' full)/\Fine g cap x' p'/\(∀v,v<N->ov' v=BJ g x' v)/\(∀v,v<N -> -1073741824<=p' v/\p' v<=1073741824) /\
   (b=false->∀v,v<N->BJ g x' v<=0)/\(b=true->GF g x'+1<=GF g x)/\R9 es N (nrm es.length x) (nrm N p) ov b x' p' ov':=by
 subst hn hg;obtain⟨x1,hx9,hx1,hxn,-,hxe⟩:=Sj x es.length;obtain⟨p1,hp9,hp1,-,hpn,hpe⟩:=Sj p N;have hgo:=JW hr;have hsl:SL bs bf bp bo N ae es.length ce kk x p ov full=SL bs bf bp bo N ae es.length ce kk x1 p1 ov full:=by unfold SL;rw[hx1,hp1]
 have hF1:Fine (grE (N:Int) es) (Ck es) x1 p1:=Nh hgo (ZG (Lt hF hcap) hxe) hpe;have hov1:∀v,BJ (grE (N:Int) es) x1 v=BJ (grE (N:Int) es) x v:=fun v=>JT hxe v;have hex:GF (grE (N:Int) es) x1=GF (grE (N:Int) es) x:=CT fun v _=>by rw[hov1]
 rw[hsl]at H0 |-;refine Ret.mono (Ac9 H0 O hr hF1 (fun v hv=>by rw[hov1];exact hov v hv) (fun v hv=>by rw[hpe v hv];exact hpb v hv) hxn hpn) ?_;rintro v w' ⟨b,x',p',ov',kk',h1,h2,h3,h4,h5,h6,h7,h8⟩;exact⟨b,x',p',ov',kk',h1,h2,Lt h3 fun i hi=>(hcap i hi).symm,h4,h5,h6,(fun h=>by rw[<-hex];exact h7 h),by rw[<-hx9,<-hp9];exact h8⟩
theorem ZH(g:Gr)(v:Nat):BJ g (fun _=>0) v=0:=by
 have:BJ g (fun _=>0) v=BU (fun _=>0) g.E:=CT fun i _=>by rw[Int.mul_zero]
 rw[this,G9]
structure PSt where
 j:Nat
 full:List Value
 x:Nat->Int
 p:Nat->Int
 ov:Nat->Int
 kk:Int
structure FSt where
 x:Nat->Int
 p:Nat->Int
 ov:Nat->Int
 kk:Int
theorem Adp(N:Nat)(a:Option Addr)(c:Nat)(es:List Ed)(w:World)(R:Rd w a 4 Co es)(hr:Cd (N:Int) es=true) :
  Ret prog 156 #[CM (N:Int) a es.length c] w fun v w'=>∃(bf bp:Nat) (x p:Nat->Int) (k:Int),v=.tuple #[Na (some ⟨bf,0,none⟩) (some ⟨bp,0,none⟩) es.length es.length N N,.int .i64 k,.int .i64 0]/\Fine (grE (N:Int) es) (Ck es) x p/\(∀v,v<N->BJ (grE (N:Int) es) x v=0)/\(∀v,v<N -> -1073741824<=p v/\p v<=1073741824)/\Afc es N x p/\Ctx w [] w' [(bf,Bl 2 (BF x es.length)),(bp,Bl 2 (BF p N))]:=by
 obtain⟨w0,rfl,H⟩:=qE w;obtain⟨hN1,hN40,hn200,hall,-⟩:=Cr hr;have hI:I64 (N:Int):=by unfold I64;omega
 refine iG func156 U<|Af<|Be [.int .i64 (N:Int),.slice a es.length c] (.agg _) U U H ?_;rintro b1 w - H;refine AN qf H ?_;rintro b2 w - H;refine Ag U<|Ag U<|qA<|Pz<|AB<|Af<|Dh qf qf U H at1 U<|Aj qB (K9 (N:Int) a es.length c es _ (R.ext0 H.ext) U hI) U ?_;rintro v w ⟨rfl,hx11⟩;replace H:=H.call hx11;refine Df U<|qA<|iB U ?_ ?_
 .intro h1;rw[hr]at h1;cases h1
 .intro h1;refine A1<|Aa<|Dk 8589918240 (α:=Nat × Nat × Nat × Nat × Nat × Nat × List Value) (fun z=>[(5,ptr z.1)]) (fun z w'=>OS (some ⟨z.2.2.2.2.1,0,none⟩) es.length z.2.2.2.2.2.1 4 z.2.2.2.2.2.2 (es.flatMap Co)/\Ctx w0 [] w' [(z.2.1,Bl 2 (BF (fun _=>0) es.length)),(z.2.2.2.1,Bl 2 (BF (fun _=>0) N)),(z.2.2.2.2.1,Bl 195 z.2.2.2.2.2.2),(z.1,Bl 261 (SC N (some ⟨z.2.2.2.2.1,0,none⟩) es.length z.2.2.2.2.2.1 z.2.1 z.2.2.1 z.2.2.2.1 0)),(z.2.2.1,Bl 2 (BF (fun _=>0) N)),(b2,Bl 55 [.slice none 0 0,.slice none 0 0]),(b1,Bl 53 [.int .i64 (N:Int),.slice a es.length c])]) U ?_ ?_
  .skip
   have hb1:=H.get at1;refine Oh (n:=19) (anc:=Gn) Bk.b (Ae7 es.length es) (fun i=>14+i) (RG b1 N es.length a c) (Gp N es.length) (show Tryz.prog.follows .mixedOrders=true by kernel_rfl) U (by kernel_rfl) ?_ (fun i j _ _ h=>by have h:14+i=14+j:=h;omega) (fun i k b B=>sStab b1 N es.length a c i k b B) ?_ ?_
   .intro k hk
    have:k=0\/k=1\/k=2\/k=3\/k=4\/k=5\/k=6\/k=7\/k=8\/k=9\/k=10\/k=11\/k=12\/k=13\/k=14\/k=15\/k=16\/k=17\/k=18:=by omega
    simp[Gn];omega
   .intro i o e' w' B hi ho hold hsl hx hbl hgd;have h4:e'.g 1=ptr b1:=(hold 1 fun j hj h=>by have h:1=14+j:=h;omega).trans rfl;have hc4:w'.heap[b1]?=some (Bl 53 [.int .i64 (N:Int),.slice a es.length c]):=hx.to (by exact hb1) (by simp);have hcs:i=0\/i=1\/i=2\/i=3\/i=4\/i=5\/i=6\/i=7\/i=8\/i=9\/i=10\/i=11\/i=12\/i=13\/i=14\/i=15\/i=16\/i=17\/i=18:=by omega
    have hpure:∀{v:Value},Gp N es.length i=none->i≠5->RG b1 N es.length a c i (IF B i default)=v->AQB Bk.b (Ae7 es.length es) (fun i=>14+i) (RG b1 N es.length a c) (Gp N es.length) i e' w' B (put e' (some<|14+i) v) w':=fun h1 h5 h2=>⟨default,fun h=>absurd h h5,fun ob h=>(by rw[h1]at h;cases h),.refl _ _,by rw[h2]⟩
    rcases hcs with rfl|rfl|rfl|rfl|rfl|rfl|rfl|rfl|rfl|rfl|rfl|rfl|rfl|rfl|rfl|rfl|rfl|rfl|rfl
    .cases qal ho;exact Ae (by kernel_rfl) h4<|Ab<|hpure U (by decide) U
    .cases qal ho;exact A9 qf (hsl 0 (by simp[Gn])) (by rw[Ai hc4];rfl)<|Ab<|hpure U (by decide) U
    .cases qal ho;refine NZ U qf qf (Ctx.start w' []) fun b w2 H O=>?_;have hbb:=H.blk (b,_)<|qah ..;exact Ab ⟨⟨b,0,[]⟩,(fun h=>by cases h),fun ob h=>(by obtain rfl:=qal h;exact⟨(H.own _<|qah ..).elim (fun h=>by cases h) id,hbb⟩),H.ext,rfl⟩
    .cases qal ho;exact Ae (by kernel_rfl) h4<|Ab<|hpure U (by decide) U
    .cases qal ho;exact A9 qf (hsl 3 (by simp[Gn])) (by rw[Ai hc4];rfl)<|Ab<|hpure U (by decide) U
    .cases qal ho;have h16:e'.g 16=.slice (some ⟨(B 2).b,0,none⟩) 0 0:=hsl 2 (by simp[Gn]);have h18:e'.g 18=.slice a es.length c:=hsl 4 (by simp[Gn])
     by_cases hn:es.length=0
     .rw[hn]at h18;exact QO U qf qf qf h16 h18<|Ab ⟨default,fun _ => .inl hn,fun ob h=>(by simp[Gp,hn]at h),.refl _ _,by simp[RG,sQ,hn,IF]⟩
     .refine Te U qf qf qf qf qf U (es.flatMap Co) h16 h18 (E5 fun _ _=>rfl) (Rd.app (R.ext0<|(H.ext.trans<|Ext.drew [] _).trans hx) (fun _ _=>rfl)<|by decide) fun b c' full' w2 hb hx2 hbl2 O2=>?_;exact Ab ⟨⟨b,c',full'⟩,fun _ => .inr O2,fun ob h=>(by simp only[Gp,hn]at h;simp at h;subst h;exact⟨by dsimp only;omega,by dsimp only;rw[HM];exact hbl2⟩),hx2,by simp[RG,sQ,hn,IF]⟩
    .cases qal ho;refine Bd [.int .i64 (N:Int),.slice (some ⟨(sQ es.length B).b,0,none⟩) es.length (sQ es.length B).c] qf qf (hl:=?_)<|Ab<|hpure U (by decide) U;show Instr.fill _ _ [(0,e'.g 15),(1,e'.g 19)]=_;rw[show e'.g 15=.int .i64 (N:Int)from hsl 1 (by simp[Gn]),show e'.g 19=.slice (some ⟨(sQ es.length B).b,0,none⟩) es.length (sQ es.length B).c from hsl 5 (by simp[Gn])];rfl
    .cases qal ho;exact Ae (by kernel_rfl) h4<|Ab<|hpure U (by decide) U
    .cases qal ho;exact A9 qf (hsl 7 (by simp[Gn])) (by rw[Ai hc4];rfl)<|Ab<|hpure U (by decide) U
    .cases qal ho;exact Cp qf (hsl 8 (by simp[Gn]))<|Ab<|hpure U (by decide) U
    .cases qal ho;refine Hb qf qf qf qf (hsl 9 (by simp[Gn])) (hsl 9 (by simp[Gn])) (Ctx.start w' []) fun b w2 hb H=>?_;have hbb:=H.get at0;rw[show((es.length:Nat):Int).toNat=es.length from rfl,DP]at hbb;exact Ab ⟨⟨b,0,[]⟩,(fun h=>by cases h),fun ob h=>(by obtain rfl:=qal h;exact⟨by dsimp only;omega,hbb⟩),H.ext,rfl⟩
    .cases qal ho;exact Ae (by kernel_rfl) h4<|Ab<|hpure U (by decide) U
    .cases qal ho;exact A9 qf (hsl 11 (by simp[Gn])) (by rw[Ai hc4];rfl)<|Ab<|hpure U (by decide) U
    .cases qal ho;refine Hb qf qf qf qf (hsl 12 (by simp[Gn])) (hsl 12 (by simp[Gn])) (Ctx.start w' []) fun b w2 hb H=>?_;have hbb:=H.get at0;rw[show((N:Nat):Int).toNat=N from rfl,DP]at hbb;exact Ab ⟨⟨b,0,[]⟩,(fun h=>by cases h),fun ob h=>(by obtain rfl:=qal h;exact⟨by dsimp only;omega,hbb⟩),H.ext,rfl⟩
    .cases qal ho;exact Ae (by kernel_rfl) h4<|Ab<|hpure U (by decide) U
    .cases qal ho;exact A9 qf (hsl 14 (by simp[Gn])) (by rw[Ai hc4];rfl)<|Ab<|hpure U (by decide) U
    .cases qal ho;refine Hb qf qf qf qf (hsl 15 (by simp[Gn])) (hsl 15 (by simp[Gn])) (Ctx.start w' []) fun b w2 hb H=>?_;have hbb:=H.get at0;rw[show((N:Nat):Int).toNat=N from rfl,DP]at hbb;exact Ab ⟨⟨b,0,[]⟩,(fun h=>by cases h),fun ob h=>(by obtain rfl:=qal h;exact⟨by dsimp only;omega,hbb⟩),H.ext,rfl⟩
    .cases qal ho;refine Bd (sSC N es.length B) qf qf (hl:=?_)<|Ab<|hpure U (by decide) U;show Instr.fill _ _ [(0,e'.g 20),(1,e'.g 24),(2,e'.g 27),(3,e'.g 30)]=_;rw[show e'.g 20=.agg #[.int .i64 (N:Int),.slice (some ⟨(sQ es.length B).b,0,none⟩) es.length (sQ es.length B).c]from hsl 6 (by simp[Gn]),show e'.g 24=.slice (some ⟨(B 10).b,0,none⟩) es.length es.length from hsl 10 (by simp[Gn]),show e'.g 27=.slice (some ⟨(B 13).b,0,none⟩) N N from hsl 13 (by simp[Gn]),show e'.g 30=.slice (some ⟨(B 16).b,0,none⟩) N N from hsl 16 (by simp[Gn])];rfl
    .cases qal ho;refine Be (sSC N es.length B) (.agg _) (hsl 17 (by simp[Gn])) U (Ctx.start w' []) fun b w2 hb H=>?_;exact Ab ⟨⟨b,0,[]⟩,(fun h=>by cases h),fun ob h=>(by obtain rfl:=qal h;exact⟨by dsimp only;omega,H.get at0⟩),H.ext,rfl⟩
   .intro o e' w' B ho A;have hl1:=AX hb1;have hl2:=AX<|H.get at0;have h9:w.drew.heap.size=w.heap.size:=rfl
    obtain⟨iq,hiq,hqb,hqh,hqo,O5⟩:∃iq,(iq=2\/iq=5)/\(sQ es.length B).b=(B iq).b/\w'.heap[(B iq).b]?=some (Bl 195 (sQ es.length B).f)/\(Gp N es.length iq≠none)/\OS (some ⟨(sQ es.length B).b,0,none⟩) es.length (sQ es.length B).c 4 (sQ es.length B).f (es.flatMap Co):=by
     by_cases hn:es.length=0
     .have he:es=[]:=qck hn;have hsq:sQ es.length B=⟨(B 2).b,0,[]⟩:=if_pos hn;rw[hsq];refine⟨2,.inl rfl,rfl,(A.blk 2 _ (by omega) trivial (show Gp N es.length 2=some _ from rfl)).1,by simp[Gp],?_⟩;subst he;exact⟨(fun q hq=>by injection hq with hq;subst hq;rfl),(fun h=>by cases h),rfl,qaq _,rfl⟩
     .have hsq:sQ es.length B=B 5:=if_neg hn;have ho5:Gp N es.length 5=some fun B=>Bl 195 (B 5).f:=by simp[Gp,hn]
      rw[hsq];exact⟨5,.inr rfl,rfl,(A.blk 5 _ (by omega) trivial ho5).1,by rw[ho5];simp,(A.good 5 (by omega) trivial rfl).resolve_left hn⟩
    have hiq19:iq<19:=by omega
    have ob10:Gp N es.length 10≠none:=by simp[Gp]
    have ob13:Gp N es.length 13≠none:=by simp[Gp]
    have ob16:Gp N es.length 16≠none:=by simp[Gp]
    have ob18:Gp N es.length 18≠none:=by simp[Gp]
    have hne:=fun i j hi hj hij oi oj=>A.ne i j hi hj hij trivial trivial oi oj;have k10:=A.blk 10 _ (by omega) trivial (show Gp N es.length 10=some _ from rfl);have k13:=A.blk 13 _ (by omega) trivial (show Gp N es.length 13=some _ from rfl);have k16:=A.blk 16 _ (by omega) trivial (show Gp N es.length 16=some _ from rfl);have k18:=A.blk 18 _ (by omega) trivial (show Gp N es.length 18=some _ from rfl)
    have kq:w.heap.size<=(B iq).b:=by
     cases hoq:Gp N es.length iq with
     |none=>exact absurd hoq hqo
     |some ob=>exact(A.blk iq ob hiq19 trivial hoq).2
    have hs0:=H.size;have n10_16:=hne 10 16 (by omega) (by omega) (by omega) ob10 ob16;have n10_q:=hne 10 iq (by omega) hiq19 (by omega) ob10 hqo;have n10_18:=hne 10 18 (by omega) (by omega) (by omega) ob10 ob18;have n10_13:=hne 10 13 (by omega) (by omega) (by omega) ob10 ob13;have n16_q:=hne 16 iq (by omega) hiq19 (by omega) ob16 hqo;have n16_18:=hne 16 18 (by omega) (by omega) (by omega) ob16 ob18;have n16_13:=hne 16 13 (by omega) (by omega) (by omega) ob16 ob13;have nq_18:=hne iq 18 hiq19 (by omega) (by omega) hqo ob18;have nq_13:=hne iq 13 hiq19 (by omega) (by omega) hqo ob13;have n18_13:=hne 18 13 (by omega) (by omega) (by omega) ob18 ob13;have n12:=H.ne at0 at1 (by decide);have hb20:=(H.own _<|qah ..).elim (fun h=>by cases h) id;have hb10:=(H.own _<|qae _<|qah ..).elim (fun h=>by cases h) id
    have Hc:Ctx w0 [] w' [((B 10).b,Bl 2 (BF (fun _=>0) es.length)),((B 16).b,Bl 2 (BF (fun _=>0) N)),((B iq).b,Bl 195 (sQ es.length B).f),((B 18).b,Bl 261 (sSC N es.length B)),((B 13).b,Bl 2 (BF (fun _=>0) N)),(b2,Bl 55 [.slice none 0 0,.slice none 0 0]),(b1,Bl 53 [.int .i64 (N:Int),.slice a es.length c])]:=by
     refine⟨(H.ext.trans<|Ext.drew [] _).trans A.ext,fun x hx=>?_,?_,fun x hx => .inr ?_⟩
     .simp only[qaf,qan,or_false]at hx
      rcases hx with rfl|rfl|rfl|rfl|rfl|rfl|rfl
      .exact k10.1
      .exact k16.1
      .exact hqh
      .exact k18.1
      .exact k13.1
      .exact A.ext.to (H.get at0) (by simp)
      .exact A.ext.to hb1 (by simp)
     .simp only[qbf,qaf,qan,or_false,forall_eq_or_imp,forall_eq,List.Pairwise.nil,false_imp_iff,implies_true,and_true];refine⟨⟨n10_16,n10_q,n10_18,n10_13,?_,?_⟩,⟨n16_q,n16_18,n16_13,?_,?_⟩,⟨nq_18,nq_13,?_,?_⟩,⟨n18_13,?_,?_⟩,⟨?_,?_⟩,n12⟩ <;> omega
     .simp only[qaf,qan,or_false]at hx
      rcases hx with rfl|rfl|rfl|rfl|rfl|rfl|rfl <;> (dsimp only;omega)
    cases qal ho;refine Dr U (ptr (B 18).b) (A.slot 18 (by omega) trivial)<|Ab ⟨((B 18).b,(B 10).b,(B 13).b,(B 16).b,(sQ es.length B).b,(sQ es.length B).c,(sQ es.length B).f),A.ds,⟨rfl,trivial⟩,O5,?_⟩;dsimp only;rw[hqb];have hsc:sSC N es.length B=SC N (some ⟨(B iq).b,0,none⟩) es.length (sQ es.length B).c (B 10).b (B 13).b (B 16).b 0:=by unfold sSC;rw[hqb]
    rw[hsc]at Hc;exact Hc
  .rintro⟨bs,bf,bp,bo,q,ce,full⟩ j w ⟨O,H⟩;dsimp only at O H;dsimp only;obtain⟨g,hg⟩:=qD<|grE (N:Int) es;have hgE:g.E=es.length:=by rw[hg];rfl
   have hgN:g.N=N:=by rw[hg];rfl
   have hgo:g.Ok:=by rw[hg];exact JW hr
   have hcb:=Mp hr;rw[<-hg];refine Af<|Ag U<|qA<|AB<|Af<|Ae qf U<|Bh qf U H at6 U<|Cp qf U<|Ad U<|qA ?_;refine AK<|AY 72057525318451648 (α:=Nat × Nat × List Value) (fun t=>[(36,.int .i64 (t.1:Int)),(6,.int .i64 (t.2.1:Int))]) (fun t w'=>t.1<=es.length/\OS (some ⟨q,0,none⟩) es.length ce 4 t.2.2 ((esC es<|Iw (Ck es) (fun _=>0) t.1).flatMap Co)/\(∀j,j<t.1->(Ck es j).toNat<2 ^ t.2.1)/\t.2.1<=64/\ZF es t.1 t.2.1/\Ctx w0 [] w' [(bf,Bl 2 (BF (fun _=>0) es.length)),(bo,Bl 2 (BF (fun _=>0) N)),(q,Bl 195 t.2.2),(bs,Bl 261 (SC N (some ⟨q,0,none⟩) es.length ce bf bp bo 0)),(bp,Bl 2 (BF (fun _=>0) N)),(b2,Bl 55 [.slice none 0 0,.slice none 0 0]),(b1,Bl 53 [.int .i64 (N:Int),.slice a es.length c])]) (fun t=>es.length - t.1) (0,0,full) U ?_ ?_ ?_
   .exact⟨rfl,rfl,trivial⟩
   .refine⟨qai _,?_,fun j h=>absurd h<|qay _,by dsimp only;omega,rfl,H⟩;rw[Jz (d:=Ck es) fun i _=>by unfold Iw;rw[if_neg<|qay _],Nj];exact O
   .rintro⟨i,m,full⟩ j w ⟨hi,O,hm,hm6,hbt,H⟩;dsimp only at hi O hm hm6 hbt H;dsimp only;refine Af<|CH U U<|qA<|AB<|iB U ?_ ?_
    .intro h2;have hil:i<es.length:=by omega
     obtain⟨e,he⟩:=Au (h:=hil);have hee:=Dw<|hall e<|qad he;obtain⟨cc,hcc⟩:∃cc:Nat,e.cap=cc:=⟨e.cap.toNat,by omega⟩;have henc:Co e=[.int .i64 e.f,.int .i64 e.t,.int .i64 (cc:Int),.int .i64 e.cost]:=by unfold Co;rw[hcc]
     have hOl:=O.len;have hOe:=O.le;refine A1<|Aa<|AB<|AK<|Af<|Ad U<|A2 R qf qf U U (by rfl) ?_;refine BC _ qf qf U U (Rd.rowE (R.ext0 H.ext) he henc U)<|AN qf H ?_;rintro b8 w - H;refine Ag U<|AM qf U U U (by simp[AF]) H at0 U ?_;rintro w H;refine qA<|Af<|AV U<|AR U<|Ae qf U<|Ae qf U<|Bh qf U H at4 U<|Ad U<|BA qf qf U U ?_;refine Ae qf U<|Ch (.int _ _) qf U U U H at3 (by omega) ?_;rintro w H;refine qA<|Aw<|Ad U<|Ae qf U<|Bh qf U H at0 U<|FZ U U qf qf ?_;refine Aj qB (RC cc (by omega) _) U ?_;rintro v w ⟨r,rfl,hr1,hr2,hr3,hr4,rfl⟩;refine P5 U U U<|Ag U<|Ab<|Av<|Aa<|Aw<|Ap U U ?_;refine Ad U<|qA ?_;rw[show 0+((i:Int)).toNat*4+2=i*4+2 by omega]at H
     have O1:=OS.setf O (y:=edC es (Iw (Ck es) (fun _=>0)<|i+1) i) (j:=2) (v := .int .i64 0) (fun _=>rfl) (Iv (c:=Iw (Ck es) (fun _=>0) i) hil) (by decide) (by unfold edC Co Iw;dsimp only;rw[if_pos<|by omega];rfl);rw[UT rfl (fun j _ hj=>UW hj)]at O1;have hce:Ck es i=(cc:Int):=by unfold Ck;rw[Bp he,hcc]
     refine⟨(i+1,max m r,full.set (i*4+2)<|.int .i64 0),rfl,⟨rfl,qaa (Value.int .i64) (by dsimp only;omega),trivial⟩,⟨by dsimp only;omega,O1,fun j hj=>?_,by dsimp only;omega,⟨m,r,hbt,by rw[hce];exact⟨hr1,hr3,hr4⟩,rfl⟩,H.tail⟩,by dsimp only;omega⟩;dsimp only at hj |-
     by_cases ej:j=i
     .subst ej;rw[hce];exact qbb (by omega)<|Nat.pow_le_pow_right (by decide)<|Nat.le_max_right m r
     .exact qbb (hm j<|by omega) (Nat.pow_le_pow_right (by decide)<|Nat.le_max_left m r)
    .intro h2;obtain rfl:i=es.length:=by omega
     rw[Jz (d:=Fi es m) fun i hi=>by unfold Iw Fi;rw[if_pos hi,Nat.div_eq_of_lt<|hm i hi];rfl]at O;refine Bi<|Am<|Am<|A8<|Aa<|Af<|Ad U<|Ag U<|qA<|AB<|Py<|Aa<|AB<|AK<|AY 147429837401600557568 (α:=PSt) (fun t=>[(9,.int .i64 (t.j:Int))]) (fun t w'=>t.j<=64/\OS (some ⟨q,0,none⟩) es.length ce 4 t.full ((esC es<|Fi es t.j).flatMap Co)/\Fine g (Fi es t.j) t.x t.p/\(∀v,v<N->BJ g t.x v=0)/\(∀v,v<N->t.ov v=0)/\(∀v,v<N -> -1073741824<=t.p v/\t.p v<=1073741824)/\(∀xf pf,Qm es N t.j t.x t.p xf pf->Qm es N m (fun _=>0) (fun _=>0) xf pf)/\Ctx w0 [] w' [(bf,Bl 2 (BF (t.x) es.length)),(bo,Bl 2 (BF (t.ov) N)),(q,Bl 195 t.full),(bs,Bl 261 (SC N (some ⟨q,0,none⟩) es.length ce bf bp bo t.kk)),(bp,Bl 2 (BF (t.p) N)),(b2,Bl 55 [.slice none 0 0,.slice none 0 0]),(b1,Bl 53 [.int .i64 (N:Int),.slice a es.length c])]) (fun t=>t.j) ⟨m,full,fun _=>0,fun _=>0,fun _=>0,0⟩ U ?_ ?_ ?_
     .exact⟨rfl,trivial⟩
     .refine⟨hm6,O,⟨fun i hi=>⟨qa4 _,(Mo hr m i<|by omega).1⟩,fun a ha hra=>?_⟩,fun v _=>ZH g v,fun _ _=>rfl,fun _ _=>⟨by dsimp only;omega,by dsimp only;omega⟩,(fun _ _ h=>h),H⟩;exfalso;unfold C3 at hra;have hai:a / 2<es.length:=by omega
      have hk0:Fi es m (a / 2)=0:=by unfold Fi;rw[Nat.div_eq_of_lt<|hm _ hai];rfl
      dsimp only at hra;rw[hk0]at hra
      split at hra <;> omega
     .rintro⟨j,full,x,p,ov,kk⟩ jj w ⟨hj6,O,hF,hx0,hov,hpb,hph,H⟩;dsimp only at hj6 O hF hx0 hov hpb hph H;dsimp only
      rcases j with _|j
      .skip
       refine AK<|AB<|Af<|Ad U<|Cf U U ?_;refine Ag U<|qA<|Af<|Ad U<|CH U U<|qA<|iB U ?_ ?_
       .intro h3;refine Bi<|Am<|Gv U<|Am<|A8<|Aa<|BG [([0,1,2,3,4,5,6,7,8,9,10,11,12],13),([14],15)] (fun z=>z.heap[bs]?=some (Bl 261 (SC N (some ⟨q,0,none⟩) es.length ce bf bp bo kk))) [] AW (H.drew.get at3) ?_;refine A0 U U<|Bm U<|A7 U<|Ah qf U<|AU qf U (fun _ hx=>(by rw[Ai hx];rfl)) ?_;refine Bm U<|A7 U<|Ah qf U<|AU qf U (fun _ hx=>(by rw[Ai hx];rfl)) ?_;refine Ef [.slice (some ⟨bf,0,none⟩) es.length es.length,.slice (some ⟨bp,0,none⟩) N N] qf qf (hl:=U) ?_;refine Bm U<|A7 U<|Ah qf U<|AU qf U (fun _ hx=>(by rw[Ai hx];rfl)) ?_;refine A6 ?_;replace H:=H.drew;refine AM qf U U U (by simp[AF]) H at5 U ?_;rintro w H;refine Ab<|Bv (H.get at3)<|A0 U U ?_;refine FM U (A6<|Ag U<|Ab<|Bv (H.get at3)<|Bu<|Bf<|V8<|P7 U U U qf qf H at5 U (show _=(.int _ _)from rfl) (show _=(.int _ _)from rfl) ?_)
        refine⟨bf,bp,x,p,kk,rfl,Lt hF fun i hi=>(Wd hr i<|by omega).symm,hx0,hpb,⟨m,hbt,hph x p ⟨rfl,rfl⟩⟩,H.sub (fun y hy=>?_) ?_⟩
        .simp only[qaf,qan,or_false]at hy
         rcases hy with rfl|rfl
         .exact qad (i:=0) U
         .exact qad (i:=4) U
        .simp only[qbf,qab,forall_eq,qan,false_imp_iff,implies_true,List.Pairwise.nil,and_true];exact H.ne at0 at4<|by decide
       .intro h3;omega
      .skip
       refine AK<|AB<|Af<|Ad U<|Cf U U ?_;rw[show((j+1:Nat):Int) - 1=(j:Int)by omega];refine Ag U<|qA<|Af<|Ad U<|CH U U<|qA<|iB U ?_ ?_
       .intro h3;omega
       .intro h3;have hF1:=MX hF (cap':=Fi es j) fun i _=>OB es j i;obtain⟨x1,hx1⟩:=qD<|IG g (Fi es j) x p;refine A1<|Aa<|Af<|AV U<|Dh qf qf U H at6 U<|Ad U<|Aj qB (YQ (bf:=bf) (bo:=bo) (ae:=some ⟨q,0,none⟩) (Ctx.lend (L1:=[_,_,_]) (L2:=[_,_,_,_]) H) O (H.get at3) (FV (L:=[_,_,_]) H.nd (x:=(bs,_))<|qad (i:=0) U) (H.get at4) (FV (L:=[_,_,_]) H.nd (x:=(bp,_))<|qad (i:=1) U) (R.ext0 H.ext) (fun hne hm=>by have h7:=Rd.lt R hne (fun x _=>⟨_,rfl⟩) (by decide);have h8:=(Ctx.left (L:=[_,_,_]) (L':=[_,_,_,_]) H).own;obtain⟨y,hy,he⟩:=qak.1 hm;rcases h8 y hy with h|h;cases h;omega) hr (fun i _=>OB es j i) (by rw[<-hg];exact hF) (by rw[<-hg];exact hx0) hov hpb) U ?_;rintro rv w ⟨rfl,full',O',H2⟩;rw[<-hg]at H2;replace H:=Ctx.back (L1:=[_,_,_]) (L2:=[_,_,_,_]) H H2;refine qA (AK ?_)
        rw[<-hx1]at hF1 H;refine AY 110680464442257309696 (α:=FSt) (fun _=>[]) (fun t w'=>Fine g (Fi es j) t.x t.p/\(∀v,v<N->t.ov v=BJ g t.x v)/\(∀v,v<N -> -1073741824<=t.p v/\t.p v<=1073741824)/\(∀xf pf ovf,Fills (esC es<|Fi es j) N t.x t.p t.ov xf pf ovf->Fills (esC es<|Fi es j) N x1 p (BJ g x1) xf pf ovf)/\Ctx w0 [] w' [(bf,Bl 2 (BF (t.x) es.length)),(bo,Bl 2 (BF (t.ov) N)),(q,Bl 195 full'),(bs,Bl 261 (SC N (some ⟨q,0,none⟩) es.length ce bf bp bo t.kk)),(bp,Bl 2 (BF (t.p) N)),(b2,Bl 55 [.slice none 0 0,.slice none 0 0]),(b1,Bl 53 [.int .i64 (N:Int),.slice a es.length c])]) (fun t=>(GF g t.x).toNat) ⟨x1,p,BJ g x1,kk⟩ U ?_ ?_ ?_
        .exact trivial
        .exact⟨hF1,fun _ _=>rfl,hpb,(fun _ _ _ h=>h),H⟩
        .rintro⟨x,p,ov,kk⟩ jj2 w ⟨hF,hov,hpb,hfl,H⟩;dsimp only at hF hov hpb hfl H;dsimp only;refine AB<|Af<|AV U ?_;have Hq:=H.perm perm5;refine Aj qB (Aja (bs:=bs) (bf:=bf) (bp:=bp) (bo:=bo) (N:=N) (n:=es.length) (ae:=some ⟨q,0,none⟩) (ce:=ce) (es:=esC es<|Fi es j) (g:=g) (cap:=Fi es j) (Iu es _) (by rw[grE_C,<-hg]) (fun i hi=>Aiz hi) (Ctx.lend (L1:=[_,_,_,_,_]) (L2:=[_,_]) Hq) O' (UU hr<|Mo hr j) hF hov hpb) U ?_;rintro rv w ⟨b,x',p',ov',kk',rfl,H2,hF',hov',hpb',hb0,hb1,hfr⟩;replace H:=(Ctx.back (L1:=[_,_,_,_,_]) (L2:=[_,_]) Hq H2).perm perm5.symm;refine qA<|A3 _ U ?_ ?_
         .intro h4;refine A1<|Aa<|AK<|A1<|Av<|Aa ?_;have h5:=hb1 h4;have h6:=VS g x';exact⟨⟨x',p',ov',kk'⟩,rfl,trivial,⟨hF',hov',hpb',fun xf pf ovf h=>hfl xf pf ovf<|.go (h4 ▸ hfr) h,H⟩,by dsimp only;omega⟩
         .intro h4;refine Bi<|Am<|Am<|A8<|Av<|Aa ?_;have hz:∀v,v<N->BJ g x' v=0:=fun v hv=>Rc hgo (fun u hu=>hb0 h4 u<|by omega) v (by omega);exact⟨⟨j,full',x',p',ov',kk'⟩,rfl,⟨rfl,trivial⟩,⟨by dsimp only;omega,O',hF',hz,fun v hv=>(hov' v hv).trans<|hz v hv,hpb',fun xf pf h=>hph xf pf ⟨x1,x',p',ov',by rw[<-hg];exact hx1,by rw[<-hg];exact hfl _ _ _<|.stop<|h4 ▸ hfr,h⟩,H⟩,by dsimp only;omega⟩
theorem Vi(hr:Cd N es=true)(hk:k<2*es.length):Rh N es pot (k:Int)=(grE N es).len (E7 pot) k:=by
 obtain⟨e,he,hE,-⟩:=Mm hr hk;unfold Rh Gr.len Gr.c Gr.u Gr.v;rw[hE];unfold Fh
 rcases Nat.mod_two_eq_zero_or_one k with h|h
 .rw[if_pos h,if_pos h,if_pos h,Afb he,Se he,Sf he,if_neg<|by omega];rfl
 .rw[if_pos h,if_neg<|show ¬k % 2=0 by omega,if_neg<|show ¬k % 2=0 by omega,if_neg<|show ¬k % 2=0 by omega,Afb he,Se he,Sf he];rfl
theorem Sk(hw:BO N es fl=true)(hk:k<2*es.length):JG N es fl (k:Int)=C3 (Ck es) (flE fl) k:=by
 obtain⟨e,x,he,hx,hro,-⟩:=Mn hw hk;rw[hro];unfold Jd C3 Ck flE;rw[Bp he,Bp hx]
 rcases Nat.mod_two_eq_zero_or_one k with h|h
 .rw[if_neg<|by omega,if_pos h]
 .rw[if_pos h,if_neg<|by omega]
theorem ZI(hw:BO N es fl=true)(h:∀v,v<N.toNat->BJ (grE N es) (flE fl) v=0):Ei N es fl=true:=by
 unfold Ei JH;rw[hw,qbs,qaw];intro x hx;obtain⟨i,hi⟩:=qbi.1 hx;obtain⟨h1,rfl⟩:=Lr hi;exact qam<|h i h1
theorem G4:Ev N es fl pot=true↔Ei N es fl=true/\EN N pot=true/\Fine (grE N es) (Ck es) (flE fl) (E7 pot):=by
 have hE:(grE N es).E=es.length:=rfl;unfold Ev;simp only[qag];constructor
 .rintro⟨hr,hf,hp,ht⟩;have hw:=(E4 hf).1;obtain⟨hl,-,hin⟩:=Cj hw;refine⟨hf,hp,fun i hi=>?_,fun a ha hro=>?_⟩
  .rw[hE]at hi;obtain⟨e,he⟩:=Au (h:=hi);obtain⟨x,hx⟩:=Au (l:=fl) (i:=i);unfold flE Ck;rw[Bp he,Bp hx];exact hin i e x he hx
  .rw[hE]at ha;have h1:=qaw.1 ht a<|qa5.2 ha;unfold Fo at h1;rw[Vi hr ha,Sk hw ha,qam hro,qcx,qcf,qd5]at h1;omega
 .rintro⟨hf,hp,hF⟩;have hw:=(E4 hf).1;obtain⟨hl,hr,hin⟩:=Cj hw;refine⟨hr,hf,hp,qaw.2 fun a ha=>?_⟩;rw[qa5]at ha;unfold Fo;rw[Vi hr ha,Sk hw ha,qcf]
  by_cases h:0<C3 (Ck es) (flE fl) a
  .rw[qa1 (by have:=hF.fit a ha h;omega),qd2]
  .rw[qa1 h,qcv]
theorem TZ{N:Nat}(hr:Cd (N:Int) es=true)(hF:Fine (grE (N:Int) es) (Ck es) x p)(ho:∀v,v<N->BJ (grE (N:Int) es) x v=0)(hp:∀v,v<N -> -1073741824<=p v/\p v<=1073741824):Ev (N:Int) es (tab x es.length) (tab p N)=true:=by
 have hx:∀i,i<es.length->flE (tab x es.length) i=x i:=fun i hi=>Ac2 hi;have hq:∀v,v<N->E7 (tab p N) v=p v:=fun v hv=>Bp<|BP hv
 have hw:BO (N:Int) es (tab x es.length)=true:=by
  unfold BO;rw[hr,CP,qam rfl];refine qaw.2 fun b hb=>?_;obtain⟨i,hi⟩:=qbi.1 hb;have hl:=BH hi;rw[qcl,CP]at hl;obtain⟨e,he⟩:=Au (l:=es) (i:=i);rw[JU he<|BP (f:=x)<|by omega]at hi
  injection hi with hi
  have h1:=hF.in' i (by show i<es.length;omega);unfold Ck at h1;rw[Bp he]at h1;rw[<-hi];show inB e (x i)=true;unfold inB;rw[qam h1.1,qam h1.2];rfl
 refine G4.2 ⟨ZI hw fun v hv=>?_,?_,Nh (JW hr) (ZG hF hx) hq⟩
 .rw[JT hx];exact ho v hv
 .unfold EN;rw[CP,qam rfl,qcx,qaw];intro y hy;obtain⟨i,hi⟩:=qbi.1 hy;obtain⟨h1,rfl⟩:=Lr hi;have:=hp i h1;unfold J8;rw[qag,qav,qav];omega
theorem KL{es:List Du}(h:Zb ds es)(hs:(es.map (·.id)).Pairwise (·<·)):ds=es:=by
 obtain⟨hp,hd⟩:=h
 induction es generalizing ds with
 |nil=>exact hp.eq_nil
 |cons e es ih =>
  cases ds with
  |nil=>exact absurd hp.symm.eq_nil<|by simp
  |cons d ds =>
   rw[qas,qbf]at hs hd
   have hde:d=e:=by
    rcases qaf.1 (hp.mem_iff.1<|qah ..)with h|h
    .exact h
    .rcases qaf.1 (hp.mem_iff.2<|qah ..)with h2|h2
     .exact h2.symm
     .have h3:=hs.1 d.id<|qa6 (f:=fun d:Du=>d.id) h;have h4:=hd.1 e.id<|qa6 (f:=fun d:Du=>d.id) h2;omega
   subst hde;rw[ih hs.2 (List.Perm.cons_inv hp) hd.2]
structure Rnd where
 no:Int
 day:Int
 cmp:Bool
 ids:List Int
 N:Int
 es:List Ed
 fl:List Int
 pot:List Int
structure RSl where
 aI:Option Addr
 cI:Nat
 aE:Option Addr
 cE:Nat
 aF:Option Addr
 cF:Nat
 aP:Option Addr
 cP:Nat
abbrev AE(r:Rnd)(q:RSl):List Value:=[.int .u64 r.no,.int .i64 r.day,.bool r.cmp,.slice q.aI r.ids.length q.cI,.int .i64 r.N,.slice q.aE r.es.length q.cE,.slice q.aF r.fl.length q.cF,.slice q.aP r.pot.length q.cP]
structure RAt(w:World)(r:Rnd)(q:RSl):Prop where
 I:Rd w q.aI 1 U1 r.ids
 E:Rd w q.aE 4 Co r.es
 F:Rd w q.aF 1 I1 r.fl
 P:Rd w q.aP 1 I1 r.pot
 fc:r.fl.length<=q.cF
structure ROff(q:RSl)(r:Rnd)(S:Nat->Prop):Prop where
 I:r.ids≠[]->¬S (adr q.aI).block
 E:r.es≠[]->¬S (adr q.aE).block
 F:r.fl≠[]->¬S (adr q.aF).block
 P:r.pot≠[]->¬S (adr q.aP).block
theorem RAt.ext{r:Rnd}{q:RSl}(h:RAt w r q)(he:Ext S w w')(hn:ROff q r (·∈S)):RAt w' r q :=
 ⟨h.I.ext' he hn.I,h.E.ext' he hn.E,h.F.ext' he hn.F,h.P.ext' he hn.P,h.fc⟩
theorem RAt.ext0{r:Rnd}{q:RSl}(h:RAt w r q)(he:Ext [] w w'):RAt w' r q:=h.ext he ⟨fun _=>by simp,fun _=>by simp,fun _=>by simp,fun _=>by simp⟩
theorem ROff.mono{q:RSl}{r:Rnd}{S:Nat->Prop}(h:ROff q r S)(hs:∀x,S' x->S x):ROff q r S':=⟨fun g k=>h.I g<|hs _ k,fun g k=>h.E g<|hs _ k,fun g k=>h.F g<|hs _ k,fun g k=>h.P g<|hs _ k⟩
theorem RAt.lt{r:Rnd}{q:RSl}(h:RAt w r q):ROff q r (fun x=>w.heap.size<=x) :=
 ⟨fun g=>qde.2<|h.I.lt' (fun _ _=>rfl) (by decide) g,fun g=>qde.2<|h.E.lt' (fun _ _=>rfl) (by decide) g,fun g=>qde.2<|h.F.lt' (fun _ _=>rfl) (by decide) g,fun g=>qde.2<|h.P.lt' (fun _ _=>rfl) (by decide) g⟩
def AcAt(w:World)(t:TypeId)(bx:Nat)(acs:List Ac):Prop:=∃a c,w.heap[bx]?=some (Bl t [.slice a acs.length c])/\Rd w a 2 Cg acs
def DuAt(w:World)(bd:Nat)(ds:List Du):Prop:=∃b nx o,w.heap[bd]?=some (Bl 156 (DU b nx))/\w.heap[b]?=some o/\CQ .u64 (dm ds) o
theorem AcAt.ext0(h:AcAt w t bx acs)(he:Ext [] w w'):AcAt w' t bx acs:=by
 obtain⟨a,c,h1,h2⟩:=h;exact⟨a,c,he.to h1<|by simp,h2.ext0 he⟩
theorem DuAt.ext0(h:DuAt w bd ds)(he:Ext [] w w'):DuAt w' bd ds:=by
 obtain⟨b,nx,o,h1,h2,h3⟩:=h;exact⟨b,nx,o,he.to h1<|by simp,he.to h2<|by simp,h3⟩
theorem J4(ha:CO acs=0)(w:World)(A:AcAt w 153 bx acs) :
  Ret prog 155 #[ptr bx] w fun v w'=>Ext [] w w'/\∃a c,v=.slice a (acs.map CF).length c/\Rd w' a 1 I1 (acs.map CF):=by
 obtain⟨h1,h2,-⟩:=BM.1 ha;obtain⟨a,c,g1,g2⟩:=A;refine Ret.mono (Zf a acs.length c acs w g1 g2 U h2) fun v w' F=>⟨F.ext,?_⟩;obtain⟨a',n',c',f',rfl,O,hb⟩:=F.ex;obtain rfl:=O.num;exact⟨a',c',rfl,O.rd1 fun x hx=>(hb x hx).1⟩
theorem Ic(hd:ofC ds nx=0)(w:World)(D:DuAt w bd ds) :
  Ret prog 57 #[ptr bd] w fun v w'=>Ext [] w w'/\∃a c,v=.slice a ds.length c/\Rd w' a 7 BK ds:=by
 obtain⟨h1,-,h3,-⟩:=DZ.1 hd;obtain⟨b,nx',o,g1,g2,g3⟩:=D;refine Ret.mono (KC w g1 g2 g3<|Jj hd) ?_;rintro v w' ⟨ds',hS,F⟩;obtain rfl:=KL hS (Hw h3).2.1;refine⟨F.ext,?_⟩;obtain⟨a',n',c',f',rfl,O,hb⟩:=F.ex;obtain rfl:=O.numN (fun _ _=>rfl) (by decide);exact⟨a',c',rfl,OS.rd O (fun x hx=>(hb x hx).1) (fun _ _=>rfl)<|by decide⟩
end Go.Proofs.YtfnfnmgilmejmaaGreat
