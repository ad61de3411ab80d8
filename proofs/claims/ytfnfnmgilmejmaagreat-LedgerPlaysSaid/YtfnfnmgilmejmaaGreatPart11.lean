/- Part 11 of the proof. -/
import Derived.Test.YtfnfnmgilmejmaaGreatPart10
import Derived.Test.YtfnfnmgilmejmaaGreatRows
set_option maxRecDepth 20000
set_option maxHeartbeats 8000000
namespace Go.Proofs.YtfnfnmgilmejmaaGreat
open Go.GV Go.Proofs.Tryz Go.ChangeShapes Go.WideShapes
variable{α:Type}{af:Array Edge}{fs:Array Field}{net:Bool}{d e:Du}{fid:FuncId}{ba code fr k nx to x:Int}{L:List (Nat × Obj)}{acs acs':List Ac}{ds os:List Du}{fl rs xs:List Int}{S:List Nat}{ops rest:List Oper}{rn:List Rnd}{cl cs full full' l:List Value}{b b14 b3 b4 b5 b7 bd bi bx by' c c4 c7 cq fuel j m n q s:Nat}{f f':Nat->Int}{T:Nat->Prop}{o:Obj}{y:Operand}{g:Option (Nat × Bool)}{a aq:Option Addr}{dst:Option Tmp}{P:Program}{r:Rnd}{pos:String}{t t2 ty u:TypeId}{v:Value}{w w' w0:World}{C:World->Prop}
theorem own:ownKnob Tryz.prog.godebug=none:=by kernel_rfl
theorem Adq:laidOutB prog=true:=by kernel_rfl
section
variable {H:Type}{enc:TypeId × Value->H}{w:World}{base:Nat}{spare:Nat->Bool}{held:Bool}
theorem EP{e:TypeId}{x:DataW H × List MemPlace}{encd:α->List Value}{Good:α->Prop}(ht:P.underlying t=some (.struct fs))(h:DataW.trod enc P w base spare held fuel t cs=some x)(i o:Nat)(hf:(fs[i]?.map fun f=>(f.type,f.offset))=some (u,o))(hu:P.underlying u=some (.slice e))(hc:P.cellsOf u=1)(hs:P.cellsOf e=s)(dec:∀n cs y,DataW.trod enc P w base spare held n e cs=some y->∃d,cs=encd d/\Good d)(h0:0<s:=by decide):
  ∃(a:Option Addr) (c:Nat) (l:List α),cs[o]?=some (.slice a l.length c)/\Rd w a s encd l/\l.length<=c/\c<=maxLen/\(∀d∈l,Good d):=by
 obtain⟨n,y,h1⟩:=PA ht h i o hf;rw[hc]at h1
 have hv:∃v,(cs.drop o).take 1=[v]:=by
  rcases Go.Deep.open_slice hu h1 with⟨hc,-⟩|⟨_,_,_,_,_,_,_,hc,-⟩
  .exact⟨_,hc⟩
  .exact⟨_,hc⟩
 obtain⟨v,hv⟩:=hv;rw[hv]at h1;obtain⟨a,c,l,rfl,R,h2,h3,h4⟩:=Aeu hu hs h0 dec h1;exact⟨a,c,l,MU hv,R,h2,h3,h4⟩
theorem ZJ:∃fs,Tryz.prog.underlying 162=some (.struct fs)/\(List.range 2).map (fun i=>fs[i]?.map fun f=>(f.type,f.offset))=[some (2,0),some (2,1)]:=⟨_,underlying162,by kernel_rfl⟩
theorem Vj:Tryz.prog.cellsOf 162=2:=by kernel_rfl
theorem ZL:∃fs,Tryz.prog.underlying 111=some (.struct fs)/\(List.range 7).map (fun i=>fs[i]?.map fun f=>(f.type,f.offset))=[some (24,0),some (3,1),some (3,2),some (2,3),some (2,4),some (2,5),some (4,6)]:=⟨_,underlying111,by kernel_rfl⟩
theorem Vk:Tryz.prog.cellsOf 111=7:=by kernel_rfl
theorem ZM:∃fs,Tryz.prog.underlying 195=some (.struct fs)/\(List.range 4).map (fun i=>fs[i]?.map fun f=>(f.type,f.offset))=[some (3,0),some (3,1),some (2,2),some (2,3)]:=⟨_,underlying195,by kernel_rfl⟩
theorem Vl:Tryz.prog.cellsOf 195=4:=by kernel_rfl
theorem Sm:Tryz.prog.cellsOf 2=1:=by kernel_rfl
theorem ZN:Tryz.prog.cellsOf 24=1:=by kernel_rfl
theorem eds1:Tryz.prog.cellsOf 51=1:=by kernel_rfl
theorem Afd:Tryz.prog.cellsOf 41=1:=by kernel_rfl
theorem u64s1:Tryz.prog.cellsOf 50=1:=by kernel_rfl
theorem WE:∃fs,Tryz.prog.underlying 53=some (.struct fs)/\(List.range 2).map (fun i=>fs[i]?.map fun f=>(f.type,f.offset))=[some (3,0),some (51,1)]:=⟨_,underlying53,by kernel_rfl⟩
theorem ZP:Tryz.prog.cellsOf 53=2:=by kernel_rfl
theorem Ua:∃fs,Tryz.prog.underlying 55=some (.struct fs)/\(List.range 2).map (fun i=>fs[i]?.map fun f=>(f.type,f.offset))=[some (41,0),some (41,1)]:=⟨_,underlying55,by kernel_rfl⟩
theorem WF:Tryz.prog.cellsOf 55=2:=by kernel_rfl
theorem WG:∃fs,Tryz.prog.underlying 57=some (.struct fs)/\(List.range 6).map (fun i=>fs[i]?.map fun f=>(f.type,f.offset))=[some (24,0),some (2,1),some (4,2),some (50,3),some (53,4),some (55,6)]:=⟨_,underlying57,by kernel_rfl⟩
theorem Sn:Tryz.prog.cellsOf 57=8:=by kernel_rfl
theorem Ajb:∀n cs y,DataW.trod enc prog w base spare held n 162 cs=some y->∃d:Ac,cs=Cg d/\(I64 d.ba/\I64 d.re):=by
 intro n cs y h;obtain⟨fs,ht,hf⟩:=ZJ;have hl:=Gz ht h;rw[Vj]at hl;simp only[List.range,List.range.loop,qas,qbv,qci,and_true]at hf;obtain⟨f0,f1⟩:=hf;obtain⟨a,ha,a1,a2⟩:=CX ht h 0 0 f0 underlying2;obtain⟨b,hb,b1,b2⟩:=CX ht h 1 1 f1 underlying2;refine⟨⟨a,b⟩,?_,⟨a1,a2⟩,b1,b2⟩
 match cs,hl with
 | [_,_],_ =>
  simp at ha hb;simp[ha,hb]
def DuT(d:Du):Prop:=(0<=d.id/\d.id<18446744073709551616)/\I64 d.fr/\I64 d.to/\I64 d.am/\I64 d.we/\I64 d.un
theorem Ajc:∀n cs y,DataW.trod enc prog w base spare held n 111 cs=some y->∃d:Du,cs=BK d/\DuT d:=by
 intro n cs y h;obtain⟨fs,ht,hf⟩:=ZL;have hl:=Gz ht h;rw[Vk]at hl;simp only[List.range,List.range.loop,qas,qbv,qci,and_true]at hf;obtain⟨f0,f1,f2,f3,f4,f5,f6⟩:=hf;obtain⟨a,ha,a1,a2⟩:=CX ht h 0 0 f0 underlying24;obtain⟨b,hb,hb'⟩:=CX ht h 1 1 f1 underlying3;obtain⟨c,hc,hc'⟩:=CX ht h 2 2 f2 underlying3;obtain⟨d,hd,hd'⟩:=CX ht h 3 3 f3 underlying2;obtain⟨e,he,he'⟩:=CX ht h 4 4 f4 underlying2;obtain⟨f,hf,hf'⟩:=CX ht h 5 5 f5 underlying2;obtain⟨g,hg⟩:=QU ht h 6 6 f6 underlying4;refine⟨⟨a,b,c,d,e,f,g⟩,?_,⟨a1,by have a3:a<=18446744073709551615:=a2;dsimp only;omega⟩,hb',hc',hd',he',hf'⟩
 match cs,hl with
 | [_,_,_,_,_,_,_],_ =>
  simp at ha hb hc hd he hf hg;simp[ha,hb,hc,hd,he,hf,hg]
def EdT(e:Ed):Prop:=I64 e.f/\I64 e.t/\I64 e.cap/\I64 e.cost
theorem Ajd:∀n cs y,DataW.trod enc prog w base spare held n 195 cs=some y->∃d:Ed,cs=Co d/\EdT d:=by
 intro n cs y h;obtain⟨fs,ht,hf⟩:=ZM;have hl:=Gz ht h;rw[Vl]at hl;simp only[List.range,List.range.loop,qas,qbv,qci,and_true]at hf;obtain⟨f0,f1,f2,f3⟩:=hf;obtain⟨a,ha,ha'⟩:=CX ht h 0 0 f0 underlying3;obtain⟨b,hb,hb'⟩:=CX ht h 1 1 f1 underlying3;obtain⟨c,hc,hc'⟩:=CX ht h 2 2 f2 underlying2;obtain⟨d,hd,hd'⟩:=CX ht h 3 3 f3 underlying2;refine⟨⟨a,b,c,d⟩,?_,ha',hb',hc',hd'⟩
 match cs,hl with
 | [_,_,_,_],_ =>
  simp at ha hb hc hd;simp[Co,ha,hb,hc,hd]
structure RT(r:Rnd):Prop where
 no:0<=r.no/\r.no<18446744073709551616
 day:I64 r.day
 ids:∀x∈r.ids,0<=x/\x<18446744073709551616
 N:I64 r.N
 es:∀e∈r.es,EdT e
 fl:∀x∈r.fl,I64 x
 pot:∀x∈r.pot,I64 x
theorem KM{o:Nat}(h:((cs.drop o).take m)[j]?=some v):cs[o+j]?=some v:=by
 rw[qbt]at h
 split at h
 .rw[qc0]at h;exact h
 .cases h
theorem Adr:∀n cs y,DataW.trod enc prog w base spare held n 57 cs=some y->∃(r:Rnd) (q:RSl),cs=AE r q/\RAt w r q/\RT r/\r.es.length<=q.cE:=by
 intro n cs y h;obtain⟨fs,ht,hf⟩:=WG;have hl:=Gz ht h;rw[Sn]at hl;simp only[List.range,List.range.loop,qas,qbv,qci,and_true]at hf;obtain⟨f0,f1,f2,f3,f4,f5⟩:=hf;obtain⟨no,hno,no1,no2⟩:=CX ht h 0 0 f0 underlying24;obtain⟨day,hday,hday'⟩:=CX ht h 1 1 f1 underlying2;obtain⟨cmp,hcmp⟩:=QU ht h 2 2 f2 underlying4;obtain⟨aI,cI,ids,hI,RI,-,-,gI⟩:=EP ht h 3 3 f3 underlying50 u64s1 ZN (PB underlying24);obtain⟨n4,y4,h4⟩:=PA ht h 4 4 f4;rw[ZP]at h4;obtain⟨n5,y5,h5⟩:=PA ht h 5 6 f5;rw[WF]at h5;obtain⟨gs,gt,hg⟩:=WE;simp only[List.range,List.range.loop,qas,qbv,qci,and_true]at hg;obtain⟨g0,g1⟩:=hg;obtain⟨N,hN,hN'⟩:=CX gt h4 0 0 g0 underlying3;obtain⟨aE,cE,es,hE,RE,hec,-,gE⟩:=EP gt h4 1 1 g1 underlying51 eds1 Vl Ajd;obtain⟨ks,kt,hk⟩:=Ua
 simp only[List.range,List.range.loop,qas,qbv,qci,and_true]at hk;obtain⟨k0,k1⟩:=hk;obtain⟨aF,cF,fl,hF,RF,hfc,-,gF⟩:=EP kt h5 0 0 k0 underlying41 Afd Sm (PB underlying2);obtain⟨aP,cP,pot,hP,RP,-,-,gP⟩:=EP kt h5 1 1 k1 underlying41 Afd Sm (PB underlying2);have e4:=KM hN;have e5:=KM hE;have e6:=KM hF;have e7:=KM hP;refine⟨⟨no,day,cmp,ids,N,es,fl,pot⟩,⟨aI,cI,aE,cE,aF,cF,aP,cP⟩,?_,⟨RI,RE,RF,RP,hfc⟩,⟨⟨no1,by have a3:no<=18446744073709551615:=no2;dsimp only;omega⟩,hday',fun x hx=>?_,hN',gE,gF,gP⟩,hec⟩
 .match cs,hl with
  | [_,_,_,_,_,_,_,_],_ =>
   simp at hno hday hcmp hI e4 e5 e6 e7;simp[hno,hday,hcmp,hI,e4,e5,e6,e7]
 .have h1:=gI x hx;have h2:0<=x:=h1.1;have h3:x<=18446744073709551615:=h1.2;omega
end
open Go.GV Go.Proofs.Tryz
attribute [local irreducible] A4 W Wq Wt
structure PlanR(acs:List Ac)(ds:List Du)(net:Bool)(r:Rnd):Prop where
 no:r.no=0
 day:r.day=0
 cmp:r.cmp=net
 ids:r.ids=(opn ds).map Du.id
 N:r.N=((acs.length+1:Nat):Int)
 es:r.es=Cm (acs.map CF) (opn ds) net
 chk:Ev r.N r.es r.fl r.pot=true
 one:∃x p:Nat->Int,Afc r.es (acs.length+1) x p/\r.fl=tab x r.es.length/\r.pot=tab p (acs.length+1)
def rnd0:List Value:=[.int .u64 0,.int .i64 0,.bool false,.slice none 0 0,.int .i64 0,.slice none 0 0,.slice none 0 0,.slice none 0 0]
def Ads(w:World)(acs:List Ac)(ds:List Du)(net:Bool)(v:Value)(w':World):Prop :=
 Ext [] w w'/\((CY (acs.map CF) ds=false/\v=.tuple #[.agg rnd0.toArray,.int .i64 1]) \/
  (CY (acs.map CF) ds=true/\∃r q,v=.tuple #[.agg (AE r q).toArray,.int .i64 0]/\PlanR acs ds net r/\RAt w' r q/\ROff q r (fun x=>x<w.heap.size)))
theorem Vm(ha:CO acs=0)(hd:ofC ds nx=0)(net:Bool)(w:World)(A:AcAt w 153 bx acs)(D:DuAt w bd ds) :
  Ret prog 103 #[ptr bx,ptr bd,.bool net] w (Ads w acs ds net):=by
 obtain⟨w0,rfl,H⟩:=qE w;have hn16:=(BM.1 ha).1;have hm64:=(DZ.1 hd).1;obtain⟨rs,hrs⟩:=qD<|acs.map CF;have hrl:rs.length=acs.length:=by rw[hrs,qaj]
 refine iG func103 U ?_;refine Af<|AN qf H ?_;rintro b6 w - H;refine qG 5 ?_;refine Bo (α:=Unit) 516096 (fun _=>[(18,.bool<|false)]) (fun _ w'=>Ctx w0 [] w' [(b6,Bl 57 rnd0)]) U ?_ ?_
 .refine qG 3 ?_;refine Az 15 U ?_ ?_
  .intro h1;refine qG 4 ?_;exact⟨rfl,(),rfl,⟨qaa Value.bool<|by simp_all,trivial⟩,H⟩
  .intro h2;refine qG 4 ?_;exact⟨rfl,(),rfl,⟨qaa Value.bool<|by rfl,trivial⟩,H⟩
 rintro - j18 w H;refine qG 3 ?_;cases hbb:CY rs ds
 .skip
  refine Af<|AV U<|Aj qB (J4 ha _<|A.ext0 H.ext) U ?_;rintro v w ⟨hx22,a2,c2,rfl,R2⟩;rw[<-hrs]at R2 |-;replace H:=H.call hx22;refine AV U<|Aj qB (Ic hd _<|D.ext0 H.ext) U ?_;rintro v w ⟨hx24,a3,c3,rfl,R3⟩;replace H:=H.call hx24;replace R2:=R2.ext0 hx24;refine Bj U<|Aj qB (G3 a2 a3 _ c2 _ c3 rs ds net _ R2 U R3 U) U ?_;rintro v w ⟨hx26,⟨-,rfl⟩|⟨hb1,-⟩⟩
  rotate_left
  (rw[hbb]at hb1;cases hb1)
  replace H:=H.call hx26;refine qG 5 ?_;rintro b8 w - H;refine qG 1 ?_;rintro w H;refine qGp 10 ?_ ?_
  .intro h1;refine Af<|Bd [.int .u64 0,.int .i64 0,.bool false,.slice none 0 0,.int .i64 0,.slice none 0 0,.slice none 0 0,.slice none 0 0] qf qf ?_;refine qG 2 ?_;rintro w H;refine qG 5 ?_;refine DV U U U qf qf H at1 U (show _=(.int _ _)from rfl) ?_;exact⟨H.ext,.inl ⟨by rw[<-hrs];exact hbb,rfl⟩⟩
  .intro h1;cases h1
 .skip
  have hB:=(FO).1 hbb;obtain⟨es,hes⟩:=qD<|Cm rs (opn ds) net;refine Af<|AV U<|Aj qB (J4 ha _<|A.ext0 H.ext) U ?_;rintro v w ⟨hx22,a2,c2,rfl,R2⟩;rw[<-hrs]at R2 |-;replace H:=H.call hx22;refine AV U<|Aj qB (Ic hd _<|D.ext0 H.ext) U ?_;rintro v w ⟨hx24,a3,c3,rfl,R3⟩;replace H:=H.call hx24;replace R2:=R2.ext0 hx24;refine Bj U ?_;have hlb:=H.lt at0;refine Aj qB (G3 a2 a3 _ c2 _ c3 rs ds net _ R2 U R3 U) U ?_;rintro v w ⟨hx26,⟨hb1,-⟩|⟨-,aE,nE,cE,vI,rfl,SE,SI⟩⟩
  (rw[hbb]at hb1;cases hb1)
  replace H:=H.call hx26;rw[<-hes]at SE;obtain⟨aE,cE,hE1,-,RE,hEn⟩:=SE.ex;obtain⟨aI,cI,rfl,-,RI,hIn⟩:=SI.ex;cases hE1;have hx026:=H.ext;have hb60:w0.heap.size<=b6:=(H.own _<|qah ..).elim (fun h=>by cases h) id;obtain⟨w26,rfl⟩:=qD w;replace H:=Ctx.lend (L1:=[_]) (L2:=[]) H;dsimp only[List.map]at H;have hs24:=hx26.size;refine qG 5 ?_;rintro b8 w - H;refine qG 1 ?_;rintro w H;refine qGp 10 ?_ ?_
  .intro h1;exact absurd U h1
  .intro h1;have hri:Cd ((rs.length+1:Nat):Int) es=true:=by rw[hes];exact hB.right net
   have hE6:es≠[]->(adr aE).block∉[b6]:=fun h=>by have:=hEn h;rw[qab];omega
   have hI6:(opn ds).map Du.id≠[]->(adr aI).block∉[b6]:=fun h=>by have:=hIn h;rw[qab];omega
   have hE26:=RE.lt' (fun _ _=>rfl) (by decide);have hI26:=RI.lt' (fun _ _=>rfl) (by decide);refine qG 4 ?_;have hl8:=H.lt at0;have hl6:=H.lt at1;refine Aj qB (Adp (rs.length+1) aE cE es _ (RE.ext' H.ext hE6) hri) U ?_;rintro v w ⟨bf,bp,x,p,k,rfl,hF,hov,hpb,hBR,HB⟩;replace H:=H.call HB.ext;have RF:Rd w (some ⟨bf,0,none⟩) 1 I1 (tab x es.length):=Cv<|HB.get at0;have RP:Rd w (some ⟨bp,0,none⟩) 1 I1 (tab p<|rs.length+1):=Cv<|HB.get at1;have hbf:=(HB.own _<|qad at0).elim (fun h=>by cases h) id;have hbp:=(HB.own _<|qad at1).elim (fun h=>by cases h) id;dsimp only at hbf hbp;replace RE:=RE.ext' H.ext hE6;replace RI:=RI.ext' H.ext hI6;have hb80:=(H.own _<|qad at0).elim (fun h => .inl (qab.1 h)) Or.inr;have hx036:=hx026.then H.ext fun x hx => .inr (by rw[qab.1 hx];exact hb60);have hs36:=HB.ext.size
   have hs26:=H.size;obtain⟨w36,rfl⟩:=qD w;replace H:=Ctx.lend (L1:=[_,_]) (L2:=[]) H;dsimp only[List.map]at H;refine qG 5 ?_;rintro b11 w - H;refine qG 1 ?_;rintro w H;refine qGp 10 ?_ ?_
   .intro h2;exact absurd U h2
   .intro h2;obtain⟨r,hr⟩:=qD (⟨0,0,net,(opn ds).map Du.id,((rs.length+1:Nat):Int),es,tab x es.length,tab p<|rs.length+1⟩:Rnd);obtain⟨q,hq⟩:=qD (⟨aI,cI,aE,cE,some ⟨bf,0,none⟩,es.length,some ⟨bp,0,none⟩,rs.length+1⟩:RSl)
    have hcells:AE r q=[.int .u64 0,.int .i64 0,.bool net,.slice aI ((opn ds).map Du.id).length cI,.int .i64 ((rs.length+1:Nat):Int),.slice aE es.length cE,.slice (some ⟨bf,0,none⟩) es.length es.length,.slice (some ⟨bp,0,none⟩) (rs.length+1)<|rs.length+1]:=by
     rw[hr,hq];unfold AE;dsimp only;rw[CP,CP]
    refine qG 7 ?_;refine Bd [.int .u64 0,.int .i64 0,.bool net,.slice aI ((opn ds).map Du.id).length cI,.int .i64 ((rs.length+1:Nat):Int),.slice aE es.length cE,.slice (some ⟨bf,0,none⟩) es.length es.length,.slice (some ⟨bp,0,none⟩) (rs.length+1)<|rs.length+1] qf qf ?_;refine qG 1 ?_;rintro w H;refine qG 4 ?_;refine DV U U U qf qf H at2 U (show _=(.int _ _)from rfl) ?_
    have h8:w0.heap.size<=b8:=by rcases hb80 with h|h <;> omega
    have hxx:=hx036.then H.ext fun x hx => .inr (by simp only[qaf,qan,or_false]at hx;omega);refine⟨hxx,.inr ⟨by rw[<-hrs];exact hbb,r,q,by rw[hcells],⟨by rw[hr],by rw[hr],by rw[hr],by rw[hr],by rw[hr,hrl],by rw[hr,<-hrs];exact hes,?_,by rw[hr,<-hrl];exact⟨x,p,hBR,rfl,rfl⟩⟩,⟨?_,?_,?_,?_,?_⟩,⟨?_,?_,?_,?_⟩⟩⟩
    .rw[hr];exact TZ hri hF hov hpb
    .rw[hr,hq];exact RI.ext' H.ext fun h=>by have h1:=hI26 h;have h2:=hI6 h;rw[qab]at h2;simp only[qaf,qan,or_false];rcases hb80 with h3|h3 <;> omega
    .rw[hr,hq];exact RE.ext' H.ext fun h=>by have h1:=hE26 h;have h2:=hE6 h;rw[qab]at h2;simp only[qaf,qan,or_false];rcases hb80 with h3|h3 <;> omega
    .rw[hr,hq];exact RF.ext' H.ext fun _=>by show bf∉[b8,b6];simp only[qaf,qan,or_false];omega
    .rw[hr,hq];exact RP.ext' H.ext fun _=>by show bp∉[b8,b6];simp only[qaf,qan,or_false];omega
    .rw[hr,hq];dsimp only;rw[CP];exact qaq _
    .rw[hr,hq];intro h;have:=hIn h;dsimp only;omega
    .rw[hr,hq];intro h;have:=hEn h;dsimp only;omega
    .rw[hr,hq];intro _;show ¬bf<w0.heap.size;omega
    .rw[hr,hq];intro _;show ¬bp<w0.heap.size;omega
def ZQ(w:World)(rs:List Int)(ds:List Du)(net:Bool)(N:Int)(aE:Option Addr)(nE:Nat)(vI:Value)(code:Int):Prop :=
 (CY rs ds=false/\code=1/\∃aI nI cI,vI=.slice aI nI cI)\/(CY rs ds=true/\code=0/\N=((rs.length+1:Nat):Int)/\nE=(Cm rs (opn ds) net).length/\Rd w aE 4 Co (Cm rs (opn ds) net)/\∃aI cI,vI=.slice aI ((opn ds).map Du.id).length cI/\Rd w aI 1 U1 ((opn ds).map Du.id))
theorem RoundRes.uni(h:RoundRes w rs ds net v w'):Ext [] w w'/\∃N aE nE cE aI nI cI code,v=.tuple #[CM N aE nE cE,.slice aI nI cI,.int .i64 code]/\∀(S:List Nat) (w2:World),(∀x∈S,x<w.heap.size)->Ext S w' w2->ZQ w2 rs ds net N aE nE (.slice aI nI cI) code:=by
 obtain⟨hx,⟨h1,rfl⟩|⟨h1,aE,nE,cE,vI,rfl,SE,SI⟩⟩:=h
 .exact⟨hx,_,_,_,_,_,_,_,_,rfl,fun _ _ _ _ => .inl ⟨h1,rfl,_,_,_,rfl⟩⟩
 .obtain⟨aE',cE',hE,-,RE,hEn⟩:=SE.ex;obtain⟨aI,cI,rfl,-,RI,hIn⟩:=SI.ex;cases hE;exact⟨hx,_,_,_,_,_,_,_,_,rfl,fun S w2 hS he => .inr ⟨h1,rfl,rfl,rfl,RE.ext' he (fun hn hm=>by have:=hEn hn;have:=hS _ hm;omega),_,_,rfl,RI.ext' he (fun hn hm=>by have:=hIn hn;have:=hS _ hm;omega)⟩⟩
structure NowZ where
 b:Nat
 N:Int
 aE:Option Addr
 nE:Nat
 cE:Nat
 aI:Option Addr
 nI:Nat
 cI:Nat
 code:Int
def NowI(w0:World)(rs:List Int)(ds:List Du)(net:Bool)(b5:Nat)(o5:Obj)(z:NowZ)(w:World):Prop :=
 Ext [] w0 w/\w.heap[b5]?=some o5/\w.heap[z.b]?=some (Bl 53 [.int .i64 z.N,.slice z.aE z.nE z.cE])/\ZQ w rs ds net z.N z.aE z.nE (.slice z.aI z.nI z.cI) z.code
def Jl(acs:List Ac)(ds:List Du)(r:Rnd):Bool :=
 CY (acs.map CF) ds && (decide (((acs.length+1:Nat):Int)=r.N) && (decide (Cm (acs.map CF) (opn ds) r.cmp=r.es) && decide ((opn ds).map Du.id=r.ids)))
theorem Aje(ha:CO acs=0)(hd:ofC ds nx=0){q:RSl}(w:World)(A:AcAt w 153 bx acs)(D:DuAt w bd ds)(RA:RAt w r q)(he:r.es.length<=1000000)(hi:r.ids.length<=1000000) :
  Ret prog 157 #[ptr bx,ptr bd,.agg (AE r q).toArray] w fun v w'=>v=.bool (Jl acs ds r)/\Ext [] w w':=by
 obtain⟨w0,rfl,H⟩:=qE w;have hn16:=(BM.1 ha).1;have hm64:=(DZ.1 hd).1;obtain⟨rs,hrs⟩:=qD<|acs.map CF;have hrl:rs.length=acs.length:=by rw[hrs,qaj]
 refine iG func157 U ?_;refine Af<|Be (AE r q) (.agg _) U U H ?_;rintro b5 w - H;refine A5 U<|qA ?_;have hx5:=H.ext;have h5:=H.get at0;obtain⟨w5,rfl⟩:=qD w;refine Dk 2097024 (α:=NowZ) (fun z=>[(7,ptr z.b),(8,.slice z.aI z.nI z.cI),(9,.int .i64 z.code)]) (NowI w0 rs ds r.cmp b5<|Bl 57 (AE r q)) U ?_ ?_
 .skip
  refine Km (.two [0,2,4,5] 1 (.two [] 3 (.two [] 6 (.one [7,8,9,10] 11 (.one [] 12 (.one [] 13 (.one [] 14 .stop)))) 11 (.one [] 6 (.one [7,8,9,10] 12 (.one [] 13 (.one [] 14 .stop))))) 11 (.one [] 3 (.one [] 6 (.one [7,8,9,10] 12 (.one [] 13 (.one [] 14 .stop)))))) 11 (.one [] 1 (.one [] 3 (.one [] 6 (.one [7,8,9,10] 12 (.one [] 13 (.one [] 14 .stop))))))) (fun z=>Ext [] w5 z) AW (Ext.drew [] w5)<|F6 U U U ?_;refine Bm U<|Bm U<|Ah qf U<|AU qf U (fun _ hx=>(by rw[Ai<|hx.to h5<|by simp];rfl)) ?_;refine A6 ?_;have E:=Ext.drew [] w5;refine⟨?_,?_⟩
  .skip
   refine Aj qB (J4 ha _<|A.ext0<|hx5.trans E) U ?_;rintro v w ⟨hx12,a2,c2,rfl,R2⟩;rw[<-hrs]at R2 |-;replace E:=E.trans hx12;refine Ab<|B3 (by exact E) ?_;refine F6 U U U<|A6 ?_;refine⟨?_,?_⟩
   .skip
    refine Aj qB (Ic hd _<|D.ext0<|hx5.trans E) U ?_;rintro v w ⟨hx14,a3,c3,rfl,R3⟩;replace E:=E.trans hx14;replace R2:=R2.ext0 hx14;refine Ab<|B3 (by exact E) ?_;refine F6 U U U<|A6 ?_;refine⟨?_,?_⟩
    .skip
     refine Aj qB (G3 a2 a3 _ c2 _ c3 rs ds r.cmp _ R2 U R3 U) U ?_;rintro v w hR;obtain⟨hx17,N,aE,nE,cE,aI,nI,cI,code,rfl,hU⟩:=hR.uni;replace E:=E.trans hx17;refine Ab<|B3 (by exact E) ?_;refine B1 U U<|CK U<|AZ U U<|AZ U U<|AZ U U<|A6 ?_;have H:=Ctx.start w [];refine AN qf H ?_;rintro b7 w - H;refine Ab<|B3 (by exact E.trans H.ext) ?_;refine B1 U U<|A6<|AM qf U U U (by simp[AF]) H at0 U ?_;rintro w H;refine Ab<|B3 (by exact E.trans H.ext) ?_;refine B1 U U<|A6<|AP U<|Ab<|B3 (by exact E.trans H.ext) ?_;refine B1 U U<|A6<|Ag U<|Ab<|B3 (by exact E.trans H.ext) ?_;refine Db<|Aa ?_;exact⟨⟨b7,N,aE,nE,cE,aI,nI,cI,code⟩,rfl,⟨rfl,rfl,rfl,trivial⟩,hx5.trans<|E.trans H.ext,(E.trans H.ext).to h5<|by simp,H.get at0,hU [] _ (by simp) H.ext⟩
    .skip
     have H:=Ctx.start w [];refine AN qf H ?_;rintro b7 w - H;have hn7:w5.heap.size<=b7:=qa3 E.size<|(H.own _<|qah ..).elim (fun h=>by cases h) id;replace E:=E.trans H.ext;have hb7:=H.get at0;replace R2:=R2.ext0 H.ext;replace R3:=R3.ext0 H.ext;refine Ab<|B3 (by exact E) ?_;refine B1 U U<|A6 ?_;have hl7:=AX hb7;refine Aj qB (G3 a2 a3 _ c2 _ c3 rs ds r.cmp _ R2 U R3 U) U ?_;rintro v w hR;obtain⟨hx17,N,aE,nE,cE,aI,nI,cI,code,rfl,hU⟩:=hR.uni;replace E:=E.trans hx17;replace hb7:=hx17.to hb7 (by simp);have H:=Ctx.start1 hb7;refine Ab<|B3 (by exact E) ?_;refine B1 U U<|CK U<|AZ U U<|AZ U U<|AZ U U<|A6<|AM qf U U U (by simp[AF]) H at0 U ?_;rintro w H;refine Ab<|B3 (by exact E.then H.ext fun x hx => .inr (by rw[qab.1 hx];exact hn7)) ?_;refine B1 U U ?_
     refine A6<|AP U<|Ab<|B3 (by exact E.then H.ext fun x hx => .inr (by rw[qab.1 hx];exact hn7)) ?_;refine B1 U U ?_;refine A6<|Ag U<|Ab<|B3 (by exact E.then H.ext fun x hx => .inr (by rw[qab.1 hx];exact hn7)) ?_;refine Db<|Aa ?_;have E2:=E.then H.ext fun x hx => .inr (by rw[qab.1 hx];exact hn7);exact⟨⟨b7,N,aE,nE,cE,aI,nI,cI,code⟩,rfl,⟨rfl,rfl,rfl,trivial⟩,hx5.trans E2,E2.to h5<|by simp,H.get at0,hU [b7] _ (by simpa using hl7) H.ext⟩
   .skip
    have H:=Ctx.start w [];refine AN qf H ?_;rintro b7 w - H;have hn7:w5.heap.size<=b7:=qa3 E.size<|(H.own _<|qah ..).elim (fun h=>by cases h) id;replace E:=E.trans H.ext;have hb7:=H.get at0;replace R2:=R2.ext0 H.ext;refine Ab<|B3 (by exact E) ?_;refine B1 U U<|A6<|Aj qB (Ic hd _<|D.ext0<|hx5.trans E) U ?_;rintro v w ⟨hx14,a3,c3,rfl,R3⟩;replace E:=E.trans hx14;replace R2:=R2.ext0 hx14;replace hb7:=hx14.to hb7 (by simp);refine Ab<|B3 (by exact E) ?_;refine B1 U U<|A6 ?_;have hl7:=AX hb7;refine Aj qB (G3 a2 a3 _ c2 _ c3 rs ds r.cmp _ R2 U R3 U) U ?_;rintro v w hR;obtain⟨hx17,N,aE,nE,cE,aI,nI,cI,code,rfl,hU⟩:=hR.uni;replace E:=E.trans hx17;replace hb7:=hx17.to hb7 (by simp);have H:=Ctx.start1 hb7;refine Ab<|B3 (by exact E) ?_;refine B1 U U ?_
    refine CK U<|AZ U U<|AZ U U<|AZ U U<|A6<|AM qf U U U (by simp[AF]) H at0 U ?_;rintro w H;refine Ab<|B3 (by exact E.then H.ext fun x hx => .inr (by rw[qab.1 hx];exact hn7)) ?_;refine B1 U U ?_;refine A6<|AP U<|Ab<|B3 (by exact E.then H.ext fun x hx => .inr (by rw[qab.1 hx];exact hn7)) ?_;refine B1 U U ?_;refine A6<|Ag U<|Ab<|B3 (by exact E.then H.ext fun x hx => .inr (by rw[qab.1 hx];exact hn7)) ?_;refine Db<|Aa ?_;have E2:=E.then H.ext fun x hx => .inr (by rw[qab.1 hx];exact hn7);exact⟨⟨b7,N,aE,nE,cE,aI,nI,cI,code⟩,rfl,⟨rfl,rfl,rfl,trivial⟩,hx5.trans E2,E2.to h5<|by simp,H.get at0,hU [b7] _ (by simpa using hl7) H.ext⟩
  .skip
   have H:=Ctx.start (World.drew w5) [];refine AN qf H ?_;rintro b7 w - H;have hn7:w5.heap.size<=b7:=qa3 E.size<|(H.own _<|qah ..).elim (fun h=>by cases h) id;replace E:=E.trans H.ext;have hb7:=H.get at0;refine Ab<|B3 (by exact E) ?_;refine B1 U U<|A6<|Aj qB (J4 ha _<|A.ext0<|hx5.trans E) U ?_;rintro v w ⟨hx12,a2,c2,rfl,R2⟩;rw[<-hrs]at R2 |-;replace E:=E.trans hx12;replace hb7:=hx12.to hb7 (by simp);refine Ab<|B3 (by exact E) ?_;refine B1 U U<|A6<|Aj qB (Ic hd _<|D.ext0<|hx5.trans E) U ?_;rintro v w ⟨hx14,a3,c3,rfl,R3⟩;replace E:=E.trans hx14;replace R2:=R2.ext0 hx14;replace hb7:=hx14.to hb7 (by simp);refine Ab<|B3 (by exact E) ?_;refine B1 U U<|A6 ?_;have hl7:=AX hb7;refine Aj qB (G3 a2 a3 _ c2 _ c3 rs ds r.cmp _ R2 U R3 U) U ?_;rintro v w hR;obtain⟨hx17,N,aE,nE,cE,aI,nI,cI,code,rfl,hU⟩:=hR.uni
   replace E:=E.trans hx17;replace hb7:=hx17.to hb7 (by simp);have H:=Ctx.start1 hb7;refine Ab<|B3 (by exact E) ?_;refine B1 U U<|CK U<|AZ U U<|AZ U U<|AZ U U<|A6<|AM qf U U U (by simp[AF]) H at0 U ?_;rintro w H;refine Ab<|B3 (by exact E.then H.ext fun x hx => .inr (by rw[qab.1 hx];exact hn7)) ?_;refine B1 U U ?_;refine A6<|AP U<|Ab<|B3 (by exact E.then H.ext fun x hx => .inr (by rw[qab.1 hx];exact hn7)) ?_;refine B1 U U ?_;refine A6<|Ag U<|Ab<|B3 (by exact E.then H.ext fun x hx => .inr (by rw[qab.1 hx];exact hn7)) ?_;refine Db<|Aa ?_;have E2:=E.then H.ext fun x hx => .inr (by rw[qab.1 hx];exact hn7);exact⟨⟨b7,N,aE,nE,cE,aI,nI,cI,code⟩,rfl,⟨rfl,rfl,rfl,trivial⟩,hx5.trans E2,E2.to h5<|by simp,H.get at0,hU [b7] _ (by simpa using hl7) H.ext⟩
 .rintro⟨b7,N,aE,nE,cE,aI,nI,cI,code⟩ j1 w ⟨hx0,h5',hb7,hU⟩;dsimp only at hb7 hU;dsimp only;obtain⟨w1,rfl,H⟩:=qE w;have RA1:=RA.ext0 hx0
  rcases hU with⟨hb,rfl,-⟩|⟨hb,rfl,rfl,rfl,RE,aI',cI',hI,RI⟩
  .skip
   refine Af<|Ad U<|Ct U U<|Bj U<|iC 23 U ?_ ?_
   .intro g1;exact absurd g1<|by decide
   .intro g1;refine Al U<|Al U<|Al U<|Al U<|Al U<|Al U<|B9 U (.bool _) U<|Bj U<|Al U<|Al U ?_;refine Al U<|Al U<|Al U<|Al U<|B9 U (.bool _) U<|Bj U<|Al U<|Al U<|Al U<|Al U ?_;refine B9 U (.bool _) U<|A5 U<|qA<|Bf<|B6 (v:=(.bool _)) U U U ?_;exact⟨qaa Value.bool (by unfold Jl;rw[<-hrs,hb];simp_all),hx0⟩
  .skip
   cases hI;have hel:(Cm rs (opn ds) r.cmp).length<=1000000:=by have:=EW ds;rw[Hi];split <;> omega
   have hil:((opn ds).map Du.id).length<=1000000:=by have:=EW ds;rw[qaj];omega
   refine Af<|Ad U<|Ct U U<|Bj U<|iC 23 U ?_ ?_
   .intro h1;refine Ae qf U<|A9 qf U ((by rw[Ai<|H.ext.to hb7<|by simp];rfl)) ?_;refine Ae qf U<|Ae qf U<|A9 qf U ((by rw[Ai<|H.ext.to h5'<|by simp];rfl)) ?_;refine Ct U U<|Bz U (.bool _) U<|Bj U<|iC 31 U ?_ ?_
    .intro h2;refine Ae qf U<|A9 qf U ((by rw[Ai<|H.ext.to hb7<|by simp];rfl)) ?_;refine Ae qf U<|Ae qf U<|A9 qf U ((by rw[Ai<|H.ext.to h5'<|by simp];rfl)) ?_;refine Aj qB (Ai8 aE q.aE _ cE _ q.cE (Cm rs (opn ds) r.cmp) r.es _ (RE.ext0 H.ext) U hel (RA1.E.ext0 H.ext) U he) U ?_;rintro v w ⟨rfl,hx37⟩;replace H:=H.call hx37;refine Bz U (.bool _) U<|Bj U<|Az 39 U ?_ ?_
     .intro h3;refine AH U<|Ae qf U<|A9 qf U ((by rw[Ai<|H.ext.to h5'<|by simp];rfl)) ?_;refine Aj qB (Ai9 aI q.aI _ cI _ q.cI ((opn ds).map Du.id) r.ids _ (RI.ext0 H.ext) U hil (RA1.I.ext0 H.ext) U hi) U ?_;rintro v w ⟨rfl,hx43⟩;replace H:=H.call hx43;refine Bz U (.bool _) U<|A5 U<|qA<|Bf<|B6 (v:=(.bool _)) U U U ?_;exact⟨qaa Value.bool (by unfold Jl;rw[<-hrs,hb,<-hrl];simp_all),hx0.trans H.ext⟩
     .intro h4;refine Al U<|Al U<|Al U<|Al U<|B9 U (.bool _) U<|A5 U<|qA<|Bf<|B6 (v:=(.bool _)) U U U ?_;exact⟨qaa Value.bool (by unfold Jl;rw[<-hrs,hb,<-hrl];simp_all),hx0.trans H.ext⟩
    .intro h5;refine Al U<|Al U<|Al U<|Al U<|Al U<|Al U<|B9 U (.bool _) U<|Bj U<|Al U<|Al U ?_;refine Al U<|Al U<|B9 U (.bool _) U<|A5 U<|qA<|Bf<|B6 (v:=(.bool _)) U U U ?_;exact⟨qaa Value.bool (by unfold Jl;rw[<-hrs,hb,<-hrl];simp_all),hx0.trans H.ext⟩
   .intro h6;refine Al U<|Al U<|Al U<|Al U<|Al U<|Al U<|B9 U (.bool _) U<|Bj U<|Al U<|Al U ?_;refine Al U<|Al U<|Al U<|Al U<|B9 U (.bool _) U<|Bj U<|Al U<|Al U<|Al U<|Al U ?_;refine B9 U (.bool _) U<|A5 U<|qA<|Bf<|B6 (v:=(.bool _)) U U U ?_;exact⟨qaa Value.bool (by unfold Jl;rw[<-hrs,hb,<-hrl];simp_all),hx0.trans H.ext⟩
theorem Adt(w:World)(h4:w.heap[c4]?=some (Bl 88 [ptr bd]))(h7:w.heap[c7]?=some (Bl 41 [.slice (some ⟨by',0,none⟩) n n]))(hd:w.heap[bd]?=some (Bl 156 (DU b nx)))(H0:Ctx w [by',b] w [(by',Bl 2 (BF f n)),(b,o)])(hM:CQ .u64 (dm ds) o)(n4:c4∉[by',b])(n7:c7∉[by',b])(nd:bd∉[by',b])(hf:Cn ds d.id=some d)(hh:d.held=false)(hx:0<=x/\x<=d.am)(ham:TU ds)(hfr:0<=d.fr/\d.fr<n)(hto:0<=d.to/\d.to<n)(hfb:∀k,-1152921504606846976<=f k/\f k<=1152921504606846976)(hf':∀k,f' k=f k+(one (d.to.toNat=k) - one (d.fr.toNat=k))*x)(_:n<=1000000:=by omega):
  Ret prog 158 #[.int .u64 d.id,.int .i64 x,ptr c4,ptr c7] w fun v w'=>v=.int .i64 0/\∃o',CQ .u64 (dm<|FN ds d.id x) o'/\Ctx w [by',b] w' [(by',Bl 2 (BF f' n)),(b,o')]:=by
 obtain⟨w0,rfl⟩:=qD w;have H:=H0;have hamd:=ham d (GQ hf).1;obtain⟨fn,hfn⟩:∃fn:Nat,d.fr=fn:=⟨d.fr.toNat,by omega⟩;obtain⟨tn,htn⟩:∃tn:Nat,d.to=tn:=⟨d.to.toNat,by omega⟩;obtain⟨f1,hf1⟩:=qD<|upd f fn<|f fn - x;have hof:f1 fn=f fn - x:=by rw[hf1,CI]
 have hon:∀q,q≠fn->f1 q=f q:=fun q hq=>by rw[hf1,Dy hq]
 have hst:∀q,f' q=upd f1 tn (f1 tn+x) q:=fun q=>by
  rw[hf',hfn,htn,qa7,qa7]
  by_cases h1:q=tn
  .subst h1;rw[CI,EM rfl]
   by_cases h2:fn=q
   .subst h2;rw[EM rfl,hof];omega
   .rw[E3 h2,hon q<|Ne.symm h2];omega
  .rw[Dy h1,E3<|Ne.symm h1]
   by_cases h2:fn=q
   .subst h2;rw[EM rfl,hof];omega
   .rw[E3 h2,hon q<|Ne.symm h2];omega
 have hb1:=hfb fn;have hb2:=hfb tn
 have hot : -1157425104234217472<=f1 tn/\f1 tn<=1157425104234217472:=by
  by_cases h:tn=fn
  .rw[h,hof];omega
  .rw[hon tn h];omega
 have hbb:=H.ne at0 at1 (by decide);refine iG func158 U ?_;refine Af<|Ag U<|qA<|Af<|A9 qf U ((H.old (Ai h4 _) n4)) ?_;refine Ad U<|Aj qB (Qe _ (H.ext.to hd nd) (H.get at1) hM) U ?_;rintro v w ⟨rfl,hx12⟩;replace H:=H.call hx12;rw[show GS ds d.id=d by unfold GS;rw[hf];rfl];refine qG 4 ?_;rintro b7 w - H;refine AM qf U U U (by exact Cx _) H at0 U ?_;rintro w H;refine qG 4 ?_;refine A9 qf U ((H.old (Ai h7 _) n7)) ?_;refine qG 3 ?_;refine P6 fn _ U qf U H at1 (by rw[hfn];simp) U ?_;refine qG 3 ?_;refine BZ fn (fun q => .int .i64 (f1 q)) (.int _ _) qf U U U H at1 (by rw[hfn];simp) (by rw[hof]) (fun q _ hq=>by rw[hon q hq]) ?_;rintro w H;refine qA<|Af<|A9 qf U ((H.old (Ai h7 _) n7)) ?_;refine qG 3 ?_
 refine P6 tn _ U qf U H at1 (by rw[htn];simp) U ?_;refine qG 3 ?_;refine BZ tn (fun q => .int .i64 (f' q)) (.int _ _) qf U U U H at1 (by rw[htn];simp) (by rw[hst,CI]) (fun q _ hq=>by rw[hst,Dy hq]) ?_;rintro w H;refine qA<|Af<|A9 qf U ((H.old (Ai h4 _) n4)) ?_;refine Ad U<|Ad U ?_;obtain⟨hc0,hS⟩:=OZ (p:=(d,x)) ⟨hf,hh,hx.1,hx.2⟩;dsimp only at hc0 hS;have Hp:=H.perm<|show List.Perm _ [_,_,_]from(List.Perm.swap _ _ _).trans ((List.Perm.swap _ _ _).cons _);refine Aj qB (Adg (k:=d.id) (x:=x) _ (H.ext.to hd nd) (H.get at2) hM (by intro h;exact nd (by rw[h];simp)) ham) U ?_;rintro v w ⟨rfl,o',hM',H2⟩;rw[hc0];rw[hS]at hM';refine qG 5 ?_;have HB:=Ctx.back (L1:=[_]) (L2:=[_,_]) (Hp.perm<|List.Perm.swap _ _ _) H2;exact⟨rfl,o',hM',(HB.perm<|List.Perm.swap _ _ _).left (L:=[_,_]) (L':=[_])⟩
theorem Afe(A B C p y q1 q2:α)(E:List α):(A::B::C::(E++[p,y,q1,q2])).Perm (y::C::A::B::p::q1::q2::E):=by
 have h1:(A::B::C::(E++[p,y,q1,q2])).Perm (A::B::C::p::y::q1::q2::E):=((qb5 (l₁:=E) (l₂:=[p,y,q1,q2])).cons C |>.cons B).cons A;have h2:(A::B::C::p::y::q1::q2::E).Perm (y::A::B::C::p::q1::q2::E):=qbl (l₁:=[A,B,C,p]);have h3:(A::B::C::p::q1::q2::E).Perm (C::A::B::p::q1::q2::E):=qbl (l₁:=[A,B]);exact h1.trans<|h2.trans<|h3.cons y
theorem Ctx.turnEnt(H:Ctx w0 S w<|L++ent a t full)(he:Ext ((ent a t full).map (·.1)) w w')(hb:∀x∈ent a t full',w'.heap[x.1]?=some x.2):Ctx w0 S w'<|L++ent a t full':=by
 have H':Ctx w ((ent a t full).map (·.1)) w'<|ent a t full':=⟨he,hb,DX,fun x hx=>by
  cases a with
  |none=>simp[ent]at hx
  |some p =>
   simp only[ent,qab]at hx;subst hx
   exact .inl<|by simp[ent]⟩
 exact(Ctx.back (Ctx.comm H) H').comm
theorem BQ(h:w.heap[b]?=some (Bl t l))(o:Nat)(l':List Value)(hl:(l.drop o).take l'.length=l'):∀j v,l'[j]?=some v->w.cell? ⟨b,o+j,none⟩=some v:=fun j v hv=>by
 rw[Ai h];have hj:=BH hv;rw[<-hl,qbt,if_pos hj,qc0]at hv;exact hv
theorem ROff.or{q:RSl}{S:Nat->Prop}(h:ROff q r S)(k:ROff q r T):ROff q r (fun x=>S x\/T x) :=
 ⟨fun g x=>x.elim (h.I g)<|k.I g,fun g x=>x.elim (h.E g)<|k.E g,fun g x=>x.elim (h.F g)<|k.F g,fun g x=>x.elim (h.P g)<|k.P g⟩
structure ApF(acs:List Ac)(ds:List Du)(r:Rnd):Prop where
 B:Bright (acs.map CF) ds
 N:r.N=(((acs.map CF).length+1:Nat):Int)
 es:r.es=Cm (acs.map CF) (opn ds) r.cmp
 ids:r.ids=(opn ds).map Du.id
 pay:PayIn (opn ds) (r.fl.take (opn ds).length)
 len:r.fl.length=r.es.length
 by':∀(k:Nat) (a:Ac),acs[k]?=some a->(r.cmp=true->byK (acs.map CF) (opn ds) r.cmp r.fl k=0) /\ -(CF a)<=byK (acs.map CF) (opn ds) r.cmp r.fl k/\byK (acs.map CF) (opn ds) r.cmp r.fl k<=4503599627370496
 sum:BU (byK (acs.map CF) (opn ds) r.cmp r.fl) acs.length=0
 ok:JK ds ((opn ds).zip (r.fl.take (opn ds).length))
 all:Gu ds ((opn ds).zip (r.fl.take (opn ds).length))=EJ ds (r.fl.take (opn ds).length)
theorem ZR(_:CO acs=0)(hd:ofC ds nx=0)(hck:Ev r.N r.es r.fl r.pot=true)(hnow:Jl acs ds r=true):ApF acs ds r:=by
 have hm64:=(DZ.1 hd).1;unfold Jl at hnow;simp only[qag,qav]at hnow;obtain⟨h1,h2,h3,h4⟩:=hnow;have hB:=(FO).1 h1;have hN:r.N=(((acs.map CF).length+1:Nat):Int):=by rw[qaj];exact h2.symm
 have hf:=(G4.1 hck).1;rw[hN,<-h3]at hf;obtain⟨f1,f2,f3,f4⟩:=ZA (fun x hx=>(Cq.1<|hB.may x hx).1) hB.open'.due hf;have hp:=Adm f1 [] (by rw[qcm];exact Jj hd);rw[qcm]at hp;rw[qaj]at f4;exact⟨hB,hN,h3.symm,h4.symm,f1,by rw[f2,h3],fun k a hk=>f3 k _ (by rw[qa9,hk];rfl),f4,hp.1,hp.2⟩
def Dl(acs:List Ac)(ds:List Du)(r:Rnd):Int:=if Ev r.N r.es r.fl r.pot=false then 1 else if Jl acs ds r=false then 3 else 0
def DE(acs:List Ac)(ds:List Du)(r:Rnd):List Ac:=if Dl acs ds r=0 then shA acs (tab (byK (acs.map CF) (opn ds) r.cmp r.fl) acs.length)else acs
def DM(acs:List Ac)(ds:List Du)(r:Rnd):List Du:=if Dl acs ds r=0 then EJ ds (r.fl.take (opn ds).length)else ds
theorem EQ(ha:CO acs=0)(hd:ofC ds nx=0)(h:Dl acs ds r=0):ApF acs ds r:=by
 unfold Dl at h
 cases h1:Ev r.N r.es r.fl r.pot with
 |false=>rw[if_pos h1]at h;simp at h
 |true =>
  rw[if_neg (by rw[h1];decide)]at h
  cases h2:Jl acs ds r with
  |false=>rw[if_pos h2]at h;simp at h
  |true=>exact ZR ha hd h1 h2
theorem J5(ha:CO acs=0)(hd:ofC ds nx=0):CO (DE acs ds r)=0/\ofC (DM acs ds r) nx=0/\(DE acs ds r).length=acs.length:=by
 unfold DE DM
 by_cases h:Dl acs ds r=0
 .rw[if_pos h,if_pos h];have F:=EQ ha hd h;exact⟨(Hj ha (fun k a hk=>(F.by' k a hk).2) F.sum).2,Adl F.pay hd,Qh⟩
 .rw[if_neg h,if_neg h];exact⟨ha,hd,rfl⟩
abbrev LX(bx:Nat)(a:Option Addr)(n c:Nat)(full:List Value)(bd b:Nat)(nx:Int)(o:Obj):List (Nat × Obj):=(bx,Bl 153 [.slice a n c])::(bd,Bl 156 (DU b nx))::(b,o)::ent a 162 full
structure AP7 where
 i:Nat
 o:Obj
theorem ZS{q:RSl}(ha:CO acs=0)(hd:ofC ds nx=0)(w:World)(H0:Ctx w ((LX bx a acs.length c full bd b nx o).map (·.1)) w<|LX bx a acs.length c full bd b nx o)(O:OS a acs.length c 2 full (acs.flatMap Cg))(hM:CQ .u64 (dm ds) o)(RA:RAt w r q)(hoff:ROff q r (·∈(LX bx a acs.length c full bd b nx o).map (·.1)))(hN:I64 r.N)(he:r.es.length<=1000000)(hi:r.ids.length<=1000000)(hf:r.fl.length<=1000000)(hp:r.pot.length<=1000000) :
  Ret prog 104 #[ptr bx,ptr bd,.agg (AE r q).toArray] w fun v w'=>v=.int .i64 (Dl acs ds r)/\∃full' o',OS a acs.length c 2 full' ((DE acs ds r).flatMap Cg)/\CQ .u64 (dm<|DM acs ds r) o' /\
   Ctx w ((LX bx a acs.length c full bd b nx o).map (·.1)) w' (LX bx a acs.length c full' bd b nx o'):=by
 obtain⟨w0,rfl,H⟩:=qE w;have hn16:=(BM.1 ha).1;have hm64:=(DZ.1 hd).1;have hbx:=H0.get at0;have hbd:=H0.get at1;have hb:=H0.get at2;have RAc:Rd w0 a 2 Cg acs:=OS.rd O (fun x hx=>H0.blk x<|qae _<|qae _<|qae _ hx) (fun _ _=>rfl) (by decide);have A:AcAt w0 153 bx acs:=⟨a,c,hbx,RAc⟩;have D:DuAt w0 bd ds:=⟨b,nx,o,hbd,hb,hM⟩;obtain⟨ck,hck⟩:=qD<|Ev r.N r.es r.fl r.pot;obtain⟨nw,hnw⟩:=qD<|Jl acs ds r;refine iG func104 U ?_;refine Af<|Be [ptr bd] (.pointer _) U U H ?_;rintro b4 w - H;refine Be (AE r q) (.agg _) U U H ?_;rintro b5 w - H;refine qG 6 ?_
 refine Bo (α:=Unit) 520192 (fun _=>[(12,.bool<|false)]) (fun _ w'=>Ctx w0 [] w' [(b5,Bl 57 (AE r q)),(b4,Bl 88 [ptr bd])]) U ?_ ?_
 .refine qG 3 ?_;refine Az 15 U ?_ ?_
  .intro h1;refine qG 5 ?_;exact⟨rfl,(),rfl,⟨qaa Value.bool<|by simp_all,trivial⟩,H⟩
  .intro h2;refine qG 5 ?_;exact⟨rfl,(),rfl,⟨qaa Value.bool<|by rfl,trivial⟩,H⟩
 rintro - j12 w H;refine qG 3 ?_;refine BC _ qf qf U U ((BQ (b:=b5) (t:=57) (l:=AE r q) (H.get at0) 4 [.int .i64 r.N,.slice q.aE r.es.length q.cE] U))<|Ae qf U<|BC _ qf qf U U ((BQ (b:=b5) (t:=57) (l:=AE r q) (H.get at0) 6 [.slice q.aF r.fl.length q.cF,.slice q.aP r.pot.length q.cP] U))<|Aj qB (Ri r.N q.aE q.aF q.aP _ q.cE _ q.cF _ q.cP r.es r.fl r.pot _ (RA.E.ext0 H.ext) U hN (RA.F.ext0 H.ext) U (by omega) (RA.P.ext0 H.ext) U<|by omega) U ?_;rintro v w ⟨rfl,hx24⟩;rw[<-hck];replace H:=H.call hx24;refine qGp 4 ?_ ?_
 .intro h1;refine qG 8 ?_;have h1':ck=false:=by simpa using h1
  have hC:Dl acs ds r=1:=by unfold Dl;rw[<-hck,if_pos h1']
  unfold DE DM;rw[hC,if_neg<|by decide,if_neg<|by decide];exact⟨rfl,full,o,O,hM,H0.call H.ext⟩
 .intro h1;have h1':ck=true:=by simpa using h1
  refine qG 4 ?_;refine Aj qB (Aje ha hd _ (A.ext0 H.ext) (D.ext0 H.ext) (RA.ext0 H.ext) he hi) U ?_;rintro v w ⟨rfl,hx30⟩;rw[<-hnw];replace H:=H.call hx30;refine qGp 4 ?_ ?_
  .intro h2;refine qG 8 ?_;have h2':nw=false:=by simpa using h2
   have hC:Dl acs ds r=3:=by unfold Dl;rw[<-hck,h1',if_neg<|by decide,<-hnw,if_pos h2']
   unfold DE DM;rw[hC,if_neg<|by decide,if_neg<|by decide];exact⟨rfl,full,o,O,hM,H0.call H.ext⟩
  .intro h2;have h2':nw=true:=by simpa using h2
   have hC:Dl acs ds r=0:=by unfold Dl;rw[<-hck,h1',if_neg<|by decide,<-hnw,h2',if_neg<|by decide]
   have F:=EQ ha hd hC;unfold DE DM;rw[hC,if_pos rfl,if_pos rfl];have hSh:=(Hj ha (fun k a hk=>(F.by' k a hk).2) F.sum).1;obtain⟨f,hf0⟩:=qD (fun i=>Em (grE (((acs.map CF).length+1:Nat):Int)<|Cm (acs.map CF) (opn ds) r.cmp) (flE r.fl) i:Nat->Nat->Int);have hfe:byK (acs.map CF) (opn ds) r.cmp r.fl=f (opn ds).length:=by rw[hf0];rfl
   rw[hfe]at hSh |-;have hf00:f 0=fun _=>0:=by rw[hf0];rfl
   obtain⟨m,hm⟩:=qD<|(opn ds).length;have hml:m<=64:=by have:=EW ds;omega
   have hmf:m<=r.fl.length:=by rw[F.len,F.es,Hi];omega
   have hltm:(r.fl.take m).length=m:=by rw[qa8];omega
   have hidl:r.ids.length=m:=by rw[F.ids,qaj,hm]
   have hcut:Qc (r.ids.length:Int) r.fl.length=m:=by unfold Qc;rw[hidl];omega
   rw[<-hm]at hSh |-;refine A1<|Av<|Aa<|Af<|AV U<|Aj qB (Np (bd:=bx) a acs.length c acs _ (H.ext.to hbx<|by simp) (RAc.ext0 H.ext) U) U ?_;rintro v w F33;obtain⟨a33,n33,c33,f33,rfl,O33,-⟩:=F33.ex;obtain rfl:=O33.numN (fun _ _=>rfl) (by decide);replace H:=H.call F33.ext;refine qG 2 ?_;rintro b35 w - H;rw[qa7,DP]at H;rw[qa7];refine AN qf H ?_;rintro b7 w - H;refine Ch (.slice _ _ _) qf U U U H at0 (by decide) ?_;rintro w H;refine qA<|Af<|Ci [.pointer _,.pointer _] U ?_;refine qG 6 ?_;refine BC _ qf qf U U ((BQ (b:=b5) (t:=57) (l:=AE r q) (H.get at2) 4 [.int .i64 r.N,.slice q.aE r.es.length q.cE] U)) ?_;refine qG 6 ?_;refine Aj qB (Vf r.N q.aE q.aF r.es.length q.cE _ q.cF (r.ids.length:Int) r.fl _ (RA.F.ext0 H.ext) U RA.fc hf) U ?_;rintro v w F45;rw[hcut]at F45;obtain⟨a45,n45,c45,f45,rfl,O45,hb45⟩:=F45.ex
   have hn45:=O45.num;rw[qa8,qch hmf]at hn45;rw[hn45]at O45 |-;refine qG 5 ?_;have HFp:=(Ctx.callEnt H0 H.ext (fun x hx=>⟨H.blk x hx,(H.own x hx).elim (fun h=>by cases h) id⟩) H.nd).perm<|Afe _ _ _ _ _ _ _ _;have HF:=HFp.call F45.ext;have E9:=H.ext.trans F45.ext;obtain⟨S9,hS9⟩:=qD<|((b35,Bl 2 (List.map (fun _=>Value.int .i64 0)<|List.range acs.length))::(b,o)::(bx,Bl 153 [.slice a acs.length c])::(bd,Bl 156 (DU b nx))::(b7,Bl 41 [.slice (some ⟨b35,0,none⟩) acs.length acs.length])::(b5,Bl 57 (AE r q))::(b4,Bl 88 [ptr bd])::ent a 162 full).map (·.1);have RPY:Rd w a45 1 I1 (r.fl.take m):=O45.rd1 fun x hx=>(hb45 x hx).1
   have hPY:r.fl.take m≠[]->(adr a45).block∉S9:=fun hne hm9=>by
    obtain⟨z,rfl⟩:=O45.form (by have:=qbu.2 hne;rw[qa8]at this;omega);have h7:=(hb45 (z,Bl 2 f45)<|qab.2 rfl).2;rw[hS9]at hm9;obtain⟨y,hy,hy2⟩:=qak.1 hm9;have h8:=AX<|HFp.blk y hy;dsimp only at h7;have h9:y.1=z:=hy2;omega
   have RA9:=RA.ext0 E9
   have hoff9:ROff q r (·∈S9):=(hoff.or RA.lt).mono fun x hx=>by
    rw[hS9]at hx;obtain⟨y,hy,rfl⟩:=qak.1 hx;exact HFp.own y hy
   clear HFp;obtain⟨w9,rfl⟩:=qD w;replace HF:Ctx w0 ((LX bx a acs.length c full bd b nx o).map (·.1)) w9<|((b35,Bl 2 (List.map (fun _=>Value.int .i64 0)<|List.range acs.length))::(b,o)::(bx,Bl 153 [.slice a acs.length c])::(bd,Bl 156 (DU b nx))::(b7,Bl 41 [.slice (some ⟨b35,0,none⟩) acs.length acs.length])::(b5,Bl 57 (AE r q))::(b4,Bl 88 [ptr bd])::ent a 162 full)++[]:=by rw[qar];exact HF
   have H:Ctx w9 S9 w9 ((b35,Bl 2 (List.map (fun _=>Value.int .i64 0)<|List.range acs.length))::(b,o)::(bx,Bl 153 [.slice a acs.length c])::(bd,Bl 156 (DU b nx))::(b7,Bl 41 [.slice (some ⟨b35,0,none⟩) acs.length acs.length])::(b5,Bl 57 (AE r q))::(b4,Bl 88 [ptr bd])::ent a 162 full):=by rw[hS9];exact Ctx.lend HF
   refine AY 18446603336221199936 (α:=AP7) (fun t=>[(47,.int .i64 (t.i:Int))]) (fun t w'=>t.i<=m/\CQ .u64 (dm<|Gu ds<|((opn ds).zip<|r.fl.take m).take t.i) t.o/\Ctx w9 S9 w' ((b35,Bl 2 (BF (f t.i) acs.length))::(b,t.o)::(bx,Bl 153 [.slice a acs.length c])::(bd,Bl 156 (DU b nx))::(b7,Bl 41 [.slice (some ⟨b35,0,none⟩) acs.length acs.length])::(b5,Bl 57 (AE r q))::(b4,Bl 88 [ptr bd])::ent a 162 full)) (fun t=>m - t.i) ⟨0,o⟩ U ?_ ?_ ?_
   .exact⟨rfl,trivial⟩
   .refine⟨qai _,hM,?_⟩;dsimp only;rw[hf00];exact H
   .clear H;rintro⟨i,o1⟩ jj w ⟨hi7,hM1,H⟩;dsimp only at hi7 hM1 H;dsimp only;refine qGp 5 ?_ ?_
    .intro h3;obtain⟨d,hdi⟩:=Au (l:=opn ds) (i:=i);obtain⟨x,hxi⟩:=Au (l:=r.fl) (i:=i);have hxt:(r.fl.take m)[i]?=some x:=by rw[qbt,if_pos<|by omega];exact hxi
     have hid:r.ids[i]?=some d.id:=by rw[F.ids,qa9,hdi];rfl
     have hps:((opn ds).zip<|r.fl.take m)[i]?=some (d,x):=by rw[qcc];exact⟨hdi,hxt⟩
     have hok:=F.ok;rw[<-hm]at hok;obtain⟨⟨hfd,hheld,hx0,hx1⟩,hnext⟩:=Nq hok hps;dsimp only at hfd hheld hx0 hx1 hnext;have ham7:=(Qg (Afa hd) hok i).1;have hDI:=F.B.open'.due d<|qad hdi;rw[qaj]at hDI;have hdm:=CD hDI.1
     have hfb:∀k,-1152921504606846976<=f i k/\f i k<=1152921504606846976:=fun k=>by
      have:=GG (g:=grE (((acs.map CF).length+1:Nat):Int)<|Cm (acs.map CF) (opn ds) r.cmp) (x:=flE r.fl) (c:=4503599627370496) k (k:=i) fun j hj=>by
       obtain⟨d',hd'⟩:=Au (l:=opn ds) (i:=j);obtain⟨x',hx'⟩:=Au (l:=r.fl) (i:=j);have h1:=F.pay.2 j d' x' hd' (by rw[qbt,if_pos<|by omega];exact hx');have h2:=(CD (F.B.open'.due d'<|qad hd').1).2.2.2.1;show 0<=r.fl.getD j 0/\r.fl.getD j 0<=_;rw[Bp hx'];omega
      rw[hf0];dsimp only;omega
     have hfs:∀k,f (i+1) k=f i k+(one (d.to.toNat=k) - one (d.fr.toNat=k))*x:=fun k=>by
      rw[hf0];dsimp only;rw[G1,Se<|I4 hdi,Sf<|I4 hdi,show flE r.fl i=x from Bp hxi];rfl
     refine qG 6 ?_;refine A2 RPY qf qf U U (by omega)<|A9 qf U (((RPY.ext' H.ext hPY).fld hxt U (j:=0) U)) ?_;refine qG 9 ?_
     refine A2 RA9.I qf qf U U (by rfl)<|A9 qf U (((RA9.I.ext' H.ext hoff9.I).fld hid U (j:=0) U))<|Ad U<|FA U qB (Adt (f:=f i) (f':=f<|i+1) (x:=x) (d:=d) _ (H.get at6) (H.get at4) (H.get at3) (Ctx.lend (L1:=[_,_]) (L2:=_) H) hM1 (fun h=>by simp only[qaf,qan,or_false]at h;exact h.elim (H.ne at6 at0<|by decide)<|H.ne at6 at1<|by decide) (fun h=>by simp only[qaf,qan,or_false]at h;exact h.elim (H.ne at4 at0<|by decide)<|H.ne at4 at1<|by decide) (fun h=>by simp only[qaf,qan,or_false]at h;exact h.elim (H.ne at3 at0<|by decide)<|H.ne at3 at1<|by decide) hfd hheld ⟨hx0,hx1⟩ ham7 ⟨hdm.1.1,hDI.2.1⟩ ⟨hdm.2.1.1,hDI.2.2⟩ hfb hfs) U ?_;rintro v w ⟨rfl,o2,hM2,H2⟩;replace H:=Ctx.back (L1:=[_,_]) (L2:=_) H H2;rw[<-hnext]at hM2;refine qGp 8 ?_ ?_
     .intro h4;exact absurd U h4
     .intro h4;refine A1<|Av<|Aa<|Aw<|Ap U U ?_;refine Ad U<|qA ?_;exact⟨⟨i+1,o2⟩,rfl,⟨rfl,trivial⟩,⟨by dsimp only;omega,hM2,H⟩,by dsimp only;omega⟩
    .intro h3;obtain rfl:i=m:=by omega
     have hall:=F.all;rw[<-hm]at hall;rw[qc5 (by rw[qb3,<-hm,qa8];omega),hall]at hM1;refine Bi<|Am<|Am<|A8<|Aa<|Af<|AV U<|Bh qf U H at4 U<|Aj qB (Ws (bd:=bx) a (some ⟨b35,0,none⟩) c acs.length acs.length full acs (tab (f i) acs.length) _ (H.get at2) O (fun x hx=>⟨H.blk x<|qap [_,_,_,_,_,_,_] hx,fun h=>(qbf.1 H0.nd).1 x (qae _<|qae _ hx) h.symm⟩) (Cv<|H.get at0)<|CP _ _) U ?_;rintro v w ⟨rfl,full',O',hb',hx66⟩;rw[hSh];refine qG 5 ?_;have HT:=Ctx.turnEnt (L:=[_,_,_,_,_,_,_]) H hx66 hb';rw[hS9]at HT;have HB:=Ctx.back HF HT;rw[qar]at HB;exact⟨rfl,full',o1,O',hM1,(HB.perm (Afe _ _ _ _ _ _ _ _).symm).left (L':=[_,_,_,_])⟩
def plc(k:Nat)(d:Du):Int:=one (d.to=(k:Int)) - one (d.fr=(k:Int))
def FP(acs:List Ac)(ds:List Du)(k:Nat):Int:=(acs.getD k a00).ba+Cl (ds.map fun d=>plc k d*d.am)
theorem Pc(ha:CO acs=0)(hd:ofC ds nx=0)(hC:Dl acs ds r=0){k:Nat}{a:Ac}(hk:acs[k]?=some a):(DE acs ds r)[k]?=some ⟨a.ba+byK (acs.map CF) (opn ds) r.cmp r.fl k,a.re⟩:=by
 have F:=EQ ha hd hC;unfold DE;rw[if_pos hC];exact Vh (Hj ha (fun k a hk=>(F.by' k a hk).2) F.sum).1 hk
theorem Pd(hb:CY (acs.map CF) ds=true)(P:PlanR acs ds net r):Dl acs ds r=0:=by
 unfold Dl Jl;rw[P.chk,hb,P.cmp,P.es,P.ids,P.N];simp
theorem WH(P:PlanR acs ds net r):Cd r.N r.es=true/\BO r.N r.es r.fl=true/\(∀v,v<r.N.toNat->BJ (grE r.N r.es) (flE r.fl) v=0)/\Fine (grE r.N r.es) (Ck r.es) (flE r.fl) (E7 r.pot):=by
 obtain⟨h1,-,h3⟩:=G4.1 P.chk;obtain⟨h4,h5⟩:=E4 h1;exact⟨(Cj h4).2.1,h4,h5,h3⟩
theorem WI(h:∀x∈xs,0<=x)(k:Nat):Cl (xs.take k)<=Cl xs:=by
 have h1:Cl (xs.take k++xs.drop k)=Cl (xs.take k)+Cl (xs.drop k):=Ep _ _;rw[qbp]at h1;have h2:=EO (xs:=xs.drop k) fun x hx=>h x<|qco hx;omega
def Ex(os:List Du)(xs:List Int)(k:Nat):Int:=BU (fun i=>(os.getD i d00).we*xs.getD i 0) k
theorem Jm{k:Nat}(hd:os[k]?=some d)(hx:xs[k]?=some x):Ex os xs (k+1)=Ex os xs k+d.we*x:=by
 show Ex os xs k+(os.getD k d00).we*xs.getD k 0=_;rw[Bp hd,Bp hx]
theorem GU{os:List Du}{xs:List Int}(hp:PayIn os xs)(hos:∀d∈os,0<=d.we/\d.we<=1000):∀k,k<=os.length->0<=Ex os xs k/\Ex os xs k<=1000*Cl ((os.map Du.am).take k)
 |0,_=>⟨qa4 _,qa4 _⟩
 |k+1,h=>by
  have ih:=GU hp hos k (by omega);have hl:=hp.1;obtain⟨d,hd⟩:=Au (l:=os) (i:=k);obtain⟨x,hx⟩:=Au (l:=xs) (i:=k);have h1:=hp.2 k d x hd hx;have hw:=hos d<|qad hd;have hm:(os.map Du.am)[k]?=some d.am:=by rw[qa9,hd];rfl
  have h2:0<=d.we*x:=qda hw.1 h1.1;have h3:d.we*x<=1000*d.am:=qbj (qeh hw.2 h1.1) (qdp h1.2<|by decide);rw[Jm hd hx,HY hm];omega
theorem Ns:∀k,k<=os.length->Ex os (fl.take os.length) k=Ex os fl k:=fun k hk=>CT fun i hi=>by
 rw[qb1 (l:=fl.take os.length),qb1 (l:=fl),qbt,if_pos<|by omega]
theorem KN:∀{ds:List Du} {xs:List Int} {e:Du},e∈EJ ds xs->∃d∈ds,e.fr=d.fr/\e.to=d.to/\e.we=d.we
 | [],_,_,h=>by cases h
 |d::ds,[],e,h=>⟨e,h,rfl,rfl,rfl⟩
 |d::ds,x::xs,e,h=>by
  unfold EJ at h
  split at h
  .rcases qaf.1 h with rfl|h
   .exact⟨_,qah ..,rfl,rfl,rfl⟩
   .obtain⟨d',h1,h2⟩:=KN h;exact⟨d',qae _ h1,h2⟩
  .split at h
   .obtain⟨d',h1,h2⟩:=KN h;exact⟨d',qae _ h1,h2⟩
   .rcases qaf.1 h with rfl|h
    .exact⟨_,qah ..,rfl,rfl,rfl⟩
    .obtain⟨d',h1,h2⟩:=KN h;exact⟨d',qae _ h1,h2⟩
theorem So(ha:CO acs=0)(hd:ofC ds nx=0)(hC:Dl acs ds r=0):Bright ((DE acs ds r).map CF)<|DM acs ds r:=by
 have F:=EQ ha hd hC;obtain⟨h1,h2,h3⟩:=J5 (r:=r) ha hd;refine Ka h1 h2 fun d hdm=>?_;unfold DM at hdm;rw[if_pos hC]at hdm;obtain⟨d',h4,h5,h6,-⟩:=KN hdm;have h7:=(F.B.due d' h4).2;rw[qaj]at h7;rw[h3];omega
structure Ak where
 kd:Int
 a:Int
 b:Int
 x:Int
 w:Int
 u:Int
 id:Int
structure Ld where
 day:Int
 acs:List Ac
 ds:List Du
 nx:Int
 rn:List Rnd
 no:Int
def Gg(r:Rnd):Bool:=Ev r.N r.es r.fl r.pot && (decide (r.ids.length<=64) && decide (0<=r.day))
structure Ld.Ok(s:Ld):Prop where
 ac:CO s.acs=0
 du:ofC s.ds s.nx=0
 bk:∀d∈s.ds,d.fr<s.acs.length/\d.to<s.acs.length
 day:0<=s.day/\s.day<=9223372036854775807
 kept:s.rn.length<=4/\(s.rn.length:Int)<=s.no/\s.no<=4611686018427387904
 nos:∀(i:Nat) (r:Rnd),s.rn[i]?=some r->r.no=s.no - s.rn.length+1+i
 may:∀r∈s.rn,Gg r=true
def bas(acs:List Ac):List Int:=acs.map Ac.ba
def J9(acs:List Ac)(k:Int)(a:Ac):List Ac:=acs.set k.toNat a
def DW(acs:List Ac)(k x:Int):Int:=if inA acs k=false then 10 else if(decide (0<x) && C0 x)=false then 1 else if(Dp (bas acs++[x])).2≠0 then 13 else 0
def DF(acs:List Ac)(k x:Int):List Ac:=if DW acs k x=0 then J9 acs k ⟨(Da acs k).ba+x,(Da acs k).re⟩else acs
def DG(acs:List Ac)(k x:Int):Int:=if inA acs k=false then 10 else if(decide (0<x) && C0 x)=false then 1 else if(Da acs k).ba<x then 12 else 0
def D8(acs:List Ac)(k x:Int):List Ac:=if DG acs k x=0 then J9 acs k ⟨(Da acs k).ba - x,(Da acs k).re⟩else acs
def GW(acs:List Ac)(k x:Int):Int:=if inA acs k=false then 10 else if C0 x=false then 1 else 0
def Fg(acs:List Ac)(k x:Int):List Ac:=if GW acs k x=0 then J9 acs k ⟨(Da acs k).ba,x⟩else acs
theorem Dx:inA acs k=true↔0<=k/\k<acs.length:=by
 unfold inA;rw[qag,qav,qav]
theorem Ey(h:inA acs k=true):acs[k.toNat]?=some (Da acs k):=by
 have h1:=Dx.1 h;obtain⟨a,ha⟩:=Au (l:=acs) (i:=k.toNat);unfold Da;rw[if_pos h,ha,Bp ha]
theorem KO:∀{i:Nat} {x y:Int},xs[i]?=some x->Cl (xs.set i y)=Cl xs - x+y:=by
 induction xs with
 |nil=>intro i x y h;cases h
 |cons z xs ih =>
  intro i x y h
  cases i with
  |zero =>
   simp only[List.getElem?_cons_zero,qb0]at h;subst h;rw[List.set_cons_zero,Ce,Ce];omega
  |succ i =>
   rw[List.set_cons_succ,Ce,Ce,ih<|show xs[i]?=some x from h];omega
theorem KP(acs:List Ac)(k:Int)(a:Ac):bas (J9 acs k a)=(bas acs).set k.toNat a.ba:=by
 unfold bas J9;rw[List.map_set]
theorem KQ(acs:List Ac)(k:Int)(a:Ac):(J9 acs k a).length=acs.length:=by unfold J9;rw[qb8]
theorem Qn{a:Ac}(h:CO acs=0)(hk:inA acs k=true)(hm:Fl a=true)(hs:Cl (bas acs) - (Da acs k).ba+a.ba<=4503599627370496):CO (J9 acs k a)=0:=by
 obtain⟨h1,h2,h3⟩:=BM.1 h;have h4:=CU.1 h3;have hg:(bas acs)[k.toNat]?=some (Da acs k).ba:=by unfold bas;rw[qa9,Ey hk];rfl
 refine BM.2 ⟨by rw[KQ];exact h1,fun b hb=>?_,CU.2 ⟨fun x hx=>?_,?_⟩⟩
 .unfold J9 at hb
  rcases qep hb with h5|rfl
  .exact h2 b h5
  .exact hm
 .change x∈bas (J9 acs k a)at hx
  rw[KP]at hx
  rcases qep hx with h5|rfl
  .exact h4.1 x h5
  .exact Cq.2 (F1.1 hm).1
 .change Cl (bas<|J9 acs k a)<=_
  rw[KP,KO hg];exact hs
theorem FD(h:CO acs=0)(hk:inA acs k=true):(0<=(Da acs k).ba/\(Da acs k).ba<=4503599627370496)/\0<=(Da acs k).re/\(Da acs k).re<=4503599627370496 :=
 F1.1 ((BM.1 h).2.1 _<|qad<|Ey hk)
theorem Qo(h:CO acs=0):(∀x∈bas acs,C0 x=true)/\Cl (bas acs)<=4503599627370496:=CU.1 (BM.1 h).2.2
theorem Kb(acs:List Ac)(k x:Int):(DW acs k x≠0/\DF acs k x=acs)\/(DW acs k x=0/\inA acs k=true/\0<x/\C0 x=true/\(Dp<|bas acs++[x]).2=0/\DF acs k x=J9 acs k ⟨(Da acs k).ba+x,(Da acs k).re⟩):=by
 by_cases h:DW acs k x=0
 .refine .inr ⟨h,?_⟩;have h2:=h;unfold DW at h2
  cases h3:inA acs k with
  |false=>rw[if_pos h3]at h2;cases h2
  |true =>
   rw[if_neg (by rw[h3];decide)]at h2
   cases h4:(decide (0<x) && C0 x)with
   |false=>rw[if_pos h4]at h2;cases h2
   |true =>
    rw[if_neg (by rw[h4];decide)]at h2;rw[qag,qav]at h4
    by_cases h5:(Dp<|bas acs++[x]).2≠0
    .rw[if_pos h5]at h2;cases h2
    .refine⟨rfl,h4.1,h4.2,by omega,?_⟩;unfold DF;rw[if_pos h]
 .refine .inl ⟨h,?_⟩;unfold DF;rw[if_neg h]
theorem KS(h:CO acs=0)(k x:Int):CO (DF acs k x)=0/\(DF acs k x).length=acs.length/\Cl (bas<|DF acs k x)=Cl (bas acs)+(if DW acs k x=0 then x else 0):=by
 rcases Kb acs k x with⟨h1,h2⟩|⟨h1,hk,hx,hm,ht,h2⟩
 .rw[h2,if_neg h1];exact⟨h,rfl,by omega⟩
 .have hg:=FD h hk;have h3:=(CU.1 ht).2;rw[Ep,Ce]at h3;have h4:Cl ([]:List Int)=0:=rfl;have hmem:(Da acs k).ba∈bas acs:=qa6<|qad<|Ey hk;have h5:=Sg (fun y hy=>(Cq.1<|(Qo h).1 y hy).1) _ hmem;have hx2:=Cq.1 hm;rw[h2,if_pos h1];refine⟨Qn h hk (F1.2 ⟨⟨by dsimp only;omega,by dsimp only;omega⟩,hg.2⟩) (by dsimp only;omega),KQ ..,?_⟩;rw[KP,KO (x:=(Da acs k).ba) (by unfold bas;rw[qa9,Ey hk];rfl)];dsimp only;omega
theorem Kc(acs:List Ac)(k x:Int):(DG acs k x≠0/\D8 acs k x=acs)\/(DG acs k x=0/\inA acs k=true/\0<x/\C0 x=true/\x<=(Da acs k).ba/\D8 acs k x=J9 acs k ⟨(Da acs k).ba - x,(Da acs k).re⟩):=by
 by_cases h:DG acs k x=0
 .refine .inr ⟨h,?_⟩;have h2:=h;unfold DG at h2
  cases h3:inA acs k with
  |false=>rw[if_pos h3]at h2;cases h2
  |true =>
   rw[if_neg (by rw[h3];decide)]at h2
   cases h4:(decide (0<x) && C0 x)with
   |false=>rw[if_pos h4]at h2;cases h2
   |true =>
    rw[if_neg (by rw[h4];decide)]at h2;rw[qag,qav]at h4
    by_cases h5:(Da acs k).ba<x
    .rw[if_pos h5]at h2;cases h2
    .refine⟨rfl,h4.1,h4.2,by omega,?_⟩;unfold D8;rw[if_pos h]
 .refine .inl ⟨h,?_⟩;unfold D8;rw[if_neg h]
theorem KT(h:CO acs=0)(k x:Int):CO (D8 acs k x)=0/\(D8 acs k x).length=acs.length/\Cl (bas<|D8 acs k x)=Cl (bas acs) - (if DG acs k x=0 then x else 0):=by
 rcases Kc acs k x with⟨h1,h2⟩|⟨h1,hk,hx,hm,hle,h2⟩
 .rw[h2,if_neg h1];exact⟨h,rfl,by omega⟩
 .have hg:=FD h hk;have h3:=(Qo h).2;rw[h2,if_pos h1];refine⟨Qn h hk (F1.2 ⟨⟨by dsimp only;omega,by dsimp only;omega⟩,hg.2⟩) (by dsimp only;omega),KQ ..,?_⟩;rw[KP,KO (x:=(Da acs k).ba) (by unfold bas;rw[qa9,Ey hk];rfl)];dsimp only;omega
theorem Pe(acs:List Ac)(k x:Int):(GW acs k x≠0/\Fg acs k x=acs)\/(GW acs k x=0/\inA acs k=true/\C0 x=true/\Fg acs k x=J9 acs k ⟨(Da acs k).ba,x⟩):=by
 by_cases h:GW acs k x=0
 .refine .inr ⟨h,?_⟩;have h2:=h;unfold GW at h2
  cases h3:inA acs k with
  |false=>rw[if_pos h3]at h2;cases h2
  |true =>
   rw[if_neg (by rw[h3];decide)]at h2
   cases h4:C0 x with
   |false=>rw[if_pos h4]at h2;cases h2
   |true =>
    refine⟨rfl,rfl,?_⟩;unfold Fg;rw[if_pos h]
 .refine .inl ⟨h,?_⟩;unfold Fg;rw[if_neg h]
theorem Nt(h:CO acs=0)(k x:Int):CO (Fg acs k x)=0/\(Fg acs k x).length=acs.length/\Cl (bas<|Fg acs k x)=Cl (bas acs):=by
 rcases Pe acs k x with⟨h1,h2⟩|⟨h1,hk,hm,h2⟩
 .rw[h2];exact⟨h,rfl,rfl⟩
 .have hg:=FD h hk;have h3:=(Qo h).2;have hx:=Cq.1 hm;rw[h2];refine⟨Qn h hk (F1.2 ⟨hg.1,hx⟩) (by dsimp only;omega),KQ ..,?_⟩;rw[KP,KO (x:=(Da acs k).ba) (by unfold bas;rw[qa9,Ey hk];rfl)];dsimp only;omega
theorem ZT(h:CO acs=0)(hl:acs.length<16):CO (acs++[a00])=0/\Cl (bas<|acs++[a00])=Cl (bas acs):=by
 obtain⟨h1,h2,h3⟩:=BM.1 h;have h4:=CU.1 h3
 have h5:Cl ((acs++[a00]).map Ac.ba)=Cl (acs.map Ac.ba):=by
  rw[qau,Ep];show Cl (acs.map Ac.ba)+0=_;omega
 refine⟨BM.2 ⟨by rw[qat,qb6];omega,fun b hb=>?_,CU.2 ⟨fun x hx=>?_,by rw[h5];exact h4.2⟩⟩,h5⟩
 .rcases qa2.1 hb with h6|h6
  .exact h2 b h6
  .rw[qab.1 h6];decide
 .rw[qau]at hx
  rcases qa2.1 hx with h6|h6
  .exact h4.1 x h6
  .rw[qab.1 h6];decide
def Ub(nx fr to x w u:Int):Du:=⟨nx,fr,to,x,w,u,false⟩
def FQ(ds:List Du)(nx fr to x w u:Int):Int:=if CZ (Ub nx fr to x w u)=false then 1 else if 64<=ds.length\/4611686018427387904<=nx then 6 else if(Dp (ds.map Du.am++[x])).2≠0 then 13 else 0
def Gq(ds:List Du)(nx fr to x w u:Int):List Du:=if FQ ds nx fr to x w u=0 then ds++[Ub nx fr to x w u]else ds
def I6(ds:List Du)(nx fr to x w u:Int):Int:=if FQ ds nx fr to x w u=0 then nx+1 else nx
def F3(ds:List Du)(k:Int)(b:Bool):Int:=match Cn ds k with
 |none=>11
 |some d=>if d.held=b then 14 else 0
def EX(ds:List Du)(k:Int)(b:Bool):List Du:=if F3 ds k b=0 then ds.map fun d=>if d.id=k then{ d with held:=b }else d else ds
def I8(ds:List Du)(k:Int):Int:=match Cn ds k with
 |none=>11
 |some _=>0
def IK(ds:List Du)(k:Int):List Du:=ds.filter fun d => !decide (d.id=k)
def Gh(ds:List Du)(u:Int):List Du:=ds.filter fun d=>decide (u<=d.un)
theorem CB(h:ofC ds nx=0):ds.length<=64/\(1<=nx/\nx<=4611686018427387904)/\ED nx 0 ds=true/\Cl (ds.map Du.am)<=4503599627370496:=by
 obtain⟨h1,h2,h3,h4⟩:=DZ.1 h;exact⟨h1,h2,h3,(CU.1 h4).2⟩
theorem Qp{nx:Int}:∀{ah:Int} {ds:List Du},ED nx ah ds=true↔(∀d∈ds,CZ d=true/\ah<d.id/\d.id<nx)/\(ds.map Du.id).Pairwise (·<·)
 |ah,[]=>⟨fun _=>⟨fun _ h=>(by cases h),List.Pairwise.nil⟩,fun _=>rfl⟩
 |ah,x::ds=>by
  simp only[ED,qag,qav,qas,qbf];rw[Qp];constructor
  .rintro⟨⟨h1,h2,h3⟩,h4,h5⟩;refine⟨fun d hd=>?_,fun y hy=>?_,h5⟩
   .rcases qaf.1 hd with rfl|hd
    .exact⟨h1,h2,h3⟩
    .obtain⟨g1,g2,g3⟩:=h4 d hd;exact⟨g1,by omega,g3⟩
   .obtain⟨d,hd,rfl⟩:=qak.1 hy;exact(h4 d hd).2.1
  .rintro⟨h1,h2,h3⟩;obtain⟨g1,g2,g3⟩:=h1 x<|qah ..;refine⟨⟨g1,g2,g3⟩,fun d hd=>?_,h3⟩;obtain⟨k1,-,k3⟩:=h1 d<|qae _ hd;exact⟨k1,h2 _<|qa6 hd,k3⟩
theorem Qq(h1:ds.length<=64)(h2:1<=nx/\nx<=4611686018427387904)(h3:∀d∈ds,CZ d=true/\0<d.id/\d.id<nx)(h4:(ds.map Du.id).Pairwise (·<·))(h5:Cl (ds.map Du.am)<=4503599627370496):ofC ds nx=0:=by
 refine DZ.2 ⟨h1,h2,Qp.2 ⟨h3,h4⟩,CU.2 ⟨fun x hx=>?_,h5⟩⟩;obtain⟨d,hd,rfl⟩:=qak.1 hx;have:=CD (h3 d hd).1;exact Cq.2<|by omega
theorem EK(h:ofC ds nx=0):(∀d∈ds,CZ d=true/\0<d.id/\d.id<nx)/\(ds.map Du.id).Pairwise (·<·):=Qp.1 (CB h).2.2.1
theorem Nu(p:Du->Bool):∀{ds:List Du},(∀d∈ds,0<=d.am)->Cl ((ds.filter p).map Du.am)<=Cl (ds.map Du.am)
 | [],_=>qa4 _
 |d::ds,h=>by
  have ih:=Nu p (ds:=ds) fun e he=>h e<|qae _ he;have h0:=h d<|qah ..;rw[qbo]
  split
  .rw[qas,qas,Ce,Ce];omega
  .rw[qas,Ce];omega
theorem Pf(h:ofC ds nx=0)(p:Du->Bool):ofC (ds.filter p) nx=0:=by
 obtain⟨h1,h2,-,h4⟩:=CB h;obtain⟨h5,h6⟩:=EK h;have h7:(ds.filter p).Sublist ds:=List.filter_sublist;refine Qq (qa3 h7.length_le h1) h2 (fun d hd=>h5 d<|h7.subset hd) ?_<|qbj (Nu p fun d hd=>by have:=CD (h5 d hd).1;omega) h4;exact h6.sublist<|h7.map _
theorem Ajf(h:ofC ds nx=0)(fr to x w u:Int):ofC (Gq ds nx fr to x w u) (I6 ds nx fr to x w u)=0:=by
 unfold Gq I6
 by_cases hC:FQ ds nx fr to x w u=0
 .rw[if_pos hC,if_pos hC];unfold FQ at hC
  cases hm:CZ (Ub nx fr to x w u)with
  |false=>rw[if_pos hm]at hC;cases hC
  |true =>
   rw[if_neg (by rw[hm];decide)]at hC
   by_cases hl:64<=ds.length\/4611686018427387904<=nx
   .rw[if_pos hl]at hC;cases hC
   .rw[if_neg hl]at hC
    by_cases ht:(Dp<|ds.map Du.am++[x]).2≠0
    .rw[if_pos ht]at hC;cases hC
    .obtain⟨h1,h2,-,h4⟩:=CB h;obtain⟨h5,h6⟩:=EK h;have h7:=(CU.1<|show(Dp<|ds.map Du.am++[x]).2=0 by omega).2;refine Qq (by rw[qat,qb6];omega) (by omega) (fun d hd=>?_) ?_ (by rw[qau];exact h7)
     .rcases qa2.1 hd with h8|h8
      .obtain⟨g1,g2,g3⟩:=h5 d h8;exact⟨g1,g2,by omega⟩
      .rw[qab.1 h8];exact⟨hm,by show 0<nx;omega,by show nx<nx+1;omega⟩
     .rw[qau,qby];refine⟨h6,List.pairwise_singleton ..,fun y hy z hz=>?_⟩;obtain⟨d,hd,rfl⟩:=qak.1 hy;have hz':z=nx:=by simpa[Ub]using hz
      rw[hz'];exact(h5 d hd).2.2
 .rw[if_neg hC,if_neg hC];exact h
theorem ZU(h:ofC ds nx=0)(k:Int)(b:Bool):ofC (EX ds k b) nx=0:=by
 unfold EX
 split
 .obtain⟨h1,h2,-,h4⟩:=CB h;obtain⟨h5,h6⟩:=EK h
  have hid:(ds.map fun d=>if d.id=k then{ d with held:=b }else d).map Du.id=ds.map Du.id:=by
   rw[qcb];refine qbk fun d _=>?_;show(if d.id=k then({ d with held:=b }:Du)else d).id=d.id
   split <;> rfl
  have ham:(ds.map fun d=>if d.id=k then{ d with held:=b }else d).map Du.am=ds.map Du.am:=by
   rw[qcb];refine qbk fun d _=>?_;show(if d.id=k then({ d with held:=b }:Du)else d).am=d.am
   split <;> rfl
  refine Qq (by rw[qaj];exact h1) h2 (fun e he=>?_) (by rw[hid];exact h6) (by rw[ham];exact h4);obtain⟨d,hd,rfl⟩:=qak.1 he;obtain⟨g1,g2,g3⟩:=h5 d hd
  split
  .exact⟨g1,g2,g3⟩
  .exact⟨g1,g2,g3⟩
 .exact h
theorem ZV{b:Bool}(h:∀d∈ds,d.fr<(n:Int)/\d.to<(n:Int))(he:e∈EX ds k b):e.fr<(n:Int)/\e.to<(n:Int):=by
 unfold EX at he
 split at he
 .obtain⟨d,hd,rfl⟩:=qak.1 he
  split
  .exact h d hd
  .exact h d hd
 .exact h e he
def FE(xs:List Int)(k:Nat):Int:=BU (fun i=>one (0<xs.getD i 0)) k
def DY(rn:List Rnd)(r:Rnd):List Rnd:=(rn++[r]).drop (rn.length - 3)
theorem Nv(h:rn.length<=4)(r:Rnd):(DY rn r).length=min (rn.length+1) 4:=by
 unfold DY;rw[qdj,qat,qb6];omega
theorem ZW{x:Rnd}(h:x∈DY rn r):x∈rn\/x=r:=by
 have h1:=qco h
 rcases qa2.1 h1 with h2|h2
 .exact .inl h2
 .exact .inr (qab.1 h2)
theorem Pg(rn:List Rnd)(r:Rnd):(DY rn r).getLast? = some r:=by
 unfold DY;rw[List.getLast?_drop,if_neg (by rw[qat,qb6];omega),List.getLast?_append];rfl
def L4(s:Ld)(r:Rnd):Ld:=⟨s.day,DE s.acs s.ds r,DM s.acs s.ds r,s.nx,DY s.rn { r with no:=s.no+1,day:=s.day },s.no+1⟩
theorem ZX{s:Ld}(h:s.Ok)(P:PlanR s.acs s.ds net r)(hno:s.no<4611686018427387904):Dl s.acs s.ds r=0/\(L4 s r).Ok:=by
 have hBr:=Ka h.ac h.du h.bk;have hol:=EW s.ds;have h64:=hBr.m64;have hC:Dl s.acs s.ds r=0:=Pd ((FO).2 hBr) P;obtain⟨h1,h2,h3⟩:=J5 (r:=r) h.ac h.du;have hB2:=So h.ac h.du hC;obtain⟨k1,k2,k3⟩:=h.kept;have hkl:=Nv k1 { r with no:=s.no+1,day:=s.day };refine⟨hC,⟨h1,h2,fun d hd=>?_,h.day,⟨by show(DY _ _).length<=4;omega,by show((DY _ _).length:Int)<=s.no+1;omega,by show s.no+1<=_;omega⟩,fun i x hx=>?_,fun x hx=>?_⟩⟩
 .have:=(hB2.due d hd).2;rw[qaj]at this;exact this
 .change (DY s.rn { r with no:=s.no+1,day:=s.day })[i]?=some x at hx
  show x.no=s.no+1 - ((DY s.rn { r with no:=s.no+1,day:=s.day }).length:Nat)+1+i;have hi:=BH hx;rw[hkl]at hi |-;unfold DY at hx;rw[qc0]at hx
  rcases qao (s.rn.length - 3+i) s.rn.length with h5|h5
  .rw[qcw h5]at hx;have:=h.nos _ x hx;omega
  .rw[qcp h5]at hx;have h6:s.rn.length - 3+i - s.rn.length=0:=by omega
   rw[h6]at hx;cases hx;show s.no+1=_;omega
 .rcases ZW hx with h5|rfl
  .exact h.may x h5
  .unfold Gg;dsimp only;have hids:r.ids.length=(opn s.ds).length:=by rw[P.ids,qaj]
   rw[P.chk,qam<|show r.ids.length<=64 by omega,qam h.day.1];rfl
structure Rp where
 e:Int
 n:List Int
def rp(l:List Int)(e:Int):Rp:=if e=0 then⟨0,l⟩else⟨e,[]⟩
theorem JL{l:List Int}{e:Int}(h:e≠0):rp l e=⟨e,[]⟩:=if_neg h
theorem Sp(l:List Int):rp l 0=⟨0,l⟩:=if_pos rfl
def IL(acs:List Ac)(k:Int):List Int:=[(Da acs k).ba,(Da acs k).re]
def GX(b:Bool):Int:=if b=true then 1 else 0
def JA(s:Ld)(k:Int):Option Rnd:=if k<=s.no/\s.no - k<s.rn.length then s.rn[(k - (s.no - s.rn.length+1)).toNat]? else none
def ER(r:Rnd)(b:Int):Rp :=
 if b < -1\/(r.es.length:Int)+r.N<=b then⟨1,[]⟩
 else if b = -1 then⟨0,[r.day,GX r.cmp,r.N,r.es.length,r.ids.length]⟩
 else if(r.es.length:Int)<=b then⟨0,[r.pot.getD (b - r.es.length).toNat 0]⟩
 else⟨0,[(r.es.getD b.toNat e0).f,(r.es.getD b.toNat e0).t,(r.es.getD b.toNat e0).cap,(r.es.getD b.toNat e0).cost,r.fl.getD b.toNat 0,if b<r.ids.length then IntKind.i64.wrap (r.ids.getD b.toNat 0)else 0]⟩
def Dn(s:Ld)(a:Ak):Ld :=
 if a.kd=1 then(if s.acs.length<16 then{ s with acs:=s.acs++[a00] }else s)
 else if a.kd=2 then{ s with acs:=DF s.acs a.a a.x }
 else if a.kd=3 then{ s with acs:=D8 s.acs a.a a.x }
 else if a.kd=4 then{ s with acs:=Fg s.acs a.a a.x }
 else if a.kd=5 then(if(inA s.acs a.a && inA s.acs a.b)=true/\s.day<=a.u then{ s with ds:=Gq s.ds s.nx a.a a.b a.x a.w a.u,nx:=I6 s.ds s.nx a.a a.b a.x a.w a.u }else s)
 else if a.kd=6 then{ s with ds:=EX s.ds a.id true }
 else if a.kd=7 then{ s with ds:=EX s.ds a.id false }
 else if a.kd=8 then{ s with ds:=IK s.ds a.id }
 else if a.kd=9 then(if s.day<=a.u then{ s with day:=a.u,ds:=Gh s.ds a.u }else s)
 else s
def Dq(s:Ld)(a:Ak):Rp :=
 if a.kd=1 then rp [s.acs.length] (if s.acs.length<16 then 0 else 6)
 else if a.kd=2 then rp (IL (DF s.acs a.a a.x) a.a) (DW s.acs a.a a.x)
 else if a.kd=3 then rp (IL (D8 s.acs a.a a.x) a.a) (DG s.acs a.a a.x)
 else if a.kd=4 then rp (IL (Fg s.acs a.a a.x) a.a) (GW s.acs a.a a.x)
 else if a.kd=5 then(if(inA s.acs a.a && inA s.acs a.b)=false then⟨10,[]⟩else if a.u<s.day then⟨1,[]⟩else rp [IntKind.i64.wrap s.nx] (FQ s.ds s.nx a.a a.b a.x a.w a.u))
 else if a.kd=6 then rp [] (F3 s.ds a.id true)
 else if a.kd=7 then rp [] (F3 s.ds a.id false)
 else if a.kd=8 then rp [] (I8 s.ds a.id)
 else if a.kd=9 then(if a.u<s.day then⟨3,[]⟩else⟨0,[((s.ds.length - (Gh s.ds a.u).length:Nat):Int)]⟩)
 else if a.kd=12 then(if inA s.acs a.a=true then⟨0,IL s.acs a.a⟩else⟨10,[]⟩)
 else if a.kd=13 then(if inA s.acs a.a=true then⟨0,[FP s.acs s.ds a.a.toNat]⟩else⟨10,[]⟩)
 else if a.kd=14 then(match Cn s.ds a.id with
  |none=>⟨11,[]⟩
  |some d=>⟨0,[d.fr,d.to,d.am,d.we,d.un,GX d.held]⟩)
 else if a.kd=15 then(match JA s a.id with
  |none=>⟨4,[]⟩
  |some r=>ER r a.b)
 else⟨1,[]⟩
def C9(s:Ld)(a:Ak)(s':Ld)(p:Rp):Prop :=
 if a.kd=10\/a.kd=11 then
  (4611686018427387904<=s.no/\s'=s/\p=⟨6,[]⟩) \/
  (s.no<4611686018427387904/\∃r,PlanR s.acs s.ds (decide (a.kd=11)) r/\s'=L4 s r /\
   p=⟨0,[IntKind.i64.wrap (s.no+1),Ex (opn s.ds) r.fl (opn s.ds).length,FE (r.fl.take (opn s.ds).length) (opn s.ds).length]⟩)
 else s'=Dn s a/\p=Dq s a
theorem IA{s:Ld}(h:s.Ok)(a:Ak)(hu:a.u<=9223372036854775807):(Dn s a).Ok:=by
 unfold Dn
 split
 .split
  .rename_i hl
   exact⟨(ZT h.ac hl).1,h.du,fun d hd=>by have:=h.bk d hd;show _<((s.acs++[a00]).length:Int)/\_<((s.acs++[a00]).length:Int);rw[qat,qb6];omega,h.day,h.kept,h.nos,h.may⟩
  .exact h
 split
 .obtain⟨h1,h2,-⟩:=KS h.ac a.a a.x;exact⟨h1,h.du,fun d hd=>by show _<((DF s.acs a.a a.x).length:Int)/\_<((DF s.acs a.a a.x).length:Int);rw[h2];exact h.bk d hd,h.day,h.kept,h.nos,h.may⟩
 split
 .obtain⟨h1,h2,-⟩:=KT h.ac a.a a.x;exact⟨h1,h.du,fun d hd=>by show _<((D8 s.acs a.a a.x).length:Int)/\_<((D8 s.acs a.a a.x).length:Int);rw[h2];exact h.bk d hd,h.day,h.kept,h.nos,h.may⟩
 split
 .obtain⟨h1,h2,-⟩:=Nt h.ac a.a a.x;exact⟨h1,h.du,fun d hd=>by show _<((Fg s.acs a.a a.x).length:Int)/\_<((Fg s.acs a.a a.x).length:Int);rw[h2];exact h.bk d hd,h.day,h.kept,h.nos,h.may⟩
 split
 .split
  .rename_i hb
   refine⟨h.ac,Ajf h.du ..,fun d hd=>?_,h.day,h.kept,h.nos,h.may⟩
   change d∈Gq s.ds s.nx a.a a.b a.x a.w a.u at hd
   unfold Gq at hd
   split at hd
   .rcases qa2.1 hd with h1|h1
    .exact h.bk d h1
    .rw[qab.1 h1];rw[qag]at hb;exact⟨(Dx.1 hb.1.1).2,(Dx.1 hb.1.2).2⟩
   .exact h.bk d hd
  .exact h
 split
 .exact⟨h.ac,ZU h.du ..,fun d hd=>ZV h.bk hd,h.day,h.kept,h.nos,h.may⟩
 split
 .exact⟨h.ac,ZU h.du ..,fun d hd=>ZV h.bk hd,h.day,h.kept,h.nos,h.may⟩
 split
 .exact⟨h.ac,Pf h.du _,fun d hd=>h.bk d (qbc.1 hd).1,h.day,h.kept,h.nos,h.may⟩
 split
 .split
  .rename_i hd
   exact⟨h.ac,Pf h.du _,fun d hd=>h.bk d (qbc.1 hd).1,⟨qbj h.day.1 hd,hu⟩,h.kept,h.nos,h.may⟩
  .exact h
 .exact h
theorem add_none{w u:Int}(h:FQ ds nx fr to x w u≠0):Gq ds nx fr to x w u=ds/\I6 ds nx fr to x w u=nx:=by
 unfold Gq I6;rw[if_neg h,if_neg h];exact⟨rfl,rfl⟩
theorem Sq{b:Bool}(h:F3 ds k b≠0):EX ds k b=ds:=by
 unfold EX;rw[if_neg h]
theorem ZY(h:I8 ds k≠0):IK ds k=ds:=by
 unfold I8 at h;unfold IK;rw[qd6];intro d hd
 cases hf:Cn ds k with
 |some e=>rw[hf]at h;exact absurd rfl h
 |none =>
  have h1:=qek.1 hf d hd
  simpa using h1
abbrev AL(bd:Nat)(x1 x2:Nat × Obj)(a:Option Addr)(n c:Nat)(full:List Value):List (Nat × Obj):=(bd,Bl 153 [.slice a n c])::x1::x2::ent a 162 full
theorem WJ{x1 x2:Nat × Obj}(H0:Ctx w0 S w<|AL bd x1 x2 a acs.length c full)(O:OS a acs.length c 2 full (acs.flatMap Cg))(hn:acs.length<=1000000:=by omega):
  Ret prog 93 #[ptr bd] w fun v w'=>(16<=acs.length->v=.tuple #[.int .i64 0,.int .i64 6]/\Ctx w0 S w' (AL bd x1 x2 a acs.length c full)) /\
   (acs.length<16->v=.tuple #[.int .i64 (acs.length:Int),.int .i64 0]/\∃a' c' full',OS a' (acs++[a00]).length c' 2 full' ((acs++[a00]).flatMap Cg)/\Ctx w0 S w' (AL bd x1 x2 a' (acs++[a00]).length c' full')):=by
 have H:=H0;refine iG func93 U ?_;refine qGc 13 ?_ ?_
 .intro h0;cases h0
 .intro h0;refine qGp 10 ?_ ?_
  .intro h1;refine qG 9 ?_;exact⟨fun _=>⟨rfl,H⟩,fun h=>by omega⟩
  .intro h1;refine A1<|Av<|Aa<|Af<|AV U<|AV U<|AR U<|Ae qf U<|Bh qf U H at0 U<|Bd [.int .i64 0,.int .i64 0] qf qf ?_;refine C5 _ (.agg _) qf qf qf U U U U H ?_;rintro b20 w - H;refine BL (L:=[_,_,_]) qf qf qf qf qf U U U H O U (fun v hv=>by simp at hv;rcases hv with rfl|rfl <;> rfl) ?_;rintro a' c' full' w H O;refine qG 3 ?_;rintro w H;refine qG 15 ?_;refine⟨fun h=>by omega,fun _=>⟨?_,a',c',full',?_,?_⟩⟩
   .rw[show(((acs.length+1:Nat):Int) - 1)=(acs.length:Int)by omega]
   .rw[qbn,qat];exact O
   .rw[qat];exact H
structure Qk where
 e:Int
 fid:FuncId
 cl:List Value
 b:Bool
abbrev L5(q:Qk):List Value:=[.int .i64 q.e,.func (.func q.fid) #[] q.cl.toArray]
theorem ZZ(q:Qk):∀v∈L5 q,AF v=true:=by
 intro v hv
 rcases qaf.1 hv with rfl|hv
 .rfl
 .rw[qab.1 hv];rfl
def LW:List Qk->Int
 | []=>0
 |q::qs=>if q.b=false then q.e else LW qs
theorem Vn:∀{qs:List Qk} {i:Nat} {q:Qk},qs[i]?=some q->q.b=false->(∀(j:Nat) (p:Qk),j<i->qs[j]?=some p->p.b=true)->LW qs=q.e
 | [],_,_,h,_,_=>by cases h
 |p::qs,0,q,h,hb,_=>by
  cases h;exact if_pos hb
 |p::qs,i+1,q,h,hb,ha=>by
  unfold LW;rw[if_neg (by rw[ha 0 p (by omega) rfl];decide)];exact Vn (show qs[i]?=some q from h) hb fun j r hj hr=>ha (j+1) r (by omega) hr
theorem Sr:∀{qs:List Qk},(∀q∈qs,q.b=true)->LW qs=0
 | [],_=>rfl
 |q::qs,h=>by
  unfold LW;rw[if_neg (by rw[h q<|qah ..];decide)];exact Sr fun p hp=>h p<|qae _ hp
def Hx(acs:List Ac)(k:Int)(qs:List Qk):Int:=if inA acs k=false then 10 else LW qs
def AcsAt(w w':World)(a:Option Addr)(n c:Nat)(full:List Value)(acs:List Ac):Prop :=
 ∃full',OS a n c 2 full' (acs.flatMap Cg)/\(∀x∈ent a 162 full',w'.heap[x.1]?=some x.2)/\Ext ((ent a 162 full).map (·.1)) w w'
theorem Nw{qs:List Qk}{e:Ac}(w:World)(hd:w.heap[bd]?=some (Bl 153 [.slice a acs.length c]))(O:OS a acs.length c 2 full (acs.flatMap Cg))(hb:∀x∈ent a 162 full,w.heap[x.1]?=some x.2)(Rq:Rd w aq 2 L5 qs)(hql:qs.length<=1000)(hq:∀q∈qs,An prog q.fid=true/\q.e≠0/\∀w',Ext [] w w'->Ret prog q.fid q.cl.toArray w' fun v w''=>v=.bool q.b/\Ext [] w' w'')(hfc:An prog fid=true)(hdo:∀q w',a=some ⟨q,0,none⟩->inA acs k=true->LW qs=0->Ext [] w w'->Ret prog fid (Value.pointer (some ⟨q,0+k.toNat*2,none⟩)::cl).toArray w' fun _ w''=>∃full',OS a acs.length c 2 full' ((J9 acs k e).flatMap Cg)/\Ctx w' [q] w'' [(q,Bl 162 full')])(hn:acs.length<=1000000:=by omega):
  Ret prog 142 #[ptr bd,.int .i64 k,.func (.func fid) #[] cl.toArray,.slice aq qs.length cq] w fun v w'=>v=.int .i64 (Hx acs k qs) /\
   AcsAt w w' a acs.length c full (if Hx acs k qs=0 then J9 acs k e else acs):=by
 obtain⟨w1,rfl,H⟩:=qE w;have hsame:∀w',Ext [] w1 w'->AcsAt w1 w' a acs.length c full acs:=fun w' hx=>⟨full,O,fun x hxm=>hx.to (hb x hxm)<|by simp,hx.mono<|by simp⟩;unfold Hx;refine iG func142 U ?_;refine qGc 12 ?_ ?_
 .intro h0;cases h0
 .intro h0;refine qG 7 ?_;refine iE 14 U ?_ ?_
  .intro h1
   have hi:inA acs k=false:=by cases h:inA acs k with|false=>rfl|true=>have:=Dx.1 h;omega
   refine qG 11 ?_;rw[if_pos hi,if_neg<|by decide];exact⟨rfl,hsame _ H.ext⟩
  .intro h1;refine qG 5 ?_;refine A9 qf U ((H.old (Ai hd _)<|by simp)) ?_;refine qG 5 ?_;refine iE 14 U ?_ ?_
   .intro h2
    have hi:inA acs k=false:=by cases h:inA acs k with|false=>rfl|true=>have:=Dx.1 h;omega
    refine qG 8 ?_;rw[if_pos hi,if_neg<|by decide];exact⟨rfl,hsame _ H.ext⟩
   .intro h2;have hi:inA acs k=true:=Dx.2 (by omega);rw[if_neg (by rw[hi];decide)];refine A1<|Av<|Aa<|AB<|Af<|AH U<|Cp qf U<|Ad U<|qA<|AK<|AY 137371845888 (α:=Nat) (fun i=>[(26,.int .i64 (i:Int))]) (fun i w'=>i<=qs.length/\Ctx w1 [] w' []/\∀(j:Nat) (p:Qk),j<i->qs[j]?=some p->p.b=true) (fun i=>qs.length - i) 0 U ?_ ?_ ?_
    .exact⟨rfl,trivial⟩
    .exact⟨qai _,H,fun j p h=>absurd h<|qay _⟩
    .clear H;rintro i ji w ⟨hii,H,hbb⟩;refine qGp 5 ?_ ?_
     .intro h3;obtain⟨q,hqi⟩:=Au (l:=qs) (i:=i);obtain⟨hqc,hqe,hqr⟩:=hq q<|qad hqi;refine qG 5 ?_;refine A2 Rq qf qf U U (by rfl)<|BC _ qf qf U U ((Rq.ext0 H.ext).row hqi U)<|AN qf H ?_;rintro b10 w - H;refine AM qf U U U (by exact ZZ _) H at0 U ?_;rintro w H;refine qG 5 ?_;refine FA U hqc (hqr _ H.ext) U ?_;rintro v w ⟨rfl,hx32⟩;replace H:=H.call hx32;refine qGp 3 ?_ ?_
      .intro h4
       have hqb:q.b=false:=by cases hh:q.b with|false=>rfl|true=>rw[hh]at h4;cases h4
       refine qG 13 ?_;rw[Vn hqi hqb hbb,if_neg hqe];exact⟨rfl,hsame _ H.ext⟩
      .intro h4
       have hqb:q.b=true:=by cases hh:q.b with|true=>rfl|false=>rw[hh]at h4;cases h4
       refine A1<|Av<|Aa<|Aw<|Ap U U ?_;refine Ad U<|qA ?_
       exact⟨i+1,rfl,⟨rfl,trivial⟩,⟨by omega,H.tail,fun j p hj hp=>by
        rcases qao j i with h5|h5
        .exact hbb j p h5 hp
        .obtain rfl:j=i:=by omega
         rw[hqi]at hp;cases hp
         exact hqb⟩,by omega⟩
     .intro h3;obtain rfl:i=qs.length:=by omega
      have hC:LW qs=0:=Sr fun p hp=>by
       obtain⟨j,hj⟩:=qc7 hp;exact hbb j p (BH hj) hj
      have hin:=Dx.1 hi;obtain⟨q,hqa⟩:=O.form (by omega);subst hqa;refine Bi<|Am<|Am<|A8<|Aa<|Af<|ET U (.func _ _ _) U ?_;refine AV U<|AR U<|Ae qf U<|A9 qf U ((H.old (Ai hd _)<|by simp)) ?_;refine Ad U<|BA qf qf U U ?_;refine FA U hfc (hdo q _ U hi hC H.ext) U ?_;rintro v w ⟨full',O',H2⟩;refine qG 8 ?_;rw[hC,if_pos rfl];exact⟨rfl,full',O',fun x hx=>by rw[qab.1 hx];exact H2.get at0,(H.ext.mono<|by simp).trans H2.ext⟩
theorem Aaa{f q:Value}(w:World)(hd:w.heap[bd]?=some (Bl 153 [.slice a acs.length c]))(hi:inA acs k=false) :
  Ret prog 142 #[ptr bd,.int .i64 k,f,q] w fun v w'=>v=.int .i64 10/\Ext [] w w':=by
 obtain⟨w1,rfl,H⟩:=qE w;have hi2:¬(0<=k/\k<acs.length):=fun h=>by rw[Dx.2 h]at hi;cases hi
 refine iG func142 U ?_;refine qGc 12 ?_ ?_
 .intro h0;cases h0
 .intro h0;refine qG 7 ?_;refine iE 14 U ?_ ?_
  .intro h1;refine qG 11 ?_;exact⟨rfl,H.ext⟩
  .intro h1;refine qG 5 ?_;refine A9 qf U ((H.old (Ai hd _)<|by simp)) ?_;refine qG 5 ?_;refine iE 14 U ?_ ?_
   .intro h2;refine qG 8 ?_;exact⟨rfl,H.ext⟩
   .intro h2;exact absurd ⟨by omega,by omega⟩ hi2
theorem Aab(w:World)(h7:w.heap[bx]?=some (Bl 2 [.int .i64 x])) :
  Ret prog 144 #[ptr bx] w fun v w'=>v=.bool (decide (0<x) && C0 x)/\Ext [] w w':=by
 obtain⟨w0,rfl,H⟩:=qE w;refine iG func144 U ?_;refine Af<|A5 U<|qA<|Af<|A9 qf U ((H.old (Ai h7 _)<|by simp)) ?_;refine Es U U<|Bj U<|iC 4 U ?_ ?_
 .intro h1;refine A9 qf U ((H.old (Ai h7 _)<|by simp))<|Aj qB (Iy x _) U ?_;rintro v w ⟨rfl,rfl⟩;refine qG 6 ?_;exact⟨qaa Value.bool (by rw[qac];simp_all;try omega),H.ext⟩
 .intro h2;refine qG 8 ?_;exact⟨qaa Value.bool (by rw[qac];simp_all;try omega),H.ext⟩
theorem Aac(w:World)(h7:w.heap[bx]?=some (Bl 2 [.int .i64 x])) :
  Ret prog 147 #[ptr bx] w fun v w'=>v=.bool (decide (0<x) && C0 x)/\Ext [] w w':=by
 obtain⟨w0,rfl,H⟩:=qE w;refine iG func147 U ?_;refine Af<|A5 U<|qA<|Af<|A9 qf U ((H.old (Ai h7 _)<|by simp)) ?_;refine Es U U<|Bj U<|iC 4 U ?_ ?_
 .intro h1;refine A9 qf U ((H.old (Ai h7 _)<|by simp))<|Aj qB (Iy x _) U ?_;rintro v w ⟨rfl,rfl⟩;refine qG 6 ?_;exact⟨qaa Value.bool (by rw[qac];simp_all;try omega),H.ext⟩
 .intro h2;refine qG 8 ?_;exact⟨qaa Value.bool (by rw[qac];simp_all;try omega),H.ext⟩
theorem Adu(w:World)(h7:w.heap[bx]?=some (Bl 2 [.int .i64 x])) :
  Ret prog 150 #[ptr bx] w fun v w'=>v=.bool (C0 x)/\Ext [] w w':=by
 obtain⟨w0,rfl,H⟩:=qE w;refine iG func150 U ?_;refine Af<|A5 U<|qA<|Af<|A9 qf U ((H.old (Ai h7 _)<|by simp)) ?_;refine Aj qB (Iy x _) U ?_;rintro v w ⟨rfl,rfl⟩;refine qG 5 ?_;exact⟨rfl,H.ext⟩
theorem Aad(w:World)(h9:w.heap[q]?=some (Bl 162 full))(hf:full[j]?=some (.int .i64 ba))(h7:w.heap[bx]?=some (Bl 2 [.int .i64 x]))(hne:bx≠q)(hb:0<=ba/\ba<=4503599627370496)(hx:0<=x/\x<=4503599627370496) :
  Ret prog 143 #[.pointer<|some ⟨q,j,none⟩,ptr bx] w fun _ w'=>Ctx w [q] w' [(q,Bl 162 (full.set (j+0)<|.int .i64<|ba+x))]:=by
 obtain⟨w0,rfl⟩:=qD w;have H:=Ctx.start1 h9;have hn:bx∉[q]:=by rw[qab];exact hne
 have hj:=BH hf;refine iG func143 U ?_;refine Eb [([0,1,2,3,4,5],6),([7],8)] (fun z=>z.heap[q]?=some (Bl 162 full)/\z.heap[bx]?=some (Bl 2 [.int .i64 x])) [8] AW (⟨H.drew.get at0,H.drew.ext.to h7 hn⟩) ?_;refine A0 U U<|Bm U<|A7 U<|Ah qf U<|AU qf U (fun _ hx=>(by rw[Ai hx.1];exact hf)) ?_;refine AU qf U (fun _ hx=>(by rw[Ai hx.2];rfl)) ?_;refine Dt U U<|A6 ?_;replace H:=H.drew;refine AR U<|Ab<|Bv (⟨H.get at0,H.ext.to h7 hn⟩)<|A0 U U ?_;refine Ah qf U<|A6<|Ch (.int _ _) qf U U U H at0 (by omega) ?_;rintro w H;refine qG 4 ?_;exact H
theorem Aae(w:World)(h9:w.heap[q]?=some (Bl 162 full))(hf:full[j]?=some (.int .i64 ba))(h7:w.heap[bx]?=some (Bl 2 [.int .i64 x]))(hne:bx≠q)(hb:0<=ba/\ba<=4503599627370496)(hx:0<=x/\x<=4503599627370496) :
  Ret prog 146 #[.pointer<|some ⟨q,j,none⟩,ptr bx] w fun _ w'=>Ctx w [q] w' [(q,Bl 162 (full.set (j+0)<|.int .i64<|ba - x))]:=by
 obtain⟨w0,rfl⟩:=qD w;have H:=Ctx.start1 h9;have hn:bx∉[q]:=by rw[qab];exact hne
 have hj:=BH hf;refine iG func146 U ?_;refine Eb [([0,1,2,3,4,5],6),([7],8)] (fun z=>z.heap[q]?=some (Bl 162 full)/\z.heap[bx]?=some (Bl 2 [.int .i64 x])) [8] AW (⟨H.drew.get at0,H.drew.ext.to h7 hn⟩) ?_;refine A0 U U<|Bm U<|A7 U<|Ah qf U<|AU qf U (fun _ hx=>(by rw[Ai hx.1];exact hf)) ?_;refine AU qf U (fun _ hx=>(by rw[Ai hx.2];rfl)) ?_;refine D9 U U<|A6 ?_;replace H:=H.drew;refine AR U<|Ab<|Bv (⟨H.get at0,H.ext.to h7 hn⟩)<|A0 U U ?_;refine Ah qf U<|A6<|Ch (.int _ _) qf U U U H at0 (by omega) ?_;rintro w H;refine qG 4 ?_;exact H
theorem Adv(w:World)(h9:w.heap[q]?=some (Bl 162 full))(hj:j+1<full.length)(h7:w.heap[bx]?=some (Bl 2 [.int .i64 x]))(hne:bx≠q) :
  Ret prog 149 #[.pointer<|some ⟨q,j,none⟩,ptr bx] w fun _ w'=>Ctx w [q] w' [(q,Bl 162 (full.set (j+1)<|.int .i64 x))]:=by
 obtain⟨w0,rfl⟩:=qD w;have H:=Ctx.start1 h9;have hn:bx∉[q]:=by rw[qab];exact hne
 refine iG func149 U<|Aw<|AV U<|A9 qf U ((H.old (Ai h7 _) hn)) ?_;refine qG 3 ?_;rintro w H;refine Ab<|Ii U U ?_;exact H
theorem Aaf(w:World)(h7:w.heap[bx]?=some (Bl 2 [.int .i64 x]))(h3:w.heap[b3]?=some (Bl 86 [ptr bd]))(h4:w.heap[b4]?=some (Bl 3 [.int .i64 k]))(hd:w.heap[bd]?=some (Bl 153 [.slice a acs.length c]))(R:Rd w a 2 Cg acs)(hi:inA acs k=true) :
  Ret prog 148 #[ptr bx,ptr b3,ptr b4] w fun v w'=>v=.bool (decide (x<=(Da acs k).ba))/\Ext [] w w':=by
 obtain⟨w0,rfl,H⟩:=qE w;have hin:=Dx.1 hi;have hg:=Ey hi;refine iG func148 U ?_;refine Af<|A5 U<|qA<|CG (fun x=>x=_) AW U ?_;refine BD qf U (by rintro _ rfl;exact((H.drew.old (Ai h7 _)<|by simp))) ?_;refine BD qf U (by rintro _ rfl;exact((H.drew.old (Ai h3 _)<|by simp))) ?_;refine Bc U<|Aq qf U<|BD qf U (by rintro _ rfl;exact((H.drew.old (Ai hd _)<|by simp))) ?_;refine BD qf U (by rintro _ rfl;exact((H.drew.old (Ai h4 _)<|by simp))) ?_;refine Br R qf qf U U (by rfl) ?_;refine Aq qf U<|BD qf U (by rintro _ rfl;exact(((R.ext0 H.drew.ext).fld hg rfl (j:=0) rfl))) ?_;refine LK U U<|Ll U U<|Cc ?_;rintro _ rfl;replace H:=H.drew;refine qG 2 ?_
 exact⟨rfl,H.ext⟩
theorem Aag(w:World)(h3:w.heap[b3]?=some (Bl 86 [ptr bd]))(h7:w.heap[bx]?=some (Bl 2 [.int .i64 x]))(hd:w.heap[bd]?=some (Bl 153 [.slice a acs.length c]))(R:Rd w a 2 Cg acs)(hn:acs.length<=1000:=by omega):
  Ret prog 145 #[ptr b3,ptr bx] w fun v w'=>v=.bool (decide ((Dp<|bas acs++[x]).2=0))/\Ext [] w w':=by
 obtain⟨w0,rfl,H⟩:=qE w;obtain⟨tt,htt⟩:=qD<|Dp<|bas acs++[x];rw[<-htt];refine iG func145 U ?_;refine Af<|A5 U<|qA<|Afk (.two [0,2] 1 (.one [] 3 (.one [] 4 (.one [] 5 (.one [6,7,8] 9 (.one [] 10 .stop))))) 3 (.one [] 1 (.one [] 4 (.one [] 5 (.one [6,7,8] 9 (.one [] 10 .stop)))))) (fun z=>Ext [] w0 z) AW (Ext.drew [] w0) ?_;refine F6 U U U ?_;refine AU qf U (fun _ hx=>(by rw[Ai<|hx.to h3<|by simp];rfl)) ?_;refine AU qf U (fun _ hx=>(by rw[Ai<|hx.to h7<|by simp];rfl)) ?_;refine A6 ?_;replace H:=H.drew;refine⟨?_,?_⟩
 .skip
  refine Aj qB (Hh a acs.length c acs _ (H.ext.to hd<|by simp) (R.ext0 H.ext) U) U ?_;rintro v w F;obtain⟨a3,n3,c3,f3,rfl,O3,hb3⟩:=F.ex;have hl3:=O3.llen;rw[qaj,qaj]at hl3;replace H:=H.callEnt F.ext hb3 DX;refine Ab<|B3 (H.ext)<|B1 U U ?_;refine A6<|C5 _ (.int _ _) qf qf qf U U U U H ?_;rintro b9 w - H;refine Ab<|B3 (H.ext)<|B1 U U ?_;refine A6<|BL (L:=[]) qf qf qf qf qf U U U H O3 U (by simp[AF]) ?_;rintro a' c' full' w H O;refine Ab<|B3 (H.ext)<|B1 U U ?_;refine A6<|Aj qB (J0 a' (n3+1) c' (bas acs++[x]) _ (OS.rd1 (f:=Cu) (t:=2) (xs:=bas acs++[x]) (by rw[qau];exact O) fun x hx=>H.blk x<|qap [] hx) (by unfold bas;rw[qat,qaj];show acs.length+1=_;omega)) U ?_;rintro v w ⟨rfl,rfl⟩;rw[<-htt]
  refine Ab<|B3 (H.ext)<|B1 U U ?_;refine CK U<|AZ U U<|AZ U U<|A6<|Ag U<|Ab<|B3 (H.ext)<|B1 U U ?_;refine A6<|Ag U<|Ab<|B3 (H.ext)<|Db ?_;refine Af<|Ad U<|Ct U U<|A5 U<|qA<|Bf<|B6 (v:=(.bool _)) U U U ?_;exact⟨rfl,H.ext⟩
 .skip
  refine qG 1 ?_;rintro b9 w - H;refine Ab<|B3 (H.ext)<|B1 U U ?_;refine A6<|Aj qB (Hh a acs.length c acs _ (H.ext.to hd<|by simp) (R.ext0 H.ext) U) U ?_;rintro v w F;obtain⟨a3,n3,c3,f3,rfl,O3,hb3⟩:=F.ex;have hl3:=O3.llen;rw[qaj,qaj]at hl3;replace H:=H.callEnt F.ext hb3 DX;refine Ab<|B3 (H.ext)<|B1 U U ?_;refine A6<|BL (L:=[]) qf qf qf qf qf U U U H O3 U (by simp[AF]) ?_;rintro a' c' full' w H O;refine Ab<|B3 (H.ext)<|B1 U U ?_;refine A6<|Aj qB (J0 a' (n3+1) c' (bas acs++[x]) _ (OS.rd1 (f:=Cu) (t:=2) (xs:=bas acs++[x]) (by rw[qau];exact O) fun x hx=>H.blk x<|qap [] hx) (by unfold bas;rw[qat,qaj];show acs.length+1=_;omega)) U ?_;rintro v w ⟨rfl,rfl⟩;rw[<-htt];refine Ab<|B3 (H.ext)<|B1 U U ?_
  refine CK U<|AZ U U<|AZ U U<|A6<|Ag U<|Ab<|B3 (H.ext)<|B1 U U ?_;refine A6<|Ag U<|Ab<|B3 (H.ext)<|Db ?_;refine Af<|Ad U<|Ct U U<|A5 U<|qA<|Bf<|B6 (v:=(.bool _)) U U U ?_;exact⟨rfl,H.ext⟩
abbrev AcB(bd:Nat)(a:Option Addr)(n c:Nat)(w:World):Prop:=w.heap[bd]?=some (Bl 153 [.slice a n c])
theorem AcsAt.back(h:AcsAt w w' a n c full acs)(hx:Ext [] w0 w):AcsAt w0 w' a n c full acs:=by
 obtain⟨f,O,hb,he⟩:=h;exact⟨f,O,hb,(hx.mono<|by simp).trans he⟩
theorem AcsAt.of(h:AcsAt w w' a n c full acs)(he:acs=acs'):AcsAt w w' a n c full acs':=he ▸ h
abbrev Vo(b3 b5:Nat)(acs:List Ac)(x:Int):List Qk:=[⟨1,144,[ptr b5],decide (0<x) && C0 x⟩,⟨13,145,[ptr b3,ptr b5],decide ((Dp (bas acs++[x])).2=0)⟩]
abbrev Vp(b3 b4 b5:Nat)(acs:List Ac)(k x:Int):List Qk:=[⟨1,147,[ptr b5],decide (0<x) && C0 x⟩,⟨12,148,[ptr b5,ptr b3,ptr b4],decide (x<=(Da acs k).ba)⟩]
abbrev rsvQ(b5:Nat)(x:Int):List Qk:=[⟨1,150,[ptr b5],C0 x⟩]
theorem Ph:Hx acs k (Vo b3 b5 acs x)=DW acs k x:=by
 unfold Hx DW
 cases inA acs k with
 |false=>rfl
 |true =>
  rw[if_neg<|by decide,if_neg<|by decide];show(if(decide (0<x) && C0 x)=false then(1:Int)else if decide ((Dp<|bas acs++[x]).2=0)=false then 13 else 0)=_
  by_cases h:(Dp<|bas acs++[x]).2=0
  .rw[if_neg<|show ¬(decide ((Dp<|bas acs++[x]).2=0)=false)by simpa using h,if_neg<|show ¬(Dp<|bas acs++[x]).2≠0 from fun h2=>h2 h]
  .rw[if_pos<|show decide ((Dp<|bas acs++[x]).2=0)=false by simpa using h,if_pos h]
theorem Pi:Hx acs k (Vp b3 b4 b5 acs k x)=DG acs k x:=by
 unfold Hx DG
 cases inA acs k with
 |false=>rfl
 |true =>
  rw[if_neg<|by decide,if_neg<|by decide];show(if(decide (0<x) && C0 x)=false then(1:Int)else if decide (x<=(Da acs k).ba)=false then 12 else 0)=_
  by_cases h:x<=(Da acs k).ba
  .rw[if_neg<|show ¬(decide (x<=(Da acs k).ba)=false)by simpa using h,if_neg<|show ¬(Da acs k).ba<x by omega]
  .rw[if_pos<|show decide (x<=(Da acs k).ba)=false by simpa using h,if_pos<|show(Da acs k).ba<x by omega]
theorem Aah:Hx acs k (rsvQ b5 x)=GW acs k x:=rfl
section
variable {bd c:Nat}{a:Option Addr}{full:List Value}{acs:List Ac}{w:World}
theorem L6(O:OS (some ⟨q,0,none⟩) acs.length c 2 full (acs.flatMap Cg))(h9:w'.heap[q]?=some (Bl 162 full))(hi:inA acs k=true) :
  full[0+k.toNat*2]?=some (.int .i64 (Da acs k).ba)/\0+k.toNat*2+1<full.length:=by
 have R:Rd w' (some ⟨q,0,none⟩) 2 Cg acs:=OS.rd (t:=162) O (fun y hy=>by rw[qab.1 hy];exact h9) (fun _ _=>rfl) (by omega);have h1:w'.cell? ⟨q,0+k.toNat*2+0,none⟩=some (.int .i64 (Da acs k).ba):=R.fld (Ey hi) rfl (j:=0) rfl;have h2:w'.cell? ⟨q,0+k.toNat*2+1,none⟩=some (.int .i64 (Da acs k).re):=R.fld (Ey hi) rfl (j:=1) rfl;rw[Ai h9]at h1 h2;exact⟨h1,BH h2⟩
theorem WK(hd:AcB bd a acs.length c w)(O:OS a acs.length c 2 full (acs.flatMap Cg))(hb:∀x∈ent a 162 full,w.heap[x.1]?=some x.2/\x.1≠b5)(hac:CO acs=0)(h3:w.heap[b3]?=some (Bl 86 [ptr bd]))(h5:w.heap[b5]?=some (Bl 2 [.int .i64 x]))(h14:w.heap[b14]?=some (Bl 222 ((Vo b3 b5 acs x).flatMap L5))) :
  Ret prog 142 #[ptr bd,.int .i64 k,.func (.func 143) #[] [ptr b5].toArray,.slice (some ⟨b14,0,none⟩) 2 2] w fun v w'=>v=.int .i64 (DW acs k x)/\AcsAt w w' a acs.length c full (DF acs k x):=by
 have hn16:=(BM.1 hac).1;have R:Rd w a 2 Cg acs:=OS.rd O (fun y hy=>(hb y hy).1) (fun _ _=>rfl) (by omega);refine Ret.mono (Nw (qs:=Vo b3 b5 acs x) (e:=⟨(Da acs k).ba+x,(Da acs k).re⟩) w hd O (fun y hy=>(hb y hy).1) (Rd.of_bl h14 (qar _).symm fun _ _=>rfl) (show(2:Nat)<=1000 by decide) (fun q hq=>?_) qB fun q w' hqa hi hC hx=>?_) fun v w' h=>?_
 .rcases qaf.1 hq with rfl|hq
  .exact⟨qB,(show(1:Int)≠0 by decide),fun w' hx=>Aab w'<|hx.to h5<|by simp⟩
  .rw[qab.1 hq];exact⟨qB,(show(13:Int)≠0 by decide),fun w' hx=>Aag w' (hx.to h3<|by simp) (hx.to h5<|by simp) (hx.to hd<|by simp)<|R.ext0 hx⟩
 .subst hqa;obtain⟨h1,h2⟩:=hb (q,Bl 162 full)<|qab.2 rfl;have h9:w'.heap[q]?=_:=hx.to h1 (by simp);have hg:=FD hac hi;have hC2:DW acs k x=0:=by rw[<-Ph (b3:=b3) (b5:=b5)];unfold Hx;rw[if_neg (by rw[hi];decide)];exact hC
  rcases Kb acs k x with⟨hc,-⟩|⟨-,-,h0,hm,-⟩
  .exact absurd hC2 hc
  .refine Ret.mono (Aad w' h9 (L6 O h9 hi).1 (hx.to h5<|by simp) (fun h=>h2 h.symm) ⟨hg.1.1,hg.1.2⟩ ⟨by omega,(Cq.1 hm).2⟩) fun _ w'' H2=>⟨_,?_,H2⟩;rw[show 0+k.toNat*2+0=k.toNat*2+0 by omega];exact OS.setf O (y:=⟨(Da acs k).ba+x,(Da acs k).re⟩) (j:=0) (v := .int .i64 ((Da acs k).ba+x)) (fun _=>rfl) (Ey hi) (by decide) U
 .rw[Ph]at h;exact⟨h.1,h.2.of (by unfold DF;rfl)⟩
theorem WL(hd:AcB bd a acs.length c w)(O:OS a acs.length c 2 full (acs.flatMap Cg))(hb:∀x∈ent a 162 full,w.heap[x.1]?=some x.2/\x.1≠b5)(hac:CO acs=0)(h3:w.heap[b3]?=some (Bl 86 [ptr bd]))(h4:w.heap[b4]?=some (Bl 3 [.int .i64 k]))(h5:w.heap[b5]?=some (Bl 2 [.int .i64 x]))(h14:w.heap[b14]?=some (Bl 222 ((Vp b3 b4 b5 acs k x).flatMap L5))) :
  Ret prog 142 #[ptr bd,.int .i64 k,.func (.func 146) #[] [ptr b5].toArray,.slice (some ⟨b14,0,none⟩) 2 2] w fun v w'=>v=.int .i64 (DG acs k x)/\AcsAt w w' a acs.length c full (D8 acs k x):=by
 have hn16:=(BM.1 hac).1;have R:Rd w a 2 Cg acs:=OS.rd O (fun y hy=>(hb y hy).1) (fun _ _=>rfl)<|by omega
 cases hi0:inA acs k with
 |false =>
  refine Ret.mono (Aaa w hd hi0) fun v w' h=>?_;have hc:DG acs k x=10:=by unfold DG;rw[if_pos hi0]
  refine⟨by rw[hc];exact h.1,full,?_,fun y hy=>h.2.to (hb y hy).1<|by simp,h.2.mono<|by simp⟩;unfold D8;rw[if_neg (by rw[hc];decide)];exact O
 |true =>
  refine Ret.mono (Nw (qs:=Vp b3 b4 b5 acs k x) (e:=⟨(Da acs k).ba - x,(Da acs k).re⟩) w hd O (fun y hy=>(hb y hy).1) (Rd.of_bl h14 (qar _).symm fun _ _=>rfl) (show(2:Nat)<=1000 by decide) (fun q hq=>?_) qB fun q w' hqa hi hC hx=>?_) fun v w' h=>?_
  .rcases qaf.1 hq with rfl|hq
   .exact⟨qB,(show(1:Int)≠0 by decide),fun w' hx=>Aac w'<|hx.to h5<|by simp⟩
   .rw[qab.1 hq];exact⟨qB,(show(12:Int)≠0 by decide),fun w' hx=>Aaf w' (hx.to h5<|by simp) (hx.to h3<|by simp) (hx.to h4<|by simp) (hx.to hd<|by simp) (R.ext0 hx) hi0⟩
  .subst hqa;obtain⟨h1,h2⟩:=hb (q,Bl 162 full)<|qab.2 rfl;have h9:w'.heap[q]?=_:=hx.to h1 (by simp);have hg:=FD hac hi;have hC2:DG acs k x=0:=by rw[<-Pi (b3:=b3) (b4:=b4) (b5:=b5)];unfold Hx;rw[if_neg (by rw[hi];decide)];exact hC
   rcases Kc acs k x with⟨hc,-⟩|⟨-,-,h0,hm,-⟩
   .exact absurd hC2 hc
   .refine Ret.mono (Aae w' h9 (L6 O h9 hi).1 (hx.to h5<|by simp) (fun h=>h2 h.symm) ⟨hg.1.1,hg.1.2⟩ ⟨by omega,(Cq.1 hm).2⟩) fun _ w'' H2=>⟨_,?_,H2⟩;rw[show 0+k.toNat*2+0=k.toNat*2+0 by omega];exact OS.setf O (y:=⟨(Da acs k).ba - x,(Da acs k).re⟩) (j:=0) (v := .int .i64 ((Da acs k).ba - x)) (fun _=>rfl) (Ey hi) (by decide) U
  .rw[Pi]at h;exact⟨h.1,h.2.of (by unfold D8;rfl)⟩
theorem Aai(hd:AcB bd a acs.length c w)(O:OS a acs.length c 2 full (acs.flatMap Cg))(hb:∀x∈ent a 162 full,w.heap[x.1]?=some x.2/\x.1≠b5)(hac:CO acs=0)(h5:w.heap[b5]?=some (Bl 2 [.int .i64 x]))(h14:w.heap[b14]?=some (Bl 222 ((rsvQ b5 x).flatMap L5))) :
  Ret prog 142 #[ptr bd,.int .i64 k,.func (.func 149) #[] [ptr b5].toArray,.slice (some ⟨b14,0,none⟩) 1 1] w fun v w'=>v=.int .i64 (GW acs k x)/\AcsAt w w' a acs.length c full (Fg acs k x):=by
 have hn16:=(BM.1 hac).1;refine Ret.mono (Nw (qs:=rsvQ b5 x) (e:=⟨(Da acs k).ba,x⟩) w hd O (fun y hy=>(hb y hy).1) (Rd.of_bl h14 (qar _).symm fun _ _=>rfl) (show(1:Nat)<=1000 by decide) (fun q hq=>?_) qB fun q w' hqa hi hC hx=>?_) fun v w' h=>?_
 .rw[qab.1 hq];exact⟨qB,(show(1:Int)≠0 by decide),fun w' hx=>Adu w'<|hx.to h5<|by simp⟩
 .subst hqa;obtain⟨h1,h2⟩:=hb (q,Bl 162 full)<|qab.2 rfl;have h9:w'.heap[q]?=_:=hx.to h1 (by simp);refine Ret.mono (Adv w' h9 (L6 O h9 hi).2 (hx.to h5<|by simp) fun h=>h2 h.symm) fun _ w'' H2=>⟨_,?_,H2⟩;rw[show 0+k.toNat*2+1=k.toNat*2+1 by omega];exact OS.setf O (y:=⟨(Da acs k).ba,x⟩) (j:=1) (v := .int .i64 x) (fun _=>rfl) (Ey hi) (by decide) U
 .rw[Aah]at h;exact⟨h.1,h.2.of (by unfold Fg;rfl)⟩
end
theorem Aaj(w:World)(hd:AcB bd a acs.length c w)(O:OS a acs.length c 2 full (acs.flatMap Cg))(hb:∀x∈ent a 162 full,w.heap[x.1]?=some x.2)(hac:CO acs=0) :
  Ret prog 95 #[ptr bd,.int .i64 k,.int .i64 x] w fun v w'=>v=.int .i64 (DW acs k x)/\AcsAt w w' a acs.length c full (DF acs k x):=by
 obtain⟨w0,rfl,H⟩:=qE w;refine iG func95 U ?_;refine qG 2 ?_;rintro b3 w - H;refine qG 1 ?_;rintro b5 w - H;refine qG 6 ?_;refine Ci [ptr b5] U<|Ci [ptr b5] U<|Bd (L5 ⟨1,144,[ptr b5],true⟩) qf qf<|Ci [ptr b3,ptr b5] U<|Bd (L5 ⟨13,145,[ptr b3,ptr b5],true⟩) qf qf<|Cs ((Vo b3 b5 acs x).flatMap L5) qf qf qf H ?_;rintro b14 w - H;refine Aj qB (WK (H.ext.to hd<|by simp) O (fun y hy=>⟨H.ext.to (hb y hy)<|by simp,fun hne=>by have h1:=AX<|hb y hy;rw[hne]at h1;have h2:=(H.own _<|qad at1).elim (fun h=>by cases h) id;dsimp only at h2;omega⟩) hac (H.get at2) (H.get at1)<|H.get at0) U ?_;rintro v w2 ⟨rfl,A⟩;replace A:=A.back H.ext;refine qG 5 ?_
 exact⟨rfl,A⟩
theorem Aak(w:World)(hd:AcB bd a acs.length c w)(O:OS a acs.length c 2 full (acs.flatMap Cg))(hb:∀x∈ent a 162 full,w.heap[x.1]?=some x.2)(hac:CO acs=0) :
  Ret prog 96 #[ptr bd,.int .i64 k,.int .i64 x] w fun v w'=>v=.int .i64 (DG acs k x)/\AcsAt w w' a acs.length c full (D8 acs k x):=by
 obtain⟨w0,rfl,H⟩:=qE w;refine iG func96 U ?_;refine qG 2 ?_;rintro b3 w - H;refine qG 1 ?_;rintro b4 w - H;refine qG 1 ?_;rintro b5 w - H;refine qG 6 ?_;refine Ci [ptr b5] U<|Ci [ptr b5] U<|Bd (L5 ⟨1,147,[ptr b5],true⟩) qf qf<|Ci [ptr b5,ptr b3,ptr b4] U<|Bd (L5 ⟨12,148,[ptr b5,ptr b3,ptr b4],true⟩) qf qf<|Cs ((Vp b3 b4 b5 acs k x).flatMap L5) qf qf qf H ?_;rintro b14 w - H;refine Aj qB (WL (H.ext.to hd<|by simp) O (fun y hy=>⟨H.ext.to (hb y hy)<|by simp,fun hne=>by have h1:=AX<|hb y hy;rw[hne]at h1;have h2:=(H.own _<|qad at1).elim (fun h=>by cases h) id;dsimp only at h2;omega⟩) hac (H.get at3) (H.get at2) (H.get at1)<|H.get at0) U ?_
 rintro v w2 ⟨rfl,A⟩;replace A:=A.back H.ext;refine qG 5 ?_;exact⟨rfl,A⟩
theorem Adw(w:World)(hd:AcB bd a acs.length c w)(O:OS a acs.length c 2 full (acs.flatMap Cg))(hb:∀x∈ent a 162 full,w.heap[x.1]?=some x.2)(hac:CO acs=0) :
  Ret prog 97 #[ptr bd,.int .i64 k,.int .i64 x] w fun v w'=>v=.int .i64 (GW acs k x)/\AcsAt w w' a acs.length c full (Fg acs k x):=by
 obtain⟨w0,rfl,H⟩:=qE w;refine iG func97 U ?_;refine qG 2 ?_;rintro b5 w - H;refine qG 6 ?_;refine Ci [ptr b5] U<|Ci [ptr b5] U<|Bd (L5 ⟨1,150,[ptr b5],true⟩) qf qf<|Cs ((rsvQ b5 x).flatMap L5) qf qf qf H ?_;rintro b14 w - H;refine Aj qB (Aai (H.ext.to hd<|by simp) O (fun y hy=>⟨H.ext.to (hb y hy)<|by simp,fun hne=>by have h1:=AX<|hb y hy;rw[hne]at h1;have h2:=(H.own _<|qad at1).elim (fun h=>by cases h) id;dsimp only at h2;omega⟩) hac (H.get at1)<|H.get at0) U ?_;rintro v w2 ⟨rfl,A⟩;replace A:=A.back H.ext;refine qG 5 ?_;exact⟨rfl,A⟩
def Ss:List Du->Int->Du->List Du
 | [],_,_=>[]
 |d::ds,k,e=>if d.id=k then e::ds else d::Ss ds k e
def Uc:List Du->Int->List Du
 | [],_=>[]
 |d::ds,k=>if d.id=k then ds else d::Uc ds k
theorem Aal(h:Cn ds k=some d)(he:e.id=k):Kp (dm ds) k (Fj e)=dm (Ss ds k e):=by
 induction ds with
 |nil=>cases h
 |cons y ds ih =>
  unfold Cn at h;rw[qcd]at h
  by_cases c:y.id=k
  .unfold Ss;rw[if_pos c];show(if y.id=k then(k,_)::dm ds else _)=_;rw[if_pos c,<-he];rfl
  .rw[show(y.id == k)=false by simpa using c]at h;unfold Ss;rw[if_neg c];show(if y.id=k then _ else(y.id,Fj y)::Kp (dm ds) k _)=_;rw[if_neg c,ih h];rfl
theorem Aam(h:Cn ds k=some d):JR (dm ds) k=dm (Uc ds k):=by
 induction ds with
 |nil=>cases h
 |cons y ds ih =>
  unfold Cn at h;rw[qcd]at h
  by_cases c:y.id=k
  .unfold Uc;rw[if_pos c];show(if y.id=k then dm ds else _)=_;rw[if_pos c]
  .rw[show(y.id == k)=false by simpa using c]at h;unfold Uc;rw[if_neg c];show(if y.id=k then _ else(y.id,Fj y)::JR (dm ds) k)=_;rw[if_neg c,ih h];rfl
theorem Su{k:Int}{b:Bool}:∀{ds:List Du} {d:Du},(ds.map Du.id).Nodup->Cn ds k=some d->Ss ds k { d with held:=b }=ds.map fun x=>if x.id=k then{ x with held:=b }else x
 |y::ds,d,hn,h=>by
  rw[qas,qc3]at hn;unfold Cn at h;rw[qcd]at h
  by_cases c:y.id=k
  .rw[show(y.id == k)=true by simpa using c]at h
   injection h with h
   subst h;unfold Ss;rw[if_pos c,qas,if_pos c]
   congr 1
   refine(List.map_id ds).symm.trans (qbk fun x hx=>?_);rw[if_neg fun hxk=>hn.1 (by rw[c,<-hxk];exact qa6 hx)];rfl
  .rw[show(y.id == k)=false by simpa using c]at h;unfold Ss;rw[if_neg c,qas,if_neg c,Su hn.2 h]
theorem LY{k:Int}:∀{ds:List Du},(ds.map Du.id).Nodup->Uc ds k=ds.filter fun x => !decide (x.id=k)
 | [],_=>rfl
 |y::ds,hn=>by
  rw[qas,qc3]at hn;unfold Uc
  by_cases c:y.id=k
  .rw[if_pos c,qbo,if_neg<|by simpa using c];refine(qd6.2 fun x hx=>?_).symm
   have:¬x.id=k:=fun hxk=>hn.1 (by rw[c,<-hxk];exact qa6 hx)
   simpa using this
  .rw[if_neg c,qbo,if_pos<|by simpa using c,LY hn.2]
def trnD(ds:List Du)(k:Int)(c:Int)(e:Du):List Du:=if c≠0 then ds else if e.am=0 then Uc ds k else Ss ds k e
theorem Sv(w:World)(hd:w.heap[bd]?=some (Bl 156 (DU b nx)))(hb:w.heap[b]?=some o)(hM:CQ .u64 (dm ds) o)(hbd:bd≠b)(hf:Cn ds k=some d)(he:e.id=k)(hfc:An prog fid=true)(hcl:∀(b7:Nat) (w':World),w.heap.size<=b7->Ext [b] w w'->w'.heap[b7]?=some (Bl 111 (BK d))->Ret prog fid (ptr b7::cl).toArray w' fun v w''=>v=.int .i64 code/\Ctx w' [b7] w'' [(b7,Bl 111 (BK e))]) :
  Ret prog 152 #[ptr bd,.int .u64 k,.func (.func fid) #[] cl.toArray] w fun v w'=>v=.int .i64 code/\∃o',CQ .u64 (dm<|trnD ds k code e) o'/\Ctx w [b] w' [(b,o')]:=by
 obtain⟨w0,rfl⟩:=qD w;have H:=Ctx.start1 hb;have hmg:DR (dm ds) k=some (Fj d):=by rw[G2,hf];rfl
 unfold trnD;refine iG func152 U ?_;refine qGc 10 ?_ ?_
 .intro h0;cases h0
 .intro h0;refine qG 6 ?_;refine A9 qf U ((H.old (Ai hd _) (by rw[qab];exact hbd)))<|Ad U<|Ga U qf qf qf U U H at0 hM ?_;rw[hmg];rw[Option.getD_some,Option.isSome_some];refine qG 4 ?_;rintro b7 w - H;refine AM qf U U U (by exact Cx _) H at0 U ?_;rintro w H;refine qGp 9 ?_ ?_
  .intro h1;cases h1
  .intro h1;refine qG 4 ?_;have hb7:w0.heap.size<=b7:=(H.own _<|qah ..).elim (fun h=>by have h8:=H.ne at0 at1 (by decide);exact absurd (qab.1 h) h8) id;refine FA U hfc (hcl b7 _ hb7 H.ext<|H.get at0) U ?_;rintro v w ⟨rfl,H2⟩;replace H:=Ctx.back (L1:=[_]) (L2:=[_]) H H2;refine qGp 11 ?_ ?_
   .intro h2;refine A1<|Av<|Aa<|Af<|Ad U<|Ag U<|qA<|Bf<|B6 (v:=(.int _ _)) U U U ?_;rw[if_pos h2];exact⟨rfl,o,hM,H.tail⟩
   .intro h2;rw[if_neg<|by omega];refine qGp 7 ?_ ?_
    .intro h3;refine qG 4 ?_;refine A9 qf U ((H.old (Ai hd _) (by rw[qab];exact hbd)))<|Ad U<|Lp U qf qf U U H at1 hM ?_;rintro o2 w hM2 H;refine Ab<|Av<|Aa<|Af<|Ad U<|Ag U<|qA<|Bf<|B6 (v:=(.int _ _)) U U U ?_;rw[if_pos h3];exact⟨rfl,o2,by rw[<-Aam hf];exact hM2,H.tail⟩
    .intro h3;refine DL 6 AW U U ?_;refine BE U<|Bc U<|Aq qf U<|BD qf U (by rintro _ rfl;exact((H.old (Ai hd _) (by rw[qab];exact hbd)))) ?_;refine AS U<|MF U qf qf U (by rintro _ rfl;exact H.drew) at0 U ?_;refine Cc ?_;replace H:=H.drew;refine Ik (Fj e) U qf qf U U U H at1 hM ?_;rintro o2 w hM2 H;refine Ab<|Av<|Aa<|Af<|Ad U<|Ag U<|qA<|Bf<|B6 (v:=(.int _ _)) U U U ?_;rw[if_neg h3];exact⟨rfl,o2,by rw[<-Aal hf he];exact hM2,H.tail⟩
theorem Nx(w:World)(hd:w.heap[bd]?=some (Bl 156 (DU b nx)))(hb:w.heap[b]?=some o)(hM:CQ .u64 (dm ds) o)(hbd:bd≠b)(hf:Cn ds k=none) :
  Ret prog 152 #[ptr bd,.int .u64 k,.func (.func fid) #[] cl.toArray] w fun v w'=>v=.int .i64 11/\∃o',CQ .u64 (dm ds) o'/\Ctx w [b] w' [(b,o')]:=by
 obtain⟨w0,rfl⟩:=qD w;have H:=Ctx.start1 hb;have hmg:DR (dm ds) k=none:=by rw[G2,hf];rfl
 refine iG func152 U ?_;refine qGc 10 ?_ ?_
 .intro h0;cases h0
 .intro h0;refine qG 6 ?_;refine A9 qf U ((H.old (Ai hd _) (by rw[qab];exact hbd)))<|Ad U<|Ga U qf qf qf U U H at0 hM ?_;rw[hmg];rw[Option.getD_none,Option.isSome_none];refine qG 4 ?_;rintro b7 w - H;refine AM qf U U U (by exact Cx d00) H at0 U ?_;rintro w H;refine qGp 9 ?_ ?_
  .intro h1;refine qG 7 ?_;exact⟨rfl,o,hM,H.tail⟩
  .intro h1;cases h1
theorem Ajg{e:Env}{K:Env->Prop}{x:Operand}{a b:Bool}(ht:P.underlying t=some .bool)(hg:AJ ⟨dst,.binOp .eql t x y t2,ty,pos,af,g⟩ ops e=true)(hx:ev e x=.bool a)(hy:ev e y=.bool b)(h:Wq P ops C K rest<|put e dst<|.bool<|a == b):Wq P ops C K (⟨dst,.binOp .eql t x y t2,ty,pos,af,g⟩::rest) e :=
 DI hg (fun w _=>by
  have hq:eqGuard .eql t x y (.bool a) (.bool b)=pure ():=rfl;have he:∀d w,(Op.equalIn (d+1) t (.bool a)<|.bool b).run P w=.ok (a == b) w:=fun d w=>by simp[Op.equalIn,Bg ht]
  simp only[execOp,hx,hy,hq,Sem.run_bind,Sem.run_pure,Result.andThen_ok,binOp,Op.equal,Op.maxDepth,he 9999]) h
theorem J6(h:ofC ds nx=0):(ds.map Du.id).Nodup:=(EK h).2.imp fun h=>Int.ne_of_lt h
theorem Aan{b:Bool}(w:World)(h7:w.heap[b7]?=some (Bl 111 (BK d)))(hi:w.heap[bi]?=some (Bl 4 [.bool b]))(hne:bi≠b7) :
  Ret prog 195 #[ptr b7,ptr bi] w fun v w'=>v=.int .i64 (if d.held=b then 14 else 0)/\Ctx w [b7] w' [(b7,Bl 111 (BK<|if d.held=b then d else{ d with held:=b }))]:=by
 obtain⟨w0,rfl⟩:=qD w;have H:=Ctx.start1 h7;have hn:bi∉[b7]:=by rw[qab];exact hne
 refine iG func195 U ?_;refine Af<|Ag U<|qA<|AB<|CG (fun x=>x=_) AW U ?_;refine BE U<|Bc U<|Aq qf U<|B7 qf U (by rintro _ rfl;exact H.drew) at0 U ?_;refine BD qf U (by rintro _ rfl;exact((H.old (Ai hi _) hn))) ?_;refine Ajg qf U U U<|Cc ?_;rintro _ rfl;replace H:=H.drew;refine A3 _ U ?_ ?_
 .intro h1;have h1':d.held=b:=by simpa using h1
  refine qG 7 ?_;rw[if_pos h1',if_pos h1'];exact⟨rfl,H⟩
 .intro h1;have h1':¬d.held=b:=by simpa using h1
  refine qG 4 ?_;refine A9 qf U ((H.old (Ai hi _) hn))<|AR U<|Ae qf U<|Ch (.bool _) qf U U U H at0 (by(simp;done)) ?_;rintro w H;refine qG 8 ?_;rw[if_neg h1',if_neg h1'];exact⟨rfl,H⟩
theorem Ud(w:World)(h7:w.heap[b7]?=some (Bl 111 (BK d))) :
  Ret prog 153 #[ptr b7] w fun v w'=>v=.int .i64 0/\Ctx w [b7] w' [(b7,Bl 111 (BK { d with am:=0 }))]:=by
 obtain⟨w0,rfl⟩:=qD w;have H:=Ctx.start1 h7;refine iG func153 U ?_;refine qG 9 ?_;rintro w H;refine qG 8 ?_;exact⟨rfl,H⟩
theorem Vq(h:Bool)(w:World)(hd:w.heap[bd]?=some (Bl 156 (DU b nx)))(hb:w.heap[b]?=some o)(hM:CQ .u64 (dm ds) o)(hbd:bd≠b)(hof:ofC ds nx=0) :
  Ret prog 151 #[ptr bd,.int .u64 k,.bool h] w fun v w'=>v=.int .i64 (F3 ds k h)/\∃o',CQ .u64 (dm<|EX ds k h) o'/\Ctx w [b] w' [(b,o')]:=by
 obtain⟨w0,rfl,H⟩:=qE w;have hbl:=AX hb
 have hT:∀(bi:Nat) (w:World),w0.heap.size<=bi->Ext [] w0 w->w.heap[bi]?=some (Bl 4 [.bool h])->Ret prog 152 #[ptr bd,.int .u64 k,.func (.func 195) #[] [ptr bi].toArray] w fun v w'=>v=.int .i64 (F3 ds k h)/\∃o',CQ .u64 (dm<|EX ds k h) o'/\Ctx w [b] w' [(b,o')]:=fun bi w hbi hx hi=>by
  cases hf:Cn ds k with
  |none =>
   have hc:F3 ds k h=11:=by unfold F3;rw[hf]
   refine Ret.mono (Nx w (hx.to hd<|by simp) (hx.to hb<|by simp) hM hbd hf) fun v w' ⟨h1,o',h2,h3⟩=>⟨by rw[hc];exact h1,o',?_,h3⟩;rw[Sq (by rw[hc];decide)];exact h2
  |some d =>
   have hid:=(GQ hf).2;have hm:=CD ((EK hof).1 d (GQ hf).1).1;have hc:F3 ds k h=if d.held=h then 14 else 0:=by unfold F3;rw[hf]
   refine Ret.mono (Sv (e:=if d.held=h then d else{ d with held:=h }) w (hx.to hd<|by simp) (hx.to hb<|by simp) hM hbd hf (by split <;> exact hid) qB fun b7 w' hb7 hx' h7=>Aan w' h7 (hx'.to hi (by rw[qab];omega)) (by have:=AX hi;omega)) fun v w' ⟨h1,o',h2,h3⟩=>⟨by rw[hc];exact h1,o',?_,h3⟩
   by_cases hh:d.held=h
   .rw[if_pos hh,if_pos hh]at h2;rw[Sq (by rw[hc,if_pos hh];decide)];exact h2
   .rw[if_neg hh,if_neg hh]at h2;unfold trnD at h2;rw[if_neg<|by decide,if_neg (by show ¬d.am=0;omega),Su (J6 hof) hf]at h2;unfold EX;rw[hc,if_neg hh,if_pos rfl];exact h2
 refine iG func151 U ?_;refine Af<|Be _ (.bool _) U U H ?_;rintro b5 w - H;refine qG 6 ?_;refine Ci [.pointer _] U<|Aj qB (hT b5 _ ((H.own _<|qah ..).elim (fun h=>by cases h) id) H.ext<|H.get at0) U ?_;rintro v w ⟨rfl,o',hM',H2⟩;refine qG 5 ?_;have H3:=H.ext.mono (S':=[b]) (by simp);exact⟨rfl,o',hM',⟨H3.trans H2.ext,H2.blk,H2.nd,fun y hy=>by rw[qab.1 hy];exact .inl<|qab.2 rfl⟩⟩
end Go.Proofs.YtfnfnmgilmejmaaGreat
