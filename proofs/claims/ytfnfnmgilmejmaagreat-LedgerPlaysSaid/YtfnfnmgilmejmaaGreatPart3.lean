/- Part 3 of the proof. -/
import Derived.Test.YtfnfnmgilmejmaaGreatPart2
import Derived.Maps.RangeRun
import Derived.Laws.StructEq
import Derived.ProofKit
import Derived.Deep.Slices
import Derived.OpenShut
import Derived.JoinedOf
namespace Go.GV
open Go
variable{α β σ:Type}{af:Array Edge}{fs:Array Field}{arr:Array Oper}{ps:Array Tmp}{args ca:Array Value}{assign body:Code}{e e':Env}{fn:Func}{kk:IntKind}{ks:List Bool}{ds:List Deferred}{es ves:List MapEntry}{before:List MemPlace}{S Z:List Nat}{ops rest:List Oper}{cs full l new ys zl:List Value}{D N b b2 bi by' c2 fuel gf i id j m n s:Nat}{it:Obj}{f x y:Operand}{g:Option (Nat × Bool)}{a a2:Option Addr}{dst:Option Tmp}{P:Program}{A B Q':Prop}{pos:String}{d:Tmp}{el el2 k t t2 t3 tb ty u:TypeId}{v z:Value}{W' w w' w0:World}{C S0:World->Prop}
abbrev Mt:=Nat->Prop
structure Grw(M M':Mt)(w w':World):Prop where
 ext:∃S,(∀x∈S,M x\/w.heap.size<=x)/\Ext S w w'
 new:∀x,M' x->M x\/w.heap.size<=x
theorem Grw.to{M M':Mt}(g:Grw M M' w w'){o:Obj}(hb:w.heap[b]?=some o)(hn:¬M b):w'.heap[b]?=some o:=by
 obtain⟨S,hS,hx⟩:=g.ext;have hl:=AX hb;rw[hx.block b hl fun h=>by rcases hS b h with h|h;exact hn h;omega];exact hb
theorem Grw.not{M M':Mt}(g:Grw M M' w w')(hb:b<w.heap.size)(hn:¬M b):¬M' b:=fun h=>by
 rcases g.new b h with h|h
 .exact hn h
 .omega
def P8(P:Program)(gf:FuncId)(ca:Array Value)(Z:List Nat)(K:Mt->World->Prop)(xs:List (List Value)):Prop :=
 ∀(l:Nat) (w:World) (J:Nat->Mt->World->Prop) (E:World->Prop),(∃M,J 0 M w)->(∀i M w' w'',J i M w'->Ext Z w' w''->J i M w'')->(∀w' w'',E w'->Ext Z w' w''->E w'')->(∀i M w',J i M w'->(∀x,M x->x<w'.heap.size)/\K M w') ->
  (∀i v M w',xs[i]?=some v->J i M w'->Js P l v w' fun u w''=>(u=.bool true/\∃M',J (i+1) M' w''/\Grw M M' w' w'')\/(u=.bool false/\E w'')) ->
  Ret P gf (#[.func (.yield l) #[] #[]]++ca) w fun _ w'=>(∃M,J xs.length M w')\/E w'
def U3(P:Program)(gf:FuncId)(ca:Array Value)(Z:List Nat)(K:Mt->World->Prop)(xs:List (List Value))(S0:World->Prop):Prop :=
 ∀(l:Nat) (w:World),S0 w->∀(J:Nat->Mt->World->Prop) (E:World->Prop),(∃M,J 0 M w)->(∀i M w' w'',J i M w'->Ext Z w' w''->J i M w'')->(∀w' w'',E w'->Ext Z w' w''->E w'')->(∀i M w',J i M w'->(∀x,M x->x<w'.heap.size)/\K M w') ->
  (∀i v M w',xs[i]?=some v->J i M w'->Js P l v w' fun u w''=>(u=.bool true/\∃M',J (i+1) M' w''/\Grw M M' w' w'')\/(u=.bool false/\E w'')) ->
  Ret P gf (#[.func (.yield l) #[] #[]]++ca) w fun _ w'=>(∃M,J xs.length M w')\/E w'
section
variable {P:Program}{Q:Exit->Env->World->Prop}{e:Env}{w:World}{n:Nat}
def Oe(e:Env)(l:List (Tmp × Value)):Env:=l.foldl (fun e p=>put e (some p.1) p.2) e
theorem U4:∀(l:List<|Tmp × Value) {e:Env} {a:Act},Sim n e a->(∀p∈l,p.1<n)->Sim n (Oe e l) { a with tmps:=l.foldl (fun tmps p=>tmps.setIfInBounds p.1 p.2) a.tmps }
 | [],_,_,h,_=>h
 |p::l,e,a,h,hp=>by
  have h1:Sim n (put e (some p.1) p.2) { a with tmps:=a.tmps.setIfInBounds p.1 p.2 }:=by
   have:=Sim.put h (some p.1) p.2 (by rintro _ ⟨⟩;exact hp p<|qah ..)
   simpa[Act.put]using this
  exact U4 l h1 fun q hq=>hp q<|qae _ hq
theorem XB(ps:Array Tmp)(vs:List Value)(tmps:Array Value):(ps.zip vs.toArray).foldl (fun tmps (t,a)=>tmps.setIfInBounds t a) tmps=(ps.toList.zip vs).foldl (fun tmps p=>tmps.setIfInBounds p.1 p.2) tmps:=by
 rw[<-Array.foldl_toList,Array.toList_zip]
def Qbody(D l:Nat)(J1:Mt->World->Prop)(E:World->Prop)(M:Mt)(w wB:World):Exit->Env->World->Prop
 | .normal,_,w3=>∃M',J1 M' w3/\(∀x,M' x->M x\/w.heap.size<=x)/\∃S,Ext S wB w3/\∀x∈S,M x\/w.heap.size<=x
 | .ret,_,w3=>E w3/\∃S,Ext S wB w3/\D∉S/\l∉S
 |_,_,_=>False
def Mj(P:Program)(D l n:Nat)(body:Code)(J1:Mt->World->Prop)(E:World->Prop)(M:Mt)(w:World):Exit->Env->World->Prop
 | .normal,e,w1=>Ext [] w w1/\∀wB,Ext [l] w1 wB->W P (some l) n body (Qbody D l J1 E M w wB) e wB
 |_,_,_=>False
theorem Ext.to(h:Ext S w w'){o:Obj}(hb:w.heap[b]?=some o)(hn:b∉S):w'.heap[b]?=some o:=by
 rw[h.block b (AX hb) hn];exact hb
theorem VJ{j:Option Code}(hj:j=none)(h:Q .normal e w):Le Q e w j:=by subst hj;exact h
theorem XC{j:Option Code}(hj:j=some .ret)(h:Q .ret e w):Le Q e w j:=by subst hj;exact h
theorem QL{K:Mt->World->Prop}{z0:σ}{St:σ->List Value->σ->Prop}{En:σ->Prop}{Fr:Mt->List Nat->Prop}(hf:ev e f=.func (.func gf) #[] ca)(hc:An P gf=true)(hI:∀w2,Ext [] w w2->w.heap.size+1<w2.heap.size->∀(J:σ->Mt->World->Prop) (E:World->Prop),(∃M,J z0 M w2)->(∀i M w' w'' T,J i M w'->Fr M T->Ext T w' w''->J i M w'')->(∀w' w'',E w'->Ext Z w' w''->E w'')->(∀i M w',J i M w'->(∀x,M x->x<w'.heap.size)/\K M w') ->
   (∀i v i' M w',St i v i'->J i M w'->Js P (w.heap.size+1) v w' fun u w''=>(u=.bool true/\∃M',J i' M' w''/\Grw M M' w' w'')\/(u=.bool false/\E w'')) ->
   Ret P gf (#[.func (.yield<|w.heap.size+1) #[] #[]]++ca) w2 fun _ w'=>(∃i M,En i/\J i M w')\/E w')(hFr:∀(M:Mt) (T:List Nat),Fr (fun x=>x=w.heap.size+1\/M x) T->w.heap.size∉T/\w.heap.size+1∉T)(hfit:(Gs n assign && Gs n body)=true)(hps:(ps.toList.all fun p=>decide (p<n))=true)(hlen:∀i v i',St i v i'->v.length=ps.size)(J:σ->Mt->World->Prop)(E:World->Prop)(hZ:w.heap.size∉Z/\w.heap.size+1∉Z)(hj0:∀w2,Ext [] w w2->w.heap.size+1<w2.heap.size->∃M,J z0 M w2)(hjs:∀i M w' w'' T,J i M w'->Fr (fun x=>x=w.heap.size+1\/M x) T\/(T=[w.heap.size+1]/\¬M (w.heap.size+1))->Ext T w' w''->J i M w'')(hes:∀w' w'',E w'->Ext (w.heap.size::(w.heap.size+1)::Z) w' w''->E w'')(hk:∀i M w',J i M w'->(∀x,M x->x<w'.heap.size/\x≠w.heap.size/\x≠w.heap.size+1)/\K (fun x=>x=w.heap.size+1\/M x) w')(hb:∀i v i' M w',St i v i'->J i M w'->w.heap.size+1<w'.heap.size->W P (some<|w.heap.size+1) n assign (Mj P w.heap.size (w.heap.size+1) n body (J i') E M w') (Oe ⟨e.g,[]⟩<|ps.toList.zip v) w')(hend:∀i M w4,En i->J i M w4->w4.heap[w.heap.size]?=some (.deferred<|some [])->Q .normal ⟨e.g,{ target := .collected w.heap.size,args:=#[] }::e.ds⟩ w4)(hret:∀w4,E w4->w4.heap[w.heap.size]?=some (.deferred<|some [])->Q .ret ⟨e.g,{ target := .collected w.heap.size,args:=#[] }::e.ds⟩ w4):W P none n (.rangeFunc f ps assign body) Q e w:=by
 refine QJ hf hc ?_;intro fn tmps hts htm D l w2 hDe hle hx2 hD hrec;subst hDe hle;obtain⟨lo,hlo,hrec'⟩:∃lo,lo=({ state := .ready,pending:=none,fn,tmps,params:=ps,assign,body,defers:=w.heap.size }:Loop)/\w2.heap[w.heap.size+1]?=some (.loop lo):=⟨_,rfl,hrec⟩;have hsz2:=AX hrec';have hne:w.heap.size≠w.heap.size+1:=by omega
 refine Ret.mono (hI w2 hx2 hsz2 (fun i Mh w'=>(∃M:Mt,(Mh=fun x=>x=w.heap.size+1\/M x)/\J i M w')/\w'.heap[w.heap.size+1]?=some (.loop lo)/\w'.heap[w.heap.size]?=some (.deferred<|some [])) (fun w'=>E w'/\(∃lp,w'.heap[w.heap.size+1]?=some (.loop lp)/\lp.state=.done/\lp.pending=some .ret)/\w'.heap[w.heap.size]?=some (.deferred<|some []))
  (let ⟨M,hM⟩:=hj0 w2 hx2 hsz2;⟨_,⟨M,rfl,hM⟩,hrec',hD⟩) (fun i Mh w' w'' T h hT hx=>by
   obtain⟨⟨M,rfl,hM⟩,h2,h3⟩:=h
   exact⟨⟨M,rfl,hjs i M w' w'' T hM (.inl hT) hx⟩,hx.to h2 (hFr M T hT).2,hx.to h3 (hFr M T hT).1⟩)
  (fun w' w'' h hx=>⟨hes w' w'' h.1<|hx.mono fun x hx=>qae _<|qae _ hx,let ⟨lp,h1,h2⟩:=h.2.1;⟨lp,hx.to h1 hZ.2,h2⟩,hx.to h.2.2 hZ.1⟩) (fun i Mh w' h=>by
   obtain⟨⟨M,rfl,hM⟩,hl,_⟩:=h
   exact⟨fun x hx=>hx.elim (fun h=>by rw[h];exact AX hl) fun h=>((hk i M w' hM).1 x h).1,(hk i M w' hM).2⟩) ?_) ?_
 .rintro i v i' Mh w' hx ⟨⟨M,rfl,hJ⟩,hl,hDw⟩;have hsz:=AX hl;have hkM:=(hk i M w' hJ).1;have hbody:=hb i v i' M w' hx hJ hsz;have hlp:lo.params=ps:=by rw[hlo]
  have hla:lo.assign=assign:=by rw[hlo]
  have hlb:lo.body=body:=by rw[hlo]
  have hlt:lo.tmps=tmps:=by rw[hlo]
  have hls:lo.state=.ready:=by rw[hlo]
  have hpd:lo.pending=none:=by rw[hlo]
  refine X9 hl (by rw[hlp];exact hlen i v i' hx) ?_;rw[hlp,hla,hlb,hlt,XB];have hs0:Sim n (⟨e.g,[]⟩:Env) ({ tmps:=tmps,defers:=[] }:Act):=⟨rfl,hts,htm⟩;refine Ta (Oe ⟨e.g,[]⟩<|ps.toList.zip v) (U4 _ hs0 fun p hp=>?_) hfit ?_
  .have h1:=qaw.1 hps p.1 (List.of_mem_zip hp).1;exact qbe h1
  .refine Ff assign ?_ hbody;intro x e1 w1 hq
   cases x with
   |normal =>
    obtain⟨hS,hW⟩:=hq;have hl1:=hS.to hl (by simp);have hD1:=hS.to hDw (by simp);have hxB:=Ext.setB w1 (w.heap.size+1)<|.loop { lo with state := .busy };refine⟨lo,hl1,hls,Ff body ?_<|hW _ hxB⟩;have hlB:(w1.putObj (w.heap.size+1)<|.loop { lo with state := .busy }).heap[w.heap.size+1]?=some (.loop { lo with state := .busy }):=HD hl1;have hDB:(w1.putObj (w.heap.size+1)<|.loop { lo with state := .busy }).heap[w.heap.size]?=some (.deferred<|some []):=hxB.to hD1 (by simp);intro y e3 w3 hq3
    cases y with
    |normal =>
     obtain⟨M',hJ3,hM',S3,hS3,hin⟩:=hq3
     have hlS3:w.heap.size+1∉S3:=fun h=>by
      rcases hin _ h with h|h
      .exact(hkM _ h).2.2 U
      .omega
     have hDS3:w.heap.size∉S3:=fun h=>by
      rcases hin _ h with h|h
      .exact(hkM _ h).2.1 U
      .omega
     have hl3:=hS3.to hlB hlS3;have hD3:=hS3.to hDB hDS3;have hx4:=Ext.setB w3 (w.heap.size+1)<|.loop { ({ lo with state := .busy }:Loop)with state := .ready,pending:=none };refine⟨_,hl3,.inl ⟨rfl,fun x=>x=w.heap.size+1\/M' x,⟨⟨M',rfl,hjs _ _ _ _ [w.heap.size+1] hJ3 (.inr ⟨rfl,fun h=>(hM' _ h).elim (fun h=>(hkM _ h).2.2 rfl) fun h=>by omega⟩) hx4⟩,?_,hx4.to hD3<|by simp⟩,⟨⟨(w.heap.size+1)::S3,fun x hx=>?_,?_⟩,fun x hx=>?_⟩⟩⟩
     .rw[HD hl3]
      congr 2
      cases lo;simp_all
     .rcases qaf.1 hx with h|h
      .exact .inl (.inl h)
      .exact(hin x h).imp .inr id
     .exact(((hS.mono<|by simp).trans<|hxB.mono<|by simp).trans<|hS3.mono fun x h=>qae _ h).trans (hx4.mono<|by simp)
     .rcases hx with h|h
      .exact .inl (.inl h)
      .exact(hM' x h).imp .inr id
    |ret =>
     obtain⟨hE3,S3,hS3,hDS3,hlS3⟩:=hq3;have hl3:=hS3.to hlB hlS3;have hD3:=hS3.to hDB hDS3;have hx4:=Ext.setB w3 (w.heap.size+1)<|.loop { ({ lo with state := .busy }:Loop)with state := .done,pending:=some .ret };exact⟨_,hl3,.inr ⟨rfl,hes _ _ hE3<|hx4.mono<|by simp,⟨_,HD hl3,rfl,rfl⟩,hx4.to hD3<|by simp⟩⟩
    |_=>exact hq3.elim
   |_=>exact hq.elim
 .intro v w3 h
  rcases h with⟨i,Mh,hE,⟨M,_,h1⟩,h2,h3⟩|⟨h1,h2,h3⟩
  .have hx4:=Ext.setB w3 (w.heap.size+1)<|.loop { lo with state := .exhausted };exact⟨lo,h2,by rw[hlo];exact(fun h=>by cases h),VJ (by rw[hlo])<|hend i M _ hE (hjs _ _ _ _ [w.heap.size+1] h1 (.inr ⟨rfl,fun h=>((hk i M w3 h1).1 _ h).2.2 rfl⟩) hx4)<|hx4.to h3<|by simp⟩
  .obtain⟨lp,h2,h4,h5⟩:=h2;have hx4:=Ext.setB w3 (w.heap.size+1)<|.loop { lp with state := .exhausted };exact⟨lp,h2,by rw[h4];exact(fun h=>by cases h),XC h5<|hret _ (hes _ _ h1<|hx4.mono<|by simp)<|hx4.to h3<|by simp⟩
theorem MP{K:Mt->World->Prop}{xs:List (List Value)}(hf:ev e f=.func (.func gf) #[] ca)(hc:An P gf=true)(hI:U3 P gf ca Z K xs S0)(hfit:(Gs n assign && Gs n body)=true)(hps:(ps.toList.all fun p=>decide (p<n))=true)(hlen:∀v∈xs,v.length=ps.size)(J:Nat->Mt->World->Prop)(E:World->Prop)(hZ:w.heap.size∉Z/\w.heap.size+1∉Z)(hS0:∀w2,Ext [] w w2->S0 w2)(hj0:∀w2,Ext [] w w2->w.heap.size+1<w2.heap.size->∃M,J 0 M w2)(hjs:∀i M w' w'',J i M w'->Ext (w.heap.size::(w.heap.size+1)::Z) w' w''->J i M w'')(hes:∀w' w'',E w'->Ext (w.heap.size::(w.heap.size+1)::Z) w' w''->E w'')(hk:∀i M w',J i M w'->(∀x,M x->x<w'.heap.size/\x≠w.heap.size/\x≠w.heap.size+1)/\K (fun x=>x=w.heap.size+1\/M x) w')(hb:∀i v M w',xs[i]?=some v->J i M w'->w.heap.size+1<w'.heap.size->W P (some<|w.heap.size+1) n assign (Mj P w.heap.size (w.heap.size+1) n body (J<|i+1) E M w') (Oe ⟨e.g,[]⟩<|ps.toList.zip v) w')(hend:∀M w4,J xs.length M w4->w4.heap[w.heap.size]?=some (.deferred<|some [])->Q .normal ⟨e.g,{ target := .collected w.heap.size,args:=#[] }::e.ds⟩ w4)(hret:∀w4,E w4->w4.heap[w.heap.size]?=some (.deferred<|some [])->Q .ret ⟨e.g,{ target := .collected w.heap.size,args:=#[] }::e.ds⟩ w4):W P none n (.rangeFunc f ps assign body) Q e w :=
 QL (σ:=Nat) (z0:=0) (St:=fun i v i'=>xs[i]?=some v/\i'=i+1) (En:=fun i=>i=xs.length) (Fr:=fun _ T=>T=Z) hf hc (fun w2 hx _ J' E' h0 h1 h2 h3 h4=>Ret.mono (hI (w.heap.size+1) w2 (hS0 w2 hx) J' E' h0 (fun i M w' w'' h hx=>h1 i M w' w'' Z h rfl hx) h2 h3 fun i v M w' hx h=>h4 i v (i+1) M w' ⟨hx,rfl⟩ h) fun v w' h=>h.imp_left fun⟨M,h⟩=>⟨_,M,rfl,h⟩)
  (fun M T hT=>by rw[hT];exact hZ) hfit hps (fun i v i' h=>hlen v<|qad h.1) J E hZ hj0 (fun i M w' w'' T h hT hx=>hjs i M w' w'' h (hx.mono fun x hm=>by
   rcases hT with rfl|⟨rfl,-⟩
   .exact qae _ (qae _ hm)
   .rw[qab.1 hm];exact qae _<|qah ..)) hes hk (fun i v i' M w' h=>by
   obtain⟨h1,rfl⟩:=h
   exact hb i v M w' h1) (fun i M w4 h=>by
   subst h
   exact hend M w4) hret
theorem Mk{K:Mt->World->Prop}{xs:List (List Value)}(hf:ev e f=.func (.func gf) #[] ca)(hc:An P gf=true)(hI:P8 P gf ca Z K xs)(hfit:(Gs n assign && Gs n body)=true)(hps:(ps.toList.all fun p=>decide (p<n))=true)(hlen:∀v∈xs,v.length=ps.size)(J:Nat->Mt->World->Prop)(E:World->Prop)(hZ:w.heap.size∉Z/\w.heap.size+1∉Z)(hj0:∀w2,Ext [] w w2->w.heap.size+1<w2.heap.size->∃M,J 0 M w2)(hjs:∀i M w' w'',J i M w'->Ext (w.heap.size::(w.heap.size+1)::Z) w' w''->J i M w'')(hes:∀w' w'',E w'->Ext (w.heap.size::(w.heap.size+1)::Z) w' w''->E w'')(hk:∀i M w',J i M w'->(∀x,M x->x<w'.heap.size/\x≠w.heap.size/\x≠w.heap.size+1)/\K (fun x=>x=w.heap.size+1\/M x) w')(hb:∀i v M w',xs[i]?=some v->J i M w'->w.heap.size+1<w'.heap.size->W P (some<|w.heap.size+1) n assign (Mj P w.heap.size (w.heap.size+1) n body (J<|i+1) E M w') (Oe ⟨e.g,[]⟩<|ps.toList.zip v) w')(hend:∀M w4,J xs.length M w4->w4.heap[w.heap.size]?=some (.deferred<|some [])->Q .normal ⟨e.g,{ target := .collected w.heap.size,args:=#[] }::e.ds⟩ w4)(hret:∀w4,E w4->w4.heap[w.heap.size]?=some (.deferred<|some [])->Q .ret ⟨e.g,{ target := .collected w.heap.size,args:=#[] }::e.ds⟩ w4):W P none n (.rangeFunc f ps assign body) Q e w :=
 MP (S0:=fun _=>True) hf hc (fun l w _=>hI l w) hfit hps hlen J E hZ (fun _ _=>trivial) hj0 hjs hes hk hb hend hret
theorem Gy{K:World->Prop}(hD:w.heap[D]?=some (.deferred<|some []))(hds:ds=[{ target := .collected D,args:=#[] }])(hK:∀wF,Ext [D] w wF->K wF):Marks ds w K:=by
 subst hds;exact⟨D,rfl,hD,hK _<|Ext.setB w D _⟩
theorem XD{K:Env->Prop}{parts:Array (Nat × Operand)}{pl:List (Nat × Nat)}(l:List Value)(hg:AJ ⟨dst,.build t parts,ty,pos,af,g⟩ ops e=true)(hp:CJ P t=some pl)(hz:Ca P t=some zl)(hl:Instr.fill (fun i=>pl.toArray[i]?) zl.toArray (parts.toList.map fun p=>(p.1,ev e p.2))=some l.toArray)(h:Wq P ops C K rest<|put e dst<|.agg l.toArray) :
  Wq P ops C K (⟨dst,.build t parts,ty,pos,af,g⟩::rest) e:=by
 refine DI hg (fun w _=>?_) h;have hb:P.built t (parts.map fun(i,x)=>(i,ev e x)).toList=some l.toArray:=MJ hp hz (by rw[qcr];exact hl);simp[execOp,run_build w t _ _ hb]
end
section
variable {P:Program}{r:Option Nat}{ops rest:List Oper}{Q:Exit->Env->World->Prop}{e:Env}{w w0:World}{S:List Nat}{L:List (Nat × Obj)}{C:World->Prop}{K:Env->Prop}{dst:Option Tmp}{ty:TypeId}{pos:String}{af:Array Edge}{g:Option (Nat × Bool)}
theorem U5(hu:P.underlying t=some (.pointer el))(d:Nat)(a:Option Addr)(w:World):(Op.equalIn (d+1) t (.pointer a)<|.pointer none).run P w=.ok a.isNone w:=by
 cases a <;> simp[Op.equalIn,Bg hu]
theorem QM(hu:P.underlying t=some (.pointer el))(a:Option Addr)(w:World):(binOp .eql t (.pointer a)<|.pointer none).run P w=.ok (.bool a.isNone) w:=by
 simp only[binOp,Sem.run_bind,Op.equal,Op.maxDepth,U5 hu 9999];cases a <;> rfl
theorem XE(hu:P.underlying t=some (.pointer el))(a:Option Addr)(w:World):(binOp .neq t (.pointer a)<|.pointer none).run P w=.ok (.bool a.isSome) w:=by
 simp only[binOp,Sem.run_bind,Op.equal,Op.maxDepth,U5 hu 9999];cases a <;> rfl
theorem EB(hu:P.underlying t=some (.pointer el))(hx:ev e x=.pointer a)(h:A4 P r ops Q rest (put e dst<|.bool a.isNone) w)(hg:AJ ⟨dst,.binOp .eql t x (.const<|.pointer none) t2,ty,pos,af,g⟩ ops e=true:=by exact U):A4 P r ops Q (⟨dst,.binOp .eql t x (.const<|.pointer none) t2,ty,pos,af,g⟩::rest) e w :=
 B8 hg rfl (by
  have hq:eqGuard .eql t x (.const<|.pointer none) (.pointer a) (.pointer none)=pure ():=rfl;have he:ev e (.const<|.pointer none)=.pointer none:=rfl
  simp only[execOp,hx,he,hq,Sem.run_bind,Sem.run_pure,Result.andThen_ok,QM hu]) h
theorem Tb{o:Obj}{m:List (Int × Value)}{n:Int}(ht:Kq P t=some (k,el))(hk:P.underlying k=some (.int kk))(hz:(P.info? el).bind (·.zero)=some z)(hx:ev e x=.map (some b))(hy:ev e y=.int kk n)(hb:w.heap[b]?=some o)(hM:CQ kk m o) :
  (execOp (ev e) ⟨dst,.lookup t x y false,ty,pos,af,g⟩).run P w=.ok (.value<|(DR m n).getD z) w:=by
 obtain⟨es,clock,rfl,hes,_⟩:=hM;have hf:=FK kk n es.toList m 0 hes;have hgo:(getObj b).run P w=.ok (.map es clock) w:=by simp[getObj,Sem.run,hb]
 have hzr:(zeroValue el).run P w=.ok z w:=by
  cases hi:P.info? el with
  |none=>rw[hi]at hz;cases hz
  |some i=>rw[hi]at hz;simp at hz;simp[zeroValue,typeInfo,program,Sem.run,hi,hz]
 cases hm:DR m n with
 |none=>simp[execOp,Instr.lookup,Bg<|G7 ht,hx,hy,hgo,D4 hk,Instr.findKey,Bg hk,hf.1 hm,hzr]
 |some v =>
  obtain⟨i,hi,_⟩:=hf.2 v hm;simp[execOp,Instr.lookup,Bg<|G7 ht,hx,hy,hgo,D4 hk,Instr.findKey,Bg hk,hi]
theorem Tc{o:Obj}{m:List (Int × Value)}{n:Int}(hg:AJ ⟨dst,.lookup t x y false,ty,pos,af,g⟩ ops e=true)(ht:Kq P t=some (k,el))(hk:P.underlying k=some (.int kk))(hz:(P.info? el).bind (·.zero)=some z)(hx:ev e x=.map (some b))(hy:ev e y=.int kk n)(hb:w.heap[b]?=some o)(hM:CQ kk m o)(h:A4 P r ops Q rest (put e dst<|(DR m n).getD z) w):A4 P r ops Q (⟨dst,.lookup t x y false,ty,pos,af,g⟩::rest) e w :=
 B8 hg rfl (Tb ht hk hz hx hy hb hM) h
end
section
variable {P:Program}{r:Option Nat}{ops rest:List Oper}{Q:Exit->Env->World->Prop}{e:Env}{w w0:World}{S:List Nat}{L:List (Nat × Obj)}{dst:Option Tmp}{ty:TypeId}{pos:String}{af:Array Edge}{g:Option (Nat × Bool)}
theorem MQ(z:Array Value)(n:Nat):(Builtin.zeroCells z n).toList=(List.replicate n z.toList).flatten:=by
 have hr:(List.replicate n z.toList).flatten=(List.replicate n z.toList).flatMap id:=List.flatMap_id.symm;rw[hr]
 rcases qdk z.size with h|h
 .have h2:z.toList=[]:=by rw[<-qer];simpa using h
  simp[Builtin.zeroCells,h,h2]
 .refine qca fun j=>?_;rw[QE (s:=z.size) (fun x hx=>by rw[(List.mem_replicate.1 hx).2];simp) h j];unfold Builtin.zeroCells;simp only[qcr,qa9,Array.toList_range,List.getElem?_replicate];have hm:j % z.size<z.size:=Nat.mod_lt _ h
  by_cases hj:j<n*z.size
  .rw[qb4<|by simpa using hj,if_pos<|Nat.div_lt_of_lt_mul (by rw[Nat.mul_comm];exact hj)];simp[hm]
  .rw[qbg<|by simpa using hj,if_neg fun h7=>hj (by have:=(Nat.div_lt_iff_lt_mul h).1 h7;exact this)];rfl
theorem Og{o k c:Nat}(hg:AJ ⟨dst,.call ⟨.builtin .clear,#[x],#[t]⟩,ty,pos,af,g⟩ ops e=true)(hu:C8 P t=some el)(hz:Ca P el=some zl)(hzl:zl.length=s)(h1:∀v∈zl,AF v=true)(hx:ev e x=.slice (some ⟨b,o,none⟩) n c)(H:Ctx w0 S w L)(hk:L[k]?=some (b,Bl t2 l))(hi:o+n*s<=l.length)(h:∀w',Ctx w0 S w' (L.set k (b,Bl t2<|over l o (List.replicate n zl).flatten))->A4 P r ops Q rest (put e dst<|.tuple #[]) w') :
  A4 P r ops Q (⟨dst,.call ⟨.builtin .clear,#[x],#[t]⟩,ty,pos,af,g⟩::rest) e w:=by
 obtain⟨z,hz1,hz2⟩:=G5 hz w;have hlen:(List.replicate n zl).flatten.length=n*s:=by simp[hzl]
 obtain⟨w',hr,he,hb⟩:=F9 (P:=P) (o:=o) (List.replicate n zl).flatten l w 0 (fun v hv=>by
  obtain⟨y,hy,hvy⟩:=List.mem_flatten.1 hv;obtain⟨-,rfl⟩:=List.mem_replicate.1 hy
  exact h1 v hvy) (H.get hk) (by omega)
 cases n with
 |zero =>
  have hw:Ctx w0 S w<|L.set k (b,Bl t2<|over l o (List.replicate 0 zl).flatten):=by
   have hset:L.set k (b,Bl t2 l)=L:=by
    obtain⟨h1,h2⟩:=qbh.1 hk;rw[<-h2];exact List.set_getElem_self h1
   show Ctx w0 S w (L.set k (b,Bl t2 l));rw[hset];exact H
  refine B8 (w':=w) (v := .tuple #[]) hg U ?_<|h w hw;simp[execOp,resolve,invoke,builtin,hx,Builtin.clear_,Bg<|CS hu]
 |succ n =>
  refine B8 (w':=w') (v := .tuple #[]) hg U ?_ (h w'<|H.turn hk _ he<|by simpa using hb);simp[execOp,resolve,invoke,builtin,hx,Builtin.clear_,Bg<|CS hu,hz1,MQ,hz2,hr]
end
section
variable {P:Program}{r:Option Nat}{ops:List Oper}{Q:Exit->Env->World->Prop}
def Qk(K:Env->World->Prop):Exit->Env->World->Prop
 | .normal,e,w=>K e w
 |_,_,_=>False
theorem VK{K:Env->World->Prop}{o:Oper}(h:A4 P r ops (Qk K) [o] e w)(hk:∀e w,K e w->A4 P r ops Q rest e w):A4 P r ops Q (o::rest) e w:=by
 unfold A4 at h |-
 by_cases hw:AJ o ops e=true
 .rw[if_pos hw]at h |-;generalize(o.semAt r<|ev e).run P w=res at h |-
  match res,h with
  | .ok (.value v) w',h=>exact hk _ _ h
  | .ok .skip w',h=>exact hk _ _ h
  | .ok (.defer d) w',h=>exact hk _ _ h
  | .ok (.enter f args) w',h=>exact Ret.mono h fun v w'' hv=>hk _ _ hv
  | .ok (.round l f tmps assign body) w',h=>exact RoundIn.mono h fun x w'' ⟨v,hx,hv⟩=>⟨v,hx,hk _ _ hv⟩
  | .halt (.panic v) w',h=>exact h.elim
 .rw[if_neg hw]at h |-;exact hk _ _ h
theorem LN{md:Region.Mode}{l:Array Bool}(h:i∈Region.ready md arr l):(l.setIfInBounds i true).toList.count false+1=l.toList.count false:=by
 have h1:=(mem_ready.1 h).1
 have hi:i<l.size:=by
  rcases qao i l.size with h|h
  .exact h
  .rw[qbm,qen h]at h1;cases h1
 have hv:l.toList[i]'(by simpa using hi)=false:=by
  rw[qbm,qdo hi]at h1
  simpa using h1
 have hpos:0<l.toList.count false:=List.count_pos_iff.2 (by rw[<-hv];exact List.getElem_mem _);rw[Array.toList_setIfInBounds,List.count_set<|by simpa using hi,hv,if_pos<|by rfl,if_neg<|by simp];omega
theorem XF{md:Region.Mode}{arr:Array Oper}{I:Array Bool->Env->World->Prop}(harr:arr.toList=ops)(hstep:∀l e w i o,I l e w->i∈Region.ready md arr l->arr[i]?=some o->A4 P r ops (Qk<|I<|l.setIfInBounds i true) [o] e w)(hend:∀l e w,I l e w->Region.ready md arr l=[]->Q .normal e w):∀(f t:Nat) (l:Array Bool) (e:Env) (w:World),l.toList.count false<=f->I l e w->A4 P r ops Q (C4 ops<|Region.linearise.go md arr f t l []) e w
 |0,t,l,e,w,hc,h=>by
  refine hend l e w h ?_
  cases hr:Region.ready md arr l with
  |nil=>rfl
  |cons i rs =>
   have:=LN (md:=md) (arr:=arr) (l:=l) (i:=i) (by rw[hr];exact qah ..);omega
 |f+1,t,l,e,w,hc,h=>by
  simp only[Region.linearise.go]
  change A4 P r ops Q (C4 ops (match(Region.ready md arr l)[t % (Region.ready md arr l).length]? with
   |some i=>Region.linearise.go md arr f (t / (Region.ready md arr l).length) (l.setIfInBounds i true) [i]
   |none=>[].reverse)) e w
  cases hi:(Region.ready md arr l)[t % (Region.ready md arr l).length]? with
  |none =>
   refine hend l e w h ?_
   cases hr:Region.ready md arr l with
   |nil=>rfl
   |cons x xs =>
    rw[hr]at hi;have hlt:t % (x::xs).length<(x::xs).length:=Nat.mod_lt _ (by simp);rw[qb4 hlt]at hi;cases hi
  |some i =>
   have hir:=qad hi;obtain⟨_,o,ho,_⟩:=mem_ready.1 hir;have hcount:=LN hir;have hol:ops[i]?=some o:=by rw[<-harr,qea];exact ho
   dsimp only;rw[linearise_go_acc,List.reverse_singleton,List.singleton_append];simp only[C4,hol];exact VK (hstep l e w i o h hir ho) fun e' w' h'=>XF harr hstep hend f _ _ e' w' (by omega) h'
theorem W_any{I:Array Bool->Env->World->Prop}(hm:P.follows .mixedOrders=true)(h0:I (Array.replicate arr.size false) e w.drew)(hstep:∀l e w i o,I l e w->i∈Region.ready .any arr l->arr[i]?=some o->A4 P r arr.toList (Qk<|I<|l.setIfInBounds i true) [o] e w)(hend:∀l e w,I l e w->Region.ready .any arr l=[]->Q .normal e w):W P r n (.region id arr true) Q e w := .inl fun t=>by
 rw[hm];simp only[Region.schedule,Bool.true_or,if_true];exact XF U hstep hend _ t _ e _ (by simp) h0
def Ho(arr:Array Oper)(i:Nat):List Nat:=match arr[i]? with|some o=>(o.after.toList.filter (Region.binds .any)).map (·.on)|none=>[]
def NH(arr:Array Oper)(anc:Nat->List Nat):Nat->Bool
 |0=>true
 |n+1=>NH arr anc n && ((anc n).all (fun k=>(Ho arr n).contains k || (Ho arr n).any fun j=>(anc j).contains k) && (Ho arr n).all fun j=>Nat.blt j n)
theorem Ln{arr:Array Oper}{anc:Nat->List Nat}:∀{n:Nat},NH arr anc n=true->∀i,i<n->(∀k∈anc i,k∈Ho arr i\/∃j∈Ho arr i,k∈anc j)/\∀j∈Ho arr i,j<i
 |n+1,h,i,hi=>by
  simp only[NH,qag]at h
  by_cases e:i=n
  .subst e;refine⟨fun k hk=>?_,fun j hj=>?_⟩
   .have:=qaw.1 h.2.1 k hk;rw[Bool.or_eq_true,List.any_eq_true]at this;exact this.imp qdw.1 fun⟨j,h1,h2⟩=>⟨j,h1,qdw.1 h2⟩
   .have:=qaw.1 h.2.2 j hj
    simpa[Nat.blt_eq]using this
  .exact Ln h.1 i (by omega)
theorem Ab7{anc:Nat->List Nat}(h:NH arr anc n=true):∀i,i<n->∀j∈anc i,j<i:=fun i=>by
 induction i using Nat.strongRecOn with
 |_ i ih =>
  intro hi j hj;obtain⟨h1,h2⟩:=Ln h i hi
  rcases h1 j hj with h|⟨k,hk,h⟩
  .exact h2 j h
  .have:=h2 k hk;have:=ih k this (by omega) j h;omega
theorem MR{l:Array Bool}(h:i∈Region.ready .any arr l):∀j∈Ho arr i,l.getD j false=true:=fun j hj=>by
 obtain⟨_,o,ho,hall⟩:=mem_ready.1 h;unfold Ho at hj;rw[ho]at hj;obtain⟨d,hd,rfl⟩:=qak.1 hj;obtain⟨hd1,hd2⟩:=qbc.1 hd;exact hall d (qdv.1 hd1) hd2
theorem XG{l:Array Bool}(hu:l.getD i true=false)(h:∀j∈Ho arr i,l.getD j false=true)(hi:i<arr.size:=by omega):i∈Region.ready .any arr l:=by
 refine mem_ready.2 ⟨hu,arr[i],qdo hi,fun d hd hb=>h d.on ?_⟩;unfold Ho;rw[qdo hi];exact qak.2 ⟨d,qbc.2 ⟨qdv.2 hd,hb⟩,rfl⟩
theorem Dj(e:Env)(s:Tmp)(v:Value):(put e (some s) v).g s=v:=by simp[put]
theorem Dg{s t:Tmp}(h:t≠s):(put e (some s) v).g t=e.g t:=by
 cases hb:Nat.beq t s with
 |true=>exact absurd (qdh hb) h
 |false=>simp[put,hb]
theorem Td{K:Env->World->Prop}{o:Oper}(h:A4 P r ops (Qk K) (o::rest) e w):A4 P r ops (Qk fun e2 w2=>A4 P r ops (Qk K) rest e2 w2) [o] e w:=by
 unfold A4 at h |-
 by_cases hw:AJ o ops e=true
 .rw[if_pos hw]at h |-;generalize(o.semAt r<|ev e).run P w=res at h |-
  match res,h with
  | .ok (.value v) w',h=>exact h
  | .ok .skip w',h=>exact h
  | .ok (.defer d) w',h=>exact h
  | .ok (.enter f args) w',h=>exact Ret.mono h fun v w'' hv=>hv
  | .ok (.round l f tmps assign body) w',h=>exact RoundIn.mono h fun x w'' ⟨v,hx,hv⟩=>⟨v,hx,hv⟩
  | .halt (.panic v) w',h=>exact h.elim
 .rw[if_neg hw]at h |-;exact h
theorem XH{anc:Nat->List Nat}(St:(Nat->Prop)->Env->World->Prop)(hm:P.follows .mixedOrders=true)(hsz:arr.size=N)(hanc:NH arr anc N=true)(h0:St (fun _=>False) e w.drew)(hstep:∀(l:Nat->Prop) i o e' w',arr[i]?=some o->i<N->¬l i->(∀j∈anc i,l j)->(∀j,l j->∀k∈anc j,l k)->St l e' w'->A4 P r arr.toList (Qk<|St fun j=>j=i\/l j) [o] e' w')(hend:∀(l:Nat->Prop) e' w',(∀i,i<N->l i)->St l e' w'->Q .normal e' w'):W P r m (.region id arr true) Q e w:=by
 have hspec:=Ln hanc;refine W_any (I:=fun l e' w'=>l.size=N/\(∀i,l.getD i false=true->∀k∈anc i,l.getD k false=true)/\St (fun j=>l.getD j false=true) e' w') hm ?_ ?_ ?_
 .refine⟨by simp[hsz],fun i h=>?_,?_⟩
  .exfalso;rw[getD_replicate_false]at h;cases h
  .have hf:(fun j=>(Array.replicate arr.size false).getD j false=true)=fun _=>False:=funext fun j=>by rw[getD_replicate_false];simp
   rw[hf];exact h0
 .rintro l e' w' i o ⟨hls,hcl,h⟩ hr ho;have hi:i<N:=by have:=(qd9.1 ho).1;omega
  have hun:¬l.getD i false=true:=fun h=>by
   have h1:=(mem_ready.1 hr).1;rw[qbm,qdo<|by omega]at h h1;simp at h h1;rw[h]at h1;cases h1
  have ha:∀k∈anc i,l.getD k false=true:=fun k hk=>by
   rcases(hspec i hi).1 k hk with h|⟨j,h1,h2⟩
   .exact MR hr k h
   .exact hcl j (MR hr j h1) k h2
  have hset:∀j,((l.setIfInBounds i true).getD j false=true)=(j=i\/l.getD j false=true):=fun j=>by
   apply propext
   by_cases e:j=i
   .subst e;rw[qbm,Array.getElem?_setIfInBounds_self_of_lt<|by omega];simp
   .rw[qbm,Array.getElem?_setIfInBounds_ne<|Ne.symm e,<-qbm];simp[e]
  refine CE ?_ _ _ _<|hstep _ i o e' w' ho hi hun ha hcl h;intro x e2 w2 hq
  cases x with
  |normal =>
   refine⟨by simp[hls],fun j hj k hk=>?_,?_⟩
   .rw[hset]at hj |-
    rcases hj with rfl|hj
    .exact .inr (ha k hk)
    .exact .inr (hcl j hj k hk)
   .rw[funext hset];exact hq
  |_=>exact hq.elim
 .rintro l e' w' ⟨hls,-,h⟩ hr;refine hend _ e' w' (fun i=>?_) h
  induction i using Nat.strongRecOn with
  |_ i ih =>
   intro hi
   cases hc:l.getD i false with
   |true=>rfl
   |false =>
    have hu:l.getD i true=false:=by
     rw[qbm,qdo<|by omega]at hc |-
     simpa using hc
    have:=XG (arr:=arr) (l:=l) (i:=i) hu fun j hj=>ih j ((hspec i hi).2 j hj) (by have:=(hspec i hi).2 j hj;omega);rw[hr]at this;cases this
theorem Jt{K K':Env->World->Prop}(h:∀e w,K e w->K' e w):∀x e w,Qk K x e w->Qk K' x e w
 | .normal,e,w,k=>h e w k
 | .exit _,_,_,k=>k
 | .goto _,_,_,k=>k
 | .ret,_,_,k=>k
 | .panic _,_,_,k=>k
 | .outgrown,_,_,k=>k
theorem U6{anc:Nat->List Nat}(St:(Nat->Prop)->Env->World->Prop)(hm:P.follows .mixedOrders=true)(hsz:arr.size=N)(hn:n<=N)(hanc:NH arr anc N=true)(hlast:∀i,n<=i->i<N->∀k,k<i->k∈anc i)(h0:St (fun _=>False) e w.drew)(hstep:∀(l:Nat->Prop) i o e' w',arr[i]?=some o->i<n->¬l i->(∀j∈anc i,j<n/\l j)->St l e' w'->A4 P r arr.toList (Qk<|St fun j=>j=i\/l j) [o] e' w')(hfin:∀(l:Nat->Prop) e' w',(∀i,i<n->l i)->St l e' w'->A4 P r arr.toList (Qk fun e2 w2=>Q .normal e2 w2) (arr.toList.drop n) e' w'):W P r m (.region id arr true) Q e w:=by
 have hnil:∀t e' w',t=N->A4 P r arr.toList (Qk fun e2 w2=>Q .normal e2 w2) (arr.toList.drop t) e' w'->Q .normal e' w':=fun t e' w' ht h=>by
  rw[qeq (by rw[qdx,hsz,ht];exact qaq _)]at h;exact h
 refine XH (St:=fun l e' w'=>((∀i,n<=i->¬l i)/\St l e' w')\/∃t,n<=t/\t<=N/\(∀i,i<t->l i)/\(∀i,t<=i->¬l i)/\A4 P r arr.toList (Qk fun e2 w2=>Q .normal e2 w2) (arr.toList.drop t) e' w') hm hsz hanc (.inl ⟨fun _ _ h=>h,h0⟩) ?_ ?_
 .intro l i o e' w' ho hi hu ha hcl h
  have tail:∀t,n<=t->(∀j,j<t->l j)->(∀j,t<=j->¬l j)->i=t->A4 P r arr.toList (Qk fun e2 w2=>Q .normal e2 w2) (arr.toList.drop t) e' w'->A4 P r arr.toList (Qk fun e2 w2=>((∀j,n<=j->¬(j=i\/l j))/\St (fun j=>j=i\/l j) e2 w2)\/∃t,n<=t/\t<=N/\(∀j,j<t->j=i\/l j)/\(∀j,t<=j->¬(j=i\/l j))/\A4 P r arr.toList (Qk fun e2 w2=>Q .normal e2 w2) (arr.toList.drop t) e2 w2) [o] e' w':=fun t hnt h1 h2 ht hW=>by
   subst ht;obtain⟨g1,g2⟩:=qd9.1 ho;rw[qdz<|by simpa using g1,show arr.toList[i]'(by simpa using g1)=o by simpa using g2]at hW;refine CE (Jt fun e2 w2 hq => .inr ⟨i+1,by omega,by omega,fun j hj=>?_,fun j hj g=>g.elim (by omega)<|h2 j<|by omega,hq⟩) _ _ _<|Td hW
   by_cases h:j=i
   .exact .inl h
   .exact .inr (h1 j<|by omega)
  rcases h with⟨hn0,hS⟩|⟨t,hnt,htN,h1,h2,hW⟩
  .rcases qao i n with hin|hin
   .refine CE (Jt fun e2 w2 hq => .inl ⟨fun j hj g=>g.elim (by omega)<|hn0 j hj,hq⟩) _ _ _ (hstep l i o e' w' ho hin hu (fun j hj=>⟨?_,ha j hj⟩) hS);exact Nat.lt_trans (Ab7 hanc i hi j hj) hin
   .have hk:∀k,k<i->l k:=fun k hk=>ha k<|hlast i hin hi k hk;have hin2:i=n:=Nat.le_antisymm (qd8 fun g=>hn0 n (qaq _)<|hk n g) hin;exact tail n (qaq _) (fun j hj=>hk j<|by omega) hn0 hin2<|hfin l e' w' (fun j hj=>hk j<|by omega) hS
  .have h3:¬i<t:=fun g=>hu<|h1 i g;have h4:¬t<i:=fun g=>h2 t (qaq _)<|ha t<|hlast i (by omega) hi t g;exact tail t hnt h1 h2 (by omega) hW
 .intro l e' w' hl h
  rcases h with⟨hn0,hS⟩|⟨t,hnt,htN,h1,h2,hW⟩
  .have:n=N:=Nat.le_antisymm hn (qd8 fun g=>hn0 n (qaq _)<|hl n g)
   exact hnil n e' w' this<|hfin l e' w' (fun i hi=>hl i<|by omega) hS
  .have:t=N:=Nat.le_antisymm htN (qd8 fun g=>h2 t (qaq _)<|hl t g)
   exact hnil t e' w' this hW
end
section
variable {P:Program}{r:Option Nat}{ops:List Oper}{Q:Exit->Env->World->Prop}
def IF{β:Type}(B:Nat->β)(i:Nat)(b:β):Nat->β:=fun j=>if j=i then b else B j
theorem HM(B:Nat->β)(i:Nat)(b:β):IF B i b i=b:=if_pos rfl
theorem Hf{B:Nat->β}{b:β}(h:j≠i):IF B i b j=B j:=if_neg h
structure AIB{β:Type}(bk:β->Nat)(good:Nat->β->Prop)(n:Nat)(anc:Nat->List Nat)(d:Nat->Tmp)(val:Nat->(Nat->β)->Value)(obj:Nat->Option ((Nat->β)->Obj))(e0:Env)(w0:World)(l:Nat->Prop)(e:Env)(w:World)(B:Nat->β):Prop where
 ds:e.ds=e0.ds
 old:∀s,(∀i,i<n->s≠d i)->e.g s=e0.g s
 slot:∀i,i<n->l i->e.g (d i)=val i B
 ext:Ext [] w0 w
 blk:∀i ob,i<n->l i->obj i=some ob->w.heap[bk (B i)]?=some (ob B)/\w0.heap.size<=bk (B i)
 ne:∀i j,i<n->j<n->i≠j->l i->l j->obj i≠none->obj j≠none->bk (B i)≠bk (B j)
 good:∀i,i<n->l i->good i (B i)
 cl:∀i,i<n->l i->∀j∈anc i,l j
def AQB{β:Type}(bk:β->Nat)(good:Nat->β->Prop)(d:Nat->Tmp)(val:Nat->(Nat->β)->Value)(obj:Nat->Option ((Nat->β)->Obj))(i:Nat)(e:Env)(w:World)(B:Nat->β)(e':Env)(w':World):Prop :=
 ∃b,good i b/\(∀ob,obj i=some ob->w.heap.size<=bk b/\w'.heap[bk b]?=some (ob (IF B i b)))/\Ext [] w w'/\e'=put e (some (d i)) (val i (IF B i b))
theorem AIB.step{bk:β->Nat}{good:Nat->β->Prop}{anc:Nat->List Nat}{d:Nat->Tmp}{val:Nat->(Nat->β)->Value}{obj:Nat->Option ((Nat->β)->Obj)}{e0:Env}{l:Nat->Prop}{B:Nat->β}(A:AIB bk good n anc d val obj e0 w0 l e w B)(hd:∀i j,i<n->j<n->d i=d j->i=j)(hst:∀i k b B,i<n->k≠i->k∉anc i->val i (IF B k b)=val i B/\∀ob,obj i=some ob->ob (IF B k b)=ob B)(hi:i<n)(hu:¬l i)(hanc:∀j∈anc i,l j)(h:AQB bk good d val obj i e w B e' w'):∃B',AIB bk good n anc d val obj e0 w0 (fun j=>j=i\/l j) e' w' B':=by
 obtain⟨b,hgd,hob,hx,rfl⟩:=h;have hsz:=A.ext.size;have hni:∀j,l j->j≠i:=fun j hj h=>hu<|h ▸ hj;have hna:∀j,j<n->l j->i∉anc j:=fun j hj hl h=>hu<|A.cl j hj hl i h;refine⟨IF B i b,A.ds,fun s hs=>?_,fun j hj hl=>?_,A.ext.trans hx,fun j ob hj hl ho=>?_,fun j k hj hk hjk hlj hlk oj ok=>?_,fun j hj hl=>?_,fun j hj hl k hk=>?_⟩
 .rw[Dg<|hs i hi];exact A.old s hs
 .rcases hl with rfl|hl
  .exact Dj _ _ _
  .rw[Dg fun h=>hni j hl<|hd _ _ hj hi h,A.slot j hj hl,(hst j i b B hj (Ne.symm<|hni j hl)<|hna j hj hl).1]
 .rcases hl with rfl|hl
  .obtain⟨h1,h2⟩:=hob ob ho;rw[HM];exact⟨h2,by omega⟩
  .obtain⟨h1,h2⟩:=A.blk j ob hj hl ho;rw[Hf<|hni j hl,(hst j i b B hj (Ne.symm<|hni j hl)<|hna j hj hl).2 ob ho];exact⟨hx.to h1<|by simp,h2⟩
 .have hlt:∀m,m<n->l m->obj m≠none->∀ob,obj i=some ob->bk (B m)<bk b:=fun m hm hl om ob ho=>by
   cases hom:obj m with
   |none=>exact absurd hom om
   |some o2 =>
    have:=AX (A.blk m o2 hm hl hom).1;have:=(hob ob ho).1;omega
  rcases hlj with rfl|hlj
  .rcases hlk with rfl|hlk
   .exact absurd U hjk
   .rw[HM,Hf<|hni k hlk]
    cases hoj:obj j with
    |none=>exact absurd hoj oj
    |some o2=>have:=hlt k hk hlk ok o2 hoj;omega
  .rcases hlk with rfl|hlk
   .rw[HM,Hf<|hni j hlj]
    cases hok:obj k with
    |none=>exact absurd hok ok
    |some o2=>have:=hlt j hj hlj oj o2 hok;omega
   .rw[Hf<|hni j hlj,Hf<|hni k hlk];exact A.ne j k hj hk hjk hlj hlk oj ok
 .rcases hl with rfl|hl
  .rw[HM];exact hgd
  .rw[Hf<|hni j hl];exact A.good j hj hl
 .rcases hl with rfl|hl
  .exact .inr (hanc k hk)
  .exact .inr (A.cl j hj hl k hk)
theorem Oh[Inhabited β](bk:β->Nat)(good:Nat->β->Prop){anc:Nat->List Nat}(d:Nat->Tmp)(val:Nat->(Nat->β)->Value)(obj:Nat->Option ((Nat->β)->Obj))(hm:P.follows .mixedOrders=true)(hsz:arr.size=n+1)(hanc:NH arr anc (n+1)=true)(hlast:∀k,k<n->k∈anc n)(hd:∀i j,i<n->j<n->d i=d j->i=j)(hst:∀i k b B,i<n->k≠i->k∉anc i->val i (IF B k b)=val i B/\∀ob,obj i=some ob->ob (IF B k b)=ob B)(hop:∀i o e' w' B,i<n->arr[i]?=some o->(∀s,(∀j,j<n->s≠d j)->e'.g s=e.g s)->(∀j∈anc i,e'.g (d j)=val j B)->Ext [] w.drew w'->(∀j∈anc i,∀ob,obj j=some ob->w'.heap[bk<|B j]?=some (ob B))->(∀j∈anc i,good j<|B j)->A4 P r arr.toList (Qk<|AQB bk good d val obj i e' w' B) [o] e' w')(hfin:∀o e' w' B,arr[n]?=some o->AIB bk good n anc d val obj e w.drew (fun _=>True) e' w' B->A4 P r arr.toList (Qk fun e'' w''=>Q .normal e'' w'') [o] e' w'):W P r m (.region id arr true) Q e w:=by
 refine U6 (St:=fun l e' w'=>∃B,AIB bk good n anc d val obj e w.drew l e' w' B) hm hsz (Nat.le_succ n) hanc (fun i h1 h2 k hk=>?_) ⟨fun _=>default,rfl,fun _ _=>rfl,fun _ _ h=>h.elim,.refl _ _,fun _ _ _ h=>h.elim,fun _ _ _ _ _ h=>h.elim,fun _ _ h=>h.elim,fun _ _ h=>h.elim⟩ ?_ ?_
 .obtain rfl:i=n:=by omega
  exact hlast k hk
 .rintro l i o e' w' ho hi hu ha ⟨B,A⟩;exact CE (Jt fun e2 w2 hq=>A.step hd hst hi hu (fun j hj=>(ha j hj).2) hq) _ _ _<|hop i o e' w' B hi ho A.old (fun j hj=>A.slot j (ha j hj).1 (ha j hj).2) A.ext (fun j hj ob hob=>(A.blk j ob (ha j hj).1 (ha j hj).2 hob).1) fun j hj=>A.good j (ha j hj).1 (ha j hj).2
 .rintro l e' w' hl ⟨B,A⟩;have hlt:n<arr.size:=by omega
  rw[qdz<|by simpa using hlt,qeq (by rw[qdx];omega)];exact hfin _ e' w' B (by rw[qdo hlt];simp) ⟨A.ds,A.old,fun j hj _=>A.slot j hj<|hl j hj,A.ext,fun j ob hj _=>A.blk j ob hj<|hl j hj,fun j k hj hk hjk _ _=>A.ne j k hj hk hjk (hl j hj)<|hl k hk,fun j hj _=>A.good j hj<|hl j hj,fun _ _ _ _ _=>trivial⟩
abbrev Lo(B:Nat->Nat)(i b:Nat):Nat->Nat:=IF B i b
theorem Ku{B:Nat->Nat}(h:j≠i):Lo B i b j=B j:=Hf h
def AQ(d:Nat->Tmp)(val:Nat->(Nat->Nat)->Value)(obj:Nat->Option ((Nat->Nat)->Obj))(i:Nat)(e:Env)(w:World)(B:Nat->Nat)(e':Env)(w':World):Prop :=
 ∃b,(∀ob,obj i=some ob->w.heap.size<=b/\w'.heap[b]?=some (ob (Lo B i b)))/\Ext [] w w'/\e'=put e (some (d i)) (val i (Lo B i b))
theorem XI{anc:Nat->List Nat}(d:Nat->Tmp)(val:Nat->(Nat->Nat)->Value)(obj:Nat->Option ((Nat->Nat)->Obj))(hm:P.follows .mixedOrders=true)(hsz:arr.size=n+1)(hlast:∀k,k<n->k∈anc n)(hd:∀i j,i<n->j<n->d i=d j->i=j)(hst:∀i k b B,i<n->k≠i->k∉anc i->val i (Lo B k b)=val i B/\∀ob,obj i=some ob->ob (Lo B k b)=ob B)(hop:∀i o e' w' B,i<n->arr[i]?=some o->(∀s,(∀j,j<n->s≠d j)->e'.g s=e.g s)->(∀j∈anc i,e'.g (d j)=val j B)->Ext [] w.drew w'->(∀j∈anc i,∀ob,obj j=some ob->w'.heap[B j]?=some (ob B))->A4 P r arr.toList (Qk<|AQ d val obj i e' w' B) [o] e' w')(hfin:∀o e' w' B,arr[n]?=some o->AIB (fun x=>x) (fun _ _=>True) n anc d val obj e w.drew (fun _=>True) e' w' B->A4 P r arr.toList (Qk fun e'' w''=>Q .normal e'' w'') [o] e' w')(hanc:NH arr anc (n+1)=true:=by kernel_rfl):W P r m (.region id arr true) Q e w :=
 Oh (fun x=>x) (fun _ _=>True) d val obj hm hsz hanc hlast hd hst (fun i o e' w' B hi ho h1 h2 h3 h4 _=>CE (Jt fun _ _ ⟨b,h⟩=>⟨b,trivial,h⟩) _ _ _<|hop i o e' w' B hi ho h1 h2 h3 h4) hfin
end
section
variable {P:Program}{r:Option Nat}{ops rest:List Oper}{Q:Exit->Env->World->Prop}{e:Env}{w w0:World}{S:List Nat}{L:List (Nat × Obj)}{dst:Option Tmp}{ty:TypeId}{pos:String}{af:Array Edge}{g:Option (Nat × Bool)}
theorem QN(hu:C8 P t=some el)(hu2:C8 P t2=some el2)(hs:Cb P el=some s)(hby:DB P el=some by')(hz:Ca P el=some zl)(hzl:zl.length=s)(hpos:0<by')(hm:0<m)(hn:new.length=m*s)(hc:∀j v,new[j]?=some v->∃p,a2=some p/\w.cell? (p.add j)=some v)(hbound:(2*m+768)*by'<=281474976710656) :
  ∃cap full',(Builtin.append_ #[t,t2] ty #[.slice a 0 0,.slice a2 m c2]).run P w=.ok (.slice (some ⟨w.heap.size,0,none⟩) m cap) (w.drew.alloc<|Bl el full')/\OS (some ⟨w.heap.size,0,none⟩) m cap s full' new:=by
 have hfit':0<0+m:=by omega
 have hncap:=ME (0+m) 0 hfit';have hbig:Builtin.nextslicecap (0+m) 0*by'<=(2*(0+m)+768)*by':=qcs _ hncap
 rw[qa0]at hbig
 have hnm:m<=281474976710656:=by
  have h1:(2*m+768)*1<=(2*m+768)*by':=Nat.mul_le_mul_left _ hpos
  omega
 generalize hq:(Question.appendCap m 0 el).cut (w.tape w.drawn<|Question.appendCap m 0 el)=cap;have hcap:m<=cap:=by rw[<-hq];unfold Question.cut;exact Nat.le_add_right _ _
 obtain⟨zv,hzr,hzc⟩:=G5 (P:=P) hz w.drew;have hzs:zv.cells.size=s:=by rw[<-hzl,<-hzc];simp
 let full':=new++(Builtin.zeroCells zv.cells<|cap - m).toList
 refine⟨cap,full',?_,⟨(fun q hq=>by injection hq with hq;subst hq;rfl),(fun h=>by cases h),?_,hcap,?_⟩⟩
 .have hforced:(Question.appendCap m 0 el).forced=false:=rfl
  have hby2:∃i,P.info? el=some i/\i.bytes=by':=by
   unfold DB at hby
   cases hi:P.info? el with
   |none=>rw[hi]at hby;cases hby
   |some i=>rw[hi]at hby;simp at hby;exact⟨i,rfl,hby⟩
  obtain⟨i,hi,hib⟩:=hby2;have hti:∀w,(typeInfo el).run P w=.ok i w:=fun w=>by simp[typeInfo,program,Sem.run,hi]
  have hold':(Builtin.firstCells s 0 (.slice a 0 0)).run P w.drew=.ok #[] w.drew:=Ec (l:=[]) (by simp) (fun j v hv=>by simp at hv);have hfc':(Builtin.firstCells s m<|.slice a2 m c2).run P w.drew=.ok new.toArray w.drew:=Ec hn hc;have hroom:∀k w,(askRoom k).run P w=.ok () w:=fun k w=>by unfold askRoom;split <;> rfl
  have hby0:¬by'=0:=by omega
  have hm0:¬m=0:=by omega
  have hb3:¬281474976710656<Builtin.nextslicecap m 0*by':=by omega
  have hnn:(Builtin.append_ #[t,t2] ty #[.slice a 0 0,.slice a2 m c2]).run P w=.ok (.slice (some ⟨w.drew.heap.size,0,none⟩) m cap) (w.drew.alloc<|.cells (new.toArray++Builtin.zeroCells zv.cells (cap - m)) el):=by
   simp[Builtin.append_,Bg<|CS hu,Bg<|CS hu2,CL hs,Builtin.lenOf,hfc',hold',hm0,hti,hib,hb3,hby0,hforced,hq,hroom,hzr,newRow,newObj,Sem.run]
  rw[hnn]
  have harr:new.toArray++Builtin.zeroCells zv.cells (cap - m)=full'.toArray:=by
   apply qcg;simp[full']
  rw[harr];rfl
 .show(new++(Builtin.zeroCells zv.cells<|cap - m).toList).length=cap*s;rw[qat,hn,qdx,HG,hzs,<-qb2]
  congr 1
  omega
 .show(new++(Builtin.zeroCells zv.cells<|cap - m).toList).take (m*s)=new;rw[qc1 hn]
theorem Te(hg:AJ ⟨dst,.call ⟨.builtin .append,#[x,y],#[t,t2]⟩,ty,pos,af,g⟩ ops e=true)(hu:C8 P t=some el)(hu2:C8 P t2=some el2)(hs:Cb P el=some s)(hby:DB P el=some by')(hz:Ca P el=some zl)(hzl:zl.length=s)(new:List Value)(hx:ev e x=.slice a 0 0)(hy:ev e y=.slice a2 m c2)(hn:new.length=m*s)(hc:∀j v,new[j]?=some v->∃p,a2=some p/\w.cell? (p.add j)=some v)(h:∀b c' full' w',b=w.heap.size->Ext [] w w'->w'.heap[b]?=some (Bl el full')->OS (some ⟨b,0,none⟩) m c' s full' new->A4 P r ops Q rest (put e dst<|.slice (some ⟨b,0,none⟩) m c') w')(hpos:0<by':=by decide)(hm:0<m:=by omega)(hbound:(2*m+768)*by'<=281474976710656:=by omega):
  A4 P r ops Q (⟨dst,.call ⟨.builtin .append,#[x,y],#[t,t2]⟩,ty,pos,af,g⟩::rest) e w:=by
 obtain⟨c',full',hr,O'⟩:=QN (ty:=ty) hu hu2 hs hby hz hzl hpos hm hn hc hbound (c2:=c2) (a:=a);refine B8 (w':=w.drew.alloc<|Bl el full') (v := .slice (some ⟨w.heap.size,0,none⟩) m c') hg U (by simp[execOp,resolve,invoke,builtin,hx,hy,hr])<|h _ c' full' _ U ((Ext.drew [] w).trans<|Ext.alloc [] w.drew _) ?_ O';exact World.alloc_heap_new w.drew _
theorem QO(hg:AJ ⟨dst,.call ⟨.builtin .append,#[x,y],#[t,t2]⟩,ty,pos,af,g⟩ ops e=true)(hu:C8 P t=some el)(hu2:C8 P t2=some el2)(hs:Cb P el=some s)(hx:ev e x=.slice (some ⟨b,0,none⟩) 0 0)(hy:ev e y=.slice a2 0 c2)(h:A4 P r ops Q rest (put e dst<|.slice (some ⟨b,0,none⟩) 0 0) w) :
  A4 P r ops Q (⟨dst,.call ⟨.builtin .append,#[x,y],#[t,t2]⟩,ty,pos,af,g⟩::rest) e w:=by
 have hfc:(Builtin.firstCells s 0 (.slice a2 0 c2)).run P w=.ok #[] w:=Ec (l:=[]) (by simp) (fun j v hv=>by simp at hv);exact B8 hg U (by simp[execOp,resolve,invoke,builtin,hx,hy,Builtin.append_,Bg<|CS hu,Bg<|CS hu2,CL hs,Builtin.lenOf,hfc,storeCells]) h
end
def U7(P:Program)(gf:FuncId)(ca:Array Value)(Z:List Nat)(K:Mt->World->Prop){σ:Type}(z0:σ)(St:σ->List Value->σ->Prop)(En:σ->Prop)(S0:World->Prop):Prop :=
 ∀(l:Nat) (w:World),S0 w->∀(J:σ->Mt->World->Prop) (E:World->Prop),(∃M,J z0 M w)->(∀i M w' w'' T,J i M w'->(∀x∈T,¬M x/\w.heap.size<=x)->Ext T w' w''->J i M w'')->(∀w' w'',E w'->Ext Z w' w''->E w'')->(∀i M w',J i M w'->(∀x,M x->x<w'.heap.size)/\K M w') ->
  (∀i v i' M w',St i v i'->J i M w'->Js P l v w' fun u w''=>(u=.bool true/\∃M',J i' M' w''/\Grw M M' w' w'')\/(u=.bool false/\E w'')) ->
  Ret P gf (#[.func (.yield l) #[] #[]]++ca) w fun _ w'=>(∃i M,En i/\J i M w')\/E w'
section
variable {P:Program}{Q:Exit->Env->World->Prop}{e:Env}{w:World}{n:Nat}
theorem XJ{K:Mt->World->Prop}{z0:σ}{St:σ->List Value->σ->Prop}{En:σ->Prop}(hf:ev e f=.func (.func gf) #[] ca)(hc:An P gf=true)(hI:U7 P gf ca Z K z0 St En S0)(hfit:(Gs n assign && Gs n body)=true)(hps:(ps.toList.all fun p=>decide (p<n))=true)(hlen:∀i v i',St i v i'->v.length=ps.size)(J:σ->Mt->World->Prop)(E:World->Prop)(hZ:w.heap.size∉Z/\w.heap.size+1∉Z)(hS0:∀w2,Ext [] w w2->S0 w2)(hj0:∀w2,Ext [] w w2->w.heap.size+1<w2.heap.size->∃M,J z0 M w2)(hjs:∀i M w' w'' T,J i M w'->(∀x∈T,¬M x/\w.heap.size<=x)->Ext T w' w''->J i M w'')(hes:∀w' w'',E w'->Ext (w.heap.size::(w.heap.size+1)::Z) w' w''->E w'')(hk:∀i M w',J i M w'->(∀x,M x->x<w'.heap.size/\x≠w.heap.size/\x≠w.heap.size+1)/\K (fun x=>x=w.heap.size+1\/M x) w')(hb:∀i v i' M w',St i v i'->J i M w'->w.heap.size+1<w'.heap.size->W P (some<|w.heap.size+1) n assign (Mj P w.heap.size (w.heap.size+1) n body (J i') E M w') (Oe ⟨e.g,[]⟩<|ps.toList.zip v) w')(hend:∀i M w4,En i->J i M w4->w4.heap[w.heap.size]?=some (.deferred<|some [])->Q .normal ⟨e.g,{ target := .collected w.heap.size,args:=#[] }::e.ds⟩ w4)(hret:∀w4,E w4->w4.heap[w.heap.size]?=some (.deferred<|some [])->Q .ret ⟨e.g,{ target := .collected w.heap.size,args:=#[] }::e.ds⟩ w4):W P none n (.rangeFunc f ps assign body) Q e w :=
 QL (Fr:=fun M T=>∀x∈T,¬M x/\w.heap.size+1<x) hf hc (fun w2 hx hs J' E' h0 h1 h2 h3 h4=>hI (w.heap.size+1) w2 (hS0 w2 hx) J' E' h0 (fun i M w' w'' T h hT hx=>h1 i M w' w'' T h (fun x hm=>⟨(hT x hm).1,by have:=(hT x hm).2;omega⟩) hx) h2 h3 h4)
  (fun M T hT=>⟨fun h=>by have:=(hT _ h).2;omega,fun h=>(hT _ h).1<|.inl rfl⟩) hfit hps hlen J E hZ hj0 (fun i M w' w'' T h hT hx=>hjs i M w' w'' T h (fun x hm=>by
   rcases hT with hT|⟨rfl,hT⟩
   .exact⟨fun g=>(hT x hm).1<|.inr g,by have:=(hT x hm).2;omega⟩
   .rw[qab.1 hm];exact⟨hT,by omega⟩) hx) hes hk hb hend hret
end
theorem XK{l:List α}{x:α}(h:l[i]?=some x):l.set i x=l:=by
 apply qca;intro j;rw[qec]
 split
 .rename_i e;subst e
  rw[if_pos (qbh.1 h).1,h]
 .rfl
def kvE(e:MapEntry):Value × Value:=(e.key,e.val)
def kvP(kk:IntKind)(p:Int × Value):Value × Value:=(.int kk p.1,p.2)
def kvD:Value × Value->Int × Value
 |(.int _ n,v)=>(n,v)
 |(_,v)=>(0,v)
theorem U8(kk:IntKind)(m:List<|Int × Value):(m.map<|kvP kk).map kvD=m:=by
 rw[qcb];exact List.map_id'' (fun _=>rfl) m
def VisO(kk:IntKind)(b:Nat)(m vis:List (Int × Value))(o it:Obj):Prop :=
 ∃(es:Array MapEntry) (clock:Nat) (ves rest:List MapEntry),o=.map es clock/\es.toList.map kvE=m.map (kvP kk)/\(∀e∈es.toList,e.born<clock)/\(es.toList.map (·.born)).Nodup /\
  it=.mapIter (some b) clock (ves.map (·.born)).toArray clock/\(ves++rest).Perm es.toList/\ves.map kvE=vis.map (kvP kk)
theorem VisO.perm{m vis:List (Int × Value)}{o:Obj}(h:VisO kk b m vis o it):∃res,(vis++res).Perm m:=by
 obtain⟨es,clock,ves,rest,_,hes,_,_,_,hp,hv⟩:=h;have h1:=(hp.map kvE).map kvD;rw[qau,qau,hv,U8,hes,U8]at h1;exact⟨_,h1⟩
theorem VisO.le{m vis:List (Int × Value)}{o:Obj}(h:VisO kk b m vis o it):vis.length<=m.length:=by
 obtain⟨res,h⟩:=h.perm;have:=h.length_eq;rw[qat]at this;omega
theorem VisO.mem{m vis:List (Int × Value)}{o:Obj}(h:VisO kk b m vis o it):∀p∈vis,p∈m:=fun p hp=>by
 obtain⟨res,h⟩:=h.perm;exact h.mem_iff.1<|qax _ hp
section
variable {P:Program}{r:Option Nat}{ops rest:List Oper}{Q:Exit->Env->World->Prop}{e:Env}{w w0:World}{S:List Nat}{L:List (Nat × Obj)}{dst dst2:Option Tmp}{ty ty2:TypeId}{pos pos2:String}{af af2:Array Edge}{g g2:Option (Nat × Bool)}
theorem QP{o:Obj}{m:List (Int × Value)}(hg:AJ ⟨dst,.range t x,ty,pos,af,g⟩ ops e=true)(ht:Kq P t=some (k,el))(hx:ev e x=.map (some b))(H:Ctx w0 S w L)(hm:w.heap[b]?=some o)(hM:CQ kk m o)(h:∀bi it w',VisO kk b m [] o it->Ctx w0 S w' ((bi,it)::L)->A4 P r ops Q rest (put e dst<|.pointer<|some ⟨bi,0,none⟩) w') :
  A4 P r ops Q (⟨dst,.range t x,ty,pos,af,g⟩::rest) e w:=by
 obtain⟨es,clock,rfl,hes,hb,hn⟩:=hM;have hgo:(getObj b).run P w=.ok (.map es clock) w:=by simp[getObj,Sem.run,hm]
 refine B8 (w':=w.alloc<|.mapIter (some b) clock #[] clock) (v := .pointer (some ⟨w.heap.size,0,none⟩)) hg U ?_<|h _ _ _ ⟨es,clock,[],es.toList,rfl,hes,hb,hn,rfl,List.Perm.refl _,rfl⟩<|H.alloc _;simp[execOp,Instr.range,Bg<|G7 ht,hx,hgo,newObj,Sem.run]
theorem XL{rest:List MapEntry}{x:MapEntry}(hp:(ves++rest).Perm es)(hx:x∈es)(hn:x∉ves):∃res,((ves++[x])++res).Perm es:=by
 have h1:x∈rest:=(qa2.1<|hp.mem_iff.2 hx).resolve_left hn;obtain⟨l1,l2,rfl⟩:=List.append_of_mem h1;refine⟨l1++l2,List.Perm.trans ?_ hp⟩;rw[qaz];exact qc6 ves<|show(x::(l1++l2)).Perm (l1++x::l2)from qbl.symm
theorem VL{o:Obj}{m vis:List (Int × Value)}(ty:TypeId)(H:Ctx w0 S w L)(hm:w.heap[b]?=some o)(hi:L[i]?=some (bi,it))(hV:VisO kk b m vis o it) :
  ∃vs more it' w',(Instr.next (.pointer<|some ⟨bi,0,none⟩) false ty).run P w=.ok (.tuple vs) w'/\vs[0]?=some (.bool more)/\((more=false/\vis.Perm m/\it'=it)\/(more=true/\∃p,VisO kk b m (vis++[p]) o it'))/\Ctx w0 S w' (L.set i (bi,it')):=by
 obtain⟨es,clock,ves,rest,rfl,hes,hb,hn,rfl,hp,hv⟩:=hV
 rcases run_next_at (P:=P) w ty bi b clock clock (ves.map (·.born)).toArray es clock (H.get hi) (hm) hb (qaq _)with⟨h0,hr⟩|⟨x,hx,w1,hw1,hr⟩
 .have hall:=all_seen es _ h0
  have hrest:rest=[]:=by
   cases rest with
   |nil=>rfl
   |cons x rest =>
    exfalso;have hx:=hall x<|hp.mem_iff.1<|qap _<|qah ..;have h2:=(hp.map (·.born)).nodup_iff.2 hn;rw[qau,qdy]at h2
    have hx2:x.born∈ves.map (·.born):=by
     rw[List.contains_toArray]at hx;exact qdw.1 hx
    exact h2.2.2 _ hx2 _ (qa6<|qah ..) U
  subst hrest;rw[qar]at hp;have h1:=(hp.map kvE).map kvD;rw[hv,U8,hes,U8]at h1;refine⟨_,false,_,w,hr,rfl,.inl ⟨rfl,h1,rfl⟩,?_⟩;rw[XK hi];exact H
 .obtain⟨hxe,hxs⟩:=mem_left hx
  have hxv:x∉ves:=fun h=>by
   rw[List.contains_toArray]at hxs
   have:(ves.map (·.born)).contains x.born=true:=qdw.2<|qa6 h
   rw[this]at hxs;cases hxs
  obtain⟨res,hp2⟩:=XL hp hxe hxv
  have hk:∃p∈m,kvP kk p=kvE x:=by
   have h1:kvE x∈es.toList.map kvE:=qa6 hxe;rw[hes]at h1;exact qak.1 h1
  obtain⟨p,-,hpx⟩:=hk
  have H1:Ctx w0 S w1 L:=by rcases hw1 with rfl|rfl;exact H;exact H.drew
  refine⟨_,true,_,_,hr,rfl,.inr ⟨rfl,p,es,clock,ves++[x],res,rfl,hes,hb,hn,rfl,hp2,by rw[qau,qau,hv];simp[hpx]⟩,?_⟩;have h3:((ves.map (·.born)).toArray.push x.born)=((ves++[x]).map (·.born)).toArray:=by simp
  rw[<-h3];exact H1.setB hi _
theorem U9{o:Obj}{m vis:List (Int × Value)}(hg:AJ ⟨some d,.next x false,ty,pos,af,g⟩ ops e=true)(hg2:∀v,AJ ⟨dst2,.extract (.tmp d) 0,ty2,pos2,af2,g2⟩ ops (put e (some d) v)=true)(hx:ev e x=.pointer (some ⟨bi,0,none⟩))(H:Ctx w0 S w L)(hm:w.heap[b]?=some o)(hi:L[i]?=some (bi,it))(hV:VisO kk b m vis o it)(h:∀vs more it' w',((more=false/\vis.Perm m/\it'=it)\/(more=true/\∃p,VisO kk b m (vis++[p]) o it'))->Ctx w0 S w' (L.set i (bi,it'))->A4 P r ops Q rest (put (put e (some d)<|.tuple vs) dst2<|.bool more) w') :
  A4 P r ops Q (⟨some d,.next x false,ty,pos,af,g⟩::⟨dst2,.extract (.tmp d) 0,ty2,pos2,af2,g2⟩::rest) e w:=by
 obtain⟨vs,more,it',w',hr,hv,hc,H'⟩:=VL (P:=P) ty H hm hi hV;refine B8 (w':=w') (v := .tuple vs) hg U (by simp[execOp,hx,hr]) ?_;exact BV (hg:=hg2 _) (by simp[ev,put]) hv<|h vs more it' w' hc H'
theorem QQ{o:Obj}{m vis:List (Int × Value)}{p:Int × Value}(hg:AJ ⟨dst,.entry x,ty,pos,af,g⟩ ops e=true)(hx:ev e x=.pointer (some ⟨bi,0,none⟩))(H:Ctx w0 S w L)(hm:w.heap[b]?=some o)(hi:L[i]?=some (bi,it))(hV:VisO kk b m (vis++[p]) o it)(h:A4 P r ops Q rest (put e dst<|.tuple #[.int kk p.1,p.2]) w):A4 P r ops Q (⟨dst,.entry x,ty,pos,af,g⟩::rest) e w:=by
 obtain⟨es,clock,ves,rest,rfl,hes,hb,hn,rfl,hp,hv⟩:=hV;rw[qau]at hv;obtain⟨v1,v2,rfl,h1,h2⟩:=List.map_eq_append_iff.1 hv;obtain⟨y,v3,rfl,hy,h3⟩:=List.map_eq_cons_iff.1 h2;cases List.map_eq_nil_iff.1 h3;have he:y∈es.toList:=hp.mem_iff.1<|qax _<|qap _<|qah ..;have hpush:(((v1++[y]).map (·.born)).toArray)=(v1.map (·.born)).toArray.push y.born:=by simp
 have hi2:=H.get hi;rw[hpush]at hi2;have hr:=run_entry_at (P:=P) w bi b clock _ es clock y hi2 (hm) he hn;have hy2:y.key=.int kk p.1/\y.val=p.2:=by unfold kvE kvP at hy;exact⟨(Prod.mk.inj hy).1,(Prod.mk.inj hy).2⟩
 rw[hy2.1,hy2.2]at hr;exact B8 hg U (by simp[execOp,hx,hr]) h
theorem VM{o:Obj}{m vis:List (Int × Value)}{n:Int}(hg:AJ ⟨dst,.entry x,ty,pos,af,g⟩ ops e=true)(hx:ev e x=.pointer (some ⟨bi,0,none⟩))(H:Ctx w0 S w L)(hm:w.heap[b]?=some o)(hi:L[i]?=some (bi,it))(hV:VisO kk b m (vis++[(n,v)]) o it)(h:A4 P r ops Q rest (put e dst<|.tuple #[.int kk n,v]) w):A4 P r ops Q (⟨dst,.entry x,ty,pos,af,g⟩::rest) e w:=QQ hg hx H hm hi hV h
theorem Oi{α:Type}{k:Int}:∀{m:List (Int × α)},DR m k=none->JR m k=m
 | [],_=>rfl
 |p::m,h=>by
  have hp:¬p.1=k:=fun hp=>by simp[DR,hp]at h
  have hb2:(p.1 == k)=false:=by simpa using hp
  have hm2:DR m k=none:=by rw[<-h];simp[DR,hb2]
  simp[JR,hp,Oi hm2]
theorem Tf{o:Obj}{m:List (Int × Value)}{n:Int}(ht:Kq P t=some (k,el))(hk:P.underlying k=some (.int kk))(H:Ctx w0 S w L)(hl:L[j]?=some (b,o))(hM:CQ kk m o) :
  ∃o' w',(Builtin.delete_ #[t,t2] ty #[.map<|some b,.int kk n]).run P w=.ok (.tuple #[]) w'/\CQ kk (JR m n) o'/\Ctx w0 S w' (L.set j (b,o')):=by
 obtain⟨es,clock,rfl,hes,hbn,hnd⟩:=hM;have hb:=H.get hl;have hf:=FK kk n es.toList m 0 hes;have hgo:(getObj b).run P w=.ok (.map es clock) w:=by simp[getObj,Sem.run,hb]
 have hso:∀o',(setObj b o').run P w=.ok () (w.putObj b o'):=fun o'=>by simp[setObj,Sem.run,hb,World.putObj]
 cases hm:DR m n with
 |none =>
  refine⟨.map es clock,w.putObj b _,?_,⟨_,_,rfl,by rw[Oi hm];exact hes,hbn,hnd⟩,H.setB hl _⟩;simp[Builtin.delete_,Bg<|G7 ht,hgo,D4 hk,Instr.findKey,Bg hk,hf.1 hm,hso]
 |some v0 =>
  obtain⟨i,hi,hil,h3⟩:=hf.2 v0 hm;obtain⟨_,_,a3⟩:=h3 v0
  have htl:(es.eraseIdxIfInBounds i).toList=es.toList.eraseIdx i:=by
   rw[Array.eraseIdxIfInBounds,dif_pos<|by simpa using hil];simp
  refine⟨.map (es.eraseIdxIfInBounds i) clock,w.putObj b _,?_,⟨_,_,rfl,by rw[htl];exact a3,?_,?_⟩,H.setB hl _⟩
  .simp[Builtin.delete_,Bg<|G7 ht,hgo,D4 hk,Instr.findKey,Bg hk,hi,hso]
  .intro x hx;rw[htl]at hx;exact hbn x<|qeo hx
  .rw[htl];exact List.Sublist.nodup (List.Sublist.map _<|List.eraseIdx_sublist ..) hnd
theorem Lp{o:Obj}{m:List (Int × Value)}{n:Int}(hg:AJ ⟨dst,.call ⟨.builtin .delete,#[x,y],#[t,t2]⟩,ty,pos,af,g⟩ ops e=true)(ht:Kq P t=some (k,el))(hk:P.underlying k=some (.int kk))(hx:ev e x=.map (some b))(hy:ev e y=.int kk n)(H:Ctx w0 S w L)(hl:L[j]?=some (b,o))(hM:CQ kk m o)(h:∀o' w',CQ kk (JR m n) o'->Ctx w0 S w' (L.set j (b,o'))->A4 P r ops Q rest (put e dst<|.tuple #[]) w'):A4 P r ops Q (⟨dst,.call ⟨.builtin .delete,#[x,y],#[t,t2]⟩,ty,pos,af,g⟩::rest) e w:=by
 obtain⟨o',w',hr,hM',H'⟩:=Tf (ty:=ty) (t2:=t2) (n:=n) ht hk H hl hM;exact B8 (w':=w') (v := .tuple #[]) hg U (by simp[execOp,resolve,invoke,builtin,hx,hy,hr])<|h o' w' hM' H'
def EntO(kk:IntKind)(n st:Int)(m:List (Int × Value))(o:Obj):Prop :=
 ∃(es:Array MapEntry) (clock:Nat) (z:Value),o=.map (es.push { key := .int kk n,val:=z,born:=clock }) (clock+1)/\st=(clock:Nat)/\es.toList.map (fun e=>(e.key,e.val))=m.map (fun p=>(Value.int kk p.1,p.2))/\(∀e∈es.toList,e.born<clock)/\(es.toList.map (·.born)).Nodup
theorem QR{o:Obj}{m:List (Int × Value)}{n:Int}(hg:AJ ⟨dst,.mapEntry t x y,ty,pos,af,g⟩ ops e=true)(ht:Kq P t=some (k,el))(hk:P.underlying k=some (.int kk))(hz:(P.info? el).bind (·.zero)=some z)(hx:ev e x=.map (some b))(hy:ev e y=.int kk n)(H:Ctx w0 S w L)(hl:L[j]?=some (b,o))(hM:CQ kk m o)(hm:DR m n=none)(h:∀st o' w',EntO kk n st m o'->Ctx w0 S w' (L.set j (b,o'))->A4 P r ops Q rest (put e dst<|.tuple #[z,.int .i64 st]) w'):A4 P r ops Q (⟨dst,.mapEntry t x y,ty,pos,af,g⟩::rest) e w:=by
 obtain⟨es,clock,rfl,hes,hbn,hnd⟩:=hM;have hb:=H.get hl;have hf:=FK kk n es.toList m 0 hes;have hgo:(getObj b).run P w=.ok (.map es clock) w:=by simp[getObj,Sem.run,hb]
 have hso:∀o',(setObj b o').run P w=.ok () (w.putObj b o'):=fun o'=>by simp[setObj,Sem.run,hb,World.putObj]
 have hzr:(zeroValue el).run P w=.ok z w:=by
  cases hi:P.info? el with
  |none=>rw[hi]at hz;cases hz
  |some i=>rw[hi]at hz;simp at hz;simp[zeroValue,typeInfo,program,Sem.run,hi,hz]
 refine B8 (w':=w.putObj b _) (v := .tuple #[z,.int .i64 (clock:Nat)]) hg U ?_<|h _ _ _ ⟨es,clock,z,rfl,rfl,hes,hbn,hnd⟩<|H.setB hl _;simp[execOp,Instr.mapEntry,Bg<|G7 ht,hx,hy,hgo,D4 hk,Instr.findKey,Bg hk,hf.1 hm,hzr,hso,goInt]
theorem NI{z:Operand}{o:Obj}{m:List (Int × Value)}{n st:Int}(v:Value)(hg:AJ ⟨dst,.entryStore t x y z,ty,pos,af,g⟩ ops e=true)(hx:ev e x=.map (some b))(hy:ev e y=.int .i64 st)(hz:ev e z=v)(H:Ctx w0 S w L)(hl:L[j]?=some (b,o))(hE:EntO kk n st m o)(h:∀o' w',CQ kk (m++[(n,v)]) o'->Ctx w0 S w' (L.set j (b,o'))->A4 P r ops Q rest (put e dst undef) w'):A4 P r ops Q (⟨dst,.entryStore t x y z,ty,pos,af,g⟩::rest) e w:=by
 obtain⟨es,clock,z0,rfl,rfl,hes,hbn,hnd⟩:=hE;have hb:=H.get hl;have hgo:(getObj b).run P w=.ok (.map (es.push { key := .int kk n,val:=z0,born:=clock })<|clock+1) w:=by simp[getObj,Sem.run,hb]
 have hso:∀o',(setObj b o').run P w=.ok () (w.putObj b o'):=fun o'=>by simp[setObj,Sem.run,hb,World.putObj]
 have hno:es.findIdx? (fun e=>((e.born:Nat):Int) == ((clock:Nat):Int))=none:=by
  rw[Array.findIdx?_eq_none_iff];intro x hx;have:=hbn x<|qdv.2 hx;simp only[beq_eq_false_iff_ne,ne_eq];omega
 have hfi:(es.push { key := .int kk n,val:=z0,born:=clock }).findIdx? (fun e=>((e.born:Nat):Int) == ((clock:Nat):Int))=some es.size:=by
  rw[Array.findIdx?_push,hno];simp
 refine Mg (w':=w.putObj b<|.map (es.push { key := .int kk n,val:=v,born:=clock })<|clock+1) hg U ?_<|h _ _ ⟨_,_,rfl,?_,?_,?_⟩<|H.setB hl _
 .have hmod:(es.push { key := .int kk n,val:=z0,born:=clock }).modify es.size (fun e=>{ e with val:=v })=es.push { key := .int kk n,val:=v,born:=clock }:=by
   apply qcg;rw[qeg,qdn,qdn]
   have:es.size=es.toList.length:=by simp
   rw[this];generalize es.toList=l
   induction l with
   |nil=>rfl
   |cons x l ih=>simp only[qbd,qcu,List.modify_succ_cons,ih]
  simp[execOp,Instr.entryStore,hx,hy,hz,hgo,asInt,asIntOf,hfi,hso,hmod]
 .simp[hes]
 .intro x hx;simp only[qdn,qa2,qab]at hx
  rcases hx with hx|rfl
  .have:=hbn x hx;omega
  .simp
 .simp only[qdn,qau,qas,qbv];rw[qdy];refine⟨hnd,by simp,?_⟩;intro x hx y hy;simp only[qab]at hy;subst hy;rw[qak]at hx;obtain⟨e',he',rfl⟩:=hx;have:=hbn e' he';omega
end
section
variable {P:Program}{r:Option Nat}{ops rest:List Oper}{Q:Exit->Env->World->Prop}{e:Env}{w w0:World}{S:List Nat}{L:List (Nat × Obj)}{dst:Option Tmp}{ty:TypeId}{pos:String}{af:Array Edge}{g:Option (Nat × Bool)}
theorem QS(hg:AJ ⟨dst,.call ⟨.builtin .append,#[x,y],#[t,t2]⟩,ty,pos,af,g⟩ ops e=true)(hu:C8 P t=some el)(hu2:C8 P t2=some el2)(hs:Cb P el=some s)(hby:DB P el=some by')(hz:Ca P el=some zl)(hzl:zl.length=s){c:Nat}(hx:ev e x=.slice a n c)(hy:ev e y=.slice (some ⟨b2,0,none⟩) m c2)(H:Ctx w0 S w ((b2,Bl t3 new)::(L++ent a el full)))(O:OS a n c s full l)(hn:new.length=m*s)(h1:∀v∈new,AF v=true)(h:∀a' c' full' w',Ctx w0 S w' (L++ent a' el full')->OS a' (n+m) c' s full' (l++new)->(∀v∈full',v∈full\/v∈new\/v∈zl)->A4 P r ops Q rest (put e dst<|.slice a' (n+m) c') w')(hpos:0<by':=by decide)(hbound:(2*(n+m)+768)*by'<=281474976710656:=by omega):
  A4 P r ops Q (⟨dst,.call ⟨.builtin .append,#[x,y],#[t,t2]⟩,ty,pos,af,g⟩::rest) e w:=by
 obtain⟨a',c',full',w',hr,H',O',Z'⟩:=LJ (ty:=ty) hu hu2 hs hby hz hzl hpos H.tail O hn h1 (fun j v hv=>⟨_,rfl,by rw[add_none,qa0,Ai<|H.get at0];exact hv⟩) hbound (c2:=c2);exact B8 hg U (by simp[execOp,resolve,invoke,builtin,hx,hy,hr])<|h a' c' full' w' H' O' Z'
end
def Th:TypeDesc->Bool
 | .struct _=>false
 | .array _ _=>false
 |_=>true
def P9(P:Program):List Field->Nat->List Bool->Bool
 | [],_,[]=>true
 |f::fs,i,k::ks=>(f.name != "_" && (f.offset == i && (match P.underlying f.type,k with|some (.int _),true=>true|some .bool,false=>true|_,_=>false))) && P9 P fs (i+1) ks
 |_,_,_=>false
def likeV:Bool->Value->Value->Prop
 |true,.int k _,.int k' _=>k=k'
 |false,.bool _,.bool _=>True
 |_,_,_=>False
def QT:List Bool->List Value->List Value->Prop
 | [],[],[]=>True
 |k::ks,x::xs,y::ys=>likeV k x y/\QT ks xs ys
 |_,_,_=>False
section
variable {P:Program}
theorem Oj{u:TypeDesc}{cs:Array Value}(w:World)(hu:P.underlying t=some u)(hs:Th u=true)(hc:cs[i]?=some v):(part t cs i).run P w=.ok v w:=by
 cases u <;> simp_all[part,isAgg,Bg hu,Th]
theorem Kv(d:Nat)(X Y:Array Value)(w:World):∀(fs:List Field) (i:Nat) (ks:List Bool) (xs ys:List Value),P9 P fs i ks=true->QT ks xs ys->(∀j v,xs[j]?=some v->X[i+j]?=some v)->(∀j v,ys[j]?=some v->Y[i+j]?=some v) ->
  ∃r:Bool,(Op.eqFields (d+1) X Y fs).run P w=.ok r w/\(r=true↔xs=ys)
 | [],i,ks,xs,ys,hF,hL,_,_=>by
  cases ks with
  |cons k ks=>cases hF
  |nil =>
   cases xs with
   |cons x xs=>cases hL
   |nil =>
    cases ys with
    |cons y ys=>cases hL
    |nil=>exact⟨true,by simp[Op.eqFields],by simp⟩
 |f::fs,i,ks,xs,ys,hF,hL,hX,hY=>by
  cases ks with
  |nil=>cases hF
  |cons k ks =>
   cases xs with
   |nil=>cases hL
   |cons x xs =>
    cases ys with
    |nil=>cases hL
    |cons y ys =>
     obtain⟨hv,hL⟩:=hL;simp only[P9,qag,bne_iff_ne,ne_eq,beq_iff_eq]at hF;obtain⟨⟨hn,ho,hu⟩,hF⟩:=hF;obtain⟨r,hr,hri⟩:=Kv d X Y w fs (i+1) ks xs ys hF hL (fun j v hj=>by rw[qcz,qdi 1];exact hX (j+1) v hj) (fun j v hj=>by rw[qcz,qdi 1];exact hY (j+1) v hj);have hx0:=hX 0 x rfl;have hy0:=hY 0 y rfl;rw[Nat.add_zero,<-ho]at hx0 hy0
     obtain⟨q,hq,hqi⟩:∃q:Bool,(∀w,(Op.equalIn (d+1) f.type x y).run P w=.ok q w)/\(q=true↔x=y):=by
      split at hu
      .rename_i k' hk
       cases x <;> cases y <;> (try exact hv.elim)
       rename_i k1 a k2 b
       obtain rfl:k1=k2:=hv;exact⟨a == b,fun w=>run_equalIn_int w d f.type _ _ a b hk,by simp⟩
      .rename_i hk
       cases x <;> cases y <;> (try exact hv.elim)
       rename_i a b
       exact⟨a == b,fun w=>run_equalIn_bool w d f.type a b hk,by simp⟩
      .cases hu
     have hu2:∃u,P.underlying f.type=some u/\Th u=true:=by
      split at hu
      .rename_i h1;exact⟨_,h1,rfl⟩
      .rename_i h1;exact⟨_,h1,rfl⟩
      .cases hu
     obtain⟨u,hu3,hu4⟩:=hu2;have hp1:=Oj w hu3 hu4 hx0;have hp2:=Oj w hu3 hu4 hy0
     cases q with
     |false =>
      refine⟨false,?_,?_⟩
      .simp[Op.eqFields,hn,hp1,hp2,hq]
      .have:¬x=y:=fun h=>by have:=hqi.2 h;cases this
       simp[this]
     |true =>
      refine⟨r,?_,?_⟩
      .simp[Op.eqFields,hn,hp1,hp2,hq,hr]
      .have:x=y:=hqi.1 rfl
       simp[this,hri]
def MS(P:Program)(t:TypeId)(ks:List Bool):Bool :=
 (match P.underlying t with|some (.struct _)=>true|_=>false) && (!P.stoodInHeld t && (!P.eqGuardType P.depth t && P9 P (P.fieldsOf t).toList 0 ks))
theorem Ti{xs:List Value}(w:World)(h:MS P t ks=true)(hL:QT ks xs ys):∃r:Bool,(Op.equalIn 10000 t (.agg xs.toArray) (.agg ys.toArray)).run P w=.ok r w/\(r=true↔xs=ys):=by
 unfold MS at h;simp only[qag,qcf]at h;obtain⟨h1,h2,h3,h4⟩:=h
 have ht:P.underlying t=some (.struct<|P.fieldsOf t):=by
  unfold Program.fieldsOf
  split at h1
  .rename_i h5;rw[h5]
  .cases h1
 obtain⟨r,hr,hri⟩:=Kv (P:=P) 9998 xs.toArray ys.toArray w _ 0 ks xs ys h4 hL (fun j v hv=>by rw[qa0];simpa using hv) (fun j v hv=>by rw[qa0];simpa using hv);exact⟨r,by rw[run_equalIn_struct w 9999 t _ _ ht h2];exact hr,hri⟩
end
section
variable {P:Program}{r:Option Nat}{ops rest:List Oper}{Q:Exit->Env->World->Prop}{e:Env}{w:World}{C:World->Prop}{K:Env->Prop}{dst:Option Tmp}{ty:TypeId}{pos:String}{af:Array Edge}{g:Option (Nat × Bool)}{t t2:TypeId}{x y:Operand}
theorem Ab8{xs:List Value}{b:Bool}(h:MS P t ks=true)(hx:ev e x=.agg xs.toArray)(hy:ev e y=.agg ys.toArray)(hL:QT ks xs ys)(hb:b=true↔xs=ys)(w:World) :
  (execOp (ev e) ⟨dst,.binOp .neq t x y t2,ty,pos,af,g⟩).run P w=.ok (.value<|.bool<|!b) w:=by
 obtain⟨r,hr,hri⟩:=Ti w h hL;have hrb:r=b:=by rw[qac,hri,hb]
 have hg:(eqGuard .neq t x y (.agg xs.toArray)<|.agg ys.toArray).run P w=.ok () w:=run_eqGuard_agg w .neq t x y _ _ (by
  unfold MS at h;simp only[qag,qcf]at h;exact h.2.2.1)
 subst hrb;simp[execOp,hx,hy,hg,run_neq_struct,hr]
theorem UA{xs:List Value}(b:Bool)(hg:AJ ⟨dst,.binOp .neq t x y t2,ty,pos,af,g⟩ ops e=true)(hx:ev e x=.agg xs.toArray)(hy:ev e y=.agg ys.toArray)(hL:QT ks xs ys)(hb:b=true↔xs=ys)(hk:Wq P ops C K rest<|put e dst<|.bool<|!b)(h:MS P t ks=true:=by kernel_rfl):Wq P ops C K (⟨dst,.binOp .neq t x y t2,ty,pos,af,g⟩::rest) e:=DI hg (fun w _=>Ab8 h hx hy hL hb w) hk
end
section
variable {α:Type}{w w':World}{a:Option Addr}{s:Nat}{enc:α->List Value}{xs:List α}{S:List Nat}
theorem Rd.ext'(h:Rd w a s enc xs)(he:Ext S w w')(hn:xs≠[]->(adr a).block∉S):Rd w' a s enc xs :=
 ⟨h.some',fun i x hx j v hv hj=>he.cell (h.cell i x hx j v hv hj)<|hn (by rintro rfl;simp at hx)⟩
theorem Rd.lt'(h:Rd w a s enc xs)(hs:∀x∈xs,(enc x).length=s)(h0:0<s)(hne:xs≠[]):(adr a).block<w.heap.size:=by
 cases xs with
 |nil=>exact absurd rfl hne
 |cons x xs =>
  obtain⟨v,hv⟩:=Au (l:=enc x) (i:=0) (h:=by rw[hs x<|qah ..];exact h0);exact World.block_lt_of_cell? w ⟨(adr a).block,(adr a).off+0*s+0,none⟩<|h.cell 0 x U 0 v hv h0
end
structure Sl(w w':World)(v:Value)(s:Nat){α:Type}(enc:α->List Value)(xs:List α):Prop where
 ex:∃a c,v=.slice a xs.length c/\xs.length<=c/\Rd w' a s enc xs/\(xs≠[]->w.heap.size<=(adr a).block)
open Go Go.ChangeShapes Go.WideShapes Go.RowKit
theorem Ext.below(h:Ext [] w w'):Below w.heap.size w w':=⟨h.os,h.tape,h.output,h.size,fun k hk=>h.block k hk<|by simp⟩
section
variable {H:Type}{enc:TypeId × Value->H}{P:Program}{w:World}{base:Nat}{spare:Nat->Bool}{held:Bool}
theorem IZ:∀{ts:List TypeId} {vs:List Value} {ds:List (DataW H)} {ps:List MemPlace},DataW.TrodAll enc P w base spare held ts vs ds ps->ds.length=ts.length
 | [],vs,ds,ps,h=>by obtain⟨_,rfl,_⟩:=trodAll_nil h;rfl
 |t::ts,vs,ds,ps,h=>by
  obtain⟨v,vs',d,ds',p,q,rfl,rfl,rfl,_,hr⟩:=trodAll_cons h;simp[IZ hr]
theorem JE{W W':World}{sp':Nat->Bool}(hl:laidOutB P=true)(hsp:∀b,b<W.heap.size->sp' b=true)(hb:Below W.heap.size W W') :
  ∀{ts:List TypeId} {vs:List Value} {ds:List (DataW H)} {ps:List MemPlace},(∀t∈ts,P.readableRec t=true/\t<P.types.size)->(∀x∈ps,x.block<W.heap.size) ->
   DataW.TrodAll enc P W 0 (fun _=>true) true ts vs ds ps->DataW.TrodAll enc P W' 0 sp' true ts vs ds ps
 | [],vs,ds,ps,_,_,h=>by obtain⟨rfl,rfl,rfl⟩:=trodAll_nil h;rfl
 |t::ts,vs,ds,ps,hr,hp,h=>by
  obtain⟨v,vs',d,ds',p,q,rfl,rfl,rfl,h0,h1⟩:=trodAll_cons h;refine⟨p,q,WideElems.Trod_stays hl (hr t<|by simp).1 (hr t<|by simp).2 h0 (fun x hx=>hb.same<|hp x<|by simp[hx]) fun x hx=>hsp _<|hp x<|by simp[hx],?_,rfl⟩;exact JE hl hsp hb (fun t ht=>hr t<|by simp[ht]) (fun x hx=>hp x<|by simp[hx]) h1
theorem XM{f:Func}{s:ChangeSpec}{W:World}{ds gs:List (DataW H)}(hl:laidOutB P=true)(hv:s.vars=[])(hres:f.resultTypes=#[tb])(htb:P.underlying tb=some .bool)(hs:∀ds:List<|DataW H,ds.length=f.params.size->s.fn H ds={ results:=[.lit<|.bool true],args:=ds })(hW:DataW.Whole enc P f.params.toList s.vars false W args.toList ds gs before)(hx:Ext [] W W')(hr:(f.params.toList.all fun t=>P.readableRec t && decide (t<P.types.size))=true:=by kernel_rfl):s.post enc P f false true false false W args (.bool true) W':=by
 have hW':=hW;obtain⟨p,q,hA,hV,rfl,_,_⟩:=hW;rw[hv]at hV;obtain⟨rfl,rfl⟩:=trodVars_none hV;have hlen:ds.length=f.params.size:=by rw[IZ hA];simp
 refine⟨ds,[],p++[],[],p,[],hW',?_,?_,?_,hx.below.frame _,fun h=>by cases h⟩
 .rw[qar,hs ds hlen,hres];exact trodAll_mk1 ⟨1,by simp[DataW.trod,Value.cells,htb]⟩
 .rw[qar,hs ds hlen];refine JE hl (fun b hb=>by simpa using hb) hx.below (fun t ht=>?_) (fun x hxp=>?_) hA
  .have:=qaw.1 hr t ht
   simpa using this
  .exact hW'.lt x (by simp[hxp])
 .rw[hv,qar,hs ds hlen];rfl
theorem Ol{k:IntKind}{n:Int}(h:(Lit.int k n).wf=true):k.min<=n/\n<=k.max:=by
 simpa[Lit.wf]using h
theorem MT{x:DataW H × List MemPlace}(ht:P.underlying t=some (.struct fs))(h:DataW.trod enc P w base spare held fuel t cs=some x)(i:Nat)(f:Field)(hf:fs[i]?=some f) :
  ∃n y,DataW.trod enc P w base spare held n f.type ((cs.drop f.offset).take<|P.cellsOf f.type)=some y:=by
 obtain⟨xs,n,_,_,_,hl,hx⟩:=DataW.trod_struct ht h;have h1:=hx i f hf;have hi:i<xs.length:=by rw[hl];exact(qd9.1 hf).1
 rw[qb4 hi]at h1;exact⟨n,_,h1⟩
theorem Gz{x:DataW H × List MemPlace}(ht:P.underlying t=some (.struct fs))(h:DataW.trod enc P w base spare held fuel t cs=some x):cs.length=P.cellsOf t:=by
 obtain⟨xs,n,_,_,hl,_,_⟩:=DataW.trod_struct ht h;exact hl
theorem MU{o:Nat}(h:(l.drop o).take m=[v]):l[o]?=some v:=by
 have h1:((l.drop o).take m)[0]?=some v:=by rw[h];rfl
 rw[qbt]at h1
 split at h1
 .rw[qc0]at h1;simpa using h1
 .cases h1
theorem CX{x:DataW H × List MemPlace}{k:IntKind}(ht:P.underlying t=some (.struct fs))(h:DataW.trod enc P w base spare held fuel t cs=some x)(i o:Nat)(hf:(fs[i]?.map fun f=>(f.type,f.offset))=some (u,o))(hu:P.underlying u=some (.int k)):∃n,cs[o]?=some (.int k n)/\k.min<=n/\n<=k.max:=by
 cases he:fs[i]? with
 |none=>rw[he]at hf;cases hf
 |some f =>
  rw[he]at hf;simp only[qcq,qb0,Prod.mk.injEq]at hf;obtain⟨rfl,rfl⟩:=hf;obtain⟨n,y,hy⟩:=MT ht h i f he;obtain⟨m,h1,_,h2⟩:=DataW.trod_int hu hy;exact⟨m,MU h1,Ol h2⟩
theorem QU{x:DataW H × List MemPlace}(ht:P.underlying t=some (.struct fs))(h:DataW.trod enc P w base spare held fuel t cs=some x)(i o:Nat)(hf:(fs[i]?.map fun f=>(f.type,f.offset))=some (u,o))(hu:P.underlying u=some .bool):∃b,cs[o]?=some (.bool b):=by
 cases he:fs[i]? with
 |none=>rw[he]at hf;cases hf
 |some f =>
  rw[he]at hf;simp only[qcq,qb0,Prod.mk.injEq]at hf;obtain⟨rfl,rfl⟩:=hf;obtain⟨n,y,hy⟩:=MT ht h i f he;obtain⟨b,h1,_⟩:=DataW.trod_bool hu hy;exact⟨b,MU h1⟩
theorem PA{x:DataW H × List MemPlace}(ht:P.underlying t=some (.struct fs))(h:DataW.trod enc P w base spare held fuel t cs=some x)(i o:Nat)(hf:(fs[i]?.map fun f=>(f.type,f.offset))=some (u,o)):∃n y,DataW.trod enc P w base spare held n u ((cs.drop o).take<|P.cellsOf u)=some y:=by
 cases he:fs[i]? with
 |none=>rw[he]at hf;cases hf
 |some f =>
  rw[he]at hf;simp only[qcq,qb0,Prod.mk.injEq]at hf;obtain⟨rfl,rfl⟩:=hf;exact MT ht h i f he
theorem QV{a:Addr}(h:w.cells? base a n=some cs):cs.length=n/\∀j v,cs[j]?=some v->w.cell? (a.add j)=some v:=by
 unfold World.cells? at h
 split at h
 .have h1:∀(l:List Nat) (cs:List Value),l.mapM (fun i=>w.cell?<|a.add i)=some cs->cs.length=l.length/\∀(j i:Nat) (v:Value),l[j]?=some i->cs[j]?=some v->w.cell? (a.add i)=some v:=by
   intro l
   induction l with
   |nil=>intro cs h;simp at h;subst h;exact⟨rfl,fun j i v h=>by simp at h⟩
   |cons k l ih =>
    intro cs h;rw[List.mapM_cons]at h;obtain⟨v,hv,h⟩:=Option.bind_eq_some_iff.1 h;obtain⟨cs',hcs,h⟩:=Option.bind_eq_some_iff.1 h;simp only[Option.pure_def,qb0]at h;subst h;obtain⟨h1,h2⟩:=ih cs' hcs;refine⟨by simp[h1],fun j i u hi hu=>?_⟩
    cases j with
    |zero=>simp at hi hu;subst hi hu;exact hv
    |succ j=>exact h2 j i u (by simpa using hi)<|by simpa using hu
  obtain⟨h2,h3⟩:=h1 _ _ h;refine⟨by simpa using h2,fun j v hv=>h3 j j v ?_ hv⟩
  have:j<cs.length:=(qbh.1 hv).1
  rw[qef (by rw[h2]at this;simpa using this)]
 .cases h
theorem Om{a:Addr}(h:w.cell? a=some v):a=⟨a.block,a.off,none⟩:=by
 unfold World.cell? at h
 split at h
 .split at h
  .cases h
  .rename_i hs
   obtain⟨b,o,s⟩:=a
   cases s with
   |none=>rfl
   |some x=>simp at hs
 .cases h
theorem Aeu{e:TypeId}{x:DataW H × List MemPlace}{encd:α->List Value}{Good:α->Prop}(ht:P.underlying t=some (.slice e))(hs:P.cellsOf e=s)(h0:0<s)(dec:∀n cs y,DataW.trod enc P w base spare held n e cs=some y->∃d,cs=encd d/\Good d)(h:DataW.trod enc P w base spare held fuel t [v]=some x) :
  ∃(a:Option Addr) (c:Nat) (l:List α),v=.slice a l.length c/\Rd w a s encd l/\l.length<=c/\c<=maxLen/\(∀d∈l,Good d):=by
 rcases Go.Deep.open_slice ht h with⟨hc,_⟩|⟨a,len,cap,m,n,D,Pl,hc,_,hl,hm,hmm,_,hx⟩
 .simp only[qci,and_true]at hc;exact⟨none,0,[],hc,Rd.nil,qaq _,qai _,by simp⟩
 .simp only[qci,and_true]at hc;have hle:len<=m:=by rw[hmm];split <;> omega
  have hd:∀i,i<len->∃d:α,(w.cells? base (a.add<|i*s) s=some (encd d))/\Good d:=fun i hi=>by
   obtain⟨cs',h1,h2⟩:=hx i (by omega);obtain⟨d,rfl,hg⟩:=dec _ _ _ h2;exact⟨d,by rw[<-hs];exact h1,hg⟩
  have hlist:∀k,k<=len->∃l:List α,l.length=k/\∀i d,l[i]?=some d->w.cells? base (a.add<|i*s) s=some (encd d)/\Good d:=by
   intro k
   induction k with
   |zero=>intro _;exact⟨[],rfl,fun i d h=>by simp at h⟩
   |succ k ih =>
    intro hk;obtain⟨l,h1,h2⟩:=ih (by omega);obtain⟨d,hd1,hd2⟩:=hd k (by omega);refine⟨l++[d],by simp[h1],fun i d' hi=>?_⟩;rw[List.getElem?_append]at hi
    split at hi
    .exact h2 i d' hi
    .rename_i hlt
     have:i=k:=by
      have:=(qbh.1 hi).1;simp at this;omega
     subst this;rw[h1,Nat.sub_self]at hi;simp at hi;subst hi;exact⟨hd1,hd2⟩
  obtain⟨l,h1,h2⟩:=hlist len<|qaq _;subst h1;refine⟨some a,cap,l,hc,⟨fun hne=>?_,fun i d hi j u hu hj=>?_⟩,hl,hm,fun d hd=>?_⟩
  .cases l with
   |nil=>exact absurd rfl hne
   |cons d l =>
    obtain⟨h3,_⟩:=h2 0 d rfl;obtain⟨h4,h5⟩:=QV h3;obtain⟨u,hu⟩:=Au (l:=encd d) (i:=0);have h6:=h5 0 u hu;rw[qb9]at h6;have h7:(a.add 0).add 0=a:=by simp[Addr.add]
    rw[h7]at h6;exact⟨a.block,a.off,by rw[<-Om h6]⟩
  .obtain⟨h3,_⟩:=h2 i d hi;have h5:=(QV h3).2 j u hu;rw[Go.Deep.add_add]at h5;have h6:=Om h5;rw[h6]at h5
   have hblk:∀q,(a.add q).block=a.block/\(a.add q).off=a.off+q:=by
    intro q;unfold Addr.add
    by_cases hq:q=0 <;> simp[hq]
   rw[(hblk _).1,(hblk _).2,<-qcz]at h5;obtain⟨b,o,sp⟩:=a;exact h5
  .obtain⟨i,hi⟩:=qc7 hd;exact(h2 i d hi).2
theorem Ab9{e:TypeId}{d:DataW H}{ps:List MemPlace}{encd:α->List Value}{Good:α->Prop}(ht:P.underlying t=some (.slice e))(hs:P.cellsOf e=s)(dec:∀n cs y,DataW.trod enc P w base spare held n e cs=some y->∃d,cs=encd d/\Good d)(hv:∃a n c,v=.slice a n c)(h:DataW.Trod enc P w base spare held t v d ps)(h0:0<s:=by decide):
  ∃(a:Option Addr) (c:Nat) (l:List α),v=.slice a l.length c/\Rd w a s encd l/\l.length<=c/\c<=maxLen/\(∀d∈l,Good d):=by
 obtain⟨fuel,hf⟩:=h;obtain⟨a,n,c,rfl⟩:=hv;exact Aeu ht hs h0 dec<|by simpa[Value.cells]using hf
theorem PB{e:TypeId}{k:IntKind}(he:P.underlying e=some (.int k)):∀n cs y,DataW.trod enc P w base spare held n e cs=some y->∃d:Int,cs=[Value.int k d]/\(k.min<=d/\d<=k.max):=by
 intro n cs y h;obtain⟨m,h1,_,h2⟩:=DataW.trod_int he h;exact⟨m,h1,Ol h2⟩
end
theorem OSo.cut{o c:Nat}(h:OSo (some ⟨b,o*s,none⟩) o (n+1) c s full l)(hc:1<c):OSo (Md (some ⟨b,o*s,none⟩) c 1 s) (o+1) n (c - 1) s full (l.drop s) where
 pos:=fun p hp=>by
  unfold Md at hp;rw[if_neg<|by omega]at hp;simp only[qcq,qb0]at hp;subst hp;rw[add_none];simp only[Addr.mk.injEq,true_and,and_true];rw[qb2]
 none':=fun h=>by unfold Md at h;rw[if_neg<|by omega]at h;cases h
 len:=by rw[h.len,show o+1+(c - 1)=o+c by omega]
 le:=by have:=h.le;omega
 pre:=by
  rw[<-h.pre,List.drop_take,List.drop_drop,qb2,qb2,Nat.one_mul]
  congr 1
  omega
section
variable {P:Program}{r:Option Nat}{ops rest:List Oper}{Q:Exit->Env->World->Prop}{e:Env}{w w0:World}{S:List Nat}{L:List (Nat × Obj)}{dst:Option Tmp}{ty:TypeId}{pos:String}{af:Array Edge}{g:Option (Nat × Bool)}
theorem Tj(hg:AJ ⟨dst,.call ⟨.builtin .append,#[x,y],#[t,t2]⟩,ty,pos,af,g⟩ ops e=true)(hu:C8 P t=some el)(hu2:C8 P t2=some el2)(hs:Cb P el=some s)(hby:DB P el=some by')(hz:Ca P el=some zl)(hzl:zl.length=s){o c:Nat}(hx:ev e x=.slice a n c)(hy:ev e y=.slice a2 m c2)(H:Ctx w0 S w<|L++ent a el full)(O:OSo a o n c s full l)(hn:new.length=m*s)(h1:∀v∈new,AF v=true)(hc:∀j v,new[j]?=some v->∃p,a2=some p/\w.cell? (p.add j)=some v)(h:∀a' o' c' full' w',Ctx w0 S w' (L++ent a' el full')->OSo a' o' (n+m) c' s full' (l++new)->A4 P r ops Q rest (put e dst<|.slice a' (n+m) c') w')(hpos:0<by':=by decide)(_:0<m:=by decide)(hbound:(2*(n+m)+768)*by'<=281474976710656:=by omega):
  A4 P r ops Q (⟨dst,.call ⟨.builtin .append,#[x,y],#[t,t2]⟩,ty,pos,af,g⟩::rest) e w:=by
 obtain⟨a',o',c',full',w',hr,H',O',-⟩:=LI (ty:=ty) hu hu2 hs hby hz hzl hpos H O hn h1 hc hbound (c2:=c2);exact B8 hg U (by simp[execOp,resolve,invoke,builtin,hx,hy,hr])<|h a' o' c' full' w' H' O'
end
theorem Aca{enc:α->List Value}:∀{xs:List α} {i j:Nat} {x:α} {v:Value},(∀x∈xs,(enc x).length=s)->xs[i]?=some x->(enc x)[j]?=some v->j<s->(xs.flatMap enc)[i*s+j]?=some v:=by
 intro xs
 induction xs with
 |nil=>intro i j x v _ hx;cases hx
 |cons y xs ih =>
  intro i j x v hs hx hv hj;rw[qbw];have hy:=hs y<|qah ..
  cases i with
  |zero =>
   cases hx;rw[qb9,qa0,qcw<|by omega];exact hv
  |succ i =>
   rw[qb2,Nat.one_mul,qcp<|by omega,hy,show i*s+s+j - s=i*s+j by omega];exact ih (fun z hz=>hs z<|qae _ hz) hx hv hj
theorem OSo.rd{o c:Nat}{enc:α->List Value}{xs:List α}(h:OSo a o n c s full<|xs.flatMap enc)(hb:∀x∈ent a t full,w.heap[x.1]?=some x.2)(hs:∀x∈xs,(enc x).length=s)(h0:0<s):Rd w a s enc xs:=by
 cases a with
 |none =>
  cases xs with
  |nil=>exact Rd.nil
  |cons x xs =>
   exfalso;have h1:=h.llen;have h2:=h.none' rfl;have h3:=h.le;have h4:n=0:=by omega
   have h5:=hs x (by simp);subst h4;simp only[qbw,qat,qb9]at h1;omega
 |some p =>
  have hz:=h.pos p rfl;obtain⟨b,q,sp⟩:=p;simp only[Addr.mk.injEq,true_and]at hz;obtain⟨rfl,rfl⟩:=hz;refine⟨fun _=>⟨b,o*s,rfl⟩,fun i x hx j v hv hj=>?_⟩;have hbb:=hb (b,Bl t full)<|qah ..;show w.cell? ⟨b,o*s+i*s+j,none⟩=some v;rw[qcz];exact h.cell hbb<|Aca hs hx hv hj
variable {P:Program}{r:Option Nat}{ops:List Oper}{Q:Exit->Env->World->Prop}
def PC(V:Nat->Value)(i:Nat)(b:Value):Nat->Value:=fun j=>if j=i then b else V j
theorem DQ(V:Nat->Value)(i:Nat)(b:Value):PC V i b i=b:=if_pos rfl
theorem Dv{V:Nat->Value}{b:Value}(h:j≠i):PC V i b j=V j:=if_neg h
def XN(n:Nat)(t:List (List Nat))(i:Nat):List Nat:=bif Nat.ble n i then List.range i else t.getD i []
theorem VN(t:List<|List Nat):∀i,n<=i->i<N->∀k,k<i->k∈XN n t i:=fun i hi _ k hk=>by
 unfold XN;rw[show Nat.ble n i=true from Nat.ble_eq_true_of_le hi,cond_true];exact qa5.2 hk
variable {P:Program}{r:Option Nat}{Q:Exit->Env->World->Prop}
structure AC(n c:Nat)(anc:Nat->List Nat)(d:Nat->Tmp)(G:Nat->(Nat->Value)->World->Prop)(e0:Env)(w0:World)(l:Nat->Prop)(e:Env)(w:World)(V:Nat->Value):Prop where
 ds:e.ds=e0.ds
 old:∀s,(∀i,i<n->s≠d i)->e.g s=e0.g s
 slot:∀i,i<n->l i->e.g (d i)=V i
 still:¬l c->w=w0
 good:∀i,i<n->l i->G i V w
 cl:∀i,i<n->l i->∀j∈anc i,l j
theorem AC.step{c:Nat}{anc:Nat->List Nat}{d:Nat->Tmp}{G:Nat->(Nat->Value)->World->Prop}{e0:Env}{l:Nat->Prop}{V:Nat->Value}(A:AC n c anc d G e0 w0 l e w V)(hd:∀i j,i<n->j<n->d i=d j->i=j)(hst:∀i k v V w,i<n->k≠i->k∉anc i->G i V w->G i (PC V k v) w)(hx:∀i V w w',i<n->i≠c->c∉anc i->G i V w->G i V w')(hi:i<n)(hu:¬l i)(hanc:∀j∈anc i,l j)(h1:i≠c->w'=w)(h2:e'=put e (some<|d i) v)(h3:G i (PC V i v) w'):AC n c anc d G e0 w0 (fun j=>j=i\/l j) e' w'<|PC V i v:=by
 subst h2;have hni:∀j,l j->j≠i:=fun j hj h=>hu<|h ▸ hj;have hna:∀j,j<n->l j->i∉anc j:=fun j hj hl h=>hu<|A.cl j hj hl i h;refine⟨A.ds,fun s hs=>?_,fun j hj hl=>?_,fun hc=>?_,fun j hj hl=>?_,fun j hj hl k hk=>?_⟩
 .rw[Dg<|hs i hi];exact A.old s hs
 .rcases hl with rfl|hl
  .rw[Dj,DQ]
  .rw[Dg fun h=>hni j hl<|hd _ _ hj hi h,A.slot j hj hl,Dv<|hni j hl]
 .rw[h1 fun h=>hc<|.inl h.symm];exact A.still fun h=>hc<|.inr h
 .rcases hl with rfl|hl
  .exact h3
  .have h4:=hst j i v V w hj (Ne.symm<|hni j hl) (hna j hj hl) (A.good j hj hl)
   by_cases hic:i=c
   .subst hic;exact hx j _ _ _ hj (hni j hl) (hna j hj hl) h4
   .rw[h1 hic];exact h4
 .rcases hl with rfl|hl
  .exact .inr (hanc k hk)
  .exact .inr (A.cl j hj hl k hk)
theorem Acb{anc:Nat->List Nat}(c:Nat)(d:Nat->Tmp)(G:Nat->(Nat->Value)->World->Prop)(hm:P.follows .mixedOrders=true)(hsz:arr.size=N)(hlast:∀i,n<=i->i<N->∀k,k<i->k∈anc i)(hd:∀i j,i<n->j<n->d i=d j->i=j)(hst:∀i k v V w,i<n->k≠i->k∉anc i->G i V w->G i (PC V k v) w)(hx:∀i V w w',i<n->i≠c->c∉anc i->G i V w->G i V w')(hop:∀i o e' w' V,i<n->i≠c->arr[i]?=some o->(∀s,(∀j,j<n->s≠d j)->e'.g s=e.g s)->(∀j∈anc i,e'.g (d j)=V j)->(∀j∈anc i,G j V w')->(i∈anc c->w'=w.drew)->A4 P r arr.toList (Qk fun e2 w2=>∃v,w2=w'/\e2=put e' (some<|d i) v/\G i (PC V i v) w2) [o] e' w')(hcall:∀o e' V,arr[c]?=some o->(∀s,(∀j,j<n->s≠d j)->e'.g s=e.g s)->(∀j∈anc c,e'.g (d j)=V j)->(∀j∈anc c,G j V w.drew)->A4 P r arr.toList (Qk fun e2 w2=>∃v,e2=put e' (some<|d c) v/\G c (PC V c v) w2) [o] e' w.drew)(hfin:∀e' w' V,e'.ds=e.ds->(∀s,(∀j,j<n->s≠d j)->e'.g s=e.g s)->(∀j,j<n->e'.g (d j)=V j)->(∀j,j<n->G j V w')->A4 P r arr.toList (Qk fun e2 w2=>Q .normal e2 w2) (arr.toList.drop n) e' w')(hn:n<=N:=by decide)(hanc:NH arr anc N=true:=by kernel_rfl)(hcn:c<n:=by decide):W P r m (.region id arr true) Q e w:=by
 refine U6 (St:=fun l e' w'=>∃V,AC n c anc d G e w.drew l e' w' V) hm hsz hn hanc hlast ⟨fun _ => .int .i64 0,rfl,fun _ _=>rfl,fun _ _ h=>h.elim,fun _=>rfl,fun _ _ h=>h.elim,fun _ _ h=>h.elim⟩ ?_ ?_
 .rintro l i o e' w' ho hi hu ha ⟨V,A⟩;have hs:=fun j hj=>A.slot j (ha j hj).1 (ha j hj).2;have hg:=fun j hj=>A.good j (ha j hj).1 (ha j hj).2
  by_cases hic:i=c
  .subst hic;obtain rfl:w'=w.drew:=A.still hu;exact CE (Jt fun e2 w2 ⟨v,q2,q3⟩=>⟨_,A.step hd hst hx hi hu (fun j hj=>(ha j hj).2) (fun h=>absurd rfl h) q2 q3⟩) _ _ _<|hcall o e' V ho A.old hs hg
  .exact CE (Jt fun e2 w2 ⟨v,q1,q2,q3⟩=>⟨_,A.step hd hst hx hi hu (fun j hj=>(ha j hj).2) (fun _=>q1) q2 q3⟩) _ _ _ (hop i o e' w' V hi hic ho A.old hs hg fun hm=>A.still fun h=>hu<|A.cl c hcn h i hm)
 .rintro l e' w' hl ⟨V,A⟩;exact hfin e' w' V A.ds A.old (fun j hj=>A.slot j hj<|hl j hj) fun j hj=>A.good j hj<|hl j hj
variable {P:Program}{r:Option Nat}{Q:Exit->Env->World->Prop}
theorem Acc{anc:Nat->List Nat}(St:Env->(Nat->Prop)->Env->World->Prop)(hm:P.follows .mixedOrders=true)(hsz:arr.size=N)(h0:St e (fun _=>False) e w.drew)(hstep:∀(l:Nat->Prop) i o e' w',arr[i]?=some o->i<N->¬l i->(∀j∈anc i,l j)->(∀j,l j->∀k∈anc j,l k)->St e l e' w'->A4 P r arr.toList (Qk<|St e fun j=>j=i\/l j) [o] e' w')(hend:∀(l:Nat->Prop) e' w',(∀i,i<N->l i)->St e l e' w'->Q .normal e' w')(hanc:NH arr anc N=true:=by kernel_rfl):W P r m (.region id arr true) Q e w:=XH (St e) hm hsz hanc h0 hstep hend
abbrev jn1(P:Program)(_:FuncId)(fn:Func)(s:ChangeSpec)(c:OpenClaim):Bool:=c.wf (OpenSpec.ofChange s) && laidOutB P && mapsRowed P && fn.params.all (P.readableRec ·) && namedTie P c.named s.vars && (c.stops == []) && (P.stops == []) && (c.knobs == []) && (P.stopKnobs == [])
abbrev jn2(P:Program)(f:FuncId)(_:Func)(_:ChangeSpec)(c:OpenClaim):Bool:=(c.inPlace == P.inPlace f) && (c.unfollowed == P.unfollowed f) && (c.recurses == P.recurses f) && (c.named == P.varsNamed f)
abbrev jn3(P:Program)(_:FuncId)(fn:Func)(s:ChangeSpec)(c:OpenClaim):Bool:=(c.maps == (fn.params.toList++s.plain.varTypes P).any (P.mapsRec ·)) && (c.ifaces == (fn.params.toList++s.plain.varTypes P).any (P.ifacesRec ·)) && (c.mapsOut == P.mapsAmong fn.resultTypes.toList) && (c.loops == (fn.params.toList++s.plain.varTypes P).any (P.loopsFrom ·)) && (c.wideKeys == (fn.params.toList++s.plain.varTypes P++fn.resultTypes.toList).any (P.wideKeysFrom ·)) && s.vars.all (P.varReadable ·) && fn.resultTypes.all (fun t=>P.readableRec t && decide (t<P.types.size)) && (c.ifacesOut == fn.resultTypes.toList.any (P.ifacesRec ·)) && (c.loopsOut == fn.resultTypes.toList.any (P.loopsFrom ·))
abbrev jn4(P:Program)(_:FuncId)(_:Func)(_:ChangeSpec)(c:OpenClaim):Bool:=(c.plainKeys == P.plainKeys) && c.shortTexts.isNone && P.stopsHeard && P.mayEnter && (c.lifted == P.liftsFinal)
abbrev jn5(P:Program)(_:FuncId)(fn:Func)(s:ChangeSpec)(c:OpenClaim):Bool:=(P.make == some c.make) && (c.kinds == (if c.domain.isEmpty then[]else fn.params.toList.map fun t=>match P.underlying t with|some (.int k)=>some k|_=>none)) && (c.pinned == c.pinnedBy) && (c.veiled == (fn.params.toList++s.plain.varTypes P++fn.resultTypes.toList).any (P.veiledRec ·)) && c.veiledFits P fn.params.toList (fn.params.toList++s.plain.varTypes P++fn.resultTypes.toList)
theorem VO{f:FuncId}{s:ChangeSpec}{c:OpenClaim}(h1:jn1 P f fn s c=true)(h2:jn2 P f fn s c=true)(h3:jn3 P f fn s c=true)(h4:jn4 P f fn s c=true)(h5:jn5 P f fn s c=true):joinedFacts P f fn s c=true:=by
 simp only[jn1,qag]at h1;obtain⟨⟨⟨⟨⟨⟨⟨⟨k0,k1⟩,k2⟩,k3⟩,k4⟩,k5⟩,k6⟩,k7⟩,k8⟩:=h1;simp only[jn2,qag]at h2;obtain⟨⟨⟨k9,k10⟩,k11⟩,k12⟩:=h2;simp only[jn3,qag]at h3;obtain⟨⟨⟨⟨⟨⟨⟨⟨k13,k14⟩,k15⟩,k16⟩,k17⟩,k18⟩,k19⟩,k20⟩,k21⟩:=h3;simp only[jn4,qag]at h4;obtain⟨⟨⟨⟨k22,k23⟩,k24⟩,k25⟩,k26⟩:=h4;simp only[jn5,qag]at h5;obtain⟨⟨⟨⟨k27,k28⟩,k29⟩,k30⟩,k31⟩:=h5;unfold joinedFacts;simp only[qag];exact⟨⟨⟨⟨⟨⟨⟨⟨⟨⟨⟨⟨⟨⟨⟨⟨⟨⟨⟨⟨⟨⟨⟨⟨⟨⟨⟨⟨⟨⟨⟨k0,k1⟩,k2⟩,k3⟩,k4⟩,k5⟩,k6⟩,k7⟩,k8⟩,k9⟩,k10⟩,k11⟩,k12⟩,k13⟩,k14⟩,k15⟩,k16⟩,k17⟩,k18⟩,k19⟩,k20⟩,k21⟩,k22⟩,k23⟩,k24⟩,k25⟩,k26⟩,k27⟩,k28⟩,k29⟩,k30⟩,k31⟩
class Fc {α:Type _} (x:Option α) (v:outParam α):Prop where
 h:x=some v
theorem qf{α:Type _}{x:Option α}{v:α}[i:Fc x v]:x=some v:=i.h
class Fb (x:Bool):Prop where
 h:x=true
structure Tk(n:Nat)(Q:Prop):Prop where
 f:Q
theorem tk0(h:A):Tk 0 A:=⟨h⟩
theorem tkS{Q:Prop}(_:Tk n Q')(h:Q):Tk (n+1) Q:=⟨h⟩
section
variable {n m:Nat}{P:Program}{r:Option Nat}{ops rest:List Oper}{Q:Exit->Env->World->Prop}{e:Env}{w:World}{C:World->Prop}{K:Env->Prop}{o:Oper}{c:Code}{dst:Option Tmp}{ty:TypeId}{pos:String}{af:Array Edge}{g:Option (Nat × Bool)}
theorem tkW(h:Tk n<|W P r m c Q e w):Tk n<|W P r m c Q e w:=h
theorem tkO(h:Tk n<|A4 P r ops Q (o::rest) e w):Tk n<|A4 P r ops Q (o::rest) e w:=h
theorem tkT{K:Env->Prop}(h:Tk n<|Wt P ops C K rest e):Tk n<|Wt P ops C K rest e:=h
theorem tkQ(h:Tk n<|Wq P ops C K rest e):Tk n<|Wq P ops C K rest e:=h
theorem tkMv(h:Tk n<|A4 P r ops Q (⟨dst,.move x,ty,pos,af,g⟩::rest) e w):Tk n<|A4 P r ops Q (⟨dst,.move x,ty,pos,af,g⟩::rest) e w:=h
theorem tkAs(h:Tk n<|A4 P r ops Q (⟨dst,.assign x,ty,pos,af,g⟩::rest) e w):Tk n<|A4 P r ops Q (⟨dst,.assign x,ty,pos,af,g⟩::rest) e w:=h
theorem tkLd(h:Tk n<|A4 P r ops Q (⟨dst,.load t x,ty,pos,af,g⟩::rest) e w):Tk n<|A4 P r ops Q (⟨dst,.load t x,ty,pos,af,g⟩::rest) e w:=h
theorem tkBi{o:BinOp}(h:Tk n<|A4 P r ops Q (⟨dst,.binOp o t x y t2,ty,pos,af,g⟩::rest) e w):Tk n<|A4 P r ops Q (⟨dst,.binOp o t x y t2,ty,pos,af,g⟩::rest) e w:=h
theorem tkCa{c:Call}(h:Tk n<|A4 P r ops Q (⟨dst,.call c,ty,pos,af,g⟩::rest) e w):Tk n<|A4 P r ops Q (⟨dst,.call c,ty,pos,af,g⟩::rest) e w:=h
end
theorem st{Q:Prop}(p:Tk n Q')(h:Tk n Q'->Tk (n+1) Q:=by
 intro hp
 first
 |exact tkS hp<|Aa hp.f
 |exact tkS hp<|Ab hp.f
 |(refine tkW ?_;first|exact tkS hp (Af hp.f)|exact tkS hp (AB hp.f)|exact tkS hp (Bf hp.f)|exact tkS hp (A1 hp.f)|exact tkS hp (AK hp.f)|exact tkS hp (Aw hp.f)|exact tkS hp (Bi hp.f)|exact tkS hp (EG U hp.f)|exact tkS hp<|FT U hp.f)
 |(refine tkO ?_;first|(refine tkMv ?_;first|exact tkS hp (Ad U hp.f)|exact tkS hp (AV U hp.f)|exact tkS hp (AH U hp.f)|exact tkS hp (Bj U hp.f)|exact tkS hp (E0 U hp.f)|exact tkS hp<|ET U (.func _ _ _) U hp.f)|(refine tkAs ?_;first|exact tkS hp (Ag U hp.f)|exact tkS hp (A5 U hp.f)|exact tkS hp (AP U hp.f)|exact tkS hp (Bx U hp.f)|exact tkS hp<|Dr U (.func _ _ _) U hp.f)|(refine tkLd ?_;first|exact tkS hp (Bh qf U H at0 U hp.f)|exact tkS hp (Bh qf U H at1 U hp.f)|exact tkS hp (Dh qf qf U H at0 U hp.f)|exact tkS hp (Bh qf U H at2 U hp.f)|exact tkS hp (Dh qf qf U H at1 U hp.f)|exact tkS hp (Bh qf U H at6 U hp.f)|exact tkS hp (Bh qf U H at4 U hp.f)|exact tkS hp<|Bh qf U H at5 U hp.f)|(refine tkBi ?_;first|exact tkS hp (Ap U U hp.f)|exact tkS hp (CH U U hp.f)|exact tkS hp (Ct U U hp.f)|exact tkS hp (CV U U hp.f)|exact tkS hp (IW U U hp.f)|exact tkS hp (Es U U hp.f)|exact tkS hp (Cf U U hp.f)|exact tkS hp (EB qf U hp.f)|exact tkS hp (Et U U hp.f)|exact tkS hp (Fm U U hp.f)|exact tkS hp (Afl U U U hp.f)|exact tkS hp<|Ko qf U U U hp.f)|(refine tkCa ?_;first|exact tkS hp (Cp qf U hp.f)|exact tkS hp<|P5 U U U hp.f)|exact tkS hp (Ae qf U hp.f)|exact tkS hp (Bz U (.bool _) U hp.f)|exact tkS hp (B9 U (.bool _) U hp.f)|exact tkS hp (AR U hp.f)|exact tkS hp (BV U U hp.f)|exact tkS hp (Df U hp.f)|exact tkS hp (AN qf H hp.f)|exact tkS hp (AM qf U U U (by simp[AF]) H at0 U hp.f)|exact tkS hp (BA qf qf U U hp.f)|exact tkS hp (C5 _ (.int _ _) qf qf qf U U U U H hp.f)|exact tkS hp (FZ U U qf qf hp.f)|exact tkS hp (AM qf U U U (by simp[AF]) H at1 U hp.f)|exact tkS hp (Ch (.int _ _) qf U U U H at0 (by(simp;done)) hp.f)|exact tkS hp (Ch (.slice _ _ _) qf U U U H at0 (by(simp;done)) hp.f)|exact tkS hp (C5 _ (.agg _) qf qf qf U U U U H hp.f)|exact tkS hp (Ch (.int _ _) qf U U U H at1 (by(simp;done)) hp.f)|exact tkS hp (Be _ (.slice _ _ _) U U H hp.f)|exact tkS hp (Be _ (.int _ _) U U H hp.f)|exact tkS hp (Hd U U qf qf hp.f)|exact tkS hp (AM qf U U U (by simp[AF]) H at2 U hp.f)|exact tkS hp (JP U U hp.f)|exact tkS hp (Ch (.bool _) qf U U U H at0 (by decide) hp.f)|exact tkS hp (VB U qf U hp.f)|exact tkS hp (NZ U qf qf H hp.f)|exact tkS hp (Ch (.int _ _) qf U U U H at0 (by omega) hp.f)|exact tkS hp (Hb qf qf qf qf U U H hp.f)|exact tkS hp (IY U qf qf U U hp.f)|exact tkS hp (Be _ (.pointer _) U U H hp.f)|exact tkS hp (Ch (.int _ _) qf U U U H at0 (by decide) hp.f)|exact tkS hp (Ch (.slice _ _ _) qf U U U H at1 (by(simp;done)) hp.f)|exact tkS hp<|Al U hp.f)
 |exact tkS hp<|AD hp.f
 |exact tkS hp<|Am hp.f
 |exact tkS hp<|Bn hp.f
 |exact tkS hp<|Av hp.f
 |exact tkS hp<|A0 U U hp.f
 |exact tkS hp<|B6 (v:=(.bool _)) U U U hp.f
 |exact tkS hp<|A8 hp.f
 |exact tkS hp<|B6 (v:=(.int _ _)) U U U hp.f
 |exact tkS hp<|B1 U U hp.f
 |exact tkS hp<|Bu hp.f
 |exact tkS hp<|Bw U hp.f
 |exact tkS hp<|Cz (v1:=(.pointer _)) (v2:=(.int _ _)) U U U U hp.f
 |exact tkS hp<|Cz (v1:=(.slice _ _ _)) (v2:=(.int _ _)) U U U U hp.f
 |exact tkS hp<|B6 (v:=(.slice _ _ _)) U U U hp.f
 |exact tkS hp<|Cz (v1:=(.int _ _)) (v2:=(.int _ _)) U U U U hp.f
 |exact tkS hp<|Ii U U hp.f
 |exact tkS hp<|C1 U U U qf qf H at0 U hp.f
 |exact tkS hp<|Db hp.f
 |exact tkS hp<|Afi U U hp.f
 |exact tkS hp<|F6 U U U hp.f
 |exact tkS hp<|C1 U U U qf qf H at1 U hp.f
 |exact tkS hp<|Gv U hp.f
 |exact tkS hp<|Afj (v1:=(.int _ _)) (v2:=(.int _ _)) (v3:=(.int _ _)) U U U U U hp.f
 |exact tkS hp<|B6 (v:=(.pointer _)) U U U hp.f
 |exact tkS hp<|B6 (v:=(.func _ _ _)) U U U hp.f
 |exact tkS hp<|QW U U hp.f
 |exact tkS hp<|C1 U U U qf qf H at2 U hp.f
 |exact tkS hp<|Xx hp.f
 |(refine tkT ?_;first|exact tkS hp (A6 hp.f)|exact tkS hp (Ah qf U hp.f)|exact tkS hp (AG U hp.f)|exact tkS hp (Bs U hp.f)|exact tkS hp (A7 U hp.f)|exact tkS hp (Bm U hp.f)|exact tkS hp (Bq U hp.f)|exact tkS hp (AA qf qf U U hp.f)|exact tkS hp (AZ U U hp.f)|exact tkS hp (CK U hp.f)|exact tkS hp (DT U hp.f)|exact tkS hp (Dt U U hp.f)|exact tkS hp (DA U hp.f)|exact tkS hp (D9 U U hp.f)|exact tkS hp (He U (.bool _) U hp.f)|exact tkS hp (FM U hp.f)|exact tkS hp (QI U U hp.f)|exact tkS hp (Kr U U (.bool _) U hp.f)|exact tkS hp<|QG U U U hp.f)
 |(refine tkQ ?_;first|exact tkS hp (BX U hp.f)|exact tkS hp (Aq qf U hp.f)|exact tkS hp (AS U hp.f)|exact tkS hp (Cc hp.f)|exact tkS hp (Bc U hp.f)|exact tkS hp (BE U hp.f)|exact tkS hp (BT U hp.f)|exact tkS hp (Bt qf qf U U hp.f)|exact tkS hp (EU U hp.f)|exact tkS hp (Gw U U hp.f)|exact tkS hp (Fw U U hp.f)|exact tkS hp (HI U U U hp.f)|exact tkS hp (JC U U hp.f)|exact tkS hp (Ab2 U U (.bool _) U hp.f)|exact tkS hp (LM U U hp.f)|exact tkS hp (Ab1 U U (.bool _) U hp.f)|exact tkS hp (QD U U U hp.f)|exact tkS hp<|LK U U hp.f)):Tk (n+1) Q:=h p
structure Hp(A:Prop):Prop where
 f:A
theorem qG(n:Nat){Q:Prop}(p:A)(h:Hp A->Tk n Q:=by
 intro hp
 repeat (first|exact tk0 hp.f|refine st ?_)):Q:=(h ⟨p⟩).f
theorem qGc(n:Nat){Q:Prop}(p:A)(q:B)(h:Hp A->Hp B->Tk n Q:=by
 intro hp hq
 repeat (first|exact tk0 (A3 _ U hp.f hq.f)|refine st ?_)):Q:=(h ⟨p⟩ ⟨q⟩).f
theorem qGp(n:Nat){Q:Prop}(p:A)(q:B)(h:Hp A->Hp B->Tk n Q:=by
 intro hp hq
 repeat (first|exact tk0 (iB U hp.f hq.f)|refine st ?_)):Q:=(h ⟨p⟩ ⟨q⟩).f
end Go.GV
