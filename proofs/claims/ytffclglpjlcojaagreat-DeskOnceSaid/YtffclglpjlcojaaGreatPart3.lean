/- Part 3 of the proof. -/
import Derived.Test.YtffclglpjlcojaaGreatPart2
import Derived.Maps.RangeRun
import Derived.Laws.StructEq
namespace Go.GV
open Go
abbrev Mt:=Nat->Prop
structure Grw(M M':Mt)(w w':World):Prop where
 ext:∃S,(∀x∈S,M x\/w.heap.size<=x)/\Ext S w w'
 new:∀x,M' x->M x\/w.heap.size<=x
theorem Grw.to{M M':Mt}{w w':World}(g:Grw M M' w w'){b:Nat}{o:Obj}(hb:w.heap[b]?=some o)(hn:¬M b):w'.heap[b]?=some o:=by
 obtain⟨S,hS,hx⟩:=g.ext;have hl:=Bd hb;rw[hx.block b hl fun h=>by rcases hS b h with h|h;exact hn h;omega];exact hb
theorem Grw.size{M M':Mt}{w w':World}(g:Grw M M' w w'):w.heap.size<=w'.heap.size:=let ⟨_,_,hx⟩:=g.ext;hx.size
theorem Grw.not{M M':Mt}{w w':World}(g:Grw M M' w w'){b:Nat}(hb:b<w.heap.size)(hn:¬M b):¬M' b:=fun h=>by
 rcases g.new b h with h|h
 .exact hn h
 .omega
theorem Grw.call{M M':Mt}{w0 w w':World}(h:Ext [] w0 w)(_:∀x,M x->x<w0.heap.size)(g:Grw M M' w w'):Grw M M' w0 w':=by
 obtain⟨S,hS,hx⟩:=g.ext;have hs:=h.size;exact⟨⟨S,fun x hm=>(hS x hm).imp id fun h=>by omega,(h.mono (by simp)).trans hx⟩,fun x hm=>(g.new x hm).imp id fun h=>by omega⟩
def TE(P:Program)(gf:FuncId)(ca:Array Value)(Z:List Nat)(K:Mt->World->Prop)(xs:List (List Value)):Prop :=
 ∀(l:Nat) (w:World) (J:Nat->Mt->World->Prop) (E:World->Prop),(∃M,J 0 M w)->(∀i M w' w'',J i M w'->Ext Z w' w''->J i M w'')->(∀w' w'',E w'->Ext Z w' w''->E w'')->(∀i M w',J i M w'->(∀x,M x->x<w'.heap.size)/\K M w') ->
  (∀i v M w',xs[i]?=some v->J i M w'->YieldAt P l v w' fun u w''=>(u=.bool true/\∃M',J (i+1) M' w''/\Grw M M' w' w'')\/(u=.bool false/\E w'')) ->
  Ret P gf (#[.func (.yield l) #[] #[]]++ca) w fun _ w'=>(∃M,J xs.length M w')\/E w'
section
variable {P:Program}{Q:Exit->Env->World->Prop}{e:Env}{w:World}{n:Nat}
def Qe(e:Env)(l:List (Tmp × Value)):Env:=l.foldl (fun e p=>put e (some p.1) p.2) e
theorem Pv:∀(l:List (Tmp × Value)) {e:Env} {a:Act},Sim n e a->(∀p∈l,p.1<n)->Sim n (Qe e l) { a with tmps:=l.foldl (fun tmps p=>tmps.setIfInBounds p.1 p.2) a.tmps }
 | [],_,_,h,_=>h
 |p::l,e,a,h,hp=>by
  have h1:Sim n (put e (some p.1) p.2) { a with tmps:=a.tmps.setIfInBounds p.1 p.2 }:=by
   have:=Sim.put h (some p.1) p.2 (by rintro _ ⟨⟩;exact hp p (qak ..))
   simpa[Act.put]using this
  exact Pv l h1 fun q hq=>hp q (qaj _ hq)
theorem Qf(ps:Array Tmp)(vs:List Value)(tmps:Array Value):(ps.zip vs.toArray).foldl (fun tmps (t,a)=>tmps.setIfInBounds t a) tmps=(ps.toList.zip vs).foldl (fun tmps p=>tmps.setIfInBounds p.1 p.2) tmps:=by
 rw[<-Array.foldl_toList,Array.toList_zip]
def Qbody(D l:Nat)(J1:Mt->World->Prop)(E:World->Prop)(M:Mt)(w wB:World):Exit->Env->World->Prop
 | .normal,_,w3=>∃M',J1 M' w3/\(∀x,M' x->M x\/w.heap.size<=x)/\∃S,Ext S wB w3/\∀x∈S,M x\/w.heap.size<=x
 | .ret,_,w3=>E w3/\∃S,Ext S wB w3/\D∉S/\l∉S
 |_,_,_=>False
def TF(P:Program)(D l n:Nat)(body:Code)(J1:Mt->World->Prop)(E:World->Prop)(M:Mt)(w:World):Exit->Env->World->Prop
 | .normal,e,w1=>Ext [] w w1/\∀wB,Ext [l] w1 wB->W P (some l) n body (Qbody D l J1 E M w wB) e wB
 |_,_,_=>False
theorem Ext.to{S:List Nat}{w w':World}(h:Ext S w w'){b:Nat}{o:Obj}(hb:w.heap[b]?=some o)(hn:b∉S):w'.heap[b]?=some o:=by
 rw[h.block b (Bd hb) hn];exact hb
theorem ND{w:World}{j:Option Code}(hj:j=none)(h:Q .normal e w):N2 Q e w j:=by subst hj;exact h
theorem Qg{w:World}{j:Option Code}(hj:j=some .ret)(h:Q .ret e w):N2 Q e w j:=by subst hj;exact h
theorem Pw{f:Operand}{ps:Array Tmp}{assign body:Code}{gf:Nat}{ca:Array Value}{Z:List Nat}{K:Mt->World->Prop}{xs:List (List Value)}(hf:ev e f=.func (.func gf) #[] ca)(hc:Aq P gf=true)(hI:TE P gf ca Z K xs)(hfit:(IJ n assign && IJ n body)=true)(hps:(ps.toList.all fun p=>decide (p<n))=true)(hlen:∀v∈xs,v.length=ps.size)(J:Nat->Mt->World->Prop)(E:World->Prop)(hZ:w.heap.size∉Z/\w.heap.size+1∉Z)(hj0:∀w2,Ext [] w w2->w.heap.size+1<w2.heap.size->∃M,J 0 M w2)(hjs:∀i M w' w'',J i M w'->Ext (w.heap.size::(w.heap.size+1)::Z) w' w''->J i M w'')(hes:∀w' w'',E w'->Ext (w.heap.size::(w.heap.size+1)::Z) w' w''->E w'')(hk:∀i M w',J i M w'->(∀x,M x->x<w'.heap.size/\x≠w.heap.size/\x≠w.heap.size+1)/\K (fun x=>x=w.heap.size+1\/M x) w')(hb:∀i v M w',xs[i]?=some v->J i M w'->w.heap.size+1<w'.heap.size->W P (some (w.heap.size+1)) n assign (TF P w.heap.size (w.heap.size+1) n body (J (i+1)) E M w') (Qe ⟨e.g,[]⟩ (ps.toList.zip v)) w')(hend:∀M w4,J xs.length M w4->w4.heap[w.heap.size]?=some (.deferred (some []))->Q .normal ⟨e.g,{ target := .collected w.heap.size,args:=#[] }::e.ds⟩ w4)(hret:∀w4,E w4->w4.heap[w.heap.size]?=some (.deferred (some []))->Q .ret ⟨e.g,{ target := .collected w.heap.size,args:=#[] }::e.ds⟩ w4):W P none n (.rangeFunc f ps assign body) Q e w:=by
 refine KF hf hc ?_;intro fn tmps hts htm D l w2 hDe hle hx2 hD hrec;subst hDe hle;obtain⟨lo,hlo,hrec'⟩:∃lo,lo=({ state := .ready,pending:=none,fn,tmps,params:=ps,assign,body,defers:=w.heap.size }:Loop)/\w2.heap[w.heap.size+1]?=some (.loop lo):=⟨_,rfl,hrec⟩;have hsz2:=Bd hrec';have hne:w.heap.size≠w.heap.size+1:=by omega
 refine Ret.mono (hI (w.heap.size+1) w2 (fun i Mh w'=>(∃M:Mt,(Mh=fun x=>x=w.heap.size+1\/M x)/\J i M w')/\w'.heap[w.heap.size+1]?=some (.loop lo)/\w'.heap[w.heap.size]?=some (.deferred (some []))) (fun w'=>E w'/\(∃lp,w'.heap[w.heap.size+1]?=some (.loop lp)/\lp.state=.done/\lp.pending=some .ret)/\w'.heap[w.heap.size]?=some (.deferred (some [])))
  (let ⟨M,hM⟩:=hj0 w2 hx2 hsz2;⟨_,⟨M,rfl,hM⟩,hrec',hD⟩) (fun i Mh w' w'' h hx=>⟨let ⟨M,hMh,hM⟩:=h.1;⟨M,hMh,hjs i M w' w'' hM (hx.mono fun x hx=>qaj _ (qaj _ hx))⟩,hx.to h.2.1 hZ.2,hx.to h.2.2 hZ.1⟩)
  (fun w' w'' h hx=>⟨hes w' w'' h.1 (hx.mono fun x hx=>qaj _ (qaj _ hx)),let ⟨lp,h1,h2⟩:=h.2.1;⟨lp,hx.to h1 hZ.2,h2⟩,hx.to h.2.2 hZ.1⟩) (fun i Mh w' h=>by
   obtain⟨⟨M,rfl,hM⟩,hl,_⟩:=h
   exact⟨fun x hx=>hx.elim (fun h=>by rw[h];exact Bd hl) fun h=>((hk i M w' hM).1 x h).1,(hk i M w' hM).2⟩) ?_) ?_
 .rintro i v Mh w' hx ⟨⟨M,rfl,hJ⟩,hl,hDw⟩;have hsz:=Bd hl;have hkM:=(hk i M w' hJ).1;have hbody:=hb i v M w' hx hJ hsz;have hlp:lo.params=ps:=by rw[hlo]
  have hla:lo.assign=assign:=by rw[hlo]
  have hlb:lo.body=body:=by rw[hlo]
  have hlt:lo.tmps=tmps:=by rw[hlo]
  have hls:lo.state=.ready:=by rw[hlo]
  have hpd:lo.pending=none:=by rw[hlo]
  refine Qb hl (by rw[hlp];exact hlen v (qac hx)) ?_;rw[hlp,hla,hlb,hlt,Qf];have hs0:Sim n (⟨e.g,[]⟩:Env) ({ tmps:=tmps,defers:=[] }:Act):=⟨rfl,hts,htm⟩;refine Mj (Qe ⟨e.g,[]⟩ (ps.toList.zip v)) (Pv _ hs0 fun p hp=>?_) hfit ?_
  .have h1:=qaw.1 hps p.1 (List.of_mem_zip hp).1;exact qba h1
  .refine EN assign ?_ hbody;intro x e1 w1 hq
   cases x with
   |normal =>
    obtain⟨hS,hW⟩:=hq;have hl1:=hS.to hl (by simp);have hD1:=hS.to hDw (by simp);have hxB:=Ext.setB w1 (w.heap.size+1) (.loop { lo with state := .busy });refine⟨lo,hl1,hls,EN body ?_ (hW _ hxB)⟩;have hlB:(w1.putObj (w.heap.size+1) (.loop { lo with state := .busy })).heap[w.heap.size+1]?=some (.loop { lo with state := .busy }):=EO hl1;have hDB:(w1.putObj (w.heap.size+1) (.loop { lo with state := .busy })).heap[w.heap.size]?=some (.deferred (some [])):=hxB.to hD1 (by simp);intro y e3 w3 hq3
    cases y with
    |normal =>
     obtain⟨M',hJ3,hM',S3,hS3,hin⟩:=hq3
     have hlS3:w.heap.size+1∉S3:=fun h=>by
      rcases hin _ h with h|h
      .exact(hkM _ h).2.2 U
      .omega
     have hDS3:w.heap.size∉S3:=fun h=>by
      rcases hin _ h with h|h
      .exact(hkM _ h).2.1 U
      .omega
     have hl3:=hS3.to hlB hlS3;have hD3:=hS3.to hDB hDS3;have hx4:=Ext.setB w3 (w.heap.size+1) (.loop { ({ lo with state := .busy }:Loop)with state := .ready,pending:=none });refine⟨_,hl3,.inl ⟨rfl,fun x=>x=w.heap.size+1\/M' x,⟨⟨M',rfl,hjs _ _ _ _ hJ3 (hx4.mono (by simp))⟩,?_,hx4.to hD3 (by simp)⟩,⟨⟨(w.heap.size+1)::S3,fun x hx=>?_,?_⟩,fun x hx=>?_⟩⟩⟩
     .rw[EO hl3]
      congr 2
      cases lo;simp_all
     .rcases qai.1 hx with h|h
      .exact .inl (.inl h)
      .exact(hin x h).imp .inr id
     .exact(((hS.mono (by simp)).trans (hxB.mono (by simp))).trans (hS3.mono fun x h=>qaj _ h)).trans (hx4.mono (by simp))
     .rcases hx with h|h
      .exact .inl (.inl h)
      .exact(hM' x h).imp .inr id
    |ret =>
     obtain⟨hE3,S3,hS3,hDS3,hlS3⟩:=hq3;have hl3:=hS3.to hlB hlS3;have hD3:=hS3.to hDB hDS3;have hx4:=Ext.setB w3 (w.heap.size+1) (.loop { ({ lo with state := .busy }:Loop)with state := .done,pending:=some .ret });exact⟨_,hl3,.inr ⟨rfl,hes _ _ hE3 (hx4.mono (by simp)),⟨_,EO hl3,rfl,rfl⟩,hx4.to hD3 (by simp)⟩⟩
    |exit id=>exact hq3.elim
    |goto t=>exact hq3.elim
    |panic c=>exact hq3.elim
    |outgrown=>exact hq3.elim
   |exit id=>exact hq.elim
   |goto t=>exact hq.elim
   |ret=>exact hq.elim
   |panic c=>exact hq.elim
   |outgrown=>exact hq.elim
 .intro v w3 h
  rcases h with⟨Mh,⟨M,_,h1⟩,h2,h3⟩|⟨h1,h2,h3⟩
  .have hx4:=Ext.setB w3 (w.heap.size+1) (.loop { lo with state := .exhausted });exact⟨lo,h2,by rw[hlo];exact(fun h=>by cases h),ND (by rw[hlo]) (hend M _ (hjs _ _ _ _ h1 (hx4.mono (by simp))) (hx4.to h3 (by simp)))⟩
  .obtain⟨lp,h2,h4,h5⟩:=h2;have hx4:=Ext.setB w3 (w.heap.size+1) (.loop { lp with state := .exhausted });exact⟨lp,h2,by rw[h4];exact(fun h=>by cases h),Qg h5 (hret _ (hes _ _ h1 (hx4.mono (by simp))) (hx4.to h3 (by simp)))⟩
theorem Ij{w:World}{D:Nat}{ds:List Deferred}{K:World->Prop}(hD:w.heap[D]?=some (.deferred (some [])))(hds:ds=[{ target := .collected D,args:=#[] }])(hK:∀wF,Ext [D] w wF->K wF):Marks ds w K:=by
 subst hds;exact⟨D,rfl,hD,hK _ (Ext.setB w D _)⟩
theorem Ac1{C:World->Prop}{K:Env->Prop}{ops rest:List Oper}{dst:Option Tmp}{ty:TypeId}{pos:String}{af:Array Edge}{g:Option (Nat × Bool)}{t:TypeId}{parts:Array (Nat × Operand)}{pl:List (Nat × Nat)}{zl:List Value}(l:List Value)(hg:AV ⟨dst,.build t parts,ty,pos,af,g⟩ ops e=true)(hp:Dh P t=some pl)(hz:Cd P t=some zl)(hl:Instr.fill (fun i=>pl.toArray[i]?) zl.toArray (parts.toList.map fun p=>(p.1,ev e p.2))=some l.toArray)(h:Wq P ops C K rest (put e dst (.agg l.toArray))) :
  Wq P ops C K (⟨dst,.build t parts,ty,pos,af,g⟩::rest) e:=by
 refine Et hg (fun w _=>?_) h;have hb:P.built t (parts.map fun(i,x)=>(i,ev e x)).toList=some l.toArray:=PV hp hz (by rw[qcu];exact hl);simp[execOp,run_build w t _ _ hb]
end
section
variable {P:Program}{r:Option Nat}{ops rest:List Oper}{Q:Exit->Env->World->Prop}{e:Env}{w w0:World}{S:List Nat}{L:List (Nat × Obj)}{C:World->Prop}{K:Env->Prop}{dst:Option Tmp}{ty:TypeId}{pos:String}{af:Array Edge}{g:Option (Nat × Bool)}
theorem Ai3{P:Program}{t el:TypeId}(hu:P.underlying t=some (.pointer el))(d:Nat)(a:Option Addr)(w:World):(Op.equalIn (d+1) t (.pointer a) (.pointer none)).run P w=.ok a.isNone w:=by
 cases a <;> simp[Op.equalIn,AO hu]
theorem US{P:Program}{t el:TypeId}(hu:P.underlying t=some (.pointer el))(a:Option Addr)(w:World):(binOp .eql t (.pointer a) (.pointer none)).run P w=.ok (.bool a.isNone) w:=by
 simp only[binOp,Sem.run_bind,Op.equal,Op.maxDepth,Ai3 hu 9999];cases a <;> rfl
theorem Cw{t t2:TypeId}{x:Operand}{a:Option Addr}{el:TypeId}(hu:P.underlying t=some (.pointer el))(hx:ev e x=.pointer a)(h:A7 P r ops Q rest (put e dst (.bool a.isNone)) w)(hg:AV ⟨dst,.binOp .eql t x (.const (.pointer none)) t2,ty,pos,af,g⟩ ops e=true:=by exact U):A7 P r ops Q (⟨dst,.binOp .eql t x (.const (.pointer none)) t2,ty,pos,af,g⟩::rest) e w :=
 B7 hg rfl (by
  have hq:eqGuard .eql t x (.const (.pointer none)) (.pointer a) (.pointer none)=pure ():=rfl;have he:ev e (.const (.pointer none))=.pointer none:=rfl
  simp only[execOp,hx,he,hq,Sem.run_bind,Sem.run_pure,Result.andThen_ok,US hu]) h
theorem WV{t k el:TypeId}{kk:IntKind}{x y:Operand}{b:Nat}{o:Obj}{m:List (Int × Value)}{n:Int}{z:Value}(ht:Ip P t=some (k,el))(hk:P.underlying k=some (.int kk))(hz:(P.info? el).bind (·.zero)=some z)(hx:ev e x=.map (some b))(hy:ev e y=.int kk n)(hb:w.heap[b]?=some o)(hM:Df kk m o) :
  (execOp (ev e) ⟨dst,.lookup t x y false,ty,pos,af,g⟩).run P w=.ok (.value ((Ea m n).getD z)) w:=by
 obtain⟨es,clock,rfl,hes,_⟩:=hM;have hf:=Gn kk n es.toList m 0 hes;have hgo:(getObj b).run P w=.ok (.map es clock) w:=by simp[getObj,Sem.run,hb]
 have hzr:(zeroValue el).run P w=.ok z w:=by
  cases hi:P.info? el with
  |none=>rw[hi]at hz;cases hz
  |some i=>rw[hi]at hz;simp at hz;simp[zeroValue,typeInfo,program,Sem.run,hi,hz]
 cases hm:Ea m n with
 |none=>simp[execOp,Instr.lookup,AO (Fv ht),hx,hy,hgo,DE hk,Instr.findKey,AO hk,hf.1 hm,hzr]
 |some v =>
  obtain⟨i,hi,_⟩:=hf.2 v hm;simp[execOp,Instr.lookup,AO (Fv ht),hx,hy,hgo,DE hk,Instr.findKey,AO hk,hi]
theorem WW{t k el:TypeId}{kk:IntKind}{x y:Operand}{b:Nat}{o:Obj}{m:List (Int × Value)}{n:Int}{z:Value}(hg:AV ⟨dst,.lookup t x y false,ty,pos,af,g⟩ ops e=true)(ht:Ip P t=some (k,el))(hk:P.underlying k=some (.int kk))(hz:(P.info? el).bind (·.zero)=some z)(hx:ev e x=.map (some b))(hy:ev e y=.int kk n)(hb:w.heap[b]?=some o)(hM:Df kk m o)(h:A7 P r ops Q rest (put e dst ((Ea m n).getD z)) w):A7 P r ops Q (⟨dst,.lookup t x y false,ty,pos,af,g⟩::rest) e w :=
 B7 hg rfl (WV ht hk hz hx hy hb hM) h
end
section
variable {P:Program}{r:Option Nat}{ops rest:List Oper}{Q:Exit->Env->World->Prop}{e:Env}{w w0:World}{S:List Nat}{L:List (Nat × Obj)}{dst:Option Tmp}{ty:TypeId}{pos:String}{af:Array Edge}{g:Option (Nat × Bool)}
theorem Qh(z:Array Value)(n:Nat):(Builtin.zeroCells z n).toList=(List.replicate n z.toList).flatten:=by
 have hr:(List.replicate n z.toList).flatten=(List.replicate n z.toList).flatMap id:=List.flatMap_id.symm;rw[hr]
 rcases qc8 z.size with h|h
 .have h2:z.toList=[]:=by rw[<-List.length_eq_zero_iff];simpa using h
  simp[Builtin.zeroCells,h,h2]
 .refine qci fun j=>?_;rw[UM (s:=z.size) (fun x hx=>by rw[(List.mem_replicate.1 hx).2];simp) h j];unfold Builtin.zeroCells;simp only[qcu,qa1,Array.toList_range,List.getElem?_replicate];have hm:j % z.size<z.size:=qda _ h
  by_cases hj:j<n*z.size
  .rw[qbl (by simpa using hj),if_pos (Nat.div_lt_of_lt_mul (by rw[Nat.mul_comm];exact hj))];simp[hm]
  .rw[qbi (by simpa using hj),if_neg (fun h7=>hj (by have:=(Nat.div_lt_iff_lt_mul h).1 h7;exact this))];rfl
theorem Sj{t el:TypeId}{x:Operand}{b o k n c s:Nat}{t2:TypeId}{l zl:List Value}(hg:AV ⟨dst,.call ⟨.builtin .clear,#[x],#[t]⟩,ty,pos,af,g⟩ ops e=true)(hu:C1 P t=some el)(hz:Cd P el=some zl)(hzl:zl.length=s)(h1:∀v∈zl,AY v=true)(hx:ev e x=.slice (some ⟨b,o,none⟩) n c)(H:Ctx w0 S w L)(hk:L[k]?=some (b,Bl t2 l))(hi:o+n*s<=l.length)(h:∀w',Ctx w0 S w' (L.set k (b,Bl t2 (over l o (List.replicate n zl).flatten)))->A7 P r ops Q rest (put e dst (.tuple #[])) w') :
  A7 P r ops Q (⟨dst,.call ⟨.builtin .clear,#[x],#[t]⟩,ty,pos,af,g⟩::rest) e w:=by
 obtain⟨z,hz1,hz2⟩:=G4 hz w;have hlen:(List.replicate n zl).flatten.length=n*s:=by simp[hzl]
 obtain⟨w',hr,he,hb⟩:=EP (P:=P) (o:=o) (List.replicate n zl).flatten l w 0 (fun v hv=>by
  obtain⟨y,hy,hvy⟩:=List.mem_flatten.1 hv;obtain⟨-,rfl⟩:=List.mem_replicate.1 hy
  exact h1 v hvy) (H.get hk) (by omega)
 cases n with
 |zero =>
  have hw:Ctx w0 S w (L.set k (b,Bl t2 (over l o (List.replicate 0 zl).flatten))):=by
   have hset:L.set k (b,Bl t2 l)=L:=by
    obtain⟨h1,h2⟩:=qa8.1 hk;rw[<-h2];exact List.set_getElem_self h1
   show Ctx w0 S w (L.set k (b,Bl t2 l));rw[hset];exact H
  refine B7 (w':=w) (v := .tuple #[]) hg U ?_ (h w hw);simp[execOp,resolve,invoke,builtin,hx,Builtin.clear_,AO (Cx hu)]
 |succ n =>
  refine B7 (w':=w') (v := .tuple #[]) hg U ?_ (h w' (H.turn hk _ he (by simpa using hb)));simp[execOp,resolve,invoke,builtin,hx,Builtin.clear_,AO (Cx hu),hz1,Qh,hz2,hr]
end
def Yr(P:Program)(gf:FuncId)(ca:Array Value)(Z:List Nat)(K:Mt->World->Prop)(xs:List (List Value))(S0:World->Prop):Prop :=
 ∀(l:Nat) (w:World),S0 w->∀(J:Nat->Mt->World->Prop) (E:World->Prop),(∃M,J 0 M w)->(∀i M w' w'',J i M w'->Ext Z w' w''->J i M w'')->(∀w' w'',E w'->Ext Z w' w''->E w'')->(∀i M w',J i M w'->(∀x,M x->x<w'.heap.size)/\K M w') ->
  (∀i v M w',xs[i]?=some v->J i M w'->YieldAt P l v w' fun u w''=>(u=.bool true/\∃M',J (i+1) M' w''/\Grw M M' w' w'')\/(u=.bool false/\E w'')) ->
  Ret P gf (#[.func (.yield l) #[] #[]]++ca) w fun _ w'=>(∃M,J xs.length M w')\/E w'
section
variable {P:Program}{Q:Exit->Env->World->Prop}{e:Env}{w:World}{n:Nat}
theorem UT{f:Operand}{ps:Array Tmp}{assign body:Code}{gf:Nat}{ca:Array Value}{Z:List Nat}{K:Mt->World->Prop}{xs:List (List Value)}{S0:World->Prop}(hf:ev e f=.func (.func gf) #[] ca)(hc:Aq P gf=true)(hI:Yr P gf ca Z K xs S0)(hfit:(IJ n assign && IJ n body)=true)(hps:(ps.toList.all fun p=>decide (p<n))=true)(hlen:∀v∈xs,v.length=ps.size)(J:Nat->Mt->World->Prop)(E:World->Prop)(hZ:w.heap.size∉Z/\w.heap.size+1∉Z)(hS0:∀w2,Ext [] w w2->S0 w2)(hj0:∀w2,Ext [] w w2->w.heap.size+1<w2.heap.size->∃M,J 0 M w2)(hjs:∀i M w' w'',J i M w'->Ext (w.heap.size::(w.heap.size+1)::Z) w' w''->J i M w'')(hes:∀w' w'',E w'->Ext (w.heap.size::(w.heap.size+1)::Z) w' w''->E w'')(hk:∀i M w',J i M w'->(∀x,M x->x<w'.heap.size/\x≠w.heap.size/\x≠w.heap.size+1)/\K (fun x=>x=w.heap.size+1\/M x) w')(hb:∀i v M w',xs[i]?=some v->J i M w'->w.heap.size+1<w'.heap.size->W P (some (w.heap.size+1)) n assign (TF P w.heap.size (w.heap.size+1) n body (J (i+1)) E M w') (Qe ⟨e.g,[]⟩ (ps.toList.zip v)) w')(hend:∀M w4,J xs.length M w4->w4.heap[w.heap.size]?=some (.deferred (some []))->Q .normal ⟨e.g,{ target := .collected w.heap.size,args:=#[] }::e.ds⟩ w4)(hret:∀w4,E w4->w4.heap[w.heap.size]?=some (.deferred (some []))->Q .ret ⟨e.g,{ target := .collected w.heap.size,args:=#[] }::e.ds⟩ w4):W P none n (.rangeFunc f ps assign body) Q e w:=by
 refine KF hf hc ?_;intro fn tmps hts htm D l w2 hDe hle hx2 hD hrec;subst hDe hle;obtain⟨lo,hlo,hrec'⟩:∃lo,lo=({ state := .ready,pending:=none,fn,tmps,params:=ps,assign,body,defers:=w.heap.size }:Loop)/\w2.heap[w.heap.size+1]?=some (.loop lo):=⟨_,rfl,hrec⟩;have hsz2:=Bd hrec';have hne:w.heap.size≠w.heap.size+1:=by omega
 refine Ret.mono (hI (w.heap.size+1) w2 (hS0 w2 hx2) (fun i Mh w'=>(∃M:Mt,(Mh=fun x=>x=w.heap.size+1\/M x)/\J i M w')/\w'.heap[w.heap.size+1]?=some (.loop lo)/\w'.heap[w.heap.size]?=some (.deferred (some []))) (fun w'=>E w'/\(∃lp,w'.heap[w.heap.size+1]?=some (.loop lp)/\lp.state=.done/\lp.pending=some .ret)/\w'.heap[w.heap.size]?=some (.deferred (some [])))
  (let ⟨M,hM⟩:=hj0 w2 hx2 hsz2;⟨_,⟨M,rfl,hM⟩,hrec',hD⟩) (fun i Mh w' w'' h hx=>⟨let ⟨M,hMh,hM⟩:=h.1;⟨M,hMh,hjs i M w' w'' hM (hx.mono fun x hx=>qaj _ (qaj _ hx))⟩,hx.to h.2.1 hZ.2,hx.to h.2.2 hZ.1⟩)
  (fun w' w'' h hx=>⟨hes w' w'' h.1 (hx.mono fun x hx=>qaj _ (qaj _ hx)),let ⟨lp,h1,h2⟩:=h.2.1;⟨lp,hx.to h1 hZ.2,h2⟩,hx.to h.2.2 hZ.1⟩) (fun i Mh w' h=>by
   obtain⟨⟨M,rfl,hM⟩,hl,_⟩:=h
   exact⟨fun x hx=>hx.elim (fun h=>by rw[h];exact Bd hl) fun h=>((hk i M w' hM).1 x h).1,(hk i M w' hM).2⟩) ?_) ?_
 .rintro i v Mh w' hx ⟨⟨M,rfl,hJ⟩,hl,hDw⟩;have hsz:=Bd hl;have hkM:=(hk i M w' hJ).1;have hbody:=hb i v M w' hx hJ hsz;have hlp:lo.params=ps:=by rw[hlo]
  have hla:lo.assign=assign:=by rw[hlo]
  have hlb:lo.body=body:=by rw[hlo]
  have hlt:lo.tmps=tmps:=by rw[hlo]
  have hls:lo.state=.ready:=by rw[hlo]
  have hpd:lo.pending=none:=by rw[hlo]
  refine Qb hl (by rw[hlp];exact hlen v (qac hx)) ?_;rw[hlp,hla,hlb,hlt,Qf];have hs0:Sim n (⟨e.g,[]⟩:Env) ({ tmps:=tmps,defers:=[] }:Act):=⟨rfl,hts,htm⟩;refine Mj (Qe ⟨e.g,[]⟩ (ps.toList.zip v)) (Pv _ hs0 fun p hp=>?_) hfit ?_
  .have h1:=qaw.1 hps p.1 (List.of_mem_zip hp).1;exact qba h1
  .refine EN assign ?_ hbody;intro x e1 w1 hq
   cases x with
   |normal =>
    obtain⟨hS,hW⟩:=hq;have hl1:=hS.to hl (by simp);have hD1:=hS.to hDw (by simp);have hxB:=Ext.setB w1 (w.heap.size+1) (.loop { lo with state := .busy });refine⟨lo,hl1,hls,EN body ?_ (hW _ hxB)⟩;have hlB:(w1.putObj (w.heap.size+1) (.loop { lo with state := .busy })).heap[w.heap.size+1]?=some (.loop { lo with state := .busy }):=EO hl1;have hDB:(w1.putObj (w.heap.size+1) (.loop { lo with state := .busy })).heap[w.heap.size]?=some (.deferred (some [])):=hxB.to hD1 (by simp);intro y e3 w3 hq3
    cases y with
    |normal =>
     obtain⟨M',hJ3,hM',S3,hS3,hin⟩:=hq3
     have hlS3:w.heap.size+1∉S3:=fun h=>by
      rcases hin _ h with h|h
      .exact(hkM _ h).2.2 U
      .omega
     have hDS3:w.heap.size∉S3:=fun h=>by
      rcases hin _ h with h|h
      .exact(hkM _ h).2.1 U
      .omega
     have hl3:=hS3.to hlB hlS3;have hD3:=hS3.to hDB hDS3;have hx4:=Ext.setB w3 (w.heap.size+1) (.loop { ({ lo with state := .busy }:Loop)with state := .ready,pending:=none });refine⟨_,hl3,.inl ⟨rfl,fun x=>x=w.heap.size+1\/M' x,⟨⟨M',rfl,hjs _ _ _ _ hJ3 (hx4.mono (by simp))⟩,?_,hx4.to hD3 (by simp)⟩,⟨⟨(w.heap.size+1)::S3,fun x hx=>?_,?_⟩,fun x hx=>?_⟩⟩⟩
     .rw[EO hl3]
      congr 2
      cases lo;simp_all
     .rcases qai.1 hx with h|h
      .exact .inl (.inl h)
      .exact(hin x h).imp .inr id
     .exact(((hS.mono (by simp)).trans (hxB.mono (by simp))).trans (hS3.mono fun x h=>qaj _ h)).trans (hx4.mono (by simp))
     .rcases hx with h|h
      .exact .inl (.inl h)
      .exact(hM' x h).imp .inr id
    |ret =>
     obtain⟨hE3,S3,hS3,hDS3,hlS3⟩:=hq3;have hl3:=hS3.to hlB hlS3;have hD3:=hS3.to hDB hDS3;have hx4:=Ext.setB w3 (w.heap.size+1) (.loop { ({ lo with state := .busy }:Loop)with state := .done,pending:=some .ret });exact⟨_,hl3,.inr ⟨rfl,hes _ _ hE3 (hx4.mono (by simp)),⟨_,EO hl3,rfl,rfl⟩,hx4.to hD3 (by simp)⟩⟩
    |exit id=>exact hq3.elim
    |goto t=>exact hq3.elim
    |panic c=>exact hq3.elim
    |outgrown=>exact hq3.elim
   |exit id=>exact hq.elim
   |goto t=>exact hq.elim
   |ret=>exact hq.elim
   |panic c=>exact hq.elim
   |outgrown=>exact hq.elim
 .intro v w3 h
  rcases h with⟨Mh,⟨M,_,h1⟩,h2,h3⟩|⟨h1,h2,h3⟩
  .have hx4:=Ext.setB w3 (w.heap.size+1) (.loop { lo with state := .exhausted });exact⟨lo,h2,by rw[hlo];exact(fun h=>by cases h),ND (by rw[hlo]) (hend M _ (hjs _ _ _ _ h1 (hx4.mono (by simp))) (hx4.to h3 (by simp)))⟩
  .obtain⟨lp,h2,h4,h5⟩:=h2;have hx4:=Ext.setB w3 (w.heap.size+1) (.loop { lp with state := .exhausted });exact⟨lp,h2,by rw[h4];exact(fun h=>by cases h),Qg h5 (hret _ (hes _ _ h1 (hx4.mono (by simp))) (hx4.to h3 (by simp)))⟩
end
section
variable {P:Program}{r:Option Nat}{ops:List Oper}{Q:Exit->Env->World->Prop}
def Qk(K:Env->World->Prop):Exit->Env->World->Prop
 | .normal,e,w=>K e w
 |_,_,_=>False
theorem ZU{K:Env->World->Prop}{o:Oper}{rest:List Oper}{e:Env}{w:World}(h:A7 P r ops (Qk K) [o] e w)(hk:∀e w,K e w->A7 P r ops Q rest e w):A7 P r ops Q (o::rest) e w:=by
 unfold A7 at h |-
 by_cases hw:AV o ops e=true
 .rw[if_pos hw]at h |-;generalize(o.semAt r (ev e)).run P w=res at h |-
  match res,h with
  | .ok (.value v) w',h=>exact hk _ _ h
  | .ok .skip w',h=>exact hk _ _ h
  | .ok (.defer d) w',h=>exact hk _ _ h
  | .ok (.enter f args) w',h=>exact Ret.mono h fun v w'' hv=>hk _ _ hv
  | .ok (.round l f tmps assign body) w',h=>exact RoundIn.mono h fun x w'' ⟨v,hx,hv⟩=>⟨v,hx,hk _ _ hv⟩
  | .halt (.panic v) w',h=>exact h.elim
 .rw[if_neg hw]at h |-;exact hk _ _ h
theorem Oz{md:Region.Mode}{arr:Array Oper}{l:Array Bool}{i:Nat}(h:i∈Region.ready md arr l):(l.setIfInBounds i true).toList.count false+1=l.toList.count false:=by
 have h1:=(mem_ready.1 h).1
 have hi:i<l.size:=by
  rcases qap i l.size with h|h
  .exact h
  .rw[qax,qer h]at h1;cases h1
 have hv:l.toList[i]'(by simpa using hi)=false:=by
  rw[qax,qce hi]at h1
  simpa using h1
 have hpos:0<l.toList.count false:=List.count_pos_iff.2 (by rw[<-hv];exact List.getElem_mem _);rw[Array.toList_setIfInBounds,List.count_set (by simpa using hi),hv,if_pos (by rfl),if_neg (by simp)];omega
theorem Ac2{md:Region.Mode}{arr:Array Oper}{I:Array Bool->Env->World->Prop}(harr:arr.toList=ops)(hstep:∀l e w i o,I l e w->i∈Region.ready md arr l->arr[i]?=some o->A7 P r ops (Qk (I (l.setIfInBounds i true))) [o] e w)(hend:∀l e w,I l e w->Region.ready md arr l=[]->Q .normal e w):∀(f t:Nat) (l:Array Bool) (e:Env) (w:World),l.toList.count false<=f->I l e w->A7 P r ops Q (CJ ops (Region.linearise.go md arr f t l [])) e w
 |0,t,l,e,w,hc,h=>by
  refine hend l e w h ?_
  cases hr:Region.ready md arr l with
  |nil=>rfl
  |cons i rs =>
   have:=Oz (md:=md) (arr:=arr) (l:=l) (i:=i) (by rw[hr];exact qak ..);omega
 |f+1,t,l,e,w,hc,h=>by
  simp only[Region.linearise.go]
  change A7 P r ops Q (CJ ops (match(Region.ready md arr l)[t % (Region.ready md arr l).length]? with
   |some i=>Region.linearise.go md arr f (t / (Region.ready md arr l).length) (l.setIfInBounds i true) [i]
   |none=>[].reverse)) e w
  cases hi:(Region.ready md arr l)[t % (Region.ready md arr l).length]? with
  |none =>
   refine hend l e w h ?_
   cases hr:Region.ready md arr l with
   |nil=>rfl
   |cons x xs =>
    rw[hr]at hi;have hlt:t % (x::xs).length<(x::xs).length:=qda _ (by simp);rw[qbl hlt]at hi;cases hi
  |some i =>
   have hir:=qac hi;obtain⟨_,o,ho,_⟩:=mem_ready.1 hir;have hcount:=Oz hir;have hol:ops[i]?=some o:=by rw[<-harr,qeh];exact ho
   dsimp only;rw[linearise_go_acc,List.reverse_singleton,List.singleton_append];simp only[CJ,hol];exact ZU (hstep l e w i o h hir ho) fun e' w' h'=>Ac2 harr hstep hend f _ _ e' w' (by omega) h'
theorem UU{id n:Nat}{arr:Array Oper}{I:Array Bool->Env->World->Prop}{e:Env}{w:World}(hm:P.follows .mixedOrders=true)(h0:I (Array.replicate arr.size false) e w.drew)(hstep:∀l e w i o,I l e w->i∈Region.ready .any arr l->arr[i]?=some o->A7 P r arr.toList (Qk (I (l.setIfInBounds i true))) [o] e w)(hend:∀l e w,I l e w->Region.ready .any arr l=[]->Q .normal e w):W P r n (.region id arr true) Q e w := .inl fun t=>by
 rw[hm];simp only[Region.schedule,Bool.true_or,if_true];exact Ac2 U hstep hend _ t _ e _ (by simp) h0
def KG(B:Nat->Nat)(i b:Nat):Nat->Nat:=fun j=>if j=i then b else B j
theorem NE(B:Nat->Nat)(i b:Nat):KG B i b i=b:=if_pos rfl
theorem Hd{B:Nat->Nat}{i b j:Nat}(h:j≠i):KG B i b j=B j:=if_neg h
def Jg(arr:Array Oper)(i:Nat):List Nat:=match arr[i]? with|some o=>(o.after.toList.filter (Region.binds .any)).map (·.on)|none=>[]
def R5(arr:Array Oper)(anc:Nat->List Nat):Nat->Bool
 |0=>true
 |n+1=>R5 arr anc n && ((anc n).all (fun k=>(Jg arr n).contains k || (Jg arr n).any fun j=>(anc j).contains k) && (Jg arr n).all fun j=>Nat.blt j n)
theorem GR{arr:Array Oper}{anc:Nat->List Nat}:∀{n:Nat},R5 arr anc n=true->∀i,i<n->(∀k∈anc i,k∈Jg arr i\/∃j∈Jg arr i,k∈anc j)/\∀j∈Jg arr i,j<i
 |n+1,h,i,hi=>by
  simp only[R5,qae]at h
  by_cases e:i=n
  .subst e;refine⟨fun k hk=>?_,fun j hj=>?_⟩
   .have:=qaw.1 h.2.1 k hk;rw[qbf,List.any_eq_true]at this;exact this.imp qdm.1 fun⟨j,h1,h2⟩=>⟨j,h1,qdm.1 h2⟩
   .have:=qaw.1 h.2.2 j hj
    simpa[Nat.blt_eq]using this
  .exact GR h.1 i (by omega)
theorem EL{arr:Array Oper}{anc:Nat->List Nat}{n:Nat}(h:R5 arr anc n=true):∀i,i<n->∀j∈anc i,j<i:=fun i=>by
 induction i using Nat.strongRecOn with
 |_ i ih =>
  intro hi j hj;obtain⟨h1,h2⟩:=GR h i hi
  rcases h1 j hj with h|⟨k,hk,h⟩
  .exact h2 j h
  .have:=h2 k hk;have:=ih k this (by omega) j h;omega
theorem Dq{arr:Array Oper}{l:Array Bool}{i:Nat}(h:i∈Region.ready .any arr l):∀j∈Jg arr i,l.getD j false=true:=fun j hj=>by
 obtain⟨_,o,ho,hall⟩:=mem_ready.1 h;unfold Jg at hj;rw[ho]at hj;obtain⟨d,hd,rfl⟩:=qah.1 hj;obtain⟨hd1,hd2⟩:=qbe.1 hd;exact hall d (qdl.1 hd1) hd2
theorem KH{arr:Array Oper}{l:Array Bool}{i:Nat}(hu:l.getD i true=false)(h:∀j∈Jg arr i,l.getD j false=true)(hi:i<arr.size:=by omega):i∈Region.ready .any arr l:=by
 refine mem_ready.2 ⟨hu,arr[i],qce hi,fun d hd hb=>h d.on ?_⟩;unfold Jg;rw[qce hi];exact qah.2 ⟨d,qbe.2 ⟨qdl.2 hd,hb⟩,rfl⟩
structure AI(n:Nat)(anc:Nat->List Nat)(d:Nat->Tmp)(val:Nat->(Nat->Nat)->Value)(obj:Nat->Option ((Nat->Nat)->Obj))(e0:Env)(w0:World)(l:Nat->Prop)(e:Env)(w:World)(B:Nat->Nat):Prop where
 ds:e.ds=e0.ds
 old:∀s,(∀i,i<n->s≠d i)->e.g s=e0.g s
 slot:∀i,i<n->l i->e.g (d i)=val i B
 ext:Ext [] w0 w
 blk:∀i ob,i<n->l i->obj i=some ob->w.heap[B i]?=some (ob B)/\w0.heap.size<=B i
 ne:∀i j,i<n->j<n->i≠j->l i->l j->obj i≠none->obj j≠none->B i≠B j
 cl:∀i,i<n->l i->∀j∈anc i,l j
def AQ(d:Nat->Tmp)(val:Nat->(Nat->Nat)->Value)(obj:Nat->Option ((Nat->Nat)->Obj))(i:Nat)(e:Env)(w:World)(B:Nat->Nat)(e':Env)(w':World):Prop :=
 ∃b,(∀ob,obj i=some ob->w.heap.size<=b/\w'.heap[b]?=some (ob (KG B i b)))/\Ext [] w w'/\e'=put e (some (d i)) (val i (KG B i b))
theorem Fc(e:Env)(s:Tmp)(v:Value):(put e (some s) v).g s=v:=by simp[put]
theorem E3{e:Env}{s t:Tmp}{v:Value}(h:t≠s):(put e (some s) v).g t=e.g t:=by
 cases hb:Nat.beq t s with
 |true=>exact absurd (qdk hb) h
 |false=>simp[put,hb]
theorem AI.step{n:Nat}{anc:Nat->List Nat}{d:Nat->Tmp}{val:Nat->(Nat->Nat)->Value}{obj:Nat->Option ((Nat->Nat)->Obj)}{e0:Env}{w0:World}{l:Nat->Prop}{e:Env}{w:World}{B:Nat->Nat}(A:AI n anc d val obj e0 w0 l e w B)(hd:∀i j,i<n->j<n->d i=d j->i=j)(hst:∀i k b B,i<n->k≠i->k∉anc i->val i (KG B k b)=val i B/\∀ob,obj i=some ob->ob (KG B k b)=ob B){i:Nat}(hi:i<n)(hu:¬l i)(hanc:∀j∈anc i,l j){e':Env}{w':World}(h:AQ d val obj i e w B e' w'):∃B',AI n anc d val obj e0 w0 (fun j=>j=i\/l j) e' w' B':=by
 obtain⟨b,hob,hx,rfl⟩:=h;have hsz:=A.ext.size;have hni:∀j,l j->j≠i:=fun j hj h=>hu (h ▸ hj);have hna:∀j,j<n->l j->i∉anc j:=fun j hj hl h=>hu (A.cl j hj hl i h);refine⟨KG B i b,A.ds,fun s hs=>?_,fun j hj hl=>?_,A.ext.trans hx,fun j ob hj hl ho=>?_,fun j k hj hk hjk hlj hlk oj ok=>?_,fun j hj hl k hk=>?_⟩
 .rw[E3 (hs i hi)];exact A.old s hs
 .rcases hl with rfl|hl
  .exact Fc _ _ _
  .rw[E3 fun h=>hni j hl (hd _ _ hj hi h),A.slot j hj hl,(hst j i b B hj (Ne.symm (hni j hl)) (hna j hj hl)).1]
 .rcases hl with rfl|hl
  .obtain⟨h1,h2⟩:=hob ob ho;rw[NE];exact⟨h2,by omega⟩
  .obtain⟨h1,h2⟩:=A.blk j ob hj hl ho;rw[Hd (hni j hl),(hst j i b B hj (Ne.symm (hni j hl)) (hna j hj hl)).2 ob ho];exact⟨hx.to h1 (by simp),h2⟩
 .have hlt:∀m,m<n->l m->obj m≠none->∀ob,obj i=some ob->B m<b:=fun m hm hl om ob ho=>by
   cases hom:obj m with
   |none=>exact absurd hom om
   |some o2 =>
    have:=Bd (A.blk m o2 hm hl hom).1;have:=(hob ob ho).1;omega
  rcases hlj with rfl|hlj
  .rcases hlk with rfl|hlk
   .exact absurd U hjk
   .rw[NE,Hd (hni k hlk)]
    cases hoj:obj j with
    |none=>exact absurd hoj oj
    |some o2=>have:=hlt k hk hlk ok o2 hoj;omega
  .rcases hlk with rfl|hlk
   .rw[NE,Hd (hni j hlj)]
    cases hok:obj k with
    |none=>exact absurd hok ok
    |some o2=>have:=hlt j hj hlj oj o2 hok;omega
   .rw[Hd (hni j hlj),Hd (hni k hlk)];exact A.ne j k hj hk hjk hlj hlk oj ok
 .rcases hl with rfl|hl
  .exact .inr (hanc k hk)
  .exact .inr (A.cl j hj hl k hk)
theorem Ac3{id m n:Nat}{arr:Array Oper}{anc:Nat->List Nat}(d:Nat->Tmp)(val:Nat->(Nat->Nat)->Value)(obj:Nat->Option ((Nat->Nat)->Obj)){e:Env}{w:World}(hm:P.follows .mixedOrders=true)(hsz:arr.size=n+1)(hlast:∀k,k<n->k∈anc n)(hd:∀i j,i<n->j<n->d i=d j->i=j)(hst:∀i k b B,i<n->k≠i->k∉anc i->val i (KG B k b)=val i B/\∀ob,obj i=some ob->ob (KG B k b)=ob B)(hop:∀i o e' w' B,i<n->arr[i]?=some o->(∀s,(∀j,j<n->s≠d j)->e'.g s=e.g s)->(∀j∈anc i,e'.g (d j)=val j B)->Ext [] w.drew w'->(∀j∈anc i,∀ob,obj j=some ob->w'.heap[B j]?=some (ob B))->A7 P r arr.toList (Qk (AQ d val obj i e' w' B)) [o] e' w')(hfin:∀o e' w' B,arr[n]?=some o->AI n anc d val obj e w.drew (fun _=>True) e' w' B->A7 P r arr.toList (Qk fun e'' w''=>Q .normal e'' w'') [o] e' w')(hanc:R5 arr anc (n+1)=true:=by kernel_rfl):W P r m (.region id arr true) Q e w:=by
 have hspec:=GR hanc
 have hall:∀{l:Array Bool},(∀i,i<n->l.getD i false=true->∀j∈anc i,l.getD j false=true)->∀i,i<n+1->i∈Region.ready .any arr l->∀k∈anc i,l.getD k false=true:=fun{l} hcl i hi hr k hk=>by
  rcases(hspec i hi).1 k hk with h|⟨j,h1,h2⟩
  .exact Dq hr k h
  .exact hcl j (by have:=(hspec i hi).2 j h1;omega) (Dq hr j h1) k h2
 have hset:∀{l:Array Bool} {i:Nat},l.size=n+1->i<n+1->∀j,((l.setIfInBounds i true).getD j false=true)=(j=i\/l.getD j false=true):=fun{l i} hl hi j=>by
  apply propext
  by_cases e:j=i
  .subst e;rw[qax,qd8 (by omega)];simp
  .rw[qax,qd9 (Ne.symm e),<-qax];simp[e]
 refine UU (I:=fun l e' w'=>l.size=n+1/\((l.getD n false=false/\∃B,AI n anc d val obj e w.drew (fun i=>l.getD i false=true) e' w' B)\/((∀i,i<n+1->l.getD i false=true)/\Q .normal e' w'))) hm ?_ ?_ ?_
 .refine⟨by simp[hsz],.inl ⟨by simp[hsz],fun _=>0,rfl,fun _ _=>rfl,fun i _ h=>?_,.refl _ _,fun i _ _ h=>?_,fun i j _ _ _ h=>?_,fun i _ h=>?_⟩⟩ <;>
   (exfalso;rw[getD_replicate_false]at h;cases h)
 .rintro l e' w' i o ⟨hls,h⟩ hr ho;have hi:i<n+1:=by have:=(qcs.1 ho).1;omega
  have hun:¬l.getD i false=true:=fun h=>by
   have h1:=(mem_ready.1 hr).1;rw[qax,qce (by omega)]at h h1;simp at h h1;rw[h]at h1;cases h1
  rcases h with⟨hn,B,A⟩|⟨hn,_⟩
  .have ha:=hall A.cl i hi hr
   by_cases e1:i=n
   .subst e1;refine C0 ?_ _ _ _ (hfin o e' w' B ho ⟨A.ds,A.old,fun j hj _=>A.slot j hj (ha j (hlast j hj)),A.ext,fun j ob hj _=>A.blk j ob hj (ha j (hlast j hj)),fun j k hj hk hjk _ _=>A.ne j k hj hk hjk (ha j (hlast j hj)) (ha k (hlast k hk)),fun _ _ _ _ _=>trivial⟩);intro x e2 w2 hq
    cases x with
    |normal=>exact⟨by simp[hls],.inr ⟨fun j hj=>by
      rw[hset hls hi]
      by_cases hji:j=i
      .exact .inl hji
      .exact .inr (ha j (hlast j (by omega))),hq⟩⟩
    |exit id=>exact hq.elim
    |goto l=>exact hq.elim
    |ret=>exact hq.elim
    |panic c=>exact hq.elim
    |outgrown=>exact hq.elim
   .have hin:i<n:=by omega
    refine C0 ?_ _ _ _ (hop i o e' w' B hin ho A.old (fun j hj=>?_) A.ext fun j hj ob hob=>?_)
    .intro x e2 w2 hq
     cases x with
     |normal =>
      obtain⟨B',A'⟩:=A.step hd hst hin hun ha hq;refine⟨by simp[hls],.inl ⟨?_,B',?_⟩⟩
      .cases hc:(l.setIfInBounds i true).getD n false with
       |false=>rfl
       |true =>
        rw[hset hls hi]at hc
        rcases hc with h|h
        .exact absurd h.symm e1
        .rw[hn]at h;cases h
      .have hf:(fun j=>(l.setIfInBounds i true).getD j false=true)=fun j=>j=i\/l.getD j false=true:=funext fun j=>hset hls hi j;rw[hf];exact A'
     |exit id=>exact hq.elim
     |goto l=>exact hq.elim
     |ret=>exact hq.elim
     |panic c=>exact hq.elim
     |outgrown=>exact hq.elim
    .exact A.slot j (qcj (by
      rcases(hspec i hi).1 j hj with h|⟨k,h1,h2⟩
      .exact(hspec i hi).2 j h
      .have h3:=(hspec i hi).2 k h1
       exact qa7 (show j<k from EL hanc k (by omega) j h2) (by omega)) hin) (ha j hj)
    .exact(A.blk j ob (qcj (EL hanc i hi j hj) hin) (ha j hj) hob).1
  .exact absurd (hn i hi) hun
 .rintro l e' w' ⟨hls,h⟩ hr
  rcases h with⟨hn,B,A⟩|⟨_,h⟩
  .exfalso
   have hal:∀i,i<n+1->l.getD i false=true:=fun i=>by
    induction i using Nat.strongRecOn with
    |_ i ih =>
     intro hi
     cases hc:l.getD i false with
     |true=>rfl
     |false =>
      have hu:l.getD i true=false:=by
       rw[qax,qce (by omega)]at hc |-
       simpa using hc
      have:=KH (arr:=arr) (l:=l) (i:=i) hu fun j hj=>ih j ((hspec i hi).2 j hj) (by have:=(hspec i hi).2 j hj;omega);rw[hr]at this;cases this
   rw[hal n (by omega)]at hn;cases hn
  .exact h
end
section
variable {P:Program}{r:Option Nat}{ops:List Oper}{Q:Exit->Env->World->Prop}
def KI{β:Type}(B:Nat->β)(i:Nat)(b:β):Nat->β:=fun j=>if j=i then b else B j
theorem Jr{β:Type}(B:Nat->β)(i:Nat)(b:β):KI B i b i=b:=if_pos rfl
theorem JL{β:Type}{B:Nat->β}{i:Nat}{b:β}{j:Nat}(h:j≠i):KI B i b j=B j:=if_neg h
structure AIB{β:Type}(bk:β->Nat)(good:Nat->β->Prop)(n:Nat)(anc:Nat->List Nat)(d:Nat->Tmp)(val:Nat->(Nat->β)->Value)(obj:Nat->Option ((Nat->β)->Obj))(e0:Env)(w0:World)(l:Nat->Prop)(e:Env)(w:World)(B:Nat->β):Prop where
 ds:e.ds=e0.ds
 old:∀s,(∀i,i<n->s≠d i)->e.g s=e0.g s
 slot:∀i,i<n->l i->e.g (d i)=val i B
 ext:Ext [] w0 w
 blk:∀i ob,i<n->l i->obj i=some ob->w.heap[bk (B i)]?=some (ob B)/\w0.heap.size<=bk (B i)
 ne:∀i j,i<n->j<n->i≠j->l i->l j->obj i≠none->obj j≠none->bk (B i)≠bk (B j)
 good:∀i,i<n->l i->good i (B i)
 cl:∀i,i<n->l i->∀j∈anc i,l j
def AQB{β:Type}(bk:β->Nat)(good:Nat->β->Prop)(d:Nat->Tmp)(val:Nat->(Nat->β)->Value)(obj:Nat->Option ((Nat->β)->Obj))(i:Nat)(e:Env)(w:World)(B:Nat->β)(e':Env)(w':World):Prop :=
 ∃b,good i b/\(∀ob,obj i=some ob->w.heap.size<=bk b/\w'.heap[bk b]?=some (ob (KI B i b)))/\Ext [] w w'/\e'=put e (some (d i)) (val i (KI B i b))
theorem AIB.step{β:Type}{bk:β->Nat}{good:Nat->β->Prop}{n:Nat}{anc:Nat->List Nat}{d:Nat->Tmp}{val:Nat->(Nat->β)->Value}{obj:Nat->Option ((Nat->β)->Obj)}{e0:Env}{w0:World}{l:Nat->Prop}{e:Env}{w:World}{B:Nat->β}(A:AIB bk good n anc d val obj e0 w0 l e w B)(hd:∀i j,i<n->j<n->d i=d j->i=j)(hst:∀i k b B,i<n->k≠i->k∉anc i->val i (KI B k b)=val i B/\∀ob,obj i=some ob->ob (KI B k b)=ob B){i:Nat}(hi:i<n)(hu:¬l i)(hanc:∀j∈anc i,l j){e':Env}{w':World}(h:AQB bk good d val obj i e w B e' w'):∃B',AIB bk good n anc d val obj e0 w0 (fun j=>j=i\/l j) e' w' B':=by
 obtain⟨b,hgd,hob,hx,rfl⟩:=h;have hsz:=A.ext.size;have hni:∀j,l j->j≠i:=fun j hj h=>hu (h ▸ hj);have hna:∀j,j<n->l j->i∉anc j:=fun j hj hl h=>hu (A.cl j hj hl i h);refine⟨KI B i b,A.ds,fun s hs=>?_,fun j hj hl=>?_,A.ext.trans hx,fun j ob hj hl ho=>?_,fun j k hj hk hjk hlj hlk oj ok=>?_,fun j hj hl=>?_,fun j hj hl k hk=>?_⟩
 .rw[E3 (hs i hi)];exact A.old s hs
 .rcases hl with rfl|hl
  .exact Fc _ _ _
  .rw[E3 fun h=>hni j hl (hd _ _ hj hi h),A.slot j hj hl,(hst j i b B hj (Ne.symm (hni j hl)) (hna j hj hl)).1]
 .rcases hl with rfl|hl
  .obtain⟨h1,h2⟩:=hob ob ho;rw[Jr];exact⟨h2,by omega⟩
  .obtain⟨h1,h2⟩:=A.blk j ob hj hl ho;rw[JL (hni j hl),(hst j i b B hj (Ne.symm (hni j hl)) (hna j hj hl)).2 ob ho];exact⟨hx.to h1 (by simp),h2⟩
 .have hlt:∀m,m<n->l m->obj m≠none->∀ob,obj i=some ob->bk (B m)<bk b:=fun m hm hl om ob ho=>by
   cases hom:obj m with
   |none=>exact absurd hom om
   |some o2 =>
    have:=Bd (A.blk m o2 hm hl hom).1;have:=(hob ob ho).1;omega
  rcases hlj with rfl|hlj
  .rcases hlk with rfl|hlk
   .exact absurd U hjk
   .rw[Jr,JL (hni k hlk)]
    cases hoj:obj j with
    |none=>exact absurd hoj oj
    |some o2=>have:=hlt k hk hlk ok o2 hoj;omega
  .rcases hlk with rfl|hlk
   .rw[Jr,JL (hni j hlj)]
    cases hok:obj k with
    |none=>exact absurd hok ok
    |some o2=>have:=hlt j hj hlj oj o2 hok;omega
   .rw[JL (hni j hlj),JL (hni k hlk)];exact A.ne j k hj hk hjk hlj hlk oj ok
 .rcases hl with rfl|hl
  .rw[Jr];exact hgd
  .rw[JL (hni j hl)];exact A.good j hj hl
 .rcases hl with rfl|hl
  .exact .inr (hanc k hk)
  .exact .inr (A.cl j hj hl k hk)
theorem ZV{β:Type}[Inhabited β](bk:β->Nat)(good:Nat->β->Prop){id m n:Nat}{arr:Array Oper}{anc:Nat->List Nat}(d:Nat->Tmp)(val:Nat->(Nat->β)->Value)(obj:Nat->Option ((Nat->β)->Obj)){e:Env}{w:World}(hm:P.follows .mixedOrders=true)(hsz:arr.size=n+1)(hlast:∀k,k<n->k∈anc n)(hd:∀i j,i<n->j<n->d i=d j->i=j)(hst:∀i k b B,i<n->k≠i->k∉anc i->val i (KI B k b)=val i B/\∀ob,obj i=some ob->ob (KI B k b)=ob B)(hop:∀i o e' w' B,i<n->arr[i]?=some o->(∀s,(∀j,j<n->s≠d j)->e'.g s=e.g s)->(∀j∈anc i,e'.g (d j)=val j B)->Ext [] w.drew w'->(∀j∈anc i,∀ob,obj j=some ob->w'.heap[bk (B j)]?=some (ob B))->(∀j∈anc i,good j (B j))->A7 P r arr.toList (Qk (AQB bk good d val obj i e' w' B)) [o] e' w')(hfin:∀o e' w' B,arr[n]?=some o->AIB bk good n anc d val obj e w.drew (fun _=>True) e' w' B->A7 P r arr.toList (Qk fun e'' w''=>Q .normal e'' w'') [o] e' w')(hanc:R5 arr anc (n+1)=true:=by kernel_rfl):W P r m (.region id arr true) Q e w:=by
 have hspec:=GR hanc
 have hall:∀{l:Array Bool},(∀i,i<n->l.getD i false=true->∀j∈anc i,l.getD j false=true)->∀i,i<n+1->i∈Region.ready .any arr l->∀k∈anc i,l.getD k false=true:=fun{l} hcl i hi hr k hk=>by
  rcases(hspec i hi).1 k hk with h|⟨j,h1,h2⟩
  .exact Dq hr k h
  .exact hcl j (by have:=(hspec i hi).2 j h1;omega) (Dq hr j h1) k h2
 have hset:∀{l:Array Bool} {i:Nat},l.size=n+1->i<n+1->∀j,((l.setIfInBounds i true).getD j false=true)=(j=i\/l.getD j false=true):=fun{l i} hl hi j=>by
  apply propext
  by_cases e:j=i
  .subst e;rw[qax,qd8 (by omega)];simp
  .rw[qax,qd9 (Ne.symm e),<-qax];simp[e]
 refine UU (I:=fun l e' w'=>l.size=n+1/\((l.getD n false=false/\∃B,AIB bk good n anc d val obj e w.drew (fun i=>l.getD i false=true) e' w' B)\/((∀i,i<n+1->l.getD i false=true)/\Q .normal e' w'))) hm ?_ ?_ ?_
 .refine⟨by simp[hsz],.inl ⟨by simp[hsz],fun _=>default,rfl,fun _ _=>rfl,fun i _ h=>?_,.refl _ _,fun i _ _ h=>?_,fun i j _ _ _ h=>?_,fun i _ h=>?_,fun i _ h=>?_⟩⟩ <;>
   (exfalso;rw[getD_replicate_false]at h;cases h)
 .rintro l e' w' i o ⟨hls,h⟩ hr ho;have hi:i<n+1:=by have:=(qcs.1 ho).1;omega
  have hun:¬l.getD i false=true:=fun h=>by
   have h1:=(mem_ready.1 hr).1;rw[qax,qce (by omega)]at h h1;simp at h h1;rw[h]at h1;cases h1
  rcases h with⟨hn,B,A⟩|⟨hn,_⟩
  .have ha:=hall A.cl i hi hr
   by_cases e1:i=n
   .subst e1;refine C0 ?_ _ _ _ (hfin o e' w' B ho ⟨A.ds,A.old,fun j hj _=>A.slot j hj (ha j (hlast j hj)),A.ext,fun j ob hj _=>A.blk j ob hj (ha j (hlast j hj)),fun j k hj hk hjk _ _=>A.ne j k hj hk hjk (ha j (hlast j hj)) (ha k (hlast k hk)),fun j hj _=>A.good j hj (ha j (hlast j hj)),fun _ _ _ _ _=>trivial⟩);intro x e2 w2 hq
    cases x with
    |normal=>exact⟨by simp[hls],.inr ⟨fun j hj=>by
      rw[hset hls hi]
      by_cases hji:j=i
      .exact .inl hji
      .exact .inr (ha j (hlast j (by omega))),hq⟩⟩
    |exit id=>exact hq.elim
    |goto l=>exact hq.elim
    |ret=>exact hq.elim
    |panic c=>exact hq.elim
    |outgrown=>exact hq.elim
   .have hin:i<n:=by omega
    refine C0 ?_ _ _ _ (hop i o e' w' B hin ho A.old (fun j hj=>?_) A.ext (fun j hj ob hob=>?_) fun j hj=>A.good j (qcj (EL hanc i hi j hj) hin) (ha j hj))
    .intro x e2 w2 hq
     cases x with
     |normal =>
      obtain⟨B',A'⟩:=A.step hd hst hin hun ha hq;refine⟨by simp[hls],.inl ⟨?_,B',?_⟩⟩
      .cases hc:(l.setIfInBounds i true).getD n false with
       |false=>rfl
       |true =>
        rw[hset hls hi]at hc
        rcases hc with h|h
        .exact absurd h.symm e1
        .rw[hn]at h;cases h
      .have hf:(fun j=>(l.setIfInBounds i true).getD j false=true)=fun j=>j=i\/l.getD j false=true:=funext fun j=>hset hls hi j;rw[hf];exact A'
     |exit id=>exact hq.elim
     |goto l=>exact hq.elim
     |ret=>exact hq.elim
     |panic c=>exact hq.elim
     |outgrown=>exact hq.elim
    .exact A.slot j (qcj (by
      rcases(hspec i hi).1 j hj with h|⟨k,h1,h2⟩
      .exact(hspec i hi).2 j h
      .have h3:=(hspec i hi).2 k h1
       exact qa7 (show j<k from EL hanc k (by omega) j h2) (by omega)) hin) (ha j hj)
    .exact(A.blk j ob (qcj (EL hanc i hi j hj) hin) (ha j hj) hob).1
  .exact absurd (hn i hi) hun
 .rintro l e' w' ⟨hls,h⟩ hr
  rcases h with⟨hn,B,A⟩|⟨_,h⟩
  .exfalso
   have hal:∀i,i<n+1->l.getD i false=true:=fun i=>by
    induction i using Nat.strongRecOn with
    |_ i ih =>
     intro hi
     cases hc:l.getD i false with
     |true=>rfl
     |false =>
      have hu:l.getD i true=false:=by
       rw[qax,qce (by omega)]at hc |-
       simpa using hc
      have:=KH (arr:=arr) (l:=l) (i:=i) hu fun j hj=>ih j ((hspec i hi).2 j hj) (by have:=(hspec i hi).2 j hj;omega);rw[hr]at this;cases this
   rw[hal n (by omega)]at hn;cases hn
  .exact h
end
section
variable {P:Program}{r:Option Nat}{ops rest:List Oper}{Q:Exit->Env->World->Prop}{e:Env}{w w0:World}{S:List Nat}{L:List (Nat × Obj)}{dst:Option Tmp}{ty:TypeId}{pos:String}{af:Array Edge}{g:Option (Nat × Bool)}
theorem UV{t t2 el el2 ty:TypeId}{s by':Nat}{zl:List Value}(hu:C1 P t=some el)(hu2:C1 P t2=some el2)(hs:Ce P el=some s)(hby:DC P el=some by')(hz:Cd P el=some zl)(hzl:zl.length=s)(hpos:0<by'){a a2:Option Addr}{m c2:Nat}{new:List Value}(hm:0<m)(hn:new.length=m*s)(hc:∀j v,new[j]?=some v->∃p,a2=some p/\w.cell? (p.add j)=some v)(hbound:(2*m+768)*by'<=281474976710656) :
  ∃cap full',(Builtin.append_ #[t,t2] ty #[.slice a 0 0,.slice a2 m c2]).run P w=.ok (.slice (some ⟨w.heap.size,0,none⟩) m cap) (w.drew.alloc (Bl el full'))/\OS (some ⟨w.heap.size,0,none⟩) m cap s full' new:=by
 have hfit':0<0+m:=by omega
 have hncap:=JG (0+m) 0 hfit';have hbig:Builtin.nextslicecap (0+m) 0*by'<=(2*(0+m)+768)*by':=qcc _ hncap
 rw[qaz]at hbig
 have hnm:m<=281474976710656:=by
  have h1:(2*m+768)*1<=(2*m+768)*by':=qd6 _ hpos
  omega
 generalize hq:(Question.appendCap m 0 el).cut (w.tape w.drawn (Question.appendCap m 0 el))=cap;have hcap:m<=cap:=by rw[<-hq];unfold Question.cut;exact qel _ _
 obtain⟨zv,hzr,hzc⟩:=G4 (P:=P) hz w.drew;have hzs:zv.cells.size=s:=by rw[<-hzl,<-hzc];simp
 let full':=new++(Builtin.zeroCells zv.cells (cap - m)).toList
 refine⟨cap,full',?_,⟨(fun q hq=>by injection hq with hq;subst hq;rfl),(fun h=>by cases h),?_,hcap,?_⟩⟩
 .have hforced:(Question.appendCap m 0 el).forced=false:=rfl
  have hby2:∃i,P.info? el=some i/\i.bytes=by':=by
   unfold DC at hby
   cases hi:P.info? el with
   |none=>rw[hi]at hby;cases hby
   |some i=>rw[hi]at hby;simp at hby;exact⟨i,rfl,hby⟩
  obtain⟨i,hi,hib⟩:=hby2;have hti:∀w,(typeInfo el).run P w=.ok i w:=fun w=>by simp[typeInfo,program,Sem.run,hi]
  have hold':(Builtin.firstCells s 0 (.slice a 0 0)).run P w.drew=.ok #[] w.drew:=CR (l:=[]) (by simp) (fun j v hv=>by simp at hv);have hfc':(Builtin.firstCells s m (.slice a2 m c2)).run P w.drew=.ok new.toArray w.drew:=CR hn hc;have hroom:∀k w,(askRoom k).run P w=.ok () w:=fun k w=>by unfold askRoom;split <;> rfl
  have hby0:¬by'=0:=by omega
  have hm0:¬m=0:=by omega
  have hb3:¬281474976710656<Builtin.nextslicecap m 0*by':=by omega
  have hnn:(Builtin.append_ #[t,t2] ty #[.slice a 0 0,.slice a2 m c2]).run P w=.ok (.slice (some ⟨w.drew.heap.size,0,none⟩) m cap) (w.drew.alloc (.cells (new.toArray++Builtin.zeroCells zv.cells (cap - m)) el)):=by
   simp[Builtin.append_,AO (Cx hu),AO (Cx hu2),C6 hs,Builtin.lenOf,hfc',hold',hm0,hti,hib,hb3,hby0,hforced,hq,hroom,hzr,newRow,newObj,Sem.run]
  rw[hnn]
  have harr:new.toArray++Builtin.zeroCells zv.cells (cap - m)=full'.toArray:=by
   apply qb4;simp[full']
  rw[harr];rfl
 .show(new++(Builtin.zeroCells zv.cells (cap - m)).toList).length=cap*s;rw[qat,hn,qd4,FI,hzs,<-qbj]
  congr 1
  omega
 .show(new++(Builtin.zeroCells zv.cells (cap - m)).toList).take (m*s)=new;rw[qch hn]
theorem WY{t t2 el el2:TypeId}{x y:Operand}{s by':Nat}{zl:List Value}(hg:AV ⟨dst,.call ⟨.builtin .append,#[x,y],#[t,t2]⟩,ty,pos,af,g⟩ ops e=true)(hu:C1 P t=some el)(hu2:C1 P t2=some el2)(hs:Ce P el=some s)(hby:DC P el=some by')(hz:Cd P el=some zl)(hzl:zl.length=s){a a2:Option Addr}{m c2:Nat}(new:List Value)(hx:ev e x=.slice a 0 0)(hy:ev e y=.slice a2 m c2)(hn:new.length=m*s)(hc:∀j v,new[j]?=some v->∃p,a2=some p/\w.cell? (p.add j)=some v)(h:∀b c' full' w',b=w.heap.size->Ext [] w w'->w'.heap[b]?=some (Bl el full')->OS (some ⟨b,0,none⟩) m c' s full' new->A7 P r ops Q rest (put e dst (.slice (some ⟨b,0,none⟩) m c')) w')(hpos:0<by':=by decide)(hm:0<m:=by omega)(hbound:(2*m+768)*by'<=281474976710656:=by omega):
  A7 P r ops Q (⟨dst,.call ⟨.builtin .append,#[x,y],#[t,t2]⟩,ty,pos,af,g⟩::rest) e w:=by
 obtain⟨c',full',hr,O'⟩:=UV (ty:=ty) hu hu2 hs hby hz hzl hpos hm hn hc hbound (c2:=c2) (a:=a);refine B7 (w':=w.drew.alloc (Bl el full')) (v := .slice (some ⟨w.heap.size,0,none⟩) m c') hg U (by simp[execOp,resolve,invoke,builtin,hx,hy,hr]) (h _ c' full' _ U ((Ext.drew [] w).trans (Ext.alloc [] w.drew _)) ?_ O');exact World.alloc_heap_new w.drew _
theorem UW{t t2 el el2:TypeId}{x y:Operand}{s:Nat}(hg:AV ⟨dst,.call ⟨.builtin .append,#[x,y],#[t,t2]⟩,ty,pos,af,g⟩ ops e=true)(hu:C1 P t=some el)(hu2:C1 P t2=some el2)(hs:Ce P el=some s){b:Nat}{a2:Option Addr}{c2:Nat}(hx:ev e x=.slice (some ⟨b,0,none⟩) 0 0)(hy:ev e y=.slice a2 0 c2)(h:A7 P r ops Q rest (put e dst (.slice (some ⟨b,0,none⟩) 0 0)) w) :
  A7 P r ops Q (⟨dst,.call ⟨.builtin .append,#[x,y],#[t,t2]⟩,ty,pos,af,g⟩::rest) e w:=by
 have hfc:(Builtin.firstCells s 0 (.slice a2 0 c2)).run P w=.ok #[] w:=CR (l:=[]) (by simp) (fun j v hv=>by simp at hv);exact B7 hg U (by simp[execOp,resolve,invoke,builtin,hx,hy,Builtin.append_,AO (Cx hu),AO (Cx hu2),C6 hs,Builtin.lenOf,hfc,storeCells]) h
end
def Ys(P:Program)(gf:FuncId)(ca:Array Value)(Z:List Nat)(K:Mt->World->Prop){σ:Type}(z0:σ)(St:σ->List Value->σ->Prop)(En:σ->Prop)(S0:World->Prop):Prop :=
 ∀(l:Nat) (w:World),S0 w->∀(J:σ->Mt->World->Prop) (E:World->Prop),(∃M,J z0 M w)->(∀i M w' w'' T,J i M w'->(∀x∈T,¬M x/\w.heap.size<=x)->Ext T w' w''->J i M w'')->(∀w' w'',E w'->Ext Z w' w''->E w'')->(∀i M w',J i M w'->(∀x,M x->x<w'.heap.size)/\K M w') ->
  (∀i v i' M w',St i v i'->J i M w'->YieldAt P l v w' fun u w''=>(u=.bool true/\∃M',J i' M' w''/\Grw M M' w' w'')\/(u=.bool false/\E w'')) ->
  Ret P gf (#[.func (.yield l) #[] #[]]++ca) w fun _ w'=>(∃i M,En i/\J i M w')\/E w'
section
variable {P:Program}{Q:Exit->Env->World->Prop}{e:Env}{w:World}{n:Nat}
theorem Ac4{f:Operand}{ps:Array Tmp}{assign body:Code}{gf:Nat}{ca:Array Value}{Z:List Nat}{K:Mt->World->Prop}{σ:Type}{z0:σ}{St:σ->List Value->σ->Prop}{En:σ->Prop}{S0:World->Prop}(hf:ev e f=.func (.func gf) #[] ca)(hc:Aq P gf=true)(hI:Ys P gf ca Z K z0 St En S0)(hfit:(IJ n assign && IJ n body)=true)(hps:(ps.toList.all fun p=>decide (p<n))=true)(hlen:∀i v i',St i v i'->v.length=ps.size)(J:σ->Mt->World->Prop)(E:World->Prop)(hZ:w.heap.size∉Z/\w.heap.size+1∉Z)(hS0:∀w2,Ext [] w w2->S0 w2)(hj0:∀w2,Ext [] w w2->w.heap.size+1<w2.heap.size->∃M,J z0 M w2)(hjs:∀i M w' w'' T,J i M w'->(∀x∈T,¬M x/\w.heap.size<=x)->Ext T w' w''->J i M w'')(hes:∀w' w'',E w'->Ext (w.heap.size::(w.heap.size+1)::Z) w' w''->E w'')(hk:∀i M w',J i M w'->(∀x,M x->x<w'.heap.size/\x≠w.heap.size/\x≠w.heap.size+1)/\K (fun x=>x=w.heap.size+1\/M x) w')(hb:∀i v i' M w',St i v i'->J i M w'->w.heap.size+1<w'.heap.size->W P (some (w.heap.size+1)) n assign (TF P w.heap.size (w.heap.size+1) n body (J i') E M w') (Qe ⟨e.g,[]⟩ (ps.toList.zip v)) w')(hend:∀i M w4,En i->J i M w4->w4.heap[w.heap.size]?=some (.deferred (some []))->Q .normal ⟨e.g,{ target := .collected w.heap.size,args:=#[] }::e.ds⟩ w4)(hret:∀w4,E w4->w4.heap[w.heap.size]?=some (.deferred (some []))->Q .ret ⟨e.g,{ target := .collected w.heap.size,args:=#[] }::e.ds⟩ w4):W P none n (.rangeFunc f ps assign body) Q e w:=by
 refine KF hf hc ?_;intro fn tmps hts htm D l w2 hDe hle hx2 hD hrec;subst hDe hle;obtain⟨lo,hlo,hrec'⟩:∃lo,lo=({ state := .ready,pending:=none,fn,tmps,params:=ps,assign,body,defers:=w.heap.size }:Loop)/\w2.heap[w.heap.size+1]?=some (.loop lo):=⟨_,rfl,hrec⟩;have hsz2:=Bd hrec';have hne:w.heap.size≠w.heap.size+1:=by omega
 refine Ret.mono (hI (w.heap.size+1) w2 (hS0 w2 hx2) (fun i Mh w'=>(∃M:Mt,(Mh=fun x=>x=w.heap.size+1\/M x)/\J i M w')/\w'.heap[w.heap.size+1]?=some (.loop lo)/\w'.heap[w.heap.size]?=some (.deferred (some []))) (fun w'=>E w'/\(∃lp,w'.heap[w.heap.size+1]?=some (.loop lp)/\lp.state=.done/\lp.pending=some .ret)/\w'.heap[w.heap.size]?=some (.deferred (some [])))
  (let ⟨M,hM⟩:=hj0 w2 hx2 hsz2;⟨_,⟨M,rfl,hM⟩,hrec',hD⟩) (fun i Mh w' w'' T h hT hx=>by
   obtain⟨⟨M,rfl,hM⟩,h2,h3⟩:=h
   exact⟨⟨M,rfl,hjs i M w' w'' T hM (fun x hx=>⟨fun h=>(hT x hx).1 (.inr h),by have:=(hT x hx).2;omega⟩) hx⟩,hx.to h2 (fun h=>(hT _ h).1 (.inl rfl)),hx.to h3 (fun h=>by have:=(hT _ h).2;omega)⟩)
  (fun w' w'' h hx=>⟨hes w' w'' h.1 (hx.mono fun x hx=>qaj _ (qaj _ hx)),let ⟨lp,h1,h2⟩:=h.2.1;⟨lp,hx.to h1 hZ.2,h2⟩,hx.to h.2.2 hZ.1⟩) (fun i Mh w' h=>by
   obtain⟨⟨M,rfl,hM⟩,hl,_⟩:=h
   exact⟨fun x hx=>hx.elim (fun h=>by rw[h];exact Bd hl) fun h=>((hk i M w' hM).1 x h).1,(hk i M w' hM).2⟩) ?_) ?_
 .rintro i v i' Mh w' hx ⟨⟨M,rfl,hJ⟩,hl,hDw⟩;have hsz:=Bd hl;have hkM:=(hk i M w' hJ).1;have hbody:=hb i v i' M w' hx hJ hsz;have hlp:lo.params=ps:=by rw[hlo]
  have hla:lo.assign=assign:=by rw[hlo]
  have hlb:lo.body=body:=by rw[hlo]
  have hlt:lo.tmps=tmps:=by rw[hlo]
  have hls:lo.state=.ready:=by rw[hlo]
  have hpd:lo.pending=none:=by rw[hlo]
  refine Qb hl (by rw[hlp];exact hlen i v i' hx) ?_;rw[hlp,hla,hlb,hlt,Qf];have hs0:Sim n (⟨e.g,[]⟩:Env) ({ tmps:=tmps,defers:=[] }:Act):=⟨rfl,hts,htm⟩;refine Mj (Qe ⟨e.g,[]⟩ (ps.toList.zip v)) (Pv _ hs0 fun p hp=>?_) hfit ?_
  .have h1:=qaw.1 hps p.1 (List.of_mem_zip hp).1;exact qba h1
  .refine EN assign ?_ hbody;intro x e1 w1 hq
   cases x with
   |normal =>
    obtain⟨hS,hW⟩:=hq;have hl1:=hS.to hl (by simp);have hD1:=hS.to hDw (by simp);have hxB:=Ext.setB w1 (w.heap.size+1) (.loop { lo with state := .busy });refine⟨lo,hl1,hls,EN body ?_ (hW _ hxB)⟩;have hlB:(w1.putObj (w.heap.size+1) (.loop { lo with state := .busy })).heap[w.heap.size+1]?=some (.loop { lo with state := .busy }):=EO hl1;have hDB:(w1.putObj (w.heap.size+1) (.loop { lo with state := .busy })).heap[w.heap.size]?=some (.deferred (some [])):=hxB.to hD1 (by simp);intro y e3 w3 hq3
    cases y with
    |normal =>
     obtain⟨M',hJ3,hM',S3,hS3,hin⟩:=hq3
     have hlS3:w.heap.size+1∉S3:=fun h=>by
      rcases hin _ h with h|h
      .exact(hkM _ h).2.2 U
      .omega
     have hDS3:w.heap.size∉S3:=fun h=>by
      rcases hin _ h with h|h
      .exact(hkM _ h).2.1 U
      .omega
     have hl3:=hS3.to hlB hlS3;have hD3:=hS3.to hDB hDS3;have hx4:=Ext.setB w3 (w.heap.size+1) (.loop { ({ lo with state := .busy }:Loop)with state := .ready,pending:=none });refine⟨_,hl3,.inl ⟨rfl,fun x=>x=w.heap.size+1\/M' x,⟨⟨M',rfl,hjs _ _ _ _ [w.heap.size+1] hJ3 (fun x hx=>by rw[qab]at hx;subst hx;exact⟨fun h=>(hM' _ h).elim (fun h=>(hkM _ h).2.2 rfl) (fun h=>by omega),by omega⟩) hx4⟩,?_,hx4.to hD3 (by simp)⟩,⟨⟨(w.heap.size+1)::S3,fun x hx=>?_,?_⟩,fun x hx=>?_⟩⟩⟩
     .rw[EO hl3]
      congr 2
      cases lo;simp_all
     .rcases qai.1 hx with h|h
      .exact .inl (.inl h)
      .exact(hin x h).imp .inr id
     .exact(((hS.mono (by simp)).trans (hxB.mono (by simp))).trans (hS3.mono fun x h=>qaj _ h)).trans (hx4.mono (by simp))
     .rcases hx with h|h
      .exact .inl (.inl h)
      .exact(hM' x h).imp .inr id
    |ret =>
     obtain⟨hE3,S3,hS3,hDS3,hlS3⟩:=hq3;have hl3:=hS3.to hlB hlS3;have hD3:=hS3.to hDB hDS3;have hx4:=Ext.setB w3 (w.heap.size+1) (.loop { ({ lo with state := .busy }:Loop)with state := .done,pending:=some .ret });exact⟨_,hl3,.inr ⟨rfl,hes _ _ hE3 (hx4.mono (by simp)),⟨_,EO hl3,rfl,rfl⟩,hx4.to hD3 (by simp)⟩⟩
    |exit id=>exact hq3.elim
    |goto t=>exact hq3.elim
    |panic c=>exact hq3.elim
    |outgrown=>exact hq3.elim
   |exit id=>exact hq.elim
   |goto t=>exact hq.elim
   |ret=>exact hq.elim
   |panic c=>exact hq.elim
   |outgrown=>exact hq.elim
 .intro v w3 h
  rcases h with⟨i,Mh,hE,⟨M,_,h1⟩,h2,h3⟩|⟨h1,h2,h3⟩
  .have hx4:=Ext.setB w3 (w.heap.size+1) (.loop { lo with state := .exhausted });exact⟨lo,h2,by rw[hlo];exact(fun h=>by cases h),ND (by rw[hlo]) (hend i M _ hE (hjs _ _ _ _ [w.heap.size+1] h1 (fun x hx=>by rw[qab]at hx;subst hx;exact⟨fun h=>((hk i M w3 h1).1 _ h).2.2 rfl,by omega⟩) hx4) (hx4.to h3 (by simp)))⟩
  .obtain⟨lp,h2,h4,h5⟩:=h2;have hx4:=Ext.setB w3 (w.heap.size+1) (.loop { lp with state := .exhausted });exact⟨lp,h2,by rw[h4];exact(fun h=>by cases h),Qg h5 (hret _ (hes _ _ h1 (hx4.mono (by simp))) (hx4.to h3 (by simp)))⟩
end
theorem Ac5{α:Type}{l:List α}{i:Nat}{x:α}(h:l[i]?=some x):l.set i x=l:=by
 apply qci;intro j;rw[qej]
 split
 .rename_i e;subst e
  rw[if_pos (qa8.1 h).1,h]
 .rfl
def kvE(e:MapEntry):Value × Value:=(e.key,e.val)
def kvP(kk:IntKind)(p:Int × Value):Value × Value:=(.int kk p.1,p.2)
def kvD:Value × Value->Int × Value
 |(.int _ n,v)=>(n,v)
 |(_,v)=>(0,v)
theorem Yt(kk:IntKind)(m:List (Int × Value)):(m.map (kvP kk)).map kvD=m:=by
 rw[qcf];exact List.map_id'' (fun _=>rfl) m
def VisO(kk:IntKind)(b:Nat)(m vis:List (Int × Value))(o it:Obj):Prop :=
 ∃(es:Array MapEntry) (clock:Nat) (ves rest:List MapEntry),o=.map es clock/\es.toList.map kvE=m.map (kvP kk)/\(∀e∈es.toList,e.born<clock)/\(es.toList.map (·.born)).Nodup /\
  it=.mapIter (some b) clock (ves.map (·.born)).toArray clock/\(ves++rest).Perm es.toList/\ves.map kvE=vis.map (kvP kk)
theorem VisO.perm{kk:IntKind}{b:Nat}{m vis:List (Int × Value)}{o it:Obj}(h:VisO kk b m vis o it):∃res,(vis++res).Perm m:=by
 obtain⟨es,clock,ves,rest,_,hes,_,_,_,hp,hv⟩:=h;have h1:=(hp.map kvE).map kvD;rw[qav,qav,hv,Yt,hes,Yt]at h1;exact⟨_,h1⟩
theorem VisO.le{kk:IntKind}{b:Nat}{m vis:List (Int × Value)}{o it:Obj}(h:VisO kk b m vis o it):vis.length<=m.length:=by
 obtain⟨res,h⟩:=h.perm;have:=h.length_eq;rw[qat]at this;omega
theorem VisO.mem{kk:IntKind}{b:Nat}{m vis:List (Int × Value)}{o it:Obj}(h:VisO kk b m vis o it):∀p∈vis,p∈m:=fun p hp=>by
 obtain⟨res,h⟩:=h.perm;exact h.mem_iff.1 (qao _ hp)
section
variable {P:Program}{r:Option Nat}{ops rest:List Oper}{Q:Exit->Env->World->Prop}{e:Env}{w w0:World}{S:List Nat}{L:List (Nat × Obj)}{dst dst2:Option Tmp}{ty ty2:TypeId}{pos pos2:String}{af af2:Array Edge}{g g2:Option (Nat × Bool)}
theorem UX{t k el:TypeId}{kk:IntKind}{x:Operand}{b:Nat}{o:Obj}{m:List (Int × Value)}(hg:AV ⟨dst,.range t x,ty,pos,af,g⟩ ops e=true)(ht:Ip P t=some (k,el))(hx:ev e x=.map (some b))(H:Ctx w0 S w L)(hm:w.heap[b]?=some o)(hM:Df kk m o)(h:∀bi it w',VisO kk b m [] o it->Ctx w0 S w' ((bi,it)::L)->A7 P r ops Q rest (put e dst (.pointer (some ⟨bi,0,none⟩))) w') :
  A7 P r ops Q (⟨dst,.range t x,ty,pos,af,g⟩::rest) e w:=by
 obtain⟨es,clock,rfl,hes,hb,hn⟩:=hM;have hgo:(getObj b).run P w=.ok (.map es clock) w:=by simp[getObj,Sem.run,hm]
 refine B7 (w':=w.alloc (.mapIter (some b) clock #[] clock)) (v := .pointer (some ⟨w.heap.size,0,none⟩)) hg U ?_ (h _ _ _ ⟨es,clock,[],es.toList,rfl,hes,hb,hn,rfl,List.Perm.refl _,rfl⟩ (H.alloc _));simp[execOp,Instr.range,AO (Fv ht),hx,hgo,newObj,Sem.run]
theorem Ac6{es:List MapEntry}{ves rest:List MapEntry}{x:MapEntry}(hp:(ves++rest).Perm es)(hx:x∈es)(hn:x∉ves):∃res,((ves++[x])++res).Perm es:=by
 have h1:x∈rest:=(qbc.1 (hp.mem_iff.2 hx)).resolve_left hn;obtain⟨l1,l2,rfl⟩:=List.append_of_mem h1;refine⟨l1++l2,List.Perm.trans ?_ hp⟩;rw[qas];exact qbs ves (show(x::(l1++l2)).Perm (l1++x::l2)from qb1.symm)
theorem ZW{kk:IntKind}{b bi i:Nat}{o it:Obj}{m vis:List (Int × Value)}(ty:TypeId)(H:Ctx w0 S w L)(hm:w.heap[b]?=some o)(hi:L[i]?=some (bi,it))(hV:VisO kk b m vis o it) :
  ∃vs more it' w',(Instr.next (.pointer (some ⟨bi,0,none⟩)) false ty).run P w=.ok (.tuple vs) w'/\vs[0]?=some (.bool more)/\((more=false/\vis.Perm m/\it'=it)\/(more=true/\∃p,VisO kk b m (vis++[p]) o it'))/\Ctx w0 S w' (L.set i (bi,it')):=by
 obtain⟨es,clock,ves,rest,rfl,hes,hb,hn,rfl,hp,hv⟩:=hV
 rcases run_next_at (P:=P) w ty bi b clock clock (ves.map (·.born)).toArray es clock (H.get hi) (hm) hb (qam _)with⟨h0,hr⟩|⟨x,hx,w1,hw1,hr⟩
 .have hall:=all_seen es _ h0
  have hrest:rest=[]:=by
   cases rest with
   |nil=>rfl
   |cons x rest =>
    exfalso;have hx:=hall x (hp.mem_iff.1 (qaf _ (qak ..)));have h2:=(hp.map (·.born)).nodup_iff.2 hn;rw[qav,qdo]at h2
    have hx2:x.born∈ves.map (·.born):=by
     rw[List.contains_toArray]at hx;exact qdm.1 hx
    exact h2.2.2 _ hx2 _ (qa4 (qak ..)) U
  subst hrest;rw[qa0]at hp;have h1:=(hp.map kvE).map kvD;rw[hv,Yt,hes,Yt]at h1;refine⟨_,false,_,w,hr,rfl,.inl ⟨rfl,h1,rfl⟩,?_⟩;rw[Ac5 hi];exact H
 .obtain⟨hxe,hxs⟩:=mem_left hx
  have hxv:x∉ves:=fun h=>by
   rw[List.contains_toArray]at hxs;have:(ves.map (·.born)).contains x.born=true:=qdm.2 (qa4 h);rw[this]at hxs;cases hxs
  obtain⟨res,hp2⟩:=Ac6 hp hxe hxv
  have hk:∃p∈m,kvP kk p=kvE x:=by
   have h1:kvE x∈es.toList.map kvE:=qa4 hxe;rw[hes]at h1;exact qah.1 h1
  obtain⟨p,-,hpx⟩:=hk
  have H1:Ctx w0 S w1 L:=by rcases hw1 with rfl|rfl;exact H;exact H.drew
  refine⟨_,true,_,_,hr,rfl,.inr ⟨rfl,p,es,clock,ves++[x],res,rfl,hes,hb,hn,rfl,hp2,by rw[qav,qav,hv];simp[hpx]⟩,?_⟩;have h3:((ves.map (·.born)).toArray.push x.born)=((ves++[x]).map (·.born)).toArray:=by simp
  rw[<-h3];exact H1.setB hi _
theorem Yu{kk:IntKind}{d:Tmp}{x:Operand}{b bi i:Nat}{o it:Obj}{m vis:List (Int × Value)}(hg:AV ⟨some d,.next x false,ty,pos,af,g⟩ ops e=true)(hg2:∀v,AV ⟨dst2,.extract (.tmp d) 0,ty2,pos2,af2,g2⟩ ops (put e (some d) v)=true)(hx:ev e x=.pointer (some ⟨bi,0,none⟩))(H:Ctx w0 S w L)(hm:w.heap[b]?=some o)(hi:L[i]?=some (bi,it))(hV:VisO kk b m vis o it)(h:∀vs more it' w',((more=false/\vis.Perm m/\it'=it)\/(more=true/\∃p,VisO kk b m (vis++[p]) o it'))->Ctx w0 S w' (L.set i (bi,it'))->A7 P r ops Q rest (put (put e (some d) (.tuple vs)) dst2 (.bool more)) w') :
  A7 P r ops Q (⟨some d,.next x false,ty,pos,af,g⟩::⟨dst2,.extract (.tmp d) 0,ty2,pos2,af2,g2⟩::rest) e w:=by
 obtain⟨vs,more,it',w',hr,hv,hc,H'⟩:=ZW (P:=P) ty H hm hi hV;refine B7 (w':=w') (v := .tuple vs) hg U (by simp[execOp,hx,hr]) ?_;exact AH (hg:=hg2 _) (by simp[ev,put]) hv (h vs more it' w' hc H')
theorem UY{kk:IntKind}{x:Operand}{b bi i:Nat}{o it:Obj}{m vis:List (Int × Value)}{p:Int × Value}(hg:AV ⟨dst,.entry x,ty,pos,af,g⟩ ops e=true)(hx:ev e x=.pointer (some ⟨bi,0,none⟩))(H:Ctx w0 S w L)(hm:w.heap[b]?=some o)(hi:L[i]?=some (bi,it))(hV:VisO kk b m (vis++[p]) o it)(h:A7 P r ops Q rest (put e dst (.tuple #[.int kk p.1,p.2])) w):A7 P r ops Q (⟨dst,.entry x,ty,pos,af,g⟩::rest) e w:=by
 obtain⟨es,clock,ves,rest,rfl,hes,hb,hn,rfl,hp,hv⟩:=hV;rw[qav]at hv;obtain⟨v1,v2,rfl,h1,h2⟩:=List.map_eq_append_iff.1 hv;obtain⟨y,v3,rfl,hy,h3⟩:=List.map_eq_cons_iff.1 h2;cases List.map_eq_nil_iff.1 h3;have he:y∈es.toList:=hp.mem_iff.1 (qao _ (qaf _ (qak ..)));have hpush:(((v1++[y]).map (·.born)).toArray)=(v1.map (·.born)).toArray.push y.born:=by simp
 have hi2:=H.get hi;rw[hpush]at hi2;have hr:=run_entry_at (P:=P) w bi b clock _ es clock y hi2 (hm) he hn;have hy2:y.key=.int kk p.1/\y.val=p.2:=by unfold kvE kvP at hy;exact⟨(Prod.mk.inj hy).1,(Prod.mk.inj hy).2⟩
 rw[hy2.1,hy2.2]at hr;exact B7 hg U (by simp[execOp,hx,hr]) h
theorem ZX{kk:IntKind}{x:Operand}{b bi i:Nat}{o it:Obj}{m vis:List (Int × Value)}{n:Int}{v:Value}(hg:AV ⟨dst,.entry x,ty,pos,af,g⟩ ops e=true)(hx:ev e x=.pointer (some ⟨bi,0,none⟩))(H:Ctx w0 S w L)(hm:w.heap[b]?=some o)(hi:L[i]?=some (bi,it))(hV:VisO kk b m (vis++[(n,v)]) o it)(h:A7 P r ops Q rest (put e dst (.tuple #[.int kk n,v])) w):A7 P r ops Q (⟨dst,.entry x,ty,pos,af,g⟩::rest) e w:=UY hg hx H hm hi hV h
theorem Sk{α:Type}{k:Int}:∀{m:List (Int × α)},Ea m k=none->Mg m k=m
 | [],_=>rfl
 |p::m,h=>by
  have hp:¬p.1=k:=fun hp=>by simp[Ea,hp]at h
  have hb2:(p.1 == k)=false:=by simpa using hp
  have hm2:Ea m k=none:=by rw[<-h];simp[Ea,hb2]
  simp[Mg,hp,Sk hm2]
theorem WZ{t t2 k el ty:TypeId}{kk:IntKind}{b j:Nat}{o:Obj}{m:List (Int × Value)}{n:Int}(ht:Ip P t=some (k,el))(hk:P.underlying k=some (.int kk))(H:Ctx w0 S w L)(hl:L[j]?=some (b,o))(hM:Df kk m o) :
  ∃o' w',(Builtin.delete_ #[t,t2] ty #[.map (some b),.int kk n]).run P w=.ok (.tuple #[]) w'/\Df kk (Mg m n) o'/\Ctx w0 S w' (L.set j (b,o')):=by
 obtain⟨es,clock,rfl,hes,hbn,hnd⟩:=hM;have hb:=H.get hl;have hf:=Gn kk n es.toList m 0 hes;have hgo:(getObj b).run P w=.ok (.map es clock) w:=by simp[getObj,Sem.run,hb]
 have hso:∀o',(setObj b o').run P w=.ok () (w.putObj b o'):=fun o'=>by simp[setObj,Sem.run,hb,World.putObj]
 cases hm:Ea m n with
 |none =>
  refine⟨.map es clock,w.putObj b _,?_,⟨_,_,rfl,by rw[Sk hm];exact hes,hbn,hnd⟩,H.setB hl _⟩;simp[Builtin.delete_,AO (Fv ht),hgo,DE hk,Instr.findKey,AO hk,hf.1 hm,hso]
 |some v0 =>
  obtain⟨i,hi,hil,h3⟩:=hf.2 v0 hm;obtain⟨_,_,a3⟩:=h3 v0
  have htl:(es.eraseIdxIfInBounds i).toList=es.toList.eraseIdx i:=by
   rw[Array.eraseIdxIfInBounds,dif_pos (by simpa using hil)];simp
  refine⟨.map (es.eraseIdxIfInBounds i) clock,w.putObj b _,?_,⟨_,_,rfl,by rw[htl];exact a3,?_,?_⟩,H.setB hl _⟩
  .simp[Builtin.delete_,AO (Fv ht),hgo,DE hk,Instr.findKey,AO hk,hi,hso]
  .intro x hx;rw[htl]at hx;exact hbn x (qei hx)
  .rw[htl];exact List.Sublist.nodup (List.Sublist.map _ (qes ..)) hnd
theorem NF{t t2 k el:TypeId}{kk:IntKind}{x y:Operand}{b j:Nat}{o:Obj}{m:List (Int × Value)}{n:Int}(hg:AV ⟨dst,.call ⟨.builtin .delete,#[x,y],#[t,t2]⟩,ty,pos,af,g⟩ ops e=true)(ht:Ip P t=some (k,el))(hk:P.underlying k=some (.int kk))(hx:ev e x=.map (some b))(hy:ev e y=.int kk n)(H:Ctx w0 S w L)(hl:L[j]?=some (b,o))(hM:Df kk m o)(h:∀o' w',Df kk (Mg m n) o'->Ctx w0 S w' (L.set j (b,o'))->A7 P r ops Q rest (put e dst (.tuple #[])) w'):A7 P r ops Q (⟨dst,.call ⟨.builtin .delete,#[x,y],#[t,t2]⟩,ty,pos,af,g⟩::rest) e w:=by
 obtain⟨o',w',hr,hM',H'⟩:=WZ (ty:=ty) (t2:=t2) (n:=n) ht hk H hl hM;exact B7 (w':=w') (v := .tuple #[]) hg U (by simp[execOp,resolve,invoke,builtin,hx,hy,hr]) (h o' w' hM' H')
def EntO(kk:IntKind)(n st:Int)(m:List (Int × Value))(o:Obj):Prop :=
 ∃(es:Array MapEntry) (clock:Nat) (z:Value),o=.map (es.push { key := .int kk n,val:=z,born:=clock }) (clock+1)/\st=(clock:Nat)/\es.toList.map (fun e=>(e.key,e.val))=m.map (fun p=>(Value.int kk p.1,p.2))/\(∀e∈es.toList,e.born<clock)/\(es.toList.map (·.born)).Nodup
theorem UZ{t k el:TypeId}{kk:IntKind}{x y:Operand}{b j:Nat}{o:Obj}{m:List (Int × Value)}{n:Int}{z:Value}(hg:AV ⟨dst,.mapEntry t x y,ty,pos,af,g⟩ ops e=true)(ht:Ip P t=some (k,el))(hk:P.underlying k=some (.int kk))(hz:(P.info? el).bind (·.zero)=some z)(hx:ev e x=.map (some b))(hy:ev e y=.int kk n)(H:Ctx w0 S w L)(hl:L[j]?=some (b,o))(hM:Df kk m o)(hm:Ea m n=none)(h:∀st o' w',EntO kk n st m o'->Ctx w0 S w' (L.set j (b,o'))->A7 P r ops Q rest (put e dst (.tuple #[z,.int .i64 st])) w'):A7 P r ops Q (⟨dst,.mapEntry t x y,ty,pos,af,g⟩::rest) e w:=by
 obtain⟨es,clock,rfl,hes,hbn,hnd⟩:=hM;have hb:=H.get hl;have hf:=Gn kk n es.toList m 0 hes;have hgo:(getObj b).run P w=.ok (.map es clock) w:=by simp[getObj,Sem.run,hb]
 have hso:∀o',(setObj b o').run P w=.ok () (w.putObj b o'):=fun o'=>by simp[setObj,Sem.run,hb,World.putObj]
 have hzr:(zeroValue el).run P w=.ok z w:=by
  cases hi:P.info? el with
  |none=>rw[hi]at hz;cases hz
  |some i=>rw[hi]at hz;simp at hz;simp[zeroValue,typeInfo,program,Sem.run,hi,hz]
 refine B7 (w':=w.putObj b _) (v := .tuple #[z,.int .i64 (clock:Nat)]) hg U ?_ (h _ _ _ ⟨es,clock,z,rfl,rfl,hes,hbn,hnd⟩ (H.setB hl _));simp[execOp,Instr.mapEntry,AO (Fv ht),hx,hy,hgo,DE hk,Instr.findKey,AO hk,hf.1 hm,hzr,hso,goInt]
theorem R6{t:TypeId}{kk:IntKind}{x y z:Operand}{b j:Nat}{o:Obj}{m:List (Int × Value)}{n st:Int}(v:Value)(hg:AV ⟨dst,.entryStore t x y z,ty,pos,af,g⟩ ops e=true)(hx:ev e x=.map (some b))(hy:ev e y=.int .i64 st)(hz:ev e z=v)(H:Ctx w0 S w L)(hl:L[j]?=some (b,o))(hE:EntO kk n st m o)(h:∀o' w',Df kk (m++[(n,v)]) o'->Ctx w0 S w' (L.set j (b,o'))->A7 P r ops Q rest (put e dst undef) w'):A7 P r ops Q (⟨dst,.entryStore t x y z,ty,pos,af,g⟩::rest) e w:=by
 obtain⟨es,clock,z0,rfl,rfl,hes,hbn,hnd⟩:=hE;have hb:=H.get hl;have hgo:(getObj b).run P w=.ok (.map (es.push { key := .int kk n,val:=z0,born:=clock }) (clock+1)) w:=by simp[getObj,Sem.run,hb]
 have hso:∀o',(setObj b o').run P w=.ok () (w.putObj b o'):=fun o'=>by simp[setObj,Sem.run,hb,World.putObj]
 have hno:es.findIdx? (fun e=>((e.born:Nat):Int) == ((clock:Nat):Int))=none:=by
  rw[Array.findIdx?_eq_none_iff];intro x hx;have:=hbn x (qdl.2 hx);simp only[beq_eq_false_iff_ne,ne_eq];omega
 have hfi:(es.push { key := .int kk n,val:=z0,born:=clock }).findIdx? (fun e=>((e.born:Nat):Int) == ((clock:Nat):Int))=some es.size:=by
  rw[Array.findIdx?_push,hno];simp
 refine Lz (w':=w.putObj b (.map (es.push { key := .int kk n,val:=v,born:=clock }) (clock+1))) hg U ?_ (h _ _ ⟨_,_,rfl,?_,?_,?_⟩ (H.setB hl _))
 .have hmod:(es.push { key := .int kk n,val:=z0,born:=clock }).modify es.size (fun e=>{ e with val:=v })=es.push { key := .int kk n,val:=v,born:=clock }:=by
   apply qb4;rw[qd7,qcw,qcw];have:es.size=es.toList.length:=by simp
   rw[this];generalize es.toList=l
   induction l with
   |nil=>rfl
   |cons x l ih=>simp only[qa9,qck,qev,ih]
  simp[execOp,Instr.entryStore,hx,hy,hz,hgo,asInt,asIntOf,hfi,hso,hmod]
 .simp[hes]
 .intro x hx;simp only[qcw,qbc,qab]at hx
  rcases hx with hx|rfl
  .have:=hbn x hx;omega
  .simp
 .simp only[qcw,qav,qay,qcn];rw[qdo];refine⟨hnd,by simp,?_⟩;intro x hx y hy;simp only[qab]at hy;subst hy;rw[qah]at hx;obtain⟨e',he',rfl⟩:=hx;have:=hbn e' he';omega
end
theorem Va:∀(vs l:List Value) (i:Nat) (v:Value),v∈over l i vs->v∈l\/v∈vs
 | [],_,_,_,h => .inl h
 |x::vs,l,i,v,h=>by
  rcases Va vs (l.set i x) (i+1) v h with h|h
  .rcases qew h with h|h
   .exact .inl h
   .exact .inr (by rw[h];exact qak ..)
  .exact .inr (qaj _ h)
theorem RC(z:Array Value)(n:Nat)(v:Value)(h:v∈(Builtin.zeroCells z n).toList):v∈z.toList:=by
 unfold Builtin.zeroCells at h;rw[qcu,qah]at h;obtain⟨i,hi,rfl⟩:=h
 have h0:0<z.size:=by
  rw[Array.toList_range,qa5]at hi
  rcases qc8 z.size with h|h
  .rw[h,Nat.mul_zero]at hi;omega
  .exact h
 have hm:=qda i h0;rw[getElem!_pos z (i % z.size) hm];exact Array.getElem_mem_toList hm
section
variable {P:Program}{w w0:World}{S:List Nat}{L:List (Nat × Obj)}
theorem Vb{t t2 el el2 ty:TypeId}{s by':Nat}{zl:List Value}(hu:C1 P t=some el)(hu2:C1 P t2=some el2)(hs:Ce P el=some s)(hby:DC P el=some by')(hz:Cd P el=some zl)(hzl:zl.length=s)(hpos:0<by'){a a2:Option Addr}{n c m c2:Nat}{full l new:List Value}(H:Ctx w0 S w (L++ent a el full))(O:OS a n c s full l)(hn:new.length=m*s)(h1:∀v∈new,AY v=true)(hc:∀j v,new[j]?=some v->∃p,a2=some p/\w.cell? (p.add j)=some v)(hbound:(2*(n+m)+768)*by'<=281474976710656) :
  ∃a' c' full' w',(Builtin.append_ #[t,t2] ty #[.slice a n c,.slice a2 m c2]).run P w=.ok (.slice a' (n+m) c') w'/\Ctx w0 S w' (L++ent a' el full')/\OS a' (n+m) c' s full' (l++new)/\∀v∈full',v∈full\/v∈new\/v∈zl:=by
 have hfc:=CR (P:=P) (w:=w) (s:=s) (m:=m) (a:=a2) (c:=m) (k:=c2) hn hc
 by_cases hfit:n+m<=c
 ·-- in place
  cases a with
  |none =>
   have h0:=O.none' rfl;have hm:m=0:=by omega
   have hn0:n=0:=by omega
   subst hm hn0 h0;have hnew:new=[]:=qb0 (by omega);have hl:l=[]:=qb0 (by have:=O.llen;omega);have hfull:full=[]:=qb0 (by have:=O.len;omega);subst hnew hl hfull;refine⟨none,0,[],w,?_,H,OS.nil,by simp⟩;simp[Builtin.append_,AO (Cx hu),AO (Cx hu2),C6 hs,Builtin.lenOf,hfc]
  |some p =>
   have hp:=O.zero p rfl;obtain⟨b,o,sp⟩:=p;simp only[Addr.mk.injEq,true_and]at hp;obtain⟨rfl,rfl⟩:=hp;have hk:(L++ent (some ⟨b,0,none⟩) el full)[L.length]?=some (b,Bl el full):=by simp[ent]
   have hb:=H.get hk;have hmul:(n+m)*s<=c*s:=qcc _ hfit;have hadd:(n+m)*s=n*s+m*s:=qbj _ _ _;obtain⟨w',hr,he,hb'⟩:=EP (P:=P) (o:=n*s) new full w 0 h1 hb (by rw[O.len];omega);have hwr:=H.turn hk _ he hb';rw[show(L++ent (some ⟨b,0,none⟩) el full).set L.length (b,Bl el (over full (n*s+0) new))=L++ent (some ⟨b,0,none⟩) el (over full (n*s) new)from by simp[ent]]at hwr;refine⟨some ⟨b,0,none⟩,c,over full (n*s) new,w',?_,hwr,?_,fun v hv=>(Va new full _ v hv).elim .inl fun h => .inr (.inl h)⟩
   .have hst:(storeCells (Addr.add ⟨b,0,none⟩ (n*s)) new).run P w=.ok () w':=by
     rw[add_none,qaz];exact hr
    simp[Builtin.append_,AO (Cx hu),AO (Cx hu2),C6 hs,Builtin.lenOf,hfc,hfit,hst]
   .refine⟨fun q hq=>by injection hq with hq;subst hq;rfl,(fun h=>by cases h),by rw[DF];exact O.len,hfit,?_⟩;have hsp:=O.split;have hll:=O.llen;have htl:(full.drop (n*s)).length=c*s - n*s:=by rw[qc1,O.len]
    have hcut:full.drop (n*s)=(full.drop (n*s)).take (m*s)++(full.drop (n*s)).drop (m*s):=by rw[qbq]
    have hover:∀(vs a b c:List Value),b.length=vs.length->over (a++b++c) a.length vs=a++vs++c:=by
     intro vs
     induction vs with
     |nil=>intro a b c hb;have:b=[]:=qb0 (by simpa using hb);subst this;simp[over]
     |cons v vs ih =>
      intro a b c hb
      cases b with
      |nil=>simp at hb
      |cons x b =>
       have:=ih (a++[v]) b c (by simpa using hb);simp only[over];rw[show(a++x::b++c).set a.length v=a++[v]++b++c from by simp];rw[show a.length+1=(a++[v]).length from by simp,this];simp
    have hgoal:over full (n*s) new=l++new++(full.drop (n*s)).drop (m*s):=by
     have h4:=hover new l ((full.drop (n*s)).take (m*s)) ((full.drop (n*s)).drop (m*s)) (by rw[qbb,htl,hn];omega);rw[qas,<-hcut,<-hsp,hll]at h4;exact h4
    rw[hgoal,qch (by rw[qat,hll,hn];omega)]
 ·-- a new block
  have hfit':c<n+m:=by omega
  have hncap:=JG (n+m) c hfit'
  have hbig:¬(281474976710656:Int)<((Builtin.nextslicecap (n+m) c*by':Nat):Int):=by
   have:Builtin.nextslicecap (n+m) c*by'<=(2*(n+m)+768)*by':=qcc _ hncap
   omega
  have hnm:n+m<=281474976710656:=by
   have h1:(2*(n+m)+768)*1<=(2*(n+m)+768)*by':=qd6 _ hpos
   omega
  -- the capacity that is drawn
  generalize hq:(Question.appendCap (n+m) c el).cut (w.tape w.drawn (Question.appendCap (n+m) c el))=cap;have hcap:n+m<=cap:=by rw[<-hq];unfold Question.cut;exact qel _ _
  obtain⟨zv,hzr,hzc⟩:=G4 (P:=P) hz w.drew;have hzs:zv.cells.size=s:=by rw[<-hzl,<-hzc];simp
  let full':=l++new++(Builtin.zeroCells zv.cells (cap - (n+m))).toList
  have hH:Ctx w0 S (w.drew.alloc (Bl el full')) ((w.drew.heap.size,Bl el full')::L):=by
   have:=(H.left.drew).alloc (Bl el full');exact this
  refine⟨some ⟨w.drew.heap.size,0,none⟩,cap,full',w.drew.alloc (Bl el full'),?_,?_,?_,?_⟩
  .have hforced:(Question.appendCap (n+m) c el).forced=false:=rfl
   have hby2:∃i,P.info? el=some i/\i.bytes=by':=by
    unfold DC at hby
    cases hi:P.info? el with
    |none=>rw[hi]at hby;cases hby
    |some i=>rw[hi]at hby;simp at hby;exact⟨i,rfl,hby⟩
   obtain⟨i,hi,hib⟩:=hby2;have hti:∀w,(typeInfo el).run P w=.ok i w:=fun w=>by simp[typeInfo,program,Sem.run,hi]
   have hold':(Builtin.firstCells s n (.slice a n c)).run P w.drew=.ok l.toArray w.drew:=by
    refine CR (O.llen) (fun j v hv=>?_);have hjl:j<l.length:=(qa8.1 hv).1
    have hn0:0<n:=by
     rcases qc8 n with h|h
     .have h5:=O.llen;rw[h,qc0]at h5;omega
     .exact h
    obtain⟨b,rfl⟩:=O.form hn0;refine⟨_,rfl,?_⟩;have hk:(L++ent (some ⟨b,0,none⟩) el full)[L.length]?=some (b,Bl el full):=by simp[ent]
    show w.cell? _=_;rw[add_none,qaz,Aj (H.get hk),O.split,qcb hjl];exact hv
   have hfc':(Builtin.firstCells s m (.slice a2 m c2)).run P w.drew=.ok new.toArray w.drew:=CR hn hc;have hroom:∀k w,(askRoom k).run P w=.ok () w:=fun k w=>by unfold askRoom;split <;> rfl
   have hby0:¬by'=0:=by omega
   have hnn:(Builtin.append_ #[t,t2] ty #[.slice a n c,.slice a2 m c2]).run P w=.ok (.slice (some ⟨w.drew.heap.size,0,none⟩) (n+m) cap) (w.drew.alloc (.cells (l.toArray++(new.toArray++Builtin.zeroCells zv.cells (cap - (n+m)))) el)):=by
    have hb3:¬281474976710656<Builtin.nextslicecap (n+m) c*by':=by omega
    simp[Builtin.append_,AO (Cx hu),AO (Cx hu2),C6 hs,Builtin.lenOf,hfc',hold',hfit,hti,hib,hb3,hby0,hforced,hq,hroom,hzr,newRow,newObj,Sem.run]
   rw[hnn]
   have harr:l.toArray++(new.toArray++Builtin.zeroCells zv.cells (cap - (n+m)))=full'.toArray:=by
    apply qb4;simp[full']
   rw[harr];rfl
  .exact hH.perm (qcv (l₁:=[(w.drew.heap.size,Bl el full')]) (l₂:=L))
  .refine⟨(fun q hq=>by injection hq with hq;subst hq;rfl),(fun h=>by cases h),?_,hcap,?_⟩
   .show(l++new++(Builtin.zeroCells zv.cells (cap - (n+m))).toList).length=cap*s;rw[qat,qat,O.llen,hn,qd4,FI,hzs,<-qbj,<-qbj]
    congr 1
    omega
   .show(l++new++(Builtin.zeroCells zv.cells (cap - (n+m))).toList).take ((n+m)*s)=l++new;rw[qch (by rw[qat,O.llen,hn,qbj])]
  .intro v hv
   rcases qbc.1 hv with h|h
   .rcases qbc.1 h with h|h
    .exact .inl (qea (by rw[O.pre];exact h))
    .exact .inr (.inl h)
   .refine .inr (.inr ?_);have h5:=RC _ _ v h;rw[hzc]at h5
    simpa using h5
end
section
variable {P:Program}{r:Option Nat}{ops rest:List Oper}{Q:Exit->Env->World->Prop}{e:Env}{w w0:World}{S:List Nat}{L:List (Nat × Obj)}{dst:Option Tmp}{ty:TypeId}{pos:String}{af:Array Edge}{g:Option (Nat × Bool)}
theorem Vc{t t2 el el2:TypeId}{x y:Operand}{s by':Nat}{zl:List Value}(hg:AV ⟨dst,.call ⟨.builtin .append,#[x,y],#[t,t2]⟩,ty,pos,af,g⟩ ops e=true)(hu:C1 P t=some el)(hu2:C1 P t2=some el2)(hs:Ce P el=some s)(hby:DC P el=some by')(hz:Cd P el=some zl)(hzl:zl.length=s){a:Option Addr}{n c m c2 b2:Nat}{t3:TypeId}{full l new:List Value}(hx:ev e x=.slice a n c)(hy:ev e y=.slice (some ⟨b2,0,none⟩) m c2)(H:Ctx w0 S w ((b2,Bl t3 new)::(L++ent a el full)))(O:OS a n c s full l)(hn:new.length=m*s)(h1:∀v∈new,AY v=true)(h:∀a' c' full' w',Ctx w0 S w' (L++ent a' el full')->OS a' (n+m) c' s full' (l++new)->(∀v∈full',v∈full\/v∈new\/v∈zl)->A7 P r ops Q rest (put e dst (.slice a' (n+m) c')) w')(hpos:0<by':=by decide)(hbound:(2*(n+m)+768)*by'<=281474976710656:=by omega):
  A7 P r ops Q (⟨dst,.call ⟨.builtin .append,#[x,y],#[t,t2]⟩,ty,pos,af,g⟩::rest) e w:=by
 obtain⟨a',c',full',w',hr,H',O',Z'⟩:=Vb (ty:=ty) hu hu2 hs hby hz hzl hpos H.tail O hn h1 (fun j v hv=>⟨_,rfl,by rw[add_none,qaz,Aj (H.get at0)];exact hv⟩) hbound (c2:=c2);exact B7 hg U (by simp[execOp,resolve,invoke,builtin,hx,hy,hr]) (h a' c' full' w' H' O' Z')
end
def TG:TypeDesc->Bool
 | .struct _=>false
 | .array _ _=>false
 |_=>true
def Qi(P:Program):List Field->Nat->List Bool->Bool
 | [],_,[]=>true
 |f::fs,i,k::ks=>(f.name != "_" && (f.offset == i && (match P.underlying f.type,k with|some (.int _),true=>true|some .bool,false=>true|_,_=>false))) && Qi P fs (i+1) ks
 |_,_,_=>false
def likeV:Bool->Value->Value->Prop
 |true,.int k _,.int k' _=>k=k'
 |false,.bool _,.bool _=>True
 |_,_,_=>False
def Sm:List Bool->List Value->List Value->Prop
 | [],[],[]=>True
 |k::ks,x::xs,y::ys=>likeV k x y/\Sm ks xs ys
 |_,_,_=>False
section
variable {P:Program}
theorem NG{t:TypeId}{u:TypeDesc}{cs:Array Value}{i:Nat}{v:Value}(w:World)(hu:P.underlying t=some u)(hs:TG u=true)(hc:cs[i]?=some v):(part t cs i).run P w=.ok v w:=by
 cases u <;> simp_all[part,isAgg,AO hu,TG]
theorem MK(d:Nat)(X Y:Array Value)(w:World):∀(fs:List Field) (i:Nat) (ks:List Bool) (xs ys:List Value),Qi P fs i ks=true->Sm ks xs ys->(∀j v,xs[j]?=some v->X[i+j]?=some v)->(∀j v,ys[j]?=some v->Y[i+j]?=some v) ->
  ∃r:Bool,(Op.eqFields (d+1) X Y fs).run P w=.ok r w/\(r=true↔xs=ys)
 | [],i,ks,xs,ys,hF,hL,_,_=>by
  cases ks with
  |cons k ks=>cases hF
  |nil =>
   cases xs with
   |cons x xs=>cases hL
   |nil =>
    cases ys with
    |cons y ys=>cases hL
    |nil=>exact⟨true,by simp[Op.eqFields],by simp⟩
 |f::fs,i,ks,xs,ys,hF,hL,hX,hY=>by
  cases ks with
  |nil=>cases hF
  |cons k ks =>
   cases xs with
   |nil=>cases hL
   |cons x xs =>
    cases ys with
    |nil=>cases hL
    |cons y ys =>
     obtain⟨hv,hL⟩:=hL;simp only[Qi,qae,bne_iff_ne,ne_eq,beq_iff_eq]at hF;obtain⟨⟨hn,ho,hu⟩,hF⟩:=hF;obtain⟨r,hr,hri⟩:=MK d X Y w fs (i+1) ks xs ys hF hL (fun j v hj=>by rw[qcm,qcy 1];exact hX (j+1) v hj) (fun j v hj=>by rw[qcm,qcy 1];exact hY (j+1) v hj);have hx0:=hX 0 x rfl;have hy0:=hY 0 y rfl;rw[qdn,<-ho]at hx0 hy0
     obtain⟨q,hq,hqi⟩:∃q:Bool,(∀w,(Op.equalIn (d+1) f.type x y).run P w=.ok q w)/\(q=true↔x=y):=by
      split at hu
      .rename_i k' hk
       cases x <;> cases y <;> (try exact hv.elim)
       rename_i k1 a k2 b
       obtain rfl:k1=k2:=hv;exact⟨a == b,fun w=>run_equalIn_int w d f.type _ _ a b hk,by simp⟩
      .rename_i hk
       cases x <;> cases y <;> (try exact hv.elim)
       rename_i a b
       exact⟨a == b,fun w=>run_equalIn_bool w d f.type a b hk,by simp⟩
      .cases hu
     have hu2:∃u,P.underlying f.type=some u/\TG u=true:=by
      split at hu
      .rename_i h1;exact⟨_,h1,rfl⟩
      .rename_i h1;exact⟨_,h1,rfl⟩
      .cases hu
     obtain⟨u,hu3,hu4⟩:=hu2;have hp1:=NG w hu3 hu4 hx0;have hp2:=NG w hu3 hu4 hy0
     cases q with
     |false =>
      refine⟨false,?_,?_⟩
      .simp[Op.eqFields,hn,hp1,hp2,hq]
      .have:¬x=y:=fun h=>by have:=hqi.2 h;cases this
       simp[this]
     |true =>
      refine⟨r,?_,?_⟩
      .simp[Op.eqFields,hn,hp1,hp2,hq,hr]
      .have:x=y:=hqi.1 rfl;simp[this,hri]
def JM(P:Program)(t:TypeId)(ks:List Bool):Bool :=
 (match P.underlying t with|some (.struct _)=>true|_=>false) && (!P.stoodInHeld t && (!P.eqGuardType P.depth t && Qi P (P.fieldsOf t).toList 0 ks))
theorem Qj{t:TypeId}{ks:List Bool}{xs ys:List Value}(w:World)(h:JM P t ks=true)(hL:Sm ks xs ys):∃r:Bool,(Op.equalIn 10000 t (.agg xs.toArray) (.agg ys.toArray)).run P w=.ok r w/\(r=true↔xs=ys):=by
 unfold JM at h;simp only[qae,qcr]at h;obtain⟨h1,h2,h3,h4⟩:=h
 have ht:P.underlying t=some (.struct (P.fieldsOf t)):=by
  unfold Program.fieldsOf
  split at h1
  .rename_i h5;rw[h5]
  .cases h1
 obtain⟨r,hr,hri⟩:=MK (P:=P) 9998 xs.toArray ys.toArray w _ 0 ks xs ys h4 hL (fun j v hv=>by rw[qaz];simpa using hv) (fun j v hv=>by rw[qaz];simpa using hv);exact⟨r,by rw[run_equalIn_struct w 9999 t _ _ ht h2];exact hr,hri⟩
end
section
variable {P:Program}{r:Option Nat}{ops rest:List Oper}{Q:Exit->Env->World->Prop}{e:Env}{w:World}{C:World->Prop}{K:Env->Prop}{dst:Option Tmp}{ty:TypeId}{pos:String}{af:Array Edge}{g:Option (Nat × Bool)}{t t2:TypeId}{x y:Operand}
theorem Ai4{ks:List Bool}{xs ys:List Value}{b:Bool}(h:JM P t ks=true)(hx:ev e x=.agg xs.toArray)(hy:ev e y=.agg ys.toArray)(hL:Sm ks xs ys)(hb:b=true↔xs=ys)(w:World) :
  (execOp (ev e) ⟨dst,.binOp .neq t x y t2,ty,pos,af,g⟩).run P w=.ok (.value (.bool (!b))) w:=by
 obtain⟨r,hr,hri⟩:=Qj w h hL;have hrb:r=b:=by rw[qad,hri,hb]
 have hg:(eqGuard .neq t x y (.agg xs.toArray) (.agg ys.toArray)).run P w=.ok () w:=run_eqGuard_agg w .neq t x y _ _ (by
  unfold JM at h;simp only[qae,qcr]at h;exact h.2.2.1)
 subst hrb;simp[execOp,hx,hy,hg,run_neq_struct,hr]
theorem Yv{ks:List Bool}{xs ys:List Value}(b:Bool)(hg:AV ⟨dst,.binOp .neq t x y t2,ty,pos,af,g⟩ ops e=true)(hx:ev e x=.agg xs.toArray)(hy:ev e y=.agg ys.toArray)(hL:Sm ks xs ys)(hb:b=true↔xs=ys)(hk:Wq P ops C K rest (put e dst (.bool (!b))))(h:JM P t ks=true:=by kernel_rfl):Wq P ops C K (⟨dst,.binOp .neq t x y t2,ty,pos,af,g⟩::rest) e:=Et hg (fun w _=>Ai4 h hx hy hL hb w) hk
end
section
variable {α:Type}{w w':World}{a:Option Addr}{s:Nat}{enc:α->List Value}{xs:List α}{S:List Nat}
theorem Rd.ext'(h:Rd w a s enc xs)(he:Ext S w w')(hn:xs≠[]->(adr a).block∉S):Rd w' a s enc xs :=
 ⟨h.some',fun i x hx j v hv hj=>he.cell (h.cell i x hx j v hv hj) (hn (by rintro rfl;simp at hx))⟩
theorem Rd.lt'(h:Rd w a s enc xs)(hs:∀x∈xs,(enc x).length=s)(h0:0<s)(hne:xs≠[]):(adr a).block<w.heap.size:=by
 cases xs with
 |nil=>exact absurd rfl hne
 |cons x xs =>
  obtain⟨v,hv⟩:=AE (l:=enc x) (i:=0) (h:=by rw[hs x (qak ..)];exact h0);exact World.block_lt_of_cell? w ⟨(adr a).block,(adr a).off+0*s+0,none⟩ (h.cell 0 x U 0 v hv h0)
end
structure Sl(w w':World)(v:Value)(s:Nat){α:Type}(enc:α->List Value)(xs:List α):Prop where
 ex:∃a c,v=.slice a xs.length c/\xs.length<=c/\Rd w' a s enc xs/\(xs≠[]->w.heap.size<=(adr a).block)
theorem Sl.of{w w':World}{el s:Nat}{v:Value}{α:Type}{enc:α->List Value}{xs:List α}(F:Fresh w w' el s v (xs.flatMap enc))(hs:∀x∈xs,(enc x).length=s)(h0:0<s):Sl w w' v s enc xs:=by
 obtain⟨a,n,c,full,rfl,O,hb⟩:=F.ex;obtain rfl:=O.numN hs h0;refine⟨a,c,rfl,O.le,OS.rd O (fun x hx=>(hb x hx).1) hs h0,fun hne=>?_⟩;obtain⟨q,rfl⟩:=O.form (qb2.2 hne);exact(hb (q,Bl el full) (qab.2 U)).2
theorem Sl.nil{w w':World}{s:Nat}{α:Type}{enc:α->List Value}:Sl w w' (.slice none 0 0) s enc ([]:List α):=⟨none,0,rfl,qam _,Rd.nil,fun h=>absurd rfl h⟩
section
variable {P:Program}{e:Env}{w w0:World}{S:List Nat}{L:List (Nat × Obj)}{fn:Func}{R:Value->World->Prop}
theorem JN{a s1 s2 s4:Tmp}{t t2:TypeId}{b k s:Nat}{l:List Value}{v1 v2 v4:Value}(hr:fn.results=#[.tmp s1,.tmp s2,.cell a t,.tmp s4])(hd:e.ds=[])(h1:e.g s1=v1)(h2:e.g s2=v2)(ha:e.g a=.pointer (some ⟨b,0,none⟩))(hag:Dt P t=some true)(hs:Ce P t=some s)(H:Ctx w0 S w L)(hk:L[k]?=some (b,Bl t2 l))(hl:l.length=s)(h4:e.g s4=v4)(h:R (.tuple #[v1,v2,.agg l.toArray,v4]) w):N3 P fn R .ret e w :=
 ⟨hd,fun tmps ht=>by
  have hv:=FH hag hs hl (fun j v hv=>show w.cell? ⟨b,0+j,none⟩=some v by rw[Aj (H.get hk),qaz];exact hv);have g1:=(ht a).trans ha;have g2:=(ht s1).trans h1;have g3:=(ht s2).trans h2;have g4:=(ht s4).trans h4;rw[qax]at g1 g2 g3 g4
  exact⟨.tuple #[v1,v2,.agg l.toArray,v4],by simp[results,hr,g1,g2,g3,g4,asAddr,hv],h⟩⟩
end
def GS{κ:Type}[DecidableEq κ](m:List (κ × Value))(k:κ):Option Value:=(m.find? fun p=>decide (p.1=k)).map (·.2)
def RJ{κ:Type}[DecidableEq κ]:List (κ × Value)->κ->List (κ × Value)
 | [],_=>[]
 |p::m,k=>if p.1=k then m else p::RJ m k
abbrev Vd(e:MapEntry):Value × Value:=(e.key,e.val)
abbrev Ve{κ:Type}(E:κ->List Value)(p:κ × Value):Value × Value:=(.agg (E p.1).toArray,p.2)
def NH{κ:Type}(E:κ->List Value)(m:List (κ × Value))(o:Obj):Prop :=
 ∃es clock,o=.map es clock/\es.toList.map Vd=m.map (Ve E)/\(∀e∈es.toList,e.born<clock)/\(es.toList.map (·.born)).Nodup
theorem Sn{κ:Type}[DecidableEq κ]{n:κ}:∀{m:List (κ × Value)},GS m n=none->RJ m n=m
 | [],_=>rfl
 |p::m,h=>by
  have hp:¬p.1=n:=fun hp=>by simp[GS,hp]at h
  have hm2:GS m n=none:=by rw[<-h];simp[GS,hp]
  simp[RJ,hp,Sn hm2]
structure KeyOk{κ:Type}(P:Program)(k:TypeId)(ks:List Bool)(E:κ->List Value):Prop where
 plain:JM P k ks=true
 like:∀x y,Sm ks (E x) (E y)
 inj:∀x y,E x=E y->x=y
section
variable {P:Program}{κ:Type}[DecidableEq κ]{k:TypeId}{ks:List Bool}{E:κ->List Value}
theorem So(h:JM P k ks=true):P.underlying k=some (.struct (P.fieldsOf k)):=by
 unfold JM at h;simp only[qae]at h;have h1:=h.1;unfold Program.fieldsOf
 split at h1
 .rename_i h5;rw[h5]
 .cases h1
omit [DecidableEq κ]in
theorem Jh(hK:KeyOk P k ks E)(b:Bool)(x:κ)(w:World)(d:Nat):(Instr.checkKey b (d+2) k (.agg (E x).toArray)).run P w=.ok () w:=by
 have hp:=hK.plain;have hu:=So hp;unfold JM at hp;simp only[qae]at hp;have hF:=hp.2.2.2;have hL:=hK.like x x;have hX:∀(j:Nat) (v:Value),(E x)[j]?=some v->(E x).toArray[0+j]?=some v:=fun j v hv=>by rw[qaz];simpa using hv
 rw[Instr.checkKey];simp only[Sem.run_bind,AO hu,Result.andThen_ok];rw[<-Array.forIn_toList];generalize(P.fieldsOf k).toList=fs at hF |-;generalize(E x).toArray=X at hX |-;generalize E x=xs at hL hX;generalize 0=i at hF hX;clear hp hu hK
 induction fs generalizing i ks xs with
 |nil=>simp
 |cons f fs ih =>
  cases ks with
  |nil=>cases hF
  |cons k ks =>
   cases xs with
   |nil=>exact hL.elim
   |cons x xs =>
    simp only[Qi,qae,bne_iff_ne,ne_eq,beq_iff_eq]at hF;obtain⟨⟨hn,ho,hu⟩,hF⟩:=hF;have ih:=ih xs hL.2 (i+1) hF (fun j v hj=>by rw[qcm,qcy 1];exact hX (j+1) v hj);have hx0:=hX 0 x rfl;rw[qdn,<-ho]at hx0
    obtain⟨u,hu3,hu4,hu5⟩:∃u,P.underlying f.type=some u/\TG u=true/\(Instr.checkKey b (d+1) f.type x).run P w=.ok () w:=by
     split at hu
     .rename_i h1;exact⟨_,h1,rfl,by simp[Instr.checkKey,AO h1]⟩
     .rename_i h1;exact⟨_,h1,rfl,by simp[Instr.checkKey,AO h1]⟩
     .cases hu
    have hp1:=NG w hu3 hu4 hx0;simp only[List.forIn_cons,Sem.run_bind,hn,not_false_eq_true,ne_eq,if_true,hp1,Result.andThen_ok,hu5,Sem.run_pure];exact ih
theorem Vf(hK:KeyOk P k ks E)(x:κ)(w:World):∀(es:List MapEntry) (m:List (κ × Value)) (i:Nat),es.map Vd=m.map (Ve E) ->
  (GS m x=none->(Instr.findAsking k (.agg (E x).toArray) es i).run P w=.ok none w) /\
  (∀v,GS m x=some v->∃j,(Instr.findAsking k (.agg (E x).toArray) es i).run P w=.ok (some (i+j,v)) w/\j<es.length/\(es.eraseIdx j).map Vd=(RJ m x).map (Ve E))
 | [],m,i,h=>by
  cases m with
  |nil=>exact⟨fun _=>by simp[Instr.findAsking],fun v hv=>by cases hv⟩
  |cons p m=>cases h
 |e::es,m,i,h=>by
  cases m with
  |nil=>cases h
  |cons p m =>
   simp only[qay,qdb,qc3]at h;obtain⟨⟨hk,hv⟩,ht⟩:=h;have ih:=Vf hK x w es m (i+1) ht;obtain⟨r,hr,hri⟩:=Qj (P:=P) w hK.plain (hK.like x p.1);have hr':(Op.equal k (.agg (E x).toArray) e.key).run P w=.ok r w:=by rw[hk];simp only[Op.equal,Op.maxDepth];exact hr
   by_cases hn:p.1=x
   .have hrt:r=true:=hri.2 (by rw[hn]);have hg:GS (p::m) x=some p.2:=by simp[GS,hn]
    refine⟨(fun h=>by rw[hg]at h;cases h),fun v hv'=>?_⟩;rw[hg]at hv'
    injection hv' with hv'
    subst hv';refine⟨0,by simp[Instr.findAsking,hr',hrt,hv],by simp,?_⟩;simp[RJ,hn,ht]
   .have hrf:r=false:=by
     cases r with
     |false=>rfl
     |true=>exact absurd (hK.inj _ _ (hri.1 rfl)).symm hn
    have hg:GS (p::m) x=GS m x:=by simp[GS,hn]
    rw[hg];refine⟨fun h=>by simp[Instr.findAsking,hr',hrf,ih.1 h],fun v hv'=>?_⟩;obtain⟨j,h1,h2,h3⟩:=ih.2 v hv';refine⟨j+1,by simp[Instr.findAsking,hr',hrf,h1];omega,by simp;omega,?_⟩;simp only[List.eraseIdx_cons_succ,qay,RJ,if_neg hn,h3];rw[show Vd e=Ve E p from by unfold Vd Ve;rw[hk,hv]]
theorem NI(hK:KeyOk P k ks E)(x:κ)(w:World){es:List MapEntry}{m:List (κ × Value)}(h:es.map Vd=m.map (Ve E)) :
  (GS m x=none->(Instr.findKey k (.agg (E x).toArray) es).run P w=.ok none w) /\
  (∀v,GS m x=some v->∃j,(Instr.findKey k (.agg (E x).toArray) es).run P w=.ok (some (j,v)) w/\j<es.length/\(es.eraseIdx j).map Vd=(RJ m x).map (Ve E)):=by
 have hu:=So hK.plain;have ha:=Vf hK x w es m 0 h
 have hf:(Instr.findKey k (.agg (E x).toArray) es).run P w=(Instr.findAsking k (.agg (E x).toArray) es 0).run P w:=by
  unfold Instr.findKey
  cases es with
  |nil=>simp[AO hu,Instr.findNow,Instr.findAsking]
  |cons e es=>simp[AO hu,Instr.findNow,Instr.sameNow]
 rw[hf];refine⟨ha.1,fun v hv=>?_⟩;obtain⟨j,h1,h2,h3⟩:=ha.2 v hv;exact⟨j,by rw[h1,qaz],h2,h3⟩
end
section
variable {P:Program}{r:Option Nat}{ops rest:List Oper}{Q:Exit->Env->World->Prop}{e:Env}{w w0:World}{S:List Nat}{L:List (Nat × Obj)}{dst:Option Tmp}{ty:TypeId}{pos:String}{af:Array Edge}{g:Option (Nat × Bool)}{κ:Type}[DecidableEq κ]{k:TypeId}{ks:List Bool}{E:κ->List Value}
omit [DecidableEq κ]in
theorem Vg{t:TypeId}(E:κ->List Value)(hg:AV ⟨dst,.makeMap t none,ty,pos,af,g⟩ ops e=true)(H:Ctx w0 S w L)(h:∀b o w',NH E [] o->Ctx w0 S w' ((b,o)::L)->A7 P r ops Q rest (put e dst (.map (some b))) w') :
  A7 P r ops Q (⟨dst,.makeMap t none,ty,pos,af,g⟩::rest) e w:=by
 refine B7 (w':=w.alloc (.map #[] 0)) (v := .map (some w.heap.size)) hg U ?_ (h _ _ _ ⟨#[],0,rfl,rfl,by simp,by simp⟩ (H.alloc _));simp[execOp,Instr.makeMap,newObj,Sem.run]
theorem OB{t el:TypeId}{b:Nat}{o:Obj}{m:List (κ × Value)}{x:κ}{z:Value}(ok:Bool)(hK:KeyOk P k ks E)(ht:Ip P t=some (k,el))(hz:(P.info? el).bind (·.zero)=some z)(hb:w.heap[b]?=some o)(hM:NH E m o) :
  (Instr.lookup t (.map (some b)) (.agg (E x).toArray) ok).run P w=.ok (if ok then .tuple #[(GS m x).getD z,.bool (GS m x).isSome]else(GS m x).getD z) w:=by
 obtain⟨es,clock,rfl,hes,_⟩:=hM;have hf:=NI hK x w hes;have hgo:(getObj b).run P w=.ok (.map es clock) w:=by simp[getObj,Sem.run,hb]
 have hck:∀b w,(Instr.checkKey b 10000 k (.agg (E x).toArray)).run P w=.ok () w:=fun b w=>Jh hK b x w 9998
 have hzr:(zeroValue el).run P w=.ok z w:=by
  cases hi:P.info? el with
  |none=>rw[hi]at hz;cases hz
  |some i=>rw[hi]at hz;simp at hz;simp[zeroValue,typeInfo,program,Sem.run,hi,hz]
 cases hm:GS m x with
 |none=>cases ok <;> simp[Instr.lookup,AO (Fv ht),hgo,hck,hf.1 hm,hzr]
 |some v =>
  obtain⟨i,hi,_⟩:=hf.2 v hm;cases ok <;> simp[Instr.lookup,AO (Fv ht),hgo,hck,hi]
theorem Xc{t t2 el:TypeId}{x y:Operand}{b j:Nat}{o:Obj}{m:List (κ × Value)}(n:κ)(hg:AV ⟨dst,.call ⟨.builtin .delete,#[x,y],#[t,t2]⟩,ty,pos,af,g⟩ ops e=true)(hK:KeyOk P k ks E)(ht:Ip P t=some (k,el))(hx:ev e x=.map (some b))(hy:ev e y=.agg (E n).toArray)(H:Ctx w0 S w L)(hl:L[j]?=some (b,o))(hM:NH E m o)(h:∀o' w',NH E (RJ m n) o'->Ctx w0 S w' (L.set j (b,o'))->A7 P r ops Q rest (put e dst (.tuple #[])) w'):A7 P r ops Q (⟨dst,.call ⟨.builtin .delete,#[x,y],#[t,t2]⟩,ty,pos,af,g⟩::rest) e w:=by
 obtain⟨es,clock,rfl,hes,hbn,hnd⟩:=hM;have hb:=H.get hl;have hf:=NI hK n w hes;have hgo:(getObj b).run P w=.ok (.map es clock) w:=by simp[getObj,Sem.run,hb]
 have hck:∀b w,(Instr.checkKey b 10000 k (.agg (E n).toArray)).run P w=.ok () w:=fun b w=>Jh hK b n w 9998;have hso:∀o',(setObj b o').run P w=.ok () (w.putObj b o'):=fun o'=>by simp[setObj,Sem.run,hb,World.putObj]
 cases hm:GS m n with
 |none =>
  have hkd:RJ m n=m:=Sn hm;refine B7 hg U ?_ (h (.map es clock) (w.putObj b _) ⟨es,clock,rfl,by rw[hkd];exact hes,hbn,hnd⟩ (H.setB hl _));simp[execOp,resolve,invoke,builtin,hx,hy,Builtin.delete_,AO (Fv ht),hgo,hck,hf.1 hm,hso]
 |some v =>
  obtain⟨i,hi,hil,h3⟩:=hf.2 v hm;have hil2:i<es.size:=by simpa using hil
  have hto:(es.eraseIdxIfInBounds i).toList=es.toList.eraseIdx i:=by simp[Array.eraseIdxIfInBounds,hil2]
  refine B7 hg U ?_ (h (.map (es.eraseIdxIfInBounds i) clock) (w.putObj b _) ⟨_,clock,rfl,by rw[hto];exact h3,fun e he=>hbn e ?_,?_⟩ (H.setB hl _))
  .simp[execOp,resolve,invoke,builtin,hx,hy,Builtin.delete_,AO (Fv ht),hgo,hck,hi,hso]
  .rw[hto]at he;exact qei he
  .rw[hto];exact hnd.sublist ((qes _ _).map _)
def EntK(E:κ->List Value)(n:κ)(st:Int)(m:List (κ × Value))(o:Obj):Prop :=
 ∃(es:Array MapEntry) (clock:Nat) (z:Value),o=.map (es.push { key := .agg (E n).toArray,val:=z,born:=clock }) (clock+1)/\st=(clock:Nat)/\es.toList.map Vd=m.map (Ve E)/\(∀e∈es.toList,e.born<clock)/\(es.toList.map (·.born)).Nodup
theorem TH{t el:TypeId}{x y:Operand}{b j:Nat}{o:Obj}{m:List (κ × Value)}(n:κ){z:Value}(hg:AV ⟨dst,.mapEntry t x y,ty,pos,af,g⟩ ops e=true)(hK:KeyOk P k ks E)(ht:Ip P t=some (k,el))(hz:(P.info? el).bind (·.zero)=some z)(hx:ev e x=.map (some b))(hy:ev e y=.agg (E n).toArray)(H:Ctx w0 S w L)(hl:L[j]?=some (b,o))(hM:NH E m o)(hm:GS m n=none)(h:∀st o' w',EntK E n st m o'->Ctx w0 S w' (L.set j (b,o'))->A7 P r ops Q rest (put e dst (.tuple #[z,.int .i64 st])) w'):A7 P r ops Q (⟨dst,.mapEntry t x y,ty,pos,af,g⟩::rest) e w:=by
 obtain⟨es,clock,rfl,hes,hbn,hnd⟩:=hM;have hb:=H.get hl;have hf:=NI hK n w hes;have hgo:(getObj b).run P w=.ok (.map es clock) w:=by simp[getObj,Sem.run,hb]
 have hck:∀b w,(Instr.checkKey b 10000 k (.agg (E n).toArray)).run P w=.ok () w:=fun b w=>Jh hK b n w 9998;have hso:∀o',(setObj b o').run P w=.ok () (w.putObj b o'):=fun o'=>by simp[setObj,Sem.run,hb,World.putObj]
 have hzr:(zeroValue el).run P w=.ok z w:=by
  cases hi:P.info? el with
  |none=>rw[hi]at hz;cases hz
  |some i=>rw[hi]at hz;simp at hz;simp[zeroValue,typeInfo,program,Sem.run,hi,hz]
 refine B7 hg U ?_ (h (clock:Nat) _ (w.putObj b _) ⟨es,clock,z,rfl,rfl,hes,hbn,hnd⟩ (H.setB hl _));simp[execOp,Instr.mapEntry,AO (Fv ht),hx,hy,hgo,hck,hf.1 hm,hzr,hso,goInt]
omit [DecidableEq κ]in
theorem Ql{t:TypeId}{x y z:Operand}{b j:Nat}{o:Obj}{m:List (κ × Value)}{n:κ}{st:Int}(v:Value)(hg:AV ⟨dst,.entryStore t x y z,ty,pos,af,g⟩ ops e=true)(hx:ev e x=.map (some b))(hy:ev e y=.int .i64 st)(hz:ev e z=v)(H:Ctx w0 S w L)(hl:L[j]?=some (b,o))(hE:EntK E n st m o)(h:∀o' w',NH E (m++[(n,v)]) o'->Ctx w0 S w' (L.set j (b,o'))->A7 P r ops Q rest (put e dst undef) w'):A7 P r ops Q (⟨dst,.entryStore t x y z,ty,pos,af,g⟩::rest) e w:=by
 obtain⟨es,clock,z0,rfl,rfl,hes,hbn,hnd⟩:=hE;have hb:=H.get hl;have hgo:(getObj b).run P w=.ok (.map (es.push { key := .agg (E n).toArray,val:=z0,born:=clock }) (clock+1)) w:=by simp[getObj,Sem.run,hb]
 have hso:∀o',(setObj b o').run P w=.ok () (w.putObj b o'):=fun o'=>by simp[setObj,Sem.run,hb,World.putObj]
 have hno:es.findIdx? (fun e=>((e.born:Nat):Int) == ((clock:Nat):Int))=none:=by
  rw[Array.findIdx?_eq_none_iff];intro x hx;have:=hbn x (qdl.2 hx);simp only[beq_eq_false_iff_ne,ne_eq];omega
 have hfi:(es.push { key := .agg (E n).toArray,val:=z0,born:=clock }).findIdx? (fun e=>((e.born:Nat):Int) == ((clock:Nat):Int))=some es.size:=by
  rw[Array.findIdx?_push,hno];simp
 refine Lz (w':=w.putObj b (.map (es.push { key := .agg (E n).toArray,val:=v,born:=clock }) (clock+1))) hg U ?_ (h _ _ ⟨_,_,rfl,?_,?_,?_⟩ (H.setB hl _))
 .have hmod:(es.push { key := .agg (E n).toArray,val:=z0,born:=clock }).modify es.size (fun e=>{ e with val:=v })=es.push { key := .agg (E n).toArray,val:=v,born:=clock }:=by
   apply qb4;rw[qd7,qcw,qcw];have:es.size=es.toList.length:=by simp
   rw[this];generalize es.toList=l
   induction l with
   |nil=>rfl
   |cons x l ih=>simp only[qa9,qck,qev,ih]
  simp[execOp,Instr.entryStore,hx,hy,hz,hgo,asInt,asIntOf,hfi,hso,hmod]
 .simp[hes]
 .intro x hx;simp only[qcw,qbc,qab]at hx
  rcases hx with hx|rfl
  .have:=hbn x hx;omega
  .simp
 .simp only[qcw,qav,qay,qcn];rw[qdo];refine⟨hnd,by simp,?_⟩;intro x hx y hy;simp only[qab]at hy;subst hy;rw[qah]at hx;obtain⟨e',he',rfl⟩:=hx;have:=hbn e' he';omega
end
structure OSo(a:Option Addr)(o n c s:Nat)(full l:List Value):Prop where
 pos:∀p,a=some p->p=⟨p.block,o*s,none⟩
 none':a=none->c=0/\o=0
 len:full.length=(o+c)*s
 le:n<=c
 pre:(full.drop (o*s)).take (n*s)=l
theorem OSo.nil{s:Nat}:OSo none 0 0 0 s [] []:=⟨(fun _ h=>by cases h),fun _=>⟨rfl,rfl⟩,by simp,qam _,by simp⟩
theorem OSo.llen{a:Option Addr}{o n c s:Nat}{full l:List Value}(h:OSo a o n c s full l):l.length=n*s:=by
 rw[<-h.pre,qbb,qc1,h.len,qbj];have:=qcc s h.le;omega
theorem OSo.split{a:Option Addr}{o n c s:Nat}{full l:List Value}(h:OSo a o n c s full l):full=full.take (o*s)++l++full.drop (o*s+n*s):=by
 rw[<-h.pre,qas,<-List.drop_drop,qbq,qbq]
theorem OSo.cell{w:World}{b o n c s:Nat}{full l:List Value}{t:TypeId}(h:OSo (some ⟨b,o*s,none⟩) o n c s full l)(hb:w.heap[b]?=some (Bl t full)){j:Nat}{v:Value}(hv:l[j]?=some v):w.cell? ⟨b,o*s+j,none⟩=some v:=by
 have hjl:j<l.length:=(qa8.1 hv).1;have hll:=h.llen;have hmul:=qcc s h.le;have hlen:=h.len;rw[qbj]at hlen;rw[Aj hb,h.split,qas,qbv (by rw[qbb];omega),qbb,show o*s+j - min (o*s) full.length=j by omega,qcb hjl];exact hv
theorem OSo.cut{b o n c s:Nat}{full l:List Value}(h:OSo (some ⟨b,o*s,none⟩) o (n+1) c s full l)(hc:1<c):OSo (MG (some ⟨b,o*s,none⟩) c 1 s) (o+1) n (c - 1) s full (l.drop s) where
 pos:=fun p hp=>by
  unfold MG at hp;rw[if_neg (by omega)]at hp;simp only[qcz,qb3]at hp;subst hp;rw[add_none];simp only[Addr.mk.injEq,true_and,and_true];rw[qbj]
 none':=fun h=>by unfold MG at h;rw[if_neg (by omega)]at h;cases h
 len:=by rw[h.len,show o+1+(c - 1)=o+c by omega]
 le:=by have:=h.le;omega
 pre:=by
  rw[<-h.pre,List.drop_take,List.drop_drop,qbj,qbj,Nat.one_mul]
  congr 1
  omega
section
variable {P:Program}{w w0:World}{S:List Nat}{L:List (Nat × Obj)}
theorem Ac7:∀(vs a b c:List Value),b.length=vs.length->over (a++b++c) a.length vs=a++vs++c:=by
 intro vs
 induction vs with
 |nil=>intro a b c hb;have:b=[]:=qb0 (by simpa using hb);subst this;simp[over]
 |cons v vs ih =>
  intro a b c hb
  cases b with
  |nil=>simp at hb
  |cons x b =>
   have:=ih (a++[v]) b c (by simpa using hb);simp only[over];rw[show(a++x::b++c).set a.length v=a++[v]++b++c from by simp];rw[show a.length+1=(a++[v]).length from by simp,this];simp
theorem Vh{t t2 el el2 ty:TypeId}{s by':Nat}{zl:List Value}(hu:C1 P t=some el)(hu2:C1 P t2=some el2)(hs:Ce P el=some s)(hby:DC P el=some by')(hz:Cd P el=some zl)(hzl:zl.length=s)(hpos:0<by'){a a2:Option Addr}{o n c m c2:Nat}{full l new:List Value}(H:Ctx w0 S w (L++ent a el full))(O:OSo a o n c s full l)(hm:0<m)(hn:new.length=m*s)(h1:∀v∈new,AY v=true)(hc:∀j v,new[j]?=some v->∃p,a2=some p/\w.cell? (p.add j)=some v)(hbound:(2*(n+m)+768)*by'<=281474976710656) :
  ∃a' o' c' full' w',(Builtin.append_ #[t,t2] ty #[.slice a n c,.slice a2 m c2]).run P w=.ok (.slice a' (n+m) c') w'/\Ctx w0 S w' (L++ent a' el full')/\OSo a' o' (n+m) c' s full' (l++new)/\(a'=a/\o'=o\/o'=0):=by
 have hfc:=CR (P:=P) (w:=w) (s:=s) (m:=m) (a:=a2) (c:=m) (k:=c2) hn hc
 by_cases hfit:n+m<=c
 ·-- in place
  cases a with
  |none =>
   have h0:=(O.none' rfl).1;omega
  |some p =>
   have hp:=O.pos p rfl;obtain⟨b,o2,sp⟩:=p;simp only[Addr.mk.injEq,true_and]at hp;obtain⟨rfl,rfl⟩:=hp;have hk:(L++ent (some ⟨b,o*s,none⟩) el full)[L.length]?=some (b,Bl el full):=by simp[ent]
   have hb:=H.get hk;have hmul:(n+m)*s<=c*s:=qcc _ hfit;have hadd:(n+m)*s=n*s+m*s:=qbj _ _ _;have hlen:=O.len;rw[qbj]at hlen;have hll:=O.llen;obtain⟨w',hr,he,hb'⟩:=EP (P:=P) (o:=o*s+n*s) new full w 0 h1 hb (by omega);have hwr:=H.turn hk _ he hb';rw[show(L++ent (some ⟨b,o*s,none⟩) el full).set L.length (b,Bl el (over full (o*s+n*s+0) new))=L++ent (some ⟨b,o*s,none⟩) el (over full (o*s+n*s) new)from by simp[ent]]at hwr;refine⟨some ⟨b,o*s,none⟩,o,c,over full (o*s+n*s) new,w',?_,hwr,?_,.inl ⟨rfl,rfl⟩⟩
   .have hst:(storeCells (Addr.add ⟨b,o*s,none⟩ (n*s)) new).run P w=.ok () w':=by
     rw[add_none];exact hr
    simp[Builtin.append_,AO (Cx hu),AO (Cx hu2),C6 hs,Builtin.lenOf,hfc,hfit,hst]
   .refine⟨fun q hq=>by injection hq with hq;subst hq;rfl,(fun h=>by cases h),by rw[DF];exact O.len,hfit,?_⟩;have hsp:=O.split;have hpl:(full.take (o*s)++l).length=o*s+n*s:=by rw[qat,qbb,hll];omega
    have htl:(full.drop (o*s+n*s)).length=c*s - n*s:=by rw[qc1];omega
    have hgoal:over full (o*s+n*s) new=(full.take (o*s)++l)++new++(full.drop (o*s+n*s)).drop (m*s):=by
     have h4:=Ac7 new (full.take (o*s)++l) ((full.drop (o*s+n*s)).take (m*s)) ((full.drop (o*s+n*s)).drop (m*s)) (by rw[qbb,htl,hn];omega);rw[qas (full.take (o*s)++l),qbq,<-hsp,hpl]at h4;exact h4
    rw[hgoal,qas,qas,List.drop_left' (by rw[qbb];omega),<-qas,qch (by rw[qat,hll,hn];omega)]
 ·-- a new block
  have hfit':c<n+m:=by omega
  have hncap:=JG (n+m) c hfit'
  have hnm:n+m<=281474976710656:=by
   have h1:(2*(n+m)+768)*1<=(2*(n+m)+768)*by':=qd6 _ hpos
   omega
  generalize hq:(Question.appendCap (n+m) c el).cut (w.tape w.drawn (Question.appendCap (n+m) c el))=cap;have hcap:n+m<=cap:=by rw[<-hq];unfold Question.cut;exact qel _ _
  obtain⟨zv,hzr,hzc⟩:=G4 (P:=P) hz w.drew;have hzs:zv.cells.size=s:=by rw[<-hzl,<-hzc];simp
  let full':=l++new++(Builtin.zeroCells zv.cells (cap - (n+m))).toList
  have hH:Ctx w0 S (w.drew.alloc (Bl el full')) ((w.drew.heap.size,Bl el full')::L):=by
   have:=(H.left.drew).alloc (Bl el full');exact this
  refine⟨some ⟨w.drew.heap.size,0,none⟩,0,cap,full',w.drew.alloc (Bl el full'),?_,?_,?_,.inr rfl⟩
  .have hforced:(Question.appendCap (n+m) c el).forced=false:=rfl
   have hby2:∃i,P.info? el=some i/\i.bytes=by':=by
    unfold DC at hby
    cases hi:P.info? el with
    |none=>rw[hi]at hby;cases hby
    |some i=>rw[hi]at hby;simp at hby;exact⟨i,rfl,hby⟩
   obtain⟨i,hi,hib⟩:=hby2;have hti:∀w,(typeInfo el).run P w=.ok i w:=fun w=>by simp[typeInfo,program,Sem.run,hi]
   have hold':(Builtin.firstCells s n (.slice a n c)).run P w.drew=.ok l.toArray w.drew:=by
    refine CR (O.llen) (fun j v hv=>?_);have hjl:j<l.length:=(qa8.1 hv).1
    cases a with
    |none =>
     have h0:=(O.none' rfl).1;have h5:=O.llen;have h6:=O.le;have:n=0:=by omega
     subst this;omega
    |some p =>
     have hp:=O.pos p rfl;obtain⟨b,o2,sp⟩:=p;simp only[Addr.mk.injEq,true_and]at hp;obtain⟨rfl,rfl⟩:=hp;refine⟨_,rfl,?_⟩;have hk:(L++ent (some ⟨b,o*s,none⟩) el full)[L.length]?=some (b,Bl el full):=by simp[ent]
     show w.cell? _=_;rw[add_none];exact O.cell (H.get hk) hv
   have hfc':(Builtin.firstCells s m (.slice a2 m c2)).run P w.drew=.ok new.toArray w.drew:=CR hn hc;have hroom:∀k w,(askRoom k).run P w=.ok () w:=fun k w=>by unfold askRoom;split <;> rfl
   have hby0:¬by'=0:=by omega
   have hnn:(Builtin.append_ #[t,t2] ty #[.slice a n c,.slice a2 m c2]).run P w=.ok (.slice (some ⟨w.drew.heap.size,0,none⟩) (n+m) cap) (w.drew.alloc (.cells (l.toArray++(new.toArray++Builtin.zeroCells zv.cells (cap - (n+m)))) el)):=by
    have:Builtin.nextslicecap (n+m) c*by'<=(2*(n+m)+768)*by':=qcc _ hncap
    have hb3:¬281474976710656<Builtin.nextslicecap (n+m) c*by':=by omega
    simp[Builtin.append_,AO (Cx hu),AO (Cx hu2),C6 hs,Builtin.lenOf,hfc',hold',hfit,hti,hib,hb3,hby0,hforced,hq,hroom,hzr,newRow,newObj,Sem.run]
   rw[hnn]
   have harr:l.toArray++(new.toArray++Builtin.zeroCells zv.cells (cap - (n+m)))=full'.toArray:=by
    apply qb4;simp[full']
   rw[harr];rfl
  .exact hH.perm (qcv (l₁:=[(w.drew.heap.size,Bl el full')]) (l₂:=L))
  .refine⟨(fun q hq=>by injection hq with hq;subst hq;rw[qc0]),(fun h=>by cases h),?_,hcap,?_⟩
   .show(l++new++(Builtin.zeroCells zv.cells (cap - (n+m))).toList).length=(0+cap)*s;rw[qat,qat,O.llen,hn,qd4,FI,hzs,<-qbj,<-qbj]
    congr 1
    omega
   .show((l++new++(Builtin.zeroCells zv.cells (cap - (n+m))).toList).drop (0*s)).take ((n+m)*s)=l++new;rw[qc0,List.drop_zero,qch (by rw[qat,O.llen,hn,qbj])]
end
section
variable {P:Program}{r:Option Nat}{ops rest:List Oper}{Q:Exit->Env->World->Prop}{e:Env}{w w0:World}{S:List Nat}{L:List (Nat × Obj)}{dst:Option Tmp}{ty:TypeId}{pos:String}{af:Array Edge}{g:Option (Nat × Bool)}
theorem Xd{t t2 el el2:TypeId}{x y:Operand}{s by':Nat}{zl:List Value}(hg:AV ⟨dst,.call ⟨.builtin .append,#[x,y],#[t,t2]⟩,ty,pos,af,g⟩ ops e=true)(hu:C1 P t=some el)(hu2:C1 P t2=some el2)(hs:Ce P el=some s)(hby:DC P el=some by')(hz:Cd P el=some zl)(hzl:zl.length=s){a a2:Option Addr}{o n c m c2:Nat}{full l new:List Value}(hx:ev e x=.slice a n c)(hy:ev e y=.slice a2 m c2)(H:Ctx w0 S w (L++ent a el full))(O:OSo a o n c s full l)(hn:new.length=m*s)(h1:∀v∈new,AY v=true)(hc:∀j v,new[j]?=some v->∃p,a2=some p/\w.cell? (p.add j)=some v)(h:∀a' o' c' full' w',Ctx w0 S w' (L++ent a' el full')->OSo a' o' (n+m) c' s full' (l++new)->A7 P r ops Q rest (put e dst (.slice a' (n+m) c')) w')(hpos:0<by':=by decide)(hm:0<m:=by decide)(hbound:(2*(n+m)+768)*by'<=281474976710656:=by omega):
  A7 P r ops Q (⟨dst,.call ⟨.builtin .append,#[x,y],#[t,t2]⟩,ty,pos,af,g⟩::rest) e w:=by
 obtain⟨a',o',c',full',w',hr,H',O',-⟩:=Vh (ty:=ty) hu hu2 hs hby hz hzl hpos H O hm hn h1 hc hbound (c2:=c2);exact B7 hg U (by simp[execOp,resolve,invoke,builtin,hx,hy,hr]) (h a' o' c' full' w' H' O')
end
end Go.GV
