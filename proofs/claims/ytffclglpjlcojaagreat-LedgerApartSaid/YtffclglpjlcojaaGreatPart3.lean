/- Part 3 of the proof. -/
import Derived.Test.YtffclglpjlcojaaGreatPart2
import Derived.Maps.RangeRun
import Derived.Laws.StructEq
import Derived.JoinedOf
import Derived.ProofKit
import Derived.Deep.Slices
import Derived.OpenShut
namespace Go.GV
open Go
section
variable {P:Program}{r:Option Nat}{ops rest:List Oper}{Q:Exit->Env->World->Prop}{e:Env}{w w0:World}{S:List Nat}{L:List (Nat × Obj)}{C:World->Prop}{K:Env->Prop}{dst:Option Tmp}{ty:TypeId}{pos:String}{af:Array Edge}{g:Option (Nat × Bool)}
theorem Wf{P:Program}{t el:TypeId}(hu:P.underlying t=some (.pointer el))(d:Nat)(a:Option Addr)(w:World):(Op.equalIn (d+1) t (.pointer a) (.pointer none)).run P w=.ok a.isNone w:=by
 cases a <;> simp[Op.equalIn,Bf hu]
theorem Tq{P:Program}{t el:TypeId}(hu:P.underlying t=some (.pointer el))(a:Option Addr)(w:World):(binOp .eql t (.pointer a) (.pointer none)).run P w=.ok (.bool a.isNone) w:=by
 simp only[binOp,Sem.run_bind,Op.equal,Op.maxDepth,Wf hu 9999];cases a <;> rfl
theorem Zm{P:Program}{t el:TypeId}(hu:P.underlying t=some (.pointer el))(a:Option Addr)(w:World):(binOp .neq t (.pointer a) (.pointer none)).run P w=.ok (.bool a.isSome) w:=by
 simp only[binOp,Sem.run_bind,Op.equal,Op.maxDepth,Wf hu 9999];cases a <;> rfl
theorem Cu{t t2:TypeId}{x:Operand}{a:Option Addr}{el:TypeId}(hu:P.underlying t=some (.pointer el))(hx:ev e x=.pointer a)(h:AG P r ops Q rest (put e dst (.bool a.isNone)) w)(hg:AS ⟨dst,.binOp .eql t x (.const (.pointer none)) t2,ty,pos,af,g⟩ ops e=true:=by exact U):AG P r ops Q (⟨dst,.binOp .eql t x (.const (.pointer none)) t2,ty,pos,af,g⟩::rest) e w :=
 BK hg rfl (by
  have hq:eqGuard .eql t x (.const (.pointer none)) (.pointer a) (.pointer none)=pure ():=rfl;have he:ev e (.const (.pointer none))=.pointer none:=rfl
  simp only[execOp,hx,he,hq,Sem.run_bind,Sem.run_pure,Result.andThen_ok,Tq hu]) h
theorem XA{t t2:TypeId}{x:Operand}{a:Option Addr}{el:TypeId}(hg:AS ⟨dst,.binOp .neq t x (.const (.pointer none)) t2,ty,pos,af,g⟩ ops e=true)(hu:P.underlying t=some (.pointer el))(hx:ev e x=.pointer a)(h:AG P r ops Q rest (put e dst (.bool a.isSome)) w):AG P r ops Q (⟨dst,.binOp .neq t x (.const (.pointer none)) t2,ty,pos,af,g⟩::rest) e w :=
 BK hg rfl (by
  have hq:eqGuard .neq t x (.const (.pointer none)) (.pointer a) (.pointer none)=pure ():=rfl;have he:ev e (.const (.pointer none))=.pointer none:=rfl
  simp only[execOp,hx,he,hq,Sem.run_bind,Sem.run_pure,Result.andThen_ok,Zm hu]) h
theorem UW{t k el:TypeId}{kk:IntKind}{x y:Operand}{b:Nat}{o:Obj}{m:List (Int × Value)}{n:Int}{z:Value}(ht:Mf P t=some (k,el))(hk:P.underlying k=some (.int kk))(hz:(P.info? el).bind (·.zero)=some z)(hx:ev e x=.map (some b))(hy:ev e y=.int kk n)(hb:w.heap[b]?=some o)(hM:CY kk m o) :
  (execOp (ev e) ⟨dst,.lookup t x y false,ty,pos,af,g⟩).run P w=.ok (.value ((Ey m n).getD z)) w:=by
 obtain⟨es,clock,rfl,hes,_⟩:=hM;have hf:=GC kk n es.toList m 0 hes;have hgo:(getObj b).run P w=.ok (.map es clock) w:=by simp[getObj,Sem.run,hb]
 have hzr:(zeroValue el).run P w=.ok z w:=by
  cases hi:P.info? el with
  |none=>rw[hi]at hz;cases hz
  |some i=>rw[hi]at hz;simp at hz;simp[zeroValue,typeInfo,program,Sem.run,hi,hz]
 cases hm:Ey m n with
 |none=>simp[execOp,Instr.lookup,Bf (Ib ht),hx,hy,hgo,DS hk,Instr.findKey,Bf hk,hf.1 hm,hzr]
 |some v =>
  obtain⟨i,hi,_⟩:=hf.2 v hm;simp[execOp,Instr.lookup,Bf (Ib ht),hx,hy,hgo,DS hk,Instr.findKey,Bf hk,hi]
theorem UX{t k el:TypeId}{kk:IntKind}{x y:Operand}{b:Nat}{o:Obj}{m:List (Int × Value)}{n:Int}{z:Value}(hg:AS ⟨dst,.lookup t x y false,ty,pos,af,g⟩ ops e=true)(ht:Mf P t=some (k,el))(hk:P.underlying k=some (.int kk))(hz:(P.info? el).bind (·.zero)=some z)(hx:ev e x=.map (some b))(hy:ev e y=.int kk n)(hb:w.heap[b]?=some o)(hM:CY kk m o)(h:AG P r ops Q rest (put e dst ((Ey m n).getD z)) w):AG P r ops Q (⟨dst,.lookup t x y false,ty,pos,af,g⟩::rest) e w :=
 BK hg rfl (UW ht hk hz hx hy hb hM) h
end
section
variable {P:Program}{r:Option Nat}{ops rest:List Oper}{Q:Exit->Env->World->Prop}{e:Env}{w w0:World}{S:List Nat}{L:List (Nat × Obj)}{dst:Option Tmp}{ty:TypeId}{pos:String}{af:Array Edge}{g:Option (Nat × Bool)}
theorem OU(z:Array Value)(n:Nat):(Builtin.zeroCells z n).toList=(List.replicate n z.toList).flatten:=by
 have hr:(List.replicate n z.toList).flatten=(List.replicate n z.toList).flatMap id:=List.flatMap_id.symm;rw[hr]
 rcases qcw z.size with h|h
 .have h2:z.toList=[]:=by rw[<-List.length_eq_zero_iff];simpa using h
  simp[Builtin.zeroCells,h,h2]
 .refine qb0 fun j=>?_;rw[Tn (s:=z.size) (fun x hx=>by rw[(List.mem_replicate.1 hx).2];simp) h j];unfold Builtin.zeroCells;simp only[qcg,qa1,Array.toList_range,List.getElem?_replicate];have hm:j % z.size<z.size:=Nat.mod_lt _ h
  by_cases hj:j<n*z.size
  .rw[qbz (by simpa using hj),if_pos (Nat.div_lt_of_lt_mul (by rw[Nat.mul_comm];exact hj))];simp[hm]
  .rw[qa9 (by simpa using hj),if_neg (fun h7=>hj (by have:=(Nat.div_lt_iff_lt_mul h).1 h7;exact this))];rfl
theorem Q3{t el:TypeId}{x:Operand}{b o k n c s:Nat}{t2:TypeId}{l zl:List Value}(hg:AS ⟨dst,.call ⟨.builtin .clear,#[x],#[t]⟩,ty,pos,af,g⟩ ops e=true)(hu:CL P t=some el)(hz:Cl P el=some zl)(hzl:zl.length=s)(h1:∀v∈zl,AZ v=true)(hx:ev e x=.slice (some ⟨b,o,none⟩) n c)(H:Ctx w0 S w L)(hk:L[k]?=some (b,Bl t2 l))(hi:o+n*s<=l.length)(h:∀w',Ctx w0 S w' (L.set k (b,Bl t2 (over l o (List.replicate n zl).flatten)))->AG P r ops Q rest (put e dst (.tuple #[])) w') :
  AG P r ops Q (⟨dst,.call ⟨.builtin .clear,#[x],#[t]⟩,ty,pos,af,g⟩::rest) e w:=by
 obtain⟨z,hz1,hz2⟩:=GY hz w;have hlen:(List.replicate n zl).flatten.length=n*s:=by simp[hzl]
 obtain⟨w',hr,he,hb⟩:=Fo (P:=P) (o:=o) (List.replicate n zl).flatten l w 0 (fun v hv=>by
  obtain⟨y,hy,hvy⟩:=List.mem_flatten.1 hv;obtain⟨-,rfl⟩:=List.mem_replicate.1 hy
  exact h1 v hvy) (H.get hk) (by omega)
 cases n with
 |zero =>
  have hw:Ctx w0 S w (L.set k (b,Bl t2 (over l o (List.replicate 0 zl).flatten))):=by
   have hset:L.set k (b,Bl t2 l)=L:=by
    obtain⟨h1,h2⟩:=qbc.1 hk;rw[<-h2];exact List.set_getElem_self h1
   show Ctx w0 S w (L.set k (b,Bl t2 l));rw[hset];exact H
  refine BK (w':=w) (v := .tuple #[]) hg U ?_ (h w hw);simp[execOp,resolve,invoke,builtin,hx,Builtin.clear_,Bf (CF hu)]
 |succ n =>
  refine BK (w':=w') (v := .tuple #[]) hg U ?_ (h w' (H.turn hk _ he (by simpa using hb)));simp[execOp,resolve,invoke,builtin,hx,Builtin.clear_,Bf (CF hu),hz1,OU,hz2,hr]
end
def Wg(P:Program)(gf:FuncId)(ca:Array Value)(Z:List Nat)(K:Mt->World->Prop)(xs:List (List Value))(S0:World->Prop):Prop :=
 ∀(l:Nat) (w:World),S0 w->∀(J:Nat->Mt->World->Prop) (E:World->Prop),(∃M,J 0 M w)->(∀i M w' w'',J i M w'->Ext Z w' w''->J i M w'')->(∀w' w'',E w'->Ext Z w' w''->E w'')->(∀i M w',J i M w'->(∀x,M x->x<w'.heap.size)/\K M w') ->
  (∀i v M w',xs[i]?=some v->J i M w'->YieldAt P l v w' fun u w''=>(u=.bool true/\∃M',J (i+1) M' w''/\Grw M M' w' w'')\/(u=.bool false/\E w'')) ->
  Ret P gf (#[.func (.yield l) #[] #[]]++ca) w fun _ w'=>(∃M,J xs.length M w')\/E w'
section
variable {P:Program}{Q:Exit->Env->World->Prop}{e:Env}{w:World}{n:Nat}
theorem Ts{f:Operand}{ps:Array Tmp}{assign body:Code}{gf:Nat}{ca:Array Value}{Z:List Nat}{K:Mt->World->Prop}{xs:List (List Value)}{S0:World->Prop}(hf:ev e f=.func (.func gf) #[] ca)(hc:Au P gf=true)(hI:Wg P gf ca Z K xs S0)(hfit:(I6 n assign && I6 n body)=true)(hps:(ps.toList.all fun p=>decide (p<n))=true)(hlen:∀v∈xs,v.length=ps.size)(J:Nat->Mt->World->Prop)(E:World->Prop)(hZ:w.heap.size∉Z/\w.heap.size+1∉Z)(hS0:∀w2,Ext [] w w2->S0 w2)(hj0:∀w2,Ext [] w w2->w.heap.size+1<w2.heap.size->∃M,J 0 M w2)(hjs:∀i M w' w'',J i M w'->Ext (w.heap.size::(w.heap.size+1)::Z) w' w''->J i M w'')(hes:∀w' w'',E w'->Ext (w.heap.size::(w.heap.size+1)::Z) w' w''->E w'')(hk:∀i M w',J i M w'->(∀x,M x->x<w'.heap.size/\x≠w.heap.size/\x≠w.heap.size+1)/\K (fun x=>x=w.heap.size+1\/M x) w')(hb:∀i v M w',xs[i]?=some v->J i M w'->w.heap.size+1<w'.heap.size->W P (some (w.heap.size+1)) n assign (Sa P w.heap.size (w.heap.size+1) n body (J (i+1)) E M w') (ON ⟨e.g,[]⟩ (ps.toList.zip v)) w')(hend:∀M w4,J xs.length M w4->w4.heap[w.heap.size]?=some (.deferred (some []))->Q .normal ⟨e.g,{ target := .collected w.heap.size,args:=#[] }::e.ds⟩ w4)(hret:∀w4,E w4->w4.heap[w.heap.size]?=some (.deferred (some []))->Q .ret ⟨e.g,{ target := .collected w.heap.size,args:=#[] }::e.ds⟩ w4):W P none n (.rangeFunc f ps assign body) Q e w:=by
 refine Kf hf hc ?_;intro fn tmps hts htm D l w2 hDe hle hx2 hD hrec;subst hDe hle;obtain⟨lo,hlo,hrec'⟩:∃lo,lo=({ state := .ready,pending:=none,fn,tmps,params:=ps,assign,body,defers:=w.heap.size }:Loop)/\w2.heap[w.heap.size+1]?=some (.loop lo):=⟨_,rfl,hrec⟩;have hsz2:=AY hrec';have hne:w.heap.size≠w.heap.size+1:=by omega
 refine Ret.mono (hI (w.heap.size+1) w2 (hS0 w2 hx2) (fun i Mh w'=>(∃M:Mt,(Mh=fun x=>x=w.heap.size+1\/M x)/\J i M w')/\w'.heap[w.heap.size+1]?=some (.loop lo)/\w'.heap[w.heap.size]?=some (.deferred (some []))) (fun w'=>E w'/\(∃lp,w'.heap[w.heap.size+1]?=some (.loop lp)/\lp.state=.done/\lp.pending=some .ret)/\w'.heap[w.heap.size]?=some (.deferred (some [])))
  (let ⟨M,hM⟩:=hj0 w2 hx2 hsz2;⟨_,⟨M,rfl,hM⟩,hrec',hD⟩) (fun i Mh w' w'' h hx=>⟨let ⟨M,hMh,hM⟩:=h.1;⟨M,hMh,hjs i M w' w'' hM (hx.mono fun x hx=>qah _ (qah _ hx))⟩,hx.to h.2.1 hZ.2,hx.to h.2.2 hZ.1⟩)
  (fun w' w'' h hx=>⟨hes w' w'' h.1 (hx.mono fun x hx=>qah _ (qah _ hx)),let ⟨lp,h1,h2⟩:=h.2.1;⟨lp,hx.to h1 hZ.2,h2⟩,hx.to h.2.2 hZ.1⟩) (fun i Mh w' h=>by
   obtain⟨⟨M,rfl,hM⟩,hl,_⟩:=h
   exact⟨fun x hx=>hx.elim (fun h=>by rw[h];exact AY hl) fun h=>((hk i M w' hM).1 x h).1,(hk i M w' hM).2⟩) ?_) ?_
 .rintro i v Mh w' hx ⟨⟨M,rfl,hJ⟩,hl,hDw⟩;have hsz:=AY hl;have hkM:=(hk i M w' hJ).1;have hbody:=hb i v M w' hx hJ hsz;have hlp:lo.params=ps:=by rw[hlo]
  have hla:lo.assign=assign:=by rw[hlo]
  have hlb:lo.body=body:=by rw[hlo]
  have hlt:lo.tmps=tmps:=by rw[hlo]
  have hls:lo.state=.ready:=by rw[hlo]
  have hpd:lo.pending=none:=by rw[hlo]
  refine OI hl (by rw[hlp];exact hlen v (qac hx)) ?_;rw[hlp,hla,hlb,hlt,OQ];have hs0:Sim n (⟨e.g,[]⟩:Env) ({ tmps:=tmps,defers:=[] }:Act):=⟨rfl,hts,htm⟩;refine L9 (ON ⟨e.g,[]⟩ (ps.toList.zip v)) (NS _ hs0 fun p hp=>?_) hfit ?_
  .have h1:=qau.1 hps p.1 (List.of_mem_zip hp).1;exact qba h1
  .refine ED assign ?_ hbody;intro x e1 w1 hq
   cases x with
   |normal =>
    obtain⟨hS,hW⟩:=hq;have hl1:=hS.to hl (by simp);have hD1:=hS.to hDw (by simp);have hxB:=Ext.setB w1 (w.heap.size+1) (.loop { lo with state := .busy });refine⟨lo,hl1,hls,ED body ?_ (hW _ hxB)⟩;have hlB:(w1.putObj (w.heap.size+1) (.loop { lo with state := .busy })).heap[w.heap.size+1]?=some (.loop { lo with state := .busy }):=EE hl1;have hDB:(w1.putObj (w.heap.size+1) (.loop { lo with state := .busy })).heap[w.heap.size]?=some (.deferred (some [])):=hxB.to hD1 (by simp);intro y e3 w3 hq3
    cases y with
    |normal =>
     obtain⟨M',hJ3,hM',S3,hS3,hin⟩:=hq3
     have hlS3:w.heap.size+1∉S3:=fun h=>by
      rcases hin _ h with h|h
      .exact(hkM _ h).2.2 U
      .omega
     have hDS3:w.heap.size∉S3:=fun h=>by
      rcases hin _ h with h|h
      .exact(hkM _ h).2.1 U
      .omega
     have hl3:=hS3.to hlB hlS3;have hD3:=hS3.to hDB hDS3;have hx4:=Ext.setB w3 (w.heap.size+1) (.loop { ({ lo with state := .busy }:Loop)with state := .ready,pending:=none });refine⟨_,hl3,.inl ⟨rfl,fun x=>x=w.heap.size+1\/M' x,⟨⟨M',rfl,hjs _ _ _ _ hJ3 (hx4.mono (by simp))⟩,?_,hx4.to hD3 (by simp)⟩,⟨⟨(w.heap.size+1)::S3,fun x hx=>?_,?_⟩,fun x hx=>?_⟩⟩⟩
     .rw[EE hl3]
      congr 2
      cases lo;simp_all
     .rcases qae.1 hx with h|h
      .exact .inl (.inl h)
      .exact(hin x h).imp .inr id
     .exact(((hS.mono (by simp)).trans (hxB.mono (by simp))).trans (hS3.mono fun x h=>qah _ h)).trans (hx4.mono (by simp))
     .rcases hx with h|h
      .exact .inl (.inl h)
      .exact(hM' x h).imp .inr id
    |ret =>
     obtain⟨hE3,S3,hS3,hDS3,hlS3⟩:=hq3;have hl3:=hS3.to hlB hlS3;have hD3:=hS3.to hDB hDS3;have hx4:=Ext.setB w3 (w.heap.size+1) (.loop { ({ lo with state := .busy }:Loop)with state := .done,pending:=some .ret });exact⟨_,hl3,.inr ⟨rfl,hes _ _ hE3 (hx4.mono (by simp)),⟨_,EE hl3,rfl,rfl⟩,hx4.to hD3 (by simp)⟩⟩
    |exit id=>exact hq3.elim
    |goto t=>exact hq3.elim
    |panic c=>exact hq3.elim
    |outgrown=>exact hq3.elim
   |exit id=>exact hq.elim
   |goto t=>exact hq.elim
   |ret=>exact hq.elim
   |panic c=>exact hq.elim
   |outgrown=>exact hq.elim
 .intro v w3 h
  rcases h with⟨Mh,⟨M,_,h1⟩,h2,h3⟩|⟨h1,h2,h3⟩
  .have hx4:=Ext.setB w3 (w.heap.size+1) (.loop { lo with state := .exhausted });exact⟨lo,h2,by rw[hlo];exact(fun h=>by cases h),Na (by rw[hlo]) (hend M _ (hjs _ _ _ _ h1 (hx4.mono (by simp))) (hx4.to h3 (by simp)))⟩
  .obtain⟨lp,h2,h4,h5⟩:=h2;have hx4:=Ext.setB w3 (w.heap.size+1) (.loop { lp with state := .exhausted });exact⟨lp,h2,by rw[h4];exact(fun h=>by cases h),OT h5 (hret _ (hes _ _ h1 (hx4.mono (by simp))) (hx4.to h3 (by simp)))⟩
end
section
variable {P:Program}{r:Option Nat}{ops:List Oper}{Q:Exit->Env->World->Prop}
def Qk(K:Env->World->Prop):Exit->Env->World->Prop
 | .normal,e,w=>K e w
 |_,_,_=>False
theorem XB{K:Env->World->Prop}{o:Oper}{rest:List Oper}{e:Env}{w:World}(h:AG P r ops (Qk K) [o] e w)(hk:∀e w,K e w->AG P r ops Q rest e w):AG P r ops Q (o::rest) e w:=by
 unfold AG at h |-
 by_cases hw:AS o ops e=true
 .rw[if_pos hw]at h |-;generalize(o.semAt r (ev e)).run P w=res at h |-
  match res,h with
  | .ok (.value v) w',h=>exact hk _ _ h
  | .ok .skip w',h=>exact hk _ _ h
  | .ok (.defer d) w',h=>exact hk _ _ h
  | .ok (.enter f args) w',h=>exact Ret.mono h fun v w'' hv=>hk _ _ hv
  | .ok (.round l f tmps assign body) w',h=>exact RoundIn.mono h fun x w'' ⟨v,hx,hv⟩=>⟨v,hx,hk _ _ hv⟩
  | .halt (.panic v) w',h=>exact h.elim
 .rw[if_neg hw]at h |-;exact hk _ _ h
theorem N0{md:Region.Mode}{arr:Array Oper}{l:Array Bool}{i:Nat}(h:i∈Region.ready md arr l):(l.setIfInBounds i true).toList.count false+1=l.toList.count false:=by
 have h1:=(mem_ready.1 h).1
 have hi:i<l.size:=by
  rcases qap i l.size with h|h
  .exact h
  .rw[qa2,qeg h]at h1;cases h1
 have hv:l.toList[i]'(by simpa using hi)=false:=by
  rw[qa2,qcl hi]at h1
  simpa using h1
 have hpos:0<l.toList.count false:=List.count_pos_iff.2 (by rw[<-hv];exact List.getElem_mem _);rw[Array.toList_setIfInBounds,List.count_set (by simpa using hi),hv,if_pos (by rfl),if_neg (by simp)];omega
theorem Zn{md:Region.Mode}{arr:Array Oper}{I:Array Bool->Env->World->Prop}(harr:arr.toList=ops)(hstep:∀l e w i o,I l e w->i∈Region.ready md arr l->arr[i]?=some o->AG P r ops (Qk (I (l.setIfInBounds i true))) [o] e w)(hend:∀l e w,I l e w->Region.ready md arr l=[]->Q .normal e w):∀(f t:Nat) (l:Array Bool) (e:Env) (w:World),l.toList.count false<=f->I l e w->AG P r ops Q (CC ops (Region.linearise.go md arr f t l [])) e w
 |0,t,l,e,w,hc,h=>by
  refine hend l e w h ?_
  cases hr:Region.ready md arr l with
  |nil=>rfl
  |cons i rs =>
   have:=N0 (md:=md) (arr:=arr) (l:=l) (i:=i) (by rw[hr];exact qai ..);omega
 |f+1,t,l,e,w,hc,h=>by
  simp only[Region.linearise.go]
  change AG P r ops Q (CC ops (match(Region.ready md arr l)[t % (Region.ready md arr l).length]? with
   |some i=>Region.linearise.go md arr f (t / (Region.ready md arr l).length) (l.setIfInBounds i true) [i]
   |none=>[].reverse)) e w
  cases hi:(Region.ready md arr l)[t % (Region.ready md arr l).length]? with
  |none =>
   refine hend l e w h ?_
   cases hr:Region.ready md arr l with
   |nil=>rfl
   |cons x xs =>
    rw[hr]at hi;have hlt:t % (x::xs).length<(x::xs).length:=Nat.mod_lt _ (by simp);rw[qbz hlt]at hi;cases hi
  |some i =>
   have hir:=qac hi;obtain⟨_,o,ho,_⟩:=mem_ready.1 hir;have hcount:=N0 hir;have hol:ops[i]?=some o:=by rw[<-harr,qd3];exact ho
   dsimp only;rw[linearise_go_acc,List.reverse_singleton,List.singleton_append];simp only[CC,hol];exact XB (hstep l e w i o h hir ho) fun e' w' h'=>Zn harr hstep hend f _ _ e' w' (by omega) h'
theorem Zo{id n:Nat}{arr:Array Oper}{I:Array Bool->Env->World->Prop}{e:Env}{w:World}(hm:P.follows .mixedOrders=true)(h0:I (Array.replicate arr.size false) e w.drew)(hstep:∀l e w i o,I l e w->i∈Region.ready .any arr l->arr[i]?=some o->AG P r arr.toList (Qk (I (l.setIfInBounds i true))) [o] e w)(hend:∀l e w,I l e w->Region.ready .any arr l=[]->Q .normal e w):W P r n (.region id arr true) Q e w := .inl fun t=>by
 rw[hm];simp only[Region.schedule,Bool.true_or,if_true];exact Zn U hstep hend _ t _ e _ (by simp) h0
def Kg(B:Nat->Nat)(i b:Nat):Nat->Nat:=fun j=>if j=i then b else B j
theorem Nb(B:Nat->Nat)(i b:Nat):Kg B i b i=b:=if_pos rfl
theorem GO{B:Nat->Nat}{i b j:Nat}(h:j≠i):Kg B i b j=B j:=if_neg h
def IQ(arr:Array Oper)(i:Nat):List Nat:=match arr[i]? with|some o=>(o.after.toList.filter (Region.binds .any)).map (·.on)|none=>[]
def UY(arr:Array Oper)(anc:Nat->List Nat):Nat->Bool
 |0=>true
 |n+1=>UY arr anc n && ((anc n).all (fun k=>(IQ arr n).contains k || (IQ arr n).any fun j=>(anc j).contains k) && (IQ arr n).all fun j=>Nat.blt j n)
theorem Jc{arr:Array Oper}{anc:Nat->List Nat}:∀{n:Nat},UY arr anc n=true->∀i,i<n->(∀k∈anc i,k∈IQ arr i\/∃j∈IQ arr i,k∈anc j)/\∀j∈IQ arr i,j<i
 |n+1,h,i,hi=>by
  simp only[UY,qaf]at h
  by_cases e:i=n
  .subst e;refine⟨fun k hk=>?_,fun j hj=>?_⟩
   .have:=qau.1 h.2.1 k hk;rw[qct,List.any_eq_true]at this;exact this.imp qdq.1 fun⟨j,h1,h2⟩=>⟨j,h1,qdq.1 h2⟩
   .have:=qau.1 h.2.2 j hj
    simpa[Nat.blt_eq]using this
  .exact Jc h.1 i (by omega)
theorem GP{arr:Array Oper}{anc:Nat->List Nat}{n:Nat}(h:UY arr anc n=true):∀i,i<n->∀j∈anc i,j<i:=fun i=>by
 induction i using Nat.strongRecOn with
 |_ i ih =>
  intro hi j hj;obtain⟨h1,h2⟩:=Jc h i hi
  rcases h1 j hj with h|⟨k,hk,h⟩
  .exact h2 j h
  .have:=h2 k hk;have:=ih k this (by omega) j h;omega
theorem Fs{arr:Array Oper}{l:Array Bool}{i:Nat}(h:i∈Region.ready .any arr l):∀j∈IQ arr i,l.getD j false=true:=fun j hj=>by
 obtain⟨_,o,ho,hall⟩:=mem_ready.1 h;unfold IQ at hj;rw[ho]at hj;obtain⟨d,hd,rfl⟩:=qag.1 hj;obtain⟨hd1,hd2⟩:=qbd.1 hd;exact hall d (qdp.1 hd1) hd2
theorem OV{arr:Array Oper}{l:Array Bool}{i:Nat}(hu:l.getD i true=false)(h:∀j∈IQ arr i,l.getD j false=true)(hi:i<arr.size:=by omega):i∈Region.ready .any arr l:=by
 refine mem_ready.2 ⟨hu,arr[i],qcl hi,fun d hd hb=>h d.on ?_⟩;unfold IQ;rw[qcl hi];exact qag.2 ⟨d,qbd.2 ⟨qdp.2 hd,hb⟩,rfl⟩
structure AI(n:Nat)(anc:Nat->List Nat)(d:Nat->Tmp)(val:Nat->(Nat->Nat)->Value)(obj:Nat->Option ((Nat->Nat)->Obj))(e0:Env)(w0:World)(l:Nat->Prop)(e:Env)(w:World)(B:Nat->Nat):Prop where
 ds:e.ds=e0.ds
 old:∀s,(∀i,i<n->s≠d i)->e.g s=e0.g s
 slot:∀i,i<n->l i->e.g (d i)=val i B
 ext:Ext [] w0 w
 blk:∀i ob,i<n->l i->obj i=some ob->w.heap[B i]?=some (ob B)/\w0.heap.size<=B i
 ne:∀i j,i<n->j<n->i≠j->l i->l j->obj i≠none->obj j≠none->B i≠B j
 cl:∀i,i<n->l i->∀j∈anc i,l j
def AQ(d:Nat->Tmp)(val:Nat->(Nat->Nat)->Value)(obj:Nat->Option ((Nat->Nat)->Obj))(i:Nat)(e:Env)(w:World)(B:Nat->Nat)(e':Env)(w':World):Prop :=
 ∃b,(∀ob,obj i=some ob->w.heap.size<=b/\w'.heap[b]?=some (ob (Kg B i b)))/\Ext [] w w'/\e'=put e (some (d i)) (val i (Kg B i b))
theorem Kh(e:Env)(s:Tmp)(v:Value):(put e (some s) v).g s=v:=by simp[put]
theorem J6{e:Env}{s t:Tmp}{v:Value}(h:t≠s):(put e (some s) v).g t=e.g t:=by
 cases hb:Nat.beq t s with
 |true=>exact absurd (qc6 hb) h
 |false=>simp[put,hb]
theorem AI.step{n:Nat}{anc:Nat->List Nat}{d:Nat->Tmp}{val:Nat->(Nat->Nat)->Value}{obj:Nat->Option ((Nat->Nat)->Obj)}{e0:Env}{w0:World}{l:Nat->Prop}{e:Env}{w:World}{B:Nat->Nat}(A:AI n anc d val obj e0 w0 l e w B)(hd:∀i j,i<n->j<n->d i=d j->i=j)(hst:∀i k b B,i<n->k≠i->k∉anc i->val i (Kg B k b)=val i B/\∀ob,obj i=some ob->ob (Kg B k b)=ob B){i:Nat}(hi:i<n)(hu:¬l i)(hanc:∀j∈anc i,l j){e':Env}{w':World}(h:AQ d val obj i e w B e' w'):∃B',AI n anc d val obj e0 w0 (fun j=>j=i\/l j) e' w' B':=by
 obtain⟨b,hob,hx,rfl⟩:=h;have hsz:=A.ext.size;have hni:∀j,l j->j≠i:=fun j hj h=>hu (h ▸ hj);have hna:∀j,j<n->l j->i∉anc j:=fun j hj hl h=>hu (A.cl j hj hl i h);refine⟨Kg B i b,A.ds,fun s hs=>?_,fun j hj hl=>?_,A.ext.trans hx,fun j ob hj hl ho=>?_,fun j k hj hk hjk hlj hlk oj ok=>?_,fun j hj hl k hk=>?_⟩
 .rw[J6 (hs i hi)];exact A.old s hs
 .rcases hl with rfl|hl
  .exact Kh _ _ _
  .rw[J6 fun h=>hni j hl (hd _ _ hj hi h),A.slot j hj hl,(hst j i b B hj (Ne.symm (hni j hl)) (hna j hj hl)).1]
 .rcases hl with rfl|hl
  .obtain⟨h1,h2⟩:=hob ob ho;rw[Nb];exact⟨h2,by omega⟩
  .obtain⟨h1,h2⟩:=A.blk j ob hj hl ho;rw[GO (hni j hl),(hst j i b B hj (Ne.symm (hni j hl)) (hna j hj hl)).2 ob ho];exact⟨hx.to h1 (by simp),h2⟩
 .have hlt:∀m,m<n->l m->obj m≠none->∀ob,obj i=some ob->B m<b:=fun m hm hl om ob ho=>by
   cases hom:obj m with
   |none=>exact absurd hom om
   |some o2 =>
    have:=AY (A.blk m o2 hm hl hom).1;have:=(hob ob ho).1;omega
  rcases hlj with rfl|hlj
  .rcases hlk with rfl|hlk
   .exact absurd U hjk
   .rw[Nb,GO (hni k hlk)]
    cases hoj:obj j with
    |none=>exact absurd hoj oj
    |some o2=>have:=hlt k hk hlk ok o2 hoj;omega
  .rcases hlk with rfl|hlk
   .rw[Nb,GO (hni j hlj)]
    cases hok:obj k with
    |none=>exact absurd hok ok
    |some o2=>have:=hlt j hj hlj oj o2 hok;omega
   .rw[GO (hni j hlj),GO (hni k hlk)];exact A.ne j k hj hk hjk hlj hlk oj ok
 .rcases hl with rfl|hl
  .exact .inr (hanc k hk)
  .exact .inr (A.cl j hj hl k hk)
theorem Zp{id m n:Nat}{arr:Array Oper}{anc:Nat->List Nat}(d:Nat->Tmp)(val:Nat->(Nat->Nat)->Value)(obj:Nat->Option ((Nat->Nat)->Obj)){e:Env}{w:World}(hm:P.follows .mixedOrders=true)(hsz:arr.size=n+1)(hlast:∀k,k<n->k∈anc n)(hd:∀i j,i<n->j<n->d i=d j->i=j)(hst:∀i k b B,i<n->k≠i->k∉anc i->val i (Kg B k b)=val i B/\∀ob,obj i=some ob->ob (Kg B k b)=ob B)(hop:∀i o e' w' B,i<n->arr[i]?=some o->(∀s,(∀j,j<n->s≠d j)->e'.g s=e.g s)->(∀j∈anc i,e'.g (d j)=val j B)->Ext [] w.drew w'->(∀j∈anc i,∀ob,obj j=some ob->w'.heap[B j]?=some (ob B))->AG P r arr.toList (Qk (AQ d val obj i e' w' B)) [o] e' w')(hfin:∀o e' w' B,arr[n]?=some o->AI n anc d val obj e w.drew (fun _=>True) e' w' B->AG P r arr.toList (Qk fun e'' w''=>Q .normal e'' w'') [o] e' w')(hanc:UY arr anc (n+1)=true:=by kernel_rfl):W P r m (.region id arr true) Q e w:=by
 have hspec:=Jc hanc
 have hall:∀{l:Array Bool},(∀i,i<n->l.getD i false=true->∀j∈anc i,l.getD j false=true)->∀i,i<n+1->i∈Region.ready .any arr l->∀k∈anc i,l.getD k false=true:=fun{l} hcl i hi hr k hk=>by
  rcases(hspec i hi).1 k hk with h|⟨j,h1,h2⟩
  .exact Fs hr k h
  .exact hcl j (by have:=(hspec i hi).2 j h1;omega) (Fs hr j h1) k h2
 have hset:∀{l:Array Bool} {i:Nat},l.size=n+1->i<n+1->∀j,((l.setIfInBounds i true).getD j false=true)=(j=i\/l.getD j false=true):=fun{l i} hl hi j=>by
  apply propext
  by_cases e:j=i
  .subst e;rw[qa2,qej (by omega)];simp
  .rw[qa2,qek (Ne.symm e),<-qa2];simp[e]
 refine Zo (I:=fun l e' w'=>l.size=n+1/\((l.getD n false=false/\∃B,AI n anc d val obj e w.drew (fun i=>l.getD i false=true) e' w' B)\/((∀i,i<n+1->l.getD i false=true)/\Q .normal e' w'))) hm ?_ ?_ ?_
 .refine⟨by simp[hsz],.inl ⟨by simp[hsz],fun _=>0,rfl,fun _ _=>rfl,fun i _ h=>?_,.refl _ _,fun i _ _ h=>?_,fun i j _ _ _ h=>?_,fun i _ h=>?_⟩⟩ <;>
   (exfalso;rw[getD_replicate_false]at h;cases h)
 .rintro l e' w' i o ⟨hls,h⟩ hr ho;have hi:i<n+1:=by have:=(qc8.1 ho).1;omega
  have hun:¬l.getD i false=true:=fun h=>by
   have h1:=(mem_ready.1 hr).1;rw[qa2,qcl (by omega)]at h h1;simp at h h1;rw[h]at h1;cases h1
  rcases h with⟨hn,B,A⟩|⟨hn,_⟩
  .have ha:=hall A.cl i hi hr
   by_cases e1:i=n
   .subst e1;refine CP ?_ _ _ _ (hfin o e' w' B ho ⟨A.ds,A.old,fun j hj _=>A.slot j hj (ha j (hlast j hj)),A.ext,fun j ob hj _=>A.blk j ob hj (ha j (hlast j hj)),fun j k hj hk hjk _ _=>A.ne j k hj hk hjk (ha j (hlast j hj)) (ha k (hlast k hk)),fun _ _ _ _ _=>trivial⟩);intro x e2 w2 hq
    cases x with
    |normal=>exact⟨by simp[hls],.inr ⟨fun j hj=>by
      rw[hset hls hi]
      by_cases hji:j=i
      .exact .inl hji
      .exact .inr (ha j (hlast j (by omega))),hq⟩⟩
    |exit id=>exact hq.elim
    |goto l=>exact hq.elim
    |ret=>exact hq.elim
    |panic c=>exact hq.elim
    |outgrown=>exact hq.elim
   .have hin:i<n:=by omega
    refine CP ?_ _ _ _ (hop i o e' w' B hin ho A.old (fun j hj=>?_) A.ext fun j hj ob hob=>?_)
    .intro x e2 w2 hq
     cases x with
     |normal =>
      obtain⟨B',A'⟩:=A.step hd hst hin hun ha hq;refine⟨by simp[hls],.inl ⟨?_,B',?_⟩⟩
      .cases hc:(l.setIfInBounds i true).getD n false with
       |false=>rfl
       |true =>
        rw[hset hls hi]at hc
        rcases hc with h|h
        .exact absurd h.symm e1
        .rw[hn]at h;cases h
      .have hf:(fun j=>(l.setIfInBounds i true).getD j false=true)=fun j=>j=i\/l.getD j false=true:=funext fun j=>hset hls hi j;rw[hf];exact A'
     |exit id=>exact hq.elim
     |goto l=>exact hq.elim
     |ret=>exact hq.elim
     |panic c=>exact hq.elim
     |outgrown=>exact hq.elim
    .exact A.slot j (qcm (by
      rcases(hspec i hi).1 j hj with h|⟨k,h1,h2⟩
      .exact(hspec i hi).2 j h
      .have h3:=(hspec i hi).2 k h1
       exact qaw (show j<k from GP hanc k (by omega) j h2) (by omega)) hin) (ha j hj)
    .exact(A.blk j ob (qcm (GP hanc i hi j hj) hin) (ha j hj) hob).1
  .exact absurd (hn i hi) hun
 .rintro l e' w' ⟨hls,h⟩ hr
  rcases h with⟨hn,B,A⟩|⟨_,h⟩
  .exfalso
   have hal:∀i,i<n+1->l.getD i false=true:=fun i=>by
    induction i using Nat.strongRecOn with
    |_ i ih =>
     intro hi
     cases hc:l.getD i false with
     |true=>rfl
     |false =>
      have hu:l.getD i true=false:=by
       rw[qa2,qcl (by omega)]at hc |-
       simpa using hc
      have:=OV (arr:=arr) (l:=l) (i:=i) hu fun j hj=>ih j ((hspec i hi).2 j hj) (by have:=(hspec i hi).2 j hj;omega);rw[hr]at this;cases this
   rw[hal n (by omega)]at hn;cases hn
  .exact h
end
section
variable {P:Program}{r:Option Nat}{ops:List Oper}{Q:Exit->Env->World->Prop}
def Ki{β:Type}(B:Nat->β)(i:Nat)(b:β):Nat->β:=fun j=>if j=i then b else B j
theorem Jd{β:Type}(B:Nat->β)(i:Nat)(b:β):Ki B i b i=b:=if_pos rfl
theorem J7{β:Type}{B:Nat->β}{i:Nat}{b:β}{j:Nat}(h:j≠i):Ki B i b j=B j:=if_neg h
structure AIB{β:Type}(bk:β->Nat)(good:Nat->β->Prop)(n:Nat)(anc:Nat->List Nat)(d:Nat->Tmp)(val:Nat->(Nat->β)->Value)(obj:Nat->Option ((Nat->β)->Obj))(e0:Env)(w0:World)(l:Nat->Prop)(e:Env)(w:World)(B:Nat->β):Prop where
 ds:e.ds=e0.ds
 old:∀s,(∀i,i<n->s≠d i)->e.g s=e0.g s
 slot:∀i,i<n->l i->e.g (d i)=val i B
 ext:Ext [] w0 w
 blk:∀i ob,i<n->l i->obj i=some ob->w.heap[bk (B i)]?=some (ob B)/\w0.heap.size<=bk (B i)
 ne:∀i j,i<n->j<n->i≠j->l i->l j->obj i≠none->obj j≠none->bk (B i)≠bk (B j)
 good:∀i,i<n->l i->good i (B i)
 cl:∀i,i<n->l i->∀j∈anc i,l j
def AQB{β:Type}(bk:β->Nat)(good:Nat->β->Prop)(d:Nat->Tmp)(val:Nat->(Nat->β)->Value)(obj:Nat->Option ((Nat->β)->Obj))(i:Nat)(e:Env)(w:World)(B:Nat->β)(e':Env)(w':World):Prop :=
 ∃b,good i b/\(∀ob,obj i=some ob->w.heap.size<=bk b/\w'.heap[bk b]?=some (ob (Ki B i b)))/\Ext [] w w'/\e'=put e (some (d i)) (val i (Ki B i b))
theorem AIB.step{β:Type}{bk:β->Nat}{good:Nat->β->Prop}{n:Nat}{anc:Nat->List Nat}{d:Nat->Tmp}{val:Nat->(Nat->β)->Value}{obj:Nat->Option ((Nat->β)->Obj)}{e0:Env}{w0:World}{l:Nat->Prop}{e:Env}{w:World}{B:Nat->β}(A:AIB bk good n anc d val obj e0 w0 l e w B)(hd:∀i j,i<n->j<n->d i=d j->i=j)(hst:∀i k b B,i<n->k≠i->k∉anc i->val i (Ki B k b)=val i B/\∀ob,obj i=some ob->ob (Ki B k b)=ob B){i:Nat}(hi:i<n)(hu:¬l i)(hanc:∀j∈anc i,l j){e':Env}{w':World}(h:AQB bk good d val obj i e w B e' w'):∃B',AIB bk good n anc d val obj e0 w0 (fun j=>j=i\/l j) e' w' B':=by
 obtain⟨b,hgd,hob,hx,rfl⟩:=h;have hsz:=A.ext.size;have hni:∀j,l j->j≠i:=fun j hj h=>hu (h ▸ hj);have hna:∀j,j<n->l j->i∉anc j:=fun j hj hl h=>hu (A.cl j hj hl i h);refine⟨Ki B i b,A.ds,fun s hs=>?_,fun j hj hl=>?_,A.ext.trans hx,fun j ob hj hl ho=>?_,fun j k hj hk hjk hlj hlk oj ok=>?_,fun j hj hl=>?_,fun j hj hl k hk=>?_⟩
 .rw[J6 (hs i hi)];exact A.old s hs
 .rcases hl with rfl|hl
  .exact Kh _ _ _
  .rw[J6 fun h=>hni j hl (hd _ _ hj hi h),A.slot j hj hl,(hst j i b B hj (Ne.symm (hni j hl)) (hna j hj hl)).1]
 .rcases hl with rfl|hl
  .obtain⟨h1,h2⟩:=hob ob ho;rw[Jd];exact⟨h2,by omega⟩
  .obtain⟨h1,h2⟩:=A.blk j ob hj hl ho;rw[J7 (hni j hl),(hst j i b B hj (Ne.symm (hni j hl)) (hna j hj hl)).2 ob ho];exact⟨hx.to h1 (by simp),h2⟩
 .have hlt:∀m,m<n->l m->obj m≠none->∀ob,obj i=some ob->bk (B m)<bk b:=fun m hm hl om ob ho=>by
   cases hom:obj m with
   |none=>exact absurd hom om
   |some o2 =>
    have:=AY (A.blk m o2 hm hl hom).1;have:=(hob ob ho).1;omega
  rcases hlj with rfl|hlj
  .rcases hlk with rfl|hlk
   .exact absurd U hjk
   .rw[Jd,J7 (hni k hlk)]
    cases hoj:obj j with
    |none=>exact absurd hoj oj
    |some o2=>have:=hlt k hk hlk ok o2 hoj;omega
  .rcases hlk with rfl|hlk
   .rw[Jd,J7 (hni j hlj)]
    cases hok:obj k with
    |none=>exact absurd hok ok
    |some o2=>have:=hlt j hj hlj oj o2 hok;omega
   .rw[J7 (hni j hlj),J7 (hni k hlk)];exact A.ne j k hj hk hjk hlj hlk oj ok
 .rcases hl with rfl|hl
  .rw[Jd];exact hgd
  .rw[J7 (hni j hl)];exact A.good j hj hl
 .rcases hl with rfl|hl
  .exact .inr (hanc k hk)
  .exact .inr (A.cl j hj hl k hk)
theorem XC{β:Type}[Inhabited β](bk:β->Nat)(good:Nat->β->Prop){id m n:Nat}{arr:Array Oper}{anc:Nat->List Nat}(d:Nat->Tmp)(val:Nat->(Nat->β)->Value)(obj:Nat->Option ((Nat->β)->Obj)){e:Env}{w:World}(hm:P.follows .mixedOrders=true)(hsz:arr.size=n+1)(hlast:∀k,k<n->k∈anc n)(hd:∀i j,i<n->j<n->d i=d j->i=j)(hst:∀i k b B,i<n->k≠i->k∉anc i->val i (Ki B k b)=val i B/\∀ob,obj i=some ob->ob (Ki B k b)=ob B)(hop:∀i o e' w' B,i<n->arr[i]?=some o->(∀s,(∀j,j<n->s≠d j)->e'.g s=e.g s)->(∀j∈anc i,e'.g (d j)=val j B)->Ext [] w.drew w'->(∀j∈anc i,∀ob,obj j=some ob->w'.heap[bk (B j)]?=some (ob B))->(∀j∈anc i,good j (B j))->AG P r arr.toList (Qk (AQB bk good d val obj i e' w' B)) [o] e' w')(hfin:∀o e' w' B,arr[n]?=some o->AIB bk good n anc d val obj e w.drew (fun _=>True) e' w' B->AG P r arr.toList (Qk fun e'' w''=>Q .normal e'' w'') [o] e' w')(hanc:UY arr anc (n+1)=true:=by kernel_rfl):W P r m (.region id arr true) Q e w:=by
 have hspec:=Jc hanc
 have hall:∀{l:Array Bool},(∀i,i<n->l.getD i false=true->∀j∈anc i,l.getD j false=true)->∀i,i<n+1->i∈Region.ready .any arr l->∀k∈anc i,l.getD k false=true:=fun{l} hcl i hi hr k hk=>by
  rcases(hspec i hi).1 k hk with h|⟨j,h1,h2⟩
  .exact Fs hr k h
  .exact hcl j (by have:=(hspec i hi).2 j h1;omega) (Fs hr j h1) k h2
 have hset:∀{l:Array Bool} {i:Nat},l.size=n+1->i<n+1->∀j,((l.setIfInBounds i true).getD j false=true)=(j=i\/l.getD j false=true):=fun{l i} hl hi j=>by
  apply propext
  by_cases e:j=i
  .subst e;rw[qa2,qej (by omega)];simp
  .rw[qa2,qek (Ne.symm e),<-qa2];simp[e]
 refine Zo (I:=fun l e' w'=>l.size=n+1/\((l.getD n false=false/\∃B,AIB bk good n anc d val obj e w.drew (fun i=>l.getD i false=true) e' w' B)\/((∀i,i<n+1->l.getD i false=true)/\Q .normal e' w'))) hm ?_ ?_ ?_
 .refine⟨by simp[hsz],.inl ⟨by simp[hsz],fun _=>default,rfl,fun _ _=>rfl,fun i _ h=>?_,.refl _ _,fun i _ _ h=>?_,fun i j _ _ _ h=>?_,fun i _ h=>?_,fun i _ h=>?_⟩⟩ <;>
   (exfalso;rw[getD_replicate_false]at h;cases h)
 .rintro l e' w' i o ⟨hls,h⟩ hr ho;have hi:i<n+1:=by have:=(qc8.1 ho).1;omega
  have hun:¬l.getD i false=true:=fun h=>by
   have h1:=(mem_ready.1 hr).1;rw[qa2,qcl (by omega)]at h h1;simp at h h1;rw[h]at h1;cases h1
  rcases h with⟨hn,B,A⟩|⟨hn,_⟩
  .have ha:=hall A.cl i hi hr
   by_cases e1:i=n
   .subst e1;refine CP ?_ _ _ _ (hfin o e' w' B ho ⟨A.ds,A.old,fun j hj _=>A.slot j hj (ha j (hlast j hj)),A.ext,fun j ob hj _=>A.blk j ob hj (ha j (hlast j hj)),fun j k hj hk hjk _ _=>A.ne j k hj hk hjk (ha j (hlast j hj)) (ha k (hlast k hk)),fun j hj _=>A.good j hj (ha j (hlast j hj)),fun _ _ _ _ _=>trivial⟩);intro x e2 w2 hq
    cases x with
    |normal=>exact⟨by simp[hls],.inr ⟨fun j hj=>by
      rw[hset hls hi]
      by_cases hji:j=i
      .exact .inl hji
      .exact .inr (ha j (hlast j (by omega))),hq⟩⟩
    |exit id=>exact hq.elim
    |goto l=>exact hq.elim
    |ret=>exact hq.elim
    |panic c=>exact hq.elim
    |outgrown=>exact hq.elim
   .have hin:i<n:=by omega
    refine CP ?_ _ _ _ (hop i o e' w' B hin ho A.old (fun j hj=>?_) A.ext (fun j hj ob hob=>?_) fun j hj=>A.good j (qcm (GP hanc i hi j hj) hin) (ha j hj))
    .intro x e2 w2 hq
     cases x with
     |normal =>
      obtain⟨B',A'⟩:=A.step hd hst hin hun ha hq;refine⟨by simp[hls],.inl ⟨?_,B',?_⟩⟩
      .cases hc:(l.setIfInBounds i true).getD n false with
       |false=>rfl
       |true =>
        rw[hset hls hi]at hc
        rcases hc with h|h
        .exact absurd h.symm e1
        .rw[hn]at h;cases h
      .have hf:(fun j=>(l.setIfInBounds i true).getD j false=true)=fun j=>j=i\/l.getD j false=true:=funext fun j=>hset hls hi j;rw[hf];exact A'
     |exit id=>exact hq.elim
     |goto l=>exact hq.elim
     |ret=>exact hq.elim
     |panic c=>exact hq.elim
     |outgrown=>exact hq.elim
    .exact A.slot j (qcm (by
      rcases(hspec i hi).1 j hj with h|⟨k,h1,h2⟩
      .exact(hspec i hi).2 j h
      .have h3:=(hspec i hi).2 k h1
       exact qaw (show j<k from GP hanc k (by omega) j h2) (by omega)) hin) (ha j hj)
    .exact(A.blk j ob (qcm (GP hanc i hi j hj) hin) (ha j hj) hob).1
  .exact absurd (hn i hi) hun
 .rintro l e' w' ⟨hls,h⟩ hr
  rcases h with⟨hn,B,A⟩|⟨_,h⟩
  .exfalso
   have hal:∀i,i<n+1->l.getD i false=true:=fun i=>by
    induction i using Nat.strongRecOn with
    |_ i ih =>
     intro hi
     cases hc:l.getD i false with
     |true=>rfl
     |false =>
      have hu:l.getD i true=false:=by
       rw[qa2,qcl (by omega)]at hc |-
       simpa using hc
      have:=OV (arr:=arr) (l:=l) (i:=i) hu fun j hj=>ih j ((hspec i hi).2 j hj) (by have:=(hspec i hi).2 j hj;omega);rw[hr]at this;cases this
   rw[hal n (by omega)]at hn;cases hn
  .exact h
end
section
variable {P:Program}{r:Option Nat}{ops rest:List Oper}{Q:Exit->Env->World->Prop}{e:Env}{w w0:World}{S:List Nat}{L:List (Nat × Obj)}{dst:Option Tmp}{ty:TypeId}{pos:String}{af:Array Edge}{g:Option (Nat × Bool)}
theorem Tt{t t2 el el2 ty:TypeId}{s by':Nat}{zl:List Value}(hu:CL P t=some el)(hu2:CL P t2=some el2)(hs:Ci P el=some s)(hby:DR P el=some by')(hz:Cl P el=some zl)(hzl:zl.length=s)(hpos:0<by'){a a2:Option Addr}{m c2:Nat}{new:List Value}(hm:0<m)(hn:new.length=m*s)(hc:∀j v,new[j]?=some v->∃p,a2=some p/\w.cell? (p.add j)=some v)(hbound:(2*m+768)*by'<=281474976710656) :
  ∃cap full',(Builtin.append_ #[t,t2] ty #[.slice a 0 0,.slice a2 m c2]).run P w=.ok (.slice (some ⟨w.heap.size,0,none⟩) m cap) (w.drew.alloc (Bl el full'))/\OS (some ⟨w.heap.size,0,none⟩) m cap s full' new:=by
 have hfit':0<0+m:=by omega
 have hncap:=Lz (0+m) 0 hfit';have hbig:Builtin.nextslicecap (0+m) 0*by'<=(2*(0+m)+768)*by':=qch _ hncap
 rw[qa4]at hbig
 have hnm:m<=281474976710656:=by
  have h1:(2*m+768)*1<=(2*m+768)*by':=qd9 _ hpos
  omega
 generalize hq:(Question.appendCap m 0 el).cut (w.tape w.drawn (Question.appendCap m 0 el))=cap;have hcap:m<=cap:=by rw[<-hq];unfold Question.cut;exact Nat.le_add_right _ _
 obtain⟨zv,hzr,hzc⟩:=GY (P:=P) hz w.drew;have hzs:zv.cells.size=s:=by rw[<-hzl,<-hzc];simp
 let full':=new++(Builtin.zeroCells zv.cells (cap - m)).toList
 refine⟨cap,full',?_,⟨(fun q hq=>by injection hq with hq;subst hq;rfl),(fun h=>by cases h),?_,hcap,?_⟩⟩
 .have hforced:(Question.appendCap m 0 el).forced=false:=rfl
  have hby2:∃i,P.info? el=some i/\i.bytes=by':=by
   unfold DR at hby
   cases hi:P.info? el with
   |none=>rw[hi]at hby;cases hby
   |some i=>rw[hi]at hby;simp at hby;exact⟨i,rfl,hby⟩
  obtain⟨i,hi,hib⟩:=hby2;have hti:∀w,(typeInfo el).run P w=.ok i w:=fun w=>by simp[typeInfo,program,Sem.run,hi]
  have hold':(Builtin.firstCells s 0 (.slice a 0 0)).run P w.drew=.ok #[] w.drew:=Dx (l:=[]) (by simp) (fun j v hv=>by simp at hv);have hfc':(Builtin.firstCells s m (.slice a2 m c2)).run P w.drew=.ok new.toArray w.drew:=Dx hn hc;have hroom:∀k w,(askRoom k).run P w=.ok () w:=fun k w=>by unfold askRoom;split <;> rfl
  have hby0:¬by'=0:=by omega
  have hm0:¬m=0:=by omega
  have hb3:¬281474976710656<Builtin.nextslicecap m 0*by':=by omega
  have hnn:(Builtin.append_ #[t,t2] ty #[.slice a 0 0,.slice a2 m c2]).run P w=.ok (.slice (some ⟨w.drew.heap.size,0,none⟩) m cap) (w.drew.alloc (.cells (new.toArray++Builtin.zeroCells zv.cells (cap - m)) el)):=by
   simp[Builtin.append_,Bf (CF hu),Bf (CF hu2),CH hs,Builtin.lenOf,hfc',hold',hm0,hti,hib,hb3,hby0,hforced,hq,hroom,hzr,newRow,newObj,Sem.run]
  rw[hnn]
  have harr:new.toArray++Builtin.zeroCells zv.cells (cap - m)=full'.toArray:=by
   apply qb3;simp[full']
  rw[harr];rfl
 .show(new++(Builtin.zeroCells zv.cells (cap - m)).toList).length=cap*s;rw[qat,hn,qd4,G8,hzs,<-qb8]
  congr 1
  omega
 .show(new++(Builtin.zeroCells zv.cells (cap - m)).toList).take (m*s)=new;rw[qci hn]
theorem UZ{t t2 el el2:TypeId}{x y:Operand}{s by':Nat}{zl:List Value}(hg:AS ⟨dst,.call ⟨.builtin .append,#[x,y],#[t,t2]⟩,ty,pos,af,g⟩ ops e=true)(hu:CL P t=some el)(hu2:CL P t2=some el2)(hs:Ci P el=some s)(hby:DR P el=some by')(hz:Cl P el=some zl)(hzl:zl.length=s){a a2:Option Addr}{m c2:Nat}(new:List Value)(hx:ev e x=.slice a 0 0)(hy:ev e y=.slice a2 m c2)(hn:new.length=m*s)(hc:∀j v,new[j]?=some v->∃p,a2=some p/\w.cell? (p.add j)=some v)(h:∀b c' full' w',b=w.heap.size->Ext [] w w'->w'.heap[b]?=some (Bl el full')->OS (some ⟨b,0,none⟩) m c' s full' new->AG P r ops Q rest (put e dst (.slice (some ⟨b,0,none⟩) m c')) w')(hpos:0<by':=by decide)(hm:0<m:=by omega)(hbound:(2*m+768)*by'<=281474976710656:=by omega):
  AG P r ops Q (⟨dst,.call ⟨.builtin .append,#[x,y],#[t,t2]⟩,ty,pos,af,g⟩::rest) e w:=by
 obtain⟨c',full',hr,O'⟩:=Tt (ty:=ty) hu hu2 hs hby hz hzl hpos hm hn hc hbound (c2:=c2) (a:=a);refine BK (w':=w.drew.alloc (Bl el full')) (v := .slice (some ⟨w.heap.size,0,none⟩) m c') hg U (by simp[execOp,resolve,invoke,builtin,hx,hy,hr]) (h _ c' full' _ U ((Ext.drew [] w).trans (Ext.alloc [] w.drew _)) ?_ O');exact World.alloc_heap_new w.drew _
theorem Tu{t t2 el el2:TypeId}{x y:Operand}{s:Nat}(hg:AS ⟨dst,.call ⟨.builtin .append,#[x,y],#[t,t2]⟩,ty,pos,af,g⟩ ops e=true)(hu:CL P t=some el)(hu2:CL P t2=some el2)(hs:Ci P el=some s){b:Nat}{a2:Option Addr}{c2:Nat}(hx:ev e x=.slice (some ⟨b,0,none⟩) 0 0)(hy:ev e y=.slice a2 0 c2)(h:AG P r ops Q rest (put e dst (.slice (some ⟨b,0,none⟩) 0 0)) w) :
  AG P r ops Q (⟨dst,.call ⟨.builtin .append,#[x,y],#[t,t2]⟩,ty,pos,af,g⟩::rest) e w:=by
 have hfc:(Builtin.firstCells s 0 (.slice a2 0 c2)).run P w=.ok #[] w:=Dx (l:=[]) (by simp) (fun j v hv=>by simp at hv);exact BK hg U (by simp[execOp,resolve,invoke,builtin,hx,hy,Builtin.append_,Bf (CF hu),Bf (CF hu2),CH hs,Builtin.lenOf,hfc,storeCells]) h
end
def Wh(P:Program)(gf:FuncId)(ca:Array Value)(Z:List Nat)(K:Mt->World->Prop){σ:Type}(z0:σ)(St:σ->List Value->σ->Prop)(En:σ->Prop)(S0:World->Prop):Prop :=
 ∀(l:Nat) (w:World),S0 w->∀(J:σ->Mt->World->Prop) (E:World->Prop),(∃M,J z0 M w)->(∀i M w' w'' T,J i M w'->(∀x∈T,¬M x/\w.heap.size<=x)->Ext T w' w''->J i M w'')->(∀w' w'',E w'->Ext Z w' w''->E w'')->(∀i M w',J i M w'->(∀x,M x->x<w'.heap.size)/\K M w') ->
  (∀i v i' M w',St i v i'->J i M w'->YieldAt P l v w' fun u w''=>(u=.bool true/\∃M',J i' M' w''/\Grw M M' w' w'')\/(u=.bool false/\E w'')) ->
  Ret P gf (#[.func (.yield l) #[] #[]]++ca) w fun _ w'=>(∃i M,En i/\J i M w')\/E w'
section
variable {P:Program}{Q:Exit->Env->World->Prop}{e:Env}{w:World}{n:Nat}
theorem Zq{f:Operand}{ps:Array Tmp}{assign body:Code}{gf:Nat}{ca:Array Value}{Z:List Nat}{K:Mt->World->Prop}{σ:Type}{z0:σ}{St:σ->List Value->σ->Prop}{En:σ->Prop}{S0:World->Prop}(hf:ev e f=.func (.func gf) #[] ca)(hc:Au P gf=true)(hI:Wh P gf ca Z K z0 St En S0)(hfit:(I6 n assign && I6 n body)=true)(hps:(ps.toList.all fun p=>decide (p<n))=true)(hlen:∀i v i',St i v i'->v.length=ps.size)(J:σ->Mt->World->Prop)(E:World->Prop)(hZ:w.heap.size∉Z/\w.heap.size+1∉Z)(hS0:∀w2,Ext [] w w2->S0 w2)(hj0:∀w2,Ext [] w w2->w.heap.size+1<w2.heap.size->∃M,J z0 M w2)(hjs:∀i M w' w'' T,J i M w'->(∀x∈T,¬M x/\w.heap.size<=x)->Ext T w' w''->J i M w'')(hes:∀w' w'',E w'->Ext (w.heap.size::(w.heap.size+1)::Z) w' w''->E w'')(hk:∀i M w',J i M w'->(∀x,M x->x<w'.heap.size/\x≠w.heap.size/\x≠w.heap.size+1)/\K (fun x=>x=w.heap.size+1\/M x) w')(hb:∀i v i' M w',St i v i'->J i M w'->w.heap.size+1<w'.heap.size->W P (some (w.heap.size+1)) n assign (Sa P w.heap.size (w.heap.size+1) n body (J i') E M w') (ON ⟨e.g,[]⟩ (ps.toList.zip v)) w')(hend:∀i M w4,En i->J i M w4->w4.heap[w.heap.size]?=some (.deferred (some []))->Q .normal ⟨e.g,{ target := .collected w.heap.size,args:=#[] }::e.ds⟩ w4)(hret:∀w4,E w4->w4.heap[w.heap.size]?=some (.deferred (some []))->Q .ret ⟨e.g,{ target := .collected w.heap.size,args:=#[] }::e.ds⟩ w4):W P none n (.rangeFunc f ps assign body) Q e w:=by
 refine Kf hf hc ?_;intro fn tmps hts htm D l w2 hDe hle hx2 hD hrec;subst hDe hle;obtain⟨lo,hlo,hrec'⟩:∃lo,lo=({ state := .ready,pending:=none,fn,tmps,params:=ps,assign,body,defers:=w.heap.size }:Loop)/\w2.heap[w.heap.size+1]?=some (.loop lo):=⟨_,rfl,hrec⟩;have hsz2:=AY hrec';have hne:w.heap.size≠w.heap.size+1:=by omega
 refine Ret.mono (hI (w.heap.size+1) w2 (hS0 w2 hx2) (fun i Mh w'=>(∃M:Mt,(Mh=fun x=>x=w.heap.size+1\/M x)/\J i M w')/\w'.heap[w.heap.size+1]?=some (.loop lo)/\w'.heap[w.heap.size]?=some (.deferred (some []))) (fun w'=>E w'/\(∃lp,w'.heap[w.heap.size+1]?=some (.loop lp)/\lp.state=.done/\lp.pending=some .ret)/\w'.heap[w.heap.size]?=some (.deferred (some [])))
  (let ⟨M,hM⟩:=hj0 w2 hx2 hsz2;⟨_,⟨M,rfl,hM⟩,hrec',hD⟩) (fun i Mh w' w'' T h hT hx=>by
   obtain⟨⟨M,rfl,hM⟩,h2,h3⟩:=h
   exact⟨⟨M,rfl,hjs i M w' w'' T hM (fun x hx=>⟨fun h=>(hT x hx).1 (.inr h),by have:=(hT x hx).2;omega⟩) hx⟩,hx.to h2 (fun h=>(hT _ h).1 (.inl rfl)),hx.to h3 (fun h=>by have:=(hT _ h).2;omega)⟩)
  (fun w' w'' h hx=>⟨hes w' w'' h.1 (hx.mono fun x hx=>qah _ (qah _ hx)),let ⟨lp,h1,h2⟩:=h.2.1;⟨lp,hx.to h1 hZ.2,h2⟩,hx.to h.2.2 hZ.1⟩) (fun i Mh w' h=>by
   obtain⟨⟨M,rfl,hM⟩,hl,_⟩:=h
   exact⟨fun x hx=>hx.elim (fun h=>by rw[h];exact AY hl) fun h=>((hk i M w' hM).1 x h).1,(hk i M w' hM).2⟩) ?_) ?_
 .rintro i v i' Mh w' hx ⟨⟨M,rfl,hJ⟩,hl,hDw⟩;have hsz:=AY hl;have hkM:=(hk i M w' hJ).1;have hbody:=hb i v i' M w' hx hJ hsz;have hlp:lo.params=ps:=by rw[hlo]
  have hla:lo.assign=assign:=by rw[hlo]
  have hlb:lo.body=body:=by rw[hlo]
  have hlt:lo.tmps=tmps:=by rw[hlo]
  have hls:lo.state=.ready:=by rw[hlo]
  have hpd:lo.pending=none:=by rw[hlo]
  refine OI hl (by rw[hlp];exact hlen i v i' hx) ?_;rw[hlp,hla,hlb,hlt,OQ];have hs0:Sim n (⟨e.g,[]⟩:Env) ({ tmps:=tmps,defers:=[] }:Act):=⟨rfl,hts,htm⟩;refine L9 (ON ⟨e.g,[]⟩ (ps.toList.zip v)) (NS _ hs0 fun p hp=>?_) hfit ?_
  .have h1:=qau.1 hps p.1 (List.of_mem_zip hp).1;exact qba h1
  .refine ED assign ?_ hbody;intro x e1 w1 hq
   cases x with
   |normal =>
    obtain⟨hS,hW⟩:=hq;have hl1:=hS.to hl (by simp);have hD1:=hS.to hDw (by simp);have hxB:=Ext.setB w1 (w.heap.size+1) (.loop { lo with state := .busy });refine⟨lo,hl1,hls,ED body ?_ (hW _ hxB)⟩;have hlB:(w1.putObj (w.heap.size+1) (.loop { lo with state := .busy })).heap[w.heap.size+1]?=some (.loop { lo with state := .busy }):=EE hl1;have hDB:(w1.putObj (w.heap.size+1) (.loop { lo with state := .busy })).heap[w.heap.size]?=some (.deferred (some [])):=hxB.to hD1 (by simp);intro y e3 w3 hq3
    cases y with
    |normal =>
     obtain⟨M',hJ3,hM',S3,hS3,hin⟩:=hq3
     have hlS3:w.heap.size+1∉S3:=fun h=>by
      rcases hin _ h with h|h
      .exact(hkM _ h).2.2 U
      .omega
     have hDS3:w.heap.size∉S3:=fun h=>by
      rcases hin _ h with h|h
      .exact(hkM _ h).2.1 U
      .omega
     have hl3:=hS3.to hlB hlS3;have hD3:=hS3.to hDB hDS3;have hx4:=Ext.setB w3 (w.heap.size+1) (.loop { ({ lo with state := .busy }:Loop)with state := .ready,pending:=none });refine⟨_,hl3,.inl ⟨rfl,fun x=>x=w.heap.size+1\/M' x,⟨⟨M',rfl,hjs _ _ _ _ [w.heap.size+1] hJ3 (fun x hx=>by rw[qab]at hx;subst hx;exact⟨fun h=>(hM' _ h).elim (fun h=>(hkM _ h).2.2 rfl) (fun h=>by omega),by omega⟩) hx4⟩,?_,hx4.to hD3 (by simp)⟩,⟨⟨(w.heap.size+1)::S3,fun x hx=>?_,?_⟩,fun x hx=>?_⟩⟩⟩
     .rw[EE hl3]
      congr 2
      cases lo;simp_all
     .rcases qae.1 hx with h|h
      .exact .inl (.inl h)
      .exact(hin x h).imp .inr id
     .exact(((hS.mono (by simp)).trans (hxB.mono (by simp))).trans (hS3.mono fun x h=>qah _ h)).trans (hx4.mono (by simp))
     .rcases hx with h|h
      .exact .inl (.inl h)
      .exact(hM' x h).imp .inr id
    |ret =>
     obtain⟨hE3,S3,hS3,hDS3,hlS3⟩:=hq3;have hl3:=hS3.to hlB hlS3;have hD3:=hS3.to hDB hDS3;have hx4:=Ext.setB w3 (w.heap.size+1) (.loop { ({ lo with state := .busy }:Loop)with state := .done,pending:=some .ret });exact⟨_,hl3,.inr ⟨rfl,hes _ _ hE3 (hx4.mono (by simp)),⟨_,EE hl3,rfl,rfl⟩,hx4.to hD3 (by simp)⟩⟩
    |exit id=>exact hq3.elim
    |goto t=>exact hq3.elim
    |panic c=>exact hq3.elim
    |outgrown=>exact hq3.elim
   |exit id=>exact hq.elim
   |goto t=>exact hq.elim
   |ret=>exact hq.elim
   |panic c=>exact hq.elim
   |outgrown=>exact hq.elim
 .intro v w3 h
  rcases h with⟨i,Mh,hE,⟨M,_,h1⟩,h2,h3⟩|⟨h1,h2,h3⟩
  .have hx4:=Ext.setB w3 (w.heap.size+1) (.loop { lo with state := .exhausted });exact⟨lo,h2,by rw[hlo];exact(fun h=>by cases h),Na (by rw[hlo]) (hend i M _ hE (hjs _ _ _ _ [w.heap.size+1] h1 (fun x hx=>by rw[qab]at hx;subst hx;exact⟨fun h=>((hk i M w3 h1).1 _ h).2.2 rfl,by omega⟩) hx4) (hx4.to h3 (by simp)))⟩
  .obtain⟨lp,h2,h4,h5⟩:=h2;have hx4:=Ext.setB w3 (w.heap.size+1) (.loop { lp with state := .exhausted });exact⟨lp,h2,by rw[h4];exact(fun h=>by cases h),OT h5 (hret _ (hes _ _ h1 (hx4.mono (by simp))) (hx4.to h3 (by simp)))⟩
end
theorem Zr{α:Type}{l:List α}{i:Nat}{x:α}(h:l[i]?=some x):l.set i x=l:=by
 apply qb0;intro j;rw[qd6]
 split
 .rename_i e;subst e
  rw[if_pos (qbc.1 h).1,h]
 .rfl
def kvE(e:MapEntry):Value × Value:=(e.key,e.val)
def kvP(kk:IntKind)(p:Int × Value):Value × Value:=(.int kk p.1,p.2)
def kvD:Value × Value->Int × Value
 |(.int _ n,v)=>(n,v)
 |(_,v)=>(0,v)
theorem Wi(kk:IntKind)(m:List (Int × Value)):(m.map (kvP kk)).map kvD=m:=by
 rw[qbx];exact List.map_id'' (fun _=>rfl) m
def VisO(kk:IntKind)(b:Nat)(m vis:List (Int × Value))(o it:Obj):Prop :=
 ∃(es:Array MapEntry) (clock:Nat) (ves rest:List MapEntry),o=.map es clock/\es.toList.map kvE=m.map (kvP kk)/\(∀e∈es.toList,e.born<clock)/\(es.toList.map (·.born)).Nodup /\
  it=.mapIter (some b) clock (ves.map (·.born)).toArray clock/\(ves++rest).Perm es.toList/\ves.map kvE=vis.map (kvP kk)
theorem VisO.perm{kk:IntKind}{b:Nat}{m vis:List (Int × Value)}{o it:Obj}(h:VisO kk b m vis o it):∃res,(vis++res).Perm m:=by
 obtain⟨es,clock,ves,rest,_,hes,_,_,_,hp,hv⟩:=h;have h1:=(hp.map kvE).map kvD;rw[qay,qay,hv,Wi,hes,Wi]at h1;exact⟨_,h1⟩
theorem VisO.le{kk:IntKind}{b:Nat}{m vis:List (Int × Value)}{o it:Obj}(h:VisO kk b m vis o it):vis.length<=m.length:=by
 obtain⟨res,h⟩:=h.perm;have:=h.length_eq;rw[qat]at this;omega
theorem VisO.mem{kk:IntKind}{b:Nat}{m vis:List (Int × Value)}{o it:Obj}(h:VisO kk b m vis o it):∀p∈vis,p∈m:=fun p hp=>by
 obtain⟨res,h⟩:=h.perm;exact h.mem_iff.1 (qao _ hp)
section
variable {P:Program}{r:Option Nat}{ops rest:List Oper}{Q:Exit->Env->World->Prop}{e:Env}{w w0:World}{S:List Nat}{L:List (Nat × Obj)}{dst dst2:Option Tmp}{ty ty2:TypeId}{pos pos2:String}{af af2:Array Edge}{g g2:Option (Nat × Bool)}
theorem Tv{t k el:TypeId}{kk:IntKind}{x:Operand}{b:Nat}{o:Obj}{m:List (Int × Value)}(hg:AS ⟨dst,.range t x,ty,pos,af,g⟩ ops e=true)(ht:Mf P t=some (k,el))(hx:ev e x=.map (some b))(H:Ctx w0 S w L)(hm:w.heap[b]?=some o)(hM:CY kk m o)(h:∀bi it w',VisO kk b m [] o it->Ctx w0 S w' ((bi,it)::L)->AG P r ops Q rest (put e dst (.pointer (some ⟨bi,0,none⟩))) w') :
  AG P r ops Q (⟨dst,.range t x,ty,pos,af,g⟩::rest) e w:=by
 obtain⟨es,clock,rfl,hes,hb,hn⟩:=hM;have hgo:(getObj b).run P w=.ok (.map es clock) w:=by simp[getObj,Sem.run,hm]
 refine BK (w':=w.alloc (.mapIter (some b) clock #[] clock)) (v := .pointer (some ⟨w.heap.size,0,none⟩)) hg U ?_ (h _ _ _ ⟨es,clock,[],es.toList,rfl,hes,hb,hn,rfl,List.Perm.refl _,rfl⟩ (H.alloc _));simp[execOp,Instr.range,Bf (Ib ht),hx,hgo,newObj,Sem.run]
theorem Zs{es:List MapEntry}{ves rest:List MapEntry}{x:MapEntry}(hp:(ves++rest).Perm es)(hx:x∈es)(hn:x∉ves):∃res,((ves++[x])++res).Perm es:=by
 have h1:x∈rest:=(qbi.1 (hp.mem_iff.2 hx)).resolve_left hn;obtain⟨l1,l2,rfl⟩:=List.append_of_mem h1;refine⟨l1++l2,List.Perm.trans ?_ hp⟩;rw[qaz];exact List.Perm.append_left ves (show(x::(l1++l2)).Perm (l1++x::l2)from qbq.symm)
theorem XD{kk:IntKind}{b bi i:Nat}{o it:Obj}{m vis:List (Int × Value)}(ty:TypeId)(H:Ctx w0 S w L)(hm:w.heap[b]?=some o)(hi:L[i]?=some (bi,it))(hV:VisO kk b m vis o it) :
  ∃vs more it' w',(Instr.next (.pointer (some ⟨bi,0,none⟩)) false ty).run P w=.ok (.tuple vs) w'/\vs[0]?=some (.bool more)/\((more=false/\vis.Perm m/\it'=it)\/(more=true/\∃p,VisO kk b m (vis++[p]) o it'))/\Ctx w0 S w' (L.set i (bi,it')):=by
 obtain⟨es,clock,ves,rest,rfl,hes,hb,hn,rfl,hp,hv⟩:=hV
 rcases run_next_at (P:=P) w ty bi b clock clock (ves.map (·.born)).toArray es clock (H.get hi) (hm) hb (qan _)with⟨h0,hr⟩|⟨x,hx,w1,hw1,hr⟩
 .have hall:=all_seen es _ h0
  have hrest:rest=[]:=by
   cases rest with
   |nil=>rfl
   |cons x rest =>
    exfalso;have hx:=hall x (hp.mem_iff.1 (qal _ (qai ..)));have h2:=(hp.map (·.born)).nodup_iff.2 hn;rw[qay,qdu]at h2
    have hx2:x.born∈ves.map (·.born):=by
     rw[List.contains_toArray]at hx;exact qdq.1 hx
    exact h2.2.2 _ hx2 _ (qa5 (qai ..)) U
  subst hrest;rw[qa3]at hp;have h1:=(hp.map kvE).map kvD;rw[hv,Wi,hes,Wi]at h1;refine⟨_,false,_,w,hr,rfl,.inl ⟨rfl,h1,rfl⟩,?_⟩;rw[Zr hi];exact H
 .obtain⟨hxe,hxs⟩:=mem_left hx
  have hxv:x∉ves:=fun h=>by
   rw[List.contains_toArray]at hxs;have:(ves.map (·.born)).contains x.born=true:=qdq.2 (qa5 h);rw[this]at hxs;cases hxs
  obtain⟨res,hp2⟩:=Zs hp hxe hxv
  have hk:∃p∈m,kvP kk p=kvE x:=by
   have h1:kvE x∈es.toList.map kvE:=qa5 hxe;rw[hes]at h1;exact qag.1 h1
  obtain⟨p,-,hpx⟩:=hk
  have H1:Ctx w0 S w1 L:=by rcases hw1 with rfl|rfl;exact H;exact H.drew
  refine⟨_,true,_,_,hr,rfl,.inr ⟨rfl,p,es,clock,ves++[x],res,rfl,hes,hb,hn,rfl,hp2,by rw[qay,qay,hv];simp[hpx]⟩,?_⟩;have h3:((ves.map (·.born)).toArray.push x.born)=((ves++[x]).map (·.born)).toArray:=by simp
  rw[<-h3];exact H1.setB hi _
theorem Wj{kk:IntKind}{d:Tmp}{x:Operand}{b bi i:Nat}{o it:Obj}{m vis:List (Int × Value)}(hg:AS ⟨some d,.next x false,ty,pos,af,g⟩ ops e=true)(hg2:∀v,AS ⟨dst2,.extract (.tmp d) 0,ty2,pos2,af2,g2⟩ ops (put e (some d) v)=true)(hx:ev e x=.pointer (some ⟨bi,0,none⟩))(H:Ctx w0 S w L)(hm:w.heap[b]?=some o)(hi:L[i]?=some (bi,it))(hV:VisO kk b m vis o it)(h:∀vs more it' w',((more=false/\vis.Perm m/\it'=it)\/(more=true/\∃p,VisO kk b m (vis++[p]) o it'))->Ctx w0 S w' (L.set i (bi,it'))->AG P r ops Q rest (put (put e (some d) (.tuple vs)) dst2 (.bool more)) w') :
  AG P r ops Q (⟨some d,.next x false,ty,pos,af,g⟩::⟨dst2,.extract (.tmp d) 0,ty2,pos2,af2,g2⟩::rest) e w:=by
 obtain⟨vs,more,it',w',hr,hv,hc,H'⟩:=XD (P:=P) ty H hm hi hV;refine BK (w':=w') (v := .tuple vs) hg U (by simp[execOp,hx,hr]) ?_;exact AJ (hg:=hg2 _) (by simp[ev,put]) hv (h vs more it' w' hc H')
theorem Tw{kk:IntKind}{x:Operand}{b bi i:Nat}{o it:Obj}{m vis:List (Int × Value)}{p:Int × Value}(hg:AS ⟨dst,.entry x,ty,pos,af,g⟩ ops e=true)(hx:ev e x=.pointer (some ⟨bi,0,none⟩))(H:Ctx w0 S w L)(hm:w.heap[b]?=some o)(hi:L[i]?=some (bi,it))(hV:VisO kk b m (vis++[p]) o it)(h:AG P r ops Q rest (put e dst (.tuple #[.int kk p.1,p.2])) w):AG P r ops Q (⟨dst,.entry x,ty,pos,af,g⟩::rest) e w:=by
 obtain⟨es,clock,ves,rest,rfl,hes,hb,hn,rfl,hp,hv⟩:=hV;rw[qay]at hv;obtain⟨v1,v2,rfl,h1,h2⟩:=List.map_eq_append_iff.1 hv;obtain⟨y,v3,rfl,hy,h3⟩:=List.map_eq_cons_iff.1 h2;cases List.map_eq_nil_iff.1 h3;have he:y∈es.toList:=hp.mem_iff.1 (qao _ (qal _ (qai ..)));have hpush:(((v1++[y]).map (·.born)).toArray)=(v1.map (·.born)).toArray.push y.born:=by simp
 have hi2:=H.get hi;rw[hpush]at hi2;have hr:=run_entry_at (P:=P) w bi b clock _ es clock y hi2 (hm) he hn;have hy2:y.key=.int kk p.1/\y.val=p.2:=by unfold kvE kvP at hy;exact⟨(Prod.mk.inj hy).1,(Prod.mk.inj hy).2⟩
 rw[hy2.1,hy2.2]at hr;exact BK hg U (by simp[execOp,hx,hr]) h
theorem XE{kk:IntKind}{x:Operand}{b bi i:Nat}{o it:Obj}{m vis:List (Int × Value)}{n:Int}{v:Value}(hg:AS ⟨dst,.entry x,ty,pos,af,g⟩ ops e=true)(hx:ev e x=.pointer (some ⟨bi,0,none⟩))(H:Ctx w0 S w L)(hm:w.heap[b]?=some o)(hi:L[i]?=some (bi,it))(hV:VisO kk b m (vis++[(n,v)]) o it)(h:AG P r ops Q rest (put e dst (.tuple #[.int kk n,v])) w):AG P r ops Q (⟨dst,.entry x,ty,pos,af,g⟩::rest) e w:=Tw hg hx H hm hi hV h
theorem Q4{α:Type}{k:Int}:∀{m:List (Int × α)},Ey m k=none->L8 m k=m
 | [],_=>rfl
 |p::m,h=>by
  have hp:¬p.1=k:=fun hp=>by simp[Ey,hp]at h
  have hb2:(p.1 == k)=false:=by simpa using hp
  have hm2:Ey m k=none:=by rw[<-h];simp[Ey,hb2]
  simp[L8,hp,Q4 hm2]
theorem Va{t t2 k el ty:TypeId}{kk:IntKind}{b j:Nat}{o:Obj}{m:List (Int × Value)}{n:Int}(ht:Mf P t=some (k,el))(hk:P.underlying k=some (.int kk))(H:Ctx w0 S w L)(hl:L[j]?=some (b,o))(hM:CY kk m o) :
  ∃o' w',(Builtin.delete_ #[t,t2] ty #[.map (some b),.int kk n]).run P w=.ok (.tuple #[]) w'/\CY kk (L8 m n) o'/\Ctx w0 S w' (L.set j (b,o')):=by
 obtain⟨es,clock,rfl,hes,hbn,hnd⟩:=hM;have hb:=H.get hl;have hf:=GC kk n es.toList m 0 hes;have hgo:(getObj b).run P w=.ok (.map es clock) w:=by simp[getObj,Sem.run,hb]
 have hso:∀o',(setObj b o').run P w=.ok () (w.putObj b o'):=fun o'=>by simp[setObj,Sem.run,hb,World.putObj]
 cases hm:Ey m n with
 |none =>
  refine⟨.map es clock,w.putObj b _,?_,⟨_,_,rfl,by rw[Q4 hm];exact hes,hbn,hnd⟩,H.setB hl _⟩;simp[Builtin.delete_,Bf (Ib ht),hgo,DS hk,Instr.findKey,Bf hk,hf.1 hm,hso]
 |some v0 =>
  obtain⟨i,hi,hil,h3⟩:=hf.2 v0 hm;obtain⟨_,_,a3⟩:=h3 v0
  have htl:(es.eraseIdxIfInBounds i).toList=es.toList.eraseIdx i:=by
   rw[Array.eraseIdxIfInBounds,dif_pos (by simpa using hil)];simp
  refine⟨.map (es.eraseIdxIfInBounds i) clock,w.putObj b _,?_,⟨_,_,rfl,by rw[htl];exact a3,?_,?_⟩,H.setB hl _⟩
  .simp[Builtin.delete_,Bf (Ib ht),hgo,DS hk,Instr.findKey,Bf hk,hi,hso]
  .intro x hx;rw[htl]at hx;exact hbn x (qeh hx)
  .rw[htl];exact List.Sublist.nodup (List.Sublist.map _ (List.eraseIdx_sublist ..)) hnd
theorem Nc{t t2 k el:TypeId}{kk:IntKind}{x y:Operand}{b j:Nat}{o:Obj}{m:List (Int × Value)}{n:Int}(hg:AS ⟨dst,.call ⟨.builtin .delete,#[x,y],#[t,t2]⟩,ty,pos,af,g⟩ ops e=true)(ht:Mf P t=some (k,el))(hk:P.underlying k=some (.int kk))(hx:ev e x=.map (some b))(hy:ev e y=.int kk n)(H:Ctx w0 S w L)(hl:L[j]?=some (b,o))(hM:CY kk m o)(h:∀o' w',CY kk (L8 m n) o'->Ctx w0 S w' (L.set j (b,o'))->AG P r ops Q rest (put e dst (.tuple #[])) w'):AG P r ops Q (⟨dst,.call ⟨.builtin .delete,#[x,y],#[t,t2]⟩,ty,pos,af,g⟩::rest) e w:=by
 obtain⟨o',w',hr,hM',H'⟩:=Va (ty:=ty) (t2:=t2) (n:=n) ht hk H hl hM;exact BK (w':=w') (v := .tuple #[]) hg U (by simp[execOp,resolve,invoke,builtin,hx,hy,hr]) (h o' w' hM' H')
def EntO(kk:IntKind)(n st:Int)(m:List (Int × Value))(o:Obj):Prop :=
 ∃(es:Array MapEntry) (clock:Nat) (z:Value),o=.map (es.push { key := .int kk n,val:=z,born:=clock }) (clock+1)/\st=(clock:Nat)/\es.toList.map (fun e=>(e.key,e.val))=m.map (fun p=>(Value.int kk p.1,p.2))/\(∀e∈es.toList,e.born<clock)/\(es.toList.map (·.born)).Nodup
theorem Tx{t k el:TypeId}{kk:IntKind}{x y:Operand}{b j:Nat}{o:Obj}{m:List (Int × Value)}{n:Int}{z:Value}(hg:AS ⟨dst,.mapEntry t x y,ty,pos,af,g⟩ ops e=true)(ht:Mf P t=some (k,el))(hk:P.underlying k=some (.int kk))(hz:(P.info? el).bind (·.zero)=some z)(hx:ev e x=.map (some b))(hy:ev e y=.int kk n)(H:Ctx w0 S w L)(hl:L[j]?=some (b,o))(hM:CY kk m o)(hm:Ey m n=none)(h:∀st o' w',EntO kk n st m o'->Ctx w0 S w' (L.set j (b,o'))->AG P r ops Q rest (put e dst (.tuple #[z,.int .i64 st])) w'):AG P r ops Q (⟨dst,.mapEntry t x y,ty,pos,af,g⟩::rest) e w:=by
 obtain⟨es,clock,rfl,hes,hbn,hnd⟩:=hM;have hb:=H.get hl;have hf:=GC kk n es.toList m 0 hes;have hgo:(getObj b).run P w=.ok (.map es clock) w:=by simp[getObj,Sem.run,hb]
 have hso:∀o',(setObj b o').run P w=.ok () (w.putObj b o'):=fun o'=>by simp[setObj,Sem.run,hb,World.putObj]
 have hzr:(zeroValue el).run P w=.ok z w:=by
  cases hi:P.info? el with
  |none=>rw[hi]at hz;cases hz
  |some i=>rw[hi]at hz;simp at hz;simp[zeroValue,typeInfo,program,Sem.run,hi,hz]
 refine BK (w':=w.putObj b _) (v := .tuple #[z,.int .i64 (clock:Nat)]) hg U ?_ (h _ _ _ ⟨es,clock,z,rfl,rfl,hes,hbn,hnd⟩ (H.setB hl _));simp[execOp,Instr.mapEntry,Bf (Ib ht),hx,hy,hgo,DS hk,Instr.findKey,Bf hk,hf.1 hm,hzr,hso,goInt]
theorem Qj{t:TypeId}{kk:IntKind}{x y z:Operand}{b j:Nat}{o:Obj}{m:List (Int × Value)}{n st:Int}(v:Value)(hg:AS ⟨dst,.entryStore t x y z,ty,pos,af,g⟩ ops e=true)(hx:ev e x=.map (some b))(hy:ev e y=.int .i64 st)(hz:ev e z=v)(H:Ctx w0 S w L)(hl:L[j]?=some (b,o))(hE:EntO kk n st m o)(h:∀o' w',CY kk (m++[(n,v)]) o'->Ctx w0 S w' (L.set j (b,o'))->AG P r ops Q rest (put e dst undef) w'):AG P r ops Q (⟨dst,.entryStore t x y z,ty,pos,af,g⟩::rest) e w:=by
 obtain⟨es,clock,z0,rfl,rfl,hes,hbn,hnd⟩:=hE;have hb:=H.get hl;have hgo:(getObj b).run P w=.ok (.map (es.push { key := .int kk n,val:=z0,born:=clock }) (clock+1)) w:=by simp[getObj,Sem.run,hb]
 have hso:∀o',(setObj b o').run P w=.ok () (w.putObj b o'):=fun o'=>by simp[setObj,Sem.run,hb,World.putObj]
 have hno:es.findIdx? (fun e=>((e.born:Nat):Int) == ((clock:Nat):Int))=none:=by
  rw[Array.findIdx?_eq_none_iff];intro x hx;have:=hbn x (qdp.2 hx);simp only[beq_eq_false_iff_ne,ne_eq];omega
 have hfi:(es.push { key := .int kk n,val:=z0,born:=clock }).findIdx? (fun e=>((e.born:Nat):Int) == ((clock:Nat):Int))=some es.size:=by
  rw[Array.findIdx?_push,hno];simp
 refine NQ (w':=w.putObj b (.map (es.push { key := .int kk n,val:=v,born:=clock }) (clock+1))) hg U ?_ (h _ _ ⟨_,_,rfl,?_,?_,?_⟩ (H.setB hl _))
 .have hmod:(es.push { key := .int kk n,val:=z0,born:=clock }).modify es.size (fun e=>{ e with val:=v })=es.push { key := .int kk n,val:=v,born:=clock }:=by
   apply qb3;rw[qea,qdc,qdc];have:es.size=es.toList.length:=by simp
   rw[this];generalize es.toList=l
   induction l with
   |nil=>rfl
   |cons x l ih=>simp only[qa8,qcx,List.modify_succ_cons,ih]
  simp[execOp,Instr.entryStore,hx,hy,hz,hgo,asInt,asIntOf,hfi,hso,hmod]
 .simp[hes]
 .intro x hx;simp only[qdc,qbi,qab]at hx
  rcases hx with hx|rfl
  .have:=hbn x hx;omega
  .simp
 .simp only[qdc,qay,qav,qca];rw[qdu];refine⟨hnd,by simp,?_⟩;intro x hx y hy;simp only[qab]at hy;subst hy;rw[qag]at hx;obtain⟨e',he',rfl⟩:=hx;have:=hbn e' he';omega
end
theorem Ty:∀(vs l:List Value) (i:Nat) (v:Value),v∈over l i vs->v∈l\/v∈vs
 | [],_,_,_,h => .inl h
 |x::vs,l,i,v,h=>by
  rcases Ty vs (l.set i x) (i+1) v h with h|h
  .rcases qel h with h|h
   .exact .inl h
   .exact .inr (by rw[h];exact qai ..)
  .exact .inr (qah _ h)
theorem Ql(z:Array Value)(n:Nat)(v:Value)(h:v∈(Builtin.zeroCells z n).toList):v∈z.toList:=by
 unfold Builtin.zeroCells at h;rw[qcg,qag]at h;obtain⟨i,hi,rfl⟩:=h
 have h0:0<z.size:=by
  rw[Array.toList_range,qa6]at hi
  rcases qcw z.size with h|h
  .rw[h,Nat.mul_zero]at hi;omega
  .exact h
 have hm:=Nat.mod_lt i h0;rw[getElem!_pos z (i % z.size) hm];exact Array.getElem_mem_toList hm
section
variable {P:Program}{w w0:World}{S:List Nat}{L:List (Nat × Obj)}
theorem Tz{t t2 el el2 ty:TypeId}{s by':Nat}{zl:List Value}(hu:CL P t=some el)(hu2:CL P t2=some el2)(hs:Ci P el=some s)(hby:DR P el=some by')(hz:Cl P el=some zl)(hzl:zl.length=s)(hpos:0<by'){a a2:Option Addr}{n c m c2:Nat}{full l new:List Value}(H:Ctx w0 S w (L++ent a el full))(O:OS a n c s full l)(hn:new.length=m*s)(h1:∀v∈new,AZ v=true)(hc:∀j v,new[j]?=some v->∃p,a2=some p/\w.cell? (p.add j)=some v)(hbound:(2*(n+m)+768)*by'<=281474976710656) :
  ∃a' c' full' w',(Builtin.append_ #[t,t2] ty #[.slice a n c,.slice a2 m c2]).run P w=.ok (.slice a' (n+m) c') w'/\Ctx w0 S w' (L++ent a' el full')/\OS a' (n+m) c' s full' (l++new)/\∀v∈full',v∈full\/v∈new\/v∈zl:=by
 have hfc:=Dx (P:=P) (w:=w) (s:=s) (m:=m) (a:=a2) (c:=m) (k:=c2) hn hc
 by_cases hfit:n+m<=c
 ·-- in place
  cases a with
  |none =>
   have h0:=O.none' rfl;have hm:m=0:=by omega
   have hn0:n=0:=by omega
   subst hm hn0 h0;have hnew:new=[]:=qbt (by omega);have hl:l=[]:=qbt (by have:=O.llen;omega);have hfull:full=[]:=qbt (by have:=O.len;omega);subst hnew hl hfull;refine⟨none,0,[],w,?_,H,OS.nil,by simp⟩;simp[Builtin.append_,Bf (CF hu),Bf (CF hu2),CH hs,Builtin.lenOf,hfc]
  |some p =>
   have hp:=O.zero p rfl;obtain⟨b,o,sp⟩:=p;simp only[Addr.mk.injEq,true_and]at hp;obtain⟨rfl,rfl⟩:=hp;have hk:(L++ent (some ⟨b,0,none⟩) el full)[L.length]?=some (b,Bl el full):=by simp[ent]
   have hb:=H.get hk;have hmul:(n+m)*s<=c*s:=qch _ hfit;have hadd:(n+m)*s=n*s+m*s:=qb8 _ _ _;obtain⟨w',hr,he,hb'⟩:=Fo (P:=P) (o:=n*s) new full w 0 h1 hb (by rw[O.len];omega);have hwr:=H.turn hk _ he hb';rw[show(L++ent (some ⟨b,0,none⟩) el full).set L.length (b,Bl el (over full (n*s+0) new))=L++ent (some ⟨b,0,none⟩) el (over full (n*s) new)from by simp[ent]]at hwr;refine⟨some ⟨b,0,none⟩,c,over full (n*s) new,w',?_,hwr,?_,fun v hv=>(Ty new full _ v hv).elim .inl fun h => .inr (.inl h)⟩
   .have hst:(storeCells (Addr.add ⟨b,0,none⟩ (n*s)) new).run P w=.ok () w':=by
     rw[CV,qa4];exact hr
    simp[Builtin.append_,Bf (CF hu),Bf (CF hu2),CH hs,Builtin.lenOf,hfc,hfit,hst]
   .refine⟨fun q hq=>by injection hq with hq;subst hq;rfl,(fun h=>by cases h),by rw[DB];exact O.len,hfit,?_⟩;have hsp:=O.split;have hll:=O.llen;have htl:(full.drop (n*s)).length=c*s - n*s:=by rw[qd8,O.len]
    have hcut:full.drop (n*s)=(full.drop (n*s)).take (m*s)++(full.drop (n*s)).drop (m*s):=by rw[qbp]
    have hover:∀(vs a b c:List Value),b.length=vs.length->over (a++b++c) a.length vs=a++vs++c:=by
     intro vs
     induction vs with
     |nil=>intro a b c hb;have:b=[]:=qbt (by simpa using hb);subst this;simp[over]
     |cons v vs ih =>
      intro a b c hb
      cases b with
      |nil=>simp at hb
      |cons x b =>
       have:=ih (a++[v]) b c (by simpa using hb);simp only[over];rw[show(a++x::b++c).set a.length v=a++[v]++b++c from by simp];rw[show a.length+1=(a++[v]).length from by simp,this];simp
    have hgoal:over full (n*s) new=l++new++(full.drop (n*s)).drop (m*s):=by
     have h4:=hover new l ((full.drop (n*s)).take (m*s)) ((full.drop (n*s)).drop (m*s)) (by rw[qbm,htl,hn];omega);rw[qaz,<-hcut,<-hsp,hll]at h4;exact h4
    rw[hgoal,qci (by rw[qat,hll,hn];omega)]
 ·-- a new block
  have hfit':c<n+m:=by omega
  have hncap:=Lz (n+m) c hfit'
  have hbig:¬(281474976710656:Int)<((Builtin.nextslicecap (n+m) c*by':Nat):Int):=by
   have:Builtin.nextslicecap (n+m) c*by'<=(2*(n+m)+768)*by':=qch _ hncap
   omega
  have hnm:n+m<=281474976710656:=by
   have h1:(2*(n+m)+768)*1<=(2*(n+m)+768)*by':=qd9 _ hpos
   omega
  -- the capacity that is drawn
  generalize hq:(Question.appendCap (n+m) c el).cut (w.tape w.drawn (Question.appendCap (n+m) c el))=cap;have hcap:n+m<=cap:=by rw[<-hq];unfold Question.cut;exact Nat.le_add_right _ _
  obtain⟨zv,hzr,hzc⟩:=GY (P:=P) hz w.drew;have hzs:zv.cells.size=s:=by rw[<-hzl,<-hzc];simp
  let full':=l++new++(Builtin.zeroCells zv.cells (cap - (n+m))).toList
  have hH:Ctx w0 S (w.drew.alloc (Bl el full')) ((w.drew.heap.size,Bl el full')::L):=by
   have:=(H.left.drew).alloc (Bl el full');exact this
  refine⟨some ⟨w.drew.heap.size,0,none⟩,cap,full',w.drew.alloc (Bl el full'),?_,?_,?_,?_⟩
  .have hforced:(Question.appendCap (n+m) c el).forced=false:=rfl
   have hby2:∃i,P.info? el=some i/\i.bytes=by':=by
    unfold DR at hby
    cases hi:P.info? el with
    |none=>rw[hi]at hby;cases hby
    |some i=>rw[hi]at hby;simp at hby;exact⟨i,rfl,hby⟩
   obtain⟨i,hi,hib⟩:=hby2;have hti:∀w,(typeInfo el).run P w=.ok i w:=fun w=>by simp[typeInfo,program,Sem.run,hi]
   have hold':(Builtin.firstCells s n (.slice a n c)).run P w.drew=.ok l.toArray w.drew:=by
    refine Dx (O.llen) (fun j v hv=>?_);have hjl:j<l.length:=(qbc.1 hv).1
    have hn0:0<n:=by
     rcases qcw n with h|h
     .have h5:=O.llen;rw[h,qds]at h5;omega
     .exact h
    obtain⟨b,rfl⟩:=O.form hn0;refine⟨_,rfl,?_⟩;have hk:(L++ent (some ⟨b,0,none⟩) el full)[L.length]?=some (b,Bl el full):=by simp[ent]
    show w.cell? _=_;rw[CV,qa4,Aj (H.get hk),O.split,qcb hjl];exact hv
   have hfc':(Builtin.firstCells s m (.slice a2 m c2)).run P w.drew=.ok new.toArray w.drew:=Dx hn hc;have hroom:∀k w,(askRoom k).run P w=.ok () w:=fun k w=>by unfold askRoom;split <;> rfl
   have hby0:¬by'=0:=by omega
   have hnn:(Builtin.append_ #[t,t2] ty #[.slice a n c,.slice a2 m c2]).run P w=.ok (.slice (some ⟨w.drew.heap.size,0,none⟩) (n+m) cap) (w.drew.alloc (.cells (l.toArray++(new.toArray++Builtin.zeroCells zv.cells (cap - (n+m)))) el)):=by
    have hb3:¬281474976710656<Builtin.nextslicecap (n+m) c*by':=by omega
    simp[Builtin.append_,Bf (CF hu),Bf (CF hu2),CH hs,Builtin.lenOf,hfc',hold',hfit,hti,hib,hb3,hby0,hforced,hq,hroom,hzr,newRow,newObj,Sem.run]
   rw[hnn]
   have harr:l.toArray++(new.toArray++Builtin.zeroCells zv.cells (cap - (n+m)))=full'.toArray:=by
    apply qb3;simp[full']
   rw[harr];rfl
  .exact hH.perm (qcv (l₁:=[(w.drew.heap.size,Bl el full')]) (l₂:=L))
  .refine⟨(fun q hq=>by injection hq with hq;subst hq;rfl),(fun h=>by cases h),?_,hcap,?_⟩
   .show(l++new++(Builtin.zeroCells zv.cells (cap - (n+m))).toList).length=cap*s;rw[qat,qat,O.llen,hn,qd4,G8,hzs,<-qb8,<-qb8]
    congr 1
    omega
   .show(l++new++(Builtin.zeroCells zv.cells (cap - (n+m))).toList).take ((n+m)*s)=l++new;rw[qci (by rw[qat,O.llen,hn,qb8])]
  .intro v hv
   rcases qbi.1 hv with h|h
   .rcases qbi.1 h with h|h
    .exact .inl (qdv (by rw[O.pre];exact h))
    .exact .inr (.inl h)
   .refine .inr (.inr ?_);have h5:=Ql _ _ v h;rw[hzc]at h5
    simpa using h5
end
section
variable {P:Program}{r:Option Nat}{ops rest:List Oper}{Q:Exit->Env->World->Prop}{e:Env}{w w0:World}{S:List Nat}{L:List (Nat × Obj)}{dst:Option Tmp}{ty:TypeId}{pos:String}{af:Array Edge}{g:Option (Nat × Bool)}
theorem T0{t t2 el el2:TypeId}{x y:Operand}{s by':Nat}{zl:List Value}(hg:AS ⟨dst,.call ⟨.builtin .append,#[x,y],#[t,t2]⟩,ty,pos,af,g⟩ ops e=true)(hu:CL P t=some el)(hu2:CL P t2=some el2)(hs:Ci P el=some s)(hby:DR P el=some by')(hz:Cl P el=some zl)(hzl:zl.length=s){a:Option Addr}{n c m c2 b2:Nat}{t3:TypeId}{full l new:List Value}(hx:ev e x=.slice a n c)(hy:ev e y=.slice (some ⟨b2,0,none⟩) m c2)(H:Ctx w0 S w ((b2,Bl t3 new)::(L++ent a el full)))(O:OS a n c s full l)(hn:new.length=m*s)(h1:∀v∈new,AZ v=true)(h:∀a' c' full' w',Ctx w0 S w' (L++ent a' el full')->OS a' (n+m) c' s full' (l++new)->(∀v∈full',v∈full\/v∈new\/v∈zl)->AG P r ops Q rest (put e dst (.slice a' (n+m) c')) w')(hpos:0<by':=by decide)(hbound:(2*(n+m)+768)*by'<=281474976710656:=by omega):
  AG P r ops Q (⟨dst,.call ⟨.builtin .append,#[x,y],#[t,t2]⟩,ty,pos,af,g⟩::rest) e w:=by
 obtain⟨a',c',full',w',hr,H',O',Z'⟩:=Tz (ty:=ty) hu hu2 hs hby hz hzl hpos H.tail O hn h1 (fun j v hv=>⟨_,rfl,by rw[CV,qa4,Aj (H.get at0)];exact hv⟩) hbound (c2:=c2);exact BK hg U (by simp[execOp,resolve,invoke,builtin,hx,hy,hr]) (h a' c' full' w' H' O' Z')
end
def Vb:TypeDesc->Bool
 | .struct _=>false
 | .array _ _=>false
 |_=>true
def Sb(P:Program):List Field->Nat->List Bool->Bool
 | [],_,[]=>true
 |f::fs,i,k::ks=>(f.name != "_" && (f.offset == i && (match P.underlying f.type,k with|some (.int _),true=>true|some .bool,false=>true|_,_=>false))) && Sb P fs (i+1) ks
 |_,_,_=>false
def likeV:Bool->Value->Value->Prop
 |true,.int k _,.int k' _=>k=k'
 |false,.bool _,.bool _=>True
 |_,_,_=>False
def TA:List Bool->List Value->List Value->Prop
 | [],[],[]=>True
 |k::ks,x::xs,y::ys=>likeV k x y/\TA ks xs ys
 |_,_,_=>False
section
variable {P:Program}
theorem Q5{t:TypeId}{u:TypeDesc}{cs:Array Value}{i:Nat}{v:Value}(w:World)(hu:P.underlying t=some u)(hs:Vb u=true)(hc:cs[i]?=some v):(part t cs i).run P w=.ok v w:=by
 cases u <;> simp_all[part,isAgg,Bf hu,Vb]
theorem Mk(d:Nat)(X Y:Array Value)(w:World):∀(fs:List Field) (i:Nat) (ks:List Bool) (xs ys:List Value),Sb P fs i ks=true->TA ks xs ys->(∀j v,xs[j]?=some v->X[i+j]?=some v)->(∀j v,ys[j]?=some v->Y[i+j]?=some v) ->
  ∃r:Bool,(Op.eqFields (d+1) X Y fs).run P w=.ok r w/\(r=true↔xs=ys)
 | [],i,ks,xs,ys,hF,hL,_,_=>by
  cases ks with
  |cons k ks=>cases hF
  |nil =>
   cases xs with
   |cons x xs=>cases hL
   |nil =>
    cases ys with
    |cons y ys=>cases hL
    |nil=>exact⟨true,by simp[Op.eqFields],by simp⟩
 |f::fs,i,ks,xs,ys,hF,hL,hX,hY=>by
  cases ks with
  |nil=>cases hF
  |cons k ks =>
   cases xs with
   |nil=>cases hL
   |cons x xs =>
    cases ys with
    |nil=>cases hL
    |cons y ys =>
     obtain⟨hv,hL⟩:=hL;simp only[Sb,qaf,bne_iff_ne,ne_eq,beq_iff_eq]at hF;obtain⟨⟨hn,ho,hu⟩,hF⟩:=hF;obtain⟨r,hr,hri⟩:=Mk d X Y w fs (i+1) ks xs ys hF hL (fun j v hj=>by rw[qcq,qc7 1];exact hX (j+1) v hj) (fun j v hj=>by rw[qcq,qc7 1];exact hY (j+1) v hj);have hx0:=hX 0 x rfl;have hy0:=hY 0 y rfl;rw[qdr,<-ho]at hx0 hy0
     obtain⟨q,hq,hqi⟩:∃q:Bool,(∀w,(Op.equalIn (d+1) f.type x y).run P w=.ok q w)/\(q=true↔x=y):=by
      split at hu
      .rename_i k' hk
       cases x <;> cases y <;> (try exact hv.elim)
       rename_i k1 a k2 b
       obtain rfl:k1=k2:=hv;exact⟨a == b,fun w=>run_equalIn_int w d f.type _ _ a b hk,by simp⟩
      .rename_i hk
       cases x <;> cases y <;> (try exact hv.elim)
       rename_i a b
       exact⟨a == b,fun w=>run_equalIn_bool w d f.type a b hk,by simp⟩
      .cases hu
     have hu2:∃u,P.underlying f.type=some u/\Vb u=true:=by
      split at hu
      .rename_i h1;exact⟨_,h1,rfl⟩
      .rename_i h1;exact⟨_,h1,rfl⟩
      .cases hu
     obtain⟨u,hu3,hu4⟩:=hu2;have hp1:=Q5 w hu3 hu4 hx0;have hp2:=Q5 w hu3 hu4 hy0
     cases q with
     |false =>
      refine⟨false,?_,?_⟩
      .simp[Op.eqFields,hn,hp1,hp2,hq]
      .have:¬x=y:=fun h=>by have:=hqi.2 h;cases this
       simp[this]
     |true =>
      refine⟨r,?_,?_⟩
      .simp[Op.eqFields,hn,hp1,hp2,hq,hr]
      .have:x=y:=hqi.1 rfl;simp[this,hri]
def OW(P:Program)(t:TypeId)(ks:List Bool):Bool :=
 (match P.underlying t with|some (.struct _)=>true|_=>false) && (!P.stoodInHeld t && (!P.eqGuardType P.depth t && Sb P (P.fieldsOf t).toList 0 ks))
theorem Vc{t:TypeId}{ks:List Bool}{xs ys:List Value}(w:World)(h:OW P t ks=true)(hL:TA ks xs ys):∃r:Bool,(Op.equalIn 10000 t (.agg xs.toArray) (.agg ys.toArray)).run P w=.ok r w/\(r=true↔xs=ys):=by
 unfold OW at h;simp only[qaf,qce]at h;obtain⟨h1,h2,h3,h4⟩:=h
 have ht:P.underlying t=some (.struct (P.fieldsOf t)):=by
  unfold Program.fieldsOf
  split at h1
  .rename_i h5;rw[h5]
  .cases h1
 obtain⟨r,hr,hri⟩:=Mk (P:=P) 9998 xs.toArray ys.toArray w _ 0 ks xs ys h4 hL (fun j v hv=>by rw[qa4];simpa using hv) (fun j v hv=>by rw[qa4];simpa using hv);exact⟨r,by rw[run_equalIn_struct w 9999 t _ _ ht h2];exact hr,hri⟩
end
section
variable {P:Program}{r:Option Nat}{ops rest:List Oper}{Q:Exit->Env->World->Prop}{e:Env}{w:World}{C:World->Prop}{K:Env->Prop}{dst:Option Tmp}{ty:TypeId}{pos:String}{af:Array Edge}{g:Option (Nat × Bool)}{t t2:TypeId}{x y:Operand}
theorem Aet{ks:List Bool}{xs ys:List Value}{b:Bool}(h:OW P t ks=true)(hx:ev e x=.agg xs.toArray)(hy:ev e y=.agg ys.toArray)(hL:TA ks xs ys)(hb:b=true↔xs=ys)(w:World) :
  (execOp (ev e) ⟨dst,.binOp .neq t x y t2,ty,pos,af,g⟩).run P w=.ok (.value (.bool (!b))) w:=by
 obtain⟨r,hr,hri⟩:=Vc w h hL;have hrb:r=b:=by rw[qad,hri,hb]
 have hg:(eqGuard .neq t x y (.agg xs.toArray) (.agg ys.toArray)).run P w=.ok () w:=run_eqGuard_agg w .neq t x y _ _ (by
  unfold OW at h;simp only[qaf,qce]at h;exact h.2.2.1)
 subst hrb;simp[execOp,hx,hy,hg,run_neq_struct,hr]
theorem Wk{ks:List Bool}{xs ys:List Value}(b:Bool)(hg:AS ⟨dst,.binOp .neq t x y t2,ty,pos,af,g⟩ ops e=true)(hx:ev e x=.agg xs.toArray)(hy:ev e y=.agg ys.toArray)(hL:TA ks xs ys)(hb:b=true↔xs=ys)(hk:Wq P ops C K rest (put e dst (.bool (!b))))(h:OW P t ks=true:=by kernel_rfl):Wq P ops C K (⟨dst,.binOp .neq t x y t2,ty,pos,af,g⟩::rest) e:=Ex hg (fun w _=>Aet h hx hy hL hb w) hk
end
section
variable {α:Type}{w w':World}{a:Option Addr}{s:Nat}{enc:α->List Value}{xs:List α}{S:List Nat}
theorem Rd.ext'(h:Rd w a s enc xs)(he:Ext S w w')(hn:xs≠[]->(adr a).block∉S):Rd w' a s enc xs :=
 ⟨h.some',fun i x hx j v hv hj=>he.cell (h.cell i x hx j v hv hj) (hn (by rintro rfl;simp at hx))⟩
theorem Rd.lt'(h:Rd w a s enc xs)(hs:∀x∈xs,(enc x).length=s)(h0:0<s)(hne:xs≠[]):(adr a).block<w.heap.size:=by
 cases xs with
 |nil=>exact absurd rfl hne
 |cons x xs =>
  obtain⟨v,hv⟩:=AA (l:=enc x) (i:=0) (h:=by rw[hs x (qai ..)];exact h0);exact World.block_lt_of_cell? w ⟨(adr a).block,(adr a).off+0*s+0,none⟩ (h.cell 0 x U 0 v hv h0)
end
structure Sl(w w':World)(v:Value)(s:Nat){α:Type}(enc:α->List Value)(xs:List α):Prop where
 ex:∃a c,v=.slice a xs.length c/\xs.length<=c/\Rd w' a s enc xs/\(xs≠[]->w.heap.size<=(adr a).block)
theorem Sl.of{w w':World}{el s:Nat}{v:Value}{α:Type}{enc:α->List Value}{xs:List α}(F:Fresh w w' el s v (xs.flatMap enc))(hs:∀x∈xs,(enc x).length=s)(h0:0<s):Sl w w' v s enc xs:=by
 obtain⟨a,n,c,full,rfl,O,hb⟩:=F.ex;obtain rfl:=O.numN hs h0;refine⟨a,c,rfl,O.le,OS.rd O (fun x hx=>(hb x hx).1) hs h0,fun hne=>?_⟩;obtain⟨q,rfl⟩:=O.form (qbn.2 hne);exact(hb (q,Bl el full) (qab.2 U)).2
theorem Sl.nil{w w':World}{s:Nat}{α:Type}{enc:α->List Value}:Sl w w' (.slice none 0 0) s enc ([]:List α):=⟨none,0,rfl,qan _,Rd.nil,fun h=>absurd rfl h⟩
variable {P:Program}{r:Option Nat}{ops:List Oper}{Q:Exit->Env->World->Prop}
theorem Vd{K:Env->World->Prop}{o:Oper}{rest:List Oper}{e:Env}{w:World}(h:AG P r ops (Qk K) (o::rest) e w):AG P r ops (Qk fun e2 w2=>AG P r ops (Qk K) rest e2 w2) [o] e w:=by
 unfold AG at h |-
 by_cases hw:AS o ops e=true
 .rw[if_pos hw]at h |-;generalize(o.semAt r (ev e)).run P w=res at h |-
  match res,h with
  | .ok (.value v) w',h=>exact h
  | .ok .skip w',h=>exact h
  | .ok (.defer d) w',h=>exact h
  | .ok (.enter f args) w',h=>exact Ret.mono h fun v w'' hv=>hv
  | .ok (.round l f tmps assign body) w',h=>exact RoundIn.mono h fun x w'' ⟨v,hx,hv⟩=>⟨v,hx,hv⟩
  | .halt (.panic v) w',h=>exact h.elim
 .rw[if_neg hw]at h |-;exact h
def Ml(V:Nat->Value)(i:Nat)(b:Value):Nat->Value:=fun j=>if j=i then b else V j
theorem Eb(V:Nat->Value)(i:Nat)(b:Value):Ml V i b i=b:=if_pos rfl
theorem D9{V:Nat->Value}{i:Nat}{b:Value}{j:Nat}(h:j≠i):Ml V i b j=V j:=if_neg h
structure AW(n:Nat)(anc:Nat->List Nat)(d:Nat->Tmp)(G:Nat->(Nat->Value)->World->Prop)(e0:Env)(w0:World)(l:Nat->Prop)(e:Env)(w:World)(V:Nat->Value):Prop where
 ds:e.ds=e0.ds
 old:∀s,(∀i,i<n->s≠d i)->e.g s=e0.g s
 slot:∀i,i<n->l i->e.g (d i)=V i
 ext:Ext [] w0 w
 good:∀i,i<n->l i->G i V w
 cl:∀i,i<n->l i->∀j∈anc i,l j
theorem AW.step{n:Nat}{anc:Nat->List Nat}{d:Nat->Tmp}{G:Nat->(Nat->Value)->World->Prop}{e0:Env}{w0:World}{l:Nat->Prop}{e:Env}{w:World}{V:Nat->Value}(A:AW n anc d G e0 w0 l e w V)(hd:∀i j,i<n->j<n->d i=d j->i=j)(hst:∀i k v V w,i<n->k≠i->k∉anc i->G i V w->G i (Ml V k v) w)(hx:∀i V w w',i<n->G i V w->Ext [] w w'->G i V w'){i:Nat}(hi:i<n)(hu:¬l i)(hanc:∀j∈anc i,l j){e':Env}{w':World}{v:Value}(h1:Ext [] w w')(h2:e'=put e (some (d i)) v)(h3:G i (Ml V i v) w'):AW n anc d G e0 w0 (fun j=>j=i\/l j) e' w' (Ml V i v):=by
 subst h2;have hni:∀j,l j->j≠i:=fun j hj h=>hu (h ▸ hj);have hna:∀j,j<n->l j->i∉anc j:=fun j hj hl h=>hu (A.cl j hj hl i h);refine⟨A.ds,fun s hs=>?_,fun j hj hl=>?_,A.ext.trans h1,fun j hj hl=>?_,fun j hj hl k hk=>?_⟩
 .rw[J6 (hs i hi)];exact A.old s hs
 .rcases hl with rfl|hl
  .rw[Kh,Eb]
  .rw[J6 fun h=>hni j hl (hd _ _ hj hi h),A.slot j hj hl,D9 (hni j hl)]
 .rcases hl with rfl|hl
  .exact h3
  .exact hx j _ _ _ hj (hst j i v V w hj (Ne.symm (hni j hl)) (hna j hj hl) (A.good j hj hl)) h1
 .rcases hl with rfl|hl
  .exact .inr (hanc k hk)
  .exact .inr (A.cl j hj hl k hk)
def Sta(p:Value->World->Prop):Prop:=∀v w w',p v w->Ext [] w w'->p v w'
def Ah7:List (Value->World->Prop)->Prop
 | []=>True
 |p::l=>Sta p/\Ah7 l
def atG(l:List (Value->World->Prop))(i:Nat):Value->World->Prop:=match l,i with
 | [],_=>fun _ _=>True
 |p::_,0=>p
 |_::l,i+1=>atG l i
def isV(t:Value):Value->World->Prop:=fun v _=>v=t
def frV(w0:World)(el s:Nat)(l:List Value):Value->World->Prop:=fun v w=>Fresh w0 w el s v l
def nbV(t:TypeId)(n:Nat)(l:List Value):Value->World->Prop:=fun v w=>∃b,v=.slice (some ⟨b,0,none⟩) n n/\w.heap[b]?=some (Bl t l)
def ancT(n:Nat)(t:List (List Nat))(i:Nat):List Nat:=bif Nat.ble n i then List.range i else t.getD i []
theorem XF{n N:Nat}(t:List (List Nat)):∀i,n<=i->i<N->∀k,k<i->k∈ancT n t i:=fun i hi _ k hk=>by
 unfold ancT;rw[show Nat.ble n i=true from Nat.ble_eq_true_of_le hi,cond_true];exact qa6.2 hk
variable {P:Program}{r:Option Nat}{Q:Exit->Env->World->Prop}
structure AC(n c:Nat)(anc:Nat->List Nat)(d:Nat->Tmp)(G:Nat->(Nat->Value)->World->Prop)(e0:Env)(w0:World)(l:Nat->Prop)(e:Env)(w:World)(V:Nat->Value):Prop where
 ds:e.ds=e0.ds
 old:∀s,(∀i,i<n->s≠d i)->e.g s=e0.g s
 slot:∀i,i<n->l i->e.g (d i)=V i
 still:¬l c->w=w0
 good:∀i,i<n->l i->G i V w
 cl:∀i,i<n->l i->∀j∈anc i,l j
theorem AC.step{n c:Nat}{anc:Nat->List Nat}{d:Nat->Tmp}{G:Nat->(Nat->Value)->World->Prop}{e0:Env}{w0:World}{l:Nat->Prop}{e:Env}{w:World}{V:Nat->Value}(A:AC n c anc d G e0 w0 l e w V)(hd:∀i j,i<n->j<n->d i=d j->i=j)(hst:∀i k v V w,i<n->k≠i->k∉anc i->G i V w->G i (Ml V k v) w)(hx:∀i V w w',i<n->i≠c->c∉anc i->G i V w->G i V w'){i:Nat}(hi:i<n)(hu:¬l i)(hanc:∀j∈anc i,l j){e':Env}{w':World}{v:Value}(h1:i≠c->w'=w)(h2:e'=put e (some (d i)) v)(h3:G i (Ml V i v) w'):AC n c anc d G e0 w0 (fun j=>j=i\/l j) e' w' (Ml V i v):=by
 subst h2;have hni:∀j,l j->j≠i:=fun j hj h=>hu (h ▸ hj);have hna:∀j,j<n->l j->i∉anc j:=fun j hj hl h=>hu (A.cl j hj hl i h);refine⟨A.ds,fun s hs=>?_,fun j hj hl=>?_,fun hc=>?_,fun j hj hl=>?_,fun j hj hl k hk=>?_⟩
 .rw[J6 (hs i hi)];exact A.old s hs
 .rcases hl with rfl|hl
  .rw[Kh,Eb]
  .rw[J6 fun h=>hni j hl (hd _ _ hj hi h),A.slot j hj hl,D9 (hni j hl)]
 .rw[h1 fun h=>hc (.inl h.symm)];exact A.still fun h=>hc (.inr h)
 .rcases hl with rfl|hl
  .exact h3
  .have h4:=hst j i v V w hj (Ne.symm (hni j hl)) (hna j hj hl) (A.good j hj hl)
   by_cases hic:i=c
   .subst hic;exact hx j _ _ _ hj (hni j hl) (hna j hj hl) h4
   .rw[h1 hic];exact h4
 .rcases hl with rfl|hl
  .exact .inr (hanc k hk)
  .exact .inr (A.cl j hj hl k hk)
theorem Aeu{id m n N:Nat}{arr:Array Oper}{anc:Nat->List Nat}(c:Nat)(d:Nat->Tmp)(G:Nat->(Nat->Value)->World->Prop){e:Env}{w:World}(hm:P.follows .mixedOrders=true)(hsz:arr.size=N)(hlast:∀i,n<=i->i<N->∀k,k<i->k∈anc i)(hd:∀i j,i<n->j<n->d i=d j->i=j)(hst:∀i k v V w,i<n->k≠i->k∉anc i->G i V w->G i (Ml V k v) w)(hx:∀i V w w',i<n->i≠c->c∉anc i->G i V w->G i V w')(hop:∀i o e' w' V,i<n->i≠c->arr[i]?=some o->(∀s,(∀j,j<n->s≠d j)->e'.g s=e.g s)->(∀j∈anc i,e'.g (d j)=V j)->(∀j∈anc i,G j V w')->(i∈anc c->w'=w.drew)->AG P r arr.toList (Qk fun e2 w2=>∃v,w2=w'/\e2=put e' (some (d i)) v/\G i (Ml V i v) w2) [o] e' w')(hcall:∀o e' V,arr[c]?=some o->(∀s,(∀j,j<n->s≠d j)->e'.g s=e.g s)->(∀j∈anc c,e'.g (d j)=V j)->(∀j∈anc c,G j V w.drew)->AG P r arr.toList (Qk fun e2 w2=>∃v,e2=put e' (some (d c)) v/\G c (Ml V c v) w2) [o] e' w.drew)(hfin:∀e' w' V,e'.ds=e.ds->(∀s,(∀j,j<n->s≠d j)->e'.g s=e.g s)->(∀j,j<n->e'.g (d j)=V j)->(∀j,j<n->G j V w')->AG P r arr.toList (Qk fun e2 w2=>Q .normal e2 w2) (arr.toList.drop n) e' w')(hn:n<=N:=by decide)(hanc:UY arr anc N=true:=by kernel_rfl)(hcn:c<n:=by decide):W P r m (.region id arr true) Q e w:=by
 have hspec:=Jc hanc
 have hset:∀{l:Array Bool} {i:Nat},l.size=N->i<N->∀j,((l.setIfInBounds i true).getD j false=true)=(j=i\/l.getD j false=true):=fun{l i} hl hi j=>by
  apply propext
  by_cases e:j=i
  .subst e;rw[qa2,qej (by omega)];simp
  .rw[qa2,qek (Ne.symm e),<-qa2];simp[e]
 -- what is done holds all that comes ahead
 have hall:∀{l:Array Bool},(∀i,i<N->l.getD i false=true->∀j∈anc i,l.getD j false=true)->∀i,i<N->i∈Region.ready .any arr l->∀k∈anc i,l.getD k false=true:=fun{l} hcl i hi hr k hk=>by
  rcases(hspec i hi).1 k hk with h|⟨j,h1,h2⟩
  .exact Fs hr k h
  .exact hcl j (by have:=(hspec i hi).2 j h1;omega) (Fs hr j h1) k h2
 -- all is done where nothing is ready
 have hdone:∀{l:Array Bool},l.size=N->Region.ready .any arr l=[]->∀i,i<N->l.getD i false=true:=fun{l} hls hr i=>by
  induction i using Nat.strongRecOn with
  |_ i ih =>
   intro hi
   cases hc:l.getD i false with
   |true=>rfl
   |false =>
    have hu:l.getD i true=false:=by
     rw[qa2,qcl (by omega)]at hc |-
     simpa using hc
    have:=OV (arr:=arr) (l:=l) (i:=i) hu fun j hj=>ih j ((hspec i hi).2 j hj) (by have:=(hspec i hi).2 j hj;omega);rw[hr]at this;cases this
 have hdrop:∀i o,arr[i]?=some o->arr.toList.drop i=o::arr.toList.drop (i+1):=fun i o ho=>by
  obtain⟨h1,h2⟩:=qc8.1 ho;rw[qdd (by simpa using h1)];simp[h2]
 refine Zo (I:=fun l e' w'=>l.size=N/\(((∀i,n<=i->i<N->l.getD i false=false)/\∃V,AC n c anc d G e w.drew (fun i=>l.getD i false=true) e' w' V)\/∃t,n<=t/\t<=N/\(∀i,i<t->l.getD i false=true)/\(∀i,t<=i->i<N->l.getD i false=false)/\AG P r arr.toList (Qk fun e2 w2=>Q .normal e2 w2) (arr.toList.drop t) e' w')) hm ?_ ?_ ?_
 .refine⟨by simp[hsz],.inl ⟨fun i _ _=>getD_replicate_false ..,fun _ => .int .i64 0,rfl,fun _ _=>rfl,fun i _ h=>?_,fun _=>rfl,fun i _ h=>?_,fun i _ h=>?_⟩⟩ <;>
   (exfalso;rw[getD_replicate_false]at h;cases h)
 .rintro l e' w' i o ⟨hls,h⟩ hr ho;have hi:i<N:=by have:=(qc8.1 ho).1;omega
  have hun:¬l.getD i false=true:=fun h=>by
   have h1:=(mem_ready.1 hr).1;rw[qa2,qcl (by omega)]at h h1;simp at h h1;rw[h]at h1;cases h1
  -- the next of the last ones
  have last:∀t,n<=t->(∀i,i<t->l.getD i false=true)->(∀i,t<=i->i<N->l.getD i false=false)->i=t->AG P r arr.toList (Qk fun e2 w2=>Q .normal e2 w2) (arr.toList.drop t) e' w' ->
    AG P r arr.toList (Qk fun e2 w2=>(l.setIfInBounds i true).size=N/\(((∀j,n<=j->j<N->(l.setIfInBounds i true).getD j false=false)/\∃V,AC n c anc d G e w.drew (fun j=>(l.setIfInBounds i true).getD j false=true) e2 w2 V)\/∃t,n<=t/\t<=N/\(∀j,j<t->(l.setIfInBounds i true).getD j false=true)/\(∀j,t<=j->j<N->(l.setIfInBounds i true).getD j false=false)/\AG P r arr.toList (Qk fun e2 w2=>Q .normal e2 w2) (arr.toList.drop t) e2 w2)) [o] e' w':=fun t hnt h1 h2 hit hW=>by
   subst hit;rw[hdrop i o ho]at hW;refine CP ?_ _ _ _ (Vd hW);intro x e2 w2 hq
   cases x with
   |normal =>
    refine⟨by simp[hls],.inr ⟨i+1,by omega,by omega,fun j hj=>?_,fun j hj hjN=>?_,hq⟩⟩
    .rw[hset hls hi]
     by_cases hji:j=i
     .exact .inl hji
     .exact .inr (h1 j (by omega))
    .cases hc:(l.setIfInBounds i true).getD j false with
     |false=>rfl
     |true =>
      rw[hset hls hi]at hc
      rcases hc with h|h
      .omega
      .rw[h2 j (by omega) hjN]at h;cases h
   |exit id=>exact hq.elim
   |goto l=>exact hq.elim
   |ret=>exact hq.elim
   |panic c=>exact hq.elim
   |outgrown=>exact hq.elim
  rcases h with⟨hn0,V,A⟩|⟨t,hnt,htN,h1,h2,hW⟩
  .have hcl:∀j,j<N->l.getD j false=true->∀k∈anc j,l.getD k false=true:=fun j hj hl k hk=>by
    rcases qap j n with hjn|hjn
    .exact A.cl j hjn hl k hk
    .rw[hn0 j hjn hj]at hl;cases hl
   have ha:=hall hcl i hi hr
   rcases qap i n with hin|hin
   .by_cases hic:i=c
    .have hw0:w'=w.drew:=A.still fun h=>hun (hic ▸ h);refine CP ?_ _ _ _ (hic ▸ hw0 ▸ hcall o e' V (hic ▸ ho) A.old (fun j hj=>A.slot j (qcm (GP hanc i hi j (hic ▸ hj)) hin) (ha j (hic ▸ hj))) (fun j hj=>hw0 ▸ A.good j (qcm (GP hanc i hi j (hic ▸ hj)) hin) (ha j (hic ▸ hj))));intro x e2 w2 hq
     cases x with
     |normal =>
      obtain⟨v,q2,q3⟩:=hq;have A':=A.step hd hst hx hin hun ha (fun h=>absurd hic h) q2 q3;refine⟨by simp[hls],.inl ⟨fun j hj hjN=>?_,Ml V i v,?_⟩⟩
      .cases hc:(l.setIfInBounds i true).getD j false with
       |false=>rfl
       |true =>
        rw[hset hls hi]at hc
        rcases hc with h|h
        .omega
        .rw[hn0 j hj hjN]at h;cases h
      .have hf:(fun j=>(l.setIfInBounds i true).getD j false=true)=fun j=>j=i\/l.getD j false=true:=funext fun j=>hset hls hi j;rw[hf];exact A'
     |exit id=>exact hq.elim
     |goto l=>exact hq.elim
     |ret=>exact hq.elim
     |panic c=>exact hq.elim
     |outgrown=>exact hq.elim
    .refine CP ?_ _ _ _ (hop i o e' w' V hin hic ho A.old (fun j hj=>A.slot j (qcm (GP hanc i hi j hj) hin) (ha j hj)) (fun j hj=>A.good j (qcm (GP hanc i hi j hj) hin) (ha j hj)) fun hm=>A.still fun h=>hun (A.cl c hcn h i hm));intro x e2 w2 hq
     cases x with
     |normal =>
      obtain⟨v,q1,q2,q3⟩:=hq;have A':=A.step hd hst hx hin hun ha (fun _=>q1) q2 q3;refine⟨by simp[hls],.inl ⟨fun j hj hjN=>?_,Ml V i v,?_⟩⟩
      .cases hc:(l.setIfInBounds i true).getD j false with
       |false=>rfl
       |true =>
        rw[hset hls hi]at hc
        rcases hc with h|h
        .omega
        .rw[hn0 j hj hjN]at h;cases h
      .have hf:(fun j=>(l.setIfInBounds i true).getD j false=true)=fun j=>j=i\/l.getD j false=true:=funext fun j=>hset hls hi j;rw[hf];exact A'
     |exit id=>exact hq.elim
     |goto l=>exact hq.elim
     |ret=>exact hq.elim
     |panic c=>exact hq.elim
     |outgrown=>exact hq.elim
   .have hin':i=n:=by
     rcases qap n i with h|h
     .have:=ha n (hlast i hin hi n h);rw[hn0 n (qan _) (by omega)]at this;cases this
     .omega
    have hal:∀j,j<n->l.getD j false=true:=fun j hj=>ha j (hlast i hin hi j (by omega));exact last n (qan _) hal hn0 hin' (hfin e' w' V A.ds A.old (fun j hj=>A.slot j hj (hal j hj)) (fun j hj=>A.good j hj (hal j hj)))
  .have hge:t<=i:=by
    rcases qap i t with h|h
    .exact absurd (h1 i h) hun
    .exact h
   have hit:i=t:=by
    rcases qap t i with h|h
    .rcases(hspec i hi).1 t (hlast i (by omega) hi t h)with h3|⟨j,h3,h4⟩
     .have:=Fs hr t h3;rw[h2 t (qan _) (by omega)]at this;cases this
     .have h5:=Fs hr j h3;have h6:=(hspec i hi).2 j h3;have h7:=GP hanc j (by omega) t h4;rw[h2 j (by omega) (by omega)]at h5;cases h5
    .omega
   exact last t hnt h1 h2 hit hW
 .rintro l e' w' ⟨hls,h⟩ hr;have hal:=hdone hls hr
  rcases h with⟨hn0,V,A⟩|⟨t,hnt,htN,h1,h2,hW⟩
  .rcases qap n N with h|h
   .have:=hal n h;rw[hn0 n (qan _) h]at this;cases this
   .have hnN:n=N:=by omega
    subst hnN;have:=hfin e' w' V A.ds A.old (fun j hj=>A.slot j hj (hal j hj)) (fun j hj=>A.good j hj (hal j hj));rw[List.drop_eq_nil_of_le (by simp[hsz])]at this;unfold AG at this;exact this
  .have htN':t=N:=by
    rcases qap t N with h|h
    .have:=hal t h;rw[h2 t (qan _) h]at this;cases this
    .omega
   subst htN';rw[List.drop_eq_nil_of_le (by simp[hsz])]at hW;unfold AG at hW;exact hW
abbrev jn1(P:Program)(_:FuncId)(fn:Func)(s:ChangeSpec)(c:OpenClaim):Bool:=c.wf (OpenSpec.ofChange s) && laidOutB P && mapsRowed P && fn.params.all (P.readableRec ·) && namedTie P c.named s.vars && (c.stops == []) && (P.stops == []) && (c.knobs == []) && (P.stopKnobs == [])
abbrev jn2(P:Program)(f:FuncId)(_:Func)(_:ChangeSpec)(c:OpenClaim):Bool:=(c.inPlace == P.inPlace f) && (c.unfollowed == P.unfollowed f) && (c.recurses == P.recurses f) && (c.named == P.varsNamed f)
abbrev jn3(P:Program)(_:FuncId)(fn:Func)(s:ChangeSpec)(c:OpenClaim):Bool:=(c.maps == (fn.params.toList++s.plain.varTypes P).any (P.mapsRec ·)) && (c.ifaces == (fn.params.toList++s.plain.varTypes P).any (P.ifacesRec ·)) && (c.mapsOut == P.mapsAmong fn.resultTypes.toList) && (c.loops == (fn.params.toList++s.plain.varTypes P).any (P.loopsFrom ·)) && (c.wideKeys == (fn.params.toList++s.plain.varTypes P++fn.resultTypes.toList).any (P.wideKeysFrom ·)) && s.vars.all (P.varReadable ·) && fn.resultTypes.all (fun t=>P.readableRec t && decide (t<P.types.size)) && (c.ifacesOut == fn.resultTypes.toList.any (P.ifacesRec ·)) && (c.loopsOut == fn.resultTypes.toList.any (P.loopsFrom ·))
abbrev jn4(P:Program)(_:FuncId)(_:Func)(_:ChangeSpec)(c:OpenClaim):Bool:=(c.plainKeys == P.plainKeys) && c.shortTexts.isNone && P.stopsHeard && P.mayEnter && (c.lifted == P.liftsFinal)
abbrev jn5(P:Program)(_:FuncId)(fn:Func)(s:ChangeSpec)(c:OpenClaim):Bool:=(P.make == some c.make) && (c.kinds == (if c.domain.isEmpty then[]else fn.params.toList.map fun t=>match P.underlying t with|some (.int k)=>some k|_=>none)) && (c.pinned == c.pinnedBy) && (c.veiled == (fn.params.toList++s.plain.varTypes P++fn.resultTypes.toList).any (P.veiledRec ·)) && c.veiledFits P fn.params.toList (fn.params.toList++s.plain.varTypes P++fn.resultTypes.toList)
theorem Q6{P:Program}{f:FuncId}{fn:Func}{s:ChangeSpec}{c:OpenClaim}(h1:jn1 P f fn s c=true)(h2:jn2 P f fn s c=true)(h3:jn3 P f fn s c=true)(h4:jn4 P f fn s c=true)(h5:jn5 P f fn s c=true):joinedFacts P f fn s c=true:=by
 simp only[jn1,qaf]at h1;obtain⟨⟨⟨⟨⟨⟨⟨⟨k0,k1⟩,k2⟩,k3⟩,k4⟩,k5⟩,k6⟩,k7⟩,k8⟩:=h1;simp only[jn2,qaf]at h2;obtain⟨⟨⟨k9,k10⟩,k11⟩,k12⟩:=h2;simp only[jn3,qaf]at h3;obtain⟨⟨⟨⟨⟨⟨⟨⟨k13,k14⟩,k15⟩,k16⟩,k17⟩,k18⟩,k19⟩,k20⟩,k21⟩:=h3;simp only[jn4,qaf]at h4;obtain⟨⟨⟨⟨k22,k23⟩,k24⟩,k25⟩,k26⟩:=h4;simp only[jn5,qaf]at h5;obtain⟨⟨⟨⟨k27,k28⟩,k29⟩,k30⟩,k31⟩:=h5;unfold joinedFacts;simp only[qaf];exact⟨⟨⟨⟨⟨⟨⟨⟨⟨⟨⟨⟨⟨⟨⟨⟨⟨⟨⟨⟨⟨⟨⟨⟨⟨⟨⟨⟨⟨⟨⟨k0,k1⟩,k2⟩,k3⟩,k4⟩,k5⟩,k6⟩,k7⟩,k8⟩,k9⟩,k10⟩,k11⟩,k12⟩,k13⟩,k14⟩,k15⟩,k16⟩,k17⟩,k18⟩,k19⟩,k20⟩,k21⟩,k22⟩,k23⟩,k24⟩,k25⟩,k26⟩,k27⟩,k28⟩,k29⟩,k30⟩,k31⟩
open Go Go.ChangeShapes Go.WideShapes Go.RowKit
theorem Ext.below{w w':World}(h:Ext [] w w'):Below w.heap.size w w':=⟨h.os,h.tape,h.output,h.size,fun k hk=>h.block k hk (by simp)⟩
section
variable {H:Type}{enc:TypeId × Value->H}{P:Program}{w:World}{base:Nat}{spare:Nat->Bool}{held:Bool}
theorem Kj:∀{ts:List TypeId} {vs:List Value} {ds:List (DataW H)} {ps:List MemPlace},DataW.TrodAll enc P w base spare held ts vs ds ps->ds.length=ts.length
 | [],vs,ds,ps,h=>by obtain⟨_,rfl,_⟩:=trodAll_nil h;rfl
 |t::ts,vs,ds,ps,h=>by
  obtain⟨v,vs',d,ds',p,q,rfl,rfl,rfl,_,hr⟩:=trodAll_cons h;simp[Kj hr]
theorem Lp{W W':World}{sp':Nat->Bool}(hl:laidOutB P=true)(hsp:∀b,b<W.heap.size->sp' b=true)(hb:Below W.heap.size W W') :
  ∀{ts:List TypeId} {vs:List Value} {ds:List (DataW H)} {ps:List MemPlace},(∀t∈ts,P.readableRec t=true/\t<P.types.size)->(∀x∈ps,x.block<W.heap.size) ->
   DataW.TrodAll enc P W 0 (fun _=>true) true ts vs ds ps->DataW.TrodAll enc P W' 0 sp' true ts vs ds ps
 | [],vs,ds,ps,_,_,h=>by obtain⟨rfl,rfl,rfl⟩:=trodAll_nil h;rfl
 |t::ts,vs,ds,ps,hr,hp,h=>by
  obtain⟨v,vs',d,ds',p,q,rfl,rfl,rfl,h0,h1⟩:=trodAll_cons h;refine⟨p,q,WideElems.Trod_stays hl (hr t (by simp)).1 (hr t (by simp)).2 h0 (fun x hx=>hb.same (hp x (by simp[hx]))) (fun x hx=>hsp _ (hp x (by simp[hx]))),?_,rfl⟩;exact Lp hl hsp hb (fun t ht=>hr t (by simp[ht])) (fun x hx=>hp x (by simp[hx])) h1
theorem TB{f:Func}{s:ChangeSpec}{W W':World}{args:Array Value}{ds gs:List (DataW H)}{before:List MemPlace}{tb:TypeId}(hl:laidOutB P=true)(hv:s.vars=[])(hres:f.resultTypes=#[tb])(htb:P.underlying tb=some .bool)(hs:∀ds:List (DataW H),ds.length=f.params.size->s.fn H ds={ results:=[.lit (.bool true)],args:=ds })(hW:DataW.Whole enc P f.params.toList s.vars false W args.toList ds gs before)(hx:Ext [] W W')(hr:(f.params.toList.all fun t=>P.readableRec t && decide (t<P.types.size))=true:=by kernel_rfl):s.post enc P f false true false false W args (.bool true) W':=by
 have hW':=hW;obtain⟨p,q,hA,hV,rfl,_,_⟩:=hW;rw[hv]at hV;obtain⟨rfl,rfl⟩:=trodVars_none hV;have hlen:ds.length=f.params.size:=by rw[Kj hA];simp
 refine⟨ds,[],p++[],[],p,[],hW',?_,?_,?_,hx.below.frame _,fun h=>by cases h⟩
 .rw[qa3,hs ds hlen,hres];exact trodAll_mk1 ⟨1,by simp[DataW.trod,Value.cells,htb]⟩
 .rw[qa3,hs ds hlen];refine Lp hl (fun b hb=>by simpa using hb) hx.below (fun t ht=>?_) (fun x hxp=>?_) hA
  .have:=qau.1 hr t ht
   simpa using this
  .exact hW'.lt x (by simp[hxp])
 .rw[hv,qa3,hs ds hlen];rfl
theorem XG{k:IntKind}{n:Int}(h:(Lit.int k n).wf=true):k.min<=n/\n<=k.max:=by
 simpa[Lit.wf]using h
theorem Zt{fuel:Nat}{t:TypeId}{cs:List Value}{x:DataW H × List MemPlace}{fs:Array Field}(ht:P.underlying t=some (.struct fs))(h:DataW.trod enc P w base spare held fuel t cs=some x)(i:Nat)(f:Field)(hf:fs[i]?=some f) :
  ∃n y,DataW.trod enc P w base spare held n f.type ((cs.drop f.offset).take (P.cellsOf f.type))=some y:=by
 obtain⟨xs,n,_,_,_,hl,hx⟩:=DataW.trod_struct ht h;have h1:=hx i f hf;have hi:i<xs.length:=by rw[hl];exact(qc8.1 hf).1
 rw[qbz hi]at h1;exact⟨n,_,h1⟩
theorem XH{fuel:Nat}{t:TypeId}{cs:List Value}{x:DataW H × List MemPlace}{fs:Array Field}(ht:P.underlying t=some (.struct fs))(h:DataW.trod enc P w base spare held fuel t cs=some x):cs.length=P.cellsOf t:=by
 obtain⟨xs,n,_,_,hl,_,_⟩:=DataW.trod_struct ht h;exact hl
theorem Zu{l:List Value}{o m:Nat}{v:Value}(h:(l.drop o).take m=[v]):l[o]?=some v:=by
 have h1:((l.drop o).take m)[0]?=some v:=by rw[h];rfl
 rw[qbv]at h1
 split at h1
 .rw[qcr]at h1;simpa using h1
 .cases h1
theorem J8{fuel:Nat}{t u:TypeId}{cs:List Value}{x:DataW H × List MemPlace}{fs:Array Field}{k:IntKind}(ht:P.underlying t=some (.struct fs))(h:DataW.trod enc P w base spare held fuel t cs=some x)(i o:Nat)(hf:(fs[i]?.map fun f=>(f.type,f.offset))=some (u,o))(hu:P.underlying u=some (.int k)):∃n,cs[o]?=some (.int k n)/\k.min<=n/\n<=k.max:=by
 cases he:fs[i]? with
 |none=>rw[he]at hf;cases hf
 |some f =>
  rw[he]at hf;simp only[qcu,qb5,Prod.mk.injEq]at hf;obtain⟨rfl,rfl⟩:=hf;obtain⟨n,y,hy⟩:=Zt ht h i f he;obtain⟨m,h1,_,h2⟩:=DataW.trod_int hu hy;exact⟨m,Zu h1,XG h2⟩
theorem TC{a:Addr}{n:Nat}{cs:List Value}(h:w.cells? base a n=some cs):cs.length=n/\∀j v,cs[j]?=some v->w.cell? (a.add j)=some v:=by
 unfold World.cells? at h
 split at h
 .have h1:∀(l:List Nat) (cs:List Value),l.mapM (fun i=>w.cell? (a.add i))=some cs->cs.length=l.length/\∀(j i:Nat) (v:Value),l[j]?=some i->cs[j]?=some v->w.cell? (a.add i)=some v:=by
   intro l
   induction l with
   |nil=>intro cs h;simp at h;subst h;exact⟨rfl,fun j i v h=>by simp at h⟩
   |cons k l ih =>
    intro cs h;rw[List.mapM_cons]at h;obtain⟨v,hv,h⟩:=Option.bind_eq_some_iff.1 h;obtain⟨cs',hcs,h⟩:=Option.bind_eq_some_iff.1 h;simp only[Option.pure_def,qb5]at h;subst h;obtain⟨h1,h2⟩:=ih cs' hcs;refine⟨by simp[h1],fun j i u hi hu=>?_⟩
    cases j with
    |zero=>simp at hi hu;subst hi hu;exact hv
    |succ j=>exact h2 j i u (by simpa using hi) (by simpa using hu)
  obtain⟨h2,h3⟩:=h1 _ _ h;refine⟨by simpa using h2,fun j v hv=>h3 j j v ?_ hv⟩;have:j<cs.length:=(qbc.1 hv).1;rw[List.getElem?_range (by rw[h2]at this;simpa using this)]
 .cases h
theorem Q7{a:Addr}{v:Value}(h:w.cell? a=some v):a=⟨a.block,a.off,none⟩:=by
 unfold World.cell? at h
 split at h
 .split at h
  .cases h
  .rename_i hs
   obtain⟨b,o,s⟩:=a
   cases s with
   |none=>rfl
   |some x=>simp at hs
 .cases h
theorem rd_of{α:Type}{t e:TypeId}{s fuel:Nat}{v:Value}{x:DataW H × List MemPlace}{encd:α->List Value}{Good:α->Prop}(ht:P.underlying t=some (.slice e))(hs:P.cellsOf e=s)(h0:0<s)(dec:∀n cs y,DataW.trod enc P w base spare held n e cs=some y->∃d,cs=encd d/\Good d)(h:DataW.trod enc P w base spare held fuel t [v]=some x) :
  ∃(a:Option Addr) (c:Nat) (l:List α),v=.slice a l.length c/\Rd w a s encd l/\l.length<=c/\c<=maxLen/\(∀d∈l,Good d):=by
 rcases Go.Deep.open_slice ht h with⟨hc,_⟩|⟨a,len,cap,m,n,D,Pl,hc,_,hl,hm,hmm,_,hx⟩
 .simp only[qdb,and_true]at hc;exact⟨none,0,[],hc,Rd.nil,qan _,qaj _,by simp⟩
 .simp only[qdb,and_true]at hc;have hle:len<=m:=by rw[hmm];split <;> omega
  have hd:∀i,i<len->∃d:α,(w.cells? base (a.add (i*s)) s=some (encd d))/\Good d:=fun i hi=>by
   obtain⟨cs',h1,h2⟩:=hx i (by omega);obtain⟨d,rfl,hg⟩:=dec _ _ _ h2;exact⟨d,by rw[<-hs];exact h1,hg⟩
  have hlist:∀k,k<=len->∃l:List α,l.length=k/\∀i d,l[i]?=some d->w.cells? base (a.add (i*s)) s=some (encd d)/\Good d:=by
   intro k
   induction k with
   |zero=>intro _;exact⟨[],rfl,fun i d h=>by simp at h⟩
   |succ k ih =>
    intro hk;obtain⟨l,h1,h2⟩:=ih (by omega);obtain⟨d,hd1,hd2⟩:=hd k (by omega);refine⟨l++[d],by simp[h1],fun i d' hi=>?_⟩;rw[List.getElem?_append]at hi
    split at hi
    .exact h2 i d' hi
    .rename_i hlt
     have:i=k:=by
      have:=(qbc.1 hi).1;simp at this;omega
     subst this;rw[h1,qdw]at hi;simp at hi;subst hi;exact⟨hd1,hd2⟩
  obtain⟨l,h1,h2⟩:=hlist len (qan _);subst h1;refine⟨some a,cap,l,hc,⟨fun hne=>?_,fun i d hi j u hu hj=>?_⟩,hl,hm,fun d hd=>?_⟩
  .cases l with
   |nil=>exact absurd rfl hne
   |cons d l =>
    obtain⟨h3,_⟩:=h2 0 d rfl;obtain⟨h4,h5⟩:=TC h3;obtain⟨u,hu⟩:=AA (l:=encd d) (i:=0);have h6:=h5 0 u hu;rw[qds]at h6;have h7:(a.add 0).add 0=a:=by simp[Addr.add]
    rw[h7]at h6;exact⟨a.block,a.off,by rw[<-Q7 h6]⟩
  .obtain⟨h3,_⟩:=h2 i d hi;have h5:=(TC h3).2 j u hu;rw[Go.Deep.add_add]at h5;have h6:=Q7 h5;rw[h6]at h5
   have hblk:∀q,(a.add q).block=a.block/\(a.add q).off=a.off+q:=by
    intro q;unfold Addr.add
    by_cases hq:q=0 <;> simp[hq]
   rw[(hblk _).1,(hblk _).2,<-qcq]at h5;obtain⟨b,o,sp⟩:=a;exact h5
  .obtain⟨i,hi⟩:=qcy hd;exact(h2 i d hi).2
theorem Aev{α:Type}{t e:TypeId}{s:Nat}{v:Value}{d:DataW H}{ps:List MemPlace}{encd:α->List Value}{Good:α->Prop}(ht:P.underlying t=some (.slice e))(hs:P.cellsOf e=s)(dec:∀n cs y,DataW.trod enc P w base spare held n e cs=some y->∃d,cs=encd d/\Good d)(hv:∃a n c,v=.slice a n c)(h:DataW.Trod enc P w base spare held t v d ps)(h0:0<s:=by decide):
  ∃(a:Option Addr) (c:Nat) (l:List α),v=.slice a l.length c/\Rd w a s encd l/\l.length<=c/\c<=maxLen/\(∀d∈l,Good d):=by
 obtain⟨fuel,hf⟩:=h;obtain⟨a,n,c,rfl⟩:=hv;exact rd_of ht hs h0 dec (by simpa[Value.cells]using hf)
end
end Go.GV
