/- Part 3 of the proof. -/
import Derived.Test.YtcpgbcabmcbclaaGreatDoorPart2
import Derived.Lib.Bytealg
import Derived.Laws.Externs
import Derived.Lib.AppendZerosOnto
import Derived.DefersIn
import Derived.Maps.RangeRun
import Derived.Shelf.SlIter.Nil
import Derived.Shelf.SlIter.Sorted
import Derived.StringKeys
import Derived.ProofKit
import Derived.Deep.Slices
import Derived.OpenShut
import Derived.Test.YtcpgbcabmcbclaaGreatDoorProg
import Derived.KernelRfl
set_option maxRecDepth 20000
set_option maxHeartbeats 2000000
namespace Go.GV
open Go
theorem RP:∀a b:List UInt8,Op.bytesLess a b=decide (Lib.compareBytes a b = -1)
 | [],[]=>rfl
 | [],_::_=>rfl
 |_::_,[]=>rfl
 |x::a,y::b=>by
  have ih:=RP a b;unfold Op.bytesLess Lib.compareBytes
  by_cases h:x<y
  .simp[h]
  .by_cases h2:y<x
   .have hne:¬x=y:=fun e=>by subst e;exact UInt8.lt_irrefl x h2
    simp[h,h2,hne]
   .have he:x=y:=UInt8.le_antisymm (UInt8.not_lt.1 h2) (UInt8.not_lt.1 h);subst he;simp[ih]
section
variable {P:Program}{r:Option Nat}{ops rest:List Oper}{Q:Exit->Env->World->Prop}{e:Env}{w w0:World}{S:List Nat}{L:List (Nat × Obj)}{dst:Option Tmp}{ty:TypeId}{pos:String}{af:Array Edge}{g:Option (Nat × Bool)}{C:World->Prop}{K:Env->Prop}
theorem Ud{w:World}{b:Nat}{l:List UInt8}:∀(o:Nat) (acc:List UInt8),(∀j x,l[j]?=some x->w.cell? ⟨b,o+j,none⟩=some (bv x)) ->
  (Extern.Bytes.loadBytes ⟨b,o,none⟩ l.length ⟨acc.toArray⟩).run P w=.ok ⟨(acc++l).toArray⟩ w:=by
 induction l with
 |nil=>intro o acc _;simp[Extern.Bytes.loadBytes]
 |cons x l ih =>
  intro o acc h;have h0:=h 0 x rfl
  have hl:(load ⟨b,o,none⟩:Sem Value).run P w=.ok (bv x) w:=by
   rw[run_load];rw[qc9]at h0;rw[h0]
  rw[qaw];unfold Extern.Bytes.loadBytes;rw[Sem.run_bind,hl,Result.andThen_ok];simp only[bv];have hx:((x.toNat:Int).toNat).toUInt8=x:=by simp
  have hp:(ByteArray.push ⟨acc.toArray⟩ x)=⟨(acc++[x]).toArray⟩:=by simp[ByteArray.push]
  rw[hx,hp]
  have h2:=ih (o+1) (acc++[x]) (fun j y hj=>by
   have:=h (j+1) y (by simpa using hj)
   rw[show o+1+j=o+(j+1)by omega];exact this)
  rw[qa1,List.singleton_append]at h2;exact h2
theorem Qc{w:World}{a:Option Addr}{c:Nat}{l:List UInt8}(R:Rd w a 1 B8 l):(Extern.Bytes.bytesOf (.slice a l.length c)).run P w=.ok ⟨l.toArray⟩ w:=by
 cases a with
 |none =>
  have h0:l=[]:=by
   cases l with
   |nil=>rfl
   |cons x l=>obtain⟨b,o,h⟩:=R.some' (by simp);cases h
  subst h0;rfl
 |some p =>
  cases l with
  |nil=>rfl
  |cons x l =>
   obtain⟨b,o,hp⟩:=R.some' (by simp)
   injection hp with hp
   subst hp
   have h:=Ud (P:=P) (w:=w) (b:=b) (l:=x::l) o [] (fun j y hj=>by
    have:=Rd.one (f:=bv) R hj
    simpa[adr]using this)
   exact h
theorem VT{w:World}{a b:Option Addr}{c d:Nat}{l m:List UInt8}(R:Rd w a 1 B8 l)(R2:Rd w b 1 B8 m) :
  (Extern.BytealgCompare.compare #[.slice a l.length c,.slice b m.length d]).run P w=.ok (.int .i64 (Lib.compareBytes l m)) w:=by
 change Sem.run P (do pure (goInt (Extern.BytealgCompare.cmp (<-Extern.Bytes.bytesOf (.slice a l.length c)) (<-Extern.Bytes.bytesOf (.slice b m.length d))))) w=_
 rw[Sem.run_bind,Qc R,Result.andThen_ok,Sem.run_bind,Qc R2,Result.andThen_ok,Sem.run_pure,Lib.cmp_eq];rfl
theorem Adr{f:FuncId}{args:Array Operand}{ats:Array TypeId}{l:List Value}{v:Value}(hg:AJ ⟨dst,.call ⟨.value (.func f),args,ats⟩,ty,pos,af,g⟩ ops e=true)(hc:(callFunc f l.toArray).run P w=.ok (.value v) w)(ha:args.toList.map (ev e)=l)(h:AB P r ops Q rest (put e dst v) w) :
  AB P r ops Q (⟨dst,.call ⟨.value (.func f),args,ats⟩,ty,pos,af,g⟩::rest) e w:=by
 have:args.map (ev e)=l.toArray:=by subst ha;apply qcd;simp only[qcz]
 exact Bt hg U (by simp[execOp,resolve,ev,Deferred.ofValue,invoke,this,hc]) h
theorem WS{t tn el:TypeId}{kn:IntKind}{x y:Operand}{s by' k:Nat}{zl:List Value}(hg:AJ ⟨dst,.call ⟨.builtin .append,#[x,y],#[t,tn]⟩,ty,pos,af,g⟩ ops e=true)(hu:C2 P t=some el)(hn:P.underlying tn=some (.int kn))(hs:BK P el=some s)(hby:Gc P el=some by')(hz:BV P el=some zl)(hzl:zl.length=s)(hx:ev e x=.slice none 0 0)(hy:ev e y=.int .i64 (k:Int))(H:Ctx w0 S w L)(h:∀b c full w',Ctx w0 S w' ((b,Bl el full)::L)->OS (some ⟨b,0,none⟩) 0 c s full []->k<=c->AB P r ops Q rest (put e dst (.slice (some ⟨b,0,none⟩) k c)) w')(hs0:0<s:=by decide)(h0:0<k:=by omega)(hm:k*by'<=140737488355328:=by omega)(h63:k<=4611686018427387904:=by omega):
  AB P r ops Q (⟨dst,.call ⟨.builtin .append,#[x,y],#[t,tn]⟩,ty,pos,af,g⟩::rest) e w:=by
 obtain⟨i,hi⟩:∃i,P.info? el=some i:=by
  unfold BK at hs
  cases hi:P.info? el with
  |none=>rw[hi]at hs;cases hs
  |some i=>exact⟨i,rfl⟩
 have hsz:i.size=s:=by unfold BK at hs;rw[hi]at hs;exact qbw hs
 have hbz:i.bytes=by':=by unfold Gc at hby;rw[hi]at hby;exact qbw hby
 obtain⟨z,hz0,hz1⟩:∃z,i.zero=some z/\z.cells.toList=zl:=by
  unfold BV at hz;rw[hi]at hz;simp only[qd5]at hz
  cases hz0:i.zero with
  |none=>rw[hz0]at hz;cases hz
  |some z=>rw[hz0]at hz;exact⟨z,rfl,qbw hz⟩
 have hzs:z.cells.size=s:=by rw[<-hzl,<-hz1];simp
 have hr:=Lib.run_append_grow_zeros (P:=P) w t tn ty el i z .i64 kn (Cw hu) hn hi hz0 none 0 0 [] (run_firstCells_none ..) k h0 (by omega) (by omega) (by omega) (by rw[hbz];omega) (growslice_fits (by omega) (by rw[hbz,qa2];exact hm));rw[qa2]at hr;obtain⟨G,hG⟩:=qD (grownCap w k 0 el);have hGk:k<=G:=by rw[hG];exact grownCap_ge w _ _ _
 rw[<-hG]at hr;obtain⟨full,hf⟩:=qD ((#[]++Builtin.zeroCells z.cells k++Builtin.zeroCells z.cells (G - k)).toList:List Value)
 have hlen:full.length=G*s:=by
  have h1:(Builtin.zeroCells z.cells k).size=k*s:=by simp[Builtin.zeroCells,hzs]
  have h2:(Builtin.zeroCells z.cells (G - k)).size=(G - k)*s:=by simp[Builtin.zeroCells,hzs]
  rw[hf,Array.length_toList,Array.size_append,Array.size_append,h1,h2];simp only[Array.size_empty,qa2];rw[<-qco]
  congr 1
  omega
 have hB:(Obj.cells (#[]++Builtin.zeroCells z.cells k++Builtin.zeroCells z.cells (G - k)) el (0,0))=Bl el full:=by rw[Bl,hf]
 have hr2:(Builtin.append_ #[t,tn] ty #[.slice none 0 0,.int .i64 k]).run P w=.ok (.slice (some ⟨w.heap.size,0,none⟩) k G) (w.drew.alloc (Bl el full)):=by rw[<-hB];exact hr
 refine Bt (w':=w.drew.alloc (Bl el full)) (v := .slice (some ⟨w.heap.size,0,none⟩) k G) hg U ?_ (h w.heap.size G full _ (H.drew.alloc _) ⟨fun p hp=>(by cases hp;rfl),fun hh=>(by cases hh),hlen,qak _,(by rw[qd7,qdw])⟩ hGk);simp[execOp,resolve,invoke,builtin,hx,hy,hr2]
theorem Agw{t t2:TypeId}{x y:Operand}{l m:List UInt8}(hg:AJ ⟨dst,.binOp .lss t x y t2,ty,pos,af,g⟩ ops e=true)(hx:ev e x=str l)(hy:ev e y=str m)(h:AB P r ops Q rest (put e dst (.bool (decide (Lib.compareBytes l m = -1)))) w):AB P r ops Q (⟨dst,.binOp .lss t x y t2,ty,pos,af,g⟩::rest) e w :=
 Bt hg rfl (by
  have hq:eqGuard .lss t x y (.string ⟨l.toArray⟩) (.string ⟨m.toArray⟩)=pure ():=rfl
  simp only[execOp,hx,hy,hq,Sem.run_bind,Sem.run_pure,Result.andThen_ok,binOp,str,Op.stringOp,ByteArray.toList_eq,RP]) h
theorem Agx{t t2:TypeId}{x y:Operand}{l m:List UInt8}(hg:AJ ⟨dst,.binOp .geq t x y t2,ty,pos,af,g⟩ ops e=true)(hx:ev e x=str l)(hy:ev e y=str m)(h:AB P r ops Q rest (put e dst (.bool (!decide (Lib.compareBytes l m = -1)))) w):AB P r ops Q (⟨dst,.binOp .geq t x y t2,ty,pos,af,g⟩::rest) e w :=
 Bt hg rfl (by
  have hq:eqGuard .geq t x y (.string ⟨l.toArray⟩) (.string ⟨m.toArray⟩)=pure ():=rfl
  simp only[execOp,hx,hy,hq,Sem.run_bind,Sem.run_pure,Result.andThen_ok,binOp,str,Op.stringOp,ByteArray.toList_eq,RP]) h
end
section
variable {P:Program}{e:Env}{w w0:World}{S:List Nat}{L:List (Nat × Obj)}{fn:Func}{R:Value->World->Prop}
theorem Alk{a s2:Tmp}{t:TypeId}{p:Addr}{v v2:Value}(hr:fn.results=#[.cell a t,.tmp s2])(hd:e.ds=[])(ha:e.g a=.pointer (some p))(hv:(loadVar t p).run P w=.ok v w)(h2:e.g s2=v2)(h:R (.tuple #[v,v2]) w):OR P fn R .ret e w :=
 ⟨hd,fun tmps ht=>by
  have h1:=(ht a).trans ha;have g2:=(ht s2).trans h2;rw[qbt]at h1 g2
  exact⟨.tuple #[v,v2],by simp[results,hr,h1,g2,asAddr,hv],h⟩⟩
theorem All{a s2 s3:Tmp}{t:TypeId}{p:Addr}{v v2 v3:Value}(hr:fn.results=#[.cell a t,.tmp s2,.tmp s3])(hd:e.ds=[])(ha:e.g a=.pointer (some p))(hv:(loadVar t p).run P w=.ok v w)(h2:e.g s2=v2)(h3:e.g s3=v3)(h:R (.tuple #[v,v2,v3]) w):OR P fn R .ret e w :=
 ⟨hd,fun tmps ht=>by
  have h1:=(ht a).trans ha;have g2:=(ht s2).trans h2;have g3:=(ht s3).trans h3;rw[qbt]at h1 g2 g3
  exact⟨.tuple #[v,v2,v3],by simp[results,hr,h1,g2,g3,asAddr,hv],h⟩⟩
theorem Dx{a s2:Tmp}{t t2:TypeId}{b k s:Nat}{l:List Value}{v2:Value}(hr:fn.results=#[.cell a t,.tmp s2])(hd:e.ds=[])(ha:e.g a=.pointer (some ⟨b,0,none⟩))(hag:DV P t=some true)(hs:BK P t=some s)(H:Ctx w0 S w L)(hk:L[k]?=some (b,Bl t2 l))(hl:l.length=s)(h2:e.g s2=v2)(h:R (.tuple #[.agg l.toArray,v2]) w):OR P fn R .ret e w :=
 Alk hr hd ha (JE hag hs hl (fun j v hv=>by rw[Ar (H.get hk),qa2];exact hv)) h2 h
theorem NF{a s2 s3:Tmp}{t t2:TypeId}{b k s:Nat}{l:List Value}{v2 v3:Value}(hr:fn.results=#[.cell a t,.tmp s2,.tmp s3])(hd:e.ds=[])(ha:e.g a=.pointer (some ⟨b,0,none⟩))(hag:DV P t=some true)(hs:BK P t=some s)(H:Ctx w0 S w L)(hk:L[k]?=some (b,Bl t2 l))(hl:l.length=s)(h2:e.g s2=v2)(h3:e.g s3=v3)(h:R (.tuple #[.agg l.toArray,v2,v3]) w):OR P fn R .ret e w :=
 All hr hd ha (JE hag hs hl (fun j v hv=>by rw[Ar (H.get hk),qa2];exact hv)) h2 h3 h
end
section
variable {P:Program}{ops rest:List Oper}{e:Env}{dst:Option Tmp}{ty:TypeId}{pos:String}{af:Array Edge}{g:Option (Nat × Bool)}{C:World->Prop}{K:Env->Prop}
theorem ED{t:TypeId}{parts:Array (Nat × Operand)}{pl:List (Nat × Nat)}{zl:List Value}(l:List Value)(hp:EC P t=some pl)(hz:BV P t=some zl)(h:Wt P ops C K rest (put e dst (.agg l.toArray)))(hg:AJ ⟨dst,.build t parts,ty,pos,af,g⟩ ops e=true:=by exact U)(hl:Instr.fill (fun i=>pl.toArray[i]?) zl.toArray (parts.toList.map fun p=>(p.1,ev e p.2))=some l.toArray:=by kernel_rfl):
  Wt P ops C K (⟨dst,.build t parts,ty,pos,af,g⟩::rest) e:=by
 refine EJ hg (fun w _=>?_) h;have hb:P.built t (parts.map fun(i,x)=>(i,ev e x)).toList=some l.toArray:=WK hp hz (by rw[qcz];exact hl);simp[execOp,run_build w t _ _ hb]
end
section
variable {P:Program}{r:Option Nat}{n:Nat}{ops rest:List Oper}{Q:Exit->Env->World->Prop}{e:Env}{w w0:World}{S:List Nat}{L:List (Nat × Obj)}{dst:Option Tmp}{ty:TypeId}{pos:String}{af:Array Edge}{g:Option (Nat × Bool)}
theorem WT{fo:Operand}{fn:Fn}{ca:Array Value}(hg:AJ ⟨dst,.defer ⟨.value fo,#[],#[]⟩,ty,pos,af,g⟩ ops e=true)(hf:ev e fo=.func fn #[] ca)(h:AB P none ops Q rest (put ⟨e.g,{ target := .fn fn ca,args:=#[] }::e.ds⟩ dst undef) w):AB P none ops Q (⟨dst,.defer ⟨.value fo,#[],#[]⟩,ty,pos,af,g⟩::rest) e w:=by
 unfold AB
 have hrun:(execOp (ev e) ⟨dst,.defer ⟨.value fo,#[],#[]⟩,ty,pos,af,g⟩).run P w=.ok (.defer { target := .fn fn ca,args:=#[] }) w:=by
  simp[execOp,resolve,hf,Deferred.ofValue]
 rw[if_pos hg,Oper.semAt_none,hrun];exact h
def Agy(P:Program)(f:FuncId)(args:Array Value)(w:World)(R:World->Prop):Prop :=
 CallsDIn Fence.wide 0 P f args .returning w fun x u w'=>u=.returning/\∃v,x=.returned v/\R w'
theorem U2{f:FuncId}{fn:Func}{c:Code}{args:Array Value}{R:World->Prop}(hf:P.funcs[f]?=some fn)(hb:fn.body=some c)(l:List Value)(hargs:args=l.toArray)(h:W P none fn.ntmps c (OR P fn fun _ w=>R w) ⟨fun i=>l.getD i undef,[]⟩ w)(hfit:(Nat.ble l.length fn.ntmps && KC fn.ntmps c)=true:=by kernel_rfl):Agy P f args w R:=by
 simp only[qao]at hfit;refine(callsDIn_of_wp (R:=fun x w'=>∃v,x=.returned v/\R w') hf hb trivial ?_).mono fun x u w' hx=>hx;refine wpIn_mono (FN (r:=none) c _ _ w h hfit.2 _ ?_) ?_
 .refine⟨rfl,?_,fun i=>?_⟩
  .subst hargs;have:=qdg hfit.1;simp;omega
  .subst hargs;simp only[qbt,qa8];rw[qeq]
   by_cases hi:i<l.length
   .simp[hi]
   .simp only[qds,if_neg hi];rw[qbz (by omega)];rw[qer]
    split <;> rfl
 .rintro x a' w' ⟨e',hs',hq⟩
  cases x with
  |normal=>exact⟨hs'.1.trans hq.1,let ⟨v,h1,h2⟩:=hq.2 _ hs'.2.2;⟨v,h1,_,rfl,h2⟩⟩
  |ret=>exact⟨hs'.1.trans hq.1,let ⟨v,h1,h2⟩:=hq.2 _ hs'.2.2;⟨v,h1,_,rfl,h2⟩⟩
  |exit id=>exact hq.elim
  |goto l=>exact hq.elim
  |panic c=>exact hq.elim
  |outgrown=>exact hq.elim
def Defs(P:Program):List Deferred->World->(World->Prop)->Prop
 | [],w,K=>K w
 |d::ds,w,K=>∃f ca,d={ target := .fn (.func f) ca,args:=#[] }/\Aw P f=true/\Agy P f ca w fun w'=>Defs P ds w' K
def Agz(P:Program)(fn:Func)(R:Value->World->Prop):Exit->Env->World->Prop
 | .normal,e,w | .ret,e,w=>Defs P e.ds w fun w'=>∀tmps:Array Value,(∀i,tmps.getD i undef=e.g i)->∃v,(results fn tmps).run P w'=.ok v w'/\R v w'
 |_,_,_=>False
theorem Qd{fn:Func}{R:Value->World->Prop}{tmps:Array Value}:∀{ds:List Deferred} {w:World},(Defs P ds w fun w'=>∃v,(results fn tmps).run P w'=.ok v w'/\R v w') ->
  LeavesIn Fence.wide 0 P fn tmps (fun x w'=>∃v,x=.returned v/\R v w') ds .returning w
 | [],w,⟨v,h1,h2⟩=>⟨v,h1,v,rfl,h2⟩
 |d::ds,w,⟨f,ca,h1,h2,h3⟩=>by
  subst h1;refine⟨by simp,(fun h=>by cases h),.func f,ca,f,ca,rfl,?_,fun g _=>trivial,?_⟩
  .show(invoke (.fn (.func f) ca) #[]).run P w=_
   have:(invoke (.fn (.func f) ca) #[]).run P w=(callFunc f (#[]++ca)).run P w:=rfl
   rw[this,GS h2];simp
  .refine CallsDIn.mono (R:=fun x u w'=>u=.returning/\∃v,x=.returned v/\Defs P ds w' fun w'=>∃v,(results fn tmps).run P w'=.ok v w'/\R v w') h3 ?_;rintro x u w' ⟨rfl,v,rfl,h4⟩;exact Qd h4
theorem Defs.mono:∀{ds:List Deferred} {w:World} {K K':World->Prop},(∀w,K w->K' w)->Defs P ds w K->Defs P ds w K'
 | [],_,_,_,h,hk=>h _ hk
 |_::_,_,_,_,h,⟨f,ca,h1,h2,h3⟩=>⟨f,ca,h1,h2,CallsDIn.mono h3 fun _ _ _ hx=>⟨hx.1,let ⟨v,h4,h5⟩:=hx.2;⟨v,h4,Defs.mono h h5⟩⟩⟩
theorem U3{f:FuncId}{fn:Func}{c:Code}{args:Array Value}{R:Value->World->Prop}(hf:P.funcs[f]?=some fn)(hb:fn.body=some c)(l:List Value)(hargs:args=l.toArray)(h:W P none fn.ntmps c (Agz P fn R) ⟨fun i=>l.getD i undef,[]⟩ w)(hfit:(Nat.ble l.length fn.ntmps && KC fn.ntmps c)=true:=by kernel_rfl):Ret P f args w R:=by
 simp only[qao]at hfit;refine callsIn_of_wp_defers hf hb trivial (wpIn_mono (FN (r:=none) c _ _ w h hfit.2 _ ?_) ?_)
 .refine⟨rfl,?_,fun i=>?_⟩
  .subst hargs;have:=qdg hfit.1;simp;omega
  .subst hargs;simp only[qbt,qa8];rw[qeq]
   by_cases hi:i<l.length
   .simp[hi]
   .simp only[qds,if_neg hi];rw[qbz (by omega)];rw[qer]
    split <;> rfl
 .rintro x a' w' ⟨e',hs',hq⟩
  have hgo:∀w',(Defs P e'.ds w' fun w'=>∀tmps:Array Value,(∀i,tmps.getD i undef=e'.g i)->∃v,(results fn tmps).run P w'=.ok v w'/\R v w') ->
    LeavesIn Fence.wide 0 P fn a'.tmps (fun x w'=>∃v,x=.returned v/\R v w') a'.defers .returning w':=fun w' hm=>by
   rw[hs'.1];exact Qd (Defs.mono (fun w hk=>hk _ hs'.2.2) hm)
  cases x with
  |normal=>exact hgo _ hq
  |ret=>exact hgo _ hq
  |exit id=>exact hq.elim
  |goto l=>exact hq.elim
  |panic c=>exact hq.elim
  |outgrown=>exact hq.elim
theorem RQ{fn:Func}{R:Value->World->Prop}{f:FuncId}{ca:Array Value}(hd:e.ds=[{ target := .fn (.func f) ca,args:=#[] }])(hc:Aw P f=true)(K:World->Prop)(h:Agy P f ca w K)(hK:∀w',K w'->∀tmps:Array Value,(∀i,tmps.getD i undef=e.g i)->∃v,(results fn tmps).run P w'=.ok v w'/\R v w'):Agz P fn R .ret e w:=by
 show Defs P e.ds w _;rw[hd];exact⟨f,ca,rfl,hc,CallsDIn.mono h fun x u w' hx=>⟨hx.1,let ⟨v,h4,h5⟩:=hx.2;⟨v,h4,hK w' h5⟩⟩⟩
theorem Qe{fn:Func}{tmps:Array Value}{s a:Tmp}{t:TypeId}{b:Nat}{v v2:Value}{t2:TypeId}{l:List Value}(hr:fn.results=#[.tmp s,.cell a t])(ht:∀i,tmps.getD i undef=e.g i)(h1:e.g s=v)(ha:e.g a=.pointer (some ⟨b,0,none⟩))(hag:DV P t=some false)(hb:w.heap[b]?=some (Bl t2 (v2::l))):(results fn tmps).run P w=.ok (.tuple #[v,v2]) w:=by
 have g1:=(ht s).trans h1;have g2:=(ht a).trans ha;rw[qbt]at g1 g2;have hl:(loadVar t ⟨b,0,none⟩).run P w=.ok v2 w:=Hp hag (by rw[Ar hb];rfl);simp[results,hr,g1,g2,asAddr,hl]
theorem Ads{t el:TypeId}{m s:Nat}{zl:List Value}{ps:List (Nat × Value)}{l:Array Value}(hu:Q8 P t=some (m,el))(hs:BK P el=some s)(hz:BV P t=some zl)(hl:Instr.fill (fun i=>some (i*s,s)) zl.toArray ps=some l):P.built t ps=some l:=by
 unfold BV at hz;unfold Program.built;unfold BK at hs;have hu':=OV hu
 cases hi:P.info? t with
 |none=>rw[hi]at hz;cases hz
 |some it =>
  rw[hi]at hz
  cases hzz:it.zero with
  |none=>simp[hzz]at hz
  |some z =>
   simp only[qd5,hzz,qbc,qbb]at hz;subst hz
   cases hie:P.info? el with
   |none=>rw[hie]at hs;cases hs
   |some ie =>
    rw[hie]at hs;simp only[qbc,qbb]at hs;subst hs;simp only[hu',hzz,hie]
    simpa using hl
theorem Adt{t el:TypeId}{parts:Array (Nat × Operand)}{m s:Nat}{zl:List Value}(l:List Value)(hg:AJ ⟨dst,.build t parts,ty,pos,af,g⟩ ops e=true)(hu:Q8 P t=some (m,el))(hs:BK P el=some s)(hz:BV P t=some zl)(h:AB P r ops Q rest (put e dst (.agg l.toArray)) w)(hl:Instr.fill (fun i=>some (i*s,s)) zl.toArray (parts.toList.map fun p=>(p.1,ev e p.2))=some l.toArray:=by kernel_rfl):
  AB P r ops Q (⟨dst,.build t parts,ty,pos,af,g⟩::rest) e w:=by
 refine Bt hg U ?_ h;have hb:P.built t (parts.map fun(i,x)=>(i,ev e x)).toList=some l.toArray:=Ads hu hs hz (by rw[qcz];exact hl);simp[execOp,run_build w t _ _ hb]
end
section
variable {P:Program}{r:Option Nat}{ops rest:List Oper}{Q:Exit->Env->World->Prop}{e:Env}{w w0:World}{S:List Nat}{L:List (Nat × Obj)}{dst:Option Tmp}{ty:TypeId}{pos:String}{af:Array Edge}{g:Option (Nat × Bool)}
theorem Adu{b:Nat}{t:TypeId}{l:List Value}(h:w.heap[b]?=some (Bl t l))(k:Nat):w.freeze ⟨b,k,none⟩ 1=w.putObj b (.cells l.toArray t (k,k+1)):=by
 have hb:=Al h;unfold World.freeze World.putObj;rw[if_neg (by decide)]
 congr 1
 apply Array.ext_getElem?;intro i;rw[Array.getElem?_modify,Array.getElem?_setIfInBounds]
 by_cases hk:b=i
 .subst hk;rw[if_pos rfl,if_pos rfl,if_pos hb,h];simp[Bl]
 .rw[if_neg hk,if_neg hk]
theorem Ag0{b:Nat}{t:TypeId}{l:List Value}{f:Nat × Nat}(h:w.heap[b]?=some (.cells l.toArray t f))(i:Nat):w.cell? ⟨b,i,none⟩=l[i]? := by
 unfold World.cell?;rw[h];simp
theorem Alm{b:Nat}{t:TypeId}{l:List UInt8}{f:Nat × Nat}(h:w.heap[b]?=some (.cells (l.map bv).toArray t f)):Rd w (some ⟨b,0,none⟩) 1 B8 l:=by
 refine⟨fun _=>⟨b,0,rfl⟩,fun i x hx j v hv hj=>?_⟩;have hj0:j=0:=by omega
 subst hj0;simp only[B8,qc7,qbb]at hv;subst hv;show w.cell? ⟨b,0+i*1+0,none⟩=_;rw[Ag0 h];simp[hx]
theorem FA{t el:TypeId}{x:Operand}{b n c j:Nat}{l:List UInt8}(ht:C2 P t=some el)(he:P.underlying el=some (.int .u8))(hx:ev e x=.slice (some ⟨b,0,none⟩) n c)(H:Ctx w0 S w L)(hk:L[j]?=some (b,Bl el (l.map bv)))(h:∀w',Ctx w0 S w' (L.set j (b,.cells (l.map bv).toArray el (l.length,l.length+1)))->Rd w' (some ⟨b,0,none⟩) 1 B8 l->AB P r ops Q rest (put e dst (.slice (some ⟨b,0,none⟩) n c)) w')(hg:AJ ⟨dst,.convert t t x,ty,pos,af,g⟩ ops e=true:=by exact U):
  AB P r ops Q (⟨dst,.convert t t x,ty,pos,af,g⟩::rest) e w:=by
 have hb:=H.get hk;have H':=H.setB hk (.cells (l.map bv).toArray el (l.length,l.length+1));have hsh:w.shape? b=some (el,l.length):=by rw[Agj hb,qaj]
 refine Bt (w':=w.putObj b (.cells (l.map bv).toArray el (l.length,l.length+1))) hg U ?_ (h _ H' (Alm (Io hb)));simp[execOp,hx,convert,AM (Cw ht),AM he,markStringish,hsh,Adu hb]
theorem Aln{C:World->Prop}{K:Env->Prop}{t t2:TypeId}{x y:Operand}{l m:List UInt8}(hg:AJ ⟨dst,.binOp .neq t x y t2,ty,pos,af,g⟩ ops e=true)(hx:ev e x=str l)(hy:ev e y=str m)(h:Wq P ops C K rest (put e dst (.bool !decide (l=m)))):Wq P ops C K (⟨dst,.binOp .neq t x y t2,ty,pos,af,g⟩::rest) e :=
 GB hg (fun w _=>by
  have hq:eqGuard .neq t x y (.string ⟨l.toArray⟩) (.string ⟨m.toArray⟩)=pure ():=rfl
  simp only[execOp,hx,hy,hq,Sem.run_bind,Sem.run_pure,Result.andThen_ok,binOp,str,Op.stringOp,VQ]) h
end
def kvE(e:MapEntry):Value × Value:=(e.key,e.val)
def kvP(kk:IntKind)(p:Int × Value):Value × Value:=(.int kk p.1,p.2)
def kvD:Value × Value->Int × Value
 |(.int _ n,v)=>(n,v)
 |(_,v)=>(0,v)
theorem Anq(kk:IntKind)(m:List (Int × Value)):(m.map (kvP kk)).map kvD=m:=by
 rw[qbi];exact List.map_id'' (fun _=>rfl) m
def VisO(kk:IntKind)(b:Nat)(m vis:List (Int × Value))(o it:Obj):Prop :=
 ∃(es:Array MapEntry) (clock:Nat) (ves rest:List MapEntry),o=.map es clock/\es.toList.map kvE=m.map (kvP kk)/\(∀e∈es.toList,e.born<clock)/\(es.toList.map (·.born)).Nodup /\
  it=.mapIter (some b) clock (ves.map (·.born)).toArray clock/\(ves++rest).Perm es.toList/\ves.map kvE=vis.map (kvP kk)
theorem VisO.perm{kk:IntKind}{b:Nat}{m vis:List (Int × Value)}{o it:Obj}(h:VisO kk b m vis o it):∃res,(vis++res).Perm m:=by
 obtain⟨es,clock,ves,rest,_,hes,_,_,_,hp,hv⟩:=h;have h1:=(hp.map kvE).map kvD;rw[qaz,qaz,hv,Anq,hes,Anq]at h1;exact⟨_,h1⟩
theorem VisO.le{kk:IntKind}{b:Nat}{m vis:List (Int × Value)}{o it:Obj}(h:VisO kk b m vis o it):vis.length<=m.length:=by
 obtain⟨res,h⟩:=h.perm;have:=h.length_eq;rw[qan]at this;omega
theorem VisO.mem{kk:IntKind}{b:Nat}{m vis:List (Int × Value)}{o it:Obj}(h:VisO kk b m vis o it):∀p∈vis,p∈m:=fun p hp=>by
 obtain⟨res,h⟩:=h.perm;exact h.mem_iff.1 (qa5 _ hp)
section
variable {P:Program}{r:Option Nat}{ops rest:List Oper}{Q:Exit->Env->World->Prop}{e:Env}{w w0:World}{S:List Nat}{L:List (Nat × Obj)}{dst dst2:Option Tmp}{ty ty2:TypeId}{pos pos2:String}{af af2:Array Edge}{g g2:Option (Nat × Bool)}
def EntO(kk:IntKind)(n st:Int)(m:List (Int × Value))(o:Obj):Prop :=
 ∃(es:Array MapEntry) (clock:Nat) (z:Value),o=.map (es.push { key := .int kk n,val:=z,born:=clock }) (clock+1)/\st=(clock:Nat)/\es.toList.map (fun e=>(e.key,e.val))=m.map (fun p=>(Value.int kk p.1,p.2))/\(∀e∈es.toList,e.born<clock)/\(es.toList.map (·.born)).Nodup
end
section
variable {κ:Type}[DecidableEq κ]
def BI{α:Type}(m:List (κ × α))(k:κ):Option α:=(m.find? fun p=>decide (p.1=k)).map (·.2)
def J9{α:Type}:List (κ × α)->κ->α->List (κ × α)
 | [],k,v=>[(k,v)]
 |p::m,k,v=>if p.1=k then(k,v)::m else p::J9 m k v
def Gq{α:Type}:List (κ × α)->κ->List (κ × α)
 | [],_=>[]
 |p::m,k=>if p.1=k then m else p::Gq m k
theorem Pa{α:Type}{k:κ}:∀{m:List (κ × α)},BI m k=none->Gq m k=m
 | [],_=>rfl
 |p::m,h=>by
  have hp:¬p.1=k:=fun hp=>by simp[BI,hp]at h
  have hm2:BI m k=none:=by rw[<-h];simp[BI,hp]
  simp[Gq,hp,Pa hm2]
theorem FQ{α:Type}{k:κ}{v:α}:∀{m:List (κ × α)},BI m k=none->J9 m k v=m++[(k,v)]
 | [],_=>rfl
 |p::m,h=>by
  have hp:¬p.1=k:=fun hp=>by simp[BI,hp]at h
  have hm2:BI m k=none:=by rw[<-h];simp[BI,hp]
  simp[J9,hp,FQ hm2]
end
def En{κ:Type}(V:κ->Value)(m:List (κ × Value))(o:Obj):Prop :=
 ∃es clock,o=.map es clock/\es.toList.map (fun e=>(e.key,e.val))=m.map (fun p=>(V p.1,p.2))/\(∀e∈es.toList,e.born<clock)/\(es.toList.map (·.born)).Nodup
structure NowOk{κ:Type}[DecidableEq κ](P:Program)(k:TypeId)(kd:TypeDesc)(V:κ->Value):Prop where
 und:P.underlying k=some kd
 same:∀x y,Instr.sameNow kd (V x) (V y)=some (decide (x=y))
 check:∀{b:Bool} (v:Value) (w:World) (d:Nat),(Instr.checkKey b (d+1) k v).run P w=.ok () w
 stay:∀(x:κ) (w:World),(Instr.keyThatStays (V x) (V x)).run P w=.ok (V x) w
theorem U4(x y:List UInt8):((⟨x.toArray⟩:ByteArray) == ⟨y.toArray⟩)=decide (x=y):=by
 show(x.toArray == y.toArray)=_;rw[qar,beq_iff_eq,qap];exact⟨fun h=>by have:=qab Array.toList h;simpa using this,fun h=>by rw[h]⟩
theorem Fx{P:Program}{k:TypeId}(h:P.underlying k=some .string):NowOk P k .string str where
 und:=h
 same:=fun x y=>by
  show some ((⟨x.toArray⟩:ByteArray) == ⟨y.toArray⟩)=_;rw[U4]
 check:=fun v w d=>by simp[Instr.checkKey,AM h]
 stay:=fun x w=>by
  have h2:((⟨x.toArray⟩:ByteArray) == ⟨x.toArray⟩)=true:=by rw[U4];exact qal rfl
  simp[Instr.keyThatStays,Instr.sameBits,str,h2]
section
variable {P:Program}{κ:Type}[DecidableEq κ]{k:TypeId}{kd:TypeDesc}{V:κ->Value}
theorem Iw(hK:NowOk P k kd V)(n:κ):∀(es:List MapEntry) (m:List (κ × Value)) (i:Nat),es.map (fun e=>(e.key,e.val))=m.map (fun p=>(V p.1,p.2)) ->
  (BI m n=none->Instr.findNow kd (V n) es i=some none) /\
  (∀v,BI m n=some v->∃j,Instr.findNow kd (V n) es i=some (some (i+j,v))/\j<es.length/\∀(v':Value),(es.modify j fun e=>{ e with key:=V n,val:=v' }).map (fun e=>(e.key,e.val))=(J9 m n v').map (fun p=>(V p.1,p.2))/\((es[j]?).map (·.key))=some (V n) /\
   (es.eraseIdx j).map (fun e=>(e.key,e.val))=(Gq m n).map (fun p=>(V p.1,p.2)))
 | [],m,i,h=>by
  cases m with
  |nil=>exact⟨fun _=>rfl,fun v hv=>by cases hv⟩
  |cons p m=>cases h
 |e::es,m,i,h=>by
  cases m with
  |nil=>cases h
  |cons p m =>
   simp only[qay,qdl,qdb]at h;obtain⟨⟨hk,hv⟩,ht⟩:=h;have ih:=Iw hK n es m (i+1) ht;have hs:Instr.sameNow kd (V n) e.key=some (decide (n=p.1)):=by rw[hk];exact hK.same n p.1
   by_cases hn:p.1=n
   .have hb:decide (n=p.1)=true:=by simp[hn]
    have hg:BI (p::m) n=some p.2:=by simp[BI,hn]
    refine⟨(fun h=>by rw[hg]at h;cases h),fun v hv'=>?_⟩;rw[hg]at hv'
    injection hv' with hv'
    subst hv';refine⟨0,by simp[Instr.findNow,hs,hb,hv],by simp,fun v'=>⟨?_,by simp[hk,hn],?_⟩⟩
    .simp[J9,hn,ht,List.modify]
    .simp[Gq,hn,ht]
   .have hb:decide (n=p.1)=false:=by simpa using Ne.symm hn
    have hg:BI (p::m) n=BI m n:=by simp[BI,hn]
    rw[hg];refine⟨fun h=>by simp[Instr.findNow,hs,hb,ih.1 h],fun v hv'=>?_⟩;obtain⟨j,h1,h2,h3⟩:=ih.2 v hv';refine⟨j+1,by simp[Instr.findNow,hs,hb,h1];omega,by simp;omega,fun v'=>?_⟩;obtain⟨a1,a2,a3⟩:=h3 v';refine⟨?_,by simpa using a2,?_⟩
    .simp only[qfa,qay,J9,if_neg hn,a1,hk,hv]
    .simp only[List.eraseIdx_cons_succ,qay,Gq,if_neg hn,a3,hk,hv]
end
section
variable {P:Program}{r:Option Nat}{ops rest:List Oper}{Q:Exit->Env->World->Prop}{e:Env}{w w0:World}{S:List Nat}{L:List (Nat × Obj)}{dst dst2:Option Tmp}{ty ty2:TypeId}{pos pos2:String}{af af2:Array Edge}{g g2:Option (Nat × Bool)}{κ:Type}[DecidableEq κ]{kd:TypeDesc}{V:κ->Value}
omit [DecidableEq κ] in
theorem KX{t:TypeId}(V:κ->Value)(hg:AJ ⟨dst,.makeMap t none,ty,pos,af,g⟩ ops e=true)(H:Ctx w0 S w L)(h:∀b o w',En V [] o->Ctx w0 S w' ((b,o)::L)->AB P r ops Q rest (put e dst (.map (some b))) w') :
  AB P r ops Q (⟨dst,.makeMap t none,ty,pos,af,g⟩::rest) e w:=by
 refine Bt (w':=w.alloc (.map #[] 0)) (v := .map (some w.heap.size)) hg U ?_ (h _ _ _ ⟨#[],0,rfl,rfl,by simp,by simp⟩ (H.alloc _));simp[execOp,Instr.makeMap,newObj,Sem.run]
theorem RT{t k el:TypeId}{x y:Operand}{b j:Nat}{o:Obj}{m:List (κ × Value)}{n:κ}{z:Value}(hg:AJ ⟨dst,.lookup t x y false,ty,pos,af,g⟩ ops e=true)(ht:IF P t=some (k,el))(hk:NowOk P k kd V)(hz:(P.info? el).bind (·.zero)=some z)(hx:ev e x=.map (some b))(hy:ev e y=V n)(H:Ctx w0 S w L)(hl:L[j]?=some (b,o))(hM:En V m o)(h:AB P r ops Q rest (put e dst ((BI m n).getD z)) w):AB P r ops Q (⟨dst,.lookup t x y false,ty,pos,af,g⟩::rest) e w:=by
 obtain⟨es,clock,rfl,hes,_⟩:=hM;have hb:=H.get hl;have hf:=Iw hk n es.toList m 0 hes;have hgo:(getObj b).run P w=.ok (.map es clock) w:=by simp[getObj,Sem.run,hb]
 have hzr:(zeroValue el).run P w=.ok z w:=by
  cases hi:P.info? el with
  |none=>rw[hi]at hz;cases hz
  |some i=>rw[hi]at hz;simp at hz;simp[zeroValue,typeInfo,program,Sem.run,hi,hz]
 refine Bt hg U ?_ h
 cases hm:BI m n with
 |none=>simp[execOp,Instr.lookup,AM (Fs ht),hx,hy,hgo,hk.check,Instr.findKey,AM hk.und,hf.1 hm,hzr]
 |some v =>
  obtain⟨i,hi,_⟩:=hf.2 v hm;simp[execOp,Instr.lookup,AM (Fs ht),hx,hy,hgo,hk.check,Instr.findKey,AM hk.und,hi]
theorem FR{t k el:TypeId}{x y:Operand}{b j:Nat}{o:Obj}{m:List (κ × Value)}{n:κ}{z:Value}(hg:AJ ⟨dst,.lookup t x y true,ty,pos,af,g⟩ ops e=true)(ht:IF P t=some (k,el))(hk:NowOk P k kd V)(hz:(P.info? el).bind (·.zero)=some z)(hx:ev e x=.map (some b))(hy:ev e y=V n)(H:Ctx w0 S w L)(hl:L[j]?=some (b,o))(hM:En V m o)(h:AB P r ops Q rest (put e dst (.tuple #[(BI m n).getD z,.bool (BI m n).isSome])) w):AB P r ops Q (⟨dst,.lookup t x y true,ty,pos,af,g⟩::rest) e w:=by
 obtain⟨es,clock,rfl,hes,_⟩:=hM;have hb:=H.get hl;have hf:=Iw hk n es.toList m 0 hes;have hgo:(getObj b).run P w=.ok (.map es clock) w:=by simp[getObj,Sem.run,hb]
 have hzr:(zeroValue el).run P w=.ok z w:=by
  cases hi:P.info? el with
  |none=>rw[hi]at hz;cases hz
  |some i=>rw[hi]at hz;simp at hz;simp[zeroValue,typeInfo,program,Sem.run,hi,hz]
 refine Bt hg U ?_ h
 cases hm:BI m n with
 |none=>simp[execOp,Instr.lookup,AM (Fs ht),hx,hy,hgo,hk.check,Instr.findKey,AM hk.und,hf.1 hm,hzr]
 |some v =>
  obtain⟨i,hi,_⟩:=hf.2 v hm;simp[execOp,Instr.lookup,AM (Fs ht),hx,hy,hgo,hk.check,Instr.findKey,AM hk.und,hi]
theorem RU{t k el:TypeId}{b j:Nat}{o:Obj}{m:List (κ × Value)}{n:κ}(v:Value)(ht:IF P t=some (k,el))(hk:NowOk P k kd V)(H:Ctx w0 S w L)(hl:L[j]?=some (b,o))(hM:En V m o) :
  ∃o' w',(Instr.mapUpdate t (.map (some b)) (V n) v).run P w=.ok () w'/\En V (J9 m n v) o'/\Ctx w0 S w' (L.set j (b,o')):=by
 obtain⟨es,clock,rfl,hes,hbn,hnd⟩:=hM;have hb:=H.get hl;have hf:=Iw hk n es.toList m 0 hes;have hgo:(getObj b).run P w=.ok (.map es clock) w:=by simp[getObj,Sem.run,hb]
 have hso:∀o',(setObj b o').run P w=.ok () (w.putObj b o'):=fun o'=>by simp[setObj,Sem.run,hb,World.putObj]
 cases hm:BI m n with
 |none =>
  refine⟨.map (es.push { key:=V n,val:=v,born:=clock }) (clock+1),w.putObj b _,?_,⟨_,_,rfl,?_,?_,?_⟩,H.setB hl _⟩
  .simp[Instr.mapUpdate,AM (Fs ht),hgo,hk.check,Instr.findKey,AM hk.und,hf.1 hm,hso]
  .have hms:J9 m n v=m++[(n,v)]:=FQ hm;rw[hms];simp[hes]
  .intro x hx;simp only[qet,qau,qaa]at hx
   rcases hx with hx|rfl
   .have:=hbn x hx;omega
   .simp
  .simp only[qet,qaz,qay,qbn];rw[qdm];refine⟨hnd,by simp,?_⟩;intro x hx y hy;simp only[qaa]at hy;subst hy;rw[qah]at hx;obtain⟨e',he',rfl⟩:=hx;have:=hbn e' he';omega
 |some v0 =>
  obtain⟨i,hi,hil,h3⟩:=hf.2 v0 hm;obtain⟨a1,a2,_⟩:=h3 v;have hkts:=hk.stay n w
  have hold:((es[i]?).map (·.key)).getD (V n)=V n:=by
   have:es[i]?=es.toList[i]? := by rw[qdi]
   rw[this,a2];rfl
  refine⟨.map (es.modify i fun e=>{ e with key:=V n,val:=v }) clock,w.putObj b _,?_,⟨_,_,rfl,?_,?_,?_⟩,H.setB hl _⟩
  .simp[Instr.mapUpdate,AM (Fs ht),hgo,hk.check,Instr.findKey,AM hk.und,hi,hold,hkts,hso]
  .rw[qdv];exact a1
  .intro x hx;rw[qdv,qcg]at hx;obtain⟨q,hq⟩:=hx;rw[qcq]at hq
   cases hq2:es.toList[q]? with
   |none=>rw[hq2]at hq;simp at hq
   |some y =>
    rw[hq2]at hq;have hy:=hbn y (qad hq2)
    injection hq with hq
    subst hq;dsimp only
    split <;> exact hy
  .rw[qdv]
   have:(es.toList.modify i fun e=>{ e with key:=V n,val:=v }).map (·.born)=es.toList.map (·.born):=by
    apply qci;intro q;rw[qat,qat,qcq]
    cases es.toList[q]? with
    |none=>rfl
    |some y=>show some (Value.map none,(if i=q then _ else y).born).2=some y.born;split <;> rfl
   rw[this];exact hnd
theorem HD{t k el:TypeId}{x y z:Operand}{b j:Nat}{o:Obj}{m:List (κ × Value)}{n:κ}(v:Value)(hg:AJ ⟨dst,.mapUpdate t x y z,ty,pos,af,g⟩ ops e=true)(ht:IF P t=some (k,el))(hk:NowOk P k kd V)(hx:ev e x=.map (some b))(hy:ev e y=V n)(hv:ev e z=v)(H:Ctx w0 S w L)(hl:L[j]?=some (b,o))(hM:En V m o)(h:∀o' w',En V (J9 m n v) o'->Ctx w0 S w' (L.set j (b,o'))->AB P r ops Q rest (put e dst undef) w'):AB P r ops Q (⟨dst,.mapUpdate t x y z,ty,pos,af,g⟩::rest) e w:=by
 obtain⟨o',w',hr,hM',H'⟩:=RU (n:=n) v ht hk H hl hM;exact N8 hg U (by simp[execOp,hx,hy,hv,hr]) (h o' w' hM' H')
theorem WU{t t2 k el ty:TypeId}{b j:Nat}{o:Obj}{m:List (κ × Value)}{n:κ}(ht:IF P t=some (k,el))(hk:NowOk P k kd V)(H:Ctx w0 S w L)(hl:L[j]?=some (b,o))(hM:En V m o) :
  ∃o' w',(Builtin.delete_ #[t,t2] ty #[.map (some b),V n]).run P w=.ok (.tuple #[]) w'/\En V (Gq m n) o'/\Ctx w0 S w' (L.set j (b,o')):=by
 obtain⟨es,clock,rfl,hes,hbn,hnd⟩:=hM;have hb:=H.get hl;have hf:=Iw hk n es.toList m 0 hes;have hgo:(getObj b).run P w=.ok (.map es clock) w:=by simp[getObj,Sem.run,hb]
 have hso:∀o',(setObj b o').run P w=.ok () (w.putObj b o'):=fun o'=>by simp[setObj,Sem.run,hb,World.putObj]
 cases hm:BI m n with
 |none =>
  refine⟨.map es clock,w.putObj b _,?_,⟨_,_,rfl,by rw[Pa hm];exact hes,hbn,hnd⟩,H.setB hl _⟩;simp[Builtin.delete_,AM (Fs ht),hgo,hk.check,Instr.findKey,AM hk.und,hf.1 hm,hso]
 |some v0 =>
  obtain⟨i,hi,hil,h3⟩:=hf.2 v0 hm;obtain⟨_,_,a3⟩:=h3 v0
  have htl:(es.eraseIdxIfInBounds i).toList=es.toList.eraseIdx i:=by
   rw[Array.eraseIdxIfInBounds,dif_pos (by simpa using hil)];simp
  refine⟨.map (es.eraseIdxIfInBounds i) clock,w.putObj b _,?_,⟨_,_,rfl,by rw[htl];exact a3,?_,?_⟩,H.setB hl _⟩
  .simp[Builtin.delete_,AM (Fs ht),hgo,hk.check,Instr.findKey,AM hk.und,hi,hso]
  .intro x hx;rw[htl]at hx;exact hbn x (List.mem_of_mem_eraseIdx hx)
  .rw[htl];exact List.Sublist.nodup (List.Sublist.map _ (List.eraseIdx_sublist ..)) hnd
theorem Z2{t t2 k el:TypeId}{x y:Operand}{b j:Nat}{o:Obj}{m:List (κ × Value)}{n:κ}(hg:AJ ⟨dst,.call ⟨.builtin .delete,#[x,y],#[t,t2]⟩,ty,pos,af,g⟩ ops e=true)(ht:IF P t=some (k,el))(hk:NowOk P k kd V)(hx:ev e x=.map (some b))(hy:ev e y=V n)(H:Ctx w0 S w L)(hl:L[j]?=some (b,o))(hM:En V m o)(h:∀o' w',En V (Gq m n) o'->Ctx w0 S w' (L.set j (b,o'))->AB P r ops Q rest (put e dst (.tuple #[])) w'):AB P r ops Q (⟨dst,.call ⟨.builtin .delete,#[x,y],#[t,t2]⟩,ty,pos,af,g⟩::rest) e w:=by
 obtain⟨o',w',hr,hM',H'⟩:=WU (ty:=ty) (t2:=t2) (n:=n) ht hk H hl hM;exact Bt (w':=w') (v := .tuple #[]) hg U (by simp[execOp,resolve,invoke,builtin,hx,hy,hr]) (h o' w' hM' H')
def EntN(V:κ->Value)(n:κ)(st:Int)(m:List (κ × Value))(o:Obj):Prop :=
 ∃(es:Array MapEntry) (clock:Nat) (z:Value),o=.map (es.push { key:=V n,val:=z,born:=clock }) (clock+1)/\st=(clock:Nat)/\es.toList.map (fun e=>(e.key,e.val))=m.map (fun p=>(V p.1,p.2))/\(∀e∈es.toList,e.born<clock)/\(es.toList.map (·.born)).Nodup
def kvN{κ:Type}(V:κ->Value)(p:κ × Value):Value × Value:=(V p.1,p.2)
def VisN(V:κ->Value)(b:Nat)(m vis:List (κ × Value))(o it:Obj):Prop :=
 ∃(es:Array MapEntry) (clock:Nat) (ves rest:List MapEntry),o=.map es clock/\es.toList.map kvE=m.map (kvN V)/\(∀e∈es.toList,e.born<clock)/\(es.toList.map (·.born)).Nodup /\
  it=.mapIter (some b) clock (ves.map (·.born)).toArray clock/\(ves++rest).Perm es.toList/\ves.map kvE=vis.map (kvN V)
theorem Alo{κ:Type}[Inhabited κ]{V:κ->Value}(hJ:∀x y,V x=V y->x=y):∃U:Value->κ,∀x,U (V x)=x:=by
 refine⟨fun v => @dite _ (∃x,V x=v) (Classical.propDecidable _) (fun h=>Classical.choose h) fun _=>default,fun x=>?_⟩;have h:∃y,V y=V x:=⟨x,rfl⟩;simp only[h,dite_true];exact hJ _ _ (Classical.choose_spec h)
omit [DecidableEq κ] in
theorem VisN.perm[Inhabited κ](hJ:∀x y,V x=V y->x=y){b:Nat}{m vis:List (κ × Value)}{o it:Obj}(h:VisN V b m vis o it):∃res,(vis++res).Perm m:=by
 obtain⟨es,clock,ves,rest,_,hes,_,_,_,hp,hv⟩:=h;obtain⟨U,hU⟩:=Alo hJ
 have hD:∀m:List (κ × Value),(m.map (kvN V)).map (fun q:Value × Value=>(U q.1,q.2))=m:=fun m=>by
  rw[qbi];exact List.map_id'' (fun p=>by show(U (V p.1),p.2)=p;rw[hU]) m
 have h1:=(hp.map kvE).map (fun q:Value × Value=>(U q.1,q.2));rw[qaz,qaz,hv,hD,hes,hD]at h1;exact⟨_,h1⟩
omit [DecidableEq κ] in
theorem VisN.le[Inhabited κ](hJ:∀x y,V x=V y->x=y){b:Nat}{m vis:List (κ × Value)}{o it:Obj}(h:VisN V b m vis o it):vis.length<=m.length:=by
 obtain⟨res,h⟩:=h.perm hJ;have:=h.length_eq;rw[qan]at this;omega
omit [DecidableEq κ] in
theorem VisN.mem[Inhabited κ](hJ:∀x y,V x=V y->x=y){b:Nat}{m vis:List (κ × Value)}{o it:Obj}(h:VisN V b m vis o it):∀p∈vis,p∈m:=fun p hp=>by
 obtain⟨res,h⟩:=h.perm hJ;exact h.mem_iff.1 (qa5 _ hp)
end
open Go Go.Maps Go.WideElems Go.RowKit Go.WideShapes
theorem Abl{x y:List UInt8}(h:str x=str y):x=y:=by simpa[str]using h
theorem Qf{P:Program}{k:TypeId}(hk:P.underlying k=some .string){w:World}{b:Nat}{m:List (List UInt8 × Value)}{o:Obj}(hb:w.heap[b]?=some o)(hM:En str m o)(nd:(m.map (·.1)).Nodup)(hsz:m.length<=maxLen)(hr:∀p∈m,p.1.length<=maxLen) :
  ∃D0:DataW Unit,w.ownsMap P k KE b m.length D0/\(strKeys D0).Perm (m.map (·.1))/\Maps.size D0=m.length:=by
 obtain⟨es,clock,rfl,hes,hborn,hnd⟩:=hM
 have hlen:es.toList.length=m.length:=by
  have:=qab List.length hes
  simpa using this
 have hkeys:es.toList.map (·.key)=m.map fun p=>str p.1:=by
  have:=qab (List.map Prod.fst) hes
  simpa[qbi,qcr]using this
 have hwf:∀x∈es.toList,∃a:List UInt8,x.key=str a/\keyOf P k x.key=some (.string a):=fun x hx=>by
  have h1:x.key∈es.toList.map (·.key):=qah.2 ⟨x,hx,rfl⟩;rw[hkeys,qah]at h1;obtain⟨p,hp,h2⟩:=h1;refine⟨p.1,h2.symm,?_⟩;rw[<-h2];have h3:=WideMaps.keyOf_string_mk hk (s:=⟨p.1.toArray⟩) (by show p.1.toArray.size<=maxLen;rw[qds];exact hr p hp)
  simpa[str]using h3
 have F:Fit P k KE es clock:=by
  refine⟨by rw[show es.size=es.toList.length by simp,hlen];exact hsz,⟨hborn,hnd,?_⟩,fun x hx=>?_⟩
  .rw[hkeys,qdo,qbs];rw[qdo,qbs]at nd;exact nd.imp fun h he=>h (Abl he)
  .obtain⟨a,_,h3⟩:=hwf x hx;exact⟨(.string a,.nil),by simp[rd,h3,KE]⟩
 have hrg:es.toList.map (rg P k KE)=(m.map fun p=>(Lit.string p.1,(DataW.nil:DataW Unit))):=by
  refine qci fun i=>?_;rw[qat,qat];have hki:=qab (fun l:List Value=>l[i]?) hkeys;simp only[qat]at hki
  cases hx:es.toList[i]? with
  |none =>
   rw[hx]at hki
   cases hm:m[i]? with
   |none=>rfl
   |some p=>rw[hm]at hki;cases hki
  |some x =>
   rw[hx]at hki
   cases hm:m[i]? with
   |none=>rw[hm]at hki;cases hki
   |some p =>
    rw[hm]at hki;obtain⟨a,h1,h3⟩:=hwf x (qad hx);have h2:x.key=str p.1:=qbw hki;obtain rfl:a=p.1:=Abl (h1.symm.trans h2);show some (rg P k KE x)=some _;rw[rg_of (y:=(.string p.1,.nil)) (by simp[rd,h3,KE])]
 refine⟨.map ((es.toList.map (rg P k KE)).foldr DataW.insert []),⟨es,clock,hb,F,by rw[show es.size=es.toList.length by simp,hlen];exact qae _,rfl⟩,?_,?_⟩
 .show(((es.toList.map (rg P k KE)).foldr DataW.insert []).map fun p=>Go.strOf p.1).Perm _;refine((sorted_perm _).map _).trans ?_;rw[hrg,qbi];exact List.Perm.of_eq (qc0 fun p _=>rfl)
 .show((es.toList.map (rg P k KE)).foldr DataW.insert []).length=_;rw[(sorted_perm _).length_eq,qaj,hlen]
theorem Qg{w:World}{base:Nat}{e:TypeId}{v:Value}{xs:List (List UInt8)}{n:Nat}(hn:n=xs.length)(h:w.ownsRow base e 1 v n (xs.map str)) :
  ∃a c,v=.slice a xs.length c/\Rd w a 1 (fun x:List UInt8=>[str x]) xs/\xs.length<=c/\(xs=[]\/base<=(adr a).block):=by
 subst hn
 rcases h.2 with⟨rfl,hz⟩|⟨g,cap,cur,rfl,hbase,hg,hcap,_,hsz,hpre⟩
 .have:xs=[]:=qa4 hz
  subst this;exact⟨none,0,rfl,Rd.nil,qae _,.inl rfl⟩
 .refine⟨_,cap,rfl,?_,hcap,.inr hbase⟩
  have hO:OS (some ⟨g,0,none⟩) xs.length cap 1 cur.toList (xs.map str) :=
   ⟨fun p hp=>(by cases hp;rfl),fun hp=>(by cases hp),by simpa using hsz,hcap,hpre⟩
  exact hO.rd1 (t:=e) fun x hx=>by
   rw[LW rfl,qaa]at hx;subst hx;show w.heap[g]?=some (.cells cur.toList.toArray e (0,0));rw[Array.toArray_toList];exact hg
abbrev Mt:=Nat->Prop
structure Grw(M M':Mt)(w w':World):Prop where
 ext:∃S,(∀x∈S,M x\/w.heap.size<=x)/\Ext S w w'
 new:∀x,M' x->M x\/w.heap.size<=x
theorem Grw.to{M M':Mt}{w w':World}(g:Grw M M' w w'){b:Nat}{o:Obj}(hb:w.heap[b]?=some o)(hn:¬M b):w'.heap[b]?=some o:=by
 obtain⟨S,hS,hx⟩:=g.ext;have hl:=Al hb;rw[hx.block b hl fun h=>by rcases hS b h with h|h;exact hn h;omega];exact hb
theorem Grw.size{M M':Mt}{w w':World}(g:Grw M M' w w'):w.heap.size<=w'.heap.size:=let ⟨_,_,hx⟩:=g.ext;hx.size
theorem Grw.not{M M':Mt}{w w':World}(g:Grw M M' w w'){b:Nat}(hb:b<w.heap.size)(hn:¬M b):¬M' b:=fun h=>by
 rcases g.new b h with h|h
 .exact hn h
 .omega
theorem Grw.call{M M':Mt}{w0 w w':World}(h:Ext [] w0 w)(_:∀x,M x->x<w0.heap.size)(g:Grw M M' w w'):Grw M M' w0 w':=by
 obtain⟨S,hS,hx⟩:=g.ext;have hs:=h.size;exact⟨⟨S,fun x hm=>(hS x hm).imp id fun h=>by omega,(h.mono (by simp)).trans hx⟩,fun x hm=>(g.new x hm).imp id fun h=>by omega⟩
def IterOk(P:Program)(gf:FuncId)(ca:Array Value)(Z:List Nat)(K:Mt->World->Prop)(xs:List (List Value)):Prop :=
 ∀(l:Nat) (w:World) (J:Nat->Mt->World->Prop) (E:World->Prop),(∃M,J 0 M w)->(∀i M w' w'',J i M w'->Ext Z w' w''->J i M w'')->(∀w' w'',E w'->Ext Z w' w''->E w'')->(∀i M w',J i M w'->(∀x,M x->x<w'.heap.size)/\K M w') ->
  (∀i v M w',xs[i]?=some v->J i M w'->YieldAt P l v w' fun u w''=>(u=.bool true/\∃M',J (i+1) M' w''/\Grw M M' w' w'')\/(u=.bool false/\E w'')) ->
  Ret P gf (#[.func (.yield l) #[] #[]]++ca) w fun _ w'=>(∃M,J xs.length M w')\/E w'
section
variable {P:Program}{Q:Exit->Env->World->Prop}{e:Env}{w:World}{n:Nat}
def putsP(e:Env)(l:List (Tmp × Value)):Env:=l.foldl (fun e p=>put e (some p.1) p.2) e
def Qbody(D l:Nat)(J1:Mt->World->Prop)(E:World->Prop)(M:Mt)(w wB:World):Exit->Env->World->Prop
 | .normal,_,w3=>∃M',J1 M' w3/\(∀x,M' x->M x\/w.heap.size<=x)/\∃S,Ext S wB w3/\∀x∈S,M x\/w.heap.size<=x
 | .ret,_,w3=>E w3/\∃S,Ext S wB w3/\D∉S/\l∉S
 |_,_,_=>False
def Qassign(P:Program)(D l n:Nat)(body:Code)(J1:Mt->World->Prop)(E:World->Prop)(M:Mt)(w:World):Exit->Env->World->Prop
 | .normal,e,w1=>Ext [] w w1/\∀wB,Ext [l] w1 wB->W P (some l) n body (Qbody D l J1 E M w wB) e wB
 |_,_,_=>False
theorem Ext.to{S:List Nat}{w w':World}(h:Ext S w w'){b:Nat}{o:Obj}(hb:w.heap[b]?=some o)(hn:b∉S):w'.heap[b]?=some o:=by
 rw[h.block b (Al hb) hn];exact hb
end
section
variable {P:Program}{ops rest:List Oper}{e:Env}{C:World->Prop}{K:Env->Prop}{dst:Option Tmp}{ty:TypeId}{pos:String}{af:Array Edge}{g:Option (Nat × Bool)}{κ:Type}[DecidableEq κ]{k:TypeId}{kd:TypeDesc}{V:κ->Value}
theorem WV{t el:TypeId}{b:Nat}{w:World}{o:Obj}{m:List (κ × Value)}(n:κ){z:Value}(ok:Bool)(ht:IF P t=some (k,el))(hk:NowOk P k kd V)(hz:(P.info? el).bind (·.zero)=some z)(hb:w.heap[b]?=some o)(hM:En V m o) :
  (Instr.lookup t (.map (some b)) (V n) ok).run P w=.ok (if ok=true then .tuple #[(BI m n).getD z,.bool (BI m n).isSome]else(BI m n).getD z) w:=by
 obtain⟨es,clock,rfl,hes,_⟩:=hM;have hf:=Iw hk n es.toList m 0 hes;have hgo:(getObj b).run P w=.ok (.map es clock) w:=by simp[getObj,Sem.run,hb]
 have hzr:(zeroValue el).run P w=.ok z w:=by
  cases hi:P.info? el with
  |none=>rw[hi]at hz;cases hz
  |some i=>rw[hi]at hz;simp at hz;simp[zeroValue,typeInfo,program,Sem.run,hi,hz]
 cases hm:BI m n with
 |none=>cases ok <;> simp[Instr.lookup,AM (Fs ht),hgo,hk.check,Instr.findKey,AM hk.und,hf.1 hm,hzr]
 |some v =>
  obtain⟨i,hi,_⟩:=hf.2 v hm;cases ok <;> simp[Instr.lookup,AM (Fs ht),hgo,hk.check,Instr.findKey,AM hk.und,hi]
theorem WW{t el:TypeId}{x y:Operand}{b:Nat}{o:Obj}{m:List (κ × Value)}(n:κ){z:Value}(hg:AJ ⟨dst,.lookup t x y true,ty,pos,af,g⟩ ops e=true)(ht:IF P t=some (k,el))(hk:NowOk P k kd V)(hz:(P.info? el).bind (·.zero)=some z)(hx:ev e x=.map (some b))(hy:ev e y=V n)(hb:∀w,C w->w.heap[b]?=some o)(hM:En V m o)(h:Wq P ops C K rest (put e dst (.tuple #[(BI m n).getD z,.bool (BI m n).isSome]))):Wq P ops C K (⟨dst,.lookup t x y true,ty,pos,af,g⟩::rest) e :=
 GB hg (fun w hw=>by simp[execOp,hx,hy,WV n true ht hk hz (hb w hw) hM]) h
omit [DecidableEq κ] in
theorem U5{r:Option Nat}{Q:Exit->Env->World->Prop}{w w0:World}{S:List Nat}{L:List (Nat × Obj)}{t k el:TypeId}{x:Operand}{b j:Nat}{o:Obj}{m:List (κ × Value)}(hg:AJ ⟨dst,.call ⟨.builtin .clear,#[x],#[t]⟩,ty,pos,af,g⟩ ops e=true)(ht:IF P t=some (k,el))(hx:ev e x=.map (some b))(H:Ctx w0 S w L)(hl:L[j]?=some (b,o))(hM:En V m o)(h:∀o' w',En V [] o'->Ctx w0 S w' (L.set j (b,o'))->AB P r ops Q rest (put e dst (.tuple #[])) w') :
  AB P r ops Q (⟨dst,.call ⟨.builtin .clear,#[x],#[t]⟩,ty,pos,af,g⟩::rest) e w:=by
 obtain⟨es,clock,rfl,_⟩:=hM;have hb:=H.get hl;have hgo:(getObj b).run P w=.ok (.map es clock) w:=by simp[getObj,Sem.run,hb]
 have hso:(setObj b (.map #[] clock)).run P w=.ok () (w.putObj b (.map #[] clock)):=by simp[setObj,Sem.run,hb,World.putObj]
 refine Bt (w':=w.putObj b (.map #[] clock)) (v := .tuple #[]) hg U ?_ (h _ _ ⟨#[],clock,rfl,rfl,by simp,by simp⟩ (H.setB hl _));simp[execOp,resolve,invoke,builtin,hx,Builtin.clear_,AM (Fs ht),hgo,hso]
end
section
variable {P:Program}{r:Option Nat}{ops rest:List Oper}{Q:Exit->Env->World->Prop}{e:Env}{w:World}{dst:Option Tmp}{ty:TypeId}{pos:String}{af:Array Edge}{g:Option (Nat × Bool)}{C:World->Prop}{K:Env->Prop}{t t2:TypeId}{x y:Operand}{a b n:Nat}
end
open Go Go.ChangeShapes Go.WideShapes Go.RowKit
theorem Ext.below{w w':World}(h:Ext [] w w'):Below w.heap.size w w':=⟨h.os,h.tape,h.output,h.size,fun k hk=>h.block k hk (by simp)⟩
section
variable {H:Type}{enc:TypeId × Value->H}{P:Program}{w:World}{base:Nat}{spare:Nat->Bool}{held:Bool}
theorem KY:∀{ts:List TypeId} {vs:List Value} {ds:List (DataW H)} {ps:List MemPlace},DataW.TrodAll enc P w base spare held ts vs ds ps->ds.length=ts.length
 | [],vs,ds,ps,h=>by obtain⟨_,rfl,_⟩:=trodAll_nil h;rfl
 |t::ts,vs,ds,ps,h=>by
  obtain⟨v,vs',d,ds',p,q,rfl,rfl,rfl,_,hr⟩:=trodAll_cons h;simp[KY hr]
theorem MJ{W W':World}{sp':Nat->Bool}(hl:laidOutB P=true)(hsp:∀b,b<W.heap.size->sp' b=true)(hb:Below W.heap.size W W') :
  ∀{ts:List TypeId} {vs:List Value} {ds:List (DataW H)} {ps:List MemPlace},(∀t∈ts,P.readableRec t=true/\t<P.types.size)->(∀x∈ps,x.block<W.heap.size) ->
   DataW.TrodAll enc P W 0 (fun _=>true) true ts vs ds ps->DataW.TrodAll enc P W' 0 sp' true ts vs ds ps
 | [],vs,ds,ps,_,_,h=>by obtain⟨rfl,rfl,rfl⟩:=trodAll_nil h;rfl
 |t::ts,vs,ds,ps,hr,hp,h=>by
  obtain⟨v,vs',d,ds',p,q,rfl,rfl,rfl,h0,h1⟩:=trodAll_cons h;refine⟨p,q,WideElems.Trod_stays hl (hr t (by simp)).1 (hr t (by simp)).2 h0 (fun x hx=>hb.same (hp x (by simp[hx]))) (fun x hx=>hsp _ (hp x (by simp[hx]))),?_,rfl⟩;exact MJ hl hsp hb (fun t ht=>hr t (by simp[ht])) (fun x hx=>hp x (by simp[hx])) h1
theorem Ag1{f:Func}{s:ChangeSpec}{W W':World}{args:Array Value}{ds gs:List (DataW H)}{before:List MemPlace}{tb:TypeId}(hl:laidOutB P=true)(hv:s.vars=[])(hres:f.resultTypes=#[tb])(htb:P.underlying tb=some .bool)(hs:∀ds:List (DataW H),ds.length=f.params.size->s.fn H ds={ results:=[.lit (.bool true)],args:=ds })(hW:DataW.Whole enc P f.params.toList s.vars false W args.toList ds gs before)(hx:Ext [] W W')(hr:(f.params.toList.all fun t=>P.readableRec t && decide (t<P.types.size))=true:=by kernel_rfl):s.post enc P f false true false false W args (.bool true) W':=by
 have hW':=hW;obtain⟨p,q,hA,hV,rfl,_,_⟩:=hW;rw[hv]at hV;obtain⟨rfl,rfl⟩:=trodVars_none hV;have hlen:ds.length=f.params.size:=by rw[KY hA];simp
 refine⟨ds,[],p++[],[],p,[],hW',?_,?_,?_,hx.below.frame _,fun h=>by cases h⟩
 .rw[qa3,hs ds hlen,hres];exact trodAll_mk1 ⟨1,by simp[DataW.trod,Value.cells,htb]⟩
 .rw[qa3,hs ds hlen];refine MJ hl (fun b hb=>by simpa using hb) hx.below (fun t ht=>?_) (fun x hxp=>?_) hA
  .have:=qb0.1 hr t ht
   simpa using this
  .exact hW'.lt x (by simp[hxp])
 .rw[hv,qa3,hs ds hlen];rfl
theorem Ma{k:IntKind}{n:Int}(h:(Lit.int k n).wf=true):k.min<=n/\n<=k.max:=by
 simpa[Lit.wf]using h
theorem WX{fuel:Nat}{t:TypeId}{cs:List Value}{x:DataW H × List MemPlace}{fs:Array Field}(ht:P.underlying t=some (.struct fs))(h:DataW.trod enc P w base spare held fuel t cs=some x)(i:Nat)(f:Field)(hf:fs[i]?=some f) :
  ∃n y,DataW.trod enc P w base spare held n f.type ((cs.drop f.offset).take (P.cellsOf f.type))=some y:=by
 obtain⟨xs,n,_,_,_,hl,hx⟩:=DataW.trod_struct ht h;have h1:=hx i f hf;have hi:i<xs.length:=by rw[hl];exact(qe8.1 hf).1
 rw[qbd hi]at h1;exact⟨n,_,h1⟩
theorem U6{fuel:Nat}{t:TypeId}{cs:List Value}{x:DataW H × List MemPlace}{fs:Array Field}(ht:P.underlying t=some (.struct fs))(h:DataW.trod enc P w base spare held fuel t cs=some x):cs.length=P.cellsOf t:=by
 obtain⟨xs,n,_,_,hl,_,_⟩:=DataW.trod_struct ht h;exact hl
theorem RW{l:List Value}{o m:Nat}{v:Value}(h:(l.drop o).take m=[v]):l[o]?=some v:=by
 have h1:((l.drop o).take m)[0]?=some v:=by rw[h];rfl
 rw[qdt]at h1
 split at h1
 .rw[qcm]at h1;simpa using h1
 .cases h1
theorem Alp{fuel:Nat}{t u:TypeId}{cs:List Value}{x:DataW H × List MemPlace}{fs:Array Field}{k:IntKind}(ht:P.underlying t=some (.struct fs))(h:DataW.trod enc P w base spare held fuel t cs=some x)(i o:Nat)(hf:(fs[i]?.map fun f=>(f.type,f.offset))=some (u,o))(hu:P.underlying u=some (.int k)):∃n,cs[o]?=some (.int k n)/\k.min<=n/\n<=k.max:=by
 cases he:fs[i]? with
 |none=>rw[he]at hf;cases hf
 |some f =>
  rw[he]at hf;simp only[qbc,qbb,qdb]at hf;obtain⟨rfl,rfl⟩:=hf;obtain⟨n,y,hy⟩:=WX ht h i f he;obtain⟨m,h1,_,h2⟩:=DataW.trod_int hu hy;exact⟨m,RW h1,Ma h2⟩
theorem WY{fuel:Nat}{t u:TypeId}{cs:List Value}{x:DataW H × List MemPlace}{fs:Array Field}(ht:P.underlying t=some (.struct fs))(h:DataW.trod enc P w base spare held fuel t cs=some x)(i o:Nat)(hf:(fs[i]?.map fun f=>(f.type,f.offset))=some (u,o))(hu:P.underlying u=some .bool):∃b,cs[o]?=some (.bool b):=by
 cases he:fs[i]? with
 |none=>rw[he]at hf;cases hf
 |some f =>
  rw[he]at hf;simp only[qbc,qbb,qdb]at hf;obtain⟨rfl,rfl⟩:=hf;obtain⟨n,y,hy⟩:=WX ht h i f he;obtain⟨b,h1,_⟩:=DataW.trod_bool hu hy;exact⟨b,RW h1⟩
theorem WZ{a:Addr}{n:Nat}{cs:List Value}(h:w.cells? base a n=some cs):cs.length=n/\∀j v,cs[j]?=some v->w.cell? (a.add j)=some v:=by
 unfold World.cells? at h
 split at h
 .have h1:∀(l:List Nat) (cs:List Value),l.mapM (fun i=>w.cell? (a.add i))=some cs->cs.length=l.length/\∀(j i:Nat) (v:Value),l[j]?=some i->cs[j]?=some v->w.cell? (a.add i)=some v:=by
   intro l
   induction l with
   |nil=>intro cs h;simp at h;subst h;exact⟨rfl,fun j i v h=>by simp at h⟩
   |cons k l ih =>
    intro cs h;rw[List.mapM_cons]at h;obtain⟨v,hv,h⟩:=Option.bind_eq_some_iff.1 h;obtain⟨cs',hcs,h⟩:=Option.bind_eq_some_iff.1 h;simp only[Option.pure_def,qbb]at h;subst h;obtain⟨h1,h2⟩:=ih cs' hcs;refine⟨by simp[h1],fun j i u hi hu=>?_⟩
    cases j with
    |zero=>simp at hi hu;subst hi hu;exact hv
    |succ j=>exact h2 j i u (by simpa using hi) (by simpa using hu)
  obtain⟨h2,h3⟩:=h1 _ _ h;refine⟨by simpa using h2,fun j v hv=>h3 j j v ?_ hv⟩
  have:j<cs.length:=(qaq.1 hv).1
  rw[qdu (by rw[h2]at this;simpa using this)]
 .cases h
theorem U7{a:Addr}{v:Value}(h:w.cell? a=some v):a=⟨a.block,a.off,none⟩:=by
 unfold World.cell? at h
 split at h
 .split at h
  .cases h
  .rename_i hs
   obtain⟨b,o,s⟩:=a
   cases s with
   |none=>rfl
   |some x=>simp at hs
 .cases h
theorem Abm{e:TypeId}{k:IntKind}(he:P.underlying e=some (.int k)):∀n cs y,DataW.trod enc P w base spare held n e cs=some y->∃d:Int,cs=[Value.int k d]/\(k.min<=d/\d<=k.max):=by
 intro n cs y h;obtain⟨m,h1,_,h2⟩:=DataW.trod_int he h;exact⟨m,h1,Ma h2⟩
end
open Go Go.ChangeShapes Go.WideShapes
section
variable {P:Program}{H:Type}{enc:TypeId × Value->H}{w:World}{base:Nat}{spare:Nat->Bool}{held:Bool}
def Light(P:Program)(t:TypeId)(d:DataW H):Prop:=∀x∈d.weights P t,x<=reachBytes
theorem RX{e:TypeId}{l:List (DataW H)}{d:DataW H}(h:d∈l):∀x∈d.weights P e,x∈DataW.weightsAll P e l:=by
 induction l with
 |nil=>cases h
 |cons y l ih =>
  intro x hx;unfold DataW.weightsAll
  rcases qac.1 h with rfl|h
  .exact qa5 _ hx
  .exact qax _ (ih h x hx)
theorem Ia:∀{ts:List TypeId} {l:List (DataW H)} {i:Nat} {t:TypeId} {d:DataW H},ts[i]?=some t->l[i]?=some d->∀x∈d.weights P t,x∈DataW.weightsEach P ts l
 | [],_,i,_,_,h,_=>by simp at h
 |_::_,[],i,_,_,_,h=>by simp at h
 |t::ts,d::l,0,_,_,h1,h2=>by
  simp only[qc7,qbb]at h1 h2;subst h1 h2;intro x hx;unfold DataW.weightsEach;exact qa5 _ hx
 |t::ts,d::l,i+1,_,_,h1,h2=>by
  intro x hx;unfold DataW.weightsEach;exact qax _ (Ia (by simpa using h1) (by simpa using h2) x hx)
theorem Light.elems{t e:TypeId}{es sp:List (DataW H)}(ht:P.underlying t=some (.slice e))(h:Light P t (.slice es sp)):es.length*P.bytesOf e<=reachBytes/\∀d∈es,Light P e d:=by
 unfold Light at h;unfold DataW.weights at h;rw[ht]at h;refine⟨?_,fun d hd x hx=>h x (qai _ (qa5 _ (RX hd x hx)))⟩;have h1:=h _ (qaf ..);rw[qco]at h1;omega
theorem Light.part{t:TypeId}{fs:Array Field}{ps:List (DataW H)}(ht:P.underlying t=some (.struct fs))(h:Light P t (.agg ps)){i:Nat}{f:Field}{d:DataW H}(hf:fs[i]?=some f)(hd:ps[i]?=some d):Light P f.type d:=by
 intro x hx;refine h x ?_;unfold DataW.weights;rw[ht];exact Ia (ts:=fs.toList.map (·.type)) (i:=i) (by rw[qat,qdi,hf];rfl) hd x hx
theorem Xb{ts:List TypeId}{ds:List (DataW H)}(h:((DataW.weightsEach P ts ds).all fun x=>decide (x<=reachBytes))=true){i:Nat}{t:TypeId}{d:DataW H}(ht:ts[i]?=some t)(hd:ds[i]?=some d):Light P t d :=
 fun x hx=>qb5 (qb0.1 h x (Ia ht hd x hx))
theorem Ag2{α:Type}{t e:TypeId}{s fuel:Nat}{cs:List Value}{x:DataW H × List MemPlace}{encd:α->List Value}{Good:α->Prop}(ht:P.underlying t=some (.slice e))(hs:P.cellsOf e=s)(h0:0<s)(dec:∀n cs y,DataW.trod enc P w base spare held n e cs=some y->Light P e y.1->∃d,cs=encd d/\Good d)(h:DataW.trod enc P w base spare held fuel t cs=some x)(hL:Light P t x.1) :
  ∃(a:Option Addr) (c:Nat) (l:List α),cs=[.slice a l.length c]/\Rd w a s encd l/\l.length<=c/\c<=maxLen/\l.length*P.bytesOf e<=reachBytes/\(∀d∈l,Good d):=by
 rcases Go.Deep.open_slice ht h with⟨hc,hx⟩|⟨a,len,cap,m,n,D,Pl,hc,_,hl,hm,hmm,rfl,hx⟩
 .exact⟨none,0,[],hc,Rd.nil,qae _,qak _,by simp,by simp⟩
 .have hle:len<=m:=by rw[hmm];split <;> omega
  obtain⟨hb,hLe⟩:=hL.elems ht;rw[qaj,List.length_range]at hb
  have hd:∀i,i<len->∃d:α,(w.cells? base (a.add (i*s)) s=some (encd d))/\Good d:=fun i hi=>by
   obtain⟨cs',h1,h2⟩:=hx i (by omega);obtain⟨d,rfl,hg⟩:=dec _ _ _ h2 (hLe _ (qah.2 ⟨i,qdc.2 hi,rfl⟩));exact⟨d,by rw[<-hs];exact h1,hg⟩
  have hlist:∀k,k<=len->∃l:List α,l.length=k/\∀i d,l[i]?=some d->w.cells? base (a.add (i*s)) s=some (encd d)/\Good d:=by
   intro k
   induction k with
   |zero=>intro _;exact⟨[],rfl,fun i d h=>by simp at h⟩
   |succ k ih =>
    intro hk;obtain⟨l,h1,h2⟩:=ih (by omega);obtain⟨d,hd1,hd2⟩:=hd k (by omega);refine⟨l++[d],by simp[h1],fun i d' hi=>?_⟩;rw[List.getElem?_append]at hi
    split at hi
    .exact h2 i d' hi
    .rename_i hlt
     have:i=k:=by
      have:=(qaq.1 hi).1;simp at this;omega
     subst this;rw[h1,qc1]at hi;simp at hi;subst hi;exact⟨hd1,hd2⟩
  obtain⟨l,h1,h2⟩:=hlist len (qae _);subst h1;refine⟨some a,cap,l,hc,⟨fun hne=>?_,fun i d hi j u hu hj=>?_⟩,hl,hm,hb,fun d hd=>?_⟩
  .cases l with
   |nil=>exact absurd rfl hne
   |cons d l =>
    obtain⟨h3,_⟩:=h2 0 d rfl;obtain⟨h4,h5⟩:=WZ h3;obtain⟨u,hu⟩:=AO (l:=encd d) (i:=0);have h6:=h5 0 u hu;rw[qd7]at h6;have h7:(a.add 0).add 0=a:=by simp[Addr.add]
    rw[h7]at h6;exact⟨a.block,a.off,by rw[<-U7 h6]⟩
  .obtain⟨h3,_⟩:=h2 i d hi;have h5:=(WZ h3).2 j u hu;rw[Go.Deep.add_add]at h5;have h6:=U7 h5;rw[h6]at h5
   have hblk:∀q,(a.add q).block=a.block/\(a.add q).off=a.off+q:=by
    intro q;unfold Addr.add
    by_cases hq:q=0 <;> simp[hq]
   rw[(hblk _).1,(hblk _).2,<-qcl]at h5;obtain⟨b,o,sp⟩:=a;exact h5
  .obtain⟨i,hi⟩:=List.getElem?_of_mem hd;exact(h2 i d hi).2
theorem Xc{α:Type}{t e:TypeId}{s:Nat}{v:Value}{d:DataW H}{ps:List MemPlace}{encd:α->List Value}{Good:α->Prop}(ht:P.underlying t=some (.slice e))(hs:P.cellsOf e=s)(dec:∀n cs y,DataW.trod enc P w base spare held n e cs=some y->Light P e y.1->∃d,cs=encd d/\Good d)(hv:∃a n c,v=.slice a n c)(h:DataW.Trod enc P w base spare held t v d ps)(hL:Light P t d)(h0:0<s:=by decide):
  ∃(a:Option Addr) (c:Nat) (l:List α),v=.slice a l.length c/\Rd w a s encd l/\l.length<=c/\c<=maxLen/\l.length*P.bytesOf e<=reachBytes/\(∀d∈l,Good d):=by
 obtain⟨fuel,hf⟩:=h;obtain⟨a,n,c,rfl⟩:=hv;obtain⟨a',c',l,h1,h2⟩:=Ag2 ht hs h0 dec (x:=(d,ps)) (by simpa[Value.cells]using hf) hL;simp only[qdl,and_true]at h1;exact⟨a',c',l,h1,h2⟩
theorem Mc{α:Type}{fuel:Nat}{t u e:TypeId}{s:Nat}{cs:List Value}{x:DataW H × List MemPlace}{fs:Array Field}{encd:α->List Value}{Good:α->Prop}(ht:P.underlying t=some (.struct fs))(h:DataW.trod enc P w base spare held fuel t cs=some x)(hL:Light P t x.1)(i o:Nat)(hf:(fs[i]?.map fun f=>(f.type,f.offset))=some (u,o))(hu:P.underlying u=some (.slice e))(hc:P.cellsOf u=1)(hs:P.cellsOf e=s)(dec:∀n cs y,DataW.trod enc P w base spare held n e cs=some y->Light P e y.1->∃d,cs=encd d/\Good d)(h0:0<s:=by decide):
  ∃(a:Option Addr) (c:Nat) (l:List α),cs[o]?=some (.slice a l.length c)/\Rd w a s encd l/\l.length<=c/\c<=maxLen/\l.length*P.bytesOf e<=reachBytes/\(∀d∈l,Good d):=by
 cases he:fs[i]? with
 |none=>rw[he]at hf;cases hf
 |some f =>
  rw[he]at hf;simp only[qbc,qbb,qdb]at hf;obtain⟨rfl,rfl⟩:=hf;obtain⟨xs,n,_,hx,_,hl,hxs⟩:=DataW.trod_struct ht h;have h1:=hxs i f he;have hi:i<xs.length:=by rw[hl];exact(qe8.1 he).1
  rw[qbd hi]at h1;rw[hx]at hL;have hL':Light P f.type xs[i].1:=hL.part ht he (by rw[qat,qbd hi];rfl);obtain⟨a,c,l,h2,h3⟩:=Ag2 hu hs h0 dec h1 hL';rw[hc]at h2;exact⟨a,c,l,RW h2,h3⟩
end
end Go.GV
namespace Go.Proofs.YtcpgbcabmcbclaaGreatDoor
open Go.GV Go.Proofs.Tryz
theorem Pb:DV prog 117=some true:=by kernel_rfl
theorem Gd:DV prog 143=some false:=by kernel_rfl
theorem Pd:DV prog 146=some false:=by kernel_rfl
theorem Aor:DV prog 179=some false:=by kernel_rfl
theorem BT:DV prog 181=some false:=by kernel_rfl
theorem BQ:DV prog 183=some true:=by kernel_rfl
theorem Ds:DV prog 185=some true:=by kernel_rfl
theorem RY:DV prog 186=some false:=by kernel_rfl
theorem B4:DV prog 24=some false:=by kernel_rfl
theorem Dn:DV prog 27=some false:=by kernel_rfl
theorem EW:DV prog 28=some false:=by kernel_rfl
theorem DW:DV prog 3=some false:=by kernel_rfl
theorem Fc:DV prog 31=some false:=by kernel_rfl
theorem JJ:DV prog 36=some false:=by kernel_rfl
theorem U8:DV prog 39=some false:=by kernel_rfl
theorem Gf:DV prog 4=some false:=by kernel_rfl
theorem IJ:DV prog 40=some false:=by kernel_rfl
theorem ag_42:DV prog 42=some true:=by kernel_rfl
theorem ag_46:DV prog 46=some false:=by kernel_rfl
theorem QA:DV prog 5=some false:=by kernel_rfl
theorem RZ:DV prog 56=some true:=by kernel_rfl
theorem Ag3:DV prog 68=some true:=by kernel_rfl
theorem U9:DV prog 69=some false:=by kernel_rfl
theorem Sc:DV prog 70=some false:=by kernel_rfl
theorem GC:DV prog 74=some false:=by kernel_rfl
theorem Abn:DV prog 76=some true:=by kernel_rfl
theorem MK:DV prog 81=some false:=by kernel_rfl
theorem K3:DV prog 89=some false:=by kernel_rfl
theorem ag_9:DV prog 9=some false:=by kernel_rfl
theorem JK:DV prog 90=some false:=by kernel_rfl
theorem ML:DV prog 91=some false:=by kernel_rfl
theorem Abo:DV prog 92=some false:=by kernel_rfl
theorem Pe:Q8 prog 163=some (512,5):=by kernel_rfl
theorem Km:Q8 prog 258=some (2,181):=by kernel_rfl
theorem Aos:Gc prog 146=some 1:=by kernel_rfl
theorem Z3:Gc prog 183=some 32:=by kernel_rfl
theorem Kn:Gc prog 185=some 56:=by kernel_rfl
theorem Ag4:Gc prog 24=some 24:=by kernel_rfl
theorem by_3:Gc prog 3=some 8:=by kernel_rfl
theorem Pf:Gc prog 5=some 1:=by kernel_rfl
theorem Abp:Gc prog 56=some 56:=by kernel_rfl
theorem Qh:Gc prog 68=some 48:=by kernel_rfl
abbrev qC:List Nat:=[7,8,9,10,11,12,13,15,16,17,18,19,20,21,23,24,25,26,27,28,29,30,31,32,33,34,35,36,37,39,40,42,43,44,45,46,47,48,49,50,51,52,54,59,60,64,65,66,67,68,69,70,71,72,73,74,75,76,78,80,81,82,83,84,85,86,87,88,89,90,91,92,93,94,95,96,97,98,99,100,101,105,106,107,108,109,110,111,112,113,114,115,116,117,118,119,120,121,122,123,124,125,126,127,128,129,130,131,132,138,139,140,141,142,144,145,146,147,148,149,150,151,152,155,156,157,158,171,175,176,177,178,179,180,181,182,201,202,203,210,211]
theorem qB{f:Nat}(h:qC.any (Nat.beq f)=true:=by exact U):Aw prog f=true:=by obtain⟨g,h,e⟩:=List.any_eq_true.1 h;rw[Nat.eq_of_beq_eq_true e];exact List.all_eq_true.1 (show qC.all (Aw prog)=true by kernel_rfl) g h
theorem Si:C2 prog 107=some 9:=by kernel_rfl
theorem Pg:C2 prog 131=some 46:=by kernel_rfl
theorem EP:C2 prog 143=some 146:=by kernel_rfl
theorem Bw:C2 prog 181=some 185:=by kernel_rfl
theorem EQ:C2 prog 190=some 183:=by kernel_rfl
theorem Qj:C2 prog 23=some 42:=by kernel_rfl
theorem IL:C2 prog 238=some 181:=by kernel_rfl
theorem AX:C2 prog 24=some 5:=by kernel_rfl
theorem Cv:C2 prog 36=some 68:=by kernel_rfl
theorem CD:C2 prog 39=some 56:=by kernel_rfl
theorem FB:C2 prog 40=some 3:=by kernel_rfl
theorem EX:C2 prog 69=some 24:=by kernel_rfl
theorem IM:BH prog 117 0=some 0:=by kernel_rfl
theorem Ah2:BH prog 117 1=some 1:=by kernel_rfl
theorem NI:BH prog 124 0=some 0:=by kernel_rfl
theorem Ah3:BH prog 124 1=some 1:=by kernel_rfl
theorem NJ:BH prog 124 2=some 2:=by kernel_rfl
theorem NK:BH prog 124 3=some 3:=by kernel_rfl
theorem KZ:BH prog 124 4=some 4:=by kernel_rfl
theorem Lc:BH prog 124 5=some 5:=by kernel_rfl
theorem Xl:BH prog 124 6=some 6:=by kernel_rfl
theorem DY:BH prog 145 0=some 0:=by kernel_rfl
theorem Xn:BH prog 162 0=some 0:=by kernel_rfl
theorem Ld:BH prog 162 1=some 1:=by kernel_rfl
theorem Xo:BH prog 162 2=some 2:=by kernel_rfl
theorem DD:BH prog 183 0=some 0:=by kernel_rfl
theorem Br:BH prog 183 1=some 1:=by kernel_rfl
theorem FC:BH prog 185 0=some 0:=by kernel_rfl
theorem Le:BH prog 185 1=some 1:=by kernel_rfl
theorem Gg:BH prog 185 2=some 2:=by kernel_rfl
theorem JL:BH prog 188 0=some 0:=by kernel_rfl
theorem Sj:BH prog 188 1=some 1:=by kernel_rfl
theorem Sk:BH prog 188 2=some 2:=by kernel_rfl
theorem Md:BH prog 38 0=some 0:=by kernel_rfl
theorem Abu:BH prog 38 1=some 1:=by kernel_rfl
theorem Alq:BH prog 42 0=some 0:=by kernel_rfl
theorem Me:BH prog 42 1=some 1:=by kernel_rfl
theorem Alr:BH prog 42 2=some 2:=by kernel_rfl
theorem Abv:BH prog 42 3=some 3:=by kernel_rfl
theorem FT:BH prog 56 0=some 0:=by kernel_rfl
theorem FU:BH prog 56 1=some 1:=by kernel_rfl
theorem Jp:BH prog 56 2=some 2:=by kernel_rfl
theorem FV:BH prog 68 0=some 0:=by kernel_rfl
theorem Jq:BH prog 68 1=some 1:=by kernel_rfl
theorem NL:BH prog 72 0=some 0:=by kernel_rfl
theorem Ko:BH prog 72 1=some 1:=by kernel_rfl
theorem NM:BH prog 72 2=some 2:=by kernel_rfl
theorem Mf:BH prog 72 3=some 3:=by kernel_rfl
theorem Abw:BH prog 76 0=some 0:=by kernel_rfl
theorem NN:BH prog 76 1=some 1:=by kernel_rfl
theorem Kp:BH prog 76 2=some 2:=by kernel_rfl
theorem QH:BH prog 94 0=some 0:=by kernel_rfl
theorem Mg:BH prog 94 1=some 1:=by kernel_rfl
theorem Js:BH prog 94 2=some 2:=by kernel_rfl
theorem Kq:BH prog 94 3=some 3:=by kernel_rfl
theorem QI:BH prog 94 4=some 4:=by kernel_rfl
theorem Jt:BH prog 94 5=some 5:=by kernel_rfl
theorem HF:BH prog 94 6=some 6:=by kernel_rfl
theorem QJ:BH prog 94 7=some 7:=by kernel_rfl
theorem Mh:BH prog 94 8=some 8:=by kernel_rfl
theorem Abx:BH prog 94 9=some 9:=by kernel_rfl
theorem mixed:Tryz.prog.follows .mixedOrders=true:=by kernel_rfl
theorem Sl:IF prog 199=some (3,3):=by kernel_rfl
theorem UC:IF prog 70=some (3,69):=by kernel_rfl
theorem NO:IF prog 91=some (9,24):=by kernel_rfl
theorem Sn:IF prog 92=some (9,3):=by kernel_rfl
theorem VW:EC prog 117=some [(0,1),(1,1)]:=by kernel_rfl
theorem Apl:EC prog 124=some [(0,1),(1,1),(2,1),(3,1),(4,1),(5,1),(6,1)]:=by kernel_rfl
theorem Apm:EC prog 145=some [(0,1)]:=by kernel_rfl
theorem Apn:EC prog 162=some [(0,1),(1,1),(2,1)]:=by kernel_rfl
theorem Ha:EC prog 183=some [(0,1),(1,1)]:=by kernel_rfl
theorem Nc:EC prog 185=some [(0,1),(1,1),(2,1)]:=by kernel_rfl
theorem Ah4:EC prog 188=some [(0,1),(1,1),(2,1)]:=by kernel_rfl
theorem Aob:EC prog 38=some [(0,1),(1,1)]:=by kernel_rfl
theorem Qk:EC prog 56=some [(0,1),(1,1),(2,1)]:=by kernel_rfl
theorem UD:EC prog 68=some [(0,1),(1,1)]:=by kernel_rfl
theorem pl_72:EC prog 72=some [(0,1),(1,1),(2,1),(3,1)]:=by kernel_rfl
theorem Ah5:EC prog 76=some [(0,1),(1,1),(2,1)]:=by kernel_rfl
theorem pl_94:EC prog 94=some [(0,1),(1,1),(2,1),(3,1),(4,1),(5,1),(6,1),(7,1),(8,1),(9,1)]:=by kernel_rfl
theorem Hu:BK prog 117=some 2:=by kernel_rfl
theorem Ep:BK prog 146=some 1:=by kernel_rfl
theorem CP:BK prog 181=some 1:=by kernel_rfl
theorem Bh:BK prog 183=some 2:=by kernel_rfl
theorem Bm:BK prog 185=some 3:=by kernel_rfl
theorem Ah6:BK prog 186=some 1:=by kernel_rfl
theorem Gh:BK prog 24=some 1:=by kernel_rfl
theorem Apo:BK prog 258=some 2:=by kernel_rfl
theorem Ga:BK prog 28=some 1:=by kernel_rfl
theorem Hv:BK prog 3=some 1:=by kernel_rfl
theorem Ah7:BK prog 31=some 1:=by kernel_rfl
theorem UE:BK prog 36=some 1:=by kernel_rfl
theorem Ah8:BK prog 4=some 1:=by kernel_rfl
theorem Sq:BK prog 40=some 1:=by kernel_rfl
theorem Ql:BK prog 42=some 4:=by kernel_rfl
theorem Xp:BK prog 46=some 1:=by kernel_rfl
theorem CT:BK prog 5=some 1:=by kernel_rfl
theorem CQ:BK prog 56=some 3:=by kernel_rfl
theorem Dq:BK prog 68=some 2:=by kernel_rfl
theorem sz_69:BK prog 69=some 1:=by kernel_rfl
theorem Xq:BK prog 74=some 1:=by kernel_rfl
theorem NP:BK prog 76=some 3:=by kernel_rfl
theorem Aoc:BK prog 81=some 1:=by kernel_rfl
theorem sz_89:BK prog 89=some 1:=by kernel_rfl
theorem sz_9:BK prog 9=some 1:=by kernel_rfl
theorem sz_90:BK prog 90=some 1:=by kernel_rfl
theorem ZE:Tryz.prog.underlying 164=some (.int .u32):=by kernel_rfl
theorem un_22:Tryz.prog.underlying 22=some (.int .u16):=by kernel_rfl
theorem MM:Tryz.prog.underlying 27=some (.pointer 72):=by kernel_rfl
theorem Ge:Tryz.prog.underlying 3=some (.int .i64):=by kernel_rfl
theorem Ss:Tryz.prog.underlying 31=some (.pointer 94):=by kernel_rfl
theorem GR:Tryz.prog.underlying 5=some (.int .u8):=by kernel_rfl
theorem Aod:Tryz.prog.underlying 54=some (.int .u64):=by kernel_rfl
theorem Hn:Tryz.prog.underlying 74=some (.int .u64):=by kernel_rfl
theorem Aby:Tryz.prog.underlying 81=some (.pointer 124):=by kernel_rfl
theorem St:Tryz.prog.underlying 89=some (.pointer 145):=by kernel_rfl
theorem F7:Tryz.prog.underlying 9=some (.string):=by kernel_rfl
theorem Aoe:Tryz.prog.underlying 90=some (.pointer 162):=by kernel_rfl
theorem Lf:BV prog 117=some ([.int .u64 0,.slice none 0 0]):=by kernel_rfl
theorem App:BV prog 124=some ([.pointer none,.int .i64 0,.int .i64 0,.int .i64 0,.int .u64 0,.int .i64 0,.bool false]):=by kernel_rfl
theorem Apq:BV prog 145=some ([.slice none 0 0]):=by kernel_rfl
theorem Apr:BV prog 146=some ([.int .u8 0]):=by kernel_rfl
theorem Aps:BV prog 162=some ([.pointer none,.pointer none,.int .i64 0]):=by kernel_rfl
theorem Apt:BV prog 163=some (List.replicate 512 (.int .u8 0:Value)):=by kernel_rfl
theorem Nf:BV prog 181=some ([.slice none 0 0]):=by kernel_rfl
theorem Cl:BV prog 183=some ([.bool false,.slice none 0 0]):=by kernel_rfl
theorem C3:BV prog 185=some ([.slice none 0 0,.slice none 0 0,.int .i64 0]):=by kernel_rfl
theorem Ah9:BV prog 186=some ([.pointer none]):=by kernel_rfl
theorem Aia:BV prog 188=some ([.pointer none,.slice none 0 0,.slice none 0 0]):=by kernel_rfl
theorem UF:BV prog 24=some ([.slice none 0 0]):=by kernel_rfl
theorem Aib:BV prog 258=some ([.slice none 0 0,.slice none 0 0]):=by kernel_rfl
theorem Xr:BV prog 28=some ([.int .i64 0]):=by kernel_rfl
theorem ZF:BV prog 3=some ([.int .i64 0]):=by kernel_rfl
theorem Aic:BV prog 31=some ([.pointer none]):=by kernel_rfl
theorem zc_36:BV prog 36=some ([.slice none 0 0]):=by kernel_rfl
theorem Aof:BV prog 38=some ([.slice none 0 0,.int .i64 0]):=by kernel_rfl
theorem zc_40:BV prog 40=some ([.slice none 0 0]):=by kernel_rfl
theorem zc_42:BV prog 42=some ([.int .i64 0,.slice none 0 0,.bool false,.slice none 0 0]):=by kernel_rfl
theorem Abz:BV prog 46=some ([.nilFunc]):=by kernel_rfl
theorem IP:BV prog 5=some ([.int .u8 0]):=by kernel_rfl
theorem Fy:BV prog 56=some ([.slice none 0 0,.slice none 0 0,.bool false]):=by kernel_rfl
theorem FD:BV prog 68=some ([.slice none 0 0,.slice none 0 0]):=by kernel_rfl
theorem zc_69:BV prog 69=some ([.slice none 0 0]):=by kernel_rfl
theorem zc_72:BV prog 72=some ([.slice none 0 0,.map none,.int .i64 0,.bool false]):=by kernel_rfl
theorem zc_74:BV prog 74=some ([.int .u64 0]):=by kernel_rfl
theorem Su:BV prog 76=some ([.int .i64 0,.int .i64 0,.int .u64 0]):=by kernel_rfl
theorem zc_94:BV prog 94=some ([.pointer none,.pointer none,.pointer none,.pointer none,.int .u64 0,.int .i64 0,.map none,.map none,.int .i64 0,.bool false]):=by kernel_rfl
theorem Sw:(Tryz.prog.info? 24).bind (·.zero)=some (.slice none 0 0):=by kernel_rfl
theorem zv_3:(Tryz.prog.info? 3).bind (·.zero)=some (.int .i64 0):=by kernel_rfl
theorem Aid:(Tryz.prog.info? 69).bind (·.zero)=some (.slice none 0 0):=by kernel_rfl
def Sz:BitVec 32:=0xedb88320#32
def Lg(w:BitVec 32):BitVec 32:=(w >>> 1) ^^^ (if w.getLsbD 0 then Sz else 0#32)
def Als(x:BitVec 32):BitVec 32:=if x.getLsbD 31 then((x ^^^ Sz) <<< 1) ||| 1#32 else x <<< 1
def Df:Nat->BitVec 32->BitVec 32
 |0,w=>w
 |n+1,w=>Df n (Lg w)
def Xs:Nat->BitVec 32->BitVec 32
 |0,w=>w
 |n+1,w=>Als (Xs n w)
def FE(c:UInt8):BitVec 32:=BitVec.ofNat 32 c.toNat
def MN(w:BitVec 32)(c:UInt8):BitVec 32:=Df 8 (w ^^^ FE c)
def Aog(s:BitVec 32)(l:List UInt8):BitVec 32 := ~~~ (l.foldl MN (~~~ s))
def VX(l:List UInt8):BitVec 32:=Aog 0#32 l
theorem Aie(a b:BitVec 32):Lg (a ^^^ b)=Lg a ^^^ Lg b:=by
 unfold Lg;rw[BitVec.getLsbD_xor,BitVec.ushiftRight_xor_distrib];cases a.getLsbD 0 <;> cases b.getLsbD 0 <;> simp only[Bool.xor_false,Bool.xor_true,Bool.not_true,Bool.not_false,if_true,qdn,if_false,BitVec.xor_zero]
 .ac_rfl
 .ac_rfl
 .rw[show a >>> 1 ^^^ Sz ^^^ (b >>> 1 ^^^ Sz)=a >>> 1 ^^^ b >>> 1 ^^^ (Sz ^^^ Sz)by ac_rfl,BitVec.xor_self,BitVec.xor_zero]
theorem Ph:∀(n:Nat) (a b:BitVec 32),Df n (a ^^^ b)=Df n a ^^^ Df n b
 |0,_,_=>rfl
 |n+1,a,b=>by simp only[Df];rw[Aie,Ph n]
theorem Iz:∀(m n:Nat) (w:BitVec 32),Df n (Df m w)=Df (m+n) w
 |0,n,w=>by simp[Df]
 |m+1,n,w=>by rw[Nat.succ_add];simp only[Df];exact Iz m n _
theorem Adv:FE 0=0#32:=rfl
def xorL:List UInt8->List UInt8->List UInt8
 |a::l,b::m=>(a ^^^ b)::xorL l m
 |_,_=>[]
theorem take_zero(w:BitVec 32):MN w 0=Df 8 w:=by rw[MN,Adv,BitVec.xor_zero]
theorem UG:∀(n:Nat) (w:BitVec 32),(∀i,i<n->w.getLsbD i=false)->Df n w=w >>> n
 |0,w,_=>by simp[Df]
 |n+1,w,h=>by
  have h0:Lg w=w >>> 1:=by
   unfold Lg;rw[h 0 (by omega)];simp
  simp only[Df];rw[h0,UG n (w >>> 1) (fun i hi=>by rw[BitVec.getLsbD_ushiftRight];exact h _ (by omega)),<-BitVec.shiftRight_add,Nat.add_comm 1 n]
theorem VY(c:UInt8)(n:Nat)(hn:n<=24:=by omega):Df n (FE c <<< n)=FE c:=by
 rw[UG n _ (fun i hi=>by simp[BitVec.getLsbD_shiftLeft,hi])];have hc:c.toNat<256:=c.toNat_lt;apply BitVec.eq_of_toNat_eq;unfold FE;rw[BitVec.toNat_ushiftRight,BitVec.toNat_shiftLeft,BitVec.toNat_ofNat,qa9 (by omega:c.toNat<2 ^ 32),Nat.shiftLeft_eq]
 have h1:c.toNat*2 ^ n<2 ^ 32:=by
  have h2:2 ^ n<=2 ^ 24:=qc2 (by omega) hn
  calc c.toNat*2 ^ n<=255*2 ^ 24:=Nat.mul_le_mul (by omega) h2
   _<2 ^ 32:=by decide
 rw[qa9 h1,Nat.shiftRight_eq_div_pow,Nat.mul_div_cancel _ (Nat.two_pow_pos n)]
def Aoh(a b c d:UInt8):BitVec 32:=FE a ^^^ (FE b <<< 8) ^^^ (FE c <<< 16) ^^^ (FE d <<< 24)
theorem four(w:BitVec 32)(a b c d:UInt8):[a,b,c,d].foldl MN w=Df 32 (w ^^^ Aoh a b c d):=by
 have ha:Df 32 (FE a)=Df 32 (FE a):=rfl
 have hb:Df 24 (FE b)=Df 32 (FE b <<< 8):=by
  rw[<-Iz 8 24,VY b 8]
 have hc:Df 16 (FE c)=Df 32 (FE c <<< 16):=by
  rw[<-Iz 16 16,VY c 16]
 have hd:Df 8 (FE d)=Df 32 (FE d <<< 24):=by
  rw[<-Iz 24 8,VY d 24]
 simp only[qdk,List.foldl_nil,MN,Ph,Iz];rw[hb,hc,hd,show 8+(8+(8+8))=32 from rfl];simp only[Aoh,Ph]
 ac_rfl
def burstB(o v:Nat):Bool:=(Xs 32 (BitVec.ofNat 32 v)).toNat % 2 ^ o == 0
attribute [local irreducible] AB W Wq
theorem HG(b:UInt8):b.toNat<256:=b.toNat_lt
theorem NQ(w:BitVec 32):w.toNat<4294967296:=w.isLt
theorem Aoi(s:BitVec 32):4294967295 ^^^ s.toNat=(~~~s).toNat:=by
 rw[<-BitVec.allOnes_xor,BitVec.toNat_xor,BitVec.toNat_allOnes]
theorem Aif(c:UInt8):(FE c).toNat=c.toNat:=by
 have:=HG c;unfold FE;rw[BitVec.toNat_ofNat,qa9 (by omega)]
theorem xor_b(w:BitVec 32)(c:UInt8):w.toNat ^^^ c.toNat=(w ^^^ FE c).toNat:=by
 rw[BitVec.toNat_xor,Aif]
theorem Alt(w:BitVec 32):w.getLsbD 0=decide (w.toNat % 2=1):=by
 rw[BitVec.getLsbD,Nat.testBit_zero]
theorem Aig(w:BitVec 32):(w.toNat / 2) ^^^ (if w.toNat % 2=1 then 3988292384 else 0)=(Lg w).toNat:=by
 unfold Lg;rw[BitVec.toNat_xor,BitVec.toNat_ushiftRight,Nat.shiftRight_eq_div_pow,Alt]
 by_cases h:w.toNat % 2=1
 .simp[h,Sz]
 .simp[h]
theorem Adw(w:BitVec 32):(w.toNat / 2 ^ 1) ^^^ ((3988292384*(w.toNat &&& 1)) % 4294967296)=(Lg w).toNat:=by
 rw[<-Aig,Nat.and_one_is_mod]
 by_cases h:w.toNat % 2=1
 .simp[h]
 .have h0:w.toNat % 2=0:=by omega
  simp[h0]
theorem ZG(n:Nat)(w:BitVec 32):Lg (Df n w)=Df (n+1) w:=by
 rw[<-Iz n 1];rfl
theorem Alu(s:BitVec 32)(a:Option Addr)(c:Nat)(l:List UInt8)(w:World)(R:Rd w a 1 B8 l)(hm:l.length<=9223372036854775807) :
  Ret prog 140 #[.int .u32 (s.toNat:Int),.slice a l.length c] w fun v w'=>v=.int .u32 ((Aog s l).toNat:Int)/\w=w':=by
 have hs:=NQ s;refine A6 (fn:=f140) func140 U [.int .u32 (s.toNat:Int),.slice a l.length c] U (Ad (Ac U (qA (Ad (Ae U (RG U U ?_))))));rw[Aoi];refine Ac U (qA (Aq (Ad (Aj U (AP AX U (Ae U (qA (AE (B7 1073737888 (α:=Nat) (fun k=>[(12,.int .i64 k),(5,.int .u32 (((l.take k).foldl MN (~~~s)).toNat:Int))]) (fun k w'=>k<=l.length/\w=w') (fun k=>l.length - k) 0 U ?_ ?_ ?_)))))))))
 .exact⟨rfl,rfl,trivial⟩
 .exact⟨qak _,rfl⟩
 .rintro k j _ ⟨hk,rfl⟩;refine Ad (Bn U U (qA (Aq (Au _ U ?_ ?_))))
  .intro h1;replace h1:=AV h1;obtain⟨x,hx⟩:=AO (l:=l) (i:=k);have hxb:=HG x;have hw:=NQ ((l.take k).foldl MN (~~~s));generalize hv:(l.take k).foldl MN (~~~s)=v at hw;refine Ap (Aa (Aq (AE (Ad (AY R AX CT U U (hn:=by rfl) ?_)))));refine Be QA U (R.one (f:=bv) hx) (Ac U (qA (Ad (Ae U (Ae U (PX U U GR ZE ?_))))));refine RE U U U ?_;rw[xor_b];refine Ac U (qA (Ad (Ae U (qA (AE (B7 535822368 (α:=Nat) (fun i=>[(20,.int .i64 i),(5,.int .u32 ((Df i (v ^^^ FE x)).toNat:Int))]) (fun i w'=>i<=8/\w=w') (fun i=>8 - i) 0 U ?_ ?_ ?_))))))
   .exact⟨rfl,rfl,trivial⟩
   .exact⟨qak _,rfl⟩
   .rintro i j _ ⟨hi,rfl⟩;have hu:=NQ (Df i (v ^^^ FE x));generalize hz:Df i (v ^^^ FE x)=z at hu;refine Ad (Bn U U (qA (Aq (Au _ U ?_ ?_))))
    .intro h2;replace h2:=AV h2;refine Ap (Aa (Aq (AE (Av (Ae U (RF (n:=1) U U U ?_))))));refine Ae U (Zr (b:=1) U U U ?_);refine WM (a:=3988292384) U U U (RE U U U ?_);rw[Adw];refine Ac U (Ab (AF (Aa (Av (A7 U U ?_)))));refine Ae U (qA ?_);exact⟨i+1,rfl,⟨rfl,by rw[<-ZG,hz];rfl,trivial⟩,⟨by omega,rfl⟩,by omega⟩
    .intro h2;replace h2:=AW h2;have hi8:i=8:=by omega
     subst hi8;refine B3 (Ay (Ay (Bb (AF (Aa (Av (A7 U U ?_)))))));refine Ae U (qA ?_);refine⟨k+1,rfl,⟨rfl,?_,trivial⟩,⟨by omega,rfl⟩,by omega⟩;rw[Bp hx,qdp,hv,qdk,List.foldl_nil,MN,hz];rfl
  .intro h1;replace h1:=AW h1;have hke:k=l.length:=by omega
   subst hke;rw[qbe];have hw:=NQ (l.foldl MN (~~~s));refine B3 (Ay (Ay (Bb (Aa (Ad (Ae U (RG U U ?_)))))));rw[Aoi];refine Ac U (qA (Ax (AG (v:=(.int _ _)) U U U ?_)));exact⟨rfl,rfl⟩
theorem Aih(a:Option Addr)(c n:Nat)(l:List UInt8)(w:World)(R:Rd w a 1 B8 l)(hn:l.length=n)(hm:n<=9223372036854775807:=by omega):
  Ret prog 115 #[.slice a n c] w fun v w'=>v=.int .u32 ((VX l).toNat:Int)/\w=w':=by
 subst hn;refine A6 (fn:=f115) func115 U [.slice a l.length c] U (Ad (Ac U (qA (Ad (Aj U (Ai qB (Alu 0#32 a c l w R hm) U ?_))))));rintro v w ⟨rfl,rfl⟩;refine Ac U (qA (Ax (AG (v:=(.int _ _)) U U U ?_)));exact⟨rfl,rfl⟩
def HL:List UInt8->Nat
 | []=>0
 |c::l=>c.toNat+256*HL l
theorem Xt:∀(l m:List UInt8),HL (l++m)=HL l+256 ^ l.length*HL m
 | [],m=>by simp[HL]
 |c::l,m=>by
  have h:=Xt l m;simp only[qbx,HL,qaw,h,qea];rw[Nat.mul_add,<-Nat.mul_assoc,qd9 (256 ^ l.length) 256];omega
theorem VZ:∀l:List UInt8,HL l<256 ^ l.length
 | []=>by simp[HL]
 |c::l=>by
  have h:=VZ l;have hc:=HG c;simp only[HL,qaw,qea];omega
theorem Adx{l:List UInt8}{k:Nat}{c:UInt8}(hk:l[k]?=some c)(h4:k<4:=by omega):HL (l.take k) ||| (c.toNat*2 ^ (8*k) % 4294967296)=HL (l.take (k+1)):=by
 have hl:=Zq hk;have hlen:(l.take k).length=k:=by rw[qa0];omega
 have h1:=VZ (l.take k);rw[hlen]at h1;have h2:(256:Nat) ^ k=2 ^ (8*k):=by rw[Nat.pow_mul]
 have hc:=HG c
 have h3:c.toNat*2 ^ (8*k)<4294967296:=by
  have:k=0\/k=1\/k=2\/k=3:=by omega
  rcases this with h|h|h|h <;> subst h <;> omega
 rw[Bp hk,Xt,hlen,qa9 h3,Nat.or_comm,qd9 c.toNat,<-Nat.two_pow_add_eq_or_of_lt (by rw[<-h2];exact h1),h2];simp only[HL,Nat.mul_zero,qc9];omega
def IQ(b:List UInt8):Bool:=decide (4<=b.length) && decide ((VX (b.take (b.length - 4))).toNat=HL (b.drop (b.length - 4)))
theorem Xu(a:Option Addr)(c:Nat)(l:List UInt8)(w:World)(R:Rd w a 1 B8 l)(hc:l.length<=c)(hm:l.length<=9223372036854775807:=by omega):
  Ret prog 138 #[.slice a l.length c] w fun v w'=>v=.bool (IQ l)/\w=w':=by
 refine A6 (fn:=f138) func138 U [.slice a l.length c] U (Ad (An U (qA (Ad (Aj U (AP AX U (BB U U ?_)))))));refine Ac U (qA (Aq (Ad (Ae U (Bn U U (qA (Au _ U ?_ ?_)))))))
 .intro h1;replace h1:=AV h1;refine Ad (An U (qA (Ax (Ao (AG (v:=(.bool _)) U U U ?_)))));exact⟨qab Value.bool (by rw[IQ,qag (by omega)];rfl),rfl⟩
 .intro h1;replace h1:=AW h1;obtain⟨m,hm4⟩:∃m,l.length=m+4:=⟨l.length - 4,by omega⟩;rw[show(l.length:Int) - 4=(m:Int)by omega];have R':=R.cut m c hc;have hd:(l.drop m).length=4:=by rw[qbg];omega
  refine Ap (Aa (Ad (Ac U (qA (Aq (Ad (Aj U (Ae U (F8 AX CT U U ?_)))))))));refine AP AX U (Ae U (qA (AE ?_)));rw[show l.length - ((m:Int)).toNat=4 by omega];refine B7 536805488 (α:=Nat) (fun k=>[(16,.int .i64 k),(4,.int .u32 (HL ((l.drop m).take k):Int))]) (fun k w'=>k<=4/\w=w') (fun k=>4 - k) 0 U ?_ ?_ ?_
  .exact⟨rfl,rfl,trivial⟩
  .exact⟨qak _,rfl⟩
  .rintro k j _ ⟨hk,rfl⟩;refine Ad (Bn U U (qA (Aq (Au _ U ?_ ?_))))
   .intro h2;replace h2:=AV h2;obtain⟨x,hx⟩:=AO (l:=l.drop m) (i:=k);have hxb:=HG x
    have hw:HL ((l.drop m).take k)<4294967296:=by
     have h:=VZ ((l.drop m).take k);have h2:256 ^ ((l.drop m).take k).length<=256 ^ 4:=qc2 (by omega) (by rw[qa0];omega);have h3:(256:Nat) ^ 4=4294967296:=by decide
     omega
    refine Ap (Aa (Aq (AE (Ad (Ae U (AY R' AX CT U U ?_))))));refine Be QA U (R'.one (f:=bv) hx) (Ac U (Ac U (qA (Av (Ae U (Ae U (PX U U GR ZE ?_)))))));refine Ae U (Gn U U ?_);rw[show(8:Int)*(k:Int)=((8*k:Nat):Int)from by simp];refine Zs U U U (Adn U U U ?_);rw[Adx hx];refine Ac U (Ab (AF (Aa (Av (A7 U U ?_)))));refine Ae U (qA ?_);exact⟨k+1,rfl,⟨rfl,rfl,trivial⟩,⟨by omega,rfl⟩,by omega⟩
   .intro h2;replace h2:=AW h2;have hk4:k=4:=by omega
    subst hk4;rw[show(l.drop m).take 4=l.drop m from qa6 (by omega)];refine B3 (Ay (Ay (Bb (Aa (Ad (Aj U (Ae U (Ei AX CT U U ?_))))))));refine Ai qB (Aih a c m (l.take m) w (R.take m) (by rw[qa0];omega)) U ?_;rintro v w ⟨rfl,rfl⟩;refine Ae U (B6 U U (An U (qA (Ax (AG (v:=(.bool _)) U U U ?_)))));refine⟨qab Value.bool ?_,rfl⟩;rw[IQ,qal (show 4<=l.length by omega),qdx,show l.length - 4=m by omega];exact decide_eq_decide.2 (by omega)
theorem Fresh.rdB{w w':World}{t:Nat}{s:Value}{xs:List UInt8}(h:Fresh w w' t 1 s (xs.map bv)):∃a c,s=.slice a xs.length c/\Rd w' a 1 B8 xs/\xs.length<=c:=by
 obtain⟨a,n,c,full,rfl,O,hb⟩:=h.ex;have hn:=O.num;subst hn;exact⟨a,c,rfl,O.rd1 (t:=t) fun x hx=>(hb x hx).1,O.le⟩
theorem Rd.appB{w:World}{a:Option Addr}{l:List UInt8}(R:Rd w a 1 B8 l):∀j v,(l.map bv)[j]?=some v->∃p,a=some p/\w.cell? (p.add j)=some v:=Rd.app1 (f:=bv) R
theorem OS.rdB{w:World}{a:Option Addr}{n c:Nat}{t:TypeId}{full:List Value}{xs:List UInt8}(h:OS a n c 1 full (xs.map bv))(hb:∀x∈ent a t full,w.heap[x.1]?=some x.2):Rd w a 1 B8 xs:=OS.rd1 h hb
theorem Aii{w:World}{b t:Nat}{xs:List UInt8}(h:w.heap[b]?=some (Bl t (xs.map bv))):Rd w (some ⟨b,0,none⟩) 1 B8 xs :=
 Rd.of_bl (r:=[]) h (by rw[qa3];exact(Abe xs).symm) (fun x _=>rfl)
theorem Fresh.since{w0 w w':World}{t s:Nat}{v:Value}{l:List Value}(h:Fresh w w' t s v l)(hx:Ext [] w0 w):Fresh w0 w' t s v l :=
 ⟨let ⟨a,n,c,full,h1,h2,h3⟩:=h.ex;⟨a,n,c,full,h1,h2,fun x hx'=>⟨(h3 x hx').1,qav hx.size (h3 x hx').2⟩⟩,hx.trans h.ext⟩
theorem JM(a:Option Addr)(c n:Nat)(l:List UInt8)(w:World)(R:Rd w a 1 B8 l)(hn:l.length=n)(hm:n<=140737488351232:=by omega):
  Ret prog 67 #[.slice a n c] w fun v w'=>Fresh w w' 5 1 v (l.map bv)/\(a=none->v=.slice none 0 0):=by
 subst hn;obtain⟨w0,rfl,H⟩:=qE w;refine A6 (fn:=f67) func67 U [.slice a l.length c] U (Ad (Ak U (qA (Aq (Ad (Aj U (Us U AX U (qA (Au _ U ?_ ?_)))))))))
 .intro h1;have ha:a=none:=by simpa using h1
  subst ha
  have hl:l=[]:=by
   cases l with
   |nil=>rfl
   |cons x l=>obtain⟨b,o,h⟩:=R.some' (by simp);cases h
  subst hl;refine Ad (Ak U (qA (Ax (Ao (AG (v:=(.slice _ _ _)) U U U ?_)))));exact⟨Fresh.nil H _ _,fun _=>rfl⟩
 .intro h1;refine Ap (Aa (Ad (JF U AX CT H ?_)));rintro b5 w H O;refine Aj U (DS U AX AX CT Pf IP U (l.map bv) U U H O (by simp) (Ht l) (Rd.appB (R.ext0 H.ext)) ?_);rintro a7 c7 full7 w H O;refine Ak U (qA (Ax (AG (v:=(.slice _ _ _)) U U U ?_)));exact⟨Ctx.fresh H (by simpa using O),fun h=>by subst h;cases h1⟩
theorem Ady(a:Option Addr)(c n:Nat)(l:List UInt8)(w:World)(R:Rd w a 1 B8 l)(hn:l.length=n)(hm:n<=140737488351232:=by omega):
  Ret prog 107 #[.slice a n c] w fun v w'=>Fresh w w' 5 1 v (l.map bv)/\(a=none->v=.slice none 0 0):=by
 subst hn;obtain⟨w0,rfl,H⟩:=qE w;refine A6 (fn:=f107) func107 U [.slice a l.length c] U (Ad (Ak U (qA (Aq (Ad (Aj U (Us U AX U (qA (Au _ U ?_ ?_)))))))))
 .intro h1;have ha:a=none:=by simpa using h1
  subst ha
  have hl:l=[]:=by
   cases l with
   |nil=>rfl
   |cons x l=>obtain⟨b,o,h⟩:=R.some' (by simp);cases h
  subst hl;refine Ad (Ak U (qA (Ax (Ao (AG (v:=(.slice _ _ _)) U U U ?_)))));exact⟨Fresh.nil H _ _,fun _=>rfl⟩
 .intro h1;refine Ap (Aa (Ad (JF U AX CT H ?_)));rintro b5 w H O;refine Aj U (DS U AX AX CT Pf IP U (l.map bv) U U H O (by simp) (Ht l) (Rd.appB (R.ext0 H.ext)) ?_);rintro a7 c7 full7 w H O;refine Ak U (qA (Ax (AG (v:=(.slice _ _ _)) U U U ?_)));exact⟨Ctx.fresh H (by simpa using O),fun h=>by subst h;cases h1⟩
def HM(k:Int):Bool:=decide (k=1) || (decide (k=2) || (decide (k=4) || decide (k=8)))
theorem Xw{k:Int}(h:HM k=true):∃n:Nat,k=n/\1<=n/\n<=8:=by
 simp only[HM,qcf,qap]at h;exact⟨k.toNat,by omega,by omega,by omega⟩
theorem Adz(k:Int):∃z:Int,Option.getD (if k=8 then some (Value.int .i64 64)else if k=4 then some (Value.int .i64 32)else if k=2 then some (Value.int .i64 16)else if k=1 then some (Value.int .i64 8)else none) (Value.int .i64 0)=.int .i64 z/\decide (0<z)=HM k:=by
 by_cases h8:k=8
 .exact⟨64,by simp[h8],by simp[HM,h8]⟩
 by_cases h4:k=4
 .exact⟨32,by simp[h4],by simp[HM,h4]⟩
 by_cases h2:k=2
 .exact⟨16,by simp[h2],by simp[HM,h2]⟩
 by_cases h1:k=1
 .exact⟨8,by simp[h1],by simp[HM,h1]⟩
 exact⟨0,by simp[h8,h4,h2,h1],by simp[HM,h8,h4,h2,h1]⟩
theorem UH(k:Int)(w:World):Ret prog 108 #[.int .i64 k] w fun v w'=>v=.bool (HM k)/\Ext [] w w':=by
 obtain⟨w0,rfl,H⟩:=qE w;refine A6 (fn:=f108) func108 U [.int .i64 k] U (Ad (An U (qA (Ad (RC .i64 U H ?_)))));rintro b4 o4 w hM H;refine LY (.int _ _) U Sl Ge U U U H at0 hM ?_;rintro o w hM H;refine LY (.int _ _) U Sl Ge U U U H at0 hM ?_;rintro o w hM H;refine LY (.int _ _) U Sl Ge U U U H at0 hM ?_;rintro o w hM H;refine LY (.int _ _) U Sl Ge U U U H at0 hM ?_;rintro o w hM H;refine KU U U (RI U U (qA (Ad (KU U U (Ae U (Adl U Sl Ge zv_3 U U H at0 hM ?_))))));simp only[OY,RA];obtain⟨z,hz,hzb⟩:=Adz k;rw[hz];refine BZ U U (An U (qA (Ax (AG (v:=(.bool _)) U U U ?_))));exact⟨qab Value.bool hzb,H.ext⟩
def Bq(n k:Nat):List UInt8:=(List.range k).map fun i=>UInt8.ofNat (n / 2 ^ (8*(k - 1 - i)))
theorem AZ(n k:Nat):(Bq n k).length=k:=by simp[Bq]
theorem Ad0{n k i:Nat}(h:i<k:=by omega):(Bq n k).take (i+1)=(Bq n k).take i++[UInt8.ofNat (n / 2 ^ (8*(k - 1 - i)))]:=Bp (Uw h)
theorem UI(x:Nat):Value.int .u8 ((x % 256:Nat):Int)=bv (UInt8.ofNat x):=by
 unfold bv;congr 2
def Ng(l:List UInt8)(n:Nat)(k:Int):List UInt8:=bif HM k then l++Bq n k.toNat else l
theorem Gr(a:Option Addr)(c m:Nat)(l:List UInt8)(n:Nat)(k:Int)(w:World)(R:Rd w a 1 B8 l)(hml:l.length=m)(_:n<18446744073709551616)(hm:m<=140737488351231:=by decide):
  Ret prog 82 #[.slice a m c,.int .u64 (n:Int),.int .i64 k] w fun v w'=>Fresh w w' 5 1 v ((Ng l n k).map bv):=by
 subst hml;obtain⟨w0,rfl⟩:=qD w;refine A6 (fn:=f82) func82 U [.slice a l.length c,.int .u64 (n:Int),.int .i64 k] U (Ad (Ak U (qA (Ad (Aj U (Ai qB (JM a c l.length l _ R U) U ?_))))));rintro v w ⟨F,-⟩;obtain⟨a7,n7,c7,full7,rfl,O,hb⟩:=F.ex;have hn7:n7=l.length:=OS.num O;subst hn7;have H:Ctx w0 [] w (ent a7 5 full7):=⟨F.ext,fun x hx=>(hb x hx).1,KR,fun x hx => .inr (hb x hx).2⟩;refine Ak U (qA (Aq (Ad (Ae U (Ai qB (UH k _) U ?_)))));rintro v w ⟨rfl,hx⟩;replace H:=H.call hx;refine BX U (qA (Au _ U ?_ ?_))
 .intro h1;replace h1:=Cz h1;refine Ad (Aj U (Ak U (qA (Ax (Ao (AG (v:=(.slice _ _ _)) U U U ?_))))));rw[Ng,h1];exact Ctx.fresh (L:=[]) H O
 .intro h1;replace h1:=C0 h1;obtain⟨q,rfl,hq1,hq8⟩:=Xw h1;rw[Ng,h1,show((q:Int)).toNat=q from rfl];refine Ap (Aa (Aq (Ad (Ae U (Ae U (qA (AE (B7 2147418496 (α:=Nat × Option Addr × Nat × List Value) (fun x=>[(16,.int .i64 x.1),(7,.slice x.2.1 (l.length+x.1) x.2.2.1)]) (fun x w'=>x.1<=q/\Ctx w0 [] w' (ent x.2.1 5 x.2.2.2)/\OS x.2.1 (l.length+x.1) x.2.2.1 1 x.2.2.2 ((l++(Bq n q).take x.1).map bv)) (fun x=>q - x.1) (0,a7,c7,full7) U ?_ ?_ ?_))))))))
  .exact⟨rfl,rfl,trivial⟩
  .exact⟨qak _,H,by simpa using O⟩
  .rintro⟨i,a7,c7,full7⟩ j w ⟨hi,H,O⟩;dsimp only at hi H O;dsimp only;refine Ad (Bn U U (qA (Aq (Au _ U ?_ ?_))))
   .intro h2;replace h2:=AV h2;refine Ap (Aa (Aq (AE (Ad (Ae U (Ac U (qA (Av (Aj U (Ae U ?_))))))))));refine Ae U (BB U U ?_);refine Ae U (BB U U ?_);refine Gn U U ?_;rw[show(8:Int)*((q:Int) - 1 - (i:Int))=((8*(q - 1 - i):Nat):Int)from by omega];refine RH U U U (PZ U U Hn GR ?_);rw[UI];refine BJ _ (.int _ _) AX CT IP U U U U H ?_;rintro b28 w - H;refine BO (L:=[]) AX AX CT Pf IP U U U H O U (by simp[Bi]) ?_;rintro a9 c9 full9 w H O;refine Ak U (Ab (AF (Aa (Av (A7 U U ?_)))));refine Ae U (qA ?_);refine⟨(i+1,a9,c9,full9),rfl,⟨rfl,rfl,trivial⟩,⟨by omega,H,?_⟩,by dsimp only;omega⟩;dsimp only
    have O':OS a9 (l.length+(i+1)) c9 1 full9 ((l++(Bq n q).take i).map bv++[UInt8.ofNat (n / 2 ^ (8*(q - 1 - i)))].map bv):=O;rw[<-qaz,qa1,<-Ad0]at O';exact O'
   .intro h2;replace h2:=AW h2;have hiq:i=q:=by omega
    subst hiq;refine B3 (Ay (Ay (Bb (Aa (Ad (Aj U (Ak U (qA (Ax (AG (v:=(.slice _ _ _)) U U U ?_))))))))));have hl:(Bq n i).take i=Bq n i:=qa6 (by rw[AZ];exact qae _);rw[hl]at O;exact Ctx.fresh (L:=[]) H O
def numN(l:List UInt8):Nat:=l.foldl (fun n c=>n*256+c.toNat) 0
theorem UJ(l:List UInt8)(c:UInt8):numN (l++[c])=numN l*256+c.toNat:=by simp[numN]
theorem Kr(l:List UInt8):numN l<256 ^ l.length:=by
 have h:∀(l:List UInt8) (n k:Nat),n<256 ^ k->l.foldl (fun n c=>n*256+c.toNat) n<256 ^ (k+l.length):=by
  intro l
  induction l with
  |nil=>intro n k h;simpa using h
  |cons c l ih =>
   intro n k h;have hc:=HG c;have:=ih (n*256+c.toNat) (k+1) (by rw[qea];omega)
   simpa[qcl,Nat.add_comm 1]using this
 have:=h l 0 0 (by simp);rw[qa2]at this;exact this
theorem Aij{l:List UInt8}{i:Nat}{c:UInt8}(h:l[i]?=some c)(hi:i<8:=by omega):(numN (l.take i)*2 ^ 8 % 18446744073709551616) ||| c.toNat=numN (l.take (i+1)):=by
 have h1:=Kr (l.take i);have hc:=HG c;have hlen:(l.take i).length<=7:=by rw[qa0];omega
 have h2:256 ^ (l.take i).length<=256 ^ 7:=qc2 (by omega) hlen;have h3:(256:Nat) ^ 7=72057594037927936:=by decide
 rw[Bp h,UJ,qa9 (by omega),qd9,<-Nat.two_pow_add_eq_or_of_lt (by omega)]
def Dj(l:List UInt8)(at' k:Int):Int:=bif HM k && (decide (0<=at') && decide (at'<=l.length))then(bif decide (k<=(l.length:Int) - at')then 0 else 5)else 1
def Gi(l:List UInt8)(at' k:Int):Value:=bif decide (Dj l at' k=0)then .tuple #[.int .u64 (numN ((l.drop at'.toNat).take k.toNat):Int),.int .i64 (at'+k),.int .i64 0]else .tuple #[.int .u64 0,.int .i64 0,.int .i64 (Dj l at' k)]
theorem Hd(a:Option Addr)(c m:Nat)(l:List UInt8)(at' k:Int)(w:World)(R:Rd w a 1 B8 l)(hml:l.length=m)(hc:l.length<=c)(hm:m<=9223372036854775799:=by omega):
  Ret prog 74 #[.slice a m c,.int .i64 at',.int .i64 k] w fun v w'=>v=Gi l at' k/\Ext [] w w':=by
 subst hml;obtain⟨w0,rfl,H⟩:=qE w;refine A6 (fn:=f74) func74 U [.slice a l.length c,.int .i64 at',.int .i64 k] U (Ad (Ac U (Ac U (Ac U (qA (Aq (AE (Aq (Ad (Ae U ?_))))))))));refine Ai qB (UH k _) U ?_;rintro v w ⟨rfl,hx⟩;replace H:=H.call hx;refine BX U (An U (qA (DC 11 U ?_ ?_)))
 .intro h1;replace h1:=Cz h1;have he:Dj l at' k=1:=by unfold Dj;rw[h1];rfl
  refine Ap (Aa (EA U (Ad (Ac U (Ac U (Ac U (qA (Ax (AL (Ao (CX (v1:=(.int _ _)) (v2:=(.int _ _)) (v3:=(.int _ _)) U U U U U ?_)))))))))));exact⟨by rw[Gi,he];rfl,H.ext⟩
 .intro h1;replace h1:=C0 h1;refine Ad (Ae U (Bn U U (An U (qA (DC 11 U ?_ ?_)))))
  .intro h2;replace h2:=AV h2;have he:Dj l at' k=1:=by unfold Dj;rw[qag (show ¬0<=at' by omega),Bool.false_and,qeb];rfl
   refine Ap (Aa (EA U (Ad (Ac U (Ac U (Ac U (qA (Ax (AL (Ao (CX (v1:=(.int _ _)) (v2:=(.int _ _)) (v3:=(.int _ _)) U U U U U ?_)))))))))));exact⟨by rw[Gi,he];rfl,H.ext⟩
  .intro h2;replace h2:=AW h2;refine Av (Ae U (Aj U (AP AX U (BZ U U (An U (qA (DC 11 U ?_ ?_)))))))
   .intro h3;replace h3:=AV h3;have he:Dj l at' k=1:=by unfold Dj;rw[qag (show ¬at'<=(l.length:Int)by omega),qeb,qeb];rfl
    refine Ad (Ac U (Ac U (Ac U (qA (Ax (AL (Ao (CX (v1:=(.int _ _)) (v2:=(.int _ _)) (v3:=(.int _ _)) U U U U U ?_))))))));exact⟨by rw[Gi,he];rfl,H.ext⟩
   .intro h3;replace h3:=AW h3;obtain⟨q,rfl,hq1,hq8⟩:=Xw h1;obtain⟨o,rfl⟩:∃o:Nat,at'=o:=⟨at'.toNat,by omega⟩
    have hE:Dj l (o:Int) (q:Int)=bif decide ((q:Int)<=(l.length:Int) - (o:Int))then 0 else 5:=by
     unfold Dj;rw[h1,qal (show(0:Int)<=(o:Int)by omega),qal (show(o:Int)<=(l.length:Int)by omega)];rfl
    refine Ad (Aj U (AP AX U (Ae U (BB U U ?_))));refine Ae U (Bn U U (An U (qA (Au _ U ?_ ?_))))
    .intro h4;replace h4:=AV h4;rw[qag (by omega)]at hE;refine Ad (Ac U (Ac U (Ac U (qA (Ax (AL (Ao (CX (v1:=(.int _ _)) (v2:=(.int _ _)) (v3:=(.int _ _)) U U U U U ?_))))))));exact⟨by rw[Gi,hE];rfl,H.ext⟩
    .intro h4;replace h4:=AW h4;rw[qal (by omega)]at hE;have R':=((R.ext0 H.ext).cut o c hc).take q;have hl:((l.drop o).take q).length=q:=by rw[qa0,qbg];omega
     refine Ap (AF (Aa (Ad (Ae U (Ae U (A7 U U ?_))))));refine Ac U (qA (Aq (Ad (Aj U (Ae U (Ae U (J8 U AX CT U U U ?_)))))));refine AP AX U (Ae U (qA (AE ?_)));rw[show((o:Int)+(q:Int)).toNat - ((o:Int)).toNat=q by omega];refine B7 70300024702016 (α:=Nat) (fun i=>[(36,.int .i64 i),(6,.int .u64 (numN (((l.drop o).take q).take i):Int))]) (fun i w'=>i<=q/\w=w') (fun i=>q - i) 0 U ?_ ?_ ?_
     .exact⟨rfl,rfl,trivial⟩
     .exact⟨qak _,rfl⟩
     .rintro i j _ ⟨hi,rfl⟩;refine Ad (Bn U U (qA (Aq (Au _ U ?_ ?_))))
      .intro h5;replace h5:=AV h5;obtain⟨x,hx⟩:=AO (l:=(l.drop o).take q) (i:=i);have hxb:=HG x;have hlt:=Kr (((l.drop o).take q).take (i+1));have hst:=Aij hx;refine Ap (Aa (Aq (AE (Ad (AY R' AX CT U U ?_)))));refine Be QA U (R'.one (f:=bv) hx) (Ac U (qA (Av (Ae U (Zt (n:=8) U U U ?_)))));refine Ae U (DP U GR Hn ?_);refine Ado U U U (qbl _ (by decide)) ?_;rw[hst];refine Ac U (Ab (AF (Aa (Av (A7 U U ?_)))));refine Ae U (qA ?_);exact⟨i+1,rfl,⟨rfl,rfl,trivial⟩,⟨by omega,rfl⟩,by omega⟩
      .intro h5;replace h5:=AW h5;have hiq:i=q:=by omega
       subst hiq;rw[show((l.drop o).take i).take i=(l.drop o).take i from qa6 (by omega)];refine B3 (Ay (Ay (Bb (Aa (Ad (Ae U (Ae U (Ac U (Ac U (Ac U (qA (Ax (CX (v1:=(.int _ _)) (v2:=(.int _ _)) (v3:=(.int _ _)) U U U U U ?_)))))))))))));exact⟨by rw[Gi,hE];rfl,H.ext⟩
def QB(l:List UInt8):Bool:=l.all fun b=>b == 0
theorem Aik(a:Option Addr)(c n:Nat)(l:List UInt8)(w:World)(R:Rd w a 1 B8 l)(hn:l.length=n)(hm:n<=9223372036854775807)(hc:l.length<=c) :
  Ret prog 171 #[.slice a n c,bv 0] w fun v w'=>(∃a' n' c',v=.slice a' n' c'/\decide (0<n') = !QB l/\n'<=n)/\w=w':=by
 subst hn;refine A6 (fn:=f171) func171 U [.slice a l.length c,bv 0] U ?_;refine Ad (Ak U (qA (Aq (AE (B7 131041 (α:=Nat × Option Addr × Nat) (fun x=>[(0,.slice x.2.1 (l.length - x.1) x.2.2)]) (fun x w'=>x.1<=l.length/\Rd w x.2.1 1 B8 (l.drop x.1)/\l.length - x.1<=x.2.2/\QB (l.take x.1)=true/\w=w') (fun x=>l.length - x.1) (0,a,c) U ?_ ?_ ?_)))))
 .exact⟨rfl,trivial⟩
 .exact⟨qak _,R,hc,rfl,rfl⟩
 .rintro⟨k,a,c⟩ j _ ⟨hk,R,hc,hz,rfl⟩;dsimp only at hk R hc hz;dsimp only;have hld:(l.drop k).length=l.length - k:=qbg;refine Aq (Ad (Aj U (AP AX U (BZ U U (AA U (AR 8 U ?_ ?_))))))
  .intro h1;replace h1:=AV h1;obtain⟨x,hx⟩:=AO (l:=l.drop k) (i:=0);have hxl:l[k]?=some x:=by rw[qcm]at hx;simpa using hx
   refine Aj U (AY R AX CT U U ?_);refine Be QA U (R.one (f:=bv) hx) (Ae U (B6 U U (AN U (.bool _) U (qA (Au _ U ?_ ?_)))))
   .intro h2;replace h2:=AV h2
    have hx0:x=0:=by
     have:x.toNat=0:=by simpa using h2
     exact UInt8.toNat_inj.1 this
    refine Ap (Aa (AE (Av (Aj U (F8 AX CT U U ?_)))));refine Ak U (Ab (AF (Aa ?_)));refine⟨(k+1,EL a c 1 1,c - 1),rfl,⟨rfl,trivial⟩,⟨by dsimp only;omega,?_,by dsimp only;omega,?_,rfl⟩,by dsimp only;omega⟩
    .dsimp only;have:=R.cut 1 c (by omega);rw[qdq]at this;exact this
    .dsimp only;rw[Bp hxl,QB,List.all_append,hx0];have hz':(l.take k).all (fun b=>b == 0)=true:=hz;rw[hz'];rfl
   .intro h2;replace h2:=AW h2
    have hx0:¬x=0:=by
     rintro rfl;simp at h2
    have hnz:QB l=false:=by
     rw[qec];intro hall;rw[QB,qb0]at hall;have:=hall x (qad hxl);exact hx0 (by simpa using this)
    refine B3 (Ay (Ay (Bb (Aa (Aq (Ad (Aj U (AP AX U (B6 U U (qA (Au _ U ?_ ?_)))))))))))
    .intro h3;replace h3:=AV h3;omega
    .intro h3;replace h3:=AW h3;refine Ap (Aa (Ad (Aj U (Ak U (qA (Ax (AG (v:=(.slice _ _ _)) U U U ?_)))))));exact⟨⟨_,_,_,rfl,by rw[hnz,qal (by omega)];rfl,by omega⟩,rfl⟩
  .intro h1;replace h1:=AW h1;have hke:k=l.length:=by omega
   subst hke;rw[qbe]at hz;refine Ag U (Ag U (Ag U (Ag U (Ag U (AK U (.bool _) U (qA (Bz U (B3 (Ay (Ay (Bb (Aa (Aq ?_)))))))))))));refine Ad (Aj U (AP AX U (B6 U U (qA (Au _ U ?_ ?_)))))
   .intro h3;replace h3:=AV h3;refine Ad (Ak U (qA (Ax (Ao (AG (v:=(.slice _ _ _)) U U U ?_)))));exact⟨⟨_,_,_,rfl,by rw[hz];rfl,by omega⟩,rfl⟩
   .intro h3;replace h3:=AW h3;omega
theorem Alw(a:Option Addr)(c n:Nat)(l:List UInt8)(w:World)(R:Rd w a 1 B8 l)(hn:l.length=n)(hc:l.length<=c)(hm:n<=9223372036854775807:=by omega):
  Ret prog 139 #[.slice a n c,str [0]] w fun v w'=>(∃a' n' c',v=.slice a' n' c'/\decide (0<n') = !QB l/\n'<=n)/\w=w':=by
 subst hn;refine A6 (fn:=f139) func139 U [.slice a l.length c,str [0]] U (Ad (Ak U (qA (Aq (Ad (Aj U (AP AX U (B6 U U (qA (Au _ U ?_ ?_))))))))))
 .intro h1;replace h1:=AV h1;have hl:l=[]:=qa4 (by omega);subst hl;refine Ad (Ak U (qA (Ax (Ao (AG (v:=(.slice _ _ _)) U U U ?_)))));exact⟨⟨_,_,_,rfl,rfl,qae _⟩,rfl⟩
 .intro h1;replace h1:=AW h1;refine Ap (Aa (Aq (Ad (Cd U (RJ (l:=[0]) (m:=[]) U U U ?_)))));refine qA (Bz U (Ap (Aa (Aq (Ad (Cd U (VS (l:=[0]) U F7 U ?_)))))));refine B6 U U (AA U (Cd U (U1 (l:=[0]) 0 U F7 U U U ?_)));refine Bn U U (AN U (.bool _) U (qA (EA U (Ad (Aj U (Cd U (U1 (l:=[0]) 0 U F7 U U U ?_)))))));refine Ai qB (Aik a c l.length l w R U hm hc) U ?_;rintro v w ⟨⟨a',n',c',rfl,hz,hle⟩,rfl⟩;refine Ak U (qA (Ax (Ao (AG (v:=(.slice _ _ _)) U U U ?_))));exact⟨⟨_,_,_,rfl,hz,hle⟩,rfl⟩
def le4(s:Nat):List UInt8:=(List.range 4).map fun i=>UInt8.ofNat (s / 2 ^ (8*i))
def HN(k:UInt8)(l:List UInt8):List UInt8:=k::(Bq l.length 2++(l++List.replicate (505 - l.length) 0))
def DT(k:UInt8)(l:List UInt8):List UInt8:=HN k l++le4 (VX (HN k l)).toNat
def GD(k:UInt8)(l:List UInt8):Int:=bif decide (k.toNat=0)then 1 else bif decide (505<l.length)then 6 else 0
theorem S5{k:UInt8}{l:List UInt8}(h:l.length<=505):(HN k l).length=508:=by simp[HN,AZ];omega
theorem FF{k:UInt8}{l:List UInt8}(h:l.length<=505):(DT k l).length=512:=by simp[DT,S5 h,le4]
structure Bytes(w w':World)(v:Value)(l:List UInt8):Prop where
 ex:∃a c,v=.slice a l.length c/\Rd w' a 1 B8 l/\l.length<=c/\w.heap.size<=(adr a).block
 ext:Ext [] w w'
def Lh(k:UInt8)(l:List UInt8)(w:World)(v:Value)(w':World):Prop :=
 (GD k l≠0/\v=.tuple #[.slice none 0 0,.int .i64 (GD k l)]/\Ext [] w w') \/
 (GD k l=0/\∃s,v=.tuple #[s,.int .i64 0]/\Bytes w w' s (DT k l))
theorem Ad1(n:Nat):List.replicate n (Value.int .u8 0)=(List.replicate n (0:UInt8)).map bv:=by rw[List.map_replicate];rfl
theorem Ail{s i:Nat}(h:i<4:=by omega):(le4 s).take (i+1)=(le4 s).take i++[UInt8.ofNat (s / 2 ^ (8*i))]:=Bp (Uw h)
theorem Wa(s:Nat):(le4 s).length=4:=by simp[le4]
theorem S7(A B C M:List UInt8)(h:B.length=M.length):over ((A++(B++C)).map bv) A.length (M.map bv)=(A++(M++C)).map bv:=by
 have:=WR (A.map bv) (B.map bv) (C.map bv) (M.map bv) (by simpa using h)
 simpa using this
theorem ZH(k:UInt8)(n:Nat):over (List.replicate 512 (Value.int .u8 0)) 0 (((k::Bq n 2).map bv).take 512)=((k::Bq n 2)++(List.replicate 509 0)).map bv:=by
 rw[qa6 (by simp[AZ])];have h:=S7 [] (List.replicate 3 0) (List.replicate 509 0) (k::Bq n 2) (by simp[AZ]);rw[qa7,qa7,qfb]at h;rw[Ad1];exact h
theorem ZI(k:UInt8)(l:List UInt8)(h:l.length<=505:=by omega):over (((k::Bq l.length 2)++(List.replicate 509 0)).map bv) 3 ((l.map bv).take 509)=(HN k l++List.replicate 4 0).map bv:=by
 rw[qa6 (by simp;omega)];have h2:=S7 (k::Bq l.length 2) (List.replicate l.length 0) (List.replicate (509 - l.length) 0) l (by simp);rw[qfb,show l.length+(509 - l.length)=509 by omega]at h2;rw[show(k::Bq l.length 2).length=3 by simp[AZ]]at h2;rw[h2,HN];have h3:List.replicate (509 - l.length) (0:UInt8)=List.replicate (505 - l.length) 0++List.replicate 4 0:=by rw[qfb];congr 1;omega
 rw[h3];simp
theorem Alx(l:List UInt8)(i:Nat)(x:UInt8):(l.map bv).set i (bv x)=(l.set i x).map bv:=by rw[qdy]
theorem Aim(A T:List UInt8)(i:Nat)(x:UInt8)(hA:A.length=508)(hT:T.length=i)(hi:i<4:=by omega):(A++(T++List.replicate (4 - i) 0)).set (508+i) x=A++((T++[x])++List.replicate (4 - (i+1)) 0):=by
 rw[List.set_append,if_neg (by omega),List.set_append,if_neg (by omega)];rw[show 508+i - A.length - T.length=0 by omega,show 4 - i=(4 - (i+1))+1 by omega,List.replicate_succ];simp
theorem Qm{A B:List UInt8}(h:A.length=508):(A++B).take 508=A:=by rw[qcs (by omega),qa6 (by omega)]
theorem Wb(k:UInt8)(a:Option Addr)(c n:Nat)(l:List UInt8)(w:World)(R:Rd w a 1 B8 l)(hn:l.length=n)(hm:n<=9223372036854775807:=by omega):
  Ret prog 81 #[bv k,.slice a n c] w fun v w'=>Lh k l w v w':=by
 subst hn;obtain⟨w0,rfl,H⟩:=qE w;have hkb:=HG k;refine A6 (fn:=f81) func81 U [bv k,.slice a l.length c] U (Ad (Ak U (Ac U (qA (Aq (AE (Ad (Ae U (B6 U U (An U ?_))))))))));refine qA (Au _ U ?_ ?_)
 .intro h1;replace h1:=AV h1;have he:GD k l=1:=by rw[GD,qal (show k.toNat=0 by omega)];rfl
  refine Ad (Ak U (Ac U (qA (Ax (AL (Ao (Ce (v1:=(.slice _ _ _)) (v2:=(.int _ _)) U U U U ?_)))))));exact .inl ⟨by rw[he];decide,by rw[he],H.ext⟩
 .intro h1;replace h1:=AW h1;refine Ad (Aj U (AP AX U (BZ U U (An U (qA (Au _ U ?_ ?_))))))
  .intro h2;replace h2:=AV h2;have he:GD k l=6:=by rw[GD,qag (show ¬k.toNat=0 by omega),qal (show 505<l.length by omega)];rfl
   refine Ad (Ak U (Ac U (qA (Ax (AL (Ao (Ce (v1:=(.slice _ _ _)) (v2:=(.int _ _)) U U U U ?_)))))));exact .inl ⟨by rw[he];decide,by rw[he],H.ext⟩
  .intro h2;replace h2:=AW h2;have he:GD k l=0:=by rw[GD,qag (show ¬k.toNat=0 by omega),qag (show ¬505<l.length by omega)];rfl
   refine Ap (AF (Aa (Ad (Bj Apt H ?_))));rintro b6 w - H;refine qA (BR [([0,1,3,4,5],2),([],6),([],7)] (fun _=>True) [] mixed (trivial) ?_);refine AC U U (Agr U Pe CT U ?_);refine B9 U (BF U (Qb AX U (Zv U U Ge Hn ?_)));refine AU ?_;replace H:=H.drew;refine BJ [bv k] (bv k) AX CT IP U U U U H ?_;rintro b18 w - H;have R18:Rd w (some ⟨b18,0,none⟩) 1 B8 [k]:=Rd.of_bl (r:=[]) (H.get at0) rfl (fun x _=>rfl);refine Ab (Bc (trivial) (AC U U ?_));refine AU (Ai qB (Gr (some ⟨b18,0,none⟩) 1 1 [k] l.length 2 _ R18 U (hm:=by omega) (by omega)) U ?_);rintro v w F;obtain⟨a22,c22,rfl,R22,-⟩:=Fresh.rdB F;replace H:=H.call F.ext;have hp:Ng [k] l.length 2=k::Bq l.length 2:=rfl;rw[hp]at R22 |-;refine Ab (Bc (trivial) (AC U U ?_))
   refine AU (QG ((k::Bq l.length 2).map bv) U AX CT U U (by simp[AZ]) (Ht _) (Rd.appB R22) H at1 (by simp) ?_);rintro w H;rw[ZH]at H;replace H:Ctx w0 [] w [(b6,Bl 163 (((k::Bq l.length 2)++(List.replicate 509 0)).map bv))]:=H.tail;refine Ab (Bc (trivial) (B1 (Ad (NC U Pe CT U U ?_))));refine Aj U (QG (l.map bv) U AX CT U U (by simp) (Ht _) (Rd.appB (R.ext0 H.ext)) H at0 (by simp[AZ]) ?_);rintro w H;replace H:Ctx w0 [] w [(b6,Bl 163 (over (((k::Bq l.length 2)++(List.replicate 509 0)).map bv) 3 ((l.map bv).take 509)))]:=H;rw[ZI k l]at H;have hl508:=S5 (k:=k) (l:=l) (by omega);have R6:Rd w (some ⟨b6,0,none⟩) 1 B8 (HN k l++List.replicate 4 0):=Aii (H.get at0);have R8:=R6.take 508;rw[Qm hl508]at R8;refine qA (Ad (VR U Pe CT U U ?_));refine Ai qB (Aih (some ⟨b6,0,none⟩) 512 508 (HN k l) _ R8 hl508) U ?_
   rintro v w ⟨rfl,rfl⟩;refine Ac U (qA (Aq (Ad (NC U Pe CT U U ?_))));refine AP AX U (Ae U (qA (AE ?_)));have hs:=NQ (VX (HN k l));generalize hsv:(VX (HN k l)).toNat=sv at hs;refine B7 8793945538816 (α:=Nat) (fun i=>[(31,.int .i64 i)]) (fun i w'=>i<=4/\Ctx w0 [] w' [(b6,Bl 163 ((HN k l++((le4 sv).take i++List.replicate (4 - i) 0)).map bv))]) (fun i=>4 - i) 0 U ?_ ?_ ?_
   .exact⟨rfl,trivial⟩
   .exact⟨qak _,H⟩
   .rintro i j w ⟨hi,H⟩;refine Ad (Bn U U (qA (Aq (Au _ U ?_ ?_))))
    .intro h3;replace h3:=AV h3;refine Ap (Aa (Aq (AE (Ad (Ae U (Ac U (qA (Av (Ae U (A7 U U ?_))))))))));refine Ae U (Ae U (Gn U U ?_));rw[show(8:Int)*(i:Int)=((8*i:Nat):Int)from by simp];refine RF U U U (PZ U U ZE GR ?_);rw[UI];refine EB Pe CT U U (Bf (bv _) CT U U U H at0 (by simp[hl508,Wa];omega) ?_);rintro w H;rw[show 0+((508:Int)+(i:Int)).toNat*1=508+i by omega,Alx,Aim _ _ i _ hl508 (by rw[qa0,Wa];omega),<-Ail]at H;refine Ab (AF (Aa (Av (A7 U U ?_))));refine Ae U (qA ?_);exact⟨i+1,rfl,⟨rfl,trivial⟩,⟨by omega,H⟩,by omega⟩
    .intro h3;replace h3:=AW h3;have hi4:i=4:=by omega
     subst hi4;refine B3 (Ay (Ay (Bb (Aa (Ad (Adq U Pe CT U ?_))))));refine Ak U (Ac U (qA (Ax (Ce (v1:=(.slice _ _ _)) (v2:=(.int _ _)) U U U U ?_))));refine .inr ⟨he,_,rfl,?_⟩
     have hfin:DT k l=HN k l++((le4 sv).take 4++List.replicate (4 - 4) 0):=by
      rw[DT,hsv,qa6 (by rw[Wa];exact qae _)];simp
     refine⟨⟨some ⟨b6,0,none⟩,512,by rw[FF (by omega)],?_,by rw[FF (by omega)];exact qae _,(H.own _ (qaf ..)).elim (fun h=>by cases h) id⟩,H.ext⟩;rw[hfin];exact Aii (H.get at0)
def preB(k:UInt8)(l:List UInt8)(z:Nat):List UInt8:=(k::Bq l.length 2)++(l++List.replicate z 0)
end Go.Proofs.YtcpgbcabmcbclaaGreatDoor
