/- Part 3 of the proof. -/
import Derived.Test.YtcpgbcabmcbclaaGreatDoorPart2
import Derived.Lib.Bytealg
import Derived.Laws.Externs
import Derived.Lib.AppendZerosOnto
import Derived.DefersIn
import Derived.Maps.RangeRun
import Derived.Shelf.SlIter.Nil
import Derived.Shelf.SlIter.Sorted
import Derived.StringKeys
import Derived.ProofKit
import Derived.Deep.Slices
import Derived.OpenShut
import Derived.Test.YtcpgbcabmcbclaaGreatDoorProg
import Derived.KernelRfl
set_option maxRecDepth 20000
set_option maxHeartbeats 2000000
namespace Go.GV
open Go
theorem Qn:∀a b:List UInt8,Op.bytesLess a b=decide (Lib.compareBytes a b = -1)
 | [],[]=>rfl
 | [],_::_=>rfl
 |_::_,[]=>rfl
 |x::a,y::b=>by
  have ih:=Qn a b;unfold Op.bytesLess Lib.compareBytes
  by_cases h:x<y
  .simp[h]
  .by_cases h2:y<x
   .have hne:¬x=y:=fun e=>by subst e;exact UInt8.lt_irrefl x h2
    simp[h,h2,hne]
   .have he:x=y:=UInt8.le_antisymm (UInt8.not_lt.1 h2) (UInt8.not_lt.1 h);subst he;simp[ih]
section
variable {P:Program}{r:Option Nat}{ops rest:List Oper}{Q:Exit->Env->World->Prop}{e:Env}{w w0:World}{S:List Nat}{L:List (Nat × Obj)}{dst:Option Tmp}{ty:TypeId}{pos:String}{af:Array Edge}{g:Option (Nat × Bool)}{C:World->Prop}{K:Env->Prop}
theorem Sj{w:World}{b:Nat}{l:List UInt8}:∀(o:Nat) (acc:List UInt8),(∀j x,l[j]?=some x->w.cell? ⟨b,o+j,none⟩=some (bv x)) ->
  (Extern.Bytes.loadBytes ⟨b,o,none⟩ l.length ⟨acc.toArray⟩).run P w=.ok ⟨(acc++l).toArray⟩ w:=by
 induction l with
 |nil=>intro o acc _;simp[Extern.Bytes.loadBytes]
 |cons x l ih =>
  intro o acc h;have h0:=h 0 x rfl
  have hl:(load ⟨b,o,none⟩:Sem Value).run P w=.ok (bv x) w:=by
   rw[run_load];rw[qc3]at h0;rw[h0]
  rw[qaw];unfold Extern.Bytes.loadBytes;rw[Sem.run_bind,hl,Result.andThen_ok];simp only[bv];have hx:((x.toNat:Int).toNat).toUInt8=x:=by simp
  have hp:(ByteArray.push ⟨acc.toArray⟩ x)=⟨(acc++[x]).toArray⟩:=by simp[ByteArray.push]
  rw[hx,hp]
  have h2:=ih (o+1) (acc++[x]) (fun j y hj=>by
   have:=h (j+1) y (by simpa using hj)
   rw[show o+1+j=o+(j+1)by omega];exact this)
  rw[qa0,List.singleton_append]at h2;exact h2
theorem OO{w:World}{a:Option Addr}{c:Nat}{l:List UInt8}(R:Rd w a 1 B8 l):(Extern.Bytes.bytesOf (.slice a l.length c)).run P w=.ok ⟨l.toArray⟩ w:=by
 cases a with
 |none =>
  have h0:l=[]:=by
   cases l with
   |nil=>rfl
   |cons x l=>obtain⟨b,o,h⟩:=R.some' (by simp);cases h
  subst h0;rfl
 |some p =>
  cases l with
  |nil=>rfl
  |cons x l =>
   obtain⟨b,o,hp⟩:=R.some' (by simp)
   injection hp with hp
   subst hp
   have h:=Sj (P:=P) (w:=w) (b:=b) (l:=x::l) o [] (fun j y hj=>by
    have:=Rd.one (f:=bv) R hj
    simpa[adr]using this)
   exact h
theorem U9{w:World}{a b:Option Addr}{c d:Nat}{l m:List UInt8}(R:Rd w a 1 B8 l)(R2:Rd w b 1 B8 m) :
  (Extern.BytealgCompare.compare #[.slice a l.length c,.slice b m.length d]).run P w=.ok (.int .i64 (Lib.compareBytes l m)) w:=by
 change Sem.run P (do pure (goInt (Extern.BytealgCompare.cmp (<-Extern.Bytes.bytesOf (.slice a l.length c)) (<-Extern.Bytes.bytesOf (.slice b m.length d))))) w=_
 rw[Sem.run_bind,OO R,Result.andThen_ok,Sem.run_bind,OO R2,Result.andThen_ok,Sem.run_pure,Lib.cmp_eq];rfl
theorem Aau{f:FuncId}{args:Array Operand}{ats:Array TypeId}{l:List Value}{v:Value}(hg:AK ⟨dst,.call ⟨.value (.func f),args,ats⟩,ty,pos,af,g⟩ ops e=true)(hc:(callFunc f l.toArray).run P w=.ok (.value v) w)(ha:args.toList.map (ev e)=l)(h:A7 P r ops Q rest (put e dst v) w) :
  A7 P r ops Q (⟨dst,.call ⟨.value (.func f),args,ats⟩,ty,pos,af,g⟩::rest) e w:=by
 have:args.map (ev e)=l.toArray:=by subst ha;apply qca;simp only[qcu]
 exact Bp hg U (by simp[execOp,resolve,ev,Deferred.ofValue,invoke,this,hc]) h
theorem V4{t tn el:TypeId}{kn:IntKind}{x y:Operand}{s by' k:Nat}{zl:List Value}(hg:AK ⟨dst,.call ⟨.builtin .append,#[x,y],#[t,tn]⟩,ty,pos,af,g⟩ ops e=true)(hu:Cv P t=some el)(hn:P.underlying tn=some (.int kn))(hs:BE P el=some s)(hby:F6 P el=some by')(hz:BO P el=some zl)(hzl:zl.length=s)(hx:ev e x=.slice none 0 0)(hy:ev e y=.int .i64 (k:Int))(H:Ctx w0 S w L)(h:∀b c full w',Ctx w0 S w' ((b,Bl el full)::L)->OS (some ⟨b,0,none⟩) 0 c s full []->k<=c->A7 P r ops Q rest (put e dst (.slice (some ⟨b,0,none⟩) k c)) w')(hs0:0<s:=by decide)(h0:0<k:=by omega)(hm:k*by'<=140737488355328:=by omega)(h63:k<=4611686018427387904:=by omega):
  A7 P r ops Q (⟨dst,.call ⟨.builtin .append,#[x,y],#[t,tn]⟩,ty,pos,af,g⟩::rest) e w:=by
 obtain⟨i,hi⟩:∃i,P.info? el=some i:=by
  unfold BE at hs
  cases hi:P.info? el with
  |none=>rw[hi]at hs;cases hs
  |some i=>exact⟨i,rfl⟩
 have hsz:i.size=s:=by unfold BE at hs;rw[hi]at hs;exact qby hs
 have hbz:i.bytes=by':=by unfold F6 at hby;rw[hi]at hby;exact qby hby
 obtain⟨z,hz0,hz1⟩:∃z,i.zero=some z/\z.cells.toList=zl:=by
  unfold BO at hz;rw[hi]at hz;simp only[qdz]at hz
  cases hz0:i.zero with
  |none=>rw[hz0]at hz;cases hz
  |some z=>rw[hz0]at hz;exact⟨z,rfl,qby hz⟩
 have hzs:z.cells.size=s:=by rw[<-hzl,<-hz1];simp
 have hr:=Lib.run_append_grow_zeros (P:=P) w t tn ty el i z .i64 kn (Cq hu) hn hi hz0 none 0 0 [] (run_firstCells_none ..) k h0 (by omega) (by omega) (by omega) (by rw[hbz];omega) (growslice_fits (by omega) (by rw[hbz,qa3];exact hm));rw[qa3]at hr;obtain⟨G,hG⟩:=qD (grownCap w k 0 el);have hGk:k<=G:=by rw[hG];exact grownCap_ge w _ _ _
 rw[<-hG]at hr;obtain⟨full,hf⟩:=qD ((#[]++Builtin.zeroCells z.cells k++Builtin.zeroCells z.cells (G - k)).toList:List Value)
 have hlen:full.length=G*s:=by
  have h1:(Builtin.zeroCells z.cells k).size=k*s:=by simp[Builtin.zeroCells,hzs]
  have h2:(Builtin.zeroCells z.cells (G - k)).size=(G - k)*s:=by simp[Builtin.zeroCells,hzs]
  rw[hf,Array.length_toList,Array.size_append,Array.size_append,h1,h2];simp only[Array.size_empty,qa3];rw[<-qcv]
  congr 1
  omega
 have hB:(Obj.cells (#[]++Builtin.zeroCells z.cells k++Builtin.zeroCells z.cells (G - k)) el (0,0))=Bl el full:=by rw[Bl,hf]
 have hr2:(Builtin.append_ #[t,tn] ty #[.slice none 0 0,.int .i64 k]).run P w=.ok (.slice (some ⟨w.heap.size,0,none⟩) k G) (w.drew.alloc (Bl el full)):=by rw[<-hB];exact hr
 refine Bp (w':=w.drew.alloc (Bl el full)) (v := .slice (some ⟨w.heap.size,0,none⟩) k G) hg U ?_ (h w.heap.size G full _ (H.drew.alloc _) ⟨fun p hp=>(by cases hp;rfl),fun hh=>(by cases hh),hlen,qak _,(by rw[qd1,qds])⟩ hGk);simp[execOp,resolve,invoke,builtin,hx,hy,hr2]
theorem Ads{t t2:TypeId}{x y:Operand}{l m:List UInt8}(hg:AK ⟨dst,.binOp .lss t x y t2,ty,pos,af,g⟩ ops e=true)(hx:ev e x=str l)(hy:ev e y=str m)(h:A7 P r ops Q rest (put e dst (.bool (decide (Lib.compareBytes l m = -1)))) w):A7 P r ops Q (⟨dst,.binOp .lss t x y t2,ty,pos,af,g⟩::rest) e w :=
 Bp hg rfl (by
  have hq:eqGuard .lss t x y (.string ⟨l.toArray⟩) (.string ⟨m.toArray⟩)=pure ():=rfl
  simp only[execOp,hx,hy,hq,Sem.run_bind,Sem.run_pure,Result.andThen_ok,binOp,str,Op.stringOp,ByteArray.toList_eq,Qn]) h
theorem Adt{t t2:TypeId}{x y:Operand}{l m:List UInt8}(hg:AK ⟨dst,.binOp .geq t x y t2,ty,pos,af,g⟩ ops e=true)(hx:ev e x=str l)(hy:ev e y=str m)(h:A7 P r ops Q rest (put e dst (.bool (!decide (Lib.compareBytes l m = -1)))) w):A7 P r ops Q (⟨dst,.binOp .geq t x y t2,ty,pos,af,g⟩::rest) e w :=
 Bp hg rfl (by
  have hq:eqGuard .geq t x y (.string ⟨l.toArray⟩) (.string ⟨m.toArray⟩)=pure ():=rfl
  simp only[execOp,hx,hy,hq,Sem.run_bind,Sem.run_pure,Result.andThen_ok,binOp,str,Op.stringOp,ByteArray.toList_eq,Qn]) h
end
section
variable {P:Program}{e:Env}{w w0:World}{S:List Nat}{L:List (Nat × Obj)}{fn:Func}{R:Value->World->Prop}
theorem Ah7{a s2:Tmp}{t:TypeId}{p:Addr}{v v2:Value}(hr:fn.results=#[.cell a t,.tmp s2])(hd:e.ds=[])(ha:e.g a=.pointer (some p))(hv:(loadVar t p).run P w=.ok v w)(h2:e.g s2=v2)(h:R (.tuple #[v,v2]) w):NK P fn R .ret e w :=
 ⟨hd,fun tmps ht=>by
  have h1:=(ht a).trans ha;have g2:=(ht s2).trans h2;rw[qbq]at h1 g2
  exact⟨.tuple #[v,v2],by simp[results,hr,h1,g2,asAddr,hv],h⟩⟩
theorem Ah8{a s2 s3:Tmp}{t:TypeId}{p:Addr}{v v2 v3:Value}(hr:fn.results=#[.cell a t,.tmp s2,.tmp s3])(hd:e.ds=[])(ha:e.g a=.pointer (some p))(hv:(loadVar t p).run P w=.ok v w)(h2:e.g s2=v2)(h3:e.g s3=v3)(h:R (.tuple #[v,v2,v3]) w):NK P fn R .ret e w :=
 ⟨hd,fun tmps ht=>by
  have h1:=(ht a).trans ha;have g2:=(ht s2).trans h2;have g3:=(ht s3).trans h3;rw[qbq]at h1 g2 g3
  exact⟨.tuple #[v,v2,v3],by simp[results,hr,h1,g2,g3,asAddr,hv],h⟩⟩
theorem Dh{a s2:Tmp}{t t2:TypeId}{b k s:Nat}{l:List Value}{v2:Value}(hr:fn.results=#[.cell a t,.tmp s2])(hd:e.ds=[])(ha:e.g a=.pointer (some ⟨b,0,none⟩))(hag:DH P t=some true)(hs:BE P t=some s)(H:Ctx w0 S w L)(hk:L[k]?=some (b,Bl t2 l))(hl:l.length=s)(h2:e.g s2=v2)(h:R (.tuple #[.agg l.toArray,v2]) w):NK P fn R .ret e w :=
 Ah7 hr hd ha (IX hag hs hl (fun j v hv=>by rw[Ap (H.get hk),qa3];exact hv)) h2 h
theorem MP{a s2 s3:Tmp}{t t2:TypeId}{b k s:Nat}{l:List Value}{v2 v3:Value}(hr:fn.results=#[.cell a t,.tmp s2,.tmp s3])(hd:e.ds=[])(ha:e.g a=.pointer (some ⟨b,0,none⟩))(hag:DH P t=some true)(hs:BE P t=some s)(H:Ctx w0 S w L)(hk:L[k]?=some (b,Bl t2 l))(hl:l.length=s)(h2:e.g s2=v2)(h3:e.g s3=v3)(h:R (.tuple #[.agg l.toArray,v2,v3]) w):NK P fn R .ret e w :=
 Ah8 hr hd ha (IX hag hs hl (fun j v hv=>by rw[Ap (H.get hk),qa3];exact hv)) h2 h3 h
end
section
variable {P:Program}{ops rest:List Oper}{e:Env}{dst:Option Tmp}{ty:TypeId}{pos:String}{af:Array Edge}{g:Option (Nat × Bool)}{C:World->Prop}{K:Env->Prop}
theorem HS{t:TypeId}{parts:Array (Nat × Operand)}{pl:List (Nat × Nat)}{zl:List Value}(l:List Value)(hp:En P t=some pl)(hz:BO P t=some zl)(h:Wt P ops C K rest (put e dst (.agg l.toArray)))(hg:AK ⟨dst,.build t parts,ty,pos,af,g⟩ ops e=true:=by exact U)(hl:Instr.fill (fun i=>pl.toArray[i]?) zl.toArray (parts.toList.map fun p=>(p.1,ev e p.2))=some l.toArray:=by kernel_rfl):
  Wt P ops C K (⟨dst,.build t parts,ty,pos,af,g⟩::rest) e:=by
 refine Eu hg (fun w _=>?_) h;have hb:P.built t (parts.map fun(i,x)=>(i,ev e x)).toList=some l.toArray:=Vu hp hz (by rw[qcu];exact hl);simp[execOp,run_build w t _ _ hb]
end
section
variable {P:Program}{r:Option Nat}{n:Nat}{ops rest:List Oper}{Q:Exit->Env->World->Prop}{e:Env}{w w0:World}{S:List Nat}{L:List (Nat × Obj)}{dst:Option Tmp}{ty:TypeId}{pos:String}{af:Array Edge}{g:Option (Nat × Bool)}
theorem V5{fo:Operand}{fn:Fn}{ca:Array Value}(hg:AK ⟨dst,.defer ⟨.value fo,#[],#[]⟩,ty,pos,af,g⟩ ops e=true)(hf:ev e fo=.func fn #[] ca)(h:A7 P none ops Q rest (put ⟨e.g,{ target := .fn fn ca,args:=#[] }::e.ds⟩ dst undef) w):A7 P none ops Q (⟨dst,.defer ⟨.value fo,#[],#[]⟩,ty,pos,af,g⟩::rest) e w:=by
 unfold A7
 have hrun:(execOp (ev e) ⟨dst,.defer ⟨.value fo,#[],#[]⟩,ty,pos,af,g⟩).run P w=.ok (.defer { target := .fn fn ca,args:=#[] }) w:=by
  simp[execOp,resolve,hf,Deferred.ofValue]
 rw[if_pos hg,Oper.semAt_none,hrun];exact h
def Adu(P:Program)(f:FuncId)(args:Array Value)(w:World)(R:World->Prop):Prop :=
 CallsDIn Fence.wide 0 P f args .returning w fun x u w'=>u=.returning/\∃v,x=.returned v/\R w'
theorem SW{f:FuncId}{fn:Func}{c:Code}{args:Array Value}{R:World->Prop}(hf:P.funcs[f]?=some fn)(hb:fn.body=some c)(l:List Value)(hargs:args=l.toArray)(h:W P none fn.ntmps c (NK P fn fun _ w=>R w) ⟨fun i=>l.getD i undef,[]⟩ w)(hfit:(Nat.ble l.length fn.ntmps && JT fn.ntmps c)=true:=by kernel_rfl):Adu P f args w R:=by
 simp only[qao]at hfit;refine(callsDIn_of_wp (R:=fun x w'=>∃v,x=.returned v/\R w') hf hb trivial ?_).mono fun x u w' hx=>hx;refine wpIn_mono (Fh (r:=none) c _ _ w h hfit.2 _ ?_) ?_
 .refine⟨rfl,?_,fun i=>?_⟩
  .subst hargs;have:=qdb hfit.1;simp;omega
  .subst hargs;simp only[qbq,qa6];rw[qem]
   by_cases hi:i<l.length
   .simp[hi]
   .simp only[qdq,if_neg hi];rw[qb0 (by omega)];rw[qen]
    split <;> rfl
 .rintro x a' w' ⟨e',hs',hq⟩
  cases x with
  |normal=>exact⟨hs'.1.trans hq.1,let ⟨v,h1,h2⟩:=hq.2 _ hs'.2.2;⟨v,h1,_,rfl,h2⟩⟩
  |ret=>exact⟨hs'.1.trans hq.1,let ⟨v,h1,h2⟩:=hq.2 _ hs'.2.2;⟨v,h1,_,rfl,h2⟩⟩
  |exit id=>exact hq.elim
  |goto l=>exact hq.elim
  |panic c=>exact hq.elim
  |outgrown=>exact hq.elim
def Defs(P:Program):List Deferred->World->(World->Prop)->Prop
 | [],w,K=>K w
 |d::ds,w,K=>∃f ca,d={ target := .fn (.func f) ca,args:=#[] }/\Aw P f=true/\Adu P f ca w fun w'=>Defs P ds w' K
def Adv(P:Program)(fn:Func)(R:Value->World->Prop):Exit->Env->World->Prop
 | .normal,e,w | .ret,e,w=>Defs P e.ds w fun w'=>∀tmps:Array Value,(∀i,tmps.getD i undef=e.g i)->∃v,(results fn tmps).run P w'=.ok v w'/\R v w'
 |_,_,_=>False
theorem OQ{fn:Func}{R:Value->World->Prop}{tmps:Array Value}:∀{ds:List Deferred} {w:World},(Defs P ds w fun w'=>∃v,(results fn tmps).run P w'=.ok v w'/\R v w') ->
  LeavesIn Fence.wide 0 P fn tmps (fun x w'=>∃v,x=.returned v/\R v w') ds .returning w
 | [],w,⟨v,h1,h2⟩=>⟨v,h1,v,rfl,h2⟩
 |d::ds,w,⟨f,ca,h1,h2,h3⟩=>by
  subst h1;refine⟨by simp,(fun h=>by cases h),.func f,ca,f,ca,rfl,?_,fun g _=>trivial,?_⟩
  .show(invoke (.fn (.func f) ca) #[]).run P w=_
   have:(invoke (.fn (.func f) ca) #[]).run P w=(callFunc f (#[]++ca)).run P w:=rfl
   rw[this,Gl h2];simp
  .refine CallsDIn.mono (R:=fun x u w'=>u=.returning/\∃v,x=.returned v/\Defs P ds w' fun w'=>∃v,(results fn tmps).run P w'=.ok v w'/\R v w') h3 ?_;rintro x u w' ⟨rfl,v,rfl,h4⟩;exact OQ h4
theorem Defs.mono:∀{ds:List Deferred} {w:World} {K K':World->Prop},(∀w,K w->K' w)->Defs P ds w K->Defs P ds w K'
 | [],_,_,_,h,hk=>h _ hk
 |_::_,_,_,_,h,⟨f,ca,h1,h2,h3⟩=>⟨f,ca,h1,h2,CallsDIn.mono h3 fun _ _ _ hx=>⟨hx.1,let ⟨v,h4,h5⟩:=hx.2;⟨v,h4,Defs.mono h h5⟩⟩⟩
theorem SX{f:FuncId}{fn:Func}{c:Code}{args:Array Value}{R:Value->World->Prop}(hf:P.funcs[f]?=some fn)(hb:fn.body=some c)(l:List Value)(hargs:args=l.toArray)(h:W P none fn.ntmps c (Adv P fn R) ⟨fun i=>l.getD i undef,[]⟩ w)(hfit:(Nat.ble l.length fn.ntmps && JT fn.ntmps c)=true:=by kernel_rfl):Ret P f args w R:=by
 simp only[qao]at hfit;refine callsIn_of_wp_defers hf hb trivial (wpIn_mono (Fh (r:=none) c _ _ w h hfit.2 _ ?_) ?_)
 .refine⟨rfl,?_,fun i=>?_⟩
  .subst hargs;have:=qdb hfit.1;simp;omega
  .subst hargs;simp only[qbq,qa6];rw[qem]
   by_cases hi:i<l.length
   .simp[hi]
   .simp only[qdq,if_neg hi];rw[qb0 (by omega)];rw[qen]
    split <;> rfl
 .rintro x a' w' ⟨e',hs',hq⟩
  have hgo:∀w',(Defs P e'.ds w' fun w'=>∀tmps:Array Value,(∀i,tmps.getD i undef=e'.g i)->∃v,(results fn tmps).run P w'=.ok v w'/\R v w') ->
    LeavesIn Fence.wide 0 P fn a'.tmps (fun x w'=>∃v,x=.returned v/\R v w') a'.defers .returning w':=fun w' hm=>by
   rw[hs'.1];exact OQ (Defs.mono (fun w hk=>hk _ hs'.2.2) hm)
  cases x with
  |normal=>exact hgo _ hq
  |ret=>exact hgo _ hq
  |exit id=>exact hq.elim
  |goto l=>exact hq.elim
  |panic c=>exact hq.elim
  |outgrown=>exact hq.elim
theorem Qo{fn:Func}{R:Value->World->Prop}{f:FuncId}{ca:Array Value}(hd:e.ds=[{ target := .fn (.func f) ca,args:=#[] }])(hc:Aw P f=true)(K:World->Prop)(h:Adu P f ca w K)(hK:∀w',K w'->∀tmps:Array Value,(∀i,tmps.getD i undef=e.g i)->∃v,(results fn tmps).run P w'=.ok v w'/\R v w'):Adv P fn R .ret e w:=by
 show Defs P e.ds w _;rw[hd];exact⟨f,ca,rfl,hc,CallsDIn.mono h fun x u w' hx=>⟨hx.1,let ⟨v,h4,h5⟩:=hx.2;⟨v,h4,hK w' h5⟩⟩⟩
theorem OR{fn:Func}{tmps:Array Value}{s a:Tmp}{t:TypeId}{b:Nat}{v v2:Value}{t2:TypeId}{l:List Value}(hr:fn.results=#[.tmp s,.cell a t])(ht:∀i,tmps.getD i undef=e.g i)(h1:e.g s=v)(ha:e.g a=.pointer (some ⟨b,0,none⟩))(hag:DH P t=some false)(hb:w.heap[b]?=some (Bl t2 (v2::l))):(results fn tmps).run P w=.ok (.tuple #[v,v2]) w:=by
 have g1:=(ht s).trans h1;have g2:=(ht a).trans ha;rw[qbq]at g1 g2;have hl:(loadVar t ⟨b,0,none⟩).run P w=.ok v2 w:=GB hag (by rw[Ap hb];rfl);simp[results,hr,g1,g2,asAddr,hl]
theorem Aav{t el:TypeId}{m s:Nat}{zl:List Value}{ps:List (Nat × Value)}{l:Array Value}(hu:Pt P t=some (m,el))(hs:BE P el=some s)(hz:BO P t=some zl)(hl:Instr.fill (fun i=>some (i*s,s)) zl.toArray ps=some l):P.built t ps=some l:=by
 unfold BO at hz;unfold Program.built;unfold BE at hs;have hu':=NM hu
 cases hi:P.info? t with
 |none=>rw[hi]at hz;cases hz
 |some it =>
  rw[hi]at hz
  cases hzz:it.zero with
  |none=>simp[hzz]at hz
  |some z =>
   simp only[qdz,hzz,qbd,qbc]at hz;subst hz
   cases hie:P.info? el with
   |none=>rw[hie]at hs;cases hs
   |some ie =>
    rw[hie]at hs;simp only[qbd,qbc]at hs;subst hs;simp only[hu',hzz,hie]
    simpa using hl
theorem Aaw{t el:TypeId}{parts:Array (Nat × Operand)}{m s:Nat}{zl:List Value}(l:List Value)(hg:AK ⟨dst,.build t parts,ty,pos,af,g⟩ ops e=true)(hu:Pt P t=some (m,el))(hs:BE P el=some s)(hz:BO P t=some zl)(h:A7 P r ops Q rest (put e dst (.agg l.toArray)) w)(hl:Instr.fill (fun i=>some (i*s,s)) zl.toArray (parts.toList.map fun p=>(p.1,ev e p.2))=some l.toArray:=by kernel_rfl):
  A7 P r ops Q (⟨dst,.build t parts,ty,pos,af,g⟩::rest) e w:=by
 refine Bp hg U ?_ h;have hb:P.built t (parts.map fun(i,x)=>(i,ev e x)).toList=some l.toArray:=Aav hu hs hz (by rw[qcu];exact hl);simp[execOp,run_build w t _ _ hb]
end
section
variable {P:Program}{r:Option Nat}{ops rest:List Oper}{Q:Exit->Env->World->Prop}{e:Env}{w w0:World}{S:List Nat}{L:List (Nat × Obj)}{dst:Option Tmp}{ty:TypeId}{pos:String}{af:Array Edge}{g:Option (Nat × Bool)}
theorem Aax{b:Nat}{t:TypeId}{l:List Value}(h:w.heap[b]?=some (Bl t l))(k:Nat):w.freeze ⟨b,k,none⟩ 1=w.putObj b (.cells l.toArray t (k,k+1)):=by
 have hb:=Al h;unfold World.freeze World.putObj;rw[if_neg (by decide)]
 congr 1
 apply Array.ext_getElem?;intro i;rw[Array.getElem?_modify,Array.getElem?_setIfInBounds]
 by_cases hk:b=i
 .subst hk;rw[if_pos rfl,if_pos rfl,if_pos hb,h];simp[Bl]
 .rw[if_neg hk,if_neg hk]
theorem Adw{b:Nat}{t:TypeId}{l:List Value}{f:Nat × Nat}(h:w.heap[b]?=some (.cells l.toArray t f))(i:Nat):w.cell? ⟨b,i,none⟩=l[i]? := by
 unfold World.cell?;rw[h];simp
theorem Ah9{b:Nat}{t:TypeId}{l:List UInt8}{f:Nat × Nat}(h:w.heap[b]?=some (.cells (l.map bv).toArray t f)):Rd w (some ⟨b,0,none⟩) 1 B8 l:=by
 refine⟨fun _=>⟨b,0,rfl⟩,fun i x hx j v hv hj=>?_⟩;have hj0:j=0:=by omega
 subst hj0;simp only[B8,qc1,qbc]at hv;subst hv;show w.cell? ⟨b,0+i*1+0,none⟩=_;rw[Adw h];simp[hx]
theorem EY{t el:TypeId}{x:Operand}{b n c j:Nat}{l:List UInt8}(ht:Cv P t=some el)(he:P.underlying el=some (.int .u8))(hx:ev e x=.slice (some ⟨b,0,none⟩) n c)(H:Ctx w0 S w L)(hk:L[j]?=some (b,Bl el (l.map bv)))(h:∀w',Ctx w0 S w' (L.set j (b,.cells (l.map bv).toArray el (l.length,l.length+1)))->Rd w' (some ⟨b,0,none⟩) 1 B8 l->A7 P r ops Q rest (put e dst (.slice (some ⟨b,0,none⟩) n c)) w')(hg:AK ⟨dst,.convert t t x,ty,pos,af,g⟩ ops e=true:=by exact U):
  A7 P r ops Q (⟨dst,.convert t t x,ty,pos,af,g⟩::rest) e w:=by
 have hb:=H.get hk;have H':=H.setB hk (.cells (l.map bv).toArray el (l.length,l.length+1));have hsh:w.shape? b=some (el,l.length):=by rw[Adg hb,qal]
 refine Bp (w':=w.putObj b (.cells (l.map bv).toArray el (l.length,l.length+1))) hg U ?_ (h _ H' (Ah9 (HC hb)));simp[execOp,hx,convert,AJ (Cq ht),AJ he,markStringish,hsh,Aax hb]
end
def kvE(e:MapEntry):Value × Value:=(e.key,e.val)
def kvP(kk:IntKind)(p:Int × Value):Value × Value:=(.int kk p.1,p.2)
def kvD:Value × Value->Int × Value
 |(.int _ n,v)=>(n,v)
 |(_,v)=>(0,v)
theorem Ajz(kk:IntKind)(m:List (Int × Value)):(m.map (kvP kk)).map kvD=m:=by
 rw[qbf];exact List.map_id'' (fun _=>rfl) m
def VisO(kk:IntKind)(b:Nat)(m vis:List (Int × Value))(o it:Obj):Prop :=
 ∃(es:Array MapEntry) (clock:Nat) (ves rest:List MapEntry),o=.map es clock/\es.toList.map kvE=m.map (kvP kk)/\(∀e∈es.toList,e.born<clock)/\(es.toList.map (·.born)).Nodup /\
  it=.mapIter (some b) clock (ves.map (·.born)).toArray clock/\(ves++rest).Perm es.toList/\ves.map kvE=vis.map (kvP kk)
theorem VisO.perm{kk:IntKind}{b:Nat}{m vis:List (Int × Value)}{o it:Obj}(h:VisO kk b m vis o it):∃res,(vis++res).Perm m:=by
 obtain⟨es,clock,ves,rest,_,hes,_,_,_,hp,hv⟩:=h;have h1:=(hp.map kvE).map kvD;rw[qaz,qaz,hv,Ajz,hes,Ajz]at h1;exact⟨_,h1⟩
theorem VisO.le{kk:IntKind}{b:Nat}{m vis:List (Int × Value)}{o it:Obj}(h:VisO kk b m vis o it):vis.length<=m.length:=by
 obtain⟨res,h⟩:=h.perm;have:=h.length_eq;rw[qan]at this;omega
theorem VisO.mem{kk:IntKind}{b:Nat}{m vis:List (Int × Value)}{o it:Obj}(h:VisO kk b m vis o it):∀p∈vis,p∈m:=fun p hp=>by
 obtain⟨res,h⟩:=h.perm;exact h.mem_iff.1 (qa4 _ hp)
section
variable {P:Program}{r:Option Nat}{ops rest:List Oper}{Q:Exit->Env->World->Prop}{e:Env}{w w0:World}{S:List Nat}{L:List (Nat × Obj)}{dst dst2:Option Tmp}{ty ty2:TypeId}{pos pos2:String}{af af2:Array Edge}{g g2:Option (Nat × Bool)}
def EntO(kk:IntKind)(n st:Int)(m:List (Int × Value))(o:Obj):Prop :=
 ∃(es:Array MapEntry) (clock:Nat) (z:Value),o=.map (es.push { key := .int kk n,val:=z,born:=clock }) (clock+1)/\st=(clock:Nat)/\es.toList.map (fun e=>(e.key,e.val))=m.map (fun p=>(Value.int kk p.1,p.2))/\(∀e∈es.toList,e.born<clock)/\(es.toList.map (·.born)).Nodup
end
section
variable {κ:Type}[DecidableEq κ]
def BA{α:Type}(m:List (κ × α))(k:κ):Option α:=(m.find? fun p=>decide (p.1=k)).map (·.2)
def IP{α:Type}:List (κ × α)->κ->α->List (κ × α)
 | [],k,v=>[(k,v)]
 |p::m,k,v=>if p.1=k then(k,v)::m else p::IP m k v
def FH{α:Type}:List (κ × α)->κ->List (κ × α)
 | [],_=>[]
 |p::m,k=>if p.1=k then m else p::FH m k
theorem NS{α:Type}{k:κ}:∀{m:List (κ × α)},BA m k=none->FH m k=m
 | [],_=>rfl
 |p::m,h=>by
  have hp:¬p.1=k:=fun hp=>by simp[BA,hp]at h
  have hm2:BA m k=none:=by rw[<-h];simp[BA,hp]
  simp[FH,hp,NS hm2]
theorem Fm{α:Type}{k:κ}{v:α}:∀{m:List (κ × α)},BA m k=none->IP m k v=m++[(k,v)]
 | [],_=>rfl
 |p::m,h=>by
  have hp:¬p.1=k:=fun hp=>by simp[BA,hp]at h
  have hm2:BA m k=none:=by rw[<-h];simp[BA,hp]
  simp[IP,hp,Fm hm2]
end
def DT{κ:Type}(V:κ->Value)(m:List (κ × Value))(o:Obj):Prop :=
 ∃es clock,o=.map es clock/\es.toList.map (fun e=>(e.key,e.val))=m.map (fun p=>(V p.1,p.2))/\(∀e∈es.toList,e.born<clock)/\(es.toList.map (·.born)).Nodup
structure NowOk{κ:Type}[DecidableEq κ](P:Program)(k:TypeId)(kd:TypeDesc)(V:κ->Value):Prop where
 und:P.underlying k=some kd
 same:∀x y,Instr.sameNow kd (V x) (V y)=some (decide (x=y))
 check:∀{b:Bool} (v:Value) (w:World) (d:Nat),(Instr.checkKey b (d+1) k v).run P w=.ok () w
 stay:∀(x:κ) (w:World),(Instr.keyThatStays (V x) (V x)).run P w=.ok (V x) w
theorem SY(x y:List UInt8):((⟨x.toArray⟩:ByteArray) == ⟨y.toArray⟩)=decide (x=y):=by
 show(x.toArray == y.toArray)=_;rw[qar,beq_iff_eq,qap];exact⟨fun h=>by have:=qac Array.toList h;simpa using this,fun h=>by rw[h]⟩
theorem ER{P:Program}{k:TypeId}(h:P.underlying k=some .string):NowOk P k .string str where
 und:=h
 same:=fun x y=>by
  show some ((⟨x.toArray⟩:ByteArray) == ⟨y.toArray⟩)=_;rw[SY]
 check:=fun v w d=>by simp[Instr.checkKey,AJ h]
 stay:=fun x w=>by
  have h2:((⟨x.toArray⟩:ByteArray) == ⟨x.toArray⟩)=true:=by rw[SY];exact qam rfl
  simp[Instr.keyThatStays,Instr.sameBits,str,h2]
section
variable {P:Program}{κ:Type}[DecidableEq κ]{k:TypeId}{kd:TypeDesc}{V:κ->Value}
theorem HG(hK:NowOk P k kd V)(n:κ):∀(es:List MapEntry) (m:List (κ × Value)) (i:Nat),es.map (fun e=>(e.key,e.val))=m.map (fun p=>(V p.1,p.2)) ->
  (BA m n=none->Instr.findNow kd (V n) es i=some none) /\
  (∀v,BA m n=some v->∃j,Instr.findNow kd (V n) es i=some (some (i+j,v))/\j<es.length/\∀(v':Value),(es.modify j fun e=>{ e with key:=V n,val:=v' }).map (fun e=>(e.key,e.val))=(IP m n v').map (fun p=>(V p.1,p.2))/\((es[j]?).map (·.key))=some (V n) /\
   (es.eraseIdx j).map (fun e=>(e.key,e.val))=(FH m n).map (fun p=>(V p.1,p.2)))
 | [],m,i,h=>by
  cases m with
  |nil=>exact⟨fun _=>rfl,fun v hv=>by cases hv⟩
  |cons p m=>cases h
 |e::es,m,i,h=>by
  cases m with
  |nil=>cases h
  |cons p m =>
   simp only[qay,qeo,qd5]at h;obtain⟨⟨hk,hv⟩,ht⟩:=h;have ih:=HG hK n es m (i+1) ht;have hs:Instr.sameNow kd (V n) e.key=some (decide (n=p.1)):=by rw[hk];exact hK.same n p.1
   by_cases hn:p.1=n
   .have hb:decide (n=p.1)=true:=by simp[hn]
    have hg:BA (p::m) n=some p.2:=by simp[BA,hn]
    refine⟨(fun h=>by rw[hg]at h;cases h),fun v hv'=>?_⟩;rw[hg]at hv'
    injection hv' with hv'
    subst hv';refine⟨0,by simp[Instr.findNow,hs,hb,hv],by simp,fun v'=>⟨?_,by simp[hk,hn],?_⟩⟩
    .simp[IP,hn,ht,List.modify]
    .simp[FH,hn,ht]
   .have hb:decide (n=p.1)=false:=by simpa using Ne.symm hn
    have hg:BA (p::m) n=BA m n:=by simp[BA,hn]
    rw[hg];refine⟨fun h=>by simp[Instr.findNow,hs,hb,ih.1 h],fun v hv'=>?_⟩;obtain⟨j,h1,h2,h3⟩:=ih.2 v hv';refine⟨j+1,by simp[Instr.findNow,hs,hb,h1];omega,by simp;omega,fun v'=>?_⟩;obtain⟨a1,a2,a3⟩:=h3 v';refine⟨?_,by simpa using a2,?_⟩
    .simp only[qe2,qay,IP,if_neg hn,a1,hk,hv]
    .simp only[List.eraseIdx_cons_succ,qay,FH,if_neg hn,a3,hk,hv]
end
section
variable {P:Program}{r:Option Nat}{ops rest:List Oper}{Q:Exit->Env->World->Prop}{e:Env}{w w0:World}{S:List Nat}{L:List (Nat × Obj)}{dst dst2:Option Tmp}{ty ty2:TypeId}{pos pos2:String}{af af2:Array Edge}{g g2:Option (Nat × Bool)}{κ:Type}[DecidableEq κ]{kd:TypeDesc}{V:κ->Value}
omit [DecidableEq κ] in
theorem Kn{t:TypeId}(V:κ->Value)(hg:AK ⟨dst,.makeMap t none,ty,pos,af,g⟩ ops e=true)(H:Ctx w0 S w L)(h:∀b o w',DT V [] o->Ctx w0 S w' ((b,o)::L)->A7 P r ops Q rest (put e dst (.map (some b))) w') :
  A7 P r ops Q (⟨dst,.makeMap t none,ty,pos,af,g⟩::rest) e w:=by
 refine Bp (w':=w.alloc (.map #[] 0)) (v := .map (some w.heap.size)) hg U ?_ (h _ _ _ ⟨#[],0,rfl,rfl,by simp,by simp⟩ (H.alloc _));simp[execOp,Instr.makeMap,newObj,Sem.run]
theorem Qp{t k el:TypeId}{x y:Operand}{b j:Nat}{o:Obj}{m:List (κ × Value)}{n:κ}{z:Value}(hg:AK ⟨dst,.lookup t x y false,ty,pos,af,g⟩ ops e=true)(ht:HO P t=some (k,el))(hk:NowOk P k kd V)(hz:(P.info? el).bind (·.zero)=some z)(hx:ev e x=.map (some b))(hy:ev e y=V n)(H:Ctx w0 S w L)(hl:L[j]?=some (b,o))(hM:DT V m o)(h:A7 P r ops Q rest (put e dst ((BA m n).getD z)) w):A7 P r ops Q (⟨dst,.lookup t x y false,ty,pos,af,g⟩::rest) e w:=by
 obtain⟨es,clock,rfl,hes,_⟩:=hM;have hb:=H.get hl;have hf:=HG hk n es.toList m 0 hes;have hgo:(getObj b).run P w=.ok (.map es clock) w:=by simp[getObj,Sem.run,hb]
 have hzr:(zeroValue el).run P w=.ok z w:=by
  cases hi:P.info? el with
  |none=>rw[hi]at hz;cases hz
  |some i=>rw[hi]at hz;simp at hz;simp[zeroValue,typeInfo,program,Sem.run,hi,hz]
 refine Bp hg U ?_ h
 cases hm:BA m n with
 |none=>simp[execOp,Instr.lookup,AJ (EM ht),hx,hy,hgo,hk.check,Instr.findKey,AJ hk.und,hf.1 hm,hzr]
 |some v =>
  obtain⟨i,hi,_⟩:=hf.2 v hm;simp[execOp,Instr.lookup,AJ (EM ht),hx,hy,hgo,hk.check,Instr.findKey,AJ hk.und,hi]
theorem Fp{t k el:TypeId}{x y:Operand}{b j:Nat}{o:Obj}{m:List (κ × Value)}{n:κ}{z:Value}(hg:AK ⟨dst,.lookup t x y true,ty,pos,af,g⟩ ops e=true)(ht:HO P t=some (k,el))(hk:NowOk P k kd V)(hz:(P.info? el).bind (·.zero)=some z)(hx:ev e x=.map (some b))(hy:ev e y=V n)(H:Ctx w0 S w L)(hl:L[j]?=some (b,o))(hM:DT V m o)(h:A7 P r ops Q rest (put e dst (.tuple #[(BA m n).getD z,.bool (BA m n).isSome])) w):A7 P r ops Q (⟨dst,.lookup t x y true,ty,pos,af,g⟩::rest) e w:=by
 obtain⟨es,clock,rfl,hes,_⟩:=hM;have hb:=H.get hl;have hf:=HG hk n es.toList m 0 hes;have hgo:(getObj b).run P w=.ok (.map es clock) w:=by simp[getObj,Sem.run,hb]
 have hzr:(zeroValue el).run P w=.ok z w:=by
  cases hi:P.info? el with
  |none=>rw[hi]at hz;cases hz
  |some i=>rw[hi]at hz;simp at hz;simp[zeroValue,typeInfo,program,Sem.run,hi,hz]
 refine Bp hg U ?_ h
 cases hm:BA m n with
 |none=>simp[execOp,Instr.lookup,AJ (EM ht),hx,hy,hgo,hk.check,Instr.findKey,AJ hk.und,hf.1 hm,hzr]
 |some v =>
  obtain⟨i,hi,_⟩:=hf.2 v hm;simp[execOp,Instr.lookup,AJ (EM ht),hx,hy,hgo,hk.check,Instr.findKey,AJ hk.und,hi]
theorem Qq{t k el:TypeId}{b j:Nat}{o:Obj}{m:List (κ × Value)}{n:κ}(v:Value)(ht:HO P t=some (k,el))(hk:NowOk P k kd V)(H:Ctx w0 S w L)(hl:L[j]?=some (b,o))(hM:DT V m o) :
  ∃o' w',(Instr.mapUpdate t (.map (some b)) (V n) v).run P w=.ok () w'/\DT V (IP m n v) o'/\Ctx w0 S w' (L.set j (b,o')):=by
 obtain⟨es,clock,rfl,hes,hbn,hnd⟩:=hM;have hb:=H.get hl;have hf:=HG hk n es.toList m 0 hes;have hgo:(getObj b).run P w=.ok (.map es clock) w:=by simp[getObj,Sem.run,hb]
 have hso:∀o',(setObj b o').run P w=.ok () (w.putObj b o'):=fun o'=>by simp[setObj,Sem.run,hb,World.putObj]
 cases hm:BA m n with
 |none =>
  refine⟨.map (es.push { key:=V n,val:=v,born:=clock }) (clock+1),w.putObj b _,?_,⟨_,_,rfl,?_,?_,?_⟩,H.setB hl _⟩
  .simp[Instr.mapUpdate,AJ (EM ht),hgo,hk.check,Instr.findKey,AJ hk.und,hf.1 hm,hso]
  .have hms:IP m n v=m++[(n,v)]:=Fm hm;rw[hms];simp[hes]
  .intro x hx;simp only[qep,qau,qaa]at hx
   rcases hx with hx|rfl
   .have:=hbn x hx;omega
   .simp
  .simp only[qep,qaz,qay,qbr];rw[qdj];refine⟨hnd,by simp,?_⟩;intro x hx y hy;simp only[qaa]at hy;subst hy;rw[qah]at hx;obtain⟨e',he',rfl⟩:=hx;have:=hbn e' he';omega
 |some v0 =>
  obtain⟨i,hi,hil,h3⟩:=hf.2 v0 hm;obtain⟨a1,a2,_⟩:=h3 v;have hkts:=hk.stay n w
  have hold:((es[i]?).map (·.key)).getD (V n)=V n:=by
   have:es[i]?=es.toList[i]? := by rw[qdd]
   rw[this,a2];rfl
  refine⟨.map (es.modify i fun e=>{ e with key:=V n,val:=v }) clock,w.putObj b _,?_,⟨_,_,rfl,?_,?_,?_⟩,H.setB hl _⟩
  .simp[Instr.mapUpdate,AJ (EM ht),hgo,hk.check,Instr.findKey,AJ hk.und,hi,hold,hkts,hso]
  .rw[qdr];exact a1
  .intro x hx;rw[qdr,qce]at hx;obtain⟨q,hq⟩:=hx;rw[qcl]at hq
   cases hq2:es.toList[q]? with
   |none=>rw[hq2]at hq;simp at hq
   |some y =>
    rw[hq2]at hq;have hy:=hbn y (qad hq2)
    injection hq with hq
    subst hq;dsimp only
    split <;> exact hy
  .rw[qdr]
   have:(es.toList.modify i fun e=>{ e with key:=V n,val:=v }).map (·.born)=es.toList.map (·.born):=by
    apply qcg;intro q;rw[qav,qav,qcl]
    cases es.toList[q]? with
    |none=>rfl
    |some y=>show some (Value.map none,(if i=q then _ else y).born).2=some y.born;split <;> rfl
   rw[this];exact hnd
theorem GO{t k el:TypeId}{x y z:Operand}{b j:Nat}{o:Obj}{m:List (κ × Value)}{n:κ}(v:Value)(hg:AK ⟨dst,.mapUpdate t x y z,ty,pos,af,g⟩ ops e=true)(ht:HO P t=some (k,el))(hk:NowOk P k kd V)(hx:ev e x=.map (some b))(hy:ev e y=V n)(hv:ev e z=v)(H:Ctx w0 S w L)(hl:L[j]?=some (b,o))(hM:DT V m o)(h:∀o' w',DT V (IP m n v) o'->Ctx w0 S w' (L.set j (b,o'))->A7 P r ops Q rest (put e dst undef) w'):A7 P r ops Q (⟨dst,.mapUpdate t x y z,ty,pos,af,g⟩::rest) e w:=by
 obtain⟨o',w',hr,hM',H'⟩:=Qq (n:=n) v ht hk H hl hM;exact MI hg U (by simp[execOp,hx,hy,hv,hr]) (h o' w' hM' H')
theorem V6{t t2 k el ty:TypeId}{b j:Nat}{o:Obj}{m:List (κ × Value)}{n:κ}(ht:HO P t=some (k,el))(hk:NowOk P k kd V)(H:Ctx w0 S w L)(hl:L[j]?=some (b,o))(hM:DT V m o) :
  ∃o' w',(Builtin.delete_ #[t,t2] ty #[.map (some b),V n]).run P w=.ok (.tuple #[]) w'/\DT V (FH m n) o'/\Ctx w0 S w' (L.set j (b,o')):=by
 obtain⟨es,clock,rfl,hes,hbn,hnd⟩:=hM;have hb:=H.get hl;have hf:=HG hk n es.toList m 0 hes;have hgo:(getObj b).run P w=.ok (.map es clock) w:=by simp[getObj,Sem.run,hb]
 have hso:∀o',(setObj b o').run P w=.ok () (w.putObj b o'):=fun o'=>by simp[setObj,Sem.run,hb,World.putObj]
 cases hm:BA m n with
 |none =>
  refine⟨.map es clock,w.putObj b _,?_,⟨_,_,rfl,by rw[NS hm];exact hes,hbn,hnd⟩,H.setB hl _⟩;simp[Builtin.delete_,AJ (EM ht),hgo,hk.check,Instr.findKey,AJ hk.und,hf.1 hm,hso]
 |some v0 =>
  obtain⟨i,hi,hil,h3⟩:=hf.2 v0 hm;obtain⟨_,_,a3⟩:=h3 v0
  have htl:(es.eraseIdxIfInBounds i).toList=es.toList.eraseIdx i:=by
   rw[Array.eraseIdxIfInBounds,dif_pos (by simpa using hil)];simp
  refine⟨.map (es.eraseIdxIfInBounds i) clock,w.putObj b _,?_,⟨_,_,rfl,by rw[htl];exact a3,?_,?_⟩,H.setB hl _⟩
  .simp[Builtin.delete_,AJ (EM ht),hgo,hk.check,Instr.findKey,AJ hk.und,hi,hso]
  .intro x hx;rw[htl]at hx;exact hbn x (List.mem_of_mem_eraseIdx hx)
  .rw[htl];exact List.Sublist.nodup (List.Sublist.map _ (List.eraseIdx_sublist ..)) hnd
theorem XN{t t2 k el:TypeId}{x y:Operand}{b j:Nat}{o:Obj}{m:List (κ × Value)}{n:κ}(hg:AK ⟨dst,.call ⟨.builtin .delete,#[x,y],#[t,t2]⟩,ty,pos,af,g⟩ ops e=true)(ht:HO P t=some (k,el))(hk:NowOk P k kd V)(hx:ev e x=.map (some b))(hy:ev e y=V n)(H:Ctx w0 S w L)(hl:L[j]?=some (b,o))(hM:DT V m o)(h:∀o' w',DT V (FH m n) o'->Ctx w0 S w' (L.set j (b,o'))->A7 P r ops Q rest (put e dst (.tuple #[])) w'):A7 P r ops Q (⟨dst,.call ⟨.builtin .delete,#[x,y],#[t,t2]⟩,ty,pos,af,g⟩::rest) e w:=by
 obtain⟨o',w',hr,hM',H'⟩:=V6 (ty:=ty) (t2:=t2) (n:=n) ht hk H hl hM;exact Bp (w':=w') (v := .tuple #[]) hg U (by simp[execOp,resolve,invoke,builtin,hx,hy,hr]) (h o' w' hM' H')
def EntN(V:κ->Value)(n:κ)(st:Int)(m:List (κ × Value))(o:Obj):Prop :=
 ∃(es:Array MapEntry) (clock:Nat) (z:Value),o=.map (es.push { key:=V n,val:=z,born:=clock }) (clock+1)/\st=(clock:Nat)/\es.toList.map (fun e=>(e.key,e.val))=m.map (fun p=>(V p.1,p.2))/\(∀e∈es.toList,e.born<clock)/\(es.toList.map (·.born)).Nodup
def kvN{κ:Type}(V:κ->Value)(p:κ × Value):Value × Value:=(V p.1,p.2)
def VisN(V:κ->Value)(b:Nat)(m vis:List (κ × Value))(o it:Obj):Prop :=
 ∃(es:Array MapEntry) (clock:Nat) (ves rest:List MapEntry),o=.map es clock/\es.toList.map kvE=m.map (kvN V)/\(∀e∈es.toList,e.born<clock)/\(es.toList.map (·.born)).Nodup /\
  it=.mapIter (some b) clock (ves.map (·.born)).toArray clock/\(ves++rest).Perm es.toList/\ves.map kvE=vis.map (kvN V)
theorem Aia{κ:Type}[Inhabited κ]{V:κ->Value}(hJ:∀x y,V x=V y->x=y):∃U:Value->κ,∀x,U (V x)=x:=by
 refine⟨fun v => @dite _ (∃x,V x=v) (Classical.propDecidable _) (fun h=>Classical.choose h) fun _=>default,fun x=>?_⟩;have h:∃y,V y=V x:=⟨x,rfl⟩;simp only[h,dite_true];exact hJ _ _ (Classical.choose_spec h)
omit [DecidableEq κ] in
theorem VisN.perm[Inhabited κ](hJ:∀x y,V x=V y->x=y){b:Nat}{m vis:List (κ × Value)}{o it:Obj}(h:VisN V b m vis o it):∃res,(vis++res).Perm m:=by
 obtain⟨es,clock,ves,rest,_,hes,_,_,_,hp,hv⟩:=h;obtain⟨U,hU⟩:=Aia hJ
 have hD:∀m:List (κ × Value),(m.map (kvN V)).map (fun q:Value × Value=>(U q.1,q.2))=m:=fun m=>by
  rw[qbf];exact List.map_id'' (fun p=>by show(U (V p.1),p.2)=p;rw[hU]) m
 have h1:=(hp.map kvE).map (fun q:Value × Value=>(U q.1,q.2));rw[qaz,qaz,hv,hD,hes,hD]at h1;exact⟨_,h1⟩
omit [DecidableEq κ] in
theorem VisN.le[Inhabited κ](hJ:∀x y,V x=V y->x=y){b:Nat}{m vis:List (κ × Value)}{o it:Obj}(h:VisN V b m vis o it):vis.length<=m.length:=by
 obtain⟨res,h⟩:=h.perm hJ;have:=h.length_eq;rw[qan]at this;omega
omit [DecidableEq κ] in
theorem VisN.mem[Inhabited κ](hJ:∀x y,V x=V y->x=y){b:Nat}{m vis:List (κ × Value)}{o it:Obj}(h:VisN V b m vis o it):∀p∈vis,p∈m:=fun p hp=>by
 obtain⟨res,h⟩:=h.perm hJ;exact h.mem_iff.1 (qa4 _ hp)
end
open Go Go.Maps Go.WideElems Go.RowKit Go.WideShapes
theorem Zg{x y:List UInt8}(h:str x=str y):x=y:=by simpa[str]using h
theorem OT{P:Program}{k:TypeId}(hk:P.underlying k=some .string){w:World}{b:Nat}{m:List (List UInt8 × Value)}{o:Obj}(hb:w.heap[b]?=some o)(hM:DT str m o)(nd:(m.map (·.1)).Nodup)(hsz:m.length<=maxLen)(hr:∀p∈m,p.1.length<=maxLen) :
  ∃D0:DataW Unit,w.ownsMap P k JU b m.length D0/\(strKeys D0).Perm (m.map (·.1))/\Maps.size D0=m.length:=by
 obtain⟨es,clock,rfl,hes,hborn,hnd⟩:=hM
 have hlen:es.toList.length=m.length:=by
  have:=qac List.length hes
  simpa using this
 have hkeys:es.toList.map (·.key)=m.map fun p=>str p.1:=by
  have:=qac (List.map Prod.fst) hes
  simpa[qbf,qcm]using this
 have hwf:∀x∈es.toList,∃a:List UInt8,x.key=str a/\keyOf P k x.key=some (.string a):=fun x hx=>by
  have h1:x.key∈es.toList.map (·.key):=qah.2 ⟨x,hx,rfl⟩;rw[hkeys,qah]at h1;obtain⟨p,hp,h2⟩:=h1;refine⟨p.1,h2.symm,?_⟩;rw[<-h2];have h3:=WideMaps.keyOf_string_mk hk (s:=⟨p.1.toArray⟩) (by show p.1.toArray.size<=maxLen;rw[qdq];exact hr p hp)
  simpa[str]using h3
 have F:Fit P k JU es clock:=by
  refine⟨by rw[show es.size=es.toList.length by simp,hlen];exact hsz,⟨hborn,hnd,?_⟩,fun x hx=>?_⟩
  .rw[hkeys,qdl,qbn];rw[qdl,qbn]at nd;exact nd.imp fun h he=>h (Zg he)
  .obtain⟨a,_,h3⟩:=hwf x hx;exact⟨(.string a,.nil),by simp[rd,h3,JU]⟩
 have hrg:es.toList.map (rg P k JU)=(m.map fun p=>(Lit.string p.1,(DataW.nil:DataW Unit))):=by
  refine qcg fun i=>?_;rw[qav,qav];have hki:=qac (fun l:List Value=>l[i]?) hkeys;simp only[qav]at hki
  cases hx:es.toList[i]? with
  |none =>
   rw[hx]at hki
   cases hm:m[i]? with
   |none=>rfl
   |some p=>rw[hm]at hki;cases hki
  |some x =>
   rw[hx]at hki
   cases hm:m[i]? with
   |none=>rw[hm]at hki;cases hki
   |some p =>
    rw[hm]at hki;obtain⟨a,h1,h3⟩:=hwf x (qad hx);have h2:x.key=str p.1:=qby hki;obtain rfl:a=p.1:=Zg (h1.symm.trans h2);show some (rg P k JU x)=some _;rw[rg_of (y:=(.string p.1,.nil)) (by simp[rd,h3,JU])]
 refine⟨.map ((es.toList.map (rg P k JU)).foldr DataW.insert []),⟨es,clock,hb,F,by rw[show es.size=es.toList.length by simp,hlen];exact qaf _,rfl⟩,?_,?_⟩
 .show(((es.toList.map (rg P k JU)).foldr DataW.insert []).map fun p=>Go.strOf p.1).Perm _;refine((sorted_perm _).map _).trans ?_;rw[hrg,qbf];exact List.Perm.of_eq (qcw fun p _=>rfl)
 .show((es.toList.map (rg P k JU)).foldr DataW.insert []).length=_;rw[(sorted_perm _).length_eq,qal,hlen]
theorem OU{w:World}{base:Nat}{e:TypeId}{v:Value}{xs:List (List UInt8)}{n:Nat}(hn:n=xs.length)(h:w.ownsRow base e 1 v n (xs.map str)) :
  ∃a c,v=.slice a xs.length c/\Rd w a 1 (fun x:List UInt8=>[str x]) xs/\xs.length<=c/\(xs=[]\/base<=(adr a).block):=by
 subst hn
 rcases h.2 with⟨rfl,hz⟩|⟨g,cap,cur,rfl,hbase,hg,hcap,_,hsz,hpre⟩
 .have:xs=[]:=qa9 hz
  subst this;exact⟨none,0,rfl,Rd.nil,qaf _,.inl rfl⟩
 .refine⟨_,cap,rfl,?_,hcap,.inr hbase⟩
  have hO:OS (some ⟨g,0,none⟩) xs.length cap 1 cur.toList (xs.map str) :=
   ⟨fun p hp=>(by cases hp;rfl),fun hp=>(by cases hp),by simpa using hsz,hcap,hpre⟩
  exact hO.rd1 (t:=e) fun x hx=>by
   rw[KZ rfl,qaa]at hx;subst hx;show w.heap[g]?=some (.cells cur.toList.toArray e (0,0));rw[Array.toArray_toList];exact hg
abbrev Mt:=Nat->Prop
structure Grw(M M':Mt)(w w':World):Prop where
 ext:∃S,(∀x∈S,M x\/w.heap.size<=x)/\Ext S w w'
 new:∀x,M' x->M x\/w.heap.size<=x
theorem Grw.to{M M':Mt}{w w':World}(g:Grw M M' w w'){b:Nat}{o:Obj}(hb:w.heap[b]?=some o)(hn:¬M b):w'.heap[b]?=some o:=by
 obtain⟨S,hS,hx⟩:=g.ext;have hl:=Al hb;rw[hx.block b hl fun h=>by rcases hS b h with h|h;exact hn h;omega];exact hb
theorem Grw.size{M M':Mt}{w w':World}(g:Grw M M' w w'):w.heap.size<=w'.heap.size:=let ⟨_,_,hx⟩:=g.ext;hx.size
theorem Grw.not{M M':Mt}{w w':World}(g:Grw M M' w w'){b:Nat}(hb:b<w.heap.size)(hn:¬M b):¬M' b:=fun h=>by
 rcases g.new b h with h|h
 .exact hn h
 .omega
theorem Grw.call{M M':Mt}{w0 w w':World}(h:Ext [] w0 w)(_:∀x,M x->x<w0.heap.size)(g:Grw M M' w w'):Grw M M' w0 w':=by
 obtain⟨S,hS,hx⟩:=g.ext;have hs:=h.size;exact⟨⟨S,fun x hm=>(hS x hm).imp id fun h=>by omega,(h.mono (by simp)).trans hx⟩,fun x hm=>(g.new x hm).imp id fun h=>by omega⟩
def IterOk(P:Program)(gf:FuncId)(ca:Array Value)(Z:List Nat)(K:Mt->World->Prop)(xs:List (List Value)):Prop :=
 ∀(l:Nat) (w:World) (J:Nat->Mt->World->Prop) (E:World->Prop),(∃M,J 0 M w)->(∀i M w' w'',J i M w'->Ext Z w' w''->J i M w'')->(∀w' w'',E w'->Ext Z w' w''->E w'')->(∀i M w',J i M w'->(∀x,M x->x<w'.heap.size)/\K M w') ->
  (∀i v M w',xs[i]?=some v->J i M w'->YieldAt P l v w' fun u w''=>(u=.bool true/\∃M',J (i+1) M' w''/\Grw M M' w' w'')\/(u=.bool false/\E w'')) ->
  Ret P gf (#[.func (.yield l) #[] #[]]++ca) w fun _ w'=>(∃M,J xs.length M w')\/E w'
section
variable {P:Program}{Q:Exit->Env->World->Prop}{e:Env}{w:World}{n:Nat}
def putsP(e:Env)(l:List (Tmp × Value)):Env:=l.foldl (fun e p=>put e (some p.1) p.2) e
def Qbody(D l:Nat)(J1:Mt->World->Prop)(E:World->Prop)(M:Mt)(w wB:World):Exit->Env->World->Prop
 | .normal,_,w3=>∃M',J1 M' w3/\(∀x,M' x->M x\/w.heap.size<=x)/\∃S,Ext S wB w3/\∀x∈S,M x\/w.heap.size<=x
 | .ret,_,w3=>E w3/\∃S,Ext S wB w3/\D∉S/\l∉S
 |_,_,_=>False
def Qassign(P:Program)(D l n:Nat)(body:Code)(J1:Mt->World->Prop)(E:World->Prop)(M:Mt)(w:World):Exit->Env->World->Prop
 | .normal,e,w1=>Ext [] w w1/\∀wB,Ext [l] w1 wB->W P (some l) n body (Qbody D l J1 E M w wB) e wB
 |_,_,_=>False
theorem Ext.to{S:List Nat}{w w':World}(h:Ext S w w'){b:Nat}{o:Obj}(hb:w.heap[b]?=some o)(hn:b∉S):w'.heap[b]?=some o:=by
 rw[h.block b (Al hb) hn];exact hb
end
section
variable {P:Program}{ops rest:List Oper}{e:Env}{C:World->Prop}{K:Env->Prop}{dst:Option Tmp}{ty:TypeId}{pos:String}{af:Array Edge}{g:Option (Nat × Bool)}{κ:Type}[DecidableEq κ]{k:TypeId}{kd:TypeDesc}{V:κ->Value}
theorem V7{t el:TypeId}{b:Nat}{w:World}{o:Obj}{m:List (κ × Value)}(n:κ){z:Value}(ok:Bool)(ht:HO P t=some (k,el))(hk:NowOk P k kd V)(hz:(P.info? el).bind (·.zero)=some z)(hb:w.heap[b]?=some o)(hM:DT V m o) :
  (Instr.lookup t (.map (some b)) (V n) ok).run P w=.ok (if ok=true then .tuple #[(BA m n).getD z,.bool (BA m n).isSome]else(BA m n).getD z) w:=by
 obtain⟨es,clock,rfl,hes,_⟩:=hM;have hf:=HG hk n es.toList m 0 hes;have hgo:(getObj b).run P w=.ok (.map es clock) w:=by simp[getObj,Sem.run,hb]
 have hzr:(zeroValue el).run P w=.ok z w:=by
  cases hi:P.info? el with
  |none=>rw[hi]at hz;cases hz
  |some i=>rw[hi]at hz;simp at hz;simp[zeroValue,typeInfo,program,Sem.run,hi,hz]
 cases hm:BA m n with
 |none=>cases ok <;> simp[Instr.lookup,AJ (EM ht),hgo,hk.check,Instr.findKey,AJ hk.und,hf.1 hm,hzr]
 |some v =>
  obtain⟨i,hi,_⟩:=hf.2 v hm;cases ok <;> simp[Instr.lookup,AJ (EM ht),hgo,hk.check,Instr.findKey,AJ hk.und,hi]
theorem V8{t el:TypeId}{x y:Operand}{b:Nat}{o:Obj}{m:List (κ × Value)}(n:κ){z:Value}(hg:AK ⟨dst,.lookup t x y true,ty,pos,af,g⟩ ops e=true)(ht:HO P t=some (k,el))(hk:NowOk P k kd V)(hz:(P.info? el).bind (·.zero)=some z)(hx:ev e x=.map (some b))(hy:ev e y=V n)(hb:∀w,C w->w.heap[b]?=some o)(hM:DT V m o)(h:Wq P ops C K rest (put e dst (.tuple #[(BA m n).getD z,.bool (BA m n).isSome]))):Wq P ops C K (⟨dst,.lookup t x y true,ty,pos,af,g⟩::rest) e :=
 IB hg (fun w hw=>by simp[execOp,hx,hy,V7 n true ht hk hz (hb w hw) hM]) h
omit [DecidableEq κ] in
theorem SZ{r:Option Nat}{Q:Exit->Env->World->Prop}{w w0:World}{S:List Nat}{L:List (Nat × Obj)}{t k el:TypeId}{x:Operand}{b j:Nat}{o:Obj}{m:List (κ × Value)}(hg:AK ⟨dst,.call ⟨.builtin .clear,#[x],#[t]⟩,ty,pos,af,g⟩ ops e=true)(ht:HO P t=some (k,el))(hx:ev e x=.map (some b))(H:Ctx w0 S w L)(hl:L[j]?=some (b,o))(hM:DT V m o)(h:∀o' w',DT V [] o'->Ctx w0 S w' (L.set j (b,o'))->A7 P r ops Q rest (put e dst (.tuple #[])) w') :
  A7 P r ops Q (⟨dst,.call ⟨.builtin .clear,#[x],#[t]⟩,ty,pos,af,g⟩::rest) e w:=by
 obtain⟨es,clock,rfl,_⟩:=hM;have hb:=H.get hl;have hgo:(getObj b).run P w=.ok (.map es clock) w:=by simp[getObj,Sem.run,hb]
 have hso:(setObj b (.map #[] clock)).run P w=.ok () (w.putObj b (.map #[] clock)):=by simp[setObj,Sem.run,hb,World.putObj]
 refine Bp (w':=w.putObj b (.map #[] clock)) (v := .tuple #[]) hg U ?_ (h _ _ ⟨#[],clock,rfl,rfl,by simp,by simp⟩ (H.setB hl _));simp[execOp,resolve,invoke,builtin,hx,Builtin.clear_,AJ (EM ht),hgo,hso]
end
section
variable {P:Program}{r:Option Nat}{ops rest:List Oper}{Q:Exit->Env->World->Prop}{e:Env}{w:World}{dst:Option Tmp}{ty:TypeId}{pos:String}{af:Array Edge}{g:Option (Nat × Bool)}{C:World->Prop}{K:Env->Prop}{t t2:TypeId}{x y:Operand}{a b n:Nat}
theorem XO(hg:AK ⟨dst,.binOp .shr t x y t2,ty,pos,af,g⟩ ops e=true){k2:IntKind}(hx:ev e x=.int .i64 a)(hy:ev e y=.int k2 n)(h:A7 P r ops Q rest (put e dst (.int .i64 ((a / 2 ^ n:Nat):Int))) w)(hn:n<=64:=by decide):A7 P r ops Q (⟨dst,.binOp .shr t x y t2,ty,pos,af,g⟩::rest) e w :=
 Bp hg rfl (BU hx hy (by show(Op.shift .shr .i64 (a:Int) k2 (n:Int)).run P w=_;rw[U4 (by exact hn)];rfl)) h
end
open Go Go.ChangeShapes Go.WideShapes Go.RowKit
theorem Ext.below{w w':World}(h:Ext [] w w'):Below w.heap.size w w':=⟨h.os,h.tape,h.output,h.size,fun k hk=>h.block k hk (by simp)⟩
section
variable {H:Type}{enc:TypeId × Value->H}{P:Program}{w:World}{base:Nat}{spare:Nat->Bool}{held:Bool}
theorem Ko:∀{ts:List TypeId} {vs:List Value} {ds:List (DataW H)} {ps:List MemPlace},DataW.TrodAll enc P w base spare held ts vs ds ps->ds.length=ts.length
 | [],vs,ds,ps,h=>by obtain⟨_,rfl,_⟩:=trodAll_nil h;rfl
 |t::ts,vs,ds,ps,h=>by
  obtain⟨v,vs',d,ds',p,q,rfl,rfl,rfl,_,hr⟩:=trodAll_cons h;simp[Ko hr]
theorem LL{W W':World}{sp':Nat->Bool}(hl:laidOutB P=true)(hsp:∀b,b<W.heap.size->sp' b=true)(hb:Below W.heap.size W W') :
  ∀{ts:List TypeId} {vs:List Value} {ds:List (DataW H)} {ps:List MemPlace},(∀t∈ts,P.readableRec t=true/\t<P.types.size)->(∀x∈ps,x.block<W.heap.size) ->
   DataW.TrodAll enc P W 0 (fun _=>true) true ts vs ds ps->DataW.TrodAll enc P W' 0 sp' true ts vs ds ps
 | [],vs,ds,ps,_,_,h=>by obtain⟨rfl,rfl,rfl⟩:=trodAll_nil h;rfl
 |t::ts,vs,ds,ps,hr,hp,h=>by
  obtain⟨v,vs',d,ds',p,q,rfl,rfl,rfl,h0,h1⟩:=trodAll_cons h;refine⟨p,q,WideElems.Trod_stays hl (hr t (by simp)).1 (hr t (by simp)).2 h0 (fun x hx=>hb.same (hp x (by simp[hx]))) (fun x hx=>hsp _ (hp x (by simp[hx]))),?_,rfl⟩;exact LL hl hsp hb (fun t ht=>hr t (by simp[ht])) (fun x hx=>hp x (by simp[hx])) h1
theorem Adx{f:Func}{s:ChangeSpec}{W W':World}{args:Array Value}{ds gs:List (DataW H)}{before:List MemPlace}{tb:TypeId}(hl:laidOutB P=true)(hv:s.vars=[])(hres:f.resultTypes=#[tb])(htb:P.underlying tb=some .bool)(hs:∀ds:List (DataW H),ds.length=f.params.size->s.fn H ds={ results:=[.lit (.bool true)],args:=ds })(hW:DataW.Whole enc P f.params.toList s.vars false W args.toList ds gs before)(hx:Ext [] W W')(hr:(f.params.toList.all fun t=>P.readableRec t && decide (t<P.types.size))=true:=by kernel_rfl):s.post enc P f false true false false W args (.bool true) W':=by
 have hW':=hW;obtain⟨p,q,hA,hV,rfl,_,_⟩:=hW;rw[hv]at hV;obtain⟨rfl,rfl⟩:=trodVars_none hV;have hlen:ds.length=f.params.size:=by rw[Ko hA];simp
 refine⟨ds,[],p++[],[],p,[],hW',?_,?_,?_,hx.below.frame _,fun h=>by cases h⟩
 .rw[qa2,hs ds hlen,hres];exact trodAll_mk1 ⟨1,by simp[DataW.trod,Value.cells,htb]⟩
 .rw[qa2,hs ds hlen];refine LL hl (fun b hb=>by simpa using hb) hx.below (fun t ht=>?_) (fun x hxp=>?_) hA
  .have:=qbz.1 hr t ht
   simpa using this
  .exact hW'.lt x (by simp[hxp])
 .rw[hv,qa2,hs ds hlen];rfl
theorem Le{k:IntKind}{n:Int}(h:(Lit.int k n).wf=true):k.min<=n/\n<=k.max:=by
 simpa[Lit.wf]using h
end
open Go Go.ChangeShapes Go.WideShapes
section
variable {P:Program}{H:Type}{enc:TypeId × Value->H}{w:World}{base:Nat}{spare:Nat->Bool}{held:Bool}
def Light(P:Program)(t:TypeId)(d:DataW H):Prop:=∀x∈d.weights P t,x<=reachBytes
theorem JP:∀{ts:List TypeId} {l:List (DataW H)} {i:Nat} {t:TypeId} {d:DataW H},ts[i]?=some t->l[i]?=some d->∀x∈d.weights P t,x∈DataW.weightsEach P ts l
 | [],_,i,_,_,h,_=>by simp at h
 |_::_,[],i,_,_,_,h=>by simp at h
 |t::ts,d::l,0,_,_,h1,h2=>by
  simp only[qc1,qbc]at h1 h2;subst h1 h2;intro x hx;unfold DataW.weightsEach;exact qa4 _ hx
 |t::ts,d::l,i+1,_,_,h1,h2=>by
  intro x hx;unfold DataW.weightsEach;exact qax _ (JP (by simpa using h1) (by simpa using h2) x hx)
theorem Light.part{t:TypeId}{fs:Array Field}{ps:List (DataW H)}(ht:P.underlying t=some (.struct fs))(h:Light P t (.agg ps)){i:Nat}{f:Field}{d:DataW H}(hf:fs[i]?=some f)(hd:ps[i]?=some d):Light P f.type d:=by
 intro x hx;refine h x ?_;unfold DataW.weights;rw[ht];exact JP (ts:=fs.toList.map (·.type)) (i:=i) (by rw[qav,qdd,hf];rfl) hd x hx
end
end Go.GV
namespace Go.Proofs.YtcpgbcabmcbclaaGreatDoor
open Go.GV Go.Proofs.Tryz
theorem NT:DH prog 117=some true:=by kernel_rfl
theorem F7:DH prog 143=some false:=by kernel_rfl
theorem NU:DH prog 146=some false:=by kernel_rfl
theorem Akz:DH prog 179=some false:=by kernel_rfl
theorem BK:DH prog 181=some false:=by kernel_rfl
theorem BH:DH prog 183=some true:=by kernel_rfl
theorem Dd:DH prog 185=some true:=by kernel_rfl
theorem Qr:DH prog 186=some false:=by kernel_rfl
theorem BL:DH prog 24=some false:=by kernel_rfl
theorem CY:DH prog 27=some false:=by kernel_rfl
theorem Ev:DH prog 28=some false:=by kernel_rfl
theorem DU:DH prog 3=some false:=by kernel_rfl
theorem ET:DH prog 31=some false:=by kernel_rfl
theorem OV:DH prog 36=some false:=by kernel_rfl
theorem Gx:DH prog 4=some false:=by kernel_rfl
theorem Jb:DH prog 40=some false:=by kernel_rfl
theorem ag_46:DH prog 46=some false:=by kernel_rfl
theorem Sk:DH prog 5=some false:=by kernel_rfl
theorem Qt:DH prog 56=some true:=by kernel_rfl
theorem Ady:DH prog 68=some true:=by kernel_rfl
theorem Ta:DH prog 69=some false:=by kernel_rfl
theorem Qu:DH prog 70=some false:=by kernel_rfl
theorem FU:DH prog 74=some false:=by kernel_rfl
theorem Zh:DH prog 76=some true:=by kernel_rfl
theorem LM:DH prog 81=some false:=by kernel_rfl
theorem JQ:DH prog 89=some false:=by kernel_rfl
theorem ag_9:DH prog 9=some false:=by kernel_rfl
theorem Jc:DH prog 90=some false:=by kernel_rfl
theorem LN:DH prog 91=some false:=by kernel_rfl
theorem Zi:DH prog 92=some false:=by kernel_rfl
theorem NV:Pt prog 163=some (512,5):=by kernel_rfl
theorem J7:Pt prog 258=some (2,181):=by kernel_rfl
theorem Ak0:F6 prog 146=some 1:=by kernel_rfl
theorem XP:F6 prog 183=some 32:=by kernel_rfl
theorem J8:F6 prog 185=some 56:=by kernel_rfl
theorem Adz:F6 prog 24=some 24:=by kernel_rfl
theorem by_3:F6 prog 3=some 8:=by kernel_rfl
theorem Pu:F6 prog 5=some 1:=by kernel_rfl
theorem by_56:F6 prog 56=some 56:=by kernel_rfl
theorem Aj0:F6 prog 68=some 48:=by kernel_rfl
abbrev qC:List Nat:=[8,9,10,13,16,17,18,19,20,21,24,25,26,28,30,31,32,33,34,35,36,37,39,40,42,43,44,45,46,47,48,49,54,59,60,64,65,66,67,68,69,70,71,72,73,74,75,76,78,80,81,82,83,84,85,86,87,89,90,91,92,93,94,95,96,97,98,99,100,101,105,106,107,108,109,110,111,112,113,114,115,116,117,118,119,120,121,122,123,124,125,126,127,128,129,130,131,132,138,139,140,141,142,144,145,146,147,148,149,150,151,152,155,156,157,158,171,175,176,177,178,179,180,181,182,201,202,203,210,211]
theorem qB{f:Nat}(h:qC.any (Nat.beq f)=true:=by exact U):Aw prog f=true:=by obtain⟨g,h,e⟩:=List.any_eq_true.1 h;rw[Nat.eq_of_beq_eq_true e];exact List.all_eq_true.1 (show qC.all (Aw prog)=true by kernel_rfl) g h
theorem Qz:Cv prog 107=some 9:=by kernel_rfl
theorem NW:Cv prog 131=some 46:=by kernel_rfl
theorem Ep:Cv prog 143=some 146:=by kernel_rfl
theorem Br:Cv prog 181=some 185:=by kernel_rfl
theorem Er:Cv prog 190=some 183:=by kernel_rfl
theorem HV:Cv prog 238=some 181:=by kernel_rfl
theorem AW:Cv prog 24=some 5:=by kernel_rfl
theorem EU:Cv prog 36=some 68:=by kernel_rfl
theorem GX:Cv prog 39=some 56:=by kernel_rfl
theorem Fv:Cv prog 40=some 3:=by kernel_rfl
theorem Ew:Cv prog 69=some 24:=by kernel_rfl
theorem HW:BI prog 117 0=some 0:=by kernel_rfl
theorem Aev:BI prog 117 1=some 1:=by kernel_rfl
theorem MS:BI prog 124 0=some 0:=by kernel_rfl
theorem Aew:BI prog 124 1=some 1:=by kernel_rfl
theorem MT:BI prog 124 2=some 2:=by kernel_rfl
theorem MU:BI prog 124 3=some 3:=by kernel_rfl
theorem Kp:BI prog 124 4=some 4:=by kernel_rfl
theorem Kq:BI prog 124 5=some 5:=by kernel_rfl
theorem VB:BI prog 124 6=some 6:=by kernel_rfl
theorem DF:BI prog 145 0=some 0:=by kernel_rfl
theorem VC:BI prog 162 0=some 0:=by kernel_rfl
theorem Kr:BI prog 162 1=some 1:=by kernel_rfl
theorem VD:BI prog 162 2=some 2:=by kernel_rfl
theorem Dl:BI prog 183 0=some 0:=by kernel_rfl
theorem Bq:BI prog 183 1=some 1:=by kernel_rfl
theorem EZ:BI prog 185 0=some 0:=by kernel_rfl
theorem Ks:BI prog 185 1=some 1:=by kernel_rfl
theorem F8:BI prog 185 2=some 2:=by kernel_rfl
theorem Jd:BI prog 188 0=some 0:=by kernel_rfl
theorem Q0:BI prog 188 1=some 1:=by kernel_rfl
theorem Q1:BI prog 188 2=some 2:=by kernel_rfl
theorem P3:BI prog 56 0=some 0:=by kernel_rfl
theorem ID:BI prog 56 1=some 1:=by kernel_rfl
theorem MV:BI prog 56 2=some 2:=by kernel_rfl
theorem H3:BI prog 68 0=some 0:=by kernel_rfl
theorem Lf:BI prog 68 1=some 1:=by kernel_rfl
theorem MW:BI prog 72 0=some 0:=by kernel_rfl
theorem J9:BI prog 72 1=some 1:=by kernel_rfl
theorem P6:BI prog 72 2=some 2:=by kernel_rfl
theorem Lg:BI prog 72 3=some 3:=by kernel_rfl
theorem Zo:BI prog 76 0=some 0:=by kernel_rfl
theorem MX:BI prog 76 1=some 1:=by kernel_rfl
theorem JA:BI prog 76 2=some 2:=by kernel_rfl
theorem P7:BI prog 94 0=some 0:=by kernel_rfl
theorem Lh:BI prog 94 1=some 1:=by kernel_rfl
theorem IE:BI prog 94 2=some 2:=by kernel_rfl
theorem JC:BI prog 94 3=some 3:=by kernel_rfl
theorem P9:BI prog 94 4=some 4:=by kernel_rfl
theorem IF:BI prog 94 5=some 5:=by kernel_rfl
theorem GP:BI prog 94 6=some 6:=by kernel_rfl
theorem PA:BI prog 94 7=some 7:=by kernel_rfl
theorem Li:BI prog 94 8=some 8:=by kernel_rfl
theorem Zp:BI prog 94 9=some 9:=by kernel_rfl
theorem mixed:Tryz.prog.follows .mixedOrders=true:=by kernel_rfl
theorem Q2:HO prog 199=some (3,3):=by kernel_rfl
theorem Te:HO prog 70=some (3,69):=by kernel_rfl
theorem Na:HO prog 91=some (9,24):=by kernel_rfl
theorem Q4:HO prog 92=some (9,3):=by kernel_rfl
theorem UC:En prog 117=some [(0,1),(1,1)]:=by kernel_rfl
theorem Alt:En prog 124=some [(0,1),(1,1),(2,1),(3,1),(4,1),(5,1),(6,1)]:=by kernel_rfl
theorem Alu:En prog 145=some [(0,1)]:=by kernel_rfl
theorem Alw:En prog 162=some [(0,1),(1,1),(2,1)]:=by kernel_rfl
theorem Gp:En prog 183=some [(0,1),(1,1)]:=by kernel_rfl
theorem Me:En prog 185=some [(0,1),(1,1),(2,1)]:=by kernel_rfl
theorem Aex:En prog 188=some [(0,1),(1,1),(2,1)]:=by kernel_rfl
theorem Tf:En prog 56=some [(0,1),(1,1),(2,1)]:=by kernel_rfl
theorem Aey:En prog 68=some [(0,1),(1,1)]:=by kernel_rfl
theorem pl_72:En prog 72=some [(0,1),(1,1),(2,1),(3,1)]:=by kernel_rfl
theorem Aez:En prog 76=some [(0,1),(1,1),(2,1)]:=by kernel_rfl
theorem pl_94:En prog 94=some [(0,1),(1,1),(2,1),(3,1),(4,1),(5,1),(6,1),(7,1),(8,1),(9,1)]:=by kernel_rfl
theorem GD:BE prog 117=some 2:=by kernel_rfl
theorem DV:BE prog 146=some 1:=by kernel_rfl
theorem C4:BE prog 181=some 1:=by kernel_rfl
theorem Ba:BE prog 183=some 2:=by kernel_rfl
theorem Bh:BE prog 185=some 3:=by kernel_rfl
theorem Ae0:BE prog 186=some 1:=by kernel_rfl
theorem FA:BE prog 24=some 1:=by kernel_rfl
theorem Alx:BE prog 258=some 2:=by kernel_rfl
theorem Fw:BE prog 28=some 1:=by kernel_rfl
theorem GZ:BE prog 3=some 1:=by kernel_rfl
theorem Ae1:BE prog 31=some 1:=by kernel_rfl
theorem VF:BE prog 36=some 1:=by kernel_rfl
theorem Ae2:BE prog 4=some 1:=by kernel_rfl
theorem Q5:BE prog 40=some 1:=by kernel_rfl
theorem VG:BE prog 46=some 1:=by kernel_rfl
theorem CO:BE prog 5=some 1:=by kernel_rfl
theorem Fx:BE prog 56=some 3:=by kernel_rfl
theorem FV:BE prog 68=some 2:=by kernel_rfl
theorem sz_69:BE prog 69=some 1:=by kernel_rfl
theorem VH:BE prog 74=some 1:=by kernel_rfl
theorem Nb:BE prog 76=some 3:=by kernel_rfl
theorem Akl:BE prog 81=some 1:=by kernel_rfl
theorem sz_89:BE prog 89=some 1:=by kernel_rfl
theorem sz_9:BE prog 9=some 1:=by kernel_rfl
theorem sz_90:BE prog 90=some 1:=by kernel_rfl
theorem Ya:Tryz.prog.underlying 164=some (.int .u32):=by kernel_rfl
theorem LO:Tryz.prog.underlying 27=some (.pointer 72):=by kernel_rfl
theorem EW:Tryz.prog.underlying 3=some (.int .i64):=by kernel_rfl
theorem VI:Tryz.prog.underlying 31=some (.pointer 94):=by kernel_rfl
theorem un_4:Tryz.prog.underlying 4=some (.bool):=by kernel_rfl
theorem FB:Tryz.prog.underlying 5=some (.int .u8):=by kernel_rfl
theorem Akm:Tryz.prog.underlying 54=some (.int .u64):=by kernel_rfl
theorem Gy:Tryz.prog.underlying 74=some (.int .u64):=by kernel_rfl
theorem Zq:Tryz.prog.underlying 81=some (.pointer 124):=by kernel_rfl
theorem Q6:Tryz.prog.underlying 89=some (.pointer 145):=by kernel_rfl
theorem Fq:Tryz.prog.underlying 9=some (.string):=by kernel_rfl
theorem Akn:Tryz.prog.underlying 90=some (.pointer 162):=by kernel_rfl
theorem Kt:BO prog 117=some ([.int .u64 0,.slice none 0 0]):=by kernel_rfl
theorem Aly:BO prog 124=some ([.pointer none,.int .i64 0,.int .i64 0,.int .i64 0,.int .u64 0,.int .i64 0,.bool false]):=by kernel_rfl
theorem Alz:BO prog 145=some ([.slice none 0 0]):=by kernel_rfl
theorem Al0:BO prog 146=some ([.int .u8 0]):=by kernel_rfl
theorem Al1:BO prog 162=some ([.pointer none,.pointer none,.int .i64 0]):=by kernel_rfl
theorem Al2:BO prog 163=some (List.replicate 512 (.int .u8 0:Value)):=by kernel_rfl
theorem Mf:BO prog 181=some ([.slice none 0 0]):=by kernel_rfl
theorem Cb:BO prog 183=some ([.bool false,.slice none 0 0]):=by kernel_rfl
theorem Cr:BO prog 185=some ([.slice none 0 0,.slice none 0 0,.int .i64 0]):=by kernel_rfl
theorem Ae3:BO prog 186=some ([.pointer none]):=by kernel_rfl
theorem Ae4:BO prog 188=some ([.pointer none,.slice none 0 0,.slice none 0 0]):=by kernel_rfl
theorem Tg:BO prog 24=some ([.slice none 0 0]):=by kernel_rfl
theorem Ae5:BO prog 258=some ([.slice none 0 0,.slice none 0 0]):=by kernel_rfl
theorem VJ:BO prog 28=some ([.int .i64 0]):=by kernel_rfl
theorem Yb:BO prog 3=some ([.int .i64 0]):=by kernel_rfl
theorem Ae6:BO prog 31=some ([.pointer none]):=by kernel_rfl
theorem zc_36:BO prog 36=some ([.slice none 0 0]):=by kernel_rfl
theorem zc_40:BO prog 40=some ([.slice none 0 0]):=by kernel_rfl
theorem Zr:BO prog 46=some ([.nilFunc]):=by kernel_rfl
theorem HY:BO prog 5=some ([.int .u8 0]):=by kernel_rfl
theorem Ha:BO prog 56=some ([.slice none 0 0,.slice none 0 0,.bool false]):=by kernel_rfl
theorem Ku:BO prog 68=some ([.slice none 0 0,.slice none 0 0]):=by kernel_rfl
theorem zc_69:BO prog 69=some ([.slice none 0 0]):=by kernel_rfl
theorem zc_72:BO prog 72=some ([.slice none 0 0,.map none,.int .i64 0,.bool false]):=by kernel_rfl
theorem zc_74:BO prog 74=some ([.int .u64 0]):=by kernel_rfl
theorem Q7:BO prog 76=some ([.int .i64 0,.int .i64 0,.int .u64 0]):=by kernel_rfl
theorem zc_94:BO prog 94=some ([.pointer none,.pointer none,.pointer none,.pointer none,.int .u64 0,.int .i64 0,.map none,.map none,.int .i64 0,.bool false]):=by kernel_rfl
theorem Q8:(Tryz.prog.info? 24).bind (·.zero)=some (.slice none 0 0):=by kernel_rfl
theorem zv_3:(Tryz.prog.info? 3).bind (·.zero)=some (.int .i64 0):=by kernel_rfl
theorem Ae7:(Tryz.prog.info? 69).bind (·.zero)=some (.slice none 0 0):=by kernel_rfl
def QA:BitVec 32:=0xedb88320#32
def Kv(w:BitVec 32):BitVec 32:=(w >>> 1) ^^^ (if w.getLsbD 0 then QA else 0#32)
def Aib(x:BitVec 32):BitVec 32:=if x.getLsbD 31 then((x ^^^ QA) <<< 1) ||| 1#32 else x <<< 1
def CS:Nat->BitVec 32->BitVec 32
 |0,w=>w
 |n+1,w=>CS n (Kv w)
def VK:Nat->BitVec 32->BitVec 32
 |0,w=>w
 |n+1,w=>Aib (VK n w)
def Fa(c:UInt8):BitVec 32:=BitVec.ofNat 32 c.toNat
def LP(w:BitVec 32)(c:UInt8):BitVec 32:=CS 8 (w ^^^ Fa c)
def Ako(s:BitVec 32)(l:List UInt8):BitVec 32 := ~~~ (l.foldl LP (~~~ s))
def UD(l:List UInt8):BitVec 32:=Ako 0#32 l
theorem Ae8(a b:BitVec 32):Kv (a ^^^ b)=Kv a ^^^ Kv b:=by
 unfold Kv;rw[BitVec.getLsbD_xor,BitVec.ushiftRight_xor_distrib];cases a.getLsbD 0 <;> cases b.getLsbD 0 <;> simp only[Bool.xor_false,Bool.xor_true,Bool.not_true,Bool.not_false,if_true,qdk,if_false,BitVec.xor_zero]
 .ac_rfl
 .ac_rfl
 .rw[show a >>> 1 ^^^ QA ^^^ (b >>> 1 ^^^ QA)=a >>> 1 ^^^ b >>> 1 ^^^ (QA ^^^ QA)by ac_rfl,BitVec.xor_self,BitVec.xor_zero]
theorem NX:∀(n:Nat) (a b:BitVec 32),CS n (a ^^^ b)=CS n a ^^^ CS n b
 |0,_,_=>rfl
 |n+1,a,b=>by simp only[CS];rw[Ae8,NX n]
theorem HH:∀(m n:Nat) (w:BitVec 32),CS n (CS m w)=CS (m+n) w
 |0,n,w=>by simp[CS]
 |m+1,n,w=>by rw[Nat.succ_add];simp only[CS];exact HH m n _
theorem Aay:Fa 0=0#32:=rfl
def xorL:List UInt8->List UInt8->List UInt8
 |a::l,b::m=>(a ^^^ b)::xorL l m
 |_,_=>[]
theorem take_zero(w:BitVec 32):LP w 0=CS 8 w:=by rw[LP,Aay,BitVec.xor_zero]
theorem Th:∀(n:Nat) (w:BitVec 32),(∀i,i<n->w.getLsbD i=false)->CS n w=w >>> n
 |0,w,_=>by simp[CS]
 |n+1,w,h=>by
  have h0:Kv w=w >>> 1:=by
   unfold Kv;rw[h 0 (by omega)];simp
  simp only[CS];rw[h0,Th n (w >>> 1) (fun i hi=>by rw[BitVec.getLsbD_ushiftRight];exact h _ (by omega)),<-BitVec.shiftRight_add,Nat.add_comm 1 n]
theorem UE(c:UInt8)(n:Nat)(hn:n<=24:=by omega):CS n (Fa c <<< n)=Fa c:=by
 rw[Th n _ (fun i hi=>by simp[BitVec.getLsbD_shiftLeft,hi])];have hc:c.toNat<256:=c.toNat_lt;apply BitVec.eq_of_toNat_eq;unfold Fa;rw[BitVec.toNat_ushiftRight,BitVec.toNat_shiftLeft,BitVec.toNat_ofNat,qa7 (by omega:c.toNat<2 ^ 32),Nat.shiftLeft_eq]
 have h1:c.toNat*2 ^ n<2 ^ 32:=by
  have h2:2 ^ n<=2 ^ 24:=qcx (by omega) hn
  calc c.toNat*2 ^ n<=255*2 ^ 24:=Nat.mul_le_mul (by omega) h2
   _<2 ^ 32:=by decide
 rw[qa7 h1,Nat.shiftRight_eq_div_pow,Nat.mul_div_cancel _ (Nat.two_pow_pos n)]
def Akp(a b c d:UInt8):BitVec 32:=Fa a ^^^ (Fa b <<< 8) ^^^ (Fa c <<< 16) ^^^ (Fa d <<< 24)
theorem four(w:BitVec 32)(a b c d:UInt8):[a,b,c,d].foldl LP w=CS 32 (w ^^^ Akp a b c d):=by
 have ha:CS 32 (Fa a)=CS 32 (Fa a):=rfl
 have hb:CS 24 (Fa b)=CS 32 (Fa b <<< 8):=by
  rw[<-HH 8 24,UE b 8]
 have hc:CS 16 (Fa c)=CS 32 (Fa c <<< 16):=by
  rw[<-HH 16 16,UE c 16]
 have hd:CS 8 (Fa d)=CS 32 (Fa d <<< 24):=by
  rw[<-HH 24 8,UE d 24]
 simp only[qdi,List.foldl_nil,LP,NX,HH];rw[hb,hc,hd,show 8+(8+(8+8))=32 from rfl];simp only[Akp,NX]
 ac_rfl
def burstB(o v:Nat):Bool:=(VK 32 (BitVec.ofNat 32 v)).toNat % 2 ^ o == 0
attribute [local irreducible] A7 W Wq Wt
theorem GQ(b:UInt8):b.toNat<256:=b.toNat_lt
theorem Nc(w:BitVec 32):w.toNat<4294967296:=w.isLt
theorem Akq(s:BitVec 32):4294967295 ^^^ s.toNat=(~~~s).toNat:=by
 rw[<-BitVec.allOnes_xor,BitVec.toNat_xor,BitVec.toNat_allOnes]
theorem Ae9(c:UInt8):(Fa c).toNat=c.toNat:=by
 have:=GQ c;unfold Fa;rw[BitVec.toNat_ofNat,qa7 (by omega)]
theorem xor_b(w:BitVec 32)(c:UInt8):w.toNat ^^^ c.toNat=(w ^^^ Fa c).toNat:=by
 rw[BitVec.toNat_xor,Ae9]
theorem Aic(w:BitVec 32):w.getLsbD 0=decide (w.toNat % 2=1):=by
 rw[BitVec.getLsbD,Nat.testBit_zero]
theorem Afa(w:BitVec 32):(w.toNat / 2) ^^^ (if w.toNat % 2=1 then 3988292384 else 0)=(Kv w).toNat:=by
 unfold Kv;rw[BitVec.toNat_xor,BitVec.toNat_ushiftRight,Nat.shiftRight_eq_div_pow,Aic]
 by_cases h:w.toNat % 2=1
 .simp[h,QA]
 .simp[h]
theorem Aaz(w:BitVec 32):(w.toNat / 2 ^ 1) ^^^ ((3988292384*(w.toNat &&& 1)) % 4294967296)=(Kv w).toNat:=by
 rw[<-Afa,Nat.and_one_is_mod]
 by_cases h:w.toNat % 2=1
 .simp[h]
 .have h0:w.toNat % 2=0:=by omega
  simp[h0]
theorem Yc(n:Nat)(w:BitVec 32):Kv (CS n w)=CS (n+1) w:=by
 rw[<-HH n 1];rfl
theorem Aid(s:BitVec 32)(a:Option Addr)(c:Nat)(l:List UInt8)(w:World)(R:Rd w a 1 B8 l)(hm:l.length<=9223372036854775807) :
  Ret prog 140 #[.int .u32 (s.toNat:Int),.slice a l.length c] w fun v w'=>v=.int .u32 ((Ako s l).toNat:Int)/\w=w':=by
 have hs:=Nc s;refine A6 (fn:=f140) func140 U [.int .u32 (s.toNat:Int),.slice a l.length c] U (Ad (Ac U (qA (Ad (Ae U (Qe U U ?_))))));rw[Akq];refine Ac U (qA (Ar (Ad (Ai U (AO AW U (Ae U (qA (AD (BF 1073737888 (α:=Nat) (fun k=>[(12,.int .i64 k),(5,.int .u32 (((l.take k).foldl LP (~~~s)).toNat:Int))]) (fun k w'=>k<=l.length/\w=w') (fun k=>l.length - k) 0 U ?_ ?_ ?_)))))))))
 .exact⟨rfl,rfl,trivial⟩
 .exact⟨qak _,rfl⟩
 .rintro k j _ ⟨hk,rfl⟩;refine Ad (Bt U U (qA (Ar (Au _ U ?_ ?_))))
  .intro h1;replace h1:=AU h1;obtain⟨x,hx⟩:=AR (l:=l) (i:=k);have hxb:=GQ x;have hw:=Nc ((l.take k).foldl LP (~~~s));generalize hv:(l.take k).foldl LP (~~~s)=v at hw;refine Aq (Aa (Ar (AD (Ad (Bj R AW CO U U (hn:=by rfl) ?_)))));refine Bf Sk U (R.one (f:=bv) hx) (Ac U (qA (Ad (Ae U (Ae U (OM U U FB Ya ?_))))));refine Qc U U U ?_;rw[xor_b];refine Ac U (qA (Ad (Ae U (qA (AD (BF 535822368 (α:=Nat) (fun i=>[(20,.int .i64 i),(5,.int .u32 ((CS i (v ^^^ Fa x)).toNat:Int))]) (fun i w'=>i<=8/\w=w') (fun i=>8 - i) 0 U ?_ ?_ ?_))))))
   .exact⟨rfl,rfl,trivial⟩
   .exact⟨qak _,rfl⟩
   .rintro i j _ ⟨hi,rfl⟩;have hu:=Nc (CS i (v ^^^ Fa x));generalize hz:CS i (v ^^^ Fa x)=z at hu;refine Ad (Bt U U (qA (Ar (Au _ U ?_ ?_))))
    .intro h2;replace h2:=AU h2;refine Aq (Aa (Ar (AD (Av (Ae U (Qd (n:=1) U U U ?_))))));refine Ae U (XE (b:=1) U U U ?_);refine Vw (a:=3988292384) U U U (Qc U U U ?_);rw[Aaz];refine Ac U (Ab (AF (Aa (Av (AA U U ?_)))));refine Ae U (qA ?_);exact⟨i+1,rfl,⟨rfl,by rw[<-Yc,hz];rfl,trivial⟩,⟨by omega,rfl⟩,by omega⟩
    .intro h2;replace h2:=AV h2;have hi8:i=8:=by omega
     subst hi8;refine B9 (A8 (A8 (Bd (AF (Aa (Av (AA U U ?_)))))));refine Ae U (qA ?_);refine⟨k+1,rfl,⟨rfl,?_,trivial⟩,⟨by omega,rfl⟩,by omega⟩;rw[Bx hx,qdm,hv,qdi,List.foldl_nil,LP,hz];rfl
  .intro h1;replace h1:=AV h1;have hke:k=l.length:=by omega
   subst hke;rw[qbb];have hw:=Nc (l.foldl LP (~~~s));refine B9 (A8 (A8 (Bd (Aa (Ad (Ae U (Qe U U ?_)))))));rw[Akq];refine Ac U (qA (Ax (AH (v:=(.int _ _)) U U U ?_)));exact⟨rfl,rfl⟩
theorem Afb(a:Option Addr)(c n:Nat)(l:List UInt8)(w:World)(R:Rd w a 1 B8 l)(hn:l.length=n)(hm:n<=9223372036854775807:=by omega):
  Ret prog 115 #[.slice a n c] w fun v w'=>v=.int .u32 ((UD l).toNat:Int)/\w=w':=by
 subst hn;refine A6 (fn:=f115) func115 U [.slice a l.length c] U (Ad (Ac U (qA (Ad (Ai U (Ah qB (Aid 0#32 a c l w R hm) U ?_))))));rintro v w ⟨rfl,rfl⟩;refine Ac U (qA (Ax (AH (v:=(.int _ _)) U U U ?_)));exact⟨rfl,rfl⟩
def Hc:List UInt8->Nat
 | []=>0
 |c::l=>c.toNat+256*Hc l
theorem VL:∀(l m:List UInt8),Hc (l++m)=Hc l+256 ^ l.length*Hc m
 | [],m=>by simp[Hc]
 |c::l,m=>by
  have h:=VL l m;simp only[qb8,Hc,qaw,h,qd6];rw[Nat.mul_add,<-Nat.mul_assoc,qd3 (256 ^ l.length) 256];omega
theorem UF:∀l:List UInt8,Hc l<256 ^ l.length
 | []=>by simp[Hc]
 |c::l=>by
  have h:=UF l;have hc:=GQ c;simp only[Hc,qaw,qd6];omega
theorem Aa0{l:List UInt8}{k:Nat}{c:UInt8}(hk:l[k]?=some c)(h4:k<4:=by omega):Hc (l.take k) ||| (c.toNat*2 ^ (8*k) % 4294967296)=Hc (l.take (k+1)):=by
 have hl:=XD hk;have hlen:(l.take k).length=k:=by rw[qa1];omega
 have h1:=UF (l.take k);rw[hlen]at h1;have h2:(256:Nat) ^ k=2 ^ (8*k):=by rw[Nat.pow_mul]
 have hc:=GQ c
 have h3:c.toNat*2 ^ (8*k)<4294967296:=by
  have:k=0\/k=1\/k=2\/k=3:=by omega
  rcases this with h|h|h|h <;> subst h <;> omega
 rw[Bx hk,VL,hlen,qa7 h3,Nat.or_comm,qd3 c.toNat,<-Nat.two_pow_add_eq_or_of_lt (by rw[<-h2];exact h1),h2];simp only[Hc,Nat.mul_zero,qc3];omega
def HZ(b:List UInt8):Bool:=decide (4<=b.length) && decide ((UD (b.take (b.length - 4))).toNat=Hc (b.drop (b.length - 4)))
theorem VM(a:Option Addr)(c:Nat)(l:List UInt8)(w:World)(R:Rd w a 1 B8 l)(hc:l.length<=c)(hm:l.length<=9223372036854775807:=by omega):
  Ret prog 138 #[.slice a l.length c] w fun v w'=>v=.bool (HZ l)/\w=w':=by
 refine A6 (fn:=f138) func138 U [.slice a l.length c] U (Ad (Am U (qA (Ad (Ai U (AO AW U (B4 U U ?_)))))));refine Ac U (qA (Ar (Ad (Ae U (Bt U U (qA (Au _ U ?_ ?_)))))))
 .intro h1;replace h1:=AU h1;refine Ad (Am U (qA (Ax (Ao (AH (v:=(.bool _)) U U U ?_)))));exact⟨qac Value.bool (by rw[HZ,qai (by omega)];rfl),rfl⟩
 .intro h1;replace h1:=AV h1;obtain⟨m,hm4⟩:∃m,l.length=m+4:=⟨l.length - 4,by omega⟩;rw[show(l.length:Int) - 4=(m:Int)by omega];have R':=R.cut m c hc;have hd:(l.drop m).length=4:=by rw[qbe];omega
  refine Aq (Aa (Ad (Ac U (qA (Ar (Ad (Ai U (Ae U (FR U AW CO U U ?_)))))))));refine AO AW U (Ae U (qA (AD ?_)));rw[show l.length - ((m:Int)).toNat=4 by omega];refine BF 536805488 (α:=Nat) (fun k=>[(16,.int .i64 k),(4,.int .u32 (Hc ((l.drop m).take k):Int))]) (fun k w'=>k<=4/\w=w') (fun k=>4 - k) 0 U ?_ ?_ ?_
  .exact⟨rfl,rfl,trivial⟩
  .exact⟨qak _,rfl⟩
  .rintro k j _ ⟨hk,rfl⟩;refine Ad (Bt U U (qA (Ar (Au _ U ?_ ?_))))
   .intro h2;replace h2:=AU h2;obtain⟨x,hx⟩:=AR (l:=l.drop m) (i:=k);have hxb:=GQ x
    have hw:Hc ((l.drop m).take k)<4294967296:=by
     have h:=UF ((l.drop m).take k);have h2:256 ^ ((l.drop m).take k).length<=256 ^ 4:=qcx (by omega) (by rw[qa1];omega);have h3:(256:Nat) ^ 4=4294967296:=by decide
     omega
    refine Aq (Aa (Ar (AD (Ad (Ae U (Bj R' AW CO U U ?_))))));refine Bf Sk U (R'.one (f:=bv) hx) (Ac U (Ac U (qA (Av (Ae U (Ae U (OM U U FB Ya ?_)))))));refine Ae U (EX U U ?_);rw[show(8:Int)*(k:Int)=((8*k:Nat):Int)from by simp];refine XF U U U (Aaq U U U ?_);rw[Aa0 hx];refine Ac U (Ab (AF (Aa (Av (AA U U ?_)))));refine Ae U (qA ?_);exact⟨k+1,rfl,⟨rfl,rfl,trivial⟩,⟨by omega,rfl⟩,by omega⟩
   .intro h2;replace h2:=AV h2;have hk4:k=4:=by omega
    subst hk4;rw[show(l.drop m).take 4=l.drop m from qa5 (by omega)];refine B9 (A8 (A8 (Bd (Aa (Ad (Ai U (Ae U (Ee AW CO U U ?_))))))));refine Ah qB (Afb a c m (l.take m) w (R.take m) (by rw[qa1];omega)) U ?_;rintro v w ⟨rfl,rfl⟩;refine Ae U (B1 U U (Am U (qA (Ax (AH (v:=(.bool _)) U U U ?_)))));refine⟨qac Value.bool ?_,rfl⟩;rw[HZ,qam (show 4<=l.length by omega),Bool.true_and,show l.length - 4=m by omega];exact decide_eq_decide.2 (by omega)
theorem Fresh.rdB{w w':World}{t:Nat}{s:Value}{xs:List UInt8}(h:Fresh w w' t 1 s (xs.map bv)):∃a c,s=.slice a xs.length c/\Rd w' a 1 B8 xs/\xs.length<=c:=by
 obtain⟨a,n,c,full,rfl,O,hb⟩:=h.ex;have hn:=O.num;subst hn;exact⟨a,c,rfl,O.rd1 (t:=t) fun x hx=>(hb x hx).1,O.le⟩
theorem Rd.appB{w:World}{a:Option Addr}{l:List UInt8}(R:Rd w a 1 B8 l):∀j v,(l.map bv)[j]?=some v->∃p,a=some p/\w.cell? (p.add j)=some v:=Rd.app1 (f:=bv) R
theorem OS.rdB{w:World}{a:Option Addr}{n c:Nat}{t:TypeId}{full:List Value}{xs:List UInt8}(h:OS a n c 1 full (xs.map bv))(hb:∀x∈ent a t full,w.heap[x.1]?=some x.2):Rd w a 1 B8 xs:=OS.rd1 h hb
theorem Afc{w:World}{b t:Nat}{xs:List UInt8}(h:w.heap[b]?=some (Bl t (xs.map bv))):Rd w (some ⟨b,0,none⟩) 1 B8 xs :=
 Rd.of_bl (r:=[]) h (by rw[qa2];exact(Za xs).symm) (fun x _=>rfl)
theorem Fresh.since{w0 w w':World}{t s:Nat}{v:Value}{l:List Value}(h:Fresh w w' t s v l)(hx:Ext [] w0 w):Fresh w0 w' t s v l :=
 ⟨let ⟨a,n,c,full,h1,h2,h3⟩:=h.ex;⟨a,n,c,full,h1,h2,fun x hx'=>⟨(h3 x hx').1,qas hx.size (h3 x hx').2⟩⟩,hx.trans h.ext⟩
theorem Je(a:Option Addr)(c n:Nat)(l:List UInt8)(w:World)(R:Rd w a 1 B8 l)(hn:l.length=n)(hm:n<=140737488351232:=by omega):
  Ret prog 67 #[.slice a n c] w fun v w'=>Fresh w w' 5 1 v (l.map bv)/\(a=none->v=.slice none 0 0):=by
 subst hn;obtain⟨w0,rfl,H⟩:=qE w;refine A6 (fn:=f67) func67 U [.slice a l.length c] U (Ad (Aj U (qA (Ar (Ad (Ai U (SE U AW U (qA (Au _ U ?_ ?_)))))))))
 .intro h1;have ha:a=none:=by simpa using h1
  subst ha
  have hl:l=[]:=by
   cases l with
   |nil=>rfl
   |cons x l=>obtain⟨b,o,h⟩:=R.some' (by simp);cases h
  subst hl;refine Ad (Aj U (qA (Ax (Ao (AH (v:=(.slice _ _ _)) U U U ?_)))));exact⟨Fresh.nil H _ _,fun _=>rfl⟩
 .intro h1;refine Aq (Aa (Ad (NP U AW CO H ?_)));rintro b5 w H O;refine Ai U (Fk U AW AW CO Pu HY U (l.map bv) U U H O (by simp) (HQ l) (Rd.appB (R.ext0 H.ext)) ?_);rintro a7 c7 full7 w H O;refine Aj U (qA (Ax (AH (v:=(.slice _ _ _)) U U U ?_)));exact⟨Ctx.fresh H (by simpa using O),fun h=>by subst h;cases h1⟩
theorem Aa1(a:Option Addr)(c n:Nat)(l:List UInt8)(w:World)(R:Rd w a 1 B8 l)(hn:l.length=n)(hm:n<=140737488351232:=by omega):
  Ret prog 107 #[.slice a n c] w fun v w'=>Fresh w w' 5 1 v (l.map bv)/\(a=none->v=.slice none 0 0):=by
 subst hn;obtain⟨w0,rfl,H⟩:=qE w;refine A6 (fn:=f107) func107 U [.slice a l.length c] U (Ad (Aj U (qA (Ar (Ad (Ai U (SE U AW U (qA (Au _ U ?_ ?_)))))))))
 .intro h1;have ha:a=none:=by simpa using h1
  subst ha
  have hl:l=[]:=by
   cases l with
   |nil=>rfl
   |cons x l=>obtain⟨b,o,h⟩:=R.some' (by simp);cases h
  subst hl;refine Ad (Aj U (qA (Ax (Ao (AH (v:=(.slice _ _ _)) U U U ?_)))));exact⟨Fresh.nil H _ _,fun _=>rfl⟩
 .intro h1;refine Aq (Aa (Ad (NP U AW CO H ?_)));rintro b5 w H O;refine Ai U (Fk U AW AW CO Pu HY U (l.map bv) U U H O (by simp) (HQ l) (Rd.appB (R.ext0 H.ext)) ?_);rintro a7 c7 full7 w H O;refine Aj U (qA (Ax (AH (v:=(.slice _ _ _)) U U U ?_)));exact⟨Ctx.fresh H (by simpa using O),fun h=>by subst h;cases h1⟩
def Hd(k:Int):Bool:=decide (k=1) || (decide (k=2) || (decide (k=4) || decide (k=8)))
theorem VN{k:Int}(h:Hd k=true):∃n:Nat,k=n/\1<=n/\n<=8:=by
 simp only[Hd,qcd,qap]at h;exact⟨k.toNat,by omega,by omega,by omega⟩
theorem Aa2(k:Int):∃z:Int,Option.getD (if k=8 then some (Value.int .i64 64)else if k=4 then some (Value.int .i64 32)else if k=2 then some (Value.int .i64 16)else if k=1 then some (Value.int .i64 8)else none) (Value.int .i64 0)=.int .i64 z/\decide (0<z)=Hd k:=by
 by_cases h8:k=8
 .exact⟨64,by simp[h8],by simp[Hd,h8]⟩
 by_cases h4:k=4
 .exact⟨32,by simp[h4],by simp[Hd,h4]⟩
 by_cases h2:k=2
 .exact⟨16,by simp[h2],by simp[Hd,h2]⟩
 by_cases h1:k=1
 .exact⟨8,by simp[h1],by simp[Hd,h1]⟩
 exact⟨0,by simp[h8,h4,h2,h1],by simp[Hd,h8,h4,h2,h1]⟩
theorem Ti(k:Int)(w:World):Ret prog 108 #[.int .i64 k] w fun v w'=>v=.bool (Hd k)/\Ext [] w w':=by
 obtain⟨w0,rfl,H⟩:=qE w;refine A6 (fn:=f108) func108 U [.int .i64 k] U (Ad (Am U (qA (Ad (Qb .i64 U H ?_)))));rintro b4 o4 w hM H;refine Ld (.int _ _) U Q2 EW U U U H at0 hM ?_;rintro o w hM H;refine Ld (.int _ _) U Q2 EW U U U H at0 hM ?_;rintro o w hM H;refine Ld (.int _ _) U Q2 EW U U U H at0 hM ?_;rintro o w hM H;refine Ld (.int _ _) U Q2 EW U U U H at0 hM ?_;rintro o w hM H;refine Kk U U (Qi U U (qA (Ad (Kk U U (Ae U (Aao U Q2 EW zv_3 U U H at0 hM ?_))))));simp only[NQ,Qa];obtain⟨z,hz,hzb⟩:=Aa2 k;rw[hz];refine Ci U U (Am U (qA (Ax (AH (v:=(.bool _)) U U U ?_))));exact⟨qac Value.bool hzb,H.ext⟩
def Bo(n k:Nat):List UInt8:=(List.range k).map fun i=>UInt8.ofNat (n / 2 ^ (8*(k - 1 - i)))
theorem AP(n k:Nat):(Bo n k).length=k:=by simp[Bo]
theorem Aa3{n k i:Nat}(h:i<k:=by omega):(Bo n k).take (i+1)=(Bo n k).take i++[UInt8.ofNat (n / 2 ^ (8*(k - 1 - i)))]:=Bx (SM h)
theorem Tj(x:Nat):Value.int .u8 ((x % 256:Nat):Int)=bv (UInt8.ofNat x):=by
 unfold bv;congr 2
def Mg(l:List UInt8)(n:Nat)(k:Int):List UInt8:=bif Hd k then l++Bo n k.toNat else l
theorem FI(a:Option Addr)(c m:Nat)(l:List UInt8)(n:Nat)(k:Int)(w:World)(R:Rd w a 1 B8 l)(hml:l.length=m)(_:n<18446744073709551616)(hm:m<=140737488351231:=by decide):
  Ret prog 82 #[.slice a m c,.int .u64 (n:Int),.int .i64 k] w fun v w'=>Fresh w w' 5 1 v ((Mg l n k).map bv):=by
 subst hml;obtain⟨w0,rfl⟩:=qD w;refine A6 (fn:=f82) func82 U [.slice a l.length c,.int .u64 (n:Int),.int .i64 k] U (Ad (Aj U (qA (Ad (Ai U (Ah qB (Je a c l.length l _ R U) U ?_))))));rintro v w ⟨F,-⟩;obtain⟨a7,n7,c7,full7,rfl,O,hb⟩:=F.ex;have hn7:n7=l.length:=OS.num O;subst hn7;have H:Ctx w0 [] w (ent a7 5 full7):=⟨F.ext,fun x hx=>(hb x hx).1,Ki,fun x hx => .inr (hb x hx).2⟩;refine Aj U (qA (Ar (Ad (Ae U (Ah qB (Ti k _) U ?_)))));rintro v w ⟨rfl,hx⟩;replace H:=H.call hx;refine Cl U (qA (Au _ U ?_ ?_))
 .intro h1;replace h1:=CJ h1;refine Ad (Ai U (Aj U (qA (Ax (Ao (AH (v:=(.slice _ _ _)) U U U ?_))))));rw[Mg,h1];exact Ctx.fresh (L:=[]) H O
 .intro h1;replace h1:=CK h1;obtain⟨q,rfl,hq1,hq8⟩:=VN h1;rw[Mg,h1,show((q:Int)).toNat=q from rfl];refine Aq (Aa (Ar (Ad (Ae U (Ae U (qA (AD (BF 2147418496 (α:=Nat × Option Addr × Nat × List Value) (fun x=>[(16,.int .i64 x.1),(7,.slice x.2.1 (l.length+x.1) x.2.2.1)]) (fun x w'=>x.1<=q/\Ctx w0 [] w' (ent x.2.1 5 x.2.2.2)/\OS x.2.1 (l.length+x.1) x.2.2.1 1 x.2.2.2 ((l++(Bo n q).take x.1).map bv)) (fun x=>q - x.1) (0,a7,c7,full7) U ?_ ?_ ?_))))))))
  .exact⟨rfl,rfl,trivial⟩
  .exact⟨qak _,H,by simpa using O⟩
  .rintro⟨i,a7,c7,full7⟩ j w ⟨hi,H,O⟩;dsimp only at hi H O;dsimp only;refine Ad (Bt U U (qA (Ar (Au _ U ?_ ?_))))
   .intro h2;replace h2:=AU h2;refine Aq (Aa (Ar (AD (Ad (Ae U (Ac U (qA (Av (Ai U (Ae U ?_))))))))));refine Ae U (B4 U U ?_);refine Ae U (B4 U U ?_);refine EX U U ?_;rw[show(8:Int)*((q:Int) - 1 - (i:Int))=((8*(q - 1 - i):Nat):Int)from by omega];refine Qf U U U (GU U U Gy FB ?_);rw[Tj];refine BP _ (.int _ _) AW CO HY U U U U H ?_;rintro b28 w - H;refine Cf (L:=[]) AW AW CO Pu HY U U U H O U (by simp[Bg]) ?_;rintro a9 c9 full9 w H O;refine Aj U (Ab (AF (Aa (Av (AA U U ?_)))));refine Ae U (qA ?_);refine⟨(i+1,a9,c9,full9),rfl,⟨rfl,rfl,trivial⟩,⟨by omega,H,?_⟩,by dsimp only;omega⟩;dsimp only
    have O':OS a9 (l.length+(i+1)) c9 1 full9 ((l++(Bo n q).take i).map bv++[UInt8.ofNat (n / 2 ^ (8*(q - 1 - i)))].map bv):=O;rw[<-qaz,qa0,<-Aa3]at O';exact O'
   .intro h2;replace h2:=AV h2;have hiq:i=q:=by omega
    subst hiq;refine B9 (A8 (A8 (Bd (Aa (Ad (Ai U (Aj U (qA (Ax (AH (v:=(.slice _ _ _)) U U U ?_))))))))));have hl:(Bo n i).take i=Bo n i:=qa5 (by rw[AP];exact qaf _);rw[hl]at O;exact Ctx.fresh (L:=[]) H O
def numN(l:List UInt8):Nat:=l.foldl (fun n c=>n*256+c.toNat) 0
theorem Tk(l:List UInt8)(c:UInt8):numN (l++[c])=numN l*256+c.toNat:=by simp[numN]
theorem JD(l:List UInt8):numN l<256 ^ l.length:=by
 have h:∀(l:List UInt8) (n k:Nat),n<256 ^ k->l.foldl (fun n c=>n*256+c.toNat) n<256 ^ (k+l.length):=by
  intro l
  induction l with
  |nil=>intro n k h;simpa using h
  |cons c l ih =>
   intro n k h;have hc:=GQ c;have:=ih (n*256+c.toNat) (k+1) (by rw[qd6];omega)
   simpa[qcs,Nat.add_comm 1]using this
 have:=h l 0 0 (by simp);rw[qa3]at this;exact this
theorem Afd{l:List UInt8}{i:Nat}{c:UInt8}(h:l[i]?=some c)(hi:i<8:=by omega):(numN (l.take i)*2 ^ 8 % 18446744073709551616) ||| c.toNat=numN (l.take (i+1)):=by
 have h1:=JD (l.take i);have hc:=GQ c;have hlen:(l.take i).length<=7:=by rw[qa1];omega
 have h2:256 ^ (l.take i).length<=256 ^ 7:=qcx (by omega) hlen;have h3:(256:Nat) ^ 7=72057594037927936:=by decide
 rw[Bx h,Tk,qa7 (by omega),qd3,<-Nat.two_pow_add_eq_or_of_lt (by omega)]
def CV(l:List UInt8)(at' k:Int):Int:=bif Hd k && (decide (0<=at') && decide (at'<=l.length))then(bif decide (k<=(l.length:Int) - at')then 0 else 5)else 1
def FC(l:List UInt8)(at' k:Int):Value:=bif decide (CV l at' k=0)then .tuple #[.int .u64 (numN ((l.drop at'.toNat).take k.toNat):Int),.int .i64 (at'+k),.int .i64 0]else .tuple #[.int .u64 0,.int .i64 0,.int .i64 (CV l at' k)]
theorem Gq(a:Option Addr)(c m:Nat)(l:List UInt8)(at' k:Int)(w:World)(R:Rd w a 1 B8 l)(hml:l.length=m)(hc:l.length<=c)(hm:m<=9223372036854775799:=by omega):
  Ret prog 74 #[.slice a m c,.int .i64 at',.int .i64 k] w fun v w'=>v=FC l at' k/\Ext [] w w':=by
 subst hml;obtain⟨w0,rfl,H⟩:=qE w;refine A6 (fn:=f74) func74 U [.slice a l.length c,.int .i64 at',.int .i64 k] U (Ad (Ac U (Ac U (Ac U (qA (Ar (AD (Ar (Ad (Ae U ?_))))))))));refine Ah qB (Ti k _) U ?_;rintro v w ⟨rfl,hx⟩;replace H:=H.call hx;refine Cl U (Am U (qA (Dj 11 U ?_ ?_)))
 .intro h1;replace h1:=CJ h1;have he:CV l at' k=1:=by unfold CV;rw[h1];rfl
  refine Aq (Aa (Fi U (Ad (Ac U (Ac U (Ac U (qA (Ax (AL (Ao (CG (v1:=(.int _ _)) (v2:=(.int _ _)) (v3:=(.int _ _)) U U U U U ?_)))))))))));exact⟨by rw[FC,he];rfl,H.ext⟩
 .intro h1;replace h1:=CK h1;refine Ad (Ae U (Bt U U (Am U (qA (Dj 11 U ?_ ?_)))))
  .intro h2;replace h2:=AU h2;have he:CV l at' k=1:=by unfold CV;rw[qai (show ¬0<=at' by omega),Bool.false_and,qd7];rfl
   refine Aq (Aa (Fi U (Ad (Ac U (Ac U (Ac U (qA (Ax (AL (Ao (CG (v1:=(.int _ _)) (v2:=(.int _ _)) (v3:=(.int _ _)) U U U U U ?_)))))))))));exact⟨by rw[FC,he];rfl,H.ext⟩
  .intro h2;replace h2:=AV h2;refine Av (Ae U (Ai U (AO AW U (Ci U U (Am U (qA (Dj 11 U ?_ ?_)))))))
   .intro h3;replace h3:=AU h3;have he:CV l at' k=1:=by unfold CV;rw[qai (show ¬at'<=(l.length:Int)by omega),qd7,qd7];rfl
    refine Ad (Ac U (Ac U (Ac U (qA (Ax (AL (Ao (CG (v1:=(.int _ _)) (v2:=(.int _ _)) (v3:=(.int _ _)) U U U U U ?_))))))));exact⟨by rw[FC,he];rfl,H.ext⟩
   .intro h3;replace h3:=AV h3;obtain⟨q,rfl,hq1,hq8⟩:=VN h1;obtain⟨o,rfl⟩:∃o:Nat,at'=o:=⟨at'.toNat,by omega⟩
    have hE:CV l (o:Int) (q:Int)=bif decide ((q:Int)<=(l.length:Int) - (o:Int))then 0 else 5:=by
     unfold CV;rw[h1,qam (show(0:Int)<=(o:Int)by omega),qam (show(o:Int)<=(l.length:Int)by omega)];rfl
    refine Ad (Ai U (AO AW U (Ae U (B4 U U ?_))));refine Ae U (Bt U U (Am U (qA (Au _ U ?_ ?_))))
    .intro h4;replace h4:=AU h4;rw[qai (by omega)]at hE;refine Ad (Ac U (Ac U (Ac U (qA (Ax (AL (Ao (CG (v1:=(.int _ _)) (v2:=(.int _ _)) (v3:=(.int _ _)) U U U U U ?_))))))));exact⟨by rw[FC,hE];rfl,H.ext⟩
    .intro h4;replace h4:=AV h4;rw[qam (by omega)]at hE;have R':=((R.ext0 H.ext).cut o c hc).take q;have hl:((l.drop o).take q).length=q:=by rw[qa1,qbe];omega
     refine Aq (AF (Aa (Ad (Ae U (Ae U (AA U U ?_))))));refine Ac U (qA (Ar (Ad (Ai U (Ae U (Ae U (IM U AW CO U U U ?_)))))));refine AO AW U (Ae U (qA (AD ?_)));rw[show((o:Int)+(q:Int)).toNat - ((o:Int)).toNat=q by omega];refine BF 70300024702016 (α:=Nat) (fun i=>[(36,.int .i64 i),(6,.int .u64 (numN (((l.drop o).take q).take i):Int))]) (fun i w'=>i<=q/\w=w') (fun i=>q - i) 0 U ?_ ?_ ?_
     .exact⟨rfl,rfl,trivial⟩
     .exact⟨qak _,rfl⟩
     .rintro i j _ ⟨hi,rfl⟩;refine Ad (Bt U U (qA (Ar (Au _ U ?_ ?_))))
      .intro h5;replace h5:=AU h5;obtain⟨x,hx⟩:=AR (l:=(l.drop o).take q) (i:=i);have hxb:=GQ x;have hlt:=JD (((l.drop o).take q).take (i+1));have hst:=Afd hx;refine Aq (Aa (Ar (AD (Ad (Bj R' AW CO U U ?_)))));refine Bf Sk U (R'.one (f:=bv) hx) (Ac U (qA (Av (Ae U (XG (n:=8) U U U ?_)))));refine Ae U (Dw U FB Gy ?_);refine Aar U U U (qbi _ (by decide)) ?_;rw[hst];refine Ac U (Ab (AF (Aa (Av (AA U U ?_)))));refine Ae U (qA ?_);exact⟨i+1,rfl,⟨rfl,rfl,trivial⟩,⟨by omega,rfl⟩,by omega⟩
      .intro h5;replace h5:=AV h5;have hiq:i=q:=by omega
       subst hiq;rw[show((l.drop o).take i).take i=(l.drop o).take i from qa5 (by omega)];refine B9 (A8 (A8 (Bd (Aa (Ad (Ae U (Ae U (Ac U (Ac U (Ac U (qA (Ax (CG (v1:=(.int _ _)) (v2:=(.int _ _)) (v3:=(.int _ _)) U U U U U ?_)))))))))))));exact⟨by rw[FC,hE];rfl,H.ext⟩
def Pv(l:List UInt8):Bool:=l.all fun b=>b == 0
theorem Afe(a:Option Addr)(c n:Nat)(l:List UInt8)(w:World)(R:Rd w a 1 B8 l)(hn:l.length=n)(hm:n<=9223372036854775807)(hc:l.length<=c) :
  Ret prog 171 #[.slice a n c,bv 0] w fun v w'=>(∃a' n' c',v=.slice a' n' c'/\decide (0<n') = !Pv l/\n'<=n)/\w=w':=by
 subst hn;refine A6 (fn:=f171) func171 U [.slice a l.length c,bv 0] U ?_;refine Ad (Aj U (qA (Ar (AD (BF 131041 (α:=Nat × Option Addr × Nat) (fun x=>[(0,.slice x.2.1 (l.length - x.1) x.2.2)]) (fun x w'=>x.1<=l.length/\Rd w x.2.1 1 B8 (l.drop x.1)/\l.length - x.1<=x.2.2/\Pv (l.take x.1)=true/\w=w') (fun x=>l.length - x.1) (0,a,c) U ?_ ?_ ?_)))))
 .exact⟨rfl,trivial⟩
 .exact⟨qak _,R,hc,rfl,rfl⟩
 .rintro⟨k,a,c⟩ j _ ⟨hk,R,hc,hz,rfl⟩;dsimp only at hk R hc hz;dsimp only;have hld:(l.drop k).length=l.length - k:=qbe;refine Ar (Ad (Ai U (AO AW U (Ci U U (AC U (AX 8 U ?_ ?_))))))
  .intro h1;replace h1:=AU h1;obtain⟨x,hx⟩:=AR (l:=l.drop k) (i:=0);have hxl:l[k]?=some x:=by rw[qct]at hx;simpa using hx
   refine Ai U (Bj R AW CO U U ?_);refine Bf Sk U (R.one (f:=bv) hx) (Ae U (B1 U U (AQ U (.bool _) U (qA (Au _ U ?_ ?_)))))
   .intro h2;replace h2:=AU h2
    have hx0:x=0:=by
     have:x.toNat=0:=by simpa using h2
     exact UInt8.toNat_inj.1 this
    refine Aq (Aa (AD (Av (Ai U (FR U AW CO U U ?_)))));refine Aj U (Ab (AF (Aa ?_)));refine⟨(k+1,Em a c 1 1,c - 1),rfl,⟨rfl,trivial⟩,⟨by dsimp only;omega,?_,by dsimp only;omega,?_,rfl⟩,by dsimp only;omega⟩
    .dsimp only;have:=R.cut 1 c (by omega);rw[qdn]at this;exact this
    .dsimp only;rw[Bx hxl,Pv,List.all_append,hx0];have hz':(l.take k).all (fun b=>b == 0)=true:=hz;rw[hz'];rfl
   .intro h2;replace h2:=AV h2
    have hx0:¬x=0:=by
     rintro rfl;simp at h2
    have hnz:Pv l=false:=by
     rw[qd8];intro hall;rw[Pv,qbz]at hall;have:=hall x (qad hxl);exact hx0 (by simpa using this)
    refine B9 (A8 (A8 (Bd (Aa (Ar (Ad (Ai U (AO AW U (B1 U U (qA (Au _ U ?_ ?_)))))))))))
    .intro h3;replace h3:=AU h3;omega
    .intro h3;replace h3:=AV h3;refine Aq (Aa (Ad (Ai U (Aj U (qA (Ax (AH (v:=(.slice _ _ _)) U U U ?_)))))));exact⟨⟨_,_,_,rfl,by rw[hnz,qam (by omega)];rfl,by omega⟩,rfl⟩
  .intro h1;replace h1:=AV h1;have hke:k=l.length:=by omega
   subst hke;rw[qbb]at hz;refine Ak U (Ak U (Ak U (Ak U (Ak U (AN U (.bool _) U (qA (Bw U (B9 (A8 (A8 (Bd (Aa (Ar ?_)))))))))))));refine Ad (Ai U (AO AW U (B1 U U (qA (Au _ U ?_ ?_)))))
   .intro h3;replace h3:=AU h3;refine Ad (Aj U (qA (Ax (Ao (AH (v:=(.slice _ _ _)) U U U ?_)))));exact⟨⟨_,_,_,rfl,by rw[hz];rfl,by omega⟩,rfl⟩
   .intro h3;replace h3:=AV h3;omega
theorem Aie(a:Option Addr)(c n:Nat)(l:List UInt8)(w:World)(R:Rd w a 1 B8 l)(hn:l.length=n)(hc:l.length<=c)(hm:n<=9223372036854775807:=by omega):
  Ret prog 139 #[.slice a n c,str [0]] w fun v w'=>(∃a' n' c',v=.slice a' n' c'/\decide (0<n') = !Pv l/\n'<=n)/\w=w':=by
 subst hn;refine A6 (fn:=f139) func139 U [.slice a l.length c,str [0]] U (Ad (Aj U (qA (Ar (Ad (Ai U (AO AW U (B1 U U (qA (Au _ U ?_ ?_))))))))))
 .intro h1;replace h1:=AU h1;have hl:l=[]:=qa9 (by omega);subst hl;refine Ad (Aj U (qA (Ax (Ao (AH (v:=(.slice _ _ _)) U U U ?_)))));exact⟨⟨_,_,_,rfl,rfl,qaf _⟩,rfl⟩
 .intro h1;replace h1:=AV h1;refine Aq (Aa (Ar (Ad (BW U (Qj (l:=[0]) (m:=[]) U U U ?_)))));refine qA (Bw U (Aq (Aa (Ar (Ad (BW U (U8 (l:=[0]) U Fq U ?_)))))));refine B1 U U (AC U (BW U (SU (l:=[0]) 0 U Fq U U U ?_)));refine Bt U U (AQ U (.bool _) U (qA (Fi U (Ad (Ai U (BW U (SU (l:=[0]) 0 U Fq U U U ?_)))))));refine Ah qB (Afe a c l.length l w R U hm hc) U ?_;rintro v w ⟨⟨a',n',c',rfl,hz,hle⟩,rfl⟩;refine Aj U (qA (Ax (Ao (AH (v:=(.slice _ _ _)) U U U ?_))));exact⟨⟨_,_,_,rfl,hz,hle⟩,rfl⟩
def le4(s:Nat):List UInt8:=(List.range 4).map fun i=>UInt8.ofNat (s / 2 ^ (8*i))
def He(k:UInt8)(l:List UInt8):List UInt8:=k::(Bo l.length 2++(l++List.replicate (505 - l.length) 0))
def DC(k:UInt8)(l:List UInt8):List UInt8:=He k l++le4 (UD (He k l)).toNat
def FW(k:UInt8)(l:List UInt8):Int:=bif decide (k.toNat=0)then 1 else bif decide (505<l.length)then 6 else 0
theorem QB{k:UInt8}{l:List UInt8}(h:l.length<=505):(He k l).length=508:=by simp[He,AP];omega
theorem Fb{k:UInt8}{l:List UInt8}(h:l.length<=505):(DC k l).length=512:=by simp[DC,QB h,le4]
structure Bytes(w w':World)(v:Value)(l:List UInt8):Prop where
 ex:∃a c,v=.slice a l.length c/\Rd w' a 1 B8 l/\l.length<=c/\w.heap.size<=(adr a).block
 ext:Ext [] w w'
def Kw(k:UInt8)(l:List UInt8)(w:World)(v:Value)(w':World):Prop :=
 (FW k l≠0/\v=.tuple #[.slice none 0 0,.int .i64 (FW k l)]/\Ext [] w w') \/
 (FW k l=0/\∃s,v=.tuple #[s,.int .i64 0]/\Bytes w w' s (DC k l))
theorem Aa4(n:Nat):List.replicate n (Value.int .u8 0)=(List.replicate n (0:UInt8)).map bv:=by rw[List.map_replicate];rfl
theorem Aff{s i:Nat}(h:i<4:=by omega):(le4 s).take (i+1)=(le4 s).take i++[UInt8.ofNat (s / 2 ^ (8*i))]:=Bx (SM h)
theorem UG(s:Nat):(le4 s).length=4:=by simp[le4]
theorem QC(A B C M:List UInt8)(h:B.length=M.length):over ((A++(B++C)).map bv) A.length (M.map bv)=(A++(M++C)).map bv:=by
 have:=V1 (A.map bv) (B.map bv) (C.map bv) (M.map bv) (by simpa using h)
 simpa using this
theorem Yd(k:UInt8)(n:Nat):over (List.replicate 512 (Value.int .u8 0)) 0 (((k::Bo n 2).map bv).take 512)=((k::Bo n 2)++(List.replicate 509 0)).map bv:=by
 rw[qa5 (by simp[AP])];have h:=QC [] (List.replicate 3 0) (List.replicate 509 0) (k::Bo n 2) (by simp[AP]);rw[qba,qba,qe3]at h;rw[Aa4];exact h
theorem Ye(k:UInt8)(l:List UInt8)(h:l.length<=505:=by omega):over (((k::Bo l.length 2)++(List.replicate 509 0)).map bv) 3 ((l.map bv).take 509)=(He k l++List.replicate 4 0).map bv:=by
 rw[qa5 (by simp;omega)];have h2:=QC (k::Bo l.length 2) (List.replicate l.length 0) (List.replicate (509 - l.length) 0) l (by simp);rw[qe3,show l.length+(509 - l.length)=509 by omega]at h2;rw[show(k::Bo l.length 2).length=3 by simp[AP]]at h2;rw[h2,He];have h3:List.replicate (509 - l.length) (0:UInt8)=List.replicate (505 - l.length) 0++List.replicate 4 0:=by rw[qe3];congr 1;omega
 rw[h3];simp
theorem Aif(l:List UInt8)(i:Nat)(x:UInt8):(l.map bv).set i (bv x)=(l.set i x).map bv:=by rw[qdt]
theorem Afg(A T:List UInt8)(i:Nat)(x:UInt8)(hA:A.length=508)(hT:T.length=i)(hi:i<4:=by omega):(A++(T++List.replicate (4 - i) 0)).set (508+i) x=A++((T++[x])++List.replicate (4 - (i+1)) 0):=by
 rw[List.set_append,if_neg (by omega),List.set_append,if_neg (by omega)];rw[show 508+i - A.length - T.length=0 by omega,show 4 - i=(4 - (i+1))+1 by omega,List.replicate_succ];simp
theorem OW{A B:List UInt8}(h:A.length=508):(A++B).take 508=A:=by rw[qcn (by omega),qa5 (by omega)]
theorem UH(k:UInt8)(a:Option Addr)(c n:Nat)(l:List UInt8)(w:World)(R:Rd w a 1 B8 l)(hn:l.length=n)(hm:n<=9223372036854775807:=by omega):
  Ret prog 81 #[bv k,.slice a n c] w fun v w'=>Kw k l w v w':=by
 subst hn;obtain⟨w0,rfl,H⟩:=qE w;have hkb:=GQ k;refine A6 (fn:=f81) func81 U [bv k,.slice a l.length c] U (Ad (Aj U (Ac U (qA (Ar (AD (Ad (Ae U (B1 U U (Am U ?_))))))))));refine qA (Au _ U ?_ ?_)
 .intro h1;replace h1:=AU h1;have he:FW k l=1:=by rw[FW,qam (show k.toNat=0 by omega)];rfl
  refine Ad (Aj U (Ac U (qA (Ax (AL (Ao (Ce (v1:=(.slice _ _ _)) (v2:=(.int _ _)) U U U U ?_)))))));exact .inl ⟨by rw[he];decide,by rw[he],H.ext⟩
 .intro h1;replace h1:=AV h1;refine Ad (Ai U (AO AW U (Ci U U (Am U (qA (Au _ U ?_ ?_))))))
  .intro h2;replace h2:=AU h2;have he:FW k l=6:=by rw[FW,qai (show ¬k.toNat=0 by omega),qam (show 505<l.length by omega)];rfl
   refine Ad (Aj U (Ac U (qA (Ax (AL (Ao (Ce (v1:=(.slice _ _ _)) (v2:=(.int _ _)) U U U U ?_)))))));exact .inl ⟨by rw[he];decide,by rw[he],H.ext⟩
  .intro h2;replace h2:=AV h2;have he:FW k l=0:=by rw[FW,qai (show ¬k.toNat=0 by omega),qai (show ¬505<l.length by omega)];rfl
   refine Aq (AF (Aa (Ad (Be Al2 H ?_))));rintro b6 w - H;refine qA (BR [([0,1,3,4,5],2),([],6),([],7)] (fun _=>True) [] mixed (trivial) ?_);refine AB U U (Adn U NV CO U ?_);refine BM U (Cg U (Qh AW U (XI U U EW Gy ?_)));refine Bm ?_;replace H:=H.drew;refine BP [bv k] (bv k) AW CO HY U U U U H ?_;rintro b18 w - H;have R18:Rd w (some ⟨b18,0,none⟩) 1 B8 [k]:=Rd.of_bl (r:=[]) (H.get at0) rfl (fun x _=>rfl);refine Ab (Bb (trivial) (AB U U ?_));refine Bm (Ah qB (FI (some ⟨b18,0,none⟩) 1 1 [k] l.length 2 _ R18 U (hm:=by omega) (by omega)) U ?_);rintro v w F;obtain⟨a22,c22,rfl,R22,-⟩:=Fresh.rdB F;replace H:=H.call F.ext;have hp:Mg [k] l.length 2=k::Bo l.length 2:=rfl;rw[hp]at R22 |-;refine Ab (Bb (trivial) (AB U U ?_))
   refine Bm (Pz ((k::Bo l.length 2).map bv) U AW CO U U (by simp[AP]) (HQ _) (Rd.appB R22) H at1 (by simp) ?_);rintro w H;rw[Yd]at H;replace H:Ctx w0 [] w [(b6,Bl 163 (((k::Bo l.length 2)++(List.replicate 509 0)).map bv))]:=H.tail;refine Ab (Bb (trivial) (B3 (Ad (MM U NV CO U U ?_))));refine Ai U (Pz (l.map bv) U AW CO U U (by simp) (HQ _) (Rd.appB (R.ext0 H.ext)) H at0 (by simp[AP]) ?_);rintro w H;replace H:Ctx w0 [] w [(b6,Bl 163 (over (((k::Bo l.length 2)++(List.replicate 509 0)).map bv) 3 ((l.map bv).take 509)))]:=H;rw[Ye k l]at H;have hl508:=QB (k:=k) (l:=l) (by omega);have R6:Rd w (some ⟨b6,0,none⟩) 1 B8 (He k l++List.replicate 4 0):=Afc (H.get at0);have R8:=R6.take 508;rw[OW hl508]at R8;refine qA (Ad (U7 U NV CO U U ?_));refine Ah qB (Afb (some ⟨b6,0,none⟩) 512 508 (He k l) _ R8 hl508) U ?_
   rintro v w ⟨rfl,rfl⟩;refine Ac U (qA (Ar (Ad (MM U NV CO U U ?_))));refine AO AW U (Ae U (qA (AD ?_)));have hs:=Nc (UD (He k l));generalize hsv:(UD (He k l)).toNat=sv at hs;refine BF 8793945538816 (α:=Nat) (fun i=>[(31,.int .i64 i)]) (fun i w'=>i<=4/\Ctx w0 [] w' [(b6,Bl 163 ((He k l++((le4 sv).take i++List.replicate (4 - i) 0)).map bv))]) (fun i=>4 - i) 0 U ?_ ?_ ?_
   .exact⟨rfl,trivial⟩
   .exact⟨qak _,H⟩
   .rintro i j w ⟨hi,H⟩;refine Ad (Bt U U (qA (Ar (Au _ U ?_ ?_))))
    .intro h3;replace h3:=AU h3;refine Aq (Aa (Ar (AD (Ad (Ae U (Ac U (qA (Av (Ae U (AA U U ?_))))))))));refine Ae U (Ae U (EX U U ?_));rw[show(8:Int)*(i:Int)=((8*i:Nat):Int)from by simp];refine Qd U U U (GU U U Ya FB ?_);rw[Tj];refine Ed NV CO U U (Bc (bv _) CO U U U H at0 (by simp[hl508,UG];omega) ?_);rintro w H;rw[show 0+((508:Int)+(i:Int)).toNat*1=508+i by omega,Aif,Afg _ _ i _ hl508 (by rw[qa1,UG];omega),<-Aff]at H;refine Ab (AF (Aa (Av (AA U U ?_))));refine Ae U (qA ?_);exact⟨i+1,rfl,⟨rfl,trivial⟩,⟨by omega,H⟩,by omega⟩
    .intro h3;replace h3:=AV h3;have hi4:i=4:=by omega
     subst hi4;refine B9 (A8 (A8 (Bd (Aa (Ad (Aat U NV CO U ?_))))));refine Aj U (Ac U (qA (Ax (Ce (v1:=(.slice _ _ _)) (v2:=(.int _ _)) U U U U ?_))));refine .inr ⟨he,_,rfl,?_⟩
     have hfin:DC k l=He k l++((le4 sv).take 4++List.replicate (4 - 4) 0):=by
      rw[DC,hsv,qa5 (by rw[UG];exact qaf _)];simp
     refine⟨⟨some ⟨b6,0,none⟩,512,by rw[Fb (by omega)],?_,by rw[Fb (by omega)];exact qaf _,(H.own _ (qae ..)).elim (fun h=>by cases h) id⟩,H.ext⟩;rw[hfin];exact Afc (H.get at0)
def preB(k:UInt8)(l:List UInt8)(z:Nat):List UInt8:=(k::Bo l.length 2)++(l++List.replicate z 0)
def FX(b:List UInt8):UInt8:=(b[0]?).getD 0
def JV(b:List UInt8):Nat:=numN ((b.drop 1).take 2)
def Ia(b:List UInt8):List UInt8:=(b.drop 3).take 505
def C8(b:List UInt8):List UInt8:=(Ia b).take (JV b)
def OX(b:List UInt8):Bool := !decide ((FX b).toNat=0) && (decide (JV b<=505) && Pv ((Ia b).drop (JV b)))
def Ez(b:List UInt8):Int:=bif !(decide (b.length=512) && HZ b)then 9 else bif OX b then 0 else 5
def Nf(b:List UInt8)(w:World)(v:Value)(w':World):Prop :=
 (Ez b≠0/\v=.tuple #[.int .u8 0,.slice none 0 0,.int .i64 (Ez b)]/\Ext [] w w') \/
 (Ez b=0/\∃s,v=.tuple #[bv (FX b),s,.int .i64 0]/\Fresh w w' 5 1 s ((C8 b).map bv))
theorem Aig{b:List UInt8}(h:(!(decide (b.length=512) && HZ b))=true):Ez b=9:=by rw[Ez,h];rfl
theorem UI{b:List UInt8}(h:(decide (b.length=512) && HZ b)=true)(h5:OX b=false):Ez b=5:=by rw[Ez,h,h5];rfl
theorem Zs{b:List UInt8}(h:(decide (b.length=512) && HZ b)=true)(h5:OX b=true):Ez b=0:=by rw[Ez,h,h5];rfl
theorem Afh{b:List UInt8}(h:b.length=512):(Ia b).length=505:=by simp[Ia,h]
theorem Aih{b:List UInt8}(h:b.length=512):b[0]?=some (FX b):=by
 obtain⟨x,hx⟩:=AR (l:=b) (i:=0);rw[FX,hx];rfl
theorem UJ(a:Option Addr)(c n:Nat)(b:List UInt8)(w:World)(R:Rd w a 1 B8 b)(hn:b.length=n)(hc:b.length<=c)(hm:n<=9223372036854775799:=by omega):
  Ret prog 106 #[.slice a n c] w fun v w'=>Nf b w v w':=by
 subst hn;obtain⟨w0,rfl,H⟩:=qE w;refine A6 (fn:=f106) func106 U [.slice a b.length c] U ?_;refine Ad (Ac U (Aj U (Ac U (qA (Ar (Ad (BB (α:=Unit) 130560 (fun _=>[(16,.bool (!(decide (b.length=512) && HZ b)))]) (fun _ w'=>Ctx w0 [] w' []) U ?_ ?_)))))))
 .refine Ai U (AO AW U (AZ U U (AC U (AX 12 U ?_ ?_))))
  .intro h1;replace h1:=Bu h1;refine Ak U (Ak U (Ak U (AQ U (.bool _) U (Ab ?_))));exact⟨rfl,(),rfl,⟨qac Value.bool (by rw[qar];simp_all;try omega),trivial⟩,H⟩
  .intro h2;replace h2:=Bv h2;refine Ai U (Ah qB (VM a c b _ (R.ext0 H.ext) hc) U ?_);rintro v w ⟨rfl,rfl⟩;refine Cl U (AN U (.bool _) U (Ab ?_));exact⟨rfl,(),rfl,⟨qac Value.bool (by rw[qar];simp_all;try omega),trivial⟩,H⟩
 rintro - j16 w H;refine Au _ U ?_ ?_
 .intro h1;replace h1:=CJ h1;have he:=Aig (b:=b) (by rw[h1];rfl);refine Ad (Ac U (Aj U (Ac U (qA (Ax (Ao (CG (v1:=(.int _ _)) (v2:=(.slice _ _ _)) (v3:=(.int _ _)) U U U U U ?_)))))));exact .inl ⟨by rw[he];decide,by rw[he],H.ext⟩
 .intro h1;replace h1:=CK h1;have hlr:(decide (b.length=512) && HZ b)=true:=h1;simp only[qao,qap]at h1;obtain⟨h512,hright⟩:=h1;have hrl:=Afh h512;have hk:=Aih h512;have hkb:=GQ (FX b)
  have hnb:JV b<65536:=by
   have:=JD ((b.drop 1).take 2);have h2:((b.drop 1).take 2).length=2:=by rw[qa1,qbe];omega
   rw[h2]at this;exact this
  have hte:CV b 1 2=0:=by
   unfold CV;rw[qam (show(1:Int)<=(b.length:Int)by omega),qam (show(2:Int)<=(b.length:Int) - 1 by omega)];rfl
  have htv:FC b 1 2=.tuple #[.int .u64 (JV b:Int),.int .i64 3,.int .i64 0]:=by rw[FC,hte];rfl
  have R8:Rd w0 (Em a c 3 1) 1 B8 (Ia b):=(R.cut 3 c hc).take 505;refine Aq (Aa (Ad (Ai U (Ah qB (Gq a c b.length b 1 2 _ (R.ext0 H.ext) U hc) U ?_))));rintro v w ⟨rfl,hx⟩;rw[htv];replace H:=H.call hx;refine AM U (Ag U U (Ag U U (Ag U U (Ac U (Ac U (Ac U (qA (Ad (Ai U ?_)))))))));refine Ae U (Ai U (AO AW U (B4 U U ?_)));refine IM U AW CO U U U ?_;rw[show((b.length:Int) - 4).toNat - ((3:Int)).toNat=505 from by omega];refine Aj U (qA (Ar (AD (Ar (Ad (Ai U (Bj R AW CO U U (hn:=by rfl) ?_)))))));refine Bf Sk U ((R.ext0 H.ext).one (f:=bv) hk) (B1 U U (Am U (qA (Dj 29 U ?_ ?_))))
  .intro h2;replace h2:=AU h2;have he:=UI hlr (by rw[OX,qam (show(FX b).toNat=0 by omega)];rfl);refine Aq (Aa (Fi U (Ad (Ac U (Aj U (Ac U (qA (Ax (AL (Ao (CG (v1:=(.int _ _)) (v2:=(.slice _ _ _)) (v3:=(.int _ _)) U U U U U ?_)))))))))));exact .inl ⟨by rw[he];decide,by rw[he],H.ext⟩
  .intro h2;replace h2:=AV h2;refine Av (Ae U (Ai U (AO AW U (Dw U EW Gy ?_))));refine Ci U U (Am U (qA (Dj 29 U ?_ ?_)))
   .intro h3;replace h3:=AU h3;have he:=UI hlr (by rw[OX,qai (show ¬JV b<=505 by omega)];simp);refine Ad (Ac U (Aj U (Ac U (qA (Ax (AL (Ao (CG (v1:=(.int _ _)) (v2:=(.slice _ _ _)) (v3:=(.int _ _)) U U U U U ?_))))))));exact .inl ⟨by rw[he];decide,by rw[he],H.ext⟩
   .intro h3;replace h3:=AV h3;have hcut:=(R8.ext0 H.ext).cut (JV b) (c - 3) (by omega);refine Ad (Ai U (Ae U (FR U AW CO U U ?_)));refine Ah qB (Aie _ (c - 3 - JV b) (505 - JV b) ((Ia b).drop (JV b)) _ hcut (by rw[qbe];omega) (by rw[qbe];omega)) U ?_;rintro v w ⟨⟨a',n',c',rfl,hz,hle⟩,rfl⟩;refine AO AW U (Ci U U ?_);rw[show decide ((0:Int)<(n':Int)) = !Pv ((Ia b).drop (JV b))from by rw[<-hz];exact decide_eq_decide.2 (by omega)];refine Am U (qA (Au _ U ?_ ?_))
    .intro h4;have hz4:Pv ((Ia b).drop (JV b))=false:=by simpa using h4
     have he:=UI hlr (by rw[OX,hz4];simp);refine Ad (Ac U (Aj U (Ac U (qA (Ax (AL (Ao (CG (v1:=(.int _ _)) (v2:=(.slice _ _ _)) (v3:=(.int _ _)) U U U U U ?_))))))));exact .inl ⟨by rw[he];decide,by rw[he],H.ext⟩
    .intro h4;have hz4:Pv ((Ia b).drop (JV b))=true:=by simpa using h4
     have he:=Zs hlr (by rw[OX,hz4,qai (show ¬(FX b).toNat=0 by omega),qam (show JV b<=505 by omega)];rfl);obtain⟨wS,rfl⟩:=qD w;refine Aq (AF (Aa (BR [([0,1,2,3,4,5],6),([7,8],9)] (fun x=>Ext [] wS x) [] mixed (Ext.drew [] wS) ?_)));refine AB U U (Cg U (DS R AW CO U U (hn:=by rfl) ?_));refine BJ Sk U (fun _ hx=>(R.ext0 (H.ext.trans hx)).one (f:=bv) hk) (Cg U (BM U (GC U AW CO U U ?_)));refine Bm ?_;replace H:=H.drew;refine Ah qB (Je (Em a c 3 1) (c - 3) (JV b) (C8 b) _ ((R8.ext0 H.ext).take (JV b)) (by rw[C8,qa1];omega)) U ?_;rintro v w ⟨F,-⟩;obtain⟨a52,n52,c52,full52,rfl,-⟩:=F.ex;refine Ab (Bb ((Ext.drew [] wS).trans F.ext) (AB U U ?_))
     refine SR U U (HF U U (Bm (Ac U (Ab (Bb ((Ext.drew [] wS).trans F.ext) (B3 (Ax (CG (v1:=(.int _ _)) (v2:=(.slice _ _ _)) (v3:=(.int _ _)) U U U U U ?_))))))));exact .inr ⟨he,_,rfl,Fresh.since F H.ext⟩
theorem Afi(l:List UInt8):Pv l=true↔l=List.replicate l.length 0:=by
 rw[Pv,qbz,List.eq_replicate_iff];simp
theorem Afj{s:Nat}(hs:s<4294967296):Hc (le4 s)=s:=by
 unfold le4;simp only[List.range,List.range.loop,qay,qbr,Hc,UInt8.toNat_ofNat'];omega
theorem Fresh.newB{w w':World}{t:Nat}{s:Value}{xs:List UInt8}(h:Fresh w w' t 1 s (xs.map bv)):∃a c,s=.slice a xs.length c/\Rd w' a 1 B8 xs/\xs.length<=c/\(xs=[]\/w.heap.size<=(adr a).block):=by
 obtain⟨a,n,c,full,rfl,O,hb⟩:=h.ex;have hn:=O.num;subst hn;have R:Rd w' a 1 B8 xs:=O.rd1 (t:=t) fun x hx=>(hb x hx).1;refine⟨a,c,rfl,R,O.le,?_⟩
 by_cases h0:xs=[]
 .exact .inl h0
 .obtain⟨b,o,rfl⟩:=R.some' h0;exact .inr (hb _ (qaa.2 U)).2
theorem Rd.newer{w w':World}{a:Option Addr}{xs:List UInt8}{n:Nat}{S:List Nat}(R:Rd w a 1 B8 xs)(hn:xs=[]\/n<=(adr a).block)(he:Ext S w w')(hS:∀x∈S,x<n):Rd w' a 1 B8 xs:=by
 rcases hn with rfl|hn
 .exact Rd.nil
 .exact R.ext he fun h=>absurd (hS _ h) (by omega)
end Go.Proofs.YtcpgbcabmcbclaaGreatDoor
