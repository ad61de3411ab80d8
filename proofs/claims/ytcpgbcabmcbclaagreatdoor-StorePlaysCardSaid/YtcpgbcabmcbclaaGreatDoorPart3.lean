/- Part 3 of the proof. -/
import Derived.Test.YtcpgbcabmcbclaaGreatDoorPart2
import Derived.Shelf.SlIter.Nil
import Derived.Shelf.SlIter.Sorted
import Derived.StringKeys
import Derived.RangeFuncLeaves
import Derived.Lib.Bytealg
import Derived.Laws.Externs
import Derived.Lib.AppendZerosOnto
import Derived.DefersIn
import Derived.ProofKit
import Derived.Deep.Slices
import Derived.OpenShut
import Derived.Test.YtcpgbcabmcbclaaGreatDoorProg
import Derived.KernelRfl
set_option maxRecDepth 20000
set_option maxHeartbeats 1000000
namespace Go.GV
open Go
section
variable {κ:Type}[DecidableEq κ]
def BJ{α:Type}(m:List (κ × α))(k:κ):Option α:=(m.find? fun p=>decide (p.1=k)).map (·.2)
def JC{α:Type}:List (κ × α)->κ->α->List (κ × α)
 | [],k,v=>[(k,v)]
 |p::m,k,v=>if p.1=k then(k,v)::m else p::JC m k v
def Gr{α:Type}:List (κ × α)->κ->List (κ × α)
 | [],_=>[]
 |p::m,k=>if p.1=k then m else p::Gr m k
theorem OV{α:Type}{k:κ}:∀{m:List (κ × α)},BJ m k=none->Gr m k=m
 | [],_=>rfl
 |p::m,h=>by
  have hp:¬p.1=k:=fun hp=>by simp[BJ,hp]at h
  have hm2:BJ m k=none:=by rw[<-h];simp[BJ,hp]
  simp[Gr,hp,OV hm2]
theorem FT{α:Type}{k:κ}{v:α}:∀{m:List (κ × α)},BJ m k=none->JC m k v=m++[(k,v)]
 | [],_=>rfl
 |p::m,h=>by
  have hp:¬p.1=k:=fun hp=>by simp[BJ,hp]at h
  have hm2:BJ m k=none:=by rw[<-h];simp[BJ,hp]
  simp[JC,hp,FT hm2]
end
def Ek{κ:Type}(V:κ->Value)(m:List (κ × Value))(o:Obj):Prop :=
 ∃es clock,o=.map es clock/\es.toList.map (fun e=>(e.key,e.val))=m.map (fun p=>(V p.1,p.2))/\(∀e∈es.toList,e.born<clock)/\(es.toList.map (·.born)).Nodup
structure NowOk{κ:Type}[DecidableEq κ](P:Program)(k:TypeId)(kd:TypeDesc)(V:κ->Value):Prop where
 und:P.underlying k=some kd
 same:∀x y,Instr.sameNow kd (V x) (V y)=some (decide (x=y))
 check:∀{b:Bool} (v:Value) (w:World) (d:Nat),(Instr.checkKey b (d+1) k v).run P w=.ok () w
 stay:∀(x:κ) (w:World),(Instr.keyThatStays (V x) (V x)).run P w=.ok (V x) w
theorem Ur(x y:List UInt8):((⟨x.toArray⟩:ByteArray) == ⟨y.toArray⟩)=decide (x=y):=by
 show(x.toArray == y.toArray)=_;rw[qar,beq_iff_eq,qaq];exact⟨fun h=>by have:=qab Array.toList h;simpa using this,fun h=>by rw[h]⟩
theorem Fy{P:Program}{k:TypeId}(h:P.underlying k=some .string):NowOk P k .string str where
 und:=h
 same:=fun x y=>by
  show some ((⟨x.toArray⟩:ByteArray) == ⟨y.toArray⟩)=_;rw[Ur]
 check:=fun v w d=>by simp[Instr.checkKey,AL h]
 stay:=fun x w=>by
  have h2:((⟨x.toArray⟩:ByteArray) == ⟨x.toArray⟩)=true:=by rw[Ur];exact qal rfl
  simp[Instr.keyThatStays,Instr.sameBits,str,h2]
section
variable {P:Program}{κ:Type}[DecidableEq κ]{k:TypeId}{kd:TypeDesc}{V:κ->Value}
theorem ID(hK:NowOk P k kd V)(n:κ):∀(es:List MapEntry) (m:List (κ × Value)) (i:Nat),es.map (fun e=>(e.key,e.val))=m.map (fun p=>(V p.1,p.2)) ->
  (BJ m n=none->Instr.findNow kd (V n) es i=some none) /\
  (∀v,BJ m n=some v->∃j,Instr.findNow kd (V n) es i=some (some (i+j,v))/\j<es.length/\∀(v':Value),(es.modify j fun e=>{ e with key:=V n,val:=v' }).map (fun e=>(e.key,e.val))=(JC m n v').map (fun p=>(V p.1,p.2))/\((es[j]?).map (·.key))=some (V n) /\
   (es.eraseIdx j).map (fun e=>(e.key,e.val))=(Gr m n).map (fun p=>(V p.1,p.2)))
 | [],m,i,h=>by
  cases m with
  |nil=>exact⟨fun _=>rfl,fun v hv=>by cases hv⟩
  |cons p m=>cases h
 |e::es,m,i,h=>by
  cases m with
  |nil=>cases h
  |cons p m =>
   simp only[qaz,qdl,qdb]at h;obtain⟨⟨hk,hv⟩,ht⟩:=h;have ih:=ID hK n es m (i+1) ht;have hs:Instr.sameNow kd (V n) e.key=some (decide (n=p.1)):=by rw[hk];exact hK.same n p.1
   by_cases hn:p.1=n
   .have hb:decide (n=p.1)=true:=by simp[hn]
    have hg:BJ (p::m) n=some p.2:=by simp[BJ,hn]
    refine⟨(fun h=>by rw[hg]at h;cases h),fun v hv'=>?_⟩;rw[hg]at hv'
    injection hv' with hv'
    subst hv';refine⟨0,by simp[Instr.findNow,hs,hb,hv],by simp,fun v'=>⟨?_,by simp[hk,hn],?_⟩⟩
    .simp[JC,hn,ht,List.modify]
    .simp[Gr,hn,ht]
   .have hb:decide (n=p.1)=false:=by simpa using Ne.symm hn
    have hg:BJ (p::m) n=BJ m n:=by simp[BJ,hn]
    rw[hg];refine⟨fun h=>by simp[Instr.findNow,hs,hb,ih.1 h],fun v hv'=>?_⟩;obtain⟨j,h1,h2,h3⟩:=ih.2 v hv';refine⟨j+1,by simp[Instr.findNow,hs,hb,h1];omega,by simp;omega,fun v'=>?_⟩;obtain⟨a1,a2,a3⟩:=h3 v';refine⟨?_,by simpa using a2,?_⟩
    .simp only[qfb,qaz,JC,if_neg hn,a1,hk,hv]
    .simp only[List.eraseIdx_cons_succ,qaz,Gr,if_neg hn,a3,hk,hv]
end
section
variable {P:Program}{r:Option Nat}{ops rest:List Oper}{Q:Exit->Env->World->Prop}{e:Env}{w w0:World}{S:List Nat}{L:List (Nat × Obj)}{dst dst2:Option Tmp}{ty ty2:TypeId}{pos pos2:String}{af af2:Array Edge}{g g2:Option (Nat × Bool)}{κ:Type}[DecidableEq κ]{kd:TypeDesc}{V:κ->Value}
omit [DecidableEq κ] in
theorem KV{t:TypeId}(V:κ->Value)(hg:AJ ⟨dst,.makeMap t none,ty,pos,af,g⟩ ops e=true)(H:Ctx w0 S w L)(h:∀b o w',Ek V [] o->Ctx w0 S w' ((b,o)::L)->AA P r ops Q rest (put e dst (.map (some b))) w') :
  AA P r ops Q (⟨dst,.makeMap t none,ty,pos,af,g⟩::rest) e w:=by
 refine Bt (w':=w.alloc (.map #[] 0)) (v := .map (some w.heap.size)) hg U ?_ (h _ _ _ ⟨#[],0,rfl,rfl,by simp,by simp⟩ (H.alloc _));simp[execOp,Instr.makeMap,newObj,Sem.run]
theorem RA{t k el:TypeId}{x y:Operand}{b j:Nat}{o:Obj}{m:List (κ × Value)}{n:κ}{z:Value}(hg:AJ ⟨dst,.lookup t x y false,ty,pos,af,g⟩ ops e=true)(ht:IL P t=some (k,el))(hk:NowOk P k kd V)(hz:(P.info? el).bind (·.zero)=some z)(hx:ev e x=.map (some b))(hy:ev e y=V n)(H:Ctx w0 S w L)(hl:L[j]?=some (b,o))(hM:Ek V m o)(h:AA P r ops Q rest (put e dst ((BJ m n).getD z)) w):AA P r ops Q (⟨dst,.lookup t x y false,ty,pos,af,g⟩::rest) e w:=by
 obtain⟨es,clock,rfl,hes,_⟩:=hM;have hb:=H.get hl;have hf:=ID hk n es.toList m 0 hes;have hgo:(getObj b).run P w=.ok (.map es clock) w:=by simp[getObj,Sem.run,hb]
 have hzr:(zeroValue el).run P w=.ok z w:=by
  cases hi:P.info? el with
  |none=>rw[hi]at hz;cases hz
  |some i=>rw[hi]at hz;simp at hz;simp[zeroValue,typeInfo,program,Sem.run,hi,hz]
 refine Bt hg U ?_ h
 cases hm:BJ m n with
 |none=>simp[execOp,Instr.lookup,AL (Ft ht),hx,hy,hgo,hk.check,Instr.findKey,AL hk.und,hf.1 hm,hzr]
 |some v =>
  obtain⟨i,hi,_⟩:=hf.2 v hm;simp[execOp,Instr.lookup,AL (Ft ht),hx,hy,hgo,hk.check,Instr.findKey,AL hk.und,hi]
theorem FU{t k el:TypeId}{x y:Operand}{b j:Nat}{o:Obj}{m:List (κ × Value)}{n:κ}{z:Value}(hg:AJ ⟨dst,.lookup t x y true,ty,pos,af,g⟩ ops e=true)(ht:IL P t=some (k,el))(hk:NowOk P k kd V)(hz:(P.info? el).bind (·.zero)=some z)(hx:ev e x=.map (some b))(hy:ev e y=V n)(H:Ctx w0 S w L)(hl:L[j]?=some (b,o))(hM:Ek V m o)(h:AA P r ops Q rest (put e dst (.tuple #[(BJ m n).getD z,.bool (BJ m n).isSome])) w):AA P r ops Q (⟨dst,.lookup t x y true,ty,pos,af,g⟩::rest) e w:=by
 obtain⟨es,clock,rfl,hes,_⟩:=hM;have hb:=H.get hl;have hf:=ID hk n es.toList m 0 hes;have hgo:(getObj b).run P w=.ok (.map es clock) w:=by simp[getObj,Sem.run,hb]
 have hzr:(zeroValue el).run P w=.ok z w:=by
  cases hi:P.info? el with
  |none=>rw[hi]at hz;cases hz
  |some i=>rw[hi]at hz;simp at hz;simp[zeroValue,typeInfo,program,Sem.run,hi,hz]
 refine Bt hg U ?_ h
 cases hm:BJ m n with
 |none=>simp[execOp,Instr.lookup,AL (Ft ht),hx,hy,hgo,hk.check,Instr.findKey,AL hk.und,hf.1 hm,hzr]
 |some v =>
  obtain⟨i,hi,_⟩:=hf.2 v hm;simp[execOp,Instr.lookup,AL (Ft ht),hx,hy,hgo,hk.check,Instr.findKey,AL hk.und,hi]
theorem RC{t k el:TypeId}{b j:Nat}{o:Obj}{m:List (κ × Value)}{n:κ}(v:Value)(ht:IL P t=some (k,el))(hk:NowOk P k kd V)(H:Ctx w0 S w L)(hl:L[j]?=some (b,o))(hM:Ek V m o) :
  ∃o' w',(Instr.mapUpdate t (.map (some b)) (V n) v).run P w=.ok () w'/\Ek V (JC m n v) o'/\Ctx w0 S w' (L.set j (b,o')):=by
 obtain⟨es,clock,rfl,hes,hbn,hnd⟩:=hM;have hb:=H.get hl;have hf:=ID hk n es.toList m 0 hes;have hgo:(getObj b).run P w=.ok (.map es clock) w:=by simp[getObj,Sem.run,hb]
 have hso:∀o',(setObj b o').run P w=.ok () (w.putObj b o'):=fun o'=>by simp[setObj,Sem.run,hb,World.putObj]
 cases hm:BJ m n with
 |none =>
  refine⟨.map (es.push { key:=V n,val:=v,born:=clock }) (clock+1),w.putObj b _,?_,⟨_,_,rfl,?_,?_,?_⟩,H.setB hl _⟩
  .simp[Instr.mapUpdate,AL (Ft ht),hgo,hk.check,Instr.findKey,AL hk.und,hf.1 hm,hso]
  .have hms:JC m n v=m++[(n,v)]:=FT hm;rw[hms];simp[hes]
  .intro x hx;simp only[qev,qat,qaa]at hx
   rcases hx with hx|rfl
   .have:=hbn x hx;omega
   .simp
  .simp only[qev,qay,qaz,qbo];rw[qdm];refine⟨hnd,by simp,?_⟩;intro x hx y hy;simp only[qaa]at hy;subst hy;rw[qah]at hx;obtain⟨e',he',rfl⟩:=hx;have:=hbn e' he';omega
 |some v0 =>
  obtain⟨i,hi,hil,h3⟩:=hf.2 v0 hm;obtain⟨a1,a2,_⟩:=h3 v;have hkts:=hk.stay n w
  have hold:((es[i]?).map (·.key)).getD (V n)=V n:=by
   have:es[i]?=es.toList[i]? := by rw[qdi]
   rw[this,a2];rfl
  refine⟨.map (es.modify i fun e=>{ e with key:=V n,val:=v }) clock,w.putObj b _,?_,⟨_,_,rfl,?_,?_,?_⟩,H.setB hl _⟩
  .simp[Instr.mapUpdate,AL (Ft ht),hgo,hk.check,Instr.findKey,AL hk.und,hi,hold,hkts,hso]
  .rw[qdv];exact a1
  .intro x hx;rw[qdv,qcg]at hx;obtain⟨q,hq⟩:=hx;rw[qcq]at hq
   cases hq2:es.toList[q]? with
   |none=>rw[hq2]at hq;simp at hq
   |some y =>
    rw[hq2]at hq;have hy:=hbn y (qad hq2)
    injection hq with hq
    subst hq;dsimp only
    split <;> exact hy
  .rw[qdv]
   have:(es.toList.modify i fun e=>{ e with key:=V n,val:=v }).map (·.born)=es.toList.map (·.born):=by
    apply qci;intro q;rw[qas,qas,qcq]
    cases es.toList[q]? with
    |none=>rfl
    |some y=>show some (Value.map none,(if i=q then _ else y).born).2=some y.born;split <;> rfl
   rw[this];exact hnd
theorem HF{t k el:TypeId}{x y z:Operand}{b j:Nat}{o:Obj}{m:List (κ × Value)}{n:κ}(v:Value)(hg:AJ ⟨dst,.mapUpdate t x y z,ty,pos,af,g⟩ ops e=true)(ht:IL P t=some (k,el))(hk:NowOk P k kd V)(hx:ev e x=.map (some b))(hy:ev e y=V n)(hv:ev e z=v)(H:Ctx w0 S w L)(hl:L[j]?=some (b,o))(hM:Ek V m o)(h:∀o' w',Ek V (JC m n v) o'->Ctx w0 S w' (L.set j (b,o'))->AA P r ops Q rest (put e dst undef) w'):AA P r ops Q (⟨dst,.mapUpdate t x y z,ty,pos,af,g⟩::rest) e w:=by
 obtain⟨o',w',hr,hM',H'⟩:=RC (n:=n) v ht hk H hl hM;exact N5 hg U (by simp[execOp,hx,hy,hv,hr]) (h o' w' hM' H')
theorem WG{t t2 k el ty:TypeId}{b j:Nat}{o:Obj}{m:List (κ × Value)}{n:κ}(ht:IL P t=some (k,el))(hk:NowOk P k kd V)(H:Ctx w0 S w L)(hl:L[j]?=some (b,o))(hM:Ek V m o) :
  ∃o' w',(Builtin.delete_ #[t,t2] ty #[.map (some b),V n]).run P w=.ok (.tuple #[]) w'/\Ek V (Gr m n) o'/\Ctx w0 S w' (L.set j (b,o')):=by
 obtain⟨es,clock,rfl,hes,hbn,hnd⟩:=hM;have hb:=H.get hl;have hf:=ID hk n es.toList m 0 hes;have hgo:(getObj b).run P w=.ok (.map es clock) w:=by simp[getObj,Sem.run,hb]
 have hso:∀o',(setObj b o').run P w=.ok () (w.putObj b o'):=fun o'=>by simp[setObj,Sem.run,hb,World.putObj]
 cases hm:BJ m n with
 |none =>
  refine⟨.map es clock,w.putObj b _,?_,⟨_,_,rfl,by rw[OV hm];exact hes,hbn,hnd⟩,H.setB hl _⟩;simp[Builtin.delete_,AL (Ft ht),hgo,hk.check,Instr.findKey,AL hk.und,hf.1 hm,hso]
 |some v0 =>
  obtain⟨i,hi,hil,h3⟩:=hf.2 v0 hm;obtain⟨_,_,a3⟩:=h3 v0
  have htl:(es.eraseIdxIfInBounds i).toList=es.toList.eraseIdx i:=by
   rw[Array.eraseIdxIfInBounds,dif_pos (by simpa using hil)];simp
  refine⟨.map (es.eraseIdxIfInBounds i) clock,w.putObj b _,?_,⟨_,_,rfl,by rw[htl];exact a3,?_,?_⟩,H.setB hl _⟩
  .simp[Builtin.delete_,AL (Ft ht),hgo,hk.check,Instr.findKey,AL hk.und,hi,hso]
  .intro x hx;rw[htl]at hx;exact hbn x (List.mem_of_mem_eraseIdx hx)
  .rw[htl];exact List.Sublist.nodup (List.Sublist.map _ (List.eraseIdx_sublist ..)) hnd
theorem Zh{t t2 k el:TypeId}{x y:Operand}{b j:Nat}{o:Obj}{m:List (κ × Value)}{n:κ}(hg:AJ ⟨dst,.call ⟨.builtin .delete,#[x,y],#[t,t2]⟩,ty,pos,af,g⟩ ops e=true)(ht:IL P t=some (k,el))(hk:NowOk P k kd V)(hx:ev e x=.map (some b))(hy:ev e y=V n)(H:Ctx w0 S w L)(hl:L[j]?=some (b,o))(hM:Ek V m o)(h:∀o' w',Ek V (Gr m n) o'->Ctx w0 S w' (L.set j (b,o'))->AA P r ops Q rest (put e dst (.tuple #[])) w'):AA P r ops Q (⟨dst,.call ⟨.builtin .delete,#[x,y],#[t,t2]⟩,ty,pos,af,g⟩::rest) e w:=by
 obtain⟨o',w',hr,hM',H'⟩:=WG (ty:=ty) (t2:=t2) (n:=n) ht hk H hl hM;exact Bt (w':=w') (v := .tuple #[]) hg U (by simp[execOp,resolve,invoke,builtin,hx,hy,hr]) (h o' w' hM' H')
def EntN(V:κ->Value)(n:κ)(st:Int)(m:List (κ × Value))(o:Obj):Prop :=
 ∃(es:Array MapEntry) (clock:Nat) (z:Value),o=.map (es.push { key:=V n,val:=z,born:=clock }) (clock+1)/\st=(clock:Nat)/\es.toList.map (fun e=>(e.key,e.val))=m.map (fun p=>(V p.1,p.2))/\(∀e∈es.toList,e.born<clock)/\(es.toList.map (·.born)).Nodup
def kvN{κ:Type}(V:κ->Value)(p:κ × Value):Value × Value:=(V p.1,p.2)
def VisN(V:κ->Value)(b:Nat)(m vis:List (κ × Value))(o it:Obj):Prop :=
 ∃(es:Array MapEntry) (clock:Nat) (ves rest:List MapEntry),o=.map es clock/\es.toList.map kvE=m.map (kvN V)/\(∀e∈es.toList,e.born<clock)/\(es.toList.map (·.born)).Nodup /\
  it=.mapIter (some b) clock (ves.map (·.born)).toArray clock/\(ves++rest).Perm es.toList/\ves.map kvE=vis.map (kvN V)
theorem Ak3{κ:Type}[Inhabited κ]{V:κ->Value}(hJ:∀x y,V x=V y->x=y):∃U:Value->κ,∀x,U (V x)=x:=by
 refine⟨fun v => @dite _ (∃x,V x=v) (Classical.propDecidable _) (fun h=>Classical.choose h) fun _=>default,fun x=>?_⟩;have h:∃y,V y=V x:=⟨x,rfl⟩;simp only[h,dite_true];exact hJ _ _ (Classical.choose_spec h)
omit [DecidableEq κ] in
theorem VisN.perm[Inhabited κ](hJ:∀x y,V x=V y->x=y){b:Nat}{m vis:List (κ × Value)}{o it:Obj}(h:VisN V b m vis o it):∃res,(vis++res).Perm m:=by
 obtain⟨es,clock,ves,rest,_,hes,_,_,_,hp,hv⟩:=h;obtain⟨U,hU⟩:=Ak3 hJ
 have hD:∀m:List (κ × Value),(m.map (kvN V)).map (fun q:Value × Value=>(U q.1,q.2))=m:=fun m=>by
  rw[qbi];exact List.map_id'' (fun p=>by show(U (V p.1),p.2)=p;rw[hU]) m
 have h1:=(hp.map kvE).map (fun q:Value × Value=>(U q.1,q.2));rw[qay,qay,hv,hD,hes,hD]at h1;exact⟨_,h1⟩
omit [DecidableEq κ] in
theorem VisN.le[Inhabited κ](hJ:∀x y,V x=V y->x=y){b:Nat}{m vis:List (κ × Value)}{o it:Obj}(h:VisN V b m vis o it):vis.length<=m.length:=by
 obtain⟨res,h⟩:=h.perm hJ;have:=h.length_eq;rw[qan]at this;omega
omit [DecidableEq κ] in
theorem VisN.mem[Inhabited κ](hJ:∀x y,V x=V y->x=y){b:Nat}{m vis:List (κ × Value)}{o it:Obj}(h:VisN V b m vis o it):∀p∈vis,p∈m:=fun p hp=>by
 obtain⟨res,h⟩:=h.perm hJ;exact h.mem_iff.1 (qa5 _ hp)
end
open Go Go.Maps Go.WideElems Go.RowKit Go.WideShapes
theorem Aa2{x y:List UInt8}(h:str x=str y):x=y:=by simpa[str]using h
theorem PP{P:Program}{k:TypeId}(hk:P.underlying k=some .string){w:World}{b:Nat}{m:List (List UInt8 × Value)}{o:Obj}(hb:w.heap[b]?=some o)(hM:Ek str m o)(nd:(m.map (·.1)).Nodup)(hsz:m.length<=maxLen)(hr:∀p∈m,p.1.length<=maxLen) :
  ∃D0:DataW Unit,w.ownsMap P k KD b m.length D0/\(strKeys D0).Perm (m.map (·.1))/\Maps.size D0=m.length:=by
 obtain⟨es,clock,rfl,hes,hborn,hnd⟩:=hM
 have hlen:es.toList.length=m.length:=by
  have:=qab List.length hes
  simpa using this
 have hkeys:es.toList.map (·.key)=m.map fun p=>str p.1:=by
  have:=qab (List.map Prod.fst) hes
  simpa[qbi,qcr]using this
 have hwf:∀x∈es.toList,∃a:List UInt8,x.key=str a/\keyOf P k x.key=some (.string a):=fun x hx=>by
  have h1:x.key∈es.toList.map (·.key):=qah.2 ⟨x,hx,rfl⟩;rw[hkeys,qah]at h1;obtain⟨p,hp,h2⟩:=h1;refine⟨p.1,h2.symm,?_⟩;rw[<-h2];have h3:=WideMaps.keyOf_string_mk hk (s:=⟨p.1.toArray⟩) (by show p.1.toArray.size<=maxLen;rw[qds];exact hr p hp)
  simpa[str]using h3
 have F:Fit P k KD es clock:=by
  refine⟨by rw[show es.size=es.toList.length by simp,hlen];exact hsz,⟨hborn,hnd,?_⟩,fun x hx=>?_⟩
  .rw[hkeys,qdo,qbs];rw[qdo,qbs]at nd;exact nd.imp fun h he=>h (Aa2 he)
  .obtain⟨a,_,h3⟩:=hwf x hx;exact⟨(.string a,.nil),by simp[rd,h3,KD]⟩
 have hrg:es.toList.map (rg P k KD)=(m.map fun p=>(Lit.string p.1,(DataW.nil:DataW Unit))):=by
  refine qci fun i=>?_;rw[qas,qas];have hki:=qab (fun l:List Value=>l[i]?) hkeys;simp only[qas]at hki
  cases hx:es.toList[i]? with
  |none =>
   rw[hx]at hki
   cases hm:m[i]? with
   |none=>rfl
   |some p=>rw[hm]at hki;cases hki
  |some x =>
   rw[hx]at hki
   cases hm:m[i]? with
   |none=>rw[hm]at hki;cases hki
   |some p =>
    rw[hm]at hki;obtain⟨a,h1,h3⟩:=hwf x (qad hx);have h2:x.key=str p.1:=qbw hki;obtain rfl:a=p.1:=Aa2 (h1.symm.trans h2);show some (rg P k KD x)=some _;rw[rg_of (y:=(.string p.1,.nil)) (by simp[rd,h3,KD])]
 refine⟨.map ((es.toList.map (rg P k KD)).foldr DataW.insert []),⟨es,clock,hb,F,by rw[show es.size=es.toList.length by simp,hlen];exact qae _,rfl⟩,?_,?_⟩
 .show(((es.toList.map (rg P k KD)).foldr DataW.insert []).map fun p=>Go.strOf p.1).Perm _;refine((sorted_perm _).map _).trans ?_;rw[hrg,qbi];exact List.Perm.of_eq (qc0 fun p _=>rfl)
 .show((es.toList.map (rg P k KD)).foldr DataW.insert []).length=_;rw[(sorted_perm _).length_eq,qai,hlen]
theorem PQ{w:World}{base:Nat}{e:TypeId}{v:Value}{xs:List (List UInt8)}{n:Nat}(hn:n=xs.length)(h:w.ownsRow base e 1 v n (xs.map str)) :
  ∃a c,v=.slice a xs.length c/\Rd w a 1 (fun x:List UInt8=>[str x]) xs/\xs.length<=c/\(xs=[]\/base<=(adr a).block):=by
 subst hn
 rcases h.2 with⟨rfl,hz⟩|⟨g,cap,cur,rfl,hbase,hg,hcap,_,hsz,hpre⟩
 .have:xs=[]:=qa4 hz
  subst this;exact⟨none,0,rfl,Rd.nil,qae _,.inl rfl⟩
 .refine⟨_,cap,rfl,?_,hcap,.inr hbase⟩
  have hO:OS (some ⟨g,0,none⟩) xs.length cap 1 cur.toList (xs.map str) :=
   ⟨fun p hp=>(by cases hp;rfl),fun hp=>(by cases hp),by simpa using hsz,hcap,hpre⟩
  exact hO.rd1 (t:=e) fun x hx=>by
   rw[LU rfl,qaa]at hx;subst hx;show w.heap[g]?=some (.cells cur.toList.toArray e (0,0));rw[Array.toArray_toList];exact hg
section
variable {P:Program}{r:Option Nat}{ops rest:List Oper}{Q:Exit->Env->World->Prop}{e:Env}{w w0:World}{S:List Nat}{L:List (Nat × Obj)}{dst:Option Tmp}{ty:TypeId}{pos:String}{af:Array Edge}{g:Option (Nat × Bool)}{n:Nat}
theorem Gn{α:Type}{x:Code}{K:Env->World->Prop}(D:Nat)(live:α->List (Nat × Value))(I:α->World->Prop)(hD:Ho D x=true)(h:W P r n x (GB (fun e' w'=>∃z,e'.ds=e.ds/\PD e' (live z)/\I z w') Q) e w)(hk:∀z j w',I z w'->K (YK (Acz e D j) (live z)) w'):W P r n x (GB K Q) e w:=by
 refine GW x (MT (S:=Same D e) ?_) (HD x _ e w hD (Same.refl _ _) h);rintro e' w' hs ⟨z,hd,hl,hI⟩;have:=hk z e'.g w' hI;rw[<-hs.eq hd,QG hl]at this;exact this
def Zi(l:Nat)(R:Value->World->Prop):Exit->Env->World->Prop
 | .normal,_,w=>∃lo,w.heap[l]?=some (.loop lo)/\R (.bool true) (w.putObj l (.loop { lo with state := .ready,pending:=none }))
 | .ret,_,w=>∃lo,w.heap[l]?=some (.loop lo)/\R (.bool false) (w.putObj l (.loop { lo with state := .done,pending:=some .ret }))
 | .exit id,_,w=>∃lo,w.heap[l]?=some (.loop lo)/\R (.bool false) (w.putObj l (.loop { lo with state := .done,pending:=some (.exit id) }))
 | .goto t,_,w=>∃lo,w.heap[l]?=some (.loop lo)/\R (.bool false) (w.putObj l (.loop { lo with state := .done,pending:=some (.goto t) }))
 |_,_,_=>False
def Age(P:Program)(l n:Nat)(body:Code)(R:Value->World->Prop):Exit->Env->World->Prop
 | .normal,e,w=>∃lo,w.heap[l]?=some (.loop lo)/\lo.state=.ready/\W P (some l) n body (Zi l R) e (w.putObj l (.loop { lo with state := .busy }))
 |_,_,_=>False
theorem IP{l f:Nat}{tmps:Array Value}{assign body:Code}{R:Value->World->Prop}(e0:Env)(hs:Sim n e0 { tmps:=tmps,defers:=[] })(h:W P (some l) n assign (Age P l n body R) e0 w)(hfit:(KB n assign && KB n body)=true:=by kernel_rfl):RoundIn Fence.wide 0 P l f tmps assign body w fun x w'=>∃v,x=.returned v/\R v w':=by
 simp only[qao]at hfit;refine roundIn_of_wpIn trivial ?_;have h1:=FQ (r:=some l) assign _ e0 w h hfit.1 _ hs;refine wpIn_mono (F:=Fr (some l)) h1 ?_;rintro x a w1 ⟨e1,hs1,hq⟩
 cases x with
 |normal =>
  obtain⟨lo,hl,hst,hb⟩:=hq;refine⟨_,run_beginRound hl hst,?_⟩;refine wpIn_mono (F:=Fr (some l)) (FQ (r:=some l) body _ e1 _ hb hfit.2 _ hs1) ?_;rintro y a2 w2 ⟨e2,_,hq2⟩
  cases y with
  |normal=>obtain⟨lo2,hl2,hR⟩:=hq2;exact⟨_,_,run_endRound none hl2,_,rfl,hR⟩
  |ret=>obtain⟨lo2,hl2,hR⟩:=hq2;exact⟨_,_,run_endRound (some .ret) hl2,_,rfl,hR⟩
  |exit id=>obtain⟨lo2,hl2,hR⟩:=hq2;exact⟨_,_,run_endRound (some (.exit id)) hl2,_,rfl,hR⟩
  |goto t=>obtain⟨lo2,hl2,hR⟩:=hq2;exact⟨_,_,run_endRound (some (.goto t)) hl2,_,rfl,hR⟩
  |panic c=>exact hq2.elim
  |outgrown=>exact hq2.elim
 |exit id=>exact hq.elim
 |goto t=>exact hq.elim
 |ret=>exact hq.elim
 |panic c=>exact hq.elim
 |outgrown=>exact hq.elim
def YieldAt(P:Program)(l:Nat)(vs:List Value)(w:World)(R:Value->World->Prop):Prop :=
 ∃fn tmps assign body,(Instr.yield l vs.toArray).run P w=.ok (.round l fn tmps assign body) w/\RoundIn Fence.wide 0 P l fn tmps assign body w fun x w'=>∃v,x=.returned v/\R v w'
theorem YieldAt.mono{l:Nat}{vs:List Value}{R R':Value->World->Prop}(h:YieldAt P l vs w R)(hr:∀v w',R v w'->R' v w'):YieldAt P l vs w R' :=
 let ⟨fn,tmps,assign,body,h1,h2⟩:=h
 ⟨fn,tmps,assign,body,h1,RoundIn.mono h2 fun _ _ ⟨v,hx,hR⟩=>⟨v,hx,hr _ _ hR⟩⟩
theorem RE{fo:Operand}{l:Nat}{args:Array Operand}{ats:Array TypeId}{vs:List Value}{R:Value->World->Prop}(hg:AJ ⟨dst,.call ⟨.value fo,args,ats⟩,ty,pos,af,g⟩ ops e=true)(hfo:ev e fo=.func (.yield l) #[] #[])(hy:YieldAt P l vs w R)(ha:args.toList.map (ev e)=vs)(h:∀v w',R v w'->AA P r ops Q rest (put e dst v) w') :
  AA P r ops Q (⟨dst,.call ⟨.value fo,args,ats⟩,ty,pos,af,g⟩::rest) e w:=by
 obtain⟨fn,tmps,assign,body,hy,hr⟩:=hy;have hav:args.map (ev e)=vs.toArray:=by subst ha;apply qcd;simp only[qcz]
 unfold AA;rw[if_pos hg,Oper.semAt_eq r _ _ (KJ rfl)]
 have hrun:(execOp (ev e) ⟨dst,.call ⟨.value fo,args,ats⟩,ty,pos,af,g⟩).run P w=.ok (.round l fn tmps assign body) w:=by
  simp[execOp,resolve,hfo,Deferred.ofValue,invoke,hav,hy]
 rw[hrun];exact RoundIn.mono hr fun _ _ ⟨v,hx,hR⟩=>⟨v,hx,h _ _ hR⟩
theorem KW{l:Nat}{vs:List Value}{lo:Loop}{R:Value->World->Prop}(hl:w.heap[l]?=some (.loop lo))(hs:vs.length=lo.params.size)(hr:RoundIn Fence.wide 0 P l lo.fn ((lo.params.zip vs.toArray).foldl (fun tmps (t,a)=>tmps.setIfInBounds t a) lo.tmps) lo.assign lo.body w fun x w'=>∃v,x=.returned v/\R v w'):YieldAt P l vs w R :=
 ⟨_,_,_,_,run_yield hl (by simpa using hs),hr⟩
theorem HM{f:Operand}{ps:Array Tmp}{assign body:Code}{gf:Nat}{ca:Array Value}(hf:ev e f=.func (.func gf) #[] ca)(hc:Ax P gf=true)(h:∀fn tmps,tmps.size=n->(∀i,tmps.getD i undef=e.g i)->∀D l w2,D=w.heap.size->l=w.heap.size+1->Ext [] w w2->w2.heap[D]?=some (.deferred (some [])) ->
   w2.heap[l]?=some (.loop { state := .ready,pending:=none,fn,tmps,params:=ps,assign,body,defers:=D }) ->
   Ret P gf (#[.func (.yield l) #[] #[]]++ca) w2 fun _ w3=>∃lo,w3.heap[l]?=some (.loop lo)/\lo.state ≠ .busy /\
    OK Q ⟨e.g,{ target := .collected D,args:=#[] }::e.ds⟩ (w3.putObj l (.loop { lo with state := .exhausted })) lo.pending):W P none n (.rangeFunc f ps assign body) Q e w:=by
 refine⟨_,rfl,fun fn tmps hn ht=>?_⟩;have hx1:=Ext.alloc ([]:List Nat) w (.deferred (some []));have hx2:=Ext.alloc ([]:List Nat) (w.alloc (.deferred (some []))) (.loop { state := .ready,pending:=none,fn,tmps,params:=ps,assign,body,defers:=w.heap.size });have hD:(w.alloc (.deferred (some []))).heap[w.heap.size]?=some (.deferred (some [])):=World.alloc_heap_new w _
 have h1:=h fn tmps hn ht w.heap.size (w.heap.size+1) _ rfl rfl (hx1.trans hx2) (by rw[hx2.block w.heap.size (by simp) (by simp)];exact hD)
  (by have:=World.alloc_heap_new (w.alloc (.deferred (some []))) (.loop { state := .ready,pending:=none,fn,tmps,params:=ps,assign,body,defers:=w.heap.size });rwa [World.size_alloc]at this)
 refine⟨gf,#[],ca,hf,?_,?_⟩
 .exact GU hc _ _
 .have hsz:(Jp none w).heap.size=w.heap.size+1:=by simp[Jp]
  simp only[hsz];have harr:#[]++#[Value.func (.yield (w.heap.size+1)) #[] #[]]++ca=#[Value.func (.yield (w.heap.size+1)) #[] #[]]++ca:=by simp
  rw[harr];exact h1
def Marks:List Deferred->World->(World->Prop)->Prop
 | [],w,K=>K w
 |d::ds,w,K=>∃D,d.target=.collected D/\w.heap[D]?=some (.deferred (some []))/\Marks ds (w.putObj D (.deferred none)) K
def Aa3(P:Program)(fn:Func)(R:Value->World->Prop):Exit->Env->World->Prop
 | .normal,e,w | .ret,e,w=>Marks e.ds w fun w'=>∀tmps:Array Value,(∀i,tmps.getD i undef=e.g i)->∃v,(results fn tmps).run P w'=.ok v w'/\R v w'
 |_,_,_=>False
theorem N8{fn:Func}{R:Value->World->Prop}{tmps:Array Value}:∀{ds:List Deferred} {w:World},(Marks ds w fun w'=>∃v,(results fn tmps).run P w'=.ok v w'/\R v w') ->
  LeavesInM Fence.wide 0 P fn tmps (fun x w'=>∃v,x=.returned v/\R v w') ds .returning w
 | [],w,⟨v,h1,h2⟩=>⟨v,h1,v,rfl,h2⟩
 |d::ds,w,⟨D,h1,h2,h3⟩=>⟨by simp,.inl ⟨D,_,h1,run_takeDeferred h2,N8 h3⟩⟩
theorem Marks.mono:∀{ds:List Deferred} {w:World} {K K':World->Prop},(∀w,K w->K' w)->Marks ds w K->Marks ds w K'
 | [],_,_,_,h,hk=>h _ hk
 |_::_,_,_,_,h,⟨D,h1,h2,h3⟩=>⟨D,h1,h2,Marks.mono h h3⟩
theorem JK{f:FuncId}{fn:Func}{c:Code}{args:Array Value}{R:Value->World->Prop}(hf:P.funcs[f]?=some fn)(hb:fn.body=some c)(l:List Value)(hargs:args=l.toArray)(h:W P none fn.ntmps c (Aa3 P fn R) ⟨fun i=>l.getD i undef,[]⟩ w)(hfit:(Nat.ble l.length fn.ntmps && KB fn.ntmps c)=true:=by kernel_rfl):Ret P f args w R:=by
 simp only[qao]at hfit;refine callsIn_of_wp_marks hf hb trivial (wpIn_mono (FQ (r:=none) c _ _ w h hfit.2 _ ?_) ?_)
 .refine⟨rfl,?_,fun i=>?_⟩
  .subst hargs;have:=qdg hfit.1;simp;omega
  .subst hargs;simp only[qbt,qa9];rw[qes]
   by_cases hi:i<l.length
   .simp[hi]
   .simp only[qds,if_neg hi];rw[qbz (by omega)];rw[qet]
    split <;> rfl
 .rintro x a' w' ⟨e',hs',hq⟩
  have hgo:∀w',(Marks e'.ds w' fun w'=>∀tmps:Array Value,(∀i,tmps.getD i undef=e'.g i)->∃v,(results fn tmps).run P w'=.ok v w'/\R v w') ->
    LeavesInM Fence.wide 0 P fn a'.tmps (fun x w'=>∃v,x=.returned v/\R v w') a'.defers .returning w':=fun w' hm=>by
   rw[hs'.1];exact N8 (Marks.mono (fun w hk=>hk _ hs'.2.2) hm)
  cases x with
  |normal=>exact hgo _ hq
  |ret=>exact hgo _ hq
  |exit id=>exact hq.elim
  |goto l=>exact hq.elim
  |panic c=>exact hq.elim
  |outgrown=>exact hq.elim
theorem N9{fn:Func}{R:Value->World->Prop}{t:Tmp}{v:Value}(hr:fn.results=#[.tmp t])(hv:e.g t=v)(h:Marks e.ds w (R v)):Aa3 P fn R .ret e w :=
 Marks.mono (fun w h tmps ht=>by
  have h1:=(ht t).trans hv;rw[qbt]at h1
  exact⟨v,by simp[results,hr,h1],h⟩) h
end
theorem RF:∀a b:List UInt8,Op.bytesLess a b=decide (Lib.compareBytes a b = -1)
 | [],[]=>rfl
 | [],_::_=>rfl
 |_::_,[]=>rfl
 |x::a,y::b=>by
  have ih:=RF a b;unfold Op.bytesLess Lib.compareBytes
  by_cases h:x<y
  .simp[h]
  .by_cases h2:y<x
   .have hne:¬x=y:=fun e=>by subst e;exact UInt8.lt_irrefl x h2
    simp[h,h2,hne]
   .have he:x=y:=UInt8.le_antisymm (UInt8.not_lt.1 h2) (UInt8.not_lt.1 h);subst he;simp[ih]
section
variable {P:Program}{r:Option Nat}{ops rest:List Oper}{Q:Exit->Env->World->Prop}{e:Env}{w w0:World}{S:List Nat}{L:List (Nat × Obj)}{dst:Option Tmp}{ty:TypeId}{pos:String}{af:Array Edge}{g:Option (Nat × Bool)}{C:World->Prop}{K:Env->Prop}
theorem TP{w:World}{b:Nat}{l:List UInt8}:∀(o:Nat) (acc:List UInt8),(∀j x,l[j]?=some x->w.cell? ⟨b,o+j,none⟩=some (bv x)) ->
  (Extern.Bytes.loadBytes ⟨b,o,none⟩ l.length ⟨acc.toArray⟩).run P w=.ok ⟨(acc++l).toArray⟩ w:=by
 induction l with
 |nil=>intro o acc _;simp[Extern.Bytes.loadBytes]
 |cons x l ih =>
  intro o acc h;have h0:=h 0 x rfl
  have hl:(load ⟨b,o,none⟩:Sem Value).run P w=.ok (bv x) w:=by
   rw[run_load];rw[qc9]at h0;rw[h0]
  rw[qav];unfold Extern.Bytes.loadBytes;rw[Sem.run_bind,hl,Result.andThen_ok];simp only[bv];have hx:((x.toNat:Int).toNat).toUInt8=x:=by simp
  have hp:(ByteArray.push ⟨acc.toArray⟩ x)=⟨(acc++[x]).toArray⟩:=by simp[ByteArray.push]
  rw[hx,hp]
  have h2:=ih (o+1) (acc++[x]) (fun j y hj=>by
   have:=h (j+1) y (by simpa using hj)
   rw[show o+1+j=o+(j+1)by omega];exact this)
  rw[qa1,List.singleton_append]at h2;exact h2
theorem PR{w:World}{a:Option Addr}{c:Nat}{l:List UInt8}(R:Rd w a 1 B8 l):(Extern.Bytes.bytesOf (.slice a l.length c)).run P w=.ok ⟨l.toArray⟩ w:=by
 cases a with
 |none =>
  have h0:l=[]:=by
   cases l with
   |nil=>rfl
   |cons x l=>obtain⟨b,o,h⟩:=R.some' (by simp);cases h
  subst h0;rfl
 |some p =>
  cases l with
  |nil=>rfl
  |cons x l =>
   obtain⟨b,o,hp⟩:=R.some' (by simp)
   injection hp with hp
   subst hp
   have h:=TP (P:=P) (w:=w) (b:=b) (l:=x::l) o [] (fun j y hj=>by
    have:=Rd.one (f:=bv) R hj
    simpa[adr]using this)
   exact h
theorem VG{w:World}{a b:Option Addr}{c d:Nat}{l m:List UInt8}(R:Rd w a 1 B8 l)(R2:Rd w b 1 B8 m) :
  (Extern.BytealgCompare.compare #[.slice a l.length c,.slice b m.length d]).run P w=.ok (.int .i64 (Lib.compareBytes l m)) w:=by
 change Sem.run P (do pure (goInt (Extern.BytealgCompare.cmp (<-Extern.Bytes.bytesOf (.slice a l.length c)) (<-Extern.Bytes.bytesOf (.slice b m.length d))))) w=_
 rw[Sem.run_bind,PR R,Result.andThen_ok,Sem.run_bind,PR R2,Result.andThen_ok,Sem.run_pure,Lib.cmp_eq];rfl
theorem Ada{f:FuncId}{args:Array Operand}{ats:Array TypeId}{l:List Value}{v:Value}(hg:AJ ⟨dst,.call ⟨.value (.func f),args,ats⟩,ty,pos,af,g⟩ ops e=true)(hc:(callFunc f l.toArray).run P w=.ok (.value v) w)(ha:args.toList.map (ev e)=l)(h:AA P r ops Q rest (put e dst v) w) :
  AA P r ops Q (⟨dst,.call ⟨.value (.func f),args,ats⟩,ty,pos,af,g⟩::rest) e w:=by
 have:args.map (ev e)=l.toArray:=by subst ha;apply qcd;simp only[qcz]
 exact Bt hg U (by simp[execOp,resolve,ev,Deferred.ofValue,invoke,this,hc]) h
theorem WH{t tn el:TypeId}{kn:IntKind}{x y:Operand}{s by' k:Nat}{zl:List Value}(hg:AJ ⟨dst,.call ⟨.builtin .append,#[x,y],#[t,tn]⟩,ty,pos,af,g⟩ ops e=true)(hu:C0 P t=some el)(hn:P.underlying tn=some (.int kn))(hs:BK P el=some s)(hby:Gc P el=some by')(hz:BW P el=some zl)(hzl:zl.length=s)(hx:ev e x=.slice none 0 0)(hy:ev e y=.int .i64 (k:Int))(H:Ctx w0 S w L)(h:∀b c full w',Ctx w0 S w' ((b,Bl el full)::L)->OS (some ⟨b,0,none⟩) 0 c s full []->k<=c->AA P r ops Q rest (put e dst (.slice (some ⟨b,0,none⟩) k c)) w')(hs0:0<s:=by decide)(h0:0<k:=by omega)(hm:k*by'<=140737488355328:=by omega)(h63:k<=4611686018427387904:=by omega):
  AA P r ops Q (⟨dst,.call ⟨.builtin .append,#[x,y],#[t,tn]⟩,ty,pos,af,g⟩::rest) e w:=by
 obtain⟨i,hi⟩:∃i,P.info? el=some i:=by
  unfold BK at hs
  cases hi:P.info? el with
  |none=>rw[hi]at hs;cases hs
  |some i=>exact⟨i,rfl⟩
 have hsz:i.size=s:=by unfold BK at hs;rw[hi]at hs;exact qbw hs
 have hbz:i.bytes=by':=by unfold Gc at hby;rw[hi]at hby;exact qbw hby
 obtain⟨z,hz0,hz1⟩:∃z,i.zero=some z/\z.cells.toList=zl:=by
  unfold BW at hz;rw[hi]at hz;simp only[qd4]at hz
  cases hz0:i.zero with
  |none=>rw[hz0]at hz;cases hz
  |some z=>rw[hz0]at hz;exact⟨z,rfl,qbw hz⟩
 have hzs:z.cells.size=s:=by rw[<-hzl,<-hz1];simp
 have hr:=Lib.run_append_grow_zeros (P:=P) w t tn ty el i z .i64 kn (Cv hu) hn hi hz0 none 0 0 [] (run_firstCells_none ..) k h0 (by omega) (by omega) (by omega) (by rw[hbz];omega) (growslice_fits (by omega) (by rw[hbz,qa2];exact hm));rw[qa2]at hr;obtain⟨G,hG⟩:=qD (grownCap w k 0 el);have hGk:k<=G:=by rw[hG];exact grownCap_ge w _ _ _
 rw[<-hG]at hr;obtain⟨full,hf⟩:=qD ((#[]++Builtin.zeroCells z.cells k++Builtin.zeroCells z.cells (G - k)).toList:List Value)
 have hlen:full.length=G*s:=by
  have h1:(Builtin.zeroCells z.cells k).size=k*s:=by simp[Builtin.zeroCells,hzs]
  have h2:(Builtin.zeroCells z.cells (G - k)).size=(G - k)*s:=by simp[Builtin.zeroCells,hzs]
  rw[hf,Array.length_toList,Array.size_append,Array.size_append,h1,h2];simp only[Array.size_empty,qa2];rw[<-qco]
  congr 1
  omega
 have hB:(Obj.cells (#[]++Builtin.zeroCells z.cells k++Builtin.zeroCells z.cells (G - k)) el (0,0))=Bl el full:=by rw[Bl,hf]
 have hr2:(Builtin.append_ #[t,tn] ty #[.slice none 0 0,.int .i64 k]).run P w=.ok (.slice (some ⟨w.heap.size,0,none⟩) k G) (w.drew.alloc (Bl el full)):=by rw[<-hB];exact hr
 refine Bt (w':=w.drew.alloc (Bl el full)) (v := .slice (some ⟨w.heap.size,0,none⟩) k G) hg U ?_ (h w.heap.size G full _ (H.drew.alloc _) ⟨fun p hp=>(by cases hp;rfl),fun hh=>(by cases hh),hlen,qak _,(by rw[qd6,qdw])⟩ hGk);simp[execOp,resolve,invoke,builtin,hx,hy,hr2]
theorem Agf{t t2:TypeId}{x y:Operand}{l m:List UInt8}(hg:AJ ⟨dst,.binOp .lss t x y t2,ty,pos,af,g⟩ ops e=true)(hx:ev e x=str l)(hy:ev e y=str m)(h:AA P r ops Q rest (put e dst (.bool (decide (Lib.compareBytes l m = -1)))) w):AA P r ops Q (⟨dst,.binOp .lss t x y t2,ty,pos,af,g⟩::rest) e w :=
 Bt hg rfl (by
  have hq:eqGuard .lss t x y (.string ⟨l.toArray⟩) (.string ⟨m.toArray⟩)=pure ():=rfl
  simp only[execOp,hx,hy,hq,Sem.run_bind,Sem.run_pure,Result.andThen_ok,binOp,str,Op.stringOp,ByteArray.toList_eq,RF]) h
theorem Agg{t t2:TypeId}{x y:Operand}{l m:List UInt8}(hg:AJ ⟨dst,.binOp .geq t x y t2,ty,pos,af,g⟩ ops e=true)(hx:ev e x=str l)(hy:ev e y=str m)(h:AA P r ops Q rest (put e dst (.bool (!decide (Lib.compareBytes l m = -1)))) w):AA P r ops Q (⟨dst,.binOp .geq t x y t2,ty,pos,af,g⟩::rest) e w :=
 Bt hg rfl (by
  have hq:eqGuard .geq t x y (.string ⟨l.toArray⟩) (.string ⟨m.toArray⟩)=pure ():=rfl
  simp only[execOp,hx,hy,hq,Sem.run_bind,Sem.run_pure,Result.andThen_ok,binOp,str,Op.stringOp,ByteArray.toList_eq,RF]) h
end
section
variable {P:Program}{e:Env}{w w0:World}{S:List Nat}{L:List (Nat × Obj)}{fn:Func}{R:Value->World->Prop}
theorem Ak4{a s2:Tmp}{t:TypeId}{p:Addr}{v v2:Value}(hr:fn.results=#[.cell a t,.tmp s2])(hd:e.ds=[])(ha:e.g a=.pointer (some p))(hv:(loadVar t p).run P w=.ok v w)(h2:e.g s2=v2)(h:R (.tuple #[v,v2]) w):OM P fn R .ret e w :=
 ⟨hd,fun tmps ht=>by
  have h1:=(ht a).trans ha;have g2:=(ht s2).trans h2;rw[qbt]at h1 g2
  exact⟨.tuple #[v,v2],by simp[results,hr,h1,g2,asAddr,hv],h⟩⟩
theorem Ak5{a s2 s3:Tmp}{t:TypeId}{p:Addr}{v v2 v3:Value}(hr:fn.results=#[.cell a t,.tmp s2,.tmp s3])(hd:e.ds=[])(ha:e.g a=.pointer (some p))(hv:(loadVar t p).run P w=.ok v w)(h2:e.g s2=v2)(h3:e.g s3=v3)(h:R (.tuple #[v,v2,v3]) w):OM P fn R .ret e w :=
 ⟨hd,fun tmps ht=>by
  have h1:=(ht a).trans ha;have g2:=(ht s2).trans h2;have g3:=(ht s3).trans h3;rw[qbt]at h1 g2 g3
  exact⟨.tuple #[v,v2,v3],by simp[results,hr,h1,g2,g3,asAddr,hv],h⟩⟩
theorem Du{a s2:Tmp}{t t2:TypeId}{b k s:Nat}{l:List Value}{v2:Value}(hr:fn.results=#[.cell a t,.tmp s2])(hd:e.ds=[])(ha:e.g a=.pointer (some ⟨b,0,none⟩))(hag:DT P t=some true)(hs:BK P t=some s)(H:Ctx w0 S w L)(hk:L[k]?=some (b,Bl t2 l))(hl:l.length=s)(h2:e.g s2=v2)(h:R (.tuple #[.agg l.toArray,v2]) w):OM P fn R .ret e w :=
 Ak4 hr hd ha (JG hag hs hl (fun j v hv=>by rw[Aq (H.get hk),qa2];exact hv)) h2 h
theorem NA{a s2 s3:Tmp}{t t2:TypeId}{b k s:Nat}{l:List Value}{v2 v3:Value}(hr:fn.results=#[.cell a t,.tmp s2,.tmp s3])(hd:e.ds=[])(ha:e.g a=.pointer (some ⟨b,0,none⟩))(hag:DT P t=some true)(hs:BK P t=some s)(H:Ctx w0 S w L)(hk:L[k]?=some (b,Bl t2 l))(hl:l.length=s)(h2:e.g s2=v2)(h3:e.g s3=v3)(h:R (.tuple #[.agg l.toArray,v2,v3]) w):OM P fn R .ret e w :=
 Ak5 hr hd ha (JG hag hs hl (fun j v hv=>by rw[Aq (H.get hk),qa2];exact hv)) h2 h3 h
end
section
variable {P:Program}{ops rest:List Oper}{e:Env}{dst:Option Tmp}{ty:TypeId}{pos:String}{af:Array Edge}{g:Option (Nat × Bool)}{C:World->Prop}{K:Env->Prop}
theorem EP{t:TypeId}{parts:Array (Nat × Operand)}{pl:List (Nat × Nat)}{zl:List Value}(l:List Value)(hp:Ez P t=some pl)(hz:BW P t=some zl)(h:Wt P ops C K rest (put e dst (.agg l.toArray)))(hg:AJ ⟨dst,.build t parts,ty,pos,af,g⟩ ops e=true:=by exact U)(hl:Instr.fill (fun i=>pl.toArray[i]?) zl.toArray (parts.toList.map fun p=>(p.1,ev e p.2))=some l.toArray:=by kernel_rfl):
  Wt P ops C K (⟨dst,.build t parts,ty,pos,af,g⟩::rest) e:=by
 refine EA hg (fun w _=>?_) h;have hb:P.built t (parts.map fun(i,x)=>(i,ev e x)).toList=some l.toArray:=W8 hp hz (by rw[qcz];exact hl);simp[execOp,run_build w t _ _ hb]
end
abbrev Mt:=Nat->Prop
structure Grw(M M':Mt)(w w':World):Prop where
 ext:∃S,(∀x∈S,M x\/w.heap.size<=x)/\Ext S w w'
 new:∀x,M' x->M x\/w.heap.size<=x
theorem Grw.to{M M':Mt}{w w':World}(g:Grw M M' w w'){b:Nat}{o:Obj}(hb:w.heap[b]?=some o)(hn:¬M b):w'.heap[b]?=some o:=by
 obtain⟨S,hS,hx⟩:=g.ext;have hl:=Al hb;rw[hx.block b hl fun h=>by rcases hS b h with h|h;exact hn h;omega];exact hb
theorem Grw.size{M M':Mt}{w w':World}(g:Grw M M' w w'):w.heap.size<=w'.heap.size:=let ⟨_,_,hx⟩:=g.ext;hx.size
theorem Grw.not{M M':Mt}{w w':World}(g:Grw M M' w w'){b:Nat}(hb:b<w.heap.size)(hn:¬M b):¬M' b:=fun h=>by
 rcases g.new b h with h|h
 .exact hn h
 .omega
theorem Grw.call{M M':Mt}{w0 w w':World}(h:Ext [] w0 w)(hM:∀x,M x->x<w0.heap.size)(g:Grw M M' w w'):Grw M M' w0 w':=by
 obtain⟨S,hS,hx⟩:=g.ext;have hs:=h.size;exact⟨⟨S,fun x hm=>(hS x hm).imp id fun h=>by omega,(h.mono (by simp)).trans hx⟩,fun x hm=>(g.new x hm).imp id fun h=>by omega⟩
def IterOk(P:Program)(gf:FuncId)(ca:Array Value)(Z:List Nat)(K:Mt->World->Prop)(xs:List (List Value)):Prop :=
 ∀(l:Nat) (w:World) (J:Nat->Mt->World->Prop) (E:World->Prop),(∃M,J 0 M w)->(∀i M w' w'',J i M w'->Ext Z w' w''->J i M w'')->(∀w' w'',E w'->Ext Z w' w''->E w'')->(∀i M w',J i M w'->(∀x,M x->x<w'.heap.size)/\K M w') ->
  (∀i v M w',xs[i]?=some v->J i M w'->YieldAt P l v w' fun u w''=>(u=.bool true/\∃M',J (i+1) M' w''/\Grw M M' w' w'')\/(u=.bool false/\E w'')) ->
  Ret P gf (#[.func (.yield l) #[] #[]]++ca) w fun _ w'=>(∃M,J xs.length M w')\/E w'
section
variable {P:Program}{Q:Exit->Env->World->Prop}{e:Env}{w:World}{n:Nat}
def putsP(e:Env)(l:List (Tmp × Value)):Env:=l.foldl (fun e p=>put e (some p.1) p.2) e
def Qbody(D l:Nat)(J1:Mt->World->Prop)(E:World->Prop)(M:Mt)(w wB:World):Exit->Env->World->Prop
 | .normal,_,w3=>∃M',J1 M' w3/\(∀x,M' x->M x\/w.heap.size<=x)/\∃S,Ext S wB w3/\∀x∈S,M x\/w.heap.size<=x
 | .ret,_,w3=>E w3/\∃S,Ext S wB w3/\D∉S/\l∉S
 |_,_,_=>False
def Qassign(P:Program)(D l n:Nat)(body:Code)(J1:Mt->World->Prop)(E:World->Prop)(M:Mt)(w:World):Exit->Env->World->Prop
 | .normal,e,w1=>Ext [] w w1/\∀wB,Ext [l] w1 wB->W P (some l) n body (Qbody D l J1 E M w wB) e wB
 |_,_,_=>False
theorem Ext.to{S:List Nat}{w w':World}(h:Ext S w w'){b:Nat}{o:Obj}(hb:w.heap[b]?=some o)(hn:b∉S):w'.heap[b]?=some o:=by
 rw[h.block b (Al hb) hn];exact hb
end
section
variable {P:Program}{r:Option Nat}{ops rest:List Oper}{Q:Exit->Env->World->Prop}{e:Env}{w w0:World}{S:List Nat}{L:List (Nat × Obj)}{dst:Option Tmp}{ty:TypeId}{pos:String}{af:Array Edge}{g:Option (Nat × Bool)}
theorem Adb{b:Nat}{t:TypeId}{l:List Value}(h:w.heap[b]?=some (Bl t l))(k:Nat):w.freeze ⟨b,k,none⟩ 1=w.putObj b (.cells l.toArray t (k,k+1)):=by
 have hb:=Al h;unfold World.freeze World.putObj;rw[if_neg (by decide)]
 congr 1
 apply Array.ext_getElem?;intro i;rw[Array.getElem?_modify,Array.getElem?_setIfInBounds]
 by_cases hk:b=i
 .subst hk;rw[if_pos rfl,if_pos rfl,if_pos hb,h];simp[Bl]
 .rw[if_neg hk,if_neg hk]
theorem Agh{b:Nat}{t:TypeId}{l:List Value}{f:Nat × Nat}(h:w.heap[b]?=some (.cells l.toArray t f))(i:Nat):w.cell? ⟨b,i,none⟩=l[i]? := by
 unfold World.cell?;rw[h];simp
theorem Ak6{b:Nat}{t:TypeId}{l:List UInt8}{f:Nat × Nat}(h:w.heap[b]?=some (.cells (l.map bv).toArray t f)):Rd w (some ⟨b,0,none⟩) 1 B8 l:=by
 refine⟨fun _=>⟨b,0,rfl⟩,fun i x hx j v hv hj=>?_⟩;have hj0:j=0:=by omega
 subst hj0;simp only[B8,qc7,qbb]at hv;subst hv;show w.cell? ⟨b,0+i*1+0,none⟩=_;rw[Agh h];simp[hx]
theorem FD{t el:TypeId}{x:Operand}{b n c j:Nat}{l:List UInt8}(ht:C0 P t=some el)(he:P.underlying el=some (.int .u8))(hx:ev e x=.slice (some ⟨b,0,none⟩) n c)(H:Ctx w0 S w L)(hk:L[j]?=some (b,Bl el (l.map bv)))(h:∀w',Ctx w0 S w' (L.set j (b,.cells (l.map bv).toArray el (l.length,l.length+1)))->Rd w' (some ⟨b,0,none⟩) 1 B8 l->AA P r ops Q rest (put e dst (.slice (some ⟨b,0,none⟩) n c)) w')(hg:AJ ⟨dst,.convert t t x,ty,pos,af,g⟩ ops e=true:=by exact U):
  AA P r ops Q (⟨dst,.convert t t x,ty,pos,af,g⟩::rest) e w:=by
 have hb:=H.get hk;have H':=H.setB hk (.cells (l.map bv).toArray el (l.length,l.length+1));have hsh:w.shape? b=some (el,l.length):=by rw[Af2 hb,qai]
 refine Bt (w':=w.putObj b (.cells (l.map bv).toArray el (l.length,l.length+1))) hg U ?_ (h _ H' (Ak6 (IA hb)));simp[execOp,hx,convert,AL (Cv ht),AL he,markStringish,hsh,Adb hb]
theorem Ak7{C:World->Prop}{K:Env->Prop}{t t2:TypeId}{x y:Operand}{l m:List UInt8}(hg:AJ ⟨dst,.binOp .neq t x y t2,ty,pos,af,g⟩ ops e=true)(hx:ev e x=str l)(hy:ev e y=str m)(h:Wq P ops C K rest (put e dst (.bool !decide (l=m)))):Wq P ops C K (⟨dst,.binOp .neq t x y t2,ty,pos,af,g⟩::rest) e :=
 GF hg (fun w _=>by
  have hq:eqGuard .neq t x y (.string ⟨l.toArray⟩) (.string ⟨m.toArray⟩)=pure ():=rfl
  simp only[execOp,hx,hy,hq,Sem.run_bind,Sem.run_pure,Result.andThen_ok,binOp,str,Op.stringOp,VC]) h
end
section
variable {P:Program}{r:Option Nat}{n:Nat}{ops rest:List Oper}{Q:Exit->Env->World->Prop}{e:Env}{w w0:World}{S:List Nat}{L:List (Nat × Obj)}{dst:Option Tmp}{ty:TypeId}{pos:String}{af:Array Edge}{g:Option (Nat × Bool)}
theorem WI{fo:Operand}{fn:Fn}{ca:Array Value}(hg:AJ ⟨dst,.defer ⟨.value fo,#[],#[]⟩,ty,pos,af,g⟩ ops e=true)(hf:ev e fo=.func fn #[] ca)(h:AA P none ops Q rest (put ⟨e.g,{ target := .fn fn ca,args:=#[] }::e.ds⟩ dst undef) w):AA P none ops Q (⟨dst,.defer ⟨.value fo,#[],#[]⟩,ty,pos,af,g⟩::rest) e w:=by
 unfold AA
 have hrun:(execOp (ev e) ⟨dst,.defer ⟨.value fo,#[],#[]⟩,ty,pos,af,g⟩).run P w=.ok (.defer { target := .fn fn ca,args:=#[] }) w:=by
  simp[execOp,resolve,hf,Deferred.ofValue]
 rw[if_pos hg,Oper.semAt_none,hrun];exact h
def Agi(P:Program)(f:FuncId)(args:Array Value)(w:World)(R:World->Prop):Prop :=
 CallsDIn Fence.wide 0 P f args .returning w fun x u w'=>u=.returning/\∃v,x=.returned v/\R w'
theorem Us{f:FuncId}{fn:Func}{c:Code}{args:Array Value}{R:World->Prop}(hf:P.funcs[f]?=some fn)(hb:fn.body=some c)(l:List Value)(hargs:args=l.toArray)(h:W P none fn.ntmps c (OM P fn fun _ w=>R w) ⟨fun i=>l.getD i undef,[]⟩ w)(hfit:(Nat.ble l.length fn.ntmps && KB fn.ntmps c)=true:=by kernel_rfl):Agi P f args w R:=by
 simp only[qao]at hfit;refine(callsDIn_of_wp (R:=fun x w'=>∃v,x=.returned v/\R w') hf hb trivial ?_).mono fun x u w' hx=>hx;refine wpIn_mono (FQ (r:=none) c _ _ w h hfit.2 _ ?_) ?_
 .refine⟨rfl,?_,fun i=>?_⟩
  .subst hargs;have:=qdg hfit.1;simp;omega
  .subst hargs;simp only[qbt,qa9];rw[qes]
   by_cases hi:i<l.length
   .simp[hi]
   .simp only[qds,if_neg hi];rw[qbz (by omega)];rw[qet]
    split <;> rfl
 .rintro x a' w' ⟨e',hs',hq⟩
  cases x with
  |normal=>exact⟨hs'.1.trans hq.1,let ⟨v,h1,h2⟩:=hq.2 _ hs'.2.2;⟨v,h1,_,rfl,h2⟩⟩
  |ret=>exact⟨hs'.1.trans hq.1,let ⟨v,h1,h2⟩:=hq.2 _ hs'.2.2;⟨v,h1,_,rfl,h2⟩⟩
  |exit id=>exact hq.elim
  |goto l=>exact hq.elim
  |panic c=>exact hq.elim
  |outgrown=>exact hq.elim
def Defs(P:Program):List Deferred->World->(World->Prop)->Prop
 | [],w,K=>K w
 |d::ds,w,K=>∃f ca,d={ target := .fn (.func f) ca,args:=#[] }/\Ax P f=true/\Agi P f ca w fun w'=>Defs P ds w' K
def Agj(P:Program)(fn:Func)(R:Value->World->Prop):Exit->Env->World->Prop
 | .normal,e,w | .ret,e,w=>Defs P e.ds w fun w'=>∀tmps:Array Value,(∀i,tmps.getD i undef=e.g i)->∃v,(results fn tmps).run P w'=.ok v w'/\R v w'
 |_,_,_=>False
theorem PT{fn:Func}{R:Value->World->Prop}{tmps:Array Value}:∀{ds:List Deferred} {w:World},(Defs P ds w fun w'=>∃v,(results fn tmps).run P w'=.ok v w'/\R v w') ->
  LeavesIn Fence.wide 0 P fn tmps (fun x w'=>∃v,x=.returned v/\R v w') ds .returning w
 | [],w,⟨v,h1,h2⟩=>⟨v,h1,v,rfl,h2⟩
 |d::ds,w,⟨f,ca,h1,h2,h3⟩=>by
  subst h1;refine⟨by simp,(fun h=>by cases h),.func f,ca,f,ca,rfl,?_,fun g _=>trivial,?_⟩
  .show(invoke (.fn (.func f) ca) #[]).run P w=_
   have:(invoke (.fn (.func f) ca) #[]).run P w=(callFunc f (#[]++ca)).run P w:=rfl
   rw[this,GU h2];simp
  .refine CallsDIn.mono (R:=fun x u w'=>u=.returning/\∃v,x=.returned v/\Defs P ds w' fun w'=>∃v,(results fn tmps).run P w'=.ok v w'/\R v w') h3 ?_;rintro x u w' ⟨rfl,v,rfl,h4⟩;exact PT h4
theorem Defs.mono:∀{ds:List Deferred} {w:World} {K K':World->Prop},(∀w,K w->K' w)->Defs P ds w K->Defs P ds w K'
 | [],_,_,_,h,hk=>h _ hk
 |_::_,_,_,_,h,⟨f,ca,h1,h2,h3⟩=>⟨f,ca,h1,h2,CallsDIn.mono h3 fun _ _ _ hx=>⟨hx.1,let ⟨v,h4,h5⟩:=hx.2;⟨v,h4,Defs.mono h h5⟩⟩⟩
theorem Ut{f:FuncId}{fn:Func}{c:Code}{args:Array Value}{R:Value->World->Prop}(hf:P.funcs[f]?=some fn)(hb:fn.body=some c)(l:List Value)(hargs:args=l.toArray)(h:W P none fn.ntmps c (Agj P fn R) ⟨fun i=>l.getD i undef,[]⟩ w)(hfit:(Nat.ble l.length fn.ntmps && KB fn.ntmps c)=true:=by kernel_rfl):Ret P f args w R:=by
 simp only[qao]at hfit;refine callsIn_of_wp_defers hf hb trivial (wpIn_mono (FQ (r:=none) c _ _ w h hfit.2 _ ?_) ?_)
 .refine⟨rfl,?_,fun i=>?_⟩
  .subst hargs;have:=qdg hfit.1;simp;omega
  .subst hargs;simp only[qbt,qa9];rw[qes]
   by_cases hi:i<l.length
   .simp[hi]
   .simp only[qds,if_neg hi];rw[qbz (by omega)];rw[qet]
    split <;> rfl
 .rintro x a' w' ⟨e',hs',hq⟩
  have hgo:∀w',(Defs P e'.ds w' fun w'=>∀tmps:Array Value,(∀i,tmps.getD i undef=e'.g i)->∃v,(results fn tmps).run P w'=.ok v w'/\R v w') ->
    LeavesIn Fence.wide 0 P fn a'.tmps (fun x w'=>∃v,x=.returned v/\R v w') a'.defers .returning w':=fun w' hm=>by
   rw[hs'.1];exact PT (Defs.mono (fun w hk=>hk _ hs'.2.2) hm)
  cases x with
  |normal=>exact hgo _ hq
  |ret=>exact hgo _ hq
  |exit id=>exact hq.elim
  |goto l=>exact hq.elim
  |panic c=>exact hq.elim
  |outgrown=>exact hq.elim
theorem RG{fn:Func}{R:Value->World->Prop}{f:FuncId}{ca:Array Value}(hd:e.ds=[{ target := .fn (.func f) ca,args:=#[] }])(hc:Ax P f=true)(K:World->Prop)(h:Agi P f ca w K)(hK:∀w',K w'->∀tmps:Array Value,(∀i,tmps.getD i undef=e.g i)->∃v,(results fn tmps).run P w'=.ok v w'/\R v w'):Agj P fn R .ret e w:=by
 show Defs P e.ds w _;rw[hd];exact⟨f,ca,rfl,hc,CallsDIn.mono h fun x u w' hx=>⟨hx.1,let ⟨v,h4,h5⟩:=hx.2;⟨v,h4,hK w' h5⟩⟩⟩
theorem PU{fn:Func}{tmps:Array Value}{s a:Tmp}{t:TypeId}{b:Nat}{v v2:Value}{t2:TypeId}{l:List Value}(hr:fn.results=#[.tmp s,.cell a t])(ht:∀i,tmps.getD i undef=e.g i)(h1:e.g s=v)(ha:e.g a=.pointer (some ⟨b,0,none⟩))(hag:DT P t=some false)(hb:w.heap[b]?=some (Bl t2 (v2::l))):(results fn tmps).run P w=.ok (.tuple #[v,v2]) w:=by
 have g1:=(ht s).trans h1;have g2:=(ht a).trans ha;rw[qbt]at g1 g2;have hl:(loadVar t ⟨b,0,none⟩).run P w=.ok v2 w:=Hp hag (by rw[Aq hb];rfl);simp[results,hr,g1,g2,asAddr,hl]
theorem Adc{t el:TypeId}{m s:Nat}{zl:List Value}{ps:List (Nat × Value)}{l:Array Value}(hu:Qt P t=some (m,el))(hs:BK P el=some s)(hz:BW P t=some zl)(hl:Instr.fill (fun i=>some (i*s,s)) zl.toArray ps=some l):P.built t ps=some l:=by
 unfold BW at hz;unfold Program.built;unfold BK at hs;have hu':=OO hu
 cases hi:P.info? t with
 |none=>rw[hi]at hz;cases hz
 |some it =>
  rw[hi]at hz
  cases hzz:it.zero with
  |none=>simp[hzz]at hz
  |some z =>
   simp only[qd4,hzz,qbd,qbb]at hz;subst hz
   cases hie:P.info? el with
   |none=>rw[hie]at hs;cases hs
   |some ie =>
    rw[hie]at hs;simp only[qbd,qbb]at hs;subst hs;simp only[hu',hzz,hie]
    simpa using hl
theorem Add{t el:TypeId}{parts:Array (Nat × Operand)}{m s:Nat}{zl:List Value}(l:List Value)(hg:AJ ⟨dst,.build t parts,ty,pos,af,g⟩ ops e=true)(hu:Qt P t=some (m,el))(hs:BK P el=some s)(hz:BW P t=some zl)(h:AA P r ops Q rest (put e dst (.agg l.toArray)) w)(hl:Instr.fill (fun i=>some (i*s,s)) zl.toArray (parts.toList.map fun p=>(p.1,ev e p.2))=some l.toArray:=by kernel_rfl):
  AA P r ops Q (⟨dst,.build t parts,ty,pos,af,g⟩::rest) e w:=by
 refine Bt hg U ?_ h;have hb:P.built t (parts.map fun(i,x)=>(i,ev e x)).toList=some l.toArray:=Adc hu hs hz (by rw[qcz];exact hl);simp[execOp,run_build w t _ _ hb]
end
section
variable {P:Program}{ops rest:List Oper}{e:Env}{C:World->Prop}{K:Env->Prop}{dst:Option Tmp}{ty:TypeId}{pos:String}{af:Array Edge}{g:Option (Nat × Bool)}{κ:Type}[DecidableEq κ]{k:TypeId}{kd:TypeDesc}{V:κ->Value}
theorem WJ{t el:TypeId}{b:Nat}{w:World}{o:Obj}{m:List (κ × Value)}(n:κ){z:Value}(ok:Bool)(ht:IL P t=some (k,el))(hk:NowOk P k kd V)(hz:(P.info? el).bind (·.zero)=some z)(hb:w.heap[b]?=some o)(hM:Ek V m o) :
  (Instr.lookup t (.map (some b)) (V n) ok).run P w=.ok (if ok=true then .tuple #[(BJ m n).getD z,.bool (BJ m n).isSome]else(BJ m n).getD z) w:=by
 obtain⟨es,clock,rfl,hes,_⟩:=hM;have hf:=ID hk n es.toList m 0 hes;have hgo:(getObj b).run P w=.ok (.map es clock) w:=by simp[getObj,Sem.run,hb]
 have hzr:(zeroValue el).run P w=.ok z w:=by
  cases hi:P.info? el with
  |none=>rw[hi]at hz;cases hz
  |some i=>rw[hi]at hz;simp at hz;simp[zeroValue,typeInfo,program,Sem.run,hi,hz]
 cases hm:BJ m n with
 |none=>cases ok <;> simp[Instr.lookup,AL (Ft ht),hgo,hk.check,Instr.findKey,AL hk.und,hf.1 hm,hzr]
 |some v =>
  obtain⟨i,hi,_⟩:=hf.2 v hm;cases ok <;> simp[Instr.lookup,AL (Ft ht),hgo,hk.check,Instr.findKey,AL hk.und,hi]
theorem WK{t el:TypeId}{x y:Operand}{b:Nat}{o:Obj}{m:List (κ × Value)}(n:κ){z:Value}(hg:AJ ⟨dst,.lookup t x y true,ty,pos,af,g⟩ ops e=true)(ht:IL P t=some (k,el))(hk:NowOk P k kd V)(hz:(P.info? el).bind (·.zero)=some z)(hx:ev e x=.map (some b))(hy:ev e y=V n)(hb:∀w,C w->w.heap[b]?=some o)(hM:Ek V m o)(h:Wq P ops C K rest (put e dst (.tuple #[(BJ m n).getD z,.bool (BJ m n).isSome]))):Wq P ops C K (⟨dst,.lookup t x y true,ty,pos,af,g⟩::rest) e :=
 GF hg (fun w hw=>by simp[execOp,hx,hy,WJ n true ht hk hz (hb w hw) hM]) h
omit [DecidableEq κ] in
theorem Uu{r:Option Nat}{Q:Exit->Env->World->Prop}{w w0:World}{S:List Nat}{L:List (Nat × Obj)}{t k el:TypeId}{x:Operand}{b j:Nat}{o:Obj}{m:List (κ × Value)}(hg:AJ ⟨dst,.call ⟨.builtin .clear,#[x],#[t]⟩,ty,pos,af,g⟩ ops e=true)(ht:IL P t=some (k,el))(hx:ev e x=.map (some b))(H:Ctx w0 S w L)(hl:L[j]?=some (b,o))(hM:Ek V m o)(h:∀o' w',Ek V [] o'->Ctx w0 S w' (L.set j (b,o'))->AA P r ops Q rest (put e dst (.tuple #[])) w') :
  AA P r ops Q (⟨dst,.call ⟨.builtin .clear,#[x],#[t]⟩,ty,pos,af,g⟩::rest) e w:=by
 obtain⟨es,clock,rfl,_⟩:=hM;have hb:=H.get hl;have hgo:(getObj b).run P w=.ok (.map es clock) w:=by simp[getObj,Sem.run,hb]
 have hso:(setObj b (.map #[] clock)).run P w=.ok () (w.putObj b (.map #[] clock)):=by simp[setObj,Sem.run,hb,World.putObj]
 refine Bt (w':=w.putObj b (.map #[] clock)) (v := .tuple #[]) hg U ?_ (h _ _ ⟨#[],clock,rfl,rfl,by simp,by simp⟩ (H.setB hl _));simp[execOp,resolve,invoke,builtin,hx,Builtin.clear_,AL (Ft ht),hgo,hso]
end
section
variable {P:Program}{r:Option Nat}{ops rest:List Oper}{Q:Exit->Env->World->Prop}{e:Env}{w:World}{dst:Option Tmp}{ty:TypeId}{pos:String}{af:Array Edge}{g:Option (Nat × Bool)}{C:World->Prop}{K:Env->Prop}{t t2:TypeId}{x y:Operand}{a b n:Nat}
end
open Go Go.ChangeShapes Go.WideShapes Go.RowKit
theorem Ext.below{w w':World}(h:Ext [] w w'):Below w.heap.size w w':=⟨h.os,h.tape,h.output,h.size,fun k hk=>h.block k hk (by simp)⟩
section
variable {H:Type}{enc:TypeId × Value->H}{P:Program}{w:World}{base:Nat}{spare:Nat->Bool}{held:Bool}
theorem KX:∀{ts:List TypeId} {vs:List Value} {ds:List (DataW H)} {ps:List MemPlace},DataW.TrodAll enc P w base spare held ts vs ds ps->ds.length=ts.length
 | [],vs,ds,ps,h=>by obtain⟨_,rfl,_⟩:=trodAll_nil h;rfl
 |t::ts,vs,ds,ps,h=>by
  obtain⟨v,vs',d,ds',p,q,rfl,rfl,rfl,_,hr⟩:=trodAll_cons h;simp[KX hr]
theorem MH{W W':World}{sp':Nat->Bool}(hl:laidOutB P=true)(hsp:∀b,b<W.heap.size->sp' b=true)(hb:Below W.heap.size W W') :
  ∀{ts:List TypeId} {vs:List Value} {ds:List (DataW H)} {ps:List MemPlace},(∀t∈ts,P.readableRec t=true/\t<P.types.size)->(∀x∈ps,x.block<W.heap.size) ->
   DataW.TrodAll enc P W 0 (fun _=>true) true ts vs ds ps->DataW.TrodAll enc P W' 0 sp' true ts vs ds ps
 | [],vs,ds,ps,_,_,h=>by obtain⟨rfl,rfl,rfl⟩:=trodAll_nil h;rfl
 |t::ts,vs,ds,ps,hr,hp,h=>by
  obtain⟨v,vs',d,ds',p,q,rfl,rfl,rfl,h0,h1⟩:=trodAll_cons h;refine⟨p,q,WideElems.Trod_stays hl (hr t (by simp)).1 (hr t (by simp)).2 h0 (fun x hx=>hb.same (hp x (by simp[hx]))) (fun x hx=>hsp _ (hp x (by simp[hx]))),?_,rfl⟩;exact MH hl hsp hb (fun t ht=>hr t (by simp[ht])) (fun x hx=>hp x (by simp[hx])) h1
theorem Agk{f:Func}{s:ChangeSpec}{W W':World}{args:Array Value}{ds gs:List (DataW H)}{before:List MemPlace}{tb:TypeId}(hl:laidOutB P=true)(hv:s.vars=[])(hres:f.resultTypes=#[tb])(htb:P.underlying tb=some .bool)(hs:∀ds:List (DataW H),ds.length=f.params.size->s.fn H ds={ results:=[.lit (.bool true)],args:=ds })(hW:DataW.Whole enc P f.params.toList s.vars false W args.toList ds gs before)(hx:Ext [] W W')(hr:(f.params.toList.all fun t=>P.readableRec t && decide (t<P.types.size))=true:=by kernel_rfl):s.post enc P f false true false false W args (.bool true) W':=by
 have hW':=hW;obtain⟨p,q,hA,hV,rfl,_,_⟩:=hW;rw[hv]at hV;obtain⟨rfl,rfl⟩:=trodVars_none hV;have hlen:ds.length=f.params.size:=by rw[KX hA];simp
 refine⟨ds,[],p++[],[],p,[],hW',?_,?_,?_,hx.below.frame _,fun h=>by cases h⟩
 .rw[qa3,hs ds hlen,hres];exact trodAll_mk1 ⟨1,by simp[DataW.trod,Value.cells,htb]⟩
 .rw[qa3,hs ds hlen];refine MH hl (fun b hb=>by simpa using hb) hx.below (fun t ht=>?_) (fun x hxp=>?_) hA
  .have:=qb5.1 hr t ht
   simpa using this
  .exact hW'.lt x (by simp[hxp])
 .rw[hv,qa3,hs ds hlen];rfl
theorem LX{k:IntKind}{n:Int}(h:(Lit.int k n).wf=true):k.min<=n/\n<=k.max:=by
 simpa[Lit.wf]using h
theorem WL{fuel:Nat}{t:TypeId}{cs:List Value}{x:DataW H × List MemPlace}{fs:Array Field}(ht:P.underlying t=some (.struct fs))(h:DataW.trod enc P w base spare held fuel t cs=some x)(i:Nat)(f:Field)(hf:fs[i]?=some f) :
  ∃n y,DataW.trod enc P w base spare held n f.type ((cs.drop f.offset).take (P.cellsOf f.type))=some y:=by
 obtain⟨xs,n,_,_,_,hl,hx⟩:=DataW.trod_struct ht h;have h1:=hx i f hf;have hi:i<xs.length:=by rw[hl];exact(qe9.1 hf).1
 rw[qbe hi]at h1;exact⟨n,_,h1⟩
theorem Uv{fuel:Nat}{t:TypeId}{cs:List Value}{x:DataW H × List MemPlace}{fs:Array Field}(ht:P.underlying t=some (.struct fs))(h:DataW.trod enc P w base spare held fuel t cs=some x):cs.length=P.cellsOf t:=by
 obtain⟨xs,n,_,_,hl,_,_⟩:=DataW.trod_struct ht h;exact hl
theorem RH{l:List Value}{o m:Nat}{v:Value}(h:(l.drop o).take m=[v]):l[o]?=some v:=by
 have h1:((l.drop o).take m)[0]?=some v:=by rw[h];rfl
 rw[qdt]at h1
 split at h1
 .rw[qcm]at h1;simpa using h1
 .cases h1
theorem Ak8{fuel:Nat}{t u:TypeId}{cs:List Value}{x:DataW H × List MemPlace}{fs:Array Field}{k:IntKind}(ht:P.underlying t=some (.struct fs))(h:DataW.trod enc P w base spare held fuel t cs=some x)(i o:Nat)(hf:(fs[i]?.map fun f=>(f.type,f.offset))=some (u,o))(hu:P.underlying u=some (.int k)):∃n,cs[o]?=some (.int k n)/\k.min<=n/\n<=k.max:=by
 cases he:fs[i]? with
 |none=>rw[he]at hf;cases hf
 |some f =>
  rw[he]at hf;simp only[qbd,qbb,qdb]at hf;obtain⟨rfl,rfl⟩:=hf;obtain⟨n,y,hy⟩:=WL ht h i f he;obtain⟨m,h1,_,h2⟩:=DataW.trod_int hu hy;exact⟨m,RH h1,LX h2⟩
theorem WM{fuel:Nat}{t u:TypeId}{cs:List Value}{x:DataW H × List MemPlace}{fs:Array Field}(ht:P.underlying t=some (.struct fs))(h:DataW.trod enc P w base spare held fuel t cs=some x)(i o:Nat)(hf:(fs[i]?.map fun f=>(f.type,f.offset))=some (u,o))(hu:P.underlying u=some .bool):∃b,cs[o]?=some (.bool b):=by
 cases he:fs[i]? with
 |none=>rw[he]at hf;cases hf
 |some f =>
  rw[he]at hf;simp only[qbd,qbb,qdb]at hf;obtain⟨rfl,rfl⟩:=hf;obtain⟨n,y,hy⟩:=WL ht h i f he;obtain⟨b,h1,_⟩:=DataW.trod_bool hu hy;exact⟨b,RH h1⟩
theorem WN{a:Addr}{n:Nat}{cs:List Value}(h:w.cells? base a n=some cs):cs.length=n/\∀j v,cs[j]?=some v->w.cell? (a.add j)=some v:=by
 unfold World.cells? at h
 split at h
 .have h1:∀(l:List Nat) (cs:List Value),l.mapM (fun i=>w.cell? (a.add i))=some cs->cs.length=l.length/\∀(j i:Nat) (v:Value),l[j]?=some i->cs[j]?=some v->w.cell? (a.add i)=some v:=by
   intro l
   induction l with
   |nil=>intro cs h;simp at h;subst h;exact⟨rfl,fun j i v h=>by simp at h⟩
   |cons k l ih =>
    intro cs h;rw[List.mapM_cons]at h;obtain⟨v,hv,h⟩:=Option.bind_eq_some_iff.1 h;obtain⟨cs',hcs,h⟩:=Option.bind_eq_some_iff.1 h;simp only[Option.pure_def,qbb]at h;subst h;obtain⟨h1,h2⟩:=ih cs' hcs;refine⟨by simp[h1],fun j i u hi hu=>?_⟩
    cases j with
    |zero=>simp at hi hu;subst hi hu;exact hv
    |succ j=>exact h2 j i u (by simpa using hi) (by simpa using hu)
  obtain⟨h2,h3⟩:=h1 _ _ h;refine⟨by simpa using h2,fun j v hv=>h3 j j v ?_ hv⟩
  have:j<cs.length:=(qap.1 hv).1
  rw[qdu (by rw[h2]at this;simpa using this)]
 .cases h
theorem Uw{a:Addr}{v:Value}(h:w.cell? a=some v):a=⟨a.block,a.off,none⟩:=by
 unfold World.cell? at h
 split at h
 .split at h
  .cases h
  .rename_i hs
   obtain⟨b,o,s⟩:=a
   cases s with
   |none=>rfl
   |some x=>simp at hs
 .cases h
theorem Aa4{e:TypeId}{k:IntKind}(he:P.underlying e=some (.int k)):∀n cs y,DataW.trod enc P w base spare held n e cs=some y->∃d:Int,cs=[Value.int k d]/\(k.min<=d/\d<=k.max):=by
 intro n cs y h;obtain⟨m,h1,_,h2⟩:=DataW.trod_int he h;exact⟨m,h1,LX h2⟩
end
open Go Go.ChangeShapes Go.WideShapes
section
variable {P:Program}{H:Type}{enc:TypeId × Value->H}{w:World}{base:Nat}{spare:Nat->Bool}{held:Bool}
def Light(P:Program)(t:TypeId)(d:DataW H):Prop:=∀x∈d.weights P t,x<=reachBytes
theorem RI{e:TypeId}{l:List (DataW H)}{d:DataW H}(h:d∈l):∀x∈d.weights P e,x∈DataW.weightsAll P e l:=by
 induction l with
 |nil=>cases h
 |cons y l ih =>
  intro x hx;unfold DataW.weightsAll
  rcases qac.1 h with rfl|h
  .exact qa5 _ hx
  .exact qax _ (ih h x hx)
theorem Ih:∀{ts:List TypeId} {l:List (DataW H)} {i:Nat} {t:TypeId} {d:DataW H},ts[i]?=some t->l[i]?=some d->∀x∈d.weights P t,x∈DataW.weightsEach P ts l
 | [],_,i,_,_,h,_=>by simp at h
 |_::_,[],i,_,_,_,h=>by simp at h
 |t::ts,d::l,0,_,_,h1,h2=>by
  simp only[qc7,qbb]at h1 h2;subst h1 h2;intro x hx;unfold DataW.weightsEach;exact qa5 _ hx
 |t::ts,d::l,i+1,_,_,h1,h2=>by
  intro x hx;unfold DataW.weightsEach;exact qax _ (Ih (by simpa using h1) (by simpa using h2) x hx)
theorem Light.elems{t e:TypeId}{es sp:List (DataW H)}(ht:P.underlying t=some (.slice e))(h:Light P t (.slice es sp)):es.length*P.bytesOf e<=reachBytes/\∀d∈es,Light P e d:=by
 unfold Light at h;unfold DataW.weights at h;rw[ht]at h;refine⟨?_,fun d hd x hx=>h x (qaj _ (qa5 _ (RI hd x hx)))⟩;have h1:=h _ (qaf ..);rw[qco]at h1;omega
theorem Light.part{t:TypeId}{fs:Array Field}{ps:List (DataW H)}(ht:P.underlying t=some (.struct fs))(h:Light P t (.agg ps)){i:Nat}{f:Field}{d:DataW H}(hf:fs[i]?=some f)(hd:ps[i]?=some d):Light P f.type d:=by
 intro x hx;refine h x ?_;unfold DataW.weights;rw[ht];exact Ih (ts:=fs.toList.map (·.type)) (i:=i) (by rw[qas,qdi,hf];rfl) hd x hx
theorem RJ{ts:List TypeId}{ds:List (DataW H)}(h:((DataW.weightsEach P ts ds).all fun x=>decide (x<=reachBytes))=true){i:Nat}{t:TypeId}{d:DataW H}(ht:ts[i]?=some t)(hd:ds[i]?=some d):Light P t d :=
 fun x hx=>qb6 (qb5.1 h x (Ih ht hd x hx))
theorem Agl{α:Type}{t e:TypeId}{s fuel:Nat}{cs:List Value}{x:DataW H × List MemPlace}{encd:α->List Value}{Good:α->Prop}(ht:P.underlying t=some (.slice e))(hs:P.cellsOf e=s)(h0:0<s)(dec:∀n cs y,DataW.trod enc P w base spare held n e cs=some y->Light P e y.1->∃d,cs=encd d/\Good d)(h:DataW.trod enc P w base spare held fuel t cs=some x)(hL:Light P t x.1) :
  ∃(a:Option Addr) (c:Nat) (l:List α),cs=[.slice a l.length c]/\Rd w a s encd l/\l.length<=c/\c<=maxLen/\l.length*P.bytesOf e<=reachBytes/\(∀d∈l,Good d):=by
 rcases Go.Deep.open_slice ht h with⟨hc,hx⟩|⟨a,len,cap,m,n,D,Pl,hc,_,hl,hm,hmm,rfl,hx⟩
 .exact⟨none,0,[],hc,Rd.nil,qae _,qak _,by simp,by simp⟩
 .have hle:len<=m:=by rw[hmm];split <;> omega
  obtain⟨hb,hLe⟩:=hL.elems ht;rw[qai,List.length_range]at hb
  have hd:∀i,i<len->∃d:α,(w.cells? base (a.add (i*s)) s=some (encd d))/\Good d:=fun i hi=>by
   obtain⟨cs',h1,h2⟩:=hx i (by omega);obtain⟨d,rfl,hg⟩:=dec _ _ _ h2 (hLe _ (qah.2 ⟨i,qdc.2 hi,rfl⟩));exact⟨d,by rw[<-hs];exact h1,hg⟩
  have hlist:∀k,k<=len->∃l:List α,l.length=k/\∀i d,l[i]?=some d->w.cells? base (a.add (i*s)) s=some (encd d)/\Good d:=by
   intro k
   induction k with
   |zero=>intro _;exact⟨[],rfl,fun i d h=>by simp at h⟩
   |succ k ih =>
    intro hk;obtain⟨l,h1,h2⟩:=ih (by omega);obtain⟨d,hd1,hd2⟩:=hd k (by omega);refine⟨l++[d],by simp[h1],fun i d' hi=>?_⟩;rw[List.getElem?_append]at hi
    split at hi
    .exact h2 i d' hi
    .rename_i hlt
     have:i=k:=by
      have:=(qap.1 hi).1;simp at this;omega
     subst this;rw[h1,qc1]at hi;simp at hi;subst hi;exact⟨hd1,hd2⟩
  obtain⟨l,h1,h2⟩:=hlist len (qae _);subst h1;refine⟨some a,cap,l,hc,⟨fun hne=>?_,fun i d hi j u hu hj=>?_⟩,hl,hm,hb,fun d hd=>?_⟩
  .cases l with
   |nil=>exact absurd rfl hne
   |cons d l =>
    obtain⟨h3,_⟩:=h2 0 d rfl;obtain⟨h4,h5⟩:=WN h3;obtain⟨u,hu⟩:=AP (l:=encd d) (i:=0);have h6:=h5 0 u hu;rw[qd6]at h6;have h7:(a.add 0).add 0=a:=by simp[Addr.add]
    rw[h7]at h6;exact⟨a.block,a.off,by rw[<-Uw h6]⟩
  .obtain⟨h3,_⟩:=h2 i d hi;have h5:=(WN h3).2 j u hu;rw[Go.Deep.add_add]at h5;have h6:=Uw h5;rw[h6]at h5
   have hblk:∀q,(a.add q).block=a.block/\(a.add q).off=a.off+q:=by
    intro q;unfold Addr.add
    by_cases hq:q=0 <;> simp[hq]
   rw[(hblk _).1,(hblk _).2,<-qcl]at h5;obtain⟨b,o,sp⟩:=a;exact h5
  .obtain⟨i,hi⟩:=List.getElem?_of_mem hd;exact(h2 i d hi).2
theorem RM{α:Type}{t e:TypeId}{s:Nat}{v:Value}{d:DataW H}{ps:List MemPlace}{encd:α->List Value}{Good:α->Prop}(ht:P.underlying t=some (.slice e))(hs:P.cellsOf e=s)(dec:∀n cs y,DataW.trod enc P w base spare held n e cs=some y->Light P e y.1->∃d,cs=encd d/\Good d)(hv:∃a n c,v=.slice a n c)(h:DataW.Trod enc P w base spare held t v d ps)(hL:Light P t d)(h0:0<s:=by decide):
  ∃(a:Option Addr) (c:Nat) (l:List α),v=.slice a l.length c/\Rd w a s encd l/\l.length<=c/\c<=maxLen/\l.length*P.bytesOf e<=reachBytes/\(∀d∈l,Good d):=by
 obtain⟨fuel,hf⟩:=h;obtain⟨a,n,c,rfl⟩:=hv;obtain⟨a',c',l,h1,h2⟩:=Agl ht hs h0 dec (x:=(d,ps)) (by simpa[Value.cells]using hf) hL;simp only[qdl,and_true]at h1;exact⟨a',c',l,h1,h2⟩
theorem LY{α:Type}{fuel:Nat}{t u e:TypeId}{s:Nat}{cs:List Value}{x:DataW H × List MemPlace}{fs:Array Field}{encd:α->List Value}{Good:α->Prop}(ht:P.underlying t=some (.struct fs))(h:DataW.trod enc P w base spare held fuel t cs=some x)(hL:Light P t x.1)(i o:Nat)(hf:(fs[i]?.map fun f=>(f.type,f.offset))=some (u,o))(hu:P.underlying u=some (.slice e))(hc:P.cellsOf u=1)(hs:P.cellsOf e=s)(dec:∀n cs y,DataW.trod enc P w base spare held n e cs=some y->Light P e y.1->∃d,cs=encd d/\Good d)(h0:0<s:=by decide):
  ∃(a:Option Addr) (c:Nat) (l:List α),cs[o]?=some (.slice a l.length c)/\Rd w a s encd l/\l.length<=c/\c<=maxLen/\l.length*P.bytesOf e<=reachBytes/\(∀d∈l,Good d):=by
 cases he:fs[i]? with
 |none=>rw[he]at hf;cases hf
 |some f =>
  rw[he]at hf;simp only[qbd,qbb,qdb]at hf;obtain⟨rfl,rfl⟩:=hf;obtain⟨xs,n,_,hx,_,hl,hxs⟩:=DataW.trod_struct ht h;have h1:=hxs i f he;have hi:i<xs.length:=by rw[hl];exact(qe9.1 he).1
  rw[qbe hi]at h1;rw[hx]at hL;have hL':Light P f.type xs[i].1:=hL.part ht he (by rw[qas,qbe hi];rfl);obtain⟨a,c,l,h2,h3⟩:=Agl hu hs h0 dec h1 hL';rw[hc]at h2;exact⟨a,c,l,RH h2,h3⟩
end
end Go.GV
namespace Go.Proofs.YtcpgbcabmcbclaaGreatDoor
open Go.GV Go.Proofs.Tryz
theorem OW:DT prog 117=some true:=by kernel_rfl
theorem Gd:DT prog 143=some false:=by kernel_rfl
theorem OX:DT prog 146=some false:=by kernel_rfl
theorem An9:DT prog 179=some false:=by kernel_rfl
theorem BT:DT prog 181=some false:=by kernel_rfl
theorem BQ:DT prog 183=some true:=by kernel_rfl
theorem Dq:DT prog 185=some true:=by kernel_rfl
theorem RN:DT prog 186=some false:=by kernel_rfl
theorem B1:DT prog 24=some false:=by kernel_rfl
theorem Dm:DT prog 27=some false:=by kernel_rfl
theorem EY:DT prog 28=some false:=by kernel_rfl
theorem DV:DT prog 3=some false:=by kernel_rfl
theorem F6:DT prog 31=some false:=by kernel_rfl
theorem Il:DT prog 36=some false:=by kernel_rfl
theorem Ux:DT prog 39=some false:=by kernel_rfl
theorem Ge:DT prog 4=some false:=by kernel_rfl
theorem IQ:DT prog 40=some false:=by kernel_rfl
theorem ag_42:DT prog 42=some true:=by kernel_rfl
theorem ag_46:DT prog 46=some false:=by kernel_rfl
theorem Qu:DT prog 5=some false:=by kernel_rfl
theorem RO:DT prog 56=some true:=by kernel_rfl
theorem Aa5:DT prog 68=some true:=by kernel_rfl
theorem Uy:DT prog 69=some false:=by kernel_rfl
theorem RP:DT prog 70=some false:=by kernel_rfl
theorem GH:DT prog 74=some false:=by kernel_rfl
theorem Aa6:DT prog 76=some true:=by kernel_rfl
theorem MI:DT prog 81=some false:=by kernel_rfl
theorem K2:DT prog 89=some false:=by kernel_rfl
theorem ag_9:DT prog 9=some false:=by kernel_rfl
theorem JL:DT prog 90=some false:=by kernel_rfl
theorem MJ:DT prog 91=some false:=by kernel_rfl
theorem Aa7:DT prog 92=some false:=by kernel_rfl
theorem OY:Qt prog 163=some (512,5):=by kernel_rfl
theorem Km:Qt prog 258=some (2,181):=by kernel_rfl
theorem Aoa:Gc prog 146=some 1:=by kernel_rfl
theorem Zj:Gc prog 183=some 32:=by kernel_rfl
theorem Kn:Gc prog 185=some 56:=by kernel_rfl
theorem Agm:Gc prog 24=some 24:=by kernel_rfl
theorem by_3:Gc prog 3=some 8:=by kernel_rfl
theorem OZ:Gc prog 5=some 1:=by kernel_rfl
theorem Aa8:Gc prog 56=some 56:=by kernel_rfl
theorem NC:Gc prog 68=some 48:=by kernel_rfl
abbrev qC:List Nat:=[7,8,9,10,11,12,13,14,15,16,17,18,19,20,21,22,23,24,25,26,28,30,31,32,33,34,35,36,37,39,40,42,43,44,45,46,47,48,49,50,51,52,54,59,60,64,65,66,67,68,69,70,71,72,73,74,75,76,78,80,81,82,83,84,85,86,87,88,89,90,91,92,93,94,95,96,97,98,99,100,101,105,106,107,108,109,110,111,112,113,114,115,116,117,118,119,120,121,122,123,124,125,126,127,128,129,130,131,132,138,139,140,141,142,144,145,146,147,148,149,150,151,152,155,156,157,158,171,175,176,177,178,179,180,181,182,201,202,203,210,211]
theorem qB{f:Nat}(h:qC.any (Nat.beq f)=true:=by exact U):Ax prog f=true:=by obtain⟨g,h,e⟩:=List.any_eq_true.1 h;rw[Nat.eq_of_beq_eq_true e];exact List.all_eq_true.1 (show qC.all (Ax prog)=true by kernel_rfl) g h
theorem RX:C0 prog 107=some 9:=by kernel_rfl
theorem Pa:C0 prog 131=some 46:=by kernel_rfl
theorem EQ:C0 prog 143=some 146:=by kernel_rfl
theorem Bu:C0 prog 181=some 185:=by kernel_rfl
theorem ER:C0 prog 190=some 183:=by kernel_rfl
theorem PV:C0 prog 23=some 42:=by kernel_rfl
theorem IU:C0 prog 238=some 181:=by kernel_rfl
theorem AX:C0 prog 24=some 5:=by kernel_rfl
theorem Cb:C0 prog 36=some 68:=by kernel_rfl
theorem Cn:C0 prog 39=some 56:=by kernel_rfl
theorem FE:C0 prog 40=some 3:=by kernel_rfl
theorem EZ:C0 prog 69=some 24:=by kernel_rfl
theorem IV:BH prog 117 0=some 0:=by kernel_rfl
theorem Ahk:BH prog 117 1=some 1:=by kernel_rfl
theorem NF:BH prog 124 0=some 0:=by kernel_rfl
theorem Ahl:BH prog 124 1=some 1:=by kernel_rfl
theorem NG:BH prog 124 2=some 2:=by kernel_rfl
theorem NH:BH prog 124 3=some 3:=by kernel_rfl
theorem KY:BH prog 124 4=some 4:=by kernel_rfl
theorem KZ:BH prog 124 5=some 5:=by kernel_rfl
theorem WR:BH prog 124 6=some 6:=by kernel_rfl
theorem DW:BH prog 145 0=some 0:=by kernel_rfl
theorem WS:BH prog 162 0=some 0:=by kernel_rfl
theorem Lc:BH prog 162 1=some 1:=by kernel_rfl
theorem WT:BH prog 162 2=some 2:=by kernel_rfl
theorem Dy:BH prog 183 0=some 0:=by kernel_rfl
theorem Br:BH prog 183 1=some 1:=by kernel_rfl
theorem FF:BH prog 185 0=some 0:=by kernel_rfl
theorem Ld:BH prog 185 1=some 1:=by kernel_rfl
theorem Gf:BH prog 185 2=some 2:=by kernel_rfl
theorem JM:BH prog 188 0=some 0:=by kernel_rfl
theorem RY:BH prog 188 1=some 1:=by kernel_rfl
theorem RZ:BH prog 188 2=some 2:=by kernel_rfl
theorem HG:BH prog 38 0=some 0:=by kernel_rfl
theorem Ak9:BH prog 38 1=some 1:=by kernel_rfl
theorem Ala:BH prog 42 0=some 0:=by kernel_rfl
theorem LZ:BH prog 42 1=some 1:=by kernel_rfl
theorem Alb:BH prog 42 2=some 2:=by kernel_rfl
theorem Abg:BH prog 42 3=some 3:=by kernel_rfl
theorem EK:BH prog 56 0=some 0:=by kernel_rfl
theorem EL:BH prog 56 1=some 1:=by kernel_rfl
theorem Jt:BH prog 56 2=some 2:=by kernel_rfl
theorem Fa:BH prog 68 0=some 0:=by kernel_rfl
theorem Ju:BH prog 68 1=some 1:=by kernel_rfl
theorem NI:BH prog 72 0=some 0:=by kernel_rfl
theorem Ko:BH prog 72 1=some 1:=by kernel_rfl
theorem Q2:BH prog 72 2=some 2:=by kernel_rfl
theorem Ma:BH prog 72 3=some 3:=by kernel_rfl
theorem Abh:BH prog 76 0=some 0:=by kernel_rfl
theorem NJ:BH prog 76 1=some 1:=by kernel_rfl
theorem Kp:BH prog 76 2=some 2:=by kernel_rfl
theorem Q4:BH prog 94 0=some 0:=by kernel_rfl
theorem Mc:BH prog 94 1=some 1:=by kernel_rfl
theorem Jv:BH prog 94 2=some 2:=by kernel_rfl
theorem Kq:BH prog 94 3=some 3:=by kernel_rfl
theorem Q5:BH prog 94 4=some 4:=by kernel_rfl
theorem Jw:BH prog 94 5=some 5:=by kernel_rfl
theorem HH:BH prog 94 6=some 6:=by kernel_rfl
theorem Q6:BH prog 94 7=some 7:=by kernel_rfl
theorem Md:BH prog 94 8=some 8:=by kernel_rfl
theorem Abi:BH prog 94 9=some 9:=by kernel_rfl
theorem mixed:Tryz.prog.follows .mixedOrders=true:=by kernel_rfl
theorem Sc:IL prog 199=some (3,3):=by kernel_rfl
theorem U0:IL prog 70=some (3,69):=by kernel_rfl
theorem NK:IL prog 91=some (9,24):=by kernel_rfl
theorem Sd:IL prog 92=some (9,3):=by kernel_rfl
theorem VJ:Ez prog 117=some [(0,1),(1,1)]:=by kernel_rfl
theorem Ao3:Ez prog 124=some [(0,1),(1,1),(2,1),(3,1),(4,1),(5,1),(6,1)]:=by kernel_rfl
theorem Ao4:Ez prog 145=some [(0,1)]:=by kernel_rfl
theorem Ao5:Ez prog 162=some [(0,1),(1,1),(2,1)]:=by kernel_rfl
theorem Hd:Ez prog 183=some [(0,1),(1,1)]:=by kernel_rfl
theorem MX:Ez prog 185=some [(0,1),(1,1),(2,1)]:=by kernel_rfl
theorem Ahm:Ez prog 188=some [(0,1),(1,1),(2,1)]:=by kernel_rfl
theorem pl_38:Ez prog 38=some [(0,1),(1,1)]:=by kernel_rfl
theorem PW:Ez prog 56=some [(0,1),(1,1),(2,1)]:=by kernel_rfl
theorem U1:Ez prog 68=some [(0,1),(1,1)]:=by kernel_rfl
theorem pl_72:Ez prog 72=some [(0,1),(1,1),(2,1),(3,1)]:=by kernel_rfl
theorem Ahn:Ez prog 76=some [(0,1),(1,1),(2,1)]:=by kernel_rfl
theorem pl_94:Ez prog 94=some [(0,1),(1,1),(2,1),(3,1),(4,1),(5,1),(6,1),(7,1),(8,1),(9,1)]:=by kernel_rfl
theorem Hu:BK prog 117=some 2:=by kernel_rfl
theorem Em:BK prog 146=some 1:=by kernel_rfl
theorem CP:BK prog 181=some 1:=by kernel_rfl
theorem Bg:BK prog 183=some 2:=by kernel_rfl
theorem Bn:BK prog 185=some 3:=by kernel_rfl
theorem Aho:BK prog 186=some 1:=by kernel_rfl
theorem Gg:BK prog 24=some 1:=by kernel_rfl
theorem Ao6:BK prog 258=some 2:=by kernel_rfl
theorem FZ:BK prog 28=some 1:=by kernel_rfl
theorem HN:BK prog 3=some 1:=by kernel_rfl
theorem Ahp:BK prog 31=some 1:=by kernel_rfl
theorem Se:BK prog 36=some 1:=by kernel_rfl
theorem Ahq:BK prog 4=some 1:=by kernel_rfl
theorem Sf:BK prog 40=some 1:=by kernel_rfl
theorem PX:BK prog 42=some 4:=by kernel_rfl
theorem WU:BK prog 46=some 1:=by kernel_rfl
theorem CJ:BK prog 5=some 1:=by kernel_rfl
theorem Cw:BK prog 56=some 3:=by kernel_rfl
theorem CR:BK prog 68=some 2:=by kernel_rfl
theorem sz_69:BK prog 69=some 1:=by kernel_rfl
theorem WV:BK prog 74=some 1:=by kernel_rfl
theorem NL:BK prog 76=some 3:=by kernel_rfl
theorem Anv:BK prog 81=some 1:=by kernel_rfl
theorem sz_89:BK prog 89=some 1:=by kernel_rfl
theorem sz_9:BK prog 9=some 1:=by kernel_rfl
theorem sz_90:BK prog 90=some 1:=by kernel_rfl
theorem Zu:Tryz.prog.underlying 164=some (.int .u32):=by kernel_rfl
theorem un_22:Tryz.prog.underlying 22=some (.int .u16):=by kernel_rfl
theorem MK:Tryz.prog.underlying 27=some (.pointer 72):=by kernel_rfl
theorem Gs:Tryz.prog.underlying 3=some (.int .i64):=by kernel_rfl
theorem U2:Tryz.prog.underlying 31=some (.pointer 94):=by kernel_rfl
theorem Hm:Tryz.prog.underlying 5=some (.int .u8):=by kernel_rfl
theorem Anw:Tryz.prog.underlying 54=some (.int .u64):=by kernel_rfl
theorem Hn:Tryz.prog.underlying 74=some (.int .u64):=by kernel_rfl
theorem Abj:Tryz.prog.underlying 81=some (.pointer 124):=by kernel_rfl
theorem Sh:Tryz.prog.underlying 89=some (.pointer 145):=by kernel_rfl
theorem FA:Tryz.prog.underlying 9=some (.string):=by kernel_rfl
theorem Anx:Tryz.prog.underlying 90=some (.pointer 162):=by kernel_rfl
theorem Le:BW prog 117=some ([.int .u64 0,.slice none 0 0]):=by kernel_rfl
theorem Ao7:BW prog 124=some ([.pointer none,.int .i64 0,.int .i64 0,.int .i64 0,.int .u64 0,.int .i64 0,.bool false]):=by kernel_rfl
theorem Ao8:BW prog 145=some ([.slice none 0 0]):=by kernel_rfl
theorem Ao9:BW prog 146=some ([.int .u8 0]):=by kernel_rfl
theorem Apa:BW prog 162=some ([.pointer none,.pointer none,.int .i64 0]):=by kernel_rfl
theorem Apb:BW prog 163=some (List.replicate 512 (.int .u8 0:Value)):=by kernel_rfl
theorem Na:BW prog 181=some ([.slice none 0 0]):=by kernel_rfl
theorem Co:BW prog 183=some ([.bool false,.slice none 0 0]):=by kernel_rfl
theorem C2:BW prog 185=some ([.slice none 0 0,.slice none 0 0,.int .i64 0]):=by kernel_rfl
theorem Ahr:BW prog 186=some ([.pointer none]):=by kernel_rfl
theorem Ahs:BW prog 188=some ([.pointer none,.slice none 0 0,.slice none 0 0]):=by kernel_rfl
theorem U3:BW prog 24=some ([.slice none 0 0]):=by kernel_rfl
theorem Aht:BW prog 258=some ([.slice none 0 0,.slice none 0 0]):=by kernel_rfl
theorem WW:BW prog 28=some ([.int .i64 0]):=by kernel_rfl
theorem Zv:BW prog 3=some ([.int .i64 0]):=by kernel_rfl
theorem Ahu:BW prog 31=some ([.pointer none]):=by kernel_rfl
theorem zc_36:BW prog 36=some ([.slice none 0 0]):=by kernel_rfl
theorem zc_38:BW prog 38=some ([.slice none 0 0,.int .i64 0]):=by kernel_rfl
theorem zc_40:BW prog 40=some ([.slice none 0 0]):=by kernel_rfl
theorem zc_42:BW prog 42=some ([.int .i64 0,.slice none 0 0,.bool false,.slice none 0 0]):=by kernel_rfl
theorem Abk:BW prog 46=some ([.nilFunc]):=by kernel_rfl
theorem IW:BW prog 5=some ([.int .u8 0]):=by kernel_rfl
theorem F7:BW prog 56=some ([.slice none 0 0,.slice none 0 0,.bool false]):=by kernel_rfl
theorem Fd:BW prog 68=some ([.slice none 0 0,.slice none 0 0]):=by kernel_rfl
theorem zc_69:BW prog 69=some ([.slice none 0 0]):=by kernel_rfl
theorem zc_72:BW prog 72=some ([.slice none 0 0,.map none,.int .i64 0,.bool false]):=by kernel_rfl
theorem zc_74:BW prog 74=some ([.int .u64 0]):=by kernel_rfl
theorem Si:BW prog 76=some ([.int .i64 0,.int .i64 0,.int .u64 0]):=by kernel_rfl
theorem zc_94:BW prog 94=some ([.pointer none,.pointer none,.pointer none,.pointer none,.int .u64 0,.int .i64 0,.map none,.map none,.int .i64 0,.bool false]):=by kernel_rfl
theorem Sj:(Tryz.prog.info? 24).bind (·.zero)=some (.slice none 0 0):=by kernel_rfl
theorem zv_3:(Tryz.prog.info? 3).bind (·.zero)=some (.int .i64 0):=by kernel_rfl
theorem Ahv:(Tryz.prog.info? 69).bind (·.zero)=some (.slice none 0 0):=by kernel_rfl
def Sk:BitVec 32:=0xedb88320#32
def Lf(w:BitVec 32):BitVec 32:=(w >>> 1) ^^^ (if w.getLsbD 0 then Sk else 0#32)
def Alc(x:BitVec 32):BitVec 32:=if x.getLsbD 31 then((x ^^^ Sk) <<< 1) ||| 1#32 else x <<< 1
def De:Nat->BitVec 32->BitVec 32
 |0,w=>w
 |n+1,w=>De n (Lf w)
def WX:Nat->BitVec 32->BitVec 32
 |0,w=>w
 |n+1,w=>Alc (WX n w)
def FG(c:UInt8):BitVec 32:=BitVec.ofNat 32 c.toNat
def ML(w:BitVec 32)(c:UInt8):BitVec 32:=De 8 (w ^^^ FG c)
def Any(s:BitVec 32)(l:List UInt8):BitVec 32 := ~~~ (l.foldl ML (~~~ s))
def VK(l:List UInt8):BitVec 32:=Any 0#32 l
theorem Ahw(a b:BitVec 32):Lf (a ^^^ b)=Lf a ^^^ Lf b:=by
 unfold Lf;rw[BitVec.getLsbD_xor,BitVec.ushiftRight_xor_distrib];cases a.getLsbD 0 <;> cases b.getLsbD 0 <;> simp only[Bool.xor_false,Bool.xor_true,Bool.not_true,Bool.not_false,if_true,qdn,if_false,BitVec.xor_zero]
 .ac_rfl
 .ac_rfl
 .rw[show a >>> 1 ^^^ Sk ^^^ (b >>> 1 ^^^ Sk)=a >>> 1 ^^^ b >>> 1 ^^^ (Sk ^^^ Sk)by ac_rfl,BitVec.xor_self,BitVec.xor_zero]
theorem Pb:∀(n:Nat) (a b:BitVec 32),De n (a ^^^ b)=De n a ^^^ De n b
 |0,_,_=>rfl
 |n+1,a,b=>by simp only[De];rw[Ahw,Pb n]
theorem IE:∀(m n:Nat) (w:BitVec 32),De n (De m w)=De (m+n) w
 |0,n,w=>by simp[De]
 |m+1,n,w=>by rw[Nat.succ_add];simp only[De];exact IE m n _
theorem Ade:FG 0=0#32:=rfl
def xorL:List UInt8->List UInt8->List UInt8
 |a::l,b::m=>(a ^^^ b)::xorL l m
 |_,_=>[]
theorem take_zero(w:BitVec 32):ML w 0=De 8 w:=by rw[ML,Ade,BitVec.xor_zero]
theorem U4:∀(n:Nat) (w:BitVec 32),(∀i,i<n->w.getLsbD i=false)->De n w=w >>> n
 |0,w,_=>by simp[De]
 |n+1,w,h=>by
  have h0:Lf w=w >>> 1:=by
   unfold Lf;rw[h 0 (by omega)];simp
  simp only[De];rw[h0,U4 n (w >>> 1) (fun i hi=>by rw[BitVec.getLsbD_ushiftRight];exact h _ (by omega)),<-BitVec.shiftRight_add,Nat.add_comm 1 n]
theorem VL(c:UInt8)(n:Nat)(hn:n<=24:=by omega):De n (FG c <<< n)=FG c:=by
 rw[U4 n _ (fun i hi=>by simp[BitVec.getLsbD_shiftLeft,hi])];have hc:c.toNat<256:=c.toNat_lt;apply BitVec.eq_of_toNat_eq;unfold FG;rw[BitVec.toNat_ushiftRight,BitVec.toNat_shiftLeft,BitVec.toNat_ofNat,qba (by omega:c.toNat<2 ^ 32),Nat.shiftLeft_eq]
 have h1:c.toNat*2 ^ n<2 ^ 32:=by
  have h2:2 ^ n<=2 ^ 24:=qc2 (by omega) hn
  calc c.toNat*2 ^ n<=255*2 ^ 24:=Nat.mul_le_mul (by omega) h2
   _<2 ^ 32:=by decide
 rw[qba h1,Nat.shiftRight_eq_div_pow,Nat.mul_div_cancel _ (Nat.two_pow_pos n)]
def Anz(a b c d:UInt8):BitVec 32:=FG a ^^^ (FG b <<< 8) ^^^ (FG c <<< 16) ^^^ (FG d <<< 24)
theorem four(w:BitVec 32)(a b c d:UInt8):[a,b,c,d].foldl ML w=De 32 (w ^^^ Anz a b c d):=by
 have ha:De 32 (FG a)=De 32 (FG a):=rfl
 have hb:De 24 (FG b)=De 32 (FG b <<< 8):=by
  rw[<-IE 8 24,VL b 8]
 have hc:De 16 (FG c)=De 32 (FG c <<< 16):=by
  rw[<-IE 16 16,VL c 16]
 have hd:De 8 (FG d)=De 32 (FG d <<< 24):=by
  rw[<-IE 24 8,VL d 24]
 simp only[qdk,List.foldl_nil,ML,Pb,IE];rw[hb,hc,hd,show 8+(8+(8+8))=32 from rfl];simp only[Anz,Pb]
 ac_rfl
def burstB(o v:Nat):Bool:=(WX 32 (BitVec.ofNat 32 v)).toNat % 2 ^ o == 0
attribute [local irreducible] AA W Wq Wt
theorem HI(b:UInt8):b.toNat<256:=b.toNat_lt
theorem NM(w:BitVec 32):w.toNat<4294967296:=w.isLt
theorem An0(s:BitVec 32):4294967295 ^^^ s.toNat=(~~~s).toNat:=by
 rw[<-BitVec.allOnes_xor,BitVec.toNat_xor,BitVec.toNat_allOnes]
theorem Ahx(c:UInt8):(FG c).toNat=c.toNat:=by
 have:=HI c;unfold FG;rw[BitVec.toNat_ofNat,qba (by omega)]
theorem xor_b(w:BitVec 32)(c:UInt8):w.toNat ^^^ c.toNat=(w ^^^ FG c).toNat:=by
 rw[BitVec.toNat_xor,Ahx]
theorem Ald(w:BitVec 32):w.getLsbD 0=decide (w.toNat % 2=1):=by
 rw[BitVec.getLsbD,Nat.testBit_zero]
theorem Ahy(w:BitVec 32):(w.toNat / 2) ^^^ (if w.toNat % 2=1 then 3988292384 else 0)=(Lf w).toNat:=by
 unfold Lf;rw[BitVec.toNat_xor,BitVec.toNat_ushiftRight,Nat.shiftRight_eq_div_pow,Ald]
 by_cases h:w.toNat % 2=1
 .simp[h,Sk]
 .simp[h]
theorem Adf(w:BitVec 32):(w.toNat / 2 ^ 1) ^^^ ((3988292384*(w.toNat &&& 1)) % 4294967296)=(Lf w).toNat:=by
 rw[<-Ahy,Nat.and_one_is_mod]
 by_cases h:w.toNat % 2=1
 .simp[h]
 .have h0:w.toNat % 2=0:=by omega
  simp[h0]
theorem Zw(n:Nat)(w:BitVec 32):Lf (De n w)=De (n+1) w:=by
 rw[<-IE n 1];rfl
theorem Ale(s:BitVec 32)(a:Option Addr)(c:Nat)(l:List UInt8)(w:World)(R:Rd w a 1 B8 l)(hm:l.length<=9223372036854775807) :
  Ret prog 140 #[.int .u32 (s.toNat:Int),.slice a l.length c] w fun v w'=>v=.int .u32 ((Any s l).toNat:Int)/\w=w':=by
 have hs:=NM s;refine A8 (fn:=f140) func140 U [.int .u32 (s.toNat:Int),.slice a l.length c] U (Ad (Ac U (qA (Ad (Ae U (Re U U ?_))))));rw[An0];refine Ac U (qA (Ar (Ad (Ah U (AO AX U (Ae U (qA (AB (B6 1073737888 (α:=Nat) (fun k=>[(12,.int .i64 k),(5,.int .u32 (((l.take k).foldl ML (~~~s)).toNat:Int))]) (fun k w'=>k<=l.length/\w=w') (fun k=>l.length - k) 0 U ?_ ?_ ?_)))))))))
 .exact⟨rfl,rfl,trivial⟩
 .exact⟨qak _,rfl⟩
 .rintro k j _ ⟨hk,rfl⟩;refine Ad (Bj U U (qA (Ar (Av _ U ?_ ?_))))
  .intro h1;replace h1:=AR h1;obtain⟨x,hx⟩:=AP (l:=l) (i:=k);have hxb:=HI x;have hw:=NM ((l.take k).foldl ML (~~~s));generalize hv:(l.take k).foldl ML (~~~s)=v at hw;refine Ap (Aa (Ar (AB (Ad (AY R AX CJ U U (hn:=by rfl) ?_)))));refine Bd Qu U (R.one (f:=bv) hx) (Ac U (qA (Ad (Ae U (Ae U (PJ U U Hm Zu ?_))))));refine QZ U U U ?_;rw[xor_b];refine Ac U (qA (Ad (Ae U (qA (AB (B6 535822368 (α:=Nat) (fun i=>[(20,.int .i64 i),(5,.int .u32 ((De i (v ^^^ FG x)).toNat:Int))]) (fun i w'=>i<=8/\w=w') (fun i=>8 - i) 0 U ?_ ?_ ?_))))))
   .exact⟨rfl,rfl,trivial⟩
   .exact⟨qak _,rfl⟩
   .rintro i j _ ⟨hi,rfl⟩;have hu:=NM (De i (v ^^^ FG x));generalize hz:De i (v ^^^ FG x)=z at hu;refine Ad (Bj U U (qA (Ar (Av _ U ?_ ?_))))
    .intro h2;replace h2:=AR h2;refine Ap (Aa (Ar (AB (Au (Ae U (Ra (n:=1) U U U ?_))))));refine Ae U (YY (b:=1) U U U ?_);refine W9 (a:=3988292384) U U U (QZ U U U ?_);rw[Adf];refine Ac U (Ab (AE (Aa (Au (Ay U U ?_)))));refine Ae U (qA ?_);exact⟨i+1,rfl,⟨rfl,by rw[<-Zw,hz];rfl,trivial⟩,⟨by omega,rfl⟩,by omega⟩
    .intro h2;replace h2:=AU h2;have hi8:i=8:=by omega
     subst hi8;refine B2 (Aw (Aw (AZ (AE (Aa (Au (Ay U U ?_)))))));refine Ae U (qA ?_);refine⟨k+1,rfl,⟨rfl,?_,trivial⟩,⟨by omega,rfl⟩,by omega⟩;rw[Bp hx,qdp,hv,qdk,List.foldl_nil,ML,hz];rfl
  .intro h1;replace h1:=AU h1;have hke:k=l.length:=by omega
   subst hke;rw[qbf];have hw:=NM (l.foldl ML (~~~s));refine B2 (Aw (Aw (AZ (Aa (Ad (Ae U (Re U U ?_)))))));rw[An0];refine Ac U (qA (A6 (AG (v:=(.int _ _)) U U U ?_)));exact⟨rfl,rfl⟩
theorem Ahz(a:Option Addr)(c n:Nat)(l:List UInt8)(w:World)(R:Rd w a 1 B8 l)(hn:l.length=n)(hm:n<=9223372036854775807:=by omega):
  Ret prog 115 #[.slice a n c] w fun v w'=>v=.int .u32 ((VK l).toNat:Int)/\w=w':=by
 subst hn;refine A8 (fn:=f115) func115 U [.slice a l.length c] U (Ad (Ac U (qA (Ad (Ah U (Aj qB (Ale 0#32 a c l w R hm) U ?_))))));rintro v w ⟨rfl,rfl⟩;refine Ac U (qA (A6 (AG (v:=(.int _ _)) U U U ?_)));exact⟨rfl,rfl⟩
def HO:List UInt8->Nat
 | []=>0
 |c::l=>c.toNat+256*HO l
theorem WY:∀(l m:List UInt8),HO (l++m)=HO l+256 ^ l.length*HO m
 | [],m=>by simp[HO]
 |c::l,m=>by
  have h:=WY l m;simp only[qbx,HO,qav,h,qd9];rw[Nat.mul_add,<-Nat.mul_assoc,qd8 (256 ^ l.length) 256];omega
theorem VM:∀l:List UInt8,HO l<256 ^ l.length
 | []=>by simp[HO]
 |c::l=>by
  have h:=VM l;have hc:=HI c;simp only[HO,qav,qd9];omega
theorem Adg{l:List UInt8}{k:Nat}{c:UInt8}(hk:l[k]?=some c)(h4:k<4:=by omega):HO (l.take k) ||| (c.toNat*2 ^ (8*k) % 4294967296)=HO (l.take (k+1)):=by
 have hl:=YX hk;have hlen:(l.take k).length=k:=by rw[qa0];omega
 have h1:=VM (l.take k);rw[hlen]at h1;have h2:(256:Nat) ^ k=2 ^ (8*k):=by rw[Nat.pow_mul]
 have hc:=HI c
 have h3:c.toNat*2 ^ (8*k)<4294967296:=by
  have:k=0\/k=1\/k=2\/k=3:=by omega
  rcases this with h|h|h|h <;> subst h <;> omega
 rw[Bp hk,WY,hlen,qba h3,Nat.or_comm,qd8 c.toNat,<-Nat.two_pow_add_eq_or_of_lt (by rw[<-h2];exact h1),h2];simp only[HO,Nat.mul_zero,qc9];omega
def IX(b:List UInt8):Bool:=decide (4<=b.length) && decide ((VK (b.take (b.length - 4))).toNat=HO (b.drop (b.length - 4)))
theorem WZ(a:Option Addr)(c:Nat)(l:List UInt8)(w:World)(R:Rd w a 1 B8 l)(hc:l.length<=c)(hm:l.length<=9223372036854775807:=by omega):
  Ret prog 138 #[.slice a l.length c] w fun v w'=>v=.bool (IX l)/\w=w':=by
 refine A8 (fn:=f138) func138 U [.slice a l.length c] U (Ad (Am U (qA (Ad (Ah U (AO AX U (BD U U ?_)))))));refine Ac U (qA (Ar (Ad (Ae U (Bj U U (qA (Av _ U ?_ ?_)))))))
 .intro h1;replace h1:=AR h1;refine Ad (Am U (qA (A6 (Ao (AG (v:=(.bool _)) U U U ?_)))));exact⟨qab Value.bool (by rw[IX,qag (by omega)];rfl),rfl⟩
 .intro h1;replace h1:=AU h1;obtain⟨m,hm4⟩:∃m,l.length=m+4:=⟨l.length - 4,by omega⟩;rw[show(l.length:Int) - 4=(m:Int)by omega];have R':=R.cut m c hc;have hd:(l.drop m).length=4:=by rw[qbg];omega
  refine Ap (Aa (Ad (Ac U (qA (Ar (Ad (Ah U (Ae U (FB AX CJ U U ?_)))))))));refine AO AX U (Ae U (qA (AB ?_)));rw[show l.length - ((m:Int)).toNat=4 by omega];refine B6 536805488 (α:=Nat) (fun k=>[(16,.int .i64 k),(4,.int .u32 (HO ((l.drop m).take k):Int))]) (fun k w'=>k<=4/\w=w') (fun k=>4 - k) 0 U ?_ ?_ ?_
  .exact⟨rfl,rfl,trivial⟩
  .exact⟨qak _,rfl⟩
  .rintro k j _ ⟨hk,rfl⟩;refine Ad (Bj U U (qA (Ar (Av _ U ?_ ?_))))
   .intro h2;replace h2:=AR h2;obtain⟨x,hx⟩:=AP (l:=l.drop m) (i:=k);have hxb:=HI x
    have hw:HO ((l.drop m).take k)<4294967296:=by
     have h:=VM ((l.drop m).take k);have h2:256 ^ ((l.drop m).take k).length<=256 ^ 4:=qc2 (by omega) (by rw[qa0];omega);have h3:(256:Nat) ^ 4=4294967296:=by decide
     omega
    refine Ap (Aa (Ar (AB (Ad (Ae U (AY R' AX CJ U U ?_))))));refine Bd Qu U (R'.one (f:=bv) hx) (Ac U (Ac U (qA (Au (Ae U (Ae U (PJ U U Hm Zu ?_)))))));refine Ae U (Gp U U ?_);rw[show(8:Int)*(k:Int)=((8*k:Nat):Int)from by simp];refine YZ U U U (Ac6 U U U ?_);rw[Adg hx];refine Ac U (Ab (AE (Aa (Au (Ay U U ?_)))));refine Ae U (qA ?_);exact⟨k+1,rfl,⟨rfl,rfl,trivial⟩,⟨by omega,rfl⟩,by omega⟩
   .intro h2;replace h2:=AU h2;have hk4:k=4:=by omega
    subst hk4;rw[show(l.drop m).take 4=l.drop m from qa6 (by omega)];refine B2 (Aw (Aw (AZ (Aa (Ad (Ah U (Ae U (Eg AX CJ U U ?_))))))));refine Aj qB (Ahz a c m (l.take m) w (R.take m) (by rw[qa0];omega)) U ?_;rintro v w ⟨rfl,rfl⟩;refine Ae U (BA U U (Am U (qA (A6 (AG (v:=(.bool _)) U U U ?_)))));refine⟨qab Value.bool ?_,rfl⟩;rw[IX,qal (show 4<=l.length by omega),qea,show l.length - 4=m by omega];exact decide_eq_decide.2 (by omega)
theorem Fresh.rdB{w w':World}{t:Nat}{s:Value}{xs:List UInt8}(h:Fresh w w' t 1 s (xs.map bv)):∃a c,s=.slice a xs.length c/\Rd w' a 1 B8 xs/\xs.length<=c:=by
 obtain⟨a,n,c,full,rfl,O,hb⟩:=h.ex;have hn:=O.num;subst hn;exact⟨a,c,rfl,O.rd1 (t:=t) fun x hx=>(hb x hx).1,O.le⟩
theorem Rd.appB{w:World}{a:Option Addr}{l:List UInt8}(R:Rd w a 1 B8 l):∀j v,(l.map bv)[j]?=some v->∃p,a=some p/\w.cell? (p.add j)=some v:=Rd.app1 (f:=bv) R
theorem OS.rdB{w:World}{a:Option Addr}{n c:Nat}{t:TypeId}{full:List Value}{xs:List UInt8}(h:OS a n c 1 full (xs.map bv))(hb:∀x∈ent a t full,w.heap[x.1]?=some x.2):Rd w a 1 B8 xs:=OS.rd1 h hb
theorem Ah0{w:World}{b t:Nat}{xs:List UInt8}(h:w.heap[b]?=some (Bl t (xs.map bv))):Rd w (some ⟨b,0,none⟩) 1 B8 xs :=
 Rd.of_bl (r:=[]) h (by rw[qa3];exact(Aaw xs).symm) (fun x _=>rfl)
theorem Fresh.since{w0 w w':World}{t s:Nat}{v:Value}{l:List Value}(h:Fresh w w' t s v l)(hx:Ext [] w0 w):Fresh w0 w' t s v l :=
 ⟨let ⟨a,n,c,full,h1,h2,h3⟩:=h.ex;⟨a,n,c,full,h1,h2,fun x hx'=>⟨(h3 x hx').1,qaw hx.size (h3 x hx').2⟩⟩,hx.trans h.ext⟩
theorem JN(a:Option Addr)(c n:Nat)(l:List UInt8)(w:World)(R:Rd w a 1 B8 l)(hn:l.length=n)(hm:n<=140737488351232:=by omega):
  Ret prog 67 #[.slice a n c] w fun v w'=>Fresh w w' 5 1 v (l.map bv)/\(a=none->v=.slice none 0 0):=by
 subst hn;obtain⟨w0,rfl,H⟩:=qE w;refine A8 (fn:=f67) func67 U [.slice a l.length c] U (Ad (Ak U (qA (Ar (Ad (Ah U (Ug U AX U (qA (Av _ U ?_ ?_)))))))))
 .intro h1;have ha:a=none:=by simpa using h1
  subst ha
  have hl:l=[]:=by
   cases l with
   |nil=>rfl
   |cons x l=>obtain⟨b,o,h⟩:=R.some' (by simp);cases h
  subst hl;refine Ad (Ak U (qA (A6 (Ao (AG (v:=(.slice _ _ _)) U U U ?_)))));exact⟨Fresh.nil H _ _,fun _=>rfl⟩
 .intro h1;refine Ap (Aa (Ad (JH U AX CJ H ?_)));rintro b5 w H O;refine Ah U (DQ U AX AX CJ OZ IW U (l.map bv) U U H O (by simp) (Ht l) (Rd.appB (R.ext0 H.ext)) ?_);rintro a7 c7 full7 w H O;refine Ak U (qA (A6 (AG (v:=(.slice _ _ _)) U U U ?_)));exact⟨Ctx.fresh H (by simpa using O),fun h=>by subst h;cases h1⟩
theorem Adh(a:Option Addr)(c n:Nat)(l:List UInt8)(w:World)(R:Rd w a 1 B8 l)(hn:l.length=n)(hm:n<=140737488351232:=by omega):
  Ret prog 107 #[.slice a n c] w fun v w'=>Fresh w w' 5 1 v (l.map bv)/\(a=none->v=.slice none 0 0):=by
 subst hn;obtain⟨w0,rfl,H⟩:=qE w;refine A8 (fn:=f107) func107 U [.slice a l.length c] U (Ad (Ak U (qA (Ar (Ad (Ah U (Ug U AX U (qA (Av _ U ?_ ?_)))))))))
 .intro h1;have ha:a=none:=by simpa using h1
  subst ha
  have hl:l=[]:=by
   cases l with
   |nil=>rfl
   |cons x l=>obtain⟨b,o,h⟩:=R.some' (by simp);cases h
  subst hl;refine Ad (Ak U (qA (A6 (Ao (AG (v:=(.slice _ _ _)) U U U ?_)))));exact⟨Fresh.nil H _ _,fun _=>rfl⟩
 .intro h1;refine Ap (Aa (Ad (JH U AX CJ H ?_)));rintro b5 w H O;refine Ah U (DQ U AX AX CJ OZ IW U (l.map bv) U U H O (by simp) (Ht l) (Rd.appB (R.ext0 H.ext)) ?_);rintro a7 c7 full7 w H O;refine Ak U (qA (A6 (AG (v:=(.slice _ _ _)) U U U ?_)));exact⟨Ctx.fresh H (by simpa using O),fun h=>by subst h;cases h1⟩
def HP(k:Int):Bool:=decide (k=1) || (decide (k=2) || (decide (k=4) || decide (k=8)))
theorem Xa{k:Int}(h:HP k=true):∃n:Nat,k=n/\1<=n/\n<=8:=by
 simp only[HP,qcf,qaq]at h;exact⟨k.toNat,by omega,by omega,by omega⟩
theorem Adi(k:Int):∃z:Int,Option.getD (if k=8 then some (Value.int .i64 64)else if k=4 then some (Value.int .i64 32)else if k=2 then some (Value.int .i64 16)else if k=1 then some (Value.int .i64 8)else none) (Value.int .i64 0)=.int .i64 z/\decide (0<z)=HP k:=by
 by_cases h8:k=8
 .exact⟨64,by simp[h8],by simp[HP,h8]⟩
 by_cases h4:k=4
 .exact⟨32,by simp[h4],by simp[HP,h4]⟩
 by_cases h2:k=2
 .exact⟨16,by simp[h2],by simp[HP,h2]⟩
 by_cases h1:k=1
 .exact⟨8,by simp[h1],by simp[HP,h1]⟩
 exact⟨0,by simp[h8,h4,h2,h1],by simp[HP,h8,h4,h2,h1]⟩
theorem U5(k:Int)(w:World):Ret prog 108 #[.int .i64 k] w fun v w'=>v=.bool (HP k)/\Ext [] w w':=by
 obtain⟨w0,rfl,H⟩:=qE w;refine A8 (fn:=f108) func108 U [.int .i64 k] U (Ad (Am U (qA (Ad (QX .i64 U H ?_)))));rintro b4 o4 w hM H;refine LW (.int _ _) U Sc Gs U U U H at0 hM ?_;rintro o w hM H;refine LW (.int _ _) U Sc Gs U U U H at0 hM ?_;rintro o w hM H;refine LW (.int _ _) U Sc Gs U U U H at0 hM ?_;rintro o w hM H;refine LW (.int _ _) U Sc Gs U U U H at0 hM ?_;rintro o w hM H;refine KT U U (Ri U U (qA (Ad (KT U U (Ae U (Ac4 U Sc Gs zv_3 U U H at0 hM ?_))))));simp only[OT,QW];obtain⟨z,hz,hzb⟩:=Adi k;rw[hz];refine BZ U U (Am U (qA (A6 (AG (v:=(.bool _)) U U U ?_))));exact⟨qab Value.bool hzb,H.ext⟩
def Bq(n k:Nat):List UInt8:=(List.range k).map fun i=>UInt8.ofNat (n / 2 ^ (8*(k - 1 - i)))
theorem Ba(n k:Nat):(Bq n k).length=k:=by simp[Bq]
theorem Adj{n k i:Nat}(h:i<k:=by omega):(Bq n k).take (i+1)=(Bq n k).take i++[UInt8.ofNat (n / 2 ^ (8*(k - 1 - i)))]:=Bp (Uk h)
theorem U6(x:Nat):Value.int .u8 ((x % 256:Nat):Int)=bv (UInt8.ofNat x):=by
 unfold bv;congr 2
def Nb(l:List UInt8)(n:Nat)(k:Int):List UInt8:=bif HP k then l++Bq n k.toNat else l
theorem Gt(a:Option Addr)(c m:Nat)(l:List UInt8)(n:Nat)(k:Int)(w:World)(R:Rd w a 1 B8 l)(hml:l.length=m)(_:n<18446744073709551616)(hm:m<=140737488351231:=by decide):
  Ret prog 82 #[.slice a m c,.int .u64 (n:Int),.int .i64 k] w fun v w'=>Fresh w w' 5 1 v ((Nb l n k).map bv):=by
 subst hml;obtain⟨w0,rfl⟩:=qD w;refine A8 (fn:=f82) func82 U [.slice a l.length c,.int .u64 (n:Int),.int .i64 k] U (Ad (Ak U (qA (Ad (Ah U (Aj qB (JN a c l.length l _ R U) U ?_))))));rintro v w ⟨F,-⟩;obtain⟨a7,n7,c7,full7,rfl,O,hb⟩:=F.ex;have hn7:n7=l.length:=OS.num O;subst hn7;have H:Ctx w0 [] w (ent a7 5 full7):=⟨F.ext,fun x hx=>(hb x hx).1,KR,fun x hx => .inr (hb x hx).2⟩;refine Ak U (qA (Ar (Ad (Ae U (Aj qB (U5 k _) U ?_)))));rintro v w ⟨rfl,hx⟩;replace H:=H.call hx;refine Cl U (qA (Av _ U ?_ ?_))
 .intro h1;replace h1:=C8 h1;refine Ad (Ah U (Ak U (qA (A6 (Ao (AG (v:=(.slice _ _ _)) U U U ?_))))));rw[Nb,h1];exact Ctx.fresh (L:=[]) H O
 .intro h1;replace h1:=CA h1;obtain⟨q,rfl,hq1,hq8⟩:=Xa h1;rw[Nb,h1,show((q:Int)).toNat=q from rfl];refine Ap (Aa (Ar (Ad (Ae U (Ae U (qA (AB (B6 2147418496 (α:=Nat × Option Addr × Nat × List Value) (fun x=>[(16,.int .i64 x.1),(7,.slice x.2.1 (l.length+x.1) x.2.2.1)]) (fun x w'=>x.1<=q/\Ctx w0 [] w' (ent x.2.1 5 x.2.2.2)/\OS x.2.1 (l.length+x.1) x.2.2.1 1 x.2.2.2 ((l++(Bq n q).take x.1).map bv)) (fun x=>q - x.1) (0,a7,c7,full7) U ?_ ?_ ?_))))))))
  .exact⟨rfl,rfl,trivial⟩
  .exact⟨qak _,H,by simpa using O⟩
  .rintro⟨i,a7,c7,full7⟩ j w ⟨hi,H,O⟩;dsimp only at hi H O;dsimp only;refine Ad (Bj U U (qA (Ar (Av _ U ?_ ?_))))
   .intro h2;replace h2:=AR h2;refine Ap (Aa (Ar (AB (Ad (Ae U (Ac U (qA (Au (Ah U (Ae U ?_))))))))));refine Ae U (BD U U ?_);refine Ae U (BD U U ?_);refine Gp U U ?_;rw[show(8:Int)*((q:Int) - 1 - (i:Int))=((8*(q - 1 - i):Nat):Int)from by omega];refine Rh U U U (PM U U Hn Hm ?_);rw[U6];refine BI _ (.int _ _) AX CJ IW U U U U H ?_;rintro b28 w - H;refine BL (L:=[]) AX AX CJ OZ IW U U U H O U (by simp[Bh]) ?_;rintro a9 c9 full9 w H O;refine Ak U (Ab (AE (Aa (Au (Ay U U ?_)))));refine Ae U (qA ?_);refine⟨(i+1,a9,c9,full9),rfl,⟨rfl,rfl,trivial⟩,⟨by omega,H,?_⟩,by dsimp only;omega⟩;dsimp only
    have O':OS a9 (l.length+(i+1)) c9 1 full9 ((l++(Bq n q).take i).map bv++[UInt8.ofNat (n / 2 ^ (8*(q - 1 - i)))].map bv):=O;rw[<-qay,qa1,<-Adj]at O';exact O'
   .intro h2;replace h2:=AU h2;have hiq:i=q:=by omega
    subst hiq;refine B2 (Aw (Aw (AZ (Aa (Ad (Ah U (Ak U (qA (A6 (AG (v:=(.slice _ _ _)) U U U ?_))))))))));have hl:(Bq n i).take i=Bq n i:=qa6 (by rw[Ba];exact qae _);rw[hl]at O;exact Ctx.fresh (L:=[]) H O
def numN(l:List UInt8):Nat:=l.foldl (fun n c=>n*256+c.toNat) 0
theorem U7(l:List UInt8)(c:UInt8):numN (l++[c])=numN l*256+c.toNat:=by simp[numN]
theorem Kr(l:List UInt8):numN l<256 ^ l.length:=by
 have h:∀(l:List UInt8) (n k:Nat),n<256 ^ k->l.foldl (fun n c=>n*256+c.toNat) n<256 ^ (k+l.length):=by
  intro l
  induction l with
  |nil=>intro n k h;simpa using h
  |cons c l ih =>
   intro n k h;have hc:=HI c;have:=ih (n*256+c.toNat) (k+1) (by rw[qd9];omega)
   simpa[qcl,Nat.add_comm 1]using this
 have:=h l 0 0 (by simp);rw[qa2]at this;exact this
theorem Ah1{l:List UInt8}{i:Nat}{c:UInt8}(h:l[i]?=some c)(hi:i<8:=by omega):(numN (l.take i)*2 ^ 8 % 18446744073709551616) ||| c.toNat=numN (l.take (i+1)):=by
 have h1:=Kr (l.take i);have hc:=HI c;have hlen:(l.take i).length<=7:=by rw[qa0];omega
 have h2:256 ^ (l.take i).length<=256 ^ 7:=qc2 (by omega) hlen;have h3:(256:Nat) ^ 7=72057594037927936:=by decide
 rw[Bp h,U7,qba (by omega),qd8,<-Nat.two_pow_add_eq_or_of_lt (by omega)]
def Di(l:List UInt8)(at' k:Int):Int:=bif HP k && (decide (0<=at') && decide (at'<=l.length))then(bif decide (k<=(l.length:Int) - at')then 0 else 5)else 1
def Gh(l:List UInt8)(at' k:Int):Value:=bif decide (Di l at' k=0)then .tuple #[.int .u64 (numN ((l.drop at'.toNat).take k.toNat):Int),.int .i64 (at'+k),.int .i64 0]else .tuple #[.int .u64 0,.int .i64 0,.int .i64 (Di l at' k)]
theorem He(a:Option Addr)(c m:Nat)(l:List UInt8)(at' k:Int)(w:World)(R:Rd w a 1 B8 l)(hml:l.length=m)(hc:l.length<=c)(hm:m<=9223372036854775799:=by omega):
  Ret prog 74 #[.slice a m c,.int .i64 at',.int .i64 k] w fun v w'=>v=Gh l at' k/\Ext [] w w':=by
 subst hml;obtain⟨w0,rfl,H⟩:=qE w;refine A8 (fn:=f74) func74 U [.slice a l.length c,.int .i64 at',.int .i64 k] U (Ad (Ac U (Ac U (Ac U (qA (Ar (AB (Ar (Ad (Ae U ?_))))))))));refine Aj qB (U5 k _) U ?_;rintro v w ⟨rfl,hx⟩;replace H:=H.call hx;refine Cl U (Am U (qA (Dx 11 U ?_ ?_)))
 .intro h1;replace h1:=C8 h1;have he:Di l at' k=1:=by unfold Di;rw[h1];rfl
  refine Ap (Aa (EI U (Ad (Ac U (Ac U (Ac U (qA (A6 (AK (Ao (CX (v1:=(.int _ _)) (v2:=(.int _ _)) (v3:=(.int _ _)) U U U U U ?_)))))))))));exact⟨by rw[Gh,he];rfl,H.ext⟩
 .intro h1;replace h1:=CA h1;refine Ad (Ae U (Bj U U (Am U (qA (Dx 11 U ?_ ?_)))))
  .intro h2;replace h2:=AR h2;have he:Di l at' k=1:=by unfold Di;rw[qag (show ¬0<=at' by omega),Bool.false_and,qeb];rfl
   refine Ap (Aa (EI U (Ad (Ac U (Ac U (Ac U (qA (A6 (AK (Ao (CX (v1:=(.int _ _)) (v2:=(.int _ _)) (v3:=(.int _ _)) U U U U U ?_)))))))))));exact⟨by rw[Gh,he];rfl,H.ext⟩
  .intro h2;replace h2:=AU h2;refine Au (Ae U (Ah U (AO AX U (BZ U U (Am U (qA (Dx 11 U ?_ ?_)))))))
   .intro h3;replace h3:=AR h3;have he:Di l at' k=1:=by unfold Di;rw[qag (show ¬at'<=(l.length:Int)by omega),qeb,qeb];rfl
    refine Ad (Ac U (Ac U (Ac U (qA (A6 (AK (Ao (CX (v1:=(.int _ _)) (v2:=(.int _ _)) (v3:=(.int _ _)) U U U U U ?_))))))));exact⟨by rw[Gh,he];rfl,H.ext⟩
   .intro h3;replace h3:=AU h3;obtain⟨q,rfl,hq1,hq8⟩:=Xa h1;obtain⟨o,rfl⟩:∃o:Nat,at'=o:=⟨at'.toNat,by omega⟩
    have hE:Di l (o:Int) (q:Int)=bif decide ((q:Int)<=(l.length:Int) - (o:Int))then 0 else 5:=by
     unfold Di;rw[h1,qal (show(0:Int)<=(o:Int)by omega),qal (show(o:Int)<=(l.length:Int)by omega)];rfl
    refine Ad (Ah U (AO AX U (Ae U (BD U U ?_))));refine Ae U (Bj U U (Am U (qA (Av _ U ?_ ?_))))
    .intro h4;replace h4:=AR h4;rw[qag (by omega)]at hE;refine Ad (Ac U (Ac U (Ac U (qA (A6 (AK (Ao (CX (v1:=(.int _ _)) (v2:=(.int _ _)) (v3:=(.int _ _)) U U U U U ?_))))))));exact⟨by rw[Gh,hE];rfl,H.ext⟩
    .intro h4;replace h4:=AU h4;rw[qal (by omega)]at hE;have R':=((R.ext0 H.ext).cut o c hc).take q;have hl:((l.drop o).take q).length=q:=by rw[qa0,qbg];omega
     refine Ap (AE (Aa (Ad (Ae U (Ae U (Ay U U ?_))))));refine Ac U (qA (Ar (Ad (Ah U (Ae U (Ae U (JA U AX CJ U U U ?_)))))));refine AO AX U (Ae U (qA (AB ?_)));rw[show((o:Int)+(q:Int)).toNat - ((o:Int)).toNat=q by omega];refine B6 70300024702016 (α:=Nat) (fun i=>[(36,.int .i64 i),(6,.int .u64 (numN (((l.drop o).take q).take i):Int))]) (fun i w'=>i<=q/\w=w') (fun i=>q - i) 0 U ?_ ?_ ?_
     .exact⟨rfl,rfl,trivial⟩
     .exact⟨qak _,rfl⟩
     .rintro i j _ ⟨hi,rfl⟩;refine Ad (Bj U U (qA (Ar (Av _ U ?_ ?_))))
      .intro h5;replace h5:=AR h5;obtain⟨x,hx⟩:=AP (l:=(l.drop o).take q) (i:=i);have hxb:=HI x;have hlt:=Kr (((l.drop o).take q).take (i+1));have hst:=Ah1 hx;refine Ap (Aa (Ar (AB (Ad (AY R' AX CJ U U ?_)))));refine Bd Qu U (R'.one (f:=bv) hx) (Ac U (qA (Au (Ae U (Za (n:=8) U U U ?_)))));refine Ae U (DN U Hm Hn ?_);refine Ac7 U U U (qbm _ (by decide)) ?_;rw[hst];refine Ac U (Ab (AE (Aa (Au (Ay U U ?_)))));refine Ae U (qA ?_);exact⟨i+1,rfl,⟨rfl,rfl,trivial⟩,⟨by omega,rfl⟩,by omega⟩
      .intro h5;replace h5:=AU h5;have hiq:i=q:=by omega
       subst hiq;rw[show((l.drop o).take i).take i=(l.drop o).take i from qa6 (by omega)];refine B2 (Aw (Aw (AZ (Aa (Ad (Ae U (Ae U (Ac U (Ac U (Ac U (qA (A6 (CX (v1:=(.int _ _)) (v2:=(.int _ _)) (v3:=(.int _ _)) U U U U U ?_)))))))))))));exact⟨by rw[Gh,hE];rfl,H.ext⟩
def Qv(l:List UInt8):Bool:=l.all fun b=>b == 0
theorem Ah2(a:Option Addr)(c n:Nat)(l:List UInt8)(w:World)(R:Rd w a 1 B8 l)(hn:l.length=n)(hm:n<=9223372036854775807)(hc:l.length<=c) :
  Ret prog 171 #[.slice a n c,bv 0] w fun v w'=>(∃a' n' c',v=.slice a' n' c'/\decide (0<n') = !Qv l/\n'<=n)/\w=w':=by
 subst hn;refine A8 (fn:=f171) func171 U [.slice a l.length c,bv 0] U ?_;refine Ad (Ak U (qA (Ar (AB (B6 131041 (α:=Nat × Option Addr × Nat) (fun x=>[(0,.slice x.2.1 (l.length - x.1) x.2.2)]) (fun x w'=>x.1<=l.length/\Rd w x.2.1 1 B8 (l.drop x.1)/\l.length - x.1<=x.2.2/\Qv (l.take x.1)=true/\w=w') (fun x=>l.length - x.1) (0,a,c) U ?_ ?_ ?_)))))
 .exact⟨rfl,trivial⟩
 .exact⟨qak _,R,hc,rfl,rfl⟩
 .rintro⟨k,a,c⟩ j _ ⟨hk,R,hc,hz,rfl⟩;dsimp only at hk R hc hz;dsimp only;have hld:(l.drop k).length=l.length - k:=qbg;refine Ar (Ad (Ah U (AO AX U (BZ U U (AF U (AQ 8 U ?_ ?_))))))
  .intro h1;replace h1:=AR h1;obtain⟨x,hx⟩:=AP (l:=l.drop k) (i:=0);have hxl:l[k]?=some x:=by rw[qcm]at hx;simpa using hx
   refine Ah U (AY R AX CJ U U ?_);refine Bd Qu U (R.one (f:=bv) hx) (Ae U (BA U U (AN U (.bool _) U (qA (Av _ U ?_ ?_)))))
   .intro h2;replace h2:=AR h2
    have hx0:x=0:=by
     have:x.toNat=0:=by simpa using h2
     exact UInt8.toNat_inj.1 this
    refine Ap (Aa (AB (Au (Ah U (FB AX CJ U U ?_)))));refine Ak U (Ab (AE (Aa ?_)));refine⟨(k+1,EH a c 1 1,c - 1),rfl,⟨rfl,trivial⟩,⟨by dsimp only;omega,?_,by dsimp only;omega,?_,rfl⟩,by dsimp only;omega⟩
    .dsimp only;have:=R.cut 1 c (by omega);rw[qdq]at this;exact this
    .dsimp only;rw[Bp hxl,Qv,List.all_append,hx0];have hz':(l.take k).all (fun b=>b == 0)=true:=hz;rw[hz'];rfl
   .intro h2;replace h2:=AU h2
    have hx0:¬x=0:=by
     rintro rfl;simp at h2
    have hnz:Qv l=false:=by
     rw[qec];intro hall;rw[Qv,qb5]at hall;have:=hall x (qad hxl);exact hx0 (by simpa using this)
    refine B2 (Aw (Aw (AZ (Aa (Ar (Ad (Ah U (AO AX U (BA U U (qA (Av _ U ?_ ?_)))))))))))
    .intro h3;replace h3:=AR h3;omega
    .intro h3;replace h3:=AU h3;refine Ap (Aa (Ad (Ah U (Ak U (qA (A6 (AG (v:=(.slice _ _ _)) U U U ?_)))))));exact⟨⟨_,_,_,rfl,by rw[hnz,qal (by omega)];rfl,by omega⟩,rfl⟩
  .intro h1;replace h1:=AU h1;have hke:k=l.length:=by omega
   subst hke;rw[qbf]at hz;refine Ag U (Ag U (Ag U (Ag U (Ag U (AM U (.bool _) U (qA (Bz U (B2 (Aw (Aw (AZ (Aa (Ar ?_)))))))))))));refine Ad (Ah U (AO AX U (BA U U (qA (Av _ U ?_ ?_)))))
   .intro h3;replace h3:=AR h3;refine Ad (Ak U (qA (A6 (Ao (AG (v:=(.slice _ _ _)) U U U ?_)))));exact⟨⟨_,_,_,rfl,by rw[hz];rfl,by omega⟩,rfl⟩
   .intro h3;replace h3:=AU h3;omega
theorem Alf(a:Option Addr)(c n:Nat)(l:List UInt8)(w:World)(R:Rd w a 1 B8 l)(hn:l.length=n)(hc:l.length<=c)(hm:n<=9223372036854775807:=by omega):
  Ret prog 139 #[.slice a n c,str [0]] w fun v w'=>(∃a' n' c',v=.slice a' n' c'/\decide (0<n') = !Qv l/\n'<=n)/\w=w':=by
 subst hn;refine A8 (fn:=f139) func139 U [.slice a l.length c,str [0]] U (Ad (Ak U (qA (Ar (Ad (Ah U (AO AX U (BA U U (qA (Av _ U ?_ ?_))))))))))
 .intro h1;replace h1:=AR h1;have hl:l=[]:=qa4 (by omega);subst hl;refine Ad (Ak U (qA (A6 (Ao (AG (v:=(.slice _ _ _)) U U U ?_)))));exact⟨⟨_,_,_,rfl,rfl,qae _⟩,rfl⟩
 .intro h1;replace h1:=AU h1;refine Ap (Aa (Ar (Ad (Ce U (Ro (l:=[0]) (m:=[]) U U U ?_)))));refine qA (Bz U (Ap (Aa (Ar (Ad (Ce U (VF (l:=[0]) U FA U ?_)))))));refine BA U U (AF U (Ce U (Up (l:=[0]) 0 U FA U U U ?_)));refine Bj U U (AN U (.bool _) U (qA (EI U (Ad (Ah U (Ce U (Up (l:=[0]) 0 U FA U U U ?_)))))));refine Aj qB (Ah2 a c l.length l w R U hm hc) U ?_;rintro v w ⟨⟨a',n',c',rfl,hz,hle⟩,rfl⟩;refine Ak U (qA (A6 (Ao (AG (v:=(.slice _ _ _)) U U U ?_))));exact⟨⟨_,_,_,rfl,hz,hle⟩,rfl⟩
end Go.Proofs.YtcpgbcabmcbclaaGreatDoor
