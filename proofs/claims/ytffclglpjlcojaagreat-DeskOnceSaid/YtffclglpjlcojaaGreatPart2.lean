/- Part 2 of the proof. -/
import Derived.Test.YtffclglpjlcojaaGreatPart1
import Derived.Laws.Tables
import Derived.Laws.AppendOwn
import Derived.Laws.IdiomStrings
import Derived.Laws.Strings
import Derived.RangeFuncLeaves
import Derived.DefersIn
namespace Go.GV
open Go
section
variable {P:Program}{r:Option Nat}{ops rest:List Oper}{Q:Exit->Env->World->Prop}{e:Env}{w w0:World}{S:List Nat}{L:List (Nat × Obj)}{dst:Option Tmp}{ty:TypeId}{pos:String}{af:Array Edge}{g:Option (Nat × Bool)}
theorem UJ{o:Oper}{f:FuncId}{args:Array Value}{w':World}{R:Value->World->Prop}(hg:AV o ops e=true)(hd:RS o.op=true)(hrun:(execOp (ev e) o).run P w=.ok (.enter f args) w')(hc:Ret P f args w' R)(h:∀v w'',R v w''->A7 P r ops Q rest (put e o.dst v) w''):A7 P r ops Q (o::rest) e w:=by
 unfold A7;rw[if_pos hg,Oper.semAt_eq r _ _ (K5 hd),hrun];exact Ret.mono hc h
theorem Al{f:FuncId}{args:Array Operand}{ats:Array TypeId}{l:List Value}{R:Value->World->Prop}(hf:Aq P f=true)(hc:Ret P f l.toArray w R)(ha:args.toList.map (ev e)=l)(h:∀v w',R v w'->A7 P r ops Q rest (put e dst v) w')(hg:AV ⟨dst,.call ⟨.value (.func f),args,ats⟩,ty,pos,af,g⟩ ops e=true:=by exact U):
  A7 P r ops Q (⟨dst,.call ⟨.value (.func f),args,ats⟩,ty,pos,af,g⟩::rest) e w:=by
 refine UJ (R:=R) hg U ?_ hc h;have:args.map (ev e)=l.toArray:=by subst ha;apply qb4;simp only[qcu]
 simp[execOp,resolve,ev,Deferred.ofValue,invoke,this,HW hf]
theorem G6{f:FuncId}{fo:Operand}{fi ca:Array Value}{args:Array Operand}{ats:Array TypeId}{l:List Value}{R:Value->World->Prop}(hfo:ev e fo=.func (.func f) fi ca)(hf:Aq P f=true)(hc:Ret P f l.toArray w R)(ha:fi.toList++(args.toList.map (ev e)++ca.toList)=l)(h:∀v w',R v w'->A7 P r ops Q rest (put e dst v) w')(hg:AV ⟨dst,.call ⟨.value fo,args,ats⟩,ty,pos,af,g⟩ ops e=true:=by exact U):
  A7 P r ops Q (⟨dst,.call ⟨.value fo,args,ats⟩,ty,pos,af,g⟩::rest) e w:=by
 refine UJ (R:=R) hg U ?_ hc h;have:fi++args.map (ev e)++ca=l.toArray:=by rw[<-ha];apply qb4;simp
 simp[execOp,resolve,hfo,Deferred.ofValue,invoke,this,HW hf]
end
def ent(a:Option Addr)(t:TypeId)(full:List Value):List (Nat × Obj) :=
 match a with
 |none=>[]
 |some p=>[(p.block,Bl t full)]
structure OS(a:Option Addr)(n c s:Nat)(full l:List Value):Prop where
 zero:∀p,a=some p->p=⟨p.block,0,none⟩
 none':a=none->c=0
 len:full.length=c*s
 le:n<=c
 pre:full.take (n*s)=l
theorem OS.nil{s:Nat}:OS none 0 0 s [] []:=⟨(fun _ h=>by cases h),fun _=>rfl,by simp,qam _,by simp⟩
theorem OS.llen{a:Option Addr}{n c s:Nat}{full l:List Value}(h:OS a n c s full l):l.length=n*s:=by
 rw[<-h.pre,qbb,h.len];exact qcg (qcc _ h.le)
theorem OS.form{a:Option Addr}{n c s:Nat}{full l:List Value}(h:OS a n c s full l)(hn:0<n):∃b,a=some ⟨b,0,none⟩:=by
 cases a with
 |none=>have:=h.none' rfl;have:=h.le;omega
 |some p=>exact⟨p.block,by rw[<-h.zero p rfl]⟩
theorem OS.split{a:Option Addr}{n c s:Nat}{full l:List Value}(h:OS a n c s full l):full=l++full.drop (n*s):=by
 rw[<-h.pre,qbq]
theorem Aiw{a:Option Addr}{t:TypeId}{full:List Value}{b:Nat}(h:a=some ⟨b,0,none⟩):ent a t full=[(b,Bl t full)]:=by subst h;rfl
theorem OS.rd{α:Type}{w:World}{a:Option Addr}{n c s:Nat}{t:TypeId}{full:List Value}{enc:α->List Value}{xs:List α}(h:OS a n c s full (xs.flatMap enc))(hb:∀x∈ent a t full,w.heap[x.1]?=some x.2)(hs:∀x∈xs,(enc x).length=s)(h0:0<s):Rd w a s enc xs:=by
 cases a with
 |none =>
  cases xs with
  |nil=>exact Rd.nil
  |cons x xs =>
   exfalso;have h1:=h.llen;have h2:=h.none' rfl;have h3:=h.le;have h4:n=0:=by omega
   have h5:=hs x (by simp);subst h4;simp only[qbz,qat,qc0]at h1;omega
 |some p =>
  have hz:=h.zero p rfl;obtain⟨b,o,sp⟩:=p;simp only[Addr.mk.injEq,true_and]at hz;obtain⟨rfl,rfl⟩:=hz;exact Rd.of_bl (r:=full.drop (n*s)) (hb (b,Bl t full) (by simp[ent])) h.split hs
theorem Ctx.callEnt{w0 w w':World}{S:List Nat}{L E:List (Nat × Obj)}(H:Ctx w0 S w L)(he:Ext [] w w')(hb:∀x∈E,w'.heap[x.1]?=some x.2/\w.heap.size<=x.1)(hp:E.Pairwise fun x y=>x.1≠y.1) :
  Ctx w0 S w' (L++E):=by
 have H':=H.call he;refine⟨H'.ext,?_,?_,?_⟩
 .intro x hx
  rcases qbc.1 hx with hx|hx
  .exact H'.blk x hx
  .exact(hb x hx).1
 .rw[qcd];refine⟨H.nd,hp,fun x hx y hy=>?_⟩;have h1:=Bd (H.blk x hx);have h2:=(hb y hy).2;omega
 .intro x hx
  rcases qbc.1 hx with hx|hx
  .exact H.own x hx
  .exact .inr (qa6 H.size (hb x hx).2)
theorem Ctx.perm{w0 w:World}{S:List Nat}{L L':List (Nat × Obj)}(H:Ctx w0 S w L)(hp:L.Perm L'):Ctx w0 S w L' :=
 H.sub (fun _ hx=>hp.mem_iff.2 hx) (hp.pairwise H.nd (fun h=>Ne.symm h))
theorem Ctx.comm{w0 w:World}{S:List Nat}{L L':List (Nat × Obj)}(H:Ctx w0 S w (L++L')):Ctx w0 S w (L'++L):=H.perm qcv
theorem Ctx.left{w0 w:World}{S:List Nat}{L L':List (Nat × Obj)}(H:Ctx w0 S w (L++L')):Ctx w0 S w L :=
 H.sub (fun _ hx=>qao _ hx) (qcd.1 H.nd).1
theorem Ctx.right{w0 w:World}{S:List Nat}{L L':List (Nat × Obj)}(H:Ctx w0 S w (L++L')):Ctx w0 S w L' :=
 H.sub (fun _ hx=>qaf _ hx) (qcd.1 H.nd).2.1
theorem Sd(need:Nat):∀(k c:Nat),c<=2*need+768->Builtin.growBy need k c<=2*need+768
 |0,c,h=>h
 |k+1,c,h=>by
  unfold Builtin.growBy
  split
  .exact h
  .exact Sd need k _ (by omega)
theorem JG(need c:Nat)(h:c<need):Builtin.nextslicecap need c<=2*need+768:=by
 unfold Builtin.nextslicecap
 split
 .omega
 .split
  .omega
  .exact Sd need 4 c (by omega)
theorem FI(z:Array Value)(n:Nat):(Builtin.zeroCells z n).size=n*z.size:=by simp[Builtin.zeroCells]
section
variable {P:Program}{w w0:World}{S:List Nat}{L:List (Nat × Obj)}
theorem CR{s m:Nat}{a:Option Addr}{c k:Nat}{l:List Value}(hl:l.length=m*s)(hc:∀j v,l[j]?=some v->∃p,a=some p/\w.cell? (p.add j)=some v) :
  (Builtin.firstCells s m (.slice a c k)).run P w=.ok l.toArray w:=by
 cases a with
 |none =>
  have h0:l=[]:=by
   cases l with
   |nil=>rfl
   |cons v l=>obtain⟨p,hp,_⟩:=hc 0 v rfl;cases hp
  subst h0;simp[Builtin.firstCells]
 |some p =>
  have h:=N6 (P:=P) (w:=w) (p:=p) l 0 #[] (fun j v hv=>by
   obtain⟨q,hq,hv⟩:=hc j v hv
   injection hq with hq
   subst hq
   rwa [qaz])
  rw[hl]at h;simp[Builtin.firstCells,loadCells,h]
theorem WR{t t2 el el2 ty:TypeId}{s by':Nat}{zl:List Value}(hu:C1 P t=some el)(hu2:C1 P t2=some el2)(hs:Ce P el=some s)(hby:DC P el=some by')(hz:Cd P el=some zl)(hzl:zl.length=s)(hpos:0<by'){a a2:Option Addr}{n c m c2:Nat}{full l new:List Value}(H:Ctx w0 S w (L++ent a el full))(O:OS a n c s full l)(hn:new.length=m*s)(h1:∀v∈new,AY v=true)(hc:∀j v,new[j]?=some v->∃p,a2=some p/\w.cell? (p.add j)=some v)(hbound:(2*(n+m)+768)*by'<=281474976710656) :
  ∃a' c' full' w',(Builtin.append_ #[t,t2] ty #[.slice a n c,.slice a2 m c2]).run P w=.ok (.slice a' (n+m) c') w'/\Ctx w0 S w' (L++ent a' el full')/\OS a' (n+m) c' s full' (l++new):=by
 have hfc:=CR (P:=P) (w:=w) (s:=s) (m:=m) (a:=a2) (c:=m) (k:=c2) hn hc
 by_cases hfit:n+m<=c
 ·-- in place
  cases a with
  |none =>
   have h0:=O.none' rfl;have hm:m=0:=by omega
   have hn0:n=0:=by omega
   subst hm hn0 h0;have hnew:new=[]:=qb0 (by omega);have hl:l=[]:=qb0 (by have:=O.llen;omega);have hfull:full=[]:=qb0 (by have:=O.len;omega);subst hnew hl hfull;refine⟨none,0,[],w,?_,H,OS.nil⟩;simp[Builtin.append_,AO (Cx hu),AO (Cx hu2),C6 hs,Builtin.lenOf,hfc]
  |some p =>
   have hp:=O.zero p rfl;obtain⟨b,o,sp⟩:=p;simp only[Addr.mk.injEq,true_and]at hp;obtain⟨rfl,rfl⟩:=hp;have hk:(L++ent (some ⟨b,0,none⟩) el full)[L.length]?=some (b,Bl el full):=by simp[ent]
   have hb:=H.get hk;have hmul:(n+m)*s<=c*s:=qcc _ hfit;have hadd:(n+m)*s=n*s+m*s:=qbj _ _ _;obtain⟨w',hr,he,hb'⟩:=EP (P:=P) (o:=n*s) new full w 0 h1 hb (by rw[O.len];omega);have hwr:=H.turn hk _ he hb';rw[show(L++ent (some ⟨b,0,none⟩) el full).set L.length (b,Bl el (over full (n*s+0) new))=L++ent (some ⟨b,0,none⟩) el (over full (n*s) new)from by simp[ent]]at hwr;refine⟨some ⟨b,0,none⟩,c,over full (n*s) new,w',?_,hwr,?_⟩
   .have hst:(storeCells (Addr.add ⟨b,0,none⟩ (n*s)) new).run P w=.ok () w':=by
     rw[add_none,qaz];exact hr
    simp[Builtin.append_,AO (Cx hu),AO (Cx hu2),C6 hs,Builtin.lenOf,hfc,hfit,hst]
   .refine⟨fun q hq=>by injection hq with hq;subst hq;rfl,(fun h=>by cases h),by rw[DF];exact O.len,hfit,?_⟩;have hsp:=O.split;have hll:=O.llen;have htl:(full.drop (n*s)).length=c*s - n*s:=by rw[qc1,O.len]
    have hcut:full.drop (n*s)=(full.drop (n*s)).take (m*s)++(full.drop (n*s)).drop (m*s):=by rw[qbq]
    have hover:∀(vs a b c:List Value),b.length=vs.length->over (a++b++c) a.length vs=a++vs++c:=by
     intro vs
     induction vs with
     |nil=>intro a b c hb;have:b=[]:=qb0 (by simpa using hb);subst this;simp[over]
     |cons v vs ih =>
      intro a b c hb
      cases b with
      |nil=>simp at hb
      |cons x b =>
       have:=ih (a++[v]) b c (by simpa using hb);simp only[over];rw[show(a++x::b++c).set a.length v=a++[v]++b++c from by simp];rw[show a.length+1=(a++[v]).length from by simp,this];simp
    have hgoal:over full (n*s) new=l++new++(full.drop (n*s)).drop (m*s):=by
     have h4:=hover new l ((full.drop (n*s)).take (m*s)) ((full.drop (n*s)).drop (m*s)) (by rw[qbb,htl,hn];omega);rw[qas,<-hcut,<-hsp,hll]at h4;exact h4
    rw[hgoal,qch (by rw[qat,hll,hn];omega)]
 ·-- a new block
  have hfit':c<n+m:=by omega
  have hncap:=JG (n+m) c hfit'
  have hbig:¬(281474976710656:Int)<((Builtin.nextslicecap (n+m) c*by':Nat):Int):=by
   have:Builtin.nextslicecap (n+m) c*by'<=(2*(n+m)+768)*by':=qcc _ hncap
   omega
  have hnm:n+m<=281474976710656:=by
   have h1:(2*(n+m)+768)*1<=(2*(n+m)+768)*by':=qd6 _ hpos
   omega
  -- the capacity that is drawn
  generalize hq:(Question.appendCap (n+m) c el).cut (w.tape w.drawn (Question.appendCap (n+m) c el))=cap;have hcap:n+m<=cap:=by rw[<-hq];unfold Question.cut;exact qel _ _
  obtain⟨zv,hzr,hzc⟩:=G4 (P:=P) hz w.drew;have hzs:zv.cells.size=s:=by rw[<-hzl,<-hzc];simp
  let full':=l++new++(Builtin.zeroCells zv.cells (cap - (n+m))).toList
  have hH:Ctx w0 S (w.drew.alloc (Bl el full')) ((w.drew.heap.size,Bl el full')::L):=by
   have:=(H.left.drew).alloc (Bl el full');exact this
  refine⟨some ⟨w.drew.heap.size,0,none⟩,cap,full',w.drew.alloc (Bl el full'),?_,?_,?_⟩
  .have hforced:(Question.appendCap (n+m) c el).forced=false:=rfl
   have hby2:∃i,P.info? el=some i/\i.bytes=by':=by
    unfold DC at hby
    cases hi:P.info? el with
    |none=>rw[hi]at hby;cases hby
    |some i=>rw[hi]at hby;simp at hby;exact⟨i,rfl,hby⟩
   obtain⟨i,hi,hib⟩:=hby2;have hti:∀w,(typeInfo el).run P w=.ok i w:=fun w=>by simp[typeInfo,program,Sem.run,hi]
   have hold':(Builtin.firstCells s n (.slice a n c)).run P w.drew=.ok l.toArray w.drew:=by
    refine CR (O.llen) (fun j v hv=>?_);have hjl:j<l.length:=(qa8.1 hv).1
    have hn0:0<n:=by
     rcases qc8 n with h|h
     .have h5:=O.llen;rw[h,qc0]at h5;omega
     .exact h
    obtain⟨b,rfl⟩:=O.form hn0;refine⟨_,rfl,?_⟩;have hk:(L++ent (some ⟨b,0,none⟩) el full)[L.length]?=some (b,Bl el full):=by simp[ent]
    show w.cell? _=_;rw[add_none,qaz,Aj (H.get hk),O.split,qcb hjl];exact hv
   have hfc':(Builtin.firstCells s m (.slice a2 m c2)).run P w.drew=.ok new.toArray w.drew:=CR hn hc;have hroom:∀k w,(askRoom k).run P w=.ok () w:=fun k w=>by unfold askRoom;split <;> rfl
   have hby0:¬by'=0:=by omega
   have hnn:(Builtin.append_ #[t,t2] ty #[.slice a n c,.slice a2 m c2]).run P w=.ok (.slice (some ⟨w.drew.heap.size,0,none⟩) (n+m) cap) (w.drew.alloc (.cells (l.toArray++(new.toArray++Builtin.zeroCells zv.cells (cap - (n+m)))) el)):=by
    have hb3:¬281474976710656<Builtin.nextslicecap (n+m) c*by':=by omega
    simp[Builtin.append_,AO (Cx hu),AO (Cx hu2),C6 hs,Builtin.lenOf,hfc',hold',hfit,hti,hib,hb3,hby0,hforced,hq,hroom,hzr,newRow,newObj,Sem.run]
   rw[hnn]
   have harr:l.toArray++(new.toArray++Builtin.zeroCells zv.cells (cap - (n+m)))=full'.toArray:=by
    apply qb4;simp[full']
   rw[harr];rfl
  .exact hH.perm (qcv (l₁:=[(w.drew.heap.size,Bl el full')]) (l₂:=L))
  .refine⟨(fun q hq=>by injection hq with hq;subst hq;rfl),(fun h=>by cases h),?_,hcap,?_⟩
   .show(l++new++(Builtin.zeroCells zv.cells (cap - (n+m))).toList).length=cap*s;rw[qat,qat,O.llen,hn,qd4,FI,hzs,<-qbj,<-qbj]
    congr 1
    omega
   .show(l++new++(Builtin.zeroCells zv.cells (cap - (n+m))).toList).take ((n+m)*s)=l++new;rw[qch (by rw[qat,O.llen,hn,qbj])]
end
section
variable {P:Program}{r:Option Nat}{ops rest:List Oper}{Q:Exit->Env->World->Prop}{e:Env}{w w0:World}{S:List Nat}{L:List (Nat × Obj)}{dst:Option Tmp}{ty:TypeId}{pos:String}{af:Array Edge}{g:Option (Nat × Bool)}
theorem GO{t t2 el el2:TypeId}{x y:Operand}{s by':Nat}{zl:List Value}(hg:AV ⟨dst,.call ⟨.builtin .append,#[x,y],#[t,t2]⟩,ty,pos,af,g⟩ ops e=true)(hu:C1 P t=some el)(hu2:C1 P t2=some el2)(hs:Ce P el=some s)(hby:DC P el=some by')(hz:Cd P el=some zl)(hzl:zl.length=s){a a2:Option Addr}{n c m c2:Nat}{full l:List Value}(new:List Value)(hx:ev e x=.slice a n c)(hy:ev e y=.slice a2 m c2)(H:Ctx w0 S w (L++ent a el full))(O:OS a n c s full l)(hn:new.length=m*s)(h1:∀v∈new,AY v=true)(hc:∀j v,new[j]?=some v->∃p,a2=some p/\w.cell? (p.add j)=some v)(h:∀a' c' full' w',Ctx w0 S w' (L++ent a' el full')->OS a' (n+m) c' s full' (l++new)->A7 P r ops Q rest (put e dst (.slice a' (n+m) c')) w')(hpos:0<by':=by decide)(hbound:(2*(n+m)+768)*by'<=281474976710656:=by omega):
  A7 P r ops Q (⟨dst,.call ⟨.builtin .append,#[x,y],#[t,t2]⟩,ty,pos,af,g⟩::rest) e w:=by
 obtain⟨a',c',full',w',hr,H',O'⟩:=WR (ty:=ty) hu hu2 hs hby hz hzl hpos H O hn h1 hc hbound (c2:=c2);exact B7 hg U (by simp[execOp,resolve,invoke,builtin,hx,hy,hr]) (h a' c' full' w' H' O')
theorem Cp{t el:TypeId}{x:Operand}{s:Nat}{zl:List Value}(l:List Value)(v:Value)(hu:C1 P t=some el)(hs:Ce P el=some s)(hz:Cd P el=some zl)(hzl:zl.length=s)(hx:ev e x=v)(hl:v.cells=l.toArray)(hll:l.length=s)(H:Ctx w0 S w L)(h:∀b w',w.heap.size=b->Ctx w0 S w' ((b,Bl el l)::L)->A7 P r ops Q rest (put e dst (.slice (some ⟨b,0,none⟩) 1 1)) w')(hg:AV ⟨dst,.buildSlice t 1 #[(0,x)],ty,pos,af,g⟩ ops e=true:=by exact U)(hs0:0<s:=by decide)(hs1:s<=16777216:=by decide):
  A7 P r ops Q (⟨dst,.buildSlice t 1 #[(0,x)],ty,pos,af,g⟩::rest) e w:=by
 obtain⟨z,hz1,hz2⟩:=G4 hz w;have hzs:z.cells.size=s:=by rw[<-hzl,<-hz2];simp
 refine B7 (w':=w.alloc (Bl el l)) (v := .slice (some ⟨w.heap.size,0,none⟩) 1 1) hg U ?_ (h _ _ U (H.alloc _))
 have hfill:∀cs:Array Value,cs.size=s->Instr.fill (fun i=>some (i*s,s)) cs [(0,v)]=some l.toArray:=by
  intro cs hcs
  have hfold:∀(vs:List Value) (k:Nat) (c0:Array Value),c0.size=k+vs.length->(vs.zipIdx k).foldl (fun cs (x:Value × Nat)=>cs.setIfInBounds (0+x.2) x.1) c0=((c0.toList.take k)++vs).toArray:=by
   intro vs
   induction vs with
   |nil=>intro k c0 h;simp only[List.zipIdx_nil,List.foldl_nil,qa0];apply qb4;simp only[List.length_nil]at h;simp;rw[qc2 (by simp;omega)]
   |cons u vs ih =>
    intro k c0 h;simp only[List.zipIdx_cons,qc9];rw[ih (k+1) _ (by simp at h |-;omega)]
    congr 1
    simp only[qaz,Array.toList_setIfInBounds];have hk:k<c0.toList.length:=by simp at h |-;omega
    rw[List.take_set,List.take_succ_eq_append_getElem hk];simp[List.set_append];rw[if_neg (by simp at h;omega)];have:k - min k c0.size=0:=by simp at h;omega
    rw[this];simp
  have h2:=hfold l 0 cs (by omega);simp only[Instr.fill,hl,List.size_toArray,hll,qc0,qaz,hcs];rw[if_neg (by simp)]
  have h3:Array.foldl (fun cs (x:Value × Nat)=>cs.setIfInBounds (0+x.2) x.1) cs l.toArray.zipIdx=(l.zipIdx 0).foldl (fun cs (x:Value × Nat)=>cs.setIfInBounds (0+x.2) x.1) cs:=by
   rw[<-Array.foldl_toList];simp
  simp only[qaz]at h2 h3;rw[h3,h2];simp
 have hne:¬s=0:=by omega
 have hbig:¬16777216<s:=by omega
 simp[execOp,Instr.buildSlice,AO (Cx hu),C6 hs,hne,hbig,hz1,hx,hfill,newRow,newObj,Sem.run];rfl
theorem HY{t el:TypeId}{x y:Operand}{by':Nat}{z:Value}{k k2:IntKind}{i j:Int}(hu:C1 P t=some el)(hs:Ce P el=some 1)(hby:DC P el=some by')(hz:Cd P el=some [z])(hx:ev e x=.int k i)(hy:ev e y=.int k2 j)(H:Ctx w0 S w L)(h:∀b w',w.heap.size=b->Ctx w0 S w' ((b,Bl el (List.replicate j.toNat z))::L)->A7 P r ops Q rest (put e dst (.slice (some ⟨b,0,none⟩) i.toNat j.toNat)) w')(hg:AV ⟨dst,.makeSlice t x y,ty,pos,af,g⟩ ops e=true:=by exact U)(h0:0<=i:=by omega)(h1:i<=j:=by omega)(h2:by'*j<=281474976710656:=by omega)(h3:j<=9223372036854775807:=by omega):
  A7 P r ops Q (⟨dst,.makeSlice t x y,ty,pos,af,g⟩::rest) e w:=by
 obtain⟨zv,hz1,hz2⟩:=G4 hz w
 have hzs:zv.cells.size=1:=by
  have:zv.cells.toList.length=1:=by rw[hz2];rfl
  simpa using this
 have hby2:∃i,P.info? el=some i/\i.bytes=by':=by
  unfold DC at hby
  cases hi:P.info? el with
  |none=>rw[hi]at hby;cases hby
  |some i=>rw[hi]at hby;simp at hby;exact⟨i,rfl,hby⟩
 obtain⟨inf,hi,hib⟩:=hby2;have hti:∀w,(typeInfo el).run P w=.ok inf w:=fun w=>by simp[typeInfo,program,Sem.run,hi]
 have hw1:IntKind.i64.wrap i=i:=Dm (k := .i64) (by simp[IntKind.min,IntKind.signed,IntKind.bits];omega) (by simp[IntKind.max,IntKind.signed,IntKind.bits];omega);have hw2:IntKind.i64.wrap j=j:=Dm (k := .i64) (by simp[IntKind.min,IntKind.signed,IntKind.bits];omega) (by simp[IntKind.max,IntKind.signed,IntKind.bits];omega);have hroom:∀k w,(askRoom k).run P w=.ok () w:=fun k w=>by unfold askRoom;split <;> rfl
 refine B7 (w':=w.alloc (Bl el (List.replicate j.toNat z))) (v := .slice (some ⟨w.heap.size,0,none⟩) i.toNat j.toNat) hg U ?_ (h _ _ U (H.alloc _));have hn1:¬j<0:=by omega
 have hn2:¬(281474976710656<(by':Int)*j):=by omega
 have hn3:¬i<0:=by omega
 have hn4:¬j<i:=by omega
 have hcells:(Array.range j.toNat).map (fun q=>zv.cells[q % zv.cells.size]!)=(List.replicate j.toNat z).toArray:=by
  apply Array.ext
  .simp
  .intro q h1 h2;simp only[hzs,Nat.mod_one,Array.getElem_map,List.getElem_toArray,List.getElem_replicate];have:zv.cells=#[z]:=by apply qb4;rw[hz2]
   rw[this];rfl
 by_cases hj:j.toNat=0
 .have hj0:j=0:=by omega
  have hi0:i=0:=by omega
  subst hj0 hi0;simp[execOp,Instr.makeSlice,AO (Cx hu),hx,hy,asInt,asIntOf,hti,hw2,hroom,C6 hs,newRow,newObj,Sem.run];have hr0:(Array.range 0)=(#[]:Array Nat):=by apply qb4;simp
  rw[hr0,Array.map_empty];rfl
 .simp[execOp,Instr.makeSlice,AO (Cx hu),hx,hy,asInt,asIntOf,hti,hib,hw1,hw2,hn1,hn2,hn3,hn4,hroom,C6 hs,hj,hz1,newRow,newObj,Sem.run];rw[hcells];rfl
theorem T8{P:Program}{w:World}{k:IntKind}{i:Int}{y:Nat}{code:BoundsCode}(h0:0<=i)(h1:i<=y):(Instr.sliceBound (.int k i) y code).run P w=.ok i.toNat w:=by
 simp[Instr.sliceBound,asIntOf,h0,h1]
def MG(a:Option Addr)(c i s:Nat):Option Addr:=if c=i then a else a.map (·.add (i*s))
theorem Ow{t el:TypeId}{x y:Operand}{s:Nat}{a:Option Addr}{n c:Nat}{k:IntKind}{i:Int}(hg:AV ⟨dst,.slice t x (some y) none none,ty,pos,af,g⟩ ops e=true)(hu:C1 P t=some el)(hs:Ce P el=some s)(hx:ev e x=.slice a n c)(hy:ev e y=.int k i)(h:A7 P r ops Q rest (put e dst (.slice (MG a c i.toNat s) (n - i.toNat) (c - i.toNat))) w)(h0:0<=i:=by omega)(h1:i<=n:=by omega):
  A7 P r ops Q (⟨dst,.slice t x (some y) none none,ty,pos,af,g⟩::rest) e w :=
 B7 hg rfl (by simp[execOp,Instr.sliceAt,Instr.slice,Instr.sliceBounds,AO (Cx hu),hx,hy,T8 h0 h1,C6 hs,MG]) h
theorem KD{t el:TypeId}{x y:Operand}{s:Nat}{a:Option Addr}{n c:Nat}{k:IntKind}{j:Int}(hg:AV ⟨dst,.slice t x none (some y) none,ty,pos,af,g⟩ ops e=true)(hu:C1 P t=some el)(hs:Ce P el=some s)(hx:ev e x=.slice a n c)(hy:ev e y=.int k j)(h:A7 P r ops Q rest (put e dst (.slice a j.toNat c)) w)(h0:0<=j:=by omega)(h1:j<=c:=by omega):
  A7 P r ops Q (⟨dst,.slice t x none (some y) none,ty,pos,af,g⟩::rest) e w :=
 B7 hg rfl (by
  have:∀a:Option Addr,(if c=0 then a else a.map (·.add (0*s)))=a:=by
   intro a;split
   .rfl
   .cases a with
    |none=>rfl
    |some p=>simp[Addr.add]
  simp[execOp,Instr.sliceAt,Instr.slice,Instr.sliceBounds,AO (Cx hu),hx,hy,T8 h0 h1,C6 hs]
  simpa using this a) h
theorem Rz{t el:TypeId}{x y z:Operand}{s:Nat}{a:Option Addr}{n c:Nat}{k k2:IntKind}{i j:Int}(hg:AV ⟨dst,.slice t x (some y) (some z) none,ty,pos,af,g⟩ ops e=true)(hu:C1 P t=some el)(hs:Ce P el=some s)(hx:ev e x=.slice a n c)(hy:ev e y=.int k i)(hz:ev e z=.int k2 j)(h:A7 P r ops Q rest (put e dst (.slice (MG a c i.toNat s) (j.toNat - i.toNat) (c - i.toNat))) w)(h0:0<=i:=by omega)(h1:i<=j:=by omega)(h2:j<=c:=by omega):
  A7 P r ops Q (⟨dst,.slice t x (some y) (some z) none,ty,pos,af,g⟩::rest) e w :=
 B7 hg rfl (by
  have h3:i<=(j.toNat:Nat):=by omega
  simp[execOp,Instr.sliceAt,Instr.slice,Instr.sliceBounds,AO (Cx hu),hx,hy,hz,T8 (show 0<=j from by omega) h2,T8 h0 h3,C6 hs,MG]) h
theorem ZD{P:Program}{t el:TypeId}(hu:C1 P t=some el)(d:Nat)(a:Option Addr)(n c c2:Nat)(w:World) :
  (Op.equalIn (d+1) t (.slice a n c) (.slice none 0 c2)).run P w=.ok a.isNone w:=by
 cases a <;> simp[Op.equalIn,AO (Cx hu)]
theorem WS{P:Program}{t el:TypeId}(hu:C1 P t=some el)(a:Option Addr)(n c c2:Nat)(w:World):(binOp .eql t (.slice a n c) (.slice none 0 c2)).run P w=.ok (.bool a.isNone) w:=by
 simp only[binOp,Sem.run_bind,Op.equal,Op.maxDepth,ZD hu 9999];cases a <;> rfl
theorem Ih{t t2:TypeId}{x:Operand}{a:Option Addr}{n c c2:Nat}{el:TypeId}(hg:AV ⟨dst,.binOp .eql t x (.const (.slice none 0 c2)) t2,ty,pos,af,g⟩ ops e=true)(hu:C1 P t=some el)(hx:ev e x=.slice a n c)(h:A7 P r ops Q rest (put e dst (.bool a.isNone)) w):A7 P r ops Q (⟨dst,.binOp .eql t x (.const (.slice none 0 c2)) t2,ty,pos,af,g⟩::rest) e w :=
 B7 hg rfl (by
  have hq:eqGuard .eql t x (.const (.slice none 0 c2)) (.slice a n c) (.slice none 0 c2)=pure ():=rfl;have he:ev e (.const (.slice none 0 c2))=.slice none 0 c2:=rfl
  simp only[execOp,hx,he,hq,Sem.run_bind,Sem.run_pure,Result.andThen_ok,WS hu]) h
end
section
variable {P:Program}{r:Option Nat}{ops rest:List Oper}{Q:Exit->Env->World->Prop}{e:Env}{w w0:World}{S:List Nat}{L:List (Nat × Obj)}{dst:Option Tmp}{ty:TypeId}{pos:String}{af:Array Edge}{g:Option (Nat × Bool)}{C:World->Prop}{K:Env->Prop}
theorem Et{o:Oper}{v:Value}(hg:AV o ops e=true)(hrun:∀w,C w->(execOp (ev e) o).run P w=.ok (.value v) w)(h:Wq P ops C K rest (put e o.dst v)):Wq P ops C K (o::rest) e:=by
 unfold Wq;rw[if_pos hg];exact⟨v,fun w hw=>by rw[hrun w hw];exact⟨rfl,rfl⟩,h⟩
theorem A3{o:Oper}(hg:AV o ops e=false)(h:Wq P ops C K rest (put e o.dst undef)):Wq P ops C K (o::rest) e:=by
 unfold Wq;rw[if_neg (by rw[hg];simp)];exact h
theorem BS(h:K e):Wq P ops C K [] e:=h
theorem UK{l:List Oper}(d:Tmp){b:Bool}(c:Bool)(hd:e.g d=.bool b)(hb:b=c)(h:Wq P ops C K l (put e (some d) (.bool c))):Wq P ops C K l e:=by
 subst hb;rw[G3 hd]at h;exact h
theorem DK{l:List Oper}(d:Tmp){b:Bool}(hd:e.g d=.bool b)(h1:b=true->Wq P ops C K l (put e (some d) (.bool true)))(h2:b=false->Wq P ops C K l (put e (some d) (.bool false))):Wq P ops C K l e:=by
 cases b with
 |true=>exact UK d true hd rfl (h1 rfl)
 |false=>exact UK d false hd rfl (h2 rfl)
theorem BX{t:TypeId}{x:Operand}{p:Addr}{v:Value}(ha:Dt P t=some false)(hx:ev e x=.pointer (some p))(hc:∀w,C w->w.cell? p=some v)(h:Wq P ops C K rest (put e dst v))(hg:AV ⟨dst,.load t x,ty,pos,af,g⟩ ops e=true:=by exact U):Wq P ops C K (⟨dst,.load t x,ty,pos,af,g⟩::rest) e :=
 Et hg (fun w hw=>by simp[execOp,hx,Instr.loadAt,Instr.sureAddr,Gw ha (hc w hw)]) h
theorem Cj{t t2:TypeId}{x:Operand}{b i k:Nat}{l:List Value}{v:Value}(ha:Dt P t=some false)(hx:ev e x=.pointer (some ⟨b,i,none⟩))(H:∀w,C w->Ctx w0 S w L)(hk:L[k]?=some (b,Bl t2 l))(hc:l[i]?=some v)(h:Wq P ops C K rest (put e dst v))(hg:AV ⟨dst,.load t x,ty,pos,af,g⟩ ops e=true:=by exact U):Wq P ops C K (⟨dst,.load t x,ty,pos,af,g⟩::rest) e :=
 BX (hg:=hg) ha hx (fun w hw=>by rw[Aj ((H w hw).get hk)];exact hc) h
theorem G8{t:TypeId}{x:Operand}{b o s:Nat}(l:List Value)(ha:Dt P t=some true)(hs:Ce P t=some s)(hx:ev e x=.pointer (some ⟨b,o,none⟩))(hl:l.length=s)(hc:∀w,C w->∀j v,l[j]?=some v->w.cell? ⟨b,o+j,none⟩=some v)(h:Wq P ops C K rest (put e dst (.agg l.toArray)))(hg:AV ⟨dst,.load t x,ty,pos,af,g⟩ ops e=true:=by exact U):Wq P ops C K (⟨dst,.load t x,ty,pos,af,g⟩::rest) e :=
 Et hg (fun w hw=>by simp[execOp,hx,Instr.loadAt,Instr.sureAddr,FH ha hs hl (hc w hw)]) h
theorem N8{t t2:TypeId}{x:Operand}{b s k:Nat}{l:List Value}(hg:AV ⟨dst,.load t x,ty,pos,af,g⟩ ops e=true)(ha:Dt P t=some true)(hs:Ce P t=some s)(hx:ev e x=.pointer (some ⟨b,0,none⟩))(H:∀w,C w->Ctx w0 S w L)(hk:L[k]?=some (b,Bl t2 l))(hl:l.length=s)(h:Wq P ops C K rest (put e dst (.agg l.toArray))):Wq P ops C K (⟨dst,.load t x,ty,pos,af,g⟩::rest) e :=
 G8 l (hg:=hg) ha hs hx hl (fun w hw j v hv=>by rw[Aj ((H w hw).get hk),qaz];exact hv) h
section
variable {t t2:TypeId}{x y:Operand}{k:IntKind}{a b:Int}
theorem LO(hx:ev e x=.int k a)(hy:ev e y=.int k b)(h:Wq P ops C K rest (put e dst (.bool (decide (a<b)))))(hg:AV ⟨dst,.binOp .lss t x y t2,ty,pos,af,g⟩ ops e=true:=by exact U):
  Wq P ops C K (⟨dst,.binOp .lss t x y t2,ty,pos,af,g⟩::rest) e:=Et hg (fun w _=>Ch hx hy (by simp[binOp,Op.intCmp])) h
theorem PS(hx:ev e x=.int k a)(hy:ev e y=.int k b)(h:Wq P ops C K rest (put e dst (.bool (decide (a<=b)))))(hg:AV ⟨dst,.binOp .leq t x y t2,ty,pos,af,g⟩ ops e=true:=by exact U):
  Wq P ops C K (⟨dst,.binOp .leq t x y t2,ty,pos,af,g⟩::rest) e:=Et hg (fun w _=>Ch hx hy (by simp[binOp,Op.intCmp])) h
theorem Se(hg:AV ⟨dst,.binOp .gtr t x y t2,ty,pos,af,g⟩ ops e=true)(hx:ev e x=.int k a)(hy:ev e y=.int k b)(h:Wq P ops C K rest (put e dst (.bool (decide (b<a))))) :
  Wq P ops C K (⟨dst,.binOp .gtr t x y t2,ty,pos,af,g⟩::rest) e:=Et hg (fun w _=>Ch hx hy (by simp[binOp,Op.intCmp])) h
theorem Alr(hg:AV ⟨dst,.binOp .geq t x y t2,ty,pos,af,g⟩ ops e=true)(hx:ev e x=.int k a)(hy:ev e y=.int k b)(h:Wq P ops C K rest (put e dst (.bool (decide (b<=a))))) :
  Wq P ops C K (⟨dst,.binOp .geq t x y t2,ty,pos,af,g⟩::rest) e:=Et hg (fun w _=>Ch hx hy (by simp[binOp,Op.intCmp])) h
theorem Als(hg:AV ⟨dst,.binOp .eql t x y t2,ty,pos,af,g⟩ ops e=true)(hx:ev e x=.int k a)(hy:ev e y=.int k b)(h:Wq P ops C K rest (put e dst (.bool (decide (a=b))))) :
  Wq P ops C K (⟨dst,.binOp .eql t x y t2,ty,pos,af,g⟩::rest) e :=
 Et hg (fun w _=>Ch hx hy (v := .bool (decide (a=b))) (by simp[binOp,Op.intCmp];rfl)) h
theorem Ox(hx:ev e x=.int k a)(hy:ev e y=.int k b)(h:Wq P ops C K rest (put e dst (.bool (!decide (a=b)))))(hg:AV ⟨dst,.binOp .neq t x y t2,ty,pos,af,g⟩ ops e=true:=by exact U):
  Wq P ops C K (⟨dst,.binOp .neq t x y t2,ty,pos,af,g⟩::rest) e :=
 Et hg (fun w _=>Ch hx hy (v := .bool (!decide (a=b))) (by simp[binOp,Op.intCmp];rfl)) h
theorem Aix{x y:Operand}{a b:Bool}{t t2:TypeId}(ht:P.underlying t=some .bool)(hg:AV ⟨dst,.binOp .neq t x y t2,ty,pos,af,g⟩ ops e=true)(hx:ev e x=.bool a)(hy:ev e y=.bool b)(h:A7 P r ops Q rest (put e dst (.bool (!(a == b)))) w) :
  A7 P r ops Q (⟨dst,.binOp .neq t x y t2,ty,pos,af,g⟩::rest) e w:=by
 refine B7 hg U ?_ h;have hq:eqGuard .neq t x y (.bool a) (.bool b)=pure ():=rfl;have he:∀d w,(Op.equalIn (d+1) t (.bool a) (.bool b)).run P w=.ok (a == b) w:=fun d w=>by simp[Op.equalIn,AO ht]
 simp only[execOp,hx,hy,hq,Sem.run_bind,Sem.run_pure,Result.andThen_ok,binOp,Op.equal,Op.maxDepth,he 9999]
theorem Az(hx:ev e x=.int .i64 a)(hy:ev e y=.int .i64 b)(h:A7 P r ops Q rest (put e dst (.int .i64 (a+b))) w)(hg:AV ⟨dst,.binOp .add t x y t2,ty,pos,af,g⟩ ops e=true:=by exact U)(h1: -9223372036854775808<=a+b:=by omega)(h2:a+b<=9223372036854775807:=by omega):A7 P r ops Q (⟨dst,.binOp .add t x y t2,ty,pos,af,g⟩::rest) e w:=B7 hg rfl (Ch hx hy (by simp[binOp,Op.intArith,Dm (k := .i64) (n:=a+b) h1 h2])) h
theorem D4(hx:ev e x=.int .i64 a)(hy:ev e y=.int .i64 b)(h:Wq P ops C K rest (put e dst (.int .i64 (a+b))))(hg:AV ⟨dst,.binOp .add t x y t2,ty,pos,af,g⟩ ops e=true:=by exact U)(h1: -9223372036854775808<=a+b:=by omega)(h2:a+b<=9223372036854775807:=by omega):Wq P ops C K (⟨dst,.binOp .add t x y t2,ty,pos,af,g⟩::rest) e:=Et hg (fun w _=>Ch hx hy (by simp[binOp,Op.intArith,Dm (k := .i64) (n:=a+b) h1 h2])) h
theorem Bo(hx:ev e x=.int .i64 a)(hy:ev e y=.int .i64 b)(h:A7 P r ops Q rest (put e dst (.int .i64 (a - b))) w)(hg:AV ⟨dst,.binOp .sub t x y t2,ty,pos,af,g⟩ ops e=true:=by exact U)(h1: -9223372036854775808<=a - b:=by omega)(h2:a - b<=9223372036854775807:=by omega):A7 P r ops Q (⟨dst,.binOp .sub t x y t2,ty,pos,af,g⟩::rest) e w:=B7 hg rfl (Ch hx hy (by simp[binOp,Op.intArith,Dm (k := .i64) (n:=a - b) h1 h2])) h
theorem EA(hx:ev e x=.int .i64 a)(hy:ev e y=.int .i64 b)(h:Wq P ops C K rest (put e dst (.int .i64 (a - b))))(hg:AV ⟨dst,.binOp .sub t x y t2,ty,pos,af,g⟩ ops e=true:=by exact U)(h1: -9223372036854775808<=a - b:=by omega)(h2:a - b<=9223372036854775807:=by omega):Wq P ops C K (⟨dst,.binOp .sub t x y t2,ty,pos,af,g⟩::rest) e:=Et hg (fun w _=>Ch hx hy (by simp[binOp,Op.intArith,Dm (k := .i64) (n:=a - b) h1 h2])) h
theorem D0(hx:ev e x=.int .i64 a)(hy:ev e y=.int .i64 b)(h:A7 P r ops Q rest (put e dst (.int .i64 (a*b))) w)(hg:AV ⟨dst,.binOp .mul t x y t2,ty,pos,af,g⟩ ops e=true:=by exact U)(h1: -9223372036854775808<=a*b:=by omega)(h2:a*b<=9223372036854775807:=by omega):A7 P r ops Q (⟨dst,.binOp .mul t x y t2,ty,pos,af,g⟩::rest) e w:=B7 hg rfl (Ch hx hy (by simp[binOp,Op.intArith,Dm (k := .i64) (n:=a*b) h1 h2])) h
theorem ZE(hg:AV ⟨dst,.binOp .mul t x y t2,ty,pos,af,g⟩ ops e=true)(hx:ev e x=.int .i64 a)(hy:ev e y=.int .i64 b)(h:Wq P ops C K rest (put e dst (.int .i64 (a*b))))(h1: -9223372036854775808<=a*b:=by omega)(h2:a*b<=9223372036854775807:=by omega):Wq P ops C K (⟨dst,.binOp .mul t x y t2,ty,pos,af,g⟩::rest) e:=Et hg (fun w _=>Ch hx hy (by simp[binOp,Op.intArith,Dm (k := .i64) (n:=a*b) h1 h2])) h
theorem Me(hg:AV ⟨dst,.unOp .neg t x,ty,pos,af,g⟩ ops e=true)(hx:ev e x=.int .i64 a)(h:A7 P r ops Q rest (put e dst (.int .i64 (- a))) w)(h1: -9223372036854775808 <= - a:=by omega)(h2: - a<=9223372036854775807:=by omega):A7 P r ops Q (⟨dst,.unOp .neg t x,ty,pos,af,g⟩::rest) e w:=Amz hg hx h1 h2 h
theorem Di{s d:TypeId}{ds:TypeDesc}(hx:ev e x=.int k a)(hs:P.underlying s=some ds)(hd:P.underlying d=some (.int .i64))(h:A7 P r ops Q rest (put e dst (.int .i64 a)) w)(hg:AV ⟨dst,.convert s d x,ty,pos,af,g⟩ ops e=true:=by exact U)(h1: -9223372036854775808<=a:=by omega)(h2:a<=9223372036854775807:=by omega):A7 P r ops Q (⟨dst,.convert s d x,ty,pos,af,g⟩::rest) e w:=Pt hg hx hs hd h1 h2 h
theorem ZF(hg:AV ⟨dst,.unOp .neg t x,ty,pos,af,g⟩ ops e=true)(hx:ev e x=.int .i64 a)(h:Wq P ops C K rest (put e dst (.int .i64 (- a))))(h1: -9223372036854775808 <= - a:=by omega)(h2: - a<=9223372036854775807:=by omega):Wq P ops C K (⟨dst,.unOp .neg t x,ty,pos,af,g⟩::rest) e:=Et hg (fun w _=>by simp[execOp,hx,Op.unary,Op.intArith,Dm (k := .i64) h1 h2]) h
theorem Mf{s d:TypeId}{ds:TypeDesc}(hg:AV ⟨dst,.convert s d x,ty,pos,af,g⟩ ops e=true)(hx:ev e x=.int k a)(hs:P.underlying s=some ds)(hd:P.underlying d=some (.int .u8))(h:A7 P r ops Q rest (put e dst (.int .u8 a)) w)(h1:0<=a:=by omega)(h2:a<=255:=by omega):A7 P r ops Q (⟨dst,.convert s d x,ty,pos,af,g⟩::rest) e w:=Pt hg hx hs hd h1 h2 h
theorem UL{s d:TypeId}{ds:TypeDesc}(hg:AV ⟨dst,.convert s d x,ty,pos,af,g⟩ ops e=true)(hx:ev e x=.int k a)(hs:P.underlying s=some ds)(hd:P.underlying d=some (.int .u32))(h2:a<=4294967295)(h:A7 P r ops Q rest (put e dst (.int .u32 a)) w)(h1:0<=a:=by omega):A7 P r ops Q (⟨dst,.convert s d x,ty,pos,af,g⟩::rest) e w:=Pt hg hx hs hd h1 h2 h
theorem EI(hx:ev e x=.int .u64 a)(hy:ev e y=.int .u64 b)(h:A7 P r ops Q rest (put e dst (.int .u64 (a+b))) w)(hg:AV ⟨dst,.binOp .add t x y t2,ty,pos,af,g⟩ ops e=true:=by exact U)(h1:0<=a+b:=by omega)(h2:a+b<=18446744073709551615:=by omega):A7 P r ops Q (⟨dst,.binOp .add t x y t2,ty,pos,af,g⟩::rest) e w:=B7 hg rfl (Ch hx hy (by simp[binOp,Op.intArith,Dm (k := .u64) (n:=a+b) h1 h2])) h
theorem PT(hg:AV ⟨dst,.binOp .sub t x y t2,ty,pos,af,g⟩ ops e=true)(hx:ev e x=.int .u64 a)(hy:ev e y=.int .u64 b)(h:A7 P r ops Q rest (put e dst (.int .u64 (a - b))) w)(h1:0<=a - b:=by omega)(h2:a - b<=18446744073709551615:=by omega):A7 P r ops Q (⟨dst,.binOp .sub t x y t2,ty,pos,af,g⟩::rest) e w:=B7 hg rfl (Ch hx hy (by simp[binOp,Op.intArith,Dm (k := .u64) (n:=a - b) h1 h2])) h
theorem Sf(hg:AV ⟨dst,.binOp .sub t x y t2,ty,pos,af,g⟩ ops e=true)(hx:ev e x=.int .u64 a)(hy:ev e y=.int .u64 b)(h:Wq P ops C K rest (put e dst (.int .u64 (a - b))))(h1:0<=a - b:=by omega)(h2:a - b<=18446744073709551615:=by omega):Wq P ops C K (⟨dst,.binOp .sub t x y t2,ty,pos,af,g⟩::rest) e:=Et hg (fun w _=>Ch hx hy (by simp[binOp,Op.intArith,Dm (k := .u64) (n:=a - b) h1 h2])) h
theorem GP(hg:AV ⟨dst,.binOp .mul t x y t2,ty,pos,af,g⟩ ops e=true)(hx:ev e x=.int .u64 a)(hy:ev e y=.int .u64 b)(h1:0<=a*b)(h2:a*b<=18446744073709551615)(h:A7 P r ops Q rest (put e dst (.int .u64 (a*b))) w):A7 P r ops Q (⟨dst,.binOp .mul t x y t2,ty,pos,af,g⟩::rest) e w:=B7 hg rfl (Ch hx hy (by simp[binOp,Op.intArith,Dm (k := .u64) (n:=a*b) h1 h2])) h
theorem D5{s d:TypeId}{ds:TypeDesc}(hx:ev e x=.int k a)(hs:P.underlying s=some ds)(hd:P.underlying d=some (.int .u64))(h:A7 P r ops Q rest (put e dst (.int .u64 a)) w)(hg:AV ⟨dst,.convert s d x,ty,pos,af,g⟩ ops e=true:=by exact U)(h1:0<=a:=by omega)(h2:a<=18446744073709551615:=by omega):A7 P r ops Q (⟨dst,.convert s d x,ty,pos,af,g⟩::rest) e w:=Pt hg hx hs hd h1 h2 h
end
theorem N9{x:Operand}(hg:AV ⟨dst,.move x,ty,pos,af,g⟩ ops e=true)(v:Value)(hx:ev e x=v)(h:Wq P ops C K rest (put e dst v)) :
  Wq P ops C K (⟨dst,.move x,ty,pos,af,g⟩::rest) e:=Et hg (fun w _=>by simp[execOp,hx]) h
theorem PU{x:Operand}(hg:AV ⟨dst,.assign x,ty,pos,af,g⟩ ops e=true)(v:Value)(hx:ev e x=v)(h:Wq P ops C K rest (put e dst v)) :
  Wq P ops C K (⟨dst,.assign x,ty,pos,af,g⟩::rest) e:=Et hg (fun w _=>by simp[execOp,hx]) h
theorem IQ{c a b:Operand}(hc:ev e c=.bool true)(v:Value)(hx:ev e a=v)(h:Wq P ops C K rest (put e dst v))(hg:AV ⟨dst,.pick c a b,ty,pos,af,g⟩ ops e=true:=by exact U):
  Wq P ops C K (⟨dst,.pick c a b,ty,pos,af,g⟩::rest) e:=Et hg (fun w _=>by simp[execOp,hc,hx,asBool]) h
theorem Gh{c a b:Operand}(hc:ev e c=.bool false)(v:Value)(hx:ev e b=v)(h:Wq P ops C K rest (put e dst v))(hg:AV ⟨dst,.pick c a b,ty,pos,af,g⟩ ops e=true:=by exact U):
  Wq P ops C K (⟨dst,.pick c a b,ty,pos,af,g⟩::rest) e:=Et hg (fun w _=>by simp[execOp,hc,hx,asBool]) h
theorem AZ{x:Operand}{p:Addr}(hx:ev e x=.pointer (some p))(h:Wq P ops C K rest (put e dst (.pointer (some p))))(hg:AV ⟨dst,.nilCheck x,ty,pos,af,g⟩ ops e=true:=by exact U):
  Wq P ops C K (⟨dst,.nilCheck x,ty,pos,af,g⟩::rest) e:=Et hg (fun w _=>by simp[execOp,hx]) h
theorem Bi{t el:TypeId}{x y:Operand}{b o n c s:Nat}{k:IntKind}{i:Int}(hu:C1 P t=some el)(hs:Ce P el=some s)(hx:ev e x=.slice (some ⟨b,o,none⟩) n c)(hy:ev e y=.int k i)(h:Wq P ops C K rest (put e dst (.pointer (some ⟨b,o+i.toNat*s,none⟩))))(hg:AV ⟨dst,.indexAddr t x y,ty,pos,af,g⟩ ops e=true:=by exact U)(h0:0<=i:=by omega)(h1:i<n:=by omega):
  Wq P ops C K (⟨dst,.indexAddr t x y,ty,pos,af,g⟩::rest) e :=
 Et hg (fun w _=>by simp[execOp,hx,hy,Instr.indexAt,asIntOf,AO (Cx hu),h0,h1,C6 hs,add_none]) h
theorem BL{t el:TypeId}{x y:Operand}{a:Option Addr}{n c s:Nat}{k:IntKind}{i:Int}{α:Type}{enc:α->List Value}{xs:List α}{w1:World}(R:Rd w1 a s enc xs)(hu:C1 P t=some el)(hs:Ce P el=some s)(hx:ev e x=.slice a n c)(hy:ev e y=.int k i)(hn:n=xs.length)(h:Wq P ops C K rest (put e dst (.pointer (some ⟨(adr a).block,(adr a).off+i.toNat*s,none⟩))))(hg:AV ⟨dst,.indexAddr t x y,ty,pos,af,g⟩ ops e=true:=by exact U)(h0:0<=i:=by omega)(h1:i<n:=by omega):
  Wq P ops C K (⟨dst,.indexAddr t x y,ty,pos,af,g⟩::rest) e:=by
 obtain⟨b,o,rfl⟩:=R.some' (by rintro rfl;simp at hn;omega);exact Bi (hg:=hg) hu hs hx hy (h0:=h0) (h1:=h1) h
theorem Alt{t:TypeId}{x:Operand}{a:Option Addr}{n c:Nat}{el:TypeId}(hg:AV ⟨dst,.call ⟨.builtin .len,#[x],#[t]⟩,ty,pos,af,g⟩ ops e=true)(hu:C1 P t=some el)(hx:ev e x=.slice a n c)(h:Wq P ops C K rest (put e dst (.int .i64 n))) :
  Wq P ops C K (⟨dst,.call ⟨.builtin .len,#[x],#[t]⟩,ty,pos,af,g⟩::rest) e :=
 Et hg (fun w _=>by simp[execOp,resolve,invoke,builtin,hx,Builtin.len_,AO (Cx hu),goInt]) h
theorem Am0{t1 t2:TypeId}{x y:Operand}{k:IntKind}{a b:Int}(hg:AV ⟨dst,.call ⟨.builtin .min,#[x,y],#[t1,t2]⟩,ty,pos,af,g⟩ ops e=true)(hx:ev e x=.int k a)(hy:ev e y=.int k b)(h:Wq P ops C K rest (put e dst (.int k (min a b)))) :
  Wq P ops C K (⟨dst,.call ⟨.builtin .min,#[x,y],#[t1,t2]⟩,ty,pos,af,g⟩::rest) e :=
 Et hg (fun w _=>by
  have:(if b<a then b else a)=min a b:=by rw[Int.min_def];split <;> split <;> omega
  simp[execOp,resolve,invoke,builtin,hx,hy,Builtin.min_,Builtin.min2,this]) h
theorem A6{t:TypeId}{x:Operand}{i b o off:Nat}(hf:B5 P t i=some off)(hx:ev e x=.pointer (some ⟨b,o,none⟩))(h:Wq P ops C K rest (put e dst (.pointer (some ⟨b,o+off,none⟩))))(hg:AV ⟨dst,.fieldAddr t x i,ty,pos,af,g⟩ ops e=true:=by exact U):
  Wq P ops C K (⟨dst,.fieldAddr t x i,ty,pos,af,g⟩::rest) e:=by
 unfold B5 at hf
 split at hf
 .rename_i fs hu
  split at hf
  .rename_i f hf1
   split at hf
   .rename_i s hs
    injection hf with hf
    subst hf;exact Et hg (fun w _=>by simp[execOp,hx,Instr.fieldAt,AO hu,hf1,Instr.sureAddr,fieldPlace,C6 hs,add_none]) h
   .cases hf
  .cases hf
 .cases hf
theorem Cq{fn:Fn}{cap:Array Operand}(l:List Value)(hl:cap.toList.map (ev e)=l)(h:A7 P r ops Q rest (put e dst (.func fn #[] l.toArray)) w)(hg:AV ⟨dst,.makeFunc fn #[] cap,ty,pos,af,g⟩ ops e=true:=by exact U):
  A7 P r ops Q (⟨dst,.makeFunc fn #[] cap,ty,pos,af,g⟩::rest) e w:=by
 refine UI hg ?_;have:cap.map (ev e)=l.toArray:=by subst hl;apply qb4;simp only[qcu]
 rw[this,Array.map_empty];exact h
theorem Cy{t t2 el el2:TypeId}{x y:Operand}{s by':Nat}{zl:List Value}(hu:C1 P t=some el)(hu2:C1 P t2=some el2)(hs:Ce P el=some s)(hby:DC P el=some by')(hz:Cd P el=some zl)(hzl:zl.length=s){a:Option Addr}{n c m c2 b2:Nat}{t3:TypeId}{full l new:List Value}(hx:ev e x=.slice a n c)(hy:ev e y=.slice (some ⟨b2,0,none⟩) m c2)(H:Ctx w0 S w ((b2,Bl t3 new)::(L++ent a el full)))(O:OS a n c s full l)(hn:new.length=m*s)(h1:∀v∈new,AY v=true)(h:∀a' c' full' w',Ctx w0 S w' (L++ent a' el full')->OS a' (n+m) c' s full' (l++new)->A7 P r ops Q rest (put e dst (.slice a' (n+m) c')) w')(hg:AV ⟨dst,.call ⟨.builtin .append,#[x,y],#[t,t2]⟩,ty,pos,af,g⟩ ops e=true:=by exact U)(hpos:0<by':=by decide)(hbound:(2*(n+m)+768)*by'<=281474976710656:=by omega):
  A7 P r ops Q (⟨dst,.call ⟨.builtin .append,#[x,y],#[t,t2]⟩,ty,pos,af,g⟩::rest) e w :=
 GO hg hu hu2 hs hby hz hzl (hpos:=hpos) new hx hy H.tail O hn h1 (fun j v hv=>⟨_,rfl,by rw[add_none,qaz,Aj (H.get at0)];exact hv⟩) (hbound:=hbound) h
end
section
variable {w0 w w':World}{S:List Nat}{L L1 L2 L1':List (Nat × Obj)}
theorem Ctx.lend(H:Ctx w0 S w (L1++L2)):Ctx w (L1.map (·.1)) w L1 :=
 ⟨Ext.refl _ _,fun x hx=>H.blk x (qao _ hx),(qcd.1 H.nd).1,fun _ hx => .inl (qa4 hx)⟩
theorem Ctx.back(H:Ctx w0 S w (L1++L2))(H':Ctx w (L1.map (·.1)) w' L1'):Ctx w0 S w' (L1'++L2):=by
 have hd:=qcd.1 H.nd
 have hk:∀x∈L1',(∃y∈L1,y.1=x.1)\/w.heap.size<=x.1:=fun x hx=>by
  rcases H'.own x hx with h|h
  .rw[qah]at h;exact .inl h
  .exact .inr h
 have hn2:∀y∈L2,y.1∉L1.map (·.1):=fun y hy hm=>by
  rw[qah]at hm;obtain⟨x,hx,he⟩:=hm;exact hd.2.2 x hx y hy he
 refine⟨H.ext.then H'.ext ?_,?_,?_,?_⟩
 .intro x hx;rw[qah]at hx;obtain⟨y,hy,rfl⟩:=hx;exact H.own y (qao _ hy)
 .intro x hx
  rcases qbc.1 hx with hx|hx
  .exact H'.blk x hx
  .have hb:=H.blk x (qaf _ hx);rw[H'.ext.block x.1 (Bd hb) (hn2 x hx)];exact hb
 .rw[qcd];refine⟨H'.nd,hd.2.1,fun x hx y hy=>?_⟩;have hly:=Bd (H.blk y (qaf _ hy))
  rcases hk x hx with⟨z,hz,he⟩|h
  .rw[<-he];exact hd.2.2 z hz y hy
  .omega
 .intro x hx
  rcases qbc.1 hx with hx|hx
  .rcases hk x hx with⟨z,hz,he⟩|h
   .rw[<-he];exact H.own z (qao _ hz)
   .exact .inr (qa6 H.size h)
  .exact H.own x (qaf _ hx)
theorem Ctx.app_nil(H:Ctx w0 S w L):Ctx w0 S w (L++[]):=by simpa using H
theorem Ctx.nil_app(H:Ctx w0 S w (L++[])):Ctx w0 S w L:=by simpa using H
end
section
variable {w:World}{α:Type}{a:Option Addr}{s:Nat}{enc:α->List Value}{xs:List α}
theorem Rd.row(R:Rd w a s enc xs){i:Nat}{x:α}(hx:xs[i]?=some x)(hs:(enc x).length=s):∀j v,(enc x)[j]?=some v->w.cell? ⟨(adr a).block,(adr a).off+i*s+j,none⟩=some v :=
 fun j v hv=>R.cell i x hx j v hv (by rw[<-hs];exact(qa8.1 hv).1)
theorem Rd.fld(R:Rd w a s enc xs){i j:Nat}{x:α}{v:Value}(hx:xs[i]?=some x)(hs:(enc x).length=s)(hv:(enc x)[j]?=some v):w.cell? ⟨(adr a).block,(adr a).off+i*s+j,none⟩=some v:=R.row hx hs j v hv
theorem Rd.one{f:α->Value}(R:Rd w a 1 (fun x=>[f x]) xs){i:Nat}{x:α}(hx:xs[i]?=some x):w.cell? ⟨(adr a).block,(adr a).off+i*1,none⟩=some (f x):=by
 have:=R.cell i x hx 0 (f x) rfl (by omega)
 simpa using this
theorem Rd.app1{f:α->Value}(R:Rd w a 1 (fun x=>[f x]) xs):∀j v,(xs.map f)[j]?=some v->∃p,a=some p/\w.cell? (p.add j)=some v:=by
 intro j v hv;rw[qa1]at hv
 cases hx:xs[j]? with
 |none=>rw[hx]at hv;cases hv
 |some x =>
  rw[hx]at hv
  injection hv with hv
  subst hv;obtain⟨b,o,rfl⟩:=R.some' (by rintro rfl;simp at hx);refine⟨_,rfl,?_⟩;rw[add_none];have:=R.one hx
  simpa[adr]using this
theorem UM(hs:∀x∈xs,(enc x).length=s)(h0:0<s):∀j,(xs.flatMap enc)[j]? = (xs[j / s]?).bind fun x=>(enc x)[j % s]? := by
 induction xs with
 |nil=>intro j;simp
 |cons x xs ih =>
  intro j;have hx:=hs x (by simp);have ih:=ih (fun y hy=>hs y (by simp[hy]));simp only[qbz]
  by_cases hj:j<s
  .rw[qcb (by omega),Nat.div_eq_of_lt hj,qbr hj];rfl
  .rw[qbv (by omega),hx,ih];have h1:j / s=(j - s) / s+1:=by rw[Nat.div_eq_sub_div h0 (by omega)]
   have h2:j % s=(j - s) % s:=by rw[Nat.mod_eq_sub_mod (by omega)]
   rw[h1,h2];rfl
theorem Rd.app(R:Rd w a s enc xs)(hs:∀x∈xs,(enc x).length=s)(h0:0<s):∀j v,(xs.flatMap enc)[j]?=some v->∃p,a=some p/\w.cell? (p.add j)=some v:=by
 intro j v hv;rw[UM hs h0]at hv
 cases hx:xs[j / s]? with
 |none=>rw[hx]at hv;cases hv
 |some x =>
  rw[hx]at hv;have hc:=R.cell _ x hx _ v hv (qda _ h0);obtain⟨b,o,rfl⟩:=R.some' (by rintro rfl;simp at hx);refine⟨_,rfl,?_⟩;rw[add_none];simp only[adr]at hc;rw[<-hc]
  congr 2
  have:=Nat.div_add_mod j s;rw[Nat.mul_comm]at this;omega
theorem Rd.take(R:Rd w a s enc xs)(n:Nat):Rd w a s enc (xs.take n) :=
 ⟨fun h=>R.some' (by rintro rfl;simp at h),fun i x hx j v hv hj=>R.cell i x (by
  rw[qb5]at hx
  split at hx
  .exact hx
  .cases hx) j v hv hj⟩
theorem Rd.cut(R:Rd w a s enc xs)(n c:Nat)(hc:xs.length<=c):Rd w (MG a c n s) s enc (xs.drop n):=by
 unfold MG
 by_cases hn:c=n
 .subst hn;rw[List.drop_of_length_le hc];exact Rd.nil
 .rw[if_neg hn];refine⟨fun h=>?_,fun i x hx j v hv hj=>?_⟩
  .obtain⟨b,o,rfl⟩:=R.some' (by rintro rfl;simp at h);exact⟨b,o+n*s,by simp[add_none]⟩
  .rw[qct]at hx;obtain⟨b,o,rfl⟩:=R.some' (by rintro rfl;simp at hx);have:=R.cell (n+i) x hx j v hv hj;simp only[adr,qcz,add_none]at this |-;rw[<-this]
   congr 2
   rw[qbj];omega
end
section
variable {P:Program}{r:Option Nat}{ops rest:List Oper}{Q:Exit->Env->World->Prop}{e:Env}{w w0:World}{S:List Nat}{L:List (Nat × Obj)}{dst:Option Tmp}{ty:TypeId}{pos:String}{af:Array Edge}{g:Option (Nat × Bool)}
theorem GQ{t el:TypeId}{s:Nat}(hu:C1 P t=some el)(hs:Ce P el=some s)(H:Ctx w0 S w L)(h:∀b w',Ctx w0 S w' (L++ent (some ⟨b,0,none⟩) el [])->OS (some ⟨b,0,none⟩) 0 0 s [] []->A7 P r ops Q rest (put e dst (.slice (some ⟨b,0,none⟩) 0 0)) w')(hg:AV ⟨dst,.buildSlice t 0 #[],ty,pos,af,g⟩ ops e=true:=by exact U):
  A7 P r ops Q (⟨dst,.buildSlice t 0 #[],ty,pos,af,g⟩::rest) e w:=by
 refine B7 (w':=w.alloc (Bl el [])) (v := .slice (some ⟨w.heap.size,0,none⟩) 0 0) hg U ?_ (h _ _ (Ctx.comm (L:=[(w.heap.size,Bl el [])]) (H.alloc _)) ⟨(fun p hp=>by injection hp with hp;subst hp;rfl),(fun hp=>by cases hp),by simp,qam _,by simp⟩);have hr0:(Array.range 0)=(#[]:Array Nat):=by apply qb4;simp
 simp[execOp,Instr.buildSlice,AO (Cx hu),C6 hs,hr0,Instr.fill,newRow,newObj,Sem.run];rfl
end
theorem Ec{α:Type}{n i:Nat}{f:Nat->α}(h:i<n):((List.range n).map f)[i]?=some (f i):=by
 rw[qa1,List.getElem?_range h];rfl
theorem Jq{α:Type}{n i:Nat}{f g:Nat->α}{v:α}(hv:g i=v)(h:∀j,j<n->j≠i->g j=f j):((List.range n).map f).set i v=(List.range n).map g:=by
 apply qci;intro j;rw[qej]
 by_cases hj:j<n
 .by_cases he:i=j
  .subst he;rw[if_pos rfl,if_pos (by simpa using hj),Ec hj,hv]
  .rw[if_neg he,Ec hj,Ec hj,h j hj (Ne.symm he)]
 .rw[qbi (l:=(List.range n).map g) (by simp;omega)]
  split
  .rw[if_neg (by simp;omega)]
  .rw[qbi (by simp;omega)]
section
variable {P:Program}{r:Option Nat}{ops rest:List Oper}{Q:Exit->Env->World->Prop}{e:Env}{w w0:World}{S:List Nat}{L:List (Nat × Obj)}{dst:Option Tmp}{ty:TypeId}{pos:String}{af:Array Edge}{g:Option (Nat × Bool)}{C:World->Prop}{K:Env->Prop}
theorem TA{t t2:TypeId}{x:Operand}{b i j n:Nat}{f:Nat->Value}(k:Nat)(v:Value)(hg:AV ⟨dst,.load t x,ty,pos,af,g⟩ ops e=true)(ha:Dt P t=some false)(hx:ev e x=.pointer (some ⟨b,i,none⟩))(H:Ctx w0 S w L)(hj:L[j]?=some (b,Bl t2 ((List.range n).map f)))(hi:i=k)(hv:f k=v)(h:A7 P r ops Q rest (put e dst v) w)(hk:k<n:=by omega):A7 P r ops Q (⟨dst,.load t x,ty,pos,af,g⟩::rest) e w:=by
 subst hi hv;exact AG (hg:=hg) ha hx H hj (Ec hk) h
theorem Cl{t t2:TypeId}{x y:Operand}{b i j n:Nat}{f:Nat->Value}(k:Nat)(f':Nat->Value)(v:Value)(hs:Ce P t=some 1)(hx:ev e x=.pointer (some ⟨b,i,none⟩))(hy:ev e y=v)(hv:AY v=true)(H:Ctx w0 S w L)(hj:L[j]?=some (b,Bl t2 ((List.range n).map f)))(hi:i=k)(h1:f' k=v)(h2:∀q,q<n->q≠k->f' q=f q)(h:∀w',Ctx w0 S w' (L.set j (b,Bl t2 ((List.range n).map f')))->A7 P r ops Q rest (put e dst undef) w')(hg:AV ⟨dst,.store t x y,ty,pos,af,g⟩ ops e=true:=by exact U)(hk:k<n:=by omega):A7 P r ops Q (⟨dst,.store t x y,ty,pos,af,g⟩::rest) e w:=by
 subst hi;refine Cb v (hg:=hg) hs hx hy hv H hj (by simpa using hk) (fun w' H'=>h w' ?_);rw[Jq h1 h2]at H';exact H'
end
theorem AE{α:Type}{l:List α}{i:Nat}(h:i<l.length:=by omega):∃x,l[i]?=some x:=⟨l[i],qbl h⟩
theorem CD{α:Type}{l:List α}{i:Nat}{x:α}(h:l[i]?=some x):i<l.length:=(qa8.1 h).1
theorem Ee{α:Type}{l:List α}{i:Nat}{x:α}(h:l[i]?=some x):l.take (i+1)=l.take i++[x]:=by
 rw[qb6,h];rfl
theorem Fo{α:Type}(n:Nat)(v:α):List.replicate n v=(List.range n).map fun _=>v:=by
 apply qci;intro j
 by_cases hj:j<n
 .rw[Ec hj,List.getElem?_replicate,if_pos hj]
 .rw[qbi (by simp;omega),qbi (by simp;omega)]
structure Fresh(w w':World)(el:TypeId)(s:Nat)(v:Value)(l:List Value):Prop where
 ex:∃a n c full,v=.slice a n c/\OS a n c s full l/\∀x∈ent a el full,w'.heap[x.1]?=some x.2/\w.heap.size<=x.1
 ext:Ext [] w w'
theorem Fu{a:Option Addr}{t:TypeId}{full:List Value}:(ent a t full).Pairwise fun x y=>x.1≠y.1:=by
 cases a <;> simp[ent]
theorem Ctx.fresh{w0 w:World}{L:List (Nat × Obj)}{a:Option Addr}{el:TypeId}{full l:List Value}{n c s:Nat}(H:Ctx w0 [] w (L++ent a el full))(O:OS a n c s full l):Fresh w0 w el s (.slice a n c) l :=
 ⟨⟨a,n,c,full,rfl,O,fun x hx=>⟨H.blk x (qaf _ hx),by
  rcases H.own x (qaf _ hx)with h|h
  .cases h
  .exact h⟩⟩,H.ext⟩
theorem Fresh.nil{w0 w:World}{L:List (Nat × Obj)}(H:Ctx w0 [] w L)(el:TypeId)(s:Nat):Fresh w0 w el s (.slice none 0 0) [] :=
 ⟨⟨none,0,0,[],rfl,OS.nil,by simp[ent]⟩,H.ext⟩
theorem Acu{α:Type}{f:α->Value}(xs:List α):xs.flatMap (fun x=>[f x])=xs.map f:=by
 induction xs with
 |nil=>rfl
 |cons x xs ih=>simp[ih]
theorem OS.rd1{α:Type}{w:World}{a:Option Addr}{n c:Nat}{t:TypeId}{full:List Value}{f:α->Value}{xs:List α}(h:OS a n c 1 full (xs.map f))(hb:∀x∈ent a t full,w.heap[x.1]?=some x.2) :
  Rd w a 1 (fun x=>[f x]) xs:=OS.rd (by rw[Acu];exact h) hb (by simp) (by omega)
theorem OS.num{α:Type}{a:Option Addr}{n c:Nat}{full:List Value}{f:α->Value}{xs:List α}(h:OS a n c 1 full (xs.map f)):n=xs.length:=by
 have:=h.llen;simpa using this.symm
theorem OS.numN{α:Type}{a:Option Addr}{n c s:Nat}{full:List Value}{enc:α->List Value}{xs:List α}(h:OS a n c s full (xs.flatMap enc))(hs:∀x∈xs,(enc x).length=s)(h0:0<s):n=xs.length:=by
 have h1:=h.llen
 have h2:∀xs:List α,(∀x∈xs,(enc x).length=s)->(xs.flatMap enc).length=xs.length*s:=by
  intro xs
  induction xs with
  |nil=>simp
  |cons x xs ih =>
   intro hs;simp only[qbz,qat,qa9,qbj,Nat.one_mul];rw[ih (fun y hy=>hs y (by simp[hy])),hs x (by simp)];omega
 rw[h2 xs hs]at h1;exact(Nat.eq_of_mul_eq_mul_right h0 h1).symm
def Ea{α:Type}(m:List (Int × α))(k:Int):Option α:=(m.find? fun p=>p.1 == k).map (·.2)
def Ku{α:Type}:List (Int × α)->Int->α->List (Int × α)
 | [],k,v=>[(k,v)]
 |p::m,k,v=>if p.1=k then(k,v)::m else p::Ku m k v
def Mg{α:Type}:List (Int × α)->Int->List (Int × α)
 | [],_=>[]
 |p::m,k=>if p.1=k then m else p::Mg m k
theorem Acv{α:Type}(k:Int):Ea ([]:List (Int × α)) k=none:=rfl
theorem ZG{α:Type}(m:List (Int × α))(k:Int)(v:α)(k':Int):Ea (Ku m k v) k'=if k'=k then some v else Ea m k':=by
 induction m with
 |nil =>
  unfold Ku Ea
  by_cases h:k'=k
  .subst h;simp
  .simp[h,Ne.symm h]
 |cons p m ih =>
  unfold Ku
  by_cases hp:p.1=k
  .rw[if_pos hp];unfold Ea
   by_cases h:k'=k
   .subst h;simp
   .have h1:(k == k')=false:=by simpa using Ne.symm h
    have h2:(p.1 == k')=false:=by rw[hp];exact h1
    simp[h1,h2,h]
  .rw[if_neg hp];unfold Ea at ih |-
   by_cases h:p.1=k'
   .have h2:¬k'=k:=fun e=>hp (h.trans e);simp[h,h2]
   .have h1:(p.1 == k')=false:=by simpa using h
    simp only[qb7,h1];exact ih
def Df(kk:IntKind)(m:List (Int × Value))(o:Obj):Prop :=
 ∃es clock,o=.map es clock/\es.toList.map (fun e=>(e.key,e.val))=m.map (fun p=>(Value.int kk p.1,p.2))/\(∀e∈es.toList,e.born<clock)/\(es.toList.map (·.born)).Nodup
theorem Gn(kk:IntKind)(n:Int):∀(es:List MapEntry) (m:List (Int × Value)) (i:Nat),es.map (fun e=>(e.key,e.val))=m.map (fun p=>(Value.int kk p.1,p.2)) ->
  (Ea m n=none->Instr.findNow (.int kk) (.int kk n) es i=some none) /\
  (∀v,Ea m n=some v->∃j,Instr.findNow (.int kk) (.int kk n) es i=some (some (i+j,v))/\j<es.length/\∀(v':Value),(es.modify j fun e=>{ e with key := .int kk n,val:=v' }).map (fun e=>(e.key,e.val))=(Ku m n v').map (fun p=>(Value.int kk p.1,p.2))/\((es[j]?).map (·.key))=some (.int kk n) /\
   (es.eraseIdx j).map (fun e=>(e.key,e.val))=(Mg m n).map (fun p=>(Value.int kk p.1,p.2)))
 | [],m,i,h=>by
  cases m with
  |nil=>exact⟨fun _=>rfl,fun v hv=>by cases hv⟩
  |cons p m=>cases h
 |e::es,m,i,h=>by
  cases m with
  |nil=>cases h
  |cons p m =>
   simp only[qay,qdb,qc3]at h;obtain⟨⟨hk,hv⟩,ht⟩:=h;have ih:=Gn kk n es m (i+1) ht;have hs:Instr.sameNow (.int kk) (.int kk n) e.key=some (n == p.1):=by rw[hk];simp[Instr.sameNow]
   by_cases hn:p.1=n
   .have hb:(n == p.1)=true:=by simp[hn]
    have hg:Ea (p::m) n=some p.2:=by simp[Ea,hn]
    refine⟨(fun h=>by rw[hg]at h;cases h),fun v hv'=>?_⟩;rw[hg]at hv'
    injection hv' with hv'
    subst hv';refine⟨0,by simp[Instr.findNow,hs,hb,hv],by simp,fun v'=>⟨?_,by simp[hk,hn],?_⟩⟩
    .simp[Ku,hn,ht,List.modify]
    .simp[Mg,hn,ht]
   .have hb:(n == p.1)=false:=by simpa using Ne.symm hn
    have hb2:(p.1 == n)=false:=by simpa using hn
    have hg:Ea (p::m) n=Ea m n:=by simp[Ea,hb2]
    rw[hg];refine⟨fun h=>by simp[Instr.findNow,hs,hb,ih.1 h],fun v hv'=>?_⟩;obtain⟨j,h1,h2,h3⟩:=ih.2 v hv';refine⟨j+1,by simp[Instr.findNow,hs,hb,h1];omega,by simp;omega,fun v'=>?_⟩;obtain⟨a1,a2,a3⟩:=h3 v';refine⟨?_,by simpa using a2,?_⟩
    .simp only[qev,qay,Ku,if_neg hn,a1,hk,hv]
    .simp only[List.eraseIdx_cons_succ,qay,Mg,if_neg hn,a3,hk,hv]
def Ip(P:Program)(t:TypeId):Option (TypeId × TypeId):=match P.underlying t with|some (.map k e)=>some (k,e)|_=>none
theorem Fv{P:Program}{t k e:TypeId}(h:Ip P t=some (k,e)):P.underlying t=some (.map k e):=by
 unfold Ip at h
 split at h
 .rename_i hu;injection h with h;cases h;exact hu
 .cases h
section
variable {P:Program}{r:Option Nat}{ops rest:List Oper}{Q:Exit->Env->World->Prop}{e:Env}{w w0:World}{S:List Nat}{L:List (Nat × Obj)}{dst:Option Tmp}{ty:TypeId}{pos:String}{af:Array Edge}{g:Option (Nat × Bool)}
theorem DE{b:Bool}{k:TypeId}{kk:IntKind}(hk:P.underlying k=some (.int kk))(v:Value)(w:World)(d:Nat):(Instr.checkKey b (d+1) k v).run P w=.ok () w:=by
 simp[Instr.checkKey,AO hk]
theorem Mi{t:TypeId}(kk:IntKind)(hg:AV ⟨dst,.makeMap t none,ty,pos,af,g⟩ ops e=true)(H:Ctx w0 S w L)(h:∀b o w',Df kk [] o->Ctx w0 S w' ((b,o)::L)->A7 P r ops Q rest (put e dst (.map (some b))) w') :
  A7 P r ops Q (⟨dst,.makeMap t none,ty,pos,af,g⟩::rest) e w:=by
 refine B7 (w':=w.alloc (.map #[] 0)) (v := .map (some w.heap.size)) hg U ?_ (h _ _ _ ⟨#[],0,rfl,rfl,by simp,by simp⟩ (H.alloc _));simp[execOp,Instr.makeMap,newObj,Sem.run]
theorem ZH{t k el:TypeId}{kk:IntKind}{x y:Operand}{b j:Nat}{o:Obj}{m:List (Int × Value)}{n:Int}{z:Value}(hg:AV ⟨dst,.lookup t x y false,ty,pos,af,g⟩ ops e=true)(ht:Ip P t=some (k,el))(hk:P.underlying k=some (.int kk))(hz:(P.info? el).bind (·.zero)=some z)(hx:ev e x=.map (some b))(hy:ev e y=.int kk n)(H:Ctx w0 S w L)(hl:L[j]?=some (b,o))(hM:Df kk m o)(h:A7 P r ops Q rest (put e dst ((Ea m n).getD z)) w):A7 P r ops Q (⟨dst,.lookup t x y false,ty,pos,af,g⟩::rest) e w:=by
 obtain⟨es,clock,rfl,hes,_⟩:=hM;have hb:=H.get hl;have hf:=Gn kk n es.toList m 0 hes;have hgo:(getObj b).run P w=.ok (.map es clock) w:=by simp[getObj,Sem.run,hb]
 have hzr:(zeroValue el).run P w=.ok z w:=by
  cases hi:P.info? el with
  |none=>rw[hi]at hz;cases hz
  |some i=>rw[hi]at hz;simp at hz;simp[zeroValue,typeInfo,program,Sem.run,hi,hz]
 refine B7 hg U ?_ h
 cases hm:Ea m n with
 |none=>simp[execOp,Instr.lookup,AO (Fv ht),hx,hy,hgo,DE hk,Instr.findKey,AO hk,hf.1 hm,hzr]
 |some v =>
  obtain⟨i,hi,_⟩:=hf.2 v hm;simp[execOp,Instr.lookup,AO (Fv ht),hx,hy,hgo,DE hk,Instr.findKey,AO hk,hi]
theorem Hk{t k el:TypeId}{kk:IntKind}{x y:Operand}{b j:Nat}{o:Obj}{m:List (Int × Value)}{n:Int}{z:Value}(hg:AV ⟨dst,.lookup t x y true,ty,pos,af,g⟩ ops e=true)(ht:Ip P t=some (k,el))(hk:P.underlying k=some (.int kk))(hz:(P.info? el).bind (·.zero)=some z)(hx:ev e x=.map (some b))(hy:ev e y=.int kk n)(H:Ctx w0 S w L)(hl:L[j]?=some (b,o))(hM:Df kk m o)(h:A7 P r ops Q rest (put e dst (.tuple #[(Ea m n).getD z,.bool (Ea m n).isSome])) w):A7 P r ops Q (⟨dst,.lookup t x y true,ty,pos,af,g⟩::rest) e w:=by
 obtain⟨es,clock,rfl,hes,_⟩:=hM;have hb:=H.get hl;have hf:=Gn kk n es.toList m 0 hes;have hgo:(getObj b).run P w=.ok (.map es clock) w:=by simp[getObj,Sem.run,hb]
 have hzr:(zeroValue el).run P w=.ok z w:=by
  cases hi:P.info? el with
  |none=>rw[hi]at hz;cases hz
  |some i=>rw[hi]at hz;simp at hz;simp[zeroValue,typeInfo,program,Sem.run,hi,hz]
 refine B7 hg U ?_ h
 cases hm:Ea m n with
 |none=>simp[execOp,Instr.lookup,AO (Fv ht),hx,hy,hgo,DE hk,Instr.findKey,AO hk,hf.1 hm,hzr]
 |some v =>
  obtain⟨i,hi,_⟩:=hf.2 v hm;simp[execOp,Instr.lookup,AO (Fv ht),hx,hy,hgo,DE hk,Instr.findKey,AO hk,hi]
theorem LQ{t k el:TypeId}{kk:IntKind}{b j:Nat}{o:Obj}{m:List (Int × Value)}{n:Int}(v:Value)(ht:Ip P t=some (k,el))(hk:P.underlying k=some (.int kk))(H:Ctx w0 S w L)(hl:L[j]?=some (b,o))(hM:Df kk m o) :
  ∃o' w',(Instr.mapUpdate t (.map (some b)) (.int kk n) v).run P w=.ok () w'/\Df kk (Ku m n v) o'/\Ctx w0 S w' (L.set j (b,o')):=by
 obtain⟨es,clock,rfl,hes,hbn,hnd⟩:=hM;have hb:=H.get hl;have hf:=Gn kk n es.toList m 0 hes;have hgo:(getObj b).run P w=.ok (.map es clock) w:=by simp[getObj,Sem.run,hb]
 have hso:∀o',(setObj b o').run P w=.ok () (w.putObj b o'):=fun o'=>by simp[setObj,Sem.run,hb,World.putObj]
 cases hm:Ea m n with
 |none =>
  refine⟨.map (es.push { key := .int kk n,val:=v,born:=clock }) (clock+1),w.putObj b _,?_,⟨_,_,rfl,?_,?_,?_⟩,H.setB hl _⟩
  .simp[Instr.mapUpdate,AO (Fv ht),hgo,DE hk,Instr.findKey,AO hk,hf.1 hm,hso]
  .have hms:Ku m n v=m++[(n,v)]:=by
    clear hes hf
    induction m with
    |nil=>rfl
    |cons p m ih =>
     have hp:¬p.1=n:=by
      intro hp;simp[Ea,hp]at hm
     have hb2:(p.1 == n)=false:=by simpa using hp
     have hm2:Ea m n=none:=by rw[<-hm];simp[Ea,hb2]
     simp[Ku,hp,ih hm2]
   rw[hms];simp[hes]
  .intro x hx;simp only[qcw,qbc,qab]at hx
   rcases hx with hx|rfl
   .have:=hbn x hx;omega
   .simp
  .simp only[qcw,qav,qay,qcn];rw[qdo];refine⟨hnd,by simp,?_⟩;intro x hx y hy;simp only[qab]at hy;subst hy;rw[qah]at hx;obtain⟨e',he',rfl⟩:=hx;have:=hbn e' he';omega
 |some v0 =>
  obtain⟨i,hi,hil,h3⟩:=hf.2 v0 hm;obtain⟨a1,a2,_⟩:=h3 v;have hkts:(Instr.keyThatStays (.int kk n) (.int kk n)).run P w=.ok (.int kk n) w:=by simp[Instr.keyThatStays,Instr.sameBits]
  have hold:((es[i]?).map (·.key)).getD (.int kk n)=.int kk n:=by
   have:es[i]?=es.toList[i]? := by rw[qeh]
   rw[this,a2];rfl
  refine⟨.map (es.modify i fun e=>{ e with key := .int kk n,val:=v }) clock,w.putObj b _,?_,⟨_,_,rfl,?_,?_,?_⟩,H.setB hl _⟩
  .simp[Instr.mapUpdate,AO (Fv ht),hgo,DE hk,Instr.findKey,AO hk,hi,hold,hkts,hso]
  .rw[qd7];exact a1
  .intro x hx;rw[qd7,qby]at hx;obtain⟨q,hq⟩:=hx;rw[List.getElem?_modify]at hq
   cases hq2:es.toList[q]? with
   |none=>rw[hq2]at hq;simp at hq
   |some y =>
    rw[hq2]at hq;have hy:=hbn y (qac hq2)
    injection hq with hq
    subst hq;dsimp only
    split <;> exact hy
  .rw[qd7]
   have:(es.toList.modify i fun e=>{ e with key := .int kk n,val:=v }).map (·.born)=es.toList.map (·.born):=by
    apply qci;intro q;rw[qa1,qa1,List.getElem?_modify]
    cases es.toList[q]? with
    |none=>rfl
    |some y=>show some (Value.map none,(if i=q then _ else y).born).2=some y.born;split <;> rfl
   rw[this];exact hnd
theorem JH{t k el:TypeId}{kk:IntKind}{x y z:Operand}{b j:Nat}{o:Obj}{m:List (Int × Value)}{n:Int}(v:Value)(hg:AV ⟨dst,.mapUpdate t x y z,ty,pos,af,g⟩ ops e=true)(ht:Ip P t=some (k,el))(hk:P.underlying k=some (.int kk))(hx:ev e x=.map (some b))(hy:ev e y=.int kk n)(hv:ev e z=v)(H:Ctx w0 S w L)(hl:L[j]?=some (b,o))(hM:Df kk m o)(h:∀o' w',Df kk (Ku m n v) o'->Ctx w0 S w' (L.set j (b,o'))->A7 P r ops Q rest (put e dst undef) w'):A7 P r ops Q (⟨dst,.mapUpdate t x y z,ty,pos,af,g⟩::rest) e w:=by
 obtain⟨o',w',hr,hM',H'⟩:=LQ (n:=n) v ht hk H hl hM;exact Lz hg U (by simp[execOp,hx,hy,hv,hr]) (h o' w' hM' H')
end
section
variable {P:Program}{r:Option Nat}{n:Nat}{Q:Exit->Env->World->Prop}{e:Env}{w:World}
theorem Dj{x y:Code}(d:Tmp){b:Bool}(hd:e.g d=.bool b)(h1:b=true->W P r n x Q (put e (some d) (.bool true)) w)(h2:b=false->W P r n y Q (put e (some d) (.bool false)) w) :
  W P r n (.cond (.tmp d) x y) Q e w:=by
 refine Aw b hd (fun h=>?_) (fun h=>?_)
 .have h3:=h1 h;rw[G3 (by rw[hd,h])]at h3;exact h3
 .have h3:=h2 h;rw[G3 (by rw[hd,h])]at h3;exact h3
end
def Dh(P:Program)(t:TypeId):Option (List (Nat × Nat)) :=
 match P.underlying t with
 |some (.struct fs)=>fs.toList.mapM (fun f=>(P.info? f.type).map fun i=>(f.offset,i.size))
 |_=>none
section
variable {P:Program}{r:Option Nat}{ops rest:List Oper}{Q:Exit->Env->World->Prop}{e:Env}{w w0:World}{S:List Nat}{L:List (Nat × Obj)}{dst:Option Tmp}{ty:TypeId}{pos:String}{af:Array Edge}{g:Option (Nat × Bool)}
theorem PV{t:TypeId}{pl:List (Nat × Nat)}{zl:List Value}{ps:List (Nat × Value)}{l:Array Value}(hp:Dh P t=some pl)(hz:Cd P t=some zl)(hl:Instr.fill (fun i=>pl.toArray[i]?) zl.toArray ps=some l):P.built t ps=some l:=by
 unfold Dh at hp;unfold Cd at hz;unfold Program.built
 cases hu:P.underlying t with
 |none=>rw[hu]at hp;cases hp
 |some d =>
  rw[hu]at hp
  cases hi:P.info? t with
  |none=>rw[hi]at hz;cases hz
  |some it =>
   rw[hi]at hz
   cases hzz:it.zero with
   |none=>simp[hzz]at hz
   |some z =>
    simp only[qeg,hzz,qcz,qb3]at hz;subst hz
    cases d <;> first|(cases hp;done)|skip
    rename_i fields
    have hp':fields.toList.mapM (fun f=>(P.info? f.type).map fun i=>(f.offset,i.size))=some pl:=hp;simp only[hzz,hp']
    simpa using hl
theorem BA{t:TypeId}{parts:Array (Nat × Operand)}{pl:List (Nat × Nat)}{zl:List Value}(l:List Value)(hp:Dh P t=some pl)(hz:Cd P t=some zl)(h:A7 P r ops Q rest (put e dst (.agg l.toArray)) w)(hg:AV ⟨dst,.build t parts,ty,pos,af,g⟩ ops e=true:=by exact U)(hl:Instr.fill (fun i=>pl.toArray[i]?) zl.toArray (parts.toList.map fun p=>(p.1,ev e p.2))=some l.toArray:=by kernel_rfl):
  A7 P r ops Q (⟨dst,.build t parts,ty,pos,af,g⟩::rest) e w:=by
 refine B7 hg U ?_ h;have hb:P.built t (parts.map fun(i,x)=>(i,ev e x)).toList=some l.toArray:=PV hp hz (by rw[qcu];exact hl);simp[execOp,run_build w t _ _ hb]
theorem Ef{t el:TypeId}{n:Nat}{parts:Array (Nat × Operand)}{s:Nat}{zl:List Value}(l:List Value)(hu:C1 P t=some el)(hs:Ce P el=some s)(hz:Cd P el=some zl)(H:Ctx w0 S w L)(h:∀b w',w.heap.size=b->Ctx w0 S w' ((b,Bl el l)::L)->A7 P r ops Q rest (put e dst (.slice (some ⟨b,0,none⟩) n n)) w')(hg:AV ⟨dst,.buildSlice t n parts,ty,pos,af,g⟩ ops e=true:=by exact U)(hn:¬n*s=0:=by decide)(hbig:¬16777216<n*s:=by decide)(hl:Instr.fill (fun i=>some (i*s,s)) ((Array.range (n*s)).map fun k=>zl.toArray[k % zl.toArray.size]!) (parts.toList.map fun p=>(p.1,ev e p.2))=some l.toArray:=by kernel_rfl):
  A7 P r ops Q (⟨dst,.buildSlice t n parts,ty,pos,af,g⟩::rest) e w:=by
 obtain⟨z,hz1,hz2⟩:=G4 hz w;have hzc:z.cells=zl.toArray:=by apply qb4;rw[hz2]
 refine B7 (w':=w.alloc (Bl el l)) (v := .slice (some ⟨w.heap.size,0,none⟩) n n) hg U ?_ (h _ _ U (H.alloc _));have hf:Instr.fill (fun i=>some (i*s,s)) ((Array.range (n*s)).map fun k=>zl.toArray[k % zl.toArray.size]!) (parts.map fun(i,x)=>(i,ev e x)).toList=some l.toArray:=by rw[qcu];exact hl
 simp only[execOp,Instr.buildSlice,Sem.run_bind,AO (Cx hu),C6 hs,Result.andThen_ok,if_neg hbig,if_neg hn,hz1,Sem.run_pure,hzc];rw[hf];simp[newRow,newObj,Sem.run];rfl
theorem Aiy{fn:Func}{R:Value->World->Prop}{a:Tmp}{t:TypeId}{p:Addr}{v:Value}(hr:fn.results=#[.cell a t])(hd:e.ds=[])(ha:e.g a=.pointer (some p))(hv:(loadVar t p).run P w=.ok v w)(h:R v w):N3 P fn R .ret e w :=
 ⟨hd,fun tmps ht=>by
  have h1:=(ht a).trans ha;rw[qax]at h1
  exact⟨v,by simp[results,hr,h1,asAddr,hv],h⟩⟩
theorem JI{fn:Func}{R:Value->World->Prop}{a:Tmp}{t t2:TypeId}{b k s:Nat}{l:List Value}(hr:fn.results=#[.cell a t])(hd:e.ds=[])(ha:e.g a=.pointer (some ⟨b,0,none⟩))(hag:Dt P t=some true)(hs:Ce P t=some s)(H:Ctx w0 S w L)(hk:L[k]?=some (b,Bl t2 l))(hl:l.length=s)(h:R (.agg l.toArray) w):N3 P fn R .ret e w :=
 Aiy hr hd ha (FH hag hs hl (fun j v hv=>by rw[Aj (H.get hk),qaz];exact hv)) h
end
theorem KE{k:IntKind}(hk:k.signed=false)(a:Nat):k.wrap (a:Int)=((a % 2 ^ k.bits:Nat):Int):=by
 unfold IntKind.wrap;rw[hk];simp
theorem L4(n a:Nat):BitVec.ofInt n (a:Int)=BitVec.ofNat n a:=by
 apply BitVec.eq_of_toNat_eq;rw[BitVec.toNat_ofInt,BitVec.toNat_ofNat]
 norm_cast
theorem Acw{k:IntKind}(hk:k.signed=false){a b:Nat}(ha:a<2 ^ k.bits)(hb:b<2 ^ k.bits):Op.intBits .and k a b=pure (.int k ((a &&& b:Nat):Int)):=by
 have hx:a &&& b<2 ^ k.bits:=Nat.lt_of_le_of_lt Nat.and_le_left ha;simp only[Op.intBits,L4];rw[KE hk,BitVec.toNat_and,BitVec.toNat_ofNat,BitVec.toNat_ofNat,qbr ha,qbr hb,qbr hx]
theorem Aiz{k:IntKind}(hk:k.signed=false){a b:Nat}(ha:a<2 ^ k.bits)(hb:b<2 ^ k.bits):Op.intBits .or k a b=pure (.int k ((a ||| b:Nat):Int)):=by
 have hx:a ||| b<2 ^ k.bits:=Nat.or_lt_two_pow ha hb
 simp only[Op.intBits,L4];rw[KE hk,BitVec.toNat_or,BitVec.toNat_ofNat,BitVec.toNat_ofNat,qbr ha,qbr hb,qbr hx]
theorem Acx{k:IntKind}(hk:k.signed=false){a b:Nat}(ha:a<2 ^ k.bits)(hb:b<2 ^ k.bits):Op.intBits .xor k a b=pure (.int k ((a ^^^ b:Nat):Int)):=by
 have hx:a ^^^ b<2 ^ k.bits:=Nat.xor_lt_two_pow ha hb;simp only[Op.intBits,L4];rw[KE hk,BitVec.toNat_xor,BitVec.toNat_ofNat,BitVec.toNat_ofNat,qbr ha,qbr hb,qbr hx]
theorem Pu{k k2:IntKind}{a n:Nat}(hn:n<=k.bits):Op.shift .shr k (a:Int) k2 (n:Int)=pure (.int k ((a / 2 ^ n:Nat):Int)):=by
 unfold Op.shift;rw[if_neg (by omega)];have hm:min ((n:Int)).toNat k.bits=n:=by rw[qbg];exact qcg hn
 simp only[hm]
 congr 2
 have:((2:Int) ^ n)=((2 ^ n:Nat):Int):=by norm_cast
 rw[this,Int.fdiv_eq_ediv_of_nonneg _ (Int.natCast_nonneg _)]
 norm_cast
theorem Yo{k k2:IntKind}(hk:k.signed=false){a n:Nat}(hn:n<=k.bits):Op.shift .shl k (a:Int) k2 (n:Int)=pure (.int k ((a*2 ^ n % 2 ^ k.bits:Nat):Int)):=by
 unfold Op.shift;rw[if_neg (by omega)];have hm:min ((n:Int)).toNat k.bits=n:=by rw[qbg];exact qcg hn
 simp only[hm]
 congr 2
 have:(a:Int)*(2:Int) ^ n=((a*2 ^ n:Nat):Int):=by norm_cast
 rw[this,KE hk]
section
variable {P:Program}{r:Option Nat}{ops rest:List Oper}{Q:Exit->Env->World->Prop}{e:Env}{w w0:World}{S:List Nat}{L:List (Nat × Obj)}{dst:Option Tmp}{ty:TypeId}{pos:String}{af:Array Edge}{g:Option (Nat × Bool)}{C:World->Prop}{K:Env->Prop}{t t2:TypeId}{x y:Operand}{a b n:Nat}{s d:TypeId}
theorem ZI{k k1:IntKind}{ds:TypeDesc}(hk:k.signed=false)(hx:ev e x=.int k1 a)(hs:P.underlying s=some ds)(hd:P.underlying d=some (.int k)) :
  (execOp (ev e) ⟨dst,.convert s d x,ty,pos,af,g⟩).run P w=.ok (.value (.int k ((a % 2 ^ k.bits:Nat):Int))) w:=by
 simp[execOp,hx,convert,AO hs,AO hd,Conv.intToInt,KE hk]
theorem Oy(hg:AV ⟨dst,.convert s d x,ty,pos,af,g⟩ ops e=true){k1:IntKind}{ds:TypeDesc}(hx:ev e x=.int k1 a)(hs:P.underlying s=some ds)(hd:P.underlying d=some (.int .u8))(h:A7 P r ops Q rest (put e dst (.int .u8 ((a % 256:Nat):Int))) w):A7 P r ops Q (⟨dst,.convert s d x,ty,pos,af,g⟩::rest) e w :=
 B7 hg rfl (ZI (k := .u8) rfl hx hs hd) h
theorem Iq(hg:AV ⟨dst,.binOp .and t x y t2,ty,pos,af,g⟩ ops e=true)(hx:ev e x=.int .u64 a)(hy:ev e y=.int .u64 b)(h:A7 P r ops Q rest (put e dst (.int .u64 ((a &&& b:Nat):Int))) w)(ha:a<18446744073709551616:=by omega)(hb:b<18446744073709551616:=by omega):A7 P r ops Q (⟨dst,.binOp .and t x y t2,ty,pos,af,g⟩::rest) e w :=
 B7 hg rfl (Ch hx hy (by show(Op.intBits .and .u64 (a:Int) (b:Int)).run P w=_;rw[Acw rfl (by exact ha) (by exact hb)];rfl)) h
theorem ZJ(hg:AV ⟨dst,.binOp .or t x y t2,ty,pos,af,g⟩ ops e=true)(hx:ev e x=.int .u64 a)(hy:ev e y=.int .u64 b)(ha:a<18446744073709551616)(h:A7 P r ops Q rest (put e dst (.int .u64 ((a ||| b:Nat):Int))) w)(hb:b<18446744073709551616:=by omega):A7 P r ops Q (⟨dst,.binOp .or t x y t2,ty,pos,af,g⟩::rest) e w :=
 B7 hg rfl (Ch hx hy (by show(Op.intBits .or .u64 (a:Int) (b:Int)).run P w=_;rw[Aiz rfl (by exact ha) (by exact hb)];rfl)) h
theorem NA(hg:AV ⟨dst,.binOp .xor t x y t2,ty,pos,af,g⟩ ops e=true)(hx:ev e x=.int .u64 a)(hy:ev e y=.int .u64 b)(ha:a<18446744073709551616)(hb:b<18446744073709551616)(h:Wq P ops C K rest (put e dst (.int .u64 ((a ^^^ b:Nat):Int)))):Wq P ops C K (⟨dst,.binOp .xor t x y t2,ty,pos,af,g⟩::rest) e :=
 Et hg (fun w _=>Ch hx hy (by show(Op.intBits .xor .u64 (a:Int) (b:Int)).run P w=_;rw[Acx rfl (by exact ha) (by exact hb)];rfl)) h
theorem EJ{k2:IntKind}(hx:ev e x=.int .u64 a)(hy:ev e y=.int k2 n)(h:A7 P r ops Q rest (put e dst (.int .u64 ((a / 2 ^ n:Nat):Int))) w)(hg:AV ⟨dst,.binOp .shr t x y t2,ty,pos,af,g⟩ ops e=true:=by exact U)(hn:n<=64:=by omega):A7 P r ops Q (⟨dst,.binOp .shr t x y t2,ty,pos,af,g⟩::rest) e w :=
 B7 hg rfl (Ch hx hy (by show(Op.shift .shr .u64 (a:Int) k2 (n:Int)).run P w=_;rw[Pu (by exact hn)];rfl)) h
theorem ZL(hg:AV ⟨dst,.binOp .shr t x y t2,ty,pos,af,g⟩ ops e=true){k2:IntKind}(hx:ev e x=.int .u64 a)(hy:ev e y=.int k2 n)(h:Wq P ops C K rest (put e dst (.int .u64 ((a / 2 ^ n:Nat):Int))))(hn:n<=64:=by decide):Wq P ops C K (⟨dst,.binOp .shr t x y t2,ty,pos,af,g⟩::rest) e :=
 Et hg (fun w _=>Ch hx hy (by show(Op.shift .shr .u64 (a:Int) k2 (n:Int)).run P w=_;rw[Pu (by exact hn)];rfl)) h
theorem PW(hg:AV ⟨dst,.binOp .shl t x y t2,ty,pos,af,g⟩ ops e=true){k2:IntKind}(hx:ev e x=.int .u64 a)(hy:ev e y=.int k2 n)(hn:n<=64)(h:A7 P r ops Q rest (put e dst (.int .u64 ((a*2 ^ n % 18446744073709551616:Nat):Int))) w):A7 P r ops Q (⟨dst,.binOp .shl t x y t2,ty,pos,af,g⟩::rest) e w :=
 B7 hg rfl (Ch hx hy (by show(Op.shift .shl .u64 (a:Int) k2 (n:Int)).run P w=_;rw[Yo rfl (by exact hn)];rfl)) h
theorem Sg(hg:AV ⟨dst,.binOp .shl t x y t2,ty,pos,af,g⟩ ops e=true){k2:IntKind}(hx:ev e x=.int .u64 a)(hy:ev e y=.int k2 n)(h:Wq P ops C K rest (put e dst (.int .u64 ((a*2 ^ n % 18446744073709551616:Nat):Int))))(hn:n<=64:=by decide):Wq P ops C K (⟨dst,.binOp .shl t x y t2,ty,pos,af,g⟩::rest) e :=
 Et hg (fun w _=>Ch hx hy (by show(Op.shift .shl .u64 (a:Int) k2 (n:Int)).run P w=_;rw[Yo rfl (by exact hn)];rfl)) h
end
section
variable {P:Program}{r:Option Nat}{ops rest:List Oper}{Q:Exit->Env->World->Prop}{e:Env}{w w0:World}{S:List Nat}{L:List (Nat × Obj)}{dst:Option Tmp}{ty:TypeId}{pos:String}{af:Array Edge}{g:Option (Nat × Bool)}{C:World->Prop}{K:Env->Prop}
theorem FO{o:Oper}{v:Value}(hg:AV o ops e=true)(hrun:∀w,lax o=true\/C w->(execOp (ev e) o).run P w=.ok (.value v) w)(h:Wt P ops C K rest (put e o.dst v)):Wt P ops C K (o::rest) e:=by
 unfold Wt;rw[if_pos hg];exact⟨v,hrun,h⟩
theorem PX{o:Oper}{v:Value}(hl:lax o=false)(hg:AV o ops e=true)(hrun:∀w,C w->(execOp (ev e) o).run P w=.ok (.value v) w)(h:Wt P ops C K rest (put e o.dst v)):Wt P ops C K (o::rest) e :=
 FO hg (fun w hw=>hrun w (hw.resolve_left (by rw[hl];simp))) h
theorem AU(h:K e):Wt P ops C K [] e:=h
section
variable {t t2:TypeId}{x y:Operand}{k:IntKind}{a b:Int}
theorem B0{t:TypeId}{x:Operand}{p:Addr}{v:Value}(ha:Dt P t=some false)(hx:ev e x=.pointer (some p))(hc:∀w,C w->w.cell? p=some v)(h:Wt P ops C K rest (put e dst v))(hg:AV ⟨dst,.load t x,ty,pos,af,g⟩ ops e=true:=by exact U):Wt P ops C K (⟨dst,.load t x,ty,pos,af,g⟩::rest) e :=
 PX rfl hg (fun w hw=>by simp[execOp,hx,Instr.loadAt,Instr.sureAddr,Gw ha (hc w hw)]) h
theorem LR{t t2:TypeId}{x:Operand}{b i k:Nat}{l:List Value}{v:Value}(ha:Dt P t=some false)(hx:ev e x=.pointer (some ⟨b,i,none⟩))(H:∀w,C w->Ctx w0 S w L)(hk:L[k]?=some (b,Bl t2 l))(hc:l[i]?=some v)(h:Wt P ops C K rest (put e dst v))(hg:AV ⟨dst,.load t x,ty,pos,af,g⟩ ops e=true:=by exact U):Wt P ops C K (⟨dst,.load t x,ty,pos,af,g⟩::rest) e :=
 B0 (hg:=hg) ha hx (fun w hw=>by rw[Aj ((H w hw).get hk)];exact hc) h
theorem G9{t:TypeId}{x:Operand}{b o s:Nat}(l:List Value)(ha:Dt P t=some true)(hs:Ce P t=some s)(hx:ev e x=.pointer (some ⟨b,o,none⟩))(hl:l.length=s)(hc:∀w,C w->∀j v,l[j]?=some v->w.cell? ⟨b,o+j,none⟩=some v)(h:Wt P ops C K rest (put e dst (.agg l.toArray)))(hg:AV ⟨dst,.load t x,ty,pos,af,g⟩ ops e=true:=by exact U):Wt P ops C K (⟨dst,.load t x,ty,pos,af,g⟩::rest) e :=
 PX rfl hg (fun w hw=>by simp[execOp,hx,Instr.loadAt,Instr.sureAddr,FH ha hs hl (hc w hw)]) h
theorem t_eql(hg:AV ⟨dst,.binOp .eql t x y t2,ty,pos,af,g⟩ ops e=true)(hx:ev e x=.int k a)(hy:ev e y=.int k b)(h:Wt P ops C K rest (put e dst (.bool (decide (a=b))))) :
  Wt P ops C K (⟨dst,.binOp .eql t x y t2,ty,pos,af,g⟩::rest) e :=
 FO hg (fun w _=>Ch hx hy (v := .bool (decide (a=b))) (by simp[binOp,Op.intCmp];rfl)) h
theorem Alu(hg:AV ⟨dst,.binOp .rem t x y t2,ty,pos,af,g⟩ ops e=true)(hx:ev e x=.int k a)(hy:ev e y=.int k b)(h:Wt P ops C K rest (put e dst (.int k (a % b))))(h0:0<=a:=by omega)(hb:0<b:=by omega):Wt P ops C K (⟨dst,.binOp .rem t x y t2,ty,pos,af,g⟩::rest) e:=by
 refine FO hg (fun w _=>Ch hx hy (v := .int k (a % b)) ?_) h;have h3:a.tmod b=a % b:=qek h0;simp[binOp,Op.intDiv,h3,show ¬b=0 from by omega]
theorem EB(hx:ev e x=.int .i64 a)(hy:ev e y=.int .i64 b)(h:Wt P ops C K rest (put e dst (.int .i64 (a+b))))(hg:AV ⟨dst,.binOp .add t x y t2,ty,pos,af,g⟩ ops e=true:=by exact U)(h1: -9223372036854775808<=a+b:=by omega)(h2:a+b<=9223372036854775807:=by omega):Wt P ops C K (⟨dst,.binOp .add t x y t2,ty,pos,af,g⟩::rest) e:=FO hg (fun w _=>Ch hx hy (by simp[binOp,Op.intArith,Dm (k := .i64) (n:=a+b) h1 h2])) h
theorem Fq(hx:ev e x=.int .i64 a)(hy:ev e y=.int .i64 b)(h:Wt P ops C K rest (put e dst (.int .i64 (a - b))))(hg:AV ⟨dst,.binOp .sub t x y t2,ty,pos,af,g⟩ ops e=true:=by exact U)(h1: -9223372036854775808<=a - b:=by omega)(h2:a - b<=9223372036854775807:=by omega):Wt P ops C K (⟨dst,.binOp .sub t x y t2,ty,pos,af,g⟩::rest) e:=FO hg (fun w _=>Ch hx hy (by simp[binOp,Op.intArith,Dm (k := .i64) (n:=a - b) h1 h2])) h
theorem ZM(hg:AV ⟨dst,.binOp .mul t x y t2,ty,pos,af,g⟩ ops e=true)(hx:ev e x=.int .i64 a)(hy:ev e y=.int .i64 b)(h:Wt P ops C K rest (put e dst (.int .i64 (a*b))))(h1: -9223372036854775808<=a*b:=by omega)(h2:a*b<=9223372036854775807:=by omega):Wt P ops C K (⟨dst,.binOp .mul t x y t2,ty,pos,af,g⟩::rest) e:=FO hg (fun w _=>Ch hx hy (by simp[binOp,Op.intArith,Dm (k := .i64) (n:=a*b) h1 h2])) h
theorem ZN(hg:AV ⟨dst,.unOp .neg t x,ty,pos,af,g⟩ ops e=true)(hx:ev e x=.int .i64 a)(h:Wt P ops C K rest (put e dst (.int .i64 (- a))))(h1: -9223372036854775808 <= - a:=by omega)(h2: - a<=9223372036854775807:=by omega):Wt P ops C K (⟨dst,.unOp .neg t x,ty,pos,af,g⟩::rest) e:=FO hg (fun w _=>by simp[execOp,hx,Op.unary,Op.intArith,Dm (k := .i64) h1 h2]) h
theorem PY{s d:TypeId}{ds:TypeDesc}(hg:AV ⟨dst,.convert s d x,ty,pos,af,g⟩ ops e=true)(hx:ev e x=.int k a)(hs:P.underlying s=some ds)(hd:P.underlying d=some (.int .u32))(h2:a<=4294967295)(h:Wt P ops C K rest (put e dst (.int .u32 a)))(h1:0<=a:=by omega):Wt P ops C K (⟨dst,.convert s d x,ty,pos,af,g⟩::rest) e :=
 FO hg (fun w _=>by simp[execOp,hx,convert,AO hs,AO hd,Conv.intToInt,Dm (k := .u32) (n:=a) h1 h2]) h
theorem NB(hg:AV ⟨dst,.binOp .add t x y t2,ty,pos,af,g⟩ ops e=true)(hx:ev e x=.int .u64 a)(hy:ev e y=.int .u64 b)(h:Wt P ops C K rest (put e dst (.int .u64 (a+b))))(h1:0<=a+b:=by omega)(h2:a+b<=18446744073709551615:=by omega):Wt P ops C K (⟨dst,.binOp .add t x y t2,ty,pos,af,g⟩::rest) e:=FO hg (fun w _=>Ch hx hy (by simp[binOp,Op.intArith,Dm (k := .u64) (n:=a+b) h1 h2])) h
theorem ZP(hg:AV ⟨dst,.binOp .sub t x y t2,ty,pos,af,g⟩ ops e=true)(hx:ev e x=.int .u64 a)(hy:ev e y=.int .u64 b)(h:Wt P ops C K rest (put e dst (.int .u64 (a - b))))(h1:0<=a - b:=by omega)(h2:a - b<=18446744073709551615:=by omega):Wt P ops C K (⟨dst,.binOp .sub t x y t2,ty,pos,af,g⟩::rest) e:=FO hg (fun w _=>Ch hx hy (by simp[binOp,Op.intArith,Dm (k := .u64) (n:=a - b) h1 h2])) h
theorem WT{s d:TypeId}{ds:TypeDesc}(hg:AV ⟨dst,.convert s d x,ty,pos,af,g⟩ ops e=true)(hx:ev e x=.int k a)(hs:P.underlying s=some ds)(hd:P.underlying d=some (.int .u64))(h:Wt P ops C K rest (put e dst (.int .u64 a)))(h1:0<=a:=by omega)(h2:a<=18446744073709551615:=by omega):Wt P ops C K (⟨dst,.convert s d x,ty,pos,af,g⟩::rest) e :=
 FO hg (fun w _=>by simp[execOp,hx,convert,AO hs,AO hd,Conv.intToInt,Dm (k := .u64) (n:=a) h1 h2]) h
theorem TB{x:Operand}(hg:AV ⟨dst,.move x,ty,pos,af,g⟩ ops e=true)(v:Value)(hx:ev e x=v)(h:Wt P ops C K rest (put e dst v)) :
  Wt P ops C K (⟨dst,.move x,ty,pos,af,g⟩::rest) e:=FO hg (fun w _=>by simp[execOp,hx]) h
theorem UN{x:Operand}(hg:AV ⟨dst,.assign x,ty,pos,af,g⟩ ops e=true)(v:Value)(hx:ev e x=v)(h:Wt P ops C K rest (put e dst v)) :
  Wt P ops C K (⟨dst,.assign x,ty,pos,af,g⟩::rest) e:=FO hg (fun w _=>by simp[execOp,hx]) h
theorem Ba{x:Operand}{p:Addr}(hx:ev e x=.pointer (some p))(h:Wt P ops C K rest (put e dst (.pointer (some p))))(hg:AV ⟨dst,.nilCheck x,ty,pos,af,g⟩ ops e=true:=by exact U):
  Wt P ops C K (⟨dst,.nilCheck x,ty,pos,af,g⟩::rest) e:=FO hg (fun w _=>by simp[execOp,hx]) h
theorem AP{t el:TypeId}{x y:Operand}{b o n c s:Nat}{k:IntKind}{i:Int}(hu:C1 P t=some el)(hs:Ce P el=some s)(hx:ev e x=.slice (some ⟨b,o,none⟩) n c)(hy:ev e y=.int k i)(h:Wt P ops C K rest (put e dst (.pointer (some ⟨b,o+i.toNat*s,none⟩))))(hg:AV ⟨dst,.indexAddr t x y,ty,pos,af,g⟩ ops e=true:=by exact U)(h0:0<=i:=by omega)(h1:i<n:=by omega):
  Wt P ops C K (⟨dst,.indexAddr t x y,ty,pos,af,g⟩::rest) e :=
 FO hg (fun w _=>by simp[execOp,hx,hy,Instr.indexAt,asIntOf,AO (Cx hu),h0,h1,C6 hs,add_none]) h
theorem DL{t el:TypeId}{x y:Operand}{a:Option Addr}{n c s:Nat}{k:IntKind}{i:Int}{α:Type}{enc:α->List Value}{xs:List α}{w1:World}(R:Rd w1 a s enc xs)(hu:C1 P t=some el)(hs:Ce P el=some s)(hx:ev e x=.slice a n c)(hy:ev e y=.int k i)(h:Wt P ops C K rest (put e dst (.pointer (some ⟨(adr a).block,(adr a).off+i.toNat*s,none⟩))))(hg:AV ⟨dst,.indexAddr t x y,ty,pos,af,g⟩ ops e=true:=by exact U)(h0:0<=i:=by omega)(h1:i<n:=by omega)(hn:n=xs.length:=by omega):
  Wt P ops C K (⟨dst,.indexAddr t x y,ty,pos,af,g⟩::rest) e:=by
 obtain⟨b,o,rfl⟩:=R.some' (by rintro rfl;simp at hn;omega);exact AP (hg:=hg) hu hs hx hy (h0:=h0) (h1:=h1) h
theorem PZ{t el:TypeId}{x y:Operand}{b o n s:Nat}{k:IntKind}{i:Int}(hg:AV ⟨dst,.indexAddr t x y,ty,pos,af,g⟩ ops e=true)(hu:UH P t=some (n,el))(hs:Ce P el=some s)(hx:ev e x=.pointer (some ⟨b,o,none⟩))(hy:ev e y=.int k i)(h:Wt P ops C K rest (put e dst (.pointer (some ⟨b,o+i.toNat*s,none⟩))))(h0:0<=i:=by omega)(h1:i<n:=by omega):
  Wt P ops C K (⟨dst,.indexAddr t x y,ty,pos,af,g⟩::rest) e :=
 FO hg (fun w _=>by simp[execOp,hx,hy,Instr.indexAt,asIntOf,AO (WQ hu),Instr.sureAddr,h0,h1,C6 hs,add_none]) h
theorem Alv{t:TypeId}{x:Operand}{a:Option Addr}{n c:Nat}{el:TypeId}(hg:AV ⟨dst,.call ⟨.builtin .len,#[x],#[t]⟩,ty,pos,af,g⟩ ops e=true)(hu:C1 P t=some el)(hx:ev e x=.slice a n c)(h:Wt P ops C K rest (put e dst (.int .i64 n))) :
  Wt P ops C K (⟨dst,.call ⟨.builtin .len,#[x],#[t]⟩,ty,pos,af,g⟩::rest) e :=
 FO hg (fun w _=>by simp[execOp,resolve,invoke,builtin,hx,Builtin.len_,AO (Cx hu),goInt]) h
theorem Acy{t1 t2:TypeId}{x y:Operand}{k:IntKind}{a b:Int}(hg:AV ⟨dst,.call ⟨.builtin .min,#[x,y],#[t1,t2]⟩,ty,pos,af,g⟩ ops e=true)(hx:ev e x=.int k a)(hy:ev e y=.int k b)(h:Wt P ops C K rest (put e dst (.int k (min a b)))) :
  Wt P ops C K (⟨dst,.call ⟨.builtin .min,#[x,y],#[t1,t2]⟩,ty,pos,af,g⟩::rest) e :=
 FO hg (fun w _=>by
  have:(if b<a then b else a)=min a b:=by rw[Int.min_def];split <;> split <;> omega
  simp[execOp,resolve,invoke,builtin,hx,hy,Builtin.min_,Builtin.min2,this]) h
theorem Bs{x:Operand}{i:Nat}{vs:Array Value}{v:Value}(hx:ev e x=.tuple vs)(hv:vs[i]?=some v)(h:Wt P ops C K rest (put e dst v))(hg:AV ⟨dst,.extract x i,ty,pos,af,g⟩ ops e=true:=by exact U):
  Wt P ops C K (⟨dst,.extract x i,ty,pos,af,g⟩::rest) e :=
 FO hg (fun w _=>by simp[execOp,hx,Instr.extract,hv]) h
theorem Ao{t:TypeId}{x:Operand}{i b o off:Nat}(hf:B5 P t i=some off)(hx:ev e x=.pointer (some ⟨b,o,none⟩))(h:Wt P ops C K rest (put e dst (.pointer (some ⟨b,o+off,none⟩))))(hg:AV ⟨dst,.fieldAddr t x i,ty,pos,af,g⟩ ops e=true:=by exact U):
  Wt P ops C K (⟨dst,.fieldAddr t x i,ty,pos,af,g⟩::rest) e:=by
 unfold B5 at hf
 split at hf
 .rename_i fs hu
  split at hf
  .rename_i f hf1
   split at hf
   .rename_i s hs
    injection hf with hf
    subst hf;exact FO hg (fun w _=>by simp[execOp,hx,Instr.fieldAt,AO hu,hf1,Instr.sureAddr,fieldPlace,C6 hs,add_none]) h
   .cases hf
  .cases hf
 .cases hf
end
section
variable {t t2:TypeId}{x y:Operand}{a b n:Nat}{s d:TypeId}
end
end
section
variable {P:Program}{r:Option Nat}{ops rest:List Oper}{Q:Exit->Env->World->Prop}{e:Env}{w:World}{C:World->Prop}{K:Env->Prop}{dst:Option Tmp}{ty:TypeId}{pos:String}{af:Array Edge}{g:Option (Nat × Bool)}{x:Operand}
theorem Af{k:IntKind}{i:Int}(hx:ev e x=(.int k i))(h:A7 P r ops Q rest (put e dst (.int k i)) w)(hg:AV ⟨dst,.move x,ty,pos,af,g⟩ ops e=true:=by exact U):A7 P r ops Q (⟨dst,.move x,ty,pos,af,g⟩::rest) e w:=C7 (hg:=hg) (.int k i) hx h
theorem AX{k:IntKind}{i:Int}(hx:ev e x=(.int k i))(h:Wq P ops C K rest (put e dst (.int k i)))(hg:AV ⟨dst,.move x,ty,pos,af,g⟩ ops e=true:=by exact U):Wq P ops C K (⟨dst,.move x,ty,pos,af,g⟩::rest) e:=N9 hg (.int k i) hx h
theorem Bj{k:IntKind}{i:Int}(hx:ev e x=(.int k i))(h:Wt P ops C K rest (put e dst (.int k i)))(hg:AV ⟨dst,.move x,ty,pos,af,g⟩ ops e=true:=by exact U):Wt P ops C K (⟨dst,.move x,ty,pos,af,g⟩::rest) e:=TB hg (.int k i) hx h
theorem A2{b:Bool}(hx:ev e x=(.bool b))(h:A7 P r ops Q rest (put e dst (.bool b)) w)(hg:AV ⟨dst,.move x,ty,pos,af,g⟩ ops e=true:=by exact U):A7 P r ops Q (⟨dst,.move x,ty,pos,af,g⟩::rest) e w:=C7 (hg:=hg) (.bool b) hx h
theorem CW{b:Bool}(hx:ev e x=(.bool b))(h:Wq P ops C K rest (put e dst (.bool b)))(hg:AV ⟨dst,.move x,ty,pos,af,g⟩ ops e=true:=by exact U):Wq P ops C K (⟨dst,.move x,ty,pos,af,g⟩::rest) e:=N9 hg (.bool b) hx h
theorem Ap{a:Option Addr}{n c:Nat}(hx:ev e x=(.slice a n c))(h:A7 P r ops Q rest (put e dst (.slice a n c)) w)(hg:AV ⟨dst,.move x,ty,pos,af,g⟩ ops e=true:=by exact U):A7 P r ops Q (⟨dst,.move x,ty,pos,af,g⟩::rest) e w:=C7 (hg:=hg) (.slice a n c) hx h
theorem Ca{a:Option Addr}{n c:Nat}(hx:ev e x=(.slice a n c))(h:Wq P ops C K rest (put e dst (.slice a n c)))(hg:AV ⟨dst,.move x,ty,pos,af,g⟩ ops e=true:=by exact U):Wq P ops C K (⟨dst,.move x,ty,pos,af,g⟩::rest) e:=N9 hg (.slice a n c) hx h
theorem B3{a:Option Addr}{n c:Nat}(hx:ev e x=(.slice a n c))(h:Wt P ops C K rest (put e dst (.slice a n c)))(hg:AV ⟨dst,.move x,ty,pos,af,g⟩ ops e=true:=by exact U):Wt P ops C K (⟨dst,.move x,ty,pos,af,g⟩::rest) e:=TB hg (.slice a n c) hx h
theorem A4{p:Option Addr}(hx:ev e x=(.pointer p))(h:A7 P r ops Q rest (put e dst (.pointer p)) w)(hg:AV ⟨dst,.move x,ty,pos,af,g⟩ ops e=true:=by exact U):A7 P r ops Q (⟨dst,.move x,ty,pos,af,g⟩::rest) e w:=C7 (hg:=hg) (.pointer p) hx h
theorem BE{p:Option Addr}(hx:ev e x=(.pointer p))(h:Wq P ops C K rest (put e dst (.pointer p)))(hg:AV ⟨dst,.move x,ty,pos,af,g⟩ ops e=true:=by exact U):Wq P ops C K (⟨dst,.move x,ty,pos,af,g⟩::rest) e:=N9 hg (.pointer p) hx h
theorem BG{p:Option Addr}(hx:ev e x=(.pointer p))(h:Wt P ops C K rest (put e dst (.pointer p)))(hg:AV ⟨dst,.move x,ty,pos,af,g⟩ ops e=true:=by exact U):Wt P ops C K (⟨dst,.move x,ty,pos,af,g⟩::rest) e:=TB hg (.pointer p) hx h
theorem Cr{l:Array Value}(hx:ev e x=(.tuple l))(h:A7 P r ops Q rest (put e dst (.tuple l)) w)(hg:AV ⟨dst,.move x,ty,pos,af,g⟩ ops e=true:=by exact U):A7 P r ops Q (⟨dst,.move x,ty,pos,af,g⟩::rest) e w:=C7 (hg:=hg) (.tuple l) hx h
theorem DH{l:Array Value}(hx:ev e x=(.tuple l))(h:Wt P ops C K rest (put e dst (.tuple l)))(hg:AV ⟨dst,.move x,ty,pos,af,g⟩ ops e=true:=by exact U):Wt P ops C K (⟨dst,.move x,ty,pos,af,g⟩::rest) e:=TB hg (.tuple l) hx h
theorem UO{p:Option Nat}(hg:AV ⟨dst,.move x,ty,pos,af,g⟩ ops e=true)(hx:ev e x=(.map p))(h:A7 P r ops Q rest (put e dst (.map p)) w):A7 P r ops Q (⟨dst,.move x,ty,pos,af,g⟩::rest) e w:=C7 (hg:=hg) (.map p) hx h
theorem Ad{k:IntKind}{i:Int}(hx:ev e x=(.int k i))(h:A7 P r ops Q rest (put e dst (.int k i)) w)(hg:AV ⟨dst,.assign x,ty,pos,af,g⟩ ops e=true:=by exact U):A7 P r ops Q (⟨dst,.assign x,ty,pos,af,g⟩::rest) e w:=Dd hg (.int k i) hx h
theorem Dv{k:IntKind}{i:Int}(hx:ev e x=(.int k i))(h:Wq P ops C K rest (put e dst (.int k i)))(hg:AV ⟨dst,.assign x,ty,pos,af,g⟩ ops e=true:=by exact U):Wq P ops C K (⟨dst,.assign x,ty,pos,af,g⟩::rest) e:=PU hg (.int k i) hx h
theorem Fs{k:IntKind}{i:Int}(hx:ev e x=(.int k i))(h:Wt P ops C K rest (put e dst (.int k i)))(hg:AV ⟨dst,.assign x,ty,pos,af,g⟩ ops e=true:=by exact U):Wt P ops C K (⟨dst,.assign x,ty,pos,af,g⟩::rest) e:=UN hg (.int k i) hx h
theorem Ai{b:Bool}(hx:ev e x=(.bool b))(h:A7 P r ops Q rest (put e dst (.bool b)) w)(hg:AV ⟨dst,.assign x,ty,pos,af,g⟩ ops e=true:=by exact U):A7 P r ops Q (⟨dst,.assign x,ty,pos,af,g⟩::rest) e w:=Dd hg (.bool b) hx h
theorem NC{b:Bool}(hg:AV ⟨dst,.assign x,ty,pos,af,g⟩ ops e=true)(hx:ev e x=(.bool b))(h:Wq P ops C K rest (put e dst (.bool b))):Wq P ops C K (⟨dst,.assign x,ty,pos,af,g⟩::rest) e:=PU hg (.bool b) hx h
theorem Am{a:Option Addr}{n c:Nat}(hx:ev e x=(.slice a n c))(h:A7 P r ops Q rest (put e dst (.slice a n c)) w)(hg:AV ⟨dst,.assign x,ty,pos,af,g⟩ ops e=true:=by exact U):A7 P r ops Q (⟨dst,.assign x,ty,pos,af,g⟩::rest) e w:=Dd hg (.slice a n c) hx h
theorem Sh{a:Option Addr}{n c:Nat}(hg:AV ⟨dst,.assign x,ty,pos,af,g⟩ ops e=true)(hx:ev e x=(.slice a n c))(h:Wq P ops C K rest (put e dst (.slice a n c))):Wq P ops C K (⟨dst,.assign x,ty,pos,af,g⟩::rest) e:=PU hg (.slice a n c) hx h
theorem EC{a:Option Addr}{n c:Nat}(hx:ev e x=(.slice a n c))(h:Wt P ops C K rest (put e dst (.slice a n c)))(hg:AV ⟨dst,.assign x,ty,pos,af,g⟩ ops e=true:=by exact U):Wt P ops C K (⟨dst,.assign x,ty,pos,af,g⟩::rest) e:=UN hg (.slice a n c) hx h
theorem Cn{p:Option Addr}(hx:ev e x=(.pointer p))(h:A7 P r ops Q rest (put e dst (.pointer p)) w)(hg:AV ⟨dst,.assign x,ty,pos,af,g⟩ ops e=true:=by exact U):A7 P r ops Q (⟨dst,.assign x,ty,pos,af,g⟩::rest) e w:=Dd hg (.pointer p) hx h
theorem WU{p:Option Nat}(hg:AV ⟨dst,.assign x,ty,pos,af,g⟩ ops e=true)(hx:ev e x=(.map p))(h:A7 P r ops Q rest (put e dst (.map p)) w):A7 P r ops Q (⟨dst,.assign x,ty,pos,af,g⟩::rest) e w:=Dd hg (.map p) hx h
end
def bv(b:UInt8):Value := .int .u8 (b.toNat:Int)
def B8(b:UInt8):List Value:=[bv b]
def str(l:List UInt8):Value := .string ⟨l.toArray⟩
theorem Am1(l:List UInt8):∀v∈l.map bv,AY v=true:=fun v hv=>by
 obtain⟨b,_,rfl⟩:=qah.1 hv;rfl
theorem TC{l m:List UInt8}:((⟨l.toArray⟩:ByteArray).toList == (⟨m.toArray⟩:ByteArray).toList)=decide (l=m):=by
 rw[ByteArray.toList_eq,ByteArray.toList_eq];rw[qad];simp
section
variable {P:Program}{r:Option Nat}{ops rest:List Oper}{Q:Exit->Env->World->Prop}{e:Env}{w w0:World}{S:List Nat}{L:List (Nat × Obj)}{dst:Option Tmp}{ty:TypeId}{pos:String}{af:Array Edge}{g:Option (Nat × Bool)}{C:World->Prop}{K:Env->Prop}
theorem Qa{src dst' el:TypeId}{a:Option Addr}{c:Nat}{l:List UInt8}(hs:C1 P src=some el)(he:P.underlying el=some (.int .u8))(hd:P.underlying dst'=some .string)(R:Rd w a 1 B8 l) :
  (convert src dst' (.slice a l.length c)).run P w=.ok (str l) w:=by
 cases a with
 |none =>
  have h0:l=[]:=by
   cases l with
   |nil=>rfl
   |cons x l=>obtain⟨b,o,h⟩:=R.some' (by simp);cases h
  subst h0;simp[convert,AO (Cx hs),AO hd,AO he,Conv.bytesToString,str];rfl
 |some p =>
  refine run_convert_bytes_back w src dst' el p c l (Cx hs) he hd fun j hj=>?_;have hx:l[j]?=some l[j]:=qbl hj;obtain⟨b,o,hp⟩:=R.some' (by rintro rfl;simp at hj)
  injection hp with hp
  subst hp;have:=Rd.one (f:=bv) R hx;rw[add_none]
  simpa[adr,bv]using this
theorem JJ{s d el:TypeId}{x:Operand}{a:Option Addr}{c:Nat}{l:List UInt8}(hs:C1 P s=some el)(he:P.underlying el=some (.int .u8))(hd:P.underlying d=some .string)(hx:ev e x=.slice a l.length c)(R:Rd w a 1 B8 l)(h:A7 P r ops Q rest (put e dst (str l)) w)(hg:AV ⟨dst,.convert s d x,ty,pos,af,g⟩ ops e=true:=by exact U):A7 P r ops Q (⟨dst,.convert s d x,ty,pos,af,g⟩::rest) e w :=
 B7 hg rfl (by simp[execOp,hx,Qa hs he hd R]) h
theorem TD{s d el:TypeId}{x:Operand}{a:Option Addr}{c:Nat}{l:List UInt8}(hg:AV ⟨dst,.convert s d x,ty,pos,af,g⟩ ops e=true)(hs:C1 P s=some el)(he:P.underlying el=some (.int .u8))(hd:P.underlying d=some .string)(hx:ev e x=.slice a l.length c)(R:∀w,C w->Rd w a 1 B8 l)(h:Wq P ops C K rest (put e dst (str l))):Wq P ops C K (⟨dst,.convert s d x,ty,pos,af,g⟩::rest) e :=
 Et hg (fun w hw=>by simp[execOp,hx,Qa hs he hd (R w hw)]) h
theorem Am2{s d el:TypeId}{x:Operand}{a:Option Addr}{c:Nat}{l:List UInt8}(hg:AV ⟨dst,.convert s d x,ty,pos,af,g⟩ ops e=true)(hs:C1 P s=some el)(he:P.underlying el=some (.int .u8))(hd:P.underlying d=some .string)(hx:ev e x=.slice a l.length c)(R:∀w,C w->Rd w a 1 B8 l)(h:Wt P ops C K rest (put e dst (str l))):Wt P ops C K (⟨dst,.convert s d x,ty,pos,af,g⟩::rest) e :=
 PX rfl hg (fun w hw=>by simp[execOp,hx,Qa hs he hd (R w hw)]) h
theorem UP{t t2:TypeId}{x y:Operand}{l m:List UInt8}(hg:AV ⟨dst,.binOp .eql t x y t2,ty,pos,af,g⟩ ops e=true)(hx:ev e x=str l)(hy:ev e y=str m)(h:A7 P r ops Q rest (put e dst (.bool (decide (l=m)))) w):A7 P r ops Q (⟨dst,.binOp .eql t x y t2,ty,pos,af,g⟩::rest) e w :=
 B7 hg rfl (by
  have hq:eqGuard .eql t x y (.string ⟨l.toArray⟩) (.string ⟨m.toArray⟩)=pure ():=rfl
  simp only[execOp,hx,hy,hq,Sem.run_bind,Sem.run_pure,Result.andThen_ok,binOp,str,Op.stringOp,TC]) h
theorem UQ{t t2:TypeId}{x y:Operand}{l m:List UInt8}(hg:AV ⟨dst,.binOp .neq t x y t2,ty,pos,af,g⟩ ops e=true)(hx:ev e x=str l)(hy:ev e y=str m)(h:A7 P r ops Q rest (put e dst (.bool (!decide (l=m)))) w):A7 P r ops Q (⟨dst,.binOp .neq t x y t2,ty,pos,af,g⟩::rest) e w :=
 B7 hg rfl (by
  have hq:eqGuard .neq t x y (.string ⟨l.toArray⟩) (.string ⟨m.toArray⟩)=pure ():=rfl
  simp only[execOp,hx,hy,hq,Sem.run_bind,Sem.run_pure,Result.andThen_ok,binOp,str,Op.stringOp,TC]) h
theorem L5{t k el:TypeId}{kk:IntKind}{x y z:Operand}{b j:Nat}{o:Obj}{m:List (Int × Value)}{n:Int}(v:Value)(hg:AV ⟨dst,.insert t x y z,ty,pos,af,g⟩ ops e=true)(ht:Ip P t=some (k,el))(hk:P.underlying k=some (.int kk))(hx:ev e x=.map (some b))(hy:ev e y=.int kk n)(hv:ev e z=v)(H:Ctx w0 S w L)(hl:L[j]?=some (b,o))(hM:Df kk m o)(h:∀o' w',Df kk (Ku m n v) o'->Ctx w0 S w' (L.set j (b,o'))->A7 P r ops Q rest (put e dst undef) w'):A7 P r ops Q (⟨dst,.insert t x y z,ty,pos,af,g⟩::rest) e w:=by
 obtain⟨o',w',hr,hM',H'⟩:=LQ (n:=n) v ht hk H hl hM;exact Lz hg U (by simp[execOp,hx,hy,hv,hr]) (h o' w' hM' H')
theorem Am3(l:List UInt8)(n:Nat):(⟨l.toArray⟩:ByteArray)[n]?=l[n]? := by
 by_cases h:n<l.length
 .rw[qbl h,getElem?_pos (⟨l.toArray⟩:ByteArray) n (by simpa[ByteArray.size]using h)];rfl
 .rw[qbi (by omega),getElem?_neg (⟨l.toArray⟩:ByteArray) n (by simpa[ByteArray.size]using h)]
theorem ZQ{t:TypeId}{x y:Operand}{k:IntKind}{i:Int}{l:List UInt8}(b:UInt8)(hg:AV ⟨dst,.index t x y,ty,pos,af,g⟩ ops e=true)(hu:P.underlying t=some .string)(hy:ev e y=.int k i)(hb:l[i.toNat]?=some b)(h:A7 P r ops Q rest (put e dst (bv b)) w)(hx:ev e x=str l:=by kernel_rfl)(h0:0<=i:=by omega):A7 P r ops Q (⟨dst,.index t x y,ty,pos,af,g⟩::rest) e w :=
 B7 hg rfl (by simp[execOp,Instr.index,hx,hy,str,asIntOf,AO hu,h0,Am3,hb,bv]) h
theorem Acz:∀(A B C M:List Value),B.length=M.length->over (A++(B++C)) A.length M=A++(M++C):=by
 intro A B C M
 induction M generalizing A B with
 |nil=>intro h;have:B=[]:=qb0 (by simpa using h);subst this;simp[over]
 |cons v M ih =>
  intro h
  cases B with
  |nil=>simp at h
  |cons x B =>
   have:=ih (A++[v]) B (by simpa using h);simp only[over];rw[show(A++(x::B++C)).set A.length v=A++[v]++(B++C)from by simp];rw[show A.length+1=(A++[v]).length from by simp,this];simp
end
section
variable {P:Program}{r:Option Nat}{ops rest:List Oper}{Q:Exit->Env->World->Prop}{e:Env}{w w0:World}{S:List Nat}{L:List (Nat × Obj)}{dst:Option Tmp}{ty:TypeId}{pos:String}{af:Array Edge}{g:Option (Nat × Bool)}
theorem Yp{C:World->Prop}{K:Env->Prop}{t t2:TypeId}{x y:Operand}{l m:List UInt8}(hg:AV ⟨dst,.binOp .neq t x y t2,ty,pos,af,g⟩ ops e=true)(hx:ev e x=str l)(hy:ev e y=str m)(h:Wq P ops C K rest (put e dst (.bool !decide (l=m)))):Wq P ops C K (⟨dst,.binOp .neq t x y t2,ty,pos,af,g⟩::rest) e :=
 Et hg (fun w _=>by
  have hq:eqGuard .neq t x y (.string ⟨l.toArray⟩) (.string ⟨m.toArray⟩)=pure ():=rfl
  simp only[execOp,hx,hy,hq,Sem.run_bind,Sem.run_pure,Result.andThen_ok,binOp,str,Op.stringOp,TC]) h
theorem Yq{t t2:TypeId}{x y:Operand}{k:IntKind}{a b:Int}(hg:AV ⟨dst,.binOp .rem t x y t2,ty,pos,af,g⟩ ops e=true)(hx:ev e x=.int k a)(hy:ev e y=.int k b)(hb:0<b)(h:A7 P r ops Q rest (put e dst (.int k (a.tmod b))) w):A7 P r ops Q (⟨dst,.binOp .rem t x y t2,ty,pos,af,g⟩::rest) e w :=
 B7 hg rfl (Ch hx hy (v := .int k (a.tmod b)) (by simp[binOp,Op.intDiv,show ¬b=0 from by omega])) h
end
section
variable {P:Program}{r:Option Nat}{ops rest:List Oper}{Q:Exit->Env->World->Prop}{e:Env}{w w0:World}{S:List Nat}{L:List (Nat × Obj)}{dst:Option Tmp}{ty:TypeId}{pos:String}{af:Array Edge}{g:Option (Nat × Bool)}{n:Nat}
theorem Gi{α:Type}{x:Code}{K:Env->World->Prop}(D:Nat)(live:α->List (Nat × Value))(I:α->World->Prop)(hD:GN D x=true)(h:W P r n x (Gt (fun e' w'=>∃z,e'.ds=e.ds/\Oq e' (live z)/\I z w') Q) e w)(hk:∀z j w',I z w'->K (WH (ZA e D j) (live z)) w'):W P r n x (Gt K Q) e w:=by
 refine EN x (Md (S:=Same D e) ?_) (Ha x _ e w hD (Same.refl _ _) h);rintro e' w' hs ⟨z,hd,hl,hI⟩;have:=hk z e'.g w' hI;rw[<-hs.eq hd,PC hl]at this;exact this
def Am4(l:Nat)(R:Value->World->Prop):Exit->Env->World->Prop
 | .normal,_,w=>∃lo,w.heap[l]?=some (.loop lo)/\R (.bool true) (w.putObj l (.loop { lo with state := .ready,pending:=none }))
 | .ret,_,w=>∃lo,w.heap[l]?=some (.loop lo)/\R (.bool false) (w.putObj l (.loop { lo with state := .done,pending:=some .ret }))
 | .exit id,_,w=>∃lo,w.heap[l]?=some (.loop lo)/\R (.bool false) (w.putObj l (.loop { lo with state := .done,pending:=some (.exit id) }))
 | .goto t,_,w=>∃lo,w.heap[l]?=some (.loop lo)/\R (.bool false) (w.putObj l (.loop { lo with state := .done,pending:=some (.goto t) }))
 |_,_,_=>False
def Am5(P:Program)(l n:Nat)(body:Code)(R:Value->World->Prop):Exit->Env->World->Prop
 | .normal,e,w=>∃lo,w.heap[l]?=some (.loop lo)/\lo.state=.ready/\W P (some l) n body (Am4 l R) e (w.putObj l (.loop { lo with state := .busy }))
 |_,_,_=>False
theorem Mj{l f:Nat}{tmps:Array Value}{assign body:Code}{R:Value->World->Prop}(e0:Env)(hs:Sim n e0 { tmps:=tmps,defers:=[] })(hfit:(IJ n assign && IJ n body)=true)(h:W P (some l) n assign (Am5 P l n body R) e0 w):RoundIn Fence.wide 0 P l f tmps assign body w fun x w'=>∃v,x=.returned v/\R v w':=by
 simp only[qae]at hfit;refine roundIn_of_wpIn trivial ?_;have h1:=G2 (r:=some l) assign _ e0 w h hfit.1 _ hs;refine wpIn_mono (F:=Fr (some l)) h1 ?_;rintro x a w1 ⟨e1,hs1,hq⟩
 cases x with
 |normal =>
  obtain⟨lo,hl,hst,hb⟩:=hq;refine⟨_,run_beginRound hl hst,?_⟩;refine wpIn_mono (F:=Fr (some l)) (G2 (r:=some l) body _ e1 _ hb hfit.2 _ hs1) ?_;rintro y a2 w2 ⟨e2,_,hq2⟩
  cases y with
  |normal=>obtain⟨lo2,hl2,hR⟩:=hq2;exact⟨_,_,run_endRound none hl2,_,rfl,hR⟩
  |ret=>obtain⟨lo2,hl2,hR⟩:=hq2;exact⟨_,_,run_endRound (some .ret) hl2,_,rfl,hR⟩
  |exit id=>obtain⟨lo2,hl2,hR⟩:=hq2;exact⟨_,_,run_endRound (some (.exit id)) hl2,_,rfl,hR⟩
  |goto t=>obtain⟨lo2,hl2,hR⟩:=hq2;exact⟨_,_,run_endRound (some (.goto t)) hl2,_,rfl,hR⟩
  |panic c=>exact hq2.elim
  |outgrown=>exact hq2.elim
 |exit id=>exact hq.elim
 |goto t=>exact hq.elim
 |ret=>exact hq.elim
 |panic c=>exact hq.elim
 |outgrown=>exact hq.elim
def YieldAt(P:Program)(l:Nat)(vs:List Value)(w:World)(R:Value->World->Prop):Prop :=
 ∃fn tmps assign body,(Instr.yield l vs.toArray).run P w=.ok (.round l fn tmps assign body) w/\RoundIn Fence.wide 0 P l fn tmps assign body w fun x w'=>∃v,x=.returned v/\R v w'
theorem YieldAt.mono{l:Nat}{vs:List Value}{R R':Value->World->Prop}(h:YieldAt P l vs w R)(hr:∀v w',R v w'->R' v w'):YieldAt P l vs w R' :=
 let ⟨fn,tmps,assign,body,h1,h2⟩:=h
 ⟨fn,tmps,assign,body,h1,RoundIn.mono h2 fun _ _ ⟨v,hx,hR⟩=>⟨v,hx,hr _ _ hR⟩⟩
theorem Hl{fo:Operand}{l:Nat}{args:Array Operand}{ats:Array TypeId}{vs:List Value}{R:Value->World->Prop}(hfo:ev e fo=.func (.yield l) #[] #[])(hy:YieldAt P l vs w R)(ha:args.toList.map (ev e)=vs)(h:∀v w',R v w'->A7 P r ops Q rest (put e dst v) w')(hg:AV ⟨dst,.call ⟨.value fo,args,ats⟩,ty,pos,af,g⟩ ops e=true:=by exact U):
  A7 P r ops Q (⟨dst,.call ⟨.value fo,args,ats⟩,ty,pos,af,g⟩::rest) e w:=by
 obtain⟨fn,tmps,assign,body,hy,hr⟩:=hy;have hav:args.map (ev e)=vs.toArray:=by subst ha;apply qb4;simp only[qcu]
 unfold A7;rw[if_pos hg,Oper.semAt_eq r _ _ (K5 rfl)]
 have hrun:(execOp (ev e) ⟨dst,.call ⟨.value fo,args,ats⟩,ty,pos,af,g⟩).run P w=.ok (.round l fn tmps assign body) w:=by
  simp[execOp,resolve,hfo,Deferred.ofValue,invoke,hav,hy]
 rw[hrun];exact RoundIn.mono hr fun _ _ ⟨v,hx,hR⟩=>⟨v,hx,h _ _ hR⟩
theorem Qb{l:Nat}{vs:List Value}{lo:Loop}{R:Value->World->Prop}(hl:w.heap[l]?=some (.loop lo))(hs:vs.length=lo.params.size)(hr:RoundIn Fence.wide 0 P l lo.fn ((lo.params.zip vs.toArray).foldl (fun tmps (t,a)=>tmps.setIfInBounds t a) lo.tmps) lo.assign lo.body w fun x w'=>∃v,x=.returned v/\R v w'):YieldAt P l vs w R :=
 ⟨_,_,_,_,run_yield hl (by simpa using hs),hr⟩
theorem KF{f:Operand}{ps:Array Tmp}{assign body:Code}{gf:Nat}{ca:Array Value}(hf:ev e f=.func (.func gf) #[] ca)(hc:Aq P gf=true)(h:∀fn tmps,tmps.size=n->(∀i,tmps.getD i undef=e.g i)->∀D l w2,D=w.heap.size->l=w.heap.size+1->Ext [] w w2->w2.heap[D]?=some (.deferred (some [])) ->
   w2.heap[l]?=some (.loop { state := .ready,pending:=none,fn,tmps,params:=ps,assign,body,defers:=D }) ->
   Ret P gf (#[.func (.yield l) #[] #[]]++ca) w2 fun _ w3=>∃lo,w3.heap[l]?=some (.loop lo)/\lo.state ≠ .busy /\
    N2 Q ⟨e.g,{ target := .collected D,args:=#[] }::e.ds⟩ (w3.putObj l (.loop { lo with state := .exhausted })) lo.pending):W P none n (.rangeFunc f ps assign body) Q e w:=by
 refine⟨_,rfl,fun fn tmps hn ht=>?_⟩;have hx1:=Ext.alloc ([]:List Nat) w (.deferred (some []));have hx2:=Ext.alloc ([]:List Nat) (w.alloc (.deferred (some []))) (.loop { state := .ready,pending:=none,fn,tmps,params:=ps,assign,body,defers:=w.heap.size });have hD:(w.alloc (.deferred (some []))).heap[w.heap.size]?=some (.deferred (some [])):=World.alloc_heap_new w _
 have h1:=h fn tmps hn ht w.heap.size (w.heap.size+1) _ rfl rfl (hx1.trans hx2) (by rw[hx2.block w.heap.size (by simp) (by simp)];exact hD)
  (by have:=World.alloc_heap_new (w.alloc (.deferred (some []))) (.loop { state := .ready,pending:=none,fn,tmps,params:=ps,assign,body,defers:=w.heap.size });rwa [World.size_alloc]at this)
 refine⟨gf,#[],ca,hf,?_,?_⟩
 .exact HW hc _ _
 .have hsz:(IM none w).heap.size=w.heap.size+1:=by simp[IM]
  simp only[hsz];have harr:#[]++#[Value.func (.yield (w.heap.size+1)) #[] #[]]++ca=#[Value.func (.yield (w.heap.size+1)) #[] #[]]++ca:=by simp
  rw[harr];exact h1
def Marks:List Deferred->World->(World->Prop)->Prop
 | [],w,K=>K w
 |d::ds,w,K=>∃D,d.target=.collected D/\w.heap[D]?=some (.deferred (some []))/\Marks ds (w.putObj D (.deferred none)) K
def UR(P:Program)(fn:Func)(R:Value->World->Prop):Exit->Env->World->Prop
 | .normal,e,w | .ret,e,w=>Marks e.ds w fun w'=>∀tmps:Array Value,(∀i,tmps.getD i undef=e.g i)->∃v,(results fn tmps).run P w'=.ok v w'/\R v w'
 |_,_,_=>False
theorem MH{fn:Func}{R:Value->World->Prop}{tmps:Array Value}:∀{ds:List Deferred} {w:World},(Marks ds w fun w'=>∃v,(results fn tmps).run P w'=.ok v w'/\R v w') ->
  LeavesInM Fence.wide 0 P fn tmps (fun x w'=>∃v,x=.returned v/\R v w') ds .returning w
 | [],w,⟨v,h1,h2⟩=>⟨v,h1,v,rfl,h2⟩
 |d::ds,w,⟨D,h1,h2,h3⟩=>⟨by simp,.inl ⟨D,_,h1,run_takeDeferred h2,MH h3⟩⟩
theorem Marks.mono:∀{ds:List Deferred} {w:World} {K K':World->Prop},(∀w,K w->K' w)->Marks ds w K->Marks ds w K'
 | [],_,_,_,h,hk=>h _ hk
 |_::_,_,_,_,h,⟨D,h1,h2,h3⟩=>⟨D,h1,h2,Marks.mono h h3⟩
theorem Ii{f:FuncId}{fn:Func}{c:Code}{args:Array Value}{R:Value->World->Prop}(hf:P.funcs[f]?=some fn)(hb:fn.body=some c)(l:List Value)(hargs:args=l.toArray)(h:W P none fn.ntmps c (UR P fn R) ⟨fun i=>l.getD i undef,[]⟩ w)(hfit:(Nat.ble l.length fn.ntmps && IJ fn.ntmps c)=true:=by kernel_rfl):Ret P f args w R:=by
 simp only[qae]at hfit;refine callsIn_of_wp_marks hf hb trivial (wpIn_mono (G2 (r:=none) c _ _ w h hfit.2 _ ?_) ?_)
 .refine⟨rfl,?_,fun i=>?_⟩
  .subst hargs;have:=qd2 hfit.1;simp;omega
  .subst hargs;simp only[qax,qbu];rw[Array.getElem?_append]
   by_cases hi:i<l.length
   .simp[hi]
   .simp only[List.size_toArray,if_neg hi];rw[qbi (by omega)];rw[Array.getElem?_replicate]
    split <;> rfl
 .rintro x a' w' ⟨e',hs',hq⟩
  have hgo:∀w',(Marks e'.ds w' fun w'=>∀tmps:Array Value,(∀i,tmps.getD i undef=e'.g i)->∃v,(results fn tmps).run P w'=.ok v w'/\R v w') ->
    LeavesInM Fence.wide 0 P fn a'.tmps (fun x w'=>∃v,x=.returned v/\R v w') a'.defers .returning w':=fun w' hm=>by
   rw[hs'.1];exact MH (Marks.mono (fun w hk=>hk _ hs'.2.2) hm)
  cases x with
  |normal=>exact hgo _ hq
  |ret=>exact hgo _ hq
  |exit id=>exact hq.elim
  |goto l=>exact hq.elim
  |panic c=>exact hq.elim
  |outgrown=>exact hq.elim
theorem MJ{fn:Func}{R:Value->World->Prop}{t:Tmp}{v:Value}(hr:fn.results=#[.tmp t])(hv:e.g t=v)(h:Marks e.ds w (R v)):UR P fn R .ret e w :=
 Marks.mono (fun w h tmps ht=>by
  have h1:=(ht t).trans hv;rw[qax]at h1
  exact⟨v,by simp[results,hr,h1],h⟩) h
end
section
variable {P:Program}{e:Env}{w w0:World}{S:List Nat}{L:List (Nat × Obj)}{fn:Func}{R:Value->World->Prop}
theorem Ai0{a s2:Tmp}{t:TypeId}{p:Addr}{v v2:Value}(hr:fn.results=#[.cell a t,.tmp s2])(hd:e.ds=[])(ha:e.g a=.pointer (some p))(hv:(loadVar t p).run P w=.ok v w)(h2:e.g s2=v2)(h:R (.tuple #[v,v2]) w):N3 P fn R .ret e w :=
 ⟨hd,fun tmps ht=>by
  have h1:=(ht a).trans ha;have g2:=(ht s2).trans h2;rw[qax]at h1 g2
  exact⟨.tuple #[v,v2],by simp[results,hr,h1,g2,asAddr,hv],h⟩⟩
theorem Ai1{a s2 s3:Tmp}{t:TypeId}{p:Addr}{v v2 v3:Value}(hr:fn.results=#[.cell a t,.tmp s2,.tmp s3])(hd:e.ds=[])(ha:e.g a=.pointer (some p))(hv:(loadVar t p).run P w=.ok v w)(h2:e.g s2=v2)(h3:e.g s3=v3)(h:R (.tuple #[v,v2,v3]) w):N3 P fn R .ret e w :=
 ⟨hd,fun tmps ht=>by
  have h1:=(ht a).trans ha;have g2:=(ht s2).trans h2;have g3:=(ht s3).trans h3;rw[qax]at h1 g2 g3
  exact⟨.tuple #[v,v2,v3],by simp[results,hr,h1,g2,g3,asAddr,hv],h⟩⟩
theorem IR{a s2:Tmp}{t t2:TypeId}{b k s:Nat}{l:List Value}{v2:Value}(hr:fn.results=#[.cell a t,.tmp s2])(hd:e.ds=[])(ha:e.g a=.pointer (some ⟨b,0,none⟩))(hag:Dt P t=some true)(hs:Ce P t=some s)(H:Ctx w0 S w L)(hk:L[k]?=some (b,Bl t2 l))(hl:l.length=s)(h2:e.g s2=v2)(h:R (.tuple #[.agg l.toArray,v2]) w):N3 P fn R .ret e w :=
 Ai0 hr hd ha (FH hag hs hl (fun j v hv=>by rw[Aj (H.get hk),qaz];exact hv)) h2 h
theorem Ai2{a s2 s3:Tmp}{t t2:TypeId}{b k s:Nat}{l:List Value}{v2 v3:Value}(hr:fn.results=#[.cell a t,.tmp s2,.tmp s3])(hd:e.ds=[])(ha:e.g a=.pointer (some ⟨b,0,none⟩))(hag:Dt P t=some true)(hs:Ce P t=some s)(H:Ctx w0 S w L)(hk:L[k]?=some (b,Bl t2 l))(hl:l.length=s)(h2:e.g s2=v2)(h3:e.g s3=v3)(h:R (.tuple #[.agg l.toArray,v2,v3]) w):N3 P fn R .ret e w :=
 Ai1 hr hd ha (FH hag hs hl (fun j v hv=>by rw[Aj (H.get hk),qaz];exact hv)) h2 h3 h
end
section
variable {P:Program}{ops rest:List Oper}{e:Env}{dst:Option Tmp}{ty:TypeId}{pos:String}{af:Array Edge}{g:Option (Nat × Bool)}{C:World->Prop}{K:Env->Prop}
theorem Qc{t:TypeId}{parts:Array (Nat × Operand)}{pl:List (Nat × Nat)}{zl:List Value}(l:List Value)(hg:AV ⟨dst,.build t parts,ty,pos,af,g⟩ ops e=true)(hp:Dh P t=some pl)(hz:Cd P t=some zl)(h:Wt P ops C K rest (put e dst (.agg l.toArray)))(hl:Instr.fill (fun i=>pl.toArray[i]?) zl.toArray (parts.toList.map fun p=>(p.1,ev e p.2))=some l.toArray:=by kernel_rfl):
  Wt P ops C K (⟨dst,.build t parts,ty,pos,af,g⟩::rest) e:=by
 refine FO hg (fun w _=>?_) h;have hb:P.built t (parts.map fun(i,x)=>(i,ev e x)).toList=some l.toArray:=PV hp hz (by rw[qcu];exact hl);simp[execOp,run_build w t _ _ hb]
end
section
variable {P:Program}{r:Option Nat}{n:Nat}{ops rest:List Oper}{Q:Exit->Env->World->Prop}{e:Env}{w w0:World}{S:List Nat}{L:List (Nat × Obj)}{dst:Option Tmp}{ty:TypeId}{pos:String}{af:Array Edge}{g:Option (Nat × Bool)}
def RetD(P:Program)(f:FuncId)(args:Array Value)(w:World)(R:World->Prop):Prop :=
 CallsDIn Fence.wide 0 P f args .returning w fun x u w'=>u=.returning/\∃v,x=.returned v/\R w'
def Defs(P:Program):List Deferred->World->(World->Prop)->Prop
 | [],w,K=>K w
 |d::ds,w,K=>∃f ca,d={ target := .fn (.func f) ca,args:=#[] }/\Aq P f=true/\RetD P f ca w fun w'=>Defs P ds w' K
def QretD(P:Program)(fn:Func)(R:Value->World->Prop):Exit->Env->World->Prop
 | .normal,e,w | .ret,e,w=>Defs P e.ds w fun w'=>∀tmps:Array Value,(∀i,tmps.getD i undef=e.g i)->∃v,(results fn tmps).run P w'=.ok v w'/\R v w'
 |_,_,_=>False
theorem Defs.mono:∀{ds:List Deferred} {w:World} {K K':World->Prop},(∀w,K w->K' w)->Defs P ds w K->Defs P ds w K'
 | [],_,_,_,h,hk=>h _ hk
 |_::_,_,_,_,h,⟨f,ca,h1,h2,h3⟩=>⟨f,ca,h1,h2,CallsDIn.mono h3 fun _ _ _ hx=>⟨hx.1,let ⟨v,h4,h5⟩:=hx.2;⟨v,h4,Defs.mono h h5⟩⟩⟩
theorem ZR{t el:TypeId}{m s:Nat}{zl:List Value}{ps:List (Nat × Value)}{l:Array Value}(hu:UH P t=some (m,el))(hs:Ce P el=some s)(hz:Cd P t=some zl)(hl:Instr.fill (fun i=>some (i*s,s)) zl.toArray ps=some l):P.built t ps=some l:=by
 unfold Cd at hz;unfold Program.built;unfold Ce at hs;have hu':=WQ hu
 cases hi:P.info? t with
 |none=>rw[hi]at hz;cases hz
 |some it =>
  rw[hi]at hz
  cases hzz:it.zero with
  |none=>simp[hzz]at hz
  |some z =>
   simp only[qeg,hzz,qcz,qb3]at hz;subst hz
   cases hie:P.info? el with
   |none=>rw[hie]at hs;cases hs
   |some ie =>
    rw[hie]at hs;simp only[qcz,qb3]at hs;subst hs;simp only[hu',hzz,hie]
    simpa using hl
theorem ZS{t el:TypeId}{parts:Array (Nat × Operand)}{m s:Nat}{zl:List Value}(l:List Value)(hg:AV ⟨dst,.build t parts,ty,pos,af,g⟩ ops e=true)(hu:UH P t=some (m,el))(hs:Ce P el=some s)(hz:Cd P t=some zl)(h:A7 P r ops Q rest (put e dst (.agg l.toArray)) w)(hl:Instr.fill (fun i=>some (i*s,s)) zl.toArray (parts.toList.map fun p=>(p.1,ev e p.2))=some l.toArray:=by kernel_rfl):
  A7 P r ops Q (⟨dst,.build t parts,ty,pos,af,g⟩::rest) e w:=by
 refine B7 hg U ?_ h;have hb:P.built t (parts.map fun(i,x)=>(i,ev e x)).toList=some l.toArray:=ZR hu hs hz (by rw[qcu];exact hl);simp[execOp,run_build w t _ _ hb]
end
theorem Ac0{a:Nat}(ha:a<9223372036854775808:=by omega):IntKind.i64.wrap (a:Int)=(a:Int):=by
 have h1:(a:Int) % 18446744073709551616=(a:Int):=by omega
 show(if(true && decide ((a:Int) % 18446744073709551616>=9223372036854775808))=true then(a:Int) % 18446744073709551616 - 18446744073709551616 else(a:Int) % 18446744073709551616)=_;rw[h1,qa2 (by omega)];rfl
theorem ZT{a b:Nat}(ha:a<9223372036854775808)(hb:b<9223372036854775808):Op.intBits .and .i64 a b=pure (.int .i64 ((a &&& b:Nat):Int)):=by
 have hx:a &&& b<=a:=Nat.and_le_left;have ha':a<2 ^ IntKind.i64.bits:=by show a<18446744073709551616;omega
 have hb':b<2 ^ IntKind.i64.bits:=by show b<18446744073709551616;omega
 simp only[Op.intBits,L4];rw[BitVec.toNat_and,BitVec.toNat_ofNat,BitVec.toNat_ofNat,qbr ha',qbr hb',Ac0]
section
variable {P:Program}{r:Option Nat}{ops rest:List Oper}{Q:Exit->Env->World->Prop}{e:Env}{w:World}{dst:Option Tmp}{ty:TypeId}{pos:String}{af:Array Edge}{g:Option (Nat × Bool)}{C:World->Prop}{K:Env->Prop}{t t2:TypeId}{x y:Operand}{a b n:Nat}
theorem Qd(hg:AV ⟨dst,.binOp .and t x y t2,ty,pos,af,g⟩ ops e=true)(hx:ev e x=.int .i64 a)(hy:ev e y=.int .i64 b)(ha:a<9223372036854775808)(hb:b<9223372036854775808)(h:A7 P r ops Q rest (put e dst (.int .i64 ((a &&& b:Nat):Int))) w):A7 P r ops Q (⟨dst,.binOp .and t x y t2,ty,pos,af,g⟩::rest) e w :=
 B7 hg rfl (Ch hx hy (by show(Op.intBits .and .i64 (a:Int) (b:Int)).run P w=_;rw[ZT ha hb];rfl)) h
theorem JK(hg:AV ⟨dst,.binOp .shr t x y t2,ty,pos,af,g⟩ ops e=true){k2:IntKind}(hx:ev e x=.int .i64 a)(hy:ev e y=.int k2 n)(h:A7 P r ops Q rest (put e dst (.int .i64 ((a / 2 ^ n:Nat):Int))) w)(hn:n<=64:=by omega):A7 P r ops Q (⟨dst,.binOp .shr t x y t2,ty,pos,af,g⟩::rest) e w :=
 B7 hg rfl (Ch hx hy (by show(Op.shift .shr .i64 (a:Int) k2 (n:Int)).run P w=_;rw[Pu (by exact hn)];rfl)) h
theorem Si(hg:AV ⟨dst,.binOp .shr t x y t2,ty,pos,af,g⟩ ops e=true){k2:IntKind}(hx:ev e x=.int .i64 a)(hy:ev e y=.int k2 n)(h:Wt P ops C K rest (put e dst (.int .i64 ((a / 2 ^ n:Nat):Int))))(hn:n<=64:=by decide):Wt P ops C K (⟨dst,.binOp .shr t x y t2,ty,pos,af,g⟩::rest) e :=
 FO hg (fun w _=>Ch hx hy (by show(Op.shift .shr .i64 (a:Int) k2 (n:Int)).run P w=_;rw[Pu (by exact hn)];rfl)) h
end
end Go.GV
