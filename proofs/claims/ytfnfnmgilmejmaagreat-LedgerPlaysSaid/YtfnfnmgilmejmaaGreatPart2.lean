/- Part 2 of the proof. -/
import Derived.Test.YtfnfnmgilmejmaaGreatPart1
import Derived.Laws.Tables
import Derived.Laws.AppendOwn
import Derived.Laws.IdiomStrings
import Derived.Laws.Strings
import Derived.RangeFuncLeaves
import Derived.DefersIn
namespace Go.GV
open Go
variable{α:Type}{p:Addr}{args cap:Array Operand}{ats:Array TypeId}{ca fi tmps:Array Value}{code:BoundsCode}{assign body:Code}{fn:Func}{f:FuncId}{k k2 kk:IntKind}{E L L':List (Nat × Obj)}{ps:List (Nat × Value)}{S:List Nat}{full l new vs zl:List Value}{xs:List α}{lo:Loop}{b2 by' c c2 gf i j m n o off:Nat}{fo x y:Operand}{a2:Option Addr}{P:Program}{q:Prop}{s2 s3:Tmp}{ds:TypeDesc}{d el el2 t t1 t2 t3 ty:TypeId}{v v2 v3 z:Value}{R:Value->World->Prop}{w w' w0 w1:World}
section
variable {P:Program}{r:Option Nat}{ops rest:List Oper}{Q:Exit->Env->World->Prop}{e:Env}{w w0:World}{S:List Nat}{L:List (Nat × Obj)}{dst:Option Tmp}{ty:TypeId}{pos:String}{af:Array Edge}{g:Option (Nat × Bool)}
theorem QA{o:Oper}{args:Array Value}(hg:AJ o ops e=true)(hd:NN o.op=true)(hrun:(execOp (ev e) o).run P w=.ok (.enter f args) w')(hc:Ret P f args w' R)(h:∀v w'',R v w''->A4 P r ops Q rest (put e o.dst v) w''):A4 P r ops Q (o::rest) e w:=by
 unfold A4;rw[if_pos hg,Oper.semAt_eq r _ _<|IQ hd,hrun];exact Ret.mono hc h
theorem Aj(hf:An P f=true)(hc:Ret P f l.toArray w R)(ha:args.toList.map (ev e)=l)(h:∀v w',R v w'->A4 P r ops Q rest (put e dst v) w')(hg:AJ ⟨dst,.call ⟨.value<|.func f,args,ats⟩,ty,pos,af,g⟩ ops e=true:=by exact U):
  A4 P r ops Q (⟨dst,.call ⟨.value<|.func f,args,ats⟩,ty,pos,af,g⟩::rest) e w:=by
 refine QA (R:=R) hg U ?_ hc h
 have:args.map (ev e)=l.toArray:=by subst ha;apply qcg;simp only[qcr]
 simp[execOp,resolve,ev,Deferred.ofValue,invoke,this,Gt hf]
theorem FA(hfo:ev e fo=.func (.func f) fi ca)(hf:An P f=true)(hc:Ret P f l.toArray w R)(ha:fi.toList++(args.toList.map (ev e)++ca.toList)=l)(h:∀v w',R v w'->A4 P r ops Q rest (put e dst v) w')(hg:AJ ⟨dst,.call ⟨.value fo,args,ats⟩,ty,pos,af,g⟩ ops e=true:=by exact U):
  A4 P r ops Q (⟨dst,.call ⟨.value fo,args,ats⟩,ty,pos,af,g⟩::rest) e w:=by
 refine QA (R:=R) hg U ?_ hc h
 have:fi++args.map (ev e)++ca=l.toArray:=by rw[<-ha];apply qcg;simp
 simp[execOp,resolve,hfo,Deferred.ofValue,invoke,this,Gt hf]
end
def ent(a:Option Addr)(t:TypeId)(full:List Value):List (Nat × Obj) :=
 match a with
 |none=>[]
 |some p=>[(p.block,Bl t full)]
structure OS(a:Option Addr)(n c s:Nat)(full l:List Value):Prop where
 zero:∀p,a=some p->p=⟨p.block,0,none⟩
 none':a=none->c=0
 len:full.length=c*s
 le:n<=c
 pre:full.take (n*s)=l
theorem OS.nil{s:Nat}:OS none 0 0 s [] []:=⟨(fun _ h=>by cases h),fun _=>rfl,by simp,qaq _,by simp⟩
theorem OS.llen{a:Option Addr}{s:Nat}(h:OS a n c s full l):l.length=n*s:=by
 rw[<-h.pre,qa8,h.len];exact qch<|qcs _ h.le
theorem OS.form{a:Option Addr}{s:Nat}(h:OS a n c s full l)(hn:0<n):∃b,a=some ⟨b,0,none⟩:=by
 cases a with
 |none=>have:=h.none' rfl;have:=h.le;omega
 |some p=>exact⟨p.block,by rw[<-h.zero p rfl]⟩
theorem OS.split{a:Option Addr}{s:Nat}(h:OS a n c s full l):full=l++full.drop (n*s):=by
 rw[<-h.pre,qbp]
theorem Abz{a:Option Addr}{b:Nat}(h:a=some ⟨b,0,none⟩):ent a t full=[(b,Bl t full)]:=by subst h;rfl
theorem OS.rd{a:Option Addr}{s:Nat}{enc:α->List Value}(h:OS a n c s full<|xs.flatMap enc)(hb:∀x∈ent a t full,w.heap[x.1]?=some x.2)(hs:∀x∈xs,(enc x).length=s)(h0:0<s):Rd w a s enc xs:=by
 cases a with
 |none =>
  cases xs with
  |nil=>exact Rd.nil
  |cons x xs =>
   exfalso;have h1:=h.llen;have h2:=h.none' rfl;have h3:=h.le;have h4:n=0:=by omega
   have h5:=hs x (by simp);subst h4;simp only[qbw,qat,qb9]at h1;omega
 |some p =>
  have hz:=h.zero p rfl;obtain⟨b,o,sp⟩:=p;simp only[Addr.mk.injEq,true_and]at hz;obtain⟨rfl,rfl⟩:=hz;exact Rd.of_bl (r:=full.drop<|n*s) (hb (b,Bl t full)<|by simp[ent]) h.split hs
theorem Ctx.callEnt(H:Ctx w0 S w L)(he:Ext [] w w')(hb:∀x∈E,w'.heap[x.1]?=some x.2/\w.heap.size<=x.1)(hp:E.Pairwise fun x y=>x.1≠y.1) :
  Ctx w0 S w' (L++E):=by
 have H':=H.call he;refine⟨H'.ext,?_,?_,?_⟩
 .intro x hx
  rcases qa2.1 hx with hx|hx
  .exact H'.blk x hx
  .exact(hb x hx).1
 .rw[qby];refine⟨H.nd,hp,fun x hx y hy=>?_⟩;have h1:=AX<|H.blk x hx;have h2:=(hb y hy).2;omega
 .intro x hx
  rcases qa2.1 hx with hx|hx
  .exact H.own x hx
  .exact .inr (qa3 H.size (hb x hx).2)
theorem Ctx.perm(H:Ctx w0 S w L)(hp:L.Perm L'):Ctx w0 S w L' :=
 H.sub (fun _ hx=>hp.mem_iff.2 hx) (hp.pairwise H.nd fun h=>Ne.symm h)
theorem Ctx.comm(H:Ctx w0 S w<|L++L'):Ctx w0 S w<|L'++L:=H.perm qb5
theorem Ctx.left(H:Ctx w0 S w<|L++L'):Ctx w0 S w L :=
 H.sub (fun _ hx=>qax _ hx) (qby.1 H.nd).1
theorem Ctx.right(H:Ctx w0 S w<|L++L'):Ctx w0 S w L' :=
 H.sub (fun _ hx=>qap _ hx) (qby.1 H.nd).2.1
theorem NV(need:Nat):∀(k c:Nat),c<=2*need+768->Builtin.growBy need k c<=2*need+768
 |0,c,h=>h
 |k+1,c,h=>by
  unfold Builtin.growBy
  split
  .exact h
  .exact NV need k _ (by omega)
theorem ME(need c:Nat)(h:c<need):Builtin.nextslicecap need c<=2*need+768:=by
 unfold Builtin.nextslicecap
 split
 .omega
 .split
  .omega
  .exact NV need 4 c (by omega)
theorem HG(z:Array Value)(n:Nat):(Builtin.zeroCells z n).size=n*z.size:=by simp[Builtin.zeroCells]
structure OSo(a:Option Addr)(o n c s:Nat)(full l:List Value):Prop where
 pos:∀p,a=some p->p=⟨p.block,o*s,none⟩
 none':a=none->c=0/\o=0
 len:full.length=(o+c)*s
 le:n<=c
 pre:(full.drop (o*s)).take (n*s)=l
theorem OSo.nil{s:Nat}:OSo none 0 0 0 s [] []:=⟨(fun _ h=>by cases h),fun _=>⟨rfl,rfl⟩,by simp,qaq _,by simp⟩
theorem OSo.llen{a:Option Addr}{s:Nat}(h:OSo a o n c s full l):l.length=n*s:=by
 rw[<-h.pre,qa8,qdj,h.len,qb2];have:=qcs s h.le;omega
theorem OSo.split{a:Option Addr}{s:Nat}(h:OSo a o n c s full l):full=full.take (o*s)++l++full.drop (o*s+n*s):=by
 rw[<-h.pre,qaz,<-List.drop_drop,qbp,qbp]
theorem OSo.cell{b s:Nat}(h:OSo (some ⟨b,o*s,none⟩) o n c s full l)(hb:w.heap[b]?=some (Bl t full))(hv:l[j]?=some v):w.cell? ⟨b,o*s+j,none⟩=some v:=by
 have hjl:j<l.length:=(qbh.1 hv).1;have hll:=h.llen;have hmul:=qcs s h.le;have hlen:=h.len;rw[qb2]at hlen;rw[Ai hb,h.split,qaz,qcp (by rw[qa8];omega),qa8,show o*s+j - min (o*s) full.length=j by omega,qcw hjl];exact hv
theorem OS.o0'{a:Option Addr}{s:Nat}(O:OS a n c s full l):OSo a 0 n c s full l :=
 ⟨fun p hp=>by rw[qb9];exact O.zero p hp,fun h=>⟨O.none' h,rfl⟩,by rw[qa0];exact O.len,O.le,by rw[qb9,List.drop_zero];exact O.pre⟩
theorem OSo.os{a:Option Addr}{s:Nat}(O:OSo a 0 n c s full l):OS a n c s full l :=
 ⟨fun p hp=>by rw[O.pos p hp,qb9],fun h=>(O.none' h).1,by rw[O.len,qa0],O.le,by have:=O.pre;rw[qb9,List.drop_zero]at this;exact this⟩
theorem QB:∀(vs l:List Value) (i:Nat) (v:Value),v∈over l i vs->v∈l\/v∈vs
 | [],_,_,_,h => .inl h
 |x::vs,l,i,v,h=>by
  rcases QB vs (l.set i x) (i+1) v h with h|h
  .rcases qep h with h|h
   .exact .inl h
   .exact .inr (by rw[h];exact qah ..)
  .exact .inr (qae _ h)
theorem NF(z:Array Value)(n:Nat)(v:Value)(h:v∈(Builtin.zeroCells z n).toList):v∈z.toList:=by
 unfold Builtin.zeroCells at h;rw[qcr,qak]at h;obtain⟨i,hi,rfl⟩:=h
 have h0:0<z.size:=by
  rw[Array.toList_range,qa5]at hi
  rcases qdk z.size with h|h
  .rw[h,Nat.mul_zero]at hi;omega
  .exact h
 have hm:=Nat.mod_lt i h0;rw[getElem!_pos z (i % z.size) hm];exact Array.getElem_mem_toList hm
section
variable {P:Program}{w w0:World}{S:List Nat}{L:List (Nat × Obj)}
theorem Ec{s:Nat}{a:Option Addr}{k:Nat}(hl:l.length=m*s)(hc:∀j v,l[j]?=some v->∃p,a=some p/\w.cell? (p.add j)=some v) :
  (Builtin.firstCells s m<|.slice a c k).run P w=.ok l.toArray w:=by
 cases a with
 |none =>
  have h0:l=[]:=by
   cases l with
   |nil=>rfl
   |cons v l=>obtain⟨p,hp,_⟩:=hc 0 v rfl;cases hp
  subst h0;simp[Builtin.firstCells]
 |some p =>
  have h:=Lg (P:=P) (w:=w) (p:=p) l 0 #[] (fun j v hv=>by
   obtain⟨q,hq,hv⟩:=hc j v hv
   injection hq with hq
   subst hq
   rwa [qa0])
  rw[hl]at h;simp[Builtin.firstCells,loadCells,h]
theorem Xy:∀(vs a b c:List Value),b.length=vs.length->over (a++b++c) a.length vs=a++vs++c:=by
 intro vs
 induction vs with
 |nil=>intro a b c hb;have:b=[]:=qck (by simpa using hb);subst this;simp[over]
 |cons v vs ih =>
  intro a b c hb
  cases b with
  |nil=>simp at hb
  |cons x b =>
   have:=ih (a++[v]) b c (by simpa using hb);simp only[over];rw[show(a++x::b++c).set a.length v=a++[v]++b++c from by simp];rw[show a.length+1=(a++[v]).length from by simp,this];simp
theorem LI{s:Nat}(hu:C8 P t=some el)(hu2:C8 P t2=some el2)(hs:Cb P el=some s)(hby:DB P el=some by')(hz:Ca P el=some zl)(hzl:zl.length=s)(hpos:0<by'){a:Option Addr}(H:Ctx w0 S w<|L++ent a el full)(O:OSo a o n c s full l)(hn:new.length=m*s)(h1:∀v∈new,AF v=true)(hc:∀j v,new[j]?=some v->∃p,a2=some p/\w.cell? (p.add j)=some v)(hbound:(2*(n+m)+768)*by'<=281474976710656) :
  ∃a' o' c' full' w',(Builtin.append_ #[t,t2] ty #[.slice a n c,.slice a2 m c2]).run P w=.ok (.slice a' (n+m) c') w'/\Ctx w0 S w' (L++ent a' el full')/\OSo a' o' (n+m) c' s full' (l++new)/\(o'=o\/o'=0)/\∀v∈full',v∈full\/v∈new\/v∈zl:=by
 have hfc:=Ec (P:=P) (w:=w) (s:=s) (m:=m) (a:=a2) (c:=m) (k:=c2) hn hc
 by_cases hfit:n+m<=c
 ·-- in place
  cases a with
  |none =>
   obtain⟨h0,ho0⟩:=O.none' rfl;have hm:m=0:=by omega
   have hn0:n=0:=by omega
   subst hm hn0 h0 ho0;have hnew:new=[]:=qck (by omega);have hl:l=[]:=qck (by have:=O.llen;omega);have hfull:full=[]:=qck (by have:=O.len;omega);subst hnew hl hfull;refine⟨none,0,0,[],w,?_,H,OSo.nil,.inl rfl,by simp⟩;simp[Builtin.append_,Bg<|CS hu,Bg<|CS hu2,CL hs,Builtin.lenOf,hfc]
  |some p =>
   have hp:=O.pos p rfl;obtain⟨b,o2,sp⟩:=p;simp only[Addr.mk.injEq,true_and]at hp;obtain⟨rfl,rfl⟩:=hp;have hk:(L++ent (some ⟨b,o*s,none⟩) el full)[L.length]?=some (b,Bl el full):=by simp[ent]
   have hb:=H.get hk;have hmul:(n+m)*s<=c*s:=qcs _ hfit;have hadd:(n+m)*s=n*s+m*s:=qb2 _ _ _;have hlen:=O.len;rw[qb2]at hlen;have hll:=O.llen;obtain⟨w',hr,he,hb'⟩:=F9 (P:=P) (o:=o*s+n*s) new full w 0 h1 hb (by omega);have hwr:=H.turn hk _ he hb';rw[show(L++ent (some ⟨b,o*s,none⟩) el full).set L.length (b,Bl el<|over full (o*s+n*s+0) new)=L++ent (some ⟨b,o*s,none⟩) el (over full (o*s+n*s) new)from by simp[ent]]at hwr;refine⟨some ⟨b,o*s,none⟩,o,c,over full (o*s+n*s) new,w',?_,hwr,?_,.inl rfl,fun v hv=>(QB new full _ v hv).elim .inl fun h => .inr (.inl h)⟩
   .have hst:(storeCells (Addr.add ⟨b,o*s,none⟩<|n*s) new).run P w=.ok () w':=by
     rw[add_none];exact hr
    simp[Builtin.append_,Bg<|CS hu,Bg<|CS hu2,CL hs,Builtin.lenOf,hfc,hfit,hst]
   .refine⟨fun q hq=>by injection hq with hq;subst hq;rfl,(fun h=>by cases h),by rw[D6];exact O.len,hfit,?_⟩;have hsp:=O.split;have hpl:(full.take (o*s)++l).length=o*s+n*s:=by rw[qat,qa8,hll];omega
    have htl:(full.drop<|o*s+n*s).length=c*s - n*s:=by rw[qdj];omega
    have hgoal:over full (o*s+n*s) new=(full.take (o*s)++l)++new++(full.drop<|o*s+n*s).drop (m*s):=by
     have h4:=Xy new (full.take (o*s)++l) ((full.drop<|o*s+n*s).take<|m*s) ((full.drop<|o*s+n*s).drop<|m*s) (by rw[qa8,htl,hn];omega);rw[qaz<|full.take (o*s)++l,qbp,<-hsp,hpl]at h4;exact h4
    rw[hgoal,qaz,qaz,List.drop_left' (by rw[qa8];omega),<-qaz,qc1 (by rw[qat,hll,hn];omega)]
 ·-- a new block
  have hfit':c<n+m:=by omega
  have hncap:=ME (n+m) c hfit'
  have hnm:n+m<=281474976710656:=by
   have h1:(2*(n+m)+768)*1<=(2*(n+m)+768)*by':=Nat.mul_le_mul_left _ hpos
   omega
  generalize hq:(Question.appendCap (n+m) c el).cut (w.tape w.drawn<|Question.appendCap (n+m) c el)=cap;have hcap:n+m<=cap:=by rw[<-hq];unfold Question.cut;exact Nat.le_add_right _ _
  obtain⟨zv,hzr,hzc⟩:=G5 (P:=P) hz w.drew;have hzs:zv.cells.size=s:=by rw[<-hzl,<-hzc];simp
  let full':=l++new++(Builtin.zeroCells zv.cells<|cap - (n+m)).toList
  have hH:Ctx w0 S (w.drew.alloc<|Bl el full') ((w.drew.heap.size,Bl el full')::L):=by
   have:=(H.left.drew).alloc<|Bl el full';exact this
  refine⟨some ⟨w.drew.heap.size,0,none⟩,0,cap,full',w.drew.alloc<|Bl el full',?_,?_,?_,.inr rfl,?_⟩
  .have hforced:(Question.appendCap (n+m) c el).forced=false:=rfl
   have hby2:∃i,P.info? el=some i/\i.bytes=by':=by
    unfold DB at hby
    cases hi:P.info? el with
    |none=>rw[hi]at hby;cases hby
    |some i=>rw[hi]at hby;simp at hby;exact⟨i,rfl,hby⟩
   obtain⟨i,hi,hib⟩:=hby2;have hti:∀w,(typeInfo el).run P w=.ok i w:=fun w=>by simp[typeInfo,program,Sem.run,hi]
   have hold':(Builtin.firstCells s n<|.slice a n c).run P w.drew=.ok l.toArray w.drew:=by
    refine Ec (O.llen) fun j v hv=>?_;have hjl:j<l.length:=(qbh.1 hv).1
    cases a with
    |none =>
     have h0:=(O.none' rfl).1;have h5:=O.llen;have h6:=O.le
     have:n=0:=by omega
     subst this;omega
    |some p =>
     have hp:=O.pos p rfl;obtain⟨b,o2,sp⟩:=p;simp only[Addr.mk.injEq,true_and]at hp;obtain⟨rfl,rfl⟩:=hp;refine⟨_,rfl,?_⟩;have hk:(L++ent (some ⟨b,o*s,none⟩) el full)[L.length]?=some (b,Bl el full):=by simp[ent]
     show w.cell? _=_;rw[add_none];exact O.cell (H.get hk) hv
   have hfc':(Builtin.firstCells s m<|.slice a2 m c2).run P w.drew=.ok new.toArray w.drew:=Ec hn hc;have hroom:∀k w,(askRoom k).run P w=.ok () w:=fun k w=>by unfold askRoom;split <;> rfl
   have hby0:¬by'=0:=by omega
   have hnn:(Builtin.append_ #[t,t2] ty #[.slice a n c,.slice a2 m c2]).run P w=.ok (.slice (some ⟨w.drew.heap.size,0,none⟩) (n+m) cap) (w.drew.alloc<|.cells (l.toArray++(new.toArray++Builtin.zeroCells zv.cells (cap - (n+m)))) el):=by
    have:Builtin.nextslicecap (n+m) c*by'<=(2*(n+m)+768)*by':=qcs _ hncap
    have hb3:¬281474976710656<Builtin.nextslicecap (n+m) c*by':=by omega
    simp[Builtin.append_,Bg<|CS hu,Bg<|CS hu2,CL hs,Builtin.lenOf,hfc',hold',hfit,hti,hib,hb3,hby0,hforced,hq,hroom,hzr,newRow,newObj,Sem.run]
   rw[hnn]
   have harr:l.toArray++(new.toArray++Builtin.zeroCells zv.cells (cap - (n+m)))=full'.toArray:=by
    apply qcg;simp[full']
   rw[harr];rfl
  .exact hH.perm (qb5 (l₁:=[(w.drew.heap.size,Bl el full')]) (l₂:=L))
  .refine⟨(fun q hq=>by injection hq with hq;subst hq;rw[qb9]),(fun h=>by cases h),?_,hcap,?_⟩
   .show(l++new++(Builtin.zeroCells zv.cells<|cap - (n+m)).toList).length=(0+cap)*s;rw[qat,qat,O.llen,hn,qdx,HG,hzs,<-qb2,<-qb2]
    congr 1
    omega
   .show((l++new++(Builtin.zeroCells zv.cells<|cap - (n+m)).toList).drop<|0*s).take ((n+m)*s)=l++new;rw[qb9,List.drop_zero,qc1<|by rw[qat,O.llen,hn,qb2]]
  .intro v hv
   rcases qa2.1 hv with h|h
   .rcases qa2.1 h with h|h
    .exact .inl (qco (i:=o*s)<|qdl (by rw[O.pre];exact h))
    .exact .inr (.inl h)
   .refine .inr (.inr ?_);have h5:=NF _ _ v h;rw[hzc]at h5
    simpa using h5
theorem LJ{s:Nat}(hu:C8 P t=some el)(hu2:C8 P t2=some el2)(hs:Cb P el=some s)(hby:DB P el=some by')(hz:Ca P el=some zl)(hzl:zl.length=s)(hpos:0<by'){a:Option Addr}(H:Ctx w0 S w<|L++ent a el full)(O:OS a n c s full l)(hn:new.length=m*s)(h1:∀v∈new,AF v=true)(hc:∀j v,new[j]?=some v->∃p,a2=some p/\w.cell? (p.add j)=some v)(hbound:(2*(n+m)+768)*by'<=281474976710656) :
  ∃a' c' full' w',(Builtin.append_ #[t,t2] ty #[.slice a n c,.slice a2 m c2]).run P w=.ok (.slice a' (n+m) c') w'/\Ctx w0 S w' (L++ent a' el full')/\OS a' (n+m) c' s full' (l++new)/\∀v∈full',v∈full\/v∈new\/v∈zl :=  by
 obtain⟨a',o',c',full',w',h2,h3,h4,h5,h6⟩:=LI (ty:=ty) (c2:=c2) hu hu2 hs hby hz hzl hpos H (OS.o0' O) hn h1 hc hbound;obtain rfl:o'=0:=h5.elim id id;exact⟨a',c',full',w',h2,h3,h4.os,h6⟩
theorem SV{s:Nat}(hu:C8 P t=some el)(hu2:C8 P t2=some el2)(hs:Cb P el=some s)(hby:DB P el=some by')(hz:Ca P el=some zl)(hzl:zl.length=s)(hpos:0<by'){a:Option Addr}(H:Ctx w0 S w<|L++ent a el full)(O:OS a n c s full l)(hn:new.length=m*s)(h1:∀v∈new,AF v=true)(hc:∀j v,new[j]?=some v->∃p,a2=some p/\w.cell? (p.add j)=some v)(hbound:(2*(n+m)+768)*by'<=281474976710656) :
  ∃a' c' full' w',(Builtin.append_ #[t,t2] ty #[.slice a n c,.slice a2 m c2]).run P w=.ok (.slice a' (n+m) c') w'/\Ctx w0 S w' (L++ent a' el full')/\OS a' (n+m) c' s full' (l++new) :=  by
 obtain⟨a',c',full',w',h2,h3,h4,-⟩:=LJ (ty:=ty) (c2:=c2) hu hu2 hs hby hz hzl hpos H O hn h1 hc hbound;exact⟨a',c',full',w',h2,h3,h4⟩
end
section
variable {P:Program}{r:Option Nat}{ops rest:List Oper}{Q:Exit->Env->World->Prop}{e:Env}{w w0:World}{S:List Nat}{L:List (Nat × Obj)}{dst:Option Tmp}{ty:TypeId}{pos:String}{af:Array Edge}{g:Option (Nat × Bool)}
theorem Ee{s:Nat}(hu:C8 P t=some el)(hu2:C8 P t2=some el2)(hs:Cb P el=some s)(hby:DB P el=some by')(hz:Ca P el=some zl)(hzl:zl.length=s){a:Option Addr}(new:List Value)(hx:ev e x=.slice a n c)(hy:ev e y=.slice a2 m c2)(H:Ctx w0 S w<|L++ent a el full)(O:OS a n c s full l)(hn:new.length=m*s)(h1:∀v∈new,AF v=true)(hc:∀j v,new[j]?=some v->∃p,a2=some p/\w.cell? (p.add j)=some v)(h:∀a' c' full' w',Ctx w0 S w' (L++ent a' el full')->OS a' (n+m) c' s full' (l++new)->A4 P r ops Q rest (put e dst<|.slice a' (n+m) c') w')(hg:AJ ⟨dst,.call ⟨.builtin .append,#[x,y],#[t,t2]⟩,ty,pos,af,g⟩ ops e=true:=by exact U)(hpos:0<by':=by decide)(hbound:(2*(n+m)+768)*by'<=281474976710656:=by omega):
  A4 P r ops Q (⟨dst,.call ⟨.builtin .append,#[x,y],#[t,t2]⟩,ty,pos,af,g⟩::rest) e w:=by
 obtain⟨a',c',full',w',hr,H',O'⟩:=SV (ty:=ty) hu hu2 hs hby hz hzl hpos H O hn h1 hc hbound (c2:=c2);exact B8 hg U (by simp[execOp,resolve,invoke,builtin,hx,hy,hr])<|h a' c' full' w' H' O'
theorem C5{s:Nat}(l:List Value)(v:Value)(hu:C8 P t=some el)(hs:Cb P el=some s)(hz:Ca P el=some zl)(hzl:zl.length=s)(hx:ev e x=v)(hl:v.cells=l.toArray)(hll:l.length=s)(H:Ctx w0 S w L)(h:∀b w',w.heap.size=b->Ctx w0 S w' ((b,Bl el l)::L)->A4 P r ops Q rest (put e dst<|.slice (some ⟨b,0,none⟩) 1 1) w')(hg:AJ ⟨dst,.buildSlice t 1 #[(0,x)],ty,pos,af,g⟩ ops e=true:=by exact U)(hs0:0<s:=by decide)(hs1:s<=16777216:=by decide):
  A4 P r ops Q (⟨dst,.buildSlice t 1 #[(0,x)],ty,pos,af,g⟩::rest) e w:=by
 obtain⟨z,hz1,hz2⟩:=G5 hz w;have hzs:z.cells.size=s:=by rw[<-hzl,<-hz2];simp
 refine B8 (w':=w.alloc<|Bl el l) (v := .slice (some ⟨w.heap.size,0,none⟩) 1 1) hg U ?_<|h _ _ U<|H.alloc _
 have hfill:∀cs:Array Value,cs.size=s->Instr.fill (fun i=>some (i*s,s)) cs [(0,v)]=some l.toArray:=by
  intro cs hcs
  have hfold:∀(vs:List Value) (k:Nat) (c0:Array Value),c0.size=k+vs.length->(vs.zipIdx k).foldl (fun cs (x:Value × Nat)=>cs.setIfInBounds (0+x.2) x.1) c0=((c0.toList.take k)++vs).toArray:=by
   intro vs
   induction vs with
   |nil=>intro k c0 h;simp only[List.zipIdx_nil,List.foldl_nil,qar];apply qcg;simp only[List.length_nil]at h;simp;rw[qc5 (by simp;omega)]
   |cons u vs ih =>
    intro k c0 h;simp only[List.zipIdx_cons,qdm];rw[ih (k+1) _ (by simp at h |-;omega)]
    congr 1
    simp only[qa0,Array.toList_setIfInBounds];have hk:k<c0.toList.length:=by simp at h |-;omega
    rw[List.take_set,List.take_succ_eq_append_getElem hk];simp[List.set_append];rw[if_neg (by simp at h;omega)]
    have:k - min k c0.size=0:=by simp at h;omega
    rw[this];simp
  have h2:=hfold l 0 cs (by omega);simp only[Instr.fill,hl,List.size_toArray,hll,qb9,qa0,hcs];rw[if_neg<|by simp]
  have h3:Array.foldl (fun cs (x:Value × Nat)=>cs.setIfInBounds (0+x.2) x.1) cs l.toArray.zipIdx=(l.zipIdx 0).foldl (fun cs (x:Value × Nat)=>cs.setIfInBounds (0+x.2) x.1) cs:=by
   rw[<-Array.foldl_toList];simp
  simp only[qa0]at h2 h3;rw[h3,h2];simp
 have hne:¬s=0:=by omega
 have hbig:¬16777216<s:=by omega
 simp[execOp,Instr.buildSlice,Bg<|CS hu,CL hs,hne,hbig,hz1,hx,hfill,newRow,newObj,Sem.run];rfl
theorem Hb{i j:Int}(hu:C8 P t=some el)(hs:Cb P el=some 1)(hby:DB P el=some by')(hz:Ca P el=some [z])(hx:ev e x=.int k i)(hy:ev e y=.int k2 j)(H:Ctx w0 S w L)(h:∀b w',w.heap.size=b->Ctx w0 S w' ((b,Bl el<|List.replicate j.toNat z)::L)->A4 P r ops Q rest (put e dst<|.slice (some ⟨b,0,none⟩) i.toNat j.toNat) w')(hg:AJ ⟨dst,.makeSlice t x y,ty,pos,af,g⟩ ops e=true:=by exact U)(h0:0<=i:=by omega)(h1:i<=j:=by omega)(h2:by'*j<=281474976710656:=by omega)(h3:j<=9223372036854775807:=by omega):
  A4 P r ops Q (⟨dst,.makeSlice t x y,ty,pos,af,g⟩::rest) e w:=by
 obtain⟨zv,hz1,hz2⟩:=G5 hz w
 have hzs:zv.cells.size=1:=by
  have:zv.cells.toList.length=1:=by rw[hz2];rfl
  simpa using this
 have hby2:∃i,P.info? el=some i/\i.bytes=by':=by
  unfold DB at hby
  cases hi:P.info? el with
  |none=>rw[hi]at hby;cases hby
  |some i=>rw[hi]at hby;simp at hby;exact⟨i,rfl,hby⟩
 obtain⟨inf,hi,hib⟩:=hby2;have hti:∀w,(typeInfo el).run P w=.ok inf w:=fun w=>by simp[typeInfo,program,Sem.run,hi]
 have hw1:IntKind.i64.wrap i=i:=CC (k := .i64) (by simp[IntKind.min,IntKind.signed,IntKind.bits];omega) (by simp[IntKind.max,IntKind.signed,IntKind.bits];omega);have hw2:IntKind.i64.wrap j=j:=CC (k := .i64) (by simp[IntKind.min,IntKind.signed,IntKind.bits];omega) (by simp[IntKind.max,IntKind.signed,IntKind.bits];omega);have hroom:∀k w,(askRoom k).run P w=.ok () w:=fun k w=>by unfold askRoom;split <;> rfl
 refine B8 (w':=w.alloc<|Bl el<|List.replicate j.toNat z) (v := .slice (some ⟨w.heap.size,0,none⟩) i.toNat j.toNat) hg U ?_<|h _ _ U<|H.alloc _;have hn1:¬j<0:=by omega
 have hn2:¬(281474976710656<(by':Int)*j):=by omega
 have hn3:¬i<0:=by omega
 have hn4:¬j<i:=by omega
 have hcells:(Array.range j.toNat).map (fun q=>zv.cells[q % zv.cells.size]!)=(List.replicate j.toNat z).toArray:=by
  apply Array.ext
  .simp
  .intro q h1 h2;simp only[hzs,Nat.mod_one,Array.getElem_map,List.getElem_toArray,List.getElem_replicate]
   have:zv.cells=#[z]:=by apply qcg;rw[hz2]
   rw[this];rfl
 by_cases hj:j.toNat=0
 .have hj0:j=0:=by omega
  have hi0:i=0:=by omega
  subst hj0 hi0;simp[execOp,Instr.makeSlice,Bg<|CS hu,hx,hy,asInt,asIntOf,hti,hw2,hroom,CL hs,newRow,newObj,Sem.run];have hr0:(Array.range 0)=(#[]:Array Nat):=by apply qcg;simp
  rw[hr0,Array.map_empty];rfl
 .simp[execOp,Instr.makeSlice,Bg<|CS hu,hx,hy,asInt,asIntOf,hti,hib,hw1,hw2,hn1,hn2,hn3,hn4,hroom,CL hs,hj,hz1,newRow,newObj,Sem.run];rw[hcells];rfl
theorem Xz{i:Int}{y:Nat}(h0:0<=i)(h1:i<=y):(Instr.sliceBound (.int k i) y code).run P w=.ok i.toNat w:=by
 simp[Instr.sliceBound,asIntOf,h0,h1]
def Md(a:Option Addr)(c i s:Nat):Option Addr:=if c=i then a else a.map (·.add (i*s))
theorem IX{s:Nat}{a:Option Addr}{i:Int}(hg:AJ ⟨dst,.slice t x (some y) none none,ty,pos,af,g⟩ ops e=true)(hu:C8 P t=some el)(hs:Cb P el=some s)(hx:ev e x=.slice a n c)(hy:ev e y=.int k i)(h:A4 P r ops Q rest (put e dst<|.slice (Md a c i.toNat s) (n - i.toNat)<|c - i.toNat) w)(h0:0<=i:=by omega)(h1:i<=n:=by omega):
  A4 P r ops Q (⟨dst,.slice t x (some y) none none,ty,pos,af,g⟩::rest) e w :=
 B8 hg rfl (by simp[execOp,Instr.sliceAt,Instr.slice,Instr.sliceBounds,Bg<|CS hu,hx,hy,Xz h0 h1,CL hs,Md]) h
theorem IY{s:Nat}{a:Option Addr}{j:Int}(hg:AJ ⟨dst,.slice t x none (some y) none,ty,pos,af,g⟩ ops e=true)(hu:C8 P t=some el)(hs:Cb P el=some s)(hx:ev e x=.slice a n c)(hy:ev e y=.int k j)(h:A4 P r ops Q rest (put e dst<|.slice a j.toNat c) w)(h0:0<=j:=by omega)(h1:j<=c:=by omega):
  A4 P r ops Q (⟨dst,.slice t x none (some y) none,ty,pos,af,g⟩::rest) e w :=
 B8 hg rfl (by
  have:∀a:Option Addr,(if c=0 then a else a.map (·.add (0*s)))=a:=by
   intro a;split
   .rfl
   .cases a with
    |none=>rfl
    |some p=>simp[Addr.add]
  simp[execOp,Instr.sliceAt,Instr.slice,Instr.sliceBounds,Bg<|CS hu,hx,hy,Xz h0 h1,CL hs]
  simpa using this a) h
theorem VA(hu:C8 P t=some el)(d:Nat)(a:Option Addr)(n c c2:Nat)(w:World) :
  (Op.equalIn (d+1) t (.slice a n c)<|.slice none 0 c2).run P w=.ok a.isNone w:=by
 cases a <;> simp[Op.equalIn,Bg<|CS hu]
theorem SW(hu:C8 P t=some el)(a:Option Addr)(n c c2:Nat)(w:World):(binOp .eql t (.slice a n c)<|.slice none 0 c2).run P w=.ok (.bool a.isNone) w:=by
 simp only[binOp,Sem.run_bind,Op.equal,Op.maxDepth,VA hu 9999];cases a <;> rfl
theorem VB{a:Option Addr}(hg:AJ ⟨dst,.binOp .eql t x (.const<|.slice none 0 c2) t2,ty,pos,af,g⟩ ops e=true)(hu:C8 P t=some el)(hx:ev e x=.slice a n c)(h:A4 P r ops Q rest (put e dst<|.bool a.isNone) w):A4 P r ops Q (⟨dst,.binOp .eql t x (.const<|.slice none 0 c2) t2,ty,pos,af,g⟩::rest) e w :=
 B8 hg rfl (by
  have hq:eqGuard .eql t x (.const<|.slice none 0 c2) (.slice a n c) (.slice none 0 c2)=pure ():=rfl;have he:ev e (.const<|.slice none 0 c2)=.slice none 0 c2:=rfl
  simp only[execOp,hx,he,hq,Sem.run_bind,Sem.run_pure,Result.andThen_ok,SW hu]) h
end
section
variable {P:Program}{r:Option Nat}{ops rest:List Oper}{Q:Exit->Env->World->Prop}{e:Env}{w w0:World}{S:List Nat}{L:List (Nat × Obj)}{dst:Option Tmp}{ty:TypeId}{pos:String}{af:Array Edge}{g:Option (Nat × Bool)}{C:World->Prop}{K:Env->Prop}
theorem DI{o:Oper}(hg:AJ o ops e=true)(hrun:∀w,C w->(execOp (ev e) o).run P w=.ok (.value v) w)(h:Wq P ops C K rest<|put e o.dst v):Wq P ops C K (o::rest) e:=by
 unfold Wq;rw[if_pos hg];exact⟨v,fun w hw=>by rw[hrun w hw];exact⟨rfl,rfl⟩,h⟩
theorem BX{o:Oper}(hg:AJ o ops e=false)(h:Wq P ops C K rest<|put e o.dst undef):Wq P ops C K (o::rest) e:=by
 unfold Wq;rw[if_neg (by rw[hg];simp)];exact h
theorem Cc(h:K e):Wq P ops C K [] e:=h
theorem QC{l:List Oper}(d:Tmp){b:Bool}(c:Bool)(hd:e.g d=.bool b)(hb:b=c)(h:Wq P ops C K l<|put e (some d)<|.bool c):Wq P ops C K l e:=by
 subst hb;rw[F7 hd]at h;exact h
theorem Di{l:List Oper}(d:Tmp){b:Bool}(hd:e.g d=.bool b)(h1:b=true->Wq P ops C K l (put e (some d)<|.bool true))(h2:b=false->Wq P ops C K l (put e (some d)<|.bool false)):Wq P ops C K l e:=by
 cases b with
 |true=>exact QC d true hd rfl (h1 rfl)
 |false=>exact QC d false hd rfl (h2 rfl)
theorem iD{l:List Oper}(d:Tmp){b:Bool}{p:Prop}[iA b p q](hd:e.g d=.bool b)(h1:p->Wq P ops C K l (put e (some d)<|.bool true))(h2:q->Wq P ops C K l (put e (some d)<|.bool false)):Wq P ops C K l e:=Di d hd (fun h=>h1<|iA.t h) fun h=>h2<|iA.f h
theorem BD(ha:Dc P t=some false)(hx:ev e x=.pointer (some p))(hc:∀w,C w->w.cell? p=some v)(h:Wq P ops C K rest<|put e dst v)(hg:AJ ⟨dst,.load t x,ty,pos,af,g⟩ ops e=true:=by exact U):Wq P ops C K (⟨dst,.load t x,ty,pos,af,g⟩::rest) e :=
 DI hg (fun w hw=>by simp[execOp,hx,Instr.loadAt,Instr.sureAddr,Fu ha<|hc w hw]) h
theorem B7{b k:Nat}(ha:Dc P t=some false)(hx:ev e x=.pointer (some ⟨b,i,none⟩))(H:∀w,C w->Ctx w0 S w L)(hk:L[k]?=some (b,Bl t2 l))(hc:l[i]?=some v)(h:Wq P ops C K rest<|put e dst v)(hg:AJ ⟨dst,.load t x,ty,pos,af,g⟩ ops e=true:=by exact U):Wq P ops C K (⟨dst,.load t x,ty,pos,af,g⟩::rest) e :=
 BD (hg:=hg) ha hx (fun w hw=>by rw[Ai<|(H w hw).get hk];exact hc) h
theorem FI{b s:Nat}(l:List Value)(ha:Dc P t=some true)(hs:Cb P t=some s)(hx:ev e x=.pointer (some ⟨b,o,none⟩))(hl:l.length=s)(hc:∀w,C w->∀j v,l[j]?=some v->w.cell? ⟨b,o+j,none⟩=some v)(h:Wq P ops C K rest<|put e dst<|.agg l.toArray)(hg:AJ ⟨dst,.load t x,ty,pos,af,g⟩ ops e=true:=by exact U):Wq P ops C K (⟨dst,.load t x,ty,pos,af,g⟩::rest) e :=
 DI hg (fun w hw=>by simp[execOp,hx,Instr.loadAt,Instr.sureAddr,Fv ha hs hl<|hc w hw]) h
theorem MF{b s k:Nat}(hg:AJ ⟨dst,.load t x,ty,pos,af,g⟩ ops e=true)(ha:Dc P t=some true)(hs:Cb P t=some s)(hx:ev e x=.pointer (some ⟨b,0,none⟩))(H:∀w,C w->Ctx w0 S w L)(hk:L[k]?=some (b,Bl t2 l))(hl:l.length=s)(h:Wq P ops C K rest<|put e dst<|.agg l.toArray):Wq P ops C K (⟨dst,.load t x,ty,pos,af,g⟩::rest) e :=
 FI l (hg:=hg) ha hs hx hl (fun w hw j v hv=>by rw[Ai<|(H w hw).get hk,qa0];exact hv) h
section
variable {t t2:TypeId}{x y:Operand}{k:IntKind}{a b:Int}
theorem JC(hx:ev e x=.int k a)(hy:ev e y=.int k b)(h:Wq P ops C K rest<|put e dst<|.bool<|decide (a<b))(hg:AJ ⟨dst,.binOp .lss t x y t2,ty,pos,af,g⟩ ops e=true:=by exact U):
  Wq P ops C K (⟨dst,.binOp .lss t x y t2,ty,pos,af,g⟩::rest) e:=DI hg (fun w _=>BW hx hy<|by simp[binOp,Op.intCmp]) h
theorem LK(hx:ev e x=.int k a)(hy:ev e y=.int k b)(h:Wq P ops C K rest<|put e dst<|.bool<|decide (a<=b))(hg:AJ ⟨dst,.binOp .leq t x y t2,ty,pos,af,g⟩ ops e=true:=by exact U):
  Wq P ops C K (⟨dst,.binOp .leq t x y t2,ty,pos,af,g⟩::rest) e:=DI hg (fun w _=>BW hx hy<|by simp[binOp,Op.intCmp]) h
theorem QD(hg:AJ ⟨dst,.binOp .gtr t x y t2,ty,pos,af,g⟩ ops e=true)(hx:ev e x=.int k a)(hy:ev e y=.int k b)(h:Wq P ops C K rest<|put e dst<|.bool<|decide (b<a)) :
  Wq P ops C K (⟨dst,.binOp .gtr t x y t2,ty,pos,af,g⟩::rest) e:=DI hg (fun w _=>BW hx hy<|by simp[binOp,Op.intCmp]) h
theorem Aeo(hg:AJ ⟨dst,.binOp .geq t x y t2,ty,pos,af,g⟩ ops e=true)(hx:ev e x=.int k a)(hy:ev e y=.int k b)(h:Wq P ops C K rest<|put e dst<|.bool<|decide (b<=a)) :
  Wq P ops C K (⟨dst,.binOp .geq t x y t2,ty,pos,af,g⟩::rest) e:=DI hg (fun w _=>BW hx hy<|by simp[binOp,Op.intCmp]) h
theorem Aep(hg:AJ ⟨dst,.binOp .eql t x y t2,ty,pos,af,g⟩ ops e=true)(hx:ev e x=.int k a)(hy:ev e y=.int k b)(h:Wq P ops C K rest<|put e dst<|.bool<|decide (a=b)) :
  Wq P ops C K (⟨dst,.binOp .eql t x y t2,ty,pos,af,g⟩::rest) e :=
 DI hg (fun w _=>BW hx hy (v := .bool (decide (a=b))) (by simp[binOp,Op.intCmp];rfl)) h
theorem LM(hx:ev e x=.int k a)(hy:ev e y=.int k b)(h:Wq P ops C K rest<|put e dst<|.bool<|!decide (a=b))(hg:AJ ⟨dst,.binOp .neq t x y t2,ty,pos,af,g⟩ ops e=true:=by exact U):
  Wq P ops C K (⟨dst,.binOp .neq t x y t2,ty,pos,af,g⟩::rest) e :=
 DI hg (fun w _=>BW hx hy (v := .bool (!decide (a=b))) (by simp[binOp,Op.intCmp];rfl)) h
theorem Aeq(hg:AJ ⟨dst,.binOp .quo t x y t2,ty,pos,af,g⟩ ops e=true)(hx:ev e x=.int k a)(hy:ev e y=.int k b)(h2:a<=k.max)(h:Wq P ops C K rest<|put e dst<|.int k<|a / b)(h0:0<=a:=by omega)(hb:0<b:=by omega):Wq P ops C K (⟨dst,.binOp .quo t x y t2,ty,pos,af,g⟩::rest) e:=by
 refine DI hg (fun w _=>BW hx hy (v := .int k (a / b)) ?_) h;have h3:a.tdiv b=a / b:=qed h0;have h4:0<=a / b:=Int.ediv_nonneg h0 (by omega);have h5:a / b<=a:=Int.ediv_le_self _ h0;have h6:k.min<=0:=by cases k <;> decide
 simp[binOp,Op.intDiv,h3,show ¬b=0 from by omega,CC (k:=k) (n:=a / b) (by omega)<|by omega]
theorem Ab0{a b:Bool}(ht:P.underlying t=some .bool)(hg:AJ ⟨dst,.binOp .eql t x y t2,ty,pos,af,g⟩ ops e=true)(hx:ev e x=.bool a)(hy:ev e y=.bool b)(h:A4 P r ops Q rest (put e dst<|.bool<|a == b) w) :
  A4 P r ops Q (⟨dst,.binOp .eql t x y t2,ty,pos,af,g⟩::rest) e w:=by
 refine B8 hg U ?_ h;have hq:eqGuard .eql t x y (.bool a) (.bool b)=pure ():=rfl;have he:∀d w,(Op.equalIn (d+1) t (.bool a)<|.bool b).run P w=.ok (a == b) w:=fun d w=>by simp[Op.equalIn,Bg ht]
 simp only[execOp,hx,hy,hq,Sem.run_bind,Sem.run_pure,Result.andThen_ok,binOp,Op.equal,Op.maxDepth,he 9999]
theorem Ko{a b:Bool}(ht:P.underlying t=some .bool)(hg:AJ ⟨dst,.binOp .neq t x y t2,ty,pos,af,g⟩ ops e=true)(hx:ev e x=.bool a)(hy:ev e y=.bool b)(h:A4 P r ops Q rest (put e dst<|.bool<|!(a == b)) w) :
  A4 P r ops Q (⟨dst,.binOp .neq t x y t2,ty,pos,af,g⟩::rest) e w:=by
 refine B8 hg U ?_ h;have hq:eqGuard .neq t x y (.bool a) (.bool b)=pure ():=rfl;have he:∀d w,(Op.equalIn (d+1) t (.bool a)<|.bool b).run P w=.ok (a == b) w:=fun d w=>by simp[Op.equalIn,Bg ht]
 simp only[execOp,hx,hy,hq,Sem.run_bind,Sem.run_pure,Result.andThen_ok,binOp,Op.equal,Op.maxDepth,he 9999]
theorem Ap(hx:ev e x=.int .i64 a)(hy:ev e y=.int .i64 b)(h:A4 P r ops Q rest (put e dst<|.int .i64<|a+b) w)(hg:AJ ⟨dst,.binOp .add t x y t2,ty,pos,af,g⟩ ops e=true:=by exact U)(h1: -9223372036854775808<=a+b:=by omega)(h2:a+b<=9223372036854775807:=by omega):A4 P r ops Q (⟨dst,.binOp .add t x y t2,ty,pos,af,g⟩::rest) e w:=B8 hg rfl (BW hx hy<|by simp[binOp,Op.intArith,CC (k := .i64) (n:=a+b) h1 h2]) h
theorem Fw(hx:ev e x=.int .i64 a)(hy:ev e y=.int .i64 b)(h:Wq P ops C K rest<|put e dst<|.int .i64<|a+b)(hg:AJ ⟨dst,.binOp .add t x y t2,ty,pos,af,g⟩ ops e=true:=by exact U)(h1: -9223372036854775808<=a+b:=by omega)(h2:a+b<=9223372036854775807:=by omega):Wq P ops C K (⟨dst,.binOp .add t x y t2,ty,pos,af,g⟩::rest) e:=DI hg (fun w _=>BW hx hy<|by simp[binOp,Op.intArith,CC (k := .i64) (n:=a+b) h1 h2]) h
theorem Cf(hx:ev e x=.int .i64 a)(hy:ev e y=.int .i64 b)(h:A4 P r ops Q rest (put e dst<|.int .i64<|a - b) w)(hg:AJ ⟨dst,.binOp .sub t x y t2,ty,pos,af,g⟩ ops e=true:=by exact U)(h1: -9223372036854775808<=a - b:=by omega)(h2:a - b<=9223372036854775807:=by omega):A4 P r ops Q (⟨dst,.binOp .sub t x y t2,ty,pos,af,g⟩::rest) e w:=B8 hg rfl (BW hx hy<|by simp[binOp,Op.intArith,CC (k := .i64) (n:=a - b) h1 h2]) h
theorem HI(hg:AJ ⟨dst,.binOp .sub t x y t2,ty,pos,af,g⟩ ops e=true)(hx:ev e x=.int .i64 a)(hy:ev e y=.int .i64 b)(h:Wq P ops C K rest<|put e dst<|.int .i64<|a - b)(h1: -9223372036854775808<=a - b:=by omega)(h2:a - b<=9223372036854775807:=by omega):Wq P ops C K (⟨dst,.binOp .sub t x y t2,ty,pos,af,g⟩::rest) e:=DI hg (fun w _=>BW hx hy<|by simp[binOp,Op.intArith,CC (k := .i64) (n:=a - b) h1 h2]) h
theorem Fm(hx:ev e x=.int .i64 a)(hy:ev e y=.int .i64 b)(h:A4 P r ops Q rest (put e dst<|.int .i64<|a*b) w)(hg:AJ ⟨dst,.binOp .mul t x y t2,ty,pos,af,g⟩ ops e=true:=by exact U)(h1: -9223372036854775808<=a*b:=by omega)(h2:a*b<=9223372036854775807:=by omega):A4 P r ops Q (⟨dst,.binOp .mul t x y t2,ty,pos,af,g⟩::rest) e w:=B8 hg rfl (BW hx hy<|by simp[binOp,Op.intArith,CC (k := .i64) (n:=a*b) h1 h2]) h
theorem NW(hg:AJ ⟨dst,.binOp .mul t x y t2,ty,pos,af,g⟩ ops e=true)(hx:ev e x=.int .i64 a)(hy:ev e y=.int .i64 b)(h:Wq P ops C K rest<|put e dst<|.int .i64<|a*b)(h1: -9223372036854775808<=a*b:=by omega)(h2:a*b<=9223372036854775807:=by omega):Wq P ops C K (⟨dst,.binOp .mul t x y t2,ty,pos,af,g⟩::rest) e:=DI hg (fun w _=>BW hx hy<|by simp[binOp,Op.intArith,CC (k := .i64) (n:=a*b) h1 h2]) h
theorem JP(hg:AJ ⟨dst,.unOp .neg t x,ty,pos,af,g⟩ ops e=true)(hx:ev e x=.int .i64 a)(h:A4 P r ops Q rest (put e dst<|.int .i64 (- a)) w)(h1: -9223372036854775808 <= - a:=by omega)(h2: - a<=9223372036854775807:=by omega):A4 P r ops Q (⟨dst,.unOp .neg t x,ty,pos,af,g⟩::rest) e w:=Afm hg hx h1 h2 h
theorem Hd{s:TypeId}(hg:AJ ⟨dst,.convert s d x,ty,pos,af,g⟩ ops e=true)(hx:ev e x=.int k a)(hs:P.underlying s=some ds)(hd:P.underlying d=some (.int .i64))(h:A4 P r ops Q rest (put e dst<|.int .i64 a) w)(h1: -9223372036854775808<=a:=by omega)(h2:a<=9223372036854775807:=by omega):A4 P r ops Q (⟨dst,.convert s d x,ty,pos,af,g⟩::rest) e w:=P0 hg hx hs hd h1 h2 h
theorem NX(hg:AJ ⟨dst,.unOp .neg t x,ty,pos,af,g⟩ ops e=true)(hx:ev e x=.int .i64 a)(h:Wq P ops C K rest<|put e dst<|.int .i64 (- a))(h1: -9223372036854775808 <= - a:=by omega)(h2: - a<=9223372036854775807:=by omega):Wq P ops C K (⟨dst,.unOp .neg t x,ty,pos,af,g⟩::rest) e:=DI hg (fun w _=>by simp[execOp,hx,Op.unary,Op.intArith,CC (k := .i64) h1 h2]) h
theorem SX{s:TypeId}(hg:AJ ⟨dst,.convert s d x,ty,pos,af,g⟩ ops e=true)(hx:ev e x=.int k a)(hs:P.underlying s=some ds)(hd:P.underlying d=some (.int .u8))(h:A4 P r ops Q rest (put e dst<|.int .u8 a) w)(h1:0<=a:=by omega)(h2:a<=255:=by omega):A4 P r ops Q (⟨dst,.convert s d x,ty,pos,af,g⟩::rest) e w:=P0 hg hx hs hd h1 h2 h
theorem Et(hx:ev e x=.int .u64 a)(hy:ev e y=.int .u64 b)(h:A4 P r ops Q rest (put e dst<|.int .u64<|a+b) w)(hg:AJ ⟨dst,.binOp .add t x y t2,ty,pos,af,g⟩ ops e=true:=by exact U)(h1:0<=a+b:=by omega)(h2:a+b<=18446744073709551615:=by omega):A4 P r ops Q (⟨dst,.binOp .add t x y t2,ty,pos,af,g⟩::rest) e w:=B8 hg rfl (BW hx hy<|by simp[binOp,Op.intArith,CC (k := .u64) (n:=a+b) h1 h2]) h
theorem JQ(hg:AJ ⟨dst,.binOp .sub t x y t2,ty,pos,af,g⟩ ops e=true)(hx:ev e x=.int .u64 a)(hy:ev e y=.int .u64 b)(h:A4 P r ops Q rest (put e dst<|.int .u64<|a - b) w)(h1:0<=a - b:=by omega)(h2:a - b<=18446744073709551615:=by omega):A4 P r ops Q (⟨dst,.binOp .sub t x y t2,ty,pos,af,g⟩::rest) e w:=B8 hg rfl (BW hx hy<|by simp[binOp,Op.intArith,CC (k := .u64) (n:=a - b) h1 h2]) h
theorem NY(hg:AJ ⟨dst,.binOp .sub t x y t2,ty,pos,af,g⟩ ops e=true)(hx:ev e x=.int .u64 a)(hy:ev e y=.int .u64 b)(h:Wq P ops C K rest<|put e dst<|.int .u64<|a - b)(h1:0<=a - b:=by omega)(h2:a - b<=18446744073709551615:=by omega):Wq P ops C K (⟨dst,.binOp .sub t x y t2,ty,pos,af,g⟩::rest) e:=DI hg (fun w _=>BW hx hy<|by simp[binOp,Op.intArith,CC (k := .u64) (n:=a - b) h1 h2]) h
theorem G6(hg:AJ ⟨dst,.binOp .mul t x y t2,ty,pos,af,g⟩ ops e=true)(hx:ev e x=.int .u64 a)(hy:ev e y=.int .u64 b)(h1:0<=a*b)(h2:a*b<=18446744073709551615)(h:A4 P r ops Q rest (put e dst<|.int .u64<|a*b) w):A4 P r ops Q (⟨dst,.binOp .mul t x y t2,ty,pos,af,g⟩::rest) e w:=B8 hg rfl (BW hx hy<|by simp[binOp,Op.intArith,CC (k := .u64) (n:=a*b) h1 h2]) h
theorem FZ{s:TypeId}(hg:AJ ⟨dst,.convert s d x,ty,pos,af,g⟩ ops e=true)(hx:ev e x=.int k a)(hs:P.underlying s=some ds)(hd:P.underlying d=some (.int .u64))(h:A4 P r ops Q rest (put e dst<|.int .u64 a) w)(h1:0<=a:=by omega)(h2:a<=18446744073709551615:=by omega):A4 P r ops Q (⟨dst,.convert s d x,ty,pos,af,g⟩::rest) e w:=P0 hg hx hs hd h1 h2 h
end
theorem Lh(hg:AJ ⟨dst,.move x,ty,pos,af,g⟩ ops e=true)(v:Value)(hx:ev e x=v)(h:Wq P ops C K rest<|put e dst v) :
  Wq P ops C K (⟨dst,.move x,ty,pos,af,g⟩::rest) e:=DI hg (fun w _=>by simp[execOp,hx]) h
theorem MG(hg:AJ ⟨dst,.assign x,ty,pos,af,g⟩ ops e=true)(v:Value)(hx:ev e x=v)(h:Wq P ops C K rest<|put e dst v) :
  Wq P ops C K (⟨dst,.assign x,ty,pos,af,g⟩::rest) e:=DI hg (fun w _=>by simp[execOp,hx]) h
theorem Ab1{c a b:Operand}(hg:AJ ⟨dst,.pick c a b,ty,pos,af,g⟩ ops e=true)(hc:ev e c=.bool true)(v:Value)(hx:ev e a=v)(h:Wq P ops C K rest<|put e dst v) :
  Wq P ops C K (⟨dst,.pick c a b,ty,pos,af,g⟩::rest) e:=DI hg (fun w _=>by simp[execOp,hc,hx,asBool]) h
theorem Ab2{c a b:Operand}(hg:AJ ⟨dst,.pick c a b,ty,pos,af,g⟩ ops e=true)(hc:ev e c=.bool false)(v:Value)(hx:ev e b=v)(h:Wq P ops C K rest<|put e dst v) :
  Wq P ops C K (⟨dst,.pick c a b,ty,pos,af,g⟩::rest) e:=DI hg (fun w _=>by simp[execOp,hc,hx,asBool]) h
theorem Bc(hx:ev e x=.pointer (some p))(h:Wq P ops C K rest<|put e dst<|.pointer<|some p)(hg:AJ ⟨dst,.nilCheck x,ty,pos,af,g⟩ ops e=true:=by exact U):
  Wq P ops C K (⟨dst,.nilCheck x,ty,pos,af,g⟩::rest) e:=DI hg (fun w _=>by simp[execOp,hx]) h
theorem Bt{b s:Nat}{i:Int}(hu:C8 P t=some el)(hs:Cb P el=some s)(hx:ev e x=.slice (some ⟨b,o,none⟩) n c)(hy:ev e y=.int k i)(h:Wq P ops C K rest<|put e dst<|.pointer<|some ⟨b,o+i.toNat*s,none⟩)(hg:AJ ⟨dst,.indexAddr t x y,ty,pos,af,g⟩ ops e=true:=by exact U)(h0:0<=i:=by omega)(h1:i<n:=by omega):
  Wq P ops C K (⟨dst,.indexAddr t x y,ty,pos,af,g⟩::rest) e :=
 DI hg (fun w _=>by simp[execOp,hx,hy,Instr.indexAt,asIntOf,Bg<|CS hu,h0,h1,CL hs,add_none]) h
theorem Br{a:Option Addr}{s:Nat}{i:Int}{enc:α->List Value}(R:Rd w1 a s enc xs)(hu:C8 P t=some el)(hs:Cb P el=some s)(hx:ev e x=.slice a n c)(hy:ev e y=.int k i)(hn:n=xs.length)(h:Wq P ops C K rest<|put e dst<|.pointer<|some ⟨(adr a).block,(adr a).off+i.toNat*s,none⟩)(hg:AJ ⟨dst,.indexAddr t x y,ty,pos,af,g⟩ ops e=true:=by exact U)(h0:0<=i:=by omega)(h1:i<n:=by omega):
  Wq P ops C K (⟨dst,.indexAddr t x y,ty,pos,af,g⟩::rest) e:=by
 obtain⟨b,o,rfl⟩:=R.some' (by rintro rfl;simp at hn;omega);exact Bt (hg:=hg) hu hs hx hy (h0:=h0) (h1:=h1) h
theorem Aer{a:Option Addr}(hg:AJ ⟨dst,.call ⟨.builtin .len,#[x],#[t]⟩,ty,pos,af,g⟩ ops e=true)(hu:C8 P t=some el)(hx:ev e x=.slice a n c)(h:Wq P ops C K rest<|put e dst<|.int .i64 n) :
  Wq P ops C K (⟨dst,.call ⟨.builtin .len,#[x],#[t]⟩,ty,pos,af,g⟩::rest) e :=
 DI hg (fun w _=>by simp[execOp,resolve,invoke,builtin,hx,Builtin.len_,Bg<|CS hu,goInt]) h
theorem Afn{a b:Int}(hg:AJ ⟨dst,.call ⟨.builtin .min,#[x,y],#[t1,t2]⟩,ty,pos,af,g⟩ ops e=true)(hx:ev e x=.int k a)(hy:ev e y=.int k b)(h:Wq P ops C K rest<|put e dst<|.int k<|min a b) :
  Wq P ops C K (⟨dst,.call ⟨.builtin .min,#[x,y],#[t1,t2]⟩,ty,pos,af,g⟩::rest) e :=
 DI hg (fun w _=>by
  have:(if b<a then b else a)=min a b:=by rw[Int.min_def];split <;> split <;> omega
  simp[execOp,resolve,invoke,builtin,hx,hy,Builtin.min_,Builtin.min2,this]) h
theorem Aq{b:Nat}(hf:B5 P t i=some off)(hx:ev e x=.pointer (some ⟨b,o,none⟩))(h:Wq P ops C K rest<|put e dst<|.pointer<|some ⟨b,o+off,none⟩)(hg:AJ ⟨dst,.fieldAddr t x i,ty,pos,af,g⟩ ops e=true:=by exact U):
  Wq P ops C K (⟨dst,.fieldAddr t x i,ty,pos,af,g⟩::rest) e:=by
 unfold B5 at hf
 split at hf
 .rename_i fs hu
  split at hf
  .rename_i f hf1
   split at hf
   .rename_i s hs
    injection hf with hf
    subst hf;exact DI hg (fun w _=>by simp[execOp,hx,Instr.fieldAt,Bg hu,hf1,Instr.sureAddr,fieldPlace,CL hs,add_none]) h
   .cases hf
  .cases hf
 .cases hf
theorem Ci{fn:Fn}(l:List Value)(hl:cap.toList.map (ev e)=l)(h:A4 P r ops Q rest (put e dst<|.func fn #[] l.toArray) w)(hg:AJ ⟨dst,.makeFunc fn #[] cap,ty,pos,af,g⟩ ops e=true:=by exact U):
  A4 P r ops Q (⟨dst,.makeFunc fn #[] cap,ty,pos,af,g⟩::rest) e w:=by
 refine Q9 hg ?_
 have:cap.map (ev e)=l.toArray:=by subst hl;apply qcg;simp only[qcr]
 rw[this,Array.map_empty];exact h
theorem BL{s:Nat}(hu:C8 P t=some el)(hu2:C8 P t2=some el2)(hs:Cb P el=some s)(hby:DB P el=some by')(hz:Ca P el=some zl)(hzl:zl.length=s){a:Option Addr}(hx:ev e x=.slice a n c)(hy:ev e y=.slice (some ⟨b2,0,none⟩) m c2)(H:Ctx w0 S w ((b2,Bl t3 new)::(L++ent a el full)))(O:OS a n c s full l)(hn:new.length=m*s)(h1:∀v∈new,AF v=true)(h:∀a' c' full' w',Ctx w0 S w' (L++ent a' el full')->OS a' (n+m) c' s full' (l++new)->A4 P r ops Q rest (put e dst<|.slice a' (n+m) c') w')(hg:AJ ⟨dst,.call ⟨.builtin .append,#[x,y],#[t,t2]⟩,ty,pos,af,g⟩ ops e=true:=by exact U)(hpos:0<by':=by decide)(hbound:(2*(n+m)+768)*by'<=281474976710656:=by omega):
  A4 P r ops Q (⟨dst,.call ⟨.builtin .append,#[x,y],#[t,t2]⟩,ty,pos,af,g⟩::rest) e w :=
 Ee (hg:=hg) hu hu2 hs hby hz hzl (hpos:=hpos) new hx hy H.tail O hn h1 (fun j v hv=>⟨_,rfl,by rw[add_none,qa0,Ai<|H.get at0];exact hv⟩) (hbound:=hbound) h
end
section
variable {w0 w w':World}{S:List Nat}{L L1 L2 L1':List (Nat × Obj)}
theorem Ctx.lend(H:Ctx w0 S w<|L1++L2):Ctx w (L1.map (·.1)) w L1 :=
 ⟨Ext.refl _ _,fun x hx=>H.blk x<|qax _ hx,(qby.1 H.nd).1,fun _ hx => .inl (qa6 hx)⟩
theorem Ctx.back(H:Ctx w0 S w<|L1++L2)(H':Ctx w (L1.map (·.1)) w' L1'):Ctx w0 S w'<|L1'++L2:=by
 have hd:=qby.1 H.nd
 have hk:∀x∈L1',(∃y∈L1,y.1=x.1)\/w.heap.size<=x.1:=fun x hx=>by
  rcases H'.own x hx with h|h
  .rw[qak]at h;exact .inl h
  .exact .inr h
 have hn2:∀y∈L2,y.1∉L1.map (·.1):=fun y hy hm=>by
  rw[qak]at hm;obtain⟨x,hx,he⟩:=hm;exact hd.2.2 x hx y hy he
 refine⟨H.ext.then H'.ext ?_,?_,?_,?_⟩
 .intro x hx;rw[qak]at hx;obtain⟨y,hy,rfl⟩:=hx;exact H.own y<|qax _ hy
 .intro x hx
  rcases qa2.1 hx with hx|hx
  .exact H'.blk x hx
  .have hb:=H.blk x<|qap _ hx;rw[H'.ext.block x.1 (AX hb)<|hn2 x hx];exact hb
 .rw[qby];refine⟨H'.nd,hd.2.1,fun x hx y hy=>?_⟩;have hly:=AX (H.blk y<|qap _ hy)
  rcases hk x hx with⟨z,hz,he⟩|h
  .rw[<-he];exact hd.2.2 z hz y hy
  .omega
 .intro x hx
  rcases qa2.1 hx with hx|hx
  .rcases hk x hx with⟨z,hz,he⟩|h
   .rw[<-he];exact H.own z<|qax _ hz
   .exact .inr (qa3 H.size h)
  .exact H.own x (qap _ hx)
theorem Ctx.app_nil(H:Ctx w0 S w L):Ctx w0 S w<|L++[]:=by simpa using H
theorem Ctx.nil_app(H:Ctx w0 S w<|L++[]):Ctx w0 S w L:=by simpa using H
end
section
variable {w:World}{α:Type}{a:Option Addr}{s:Nat}{enc:α->List Value}{xs:List α}
theorem Rd.row(R:Rd w a s enc xs){x:α}(hx:xs[i]?=some x)(hs:(enc x).length=s):∀j v,(enc x)[j]?=some v->w.cell? ⟨(adr a).block,(adr a).off+i*s+j,none⟩=some v :=
 fun j v hv=>R.cell i x hx j v hv (by rw[<-hs];exact(qbh.1 hv).1)
theorem Rd.fld(R:Rd w a s enc xs){x:α}(hx:xs[i]?=some x)(hs:(enc x).length=s)(hv:(enc x)[j]?=some v):w.cell? ⟨(adr a).block,(adr a).off+i*s+j,none⟩=some v:=R.row hx hs j v hv
theorem Rd.one{f:α->Value}(R:Rd w a 1 (fun x=>[f x]) xs){x:α}(hx:xs[i]?=some x):w.cell? ⟨(adr a).block,(adr a).off+i*1,none⟩=some (f x):=by
 have:=R.cell i x hx 0 (f x) rfl (by omega)
 simpa using this
theorem Rd.app1{f:α->Value}(R:Rd w a 1 (fun x=>[f x]) xs):∀j v,(xs.map f)[j]?=some v->∃p,a=some p/\w.cell? (p.add j)=some v:=by
 intro j v hv;rw[qa9]at hv
 cases hx:xs[j]? with
 |none=>rw[hx]at hv;cases hv
 |some x =>
  rw[hx]at hv
  injection hv with hv
  subst hv;obtain⟨b,o,rfl⟩:=R.some' (by rintro rfl;simp at hx);refine⟨_,rfl,?_⟩;rw[add_none];have:=R.one hx
  simpa[adr]using this
theorem QE(hs:∀x∈xs,(enc x).length=s)(h0:0<s):∀j,(xs.flatMap enc)[j]? = (xs[j / s]?).bind fun x=>(enc x)[j % s]? := by
 induction xs with
 |nil=>intro j;simp
 |cons x xs ih =>
  intro j;have hx:=hs x (by simp);have ih:=ih (fun y hy=>hs y<|by simp[hy]);simp only[qbw]
  by_cases hj:j<s
  .rw[qcw<|by omega,Nat.div_eq_of_lt hj,qct hj];rfl
  .rw[qcp<|by omega,hx,ih];have h1:j / s=(j - s) / s+1:=by rw[Nat.div_eq_sub_div h0<|by omega]
   have h2:j % s=(j - s) % s:=by rw[Nat.mod_eq_sub_mod<|by omega]
   rw[h1,h2];rfl
theorem Rd.app(R:Rd w a s enc xs)(hs:∀x∈xs,(enc x).length=s)(h0:0<s):∀j v,(xs.flatMap enc)[j]?=some v->∃p,a=some p/\w.cell? (p.add j)=some v:=by
 intro j v hv;rw[QE hs h0]at hv
 cases hx:xs[j / s]? with
 |none=>rw[hx]at hv;cases hv
 |some x =>
  rw[hx]at hv;have hc:=R.cell _ x hx _ v hv<|Nat.mod_lt _ h0;obtain⟨b,o,rfl⟩:=R.some' (by rintro rfl;simp at hx);refine⟨_,rfl,?_⟩;rw[add_none];simp only[adr]at hc;rw[<-hc]
  congr 2
  have:=Nat.div_add_mod j s;rw[Nat.mul_comm]at this;omega
theorem Rd.take(R:Rd w a s enc xs)(n:Nat):Rd w a s enc (xs.take n) :=
 ⟨fun h=>R.some' (by rintro rfl;simp at h),fun i x hx j v hv hj=>R.cell i x (by
  rw[qbt]at hx
  split at hx
  .exact hx
  .cases hx) j v hv hj⟩
theorem Rd.cut(R:Rd w a s enc xs)(n c:Nat)(hc:xs.length<=c):Rd w (Md a c n s) s enc<|xs.drop n:=by
 unfold Md
 by_cases hn:c=n
 .subst hn;rw[qeq hc];exact Rd.nil
 .rw[if_neg hn];refine⟨fun h=>?_,fun i x hx j v hv hj=>?_⟩
  .obtain⟨b,o,rfl⟩:=R.some' (by rintro rfl;simp at h);exact⟨b,o+n*s,by simp[add_none]⟩
  .rw[qc0]at hx;obtain⟨b,o,rfl⟩:=R.some' (by rintro rfl;simp at hx);have:=R.cell (n+i) x hx j v hv hj;simp only[adr,qcq,add_none]at this |-;rw[<-this]
   congr 2
   rw[qb2];omega
end
section
variable {P:Program}{r:Option Nat}{ops rest:List Oper}{Q:Exit->Env->World->Prop}{e:Env}{w w0:World}{S:List Nat}{L:List (Nat × Obj)}{dst:Option Tmp}{ty:TypeId}{pos:String}{af:Array Edge}{g:Option (Nat × Bool)}
theorem NZ{s:Nat}(hg:AJ ⟨dst,.buildSlice t 0 #[],ty,pos,af,g⟩ ops e=true)(hu:C8 P t=some el)(hs:Cb P el=some s)(H:Ctx w0 S w L)(h:∀b w',Ctx w0 S w' (L++ent (some ⟨b,0,none⟩) el [])->OS (some ⟨b,0,none⟩) 0 0 s [] []->A4 P r ops Q rest (put e dst<|.slice (some ⟨b,0,none⟩) 0 0) w') :
  A4 P r ops Q (⟨dst,.buildSlice t 0 #[],ty,pos,af,g⟩::rest) e w:=by
 refine B8 (w':=w.alloc<|Bl el []) (v := .slice (some ⟨w.heap.size,0,none⟩) 0 0) hg U ?_<|h _ _ (Ctx.comm (L:=[(w.heap.size,Bl el [])])<|H.alloc _) ⟨(fun p hp=>by injection hp with hp;subst hp;rfl),(fun hp=>by cases hp),by simp,qaq _,by simp⟩;have hr0:(Array.range 0)=(#[]:Array Nat):=by apply qcg;simp
 simp[execOp,Instr.buildSlice,Bg<|CS hu,CL hs,hr0,Instr.fill,newRow,newObj,Sem.run];rfl
end
theorem Ds{f:Nat->α}(h:i<n):((List.range n).map f)[i]?=some (f i):=by
 rw[qa9,qef h];rfl
theorem HK{f g:Nat->α}{v:α}(hv:g i=v)(h:∀j,j<n->j≠i->g j=f j):((List.range n).map f).set i v=(List.range n).map g:=by
 apply qca;intro j;rw[qec]
 by_cases hj:j<n
 .by_cases he:i=j
  .subst he;rw[if_pos rfl,if_pos<|by simpa using hj,Ds hj,hv]
  .rw[if_neg he,Ds hj,Ds hj,h j hj<|Ne.symm he]
 .rw[qbg (l:=(List.range n).map g) (by simp;omega)]
  split
  .rw[if_neg (by simp;omega)]
  .rw[qbg (by simp;omega)]
section
variable {P:Program}{r:Option Nat}{ops rest:List Oper}{Q:Exit->Env->World->Prop}{e:Env}{w w0:World}{S:List Nat}{L:List (Nat × Obj)}{dst:Option Tmp}{ty:TypeId}{pos:String}{af:Array Edge}{g:Option (Nat × Bool)}{C:World->Prop}{K:Env->Prop}
theorem P6{b:Nat}{f:Nat->Value}(k:Nat)(v:Value)(hg:AJ ⟨dst,.load t x,ty,pos,af,g⟩ ops e=true)(ha:Dc P t=some false)(hx:ev e x=.pointer (some ⟨b,i,none⟩))(H:Ctx w0 S w L)(hj:L[j]?=some (b,Bl t2<|(List.range n).map f))(hi:i=k)(hv:f k=v)(h:A4 P r ops Q rest (put e dst v) w)(hk:k<n:=by omega):A4 P r ops Q (⟨dst,.load t x,ty,pos,af,g⟩::rest) e w:=by
 subst hi hv;exact Bh (hg:=hg) ha hx H hj (Ds hk) h
theorem U0{b:Nat}{f:Nat->Value}(k:Nat)(v:Value)(hg:AJ ⟨dst,.load t x,ty,pos,af,g⟩ ops e=true)(ha:Dc P t=some false)(hx:ev e x=.pointer (some ⟨b,i,none⟩))(H:∀w,C w->Ctx w0 S w L)(hj:L[j]?=some (b,Bl t2<|(List.range n).map f))(hi:i=k)(hv:f k=v)(h:Wq P ops C K rest<|put e dst v)(hk:k<n:=by omega):Wq P ops C K (⟨dst,.load t x,ty,pos,af,g⟩::rest) e:=by
 subst hi hv;exact B7 (hg:=hg) ha hx H hj (Ds hk) h
theorem BZ{b:Nat}{f:Nat->Value}(k:Nat)(f':Nat->Value)(v:Value)(hs:Cb P t=some 1)(hx:ev e x=.pointer (some ⟨b,i,none⟩))(hy:ev e y=v)(hv:AF v=true)(H:Ctx w0 S w L)(hj:L[j]?=some (b,Bl t2<|(List.range n).map f))(hi:i=k)(h1:f' k=v)(h2:∀q,q<n->q≠k->f' q=f q)(h:∀w',Ctx w0 S w' (L.set j (b,Bl t2<|(List.range n).map f'))->A4 P r ops Q rest (put e dst undef) w')(hg:AJ ⟨dst,.store t x y,ty,pos,af,g⟩ ops e=true:=by exact U)(hk:k<n:=by omega):A4 P r ops Q (⟨dst,.store t x y,ty,pos,af,g⟩::rest) e w:=by
 subst hi;refine Ch v (hg:=hg) hs hx hy hv H hj (by simpa using hk) fun w' H'=>h w' ?_;rw[HK h1 h2]at H';exact H'
end
theorem Au{l:List α}(h:i<l.length:=by omega):∃x,l[i]?=some x:=⟨l[i],qb4 h⟩
theorem BH{l:List α}{x:α}(h:l[i]?=some x):i<l.length:=(qbh.1 h).1
theorem EA{l:List α}{x:α}(h:l[i]?=some x):l.take (i+1)=l.take i++[x]:=by
 rw[qbr,h];rfl
theorem DP(n:Nat)(v:α):List.replicate n v=(List.range n).map fun _=>v:=by
 apply qca;intro j
 by_cases hj:j<n
 .rw[Ds hj,List.getElem?_replicate,if_pos hj]
 .rw[qbg (by simp;omega),qbg (by simp;omega)]
structure Fresh(w w':World)(el:TypeId)(s:Nat)(v:Value)(l:List Value):Prop where
 ex:∃a n c full,v=.slice a n c/\OS a n c s full l/\∀x∈ent a el full,w'.heap[x.1]?=some x.2/\w.heap.size<=x.1
 ext:Ext [] w w'
theorem DX{a:Option Addr}:(ent a t full).Pairwise fun x y=>x.1≠y.1:=by
 cases a <;> simp[ent]
theorem Ctx.fresh{a:Option Addr}{s:Nat}(H:Ctx w0 [] w<|L++ent a el full)(O:OS a n c s full l):Fresh w0 w el s (.slice a n c) l :=
 ⟨⟨a,n,c,full,rfl,O,fun x hx=>⟨H.blk x<|qap _ hx,by
  rcases H.own x (qap _ hx)with h|h
  .cases h
  .exact h⟩⟩,H.ext⟩
theorem Fresh.nil(H:Ctx w0 [] w L)(el:TypeId)(s:Nat):Fresh w0 w el s (.slice none 0 0) [] :=
 ⟨⟨none,0,0,[],rfl,OS.nil,by simp[ent]⟩,H.ext⟩
theorem X0{f:α->Value}(xs:List α):xs.flatMap (fun x=>[f x])=xs.map f:=by
 induction xs with
 |nil=>rfl
 |cons x xs ih=>simp[ih]
theorem OS.rd1{a:Option Addr}{f:α->Value}(h:OS a n c 1 full (xs.map f))(hb:∀x∈ent a t full,w.heap[x.1]?=some x.2) :
  Rd w a 1 (fun x=>[f x]) xs:=OS.rd (by rw[X0];exact h) hb (by simp)<|by omega
theorem OS.num{a:Option Addr}{f:α->Value}(h:OS a n c 1 full (xs.map f)):n=xs.length:=by
 have:=h.llen;simpa using this.symm
theorem OS.numN{a:Option Addr}{s:Nat}{enc:α->List Value}(h:OS a n c s full<|xs.flatMap enc)(hs:∀x∈xs,(enc x).length=s)(h0:0<s):n=xs.length:=by
 have h1:=h.llen
 have h2:∀xs:List α,(∀x∈xs,(enc x).length=s)->(xs.flatMap enc).length=xs.length*s:=by
  intro xs
  induction xs with
  |nil=>simp
  |cons x xs ih =>
   intro hs;simp only[qbw,qat,qbd,qb2,Nat.one_mul];rw[ih fun y hy=>hs y<|by simp[hy],hs x<|by simp];omega
 rw[h2 xs hs]at h1;exact(Nat.eq_of_mul_eq_mul_right h0 h1).symm
def DR{α:Type}(m:List (Int × α))(k:Int):Option α:=(m.find? fun p=>p.1 == k).map (·.2)
def Kp{α:Type}:List (Int × α)->Int->α->List (Int × α)
 | [],k,v=>[(k,v)]
 |p::m,k,v=>if p.1=k then(k,v)::m else p::Kp m k v
def JR{α:Type}:List (Int × α)->Int->List (Int × α)
 | [],_=>[]
 |p::m,k=>if p.1=k then m else p::JR m k
def CQ(kk:IntKind)(m:List (Int × Value))(o:Obj):Prop :=
 ∃es clock,o=.map es clock/\es.toList.map (fun e=>(e.key,e.val))=m.map (fun p=>(Value.int kk p.1,p.2))/\(∀e∈es.toList,e.born<clock)/\(es.toList.map (·.born)).Nodup
theorem FK(kk:IntKind)(n:Int):∀(es:List MapEntry) (m:List<|Int × Value) (i:Nat),es.map (fun e=>(e.key,e.val))=m.map (fun p=>(Value.int kk p.1,p.2)) ->
  (DR m n=none->Instr.findNow (.int kk) (.int kk n) es i=some none) /\
  (∀v,DR m n=some v->∃j,Instr.findNow (.int kk) (.int kk n) es i=some (some (i+j,v))/\j<es.length/\∀(v':Value),(es.modify j fun e=>{ e with key := .int kk n,val:=v' }).map (fun e=>(e.key,e.val))=(Kp m n v').map (fun p=>(Value.int kk p.1,p.2))/\((es[j]?).map (·.key))=some (.int kk n) /\
   (es.eraseIdx j).map (fun e=>(e.key,e.val))=(JR m n).map (fun p=>(Value.int kk p.1,p.2)))
 | [],m,i,h=>by
  cases m with
  |nil=>exact⟨fun _=>rfl,fun v hv=>by cases hv⟩
  |cons p m=>cases h
 |e::es,m,i,h=>by
  cases m with
  |nil=>cases h
  |cons p m =>
   simp only[qas,qci,Prod.mk.injEq]at h;obtain⟨⟨hk,hv⟩,ht⟩:=h;have ih:=FK kk n es m (i+1) ht;have hs:Instr.sameNow (.int kk) (.int kk n) e.key=some (n == p.1):=by rw[hk];simp[Instr.sameNow]
   by_cases hn:p.1=n
   .have hb:(n == p.1)=true:=by simp[hn]
    have hg:DR (p::m) n=some p.2:=by simp[DR,hn]
    refine⟨(fun h=>by rw[hg]at h;cases h),fun v hv'=>?_⟩;rw[hg]at hv'
    injection hv' with hv'
    subst hv';refine⟨0,by simp[Instr.findNow,hs,hb,hv],by simp,fun v'=>⟨?_,by simp[hk,hn],?_⟩⟩
    .simp[Kp,hn,ht,List.modify]
    .simp[JR,hn,ht]
   .have hb:(n == p.1)=false:=by simpa using Ne.symm hn
    have hb2:(p.1 == n)=false:=by simpa using hn
    have hg:DR (p::m) n=DR m n:=by simp[DR,hb2]
    rw[hg];refine⟨fun h=>by simp[Instr.findNow,hs,hb,ih.1 h],fun v hv'=>?_⟩;obtain⟨j,h1,h2,h3⟩:=ih.2 v hv';refine⟨j+1,by simp[Instr.findNow,hs,hb,h1];omega,by simp;omega,fun v'=>?_⟩;obtain⟨a1,a2,a3⟩:=h3 v';refine⟨?_,by simpa using a2,?_⟩
    .simp only[List.modify_succ_cons,qas,Kp,if_neg hn,a1,hk,hv]
    .simp only[List.eraseIdx_cons_succ,qas,JR,if_neg hn,a3,hk,hv]
def Kq(P:Program)(t:TypeId):Option (TypeId × TypeId):=match P.underlying t with|some (.map k e)=>some (k,e)|_=>none
theorem G7{k e:TypeId}(h:Kq P t=some (k,e)):P.underlying t=some (.map k e):=by
 unfold Kq at h
 split at h
 .rename_i hu;injection h with h;cases h;exact hu
 .cases h
section
variable {P:Program}{r:Option Nat}{ops rest:List Oper}{Q:Exit->Env->World->Prop}{e:Env}{w w0:World}{S:List Nat}{L:List (Nat × Obj)}{dst:Option Tmp}{ty:TypeId}{pos:String}{af:Array Edge}{g:Option (Nat × Bool)}
theorem D4{b:Bool}{k:TypeId}(hk:P.underlying k=some (.int kk))(v:Value)(w:World)(d:Nat):(Instr.checkKey b (d+1) k v).run P w=.ok () w:=by
 simp[Instr.checkKey,Bg hk]
theorem MH(kk:IntKind)(hg:AJ ⟨dst,.makeMap t none,ty,pos,af,g⟩ ops e=true)(H:Ctx w0 S w L)(h:∀b o w',CQ kk [] o->Ctx w0 S w' ((b,o)::L)->A4 P r ops Q rest (put e dst<|.map<|some b) w') :
  A4 P r ops Q (⟨dst,.makeMap t none,ty,pos,af,g⟩::rest) e w:=by
 refine B8 (w':=w.alloc<|.map #[] 0) (v := .map (some w.heap.size)) hg U ?_<|h _ _ _ ⟨#[],0,rfl,rfl,by simp,by simp⟩<|H.alloc _;simp[execOp,Instr.makeMap,newObj,Sem.run]
theorem Ga{k:TypeId}{b:Nat}{o:Obj}{m:List (Int × Value)}{n:Int}(hg:AJ ⟨dst,.lookup t x y true,ty,pos,af,g⟩ ops e=true)(ht:Kq P t=some (k,el))(hk:P.underlying k=some (.int kk))(hz:(P.info? el).bind (·.zero)=some z)(hx:ev e x=.map (some b))(hy:ev e y=.int kk n)(H:Ctx w0 S w L)(hl:L[j]?=some (b,o))(hM:CQ kk m o)(h:A4 P r ops Q rest (put e dst<|.tuple #[(DR m n).getD z,.bool (DR m n).isSome]) w):A4 P r ops Q (⟨dst,.lookup t x y true,ty,pos,af,g⟩::rest) e w:=by
 obtain⟨es,clock,rfl,hes,_⟩:=hM;have hb:=H.get hl;have hf:=FK kk n es.toList m 0 hes;have hgo:(getObj b).run P w=.ok (.map es clock) w:=by simp[getObj,Sem.run,hb]
 have hzr:(zeroValue el).run P w=.ok z w:=by
  cases hi:P.info? el with
  |none=>rw[hi]at hz;cases hz
  |some i=>rw[hi]at hz;simp at hz;simp[zeroValue,typeInfo,program,Sem.run,hi,hz]
 refine B8 hg U ?_ h
 cases hm:DR m n with
 |none=>simp[execOp,Instr.lookup,Bg<|G7 ht,hx,hy,hgo,D4 hk,Instr.findKey,Bg hk,hf.1 hm,hzr]
 |some v =>
  obtain⟨i,hi,_⟩:=hf.2 v hm;simp[execOp,Instr.lookup,Bg<|G7 ht,hx,hy,hgo,D4 hk,Instr.findKey,Bg hk,hi]
theorem NG{k:TypeId}{b:Nat}{o:Obj}{m:List (Int × Value)}{n:Int}(v:Value)(ht:Kq P t=some (k,el))(hk:P.underlying k=some (.int kk))(H:Ctx w0 S w L)(hl:L[j]?=some (b,o))(hM:CQ kk m o) :
  ∃o' w',(Instr.mapUpdate t (.map<|some b) (.int kk n) v).run P w=.ok () w'/\CQ kk (Kp m n v) o'/\Ctx w0 S w' (L.set j (b,o')):=by
 obtain⟨es,clock,rfl,hes,hbn,hnd⟩:=hM;have hb:=H.get hl;have hf:=FK kk n es.toList m 0 hes;have hgo:(getObj b).run P w=.ok (.map es clock) w:=by simp[getObj,Sem.run,hb]
 have hso:∀o',(setObj b o').run P w=.ok () (w.putObj b o'):=fun o'=>by simp[setObj,Sem.run,hb,World.putObj]
 cases hm:DR m n with
 |none =>
  refine⟨.map (es.push { key := .int kk n,val:=v,born:=clock })<|clock+1,w.putObj b _,?_,⟨_,_,rfl,?_,?_,?_⟩,H.setB hl _⟩
  .simp[Instr.mapUpdate,Bg<|G7 ht,hgo,D4 hk,Instr.findKey,Bg hk,hf.1 hm,hso]
  .have hms:Kp m n v=m++[(n,v)]:=by
    clear hes hf
    induction m with
    |nil=>rfl
    |cons p m ih =>
     have hp:¬p.1=n:=by
      intro hp;simp[DR,hp]at hm
     have hb2:(p.1 == n)=false:=by simpa using hp
     have hm2:DR m n=none:=by rw[<-hm];simp[DR,hb2]
     simp[Kp,hp,ih hm2]
   rw[hms];simp[hes]
  .intro x hx;simp only[qdn,qa2,qab]at hx
   rcases hx with hx|rfl
   .have:=hbn x hx;omega
   .simp
  .simp only[qdn,qau,qas,qbv];rw[qdy];refine⟨hnd,by simp,?_⟩;intro x hx y hy;simp only[qab]at hy;subst hy;rw[qak]at hx;obtain⟨e',he',rfl⟩:=hx;have:=hbn e' he';omega
 |some v0 =>
  obtain⟨i,hi,hil,h3⟩:=hf.2 v0 hm;obtain⟨a1,a2,_⟩:=h3 v;have hkts:(Instr.keyThatStays (.int kk n)<|.int kk n).run P w=.ok (.int kk n) w:=by simp[Instr.keyThatStays,Instr.sameBits]
  have hold:((es[i]?).map (·.key)).getD (.int kk n)=.int kk n:=by
   have:es[i]?=es.toList[i]? := by rw[qea]
   rw[this,a2];rfl
  refine⟨.map (es.modify i fun e=>{ e with key := .int kk n,val:=v }) clock,w.putObj b _,?_,⟨_,_,rfl,?_,?_,?_⟩,H.setB hl _⟩
  .simp[Instr.mapUpdate,Bg<|G7 ht,hgo,D4 hk,Instr.findKey,Bg hk,hi,hold,hkts,hso]
  .rw[qeg];exact a1
  .intro x hx;rw[qeg,qbi]at hx;obtain⟨q,hq⟩:=hx;rw[List.getElem?_modify]at hq
   cases hq2:es.toList[q]? with
   |none=>rw[hq2]at hq;simp at hq
   |some y =>
    rw[hq2]at hq;have hy:=hbn y<|qad hq2
    injection hq with hq
    subst hq;dsimp only
    split <;> exact hy
  .rw[qeg]
   have:(es.toList.modify i fun e=>{ e with key := .int kk n,val:=v }).map (·.born)=es.toList.map (·.born):=by
    apply qca;intro q;rw[qa9,qa9,List.getElem?_modify]
    cases es.toList[q]? with
    |none=>rfl
    |some y=>show some (Value.map none,(if i=q then _ else y).born).2=some y.born;split <;> rfl
   rw[this];exact hnd
theorem Ik{k:TypeId}{z:Operand}{b:Nat}{o:Obj}{m:List (Int × Value)}{n:Int}(v:Value)(hg:AJ ⟨dst,.mapUpdate t x y z,ty,pos,af,g⟩ ops e=true)(ht:Kq P t=some (k,el))(hk:P.underlying k=some (.int kk))(hx:ev e x=.map (some b))(hy:ev e y=.int kk n)(hv:ev e z=v)(H:Ctx w0 S w L)(hl:L[j]?=some (b,o))(hM:CQ kk m o)(h:∀o' w',CQ kk (Kp m n v) o'->Ctx w0 S w' (L.set j (b,o'))->A4 P r ops Q rest (put e dst undef) w'):A4 P r ops Q (⟨dst,.mapUpdate t x y z,ty,pos,af,g⟩::rest) e w:=by
 obtain⟨o',w',hr,hM',H'⟩:=NG (n:=n) v ht hk H hl hM;exact Mg hg U (by simp[execOp,hx,hy,hv,hr])<|h o' w' hM' H'
end
section
variable {P:Program}{r:Option Nat}{n:Nat}{Q:Exit->Env->World->Prop}{e:Env}{w:World}
theorem C6{x y:Code}(d:Tmp){b:Bool}(hd:e.g d=.bool b)(h1:b=true->W P r n x Q (put e (some d)<|.bool true) w)(h2:b=false->W P r n y Q (put e (some d)<|.bool false) w) :
  W P r n (.cond (.tmp d) x y) Q e w:=by
 refine A3 b hd (fun h=>?_) fun h=>?_
 .have h3:=h1 h;rw[F7<|by rw[hd,h]]at h3;exact h3
 .have h3:=h2 h;rw[F7<|by rw[hd,h]]at h3;exact h3
theorem iE{x y:Code}(d:Tmp){b:Bool}{p:Prop}[iA b p q](hd:e.g d=.bool b)(h1:p->W P r n x Q (put e (some d)<|.bool true) w)(h2:q->W P r n y Q (put e (some d)<|.bool false) w):W P r n (.cond (.tmp d) x y) Q e w:=C6 d hd (fun h=>h1<|iA.t h) fun h=>h2<|iA.f h
end
def CJ(P:Program)(t:TypeId):Option (List (Nat × Nat)) :=
 match P.underlying t with
 |some (.struct fs)=>fs.toList.mapM (fun f=>(P.info? f.type).map fun i=>(f.offset,i.size))
 |_=>none
section
variable {P:Program}{r:Option Nat}{ops rest:List Oper}{Q:Exit->Env->World->Prop}{e:Env}{w w0:World}{S:List Nat}{L:List (Nat × Obj)}{dst:Option Tmp}{ty:TypeId}{pos:String}{af:Array Edge}{g:Option (Nat × Bool)}
theorem MJ{pl:List (Nat × Nat)}{l:Array Value}(hp:CJ P t=some pl)(hz:Ca P t=some zl)(hl:Instr.fill (fun i=>pl.toArray[i]?) zl.toArray ps=some l):P.built t ps=some l:=by
 unfold CJ at hp;unfold Ca at hz;unfold Program.built
 cases hu:P.underlying t with
 |none=>rw[hu]at hp;cases hp
 |some d =>
  rw[hu]at hp
  cases hi:P.info? t with
  |none=>rw[hi]at hz;cases hz
  |some it =>
   rw[hi]at hz
   cases hzz:it.zero with
   |none=>simp[hzz]at hz
   |some z =>
    simp only[qd7,hzz,qcq,qb0]at hz;subst hz
    cases d <;> first|(cases hp;done)|skip
    rename_i fields
    have hp':fields.toList.mapM (fun f=>(P.info? f.type).map fun i=>(f.offset,i.size))=some pl:=hp;simp only[hzz,hp']
    simpa using hl
theorem Bd{parts:Array (Nat × Operand)}{pl:List (Nat × Nat)}(l:List Value)(hp:CJ P t=some pl)(hz:Ca P t=some zl)(h:A4 P r ops Q rest (put e dst<|.agg l.toArray) w)(hg:AJ ⟨dst,.build t parts,ty,pos,af,g⟩ ops e=true:=by exact U)(hl:Instr.fill (fun i=>pl.toArray[i]?) zl.toArray (parts.toList.map fun p=>(p.1,ev e p.2))=some l.toArray:=by kernel_rfl):
  A4 P r ops Q (⟨dst,.build t parts,ty,pos,af,g⟩::rest) e w:=by
 refine B8 hg U ?_ h;have hb:P.built t (parts.map fun(i,x)=>(i,ev e x)).toList=some l.toArray:=MJ hp hz (by rw[qcr];exact hl);simp[execOp,run_build w t _ _ hb]
theorem Cs{parts:Array (Nat × Operand)}{s:Nat}(l:List Value)(hu:C8 P t=some el)(hs:Cb P el=some s)(hz:Ca P el=some zl)(H:Ctx w0 S w L)(h:∀b w',w.heap.size=b->Ctx w0 S w' ((b,Bl el l)::L)->A4 P r ops Q rest (put e dst<|.slice (some ⟨b,0,none⟩) n n) w')(hg:AJ ⟨dst,.buildSlice t n parts,ty,pos,af,g⟩ ops e=true:=by exact U)(hn:¬n*s=0:=by decide)(hbig:¬16777216<n*s:=by decide)(hl:Instr.fill (fun i=>some (i*s,s)) ((Array.range<|n*s).map fun k=>zl.toArray[k % zl.toArray.size]!) (parts.toList.map fun p=>(p.1,ev e p.2))=some l.toArray:=by kernel_rfl):
  A4 P r ops Q (⟨dst,.buildSlice t n parts,ty,pos,af,g⟩::rest) e w:=by
 obtain⟨z,hz1,hz2⟩:=G5 hz w;have hzc:z.cells=zl.toArray:=by apply qcg;rw[hz2]
 refine B8 (w':=w.alloc<|Bl el l) (v := .slice (some ⟨w.heap.size,0,none⟩) n n) hg U ?_<|h _ _ U<|H.alloc _;have hf:Instr.fill (fun i=>some (i*s,s)) ((Array.range<|n*s).map fun k=>zl.toArray[k % zl.toArray.size]!) (parts.map fun(i,x)=>(i,ev e x)).toList=some l.toArray:=by rw[qcr];exact hl
 simp only[execOp,Instr.buildSlice,Sem.run_bind,Bg<|CS hu,CL hs,Result.andThen_ok,if_neg hbig,if_neg hn,hz1,Sem.run_pure,hzc];rw[hf];simp[newRow,newObj,Sem.run];rfl
theorem Ab3{a:Tmp}(hr:fn.results=#[.cell a t])(hd:e.ds=[])(ha:e.g a=.pointer (some p))(hv:(loadVar t p).run P w=.ok v w)(h:R v w):Mc P fn R .ret e w :=
 ⟨hd,fun tmps ht=>by
  have h1:=(ht a).trans ha;rw[qbm]at h1
  exact⟨v,by simp[results,hr,h1,asAddr,hv],h⟩⟩
theorem C1{a:Tmp}{b k s:Nat}(hr:fn.results=#[.cell a t])(hd:e.ds=[])(ha:e.g a=.pointer (some ⟨b,0,none⟩))(hag:Dc P t=some true)(hs:Cb P t=some s)(H:Ctx w0 S w L)(hk:L[k]?=some (b,Bl t2 l))(hl:l.length=s)(h:R (.agg l.toArray) w):Mc P fn R .ret e w :=
 Ab3 hr hd ha (Fv hag hs hl (fun j v hv=>by rw[Ai<|H.get hk,qa0];exact hv)) h
end
theorem MK(hk:k.signed=false)(a:Nat):k.wrap (a:Int)=((a % 2 ^ k.bits:Nat):Int):=by
 unfold IntKind.wrap;rw[hk];simp
theorem Li(n a:Nat):BitVec.ofInt n (a:Int)=BitVec.ofNat n a:=by
 apply BitVec.eq_of_toNat_eq;rw[BitVec.toNat_ofInt,BitVec.toNat_ofNat]
 norm_cast
theorem X1(hk:k.signed=false){a b:Nat}(ha:a<2 ^ k.bits)(hb:b<2 ^ k.bits):Op.intBits .and k a b=pure (.int k ((a &&& b:Nat):Int)):=by
 have hx:a &&& b<2 ^ k.bits:=Nat.lt_of_le_of_lt Nat.and_le_left ha;simp only[Op.intBits,Li];rw[MK hk,BitVec.toNat_and,BitVec.toNat_ofNat,BitVec.toNat_ofNat,qct ha,qct hb,qct hx]
theorem X2(hk:k.signed=false){a b:Nat}(ha:a<2 ^ k.bits)(hb:b<2 ^ k.bits):Op.intBits .xor k a b=pure (.int k ((a ^^^ b:Nat):Int)):=by
 have hx:a ^^^ b<2 ^ k.bits:=Nat.xor_lt_two_pow ha hb;simp only[Op.intBits,Li];rw[MK hk,BitVec.toNat_xor,BitVec.toNat_ofNat,BitVec.toNat_ofNat,qct ha,qct hb,qct hx]
theorem Mi{a:Nat}(hn:n<=k.bits):Op.shift .shr k (a:Int) k2 (n:Int)=pure (.int k ((a / 2 ^ n:Nat):Int)):=by
 unfold Op.shift;rw[if_neg<|by omega];have hm:min ((n:Int)).toNat k.bits=n:=by rw[qa7];exact qch hn
 simp only[hm]
 congr 2
 have:((2:Int) ^ n)=((2 ^ n:Nat):Int):=by norm_cast
 rw[this,Int.fdiv_eq_ediv_of_nonneg _<|Int.natCast_nonneg _]
 norm_cast
theorem U2(hk:k.signed=false){a:Nat}(hn:n<=k.bits):Op.shift .shl k (a:Int) k2 (n:Int)=pure (.int k ((a*2 ^ n % 2 ^ k.bits:Nat):Int)):=by
 unfold Op.shift;rw[if_neg<|by omega];have hm:min ((n:Int)).toNat k.bits=n:=by rw[qa7];exact qch hn
 simp only[hm]
 congr 2
 have:(a:Int)*(2:Int) ^ n=((a*2 ^ n:Nat):Int):=by norm_cast
 rw[this,MK hk]
section
variable {P:Program}{r:Option Nat}{ops rest:List Oper}{Q:Exit->Env->World->Prop}{e:Env}{w w0:World}{S:List Nat}{L:List (Nat × Obj)}{dst:Option Tmp}{ty:TypeId}{pos:String}{af:Array Edge}{g:Option (Nat × Bool)}{C:World->Prop}{K:Env->Prop}{t t2:TypeId}{x y:Operand}{a b n:Nat}{s d:TypeId}
theorem Il(hg:AJ ⟨dst,.binOp .and t x y t2,ty,pos,af,g⟩ ops e=true)(hx:ev e x=.int .u64 a)(hy:ev e y=.int .u64 b)(h:A4 P r ops Q rest (put e dst<|.int .u64 ((a &&& b:Nat):Int)) w)(ha:a<18446744073709551616:=by omega)(hb:b<18446744073709551616:=by omega):A4 P r ops Q (⟨dst,.binOp .and t x y t2,ty,pos,af,g⟩::rest) e w :=
 B8 hg rfl (BW hx hy (by show(Op.intBits .and .u64 (a:Int) (b:Int)).run P w=_;rw[X1 rfl (by exact ha) (by exact hb)];rfl)) h
theorem Lj(hg:AJ ⟨dst,.binOp .xor t x y t2,ty,pos,af,g⟩ ops e=true)(hx:ev e x=.int .u64 a)(hy:ev e y=.int .u64 b)(ha:a<18446744073709551616)(hb:b<18446744073709551616)(h:Wq P ops C K rest<|put e dst<|.int .u64 ((a ^^^ b:Nat):Int)):Wq P ops C K (⟨dst,.binOp .xor t x y t2,ty,pos,af,g⟩::rest) e :=
 DI hg (fun w _=>BW hx hy (by show(Op.intBits .xor .u64 (a:Int) (b:Int)).run P w=_;rw[X2 rfl (by exact ha) (by exact hb)];rfl)) h
theorem EL(hx:ev e x=.int .u64 a)(hy:ev e y=.int k2 n)(h:A4 P r ops Q rest (put e dst<|.int .u64 ((a / 2 ^ n:Nat):Int)) w)(hg:AJ ⟨dst,.binOp .shr t x y t2,ty,pos,af,g⟩ ops e=true:=by exact U)(hn:n<=64:=by omega):A4 P r ops Q (⟨dst,.binOp .shr t x y t2,ty,pos,af,g⟩::rest) e w :=
 B8 hg rfl (BW hx hy (by show(Op.shift .shr .u64 (a:Int) k2 (n:Int)).run P w=_;rw[Mi<|by exact hn];rfl)) h
theorem VC(hg:AJ ⟨dst,.binOp .shr t x y t2,ty,pos,af,g⟩ ops e=true)(hx:ev e x=.int .u64 a)(hy:ev e y=.int k2 n)(h:Wq P ops C K rest<|put e dst<|.int .u64 ((a / 2 ^ n:Nat):Int))(hn:n<=64:=by decide):Wq P ops C K (⟨dst,.binOp .shr t x y t2,ty,pos,af,g⟩::rest) e :=
 DI hg (fun w _=>BW hx hy (by show(Op.shift .shr .u64 (a:Int) k2 (n:Int)).run P w=_;rw[Mi<|by exact hn];rfl)) h
theorem SY(hg:AJ ⟨dst,.binOp .shl t x y t2,ty,pos,af,g⟩ ops e=true)(hx:ev e x=.int .u64 a)(hy:ev e y=.int k2 n)(hn:n<=64)(h:A4 P r ops Q rest (put e dst<|.int .u64 ((a*2 ^ n % 18446744073709551616:Nat):Int)) w):A4 P r ops Q (⟨dst,.binOp .shl t x y t2,ty,pos,af,g⟩::rest) e w :=
 B8 hg rfl (BW hx hy (by show(Op.shift .shl .u64 (a:Int) k2 (n:Int)).run P w=_;rw[U2 rfl (by exact hn)];rfl)) h
theorem Oa(hg:AJ ⟨dst,.binOp .shl t x y t2,ty,pos,af,g⟩ ops e=true)(hx:ev e x=.int .u64 a)(hy:ev e y=.int k2 n)(h:Wq P ops C K rest<|put e dst<|.int .u64 ((a*2 ^ n % 18446744073709551616:Nat):Int))(hn:n<=64:=by decide):Wq P ops C K (⟨dst,.binOp .shl t x y t2,ty,pos,af,g⟩::rest) e :=
 DI hg (fun w _=>BW hx hy (by show(Op.shift .shl .u64 (a:Int) k2 (n:Int)).run P w=_;rw[U2 rfl (by exact hn)];rfl)) h
end
section
variable {P:Program}{r:Option Nat}{ops rest:List Oper}{Q:Exit->Env->World->Prop}{e:Env}{w w0:World}{S:List Nat}{L:List (Nat × Obj)}{dst:Option Tmp}{ty:TypeId}{pos:String}{af:Array Edge}{g:Option (Nat × Bool)}{C:World->Prop}{K:Env->Prop}
theorem DS{o:Oper}(hg:AJ o ops e=true)(hrun:∀w,lax o=true\/C w->(execOp (ev e) o).run P w=.ok (.value v) w)(h:Wt P ops C K rest<|put e o.dst v):Wt P ops C K (o::rest) e:=by
 unfold Wt;rw[if_pos hg];exact⟨v,hrun,h⟩
theorem X3{o:Oper}(hl:lax o=false)(hg:AJ o ops e=true)(hrun:∀w,C w->(execOp (ev e) o).run P w=.ok (.value v) w)(h:Wt P ops C K rest<|put e o.dst v):Wt P ops C K (o::rest) e :=
 DS hg (fun w hw=>hrun w<|hw.resolve_left (by rw[hl];simp)) h
theorem Bs{o:Oper}(hg:AJ o ops e=false)(h:Wt P ops C K rest<|put e o.dst undef):Wt P ops C K (o::rest) e:=by
 unfold Wt;rw[if_neg (by rw[hg];simp)];exact h
theorem A6(h:K e):Wt P ops C K [] e:=h
theorem QF{l:List Oper}(d:Tmp){b:Bool}(c:Bool)(hd:e.g d=.bool b)(hb:b=c)(h:Wt P ops C K l<|put e (some d)<|.bool c):Wt P ops C K l e:=by
 subst hb;rw[F7 hd]at h;exact h
theorem G8{l:List Oper}(d:Tmp){b:Bool}(hd:e.g d=.bool b)(h1:b=true->Wt P ops C K l (put e (some d)<|.bool true))(h2:b=false->Wt P ops C K l (put e (some d)<|.bool false)):Wt P ops C K l e:=by
 cases b with
 |true=>exact QF d true hd rfl (h1 rfl)
 |false=>exact QF d false hd rfl (h2 rfl)
theorem iF{l:List Oper}(d:Tmp){b:Bool}{p:Prop}[iA b p q](hd:e.g d=.bool b)(h1:p->Wt P ops C K l (put e (some d)<|.bool true))(h2:q->Wt P ops C K l (put e (some d)<|.bool false)):Wt P ops C K l e:=G8 d hd (fun h=>h1<|iA.t h) fun h=>h2<|iA.f h
section
variable {t t2:TypeId}{x y:Operand}{k:IntKind}{a b:Int}
theorem AU(ha:Dc P t=some false)(hx:ev e x=.pointer (some p))(hc:∀w,C w->w.cell? p=some v)(h:Wt P ops C K rest<|put e dst v)(hg:AJ ⟨dst,.load t x,ty,pos,af,g⟩ ops e=true:=by exact U):Wt P ops C K (⟨dst,.load t x,ty,pos,af,g⟩::rest) e :=
 X3 rfl hg (fun w hw=>by simp[execOp,hx,Instr.loadAt,Instr.sureAddr,Fu ha<|hc w hw]) h
theorem JD{b k:Nat}(ha:Dc P t=some false)(hx:ev e x=.pointer (some ⟨b,i,none⟩))(H:∀w,C w->Ctx w0 S w L)(hk:L[k]?=some (b,Bl t2 l))(hc:l[i]?=some v)(h:Wt P ops C K rest<|put e dst v)(hg:AJ ⟨dst,.load t x,ty,pos,af,g⟩ ops e=true:=by exact U):Wt P ops C K (⟨dst,.load t x,ty,pos,af,g⟩::rest) e :=
 AU (hg:=hg) ha hx (fun w hw=>by rw[Ai<|(H w hw).get hk];exact hc) h
theorem EZ{b s:Nat}(l:List Value)(ha:Dc P t=some true)(hs:Cb P t=some s)(hx:ev e x=.pointer (some ⟨b,o,none⟩))(hl:l.length=s)(hc:∀w,C w->∀j v,l[j]?=some v->w.cell? ⟨b,o+j,none⟩=some v)(h:Wt P ops C K rest<|put e dst<|.agg l.toArray)(hg:AJ ⟨dst,.load t x,ty,pos,af,g⟩ ops e=true:=by exact U):Wt P ops C K (⟨dst,.load t x,ty,pos,af,g⟩::rest) e :=
 X3 rfl hg (fun w hw=>by simp[execOp,hx,Instr.loadAt,Instr.sureAddr,Fv ha hs hl<|hc w hw]) h
theorem X4(hg:AJ ⟨dst,.binOp .lss t x y t2,ty,pos,af,g⟩ ops e=true)(hx:ev e x=.int k a)(hy:ev e y=.int k b)(h:Wt P ops C K rest<|put e dst<|.bool<|decide (a<b)) :
  Wt P ops C K (⟨dst,.binOp .lss t x y t2,ty,pos,af,g⟩::rest) e:=DS hg (fun w _=>BW hx hy<|by simp[binOp,Op.intCmp]) h
theorem X5(hg:AJ ⟨dst,.binOp .gtr t x y t2,ty,pos,af,g⟩ ops e=true)(hx:ev e x=.int k a)(hy:ev e y=.int k b)(h:Wt P ops C K rest<|put e dst<|.bool<|decide (b<a)) :
  Wt P ops C K (⟨dst,.binOp .gtr t x y t2,ty,pos,af,g⟩::rest) e:=DS hg (fun w _=>BW hx hy<|by simp[binOp,Op.intCmp]) h
theorem QG(hg:AJ ⟨dst,.binOp .geq t x y t2,ty,pos,af,g⟩ ops e=true)(hx:ev e x=.int k a)(hy:ev e y=.int k b)(h:Wt P ops C K rest<|put e dst<|.bool<|decide (b<=a)) :
  Wt P ops C K (⟨dst,.binOp .geq t x y t2,ty,pos,af,g⟩::rest) e:=DS hg (fun w _=>BW hx hy<|by simp[binOp,Op.intCmp]) h
theorem Aes(hg:AJ ⟨dst,.binOp .eql t x y t2,ty,pos,af,g⟩ ops e=true)(hx:ev e x=.int k a)(hy:ev e y=.int k b)(h:Wt P ops C K rest<|put e dst<|.bool<|decide (a=b)) :
  Wt P ops C K (⟨dst,.binOp .eql t x y t2,ty,pos,af,g⟩::rest) e :=
 DS hg (fun w _=>BW hx hy (v := .bool (decide (a=b))) (by simp[binOp,Op.intCmp];rfl)) h
theorem Aet(hg:AJ ⟨dst,.binOp .rem t x y t2,ty,pos,af,g⟩ ops e=true)(hx:ev e x=.int k a)(hy:ev e y=.int k b)(h:Wt P ops C K rest<|put e dst<|.int k<|a % b)(h0:0<=a:=by omega)(hb:0<b:=by omega):Wt P ops C K (⟨dst,.binOp .rem t x y t2,ty,pos,af,g⟩::rest) e:=by
 refine DS hg (fun w _=>BW hx hy (v := .int k (a % b)) ?_) h;have h3:a.tmod b=a % b:=qee h0;simp[binOp,Op.intDiv,h3,show ¬b=0 from by omega]
theorem Dt(hx:ev e x=.int .i64 a)(hy:ev e y=.int .i64 b)(h:Wt P ops C K rest<|put e dst<|.int .i64<|a+b)(hg:AJ ⟨dst,.binOp .add t x y t2,ty,pos,af,g⟩ ops e=true:=by exact U)(h1: -9223372036854775808<=a+b:=by omega)(h2:a+b<=9223372036854775807:=by omega):Wt P ops C K (⟨dst,.binOp .add t x y t2,ty,pos,af,g⟩::rest) e:=DS hg (fun w _=>BW hx hy<|by simp[binOp,Op.intArith,CC (k := .i64) (n:=a+b) h1 h2]) h
theorem D9(hx:ev e x=.int .i64 a)(hy:ev e y=.int .i64 b)(h:Wt P ops C K rest<|put e dst<|.int .i64<|a - b)(hg:AJ ⟨dst,.binOp .sub t x y t2,ty,pos,af,g⟩ ops e=true:=by exact U)(h1: -9223372036854775808<=a - b:=by omega)(h2:a - b<=9223372036854775807:=by omega):Wt P ops C K (⟨dst,.binOp .sub t x y t2,ty,pos,af,g⟩::rest) e:=DS hg (fun w _=>BW hx hy<|by simp[binOp,Op.intArith,CC (k := .i64) (n:=a - b) h1 h2]) h
theorem VD(hg:AJ ⟨dst,.binOp .mul t x y t2,ty,pos,af,g⟩ ops e=true)(hx:ev e x=.int .i64 a)(hy:ev e y=.int .i64 b)(h:Wt P ops C K rest<|put e dst<|.int .i64<|a*b)(h1: -9223372036854775808<=a*b:=by omega)(h2:a*b<=9223372036854775807:=by omega):Wt P ops C K (⟨dst,.binOp .mul t x y t2,ty,pos,af,g⟩::rest) e:=DS hg (fun w _=>BW hx hy<|by simp[binOp,Op.intArith,CC (k := .i64) (n:=a*b) h1 h2]) h
theorem Ob(hg:AJ ⟨dst,.unOp .neg t x,ty,pos,af,g⟩ ops e=true)(hx:ev e x=.int .i64 a)(h:Wt P ops C K rest<|put e dst<|.int .i64 (- a))(h1: -9223372036854775808 <= - a:=by omega)(h2: - a<=9223372036854775807:=by omega):Wt P ops C K (⟨dst,.unOp .neg t x,ty,pos,af,g⟩::rest) e:=DS hg (fun w _=>by simp[execOp,hx,Op.unary,Op.intArith,CC (k := .i64) h1 h2]) h
theorem Lk(hg:AJ ⟨dst,.binOp .add t x y t2,ty,pos,af,g⟩ ops e=true)(hx:ev e x=.int .u64 a)(hy:ev e y=.int .u64 b)(h:Wt P ops C K rest<|put e dst<|.int .u64<|a+b)(h1:0<=a+b:=by omega)(h2:a+b<=18446744073709551615:=by omega):Wt P ops C K (⟨dst,.binOp .add t x y t2,ty,pos,af,g⟩::rest) e:=DS hg (fun w _=>BW hx hy<|by simp[binOp,Op.intArith,CC (k := .u64) (n:=a+b) h1 h2]) h
theorem VE(hg:AJ ⟨dst,.binOp .sub t x y t2,ty,pos,af,g⟩ ops e=true)(hx:ev e x=.int .u64 a)(hy:ev e y=.int .u64 b)(h:Wt P ops C K rest<|put e dst<|.int .u64<|a - b)(h1:0<=a - b:=by omega)(h2:a - b<=18446744073709551615:=by omega):Wt P ops C K (⟨dst,.binOp .sub t x y t2,ty,pos,af,g⟩::rest) e:=DS hg (fun w _=>BW hx hy<|by simp[binOp,Op.intArith,CC (k := .u64) (n:=a - b) h1 h2]) h
theorem SZ{s:TypeId}(hg:AJ ⟨dst,.convert s d x,ty,pos,af,g⟩ ops e=true)(hx:ev e x=.int k a)(hs:P.underlying s=some ds)(hd:P.underlying d=some (.int .u64))(h:Wt P ops C K rest<|put e dst<|.int .u64 a)(h1:0<=a:=by omega)(h2:a<=18446744073709551615:=by omega):Wt P ops C K (⟨dst,.convert s d x,ty,pos,af,g⟩::rest) e :=
 DS hg (fun w _=>by simp[execOp,hx,convert,Bg hs,Bg hd,Conv.intToInt,CC (k := .u64) (n:=a) h1 h2]) h
theorem ML(hg:AJ ⟨dst,.move x,ty,pos,af,g⟩ ops e=true)(v:Value)(hx:ev e x=v)(h:Wt P ops C K rest<|put e dst v) :
  Wt P ops C K (⟨dst,.move x,ty,pos,af,g⟩::rest) e:=DS hg (fun w _=>by simp[execOp,hx]) h
theorem QH(hg:AJ ⟨dst,.assign x,ty,pos,af,g⟩ ops e=true)(v:Value)(hx:ev e x=v)(h:Wt P ops C K rest<|put e dst v) :
  Wt P ops C K (⟨dst,.assign x,ty,pos,af,g⟩::rest) e:=DS hg (fun w _=>by simp[execOp,hx]) h
theorem He{c a b:Operand}(hc:ev e c=.bool true)(v:Value)(hx:ev e a=v)(h:Wt P ops C K rest<|put e dst v)(hg:AJ ⟨dst,.pick c a b,ty,pos,af,g⟩ ops e=true:=by exact U):
  Wt P ops C K (⟨dst,.pick c a b,ty,pos,af,g⟩::rest) e:=DS hg (fun w _=>by simp[execOp,hc,hx,asBool]) h
theorem Kr{c a b:Operand}(hg:AJ ⟨dst,.pick c a b,ty,pos,af,g⟩ ops e=true)(hc:ev e c=.bool false)(v:Value)(hx:ev e b=v)(h:Wt P ops C K rest<|put e dst v) :
  Wt P ops C K (⟨dst,.pick c a b,ty,pos,af,g⟩::rest) e:=DS hg (fun w _=>by simp[execOp,hc,hx,asBool]) h
theorem QI{b:Bool}(hg:AJ ⟨dst,.unOp .not t x,ty,pos,af,g⟩ ops e=true)(hx:ev e x=.bool b)(h:Wt P ops C K rest<|put e dst<|.bool<|!b) :
  Wt P ops C K (⟨dst,.unOp .not t x,ty,pos,af,g⟩::rest) e:=DS hg (fun w _=>by simp[execOp,hx,Op.unary]) h
theorem A7(hx:ev e x=.pointer (some p))(h:Wt P ops C K rest<|put e dst<|.pointer<|some p)(hg:AJ ⟨dst,.nilCheck x,ty,pos,af,g⟩ ops e=true:=by exact U):
  Wt P ops C K (⟨dst,.nilCheck x,ty,pos,af,g⟩::rest) e:=DS hg (fun w _=>by simp[execOp,hx]) h
theorem AA{b s:Nat}{i:Int}(hu:C8 P t=some el)(hs:Cb P el=some s)(hx:ev e x=.slice (some ⟨b,o,none⟩) n c)(hy:ev e y=.int k i)(h:Wt P ops C K rest<|put e dst<|.pointer<|some ⟨b,o+i.toNat*s,none⟩)(hg:AJ ⟨dst,.indexAddr t x y,ty,pos,af,g⟩ ops e=true:=by exact U)(h0:0<=i:=by omega)(h1:i<n:=by omega):
  Wt P ops C K (⟨dst,.indexAddr t x y,ty,pos,af,g⟩::rest) e :=
 DS hg (fun w _=>by simp[execOp,hx,hy,Instr.indexAt,asIntOf,Bg<|CS hu,h0,h1,CL hs,add_none]) h
theorem B4{a:Option Addr}{s:Nat}{i:Int}{enc:α->List Value}(R:Rd w1 a s enc xs)(hu:C8 P t=some el)(hs:Cb P el=some s)(hx:ev e x=.slice a n c)(hy:ev e y=.int k i)(hn:n=xs.length)(h:Wt P ops C K rest<|put e dst<|.pointer<|some ⟨(adr a).block,(adr a).off+i.toNat*s,none⟩)(hg:AJ ⟨dst,.indexAddr t x y,ty,pos,af,g⟩ ops e=true:=by exact U)(h0:0<=i:=by omega)(h1:i<n:=by omega):
  Wt P ops C K (⟨dst,.indexAddr t x y,ty,pos,af,g⟩::rest) e:=by
 obtain⟨b,o,rfl⟩:=R.some' (by rintro rfl;simp at hn;omega);exact AA (hg:=hg) hu hs hx hy (h0:=h0) (h1:=h1) h
theorem MN{b s:Nat}{i:Int}(hg:AJ ⟨dst,.indexAddr t x y,ty,pos,af,g⟩ ops e=true)(hu:Q8 P t=some (n,el))(hs:Cb P el=some s)(hx:ev e x=.pointer (some ⟨b,o,none⟩))(hy:ev e y=.int k i)(h:Wt P ops C K rest<|put e dst<|.pointer<|some ⟨b,o+i.toNat*s,none⟩)(h0:0<=i:=by omega)(h1:i<n:=by omega):
  Wt P ops C K (⟨dst,.indexAddr t x y,ty,pos,af,g⟩::rest) e :=
 DS hg (fun w _=>by simp[execOp,hx,hy,Instr.indexAt,asIntOf,Bg<|SR hu,Instr.sureAddr,h0,h1,CL hs,add_none]) h
theorem X6{a:Option Addr}(hg:AJ ⟨dst,.call ⟨.builtin .len,#[x],#[t]⟩,ty,pos,af,g⟩ ops e=true)(hu:C8 P t=some el)(hx:ev e x=.slice a n c)(h:Wt P ops C K rest<|put e dst<|.int .i64 n) :
  Wt P ops C K (⟨dst,.call ⟨.builtin .len,#[x],#[t]⟩,ty,pos,af,g⟩::rest) e :=
 DS hg (fun w _=>by simp[execOp,resolve,invoke,builtin,hx,Builtin.len_,Bg<|CS hu,goInt]) h
theorem X7{a b:Int}(hg:AJ ⟨dst,.call ⟨.builtin .min,#[x,y],#[t1,t2]⟩,ty,pos,af,g⟩ ops e=true)(hx:ev e x=.int k a)(hy:ev e y=.int k b)(h:Wt P ops C K rest<|put e dst<|.int k<|min a b) :
  Wt P ops C K (⟨dst,.call ⟨.builtin .min,#[x,y],#[t1,t2]⟩,ty,pos,af,g⟩::rest) e :=
 DS hg (fun w _=>by
  have:(if b<a then b else a)=min a b:=by rw[Int.min_def];split <;> split <;> omega
  simp[execOp,resolve,invoke,builtin,hx,hy,Builtin.min_,Builtin.min2,this]) h
theorem Afo{a b:Int}(hg:AJ ⟨dst,.call ⟨.builtin .max,#[x,y],#[t1,t2]⟩,ty,pos,af,g⟩ ops e=true)(hx:ev e x=.int k a)(hy:ev e y=.int k b)(h:Wt P ops C K rest<|put e dst<|.int k<|max a b) :
  Wt P ops C K (⟨dst,.call ⟨.builtin .max,#[x,y],#[t1,t2]⟩,ty,pos,af,g⟩::rest) e :=
 DS hg (fun w _=>by
  have:(if a<b then b else a)=max a b:=by rw[Int.max_def];split <;> split <;> omega
  simp[execOp,resolve,invoke,builtin,hx,hy,Builtin.max_,Builtin.max2,this]) h
theorem AZ{vs:Array Value}(hx:ev e x=.tuple vs)(hv:vs[i]?=some v)(h:Wt P ops C K rest<|put e dst v)(hg:AJ ⟨dst,.extract x i,ty,pos,af,g⟩ ops e=true:=by exact U):
  Wt P ops C K (⟨dst,.extract x i,ty,pos,af,g⟩::rest) e :=
 DS hg (fun w _=>by simp[execOp,hx,Instr.extract,hv]) h
theorem Ah{b:Nat}(hf:B5 P t i=some off)(hx:ev e x=.pointer (some ⟨b,o,none⟩))(h:Wt P ops C K rest<|put e dst<|.pointer<|some ⟨b,o+off,none⟩)(hg:AJ ⟨dst,.fieldAddr t x i,ty,pos,af,g⟩ ops e=true:=by exact U):
  Wt P ops C K (⟨dst,.fieldAddr t x i,ty,pos,af,g⟩::rest) e:=by
 unfold B5 at hf
 split at hf
 .rename_i fs hu
  split at hf
  .rename_i f hf1
   split at hf
   .rename_i s hs
    injection hf with hf
    subst hf;exact DS hg (fun w _=>by simp[execOp,hx,Instr.fieldAt,Bg hu,hf1,Instr.sureAddr,fieldPlace,CL hs,add_none]) h
   .cases hf
  .cases hf
 .cases hf
end
section
variable {t t2:TypeId}{x y:Operand}{a b n:Nat}{s d:TypeId}
end
end
section
variable {P:Program}{r:Option Nat}{ops rest:List Oper}{Q:Exit->Env->World->Prop}{e:Env}{w:World}{C:World->Prop}{K:Env->Prop}{dst:Option Tmp}{ty:TypeId}{pos:String}{af:Array Edge}{g:Option (Nat × Bool)}{x:Operand}
theorem Ad{i:Int}(hx:ev e x=(.int k i))(h:A4 P r ops Q rest (put e dst<|.int k i) w)(hg:AJ ⟨dst,.move x,ty,pos,af,g⟩ ops e=true:=by exact U):A4 P r ops Q (⟨dst,.move x,ty,pos,af,g⟩::rest) e w:=ET hg (.int k i) hx h
theorem AS{i:Int}(hx:ev e x=(.int k i))(h:Wq P ops C K rest<|put e dst<|.int k i)(hg:AJ ⟨dst,.move x,ty,pos,af,g⟩ ops e=true:=by exact U):Wq P ops C K (⟨dst,.move x,ty,pos,af,g⟩::rest) e:=Lh hg (.int k i) hx h
theorem AG{i:Int}(hx:ev e x=(.int k i))(h:Wt P ops C K rest<|put e dst<|.int k i)(hg:AJ ⟨dst,.move x,ty,pos,af,g⟩ ops e=true:=by exact U):Wt P ops C K (⟨dst,.move x,ty,pos,af,g⟩::rest) e:=ML hg (.int k i) hx h
theorem Bj{b:Bool}(hx:ev e x=(.bool b))(h:A4 P r ops Q rest (put e dst<|.bool b) w)(hg:AJ ⟨dst,.move x,ty,pos,af,g⟩ ops e=true:=by exact U):A4 P r ops Q (⟨dst,.move x,ty,pos,af,g⟩::rest) e w:=ET hg (.bool b) hx h
theorem EU{b:Bool}(hx:ev e x=(.bool b))(h:Wq P ops C K rest<|put e dst<|.bool b)(hg:AJ ⟨dst,.move x,ty,pos,af,g⟩ ops e=true:=by exact U):Wq P ops C K (⟨dst,.move x,ty,pos,af,g⟩::rest) e:=Lh hg (.bool b) hx h
theorem DT{b:Bool}(hx:ev e x=(.bool b))(h:Wt P ops C K rest<|put e dst<|.bool b)(hg:AJ ⟨dst,.move x,ty,pos,af,g⟩ ops e=true:=by exact U):Wt P ops C K (⟨dst,.move x,ty,pos,af,g⟩::rest) e:=ML hg (.bool b) hx h
theorem AH{a:Option Addr}(hx:ev e x=(.slice a n c))(h:A4 P r ops Q rest (put e dst<|.slice a n c) w)(hg:AJ ⟨dst,.move x,ty,pos,af,g⟩ ops e=true:=by exact U):A4 P r ops Q (⟨dst,.move x,ty,pos,af,g⟩::rest) e w:=ET hg (.slice a n c) hx h
theorem BT{a:Option Addr}(hx:ev e x=(.slice a n c))(h:Wq P ops C K rest<|put e dst<|.slice a n c)(hg:AJ ⟨dst,.move x,ty,pos,af,g⟩ ops e=true:=by exact U):Wq P ops C K (⟨dst,.move x,ty,pos,af,g⟩::rest) e:=Lh hg (.slice a n c) hx h
theorem Bq{a:Option Addr}(hx:ev e x=(.slice a n c))(h:Wt P ops C K rest<|put e dst<|.slice a n c)(hg:AJ ⟨dst,.move x,ty,pos,af,g⟩ ops e=true:=by exact U):Wt P ops C K (⟨dst,.move x,ty,pos,af,g⟩::rest) e:=ML hg (.slice a n c) hx h
theorem AV{p:Option Addr}(hx:ev e x=(.pointer p))(h:A4 P r ops Q rest (put e dst<|.pointer p) w)(hg:AJ ⟨dst,.move x,ty,pos,af,g⟩ ops e=true:=by exact U):A4 P r ops Q (⟨dst,.move x,ty,pos,af,g⟩::rest) e w:=ET hg (.pointer p) hx h
theorem BE{p:Option Addr}(hx:ev e x=(.pointer p))(h:Wq P ops C K rest<|put e dst<|.pointer p)(hg:AJ ⟨dst,.move x,ty,pos,af,g⟩ ops e=true:=by exact U):Wq P ops C K (⟨dst,.move x,ty,pos,af,g⟩::rest) e:=Lh hg (.pointer p) hx h
theorem Bm{p:Option Addr}(hx:ev e x=(.pointer p))(h:Wt P ops C K rest<|put e dst<|.pointer p)(hg:AJ ⟨dst,.move x,ty,pos,af,g⟩ ops e=true:=by exact U):Wt P ops C K (⟨dst,.move x,ty,pos,af,g⟩::rest) e:=ML hg (.pointer p) hx h
theorem E0{l:Array Value}(hx:ev e x=(.tuple l))(h:A4 P r ops Q rest (put e dst<|.tuple l) w)(hg:AJ ⟨dst,.move x,ty,pos,af,g⟩ ops e=true:=by exact U):A4 P r ops Q (⟨dst,.move x,ty,pos,af,g⟩::rest) e w:=ET hg (.tuple l) hx h
theorem CK{l:Array Value}(hx:ev e x=(.tuple l))(h:Wt P ops C K rest<|put e dst<|.tuple l)(hg:AJ ⟨dst,.move x,ty,pos,af,g⟩ ops e=true:=by exact U):Wt P ops C K (⟨dst,.move x,ty,pos,af,g⟩::rest) e:=ML hg (.tuple l) hx h
theorem Ag{i:Int}(hx:ev e x=(.int k i))(h:A4 P r ops Q rest (put e dst<|.int k i) w)(hg:AJ ⟨dst,.assign x,ty,pos,af,g⟩ ops e=true:=by exact U):A4 P r ops Q (⟨dst,.assign x,ty,pos,af,g⟩::rest) e w:=Dr hg (.int k i) hx h
theorem Gw{i:Int}(hg:AJ ⟨dst,.assign x,ty,pos,af,g⟩ ops e=true)(hx:ev e x=(.int k i))(h:Wq P ops C K rest<|put e dst<|.int k i):Wq P ops C K (⟨dst,.assign x,ty,pos,af,g⟩::rest) e:=MG hg (.int k i) hx h
theorem FM{i:Int}(hx:ev e x=(.int k i))(h:Wt P ops C K rest<|put e dst<|.int k i)(hg:AJ ⟨dst,.assign x,ty,pos,af,g⟩ ops e=true:=by exact U):Wt P ops C K (⟨dst,.assign x,ty,pos,af,g⟩::rest) e:=QH hg (.int k i) hx h
theorem A5{b:Bool}(hx:ev e x=(.bool b))(h:A4 P r ops Q rest (put e dst<|.bool b) w)(hg:AJ ⟨dst,.assign x,ty,pos,af,g⟩ ops e=true:=by exact U):A4 P r ops Q (⟨dst,.assign x,ty,pos,af,g⟩::rest) e w:=Dr hg (.bool b) hx h
theorem Ll{b:Bool}(hg:AJ ⟨dst,.assign x,ty,pos,af,g⟩ ops e=true)(hx:ev e x=(.bool b))(h:Wq P ops C K rest<|put e dst<|.bool b):Wq P ops C K (⟨dst,.assign x,ty,pos,af,g⟩::rest) e:=MG hg (.bool b) hx h
theorem AP{a:Option Addr}(hx:ev e x=(.slice a n c))(h:A4 P r ops Q rest (put e dst<|.slice a n c) w)(hg:AJ ⟨dst,.assign x,ty,pos,af,g⟩ ops e=true:=by exact U):A4 P r ops Q (⟨dst,.assign x,ty,pos,af,g⟩::rest) e w:=Dr hg (.slice a n c) hx h
theorem Oc{a:Option Addr}(hg:AJ ⟨dst,.assign x,ty,pos,af,g⟩ ops e=true)(hx:ev e x=(.slice a n c))(h:Wq P ops C K rest<|put e dst<|.slice a n c):Wq P ops C K (⟨dst,.assign x,ty,pos,af,g⟩::rest) e:=MG hg (.slice a n c) hx h
theorem DA{a:Option Addr}(hx:ev e x=(.slice a n c))(h:Wt P ops C K rest<|put e dst<|.slice a n c)(hg:AJ ⟨dst,.assign x,ty,pos,af,g⟩ ops e=true:=by exact U):Wt P ops C K (⟨dst,.assign x,ty,pos,af,g⟩::rest) e:=QH hg (.slice a n c) hx h
theorem Bx{p:Option Addr}(hx:ev e x=(.pointer p))(h:A4 P r ops Q rest (put e dst<|.pointer p) w)(hg:AJ ⟨dst,.assign x,ty,pos,af,g⟩ ops e=true:=by exact U):A4 P r ops Q (⟨dst,.assign x,ty,pos,af,g⟩::rest) e w:=Dr hg (.pointer p) hx h
end
def bv(b:UInt8):Value := .int .u8 (b.toNat:Int)
def str(l:List UInt8):Value := .string ⟨l.toArray⟩
section
variable {P:Program}{r:Option Nat}{ops rest:List Oper}{Q:Exit->Env->World->Prop}{e:Env}{w w0:World}{S:List Nat}{L:List (Nat × Obj)}{dst:Option Tmp}{ty:TypeId}{pos:String}{af:Array Edge}{g:Option (Nat × Bool)}{C:World->Prop}{K:Env->Prop}
theorem Afp(l:List UInt8)(n:Nat):(⟨l.toArray⟩:ByteArray)[n]?=l[n]? := by
 by_cases h:n<l.length
 .rw[qb4 h,getElem?_pos (⟨l.toArray⟩:ByteArray) n<|by simpa[ByteArray.size]using h];rfl
 .rw[qbg<|by omega,getElem?_neg (⟨l.toArray⟩:ByteArray) n<|by simpa[ByteArray.size]using h]
theorem VF{i:Int}{l:List UInt8}(b:UInt8)(hg:AJ ⟨dst,.index t x y,ty,pos,af,g⟩ ops e=true)(hu:P.underlying t=some .string)(hy:ev e y=.int k i)(hb:l[i.toNat]?=some b)(h:A4 P r ops Q rest (put e dst<|bv b) w)(hx:ev e x=str l:=by kernel_rfl)(h0:0<=i:=by omega):A4 P r ops Q (⟨dst,.index t x y,ty,pos,af,g⟩::rest) e w :=
 B8 hg rfl (by simp[execOp,Instr.index,hx,hy,str,asIntOf,Bg hu,h0,Afp,hb,bv]) h
theorem X8:∀(A B C M:List Value),B.length=M.length->over (A++(B++C)) A.length M=A++(M++C):=by
 intro A B C M
 induction M generalizing A B with
 |nil=>intro h;have:B=[]:=qck (by simpa using h);subst this;simp[over]
 |cons v M ih =>
  intro h
  cases B with
  |nil=>simp at h
  |cons x B =>
   have:=ih (A++[v]) B (by simpa using h);simp only[over];rw[show(A++(x::B++C)).set A.length v=A++[v]++(B++C)from by simp];rw[show A.length+1=(A++[v]).length from by simp,this];simp
end
section
variable {P:Program}{r:Option Nat}{ops rest:List Oper}{Q:Exit->Env->World->Prop}{e:Env}{w w0:World}{S:List Nat}{L:List (Nat × Obj)}{dst:Option Tmp}{ty:TypeId}{pos:String}{af:Array Edge}{g:Option (Nat × Bool)}
theorem Ab4{a b:Int}(hg:AJ ⟨dst,.binOp .rem t x y t2,ty,pos,af,g⟩ ops e=true)(hx:ev e x=.int k a)(hy:ev e y=.int k b)(h:A4 P r ops Q rest (put e dst<|.int k<|a.tmod b) w)(hb:0<b:=by decide):A4 P r ops Q (⟨dst,.binOp .rem t x y t2,ty,pos,af,g⟩::rest) e w :=
 B8 hg rfl (BW hx hy (v := .int k (a.tmod b))<|by simp[binOp,Op.intDiv,show ¬b=0 from by omega]) h
end
section
variable {P:Program}{r:Option Nat}{ops rest:List Oper}{Q:Exit->Env->World->Prop}{e:Env}{w w0:World}{S:List Nat}{L:List (Nat × Obj)}{dst:Option Tmp}{ty:TypeId}{pos:String}{af:Array Edge}{g:Option (Nat × Bool)}{n:Nat}
theorem EH{x:Code}{K:Env->World->Prop}(D:Nat)(live:α->List (Nat × Value))(I:α->World->Prop)(hD:FJ D x=true)(h:W P r n x (Fq (fun e' w'=>∃z,e'.ds=e.ds/\LD e' (live z)/\I z w') Q) e w)(hk:∀z j w',I z w'->K (SF (V7 e D j)<|live z) w'):W P r n x (Fq K Q) e w:=by
 refine Ff x (JO (S:=Same D e) ?_)<|FS x _ e w hD (Same.refl _ _) h;rintro e' w' hs ⟨z,hd,hl,hI⟩;have:=hk z e'.g w' hI;rw[<-hs.eq hd,Mx hl]at this;exact this
def Afq(l:Nat)(R:Value->World->Prop):Exit->Env->World->Prop
 | .normal,_,w=>∃lo,w.heap[l]?=some (.loop lo)/\R (.bool true) (w.putObj l (.loop { lo with state := .ready,pending:=none }))
 | .ret,_,w=>∃lo,w.heap[l]?=some (.loop lo)/\R (.bool false) (w.putObj l (.loop { lo with state := .done,pending:=some .ret }))
 | .exit id,_,w=>∃lo,w.heap[l]?=some (.loop lo)/\R (.bool false) (w.putObj l (.loop { lo with state := .done,pending:=some (.exit id) }))
 | .goto t,_,w=>∃lo,w.heap[l]?=some (.loop lo)/\R (.bool false) (w.putObj l (.loop { lo with state := .done,pending:=some (.goto t) }))
 |_,_,_=>False
def Afr(P:Program)(l n:Nat)(body:Code)(R:Value->World->Prop):Exit->Env->World->Prop
 | .normal,e,w=>∃lo,w.heap[l]?=some (.loop lo)/\lo.state=.ready/\W P (some l) n body (Afq l R) e (w.putObj l (.loop { lo with state := .busy }))
 |_,_,_=>False
theorem Ta{l f:Nat}(e0:Env)(hs:Sim n e0 { tmps:=tmps,defers:=[] })(hfit:(Gs n assign && Gs n body)=true)(h:W P (some l) n assign (Afr P l n body R) e0 w):RoundIn Fence.wide 0 P l f tmps assign body w fun x w'=>∃v,x=.returned v/\R v w':=by
 simp only[qag]at hfit;refine roundIn_of_wpIn trivial ?_;have h1:=F5 (r:=some l) assign _ e0 w h hfit.1 _ hs;refine wpIn_mono (F:=Fr<|some l) h1 ?_;rintro x a w1 ⟨e1,hs1,hq⟩
 cases x with
 |normal =>
  obtain⟨lo,hl,hst,hb⟩:=hq;refine⟨_,run_beginRound hl hst,?_⟩;refine wpIn_mono (F:=Fr<|some l) (F5 (r:=some l) body _ e1 _ hb hfit.2 _ hs1) ?_;rintro y a2 w2 ⟨e2,_,hq2⟩
  cases y with
  |normal=>obtain⟨lo2,hl2,hR⟩:=hq2;exact⟨_,_,run_endRound none hl2,_,rfl,hR⟩
  |ret=>obtain⟨lo2,hl2,hR⟩:=hq2;exact⟨_,_,run_endRound (some .ret) hl2,_,rfl,hR⟩
  |exit id=>obtain⟨lo2,hl2,hR⟩:=hq2;exact⟨_,_,run_endRound (some<|.exit id) hl2,_,rfl,hR⟩
  |goto t=>obtain⟨lo2,hl2,hR⟩:=hq2;exact⟨_,_,run_endRound (some<|.goto t) hl2,_,rfl,hR⟩
  |panic c=>exact hq2.elim
  |outgrown=>exact hq2.elim
 |_=>exact hq.elim
def Js(P:Program)(l:Nat)(vs:List Value)(w:World)(R:Value->World->Prop):Prop :=
 ∃fn tmps assign body,(Instr.yield l vs.toArray).run P w=.ok (.round l fn tmps assign body) w/\RoundIn Fence.wide 0 P l fn tmps assign body w fun x w'=>∃v,x=.returned v/\R v w'
theorem Gb{l:Nat}(hfo:ev e fo=.func (.yield l) #[] #[])(hy:Js P l vs w R)(ha:args.toList.map (ev e)=vs)(h:∀v w',R v w'->A4 P r ops Q rest (put e dst v) w')(hg:AJ ⟨dst,.call ⟨.value fo,args,ats⟩,ty,pos,af,g⟩ ops e=true:=by exact U):
  A4 P r ops Q (⟨dst,.call ⟨.value fo,args,ats⟩,ty,pos,af,g⟩::rest) e w:=by
 obtain⟨fn,tmps,assign,body,hy,hr⟩:=hy;have hav:args.map (ev e)=vs.toArray:=by subst ha;apply qcg;simp only[qcr]
 unfold A4;rw[if_pos hg,Oper.semAt_eq r _ _<|IQ rfl]
 have hrun:(execOp (ev e) ⟨dst,.call ⟨.value fo,args,ats⟩,ty,pos,af,g⟩).run P w=.ok (.round l fn tmps assign body) w:=by
  simp[execOp,resolve,hfo,Deferred.ofValue,invoke,hav,hy]
 rw[hrun];exact RoundIn.mono hr fun _ _ ⟨v,hx,hR⟩=>⟨v,hx,h _ _ hR⟩
theorem X9{l:Nat}(hl:w.heap[l]?=some (.loop lo))(hs:vs.length=lo.params.size)(hr:RoundIn Fence.wide 0 P l lo.fn ((lo.params.zip vs.toArray).foldl (fun tmps (t,a)=>tmps.setIfInBounds t a) lo.tmps) lo.assign lo.body w fun x w'=>∃v,x=.returned v/\R v w'):Js P l vs w R :=
 ⟨_,_,_,_,run_yield hl<|by simpa using hs,hr⟩
theorem QJ{f:Operand}{ps:Array Tmp}(hf:ev e f=.func (.func gf) #[] ca)(hc:An P gf=true)(h:∀fn tmps,tmps.size=n->(∀i,tmps.getD i undef=e.g i)->∀D l w2,D=w.heap.size->l=w.heap.size+1->Ext [] w w2->w2.heap[D]?=some (.deferred<|some []) ->
   w2.heap[l]?=some (.loop { state := .ready,pending:=none,fn,tmps,params:=ps,assign,body,defers:=D }) ->
   Ret P gf (#[.func (.yield l) #[] #[]]++ca) w2 fun _ w3=>∃lo,w3.heap[l]?=some (.loop lo)/\lo.state ≠ .busy /\
    Le Q ⟨e.g,{ target := .collected D,args:=#[] }::e.ds⟩ (w3.putObj l<|.loop { lo with state := .exhausted }) lo.pending):W P none n (.rangeFunc f ps assign body) Q e w:=by
 refine⟨_,rfl,fun fn tmps hn ht=>?_⟩;have hx1:=Ext.alloc ([]:List Nat) w<|.deferred<|some [];have hx2:=Ext.alloc ([]:List Nat) (w.alloc<|.deferred<|some [])<|.loop { state := .ready,pending:=none,fn,tmps,params:=ps,assign,body,defers:=w.heap.size };have hD:(w.alloc<|.deferred<|some []).heap[w.heap.size]?=some (.deferred<|some []):=World.alloc_heap_new w _
 have h1:=h fn tmps hn ht w.heap.size (w.heap.size+1) _ rfl rfl (hx1.trans hx2) (by rw[hx2.block w.heap.size (by simp)<|by simp];exact hD)
  (by have:=World.alloc_heap_new (w.alloc<|.deferred<|some [])<|.loop { state := .ready,pending:=none,fn,tmps,params:=ps,assign,body,defers:=w.heap.size };rwa [World.size_alloc]at this)
 refine⟨gf,#[],ca,hf,?_,?_⟩
 .exact Gt hc _ _
 .have hsz:(GZ none w).heap.size=w.heap.size+1:=by simp[GZ]
  simp only[hsz];have harr:#[]++#[Value.func (.yield<|w.heap.size+1) #[] #[]]++ca=#[Value.func (.yield<|w.heap.size+1) #[] #[]]++ca:=by simp
  rw[harr];exact h1
def Marks:List Deferred->World->(World->Prop)->Prop
 | [],w,K=>K w
 |d::ds,w,K=>∃D,d.target=.collected D/\w.heap[D]?=some (.deferred (some []))/\Marks ds (w.putObj D (.deferred none)) K
def QK(P:Program)(fn:Func)(R:Value->World->Prop):Exit->Env->World->Prop
 | .normal,e,w | .ret,e,w=>Marks e.ds w fun w'=>∀tmps:Array Value,(∀i,tmps.getD i undef=e.g i)->∃v,(results fn tmps).run P w'=.ok v w'/\R v w'
 |_,_,_=>False
theorem Ks{fn:Func}{R:Value->World->Prop}{tmps:Array Value}:∀{ds:List Deferred} {w:World},(Marks ds w fun w'=>∃v,(results fn tmps).run P w'=.ok v w'/\R v w') ->
  LeavesInM Fence.wide 0 P fn tmps (fun x w'=>∃v,x=.returned v/\R v w') ds .returning w
 | [],w,⟨v,h1,h2⟩=>⟨v,h1,v,rfl,h2⟩
 |d::ds,w,⟨D,h1,h2,h3⟩=>⟨by simp,.inl ⟨D,_,h1,run_takeDeferred h2,Ks h3⟩⟩
theorem Marks.mono:∀{ds:List Deferred} {w:World} {K K':World->Prop},(∀w,K w->K' w)->Marks ds w K->Marks ds w K'
 | [],_,_,_,h,hk=>h _ hk
 |_::_,_,_,_,h,⟨D,h1,h2,h3⟩=>⟨D,h1,h2,Marks.mono h h3⟩
theorem Gx{c:Code}{args:Array Value}(hf:P.funcs[f]?=some fn)(hb:fn.body=some c)(l:List Value)(hargs:args=l.toArray)(h:W P none fn.ntmps c (QK P fn R) ⟨fun i=>l.getD i undef,[]⟩ w)(hfit:(Nat.ble l.length fn.ntmps && Gs fn.ntmps c)=true:=by kernel_rfl):Ret P f args w R:=by
 simp only[qag]at hfit;refine callsIn_of_wp_marks hf hb trivial<|wpIn_mono (F5 (r:=none) c _ _ w h hfit.2 _ ?_) ?_
 .refine⟨rfl,?_,fun i=>?_⟩
  .subst hargs;have:=qdu hfit.1;simp;omega
  .subst hargs;simp only[qbm,qb1];rw[Array.getElem?_append]
   by_cases hi:i<l.length
   .simp[hi]
   .simp only[List.size_toArray,if_neg hi];rw[qbg<|by omega];rw[Array.getElem?_replicate]
    split <;> rfl
 .rintro x a' w' ⟨e',hs',hq⟩
  have hgo:∀w',(Marks e'.ds w' fun w'=>∀tmps:Array Value,(∀i,tmps.getD i undef=e'.g i)->∃v,(results fn tmps).run P w'=.ok v w'/\R v w') ->
    LeavesInM Fence.wide 0 P fn a'.tmps (fun x w'=>∃v,x=.returned v/\R v w') a'.defers .returning w':=fun w' hm=>by
   rw[hs'.1];exact Ks<|Marks.mono (fun w hk=>hk _ hs'.2.2) hm
  cases x with
  |normal=>exact hgo _ hq
  |ret=>exact hgo _ hq
  |_=>exact hq.elim
theorem Kt{t:Tmp}(hr:fn.results=#[.tmp t])(hv:e.g t=v)(h:Marks e.ds w<|R v):QK P fn R .ret e w :=
 Marks.mono (fun w h tmps ht=>by
  have h1:=(ht t).trans hv;rw[qbm]at h1
  exact⟨v,by simp[results,hr,h1],h⟩) h
end
section
variable {P:Program}{e:Env}{w w0:World}{S:List Nat}{L:List (Nat × Obj)}{fn:Func}{R:Value->World->Prop}
theorem Ab5{a:Tmp}(hr:fn.results=#[.cell a t,.tmp s2])(hd:e.ds=[])(ha:e.g a=.pointer (some p))(hv:(loadVar t p).run P w=.ok v w)(h2:e.g s2=v2)(h:R (.tuple #[v,v2]) w):Mc P fn R .ret e w :=
 ⟨hd,fun tmps ht=>by
  have h1:=(ht a).trans ha;have g2:=(ht s2).trans h2;rw[qbm]at h1 g2
  exact⟨.tuple #[v,v2],by simp[results,hr,h1,g2,asAddr,hv],h⟩⟩
theorem Ab6{a:Tmp}(hr:fn.results=#[.cell a t,.tmp s2,.tmp s3])(hd:e.ds=[])(ha:e.g a=.pointer (some p))(hv:(loadVar t p).run P w=.ok v w)(h2:e.g s2=v2)(h3:e.g s3=v3)(h:R (.tuple #[v,v2,v3]) w):Mc P fn R .ret e w :=
 ⟨hd,fun tmps ht=>by
  have h1:=(ht a).trans ha;have g2:=(ht s2).trans h2;have g3:=(ht s3).trans h3;rw[qbm]at h1 g2 g3
  exact⟨.tuple #[v,v2,v3],by simp[results,hr,h1,g2,g3,asAddr,hv],h⟩⟩
theorem DV{a:Tmp}{b k s:Nat}(hr:fn.results=#[.cell a t,.tmp s2])(hd:e.ds=[])(ha:e.g a=.pointer (some ⟨b,0,none⟩))(hag:Dc P t=some true)(hs:Cb P t=some s)(H:Ctx w0 S w L)(hk:L[k]?=some (b,Bl t2 l))(hl:l.length=s)(h2:e.g s2=v2)(h:R (.tuple #[.agg l.toArray,v2]) w):Mc P fn R .ret e w :=
 Ab5 hr hd ha (Fv hag hs hl (fun j v hv=>by rw[Ai<|H.get hk,qa0];exact hv)) h2 h
theorem P7{a:Tmp}{b k s:Nat}(hr:fn.results=#[.cell a t,.tmp s2,.tmp s3])(hd:e.ds=[])(ha:e.g a=.pointer (some ⟨b,0,none⟩))(hag:Dc P t=some true)(hs:Cb P t=some s)(H:Ctx w0 S w L)(hk:L[k]?=some (b,Bl t2 l))(hl:l.length=s)(h2:e.g s2=v2)(h3:e.g s3=v3)(h:R (.tuple #[.agg l.toArray,v2,v3]) w):Mc P fn R .ret e w :=
 Ab6 hr hd ha (Fv hag hs hl (fun j v hv=>by rw[Ai<|H.get hk,qa0];exact hv)) h2 h3 h
end
section
variable {P:Program}{ops rest:List Oper}{e:Env}{dst:Option Tmp}{ty:TypeId}{pos:String}{af:Array Edge}{g:Option (Nat × Bool)}{C:World->Prop}{K:Env->Prop}
theorem Ef{parts:Array (Nat × Operand)}{pl:List (Nat × Nat)}(l:List Value)(hp:CJ P t=some pl)(hz:Ca P t=some zl)(h:Wt P ops C K rest<|put e dst<|.agg l.toArray)(hg:AJ ⟨dst,.build t parts,ty,pos,af,g⟩ ops e=true:=by exact U)(hl:Instr.fill (fun i=>pl.toArray[i]?) zl.toArray (parts.toList.map fun p=>(p.1,ev e p.2))=some l.toArray:=by kernel_rfl):
  Wt P ops C K (⟨dst,.build t parts,ty,pos,af,g⟩::rest) e:=by
 refine DS hg (fun w _=>?_) h;have hb:P.built t (parts.map fun(i,x)=>(i,ev e x)).toList=some l.toArray:=MJ hp hz (by rw[qcr];exact hl);simp[execOp,run_build w t _ _ hb]
end
section
variable {P:Program}{r:Option Nat}{n:Nat}{ops rest:List Oper}{Q:Exit->Env->World->Prop}{e:Env}{w w0:World}{S:List Nat}{L:List (Nat × Obj)}{dst:Option Tmp}{ty:TypeId}{pos:String}{af:Array Edge}{g:Option (Nat × Bool)}
theorem VG{s:Nat}{l:Array Value}(hu:Q8 P t=some (m,el))(hs:Cb P el=some s)(hz:Ca P t=some zl)(hl:Instr.fill (fun i=>some (i*s,s)) zl.toArray ps=some l):P.built t ps=some l:=by
 unfold Ca at hz;unfold Program.built;unfold Cb at hs;have hu':=SR hu
 cases hi:P.info? t with
 |none=>rw[hi]at hz;cases hz
 |some it =>
  rw[hi]at hz
  cases hzz:it.zero with
  |none=>simp[hzz]at hz
  |some z =>
   simp only[qd7,hzz,qcq,qb0]at hz;subst hz
   cases hie:P.info? el with
   |none=>rw[hie]at hs;cases hs
   |some ie =>
    rw[hie]at hs;simp only[qcq,qb0]at hs;subst hs;simp only[hu',hzz,hie]
    simpa using hl
theorem VH{parts:Array (Nat × Operand)}{s:Nat}(l:List Value)(hg:AJ ⟨dst,.build t parts,ty,pos,af,g⟩ ops e=true)(hu:Q8 P t=some (m,el))(hs:Cb P el=some s)(hz:Ca P t=some zl)(h:A4 P r ops Q rest (put e dst<|.agg l.toArray) w)(hl:Instr.fill (fun i=>some (i*s,s)) zl.toArray (parts.toList.map fun p=>(p.1,ev e p.2))=some l.toArray:=by kernel_rfl):
  A4 P r ops Q (⟨dst,.build t parts,ty,pos,af,g⟩::rest) e w:=by
 refine B8 hg U ?_ h;have hb:P.built t (parts.map fun(i,x)=>(i,ev e x)).toList=some l.toArray:=VG hu hs hz (by rw[qcr];exact hl);simp[execOp,run_build w t _ _ hb]
end
theorem XA{a:Nat}(ha:a<9223372036854775808:=by omega):IntKind.i64.wrap (a:Int)=(a:Int):=by
 have h1:(a:Int) % 18446744073709551616=(a:Int):=by omega
 show(if(true && decide ((a:Int) % 18446744073709551616>=9223372036854775808))=true then(a:Int) % 18446744073709551616 - 18446744073709551616 else(a:Int) % 18446744073709551616)=_;rw[h1,qa1<|by omega];rfl
theorem VI{a b:Nat}(ha:a<9223372036854775808)(hb:b<9223372036854775808):Op.intBits .and .i64 a b=pure (.int .i64 ((a &&& b:Nat):Int)):=by
 have hx:a &&& b<=a:=Nat.and_le_left;have ha':a<2 ^ IntKind.i64.bits:=by show a<18446744073709551616;omega
 have hb':b<2 ^ IntKind.i64.bits:=by show b<18446744073709551616;omega
 simp only[Op.intBits,Li];rw[BitVec.toNat_and,BitVec.toNat_ofNat,BitVec.toNat_ofNat,qct ha',qct hb',XA]
section
variable {P:Program}{r:Option Nat}{ops rest:List Oper}{Q:Exit->Env->World->Prop}{e:Env}{w:World}{dst:Option Tmp}{ty:TypeId}{pos:String}{af:Array Edge}{g:Option (Nat × Bool)}{C:World->Prop}{K:Env->Prop}{t t2:TypeId}{x y:Operand}{a b n:Nat}
theorem MO(hg:AJ ⟨dst,.binOp .and t x y t2,ty,pos,af,g⟩ ops e=true)(hx:ev e x=.int .i64 a)(hy:ev e y=.int .i64 b)(ha:a<9223372036854775808)(hb:b<9223372036854775808)(h:A4 P r ops Q rest (put e dst<|.int .i64 ((a &&& b:Nat):Int)) w):A4 P r ops Q (⟨dst,.binOp .and t x y t2,ty,pos,af,g⟩::rest) e w :=
 B8 hg rfl (BW hx hy (by show(Op.intBits .and .i64 (a:Int) (b:Int)).run P w=_;rw[VI ha hb];rfl)) h
theorem Im(hg:AJ ⟨dst,.binOp .shr t x y t2,ty,pos,af,g⟩ ops e=true)(hx:ev e x=.int .i64 a)(hy:ev e y=.int k2 n)(h:A4 P r ops Q rest (put e dst<|.int .i64 ((a / 2 ^ n:Nat):Int)) w)(hn:n<=64:=by omega):A4 P r ops Q (⟨dst,.binOp .shr t x y t2,ty,pos,af,g⟩::rest) e w :=
 B8 hg rfl (BW hx hy (by show(Op.shift .shr .i64 (a:Int) k2 (n:Int)).run P w=_;rw[Mi<|by exact hn];rfl)) h
theorem Od(hg:AJ ⟨dst,.binOp .shr t x y t2,ty,pos,af,g⟩ ops e=true)(hx:ev e x=.int .i64 a)(hy:ev e y=.int k2 n)(h:Wt P ops C K rest<|put e dst<|.int .i64 ((a / 2 ^ n:Nat):Int))(hn:n<=64:=by decide):Wt P ops C K (⟨dst,.binOp .shr t x y t2,ty,pos,af,g⟩::rest) e :=
 DS hg (fun w _=>BW hx hy (by show(Op.shift .shr .i64 (a:Int) k2 (n:Int)).run P w=_;rw[Mi<|by exact hn];rfl)) h
end
end Go.GV
