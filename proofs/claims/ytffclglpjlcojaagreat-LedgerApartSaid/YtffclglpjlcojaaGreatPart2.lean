/- Part 2 of the proof. -/
import Derived.Test.YtffclglpjlcojaaGreatPart1
import Derived.Laws.Tables
import Derived.Laws.AppendOwn
import Derived.Laws.IdiomStrings
import Derived.Laws.Strings
import Derived.RangeFuncLeaves
import Derived.DefersIn
namespace Go.GV
open Go
section
variable {P:Program}{r:Option Nat}{ops rest:List Oper}{Q:Exit->Env->World->Prop}{e:Env}{w w0:World}{S:List Nat}{L:List (Nat × Obj)}{dst:Option Tmp}{ty:TypeId}{pos:String}{af:Array Edge}{g:Option (Nat × Bool)}
theorem Tk{o:Oper}{f:FuncId}{args:Array Value}{w':World}{R:Value->World->Prop}(hg:AS o ops e=true)(hd:Qq o.op=true)(hrun:(execOp (ev e) o).run P w=.ok (.enter f args) w')(hc:Ret P f args w' R)(h:∀v w'',R v w''->AG P r ops Q rest (put e o.dst v) w''):AG P r ops Q (o::rest) e w:=by
 unfold AG;rw[if_pos hg,Oper.semAt_eq r _ _ (JY hd),hrun];exact Ret.mono hc h
theorem Al{f:FuncId}{args:Array Operand}{ats:Array TypeId}{l:List Value}{R:Value->World->Prop}(hf:Au P f=true)(hc:Ret P f l.toArray w R)(ha:args.toList.map (ev e)=l)(h:∀v w',R v w'->AG P r ops Q rest (put e dst v) w')(hg:AS ⟨dst,.call ⟨.value (.func f),args,ats⟩,ty,pos,af,g⟩ ops e=true:=by exact U):
  AG P r ops Q (⟨dst,.call ⟨.value (.func f),args,ats⟩,ty,pos,af,g⟩::rest) e w:=by
 refine Tk (R:=R) hg U ?_ hc h;have:args.map (ev e)=l.toArray:=by subst ha;apply qb3;simp only[qcg]
 simp[execOp,resolve,ev,Deferred.ofValue,invoke,this,H6 hf]
theorem FI{f:FuncId}{fo:Operand}{fi ca:Array Value}{args:Array Operand}{ats:Array TypeId}{l:List Value}{R:Value->World->Prop}(hfo:ev e fo=.func (.func f) fi ca)(hf:Au P f=true)(hc:Ret P f l.toArray w R)(ha:fi.toList++(args.toList.map (ev e)++ca.toList)=l)(h:∀v w',R v w'->AG P r ops Q rest (put e dst v) w')(hg:AS ⟨dst,.call ⟨.value fo,args,ats⟩,ty,pos,af,g⟩ ops e=true:=by exact U):
  AG P r ops Q (⟨dst,.call ⟨.value fo,args,ats⟩,ty,pos,af,g⟩::rest) e w:=by
 refine Tk (R:=R) hg U ?_ hc h;have:fi++args.map (ev e)++ca=l.toArray:=by rw[<-ha];apply qb3;simp
 simp[execOp,resolve,hfo,Deferred.ofValue,invoke,this,H6 hf]
end
def ent(a:Option Addr)(t:TypeId)(full:List Value):List (Nat × Obj) :=
 match a with
 |none=>[]
 |some p=>[(p.block,Bl t full)]
structure OS(a:Option Addr)(n c s:Nat)(full l:List Value):Prop where
 zero:∀p,a=some p->p=⟨p.block,0,none⟩
 none':a=none->c=0
 len:full.length=c*s
 le:n<=c
 pre:full.take (n*s)=l
theorem OS.nil{s:Nat}:OS none 0 0 s [] []:=⟨(fun _ h=>by cases h),fun _=>rfl,by simp,qan _,by simp⟩
theorem OS.llen{a:Option Addr}{n c s:Nat}{full l:List Value}(h:OS a n c s full l):l.length=n*s:=by
 rw[<-h.pre,qbm,h.len];exact qb7 (qch _ h.le)
theorem OS.form{a:Option Addr}{n c s:Nat}{full l:List Value}(h:OS a n c s full l)(hn:0<n):∃b,a=some ⟨b,0,none⟩:=by
 cases a with
 |none=>have:=h.none' rfl;have:=h.le;omega
 |some p=>exact⟨p.block,by rw[<-h.zero p rfl]⟩
theorem OS.split{a:Option Addr}{n c s:Nat}{full l:List Value}(h:OS a n c s full l):full=l++full.drop (n*s):=by
 rw[<-h.pre,qbp]
theorem Ael{a:Option Addr}{t:TypeId}{full:List Value}{b:Nat}(h:a=some ⟨b,0,none⟩):ent a t full=[(b,Bl t full)]:=by subst h;rfl
theorem OS.rd{α:Type}{w:World}{a:Option Addr}{n c s:Nat}{t:TypeId}{full:List Value}{enc:α->List Value}{xs:List α}(h:OS a n c s full (xs.flatMap enc))(hb:∀x∈ent a t full,w.heap[x.1]?=some x.2)(hs:∀x∈xs,(enc x).length=s)(h0:0<s):Rd w a s enc xs:=by
 cases a with
 |none =>
  cases xs with
  |nil=>exact Rd.nil
  |cons x xs =>
   exfalso;have h1:=h.llen;have h2:=h.none' rfl;have h3:=h.le;have h4:n=0:=by omega
   have h5:=hs x (by simp);subst h4;simp only[qby,qat,qds]at h1;omega
 |some p =>
  have hz:=h.zero p rfl;obtain⟨b,o,sp⟩:=p;simp only[Addr.mk.injEq,true_and]at hz;obtain⟨rfl,rfl⟩:=hz;exact Rd.of_bl (r:=full.drop (n*s)) (hb (b,Bl t full) (by simp[ent])) h.split hs
theorem Ctx.callEnt{w0 w w':World}{S:List Nat}{L E:List (Nat × Obj)}(H:Ctx w0 S w L)(he:Ext [] w w')(hb:∀x∈E,w'.heap[x.1]?=some x.2/\w.heap.size<=x.1)(hp:E.Pairwise fun x y=>x.1≠y.1) :
  Ctx w0 S w' (L++E):=by
 have H':=H.call he;refine⟨H'.ext,?_,?_,?_⟩
 .intro x hx
  rcases qbi.1 hx with hx|hx
  .exact H'.blk x hx
  .exact(hb x hx).1
 .rw[qbu];refine⟨H.nd,hp,fun x hx y hy=>?_⟩;have h1:=AY (H.blk x hx);have h2:=(hb y hy).2;omega
 .intro x hx
  rcases qbi.1 hx with hx|hx
  .exact H.own x hx
  .exact .inr (qa0 H.size (hb x hx).2)
theorem Ctx.perm{w0 w:World}{S:List Nat}{L L':List (Nat × Obj)}(H:Ctx w0 S w L)(hp:L.Perm L'):Ctx w0 S w L' :=
 H.sub (fun _ hx=>hp.mem_iff.2 hx) (hp.pairwise H.nd (fun h=>Ne.symm h))
theorem Ctx.comm{w0 w:World}{S:List Nat}{L L':List (Nat × Obj)}(H:Ctx w0 S w (L++L')):Ctx w0 S w (L'++L):=H.perm qcv
theorem Ctx.left{w0 w:World}{S:List Nat}{L L':List (Nat × Obj)}(H:Ctx w0 S w (L++L')):Ctx w0 S w L :=
 H.sub (fun _ hx=>qao _ hx) (qbu.1 H.nd).1
theorem Ctx.right{w0 w:World}{S:List Nat}{L L':List (Nat × Obj)}(H:Ctx w0 S w (L++L')):Ctx w0 S w L' :=
 H.sub (fun _ hx=>qal _ hx) (qbu.1 H.nd).2.1
theorem Qx(need:Nat):∀(k c:Nat),c<=2*need+768->Builtin.growBy need k c<=2*need+768
 |0,c,h=>h
 |k+1,c,h=>by
  unfold Builtin.growBy
  split
  .exact h
  .exact Qx need k _ (by omega)
theorem Lz(need c:Nat)(h:c<need):Builtin.nextslicecap need c<=2*need+768:=by
 unfold Builtin.nextslicecap
 split
 .omega
 .split
  .omega
  .exact Qx need 4 c (by omega)
theorem G8(z:Array Value)(n:Nat):(Builtin.zeroCells z n).size=n*z.size:=by simp[Builtin.zeroCells]
section
variable {P:Program}{w w0:World}{S:List Nat}{L:List (Nat × Obj)}
theorem Dx{s m:Nat}{a:Option Addr}{c k:Nat}{l:List Value}(hl:l.length=m*s)(hc:∀j v,l[j]?=some v->∃p,a=some p/\w.cell? (p.add j)=some v) :
  (Builtin.firstCells s m (.slice a c k)).run P w=.ok l.toArray w:=by
 cases a with
 |none =>
  have h0:l=[]:=by
   cases l with
   |nil=>rfl
   |cons v l=>obtain⟨p,hp,_⟩:=hc 0 v rfl;cases hp
  subst h0;simp[Builtin.firstCells]
 |some p =>
  have h:=MU (P:=P) (w:=w) (p:=p) l 0 #[] (fun j v hv=>by
   obtain⟨q,hq,hv⟩:=hc j v hv
   injection hq with hq
   subst hq
   rwa [qa4])
  rw[hl]at h;simp[Builtin.firstCells,loadCells,h]
theorem UQ{t t2 el el2 ty:TypeId}{s by':Nat}{zl:List Value}(hu:CL P t=some el)(hu2:CL P t2=some el2)(hs:Ci P el=some s)(hby:DR P el=some by')(hz:Cl P el=some zl)(hzl:zl.length=s)(hpos:0<by'){a a2:Option Addr}{n c m c2:Nat}{full l new:List Value}(H:Ctx w0 S w (L++ent a el full))(O:OS a n c s full l)(hn:new.length=m*s)(h1:∀v∈new,AZ v=true)(hc:∀j v,new[j]?=some v->∃p,a2=some p/\w.cell? (p.add j)=some v)(hbound:(2*(n+m)+768)*by'<=281474976710656) :
  ∃a' c' full' w',(Builtin.append_ #[t,t2] ty #[.slice a n c,.slice a2 m c2]).run P w=.ok (.slice a' (n+m) c') w'/\Ctx w0 S w' (L++ent a' el full')/\OS a' (n+m) c' s full' (l++new):=by
 have hfc:=Dx (P:=P) (w:=w) (s:=s) (m:=m) (a:=a2) (c:=m) (k:=c2) hn hc
 by_cases hfit:n+m<=c
 ·-- in place
  cases a with
  |none =>
   have h0:=O.none' rfl;have hm:m=0:=by omega
   have hn0:n=0:=by omega
   subst hm hn0 h0;have hnew:new=[]:=qbt (by omega);have hl:l=[]:=qbt (by have:=O.llen;omega);have hfull:full=[]:=qbt (by have:=O.len;omega);subst hnew hl hfull;refine⟨none,0,[],w,?_,H,OS.nil⟩;simp[Builtin.append_,Bf (CF hu),Bf (CF hu2),CH hs,Builtin.lenOf,hfc]
  |some p =>
   have hp:=O.zero p rfl;obtain⟨b,o,sp⟩:=p;simp only[Addr.mk.injEq,true_and]at hp;obtain⟨rfl,rfl⟩:=hp;have hk:(L++ent (some ⟨b,0,none⟩) el full)[L.length]?=some (b,Bl el full):=by simp[ent]
   have hb:=H.get hk;have hmul:(n+m)*s<=c*s:=qch _ hfit;have hadd:(n+m)*s=n*s+m*s:=qb8 _ _ _;obtain⟨w',hr,he,hb'⟩:=Fo (P:=P) (o:=n*s) new full w 0 h1 hb (by rw[O.len];omega);have hwr:=H.turn hk _ he hb';rw[show(L++ent (some ⟨b,0,none⟩) el full).set L.length (b,Bl el (over full (n*s+0) new))=L++ent (some ⟨b,0,none⟩) el (over full (n*s) new)from by simp[ent]]at hwr;refine⟨some ⟨b,0,none⟩,c,over full (n*s) new,w',?_,hwr,?_⟩
   .have hst:(storeCells (Addr.add ⟨b,0,none⟩ (n*s)) new).run P w=.ok () w':=by
     rw[CV,qa4];exact hr
    simp[Builtin.append_,Bf (CF hu),Bf (CF hu2),CH hs,Builtin.lenOf,hfc,hfit,hst]
   .refine⟨fun q hq=>by injection hq with hq;subst hq;rfl,(fun h=>by cases h),by rw[DB];exact O.len,hfit,?_⟩;have hsp:=O.split;have hll:=O.llen;have htl:(full.drop (n*s)).length=c*s - n*s:=by rw[qd8,O.len]
    have hcut:full.drop (n*s)=(full.drop (n*s)).take (m*s)++(full.drop (n*s)).drop (m*s):=by rw[qbp]
    have hover:∀(vs a b c:List Value),b.length=vs.length->over (a++b++c) a.length vs=a++vs++c:=by
     intro vs
     induction vs with
     |nil=>intro a b c hb;have:b=[]:=qbt (by simpa using hb);subst this;simp[over]
     |cons v vs ih =>
      intro a b c hb
      cases b with
      |nil=>simp at hb
      |cons x b =>
       have:=ih (a++[v]) b c (by simpa using hb);simp only[over];rw[show(a++x::b++c).set a.length v=a++[v]++b++c from by simp];rw[show a.length+1=(a++[v]).length from by simp,this];simp
    have hgoal:over full (n*s) new=l++new++(full.drop (n*s)).drop (m*s):=by
     have h4:=hover new l ((full.drop (n*s)).take (m*s)) ((full.drop (n*s)).drop (m*s)) (by rw[qbm,htl,hn];omega);rw[qaz,<-hcut,<-hsp,hll]at h4;exact h4
    rw[hgoal,qci (by rw[qat,hll,hn];omega)]
 ·-- a new block
  have hfit':c<n+m:=by omega
  have hncap:=Lz (n+m) c hfit'
  have hbig:¬(281474976710656:Int)<((Builtin.nextslicecap (n+m) c*by':Nat):Int):=by
   have:Builtin.nextslicecap (n+m) c*by'<=(2*(n+m)+768)*by':=qch _ hncap
   omega
  have hnm:n+m<=281474976710656:=by
   have h1:(2*(n+m)+768)*1<=(2*(n+m)+768)*by':=qd9 _ hpos
   omega
  -- the capacity that is drawn
  generalize hq:(Question.appendCap (n+m) c el).cut (w.tape w.drawn (Question.appendCap (n+m) c el))=cap;have hcap:n+m<=cap:=by rw[<-hq];unfold Question.cut;exact Nat.le_add_right _ _
  obtain⟨zv,hzr,hzc⟩:=GY (P:=P) hz w.drew;have hzs:zv.cells.size=s:=by rw[<-hzl,<-hzc];simp
  let full':=l++new++(Builtin.zeroCells zv.cells (cap - (n+m))).toList
  have hH:Ctx w0 S (w.drew.alloc (Bl el full')) ((w.drew.heap.size,Bl el full')::L):=by
   have:=(H.left.drew).alloc (Bl el full');exact this
  refine⟨some ⟨w.drew.heap.size,0,none⟩,cap,full',w.drew.alloc (Bl el full'),?_,?_,?_⟩
  .have hforced:(Question.appendCap (n+m) c el).forced=false:=rfl
   have hby2:∃i,P.info? el=some i/\i.bytes=by':=by
    unfold DR at hby
    cases hi:P.info? el with
    |none=>rw[hi]at hby;cases hby
    |some i=>rw[hi]at hby;simp at hby;exact⟨i,rfl,hby⟩
   obtain⟨i,hi,hib⟩:=hby2;have hti:∀w,(typeInfo el).run P w=.ok i w:=fun w=>by simp[typeInfo,program,Sem.run,hi]
   have hold':(Builtin.firstCells s n (.slice a n c)).run P w.drew=.ok l.toArray w.drew:=by
    refine Dx (O.llen) (fun j v hv=>?_);have hjl:j<l.length:=(qbc.1 hv).1
    have hn0:0<n:=by
     rcases qcw n with h|h
     .have h5:=O.llen;rw[h,qds]at h5;omega
     .exact h
    obtain⟨b,rfl⟩:=O.form hn0;refine⟨_,rfl,?_⟩;have hk:(L++ent (some ⟨b,0,none⟩) el full)[L.length]?=some (b,Bl el full):=by simp[ent]
    show w.cell? _=_;rw[CV,qa4,Aj (H.get hk),O.split,qcb hjl];exact hv
   have hfc':(Builtin.firstCells s m (.slice a2 m c2)).run P w.drew=.ok new.toArray w.drew:=Dx hn hc;have hroom:∀k w,(askRoom k).run P w=.ok () w:=fun k w=>by unfold askRoom;split <;> rfl
   have hby0:¬by'=0:=by omega
   have hnn:(Builtin.append_ #[t,t2] ty #[.slice a n c,.slice a2 m c2]).run P w=.ok (.slice (some ⟨w.drew.heap.size,0,none⟩) (n+m) cap) (w.drew.alloc (.cells (l.toArray++(new.toArray++Builtin.zeroCells zv.cells (cap - (n+m)))) el)):=by
    have hb3:¬281474976710656<Builtin.nextslicecap (n+m) c*by':=by omega
    simp[Builtin.append_,Bf (CF hu),Bf (CF hu2),CH hs,Builtin.lenOf,hfc',hold',hfit,hti,hib,hb3,hby0,hforced,hq,hroom,hzr,newRow,newObj,Sem.run]
   rw[hnn]
   have harr:l.toArray++(new.toArray++Builtin.zeroCells zv.cells (cap - (n+m)))=full'.toArray:=by
    apply qb3;simp[full']
   rw[harr];rfl
  .exact hH.perm (qcv (l₁:=[(w.drew.heap.size,Bl el full')]) (l₂:=L))
  .refine⟨(fun q hq=>by injection hq with hq;subst hq;rfl),(fun h=>by cases h),?_,hcap,?_⟩
   .show(l++new++(Builtin.zeroCells zv.cells (cap - (n+m))).toList).length=cap*s;rw[qat,qat,O.llen,hn,qd4,G8,hzs,<-qb8,<-qb8]
    congr 1
    omega
   .show(l++new++(Builtin.zeroCells zv.cells (cap - (n+m))).toList).take ((n+m)*s)=l++new;rw[qci (by rw[qat,O.llen,hn,qb8])]
end
section
variable {P:Program}{r:Option Nat}{ops rest:List Oper}{Q:Exit->Env->World->Prop}{e:Env}{w w0:World}{S:List Nat}{L:List (Nat × Obj)}{dst:Option Tmp}{ty:TypeId}{pos:String}{af:Array Edge}{g:Option (Nat × Bool)}
theorem G9{t t2 el el2:TypeId}{x y:Operand}{s by':Nat}{zl:List Value}(hg:AS ⟨dst,.call ⟨.builtin .append,#[x,y],#[t,t2]⟩,ty,pos,af,g⟩ ops e=true)(hu:CL P t=some el)(hu2:CL P t2=some el2)(hs:Ci P el=some s)(hby:DR P el=some by')(hz:Cl P el=some zl)(hzl:zl.length=s){a a2:Option Addr}{n c m c2:Nat}{full l:List Value}(new:List Value)(hx:ev e x=.slice a n c)(hy:ev e y=.slice a2 m c2)(H:Ctx w0 S w (L++ent a el full))(O:OS a n c s full l)(hn:new.length=m*s)(h1:∀v∈new,AZ v=true)(hc:∀j v,new[j]?=some v->∃p,a2=some p/\w.cell? (p.add j)=some v)(h:∀a' c' full' w',Ctx w0 S w' (L++ent a' el full')->OS a' (n+m) c' s full' (l++new)->AG P r ops Q rest (put e dst (.slice a' (n+m) c')) w')(hpos:0<by':=by decide)(hbound:(2*(n+m)+768)*by'<=281474976710656:=by omega):
  AG P r ops Q (⟨dst,.call ⟨.builtin .append,#[x,y],#[t,t2]⟩,ty,pos,af,g⟩::rest) e w:=by
 obtain⟨a',c',full',w',hr,H',O'⟩:=UQ (ty:=ty) hu hu2 hs hby hz hzl hpos H O hn h1 hc hbound (c2:=c2);exact BK hg U (by simp[execOp,resolve,invoke,builtin,hx,hy,hr]) (h a' c' full' w' H' O')
theorem Cs{t el:TypeId}{x:Operand}{s:Nat}{zl:List Value}(l:List Value)(v:Value)(hu:CL P t=some el)(hs:Ci P el=some s)(hz:Cl P el=some zl)(hzl:zl.length=s)(hx:ev e x=v)(hl:v.cells=l.toArray)(hll:l.length=s)(H:Ctx w0 S w L)(h:∀b w',w.heap.size=b->Ctx w0 S w' ((b,Bl el l)::L)->AG P r ops Q rest (put e dst (.slice (some ⟨b,0,none⟩) 1 1)) w')(hg:AS ⟨dst,.buildSlice t 1 #[(0,x)],ty,pos,af,g⟩ ops e=true:=by exact U)(hs0:0<s:=by decide)(hs1:s<=16777216:=by decide):
  AG P r ops Q (⟨dst,.buildSlice t 1 #[(0,x)],ty,pos,af,g⟩::rest) e w:=by
 obtain⟨z,hz1,hz2⟩:=GY hz w;have hzs:z.cells.size=s:=by rw[<-hzl,<-hz2];simp
 refine BK (w':=w.alloc (Bl el l)) (v := .slice (some ⟨w.heap.size,0,none⟩) 1 1) hg U ?_ (h _ _ U (H.alloc _))
 have hfill:∀cs:Array Value,cs.size=s->Instr.fill (fun i=>some (i*s,s)) cs [(0,v)]=some l.toArray:=by
  intro cs hcs
  have hfold:∀(vs:List Value) (k:Nat) (c0:Array Value),c0.size=k+vs.length->(vs.zipIdx k).foldl (fun cs (x:Value × Nat)=>cs.setIfInBounds (0+x.2) x.1) c0=((c0.toList.take k)++vs).toArray:=by
   intro vs
   induction vs with
   |nil=>intro k c0 h;simp only[List.zipIdx_nil,List.foldl_nil,qa3];apply qb3;simp only[qd2]at h;simp;rw[qdt (by simp;omega)]
   |cons u vs ih =>
    intro k c0 h;simp only[List.zipIdx_cons,qda];rw[ih (k+1) _ (by simp at h |-;omega)]
    congr 1
    simp only[qa4,Array.toList_setIfInBounds];have hk:k<c0.toList.length:=by simp at h |-;omega
    rw[List.take_set,List.take_succ_eq_append_getElem hk];simp[List.set_append];rw[if_neg (by simp at h;omega)];have:k - min k c0.size=0:=by simp at h;omega
    rw[this];simp
  have h2:=hfold l 0 cs (by omega);simp only[Instr.fill,hl,List.size_toArray,hll,qds,qa4,hcs];rw[if_neg (by simp)]
  have h3:Array.foldl (fun cs (x:Value × Nat)=>cs.setIfInBounds (0+x.2) x.1) cs l.toArray.zipIdx=(l.zipIdx 0).foldl (fun cs (x:Value × Nat)=>cs.setIfInBounds (0+x.2) x.1) cs:=by
   rw[<-Array.foldl_toList];simp
  simp only[qa4]at h2 h3;rw[h3,h2];simp
 have hne:¬s=0:=by omega
 have hbig:¬16777216<s:=by omega
 simp[execOp,Instr.buildSlice,Bf (CF hu),CH hs,hne,hbig,hz1,hx,hfill,newRow,newObj,Sem.run];rfl
theorem HI{t el:TypeId}{x y:Operand}{by':Nat}{z:Value}{k k2:IntKind}{i j:Int}(hu:CL P t=some el)(hs:Ci P el=some 1)(hby:DR P el=some by')(hz:Cl P el=some [z])(hx:ev e x=.int k i)(hy:ev e y=.int k2 j)(H:Ctx w0 S w L)(h:∀b w',w.heap.size=b->Ctx w0 S w' ((b,Bl el (List.replicate j.toNat z))::L)->AG P r ops Q rest (put e dst (.slice (some ⟨b,0,none⟩) i.toNat j.toNat)) w')(hg:AS ⟨dst,.makeSlice t x y,ty,pos,af,g⟩ ops e=true:=by exact U)(h0:0<=i:=by omega)(h1:i<=j:=by omega)(h2:by'*j<=281474976710656:=by omega)(h3:j<=9223372036854775807:=by omega):
  AG P r ops Q (⟨dst,.makeSlice t x y,ty,pos,af,g⟩::rest) e w:=by
 obtain⟨zv,hz1,hz2⟩:=GY hz w
 have hzs:zv.cells.size=1:=by
  have:zv.cells.toList.length=1:=by rw[hz2];rfl
  simpa using this
 have hby2:∃i,P.info? el=some i/\i.bytes=by':=by
  unfold DR at hby
  cases hi:P.info? el with
  |none=>rw[hi]at hby;cases hby
  |some i=>rw[hi]at hby;simp at hby;exact⟨i,rfl,hby⟩
 obtain⟨inf,hi,hib⟩:=hby2;have hti:∀w,(typeInfo el).run P w=.ok inf w:=fun w=>by simp[typeInfo,program,Sem.run,hi]
 have hw1:IntKind.i64.wrap i=i:=Dg (k := .i64) (by simp[IntKind.min,IntKind.signed,IntKind.bits];omega) (by simp[IntKind.max,IntKind.signed,IntKind.bits];omega);have hw2:IntKind.i64.wrap j=j:=Dg (k := .i64) (by simp[IntKind.min,IntKind.signed,IntKind.bits];omega) (by simp[IntKind.max,IntKind.signed,IntKind.bits];omega);have hroom:∀k w,(askRoom k).run P w=.ok () w:=fun k w=>by unfold askRoom;split <;> rfl
 refine BK (w':=w.alloc (Bl el (List.replicate j.toNat z))) (v := .slice (some ⟨w.heap.size,0,none⟩) i.toNat j.toNat) hg U ?_ (h _ _ U (H.alloc _));have hn1:¬j<0:=by omega
 have hn2:¬(281474976710656<(by':Int)*j):=by omega
 have hn3:¬i<0:=by omega
 have hn4:¬j<i:=by omega
 have hcells:(Array.range j.toNat).map (fun q=>zv.cells[q % zv.cells.size]!)=(List.replicate j.toNat z).toArray:=by
  apply Array.ext
  .simp
  .intro q h1 h2;simp only[hzs,Nat.mod_one,Array.getElem_map,List.getElem_toArray,List.getElem_replicate];have:zv.cells=#[z]:=by apply qb3;rw[hz2]
   rw[this];rfl
 by_cases hj:j.toNat=0
 .have hj0:j=0:=by omega
  have hi0:i=0:=by omega
  subst hj0 hi0;simp[execOp,Instr.makeSlice,Bf (CF hu),hx,hy,asInt,asIntOf,hti,hw2,hroom,CH hs,newRow,newObj,Sem.run];have hr0:(Array.range 0)=(#[]:Array Nat):=by apply qb3;simp
  rw[hr0,Array.map_empty];rfl
 .simp[execOp,Instr.makeSlice,Bf (CF hu),hx,hy,asInt,asIntOf,hti,hib,hw1,hw2,hn1,hn2,hn3,hn4,hroom,CH hs,hj,hz1,newRow,newObj,Sem.run];rw[hcells];rfl
theorem Zb{P:Program}{w:World}{k:IntKind}{i:Int}{y:Nat}{code:BoundsCode}(h0:0<=i)(h1:i<=y):(Instr.sliceBound (.int k i) y code).run P w=.ok i.toNat w:=by
 simp[Instr.sliceBound,asIntOf,h0,h1]
def UR(a:Option Addr)(c i s:Nat):Option Addr:=if c=i then a else a.map (·.add (i*s))
theorem Tl{t el:TypeId}{x y:Operand}{s:Nat}{a:Option Addr}{n c:Nat}{k:IntKind}{i:Int}(hg:AS ⟨dst,.slice t x (some y) none none,ty,pos,af,g⟩ ops e=true)(hu:CL P t=some el)(hs:Ci P el=some s)(hx:ev e x=.slice a n c)(hy:ev e y=.int k i)(h:AG P r ops Q rest (put e dst (.slice (UR a c i.toNat s) (n - i.toNat) (c - i.toNat))) w)(h0:0<=i:=by omega)(h1:i<=n:=by omega):
  AG P r ops Q (⟨dst,.slice t x (some y) none none,ty,pos,af,g⟩::rest) e w :=
 BK hg rfl (by simp[execOp,Instr.sliceAt,Instr.slice,Instr.sliceBounds,Bf (CF hu),hx,hy,Zb h0 h1,CH hs,UR]) h
theorem Ke{t el:TypeId}{x y:Operand}{s:Nat}{a:Option Addr}{n c:Nat}{k:IntKind}{j:Int}(hg:AS ⟨dst,.slice t x none (some y) none,ty,pos,af,g⟩ ops e=true)(hu:CL P t=some el)(hs:Ci P el=some s)(hx:ev e x=.slice a n c)(hy:ev e y=.int k j)(h:AG P r ops Q rest (put e dst (.slice a j.toNat c)) w)(h0:0<=j:=by omega)(h1:j<=c:=by omega):
  AG P r ops Q (⟨dst,.slice t x none (some y) none,ty,pos,af,g⟩::rest) e w :=
 BK hg rfl (by
  have:∀a:Option Addr,(if c=0 then a else a.map (·.add (0*s)))=a:=by
   intro a;split
   .rfl
   .cases a with
    |none=>rfl
    |some p=>simp[Addr.add]
  simp[execOp,Instr.sliceAt,Instr.slice,Instr.sliceBounds,Bf (CF hu),hx,hy,Zb h0 h1,CH hs]
  simpa using this a) h
theorem Xy{P:Program}{t el:TypeId}(hu:CL P t=some el)(d:Nat)(a:Option Addr)(n c c2:Nat)(w:World) :
  (Op.equalIn (d+1) t (.slice a n c) (.slice none 0 c2)).run P w=.ok a.isNone w:=by
 cases a <;> simp[Op.equalIn,Bf (CF hu)]
theorem US{P:Program}{t el:TypeId}(hu:CL P t=some el)(a:Option Addr)(n c c2:Nat)(w:World):(binOp .eql t (.slice a n c) (.slice none 0 c2)).run P w=.ok (.bool a.isNone) w:=by
 simp only[binOp,Sem.run_bind,Op.equal,Op.maxDepth,Xy hu 9999];cases a <;> rfl
theorem Ja{t t2:TypeId}{x:Operand}{a:Option Addr}{n c c2:Nat}{el:TypeId}(hg:AS ⟨dst,.binOp .eql t x (.const (.slice none 0 c2)) t2,ty,pos,af,g⟩ ops e=true)(hu:CL P t=some el)(hx:ev e x=.slice a n c)(h:AG P r ops Q rest (put e dst (.bool a.isNone)) w):AG P r ops Q (⟨dst,.binOp .eql t x (.const (.slice none 0 c2)) t2,ty,pos,af,g⟩::rest) e w :=
 BK hg rfl (by
  have hq:eqGuard .eql t x (.const (.slice none 0 c2)) (.slice a n c) (.slice none 0 c2)=pure ():=rfl;have he:ev e (.const (.slice none 0 c2))=.slice none 0 c2:=rfl
  simp only[execOp,hx,he,hq,Sem.run_bind,Sem.run_pure,Result.andThen_ok,US hu]) h
end
section
variable {P:Program}{r:Option Nat}{ops rest:List Oper}{Q:Exit->Env->World->Prop}{e:Env}{w w0:World}{S:List Nat}{L:List (Nat × Obj)}{dst:Option Tmp}{ty:TypeId}{pos:String}{af:Array Edge}{g:Option (Nat × Bool)}{C:World->Prop}{K:Env->Prop}
theorem Ex{o:Oper}{v:Value}(hg:AS o ops e=true)(hrun:∀w,C w->(execOp (ev e) o).run P w=.ok (.value v) w)(h:Wq P ops C K rest (put e o.dst v)):Wq P ops C K (o::rest) e:=by
 unfold Wq;rw[if_pos hg];exact⟨v,fun w hw=>by rw[hrun w hw];exact⟨rfl,rfl⟩,h⟩
theorem A3{o:Oper}(hg:AS o ops e=false)(h:Wq P ops C K rest (put e o.dst undef)):Wq P ops C K (o::rest) e:=by
 unfold Wq;rw[if_neg (by rw[hg];simp)];exact h
theorem BT(h:K e):Wq P ops C K [] e:=h
theorem Tm{l:List Oper}(d:Tmp){b:Bool}(c:Bool)(hd:e.g d=.bool b)(hb:b=c)(h:Wq P ops C K l (put e (some d) (.bool c))):Wq P ops C K l e:=by
 subst hb;rw[HD hd]at h;exact h
theorem D6{l:List Oper}(d:Tmp){b:Bool}(hd:e.g d=.bool b)(h1:b=true->Wq P ops C K l (put e (some d) (.bool true)))(h2:b=false->Wq P ops C K l (put e (some d) (.bool false))):Wq P ops C K l e:=by
 cases b with
 |true=>exact Tm d true hd rfl (h1 rfl)
 |false=>exact Tm d false hd rfl (h2 rfl)
theorem BX{t:TypeId}{x:Operand}{p:Addr}{v:Value}(ha:Dt P t=some false)(hx:ev e x=.pointer (some p))(hc:∀w,C w->w.cell? p=some v)(h:Wq P ops C K rest (put e dst v))(hg:AS ⟨dst,.load t x,ty,pos,af,g⟩ ops e=true:=by exact U):Wq P ops C K (⟨dst,.load t x,ty,pos,af,g⟩::rest) e :=
 Ex hg (fun w hw=>by simp[execOp,hx,Instr.loadAt,Instr.sureAddr,Gg ha (hc w hw)]) h
theorem Cc{t t2:TypeId}{x:Operand}{b i k:Nat}{l:List Value}{v:Value}(ha:Dt P t=some false)(hx:ev e x=.pointer (some ⟨b,i,none⟩))(H:∀w,C w->Ctx w0 S w L)(hk:L[k]?=some (b,Bl t2 l))(hc:l[i]?=some v)(h:Wq P ops C K rest (put e dst v))(hg:AS ⟨dst,.load t x,ty,pos,af,g⟩ ops e=true:=by exact U):Wq P ops C K (⟨dst,.load t x,ty,pos,af,g⟩::rest) e :=
 BX (hg:=hg) ha hx (fun w hw=>by rw[Aj ((H w hw).get hk)];exact hc) h
theorem G4{t:TypeId}{x:Operand}{b o s:Nat}(l:List Value)(ha:Dt P t=some true)(hs:Ci P t=some s)(hx:ev e x=.pointer (some ⟨b,o,none⟩))(hl:l.length=s)(hc:∀w,C w->∀j v,l[j]?=some v->w.cell? ⟨b,o+j,none⟩=some v)(h:Wq P ops C K rest (put e dst (.agg l.toArray)))(hg:AS ⟨dst,.load t x,ty,pos,af,g⟩ ops e=true:=by exact U):Wq P ops C K (⟨dst,.load t x,ty,pos,af,g⟩::rest) e :=
 Ex hg (fun w hw=>by simp[execOp,hx,Instr.loadAt,Instr.sureAddr,F5 ha hs hl (hc w hw)]) h
theorem Ox{t t2:TypeId}{x:Operand}{b s k:Nat}{l:List Value}(hg:AS ⟨dst,.load t x,ty,pos,af,g⟩ ops e=true)(ha:Dt P t=some true)(hs:Ci P t=some s)(hx:ev e x=.pointer (some ⟨b,0,none⟩))(H:∀w,C w->Ctx w0 S w L)(hk:L[k]?=some (b,Bl t2 l))(hl:l.length=s)(h:Wq P ops C K rest (put e dst (.agg l.toArray))):Wq P ops C K (⟨dst,.load t x,ty,pos,af,g⟩::rest) e :=
 G4 l (hg:=hg) ha hs hx hl (fun w hw j v hv=>by rw[Aj ((H w hw).get hk),qa4];exact hv) h
section
variable {t t2:TypeId}{x y:Operand}{k:IntKind}{a b:Int}
theorem Ln(hx:ev e x=.int k a)(hy:ev e y=.int k b)(h:Wq P ops C K rest (put e dst (.bool (decide (a<b)))))(hg:AS ⟨dst,.binOp .lss t x y t2,ty,pos,af,g⟩ ops e=true:=by exact U):
  Wq P ops C K (⟨dst,.binOp .lss t x y t2,ty,pos,af,g⟩::rest) e:=Ex hg (fun w _=>Ce hx hy (by simp[binOp,Op.intCmp])) h
theorem Oy(hx:ev e x=.int k a)(hy:ev e y=.int k b)(h:Wq P ops C K rest (put e dst (.bool (decide (a<=b)))))(hg:AS ⟨dst,.binOp .leq t x y t2,ty,pos,af,g⟩ ops e=true:=by exact U):
  Wq P ops C K (⟨dst,.binOp .leq t x y t2,ty,pos,af,g⟩::rest) e:=Ex hg (fun w _=>Ce hx hy (by simp[binOp,Op.intCmp])) h
theorem Qy(hg:AS ⟨dst,.binOp .gtr t x y t2,ty,pos,af,g⟩ ops e=true)(hx:ev e x=.int k a)(hy:ev e y=.int k b)(h:Wq P ops C K rest (put e dst (.bool (decide (b<a))))) :
  Wq P ops C K (⟨dst,.binOp .gtr t x y t2,ty,pos,af,g⟩::rest) e:=Ex hg (fun w _=>Ce hx hy (by simp[binOp,Op.intCmp])) h
theorem Agw(hg:AS ⟨dst,.binOp .geq t x y t2,ty,pos,af,g⟩ ops e=true)(hx:ev e x=.int k a)(hy:ev e y=.int k b)(h:Wq P ops C K rest (put e dst (.bool (decide (b<=a))))) :
  Wq P ops C K (⟨dst,.binOp .geq t x y t2,ty,pos,af,g⟩::rest) e:=Ex hg (fun w _=>Ce hx hy (by simp[binOp,Op.intCmp])) h
theorem Agx(hg:AS ⟨dst,.binOp .eql t x y t2,ty,pos,af,g⟩ ops e=true)(hx:ev e x=.int k a)(hy:ev e y=.int k b)(h:Wq P ops C K rest (put e dst (.bool (decide (a=b))))) :
  Wq P ops C K (⟨dst,.binOp .eql t x y t2,ty,pos,af,g⟩::rest) e :=
 Ex hg (fun w _=>Ce hx hy (v := .bool (decide (a=b))) (by simp[binOp,Op.intCmp];rfl)) h
theorem Md(hx:ev e x=.int k a)(hy:ev e y=.int k b)(h:Wq P ops C K rest (put e dst (.bool (!decide (a=b)))))(hg:AS ⟨dst,.binOp .neq t x y t2,ty,pos,af,g⟩ ops e=true:=by exact U):
  Wq P ops C K (⟨dst,.binOp .neq t x y t2,ty,pos,af,g⟩::rest) e :=
 Ex hg (fun w _=>Ce hx hy (v := .bool (!decide (a=b))) (by simp[binOp,Op.intCmp];rfl)) h
theorem Aem{x y:Operand}{a b:Bool}{t t2:TypeId}(ht:P.underlying t=some .bool)(hg:AS ⟨dst,.binOp .neq t x y t2,ty,pos,af,g⟩ ops e=true)(hx:ev e x=.bool a)(hy:ev e y=.bool b)(h:AG P r ops Q rest (put e dst (.bool (!(a == b)))) w) :
  AG P r ops Q (⟨dst,.binOp .neq t x y t2,ty,pos,af,g⟩::rest) e w:=by
 refine BK hg U ?_ h;have hq:eqGuard .neq t x y (.bool a) (.bool b)=pure ():=rfl;have he:∀d w,(Op.equalIn (d+1) t (.bool a) (.bool b)).run P w=.ok (a == b) w:=fun d w=>by simp[Op.equalIn,Bf ht]
 simp only[execOp,hx,hy,hq,Sem.run_bind,Sem.run_pure,Result.andThen_ok,binOp,Op.equal,Op.maxDepth,he 9999]
theorem Az(hx:ev e x=.int .i64 a)(hy:ev e y=.int .i64 b)(h:AG P r ops Q rest (put e dst (.int .i64 (a+b))) w)(hg:AS ⟨dst,.binOp .add t x y t2,ty,pos,af,g⟩ ops e=true:=by exact U)(h1: -9223372036854775808<=a+b:=by omega)(h2:a+b<=9223372036854775807:=by omega):AG P r ops Q (⟨dst,.binOp .add t x y t2,ty,pos,af,g⟩::rest) e w:=BK hg rfl (Ce hx hy (by simp[binOp,Op.intArith,Dg (k := .i64) (n:=a+b) h1 h2])) h
theorem Dn(hx:ev e x=.int .i64 a)(hy:ev e y=.int .i64 b)(h:Wq P ops C K rest (put e dst (.int .i64 (a+b))))(hg:AS ⟨dst,.binOp .add t x y t2,ty,pos,af,g⟩ ops e=true:=by exact U)(h1: -9223372036854775808<=a+b:=by omega)(h2:a+b<=9223372036854775807:=by omega):Wq P ops C K (⟨dst,.binOp .add t x y t2,ty,pos,af,g⟩::rest) e:=Ex hg (fun w _=>Ce hx hy (by simp[binOp,Op.intArith,Dg (k := .i64) (n:=a+b) h1 h2])) h
theorem Bu(hx:ev e x=.int .i64 a)(hy:ev e y=.int .i64 b)(h:AG P r ops Q rest (put e dst (.int .i64 (a - b))) w)(hg:AS ⟨dst,.binOp .sub t x y t2,ty,pos,af,g⟩ ops e=true:=by exact U)(h1: -9223372036854775808<=a - b:=by omega)(h2:a - b<=9223372036854775807:=by omega):AG P r ops Q (⟨dst,.binOp .sub t x y t2,ty,pos,af,g⟩::rest) e w:=BK hg rfl (Ce hx hy (by simp[binOp,Op.intArith,Dg (k := .i64) (n:=a - b) h1 h2])) h
theorem DY(hx:ev e x=.int .i64 a)(hy:ev e y=.int .i64 b)(h:Wq P ops C K rest (put e dst (.int .i64 (a - b))))(hg:AS ⟨dst,.binOp .sub t x y t2,ty,pos,af,g⟩ ops e=true:=by exact U)(h1: -9223372036854775808<=a - b:=by omega)(h2:a - b<=9223372036854775807:=by omega):Wq P ops C K (⟨dst,.binOp .sub t x y t2,ty,pos,af,g⟩::rest) e:=Ex hg (fun w _=>Ce hx hy (by simp[binOp,Op.intArith,Dg (k := .i64) (n:=a - b) h1 h2])) h
theorem DL(hx:ev e x=.int .i64 a)(hy:ev e y=.int .i64 b)(h:AG P r ops Q rest (put e dst (.int .i64 (a*b))) w)(hg:AS ⟨dst,.binOp .mul t x y t2,ty,pos,af,g⟩ ops e=true:=by exact U)(h1: -9223372036854775808<=a*b:=by omega)(h2:a*b<=9223372036854775807:=by omega):AG P r ops Q (⟨dst,.binOp .mul t x y t2,ty,pos,af,g⟩::rest) e w:=BK hg rfl (Ce hx hy (by simp[binOp,Op.intArith,Dg (k := .i64) (n:=a*b) h1 h2])) h
theorem Xz(hg:AS ⟨dst,.binOp .mul t x y t2,ty,pos,af,g⟩ ops e=true)(hx:ev e x=.int .i64 a)(hy:ev e y=.int .i64 b)(h:Wq P ops C K rest (put e dst (.int .i64 (a*b))))(h1: -9223372036854775808<=a*b:=by omega)(h2:a*b<=9223372036854775807:=by omega):Wq P ops C K (⟨dst,.binOp .mul t x y t2,ty,pos,af,g⟩::rest) e:=Ex hg (fun w _=>Ce hx hy (by simp[binOp,Op.intArith,Dg (k := .i64) (n:=a*b) h1 h2])) h
theorem L6(hg:AS ⟨dst,.unOp .neg t x,ty,pos,af,g⟩ ops e=true)(hx:ev e x=.int .i64 a)(h:AG P r ops Q rest (put e dst (.int .i64 (- a))) w)(h1: -9223372036854775808 <= - a:=by omega)(h2: - a<=9223372036854775807:=by omega):AG P r ops Q (⟨dst,.unOp .neg t x,ty,pos,af,g⟩::rest) e w:=Ah1 hg hx h1 h2 h
theorem GZ{s d:TypeId}{ds:TypeDesc}(hg:AS ⟨dst,.convert s d x,ty,pos,af,g⟩ ops e=true)(hx:ev e x=.int k a)(hs:P.underlying s=some ds)(hd:P.underlying d=some (.int .i64))(h:AG P r ops Q rest (put e dst (.int .i64 a)) w)(h1: -9223372036854775808<=a:=by omega)(h2:a<=9223372036854775807:=by omega):AG P r ops Q (⟨dst,.convert s d x,ty,pos,af,g⟩::rest) e w:=RV hg hx hs hd h1 h2 h
theorem X0(hg:AS ⟨dst,.unOp .neg t x,ty,pos,af,g⟩ ops e=true)(hx:ev e x=.int .i64 a)(h:Wq P ops C K rest (put e dst (.int .i64 (- a))))(h1: -9223372036854775808 <= - a:=by omega)(h2: - a<=9223372036854775807:=by omega):Wq P ops C K (⟨dst,.unOp .neg t x,ty,pos,af,g⟩::rest) e:=Ex hg (fun w _=>by simp[execOp,hx,Op.unary,Op.intArith,Dg (k := .i64) h1 h2]) h
theorem UT{s d:TypeId}{ds:TypeDesc}(hg:AS ⟨dst,.convert s d x,ty,pos,af,g⟩ ops e=true)(hx:ev e x=.int k a)(hs:P.underlying s=some ds)(hd:P.underlying d=some (.int .u8))(h:AG P r ops Q rest (put e dst (.int .u8 a)) w)(h1:0<=a:=by omega)(h2:a<=255:=by omega):AG P r ops Q (⟨dst,.convert s d x,ty,pos,af,g⟩::rest) e w:=RV hg hx hs hd h1 h2 h
theorem Ee(hx:ev e x=.int .u64 a)(hy:ev e y=.int .u64 b)(h:AG P r ops Q rest (put e dst (.int .u64 (a+b))) w)(hg:AS ⟨dst,.binOp .add t x y t2,ty,pos,af,g⟩ ops e=true:=by exact U)(h1:0<=a+b:=by omega)(h2:a+b<=18446744073709551615:=by omega):AG P r ops Q (⟨dst,.binOp .add t x y t2,ty,pos,af,g⟩::rest) e w:=BK hg rfl (Ce hx hy (by simp[binOp,Op.intArith,Dg (k := .u64) (n:=a+b) h1 h2])) h
theorem L7(hg:AS ⟨dst,.binOp .sub t x y t2,ty,pos,af,g⟩ ops e=true)(hx:ev e x=.int .u64 a)(hy:ev e y=.int .u64 b)(h:AG P r ops Q rest (put e dst (.int .u64 (a - b))) w)(h1:0<=a - b:=by omega)(h2:a - b<=18446744073709551615:=by omega):AG P r ops Q (⟨dst,.binOp .sub t x y t2,ty,pos,af,g⟩::rest) e w:=BK hg rfl (Ce hx hy (by simp[binOp,Op.intArith,Dg (k := .u64) (n:=a - b) h1 h2])) h
theorem Qz(hg:AS ⟨dst,.binOp .sub t x y t2,ty,pos,af,g⟩ ops e=true)(hx:ev e x=.int .u64 a)(hy:ev e y=.int .u64 b)(h:Wq P ops C K rest (put e dst (.int .u64 (a - b))))(h1:0<=a - b:=by omega)(h2:a - b<=18446744073709551615:=by omega):Wq P ops C K (⟨dst,.binOp .sub t x y t2,ty,pos,af,g⟩::rest) e:=Ex hg (fun w _=>Ce hx hy (by simp[binOp,Op.intArith,Dg (k := .u64) (n:=a - b) h1 h2])) h
theorem Ia(hg:AS ⟨dst,.binOp .mul t x y t2,ty,pos,af,g⟩ ops e=true)(hx:ev e x=.int .u64 a)(hy:ev e y=.int .u64 b)(h1:0<=a*b)(h2:a*b<=18446744073709551615)(h:AG P r ops Q rest (put e dst (.int .u64 (a*b))) w):AG P r ops Q (⟨dst,.binOp .mul t x y t2,ty,pos,af,g⟩::rest) e w:=BK hg rfl (Ce hx hy (by simp[binOp,Op.intArith,Dg (k := .u64) (n:=a*b) h1 h2])) h
theorem DX{s d:TypeId}{ds:TypeDesc}(hx:ev e x=.int k a)(hs:P.underlying s=some ds)(hd:P.underlying d=some (.int .u64))(h:AG P r ops Q rest (put e dst (.int .u64 a)) w)(hg:AS ⟨dst,.convert s d x,ty,pos,af,g⟩ ops e=true:=by exact U)(h1:0<=a:=by omega)(h2:a<=18446744073709551615:=by omega):AG P r ops Q (⟨dst,.convert s d x,ty,pos,af,g⟩::rest) e w:=RV hg hx hs hd h1 h2 h
end
theorem MV{x:Operand}(hg:AS ⟨dst,.move x,ty,pos,af,g⟩ ops e=true)(v:Value)(hx:ev e x=v)(h:Wq P ops C K rest (put e dst v)) :
  Wq P ops C K (⟨dst,.move x,ty,pos,af,g⟩::rest) e:=Ex hg (fun w _=>by simp[execOp,hx]) h
theorem Oz{x:Operand}(hg:AS ⟨dst,.assign x,ty,pos,af,g⟩ ops e=true)(v:Value)(hx:ev e x=v)(h:Wq P ops C K rest (put e dst v)) :
  Wq P ops C K (⟨dst,.assign x,ty,pos,af,g⟩::rest) e:=Ex hg (fun w _=>by simp[execOp,hx]) h
theorem IB{c a b:Operand}(hc:ev e c=.bool true)(v:Value)(hx:ev e a=v)(h:Wq P ops C K rest (put e dst v))(hg:AS ⟨dst,.pick c a b,ty,pos,af,g⟩ ops e=true:=by exact U):
  Wq P ops C K (⟨dst,.pick c a b,ty,pos,af,g⟩::rest) e:=Ex hg (fun w _=>by simp[execOp,hc,hx,asBool]) h
theorem HK{c a b:Operand}(hc:ev e c=.bool false)(v:Value)(hx:ev e b=v)(h:Wq P ops C K rest (put e dst v))(hg:AS ⟨dst,.pick c a b,ty,pos,af,g⟩ ops e=true:=by exact U):
  Wq P ops C K (⟨dst,.pick c a b,ty,pos,af,g⟩::rest) e:=Ex hg (fun w _=>by simp[execOp,hc,hx,asBool]) h
theorem Bb{x:Operand}{p:Addr}(hx:ev e x=.pointer (some p))(h:Wq P ops C K rest (put e dst (.pointer (some p))))(hg:AS ⟨dst,.nilCheck x,ty,pos,af,g⟩ ops e=true:=by exact U):
  Wq P ops C K (⟨dst,.nilCheck x,ty,pos,af,g⟩::rest) e:=Ex hg (fun w _=>by simp[execOp,hx]) h
theorem Bi{t el:TypeId}{x y:Operand}{b o n c s:Nat}{k:IntKind}{i:Int}(hu:CL P t=some el)(hs:Ci P el=some s)(hx:ev e x=.slice (some ⟨b,o,none⟩) n c)(hy:ev e y=.int k i)(h:Wq P ops C K rest (put e dst (.pointer (some ⟨b,o+i.toNat*s,none⟩))))(hg:AS ⟨dst,.indexAddr t x y,ty,pos,af,g⟩ ops e=true:=by exact U)(h0:0<=i:=by omega)(h1:i<n:=by omega):
  Wq P ops C K (⟨dst,.indexAddr t x y,ty,pos,af,g⟩::rest) e :=
 Ex hg (fun w _=>by simp[execOp,hx,hy,Instr.indexAt,asIntOf,Bf (CF hu),h0,h1,CH hs,CV]) h
theorem BH{t el:TypeId}{x y:Operand}{a:Option Addr}{n c s:Nat}{k:IntKind}{i:Int}{α:Type}{enc:α->List Value}{xs:List α}{w1:World}(R:Rd w1 a s enc xs)(hu:CL P t=some el)(hs:Ci P el=some s)(hx:ev e x=.slice a n c)(hy:ev e y=.int k i)(hn:n=xs.length)(h:Wq P ops C K rest (put e dst (.pointer (some ⟨(adr a).block,(adr a).off+i.toNat*s,none⟩))))(hg:AS ⟨dst,.indexAddr t x y,ty,pos,af,g⟩ ops e=true:=by exact U)(h0:0<=i:=by omega)(h1:i<n:=by omega):
  Wq P ops C K (⟨dst,.indexAddr t x y,ty,pos,af,g⟩::rest) e:=by
 obtain⟨b,o,rfl⟩:=R.some' (by rintro rfl;simp at hn;omega);exact Bi (hg:=hg) hu hs hx hy (h0:=h0) (h1:=h1) h
theorem Agy{t:TypeId}{x:Operand}{a:Option Addr}{n c:Nat}{el:TypeId}(hg:AS ⟨dst,.call ⟨.builtin .len,#[x],#[t]⟩,ty,pos,af,g⟩ ops e=true)(hu:CL P t=some el)(hx:ev e x=.slice a n c)(h:Wq P ops C K rest (put e dst (.int .i64 n))) :
  Wq P ops C K (⟨dst,.call ⟨.builtin .len,#[x],#[t]⟩,ty,pos,af,g⟩::rest) e :=
 Ex hg (fun w _=>by simp[execOp,resolve,invoke,builtin,hx,Builtin.len_,Bf (CF hu),goInt]) h
theorem Ah2{t1 t2:TypeId}{x y:Operand}{k:IntKind}{a b:Int}(hg:AS ⟨dst,.call ⟨.builtin .min,#[x,y],#[t1,t2]⟩,ty,pos,af,g⟩ ops e=true)(hx:ev e x=.int k a)(hy:ev e y=.int k b)(h:Wq P ops C K rest (put e dst (.int k (min a b)))) :
  Wq P ops C K (⟨dst,.call ⟨.builtin .min,#[x,y],#[t1,t2]⟩,ty,pos,af,g⟩::rest) e :=
 Ex hg (fun w _=>by
  have:(if b<a then b else a)=min a b:=by rw[Int.min_def];split <;> split <;> omega
  simp[execOp,resolve,invoke,builtin,hx,hy,Builtin.min_,Builtin.min2,this]) h
theorem A5{t:TypeId}{x:Operand}{i b o off:Nat}(hf:BJ P t i=some off)(hx:ev e x=.pointer (some ⟨b,o,none⟩))(h:Wq P ops C K rest (put e dst (.pointer (some ⟨b,o+off,none⟩))))(hg:AS ⟨dst,.fieldAddr t x i,ty,pos,af,g⟩ ops e=true:=by exact U):
  Wq P ops C K (⟨dst,.fieldAddr t x i,ty,pos,af,g⟩::rest) e:=by
 unfold BJ at hf
 split at hf
 .rename_i fs hu
  split at hf
  .rename_i f hf1
   split at hf
   .rename_i s hs
    injection hf with hf
    subst hf;exact Ex hg (fun w _=>by simp[execOp,hx,Instr.fieldAt,Bf hu,hf1,Instr.sureAddr,fieldPlace,CH hs,CV]) h
   .cases hf
  .cases hf
 .cases hf
theorem Cf{fn:Fn}{cap:Array Operand}(l:List Value)(hl:cap.toList.map (ev e)=l)(h:AG P r ops Q rest (put e dst (.func fn #[] l.toArray)) w)(hg:AS ⟨dst,.makeFunc fn #[] cap,ty,pos,af,g⟩ ops e=true:=by exact U):
  AG P r ops Q (⟨dst,.makeFunc fn #[] cap,ty,pos,af,g⟩::rest) e w:=by
 refine Tj hg ?_;have:cap.map (ev e)=l.toArray:=by subst hl;apply qb3;simp only[qcg]
 rw[this,Array.map_empty];exact h
theorem CI{t t2 el el2:TypeId}{x y:Operand}{s by':Nat}{zl:List Value}(hu:CL P t=some el)(hu2:CL P t2=some el2)(hs:Ci P el=some s)(hby:DR P el=some by')(hz:Cl P el=some zl)(hzl:zl.length=s){a:Option Addr}{n c m c2 b2:Nat}{t3:TypeId}{full l new:List Value}(hx:ev e x=.slice a n c)(hy:ev e y=.slice (some ⟨b2,0,none⟩) m c2)(H:Ctx w0 S w ((b2,Bl t3 new)::(L++ent a el full)))(O:OS a n c s full l)(hn:new.length=m*s)(h1:∀v∈new,AZ v=true)(h:∀a' c' full' w',Ctx w0 S w' (L++ent a' el full')->OS a' (n+m) c' s full' (l++new)->AG P r ops Q rest (put e dst (.slice a' (n+m) c')) w')(hg:AS ⟨dst,.call ⟨.builtin .append,#[x,y],#[t,t2]⟩,ty,pos,af,g⟩ ops e=true:=by exact U)(hpos:0<by':=by decide)(hbound:(2*(n+m)+768)*by'<=281474976710656:=by omega):
  AG P r ops Q (⟨dst,.call ⟨.builtin .append,#[x,y],#[t,t2]⟩,ty,pos,af,g⟩::rest) e w :=
 G9 hg hu hu2 hs hby hz hzl (hpos:=hpos) new hx hy H.tail O hn h1 (fun j v hv=>⟨_,rfl,by rw[CV,qa4,Aj (H.get at0)];exact hv⟩) (hbound:=hbound) h
end
section
variable {w0 w w':World}{S:List Nat}{L L1 L2 L1':List (Nat × Obj)}
theorem Ctx.lend(H:Ctx w0 S w (L1++L2)):Ctx w (L1.map (·.1)) w L1 :=
 ⟨Ext.refl _ _,fun x hx=>H.blk x (qao _ hx),(qbu.1 H.nd).1,fun _ hx => .inl (qa5 hx)⟩
theorem Ctx.back(H:Ctx w0 S w (L1++L2))(H':Ctx w (L1.map (·.1)) w' L1'):Ctx w0 S w' (L1'++L2):=by
 have hd:=qbu.1 H.nd
 have hk:∀x∈L1',(∃y∈L1,y.1=x.1)\/w.heap.size<=x.1:=fun x hx=>by
  rcases H'.own x hx with h|h
  .rw[qag]at h;exact .inl h
  .exact .inr h
 have hn2:∀y∈L2,y.1∉L1.map (·.1):=fun y hy hm=>by
  rw[qag]at hm;obtain⟨x,hx,he⟩:=hm;exact hd.2.2 x hx y hy he
 refine⟨H.ext.then H'.ext ?_,?_,?_,?_⟩
 .intro x hx;rw[qag]at hx;obtain⟨y,hy,rfl⟩:=hx;exact H.own y (qao _ hy)
 .intro x hx
  rcases qbi.1 hx with hx|hx
  .exact H'.blk x hx
  .have hb:=H.blk x (qal _ hx);rw[H'.ext.block x.1 (AY hb) (hn2 x hx)];exact hb
 .rw[qbu];refine⟨H'.nd,hd.2.1,fun x hx y hy=>?_⟩;have hly:=AY (H.blk y (qal _ hy))
  rcases hk x hx with⟨z,hz,he⟩|h
  .rw[<-he];exact hd.2.2 z hz y hy
  .omega
 .intro x hx
  rcases qbi.1 hx with hx|hx
  .rcases hk x hx with⟨z,hz,he⟩|h
   .rw[<-he];exact H.own z (qao _ hz)
   .exact .inr (qa0 H.size h)
  .exact H.own x (qal _ hx)
theorem Ctx.app_nil(H:Ctx w0 S w L):Ctx w0 S w (L++[]):=by simpa using H
theorem Ctx.nil_app(H:Ctx w0 S w (L++[])):Ctx w0 S w L:=by simpa using H
end
section
variable {w:World}{α:Type}{a:Option Addr}{s:Nat}{enc:α->List Value}{xs:List α}
theorem Rd.row(R:Rd w a s enc xs){i:Nat}{x:α}(hx:xs[i]?=some x)(hs:(enc x).length=s):∀j v,(enc x)[j]?=some v->w.cell? ⟨(adr a).block,(adr a).off+i*s+j,none⟩=some v :=
 fun j v hv=>R.cell i x hx j v hv (by rw[<-hs];exact(qbc.1 hv).1)
theorem Rd.fld(R:Rd w a s enc xs){i j:Nat}{x:α}{v:Value}(hx:xs[i]?=some x)(hs:(enc x).length=s)(hv:(enc x)[j]?=some v):w.cell? ⟨(adr a).block,(adr a).off+i*s+j,none⟩=some v:=R.row hx hs j v hv
theorem Rd.one{f:α->Value}(R:Rd w a 1 (fun x=>[f x]) xs){i:Nat}{x:α}(hx:xs[i]?=some x):w.cell? ⟨(adr a).block,(adr a).off+i*1,none⟩=some (f x):=by
 have:=R.cell i x hx 0 (f x) rfl (by omega)
 simpa using this
theorem Rd.app1{f:α->Value}(R:Rd w a 1 (fun x=>[f x]) xs):∀j v,(xs.map f)[j]?=some v->∃p,a=some p/\w.cell? (p.add j)=some v:=by
 intro j v hv;rw[qa1]at hv
 cases hx:xs[j]? with
 |none=>rw[hx]at hv;cases hv
 |some x =>
  rw[hx]at hv
  injection hv with hv
  subst hv;obtain⟨b,o,rfl⟩:=R.some' (by rintro rfl;simp at hx);refine⟨_,rfl,?_⟩;rw[CV];have:=R.one hx
  simpa[adr]using this
theorem Tn(hs:∀x∈xs,(enc x).length=s)(h0:0<s):∀j,(xs.flatMap enc)[j]? = (xs[j / s]?).bind fun x=>(enc x)[j % s]? := by
 induction xs with
 |nil=>intro j;simp
 |cons x xs ih =>
  intro j;have hx:=hs x (by simp);have ih:=ih (fun y hy=>hs y (by simp[hy]));simp only[qby]
  by_cases hj:j<s
  .rw[qcb (by omega),Nat.div_eq_of_lt hj,qcj hj];rfl
  .rw[qcf (by omega),hx,ih];have h1:j / s=(j - s) / s+1:=by rw[Nat.div_eq_sub_div h0 (by omega)]
   have h2:j % s=(j - s) % s:=by rw[Nat.mod_eq_sub_mod (by omega)]
   rw[h1,h2];rfl
theorem Rd.app(R:Rd w a s enc xs)(hs:∀x∈xs,(enc x).length=s)(h0:0<s):∀j v,(xs.flatMap enc)[j]?=some v->∃p,a=some p/\w.cell? (p.add j)=some v:=by
 intro j v hv;rw[Tn hs h0]at hv
 cases hx:xs[j / s]? with
 |none=>rw[hx]at hv;cases hv
 |some x =>
  rw[hx]at hv;have hc:=R.cell _ x hx _ v hv (Nat.mod_lt _ h0);obtain⟨b,o,rfl⟩:=R.some' (by rintro rfl;simp at hx);refine⟨_,rfl,?_⟩;rw[CV];simp only[adr]at hc;rw[<-hc]
  congr 2
  have:=Nat.div_add_mod j s;rw[Nat.mul_comm]at this;omega
theorem Rd.take(R:Rd w a s enc xs)(n:Nat):Rd w a s enc (xs.take n) :=
 ⟨fun h=>R.some' (by rintro rfl;simp at h),fun i x hx j v hv hj=>R.cell i x (by
  rw[qbv]at hx
  split at hx
  .exact hx
  .cases hx) j v hv hj⟩
theorem Rd.cut(R:Rd w a s enc xs)(n c:Nat)(hc:xs.length<=c):Rd w (UR a c n s) s enc (xs.drop n):=by
 unfold UR
 by_cases hn:c=n
 .subst hn;rw[List.drop_of_length_le hc];exact Rd.nil
 .rw[if_neg hn];refine⟨fun h=>?_,fun i x hx j v hv hj=>?_⟩
  .obtain⟨b,o,rfl⟩:=R.some' (by rintro rfl;simp at h);exact⟨b,o+n*s,by simp[CV]⟩
  .rw[qcr]at hx;obtain⟨b,o,rfl⟩:=R.some' (by rintro rfl;simp at hx);have:=R.cell (n+i) x hx j v hv hj;simp only[adr,qcu,CV]at this |-;rw[<-this]
   congr 2
   rw[qb8];omega
end
section
variable {P:Program}{r:Option Nat}{ops rest:List Oper}{Q:Exit->Env->World->Prop}{e:Env}{w w0:World}{S:List Nat}{L:List (Nat × Obj)}{dst:Option Tmp}{ty:TypeId}{pos:String}{af:Array Edge}{g:Option (Nat × Bool)}
theorem GA{t el:TypeId}{s:Nat}(hu:CL P t=some el)(hs:Ci P el=some s)(H:Ctx w0 S w L)(h:∀b w',Ctx w0 S w' (L++ent (some ⟨b,0,none⟩) el [])->OS (some ⟨b,0,none⟩) 0 0 s [] []->AG P r ops Q rest (put e dst (.slice (some ⟨b,0,none⟩) 0 0)) w')(hg:AS ⟨dst,.buildSlice t 0 #[],ty,pos,af,g⟩ ops e=true:=by exact U):
  AG P r ops Q (⟨dst,.buildSlice t 0 #[],ty,pos,af,g⟩::rest) e w:=by
 refine BK (w':=w.alloc (Bl el [])) (v := .slice (some ⟨w.heap.size,0,none⟩) 0 0) hg U ?_ (h _ _ (Ctx.comm (L:=[(w.heap.size,Bl el [])]) (H.alloc _)) ⟨(fun p hp=>by injection hp with hp;subst hp;rfl),(fun hp=>by cases hp),by simp,qan _,by simp⟩);have hr0:(Array.range 0)=(#[]:Array Nat):=by apply qb3;simp
 simp[execOp,Instr.buildSlice,Bf (CF hu),CH hs,hr0,Instr.fill,newRow,newObj,Sem.run];rfl
end
theorem DZ{α:Type}{n i:Nat}{f:Nat->α}(h:i<n):((List.range n).map f)[i]?=some (f i):=by
 rw[qa1,List.getElem?_range h];rfl
theorem Jb{α:Type}{n i:Nat}{f g:Nat->α}{v:α}(hv:g i=v)(h:∀j,j<n->j≠i->g j=f j):((List.range n).map f).set i v=(List.range n).map g:=by
 apply qb0;intro j;rw[qd6]
 by_cases hj:j<n
 .by_cases he:i=j
  .subst he;rw[if_pos rfl,if_pos (by simpa using hj),DZ hj,hv]
  .rw[if_neg he,DZ hj,DZ hj,h j hj (Ne.symm he)]
 .rw[qa9 (l:=(List.range n).map g) (by simp;omega)]
  split
  .rw[if_neg (by simp;omega)]
  .rw[qa9 (by simp;omega)]
section
variable {P:Program}{r:Option Nat}{ops rest:List Oper}{Q:Exit->Env->World->Prop}{e:Env}{w w0:World}{S:List Nat}{L:List (Nat × Obj)}{dst:Option Tmp}{ty:TypeId}{pos:String}{af:Array Edge}{g:Option (Nat × Bool)}{C:World->Prop}{K:Env->Prop}
theorem RW{t t2:TypeId}{x:Operand}{b i j n:Nat}{f:Nat->Value}(k:Nat)(v:Value)(hg:AS ⟨dst,.load t x,ty,pos,af,g⟩ ops e=true)(ha:Dt P t=some false)(hx:ev e x=.pointer (some ⟨b,i,none⟩))(H:Ctx w0 S w L)(hj:L[j]?=some (b,Bl t2 ((List.range n).map f)))(hi:i=k)(hv:f k=v)(h:AG P r ops Q rest (put e dst v) w)(hk:k<n:=by omega):AG P r ops Q (⟨dst,.load t x,ty,pos,af,g⟩::rest) e w:=by
 subst hi hv;exact AB (hg:=hg) ha hx H hj (DZ hk) h
theorem Ch{t t2:TypeId}{x y:Operand}{b i j n:Nat}{f:Nat->Value}(k:Nat)(f':Nat->Value)(v:Value)(hs:Ci P t=some 1)(hx:ev e x=.pointer (some ⟨b,i,none⟩))(hy:ev e y=v)(hv:AZ v=true)(H:Ctx w0 S w L)(hj:L[j]?=some (b,Bl t2 ((List.range n).map f)))(hi:i=k)(h1:f' k=v)(h2:∀q,q<n->q≠k->f' q=f q)(h:∀w',Ctx w0 S w' (L.set j (b,Bl t2 ((List.range n).map f')))->AG P r ops Q rest (put e dst undef) w')(hg:AS ⟨dst,.store t x y,ty,pos,af,g⟩ ops e=true:=by exact U)(hk:k<n:=by omega):AG P r ops Q (⟨dst,.store t x y,ty,pos,af,g⟩::rest) e w:=by
 subst hi;refine Ct v (hg:=hg) hs hx hy hv H hj (by simpa using hk) (fun w' H'=>h w' ?_);rw[Jb h1 h2]at H';exact H'
end
theorem AA{α:Type}{l:List α}{i:Nat}(h:i<l.length:=by omega):∃x,l[i]?=some x:=⟨l[i],qbz h⟩
theorem C0{α:Type}{l:List α}{i:Nat}{x:α}(h:l[i]?=some x):i<l.length:=(qbc.1 h).1
theorem Fc{α:Type}{l:List α}{i:Nat}{x:α}(h:l[i]?=some x):l.take (i+1)=l.take i++[x]:=by
 rw[qbw,h];rfl
theorem Fe{α:Type}(n:Nat)(v:α):List.replicate n v=(List.range n).map fun _=>v:=by
 apply qb0;intro j
 by_cases hj:j<n
 .rw[DZ hj,List.getElem?_replicate,if_pos hj]
 .rw[qa9 (by simp;omega),qa9 (by simp;omega)]
structure Fresh(w w':World)(el:TypeId)(s:Nat)(v:Value)(l:List Value):Prop where
 ex:∃a n c full,v=.slice a n c/\OS a n c s full l/\∀x∈ent a el full,w'.heap[x.1]?=some x.2/\w.heap.size<=x.1
 ext:Ext [] w w'
theorem FY{a:Option Addr}{t:TypeId}{full:List Value}:(ent a t full).Pairwise fun x y=>x.1≠y.1:=by
 cases a <;> simp[ent]
theorem Ctx.fresh{w0 w:World}{L:List (Nat × Obj)}{a:Option Addr}{el:TypeId}{full l:List Value}{n c s:Nat}(H:Ctx w0 [] w (L++ent a el full))(O:OS a n c s full l):Fresh w0 w el s (.slice a n c) l :=
 ⟨⟨a,n,c,full,rfl,O,fun x hx=>⟨H.blk x (qal _ hx),by
  rcases H.own x (qal _ hx)with h|h
  .cases h
  .exact h⟩⟩,H.ext⟩
theorem Fresh.nil{w0 w:World}{L:List (Nat × Obj)}(H:Ctx w0 [] w L)(el:TypeId)(s:Nat):Fresh w0 w el s (.slice none 0 0) [] :=
 ⟨⟨none,0,0,[],rfl,OS.nil,by simp[ent]⟩,H.ext⟩
theorem Zc{α:Type}{f:α->Value}(xs:List α):xs.flatMap (fun x=>[f x])=xs.map f:=by
 induction xs with
 |nil=>rfl
 |cons x xs ih=>simp[ih]
theorem OS.rd1{α:Type}{w:World}{a:Option Addr}{n c:Nat}{t:TypeId}{full:List Value}{f:α->Value}{xs:List α}(h:OS a n c 1 full (xs.map f))(hb:∀x∈ent a t full,w.heap[x.1]?=some x.2) :
  Rd w a 1 (fun x=>[f x]) xs:=OS.rd (by rw[Zc];exact h) hb (by simp) (by omega)
theorem OS.num{α:Type}{a:Option Addr}{n c:Nat}{full:List Value}{f:α->Value}{xs:List α}(h:OS a n c 1 full (xs.map f)):n=xs.length:=by
 have:=h.llen;simpa using this.symm
theorem OS.numN{α:Type}{a:Option Addr}{n c s:Nat}{full:List Value}{enc:α->List Value}{xs:List α}(h:OS a n c s full (xs.flatMap enc))(hs:∀x∈xs,(enc x).length=s)(h0:0<s):n=xs.length:=by
 have h1:=h.llen
 have h2:∀xs:List α,(∀x∈xs,(enc x).length=s)->(xs.flatMap enc).length=xs.length*s:=by
  intro xs
  induction xs with
  |nil=>simp
  |cons x xs ih =>
   intro hs;simp only[qby,qat,qa8,qb8,Nat.one_mul];rw[ih (fun y hy=>hs y (by simp[hy])),hs x (by simp)];omega
 rw[h2 xs hs]at h1;exact(Nat.eq_of_mul_eq_mul_right h0 h1).symm
def Ey{α:Type}(m:List (Int × α))(k:Int):Option α:=(m.find? fun p=>p.1 == k).map (·.2)
def Me{α:Type}:List (Int × α)->Int->α->List (Int × α)
 | [],k,v=>[(k,v)]
 |p::m,k,v=>if p.1=k then(k,v)::m else p::Me m k v
def L8{α:Type}:List (Int × α)->Int->List (Int × α)
 | [],_=>[]
 |p::m,k=>if p.1=k then m else p::L8 m k
def CY(kk:IntKind)(m:List (Int × Value))(o:Obj):Prop :=
 ∃es clock,o=.map es clock/\es.toList.map (fun e=>(e.key,e.val))=m.map (fun p=>(Value.int kk p.1,p.2))/\(∀e∈es.toList,e.born<clock)/\(es.toList.map (·.born)).Nodup
theorem GC(kk:IntKind)(n:Int):∀(es:List MapEntry) (m:List (Int × Value)) (i:Nat),es.map (fun e=>(e.key,e.val))=m.map (fun p=>(Value.int kk p.1,p.2)) ->
  (Ey m n=none->Instr.findNow (.int kk) (.int kk n) es i=some none) /\
  (∀v,Ey m n=some v->∃j,Instr.findNow (.int kk) (.int kk n) es i=some (some (i+j,v))/\j<es.length/\∀(v':Value),(es.modify j fun e=>{ e with key := .int kk n,val:=v' }).map (fun e=>(e.key,e.val))=(Me m n v').map (fun p=>(Value.int kk p.1,p.2))/\((es[j]?).map (·.key))=some (.int kk n) /\
   (es.eraseIdx j).map (fun e=>(e.key,e.val))=(L8 m n).map (fun p=>(Value.int kk p.1,p.2)))
 | [],m,i,h=>by
  cases m with
  |nil=>exact⟨fun _=>rfl,fun v hv=>by cases hv⟩
  |cons p m=>cases h
 |e::es,m,i,h=>by
  cases m with
  |nil=>cases h
  |cons p m =>
   simp only[qav,qdb,Prod.mk.injEq]at h;obtain⟨⟨hk,hv⟩,ht⟩:=h;have ih:=GC kk n es m (i+1) ht;have hs:Instr.sameNow (.int kk) (.int kk n) e.key=some (n == p.1):=by rw[hk];simp[Instr.sameNow]
   by_cases hn:p.1=n
   .have hb:(n == p.1)=true:=by simp[hn]
    have hg:Ey (p::m) n=some p.2:=by simp[Ey,hn]
    refine⟨(fun h=>by rw[hg]at h;cases h),fun v hv'=>?_⟩;rw[hg]at hv'
    injection hv' with hv'
    subst hv';refine⟨0,by simp[Instr.findNow,hs,hb,hv],by simp,fun v'=>⟨?_,by simp[hk,hn],?_⟩⟩
    .simp[Me,hn,ht,List.modify]
    .simp[L8,hn,ht]
   .have hb:(n == p.1)=false:=by simpa using Ne.symm hn
    have hb2:(p.1 == n)=false:=by simpa using hn
    have hg:Ey (p::m) n=Ey m n:=by simp[Ey,hb2]
    rw[hg];refine⟨fun h=>by simp[Instr.findNow,hs,hb,ih.1 h],fun v hv'=>?_⟩;obtain⟨j,h1,h2,h3⟩:=ih.2 v hv';refine⟨j+1,by simp[Instr.findNow,hs,hb,h1];omega,by simp;omega,fun v'=>?_⟩;obtain⟨a1,a2,a3⟩:=h3 v';refine⟨?_,by simpa using a2,?_⟩
    .simp only[List.modify_succ_cons,qav,Me,if_neg hn,a1,hk,hv]
    .simp only[List.eraseIdx_cons_succ,qav,L8,if_neg hn,a3,hk,hv]
def Mf(P:Program)(t:TypeId):Option (TypeId × TypeId):=match P.underlying t with|some (.map k e)=>some (k,e)|_=>none
theorem Ib{P:Program}{t k e:TypeId}(h:Mf P t=some (k,e)):P.underlying t=some (.map k e):=by
 unfold Mf at h
 split at h
 .rename_i hu;injection h with h;cases h;exact hu
 .cases h
section
variable {P:Program}{r:Option Nat}{ops rest:List Oper}{Q:Exit->Env->World->Prop}{e:Env}{w w0:World}{S:List Nat}{L:List (Nat × Obj)}{dst:Option Tmp}{ty:TypeId}{pos:String}{af:Array Edge}{g:Option (Nat × Bool)}
theorem DS{b:Bool}{k:TypeId}{kk:IntKind}(hk:P.underlying k=some (.int kk))(v:Value)(w:World)(d:Nat):(Instr.checkKey b (d+1) k v).run P w=.ok () w:=by
 simp[Instr.checkKey,Bf hk]
theorem OB{t:TypeId}(kk:IntKind)(hg:AS ⟨dst,.makeMap t none,ty,pos,af,g⟩ ops e=true)(H:Ctx w0 S w L)(h:∀b o w',CY kk [] o->Ctx w0 S w' ((b,o)::L)->AG P r ops Q rest (put e dst (.map (some b))) w') :
  AG P r ops Q (⟨dst,.makeMap t none,ty,pos,af,g⟩::rest) e w:=by
 refine BK (w':=w.alloc (.map #[] 0)) (v := .map (some w.heap.size)) hg U ?_ (h _ _ _ ⟨#[],0,rfl,rfl,by simp,by simp⟩ (H.alloc _));simp[execOp,Instr.makeMap,newObj,Sem.run]
theorem Ha{t k el:TypeId}{kk:IntKind}{x y:Operand}{b j:Nat}{o:Obj}{m:List (Int × Value)}{n:Int}{z:Value}(hg:AS ⟨dst,.lookup t x y true,ty,pos,af,g⟩ ops e=true)(ht:Mf P t=some (k,el))(hk:P.underlying k=some (.int kk))(hz:(P.info? el).bind (·.zero)=some z)(hx:ev e x=.map (some b))(hy:ev e y=.int kk n)(H:Ctx w0 S w L)(hl:L[j]?=some (b,o))(hM:CY kk m o)(h:AG P r ops Q rest (put e dst (.tuple #[(Ey m n).getD z,.bool (Ey m n).isSome])) w):AG P r ops Q (⟨dst,.lookup t x y true,ty,pos,af,g⟩::rest) e w:=by
 obtain⟨es,clock,rfl,hes,_⟩:=hM;have hb:=H.get hl;have hf:=GC kk n es.toList m 0 hes;have hgo:(getObj b).run P w=.ok (.map es clock) w:=by simp[getObj,Sem.run,hb]
 have hzr:(zeroValue el).run P w=.ok z w:=by
  cases hi:P.info? el with
  |none=>rw[hi]at hz;cases hz
  |some i=>rw[hi]at hz;simp at hz;simp[zeroValue,typeInfo,program,Sem.run,hi,hz]
 refine BK hg U ?_ h
 cases hm:Ey m n with
 |none=>simp[execOp,Instr.lookup,Bf (Ib ht),hx,hy,hgo,DS hk,Instr.findKey,Bf hk,hf.1 hm,hzr]
 |some v =>
  obtain⟨i,hi,_⟩:=hf.2 v hm;simp[execOp,Instr.lookup,Bf (Ib ht),hx,hy,hgo,DS hk,Instr.findKey,Bf hk,hi]
theorem Qi{t k el:TypeId}{kk:IntKind}{b j:Nat}{o:Obj}{m:List (Int × Value)}{n:Int}(v:Value)(ht:Mf P t=some (k,el))(hk:P.underlying k=some (.int kk))(H:Ctx w0 S w L)(hl:L[j]?=some (b,o))(hM:CY kk m o) :
  ∃o' w',(Instr.mapUpdate t (.map (some b)) (.int kk n) v).run P w=.ok () w'/\CY kk (Me m n v) o'/\Ctx w0 S w' (L.set j (b,o')):=by
 obtain⟨es,clock,rfl,hes,hbn,hnd⟩:=hM;have hb:=H.get hl;have hf:=GC kk n es.toList m 0 hes;have hgo:(getObj b).run P w=.ok (.map es clock) w:=by simp[getObj,Sem.run,hb]
 have hso:∀o',(setObj b o').run P w=.ok () (w.putObj b o'):=fun o'=>by simp[setObj,Sem.run,hb,World.putObj]
 cases hm:Ey m n with
 |none =>
  refine⟨.map (es.push { key := .int kk n,val:=v,born:=clock }) (clock+1),w.putObj b _,?_,⟨_,_,rfl,?_,?_,?_⟩,H.setB hl _⟩
  .simp[Instr.mapUpdate,Bf (Ib ht),hgo,DS hk,Instr.findKey,Bf hk,hf.1 hm,hso]
  .have hms:Me m n v=m++[(n,v)]:=by
    clear hes hf
    induction m with
    |nil=>rfl
    |cons p m ih =>
     have hp:¬p.1=n:=by
      intro hp;simp[Ey,hp]at hm
     have hb2:(p.1 == n)=false:=by simpa using hp
     have hm2:Ey m n=none:=by rw[<-hm];simp[Ey,hb2]
     simp[Me,hp,ih hm2]
   rw[hms];simp[hes]
  .intro x hx;simp only[qdc,qbi,qab]at hx
   rcases hx with hx|rfl
   .have:=hbn x hx;omega
   .simp
  .simp only[qdc,qay,qav,qca];rw[qdu];refine⟨hnd,by simp,?_⟩;intro x hx y hy;simp only[qab]at hy;subst hy;rw[qag]at hx;obtain⟨e',he',rfl⟩:=hx;have:=hbn e' he';omega
 |some v0 =>
  obtain⟨i,hi,hil,h3⟩:=hf.2 v0 hm;obtain⟨a1,a2,_⟩:=h3 v;have hkts:(Instr.keyThatStays (.int kk n) (.int kk n)).run P w=.ok (.int kk n) w:=by simp[Instr.keyThatStays,Instr.sameBits]
  have hold:((es[i]?).map (·.key)).getD (.int kk n)=.int kk n:=by
   have:es[i]?=es.toList[i]? := by rw[qd3]
   rw[this,a2];rfl
  refine⟨.map (es.modify i fun e=>{ e with key := .int kk n,val:=v }) clock,w.putObj b _,?_,⟨_,_,rfl,?_,?_,?_⟩,H.setB hl _⟩
  .simp[Instr.mapUpdate,Bf (Ib ht),hgo,DS hk,Instr.findKey,Bf hk,hi,hold,hkts,hso]
  .rw[qea];exact a1
  .intro x hx;rw[qea,qbs]at hx;obtain⟨q,hq⟩:=hx;rw[List.getElem?_modify]at hq
   cases hq2:es.toList[q]? with
   |none=>rw[hq2]at hq;simp at hq
   |some y =>
    rw[hq2]at hq;have hy:=hbn y (qac hq2)
    injection hq with hq
    subst hq;dsimp only
    split <;> exact hy
  .rw[qea]
   have:(es.toList.modify i fun e=>{ e with key := .int kk n,val:=v }).map (·.born)=es.toList.map (·.born):=by
    apply qb0;intro q;rw[qa1,qa1,List.getElem?_modify]
    cases es.toList[q]? with
    |none=>rfl
    |some y=>show some (Value.map none,(if i=q then _ else y).born).2=some y.born;split <;> rfl
   rw[this];exact hnd
theorem J2{t k el:TypeId}{kk:IntKind}{x y z:Operand}{b j:Nat}{o:Obj}{m:List (Int × Value)}{n:Int}(v:Value)(hg:AS ⟨dst,.mapUpdate t x y z,ty,pos,af,g⟩ ops e=true)(ht:Mf P t=some (k,el))(hk:P.underlying k=some (.int kk))(hx:ev e x=.map (some b))(hy:ev e y=.int kk n)(hv:ev e z=v)(H:Ctx w0 S w L)(hl:L[j]?=some (b,o))(hM:CY kk m o)(h:∀o' w',CY kk (Me m n v) o'->Ctx w0 S w' (L.set j (b,o'))->AG P r ops Q rest (put e dst undef) w'):AG P r ops Q (⟨dst,.mapUpdate t x y z,ty,pos,af,g⟩::rest) e w:=by
 obtain⟨o',w',hr,hM',H'⟩:=Qi (n:=n) v ht hk H hl hM;exact NQ hg U (by simp[execOp,hx,hy,hv,hr]) (h o' w' hM' H')
end
section
variable {P:Program}{r:Option Nat}{n:Nat}{Q:Exit->Env->World->Prop}{e:Env}{w:World}
theorem Db{x y:Code}(d:Tmp){b:Bool}(hd:e.g d=.bool b)(h1:b=true->W P r n x Q (put e (some d) (.bool true)) w)(h2:b=false->W P r n y Q (put e (some d) (.bool false)) w) :
  W P r n (.cond (.tmp d) x y) Q e w:=by
 refine An b hd (fun h=>?_) (fun h=>?_)
 .have h3:=h1 h;rw[HD (by rw[hd,h])]at h3;exact h3
 .have h3:=h2 h;rw[HD (by rw[hd,h])]at h3;exact h3
end
def Ds(P:Program)(t:TypeId):Option (List (Nat × Nat)) :=
 match P.underlying t with
 |some (.struct fs)=>fs.toList.mapM (fun f=>(P.info? f.type).map fun i=>(f.offset,i.size))
 |_=>none
section
variable {P:Program}{r:Option Nat}{ops rest:List Oper}{Q:Exit->Env->World->Prop}{e:Env}{w w0:World}{S:List Nat}{L:List (Nat × Obj)}{dst:Option Tmp}{ty:TypeId}{pos:String}{af:Array Edge}{g:Option (Nat × Bool)}
theorem OC{t:TypeId}{pl:List (Nat × Nat)}{zl:List Value}{ps:List (Nat × Value)}{l:Array Value}(hp:Ds P t=some pl)(hz:Cl P t=some zl)(hl:Instr.fill (fun i=>pl.toArray[i]?) zl.toArray ps=some l):P.built t ps=some l:=by
 unfold Ds at hp;unfold Cl at hz;unfold Program.built
 cases hu:P.underlying t with
 |none=>rw[hu]at hp;cases hp
 |some d =>
  rw[hu]at hp
  cases hi:P.info? t with
  |none=>rw[hi]at hz;cases hz
  |some it =>
   rw[hi]at hz
   cases hzz:it.zero with
   |none=>simp[hzz]at hz
   |some z =>
    simp only[qd1,hzz,qcu,qb5]at hz;subst hz
    cases d <;> first|(cases hp;done)|skip
    rename_i fields
    have hp':fields.toList.mapM (fun f=>(P.info? f.type).map fun i=>(f.offset,i.size))=some pl:=hp;simp only[hzz,hp']
    simpa using hl
theorem Bx{t:TypeId}{parts:Array (Nat × Operand)}{pl:List (Nat × Nat)}{zl:List Value}(l:List Value)(hp:Ds P t=some pl)(hz:Cl P t=some zl)(h:AG P r ops Q rest (put e dst (.agg l.toArray)) w)(hg:AS ⟨dst,.build t parts,ty,pos,af,g⟩ ops e=true:=by exact U)(hl:Instr.fill (fun i=>pl.toArray[i]?) zl.toArray (parts.toList.map fun p=>(p.1,ev e p.2))=some l.toArray:=by kernel_rfl):
  AG P r ops Q (⟨dst,.build t parts,ty,pos,af,g⟩::rest) e w:=by
 refine BK hg U ?_ h;have hb:P.built t (parts.map fun(i,x)=>(i,ev e x)).toList=some l.toArray:=OC hp hz (by rw[qcg];exact hl);simp[execOp,run_build w t _ _ hb]
theorem D0{t el:TypeId}{n:Nat}{parts:Array (Nat × Operand)}{s:Nat}{zl:List Value}(l:List Value)(hu:CL P t=some el)(hs:Ci P el=some s)(hz:Cl P el=some zl)(H:Ctx w0 S w L)(h:∀b w',w.heap.size=b->Ctx w0 S w' ((b,Bl el l)::L)->AG P r ops Q rest (put e dst (.slice (some ⟨b,0,none⟩) n n)) w')(hg:AS ⟨dst,.buildSlice t n parts,ty,pos,af,g⟩ ops e=true:=by exact U)(hn:¬n*s=0:=by decide)(hbig:¬16777216<n*s:=by decide)(hl:Instr.fill (fun i=>some (i*s,s)) ((Array.range (n*s)).map fun k=>zl.toArray[k % zl.toArray.size]!) (parts.toList.map fun p=>(p.1,ev e p.2))=some l.toArray:=by kernel_rfl):
  AG P r ops Q (⟨dst,.buildSlice t n parts,ty,pos,af,g⟩::rest) e w:=by
 obtain⟨z,hz1,hz2⟩:=GY hz w;have hzc:z.cells=zl.toArray:=by apply qb3;rw[hz2]
 refine BK (w':=w.alloc (Bl el l)) (v := .slice (some ⟨w.heap.size,0,none⟩) n n) hg U ?_ (h _ _ U (H.alloc _));have hf:Instr.fill (fun i=>some (i*s,s)) ((Array.range (n*s)).map fun k=>zl.toArray[k % zl.toArray.size]!) (parts.map fun(i,x)=>(i,ev e x)).toList=some l.toArray:=by rw[qcg];exact hl
 simp only[execOp,Instr.buildSlice,Sem.run_bind,Bf (CF hu),CH hs,Result.andThen_ok,if_neg hbig,if_neg hn,hz1,Sem.run_pure,hzc];rw[hf];simp[newRow,newObj,Sem.run];rfl
theorem Aen{fn:Func}{R:Value->World->Prop}{a:Tmp}{t:TypeId}{p:Addr}{v:Value}(hr:fn.results=#[.cell a t])(hd:e.ds=[])(ha:e.g a=.pointer (some p))(hv:(loadVar t p).run P w=.ok v w)(h:R v w):MQ P fn R .ret e w :=
 ⟨hd,fun tmps ht=>by
  have h1:=(ht a).trans ha;rw[qa2]at h1
  exact⟨v,by simp[results,hr,h1,asAddr,hv],h⟩⟩
theorem Mg{fn:Func}{R:Value->World->Prop}{a:Tmp}{t t2:TypeId}{b k s:Nat}{l:List Value}(hr:fn.results=#[.cell a t])(hd:e.ds=[])(ha:e.g a=.pointer (some ⟨b,0,none⟩))(hag:Dt P t=some true)(hs:Ci P t=some s)(H:Ctx w0 S w L)(hk:L[k]?=some (b,Bl t2 l))(hl:l.length=s)(h:R (.agg l.toArray) w):MQ P fn R .ret e w :=
 Aen hr hd ha (F5 hag hs hl (fun j v hv=>by rw[Aj (H.get hk),qa4];exact hv)) h
end
theorem OD{k:IntKind}(hk:k.signed=false)(a:Nat):k.wrap (a:Int)=((a % 2 ^ k.bits:Nat):Int):=by
 unfold IntKind.wrap;rw[hk];simp
theorem MW(n a:Nat):BitVec.ofInt n (a:Int)=BitVec.ofNat n a:=by
 apply BitVec.eq_of_toNat_eq;rw[BitVec.toNat_ofInt,BitVec.toNat_ofNat]
 norm_cast
theorem Zd{k:IntKind}(hk:k.signed=false){a b:Nat}(ha:a<2 ^ k.bits)(hb:b<2 ^ k.bits):Op.intBits .and k a b=pure (.int k ((a &&& b:Nat):Int)):=by
 have hx:a &&& b<2 ^ k.bits:=Nat.lt_of_le_of_lt Nat.and_le_left ha;simp only[Op.intBits,MW];rw[OD hk,BitVec.toNat_and,BitVec.toNat_ofNat,BitVec.toNat_ofNat,qcj ha,qcj hb,qcj hx]
theorem Ze{k:IntKind}(hk:k.signed=false){a b:Nat}(ha:a<2 ^ k.bits)(hb:b<2 ^ k.bits):Op.intBits .xor k a b=pure (.int k ((a ^^^ b:Nat):Int)):=by
 have hx:a ^^^ b<2 ^ k.bits:=Nat.xor_lt_two_pow ha hb;simp only[Op.intBits,MW];rw[OD hk,BitVec.toNat_xor,BitVec.toNat_ofNat,BitVec.toNat_ofNat,qcj ha,qcj hb,qcj hx]
theorem NR{k k2:IntKind}{a n:Nat}(hn:n<=k.bits):Op.shift .shr k (a:Int) k2 (n:Int)=pure (.int k ((a / 2 ^ n:Nat):Int)):=by
 unfold Op.shift;rw[if_neg (by omega)];have hm:min ((n:Int)).toNat k.bits=n:=by rw[qbe];exact qb7 hn
 simp only[hm]
 congr 2
 have:((2:Int) ^ n)=((2 ^ n:Nat):Int):=by norm_cast
 rw[this,Int.fdiv_eq_ediv_of_nonneg _ (Int.natCast_nonneg _)]
 norm_cast
theorem We{k k2:IntKind}(hk:k.signed=false){a n:Nat}(hn:n<=k.bits):Op.shift .shl k (a:Int) k2 (n:Int)=pure (.int k ((a*2 ^ n % 2 ^ k.bits:Nat):Int)):=by
 unfold Op.shift;rw[if_neg (by omega)];have hm:min ((n:Int)).toNat k.bits=n:=by rw[qbe];exact qb7 hn
 simp only[hm]
 congr 2
 have:(a:Int)*(2:Int) ^ n=((a*2 ^ n:Nat):Int):=by norm_cast
 rw[this,OD hk]
section
variable {P:Program}{r:Option Nat}{ops rest:List Oper}{Q:Exit->Env->World->Prop}{e:Env}{w w0:World}{S:List Nat}{L:List (Nat × Obj)}{dst:Option Tmp}{ty:TypeId}{pos:String}{af:Array Edge}{g:Option (Nat × Bool)}{C:World->Prop}{K:Env->Prop}{t t2:TypeId}{x y:Operand}{a b n:Nat}{s d:TypeId}
theorem J3(hg:AS ⟨dst,.binOp .and t x y t2,ty,pos,af,g⟩ ops e=true)(hx:ev e x=.int .u64 a)(hy:ev e y=.int .u64 b)(h:AG P r ops Q rest (put e dst (.int .u64 ((a &&& b:Nat):Int))) w)(ha:a<18446744073709551616:=by omega)(hb:b<18446744073709551616:=by omega):AG P r ops Q (⟨dst,.binOp .and t x y t2,ty,pos,af,g⟩::rest) e w :=
 BK hg rfl (Ce hx hy (by show(Op.intBits .and .u64 (a:Int) (b:Int)).run P w=_;rw[Zd rfl (by exact ha) (by exact hb)];rfl)) h
theorem MX(hg:AS ⟨dst,.binOp .xor t x y t2,ty,pos,af,g⟩ ops e=true)(hx:ev e x=.int .u64 a)(hy:ev e y=.int .u64 b)(ha:a<18446744073709551616)(hb:b<18446744073709551616)(h:Wq P ops C K rest (put e dst (.int .u64 ((a ^^^ b:Nat):Int)))):Wq P ops C K (⟨dst,.binOp .xor t x y t2,ty,pos,af,g⟩::rest) e :=
 Ex hg (fun w _=>Ce hx hy (by show(Op.intBits .xor .u64 (a:Int) (b:Int)).run P w=_;rw[Ze rfl (by exact ha) (by exact hb)];rfl)) h
theorem Fq{k2:IntKind}(hx:ev e x=.int .u64 a)(hy:ev e y=.int k2 n)(h:AG P r ops Q rest (put e dst (.int .u64 ((a / 2 ^ n:Nat):Int))) w)(hg:AS ⟨dst,.binOp .shr t x y t2,ty,pos,af,g⟩ ops e=true:=by exact U)(hn:n<=64:=by omega):AG P r ops Q (⟨dst,.binOp .shr t x y t2,ty,pos,af,g⟩::rest) e w :=
 BK hg rfl (Ce hx hy (by show(Op.shift .shr .u64 (a:Int) k2 (n:Int)).run P w=_;rw[NR (by exact hn)];rfl)) h
theorem X1(hg:AS ⟨dst,.binOp .shr t x y t2,ty,pos,af,g⟩ ops e=true){k2:IntKind}(hx:ev e x=.int .u64 a)(hy:ev e y=.int k2 n)(h:Wq P ops C K rest (put e dst (.int .u64 ((a / 2 ^ n:Nat):Int))))(hn:n<=64:=by decide):Wq P ops C K (⟨dst,.binOp .shr t x y t2,ty,pos,af,g⟩::rest) e :=
 Ex hg (fun w _=>Ce hx hy (by show(Op.shift .shr .u64 (a:Int) k2 (n:Int)).run P w=_;rw[NR (by exact hn)];rfl)) h
theorem UU(hg:AS ⟨dst,.binOp .shl t x y t2,ty,pos,af,g⟩ ops e=true){k2:IntKind}(hx:ev e x=.int .u64 a)(hy:ev e y=.int k2 n)(hn:n<=64)(h:AG P r ops Q rest (put e dst (.int .u64 ((a*2 ^ n % 18446744073709551616:Nat):Int))) w):AG P r ops Q (⟨dst,.binOp .shl t x y t2,ty,pos,af,g⟩::rest) e w :=
 BK hg rfl (Ce hx hy (by show(Op.shift .shl .u64 (a:Int) k2 (n:Int)).run P w=_;rw[We rfl (by exact hn)];rfl)) h
theorem Q0(hg:AS ⟨dst,.binOp .shl t x y t2,ty,pos,af,g⟩ ops e=true){k2:IntKind}(hx:ev e x=.int .u64 a)(hy:ev e y=.int k2 n)(h:Wq P ops C K rest (put e dst (.int .u64 ((a*2 ^ n % 18446744073709551616:Nat):Int))))(hn:n<=64:=by decide):Wq P ops C K (⟨dst,.binOp .shl t x y t2,ty,pos,af,g⟩::rest) e :=
 Ex hg (fun w _=>Ce hx hy (by show(Op.shift .shl .u64 (a:Int) k2 (n:Int)).run P w=_;rw[We rfl (by exact hn)];rfl)) h
end
section
variable {P:Program}{r:Option Nat}{ops rest:List Oper}{Q:Exit->Env->World->Prop}{e:Env}{w w0:World}{S:List Nat}{L:List (Nat × Obj)}{dst:Option Tmp}{ty:TypeId}{pos:String}{af:Array Edge}{g:Option (Nat × Bool)}{C:World->Prop}{K:Env->Prop}
theorem E8{o:Oper}{v:Value}(hg:AS o ops e=true)(hrun:∀w,lax o=true\/C w->(execOp (ev e) o).run P w=.ok (.value v) w)(h:Wt P ops C K rest (put e o.dst v)):Wt P ops C K (o::rest) e:=by
 unfold Wt;rw[if_pos hg];exact⟨v,hrun,h⟩
theorem Zf{o:Oper}{v:Value}(hl:lax o=false)(hg:AS o ops e=true)(hrun:∀w,C w->(execOp (ev e) o).run P w=.ok (.value v) w)(h:Wt P ops C K rest (put e o.dst v)):Wt P ops C K (o::rest) e :=
 E8 hg (fun w hw=>hrun w (hw.resolve_left (by rw[hl];simp))) h
theorem AR(h:K e):Wt P ops C K [] e:=h
section
variable {t t2:TypeId}{x y:Operand}{k:IntKind}{a b:Int}
theorem B3{t:TypeId}{x:Operand}{p:Addr}{v:Value}(ha:Dt P t=some false)(hx:ev e x=.pointer (some p))(hc:∀w,C w->w.cell? p=some v)(h:Wt P ops C K rest (put e dst v))(hg:AS ⟨dst,.load t x,ty,pos,af,g⟩ ops e=true:=by exact U):Wt P ops C K (⟨dst,.load t x,ty,pos,af,g⟩::rest) e :=
 Zf rfl hg (fun w hw=>by simp[execOp,hx,Instr.loadAt,Instr.sureAddr,Gg ha (hc w hw)]) h
theorem Lo{t t2:TypeId}{x:Operand}{b i k:Nat}{l:List Value}{v:Value}(ha:Dt P t=some false)(hx:ev e x=.pointer (some ⟨b,i,none⟩))(H:∀w,C w->Ctx w0 S w L)(hk:L[k]?=some (b,Bl t2 l))(hc:l[i]?=some v)(h:Wt P ops C K rest (put e dst v))(hg:AS ⟨dst,.load t x,ty,pos,af,g⟩ ops e=true:=by exact U):Wt P ops C K (⟨dst,.load t x,ty,pos,af,g⟩::rest) e :=
 B3 (hg:=hg) ha hx (fun w hw=>by rw[Aj ((H w hw).get hk)];exact hc) h
theorem Gh{t:TypeId}{x:Operand}{b o s:Nat}(l:List Value)(ha:Dt P t=some true)(hs:Ci P t=some s)(hx:ev e x=.pointer (some ⟨b,o,none⟩))(hl:l.length=s)(hc:∀w,C w->∀j v,l[j]?=some v->w.cell? ⟨b,o+j,none⟩=some v)(h:Wt P ops C K rest (put e dst (.agg l.toArray)))(hg:AS ⟨dst,.load t x,ty,pos,af,g⟩ ops e=true:=by exact U):Wt P ops C K (⟨dst,.load t x,ty,pos,af,g⟩::rest) e :=
 Zf rfl hg (fun w hw=>by simp[execOp,hx,Instr.loadAt,Instr.sureAddr,F5 ha hs hl (hc w hw)]) h
theorem t_geq(hg:AS ⟨dst,.binOp .geq t x y t2,ty,pos,af,g⟩ ops e=true)(hx:ev e x=.int k a)(hy:ev e y=.int k b)(h:Wt P ops C K rest (put e dst (.bool (decide (b<=a))))) :
  Wt P ops C K (⟨dst,.binOp .geq t x y t2,ty,pos,af,g⟩::rest) e:=E8 hg (fun w _=>Ce hx hy (by simp[binOp,Op.intCmp])) h
theorem Agz(hg:AS ⟨dst,.binOp .eql t x y t2,ty,pos,af,g⟩ ops e=true)(hx:ev e x=.int k a)(hy:ev e y=.int k b)(h:Wt P ops C K rest (put e dst (.bool (decide (a=b))))) :
  Wt P ops C K (⟨dst,.binOp .eql t x y t2,ty,pos,af,g⟩::rest) e :=
 E8 hg (fun w _=>Ce hx hy (v := .bool (decide (a=b))) (by simp[binOp,Op.intCmp];rfl)) h
theorem Zg(hg:AS ⟨dst,.binOp .neq t x y t2,ty,pos,af,g⟩ ops e=true)(hx:ev e x=.int k a)(hy:ev e y=.int k b)(h:Wt P ops C K rest (put e dst (.bool (!decide (a=b))))) :
  Wt P ops C K (⟨dst,.binOp .neq t x y t2,ty,pos,af,g⟩::rest) e :=
 E8 hg (fun w _=>Ce hx hy (v := .bool (!decide (a=b))) (by simp[binOp,Op.intCmp];rfl)) h
theorem Ag0(hg:AS ⟨dst,.binOp .rem t x y t2,ty,pos,af,g⟩ ops e=true)(hx:ev e x=.int k a)(hy:ev e y=.int k b)(h:Wt P ops C K rest (put e dst (.int k (a % b))))(h0:0<=a:=by omega)(hb:0<b:=by omega):Wt P ops C K (⟨dst,.binOp .rem t x y t2,ty,pos,af,g⟩::rest) e:=by
 refine E8 hg (fun w _=>Ce hx hy (v := .int k (a % b)) ?_) h;have h3:a.tmod b=a % b:=qd7 h0;simp[binOp,Op.intDiv,h3,show ¬b=0 from by omega]
theorem Ev(hx:ev e x=.int .i64 a)(hy:ev e y=.int .i64 b)(h:Wt P ops C K rest (put e dst (.int .i64 (a+b))))(hg:AS ⟨dst,.binOp .add t x y t2,ty,pos,af,g⟩ ops e=true:=by exact U)(h1: -9223372036854775808<=a+b:=by omega)(h2:a+b<=9223372036854775807:=by omega):Wt P ops C K (⟨dst,.binOp .add t x y t2,ty,pos,af,g⟩::rest) e:=E8 hg (fun w _=>Ce hx hy (by simp[binOp,Op.intArith,Dg (k := .i64) (n:=a+b) h1 h2])) h
theorem Ff(hx:ev e x=.int .i64 a)(hy:ev e y=.int .i64 b)(h:Wt P ops C K rest (put e dst (.int .i64 (a - b))))(hg:AS ⟨dst,.binOp .sub t x y t2,ty,pos,af,g⟩ ops e=true:=by exact U)(h1: -9223372036854775808<=a - b:=by omega)(h2:a - b<=9223372036854775807:=by omega):Wt P ops C K (⟨dst,.binOp .sub t x y t2,ty,pos,af,g⟩::rest) e:=E8 hg (fun w _=>Ce hx hy (by simp[binOp,Op.intArith,Dg (k := .i64) (n:=a - b) h1 h2])) h
theorem X3(hg:AS ⟨dst,.binOp .mul t x y t2,ty,pos,af,g⟩ ops e=true)(hx:ev e x=.int .i64 a)(hy:ev e y=.int .i64 b)(h:Wt P ops C K rest (put e dst (.int .i64 (a*b))))(h1: -9223372036854775808<=a*b:=by omega)(h2:a*b<=9223372036854775807:=by omega):Wt P ops C K (⟨dst,.binOp .mul t x y t2,ty,pos,af,g⟩::rest) e:=E8 hg (fun w _=>Ce hx hy (by simp[binOp,Op.intArith,Dg (k := .i64) (n:=a*b) h1 h2])) h
theorem X4(hg:AS ⟨dst,.unOp .neg t x,ty,pos,af,g⟩ ops e=true)(hx:ev e x=.int .i64 a)(h:Wt P ops C K rest (put e dst (.int .i64 (- a))))(h1: -9223372036854775808 <= - a:=by omega)(h2: - a<=9223372036854775807:=by omega):Wt P ops C K (⟨dst,.unOp .neg t x,ty,pos,af,g⟩::rest) e:=E8 hg (fun w _=>by simp[execOp,hx,Op.unary,Op.intArith,Dg (k := .i64) h1 h2]) h
theorem MY(hg:AS ⟨dst,.binOp .add t x y t2,ty,pos,af,g⟩ ops e=true)(hx:ev e x=.int .u64 a)(hy:ev e y=.int .u64 b)(h:Wt P ops C K rest (put e dst (.int .u64 (a+b))))(h1:0<=a+b:=by omega)(h2:a+b<=18446744073709551615:=by omega):Wt P ops C K (⟨dst,.binOp .add t x y t2,ty,pos,af,g⟩::rest) e:=E8 hg (fun w _=>Ce hx hy (by simp[binOp,Op.intArith,Dg (k := .u64) (n:=a+b) h1 h2])) h
theorem X5(hg:AS ⟨dst,.binOp .sub t x y t2,ty,pos,af,g⟩ ops e=true)(hx:ev e x=.int .u64 a)(hy:ev e y=.int .u64 b)(h:Wt P ops C K rest (put e dst (.int .u64 (a - b))))(h1:0<=a - b:=by omega)(h2:a - b<=18446744073709551615:=by omega):Wt P ops C K (⟨dst,.binOp .sub t x y t2,ty,pos,af,g⟩::rest) e:=E8 hg (fun w _=>Ce hx hy (by simp[binOp,Op.intArith,Dg (k := .u64) (n:=a - b) h1 h2])) h
theorem UV{s d:TypeId}{ds:TypeDesc}(hg:AS ⟨dst,.convert s d x,ty,pos,af,g⟩ ops e=true)(hx:ev e x=.int k a)(hs:P.underlying s=some ds)(hd:P.underlying d=some (.int .u64))(h:Wt P ops C K rest (put e dst (.int .u64 a)))(h1:0<=a:=by omega)(h2:a<=18446744073709551615:=by omega):Wt P ops C K (⟨dst,.convert s d x,ty,pos,af,g⟩::rest) e :=
 E8 hg (fun w _=>by simp[execOp,hx,convert,Bf hs,Bf hd,Conv.intToInt,Dg (k := .u64) (n:=a) h1 h2]) h
theorem OG{x:Operand}(hg:AS ⟨dst,.move x,ty,pos,af,g⟩ ops e=true)(v:Value)(hx:ev e x=v)(h:Wt P ops C K rest (put e dst v)) :
  Wt P ops C K (⟨dst,.move x,ty,pos,af,g⟩::rest) e:=E8 hg (fun w _=>by simp[execOp,hx]) h
theorem To{x:Operand}(hg:AS ⟨dst,.assign x,ty,pos,af,g⟩ ops e=true)(v:Value)(hx:ev e x=v)(h:Wt P ops C K rest (put e dst v)) :
  Wt P ops C K (⟨dst,.assign x,ty,pos,af,g⟩::rest) e:=E8 hg (fun w _=>by simp[execOp,hx]) h
theorem RY{c a b:Operand}(hg:AS ⟨dst,.pick c a b,ty,pos,af,g⟩ ops e=true)(hc:ev e c=.bool true)(v:Value)(hx:ev e a=v)(h:Wt P ops C K rest (put e dst v)) :
  Wt P ops C K (⟨dst,.pick c a b,ty,pos,af,g⟩::rest) e:=E8 hg (fun w _=>by simp[execOp,hc,hx,asBool]) h
theorem Aeo{c a b:Operand}(hg:AS ⟨dst,.pick c a b,ty,pos,af,g⟩ ops e=true)(hc:ev e c=.bool false)(v:Value)(hx:ev e b=v)(h:Wt P ops C K rest (put e dst v)) :
  Wt P ops C K (⟨dst,.pick c a b,ty,pos,af,g⟩::rest) e:=E8 hg (fun w _=>by simp[execOp,hc,hx,asBool]) h
theorem Ag1{t:TypeId}{x:Operand}{b:Bool}(hg:AS ⟨dst,.unOp .not t x,ty,pos,af,g⟩ ops e=true)(hx:ev e x=.bool b)(h:Wt P ops C K rest (put e dst (.bool (!b)))) :
  Wt P ops C K (⟨dst,.unOp .not t x,ty,pos,af,g⟩::rest) e:=E8 hg (fun w _=>by simp[execOp,hx,Op.unary]) h
theorem Bg{x:Operand}{p:Addr}(hx:ev e x=.pointer (some p))(h:Wt P ops C K rest (put e dst (.pointer (some p))))(hg:AS ⟨dst,.nilCheck x,ty,pos,af,g⟩ ops e=true:=by exact U):
  Wt P ops C K (⟨dst,.nilCheck x,ty,pos,af,g⟩::rest) e:=E8 hg (fun w _=>by simp[execOp,hx]) h
theorem AP{t el:TypeId}{x y:Operand}{b o n c s:Nat}{k:IntKind}{i:Int}(hu:CL P t=some el)(hs:Ci P el=some s)(hx:ev e x=.slice (some ⟨b,o,none⟩) n c)(hy:ev e y=.int k i)(h:Wt P ops C K rest (put e dst (.pointer (some ⟨b,o+i.toNat*s,none⟩))))(hg:AS ⟨dst,.indexAddr t x y,ty,pos,af,g⟩ ops e=true:=by exact U)(h0:0<=i:=by omega)(h1:i<n:=by omega):
  Wt P ops C K (⟨dst,.indexAddr t x y,ty,pos,af,g⟩::rest) e :=
 E8 hg (fun w _=>by simp[execOp,hx,hy,Instr.indexAt,asIntOf,Bf (CF hu),h0,h1,CH hs,CV]) h
theorem DI{t el:TypeId}{x y:Operand}{a:Option Addr}{n c s:Nat}{k:IntKind}{i:Int}{α:Type}{enc:α->List Value}{xs:List α}{w1:World}(R:Rd w1 a s enc xs)(hu:CL P t=some el)(hs:Ci P el=some s)(hx:ev e x=.slice a n c)(hy:ev e y=.int k i)(h:Wt P ops C K rest (put e dst (.pointer (some ⟨(adr a).block,(adr a).off+i.toNat*s,none⟩))))(hg:AS ⟨dst,.indexAddr t x y,ty,pos,af,g⟩ ops e=true:=by exact U)(h0:0<=i:=by omega)(h1:i<n:=by omega)(hn:n=xs.length:=by omega):
  Wt P ops C K (⟨dst,.indexAddr t x y,ty,pos,af,g⟩::rest) e:=by
 obtain⟨b,o,rfl⟩:=R.some' (by rintro rfl;simp at hn;omega);exact AP (hg:=hg) hu hs hx hy (h0:=h0) (h1:=h1) h
theorem OH{t el:TypeId}{x y:Operand}{b o n s:Nat}{k:IntKind}{i:Int}(hg:AS ⟨dst,.indexAddr t x y,ty,pos,af,g⟩ ops e=true)(hu:Ti P t=some (n,el))(hs:Ci P el=some s)(hx:ev e x=.pointer (some ⟨b,o,none⟩))(hy:ev e y=.int k i)(h:Wt P ops C K rest (put e dst (.pointer (some ⟨b,o+i.toNat*s,none⟩))))(h0:0<=i:=by omega)(h1:i<n:=by omega):
  Wt P ops C K (⟨dst,.indexAddr t x y,ty,pos,af,g⟩::rest) e :=
 E8 hg (fun w _=>by simp[execOp,hx,hy,Instr.indexAt,asIntOf,Bf (UP hu),Instr.sureAddr,h0,h1,CH hs,CV]) h
theorem Zh{t:TypeId}{x:Operand}{a:Option Addr}{n c:Nat}{el:TypeId}(hg:AS ⟨dst,.call ⟨.builtin .len,#[x],#[t]⟩,ty,pos,af,g⟩ ops e=true)(hu:CL P t=some el)(hx:ev e x=.slice a n c)(h:Wt P ops C K rest (put e dst (.int .i64 n))) :
  Wt P ops C K (⟨dst,.call ⟨.builtin .len,#[x],#[t]⟩,ty,pos,af,g⟩::rest) e :=
 E8 hg (fun w _=>by simp[execOp,resolve,invoke,builtin,hx,Builtin.len_,Bf (CF hu),goInt]) h
theorem Zi{t1 t2:TypeId}{x y:Operand}{k:IntKind}{a b:Int}(hg:AS ⟨dst,.call ⟨.builtin .min,#[x,y],#[t1,t2]⟩,ty,pos,af,g⟩ ops e=true)(hx:ev e x=.int k a)(hy:ev e y=.int k b)(h:Wt P ops C K rest (put e dst (.int k (min a b)))) :
  Wt P ops C K (⟨dst,.call ⟨.builtin .min,#[x,y],#[t1,t2]⟩,ty,pos,af,g⟩::rest) e :=
 E8 hg (fun w _=>by
  have:(if b<a then b else a)=min a b:=by rw[Int.min_def];split <;> split <;> omega
  simp[execOp,resolve,invoke,builtin,hx,hy,Builtin.min_,Builtin.min2,this]) h
theorem Ah3{t1 t2:TypeId}{x y:Operand}{k:IntKind}{a b:Int}(hg:AS ⟨dst,.call ⟨.builtin .max,#[x,y],#[t1,t2]⟩,ty,pos,af,g⟩ ops e=true)(hx:ev e x=.int k a)(hy:ev e y=.int k b)(h:Wt P ops C K rest (put e dst (.int k (max a b)))) :
  Wt P ops C K (⟨dst,.call ⟨.builtin .max,#[x,y],#[t1,t2]⟩,ty,pos,af,g⟩::rest) e :=
 E8 hg (fun w _=>by
  have:(if a<b then b else a)=max a b:=by rw[Int.max_def];split <;> split <;> omega
  simp[execOp,resolve,invoke,builtin,hx,hy,Builtin.max_,Builtin.max2,this]) h
theorem Bv{x:Operand}{i:Nat}{vs:Array Value}{v:Value}(hx:ev e x=.tuple vs)(hv:vs[i]?=some v)(h:Wt P ops C K rest (put e dst v))(hg:AS ⟨dst,.extract x i,ty,pos,af,g⟩ ops e=true:=by exact U):
  Wt P ops C K (⟨dst,.extract x i,ty,pos,af,g⟩::rest) e :=
 E8 hg (fun w _=>by simp[execOp,hx,Instr.extract,hv]) h
theorem Ap{t:TypeId}{x:Operand}{i b o off:Nat}(hf:BJ P t i=some off)(hx:ev e x=.pointer (some ⟨b,o,none⟩))(h:Wt P ops C K rest (put e dst (.pointer (some ⟨b,o+off,none⟩))))(hg:AS ⟨dst,.fieldAddr t x i,ty,pos,af,g⟩ ops e=true:=by exact U):
  Wt P ops C K (⟨dst,.fieldAddr t x i,ty,pos,af,g⟩::rest) e:=by
 unfold BJ at hf
 split at hf
 .rename_i fs hu
  split at hf
  .rename_i f hf1
   split at hf
   .rename_i s hs
    injection hf with hf
    subst hf;exact E8 hg (fun w _=>by simp[execOp,hx,Instr.fieldAt,Bf hu,hf1,Instr.sureAddr,fieldPlace,CH hs,CV]) h
   .cases hf
  .cases hf
 .cases hf
end
section
variable {t t2:TypeId}{x y:Operand}{a b n:Nat}{s d:TypeId}
end
end
section
variable {P:Program}{r:Option Nat}{ops rest:List Oper}{Q:Exit->Env->World->Prop}{e:Env}{w:World}{C:World->Prop}{K:Env->Prop}{dst:Option Tmp}{ty:TypeId}{pos:String}{af:Array Edge}{g:Option (Nat × Bool)}{x:Operand}
theorem Af{k:IntKind}{i:Int}(hx:ev e x=(.int k i))(h:AG P r ops Q rest (put e dst (.int k i)) w)(hg:AS ⟨dst,.move x,ty,pos,af,g⟩ ops e=true:=by exact U):AG P r ops Q (⟨dst,.move x,ty,pos,af,g⟩::rest) e w:=CU (hg:=hg) (.int k i) hx h
theorem AX{k:IntKind}{i:Int}(hx:ev e x=(.int k i))(h:Wq P ops C K rest (put e dst (.int k i)))(hg:AS ⟨dst,.move x,ty,pos,af,g⟩ ops e=true:=by exact U):Wq P ops C K (⟨dst,.move x,ty,pos,af,g⟩::rest) e:=MV hg (.int k i) hx h
theorem Bd{k:IntKind}{i:Int}(hx:ev e x=(.int k i))(h:Wt P ops C K rest (put e dst (.int k i)))(hg:AS ⟨dst,.move x,ty,pos,af,g⟩ ops e=true:=by exact U):Wt P ops C K (⟨dst,.move x,ty,pos,af,g⟩::rest) e:=OG hg (.int k i) hx h
theorem Aw{b:Bool}(hx:ev e x=(.bool b))(h:AG P r ops Q rest (put e dst (.bool b)) w)(hg:AS ⟨dst,.move x,ty,pos,af,g⟩ ops e=true:=by exact U):AG P r ops Q (⟨dst,.move x,ty,pos,af,g⟩::rest) e w:=CU (hg:=hg) (.bool b) hx h
theorem CZ{b:Bool}(hx:ev e x=(.bool b))(h:Wq P ops C K rest (put e dst (.bool b)))(hg:AS ⟨dst,.move x,ty,pos,af,g⟩ ops e=true:=by exact U):Wq P ops C K (⟨dst,.move x,ty,pos,af,g⟩::rest) e:=MV hg (.bool b) hx h
theorem J4{b:Bool}(hx:ev e x=(.bool b))(h:Wt P ops C K rest (put e dst (.bool b)))(hg:AS ⟨dst,.move x,ty,pos,af,g⟩ ops e=true:=by exact U):Wt P ops C K (⟨dst,.move x,ty,pos,af,g⟩::rest) e:=OG hg (.bool b) hx h
theorem A2{a:Option Addr}{n c:Nat}(hx:ev e x=(.slice a n c))(h:AG P r ops Q rest (put e dst (.slice a n c)) w)(hg:AS ⟨dst,.move x,ty,pos,af,g⟩ ops e=true:=by exact U):AG P r ops Q (⟨dst,.move x,ty,pos,af,g⟩::rest) e w:=CU (hg:=hg) (.slice a n c) hx h
theorem Cm{a:Option Addr}{n c:Nat}(hx:ev e x=(.slice a n c))(h:Wq P ops C K rest (put e dst (.slice a n c)))(hg:AS ⟨dst,.move x,ty,pos,af,g⟩ ops e=true:=by exact U):Wq P ops C K (⟨dst,.move x,ty,pos,af,g⟩::rest) e:=MV hg (.slice a n c) hx h
theorem B4{a:Option Addr}{n c:Nat}(hx:ev e x=(.slice a n c))(h:Wt P ops C K rest (put e dst (.slice a n c)))(hg:AS ⟨dst,.move x,ty,pos,af,g⟩ ops e=true:=by exact U):Wt P ops C K (⟨dst,.move x,ty,pos,af,g⟩::rest) e:=OG hg (.slice a n c) hx h
theorem Ax{p:Option Addr}(hx:ev e x=(.pointer p))(h:AG P r ops Q rest (put e dst (.pointer p)) w)(hg:AS ⟨dst,.move x,ty,pos,af,g⟩ ops e=true:=by exact U):AG P r ops Q (⟨dst,.move x,ty,pos,af,g⟩::rest) e w:=CU (hg:=hg) (.pointer p) hx h
theorem B6{p:Option Addr}(hx:ev e x=(.pointer p))(h:Wq P ops C K rest (put e dst (.pointer p)))(hg:AS ⟨dst,.move x,ty,pos,af,g⟩ ops e=true:=by exact U):Wq P ops C K (⟨dst,.move x,ty,pos,af,g⟩::rest) e:=MV hg (.pointer p) hx h
theorem BF{p:Option Addr}(hx:ev e x=(.pointer p))(h:Wt P ops C K rest (put e dst (.pointer p)))(hg:AS ⟨dst,.move x,ty,pos,af,g⟩ ops e=true:=by exact U):Wt P ops C K (⟨dst,.move x,ty,pos,af,g⟩::rest) e:=OG hg (.pointer p) hx h
theorem Cb{l:Array Value}(hx:ev e x=(.tuple l))(h:AG P r ops Q rest (put e dst (.tuple l)) w)(hg:AS ⟨dst,.move x,ty,pos,af,g⟩ ops e=true:=by exact U):AG P r ops Q (⟨dst,.move x,ty,pos,af,g⟩::rest) e w:=CU (hg:=hg) (.tuple l) hx h
theorem DK{l:Array Value}(hx:ev e x=(.tuple l))(h:Wt P ops C K rest (put e dst (.tuple l)))(hg:AS ⟨dst,.move x,ty,pos,af,g⟩ ops e=true:=by exact U):Wt P ops C K (⟨dst,.move x,ty,pos,af,g⟩::rest) e:=OG hg (.tuple l) hx h
theorem Ae{k:IntKind}{i:Int}(hx:ev e x=(.int k i))(h:AG P r ops Q rest (put e dst (.int k i)) w)(hg:AS ⟨dst,.assign x,ty,pos,af,g⟩ ops e=true:=by exact U):AG P r ops Q (⟨dst,.assign x,ty,pos,af,g⟩::rest) e w:=CX hg (.int k i) hx h
theorem Dp{k:IntKind}{i:Int}(hx:ev e x=(.int k i))(h:Wq P ops C K rest (put e dst (.int k i)))(hg:AS ⟨dst,.assign x,ty,pos,af,g⟩ ops e=true:=by exact U):Wq P ops C K (⟨dst,.assign x,ty,pos,af,g⟩::rest) e:=Oz hg (.int k i) hx h
theorem KS{k:IntKind}{i:Int}(hg:AS ⟨dst,.assign x,ty,pos,af,g⟩ ops e=true)(hx:ev e x=(.int k i))(h:Wt P ops C K rest (put e dst (.int k i))):Wt P ops C K (⟨dst,.assign x,ty,pos,af,g⟩::rest) e:=To hg (.int k i) hx h
theorem Ai{b:Bool}(hx:ev e x=(.bool b))(h:AG P r ops Q rest (put e dst (.bool b)) w)(hg:AS ⟨dst,.assign x,ty,pos,af,g⟩ ops e=true:=by exact U):AG P r ops Q (⟨dst,.assign x,ty,pos,af,g⟩::rest) e w:=CX hg (.bool b) hx h
theorem MZ{b:Bool}(hg:AS ⟨dst,.assign x,ty,pos,af,g⟩ ops e=true)(hx:ev e x=(.bool b))(h:Wq P ops C K rest (put e dst (.bool b))):Wq P ops C K (⟨dst,.assign x,ty,pos,af,g⟩::rest) e:=Oz hg (.bool b) hx h
theorem A4{a:Option Addr}{n c:Nat}(hx:ev e x=(.slice a n c))(h:AG P r ops Q rest (put e dst (.slice a n c)) w)(hg:AS ⟨dst,.assign x,ty,pos,af,g⟩ ops e=true:=by exact U):AG P r ops Q (⟨dst,.assign x,ty,pos,af,g⟩::rest) e w:=CX hg (.slice a n c) hx h
theorem Q1{a:Option Addr}{n c:Nat}(hg:AS ⟨dst,.assign x,ty,pos,af,g⟩ ops e=true)(hx:ev e x=(.slice a n c))(h:Wq P ops C K rest (put e dst (.slice a n c))):Wq P ops C K (⟨dst,.assign x,ty,pos,af,g⟩::rest) e:=Oz hg (.slice a n c) hx h
theorem Ea{a:Option Addr}{n c:Nat}(hx:ev e x=(.slice a n c))(h:Wt P ops C K rest (put e dst (.slice a n c)))(hg:AS ⟨dst,.assign x,ty,pos,af,g⟩ ops e=true:=by exact U):Wt P ops C K (⟨dst,.assign x,ty,pos,af,g⟩::rest) e:=To hg (.slice a n c) hx h
theorem B1{p:Option Addr}(hx:ev e x=(.pointer p))(h:AG P r ops Q rest (put e dst (.pointer p)) w)(hg:AS ⟨dst,.assign x,ty,pos,af,g⟩ ops e=true:=by exact U):AG P r ops Q (⟨dst,.assign x,ty,pos,af,g⟩::rest) e w:=CX hg (.pointer p) hx h
end
def bv(b:UInt8):Value := .int .u8 (b.toNat:Int)
def B8(b:UInt8):List Value:=[bv b]
def str(l:List UInt8):Value := .string ⟨l.toArray⟩
section
variable {P:Program}{r:Option Nat}{ops rest:List Oper}{Q:Exit->Env->World->Prop}{e:Env}{w w0:World}{S:List Nat}{L:List (Nat × Obj)}{dst:Option Tmp}{ty:TypeId}{pos:String}{af:Array Edge}{g:Option (Nat × Bool)}{C:World->Prop}{K:Env->Prop}
theorem Ah4(l:List UInt8)(n:Nat):(⟨l.toArray⟩:ByteArray)[n]?=l[n]? := by
 by_cases h:n<l.length
 .rw[qbz h,getElem?_pos (⟨l.toArray⟩:ByteArray) n (by simpa[ByteArray.size]using h)];rfl
 .rw[qa9 (by omega),getElem?_neg (⟨l.toArray⟩:ByteArray) n (by simpa[ByteArray.size]using h)]
theorem X6{t:TypeId}{x y:Operand}{k:IntKind}{i:Int}{l:List UInt8}(b:UInt8)(hg:AS ⟨dst,.index t x y,ty,pos,af,g⟩ ops e=true)(hu:P.underlying t=some .string)(hy:ev e y=.int k i)(hb:l[i.toNat]?=some b)(h:AG P r ops Q rest (put e dst (bv b)) w)(hx:ev e x=str l:=by kernel_rfl)(h0:0<=i:=by omega):AG P r ops Q (⟨dst,.index t x y,ty,pos,af,g⟩::rest) e w :=
 BK hg rfl (by simp[execOp,Instr.index,hx,hy,str,asIntOf,Bf hu,h0,Ah4,hb,bv]) h
theorem Zj:∀(A B C M:List Value),B.length=M.length->over (A++(B++C)) A.length M=A++(M++C):=by
 intro A B C M
 induction M generalizing A B with
 |nil=>intro h;have:B=[]:=qbt (by simpa using h);subst this;simp[over]
 |cons v M ih =>
  intro h
  cases B with
  |nil=>simp at h
  |cons x B =>
   have:=ih (A++[v]) B (by simpa using h);simp only[over];rw[show(A++(x::B++C)).set A.length v=A++[v]++(B++C)from by simp];rw[show A.length+1=(A++[v]).length from by simp,this];simp
end
section
variable {P:Program}{r:Option Nat}{ops rest:List Oper}{Q:Exit->Env->World->Prop}{e:Env}{w w0:World}{S:List Nat}{L:List (Nat × Obj)}{dst:Option Tmp}{ty:TypeId}{pos:String}{af:Array Edge}{g:Option (Nat × Bool)}
theorem Aep{t t2:TypeId}{x y:Operand}{k:IntKind}{a b:Int}(hg:AS ⟨dst,.binOp .rem t x y t2,ty,pos,af,g⟩ ops e=true)(hx:ev e x=.int k a)(hy:ev e y=.int k b)(h:AG P r ops Q rest (put e dst (.int k (a.tmod b))) w)(hb:0<b:=by decide):AG P r ops Q (⟨dst,.binOp .rem t x y t2,ty,pos,af,g⟩::rest) e w :=
 BK hg rfl (Ce hx hy (v := .int k (a.tmod b)) (by simp[binOp,Op.intDiv,show ¬b=0 from by omega])) h
end
section
variable {P:Program}{r:Option Nat}{ops rest:List Oper}{Q:Exit->Env->World->Prop}{e:Env}{w w0:World}{S:List Nat}{L:List (Nat × Obj)}{dst:Option Tmp}{ty:TypeId}{pos:String}{af:Array Edge}{g:Option (Nat × Bool)}{n:Nat}
theorem FS{α:Type}{x:Code}{K:Env->World->Prop}(D:Nat)(live:α->List (Nat × Value))(I:α->World->Prop)(hD:G7 D x=true)(h:W P r n x (Gd (fun e' w'=>∃z,e'.ds=e.ds/\Nw e' (live z)/\I z w') Q) e w)(hk:∀z j w',I z w'->K (UG (Xv e D j) (live z)) w'):W P r n x (Gd K Q) e w:=by
 refine ED x (Ly (S:=Same D e) ?_) (GN x _ e w hD (Same.refl _ _) h);rintro e' w' hs ⟨z,hd,hl,hI⟩;have:=hk z e'.g w' hI;rw[<-hs.eq hd,Oe hl]at this;exact this
def Ah5(l:Nat)(R:Value->World->Prop):Exit->Env->World->Prop
 | .normal,_,w=>∃lo,w.heap[l]?=some (.loop lo)/\R (.bool true) (w.putObj l (.loop { lo with state := .ready,pending:=none }))
 | .ret,_,w=>∃lo,w.heap[l]?=some (.loop lo)/\R (.bool false) (w.putObj l (.loop { lo with state := .done,pending:=some .ret }))
 | .exit id,_,w=>∃lo,w.heap[l]?=some (.loop lo)/\R (.bool false) (w.putObj l (.loop { lo with state := .done,pending:=some (.exit id) }))
 | .goto t,_,w=>∃lo,w.heap[l]?=some (.loop lo)/\R (.bool false) (w.putObj l (.loop { lo with state := .done,pending:=some (.goto t) }))
 |_,_,_=>False
def Ah6(P:Program)(l n:Nat)(body:Code)(R:Value->World->Prop):Exit->Env->World->Prop
 | .normal,e,w=>∃lo,w.heap[l]?=some (.loop lo)/\lo.state=.ready/\W P (some l) n body (Ah5 l R) e (w.putObj l (.loop { lo with state := .busy }))
 |_,_,_=>False
theorem L9{l f:Nat}{tmps:Array Value}{assign body:Code}{R:Value->World->Prop}(e0:Env)(hs:Sim n e0 { tmps:=tmps,defers:=[] })(hfit:(I6 n assign && I6 n body)=true)(h:W P (some l) n assign (Ah6 P l n body R) e0 w):RoundIn Fence.wide 0 P l f tmps assign body w fun x w'=>∃v,x=.returned v/\R v w':=by
 simp only[qaf]at hfit;refine roundIn_of_wpIn trivial ?_;have h1:=Gt (r:=some l) assign _ e0 w h hfit.1 _ hs;refine wpIn_mono (F:=Fr (some l)) h1 ?_;rintro x a w1 ⟨e1,hs1,hq⟩
 cases x with
 |normal =>
  obtain⟨lo,hl,hst,hb⟩:=hq;refine⟨_,run_beginRound hl hst,?_⟩;refine wpIn_mono (F:=Fr (some l)) (Gt (r:=some l) body _ e1 _ hb hfit.2 _ hs1) ?_;rintro y a2 w2 ⟨e2,_,hq2⟩
  cases y with
  |normal=>obtain⟨lo2,hl2,hR⟩:=hq2;exact⟨_,_,run_endRound none hl2,_,rfl,hR⟩
  |ret=>obtain⟨lo2,hl2,hR⟩:=hq2;exact⟨_,_,run_endRound (some .ret) hl2,_,rfl,hR⟩
  |exit id=>obtain⟨lo2,hl2,hR⟩:=hq2;exact⟨_,_,run_endRound (some (.exit id)) hl2,_,rfl,hR⟩
  |goto t=>obtain⟨lo2,hl2,hR⟩:=hq2;exact⟨_,_,run_endRound (some (.goto t)) hl2,_,rfl,hR⟩
  |panic c=>exact hq2.elim
  |outgrown=>exact hq2.elim
 |exit id=>exact hq.elim
 |goto t=>exact hq.elim
 |ret=>exact hq.elim
 |panic c=>exact hq.elim
 |outgrown=>exact hq.elim
def YieldAt(P:Program)(l:Nat)(vs:List Value)(w:World)(R:Value->World->Prop):Prop :=
 ∃fn tmps assign body,(Instr.yield l vs.toArray).run P w=.ok (.round l fn tmps assign body) w/\RoundIn Fence.wide 0 P l fn tmps assign body w fun x w'=>∃v,x=.returned v/\R v w'
theorem YieldAt.mono{l:Nat}{vs:List Value}{R R':Value->World->Prop}(h:YieldAt P l vs w R)(hr:∀v w',R v w'->R' v w'):YieldAt P l vs w R' :=
 let ⟨fn,tmps,assign,body,h1,h2⟩:=h
 ⟨fn,tmps,assign,body,h1,RoundIn.mono h2 fun _ _ ⟨v,hx,hR⟩=>⟨v,hx,hr _ _ hR⟩⟩
theorem Hb{fo:Operand}{l:Nat}{args:Array Operand}{ats:Array TypeId}{vs:List Value}{R:Value->World->Prop}(hfo:ev e fo=.func (.yield l) #[] #[])(hy:YieldAt P l vs w R)(ha:args.toList.map (ev e)=vs)(h:∀v w',R v w'->AG P r ops Q rest (put e dst v) w')(hg:AS ⟨dst,.call ⟨.value fo,args,ats⟩,ty,pos,af,g⟩ ops e=true:=by exact U):
  AG P r ops Q (⟨dst,.call ⟨.value fo,args,ats⟩,ty,pos,af,g⟩::rest) e w:=by
 obtain⟨fn,tmps,assign,body,hy,hr⟩:=hy;have hav:args.map (ev e)=vs.toArray:=by subst ha;apply qb3;simp only[qcg]
 unfold AG;rw[if_pos hg,Oper.semAt_eq r _ _ (JY rfl)]
 have hrun:(execOp (ev e) ⟨dst,.call ⟨.value fo,args,ats⟩,ty,pos,af,g⟩).run P w=.ok (.round l fn tmps assign body) w:=by
  simp[execOp,resolve,hfo,Deferred.ofValue,invoke,hav,hy]
 rw[hrun];exact RoundIn.mono hr fun _ _ ⟨v,hx,hR⟩=>⟨v,hx,h _ _ hR⟩
theorem OI{l:Nat}{vs:List Value}{lo:Loop}{R:Value->World->Prop}(hl:w.heap[l]?=some (.loop lo))(hs:vs.length=lo.params.size)(hr:RoundIn Fence.wide 0 P l lo.fn ((lo.params.zip vs.toArray).foldl (fun tmps (t,a)=>tmps.setIfInBounds t a) lo.tmps) lo.assign lo.body w fun x w'=>∃v,x=.returned v/\R v w'):YieldAt P l vs w R :=
 ⟨_,_,_,_,run_yield hl (by simpa using hs),hr⟩
theorem Kf{f:Operand}{ps:Array Tmp}{assign body:Code}{gf:Nat}{ca:Array Value}(hf:ev e f=.func (.func gf) #[] ca)(hc:Au P gf=true)(h:∀fn tmps,tmps.size=n->(∀i,tmps.getD i undef=e.g i)->∀D l w2,D=w.heap.size->l=w.heap.size+1->Ext [] w w2->w2.heap[D]?=some (.deferred (some [])) ->
   w2.heap[l]?=some (.loop { state := .ready,pending:=none,fn,tmps,params:=ps,assign,body,defers:=D }) ->
   Ret P gf (#[.func (.yield l) #[] #[]]++ca) w2 fun _ w3=>∃lo,w3.heap[l]?=some (.loop lo)/\lo.state ≠ .busy /\
    MP Q ⟨e.g,{ target := .collected D,args:=#[] }::e.ds⟩ (w3.putObj l (.loop { lo with state := .exhausted })) lo.pending):W P none n (.rangeFunc f ps assign body) Q e w:=by
 refine⟨_,rfl,fun fn tmps hn ht=>?_⟩;have hx1:=Ext.alloc ([]:List Nat) w (.deferred (some []));have hx2:=Ext.alloc ([]:List Nat) (w.alloc (.deferred (some []))) (.loop { state := .ready,pending:=none,fn,tmps,params:=ps,assign,body,defers:=w.heap.size });have hD:(w.alloc (.deferred (some []))).heap[w.heap.size]?=some (.deferred (some [])):=World.alloc_heap_new w _
 have h1:=h fn tmps hn ht w.heap.size (w.heap.size+1) _ rfl rfl (hx1.trans hx2) (by rw[hx2.block w.heap.size (by simp) (by simp)];exact hD)
  (by have:=World.alloc_heap_new (w.alloc (.deferred (some []))) (.loop { state := .ready,pending:=none,fn,tmps,params:=ps,assign,body,defers:=w.heap.size });rwa [World.size_alloc]at this)
 refine⟨gf,#[],ca,hf,?_,?_⟩
 .exact H6 hc _ _
 .have hsz:(I9 none w).heap.size=w.heap.size+1:=by simp[I9]
  simp only[hsz];have harr:#[]++#[Value.func (.yield (w.heap.size+1)) #[] #[]]++ca=#[Value.func (.yield (w.heap.size+1)) #[] #[]]++ca:=by simp
  rw[harr];exact h1
def Marks:List Deferred->World->(World->Prop)->Prop
 | [],w,K=>K w
 |d::ds,w,K=>∃D,d.target=.collected D/\w.heap[D]?=some (.deferred (some []))/\Marks ds (w.putObj D (.deferred none)) K
def Tp(P:Program)(fn:Func)(R:Value->World->Prop):Exit->Env->World->Prop
 | .normal,e,w | .ret,e,w=>Marks e.ds w fun w'=>∀tmps:Array Value,(∀i,tmps.getD i undef=e.g i)->∃v,(results fn tmps).run P w'=.ok v w'/\R v w'
 |_,_,_=>False
theorem Mi{fn:Func}{R:Value->World->Prop}{tmps:Array Value}:∀{ds:List Deferred} {w:World},(Marks ds w fun w'=>∃v,(results fn tmps).run P w'=.ok v w'/\R v w') ->
  LeavesInM Fence.wide 0 P fn tmps (fun x w'=>∃v,x=.returned v/\R v w') ds .returning w
 | [],w,⟨v,h1,h2⟩=>⟨v,h1,v,rfl,h2⟩
 |d::ds,w,⟨D,h1,h2,h3⟩=>⟨by simp,.inl ⟨D,_,h1,run_takeDeferred h2,Mi h3⟩⟩
theorem Marks.mono:∀{ds:List Deferred} {w:World} {K K':World->Prop},(∀w,K w->K' w)->Marks ds w K->Marks ds w K'
 | [],_,_,_,h,hk=>h _ hk
 |_::_,_,_,_,h,⟨D,h1,h2,h3⟩=>⟨D,h1,h2,Marks.mono h h3⟩
theorem HU{f:FuncId}{fn:Func}{c:Code}{args:Array Value}{R:Value->World->Prop}(hf:P.funcs[f]?=some fn)(hb:fn.body=some c)(l:List Value)(hargs:args=l.toArray)(h:W P none fn.ntmps c (Tp P fn R) ⟨fun i=>l.getD i undef,[]⟩ w)(hfit:(Nat.ble l.length fn.ntmps && I6 fn.ntmps c)=true:=by kernel_rfl):Ret P f args w R:=by
 simp only[qaf]at hfit;refine callsIn_of_wp_marks hf hb trivial (wpIn_mono (Gt (r:=none) c _ _ w h hfit.2 _ ?_) ?_)
 .refine⟨rfl,?_,fun i=>?_⟩
  .subst hargs;have:=qdn hfit.1;simp;omega
  .subst hargs;simp only[qa2,qbk];rw[Array.getElem?_append]
   by_cases hi:i<l.length
   .simp[hi]
   .simp only[List.size_toArray,if_neg hi];rw[qa9 (by omega)];rw[Array.getElem?_replicate]
    split <;> rfl
 .rintro x a' w' ⟨e',hs',hq⟩
  have hgo:∀w',(Marks e'.ds w' fun w'=>∀tmps:Array Value,(∀i,tmps.getD i undef=e'.g i)->∃v,(results fn tmps).run P w'=.ok v w'/\R v w') ->
    LeavesInM Fence.wide 0 P fn a'.tmps (fun x w'=>∃v,x=.returned v/\R v w') a'.defers .returning w':=fun w' hm=>by
   rw[hs'.1];exact Mi (Marks.mono (fun w hk=>hk _ hs'.2.2) hm)
  cases x with
  |normal=>exact hgo _ hq
  |ret=>exact hgo _ hq
  |exit id=>exact hq.elim
  |goto l=>exact hq.elim
  |panic c=>exact hq.elim
  |outgrown=>exact hq.elim
theorem Mj{fn:Func}{R:Value->World->Prop}{t:Tmp}{v:Value}(hr:fn.results=#[.tmp t])(hv:e.g t=v)(h:Marks e.ds w (R v)):Tp P fn R .ret e w :=
 Marks.mono (fun w h tmps ht=>by
  have h1:=(ht t).trans hv;rw[qa2]at h1
  exact⟨v,by simp[results,hr,h1],h⟩) h
end
section
variable {P:Program}{e:Env}{w w0:World}{S:List Nat}{L:List (Nat × Obj)}{fn:Func}{R:Value->World->Prop}
theorem Aeq{a s2:Tmp}{t:TypeId}{p:Addr}{v v2:Value}(hr:fn.results=#[.cell a t,.tmp s2])(hd:e.ds=[])(ha:e.g a=.pointer (some p))(hv:(loadVar t p).run P w=.ok v w)(h2:e.g s2=v2)(h:R (.tuple #[v,v2]) w):MQ P fn R .ret e w :=
 ⟨hd,fun tmps ht=>by
  have h1:=(ht a).trans ha;have g2:=(ht s2).trans h2;rw[qa2]at h1 g2
  exact⟨.tuple #[v,v2],by simp[results,hr,h1,g2,asAddr,hv],h⟩⟩
theorem Aer{a s2 s3:Tmp}{t:TypeId}{p:Addr}{v v2 v3:Value}(hr:fn.results=#[.cell a t,.tmp s2,.tmp s3])(hd:e.ds=[])(ha:e.g a=.pointer (some p))(hv:(loadVar t p).run P w=.ok v w)(h2:e.g s2=v2)(h3:e.g s3=v3)(h:R (.tuple #[v,v2,v3]) w):MQ P fn R .ret e w :=
 ⟨hd,fun tmps ht=>by
  have h1:=(ht a).trans ha;have g2:=(ht s2).trans h2;have g3:=(ht s3).trans h3;rw[qa2]at h1 g2 g3
  exact⟨.tuple #[v,v2,v3],by simp[results,hr,h1,g2,g3,asAddr,hv],h⟩⟩
theorem IC{a s2:Tmp}{t t2:TypeId}{b k s:Nat}{l:List Value}{v2:Value}(hr:fn.results=#[.cell a t,.tmp s2])(hd:e.ds=[])(ha:e.g a=.pointer (some ⟨b,0,none⟩))(hag:Dt P t=some true)(hs:Ci P t=some s)(H:Ctx w0 S w L)(hk:L[k]?=some (b,Bl t2 l))(hl:l.length=s)(h2:e.g s2=v2)(h:R (.tuple #[.agg l.toArray,v2]) w):MQ P fn R .ret e w :=
 Aeq hr hd ha (F5 hag hs hl (fun j v hv=>by rw[Aj (H.get hk),qa4];exact hv)) h2 h
theorem Aes{a s2 s3:Tmp}{t t2:TypeId}{b k s:Nat}{l:List Value}{v2 v3:Value}(hr:fn.results=#[.cell a t,.tmp s2,.tmp s3])(hd:e.ds=[])(ha:e.g a=.pointer (some ⟨b,0,none⟩))(hag:Dt P t=some true)(hs:Ci P t=some s)(H:Ctx w0 S w L)(hk:L[k]?=some (b,Bl t2 l))(hl:l.length=s)(h2:e.g s2=v2)(h3:e.g s3=v3)(h:R (.tuple #[.agg l.toArray,v2,v3]) w):MQ P fn R .ret e w :=
 Aer hr hd ha (F5 hag hs hl (fun j v hv=>by rw[Aj (H.get hk),qa4];exact hv)) h2 h3 h
end
section
variable {P:Program}{ops rest:List Oper}{e:Env}{dst:Option Tmp}{ty:TypeId}{pos:String}{af:Array Edge}{g:Option (Nat × Bool)}{C:World->Prop}{K:Env->Prop}
theorem OJ{t:TypeId}{parts:Array (Nat × Operand)}{pl:List (Nat × Nat)}{zl:List Value}(l:List Value)(hg:AS ⟨dst,.build t parts,ty,pos,af,g⟩ ops e=true)(hp:Ds P t=some pl)(hz:Cl P t=some zl)(h:Wt P ops C K rest (put e dst (.agg l.toArray)))(hl:Instr.fill (fun i=>pl.toArray[i]?) zl.toArray (parts.toList.map fun p=>(p.1,ev e p.2))=some l.toArray:=by kernel_rfl):
  Wt P ops C K (⟨dst,.build t parts,ty,pos,af,g⟩::rest) e:=by
 refine E8 hg (fun w _=>?_) h;have hb:P.built t (parts.map fun(i,x)=>(i,ev e x)).toList=some l.toArray:=OC hp hz (by rw[qcg];exact hl);simp[execOp,run_build w t _ _ hb]
end
section
variable {P:Program}{r:Option Nat}{n:Nat}{ops rest:List Oper}{Q:Exit->Env->World->Prop}{e:Env}{w w0:World}{S:List Nat}{L:List (Nat × Obj)}{dst:Option Tmp}{ty:TypeId}{pos:String}{af:Array Edge}{g:Option (Nat × Bool)}
def RetD(P:Program)(f:FuncId)(args:Array Value)(w:World)(R:World->Prop):Prop :=
 CallsDIn Fence.wide 0 P f args .returning w fun x u w'=>u=.returning/\∃v,x=.returned v/\R w'
def Defs(P:Program):List Deferred->World->(World->Prop)->Prop
 | [],w,K=>K w
 |d::ds,w,K=>∃f ca,d={ target := .fn (.func f) ca,args:=#[] }/\Au P f=true/\RetD P f ca w fun w'=>Defs P ds w' K
def QretD(P:Program)(fn:Func)(R:Value->World->Prop):Exit->Env->World->Prop
 | .normal,e,w | .ret,e,w=>Defs P e.ds w fun w'=>∀tmps:Array Value,(∀i,tmps.getD i undef=e.g i)->∃v,(results fn tmps).run P w'=.ok v w'/\R v w'
 |_,_,_=>False
theorem Defs.mono:∀{ds:List Deferred} {w:World} {K K':World->Prop},(∀w,K w->K' w)->Defs P ds w K->Defs P ds w K'
 | [],_,_,_,h,hk=>h _ hk
 |_::_,_,_,_,h,⟨f,ca,h1,h2,h3⟩=>⟨f,ca,h1,h2,CallsDIn.mono h3 fun _ _ _ hx=>⟨hx.1,let ⟨v,h4,h5⟩:=hx.2;⟨v,h4,Defs.mono h h5⟩⟩⟩
theorem X7{t el:TypeId}{m s:Nat}{zl:List Value}{ps:List (Nat × Value)}{l:Array Value}(hu:Ti P t=some (m,el))(hs:Ci P el=some s)(hz:Cl P t=some zl)(hl:Instr.fill (fun i=>some (i*s,s)) zl.toArray ps=some l):P.built t ps=some l:=by
 unfold Cl at hz;unfold Program.built;unfold Ci at hs;have hu':=UP hu
 cases hi:P.info? t with
 |none=>rw[hi]at hz;cases hz
 |some it =>
  rw[hi]at hz
  cases hzz:it.zero with
  |none=>simp[hzz]at hz
  |some z =>
   simp only[qd1,hzz,qcu,qb5]at hz;subst hz
   cases hie:P.info? el with
   |none=>rw[hie]at hs;cases hs
   |some ie =>
    rw[hie]at hs;simp only[qcu,qb5]at hs;subst hs;simp only[hu',hzz,hie]
    simpa using hl
theorem X8{t el:TypeId}{parts:Array (Nat × Operand)}{m s:Nat}{zl:List Value}(l:List Value)(hg:AS ⟨dst,.build t parts,ty,pos,af,g⟩ ops e=true)(hu:Ti P t=some (m,el))(hs:Ci P el=some s)(hz:Cl P t=some zl)(h:AG P r ops Q rest (put e dst (.agg l.toArray)) w)(hl:Instr.fill (fun i=>some (i*s,s)) zl.toArray (parts.toList.map fun p=>(p.1,ev e p.2))=some l.toArray:=by kernel_rfl):
  AG P r ops Q (⟨dst,.build t parts,ty,pos,af,g⟩::rest) e w:=by
 refine BK hg U ?_ h;have hb:P.built t (parts.map fun(i,x)=>(i,ev e x)).toList=some l.toArray:=X7 hu hs hz (by rw[qcg];exact hl);simp[execOp,run_build w t _ _ hb]
end
theorem Zk{a:Nat}(ha:a<9223372036854775808:=by omega):IntKind.i64.wrap (a:Int)=(a:Int):=by
 have h1:(a:Int) % 18446744073709551616=(a:Int):=by omega
 show(if(true && decide ((a:Int) % 18446744073709551616>=9223372036854775808))=true then(a:Int) % 18446744073709551616 - 18446744073709551616 else(a:Int) % 18446744073709551616)=_;rw[h1,qbb (by omega)];rfl
theorem X9{a b:Nat}(ha:a<9223372036854775808)(hb:b<9223372036854775808):Op.intBits .and .i64 a b=pure (.int .i64 ((a &&& b:Nat):Int)):=by
 have hx:a &&& b<=a:=Nat.and_le_left;have ha':a<2 ^ IntKind.i64.bits:=by show a<18446744073709551616;omega
 have hb':b<2 ^ IntKind.i64.bits:=by show b<18446744073709551616;omega
 simp only[Op.intBits,MW];rw[BitVec.toNat_and,BitVec.toNat_ofNat,BitVec.toNat_ofNat,qcj ha',qcj hb',Zk]
section
variable {P:Program}{r:Option Nat}{ops rest:List Oper}{Q:Exit->Env->World->Prop}{e:Env}{w:World}{dst:Option Tmp}{ty:TypeId}{pos:String}{af:Array Edge}{g:Option (Nat × Bool)}{C:World->Prop}{K:Env->Prop}{t t2:TypeId}{x y:Operand}{a b n:Nat}
theorem OM(hg:AS ⟨dst,.binOp .and t x y t2,ty,pos,af,g⟩ ops e=true)(hx:ev e x=.int .i64 a)(hy:ev e y=.int .i64 b)(ha:a<9223372036854775808)(hb:b<9223372036854775808)(h:AG P r ops Q rest (put e dst (.int .i64 ((a &&& b:Nat):Int))) w):AG P r ops Q (⟨dst,.binOp .and t x y t2,ty,pos,af,g⟩::rest) e w :=
 BK hg rfl (Ce hx hy (by show(Op.intBits .and .i64 (a:Int) (b:Int)).run P w=_;rw[X9 ha hb];rfl)) h
theorem J5(hg:AS ⟨dst,.binOp .shr t x y t2,ty,pos,af,g⟩ ops e=true){k2:IntKind}(hx:ev e x=.int .i64 a)(hy:ev e y=.int k2 n)(h:AG P r ops Q rest (put e dst (.int .i64 ((a / 2 ^ n:Nat):Int))) w)(hn:n<=64:=by omega):AG P r ops Q (⟨dst,.binOp .shr t x y t2,ty,pos,af,g⟩::rest) e w :=
 BK hg rfl (Ce hx hy (by show(Op.shift .shr .i64 (a:Int) k2 (n:Int)).run P w=_;rw[NR (by exact hn)];rfl)) h
theorem Q2(hg:AS ⟨dst,.binOp .shr t x y t2,ty,pos,af,g⟩ ops e=true){k2:IntKind}(hx:ev e x=.int .i64 a)(hy:ev e y=.int k2 n)(h:Wt P ops C K rest (put e dst (.int .i64 ((a / 2 ^ n:Nat):Int))))(hn:n<=64:=by decide):Wt P ops C K (⟨dst,.binOp .shr t x y t2,ty,pos,af,g⟩::rest) e :=
 E8 hg (fun w _=>Ce hx hy (by show(Op.shift .shr .i64 (a:Int) k2 (n:Int)).run P w=_;rw[NR (by exact hn)];rfl)) h
end
abbrev Mt:=Nat->Prop
structure Grw(M M':Mt)(w w':World):Prop where
 ext:∃S,(∀x∈S,M x\/w.heap.size<=x)/\Ext S w w'
 new:∀x,M' x->M x\/w.heap.size<=x
theorem Grw.to{M M':Mt}{w w':World}(g:Grw M M' w w'){b:Nat}{o:Obj}(hb:w.heap[b]?=some o)(hn:¬M b):w'.heap[b]?=some o:=by
 obtain⟨S,hS,hx⟩:=g.ext;have hl:=AY hb;rw[hx.block b hl fun h=>by rcases hS b h with h|h;exact hn h;omega];exact hb
theorem Grw.size{M M':Mt}{w w':World}(g:Grw M M' w w'):w.heap.size<=w'.heap.size:=let ⟨_,_,hx⟩:=g.ext;hx.size
theorem Grw.not{M M':Mt}{w w':World}(g:Grw M M' w w'){b:Nat}(hb:b<w.heap.size)(hn:¬M b):¬M' b:=fun h=>by
 rcases g.new b h with h|h
 .exact hn h
 .omega
theorem Grw.call{M M':Mt}{w0 w w':World}(h:Ext [] w0 w)(_:∀x,M x->x<w0.heap.size)(g:Grw M M' w w'):Grw M M' w0 w':=by
 obtain⟨S,hS,hx⟩:=g.ext;have hs:=h.size;exact⟨⟨S,fun x hm=>(hS x hm).imp id fun h=>by omega,(h.mono (by simp)).trans hx⟩,fun x hm=>(g.new x hm).imp id fun h=>by omega⟩
def RZ(P:Program)(gf:FuncId)(ca:Array Value)(Z:List Nat)(K:Mt->World->Prop)(xs:List (List Value)):Prop :=
 ∀(l:Nat) (w:World) (J:Nat->Mt->World->Prop) (E:World->Prop),(∃M,J 0 M w)->(∀i M w' w'',J i M w'->Ext Z w' w''->J i M w'')->(∀w' w'',E w'->Ext Z w' w''->E w'')->(∀i M w',J i M w'->(∀x,M x->x<w'.heap.size)/\K M w') ->
  (∀i v M w',xs[i]?=some v->J i M w'->YieldAt P l v w' fun u w''=>(u=.bool true/\∃M',J (i+1) M' w''/\Grw M M' w' w'')\/(u=.bool false/\E w'')) ->
  Ret P gf (#[.func (.yield l) #[] #[]]++ca) w fun _ w'=>(∃M,J xs.length M w')\/E w'
section
variable {P:Program}{Q:Exit->Env->World->Prop}{e:Env}{w:World}{n:Nat}
def ON(e:Env)(l:List (Tmp × Value)):Env:=l.foldl (fun e p=>put e (some p.1) p.2) e
theorem NS:∀(l:List (Tmp × Value)) {e:Env} {a:Act},Sim n e a->(∀p∈l,p.1<n)->Sim n (ON e l) { a with tmps:=l.foldl (fun tmps p=>tmps.setIfInBounds p.1 p.2) a.tmps }
 | [],_,_,h,_=>h
 |p::l,e,a,h,hp=>by
  have h1:Sim n (put e (some p.1) p.2) { a with tmps:=a.tmps.setIfInBounds p.1 p.2 }:=by
   have:=Sim.put h (some p.1) p.2 (by rintro _ ⟨⟩;exact hp p (qai ..))
   simpa[Act.put]using this
  exact NS l h1 fun q hq=>hp q (qah _ hq)
theorem OQ(ps:Array Tmp)(vs:List Value)(tmps:Array Value):(ps.zip vs.toArray).foldl (fun tmps (t,a)=>tmps.setIfInBounds t a) tmps=(ps.toList.zip vs).foldl (fun tmps p=>tmps.setIfInBounds p.1 p.2) tmps:=by
 rw[<-Array.foldl_toList,Array.toList_zip]
def Qbody(D l:Nat)(J1:Mt->World->Prop)(E:World->Prop)(M:Mt)(w wB:World):Exit->Env->World->Prop
 | .normal,_,w3=>∃M',J1 M' w3/\(∀x,M' x->M x\/w.heap.size<=x)/\∃S,Ext S wB w3/\∀x∈S,M x\/w.heap.size<=x
 | .ret,_,w3=>E w3/\∃S,Ext S wB w3/\D∉S/\l∉S
 |_,_,_=>False
def Sa(P:Program)(D l n:Nat)(body:Code)(J1:Mt->World->Prop)(E:World->Prop)(M:Mt)(w:World):Exit->Env->World->Prop
 | .normal,e,w1=>Ext [] w w1/\∀wB,Ext [l] w1 wB->W P (some l) n body (Qbody D l J1 E M w wB) e wB
 |_,_,_=>False
theorem Ext.to{S:List Nat}{w w':World}(h:Ext S w w'){b:Nat}{o:Obj}(hb:w.heap[b]?=some o)(hn:b∉S):w'.heap[b]?=some o:=by
 rw[h.block b (AY hb) hn];exact hb
theorem Na{w:World}{j:Option Code}(hj:j=none)(h:Q .normal e w):MP Q e w j:=by subst hj;exact h
theorem OT{w:World}{j:Option Code}(hj:j=some .ret)(h:Q .ret e w):MP Q e w j:=by subst hj;exact h
theorem NT{f:Operand}{ps:Array Tmp}{assign body:Code}{gf:Nat}{ca:Array Value}{Z:List Nat}{K:Mt->World->Prop}{xs:List (List Value)}(hf:ev e f=.func (.func gf) #[] ca)(hc:Au P gf=true)(hI:RZ P gf ca Z K xs)(hfit:(I6 n assign && I6 n body)=true)(hps:(ps.toList.all fun p=>decide (p<n))=true)(hlen:∀v∈xs,v.length=ps.size)(J:Nat->Mt->World->Prop)(E:World->Prop)(hZ:w.heap.size∉Z/\w.heap.size+1∉Z)(hj0:∀w2,Ext [] w w2->w.heap.size+1<w2.heap.size->∃M,J 0 M w2)(hjs:∀i M w' w'',J i M w'->Ext (w.heap.size::(w.heap.size+1)::Z) w' w''->J i M w'')(hes:∀w' w'',E w'->Ext (w.heap.size::(w.heap.size+1)::Z) w' w''->E w'')(hk:∀i M w',J i M w'->(∀x,M x->x<w'.heap.size/\x≠w.heap.size/\x≠w.heap.size+1)/\K (fun x=>x=w.heap.size+1\/M x) w')(hb:∀i v M w',xs[i]?=some v->J i M w'->w.heap.size+1<w'.heap.size->W P (some (w.heap.size+1)) n assign (Sa P w.heap.size (w.heap.size+1) n body (J (i+1)) E M w') (ON ⟨e.g,[]⟩ (ps.toList.zip v)) w')(hend:∀M w4,J xs.length M w4->w4.heap[w.heap.size]?=some (.deferred (some []))->Q .normal ⟨e.g,{ target := .collected w.heap.size,args:=#[] }::e.ds⟩ w4)(hret:∀w4,E w4->w4.heap[w.heap.size]?=some (.deferred (some []))->Q .ret ⟨e.g,{ target := .collected w.heap.size,args:=#[] }::e.ds⟩ w4):W P none n (.rangeFunc f ps assign body) Q e w:=by
 refine Kf hf hc ?_;intro fn tmps hts htm D l w2 hDe hle hx2 hD hrec;subst hDe hle;obtain⟨lo,hlo,hrec'⟩:∃lo,lo=({ state := .ready,pending:=none,fn,tmps,params:=ps,assign,body,defers:=w.heap.size }:Loop)/\w2.heap[w.heap.size+1]?=some (.loop lo):=⟨_,rfl,hrec⟩;have hsz2:=AY hrec';have hne:w.heap.size≠w.heap.size+1:=by omega
 refine Ret.mono (hI (w.heap.size+1) w2 (fun i Mh w'=>(∃M:Mt,(Mh=fun x=>x=w.heap.size+1\/M x)/\J i M w')/\w'.heap[w.heap.size+1]?=some (.loop lo)/\w'.heap[w.heap.size]?=some (.deferred (some []))) (fun w'=>E w'/\(∃lp,w'.heap[w.heap.size+1]?=some (.loop lp)/\lp.state=.done/\lp.pending=some .ret)/\w'.heap[w.heap.size]?=some (.deferred (some [])))
  (let ⟨M,hM⟩:=hj0 w2 hx2 hsz2;⟨_,⟨M,rfl,hM⟩,hrec',hD⟩) (fun i Mh w' w'' h hx=>⟨let ⟨M,hMh,hM⟩:=h.1;⟨M,hMh,hjs i M w' w'' hM (hx.mono fun x hx=>qah _ (qah _ hx))⟩,hx.to h.2.1 hZ.2,hx.to h.2.2 hZ.1⟩)
  (fun w' w'' h hx=>⟨hes w' w'' h.1 (hx.mono fun x hx=>qah _ (qah _ hx)),let ⟨lp,h1,h2⟩:=h.2.1;⟨lp,hx.to h1 hZ.2,h2⟩,hx.to h.2.2 hZ.1⟩) (fun i Mh w' h=>by
   obtain⟨⟨M,rfl,hM⟩,hl,_⟩:=h
   exact⟨fun x hx=>hx.elim (fun h=>by rw[h];exact AY hl) fun h=>((hk i M w' hM).1 x h).1,(hk i M w' hM).2⟩) ?_) ?_
 .rintro i v Mh w' hx ⟨⟨M,rfl,hJ⟩,hl,hDw⟩;have hsz:=AY hl;have hkM:=(hk i M w' hJ).1;have hbody:=hb i v M w' hx hJ hsz;have hlp:lo.params=ps:=by rw[hlo]
  have hla:lo.assign=assign:=by rw[hlo]
  have hlb:lo.body=body:=by rw[hlo]
  have hlt:lo.tmps=tmps:=by rw[hlo]
  have hls:lo.state=.ready:=by rw[hlo]
  have hpd:lo.pending=none:=by rw[hlo]
  refine OI hl (by rw[hlp];exact hlen v (qac hx)) ?_;rw[hlp,hla,hlb,hlt,OQ];have hs0:Sim n (⟨e.g,[]⟩:Env) ({ tmps:=tmps,defers:=[] }:Act):=⟨rfl,hts,htm⟩;refine L9 (ON ⟨e.g,[]⟩ (ps.toList.zip v)) (NS _ hs0 fun p hp=>?_) hfit ?_
  .have h1:=qau.1 hps p.1 (List.of_mem_zip hp).1;exact qba h1
  .refine ED assign ?_ hbody;intro x e1 w1 hq
   cases x with
   |normal =>
    obtain⟨hS,hW⟩:=hq;have hl1:=hS.to hl (by simp);have hD1:=hS.to hDw (by simp);have hxB:=Ext.setB w1 (w.heap.size+1) (.loop { lo with state := .busy });refine⟨lo,hl1,hls,ED body ?_ (hW _ hxB)⟩;have hlB:(w1.putObj (w.heap.size+1) (.loop { lo with state := .busy })).heap[w.heap.size+1]?=some (.loop { lo with state := .busy }):=EE hl1;have hDB:(w1.putObj (w.heap.size+1) (.loop { lo with state := .busy })).heap[w.heap.size]?=some (.deferred (some [])):=hxB.to hD1 (by simp);intro y e3 w3 hq3
    cases y with
    |normal =>
     obtain⟨M',hJ3,hM',S3,hS3,hin⟩:=hq3
     have hlS3:w.heap.size+1∉S3:=fun h=>by
      rcases hin _ h with h|h
      .exact(hkM _ h).2.2 U
      .omega
     have hDS3:w.heap.size∉S3:=fun h=>by
      rcases hin _ h with h|h
      .exact(hkM _ h).2.1 U
      .omega
     have hl3:=hS3.to hlB hlS3;have hD3:=hS3.to hDB hDS3;have hx4:=Ext.setB w3 (w.heap.size+1) (.loop { ({ lo with state := .busy }:Loop)with state := .ready,pending:=none });refine⟨_,hl3,.inl ⟨rfl,fun x=>x=w.heap.size+1\/M' x,⟨⟨M',rfl,hjs _ _ _ _ hJ3 (hx4.mono (by simp))⟩,?_,hx4.to hD3 (by simp)⟩,⟨⟨(w.heap.size+1)::S3,fun x hx=>?_,?_⟩,fun x hx=>?_⟩⟩⟩
     .rw[EE hl3]
      congr 2
      cases lo;simp_all
     .rcases qae.1 hx with h|h
      .exact .inl (.inl h)
      .exact(hin x h).imp .inr id
     .exact(((hS.mono (by simp)).trans (hxB.mono (by simp))).trans (hS3.mono fun x h=>qah _ h)).trans (hx4.mono (by simp))
     .rcases hx with h|h
      .exact .inl (.inl h)
      .exact(hM' x h).imp .inr id
    |ret =>
     obtain⟨hE3,S3,hS3,hDS3,hlS3⟩:=hq3;have hl3:=hS3.to hlB hlS3;have hD3:=hS3.to hDB hDS3;have hx4:=Ext.setB w3 (w.heap.size+1) (.loop { ({ lo with state := .busy }:Loop)with state := .done,pending:=some .ret });exact⟨_,hl3,.inr ⟨rfl,hes _ _ hE3 (hx4.mono (by simp)),⟨_,EE hl3,rfl,rfl⟩,hx4.to hD3 (by simp)⟩⟩
    |exit id=>exact hq3.elim
    |goto t=>exact hq3.elim
    |panic c=>exact hq3.elim
    |outgrown=>exact hq3.elim
   |exit id=>exact hq.elim
   |goto t=>exact hq.elim
   |ret=>exact hq.elim
   |panic c=>exact hq.elim
   |outgrown=>exact hq.elim
 .intro v w3 h
  rcases h with⟨Mh,⟨M,_,h1⟩,h2,h3⟩|⟨h1,h2,h3⟩
  .have hx4:=Ext.setB w3 (w.heap.size+1) (.loop { lo with state := .exhausted });exact⟨lo,h2,by rw[hlo];exact(fun h=>by cases h),Na (by rw[hlo]) (hend M _ (hjs _ _ _ _ h1 (hx4.mono (by simp))) (hx4.to h3 (by simp)))⟩
  .obtain⟨lp,h2,h4,h5⟩:=h2;have hx4:=Ext.setB w3 (w.heap.size+1) (.loop { lp with state := .exhausted });exact⟨lp,h2,by rw[h4];exact(fun h=>by cases h),OT h5 (hret _ (hes _ _ h1 (hx4.mono (by simp))) (hx4.to h3 (by simp)))⟩
theorem HV{w:World}{D:Nat}{ds:List Deferred}{K:World->Prop}(hD:w.heap[D]?=some (.deferred (some [])))(hds:ds=[{ target := .collected D,args:=#[] }])(hK:∀wF,Ext [D] w wF->K wF):Marks ds w K:=by
 subst hds;exact⟨D,rfl,hD,hK _ (Ext.setB w D _)⟩
theorem Zl{C:World->Prop}{K:Env->Prop}{ops rest:List Oper}{dst:Option Tmp}{ty:TypeId}{pos:String}{af:Array Edge}{g:Option (Nat × Bool)}{t:TypeId}{parts:Array (Nat × Operand)}{pl:List (Nat × Nat)}{zl:List Value}(l:List Value)(hg:AS ⟨dst,.build t parts,ty,pos,af,g⟩ ops e=true)(hp:Ds P t=some pl)(hz:Cl P t=some zl)(hl:Instr.fill (fun i=>pl.toArray[i]?) zl.toArray (parts.toList.map fun p=>(p.1,ev e p.2))=some l.toArray)(h:Wq P ops C K rest (put e dst (.agg l.toArray))) :
  Wq P ops C K (⟨dst,.build t parts,ty,pos,af,g⟩::rest) e:=by
 refine Ex hg (fun w _=>?_) h;have hb:P.built t (parts.map fun(i,x)=>(i,ev e x)).toList=some l.toArray:=OC hp hz (by rw[qcg];exact hl);simp[execOp,run_build w t _ _ hb]
end
end Go.GV
