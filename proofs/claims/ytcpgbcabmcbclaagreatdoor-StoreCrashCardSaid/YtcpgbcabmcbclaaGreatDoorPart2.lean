/- Part 2 of the proof. -/
import Derived.Test.YtcpgbcabmcbclaaGreatDoorPart1
import Derived.Laws.Tables
import Derived.Laws.AppendOwn
import Derived.Laws.IdiomStrings
import Derived.Laws.Strings
import Derived.Shelf.SlIterI.Nil
import Derived.Shelf.SortM.Plain
import Derived.Shelf.SortM.SortNone
import Derived.RangeFuncLeaves
namespace Go.GV
open Go
section
variable {P:Program}{r:Option Nat}{ops rest:List Oper}{Q:Exit->Env->World->Prop}{e:Env}{w w0:World}{S:List Nat}{L:List (Nat × Obj)}{dst:Option Tmp}{ty:TypeId}{pos:String}{af:Array Edge}{g:Option (Nat × Bool)}
theorem WI{o:Oper}{f:FuncId}{args:Array Value}{w':World}{R:Value->World->Prop}(hg:AJ o ops e=true)(hd:Uj o.op=true)(hrun:(execOp (ev e) o).run P w=.ok (.enter f args) w')(hc:Ret P f args w' R)(h:∀v w'',R v w''->AB P r ops Q rest (put e o.dst v) w''):AB P r ops Q (o::rest) e w:=by
 unfold AB;rw[if_pos hg,Oper.semAt_eq r _ _ (KJ hd),hrun];exact Ret.mono hc h
theorem Ai{f:FuncId}{args:Array Operand}{ats:Array TypeId}{l:List Value}{R:Value->World->Prop}(hf:Aw P f=true)(hc:Ret P f l.toArray w R)(ha:args.toList.map (ev e)=l)(h:∀v w',R v w'->AB P r ops Q rest (put e dst v) w')(hg:AJ ⟨dst,.call ⟨.value (.func f),args,ats⟩,ty,pos,af,g⟩ ops e=true:=by exact U):
  AB P r ops Q (⟨dst,.call ⟨.value (.func f),args,ats⟩,ty,pos,af,g⟩::rest) e w:=by
 refine WI (R:=R) hg U ?_ hc h
 have:args.map (ev e)=l.toArray:=by subst ha;apply qcd;simp only[qcz]
 simp[execOp,resolve,ev,Deferred.ofValue,invoke,this,GS hf]
theorem KP{f:FuncId}{fo:Operand}{fi ca:Array Value}{args:Array Operand}{ats:Array TypeId}{l:List Value}{R:Value->World->Prop}(hg:AJ ⟨dst,.call ⟨.value fo,args,ats⟩,ty,pos,af,g⟩ ops e=true)(hfo:ev e fo=.func (.func f) fi ca)(hf:Aw P f=true)(hc:Ret P f l.toArray w R)(ha:fi.toList++(args.toList.map (ev e)++ca.toList)=l)(h:∀v w',R v w'->AB P r ops Q rest (put e dst v) w') :
  AB P r ops Q (⟨dst,.call ⟨.value fo,args,ats⟩,ty,pos,af,g⟩::rest) e w:=by
 refine WI (R:=R) hg U ?_ hc h
 have:fi++args.map (ev e)++ca=l.toArray:=by rw[<-ha];apply qcd;simp
 simp[execOp,resolve,hfo,Deferred.ofValue,invoke,this,GS hf]
end
def ent(a:Option Addr)(t:TypeId)(full:List Value):List (Nat × Obj) :=
 match a with
 |none=>[]
 |some p=>[(p.block,Bl t full)]
structure OS(a:Option Addr)(n c s:Nat)(full l:List Value):Prop where
 zero:∀p,a=some p->p=⟨p.block,0,none⟩
 none':a=none->c=0
 len:full.length=c*s
 le:n<=c
 pre:full.take (n*s)=l
theorem OS.nil{s:Nat}:OS none 0 0 s [] []:=⟨(fun _ h=>by cases h),fun _=>rfl,by simp,qae _,by simp⟩
theorem OS.llen{a:Option Addr}{n c s:Nat}{full l:List Value}(h:OS a n c s full l):l.length=n*s:=by
 rw[<-h.pre,qa0,h.len];exact Nat.min_eq_left (Nat.mul_le_mul_right _ h.le)
theorem OS.form{a:Option Addr}{n c s:Nat}{full l:List Value}(h:OS a n c s full l)(hn:0<n):∃b,a=some ⟨b,0,none⟩:=by
 cases a with
 |none=>have:=h.none' rfl;have:=h.le;omega
 |some p=>exact⟨p.block,by rw[<-h.zero p rfl]⟩
theorem OS.split{a:Option Addr}{n c s:Nat}{full l:List Value}(h:OS a n c s full l):full=l++full.drop (n*s):=by
 rw[<-h.pre,qbj]
theorem LW{a:Option Addr}{t:TypeId}{full:List Value}{b:Nat}(h:a=some ⟨b,0,none⟩):ent a t full=[(b,Bl t full)]:=by subst h;rfl
theorem OS.rd{α:Type}{w:World}{a:Option Addr}{n c s:Nat}{t:TypeId}{full:List Value}{enc:α->List Value}{xs:List α}(h:OS a n c s full (xs.flatMap enc))(hb:∀x∈ent a t full,w.heap[x.1]?=some x.2)(hs:∀x∈xs,(enc x).length=s)(h0:0<s):Rd w a s enc xs:=by
 cases a with
 |none =>
  cases xs with
  |nil=>exact Rd.nil
  |cons x xs =>
   exfalso;have h1:=h.llen;have h2:=h.none' rfl;have h3:=h.le;have h4:n=0:=by omega
   have h5:=hs x (by simp);subst h4;simp only[qcc,qan,qd7]at h1;omega
 |some p =>
  have hz:=h.zero p rfl;obtain⟨b,o,sp⟩:=p;simp only[Addr.mk.injEq,true_and]at hz;obtain⟨rfl,rfl⟩:=hz;exact Rd.of_bl (r:=full.drop (n*s)) (hb (b,Bl t full) (by simp[ent])) h.split hs
theorem Ctx.callEnt{w0 w w':World}{S:List Nat}{L E:List (Nat × Obj)}(H:Ctx w0 S w L)(he:Ext [] w w')(hb:∀x∈E,w'.heap[x.1]?=some x.2/\w.heap.size<=x.1)(hp:E.Pairwise fun x y=>x.1≠y.1) :
  Ctx w0 S w' (L++E):=by
 have H':=H.call he;refine⟨H'.ext,?_,?_,?_⟩
 .intro x hx
  rcases qau.1 hx with hx|hx
  .exact H'.blk x hx
  .exact(hb x hx).1
 .rw[qca];refine⟨H.nd,hp,fun x hx y hy=>?_⟩;have h1:=Al (H.blk x hx);have h2:=(hb y hy).2;omega
 .intro x hx
  rcases qau.1 hx with hx|hx
  .exact H.own x hx
  .exact .inr (qav H.size (hb x hx).2)
theorem Ctx.perm{w0 w:World}{S:List Nat}{L L':List (Nat × Obj)}(H:Ctx w0 S w L)(hp:L.Perm L'):Ctx w0 S w L' :=
 H.sub (fun _ hx=>hp.mem_iff.2 hx) (hp.pairwise H.nd (fun h=>Ne.symm h))
theorem Ctx.comm{w0 w:World}{S:List Nat}{L L':List (Nat × Obj)}(H:Ctx w0 S w (L++L')):Ctx w0 S w (L'++L):=H.perm qcn
theorem Ctx.left{w0 w:World}{S:List Nat}{L L':List (Nat × Obj)}(H:Ctx w0 S w (L++L')):Ctx w0 S w L :=
 H.sub (fun _ hx=>qa5 _ hx) (qca.1 H.nd).1
theorem Ctx.right{w0 w:World}{S:List Nat}{L L':List (Nat × Obj)}(H:Ctx w0 S w (L++L')):Ctx w0 S w L' :=
 H.sub (fun _ hx=>qax _ hx) (qca.1 H.nd).2.1
theorem Ur(need:Nat):∀(k c:Nat),c<=2*need+768->Builtin.growBy need k c<=2*need+768
 |0,c,h=>h
 |k+1,c,h=>by
  unfold Builtin.growBy
  split
  .exact h
  .exact Ur need k _ (by omega)
theorem Zn(need c:Nat)(h:c<need):Builtin.nextslicecap need c<=2*need+768:=by
 unfold Builtin.nextslicecap
 split
 .omega
 .split
  .omega
  .exact Ur need 4 c (by omega)
theorem OX(z:Array Value)(n:Nat):(Builtin.zeroCells z n).size=n*z.size:=by simp[Builtin.zeroCells]
section
variable {P:Program}{w w0:World}{S:List Nat}{L:List (Nat × Obj)}
theorem GX{s m:Nat}{a:Option Addr}{c k:Nat}{l:List Value}(hl:l.length=m*s)(hc:∀j v,l[j]?=some v->∃p,a=some p/\w.cell? (p.add j)=some v) :
  (Builtin.firstCells s m (.slice a c k)).run P w=.ok l.toArray w:=by
 cases a with
 |none =>
  have h0:l=[]:=by
   cases l with
   |nil=>rfl
   |cons v l=>obtain⟨p,hp,_⟩:=hc 0 v rfl;cases hp
  subst h0;simp[Builtin.firstCells]
 |some p =>
  have h:=OW (P:=P) (w:=w) (p:=p) l 0 #[] (fun j v hv=>by
   obtain⟨q,hq,hv⟩:=hc j v hv
   injection hq with hq
   subst hq
   rwa [qa2])
  rw[hl]at h;simp[Builtin.firstCells,loadCells,h]
theorem Zo{t t2 el el2 ty:TypeId}{s by':Nat}{zl:List Value}(hu:C2 P t=some el)(hu2:C2 P t2=some el2)(hs:BK P el=some s)(hby:Gc P el=some by')(hz:BV P el=some zl)(hzl:zl.length=s)(hpos:0<by'){a a2:Option Addr}{n c m c2:Nat}{full l new:List Value}(H:Ctx w0 S w (L++ent a el full))(O:OS a n c s full l)(hn:new.length=m*s)(h1:∀v∈new,Bi v=true)(hc:∀j v,new[j]?=some v->∃p,a2=some p/\w.cell? (p.add j)=some v)(hbound:(2*(n+m)+768)*by'<=281474976710656) :
  ∃a' c' full' w',(Builtin.append_ #[t,t2] ty #[.slice a n c,.slice a2 m c2]).run P w=.ok (.slice a' (n+m) c') w'/\Ctx w0 S w' (L++ent a' el full')/\OS a' (n+m) c' s full' (l++new):=by
 have hfc:=GX (P:=P) (w:=w) (s:=s) (m:=m) (a:=a2) (c:=m) (k:=c2) hn hc
 by_cases hfit:n+m<=c
 ·-- in place
  cases a with
  |none =>
   have h0:=O.none' rfl;have hm:m=0:=by omega
   have hn0:n=0:=by omega
   subst hm hn0 h0;have hnew:new=[]:=qa4 (by omega);have hl:l=[]:=qa4 (by have:=O.llen;omega);have hfull:full=[]:=qa4 (by have:=O.len;omega);subst hnew hl hfull;refine⟨none,0,[],w,?_,H,OS.nil⟩;simp[Builtin.append_,AM (Cw hu),AM (Cw hu2),Cc hs,Builtin.lenOf,hfc]
  |some p =>
   have hp:=O.zero p rfl;obtain⟨b,o,sp⟩:=p;simp only[Addr.mk.injEq,true_and]at hp;obtain⟨rfl,rfl⟩:=hp;have hk:(L++ent (some ⟨b,0,none⟩) el full)[L.length]?=some (b,Bl el full):=by simp[ent]
   have hb:=H.get hk;have hmul:(n+m)*s<=c*s:=Nat.mul_le_mul_right _ hfit;have hadd:(n+m)*s=n*s+m*s:=qco _ _ _;obtain⟨w',hr,he,hb'⟩:=GW (P:=P) (o:=n*s) new full w 0 h1 hb (by rw[O.len];omega);have hwr:=H.turn hk _ he hb';rw[show(L++ent (some ⟨b,0,none⟩) el full).set L.length (b,Bl el (over full (n*s+0) new))=L++ent (some ⟨b,0,none⟩) el (over full (n*s) new)from by simp[ent]]at hwr;refine⟨some ⟨b,0,none⟩,c,over full (n*s) new,w',?_,hwr,?_⟩
   .have hst:(storeCells (Addr.add ⟨b,0,none⟩ (n*s)) new).run P w=.ok () w':=by
     rw[Dy,qa2];exact hr
    simp[Builtin.append_,AM (Cw hu),AM (Cw hu2),Cc hs,Builtin.lenOf,hfc,hfit,hst]
   .refine⟨fun q hq=>by injection hq with hq;subst hq;rfl,(fun h=>by cases h),by rw[PV];exact O.len,hfit,?_⟩;have hsp:=O.split;have hll:=O.llen;have htl:(full.drop (n*s)).length=c*s - n*s:=by rw[qbg,O.len]
    have hcut:full.drop (n*s)=(full.drop (n*s)).take (m*s)++(full.drop (n*s)).drop (m*s):=by rw[qbj]
    have hover:∀(vs a b c:List Value),b.length=vs.length->over (a++b++c) a.length vs=a++vs++c:=by
     intro vs
     induction vs with
     |nil=>intro a b c hb;have:b=[]:=qa4 (by simpa using hb);subst this;simp[over]
     |cons v vs ih =>
      intro a b c hb
      cases b with
      |nil=>simp at hb
      |cons x b =>
       have:=ih (a++[v]) b c (by simpa using hb);simp only[over];rw[show(a++x::b++c).set a.length v=a++[v]++b++c from by simp];rw[show a.length+1=(a++[v]).length from by simp,this];simp
    have hgoal:over full (n*s) new=l++new++(full.drop (n*s)).drop (m*s):=by
     have h4:=hover new l ((full.drop (n*s)).take (m*s)) ((full.drop (n*s)).drop (m*s)) (by rw[qa0,htl,hn];omega);rw[qa1,<-hcut,<-hsp,hll]at h4;exact h4
    rw[hgoal,qd8 (by rw[qan,hll,hn];omega)]
 ·-- a new block
  have hfit':c<n+m:=by omega
  have hncap:=Zn (n+m) c hfit'
  have hbig:¬(281474976710656:Int)<((Builtin.nextslicecap (n+m) c*by':Nat):Int):=by
   have:Builtin.nextslicecap (n+m) c*by'<=(2*(n+m)+768)*by':=Nat.mul_le_mul_right _ hncap
   omega
  have hnm:n+m<=281474976710656:=by
   have h1:(2*(n+m)+768)*1<=(2*(n+m)+768)*by':=qb6 _ hpos
   omega
  -- the capacity that is drawn
  generalize hq:(Question.appendCap (n+m) c el).cut (w.tape w.drawn (Question.appendCap (n+m) c el))=cap;have hcap:n+m<=cap:=by rw[<-hq];unfold Question.cut;exact qcp _ _
  obtain⟨zv,hzr,hzc⟩:=KO (P:=P) hz w.drew;have hzs:zv.cells.size=s:=by rw[<-hzl,<-hzc];simp
  let full':=l++new++(Builtin.zeroCells zv.cells (cap - (n+m))).toList
  have hH:Ctx w0 S (w.drew.alloc (Bl el full')) ((w.drew.heap.size,Bl el full')::L):=by
   have:=(H.left.drew).alloc (Bl el full');exact this
  refine⟨some ⟨w.drew.heap.size,0,none⟩,cap,full',w.drew.alloc (Bl el full'),?_,?_,?_⟩
  .have hforced:(Question.appendCap (n+m) c el).forced=false:=rfl
   have hby2:∃i,P.info? el=some i/\i.bytes=by':=by
    unfold Gc at hby
    cases hi:P.info? el with
    |none=>rw[hi]at hby;cases hby
    |some i=>rw[hi]at hby;simp at hby;exact⟨i,rfl,hby⟩
   obtain⟨i,hi,hib⟩:=hby2;have hti:∀w,(typeInfo el).run P w=.ok i w:=fun w=>by simp[typeInfo,program,Sem.run,hi]
   have hold':(Builtin.firstCells s n (.slice a n c)).run P w.drew=.ok l.toArray w.drew:=by
    refine GX (O.llen) (fun j v hv=>?_);have hjl:j<l.length:=(qaq.1 hv).1
    have hn0:0<n:=by
     rcases Nat.eq_zero_or_pos n with h|h
     .have h5:=O.llen;rw[h,qd7]at h5;omega
     .exact h
    obtain⟨b,rfl⟩:=O.form hn0;refine⟨_,rfl,?_⟩;have hk:(L++ent (some ⟨b,0,none⟩) el full)[L.length]?=some (b,Bl el full):=by simp[ent]
    show w.cell? _=_;rw[Dy,qa2,Ar (H.get hk),O.split,qdj hjl];exact hv
   have hfc':(Builtin.firstCells s m (.slice a2 m c2)).run P w.drew=.ok new.toArray w.drew:=GX hn hc;have hroom:∀k w,(askRoom k).run P w=.ok () w:=fun k w=>by unfold askRoom;split <;> rfl
   have hby0:¬by'=0:=by omega
   have hnn:(Builtin.append_ #[t,t2] ty #[.slice a n c,.slice a2 m c2]).run P w=.ok (.slice (some ⟨w.drew.heap.size,0,none⟩) (n+m) cap) (w.drew.alloc (.cells (l.toArray++(new.toArray++Builtin.zeroCells zv.cells (cap - (n+m)))) el)):=by
    have hb3:¬281474976710656<Builtin.nextslicecap (n+m) c*by':=by omega
    simp[Builtin.append_,AM (Cw hu),AM (Cw hu2),Cc hs,Builtin.lenOf,hfc',hold',hfit,hti,hib,hb3,hby0,hforced,hq,hroom,hzr,newRow,newObj,Sem.run]
   rw[hnn]
   have harr:l.toArray++(new.toArray++Builtin.zeroCells zv.cells (cap - (n+m)))=full'.toArray:=by
    apply qcd;simp[full']
   rw[harr];rfl
  .exact hH.perm (qcn (l₁:=[(w.drew.heap.size,Bl el full')]) (l₂:=L))
  .refine⟨(fun q hq=>by injection hq with hq;subst hq;rfl),(fun h=>by cases h),?_,hcap,?_⟩
   .show(l++new++(Builtin.zeroCells zv.cells (cap - (n+m))).toList).length=cap*s;rw[qan,qan,O.llen,hn,Array.length_toList,OX,hzs,<-qco,<-qco]
    congr 1
    omega
   .show(l++new++(Builtin.zeroCells zv.cells (cap - (n+m))).toList).take ((n+m)*s)=l++new;rw[qd8 (by rw[qan,O.llen,hn,qco])]
end
section
variable {P:Program}{r:Option Nat}{ops rest:List Oper}{Q:Exit->Env->World->Prop}{e:Env}{w w0:World}{S:List Nat}{L:List (Nat × Obj)}{dst:Option Tmp}{ty:TypeId}{pos:String}{af:Array Edge}{g:Option (Nat × Bool)}
theorem DS{t t2 el el2:TypeId}{x y:Operand}{s by':Nat}{zl:List Value}(hg:AJ ⟨dst,.call ⟨.builtin .append,#[x,y],#[t,t2]⟩,ty,pos,af,g⟩ ops e=true)(hu:C2 P t=some el)(hu2:C2 P t2=some el2)(hs:BK P el=some s)(hby:Gc P el=some by')(hz:BV P el=some zl)(hzl:zl.length=s){a a2:Option Addr}{n c m c2:Nat}{full l:List Value}(new:List Value)(hx:ev e x=.slice a n c)(hy:ev e y=.slice a2 m c2)(H:Ctx w0 S w (L++ent a el full))(O:OS a n c s full l)(hn:new.length=m*s)(h1:∀v∈new,Bi v=true)(hc:∀j v,new[j]?=some v->∃p,a2=some p/\w.cell? (p.add j)=some v)(h:∀a' c' full' w',Ctx w0 S w' (L++ent a' el full')->OS a' (n+m) c' s full' (l++new)->AB P r ops Q rest (put e dst (.slice a' (n+m) c')) w')(hpos:0<by':=by decide)(hbound:(2*(n+m)+768)*by'<=281474976710656:=by omega):
  AB P r ops Q (⟨dst,.call ⟨.builtin .append,#[x,y],#[t,t2]⟩,ty,pos,af,g⟩::rest) e w:=by
 obtain⟨a',c',full',w',hr,H',O'⟩:=Zo (ty:=ty) hu hu2 hs hby hz hzl hpos H O hn h1 hc hbound (c2:=c2);exact Bt hg U (by simp[execOp,resolve,invoke,builtin,hx,hy,hr]) (h a' c' full' w' H' O')
theorem BJ{t el:TypeId}{x:Operand}{s:Nat}{zl:List Value}(l:List Value)(v:Value)(hu:C2 P t=some el)(hs:BK P el=some s)(hz:BV P el=some zl)(hzl:zl.length=s)(hx:ev e x=v)(hl:v.cells=l.toArray)(hll:l.length=s)(H:Ctx w0 S w L)(h:∀b w',w.heap.size=b->Ctx w0 S w' ((b,Bl el l)::L)->AB P r ops Q rest (put e dst (.slice (some ⟨b,0,none⟩) 1 1)) w')(hg:AJ ⟨dst,.buildSlice t 1 #[(0,x)],ty,pos,af,g⟩ ops e=true:=by exact U)(hs0:0<s:=by decide)(hs1:s<=16777216:=by decide):
  AB P r ops Q (⟨dst,.buildSlice t 1 #[(0,x)],ty,pos,af,g⟩::rest) e w:=by
 obtain⟨z,hz1,hz2⟩:=KO hz w;have hzs:z.cells.size=s:=by rw[<-hzl,<-hz2];simp
 refine Bt (w':=w.alloc (Bl el l)) (v := .slice (some ⟨w.heap.size,0,none⟩) 1 1) hg U ?_ (h _ _ U (H.alloc _))
 have hfill:∀cs:Array Value,cs.size=s->Instr.fill (fun i=>some (i*s,s)) cs [(0,v)]=some l.toArray:=by
  intro cs hcs
  have hfold:∀(vs:List Value) (k:Nat) (c0:Array Value),c0.size=k+vs.length->(vs.zipIdx k).foldl (fun cs (x:Value × Nat)=>cs.setIfInBounds (0+x.2) x.1) c0=((c0.toList.take k)++vs).toArray:=by
   intro vs
   induction vs with
   |nil=>intro k c0 h;simp only[List.zipIdx_nil,List.foldl_nil,qa3];apply qcd;simp only[qby]at h;simp;rw[qa6 (by simp;omega)]
   |cons u vs ih =>
    intro k c0 h;simp only[List.zipIdx_cons,qdk];rw[ih (k+1) _ (by simp at h |-;omega)]
    congr 1
    simp only[qa2,Array.toList_setIfInBounds];have hk:k<c0.toList.length:=by simp at h |-;omega
    rw[List.take_set,List.take_succ_eq_append_getElem hk];simp[List.set_append];rw[if_neg (by simp at h;omega)]
    have:k - min k c0.size=0:=by simp at h;omega
    rw[this];simp
  have h2:=hfold l 0 cs (by omega);simp only[Instr.fill,hl,qds,hll,qd7,qa2,hcs];rw[if_neg (by simp)]
  have h3:Array.foldl (fun cs (x:Value × Nat)=>cs.setIfInBounds (0+x.2) x.1) cs l.toArray.zipIdx=(l.zipIdx 0).foldl (fun cs (x:Value × Nat)=>cs.setIfInBounds (0+x.2) x.1) cs:=by
   rw[<-Array.foldl_toList];simp
  simp only[qa2]at h2 h3;rw[h3,h2];simp
 have hne:¬s=0:=by omega
 have hbig:¬16777216<s:=by omega
 simp[execOp,Instr.buildSlice,AM (Cw hu),Cc hs,hne,hbig,hz1,hx,hfill,newRow,newObj,Sem.run];rfl
theorem QF{t el:TypeId}{x y:Operand}{by':Nat}{z:Value}{k k2:IntKind}{i j:Int}(hg:AJ ⟨dst,.makeSlice t x y,ty,pos,af,g⟩ ops e=true)(hu:C2 P t=some el)(hs:BK P el=some 1)(hby:Gc P el=some by')(hz:BV P el=some [z])(hx:ev e x=.int k i)(hy:ev e y=.int k2 j)(H:Ctx w0 S w L)(h:∀b w',w.heap.size=b->Ctx w0 S w' ((b,Bl el (List.replicate j.toNat z))::L)->AB P r ops Q rest (put e dst (.slice (some ⟨b,0,none⟩) i.toNat j.toNat)) w')(h0:0<=i:=by omega)(h1:i<=j:=by omega)(h2:by'*j<=281474976710656:=by omega)(h3:j<=9223372036854775807:=by omega):
  AB P r ops Q (⟨dst,.makeSlice t x y,ty,pos,af,g⟩::rest) e w:=by
 obtain⟨zv,hz1,hz2⟩:=KO hz w
 have hzs:zv.cells.size=1:=by
  have:zv.cells.toList.length=1:=by rw[hz2];rfl
  simpa using this
 have hby2:∃i,P.info? el=some i/\i.bytes=by':=by
  unfold Gc at hby
  cases hi:P.info? el with
  |none=>rw[hi]at hby;cases hby
  |some i=>rw[hi]at hby;simp at hby;exact⟨i,rfl,hby⟩
 obtain⟨inf,hi,hib⟩:=hby2;have hti:∀w,(typeInfo el).run P w=.ok inf w:=fun w=>by simp[typeInfo,program,Sem.run,hi]
 have hw1:IntKind.i64.wrap i=i:=EM (k := .i64) (by simp[IntKind.min,IntKind.signed,IntKind.bits];omega) (by simp[IntKind.max,IntKind.signed,IntKind.bits];omega);have hw2:IntKind.i64.wrap j=j:=EM (k := .i64) (by simp[IntKind.min,IntKind.signed,IntKind.bits];omega) (by simp[IntKind.max,IntKind.signed,IntKind.bits];omega);have hroom:∀k w,(askRoom k).run P w=.ok () w:=fun k w=>by unfold askRoom;split <;> rfl
 refine Bt (w':=w.alloc (Bl el (List.replicate j.toNat z))) (v := .slice (some ⟨w.heap.size,0,none⟩) i.toNat j.toNat) hg U ?_ (h _ _ U (H.alloc _));have hn1:¬j<0:=by omega
 have hn2:¬(281474976710656<(by':Int)*j):=by omega
 have hn3:¬i<0:=by omega
 have hn4:¬j<i:=by omega
 have hcells:(Array.range j.toNat).map (fun q=>zv.cells[q % zv.cells.size]!)=(List.replicate j.toNat z).toArray:=by
  apply Array.ext
  .simp
  .intro q h1 h2;simp only[hzs,Nat.mod_one,Array.getElem_map,List.getElem_toArray,List.getElem_replicate]
   have:zv.cells=#[z]:=by apply qcd;rw[hz2]
   rw[this];rfl
 by_cases hj:j.toNat=0
 .have hj0:j=0:=by omega
  have hi0:i=0:=by omega
  subst hj0 hi0;simp[execOp,Instr.makeSlice,AM (Cw hu),hx,hy,asInt,asIntOf,hti,hw2,hroom,Cc hs,newRow,newObj,Sem.run];have hr0:(Array.range 0)=(#[]:Array Nat):=by apply qcd;simp
  rw[hr0,Array.map_empty];rfl
 .simp[execOp,Instr.makeSlice,AM (Cw hu),hx,hy,asInt,asIntOf,hti,hib,hw1,hw2,hn1,hn2,hn3,hn4,hroom,Cc hs,hj,hz1,newRow,newObj,Sem.run];rw[hcells];rfl
theorem KQ{P:Program}{w:World}{k:IntKind}{i:Int}{y:Nat}{code:BoundsCode}(h0:0<=i)(h1:i<=y):(Instr.sliceBound (.int k i) y code).run P w=.ok i.toNat w:=by
 simp[Instr.sliceBound,asIntOf,h0,h1]
def EL(a:Option Addr)(c i s:Nat):Option Addr:=if c=i then a else a.map (·.add (i*s))
theorem F8{t el:TypeId}{x y:Operand}{s:Nat}{a:Option Addr}{n c:Nat}{k:IntKind}{i:Int}(hu:C2 P t=some el)(hs:BK P el=some s)(hx:ev e x=.slice a n c)(hy:ev e y=.int k i)(h:AB P r ops Q rest (put e dst (.slice (EL a c i.toNat s) (n - i.toNat) (c - i.toNat))) w)(hg:AJ ⟨dst,.slice t x (some y) none none,ty,pos,af,g⟩ ops e=true:=by exact U)(h0:0<=i:=by omega)(h1:i<=n:=by omega):
  AB P r ops Q (⟨dst,.slice t x (some y) none none,ty,pos,af,g⟩::rest) e w :=
 Bt hg rfl (by simp[execOp,Instr.sliceAt,Instr.slice,Instr.sliceBounds,AM (Cw hu),hx,hy,KQ h0 h1,Cc hs,EL]) h
theorem Ei{t el:TypeId}{x y:Operand}{s:Nat}{a:Option Addr}{n c:Nat}{k:IntKind}{j:Int}(hu:C2 P t=some el)(hs:BK P el=some s)(hx:ev e x=.slice a n c)(hy:ev e y=.int k j)(h:AB P r ops Q rest (put e dst (.slice a j.toNat c)) w)(hg:AJ ⟨dst,.slice t x none (some y) none,ty,pos,af,g⟩ ops e=true:=by exact U)(h0:0<=j:=by omega)(h1:j<=c:=by omega):
  AB P r ops Q (⟨dst,.slice t x none (some y) none,ty,pos,af,g⟩::rest) e w :=
 Bt hg rfl (by
  have:∀a:Option Addr,(if c=0 then a else a.map (·.add (0*s)))=a:=by
   intro a;split
   .rfl
   .cases a with
    |none=>rfl
    |some p=>simp[Addr.add]
  simp[execOp,Instr.sliceAt,Instr.slice,Instr.sliceBounds,AM (Cw hu),hx,hy,KQ h0 h1,Cc hs]
  simpa using this a) h
theorem J8{t el:TypeId}{x y z:Operand}{s:Nat}{a:Option Addr}{n c:Nat}{k k2:IntKind}{i j:Int}(hg:AJ ⟨dst,.slice t x (some y) (some z) none,ty,pos,af,g⟩ ops e=true)(hu:C2 P t=some el)(hs:BK P el=some s)(hx:ev e x=.slice a n c)(hy:ev e y=.int k i)(hz:ev e z=.int k2 j)(h:AB P r ops Q rest (put e dst (.slice (EL a c i.toNat s) (j.toNat - i.toNat) (c - i.toNat))) w)(h0:0<=i:=by omega)(h1:i<=j:=by omega)(h2:j<=c:=by omega):
  AB P r ops Q (⟨dst,.slice t x (some y) (some z) none,ty,pos,af,g⟩::rest) e w :=
 Bt hg rfl (by
  have h3:i<=(j.toNat:Nat):=by omega
  simp[execOp,Instr.sliceAt,Instr.slice,Instr.sliceBounds,AM (Cw hu),hx,hy,hz,KQ (show 0<=j from by omega) h2,KQ h0 h3,Cc hs,EL]) h
theorem Adj{P:Program}{t el:TypeId}(hu:C2 P t=some el)(d:Nat)(a:Option Addr)(n c c2:Nat)(w:World) :
  (Op.equalIn (d+1) t (.slice a n c) (.slice none 0 c2)).run P w=.ok a.isNone w:=by
 cases a <;> simp[Op.equalIn,AM (Cw hu)]
theorem Zp{P:Program}{t el:TypeId}(hu:C2 P t=some el)(a:Option Addr)(n c c2:Nat)(w:World):(binOp .eql t (.slice a n c) (.slice none 0 c2)).run P w=.ok (.bool a.isNone) w:=by
 simp only[binOp,Sem.run_bind,Op.equal,Op.maxDepth,Adj hu 9999];cases a <;> rfl
theorem Us{t t2:TypeId}{x:Operand}{a:Option Addr}{n c c2:Nat}{el:TypeId}(hg:AJ ⟨dst,.binOp .eql t x (.const (.slice none 0 c2)) t2,ty,pos,af,g⟩ ops e=true)(hu:C2 P t=some el)(hx:ev e x=.slice a n c)(h:AB P r ops Q rest (put e dst (.bool a.isNone)) w):AB P r ops Q (⟨dst,.binOp .eql t x (.const (.slice none 0 c2)) t2,ty,pos,af,g⟩::rest) e w :=
 Bt hg rfl (by
  have hq:eqGuard .eql t x (.const (.slice none 0 c2)) (.slice a n c) (.slice none 0 c2)=pure ():=rfl;have he:ev e (.const (.slice none 0 c2))=.slice none 0 c2:=rfl
  simp only[execOp,hx,he,hq,Sem.run_bind,Sem.run_pure,Result.andThen_ok,Zp hu]) h
end
section
variable {P:Program}{r:Option Nat}{ops rest:List Oper}{Q:Exit->Env->World->Prop}{e:Env}{w w0:World}{S:List Nat}{L:List (Nat × Obj)}{dst:Option Tmp}{ty:TypeId}{pos:String}{af:Array Edge}{g:Option (Nat × Bool)}{C:World->Prop}{K:Env->Prop}
theorem GB{o:Oper}{v:Value}(hg:AJ o ops e=true)(hrun:∀w,C w->(execOp (ev e) o).run P w=.ok (.value v) w)(h:Wq P ops C K rest (put e o.dst v)):Wq P ops C K (o::rest) e:=by
 unfold Wq;rw[if_pos hg];exact⟨v,fun w hw=>by rw[hrun w hw];exact⟨rfl,rfl⟩,h⟩
theorem Jo(h:K e):Wq P ops C K [] e:=h
theorem HZ{t:TypeId}{x:Operand}{p:Addr}{v:Value}(ha:DV P t=some false)(hx:ev e x=.pointer (some p))(hc:∀w,C w->w.cell? p=some v)(h:Wq P ops C K rest (put e dst v))(hg:AJ ⟨dst,.load t x,ty,pos,af,g⟩ ops e=true:=by exact U):Wq P ops C K (⟨dst,.load t x,ty,pos,af,g⟩::rest) e :=
 GB hg (fun w hw=>by simp[execOp,hx,Instr.loadAt,Instr.sureAddr,Hp ha (hc w hw)]) h
theorem Abc{t t2:TypeId}{x:Operand}{b i k:Nat}{l:List Value}{v:Value}(hg:AJ ⟨dst,.load t x,ty,pos,af,g⟩ ops e=true)(ha:DV P t=some false)(hx:ev e x=.pointer (some ⟨b,i,none⟩))(H:∀w,C w->Ctx w0 S w L)(hk:L[k]?=some (b,Bl t2 l))(hc:l[i]?=some v)(h:Wq P ops C K rest (put e dst v)):Wq P ops C K (⟨dst,.load t x,ty,pos,af,g⟩::rest) e :=
 HZ (hg:=hg) ha hx (fun w hw=>by rw[Ar ((H w hw).get hk)];exact hc) h
section
variable {t t2:TypeId}{x y:Operand}{k:IntKind}{a b:Int}
theorem q_lss(hg:AJ ⟨dst,.binOp .lss t x y t2,ty,pos,af,g⟩ ops e=true)(hx:ev e x=.int k a)(hy:ev e y=.int k b)(h:Wq P ops C K rest (put e dst (.bool (decide (a<b))))) :
  Wq P ops C K (⟨dst,.binOp .lss t x y t2,ty,pos,af,g⟩::rest) e:=GB hg (fun w _=>BU hx hy (by simp[binOp,Op.intCmp])) h
theorem q_gtr(hg:AJ ⟨dst,.binOp .gtr t x y t2,ty,pos,af,g⟩ ops e=true)(hx:ev e x=.int k a)(hy:ev e y=.int k b)(h:Wq P ops C K rest (put e dst (.bool (decide (b<a))))) :
  Wq P ops C K (⟨dst,.binOp .gtr t x y t2,ty,pos,af,g⟩::rest) e:=GB hg (fun w _=>BU hx hy (by simp[binOp,Op.intCmp])) h
theorem q_neq(hg:AJ ⟨dst,.binOp .neq t x y t2,ty,pos,af,g⟩ ops e=true)(hx:ev e x=.int k a)(hy:ev e y=.int k b)(h:Wq P ops C K rest (put e dst (.bool (!decide (a=b))))) :
  Wq P ops C K (⟨dst,.binOp .neq t x y t2,ty,pos,af,g⟩::rest) e :=
 GB hg (fun w _=>BU hx hy (v := .bool (!decide (a=b))) (by simp[binOp,Op.intCmp];rfl)) h
theorem q_quo(hg:AJ ⟨dst,.binOp .quo t x y t2,ty,pos,af,g⟩ ops e=true)(hx:ev e x=.int k a)(hy:ev e y=.int k b)(h0:0<=a)(hb:0<b)(h2:a<=k.max)(h:Wq P ops C K rest (put e dst (.int k (a / b)))):Wq P ops C K (⟨dst,.binOp .quo t x y t2,ty,pos,af,g⟩::rest) e:=by
 refine GB hg (fun w _=>BU hx hy (v := .int k (a / b)) ?_) h;have h3:a.tdiv b=a / b:=qes h0;have h4:0<=a / b:=Int.ediv_nonneg h0 (by omega);have h5:a / b<=a:=Int.ediv_le_self _ h0;have h6:k.min<=0:=by cases k <;> decide
 simp[binOp,Op.intDiv,h3,show ¬b=0 from by omega,EM (k:=k) (n:=a / b) (by omega) (by omega)]
theorem q_rem(hg:AJ ⟨dst,.binOp .rem t x y t2,ty,pos,af,g⟩ ops e=true)(hx:ev e x=.int k a)(hy:ev e y=.int k b)(h0:0<=a)(hb:0<b)(h:Wq P ops C K rest (put e dst (.int k (a % b)))):Wq P ops C K (⟨dst,.binOp .rem t x y t2,ty,pos,af,g⟩::rest) e:=by
 refine GB hg (fun w _=>BU hx hy (v := .int k (a % b)) ?_) h;have h3:a.tmod b=a % b:=qe9 h0;simp[binOp,Op.intDiv,h3,show ¬b=0 from by omega]
theorem A7(hx:ev e x=.int .i64 a)(hy:ev e y=.int .i64 b)(h:AB P r ops Q rest (put e dst (.int .i64 (a+b))) w)(hg:AJ ⟨dst,.binOp .add t x y t2,ty,pos,af,g⟩ ops e=true:=by exact U)(h1: -9223372036854775808<=a+b:=by omega)(h2:a+b<=9223372036854775807:=by omega):AB P r ops Q (⟨dst,.binOp .add t x y t2,ty,pos,af,g⟩::rest) e w:=Bt hg rfl (BU hx hy (by simp[binOp,Op.intArith,EM (k := .i64) (n:=a+b) h1 h2])) h
theorem Fi(hx:ev e x=.int .i64 a)(hy:ev e y=.int .i64 b)(h:Wq P ops C K rest (put e dst (.int .i64 (a+b))))(hg:AJ ⟨dst,.binOp .add t x y t2,ty,pos,af,g⟩ ops e=true:=by exact U)(h1: -9223372036854775808<=a+b:=by omega)(h2:a+b<=9223372036854775807:=by omega):Wq P ops C K (⟨dst,.binOp .add t x y t2,ty,pos,af,g⟩::rest) e:=GB hg (fun w _=>BU hx hy (by simp[binOp,Op.intArith,EM (k := .i64) (n:=a+b) h1 h2])) h
theorem BB(hx:ev e x=.int .i64 a)(hy:ev e y=.int .i64 b)(h:AB P r ops Q rest (put e dst (.int .i64 (a - b))) w)(hg:AJ ⟨dst,.binOp .sub t x y t2,ty,pos,af,g⟩ ops e=true:=by exact U)(h1: -9223372036854775808<=a - b:=by omega)(h2:a - b<=9223372036854775807:=by omega):AB P r ops Q (⟨dst,.binOp .sub t x y t2,ty,pos,af,g⟩::rest) e w:=Bt hg rfl (BU hx hy (by simp[binOp,Op.intArith,EM (k := .i64) (n:=a - b) h1 h2])) h
theorem Ut(hg:AJ ⟨dst,.binOp .sub t x y t2,ty,pos,af,g⟩ ops e=true)(hx:ev e x=.int .i64 a)(hy:ev e y=.int .i64 b)(h:Wq P ops C K rest (put e dst (.int .i64 (a - b))))(h1: -9223372036854775808<=a - b:=by omega)(h2:a - b<=9223372036854775807:=by omega):Wq P ops C K (⟨dst,.binOp .sub t x y t2,ty,pos,af,g⟩::rest) e:=GB hg (fun w _=>BU hx hy (by simp[binOp,Op.intArith,EM (k := .i64) (n:=a - b) h1 h2])) h
theorem Gn(hx:ev e x=.int .i64 a)(hy:ev e y=.int .i64 b)(h:AB P r ops Q rest (put e dst (.int .i64 (a*b))) w)(hg:AJ ⟨dst,.binOp .mul t x y t2,ty,pos,af,g⟩ ops e=true:=by exact U)(h1: -9223372036854775808<=a*b:=by omega)(h2:a*b<=9223372036854775807:=by omega):AB P r ops Q (⟨dst,.binOp .mul t x y t2,ty,pos,af,g⟩::rest) e w:=Bt hg rfl (BU hx hy (by simp[binOp,Op.intArith,EM (k := .i64) (n:=a*b) h1 h2])) h
theorem Ej{s d:TypeId}{ds:TypeDesc}(hx:ev e x=.int k a)(hs:P.underlying s=some ds)(hd:P.underlying d=some (.int .i64))(h:AB P r ops Q rest (put e dst (.int .i64 a)) w)(hg:AJ ⟨dst,.convert s d x,ty,pos,af,g⟩ ops e=true:=by exact U)(h1: -9223372036854775808<=a:=by omega)(h2:a<=9223372036854775807:=by omega):AB P r ops Q (⟨dst,.convert s d x,ty,pos,af,g⟩::rest) e w:=VJ hg hx hs hd h1 h2 h
theorem PX{s d:TypeId}{ds:TypeDesc}(hg:AJ ⟨dst,.convert s d x,ty,pos,af,g⟩ ops e=true)(hx:ev e x=.int k a)(hs:P.underlying s=some ds)(hd:P.underlying d=some (.int .u32))(h:AB P r ops Q rest (put e dst (.int .u32 a)) w)(h1:0<=a:=by omega)(h2:a<=4294967295:=by omega):AB P r ops Q (⟨dst,.convert s d x,ty,pos,af,g⟩::rest) e w:=VJ hg hx hs hd h1 h2 h
theorem Kh(hg:AJ ⟨dst,.binOp .add t x y t2,ty,pos,af,g⟩ ops e=true)(hx:ev e x=.int .u64 a)(hy:ev e y=.int .u64 b)(h:AB P r ops Q rest (put e dst (.int .u64 (a+b))) w)(h1:0<=a+b:=by omega)(h2:a+b<=18446744073709551615:=by omega):AB P r ops Q (⟨dst,.binOp .add t x y t2,ty,pos,af,g⟩::rest) e w:=Bt hg rfl (BU hx hy (by simp[binOp,Op.intArith,EM (k := .u64) (n:=a+b) h1 h2])) h
theorem DP{s d:TypeId}{ds:TypeDesc}(hx:ev e x=.int k a)(hs:P.underlying s=some ds)(hd:P.underlying d=some (.int .u64))(h:AB P r ops Q rest (put e dst (.int .u64 a)) w)(hg:AJ ⟨dst,.convert s d x,ty,pos,af,g⟩ ops e=true:=by exact U)(h1:0<=a:=by omega)(h2:a<=18446744073709551615:=by omega):AB P r ops Q (⟨dst,.convert s d x,ty,pos,af,g⟩::rest) e w:=VJ hg hx hs hd h1 h2 h
end
theorem Rr{x:Operand}(hg:AJ ⟨dst,.move x,ty,pos,af,g⟩ ops e=true)(v:Value)(hx:ev e x=v)(h:Wq P ops C K rest (put e dst v)) :
  Wq P ops C K (⟨dst,.move x,ty,pos,af,g⟩::rest) e:=GB hg (fun w _=>by simp[execOp,hx]) h
theorem Ru{x:Operand}(hg:AJ ⟨dst,.assign x,ty,pos,af,g⟩ ops e=true)(v:Value)(hx:ev e x=v)(h:Wq P ops C K rest (put e dst v)) :
  Wq P ops C K (⟨dst,.assign x,ty,pos,af,g⟩::rest) e:=GB hg (fun w _=>by simp[execOp,hx]) h
theorem Abd{c a b:Operand}(hg:AJ ⟨dst,.pick c a b,ty,pos,af,g⟩ ops e=true)(hc:ev e c=.bool false)(v:Value)(hx:ev e b=v)(h:Wq P ops C K rest (put e dst v)) :
  Wq P ops C K (⟨dst,.pick c a b,ty,pos,af,g⟩::rest) e:=GB hg (fun w _=>by simp[execOp,hc,hx,asBool]) h
theorem q_not{t:TypeId}{x:Operand}{b:Bool}(hg:AJ ⟨dst,.unOp .not t x,ty,pos,af,g⟩ ops e=true)(hx:ev e x=.bool b)(h:Wq P ops C K rest (put e dst (.bool (!b)))) :
  Wq P ops C K (⟨dst,.unOp .not t x,ty,pos,af,g⟩::rest) e:=GB hg (fun w _=>by simp[execOp,hx,Op.unary]) h
theorem Eo{x:Operand}{p:Addr}(hx:ev e x=.pointer (some p))(h:Wq P ops C K rest (put e dst (.pointer (some p))))(hg:AJ ⟨dst,.nilCheck x,ty,pos,af,g⟩ ops e=true:=by exact U):
  Wq P ops C K (⟨dst,.nilCheck x,ty,pos,af,g⟩::rest) e:=GB hg (fun w _=>by simp[execOp,hx]) h
theorem WJ{t el:TypeId}{x y:Operand}{b o n c s:Nat}{k:IntKind}{i:Int}(hg:AJ ⟨dst,.indexAddr t x y,ty,pos,af,g⟩ ops e=true)(hu:C2 P t=some el)(hs:BK P el=some s)(hx:ev e x=.slice (some ⟨b,o,none⟩) n c)(hy:ev e y=.int k i)(h0:0<=i)(h1:i<n)(h:Wq P ops C K rest (put e dst (.pointer (some ⟨b,o+i.toNat*s,none⟩)))) :
  Wq P ops C K (⟨dst,.indexAddr t x y,ty,pos,af,g⟩::rest) e :=
 GB hg (fun w _=>by simp[execOp,hx,hy,Instr.indexAt,asIntOf,AM (Cw hu),h0,h1,Cc hs,Dy]) h
theorem Em{t el:TypeId}{x y:Operand}{a:Option Addr}{n c s:Nat}{k:IntKind}{i:Int}{α:Type}{enc:α->List Value}{xs:List α}{w1:World}(R:Rd w1 a s enc xs)(hu:C2 P t=some el)(hs:BK P el=some s)(hx:ev e x=.slice a n c)(hy:ev e y=.int k i)(h:Wq P ops C K rest (put e dst (.pointer (some ⟨(adr a).block,(adr a).off+i.toNat*s,none⟩))))(hg:AJ ⟨dst,.indexAddr t x y,ty,pos,af,g⟩ ops e=true:=by exact U)(h0:0<=i:=by omega)(h1:i<n:=by omega)(hn:n=xs.length:=by omega):
  Wq P ops C K (⟨dst,.indexAddr t x y,ty,pos,af,g⟩::rest) e:=by
 obtain⟨b,o,rfl⟩:=R.some' (by rintro rfl;simp at hn;omega);exact WJ hg hu hs hx hy h0 h1 h
theorem Uu{t:TypeId}{x:Operand}{a:Option Addr}{n c:Nat}{el:TypeId}(hg:AJ ⟨dst,.call ⟨.builtin .len,#[x],#[t]⟩,ty,pos,af,g⟩ ops e=true)(hu:C2 P t=some el)(hx:ev e x=.slice a n c)(h:Wq P ops C K rest (put e dst (.int .i64 n))) :
  Wq P ops C K (⟨dst,.call ⟨.builtin .len,#[x],#[t]⟩,ty,pos,af,g⟩::rest) e :=
 GB hg (fun w _=>by simp[execOp,resolve,invoke,builtin,hx,Builtin.len_,AM (Cw hu),goInt]) h
theorem Uv{x:Operand}{i:Nat}{vs:Array Value}{v:Value}(hg:AJ ⟨dst,.extract x i,ty,pos,af,g⟩ ops e=true)(hx:ev e x=.tuple vs)(hv:vs[i]?=some v)(h:Wq P ops C K rest (put e dst v)) :
  Wq P ops C K (⟨dst,.extract x i,ty,pos,af,g⟩::rest) e :=
 GB hg (fun w _=>by simp[execOp,hx,Instr.extract,hv]) h
theorem BP{t:TypeId}{x:Operand}{i b o off:Nat}(hf:BH P t i=some off)(hx:ev e x=.pointer (some ⟨b,o,none⟩))(h:Wq P ops C K rest (put e dst (.pointer (some ⟨b,o+off,none⟩))))(hg:AJ ⟨dst,.fieldAddr t x i,ty,pos,af,g⟩ ops e=true:=by exact U):
  Wq P ops C K (⟨dst,.fieldAddr t x i,ty,pos,af,g⟩::rest) e:=by
 unfold BH at hf
 split at hf
 .rename_i fs hu
  split at hf
  .rename_i f hf1
   split at hf
   .rename_i s hs
    injection hf with hf
    subst hf;exact GB hg (fun w _=>by simp[execOp,hx,Instr.fieldAt,AM hu,hf1,Instr.sureAddr,fieldPlace,Cc hs,Dy]) h
   .cases hf
  .cases hf
 .cases hf
theorem CG{fn:Fn}{cap:Array Operand}(l:List Value)(hl:cap.toList.map (ev e)=l)(h:AB P r ops Q rest (put e dst (.func fn #[] l.toArray)) w)(hg:AJ ⟨dst,.makeFunc fn #[] cap,ty,pos,af,g⟩ ops e=true:=by exact U):
  AB P r ops Q (⟨dst,.makeFunc fn #[] cap,ty,pos,af,g⟩::rest) e w:=by
 refine PW hg ?_
 have:cap.map (ev e)=l.toArray:=by subst hl;apply qcd;simp only[qcz]
 rw[this,Array.map_empty];exact h
theorem BO{t t2 el el2:TypeId}{x y:Operand}{s by':Nat}{zl:List Value}(hu:C2 P t=some el)(hu2:C2 P t2=some el2)(hs:BK P el=some s)(hby:Gc P el=some by')(hz:BV P el=some zl)(hzl:zl.length=s){a:Option Addr}{n c m c2 b2:Nat}{t3:TypeId}{full l new:List Value}(hx:ev e x=.slice a n c)(hy:ev e y=.slice (some ⟨b2,0,none⟩) m c2)(H:Ctx w0 S w ((b2,Bl t3 new)::(L++ent a el full)))(O:OS a n c s full l)(hn:new.length=m*s)(h1:∀v∈new,Bi v=true)(h:∀a' c' full' w',Ctx w0 S w' (L++ent a' el full')->OS a' (n+m) c' s full' (l++new)->AB P r ops Q rest (put e dst (.slice a' (n+m) c')) w')(hg:AJ ⟨dst,.call ⟨.builtin .append,#[x,y],#[t,t2]⟩,ty,pos,af,g⟩ ops e=true:=by exact U)(hpos:0<by':=by decide)(hbound:(2*(n+m)+768)*by'<=281474976710656:=by omega):
  AB P r ops Q (⟨dst,.call ⟨.builtin .append,#[x,y],#[t,t2]⟩,ty,pos,af,g⟩::rest) e w :=
 DS hg hu hu2 hs hby hz hzl (hpos:=hpos) new hx hy H.tail O hn h1 (fun j v hv=>⟨_,rfl,by rw[Dy,qa2,Ar (H.get at0)];exact hv⟩) (hbound:=hbound) h
end
section
variable {w0 w w':World}{S:List Nat}{L L1 L2 L1':List (Nat × Obj)}
theorem Ctx.back(H:Ctx w0 S w (L1++L2))(H':Ctx w (L1.map (·.1)) w' L1'):Ctx w0 S w' (L1'++L2):=by
 have hd:=qca.1 H.nd
 have hk:∀x∈L1',(∃y∈L1,y.1=x.1)\/w.heap.size<=x.1:=fun x hx=>by
  rcases H'.own x hx with h|h
  .rw[qah]at h;exact .inl h
  .exact .inr h
 have hn2:∀y∈L2,y.1∉L1.map (·.1):=fun y hy hm=>by
  rw[qah]at hm;obtain⟨x,hx,he⟩:=hm;exact hd.2.2 x hx y hy he
 refine⟨H.ext.then H'.ext ?_,?_,?_,?_⟩
 .intro x hx;rw[qah]at hx;obtain⟨y,hy,rfl⟩:=hx;exact H.own y (qa5 _ hy)
 .intro x hx
  rcases qau.1 hx with hx|hx
  .exact H'.blk x hx
  .have hb:=H.blk x (qax _ hx);rw[H'.ext.block x.1 (Al hb) (hn2 x hx)];exact hb
 .rw[qca];refine⟨H'.nd,hd.2.1,fun x hx y hy=>?_⟩;have hly:=Al (H.blk y (qax _ hy))
  rcases hk x hx with⟨z,hz,he⟩|h
  .rw[<-he];exact hd.2.2 z hz y hy
  .omega
 .intro x hx
  rcases qau.1 hx with hx|hx
  .rcases hk x hx with⟨z,hz,he⟩|h
   .rw[<-he];exact H.own z (qa5 _ hz)
   .exact .inr (qav H.size h)
  .exact H.own x (qax _ hx)
theorem Ctx.app_nil(H:Ctx w0 S w L):Ctx w0 S w (L++[]):=by simpa using H
theorem Ctx.nil_app(H:Ctx w0 S w (L++[])):Ctx w0 S w L:=by simpa using H
end
section
variable {w:World}{α:Type}{a:Option Addr}{s:Nat}{enc:α->List Value}{xs:List α}
theorem Rd.row(R:Rd w a s enc xs){i:Nat}{x:α}(hx:xs[i]?=some x)(hs:(enc x).length=s):∀j v,(enc x)[j]?=some v->w.cell? ⟨(adr a).block,(adr a).off+i*s+j,none⟩=some v :=
 fun j v hv=>R.cell i x hx j v hv (by rw[<-hs];exact(qaq.1 hv).1)
theorem Rd.fld(R:Rd w a s enc xs){i j:Nat}{x:α}{v:Value}(hx:xs[i]?=some x)(hs:(enc x).length=s)(hv:(enc x)[j]?=some v):w.cell? ⟨(adr a).block,(adr a).off+i*s+j,none⟩=some v:=R.row hx hs j v hv
theorem Rd.one{f:α->Value}(R:Rd w a 1 (fun x=>[f x]) xs){i:Nat}{x:α}(hx:xs[i]?=some x):w.cell? ⟨(adr a).block,(adr a).off+i*1,none⟩=some (f x):=by
 have:=R.cell i x hx 0 (f x) rfl (by omega)
 simpa using this
theorem Rd.app1{f:α->Value}(R:Rd w a 1 (fun x=>[f x]) xs):∀j v,(xs.map f)[j]?=some v->∃p,a=some p/\w.cell? (p.add j)=some v:=by
 intro j v hv;rw[qat]at hv
 cases hx:xs[j]? with
 |none=>rw[hx]at hv;cases hv
 |some x =>
  rw[hx]at hv
  injection hv with hv
  subst hv;obtain⟨b,o,rfl⟩:=R.some' (by rintro rfl;simp at hx);refine⟨_,rfl,?_⟩;rw[Dy];have:=R.one hx
  simpa[adr]using this
theorem Agl(hs:∀x∈xs,(enc x).length=s)(h0:0<s):∀j,(xs.flatMap enc)[j]? = (xs[j / s]?).bind fun x=>(enc x)[j % s]? := by
 induction xs with
 |nil=>intro j;simp
 |cons x xs ih =>
  intro j;have hx:=hs x (by simp);have ih:=ih (fun y hy=>hs y (by simp[hy]));simp only[qcc]
  by_cases hj:j<s
  .rw[qdj (by omega),Nat.div_eq_of_lt hj,qa9 hj];rfl
  .rw[qc8 (by omega),hx,ih];have h1:j / s=(j - s) / s+1:=by rw[Nat.div_eq_sub_div h0 (by omega)]
   have h2:j % s=(j - s) % s:=by rw[Nat.mod_eq_sub_mod (by omega)]
   rw[h1,h2];rfl
theorem Rd.app(R:Rd w a s enc xs)(hs:∀x∈xs,(enc x).length=s)(h0:0<s):∀j v,(xs.flatMap enc)[j]?=some v->∃p,a=some p/\w.cell? (p.add j)=some v:=by
 intro j v hv;rw[Agl hs h0]at hv
 cases hx:xs[j / s]? with
 |none=>rw[hx]at hv;cases hv
 |some x =>
  rw[hx]at hv;have hc:=R.cell _ x hx _ v hv (qbl _ h0);obtain⟨b,o,rfl⟩:=R.some' (by rintro rfl;simp at hx);refine⟨_,rfl,?_⟩;rw[Dy];simp only[adr]at hc;rw[<-hc]
  congr 2
  have:=Nat.div_add_mod j s;rw[qd9]at this;omega
theorem Rd.take(R:Rd w a s enc xs)(n:Nat):Rd w a s enc (xs.take n) :=
 ⟨fun h=>R.some' (by rintro rfl;simp at h),fun i x hx j v hv hj=>R.cell i x (by
  rw[qdt]at hx
  split at hx
  .exact hx
  .cases hx) j v hv hj⟩
theorem Rd.cut(R:Rd w a s enc xs)(n c:Nat)(hc:xs.length<=c):Rd w (EL a c n s) s enc (xs.drop n):=by
 unfold EL
 by_cases hn:c=n
 .subst hn;rw[qb7 hc];exact Rd.nil
 .rw[if_neg hn];refine⟨fun h=>?_,fun i x hx j v hv hj=>?_⟩
  .obtain⟨b,o,rfl⟩:=R.some' (by rintro rfl;simp at h);exact⟨b,o+n*s,by simp[Dy]⟩
  .rw[qcm]at hx;obtain⟨b,o,rfl⟩:=R.some' (by rintro rfl;simp at hx);have:=R.cell (n+i) x hx j v hv hj;simp only[adr,qbc,Dy]at this |-;rw[<-this]
   congr 2
   rw[qco];omega
end
section
variable {P:Program}{r:Option Nat}{ops rest:List Oper}{Q:Exit->Env->World->Prop}{e:Env}{w w0:World}{S:List Nat}{L:List (Nat × Obj)}{dst:Option Tmp}{ty:TypeId}{pos:String}{af:Array Edge}{g:Option (Nat × Bool)}
theorem JF{t el:TypeId}{s:Nat}(hg:AJ ⟨dst,.buildSlice t 0 #[],ty,pos,af,g⟩ ops e=true)(hu:C2 P t=some el)(hs:BK P el=some s)(H:Ctx w0 S w L)(h:∀b w',Ctx w0 S w' (L++ent (some ⟨b,0,none⟩) el [])->OS (some ⟨b,0,none⟩) 0 0 s [] []->AB P r ops Q rest (put e dst (.slice (some ⟨b,0,none⟩) 0 0)) w') :
  AB P r ops Q (⟨dst,.buildSlice t 0 #[],ty,pos,af,g⟩::rest) e w:=by
 refine Bt (w':=w.alloc (Bl el [])) (v := .slice (some ⟨w.heap.size,0,none⟩) 0 0) hg U ?_ (h _ _ (Ctx.comm (L:=[(w.heap.size,Bl el [])]) (H.alloc _)) ⟨(fun p hp=>by injection hp with hp;subst hp;rfl),(fun hp=>by cases hp),by simp,qae _,by simp⟩);have hr0:(Array.range 0)=(#[]:Array Nat):=by apply qcd;simp
 simp[execOp,Instr.buildSlice,AM (Cw hu),Cc hs,hr0,Instr.fill,newRow,newObj,Sem.run];rfl
end
theorem Uw{α:Type}{n i:Nat}{f:Nat->α}(h:i<n):((List.range n).map f)[i]?=some (f i):=by
 rw[qat,qdu h];rfl
section
variable {P:Program}{r:Option Nat}{ops rest:List Oper}{Q:Exit->Env->World->Prop}{e:Env}{w w0:World}{S:List Nat}{L:List (Nat × Obj)}{dst:Option Tmp}{ty:TypeId}{pos:String}{af:Array Edge}{g:Option (Nat × Bool)}{C:World->Prop}{K:Env->Prop}
end
theorem AO{α:Type}{l:List α}{i:Nat}(h:i<l.length:=by omega):∃x,l[i]?=some x:=⟨l[i],qbd h⟩
theorem Zq{α:Type}{l:List α}{i:Nat}{x:α}(h:l[i]?=some x):i<l.length:=(qaq.1 h).1
theorem Bp{α:Type}{l:List α}{i:Nat}{x:α}(h:l[i]?=some x):l.take (i+1)=l.take i++[x]:=by
 rw[List.take_add_one,h];rfl
structure Fresh(w w':World)(el:TypeId)(s:Nat)(v:Value)(l:List Value):Prop where
 ex:∃a n c full,v=.slice a n c/\OS a n c s full l/\∀x∈ent a el full,w'.heap[x.1]?=some x.2/\w.heap.size<=x.1
 ext:Ext [] w w'
theorem KR{a:Option Addr}{t:TypeId}{full:List Value}:(ent a t full).Pairwise fun x y=>x.1≠y.1:=by
 cases a <;> simp[ent]
theorem Ctx.fresh{w0 w:World}{L:List (Nat × Obj)}{a:Option Addr}{el:TypeId}{full l:List Value}{n c s:Nat}(H:Ctx w0 [] w (L++ent a el full))(O:OS a n c s full l):Fresh w0 w el s (.slice a n c) l :=
 ⟨⟨a,n,c,full,rfl,O,fun x hx=>⟨H.blk x (qax _ hx),by
  rcases H.own x (qax _ hx)with h|h
  .cases h
  .exact h⟩⟩,H.ext⟩
theorem Fresh.nil{w0 w:World}{L:List (Nat × Obj)}(H:Ctx w0 [] w L)(el:TypeId)(s:Nat):Fresh w0 w el s (.slice none 0 0) [] :=
 ⟨⟨none,0,0,[],rfl,OS.nil,by simp[ent]⟩,H.ext⟩
theorem Abe{α:Type}{f:α->Value}(xs:List α):xs.flatMap (fun x=>[f x])=xs.map f:=by
 induction xs with
 |nil=>rfl
 |cons x xs ih=>simp[ih]
theorem OS.rd1{α:Type}{w:World}{a:Option Addr}{n c:Nat}{t:TypeId}{full:List Value}{f:α->Value}{xs:List α}(h:OS a n c 1 full (xs.map f))(hb:∀x∈ent a t full,w.heap[x.1]?=some x.2) :
  Rd w a 1 (fun x=>[f x]) xs:=OS.rd (by rw[Abe];exact h) hb (by simp) (by omega)
theorem OS.num{α:Type}{a:Option Addr}{n c:Nat}{full:List Value}{f:α->Value}{xs:List α}(h:OS a n c 1 full (xs.map f)):n=xs.length:=by
 have:=h.llen;simpa using this.symm
theorem OS.numN{α:Type}{a:Option Addr}{n c s:Nat}{full:List Value}{enc:α->List Value}{xs:List α}(h:OS a n c s full (xs.flatMap enc))(hs:∀x∈xs,(enc x).length=s)(h0:0<s):n=xs.length:=by
 have h1:=h.llen
 have h2:∀xs:List α,(∀x∈xs,(enc x).length=s)->(xs.flatMap enc).length=xs.length*s:=by
  intro xs
  induction xs with
  |nil=>simp
  |cons x xs ih =>
   intro hs;simp only[qcc,qan,qaw,qco,Nat.one_mul];rw[ih (fun y hy=>hs y (by simp[hy])),hs x (by simp)];omega
 rw[h2 xs hs]at h1;exact(Nat.eq_of_mul_eq_mul_right h0 h1).symm
def EV{α:Type}(m:List (Int × α))(k:Int):Option α:=(m.find? fun p=>p.1 == k).map (·.2)
def JG{α:Type}:List (Int × α)->Int->α->List (Int × α)
 | [],k,v=>[(k,v)]
 |p::m,k,v=>if p.1=k then(k,v)::m else p::JG m k v
def mdel{α:Type}:List (Int × α)->Int->List (Int × α)
 | [],_=>[]
 |p::m,k=>if p.1=k then m else p::mdel m k
theorem RA{α:Type}(k:Int):EV ([]:List (Int × α)) k=none:=rfl
theorem OY{α:Type}(m:List (Int × α))(k:Int)(v:α)(k':Int):EV (JG m k v) k'=if k'=k then some v else EV m k':=by
 induction m with
 |nil =>
  unfold JG EV
  by_cases h:k'=k
  .subst h;simp
  .simp[h,Ne.symm h]
 |cons p m ih =>
  unfold JG
  by_cases hp:p.1=k
  .rw[if_pos hp];unfold EV
   by_cases h:k'=k
   .subst h;simp
   .have h1:(k == k')=false:=by simpa using Ne.symm h
    have h2:(p.1 == k')=false:=by rw[hp];exact h1
    simp[h1,h2,h]
  .rw[if_neg hp];unfold EV at ih |-
   by_cases h:p.1=k'
   .have h2:¬k'=k:=fun e=>hp (h.trans e);simp[h,h2]
   .have h1:(p.1 == k')=false:=by simpa using h
    simp only[qda,h1];exact ih
theorem Adk{α:Type}(m:List (Int × α))(k:Int)(v:α):∀x,x∈(JG m k v).map (·.1)↔x=k\/x∈m.map (·.1):=by
 induction m with
 |nil=>intro x;simp[JG]
 |cons p m ih =>
  intro x;unfold JG
  by_cases hp:p.1=k
  .rw[if_pos hp];simp[hp]
  .rw[if_neg hp];simp only[qay,qac,ih];constructor
   .rintro(h|h|h)
    .exact .inr (.inl h)
    .exact .inl h
    .exact .inr (.inr h)
   .rintro(h|h|h)
    .exact .inr (.inl h)
    .exact .inl h
    .exact .inr (.inr h)
def Ki(kk:IntKind)(m:List (Int × Value))(o:Obj):Prop :=
 ∃es clock,o=.map es clock/\es.toList.map (fun e=>(e.key,e.val))=m.map (fun p=>(Value.int kk p.1,p.2))/\(∀e∈es.toList,e.born<clock)/\(es.toList.map (·.born)).Nodup
theorem Kj(kk:IntKind)(n:Int):∀(es:List MapEntry) (m:List (Int × Value)) (i:Nat),es.map (fun e=>(e.key,e.val))=m.map (fun p=>(Value.int kk p.1,p.2)) ->
  (EV m n=none->Instr.findNow (.int kk) (.int kk n) es i=some none) /\
  (∀v,EV m n=some v->∃j,Instr.findNow (.int kk) (.int kk n) es i=some (some (i+j,v))/\j<es.length/\∀(v':Value),(es.modify j fun e=>{ e with key := .int kk n,val:=v' }).map (fun e=>(e.key,e.val))=(JG m n v').map (fun p=>(Value.int kk p.1,p.2))/\((es[j]?).map (·.key))=some (.int kk n) /\
   (es.eraseIdx j).map (fun e=>(e.key,e.val))=(mdel m n).map (fun p=>(Value.int kk p.1,p.2)))
 | [],m,i,h=>by
  cases m with
  |nil=>exact⟨fun _=>rfl,fun v hv=>by cases hv⟩
  |cons p m=>cases h
 |e::es,m,i,h=>by
  cases m with
  |nil=>cases h
  |cons p m =>
   simp only[qay,qdl,qdb]at h;obtain⟨⟨hk,hv⟩,ht⟩:=h;have ih:=Kj kk n es m (i+1) ht;have hs:Instr.sameNow (.int kk) (.int kk n) e.key=some (n == p.1):=by rw[hk];simp[Instr.sameNow]
   by_cases hn:p.1=n
   .have hb:(n == p.1)=true:=by simp[hn]
    have hg:EV (p::m) n=some p.2:=by simp[EV,hn]
    refine⟨(fun h=>by rw[hg]at h;cases h),fun v hv'=>?_⟩;rw[hg]at hv'
    injection hv' with hv'
    subst hv';refine⟨0,by simp[Instr.findNow,hs,hb,hv],by simp,fun v'=>⟨?_,by simp[hk,hn],?_⟩⟩
    .simp[JG,hn,ht,List.modify]
    .simp[mdel,hn,ht]
   .have hb:(n == p.1)=false:=by simpa using Ne.symm hn
    have hb2:(p.1 == n)=false:=by simpa using hn
    have hg:EV (p::m) n=EV m n:=by simp[EV,hb2]
    rw[hg];refine⟨fun h=>by simp[Instr.findNow,hs,hb,ih.1 h],fun v hv'=>?_⟩;obtain⟨j,h1,h2,h3⟩:=ih.2 v hv';refine⟨j+1,by simp[Instr.findNow,hs,hb,h1];omega,by simp;omega,fun v'=>?_⟩;obtain⟨a1,a2,a3⟩:=h3 v';refine⟨?_,by simpa using a2,?_⟩
    .simp only[qfa,qay,JG,if_neg hn,a1,hk,hv]
    .simp only[List.eraseIdx_cons_succ,qay,mdel,if_neg hn,a3,hk,hv]
def IF(P:Program)(t:TypeId):Option (TypeId × TypeId):=match P.underlying t with|some (.map k e)=>some (k,e)|_=>none
theorem Fs{P:Program}{t k e:TypeId}(h:IF P t=some (k,e)):P.underlying t=some (.map k e):=by
 unfold IF at h
 split at h
 .rename_i hu;injection h with h;cases h;exact hu
 .cases h
section
variable {P:Program}{r:Option Nat}{ops rest:List Oper}{Q:Exit->Env->World->Prop}{e:Env}{w w0:World}{S:List Nat}{L:List (Nat × Obj)}{dst:Option Tmp}{ty:TypeId}{pos:String}{af:Array Edge}{g:Option (Nat × Bool)}
theorem FO{b:Bool}{k:TypeId}{kk:IntKind}(hk:P.underlying k=some (.int kk))(v:Value)(w:World)(d:Nat):(Instr.checkKey b (d+1) k v).run P w=.ok () w:=by
 simp[Instr.checkKey,AM hk]
theorem RC{t:TypeId}(kk:IntKind)(hg:AJ ⟨dst,.makeMap t none,ty,pos,af,g⟩ ops e=true)(H:Ctx w0 S w L)(h:∀b o w',Ki kk [] o->Ctx w0 S w' ((b,o)::L)->AB P r ops Q rest (put e dst (.map (some b))) w') :
  AB P r ops Q (⟨dst,.makeMap t none,ty,pos,af,g⟩::rest) e w:=by
 refine Bt (w':=w.alloc (.map #[] 0)) (v := .map (some w.heap.size)) hg U ?_ (h _ _ _ ⟨#[],0,rfl,rfl,by simp,by simp⟩ (H.alloc _));simp[execOp,Instr.makeMap,newObj,Sem.run]
theorem Adl{t k el:TypeId}{kk:IntKind}{x y:Operand}{b j:Nat}{o:Obj}{m:List (Int × Value)}{n:Int}{z:Value}(hg:AJ ⟨dst,.lookup t x y false,ty,pos,af,g⟩ ops e=true)(ht:IF P t=some (k,el))(hk:P.underlying k=some (.int kk))(hz:(P.info? el).bind (·.zero)=some z)(hx:ev e x=.map (some b))(hy:ev e y=.int kk n)(H:Ctx w0 S w L)(hl:L[j]?=some (b,o))(hM:Ki kk m o)(h:AB P r ops Q rest (put e dst ((EV m n).getD z)) w):AB P r ops Q (⟨dst,.lookup t x y false,ty,pos,af,g⟩::rest) e w:=by
 obtain⟨es,clock,rfl,hes,_⟩:=hM;have hb:=H.get hl;have hf:=Kj kk n es.toList m 0 hes;have hgo:(getObj b).run P w=.ok (.map es clock) w:=by simp[getObj,Sem.run,hb]
 have hzr:(zeroValue el).run P w=.ok z w:=by
  cases hi:P.info? el with
  |none=>rw[hi]at hz;cases hz
  |some i=>rw[hi]at hz;simp at hz;simp[zeroValue,typeInfo,program,Sem.run,hi,hz]
 refine Bt hg U ?_ h
 cases hm:EV m n with
 |none=>simp[execOp,Instr.lookup,AM (Fs ht),hx,hy,hgo,FO hk,Instr.findKey,AM hk,hf.1 hm,hzr]
 |some v =>
  obtain⟨i,hi,_⟩:=hf.2 v hm;simp[execOp,Instr.lookup,AM (Fs ht),hx,hy,hgo,FO hk,Instr.findKey,AM hk,hi]
theorem MI{t k el:TypeId}{kk:IntKind}{b j:Nat}{o:Obj}{m:List (Int × Value)}{n:Int}(v:Value)(ht:IF P t=some (k,el))(hk:P.underlying k=some (.int kk))(H:Ctx w0 S w L)(hl:L[j]?=some (b,o))(hM:Ki kk m o) :
  ∃o' w',(Instr.mapUpdate t (.map (some b)) (.int kk n) v).run P w=.ok () w'/\Ki kk (JG m n v) o'/\Ctx w0 S w' (L.set j (b,o')):=by
 obtain⟨es,clock,rfl,hes,hbn,hnd⟩:=hM;have hb:=H.get hl;have hf:=Kj kk n es.toList m 0 hes;have hgo:(getObj b).run P w=.ok (.map es clock) w:=by simp[getObj,Sem.run,hb]
 have hso:∀o',(setObj b o').run P w=.ok () (w.putObj b o'):=fun o'=>by simp[setObj,Sem.run,hb,World.putObj]
 cases hm:EV m n with
 |none =>
  refine⟨.map (es.push { key := .int kk n,val:=v,born:=clock }) (clock+1),w.putObj b _,?_,⟨_,_,rfl,?_,?_,?_⟩,H.setB hl _⟩
  .simp[Instr.mapUpdate,AM (Fs ht),hgo,FO hk,Instr.findKey,AM hk,hf.1 hm,hso]
  .have hms:JG m n v=m++[(n,v)]:=by
    clear hes hf
    induction m with
    |nil=>rfl
    |cons p m ih =>
     have hp:¬p.1=n:=by
      intro hp;simp[EV,hp]at hm
     have hb2:(p.1 == n)=false:=by simpa using hp
     have hm2:EV m n=none:=by rw[<-hm];simp[EV,hb2]
     simp[JG,hp,ih hm2]
   rw[hms];simp[hes]
  .intro x hx;simp only[qet,qau,qaa]at hx
   rcases hx with hx|rfl
   .have:=hbn x hx;omega
   .simp
  .simp only[qet,qaz,qay,qbn];rw[qdm];refine⟨hnd,by simp,?_⟩;intro x hx y hy;simp only[qaa]at hy;subst hy;rw[qah]at hx;obtain⟨e',he',rfl⟩:=hx;have:=hbn e' he';omega
 |some v0 =>
  obtain⟨i,hi,hil,h3⟩:=hf.2 v0 hm;obtain⟨a1,a2,_⟩:=h3 v;have hkts:(Instr.keyThatStays (.int kk n) (.int kk n)).run P w=.ok (.int kk n) w:=by simp[Instr.keyThatStays,Instr.sameBits]
  have hold:((es[i]?).map (·.key)).getD (.int kk n)=.int kk n:=by
   have:es[i]?=es.toList[i]? := by rw[qdi]
   rw[this,a2];rfl
  refine⟨.map (es.modify i fun e=>{ e with key := .int kk n,val:=v }) clock,w.putObj b _,?_,⟨_,_,rfl,?_,?_,?_⟩,H.setB hl _⟩
  .simp[Instr.mapUpdate,AM (Fs ht),hgo,FO hk,Instr.findKey,AM hk,hi,hold,hkts,hso]
  .rw[qdv];exact a1
  .intro x hx;rw[qdv,qcg]at hx;obtain⟨q,hq⟩:=hx;rw[qcq]at hq
   cases hq2:es.toList[q]? with
   |none=>rw[hq2]at hq;simp at hq
   |some y =>
    rw[hq2]at hq;have hy:=hbn y (qad hq2)
    injection hq with hq
    subst hq;dsimp only
    split <;> exact hy
  .rw[qdv]
   have:(es.toList.modify i fun e=>{ e with key := .int kk n,val:=v }).map (·.born)=es.toList.map (·.born):=by
    apply qci;intro q;rw[qat,qat,qcq]
    cases es.toList[q]? with
    |none=>rfl
    |some y=>show some (Value.map none,(if i=q then _ else y).born).2=some y.born;split <;> rfl
   rw[this];exact hnd
theorem VM{t k el:TypeId}{kk:IntKind}{x y z:Operand}{b j:Nat}{o:Obj}{m:List (Int × Value)}{n:Int}(v:Value)(hg:AJ ⟨dst,.mapUpdate t x y z,ty,pos,af,g⟩ ops e=true)(ht:IF P t=some (k,el))(hk:P.underlying k=some (.int kk))(hx:ev e x=.map (some b))(hy:ev e y=.int kk n)(hv:ev e z=v)(H:Ctx w0 S w L)(hl:L[j]?=some (b,o))(hM:Ki kk m o)(h:∀o' w',Ki kk (JG m n v) o'->Ctx w0 S w' (L.set j (b,o'))->AB P r ops Q rest (put e dst undef) w'):AB P r ops Q (⟨dst,.mapUpdate t x y z,ty,pos,af,g⟩::rest) e w:=by
 obtain⟨o',w',hr,hM',H'⟩:=MI (n:=n) v ht hk H hl hM;exact N8 hg U (by simp[execOp,hx,hy,hv,hr]) (h o' w' hM' H')
end
section
variable {P:Program}{r:Option Nat}{n:Nat}{Q:Exit->Env->World->Prop}{e:Env}{w:World}
theorem DC{x y:Code}(d:Tmp){b:Bool}(hd:e.g d=.bool b)(h1:b=true->W P r n x Q (put e (some d) (.bool true)) w)(h2:b=false->W P r n y Q (put e (some d) (.bool false)) w) :
  W P r n (.cond (.tmp d) x y) Q e w:=by
 refine Au b hd (fun h=>?_) (fun h=>?_)
 .have h3:=h1 h;rw[Ii (by rw[hd,h])]at h3;exact h3
 .have h3:=h2 h;rw[Ii (by rw[hd,h])]at h3;exact h3
end
def EC(P:Program)(t:TypeId):Option (List (Nat × Nat)) :=
 match P.underlying t with
 |some (.struct fs)=>fs.toList.mapM (fun f=>(P.info? f.type).map fun i=>(f.offset,i.size))
 |_=>none
section
variable {P:Program}{r:Option Nat}{ops rest:List Oper}{Q:Exit->Env->World->Prop}{e:Env}{w w0:World}{S:List Nat}{L:List (Nat × Obj)}{dst:Option Tmp}{ty:TypeId}{pos:String}{af:Array Edge}{g:Option (Nat × Bool)}
theorem WK{t:TypeId}{pl:List (Nat × Nat)}{zl:List Value}{ps:List (Nat × Value)}{l:Array Value}(hp:EC P t=some pl)(hz:BV P t=some zl)(hl:Instr.fill (fun i=>pl.toArray[i]?) zl.toArray ps=some l):P.built t ps=some l:=by
 unfold EC at hp;unfold BV at hz;unfold Program.built
 cases hu:P.underlying t with
 |none=>rw[hu]at hp;cases hp
 |some d =>
  rw[hu]at hp
  cases hi:P.info? t with
  |none=>rw[hi]at hz;cases hz
  |some it =>
   rw[hi]at hz
   cases hzz:it.zero with
   |none=>simp[hzz]at hz
   |some z =>
    simp only[qd5,hzz,qbc,qbb]at hz;subst hz
    cases d <;> first|(cases hp;done)|skip
    rename_i fields
    have hp':fields.toList.mapM (fun f=>(P.info? f.type).map fun i=>(f.offset,i.size))=some pl:=hp;simp only[hzz,hp']
    simpa using hl
theorem B2{t:TypeId}{parts:Array (Nat × Operand)}{pl:List (Nat × Nat)}{zl:List Value}(l:List Value)(hp:EC P t=some pl)(hz:BV P t=some zl)(h:AB P r ops Q rest (put e dst (.agg l.toArray)) w)(hg:AJ ⟨dst,.build t parts,ty,pos,af,g⟩ ops e=true:=by exact U)(hl:Instr.fill (fun i=>pl.toArray[i]?) zl.toArray (parts.toList.map fun p=>(p.1,ev e p.2))=some l.toArray:=by kernel_rfl):
  AB P r ops Q (⟨dst,.build t parts,ty,pos,af,g⟩::rest) e w:=by
 refine Bt hg U ?_ h;have hb:P.built t (parts.map fun(i,x)=>(i,ev e x)).toList=some l.toArray:=WK hp hz (by rw[qcz];exact hl);simp[execOp,run_build w t _ _ hb]
theorem Cb{t el:TypeId}{n:Nat}{parts:Array (Nat × Operand)}{s:Nat}{zl:List Value}(l:List Value)(hu:C2 P t=some el)(hs:BK P el=some s)(hz:BV P el=some zl)(H:Ctx w0 S w L)(h:∀b w',w.heap.size=b->Ctx w0 S w' ((b,Bl el l)::L)->AB P r ops Q rest (put e dst (.slice (some ⟨b,0,none⟩) n n)) w')(hg:AJ ⟨dst,.buildSlice t n parts,ty,pos,af,g⟩ ops e=true:=by exact U)(hn:¬n*s=0:=by decide)(hbig:¬16777216<n*s:=by decide)(hl:Instr.fill (fun i=>some (i*s,s)) ((Array.range (n*s)).map fun k=>zl.toArray[k % zl.toArray.size]!) (parts.toList.map fun p=>(p.1,ev e p.2))=some l.toArray:=by kernel_rfl):
  AB P r ops Q (⟨dst,.buildSlice t n parts,ty,pos,af,g⟩::rest) e w:=by
 obtain⟨z,hz1,hz2⟩:=KO hz w;have hzc:z.cells=zl.toArray:=by apply qcd;rw[hz2]
 refine Bt (w':=w.alloc (Bl el l)) (v := .slice (some ⟨w.heap.size,0,none⟩) n n) hg U ?_ (h _ _ U (H.alloc _));have hf:Instr.fill (fun i=>some (i*s,s)) ((Array.range (n*s)).map fun k=>zl.toArray[k % zl.toArray.size]!) (parts.map fun(i,x)=>(i,ev e x)).toList=some l.toArray:=by rw[qcz];exact hl
 simp only[execOp,Instr.buildSlice,Sem.run_bind,AM (Cw hu),Cc hs,Result.andThen_ok,if_neg hbig,if_neg hn,hz1,Sem.run_pure,hzc];rw[hf];simp[newRow,newObj,Sem.run];rfl
theorem Alh{fn:Func}{R:Value->World->Prop}{a:Tmp}{t:TypeId}{p:Addr}{v:Value}(hr:fn.results=#[.cell a t])(hd:e.ds=[])(ha:e.g a=.pointer (some p))(hv:(loadVar t p).run P w=.ok v w)(h:R v w):OR P fn R .ret e w :=
 ⟨hd,fun tmps ht=>by
  have h1:=(ht a).trans ha;rw[qbt]at h1
  exact⟨v,by simp[results,hr,h1,asAddr,hv],h⟩⟩
theorem NA{fn:Func}{R:Value->World->Prop}{a:Tmp}{t t2:TypeId}{b k s:Nat}{l:List Value}(hr:fn.results=#[.cell a t])(hd:e.ds=[])(ha:e.g a=.pointer (some ⟨b,0,none⟩))(hag:DV P t=some true)(hs:BK P t=some s)(H:Ctx w0 S w L)(hk:L[k]?=some (b,Bl t2 l))(hl:l.length=s)(h:R (.agg l.toArray) w):OR P fn R .ret e w :=
 Alh hr hd ha (JE hag hs hl (fun j v hv=>by rw[Ar (H.get hk),qa2];exact hv)) h
end
theorem JH{k:IntKind}(hk:k.signed=false)(a:Nat):k.wrap (a:Int)=((a % 2 ^ k.bits:Nat):Int):=by
 unfold IntKind.wrap;rw[hk];simp
theorem OZ(n a:Nat):BitVec.ofInt n (a:Int)=BitVec.ofNat n a:=by
 apply BitVec.eq_of_toNat_eq;rw[BitVec.toNat_ofInt,BitVec.toNat_ofNat]
 norm_cast
theorem Agm{k:IntKind}(hk:k.signed=false){a b:Nat}(ha:a<2 ^ k.bits)(hb:b<2 ^ k.bits):Op.intBits .and k a b=pure (.int k ((a &&& b:Nat):Int)):=by
 have hx:a &&& b<2 ^ k.bits:=Nat.lt_of_le_of_lt Nat.and_le_left ha;simp only[Op.intBits,OZ];rw[JH hk,BitVec.toNat_and,BitVec.toNat_ofNat,BitVec.toNat_ofNat,qa9 ha,qa9 hb,qa9 hx]
theorem Abf{k:IntKind}(hk:k.signed=false){a b:Nat}(ha:a<2 ^ k.bits)(hb:b<2 ^ k.bits):Op.intBits .or k a b=pure (.int k ((a ||| b:Nat):Int)):=by
 have hx:a ||| b<2 ^ k.bits:=Nat.or_lt_two_pow ha hb
 simp only[Op.intBits,OZ];rw[JH hk,BitVec.toNat_or,BitVec.toNat_ofNat,BitVec.toNat_ofNat,qa9 ha,qa9 hb,qa9 hx]
theorem WL{k:IntKind}(hk:k.signed=false){a b:Nat}(ha:a<2 ^ k.bits)(hb:b<2 ^ k.bits):Op.intBits .xor k a b=pure (.int k ((a ^^^ b:Nat):Int)):=by
 have hx:a ^^^ b<2 ^ k.bits:=Nat.xor_lt_two_pow ha hb;simp only[Op.intBits,OZ];rw[JH hk,BitVec.toNat_xor,BitVec.toNat_ofNat,BitVec.toNat_ofNat,qa9 ha,qa9 hb,qa9 hx]
theorem Abg{k k2:IntKind}{a n:Nat}(hn:n<=k.bits):Op.shift .shr k (a:Int) k2 (n:Int)=pure (.int k ((a / 2 ^ n:Nat):Int)):=by
 unfold Op.shift;rw[if_neg (by omega)];have hm:min ((n:Int)).toNat k.bits=n:=by rw[qbo];exact Nat.min_eq_left hn
 simp only[hm]
 congr 2
 have:((2:Int) ^ n)=((2 ^ n:Nat):Int):=by norm_cast
 rw[this,Int.fdiv_eq_ediv_of_nonneg _ (Int.natCast_nonneg _)]
 norm_cast
theorem Abh{k k2:IntKind}(hk:k.signed=false){a n:Nat}(hn:n<=k.bits):Op.shift .shl k (a:Int) k2 (n:Int)=pure (.int k ((a*2 ^ n % 2 ^ k.bits:Nat):Int)):=by
 unfold Op.shift;rw[if_neg (by omega)];have hm:min ((n:Int)).toNat k.bits=n:=by rw[qbo];exact Nat.min_eq_left hn
 simp only[hm]
 congr 2
 have:(a:Int)*(2:Int) ^ n=((a*2 ^ n:Nat):Int):=by norm_cast
 rw[this,JH hk]
theorem Agn{P:Program}{k:IntKind}(hk:k.signed=false)(t:TypeId)(a b:Nat)(w:World):(binOp .mul t (.int k (a:Int)) (.int k (b:Int))).run P w=.ok (.int k (((a*b) % 2 ^ k.bits:Nat):Int)) w:=by
 have h1:(a:Int)*(b:Int)=((a*b:Nat):Int):=by norm_cast
 simp only[binOp,ne_eq,not_true_eq_false,if_false,Op.intArith,h1,JH hk];rfl
section
variable {P:Program}{r:Option Nat}{ops rest:List Oper}{Q:Exit->Env->World->Prop}{e:Env}{w w0:World}{S:List Nat}{L:List (Nat × Obj)}{dst:Option Tmp}{ty:TypeId}{pos:String}{af:Array Edge}{g:Option (Nat × Bool)}{C:World->Prop}{K:Env->Prop}{t t2:TypeId}{x y:Operand}{a b n:Nat}{s d:TypeId}
theorem Ago{k:IntKind}(hk:k.signed=false)(hx:ev e x=.int k a)(ha:a<2 ^ k.bits) :
  (execOp (ev e) ⟨dst,.unOp .xor t x,ty,pos,af,g⟩).run P w=.ok (.value (.int k (((2 ^ k.bits - 1) ^^^ a:Nat):Int))) w:=by
 have hp:=Nat.two_pow_pos k.bits;have h1:=WL hk (a:=2 ^ k.bits - 1) (b:=a) (by omega) ha
 have h2:(if k.signed then(-1:Int)else k.max)=((2 ^ k.bits - 1:Nat):Int):=by
  rw[hk];simp only[qdn,if_false,IntKind.max,hk];rw[Int.natCast_sub hp]
  norm_cast
 simp[execOp,hx,Op.unary,h2,h1]
theorem Adm{k k1:IntKind}{ds:TypeDesc}(hk:k.signed=false)(hx:ev e x=.int k1 a)(hs:P.underlying s=some ds)(hd:P.underlying d=some (.int k)) :
  (execOp (ev e) ⟨dst,.convert s d x,ty,pos,af,g⟩).run P w=.ok (.value (.int k ((a % 2 ^ k.bits:Nat):Int))) w:=by
 simp[execOp,hx,convert,AM hs,AM hd,Conv.intToInt,JH hk]
theorem PZ(hg:AJ ⟨dst,.convert s d x,ty,pos,af,g⟩ ops e=true){k1:IntKind}{ds:TypeDesc}(hx:ev e x=.int k1 a)(hs:P.underlying s=some ds)(hd:P.underlying d=some (.int .u8))(h:AB P r ops Q rest (put e dst (.int .u8 ((a % 256:Nat):Int))) w):AB P r ops Q (⟨dst,.convert s d x,ty,pos,af,g⟩::rest) e w :=
 Bt hg rfl (Adm (k := .u8) rfl hx hs hd) h
theorem Zr(hg:AJ ⟨dst,.binOp .and t x y t2,ty,pos,af,g⟩ ops e=true)(hx:ev e x=.int .u32 a)(hy:ev e y=.int .u32 b)(h:AB P r ops Q rest (put e dst (.int .u32 ((a &&& b:Nat):Int))) w)(ha:a<4294967296:=by omega)(hb:b<4294967296:=by omega):AB P r ops Q (⟨dst,.binOp .and t x y t2,ty,pos,af,g⟩::rest) e w :=
 Bt hg rfl (BU hx hy (by show(Op.intBits .and .u32 (a:Int) (b:Int)).run P w=_;rw[Agm rfl (by exact ha) (by exact hb)];rfl)) h
theorem Adn(hg:AJ ⟨dst,.binOp .or t x y t2,ty,pos,af,g⟩ ops e=true)(hx:ev e x=.int .u32 a)(hy:ev e y=.int .u32 b)(h:AB P r ops Q rest (put e dst (.int .u32 ((a ||| b:Nat):Int))) w)(ha:a<4294967296:=by omega)(hb:b<4294967296:=by omega):AB P r ops Q (⟨dst,.binOp .or t x y t2,ty,pos,af,g⟩::rest) e w :=
 Bt hg rfl (BU hx hy (by show(Op.intBits .or .u32 (a:Int) (b:Int)).run P w=_;rw[Abf rfl (by exact ha) (by exact hb)];rfl)) h
theorem RE(hg:AJ ⟨dst,.binOp .xor t x y t2,ty,pos,af,g⟩ ops e=true)(hx:ev e x=.int .u32 a)(hy:ev e y=.int .u32 b)(h:AB P r ops Q rest (put e dst (.int .u32 ((a ^^^ b:Nat):Int))) w)(ha:a<4294967296:=by omega)(hb:b<4294967296:=by omega):AB P r ops Q (⟨dst,.binOp .xor t x y t2,ty,pos,af,g⟩::rest) e w :=
 Bt hg rfl (BU hx hy (by show(Op.intBits .xor .u32 (a:Int) (b:Int)).run P w=_;rw[WL rfl (by exact ha) (by exact hb)];rfl)) h
theorem RF(hg:AJ ⟨dst,.binOp .shr t x y t2,ty,pos,af,g⟩ ops e=true){k2:IntKind}(hx:ev e x=.int .u32 a)(hy:ev e y=.int k2 n)(h:AB P r ops Q rest (put e dst (.int .u32 ((a / 2 ^ n:Nat):Int))) w)(hn:n<=32:=by omega):AB P r ops Q (⟨dst,.binOp .shr t x y t2,ty,pos,af,g⟩::rest) e w :=
 Bt hg rfl (BU hx hy (by show(Op.shift .shr .u32 (a:Int) k2 (n:Int)).run P w=_;rw[Abg (by exact hn)];rfl)) h
theorem Zs(hg:AJ ⟨dst,.binOp .shl t x y t2,ty,pos,af,g⟩ ops e=true){k2:IntKind}(hx:ev e x=.int .u32 a)(hy:ev e y=.int k2 n)(h:AB P r ops Q rest (put e dst (.int .u32 ((a*2 ^ n % 4294967296:Nat):Int))) w)(hn:n<=32:=by omega):AB P r ops Q (⟨dst,.binOp .shl t x y t2,ty,pos,af,g⟩::rest) e w :=
 Bt hg rfl (BU hx hy (by show(Op.shift .shl .u32 (a:Int) k2 (n:Int)).run P w=_;rw[Abh rfl (by exact hn)];rfl)) h
theorem WM(hg:AJ ⟨dst,.binOp .mul t x y t2,ty,pos,af,g⟩ ops e=true)(hx:ev e x=.int .u32 a)(hy:ev e y=.int .u32 b)(h:AB P r ops Q rest (put e dst (.int .u32 (((a*b) % 4294967296:Nat):Int))) w):AB P r ops Q (⟨dst,.binOp .mul t x y t2,ty,pos,af,g⟩::rest) e w :=
 Bt hg rfl (BU hx hy (Agn (k := .u32) rfl t a b _)) h
theorem RG(hg:AJ ⟨dst,.unOp .xor t x,ty,pos,af,g⟩ ops e=true)(hx:ev e x=.int .u32 a)(h:AB P r ops Q rest (put e dst (.int .u32 ((4294967295 ^^^ a:Nat):Int))) w)(ha:a<4294967296:=by omega):AB P r ops Q (⟨dst,.unOp .xor t x,ty,pos,af,g⟩::rest) e w :=
 Bt hg rfl (Ago (k := .u32) rfl hx (by exact ha)) h
theorem Ado(hg:AJ ⟨dst,.binOp .or t x y t2,ty,pos,af,g⟩ ops e=true)(hx:ev e x=.int .u64 a)(hy:ev e y=.int .u64 b)(ha:a<18446744073709551616)(h:AB P r ops Q rest (put e dst (.int .u64 ((a ||| b:Nat):Int))) w)(hb:b<18446744073709551616:=by omega):AB P r ops Q (⟨dst,.binOp .or t x y t2,ty,pos,af,g⟩::rest) e w :=
 Bt hg rfl (BU hx hy (by show(Op.intBits .or .u64 (a:Int) (b:Int)).run P w=_;rw[Abf rfl (by exact ha) (by exact hb)];rfl)) h
theorem RH(hg:AJ ⟨dst,.binOp .shr t x y t2,ty,pos,af,g⟩ ops e=true){k2:IntKind}(hx:ev e x=.int .u64 a)(hy:ev e y=.int k2 n)(h:AB P r ops Q rest (put e dst (.int .u64 ((a / 2 ^ n:Nat):Int))) w)(hn:n<=64:=by omega):AB P r ops Q (⟨dst,.binOp .shr t x y t2,ty,pos,af,g⟩::rest) e w :=
 Bt hg rfl (BU hx hy (by show(Op.shift .shr .u64 (a:Int) k2 (n:Int)).run P w=_;rw[Abg (by exact hn)];rfl)) h
theorem Zt(hg:AJ ⟨dst,.binOp .shl t x y t2,ty,pos,af,g⟩ ops e=true){k2:IntKind}(hx:ev e x=.int .u64 a)(hy:ev e y=.int k2 n)(h:AB P r ops Q rest (put e dst (.int .u64 ((a*2 ^ n % 18446744073709551616:Nat):Int))) w)(hn:n<=64:=by omega):AB P r ops Q (⟨dst,.binOp .shl t x y t2,ty,pos,af,g⟩::rest) e w :=
 Bt hg rfl (BU hx hy (by show(Op.shift .shl .u64 (a:Int) k2 (n:Int)).run P w=_;rw[Abh rfl (by exact hn)];rfl)) h
end
section
variable {P:Program}{r:Option Nat}{ops rest:List Oper}{Q:Exit->Env->World->Prop}{e:Env}{w w0:World}{S:List Nat}{L:List (Nat × Obj)}{dst:Option Tmp}{ty:TypeId}{pos:String}{af:Array Edge}{g:Option (Nat × Bool)}{C:World->Prop}{K:Env->Prop}
theorem EJ{o:Oper}{v:Value}(hg:AJ o ops e=true)(hrun:∀w,lax o=true\/C w->(execOp (ev e) o).run P w=.ok (.value v) w)(h:Wt P ops C K rest (put e o.dst v)):Wt P ops C K (o::rest) e:=by
 unfold Wt;rw[if_pos hg];exact⟨v,hrun,h⟩
theorem Zu{o:Oper}{v:Value}(hl:lax o=false)(hg:AJ o ops e=true)(hrun:∀w,C w->(execOp (ev e) o).run P w=.ok (.value v) w)(h:Wt P ops C K rest (put e o.dst v)):Wt P ops C K (o::rest) e :=
 EJ hg (fun w hw=>hrun w (hw.resolve_left (by rw[hl];simp))) h
theorem Co{o:Oper}(hg:AJ o ops e=false)(h:Wt P ops C K rest (put e o.dst undef)):Wt P ops C K (o::rest) e:=by
 unfold Wt;rw[if_neg (by rw[hg];simp)];exact h
theorem AU(h:K e):Wt P ops C K [] e:=h
theorem WN{l:List Oper}(d:Tmp){b:Bool}(c:Bool)(hd:e.g d=.bool b)(hb:b=c)(h:Wt P ops C K l (put e (some d) (.bool c))):Wt P ops C K l e:=by
 subst hb;rw[Ii hd]at h;exact h
theorem KS{l:List Oper}(d:Tmp){b:Bool}(hd:e.g d=.bool b)(h1:b=true->Wt P ops C K l (put e (some d) (.bool true)))(h2:b=false->Wt P ops C K l (put e (some d) (.bool false))):Wt P ops C K l e:=by
 cases b with
 |true=>exact WN d true hd rfl (h1 rfl)
 |false=>exact WN d false hd rfl (h2 rfl)
section
variable {t t2:TypeId}{x y:Operand}{k:IntKind}{a b:Int}
theorem BG{t:TypeId}{x:Operand}{p:Addr}{v:Value}(ha:DV P t=some false)(hx:ev e x=.pointer (some p))(hc:∀w,C w->w.cell? p=some v)(h:Wt P ops C K rest (put e dst v))(hg:AJ ⟨dst,.load t x,ty,pos,af,g⟩ ops e=true:=by exact U):Wt P ops C K (⟨dst,.load t x,ty,pos,af,g⟩::rest) e :=
 Zu rfl hg (fun w hw=>by simp[execOp,hx,Instr.loadAt,Instr.sureAddr,Hp ha (hc w hw)]) h
theorem Ux{t t2:TypeId}{x:Operand}{b i k:Nat}{l:List Value}{v:Value}(hg:AJ ⟨dst,.load t x,ty,pos,af,g⟩ ops e=true)(ha:DV P t=some false)(hx:ev e x=.pointer (some ⟨b,i,none⟩))(H:∀w,C w->Ctx w0 S w L)(hk:L[k]?=some (b,Bl t2 l))(hc:l[i]?=some v)(h:Wt P ops C K rest (put e dst v)):Wt P ops C K (⟨dst,.load t x,ty,pos,af,g⟩::rest) e :=
 BG (hg:=hg) ha hx (fun w hw=>by rw[Ar ((H w hw).get hk)];exact hc) h
theorem Qa{t:TypeId}{x:Operand}{b o s:Nat}(l:List Value)(ha:DV P t=some true)(hs:BK P t=some s)(hx:ev e x=.pointer (some ⟨b,o,none⟩))(hl:l.length=s)(hc:∀w,C w->∀j v,l[j]?=some v->w.cell? ⟨b,o+j,none⟩=some v)(h:Wt P ops C K rest (put e dst (.agg l.toArray)))(hg:AJ ⟨dst,.load t x,ty,pos,af,g⟩ ops e=true:=by exact U):Wt P ops C K (⟨dst,.load t x,ty,pos,af,g⟩::rest) e :=
 Zu rfl hg (fun w hw=>by simp[execOp,hx,Instr.loadAt,Instr.sureAddr,JE ha hs hl (hc w hw)]) h
theorem t_lss(hg:AJ ⟨dst,.binOp .lss t x y t2,ty,pos,af,g⟩ ops e=true)(hx:ev e x=.int k a)(hy:ev e y=.int k b)(h:Wt P ops C K rest (put e dst (.bool (decide (a<b))))) :
  Wt P ops C K (⟨dst,.binOp .lss t x y t2,ty,pos,af,g⟩::rest) e:=EJ hg (fun w _=>BU hx hy (by simp[binOp,Op.intCmp])) h
theorem Ann(hg:AJ ⟨dst,.binOp .gtr t x y t2,ty,pos,af,g⟩ ops e=true)(hx:ev e x=.int k a)(hy:ev e y=.int k b)(h:Wt P ops C K rest (put e dst (.bool (decide (b<a))))) :
  Wt P ops C K (⟨dst,.binOp .gtr t x y t2,ty,pos,af,g⟩::rest) e:=EJ hg (fun w _=>BU hx hy (by simp[binOp,Op.intCmp])) h
theorem t_geq(hg:AJ ⟨dst,.binOp .geq t x y t2,ty,pos,af,g⟩ ops e=true)(hx:ev e x=.int k a)(hy:ev e y=.int k b)(h:Wt P ops C K rest (put e dst (.bool (decide (b<=a))))) :
  Wt P ops C K (⟨dst,.binOp .geq t x y t2,ty,pos,af,g⟩::rest) e:=EJ hg (fun w _=>BU hx hy (by simp[binOp,Op.intCmp])) h
theorem t_eql(hg:AJ ⟨dst,.binOp .eql t x y t2,ty,pos,af,g⟩ ops e=true)(hx:ev e x=.int k a)(hy:ev e y=.int k b)(h:Wt P ops C K rest (put e dst (.bool (decide (a=b))))) :
  Wt P ops C K (⟨dst,.binOp .eql t x y t2,ty,pos,af,g⟩::rest) e :=
 EJ hg (fun w _=>BU hx hy (v := .bool (decide (a=b))) (by simp[binOp,Op.intCmp];rfl)) h
theorem Ano(hg:AJ ⟨dst,.binOp .neq t x y t2,ty,pos,af,g⟩ ops e=true)(hx:ev e x=.int k a)(hy:ev e y=.int k b)(h:Wt P ops C K rest (put e dst (.bool (!decide (a=b))))) :
  Wt P ops C K (⟨dst,.binOp .neq t x y t2,ty,pos,af,g⟩::rest) e :=
 EJ hg (fun w _=>BU hx hy (v := .bool (!decide (a=b))) (by simp[binOp,Op.intCmp];rfl)) h
theorem Anp(hg:AJ ⟨dst,.binOp .rem t x y t2,ty,pos,af,g⟩ ops e=true)(hx:ev e x=.int k a)(hy:ev e y=.int k b)(h:Wt P ops C K rest (put e dst (.int k (a % b))))(h0:0<=a:=by omega)(hb:0<b:=by omega):Wt P ops C K (⟨dst,.binOp .rem t x y t2,ty,pos,af,g⟩::rest) e:=by
 refine EJ hg (fun w _=>BU hx hy (v := .int k (a % b)) ?_) h;have h3:a.tmod b=a % b:=qe9 h0;simp[binOp,Op.intDiv,h3,show ¬b=0 from by omega]
theorem Fk(hx:ev e x=.int .i64 a)(hy:ev e y=.int .i64 b)(h:Wt P ops C K rest (put e dst (.int .i64 (a+b))))(hg:AJ ⟨dst,.binOp .add t x y t2,ty,pos,af,g⟩ ops e=true:=by exact U)(h1: -9223372036854775808<=a+b:=by omega)(h2:a+b<=9223372036854775807:=by omega):Wt P ops C K (⟨dst,.binOp .add t x y t2,ty,pos,af,g⟩::rest) e:=EJ hg (fun w _=>BU hx hy (by simp[binOp,Op.intArith,EM (k := .i64) (n:=a+b) h1 h2])) h
theorem Iu(hg:AJ ⟨dst,.binOp .sub t x y t2,ty,pos,af,g⟩ ops e=true)(hx:ev e x=.int .i64 a)(hy:ev e y=.int .i64 b)(h:Wt P ops C K rest (put e dst (.int .i64 (a - b))))(h1: -9223372036854775808<=a - b:=by omega)(h2:a - b<=9223372036854775807:=by omega):Wt P ops C K (⟨dst,.binOp .sub t x y t2,ty,pos,af,g⟩::rest) e:=EJ hg (fun w _=>BU hx hy (by simp[binOp,Op.intArith,EM (k := .i64) (n:=a - b) h1 h2])) h
theorem Uy(hg:AJ ⟨dst,.binOp .add t x y t2,ty,pos,af,g⟩ ops e=true)(hx:ev e x=.int .u64 a)(hy:ev e y=.int .u64 b)(h:Wt P ops C K rest (put e dst (.int .u64 (a+b))))(h1:0<=a+b:=by omega)(h2:a+b<=18446744073709551615:=by omega):Wt P ops C K (⟨dst,.binOp .add t x y t2,ty,pos,af,g⟩::rest) e:=EJ hg (fun w _=>BU hx hy (by simp[binOp,Op.intArith,EM (k := .u64) (n:=a+b) h1 h2])) h
theorem Zv{s d:TypeId}{ds:TypeDesc}(hg:AJ ⟨dst,.convert s d x,ty,pos,af,g⟩ ops e=true)(hx:ev e x=.int k a)(hs:P.underlying s=some ds)(hd:P.underlying d=some (.int .u64))(h:Wt P ops C K rest (put e dst (.int .u64 a)))(h1:0<=a:=by omega)(h2:a<=18446744073709551615:=by omega):Wt P ops C K (⟨dst,.convert s d x,ty,pos,af,g⟩::rest) e :=
 EJ hg (fun w _=>by simp[execOp,hx,convert,AM hs,AM hd,Conv.intToInt,EM (k := .u64) (n:=a) h1 h2]) h
theorem Na{x:Operand}(hg:AJ ⟨dst,.move x,ty,pos,af,g⟩ ops e=true)(v:Value)(hx:ev e x=v)(h:Wt P ops C K rest (put e dst v)) :
  Wt P ops C K (⟨dst,.move x,ty,pos,af,g⟩::rest) e:=EJ hg (fun w _=>by simp[execOp,hx]) h
theorem WO{x:Operand}(hg:AJ ⟨dst,.assign x,ty,pos,af,g⟩ ops e=true)(v:Value)(hx:ev e x=v)(h:Wt P ops C K rest (put e dst v)) :
  Wt P ops C K (⟨dst,.assign x,ty,pos,af,g⟩::rest) e:=EJ hg (fun w _=>by simp[execOp,hx]) h
theorem Ali{c a b:Operand}(hg:AJ ⟨dst,.pick c a b,ty,pos,af,g⟩ ops e=true)(hc:ev e c=.bool true)(v:Value)(hx:ev e a=v)(h:Wt P ops C K rest (put e dst v)) :
  Wt P ops C K (⟨dst,.pick c a b,ty,pos,af,g⟩::rest) e:=EJ hg (fun w _=>by simp[execOp,hc,hx,asBool]) h
theorem Abi{c a b:Operand}(hg:AJ ⟨dst,.pick c a b,ty,pos,af,g⟩ ops e=true)(hc:ev e c=.bool false)(v:Value)(hx:ev e b=v)(h:Wt P ops C K rest (put e dst v)) :
  Wt P ops C K (⟨dst,.pick c a b,ty,pos,af,g⟩::rest) e:=EJ hg (fun w _=>by simp[execOp,hc,hx,asBool]) h
theorem Agp{t:TypeId}{x:Operand}{b:Bool}(hg:AJ ⟨dst,.unOp .not t x,ty,pos,af,g⟩ ops e=true)(hx:ev e x=.bool b)(h:Wt P ops C K rest (put e dst (.bool (!b)))) :
  Wt P ops C K (⟨dst,.unOp .not t x,ty,pos,af,g⟩::rest) e:=EJ hg (fun w _=>by simp[execOp,hx,Op.unary]) h
theorem Bg{x:Operand}{p:Addr}(hx:ev e x=.pointer (some p))(h:Wt P ops C K rest (put e dst (.pointer (some p))))(hg:AJ ⟨dst,.nilCheck x,ty,pos,af,g⟩ ops e=true:=by exact U):
  Wt P ops C K (⟨dst,.nilCheck x,ty,pos,af,g⟩::rest) e:=EJ hg (fun w _=>by simp[execOp,hx]) h
theorem KT{t el:TypeId}{x y:Operand}{b o n c s:Nat}{k:IntKind}{i:Int}(hg:AJ ⟨dst,.indexAddr t x y,ty,pos,af,g⟩ ops e=true)(hu:C2 P t=some el)(hs:BK P el=some s)(hx:ev e x=.slice (some ⟨b,o,none⟩) n c)(hy:ev e y=.int k i)(h:Wt P ops C K rest (put e dst (.pointer (some ⟨b,o+i.toNat*s,none⟩))))(h0:0<=i:=by omega)(h1:i<n:=by omega):
  Wt P ops C K (⟨dst,.indexAddr t x y,ty,pos,af,g⟩::rest) e :=
 EJ hg (fun w _=>by simp[execOp,hx,hy,Instr.indexAt,asIntOf,AM (Cw hu),h0,h1,Cc hs,Dy]) h
theorem Cr{t el:TypeId}{x y:Operand}{a:Option Addr}{n c s:Nat}{k:IntKind}{i:Int}{α:Type}{enc:α->List Value}{xs:List α}{w1:World}(R:Rd w1 a s enc xs)(hu:C2 P t=some el)(hs:BK P el=some s)(hx:ev e x=.slice a n c)(hy:ev e y=.int k i)(h:Wt P ops C K rest (put e dst (.pointer (some ⟨(adr a).block,(adr a).off+i.toNat*s,none⟩))))(hg:AJ ⟨dst,.indexAddr t x y,ty,pos,af,g⟩ ops e=true:=by exact U)(h0:0<=i:=by omega)(h1:i<n:=by omega)(hn:n=xs.length:=by omega):
  Wt P ops C K (⟨dst,.indexAddr t x y,ty,pos,af,g⟩::rest) e:=by
 obtain⟨b,o,rfl⟩:=R.some' (by rintro rfl;simp at hn;omega);exact KT hg hu hs hx hy (h0:=h0) (h1:=h1) h
theorem Qb{t:TypeId}{x:Operand}{a:Option Addr}{n c:Nat}{el:TypeId}(hu:C2 P t=some el)(hx:ev e x=.slice a n c)(h:Wt P ops C K rest (put e dst (.int .i64 n)))(hg:AJ ⟨dst,.call ⟨.builtin .len,#[x],#[t]⟩,ty,pos,af,g⟩ ops e=true:=by exact U):
  Wt P ops C K (⟨dst,.call ⟨.builtin .len,#[x],#[t]⟩,ty,pos,af,g⟩::rest) e :=
 EJ hg (fun w _=>by simp[execOp,resolve,invoke,builtin,hx,Builtin.len_,AM (Cw hu),goInt]) h
theorem Aoo{t1 t2:TypeId}{x y:Operand}{k:IntKind}{a b:Int}(hg:AJ ⟨dst,.call ⟨.builtin .max,#[x,y],#[t1,t2]⟩,ty,pos,af,g⟩ ops e=true)(hx:ev e x=.int k a)(hy:ev e y=.int k b)(h:Wt P ops C K rest (put e dst (.int k (max a b)))) :
  Wt P ops C K (⟨dst,.call ⟨.builtin .max,#[x,y],#[t1,t2]⟩,ty,pos,af,g⟩::rest) e :=
 EJ hg (fun w _=>by
  have:(if a<b then b else a)=max a b:=by rw[Int.max_def];split <;> split <;> omega
  simp[execOp,resolve,invoke,builtin,hx,hy,Builtin.max_,Builtin.max2,this]) h
theorem CA{x:Operand}{i:Nat}{vs:Array Value}{v:Value}(hx:ev e x=.tuple vs)(hv:vs[i]?=some v)(h:Wt P ops C K rest (put e dst v))(hg:AJ ⟨dst,.extract x i,ty,pos,af,g⟩ ops e=true:=by exact U):
  Wt P ops C K (⟨dst,.extract x i,ty,pos,af,g⟩::rest) e :=
 EJ hg (fun w _=>by simp[execOp,hx,Instr.extract,hv]) h
theorem Gp{t el:TypeId}{x y:Operand}{s:Nat}{a:Option Addr}{n c:Nat}{k:IntKind}{i:Int}(hu:C2 P t=some el)(hs:BK P el=some s)(hx:ev e x=.slice a n c)(hy:ev e y=.int k i)(h:Wt P ops C K rest (put e dst (.slice (EL a c i.toNat s) (n - i.toNat) (c - i.toNat))))(hg:AJ ⟨dst,.slice t x (some y) none none,ty,pos,af,g⟩ ops e=true:=by exact U)(h0:0<=i:=by omega)(h1:i<=n:=by omega):
  Wt P ops C K (⟨dst,.slice t x (some y) none none,ty,pos,af,g⟩::rest) e :=
 EJ hg (fun w _=>by simp[execOp,Instr.sliceAt,Instr.slice,Instr.sliceBounds,AM (Cw hu),hx,hy,KQ h0 h1,Cc hs,EL]) h
theorem Hr{t el:TypeId}{x y:Operand}{s:Nat}{a:Option Addr}{n c:Nat}{k:IntKind}{j:Int}(hg:AJ ⟨dst,.slice t x none (some y) none,ty,pos,af,g⟩ ops e=true)(hu:C2 P t=some el)(hs:BK P el=some s)(hx:ev e x=.slice a n c)(hy:ev e y=.int k j)(h:Wt P ops C K rest (put e dst (.slice a j.toNat c)))(h0:0<=j:=by omega)(h1:j<=c:=by omega):
  Wt P ops C K (⟨dst,.slice t x none (some y) none,ty,pos,af,g⟩::rest) e :=
 EJ hg (fun w _=>by
  have:∀a:Option Addr,(if c=0 then a else a.map (·.add (0*s)))=a:=by
   intro a;split
   .rfl
   .cases a with
    |none=>rfl
    |some p=>simp[Addr.add]
  simp[execOp,Instr.sliceAt,Instr.slice,Instr.sliceBounds,AM (Cw hu),hx,hy,KQ h0 h1,Cc hs]
  simpa using this a) h
theorem AD{t:TypeId}{x:Operand}{i b o off:Nat}(hf:BH P t i=some off)(hx:ev e x=.pointer (some ⟨b,o,none⟩))(h:Wt P ops C K rest (put e dst (.pointer (some ⟨b,o+off,none⟩))))(hg:AJ ⟨dst,.fieldAddr t x i,ty,pos,af,g⟩ ops e=true:=by exact U):
  Wt P ops C K (⟨dst,.fieldAddr t x i,ty,pos,af,g⟩::rest) e:=by
 unfold BH at hf
 split at hf
 .rename_i fs hu
  split at hf
  .rename_i f hf1
   split at hf
   .rename_i s hs
    injection hf with hf
    subst hf;exact EJ hg (fun w _=>by simp[execOp,hx,Instr.fieldAt,AM hu,hf1,Instr.sureAddr,fieldPlace,Cc hs,Dy]) h
   .cases hf
  .cases hf
 .cases hf
end
section
variable {t t2:TypeId}{x y:Operand}{a b n:Nat}{s d:TypeId}
end
end
section
variable {P:Program}{r:Option Nat}{ops rest:List Oper}{Q:Exit->Env->World->Prop}{e:Env}{w:World}{C:World->Prop}{K:Env->Prop}{dst:Option Tmp}{ty:TypeId}{pos:String}{af:Array Edge}{g:Option (Nat × Bool)}{x:Operand}
theorem Ae{k:IntKind}{i:Int}(hx:ev e x=(.int k i))(h:AB P r ops Q rest (put e dst (.int k i)) w)(hg:AJ ⟨dst,.move x,ty,pos,af,g⟩ ops e=true:=by exact U):AB P r ops Q (⟨dst,.move x,ty,pos,af,g⟩::rest) e w:=Ee hg (.int k i) hx h
theorem DM{k:IntKind}{i:Int}(hx:ev e x=(.int k i))(h:Wq P ops C K rest (put e dst (.int k i)))(hg:AJ ⟨dst,.move x,ty,pos,af,g⟩ ops e=true:=by exact U):Wq P ops C K (⟨dst,.move x,ty,pos,af,g⟩::rest) e:=Rr hg (.int k i) hx h
theorem B9{k:IntKind}{i:Int}(hx:ev e x=(.int k i))(h:Wt P ops C K rest (put e dst (.int k i)))(hg:AJ ⟨dst,.move x,ty,pos,af,g⟩ ops e=true:=by exact U):Wt P ops C K (⟨dst,.move x,ty,pos,af,g⟩::rest) e:=Na hg (.int k i) hx h
theorem AA{b:Bool}(hx:ev e x=(.bool b))(h:AB P r ops Q rest (put e dst (.bool b)) w)(hg:AJ ⟨dst,.move x,ty,pos,af,g⟩ ops e=true:=by exact U):AB P r ops Q (⟨dst,.move x,ty,pos,af,g⟩::rest) e w:=Ee hg (.bool b) hx h
theorem VN{b:Bool}(hg:AJ ⟨dst,.move x,ty,pos,af,g⟩ ops e=true)(hx:ev e x=(.bool b))(h:Wq P ops C K rest (put e dst (.bool b))):Wq P ops C K (⟨dst,.move x,ty,pos,af,g⟩::rest) e:=Rr hg (.bool b) hx h
theorem LX{b:Bool}(hg:AJ ⟨dst,.move x,ty,pos,af,g⟩ ops e=true)(hx:ev e x=(.bool b))(h:Wt P ops C K rest (put e dst (.bool b))):Wt P ops C K (⟨dst,.move x,ty,pos,af,g⟩::rest) e:=Na hg (.bool b) hx h
theorem Aj{a:Option Addr}{n c:Nat}(hx:ev e x=(.slice a n c))(h:AB P r ops Q rest (put e dst (.slice a n c)) w)(hg:AJ ⟨dst,.move x,ty,pos,af,g⟩ ops e=true:=by exact U):AB P r ops Q (⟨dst,.move x,ty,pos,af,g⟩::rest) e w:=Ee hg (.slice a n c) hx h
theorem Gm{a:Option Addr}{n c:Nat}(hx:ev e x=(.slice a n c))(h:Wq P ops C K rest (put e dst (.slice a n c)))(hg:AJ ⟨dst,.move x,ty,pos,af,g⟩ ops e=true:=by exact U):Wq P ops C K (⟨dst,.move x,ty,pos,af,g⟩::rest) e:=Rr hg (.slice a n c) hx h
theorem BF{a:Option Addr}{n c:Nat}(hx:ev e x=(.slice a n c))(h:Wt P ops C K rest (put e dst (.slice a n c)))(hg:AJ ⟨dst,.move x,ty,pos,af,g⟩ ops e=true:=by exact U):Wt P ops C K (⟨dst,.move x,ty,pos,af,g⟩::rest) e:=Na hg (.slice a n c) hx h
theorem Am{p:Option Addr}(hx:ev e x=(.pointer p))(h:AB P r ops Q rest (put e dst (.pointer p)) w)(hg:AJ ⟨dst,.move x,ty,pos,af,g⟩ ops e=true:=by exact U):AB P r ops Q (⟨dst,.move x,ty,pos,af,g⟩::rest) e w:=Ee hg (.pointer p) hx h
theorem GZ{p:Option Addr}(hx:ev e x=(.pointer p))(h:Wq P ops C K rest (put e dst (.pointer p)))(hg:AJ ⟨dst,.move x,ty,pos,af,g⟩ ops e=true:=by exact U):Wq P ops C K (⟨dst,.move x,ty,pos,af,g⟩::rest) e:=Rr hg (.pointer p) hx h
theorem Cs{p:Option Addr}(hx:ev e x=(.pointer p))(h:Wt P ops C K rest (put e dst (.pointer p)))(hg:AJ ⟨dst,.move x,ty,pos,af,g⟩ ops e=true:=by exact U):Wt P ops C K (⟨dst,.move x,ty,pos,af,g⟩::rest) e:=Na hg (.pointer p) hx h
theorem AQ{l:Array Value}(hx:ev e x=(.tuple l))(h:AB P r ops Q rest (put e dst (.tuple l)) w)(hg:AJ ⟨dst,.move x,ty,pos,af,g⟩ ops e=true:=by exact U):AB P r ops Q (⟨dst,.move x,ty,pos,af,g⟩::rest) e w:=Ee hg (.tuple l) hx h
theorem Alj{l:Array Value}(hg:AJ ⟨dst,.move x,ty,pos,af,g⟩ ops e=true)(hx:ev e x=(.tuple l))(h:Wq P ops C K rest (put e dst (.tuple l))):Wq P ops C K (⟨dst,.move x,ty,pos,af,g⟩::rest) e:=Rr hg (.tuple l) hx h
theorem Ij{l:Array Value}(hx:ev e x=(.tuple l))(h:Wt P ops C K rest (put e dst (.tuple l)))(hg:AJ ⟨dst,.move x,ty,pos,af,g⟩ ops e=true:=by exact U):Wt P ops C K (⟨dst,.move x,ty,pos,af,g⟩::rest) e:=Na hg (.tuple l) hx h
theorem KU{p:Option Nat}(hg:AJ ⟨dst,.move x,ty,pos,af,g⟩ ops e=true)(hx:ev e x=(.map p))(h:AB P r ops Q rest (put e dst (.map p)) w):AB P r ops Q (⟨dst,.move x,ty,pos,af,g⟩::rest) e w:=Ee hg (.map p) hx h
theorem Cd{s:ByteArray}(hx:ev e x=(.string s))(h:AB P r ops Q rest (put e dst (.string s)) w)(hg:AJ ⟨dst,.move x,ty,pos,af,g⟩ ops e=true:=by exact U):AB P r ops Q (⟨dst,.move x,ty,pos,af,g⟩::rest) e w:=Ee hg (.string s) hx h
theorem VP{s:ByteArray}(hg:AJ ⟨dst,.move x,ty,pos,af,g⟩ ops e=true)(hx:ev e x=(.string s))(h:Wt P ops C K rest (put e dst (.string s))):Wt P ops C K (⟨dst,.move x,ty,pos,af,g⟩::rest) e:=Na hg (.string s) hx h
theorem Ac{k:IntKind}{i:Int}(hx:ev e x=(.int k i))(h:AB P r ops Q rest (put e dst (.int k i)) w)(hg:AJ ⟨dst,.assign x,ty,pos,af,g⟩ ops e=true:=by exact U):AB P r ops Q (⟨dst,.assign x,ty,pos,af,g⟩::rest) e w:=El hg (.int k i) hx h
theorem EO{k:IntKind}{i:Int}(hx:ev e x=(.int k i))(h:Wq P ops C K rest (put e dst (.int k i)))(hg:AJ ⟨dst,.assign x,ty,pos,af,g⟩ ops e=true:=by exact U):Wq P ops C K (⟨dst,.assign x,ty,pos,af,g⟩::rest) e:=Ru hg (.int k i) hx h
theorem Uz{k:IntKind}{i:Int}(hg:AJ ⟨dst,.assign x,ty,pos,af,g⟩ ops e=true)(hx:ev e x=(.int k i))(h:Wt P ops C K rest (put e dst (.int k i))):Wt P ops C K (⟨dst,.assign x,ty,pos,af,g⟩::rest) e:=WO hg (.int k i) hx h
theorem An{b:Bool}(hx:ev e x=(.bool b))(h:AB P r ops Q rest (put e dst (.bool b)) w)(hg:AJ ⟨dst,.assign x,ty,pos,af,g⟩ ops e=true:=by exact U):AB P r ops Q (⟨dst,.assign x,ty,pos,af,g⟩::rest) e w:=El hg (.bool b) hx h
theorem Adp{b:Bool}(hg:AJ ⟨dst,.assign x,ty,pos,af,g⟩ ops e=true)(hx:ev e x=(.bool b))(h:Wq P ops C K rest (put e dst (.bool b))):Wq P ops C K (⟨dst,.assign x,ty,pos,af,g⟩::rest) e:=Ru hg (.bool b) hx h
theorem Ak{a:Option Addr}{n c:Nat}(hx:ev e x=(.slice a n c))(h:AB P r ops Q rest (put e dst (.slice a n c)) w)(hg:AJ ⟨dst,.assign x,ty,pos,af,g⟩ ops e=true:=by exact U):AB P r ops Q (⟨dst,.assign x,ty,pos,af,g⟩::rest) e w:=El hg (.slice a n c) hx h
theorem U0{a:Option Addr}{n c:Nat}(hg:AJ ⟨dst,.assign x,ty,pos,af,g⟩ ops e=true)(hx:ev e x=(.slice a n c))(h:Wq P ops C K rest (put e dst (.slice a n c))):Wq P ops C K (⟨dst,.assign x,ty,pos,af,g⟩::rest) e:=Ru hg (.slice a n c) hx h
theorem Iv{a:Option Addr}{n c:Nat}(hg:AJ ⟨dst,.assign x,ty,pos,af,g⟩ ops e=true)(hx:ev e x=(.slice a n c))(h:Wt P ops C K rest (put e dst (.slice a n c))):Wt P ops C K (⟨dst,.assign x,ty,pos,af,g⟩::rest) e:=WO hg (.slice a n c) hx h
theorem Bx{p:Option Addr}(hx:ev e x=(.pointer p))(h:AB P r ops Q rest (put e dst (.pointer p)) w)(hg:AJ ⟨dst,.assign x,ty,pos,af,g⟩ ops e=true:=by exact U):AB P r ops Q (⟨dst,.assign x,ty,pos,af,g⟩::rest) e w:=El hg (.pointer p) hx h
theorem RI{p:Option Nat}(hg:AJ ⟨dst,.assign x,ty,pos,af,g⟩ ops e=true)(hx:ev e x=(.map p))(h:AB P r ops Q rest (put e dst (.map p)) w):AB P r ops Q (⟨dst,.assign x,ty,pos,af,g⟩::rest) e w:=El hg (.map p) hx h
theorem IG{s:ByteArray}(hg:AJ ⟨dst,.assign x,ty,pos,af,g⟩ ops e=true)(hx:ev e x=(.string s))(h:AB P r ops Q rest (put e dst (.string s)) w):AB P r ops Q (⟨dst,.assign x,ty,pos,af,g⟩::rest) e w:=El hg (.string s) hx h
end
def bv(b:UInt8):Value := .int .u8 (b.toNat:Int)
def B8(b:UInt8):List Value:=[bv b]
def str(l:List UInt8):Value := .string ⟨l.toArray⟩
theorem Ht(l:List UInt8):∀v∈l.map bv,Bi v=true:=fun v hv=>by
 obtain⟨b,_,rfl⟩:=qah.1 hv;rfl
theorem VQ{l m:List UInt8}:((⟨l.toArray⟩:ByteArray).toList == (⟨m.toArray⟩:ByteArray).toList)=decide (l=m):=by
 rw[ByteArray.toList_eq,ByteArray.toList_eq];rw[qar];simp
section
variable {P:Program}{r:Option Nat}{ops rest:List Oper}{Q:Exit->Env->World->Prop}{e:Env}{w w0:World}{S:List Nat}{L:List (Nat × Obj)}{dst:Option Tmp}{ty:TypeId}{pos:String}{af:Array Edge}{g:Option (Nat × Bool)}{C:World->Prop}{K:Env->Prop}
theorem Adq{t el:TypeId}{x:Operand}{b n:Nat}(hg:AJ ⟨dst,.slice t x none none none,ty,pos,af,g⟩ ops e=true)(hu:Q8 P t=some (n,el))(hs:BK P el=some 1)(hx:ev e x=.pointer (some ⟨b,0,none⟩))(h:AB P r ops Q rest (put e dst (.slice (some ⟨b,0,none⟩) n n)) w):AB P r ops Q (⟨dst,.slice t x none none none,ty,pos,af,g⟩::rest) e w :=
 Bt hg rfl (by simp[execOp,Instr.sliceAt,Instr.sliceBounds,AM (OV hu),hx,Instr.sureAddr,Cc hs,Addr.add]) h
theorem NC{t el:TypeId}{x y:Operand}{b n:Nat}{k:IntKind}{i:Int}(hg:AJ ⟨dst,.slice t x (some y) none none,ty,pos,af,g⟩ ops e=true)(hu:Q8 P t=some (n,el))(hs:BK P el=some 1)(hx:ev e x=.pointer (some ⟨b,0,none⟩))(hy:ev e y=.int k i)(h:AB P r ops Q rest (put e dst (.slice (some ⟨b,i.toNat,none⟩) (n - i.toNat) (n - i.toNat))) w)(h0:0<=i:=by omega)(h1:i<n:=by omega):
  AB P r ops Q (⟨dst,.slice t x (some y) none none,ty,pos,af,g⟩::rest) e w :=
 Bt hg rfl (by
  have hne:¬n=i.toNat:=by omega
  have h2:i<=(n:Int):=by omega
  simp[execOp,Instr.sliceAt,Instr.sliceBounds,AM (OV hu),hx,hy,Instr.sureAddr,Cc hs,KQ h0 h2,hne,Dy]) h
theorem VR{t el:TypeId}{x y:Operand}{b n:Nat}{k:IntKind}{j:Int}(hg:AJ ⟨dst,.slice t x none (some y) none,ty,pos,af,g⟩ ops e=true)(hu:Q8 P t=some (n,el))(hs:BK P el=some 1)(hx:ev e x=.pointer (some ⟨b,0,none⟩))(hy:ev e y=.int k j)(h:AB P r ops Q rest (put e dst (.slice (some ⟨b,0,none⟩) j.toNat n)) w)(h0:0<=j:=by omega)(h1:j<=n:=by omega):
  AB P r ops Q (⟨dst,.slice t x none (some y) none,ty,pos,af,g⟩::rest) e w :=
 Bt hg rfl (by simp[execOp,Instr.sliceAt,Instr.sliceBounds,AM (OV hu),hx,hy,Instr.sureAddr,Cc hs,KQ h0 h1,Addr.add]) h
theorem QG{t t2 el t3:TypeId}{x y:Operand}{b o dn dc m c2 k:Nat}{a2:Option Addr}{l:List Value}(xs:List Value)(hg:AJ ⟨dst,.call ⟨.builtin .copy,#[x,y],#[t,t2]⟩,ty,pos,af,g⟩ ops e=true)(hu:C2 P t=some el)(hs:BK P el=some 1)(hx:ev e x=.slice (some ⟨b,o,none⟩) dn dc)(hy:ev e y=.slice a2 m c2)(hm:xs.length=m)(h1:∀v∈xs,Bi v=true)(hc:∀j v,xs[j]?=some v->∃p,a2=some p/\w.cell? (p.add j)=some v)(H:Ctx w0 S w L)(hk:L[k]?=some (b,Bl t3 l))(hb:o+dn<=l.length)(h:∀w',Ctx w0 S w' (L.set k (b,Bl t3 (over l o (xs.take dn))))->AB P r ops Q rest (put e dst (.int .i64 ((Nat.min m dn:Nat):Int))) w') :
  AB P r ops Q (⟨dst,.call ⟨.builtin .copy,#[x,y],#[t,t2]⟩,ty,pos,af,g⟩::rest) e w:=by
 have hlen:(xs.take dn).length=Nat.min m dn:=by rw[qa0,hm];exact Nat.min_comm _ _
 have hfc:=GX (P:=P) (w:=w) (s:=1) (m:=Nat.min m dn) (a:=a2) (c:=m) (k:=c2) (l:=xs.take dn) (by rw[hlen,qcj]) (fun j v hv=>by
  rw[qdt]at hv
  split at hv
  .exact hc j v hv
  .cases hv)
 have hmn:Nat.min m dn<=dn:=Nat.min_le_right _ _;obtain⟨w',hr,he,hb'⟩:=GW (P:=P) (o:=o) (xs.take dn) l w 0 (fun v hv=>h1 v (qbp hv)) (H.get hk) (by omega);have hst:(storeCells ⟨b,o,none⟩ (xs.take dn)).run P w=.ok () w':=hr;refine Bt (w':=w') (v := .int .i64 ((Nat.min m dn:Nat):Int)) hg U ?_ (h _ (H.turn hk _ he hb'));simp only[execOp,resolve,invoke,builtin,hx,hy,List.map_toArray,qay,qbn];simp[Builtin.copy_,AM (Cw hu),Cc hs,Builtin.lenOf,hfc,hst,goInt]
theorem WP{src dst' el:TypeId}{a:Option Addr}{c:Nat}{l:List UInt8}(hs:C2 P src=some el)(he:P.underlying el=some (.int .u8))(hd:P.underlying dst'=some .string)(R:Rd w a 1 B8 l) :
  (convert src dst' (.slice a l.length c)).run P w=.ok (str l) w:=by
 cases a with
 |none =>
  have h0:l=[]:=by
   cases l with
   |nil=>rfl
   |cons x l=>obtain⟨b,o,h⟩:=R.some' (by simp);cases h
  subst h0;simp[convert,AM (Cw hs),AM hd,AM he,Conv.bytesToString,str];rfl
 |some p =>
  refine run_convert_bytes_back w src dst' el p c l (Cw hs) he hd fun j hj=>?_;have hx:l[j]?=some l[j]:=qbd hj;obtain⟨b,o,hp⟩:=R.some' (by rintro rfl;simp at hj)
  injection hp with hp
  subst hp;have:=Rd.one (f:=bv) R hx;rw[Dy]
  simpa[adr,bv]using this
theorem Kk{s d el:TypeId}{x:Operand}{a:Option Addr}{c:Nat}{l:List UInt8}(hs:C2 P s=some el)(he:P.underlying el=some (.int .u8))(hd:P.underlying d=some .string)(hx:ev e x=.slice a l.length c)(R:Rd w a 1 B8 l)(h:AB P r ops Q rest (put e dst (str l)) w)(hg:AJ ⟨dst,.convert s d x,ty,pos,af,g⟩ ops e=true:=by exact U):AB P r ops Q (⟨dst,.convert s d x,ty,pos,af,g⟩::rest) e w :=
 Bt hg rfl (by simp[execOp,hx,WP hs he hd R]) h
theorem Zw{s d el:TypeId}{x:Operand}{a:Option Addr}{c:Nat}{l:List UInt8}(hg:AJ ⟨dst,.convert s d x,ty,pos,af,g⟩ ops e=true)(hs:C2 P s=some el)(he:P.underlying el=some (.int .u8))(hd:P.underlying d=some .string)(hx:ev e x=.slice a l.length c)(R:∀w,C w->Rd w a 1 B8 l)(h:Wq P ops C K rest (put e dst (str l))):Wq P ops C K (⟨dst,.convert s d x,ty,pos,af,g⟩::rest) e :=
 GB hg (fun w hw=>by simp[execOp,hx,WP hs he hd (R w hw)]) h
theorem KV{s d el:TypeId}{x:Operand}{l:List UInt8}(hg:AJ ⟨dst,.convert s d x,ty,pos,af,g⟩ ops e=true)(hs:P.underlying s=some .string)(hd:C2 P d=some el)(he:P.underlying el=some (.int .u8))(hx:ev e x=str l)(h:∀b c w',w.heap.size<=b->l.length<=c->Ext [] w w'->Rd w' (some ⟨b,0,none⟩) 1 B8 l->AB P r ops Q rest (put e dst (.slice (some ⟨b,0,none⟩) l.length c)) w') :
  AB P r ops Q (⟨dst,.convert s d x,ty,pos,af,g⟩::rest) e w:=by
 have hr:=run_bytes_of_string (P:=P) w s d el ⟨l.toArray⟩ hs (Cw hd) he;have hsz:(⟨l.toArray⟩:ByteArray).size=l.length:=by simp[ByteArray.size]
 rw[hsz]at hr;refine Bt hg U (by simp only[execOp,hx,str,Sem.run_bind,hr,Result.andThen_ok];rfl) (h w.heap.size _ _ (qae _) (grownCap_ge _ _ _ _) ((Ext.drew [] w).trans (Ext.alloc [] _ _)) ?_);refine⟨fun _=>⟨_,_,rfl⟩,fun i x hx j v hv hj=>?_⟩;have hj0:j=0:=by omega
 subst hj0;simp only[B8,qc7,qbb]at hv;subst hv;show(World.alloc w.drew _).cell? ⟨w.heap.size,0+i*1+0,none⟩=_;rw[show w.heap.size=w.drew.heap.size from rfl,World.cell?_alloc_mark];have hi:i<l.length:=(qaq.1 hx).1;rw[qbd hi]at hx
 injection hx with hx
 simp only[bytesRow,qa2,qcj,qc9];rw[Array.getElem?_append_left (by simpa using hi)];simp[hi,hx,bv]
theorem RJ{t t2:TypeId}{x y:Operand}{l m:List UInt8}(hg:AJ ⟨dst,.binOp .eql t x y t2,ty,pos,af,g⟩ ops e=true)(hx:ev e x=str l)(hy:ev e y=str m)(h:AB P r ops Q rest (put e dst (.bool (decide (l=m)))) w):AB P r ops Q (⟨dst,.binOp .eql t x y t2,ty,pos,af,g⟩::rest) e w :=
 Bt hg rfl (by
  have hq:eqGuard .eql t x y (.string ⟨l.toArray⟩) (.string ⟨m.toArray⟩)=pure ():=rfl
  simp only[execOp,hx,hy,hq,Sem.run_bind,Sem.run_pure,Result.andThen_ok,binOp,str,Op.stringOp,VQ]) h
theorem Agq{t t2:TypeId}{x y:Operand}{l m:List UInt8}(hg:AJ ⟨dst,.binOp .neq t x y t2,ty,pos,af,g⟩ ops e=true)(hx:ev e x=str l)(hy:ev e y=str m)(h:AB P r ops Q rest (put e dst (.bool (!decide (l=m)))) w):AB P r ops Q (⟨dst,.binOp .neq t x y t2,ty,pos,af,g⟩::rest) e w :=
 Bt hg rfl (by
  have hq:eqGuard .neq t x y (.string ⟨l.toArray⟩) (.string ⟨m.toArray⟩)=pure ():=rfl
  simp only[execOp,hx,hy,hq,Sem.run_bind,Sem.run_pure,Result.andThen_ok,binOp,str,Op.stringOp,VQ]) h
theorem VS{t:TypeId}{x:Operand}{l:List UInt8}(hg:AJ ⟨dst,.call ⟨.builtin .len,#[x],#[t]⟩,ty,pos,af,g⟩ ops e=true)(hu:P.underlying t=some .string)(hx:ev e x=str l)(h:AB P r ops Q rest (put e dst (.int .i64 l.length)) w):AB P r ops Q (⟨dst,.call ⟨.builtin .len,#[x],#[t]⟩,ty,pos,af,g⟩::rest) e w :=
 Bt hg rfl (by
  have hsz:(⟨l.toArray⟩:ByteArray).size=l.length:=by simp[ByteArray.size]
  simp[execOp,resolve,invoke,builtin,hx,str,Builtin.len_,AM hu,goInt,hsz]) h
theorem LY{t k el:TypeId}{kk:IntKind}{x y z:Operand}{b j:Nat}{o:Obj}{m:List (Int × Value)}{n:Int}(v:Value)(hg:AJ ⟨dst,.insert t x y z,ty,pos,af,g⟩ ops e=true)(ht:IF P t=some (k,el))(hk:P.underlying k=some (.int kk))(hx:ev e x=.map (some b))(hy:ev e y=.int kk n)(hv:ev e z=v)(H:Ctx w0 S w L)(hl:L[j]?=some (b,o))(hM:Ki kk m o)(h:∀o' w',Ki kk (JG m n v) o'->Ctx w0 S w' (L.set j (b,o'))->AB P r ops Q rest (put e dst undef) w'):AB P r ops Q (⟨dst,.insert t x y z,ty,pos,af,g⟩::rest) e w:=by
 obtain⟨o',w',hr,hM',H'⟩:=MI (n:=n) v ht hk H hl hM;exact N8 hg U (by simp[execOp,hx,hy,hv,hr]) (h o' w' hM' H')
theorem Aop(l:List UInt8)(n:Nat):(⟨l.toArray⟩:ByteArray)[n]?=l[n]? := by
 by_cases h:n<l.length
 .rw[qbd h,getElem?_pos (⟨l.toArray⟩:ByteArray) n (by simpa[ByteArray.size]using h)];rfl
 .rw[qbz (by omega),getElem?_neg (⟨l.toArray⟩:ByteArray) n (by simpa[ByteArray.size]using h)]
theorem U1{t:TypeId}{x y:Operand}{k:IntKind}{i:Int}{l:List UInt8}(b:UInt8)(hg:AJ ⟨dst,.index t x y,ty,pos,af,g⟩ ops e=true)(hu:P.underlying t=some .string)(hx:ev e x=str l)(hy:ev e y=.int k i)(hb:l[i.toNat]?=some b)(h:AB P r ops Q rest (put e dst (bv b)) w)(h0:0<=i:=by decide):AB P r ops Q (⟨dst,.index t x y,ty,pos,af,g⟩::rest) e w :=
 Bt hg rfl (by simp[execOp,Instr.index,hx,hy,str,asIntOf,AM hu,h0,Aop,hb,bv]) h
theorem WQ{t k el:TypeId}{kk:IntKind}{x:Operand}{b j:Nat}{o:Obj}{m:List (Int × Value)}(hg:AJ ⟨dst,.call ⟨.builtin .clear,#[x],#[t]⟩,ty,pos,af,g⟩ ops e=true)(ht:IF P t=some (k,el))(hx:ev e x=.map (some b))(H:Ctx w0 S w L)(hl:L[j]?=some (b,o))(hM:Ki kk m o)(h:∀o' w',Ki kk [] o'->Ctx w0 S w' (L.set j (b,o'))->AB P r ops Q rest (put e dst (.tuple #[])) w') :
  AB P r ops Q (⟨dst,.call ⟨.builtin .clear,#[x],#[t]⟩,ty,pos,af,g⟩::rest) e w:=by
 obtain⟨es,clock,rfl,_⟩:=hM;have hb:=H.get hl;have hgo:(getObj b).run P w=.ok (.map es clock) w:=by simp[getObj,Sem.run,hb]
 have hso:(setObj b (.map #[] clock)).run P w=.ok () (w.putObj b (.map #[] clock)):=by simp[setObj,Sem.run,hb,World.putObj]
 refine Bt (w':=w.putObj b (.map #[] clock)) (v := .tuple #[]) hg U ?_ (h _ _ ⟨#[],clock,rfl,rfl,by simp,by simp⟩ (H.setB hl _));simp[execOp,resolve,invoke,builtin,hx,Builtin.clear_,AM (Fs ht),hgo,hso]
theorem Zx{t el:TypeId}{b n:Nat}(hu:Q8 P t=some (n,el))(hs:BK P el=some 1)(w:World):(Instr.sliceAt t (.pointer (some ⟨b,0,none⟩)) none none none).run P w=.ok (.slice (some ⟨b,0,none⟩) n n) w:=by
 simp[Instr.sliceAt,Instr.sliceBounds,AM (OV hu),Instr.sureAddr,Cc hs,Addr.add]
theorem Agr{t el:TypeId}{x:Operand}{b n:Nat}(hg:AJ ⟨dst,.slice t x none none none,ty,pos,af,g⟩ ops e=true)(hu:Q8 P t=some (n,el))(hs:BK P el=some 1)(hx:ev e x=.pointer (some ⟨b,0,none⟩))(h:Wt P ops C K rest (put e dst (.slice (some ⟨b,0,none⟩) n n))):Wt P ops C K (⟨dst,.slice t x none none none,ty,pos,af,g⟩::rest) e :=
 EJ hg (fun w _=>by simp[execOp,hx,Zx hu hs]) h
theorem WR:∀(A B C M:List Value),B.length=M.length->over (A++(B++C)) A.length M=A++(M++C):=by
 intro A B C M
 induction M generalizing A B with
 |nil=>intro h;have:B=[]:=qa4 (by simpa using h);subst this;simp[over]
 |cons v M ih =>
  intro h
  cases B with
  |nil=>simp at h
  |cons x B =>
   have:=ih (A++[v]) B (by simpa using h);simp only[over];rw[show(A++(x::B++C)).set A.length v=A++[v]++(B++C)from by simp];rw[show A.length+1=(A++[v]).length from by simp,this];simp
end
section
variable {P:Program}{r:Option Nat}{ops rest:List Oper}{Q:Exit->Env->World->Prop}{e:Env}{w w0:World}{S:List Nat}{L:List (Nat × Obj)}{C:World->Prop}{K:Env->Prop}{dst:Option Tmp}{ty:TypeId}{pos:String}{af:Array Edge}{g:Option (Nat × Bool)}
theorem Abj{P:Program}{t el:TypeId}(hu:P.underlying t=some (.pointer el))(d:Nat)(a:Option Addr)(w:World):(Op.equalIn (d+1) t (.pointer a) (.pointer none)).run P w=.ok a.isNone w:=by
 cases a <;> simp[Op.equalIn,AM hu]
theorem Ags{P:Program}{t el:TypeId}(hu:P.underlying t=some (.pointer el))(a:Option Addr)(w:World):(binOp .eql t (.pointer a) (.pointer none)).run P w=.ok (.bool a.isNone) w:=by
 simp only[binOp,Sem.run_bind,Op.equal,Op.maxDepth,Abj hu 9999];cases a <;> rfl
theorem Agt{P:Program}{t el:TypeId}(hu:P.underlying t=some (.pointer el))(a:Option Addr)(w:World):(binOp .neq t (.pointer a) (.pointer none)).run P w=.ok (.bool a.isSome) w:=by
 simp only[binOp,Sem.run_bind,Op.equal,Op.maxDepth,Abj hu 9999];cases a <;> rfl
theorem BW{t t2:TypeId}{x:Operand}{a:Option Addr}{el:TypeId}(hu:P.underlying t=some (.pointer el))(hx:ev e x=.pointer a)(h:AB P r ops Q rest (put e dst (.bool a.isNone)) w)(hg:AJ ⟨dst,.binOp .eql t x (.const (.pointer none)) t2,ty,pos,af,g⟩ ops e=true:=by exact U):AB P r ops Q (⟨dst,.binOp .eql t x (.const (.pointer none)) t2,ty,pos,af,g⟩::rest) e w :=
 Bt hg rfl (by
  have hq:eqGuard .eql t x (.const (.pointer none)) (.pointer a) (.pointer none)=pure ():=rfl;have he:ev e (.const (.pointer none))=.pointer none:=rfl
  simp only[execOp,hx,he,hq,Sem.run_bind,Sem.run_pure,Result.andThen_ok,Ags hu]) h
theorem LZ{t t2:TypeId}{x:Operand}{a:Option Addr}{el:TypeId}(hg:AJ ⟨dst,.binOp .neq t x (.const (.pointer none)) t2,ty,pos,af,g⟩ ops e=true)(hu:P.underlying t=some (.pointer el))(hx:ev e x=.pointer a)(h:AB P r ops Q rest (put e dst (.bool a.isSome)) w):AB P r ops Q (⟨dst,.binOp .neq t x (.const (.pointer none)) t2,ty,pos,af,g⟩::rest) e w :=
 Bt hg rfl (by
  have hq:eqGuard .neq t x (.const (.pointer none)) (.pointer a) (.pointer none)=pure ():=rfl;have he:ev e (.const (.pointer none))=.pointer none:=rfl
  simp only[execOp,hx,he,hq,Sem.run_bind,Sem.run_pure,Result.andThen_ok,Agt hu]) h
theorem RM{t k el:TypeId}{kk:IntKind}{x y:Operand}{b:Nat}{o:Obj}{m:List (Int × Value)}{n:Int}{z:Value}(ht:IF P t=some (k,el))(hk:P.underlying k=some (.int kk))(hz:(P.info? el).bind (·.zero)=some z)(hx:ev e x=.map (some b))(hy:ev e y=.int kk n)(hb:w.heap[b]?=some o)(hM:Ki kk m o) :
  (execOp (ev e) ⟨dst,.lookup t x y false,ty,pos,af,g⟩).run P w=.ok (.value ((EV m n).getD z)) w:=by
 obtain⟨es,clock,rfl,hes,_⟩:=hM;have hf:=Kj kk n es.toList m 0 hes;have hgo:(getObj b).run P w=.ok (.map es clock) w:=by simp[getObj,Sem.run,hb]
 have hzr:(zeroValue el).run P w=.ok z w:=by
  cases hi:P.info? el with
  |none=>rw[hi]at hz;cases hz
  |some i=>rw[hi]at hz;simp at hz;simp[zeroValue,typeInfo,program,Sem.run,hi,hz]
 cases hm:EV m n with
 |none=>simp[execOp,Instr.lookup,AM (Fs ht),hx,hy,hgo,FO hk,Instr.findKey,AM hk,hf.1 hm,hzr]
 |some v =>
  obtain⟨i,hi,_⟩:=hf.2 v hm;simp[execOp,Instr.lookup,AM (Fs ht),hx,hy,hgo,FO hk,Instr.findKey,AM hk,hi]
theorem RN{t k el:TypeId}{kk:IntKind}{x y:Operand}{b:Nat}{o:Obj}{m:List (Int × Value)}{n:Int}{z:Value}(hg:AJ ⟨dst,.lookup t x y false,ty,pos,af,g⟩ ops e=true)(ht:IF P t=some (k,el))(hk:P.underlying k=some (.int kk))(hz:(P.info? el).bind (·.zero)=some z)(hx:ev e x=.map (some b))(hy:ev e y=.int kk n)(hb:w.heap[b]?=some o)(hM:Ki kk m o)(h:AB P r ops Q rest (put e dst ((EV m n).getD z)) w):AB P r ops Q (⟨dst,.lookup t x y false,ty,pos,af,g⟩::rest) e w :=
 Bt hg rfl (RM ht hk hz hx hy hb hM) h
theorem Agu{t k el:TypeId}{kk:IntKind}{x y:Operand}{b j:Nat}{o:Obj}{m:List (Int × Value)}{n:Int}{z:Value}(hg:AJ ⟨dst,.lookup t x y false,ty,pos,af,g⟩ ops e=true)(ht:IF P t=some (k,el))(hk:P.underlying k=some (.int kk))(hz:(P.info? el).bind (·.zero)=some z)(hx:ev e x=.map (some b))(hy:ev e y=.int kk n)(H:∀w,C w->Ctx w0 S w L)(hl:L[j]?=some (b,o))(hM:Ki kk m o)(h:Wt P ops C K rest (put e dst ((EV m n).getD z))):Wt P ops C K (⟨dst,.lookup t x y false,ty,pos,af,g⟩::rest) e :=
 Zu rfl hg (fun w hw=>RM ht hk hz hx hy ((H w hw).get hl) hM) h
end
theorem Ctx.oldb{w0 w:World}{L:List (Nat × Obj)}{b:Nat}{o:Obj}(H:Ctx w0 [] w L)(h:w0.heap[b]?=some o):w.heap[b]?=some o:=by
 rw[H.ext.block b (Al h) (by simp)];exact h
theorem OS.rdV{w:World}{a:Option Addr}{n c:Nat}{t:TypeId}{full vs:List Value}(h:OS a n c 1 full vs)(hb:∀x∈ent a t full,w.heap[x.1]?=some x.2):Rd w a 1 (fun v:Value=>[v]) vs :=
 OS.rd1 (f:=fun v=>v) (by simpa using h) hb
theorem Aoq{w:World}{b t:Nat}{vs:List Value}(h:w.heap[b]?=some (Bl t vs)):Rd w (some ⟨b,0,none⟩) 1 (fun v:Value=>[v]) vs :=
 Rd.of_bl (r:=[]) h (by rw[qa3,Abe (f:=fun v=>v)];simp) (fun x _=>rfl)
open Go Go.Maps Go.WideElems Go.RowKit Go.WideShapes
theorem Kl{w w':World}(h:Below w.heap.size w w'):Ext [] w w':=⟨h.os,h.tape,h.output,h.size,fun k hk _=>h.block k hk⟩
def KE:Value->Option (DataW Unit × List MemPlace):=fun _=>some (.nil,[])
theorem Zy{P:Program}{k:TypeId}(hk:P.underlying k=some (.int .i64)){w:World}{b:Nat}{m:List (Int × Value)}{o:Obj}(hb:w.heap[b]?=some o)(hM:Ki .i64 m o)(nd:(m.map (·.1)).Nodup)(hsz:m.length<=maxLen)(hr:∀p∈m,-9223372036854775808<=p.1/\p.1<=9223372036854775807) :
  ∃D0:DataW Unit,w.ownsMap P k KE b m.length D0/\(intKeys D0).Perm (m.map (·.1))/\Maps.size D0=m.length:=by
 obtain⟨es,clock,rfl,hes,hborn,hnd⟩:=hM
 have hlen:es.toList.length=m.length:=by
  have:=qab List.length hes
  simpa using this
 have hkeys:es.toList.map (·.key)=m.map fun p=>Value.int .i64 p.1:=by
  have:=qab (List.map Prod.fst) hes
  simpa[qbi,qcr]using this
 have hwf:∀x∈es.toList,∃a:Int,x.key=.int .i64 a/\(Lit.int .i64 a).wf=true/\keyOf P k x.key=some (.int .i64 a):=fun x hx=>by
  have h1:x.key∈es.toList.map (·.key):=qah.2 ⟨x,hx,rfl⟩;rw[hkeys,qah]at h1;obtain⟨p,hp,h2⟩:=h1
  have hw:(Lit.int .i64 p.1).wf=true:=by
   have:=hr p hp;simp only[Lit.wf,qao,qap];exact⟨this.1,this.2⟩
  exact⟨p.1,h2.symm,hw,by rw[<-h2];exact keyOf_int_mk hk hw⟩
 have F:Fit P k KE es clock:=by
  refine⟨by rw[show es.size=es.toList.length by simp,hlen];exact hsz,⟨hborn,hnd,?_⟩,fun x hx=>?_⟩
  .rw[hkeys,qdo,qbs];rw[qdo,qbs]at nd;exact nd.imp fun h he=>h (by injection he)
  .obtain⟨a,_,_,h3⟩:=hwf x hx;exact⟨(.int .i64 a,.nil),by simp[rd,h3,KE]⟩
 have hrg:es.toList.map (rg P k KE)=(m.map fun p=>(Lit.int .i64 p.1,(DataW.nil:DataW Unit))):=by
  have h1:es.toList.map (rg P k KE)=(es.toList.map (·.key)).map fun v=>match v with | .int _ a=>(Lit.int .i64 a,(DataW.nil:DataW Unit))|_=>(.bool false,.nil):=by
   rw[qbi];refine qc0 fun x hx=>?_;obtain⟨a,h1,_,h3⟩:=hwf x hx;rw[rg_of (y:=(.int .i64 a,.nil)) (by simp[rd,h3,KE])];simp[h1]
  rw[h1,hkeys,qbi];rfl
 refine⟨.map ((es.toList.map (rg P k KE)).foldr DataW.insert []),⟨es,clock,hb,F,by rw[show es.size=es.toList.length by simp,hlen];exact qae _,rfl⟩,?_,?_⟩
 .show(((es.toList.map (rg P k KE)).foldr DataW.insert []).map fun p=>intOf p.1).Perm _;refine((sorted_perm _).map _).trans ?_;rw[hrg,qbi];exact List.Perm.of_eq (qc0 fun p _=>rfl)
 .show((es.toList.map (rg P k KE)).foldr DataW.insert []).length=_;rw[(sorted_perm _).length_eq,qaj,hlen]
theorem Zz{w:World}{base:Nat}{e:TypeId}{v:Value}{xs:List Int}{n:Nat}(hn:n=xs.length)(h:w.ownsRow base e 1 v n (xs.map (Value.int .i64))) :
  ∃a c,v=.slice a xs.length c/\Rd w a 1 (fun x:Int=>[.int .i64 x]) xs/\xs.length<=c/\(xs=[]\/base<=(adr a).block):=by
 subst hn
 rcases h.2 with⟨rfl,hz⟩|⟨g,cap,cur,rfl,hbase,hg,hcap,_,hsz,hpre⟩
 .have:xs=[]:=qa4 hz
  subst this;exact⟨none,0,rfl,Rd.nil,qae _,.inl rfl⟩
 .refine⟨_,cap,rfl,?_,hcap,.inr hbase⟩
  have hO:OS (some ⟨g,0,none⟩) xs.length cap 1 cur.toList (xs.map (Value.int .i64)) :=
   ⟨fun p hp=>(by cases hp;rfl),fun hp=>(by cases hp),by simpa using hsz,hcap,hpre⟩
  exact hO.rd1 (t:=e) fun x hx=>by
   rw[LW rfl,qaa]at hx;subst hx;show w.heap[g]?=some (.cells cur.toList.toArray e (0,0));rw[Array.toArray_toList];exact hg
section
variable {P:Program}{r:Option Nat}{ops rest:List Oper}{Q:Exit->Env->World->Prop}{e:Env}{w w0:World}{S:List Nat}{L:List (Nat × Obj)}{dst:Option Tmp}{ty:TypeId}{pos:String}{af:Array Edge}{g:Option (Nat × Bool)}{n:Nat}
theorem EZ{α:Type}{x:Code}{K:Env->World->Prop}(D:Nat)(live:α->List (Nat × Value))(I:α->World->Prop)(hD:Ho D x=true)(h:W P r n x (Gx (fun e' w'=>∃z,e'.ds=e.ds/\PQ e' (live z)/\I z w') Q) e w)(hk:∀z j w',I z w'->K (Ze (Adg e D j) (live z)) w'):W P r n x (Gx K Q) e w:=by
 refine GU x (MW (S:=Same D e) ?_) (HC x _ e w hD (Same.refl _ _) h);rintro e' w' hs ⟨z,hd,hl,hI⟩;have:=hk z e'.g w' hI;rw[<-hs.eq hd,QQ hl]at this;exact this
def Z1(l:Nat)(R:Value->World->Prop):Exit->Env->World->Prop
 | .normal,_,w=>∃lo,w.heap[l]?=some (.loop lo)/\R (.bool true) (w.putObj l (.loop { lo with state := .ready,pending:=none }))
 | .ret,_,w=>∃lo,w.heap[l]?=some (.loop lo)/\R (.bool false) (w.putObj l (.loop { lo with state := .done,pending:=some .ret }))
 | .exit id,_,w=>∃lo,w.heap[l]?=some (.loop lo)/\R (.bool false) (w.putObj l (.loop { lo with state := .done,pending:=some (.exit id) }))
 | .goto t,_,w=>∃lo,w.heap[l]?=some (.loop lo)/\R (.bool false) (w.putObj l (.loop { lo with state := .done,pending:=some (.goto t) }))
 |_,_,_=>False
def Agv(P:Program)(l n:Nat)(body:Code)(R:Value->World->Prop):Exit->Env->World->Prop
 | .normal,e,w=>∃lo,w.heap[l]?=some (.loop lo)/\lo.state=.ready/\W P (some l) n body (Z1 l R) e (w.putObj l (.loop { lo with state := .busy }))
 |_,_,_=>False
theorem II{l f:Nat}{tmps:Array Value}{assign body:Code}{R:Value->World->Prop}(e0:Env)(hs:Sim n e0 { tmps:=tmps,defers:=[] })(h:W P (some l) n assign (Agv P l n body R) e0 w)(hfit:(KC n assign && KC n body)=true:=by kernel_rfl):RoundIn Fence.wide 0 P l f tmps assign body w fun x w'=>∃v,x=.returned v/\R v w':=by
 simp only[qao]at hfit;refine roundIn_of_wpIn trivial ?_;have h1:=FN (r:=some l) assign _ e0 w h hfit.1 _ hs;refine wpIn_mono (F:=Fr (some l)) h1 ?_;rintro x a w1 ⟨e1,hs1,hq⟩
 cases x with
 |normal =>
  obtain⟨lo,hl,hst,hb⟩:=hq;refine⟨_,run_beginRound hl hst,?_⟩;refine wpIn_mono (F:=Fr (some l)) (FN (r:=some l) body _ e1 _ hb hfit.2 _ hs1) ?_;rintro y a2 w2 ⟨e2,_,hq2⟩
  cases y with
  |normal=>obtain⟨lo2,hl2,hR⟩:=hq2;exact⟨_,_,run_endRound none hl2,_,rfl,hR⟩
  |ret=>obtain⟨lo2,hl2,hR⟩:=hq2;exact⟨_,_,run_endRound (some .ret) hl2,_,rfl,hR⟩
  |exit id=>obtain⟨lo2,hl2,hR⟩:=hq2;exact⟨_,_,run_endRound (some (.exit id)) hl2,_,rfl,hR⟩
  |goto t=>obtain⟨lo2,hl2,hR⟩:=hq2;exact⟨_,_,run_endRound (some (.goto t)) hl2,_,rfl,hR⟩
  |panic c=>exact hq2.elim
  |outgrown=>exact hq2.elim
 |exit id=>exact hq.elim
 |goto t=>exact hq.elim
 |ret=>exact hq.elim
 |panic c=>exact hq.elim
 |outgrown=>exact hq.elim
def YieldAt(P:Program)(l:Nat)(vs:List Value)(w:World)(R:Value->World->Prop):Prop :=
 ∃fn tmps assign body,(Instr.yield l vs.toArray).run P w=.ok (.round l fn tmps assign body) w/\RoundIn Fence.wide 0 P l fn tmps assign body w fun x w'=>∃v,x=.returned v/\R v w'
theorem YieldAt.mono{l:Nat}{vs:List Value}{R R':Value->World->Prop}(h:YieldAt P l vs w R)(hr:∀v w',R v w'->R' v w'):YieldAt P l vs w R' :=
 let ⟨fn,tmps,assign,body,h1,h2⟩:=h
 ⟨fn,tmps,assign,body,h1,RoundIn.mono h2 fun _ _ ⟨v,hx,hR⟩=>⟨v,hx,hr _ _ hR⟩⟩
theorem RO{fo:Operand}{l:Nat}{args:Array Operand}{ats:Array TypeId}{vs:List Value}{R:Value->World->Prop}(hg:AJ ⟨dst,.call ⟨.value fo,args,ats⟩,ty,pos,af,g⟩ ops e=true)(hfo:ev e fo=.func (.yield l) #[] #[])(hy:YieldAt P l vs w R)(ha:args.toList.map (ev e)=vs)(h:∀v w',R v w'->AB P r ops Q rest (put e dst v) w') :
  AB P r ops Q (⟨dst,.call ⟨.value fo,args,ats⟩,ty,pos,af,g⟩::rest) e w:=by
 obtain⟨fn,tmps,assign,body,hy,hr⟩:=hy;have hav:args.map (ev e)=vs.toArray:=by subst ha;apply qcd;simp only[qcz]
 unfold AB;rw[if_pos hg,Oper.semAt_eq r _ _ (KJ rfl)]
 have hrun:(execOp (ev e) ⟨dst,.call ⟨.value fo,args,ats⟩,ty,pos,af,g⟩).run P w=.ok (.round l fn tmps assign body) w:=by
  simp[execOp,resolve,hfo,Deferred.ofValue,invoke,hav,hy]
 rw[hrun];exact RoundIn.mono hr fun _ _ ⟨v,hx,hR⟩=>⟨v,hx,h _ _ hR⟩
theorem KW{l:Nat}{vs:List Value}{lo:Loop}{R:Value->World->Prop}(hl:w.heap[l]?=some (.loop lo))(hs:vs.length=lo.params.size)(hr:RoundIn Fence.wide 0 P l lo.fn ((lo.params.zip vs.toArray).foldl (fun tmps (t,a)=>tmps.setIfInBounds t a) lo.tmps) lo.assign lo.body w fun x w'=>∃v,x=.returned v/\R v w'):YieldAt P l vs w R :=
 ⟨_,_,_,_,run_yield hl (by simpa using hs),hr⟩
theorem HK{f:Operand}{ps:Array Tmp}{assign body:Code}{gf:Nat}{ca:Array Value}(hf:ev e f=.func (.func gf) #[] ca)(hc:Aw P gf=true)(h:∀fn tmps,tmps.size=n->(∀i,tmps.getD i undef=e.g i)->∀D l w2,D=w.heap.size->l=w.heap.size+1->Ext [] w w2->w2.heap[D]?=some (.deferred (some [])) ->
   w2.heap[l]?=some (.loop { state := .ready,pending:=none,fn,tmps,params:=ps,assign,body,defers:=D }) ->
   Ret P gf (#[.func (.yield l) #[] #[]]++ca) w2 fun _ w3=>∃lo,w3.heap[l]?=some (.loop lo)/\lo.state ≠ .busy /\
    OQ Q ⟨e.g,{ target := .collected D,args:=#[] }::e.ds⟩ (w3.putObj l (.loop { lo with state := .exhausted })) lo.pending):W P none n (.rangeFunc f ps assign body) Q e w:=by
 refine⟨_,rfl,fun fn tmps hn ht=>?_⟩;have hx1:=Ext.alloc ([]:List Nat) w (.deferred (some []));have hx2:=Ext.alloc ([]:List Nat) (w.alloc (.deferred (some []))) (.loop { state := .ready,pending:=none,fn,tmps,params:=ps,assign,body,defers:=w.heap.size });have hD:(w.alloc (.deferred (some []))).heap[w.heap.size]?=some (.deferred (some [])):=World.alloc_heap_new w _
 have h1:=h fn tmps hn ht w.heap.size (w.heap.size+1) _ rfl rfl (hx1.trans hx2) (by rw[hx2.block w.heap.size (by simp) (by simp)];exact hD)
  (by have:=World.alloc_heap_new (w.alloc (.deferred (some []))) (.loop { state := .ready,pending:=none,fn,tmps,params:=ps,assign,body,defers:=w.heap.size });rwa [World.size_alloc]at this)
 refine⟨gf,#[],ca,hf,?_,?_⟩
 .exact GS hc _ _
 .have hsz:(Jl none w).heap.size=w.heap.size+1:=by simp[Jl]
  simp only[hsz];have harr:#[]++#[Value.func (.yield (w.heap.size+1)) #[] #[]]++ca=#[Value.func (.yield (w.heap.size+1)) #[] #[]]++ca:=by simp
  rw[harr];exact h1
def Marks:List Deferred->World->(World->Prop)->Prop
 | [],w,K=>K w
 |d::ds,w,K=>∃D,d.target=.collected D/\w.heap[D]?=some (.deferred (some []))/\Marks ds (w.putObj D (.deferred none)) K
def Abk(P:Program)(fn:Func)(R:Value->World->Prop):Exit->Env->World->Prop
 | .normal,e,w | .ret,e,w=>Marks e.ds w fun w'=>∀tmps:Array Value,(∀i,tmps.getD i undef=e.g i)->∃v,(results fn tmps).run P w'=.ok v w'/\R v w'
 |_,_,_=>False
theorem ND{fn:Func}{R:Value->World->Prop}{tmps:Array Value}:∀{ds:List Deferred} {w:World},(Marks ds w fun w'=>∃v,(results fn tmps).run P w'=.ok v w'/\R v w') ->
  LeavesInM Fence.wide 0 P fn tmps (fun x w'=>∃v,x=.returned v/\R v w') ds .returning w
 | [],w,⟨v,h1,h2⟩=>⟨v,h1,v,rfl,h2⟩
 |d::ds,w,⟨D,h1,h2,h3⟩=>⟨by simp,.inl ⟨D,_,h1,run_takeDeferred h2,ND h3⟩⟩
theorem Marks.mono:∀{ds:List Deferred} {w:World} {K K':World->Prop},(∀w,K w->K' w)->Marks ds w K->Marks ds w K'
 | [],_,_,_,h,hk=>h _ hk
 |_::_,_,_,_,h,⟨D,h1,h2,h3⟩=>⟨D,h1,h2,Marks.mono h h3⟩
theorem JI{f:FuncId}{fn:Func}{c:Code}{args:Array Value}{R:Value->World->Prop}(hf:P.funcs[f]?=some fn)(hb:fn.body=some c)(l:List Value)(hargs:args=l.toArray)(h:W P none fn.ntmps c (Abk P fn R) ⟨fun i=>l.getD i undef,[]⟩ w)(hfit:(Nat.ble l.length fn.ntmps && KC fn.ntmps c)=true:=by kernel_rfl):Ret P f args w R:=by
 simp only[qao]at hfit;refine callsIn_of_wp_marks hf hb trivial (wpIn_mono (FN (r:=none) c _ _ w h hfit.2 _ ?_) ?_)
 .refine⟨rfl,?_,fun i=>?_⟩
  .subst hargs;have:=qdg hfit.1;simp;omega
  .subst hargs;simp only[qbt,qa8];rw[qeq]
   by_cases hi:i<l.length
   .simp[hi]
   .simp only[qds,if_neg hi];rw[qbz (by omega)];rw[qer]
    split <;> rfl
 .rintro x a' w' ⟨e',hs',hq⟩
  have hgo:∀w',(Marks e'.ds w' fun w'=>∀tmps:Array Value,(∀i,tmps.getD i undef=e'.g i)->∃v,(results fn tmps).run P w'=.ok v w'/\R v w') ->
    LeavesInM Fence.wide 0 P fn a'.tmps (fun x w'=>∃v,x=.returned v/\R v w') a'.defers .returning w':=fun w' hm=>by
   rw[hs'.1];exact ND (Marks.mono (fun w hk=>hk _ hs'.2.2) hm)
  cases x with
  |normal=>exact hgo _ hq
  |ret=>exact hgo _ hq
  |exit id=>exact hq.elim
  |goto l=>exact hq.elim
  |panic c=>exact hq.elim
  |outgrown=>exact hq.elim
theorem NE{fn:Func}{R:Value->World->Prop}{t:Tmp}{v:Value}(hr:fn.results=#[.tmp t])(hv:e.g t=v)(h:Marks e.ds w (R v)):Abk P fn R .ret e w :=
 Marks.mono (fun w h tmps ht=>by
  have h1:=(ht t).trans hv;rw[qbt]at h1
  exact⟨v,by simp[results,hr,h1],h⟩) h
end
end Go.GV
