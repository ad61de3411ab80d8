/- Part 2 of the proof. -/
import Derived.Test.YtcpgbcabmcbclaaGreatDoorPart1
import Derived.Laws.Tables
import Derived.Laws.AppendOwn
import Derived.Laws.IdiomStrings
import Derived.Laws.Strings
import Derived.Shelf.SlIterI.Nil
import Derived.Shelf.SortM.Plain
import Derived.Shelf.SortM.SortNone
import Derived.Maps.RangeRun
namespace Go.GV
open Go
section
variable {P:Program}{r:Option Nat}{ops rest:List Oper}{Q:Exit->Env->World->Prop}{e:Env}{w w0:World}{S:List Nat}{L:List (Nat × Obj)}{dst:Option Tmp}{ty:TypeId}{pos:String}{af:Array Edge}{g:Option (Nat × Bool)}
theorem W6{o:Oper}{f:FuncId}{args:Array Value}{w':World}{R:Value->World->Prop}(hg:AJ o ops e=true)(hd:TX o.op=true)(hrun:(execOp (ev e) o).run P w=.ok (.enter f args) w')(hc:Ret P f args w' R)(h:∀v w'',R v w''->AA P r ops Q rest (put e o.dst v) w''):AA P r ops Q (o::rest) e w:=by
 unfold AA;rw[if_pos hg,Oper.semAt_eq r _ _ (KJ hd),hrun];exact Ret.mono hc h
theorem Aj{f:FuncId}{args:Array Operand}{ats:Array TypeId}{l:List Value}{R:Value->World->Prop}(hf:Ax P f=true)(hc:Ret P f l.toArray w R)(ha:args.toList.map (ev e)=l)(h:∀v w',R v w'->AA P r ops Q rest (put e dst v) w')(hg:AJ ⟨dst,.call ⟨.value (.func f),args,ats⟩,ty,pos,af,g⟩ ops e=true:=by exact U):
  AA P r ops Q (⟨dst,.call ⟨.value (.func f),args,ats⟩,ty,pos,af,g⟩::rest) e w:=by
 refine W6 (R:=R) hg U ?_ hc h
 have:args.map (ev e)=l.toArray:=by subst ha;apply qcd;simp only[qcz]
 simp[execOp,resolve,ev,Deferred.ofValue,invoke,this,GU hf]
theorem KP{f:FuncId}{fo:Operand}{fi ca:Array Value}{args:Array Operand}{ats:Array TypeId}{l:List Value}{R:Value->World->Prop}(hg:AJ ⟨dst,.call ⟨.value fo,args,ats⟩,ty,pos,af,g⟩ ops e=true)(hfo:ev e fo=.func (.func f) fi ca)(hf:Ax P f=true)(hc:Ret P f l.toArray w R)(ha:fi.toList++(args.toList.map (ev e)++ca.toList)=l)(h:∀v w',R v w'->AA P r ops Q rest (put e dst v) w') :
  AA P r ops Q (⟨dst,.call ⟨.value fo,args,ats⟩,ty,pos,af,g⟩::rest) e w:=by
 refine W6 (R:=R) hg U ?_ hc h
 have:fi++args.map (ev e)++ca=l.toArray:=by rw[<-ha];apply qcd;simp
 simp[execOp,resolve,hfo,Deferred.ofValue,invoke,this,GU hf]
end
def ent(a:Option Addr)(t:TypeId)(full:List Value):List (Nat × Obj) :=
 match a with
 |none=>[]
 |some p=>[(p.block,Bl t full)]
structure OS(a:Option Addr)(n c s:Nat)(full l:List Value):Prop where
 zero:∀p,a=some p->p=⟨p.block,0,none⟩
 none':a=none->c=0
 len:full.length=c*s
 le:n<=c
 pre:full.take (n*s)=l
theorem OS.nil{s:Nat}:OS none 0 0 s [] []:=⟨(fun _ h=>by cases h),fun _=>rfl,by simp,qae _,by simp⟩
theorem OS.llen{a:Option Addr}{n c s:Nat}{full l:List Value}(h:OS a n c s full l):l.length=n*s:=by
 rw[<-h.pre,qa0,h.len];exact Nat.min_eq_left (Nat.mul_le_mul_right _ h.le)
theorem OS.form{a:Option Addr}{n c s:Nat}{full l:List Value}(h:OS a n c s full l)(hn:0<n):∃b,a=some ⟨b,0,none⟩:=by
 cases a with
 |none=>have:=h.none' rfl;have:=h.le;omega
 |some p=>exact⟨p.block,by rw[<-h.zero p rfl]⟩
theorem OS.split{a:Option Addr}{n c s:Nat}{full l:List Value}(h:OS a n c s full l):full=l++full.drop (n*s):=by
 rw[<-h.pre,qbl]
theorem LU{a:Option Addr}{t:TypeId}{full:List Value}{b:Nat}(h:a=some ⟨b,0,none⟩):ent a t full=[(b,Bl t full)]:=by subst h;rfl
theorem OS.rd{α:Type}{w:World}{a:Option Addr}{n c s:Nat}{t:TypeId}{full:List Value}{enc:α->List Value}{xs:List α}(h:OS a n c s full (xs.flatMap enc))(hb:∀x∈ent a t full,w.heap[x.1]?=some x.2)(hs:∀x∈xs,(enc x).length=s)(h0:0<s):Rd w a s enc xs:=by
 cases a with
 |none =>
  cases xs with
  |nil=>exact Rd.nil
  |cons x xs =>
   exfalso;have h1:=h.llen;have h2:=h.none' rfl;have h3:=h.le;have h4:n=0:=by omega
   have h5:=hs x (by simp);subst h4;simp only[qcc,qan,qd6]at h1;omega
 |some p =>
  have hz:=h.zero p rfl;obtain⟨b,o,sp⟩:=p;simp only[Addr.mk.injEq,true_and]at hz;obtain⟨rfl,rfl⟩:=hz;exact Rd.of_bl (r:=full.drop (n*s)) (hb (b,Bl t full) (by simp[ent])) h.split hs
theorem Ctx.callEnt{w0 w w':World}{S:List Nat}{L E:List (Nat × Obj)}(H:Ctx w0 S w L)(he:Ext [] w w')(hb:∀x∈E,w'.heap[x.1]?=some x.2/\w.heap.size<=x.1)(hp:E.Pairwise fun x y=>x.1≠y.1) :
  Ctx w0 S w' (L++E):=by
 have H':=H.call he;refine⟨H'.ext,?_,?_,?_⟩
 .intro x hx
  rcases qat.1 hx with hx|hx
  .exact H'.blk x hx
  .exact(hb x hx).1
 .rw[qca];refine⟨H.nd,hp,fun x hx y hy=>?_⟩;have h1:=Al (H.blk x hx);have h2:=(hb y hy).2;omega
 .intro x hx
  rcases qat.1 hx with hx|hx
  .exact H.own x hx
  .exact .inr (qaw H.size (hb x hx).2)
theorem Ctx.perm{w0 w:World}{S:List Nat}{L L':List (Nat × Obj)}(H:Ctx w0 S w L)(hp:L.Perm L'):Ctx w0 S w L' :=
 H.sub (fun _ hx=>hp.mem_iff.2 hx) (hp.pairwise H.nd (fun h=>Ne.symm h))
theorem Ctx.comm{w0 w:World}{S:List Nat}{L L':List (Nat × Obj)}(H:Ctx w0 S w (L++L')):Ctx w0 S w (L'++L):=H.perm qcn
theorem Ctx.left{w0 w:World}{S:List Nat}{L L':List (Nat × Obj)}(H:Ctx w0 S w (L++L')):Ctx w0 S w L :=
 H.sub (fun _ hx=>qa5 _ hx) (qca.1 H.nd).1
theorem Ctx.right{w0 w:World}{S:List Nat}{L L':List (Nat × Obj)}(H:Ctx w0 S w (L++L')):Ctx w0 S w L' :=
 H.sub (fun _ hx=>qax _ hx) (qca.1 H.nd).2.1
theorem Uf(need:Nat):∀(k c:Nat),c<=2*need+768->Builtin.growBy need k c<=2*need+768
 |0,c,h=>h
 |k+1,c,h=>by
  unfold Builtin.growBy
  split
  .exact h
  .exact Uf need k _ (by omega)
theorem YU(need c:Nat)(h:c<need):Builtin.nextslicecap need c<=2*need+768:=by
 unfold Builtin.nextslicecap
 split
 .omega
 .split
  .omega
  .exact Uf need 4 c (by omega)
theorem OR(z:Array Value)(n:Nat):(Builtin.zeroCells z n).size=n*z.size:=by simp[Builtin.zeroCells]
section
variable {P:Program}{w w0:World}{S:List Nat}{L:List (Nat × Obj)}
theorem GZ{s m:Nat}{a:Option Addr}{c k:Nat}{l:List Value}(hl:l.length=m*s)(hc:∀j v,l[j]?=some v->∃p,a=some p/\w.cell? (p.add j)=some v) :
  (Builtin.firstCells s m (.slice a c k)).run P w=.ok l.toArray w:=by
 cases a with
 |none =>
  have h0:l=[]:=by
   cases l with
   |nil=>rfl
   |cons v l=>obtain⟨p,hp,_⟩:=hc 0 v rfl;cases hp
  subst h0;simp[Builtin.firstCells]
 |some p =>
  have h:=OQ (P:=P) (w:=w) (p:=p) l 0 #[] (fun j v hv=>by
   obtain⟨q,hq,hv⟩:=hc j v hv
   injection hq with hq
   subst hq
   rwa [qa2])
  rw[hl]at h;simp[Builtin.firstCells,loadCells,h]
theorem YV{t t2 el el2 ty:TypeId}{s by':Nat}{zl:List Value}(hu:C0 P t=some el)(hu2:C0 P t2=some el2)(hs:BK P el=some s)(hby:Gc P el=some by')(hz:BW P el=some zl)(hzl:zl.length=s)(hpos:0<by'){a a2:Option Addr}{n c m c2:Nat}{full l new:List Value}(H:Ctx w0 S w (L++ent a el full))(O:OS a n c s full l)(hn:new.length=m*s)(h1:∀v∈new,Bh v=true)(hc:∀j v,new[j]?=some v->∃p,a2=some p/\w.cell? (p.add j)=some v)(hbound:(2*(n+m)+768)*by'<=281474976710656) :
  ∃a' c' full' w',(Builtin.append_ #[t,t2] ty #[.slice a n c,.slice a2 m c2]).run P w=.ok (.slice a' (n+m) c') w'/\Ctx w0 S w' (L++ent a' el full')/\OS a' (n+m) c' s full' (l++new):=by
 have hfc:=GZ (P:=P) (w:=w) (s:=s) (m:=m) (a:=a2) (c:=m) (k:=c2) hn hc
 by_cases hfit:n+m<=c
 ·-- in place
  cases a with
  |none =>
   have h0:=O.none' rfl;have hm:m=0:=by omega
   have hn0:n=0:=by omega
   subst hm hn0 h0;have hnew:new=[]:=qa4 (by omega);have hl:l=[]:=qa4 (by have:=O.llen;omega);have hfull:full=[]:=qa4 (by have:=O.len;omega);subst hnew hl hfull;refine⟨none,0,[],w,?_,H,OS.nil⟩;simp[Builtin.append_,AL (Cv hu),AL (Cv hu2),Cd hs,Builtin.lenOf,hfc]
  |some p =>
   have hp:=O.zero p rfl;obtain⟨b,o,sp⟩:=p;simp only[Addr.mk.injEq,true_and]at hp;obtain⟨rfl,rfl⟩:=hp;have hk:(L++ent (some ⟨b,0,none⟩) el full)[L.length]?=some (b,Bl el full):=by simp[ent]
   have hb:=H.get hk;have hmul:(n+m)*s<=c*s:=Nat.mul_le_mul_right _ hfit;have hadd:(n+m)*s=n*s+m*s:=qco _ _ _;obtain⟨w',hr,he,hb'⟩:=GX (P:=P) (o:=n*s) new full w 0 h1 hb (by rw[O.len];omega);have hwr:=H.turn hk _ he hb';rw[show(L++ent (some ⟨b,0,none⟩) el full).set L.length (b,Bl el (over full (n*s+0) new))=L++ent (some ⟨b,0,none⟩) el (over full (n*s) new)from by simp[ent]]at hwr;refine⟨some ⟨b,0,none⟩,c,over full (n*s) new,w',?_,hwr,?_⟩
   .have hst:(storeCells (Addr.add ⟨b,0,none⟩ (n*s)) new).run P w=.ok () w':=by
     rw[Dw,qa2];exact hr
    simp[Builtin.append_,AL (Cv hu),AL (Cv hu2),Cd hs,Builtin.lenOf,hfc,hfit,hst]
   .refine⟨fun q hq=>by injection hq with hq;subst hq;rfl,(fun h=>by cases h),by rw[PH];exact O.len,hfit,?_⟩;have hsp:=O.split;have hll:=O.llen;have htl:(full.drop (n*s)).length=c*s - n*s:=by rw[qbg,O.len]
    have hcut:full.drop (n*s)=(full.drop (n*s)).take (m*s)++(full.drop (n*s)).drop (m*s):=by rw[qbl]
    have hover:∀(vs a b c:List Value),b.length=vs.length->over (a++b++c) a.length vs=a++vs++c:=by
     intro vs
     induction vs with
     |nil=>intro a b c hb;have:b=[]:=qa4 (by simpa using hb);subst this;simp[over]
     |cons v vs ih =>
      intro a b c hb
      cases b with
      |nil=>simp at hb
      |cons x b =>
       have:=ih (a++[v]) b c (by simpa using hb);simp only[over];rw[show(a++x::b++c).set a.length v=a++[v]++b++c from by simp];rw[show a.length+1=(a++[v]).length from by simp,this];simp
    have hgoal:over full (n*s) new=l++new++(full.drop (n*s)).drop (m*s):=by
     have h4:=hover new l ((full.drop (n*s)).take (m*s)) ((full.drop (n*s)).drop (m*s)) (by rw[qa0,htl,hn];omega);rw[qa1,<-hcut,<-hsp,hll]at h4;exact h4
    rw[hgoal,qd7 (by rw[qan,hll,hn];omega)]
 ·-- a new block
  have hfit':c<n+m:=by omega
  have hncap:=YU (n+m) c hfit'
  have hbig:¬(281474976710656:Int)<((Builtin.nextslicecap (n+m) c*by':Nat):Int):=by
   have:Builtin.nextslicecap (n+m) c*by'<=(2*(n+m)+768)*by':=Nat.mul_le_mul_right _ hncap
   omega
  have hnm:n+m<=281474976710656:=by
   have h1:(2*(n+m)+768)*1<=(2*(n+m)+768)*by':=qb7 _ hpos
   omega
  -- the capacity that is drawn
  generalize hq:(Question.appendCap (n+m) c el).cut (w.tape w.drawn (Question.appendCap (n+m) c el))=cap;have hcap:n+m<=cap:=by rw[<-hq];unfold Question.cut;exact qcp _ _
  obtain⟨zv,hzr,hzc⟩:=KO (P:=P) hz w.drew;have hzs:zv.cells.size=s:=by rw[<-hzl,<-hzc];simp
  let full':=l++new++(Builtin.zeroCells zv.cells (cap - (n+m))).toList
  have hH:Ctx w0 S (w.drew.alloc (Bl el full')) ((w.drew.heap.size,Bl el full')::L):=by
   have:=(H.left.drew).alloc (Bl el full');exact this
  refine⟨some ⟨w.drew.heap.size,0,none⟩,cap,full',w.drew.alloc (Bl el full'),?_,?_,?_⟩
  .have hforced:(Question.appendCap (n+m) c el).forced=false:=rfl
   have hby2:∃i,P.info? el=some i/\i.bytes=by':=by
    unfold Gc at hby
    cases hi:P.info? el with
    |none=>rw[hi]at hby;cases hby
    |some i=>rw[hi]at hby;simp at hby;exact⟨i,rfl,hby⟩
   obtain⟨i,hi,hib⟩:=hby2;have hti:∀w,(typeInfo el).run P w=.ok i w:=fun w=>by simp[typeInfo,program,Sem.run,hi]
   have hold':(Builtin.firstCells s n (.slice a n c)).run P w.drew=.ok l.toArray w.drew:=by
    refine GZ (O.llen) (fun j v hv=>?_);have hjl:j<l.length:=(qap.1 hv).1
    have hn0:0<n:=by
     rcases Nat.eq_zero_or_pos n with h|h
     .have h5:=O.llen;rw[h,qd6]at h5;omega
     .exact h
    obtain⟨b,rfl⟩:=O.form hn0;refine⟨_,rfl,?_⟩;have hk:(L++ent (some ⟨b,0,none⟩) el full)[L.length]?=some (b,Bl el full):=by simp[ent]
    show w.cell? _=_;rw[Dw,qa2,Aq (H.get hk),O.split,qdj hjl];exact hv
   have hfc':(Builtin.firstCells s m (.slice a2 m c2)).run P w.drew=.ok new.toArray w.drew:=GZ hn hc;have hroom:∀k w,(askRoom k).run P w=.ok () w:=fun k w=>by unfold askRoom;split <;> rfl
   have hby0:¬by'=0:=by omega
   have hnn:(Builtin.append_ #[t,t2] ty #[.slice a n c,.slice a2 m c2]).run P w=.ok (.slice (some ⟨w.drew.heap.size,0,none⟩) (n+m) cap) (w.drew.alloc (.cells (l.toArray++(new.toArray++Builtin.zeroCells zv.cells (cap - (n+m)))) el)):=by
    have hb3:¬281474976710656<Builtin.nextslicecap (n+m) c*by':=by omega
    simp[Builtin.append_,AL (Cv hu),AL (Cv hu2),Cd hs,Builtin.lenOf,hfc',hold',hfit,hti,hib,hb3,hby0,hforced,hq,hroom,hzr,newRow,newObj,Sem.run]
   rw[hnn]
   have harr:l.toArray++(new.toArray++Builtin.zeroCells zv.cells (cap - (n+m)))=full'.toArray:=by
    apply qcd;simp[full']
   rw[harr];rfl
  .exact hH.perm (qcn (l₁:=[(w.drew.heap.size,Bl el full')]) (l₂:=L))
  .refine⟨(fun q hq=>by injection hq with hq;subst hq;rfl),(fun h=>by cases h),?_,hcap,?_⟩
   .show(l++new++(Builtin.zeroCells zv.cells (cap - (n+m))).toList).length=cap*s;rw[qan,qan,O.llen,hn,Array.length_toList,OR,hzs,<-qco,<-qco]
    congr 1
    omega
   .show(l++new++(Builtin.zeroCells zv.cells (cap - (n+m))).toList).take ((n+m)*s)=l++new;rw[qd7 (by rw[qan,O.llen,hn,qco])]
end
section
variable {P:Program}{r:Option Nat}{ops rest:List Oper}{Q:Exit->Env->World->Prop}{e:Env}{w w0:World}{S:List Nat}{L:List (Nat × Obj)}{dst:Option Tmp}{ty:TypeId}{pos:String}{af:Array Edge}{g:Option (Nat × Bool)}
theorem DQ{t t2 el el2:TypeId}{x y:Operand}{s by':Nat}{zl:List Value}(hg:AJ ⟨dst,.call ⟨.builtin .append,#[x,y],#[t,t2]⟩,ty,pos,af,g⟩ ops e=true)(hu:C0 P t=some el)(hu2:C0 P t2=some el2)(hs:BK P el=some s)(hby:Gc P el=some by')(hz:BW P el=some zl)(hzl:zl.length=s){a a2:Option Addr}{n c m c2:Nat}{full l:List Value}(new:List Value)(hx:ev e x=.slice a n c)(hy:ev e y=.slice a2 m c2)(H:Ctx w0 S w (L++ent a el full))(O:OS a n c s full l)(hn:new.length=m*s)(h1:∀v∈new,Bh v=true)(hc:∀j v,new[j]?=some v->∃p,a2=some p/\w.cell? (p.add j)=some v)(h:∀a' c' full' w',Ctx w0 S w' (L++ent a' el full')->OS a' (n+m) c' s full' (l++new)->AA P r ops Q rest (put e dst (.slice a' (n+m) c')) w')(hpos:0<by':=by decide)(hbound:(2*(n+m)+768)*by'<=281474976710656:=by omega):
  AA P r ops Q (⟨dst,.call ⟨.builtin .append,#[x,y],#[t,t2]⟩,ty,pos,af,g⟩::rest) e w:=by
 obtain⟨a',c',full',w',hr,H',O'⟩:=YV (ty:=ty) hu hu2 hs hby hz hzl hpos H O hn h1 hc hbound (c2:=c2);exact Bt hg U (by simp[execOp,resolve,invoke,builtin,hx,hy,hr]) (h a' c' full' w' H' O')
theorem BI{t el:TypeId}{x:Operand}{s:Nat}{zl:List Value}(l:List Value)(v:Value)(hu:C0 P t=some el)(hs:BK P el=some s)(hz:BW P el=some zl)(hzl:zl.length=s)(hx:ev e x=v)(hl:v.cells=l.toArray)(hll:l.length=s)(H:Ctx w0 S w L)(h:∀b w',w.heap.size=b->Ctx w0 S w' ((b,Bl el l)::L)->AA P r ops Q rest (put e dst (.slice (some ⟨b,0,none⟩) 1 1)) w')(hg:AJ ⟨dst,.buildSlice t 1 #[(0,x)],ty,pos,af,g⟩ ops e=true:=by exact U)(hs0:0<s:=by decide)(hs1:s<=16777216:=by decide):
  AA P r ops Q (⟨dst,.buildSlice t 1 #[(0,x)],ty,pos,af,g⟩::rest) e w:=by
 obtain⟨z,hz1,hz2⟩:=KO hz w;have hzs:z.cells.size=s:=by rw[<-hzl,<-hz2];simp
 refine Bt (w':=w.alloc (Bl el l)) (v := .slice (some ⟨w.heap.size,0,none⟩) 1 1) hg U ?_ (h _ _ U (H.alloc _))
 have hfill:∀cs:Array Value,cs.size=s->Instr.fill (fun i=>some (i*s,s)) cs [(0,v)]=some l.toArray:=by
  intro cs hcs
  have hfold:∀(vs:List Value) (k:Nat) (c0:Array Value),c0.size=k+vs.length->(vs.zipIdx k).foldl (fun cs (x:Value × Nat)=>cs.setIfInBounds (0+x.2) x.1) c0=((c0.toList.take k)++vs).toArray:=by
   intro vs
   induction vs with
   |nil=>intro k c0 h;simp only[List.zipIdx_nil,List.foldl_nil,qa3];apply qcd;simp only[qby]at h;simp;rw[qa6 (by simp;omega)]
   |cons u vs ih =>
    intro k c0 h;simp only[List.zipIdx_cons,qdk];rw[ih (k+1) _ (by simp at h |-;omega)]
    congr 1
    simp only[qa2,Array.toList_setIfInBounds];have hk:k<c0.toList.length:=by simp at h |-;omega
    rw[List.take_set,List.take_succ_eq_append_getElem hk];simp[List.set_append];rw[if_neg (by simp at h;omega)]
    have:k - min k c0.size=0:=by simp at h;omega
    rw[this];simp
  have h2:=hfold l 0 cs (by omega);simp only[Instr.fill,hl,qds,hll,qd6,qa2,hcs];rw[if_neg (by simp)]
  have h3:Array.foldl (fun cs (x:Value × Nat)=>cs.setIfInBounds (0+x.2) x.1) cs l.toArray.zipIdx=(l.zipIdx 0).foldl (fun cs (x:Value × Nat)=>cs.setIfInBounds (0+x.2) x.1) cs:=by
   rw[<-Array.foldl_toList];simp
  simp only[qa2]at h2 h3;rw[h3,h2];simp
 have hne:¬s=0:=by omega
 have hbig:¬16777216<s:=by omega
 simp[execOp,Instr.buildSlice,AL (Cv hu),Cd hs,hne,hbig,hz1,hx,hfill,newRow,newObj,Sem.run];rfl
theorem Q0{t el:TypeId}{x y:Operand}{by':Nat}{z:Value}{k k2:IntKind}{i j:Int}(hg:AJ ⟨dst,.makeSlice t x y,ty,pos,af,g⟩ ops e=true)(hu:C0 P t=some el)(hs:BK P el=some 1)(hby:Gc P el=some by')(hz:BW P el=some [z])(hx:ev e x=.int k i)(hy:ev e y=.int k2 j)(H:Ctx w0 S w L)(h:∀b w',w.heap.size=b->Ctx w0 S w' ((b,Bl el (List.replicate j.toNat z))::L)->AA P r ops Q rest (put e dst (.slice (some ⟨b,0,none⟩) i.toNat j.toNat)) w')(h0:0<=i:=by omega)(h1:i<=j:=by omega)(h2:by'*j<=281474976710656:=by omega)(h3:j<=9223372036854775807:=by omega):
  AA P r ops Q (⟨dst,.makeSlice t x y,ty,pos,af,g⟩::rest) e w:=by
 obtain⟨zv,hz1,hz2⟩:=KO hz w
 have hzs:zv.cells.size=1:=by
  have:zv.cells.toList.length=1:=by rw[hz2];rfl
  simpa using this
 have hby2:∃i,P.info? el=some i/\i.bytes=by':=by
  unfold Gc at hby
  cases hi:P.info? el with
  |none=>rw[hi]at hby;cases hby
  |some i=>rw[hi]at hby;simp at hby;exact⟨i,rfl,hby⟩
 obtain⟨inf,hi,hib⟩:=hby2;have hti:∀w,(typeInfo el).run P w=.ok inf w:=fun w=>by simp[typeInfo,program,Sem.run,hi]
 have hw1:IntKind.i64.wrap i=i:=EJ (k := .i64) (by simp[IntKind.min,IntKind.signed,IntKind.bits];omega) (by simp[IntKind.max,IntKind.signed,IntKind.bits];omega);have hw2:IntKind.i64.wrap j=j:=EJ (k := .i64) (by simp[IntKind.min,IntKind.signed,IntKind.bits];omega) (by simp[IntKind.max,IntKind.signed,IntKind.bits];omega);have hroom:∀k w,(askRoom k).run P w=.ok () w:=fun k w=>by unfold askRoom;split <;> rfl
 refine Bt (w':=w.alloc (Bl el (List.replicate j.toNat z))) (v := .slice (some ⟨w.heap.size,0,none⟩) i.toNat j.toNat) hg U ?_ (h _ _ U (H.alloc _));have hn1:¬j<0:=by omega
 have hn2:¬(281474976710656<(by':Int)*j):=by omega
 have hn3:¬i<0:=by omega
 have hn4:¬j<i:=by omega
 have hcells:(Array.range j.toNat).map (fun q=>zv.cells[q % zv.cells.size]!)=(List.replicate j.toNat z).toArray:=by
  apply Array.ext
  .simp
  .intro q h1 h2;simp only[hzs,Nat.mod_one,Array.getElem_map,List.getElem_toArray,List.getElem_replicate]
   have:zv.cells=#[z]:=by apply qcd;rw[hz2]
   rw[this];rfl
 by_cases hj:j.toNat=0
 .have hj0:j=0:=by omega
  have hi0:i=0:=by omega
  subst hj0 hi0;simp[execOp,Instr.makeSlice,AL (Cv hu),hx,hy,asInt,asIntOf,hti,hw2,hroom,Cd hs,newRow,newObj,Sem.run];have hr0:(Array.range 0)=(#[]:Array Nat):=by apply qcd;simp
  rw[hr0,Array.map_empty];rfl
 .simp[execOp,Instr.makeSlice,AL (Cv hu),hx,hy,asInt,asIntOf,hti,hib,hw1,hw2,hn1,hn2,hn3,hn4,hroom,Cd hs,hj,hz1,newRow,newObj,Sem.run];rw[hcells];rfl
theorem KQ{P:Program}{w:World}{k:IntKind}{i:Int}{y:Nat}{code:BoundsCode}(h0:0<=i)(h1:i<=y):(Instr.sliceBound (.int k i) y code).run P w=.ok i.toNat w:=by
 simp[Instr.sliceBound,asIntOf,h0,h1]
def EH(a:Option Addr)(c i s:Nat):Option Addr:=if c=i then a else a.map (·.add (i*s))
theorem FB{t el:TypeId}{x y:Operand}{s:Nat}{a:Option Addr}{n c:Nat}{k:IntKind}{i:Int}(hu:C0 P t=some el)(hs:BK P el=some s)(hx:ev e x=.slice a n c)(hy:ev e y=.int k i)(h:AA P r ops Q rest (put e dst (.slice (EH a c i.toNat s) (n - i.toNat) (c - i.toNat))) w)(hg:AJ ⟨dst,.slice t x (some y) none none,ty,pos,af,g⟩ ops e=true:=by exact U)(h0:0<=i:=by omega)(h1:i<=n:=by omega):
  AA P r ops Q (⟨dst,.slice t x (some y) none none,ty,pos,af,g⟩::rest) e w :=
 Bt hg rfl (by simp[execOp,Instr.sliceAt,Instr.slice,Instr.sliceBounds,AL (Cv hu),hx,hy,KQ h0 h1,Cd hs,EH]) h
theorem Eg{t el:TypeId}{x y:Operand}{s:Nat}{a:Option Addr}{n c:Nat}{k:IntKind}{j:Int}(hu:C0 P t=some el)(hs:BK P el=some s)(hx:ev e x=.slice a n c)(hy:ev e y=.int k j)(h:AA P r ops Q rest (put e dst (.slice a j.toNat c)) w)(hg:AJ ⟨dst,.slice t x none (some y) none,ty,pos,af,g⟩ ops e=true:=by exact U)(h0:0<=j:=by omega)(h1:j<=c:=by omega):
  AA P r ops Q (⟨dst,.slice t x none (some y) none,ty,pos,af,g⟩::rest) e w :=
 Bt hg rfl (by
  have:∀a:Option Addr,(if c=0 then a else a.map (·.add (0*s)))=a:=by
   intro a;split
   .rfl
   .cases a with
    |none=>rfl
    |some p=>simp[Addr.add]
  simp[execOp,Instr.sliceAt,Instr.slice,Instr.sliceBounds,AL (Cv hu),hx,hy,KQ h0 h1,Cd hs]
  simpa using this a) h
theorem JA{t el:TypeId}{x y z:Operand}{s:Nat}{a:Option Addr}{n c:Nat}{k k2:IntKind}{i j:Int}(hg:AJ ⟨dst,.slice t x (some y) (some z) none,ty,pos,af,g⟩ ops e=true)(hu:C0 P t=some el)(hs:BK P el=some s)(hx:ev e x=.slice a n c)(hy:ev e y=.int k i)(hz:ev e z=.int k2 j)(h:AA P r ops Q rest (put e dst (.slice (EH a c i.toNat s) (j.toNat - i.toNat) (c - i.toNat))) w)(h0:0<=i:=by omega)(h1:i<=j:=by omega)(h2:j<=c:=by omega):
  AA P r ops Q (⟨dst,.slice t x (some y) (some z) none,ty,pos,af,g⟩::rest) e w :=
 Bt hg rfl (by
  have h3:i<=(j.toNat:Nat):=by omega
  simp[execOp,Instr.sliceAt,Instr.slice,Instr.sliceBounds,AL (Cv hu),hx,hy,hz,KQ (show 0<=j from by omega) h2,KQ h0 h3,Cd hs,EH]) h
theorem Ac2{P:Program}{t el:TypeId}(hu:C0 P t=some el)(d:Nat)(a:Option Addr)(n c c2:Nat)(w:World) :
  (Op.equalIn (d+1) t (.slice a n c) (.slice none 0 c2)).run P w=.ok a.isNone w:=by
 cases a <;> simp[Op.equalIn,AL (Cv hu)]
theorem YW{P:Program}{t el:TypeId}(hu:C0 P t=some el)(a:Option Addr)(n c c2:Nat)(w:World):(binOp .eql t (.slice a n c) (.slice none 0 c2)).run P w=.ok (.bool a.isNone) w:=by
 simp only[binOp,Sem.run_bind,Op.equal,Op.maxDepth,Ac2 hu 9999];cases a <;> rfl
theorem Ug{t t2:TypeId}{x:Operand}{a:Option Addr}{n c c2:Nat}{el:TypeId}(hg:AJ ⟨dst,.binOp .eql t x (.const (.slice none 0 c2)) t2,ty,pos,af,g⟩ ops e=true)(hu:C0 P t=some el)(hx:ev e x=.slice a n c)(h:AA P r ops Q rest (put e dst (.bool a.isNone)) w):AA P r ops Q (⟨dst,.binOp .eql t x (.const (.slice none 0 c2)) t2,ty,pos,af,g⟩::rest) e w :=
 Bt hg rfl (by
  have hq:eqGuard .eql t x (.const (.slice none 0 c2)) (.slice a n c) (.slice none 0 c2)=pure ():=rfl;have he:ev e (.const (.slice none 0 c2))=.slice none 0 c2:=rfl
  simp only[execOp,hx,he,hq,Sem.run_bind,Sem.run_pure,Result.andThen_ok,YW hu]) h
end
section
variable {P:Program}{r:Option Nat}{ops rest:List Oper}{Q:Exit->Env->World->Prop}{e:Env}{w w0:World}{S:List Nat}{L:List (Nat × Obj)}{dst:Option Tmp}{ty:TypeId}{pos:String}{af:Array Edge}{g:Option (Nat × Bool)}{C:World->Prop}{K:Env->Prop}
theorem GF{o:Oper}{v:Value}(hg:AJ o ops e=true)(hrun:∀w,C w->(execOp (ev e) o).run P w=.ok (.value v) w)(h:Wq P ops C K rest (put e o.dst v)):Wq P ops C K (o::rest) e:=by
 unfold Wq;rw[if_pos hg];exact⟨v,fun w hw=>by rw[hrun w hw];exact⟨rfl,rfl⟩,h⟩
theorem Js(h:K e):Wq P ops C K [] e:=h
theorem Ig{t:TypeId}{x:Operand}{p:Addr}{v:Value}(ha:DT P t=some false)(hx:ev e x=.pointer (some p))(hc:∀w,C w->w.cell? p=some v)(h:Wq P ops C K rest (put e dst v))(hg:AJ ⟨dst,.load t x,ty,pos,af,g⟩ ops e=true:=by exact U):Wq P ops C K (⟨dst,.load t x,ty,pos,af,g⟩::rest) e :=
 GF hg (fun w hw=>by simp[execOp,hx,Instr.loadAt,Instr.sureAddr,Hp ha (hc w hw)]) h
theorem Aau{t t2:TypeId}{x:Operand}{b i k:Nat}{l:List Value}{v:Value}(hg:AJ ⟨dst,.load t x,ty,pos,af,g⟩ ops e=true)(ha:DT P t=some false)(hx:ev e x=.pointer (some ⟨b,i,none⟩))(H:∀w,C w->Ctx w0 S w L)(hk:L[k]?=some (b,Bl t2 l))(hc:l[i]?=some v)(h:Wq P ops C K rest (put e dst v)):Wq P ops C K (⟨dst,.load t x,ty,pos,af,g⟩::rest) e :=
 Ig (hg:=hg) ha hx (fun w hw=>by rw[Aq ((H w hw).get hk)];exact hc) h
section
variable {t t2:TypeId}{x y:Operand}{k:IntKind}{a b:Int}
theorem q_lss(hg:AJ ⟨dst,.binOp .lss t x y t2,ty,pos,af,g⟩ ops e=true)(hx:ev e x=.int k a)(hy:ev e y=.int k b)(h:Wq P ops C K rest (put e dst (.bool (decide (a<b))))) :
  Wq P ops C K (⟨dst,.binOp .lss t x y t2,ty,pos,af,g⟩::rest) e:=GF hg (fun w _=>BR hx hy (by simp[binOp,Op.intCmp])) h
theorem q_gtr(hg:AJ ⟨dst,.binOp .gtr t x y t2,ty,pos,af,g⟩ ops e=true)(hx:ev e x=.int k a)(hy:ev e y=.int k b)(h:Wq P ops C K rest (put e dst (.bool (decide (b<a))))) :
  Wq P ops C K (⟨dst,.binOp .gtr t x y t2,ty,pos,af,g⟩::rest) e:=GF hg (fun w _=>BR hx hy (by simp[binOp,Op.intCmp])) h
theorem q_neq(hg:AJ ⟨dst,.binOp .neq t x y t2,ty,pos,af,g⟩ ops e=true)(hx:ev e x=.int k a)(hy:ev e y=.int k b)(h:Wq P ops C K rest (put e dst (.bool (!decide (a=b))))) :
  Wq P ops C K (⟨dst,.binOp .neq t x y t2,ty,pos,af,g⟩::rest) e :=
 GF hg (fun w _=>BR hx hy (v := .bool (!decide (a=b))) (by simp[binOp,Op.intCmp];rfl)) h
theorem q_quo(hg:AJ ⟨dst,.binOp .quo t x y t2,ty,pos,af,g⟩ ops e=true)(hx:ev e x=.int k a)(hy:ev e y=.int k b)(h0:0<=a)(hb:0<b)(h2:a<=k.max)(h:Wq P ops C K rest (put e dst (.int k (a / b)))):Wq P ops C K (⟨dst,.binOp .quo t x y t2,ty,pos,af,g⟩::rest) e:=by
 refine GF hg (fun w _=>BR hx hy (v := .int k (a / b)) ?_) h;have h3:a.tdiv b=a / b:=qeu h0;have h4:0<=a / b:=Int.ediv_nonneg h0 (by omega);have h5:a / b<=a:=Int.ediv_le_self _ h0;have h6:k.min<=0:=by cases k <;> decide
 simp[binOp,Op.intDiv,h3,show ¬b=0 from by omega,EJ (k:=k) (n:=a / b) (by omega) (by omega)]
theorem q_rem(hg:AJ ⟨dst,.binOp .rem t x y t2,ty,pos,af,g⟩ ops e=true)(hx:ev e x=.int k a)(hy:ev e y=.int k b)(h0:0<=a)(hb:0<b)(h:Wq P ops C K rest (put e dst (.int k (a % b)))):Wq P ops C K (⟨dst,.binOp .rem t x y t2,ty,pos,af,g⟩::rest) e:=by
 refine GF hg (fun w _=>BR hx hy (v := .int k (a % b)) ?_) h;have h3:a.tmod b=a % b:=qfa h0;simp[binOp,Op.intDiv,h3,show ¬b=0 from by omega]
theorem Ay(hx:ev e x=.int .i64 a)(hy:ev e y=.int .i64 b)(h:AA P r ops Q rest (put e dst (.int .i64 (a+b))) w)(hg:AJ ⟨dst,.binOp .add t x y t2,ty,pos,af,g⟩ ops e=true:=by exact U)(h1: -9223372036854775808<=a+b:=by omega)(h2:a+b<=9223372036854775807:=by omega):AA P r ops Q (⟨dst,.binOp .add t x y t2,ty,pos,af,g⟩::rest) e w:=Bt hg rfl (BR hx hy (by simp[binOp,Op.intArith,EJ (k := .i64) (n:=a+b) h1 h2])) h
theorem Fk(hx:ev e x=.int .i64 a)(hy:ev e y=.int .i64 b)(h:Wq P ops C K rest (put e dst (.int .i64 (a+b))))(hg:AJ ⟨dst,.binOp .add t x y t2,ty,pos,af,g⟩ ops e=true:=by exact U)(h1: -9223372036854775808<=a+b:=by omega)(h2:a+b<=9223372036854775807:=by omega):Wq P ops C K (⟨dst,.binOp .add t x y t2,ty,pos,af,g⟩::rest) e:=GF hg (fun w _=>BR hx hy (by simp[binOp,Op.intArith,EJ (k := .i64) (n:=a+b) h1 h2])) h
theorem BD(hx:ev e x=.int .i64 a)(hy:ev e y=.int .i64 b)(h:AA P r ops Q rest (put e dst (.int .i64 (a - b))) w)(hg:AJ ⟨dst,.binOp .sub t x y t2,ty,pos,af,g⟩ ops e=true:=by exact U)(h1: -9223372036854775808<=a - b:=by omega)(h2:a - b<=9223372036854775807:=by omega):AA P r ops Q (⟨dst,.binOp .sub t x y t2,ty,pos,af,g⟩::rest) e w:=Bt hg rfl (BR hx hy (by simp[binOp,Op.intArith,EJ (k := .i64) (n:=a - b) h1 h2])) h
theorem Uh(hg:AJ ⟨dst,.binOp .sub t x y t2,ty,pos,af,g⟩ ops e=true)(hx:ev e x=.int .i64 a)(hy:ev e y=.int .i64 b)(h:Wq P ops C K rest (put e dst (.int .i64 (a - b))))(h1: -9223372036854775808<=a - b:=by omega)(h2:a - b<=9223372036854775807:=by omega):Wq P ops C K (⟨dst,.binOp .sub t x y t2,ty,pos,af,g⟩::rest) e:=GF hg (fun w _=>BR hx hy (by simp[binOp,Op.intArith,EJ (k := .i64) (n:=a - b) h1 h2])) h
theorem Gp(hx:ev e x=.int .i64 a)(hy:ev e y=.int .i64 b)(h:AA P r ops Q rest (put e dst (.int .i64 (a*b))) w)(hg:AJ ⟨dst,.binOp .mul t x y t2,ty,pos,af,g⟩ ops e=true:=by exact U)(h1: -9223372036854775808<=a*b:=by omega)(h2:a*b<=9223372036854775807:=by omega):AA P r ops Q (⟨dst,.binOp .mul t x y t2,ty,pos,af,g⟩::rest) e w:=Bt hg rfl (BR hx hy (by simp[binOp,Op.intArith,EJ (k := .i64) (n:=a*b) h1 h2])) h
theorem EX{s d:TypeId}{ds:TypeDesc}(hx:ev e x=.int k a)(hs:P.underlying s=some ds)(hd:P.underlying d=some (.int .i64))(h:AA P r ops Q rest (put e dst (.int .i64 a)) w)(hg:AJ ⟨dst,.convert s d x,ty,pos,af,g⟩ ops e=true:=by exact U)(h1: -9223372036854775808<=a:=by omega)(h2:a<=9223372036854775807:=by omega):AA P r ops Q (⟨dst,.convert s d x,ty,pos,af,g⟩::rest) e w:=V6 hg hx hs hd h1 h2 h
theorem PJ{s d:TypeId}{ds:TypeDesc}(hg:AJ ⟨dst,.convert s d x,ty,pos,af,g⟩ ops e=true)(hx:ev e x=.int k a)(hs:P.underlying s=some ds)(hd:P.underlying d=some (.int .u32))(h:AA P r ops Q rest (put e dst (.int .u32 a)) w)(h1:0<=a:=by omega)(h2:a<=4294967295:=by omega):AA P r ops Q (⟨dst,.convert s d x,ty,pos,af,g⟩::rest) e w:=V6 hg hx hs hd h1 h2 h
theorem Kh(hg:AJ ⟨dst,.binOp .add t x y t2,ty,pos,af,g⟩ ops e=true)(hx:ev e x=.int .u64 a)(hy:ev e y=.int .u64 b)(h:AA P r ops Q rest (put e dst (.int .u64 (a+b))) w)(h1:0<=a+b:=by omega)(h2:a+b<=18446744073709551615:=by omega):AA P r ops Q (⟨dst,.binOp .add t x y t2,ty,pos,af,g⟩::rest) e w:=Bt hg rfl (BR hx hy (by simp[binOp,Op.intArith,EJ (k := .u64) (n:=a+b) h1 h2])) h
theorem DN{s d:TypeId}{ds:TypeDesc}(hx:ev e x=.int k a)(hs:P.underlying s=some ds)(hd:P.underlying d=some (.int .u64))(h:AA P r ops Q rest (put e dst (.int .u64 a)) w)(hg:AJ ⟨dst,.convert s d x,ty,pos,af,g⟩ ops e=true:=by exact U)(h1:0<=a:=by omega)(h2:a<=18446744073709551615:=by omega):AA P r ops Q (⟨dst,.convert s d x,ty,pos,af,g⟩::rest) e w:=V6 hg hx hs hd h1 h2 h
end
theorem QU{x:Operand}(hg:AJ ⟨dst,.move x,ty,pos,af,g⟩ ops e=true)(v:Value)(hx:ev e x=v)(h:Wq P ops C K rest (put e dst v)) :
  Wq P ops C K (⟨dst,.move x,ty,pos,af,g⟩::rest) e:=GF hg (fun w _=>by simp[execOp,hx]) h
theorem QV{x:Operand}(hg:AJ ⟨dst,.assign x,ty,pos,af,g⟩ ops e=true)(v:Value)(hx:ev e x=v)(h:Wq P ops C K rest (put e dst v)) :
  Wq P ops C K (⟨dst,.assign x,ty,pos,af,g⟩::rest) e:=GF hg (fun w _=>by simp[execOp,hx]) h
theorem Aav{c a b:Operand}(hg:AJ ⟨dst,.pick c a b,ty,pos,af,g⟩ ops e=true)(hc:ev e c=.bool false)(v:Value)(hx:ev e b=v)(h:Wq P ops C K rest (put e dst v)) :
  Wq P ops C K (⟨dst,.pick c a b,ty,pos,af,g⟩::rest) e:=GF hg (fun w _=>by simp[execOp,hc,hx,asBool]) h
theorem q_not{t:TypeId}{x:Operand}{b:Bool}(hg:AJ ⟨dst,.unOp .not t x,ty,pos,af,g⟩ ops e=true)(hx:ev e x=.bool b)(h:Wq P ops C K rest (put e dst (.bool (!b)))) :
  Wq P ops C K (⟨dst,.unOp .not t x,ty,pos,af,g⟩::rest) e:=GF hg (fun w _=>by simp[execOp,hx,Op.unary]) h
theorem El{x:Operand}{p:Addr}(hx:ev e x=.pointer (some p))(h:Wq P ops C K rest (put e dst (.pointer (some p))))(hg:AJ ⟨dst,.nilCheck x,ty,pos,af,g⟩ ops e=true:=by exact U):
  Wq P ops C K (⟨dst,.nilCheck x,ty,pos,af,g⟩::rest) e:=GF hg (fun w _=>by simp[execOp,hx]) h
theorem W7{t el:TypeId}{x y:Operand}{b o n c s:Nat}{k:IntKind}{i:Int}(hg:AJ ⟨dst,.indexAddr t x y,ty,pos,af,g⟩ ops e=true)(hu:C0 P t=some el)(hs:BK P el=some s)(hx:ev e x=.slice (some ⟨b,o,none⟩) n c)(hy:ev e y=.int k i)(h0:0<=i)(h1:i<n)(h:Wq P ops C K rest (put e dst (.pointer (some ⟨b,o+i.toNat*s,none⟩)))) :
  Wq P ops C K (⟨dst,.indexAddr t x y,ty,pos,af,g⟩::rest) e :=
 GF hg (fun w _=>by simp[execOp,hx,hy,Instr.indexAt,asIntOf,AL (Cv hu),h0,h1,Cd hs,Dw]) h
theorem Ej{t el:TypeId}{x y:Operand}{a:Option Addr}{n c s:Nat}{k:IntKind}{i:Int}{α:Type}{enc:α->List Value}{xs:List α}{w1:World}(R:Rd w1 a s enc xs)(hu:C0 P t=some el)(hs:BK P el=some s)(hx:ev e x=.slice a n c)(hy:ev e y=.int k i)(h:Wq P ops C K rest (put e dst (.pointer (some ⟨(adr a).block,(adr a).off+i.toNat*s,none⟩))))(hg:AJ ⟨dst,.indexAddr t x y,ty,pos,af,g⟩ ops e=true:=by exact U)(h0:0<=i:=by omega)(h1:i<n:=by omega)(hn:n=xs.length:=by omega):
  Wq P ops C K (⟨dst,.indexAddr t x y,ty,pos,af,g⟩::rest) e:=by
 obtain⟨b,o,rfl⟩:=R.some' (by rintro rfl;simp at hn;omega);exact W7 hg hu hs hx hy h0 h1 h
theorem Ui{t:TypeId}{x:Operand}{a:Option Addr}{n c:Nat}{el:TypeId}(hg:AJ ⟨dst,.call ⟨.builtin .len,#[x],#[t]⟩,ty,pos,af,g⟩ ops e=true)(hu:C0 P t=some el)(hx:ev e x=.slice a n c)(h:Wq P ops C K rest (put e dst (.int .i64 n))) :
  Wq P ops C K (⟨dst,.call ⟨.builtin .len,#[x],#[t]⟩,ty,pos,af,g⟩::rest) e :=
 GF hg (fun w _=>by simp[execOp,resolve,invoke,builtin,hx,Builtin.len_,AL (Cv hu),goInt]) h
theorem Uj{x:Operand}{i:Nat}{vs:Array Value}{v:Value}(hg:AJ ⟨dst,.extract x i,ty,pos,af,g⟩ ops e=true)(hx:ev e x=.tuple vs)(hv:vs[i]?=some v)(h:Wq P ops C K rest (put e dst v)) :
  Wq P ops C K (⟨dst,.extract x i,ty,pos,af,g⟩::rest) e :=
 GF hg (fun w _=>by simp[execOp,hx,Instr.extract,hv]) h
theorem BP{t:TypeId}{x:Operand}{i b o off:Nat}(hf:BH P t i=some off)(hx:ev e x=.pointer (some ⟨b,o,none⟩))(h:Wq P ops C K rest (put e dst (.pointer (some ⟨b,o+off,none⟩))))(hg:AJ ⟨dst,.fieldAddr t x i,ty,pos,af,g⟩ ops e=true:=by exact U):
  Wq P ops C K (⟨dst,.fieldAddr t x i,ty,pos,af,g⟩::rest) e:=by
 unfold BH at hf
 split at hf
 .rename_i fs hu
  split at hf
  .rename_i f hf1
   split at hf
   .rename_i s hs
    injection hf with hf
    subst hf;exact GF hg (fun w _=>by simp[execOp,hx,Instr.fieldAt,AL hu,hf1,Instr.sureAddr,fieldPlace,Cd hs,Dw]) h
   .cases hf
  .cases hf
 .cases hf
theorem CG{fn:Fn}{cap:Array Operand}(l:List Value)(hl:cap.toList.map (ev e)=l)(h:AA P r ops Q rest (put e dst (.func fn #[] l.toArray)) w)(hg:AJ ⟨dst,.makeFunc fn #[] cap,ty,pos,af,g⟩ ops e=true:=by exact U):
  AA P r ops Q (⟨dst,.makeFunc fn #[] cap,ty,pos,af,g⟩::rest) e w:=by
 refine PI hg ?_
 have:cap.map (ev e)=l.toArray:=by subst hl;apply qcd;simp only[qcz]
 rw[this,Array.map_empty];exact h
theorem BL{t t2 el el2:TypeId}{x y:Operand}{s by':Nat}{zl:List Value}(hu:C0 P t=some el)(hu2:C0 P t2=some el2)(hs:BK P el=some s)(hby:Gc P el=some by')(hz:BW P el=some zl)(hzl:zl.length=s){a:Option Addr}{n c m c2 b2:Nat}{t3:TypeId}{full l new:List Value}(hx:ev e x=.slice a n c)(hy:ev e y=.slice (some ⟨b2,0,none⟩) m c2)(H:Ctx w0 S w ((b2,Bl t3 new)::(L++ent a el full)))(O:OS a n c s full l)(hn:new.length=m*s)(h1:∀v∈new,Bh v=true)(h:∀a' c' full' w',Ctx w0 S w' (L++ent a' el full')->OS a' (n+m) c' s full' (l++new)->AA P r ops Q rest (put e dst (.slice a' (n+m) c')) w')(hg:AJ ⟨dst,.call ⟨.builtin .append,#[x,y],#[t,t2]⟩,ty,pos,af,g⟩ ops e=true:=by exact U)(hpos:0<by':=by decide)(hbound:(2*(n+m)+768)*by'<=281474976710656:=by omega):
  AA P r ops Q (⟨dst,.call ⟨.builtin .append,#[x,y],#[t,t2]⟩,ty,pos,af,g⟩::rest) e w :=
 DQ hg hu hu2 hs hby hz hzl (hpos:=hpos) new hx hy H.tail O hn h1 (fun j v hv=>⟨_,rfl,by rw[Dw,qa2,Aq (H.get at0)];exact hv⟩) (hbound:=hbound) h
end
section
variable {w0 w w':World}{S:List Nat}{L L1 L2 L1':List (Nat × Obj)}
theorem Ctx.back(H:Ctx w0 S w (L1++L2))(H':Ctx w (L1.map (·.1)) w' L1'):Ctx w0 S w' (L1'++L2):=by
 have hd:=qca.1 H.nd
 have hk:∀x∈L1',(∃y∈L1,y.1=x.1)\/w.heap.size<=x.1:=fun x hx=>by
  rcases H'.own x hx with h|h
  .rw[qah]at h;exact .inl h
  .exact .inr h
 have hn2:∀y∈L2,y.1∉L1.map (·.1):=fun y hy hm=>by
  rw[qah]at hm;obtain⟨x,hx,he⟩:=hm;exact hd.2.2 x hx y hy he
 refine⟨H.ext.then H'.ext ?_,?_,?_,?_⟩
 .intro x hx;rw[qah]at hx;obtain⟨y,hy,rfl⟩:=hx;exact H.own y (qa5 _ hy)
 .intro x hx
  rcases qat.1 hx with hx|hx
  .exact H'.blk x hx
  .have hb:=H.blk x (qax _ hx);rw[H'.ext.block x.1 (Al hb) (hn2 x hx)];exact hb
 .rw[qca];refine⟨H'.nd,hd.2.1,fun x hx y hy=>?_⟩;have hly:=Al (H.blk y (qax _ hy))
  rcases hk x hx with⟨z,hz,he⟩|h
  .rw[<-he];exact hd.2.2 z hz y hy
  .omega
 .intro x hx
  rcases qat.1 hx with hx|hx
  .rcases hk x hx with⟨z,hz,he⟩|h
   .rw[<-he];exact H.own z (qa5 _ hz)
   .exact .inr (qaw H.size h)
  .exact H.own x (qax _ hx)
theorem Ctx.app_nil(H:Ctx w0 S w L):Ctx w0 S w (L++[]):=by simpa using H
theorem Ctx.nil_app(H:Ctx w0 S w (L++[])):Ctx w0 S w L:=by simpa using H
end
section
variable {w:World}{α:Type}{a:Option Addr}{s:Nat}{enc:α->List Value}{xs:List α}
theorem Rd.row(R:Rd w a s enc xs){i:Nat}{x:α}(hx:xs[i]?=some x)(hs:(enc x).length=s):∀j v,(enc x)[j]?=some v->w.cell? ⟨(adr a).block,(adr a).off+i*s+j,none⟩=some v :=
 fun j v hv=>R.cell i x hx j v hv (by rw[<-hs];exact(qap.1 hv).1)
theorem Rd.fld(R:Rd w a s enc xs){i j:Nat}{x:α}{v:Value}(hx:xs[i]?=some x)(hs:(enc x).length=s)(hv:(enc x)[j]?=some v):w.cell? ⟨(adr a).block,(adr a).off+i*s+j,none⟩=some v:=R.row hx hs j v hv
theorem Rd.one{f:α->Value}(R:Rd w a 1 (fun x=>[f x]) xs){i:Nat}{x:α}(hx:xs[i]?=some x):w.cell? ⟨(adr a).block,(adr a).off+i*1,none⟩=some (f x):=by
 have:=R.cell i x hx 0 (f x) rfl (by omega)
 simpa using this
theorem Rd.app1{f:α->Value}(R:Rd w a 1 (fun x=>[f x]) xs):∀j v,(xs.map f)[j]?=some v->∃p,a=some p/\w.cell? (p.add j)=some v:=by
 intro j v hv;rw[qas]at hv
 cases hx:xs[j]? with
 |none=>rw[hx]at hv;cases hv
 |some x =>
  rw[hx]at hv
  injection hv with hv
  subst hv;obtain⟨b,o,rfl⟩:=R.some' (by rintro rfl;simp at hx);refine⟨_,rfl,?_⟩;rw[Dw];have:=R.one hx
  simpa[adr]using this
theorem Af4(hs:∀x∈xs,(enc x).length=s)(h0:0<s):∀j,(xs.flatMap enc)[j]? = (xs[j / s]?).bind fun x=>(enc x)[j % s]? := by
 induction xs with
 |nil=>intro j;simp
 |cons x xs ih =>
  intro j;have hx:=hs x (by simp);have ih:=ih (fun y hy=>hs y (by simp[hy]));simp only[qcc]
  by_cases hj:j<s
  .rw[qdj (by omega),Nat.div_eq_of_lt hj,qba hj];rfl
  .rw[qc8 (by omega),hx,ih];have h1:j / s=(j - s) / s+1:=by rw[Nat.div_eq_sub_div h0 (by omega)]
   have h2:j % s=(j - s) % s:=by rw[Nat.mod_eq_sub_mod (by omega)]
   rw[h1,h2];rfl
theorem Rd.app(R:Rd w a s enc xs)(hs:∀x∈xs,(enc x).length=s)(h0:0<s):∀j v,(xs.flatMap enc)[j]?=some v->∃p,a=some p/\w.cell? (p.add j)=some v:=by
 intro j v hv;rw[Af4 hs h0]at hv
 cases hx:xs[j / s]? with
 |none=>rw[hx]at hv;cases hv
 |some x =>
  rw[hx]at hv;have hc:=R.cell _ x hx _ v hv (qbm _ h0);obtain⟨b,o,rfl⟩:=R.some' (by rintro rfl;simp at hx);refine⟨_,rfl,?_⟩;rw[Dw];simp only[adr]at hc;rw[<-hc]
  congr 2
  have:=Nat.div_add_mod j s;rw[qd8]at this;omega
theorem Rd.take(R:Rd w a s enc xs)(n:Nat):Rd w a s enc (xs.take n) :=
 ⟨fun h=>R.some' (by rintro rfl;simp at h),fun i x hx j v hv hj=>R.cell i x (by
  rw[qdt]at hx
  split at hx
  .exact hx
  .cases hx) j v hv hj⟩
theorem Rd.cut(R:Rd w a s enc xs)(n c:Nat)(hc:xs.length<=c):Rd w (EH a c n s) s enc (xs.drop n):=by
 unfold EH
 by_cases hn:c=n
 .subst hn;rw[qb8 hc];exact Rd.nil
 .rw[if_neg hn];refine⟨fun h=>?_,fun i x hx j v hv hj=>?_⟩
  .obtain⟨b,o,rfl⟩:=R.some' (by rintro rfl;simp at h);exact⟨b,o+n*s,by simp[Dw]⟩
  .rw[qcm]at hx;obtain⟨b,o,rfl⟩:=R.some' (by rintro rfl;simp at hx);have:=R.cell (n+i) x hx j v hv hj;simp only[adr,qbd,Dw]at this |-;rw[<-this]
   congr 2
   rw[qco];omega
end
section
variable {P:Program}{r:Option Nat}{ops rest:List Oper}{Q:Exit->Env->World->Prop}{e:Env}{w w0:World}{S:List Nat}{L:List (Nat × Obj)}{dst:Option Tmp}{ty:TypeId}{pos:String}{af:Array Edge}{g:Option (Nat × Bool)}
theorem JH{t el:TypeId}{s:Nat}(hg:AJ ⟨dst,.buildSlice t 0 #[],ty,pos,af,g⟩ ops e=true)(hu:C0 P t=some el)(hs:BK P el=some s)(H:Ctx w0 S w L)(h:∀b w',Ctx w0 S w' (L++ent (some ⟨b,0,none⟩) el [])->OS (some ⟨b,0,none⟩) 0 0 s [] []->AA P r ops Q rest (put e dst (.slice (some ⟨b,0,none⟩) 0 0)) w') :
  AA P r ops Q (⟨dst,.buildSlice t 0 #[],ty,pos,af,g⟩::rest) e w:=by
 refine Bt (w':=w.alloc (Bl el [])) (v := .slice (some ⟨w.heap.size,0,none⟩) 0 0) hg U ?_ (h _ _ (Ctx.comm (L:=[(w.heap.size,Bl el [])]) (H.alloc _)) ⟨(fun p hp=>by injection hp with hp;subst hp;rfl),(fun hp=>by cases hp),by simp,qae _,by simp⟩);have hr0:(Array.range 0)=(#[]:Array Nat):=by apply qcd;simp
 simp[execOp,Instr.buildSlice,AL (Cv hu),Cd hs,hr0,Instr.fill,newRow,newObj,Sem.run];rfl
end
theorem Uk{α:Type}{n i:Nat}{f:Nat->α}(h:i<n):((List.range n).map f)[i]?=some (f i):=by
 rw[qas,qdu h];rfl
section
variable {P:Program}{r:Option Nat}{ops rest:List Oper}{Q:Exit->Env->World->Prop}{e:Env}{w w0:World}{S:List Nat}{L:List (Nat × Obj)}{dst:Option Tmp}{ty:TypeId}{pos:String}{af:Array Edge}{g:Option (Nat × Bool)}{C:World->Prop}{K:Env->Prop}
end
theorem AP{α:Type}{l:List α}{i:Nat}(h:i<l.length:=by omega):∃x,l[i]?=some x:=⟨l[i],qbe h⟩
theorem YX{α:Type}{l:List α}{i:Nat}{x:α}(h:l[i]?=some x):i<l.length:=(qap.1 h).1
theorem Bp{α:Type}{l:List α}{i:Nat}{x:α}(h:l[i]?=some x):l.take (i+1)=l.take i++[x]:=by
 rw[List.take_add_one,h];rfl
structure Fresh(w w':World)(el:TypeId)(s:Nat)(v:Value)(l:List Value):Prop where
 ex:∃a n c full,v=.slice a n c/\OS a n c s full l/\∀x∈ent a el full,w'.heap[x.1]?=some x.2/\w.heap.size<=x.1
 ext:Ext [] w w'
theorem KR{a:Option Addr}{t:TypeId}{full:List Value}:(ent a t full).Pairwise fun x y=>x.1≠y.1:=by
 cases a <;> simp[ent]
theorem Ctx.fresh{w0 w:World}{L:List (Nat × Obj)}{a:Option Addr}{el:TypeId}{full l:List Value}{n c s:Nat}(H:Ctx w0 [] w (L++ent a el full))(O:OS a n c s full l):Fresh w0 w el s (.slice a n c) l :=
 ⟨⟨a,n,c,full,rfl,O,fun x hx=>⟨H.blk x (qax _ hx),by
  rcases H.own x (qax _ hx)with h|h
  .cases h
  .exact h⟩⟩,H.ext⟩
theorem Fresh.nil{w0 w:World}{L:List (Nat × Obj)}(H:Ctx w0 [] w L)(el:TypeId)(s:Nat):Fresh w0 w el s (.slice none 0 0) [] :=
 ⟨⟨none,0,0,[],rfl,OS.nil,by simp[ent]⟩,H.ext⟩
theorem Aaw{α:Type}{f:α->Value}(xs:List α):xs.flatMap (fun x=>[f x])=xs.map f:=by
 induction xs with
 |nil=>rfl
 |cons x xs ih=>simp[ih]
theorem OS.rd1{α:Type}{w:World}{a:Option Addr}{n c:Nat}{t:TypeId}{full:List Value}{f:α->Value}{xs:List α}(h:OS a n c 1 full (xs.map f))(hb:∀x∈ent a t full,w.heap[x.1]?=some x.2) :
  Rd w a 1 (fun x=>[f x]) xs:=OS.rd (by rw[Aaw];exact h) hb (by simp) (by omega)
theorem OS.num{α:Type}{a:Option Addr}{n c:Nat}{full:List Value}{f:α->Value}{xs:List α}(h:OS a n c 1 full (xs.map f)):n=xs.length:=by
 have:=h.llen;simpa using this.symm
theorem OS.numN{α:Type}{a:Option Addr}{n c s:Nat}{full:List Value}{enc:α->List Value}{xs:List α}(h:OS a n c s full (xs.flatMap enc))(hs:∀x∈xs,(enc x).length=s)(h0:0<s):n=xs.length:=by
 have h1:=h.llen
 have h2:∀xs:List α,(∀x∈xs,(enc x).length=s)->(xs.flatMap enc).length=xs.length*s:=by
  intro xs
  induction xs with
  |nil=>simp
  |cons x xs ih =>
   intro hs;simp only[qcc,qan,qav,qco,Nat.one_mul];rw[ih (fun y hy=>hs y (by simp[hy])),hs x (by simp)];omega
 rw[h2 xs hs]at h1;exact(Nat.eq_of_mul_eq_mul_right h0 h1).symm
def EW{α:Type}(m:List (Int × α))(k:Int):Option α:=(m.find? fun p=>p.1 == k).map (·.2)
def JI{α:Type}:List (Int × α)->Int->α->List (Int × α)
 | [],k,v=>[(k,v)]
 |p::m,k,v=>if p.1=k then(k,v)::m else p::JI m k v
def mdel{α:Type}:List (Int × α)->Int->List (Int × α)
 | [],_=>[]
 |p::m,k=>if p.1=k then m else p::mdel m k
theorem QW{α:Type}(k:Int):EW ([]:List (Int × α)) k=none:=rfl
theorem OT{α:Type}(m:List (Int × α))(k:Int)(v:α)(k':Int):EW (JI m k v) k'=if k'=k then some v else EW m k':=by
 induction m with
 |nil =>
  unfold JI EW
  by_cases h:k'=k
  .subst h;simp
  .simp[h,Ne.symm h]
 |cons p m ih =>
  unfold JI
  by_cases hp:p.1=k
  .rw[if_pos hp];unfold EW
   by_cases h:k'=k
   .subst h;simp
   .have h1:(k == k')=false:=by simpa using Ne.symm h
    have h2:(p.1 == k')=false:=by rw[hp];exact h1
    simp[h1,h2,h]
  .rw[if_neg hp];unfold EW at ih |-
   by_cases h:p.1=k'
   .have h2:¬k'=k:=fun e=>hp (h.trans e);simp[h,h2]
   .have h1:(p.1 == k')=false:=by simpa using h
    simp only[qda,h1];exact ih
theorem Ac3{α:Type}(m:List (Int × α))(k:Int)(v:α):∀x,x∈(JI m k v).map (·.1)↔x=k\/x∈m.map (·.1):=by
 induction m with
 |nil=>intro x;simp[JI]
 |cons p m ih =>
  intro x;unfold JI
  by_cases hp:p.1=k
  .rw[if_pos hp];simp[hp]
  .rw[if_neg hp];simp only[qaz,qac,ih];constructor
   .rintro(h|h|h)
    .exact .inr (.inl h)
    .exact .inl h
    .exact .inr (.inr h)
   .rintro(h|h|h)
    .exact .inr (.inl h)
    .exact .inl h
    .exact .inr (.inr h)
def Ki(kk:IntKind)(m:List (Int × Value))(o:Obj):Prop :=
 ∃es clock,o=.map es clock/\es.toList.map (fun e=>(e.key,e.val))=m.map (fun p=>(Value.int kk p.1,p.2))/\(∀e∈es.toList,e.born<clock)/\(es.toList.map (·.born)).Nodup
theorem Kj(kk:IntKind)(n:Int):∀(es:List MapEntry) (m:List (Int × Value)) (i:Nat),es.map (fun e=>(e.key,e.val))=m.map (fun p=>(Value.int kk p.1,p.2)) ->
  (EW m n=none->Instr.findNow (.int kk) (.int kk n) es i=some none) /\
  (∀v,EW m n=some v->∃j,Instr.findNow (.int kk) (.int kk n) es i=some (some (i+j,v))/\j<es.length/\∀(v':Value),(es.modify j fun e=>{ e with key := .int kk n,val:=v' }).map (fun e=>(e.key,e.val))=(JI m n v').map (fun p=>(Value.int kk p.1,p.2))/\((es[j]?).map (·.key))=some (.int kk n) /\
   (es.eraseIdx j).map (fun e=>(e.key,e.val))=(mdel m n).map (fun p=>(Value.int kk p.1,p.2)))
 | [],m,i,h=>by
  cases m with
  |nil=>exact⟨fun _=>rfl,fun v hv=>by cases hv⟩
  |cons p m=>cases h
 |e::es,m,i,h=>by
  cases m with
  |nil=>cases h
  |cons p m =>
   simp only[qaz,qdl,qdb]at h;obtain⟨⟨hk,hv⟩,ht⟩:=h;have ih:=Kj kk n es m (i+1) ht;have hs:Instr.sameNow (.int kk) (.int kk n) e.key=some (n == p.1):=by rw[hk];simp[Instr.sameNow]
   by_cases hn:p.1=n
   .have hb:(n == p.1)=true:=by simp[hn]
    have hg:EW (p::m) n=some p.2:=by simp[EW,hn]
    refine⟨(fun h=>by rw[hg]at h;cases h),fun v hv'=>?_⟩;rw[hg]at hv'
    injection hv' with hv'
    subst hv';refine⟨0,by simp[Instr.findNow,hs,hb,hv],by simp,fun v'=>⟨?_,by simp[hk,hn],?_⟩⟩
    .simp[JI,hn,ht,List.modify]
    .simp[mdel,hn,ht]
   .have hb:(n == p.1)=false:=by simpa using Ne.symm hn
    have hb2:(p.1 == n)=false:=by simpa using hn
    have hg:EW (p::m) n=EW m n:=by simp[EW,hb2]
    rw[hg];refine⟨fun h=>by simp[Instr.findNow,hs,hb,ih.1 h],fun v hv'=>?_⟩;obtain⟨j,h1,h2,h3⟩:=ih.2 v hv';refine⟨j+1,by simp[Instr.findNow,hs,hb,h1];omega,by simp;omega,fun v'=>?_⟩;obtain⟨a1,a2,a3⟩:=h3 v';refine⟨?_,by simpa using a2,?_⟩
    .simp only[qfb,qaz,JI,if_neg hn,a1,hk,hv]
    .simp only[List.eraseIdx_cons_succ,qaz,mdel,if_neg hn,a3,hk,hv]
def IL(P:Program)(t:TypeId):Option (TypeId × TypeId):=match P.underlying t with|some (.map k e)=>some (k,e)|_=>none
theorem Ft{P:Program}{t k e:TypeId}(h:IL P t=some (k,e)):P.underlying t=some (.map k e):=by
 unfold IL at h
 split at h
 .rename_i hu;injection h with h;cases h;exact hu
 .cases h
section
variable {P:Program}{r:Option Nat}{ops rest:List Oper}{Q:Exit->Env->World->Prop}{e:Env}{w w0:World}{S:List Nat}{L:List (Nat × Obj)}{dst:Option Tmp}{ty:TypeId}{pos:String}{af:Array Edge}{g:Option (Nat × Bool)}
theorem FR{b:Bool}{k:TypeId}{kk:IntKind}(hk:P.underlying k=some (.int kk))(v:Value)(w:World)(d:Nat):(Instr.checkKey b (d+1) k v).run P w=.ok () w:=by
 simp[Instr.checkKey,AL hk]
theorem QX{t:TypeId}(kk:IntKind)(hg:AJ ⟨dst,.makeMap t none,ty,pos,af,g⟩ ops e=true)(H:Ctx w0 S w L)(h:∀b o w',Ki kk [] o->Ctx w0 S w' ((b,o)::L)->AA P r ops Q rest (put e dst (.map (some b))) w') :
  AA P r ops Q (⟨dst,.makeMap t none,ty,pos,af,g⟩::rest) e w:=by
 refine Bt (w':=w.alloc (.map #[] 0)) (v := .map (some w.heap.size)) hg U ?_ (h _ _ _ ⟨#[],0,rfl,rfl,by simp,by simp⟩ (H.alloc _));simp[execOp,Instr.makeMap,newObj,Sem.run]
theorem Ac4{t k el:TypeId}{kk:IntKind}{x y:Operand}{b j:Nat}{o:Obj}{m:List (Int × Value)}{n:Int}{z:Value}(hg:AJ ⟨dst,.lookup t x y false,ty,pos,af,g⟩ ops e=true)(ht:IL P t=some (k,el))(hk:P.underlying k=some (.int kk))(hz:(P.info? el).bind (·.zero)=some z)(hx:ev e x=.map (some b))(hy:ev e y=.int kk n)(H:Ctx w0 S w L)(hl:L[j]?=some (b,o))(hM:Ki kk m o)(h:AA P r ops Q rest (put e dst ((EW m n).getD z)) w):AA P r ops Q (⟨dst,.lookup t x y false,ty,pos,af,g⟩::rest) e w:=by
 obtain⟨es,clock,rfl,hes,_⟩:=hM;have hb:=H.get hl;have hf:=Kj kk n es.toList m 0 hes;have hgo:(getObj b).run P w=.ok (.map es clock) w:=by simp[getObj,Sem.run,hb]
 have hzr:(zeroValue el).run P w=.ok z w:=by
  cases hi:P.info? el with
  |none=>rw[hi]at hz;cases hz
  |some i=>rw[hi]at hz;simp at hz;simp[zeroValue,typeInfo,program,Sem.run,hi,hz]
 refine Bt hg U ?_ h
 cases hm:EW m n with
 |none=>simp[execOp,Instr.lookup,AL (Ft ht),hx,hy,hgo,FR hk,Instr.findKey,AL hk,hf.1 hm,hzr]
 |some v =>
  obtain⟨i,hi,_⟩:=hf.2 v hm;simp[execOp,Instr.lookup,AL (Ft ht),hx,hy,hgo,FR hk,Instr.findKey,AL hk,hi]
theorem MG{t k el:TypeId}{kk:IntKind}{b j:Nat}{o:Obj}{m:List (Int × Value)}{n:Int}(v:Value)(ht:IL P t=some (k,el))(hk:P.underlying k=some (.int kk))(H:Ctx w0 S w L)(hl:L[j]?=some (b,o))(hM:Ki kk m o) :
  ∃o' w',(Instr.mapUpdate t (.map (some b)) (.int kk n) v).run P w=.ok () w'/\Ki kk (JI m n v) o'/\Ctx w0 S w' (L.set j (b,o')):=by
 obtain⟨es,clock,rfl,hes,hbn,hnd⟩:=hM;have hb:=H.get hl;have hf:=Kj kk n es.toList m 0 hes;have hgo:(getObj b).run P w=.ok (.map es clock) w:=by simp[getObj,Sem.run,hb]
 have hso:∀o',(setObj b o').run P w=.ok () (w.putObj b o'):=fun o'=>by simp[setObj,Sem.run,hb,World.putObj]
 cases hm:EW m n with
 |none =>
  refine⟨.map (es.push { key := .int kk n,val:=v,born:=clock }) (clock+1),w.putObj b _,?_,⟨_,_,rfl,?_,?_,?_⟩,H.setB hl _⟩
  .simp[Instr.mapUpdate,AL (Ft ht),hgo,FR hk,Instr.findKey,AL hk,hf.1 hm,hso]
  .have hms:JI m n v=m++[(n,v)]:=by
    clear hes hf
    induction m with
    |nil=>rfl
    |cons p m ih =>
     have hp:¬p.1=n:=by
      intro hp;simp[EW,hp]at hm
     have hb2:(p.1 == n)=false:=by simpa using hp
     have hm2:EW m n=none:=by rw[<-hm];simp[EW,hb2]
     simp[JI,hp,ih hm2]
   rw[hms];simp[hes]
  .intro x hx;simp only[qev,qat,qaa]at hx
   rcases hx with hx|rfl
   .have:=hbn x hx;omega
   .simp
  .simp only[qev,qay,qaz,qbo];rw[qdm];refine⟨hnd,by simp,?_⟩;intro x hx y hy;simp only[qaa]at hy;subst hy;rw[qah]at hx;obtain⟨e',he',rfl⟩:=hx;have:=hbn e' he';omega
 |some v0 =>
  obtain⟨i,hi,hil,h3⟩:=hf.2 v0 hm;obtain⟨a1,a2,_⟩:=h3 v;have hkts:(Instr.keyThatStays (.int kk n) (.int kk n)).run P w=.ok (.int kk n) w:=by simp[Instr.keyThatStays,Instr.sameBits]
  have hold:((es[i]?).map (·.key)).getD (.int kk n)=.int kk n:=by
   have:es[i]?=es.toList[i]? := by rw[qdi]
   rw[this,a2];rfl
  refine⟨.map (es.modify i fun e=>{ e with key := .int kk n,val:=v }) clock,w.putObj b _,?_,⟨_,_,rfl,?_,?_,?_⟩,H.setB hl _⟩
  .simp[Instr.mapUpdate,AL (Ft ht),hgo,FR hk,Instr.findKey,AL hk,hi,hold,hkts,hso]
  .rw[qdv];exact a1
  .intro x hx;rw[qdv,qcg]at hx;obtain⟨q,hq⟩:=hx;rw[qcq]at hq
   cases hq2:es.toList[q]? with
   |none=>rw[hq2]at hq;simp at hq
   |some y =>
    rw[hq2]at hq;have hy:=hbn y (qad hq2)
    injection hq with hq
    subst hq;dsimp only
    split <;> exact hy
  .rw[qdv]
   have:(es.toList.modify i fun e=>{ e with key := .int kk n,val:=v }).map (·.born)=es.toList.map (·.born):=by
    apply qci;intro q;rw[qas,qas,qcq]
    cases es.toList[q]? with
    |none=>rfl
    |some y=>show some (Value.map none,(if i=q then _ else y).born).2=some y.born;split <;> rfl
   rw[this];exact hnd
theorem V9{t k el:TypeId}{kk:IntKind}{x y z:Operand}{b j:Nat}{o:Obj}{m:List (Int × Value)}{n:Int}(v:Value)(hg:AJ ⟨dst,.mapUpdate t x y z,ty,pos,af,g⟩ ops e=true)(ht:IL P t=some (k,el))(hk:P.underlying k=some (.int kk))(hx:ev e x=.map (some b))(hy:ev e y=.int kk n)(hv:ev e z=v)(H:Ctx w0 S w L)(hl:L[j]?=some (b,o))(hM:Ki kk m o)(h:∀o' w',Ki kk (JI m n v) o'->Ctx w0 S w' (L.set j (b,o'))->AA P r ops Q rest (put e dst undef) w'):AA P r ops Q (⟨dst,.mapUpdate t x y z,ty,pos,af,g⟩::rest) e w:=by
 obtain⟨o',w',hr,hM',H'⟩:=MG (n:=n) v ht hk H hl hM;exact N5 hg U (by simp[execOp,hx,hy,hv,hr]) (h o' w' hM' H')
end
section
variable {P:Program}{r:Option Nat}{n:Nat}{Q:Exit->Env->World->Prop}{e:Env}{w:World}
theorem Dx{x y:Code}(d:Tmp){b:Bool}(hd:e.g d=.bool b)(h1:b=true->W P r n x Q (put e (some d) (.bool true)) w)(h2:b=false->W P r n y Q (put e (some d) (.bool false)) w) :
  W P r n (.cond (.tmp d) x y) Q e w:=by
 refine Av b hd (fun h=>?_) (fun h=>?_)
 .have h3:=h1 h;rw[Iu (by rw[hd,h])]at h3;exact h3
 .have h3:=h2 h;rw[Iu (by rw[hd,h])]at h3;exact h3
end
def Ez(P:Program)(t:TypeId):Option (List (Nat × Nat)) :=
 match P.underlying t with
 |some (.struct fs)=>fs.toList.mapM (fun f=>(P.info? f.type).map fun i=>(f.offset,i.size))
 |_=>none
section
variable {P:Program}{r:Option Nat}{ops rest:List Oper}{Q:Exit->Env->World->Prop}{e:Env}{w w0:World}{S:List Nat}{L:List (Nat × Obj)}{dst:Option Tmp}{ty:TypeId}{pos:String}{af:Array Edge}{g:Option (Nat × Bool)}
theorem W8{t:TypeId}{pl:List (Nat × Nat)}{zl:List Value}{ps:List (Nat × Value)}{l:Array Value}(hp:Ez P t=some pl)(hz:BW P t=some zl)(hl:Instr.fill (fun i=>pl.toArray[i]?) zl.toArray ps=some l):P.built t ps=some l:=by
 unfold Ez at hp;unfold BW at hz;unfold Program.built
 cases hu:P.underlying t with
 |none=>rw[hu]at hp;cases hp
 |some d =>
  rw[hu]at hp
  cases hi:P.info? t with
  |none=>rw[hi]at hz;cases hz
  |some it =>
   rw[hi]at hz
   cases hzz:it.zero with
   |none=>simp[hzz]at hz
   |some z =>
    simp only[qd4,hzz,qbd,qbb]at hz;subst hz
    cases d <;> first|(cases hp;done)|skip
    rename_i fields
    have hp':fields.toList.mapM (fun f=>(P.info? f.type).map fun i=>(f.offset,i.size))=some pl:=hp;simp only[hzz,hp']
    simpa using hl
theorem B5{t:TypeId}{parts:Array (Nat × Operand)}{pl:List (Nat × Nat)}{zl:List Value}(l:List Value)(hp:Ez P t=some pl)(hz:BW P t=some zl)(h:AA P r ops Q rest (put e dst (.agg l.toArray)) w)(hg:AJ ⟨dst,.build t parts,ty,pos,af,g⟩ ops e=true:=by exact U)(hl:Instr.fill (fun i=>pl.toArray[i]?) zl.toArray (parts.toList.map fun p=>(p.1,ev e p.2))=some l.toArray:=by kernel_rfl):
  AA P r ops Q (⟨dst,.build t parts,ty,pos,af,g⟩::rest) e w:=by
 refine Bt hg U ?_ h;have hb:P.built t (parts.map fun(i,x)=>(i,ev e x)).toList=some l.toArray:=W8 hp hz (by rw[qcz];exact hl);simp[execOp,run_build w t _ _ hb]
theorem Cc{t el:TypeId}{n:Nat}{parts:Array (Nat × Operand)}{s:Nat}{zl:List Value}(l:List Value)(hu:C0 P t=some el)(hs:BK P el=some s)(hz:BW P el=some zl)(H:Ctx w0 S w L)(h:∀b w',w.heap.size=b->Ctx w0 S w' ((b,Bl el l)::L)->AA P r ops Q rest (put e dst (.slice (some ⟨b,0,none⟩) n n)) w')(hg:AJ ⟨dst,.buildSlice t n parts,ty,pos,af,g⟩ ops e=true:=by exact U)(hn:¬n*s=0:=by decide)(hbig:¬16777216<n*s:=by decide)(hl:Instr.fill (fun i=>some (i*s,s)) ((Array.range (n*s)).map fun k=>zl.toArray[k % zl.toArray.size]!) (parts.toList.map fun p=>(p.1,ev e p.2))=some l.toArray:=by kernel_rfl):
  AA P r ops Q (⟨dst,.buildSlice t n parts,ty,pos,af,g⟩::rest) e w:=by
 obtain⟨z,hz1,hz2⟩:=KO hz w;have hzc:z.cells=zl.toArray:=by apply qcd;rw[hz2]
 refine Bt (w':=w.alloc (Bl el l)) (v := .slice (some ⟨w.heap.size,0,none⟩) n n) hg U ?_ (h _ _ U (H.alloc _));have hf:Instr.fill (fun i=>some (i*s,s)) ((Array.range (n*s)).map fun k=>zl.toArray[k % zl.toArray.size]!) (parts.map fun(i,x)=>(i,ev e x)).toList=some l.toArray:=by rw[qcz];exact hl
 simp only[execOp,Instr.buildSlice,Sem.run_bind,AL (Cv hu),Cd hs,Result.andThen_ok,if_neg hbig,if_neg hn,hz1,Sem.run_pure,hzc];rw[hf];simp[newRow,newObj,Sem.run];rfl
theorem Ak0{fn:Func}{R:Value->World->Prop}{a:Tmp}{t:TypeId}{p:Addr}{v:Value}(hr:fn.results=#[.cell a t])(hd:e.ds=[])(ha:e.g a=.pointer (some p))(hv:(loadVar t p).run P w=.ok v w)(h:R v w):OM P fn R .ret e w :=
 ⟨hd,fun tmps ht=>by
  have h1:=(ht a).trans ha;rw[qbt]at h1
  exact⟨v,by simp[results,hr,h1,asAddr,hv],h⟩⟩
theorem N6{fn:Func}{R:Value->World->Prop}{a:Tmp}{t t2:TypeId}{b k s:Nat}{l:List Value}(hr:fn.results=#[.cell a t])(hd:e.ds=[])(ha:e.g a=.pointer (some ⟨b,0,none⟩))(hag:DT P t=some true)(hs:BK P t=some s)(H:Ctx w0 S w L)(hk:L[k]?=some (b,Bl t2 l))(hl:l.length=s)(h:R (.agg l.toArray) w):OM P fn R .ret e w :=
 Ak0 hr hd ha (JG hag hs hl (fun j v hv=>by rw[Aq (H.get hk),qa2];exact hv)) h
end
theorem JJ{k:IntKind}(hk:k.signed=false)(a:Nat):k.wrap (a:Int)=((a % 2 ^ k.bits:Nat):Int):=by
 unfold IntKind.wrap;rw[hk];simp
theorem OU(n a:Nat):BitVec.ofInt n (a:Int)=BitVec.ofNat n a:=by
 apply BitVec.eq_of_toNat_eq;rw[BitVec.toNat_ofInt,BitVec.toNat_ofNat]
 norm_cast
theorem Af5{k:IntKind}(hk:k.signed=false){a b:Nat}(ha:a<2 ^ k.bits)(hb:b<2 ^ k.bits):Op.intBits .and k a b=pure (.int k ((a &&& b:Nat):Int)):=by
 have hx:a &&& b<2 ^ k.bits:=Nat.lt_of_le_of_lt Nat.and_le_left ha;simp only[Op.intBits,OU];rw[JJ hk,BitVec.toNat_and,BitVec.toNat_ofNat,BitVec.toNat_ofNat,qba ha,qba hb,qba hx]
theorem Aax{k:IntKind}(hk:k.signed=false){a b:Nat}(ha:a<2 ^ k.bits)(hb:b<2 ^ k.bits):Op.intBits .or k a b=pure (.int k ((a ||| b:Nat):Int)):=by
 have hx:a ||| b<2 ^ k.bits:=Nat.or_lt_two_pow ha hb
 simp only[Op.intBits,OU];rw[JJ hk,BitVec.toNat_or,BitVec.toNat_ofNat,BitVec.toNat_ofNat,qba ha,qba hb,qba hx]
theorem QY{k:IntKind}(hk:k.signed=false){a b:Nat}(ha:a<2 ^ k.bits)(hb:b<2 ^ k.bits):Op.intBits .xor k a b=pure (.int k ((a ^^^ b:Nat):Int)):=by
 have hx:a ^^^ b<2 ^ k.bits:=Nat.xor_lt_two_pow ha hb;simp only[Op.intBits,OU];rw[JJ hk,BitVec.toNat_xor,BitVec.toNat_ofNat,BitVec.toNat_ofNat,qba ha,qba hb,qba hx]
theorem Aay{k k2:IntKind}{a n:Nat}(hn:n<=k.bits):Op.shift .shr k (a:Int) k2 (n:Int)=pure (.int k ((a / 2 ^ n:Nat):Int)):=by
 unfold Op.shift;rw[if_neg (by omega)];have hm:min ((n:Int)).toNat k.bits=n:=by rw[qbp];exact Nat.min_eq_left hn
 simp only[hm]
 congr 2
 have:((2:Int) ^ n)=((2 ^ n:Nat):Int):=by norm_cast
 rw[this,Int.fdiv_eq_ediv_of_nonneg _ (Int.natCast_nonneg _)]
 norm_cast
theorem Aaz{k k2:IntKind}(hk:k.signed=false){a n:Nat}(hn:n<=k.bits):Op.shift .shl k (a:Int) k2 (n:Int)=pure (.int k ((a*2 ^ n % 2 ^ k.bits:Nat):Int)):=by
 unfold Op.shift;rw[if_neg (by omega)];have hm:min ((n:Int)).toNat k.bits=n:=by rw[qbp];exact Nat.min_eq_left hn
 simp only[hm]
 congr 2
 have:(a:Int)*(2:Int) ^ n=((a*2 ^ n:Nat):Int):=by norm_cast
 rw[this,JJ hk]
theorem Af6{P:Program}{k:IntKind}(hk:k.signed=false)(t:TypeId)(a b:Nat)(w:World):(binOp .mul t (.int k (a:Int)) (.int k (b:Int))).run P w=.ok (.int k (((a*b) % 2 ^ k.bits:Nat):Int)) w:=by
 have h1:(a:Int)*(b:Int)=((a*b:Nat):Int):=by norm_cast
 simp only[binOp,ne_eq,not_true_eq_false,if_false,Op.intArith,h1,JJ hk];rfl
section
variable {P:Program}{r:Option Nat}{ops rest:List Oper}{Q:Exit->Env->World->Prop}{e:Env}{w w0:World}{S:List Nat}{L:List (Nat × Obj)}{dst:Option Tmp}{ty:TypeId}{pos:String}{af:Array Edge}{g:Option (Nat × Bool)}{C:World->Prop}{K:Env->Prop}{t t2:TypeId}{x y:Operand}{a b n:Nat}{s d:TypeId}
theorem Af7{k:IntKind}(hk:k.signed=false)(hx:ev e x=.int k a)(ha:a<2 ^ k.bits) :
  (execOp (ev e) ⟨dst,.unOp .xor t x,ty,pos,af,g⟩).run P w=.ok (.value (.int k (((2 ^ k.bits - 1) ^^^ a:Nat):Int))) w:=by
 have hp:=Nat.two_pow_pos k.bits;have h1:=QY hk (a:=2 ^ k.bits - 1) (b:=a) (by omega) ha
 have h2:(if k.signed then(-1:Int)else k.max)=((2 ^ k.bits - 1:Nat):Int):=by
  rw[hk];simp only[qdn,if_false,IntKind.max,hk];rw[Int.natCast_sub hp]
  norm_cast
 simp[execOp,hx,Op.unary,h2,h1]
theorem Ac5{k k1:IntKind}{ds:TypeDesc}(hk:k.signed=false)(hx:ev e x=.int k1 a)(hs:P.underlying s=some ds)(hd:P.underlying d=some (.int k)) :
  (execOp (ev e) ⟨dst,.convert s d x,ty,pos,af,g⟩).run P w=.ok (.value (.int k ((a % 2 ^ k.bits:Nat):Int))) w:=by
 simp[execOp,hx,convert,AL hs,AL hd,Conv.intToInt,JJ hk]
theorem PM(hg:AJ ⟨dst,.convert s d x,ty,pos,af,g⟩ ops e=true){k1:IntKind}{ds:TypeDesc}(hx:ev e x=.int k1 a)(hs:P.underlying s=some ds)(hd:P.underlying d=some (.int .u8))(h:AA P r ops Q rest (put e dst (.int .u8 ((a % 256:Nat):Int))) w):AA P r ops Q (⟨dst,.convert s d x,ty,pos,af,g⟩::rest) e w :=
 Bt hg rfl (Ac5 (k := .u8) rfl hx hs hd) h
theorem YY(hg:AJ ⟨dst,.binOp .and t x y t2,ty,pos,af,g⟩ ops e=true)(hx:ev e x=.int .u32 a)(hy:ev e y=.int .u32 b)(h:AA P r ops Q rest (put e dst (.int .u32 ((a &&& b:Nat):Int))) w)(ha:a<4294967296:=by omega)(hb:b<4294967296:=by omega):AA P r ops Q (⟨dst,.binOp .and t x y t2,ty,pos,af,g⟩::rest) e w :=
 Bt hg rfl (BR hx hy (by show(Op.intBits .and .u32 (a:Int) (b:Int)).run P w=_;rw[Af5 rfl (by exact ha) (by exact hb)];rfl)) h
theorem Ac6(hg:AJ ⟨dst,.binOp .or t x y t2,ty,pos,af,g⟩ ops e=true)(hx:ev e x=.int .u32 a)(hy:ev e y=.int .u32 b)(h:AA P r ops Q rest (put e dst (.int .u32 ((a ||| b:Nat):Int))) w)(ha:a<4294967296:=by omega)(hb:b<4294967296:=by omega):AA P r ops Q (⟨dst,.binOp .or t x y t2,ty,pos,af,g⟩::rest) e w :=
 Bt hg rfl (BR hx hy (by show(Op.intBits .or .u32 (a:Int) (b:Int)).run P w=_;rw[Aax rfl (by exact ha) (by exact hb)];rfl)) h
theorem QZ(hg:AJ ⟨dst,.binOp .xor t x y t2,ty,pos,af,g⟩ ops e=true)(hx:ev e x=.int .u32 a)(hy:ev e y=.int .u32 b)(h:AA P r ops Q rest (put e dst (.int .u32 ((a ^^^ b:Nat):Int))) w)(ha:a<4294967296:=by omega)(hb:b<4294967296:=by omega):AA P r ops Q (⟨dst,.binOp .xor t x y t2,ty,pos,af,g⟩::rest) e w :=
 Bt hg rfl (BR hx hy (by show(Op.intBits .xor .u32 (a:Int) (b:Int)).run P w=_;rw[QY rfl (by exact ha) (by exact hb)];rfl)) h
theorem Ra(hg:AJ ⟨dst,.binOp .shr t x y t2,ty,pos,af,g⟩ ops e=true){k2:IntKind}(hx:ev e x=.int .u32 a)(hy:ev e y=.int k2 n)(h:AA P r ops Q rest (put e dst (.int .u32 ((a / 2 ^ n:Nat):Int))) w)(hn:n<=32:=by omega):AA P r ops Q (⟨dst,.binOp .shr t x y t2,ty,pos,af,g⟩::rest) e w :=
 Bt hg rfl (BR hx hy (by show(Op.shift .shr .u32 (a:Int) k2 (n:Int)).run P w=_;rw[Aay (by exact hn)];rfl)) h
theorem YZ(hg:AJ ⟨dst,.binOp .shl t x y t2,ty,pos,af,g⟩ ops e=true){k2:IntKind}(hx:ev e x=.int .u32 a)(hy:ev e y=.int k2 n)(h:AA P r ops Q rest (put e dst (.int .u32 ((a*2 ^ n % 4294967296:Nat):Int))) w)(hn:n<=32:=by omega):AA P r ops Q (⟨dst,.binOp .shl t x y t2,ty,pos,af,g⟩::rest) e w :=
 Bt hg rfl (BR hx hy (by show(Op.shift .shl .u32 (a:Int) k2 (n:Int)).run P w=_;rw[Aaz rfl (by exact hn)];rfl)) h
theorem W9(hg:AJ ⟨dst,.binOp .mul t x y t2,ty,pos,af,g⟩ ops e=true)(hx:ev e x=.int .u32 a)(hy:ev e y=.int .u32 b)(h:AA P r ops Q rest (put e dst (.int .u32 (((a*b) % 4294967296:Nat):Int))) w):AA P r ops Q (⟨dst,.binOp .mul t x y t2,ty,pos,af,g⟩::rest) e w :=
 Bt hg rfl (BR hx hy (Af6 (k := .u32) rfl t a b _)) h
theorem Re(hg:AJ ⟨dst,.unOp .xor t x,ty,pos,af,g⟩ ops e=true)(hx:ev e x=.int .u32 a)(h:AA P r ops Q rest (put e dst (.int .u32 ((4294967295 ^^^ a:Nat):Int))) w)(ha:a<4294967296:=by omega):AA P r ops Q (⟨dst,.unOp .xor t x,ty,pos,af,g⟩::rest) e w :=
 Bt hg rfl (Af7 (k := .u32) rfl hx (by exact ha)) h
theorem Ac7(hg:AJ ⟨dst,.binOp .or t x y t2,ty,pos,af,g⟩ ops e=true)(hx:ev e x=.int .u64 a)(hy:ev e y=.int .u64 b)(ha:a<18446744073709551616)(h:AA P r ops Q rest (put e dst (.int .u64 ((a ||| b:Nat):Int))) w)(hb:b<18446744073709551616:=by omega):AA P r ops Q (⟨dst,.binOp .or t x y t2,ty,pos,af,g⟩::rest) e w :=
 Bt hg rfl (BR hx hy (by show(Op.intBits .or .u64 (a:Int) (b:Int)).run P w=_;rw[Aax rfl (by exact ha) (by exact hb)];rfl)) h
theorem Rh(hg:AJ ⟨dst,.binOp .shr t x y t2,ty,pos,af,g⟩ ops e=true){k2:IntKind}(hx:ev e x=.int .u64 a)(hy:ev e y=.int k2 n)(h:AA P r ops Q rest (put e dst (.int .u64 ((a / 2 ^ n:Nat):Int))) w)(hn:n<=64:=by omega):AA P r ops Q (⟨dst,.binOp .shr t x y t2,ty,pos,af,g⟩::rest) e w :=
 Bt hg rfl (BR hx hy (by show(Op.shift .shr .u64 (a:Int) k2 (n:Int)).run P w=_;rw[Aay (by exact hn)];rfl)) h
theorem Za(hg:AJ ⟨dst,.binOp .shl t x y t2,ty,pos,af,g⟩ ops e=true){k2:IntKind}(hx:ev e x=.int .u64 a)(hy:ev e y=.int k2 n)(h:AA P r ops Q rest (put e dst (.int .u64 ((a*2 ^ n % 18446744073709551616:Nat):Int))) w)(hn:n<=64:=by omega):AA P r ops Q (⟨dst,.binOp .shl t x y t2,ty,pos,af,g⟩::rest) e w :=
 Bt hg rfl (BR hx hy (by show(Op.shift .shl .u64 (a:Int) k2 (n:Int)).run P w=_;rw[Aaz rfl (by exact hn)];rfl)) h
end
section
variable {P:Program}{r:Option Nat}{ops rest:List Oper}{Q:Exit->Env->World->Prop}{e:Env}{w w0:World}{S:List Nat}{L:List (Nat × Obj)}{dst:Option Tmp}{ty:TypeId}{pos:String}{af:Array Edge}{g:Option (Nat × Bool)}{C:World->Prop}{K:Env->Prop}
theorem EA{o:Oper}{v:Value}(hg:AJ o ops e=true)(hrun:∀w,lax o=true\/C w->(execOp (ev e) o).run P w=.ok (.value v) w)(h:Wt P ops C K rest (put e o.dst v)):Wt P ops C K (o::rest) e:=by
 unfold Wt;rw[if_pos hg];exact⟨v,hrun,h⟩
theorem Zb{o:Oper}{v:Value}(hl:lax o=false)(hg:AJ o ops e=true)(hrun:∀w,C w->(execOp (ev e) o).run P w=.ok (.value v) w)(h:Wt P ops C K rest (put e o.dst v)):Wt P ops C K (o::rest) e :=
 EA hg (fun w hw=>hrun w (hw.resolve_left (by rw[hl];simp))) h
theorem Cp{o:Oper}(hg:AJ o ops e=false)(h:Wt P ops C K rest (put e o.dst undef)):Wt P ops C K (o::rest) e:=by
 unfold Wt;rw[if_neg (by rw[hg];simp)];exact h
theorem AV(h:K e):Wt P ops C K [] e:=h
theorem WA{l:List Oper}(d:Tmp){b:Bool}(c:Bool)(hd:e.g d=.bool b)(hb:b=c)(h:Wt P ops C K l (put e (some d) (.bool c))):Wt P ops C K l e:=by
 subst hb;rw[Iu hd]at h;exact h
theorem KS{l:List Oper}(d:Tmp){b:Bool}(hd:e.g d=.bool b)(h1:b=true->Wt P ops C K l (put e (some d) (.bool true)))(h2:b=false->Wt P ops C K l (put e (some d) (.bool false))):Wt P ops C K l e:=by
 cases b with
 |true=>exact WA d true hd rfl (h1 rfl)
 |false=>exact WA d false hd rfl (h2 rfl)
section
variable {t t2:TypeId}{x y:Operand}{k:IntKind}{a b:Int}
theorem BC{t:TypeId}{x:Operand}{p:Addr}{v:Value}(ha:DT P t=some false)(hx:ev e x=.pointer (some p))(hc:∀w,C w->w.cell? p=some v)(h:Wt P ops C K rest (put e dst v))(hg:AJ ⟨dst,.load t x,ty,pos,af,g⟩ ops e=true:=by exact U):Wt P ops C K (⟨dst,.load t x,ty,pos,af,g⟩::rest) e :=
 Zb rfl hg (fun w hw=>by simp[execOp,hx,Instr.loadAt,Instr.sureAddr,Hp ha (hc w hw)]) h
theorem Ul{t t2:TypeId}{x:Operand}{b i k:Nat}{l:List Value}{v:Value}(hg:AJ ⟨dst,.load t x,ty,pos,af,g⟩ ops e=true)(ha:DT P t=some false)(hx:ev e x=.pointer (some ⟨b,i,none⟩))(H:∀w,C w->Ctx w0 S w L)(hk:L[k]?=some (b,Bl t2 l))(hc:l[i]?=some v)(h:Wt P ops C K rest (put e dst v)):Wt P ops C K (⟨dst,.load t x,ty,pos,af,g⟩::rest) e :=
 BC (hg:=hg) ha hx (fun w hw=>by rw[Aq ((H w hw).get hk)];exact hc) h
theorem PN{t:TypeId}{x:Operand}{b o s:Nat}(l:List Value)(ha:DT P t=some true)(hs:BK P t=some s)(hx:ev e x=.pointer (some ⟨b,o,none⟩))(hl:l.length=s)(hc:∀w,C w->∀j v,l[j]?=some v->w.cell? ⟨b,o+j,none⟩=some v)(h:Wt P ops C K rest (put e dst (.agg l.toArray)))(hg:AJ ⟨dst,.load t x,ty,pos,af,g⟩ ops e=true:=by exact U):Wt P ops C K (⟨dst,.load t x,ty,pos,af,g⟩::rest) e :=
 Zb rfl hg (fun w hw=>by simp[execOp,hx,Instr.loadAt,Instr.sureAddr,JG ha hs hl (hc w hw)]) h
theorem t_lss(hg:AJ ⟨dst,.binOp .lss t x y t2,ty,pos,af,g⟩ ops e=true)(hx:ev e x=.int k a)(hy:ev e y=.int k b)(h:Wt P ops C K rest (put e dst (.bool (decide (a<b))))) :
  Wt P ops C K (⟨dst,.binOp .lss t x y t2,ty,pos,af,g⟩::rest) e:=EA hg (fun w _=>BR hx hy (by simp[binOp,Op.intCmp])) h
theorem Am6(hg:AJ ⟨dst,.binOp .gtr t x y t2,ty,pos,af,g⟩ ops e=true)(hx:ev e x=.int k a)(hy:ev e y=.int k b)(h:Wt P ops C K rest (put e dst (.bool (decide (b<a))))) :
  Wt P ops C K (⟨dst,.binOp .gtr t x y t2,ty,pos,af,g⟩::rest) e:=EA hg (fun w _=>BR hx hy (by simp[binOp,Op.intCmp])) h
theorem t_geq(hg:AJ ⟨dst,.binOp .geq t x y t2,ty,pos,af,g⟩ ops e=true)(hx:ev e x=.int k a)(hy:ev e y=.int k b)(h:Wt P ops C K rest (put e dst (.bool (decide (b<=a))))) :
  Wt P ops C K (⟨dst,.binOp .geq t x y t2,ty,pos,af,g⟩::rest) e:=EA hg (fun w _=>BR hx hy (by simp[binOp,Op.intCmp])) h
theorem t_eql(hg:AJ ⟨dst,.binOp .eql t x y t2,ty,pos,af,g⟩ ops e=true)(hx:ev e x=.int k a)(hy:ev e y=.int k b)(h:Wt P ops C K rest (put e dst (.bool (decide (a=b))))) :
  Wt P ops C K (⟨dst,.binOp .eql t x y t2,ty,pos,af,g⟩::rest) e :=
 EA hg (fun w _=>BR hx hy (v := .bool (decide (a=b))) (by simp[binOp,Op.intCmp];rfl)) h
theorem Am7(hg:AJ ⟨dst,.binOp .neq t x y t2,ty,pos,af,g⟩ ops e=true)(hx:ev e x=.int k a)(hy:ev e y=.int k b)(h:Wt P ops C K rest (put e dst (.bool (!decide (a=b))))) :
  Wt P ops C K (⟨dst,.binOp .neq t x y t2,ty,pos,af,g⟩::rest) e :=
 EA hg (fun w _=>BR hx hy (v := .bool (!decide (a=b))) (by simp[binOp,Op.intCmp];rfl)) h
theorem Am8(hg:AJ ⟨dst,.binOp .rem t x y t2,ty,pos,af,g⟩ ops e=true)(hx:ev e x=.int k a)(hy:ev e y=.int k b)(h:Wt P ops C K rest (put e dst (.int k (a % b))))(h0:0<=a:=by omega)(hb:0<b:=by omega):Wt P ops C K (⟨dst,.binOp .rem t x y t2,ty,pos,af,g⟩::rest) e:=by
 refine EA hg (fun w _=>BR hx hy (v := .int k (a % b)) ?_) h;have h3:a.tmod b=a % b:=qfa h0;simp[binOp,Op.intDiv,h3,show ¬b=0 from by omega]
theorem Fl(hx:ev e x=.int .i64 a)(hy:ev e y=.int .i64 b)(h:Wt P ops C K rest (put e dst (.int .i64 (a+b))))(hg:AJ ⟨dst,.binOp .add t x y t2,ty,pos,af,g⟩ ops e=true:=by exact U)(h1: -9223372036854775808<=a+b:=by omega)(h2:a+b<=9223372036854775807:=by omega):Wt P ops C K (⟨dst,.binOp .add t x y t2,ty,pos,af,g⟩::rest) e:=EA hg (fun w _=>BR hx hy (by simp[binOp,Op.intArith,EJ (k := .i64) (n:=a+b) h1 h2])) h
theorem IB(hg:AJ ⟨dst,.binOp .sub t x y t2,ty,pos,af,g⟩ ops e=true)(hx:ev e x=.int .i64 a)(hy:ev e y=.int .i64 b)(h:Wt P ops C K rest (put e dst (.int .i64 (a - b))))(h1: -9223372036854775808<=a - b:=by omega)(h2:a - b<=9223372036854775807:=by omega):Wt P ops C K (⟨dst,.binOp .sub t x y t2,ty,pos,af,g⟩::rest) e:=EA hg (fun w _=>BR hx hy (by simp[binOp,Op.intArith,EJ (k := .i64) (n:=a - b) h1 h2])) h
theorem Um(hg:AJ ⟨dst,.binOp .add t x y t2,ty,pos,af,g⟩ ops e=true)(hx:ev e x=.int .u64 a)(hy:ev e y=.int .u64 b)(h:Wt P ops C K rest (put e dst (.int .u64 (a+b))))(h1:0<=a+b:=by omega)(h2:a+b<=18446744073709551615:=by omega):Wt P ops C K (⟨dst,.binOp .add t x y t2,ty,pos,af,g⟩::rest) e:=EA hg (fun w _=>BR hx hy (by simp[binOp,Op.intArith,EJ (k := .u64) (n:=a+b) h1 h2])) h
theorem Zc{s d:TypeId}{ds:TypeDesc}(hg:AJ ⟨dst,.convert s d x,ty,pos,af,g⟩ ops e=true)(hx:ev e x=.int k a)(hs:P.underlying s=some ds)(hd:P.underlying d=some (.int .u64))(h:Wt P ops C K rest (put e dst (.int .u64 a)))(h1:0<=a:=by omega)(h2:a<=18446744073709551615:=by omega):Wt P ops C K (⟨dst,.convert s d x,ty,pos,af,g⟩::rest) e :=
 EA hg (fun w _=>by simp[execOp,hx,convert,AL hs,AL hd,Conv.intToInt,EJ (k := .u64) (n:=a) h1 h2]) h
theorem MV{x:Operand}(hg:AJ ⟨dst,.move x,ty,pos,af,g⟩ ops e=true)(v:Value)(hx:ev e x=v)(h:Wt P ops C K rest (put e dst v)) :
  Wt P ops C K (⟨dst,.move x,ty,pos,af,g⟩::rest) e:=EA hg (fun w _=>by simp[execOp,hx]) h
theorem WB{x:Operand}(hg:AJ ⟨dst,.assign x,ty,pos,af,g⟩ ops e=true)(v:Value)(hx:ev e x=v)(h:Wt P ops C K rest (put e dst v)) :
  Wt P ops C K (⟨dst,.assign x,ty,pos,af,g⟩::rest) e:=EA hg (fun w _=>by simp[execOp,hx]) h
theorem Ak1{c a b:Operand}(hg:AJ ⟨dst,.pick c a b,ty,pos,af,g⟩ ops e=true)(hc:ev e c=.bool true)(v:Value)(hx:ev e a=v)(h:Wt P ops C K rest (put e dst v)) :
  Wt P ops C K (⟨dst,.pick c a b,ty,pos,af,g⟩::rest) e:=EA hg (fun w _=>by simp[execOp,hc,hx,asBool]) h
theorem Aa0{c a b:Operand}(hg:AJ ⟨dst,.pick c a b,ty,pos,af,g⟩ ops e=true)(hc:ev e c=.bool false)(v:Value)(hx:ev e b=v)(h:Wt P ops C K rest (put e dst v)) :
  Wt P ops C K (⟨dst,.pick c a b,ty,pos,af,g⟩::rest) e:=EA hg (fun w _=>by simp[execOp,hc,hx,asBool]) h
theorem Af8{t:TypeId}{x:Operand}{b:Bool}(hg:AJ ⟨dst,.unOp .not t x,ty,pos,af,g⟩ ops e=true)(hx:ev e x=.bool b)(h:Wt P ops C K rest (put e dst (.bool (!b)))) :
  Wt P ops C K (⟨dst,.unOp .not t x,ty,pos,af,g⟩::rest) e:=EA hg (fun w _=>by simp[execOp,hx,Op.unary]) h
theorem Bm{x:Operand}{p:Addr}(hx:ev e x=.pointer (some p))(h:Wt P ops C K rest (put e dst (.pointer (some p))))(hg:AJ ⟨dst,.nilCheck x,ty,pos,af,g⟩ ops e=true:=by exact U):
  Wt P ops C K (⟨dst,.nilCheck x,ty,pos,af,g⟩::rest) e:=EA hg (fun w _=>by simp[execOp,hx]) h
theorem FC{t el:TypeId}{x y:Operand}{b o n c s:Nat}{k:IntKind}{i:Int}(hg:AJ ⟨dst,.indexAddr t x y,ty,pos,af,g⟩ ops e=true)(hu:C0 P t=some el)(hs:BK P el=some s)(hx:ev e x=.slice (some ⟨b,o,none⟩) n c)(hy:ev e y=.int k i)(h:Wt P ops C K rest (put e dst (.pointer (some ⟨b,o+i.toNat*s,none⟩))))(h0:0<=i:=by omega)(h1:i<n:=by omega):
  Wt P ops C K (⟨dst,.indexAddr t x y,ty,pos,af,g⟩::rest) e :=
 EA hg (fun w _=>by simp[execOp,hx,hy,Instr.indexAt,asIntOf,AL (Cv hu),h0,h1,Cd hs,Dw]) h
theorem BX{t el:TypeId}{x y:Operand}{a:Option Addr}{n c s:Nat}{k:IntKind}{i:Int}{α:Type}{enc:α->List Value}{xs:List α}{w1:World}(R:Rd w1 a s enc xs)(hu:C0 P t=some el)(hs:BK P el=some s)(hx:ev e x=.slice a n c)(hy:ev e y=.int k i)(h:Wt P ops C K rest (put e dst (.pointer (some ⟨(adr a).block,(adr a).off+i.toNat*s,none⟩))))(hg:AJ ⟨dst,.indexAddr t x y,ty,pos,af,g⟩ ops e=true:=by exact U)(h0:0<=i:=by omega)(h1:i<n:=by omega)(hn:n=xs.length:=by omega):
  Wt P ops C K (⟨dst,.indexAddr t x y,ty,pos,af,g⟩::rest) e:=by
 obtain⟨b,o,rfl⟩:=R.some' (by rintro rfl;simp at hn;omega);exact FC hg hu hs hx hy (h0:=h0) (h1:=h1) h
theorem PO{t:TypeId}{x:Operand}{a:Option Addr}{n c:Nat}{el:TypeId}(hu:C0 P t=some el)(hx:ev e x=.slice a n c)(h:Wt P ops C K rest (put e dst (.int .i64 n)))(hg:AJ ⟨dst,.call ⟨.builtin .len,#[x],#[t]⟩,ty,pos,af,g⟩ ops e=true:=by exact U):
  Wt P ops C K (⟨dst,.call ⟨.builtin .len,#[x],#[t]⟩,ty,pos,af,g⟩::rest) e :=
 EA hg (fun w _=>by simp[execOp,resolve,invoke,builtin,hx,Builtin.len_,AL (Cv hu),goInt]) h
theorem An6{t1 t2:TypeId}{x y:Operand}{k:IntKind}{a b:Int}(hg:AJ ⟨dst,.call ⟨.builtin .max,#[x,y],#[t1,t2]⟩,ty,pos,af,g⟩ ops e=true)(hx:ev e x=.int k a)(hy:ev e y=.int k b)(h:Wt P ops C K rest (put e dst (.int k (max a b)))) :
  Wt P ops C K (⟨dst,.call ⟨.builtin .max,#[x,y],#[t1,t2]⟩,ty,pos,af,g⟩::rest) e :=
 EA hg (fun w _=>by
  have:(if a<b then b else a)=max a b:=by rw[Int.max_def];split <;> split <;> omega
  simp[execOp,resolve,invoke,builtin,hx,hy,Builtin.max_,Builtin.max2,this]) h
theorem C4{x:Operand}{i:Nat}{vs:Array Value}{v:Value}(hx:ev e x=.tuple vs)(hv:vs[i]?=some v)(h:Wt P ops C K rest (put e dst v))(hg:AJ ⟨dst,.extract x i,ty,pos,af,g⟩ ops e=true:=by exact U):
  Wt P ops C K (⟨dst,.extract x i,ty,pos,af,g⟩::rest) e :=
 EA hg (fun w _=>by simp[execOp,hx,Instr.extract,hv]) h
theorem Gq{t el:TypeId}{x y:Operand}{s:Nat}{a:Option Addr}{n c:Nat}{k:IntKind}{i:Int}(hu:C0 P t=some el)(hs:BK P el=some s)(hx:ev e x=.slice a n c)(hy:ev e y=.int k i)(h:Wt P ops C K rest (put e dst (.slice (EH a c i.toNat s) (n - i.toNat) (c - i.toNat))))(hg:AJ ⟨dst,.slice t x (some y) none none,ty,pos,af,g⟩ ops e=true:=by exact U)(h0:0<=i:=by omega)(h1:i<=n:=by omega):
  Wt P ops C K (⟨dst,.slice t x (some y) none none,ty,pos,af,g⟩::rest) e :=
 EA hg (fun w _=>by simp[execOp,Instr.sliceAt,Instr.slice,Instr.sliceBounds,AL (Cv hu),hx,hy,KQ h0 h1,Cd hs,EH]) h
theorem Hr{t el:TypeId}{x y:Operand}{s:Nat}{a:Option Addr}{n c:Nat}{k:IntKind}{j:Int}(hg:AJ ⟨dst,.slice t x none (some y) none,ty,pos,af,g⟩ ops e=true)(hu:C0 P t=some el)(hs:BK P el=some s)(hx:ev e x=.slice a n c)(hy:ev e y=.int k j)(h:Wt P ops C K rest (put e dst (.slice a j.toNat c)))(h0:0<=j:=by omega)(h1:j<=c:=by omega):
  Wt P ops C K (⟨dst,.slice t x none (some y) none,ty,pos,af,g⟩::rest) e :=
 EA hg (fun w _=>by
  have:∀a:Option Addr,(if c=0 then a else a.map (·.add (0*s)))=a:=by
   intro a;split
   .rfl
   .cases a with
    |none=>rfl
    |some p=>simp[Addr.add]
  simp[execOp,Instr.sliceAt,Instr.slice,Instr.sliceBounds,AL (Cv hu),hx,hy,KQ h0 h1,Cd hs]
  simpa using this a) h
theorem AC{t:TypeId}{x:Operand}{i b o off:Nat}(hf:BH P t i=some off)(hx:ev e x=.pointer (some ⟨b,o,none⟩))(h:Wt P ops C K rest (put e dst (.pointer (some ⟨b,o+off,none⟩))))(hg:AJ ⟨dst,.fieldAddr t x i,ty,pos,af,g⟩ ops e=true:=by exact U):
  Wt P ops C K (⟨dst,.fieldAddr t x i,ty,pos,af,g⟩::rest) e:=by
 unfold BH at hf
 split at hf
 .rename_i fs hu
  split at hf
  .rename_i f hf1
   split at hf
   .rename_i s hs
    injection hf with hf
    subst hf;exact EA hg (fun w _=>by simp[execOp,hx,Instr.fieldAt,AL hu,hf1,Instr.sureAddr,fieldPlace,Cd hs,Dw]) h
   .cases hf
  .cases hf
 .cases hf
end
section
variable {t t2:TypeId}{x y:Operand}{a b n:Nat}{s d:TypeId}
theorem WC(hg:AJ ⟨dst,.binOp .xor t x y t2,ty,pos,af,g⟩ ops e=true)(hx:ev e x=.int .u8 a)(hy:ev e y=.int .u8 b)(ha:a<256)(h:Wt P ops C K rest (put e dst (.int .u8 ((a ^^^ b:Nat):Int))))(hb:b<256:=by decide):Wt P ops C K (⟨dst,.binOp .xor t x y t2,ty,pos,af,g⟩::rest) e :=
 EA hg (fun w _=>BR hx hy (by show(Op.intBits .xor .u8 (a:Int) (b:Int)).run P w=_;rw[QY rfl (by exact ha) (by exact hb)];rfl)) h
end
end
section
variable {P:Program}{r:Option Nat}{ops rest:List Oper}{Q:Exit->Env->World->Prop}{e:Env}{w:World}{C:World->Prop}{K:Env->Prop}{dst:Option Tmp}{ty:TypeId}{pos:String}{af:Array Edge}{g:Option (Nat × Bool)}{x:Operand}
theorem Ae{k:IntKind}{i:Int}(hx:ev e x=(.int k i))(h:AA P r ops Q rest (put e dst (.int k i)) w)(hg:AJ ⟨dst,.move x,ty,pos,af,g⟩ ops e=true:=by exact U):AA P r ops Q (⟨dst,.move x,ty,pos,af,g⟩::rest) e w:=DY hg (.int k i) hx h
theorem DK{k:IntKind}{i:Int}(hx:ev e x=(.int k i))(h:Wq P ops C K rest (put e dst (.int k i)))(hg:AJ ⟨dst,.move x,ty,pos,af,g⟩ ops e=true:=by exact U):Wq P ops C K (⟨dst,.move x,ty,pos,af,g⟩::rest) e:=QU hg (.int k i) hx h
theorem B0{k:IntKind}{i:Int}(hx:ev e x=(.int k i))(h:Wt P ops C K rest (put e dst (.int k i)))(hg:AJ ⟨dst,.move x,ty,pos,af,g⟩ ops e=true:=by exact U):Wt P ops C K (⟨dst,.move x,ty,pos,af,g⟩::rest) e:=MV hg (.int k i) hx h
theorem AF{b:Bool}(hx:ev e x=(.bool b))(h:AA P r ops Q rest (put e dst (.bool b)) w)(hg:AJ ⟨dst,.move x,ty,pos,af,g⟩ ops e=true:=by exact U):AA P r ops Q (⟨dst,.move x,ty,pos,af,g⟩::rest) e w:=DY hg (.bool b) hx h
theorem VA{b:Bool}(hg:AJ ⟨dst,.move x,ty,pos,af,g⟩ ops e=true)(hx:ev e x=(.bool b))(h:Wq P ops C K rest (put e dst (.bool b))):Wq P ops C K (⟨dst,.move x,ty,pos,af,g⟩::rest) e:=QU hg (.bool b) hx h
theorem LV{b:Bool}(hg:AJ ⟨dst,.move x,ty,pos,af,g⟩ ops e=true)(hx:ev e x=(.bool b))(h:Wt P ops C K rest (put e dst (.bool b))):Wt P ops C K (⟨dst,.move x,ty,pos,af,g⟩::rest) e:=MV hg (.bool b) hx h
theorem Ah{a:Option Addr}{n c:Nat}(hx:ev e x=(.slice a n c))(h:AA P r ops Q rest (put e dst (.slice a n c)) w)(hg:AJ ⟨dst,.move x,ty,pos,af,g⟩ ops e=true:=by exact U):AA P r ops Q (⟨dst,.move x,ty,pos,af,g⟩::rest) e w:=DY hg (.slice a n c) hx h
theorem Gm{a:Option Addr}{n c:Nat}(hx:ev e x=(.slice a n c))(h:Wq P ops C K rest (put e dst (.slice a n c)))(hg:AJ ⟨dst,.move x,ty,pos,af,g⟩ ops e=true:=by exact U):Wq P ops C K (⟨dst,.move x,ty,pos,af,g⟩::rest) e:=QU hg (.slice a n c) hx h
theorem B9{a:Option Addr}{n c:Nat}(hx:ev e x=(.slice a n c))(h:Wt P ops C K rest (put e dst (.slice a n c)))(hg:AJ ⟨dst,.move x,ty,pos,af,g⟩ ops e=true:=by exact U):Wt P ops C K (⟨dst,.move x,ty,pos,af,g⟩::rest) e:=MV hg (.slice a n c) hx h
theorem An{p:Option Addr}(hx:ev e x=(.pointer p))(h:AA P r ops Q rest (put e dst (.pointer p)) w)(hg:AJ ⟨dst,.move x,ty,pos,af,g⟩ ops e=true:=by exact U):AA P r ops Q (⟨dst,.move x,ty,pos,af,g⟩::rest) e w:=DY hg (.pointer p) hx h
theorem Ha{p:Option Addr}(hx:ev e x=(.pointer p))(h:Wq P ops C K rest (put e dst (.pointer p)))(hg:AJ ⟨dst,.move x,ty,pos,af,g⟩ ops e=true:=by exact U):Wq P ops C K (⟨dst,.move x,ty,pos,af,g⟩::rest) e:=QU hg (.pointer p) hx h
theorem C1{p:Option Addr}(hx:ev e x=(.pointer p))(h:Wt P ops C K rest (put e dst (.pointer p)))(hg:AJ ⟨dst,.move x,ty,pos,af,g⟩ ops e=true:=by exact U):Wt P ops C K (⟨dst,.move x,ty,pos,af,g⟩::rest) e:=MV hg (.pointer p) hx h
theorem AW{l:Array Value}(hx:ev e x=(.tuple l))(h:AA P r ops Q rest (put e dst (.tuple l)) w)(hg:AJ ⟨dst,.move x,ty,pos,af,g⟩ ops e=true:=by exact U):AA P r ops Q (⟨dst,.move x,ty,pos,af,g⟩::rest) e w:=DY hg (.tuple l) hx h
theorem Ak2{l:Array Value}(hg:AJ ⟨dst,.move x,ty,pos,af,g⟩ ops e=true)(hx:ev e x=(.tuple l))(h:Wq P ops C K rest (put e dst (.tuple l))):Wq P ops C K (⟨dst,.move x,ty,pos,af,g⟩::rest) e:=QU hg (.tuple l) hx h
theorem Iv{l:Array Value}(hx:ev e x=(.tuple l))(h:Wt P ops C K rest (put e dst (.tuple l)))(hg:AJ ⟨dst,.move x,ty,pos,af,g⟩ ops e=true:=by exact U):Wt P ops C K (⟨dst,.move x,ty,pos,af,g⟩::rest) e:=MV hg (.tuple l) hx h
theorem KT{p:Option Nat}(hg:AJ ⟨dst,.move x,ty,pos,af,g⟩ ops e=true)(hx:ev e x=(.map p))(h:AA P r ops Q rest (put e dst (.map p)) w):AA P r ops Q (⟨dst,.move x,ty,pos,af,g⟩::rest) e w:=DY hg (.map p) hx h
theorem Ce{s:ByteArray}(hx:ev e x=(.string s))(h:AA P r ops Q rest (put e dst (.string s)) w)(hg:AJ ⟨dst,.move x,ty,pos,af,g⟩ ops e=true:=by exact U):AA P r ops Q (⟨dst,.move x,ty,pos,af,g⟩::rest) e w:=DY hg (.string s) hx h
theorem VB{s:ByteArray}(hg:AJ ⟨dst,.move x,ty,pos,af,g⟩ ops e=true)(hx:ev e x=(.string s))(h:Wt P ops C K rest (put e dst (.string s))):Wt P ops C K (⟨dst,.move x,ty,pos,af,g⟩::rest) e:=MV hg (.string s) hx h
theorem Ac{k:IntKind}{i:Int}(hx:ev e x=(.int k i))(h:AA P r ops Q rest (put e dst (.int k i)) w)(hg:AJ ⟨dst,.assign x,ty,pos,af,g⟩ ops e=true:=by exact U):AA P r ops Q (⟨dst,.assign x,ty,pos,af,g⟩::rest) e w:=Ei hg (.int k i) hx h
theorem EO{k:IntKind}{i:Int}(hx:ev e x=(.int k i))(h:Wq P ops C K rest (put e dst (.int k i)))(hg:AJ ⟨dst,.assign x,ty,pos,af,g⟩ ops e=true:=by exact U):Wq P ops C K (⟨dst,.assign x,ty,pos,af,g⟩::rest) e:=QV hg (.int k i) hx h
theorem Un{k:IntKind}{i:Int}(hg:AJ ⟨dst,.assign x,ty,pos,af,g⟩ ops e=true)(hx:ev e x=(.int k i))(h:Wt P ops C K rest (put e dst (.int k i))):Wt P ops C K (⟨dst,.assign x,ty,pos,af,g⟩::rest) e:=WB hg (.int k i) hx h
theorem Am{b:Bool}(hx:ev e x=(.bool b))(h:AA P r ops Q rest (put e dst (.bool b)) w)(hg:AJ ⟨dst,.assign x,ty,pos,af,g⟩ ops e=true:=by exact U):AA P r ops Q (⟨dst,.assign x,ty,pos,af,g⟩::rest) e w:=Ei hg (.bool b) hx h
theorem Ac8{b:Bool}(hg:AJ ⟨dst,.assign x,ty,pos,af,g⟩ ops e=true)(hx:ev e x=(.bool b))(h:Wq P ops C K rest (put e dst (.bool b))):Wq P ops C K (⟨dst,.assign x,ty,pos,af,g⟩::rest) e:=QV hg (.bool b) hx h
theorem Ak{a:Option Addr}{n c:Nat}(hx:ev e x=(.slice a n c))(h:AA P r ops Q rest (put e dst (.slice a n c)) w)(hg:AJ ⟨dst,.assign x,ty,pos,af,g⟩ ops e=true:=by exact U):AA P r ops Q (⟨dst,.assign x,ty,pos,af,g⟩::rest) e w:=Ei hg (.slice a n c) hx h
theorem Uo{a:Option Addr}{n c:Nat}(hg:AJ ⟨dst,.assign x,ty,pos,af,g⟩ ops e=true)(hx:ev e x=(.slice a n c))(h:Wq P ops C K rest (put e dst (.slice a n c))):Wq P ops C K (⟨dst,.assign x,ty,pos,af,g⟩::rest) e:=QV hg (.slice a n c) hx h
theorem IC{a:Option Addr}{n c:Nat}(hg:AJ ⟨dst,.assign x,ty,pos,af,g⟩ ops e=true)(hx:ev e x=(.slice a n c))(h:Wt P ops C K rest (put e dst (.slice a n c))):Wt P ops C K (⟨dst,.assign x,ty,pos,af,g⟩::rest) e:=WB hg (.slice a n c) hx h
theorem B7{p:Option Addr}(hx:ev e x=(.pointer p))(h:AA P r ops Q rest (put e dst (.pointer p)) w)(hg:AJ ⟨dst,.assign x,ty,pos,af,g⟩ ops e=true:=by exact U):AA P r ops Q (⟨dst,.assign x,ty,pos,af,g⟩::rest) e w:=Ei hg (.pointer p) hx h
theorem Ri{p:Option Nat}(hg:AJ ⟨dst,.assign x,ty,pos,af,g⟩ ops e=true)(hx:ev e x=(.map p))(h:AA P r ops Q rest (put e dst (.map p)) w):AA P r ops Q (⟨dst,.assign x,ty,pos,af,g⟩::rest) e w:=Ei hg (.map p) hx h
theorem IM{s:ByteArray}(hg:AJ ⟨dst,.assign x,ty,pos,af,g⟩ ops e=true)(hx:ev e x=(.string s))(h:AA P r ops Q rest (put e dst (.string s)) w):AA P r ops Q (⟨dst,.assign x,ty,pos,af,g⟩::rest) e w:=Ei hg (.string s) hx h
end
def bv(b:UInt8):Value := .int .u8 (b.toNat:Int)
def B8(b:UInt8):List Value:=[bv b]
def str(l:List UInt8):Value := .string ⟨l.toArray⟩
theorem Ht(l:List UInt8):∀v∈l.map bv,Bh v=true:=fun v hv=>by
 obtain⟨b,_,rfl⟩:=qah.1 hv;rfl
theorem VC{l m:List UInt8}:((⟨l.toArray⟩:ByteArray).toList == (⟨m.toArray⟩:ByteArray).toList)=decide (l=m):=by
 rw[ByteArray.toList_eq,ByteArray.toList_eq];rw[qar];simp
section
variable {P:Program}{r:Option Nat}{ops rest:List Oper}{Q:Exit->Env->World->Prop}{e:Env}{w w0:World}{S:List Nat}{L:List (Nat × Obj)}{dst:Option Tmp}{ty:TypeId}{pos:String}{af:Array Edge}{g:Option (Nat × Bool)}{C:World->Prop}{K:Env->Prop}
theorem Ac9{t el:TypeId}{x:Operand}{b n:Nat}(hg:AJ ⟨dst,.slice t x none none none,ty,pos,af,g⟩ ops e=true)(hu:Qt P t=some (n,el))(hs:BK P el=some 1)(hx:ev e x=.pointer (some ⟨b,0,none⟩))(h:AA P r ops Q rest (put e dst (.slice (some ⟨b,0,none⟩) n n)) w):AA P r ops Q (⟨dst,.slice t x none none none,ty,pos,af,g⟩::rest) e w :=
 Bt hg rfl (by simp[execOp,Instr.sliceAt,Instr.sliceBounds,AL (OO hu),hx,Instr.sureAddr,Cd hs,Addr.add]) h
theorem N7{t el:TypeId}{x y:Operand}{b n:Nat}{k:IntKind}{i:Int}(hg:AJ ⟨dst,.slice t x (some y) none none,ty,pos,af,g⟩ ops e=true)(hu:Qt P t=some (n,el))(hs:BK P el=some 1)(hx:ev e x=.pointer (some ⟨b,0,none⟩))(hy:ev e y=.int k i)(h:AA P r ops Q rest (put e dst (.slice (some ⟨b,i.toNat,none⟩) (n - i.toNat) (n - i.toNat))) w)(h0:0<=i:=by omega)(h1:i<n:=by omega):
  AA P r ops Q (⟨dst,.slice t x (some y) none none,ty,pos,af,g⟩::rest) e w :=
 Bt hg rfl (by
  have hne:¬n=i.toNat:=by omega
  have h2:i<=(n:Int):=by omega
  simp[execOp,Instr.sliceAt,Instr.sliceBounds,AL (OO hu),hx,hy,Instr.sureAddr,Cd hs,KQ h0 h2,hne,Dw]) h
theorem VD{t el:TypeId}{x y:Operand}{b n:Nat}{k:IntKind}{j:Int}(hg:AJ ⟨dst,.slice t x none (some y) none,ty,pos,af,g⟩ ops e=true)(hu:Qt P t=some (n,el))(hs:BK P el=some 1)(hx:ev e x=.pointer (some ⟨b,0,none⟩))(hy:ev e y=.int k j)(h:AA P r ops Q rest (put e dst (.slice (some ⟨b,0,none⟩) j.toNat n)) w)(h0:0<=j:=by omega)(h1:j<=n:=by omega):
  AA P r ops Q (⟨dst,.slice t x none (some y) none,ty,pos,af,g⟩::rest) e w :=
 Bt hg rfl (by simp[execOp,Instr.sliceAt,Instr.sliceBounds,AL (OO hu),hx,hy,Instr.sureAddr,Cd hs,KQ h0 h1,Addr.add]) h
theorem Q1{t t2 el t3:TypeId}{x y:Operand}{b o dn dc m c2 k:Nat}{a2:Option Addr}{l:List Value}(xs:List Value)(hg:AJ ⟨dst,.call ⟨.builtin .copy,#[x,y],#[t,t2]⟩,ty,pos,af,g⟩ ops e=true)(hu:C0 P t=some el)(hs:BK P el=some 1)(hx:ev e x=.slice (some ⟨b,o,none⟩) dn dc)(hy:ev e y=.slice a2 m c2)(hm:xs.length=m)(h1:∀v∈xs,Bh v=true)(hc:∀j v,xs[j]?=some v->∃p,a2=some p/\w.cell? (p.add j)=some v)(H:Ctx w0 S w L)(hk:L[k]?=some (b,Bl t3 l))(hb:o+dn<=l.length)(h:∀w',Ctx w0 S w' (L.set k (b,Bl t3 (over l o (xs.take dn))))->AA P r ops Q rest (put e dst (.int .i64 ((Nat.min m dn:Nat):Int))) w') :
  AA P r ops Q (⟨dst,.call ⟨.builtin .copy,#[x,y],#[t,t2]⟩,ty,pos,af,g⟩::rest) e w:=by
 have hlen:(xs.take dn).length=Nat.min m dn:=by rw[qa0,hm];exact Nat.min_comm _ _
 have hfc:=GZ (P:=P) (w:=w) (s:=1) (m:=Nat.min m dn) (a:=a2) (c:=m) (k:=c2) (l:=xs.take dn) (by rw[hlen,qcj]) (fun j v hv=>by
  rw[qdt]at hv
  split at hv
  .exact hc j v hv
  .cases hv)
 have hmn:Nat.min m dn<=dn:=Nat.min_le_right _ _;obtain⟨w',hr,he,hb'⟩:=GX (P:=P) (o:=o) (xs.take dn) l w 0 (fun v hv=>h1 v (qbq hv)) (H.get hk) (by omega);have hst:(storeCells ⟨b,o,none⟩ (xs.take dn)).run P w=.ok () w':=hr;refine Bt (w':=w') (v := .int .i64 ((Nat.min m dn:Nat):Int)) hg U ?_ (h _ (H.turn hk _ he hb'));simp only[execOp,resolve,invoke,builtin,hx,hy,List.map_toArray,qaz,qbo];simp[Builtin.copy_,AL (Cv hu),Cd hs,Builtin.lenOf,hfc,hst,goInt]
theorem WD{src dst' el:TypeId}{a:Option Addr}{c:Nat}{l:List UInt8}(hs:C0 P src=some el)(he:P.underlying el=some (.int .u8))(hd:P.underlying dst'=some .string)(R:Rd w a 1 B8 l) :
  (convert src dst' (.slice a l.length c)).run P w=.ok (str l) w:=by
 cases a with
 |none =>
  have h0:l=[]:=by
   cases l with
   |nil=>rfl
   |cons x l=>obtain⟨b,o,h⟩:=R.some' (by simp);cases h
  subst h0;simp[convert,AL (Cv hs),AL hd,AL he,Conv.bytesToString,str];rfl
 |some p =>
  refine run_convert_bytes_back w src dst' el p c l (Cv hs) he hd fun j hj=>?_;have hx:l[j]?=some l[j]:=qbe hj;obtain⟨b,o,hp⟩:=R.some' (by rintro rfl;simp at hj)
  injection hp with hp
  subst hp;have:=Rd.one (f:=bv) R hx;rw[Dw]
  simpa[adr,bv]using this
theorem Kk{s d el:TypeId}{x:Operand}{a:Option Addr}{c:Nat}{l:List UInt8}(hs:C0 P s=some el)(he:P.underlying el=some (.int .u8))(hd:P.underlying d=some .string)(hx:ev e x=.slice a l.length c)(R:Rd w a 1 B8 l)(h:AA P r ops Q rest (put e dst (str l)) w)(hg:AJ ⟨dst,.convert s d x,ty,pos,af,g⟩ ops e=true:=by exact U):AA P r ops Q (⟨dst,.convert s d x,ty,pos,af,g⟩::rest) e w :=
 Bt hg rfl (by simp[execOp,hx,WD hs he hd R]) h
theorem Zd{s d el:TypeId}{x:Operand}{a:Option Addr}{c:Nat}{l:List UInt8}(hg:AJ ⟨dst,.convert s d x,ty,pos,af,g⟩ ops e=true)(hs:C0 P s=some el)(he:P.underlying el=some (.int .u8))(hd:P.underlying d=some .string)(hx:ev e x=.slice a l.length c)(R:∀w,C w->Rd w a 1 B8 l)(h:Wq P ops C K rest (put e dst (str l))):Wq P ops C K (⟨dst,.convert s d x,ty,pos,af,g⟩::rest) e :=
 GF hg (fun w hw=>by simp[execOp,hx,WD hs he hd (R w hw)]) h
theorem KU{s d el:TypeId}{x:Operand}{l:List UInt8}(hg:AJ ⟨dst,.convert s d x,ty,pos,af,g⟩ ops e=true)(hs:P.underlying s=some .string)(hd:C0 P d=some el)(he:P.underlying el=some (.int .u8))(hx:ev e x=str l)(h:∀b c w',w.heap.size<=b->l.length<=c->Ext [] w w'->Rd w' (some ⟨b,0,none⟩) 1 B8 l->AA P r ops Q rest (put e dst (.slice (some ⟨b,0,none⟩) l.length c)) w') :
  AA P r ops Q (⟨dst,.convert s d x,ty,pos,af,g⟩::rest) e w:=by
 have hr:=run_bytes_of_string (P:=P) w s d el ⟨l.toArray⟩ hs (Cv hd) he;have hsz:(⟨l.toArray⟩:ByteArray).size=l.length:=by simp[ByteArray.size]
 rw[hsz]at hr;refine Bt hg U (by simp only[execOp,hx,str,Sem.run_bind,hr,Result.andThen_ok];rfl) (h w.heap.size _ _ (qae _) (grownCap_ge _ _ _ _) ((Ext.drew [] w).trans (Ext.alloc [] _ _)) ?_);refine⟨fun _=>⟨_,_,rfl⟩,fun i x hx j v hv hj=>?_⟩;have hj0:j=0:=by omega
 subst hj0;simp only[B8,qc7,qbb]at hv;subst hv;show(World.alloc w.drew _).cell? ⟨w.heap.size,0+i*1+0,none⟩=_;rw[show w.heap.size=w.drew.heap.size from rfl,World.cell?_alloc_mark];have hi:i<l.length:=(qap.1 hx).1;rw[qbe hi]at hx
 injection hx with hx
 simp only[bytesRow,qa2,qcj,qc9];rw[Array.getElem?_append_left (by simpa using hi)];simp[hi,hx,bv]
theorem Ro{t t2:TypeId}{x y:Operand}{l m:List UInt8}(hg:AJ ⟨dst,.binOp .eql t x y t2,ty,pos,af,g⟩ ops e=true)(hx:ev e x=str l)(hy:ev e y=str m)(h:AA P r ops Q rest (put e dst (.bool (decide (l=m)))) w):AA P r ops Q (⟨dst,.binOp .eql t x y t2,ty,pos,af,g⟩::rest) e w :=
 Bt hg rfl (by
  have hq:eqGuard .eql t x y (.string ⟨l.toArray⟩) (.string ⟨m.toArray⟩)=pure ():=rfl
  simp only[execOp,hx,hy,hq,Sem.run_bind,Sem.run_pure,Result.andThen_ok,binOp,str,Op.stringOp,VC]) h
theorem Af9{t t2:TypeId}{x y:Operand}{l m:List UInt8}(hg:AJ ⟨dst,.binOp .neq t x y t2,ty,pos,af,g⟩ ops e=true)(hx:ev e x=str l)(hy:ev e y=str m)(h:AA P r ops Q rest (put e dst (.bool (!decide (l=m)))) w):AA P r ops Q (⟨dst,.binOp .neq t x y t2,ty,pos,af,g⟩::rest) e w :=
 Bt hg rfl (by
  have hq:eqGuard .neq t x y (.string ⟨l.toArray⟩) (.string ⟨m.toArray⟩)=pure ():=rfl
  simp only[execOp,hx,hy,hq,Sem.run_bind,Sem.run_pure,Result.andThen_ok,binOp,str,Op.stringOp,VC]) h
theorem VF{t:TypeId}{x:Operand}{l:List UInt8}(hg:AJ ⟨dst,.call ⟨.builtin .len,#[x],#[t]⟩,ty,pos,af,g⟩ ops e=true)(hu:P.underlying t=some .string)(hx:ev e x=str l)(h:AA P r ops Q rest (put e dst (.int .i64 l.length)) w):AA P r ops Q (⟨dst,.call ⟨.builtin .len,#[x],#[t]⟩,ty,pos,af,g⟩::rest) e w :=
 Bt hg rfl (by
  have hsz:(⟨l.toArray⟩:ByteArray).size=l.length:=by simp[ByteArray.size]
  simp[execOp,resolve,invoke,builtin,hx,str,Builtin.len_,AL hu,goInt,hsz]) h
theorem LW{t k el:TypeId}{kk:IntKind}{x y z:Operand}{b j:Nat}{o:Obj}{m:List (Int × Value)}{n:Int}(v:Value)(hg:AJ ⟨dst,.insert t x y z,ty,pos,af,g⟩ ops e=true)(ht:IL P t=some (k,el))(hk:P.underlying k=some (.int kk))(hx:ev e x=.map (some b))(hy:ev e y=.int kk n)(hv:ev e z=v)(H:Ctx w0 S w L)(hl:L[j]?=some (b,o))(hM:Ki kk m o)(h:∀o' w',Ki kk (JI m n v) o'->Ctx w0 S w' (L.set j (b,o'))->AA P r ops Q rest (put e dst undef) w'):AA P r ops Q (⟨dst,.insert t x y z,ty,pos,af,g⟩::rest) e w:=by
 obtain⟨o',w',hr,hM',H'⟩:=MG (n:=n) v ht hk H hl hM;exact N5 hg U (by simp[execOp,hx,hy,hv,hr]) (h o' w' hM' H')
theorem An7(l:List UInt8)(n:Nat):(⟨l.toArray⟩:ByteArray)[n]?=l[n]? := by
 by_cases h:n<l.length
 .rw[qbe h,getElem?_pos (⟨l.toArray⟩:ByteArray) n (by simpa[ByteArray.size]using h)];rfl
 .rw[qbz (by omega),getElem?_neg (⟨l.toArray⟩:ByteArray) n (by simpa[ByteArray.size]using h)]
theorem Up{t:TypeId}{x y:Operand}{k:IntKind}{i:Int}{l:List UInt8}(b:UInt8)(hg:AJ ⟨dst,.index t x y,ty,pos,af,g⟩ ops e=true)(hu:P.underlying t=some .string)(hx:ev e x=str l)(hy:ev e y=.int k i)(hb:l[i.toNat]?=some b)(h:AA P r ops Q rest (put e dst (bv b)) w)(h0:0<=i:=by decide):AA P r ops Q (⟨dst,.index t x y,ty,pos,af,g⟩::rest) e w :=
 Bt hg rfl (by simp[execOp,Instr.index,hx,hy,str,asIntOf,AL hu,h0,An7,hb,bv]) h
theorem WE{t k el:TypeId}{kk:IntKind}{x:Operand}{b j:Nat}{o:Obj}{m:List (Int × Value)}(hg:AJ ⟨dst,.call ⟨.builtin .clear,#[x],#[t]⟩,ty,pos,af,g⟩ ops e=true)(ht:IL P t=some (k,el))(hx:ev e x=.map (some b))(H:Ctx w0 S w L)(hl:L[j]?=some (b,o))(hM:Ki kk m o)(h:∀o' w',Ki kk [] o'->Ctx w0 S w' (L.set j (b,o'))->AA P r ops Q rest (put e dst (.tuple #[])) w') :
  AA P r ops Q (⟨dst,.call ⟨.builtin .clear,#[x],#[t]⟩,ty,pos,af,g⟩::rest) e w:=by
 obtain⟨es,clock,rfl,_⟩:=hM;have hb:=H.get hl;have hgo:(getObj b).run P w=.ok (.map es clock) w:=by simp[getObj,Sem.run,hb]
 have hso:(setObj b (.map #[] clock)).run P w=.ok () (w.putObj b (.map #[] clock)):=by simp[setObj,Sem.run,hb,World.putObj]
 refine Bt (w':=w.putObj b (.map #[] clock)) (v := .tuple #[]) hg U ?_ (h _ _ ⟨#[],clock,rfl,rfl,by simp,by simp⟩ (H.setB hl _));simp[execOp,resolve,invoke,builtin,hx,Builtin.clear_,AL (Ft ht),hgo,hso]
theorem Ze{t el:TypeId}{b n:Nat}(hu:Qt P t=some (n,el))(hs:BK P el=some 1)(w:World):(Instr.sliceAt t (.pointer (some ⟨b,0,none⟩)) none none none).run P w=.ok (.slice (some ⟨b,0,none⟩) n n) w:=by
 simp[Instr.sliceAt,Instr.sliceBounds,AL (OO hu),Instr.sureAddr,Cd hs,Addr.add]
theorem Aga{t el:TypeId}{x:Operand}{b n:Nat}(hg:AJ ⟨dst,.slice t x none none none,ty,pos,af,g⟩ ops e=true)(hu:Qt P t=some (n,el))(hs:BK P el=some 1)(hx:ev e x=.pointer (some ⟨b,0,none⟩))(h:Wt P ops C K rest (put e dst (.slice (some ⟨b,0,none⟩) n n))):Wt P ops C K (⟨dst,.slice t x none none none,ty,pos,af,g⟩::rest) e :=
 EA hg (fun w _=>by simp[execOp,hx,Ze hu hs]) h
theorem WF:∀(A B C M:List Value),B.length=M.length->over (A++(B++C)) A.length M=A++(M++C):=by
 intro A B C M
 induction M generalizing A B with
 |nil=>intro h;have:B=[]:=qa4 (by simpa using h);subst this;simp[over]
 |cons v M ih =>
  intro h
  cases B with
  |nil=>simp at h
  |cons x B =>
   have:=ih (A++[v]) B (by simpa using h);simp only[over];rw[show(A++(x::B++C)).set A.length v=A++[v]++(B++C)from by simp];rw[show A.length+1=(A++[v]).length from by simp,this];simp
end
section
variable {P:Program}{r:Option Nat}{ops rest:List Oper}{Q:Exit->Env->World->Prop}{e:Env}{w w0:World}{S:List Nat}{L:List (Nat × Obj)}{C:World->Prop}{K:Env->Prop}{dst:Option Tmp}{ty:TypeId}{pos:String}{af:Array Edge}{g:Option (Nat × Bool)}
theorem Aa1{P:Program}{t el:TypeId}(hu:P.underlying t=some (.pointer el))(d:Nat)(a:Option Addr)(w:World):(Op.equalIn (d+1) t (.pointer a) (.pointer none)).run P w=.ok a.isNone w:=by
 cases a <;> simp[Op.equalIn,AL hu]
theorem Agb{P:Program}{t el:TypeId}(hu:P.underlying t=some (.pointer el))(a:Option Addr)(w:World):(binOp .eql t (.pointer a) (.pointer none)).run P w=.ok (.bool a.isNone) w:=by
 simp only[binOp,Sem.run_bind,Op.equal,Op.maxDepth,Aa1 hu 9999];cases a <;> rfl
theorem Agc{P:Program}{t el:TypeId}(hu:P.underlying t=some (.pointer el))(a:Option Addr)(w:World):(binOp .neq t (.pointer a) (.pointer none)).run P w=.ok (.bool a.isSome) w:=by
 simp only[binOp,Sem.run_bind,Op.equal,Op.maxDepth,Aa1 hu 9999];cases a <;> rfl
theorem BU{t t2:TypeId}{x:Operand}{a:Option Addr}{el:TypeId}(hu:P.underlying t=some (.pointer el))(hx:ev e x=.pointer a)(h:AA P r ops Q rest (put e dst (.bool a.isNone)) w)(hg:AJ ⟨dst,.binOp .eql t x (.const (.pointer none)) t2,ty,pos,af,g⟩ ops e=true:=by exact U):AA P r ops Q (⟨dst,.binOp .eql t x (.const (.pointer none)) t2,ty,pos,af,g⟩::rest) e w :=
 Bt hg rfl (by
  have hq:eqGuard .eql t x (.const (.pointer none)) (.pointer a) (.pointer none)=pure ():=rfl;have he:ev e (.const (.pointer none))=.pointer none:=rfl
  simp only[execOp,hx,he,hq,Sem.run_bind,Sem.run_pure,Result.andThen_ok,Agb hu]) h
theorem Uq{t t2:TypeId}{x:Operand}{a:Option Addr}{el:TypeId}(hg:AJ ⟨dst,.binOp .neq t x (.const (.pointer none)) t2,ty,pos,af,g⟩ ops e=true)(hu:P.underlying t=some (.pointer el))(hx:ev e x=.pointer a)(h:AA P r ops Q rest (put e dst (.bool a.isSome)) w):AA P r ops Q (⟨dst,.binOp .neq t x (.const (.pointer none)) t2,ty,pos,af,g⟩::rest) e w :=
 Bt hg rfl (by
  have hq:eqGuard .neq t x (.const (.pointer none)) (.pointer a) (.pointer none)=pure ():=rfl;have he:ev e (.const (.pointer none))=.pointer none:=rfl
  simp only[execOp,hx,he,hq,Sem.run_bind,Sem.run_pure,Result.andThen_ok,Agc hu]) h
theorem Rr{t k el:TypeId}{kk:IntKind}{x y:Operand}{b:Nat}{o:Obj}{m:List (Int × Value)}{n:Int}{z:Value}(ht:IL P t=some (k,el))(hk:P.underlying k=some (.int kk))(hz:(P.info? el).bind (·.zero)=some z)(hx:ev e x=.map (some b))(hy:ev e y=.int kk n)(hb:w.heap[b]?=some o)(hM:Ki kk m o) :
  (execOp (ev e) ⟨dst,.lookup t x y false,ty,pos,af,g⟩).run P w=.ok (.value ((EW m n).getD z)) w:=by
 obtain⟨es,clock,rfl,hes,_⟩:=hM;have hf:=Kj kk n es.toList m 0 hes;have hgo:(getObj b).run P w=.ok (.map es clock) w:=by simp[getObj,Sem.run,hb]
 have hzr:(zeroValue el).run P w=.ok z w:=by
  cases hi:P.info? el with
  |none=>rw[hi]at hz;cases hz
  |some i=>rw[hi]at hz;simp at hz;simp[zeroValue,typeInfo,program,Sem.run,hi,hz]
 cases hm:EW m n with
 |none=>simp[execOp,Instr.lookup,AL (Ft ht),hx,hy,hgo,FR hk,Instr.findKey,AL hk,hf.1 hm,hzr]
 |some v =>
  obtain⟨i,hi,_⟩:=hf.2 v hm;simp[execOp,Instr.lookup,AL (Ft ht),hx,hy,hgo,FR hk,Instr.findKey,AL hk,hi]
theorem Ru{t k el:TypeId}{kk:IntKind}{x y:Operand}{b:Nat}{o:Obj}{m:List (Int × Value)}{n:Int}{z:Value}(hg:AJ ⟨dst,.lookup t x y false,ty,pos,af,g⟩ ops e=true)(ht:IL P t=some (k,el))(hk:P.underlying k=some (.int kk))(hz:(P.info? el).bind (·.zero)=some z)(hx:ev e x=.map (some b))(hy:ev e y=.int kk n)(hb:w.heap[b]?=some o)(hM:Ki kk m o)(h:AA P r ops Q rest (put e dst ((EW m n).getD z)) w):AA P r ops Q (⟨dst,.lookup t x y false,ty,pos,af,g⟩::rest) e w :=
 Bt hg rfl (Rr ht hk hz hx hy hb hM) h
theorem Agd{t k el:TypeId}{kk:IntKind}{x y:Operand}{b j:Nat}{o:Obj}{m:List (Int × Value)}{n:Int}{z:Value}(hg:AJ ⟨dst,.lookup t x y false,ty,pos,af,g⟩ ops e=true)(ht:IL P t=some (k,el))(hk:P.underlying k=some (.int kk))(hz:(P.info? el).bind (·.zero)=some z)(hx:ev e x=.map (some b))(hy:ev e y=.int kk n)(H:∀w,C w->Ctx w0 S w L)(hl:L[j]?=some (b,o))(hM:Ki kk m o)(h:Wt P ops C K rest (put e dst ((EW m n).getD z))):Wt P ops C K (⟨dst,.lookup t x y false,ty,pos,af,g⟩::rest) e :=
 Zb rfl hg (fun w hw=>Rr ht hk hz hx hy ((H w hw).get hl) hM) h
end
theorem Ctx.oldb{w0 w:World}{L:List (Nat × Obj)}{b:Nat}{o:Obj}(H:Ctx w0 [] w L)(h:w0.heap[b]?=some o):w.heap[b]?=some o:=by
 rw[H.ext.block b (Al h) (by simp)];exact h
theorem OS.rdV{w:World}{a:Option Addr}{n c:Nat}{t:TypeId}{full vs:List Value}(h:OS a n c 1 full vs)(hb:∀x∈ent a t full,w.heap[x.1]?=some x.2):Rd w a 1 (fun v:Value=>[v]) vs :=
 OS.rd1 (f:=fun v=>v) (by simpa using h) hb
theorem An8{w:World}{b t:Nat}{vs:List Value}(h:w.heap[b]?=some (Bl t vs)):Rd w (some ⟨b,0,none⟩) 1 (fun v:Value=>[v]) vs :=
 Rd.of_bl (r:=[]) h (by rw[qa3,Aaw (f:=fun v=>v)];simp) (fun x _=>rfl)
open Go Go.Maps Go.WideElems Go.RowKit Go.WideShapes
theorem Kl{w w':World}(h:Below w.heap.size w w'):Ext [] w w':=⟨h.os,h.tape,h.output,h.size,fun k hk _=>h.block k hk⟩
def KD:Value->Option (DataW Unit × List MemPlace):=fun _=>some (.nil,[])
theorem Zf{P:Program}{k:TypeId}(hk:P.underlying k=some (.int .i64)){w:World}{b:Nat}{m:List (Int × Value)}{o:Obj}(hb:w.heap[b]?=some o)(hM:Ki .i64 m o)(nd:(m.map (·.1)).Nodup)(hsz:m.length<=maxLen)(hr:∀p∈m,-9223372036854775808<=p.1/\p.1<=9223372036854775807) :
  ∃D0:DataW Unit,w.ownsMap P k KD b m.length D0/\(intKeys D0).Perm (m.map (·.1))/\Maps.size D0=m.length:=by
 obtain⟨es,clock,rfl,hes,hborn,hnd⟩:=hM
 have hlen:es.toList.length=m.length:=by
  have:=qab List.length hes
  simpa using this
 have hkeys:es.toList.map (·.key)=m.map fun p=>Value.int .i64 p.1:=by
  have:=qab (List.map Prod.fst) hes
  simpa[qbi,qcr]using this
 have hwf:∀x∈es.toList,∃a:Int,x.key=.int .i64 a/\(Lit.int .i64 a).wf=true/\keyOf P k x.key=some (.int .i64 a):=fun x hx=>by
  have h1:x.key∈es.toList.map (·.key):=qah.2 ⟨x,hx,rfl⟩;rw[hkeys,qah]at h1;obtain⟨p,hp,h2⟩:=h1
  have hw:(Lit.int .i64 p.1).wf=true:=by
   have:=hr p hp;simp only[Lit.wf,qao,qaq];exact⟨this.1,this.2⟩
  exact⟨p.1,h2.symm,hw,by rw[<-h2];exact keyOf_int_mk hk hw⟩
 have F:Fit P k KD es clock:=by
  refine⟨by rw[show es.size=es.toList.length by simp,hlen];exact hsz,⟨hborn,hnd,?_⟩,fun x hx=>?_⟩
  .rw[hkeys,qdo,qbs];rw[qdo,qbs]at nd;exact nd.imp fun h he=>h (by injection he)
  .obtain⟨a,_,_,h3⟩:=hwf x hx;exact⟨(.int .i64 a,.nil),by simp[rd,h3,KD]⟩
 have hrg:es.toList.map (rg P k KD)=(m.map fun p=>(Lit.int .i64 p.1,(DataW.nil:DataW Unit))):=by
  have h1:es.toList.map (rg P k KD)=(es.toList.map (·.key)).map fun v=>match v with | .int _ a=>(Lit.int .i64 a,(DataW.nil:DataW Unit))|_=>(.bool false,.nil):=by
   rw[qbi];refine qc0 fun x hx=>?_;obtain⟨a,h1,_,h3⟩:=hwf x hx;rw[rg_of (y:=(.int .i64 a,.nil)) (by simp[rd,h3,KD])];simp[h1]
  rw[h1,hkeys,qbi];rfl
 refine⟨.map ((es.toList.map (rg P k KD)).foldr DataW.insert []),⟨es,clock,hb,F,by rw[show es.size=es.toList.length by simp,hlen];exact qae _,rfl⟩,?_,?_⟩
 .show(((es.toList.map (rg P k KD)).foldr DataW.insert []).map fun p=>intOf p.1).Perm _;refine((sorted_perm _).map _).trans ?_;rw[hrg,qbi];exact List.Perm.of_eq (qc0 fun p _=>rfl)
 .show((es.toList.map (rg P k KD)).foldr DataW.insert []).length=_;rw[(sorted_perm _).length_eq,qai,hlen]
theorem Zg{w:World}{base:Nat}{e:TypeId}{v:Value}{xs:List Int}{n:Nat}(hn:n=xs.length)(h:w.ownsRow base e 1 v n (xs.map (Value.int .i64))) :
  ∃a c,v=.slice a xs.length c/\Rd w a 1 (fun x:Int=>[.int .i64 x]) xs/\xs.length<=c/\(xs=[]\/base<=(adr a).block):=by
 subst hn
 rcases h.2 with⟨rfl,hz⟩|⟨g,cap,cur,rfl,hbase,hg,hcap,_,hsz,hpre⟩
 .have:xs=[]:=qa4 hz
  subst this;exact⟨none,0,rfl,Rd.nil,qae _,.inl rfl⟩
 .refine⟨_,cap,rfl,?_,hcap,.inr hbase⟩
  have hO:OS (some ⟨g,0,none⟩) xs.length cap 1 cur.toList (xs.map (Value.int .i64)) :=
   ⟨fun p hp=>(by cases hp;rfl),fun hp=>(by cases hp),by simpa using hsz,hcap,hpre⟩
  exact hO.rd1 (t:=e) fun x hx=>by
   rw[LU rfl,qaa]at hx;subst hx;show w.heap[g]?=some (.cells cur.toList.toArray e (0,0));rw[Array.toArray_toList];exact hg
def kvE(e:MapEntry):Value × Value:=(e.key,e.val)
def kvP(kk:IntKind)(p:Int × Value):Value × Value:=(.int kk p.1,p.2)
def kvD:Value × Value->Int × Value
 |(.int _ n,v)=>(n,v)
 |(_,v)=>(0,v)
theorem Am9(kk:IntKind)(m:List (Int × Value)):(m.map (kvP kk)).map kvD=m:=by
 rw[qbi];exact List.map_id'' (fun _=>rfl) m
def VisO(kk:IntKind)(b:Nat)(m vis:List (Int × Value))(o it:Obj):Prop :=
 ∃(es:Array MapEntry) (clock:Nat) (ves rest:List MapEntry),o=.map es clock/\es.toList.map kvE=m.map (kvP kk)/\(∀e∈es.toList,e.born<clock)/\(es.toList.map (·.born)).Nodup /\
  it=.mapIter (some b) clock (ves.map (·.born)).toArray clock/\(ves++rest).Perm es.toList/\ves.map kvE=vis.map (kvP kk)
theorem VisO.perm{kk:IntKind}{b:Nat}{m vis:List (Int × Value)}{o it:Obj}(h:VisO kk b m vis o it):∃res,(vis++res).Perm m:=by
 obtain⟨es,clock,ves,rest,_,hes,_,_,_,hp,hv⟩:=h;have h1:=(hp.map kvE).map kvD;rw[qay,qay,hv,Am9,hes,Am9]at h1;exact⟨_,h1⟩
theorem VisO.le{kk:IntKind}{b:Nat}{m vis:List (Int × Value)}{o it:Obj}(h:VisO kk b m vis o it):vis.length<=m.length:=by
 obtain⟨res,h⟩:=h.perm;have:=h.length_eq;rw[qan]at this;omega
theorem VisO.mem{kk:IntKind}{b:Nat}{m vis:List (Int × Value)}{o it:Obj}(h:VisO kk b m vis o it):∀p∈vis,p∈m:=fun p hp=>by
 obtain⟨res,h⟩:=h.perm;exact h.mem_iff.1 (qa5 _ hp)
section
variable {P:Program}{r:Option Nat}{ops rest:List Oper}{Q:Exit->Env->World->Prop}{e:Env}{w w0:World}{S:List Nat}{L:List (Nat × Obj)}{dst dst2:Option Tmp}{ty ty2:TypeId}{pos pos2:String}{af af2:Array Edge}{g g2:Option (Nat × Bool)}
def EntO(kk:IntKind)(n st:Int)(m:List (Int × Value))(o:Obj):Prop :=
 ∃(es:Array MapEntry) (clock:Nat) (z:Value),o=.map (es.push { key := .int kk n,val:=z,born:=clock }) (clock+1)/\st=(clock:Nat)/\es.toList.map (fun e=>(e.key,e.val))=m.map (fun p=>(Value.int kk p.1,p.2))/\(∀e∈es.toList,e.born<clock)/\(es.toList.map (·.born)).Nodup
end
end Go.GV
