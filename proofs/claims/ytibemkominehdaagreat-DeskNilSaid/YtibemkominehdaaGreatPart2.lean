/- Part 2 of the proof. -/
import Derived.Test.YtibemkominehdaaGreatPart1
import Derived.Laws.Tables
import Derived.Laws.AppendOwn
import Derived.Laws.IdiomStrings
import Derived.Laws.Strings
import Derived.RangeFuncLeaves
import Derived.DefersIn
namespace Go.GV
open Go
section
variable {P:Program} {r:Option Nat} {ops rest:List Oper} {Q:Exit→Env→World→Prop} {e:Env} {w w0:World} {S:List Nat} {L:List (Nat × Obj)}
 {dst:Option Tmp} {ty:TypeId} {pos:String} {af:Array Edge} {g:Option (Nat × Bool)}
theorem Mv {o:Oper} {f:FuncId} {args:Array Value} {w':World} {R:Value→World→Prop} (hg:A1 o ops e=true) (hd:Ko o.op=true) (hrun:(execOp (ev e) o).run P w = .ok (.enter f args) w')
  (hc:Ret P f args w' R) (h:∀ v w'',R v w''→Al P r ops Q rest (put e o.dst v) w''):Al P r ops Q (o::rest) e w:=by
 unfold Al;rw [if_pos hg,Oper.semAt_eq r _ _ (FH hd),hrun];exact Ret.mono hc h
theorem Ai {f:FuncId} {args:Array Operand} {ats:Array TypeId} {l:List Value} {R:Value→World→Prop} (hf:Aq P f=true)
  (hc:Ret P f l.toArray w R) (ha:args.toList.map (ev e)=l) (h:∀ v w',R v w'→Al P r ops Q rest (put e dst v) w')  (hg:A1 ⟨dst,.call ⟨.value (.func f),args,ats⟩,ty,pos,af,g⟩ ops e=true:=by exact U):
  Al P r ops Q (⟨dst,.call ⟨.value (.func f),args,ats⟩,ty,pos,af,g⟩::rest) e w:=by
 refine Mv (R:=R) hg U ?_ hc h;have:args.map (ev e)=l.toArray:=by subst ha; apply Array.ext'; simp only [Array.toList_map]
 simp [execOp,resolve,ev,Deferred.ofValue,invoke,this,DY hf]
theorem Jo {f:FuncId} {fo:Operand} {fi ca:Array Value} {args:Array Operand} {ats:Array TypeId} {l:List Value} {R:Value→World→Prop} (hg:A1 ⟨dst,.call ⟨.value fo,args,ats⟩,ty,pos,af,g⟩ ops e=true)
  (hfo:ev e fo = .func (.func f) fi ca) (hf:Aq P f=true) (hc:Ret P f l.toArray w R) (ha:fi.toList++(args.toList.map (ev e)++ca.toList)=l) (h:∀ v w',R v w'→Al P r ops Q rest (put e dst v) w') :
  Al P r ops Q (⟨dst,.call ⟨.value fo,args,ats⟩,ty,pos,af,g⟩::rest) e w:=by
 refine Mv (R:=R) hg U ?_ hc h;have:fi++args.map (ev e)++ca=l.toArray:=by rw [← ha]; apply Array.ext'; simp
 simp [execOp,resolve,hfo,Deferred.ofValue,invoke,this,DY hf]
end
def ent (a:Option Addr) (t:TypeId) (full:List Value):List (Nat × Obj) :=
 match a with
 | none=>[]
 | some p=>[(p.block,Bl t full)]
structure OS (a:Option Addr) (n c s:Nat) (full l:List Value):Prop where
 zero:∀ p,a=some p→p=⟨p.block,0,none⟩
 none':a=none→c=0
 len:full.length=c*s
 le:n≤c
 pre:full.take (n*s)=l
theorem OS.nil {s:Nat}:OS none 0 0 s [] []:=⟨(fun _ h=>by cases h),fun _=>rfl,by simp,Nat.le_refl _,by simp⟩
theorem OS.llen {a:Option Addr} {n c s:Nat} {full l:List Value} (h:OS a n c s full l):l.length=n*s:=by
 rw [← h.pre,List.length_take,h.len];exact Nat.min_eq_left (Nat.mul_le_mul_right _ h.le)
theorem OS.form {a:Option Addr} {n c s:Nat} {full l:List Value} (h:OS a n c s full l) (hn:0<n):∃ b,a=some ⟨b,0,none⟩:=by
 cases a with
 | none=>have:=h.none' rfl; have:=h.le; omega
 | some p=>exact ⟨p.block,by rw [← h.zero p rfl]⟩
theorem OS.split {a:Option Addr} {n c s:Nat} {full l:List Value} (h:OS a n c s full l):full=l++full.drop (n*s):=by
 rw [← h.pre,List.take_append_drop]
theorem OS.rd {α:Type} {w:World} {a:Option Addr} {n c s:Nat} {t:TypeId} {full:List Value} {enc:α→List Value} {xs:List α} (h:OS a n c s full (xs.flatMap enc)) (hb:∀ x∈ent a t full,w.heap[x.1]? = some x.2)
  (hs:∀ x∈xs,(enc x).length=s) (h0:0<s):Rd w a s enc xs:=by
 cases a with
 | none =>
  cases xs with
  | nil=>exact Rd.nil
  | cons x xs =>
   exfalso;have h1:=h.llen;have h2:=h.none' rfl;have h3:=h.le;have h4:n=0:=by omega
   have h5:=hs x (by simp);subst h4;simp only [List.flatMap_cons,List.length_append,Nat.zero_mul] at h1;omega
 | some p =>
  have hz:=h.zero p rfl;obtain ⟨b,o,sp⟩:=p;simp only [Addr.mk.injEq,true_and] at hz;obtain ⟨rfl,rfl⟩:=hz;exact Rd.of_bl (r:=full.drop (n*s)) (hb (b,Bl t full) (by simp [ent])) h.split hs
theorem Ctx.callEnt {w0 w w':World} {S:List Nat} {L E:List (Nat × Obj)} (H:Ctx w0 S w L) (he:Ext [] w w') (hb:∀ x∈E,w'.heap[x.1]? = some x.2∧w.heap.size≤x.1) (hp:E.Pairwise fun x y=>x.1≠y.1) :
  Ctx w0 S w' (L++E):=by
 have H':=H.call he;refine ⟨H'.ext,?_,?_,?_⟩
 ·intro x hx
  rcases List.mem_append.1 hx with hx | hx
  ·exact H'.blk x hx
  ·exact (hb x hx).1
 ·rw [List.pairwise_append];refine ⟨H.nd,hp,fun x hx y hy=>?_⟩;have h1:=Bq (H.blk x hx);have h2:=(hb y hy).2;omega
 ·intro x hx
  rcases List.mem_append.1 hx with hx | hx
  ·exact H.own x hx
  ·exact .inr (Nat.le_trans H.size (hb x hx).2)
theorem Ctx.perm {w0 w:World} {S:List Nat} {L L':List (Nat × Obj)} (H:Ctx w0 S w L) (hp:L.Perm L'):Ctx w0 S w L' :=
 H.sub (fun _ hx=>hp.mem_iff.2 hx) (hp.pairwise H.nd (fun h=>Ne.symm h))
theorem Ctx.comm {w0 w:World} {S:List Nat} {L L':List (Nat × Obj)} (H:Ctx w0 S w (L++L')):Ctx w0 S w (L'++L):=H.perm List.perm_append_comm
theorem Ctx.left {w0 w:World} {S:List Nat} {L L':List (Nat × Obj)} (H:Ctx w0 S w (L++L')):Ctx w0 S w L :=
 H.sub (fun _ hx=>List.mem_append_left _ hx) (List.pairwise_append.1 H.nd).1
theorem Ctx.right {w0 w:World} {S:List Nat} {L L':List (Nat × Obj)} (H:Ctx w0 S w (L++L')):Ctx w0 S w L' :=
 H.sub (fun _ hx=>List.mem_append_right _ hx) (List.pairwise_append.1 H.nd).2.1
theorem Kv (need:Nat):∀ (k c:Nat),c≤2*need+768→Builtin.growBy need k c≤2*need+768
 | 0,c,h=>h
 | k+1,c,h=>by
  unfold Builtin.growBy
  split
  ·exact h
  ·exact Kv need k _ (by omega)
theorem G9 (need c:Nat) (h:c<need):Builtin.nextslicecap need c≤2*need+768:=by
 unfold Builtin.nextslicecap
 split
 ·omega
 ·split
  ·omega
  ·exact Kv need 4 c (by omega)
theorem D7 (z:Array Value) (n:Nat):(Builtin.zeroCells z n).size=n*z.size:=by simp [Builtin.zeroCells]
section
variable {P:Program} {w w0:World} {S:List Nat} {L:List (Nat × Obj)}
theorem BU {s m:Nat} {a:Option Addr} {c k:Nat} {l:List Value} (hl:l.length=m*s) (hc:∀ j v,l[j]? = some v→∃ p,a=some p∧w.cell? (p.add j)=some v) :
  (Builtin.firstCells s m (.slice a c k)).run P w = .ok l.toArray w:=by
 cases a with
 | none =>
  have h0:l=[]:=by
   cases l with
   | nil=>rfl
   | cons v l=>obtain ⟨p,hp,_⟩:=hc 0 v rfl; cases hp
  subst h0;simp [Builtin.firstCells]
 | some p =>
  have h:=Hz (P:=P) (w:=w) (p:=p) l 0 #[] (fun j v hv=>by
   obtain ⟨q,hq,hv⟩:=hc j v hv
   injection hq with hq
   subst hq
   rwa [Nat.zero_add])
  rw [hl] at h;simp [Builtin.firstCells,loadCells,h]
theorem ND {t t2 el el2 ty:TypeId} {s by':Nat} {zl:List Value} (hu:BJ P t=some el) (hu2:BJ P t2=some el2) (hs:Br P el=some s) (hby:CE P el=some by') (hz:B3 P el=some zl) (hzl:zl.length=s) (hpos:0<by')
  {a a2:Option Addr} {n c m c2:Nat} {full l new:List Value} (H:Ctx w0 S w (L++ent a el full)) (O:OS a n c s full l)
  (hn:new.length=m*s) (h1:∀ v∈new,AR v=true) (hc:∀ j v,new[j]? = some v→∃ p,a2=some p∧w.cell? (p.add j)=some v) (hbound:(2*(n+m)+768)*by'≤281474976710656) :
  ∃ a' c' full' w',(Builtin.append_ #[t,t2] ty #[.slice a n c,.slice a2 m c2]).run P w = .ok (.slice a' (n+m) c') w'∧Ctx w0 S w' (L++ent a' el full')∧OS a' (n+m) c' s full' (l++new):=by
 have hfc:=BU (P:=P) (w:=w) (s:=s) (m:=m) (a:=a2) (c:=m) (k:=c2) hn hc
 by_cases hfit:n+m≤c
 ·-- in place
  cases a with
  | none =>
   have h0:=O.none' rfl;have hm:m=0:=by omega
   have hn0:n=0:=by omega
   subst hm hn0 h0;have hnew:new=[]:=List.eq_nil_of_length_eq_zero (by omega);have hl:l=[]:=List.eq_nil_of_length_eq_zero (by have:=O.llen; omega);have hfull:full=[]:=List.eq_nil_of_length_eq_zero (by have:=O.len; omega);subst hnew hl hfull;refine ⟨none,0,[],w,?_,H,OS.nil⟩;simp [Builtin.append_,Az (B7 hu),Az (B7 hu2),B9 hs,Builtin.lenOf,hfc]
  | some p =>
   have hp:=O.zero p rfl;obtain ⟨b,o,sp⟩:=p;simp only [Addr.mk.injEq,true_and] at hp;obtain ⟨rfl,rfl⟩:=hp;have hk:(L++ent (some ⟨b,0,none⟩) el full)[L.length]? = some (b,Bl el full):=by simp [ent]
   have hb:=H.get hk;have hmul:(n+m)*s≤c*s:=Nat.mul_le_mul_right _ hfit;have hadd:(n+m)*s=n*s+m*s:=Nat.add_mul _ _ _;obtain ⟨w',hr,he,hb'⟩:=CO (P:=P) (o:=n*s) new full w 0 h1 hb (by rw [O.len]; omega);have hwr:=H.turn hk _ he hb';rw [show (L++ent (some ⟨b,0,none⟩) el full).set L.length (b,Bl el (over full (n*s+0) new))=L++ent (some ⟨b,0,none⟩) el (over full (n*s) new) from by simp [ent]] at hwr;refine ⟨some ⟨b,0,none⟩,c,over full (n*s) new,w',?_,hwr,?_⟩
   ·have hst:(storeCells (Addr.add ⟨b,0,none⟩ (n*s)) new).run P w = .ok () w':=by
     rw [add_none,Nat.zero_add]; exact hr
    simp [Builtin.append_,Az (B7 hu),Az (B7 hu2),B9 hs,Builtin.lenOf,hfc,hfit,hst]
   ·refine ⟨fun q hq=>by injection hq with hq; subst hq; rfl,(fun h=>by cases h),by rw [DG]; exact O.len,hfit,?_⟩;have hsp:=O.split;have hll:=O.llen;have htl:(full.drop (n*s)).length=c*s - n*s:=by rw [List.length_drop,O.len]
    have hcut:full.drop (n*s)=(full.drop (n*s)).take (m*s)++(full.drop (n*s)).drop (m*s):=by rw [List.take_append_drop]
    have hover:∀ (vs a b c:List Value),b.length=vs.length→over (a++b++c) a.length vs=a++vs++c:=by
     intro vs
     induction vs with
     | nil=>intro a b c hb; have:b=[]:=List.eq_nil_of_length_eq_zero (by simpa using hb); subst this; simp [over]
     | cons v vs ih =>
      intro a b c hb
      cases b with
      | nil=>simp at hb
      | cons x b =>
       have:=ih (a++[v]) b c (by simpa using hb);simp only [over];rw [show (a++x::b++c).set a.length v=a++[v]++b++c from by simp];rw [show a.length+1=(a++[v]).length from by simp,this];simp
    have hgoal:over full (n*s) new=l++new++(full.drop (n*s)).drop (m*s):=by
     have h4:=hover new l ((full.drop (n*s)).take (m*s)) ((full.drop (n*s)).drop (m*s)) (by rw [List.length_take,htl,hn]; omega);rw [List.append_assoc,← hcut,← hsp,hll] at h4;exact h4
    rw [hgoal,List.take_left' (by rw [List.length_append,hll,hn]; omega)]
 ·-- a new block
  have hfit':c<n+m:=by omega
  have hncap:=G9 (n+m) c hfit'
  have hbig:¬ (281474976710656:Int)<((Builtin.nextslicecap (n+m) c*by':Nat):Int):=by
   have:Builtin.nextslicecap (n+m) c*by'≤(2*(n+m)+768)*by':=Nat.mul_le_mul_right _ hncap
   omega
  have hnm:n+m≤281474976710656:=by
   have h1:(2*(n+m)+768)*1≤(2*(n+m)+768)*by':=Nat.mul_le_mul_left _ hpos
   omega
  -- the capacity that is drawn
  generalize hq:(Question.appendCap (n+m) c el).cut (w.tape w.drawn (Question.appendCap (n+m) c el))=cap;have hcap:n+m≤cap:=by rw [← hq]; unfold Question.cut; exact Nat.le_add_right _ _
  obtain ⟨zv,hzr,hzc⟩:=EN (P:=P) hz w.drew;have hzs:zv.cells.size=s:=by rw [← hzl,← hzc]; simp
  let full':=l++new++(Builtin.zeroCells zv.cells (cap - (n+m))).toList
  have hH:Ctx w0 S (w.drew.alloc (Bl el full')) ((w.drew.heap.size,Bl el full')::L):=by
   have:=(H.left.drew).alloc (Bl el full');exact this
  refine ⟨some ⟨w.drew.heap.size,0,none⟩,cap,full',w.drew.alloc (Bl el full'),?_,?_,?_⟩
  ·have hforced:(Question.appendCap (n+m) c el).forced=false:=rfl
   have hby2:∃ i,P.info? el=some i∧i.bytes=by':=by
    unfold CE at hby
    cases hi:P.info? el with
    | none=>rw [hi] at hby; cases hby
    | some i=>rw [hi] at hby; simp at hby; exact ⟨i,rfl,hby⟩
   obtain ⟨i,hi,hib⟩:=hby2;have hti:∀ w,(typeInfo el).run P w = .ok i w:=fun w=>by simp [typeInfo,program,Sem.run,hi]
   have hold':(Builtin.firstCells s n (.slice a n c)).run P w.drew = .ok l.toArray w.drew:=by
    refine BU (O.llen) (fun j v hv=>?_);have hjl:j<l.length:=(List.getElem?_eq_some_iff.1 hv).1
    have hn0:0<n:=by
     rcases Nat.eq_zero_or_pos n with h | h
     ·have h5:=O.llen; rw [h,Nat.zero_mul] at h5; omega
     ·exact h
    obtain ⟨b,rfl⟩:=O.form hn0;refine ⟨_,rfl,?_⟩;have hk:(L++ent (some ⟨b,0,none⟩) el full)[L.length]? = some (b,Bl el full):=by simp [ent]
    show w.cell? _=_;rw [add_none,Nat.zero_add,A6 (H.get hk),O.split,List.getElem?_append_left hjl];exact hv
   have hfc':(Builtin.firstCells s m (.slice a2 m c2)).run P w.drew = .ok new.toArray w.drew:=BU hn hc;have hroom:∀ k w,(askRoom k).run P w = .ok () w:=fun k w=>by unfold askRoom; split <;> rfl
   have hby0:¬ by'=0:=by omega
   have hnn:(Builtin.append_ #[t,t2] ty #[.slice a n c,.slice a2 m c2]).run P w = .ok (.slice (some ⟨w.drew.heap.size,0,none⟩) (n+m) cap) (w.drew.alloc (.cells (l.toArray++(new.toArray++Builtin.zeroCells zv.cells (cap - (n+m)))) el)):=by
    have hb3:¬ 281474976710656<Builtin.nextslicecap (n+m) c*by':=by omega
    simp [Builtin.append_,Az (B7 hu),Az (B7 hu2),B9 hs,Builtin.lenOf,hfc',hold',hfit,hti,hib,hb3,hby0,hforced,hq,hroom,hzr,newRow,newObj,Sem.run]
   rw [hnn]
   have harr:l.toArray++(new.toArray++Builtin.zeroCells zv.cells (cap - (n+m)))=full'.toArray:=by
    apply Array.ext'; simp [full']
   rw [harr];rfl
  ·exact hH.perm (List.perm_append_comm (l₁:=[(w.drew.heap.size,Bl el full')]) (l₂:=L))
  ·refine ⟨(fun q hq=>by injection hq with hq; subst hq; rfl),(fun h=>by cases h),?_,hcap,?_⟩
   ·show (l++new++(Builtin.zeroCells zv.cells (cap - (n+m))).toList).length=cap*s;rw [List.length_append,List.length_append,O.llen,hn,Array.length_toList,D7,hzs,← Nat.add_mul,← Nat.add_mul]
    congr 1
    omega
   ·show (l++new++(Builtin.zeroCells zv.cells (cap - (n+m))).toList).take ((n+m)*s)=l++new;rw [List.take_left' (by rw [List.length_append,O.llen,hn,Nat.add_mul])]
end
section
variable {P:Program} {r:Option Nat} {ops rest:List Oper} {Q:Exit→Env→World→Prop} {e:Env} {w w0:World} {S:List Nat} {L:List (Nat × Obj)}
 {dst:Option Tmp} {ty:TypeId} {pos:String} {af:Array Edge} {g:Option (Nat × Bool)}
theorem Ei {t t2 el el2:TypeId} {x y:Operand} {s by':Nat} {zl:List Value} (hg:A1 ⟨dst,.call ⟨.builtin .append,#[x,y],#[t,t2]⟩,ty,pos,af,g⟩ ops e=true)
  (hu:BJ P t=some el) (hu2:BJ P t2=some el2) (hs:Br P el=some s) (hby:CE P el=some by') (hz:B3 P el=some zl) (hzl:zl.length=s)
  {a a2:Option Addr} {n c m c2:Nat} {full l:List Value} (new:List Value) (hx:ev e x = .slice a n c) (hy:ev e y = .slice a2 m c2) (H:Ctx w0 S w (L++ent a el full)) (O:OS a n c s full l)
  (hn:new.length=m*s) (h1:∀ v∈new,AR v=true) (hc:∀ j v,new[j]? = some v→∃ p,a2=some p∧w.cell? (p.add j)=some v)
  (h:∀ a' c' full' w',Ctx w0 S w' (L++ent a' el full')→OS a' (n+m) c' s full' (l++new)→Al P r ops Q rest (put e dst (.slice a' (n+m) c')) w')  (hpos:0<by':=by decide) (hbound:(2*(n+m)+768)*by'≤281474976710656:=by omega):
  Al P r ops Q (⟨dst,.call ⟨.builtin .append,#[x,y],#[t,t2]⟩,ty,pos,af,g⟩::rest) e w:=by
 obtain ⟨a',c',full',w',hr,H',O'⟩:=ND (ty:=ty) hu hu2 hs hby hz hzl hpos H O hn h1 hc hbound (c2:=c2);exact Be hg U (by simp [execOp,resolve,invoke,builtin,hx,hy,hr]) (h a' c' full' w' H' O')
theorem Cn {t el:TypeId} {x:Operand} {s:Nat} {zl:List Value} (l:List Value) (v:Value)
  (hu:BJ P t=some el) (hs:Br P el=some s) (hz:B3 P el=some zl) (hzl:zl.length=s) (hx:ev e x=v) (hl:v.cells=l.toArray) (hll:l.length=s) (H:Ctx w0 S w L)
  (h:∀ b w',w.heap.size=b→Ctx w0 S w' ((b,Bl el l)::L)→Al P r ops Q rest (put e dst (.slice (some ⟨b,0,none⟩) 1 1)) w')  (hg:A1 ⟨dst,.buildSlice t 1 #[(0,x)],ty,pos,af,g⟩ ops e=true:=by exact U) (hs0:0<s:=by decide) (hs1:s≤16777216:=by decide):
  Al P r ops Q (⟨dst,.buildSlice t 1 #[(0,x)],ty,pos,af,g⟩::rest) e w:=by
 obtain ⟨z,hz1,hz2⟩:=EN hz w;have hzs:z.cells.size=s:=by rw [← hzl,← hz2]; simp
 refine Be (w':=w.alloc (Bl el l)) (v := .slice (some ⟨w.heap.size,0,none⟩) 1 1) hg U ?_ (h _ _ U (H.alloc _))
 have hfill:∀ cs:Array Value,cs.size=s→Instr.fill (fun i=>some (i*s,s)) cs [(0,v)]=some l.toArray:=by
  intro cs hcs
  have hfold:∀ (vs:List Value) (k:Nat) (c0:Array Value),c0.size=k+vs.length→(vs.zipIdx k).foldl (fun cs (x:Value × Nat)=>cs.setIfInBounds (0+x.2) x.1) c0=((c0.toList.take k)++vs).toArray:=by
   intro vs
   induction vs with
   | nil=>intro k c0 h; simp only [List.zipIdx_nil,List.foldl_nil,List.append_nil]; apply Array.ext'; simp only [List.length_nil] at h; simp; rw [List.take_of_length_le (by simp; omega)]
   | cons u vs ih =>
    intro k c0 h;simp only [List.zipIdx_cons,List.foldl_cons];rw [ih (k+1) _ (by simp at h ⊢; omega)]
    congr 1
    simp only [Nat.zero_add,Array.toList_setIfInBounds];have hk:k<c0.toList.length:=by simp at h ⊢; omega
    rw [List.take_set,List.take_succ_eq_append_getElem hk];simp [List.set_append];rw [if_neg (by simp at h; omega)];have:k - min k c0.size=0:=by simp at h; omega
    rw [this]; simp
  have h2:=hfold l 0 cs (by omega);simp only [Instr.fill,hl,List.size_toArray,hll,Nat.zero_mul,Nat.zero_add,hcs];rw [if_neg (by simp)]
  have h3:Array.foldl (fun cs (x:Value × Nat)=>cs.setIfInBounds (0+x.2) x.1) cs l.toArray.zipIdx=(l.zipIdx 0).foldl (fun cs (x:Value × Nat)=>cs.setIfInBounds (0+x.2) x.1) cs:=by
   rw [← Array.foldl_toList]; simp
  simp only [Nat.zero_add] at h2 h3;rw [h3,h2];simp
 have hne:¬ s=0:=by omega
 have hbig:¬ 16777216<s:=by omega
 simp [execOp,Instr.buildSlice,Az (B7 hu),B9 hs,hne,hbig,hz1,hx,hfill,newRow,newObj,Sem.run];rfl
theorem NE {P:Program} {w:World} {k:IntKind} {i:Int} {y:Nat} {code:BoundsCode} (h0:0≤i) (h1:i≤y):(Instr.sliceBound (.int k i) y code).run P w = .ok i.toNat w:=by
 simp [Instr.sliceBound,asIntOf,h0,h1]
def Jp (a:Option Addr) (c i s:Nat):Option Addr:=if c=i then a else a.map (·.add (i*s))
theorem Mw {t el:TypeId} {x y:Operand} {s:Nat} {a:Option Addr} {n c:Nat} {k:IntKind} {i:Int} (hg:A1 ⟨dst,.slice t x (some y) none none,ty,pos,af,g⟩ ops e=true)
  (hu:BJ P t=some el) (hs:Br P el=some s) (hx:ev e x = .slice a n c) (hy:ev e y = .int k i)
  (h:Al P r ops Q rest (put e dst (.slice (Jp a c i.toNat s) (n - i.toNat) (c - i.toNat))) w)  (h0:0≤i:=by omega) (h1:i≤n:=by omega):
  Al P r ops Q (⟨dst,.slice t x (some y) none none,ty,pos,af,g⟩::rest) e w :=
 Be hg rfl (by simp [execOp,Instr.sliceAt,Instr.slice,Instr.sliceBounds,Az (B7 hu),hx,hy,NE h0 h1,B9 hs,Jp]) h
theorem Ke {t el:TypeId} {x y z:Operand} {s:Nat} {a:Option Addr} {n c:Nat} {k k2:IntKind} {i j:Int} (hg:A1 ⟨dst,.slice t x (some y) (some z) none,ty,pos,af,g⟩ ops e=true)
  (hu:BJ P t=some el) (hs:Br P el=some s) (hx:ev e x = .slice a n c) (hy:ev e y = .int k i) (hz:ev e z = .int k2 j)
  (h:Al P r ops Q rest (put e dst (.slice (Jp a c i.toNat s) (j.toNat - i.toNat) (c - i.toNat))) w)  (h0:0≤i:=by omega) (h1:i≤j:=by omega) (h2:j≤c:=by omega):
  Al P r ops Q (⟨dst,.slice t x (some y) (some z) none,ty,pos,af,g⟩::rest) e w :=
 Be hg rfl (by
  have h3:i≤(j.toNat:Nat):=by omega
  simp [execOp,Instr.sliceAt,Instr.slice,Instr.sliceBounds,Az (B7 hu),hx,hy,hz,NE (show 0≤j from by omega) h2,NE h0 h3,B9 hs,Jp]) h
theorem PZ {P:Program} {t el:TypeId} (hu:BJ P t=some el) (d:Nat) (a:Option Addr) (n c c2:Nat) (w:World) :
  (Op.equalIn (d+1) t (.slice a n c) (.slice none 0 c2)).run P w = .ok a.isNone w:=by
 cases a <;> simp [Op.equalIn,Az (B7 hu)]
theorem NF {P:Program} {t el:TypeId} (hu:BJ P t=some el) (a:Option Addr) (n c c2:Nat) (w:World):(binOp .eql t (.slice a n c) (.slice none 0 c2)).run P w = .ok (.bool a.isNone) w:=by
 simp only [binOp,Sem.run_bind,Op.equal,Op.maxDepth,PZ hu 9999];cases a <;> rfl
theorem EO {t t2:TypeId} {x:Operand} {a:Option Addr} {n c c2:Nat} {el:TypeId} (hg:A1 ⟨dst,.binOp .eql t x (.const (.slice none 0 c2)) t2,ty,pos,af,g⟩ ops e=true) (hu:BJ P t=some el) (hx:ev e x = .slice a n c)
  (h:Al P r ops Q rest (put e dst (.bool a.isNone)) w):Al P r ops Q (⟨dst,.binOp .eql t x (.const (.slice none 0 c2)) t2,ty,pos,af,g⟩::rest) e w :=
 Be hg rfl (by
  have hq:eqGuard .eql t x (.const (.slice none 0 c2)) (.slice a n c) (.slice none 0 c2)=pure ():=rfl;have he:ev e (.const (.slice none 0 c2)) = .slice none 0 c2:=rfl
  simp only [execOp,hx,he,hq,Sem.run_bind,Sem.run_pure,Result.andThen_ok,NF hu]) h
end
end Go.GV
namespace Go.GV
open Go
section
variable {P:Program} {r:Option Nat} {ops rest:List Oper} {Q:Exit→Env→World→Prop} {e:Env} {w w0:World} {S:List Nat} {L:List (Nat × Obj)}
 {dst:Option Tmp} {ty:TypeId} {pos:String} {af:Array Edge} {g:Option (Nat × Bool)} {C:World→Prop} {K:Env→Prop}
theorem DH {o:Oper} {v:Value} (hg:A1 o ops e=true) (hrun:∀ w,C w→(execOp (ev e) o).run P w = .ok (.value v) w) (h:Wq P ops C K rest (put e o.dst v)):Wq P ops C K (o::rest) e:=by
 unfold Wq;rw [if_pos hg];exact ⟨v,fun w hw=>by rw [hrun w hw]; exact ⟨rfl,rfl⟩,h⟩
theorem AF {o:Oper} (hg:A1 o ops e=false) (h:Wq P ops C K rest (put e o.dst undef)):Wq P ops C K (o::rest) e:=by
 unfold Wq;rw [if_neg (by rw [hg]; simp)];exact h
theorem BZ (h:K e):Wq P ops C K [] e:=h
theorem Mx {l:List Oper} (d:Tmp) {b:Bool} (c:Bool) (hd:e.g d = .bool b) (hb:b=c) (h:Wq P ops C K l (put e (some d) (.bool c))):Wq P ops C K l e:=by
 subst hb;rw [Dy hd] at h;exact h
theorem Dh {l:List Oper} (d:Tmp) {b:Bool} (hd:e.g d = .bool b) (h1:b=true→Wq P ops C K l (put e (some d) (.bool true)))
  (h2:b=false→Wq P ops C K l (put e (some d) (.bool false))):Wq P ops C K l e:=by
 cases b with
 | true=>exact Mx d true hd rfl (h1 rfl)
 | false=>exact Mx d false hd rfl (h2 rfl)
theorem CR {t:TypeId} {x:Operand} {p:Addr} {v:Value} (ha:Cb P t=some false) (hx:ev e x = .pointer (some p)) (hc:∀ w,C w→w.cell? p=some v)
  (h:Wq P ops C K rest (put e dst v)) (hg:A1 ⟨dst,.load t x,ty,pos,af,g⟩ ops e=true:=by exact U):Wq P ops C K (⟨dst,.load t x,ty,pos,af,g⟩::rest) e :=
 DH hg (fun w hw=>by simp [execOp,hx,Instr.loadAt,Instr.sureAddr,Hy ha (hc w hw)]) h
theorem DS {t t2:TypeId} {x:Operand} {b i k:Nat} {l:List Value} {v:Value} (ha:Cb P t=some false) (hx:ev e x = .pointer (some ⟨b,i,none⟩))
  (H:∀ w,C w→Ctx w0 S w L) (hk:L[k]? = some (b,Bl t2 l)) (hc:l[i]? = some v)
  (h:Wq P ops C K rest (put e dst v)) (hg:A1 ⟨dst,.load t x,ty,pos,af,g⟩ ops e=true:=by exact U):Wq P ops C K (⟨dst,.load t x,ty,pos,af,g⟩::rest) e :=
 CR (hg:=hg) ha hx (fun w hw=>by rw [A6 ((H w hw).get hk)]; exact hc) h
theorem Gy {t:TypeId} {x:Operand} {b o s:Nat} (l:List Value) (hg:A1 ⟨dst,.load t x,ty,pos,af,g⟩ ops e=true) (ha:Cb P t=some true) (hs:Br P t=some s) (hx:ev e x = .pointer (some ⟨b,o,none⟩))
  (hl:l.length=s) (hc:∀ w,C w→∀ j v,l[j]? = some v→w.cell? ⟨b,o+j,none⟩=some v)
  (h:Wq P ops C K rest (put e dst (.agg l.toArray))):Wq P ops C K (⟨dst,.load t x,ty,pos,af,g⟩::rest) e :=
 DH hg (fun w hw=>by simp [execOp,hx,Instr.loadAt,Instr.sureAddr,Eh ha hs hl (hc w hw)]) h
theorem VO {t t2:TypeId} {x:Operand} {b s k:Nat} {l:List Value} (hg:A1 ⟨dst,.load t x,ty,pos,af,g⟩ ops e=true) (ha:Cb P t=some true) (hs:Br P t=some s) (hx:ev e x = .pointer (some ⟨b,0,none⟩))
  (H:∀ w,C w→Ctx w0 S w L) (hk:L[k]? = some (b,Bl t2 l)) (hl:l.length=s)
  (h:Wq P ops C K rest (put e dst (.agg l.toArray))):Wq P ops C K (⟨dst,.load t x,ty,pos,af,g⟩::rest) e :=
 Gy l hg ha hs hx hl (fun w hw j v hv=>by rw [A6 ((H w hw).get hk),Nat.zero_add]; exact hv) h
section
variable {t t2:TypeId} {x y:Operand} {k:IntKind} {a b:Int}
theorem Vk (hg:A1 ⟨dst,.binOp .lss t x y t2,ty,pos,af,g⟩ ops e=true) (hx:ev e x = .int k a) (hy:ev e y = .int k b) (h:Wq P ops C K rest (put e dst (.bool (decide (a<b))))) :
  Wq P ops C K (⟨dst,.binOp .lss t x y t2,ty,pos,af,g⟩::rest) e:=DH hg (fun w _=>Bw hx hy (by simp [binOp,Op.intCmp])) h
theorem Kw (hg:A1 ⟨dst,.binOp .leq t x y t2,ty,pos,af,g⟩ ops e=true) (hx:ev e x = .int k a) (hy:ev e y = .int k b) (h:Wq P ops C K rest (put e dst (.bool (decide (a≤b))))) :
  Wq P ops C K (⟨dst,.binOp .leq t x y t2,ty,pos,af,g⟩::rest) e:=DH hg (fun w _=>Bw hx hy (by simp [binOp,Op.intCmp])) h
theorem Vl (hg:A1 ⟨dst,.binOp .gtr t x y t2,ty,pos,af,g⟩ ops e=true) (hx:ev e x = .int k a) (hy:ev e y = .int k b) (h:Wq P ops C K rest (put e dst (.bool (decide (b<a))))) :
  Wq P ops C K (⟨dst,.binOp .gtr t x y t2,ty,pos,af,g⟩::rest) e:=DH hg (fun w _=>Bw hx hy (by simp [binOp,Op.intCmp])) h
theorem Rw (hg:A1 ⟨dst,.binOp .neq t x y t2,ty,pos,af,g⟩ ops e=true) (hx:ev e x = .int k a) (hy:ev e y = .int k b) (h:Wq P ops C K rest (put e dst (.bool (!decide (a=b))))) :
  Wq P ops C K (⟨dst,.binOp .neq t x y t2,ty,pos,af,g⟩::rest) e :=
 DH hg (fun w _=>Bw hx hy (v := .bool (!decide (a=b))) (by simp [binOp,Op.intCmp]; rfl)) h
theorem Uy {x y:Operand} {a b:Bool} {t t2:TypeId} (ht:P.underlying t=some .bool) (hg:A1 ⟨dst,.binOp .neq t x y t2,ty,pos,af,g⟩ ops e=true) (hx:ev e x = .bool a) (hy:ev e y = .bool b) (h:Al P r ops Q rest (put e dst (.bool (!(a == b)))) w) :
  Al P r ops Q (⟨dst,.binOp .neq t x y t2,ty,pos,af,g⟩::rest) e w:=by
 refine Be hg U ?_ h;have hq:eqGuard .neq t x y (.bool a) (.bool b)=pure ():=rfl;have he:∀ d w,(Op.equalIn (d+1) t (.bool a) (.bool b)).run P w = .ok (a == b) w:=fun d w=>by simp [Op.equalIn,Az ht]
 simp only [execOp,hx,hy,hq,Sem.run_bind,Sem.run_pure,Result.andThen_ok,binOp,Op.equal,Op.maxDepth,he 9999]
theorem A3 (hx:ev e x = .int .i64 a) (hy:ev e y = .int .i64 b)
  (h:Al P r ops Q rest (put e dst (.int .i64 (a+b))) w) (hg:A1 ⟨dst,.binOp .add t x y t2,ty,pos,af,g⟩ ops e=true:=by exact U) (h1: -9223372036854775808≤a+b:=by omega) (h2:a+b≤9223372036854775807:=by omega):Al P r ops Q (⟨dst,.binOp .add t x y t2,ty,pos,af,g⟩::rest) e w:=Be hg rfl (Bw hx hy (by simp [binOp,Op.intArith,C4 (k := .i64) (n:=a+b) h1 h2])) h
theorem Ej (hg:A1 ⟨dst,.binOp .add t x y t2,ty,pos,af,g⟩ ops e=true) (hx:ev e x = .int .i64 a) (hy:ev e y = .int .i64 b)
  (h:Wq P ops C K rest (put e dst (.int .i64 (a+b)))) (h1: -9223372036854775808≤a+b:=by omega) (h2:a+b≤9223372036854775807:=by omega):Wq P ops C K (⟨dst,.binOp .add t x y t2,ty,pos,af,g⟩::rest) e:=DH hg (fun w _=>Bw hx hy (by simp [binOp,Op.intArith,C4 (k := .i64) (n:=a+b) h1 h2])) h
theorem AN (hx:ev e x = .int .i64 a) (hy:ev e y = .int .i64 b)
  (h:Al P r ops Q rest (put e dst (.int .i64 (a - b))) w) (hg:A1 ⟨dst,.binOp .sub t x y t2,ty,pos,af,g⟩ ops e=true:=by exact U) (h1: -9223372036854775808≤a - b:=by omega) (h2:a - b≤9223372036854775807:=by omega):Al P r ops Q (⟨dst,.binOp .sub t x y t2,ty,pos,af,g⟩::rest) e w:=Be hg rfl (Bw hx hy (by simp [binOp,Op.intArith,C4 (k := .i64) (n:=a - b) h1 h2])) h
theorem EP (hg:A1 ⟨dst,.binOp .sub t x y t2,ty,pos,af,g⟩ ops e=true) (hx:ev e x = .int .i64 a) (hy:ev e y = .int .i64 b)
  (h:Wq P ops C K rest (put e dst (.int .i64 (a - b)))) (h1: -9223372036854775808≤a - b:=by omega) (h2:a - b≤9223372036854775807:=by omega):Wq P ops C K (⟨dst,.binOp .sub t x y t2,ty,pos,af,g⟩::rest) e:=DH hg (fun w _=>Bw hx hy (by simp [binOp,Op.intArith,C4 (k := .i64) (n:=a - b) h1 h2])) h
theorem C1 (hx:ev e x = .int .i64 a) (hy:ev e y = .int .i64 b)
  (h:Al P r ops Q rest (put e dst (.int .i64 (a*b))) w) (hg:A1 ⟨dst,.binOp .mul t x y t2,ty,pos,af,g⟩ ops e=true:=by exact U) (h1: -9223372036854775808≤a*b:=by omega) (h2:a*b≤9223372036854775807:=by omega):Al P r ops Q (⟨dst,.binOp .mul t x y t2,ty,pos,af,g⟩::rest) e w:=Be hg rfl (Bw hx hy (by simp [binOp,Op.intArith,C4 (k := .i64) (n:=a*b) h1 h2])) h
theorem BP {s d:TypeId} {ds:TypeDesc} (hx:ev e x = .int k a) (hs:P.underlying s=some ds) (hd:P.underlying d=some (.int .i64)) (h:Al P r ops Q rest (put e dst (.int .i64 a)) w) (hg:A1 ⟨dst,.convert s d x,ty,pos,af,g⟩ ops e=true:=by exact U) (h1: -9223372036854775808≤a:=by omega) (h2:a≤9223372036854775807:=by omega):Al P r ops Q (⟨dst,.convert s d x,ty,pos,af,g⟩::rest) e w:=IP hg hx hs hd h1 h2 h
theorem GA {s d:TypeId} {ds:TypeDesc} (hg:A1 ⟨dst,.convert s d x,ty,pos,af,g⟩ ops e=true) (hx:ev e x = .int k a) (hs:P.underlying s=some ds) (hd:P.underlying d=some (.int .u8)) (h:Al P r ops Q rest (put e dst (.int .u8 a)) w) (h1:0≤a:=by omega) (h2:a≤255:=by omega):Al P r ops Q (⟨dst,.convert s d x,ty,pos,af,g⟩::rest) e w:=IP hg hx hs hd h1 h2 h
theorem NG (hg:A1 ⟨dst,.binOp .add t x y t2,ty,pos,af,g⟩ ops e=true) (hx:ev e x = .int .u32 a) (hy:ev e y = .int .u32 b)
  (h:Al P r ops Q rest (put e dst (.int .u32 (a+b))) w) (h1:0≤a+b:=by omega) (h2:a+b≤4294967295:=by omega):Al P r ops Q (⟨dst,.binOp .add t x y t2,ty,pos,af,g⟩::rest) e w:=Be hg rfl (Bw hx hy (by simp [binOp,Op.intArith,C4 (k := .u32) (n:=a+b) h1 h2])) h
theorem It {s d:TypeId} {ds:TypeDesc} (hg:A1 ⟨dst,.convert s d x,ty,pos,af,g⟩ ops e=true) (hx:ev e x = .int k a) (hs:P.underlying s=some ds) (hd:P.underlying d=some (.int .u32)) (h1:0≤a) (h2:a≤4294967295) (h:Al P r ops Q rest (put e dst (.int .u32 a)) w):Al P r ops Q (⟨dst,.convert s d x,ty,pos,af,g⟩::rest) e w:=IP hg hx hs hd h1 h2 h
theorem Jq (hg:A1 ⟨dst,.binOp .add t x y t2,ty,pos,af,g⟩ ops e=true) (hx:ev e x = .int .u64 a) (hy:ev e y = .int .u64 b)
  (h:Al P r ops Q rest (put e dst (.int .u64 (a+b))) w) (h1:0≤a+b:=by omega) (h2:a+b≤18446744073709551615:=by omega):Al P r ops Q (⟨dst,.binOp .add t x y t2,ty,pos,af,g⟩::rest) e w:=Be hg rfl (Bw hx hy (by simp [binOp,Op.intArith,C4 (k := .u64) (n:=a+b) h1 h2])) h
theorem NH (hg:A1 ⟨dst,.binOp .sub t x y t2,ty,pos,af,g⟩ ops e=true) (hx:ev e x = .int .u64 a) (hy:ev e y = .int .u64 b)
  (h:Al P r ops Q rest (put e dst (.int .u64 (a - b))) w) (h1:0≤a - b:=by omega) (h2:a - b≤18446744073709551615:=by omega):Al P r ops Q (⟨dst,.binOp .sub t x y t2,ty,pos,af,g⟩::rest) e w:=Be hg rfl (Bw hx hy (by simp [binOp,Op.intArith,C4 (k := .u64) (n:=a - b) h1 h2])) h
theorem NI (hg:A1 ⟨dst,.binOp .mul t x y t2,ty,pos,af,g⟩ ops e=true) (hx:ev e x = .int .u64 a) (hy:ev e y = .int .u64 b)
  (h:Al P r ops Q rest (put e dst (.int .u64 (a*b))) w) (h1:0≤a*b:=by omega) (h2:a*b≤18446744073709551615:=by omega):Al P r ops Q (⟨dst,.binOp .mul t x y t2,ty,pos,af,g⟩::rest) e w:=Be hg rfl (Bw hx hy (by simp [binOp,Op.intArith,C4 (k := .u64) (n:=a*b) h1 h2])) h
theorem Cv {s d:TypeId} {ds:TypeDesc} (hx:ev e x = .int k a) (hs:P.underlying s=some ds) (hd:P.underlying d=some (.int .u64)) (h:Al P r ops Q rest (put e dst (.int .u64 a)) w) (hg:A1 ⟨dst,.convert s d x,ty,pos,af,g⟩ ops e=true:=by exact U) (h1:0≤a:=by omega) (h2:a≤18446744073709551615:=by omega):Al P r ops Q (⟨dst,.convert s d x,ty,pos,af,g⟩::rest) e w:=IP hg hx hs hd h1 h2 h
end
theorem Lx {x:Operand} (hg:A1 ⟨dst,.move x,ty,pos,af,g⟩ ops e=true) (v:Value) (hx:ev e x=v) (h:Wq P ops C K rest (put e dst v)) :
  Wq P ops C K (⟨dst,.move x,ty,pos,af,g⟩::rest) e:=DH hg (fun w _=>by simp [execOp,hx]) h
theorem Rz {x:Operand} (hg:A1 ⟨dst,.assign x,ty,pos,af,g⟩ ops e=true) (v:Value) (hx:ev e x=v) (h:Wq P ops C K rest (put e dst v)) :
  Wq P ops C K (⟨dst,.assign x,ty,pos,af,g⟩::rest) e:=DH hg (fun w _=>by simp [execOp,hx]) h
theorem Cq {x:Operand} {p:Addr} (hx:ev e x = .pointer (some p)) (h:Wq P ops C K rest (put e dst (.pointer (some p))))  (hg:A1 ⟨dst,.nilCheck x,ty,pos,af,g⟩ ops e=true:=by exact U):
  Wq P ops C K (⟨dst,.nilCheck x,ty,pos,af,g⟩::rest) e:=DH hg (fun w _=>by simp [execOp,hx]) h
theorem Bc {t el:TypeId} {x y:Operand} {b o n c s:Nat} {k:IntKind} {i:Int} (hu:BJ P t=some el) (hs:Br P el=some s)
  (hx:ev e x = .slice (some ⟨b,o,none⟩) n c) (hy:ev e y = .int k i)
  (h:Wq P ops C K rest (put e dst (.pointer (some ⟨b,o+i.toNat*s,none⟩))))  (hg:A1 ⟨dst,.indexAddr t x y,ty,pos,af,g⟩ ops e=true:=by exact U) (h0:0≤i:=by omega) (h1:i<n:=by omega):
  Wq P ops C K (⟨dst,.indexAddr t x y,ty,pos,af,g⟩::rest) e :=
 DH hg (fun w _=>by simp [execOp,hx,hy,Instr.indexAt,asIntOf,Az (B7 hu),h0,h1,B9 hs,add_none]) h
theorem Cf {t el:TypeId} {x y:Operand} {a:Option Addr} {n c s:Nat} {k:IntKind} {i:Int} {α:Type} {enc:α→List Value} {xs:List α} {w1:World} (R:Rd w1 a s enc xs)
  (hu:BJ P t=some el) (hs:Br P el=some s)
  (hx:ev e x = .slice a n c) (hy:ev e y = .int k i) (hn:n=xs.length)
  (h:Wq P ops C K rest (put e dst (.pointer (some ⟨(adr a).block,(adr a).off+i.toNat*s,none⟩))))  (hg:A1 ⟨dst,.indexAddr t x y,ty,pos,af,g⟩ ops e=true:=by exact U) (h0:0≤i:=by omega) (h1:i<n:=by omega):
  Wq P ops C K (⟨dst,.indexAddr t x y,ty,pos,af,g⟩::rest) e:=by
 obtain ⟨b,o,rfl⟩:=R.some' (by rintro rfl; simp at hn; omega);exact Bc (hg:=hg) hu hs hx hy (h0:=h0) (h1:=h1) h
theorem BG {t:TypeId} {x:Operand} {i b o off:Nat} (hf:Bi P t i=some off) (hx:ev e x = .pointer (some ⟨b,o,none⟩))
  (h:Wq P ops C K rest (put e dst (.pointer (some ⟨b,o+off,none⟩))))  (hg:A1 ⟨dst,.fieldAddr t x i,ty,pos,af,g⟩ ops e=true:=by exact U):
  Wq P ops C K (⟨dst,.fieldAddr t x i,ty,pos,af,g⟩::rest) e:=by
 unfold Bi at hf
 split at hf
 ·rename_i fs hu
  split at hf
  ·rename_i f hf1
   split at hf
   ·rename_i s hs
    injection hf with hf
    subst hf;exact DH hg (fun w _=>by simp [execOp,hx,Instr.fieldAt,Az hu,hf1,Instr.sureAddr,fieldPlace,B9 hs,add_none]) h
   ·cases hf
  ·cases hf
 ·cases hf
theorem Ea {fn:Fn} {cap:Array Operand} (hg:A1 ⟨dst,.makeFunc fn #[] cap,ty,pos,af,g⟩ ops e=true) (l:List Value) (hl:cap.toList.map (ev e)=l) (h:Al P r ops Q rest (put e dst (.func fn #[] l.toArray)) w) :
  Al P r ops Q (⟨dst,.makeFunc fn #[] cap,ty,pos,af,g⟩::rest) e w:=by
 refine Mu hg ?_;have:cap.map (ev e)=l.toArray:=by subst hl; apply Array.ext'; simp only [Array.toList_map]
 rw [this,Array.map_empty];exact h
theorem C2 {t t2 el el2:TypeId} {x y:Operand} {s by':Nat} {zl:List Value}
  (hu:BJ P t=some el) (hu2:BJ P t2=some el2) (hs:Br P el=some s) (hby:CE P el=some by') (hz:B3 P el=some zl) (hzl:zl.length=s)
  {a:Option Addr} {n c m c2 b2:Nat} {t3:TypeId} {full l new:List Value} (hx:ev e x = .slice a n c) (hy:ev e y = .slice (some ⟨b2,0,none⟩) m c2) (H:Ctx w0 S w ((b2,Bl t3 new)::(L++ent a el full))) (O:OS a n c s full l)
  (hn:new.length=m*s) (h1:∀ v∈new,AR v=true)
  (h:∀ a' c' full' w',Ctx w0 S w' (L++ent a' el full')→OS a' (n+m) c' s full' (l++new)→Al P r ops Q rest (put e dst (.slice a' (n+m) c')) w')  (hg:A1 ⟨dst,.call ⟨.builtin .append,#[x,y],#[t,t2]⟩,ty,pos,af,g⟩ ops e=true:=by exact U) (hpos:0<by':=by decide) (hbound:(2*(n+m)+768)*by'≤281474976710656:=by omega):
  Al P r ops Q (⟨dst,.call ⟨.builtin .append,#[x,y],#[t,t2]⟩,ty,pos,af,g⟩::rest) e w :=
 Ei hg hu hu2 hs hby hz hzl (hpos:=hpos) new hx hy H.tail O hn h1 (fun j v hv=>⟨_,rfl,by rw [add_none,Nat.zero_add,A6 (H.get at0)]; exact hv⟩) (hbound:=hbound) h
end
end Go.GV
namespace Go.GV
open Go
section
variable {w0 w w':World} {S:List Nat} {L L1 L2 L1':List (Nat × Obj)}
theorem Ctx.lend (H:Ctx w0 S w (L1++L2)):Ctx w (L1.map (·.1)) w L1 :=
 ⟨Ext.refl _ _,fun x hx=>H.blk x (List.mem_append_left _ hx),(List.pairwise_append.1 H.nd).1,fun _ hx => .inl (List.mem_map_of_mem hx)⟩
theorem Ctx.back (H:Ctx w0 S w (L1++L2)) (H':Ctx w (L1.map (·.1)) w' L1'):Ctx w0 S w' (L1'++L2):=by
 have hd:=List.pairwise_append.1 H.nd
 have hk:∀ x∈L1',(∃ y∈L1,y.1=x.1)∨w.heap.size≤x.1:=fun x hx=>by
  rcases H'.own x hx with h | h
  ·rw [List.mem_map] at h; exact .inl h
  ·exact .inr h
 have hn2:∀ y∈L2,y.1∉L1.map (·.1):=fun y hy hm=>by
  rw [List.mem_map] at hm;obtain ⟨x,hx,he⟩:=hm;exact hd.2.2 x hx y hy he
 refine ⟨H.ext.then H'.ext ?_,?_,?_,?_⟩
 ·intro x hx;rw [List.mem_map] at hx;obtain ⟨y,hy,rfl⟩:=hx;exact H.own y (List.mem_append_left _ hy)
 ·intro x hx
  rcases List.mem_append.1 hx with hx | hx
  ·exact H'.blk x hx
  ·have hb:=H.blk x (List.mem_append_right _ hx);rw [H'.ext.block x.1 (Bq hb) (hn2 x hx)];exact hb
 ·rw [List.pairwise_append];refine ⟨H'.nd,hd.2.1,fun x hx y hy=>?_⟩;have hly:=Bq (H.blk y (List.mem_append_right _ hy))
  rcases hk x hx with ⟨z,hz,he⟩ | h
  ·rw [← he]; exact hd.2.2 z hz y hy
  ·omega
 ·intro x hx
  rcases List.mem_append.1 hx with hx | hx
  ·rcases hk x hx with ⟨z,hz,he⟩ | h
   ·rw [← he]; exact H.own z (List.mem_append_left _ hz)
   ·exact .inr (Nat.le_trans H.size h)
  ·exact H.own x (List.mem_append_right _ hx)
theorem Ctx.app_nil (H:Ctx w0 S w L):Ctx w0 S w (L++[]):=by simpa using H
theorem Ctx.nil_app (H:Ctx w0 S w (L++[])):Ctx w0 S w L:=by simpa using H
end
section
variable {w:World} {α:Type} {a:Option Addr} {s:Nat} {enc:α→List Value} {xs:List α}
theorem Rd.row (R:Rd w a s enc xs) {i:Nat} {x:α} (hx:xs[i]? = some x) (hs:(enc x).length=s):∀ j v,(enc x)[j]? = some v→w.cell? ⟨(adr a).block,(adr a).off+i*s+j,none⟩=some v :=
 fun j v hv=>R.cell i x hx j v hv (by rw [← hs]; exact (List.getElem?_eq_some_iff.1 hv).1)
theorem Rd.fld (R:Rd w a s enc xs) {i j:Nat} {x:α} {v:Value} (hx:xs[i]? = some x) (hs:(enc x).length=s) (hv:(enc x)[j]? = some v):w.cell? ⟨(adr a).block,(adr a).off+i*s+j,none⟩=some v:=R.row hx hs j v hv
theorem Rd.one {f:α→Value} (R:Rd w a 1 (fun x=>[f x]) xs) {i:Nat} {x:α} (hx:xs[i]? = some x):w.cell? ⟨(adr a).block,(adr a).off+i*1,none⟩=some (f x):=by
 have:=R.cell i x hx 0 (f x) rfl (by omega)
 simpa using this
theorem Rd.app1 {f:α→Value} (R:Rd w a 1 (fun x=>[f x]) xs):∀ j v,(xs.map f)[j]? = some v→∃ p,a=some p∧w.cell? (p.add j)=some v:=by
 intro j v hv;rw [List.getElem?_map] at hv
 cases hx:xs[j]? with
 | none=>rw [hx] at hv; cases hv
 | some x =>
  rw [hx] at hv
  injection hv with hv
  subst hv;obtain ⟨b,o,rfl⟩:=R.some' (by rintro rfl; simp at hx);refine ⟨_,rfl,?_⟩;rw [add_none];have:=R.one hx
  simpa [adr] using this
theorem R1 (hs:∀ x∈xs,(enc x).length=s) (h0:0<s):∀ j,(xs.flatMap enc)[j]? = (xs[j / s]?).bind fun x=>(enc x)[j % s]? := by
 induction xs with
 | nil=>intro j; simp
 | cons x xs ih =>
  intro j;have hx:=hs x (by simp);have ih:=ih (fun y hy=>hs y (by simp [hy]));simp only [List.flatMap_cons]
  by_cases hj:j<s
  ·rw [List.getElem?_append_left (by omega),Nat.div_eq_of_lt hj,Nat.mod_eq_of_lt hj];rfl
  ·rw [List.getElem?_append_right (by omega),hx,ih];have h1:j / s=(j - s) / s+1:=by rw [Nat.div_eq_sub_div h0 (by omega)]
   have h2:j % s=(j - s) % s:=by rw [Nat.mod_eq_sub_mod (by omega)]
   rw [h1,h2];rfl
theorem Rd.app (R:Rd w a s enc xs) (hs:∀ x∈xs,(enc x).length=s) (h0:0<s):∀ j v,(xs.flatMap enc)[j]? = some v→∃ p,a=some p∧w.cell? (p.add j)=some v:=by
 intro j v hv;rw [R1 hs h0] at hv
 cases hx:xs[j / s]? with
 | none=>rw [hx] at hv; cases hv
 | some x =>
  rw [hx] at hv;have hc:=R.cell _ x hx _ v hv (Nat.mod_lt _ h0);obtain ⟨b,o,rfl⟩:=R.some' (by rintro rfl; simp at hx);refine ⟨_,rfl,?_⟩;rw [add_none];simp only [adr] at hc;rw [← hc]
  congr 2
  have:=Nat.div_add_mod j s;rw [Nat.mul_comm] at this;omega
theorem Rd.take (R:Rd w a s enc xs) (n:Nat):Rd w a s enc (xs.take n) :=
 ⟨fun h=>R.some' (by rintro rfl; simp at h),fun i x hx j v hv hj=>R.cell i x (by
  rw [List.getElem?_take] at hx
  split at hx
  ·exact hx
  ·cases hx) j v hv hj⟩
theorem Rd.cut (R:Rd w a s enc xs) (n c:Nat) (hc:xs.length≤c):Rd w (Jp a c n s) s enc (xs.drop n):=by
 unfold Jp
 by_cases hn:c=n
 ·subst hn;rw [List.drop_of_length_le hc];exact Rd.nil
 ·rw [if_neg hn];refine ⟨fun h=>?_,fun i x hx j v hv hj=>?_⟩
  ·obtain ⟨b,o,rfl⟩:=R.some' (by rintro rfl; simp at h);exact ⟨b,o+n*s,by simp [add_none]⟩
  ·rw [List.getElem?_drop] at hx;obtain ⟨b,o,rfl⟩:=R.some' (by rintro rfl; simp at hx);have:=R.cell (n+i) x hx j v hv hj;simp only [adr,Option.map_some,add_none] at this ⊢;rw [← this]
   congr 2
   rw [Nat.add_mul]; omega
end
section
variable {P:Program} {r:Option Nat} {ops rest:List Oper} {Q:Exit→Env→World→Prop} {e:Env} {w w0:World} {S:List Nat} {L:List (Nat × Obj)}
 {dst:Option Tmp} {ty:TypeId} {pos:String} {af:Array Edge} {g:Option (Nat × Bool)}
theorem EQ {t el:TypeId} {s:Nat} (hg:A1 ⟨dst,.buildSlice t 0 #[],ty,pos,af,g⟩ ops e=true)
  (hu:BJ P t=some el) (hs:Br P el=some s) (H:Ctx w0 S w L)
  (h:∀ b w',Ctx w0 S w' (L++ent (some ⟨b,0,none⟩) el [])→OS (some ⟨b,0,none⟩) 0 0 s [] []→Al P r ops Q rest (put e dst (.slice (some ⟨b,0,none⟩) 0 0)) w') :
  Al P r ops Q (⟨dst,.buildSlice t 0 #[],ty,pos,af,g⟩::rest) e w:=by
 refine Be (w':=w.alloc (Bl el [])) (v := .slice (some ⟨w.heap.size,0,none⟩) 0 0) hg U ?_ (h _ _ (Ctx.comm (L:=[(w.heap.size,Bl el [])]) (H.alloc _)) ⟨(fun p hp=>by injection hp with hp; subst hp; rfl),(fun hp=>by cases hp),by simp,Nat.le_refl _,by simp⟩);have hr0:(Array.range 0)=(#[]:Array Nat):=by apply Array.ext'; simp
 simp [execOp,Instr.buildSlice,Az (B7 hu),B9 hs,hr0,Instr.fill,newRow,newObj,Sem.run];rfl
end
theorem Ds {α:Type} {n i:Nat} {f:Nat→α} (h:i<n):((List.range n).map f)[i]? = some (f i):=by
 rw [List.getElem?_map,List.getElem?_range h]; rfl
theorem H4 {α:Type} {n i:Nat} {f g:Nat→α} {v:α} (hv:g i=v) (h:∀ j,j<n→j≠i→g j=f j):((List.range n).map f).set i v=(List.range n).map g:=by
 apply List.ext_getElem?;intro j;rw [List.getElem?_set]
 by_cases hj:j<n
 ·by_cases he:i=j
  ·subst he;rw [if_pos rfl,if_pos (by simpa using hj),Ds hj,hv]
  ·rw [if_neg he,Ds hj,Ds hj,h j hj (Ne.symm he)]
 ·rw [List.getElem?_eq_none (l:=(List.range n).map g) (by simp; omega)]
  split
  ·rw [if_neg (by simp; omega)]
  ·rw [List.getElem?_eq_none (by simp; omega)]
section
variable {P:Program} {r:Option Nat} {ops rest:List Oper} {Q:Exit→Env→World→Prop} {e:Env} {w w0:World} {S:List Nat} {L:List (Nat × Obj)}
 {dst:Option Tmp} {ty:TypeId} {pos:String} {af:Array Edge} {g:Option (Nat × Bool)} {C:World→Prop} {K:Env→Prop}
theorem BR {t t2:TypeId} {x y:Operand} {b i j n:Nat} {f:Nat→Value} (k:Nat) (f':Nat→Value) (v:Value) (hs:Br P t=some 1) (hx:ev e x = .pointer (some ⟨b,i,none⟩)) (hy:ev e y=v)
  (hv:AR v=true) (H:Ctx w0 S w L) (hj:L[j]? = some (b,Bl t2 ((List.range n).map f))) (h1:f' k=v) (h2:∀ q,q<n→q≠k→f' q=f q)
  (h:∀ w',Ctx w0 S w' (L.set j (b,Bl t2 ((List.range n).map f')))→Al P r ops Q rest (put e dst undef) w') (hg:A1 ⟨dst,.store t x y,ty,pos,af,g⟩ ops e=true:=by exact U) (hi:i=k:=by omega) (hk:k<n:=by omega):Al P r ops Q (⟨dst,.store t x y,ty,pos,af,g⟩::rest) e w:=by
 subst hi;refine Ck v (hg:=hg) hs hx hy hv H hj (by simpa using hk) (fun w' H'=>h w' ?_);rw [H4 h1 h2] at H';exact H'
end
theorem AV {α:Type} {l:List α} {i:Nat} (h:i<l.length:=by omega):∃ x,l[i]? = some x:=⟨l[i],List.getElem?_eq_getElem h⟩
theorem Dn {α:Type} {l:List α} {i:Nat} {x:α} (h:l[i]? = some x):i<l.length:=(List.getElem?_eq_some_iff.1 h).1
theorem Gh {α:Type} {l:List α} {i:Nat} {x:α} (h:l[i]? = some x):l.take (i+1)=l.take i++[x]:=by
 rw [List.take_add_one,h]; rfl
structure Fresh (w w':World) (el:TypeId) (s:Nat) (v:Value) (l:List Value):Prop where
 ex:∃ a n c full,v = .slice a n c∧OS a n c s full l∧∀ x∈ent a el full,w'.heap[x.1]? = some x.2∧w.heap.size≤x.1
 ext:Ext [] w w'
theorem DO {a:Option Addr} {t:TypeId} {full:List Value}:(ent a t full).Pairwise fun x y=>x.1≠y.1:=by
 cases a <;> simp [ent]
theorem Ctx.fresh {w0 w:World} {L:List (Nat × Obj)} {a:Option Addr} {el:TypeId} {full l:List Value} {n c s:Nat} (H:Ctx w0 [] w (L++ent a el full)) (O:OS a n c s full l):Fresh w0 w el s (.slice a n c) l :=
 ⟨⟨a,n,c,full,rfl,O,fun x hx=>⟨H.blk x (List.mem_append_right _ hx),by
  rcases H.own x (List.mem_append_right _ hx) with h | h
  ·cases h
  ·exact h⟩⟩,H.ext⟩
theorem Fresh.nil {w0 w:World} {L:List (Nat × Obj)} (H:Ctx w0 [] w L) (el:TypeId) (s:Nat):Fresh w0 w el s (.slice none 0 0) [] :=
 ⟨⟨none,0,0,[],rfl,OS.nil,by simp [ent]⟩,H.ext⟩
theorem flat1 {α:Type} {f:α→Value} (xs:List α):xs.flatMap (fun x=>[f x])=xs.map f:=by
 induction xs with
 | nil=>rfl
 | cons x xs ih=>simp [ih]
theorem OS.rd1 {α:Type} {w:World} {a:Option Addr} {n c:Nat} {t:TypeId} {full:List Value} {f:α→Value} {xs:List α} (h:OS a n c 1 full (xs.map f)) (hb:∀ x∈ent a t full,w.heap[x.1]? = some x.2) :
  Rd w a 1 (fun x=>[f x]) xs:=OS.rd (by rw [flat1]; exact h) hb (by simp) (by omega)
theorem OS.num {α:Type} {a:Option Addr} {n c:Nat} {full:List Value} {f:α→Value} {xs:List α} (h:OS a n c 1 full (xs.map f)):n=xs.length:=by
 have:=h.llen; simpa using this.symm
theorem OS.numN {α:Type} {a:Option Addr} {n c s:Nat} {full:List Value} {enc:α→List Value} {xs:List α} (h:OS a n c s full (xs.flatMap enc)) (hs:∀ x∈xs,(enc x).length=s) (h0:0<s):n=xs.length:=by
 have h1:=h.llen
 have h2:∀ xs:List α,(∀ x∈xs,(enc x).length=s)→(xs.flatMap enc).length=xs.length*s:=by
  intro xs
  induction xs with
  | nil=>simp
  | cons x xs ih =>
   intro hs;simp only [List.flatMap_cons,List.length_append,List.length_cons,Nat.add_mul,Nat.one_mul];rw [ih (fun y hy=>hs y (by simp [hy])),hs x (by simp)];omega
 rw [h2 xs hs] at h1;exact (Nat.eq_of_mul_eq_mul_right h0 h1).symm
end Go.GV
namespace Go.GV
open Go
def DP {α:Type} (m:List (Int × α)) (k:Int):Option α:=(m.find? fun p=>p.1 == k).map (·.2)
def Jr {α:Type}:List (Int × α)→Int→α→List (Int × α)
 | [],k,v=>[(k,v)]
 | p::m,k,v=>if p.1=k then (k,v)::m else p::Jr m k v
def mdel {α:Type}:List (Int × α)→Int→List (Int × α)
 | [],_=>[]
 | p::m,k=>if p.1=k then m else p::mdel m k
theorem R3 {α:Type} (k:Int):DP ([]:List (Int × α)) k=none:=rfl
theorem Qa {α:Type} (m:List (Int × α)) (k:Int) (v:α) (k':Int):DP (Jr m k v) k'=if k'=k then some v else DP m k':=by
 induction m with
 | nil =>
  unfold Jr DP
  by_cases h:k'=k
  ·subst h; simp
  ·simp [h,Ne.symm h]
 | cons p m ih =>
  unfold Jr
  by_cases hp:p.1=k
  ·rw [if_pos hp];unfold DP
   by_cases h:k'=k
   ·subst h; simp
   ·have h1:(k == k')=false:=by simpa using Ne.symm h
    have h2:(p.1 == k')=false:=by rw [hp]; exact h1
    simp [h1,h2,h]
  ·rw [if_neg hp];unfold DP at ih ⊢
   by_cases h:p.1=k'
   ·have h2:¬ k'=k:=fun e=>hp (h.trans e);simp [h,h2]
   ·have h1:(p.1 == k')=false:=by simpa using h
    simp only [List.find?_cons,h1];exact ih
def EG (kk:IntKind) (m:List (Int × Value)) (o:Obj):Prop :=
 ∃ es clock,o = .map es clock∧es.toList.map (fun e=>(e.key,e.val))=m.map (fun p=>(Value.int kk p.1,p.2))∧(∀ e∈es.toList,e.born<clock)∧(es.toList.map (·.born)).Nodup
theorem Fh (kk:IntKind) (n:Int):∀ (es:List MapEntry) (m:List (Int × Value)) (i:Nat),es.map (fun e=>(e.key,e.val))=m.map (fun p=>(Value.int kk p.1,p.2)) →
  (DP m n=none→Instr.findNow (.int kk) (.int kk n) es i=some none) ∧
  (∀ v,DP m n=some v→∃ j,Instr.findNow (.int kk) (.int kk n) es i=some (some (i+j,v))∧j<es.length∧∀ (v':Value),(es.modify j fun e=>{ e with key := .int kk n,val:=v' }).map (fun e=>(e.key,e.val))=(Jr m n v').map (fun p=>(Value.int kk p.1,p.2))∧((es[j]?).map (·.key))=some (.int kk n) ∧
   (es.eraseIdx j).map (fun e=>(e.key,e.val))=(mdel m n).map (fun p=>(Value.int kk p.1,p.2)))
 | [],m,i,h=>by
  cases m with
  | nil=>exact ⟨fun _=>rfl,fun v hv=>by cases hv⟩
  | cons p m=>cases h
 | e::es,m,i,h=>by
  cases m with
  | nil=>cases h
  | cons p m =>
   simp only [List.map_cons,List.cons.injEq,Prod.mk.injEq] at h;obtain ⟨⟨hk,hv⟩,ht⟩:=h;have ih:=Fh kk n es m (i+1) ht;have hs:Instr.sameNow (.int kk) (.int kk n) e.key=some (n == p.1):=by rw [hk]; simp [Instr.sameNow]
   by_cases hn:p.1=n
   ·have hb:(n == p.1)=true:=by simp [hn]
    have hg:DP (p::m) n=some p.2:=by simp [DP,hn]
    refine ⟨(fun h=>by rw [hg] at h; cases h),fun v hv'=>?_⟩;rw [hg] at hv'
    injection hv' with hv'
    subst hv';refine ⟨0,by simp [Instr.findNow,hs,hb,hv],by simp,fun v'=>⟨?_,by simp [hk,hn],?_⟩⟩
    ·simp [Jr,hn,ht,List.modify]
    ·simp [mdel,hn,ht]
   ·have hb:(n == p.1)=false:=by simpa using Ne.symm hn
    have hb2:(p.1 == n)=false:=by simpa using hn
    have hg:DP (p::m) n=DP m n:=by simp [DP,hb2]
    rw [hg];refine ⟨fun h=>by simp [Instr.findNow,hs,hb,ih.1 h],fun v hv'=>?_⟩;obtain ⟨j,h1,h2,h3⟩:=ih.2 v hv';refine ⟨j+1,by simp [Instr.findNow,hs,hb,h1]; omega,by simp; omega,fun v'=>?_⟩;obtain ⟨a1,a2,a3⟩:=h3 v';refine ⟨?_,by simpa using a2,?_⟩
    ·simp only [List.modify_succ_cons,List.map_cons,Jr,if_neg hn,a1,hk,hv]
    ·simp only [List.eraseIdx_cons_succ,List.map_cons,mdel,if_neg hn,a3,hk,hv]
def Gv (P:Program) (t:TypeId):Option (TypeId × TypeId):=match P.underlying t with | some (.map k e)=>some (k,e) | _=>none
theorem DQ {P:Program} {t k e:TypeId} (h:Gv P t=some (k,e)):P.underlying t=some (.map k e):=by
 unfold Gv at h
 split at h
 ·rename_i hu; injection h with h; cases h; exact hu
 ·cases h
section
variable {P:Program} {r:Option Nat} {ops rest:List Oper} {Q:Exit→Env→World→Prop} {e:Env} {w w0:World} {S:List Nat} {L:List (Nat × Obj)}
 {dst:Option Tmp} {ty:TypeId} {pos:String} {af:Array Edge} {g:Option (Nat × Bool)}
theorem CY {b:Bool} {k:TypeId} {kk:IntKind} (hk:P.underlying k=some (.int kk)) (v:Value) (w:World) (d:Nat):(Instr.checkKey b (d+1) k v).run P w = .ok () w:=by
 simp [Instr.checkKey,Az hk]
theorem Js {t:TypeId} (kk:IntKind) (hg:A1 ⟨dst,.makeMap t none,ty,pos,af,g⟩ ops e=true) (H:Ctx w0 S w L)
  (h:∀ b o w',EG kk [] o→Ctx w0 S w' ((b,o)::L)→Al P r ops Q rest (put e dst (.map (some b))) w') :
  Al P r ops Q (⟨dst,.makeMap t none,ty,pos,af,g⟩::rest) e w:=by
 refine Be (w':=w.alloc (.map #[] 0)) (v := .map (some w.heap.size)) hg U ?_ (h _ _ _ ⟨#[],0,rfl,rfl,by simp,by simp⟩ (H.alloc _));simp [execOp,Instr.makeMap,newObj,Sem.run]
theorem Qb {t k el:TypeId} {kk:IntKind} {x y:Operand} {b j:Nat} {o:Obj} {m:List (Int × Value)} {n:Int} {z:Value} (hg:A1 ⟨dst,.lookup t x y false,ty,pos,af,g⟩ ops e=true)
  (ht:Gv P t=some (k,el)) (hk:P.underlying k=some (.int kk)) (hz:(P.info? el).bind (·.zero)=some z) (hx:ev e x = .map (some b)) (hy:ev e y = .int kk n) (H:Ctx w0 S w L) (hl:L[j]? = some (b,o)) (hM:EG kk m o)
  (h:Al P r ops Q rest (put e dst ((DP m n).getD z)) w):Al P r ops Q (⟨dst,.lookup t x y false,ty,pos,af,g⟩::rest) e w:=by
 obtain ⟨es,clock,rfl,hes,_⟩:=hM;have hb:=H.get hl;have hf:=Fh kk n es.toList m 0 hes;have hgo:(getObj b).run P w = .ok (.map es clock) w:=by simp [getObj,Sem.run,hb]
 have hzr:(zeroValue el).run P w = .ok z w:=by
  cases hi:P.info? el with
  | none=>rw [hi] at hz; cases hz
  | some i=>rw [hi] at hz; simp at hz; simp [zeroValue,typeInfo,program,Sem.run,hi,hz]
 refine Be hg U ?_ h
 cases hm:DP m n with
 | none=>simp [execOp,Instr.lookup,Az (DQ ht),hx,hy,hgo,CY hk,Instr.findKey,Az hk,hf.1 hm,hzr]
 | some v =>
  obtain ⟨i,hi,_⟩:=hf.2 v hm;simp [execOp,Instr.lookup,Az (DQ ht),hx,hy,hgo,CY hk,Instr.findKey,Az hk,hi]
theorem Kf {t k el:TypeId} {kk:IntKind} {b j:Nat} {o:Obj} {m:List (Int × Value)} {n:Int} (v:Value) (ht:Gv P t=some (k,el)) (hk:P.underlying k=some (.int kk)) (H:Ctx w0 S w L) (hl:L[j]? = some (b,o)) (hM:EG kk m o) :
  ∃ o' w',(Instr.mapUpdate t (.map (some b)) (.int kk n) v).run P w = .ok () w'∧EG kk (Jr m n v) o'∧Ctx w0 S w' (L.set j (b,o')):=by
 obtain ⟨es,clock,rfl,hes,hbn,hnd⟩:=hM;have hb:=H.get hl;have hf:=Fh kk n es.toList m 0 hes;have hgo:(getObj b).run P w = .ok (.map es clock) w:=by simp [getObj,Sem.run,hb]
 have hso:∀ o',(setObj b o').run P w = .ok () (w.putObj b o'):=fun o'=>by simp [setObj,Sem.run,hb,World.putObj]
 cases hm:DP m n with
 | none =>
  refine ⟨.map (es.push { key := .int kk n,val:=v,born:=clock }) (clock+1),w.putObj b _,?_,⟨_,_,rfl,?_,?_,?_⟩,H.setB hl _⟩
  ·simp [Instr.mapUpdate,Az (DQ ht),hgo,CY hk,Instr.findKey,Az hk,hf.1 hm,hso]
  ·have hms:Jr m n v=m++[(n,v)]:=by
    clear hes hf
    induction m with
    | nil=>rfl
    | cons p m ih =>
     have hp:¬ p.1=n:=by
      intro hp;simp [DP,hp] at hm
     have hb2:(p.1 == n)=false:=by simpa using hp
     have hm2:DP m n=none:=by rw [← hm]; simp [DP,hb2]
     simp [Jr,hp,ih hm2]
   rw [hms];simp [hes]
  ·intro x hx;simp only [Array.toList_push,List.mem_append,List.mem_singleton] at hx
   rcases hx with hx | rfl
   ·have:=hbn x hx; omega
   ·simp
  ·simp only [Array.toList_push,List.map_append,List.map_cons,List.map_nil];rw [List.nodup_append];refine ⟨hnd,by simp,?_⟩;intro x hx y hy;simp only [List.mem_singleton] at hy;subst hy;rw [List.mem_map] at hx;obtain ⟨e',he',rfl⟩:=hx;have:=hbn e' he';omega
 | some v0 =>
  obtain ⟨i,hi,hil,h3⟩:=hf.2 v0 hm;obtain ⟨a1,a2,_⟩:=h3 v;have hkts:(Instr.keyThatStays (.int kk n) (.int kk n)).run P w = .ok (.int kk n) w:=by simp [Instr.keyThatStays,Instr.sameBits]
  have hold:((es[i]?).map (·.key)).getD (.int kk n) = .int kk n:=by
   have:es[i]? = es.toList[i]? := by rw [Array.getElem?_toList]
   rw [this,a2]; rfl
  refine ⟨.map (es.modify i fun e=>{ e with key := .int kk n,val:=v }) clock,w.putObj b _,?_,⟨_,_,rfl,?_,?_,?_⟩,H.setB hl _⟩
  ·simp [Instr.mapUpdate,Az (DQ ht),hgo,CY hk,Instr.findKey,Az hk,hi,hold,hkts,hso]
  ·rw [Array.toList_modify]; exact a1
  ·intro x hx;rw [Array.toList_modify,List.mem_iff_getElem?] at hx;obtain ⟨q,hq⟩:=hx;rw [List.getElem?_modify] at hq
   cases hq2:es.toList[q]? with
   | none=>rw [hq2] at hq; simp at hq
   | some y =>
    rw [hq2] at hq;have hy:=hbn y (List.mem_of_getElem? hq2)
    injection hq with hq
    subst hq;dsimp only
    split <;> exact hy
  ·rw [Array.toList_modify]
   have:(es.toList.modify i fun e=>{ e with key := .int kk n,val:=v }).map (·.born)=es.toList.map (·.born):=by
    apply List.ext_getElem?;intro q;rw [List.getElem?_map,List.getElem?_map,List.getElem?_modify]
    cases es.toList[q]? with
    | none=>rfl
    | some y=>show some (Value.map none,(if i=q then _ else y).born).2=some y.born; split <;> rfl
   rw [this]; exact hnd
end
section
variable {P:Program} {r:Option Nat} {n:Nat} {Q:Exit→Env→World→Prop} {e:Env} {w:World}
theorem FM {x y:Code} (d:Tmp) {b:Bool} (hd:e.g d = .bool b) (h1:b=true→W P r n x Q (put e (some d) (.bool true)) w) (h2:b=false→W P r n y Q (put e (some d) (.bool false)) w) :
  W P r n (.cond (.tmp d) x y) Q e w:=by
 refine Ay b hd (fun h=>?_) (fun h=>?_)
 ·have h3:=h1 h; rw [Dy (by rw [hd,h])] at h3; exact h3
 ·have h3:=h2 h; rw [Dy (by rw [hd,h])] at h3; exact h3
end
end Go.GV
namespace Go.GV
open Go
def Ct (P:Program) (t:TypeId):Option (List (Nat × Nat)) :=
 match P.underlying t with
 | some (.struct fs)=>fs.toList.mapM (fun f=>(P.info? f.type).map fun i=>(f.offset,i.size))
 | _=>none
section
variable {P:Program} {r:Option Nat} {ops rest:List Oper} {Q:Exit→Env→World→Prop} {e:Env} {w w0:World} {S:List Nat} {L:List (Nat × Obj)}
 {dst:Option Tmp} {ty:TypeId} {pos:String} {af:Array Edge} {g:Option (Nat × Bool)}
theorem My {t:TypeId} {pl:List (Nat × Nat)} {zl:List Value} {ps:List (Nat × Value)} {l:Array Value} (hp:Ct P t=some pl) (hz:B3 P t=some zl)
  (hl:Instr.fill (fun i=>pl.toArray[i]?) zl.toArray ps=some l):P.built t ps=some l:=by
 unfold Ct at hp;unfold B3 at hz;unfold Program.built
 cases hu:P.underlying t with
 | none=>rw [hu] at hp; cases hp
 | some d =>
  rw [hu] at hp
  cases hi:P.info? t with
  | none=>rw [hi] at hz; cases hz
  | some it =>
   rw [hi] at hz
   cases hzz:it.zero with
   | none=>simp [hzz] at hz
   | some z =>
    simp only [Option.bind_some,hzz,Option.map_some,Option.some.injEq] at hz;subst hz
    cases d <;> first | (cases hp; done) | skip
    rename_i fields
    have hp':fields.toList.mapM (fun f=>(P.info? f.type).map fun i=>(f.offset,i.size))=some pl:=hp;simp only [hzz,hp']
    simpa using hl
theorem Bn {t:TypeId} {parts:Array (Nat × Operand)} {pl:List (Nat × Nat)} {zl:List Value} (l:List Value) (hp:Ct P t=some pl) (hz:B3 P t=some zl)
  (h:Al P r ops Q rest (put e dst (.agg l.toArray)) w)  (hg:A1 ⟨dst,.build t parts,ty,pos,af,g⟩ ops e=true:=by exact U) (hl:Instr.fill (fun i=>pl.toArray[i]?) zl.toArray (parts.toList.map fun p=>(p.1,ev e p.2))=some l.toArray:=by kernel_rfl):
  Al P r ops Q (⟨dst,.build t parts,ty,pos,af,g⟩::rest) e w:=by
 refine Be hg U ?_ h;have hb:P.built t (parts.map fun (i,x)=>(i,ev e x)).toList=some l.toArray:=My hp hz (by rw [Array.toList_map]; exact hl);simp [execOp,run_build w t _ _ hb]
theorem Gi {t el:TypeId} {n:Nat} {parts:Array (Nat × Operand)} {s:Nat} {zl:List Value} (l:List Value) (hg:A1 ⟨dst,.buildSlice t n parts,ty,pos,af,g⟩ ops e=true)
  (hu:BJ P t=some el) (hs:Br P el=some s) (hz:B3 P el=some zl)
  (H:Ctx w0 S w L)
  (h:∀ b w',w.heap.size=b→Ctx w0 S w' ((b,Bl el l)::L)→Al P r ops Q rest (put e dst (.slice (some ⟨b,0,none⟩) n n)) w')  (hn:¬ n*s=0:=by decide) (hbig:¬ 16777216<n*s:=by decide) (hl:Instr.fill (fun i=>some (i*s,s)) ((Array.range (n*s)).map fun k=>zl.toArray[k % zl.toArray.size]!) (parts.toList.map fun p=>(p.1,ev e p.2))=some l.toArray:=by kernel_rfl):
  Al P r ops Q (⟨dst,.buildSlice t n parts,ty,pos,af,g⟩::rest) e w:=by
 obtain ⟨z,hz1,hz2⟩:=EN hz w;have hzc:z.cells=zl.toArray:=by apply Array.ext'; rw [hz2]
 refine Be (w':=w.alloc (Bl el l)) (v := .slice (some ⟨w.heap.size,0,none⟩) n n) hg U ?_ (h _ _ U (H.alloc _));have hf:Instr.fill (fun i=>some (i*s,s)) ((Array.range (n*s)).map fun k=>zl.toArray[k % zl.toArray.size]!) (parts.map fun (i,x)=>(i,ev e x)).toList=some l.toArray:=by rw [Array.toList_map]; exact hl
 simp only [execOp,Instr.buildSlice,Sem.run_bind,Az (B7 hu),B9 hs,Result.andThen_ok,if_neg hbig,if_neg hn,hz1,Sem.run_pure,hzc];rw [hf];simp [newRow,newObj,Sem.run];rfl
theorem Uz {fn:Func} {R:Value→World→Prop} {a:Tmp} {t:TypeId} {p:Addr} {v:Value} (hr:fn.results=#[.cell a t]) (hd:e.ds=[]) (ha:e.g a = .pointer (some p)) (hv:(loadVar t p).run P w = .ok v w) (h:R v w):Jf P fn R .ret e w :=
 ⟨hd,fun tmps ht=>by
  have h1:=(ht a).trans ha;rw [Array.getD_eq_getD_getElem?] at h1
  exact ⟨v,by simp [results,hr,h1,asAddr,hv],h⟩⟩
theorem E6 {fn:Func} {R:Value→World→Prop} {a:Tmp} {t t2:TypeId} {b k s:Nat} {l:List Value} (hr:fn.results=#[.cell a t]) (hd:e.ds=[]) (ha:e.g a = .pointer (some ⟨b,0,none⟩)) (hag:Cb P t=some true) (hs:Br P t=some s)
  (H:Ctx w0 S w L) (hk:L[k]? = some (b,Bl t2 l)) (hl:l.length=s) (h:R (.agg l.toArray) w):Jf P fn R .ret e w :=
 Uz hr hd ha (Eh hag hs hl (fun j v hv=>by rw [A6 (H.get hk),Nat.zero_add]; exact hv)) h
end
end Go.GV
namespace Go.GV
open Go
theorem FN {k:IntKind} (hk:k.signed=false) (a:Nat):k.wrap (a:Int)=((a % 2 ^ k.bits:Nat):Int):=by
 unfold IntKind.wrap;rw [hk];simp
theorem HA (n a:Nat):BitVec.ofInt n (a:Int)=BitVec.ofNat n a:=by
 apply BitVec.eq_of_toNat_eq;rw [BitVec.toNat_ofInt,BitVec.toNat_ofNat]
 norm_cast
theorem R5 {k:IntKind} (hk:k.signed=false) {a b:Nat} (ha:a<2 ^ k.bits) (hb:b<2 ^ k.bits):Op.intBits .and k a b=pure (.int k ((a &&& b:Nat):Int)):=by
 have hx:a &&& b<2 ^ k.bits:=Nat.lt_of_le_of_lt Nat.and_le_left ha;simp only [Op.intBits,HA];rw [FN hk,BitVec.toNat_and,BitVec.toNat_ofNat,BitVec.toNat_ofNat,Nat.mod_eq_of_lt ha,Nat.mod_eq_of_lt hb,Nat.mod_eq_of_lt hx]
theorem U0 {k:IntKind} (hk:k.signed=false) {a b:Nat} (ha:a<2 ^ k.bits) (hb:b<2 ^ k.bits):Op.intBits .or k a b=pure (.int k ((a ||| b:Nat):Int)):=by
 have hx:a ||| b<2 ^ k.bits:=Nat.or_lt_two_pow ha hb
 simp only [Op.intBits,HA];rw [FN hk,BitVec.toNat_or,BitVec.toNat_ofNat,BitVec.toNat_ofNat,Nat.mod_eq_of_lt ha,Nat.mod_eq_of_lt hb,Nat.mod_eq_of_lt hx]
theorem R6 {k:IntKind} (hk:k.signed=false) {a b:Nat} (ha:a<2 ^ k.bits) (hb:b<2 ^ k.bits):Op.intBits .xor k a b=pure (.int k ((a ^^^ b:Nat):Int)):=by
 have hx:a ^^^ b<2 ^ k.bits:=Nat.xor_lt_two_pow ha hb;simp only [Op.intBits,HA];rw [FN hk,BitVec.toNat_xor,BitVec.toNat_ofNat,BitVec.toNat_ofNat,Nat.mod_eq_of_lt ha,Nat.mod_eq_of_lt hb,Nat.mod_eq_of_lt hx]
theorem Pd {k k2:IntKind} {a n:Nat} (hn:n≤k.bits):Op.shift .shr k (a:Int) k2 (n:Int)=pure (.int k ((a / 2 ^ n:Nat):Int)):=by
 unfold Op.shift;rw [if_neg (by omega)];have hm:min ((n:Int)).toNat k.bits=n:=by rw [Int.toNat_natCast]; exact Nat.min_eq_left hn
 simp only [hm]
 congr 2
 have:((2:Int) ^ n)=((2 ^ n:Nat):Int):=by norm_cast
 rw [this,Int.fdiv_eq_ediv_of_nonneg _ (Int.natCast_nonneg _)]
 norm_cast
theorem Pe {k k2:IntKind} (hk:k.signed=false) {a n:Nat} (hn:n≤k.bits):Op.shift .shl k (a:Int) k2 (n:Int)=pure (.int k ((a*2 ^ n % 2 ^ k.bits:Nat):Int)):=by
 unfold Op.shift;rw [if_neg (by omega)];have hm:min ((n:Int)).toNat k.bits=n:=by rw [Int.toNat_natCast]; exact Nat.min_eq_left hn
 simp only [hm]
 congr 2
 have:(a:Int)*(2:Int) ^ n=((a*2 ^ n:Nat):Int):=by norm_cast
 rw [this,FN hk]
section
variable {P:Program} {r:Option Nat} {ops rest:List Oper} {Q:Exit→Env→World→Prop} {e:Env} {w w0:World} {S:List Nat} {L:List (Nat × Obj)}
 {dst:Option Tmp} {ty:TypeId} {pos:String} {af:Array Edge} {g:Option (Nat × Bool)} {C:World→Prop} {K:Env→Prop} {t t2:TypeId} {x y:Operand} {a b n:Nat} {s d:TypeId}
theorem Qc {k k1:IntKind} {ds:TypeDesc} (hk:k.signed=false) (hx:ev e x = .int k1 a) (hs:P.underlying s=some ds) (hd:P.underlying d=some (.int k)) :
  (execOp (ev e) ⟨dst,.convert s d x,ty,pos,af,g⟩).run P w = .ok (.value (.int k ((a % 2 ^ k.bits:Nat):Int))) w:=by
 simp [execOp,hx,convert,Az hs,Az hd,Conv.intToInt,FN hk]
theorem Iu (hg:A1 ⟨dst,.convert s d x,ty,pos,af,g⟩ ops e=true) {k1:IntKind} {ds:TypeDesc} (hx:ev e x = .int k1 a) (hs:P.underlying s=some ds) (hd:P.underlying d=some (.int .u8))
  (h:Al P r ops Q rest (put e dst (.int .u8 ((a % 256:Nat):Int))) w):Al P r ops Q (⟨dst,.convert s d x,ty,pos,af,g⟩::rest) e w :=
 Be hg rfl (Qc (k := .u8) rfl hx hs hd) h
theorem Jt (hg:A1 ⟨dst,.binOp .and t x y t2,ty,pos,af,g⟩ ops e=true) (hx:ev e x = .int .u64 a) (hy:ev e y = .int .u64 b) (ha:a<18446744073709551616) (hb:b<18446744073709551616)
  (h:Al P r ops Q rest (put e dst (.int .u64 ((a &&& b:Nat):Int))) w):Al P r ops Q (⟨dst,.binOp .and t x y t2,ty,pos,af,g⟩::rest) e w :=
 Be hg rfl (Bw hx hy (by show (Op.intBits .and .u64 (a:Int) (b:Int)).run P w=_; rw [R5 rfl (by exact ha) (by exact hb)]; rfl)) h
theorem Qd (hg:A1 ⟨dst,.binOp .or t x y t2,ty,pos,af,g⟩ ops e=true) (hx:ev e x = .int .u64 a) (hy:ev e y = .int .u64 b) (ha:a<18446744073709551616)
  (h:Al P r ops Q rest (put e dst (.int .u64 ((a ||| b:Nat):Int))) w) (hb:b<18446744073709551616:=by omega):Al P r ops Q (⟨dst,.binOp .or t x y t2,ty,pos,af,g⟩::rest) e w :=
 Be hg rfl (Bw hx hy (by show (Op.intBits .or .u64 (a:Int) (b:Int)).run P w=_; rw [U0 rfl (by exact ha) (by exact hb)]; rfl)) h
theorem HD (hg:A1 ⟨dst,.binOp .xor t x y t2,ty,pos,af,g⟩ ops e=true) (hx:ev e x = .int .u64 a) (hy:ev e y = .int .u64 b) (ha:a<18446744073709551616) (hb:b<18446744073709551616)
  (h:Wq P ops C K rest (put e dst (.int .u64 ((a ^^^ b:Nat):Int)))):Wq P ops C K (⟨dst,.binOp .xor t x y t2,ty,pos,af,g⟩::rest) e :=
 DH hg (fun w _=>Bw hx hy (by show (Op.intBits .xor .u64 (a:Int) (b:Int)).run P w=_; rw [R6 rfl (by exact ha) (by exact hb)]; rfl)) h
theorem Eo (hg:A1 ⟨dst,.binOp .shr t x y t2,ty,pos,af,g⟩ ops e=true) {k2:IntKind} (hx:ev e x = .int .u64 a) (hy:ev e y = .int k2 n)
  (h:Al P r ops Q rest (put e dst (.int .u64 ((a / 2 ^ n:Nat):Int))) w) (hn:n≤64:=by omega):Al P r ops Q (⟨dst,.binOp .shr t x y t2,ty,pos,af,g⟩::rest) e w :=
 Be hg rfl (Bw hx hy (by show (Op.shift .shr .u64 (a:Int) k2 (n:Int)).run P w=_; rw [Pd (by exact hn)]; rfl)) h
theorem Qe (hg:A1 ⟨dst,.binOp .shr t x y t2,ty,pos,af,g⟩ ops e=true) {k2:IntKind} (hx:ev e x = .int .u64 a) (hy:ev e y = .int k2 n)
  (h:Wq P ops C K rest (put e dst (.int .u64 ((a / 2 ^ n:Nat):Int)))) (hn:n≤64:=by decide):Wq P ops C K (⟨dst,.binOp .shr t x y t2,ty,pos,af,g⟩::rest) e :=
 DH hg (fun w _=>Bw hx hy (by show (Op.shift .shr .u64 (a:Int) k2 (n:Int)).run P w=_; rw [Pd (by exact hn)]; rfl)) h
theorem Ju (hg:A1 ⟨dst,.binOp .shl t x y t2,ty,pos,af,g⟩ ops e=true) {k2:IntKind} (hx:ev e x = .int .u64 a) (hy:ev e y = .int k2 n) (hn:n≤64)
  (h:Al P r ops Q rest (put e dst (.int .u64 ((a*2 ^ n % 18446744073709551616:Nat):Int))) w):Al P r ops Q (⟨dst,.binOp .shl t x y t2,ty,pos,af,g⟩::rest) e w :=
 Be hg rfl (Bw hx hy (by show (Op.shift .shl .u64 (a:Int) k2 (n:Int)).run P w=_; rw [Pe rfl (by exact hn)]; rfl)) h
theorem Kx (hg:A1 ⟨dst,.binOp .shl t x y t2,ty,pos,af,g⟩ ops e=true) {k2:IntKind} (hx:ev e x = .int .u64 a) (hy:ev e y = .int k2 n)
  (h:Wq P ops C K rest (put e dst (.int .u64 ((a*2 ^ n % 18446744073709551616:Nat):Int)))) (hn:n≤64:=by decide):Wq P ops C K (⟨dst,.binOp .shl t x y t2,ty,pos,af,g⟩::rest) e :=
 DH hg (fun w _=>Bw hx hy (by show (Op.shift .shl .u64 (a:Int) k2 (n:Int)).run P w=_; rw [Pe rfl (by exact hn)]; rfl)) h
end
end Go.GV
namespace Go.GV
open Go
section
variable {P:Program} {r:Option Nat} {ops rest:List Oper} {Q:Exit→Env→World→Prop} {e:Env} {w w0:World} {S:List Nat} {L:List (Nat × Obj)}
 {dst:Option Tmp} {ty:TypeId} {pos:String} {af:Array Edge} {g:Option (Nat × Bool)} {C:World→Prop} {K:Env→Prop}
theorem DT {o:Oper} {v:Value} (hg:A1 o ops e=true) (hrun:∀ w,lax o=true∨C w→(execOp (ev e) o).run P w = .ok (.value v) w) (h:Wt P ops C K rest (put e o.dst v)):Wt P ops C K (o::rest) e:=by
 unfold Wt;rw [if_pos hg];exact ⟨v,hrun,h⟩
theorem Ly {o:Oper} {v:Value} (hl:lax o=false) (hg:A1 o ops e=true) (hrun:∀ w,C w→(execOp (ev e) o).run P w = .ok (.value v) w) (h:Wt P ops C K rest (put e o.dst v)):Wt P ops C K (o::rest) e :=
 DT hg (fun w hw=>hrun w (hw.resolve_left (by rw [hl]; simp))) h
theorem Ba (h:K e):Wt P ops C K [] e:=h
section
variable {t t2:TypeId} {x y:Operand} {k:IntKind} {a b:Int}
theorem BE {t:TypeId} {x:Operand} {p:Addr} {v:Value} (ha:Cb P t=some false) (hx:ev e x = .pointer (some p)) (hc:∀ w,C w→w.cell? p=some v)
  (h:Wt P ops C K rest (put e dst v)) (hg:A1 ⟨dst,.load t x,ty,pos,af,g⟩ ops e=true:=by exact U):Wt P ops C K (⟨dst,.load t x,ty,pos,af,g⟩::rest) e :=
 Ly rfl hg (fun w hw=>by simp [execOp,hx,Instr.loadAt,Instr.sureAddr,Hy ha (hc w hw)]) h
theorem Kz {t:TypeId} {x:Operand} {b o s:Nat} (l:List Value) (hg:A1 ⟨dst,.load t x,ty,pos,af,g⟩ ops e=true) (ha:Cb P t=some true) (hs:Br P t=some s) (hx:ev e x = .pointer (some ⟨b,o,none⟩))
  (hl:l.length=s) (hc:∀ w,C w→∀ j v,l[j]? = some v→w.cell? ⟨b,o+j,none⟩=some v)
  (h:Wt P ops C K rest (put e dst (.agg l.toArray))):Wt P ops C K (⟨dst,.load t x,ty,pos,af,g⟩::rest) e :=
 Ly rfl hg (fun w hw=>by simp [execOp,hx,Instr.loadAt,Instr.sureAddr,Eh ha hs hl (hc w hw)]) h
theorem t_rem (hg:A1 ⟨dst,.binOp .rem t x y t2,ty,pos,af,g⟩ ops e=true) (hx:ev e x = .int k a) (hy:ev e y = .int k b) (h0:0≤a) (hb:0<b)
  (h:Wt P ops C K rest (put e dst (.int k (a % b)))):Wt P ops C K (⟨dst,.binOp .rem t x y t2,ty,pos,af,g⟩::rest) e:=by
 refine DT hg (fun w _=>Bw hx hy (v := .int k (a % b)) ?_) h;have h3:a.tmod b=a % b:=Int.tmod_eq_emod_of_nonneg h0;simp [binOp,Op.intDiv,h3,show ¬ b=0 from by omega]
theorem CZ (hx:ev e x = .int .i64 a) (hy:ev e y = .int .i64 b)
  (h:Wt P ops C K rest (put e dst (.int .i64 (a+b)))) (hg:A1 ⟨dst,.binOp .add t x y t2,ty,pos,af,g⟩ ops e=true:=by exact U) (h1: -9223372036854775808≤a+b:=by omega) (h2:a+b≤9223372036854775807:=by omega):Wt P ops C K (⟨dst,.binOp .add t x y t2,ty,pos,af,g⟩::rest) e:=DT hg (fun w _=>Bw hx hy (by simp [binOp,Op.intArith,C4 (k := .i64) (n:=a+b) h1 h2])) h
theorem Dt (hx:ev e x = .int .i64 a) (hy:ev e y = .int .i64 b)
  (h:Wt P ops C K rest (put e dst (.int .i64 (a - b)))) (hg:A1 ⟨dst,.binOp .sub t x y t2,ty,pos,af,g⟩ ops e=true:=by exact U) (h1: -9223372036854775808≤a - b:=by omega) (h2:a - b≤9223372036854775807:=by omega):Wt P ops C K (⟨dst,.binOp .sub t x y t2,ty,pos,af,g⟩::rest) e:=DT hg (fun w _=>Bw hx hy (by simp [binOp,Op.intArith,C4 (k := .i64) (n:=a - b) h1 h2])) h
theorem NJ {s d:TypeId} {ds:TypeDesc} (hg:A1 ⟨dst,.convert s d x,ty,pos,af,g⟩ ops e=true) (hx:ev e x = .int k a) (hs:P.underlying s=some ds) (hd:P.underlying d=some (.int .u32)) (h:Wt P ops C K rest (put e dst (.int .u32 a))) (h1:0≤a:=by omega) (h2:a≤4294967295:=by omega):Wt P ops C K (⟨dst,.convert s d x,ty,pos,af,g⟩::rest) e :=
 DT hg (fun w _=>by simp [execOp,hx,convert,Az hs,Az hd,Conv.intToInt,C4 (k := .u32) (n:=a) h1 h2]) h
theorem K3 (hg:A1 ⟨dst,.binOp .add t x y t2,ty,pos,af,g⟩ ops e=true) (hx:ev e x = .int .u64 a) (hy:ev e y = .int .u64 b)
  (h:Wt P ops C K rest (put e dst (.int .u64 (a+b)))) (h1:0≤a+b:=by omega) (h2:a+b≤18446744073709551615:=by omega):Wt P ops C K (⟨dst,.binOp .add t x y t2,ty,pos,af,g⟩::rest) e:=DT hg (fun w _=>Bw hx hy (by simp [binOp,Op.intArith,C4 (k := .u64) (n:=a+b) h1 h2])) h
theorem Qf (hg:A1 ⟨dst,.binOp .sub t x y t2,ty,pos,af,g⟩ ops e=true) (hx:ev e x = .int .u64 a) (hy:ev e y = .int .u64 b)
  (h:Wt P ops C K rest (put e dst (.int .u64 (a - b)))) (h1:0≤a - b:=by omega) (h2:a - b≤18446744073709551615:=by omega):Wt P ops C K (⟨dst,.binOp .sub t x y t2,ty,pos,af,g⟩::rest) e:=DT hg (fun w _=>Bw hx hy (by simp [binOp,Op.intArith,C4 (k := .u64) (n:=a - b) h1 h2])) h
theorem Lz {x:Operand} (hg:A1 ⟨dst,.move x,ty,pos,af,g⟩ ops e=true) (v:Value) (hx:ev e x=v) (h:Wt P ops C K rest (put e dst v)) :
  Wt P ops C K (⟨dst,.move x,ty,pos,af,g⟩::rest) e:=DT hg (fun w _=>by simp [execOp,hx]) h
theorem Mz {x:Operand} (hg:A1 ⟨dst,.assign x,ty,pos,af,g⟩ ops e=true) (v:Value) (hx:ev e x=v) (h:Wt P ops C K rest (put e dst v)) :
  Wt P ops C K (⟨dst,.assign x,ty,pos,af,g⟩::rest) e:=DT hg (fun w _=>by simp [execOp,hx]) h
theorem BF {x:Operand} {p:Addr} (hx:ev e x = .pointer (some p)) (h:Wt P ops C K rest (put e dst (.pointer (some p))))  (hg:A1 ⟨dst,.nilCheck x,ty,pos,af,g⟩ ops e=true:=by exact U):
  Wt P ops C K (⟨dst,.nilCheck x,ty,pos,af,g⟩::rest) e:=DT hg (fun w _=>by simp [execOp,hx]) h
theorem Aw {t el:TypeId} {x y:Operand} {b o n c s:Nat} {k:IntKind} {i:Int} (hu:BJ P t=some el) (hs:Br P el=some s)
  (hx:ev e x = .slice (some ⟨b,o,none⟩) n c) (hy:ev e y = .int k i)
  (h:Wt P ops C K rest (put e dst (.pointer (some ⟨b,o+i.toNat*s,none⟩))))  (hg:A1 ⟨dst,.indexAddr t x y,ty,pos,af,g⟩ ops e=true:=by exact U) (h0:0≤i:=by omega) (h1:i<n:=by omega):
  Wt P ops C K (⟨dst,.indexAddr t x y,ty,pos,af,g⟩::rest) e :=
 DT hg (fun w _=>by simp [execOp,hx,hy,Instr.indexAt,asIntOf,Az (B7 hu),h0,h1,B9 hs,add_none]) h
theorem NK {t el:TypeId} {x y:Operand} {b o n s:Nat} {k:IntKind} {i:Int} (hg:A1 ⟨dst,.indexAddr t x y,ty,pos,af,g⟩ ops e=true) (hu:Mr P t=some (n,el)) (hs:Br P el=some s)
  (hx:ev e x = .pointer (some ⟨b,o,none⟩)) (hy:ev e y = .int k i)
  (h:Wt P ops C K rest (put e dst (.pointer (some ⟨b,o+i.toNat*s,none⟩))))  (h0:0≤i:=by omega) (h1:i<n:=by omega):
  Wt P ops C K (⟨dst,.indexAddr t x y,ty,pos,af,g⟩::rest) e :=
 DT hg (fun w _=>by simp [execOp,hx,hy,Instr.indexAt,asIntOf,Az (NC hu),Instr.sureAddr,h0,h1,B9 hs,add_none]) h
theorem t_len {t:TypeId} {x:Operand} {a:Option Addr} {n c:Nat} {el:TypeId} (hg:A1 ⟨dst,.call ⟨.builtin .len,#[x],#[t]⟩,ty,pos,af,g⟩ ops e=true) (hu:BJ P t=some el) (hx:ev e x = .slice a n c)
  (h:Wt P ops C K rest (put e dst (.int .i64 n))) :
  Wt P ops C K (⟨dst,.call ⟨.builtin .len,#[x],#[t]⟩,ty,pos,af,g⟩::rest) e :=
 DT hg (fun w _=>by simp [execOp,resolve,invoke,builtin,hx,Builtin.len_,Az (B7 hu),goInt]) h
theorem C8 {x:Operand} {i:Nat} {vs:Array Value} {v:Value} (hx:ev e x = .tuple vs) (hv:vs[i]? = some v) (h:Wt P ops C K rest (put e dst v))  (hg:A1 ⟨dst,.extract x i,ty,pos,af,g⟩ ops e=true:=by exact U):
  Wt P ops C K (⟨dst,.extract x i,ty,pos,af,g⟩::rest) e :=
 DT hg (fun w _=>by simp [execOp,hx,Instr.extract,hv]) h
theorem A8 {t:TypeId} {x:Operand} {i b o off:Nat} (hf:Bi P t i=some off) (hx:ev e x = .pointer (some ⟨b,o,none⟩))
  (h:Wt P ops C K rest (put e dst (.pointer (some ⟨b,o+off,none⟩))))  (hg:A1 ⟨dst,.fieldAddr t x i,ty,pos,af,g⟩ ops e=true:=by exact U):
  Wt P ops C K (⟨dst,.fieldAddr t x i,ty,pos,af,g⟩::rest) e:=by
 unfold Bi at hf
 split at hf
 ·rename_i fs hu
  split at hf
  ·rename_i f hf1
   split at hf
   ·rename_i s hs
    injection hf with hf
    subst hf;exact DT hg (fun w _=>by simp [execOp,hx,Instr.fieldAt,Az hu,hf1,Instr.sureAddr,fieldPlace,B9 hs,add_none]) h
   ·cases hf
  ·cases hf
 ·cases hf
end
section
variable {t t2:TypeId} {x y:Operand} {a b n:Nat} {s d:TypeId}
end
end
end Go.GV
namespace Go.GV
open Go
section
variable {P:Program} {r:Option Nat} {ops rest:List Oper} {Q:Exit→Env→World→Prop} {e:Env} {w:World} {C:World→Prop} {K:Env→Prop}
 {dst:Option Tmp} {ty:TypeId} {pos:String} {af:Array Edge} {g:Option (Nat × Bool)} {x:Operand}
theorem Ad {k:IntKind} {i:Int} (hx:ev e x=(.int k i)) (h:Al P r ops Q rest (put e dst (.int k i)) w) (hg:A1 ⟨dst,.move x,ty,pos,af,g⟩ ops e=true:=by exact U):Al P r ops Q (⟨dst,.move x,ty,pos,af,g⟩::rest) e w:=C3 hg (.int k i) hx h
theorem AJ {k:IntKind} {i:Int} (hx:ev e x=(.int k i)) (h:Wq P ops C K rest (put e dst (.int k i))) (hg:A1 ⟨dst,.move x,ty,pos,af,g⟩ ops e=true:=by exact U):Wq P ops C K (⟨dst,.move x,ty,pos,af,g⟩::rest) e:=Lx hg (.int k i) hx h
theorem AG {k:IntKind} {i:Int} (hx:ev e x=(.int k i)) (h:Wt P ops C K rest (put e dst (.int k i))) (hg:A1 ⟨dst,.move x,ty,pos,af,g⟩ ops e=true:=by exact U):Wt P ops C K (⟨dst,.move x,ty,pos,af,g⟩::rest) e:=Lz hg (.int k i) hx h
theorem Ap {b:Bool} (hx:ev e x=(.bool b)) (h:Al P r ops Q rest (put e dst (.bool b)) w) (hg:A1 ⟨dst,.move x,ty,pos,af,g⟩ ops e=true:=by exact U):Al P r ops Q (⟨dst,.move x,ty,pos,af,g⟩::rest) e w:=C3 hg (.bool b) hx h
theorem DC {b:Bool} (hx:ev e x=(.bool b)) (h:Wq P ops C K rest (put e dst (.bool b))) (hg:A1 ⟨dst,.move x,ty,pos,af,g⟩ ops e=true:=by exact U):Wq P ops C K (⟨dst,.move x,ty,pos,af,g⟩::rest) e:=Lx hg (.bool b) hx h
theorem An {a:Option Addr} {n c:Nat} (hg:A1 ⟨dst,.move x,ty,pos,af,g⟩ ops e=true) (hx:ev e x=(.slice a n c)) (h:Al P r ops Q rest (put e dst (.slice a n c)) w):Al P r ops Q (⟨dst,.move x,ty,pos,af,g⟩::rest) e w:=C3 hg (.slice a n c) hx h
theorem Bx {a:Option Addr} {n c:Nat} (hx:ev e x=(.slice a n c)) (h:Wq P ops C K rest (put e dst (.slice a n c))) (hg:A1 ⟨dst,.move x,ty,pos,af,g⟩ ops e=true:=by exact U):Wq P ops C K (⟨dst,.move x,ty,pos,af,g⟩::rest) e:=Lx hg (.slice a n c) hx h
theorem AM {a:Option Addr} {n c:Nat} (hx:ev e x=(.slice a n c)) (h:Wt P ops C K rest (put e dst (.slice a n c))) (hg:A1 ⟨dst,.move x,ty,pos,af,g⟩ ops e=true:=by exact U):Wt P ops C K (⟨dst,.move x,ty,pos,af,g⟩::rest) e:=Lz hg (.slice a n c) hx h
theorem AA {p:Option Addr} (hx:ev e x=(.pointer p)) (h:Al P r ops Q rest (put e dst (.pointer p)) w) (hg:A1 ⟨dst,.move x,ty,pos,af,g⟩ ops e=true:=by exact U):Al P r ops Q (⟨dst,.move x,ty,pos,af,g⟩::rest) e w:=C3 hg (.pointer p) hx h
theorem E7 {p:Option Addr} (hx:ev e x=(.pointer p)) (h:Wq P ops C K rest (put e dst (.pointer p))) (hg:A1 ⟨dst,.move x,ty,pos,af,g⟩ ops e=true:=by exact U):Wq P ops C K (⟨dst,.move x,ty,pos,af,g⟩::rest) e:=Lx hg (.pointer p) hx h
theorem Cw {p:Option Addr} (hx:ev e x=(.pointer p)) (h:Wt P ops C K rest (put e dst (.pointer p))) (hg:A1 ⟨dst,.move x,ty,pos,af,g⟩ ops e=true:=by exact U):Wt P ops C K (⟨dst,.move x,ty,pos,af,g⟩::rest) e:=Lz hg (.pointer p) hx h
theorem C9 {l:Array Value} (hx:ev e x=(.tuple l)) (h:Al P r ops Q rest (put e dst (.tuple l)) w) (hg:A1 ⟨dst,.move x,ty,pos,af,g⟩ ops e=true:=by exact U):Al P r ops Q (⟨dst,.move x,ty,pos,af,g⟩::rest) e w:=C3 hg (.tuple l) hx h
theorem IQ {l:Array Value} (hg:A1 ⟨dst,.move x,ty,pos,af,g⟩ ops e=true) (hx:ev e x=(.tuple l)) (h:Wt P ops C K rest (put e dst (.tuple l))):Wt P ops C K (⟨dst,.move x,ty,pos,af,g⟩::rest) e:=Lz hg (.tuple l) hx h
theorem M1 {p:Option Nat} (hg:A1 ⟨dst,.move x,ty,pos,af,g⟩ ops e=true) (hx:ev e x=(.map p)) (h:Al P r ops Q rest (put e dst (.map p)) w):Al P r ops Q (⟨dst,.move x,ty,pos,af,g⟩::rest) e w:=C3 hg (.map p) hx h
theorem Ae {k:IntKind} {i:Int} (hx:ev e x=(.int k i)) (h:Al P r ops Q rest (put e dst (.int k i)) w) (hg:A1 ⟨dst,.assign x,ty,pos,af,g⟩ ops e=true:=by exact U):Al P r ops Q (⟨dst,.assign x,ty,pos,af,g⟩::rest) e w:=CX hg (.int k i) hx h
theorem K4 {k:IntKind} {i:Int} (hg:A1 ⟨dst,.assign x,ty,pos,af,g⟩ ops e=true) (hx:ev e x=(.int k i)) (h:Wq P ops C K rest (put e dst (.int k i))):Wq P ops C K (⟨dst,.assign x,ty,pos,af,g⟩::rest) e:=Rz hg (.int k i) hx h
theorem Gj {k:IntKind} {i:Int} (hg:A1 ⟨dst,.assign x,ty,pos,af,g⟩ ops e=true) (hx:ev e x=(.int k i)) (h:Wt P ops C K rest (put e dst (.int k i))):Wt P ops C K (⟨dst,.assign x,ty,pos,af,g⟩::rest) e:=Mz hg (.int k i) hx h
theorem Am {b:Bool} (hx:ev e x=(.bool b)) (h:Al P r ops Q rest (put e dst (.bool b)) w) (hg:A1 ⟨dst,.assign x,ty,pos,af,g⟩ ops e=true:=by exact U):Al P r ops Q (⟨dst,.assign x,ty,pos,af,g⟩::rest) e w:=CX hg (.bool b) hx h
theorem Aj {a:Option Addr} {n c:Nat} (hx:ev e x=(.slice a n c)) (h:Al P r ops Q rest (put e dst (.slice a n c)) w) (hg:A1 ⟨dst,.assign x,ty,pos,af,g⟩ ops e=true:=by exact U):Al P r ops Q (⟨dst,.assign x,ty,pos,af,g⟩::rest) e w:=CX hg (.slice a n c) hx h
theorem K5 {a:Option Addr} {n c:Nat} (hg:A1 ⟨dst,.assign x,ty,pos,af,g⟩ ops e=true) (hx:ev e x=(.slice a n c)) (h:Wt P ops C K rest (put e dst (.slice a n c))):Wt P ops C K (⟨dst,.assign x,ty,pos,af,g⟩::rest) e:=Mz hg (.slice a n c) hx h
theorem BV {p:Option Addr} (hx:ev e x=(.pointer p)) (h:Al P r ops Q rest (put e dst (.pointer p)) w) (hg:A1 ⟨dst,.assign x,ty,pos,af,g⟩ ops e=true:=by exact U):Al P r ops Q (⟨dst,.assign x,ty,pos,af,g⟩::rest) e w:=CX hg (.pointer p) hx h
theorem NL {p:Option Nat} (hg:A1 ⟨dst,.assign x,ty,pos,af,g⟩ ops e=true) (hx:ev e x=(.map p)) (h:Al P r ops Q rest (put e dst (.map p)) w):Al P r ops Q (⟨dst,.assign x,ty,pos,af,g⟩::rest) e w:=CX hg (.map p) hx h
end
end Go.GV
namespace Go.GV
open Go
def bv (b:UInt8):Value := .int .u8 (b.toNat:Int)
def B8 (b:UInt8):List Value:=[bv b]
def str (l:List UInt8):Value := .string ⟨l.toArray⟩
theorem VP (l:List UInt8):∀ v∈l.map bv,AR v=true:=fun v hv=>by
 obtain ⟨b,_,rfl⟩:=List.mem_map.1 hv; rfl
theorem Pf {l m:List UInt8}:((⟨l.toArray⟩:ByteArray).toList == (⟨m.toArray⟩:ByteArray).toList)=decide (l=m):=by
 rw [ByteArray.toList_eq,ByteArray.toList_eq];rw [Bool.eq_iff_iff]; simp
section
variable {P:Program} {r:Option Nat} {ops rest:List Oper} {Q:Exit→Env→World→Prop} {e:Env} {w w0:World} {S:List Nat} {L:List (Nat × Obj)}
 {dst:Option Tmp} {ty:TypeId} {pos:String} {af:Array Edge} {g:Option (Nat × Bool)} {C:World→Prop} {K:Env→Prop}
theorem R7 {src dst' el:TypeId} {a:Option Addr} {c:Nat} {l:List UInt8} (hs:BJ P src=some el) (he:P.underlying el=some (.int .u8)) (hd:P.underlying dst'=some .string) (R:Rd w a 1 B8 l) :
  (convert src dst' (.slice a l.length c)).run P w = .ok (str l) w:=by
 cases a with
 | none =>
  have h0:l=[]:=by
   cases l with
   | nil=>rfl
   | cons x l=>obtain ⟨b,o,h⟩:=R.some' (by simp); cases h
  subst h0;simp [convert,Az (B7 hs),Az hd,Az he,Conv.bytesToString,str];rfl
 | some p =>
  refine run_convert_bytes_back w src dst' el p c l (B7 hs) he hd fun j hj=>?_;have hx:l[j]? = some l[j]:=List.getElem?_eq_getElem hj;obtain ⟨b,o,hp⟩:=R.some' (by rintro rfl; simp at hj)
  injection hp with hp
  subst hp;have:=Rd.one (f:=bv) R hx;rw [add_none]
  simpa [adr,bv] using this
theorem E8 {s d el:TypeId} {x:Operand} {a:Option Addr} {c:Nat} {l:List UInt8} (hs:BJ P s=some el) (he:P.underlying el=some (.int .u8)) (hd:P.underlying d=some .string)
  (hx:ev e x = .slice a l.length c) (R:Rd w a 1 B8 l) (h:Al P r ops Q rest (put e dst (str l)) w) (hg:A1 ⟨dst,.convert s d x,ty,pos,af,g⟩ ops e=true:=by exact U):Al P r ops Q (⟨dst,.convert s d x,ty,pos,af,g⟩::rest) e w :=
 Be hg rfl (by simp [execOp,hx,R7 hs he hd R]) h
theorem Jv {t t2:TypeId} {x y:Operand} {l m:List UInt8} (hg:A1 ⟨dst,.binOp .eql t x y t2,ty,pos,af,g⟩ ops e=true) (hx:ev e x=str l) (hy:ev e y=str m)
  (h:Al P r ops Q rest (put e dst (.bool (decide (l=m)))) w):Al P r ops Q (⟨dst,.binOp .eql t x y t2,ty,pos,af,g⟩::rest) e w :=
 Be hg rfl (by
  have hq:eqGuard .eql t x y (.string ⟨l.toArray⟩) (.string ⟨m.toArray⟩)=pure ():=rfl
  simp only [execOp,hx,hy,hq,Sem.run_bind,Sem.run_pure,Result.andThen_ok,binOp,str,Op.stringOp,Pf]) h
theorem R9 {t t2:TypeId} {x y:Operand} {l m:List UInt8} (hg:A1 ⟨dst,.binOp .neq t x y t2,ty,pos,af,g⟩ ops e=true) (hx:ev e x=str l) (hy:ev e y=str m)
  (h:Al P r ops Q rest (put e dst (.bool (!decide (l=m)))) w):Al P r ops Q (⟨dst,.binOp .neq t x y t2,ty,pos,af,g⟩::rest) e w :=
 Be hg rfl (by
  have hq:eqGuard .neq t x y (.string ⟨l.toArray⟩) (.string ⟨m.toArray⟩)=pure ():=rfl
  simp only [execOp,hx,hy,hq,Sem.run_bind,Sem.run_pure,Result.andThen_ok,binOp,str,Op.stringOp,Pf]) h
theorem Gk {t k el:TypeId} {kk:IntKind} {x y z:Operand} {b j:Nat} {o:Obj} {m:List (Int × Value)} {n:Int} (v:Value) (hg:A1 ⟨dst,.insert t x y z,ty,pos,af,g⟩ ops e=true)
  (ht:Gv P t=some (k,el)) (hk:P.underlying k=some (.int kk)) (hx:ev e x = .map (some b)) (hy:ev e y = .int kk n) (hv:ev e z=v) (H:Ctx w0 S w L) (hl:L[j]? = some (b,o)) (hM:EG kk m o)
  (h:∀ o' w',EG kk (Jr m n v) o'→Ctx w0 S w' (L.set j (b,o'))→Al P r ops Q rest (put e dst undef) w'):Al P r ops Q (⟨dst,.insert t x y z,ty,pos,af,g⟩::rest) e w:=by
 obtain ⟨o',w',hr,hM',H'⟩:=Kf (n:=n) v ht hk H hl hM;exact IM hg U (by simp [execOp,hx,hy,hv,hr]) (h o' w' hM' H')
theorem VQ (l:List UInt8) (n:Nat):(⟨l.toArray⟩:ByteArray)[n]? = l[n]? := by
 by_cases h:n<l.length
 ·rw [List.getElem?_eq_getElem h,getElem?_pos (⟨l.toArray⟩:ByteArray) n (by simpa [ByteArray.size] using h)];rfl
 ·rw [List.getElem?_eq_none (by omega),getElem?_neg (⟨l.toArray⟩:ByteArray) n (by simpa [ByteArray.size] using h)]
theorem Qg {t:TypeId} {x y:Operand} {k:IntKind} {i:Int} {l:List UInt8} (b:UInt8) (hg:A1 ⟨dst,.index t x y,ty,pos,af,g⟩ ops e=true) (hu:P.underlying t=some .string) (hy:ev e y = .int k i)
  (hb:l[i.toNat]? = some b) (h:Al P r ops Q rest (put e dst (bv b)) w) (hx:ev e x=str l:=by kernel_rfl) (h0:0≤i:=by omega):Al P r ops Q (⟨dst,.index t x y,ty,pos,af,g⟩::rest) e w :=
 Be hg rfl (by simp [execOp,Instr.index,hx,hy,str,asIntOf,Az hu,h0,VQ,hb,bv]) h
theorem RC:∀ (A B C M:List Value),B.length=M.length→over (A++(B++C)) A.length M=A++(M++C):=by
 intro A B C M
 induction M generalizing A B with
 | nil=>intro h; have:B=[]:=List.eq_nil_of_length_eq_zero (by simpa using h); subst this; simp [over]
 | cons v M ih =>
  intro h
  cases B with
  | nil=>simp at h
  | cons x B =>
   have:=ih (A++[v]) B (by simpa using h);simp only [over];rw [show (A++(x::B++C)).set A.length v=A++[v]++(B++C) from by simp];rw [show A.length+1=(A++[v]).length from by simp,this];simp
end
end Go.GV
namespace Go.GV
open Go
section
variable {P:Program} {r:Option Nat} {ops rest:List Oper} {Q:Exit→Env→World→Prop} {e:Env} {w w0:World} {S:List Nat} {L:List (Nat × Obj)}
 {dst:Option Tmp} {ty:TypeId} {pos:String} {af:Array Edge} {g:Option (Nat × Bool)}
end
end Go.GV
namespace Go.GV
open Go
section
variable {P:Program} {r:Option Nat} {ops rest:List Oper} {Q:Exit→Env→World→Prop} {e:Env} {w w0:World} {S:List Nat} {L:List (Nat × Obj)}
 {dst:Option Tmp} {ty:TypeId} {pos:String} {af:Array Edge} {g:Option (Nat × Bool)} {n:Nat}
theorem Dl {α:Type} {x:Code} {K:Env→World→Prop} (D:Nat) (live:α→List (Nat × Value)) (I:α→World→Prop) (hD:D6 D x=true)
  (h:W P r n x (Dp (fun e' w'=>∃ z,e'.ds=e.ds∧Io e' (live z)∧I z w') Q) e w)
  (hk:∀ z j w',I z w'→K (N3 (PX e D j) (live z)) w'):W P r n x (Dp K Q) e w:=by
 refine De x (G4 (S:=Same D e) ?_) (DB x _ e w hD (Same.refl _ _) h);rintro e' w' hs ⟨z,hd,hl,hI⟩;have:=hk z e'.g w' hI;rw [← hs.eq hd,IZ hl] at this;exact this
def VR (l:Nat) (R:Value→World→Prop):Exit→Env→World→Prop
 | .normal,_,w=>∃ lo,w.heap[l]? = some (.loop lo)∧R (.bool true) (w.putObj l (.loop { lo with state := .ready,pending:=none }))
 | .ret,_,w=>∃ lo,w.heap[l]? = some (.loop lo)∧R (.bool false) (w.putObj l (.loop { lo with state := .done,pending:=some .ret }))
 | .exit id,_,w=>∃ lo,w.heap[l]? = some (.loop lo)∧R (.bool false) (w.putObj l (.loop { lo with state := .done,pending:=some (.exit id) }))
 | .goto t,_,w=>∃ lo,w.heap[l]? = some (.loop lo)∧R (.bool false) (w.putObj l (.loop { lo with state := .done,pending:=some (.goto t) }))
 | _,_,_=>False
def VS (P:Program) (l n:Nat) (body:Code) (R:Value→World→Prop):Exit→Env→World→Prop
 | .normal,e,w=>∃ lo,w.heap[l]? = some (.loop lo)∧lo.state = .ready∧W P (some l) n body (VR l R) e (w.putObj l (.loop { lo with state := .busy }))
 | _,_,_=>False
theorem NM {l f:Nat} {tmps:Array Value} {assign body:Code} {R:Value→World→Prop} (e0:Env) (hs:Sim n e0 { tmps:=tmps,defers:=[] }) (hfit:(F9 n assign && F9 n body)=true)
  (h:W P (some l) n assign (VS P l n body R) e0 w):RoundIn Fence.wide 0 P l f tmps assign body w fun x w'=>∃ v,x = .returned v∧R v w':=by
 simp only [Bool.and_eq_true] at hfit;refine roundIn_of_wpIn trivial ?_;have h1:=Dv (r:=some l) assign _ e0 w h hfit.1 _ hs;refine wpIn_mono (F:=Fr (some l)) h1 ?_;rintro x a w1 ⟨e1,hs1,hq⟩
 cases x with
 | normal =>
  obtain ⟨lo,hl,hst,hb⟩:=hq;refine ⟨_,run_beginRound hl hst,?_⟩;refine wpIn_mono (F:=Fr (some l)) (Dv (r:=some l) body _ e1 _ hb hfit.2 _ hs1) ?_;rintro y a2 w2 ⟨e2,_,hq2⟩
  cases y with
  | normal=>obtain ⟨lo2,hl2,hR⟩:=hq2; exact ⟨_,_,run_endRound none hl2,_,rfl,hR⟩
  | ret=>obtain ⟨lo2,hl2,hR⟩:=hq2; exact ⟨_,_,run_endRound (some .ret) hl2,_,rfl,hR⟩
  | exit id=>obtain ⟨lo2,hl2,hR⟩:=hq2; exact ⟨_,_,run_endRound (some (.exit id)) hl2,_,rfl,hR⟩
  | goto t=>obtain ⟨lo2,hl2,hR⟩:=hq2; exact ⟨_,_,run_endRound (some (.goto t)) hl2,_,rfl,hR⟩
  | panic c=>exact hq2.elim
  | outgrown=>exact hq2.elim
 | exit id=>exact hq.elim
 | goto t=>exact hq.elim
 | ret=>exact hq.elim
 | panic c=>exact hq.elim
 | outgrown=>exact hq.elim
def YieldAt (P:Program) (l:Nat) (vs:List Value) (w:World) (R:Value→World→Prop):Prop :=
 ∃ fn tmps assign body,(Instr.yield l vs.toArray).run P w = .ok (.round l fn tmps assign body) w∧RoundIn Fence.wide 0 P l fn tmps assign body w fun x w'=>∃ v,x = .returned v∧R v w'
theorem YieldAt.mono {l:Nat} {vs:List Value} {R R':Value→World→Prop} (h:YieldAt P l vs w R) (hr:∀ v w',R v w'→R' v w'):YieldAt P l vs w R' :=
 let ⟨fn,tmps,assign,body,h1,h2⟩:=h
 ⟨fn,tmps,assign,body,h1,RoundIn.mono h2 fun _ _ ⟨v,hx,hR⟩=>⟨v,hx,hr _ _ hR⟩⟩
theorem RE {fo:Operand} {l:Nat} {args:Array Operand} {ats:Array TypeId} {vs:List Value} {R:Value→World→Prop} (hg:A1 ⟨dst,.call ⟨.value fo,args,ats⟩,ty,pos,af,g⟩ ops e=true)
  (hfo:ev e fo = .func (.yield l) #[] #[]) (hy:YieldAt P l vs w R) (ha:args.toList.map (ev e)=vs) (h:∀ v w',R v w'→Al P r ops Q rest (put e dst v) w') :
  Al P r ops Q (⟨dst,.call ⟨.value fo,args,ats⟩,ty,pos,af,g⟩::rest) e w:=by
 obtain ⟨fn,tmps,assign,body,hy,hr⟩:=hy;have hav:args.map (ev e)=vs.toArray:=by subst ha; apply Array.ext'; simp only [Array.toList_map]
 unfold Al;rw [if_pos hg,Oper.semAt_eq r _ _ (FH rfl)]
 have hrun:(execOp (ev e) ⟨dst,.call ⟨.value fo,args,ats⟩,ty,pos,af,g⟩).run P w = .ok (.round l fn tmps assign body) w:=by
  simp [execOp,resolve,hfo,Deferred.ofValue,invoke,hav,hy]
 rw [hrun];exact RoundIn.mono hr fun _ _ ⟨v,hx,hR⟩=>⟨v,hx,h _ _ hR⟩
theorem RF {l:Nat} {vs:List Value} {lo:Loop} {R:Value→World→Prop} (hl:w.heap[l]? = some (.loop lo)) (hs:vs.length=lo.params.size)
  (hr:RoundIn Fence.wide 0 P l lo.fn ((lo.params.zip vs.toArray).foldl (fun tmps (t,a)=>tmps.setIfInBounds t a) lo.tmps) lo.assign lo.body w fun x w'=>∃ v,x = .returned v∧R v w'):YieldAt P l vs w R :=
 ⟨_,_,_,_,run_yield hl (by simpa using hs),hr⟩
theorem M2 {f:Operand} {ps:Array Tmp} {assign body:Code} {gf:Nat} {ca:Array Value} (hf:ev e f = .func (.func gf) #[] ca) (hc:Aq P gf=true)
  (h:∀ fn tmps,tmps.size=n→(∀ i,tmps.getD i undef=e.g i)→∀ D l w2,D=w.heap.size→l=w.heap.size+1→Ext [] w w2→w2.heap[D]? = some (.deferred (some [])) →
   w2.heap[l]? = some (.loop { state := .ready,pending:=none,fn,tmps,params:=ps,assign,body,defers:=D }) →
   Ret P gf (#[.func (.yield l) #[] #[]]++ca) w2 fun _ w3=>∃ lo,w3.heap[l]? = some (.loop lo)∧lo.state ≠ .busy ∧
    Ht Q ⟨e.g,{ target := .collected D,args:=#[] }::e.ds⟩ (w3.putObj l (.loop { lo with state := .exhausted })) lo.pending):W P none n (.rangeFunc f ps assign body) Q e w:=by
 refine ⟨_,rfl,fun fn tmps hn ht=>?_⟩;have hx1:=Ext.alloc ([]:List Nat) w (.deferred (some []));have hx2:=Ext.alloc ([]:List Nat) (w.alloc (.deferred (some []))) (.loop { state := .ready,pending:=none,fn,tmps,params:=ps,assign,body,defers:=w.heap.size });have hD:(w.alloc (.deferred (some []))).heap[w.heap.size]? = some (.deferred (some [])):=World.alloc_heap_new w _
 have h1:=h fn tmps hn ht w.heap.size (w.heap.size+1) _ rfl rfl (hx1.trans hx2) (by rw [hx2.block w.heap.size (by simp) (by simp)]; exact hD)
  (by have:=World.alloc_heap_new (w.alloc (.deferred (some []))) (.loop { state := .ready,pending:=none,fn,tmps,params:=ps,assign,body,defers:=w.heap.size }); rwa [World.size_alloc] at this)
 refine ⟨gf,#[],ca,hf,?_,?_⟩
 ·exact DY hc _ _
 ·have hsz:(E3 none w).heap.size=w.heap.size+1:=by simp [E3]
  simp only [hsz];have harr:#[]++#[Value.func (.yield (w.heap.size+1)) #[] #[]]++ca=#[Value.func (.yield (w.heap.size+1)) #[] #[]]++ca:=by simp
  rw [harr];exact h1
def Marks:List Deferred→World→(World→Prop)→Prop
 | [],w,K=>K w
 | d::ds,w,K=>∃ D,d.target = .collected D∧w.heap[D]? = some (.deferred (some []))∧Marks ds (w.putObj D (.deferred none)) K
def Vm (P:Program) (fn:Func) (R:Value→World→Prop):Exit→Env→World→Prop
 | .normal,e,w | .ret,e,w=>Marks e.ds w fun w'=>∀ tmps:Array Value,(∀ i,tmps.getD i undef=e.g i)→∃ v,(results fn tmps).run P w' = .ok v w'∧R v w'
 | _,_,_=>False
theorem GO {fn:Func} {R:Value→World→Prop} {tmps:Array Value}:∀ {ds:List Deferred} {w:World},(Marks ds w fun w'=>∃ v,(results fn tmps).run P w' = .ok v w'∧R v w') →
  LeavesInM Fence.wide 0 P fn tmps (fun x w'=>∃ v,x = .returned v∧R v w') ds .returning w
 | [],w,⟨v,h1,h2⟩=>⟨v,h1,v,rfl,h2⟩
 | d::ds,w,⟨D,h1,h2,h3⟩=>⟨by simp,.inl ⟨D,_,h1,run_takeDeferred h2,GO h3⟩⟩
theorem Marks.mono:∀ {ds:List Deferred} {w:World} {K K':World→Prop},(∀ w,K w→K' w)→Marks ds w K→Marks ds w K'
 | [],_,_,_,h,hk=>h _ hk
 | _::_,_,_,_,h,⟨D,h1,h2,h3⟩=>⟨D,h1,h2,Marks.mono h h3⟩
theorem Qh {f:FuncId} {fn:Func} {c:Code} {args:Array Value} {R:Value→World→Prop} (hf:P.funcs[f]? = some fn) (hb:fn.body=some c)
  (l:List Value) (hargs:args=l.toArray)
  (h:W P none fn.ntmps c (Vm P fn R) ⟨fun i=>l.getD i undef,[]⟩ w) (hfit:(Nat.ble l.length fn.ntmps && F9 fn.ntmps c)=true:=by kernel_rfl):Ret P f args w R:=by
 simp only [Bool.and_eq_true] at hfit;refine callsIn_of_wp_marks hf hb trivial ?_;refine wpIn_mono (Dv (r:=none) c _ _ w h hfit.2 _ ?_) ?_
 ·refine ⟨rfl,?_,fun i=>?_⟩
  ·subst hargs;have:=Nat.le_of_ble_eq_true hfit.1;simp; omega
  ·subst hargs;simp only [Array.getD_eq_getD_getElem?,List.getD_eq_getElem?_getD];rw [Array.getElem?_append]
   by_cases hi:i<l.length
   ·simp [hi]
   ·simp only [List.size_toArray,if_neg hi];rw [List.getElem?_eq_none (by omega)];rw [Array.getElem?_replicate]
    split <;> rfl
 ·rintro x a' w' ⟨e',hs',hq⟩
  have hgo:∀ w',(Marks e'.ds w' fun w'=>∀ tmps:Array Value,(∀ i,tmps.getD i undef=e'.g i)→∃ v,(results fn tmps).run P w' = .ok v w'∧R v w') →
    LeavesInM Fence.wide 0 P fn a'.tmps (fun x w'=>∃ v,x = .returned v∧R v w') a'.defers .returning w':=fun w' hm=>by
   rw [hs'.1];exact GO (Marks.mono (fun w hk=>hk _ hs'.2.2) hm)
  cases x with
  | normal=>exact hgo _ hq
  | ret=>exact hgo _ hq
  | exit id=>exact hq.elim
  | goto l=>exact hq.elim
  | panic c=>exact hq.elim
  | outgrown=>exact hq.elim
theorem U2 {fn:Func} {R:Value→World→Prop} {t:Tmp} {v:Value} (hr:fn.results=#[.tmp t]) (hv:e.g t=v) (h:Marks e.ds w (R v)):Vm P fn R .ret e w :=
 Marks.mono (fun w h tmps ht=>by
  have h1:=(ht t).trans hv;rw [Array.getD_eq_getD_getElem?] at h1
  exact ⟨v,by simp [results,hr,h1],h⟩) h
end
end Go.GV
namespace Go.GV
open Go
section
variable {P:Program} {e:Env} {w w0:World} {S:List Nat} {L:List (Nat × Obj)} {fn:Func} {R:Value→World→Prop}
theorem U3 {a s2:Tmp} {t:TypeId} {p:Addr} {v v2:Value} (hr:fn.results=#[.cell a t,.tmp s2]) (hd:e.ds=[]) (ha:e.g a = .pointer (some p)) (hv:(loadVar t p).run P w = .ok v w) (h2:e.g s2=v2) (h:R (.tuple #[v,v2]) w):Jf P fn R .ret e w :=
 ⟨hd,fun tmps ht=>by
  have h1:=(ht a).trans ha;have g2:=(ht s2).trans h2;rw [Array.getD_eq_getD_getElem?] at h1 g2
  exact ⟨.tuple #[v,v2],by simp [results,hr,h1,g2,asAddr,hv],h⟩⟩
theorem Pg {a s2:Tmp} {t t2:TypeId} {b k s:Nat} {l:List Value} {v2:Value} (hr:fn.results=#[.cell a t,.tmp s2]) (hd:e.ds=[]) (ha:e.g a = .pointer (some ⟨b,0,none⟩)) (hag:Cb P t=some true) (hs:Br P t=some s)
  (H:Ctx w0 S w L) (hk:L[k]? = some (b,Bl t2 l)) (hl:l.length=s) (h2:e.g s2=v2) (h:R (.tuple #[.agg l.toArray,v2]) w):Jf P fn R .ret e w :=
 U3 hr hd ha (Eh hag hs hl (fun j v hv=>by rw [A6 (H.get hk),Nat.zero_add]; exact hv)) h2 h
end
section
variable {P:Program} {ops rest:List Oper} {e:Env} {dst:Option Tmp} {ty:TypeId} {pos:String} {af:Array Edge} {g:Option (Nat × Bool)} {C:World→Prop} {K:Env→Prop}
theorem M3 {t:TypeId} {parts:Array (Nat × Operand)} {pl:List (Nat × Nat)} {zl:List Value} (l:List Value) (hg:A1 ⟨dst,.build t parts,ty,pos,af,g⟩ ops e=true) (hp:Ct P t=some pl) (hz:B3 P t=some zl)
  (h:Wt P ops C K rest (put e dst (.agg l.toArray)))  (hl:Instr.fill (fun i=>pl.toArray[i]?) zl.toArray (parts.toList.map fun p=>(p.1,ev e p.2))=some l.toArray:=by kernel_rfl):
  Wt P ops C K (⟨dst,.build t parts,ty,pos,af,g⟩::rest) e:=by
 refine DT hg (fun w _=>?_) h;have hb:P.built t (parts.map fun (i,x)=>(i,ev e x)).toList=some l.toArray:=My hp hz (by rw [Array.toList_map]; exact hl);simp [execOp,run_build w t _ _ hb]
end
end Go.GV
namespace Go.GV
open Go
section
variable {P:Program} {r:Option Nat} {n:Nat} {ops rest:List Oper} {Q:Exit→Env→World→Prop} {e:Env} {w w0:World} {S:List Nat} {L:List (Nat × Obj)}
 {dst:Option Tmp} {ty:TypeId} {pos:String} {af:Array Edge} {g:Option (Nat × Bool)}
def RetD (P:Program) (f:FuncId) (args:Array Value) (w:World) (R:World→Prop):Prop :=
 CallsDIn Fence.wide 0 P f args .returning w fun x u w'=>u = .returning∧∃ v,x = .returned v∧R w'
def Defs (P:Program):List Deferred→World→(World→Prop)→Prop
 | [],w,K=>K w
 | d::ds,w,K=>∃ f ca,d={ target := .fn (.func f) ca,args:=#[] }∧Aq P f=true∧RetD P f ca w fun w'=>Defs P ds w' K
def QretD (P:Program) (fn:Func) (R:Value→World→Prop):Exit→Env→World→Prop
 | .normal,e,w | .ret,e,w=>Defs P e.ds w fun w'=>∀ tmps:Array Value,(∀ i,tmps.getD i undef=e.g i)→∃ v,(results fn tmps).run P w' = .ok v w'∧R v w'
 | _,_,_=>False
theorem Defs.mono:∀ {ds:List Deferred} {w:World} {K K':World→Prop},(∀ w,K w→K' w)→Defs P ds w K→Defs P ds w K'
 | [],_,_,_,h,hk=>h _ hk
 | _::_,_,_,_,h,⟨f,ca,h1,h2,h3⟩=>⟨f,ca,h1,h2,CallsDIn.mono h3 fun _ _ _ hx=>⟨hx.1,let ⟨v,h4,h5⟩:=hx.2; ⟨v,h4,Defs.mono h h5⟩⟩⟩
theorem Qi {t el:TypeId} {m s:Nat} {zl:List Value} {ps:List (Nat × Value)} {l:Array Value} (hu:Mr P t=some (m,el)) (hs:Br P el=some s) (hz:B3 P t=some zl)
  (hl:Instr.fill (fun i=>some (i*s,s)) zl.toArray ps=some l):P.built t ps=some l:=by
 unfold B3 at hz;unfold Program.built;unfold Br at hs;have hu':=NC hu
 cases hi:P.info? t with
 | none=>rw [hi] at hz; cases hz
 | some it =>
  rw [hi] at hz
  cases hzz:it.zero with
  | none=>simp [hzz] at hz
  | some z =>
   simp only [Option.bind_some,hzz,Option.map_some,Option.some.injEq] at hz;subst hz
   cases hie:P.info? el with
   | none=>rw [hie] at hs; cases hs
   | some ie =>
    rw [hie] at hs;simp only [Option.map_some,Option.some.injEq] at hs;subst hs;simp only [hu',hzz,hie]
    simpa using hl
theorem Qj {t el:TypeId} {parts:Array (Nat × Operand)} {m s:Nat} {zl:List Value} (l:List Value) (hg:A1 ⟨dst,.build t parts,ty,pos,af,g⟩ ops e=true) (hu:Mr P t=some (m,el)) (hs:Br P el=some s) (hz:B3 P t=some zl)
  (h:Al P r ops Q rest (put e dst (.agg l.toArray)) w)  (hl:Instr.fill (fun i=>some (i*s,s)) zl.toArray (parts.toList.map fun p=>(p.1,ev e p.2))=some l.toArray:=by kernel_rfl):
  Al P r ops Q (⟨dst,.build t parts,ty,pos,af,g⟩::rest) e w:=by
 refine Be hg U ?_ h;have hb:P.built t (parts.map fun (i,x)=>(i,ev e x)).toList=some l.toArray:=Qi hu hs hz (by rw [Array.toList_map]; exact hl);simp [execOp,run_build w t _ _ hb]
end
end Go.GV
namespace Go.GV
open Go
section
variable {P:Program} {r:Option Nat} {ops rest:List Oper} {Q:Exit→Env→World→Prop} {e:Env} {w:World}
 {dst:Option Tmp} {ty:TypeId} {pos:String} {af:Array Edge} {g:Option (Nat × Bool)} {C:World→Prop} {K:Env→Prop} {t t2:TypeId} {x y:Operand} {a b n:Nat}
end
end Go.GV
namespace Go.GV
open Go
abbrev Mt:=Nat→Prop
structure Grw (M M':Mt) (w w':World):Prop where
 ext:∃ S,(∀ x∈S,M x∨w.heap.size≤x)∧Ext S w w'
 new:∀ x,M' x→M x∨w.heap.size≤x
theorem Grw.to {M M':Mt} {w w':World} (g:Grw M M' w w') {b:Nat} {o:Obj} (hb:w.heap[b]? = some o) (hn:¬ M b):w'.heap[b]? = some o:=by
 obtain ⟨S,hS,hx⟩:=g.ext;have hl:=Bq hb;rw [hx.block b hl fun h=>by rcases hS b h with h | h; exact hn h; omega];exact hb
theorem Grw.size {M M':Mt} {w w':World} (g:Grw M M' w w'):w.heap.size≤w'.heap.size:=let ⟨_,_,hx⟩:=g.ext; hx.size
theorem Grw.not {M M':Mt} {w w':World} (g:Grw M M' w w') {b:Nat} (hb:b<w.heap.size) (hn:¬ M b):¬ M' b:=fun h=>by
 rcases g.new b h with h | h
 ·exact hn h
 ·omega
theorem Grw.call {M M':Mt} {w0 w w':World} (h:Ext [] w0 w) (_:∀ x,M x→x<w0.heap.size) (g:Grw M M' w w'):Grw M M' w0 w':=by
 obtain ⟨S,hS,hx⟩:=g.ext;have hs:=h.size;exact ⟨⟨S,fun x hm=>(hS x hm).imp id fun h=>by omega,(h.mono (by simp)).trans hx⟩,fun x hm=>(g.new x hm).imp id fun h=>by omega⟩
def IterOk (P:Program) (gf:FuncId) (ca:Array Value) (Z:List Nat) (K:Mt→World→Prop) (xs:List (List Value)):Prop :=
 ∀ (l:Nat) (w:World) (J:Nat→Mt→World→Prop) (E:World→Prop),(∃ M,J 0 M w)→(∀ i M w' w'',J i M w'→Ext Z w' w''→J i M w'')→(∀ w' w'',E w'→Ext Z w' w''→E w'')→(∀ i M w',J i M w'→(∀ x,M x→x<w'.heap.size)∧K M w') →
  (∀ i v M w',xs[i]? = some v→J i M w'→YieldAt P l v w' fun u w''=>(u = .bool true∧∃ M',J (i+1) M' w''∧Grw M M' w' w'')∨(u = .bool false∧E w'')) →
  Ret P gf (#[.func (.yield l) #[] #[]]++ca) w fun _ w'=>(∃ M,J xs.length M w')∨E w'
section
variable {P:Program} {Q:Exit→Env→World→Prop} {e:Env} {w:World} {n:Nat}
def RG (e:Env) (l:List (Tmp × Value)):Env:=l.foldl (fun e p=>put e (some p.1) p.2) e
theorem Ph:∀ (l:List (Tmp × Value)) {e:Env} {a:Act},Sim n e a→(∀ p∈l,p.1<n)→Sim n (RG e l) { a with tmps:=l.foldl (fun tmps p=>tmps.setIfInBounds p.1 p.2) a.tmps }
 | [],_,_,h,_=>h
 | p::l,e,a,h,hp=>by
  have h1:Sim n (put e (some p.1) p.2) { a with tmps:=a.tmps.setIfInBounds p.1 p.2 }:=by
   have:=Sim.put h (some p.1) p.2 (by rintro _ ⟨⟩; exact hp p (List.mem_cons_self ..))
   simpa [Act.put] using this
  exact Ph l h1 fun q hq=>hp q (List.mem_cons_of_mem _ hq)
theorem RH (ps:Array Tmp) (vs:List Value) (tmps:Array Value):(ps.zip vs.toArray).foldl (fun tmps (t,a)=>tmps.setIfInBounds t a) tmps=(ps.toList.zip vs).foldl (fun tmps p=>tmps.setIfInBounds p.1 p.2) tmps:=by
 rw [← Array.foldl_toList,Array.toList_zip]
def Qbody (D l:Nat) (J1:Mt→World→Prop) (E:World→Prop) (M:Mt) (w wB:World):Exit→Env→World→Prop
 | .normal,_,w3=>∃ M',J1 M' w3∧(∀ x,M' x→M x∨w.heap.size≤x)∧∃ S,Ext S wB w3∧∀ x∈S,M x∨w.heap.size≤x
 | .ret,_,w3=>E w3∧∃ S,Ext S wB w3∧D∉S∧l∉S
 | _,_,_=>False
def U4 (P:Program) (D l n:Nat) (body:Code) (J1:Mt→World→Prop) (E:World→Prop) (M:Mt) (w:World):Exit→Env→World→Prop
 | .normal,e,w1=>Ext [] w w1∧∀ wB,Ext [l] w1 wB→W P (some l) n body (Qbody D l J1 E M w wB) e wB
 | _,_,_=>False
theorem Ext.to {S:List Nat} {w w':World} (h:Ext S w w') {b:Nat} {o:Obj} (hb:w.heap[b]? = some o) (hn:b∉S):w'.heap[b]? = some o:=by
 rw [h.block b (Bq hb) hn]; exact hb
theorem Ql {w:World} {j:Option Code} (hj:j=none) (h:Q .normal e w):Ht Q e w j:=by subst hj; exact h
theorem RI {w:World} {j:Option Code} (hj:j=some .ret) (h:Q .ret e w):Ht Q e w j:=by subst hj; exact h
theorem Qm {w:World} {D:Nat} {ds:List Deferred} {K:World→Prop} (hD:w.heap[D]? = some (.deferred (some []))) (hds:ds=[{ target := .collected D,args:=#[] }]) (hK:∀ wF,Ext [D] w wF→K wF):Marks ds w K:=by
 subst hds;exact ⟨D,rfl,hD,hK _ (Ext.setB w D _)⟩
end
end Go.GV
namespace Go.GV
open Go
section
variable {P:Program} {r:Option Nat} {ops rest:List Oper} {Q:Exit→Env→World→Prop} {e:Env} {w w0:World} {S:List Nat} {L:List (Nat × Obj)} {C:World→Prop} {K:Env→Prop}
 {dst:Option Tmp} {ty:TypeId} {pos:String} {af:Array Edge} {g:Option (Nat × Bool)}
theorem U5 {P:Program} {t el:TypeId} (hu:P.underlying t=some (.pointer el)) (d:Nat) (a:Option Addr) (w:World):(Op.equalIn (d+1) t (.pointer a) (.pointer none)).run P w = .ok a.isNone w:=by
 cases a <;> simp [Op.equalIn,Az hu]
theorem RJ {P:Program} {t el:TypeId} (hu:P.underlying t=some (.pointer el)) (a:Option Addr) (w:World):(binOp .eql t (.pointer a) (.pointer none)).run P w = .ok (.bool a.isNone) w:=by
 simp only [binOp,Sem.run_bind,Op.equal,Op.maxDepth,U5 hu 9999];cases a <;> rfl
theorem Cg {t t2:TypeId} {x:Operand} {a:Option Addr} {el:TypeId} (hu:P.underlying t=some (.pointer el)) (hx:ev e x = .pointer a)
  (h:Al P r ops Q rest (put e dst (.bool a.isNone)) w) (hg:A1 ⟨dst,.binOp .eql t x (.const (.pointer none)) t2,ty,pos,af,g⟩ ops e=true:=by exact U):Al P r ops Q (⟨dst,.binOp .eql t x (.const (.pointer none)) t2,ty,pos,af,g⟩::rest) e w :=
 Be hg rfl (by
  have hq:eqGuard .eql t x (.const (.pointer none)) (.pointer a) (.pointer none)=pure ():=rfl;have he:ev e (.const (.pointer none)) = .pointer none:=rfl
  simp only [execOp,hx,he,hq,Sem.run_bind,Sem.run_pure,Result.andThen_ok,RJ hu]) h
theorem NN {t k el:TypeId} {kk:IntKind} {x y:Operand} {b:Nat} {o:Obj} {m:List (Int × Value)} {n:Int} {z:Value}
  (ht:Gv P t=some (k,el)) (hk:P.underlying k=some (.int kk)) (hz:(P.info? el).bind (·.zero)=some z) (hx:ev e x = .map (some b)) (hy:ev e y = .int kk n) (hb:w.heap[b]? = some o) (hM:EG kk m o) :
  (execOp (ev e) ⟨dst,.lookup t x y false,ty,pos,af,g⟩).run P w = .ok (.value ((DP m n).getD z)) w:=by
 obtain ⟨es,clock,rfl,hes,_⟩:=hM;have hf:=Fh kk n es.toList m 0 hes;have hgo:(getObj b).run P w = .ok (.map es clock) w:=by simp [getObj,Sem.run,hb]
 have hzr:(zeroValue el).run P w = .ok z w:=by
  cases hi:P.info? el with
  | none=>rw [hi] at hz; cases hz
  | some i=>rw [hi] at hz; simp at hz; simp [zeroValue,typeInfo,program,Sem.run,hi,hz]
 cases hm:DP m n with
 | none=>simp [execOp,Instr.lookup,Az (DQ ht),hx,hy,hgo,CY hk,Instr.findKey,Az hk,hf.1 hm,hzr]
 | some v =>
  obtain ⟨i,hi,_⟩:=hf.2 v hm;simp [execOp,Instr.lookup,Az (DQ ht),hx,hy,hgo,CY hk,Instr.findKey,Az hk,hi]
theorem NO {t k el:TypeId} {kk:IntKind} {x y:Operand} {b:Nat} {o:Obj} {m:List (Int × Value)} {n:Int} {z:Value} (hg:A1 ⟨dst,.lookup t x y false,ty,pos,af,g⟩ ops e=true)
  (ht:Gv P t=some (k,el)) (hk:P.underlying k=some (.int kk)) (hz:(P.info? el).bind (·.zero)=some z) (hx:ev e x = .map (some b)) (hy:ev e y = .int kk n) (hb:w.heap[b]? = some o) (hM:EG kk m o)
  (h:Al P r ops Q rest (put e dst ((DP m n).getD z)) w):Al P r ops Q (⟨dst,.lookup t x y false,ty,pos,af,g⟩::rest) e w :=
 Be hg rfl (NN ht hk hz hx hy hb hM) h
end
end Go.GV
namespace Go.GV
open Go
section
variable {P:Program} {r:Option Nat} {ops rest:List Oper} {Q:Exit→Env→World→Prop} {e:Env} {w w0:World} {S:List Nat} {L:List (Nat × Obj)}
 {dst:Option Tmp} {ty:TypeId} {pos:String} {af:Array Edge} {g:Option (Nat × Bool)}
end
end Go.GV
namespace Go.GV
open Go
def IterOkS (P:Program) (gf:FuncId) (ca:Array Value) (Z:List Nat) (K:Mt→World→Prop) (xs:List (List Value)) (S0:World→Prop):Prop :=
 ∀ (l:Nat) (w:World),S0 w→∀ (J:Nat→Mt→World→Prop) (E:World→Prop),(∃ M,J 0 M w)→(∀ i M w' w'',J i M w'→Ext Z w' w''→J i M w'')→(∀ w' w'',E w'→Ext Z w' w''→E w'')→(∀ i M w',J i M w'→(∀ x,M x→x<w'.heap.size)∧K M w') →
  (∀ i v M w',xs[i]? = some v→J i M w'→YieldAt P l v w' fun u w''=>(u = .bool true∧∃ M',J (i+1) M' w''∧Grw M M' w' w'')∨(u = .bool false∧E w'')) →
  Ret P gf (#[.func (.yield l) #[] #[]]++ca) w fun _ w'=>(∃ M,J xs.length M w')∨E w'
section
variable {P:Program} {Q:Exit→Env→World→Prop} {e:Env} {w:World} {n:Nat}
end
end Go.GV
namespace Go.GV
open Go
section
variable {P:Program} {r:Option Nat} {ops:List Oper} {Q:Exit→Env→World→Prop}
def Qk (K:Env→World→Prop):Exit→Env→World→Prop
 | .normal,e,w=>K e w
 | _,_,_=>False
theorem Qn {K:Env→World→Prop} {o:Oper} {rest:List Oper} {e:Env} {w:World} (h:Al P r ops (Qk K) [o] e w) (hk:∀ e w,K e w→Al P r ops Q rest e w):Al P r ops Q (o::rest) e w:=by
 unfold Al at h ⊢
 by_cases hw:A1 o ops e=true
 ·rw [if_pos hw] at h ⊢;generalize (o.semAt r (ev e)).run P w=res at h ⊢
  match res,h with
  | .ok (.value v) w',h=>exact hk _ _ h
  | .ok .skip w',h=>exact hk _ _ h
  | .ok (.defer d) w',h=>exact hk _ _ h
  | .ok (.enter f args) w',h=>exact Ret.mono h fun v w'' hv=>hk _ _ hv
  | .ok (.round l f tmps assign body) w',h=>exact RoundIn.mono h fun x w'' ⟨v,hx,hv⟩=>⟨v,hx,hk _ _ hv⟩
  | .halt (.panic v) w',h=>exact h.elim
 ·rw [if_neg hw] at h ⊢;exact hk _ _ h
theorem Iv {md:Region.Mode} {arr:Array Oper} {l:Array Bool} {i:Nat} (h:i∈Region.ready md arr l):(l.setIfInBounds i true).toList.count false+1=l.toList.count false:=by
 have h1:=(mem_ready.1 h).1
 have hi:i<l.size:=by
  rcases Nat.lt_or_ge i l.size with h | h
  ·exact h
  ·rw [Array.getD_eq_getD_getElem?,Array.getElem?_eq_none h] at h1; cases h1
 have hv:l.toList[i]'(by simpa using hi)=false:=by
  rw [Array.getD_eq_getD_getElem?,Array.getElem?_eq_getElem hi] at h1
  simpa using h1
 have hpos:0<l.toList.count false:=List.count_pos_iff.2 (by rw [← hv]; exact List.getElem_mem _);rw [Array.toList_setIfInBounds,List.count_set (by simpa using hi),hv,if_pos (by rfl),if_neg (by simp)];omega
theorem RK {md:Region.Mode} {arr:Array Oper} {I:Array Bool→Env→World→Prop} (harr:arr.toList=ops)
  (hstep:∀ l e w i o,I l e w→i∈Region.ready md arr l→arr[i]? = some o→Al P r ops (Qk (I (l.setIfInBounds i true))) [o] e w)
  (hend:∀ l e w,I l e w→Region.ready md arr l=[]→Q .normal e w):∀ (f t:Nat) (l:Array Bool) (e:Env) (w:World),l.toList.count false≤f→I l e w→Al P r ops Q (B0 ops (Region.linearise.go md arr f t l [])) e w
 | 0,t,l,e,w,hc,h=>by
  refine hend l e w h ?_
  cases hr:Region.ready md arr l with
  | nil=>rfl
  | cons i rs =>
   have:=Iv (md:=md) (arr:=arr) (l:=l) (i:=i) (by rw [hr]; exact List.mem_cons_self ..);omega
 | f+1,t,l,e,w,hc,h=>by
  simp only [Region.linearise.go]
  change Al P r ops Q (B0 ops (match (Region.ready md arr l)[t % (Region.ready md arr l).length]? with
   | some i=>Region.linearise.go md arr f (t / (Region.ready md arr l).length) (l.setIfInBounds i true) [i]
   | none=>[].reverse)) e w
  cases hi:(Region.ready md arr l)[t % (Region.ready md arr l).length]? with
  | none =>
   refine hend l e w h ?_
   cases hr:Region.ready md arr l with
   | nil=>rfl
   | cons x xs =>
    rw [hr] at hi;have hlt:t % (x::xs).length<(x::xs).length:=Nat.mod_lt _ (by simp);rw [List.getElem?_eq_getElem hlt] at hi;cases hi
  | some i =>
   have hir:=List.mem_of_getElem? hi;obtain ⟨_,o,ho,_⟩:=mem_ready.1 hir;have hcount:=Iv hir;have hol:ops[i]? = some o:=by rw [← harr,Array.getElem?_toList]; exact ho
   dsimp only;rw [linearise_go_acc,List.reverse_singleton,List.singleton_append];simp only [B0,hol];exact Qn (hstep l e w i o h hir ho) fun e' w' h'=>RK harr hstep hend f _ _ e' w' (by omega) h'
theorem Vn {id n:Nat} {arr:Array Oper} {I:Array Bool→Env→World→Prop} {e:Env} {w:World} (hm:P.follows .mixedOrders=true) (h0:I (Array.replicate arr.size false) e w.drew)
  (hstep:∀ l e w i o,I l e w→i∈Region.ready .any arr l→arr[i]? = some o→Al P r arr.toList (Qk (I (l.setIfInBounds i true))) [o] e w)
  (hend:∀ l e w,I l e w→Region.ready .any arr l=[]→Q .normal e w):W P r n (.region id arr true) Q e w := .inl fun t=>by
 rw [hm];simp only [Region.schedule,Bool.true_or,if_true];exact RK U hstep hend _ t _ e _ (by simp) h0
def NP (B:Nat→Nat) (i b:Nat):Nat→Nat:=fun j=>if j=i then b else B j
theorem HG (B:Nat→Nat) (i b:Nat):NP B i b i=b:=if_pos rfl
theorem GP {B:Nat→Nat} {i b j:Nat} (h:j≠i):NP B i b j=B j:=if_neg h
def EH (arr:Array Oper) (i:Nat):List Nat:=match arr[i]? with | some o=>(o.after.toList.filter (Region.binds .any)).map (·.on) | none=>[]
def Qo (arr:Array Oper) (anc:Nat→List Nat):Nat→Bool
 | 0=>true
 | n+1=>Qo arr anc n && ((anc n).all (fun k=>(EH arr n).contains k || (EH arr n).any fun j=>(anc j).contains k) && (EH arr n).all fun j=>Nat.blt j n)
theorem Gl {arr:Array Oper} {anc:Nat→List Nat}:∀ {n:Nat},Qo arr anc n=true→∀ i,i<n→(∀ k∈anc i,k∈EH arr i∨∃ j∈EH arr i,k∈anc j)∧∀ j∈EH arr i,j<i
 | n+1,h,i,hi=>by
  simp only [Qo,Bool.and_eq_true] at h
  by_cases e:i=n
  ·subst e;refine ⟨fun k hk=>?_,fun j hj=>?_⟩
   ·have:=List.all_eq_true.1 h.2.1 k hk;rw [Bool.or_eq_true,List.any_eq_true] at this;exact this.imp List.contains_iff_mem.1 fun ⟨j,h1,h2⟩=>⟨j,h1,List.contains_iff_mem.1 h2⟩
   ·have:=List.all_eq_true.1 h.2.2 j hj
    simpa [Nat.blt_eq] using this
  ·exact Gl h.1 i (by omega)
theorem E9 {arr:Array Oper} {anc:Nat→List Nat} {n:Nat} (h:Qo arr anc n=true):∀ i,i<n→∀ j∈anc i,j<i:=fun i=>by
 induction i using Nat.strongRecOn with
 | _ i ih =>
  intro hi j hj;obtain ⟨h1,h2⟩:=Gl h i hi
  rcases h1 j hj with h | ⟨k,hk,h⟩
  ·exact h2 j h
  ·have:=h2 k hk;have:=ih k this (by omega) j h;omega
theorem CS {arr:Array Oper} {l:Array Bool} {i:Nat} (h:i∈Region.ready .any arr l):∀ j∈EH arr i,l.getD j false=true:=fun j hj=>by
 obtain ⟨_,o,ho,hall⟩:=mem_ready.1 h;unfold EH at hj;rw [ho] at hj;obtain ⟨d,hd,rfl⟩:=List.mem_map.1 hj;obtain ⟨hd1,hd2⟩:=List.mem_filter.1 hd;exact hall d (Array.mem_toList_iff.1 hd1) hd2
theorem M4 {arr:Array Oper} {l:Array Bool} {i:Nat} (hu:l.getD i true=false) (h:∀ j∈EH arr i,l.getD j false=true) (hi:i<arr.size:=by omega):i∈Region.ready .any arr l:=by
 refine mem_ready.2 ⟨hu,arr[i],Array.getElem?_eq_getElem hi,fun d hd hb=>h d.on ?_⟩;unfold EH;rw [Array.getElem?_eq_getElem hi];exact List.mem_map.2 ⟨d,List.mem_filter.2 ⟨Array.mem_toList_iff.2 hd,hb⟩,rfl⟩
structure AI (n:Nat) (anc:Nat→List Nat) (d:Nat→Tmp) (val:Nat→(Nat→Nat)→Value) (obj:Nat→Option ((Nat→Nat)→Obj)) (e0:Env) (w0:World) (l:Nat→Prop) (e:Env) (w:World) (B:Nat→Nat):Prop where
 ds:e.ds=e0.ds
 old:∀ s,(∀ i,i<n→s≠d i)→e.g s=e0.g s
 slot:∀ i,i<n→l i→e.g (d i)=val i B
 ext:Ext [] w0 w
 blk:∀ i ob,i<n→l i→obj i=some ob→w.heap[B i]? = some (ob B)∧w0.heap.size≤B i
 ne:∀ i j,i<n→j<n→i≠j→l i→l j→obj i≠none→obj j≠none→B i≠B j
 cl:∀ i,i<n→l i→∀ j∈anc i,l j
def AQ (d:Nat→Tmp) (val:Nat→(Nat→Nat)→Value) (obj:Nat→Option ((Nat→Nat)→Obj)) (i:Nat) (e:Env) (w:World) (B:Nat→Nat) (e':Env) (w':World):Prop :=
 ∃ b,(∀ ob,obj i=some ob→w.heap.size≤b∧w'.heap[b]? = some (ob (NP B i b)))∧Ext [] w w'∧e'=put e (some (d i)) (val i (NP B i b))
theorem CG (e:Env) (s:Tmp) (v:Value):(put e (some s) v).g s=v:=by simp [put]
theorem Cu {e:Env} {s t:Tmp} {v:Value} (h:t≠s):(put e (some s) v).g t=e.g t:=by
 cases hb:Nat.beq t s with
 | true=>exact absurd (Nat.eq_of_beq_eq_true hb) h
 | false=>simp [put,hb]
theorem AI.step {n:Nat} {anc:Nat→List Nat} {d:Nat→Tmp} {val:Nat→(Nat→Nat)→Value} {obj:Nat→Option ((Nat→Nat)→Obj)} {e0:Env} {w0:World} {l:Nat→Prop} {e:Env} {w:World} {B:Nat→Nat} (A:AI n anc d val obj e0 w0 l e w B)
  (hd:∀ i j,i<n→j<n→d i=d j→i=j) (hst:∀ i k b B,i<n→k≠i→k∉anc i→val i (NP B k b)=val i B∧∀ ob,obj i=some ob→ob (NP B k b)=ob B)
  {i:Nat} (hi:i<n) (hu:¬ l i) (hanc:∀ j∈anc i,l j) {e':Env} {w':World} (h:AQ d val obj i e w B e' w'):∃ B',AI n anc d val obj e0 w0 (fun j=>j=i∨l j) e' w' B':=by
 obtain ⟨b,hob,hx,rfl⟩:=h;have hsz:=A.ext.size;have hni:∀ j,l j→j≠i:=fun j hj h=>hu (h ▸ hj);have hna:∀ j,j<n→l j→i∉anc j:=fun j hj hl h=>hu (A.cl j hj hl i h);refine ⟨NP B i b,A.ds,fun s hs=>?_,fun j hj hl=>?_,A.ext.trans hx,fun j ob hj hl ho=>?_,fun j k hj hk hjk hlj hlk oj ok=>?_,fun j hj hl k hk=>?_⟩
 ·rw [Cu (hs i hi)]; exact A.old s hs
 ·rcases hl with rfl | hl
  ·exact CG _ _ _
  ·rw [Cu fun h=>hni j hl (hd _ _ hj hi h),A.slot j hj hl,(hst j i b B hj (Ne.symm (hni j hl)) (hna j hj hl)).1]
 ·rcases hl with rfl | hl
  ·obtain ⟨h1,h2⟩:=hob ob ho;rw [HG];exact ⟨h2,by omega⟩
  ·obtain ⟨h1,h2⟩:=A.blk j ob hj hl ho;rw [GP (hni j hl),(hst j i b B hj (Ne.symm (hni j hl)) (hna j hj hl)).2 ob ho];exact ⟨hx.to h1 (by simp),h2⟩
 ·have hlt:∀ m,m<n→l m→obj m≠none→∀ ob,obj i=some ob→B m<b:=fun m hm hl om ob ho=>by
   cases hom:obj m with
   | none=>exact absurd hom om
   | some o2 =>
    have:=Bq (A.blk m o2 hm hl hom).1;have:=(hob ob ho).1;omega
  rcases hlj with rfl | hlj
  ·rcases hlk with rfl | hlk
   ·exact absurd U hjk
   ·rw [HG,GP (hni k hlk)]
    cases hoj:obj j with
    | none=>exact absurd hoj oj
    | some o2=>have:=hlt k hk hlk ok o2 hoj; omega
  ·rcases hlk with rfl | hlk
   ·rw [HG,GP (hni j hlj)]
    cases hok:obj k with
    | none=>exact absurd hok ok
    | some o2=>have:=hlt j hj hlj oj o2 hok; omega
   ·rw [GP (hni j hlj),GP (hni k hlk)];exact A.ne j k hj hk hjk hlj hlk oj ok
 ·rcases hl with rfl | hl
  ·exact .inr (hanc k hk)
  ·exact .inr (A.cl j hj hl k hk)
end
end Go.GV
namespace Go.GV
open Go
section
variable {P:Program} {r:Option Nat} {ops:List Oper} {Q:Exit→Env→World→Prop}
def NQ {β:Type} (B:Nat→β) (i:Nat) (b:β):Nat→β:=fun j=>if j=i then b else B j
theorem Gm {β:Type} (B:Nat→β) (i:Nat) (b:β):NQ B i b i=b:=if_pos rfl
theorem Gn {β:Type} {B:Nat→β} {i:Nat} {b:β} {j:Nat} (h:j≠i):NQ B i b j=B j:=if_neg h
structure AIB {β:Type} (bk:β→Nat) (good:Nat→β→Prop) (n:Nat) (anc:Nat→List Nat) (d:Nat→Tmp) (val:Nat→(Nat→β)→Value) (obj:Nat→Option ((Nat→β)→Obj)) (e0:Env) (w0:World) (l:Nat→Prop) (e:Env) (w:World) (B:Nat→β):Prop where
 ds:e.ds=e0.ds
 old:∀ s,(∀ i,i<n→s≠d i)→e.g s=e0.g s
 slot:∀ i,i<n→l i→e.g (d i)=val i B
 ext:Ext [] w0 w
 blk:∀ i ob,i<n→l i→obj i=some ob→w.heap[bk (B i)]? = some (ob B)∧w0.heap.size≤bk (B i)
 ne:∀ i j,i<n→j<n→i≠j→l i→l j→obj i≠none→obj j≠none→bk (B i)≠bk (B j)
 good:∀ i,i<n→l i→good i (B i)
 cl:∀ i,i<n→l i→∀ j∈anc i,l j
def AQB {β:Type} (bk:β→Nat) (good:Nat→β→Prop) (d:Nat→Tmp) (val:Nat→(Nat→β)→Value) (obj:Nat→Option ((Nat→β)→Obj)) (i:Nat) (e:Env) (w:World) (B:Nat→β) (e':Env) (w':World):Prop :=
 ∃ b,good i b∧(∀ ob,obj i=some ob→w.heap.size≤bk b∧w'.heap[bk b]? = some (ob (NQ B i b)))∧Ext [] w w'∧e'=put e (some (d i)) (val i (NQ B i b))
theorem AIB.step {β:Type} {bk:β→Nat} {good:Nat→β→Prop} {n:Nat} {anc:Nat→List Nat} {d:Nat→Tmp} {val:Nat→(Nat→β)→Value} {obj:Nat→Option ((Nat→β)→Obj)} {e0:Env} {w0:World} {l:Nat→Prop} {e:Env} {w:World} {B:Nat→β} (A:AIB bk good n anc d val obj e0 w0 l e w B)
  (hd:∀ i j,i<n→j<n→d i=d j→i=j) (hst:∀ i k b B,i<n→k≠i→k∉anc i→val i (NQ B k b)=val i B∧∀ ob,obj i=some ob→ob (NQ B k b)=ob B)
  {i:Nat} (hi:i<n) (hu:¬ l i) (hanc:∀ j∈anc i,l j) {e':Env} {w':World} (h:AQB bk good d val obj i e w B e' w'):∃ B',AIB bk good n anc d val obj e0 w0 (fun j=>j=i∨l j) e' w' B':=by
 obtain ⟨b,hgd,hob,hx,rfl⟩:=h;have hsz:=A.ext.size;have hni:∀ j,l j→j≠i:=fun j hj h=>hu (h ▸ hj);have hna:∀ j,j<n→l j→i∉anc j:=fun j hj hl h=>hu (A.cl j hj hl i h);refine ⟨NQ B i b,A.ds,fun s hs=>?_,fun j hj hl=>?_,A.ext.trans hx,fun j ob hj hl ho=>?_,fun j k hj hk hjk hlj hlk oj ok=>?_,fun j hj hl=>?_,fun j hj hl k hk=>?_⟩
 ·rw [Cu (hs i hi)]; exact A.old s hs
 ·rcases hl with rfl | hl
  ·exact CG _ _ _
  ·rw [Cu fun h=>hni j hl (hd _ _ hj hi h),A.slot j hj hl,(hst j i b B hj (Ne.symm (hni j hl)) (hna j hj hl)).1]
 ·rcases hl with rfl | hl
  ·obtain ⟨h1,h2⟩:=hob ob ho;rw [Gm];exact ⟨h2,by omega⟩
  ·obtain ⟨h1,h2⟩:=A.blk j ob hj hl ho;rw [Gn (hni j hl),(hst j i b B hj (Ne.symm (hni j hl)) (hna j hj hl)).2 ob ho];exact ⟨hx.to h1 (by simp),h2⟩
 ·have hlt:∀ m,m<n→l m→obj m≠none→∀ ob,obj i=some ob→bk (B m)<bk b:=fun m hm hl om ob ho=>by
   cases hom:obj m with
   | none=>exact absurd hom om
   | some o2 =>
    have:=Bq (A.blk m o2 hm hl hom).1;have:=(hob ob ho).1;omega
  rcases hlj with rfl | hlj
  ·rcases hlk with rfl | hlk
   ·exact absurd U hjk
   ·rw [Gm,Gn (hni k hlk)]
    cases hoj:obj j with
    | none=>exact absurd hoj oj
    | some o2=>have:=hlt k hk hlk ok o2 hoj; omega
  ·rcases hlk with rfl | hlk
   ·rw [Gm,Gn (hni j hlj)]
    cases hok:obj k with
    | none=>exact absurd hok ok
    | some o2=>have:=hlt j hj hlj oj o2 hok; omega
   ·rw [Gn (hni j hlj),Gn (hni k hlk)];exact A.ne j k hj hk hjk hlj hlk oj ok
 ·rcases hl with rfl | hl
  ·rw [Gm]; exact hgd
  ·rw [Gn (hni j hl)]; exact A.good j hj hl
 ·rcases hl with rfl | hl
  ·exact .inr (hanc k hk)
  ·exact .inr (A.cl j hj hl k hk)
end
end Go.GV
namespace Go.GV
open Go
section
variable {P:Program} {r:Option Nat} {ops rest:List Oper} {Q:Exit→Env→World→Prop} {e:Env} {w w0:World} {S:List Nat} {L:List (Nat × Obj)}
 {dst:Option Tmp} {ty:TypeId} {pos:String} {af:Array Edge} {g:Option (Nat × Bool)}
end
end Go.GV
