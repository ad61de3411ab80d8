/- Part 3 of the proof. -/
import Derived.Test.YtibemkominehdaaGreatPart2
import Derived.Maps.RangeRun
import Derived.Laws.StructEq
import Derived.ProofKit
import Derived.Deep.Slices
import Derived.OpenShut
import Derived.JoinedOf
import Derived.Test.YtibemkominehdaaGreatProg
import Derived.KernelRfl
import Derived.Test.YtibemkominehdaaGreatPart1
namespace Go.GV
open Go
def Pi (P:Program) (gf:FuncId) (ca:Array Value) (Z:List Nat) (K:Mt→World→Prop) {σ:Type} (z0:σ) (St:σ→List Value→σ→Prop) (En:σ→Prop) (S0:World→Prop):Prop :=
 ∀ (l:Nat) (w:World),S0 w→∀ (J:σ→Mt→World→Prop) (E:World→Prop),(∃ M,J z0 M w)→(∀ i M w' w'' T,J i M w'→(∀ x∈T,¬ M x∧w.heap.size≤x)→Ext T w' w''→J i M w'')→(∀ w' w'',E w'→Ext Z w' w''→E w'')→(∀ i M w',J i M w'→(∀ x,M x→x<w'.heap.size)∧K M w') →
  (∀ i v i' M w',St i v i'→J i M w'→YieldAt P l v w' fun u w''=>(u = .bool true∧∃ M',J i' M' w''∧Grw M M' w' w'')∨(u = .bool false∧E w'')) →
  Ret P gf (#[.func (.yield l) #[] #[]]++ca) w fun _ w'=>(∃ i M,En i∧J i M w')∨E w'
section
variable {P:Program} {Q:Exit→Env→World→Prop} {e:Env} {w:World} {n:Nat}
theorem RL {f:Operand} {ps:Array Tmp} {assign body:Code} {gf:Nat} {ca:Array Value} {Z:List Nat} {K:Mt→World→Prop} {σ:Type} {z0:σ} {St:σ→List Value→σ→Prop} {En:σ→Prop} {S0:World→Prop} (hf:ev e f = .func (.func gf) #[] ca) (hc:Aq P gf=true)
  (hI:Pi P gf ca Z K z0 St En S0) (hfit:(F9 n assign && F9 n body)=true) (hps:(ps.toList.all fun p=>decide (p<n))=true) (hlen:∀ i v i',St i v i'→v.length=ps.size)
  (J:σ→Mt→World→Prop) (E:World→Prop) (hZ:w.heap.size∉Z∧w.heap.size+1∉Z) (hS0:∀ w2,Ext [] w w2→S0 w2) (hj0:∀ w2,Ext [] w w2→w.heap.size+1<w2.heap.size→∃ M,J z0 M w2)
  (hjs:∀ i M w' w'' T,J i M w'→(∀ x∈T,¬ M x∧w.heap.size≤x)→Ext T w' w''→J i M w'') (hes:∀ w' w'',E w'→Ext (w.heap.size::(w.heap.size+1)::Z) w' w''→E w'')
  (hk:∀ i M w',J i M w'→(∀ x,M x→x<w'.heap.size∧x≠w.heap.size∧x≠w.heap.size+1)∧K (fun x=>x=w.heap.size+1∨M x) w')
  (hb:∀ i v i' M w',St i v i'→J i M w'→w.heap.size+1<w'.heap.size→W P (some (w.heap.size+1)) n assign (U4 P w.heap.size (w.heap.size+1) n body (J i') E M w') (RG ⟨e.g,[]⟩ (ps.toList.zip v)) w')
  (hend:∀ i M w4,En i→J i M w4→w4.heap[w.heap.size]? = some (.deferred (some []))→Q .normal ⟨e.g,{ target := .collected w.heap.size,args:=#[] }::e.ds⟩ w4)
  (hret:∀ w4,E w4→w4.heap[w.heap.size]? = some (.deferred (some []))→Q .ret ⟨e.g,{ target := .collected w.heap.size,args:=#[] }::e.ds⟩ w4):W P none n (.rangeFunc f ps assign body) Q e w:=by
 refine M2 hf hc ?_;intro fn tmps hts htm D l w2 hDe hle hx2 hD hrec;subst hDe hle;obtain ⟨lo,hlo,hrec'⟩:∃ lo,lo=({ state := .ready,pending:=none,fn,tmps,params:=ps,assign,body,defers:=w.heap.size }:Loop)∧w2.heap[w.heap.size+1]? = some (.loop lo):=⟨_,rfl,hrec⟩;have hsz2:=Bq hrec';have hne:w.heap.size≠w.heap.size+1:=by omega
 refine Ret.mono (hI (w.heap.size+1) w2 (hS0 w2 hx2) (fun i Mh w'=>(∃ M:Mt,(Mh=fun x=>x=w.heap.size+1∨M x)∧J i M w')∧w'.heap[w.heap.size+1]? = some (.loop lo)∧w'.heap[w.heap.size]? = some (.deferred (some []))) (fun w'=>E w'∧(∃ lp,w'.heap[w.heap.size+1]? = some (.loop lp)∧lp.state = .done∧lp.pending=some .ret)∧w'.heap[w.heap.size]? = some (.deferred (some [])))
  (let ⟨M,hM⟩:=hj0 w2 hx2 hsz2; ⟨_,⟨M,rfl,hM⟩,hrec',hD⟩) (fun i Mh w' w'' T h hT hx=>by
   obtain ⟨⟨M,rfl,hM⟩,h2,h3⟩:=h
   exact ⟨⟨M,rfl,hjs i M w' w'' T hM (fun x hx=>⟨fun h=>(hT x hx).1 (.inr h),by have:=(hT x hx).2; omega⟩) hx⟩,hx.to h2 (fun h=>(hT _ h).1 (.inl rfl)),hx.to h3 (fun h=>by have:=(hT _ h).2; omega)⟩)
  (fun w' w'' h hx=>⟨hes w' w'' h.1 (hx.mono fun x hx=>List.mem_cons_of_mem _ (List.mem_cons_of_mem _ hx)),let ⟨lp,h1,h2⟩:=h.2.1; ⟨lp,hx.to h1 hZ.2,h2⟩,hx.to h.2.2 hZ.1⟩) (fun i Mh w' h=>by
   obtain ⟨⟨M,rfl,hM⟩,hl,_⟩:=h
   exact ⟨fun x hx=>hx.elim (fun h=>by rw [h]; exact Bq hl) fun h=>((hk i M w' hM).1 x h).1,(hk i M w' hM).2⟩) ?_) ?_
 ·rintro i v i' Mh w' hx ⟨⟨M,rfl,hJ⟩,hl,hDw⟩;have hsz:=Bq hl;have hkM:=(hk i M w' hJ).1;have hbody:=hb i v i' M w' hx hJ hsz;have hlp:lo.params=ps:=by rw [hlo]
  have hla:lo.assign=assign:=by rw [hlo]
  have hlb:lo.body=body:=by rw [hlo]
  have hlt:lo.tmps=tmps:=by rw [hlo]
  have hls:lo.state = .ready:=by rw [hlo]
  have hpd:lo.pending=none:=by rw [hlo]
  refine RF hl (by rw [hlp]; exact hlen i v i' hx) ?_;rw [hlp,hla,hlb,hlt,RH];have hs0:Sim n (⟨e.g,[]⟩:Env) ({ tmps:=tmps,defers:=[] }:Act):=⟨rfl,hts,htm⟩;refine NM (RG ⟨e.g,[]⟩ (ps.toList.zip v)) (Ph _ hs0 fun p hp=>?_) hfit ?_
  ·have h1:=List.all_eq_true.1 hps p.1 (List.of_mem_zip hp).1;exact of_decide_eq_true h1
  ·refine De assign ?_ hbody;intro x e1 w1 hq
   cases x with
   | normal =>
    obtain ⟨hS,hW⟩:=hq;have hl1:=hS.to hl (by simp);have hD1:=hS.to hDw (by simp);have hxB:=Ext.setB w1 (w.heap.size+1) (.loop { lo with state := .busy });refine ⟨lo,hl1,hls,De body ?_ (hW _ hxB)⟩;have hlB:(w1.putObj (w.heap.size+1) (.loop { lo with state := .busy })).heap[w.heap.size+1]? = some (.loop { lo with state := .busy }):=EM hl1;have hDB:(w1.putObj (w.heap.size+1) (.loop { lo with state := .busy })).heap[w.heap.size]? = some (.deferred (some [])):=hxB.to hD1 (by simp);intro y e3 w3 hq3
    cases y with
    | normal =>
     obtain ⟨M',hJ3,hM',S3,hS3,hin⟩:=hq3
     have hlS3:w.heap.size+1∉S3:=fun h=>by
      rcases hin _ h with h | h
      ·exact (hkM _ h).2.2 U
      ·omega
     have hDS3:w.heap.size∉S3:=fun h=>by
      rcases hin _ h with h | h
      ·exact (hkM _ h).2.1 U
      ·omega
     have hl3:=hS3.to hlB hlS3;have hD3:=hS3.to hDB hDS3;have hx4:=Ext.setB w3 (w.heap.size+1) (.loop { ({ lo with state := .busy }:Loop) with state := .ready,pending:=none });refine ⟨_,hl3,.inl ⟨rfl,fun x=>x=w.heap.size+1∨M' x,⟨⟨M',rfl,hjs _ _ _ _ [w.heap.size+1] hJ3 (fun x hx=>by rw [List.mem_singleton] at hx; subst hx; exact ⟨fun h=>(hM' _ h).elim (fun h=>(hkM _ h).2.2 rfl) (fun h=>by omega),by omega⟩) hx4⟩,?_,hx4.to hD3 (by simp)⟩,⟨⟨(w.heap.size+1)::S3,fun x hx=>?_,?_⟩,fun x hx=>?_⟩⟩⟩
     ·rw [EM hl3]
      congr 2
      cases lo;simp_all
     ·rcases List.mem_cons.1 hx with h | h
      ·exact .inl (.inl h)
      ·exact (hin x h).imp .inr id
     ·exact (((hS.mono (by simp)).trans (hxB.mono (by simp))).trans (hS3.mono fun x h=>List.mem_cons_of_mem _ h)).trans (hx4.mono (by simp))
     ·rcases hx with h | h
      ·exact .inl (.inl h)
      ·exact (hM' x h).imp .inr id
    | ret =>
     obtain ⟨hE3,S3,hS3,hDS3,hlS3⟩:=hq3;have hl3:=hS3.to hlB hlS3;have hD3:=hS3.to hDB hDS3;have hx4:=Ext.setB w3 (w.heap.size+1) (.loop { ({ lo with state := .busy }:Loop) with state := .done,pending:=some .ret });exact ⟨_,hl3,.inr ⟨rfl,hes _ _ hE3 (hx4.mono (by simp)),⟨_,EM hl3,rfl,rfl⟩,hx4.to hD3 (by simp)⟩⟩
    | exit id=>exact hq3.elim
    | goto t=>exact hq3.elim
    | panic c=>exact hq3.elim
    | outgrown=>exact hq3.elim
   | exit id=>exact hq.elim
   | goto t=>exact hq.elim
   | ret=>exact hq.elim
   | panic c=>exact hq.elim
   | outgrown=>exact hq.elim
 ·intro v w3 h
  rcases h with ⟨i,Mh,hE,⟨M,_,h1⟩,h2,h3⟩ | ⟨h1,h2,h3⟩
  ·have hx4:=Ext.setB w3 (w.heap.size+1) (.loop { lo with state := .exhausted });exact ⟨lo,h2,by rw [hlo]; exact (fun h=>by cases h),Ql (by rw [hlo]) (hend i M _ hE (hjs _ _ _ _ [w.heap.size+1] h1 (fun x hx=>by rw [List.mem_singleton] at hx; subst hx; exact ⟨fun h=>((hk i M w3 h1).1 _ h).2.2 rfl,by omega⟩) hx4) (hx4.to h3 (by simp)))⟩
  ·obtain ⟨lp,h2,h4,h5⟩:=h2;have hx4:=Ext.setB w3 (w.heap.size+1) (.loop { lp with state := .exhausted });exact ⟨lp,h2,by rw [h4]; exact (fun h=>by cases h),RI h5 (hret _ (hes _ _ h1 (hx4.mono (by simp))) (hx4.to h3 (by simp)))⟩
end
end Go.GV
namespace Go.GV
open Go
theorem RM {α:Type} {l:List α} {i:Nat} {x:α} (h:l[i]? = some x):l.set i x=l:=by
 apply List.ext_getElem?;intro j;rw [List.getElem?_set]
 split
 ·rename_i e; subst e
  rw [if_pos (List.getElem?_eq_some_iff.1 h).1,h]
 ·rfl
def kvE (e:MapEntry):Value × Value:=(e.key,e.val)
def kvP (kk:IntKind) (p:Int × Value):Value × Value:=(.int kk p.1,p.2)
def kvD:Value × Value→Int × Value
 | (.int _ n,v)=>(n,v)
 | (_,v)=>(0,v)
theorem Pj (kk:IntKind) (m:List (Int × Value)):(m.map (kvP kk)).map kvD=m:=by
 rw [List.map_map]; exact List.map_id'' (fun _=>rfl) m
def VisO (kk:IntKind) (b:Nat) (m vis:List (Int × Value)) (o it:Obj):Prop :=
 ∃ (es:Array MapEntry) (clock:Nat) (ves rest:List MapEntry),o = .map es clock∧es.toList.map kvE=m.map (kvP kk)∧(∀ e∈es.toList,e.born<clock)∧(es.toList.map (·.born)).Nodup ∧
  it = .mapIter (some b) clock (ves.map (·.born)).toArray clock∧(ves++rest).Perm es.toList∧ves.map kvE=vis.map (kvP kk)
theorem VisO.perm {kk:IntKind} {b:Nat} {m vis:List (Int × Value)} {o it:Obj} (h:VisO kk b m vis o it):∃ res,(vis++res).Perm m:=by
 obtain ⟨es,clock,ves,rest,_,hes,_,_,_,hp,hv⟩:=h;have h1:=(hp.map kvE).map kvD;rw [List.map_append,List.map_append,hv,Pj,hes,Pj] at h1;exact ⟨_,h1⟩
theorem VisO.le {kk:IntKind} {b:Nat} {m vis:List (Int × Value)} {o it:Obj} (h:VisO kk b m vis o it):vis.length≤m.length:=by
 obtain ⟨res,h⟩:=h.perm;have:=h.length_eq;rw [List.length_append] at this;omega
theorem VisO.mem {kk:IntKind} {b:Nat} {m vis:List (Int × Value)} {o it:Obj} (h:VisO kk b m vis o it):∀ p∈vis,p∈m:=fun p hp=>by
 obtain ⟨res,h⟩:=h.perm;exact h.mem_iff.1 (List.mem_append_left _ hp)
section
variable {P:Program} {r:Option Nat} {ops rest:List Oper} {Q:Exit→Env→World→Prop} {e:Env} {w w0:World} {S:List Nat} {L:List (Nat × Obj)}
 {dst dst2:Option Tmp} {ty ty2:TypeId} {pos pos2:String} {af af2:Array Edge} {g g2:Option (Nat × Bool)}
theorem RN {t k el:TypeId} {kk:IntKind} {x:Operand} {b:Nat} {o:Obj} {m:List (Int × Value)} (hg:A1 ⟨dst,.range t x,ty,pos,af,g⟩ ops e=true)
  (ht:Gv P t=some (k,el)) (hx:ev e x = .map (some b)) (H:Ctx w0 S w L) (hm:w.heap[b]? = some o) (hM:EG kk m o)
  (h:∀ bi it w',VisO kk b m [] o it→Ctx w0 S w' ((bi,it)::L)→Al P r ops Q rest (put e dst (.pointer (some ⟨bi,0,none⟩))) w') :
  Al P r ops Q (⟨dst,.range t x,ty,pos,af,g⟩::rest) e w:=by
 obtain ⟨es,clock,rfl,hes,hb,hn⟩:=hM;have hgo:(getObj b).run P w = .ok (.map es clock) w:=by simp [getObj,Sem.run,hm]
 refine Be (w':=w.alloc (.mapIter (some b) clock #[] clock)) (v := .pointer (some ⟨w.heap.size,0,none⟩)) hg U ?_ (h _ _ _ ⟨es,clock,[],es.toList,rfl,hes,hb,hn,rfl,List.Perm.refl _,rfl⟩ (H.alloc _));simp [execOp,Instr.range,Az (DQ ht),hx,hgo,newObj,Sem.run]
theorem RP {es:List MapEntry} {ves rest:List MapEntry} {x:MapEntry} (hp:(ves++rest).Perm es) (hx:x∈es) (hn:x∉ves):∃ res,((ves++[x])++res).Perm es:=by
 have h1:x∈rest:=(List.mem_append.1 (hp.mem_iff.2 hx)).resolve_left hn;obtain ⟨l1,l2,rfl⟩:=List.append_of_mem h1;refine ⟨l1++l2,List.Perm.trans ?_ hp⟩;rw [List.append_assoc];exact List.Perm.append_left ves (show (x::(l1++l2)).Perm (l1++x::l2) from List.perm_middle.symm)
theorem Qp {kk:IntKind} {b bi i:Nat} {o it:Obj} {m vis:List (Int × Value)} (ty:TypeId) (H:Ctx w0 S w L) (hm:w.heap[b]? = some o) (hi:L[i]? = some (bi,it)) (hV:VisO kk b m vis o it) :
  ∃ vs more it' w',(Instr.next (.pointer (some ⟨bi,0,none⟩)) false ty).run P w = .ok (.tuple vs) w'∧vs[0]? = some (.bool more)∧((more=false∧vis.Perm m∧it'=it)∨(more=true∧∃ p,VisO kk b m (vis++[p]) o it'))∧Ctx w0 S w' (L.set i (bi,it')):=by
 obtain ⟨es,clock,ves,rest,rfl,hes,hb,hn,rfl,hp,hv⟩:=hV
 rcases run_next_at (P:=P) w ty bi b clock clock (ves.map (·.born)).toArray es clock (H.get hi) (hm) hb (Nat.le_refl _) with ⟨h0,hr⟩ | ⟨x,hx,w1,hw1,hr⟩
 ·have hall:=all_seen es _ h0
  have hrest:rest=[]:=by
   cases rest with
   | nil=>rfl
   | cons x rest =>
    exfalso;have hx:=hall x (hp.mem_iff.1 (List.mem_append_right _ (List.mem_cons_self ..)));have h2:=(hp.map (·.born)).nodup_iff.2 hn;rw [List.map_append,List.nodup_append] at h2
    have hx2:x.born∈ves.map (·.born):=by
     rw [List.contains_toArray] at hx;exact List.contains_iff_mem.1 hx
    exact h2.2.2 _ hx2 _ (List.mem_map_of_mem (List.mem_cons_self ..)) U
  subst hrest;rw [List.append_nil] at hp;have h1:=(hp.map kvE).map kvD;rw [hv,Pj,hes,Pj] at h1;refine ⟨_,false,_,w,hr,rfl,.inl ⟨rfl,h1,rfl⟩,?_⟩;rw [RM hi];exact H
 ·obtain ⟨hxe,hxs⟩:=mem_left hx
  have hxv:x∉ves:=fun h=>by
   rw [List.contains_toArray] at hxs;have:(ves.map (·.born)).contains x.born=true:=List.contains_iff_mem.2 (List.mem_map_of_mem h);rw [this] at hxs; cases hxs
  obtain ⟨res,hp2⟩:=RP hp hxe hxv
  have hk:∃ p∈m,kvP kk p=kvE x:=by
   have h1:kvE x∈es.toList.map kvE:=List.mem_map_of_mem hxe;rw [hes] at h1;exact List.mem_map.1 h1
  obtain ⟨p,-,hpx⟩:=hk
  have H1:Ctx w0 S w1 L:=by rcases hw1 with rfl | rfl; exact H; exact H.drew
  refine ⟨_,true,_,_,hr,rfl,.inr ⟨rfl,p,es,clock,ves++[x],res,rfl,hes,hb,hn,rfl,hp2,by rw [List.map_append,List.map_append,hv]; simp [hpx]⟩,?_⟩;have h3:((ves.map (·.born)).toArray.push x.born)=((ves++[x]).map (·.born)).toArray:=by simp
  rw [← h3];exact H1.setB hi _
theorem U6 {kk:IntKind} {d:Tmp} {x:Operand} {b bi i:Nat} {o it:Obj} {m vis:List (Int × Value)} (hg:A1 ⟨some d,.next x false,ty,pos,af,g⟩ ops e=true) (hg2:∀ v,A1 ⟨dst2,.extract (.tmp d) 0,ty2,pos2,af2,g2⟩ ops (put e (some d) v)=true)
  (hx:ev e x = .pointer (some ⟨bi,0,none⟩)) (H:Ctx w0 S w L) (hm:w.heap[b]? = some o) (hi:L[i]? = some (bi,it)) (hV:VisO kk b m vis o it)
  (h:∀ vs more it' w',((more=false∧vis.Perm m∧it'=it)∨(more=true∧∃ p,VisO kk b m (vis++[p]) o it'))→Ctx w0 S w' (L.set i (bi,it'))→Al P r ops Q rest (put (put e (some d) (.tuple vs)) dst2 (.bool more)) w') :
  Al P r ops Q (⟨some d,.next x false,ty,pos,af,g⟩::⟨dst2,.extract (.tmp d) 0,ty2,pos2,af2,g2⟩::rest) e w:=by
 obtain ⟨vs,more,it',w',hr,hv,hc,H'⟩:=Qp (P:=P) ty H hm hi hV;refine Be (w':=w') (v := .tuple vs) hg U (by simp [execOp,hx,hr]) ?_;exact AO (hg:=hg2 _) (by simp [ev,put]) hv (h vs more it' w' hc H')
theorem RQ {kk:IntKind} {x:Operand} {b bi i:Nat} {o it:Obj} {m vis:List (Int × Value)} {p:Int × Value} (hg:A1 ⟨dst,.entry x,ty,pos,af,g⟩ ops e=true)
  (hx:ev e x = .pointer (some ⟨bi,0,none⟩)) (H:Ctx w0 S w L) (hm:w.heap[b]? = some o) (hi:L[i]? = some (bi,it)) (hV:VisO kk b m (vis++[p]) o it)
  (h:Al P r ops Q rest (put e dst (.tuple #[.int kk p.1,p.2])) w):Al P r ops Q (⟨dst,.entry x,ty,pos,af,g⟩::rest) e w:=by
 obtain ⟨es,clock,ves,rest,rfl,hes,hb,hn,rfl,hp,hv⟩:=hV;rw [List.map_append] at hv;obtain ⟨v1,v2,rfl,h1,h2⟩:=List.map_eq_append_iff.1 hv;obtain ⟨y,v3,rfl,hy,h3⟩:=List.map_eq_cons_iff.1 h2;cases List.map_eq_nil_iff.1 h3;have he:y∈es.toList:=hp.mem_iff.1 (List.mem_append_left _ (List.mem_append_right _ (List.mem_cons_self ..)));have hpush:(((v1++[y]).map (·.born)).toArray)=(v1.map (·.born)).toArray.push y.born:=by simp
 have hi2:=H.get hi;rw [hpush] at hi2;have hr:=run_entry_at (P:=P) w bi b clock _ es clock y hi2 (hm) he hn;have hy2:y.key = .int kk p.1∧y.val=p.2:=by unfold kvE kvP at hy; exact ⟨(Prod.mk.inj hy).1,(Prod.mk.inj hy).2⟩
 rw [hy2.1,hy2.2] at hr;exact Be hg U (by simp [execOp,hx,hr]) h
def EntO (kk:IntKind) (n st:Int) (m:List (Int × Value)) (o:Obj):Prop :=
 ∃ (es:Array MapEntry) (clock:Nat) (z:Value),o = .map (es.push { key := .int kk n,val:=z,born:=clock }) (clock+1)∧st=(clock:Nat)∧es.toList.map (fun e=>(e.key,e.val))=m.map (fun p=>(Value.int kk p.1,p.2))∧(∀ e∈es.toList,e.born<clock)∧(es.toList.map (·.born)).Nodup
end
end Go.GV
namespace Go.GV
open Go
theorem M5:∀ (vs l:List Value) (i:Nat) (v:Value),v∈over l i vs→v∈l∨v∈vs
 | [],_,_,_,h => .inl h
 | x::vs,l,i,v,h=>by
  rcases M5 vs (l.set i x) (i+1) v h with h | h
  ·rcases List.mem_or_eq_of_mem_set h with h | h
   ·exact .inl h
   ·exact .inr (by rw [h]; exact List.mem_cons_self ..)
  ·exact .inr (List.mem_cons_of_mem _ h)
theorem Kg (z:Array Value) (n:Nat) (v:Value) (h:v∈(Builtin.zeroCells z n).toList):v∈z.toList:=by
 unfold Builtin.zeroCells at h;rw [Array.toList_map,List.mem_map] at h;obtain ⟨i,hi,rfl⟩:=h
 have h0:0<z.size:=by
  rw [Array.toList_range,List.mem_range] at hi
  rcases Nat.eq_zero_or_pos z.size with h | h
  ·rw [h,Nat.mul_zero] at hi; omega
  ·exact h
 have hm:=Nat.mod_lt i h0;rw [getElem!_pos z (i % z.size) hm];exact Array.getElem_mem_toList hm
section
variable {P:Program} {w w0:World} {S:List Nat} {L:List (Nat × Obj)}
theorem M6 {t t2 el el2 ty:TypeId} {s by':Nat} {zl:List Value} (hu:BJ P t=some el) (hu2:BJ P t2=some el2) (hs:Br P el=some s) (hby:CE P el=some by') (hz:B3 P el=some zl) (hzl:zl.length=s) (hpos:0<by')
  {a a2:Option Addr} {n c m c2:Nat} {full l new:List Value} (H:Ctx w0 S w (L++ent a el full)) (O:OS a n c s full l)
  (hn:new.length=m*s) (h1:∀ v∈new,AR v=true) (hc:∀ j v,new[j]? = some v→∃ p,a2=some p∧w.cell? (p.add j)=some v) (hbound:(2*(n+m)+768)*by'≤281474976710656) :
  ∃ a' c' full' w',(Builtin.append_ #[t,t2] ty #[.slice a n c,.slice a2 m c2]).run P w = .ok (.slice a' (n+m) c') w'∧Ctx w0 S w' (L++ent a' el full')∧OS a' (n+m) c' s full' (l++new)∧∀ v∈full',v∈full∨v∈new∨v∈zl:=by
 have hfc:=BU (P:=P) (w:=w) (s:=s) (m:=m) (a:=a2) (c:=m) (k:=c2) hn hc
 by_cases hfit:n+m≤c
 ·-- in place
  cases a with
  | none =>
   have h0:=O.none' rfl;have hm:m=0:=by omega
   have hn0:n=0:=by omega
   subst hm hn0 h0;have hnew:new=[]:=List.eq_nil_of_length_eq_zero (by omega);have hl:l=[]:=List.eq_nil_of_length_eq_zero (by have:=O.llen; omega);have hfull:full=[]:=List.eq_nil_of_length_eq_zero (by have:=O.len; omega);subst hnew hl hfull;refine ⟨none,0,[],w,?_,H,OS.nil,by simp⟩;simp [Builtin.append_,Az (B7 hu),Az (B7 hu2),B9 hs,Builtin.lenOf,hfc]
  | some p =>
   have hp:=O.zero p rfl;obtain ⟨b,o,sp⟩:=p;simp only [Addr.mk.injEq,true_and] at hp;obtain ⟨rfl,rfl⟩:=hp;have hk:(L++ent (some ⟨b,0,none⟩) el full)[L.length]? = some (b,Bl el full):=by simp [ent]
   have hb:=H.get hk;have hmul:(n+m)*s≤c*s:=Nat.mul_le_mul_right _ hfit;have hadd:(n+m)*s=n*s+m*s:=Nat.add_mul _ _ _;obtain ⟨w',hr,he,hb'⟩:=CO (P:=P) (o:=n*s) new full w 0 h1 hb (by rw [O.len]; omega);have hwr:=H.turn hk _ he hb';rw [show (L++ent (some ⟨b,0,none⟩) el full).set L.length (b,Bl el (over full (n*s+0) new))=L++ent (some ⟨b,0,none⟩) el (over full (n*s) new) from by simp [ent]] at hwr;refine ⟨some ⟨b,0,none⟩,c,over full (n*s) new,w',?_,hwr,?_,fun v hv=>(M5 new full _ v hv).elim .inl fun h => .inr (.inl h)⟩
   ·have hst:(storeCells (Addr.add ⟨b,0,none⟩ (n*s)) new).run P w = .ok () w':=by
     rw [add_none,Nat.zero_add]; exact hr
    simp [Builtin.append_,Az (B7 hu),Az (B7 hu2),B9 hs,Builtin.lenOf,hfc,hfit,hst]
   ·refine ⟨fun q hq=>by injection hq with hq; subst hq; rfl,(fun h=>by cases h),by rw [DG]; exact O.len,hfit,?_⟩;have hsp:=O.split;have hll:=O.llen;have htl:(full.drop (n*s)).length=c*s - n*s:=by rw [List.length_drop,O.len]
    have hcut:full.drop (n*s)=(full.drop (n*s)).take (m*s)++(full.drop (n*s)).drop (m*s):=by rw [List.take_append_drop]
    have hover:∀ (vs a b c:List Value),b.length=vs.length→over (a++b++c) a.length vs=a++vs++c:=by
     intro vs
     induction vs with
     | nil=>intro a b c hb; have:b=[]:=List.eq_nil_of_length_eq_zero (by simpa using hb); subst this; simp [over]
     | cons v vs ih =>
      intro a b c hb
      cases b with
      | nil=>simp at hb
      | cons x b =>
       have:=ih (a++[v]) b c (by simpa using hb);simp only [over];rw [show (a++x::b++c).set a.length v=a++[v]++b++c from by simp];rw [show a.length+1=(a++[v]).length from by simp,this];simp
    have hgoal:over full (n*s) new=l++new++(full.drop (n*s)).drop (m*s):=by
     have h4:=hover new l ((full.drop (n*s)).take (m*s)) ((full.drop (n*s)).drop (m*s)) (by rw [List.length_take,htl,hn]; omega);rw [List.append_assoc,← hcut,← hsp,hll] at h4;exact h4
    rw [hgoal,List.take_left' (by rw [List.length_append,hll,hn]; omega)]
 ·-- a new block
  have hfit':c<n+m:=by omega
  have hncap:=G9 (n+m) c hfit'
  have hbig:¬ (281474976710656:Int)<((Builtin.nextslicecap (n+m) c*by':Nat):Int):=by
   have:Builtin.nextslicecap (n+m) c*by'≤(2*(n+m)+768)*by':=Nat.mul_le_mul_right _ hncap
   omega
  have hnm:n+m≤281474976710656:=by
   have h1:(2*(n+m)+768)*1≤(2*(n+m)+768)*by':=Nat.mul_le_mul_left _ hpos
   omega
  -- the capacity that is drawn
  generalize hq:(Question.appendCap (n+m) c el).cut (w.tape w.drawn (Question.appendCap (n+m) c el))=cap;have hcap:n+m≤cap:=by rw [← hq]; unfold Question.cut; exact Nat.le_add_right _ _
  obtain ⟨zv,hzr,hzc⟩:=EN (P:=P) hz w.drew;have hzs:zv.cells.size=s:=by rw [← hzl,← hzc]; simp
  let full':=l++new++(Builtin.zeroCells zv.cells (cap - (n+m))).toList
  have hH:Ctx w0 S (w.drew.alloc (Bl el full')) ((w.drew.heap.size,Bl el full')::L):=by
   have:=(H.left.drew).alloc (Bl el full');exact this
  refine ⟨some ⟨w.drew.heap.size,0,none⟩,cap,full',w.drew.alloc (Bl el full'),?_,?_,?_,?_⟩
  ·have hforced:(Question.appendCap (n+m) c el).forced=false:=rfl
   have hby2:∃ i,P.info? el=some i∧i.bytes=by':=by
    unfold CE at hby
    cases hi:P.info? el with
    | none=>rw [hi] at hby; cases hby
    | some i=>rw [hi] at hby; simp at hby; exact ⟨i,rfl,hby⟩
   obtain ⟨i,hi,hib⟩:=hby2;have hti:∀ w,(typeInfo el).run P w = .ok i w:=fun w=>by simp [typeInfo,program,Sem.run,hi]
   have hold':(Builtin.firstCells s n (.slice a n c)).run P w.drew = .ok l.toArray w.drew:=by
    refine BU (O.llen) (fun j v hv=>?_);have hjl:j<l.length:=(List.getElem?_eq_some_iff.1 hv).1
    have hn0:0<n:=by
     rcases Nat.eq_zero_or_pos n with h | h
     ·have h5:=O.llen; rw [h,Nat.zero_mul] at h5; omega
     ·exact h
    obtain ⟨b,rfl⟩:=O.form hn0;refine ⟨_,rfl,?_⟩;have hk:(L++ent (some ⟨b,0,none⟩) el full)[L.length]? = some (b,Bl el full):=by simp [ent]
    show w.cell? _=_;rw [add_none,Nat.zero_add,A6 (H.get hk),O.split,List.getElem?_append_left hjl];exact hv
   have hfc':(Builtin.firstCells s m (.slice a2 m c2)).run P w.drew = .ok new.toArray w.drew:=BU hn hc;have hroom:∀ k w,(askRoom k).run P w = .ok () w:=fun k w=>by unfold askRoom; split <;> rfl
   have hby0:¬ by'=0:=by omega
   have hnn:(Builtin.append_ #[t,t2] ty #[.slice a n c,.slice a2 m c2]).run P w = .ok (.slice (some ⟨w.drew.heap.size,0,none⟩) (n+m) cap) (w.drew.alloc (.cells (l.toArray++(new.toArray++Builtin.zeroCells zv.cells (cap - (n+m)))) el)):=by
    have hb3:¬ 281474976710656<Builtin.nextslicecap (n+m) c*by':=by omega
    simp [Builtin.append_,Az (B7 hu),Az (B7 hu2),B9 hs,Builtin.lenOf,hfc',hold',hfit,hti,hib,hb3,hby0,hforced,hq,hroom,hzr,newRow,newObj,Sem.run]
   rw [hnn]
   have harr:l.toArray++(new.toArray++Builtin.zeroCells zv.cells (cap - (n+m)))=full'.toArray:=by
    apply Array.ext'; simp [full']
   rw [harr];rfl
  ·exact hH.perm (List.perm_append_comm (l₁:=[(w.drew.heap.size,Bl el full')]) (l₂:=L))
  ·refine ⟨(fun q hq=>by injection hq with hq; subst hq; rfl),(fun h=>by cases h),?_,hcap,?_⟩
   ·show (l++new++(Builtin.zeroCells zv.cells (cap - (n+m))).toList).length=cap*s;rw [List.length_append,List.length_append,O.llen,hn,Array.length_toList,D7,hzs,← Nat.add_mul,← Nat.add_mul]
    congr 1
    omega
   ·show (l++new++(Builtin.zeroCells zv.cells (cap - (n+m))).toList).take ((n+m)*s)=l++new;rw [List.take_left' (by rw [List.length_append,O.llen,hn,Nat.add_mul])]
  ·intro v hv
   rcases List.mem_append.1 hv with h | h
   ·rcases List.mem_append.1 h with h | h
    ·exact .inl (List.mem_of_mem_take (by rw [O.pre]; exact h))
    ·exact .inr (.inl h)
   ·refine .inr (.inr ?_);have h5:=Kg _ _ v h;rw [hzc] at h5
    simpa using h5
end
section
variable {P:Program} {r:Option Nat} {ops rest:List Oper} {Q:Exit→Env→World→Prop} {e:Env} {w w0:World} {S:List Nat} {L:List (Nat × Obj)}
 {dst:Option Tmp} {ty:TypeId} {pos:String} {af:Array Edge} {g:Option (Nat × Bool)}
theorem M7 {t t2 el el2:TypeId} {x y:Operand} {s by':Nat} {zl:List Value} (hg:A1 ⟨dst,.call ⟨.builtin .append,#[x,y],#[t,t2]⟩,ty,pos,af,g⟩ ops e=true)
  (hu:BJ P t=some el) (hu2:BJ P t2=some el2) (hs:Br P el=some s) (hby:CE P el=some by') (hz:B3 P el=some zl) (hzl:zl.length=s)
  {a:Option Addr} {n c m c2 b2:Nat} {t3:TypeId} {full l new:List Value} (hx:ev e x = .slice a n c) (hy:ev e y = .slice (some ⟨b2,0,none⟩) m c2) (H:Ctx w0 S w ((b2,Bl t3 new)::(L++ent a el full))) (O:OS a n c s full l)
  (hn:new.length=m*s) (h1:∀ v∈new,AR v=true)
  (h:∀ a' c' full' w',Ctx w0 S w' (L++ent a' el full')→OS a' (n+m) c' s full' (l++new)→(∀ v∈full',v∈full∨v∈new∨v∈zl)→Al P r ops Q rest (put e dst (.slice a' (n+m) c')) w')  (hpos:0<by':=by decide) (hbound:(2*(n+m)+768)*by'≤281474976710656:=by omega):
  Al P r ops Q (⟨dst,.call ⟨.builtin .append,#[x,y],#[t,t2]⟩,ty,pos,af,g⟩::rest) e w:=by
 obtain ⟨a',c',full',w',hr,H',O',Z'⟩:=M6 (ty:=ty) hu hu2 hs hby hz hzl hpos H.tail O hn h1 (fun j v hv=>⟨_,rfl,by rw [add_none,Nat.zero_add,A6 (H.get at0)]; exact hv⟩) hbound (c2:=c2);exact Be hg U (by simp [execOp,resolve,invoke,builtin,hx,hy,hr]) (h a' c' full' w' H' O' Z')
end
end Go.GV
namespace Go.GV
open Go
def L3:TypeDesc→Bool
 | .struct _=>false
 | .array _ _=>false
 | _=>true
def Jw (P:Program):List Field→Nat→List Bool→Bool
 | [],_,[]=>true
 | f::fs,i,k::ks=>(f.name != "_" && (f.offset == i && (match P.underlying f.type,k with | some (.int _),true=>true | some .bool,false=>true | _,_=>false))) && Jw P fs (i+1) ks
 | _,_,_=>false
def likeV:Bool→Value→Value→Prop
 | true,.int k _,.int k' _=>k=k'
 | false,.bool _,.bool _=>True
 | _,_,_=>False
def K6:List Bool→List Value→List Value→Prop
 | [],[],[]=>True
 | k::ks,x::xs,y::ys=>likeV k x y∧K6 ks xs ys
 | _,_,_=>False
section
variable {P:Program}
theorem HH {t:TypeId} {u:TypeDesc} {cs:Array Value} {i:Nat} {v:Value} (w:World) (hu:P.underlying t=some u) (hs:L3 u=true) (hc:cs[i]? = some v):(part t cs i).run P w = .ok v w:=by
 cases u <;> simp_all [part,isAgg,Az hu,L3]
theorem GQ (d:Nat) (X Y:Array Value) (w:World):∀ (fs:List Field) (i:Nat) (ks:List Bool) (xs ys:List Value),Jw P fs i ks=true→K6 ks xs ys→(∀ j v,xs[j]? = some v→X[i+j]? = some v)→(∀ j v,ys[j]? = some v→Y[i+j]? = some v) →
  ∃ r:Bool,(Op.eqFields (d+1) X Y fs).run P w = .ok r w∧(r=true↔xs=ys)
 | [],i,ks,xs,ys,hF,hL,_,_=>by
  cases ks with
  | cons k ks=>cases hF
  | nil =>
   cases xs with
   | cons x xs=>cases hL
   | nil =>
    cases ys with
    | cons y ys=>cases hL
    | nil=>exact ⟨true,by simp [Op.eqFields],by simp⟩
 | f::fs,i,ks,xs,ys,hF,hL,hX,hY=>by
  cases ks with
  | nil=>cases hF
  | cons k ks =>
   cases xs with
   | nil=>cases hL
   | cons x xs =>
    cases ys with
    | nil=>cases hL
    | cons y ys =>
     obtain ⟨hv,hL⟩:=hL;simp only [Jw,Bool.and_eq_true,bne_iff_ne,ne_eq,beq_iff_eq] at hF;obtain ⟨⟨hn,ho,hu⟩,hF⟩:=hF;obtain ⟨r,hr,hri⟩:=GQ d X Y w fs (i+1) ks xs ys hF hL (fun j v hj=>by rw [Nat.add_assoc,Nat.add_comm 1]; exact hX (j+1) v hj) (fun j v hj=>by rw [Nat.add_assoc,Nat.add_comm 1]; exact hY (j+1) v hj);have hx0:=hX 0 x rfl;have hy0:=hY 0 y rfl;rw [Nat.add_zero,← ho] at hx0 hy0
     obtain ⟨q,hq,hqi⟩:∃ q:Bool,(∀ w,(Op.equalIn (d+1) f.type x y).run P w = .ok q w)∧(q=true↔x=y):=by
      split at hu
      ·rename_i k' hk
       cases x <;> cases y <;> (try exact hv.elim)
       rename_i k1 a k2 b
       obtain rfl:k1=k2:=hv;exact ⟨a == b,fun w=>run_equalIn_int w d f.type _ _ a b hk,by simp⟩
      ·rename_i hk
       cases x <;> cases y <;> (try exact hv.elim)
       rename_i a b
       exact ⟨a == b,fun w=>run_equalIn_bool w d f.type a b hk,by simp⟩
      ·cases hu
     have hu2:∃ u,P.underlying f.type=some u∧L3 u=true:=by
      split at hu
      ·rename_i h1; exact ⟨_,h1,rfl⟩
      ·rename_i h1; exact ⟨_,h1,rfl⟩
      ·cases hu
     obtain ⟨u,hu3,hu4⟩:=hu2;have hp1:=HH w hu3 hu4 hx0;have hp2:=HH w hu3 hu4 hy0
     cases q with
     | false =>
      refine ⟨false,?_,?_⟩
      ·simp [Op.eqFields,hn,hp1,hp2,hq]
      ·have:¬ x=y:=fun h=>by have:=hqi.2 h; cases this
       simp [this]
     | true =>
      refine ⟨r,?_,?_⟩
      ·simp [Op.eqFields,hn,hp1,hp2,hq,hr]
      ·have:x=y:=hqi.1 rfl;simp [this,hri]
def Fi (P:Program) (t:TypeId) (ks:List Bool):Bool :=
 (match P.underlying t with | some (.struct _)=>true | _=>false) && (!P.stoodInHeld t && (!P.eqGuardType P.depth t && Jw P (P.fieldsOf t).toList 0 ks))
theorem Jx {t:TypeId} {ks:List Bool} {xs ys:List Value} (w:World) (h:Fi P t ks=true) (hL:K6 ks xs ys):∃ r:Bool,(Op.equalIn 10000 t (.agg xs.toArray) (.agg ys.toArray)).run P w = .ok r w∧(r=true↔xs=ys):=by
 unfold Fi at h;simp only [Bool.and_eq_true,Bool.not_eq_true'] at h;obtain ⟨h1,h2,h3,h4⟩:=h
 have ht:P.underlying t=some (.struct (P.fieldsOf t)):=by
  unfold Program.fieldsOf
  split at h1
  ·rename_i h5; rw [h5]
  ·cases h1
 obtain ⟨r,hr,hri⟩:=GQ (P:=P) 9998 xs.toArray ys.toArray w _ 0 ks xs ys h4 hL (fun j v hv=>by rw [Nat.zero_add]; simpa using hv) (fun j v hv=>by rw [Nat.zero_add]; simpa using hv);exact ⟨r,by rw [run_equalIn_struct w 9999 t _ _ ht h2]; exact hr,hri⟩
end
section
variable {P:Program} {r:Option Nat} {ops rest:List Oper} {Q:Exit→Env→World→Prop} {e:Env} {w:World} {C:World→Prop} {K:Env→Prop}
 {dst:Option Tmp} {ty:TypeId} {pos:String} {af:Array Edge} {g:Option (Nat × Bool)} {t t2:TypeId} {x y:Operand}
theorem U7 {ks:List Bool} {xs ys:List Value} {b:Bool} (h:Fi P t ks=true) (hx:ev e x = .agg xs.toArray) (hy:ev e y = .agg ys.toArray) (hL:K6 ks xs ys) (hb:b=true↔xs=ys) (w:World) :
  (execOp (ev e) ⟨dst,.binOp .neq t x y t2,ty,pos,af,g⟩).run P w = .ok (.value (.bool (!b))) w:=by
 obtain ⟨r,hr,hri⟩:=Jx w h hL;have hrb:r=b:=by rw [Bool.eq_iff_iff,hri,hb]
 have hg:(eqGuard .neq t x y (.agg xs.toArray) (.agg ys.toArray)).run P w = .ok () w:=run_eqGuard_agg w .neq t x y _ _ (by
  unfold Fi at h; simp only [Bool.and_eq_true,Bool.not_eq_true'] at h; exact h.2.2.1)
 subst hrb;simp [execOp,hx,hy,hg,run_neq_struct,hr]
theorem RS {ks:List Bool} {xs ys:List Value} (b:Bool) (hg:A1 ⟨dst,.binOp .neq t x y t2,ty,pos,af,g⟩ ops e=true) (hx:ev e x = .agg xs.toArray) (hy:ev e y = .agg ys.toArray) (hL:K6 ks xs ys) (hb:b=true↔xs=ys)
  (hk:Wq P ops C K rest (put e dst (.bool (!b)))) (h:Fi P t ks=true:=by kernel_rfl):Wq P ops C K (⟨dst,.binOp .neq t x y t2,ty,pos,af,g⟩::rest) e:=DH hg (fun w _=>U7 h hx hy hL hb w) hk
end
end Go.GV
namespace Go.GV
open Go
section
variable {α:Type} {w w':World} {a:Option Addr} {s:Nat} {enc:α→List Value} {xs:List α} {S:List Nat}
theorem Rd.ext' (h:Rd w a s enc xs) (he:Ext S w w') (hn:xs≠[]→(adr a).block∉S):Rd w' a s enc xs :=
 ⟨h.some',fun i x hx j v hv hj=>he.cell (h.cell i x hx j v hv hj) (hn (by rintro rfl; simp at hx))⟩
theorem Rd.lt' (h:Rd w a s enc xs) (hs:∀ x∈xs,(enc x).length=s) (h0:0<s) (hne:xs≠[]):(adr a).block<w.heap.size:=by
 cases xs with
 | nil=>exact absurd rfl hne
 | cons x xs =>
  obtain ⟨v,hv⟩:=AV (l:=enc x) (i:=0) (h:=by rw [hs x (List.mem_cons_self ..)]; exact h0);exact World.block_lt_of_cell? w ⟨(adr a).block,(adr a).off+0*s+0,none⟩ (h.cell 0 x U 0 v hv h0)
end
structure Sl (w w':World) (v:Value) (s:Nat) {α:Type} (enc:α→List Value) (xs:List α):Prop where
 ex:∃ a c,v = .slice a xs.length c∧xs.length≤c∧Rd w' a s enc xs∧(xs≠[]→w.heap.size≤(adr a).block)
theorem Sl.of {w w':World} {el s:Nat} {v:Value} {α:Type} {enc:α→List Value} {xs:List α} (F:Fresh w w' el s v (xs.flatMap enc)) (hs:∀ x∈xs,(enc x).length=s) (h0:0<s):Sl w w' v s enc xs:=by
 obtain ⟨a,n,c,full,rfl,O,hb⟩:=F.ex;obtain rfl:=O.numN hs h0;refine ⟨a,c,rfl,O.le,OS.rd O (fun x hx=>(hb x hx).1) hs h0,fun hne=>?_⟩;obtain ⟨q,rfl⟩:=O.form (List.length_pos_iff.2 hne);exact (hb (q,Bl el full) (List.mem_singleton.2 U)).2
theorem Sl.nil {w w':World} {s:Nat} {α:Type} {enc:α→List Value}:Sl w w' (.slice none 0 0) s enc ([]:List α):=⟨none,0,rfl,Nat.le_refl _,Rd.nil,fun h=>absurd rfl h⟩
end Go.GV
namespace Go.GV
open Go
section
variable {P:Program} {e:Env} {w w0:World} {S:List Nat} {L:List (Nat × Obj)} {fn:Func} {R:Value→World→Prop}
theorem IR {a s1 s2 s4:Tmp} {t t2:TypeId} {b k s:Nat} {l:List Value} {v1 v2 v4:Value} (hr:fn.results=#[.tmp s1,.tmp s2,.cell a t,.tmp s4]) (hd:e.ds=[]) (h1:e.g s1=v1) (h2:e.g s2=v2) (ha:e.g a = .pointer (some ⟨b,0,none⟩)) (hag:Cb P t=some true) (hs:Br P t=some s)
  (H:Ctx w0 S w L) (hk:L[k]? = some (b,Bl t2 l)) (hl:l.length=s) (h4:e.g s4=v4) (h:R (.tuple #[v1,v2,.agg l.toArray,v4]) w):Jf P fn R .ret e w :=
 ⟨hd,fun tmps ht=>by
  have hv:=Eh hag hs hl (fun j v hv=>show w.cell? ⟨b,0+j,none⟩=some v by rw [A6 (H.get hk),Nat.zero_add]; exact hv);have g1:=(ht a).trans ha;have g2:=(ht s1).trans h1;have g3:=(ht s2).trans h2;have g4:=(ht s4).trans h4;rw [Array.getD_eq_getD_getElem?] at g1 g2 g3 g4
  exact ⟨.tuple #[v1,v2,.agg l.toArray,v4],by simp [results,hr,g1,g2,g3,g4,asAddr,hv],h⟩⟩
end
end Go.GV
namespace Go.GV
open Go
def D8 {κ:Type} [DecidableEq κ] (m:List (κ × Value)) (k:κ):Option Value:=(m.find? fun p=>decide (p.1=k)).map (·.2)
def Kh {κ:Type} [DecidableEq κ]:List (κ × Value)→κ→List (κ × Value)
 | [],_=>[]
 | p::m,k=>if p.1=k then m else p::Kh m k
abbrev M8 (e:MapEntry):Value × Value:=(e.key,e.val)
abbrev M9 {κ:Type} (E:κ→List Value) (p:κ × Value):Value × Value:=(.agg (E p.1).toArray,p.2)
def IH {κ:Type} (E:κ→List Value) (m:List (κ × Value)) (o:Obj):Prop :=
 ∃ es clock,o = .map es clock∧es.toList.map M8=m.map (M9 E)∧(∀ e∈es.toList,e.born<clock)∧(es.toList.map (·.born)).Nodup
theorem K7 {κ:Type} [DecidableEq κ] {n:κ}:∀ {m:List (κ × Value)},D8 m n=none→Kh m n=m
 | [],_=>rfl
 | p::m,h=>by
  have hp:¬ p.1=n:=fun hp=>by simp [D8,hp] at h
  have hm2:D8 m n=none:=by rw [← h]; simp [D8,hp]
  simp [Kh,hp,K7 hm2]
structure KeyOk {κ:Type} (P:Program) (k:TypeId) (ks:List Bool) (E:κ→List Value):Prop where
 plain:Fi P k ks=true
 like:∀ x y,K6 ks (E x) (E y)
 inj:∀ x y,E x=E y→x=y
section
variable {P:Program} {κ:Type} [DecidableEq κ] {k:TypeId} {ks:List Bool} {E:κ→List Value}
theorem K8 (h:Fi P k ks=true):P.underlying k=some (.struct (P.fieldsOf k)):=by
 unfold Fi at h;simp only [Bool.and_eq_true] at h;have h1:=h.1;unfold Program.fieldsOf
 split at h1
 ·rename_i h5; rw [h5]
 ·cases h1
omit [DecidableEq κ] in
theorem EI (hK:KeyOk P k ks E) (b:Bool) (x:κ) (w:World) (d:Nat):(Instr.checkKey b (d+2) k (.agg (E x).toArray)).run P w = .ok () w:=by
 have hp:=hK.plain;have hu:=K8 hp;unfold Fi at hp;simp only [Bool.and_eq_true] at hp;have hF:=hp.2.2.2;have hL:=hK.like x x;have hX:∀ (j:Nat) (v:Value),(E x)[j]? = some v→(E x).toArray[0+j]? = some v:=fun j v hv=>by rw [Nat.zero_add]; simpa using hv
 rw [Instr.checkKey];simp only [Sem.run_bind,Az hu,Result.andThen_ok];rw [← Array.forIn_toList];generalize (P.fieldsOf k).toList=fs at hF ⊢;generalize (E x).toArray=X at hX ⊢;generalize E x=xs at hL hX;generalize 0=i at hF hX;clear hp hu hK
 induction fs generalizing i ks xs with
 | nil=>simp
 | cons f fs ih =>
  cases ks with
  | nil=>cases hF
  | cons k ks =>
   cases xs with
   | nil=>exact hL.elim
   | cons x xs =>
    simp only [Jw,Bool.and_eq_true,bne_iff_ne,ne_eq,beq_iff_eq] at hF;obtain ⟨⟨hn,ho,hu⟩,hF⟩:=hF;have ih:=ih xs hL.2 (i+1) hF (fun j v hj=>by rw [Nat.add_assoc,Nat.add_comm 1]; exact hX (j+1) v hj);have hx0:=hX 0 x rfl;rw [Nat.add_zero,← ho] at hx0
    obtain ⟨u,hu3,hu4,hu5⟩:∃ u,P.underlying f.type=some u∧L3 u=true∧(Instr.checkKey b (d+1) f.type x).run P w = .ok () w:=by
     split at hu
     ·rename_i h1; exact ⟨_,h1,rfl,by simp [Instr.checkKey,Az h1]⟩
     ·rename_i h1; exact ⟨_,h1,rfl,by simp [Instr.checkKey,Az h1]⟩
     ·cases hu
    have hp1:=HH w hu3 hu4 hx0;simp only [List.forIn_cons,Sem.run_bind,hn,not_false_eq_true,ne_eq,if_true,hp1,Result.andThen_ok,hu5,Sem.run_pure];exact ih
theorem MA (hK:KeyOk P k ks E) (x:κ) (w:World):∀ (es:List MapEntry) (m:List (κ × Value)) (i:Nat),es.map M8=m.map (M9 E) →
  (D8 m x=none→(Instr.findAsking k (.agg (E x).toArray) es i).run P w = .ok none w) ∧
  (∀ v,D8 m x=some v→∃ j,(Instr.findAsking k (.agg (E x).toArray) es i).run P w = .ok (some (i+j,v)) w∧j<es.length∧(es.eraseIdx j).map M8=(Kh m x).map (M9 E))
 | [],m,i,h=>by
  cases m with
  | nil=>exact ⟨fun _=>by simp [Instr.findAsking],fun v hv=>by cases hv⟩
  | cons p m=>cases h
 | e::es,m,i,h=>by
  cases m with
  | nil=>cases h
  | cons p m =>
   simp only [List.map_cons,List.cons.injEq,Prod.mk.injEq] at h;obtain ⟨⟨hk,hv⟩,ht⟩:=h;have ih:=MA hK x w es m (i+1) ht;obtain ⟨r,hr,hri⟩:=Jx (P:=P) w hK.plain (hK.like x p.1);have hr':(Op.equal k (.agg (E x).toArray) e.key).run P w = .ok r w:=by rw [hk]; simp only [Op.equal,Op.maxDepth]; exact hr
   by_cases hn:p.1=x
   ·have hrt:r=true:=hri.2 (by rw [hn]);have hg:D8 (p::m) x=some p.2:=by simp [D8,hn]
    refine ⟨(fun h=>by rw [hg] at h; cases h),fun v hv'=>?_⟩;rw [hg] at hv'
    injection hv' with hv'
    subst hv';refine ⟨0,by simp [Instr.findAsking,hr',hrt,hv],by simp,?_⟩;simp [Kh,hn,ht]
   ·have hrf:r=false:=by
     cases r with
     | false=>rfl
     | true=>exact absurd (hK.inj _ _ (hri.1 rfl)).symm hn
    have hg:D8 (p::m) x=D8 m x:=by simp [D8,hn]
    rw [hg];refine ⟨fun h=>by simp [Instr.findAsking,hr',hrf,ih.1 h],fun v hv'=>?_⟩;obtain ⟨j,h1,h2,h3⟩:=ih.2 v hv';refine ⟨j+1,by simp [Instr.findAsking,hr',hrf,h1]; omega,by simp; omega,?_⟩;simp only [List.eraseIdx_cons_succ,List.map_cons,Kh,if_neg hn,h3];rw [show M8 e=M9 E p from by unfold M8 M9; rw [hk,hv]]
theorem HI (hK:KeyOk P k ks E) (x:κ) (w:World) {es:List MapEntry} {m:List (κ × Value)} (h:es.map M8=m.map (M9 E)) :
  (D8 m x=none→(Instr.findKey k (.agg (E x).toArray) es).run P w = .ok none w) ∧
  (∀ v,D8 m x=some v→∃ j,(Instr.findKey k (.agg (E x).toArray) es).run P w = .ok (some (j,v)) w∧j<es.length∧(es.eraseIdx j).map M8=(Kh m x).map (M9 E)):=by
 have hu:=K8 hK.plain;have ha:=MA hK x w es m 0 h
 have hf:(Instr.findKey k (.agg (E x).toArray) es).run P w=(Instr.findAsking k (.agg (E x).toArray) es 0).run P w:=by
  unfold Instr.findKey
  cases es with
  | nil=>simp [Az hu,Instr.findNow,Instr.findAsking]
  | cons e es=>simp [Az hu,Instr.findNow,Instr.sameNow]
 rw [hf];refine ⟨ha.1,fun v hv=>?_⟩;obtain ⟨j,h1,h2,h3⟩:=ha.2 v hv;exact ⟨j,by rw [h1,Nat.zero_add],h2,h3⟩
end
section
variable {P:Program} {r:Option Nat} {ops rest:List Oper} {Q:Exit→Env→World→Prop} {e:Env} {w w0:World} {S:List Nat} {L:List (Nat × Obj)}
 {dst:Option Tmp} {ty:TypeId} {pos:String} {af:Array Edge} {g:Option (Nat × Bool)} {κ:Type} [DecidableEq κ] {k:TypeId} {ks:List Bool} {E:κ→List Value}
omit [DecidableEq κ] in
theorem MB {t:TypeId} (E:κ→List Value) (hg:A1 ⟨dst,.makeMap t none,ty,pos,af,g⟩ ops e=true) (H:Ctx w0 S w L)
  (h:∀ b o w',IH E [] o→Ctx w0 S w' ((b,o)::L)→Al P r ops Q rest (put e dst (.map (some b))) w') :
  Al P r ops Q (⟨dst,.makeMap t none,ty,pos,af,g⟩::rest) e w:=by
 refine Be (w':=w.alloc (.map #[] 0)) (v := .map (some w.heap.size)) hg U ?_ (h _ _ _ ⟨#[],0,rfl,rfl,by simp,by simp⟩ (H.alloc _));simp [execOp,Instr.makeMap,newObj,Sem.run]
theorem Iw {t el:TypeId} {b:Nat} {o:Obj} {m:List (κ × Value)} {x:κ} {z:Value} (ok:Bool) (hK:KeyOk P k ks E) (ht:Gv P t=some (k,el)) (hz:(P.info? el).bind (·.zero)=some z) (hb:w.heap[b]? = some o) (hM:IH E m o) :
  (Instr.lookup t (.map (some b)) (.agg (E x).toArray) ok).run P w = .ok (if ok then .tuple #[(D8 m x).getD z,.bool (D8 m x).isSome] else (D8 m x).getD z) w:=by
 obtain ⟨es,clock,rfl,hes,_⟩:=hM;have hf:=HI hK x w hes;have hgo:(getObj b).run P w = .ok (.map es clock) w:=by simp [getObj,Sem.run,hb]
 have hck:∀ b w,(Instr.checkKey b 10000 k (.agg (E x).toArray)).run P w = .ok () w:=fun b w=>EI hK b x w 9998
 have hzr:(zeroValue el).run P w = .ok z w:=by
  cases hi:P.info? el with
  | none=>rw [hi] at hz; cases hz
  | some i=>rw [hi] at hz; simp at hz; simp [zeroValue,typeInfo,program,Sem.run,hi,hz]
 cases hm:D8 m x with
 | none=>cases ok <;> simp [Instr.lookup,Az (DQ ht),hgo,hck,hf.1 hm,hzr]
 | some v =>
  obtain ⟨i,hi,_⟩:=hf.2 v hm;cases ok <;> simp [Instr.lookup,Az (DQ ht),hgo,hck,hi]
theorem NR {t t2 el:TypeId} {x y:Operand} {b j:Nat} {o:Obj} {m:List (κ × Value)} (n:κ) (hg:A1 ⟨dst,.call ⟨.builtin .delete,#[x,y],#[t,t2]⟩,ty,pos,af,g⟩ ops e=true)
  (hK:KeyOk P k ks E) (ht:Gv P t=some (k,el)) (hx:ev e x = .map (some b)) (hy:ev e y = .agg (E n).toArray) (H:Ctx w0 S w L) (hl:L[j]? = some (b,o)) (hM:IH E m o)
  (h:∀ o' w',IH E (Kh m n) o'→Ctx w0 S w' (L.set j (b,o'))→Al P r ops Q rest (put e dst (.tuple #[])) w'):Al P r ops Q (⟨dst,.call ⟨.builtin .delete,#[x,y],#[t,t2]⟩,ty,pos,af,g⟩::rest) e w:=by
 obtain ⟨es,clock,rfl,hes,hbn,hnd⟩:=hM;have hb:=H.get hl;have hf:=HI hK n w hes;have hgo:(getObj b).run P w = .ok (.map es clock) w:=by simp [getObj,Sem.run,hb]
 have hck:∀ b w,(Instr.checkKey b 10000 k (.agg (E n).toArray)).run P w = .ok () w:=fun b w=>EI hK b n w 9998;have hso:∀ o',(setObj b o').run P w = .ok () (w.putObj b o'):=fun o'=>by simp [setObj,Sem.run,hb,World.putObj]
 cases hm:D8 m n with
 | none =>
  have hkd:Kh m n=m:=K7 hm;refine Be hg U ?_ (h (.map es clock) (w.putObj b _) ⟨es,clock,rfl,by rw [hkd]; exact hes,hbn,hnd⟩ (H.setB hl _));simp [execOp,resolve,invoke,builtin,hx,hy,Builtin.delete_,Az (DQ ht),hgo,hck,hf.1 hm,hso]
 | some v =>
  obtain ⟨i,hi,hil,h3⟩:=hf.2 v hm;have hil2:i<es.size:=by simpa using hil
  have hto:(es.eraseIdxIfInBounds i).toList=es.toList.eraseIdx i:=by simp [Array.eraseIdxIfInBounds,hil2]
  refine Be hg U ?_ (h (.map (es.eraseIdxIfInBounds i) clock) (w.putObj b _) ⟨_,clock,rfl,by rw [hto]; exact h3,fun e he=>hbn e ?_,?_⟩ (H.setB hl _))
  ·simp [execOp,resolve,invoke,builtin,hx,hy,Builtin.delete_,Az (DQ ht),hgo,hck,hi,hso]
  ·rw [hto] at he; exact List.mem_of_mem_eraseIdx he
  ·rw [hto]; exact hnd.sublist ((List.eraseIdx_sublist _ _).map _)
def EntK (E:κ→List Value) (n:κ) (st:Int) (m:List (κ × Value)) (o:Obj):Prop :=
 ∃ (es:Array MapEntry) (clock:Nat) (z:Value),o = .map (es.push { key := .agg (E n).toArray,val:=z,born:=clock }) (clock+1)∧st=(clock:Nat)∧es.toList.map M8=m.map (M9 E)∧(∀ e∈es.toList,e.born<clock)∧(es.toList.map (·.born)).Nodup
theorem L4 {t el:TypeId} {x y:Operand} {b j:Nat} {o:Obj} {m:List (κ × Value)} (n:κ) {z:Value} (hg:A1 ⟨dst,.mapEntry t x y,ty,pos,af,g⟩ ops e=true)
  (hK:KeyOk P k ks E) (ht:Gv P t=some (k,el)) (hz:(P.info? el).bind (·.zero)=some z) (hx:ev e x = .map (some b)) (hy:ev e y = .agg (E n).toArray) (H:Ctx w0 S w L) (hl:L[j]? = some (b,o)) (hM:IH E m o) (hm:D8 m n=none)
  (h:∀ st o' w',EntK E n st m o'→Ctx w0 S w' (L.set j (b,o'))→Al P r ops Q rest (put e dst (.tuple #[z,.int .i64 st])) w'):Al P r ops Q (⟨dst,.mapEntry t x y,ty,pos,af,g⟩::rest) e w:=by
 obtain ⟨es,clock,rfl,hes,hbn,hnd⟩:=hM;have hb:=H.get hl;have hf:=HI hK n w hes;have hgo:(getObj b).run P w = .ok (.map es clock) w:=by simp [getObj,Sem.run,hb]
 have hck:∀ b w,(Instr.checkKey b 10000 k (.agg (E n).toArray)).run P w = .ok () w:=fun b w=>EI hK b n w 9998;have hso:∀ o',(setObj b o').run P w = .ok () (w.putObj b o'):=fun o'=>by simp [setObj,Sem.run,hb,World.putObj]
 have hzr:(zeroValue el).run P w = .ok z w:=by
  cases hi:P.info? el with
  | none=>rw [hi] at hz; cases hz
  | some i=>rw [hi] at hz; simp at hz; simp [zeroValue,typeInfo,program,Sem.run,hi,hz]
 refine Be hg U ?_ (h (clock:Nat) _ (w.putObj b _) ⟨es,clock,z,rfl,rfl,hes,hbn,hnd⟩ (H.setB hl _));simp [execOp,Instr.mapEntry,Az (DQ ht),hx,hy,hgo,hck,hf.1 hm,hzr,hso,goInt]
omit [DecidableEq κ] in
theorem Jy {t:TypeId} {x y z:Operand} {b j:Nat} {o:Obj} {m:List (κ × Value)} {n:κ} {st:Int} (v:Value) (hg:A1 ⟨dst,.entryStore t x y z,ty,pos,af,g⟩ ops e=true)
  (hx:ev e x = .map (some b)) (hy:ev e y = .int .i64 st) (hz:ev e z=v) (H:Ctx w0 S w L) (hl:L[j]? = some (b,o)) (hE:EntK E n st m o)
  (h:∀ o' w',IH E (m++[(n,v)]) o'→Ctx w0 S w' (L.set j (b,o'))→Al P r ops Q rest (put e dst undef) w'):Al P r ops Q (⟨dst,.entryStore t x y z,ty,pos,af,g⟩::rest) e w:=by
 obtain ⟨es,clock,z0,rfl,rfl,hes,hbn,hnd⟩:=hE;have hb:=H.get hl;have hgo:(getObj b).run P w = .ok (.map (es.push { key := .agg (E n).toArray,val:=z0,born:=clock }) (clock+1)) w:=by simp [getObj,Sem.run,hb]
 have hso:∀ o',(setObj b o').run P w = .ok () (w.putObj b o'):=fun o'=>by simp [setObj,Sem.run,hb,World.putObj]
 have hno:es.findIdx? (fun e=>((e.born:Nat):Int) == ((clock:Nat):Int))=none:=by
  rw [Array.findIdx?_eq_none_iff];intro x hx;have:=hbn x (Array.mem_toList_iff.2 hx);simp only [beq_eq_false_iff_ne,ne_eq];omega
 have hfi:(es.push { key := .agg (E n).toArray,val:=z0,born:=clock }).findIdx? (fun e=>((e.born:Nat):Int) == ((clock:Nat):Int))=some es.size:=by
  rw [Array.findIdx?_push,hno]; simp
 refine IM (w':=w.putObj b (.map (es.push { key := .agg (E n).toArray,val:=v,born:=clock }) (clock+1))) hg U ?_ (h _ _ ⟨_,_,rfl,?_,?_,?_⟩ (H.setB hl _))
 ·have hmod:(es.push { key := .agg (E n).toArray,val:=z0,born:=clock }).modify es.size (fun e=>{ e with val:=v })=es.push { key := .agg (E n).toArray,val:=v,born:=clock }:=by
   apply Array.ext';rw [Array.toList_modify,Array.toList_push,Array.toList_push];have:es.size=es.toList.length:=by simp
   rw [this];generalize es.toList=l
   induction l with
   | nil=>rfl
   | cons x l ih=>simp only [List.length_cons,List.cons_append,List.modify_succ_cons,ih]
  simp [execOp,Instr.entryStore,hx,hy,hz,hgo,asInt,asIntOf,hfi,hso,hmod]
 ·simp [hes]
 ·intro x hx;simp only [Array.toList_push,List.mem_append,List.mem_singleton] at hx
  rcases hx with hx | rfl
  ·have:=hbn x hx; omega
  ·simp
 ·simp only [Array.toList_push,List.map_append,List.map_cons,List.map_nil];rw [List.nodup_append];refine ⟨hnd,by simp,?_⟩;intro x hx y hy;simp only [List.mem_singleton] at hy;subst hy;rw [List.mem_map] at hx;obtain ⟨e',he',rfl⟩:=hx;have:=hbn e' he';omega
end
end Go.GV
namespace Go.GV
open Go
structure OSo (a:Option Addr) (o n c s:Nat) (full l:List Value):Prop where
 pos:∀ p,a=some p→p=⟨p.block,o*s,none⟩
 none':a=none→c=0∧o=0
 len:full.length=(o+c)*s
 le:n≤c
 pre:(full.drop (o*s)).take (n*s)=l
theorem OSo.nil {s:Nat}:OSo none 0 0 0 s [] []:=⟨(fun _ h=>by cases h),fun _=>⟨rfl,rfl⟩,by simp,Nat.le_refl _,by simp⟩
theorem OSo.llen {a:Option Addr} {o n c s:Nat} {full l:List Value} (h:OSo a o n c s full l):l.length=n*s:=by
 rw [← h.pre,List.length_take,List.length_drop,h.len,Nat.add_mul];have:=Nat.mul_le_mul_right s h.le;omega
theorem OSo.split {a:Option Addr} {o n c s:Nat} {full l:List Value} (h:OSo a o n c s full l):full=full.take (o*s)++l++full.drop (o*s+n*s):=by
 rw [← h.pre,List.append_assoc,← List.drop_drop,List.take_append_drop,List.take_append_drop]
theorem OSo.cell {w:World} {b o n c s:Nat} {full l:List Value} {t:TypeId} (h:OSo (some ⟨b,o*s,none⟩) o n c s full l) (hb:w.heap[b]? = some (Bl t full)) {j:Nat} {v:Value} (hv:l[j]? = some v):w.cell? ⟨b,o*s+j,none⟩=some v:=by
 have hjl:j<l.length:=(List.getElem?_eq_some_iff.1 hv).1;have hll:=h.llen;have hmul:=Nat.mul_le_mul_right s h.le;have hlen:=h.len;rw [Nat.add_mul] at hlen;rw [A6 hb,h.split,List.append_assoc,List.getElem?_append_right (by rw [List.length_take]; omega),List.length_take,show o*s+j - min (o*s) full.length=j by omega,List.getElem?_append_left hjl];exact hv
theorem OSo.cut {b o n c s:Nat} {full l:List Value} (h:OSo (some ⟨b,o*s,none⟩) o (n+1) c s full l) (hc:1<c):OSo (Jp (some ⟨b,o*s,none⟩) c 1 s) (o+1) n (c - 1) s full (l.drop s) where
 pos:=fun p hp=>by
  unfold Jp at hp;rw [if_neg (by omega)] at hp;simp only [Option.map_some,Option.some.injEq] at hp;subst hp;rw [add_none];simp only [Addr.mk.injEq,true_and,and_true];rw [Nat.add_mul]
 none':=fun h=>by unfold Jp at h; rw [if_neg (by omega)] at h; cases h
 len:=by rw [h.len,show o+1+(c - 1)=o+c by omega]
 le:=by have:=h.le; omega
 pre:=by
  rw [← h.pre,List.drop_take,List.drop_drop,Nat.add_mul,Nat.add_mul,Nat.one_mul]
  congr 1
  omega
section
variable {P:Program} {w w0:World} {S:List Nat} {L:List (Nat × Obj)}
theorem RT:∀ (vs a b c:List Value),b.length=vs.length→over (a++b++c) a.length vs=a++vs++c:=by
 intro vs
 induction vs with
 | nil=>intro a b c hb; have:b=[]:=List.eq_nil_of_length_eq_zero (by simpa using hb); subst this; simp [over]
 | cons v vs ih =>
  intro a b c hb
  cases b with
  | nil=>simp at hb
  | cons x b =>
   have:=ih (a++[v]) b c (by simpa using hb);simp only [over];rw [show (a++x::b++c).set a.length v=a++[v]++b++c from by simp];rw [show a.length+1=(a++[v]).length from by simp,this];simp
theorem MC {t t2 el el2 ty:TypeId} {s by':Nat} {zl:List Value} (hu:BJ P t=some el) (hu2:BJ P t2=some el2) (hs:Br P el=some s) (hby:CE P el=some by') (hz:B3 P el=some zl) (hzl:zl.length=s) (hpos:0<by')
  {a a2:Option Addr} {o n c m c2:Nat} {full l new:List Value} (H:Ctx w0 S w (L++ent a el full)) (O:OSo a o n c s full l) (hm:0<m)
  (hn:new.length=m*s) (h1:∀ v∈new,AR v=true) (hc:∀ j v,new[j]? = some v→∃ p,a2=some p∧w.cell? (p.add j)=some v) (hbound:(2*(n+m)+768)*by'≤281474976710656) :
  ∃ a' o' c' full' w',(Builtin.append_ #[t,t2] ty #[.slice a n c,.slice a2 m c2]).run P w = .ok (.slice a' (n+m) c') w'∧Ctx w0 S w' (L++ent a' el full')∧OSo a' o' (n+m) c' s full' (l++new)∧(a'=a∧o'=o∨o'=0):=by
 have hfc:=BU (P:=P) (w:=w) (s:=s) (m:=m) (a:=a2) (c:=m) (k:=c2) hn hc
 by_cases hfit:n+m≤c
 ·-- in place
  cases a with
  | none =>
   have h0:=(O.none' rfl).1;omega
  | some p =>
   have hp:=O.pos p rfl;obtain ⟨b,o2,sp⟩:=p;simp only [Addr.mk.injEq,true_and] at hp;obtain ⟨rfl,rfl⟩:=hp;have hk:(L++ent (some ⟨b,o*s,none⟩) el full)[L.length]? = some (b,Bl el full):=by simp [ent]
   have hb:=H.get hk;have hmul:(n+m)*s≤c*s:=Nat.mul_le_mul_right _ hfit;have hadd:(n+m)*s=n*s+m*s:=Nat.add_mul _ _ _;have hlen:=O.len;rw [Nat.add_mul] at hlen;have hll:=O.llen;obtain ⟨w',hr,he,hb'⟩:=CO (P:=P) (o:=o*s+n*s) new full w 0 h1 hb (by omega);have hwr:=H.turn hk _ he hb';rw [show (L++ent (some ⟨b,o*s,none⟩) el full).set L.length (b,Bl el (over full (o*s+n*s+0) new))=L++ent (some ⟨b,o*s,none⟩) el (over full (o*s+n*s) new) from by simp [ent]] at hwr;refine ⟨some ⟨b,o*s,none⟩,o,c,over full (o*s+n*s) new,w',?_,hwr,?_,.inl ⟨rfl,rfl⟩⟩
   ·have hst:(storeCells (Addr.add ⟨b,o*s,none⟩ (n*s)) new).run P w = .ok () w':=by
     rw [add_none]; exact hr
    simp [Builtin.append_,Az (B7 hu),Az (B7 hu2),B9 hs,Builtin.lenOf,hfc,hfit,hst]
   ·refine ⟨fun q hq=>by injection hq with hq; subst hq; rfl,(fun h=>by cases h),by rw [DG]; exact O.len,hfit,?_⟩;have hsp:=O.split;have hpl:(full.take (o*s)++l).length=o*s+n*s:=by rw [List.length_append,List.length_take,hll]; omega
    have htl:(full.drop (o*s+n*s)).length=c*s - n*s:=by rw [List.length_drop]; omega
    have hgoal:over full (o*s+n*s) new=(full.take (o*s)++l)++new++(full.drop (o*s+n*s)).drop (m*s):=by
     have h4:=RT new (full.take (o*s)++l) ((full.drop (o*s+n*s)).take (m*s)) ((full.drop (o*s+n*s)).drop (m*s)) (by rw [List.length_take,htl,hn]; omega);rw [List.append_assoc (full.take (o*s)++l),List.take_append_drop,← hsp,hpl] at h4;exact h4
    rw [hgoal,List.append_assoc,List.append_assoc,List.drop_left' (by rw [List.length_take]; omega),← List.append_assoc,List.take_left' (by rw [List.length_append,hll,hn]; omega)]
 ·-- a new block
  have hfit':c<n+m:=by omega
  have hncap:=G9 (n+m) c hfit'
  have hnm:n+m≤281474976710656:=by
   have h1:(2*(n+m)+768)*1≤(2*(n+m)+768)*by':=Nat.mul_le_mul_left _ hpos
   omega
  generalize hq:(Question.appendCap (n+m) c el).cut (w.tape w.drawn (Question.appendCap (n+m) c el))=cap;have hcap:n+m≤cap:=by rw [← hq]; unfold Question.cut; exact Nat.le_add_right _ _
  obtain ⟨zv,hzr,hzc⟩:=EN (P:=P) hz w.drew;have hzs:zv.cells.size=s:=by rw [← hzl,← hzc]; simp
  let full':=l++new++(Builtin.zeroCells zv.cells (cap - (n+m))).toList
  have hH:Ctx w0 S (w.drew.alloc (Bl el full')) ((w.drew.heap.size,Bl el full')::L):=by
   have:=(H.left.drew).alloc (Bl el full');exact this
  refine ⟨some ⟨w.drew.heap.size,0,none⟩,0,cap,full',w.drew.alloc (Bl el full'),?_,?_,?_,.inr rfl⟩
  ·have hforced:(Question.appendCap (n+m) c el).forced=false:=rfl
   have hby2:∃ i,P.info? el=some i∧i.bytes=by':=by
    unfold CE at hby
    cases hi:P.info? el with
    | none=>rw [hi] at hby; cases hby
    | some i=>rw [hi] at hby; simp at hby; exact ⟨i,rfl,hby⟩
   obtain ⟨i,hi,hib⟩:=hby2;have hti:∀ w,(typeInfo el).run P w = .ok i w:=fun w=>by simp [typeInfo,program,Sem.run,hi]
   have hold':(Builtin.firstCells s n (.slice a n c)).run P w.drew = .ok l.toArray w.drew:=by
    refine BU (O.llen) (fun j v hv=>?_);have hjl:j<l.length:=(List.getElem?_eq_some_iff.1 hv).1
    cases a with
    | none =>
     have h0:=(O.none' rfl).1;have h5:=O.llen;have h6:=O.le;have:n=0:=by omega
     subst this;omega
    | some p =>
     have hp:=O.pos p rfl;obtain ⟨b,o2,sp⟩:=p;simp only [Addr.mk.injEq,true_and] at hp;obtain ⟨rfl,rfl⟩:=hp;refine ⟨_,rfl,?_⟩;have hk:(L++ent (some ⟨b,o*s,none⟩) el full)[L.length]? = some (b,Bl el full):=by simp [ent]
     show w.cell? _=_;rw [add_none];exact O.cell (H.get hk) hv
   have hfc':(Builtin.firstCells s m (.slice a2 m c2)).run P w.drew = .ok new.toArray w.drew:=BU hn hc;have hroom:∀ k w,(askRoom k).run P w = .ok () w:=fun k w=>by unfold askRoom; split <;> rfl
   have hby0:¬ by'=0:=by omega
   have hnn:(Builtin.append_ #[t,t2] ty #[.slice a n c,.slice a2 m c2]).run P w = .ok (.slice (some ⟨w.drew.heap.size,0,none⟩) (n+m) cap) (w.drew.alloc (.cells (l.toArray++(new.toArray++Builtin.zeroCells zv.cells (cap - (n+m)))) el)):=by
    have:Builtin.nextslicecap (n+m) c*by'≤(2*(n+m)+768)*by':=Nat.mul_le_mul_right _ hncap
    have hb3:¬ 281474976710656<Builtin.nextslicecap (n+m) c*by':=by omega
    simp [Builtin.append_,Az (B7 hu),Az (B7 hu2),B9 hs,Builtin.lenOf,hfc',hold',hfit,hti,hib,hb3,hby0,hforced,hq,hroom,hzr,newRow,newObj,Sem.run]
   rw [hnn]
   have harr:l.toArray++(new.toArray++Builtin.zeroCells zv.cells (cap - (n+m)))=full'.toArray:=by
    apply Array.ext'; simp [full']
   rw [harr];rfl
  ·exact hH.perm (List.perm_append_comm (l₁:=[(w.drew.heap.size,Bl el full')]) (l₂:=L))
  ·refine ⟨(fun q hq=>by injection hq with hq; subst hq; rw [Nat.zero_mul]),(fun h=>by cases h),?_,hcap,?_⟩
   ·show (l++new++(Builtin.zeroCells zv.cells (cap - (n+m))).toList).length=(0+cap)*s;rw [List.length_append,List.length_append,O.llen,hn,Array.length_toList,D7,hzs,← Nat.add_mul,← Nat.add_mul]
    congr 1
    omega
   ·show ((l++new++(Builtin.zeroCells zv.cells (cap - (n+m))).toList).drop (0*s)).take ((n+m)*s)=l++new;rw [Nat.zero_mul,List.drop_zero,List.take_left' (by rw [List.length_append,O.llen,hn,Nat.add_mul])]
end
section
variable {P:Program} {r:Option Nat} {ops rest:List Oper} {Q:Exit→Env→World→Prop} {e:Env} {w w0:World} {S:List Nat} {L:List (Nat × Obj)}
 {dst:Option Tmp} {ty:TypeId} {pos:String} {af:Array Edge} {g:Option (Nat × Bool)}
theorem NS {t t2 el el2:TypeId} {x y:Operand} {s by':Nat} {zl:List Value} (hg:A1 ⟨dst,.call ⟨.builtin .append,#[x,y],#[t,t2]⟩,ty,pos,af,g⟩ ops e=true)
  (hu:BJ P t=some el) (hu2:BJ P t2=some el2) (hs:Br P el=some s) (hby:CE P el=some by') (hz:B3 P el=some zl) (hzl:zl.length=s)
  {a a2:Option Addr} {o n c m c2:Nat} {full l new:List Value} (hx:ev e x = .slice a n c) (hy:ev e y = .slice a2 m c2) (H:Ctx w0 S w (L++ent a el full)) (O:OSo a o n c s full l)
  (hn:new.length=m*s) (h1:∀ v∈new,AR v=true) (hc:∀ j v,new[j]? = some v→∃ p,a2=some p∧w.cell? (p.add j)=some v)
  (h:∀ a' o' c' full' w',Ctx w0 S w' (L++ent a' el full')→OSo a' o' (n+m) c' s full' (l++new)→Al P r ops Q rest (put e dst (.slice a' (n+m) c')) w')  (hpos:0<by':=by decide) (hm:0<m:=by decide) (hbound:(2*(n+m)+768)*by'≤281474976710656:=by omega):
  Al P r ops Q (⟨dst,.call ⟨.builtin .append,#[x,y],#[t,t2]⟩,ty,pos,af,g⟩::rest) e w:=by
 obtain ⟨a',o',c',full',w',hr,H',O',-⟩:=MC (ty:=ty) hu hu2 hs hby hz hzl hpos H O hm hn h1 hc hbound (c2:=c2);exact Be hg U (by simp [execOp,resolve,invoke,builtin,hx,hy,hr]) (h a' o' c' full' w' H' O')
end
end Go.GV
namespace Go.GV
open Go
variable {P:Program} {r:Option Nat} {ops:List Oper} {Q:Exit→Env→World→Prop}
theorem Jz {K:Env→World→Prop} {o:Oper} {rest:List Oper} {e:Env} {w:World} (h:Al P r ops (Qk K) (o::rest) e w):Al P r ops (Qk fun e2 w2=>Al P r ops (Qk K) rest e2 w2) [o] e w:=by
 unfold Al at h ⊢
 by_cases hw:A1 o ops e=true
 ·rw [if_pos hw] at h ⊢;generalize (o.semAt r (ev e)).run P w=res at h ⊢
  match res,h with
  | .ok (.value v) w',h=>exact h
  | .ok .skip w',h=>exact h
  | .ok (.defer d) w',h=>exact h
  | .ok (.enter f args) w',h=>exact Ret.mono h fun v w'' hv=>hv
  | .ok (.round l f tmps assign body) w',h=>exact RoundIn.mono h fun x w'' ⟨v,hx,hv⟩=>⟨v,hx,hv⟩
  | .halt (.panic v) w',h=>exact h.elim
 ·rw [if_neg hw] at h ⊢;exact h
def GR (V:Nat→Value) (i:Nat) (b:Value):Nat→Value:=fun j=>if j=i then b else V j
theorem Co (V:Nat→Value) (i:Nat) (b:Value):GR V i b i=b:=if_pos rfl
theorem Cc {V:Nat→Value} {i:Nat} {b:Value} {j:Nat} (h:j≠i):GR V i b j=V j:=if_neg h
structure AW (n:Nat) (anc:Nat→List Nat) (d:Nat→Tmp) (G:Nat→(Nat→Value)→World→Prop) (e0:Env) (w0:World) (l:Nat→Prop) (e:Env) (w:World) (V:Nat→Value):Prop where
 ds:e.ds=e0.ds
 old:∀ s,(∀ i,i<n→s≠d i)→e.g s=e0.g s
 slot:∀ i,i<n→l i→e.g (d i)=V i
 ext:Ext [] w0 w
 good:∀ i,i<n→l i→G i V w
 cl:∀ i,i<n→l i→∀ j∈anc i,l j
theorem AW.step {n:Nat} {anc:Nat→List Nat} {d:Nat→Tmp} {G:Nat→(Nat→Value)→World→Prop} {e0:Env} {w0:World} {l:Nat→Prop} {e:Env} {w:World} {V:Nat→Value} (A:AW n anc d G e0 w0 l e w V)
  (hd:∀ i j,i<n→j<n→d i=d j→i=j) (hst:∀ i k v V w,i<n→k≠i→k∉anc i→G i V w→G i (GR V k v) w) (hx:∀ i V w w',i<n→G i V w→Ext [] w w'→G i V w')
  {i:Nat} (hi:i<n) (hu:¬ l i) (hanc:∀ j∈anc i,l j) {e':Env} {w':World} {v:Value} (h1:Ext [] w w') (h2:e'=put e (some (d i)) v) (h3:G i (GR V i v) w'):AW n anc d G e0 w0 (fun j=>j=i∨l j) e' w' (GR V i v):=by
 subst h2;have hni:∀ j,l j→j≠i:=fun j hj h=>hu (h ▸ hj);have hna:∀ j,j<n→l j→i∉anc j:=fun j hj hl h=>hu (A.cl j hj hl i h);refine ⟨A.ds,fun s hs=>?_,fun j hj hl=>?_,A.ext.trans h1,fun j hj hl=>?_,fun j hj hl k hk=>?_⟩
 ·rw [Cu (hs i hi)]; exact A.old s hs
 ·rcases hl with rfl | hl
  ·rw [CG,Co]
  ·rw [Cu fun h=>hni j hl (hd _ _ hj hi h),A.slot j hj hl,Cc (hni j hl)]
 ·rcases hl with rfl | hl
  ·exact h3
  ·exact hx j _ _ _ hj (hst j i v V w hj (Ne.symm (hni j hl)) (hna j hj hl) (A.good j hj hl)) h1
 ·rcases hl with rfl | hl
  ·exact .inr (hanc k hk)
  ·exact .inr (A.cl j hj hl k hk)
def Sta (p:Value→World→Prop):Prop:=∀ v w w',p v w→Ext [] w w'→p v w'
def VT:List (Value→World→Prop)→Prop
 | []=>True
 | p::l=>Sta p∧VT l
def atG (l:List (Value→World→Prop)) (i:Nat):Value→World→Prop:=match l,i with
 | [],_=>fun _ _=>True
 | p::_,0=>p
 | _::l,i+1=>atG l i
def isV (t:Value):Value→World→Prop:=fun v _=>v=t
def frV (w0:World) (el s:Nat) (l:List Value):Value→World→Prop:=fun v w=>Fresh w0 w el s v l
def nbV (t:TypeId) (n:Nat) (l:List Value):Value→World→Prop:=fun v w=>∃ b,v = .slice (some ⟨b,0,none⟩) n n∧w.heap[b]? = some (Bl t l)
def ancT (n:Nat) (t:List (List Nat)) (i:Nat):List Nat:=bif Nat.ble n i then List.range i else t.getD i []
theorem K9 {n N:Nat} (t:List (List Nat)):∀ i,n≤i→i<N→∀ k,k<i→k∈ancT n t i:=fun i hi _ k hk=>by
 unfold ancT;rw [show Nat.ble n i=true from Nat.ble_eq_true_of_le hi,cond_true];exact List.mem_range.2 hk
end Go.GV
namespace Go.GV
open Go
variable {P:Program} {r:Option Nat} {Q:Exit→Env→World→Prop}
structure AC (n c:Nat) (anc:Nat→List Nat) (d:Nat→Tmp) (G:Nat→(Nat→Value)→World→Prop) (e0:Env) (w0:World) (l:Nat→Prop) (e:Env) (w:World) (V:Nat→Value):Prop where
 ds:e.ds=e0.ds
 old:∀ s,(∀ i,i<n→s≠d i)→e.g s=e0.g s
 slot:∀ i,i<n→l i→e.g (d i)=V i
 still:¬ l c→w=w0
 good:∀ i,i<n→l i→G i V w
 cl:∀ i,i<n→l i→∀ j∈anc i,l j
theorem AC.step {n c:Nat} {anc:Nat→List Nat} {d:Nat→Tmp} {G:Nat→(Nat→Value)→World→Prop} {e0:Env} {w0:World} {l:Nat→Prop} {e:Env} {w:World} {V:Nat→Value} (A:AC n c anc d G e0 w0 l e w V)
  (hd:∀ i j,i<n→j<n→d i=d j→i=j) (hst:∀ i k v V w,i<n→k≠i→k∉anc i→G i V w→G i (GR V k v) w) (hx:∀ i V w w',i<n→i≠c→c∉anc i→G i V w→G i V w')
  {i:Nat} (hi:i<n) (hu:¬ l i) (hanc:∀ j∈anc i,l j) {e':Env} {w':World} {v:Value} (h1:i≠c→w'=w) (h2:e'=put e (some (d i)) v) (h3:G i (GR V i v) w'):AC n c anc d G e0 w0 (fun j=>j=i∨l j) e' w' (GR V i v):=by
 subst h2;have hni:∀ j,l j→j≠i:=fun j hj h=>hu (h ▸ hj);have hna:∀ j,j<n→l j→i∉anc j:=fun j hj hl h=>hu (A.cl j hj hl i h);refine ⟨A.ds,fun s hs=>?_,fun j hj hl=>?_,fun hc=>?_,fun j hj hl=>?_,fun j hj hl k hk=>?_⟩
 ·rw [Cu (hs i hi)]; exact A.old s hs
 ·rcases hl with rfl | hl
  ·rw [CG,Co]
  ·rw [Cu fun h=>hni j hl (hd _ _ hj hi h),A.slot j hj hl,Cc (hni j hl)]
 ·rw [h1 fun h=>hc (.inl h.symm)];exact A.still fun h=>hc (.inr h)
 ·rcases hl with rfl | hl
  ·exact h3
  ·have h4:=hst j i v V w hj (Ne.symm (hni j hl)) (hna j hj hl) (A.good j hj hl)
   by_cases hic:i=c
   ·subst hic;exact hx j _ _ _ hj (hni j hl) (hna j hj hl) h4
   ·rw [h1 hic]; exact h4
 ·rcases hl with rfl | hl
  ·exact .inr (hanc k hk)
  ·exact .inr (A.cl j hj hl k hk)
theorem U8 {id m n N:Nat} {arr:Array Oper} {anc:Nat→List Nat} (c:Nat) (d:Nat→Tmp) (G:Nat→(Nat→Value)→World→Prop) {e:Env} {w:World} (hm:P.follows .mixedOrders=true) (hsz:arr.size=N)
  (hlast:∀ i,n≤i→i<N→∀ k,k<i→k∈anc i) (hd:∀ i j,i<n→j<n→d i=d j→i=j) (hst:∀ i k v V w,i<n→k≠i→k∉anc i→G i V w→G i (GR V k v) w) (hx:∀ i V w w',i<n→i≠c→c∉anc i→G i V w→G i V w')
  (hop:∀ i o e' w' V,i<n→i≠c→arr[i]? = some o→(∀ s,(∀ j,j<n→s≠d j)→e'.g s=e.g s)→(∀ j∈anc i,e'.g (d j)=V j)→(∀ j∈anc i,G j V w')→(i∈anc c→w'=w.drew)→Al P r arr.toList (Qk fun e2 w2=>∃ v,w2=w'∧e2=put e' (some (d i)) v∧G i (GR V i v) w2) [o] e' w')
  (hcall:∀ o e' V,arr[c]? = some o→(∀ s,(∀ j,j<n→s≠d j)→e'.g s=e.g s)→(∀ j∈anc c,e'.g (d j)=V j)→(∀ j∈anc c,G j V w.drew)→Al P r arr.toList (Qk fun e2 w2=>∃ v,e2=put e' (some (d c)) v∧G c (GR V c v) w2) [o] e' w.drew)
  (hfin:∀ e' w' V,e'.ds=e.ds→(∀ s,(∀ j,j<n→s≠d j)→e'.g s=e.g s)→(∀ j,j<n→e'.g (d j)=V j)→(∀ j,j<n→G j V w')→Al P r arr.toList (Qk fun e2 w2=>Q .normal e2 w2) (arr.toList.drop n) e' w') (hn:n≤N:=by decide) (hanc:Qo arr anc N=true:=by kernel_rfl) (hcn:c<n:=by decide):W P r m (.region id arr true) Q e w:=by
 have hspec:=Gl hanc
 have hset:∀ {l:Array Bool} {i:Nat},l.size=N→i<N→∀ j,((l.setIfInBounds i true).getD j false=true)=(j=i∨l.getD j false=true):=fun {l i} hl hi j=>by
  apply propext
  by_cases e:j=i
  ·subst e;rw [Array.getD_eq_getD_getElem?,Array.getElem?_setIfInBounds_self_of_lt (by omega)];simp
  ·rw [Array.getD_eq_getD_getElem?,Array.getElem?_setIfInBounds_ne (Ne.symm e),← Array.getD_eq_getD_getElem?];simp [e]
 -- what is done holds all that comes ahead
 have hall:∀ {l:Array Bool},(∀ i,i<N→l.getD i false=true→∀ j∈anc i,l.getD j false=true)→∀ i,i<N→i∈Region.ready .any arr l→∀ k∈anc i,l.getD k false=true:=fun {l} hcl i hi hr k hk=>by
  rcases (hspec i hi).1 k hk with h | ⟨j,h1,h2⟩
  ·exact CS hr k h
  ·exact hcl j (by have:=(hspec i hi).2 j h1; omega) (CS hr j h1) k h2
 -- all is done where nothing is ready
 have hdone:∀ {l:Array Bool},l.size=N→Region.ready .any arr l=[]→∀ i,i<N→l.getD i false=true:=fun {l} hls hr i=>by
  induction i using Nat.strongRecOn with
  | _ i ih =>
   intro hi
   cases hc:l.getD i false with
   | true=>rfl
   | false =>
    have hu:l.getD i true=false:=by
     rw [Array.getD_eq_getD_getElem?,Array.getElem?_eq_getElem (by omega)] at hc ⊢
     simpa using hc
    have:=M4 (arr:=arr) (l:=l) (i:=i) hu fun j hj=>ih j ((hspec i hi).2 j hj) (by have:=(hspec i hi).2 j hj; omega);rw [hr] at this;cases this
 have hdrop:∀ i o,arr[i]? = some o→arr.toList.drop i=o::arr.toList.drop (i+1):=fun i o ho=>by
  obtain ⟨h1,h2⟩:=Array.getElem?_eq_some_iff.1 ho;rw [List.drop_eq_getElem_cons (by simpa using h1)];simp [h2]
 refine Vn (I:=fun l e' w'=>l.size=N∧(((∀ i,n≤i→i<N→l.getD i false=false)∧∃ V,AC n c anc d G e w.drew (fun i=>l.getD i false=true) e' w' V)∨∃ t,n≤t∧t≤N∧(∀ i,i<t→l.getD i false=true)∧(∀ i,t≤i→i<N→l.getD i false=false)∧Al P r arr.toList (Qk fun e2 w2=>Q .normal e2 w2) (arr.toList.drop t) e' w')) hm ?_ ?_ ?_
 ·refine ⟨by simp [hsz],.inl ⟨fun i _ _=>getD_replicate_false ..,fun _ => .int .i64 0,rfl,fun _ _=>rfl,fun i _ h=>?_,fun _=>rfl,fun i _ h=>?_,fun i _ h=>?_⟩⟩ <;>
   (exfalso; rw [getD_replicate_false] at h; cases h)
 ·rintro l e' w' i o ⟨hls,h⟩ hr ho;have hi:i<N:=by have:=(Array.getElem?_eq_some_iff.1 ho).1; omega
  have hun:¬ l.getD i false=true:=fun h=>by
   have h1:=(mem_ready.1 hr).1;rw [Array.getD_eq_getD_getElem?,Array.getElem?_eq_getElem (by omega)] at h h1;simp at h h1;rw [h] at h1; cases h1
  -- the next of the last ones
  have last:∀ t,n≤t→(∀ i,i<t→l.getD i false=true)→(∀ i,t≤i→i<N→l.getD i false=false)→i=t→Al P r arr.toList (Qk fun e2 w2=>Q .normal e2 w2) (arr.toList.drop t) e' w' →
    Al P r arr.toList (Qk fun e2 w2=>(l.setIfInBounds i true).size=N∧(((∀ j,n≤j→j<N→(l.setIfInBounds i true).getD j false=false)∧∃ V,AC n c anc d G e w.drew (fun j=>(l.setIfInBounds i true).getD j false=true) e2 w2 V)∨∃ t,n≤t∧t≤N∧(∀ j,j<t→(l.setIfInBounds i true).getD j false=true)∧(∀ j,t≤j→j<N→(l.setIfInBounds i true).getD j false=false)∧Al P r arr.toList (Qk fun e2 w2=>Q .normal e2 w2) (arr.toList.drop t) e2 w2)) [o] e' w':=fun t hnt h1 h2 hit hW=>by
   subst hit;rw [hdrop i o ho] at hW;refine BA ?_ _ _ _ (Jz hW);intro x e2 w2 hq
   cases x with
   | normal =>
    refine ⟨by simp [hls],.inr ⟨i+1,by omega,by omega,fun j hj=>?_,fun j hj hjN=>?_,hq⟩⟩
    ·rw [hset hls hi]
     by_cases hji:j=i
     ·exact .inl hji
     ·exact .inr (h1 j (by omega))
    ·cases hc:(l.setIfInBounds i true).getD j false with
     | false=>rfl
     | true =>
      rw [hset hls hi] at hc
      rcases hc with h | h
      ·omega
      ·rw [h2 j (by omega) hjN] at h; cases h
   | exit id=>exact hq.elim
   | goto l=>exact hq.elim
   | ret=>exact hq.elim
   | panic c=>exact hq.elim
   | outgrown=>exact hq.elim
  rcases h with ⟨hn0,V,A⟩ | ⟨t,hnt,htN,h1,h2,hW⟩
  ·have hcl:∀ j,j<N→l.getD j false=true→∀ k∈anc j,l.getD k false=true:=fun j hj hl k hk=>by
    rcases Nat.lt_or_ge j n with hjn | hjn
    ·exact A.cl j hjn hl k hk
    ·rw [hn0 j hjn hj] at hl; cases hl
   have ha:=hall hcl i hi hr
   rcases Nat.lt_or_ge i n with hin | hin
   ·by_cases hic:i=c
    ·have hw0:w'=w.drew:=A.still fun h=>hun (hic ▸ h);refine BA ?_ _ _ _ (hic ▸ hw0 ▸ hcall o e' V (hic ▸ ho) A.old (fun j hj=>A.slot j (Nat.lt_trans (E9 hanc i hi j (hic ▸ hj)) hin) (ha j (hic ▸ hj))) (fun j hj=>hw0 ▸ A.good j (Nat.lt_trans (E9 hanc i hi j (hic ▸ hj)) hin) (ha j (hic ▸ hj))));intro x e2 w2 hq
     cases x with
     | normal =>
      obtain ⟨v,q2,q3⟩:=hq;have A':=A.step hd hst hx hin hun ha (fun h=>absurd hic h) q2 q3;refine ⟨by simp [hls],.inl ⟨fun j hj hjN=>?_,GR V i v,?_⟩⟩
      ·cases hc:(l.setIfInBounds i true).getD j false with
       | false=>rfl
       | true =>
        rw [hset hls hi] at hc
        rcases hc with h | h
        ·omega
        ·rw [hn0 j hj hjN] at h; cases h
      ·have hf:(fun j=>(l.setIfInBounds i true).getD j false=true)=fun j=>j=i∨l.getD j false=true:=funext fun j=>hset hls hi j;rw [hf]; exact A'
     | exit id=>exact hq.elim
     | goto l=>exact hq.elim
     | ret=>exact hq.elim
     | panic c=>exact hq.elim
     | outgrown=>exact hq.elim
    ·refine BA ?_ _ _ _ (hop i o e' w' V hin hic ho A.old (fun j hj=>A.slot j (Nat.lt_trans (E9 hanc i hi j hj) hin) (ha j hj)) (fun j hj=>A.good j (Nat.lt_trans (E9 hanc i hi j hj) hin) (ha j hj)) fun hm=>A.still fun h=>hun (A.cl c hcn h i hm));intro x e2 w2 hq
     cases x with
     | normal =>
      obtain ⟨v,q1,q2,q3⟩:=hq;have A':=A.step hd hst hx hin hun ha (fun _=>q1) q2 q3;refine ⟨by simp [hls],.inl ⟨fun j hj hjN=>?_,GR V i v,?_⟩⟩
      ·cases hc:(l.setIfInBounds i true).getD j false with
       | false=>rfl
       | true =>
        rw [hset hls hi] at hc
        rcases hc with h | h
        ·omega
        ·rw [hn0 j hj hjN] at h; cases h
      ·have hf:(fun j=>(l.setIfInBounds i true).getD j false=true)=fun j=>j=i∨l.getD j false=true:=funext fun j=>hset hls hi j;rw [hf]; exact A'
     | exit id=>exact hq.elim
     | goto l=>exact hq.elim
     | ret=>exact hq.elim
     | panic c=>exact hq.elim
     | outgrown=>exact hq.elim
   ·have hin':i=n:=by
     rcases Nat.lt_or_ge n i with h | h
     ·have:=ha n (hlast i hin hi n h);rw [hn0 n (Nat.le_refl _) (by omega)] at this;cases this
     ·omega
    have hal:∀ j,j<n→l.getD j false=true:=fun j hj=>ha j (hlast i hin hi j (by omega));exact last n (Nat.le_refl _) hal hn0 hin' (hfin e' w' V A.ds A.old (fun j hj=>A.slot j hj (hal j hj)) (fun j hj=>A.good j hj (hal j hj)))
  ·have hge:t≤i:=by
    rcases Nat.lt_or_ge i t with h | h
    ·exact absurd (h1 i h) hun
    ·exact h
   have hit:i=t:=by
    rcases Nat.lt_or_ge t i with h | h
    ·rcases (hspec i hi).1 t (hlast i (by omega) hi t h) with h3 | ⟨j,h3,h4⟩
     ·have:=CS hr t h3;rw [h2 t (Nat.le_refl _) (by omega)] at this; cases this
     ·have h5:=CS hr j h3;have h6:=(hspec i hi).2 j h3;have h7:=E9 hanc j (by omega) t h4;rw [h2 j (by omega) (by omega)] at h5; cases h5
    ·omega
   exact last t hnt h1 h2 hit hW
 ·rintro l e' w' ⟨hls,h⟩ hr;have hal:=hdone hls hr
  rcases h with ⟨hn0,V,A⟩ | ⟨t,hnt,htN,h1,h2,hW⟩
  ·rcases Nat.lt_or_ge n N with h | h
   ·have:=hal n h;rw [hn0 n (Nat.le_refl _) h] at this; cases this
   ·have hnN:n=N:=by omega
    subst hnN;have:=hfin e' w' V A.ds A.old (fun j hj=>A.slot j hj (hal j hj)) (fun j hj=>A.good j hj (hal j hj));rw [List.drop_eq_nil_of_le (by simp [hsz])] at this;unfold Al at this;exact this
  ·have htN':t=N:=by
    rcases Nat.lt_or_ge t N with h | h
    ·have:=hal t h;rw [h2 t (Nat.le_refl _) h] at this; cases this
    ·omega
   subst htN';rw [List.drop_eq_nil_of_le (by simp [hsz])] at hW;unfold Al at hW;exact hW
end Go.GV
namespace Go.GV
open Go
variable {P:Program} {r:Option Nat} {Q:Exit→Env→World→Prop}
def RU (S:List Nat) (p:Value→World→Prop):Prop:=∀ v w w',p v w→Ext S w w'→p v w'
def IU (S:List Nat):List (Value→World→Prop)→Prop
 | []=>True
 | p::l=>RU S p∧IU S l
theorem MD {S:List Nat}:∀ {l:List (Value→World→Prop)},IU S l→∀ i,RU S (atG l i)
 | [],_,i=>by cases i <;> exact fun _ _ _ _ _=>trivial
 | _::_,h,0=>h.1
 | _::_,h,i+1=>MD h.2 i
theorem Dm (S:List Nat) (t:Value):RU S (isV t):=fun _ _ _ h _=>h
def nwV (w0:World) (o:Obj):Value→World→Prop:=fun v w=>∃ b:Nat,v = .pointer (some ⟨b,0,none⟩)∧w.heap[b]? = some o∧w0.heap.size≤b
def nsV (w0:World) (t:TypeId) (n:Nat) (l:List Value):Value→World→Prop:=fun v w=>∃ b,v = .slice (some ⟨b,0,none⟩) n n∧w.heap[b]? = some (Bl t l)∧w0.heap.size≤b
theorem U9 {S:List Nat} {w0:World} (hS:∀ x∈S,x<w0.heap.size) (t:TypeId) (n:Nat) (l:List Value):RU S (nsV w0 t n l):=fun v w w' ⟨b,h1,h2,h3⟩ hx=>⟨b,h1,hx.to h2 fun h=>by have:=hS b h; omega,h3⟩
structure AS (S:List Nat) (n:Nat) (anc:Nat→List Nat) (d:Nat→Tmp) (gl:List (Value→World→Prop)) (e0:Env) (w0:World) (l:Nat→Prop) (e:Env) (w:World):Prop where
 ds:e.ds=e0.ds
 old:∀ s,(∀ i,i<n→s≠d i)→e.g s=e0.g s
 ext:Ext S w0 w
 good:∀ i,i<n→l i→atG gl i (e.g (d i)) w
 cl:∀ i,i<n→l i→∀ j∈anc i,l j
theorem AS.step {S:List Nat} {n:Nat} {anc:Nat→List Nat} {d:Nat→Tmp} {gl:List (Value→World→Prop)} {e0:Env} {w0:World} {l:Nat→Prop} {e:Env} {w:World} (A:AS S n anc d gl e0 w0 l e w)
  (hd:∀ i j,i<n→j<n→d i=d j→i=j) (hx:IU S gl)
  {i:Nat} (hi:i<n) (hu:¬ l i) (hanc:∀ j∈anc i,l j) {e':Env} {w':World} {v:Value} (h1:Ext S w w') (h2:e'=put e (some (d i)) v) (h3:atG gl i v w'):AS S n anc d gl e0 w0 (fun j=>j=i∨l j) e' w':=by
 subst h2;have hni:∀ j,l j→j≠i:=fun j hj h=>hu (h ▸ hj);refine ⟨A.ds,fun s hs=>?_,A.ext.trans h1,fun j hj hl=>?_,fun j hj hl k hk=>?_⟩
 ·rw [Cu (hs i hi)]; exact A.old s hs
 ·rcases hl with rfl | hl
  ·rw [CG]; exact h3
  ·rw [Cu fun h=>hni j hl (hd _ _ hj hi h)];exact MD hx j _ _ _ (A.good j hj hl) h1
 ·rcases hl with rfl | hl
  ·exact .inr (hanc k hk)
  ·exact .inr (A.cl j hj hl k hk)
def chB (anc:Nat→List Nat):List Nat→Bool
 | []=>true
 | i::l=>l.all (fun j=>(anc j).contains i && !(j == i)) && chB anc l
theorem J0 {anc:Nat→List Nat}:∀ {ch:List Nat},chB anc ch=true→∀ (a b i j:Nat),a<b→ch[a]? = some i→ch[b]? = some j→i∈anc j
 | [],_,a,b,i,j,_,h,_=>by simp at h
 | x::l,h,a,b,i,j,hab,ha,hb=>by
  simp only [chB,Bool.and_eq_true] at h
  cases b with
  | zero=>omega
  | succ b =>
   cases a with
   | zero =>
    simp only [List.getElem?_cons_zero,Option.some.injEq] at ha;subst ha;have:=List.all_eq_true.1 h.1 j (List.mem_of_getElem? (by simpa using hb));rw [Bool.and_eq_true] at this;exact List.contains_iff_mem.1 this.1
   | succ a=>exact J0 h.2 a b i j (by omega) (by simpa using ha) (by simpa using hb)
end Go.GV
namespace Go.GV
open Go
variable {P:Program} {r:Option Nat} {Q:Exit→Env→World→Prop}
theorem RV {id m n N:Nat} {arr:Array Oper} {anc:Nat→List Nat} (S:List Nat) (d:Nat→Tmp) (gl:List (Value→World→Prop)) (ch:List Nat) (J:Nat→Env→World→Prop) {e:Env} {w:World} (hm:P.follows .mixedOrders=true) (hsz:arr.size=N)
  (hlast:∀ i,n≤i→i<N→∀ k,k<i→k∈anc i) (hd:∀ i j,i<n→j<n→d i=d j→i=j) (hx:IU S gl) (hJ:∀ k i v e w w',i<n→i∉ch→J k e w→Ext [] w w'→J k (put e (some (d i)) v) w') (hJ0:J 0 e w.drew)
  (hop:∀ i o e' w',i<n→i∉ch→arr[i]? = some o→(∀ s,(∀ j,j<n→s≠d j)→e'.g s=e.g s)→(∀ j∈anc i,atG gl j (e'.g (d j)) w')→Ext S w.drew w'→(∃ k,J k e' w')→Al P r arr.toList (Qk fun e2 w2=>∃ v,Ext [] w' w2∧e2=put e' (some (d i)) v∧atG gl i v w2) [o] e' w')
  (hcall:∀ k i o e' w',ch[k]? = some i→arr[i]? = some o→(∀ s,(∀ j,j<n→s≠d j)→e'.g s=e.g s)→(∀ j∈anc i,atG gl j (e'.g (d j)) w')→Ext S w.drew w'→J k e' w'→Al P r arr.toList (Qk fun e2 w2=>∃ v,Ext S w' w2∧e2=put e' (some (d i)) v∧atG gl i v w2∧J (k+1) e2 w2) [o] e' w')
  (hfin:∀ e' w',e'.ds=e.ds→(∀ s,(∀ j,j<n→s≠d j)→e'.g s=e.g s)→(∀ j,j<n→atG gl j (e'.g (d j)) w')→Ext S w.drew w'→J ch.length e' w'→Al P r arr.toList (Qk fun e2 w2=>Q .normal e2 w2) (arr.toList.drop n) e' w') (hn:n≤N:=by decide) (hanc:Qo arr anc N=true:=by kernel_rfl) (hch:chB anc ch=true:=by kernel_rfl) (hcn:ch.all (fun i=>Nat.blt i n)=true:=by kernel_rfl):W P r m (.region id arr true) Q e w:=by
 have hspec:=Gl hanc;have hnil:∀ {w w':World},Ext [] w w'→Ext S w w':=fun h=>h.mono (by simp)
 have hset:∀ {l:Array Bool} {i:Nat},l.size=N→i<N→∀ j,((l.setIfInBounds i true).getD j false=true)=(j=i∨l.getD j false=true):=fun {l i} hl hi j=>by
  apply propext
  by_cases e:j=i
  ·subst e;rw [Array.getD_eq_getD_getElem?,Array.getElem?_setIfInBounds_self_of_lt (by omega)];simp
  ·rw [Array.getD_eq_getD_getElem?,Array.getElem?_setIfInBounds_ne (Ne.symm e),← Array.getD_eq_getD_getElem?];simp [e]
 have hall:∀ {l:Array Bool},(∀ i,i<N→l.getD i false=true→∀ j∈anc i,l.getD j false=true)→∀ i,i<N→i∈Region.ready .any arr l→∀ k∈anc i,l.getD k false=true:=fun {l} hcl i hi hr k hk=>by
  rcases (hspec i hi).1 k hk with h | ⟨j,h1,h2⟩
  ·exact CS hr k h
  ·exact hcl j (by have:=(hspec i hi).2 j h1; omega) (CS hr j h1) k h2
 have hdone:∀ {l:Array Bool},l.size=N→Region.ready .any arr l=[]→∀ i,i<N→l.getD i false=true:=fun {l} hls hr i=>by
  induction i using Nat.strongRecOn with
  | _ i ih =>
   intro hi
   cases hc:l.getD i false with
   | true=>rfl
   | false =>
    have hu:l.getD i true=false:=by
     rw [Array.getD_eq_getD_getElem?,Array.getElem?_eq_getElem (by omega)] at hc ⊢
     simpa using hc
    have:=M4 (arr:=arr) (l:=l) (i:=i) hu fun j hj=>ih j ((hspec i hi).2 j hj) (by have:=(hspec i hi).2 j hj; omega);rw [hr] at this;cases this
 have hdrop:∀ i o,arr[i]? = some o→arr.toList.drop i=o::arr.toList.drop (i+1):=fun i o ho=>by
  obtain ⟨h1,h2⟩:=Array.getElem?_eq_some_iff.1 ho;rw [List.drop_eq_getElem_cons (by simpa using h1)];simp [h2]
 have hchn:∀ k i,ch[k]? = some i→i<n:=fun k i h=>by
  have:=List.all_eq_true.1 hcn i (List.mem_of_getElem? h)
  simpa [Nat.blt_eq] using this
 let C:Array Bool→Env→World→Prop:=fun l e' w'=>∃ k,(∀ a i,a<k→ch[a]? = some i→l.getD i false=true)∧(∀ a i,k≤a→ch[a]? = some i→l.getD i false=false)∧k≤ch.length∧J k e' w'
 refine Vn (I:=fun l e' w'=>l.size=N∧(((∀ i,n≤i→i<N→l.getD i false=false)∧AS S n anc d gl e w.drew (fun i=>l.getD i false=true) e' w'∧C l e' w')∨∃ t,n≤t∧t≤N∧(∀ i,i<t→l.getD i false=true)∧(∀ i,t≤i→i<N→l.getD i false=false)∧Al P r arr.toList (Qk fun e2 w2=>Q .normal e2 w2) (arr.toList.drop t) e' w')) hm ?_ ?_ ?_
 ·refine ⟨by simp [hsz],.inl ⟨fun i _ _=>getD_replicate_false ..,⟨rfl,fun _ _=>rfl,.refl _ _,fun i _ h=>?_,fun i _ h=>?_⟩,0,fun a i h=>by omega,fun _ _ _ _=>getD_replicate_false ..,Nat.zero_le _,hJ0⟩⟩ <;>
   (exfalso; rw [getD_replicate_false] at h; cases h)
 ·rintro l e' w' i o ⟨hls,h⟩ hr ho;have hi:i<N:=by have:=(Array.getElem?_eq_some_iff.1 ho).1; omega
  have hun:¬ l.getD i false=true:=fun h=>by
   have h1:=(mem_ready.1 hr).1;rw [Array.getD_eq_getD_getElem?,Array.getElem?_eq_getElem (by omega)] at h h1;simp at h h1;rw [h] at h1; cases h1
  have hfalse:∀ {j},l.getD j false=false→j≠i→(l.setIfInBounds i true).getD j false=false:=fun {j} h1 h2=>by
   cases hc:(l.setIfInBounds i true).getD j false with
   | false=>rfl
   | true =>
    rw [hset hls hi] at hc
    rcases hc with h | h
    ·exact absurd h h2
    ·rw [h1] at h; cases h
  have last:∀ t,n≤t→(∀ i,i<t→l.getD i false=true)→(∀ i,t≤i→i<N→l.getD i false=false)→i=t→Al P r arr.toList (Qk fun e2 w2=>Q .normal e2 w2) (arr.toList.drop t) e' w' →
    Al P r arr.toList (Qk fun e2 w2=>(l.setIfInBounds i true).size=N∧(((∀ j,n≤j→j<N→(l.setIfInBounds i true).getD j false=false)∧AS S n anc d gl e w.drew (fun j=>(l.setIfInBounds i true).getD j false=true) e2 w2∧C (l.setIfInBounds i true) e2 w2)∨∃ t,n≤t∧t≤N∧(∀ j,j<t→(l.setIfInBounds i true).getD j false=true)∧(∀ j,t≤j→j<N→(l.setIfInBounds i true).getD j false=false)∧Al P r arr.toList (Qk fun e2 w2=>Q .normal e2 w2) (arr.toList.drop t) e2 w2)) [o] e' w':=fun t hnt h1 h2 hit hW=>by
   subst hit;rw [hdrop i o ho] at hW;refine BA ?_ _ _ _ (Jz hW);intro x e2 w2 hq
   cases x with
   | normal =>
    refine ⟨by simp [hls],.inr ⟨i+1,by omega,by omega,fun j hj=>?_,fun j hj hjN=>hfalse (h2 j (by omega) hjN) (by omega),hq⟩⟩;rw [hset hls hi]
    by_cases hji:j=i
    ·exact .inl hji
    ·exact .inr (h1 j (by omega))
   | exit id=>exact hq.elim
   | goto l=>exact hq.elim
   | ret=>exact hq.elim
   | panic c=>exact hq.elim
   | outgrown=>exact hq.elim
  rcases h with ⟨hn0,A,k,hk1,hk2,hk3,hk4⟩ | ⟨t,hnt,htN,h1,h2,hW⟩
  ·have hcl:∀ j,j<N→l.getD j false=true→∀ k∈anc j,l.getD k false=true:=fun j hj hl k hk=>by
    rcases Nat.lt_or_ge j n with hjn | hjn
    ·exact A.cl j hjn hl k hk
    ·rw [hn0 j hjn hj] at hl; cases hl
   have ha:=hall hcl i hi hr;have hgood:∀ {i},i<n→(∀ j∈anc i,l.getD j false=true)→∀ j∈anc i,atG gl j (e'.g (d j)) w':=fun {i} hin ha j hj=>A.good j (Nat.lt_trans (E9 hanc i (by omega) j hj) hin) (ha j hj)
   rcases Nat.lt_or_ge i n with hin | hin
   ·by_cases hic:i∈ch
    ·obtain ⟨b,hb1,hb2⟩:=List.getElem_of_mem hic;have hb:ch[b]? = some i:=by rw [List.getElem?_eq_getElem hb1,hb2]
     have hbk:b=k:=by
      rcases Nat.lt_trichotomy b k with h | h | h
      ·exact absurd (hk1 b i h hb) hun
      ·exact h
      ·exfalso;have hkl:k<ch.length:=by omega
       have h5:=J0 hch k b ch[k] i h (List.getElem?_eq_getElem hkl) hb;have h6:=ha _ h5;rw [hk2 k _ (Nat.le_refl _) (List.getElem?_eq_getElem hkl)] at h6; cases h6
     subst hbk;refine BA ?_ _ _ _ (hcall b i o e' w' hb ho A.old (hgood hin ha) A.ext hk4);intro x e2 w2 hq
     cases x with
     | normal =>
      obtain ⟨v,q1,q2,q3,q4⟩:=hq;have A':=A.step hd hx hin hun ha q1 q2 q3;refine ⟨by simp [hls],.inl ⟨fun j hj hjN=>hfalse (hn0 j hj hjN) (by omega),?_,b+1,fun a j hab haj=>?_,fun a j hab haj=>hfalse (hk2 a j (by omega) haj) fun hji=>?_,by omega,q4⟩⟩
      ·have hf:(fun j=>(l.setIfInBounds i true).getD j false=true)=fun j=>j=i∨l.getD j false=true:=funext fun j=>hset hls hi j;rw [hf]; exact A'
      ·rw [hset hls hi]
       rcases Nat.lt_or_ge a b with h | h
       ·exact .inr (hk1 a j h haj)
       ·obtain rfl:a=b:=by omega
        rw [hb] at haj;exact .inl (Option.some.inj haj).symm
      ·subst hji;have:=J0 hch b a j j (by omega) hb haj;have:=E9 hanc j hi j this;omega
     | exit id=>exact hq.elim
     | goto l=>exact hq.elim
     | ret=>exact hq.elim
     | panic c=>exact hq.elim
     | outgrown=>exact hq.elim
    ·refine BA ?_ _ _ _ (hop i o e' w' hin hic ho A.old (hgood hin ha) A.ext ⟨k,hk4⟩);intro x e2 w2 hq
     cases x with
     | normal =>
      obtain ⟨v,q1,q2,q3⟩:=hq;have A':=A.step hd hx hin hun ha (hnil q1) q2 q3;refine ⟨by simp [hls],.inl ⟨fun j hj hjN=>hfalse (hn0 j hj hjN) (by omega),?_,k,fun a j hab haj=>?_,fun a j hab haj=>hfalse (hk2 a j hab haj) fun hji=>?_,hk3,by rw [q2]; exact hJ _ _ _ _ _ _ hin hic hk4 q1⟩⟩
      ·have hf:(fun j=>(l.setIfInBounds i true).getD j false=true)=fun j=>j=i∨l.getD j false=true:=funext fun j=>hset hls hi j;rw [hf]; exact A'
      ·rw [hset hls hi];exact .inr (hk1 a j hab haj)
      ·subst hji;exact hic (List.mem_of_getElem? haj)
     | exit id=>exact hq.elim
     | goto l=>exact hq.elim
     | ret=>exact hq.elim
     | panic c=>exact hq.elim
     | outgrown=>exact hq.elim
   ·have hin':i=n:=by
     rcases Nat.lt_or_ge n i with h | h
     ·have:=ha n (hlast i hin hi n h);rw [hn0 n (Nat.le_refl _) (by omega)] at this;cases this
     ·omega
    have hal:∀ j,j<n→l.getD j false=true:=fun j hj=>ha j (hlast i hin hi j (by omega))
    have hkl:k=ch.length:=by
     rcases Nat.lt_or_ge k ch.length with h | h
     ·have h7:=hk2 k _ (Nat.le_refl _) (List.getElem?_eq_getElem h);rw [hal _ (hchn k _ (List.getElem?_eq_getElem h))] at h7; cases h7
     ·omega
    exact last n (Nat.le_refl _) hal hn0 hin' (hfin e' w' A.ds A.old (fun j hj=>A.good j hj (hal j hj)) A.ext (hkl ▸ hk4))
  ·have hge:t≤i:=by
    rcases Nat.lt_or_ge i t with h | h
    ·exact absurd (h1 i h) hun
    ·exact h
   have hit:i=t:=by
    rcases Nat.lt_or_ge t i with h | h
    ·rcases (hspec i hi).1 t (hlast i (by omega) hi t h) with h3 | ⟨j,h3,h4⟩
     ·have:=CS hr t h3;rw [h2 t (Nat.le_refl _) (by omega)] at this; cases this
     ·have h5:=CS hr j h3;have h6:=(hspec i hi).2 j h3;have h7:=E9 hanc j (by omega) t h4;rw [h2 j (by omega) (by omega)] at h5; cases h5
    ·omega
   exact last t hnt h1 h2 hit hW
 ·rintro l e' w' ⟨hls,h⟩ hr;have hal:=hdone hls hr
  rcases h with ⟨hn0,A,k,hk1,hk2,hk3,hk4⟩ | ⟨t,hnt,htN,h1,h2,hW⟩
  ·rcases Nat.lt_or_ge n N with h | h
   ·have:=hal n h;rw [hn0 n (Nat.le_refl _) h] at this; cases this
   ·have hkl:k=ch.length:=by
     rcases Nat.lt_or_ge k ch.length with h | h
     ·have h7:=hk2 k _ (Nat.le_refl _) (List.getElem?_eq_getElem h);rw [hal _ (Nat.lt_of_lt_of_le (hchn k _ (List.getElem?_eq_getElem h)) hn)] at h7; cases h7
     ·omega
    have hnN:n=N:=by omega
    subst hnN;have:=hfin e' w' A.ds A.old (fun j hj=>A.good j hj (hal j hj)) A.ext (hkl ▸ hk4);rw [List.drop_eq_nil_of_le (by simp [hsz])] at this;unfold Al at this;exact this
  ·have htN':t=N:=by
    rcases Nat.lt_or_ge t N with h | h
    ·have:=hal t h;rw [h2 t (Nat.le_refl _) h] at this; cases this
    ·omega
   subst htN';rw [List.drop_eq_nil_of_le (by simp [hsz])] at hW;unfold Al at hW;exact hW
end Go.GV
namespace Go.GV
open Go
section
variable {P:Program} {r:Option Nat} {ops rest:List Oper} {Q:Exit→Env→World→Prop} {e:Env} {w w0:World} {S:List Nat} {L:List (Nat × Obj)} {C:World→Prop} {K:Env→Prop}
 {dst:Option Tmp} {ty:TypeId} {pos:String} {af:Array Edge} {g:Option (Nat × Bool)} {κ:Type} [DecidableEq κ] {k:TypeId} {ks:List Bool} {E:κ→List Value}
theorem Qq {t el:TypeId} {x y:Operand} {b:Nat} {o:Obj} {m:List (κ × Value)} (n:κ) {z:Value} (hg:A1 ⟨dst,.lookup t x y false,ty,pos,af,g⟩ ops e=true)
  (hK:KeyOk P k ks E) (ht:Gv P t=some (k,el)) (hz:(P.info? el).bind (·.zero)=some z) (hx:ev e x = .map (some b)) (hy:ev e y = .agg (E n).toArray) (hb:∀ w,C w→w.heap[b]? = some o) (hM:IH E m o)
  (h:Wt P ops C K rest (put e dst ((D8 m n).getD z))):Wt P ops C K (⟨dst,.lookup t x y false,ty,pos,af,g⟩::rest) e :=
 Ly rfl hg (fun w hw=>by simp [execOp,hx,hy,Iw (x:=n) false hK ht hz (hb w hw) hM]) h
theorem ME {t el:TypeId} {x y:Operand} {b:Nat} {o:Obj} {m:List (κ × Value)} (n:κ) {z:Value} (hg:A1 ⟨dst,.lookup t x y true,ty,pos,af,g⟩ ops e=true)
  (hK:KeyOk P k ks E) (ht:Gv P t=some (k,el)) (hz:(P.info? el).bind (·.zero)=some z) (hx:ev e x = .map (some b)) (hy:ev e y = .agg (E n).toArray) (hb:∀ w,C w→w.heap[b]? = some o) (hM:IH E m o)
  (h:Wt P ops C K rest (put e dst (.tuple #[(D8 m n).getD z,.bool (D8 m n).isSome]))):Wt P ops C K (⟨dst,.lookup t x y true,ty,pos,af,g⟩::rest) e :=
 Ly rfl hg (fun w hw=>by simp [execOp,hx,hy,Iw (x:=n) true hK ht hz (hb w hw) hM]) h
end
end Go.GV
namespace Go.GV
open Go
def RY (P:Program) (t:TypeId) (i:Nat):Option Nat :=
 match P.underlying t with
 | some (.struct fs)=>match fs[i]? with
  | some f=>match Cb P f.type with
   | some false=>some f.offset
   | _=>none
  | none=>none
 | _=>none
section
variable {P:Program} {r:Option Nat} {ops rest:List Oper} {Q:Exit→Env→World→Prop} {e:Env} {w:World}
 {dst:Option Tmp} {ty:TypeId} {pos:String} {af:Array Edge} {g:Option (Nat × Bool)}
theorem Qr {t:TypeId} {x:Operand} {i off:Nat} {cs:Array Value} {v:Value} (hg:A1 ⟨dst,.field t x i,ty,pos,af,g⟩ ops e=true) (hx:ev e x = .agg cs) (hv:cs[off]? = some v)
  (h:Al P r ops Q rest (put e dst v) w) (hf:RY P t i=some off:=by kernel_rfl):Al P r ops Q (⟨dst,.field t x i,ty,pos,af,g⟩::rest) e w:=by
 unfold RY at hf
 split at hf
 ·rename_i fs hu
  split at hf
  ·rename_i f hf1
   split at hf
   ·rename_i ha
    injection hf with hf
    subst hf;exact Be hg U (by simp [execOp,hx,Instr.field,Az hu,hf1,asAgg,part,Hx ha,hv]) h
   ·cases hf
  ·cases hf
 ·cases hf
end
end Go.GV
namespace Go.GV
open Go Go.ChangeShapes Go.WideShapes Go.RowKit
theorem Ext.below {w w':World} (h:Ext [] w w'):Below w.heap.size w w':=⟨h.os,h.tape,h.output,h.size,fun k hk=>h.block k hk (by simp)⟩
section
variable {H:Type} {enc:TypeId × Value→H} {P:Program} {w:World} {base:Nat} {spare:Nat→Bool} {held:Bool}
theorem FO:∀ {ts:List TypeId} {vs:List Value} {ds:List (DataW H)} {ps:List MemPlace},DataW.TrodAll enc P w base spare held ts vs ds ps→ds.length=ts.length
 | [],vs,ds,ps,h=>by obtain ⟨_,rfl,_⟩:=trodAll_nil h; rfl
 | t::ts,vs,ds,ps,h=>by
  obtain ⟨v,vs',d,ds',p,q,rfl,rfl,rfl,_,hr⟩:=trodAll_cons h;simp [FO hr]
theorem Gz {W W':World} {sp':Nat→Bool} (hl:laidOutB P=true) (hsp:∀ b,b<W.heap.size→sp' b=true) (hb:Below W.heap.size W W') :
  ∀ {ts:List TypeId} {vs:List Value} {ds:List (DataW H)} {ps:List MemPlace},(∀ t∈ts,P.readableRec t=true∧t<P.types.size)→(∀ x∈ps,x.block<W.heap.size) →
   DataW.TrodAll enc P W 0 (fun _=>true) true ts vs ds ps→DataW.TrodAll enc P W' 0 sp' true ts vs ds ps
 | [],vs,ds,ps,_,_,h=>by obtain ⟨rfl,rfl,rfl⟩:=trodAll_nil h; rfl
 | t::ts,vs,ds,ps,hr,hp,h=>by
  obtain ⟨v,vs',d,ds',p,q,rfl,rfl,rfl,h0,h1⟩:=trodAll_cons h;refine ⟨p,q,WideElems.Trod_stays hl (hr t (by simp)).1 (hr t (by simp)).2 h0 (fun x hx=>hb.same (hp x (by simp [hx]))) (fun x hx=>hsp _ (hp x (by simp [hx]))),?_,rfl⟩;exact Gz hl hsp hb (fun t ht=>hr t (by simp [ht])) (fun x hx=>hp x (by simp [hx])) h1
theorem MF {f:Func} {s:ChangeSpec} {W W':World} {args:Array Value} {ds gs:List (DataW H)} {before:List MemPlace} {tb:TypeId} (hl:laidOutB P=true) (hv:s.vars=[])
  (hres:f.resultTypes=#[tb]) (htb:P.underlying tb=some .bool)
  (hs:∀ ds:List (DataW H),ds.length=f.params.size→s.fn H ds={ results:=[.lit (.bool true)],args:=ds })
  (hW:DataW.Whole enc P f.params.toList s.vars false W args.toList ds gs before) (hx:Ext [] W W') (hr:(f.params.toList.all fun t=>P.readableRec t && decide (t<P.types.size))=true:=by kernel_rfl):s.post enc P f false true false false W args (.bool true) W':=by
 have hW':=hW;obtain ⟨p,q,hA,hV,rfl,_,_⟩:=hW;rw [hv] at hV;obtain ⟨rfl,rfl⟩:=trodVars_none hV;have hlen:ds.length=f.params.size:=by rw [FO hA]; simp
 refine ⟨ds,[],p++[],[],p,[],hW',?_,?_,?_,hx.below.frame _,fun h=>by cases h⟩
 ·rw [List.append_nil,hs ds hlen,hres];exact trodAll_mk1 ⟨1,by simp [DataW.trod,Value.cells,htb]⟩
 ·rw [List.append_nil,hs ds hlen];refine Gz hl (fun b hb=>by simpa using hb) hx.below (fun t ht=>?_) (fun x hxp=>?_) hA
  ·have:=List.all_eq_true.1 hr t ht
   simpa using this
  ·exact hW'.lt x (by simp [hxp])
 ·rw [hv,List.append_nil,hs ds hlen];rfl
theorem HK {k:IntKind} {n:Int} (h:(Lit.int k n).wf=true):k.min≤n∧n≤k.max:=by
 simpa [Lit.wf] using h
theorem MG {a:Addr} {n:Nat} {cs:List Value} (h:w.cells? base a n=some cs):cs.length=n∧∀ j v,cs[j]? = some v→w.cell? (a.add j)=some v:=by
 unfold World.cells? at h
 split at h
 ·have h1:∀ (l:List Nat) (cs:List Value),l.mapM (fun i=>w.cell? (a.add i))=some cs→cs.length=l.length∧∀ (j i:Nat) (v:Value),l[j]? = some i→cs[j]? = some v→w.cell? (a.add i)=some v:=by
   intro l
   induction l with
   | nil=>intro cs h; simp at h; subst h; exact ⟨rfl,fun j i v h=>by simp at h⟩
   | cons k l ih =>
    intro cs h;rw [List.mapM_cons] at h;obtain ⟨v,hv,h⟩:=Option.bind_eq_some_iff.1 h;obtain ⟨cs',hcs,h⟩:=Option.bind_eq_some_iff.1 h;simp only [Option.pure_def,Option.some.injEq] at h;subst h;obtain ⟨h1,h2⟩:=ih cs' hcs;refine ⟨by simp [h1],fun j i u hi hu=>?_⟩
    cases j with
    | zero=>simp at hi hu; subst hi hu; exact hv
    | succ j=>exact h2 j i u (by simpa using hi) (by simpa using hu)
  obtain ⟨h2,h3⟩:=h1 _ _ h;refine ⟨by simpa using h2,fun j v hv=>h3 j j v ?_ hv⟩;have:j<cs.length:=(List.getElem?_eq_some_iff.1 hv).1;rw [List.getElem?_range (by rw [h2] at this; simpa using this)]
 ·cases h
theorem KA {a:Addr} {v:Value} (h:w.cell? a=some v):a=⟨a.block,a.off,none⟩:=by
 unfold World.cell? at h
 split at h
 ·split at h
  ·cases h
  ·rename_i hs
   obtain ⟨b,o,s⟩:=a
   cases s with
   | none=>rfl
   | some x=>simp at hs
 ·cases h
theorem rd_of {α:Type} {t e:TypeId} {s fuel:Nat} {v:Value} {x:DataW H × List MemPlace} {encd:α→List Value} {Good:α→Prop} (ht:P.underlying t=some (.slice e)) (hs:P.cellsOf e=s) (h0:0<s)
  (dec:∀ n cs y,DataW.trod enc P w base spare held n e cs=some y→∃ d,cs=encd d∧Good d) (h:DataW.trod enc P w base spare held fuel t [v]=some x) :
  ∃ (a:Option Addr) (c:Nat) (l:List α),v = .slice a l.length c∧Rd w a s encd l∧l.length≤c∧c≤maxLen∧(∀ d∈l,Good d):=by
 rcases Go.Deep.open_slice ht h with ⟨hc,_⟩ | ⟨a,len,cap,m,n,D,Pl,hc,_,hl,hm,hmm,_,hx⟩
 ·simp only [List.cons.injEq,and_true] at hc;exact ⟨none,0,[],hc,Rd.nil,Nat.le_refl _,Nat.zero_le _,by simp⟩
 ·simp only [List.cons.injEq,and_true] at hc;have hle:len≤m:=by rw [hmm]; split <;> omega
  have hd:∀ i,i<len→∃ d:α,(w.cells? base (a.add (i*s)) s=some (encd d))∧Good d:=fun i hi=>by
   obtain ⟨cs',h1,h2⟩:=hx i (by omega);obtain ⟨d,rfl,hg⟩:=dec _ _ _ h2;exact ⟨d,by rw [← hs]; exact h1,hg⟩
  have hlist:∀ k,k≤len→∃ l:List α,l.length=k∧∀ i d,l[i]? = some d→w.cells? base (a.add (i*s)) s=some (encd d)∧Good d:=by
   intro k
   induction k with
   | zero=>intro _; exact ⟨[],rfl,fun i d h=>by simp at h⟩
   | succ k ih =>
    intro hk;obtain ⟨l,h1,h2⟩:=ih (by omega);obtain ⟨d,hd1,hd2⟩:=hd k (by omega);refine ⟨l++[d],by simp [h1],fun i d' hi=>?_⟩;rw [List.getElem?_append] at hi
    split at hi
    ·exact h2 i d' hi
    ·rename_i hlt
     have:i=k:=by
      have:=(List.getElem?_eq_some_iff.1 hi).1;simp at this; omega
     subst this;rw [h1,Nat.sub_self] at hi;simp at hi; subst hi;exact ⟨hd1,hd2⟩
  obtain ⟨l,h1,h2⟩:=hlist len (Nat.le_refl _);subst h1;refine ⟨some a,cap,l,hc,⟨fun hne=>?_,fun i d hi j u hu hj=>?_⟩,hl,hm,fun d hd=>?_⟩
  ·cases l with
   | nil=>exact absurd rfl hne
   | cons d l =>
    obtain ⟨h3,_⟩:=h2 0 d rfl;obtain ⟨h4,h5⟩:=MG h3;obtain ⟨u,hu⟩:=AV (l:=encd d) (i:=0);have h6:=h5 0 u hu;rw [Nat.zero_mul] at h6;have h7:(a.add 0).add 0=a:=by simp [Addr.add]
    rw [h7] at h6;exact ⟨a.block,a.off,by rw [← KA h6]⟩
  ·obtain ⟨h3,_⟩:=h2 i d hi;have h5:=(MG h3).2 j u hu;rw [Go.Deep.add_add] at h5;have h6:=KA h5;rw [h6] at h5
   have hblk:∀ q,(a.add q).block=a.block∧(a.add q).off=a.off+q:=by
    intro q; unfold Addr.add
    by_cases hq:q=0 <;> simp [hq]
   rw [(hblk _).1,(hblk _).2,← Nat.add_assoc] at h5;obtain ⟨b,o,sp⟩:=a;exact h5
  ·obtain ⟨i,hi⟩:=List.getElem?_of_mem hd;exact (h2 i d hi).2
theorem UA {α:Type} {t e:TypeId} {s:Nat} {v:Value} {d:DataW H} {ps:List MemPlace} {encd:α→List Value} {Good:α→Prop} (ht:P.underlying t=some (.slice e)) (hs:P.cellsOf e=s)
  (dec:∀ n cs y,DataW.trod enc P w base spare held n e cs=some y→∃ d,cs=encd d∧Good d) (hv:∃ a n c,v = .slice a n c) (h:DataW.Trod enc P w base spare held t v d ps)  (h0:0<s:=by decide):
  ∃ (a:Option Addr) (c:Nat) (l:List α),v = .slice a l.length c∧Rd w a s encd l∧l.length≤c∧c≤maxLen∧(∀ d∈l,Good d):=by
 obtain ⟨fuel,hf⟩:=h;obtain ⟨a,n,c,rfl⟩:=hv;exact rd_of ht hs h0 dec (by simpa [Value.cells] using hf)
theorem UB {e:TypeId} {k:IntKind} (he:P.underlying e=some (.int k)):∀ n cs y,DataW.trod enc P w base spare held n e cs=some y→∃ d:Int,cs=[Value.int k d]∧(k.min≤d∧d≤k.max):=by
 intro n cs y h;obtain ⟨m,h1,_,h2⟩:=DataW.trod_int he h;exact ⟨m,h1,HK h2⟩
end
end Go.GV
namespace Go.GV
open Go
abbrev jn1 (P:Program) (_:FuncId) (fn:Func) (s:ChangeSpec) (c:OpenClaim):Bool:=c.wf (OpenSpec.ofChange s) && laidOutB P && mapsRowed P && fn.params.all (P.readableRec ·) && namedTie P c.named s.vars && (c.stops == []) && (P.stops == []) && (c.knobs == []) && (P.stopKnobs == [])
abbrev jn2 (P:Program) (f:FuncId) (_:Func) (_:ChangeSpec) (c:OpenClaim):Bool:=(c.inPlace == P.inPlace f) && (c.unfollowed == P.unfollowed f) && (c.recurses == P.recurses f) && (c.named == P.varsNamed f)
abbrev jn3 (P:Program) (_:FuncId) (fn:Func) (s:ChangeSpec) (c:OpenClaim):Bool:=(c.maps == (fn.params.toList++s.plain.varTypes P).any (P.mapsRec ·)) && (c.ifaces == (fn.params.toList++s.plain.varTypes P).any (P.ifacesRec ·)) && (c.mapsOut == P.mapsAmong fn.resultTypes.toList) && (c.loops == (fn.params.toList++s.plain.varTypes P).any (P.loopsFrom ·)) && (c.wideKeys == (fn.params.toList++s.plain.varTypes P++fn.resultTypes.toList).any (P.wideKeysFrom ·)) && s.vars.all (P.varReadable ·) && fn.resultTypes.all (fun t=>P.readableRec t && decide (t<P.types.size)) && (c.ifacesOut == fn.resultTypes.toList.any (P.ifacesRec ·)) && (c.loopsOut == fn.resultTypes.toList.any (P.loopsFrom ·))
abbrev jn4 (P:Program) (_:FuncId) (_:Func) (_:ChangeSpec) (c:OpenClaim):Bool:=(c.plainKeys == P.plainKeys) && c.shortTexts.isNone && P.stopsHeard && P.mayEnter && (c.lifted == P.liftsFinal)
abbrev jn5 (P:Program) (_:FuncId) (fn:Func) (s:ChangeSpec) (c:OpenClaim):Bool:=(P.make == some c.make) && (c.kinds == (if c.domain.isEmpty then [] else fn.params.toList.map fun t=>match P.underlying t with | some (.int k)=>some k | _=>none)) && (c.pinned == c.pinnedBy) && (c.veiled == (fn.params.toList++s.plain.varTypes P++fn.resultTypes.toList).any (P.veiledRec ·)) && c.veiledFits P fn.params.toList (fn.params.toList++s.plain.varTypes P++fn.resultTypes.toList)
theorem KC {P:Program} {f:FuncId} {fn:Func} {s:ChangeSpec} {c:OpenClaim} (h1:jn1 P f fn s c=true) (h2:jn2 P f fn s c=true) (h3:jn3 P f fn s c=true) (h4:jn4 P f fn s c=true) (h5:jn5 P f fn s c=true):joinedFacts P f fn s c=true:=by
 simp only [jn1,Bool.and_eq_true] at h1;obtain ⟨⟨⟨⟨⟨⟨⟨⟨k0,k1⟩,k2⟩,k3⟩,k4⟩,k5⟩,k6⟩,k7⟩,k8⟩:=h1;simp only [jn2,Bool.and_eq_true] at h2;obtain ⟨⟨⟨k9,k10⟩,k11⟩,k12⟩:=h2;simp only [jn3,Bool.and_eq_true] at h3;obtain ⟨⟨⟨⟨⟨⟨⟨⟨k13,k14⟩,k15⟩,k16⟩,k17⟩,k18⟩,k19⟩,k20⟩,k21⟩:=h3;simp only [jn4,Bool.and_eq_true] at h4;obtain ⟨⟨⟨⟨k22,k23⟩,k24⟩,k25⟩,k26⟩:=h4;simp only [jn5,Bool.and_eq_true] at h5;obtain ⟨⟨⟨⟨k27,k28⟩,k29⟩,k30⟩,k31⟩:=h5;unfold joinedFacts;simp only [Bool.and_eq_true];exact ⟨⟨⟨⟨⟨⟨⟨⟨⟨⟨⟨⟨⟨⟨⟨⟨⟨⟨⟨⟨⟨⟨⟨⟨⟨⟨⟨⟨⟨⟨⟨k0,k1⟩,k2⟩,k3⟩,k4⟩,k5⟩,k6⟩,k7⟩,k8⟩,k9⟩,k10⟩,k11⟩,k12⟩,k13⟩,k14⟩,k15⟩,k16⟩,k17⟩,k18⟩,k19⟩,k20⟩,k21⟩,k22⟩,k23⟩,k24⟩,k25⟩,k26⟩,k27⟩,k28⟩,k29⟩,k30⟩,k31⟩
end Go.GV
namespace Go.Proofs.YtibemkominehdaaGreat
open Go.GV
theorem HM:Cb Tryz.prog 125=some false:=by kernel_rfl
theorem RZ:Cb Tryz.prog 127=some false:=by kernel_rfl
theorem Sa:Cb Tryz.prog 129=some false:=by kernel_rfl
theorem VU:Cb Tryz.prog 139=some false:=by kernel_rfl
theorem Sb:Cb Tryz.prog 163=some true:=by kernel_rfl
theorem NT:Cb Tryz.prog 174=some false:=by kernel_rfl
theorem CT:Cb Tryz.prog 2=some false:=by kernel_rfl
theorem Sc:Cb Tryz.prog 205=some true:=by kernel_rfl
theorem VV:Cb Tryz.prog 232=some true:=by kernel_rfl
theorem ag_24:Cb Tryz.prog 24=some false:=by kernel_rfl
theorem MH:Cb Tryz.prog 27=some false:=by kernel_rfl
theorem KD:Cb Tryz.prog 28=some false:=by kernel_rfl
theorem ER:Cb Tryz.prog 3=some false:=by kernel_rfl
theorem Vo:Cb Tryz.prog 31=some false:=by kernel_rfl
theorem Bm:Cb Tryz.prog 32=some false:=by kernel_rfl
theorem GC:Cb Tryz.prog 329=some false:=by kernel_rfl
theorem Ix:Cb Tryz.prog 34=some true:=by kernel_rfl
theorem EA:Cb Tryz.prog 39=some false:=by kernel_rfl
theorem ag_4:Cb Tryz.prog 4=some false:=by kernel_rfl
theorem Vp:Cb Tryz.prog 40=some false:=by kernel_rfl
theorem Vq:Cb Tryz.prog 41=some false:=by kernel_rfl
theorem Sd:Cb Tryz.prog 42=some false:=by kernel_rfl
theorem KE:Cb Tryz.prog 44=some true:=by kernel_rfl
theorem GS:Cb Tryz.prog 5=some false:=by kernel_rfl
theorem KF:Cb Tryz.prog 51=some true:=by kernel_rfl
theorem Se:Cb Tryz.prog 57=some true:=by kernel_rfl
theorem Iy:Cb Tryz.prog 72=some false:=by kernel_rfl
theorem KG:Cb Tryz.prog 73=some false:=by kernel_rfl
theorem Vr:Cb Tryz.prog 75=some true:=by kernel_rfl
theorem Ep:Cb Tryz.prog 76=some false:=by kernel_rfl
theorem MJ:Cb Tryz.prog 80=some true:=by kernel_rfl
theorem KH:Cb Tryz.prog 85=some true:=by kernel_rfl
theorem Vs:Cb Tryz.prog 88=some false:=by kernel_rfl
theorem Pk:Cb Tryz.prog 90=some false:=by kernel_rfl
theorem MK:Cb Tryz.prog 91=some false:=by kernel_rfl
theorem Iz:Cb Tryz.prog 99=some true:=by kernel_rfl
theorem Sf:Mr Tryz.prog 141=some (16,139):=by kernel_rfl
theorem VW:Mr Tryz.prog 177=some (4,80):=by kernel_rfl
theorem VX:CE Tryz.prog 163=some 56:=by kernel_rfl
theorem by_2:CE Tryz.prog 2=some 8:=by kernel_rfl
theorem VY:CE Tryz.prog 205=some 32:=by kernel_rfl
theorem Vt:CE Tryz.prog 32=some 8:=by kernel_rfl
theorem by_5:CE Tryz.prog 5=some 1:=by kernel_rfl
theorem Vu:CE Tryz.prog 51=some 16:=by kernel_rfl
theorem by_57:CE Tryz.prog 57=some 64:=by kernel_rfl
theorem by_80:CE Tryz.prog 80=some 128:=by kernel_rfl
theorem by_99:CE Tryz.prog 99=some 16:=by kernel_rfl
theorem VZ:Aq Tryz.prog 108=true:=by kernel_rfl
theorem GU:Aq Tryz.prog 11=true:=by kernel_rfl
theorem Wa:Aq Tryz.prog 112=true:=by kernel_rfl
theorem Wb:Aq Tryz.prog 113=true:=by kernel_rfl
theorem Wc:Aq Tryz.prog 114=true:=by kernel_rfl
theorem Wd:Aq Tryz.prog 115=true:=by kernel_rfl
theorem We:Aq Tryz.prog 116=true:=by kernel_rfl
theorem HN:Aq Tryz.prog 117=true:=by kernel_rfl
theorem NU:Aq Tryz.prog 118=true:=by kernel_rfl
theorem Sg:Aq Tryz.prog 119=true:=by kernel_rfl
theorem ca_12:Aq Tryz.prog 12=true:=by kernel_rfl
theorem Sh:Aq Tryz.prog 120=true:=by kernel_rfl
theorem Si:Aq Tryz.prog 13=true:=by kernel_rfl
theorem Sj:Aq Tryz.prog 14=true:=by kernel_rfl
theorem Sk:Aq Tryz.prog 148=true:=by kernel_rfl
theorem Wf:Aq Tryz.prog 149=true:=by kernel_rfl
theorem Wg:Aq Tryz.prog 150=true:=by kernel_rfl
theorem Wh:Aq Tryz.prog 151=true:=by kernel_rfl
theorem Wi:Aq Tryz.prog 152=true:=by kernel_rfl
theorem Sm:Aq Tryz.prog 169=true:=by kernel_rfl
theorem Wj:Aq Tryz.prog 171=true:=by kernel_rfl
theorem Wk:Aq Tryz.prog 172=true:=by kernel_rfl
theorem Wl:Aq Tryz.prog 173=true:=by kernel_rfl
theorem Wm:Aq Tryz.prog 174=true:=by kernel_rfl
theorem Wn:Aq Tryz.prog 175=true:=by kernel_rfl
theorem Wo:Aq Tryz.prog 176=true:=by kernel_rfl
theorem Wp:Aq Tryz.prog 177=true:=by kernel_rfl
theorem Wr:Aq Tryz.prog 192=true:=by kernel_rfl
theorem Ws:Aq Tryz.prog 209=true:=by kernel_rfl
theorem L5:Aq Tryz.prog 210=true:=by kernel_rfl
theorem NV:Aq Tryz.prog 211=true:=by kernel_rfl
theorem Sn:Aq Tryz.prog 234=true:=by kernel_rfl
theorem Wu:Aq Tryz.prog 235=true:=by kernel_rfl
theorem Wv:Aq Tryz.prog 236=true:=by kernel_rfl
theorem Ww:Aq Tryz.prog 237=true:=by kernel_rfl
theorem Wx:Aq Tryz.prog 238=true:=by kernel_rfl
theorem Wy:Aq Tryz.prog 239=true:=by kernel_rfl
theorem So:Aq Tryz.prog 24=true:=by kernel_rfl
theorem Dz:Aq Tryz.prog 240=true:=by kernel_rfl
theorem Wz:Aq Tryz.prog 241=true:=by kernel_rfl
theorem W0:Aq Tryz.prog 242=true:=by kernel_rfl
theorem Vv:Aq Tryz.prog 25=true:=by kernel_rfl
theorem ca_26:Aq Tryz.prog 26=true:=by kernel_rfl
theorem Sp:Aq Tryz.prog 266=true:=by kernel_rfl
theorem W1:Aq Tryz.prog 267=true:=by kernel_rfl
theorem W3:Aq Tryz.prog 268=true:=by kernel_rfl
theorem NW:Aq Tryz.prog 269=true:=by kernel_rfl
theorem J2:Aq Tryz.prog 27=true:=by kernel_rfl
theorem Sq:Aq Tryz.prog 270=true:=by kernel_rfl
theorem Sr:Aq Tryz.prog 271=true:=by kernel_rfl
theorem Vw:Aq Tryz.prog 28=true:=by kernel_rfl
theorem NX:Aq Tryz.prog 281=true:=by kernel_rfl
theorem ca_29:Aq Tryz.prog 29=true:=by kernel_rfl
theorem Ss:Aq Tryz.prog 30=true:=by kernel_rfl
theorem ca_31:Aq Tryz.prog 31=true:=by kernel_rfl
theorem Pm:Aq Tryz.prog 32=true:=by kernel_rfl
theorem ca_33:Aq Tryz.prog 33=true:=by kernel_rfl
theorem ca_34:Aq Tryz.prog 34=true:=by kernel_rfl
theorem ca_35:Aq Tryz.prog 35=true:=by kernel_rfl
theorem ca_36:Aq Tryz.prog 36=true:=by kernel_rfl
theorem ca_37:Aq Tryz.prog 37=true:=by kernel_rfl
theorem Vx:Aq Tryz.prog 38=true:=by kernel_rfl
theorem ca_39:Aq Tryz.prog 39=true:=by kernel_rfl
theorem ca_48:Aq Tryz.prog 48=true:=by kernel_rfl
theorem ca_49:Aq Tryz.prog 49=true:=by kernel_rfl
theorem ca_50:Aq Tryz.prog 50=true:=by kernel_rfl
theorem GW:Aq Tryz.prog 51=true:=by kernel_rfl
theorem ca_52:Aq Tryz.prog 52=true:=by kernel_rfl
theorem ca_53:Aq Tryz.prog 53=true:=by kernel_rfl
theorem ca_54:Aq Tryz.prog 54=true:=by kernel_rfl
theorem ca_63:Aq Tryz.prog 63=true:=by kernel_rfl
theorem ca_67:Aq Tryz.prog 67=true:=by kernel_rfl
theorem ca_68:Aq Tryz.prog 68=true:=by kernel_rfl
theorem ca_69:Aq Tryz.prog 69=true:=by kernel_rfl
theorem Su:Aq Tryz.prog 7=true:=by kernel_rfl
theorem ca_70:Aq Tryz.prog 70=true:=by kernel_rfl
theorem ca_71:Aq Tryz.prog 71=true:=by kernel_rfl
theorem ca_72:Aq Tryz.prog 72=true:=by kernel_rfl
theorem ca_73:Aq Tryz.prog 73=true:=by kernel_rfl
theorem ca_74:Aq Tryz.prog 74=true:=by kernel_rfl
theorem Sv:Aq Tryz.prog 75=true:=by kernel_rfl
theorem Vy:Aq Tryz.prog 76=true:=by kernel_rfl
theorem Sx:Aq Tryz.prog 77=true:=by kernel_rfl
theorem ca_78:Aq Tryz.prog 78=true:=by kernel_rfl
theorem Pn:Aq Tryz.prog 79=true:=by kernel_rfl
theorem ca_8:Aq Tryz.prog 8=true:=by kernel_rfl
theorem ca_9:Aq Tryz.prog 9=true:=by kernel_rfl
theorem ca_91:Aq Tryz.prog 91=true:=by kernel_rfl
theorem ca_92:Aq Tryz.prog 92=true:=by kernel_rfl
theorem ca_93:Aq Tryz.prog 93=true:=by kernel_rfl
theorem Vz:Aq Tryz.prog 94=true:=by kernel_rfl
theorem ca_95:Aq Tryz.prog 95=true:=by kernel_rfl
theorem NY:BJ Tryz.prog 256=some 232:=by kernel_rfl
theorem BQ:BJ Tryz.prog 27=some 5:=by kernel_rfl
theorem CM:BJ Tryz.prog 39=some 51:=by kernel_rfl
theorem I0:BJ Tryz.prog 40=some 163:=by kernel_rfl
theorem I3:BJ Tryz.prog 41=some 80:=by kernel_rfl
theorem KI:BJ Tryz.prog 42=some 57:=by kernel_rfl
theorem AP:BJ Tryz.prog 72=some 32:=by kernel_rfl
theorem GX:BJ Tryz.prog 73=some 205:=by kernel_rfl
theorem Ch:BJ Tryz.prog 76=some 2:=by kernel_rfl
theorem I4:BJ Tryz.prog 91=some 99:=by kernel_rfl
theorem GY:Bi Tryz.prog 132 0=some 0:=by kernel_rfl
theorem ML:Bi Tryz.prog 132 1=some 1:=by kernel_rfl
theorem MM:Bi Tryz.prog 132 2=some 2:=by kernel_rfl
theorem Sy:Bi Tryz.prog 132 3=some 3:=by kernel_rfl
theorem Sz:Bi Tryz.prog 136 0=some 0:=by kernel_rfl
theorem MN:Bi Tryz.prog 136 1=some 1:=by kernel_rfl
theorem Di:Bi Tryz.prog 173 0=some 0:=by kernel_rfl
theorem MO:Bi Tryz.prog 176 0=some 0:=by kernel_rfl
theorem S1:Bi Tryz.prog 176 1=some 1:=by kernel_rfl
theorem S2:Bi Tryz.prog 179 0=some 0:=by kernel_rfl
theorem MP:Bi Tryz.prog 179 1=some 32:=by kernel_rfl
theorem MQ:Bi Tryz.prog 179 2=some 33:=by kernel_rfl
theorem S4:Bi Tryz.prog 232 0=some 0:=by kernel_rfl
theorem S5:Bi Tryz.prog 232 1=some 1:=by kernel_rfl
theorem Fj:Bi Tryz.prog 34 0=some 0:=by kernel_rfl
theorem DE:Bi Tryz.prog 34 1=some 1:=by kernel_rfl
theorem Fk:Bi Tryz.prog 34 2=some 2:=by kernel_rfl
theorem IV:Bi Tryz.prog 34 3=some 3:=by kernel_rfl
theorem Fl:Bi Tryz.prog 34 4=some 4:=by kernel_rfl
theorem L6:Bi Tryz.prog 34 5=some 5:=by kernel_rfl
theorem L7:Bi Tryz.prog 34 6=some 6:=by kernel_rfl
theorem Po:Bi Tryz.prog 44 0=some 0:=by kernel_rfl
theorem GZ:Bi Tryz.prog 44 1=some 1:=by kernel_rfl
theorem Pp:Bi Tryz.prog 44 2=some 2:=by kernel_rfl
theorem Pq:Bi Tryz.prog 44 3=some 3:=by kernel_rfl
theorem Pr:Bi Tryz.prog 44 4=some 4:=by kernel_rfl
theorem Ps:Bi Tryz.prog 44 5=some 5:=by kernel_rfl
theorem IW:Bi Tryz.prog 44 6=some 6:=by kernel_rfl
theorem Fm:Bi Tryz.prog 51 0=some 0:=by kernel_rfl
theorem Pt:Bi Tryz.prog 51 1=some 1:=by kernel_rfl
theorem UC:Bi Tryz.prog 57 0=some 0:=by kernel_rfl
theorem UD:Bi Tryz.prog 57 1=some 1:=by kernel_rfl
theorem L8:Bi Tryz.prog 57 2=some 2:=by kernel_rfl
theorem L9:Bi Tryz.prog 57 3=some 3:=by kernel_rfl
theorem Pu:Bi Tryz.prog 75 0=some 0:=by kernel_rfl
theorem Fo:Bi Tryz.prog 75 1=some 1:=by kernel_rfl
theorem Gp:Bi Tryz.prog 78 0=some 0:=by kernel_rfl
theorem Gq:Bi Tryz.prog 78 1=some 1:=by kernel_rfl
theorem Pv:Bi Tryz.prog 80 0=some 0:=by kernel_rfl
theorem Pw:Bi Tryz.prog 80 1=some 1:=by kernel_rfl
theorem Px:Bi Tryz.prog 80 2=some 2:=by kernel_rfl
theorem Fp:Bi Tryz.prog 80 3=some 3:=by kernel_rfl
theorem IX:Bi Tryz.prog 80 4=some 4:=by kernel_rfl
theorem Da:Bi Tryz.prog 80 5=some 6:=by kernel_rfl
theorem Ha:Bi Tryz.prog 85 0=some 0:=by kernel_rfl
theorem LA:Bi Tryz.prog 85 1=some 1:=by kernel_rfl
theorem Py:Bi Tryz.prog 93 0=some 0:=by kernel_rfl
theorem LB:Bi Tryz.prog 93 1=some 1:=by kernel_rfl
theorem Hc:Bi Tryz.prog 93 2=some 2:=by kernel_rfl
theorem UE:Bi Tryz.prog 99 0=some 0:=by kernel_rfl
theorem UF:Bi Tryz.prog 99 1=some 1:=by kernel_rfl
theorem Bz:Tryz.prog.follows .mixedOrders=true:=by kernel_rfl
theorem S6:Gv Tryz.prog 174=some (32,163):=by kernel_rfl
theorem J3:Gv Tryz.prog 255=some (3,3):=by kernel_rfl
theorem Pz:Gv Tryz.prog 90=some (99,57):=by kernel_rfl
theorem W4:Ct Tryz.prog 132=some [(0,1),(1,1),(2,1),(3,1)]:=by kernel_rfl
theorem W5:Ct Tryz.prog 136=some [(0,1),(1,1)]:=by kernel_rfl
theorem W6:Ct Tryz.prog 173=some [(0,1)]:=by kernel_rfl
theorem W7:Ct Tryz.prog 176=some [(0,1),(1,1)]:=by kernel_rfl
theorem W8:Ct Tryz.prog 179=some [(0,32),(32,1),(33,1)]:=by kernel_rfl
theorem S7:Ct Tryz.prog 232=some [(0,1),(1,1)]:=by kernel_rfl
theorem I5:Ct Tryz.prog 34=some [(0,1),(1,1),(2,1),(3,1),(4,1),(5,1),(6,1)]:=by kernel_rfl
theorem S8:Ct Tryz.prog 44=some [(0,1),(1,1),(2,1),(3,1),(4,1),(5,1),(6,1)]:=by kernel_rfl
theorem V0:Ct Tryz.prog 51=some [(0,1),(1,1)]:=by kernel_rfl
theorem pl_57:Ct Tryz.prog 57=some [(0,1),(1,1),(2,1),(3,1)]:=by kernel_rfl
theorem pl_78:Ct Tryz.prog 78=some [(0,1),(1,1)]:=by kernel_rfl
theorem KL:Ct Tryz.prog 85=some [(0,1),(1,1)]:=by kernel_rfl
theorem pl_93:Ct Tryz.prog 93=some [(0,1),(1,1),(2,1)]:=by kernel_rfl
theorem S9:Ct Tryz.prog 99=some [(0,1),(1,1)]:=by kernel_rfl
theorem SA:Br Tryz.prog 139=some 1:=by kernel_rfl
theorem W9:Br Tryz.prog 141=some 16:=by kernel_rfl
theorem HO:Br Tryz.prog 163=some 7:=by kernel_rfl
theorem Ez:Br Tryz.prog 2=some 1:=by kernel_rfl
theorem HP:Br Tryz.prog 205=some 4:=by kernel_rfl
theorem LC:Br Tryz.prog 232=some 2:=by kernel_rfl
theorem V1:Br Tryz.prog 27=some 1:=by kernel_rfl
theorem sz_3:Br Tryz.prog 3=some 1:=by kernel_rfl
theorem AB:Br Tryz.prog 32=some 1:=by kernel_rfl
theorem LD:Br Tryz.prog 329=some 1:=by kernel_rfl
theorem F1:Br Tryz.prog 34=some 7:=by kernel_rfl
theorem sz_39:Br Tryz.prog 39=some 1:=by kernel_rfl
theorem sz_42:Br Tryz.prog 42=some 1:=by kernel_rfl
theorem FP:Br Tryz.prog 44=some 7:=by kernel_rfl
theorem FC:Br Tryz.prog 5=some 1:=by kernel_rfl
theorem Dj:Br Tryz.prog 51=some 2:=by kernel_rfl
theorem J4:Br Tryz.prog 57=some 4:=by kernel_rfl
theorem V2:Br Tryz.prog 72=some 1:=by kernel_rfl
theorem sz_73:Br Tryz.prog 73=some 1:=by kernel_rfl
theorem V3:Br Tryz.prog 75=some 2:=by kernel_rfl
theorem sz_78:Br Tryz.prog 78=some 2:=by kernel_rfl
theorem FQ:Br Tryz.prog 80=some 8:=by kernel_rfl
theorem ES:Br Tryz.prog 85=some 2:=by kernel_rfl
theorem V4:Br Tryz.prog 91=some 1:=by kernel_rfl
theorem DV:Br Tryz.prog 99=some 2:=by kernel_rfl
theorem LF:Tryz.prog.underlying 125=some (.pointer 173):=by kernel_rfl
theorem SB:Tryz.prog.underlying 127=some (.pointer 176):=by kernel_rfl
theorem SD:Tryz.prog.underlying 129=some (.pointer 179):=by kernel_rfl
theorem J5:Tryz.prog.underlying 133=some (.int .u64):=by kernel_rfl
theorem Ki:Tryz.prog.underlying 2=some (.int .i64):=by kernel_rfl
theorem P0:Tryz.prog.underlying 25=some (.pointer 93):=by kernel_rfl
theorem V5:Tryz.prog.underlying 28=some (.int .i64):=by kernel_rfl
theorem E0:Tryz.prog.underlying 3=some (.int .i64):=by kernel_rfl
theorem MR:Tryz.prog.underlying 31=some (.int .u32):=by kernel_rfl
theorem CH:Tryz.prog.underlying 32=some (.int .u64):=by kernel_rfl
theorem WA:Tryz.prog.underlying 329=some (.int .u64):=by kernel_rfl
theorem un_4:Tryz.prog.underlying 4=some (.bool):=by kernel_rfl
theorem SE:Tryz.prog.underlying 48=some (.int .u16):=by kernel_rfl
theorem Er:Tryz.prog.underlying 5=some (.int .u8):=by kernel_rfl
theorem V6:Tryz.prog.underlying 88=some (.pointer 132):=by kernel_rfl
theorem LG:Tryz.prog.underlying 9=some (.string):=by kernel_rfl
theorem V7:Tryz.prog.underlying 95=some (.int .i16):=by kernel_rfl
theorem WB:B3 Tryz.prog 132=some ([.pointer none,.pointer none,.pointer none,.int .i64 0]):=by kernel_rfl
theorem WC:B3 Tryz.prog 136=some ([.slice none 0 0,.int .i64 0]):=by kernel_rfl
theorem SF:B3 Tryz.prog 141=some (List.replicate 16 (.nilFunc:Value)):=by kernel_rfl
theorem SG:B3 Tryz.prog 163=some ([.int .u64 0,.int .i64 0,.int .i64 0,.int .i64 0,.int .i64 0,.int .i64 0,.bool false]):=by kernel_rfl
theorem WD:B3 Tryz.prog 173=some ([.slice none 0 0]):=by kernel_rfl
theorem WE:B3 Tryz.prog 176=some ([.map none,.int .u64 0]):=by kernel_rfl
theorem WF:B3 Tryz.prog 179=some ([.int .u64 0,.int .i64 0,.bool false,.slice none 0 0,.int .i64 0,.slice none 0 0,.slice none 0 0,.slice none 0 0,.int .u64 0,.int .i64 0,.bool false,.slice none 0 0,.int .i64 0,.slice none 0 0,.slice none 0 0,.slice none 0 0,.int .u64 0,.int .i64 0,.bool false,.slice none 0 0,.int .i64 0,.slice none 0 0,.slice none 0 0,.slice none 0 0,.int .u64 0,.int .i64 0,.bool false,.slice none 0 0,.int .i64 0,.slice none 0 0,.slice none 0 0,.slice none 0 0,.int .u64 0,.int .u64 0]):=by kernel_rfl
theorem Kj:B3 Tryz.prog 2=some ([.int .i64 0]):=by kernel_rfl
theorem WG:B3 Tryz.prog 205=some ([.int .i64 0,.int .i64 0,.int .i64 0,.int .i64 0]):=by kernel_rfl
theorem LH:B3 Tryz.prog 232=some ([.int .i64 0,.nilFunc]):=by kernel_rfl
theorem zc_3:B3 Tryz.prog 3=some ([.int .i64 0]):=by kernel_rfl
theorem SH:B3 Tryz.prog 32=some ([.int .u64 0]):=by kernel_rfl
theorem WH:B3 Tryz.prog 329=some ([.int .u64 0]):=by kernel_rfl
theorem G1:B3 Tryz.prog 34=some ([.int .u8 0,.int .i64 0,.int .i64 0,.int .i64 0,.int .i64 0,.int .i64 0,.int .u64 0]):=by kernel_rfl
theorem I6:B3 Tryz.prog 44=some ([.int .i64 0,.slice none 0 0,.slice none 0 0,.int .u64 0,.slice none 0 0,.int .u64 0,.slice none 0 0]):=by kernel_rfl
theorem MS:B3 Tryz.prog 5=some ([.int .u8 0]):=by kernel_rfl
theorem I8:B3 Tryz.prog 51=some ([.int .i64 0,.int .i64 0]):=by kernel_rfl
theorem MT:B3 Tryz.prog 57=some ([.int .u32 0,.int .u64 0,.slice none 0 0,.slice none 0 0]):=by kernel_rfl
theorem zc_78:B3 Tryz.prog 78=some ([.slice none 0 0,.slice none 0 0]):=by kernel_rfl
theorem SI:B3 Tryz.prog 80=some ([.int .u64 0,.int .i64 0,.bool false,.slice none 0 0,.int .i64 0,.slice none 0 0,.slice none 0 0,.slice none 0 0]):=by kernel_rfl
theorem FR:B3 Tryz.prog 85=some ([.int .i64 0,.slice none 0 0]):=by kernel_rfl
theorem zc_93:B3 Tryz.prog 93=some ([.pointer none,.map none,.slice none 0 0]):=by kernel_rfl
theorem I9:B3 Tryz.prog 99=some ([.int .u32 0,.int .u64 0]):=by kernel_rfl
theorem WI:(Tryz.prog.info? 163).bind (·.zero)=some (.agg #[.int .u64 0,.int .i64 0,.int .i64 0,.int .i64 0,.int .i64 0,.int .i64 0,.bool false]):=by kernel_rfl
theorem zv_3:(Tryz.prog.info? 3).bind (·.zero)=some (.int .i64 0):=by kernel_rfl
theorem SJ:(Tryz.prog.info? 57).bind (·.zero)=some (.agg #[.int .u32 0,.int .u64 0,.slice none 0 0,.slice none 0 0]):=by kernel_rfl
end Go.Proofs.YtibemkominehdaaGreat
namespace Go.Proofs.YtibemkominehdaaGreat
open Go.GV
abbrev Ar:=Nat × Nat × Int
def upd (p:Nat→Int) (v:Nat) (x:Int):Nat→Int:=fun u=>if u=v then x else p u
def rel1 (p:Nat→Int) (a:Ar):Nat→Int:=if p a.1+a.2.2<p a.2.1 then upd p a.2.1 (p a.1+a.2.2) else p
def Fea (A:List Ar) (q:Nat→Int):Prop:=∀ a∈A,q a.2.1≤q a.1+a.2.2
def step0 (A:List Ar) (d:Nat→Int) (v:Nat):Int:=A.foldl (fun m a=>if a.2.1=v then min m (d a.1+a.2.2) else m) (d v)
def DD (A:List Ar):Nat→Nat→Int
 | 0,_=>0
 | r+1,v=>step0 A (DD A r) v
theorem LI:∀ (n:Nat) (l:List Nat),l.Nodup→(∀ x∈l,x<n)→l.length≤n
 | 0,l,_,h=>by
  cases l with
  | nil=>exact Nat.le_refl _
  | cons x l=>exact absurd (h x (by simp)) (Nat.not_lt_zero _)
 | n+1,l,hd,h=>by
  have h1:=LI n (l.filter (· != n)) (hd.filter _) (fun x hx=>by
   have:=h x (List.mem_filter.1 hx).1;have h2:=(List.mem_filter.1 hx).2
   simp at h2; omega)
  have h2:l.length=(l.filter (· != n)).length+l.count n:=by
   clear hd h h1
   induction l with
   | nil=>rfl
   | cons x l ih =>
    rw [List.count_cons,List.filter_cons]
    by_cases hx:x=n
    ·subst hx; simp; omega
    ·simp [hx]; omega
  have h3:l.count n≤1:=List.nodup_iff_count.1 hd n;omega
def WJ (A:List Ar):Nat→(Nat→Int)→Nat→Int
 | 0,p=>p
 | r+1,p=>A.foldl rel1 (WJ A r p)
end Go.Proofs.YtibemkominehdaaGreat
