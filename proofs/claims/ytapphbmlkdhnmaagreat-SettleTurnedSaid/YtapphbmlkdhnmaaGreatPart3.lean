/- Part 3 of the proof. -/
import Derived.Test.YtapphbmlkdhnmaaGreatPart2
import Derived.Maps.RangeRun
import Derived.Laws.StructEq
import Derived.ProofKit
import Derived.Deep.Slices
import Derived.OpenShut
import Derived.Test.YtapphbmlkdhnmaaGreatProg
import Derived.KernelRfl
import Derived.Test.YtapphbmlkdhnmaaGreatPart1
/- Slices: clear. It holds for every program. -/
namespace Go.GV
open Go

section
variable {P:Program} {r:Option Nat} {ops rest:List Oper} {Q:Exit→Env→World→Prop} {e:Env} {w w0:World} {S:List Nat} {L:List (Nat × Obj)}
 {dst:Option Tmp} {ty:TypeId} {pos:String} {af:Array Edge} {g:Option (Nat × Bool)}

theorem MD (z:Array Value) (n:Nat):(Builtin.zeroCells z n).toList=(List.replicate n z.toList).flatten:=by
 have hr:(List.replicate n z.toList).flatten=(List.replicate n z.toList).flatMap id:=List.flatMap_id.symm
 rw [hr]
 rcases Nat.eq_zero_or_pos z.size with h | h
 ·have h2:z.toList=[]:=by rw [← List.length_eq_zero_iff]; simpa using h
  simp [Builtin.zeroCells,h,h2]
 ·refine List.ext_getElem? fun j=>?_
  rw [PZ (s:=z.size) (fun x hx=>by rw [(List.mem_replicate.1 hx).2]; simp) h j]
  unfold Builtin.zeroCells
  simp only [Array.toList_map,List.getElem?_map,Array.toList_range,List.getElem?_replicate]
  have hm:j % z.size<z.size:=Nat.mod_lt _ h
  by_cases hj:j<n*z.size
  ·rw [List.getElem?_eq_getElem (by simpa using hj),if_pos (Nat.div_lt_of_lt_mul (by rw [Nat.mul_comm]; exact hj))]
   simp [hm]
  ·rw [List.getElem?_eq_none (by simpa using hj),if_neg (fun h7=>hj (by have:=(Nat.div_lt_iff_lt_mul h).1 h7; exact this))]
   rfl

/-- clear of a slice. -/
theorem NR {t el:TypeId} {x:Operand} {b o k n c s:Nat} {t2:TypeId} {l zl:List Value} (hg:AX ⟨dst,.call ⟨.builtin .clear,#[x],#[t]⟩,ty,pos,af,g⟩ ops e=true) (hu:CR P t=some el) (hz:C2 P el=some zl) (hzl:zl.length=s) (h1:∀ v∈zl,Bm v=true)
  (hx:ev e x = .slice (some ⟨b,o,none⟩) n c) (H:Ctx w0 S w L) (hk:L[k]? = some (b,Bl t2 l)) (hi:o+n*s≤l.length)
  (h:∀ w',Ctx w0 S w' (L.set k (b,Bl t2 (over l o (List.replicate n zl).flatten)))→AL P r ops Q rest (put e dst (.tuple #[])) w') :
  AL P r ops Q (⟨dst,.call ⟨.builtin .clear,#[x],#[t]⟩,ty,pos,af,g⟩::rest) e w:=by
 obtain ⟨z,hz1,hz2⟩:=Gc hz w
 have hlen:(List.replicate n zl).flatten.length=n*s:=by simp [hzl]
 obtain ⟨w',hr,he,hb⟩:=EO (P:=P) (o:=o) (List.replicate n zl).flatten l w 0 (fun v hv=>by
  obtain ⟨y,hy,hvy⟩:=List.mem_flatten.1 hv
  obtain ⟨-,rfl⟩:=List.mem_replicate.1 hy
  exact h1 v hvy) (H.get hk) (by omega)
 cases n with
 | zero =>
  have hw:Ctx w0 S w (L.set k (b,Bl t2 (over l o (List.replicate 0 zl).flatten))):=by
   have hset:L.set k (b,Bl t2 l)=L:=by
    obtain ⟨h1,h2⟩:=List.getElem?_eq_some_iff.1 hk
    rw [← h2]; exact List.set_getElem_self h1
   show Ctx w0 S w (L.set k (b,Bl t2 l))
   rw [hset]; exact H
  refine BH (w':=w) (v := .tuple #[]) hg rfl ?_ (h w hw)
  simp [execOp,resolve,invoke,builtin,hx,Builtin.clear_,Bd (CG hu)]
 | succ n =>
  refine BH (w':=w') (v := .tuple #[]) hg rfl ?_ (h w' (H.turn hk _ he (by simpa using hb)))
  simp [execOp,resolve,invoke,builtin,hx,Builtin.clear_,Bd (CG hu),hz1,MD,hz2,hr]
end
end Go.GV

/- Ranges over a function that keeps a state of its own: the same rule, with what holds where it begins. It holds for every program. -/
namespace Go.GV
open Go

/-- The same, of an iterator that begins where S0 holds (its own blocks, Z, tell where it stands). -/
def Tm (P:Program) (gf:FuncId) (ca:Array Value) (Z:List Nat) (K:Mt→World→Prop) (xs:List (List Value)) (S0:World→Prop):Prop :=
 ∀ (l:Nat) (w:World),S0 w→∀ (J:Nat→Mt→World→Prop) (E:World→Prop),(∃ M,J 0 M w)→(∀ i M w' w'',J i M w'→Ext Z w' w''→J i M w'')→(∀ w' w'',E w'→Ext Z w' w''→E w'')→(∀ i M w',J i M w'→(∀ x,M x→x<w'.heap.size)∧K M w') →
  (∀ i v M w',xs[i]? = some v→J i M w'→YieldAt P l v w' fun u w''=>(u = .bool true∧∃ M',J (i+1) M' w''∧Grw M M' w' w'')∨(u = .bool false∧E w'')) →
  Ret P gf (#[.func (.yield l) #[] #[]]++ca) w fun _ w'=>(∃ M,J xs.length M w')∨E w'

section
variable {P:Program} {Q:Exit→Env→World→Prop} {e:Env} {w:World} {n:Nat}
/-- The statement. -/
theorem Qd {f:Operand} {ps:Array Tmp} {assign body:Code} {gf:Nat} {ca:Array Value} {Z:List Nat} {K:Mt→World→Prop} {xs:List (List Value)} {S0:World→Prop} (hf:ev e f = .func (.func gf) #[] ca) (hc:A4 P gf=true)
  (hI:Tm P gf ca Z K xs S0) (hfit:(Hi n assign && Hi n body)=true) (hps:(ps.toList.all fun p=>decide (p<n))=true) (hlen:∀ v∈xs,v.length=ps.size)
  (J:Nat→Mt→World→Prop) (E:World→Prop) (hZ:w.heap.size∉Z∧w.heap.size+1∉Z) (hS0:∀ w2,Ext [] w w2→S0 w2) (hj0:∀ w2,Ext [] w w2→w.heap.size+1<w2.heap.size→∃ M,J 0 M w2)
  (hjs:∀ i M w' w'',J i M w'→Ext (w.heap.size::(w.heap.size+1)::Z) w' w''→J i M w'') (hes:∀ w' w'',E w'→Ext (w.heap.size::(w.heap.size+1)::Z) w' w''→E w'')
  (hk:∀ i M w',J i M w'→(∀ x,M x→x<w'.heap.size∧x≠w.heap.size∧x≠w.heap.size+1)∧K (fun x=>x=w.heap.size+1∨M x) w')
  (hb:∀ i v M w',xs[i]? = some v→J i M w'→w.heap.size+1<w'.heap.size→W P (some (w.heap.size+1)) n assign (Pg P w.heap.size (w.heap.size+1) n body (J (i+1)) E M w') (MA ⟨e.g,[]⟩ (ps.toList.zip v)) w')
  (hend:∀ M w4,J xs.length M w4→w4.heap[w.heap.size]? = some (.deferred (some []))→Q .normal ⟨e.g,{ target := .collected w.heap.size,args:=#[] }::e.ds⟩ w4)
  (hret:∀ w4,E w4→w4.heap[w.heap.size]? = some (.deferred (some []))→Q .ret ⟨e.g,{ target := .collected w.heap.size,args:=#[] }::e.ds⟩ w4):W P none n (.rangeFunc f ps assign body) Q e w:=by
 refine Jb hf hc ?_
 intro fn tmps hts htm D l w2 hDe hle hx2 hD hrec
 subst hDe hle
 obtain ⟨lo,hlo,hrec'⟩:∃ lo,lo=({ state := .ready,pending:=none,fn,tmps,params:=ps,assign,body,defers:=w.heap.size }:Loop)∧w2.heap[w.heap.size+1]? = some (.loop lo):=⟨_,rfl,hrec⟩
 have hsz2:=Bp hrec'
 have hne:w.heap.size≠w.heap.size+1:=by omega
 refine Ret.mono (hI (w.heap.size+1) w2 (hS0 w2 hx2) (fun i Mh w'=>(∃ M:Mt,(Mh=fun x=>x=w.heap.size+1∨M x)∧J i M w')∧w'.heap[w.heap.size+1]? = some (.loop lo)∧w'.heap[w.heap.size]? = some (.deferred (some []))) (fun w'=>E w'∧(∃ lp,w'.heap[w.heap.size+1]? = some (.loop lp)∧lp.state = .done∧lp.pending=some .ret)∧w'.heap[w.heap.size]? = some (.deferred (some [])))
  (let ⟨M,hM⟩:=hj0 w2 hx2 hsz2; ⟨_,⟨M,rfl,hM⟩,hrec',hD⟩) (fun i Mh w' w'' h hx=>⟨let ⟨M,hMh,hM⟩:=h.1; ⟨M,hMh,hjs i M w' w'' hM (hx.mono fun x hx=>List.mem_cons_of_mem _ (List.mem_cons_of_mem _ hx))⟩,hx.to h.2.1 hZ.2,hx.to h.2.2 hZ.1⟩)
  (fun w' w'' h hx=>⟨hes w' w'' h.1 (hx.mono fun x hx=>List.mem_cons_of_mem _ (List.mem_cons_of_mem _ hx)),let ⟨lp,h1,h2⟩:=h.2.1; ⟨lp,hx.to h1 hZ.2,h2⟩,hx.to h.2.2 hZ.1⟩) (fun i Mh w' h=>by
   obtain ⟨⟨M,rfl,hM⟩,hl,_⟩:=h
   exact ⟨fun x hx=>hx.elim (fun h=>by rw [h]; exact Bp hl) fun h=>((hk i M w' hM).1 x h).1,(hk i M w' hM).2⟩) ?_) ?_
 ·rintro i v Mh w' hx ⟨⟨M,rfl,hJ⟩,hl,hDw⟩
  have hsz:=Bp hl
  have hkM:=(hk i M w' hJ).1
  have hbody:=hb i v M w' hx hJ hsz
  have hlp:lo.params=ps:=by rw [hlo]
  have hla:lo.assign=assign:=by rw [hlo]
  have hlb:lo.body=body:=by rw [hlo]
  have hlt:lo.tmps=tmps:=by rw [hlo]
  have hls:lo.state = .ready:=by rw [hlo]
  have hpd:lo.pending=none:=by rw [hlo]
  refine M8 hl (by rw [hlp]; exact hlen v (List.mem_of_getElem? hx)) ?_
  rw [hlp,hla,hlb,hlt,MB]
  have hs0:Sim n (⟨e.g,[]⟩:Env) ({ tmps:=tmps,defers:=[] }:Act):=⟨rfl,hts,htm⟩
  refine Ka (MA ⟨e.g,[]⟩ (ps.toList.zip v)) (LV _ hs0 fun p hp=>?_) hfit ?_
  ·have h1:=List.all_eq_true.1 hps p.1 (List.of_mem_zip hp).1
   exact of_decide_eq_true h1
  ·refine Ek assign ?_ hbody
   intro x e1 w1 hq
   cases x with
   | normal =>
    obtain ⟨hS,hW⟩:=hq
    have hl1:=hS.to hl (by simp)
    have hD1:=hS.to hDw (by simp)
    have hxB:=Ext.setB w1 (w.heap.size+1) (.loop { lo with state := .busy })
    refine ⟨lo,hl1,hls,Ek body ?_ (hW _ hxB)⟩
    have hlB:(w1.putObj (w.heap.size+1) (.loop { lo with state := .busy })).heap[w.heap.size+1]? = some (.loop { lo with state := .busy }):=Em hl1
    have hDB:(w1.putObj (w.heap.size+1) (.loop { lo with state := .busy })).heap[w.heap.size]? = some (.deferred (some [])):=hxB.to hD1 (by simp)
    intro y e3 w3 hq3
    cases y with
    | normal =>
     obtain ⟨M',hJ3,hM',S3,hS3,hin⟩:=hq3
     have hlS3:w.heap.size+1∉S3:=fun h=>by
      rcases hin _ h with h | h
      ·exact (hkM _ h).2.2 rfl
      ·omega
     have hDS3:w.heap.size∉S3:=fun h=>by
      rcases hin _ h with h | h
      ·exact (hkM _ h).2.1 rfl
      ·omega
     have hl3:=hS3.to hlB hlS3
     have hD3:=hS3.to hDB hDS3
     have hx4:=Ext.setB w3 (w.heap.size+1) (.loop { ({ lo with state := .busy }:Loop) with state := .ready,pending:=none })
     refine ⟨_,hl3,.inl ⟨rfl,fun x=>x=w.heap.size+1∨M' x,⟨⟨M',rfl,hjs _ _ _ _ hJ3 (hx4.mono (by simp))⟩,?_,hx4.to hD3 (by simp)⟩,⟨⟨(w.heap.size+1)::S3,fun x hx=>?_,?_⟩,fun x hx=>?_⟩⟩⟩
     ·rw [Em hl3]
      congr 2
      cases lo
      simp_all
     ·rcases List.mem_cons.1 hx with h | h
      ·exact .inl (.inl h)
      ·exact (hin x h).imp .inr id
     ·exact (((hS.mono (by simp)).trans (hxB.mono (by simp))).trans (hS3.mono fun x h=>List.mem_cons_of_mem _ h)).trans (hx4.mono (by simp))
     ·rcases hx with h | h
      ·exact .inl (.inl h)
      ·exact (hM' x h).imp .inr id
    | ret =>
     obtain ⟨hE3,S3,hS3,hDS3,hlS3⟩:=hq3
     have hl3:=hS3.to hlB hlS3
     have hD3:=hS3.to hDB hDS3
     have hx4:=Ext.setB w3 (w.heap.size+1) (.loop { ({ lo with state := .busy }:Loop) with state := .done,pending:=some .ret })
     exact ⟨_,hl3,.inr ⟨rfl,hes _ _ hE3 (hx4.mono (by simp)),⟨_,Em hl3,rfl,rfl⟩,hx4.to hD3 (by simp)⟩⟩
    | exit id=>exact hq3.elim
    | goto t=>exact hq3.elim
    | panic c=>exact hq3.elim
    | outgrown=>exact hq3.elim
   | exit id=>exact hq.elim
   | goto t=>exact hq.elim
   | ret=>exact hq.elim
   | panic c=>exact hq.elim
   | outgrown=>exact hq.elim
 ·intro v w3 h
  rcases h with ⟨Mh,⟨M,_,h1⟩,h2,h3⟩ | ⟨h1,h2,h3⟩
  ·have hx4:=Ext.setB w3 (w.heap.size+1) (.loop { lo with state := .exhausted })
   exact ⟨lo,h2,by rw [hlo]; exact (fun h=>by cases h),Ld (by rw [hlo]) (hend M _ (hjs _ _ _ _ h1 (hx4.mono (by simp))) (hx4.to h3 (by simp)))⟩
  ·obtain ⟨lp,h2,h4,h5⟩:=h2
   have hx4:=Ext.setB w3 (w.heap.size+1) (.loop { lp with state := .exhausted })
   exact ⟨lp,h2,by rw [h4]; exact (fun h=>by cases h),MC h5 (hret _ (hes _ _ h1 (hx4.mono (by simp))) (hx4.to h3 (by simp)))⟩
end
end Go.GV

/- A region that draws its order, whose operations make new blocks, in whatever order; the last one waits for all. It holds for every program. -/
namespace Go.GV
open Go

section
variable {P:Program} {r:Option Nat} {ops:List Oper} {Q:Exit→Env→World→Prop}
def Qk (K:Env→World→Prop):Exit→Env→World→Prop
 | .normal,e,w=>K e w
 | _,_,_=>False
theorem Uk {K:Env→World→Prop} {o:Oper} {rest:List Oper} {e:Env} {w:World} (h:AL P r ops (Qk K) [o] e w) (hk:∀ e w,K e w→AL P r ops Q rest e w):AL P r ops Q (o::rest) e w:=by
 unfold AL at h ⊢
 by_cases hw:AX o ops e=true
 ·rw [if_pos hw] at h ⊢
  generalize (o.semAt r (ev e)).run P w=res at h ⊢
  match res,h with
  | .ok (.value v) w',h=>exact hk _ _ h
  | .ok .skip w',h=>exact hk _ _ h
  | .ok (.defer d) w',h=>exact hk _ _ h
  | .ok (.enter f args) w',h=>exact Ret.mono h fun v w'' hv=>hk _ _ hv
  | .ok (.round l f tmps assign body) w',h=>exact RoundIn.mono h fun x w'' ⟨v,hx,hv⟩=>⟨v,hx,hk _ _ hv⟩
  | .halt (.panic v) w',h=>exact h.elim
 ·rw [if_neg hw] at h ⊢
  exact hk _ _ h
theorem L6 {md:Region.Mode} {arr:Array Oper} {l:Array Bool} {i:Nat} (h:i∈Region.ready md arr l):(l.setIfInBounds i true).toList.count false+1=l.toList.count false:=by
 have h1:=(mem_ready.1 h).1
 have hi:i<l.size:=by
  rcases Nat.lt_or_ge i l.size with h | h
  ·exact h
  ·rw [Array.getD_eq_getD_getElem?,Array.getElem?_eq_none h] at h1; cases h1
 have hv:l.toList[i]'(by simpa using hi)=false:=by
  rw [Array.getD_eq_getD_getElem?,Array.getElem?_eq_getElem hi] at h1
  simpa using h1
 have hpos:0<l.toList.count false:=List.count_pos_iff.2 (by rw [← hv]; exact List.getElem_mem _)
 rw [Array.toList_setIfInBounds,List.count_set (by simpa using hi),hv,if_pos (by rfl),if_neg (by simp)]
 omega
theorem Vw {md:Region.Mode} {arr:Array Oper} {I:Array Bool→Env→World→Prop} (harr:arr.toList=ops)
  (hstep:∀ l e w i o,I l e w→i∈Region.ready md arr l→arr[i]? = some o→AL P r ops (Qk (I (l.setIfInBounds i true))) [o] e w)
  (hend:∀ l e w,I l e w→Region.ready md arr l=[]→Q .normal e w):∀ (f t:Nat) (l:Array Bool) (e:Env) (w:World),l.toList.count false≤f→I l e w→AL P r ops Q (C6 ops (Region.linearise.go md arr f t l [])) e w
 | 0,t,l,e,w,hc,h=>by
  refine hend l e w h ?_
  cases hr:Region.ready md arr l with
  | nil=>rfl
  | cons i rs =>
   have:=L6 (md:=md) (arr:=arr) (l:=l) (i:=i) (by rw [hr]; exact List.mem_cons_self ..)
   omega
 | f+1,t,l,e,w,hc,h=>by
  simp only [Region.linearise.go]
  change AL P r ops Q (C6 ops (match (Region.ready md arr l)[t % (Region.ready md arr l).length]? with
   | some i=>Region.linearise.go md arr f (t / (Region.ready md arr l).length) (l.setIfInBounds i true) [i]
   | none=>[].reverse)) e w
  cases hi:(Region.ready md arr l)[t % (Region.ready md arr l).length]? with
  | none =>
   refine hend l e w h ?_
   cases hr:Region.ready md arr l with
   | nil=>rfl
   | cons x xs =>
    rw [hr] at hi
    have hlt:t % (x::xs).length<(x::xs).length:=Nat.mod_lt _ (by simp)
    rw [List.getElem?_eq_getElem hlt] at hi
    cases hi
  | some i =>
   have hir:=List.mem_of_getElem? hi
   obtain ⟨_,o,ho,_⟩:=mem_ready.1 hir
   have hcount:=L6 hir
   have hol:ops[i]? = some o:=by rw [← harr,Array.getElem?_toList]; exact ho
   dsimp only
   rw [linearise_go_acc,List.reverse_singleton,List.singleton_append]
   simp only [C6,hol]
   exact Uk (hstep l e w i o h hir ho) fun e' w' h'=>Vw harr hstep hend f _ _ e' w' (by omega) h'
theorem YW {id n:Nat} {arr:Array Oper} {I:Array Bool→Env→World→Prop} {e:Env} {w:World} (hm:P.follows .mixedOrders=true) (h0:I (Array.replicate arr.size false) e w.drew)
  (hstep:∀ l e w i o,I l e w→i∈Region.ready .any arr l→arr[i]? = some o→AL P r arr.toList (Qk (I (l.setIfInBounds i true))) [o] e w)
  (hend:∀ l e w,I l e w→Region.ready .any arr l=[]→Q .normal e w):W P r n (.region id arr true) Q e w := .inl fun t=>by
 rw [hm]
 simp only [Region.schedule,Bool.true_or,if_true]
 exact Vw rfl hstep hend _ t _ e _ (by simp) h0

/-! ### New blocks, in whatever order -/
def Jc (B:Nat→Nat) (i b:Nat):Nat→Nat:=fun j=>if j=i then b else B j
theorem Le (B:Nat→Nat) (i b:Nat):Jc B i b i=b:=if_pos rfl
theorem FZ {B:Nat→Nat} {i b j:Nat} (h:j≠i):Jc B i b j=B j:=if_neg h
def Hx (arr:Array Oper) (i:Nat):List Nat:=match arr[i]? with | some o=>(o.after.toList.filter (Region.binds .any)).map (·.on) | none=>[]
/-- anc i: what comes ahead of i. -/
def Ul (arr:Array Oper) (anc:Nat→List Nat):Nat→Bool
 | 0=>true
 | n+1=>Ul arr anc n && ((anc n).all (fun k=>(Hx arr n).contains k || (Hx arr n).any fun j=>(anc j).contains k) && (Hx arr n).all fun j=>Nat.blt j n)
theorem J2 {arr:Array Oper} {anc:Nat→List Nat}:∀ {n:Nat},Ul arr anc n=true→∀ i,i<n→(∀ k∈anc i,k∈Hx arr i∨∃ j∈Hx arr i,k∈anc j)∧∀ j∈Hx arr i,j<i
 | n+1,h,i,hi=>by
  simp only [Ul,Bool.and_eq_true] at h
  by_cases e:i=n
  ·subst e
   refine ⟨fun k hk=>?_,fun j hj=>?_⟩
   ·have:=List.all_eq_true.1 h.2.1 k hk
    rw [Bool.or_eq_true,List.any_eq_true] at this
    exact this.imp List.contains_iff_mem.1 fun ⟨j,h1,h2⟩=>⟨j,h1,List.contains_iff_mem.1 h2⟩
   ·have:=List.all_eq_true.1 h.2.2 j hj
    simpa [Nat.blt_eq] using this
  ·exact J2 h.1 i (by omega)
theorem Kx {arr:Array Oper} {anc:Nat→List Nat} {n:Nat} (h:Ul arr anc n=true):∀ i,i<n→∀ j∈anc i,j<i:=fun i=>by
 induction i using Nat.strongRecOn with
 | _ i ih =>
  intro hi j hj
  obtain ⟨h1,h2⟩:=J2 h i hi
  rcases h1 j hj with h | ⟨k,hk,h⟩
  ·exact h2 j h
  ·have:=h2 k hk
   have:=ih k this (by omega) j h
   omega
theorem Iv {arr:Array Oper} {l:Array Bool} {i:Nat} (h:i∈Region.ready .any arr l):∀ j∈Hx arr i,l.getD j false=true:=fun j hj=>by
 obtain ⟨_,o,ho,hall⟩:=mem_ready.1 h
 unfold Hx at hj
 rw [ho] at hj
 obtain ⟨d,hd,rfl⟩:=List.mem_map.1 hj
 obtain ⟨hd1,hd2⟩:=List.mem_filter.1 hd
 exact hall d (Array.mem_toList_iff.1 hd1) hd2
theorem Qe {arr:Array Oper} {l:Array Bool} {i:Nat} (hi:i<arr.size) (hu:l.getD i true=false) (h:∀ j∈Hx arr i,l.getD j false=true):i∈Region.ready .any arr l:=by
 refine mem_ready.2 ⟨hu,arr[i],Array.getElem?_eq_getElem hi,fun d hd hb=>h d.on ?_⟩
 unfold Hx
 rw [Array.getElem?_eq_getElem hi]
 exact List.mem_map.2 ⟨d,List.mem_filter.2 ⟨Array.mem_toList_iff.2 hd,hb⟩,rfl⟩
/-- What is done. -/
structure AI (n:Nat) (anc:Nat→List Nat) (d:Nat→Tmp) (val:Nat→(Nat→Nat)→Value) (obj:Nat→Option ((Nat→Nat)→Obj)) (e0:Env) (w0:World) (l:Nat→Prop) (e:Env) (w:World) (B:Nat→Nat):Prop where
 ds:e.ds=e0.ds
 old:∀ s,(∀ i,i<n→s≠d i)→e.g s=e0.g s
 slot:∀ i,i<n→l i→e.g (d i)=val i B
 ext:Ext [] w0 w
 blk:∀ i ob,i<n→l i→obj i=some ob→w.heap[B i]? = some (ob B)∧w0.heap.size≤B i
 ne:∀ i j,i<n→j<n→i≠j→l i→l j→obj i≠none→obj j≠none→B i≠B j
 cl:∀ i,i<n→l i→∀ j∈anc i,l j
/-- What one operation makes. -/
def AQ (d:Nat→Tmp) (val:Nat→(Nat→Nat)→Value) (obj:Nat→Option ((Nat→Nat)→Obj)) (i:Nat) (e:Env) (w:World) (B:Nat→Nat) (e':Env) (w':World):Prop :=
 ∃ b,(∀ ob,obj i=some ob→w.heap.size≤b∧w'.heap[b]? = some (ob (Jc B i b)))∧Ext [] w w'∧e'=put e (some (d i)) (val i (Jc B i b))
theorem Qf (e:Env) (s:Tmp) (v:Value):(put e (some s) v).g s=v:=by simp [put]
theorem Ph {e:Env} {s t:Tmp} {v:Value} (h:t≠s):(put e (some s) v).g t=e.g t:=by
 cases hb:Nat.beq t s with
 | true=>exact absurd (Nat.eq_of_beq_eq_true hb) h
 | false=>simp [put,hb]
theorem AI.step {n:Nat} {anc:Nat→List Nat} {d:Nat→Tmp} {val:Nat→(Nat→Nat)→Value} {obj:Nat→Option ((Nat→Nat)→Obj)} {e0:Env} {w0:World} {l:Nat→Prop} {e:Env} {w:World} {B:Nat→Nat} (A:AI n anc d val obj e0 w0 l e w B)
  (hd:∀ i j,i<n→j<n→d i=d j→i=j) (hst:∀ i k b B,i<n→k≠i→k∉anc i→val i (Jc B k b)=val i B∧∀ ob,obj i=some ob→ob (Jc B k b)=ob B)
  {i:Nat} (hi:i<n) (hu:¬ l i) (hanc:∀ j∈anc i,l j) {e':Env} {w':World} (h:AQ d val obj i e w B e' w'):∃ B',AI n anc d val obj e0 w0 (fun j=>j=i∨l j) e' w' B':=by
 obtain ⟨b,hob,hx,rfl⟩:=h
 have hsz:=A.ext.size
 have hni:∀ j,l j→j≠i:=fun j hj h=>hu (h ▸ hj)
 have hna:∀ j,j<n→l j→i∉anc j:=fun j hj hl h=>hu (A.cl j hj hl i h)
 refine ⟨Jc B i b,A.ds,fun s hs=>?_,fun j hj hl=>?_,A.ext.trans hx,fun j ob hj hl ho=>?_,fun j k hj hk hjk hlj hlk oj ok=>?_,fun j hj hl k hk=>?_⟩
 ·rw [Ph (hs i hi)]; exact A.old s hs
 ·rcases hl with rfl | hl
  ·exact Qf _ _ _
  ·rw [Ph fun h=>hni j hl (hd _ _ hj hi h),A.slot j hj hl,(hst j i b B hj (Ne.symm (hni j hl)) (hna j hj hl)).1]
 ·rcases hl with rfl | hl
  ·obtain ⟨h1,h2⟩:=hob ob ho
   rw [Le]
   exact ⟨h2,by omega⟩
  ·obtain ⟨h1,h2⟩:=A.blk j ob hj hl ho
   rw [FZ (hni j hl),(hst j i b B hj (Ne.symm (hni j hl)) (hna j hj hl)).2 ob ho]
   exact ⟨hx.to h1 (by simp),h2⟩
 ·have hlt:∀ m,m<n→l m→obj m≠none→∀ ob,obj i=some ob→B m<b:=fun m hm hl om ob ho=>by
   cases hom:obj m with
   | none=>exact absurd hom om
   | some o2 =>
    have:=Bp (A.blk m o2 hm hl hom).1
    have:=(hob ob ho).1
    omega
  rcases hlj with rfl | hlj
  ·rcases hlk with rfl | hlk
   ·exact absurd rfl hjk
   ·rw [Le,FZ (hni k hlk)]
    cases hoj:obj j with
    | none=>exact absurd hoj oj
    | some o2=>have:=hlt k hk hlk ok o2 hoj; omega
  ·rcases hlk with rfl | hlk
   ·rw [Le,FZ (hni j hlj)]
    cases hok:obj k with
    | none=>exact absurd hok ok
    | some o2=>have:=hlt j hj hlj oj o2 hok; omega
   ·rw [FZ (hni j hlj),FZ (hni k hlk)]
    exact A.ne j k hj hk hjk hlj hlk oj ok
 ·rcases hl with rfl | hl
  ·exact .inr (hanc k hk)
  ·exact .inr (A.cl j hj hl k hk)
theorem Vx {id m n:Nat} {arr:Array Oper} {anc:Nat→List Nat} (d:Nat→Tmp) (val:Nat→(Nat→Nat)→Value) (obj:Nat→Option ((Nat→Nat)→Obj)) {e:Env} {w:World} (hm:P.follows .mixedOrders=true) (hsz:arr.size=n+1) (hanc:Ul arr anc (n+1)=true)
  (hlast:∀ k,k<n→k∈anc n) (hd:∀ i j,i<n→j<n→d i=d j→i=j) (hst:∀ i k b B,i<n→k≠i→k∉anc i→val i (Jc B k b)=val i B∧∀ ob,obj i=some ob→ob (Jc B k b)=ob B)
  (hop:∀ i o e' w' B,i<n→arr[i]? = some o→(∀ s,(∀ j,j<n→s≠d j)→e'.g s=e.g s)→(∀ j∈anc i,e'.g (d j)=val j B)→Ext [] w.drew w'→(∀ j∈anc i,∀ ob,obj j=some ob→w'.heap[B j]? = some (ob B))→AL P r arr.toList (Qk (AQ d val obj i e' w' B)) [o] e' w')
  (hfin:∀ o e' w' B,arr[n]? = some o→AI n anc d val obj e w.drew (fun _=>True) e' w' B→AL P r arr.toList (Qk fun e'' w''=>Q .normal e'' w'') [o] e' w'):W P r m (.region id arr true) Q e w:=by
 have hspec:=J2 hanc
 have hall:∀ {l:Array Bool},(∀ i,i<n→l.getD i false=true→∀ j∈anc i,l.getD j false=true)→∀ i,i<n+1→i∈Region.ready .any arr l→∀ k∈anc i,l.getD k false=true:=fun {l} hcl i hi hr k hk=>by
  rcases (hspec i hi).1 k hk with h | ⟨j,h1,h2⟩
  ·exact Iv hr k h
  ·exact hcl j (by have:=(hspec i hi).2 j h1; omega) (Iv hr j h1) k h2
 have hset:∀ {l:Array Bool} {i:Nat},l.size=n+1→i<n+1→∀ j,((l.setIfInBounds i true).getD j false=true)=(j=i∨l.getD j false=true):=fun {l i} hl hi j=>by
  apply propext
  by_cases e:j=i
  ·subst e
   rw [Array.getD_eq_getD_getElem?,Array.getElem?_setIfInBounds_self_of_lt (by omega)]
   simp
  ·rw [Array.getD_eq_getD_getElem?,Array.getElem?_setIfInBounds_ne (Ne.symm e),← Array.getD_eq_getD_getElem?]
   simp [e]
 refine YW (I:=fun l e' w'=>l.size=n+1∧((l.getD n false=false∧∃ B,AI n anc d val obj e w.drew (fun i=>l.getD i false=true) e' w' B)∨((∀ i,i<n+1→l.getD i false=true)∧Q .normal e' w'))) hm ?_ ?_ ?_
 ·refine ⟨by simp [hsz],.inl ⟨by simp [Array.getD_eq_getD_getElem?,hsz],fun _=>0,rfl,fun _ _=>rfl,fun i _ h=>?_,.refl _ _,fun i _ _ h=>?_,fun i j _ _ _ h=>?_,fun i _ h=>?_⟩⟩ <;>
   (exfalso; rw [getD_replicate_false] at h; cases h)
 ·rintro l e' w' i o ⟨hls,h⟩ hr ho
  have hi:i<n+1:=by have:=(Array.getElem?_eq_some_iff.1 ho).1; omega
  have hun:¬ l.getD i false=true:=fun h=>by
   have h1:=(mem_ready.1 hr).1
   rw [Array.getD_eq_getD_getElem?,Array.getElem?_eq_getElem (by omega)] at h h1
   simp at h h1
   rw [h] at h1; cases h1
  rcases h with ⟨hn,B,A⟩ | ⟨hn,_⟩
  ·have ha:=hall A.cl i hi hr
   by_cases e1:i=n
   ·subst e1
    refine CX ?_ _ _ _ (hfin o e' w' B ho ⟨A.ds,A.old,fun j hj _=>A.slot j hj (ha j (hlast j hj)),A.ext,fun j ob hj _=>A.blk j ob hj (ha j (hlast j hj)),fun j k hj hk hjk _ _=>A.ne j k hj hk hjk (ha j (hlast j hj)) (ha k (hlast k hk)),fun _ _ _ _ _=>trivial⟩)
    intro x e2 w2 hq
    cases x with
    | normal=>exact ⟨by simp [hls],.inr ⟨fun j hj=>by
      rw [hset hls hi]
      by_cases hji:j=i
      ·exact .inl hji
      ·exact .inr (ha j (hlast j (by omega))),hq⟩⟩
    | exit id=>exact hq.elim
    | goto l=>exact hq.elim
    | ret=>exact hq.elim
    | panic c=>exact hq.elim
    | outgrown=>exact hq.elim
   ·have hin:i<n:=by omega
    refine CX ?_ _ _ _ (hop i o e' w' B hin ho A.old (fun j hj=>?_) A.ext fun j hj ob hob=>?_)
    ·intro x e2 w2 hq
     cases x with
     | normal =>
      obtain ⟨B',A'⟩:=A.step hd hst hin hun ha hq
      refine ⟨by simp [hls],.inl ⟨?_,B',?_⟩⟩
      ·cases hc:(l.setIfInBounds i true).getD n false with
       | false=>rfl
       | true =>
        rw [hset hls hi] at hc
        rcases hc with h | h
        ·exact absurd h.symm e1
        ·rw [hn] at h; cases h
      ·have hf:(fun j=>(l.setIfInBounds i true).getD j false=true)=fun j=>j=i∨l.getD j false=true:=funext fun j=>hset hls hi j
       rw [hf]; exact A'
     | exit id=>exact hq.elim
     | goto l=>exact hq.elim
     | ret=>exact hq.elim
     | panic c=>exact hq.elim
     | outgrown=>exact hq.elim
    ·exact A.slot j (Nat.lt_trans (by
      rcases (hspec i hi).1 j hj with h | ⟨k,h1,h2⟩
      ·exact (hspec i hi).2 j h
      ·have h3:=(hspec i hi).2 k h1
       exact Nat.lt_of_lt_of_le (show j<k from Kx hanc k (by omega) j h2) (by omega)) hin) (ha j hj)
    ·exact (A.blk j ob (Nat.lt_trans (Kx hanc i hi j hj) hin) (ha j hj) hob).1
  ·exact absurd (hn i hi) hun
 ·rintro l e' w' ⟨hls,h⟩ hr
  rcases h with ⟨hn,B,A⟩ | ⟨_,h⟩
  ·exfalso
   have hal:∀ i,i<n+1→l.getD i false=true:=fun i=>by
    induction i using Nat.strongRecOn with
    | _ i ih =>
     intro hi
     cases hc:l.getD i false with
     | true=>rfl
     | false =>
      have hu:l.getD i true=false:=by
       rw [Array.getD_eq_getD_getElem?,Array.getElem?_eq_getElem (by omega)] at hc ⊢
       simpa using hc
      have:=Qe (arr:=arr) (l:=l) (i:=i) (by omega) hu fun j hj=>ih j ((hspec i hi).2 j hj) (by have:=(hspec i hi).2 j hj; omega)
      rw [hr] at this
      cases this
   rw [hal n (by omega)] at hn
   cases hn
  ·exact h
end
end Go.GV

/- The same, of new blocks with what else is to be remembered of them (a capacity, what lies in it). It holds for every program. -/
namespace Go.GV
open Go

section
variable {P:Program} {r:Option Nat} {ops:List Oper} {Q:Exit→Env→World→Prop}
def Jd {β:Type} (B:Nat→β) (i:Nat) (b:β):Nat→β:=fun j=>if j=i then b else B j
theorem HK {β:Type} (B:Nat→β) (i:Nat) (b:β):Jd B i b i=b:=if_pos rfl
theorem Iw {β:Type} {B:Nat→β} {i:Nat} {b:β} {j:Nat} (h:j≠i):Jd B i b j=B j:=if_neg h
/-- What is done. -/
structure AIB {β:Type} (bk:β→Nat) (good:Nat→β→Prop) (n:Nat) (anc:Nat→List Nat) (d:Nat→Tmp) (val:Nat→(Nat→β)→Value) (obj:Nat→Option ((Nat→β)→Obj)) (e0:Env) (w0:World) (l:Nat→Prop) (e:Env) (w:World) (B:Nat→β):Prop where
 ds:e.ds=e0.ds
 old:∀ s,(∀ i,i<n→s≠d i)→e.g s=e0.g s
 slot:∀ i,i<n→l i→e.g (d i)=val i B
 ext:Ext [] w0 w
 blk:∀ i ob,i<n→l i→obj i=some ob→w.heap[bk (B i)]? = some (ob B)∧w0.heap.size≤bk (B i)
 ne:∀ i j,i<n→j<n→i≠j→l i→l j→obj i≠none→obj j≠none→bk (B i)≠bk (B j)
 good:∀ i,i<n→l i→good i (B i)
 cl:∀ i,i<n→l i→∀ j∈anc i,l j
/-- What one operation makes. -/
def AQB {β:Type} (bk:β→Nat) (good:Nat→β→Prop) (d:Nat→Tmp) (val:Nat→(Nat→β)→Value) (obj:Nat→Option ((Nat→β)→Obj)) (i:Nat) (e:Env) (w:World) (B:Nat→β) (e':Env) (w':World):Prop :=
 ∃ b,good i b∧(∀ ob,obj i=some ob→w.heap.size≤bk b∧w'.heap[bk b]? = some (ob (Jd B i b)))∧Ext [] w w'∧e'=put e (some (d i)) (val i (Jd B i b))
theorem AIB.step {β:Type} {bk:β→Nat} {good:Nat→β→Prop} {n:Nat} {anc:Nat→List Nat} {d:Nat→Tmp} {val:Nat→(Nat→β)→Value} {obj:Nat→Option ((Nat→β)→Obj)} {e0:Env} {w0:World} {l:Nat→Prop} {e:Env} {w:World} {B:Nat→β} (A:AIB bk good n anc d val obj e0 w0 l e w B)
  (hd:∀ i j,i<n→j<n→d i=d j→i=j) (hst:∀ i k b B,i<n→k≠i→k∉anc i→val i (Jd B k b)=val i B∧∀ ob,obj i=some ob→ob (Jd B k b)=ob B)
  {i:Nat} (hi:i<n) (hu:¬ l i) (hanc:∀ j∈anc i,l j) {e':Env} {w':World} (h:AQB bk good d val obj i e w B e' w'):∃ B',AIB bk good n anc d val obj e0 w0 (fun j=>j=i∨l j) e' w' B':=by
 obtain ⟨b,hgd,hob,hx,rfl⟩:=h
 have hsz:=A.ext.size
 have hni:∀ j,l j→j≠i:=fun j hj h=>hu (h ▸ hj)
 have hna:∀ j,j<n→l j→i∉anc j:=fun j hj hl h=>hu (A.cl j hj hl i h)
 refine ⟨Jd B i b,A.ds,fun s hs=>?_,fun j hj hl=>?_,A.ext.trans hx,fun j ob hj hl ho=>?_,fun j k hj hk hjk hlj hlk oj ok=>?_,fun j hj hl=>?_,fun j hj hl k hk=>?_⟩
 ·rw [Ph (hs i hi)]; exact A.old s hs
 ·rcases hl with rfl | hl
  ·exact Qf _ _ _
  ·rw [Ph fun h=>hni j hl (hd _ _ hj hi h),A.slot j hj hl,(hst j i b B hj (Ne.symm (hni j hl)) (hna j hj hl)).1]
 ·rcases hl with rfl | hl
  ·obtain ⟨h1,h2⟩:=hob ob ho
   rw [HK]
   exact ⟨h2,by omega⟩
  ·obtain ⟨h1,h2⟩:=A.blk j ob hj hl ho
   rw [Iw (hni j hl),(hst j i b B hj (Ne.symm (hni j hl)) (hna j hj hl)).2 ob ho]
   exact ⟨hx.to h1 (by simp),h2⟩
 ·have hlt:∀ m,m<n→l m→obj m≠none→∀ ob,obj i=some ob→bk (B m)<bk b:=fun m hm hl om ob ho=>by
   cases hom:obj m with
   | none=>exact absurd hom om
   | some o2 =>
    have:=Bp (A.blk m o2 hm hl hom).1
    have:=(hob ob ho).1
    omega
  rcases hlj with rfl | hlj
  ·rcases hlk with rfl | hlk
   ·exact absurd rfl hjk
   ·rw [HK,Iw (hni k hlk)]
    cases hoj:obj j with
    | none=>exact absurd hoj oj
    | some o2=>have:=hlt k hk hlk ok o2 hoj; omega
  ·rcases hlk with rfl | hlk
   ·rw [HK,Iw (hni j hlj)]
    cases hok:obj k with
    | none=>exact absurd hok ok
    | some o2=>have:=hlt j hj hlj oj o2 hok; omega
   ·rw [Iw (hni j hlj),Iw (hni k hlk)]
    exact A.ne j k hj hk hjk hlj hlk oj ok
 ·rcases hl with rfl | hl
  ·rw [HK]; exact hgd
  ·rw [Iw (hni j hl)]; exact A.good j hj hl
 ·rcases hl with rfl | hl
  ·exact .inr (hanc k hk)
  ·exact .inr (A.cl j hj hl k hk)
theorem Um {β:Type} [Inhabited β] (bk:β→Nat) (good:Nat→β→Prop) {id m n:Nat} {arr:Array Oper} {anc:Nat→List Nat} (d:Nat→Tmp) (val:Nat→(Nat→β)→Value) (obj:Nat→Option ((Nat→β)→Obj)) {e:Env} {w:World} (hm:P.follows .mixedOrders=true) (hsz:arr.size=n+1) (hanc:Ul arr anc (n+1)=true)
  (hlast:∀ k,k<n→k∈anc n) (hd:∀ i j,i<n→j<n→d i=d j→i=j) (hst:∀ i k b B,i<n→k≠i→k∉anc i→val i (Jd B k b)=val i B∧∀ ob,obj i=some ob→ob (Jd B k b)=ob B)
  (hop:∀ i o e' w' B,i<n→arr[i]? = some o→(∀ s,(∀ j,j<n→s≠d j)→e'.g s=e.g s)→(∀ j∈anc i,e'.g (d j)=val j B)→Ext [] w.drew w'→(∀ j∈anc i,∀ ob,obj j=some ob→w'.heap[bk (B j)]? = some (ob B))→(∀ j∈anc i,good j (B j))→AL P r arr.toList (Qk (AQB bk good d val obj i e' w' B)) [o] e' w')
  (hfin:∀ o e' w' B,arr[n]? = some o→AIB bk good n anc d val obj e w.drew (fun _=>True) e' w' B→AL P r arr.toList (Qk fun e'' w''=>Q .normal e'' w'') [o] e' w'):W P r m (.region id arr true) Q e w:=by
 have hspec:=J2 hanc
 have hall:∀ {l:Array Bool},(∀ i,i<n→l.getD i false=true→∀ j∈anc i,l.getD j false=true)→∀ i,i<n+1→i∈Region.ready .any arr l→∀ k∈anc i,l.getD k false=true:=fun {l} hcl i hi hr k hk=>by
  rcases (hspec i hi).1 k hk with h | ⟨j,h1,h2⟩
  ·exact Iv hr k h
  ·exact hcl j (by have:=(hspec i hi).2 j h1; omega) (Iv hr j h1) k h2
 have hset:∀ {l:Array Bool} {i:Nat},l.size=n+1→i<n+1→∀ j,((l.setIfInBounds i true).getD j false=true)=(j=i∨l.getD j false=true):=fun {l i} hl hi j=>by
  apply propext
  by_cases e:j=i
  ·subst e
   rw [Array.getD_eq_getD_getElem?,Array.getElem?_setIfInBounds_self_of_lt (by omega)]
   simp
  ·rw [Array.getD_eq_getD_getElem?,Array.getElem?_setIfInBounds_ne (Ne.symm e),← Array.getD_eq_getD_getElem?]
   simp [e]
 refine YW (I:=fun l e' w'=>l.size=n+1∧((l.getD n false=false∧∃ B,AIB bk good n anc d val obj e w.drew (fun i=>l.getD i false=true) e' w' B)∨((∀ i,i<n+1→l.getD i false=true)∧Q .normal e' w'))) hm ?_ ?_ ?_
 ·refine ⟨by simp [hsz],.inl ⟨by simp [Array.getD_eq_getD_getElem?,hsz],fun _=>default,rfl,fun _ _=>rfl,fun i _ h=>?_,.refl _ _,fun i _ _ h=>?_,fun i j _ _ _ h=>?_,fun i _ h=>?_,fun i _ h=>?_⟩⟩ <;>
   (exfalso; rw [getD_replicate_false] at h; cases h)
 ·rintro l e' w' i o ⟨hls,h⟩ hr ho
  have hi:i<n+1:=by have:=(Array.getElem?_eq_some_iff.1 ho).1; omega
  have hun:¬ l.getD i false=true:=fun h=>by
   have h1:=(mem_ready.1 hr).1
   rw [Array.getD_eq_getD_getElem?,Array.getElem?_eq_getElem (by omega)] at h h1
   simp at h h1
   rw [h] at h1; cases h1
  rcases h with ⟨hn,B,A⟩ | ⟨hn,_⟩
  ·have ha:=hall A.cl i hi hr
   by_cases e1:i=n
   ·subst e1
    refine CX ?_ _ _ _ (hfin o e' w' B ho ⟨A.ds,A.old,fun j hj _=>A.slot j hj (ha j (hlast j hj)),A.ext,fun j ob hj _=>A.blk j ob hj (ha j (hlast j hj)),fun j k hj hk hjk _ _=>A.ne j k hj hk hjk (ha j (hlast j hj)) (ha k (hlast k hk)),fun j hj _=>A.good j hj (ha j (hlast j hj)),fun _ _ _ _ _=>trivial⟩)
    intro x e2 w2 hq
    cases x with
    | normal=>exact ⟨by simp [hls],.inr ⟨fun j hj=>by
      rw [hset hls hi]
      by_cases hji:j=i
      ·exact .inl hji
      ·exact .inr (ha j (hlast j (by omega))),hq⟩⟩
    | exit id=>exact hq.elim
    | goto l=>exact hq.elim
    | ret=>exact hq.elim
    | panic c=>exact hq.elim
    | outgrown=>exact hq.elim
   ·have hin:i<n:=by omega
    refine CX ?_ _ _ _ (hop i o e' w' B hin ho A.old (fun j hj=>?_) A.ext (fun j hj ob hob=>?_) fun j hj=>A.good j (Nat.lt_trans (Kx hanc i hi j hj) hin) (ha j hj))
    ·intro x e2 w2 hq
     cases x with
     | normal =>
      obtain ⟨B',A'⟩:=A.step hd hst hin hun ha hq
      refine ⟨by simp [hls],.inl ⟨?_,B',?_⟩⟩
      ·cases hc:(l.setIfInBounds i true).getD n false with
       | false=>rfl
       | true =>
        rw [hset hls hi] at hc
        rcases hc with h | h
        ·exact absurd h.symm e1
        ·rw [hn] at h; cases h
      ·have hf:(fun j=>(l.setIfInBounds i true).getD j false=true)=fun j=>j=i∨l.getD j false=true:=funext fun j=>hset hls hi j
       rw [hf]; exact A'
     | exit id=>exact hq.elim
     | goto l=>exact hq.elim
     | ret=>exact hq.elim
     | panic c=>exact hq.elim
     | outgrown=>exact hq.elim
    ·exact A.slot j (Nat.lt_trans (by
      rcases (hspec i hi).1 j hj with h | ⟨k,h1,h2⟩
      ·exact (hspec i hi).2 j h
      ·have h3:=(hspec i hi).2 k h1
       exact Nat.lt_of_lt_of_le (show j<k from Kx hanc k (by omega) j h2) (by omega)) hin) (ha j hj)
    ·exact (A.blk j ob (Nat.lt_trans (Kx hanc i hi j hj) hin) (ha j hj) hob).1
  ·exact absurd (hn i hi) hun
 ·rintro l e' w' ⟨hls,h⟩ hr
  rcases h with ⟨hn,B,A⟩ | ⟨_,h⟩
  ·exfalso
   have hal:∀ i,i<n+1→l.getD i false=true:=fun i=>by
    induction i using Nat.strongRecOn with
    | _ i ih =>
     intro hi
     cases hc:l.getD i false with
     | true=>rfl
     | false =>
      have hu:l.getD i true=false:=by
       rw [Array.getD_eq_getD_getElem?,Array.getElem?_eq_getElem (by omega)] at hc ⊢
       simpa using hc
      have:=Qe (arr:=arr) (l:=l) (i:=i) (by omega) hu fun j hj=>ih j ((hspec i hi).2 j hj) (by have:=(hspec i hi).2 j hj; omega)
      rw [hr] at this
      cases this
   rw [hal n (by omega)] at hn
   cases hn
  ·exact h
end
end Go.GV

/- append onto slices without room. It holds for every program. -/
namespace Go.GV
open Go

section
variable {P:Program} {r:Option Nat} {ops rest:List Oper} {Q:Exit→Env→World→Prop} {e:Env} {w w0:World} {S:List Nat} {L:List (Nat × Obj)}
 {dst:Option Tmp} {ty:TypeId} {pos:String} {af:Array Edge} {g:Option (Nat × Bool)}
/-- append onto a slice without room: a new block. -/
theorem Qg {t t2 el el2 ty:TypeId} {s by':Nat} {zl:List Value} (hu:CR P t=some el) (hu2:CR P t2=some el2) (hs:Cz P el=some s) (hby:Eg P el=some by') (hz:C2 P el=some zl) (hzl:zl.length=s) (hpos:0<by')
  {a a2:Option Addr} {m c2:Nat} {new:List Value} (hm:0<m) (hn:new.length=m*s) (hc:∀ j v,new[j]? = some v→∃ p,a2=some p∧w.cell? (p.add j)=some v) (hbound:(2*m+768)*by'≤281474976710656) :
  ∃ cap full',(Builtin.append_ #[t,t2] ty #[.slice a 0 0,.slice a2 m c2]).run P w = .ok (.slice (some ⟨w.heap.size,0,none⟩) m cap) (w.drew.alloc (Bl el full'))∧OS (some ⟨w.heap.size,0,none⟩) m cap s full' new:=by
 have hfit':0<0+m:=by omega
 have hncap:=JZ (0+m) 0 hfit'
 have hbig:Builtin.nextslicecap (0+m) 0*by'≤(2*(0+m)+768)*by':=Nat.mul_le_mul_right _ hncap
 rw [Nat.zero_add] at hbig
 have hnm:m≤281474976710656:=by
  have h1:(2*m+768)*1≤(2*m+768)*by':=Nat.mul_le_mul_left _ hpos
  omega
 generalize hq:(Question.appendCap m 0 el).cut (w.tape w.drawn (Question.appendCap m 0 el))=cap
 have hcap:m≤cap:=by rw [← hq]; unfold Question.cut; exact Nat.le_add_right _ _
 obtain ⟨zv,hzr,hzc⟩:=Gc (P:=P) hz w.drew
 have hzs:zv.cells.size=s:=by rw [← hzl,← hzc]; simp
 let full':=new++(Builtin.zeroCells zv.cells (cap - m)).toList
 refine ⟨cap,full',?_,⟨(fun q hq=>by injection hq with hq; subst hq; rfl),(fun h=>by cases h),?_,hcap,?_⟩⟩
 ·have hforced:(Question.appendCap m 0 el).forced=false:=rfl
  have hby2:∃ i,P.info? el=some i∧i.bytes=by':=by
   unfold Eg at hby
   cases hi:P.info? el with
   | none=>rw [hi] at hby; cases hby
   | some i=>rw [hi] at hby; simp at hby; exact ⟨i,rfl,hby⟩
  obtain ⟨i,hi,hib⟩:=hby2
  have hti:∀ w,(typeInfo el).run P w = .ok i w:=fun w=>by simp [typeInfo,program,Sem.run,hi]
  have hold':(Builtin.firstCells s 0 (.slice a 0 0)).run P w.drew = .ok #[] w.drew:=Dm (l:=[]) (by simp) (fun j v hv=>by simp at hv)
  have hfc':(Builtin.firstCells s m (.slice a2 m c2)).run P w.drew = .ok new.toArray w.drew:=Dm hn hc
  have hroom:∀ k w,(askRoom k).run P w = .ok () w:=fun k w=>by unfold askRoom; split <;> rfl
  have hby0:¬ by'=0:=by omega
  have hm0:¬ m=0:=by omega
  have hb3:¬ 281474976710656<Builtin.nextslicecap m 0*by':=by omega
  have hnn:(Builtin.append_ #[t,t2] ty #[.slice a 0 0,.slice a2 m c2]).run P w = .ok (.slice (some ⟨w.drew.heap.size,0,none⟩) m cap) (w.drew.alloc (.cells (new.toArray++Builtin.zeroCells zv.cells (cap - m)) el)):=by
   simp [Builtin.append_,Bd (CG hu),Bd (CG hu2),CN hs,Builtin.lenOf,hfc',hold',hm0,hti,hib,hb3,hby0,hforced,hq,hroom,hzr,newRow,newObj,Sem.run]
  rw [hnn]
  have harr:new.toArray++Builtin.zeroCells zv.cells (cap - m)=full'.toArray:=by
   apply Array.ext'; simp [full']
  rw [harr]
  rfl
 ·show (new++(Builtin.zeroCells zv.cells (cap - m)).toList).length=cap*s
  rw [List.length_append,hn,Array.length_toList,FR,hzs,← Nat.add_mul]
  congr 1
  omega
 ·show (new++(Builtin.zeroCells zv.cells (cap - m)).toList).take (m*s)=new
  rw [List.take_left' hn]
theorem RS {t t2 el el2:TypeId} {x y:Operand} {s by':Nat} {zl:List Value} (hg:AX ⟨dst,.call ⟨.builtin .append,#[x,y],#[t,t2]⟩,ty,pos,af,g⟩ ops e=true)
  (hu:CR P t=some el) (hu2:CR P t2=some el2) (hs:Cz P el=some s) (hby:Eg P el=some by') (hz:C2 P el=some zl) (hzl:zl.length=s) (hpos:0<by')
  {a a2:Option Addr} {m c2:Nat} (new:List Value) (hx:ev e x = .slice a 0 0) (hy:ev e y = .slice a2 m c2) (hm:0<m) (hn:new.length=m*s) (hc:∀ j v,new[j]? = some v→∃ p,a2=some p∧w.cell? (p.add j)=some v) (hbound:(2*m+768)*by'≤281474976710656)
  (h:∀ b c' full' w',b=w.heap.size→Ext [] w w'→w'.heap[b]? = some (Bl el full')→OS (some ⟨b,0,none⟩) m c' s full' new→AL P r ops Q rest (put e dst (.slice (some ⟨b,0,none⟩) m c')) w') :
  AL P r ops Q (⟨dst,.call ⟨.builtin .append,#[x,y],#[t,t2]⟩,ty,pos,af,g⟩::rest) e w:=by
 obtain ⟨c',full',hr,O'⟩:=Qg (ty:=ty) hu hu2 hs hby hz hzl hpos hm hn hc hbound (c2:=c2) (a:=a)
 refine BH (w':=w.drew.alloc (Bl el full')) (v := .slice (some ⟨w.heap.size,0,none⟩) m c') hg rfl (by simp [execOp,resolve,invoke,builtin,hx,hy,hr]) (h _ c' full' _ rfl ((Ext.drew [] w).trans (Ext.alloc [] w.drew _)) ?_ O')
 exact World.alloc_heap_new w.drew _
theorem Qh {t t2 el el2:TypeId} {x y:Operand} {s:Nat} (hg:AX ⟨dst,.call ⟨.builtin .append,#[x,y],#[t,t2]⟩,ty,pos,af,g⟩ ops e=true)
  (hu:CR P t=some el) (hu2:CR P t2=some el2) (hs:Cz P el=some s) {b:Nat} {a2:Option Addr} {c2:Nat} (hx:ev e x = .slice (some ⟨b,0,none⟩) 0 0) (hy:ev e y = .slice a2 0 c2)
  (h:AL P r ops Q rest (put e dst (.slice (some ⟨b,0,none⟩) 0 0)) w) :
  AL P r ops Q (⟨dst,.call ⟨.builtin .append,#[x,y],#[t,t2]⟩,ty,pos,af,g⟩::rest) e w:=by
 have hfc:(Builtin.firstCells s 0 (.slice a2 0 c2)).run P w = .ok #[] w:=Dm (l:=[]) (by simp) (fun j v hv=>by simp at hv)
 exact BH hg rfl (by simp [execOp,resolve,invoke,builtin,hx,hy,Builtin.append_,Bd (CG hu),Bd (CG hu2),CN hs,Builtin.lenOf,hfc,storeCells]) h
end
end Go.GV

/- Ranges over a function that may choose what comes next: the same rule, with the states it may go through. It holds for every program. -/
namespace Go.GV
open Go

/-- The same, of an iterator that goes from state to state: what it yields, and what it leaves. -/
def Tn (P:Program) (gf:FuncId) (ca:Array Value) (Z:List Nat) (K:Mt→World→Prop) {σ:Type} (z0:σ) (St:σ→List Value→σ→Prop) (En:σ→Prop) (S0:World→Prop):Prop :=
 ∀ (l:Nat) (w:World),S0 w→∀ (J:σ→Mt→World→Prop) (E:World→Prop),(∃ M,J z0 M w)→(∀ i M w' w'' T,J i M w'→(∀ x∈T,¬ M x∧w.heap.size≤x)→Ext T w' w''→J i M w'')→(∀ w' w'',E w'→Ext Z w' w''→E w'')→(∀ i M w',J i M w'→(∀ x,M x→x<w'.heap.size)∧K M w') →
  (∀ i v i' M w',St i v i'→J i M w'→YieldAt P l v w' fun u w''=>(u = .bool true∧∃ M',J i' M' w''∧Grw M M' w' w'')∨(u = .bool false∧E w'')) →
  Ret P gf (#[.func (.yield l) #[] #[]]++ca) w fun _ w'=>(∃ i M,En i∧J i M w')∨E w'

section
variable {P:Program} {Q:Exit→Env→World→Prop} {e:Env} {w:World} {n:Nat}
/-- The statement. -/
theorem Vy {f:Operand} {ps:Array Tmp} {assign body:Code} {gf:Nat} {ca:Array Value} {Z:List Nat} {K:Mt→World→Prop} {σ:Type} {z0:σ} {St:σ→List Value→σ→Prop} {En:σ→Prop} {S0:World→Prop} (hf:ev e f = .func (.func gf) #[] ca) (hc:A4 P gf=true)
  (hI:Tn P gf ca Z K z0 St En S0) (hfit:(Hi n assign && Hi n body)=true) (hps:(ps.toList.all fun p=>decide (p<n))=true) (hlen:∀ i v i',St i v i'→v.length=ps.size)
  (J:σ→Mt→World→Prop) (E:World→Prop) (hZ:w.heap.size∉Z∧w.heap.size+1∉Z) (hS0:∀ w2,Ext [] w w2→S0 w2) (hj0:∀ w2,Ext [] w w2→w.heap.size+1<w2.heap.size→∃ M,J z0 M w2)
  (hjs:∀ i M w' w'' T,J i M w'→(∀ x∈T,¬ M x∧w.heap.size≤x)→Ext T w' w''→J i M w'') (hes:∀ w' w'',E w'→Ext (w.heap.size::(w.heap.size+1)::Z) w' w''→E w'')
  (hk:∀ i M w',J i M w'→(∀ x,M x→x<w'.heap.size∧x≠w.heap.size∧x≠w.heap.size+1)∧K (fun x=>x=w.heap.size+1∨M x) w')
  (hb:∀ i v i' M w',St i v i'→J i M w'→w.heap.size+1<w'.heap.size→W P (some (w.heap.size+1)) n assign (Pg P w.heap.size (w.heap.size+1) n body (J i') E M w') (MA ⟨e.g,[]⟩ (ps.toList.zip v)) w')
  (hend:∀ i M w4,En i→J i M w4→w4.heap[w.heap.size]? = some (.deferred (some []))→Q .normal ⟨e.g,{ target := .collected w.heap.size,args:=#[] }::e.ds⟩ w4)
  (hret:∀ w4,E w4→w4.heap[w.heap.size]? = some (.deferred (some []))→Q .ret ⟨e.g,{ target := .collected w.heap.size,args:=#[] }::e.ds⟩ w4):W P none n (.rangeFunc f ps assign body) Q e w:=by
 refine Jb hf hc ?_
 intro fn tmps hts htm D l w2 hDe hle hx2 hD hrec
 subst hDe hle
 obtain ⟨lo,hlo,hrec'⟩:∃ lo,lo=({ state := .ready,pending:=none,fn,tmps,params:=ps,assign,body,defers:=w.heap.size }:Loop)∧w2.heap[w.heap.size+1]? = some (.loop lo):=⟨_,rfl,hrec⟩
 have hsz2:=Bp hrec'
 have hne:w.heap.size≠w.heap.size+1:=by omega
 refine Ret.mono (hI (w.heap.size+1) w2 (hS0 w2 hx2) (fun i Mh w'=>(∃ M:Mt,(Mh=fun x=>x=w.heap.size+1∨M x)∧J i M w')∧w'.heap[w.heap.size+1]? = some (.loop lo)∧w'.heap[w.heap.size]? = some (.deferred (some []))) (fun w'=>E w'∧(∃ lp,w'.heap[w.heap.size+1]? = some (.loop lp)∧lp.state = .done∧lp.pending=some .ret)∧w'.heap[w.heap.size]? = some (.deferred (some [])))
  (let ⟨M,hM⟩:=hj0 w2 hx2 hsz2; ⟨_,⟨M,rfl,hM⟩,hrec',hD⟩) (fun i Mh w' w'' T h hT hx=>by
   obtain ⟨⟨M,rfl,hM⟩,h2,h3⟩:=h
   exact ⟨⟨M,rfl,hjs i M w' w'' T hM (fun x hx=>⟨fun h=>(hT x hx).1 (.inr h),by have:=(hT x hx).2; omega⟩) hx⟩,hx.to h2 (fun h=>(hT _ h).1 (.inl rfl)),hx.to h3 (fun h=>by have:=(hT _ h).2; omega)⟩)
  (fun w' w'' h hx=>⟨hes w' w'' h.1 (hx.mono fun x hx=>List.mem_cons_of_mem _ (List.mem_cons_of_mem _ hx)),let ⟨lp,h1,h2⟩:=h.2.1; ⟨lp,hx.to h1 hZ.2,h2⟩,hx.to h.2.2 hZ.1⟩) (fun i Mh w' h=>by
   obtain ⟨⟨M,rfl,hM⟩,hl,_⟩:=h
   exact ⟨fun x hx=>hx.elim (fun h=>by rw [h]; exact Bp hl) fun h=>((hk i M w' hM).1 x h).1,(hk i M w' hM).2⟩) ?_) ?_
 ·rintro i v i' Mh w' hx ⟨⟨M,rfl,hJ⟩,hl,hDw⟩
  have hsz:=Bp hl
  have hkM:=(hk i M w' hJ).1
  have hbody:=hb i v i' M w' hx hJ hsz
  have hlp:lo.params=ps:=by rw [hlo]
  have hla:lo.assign=assign:=by rw [hlo]
  have hlb:lo.body=body:=by rw [hlo]
  have hlt:lo.tmps=tmps:=by rw [hlo]
  have hls:lo.state = .ready:=by rw [hlo]
  have hpd:lo.pending=none:=by rw [hlo]
  refine M8 hl (by rw [hlp]; exact hlen i v i' hx) ?_
  rw [hlp,hla,hlb,hlt,MB]
  have hs0:Sim n (⟨e.g,[]⟩:Env) ({ tmps:=tmps,defers:=[] }:Act):=⟨rfl,hts,htm⟩
  refine Ka (MA ⟨e.g,[]⟩ (ps.toList.zip v)) (LV _ hs0 fun p hp=>?_) hfit ?_
  ·have h1:=List.all_eq_true.1 hps p.1 (List.of_mem_zip hp).1
   exact of_decide_eq_true h1
  ·refine Ek assign ?_ hbody
   intro x e1 w1 hq
   cases x with
   | normal =>
    obtain ⟨hS,hW⟩:=hq
    have hl1:=hS.to hl (by simp)
    have hD1:=hS.to hDw (by simp)
    have hxB:=Ext.setB w1 (w.heap.size+1) (.loop { lo with state := .busy })
    refine ⟨lo,hl1,hls,Ek body ?_ (hW _ hxB)⟩
    have hlB:(w1.putObj (w.heap.size+1) (.loop { lo with state := .busy })).heap[w.heap.size+1]? = some (.loop { lo with state := .busy }):=Em hl1
    have hDB:(w1.putObj (w.heap.size+1) (.loop { lo with state := .busy })).heap[w.heap.size]? = some (.deferred (some [])):=hxB.to hD1 (by simp)
    intro y e3 w3 hq3
    cases y with
    | normal =>
     obtain ⟨M',hJ3,hM',S3,hS3,hin⟩:=hq3
     have hlS3:w.heap.size+1∉S3:=fun h=>by
      rcases hin _ h with h | h
      ·exact (hkM _ h).2.2 rfl
      ·omega
     have hDS3:w.heap.size∉S3:=fun h=>by
      rcases hin _ h with h | h
      ·exact (hkM _ h).2.1 rfl
      ·omega
     have hl3:=hS3.to hlB hlS3
     have hD3:=hS3.to hDB hDS3
     have hx4:=Ext.setB w3 (w.heap.size+1) (.loop { ({ lo with state := .busy }:Loop) with state := .ready,pending:=none })
     refine ⟨_,hl3,.inl ⟨rfl,fun x=>x=w.heap.size+1∨M' x,⟨⟨M',rfl,hjs _ _ _ _ [w.heap.size+1] hJ3 (fun x hx=>by rw [List.mem_singleton] at hx; subst hx; exact ⟨fun h=>(hM' _ h).elim (fun h=>(hkM _ h).2.2 rfl) (fun h=>by omega),by omega⟩) hx4⟩,?_,hx4.to hD3 (by simp)⟩,⟨⟨(w.heap.size+1)::S3,fun x hx=>?_,?_⟩,fun x hx=>?_⟩⟩⟩
     ·rw [Em hl3]
      congr 2
      cases lo
      simp_all
     ·rcases List.mem_cons.1 hx with h | h
      ·exact .inl (.inl h)
      ·exact (hin x h).imp .inr id
     ·exact (((hS.mono (by simp)).trans (hxB.mono (by simp))).trans (hS3.mono fun x h=>List.mem_cons_of_mem _ h)).trans (hx4.mono (by simp))
     ·rcases hx with h | h
      ·exact .inl (.inl h)
      ·exact (hM' x h).imp .inr id
    | ret =>
     obtain ⟨hE3,S3,hS3,hDS3,hlS3⟩:=hq3
     have hl3:=hS3.to hlB hlS3
     have hD3:=hS3.to hDB hDS3
     have hx4:=Ext.setB w3 (w.heap.size+1) (.loop { ({ lo with state := .busy }:Loop) with state := .done,pending:=some .ret })
     exact ⟨_,hl3,.inr ⟨rfl,hes _ _ hE3 (hx4.mono (by simp)),⟨_,Em hl3,rfl,rfl⟩,hx4.to hD3 (by simp)⟩⟩
    | exit id=>exact hq3.elim
    | goto t=>exact hq3.elim
    | panic c=>exact hq3.elim
    | outgrown=>exact hq3.elim
   | exit id=>exact hq.elim
   | goto t=>exact hq.elim
   | ret=>exact hq.elim
   | panic c=>exact hq.elim
   | outgrown=>exact hq.elim
 ·intro v w3 h
  rcases h with ⟨i,Mh,hE,⟨M,_,h1⟩,h2,h3⟩ | ⟨h1,h2,h3⟩
  ·have hx4:=Ext.setB w3 (w.heap.size+1) (.loop { lo with state := .exhausted })
   exact ⟨lo,h2,by rw [hlo]; exact (fun h=>by cases h),Ld (by rw [hlo]) (hend i M _ hE (hjs _ _ _ _ [w.heap.size+1] h1 (fun x hx=>by rw [List.mem_singleton] at hx; subst hx; exact ⟨fun h=>((hk i M w3 h1).1 _ h).2.2 rfl,by omega⟩) hx4) (hx4.to h3 (by simp)))⟩
  ·obtain ⟨lp,h2,h4,h5⟩:=h2
   have hx4:=Ext.setB w3 (w.heap.size+1) (.loop { lp with state := .exhausted })
   exact ⟨lp,h2,by rw [h4]; exact (fun h=>by cases h),MC h5 (hret _ (hes _ _ h1 (hx4.mono (by simp))) (hx4.to h3 (by simp)))⟩
end
end Go.GV

/- Ranges over maps whose keys are integers; delete; entries. It holds for every program. -/
namespace Go.GV
open Go

theorem Vz {α:Type} {l:List α} {i:Nat} {x:α} (h:l[i]? = some x):l.set i x=l:=by
 apply List.ext_getElem?
 intro j
 rw [List.getElem?_set]
 split
 ·rename_i e; subst e
  rw [if_pos (List.getElem?_eq_some_iff.1 h).1,h]
 ·rfl
def kvE (e:MapEntry):Value × Value:=(e.key,e.val)
def kvP (kk:IntKind) (p:Int × Value):Value × Value:=(.int kk p.1,p.2)
def kvD:Value × Value→Int × Value
 | (.int _ n,v)=>(n,v)
 | (_,v)=>(0,v)
theorem To (kk:IntKind) (m:List (Int × Value)):(m.map (kvP kk)).map kvD=m:=by
 rw [List.map_map]; exact List.map_id'' (fun _=>rfl) m
/-- An iterator over the map at block b, which reads as m: vis have come out. -/
def VisO (kk:IntKind) (b:Nat) (m vis:List (Int × Value)) (o it:Obj):Prop :=
 ∃ (es:Array MapEntry) (clock:Nat) (ves rest:List MapEntry),o = .map es clock∧es.toList.map kvE=m.map (kvP kk)∧(∀ e∈es.toList,e.born<clock)∧(es.toList.map (·.born)).Nodup ∧
  it = .mapIter (some b) clock (ves.map (·.born)).toArray clock∧(ves++rest).Perm es.toList∧ves.map kvE=vis.map (kvP kk)
theorem VisO.perm {kk:IntKind} {b:Nat} {m vis:List (Int × Value)} {o it:Obj} (h:VisO kk b m vis o it):∃ res,(vis++res).Perm m:=by
 obtain ⟨es,clock,ves,rest,_,hes,_,_,_,hp,hv⟩:=h
 have h1:=(hp.map kvE).map kvD
 rw [List.map_append,List.map_append,hv,To,hes,To] at h1
 exact ⟨_,h1⟩
theorem VisO.le {kk:IntKind} {b:Nat} {m vis:List (Int × Value)} {o it:Obj} (h:VisO kk b m vis o it):vis.length≤m.length:=by
 obtain ⟨res,h⟩:=h.perm
 have:=h.length_eq
 rw [List.length_append] at this
 omega
theorem VisO.mem {kk:IntKind} {b:Nat} {m vis:List (Int × Value)} {o it:Obj} (h:VisO kk b m vis o it):∀ p∈vis,p∈m:=fun p hp=>by
 obtain ⟨res,h⟩:=h.perm
 exact h.mem_iff.1 (List.mem_append_left _ hp)

section
variable {P:Program} {r:Option Nat} {ops rest:List Oper} {Q:Exit→Env→World→Prop} {e:Env} {w w0:World} {S:List Nat} {L:List (Nat × Obj)}
 {dst dst2:Option Tmp} {ty ty2:TypeId} {pos pos2:String} {af af2:Array Edge} {g g2:Option (Nat × Bool)}

theorem Qi {t k el:TypeId} {kk:IntKind} {x:Operand} {b:Nat} {o:Obj} {m:List (Int × Value)} (hg:AX ⟨dst,.range t x,ty,pos,af,g⟩ ops e=true)
  (ht:Kr P t=some (k,el)) (hx:ev e x = .map (some b)) (H:Ctx w0 S w L) (hm:w.heap[b]? = some o) (hM:D8 kk m o)
  (h:∀ bi it w',VisO kk b m [] o it→Ctx w0 S w' ((bi,it)::L)→AL P r ops Q rest (put e dst (.pointer (some ⟨bi,0,none⟩))) w') :
  AL P r ops Q (⟨dst,.range t x,ty,pos,af,g⟩::rest) e w:=by
 obtain ⟨es,clock,rfl,hes,hb,hn⟩:=hM
 have hgo:(getObj b).run P w = .ok (.map es clock) w:=by simp [getObj,Sem.run,hm]
 refine BH (w':=w.alloc (.mapIter (some b) clock #[] clock)) (v := .pointer (some ⟨w.heap.size,0,none⟩)) hg rfl ?_ (h _ _ _ ⟨es,clock,[],es.toList,rfl,hes,hb,hn,rfl,List.Perm.refl _,rfl⟩ (H.alloc _))
 simp [execOp,Instr.range,Bd (GH ht),hx,hgo,newObj,Sem.run]

theorem V0 {es:List MapEntry} {ves rest:List MapEntry} {x:MapEntry} (hp:(ves++rest).Perm es) (hx:x∈es) (hn:x∉ves):∃ res,((ves++[x])++res).Perm es:=by
 have h1:x∈rest:=(List.mem_append.1 (hp.mem_iff.2 hx)).resolve_left hn
 obtain ⟨l1,l2,rfl⟩:=List.append_of_mem h1
 refine ⟨l1++l2,List.Perm.trans ?_ hp⟩
 rw [List.append_assoc]
 exact List.Perm.append_left ves (show (x::(l1++l2)).Perm (l1++x::l2) from List.perm_middle.symm)

theorem Un {kk:IntKind} {b bi i:Nat} {o it:Obj} {m vis:List (Int × Value)} (ty:TypeId) (H:Ctx w0 S w L) (hm:w.heap[b]? = some o) (hi:L[i]? = some (bi,it)) (hV:VisO kk b m vis o it) :
  ∃ vs more it' w',(Instr.next (.pointer (some ⟨bi,0,none⟩)) false ty).run P w = .ok (.tuple vs) w'∧vs[0]? = some (.bool more)∧((more=false∧vis.Perm m∧it'=it)∨(more=true∧∃ p,VisO kk b m (vis++[p]) o it'))∧Ctx w0 S w' (L.set i (bi,it')):=by
 obtain ⟨es,clock,ves,rest,rfl,hes,hb,hn,rfl,hp,hv⟩:=hV
 rcases run_next_at (P:=P) w ty bi b clock clock (ves.map (·.born)).toArray es clock (H.get hi) (hm) hb (Nat.le_refl _) with ⟨h0,hr⟩ | ⟨x,hx,w1,hw1,hr⟩
 ·have hall:=all_seen es _ h0
  have hrest:rest=[]:=by
   cases rest with
   | nil=>rfl
   | cons x rest =>
    exfalso
    have hx:=hall x (hp.mem_iff.1 (List.mem_append_right _ (List.mem_cons_self ..)))
    have h2:=(hp.map (·.born)).nodup_iff.2 hn
    rw [List.map_append,List.nodup_append] at h2
    have hx2:x.born∈ves.map (·.born):=by
     rw [List.contains_toArray] at hx
     exact List.contains_iff_mem.1 hx
    exact h2.2.2 _ hx2 _ (List.mem_map_of_mem (List.mem_cons_self ..)) rfl
  subst hrest
  rw [List.append_nil] at hp
  have h1:=(hp.map kvE).map kvD
  rw [hv,To,hes,To] at h1
  refine ⟨_,false,_,w,hr,rfl,.inl ⟨rfl,h1,rfl⟩,?_⟩
  rw [Vz hi]
  exact H
 ·obtain ⟨hxe,hxs⟩:=mem_left hx
  have hxv:x∉ves:=fun h=>by
   rw [List.contains_toArray] at hxs
   have:(ves.map (·.born)).contains x.born=true:=List.contains_iff_mem.2 (List.mem_map_of_mem h)
   rw [this] at hxs; cases hxs
  obtain ⟨res,hp2⟩:=V0 hp hxe hxv
  have hk:∃ p∈m,kvP kk p=kvE x:=by
   have h1:kvE x∈es.toList.map kvE:=List.mem_map_of_mem hxe
   rw [hes] at h1
   exact List.mem_map.1 h1
  obtain ⟨p,-,hpx⟩:=hk
  have H1:Ctx w0 S w1 L:=by rcases hw1 with rfl | rfl; exact H; exact H.drew
  refine ⟨_,true,_,_,hr,rfl,.inr ⟨rfl,p,es,clock,ves++[x],res,rfl,hes,hb,hn,rfl,hp2,by rw [List.map_append,List.map_append,hv]; simp [hpx]⟩,?_⟩
  have h3:((ves.map (·.born)).toArray.push x.born)=((ves++[x]).map (·.born)).toArray:=by simp
  rw [← h3]
  exact H1.setB hi _

theorem Tp {kk:IntKind} {d:Tmp} {x:Operand} {b bi i:Nat} {o it:Obj} {m vis:List (Int × Value)} (hg:AX ⟨some d,.next x false,ty,pos,af,g⟩ ops e=true) (hg2:∀ v,AX ⟨dst2,.extract (.tmp d) 0,ty2,pos2,af2,g2⟩ ops (put e (some d) v)=true)
  (hx:ev e x = .pointer (some ⟨bi,0,none⟩)) (H:Ctx w0 S w L) (hm:w.heap[b]? = some o) (hi:L[i]? = some (bi,it)) (hV:VisO kk b m vis o it)
  (h:∀ vs more it' w',((more=false∧vis.Perm m∧it'=it)∨(more=true∧∃ p,VisO kk b m (vis++[p]) o it'))→Ctx w0 S w' (L.set i (bi,it'))→AL P r ops Q rest (put (put e (some d) (.tuple vs)) dst2 (.bool more)) w') :
  AL P r ops Q (⟨some d,.next x false,ty,pos,af,g⟩::⟨dst2,.extract (.tmp d) 0,ty2,pos2,af2,g2⟩::rest) e w:=by
 obtain ⟨vs,more,it',w',hr,hv,hc,H'⟩:=Un (P:=P) ty H hm hi hV
 refine BH (w':=w') (v := .tuple vs) hg rfl (by simp [execOp,hx,hr]) ?_
 exact A3 (hg2 _) (by simp [ev,put]) hv (h vs more it' w' hc H')

theorem Qj {kk:IntKind} {x:Operand} {b bi i:Nat} {o it:Obj} {m vis:List (Int × Value)} {p:Int × Value} (hg:AX ⟨dst,.entry x,ty,pos,af,g⟩ ops e=true)
  (hx:ev e x = .pointer (some ⟨bi,0,none⟩)) (H:Ctx w0 S w L) (hm:w.heap[b]? = some o) (hi:L[i]? = some (bi,it)) (hV:VisO kk b m (vis++[p]) o it)
  (h:AL P r ops Q rest (put e dst (.tuple #[.int kk p.1,p.2])) w):AL P r ops Q (⟨dst,.entry x,ty,pos,af,g⟩::rest) e w:=by
 obtain ⟨es,clock,ves,rest,rfl,hes,hb,hn,rfl,hp,hv⟩:=hV
 rw [List.map_append] at hv
 obtain ⟨v1,v2,rfl,h1,h2⟩:=List.map_eq_append_iff.1 hv
 obtain ⟨y,v3,rfl,hy,h3⟩:=List.map_eq_cons_iff.1 h2
 cases List.map_eq_nil_iff.1 h3
 have he:y∈es.toList:=hp.mem_iff.1 (List.mem_append_left _ (List.mem_append_right _ (List.mem_cons_self ..)))
 have hpush:(((v1++[y]).map (·.born)).toArray)=(v1.map (·.born)).toArray.push y.born:=by simp
 have hi2:=H.get hi
 rw [hpush] at hi2
 have hr:=run_entry_at (P:=P) w bi b clock _ es clock y hi2 (hm) he hn
 have hy2:y.key = .int kk p.1∧y.val=p.2:=by unfold kvE kvP at hy; exact ⟨(Prod.mk.inj hy).1,(Prod.mk.inj hy).2⟩
 rw [hy2.1,hy2.2] at hr
 exact BH hg rfl (by simp [execOp,hx,hr]) h

theorem Uo {kk:IntKind} {x:Operand} {b bi i:Nat} {o it:Obj} {m vis:List (Int × Value)} {n:Int} {v:Value} (hg:AX ⟨dst,.entry x,ty,pos,af,g⟩ ops e=true)
  (hx:ev e x = .pointer (some ⟨bi,0,none⟩)) (H:Ctx w0 S w L) (hm:w.heap[b]? = some o) (hi:L[i]? = some (bi,it)) (hV:VisO kk b m (vis++[(n,v)]) o it)
  (h:AL P r ops Q rest (put e dst (.tuple #[.int kk n,v])) w):AL P r ops Q (⟨dst,.entry x,ty,pos,af,g⟩::rest) e w:=Qj hg hx H hm hi hV h

/-! ### delete -/
theorem NS {α:Type} {k:Int}:∀ {m:List (Int × α)},Ei m k=none→N2 m k=m
 | [],_=>rfl
 | p::m,h=>by
  have hp:¬ p.1=k:=fun hp=>by simp [Ei,hp] at h
  have hb2:(p.1 == k)=false:=by simpa using hp
  have hm2:Ei m k=none:=by rw [← h]; simp [Ei,hb2]
  simp [N2,hp,NS hm2]
theorem RV {t t2 k el ty:TypeId} {kk:IntKind} {b j:Nat} {o:Obj} {m:List (Int × Value)} {n:Int} (ht:Kr P t=some (k,el)) (hk:P.underlying k=some (.int kk)) (H:Ctx w0 S w L) (hl:L[j]? = some (b,o)) (hM:D8 kk m o) :
  ∃ o' w',(Builtin.delete_ #[t,t2] ty #[.map (some b),.int kk n]).run P w = .ok (.tuple #[]) w'∧D8 kk (N2 m n) o'∧Ctx w0 S w' (L.set j (b,o')):=by
 obtain ⟨es,clock,rfl,hes,hbn,hnd⟩:=hM
 have hb:=H.get hl
 have hf:=FS kk n es.toList m 0 hes
 have hgo:(getObj b).run P w = .ok (.map es clock) w:=by simp [getObj,Sem.run,hb]
 have hso:∀ o',(setObj b o').run P w = .ok () (w.putObj b o'):=fun o'=>by simp [setObj,Sem.run,hb,World.putObj]
 cases hm:Ei m n with
 | none =>
  refine ⟨.map es clock,w.putObj b _,?_,⟨_,_,rfl,by rw [NS hm]; exact hes,hbn,hnd⟩,H.setB hl _⟩
  simp [Builtin.delete_,Bd (GH ht),hgo,DF hk,Instr.findKey,Bd hk,hf.1 hm,hso]
 | some v0 =>
  obtain ⟨i,hi,hil,h3⟩:=hf.2 v0 hm
  obtain ⟨_,_,a3⟩:=h3 v0
  have htl:(es.eraseIdxIfInBounds i).toList=es.toList.eraseIdx i:=by
   rw [Array.eraseIdxIfInBounds,dif_pos (by simpa using hil)]; simp
  refine ⟨.map (es.eraseIdxIfInBounds i) clock,w.putObj b _,?_,⟨_,_,rfl,by rw [htl]; exact a3,?_,?_⟩,H.setB hl _⟩
  ·simp [Builtin.delete_,Bd (GH ht),hgo,DF hk,Instr.findKey,Bd hk,hi,hso]
  ·intro x hx
   rw [htl] at hx
   exact hbn x (List.mem_of_mem_eraseIdx hx)
  ·rw [htl]
   exact List.Sublist.nodup (List.Sublist.map _ (List.eraseIdx_sublist ..)) hnd
theorem Up {t t2 k el:TypeId} {kk:IntKind} {x y:Operand} {b j:Nat} {o:Obj} {m:List (Int × Value)} {n:Int} (hg:AX ⟨dst,.call ⟨.builtin .delete,#[x,y],#[t,t2]⟩,ty,pos,af,g⟩ ops e=true)
  (ht:Kr P t=some (k,el)) (hk:P.underlying k=some (.int kk)) (hx:ev e x = .map (some b)) (hy:ev e y = .int kk n) (H:Ctx w0 S w L) (hl:L[j]? = some (b,o)) (hM:D8 kk m o)
  (h:∀ o' w',D8 kk (N2 m n) o'→Ctx w0 S w' (L.set j (b,o'))→AL P r ops Q rest (put e dst (.tuple #[])) w'):AL P r ops Q (⟨dst,.call ⟨.builtin .delete,#[x,y],#[t,t2]⟩,ty,pos,af,g⟩::rest) e w:=by
 obtain ⟨o',w',hr,hM',H'⟩:=RV (ty:=ty) (t2:=t2) (n:=n) ht hk H hl hM
 exact BH (w':=w') (v := .tuple #[]) hg rfl (by simp [execOp,resolve,invoke,builtin,hx,hy,hr]) (h o' w' hM' H')

/-! ### The two steps of 'm[k], .. = v, ..' at a key that is new -/
def EntO (kk:IntKind) (n st:Int) (m:List (Int × Value)) (o:Obj):Prop :=
 ∃ (es:Array MapEntry) (clock:Nat) (z:Value),o = .map (es.push { key := .int kk n,val:=z,born:=clock }) (clock+1)∧st=(clock:Nat)∧es.toList.map (fun e=>(e.key,e.val))=m.map (fun p=>(Value.int kk p.1,p.2))∧(∀ e∈es.toList,e.born<clock)∧(es.toList.map (·.born)).Nodup
theorem Ql {t k el:TypeId} {kk:IntKind} {x y:Operand} {b j:Nat} {o:Obj} {m:List (Int × Value)} {n:Int} {z:Value} (hg:AX ⟨dst,.mapEntry t x y,ty,pos,af,g⟩ ops e=true)
  (ht:Kr P t=some (k,el)) (hk:P.underlying k=some (.int kk)) (hz:(P.info? el).bind (·.zero)=some z) (hx:ev e x = .map (some b)) (hy:ev e y = .int kk n) (H:Ctx w0 S w L) (hl:L[j]? = some (b,o)) (hM:D8 kk m o) (hm:Ei m n=none)
  (h:∀ st o' w',EntO kk n st m o'→Ctx w0 S w' (L.set j (b,o'))→AL P r ops Q rest (put e dst (.tuple #[z,.int .i64 st])) w'):AL P r ops Q (⟨dst,.mapEntry t x y,ty,pos,af,g⟩::rest) e w:=by
 obtain ⟨es,clock,rfl,hes,hbn,hnd⟩:=hM
 have hb:=H.get hl
 have hf:=FS kk n es.toList m 0 hes
 have hgo:(getObj b).run P w = .ok (.map es clock) w:=by simp [getObj,Sem.run,hb]
 have hso:∀ o',(setObj b o').run P w = .ok () (w.putObj b o'):=fun o'=>by simp [setObj,Sem.run,hb,World.putObj]
 have hzr:(zeroValue el).run P w = .ok z w:=by
  cases hi:P.info? el with
  | none=>rw [hi] at hz; cases hz
  | some i=>rw [hi] at hz; simp at hz; simp [zeroValue,typeInfo,program,Sem.run,hi,hz]
 refine BH (w':=w.putObj b _) (v := .tuple #[z,.int .i64 (clock:Nat)]) hg rfl ?_ (h _ _ _ ⟨es,clock,z,rfl,rfl,hes,hbn,hnd⟩ (H.setB hl _))
 simp [execOp,Instr.mapEntry,Bd (GH ht),hx,hy,hgo,DF hk,Instr.findKey,Bd hk,hf.1 hm,hzr,hso,goInt]
theorem N4 {t:TypeId} {kk:IntKind} {x y z:Operand} {b j:Nat} {o:Obj} {m:List (Int × Value)} {n st:Int} (v:Value) (hg:AX ⟨dst,.entryStore t x y z,ty,pos,af,g⟩ ops e=true)
  (hx:ev e x = .map (some b)) (hy:ev e y = .int .i64 st) (hz:ev e z=v) (H:Ctx w0 S w L) (hl:L[j]? = some (b,o)) (hE:EntO kk n st m o)
  (h:∀ o' w',D8 kk (m++[(n,v)]) o'→Ctx w0 S w' (L.set j (b,o'))→AL P r ops Q rest (put e dst undef) w'):AL P r ops Q (⟨dst,.entryStore t x y z,ty,pos,af,g⟩::rest) e w:=by
 obtain ⟨es,clock,z0,rfl,rfl,hes,hbn,hnd⟩:=hE
 have hb:=H.get hl
 have hgo:(getObj b).run P w = .ok (.map (es.push { key := .int kk n,val:=z0,born:=clock }) (clock+1)) w:=by simp [getObj,Sem.run,hb]
 have hso:∀ o',(setObj b o').run P w = .ok () (w.putObj b o'):=fun o'=>by simp [setObj,Sem.run,hb,World.putObj]
 have hno:es.findIdx? (fun e=>((e.born:Nat):Int) == ((clock:Nat):Int))=none:=by
  rw [Array.findIdx?_eq_none_iff]
  intro x hx
  have:=hbn x (Array.mem_toList_iff.2 hx)
  simp only [beq_eq_false_iff_ne,ne_eq]
  omega
 have hfi:(es.push { key := .int kk n,val:=z0,born:=clock }).findIdx? (fun e=>((e.born:Nat):Int) == ((clock:Nat):Int))=some es.size:=by
  rw [Array.findIdx?_push,hno]; simp
 refine LS (w':=w.putObj b (.map (es.push { key := .int kk n,val:=v,born:=clock }) (clock+1))) hg rfl ?_ (h _ _ ⟨_,_,rfl,?_,?_,?_⟩ (H.setB hl _))
 ·have hmod:(es.push { key := .int kk n,val:=z0,born:=clock }).modify es.size (fun e=>{ e with val:=v })=es.push { key := .int kk n,val:=v,born:=clock }:=by
   apply Array.ext'
   rw [Array.toList_modify,Array.toList_push,Array.toList_push]
   have:es.size=es.toList.length:=by simp
   rw [this]
   generalize es.toList=l
   induction l with
   | nil=>rfl
   | cons x l ih=>simp only [List.length_cons,List.cons_append,List.modify_succ_cons,ih]
  simp [execOp,Instr.entryStore,hx,hy,hz,hgo,asInt,asIntOf,hfi,hso,hmod]
 ·simp [hes]
 ·intro x hx
  simp only [Array.toList_push,List.mem_append,List.mem_singleton] at hx
  rcases hx with hx | rfl
  ·have:=hbn x hx; omega
  ·simp
 ·simp only [Array.toList_push,List.map_append,List.map_cons,List.map_nil]
  rw [List.nodup_append]
  refine ⟨hnd,by simp,?_⟩
  intro x hx y hy
  simp only [List.mem_singleton] at hy
  subst hy
  rw [List.mem_map] at hx
  obtain ⟨e',he',rfl⟩:=hx
  have:=hbn e' he'
  omega
end
end Go.GV

/- append, and what the cells beyond the length hold. It holds for every program. -/
namespace Go.GV
open Go

theorem Qm:∀ (vs l:List Value) (i:Nat) (v:Value),v∈over l i vs→v∈l∨v∈vs
 | [],_,_,_,h => .inl h
 | x::vs,l,i,v,h=>by
  rcases Qm vs (l.set i x) (i+1) v h with h | h
  ·rcases List.mem_or_eq_of_mem_set h with h | h
   ·exact .inl h
   ·exact .inr (by rw [h]; exact List.mem_cons_self ..)
  ·exact .inr (List.mem_cons_of_mem _ h)
theorem N5 (z:Array Value) (n:Nat) (v:Value) (h:v∈(Builtin.zeroCells z n).toList):v∈z.toList:=by
 unfold Builtin.zeroCells at h
 rw [Array.toList_map,List.mem_map] at h
 obtain ⟨i,hi,rfl⟩:=h
 have h0:0<z.size:=by
  rw [Array.toList_range,List.mem_range] at hi
  rcases Nat.eq_zero_or_pos z.size with h | h
  ·rw [h,Nat.mul_zero] at hi; omega
  ·exact h
 have hm:=Nat.mod_lt i h0
 rw [getElem!_pos z (i % z.size) hm]
 exact Array.getElem_mem_toList hm
section
variable {P:Program} {w w0:World} {S:List Nat} {L:List (Nat × Obj)}

/-- append onto a slice that the call owns; the source's cells are known. -/
theorem Qn {t t2 el el2 ty:TypeId} {s by':Nat} {zl:List Value} (hu:CR P t=some el) (hu2:CR P t2=some el2) (hs:Cz P el=some s) (hby:Eg P el=some by') (hz:C2 P el=some zl) (hzl:zl.length=s) (hpos:0<by')
  {a a2:Option Addr} {n c m c2:Nat} {full l new:List Value} (H:Ctx w0 S w (L++ent a el full)) (O:OS a n c s full l)
  (hn:new.length=m*s) (h1:∀ v∈new,Bm v=true) (hc:∀ j v,new[j]? = some v→∃ p,a2=some p∧w.cell? (p.add j)=some v) (hbound:(2*(n+m)+768)*by'≤281474976710656) :
  ∃ a' c' full' w',(Builtin.append_ #[t,t2] ty #[.slice a n c,.slice a2 m c2]).run P w = .ok (.slice a' (n+m) c') w'∧Ctx w0 S w' (L++ent a' el full')∧OS a' (n+m) c' s full' (l++new)∧∀ v∈full',v∈full∨v∈new∨v∈zl:=by
 have hfc:=Dm (P:=P) (w:=w) (s:=s) (m:=m) (a:=a2) (c:=m) (k:=c2) hn hc
 by_cases hfit:n+m≤c
 ·-- in place
  cases a with
  | none =>
   have h0:=O.none' rfl
   have hm:m=0:=by omega
   have hn0:n=0:=by omega
   subst hm hn0 h0
   have hnew:new=[]:=List.eq_nil_of_length_eq_zero (by omega)
   have hl:l=[]:=List.eq_nil_of_length_eq_zero (by have:=O.llen; omega)
   have hfull:full=[]:=List.eq_nil_of_length_eq_zero (by have:=O.len; omega)
   subst hnew hl hfull
   refine ⟨none,0,[],w,?_,H,OS.nil,by simp⟩
   simp [Builtin.append_,Bd (CG hu),Bd (CG hu2),CN hs,Builtin.lenOf,hfc]
  | some p =>
   have hp:=O.zero p rfl
   obtain ⟨b,o,sp⟩:=p
   simp only [Addr.mk.injEq,true_and] at hp
   obtain ⟨rfl,rfl⟩:=hp
   have hk:(L++ent (some ⟨b,0,none⟩) el full)[L.length]? = some (b,Bl el full):=by simp [ent]
   have hb:=H.get hk
   have hmul:(n+m)*s≤c*s:=Nat.mul_le_mul_right _ hfit
   have hadd:(n+m)*s=n*s+m*s:=Nat.add_mul _ _ _
   obtain ⟨w',hr,he,hb'⟩:=EO (P:=P) (o:=n*s) new full w 0 h1 hb (by rw [O.len]; omega)
   have hwr:=H.turn hk _ he hb'
   rw [show (L++ent (some ⟨b,0,none⟩) el full).set L.length (b,Bl el (over full (n*s+0) new))=L++ent (some ⟨b,0,none⟩) el (over full (n*s) new) from by simp [ent]] at hwr
   refine ⟨some ⟨b,0,none⟩,c,over full (n*s) new,w',?_,hwr,?_,fun v hv=>(Qm new full _ v hv).elim .inl fun h => .inr (.inl h)⟩
   ·have hst:(storeCells (Addr.add ⟨b,0,none⟩ (n*s)) new).run P w = .ok () w':=by
     rw [Dl,Nat.zero_add]; exact hr
    simp [Builtin.append_,Bd (CG hu),Bd (CG hu2),CN hs,Builtin.lenOf,hfc,hfit,hst]
   ·refine ⟨fun q hq=>by injection hq with hq; subst hq; rfl,(fun h=>by cases h),by rw [EN]; exact O.len,hfit,?_⟩
    have hsp:=O.split
    have hll:=O.llen
    have htl:(full.drop (n*s)).length=c*s - n*s:=by rw [List.length_drop,O.len]
    have hcut:full.drop (n*s)=(full.drop (n*s)).take (m*s)++(full.drop (n*s)).drop (m*s):=by rw [List.take_append_drop]
    have hover:∀ (vs a b c:List Value),b.length=vs.length→over (a++b++c) a.length vs=a++vs++c:=by
     intro vs
     induction vs with
     | nil=>intro a b c hb; have:b=[]:=List.eq_nil_of_length_eq_zero (by simpa using hb); subst this; simp [over]
     | cons v vs ih =>
      intro a b c hb
      cases b with
      | nil=>simp at hb
      | cons x b =>
       have:=ih (a++[v]) b c (by simpa using hb)
       simp only [over]
       rw [show (a++x::b++c).set a.length v=a++[v]++b++c from by simp]
       rw [show a.length+1=(a++[v]).length from by simp,this]
       simp
    have hgoal:over full (n*s) new=l++new++(full.drop (n*s)).drop (m*s):=by
     have h4:=hover new l ((full.drop (n*s)).take (m*s)) ((full.drop (n*s)).drop (m*s)) (by rw [List.length_take,htl,hn]; omega)
     rw [List.append_assoc,← hcut,← hsp,hll] at h4
     exact h4
    rw [hgoal,List.take_left' (by rw [List.length_append,hll,hn]; omega)]
 ·-- a new block
  have hfit':c<n+m:=by omega
  have hncap:=JZ (n+m) c hfit'
  have hbig:¬ (281474976710656:Int)<((Builtin.nextslicecap (n+m) c*by':Nat):Int):=by
   have:Builtin.nextslicecap (n+m) c*by'≤(2*(n+m)+768)*by':=Nat.mul_le_mul_right _ hncap
   omega
  have hnm:n+m≤281474976710656:=by
   have h1:(2*(n+m)+768)*1≤(2*(n+m)+768)*by':=Nat.mul_le_mul_left _ hpos
   omega
  -- the capacity that is drawn
  generalize hq:(Question.appendCap (n+m) c el).cut (w.tape w.drawn (Question.appendCap (n+m) c el))=cap
  have hcap:n+m≤cap:=by rw [← hq]; unfold Question.cut; exact Nat.le_add_right _ _
  obtain ⟨zv,hzr,hzc⟩:=Gc (P:=P) hz w.drew
  have hzs:zv.cells.size=s:=by rw [← hzl,← hzc]; simp
  let full':=l++new++(Builtin.zeroCells zv.cells (cap - (n+m))).toList
  have hH:Ctx w0 S (w.drew.alloc (Bl el full')) ((w.drew.heap.size,Bl el full')::L):=by
   have:=(H.left.drew).alloc (Bl el full')
   exact this
  refine ⟨some ⟨w.drew.heap.size,0,none⟩,cap,full',w.drew.alloc (Bl el full'),?_,?_,?_,?_⟩
  ·have hforced:(Question.appendCap (n+m) c el).forced=false:=rfl
   have hby2:∃ i,P.info? el=some i∧i.bytes=by':=by
    unfold Eg at hby
    cases hi:P.info? el with
    | none=>rw [hi] at hby; cases hby
    | some i=>rw [hi] at hby; simp at hby; exact ⟨i,rfl,hby⟩
   obtain ⟨i,hi,hib⟩:=hby2
   have hti:∀ w,(typeInfo el).run P w = .ok i w:=fun w=>by simp [typeInfo,program,Sem.run,hi]
   have hold':(Builtin.firstCells s n (.slice a n c)).run P w.drew = .ok l.toArray w.drew:=by
    refine Dm (O.llen) (fun j v hv=>?_)
    have hjl:j<l.length:=(List.getElem?_eq_some_iff.1 hv).1
    have hn0:0<n:=by
     rcases Nat.eq_zero_or_pos n with h | h
     ·have h5:=O.llen; rw [h,Nat.zero_mul] at h5; omega
     ·exact h
    obtain ⟨b,rfl⟩:=O.form hn0
    refine ⟨_,rfl,?_⟩
    have hk:(L++ent (some ⟨b,0,none⟩) el full)[L.length]? = some (b,Bl el full):=by simp [ent]
    show w.cell? _=_
    rw [Dl,Nat.zero_add,Ay (H.get hk),O.split,List.getElem?_append_left hjl]
    exact hv
   have hfc':(Builtin.firstCells s m (.slice a2 m c2)).run P w.drew = .ok new.toArray w.drew:=Dm hn hc
   have hroom:∀ k w,(askRoom k).run P w = .ok () w:=fun k w=>by unfold askRoom; split <;> rfl
   have hby0:¬ by'=0:=by omega
   have hnn:(Builtin.append_ #[t,t2] ty #[.slice a n c,.slice a2 m c2]).run P w = .ok (.slice (some ⟨w.drew.heap.size,0,none⟩) (n+m) cap) (w.drew.alloc (.cells (l.toArray++(new.toArray++Builtin.zeroCells zv.cells (cap - (n+m)))) el)):=by
    have hb3:¬ 281474976710656<Builtin.nextslicecap (n+m) c*by':=by omega
    simp [Builtin.append_,Bd (CG hu),Bd (CG hu2),CN hs,Builtin.lenOf,hfc',hold',hfit,hti,hib,hb3,hby0,hforced,hq,hroom,hzr,newRow,newObj,Sem.run]
   rw [hnn]
   have harr:l.toArray++(new.toArray++Builtin.zeroCells zv.cells (cap - (n+m)))=full'.toArray:=by
    apply Array.ext'; simp [full']
   rw [harr]
   rfl
  ·exact hH.perm (List.perm_append_comm (l₁:=[(w.drew.heap.size,Bl el full')]) (l₂:=L))
  ·refine ⟨(fun q hq=>by injection hq with hq; subst hq; rfl),(fun h=>by cases h),?_,hcap,?_⟩
   ·show (l++new++(Builtin.zeroCells zv.cells (cap - (n+m))).toList).length=cap*s
    rw [List.length_append,List.length_append,O.llen,hn,Array.length_toList,FR,hzs,← Nat.add_mul,← Nat.add_mul]
    congr 1
    omega
   ·show (l++new++(Builtin.zeroCells zv.cells (cap - (n+m))).toList).take ((n+m)*s)=l++new
    rw [List.take_left' (by rw [List.length_append,O.llen,hn,Nat.add_mul])]
  ·intro v hv
   rcases List.mem_append.1 hv with h | h
   ·rcases List.mem_append.1 h with h | h
    ·exact .inl (List.mem_of_mem_take (by rw [O.pre]; exact h))
    ·exact .inr (.inl h)
   ·refine .inr (.inr ?_)
    have h5:=N5 _ _ v h
    rw [hzc] at h5
    simpa using h5
end

section
variable {P:Program} {r:Option Nat} {ops rest:List Oper} {Q:Exit→Env→World→Prop} {e:Env} {w w0:World} {S:List Nat} {L:List (Nat × Obj)}
 {dst:Option Tmp} {ty:TypeId} {pos:String} {af:Array Edge} {g:Option (Nat × Bool)}
theorem Qo {t t2 el el2:TypeId} {x y:Operand} {s by':Nat} {zl:List Value} (hg:AX ⟨dst,.call ⟨.builtin .append,#[x,y],#[t,t2]⟩,ty,pos,af,g⟩ ops e=true)
  (hu:CR P t=some el) (hu2:CR P t2=some el2) (hs:Cz P el=some s) (hby:Eg P el=some by') (hz:C2 P el=some zl) (hzl:zl.length=s) (hpos:0<by')
  {a:Option Addr} {n c m c2 b2:Nat} {t3:TypeId} {full l new:List Value} (hx:ev e x = .slice a n c) (hy:ev e y = .slice (some ⟨b2,0,none⟩) m c2) (H:Ctx w0 S w ((b2,Bl t3 new)::(L++ent a el full))) (O:OS a n c s full l)
  (hn:new.length=m*s) (h1:∀ v∈new,Bm v=true) (hbound:(2*(n+m)+768)*by'≤281474976710656)
  (h:∀ a' c' full' w',Ctx w0 S w' (L++ent a' el full')→OS a' (n+m) c' s full' (l++new)→(∀ v∈full',v∈full∨v∈new∨v∈zl)→AL P r ops Q rest (put e dst (.slice a' (n+m) c')) w') :
  AL P r ops Q (⟨dst,.call ⟨.builtin .append,#[x,y],#[t,t2]⟩,ty,pos,af,g⟩::rest) e w:=by
 obtain ⟨a',c',full',w',hr,H',O',Z'⟩:=Qn (ty:=ty) hu hu2 hs hby hz hzl hpos H.tail O hn h1 (fun j v hv=>⟨_,rfl,by rw [Dl,Nat.zero_add,Ay (H.get at0)]; exact hv⟩) hbound (c2:=c2)
 exact BH hg rfl (by simp [execOp,resolve,invoke,builtin,hx,hy,hr]) (h a' c' full' w' H' O' Z')
end
end Go.GV

/- Equality of structs whose fields are numbers and flags. It holds for every program. -/
namespace Go.GV
open Go

def RW:TypeDesc→Bool
 | .struct _=>false
 | .array _ _=>false
 | _=>true
def Pi (P:Program):List Field→Nat→List Bool→Bool
 | [],_,[]=>true
 | f::fs,i,k::ks=>(f.name != "_" && (f.offset == i && (match P.underlying f.type,k with | some (.int _),true=>true | some .bool,false=>true | _,_=>false))) && Pi P fs (i+1) ks
 | _,_,_=>false
/-- Both are numbers of one kind, or both flags. -/
def likeV:Bool→Value→Value→Prop
 | true,.int k _,.int k' _=>k=k'
 | false,.bool _,.bool _=>True
 | _,_,_=>False
def Qp:List Bool→List Value→List Value→Prop
 | [],[],[]=>True
 | k::ks,x::xs,y::ys=>likeV k x y∧Qp ks xs ys
 | _,_,_=>False

section
variable {P:Program}
theorem NT {t:TypeId} {u:TypeDesc} {cs:Array Value} {i:Nat} {v:Value} (w:World) (hu:P.underlying t=some u) (hs:RW u=true) (hc:cs[i]? = some v):(part t cs i).run P w = .ok v w:=by
 cases u <;> simp_all [part,isAgg,Bd hu,RW]
theorem Ky (d:Nat) (X Y:Array Value) (w:World):∀ (fs:List Field) (i:Nat) (ks:List Bool) (xs ys:List Value),Pi P fs i ks=true→Qp ks xs ys→(∀ j v,xs[j]? = some v→X[i+j]? = some v)→(∀ j v,ys[j]? = some v→Y[i+j]? = some v) →
  ∃ r:Bool,(Op.eqFields (d+1) X Y fs).run P w = .ok r w∧(r=true↔xs=ys)
 | [],i,ks,xs,ys,hF,hL,_,_=>by
  cases ks with
  | cons k ks=>cases hF
  | nil =>
   cases xs with
   | cons x xs=>cases hL
   | nil =>
    cases ys with
    | cons y ys=>cases hL
    | nil=>exact ⟨true,by simp [Op.eqFields],by simp⟩
 | f::fs,i,ks,xs,ys,hF,hL,hX,hY=>by
  cases ks with
  | nil=>cases hF
  | cons k ks =>
   cases xs with
   | nil=>cases hL
   | cons x xs =>
    cases ys with
    | nil=>cases hL
    | cons y ys =>
     obtain ⟨hv,hL⟩:=hL
     simp only [Pi,Bool.and_eq_true,bne_iff_ne,ne_eq,beq_iff_eq] at hF
     obtain ⟨⟨hn,ho,hu⟩,hF⟩:=hF
     obtain ⟨r,hr,hri⟩:=Ky d X Y w fs (i+1) ks xs ys hF hL (fun j v hj=>by rw [Nat.add_assoc,Nat.add_comm 1]; exact hX (j+1) v hj) (fun j v hj=>by rw [Nat.add_assoc,Nat.add_comm 1]; exact hY (j+1) v hj)
     have hx0:=hX 0 x rfl
     have hy0:=hY 0 y rfl
     rw [Nat.add_zero,← ho] at hx0 hy0
     obtain ⟨q,hq,hqi⟩:∃ q:Bool,(∀ w,(Op.equalIn (d+1) f.type x y).run P w = .ok q w)∧(q=true↔x=y):=by
      split at hu
      ·rename_i k' hk
       cases x <;> cases y <;> (try exact hv.elim)
       rename_i k1 a k2 b
       obtain rfl:k1=k2:=hv
       exact ⟨a == b,fun w=>run_equalIn_int w d f.type _ _ a b hk,by simp⟩
      ·rename_i hk
       cases x <;> cases y <;> (try exact hv.elim)
       rename_i a b
       exact ⟨a == b,fun w=>run_equalIn_bool w d f.type a b hk,by simp⟩
      ·cases hu
     have hu2:∃ u,P.underlying f.type=some u∧RW u=true:=by
      split at hu
      ·rename_i h1; exact ⟨_,h1,rfl⟩
      ·rename_i h1; exact ⟨_,h1,rfl⟩
      ·cases hu
     obtain ⟨u,hu3,hu4⟩:=hu2
     have hp1:=NT w hu3 hu4 hx0
     have hp2:=NT w hu3 hu4 hy0
     cases q with
     | false =>
      refine ⟨false,?_,?_⟩
      ·simp [Op.eqFields,hn,hp1,hp2,hq]
      ·have:¬ x=y:=fun h=>by have:=hqi.2 h; cases this
       simp [this]
     | true =>
      refine ⟨r,?_,?_⟩
      ·simp [Op.eqFields,hn,hp1,hp2,hq,hr]
      ·have:x=y:=hqi.1 rfl
       simp [this,hri]
/-- What the type must be: a struct of such fields. -/
def ME (P:Program) (t:TypeId) (ks:List Bool):Bool :=
 (match P.underlying t with | some (.struct _)=>true | _=>false) && (!P.stoodInHeld t && (!P.eqGuardType P.depth t && Pi P (P.fieldsOf t).toList 0 ks))
theorem RY {t:TypeId} {ks:List Bool} {xs ys:List Value} (w:World) (h:ME P t ks=true) (hL:Qp ks xs ys):∃ r:Bool,(Op.equalIn 10000 t (.agg xs.toArray) (.agg ys.toArray)).run P w = .ok r w∧(r=true↔xs=ys):=by
 unfold ME at h
 simp only [Bool.and_eq_true,Bool.not_eq_true'] at h
 obtain ⟨h1,h2,h3,h4⟩:=h
 have ht:P.underlying t=some (.struct (P.fieldsOf t)):=by
  unfold Program.fieldsOf
  split at h1
  ·rename_i h5; rw [h5]
  ·cases h1
 obtain ⟨r,hr,hri⟩:=Ky (P:=P) 9998 xs.toArray ys.toArray w _ 0 ks xs ys h4 hL (fun j v hv=>by rw [Nat.zero_add]; simpa using hv) (fun j v hv=>by rw [Nat.zero_add]; simpa using hv)
 exact ⟨r,by rw [run_equalIn_struct w 9999 t _ _ ht h2]; exact hr,hri⟩
end
section
variable {P:Program} {r:Option Nat} {ops rest:List Oper} {Q:Exit→Env→World→Prop} {e:Env} {w:World} {C:World→Prop} {K:Env→Prop}
 {dst:Option Tmp} {ty:TypeId} {pos:String} {af:Array Edge} {g:Option (Nat × Bool)} {t t2:TypeId} {x y:Operand}
theorem XO {ks:List Bool} {xs ys:List Value} {b:Bool} (h:ME P t ks=true) (hx:ev e x = .agg xs.toArray) (hy:ev e y = .agg ys.toArray) (hL:Qp ks xs ys) (hb:b=true↔xs=ys) (w:World) :
  (execOp (ev e) ⟨dst,.binOp .neq t x y t2,ty,pos,af,g⟩).run P w = .ok (.value (.bool (!b))) w:=by
 obtain ⟨r,hr,hri⟩:=RY w h hL
 have hrb:r=b:=by rw [Bool.eq_iff_iff,hri,hb]
 have hg:(eqGuard .neq t x y (.agg xs.toArray) (.agg ys.toArray)).run P w = .ok () w:=run_eqGuard_agg w .neq t x y _ _ (by
  unfold ME at h; simp only [Bool.and_eq_true,Bool.not_eq_true'] at h; exact h.2.2.1)
 subst hrb
 simp [execOp,hx,hy,hg,run_neq_struct,hr]
theorem Qq {ks:List Bool} {xs ys:List Value} (b:Bool) (hg:AX ⟨dst,.binOp .neq t x y t2,ty,pos,af,g⟩ ops e=true) (h:ME P t ks=true) (hx:ev e x = .agg xs.toArray) (hy:ev e y = .agg ys.toArray) (hL:Qp ks xs ys) (hb:b=true↔xs=ys)
  (hk:Wq P ops C K rest (put e dst (.bool (!b)))):Wq P ops C K (⟨dst,.binOp .neq t x y t2,ty,pos,af,g⟩::rest) e:=Ew hg (fun w _=>XO h hx hy hL hb w) hk
end
end Go.GV

/- Slices that are read, whatever else turns; slices that a call has made. It holds for every program. -/
namespace Go.GV
open Go
section
variable {α:Type} {w w':World} {a:Option Addr} {s:Nat} {enc:α→List Value} {xs:List α} {S:List Nat}
theorem Rd.ext' (h:Rd w a s enc xs) (he:Ext S w w') (hn:xs≠[]→(adr a).block∉S):Rd w' a s enc xs :=
 ⟨h.some',fun i x hx j v hv hj=>he.cell (h.cell i x hx j v hv hj) (hn (by rintro rfl; simp at hx))⟩
theorem Rd.lt' (h:Rd w a s enc xs) (hs:∀ x∈xs,(enc x).length=s) (h0:0<s) (hne:xs≠[]):(adr a).block<w.heap.size:=by
 cases xs with
 | nil=>exact absurd rfl hne
 | cons x xs =>
  obtain ⟨v,hv⟩:=A0 (l:=enc x) (i:=0) (by rw [hs x (List.mem_cons_self ..)]; exact h0)
  exact World.block_lt_of_cell? w ⟨(adr a).block,(adr a).off+0*s+0,none⟩ (h.cell 0 x rfl 0 v hv h0)
end
/-- A slice that a call has made, to be read. -/
structure Sl (w w':World) (v:Value) (s:Nat) {α:Type} (enc:α→List Value) (xs:List α):Prop where
 ex:∃ a c,v = .slice a xs.length c∧xs.length≤c∧Rd w' a s enc xs∧(xs≠[]→w.heap.size≤(adr a).block)
theorem Sl.of {w w':World} {el s:Nat} {v:Value} {α:Type} {enc:α→List Value} {xs:List α} (F:Fresh w w' el s v (xs.flatMap enc)) (hs:∀ x∈xs,(enc x).length=s) (h0:0<s):Sl w w' v s enc xs:=by
 obtain ⟨a,n,c,full,rfl,O,hb⟩:=F.ex
 obtain rfl:=O.numN hs h0
 refine ⟨a,c,rfl,O.le,OS.rd O (fun x hx=>(hb x hx).1) hs h0,fun hne=>?_⟩
 obtain ⟨q,rfl⟩:=O.form (List.length_pos_iff.2 hne)
 exact (hb (q,Bl el full) (List.mem_singleton.2 rfl)).2
theorem Sl.nil {w w':World} {s:Nat} {α:Type} {enc:α→List Value}:Sl w w' (.slice none 0 0) s enc ([]:List α):=⟨none,0,rfl,Nat.le_refl _,Rd.nil,fun h=>absurd rfl h⟩
end Go.GV

/- From the form's readings of arguments to ours, and the post of a law that answers true and turns nothing. It holds for every program. -/
namespace Go.GV
open Go Go.ChangeShapes Go.WideShapes Go.RowKit

theorem Ext.below {w w':World} (h:Ext [] w w'):Below w.heap.size w w':=⟨h.os,h.tape,h.output,h.size,fun k hk=>h.block k hk (by simp)⟩

section
variable {H:Type} {enc:TypeId × Value→H} {P:Program} {w:World} {base:Nat} {spare:Nat→Bool} {held:Bool}

theorem Je:∀ {ts:List TypeId} {vs:List Value} {ds:List (DataW H)} {ps:List MemPlace},DataW.TrodAll enc P w base spare held ts vs ds ps→ds.length=ts.length
 | [],vs,ds,ps,h=>by obtain ⟨_,rfl,_⟩:=trodAll_nil h; rfl
 | t::ts,vs,ds,ps,h=>by
  obtain ⟨v,vs',d,ds',p,q,rfl,rfl,rfl,_,hr⟩:=trodAll_cons h
  simp [Je hr]

theorem JO {W W':World} {sp':Nat→Bool} (hl:laidOutB P=true) (hsp:∀ b,b<W.heap.size→sp' b=true) (hb:Below W.heap.size W W') :
  ∀ {ts:List TypeId} {vs:List Value} {ds:List (DataW H)} {ps:List MemPlace},(∀ t∈ts,P.readableRec t=true∧t<P.types.size)→(∀ x∈ps,x.block<W.heap.size) →
   DataW.TrodAll enc P W 0 (fun _=>true) true ts vs ds ps→DataW.TrodAll enc P W' 0 sp' true ts vs ds ps
 | [],vs,ds,ps,_,_,h=>by obtain ⟨rfl,rfl,rfl⟩:=trodAll_nil h; rfl
 | t::ts,vs,ds,ps,hr,hp,h=>by
  obtain ⟨v,vs',d,ds',p,q,rfl,rfl,rfl,h0,h1⟩:=trodAll_cons h
  refine ⟨p,q,WideElems.Trod_stays hl (hr t (by simp)).1 (hr t (by simp)).2 h0 (fun x hx=>hb.same (hp x (by simp [hx]))) (fun x hx=>hsp _ (hp x (by simp [hx]))),?_,rfl⟩
  exact JO hl hsp hb (fun t ht=>hr t (by simp [ht])) (fun x hx=>hp x (by simp [hx])) h1

/-- The post of a law. -/
theorem MF {f:Func} {s:ChangeSpec} {W W':World} {args:Array Value} {ds gs:List (DataW H)} {before:List MemPlace} {tb:TypeId} (hl:laidOutB P=true) (hv:s.vars=[])
  (hr:(f.params.toList.all fun t=>P.readableRec t && decide (t<P.types.size))=true) (hres:f.resultTypes=#[tb]) (htb:P.underlying tb=some .bool)
  (hs:∀ ds:List (DataW H),ds.length=f.params.size→s.fn H ds={ results:=[.lit (.bool true)],args:=ds })
  (hW:DataW.Whole enc P f.params.toList s.vars false W args.toList ds gs before) (hx:Ext [] W W'):s.post enc P f false true false false W args (.bool true) W':=by
 have hW':=hW
 obtain ⟨p,q,hA,hV,rfl,_,_⟩:=hW
 rw [hv] at hV
 obtain ⟨rfl,rfl⟩:=trodVars_none hV
 have hlen:ds.length=f.params.size:=by rw [Je hA]; simp
 refine ⟨ds,[],p++[],[],p,[],hW',?_,?_,?_,hx.below.frame _,fun h=>by cases h⟩
 ·rw [List.append_nil,hs ds hlen,hres]
  exact trodAll_mk1 ⟨1,by simp [DataW.trod,Value.cells,htb]⟩
 ·rw [List.append_nil,hs ds hlen]
  refine JO hl (fun b hb=>by simpa using hb) hx.below (fun t ht=>?_) (fun x hxp=>?_) hA
  ·have:=List.all_eq_true.1 hr t ht
   simpa using this
  ·exact hW'.lt x (by simp [hxp])
 ·rw [hv,List.append_nil,hs ds hlen]
  rfl

theorem HM {k:IntKind} {n:Int} (h:(Lit.int k n).wf=true):k.min≤n∧n≤k.max:=by
 simpa [Lit.wf] using h

/-! ### Decoding -/

/-- What a piece of a struct reads as. -/
theorem MG {fuel:Nat} {t:TypeId} {cs:List Value} {x:DataW H × List MemPlace} {fs:Array Field} (ht:P.underlying t=some (.struct fs)) (h:DataW.trod enc P w base spare held fuel t cs=some x) (i:Nat) (f:Field) (hf:fs[i]? = some f) :
  ∃ n y,DataW.trod enc P w base spare held n f.type ((cs.drop f.offset).take (P.cellsOf f.type))=some y:=by
 obtain ⟨xs,n,_,_,_,hl,hx⟩:=DataW.trod_struct ht h
 have h1:=hx i f hf
 have hi:i<xs.length:=by rw [hl]; exact (Array.getElem?_eq_some_iff.1 hf).1
 rw [List.getElem?_eq_getElem hi] at h1
 exact ⟨n,_,h1⟩
theorem J3 {fuel:Nat} {t:TypeId} {cs:List Value} {x:DataW H × List MemPlace} {fs:Array Field} (ht:P.underlying t=some (.struct fs)) (h:DataW.trod enc P w base spare held fuel t cs=some x):cs.length=P.cellsOf t:=by
 obtain ⟨xs,n,_,_,hl,_,_⟩:=DataW.trod_struct ht h
 exact hl

theorem MH {l:List Value} {o m:Nat} {v:Value} (h:(l.drop o).take m=[v]):l[o]? = some v:=by
 have h1:((l.drop o).take m)[0]? = some v:=by rw [h]; rfl
 rw [List.getElem?_take] at h1
 split at h1
 ·rw [List.getElem?_drop] at h1; simpa using h1
 ·cases h1

theorem Ez {fuel:Nat} {t u:TypeId} {cs:List Value} {x:DataW H × List MemPlace} {fs:Array Field} {k:IntKind} (ht:P.underlying t=some (.struct fs)) (h:DataW.trod enc P w base spare held fuel t cs=some x) (i o:Nat)
  (hf:(fs[i]?.map fun f=>(f.type,f.offset))=some (u,o)) (hu:P.underlying u=some (.int k)):∃ n,cs[o]? = some (.int k n)∧k.min≤n∧n≤k.max:=by
 cases he:fs[i]? with
 | none=>rw [he] at hf; cases hf
 | some f =>
  rw [he] at hf
  simp only [Option.map_some,Option.some.injEq,Prod.mk.injEq] at hf
  obtain ⟨rfl,rfl⟩:=hf
  obtain ⟨n,y,hy⟩:=MG ht h i f he
  obtain ⟨m,h1,_,h2⟩:=DataW.trod_int hu hy
  exact ⟨m,MH h1,HM h2⟩
theorem Qr {fuel:Nat} {t u:TypeId} {cs:List Value} {x:DataW H × List MemPlace} {fs:Array Field} (ht:P.underlying t=some (.struct fs)) (h:DataW.trod enc P w base spare held fuel t cs=some x) (i o:Nat)
  (hf:(fs[i]?.map fun f=>(f.type,f.offset))=some (u,o)) (hu:P.underlying u=some .bool):∃ b,cs[o]? = some (.bool b):=by
 cases he:fs[i]? with
 | none=>rw [he] at hf; cases hf
 | some f =>
  rw [he] at hf
  simp only [Option.map_some,Option.some.injEq,Prod.mk.injEq] at hf
  obtain ⟨rfl,rfl⟩:=hf
  obtain ⟨n,y,hy⟩:=MG ht h i f he
  obtain ⟨b,h1,_⟩:=DataW.trod_bool hu hy
  exact ⟨b,MH h1⟩
/-- A field that is of whatever type. -/
theorem Pj {fuel:Nat} {t u:TypeId} {cs:List Value} {x:DataW H × List MemPlace} {fs:Array Field} (ht:P.underlying t=some (.struct fs)) (h:DataW.trod enc P w base spare held fuel t cs=some x) (i o:Nat)
  (hf:(fs[i]?.map fun f=>(f.type,f.offset))=some (u,o)):∃ n y,DataW.trod enc P w base spare held n u ((cs.drop o).take (P.cellsOf u))=some y:=by
 cases he:fs[i]? with
 | none=>rw [he] at hf; cases hf
 | some f =>
  rw [he] at hf
  simp only [Option.map_some,Option.some.injEq,Prod.mk.injEq] at hf
  obtain ⟨rfl,rfl⟩:=hf
  exact MG ht h i f he

theorem Qs {a:Addr} {n:Nat} {cs:List Value} (h:w.cells? base a n=some cs):cs.length=n∧∀ j v,cs[j]? = some v→w.cell? (a.add j)=some v:=by
 unfold World.cells? at h
 split at h
 ·have h1:∀ (l:List Nat) (cs:List Value),l.mapM (fun i=>w.cell? (a.add i))=some cs→cs.length=l.length∧∀ (j i:Nat) (v:Value),l[j]? = some i→cs[j]? = some v→w.cell? (a.add i)=some v:=by
   intro l
   induction l with
   | nil=>intro cs h; simp at h; subst h; exact ⟨rfl,fun j i v h=>by simp at h⟩
   | cons k l ih =>
    intro cs h
    rw [List.mapM_cons] at h
    obtain ⟨v,hv,h⟩:=Option.bind_eq_some_iff.1 h
    obtain ⟨cs',hcs,h⟩:=Option.bind_eq_some_iff.1 h
    simp only [Option.pure_def,Option.some.injEq] at h
    subst h
    obtain ⟨h1,h2⟩:=ih cs' hcs
    refine ⟨by simp [h1],fun j i u hi hu=>?_⟩
    cases j with
    | zero=>simp at hi hu; subst hi hu; exact hv
    | succ j=>exact h2 j i u (by simpa using hi) (by simpa using hu)
  obtain ⟨h2,h3⟩:=h1 _ _ h
  refine ⟨by simpa using h2,fun j v hv=>h3 j j v ?_ hv⟩
  have:j<cs.length:=(List.getElem?_eq_some_iff.1 hv).1
  rw [List.getElem?_range (by rw [h2] at this; simpa using this)]
 ·cases h

theorem NU {a:Addr} {v:Value} (h:w.cell? a=some v):a=⟨a.block,a.off,none⟩:=by
 unfold World.cell? at h
 split at h
 ·split at h
  ·cases h
  ·rename_i hs
   obtain ⟨b,o,s⟩:=a
   cases s with
   | none=>rfl
   | some x=>simp at hs
 ·cases h

/-- A slice that is read: ours. -/
theorem YX {α:Type} {t e:TypeId} {s fuel:Nat} {v:Value} {x:DataW H × List MemPlace} {encd:α→List Value} {Good:α→Prop} (ht:P.underlying t=some (.slice e)) (hs:P.cellsOf e=s) (h0:0<s)
  (dec:∀ n cs y,DataW.trod enc P w base spare held n e cs=some y→∃ d,cs=encd d∧Good d) (h:DataW.trod enc P w base spare held fuel t [v]=some x) :
  ∃ (a:Option Addr) (c:Nat) (l:List α),v = .slice a l.length c∧Rd w a s encd l∧l.length≤c∧c≤maxLen∧(∀ d∈l,Good d):=by
 rcases Go.Deep.open_slice ht h with ⟨hc,_⟩ | ⟨a,len,cap,m,n,D,Pl,hc,_,hl,hm,hmm,_,hx⟩
 ·simp only [List.cons.injEq,and_true] at hc
  exact ⟨none,0,[],hc,Rd.nil,Nat.le_refl _,Nat.zero_le _,by simp⟩
 ·simp only [List.cons.injEq,and_true] at hc
  have hle:len≤m:=by rw [hmm]; split <;> omega
  have hd:∀ i,i<len→∃ d:α,(w.cells? base (a.add (i*s)) s=some (encd d))∧Good d:=fun i hi=>by
   obtain ⟨cs',h1,h2⟩:=hx i (by omega)
   obtain ⟨d,rfl,hg⟩:=dec _ _ _ h2
   exact ⟨d,by rw [← hs]; exact h1,hg⟩
  have hlist:∀ k,k≤len→∃ l:List α,l.length=k∧∀ i d,l[i]? = some d→w.cells? base (a.add (i*s)) s=some (encd d)∧Good d:=by
   intro k
   induction k with
   | zero=>intro _; exact ⟨[],rfl,fun i d h=>by simp at h⟩
   | succ k ih =>
    intro hk
    obtain ⟨l,h1,h2⟩:=ih (by omega)
    obtain ⟨d,hd1,hd2⟩:=hd k (by omega)
    refine ⟨l++[d],by simp [h1],fun i d' hi=>?_⟩
    rw [List.getElem?_append] at hi
    split at hi
    ·exact h2 i d' hi
    ·rename_i hlt
     have:i=k:=by
      have:=(List.getElem?_eq_some_iff.1 hi).1
      simp at this; omega
     subst this
     rw [h1,Nat.sub_self] at hi
     simp at hi; subst hi
     exact ⟨hd1,hd2⟩
  obtain ⟨l,h1,h2⟩:=hlist len (Nat.le_refl _)
  subst h1
  refine ⟨some a,cap,l,hc,⟨fun hne=>?_,fun i d hi j u hu hj=>?_⟩,hl,hm,fun d hd=>?_⟩
  ·cases l with
   | nil=>exact absurd rfl hne
   | cons d l =>
    obtain ⟨h3,_⟩:=h2 0 d rfl
    obtain ⟨h4,h5⟩:=Qs h3
    obtain ⟨u,hu⟩:=A0 (l:=encd d) (i:=0) (by omega)
    have h6:=h5 0 u hu
    rw [Nat.zero_mul] at h6
    have h7:(a.add 0).add 0=a:=by simp [Addr.add]
    rw [h7] at h6
    exact ⟨a.block,a.off,by rw [← NU h6]⟩
  ·obtain ⟨h3,_⟩:=h2 i d hi
   have h5:=(Qs h3).2 j u hu
   rw [Go.Deep.add_add] at h5
   have h6:=NU h5
   rw [h6] at h5
   have hblk:∀ q,(a.add q).block=a.block∧(a.add q).off=a.off+q:=by
    intro q; unfold Addr.add
    by_cases hq:q=0 <;> simp [hq]
   rw [(hblk _).1,(hblk _).2,← Nat.add_assoc] at h5
   obtain ⟨b,o,sp⟩:=a
   exact h5
  ·obtain ⟨i,hi⟩:=List.getElem?_of_mem hd
   exact (h2 i d hi).2
theorem Tq {α:Type} {t e:TypeId} {s:Nat} {v:Value} {d:DataW H} {ps:List MemPlace} {encd:α→List Value} {Good:α→Prop} (ht:P.underlying t=some (.slice e)) (hs:P.cellsOf e=s) (h0:0<s)
  (dec:∀ n cs y,DataW.trod enc P w base spare held n e cs=some y→∃ d,cs=encd d∧Good d) (hv:∃ a n c,v = .slice a n c) (h:DataW.Trod enc P w base spare held t v d ps) :
  ∃ (a:Option Addr) (c:Nat) (l:List α),v = .slice a l.length c∧Rd w a s encd l∧l.length≤c∧c≤maxLen∧(∀ d∈l,Good d):=by
 obtain ⟨fuel,hf⟩:=h
 obtain ⟨a,n,c,rfl⟩:=hv
 exact YX ht hs h0 dec (by simpa [Value.cells] using hf)
theorem Pk {e:TypeId} {k:IntKind} (he:P.underlying e=some (.int k)):∀ n cs y,DataW.trod enc P w base spare held n e cs=some y→∃ d:Int,cs=[Value.int k d]∧(k.min≤d∧d≤k.max):=by
 intro n cs y h
 obtain ⟨m,h1,_,h2⟩:=DataW.trod_int he h
 exact ⟨m,h1,HM h2⟩
end
end Go.GV

/- Closed facts on the translation of this seat: sizes, zero values, fields; printed by program. -/
namespace Go.Proofs.YtapphbmlkdhnmaaGreat
open Go.GV
theorem Gq:DR Tryz.prog 121=some false:=by kernel_rfl
theorem E0:DR Tryz.prog 168=some false:=by kernel_rfl
theorem Bt:DR Tryz.prog 2=some false:=by kernel_rfl
theorem F9:DR Tryz.prog 203=some false:=by kernel_rfl
theorem GK:DR Tryz.prog 22=some false:=by kernel_rfl
theorem Hy:DR Tryz.prog 221=some false:=by kernel_rfl
theorem Pm:DR Tryz.prog 222=some false:=by kernel_rfl
theorem RZ:DR Tryz.prog 229=some true:=by kernel_rfl
theorem Gw:DR Tryz.prog 23=some false:=by kernel_rfl
theorem Sa:DR Tryz.prog 230=some false:=by kernel_rfl
theorem BK:DR Tryz.prog 24=some false:=by kernel_rfl
theorem Kz:DR Tryz.prog 25=some false:=by kernel_rfl
theorem Dx:DR Tryz.prog 253=some false:=by kernel_rfl
theorem GL:DR Tryz.prog 258=some true:=by kernel_rfl
theorem Dh:DR Tryz.prog 26=some false:=by kernel_rfl
theorem Kb:DR Tryz.prog 260=some false:=by kernel_rfl
theorem Cm:DR Tryz.prog 28=some true:=by kernel_rfl
theorem BX:DR Tryz.prog 29=some false:=by kernel_rfl
theorem BV:DR Tryz.prog 3=some false:=by kernel_rfl
theorem NV:DR Tryz.prog 31=some true:=by kernel_rfl
theorem FN:DR Tryz.prog 33=some true:=by kernel_rfl
theorem ag_34:DR Tryz.prog 34=some false:=by kernel_rfl
theorem Ts:DR Tryz.prog 36=some false:=by kernel_rfl
theorem Jf:DR Tryz.prog 4=some false:=by kernel_rfl
theorem E7:DR Tryz.prog 62=some true:=by kernel_rfl
theorem JP:DR Tryz.prog 64=some true:=by kernel_rfl
theorem Ho:DR Tryz.prog 92=some true:=by kernel_rfl
theorem HN:Eg Tryz.prog 2=some 8:=by kernel_rfl
theorem Zz:Eg Tryz.prog 229=some 32:=by kernel_rfl
theorem Z0:Eg Tryz.prog 230=some 24:=by kernel_rfl
theorem V1:Eg Tryz.prog 24=some 8:=by kernel_rfl
theorem Z1:Eg Tryz.prog 258=some 16:=by kernel_rfl
theorem by_3:Eg Tryz.prog 3=some 8:=by kernel_rfl
theorem L7:Eg Tryz.prog 62=some 56:=by kernel_rfl
theorem V2:Eg Tryz.prog 64=some 16:=by kernel_rfl
theorem Tt:Eg Tryz.prog 92=some 32:=by kernel_rfl
theorem Jg:A4 Tryz.prog 10=true:=by kernel_rfl
theorem Z3:A4 Tryz.prog 104=true:=by kernel_rfl
theorem Z4:A4 Tryz.prog 105=true:=by kernel_rfl
theorem Z5:A4 Tryz.prog 106=true:=by kernel_rfl
theorem Lf:A4 Tryz.prog 109=true:=by kernel_rfl
theorem Tu:A4 Tryz.prog 11=true:=by kernel_rfl
theorem Pn:A4 Tryz.prog 110=true:=by kernel_rfl
theorem V3:A4 Tryz.prog 111=true:=by kernel_rfl
theorem V4:A4 Tryz.prog 112=true:=by kernel_rfl
theorem V5:A4 Tryz.prog 113=true:=by kernel_rfl
theorem V6:A4 Tryz.prog 114=true:=by kernel_rfl
theorem Z6:A4 Tryz.prog 115=true:=by kernel_rfl
theorem Z7:A4 Tryz.prog 116=true:=by kernel_rfl
theorem Po:A4 Tryz.prog 117=true:=by kernel_rfl
theorem V7:A4 Tryz.prog 118=true:=by kernel_rfl
theorem Z8:A4 Tryz.prog 119=true:=by kernel_rfl
theorem L8:A4 Tryz.prog 12=true:=by kernel_rfl
theorem Z9:A4 Tryz.prog 120=true:=by kernel_rfl
theorem ZA:A4 Tryz.prog 121=true:=by kernel_rfl
theorem ZB:A4 Tryz.prog 122=true:=by kernel_rfl
theorem ZC:A4 Tryz.prog 123=true:=by kernel_rfl
theorem V8:A4 Tryz.prog 124=true:=by kernel_rfl
theorem Sb:A4 Tryz.prog 125=true:=by kernel_rfl
theorem ZD:A4 Tryz.prog 126=true:=by kernel_rfl
theorem ZE:A4 Tryz.prog 127=true:=by kernel_rfl
theorem ZF:A4 Tryz.prog 128=true:=by kernel_rfl
theorem ZG:A4 Tryz.prog 129=true:=by kernel_rfl
theorem NW:A4 Tryz.prog 13=true:=by kernel_rfl
theorem ZH:A4 Tryz.prog 130=true:=by kernel_rfl
theorem ZI:A4 Tryz.prog 131=true:=by kernel_rfl
theorem ZJ:A4 Tryz.prog 132=true:=by kernel_rfl
theorem ZL:A4 Tryz.prog 133=true:=by kernel_rfl
theorem ZM:A4 Tryz.prog 134=true:=by kernel_rfl
theorem ZN:A4 Tryz.prog 135=true:=by kernel_rfl
theorem ZO:A4 Tryz.prog 136=true:=by kernel_rfl
theorem ZP:A4 Tryz.prog 137=true:=by kernel_rfl
theorem ZQ:A4 Tryz.prog 138=true:=by kernel_rfl
theorem ZR:A4 Tryz.prog 139=true:=by kernel_rfl
theorem Tv:A4 Tryz.prog 14=true:=by kernel_rfl
theorem ZS:A4 Tryz.prog 140=true:=by kernel_rfl
theorem ZT:A4 Tryz.prog 141=true:=by kernel_rfl
theorem ZU:A4 Tryz.prog 142=true:=by kernel_rfl
theorem ZV:A4 Tryz.prog 143=true:=by kernel_rfl
theorem V9:A4 Tryz.prog 15=true:=by kernel_rfl
theorem ZW:A4 Tryz.prog 156=true:=by kernel_rfl
theorem ZX:A4 Tryz.prog 157=true:=by kernel_rfl
theorem VA:A4 Tryz.prog 158=true:=by kernel_rfl
theorem NX:A4 Tryz.prog 16=true:=by kernel_rfl
theorem VB:A4 Tryz.prog 160=true:=by kernel_rfl
theorem VC:A4 Tryz.prog 161=true:=by kernel_rfl
theorem ZY:A4 Tryz.prog 162=true:=by kernel_rfl
theorem ZZ:A4 Tryz.prog 163=true:=by kernel_rfl
theorem Aaa:A4 Tryz.prog 164=true:=by kernel_rfl
theorem Aab:A4 Tryz.prog 165=true:=by kernel_rfl
theorem Aac:A4 Tryz.prog 166=true:=by kernel_rfl
theorem Aad:A4 Tryz.prog 167=true:=by kernel_rfl
theorem Aae:A4 Tryz.prog 168=true:=by kernel_rfl
theorem VD:A4 Tryz.prog 169=true:=by kernel_rfl
theorem VE:A4 Tryz.prog 17=true:=by kernel_rfl
theorem Sc:A4 Tryz.prog 170=true:=by kernel_rfl
theorem Aaf:A4 Tryz.prog 171=true:=by kernel_rfl
theorem Aag:A4 Tryz.prog 172=true:=by kernel_rfl
theorem Aah:A4 Tryz.prog 173=true:=by kernel_rfl
theorem Pp:A4 Tryz.prog 174=true:=by kernel_rfl
theorem Sd:A4 Tryz.prog 175=true:=by kernel_rfl
theorem VF:A4 Tryz.prog 176=true:=by kernel_rfl
theorem Aai:A4 Tryz.prog 177=true:=by kernel_rfl
theorem Pq:A4 Tryz.prog 178=true:=by kernel_rfl
theorem Aaj:A4 Tryz.prog 179=true:=by kernel_rfl
theorem K3:A4 Tryz.prog 18=true:=by kernel_rfl
theorem Se:A4 Tryz.prog 180=true:=by kernel_rfl
theorem Aak:A4 Tryz.prog 181=true:=by kernel_rfl
theorem Aal:A4 Tryz.prog 182=true:=by kernel_rfl
theorem Aam:A4 Tryz.prog 186=true:=by kernel_rfl
theorem VG:A4 Tryz.prog 187=true:=by kernel_rfl
theorem Aan:A4 Tryz.prog 188=true:=by kernel_rfl
theorem VH:A4 Tryz.prog 189=true:=by kernel_rfl
theorem YY:A4 Tryz.prog 19=true:=by kernel_rfl
theorem Aao:A4 Tryz.prog 190=true:=by kernel_rfl
theorem Aap:A4 Tryz.prog 191=true:=by kernel_rfl
theorem Aaq:A4 Tryz.prog 192=true:=by kernel_rfl
theorem Aar:A4 Tryz.prog 193=true:=by kernel_rfl
theorem Aas:A4 Tryz.prog 194=true:=by kernel_rfl
theorem Aat:A4 Tryz.prog 195=true:=by kernel_rfl
theorem VI:A4 Tryz.prog 196=true:=by kernel_rfl
theorem VJ:A4 Tryz.prog 197=true:=by kernel_rfl
theorem Aau:A4 Tryz.prog 198=true:=by kernel_rfl
theorem Aav:A4 Tryz.prog 199=true:=by kernel_rfl
theorem YZ:A4 Tryz.prog 20=true:=by kernel_rfl
theorem VK:A4 Tryz.prog 200=true:=by kernel_rfl
theorem Aaw:A4 Tryz.prog 201=true:=by kernel_rfl
theorem Aax:A4 Tryz.prog 202=true:=by kernel_rfl
theorem Aay:A4 Tryz.prog 203=true:=by kernel_rfl
theorem Aaz:A4 Tryz.prog 204=true:=by kernel_rfl
theorem Aa0:A4 Tryz.prog 205=true:=by kernel_rfl
theorem FA:A4 Tryz.prog 206=true:=by kernel_rfl
theorem Aa1:A4 Tryz.prog 207=true:=by kernel_rfl
theorem Aa2:A4 Tryz.prog 208=true:=by kernel_rfl
theorem Qt:A4 Tryz.prog 21=true:=by kernel_rfl
theorem Aa3:A4 Tryz.prog 210=true:=by kernel_rfl
theorem Aa4:A4 Tryz.prog 211=true:=by kernel_rfl
theorem VL:A4 Tryz.prog 212=true:=by kernel_rfl
theorem VM:A4 Tryz.prog 213=true:=by kernel_rfl
theorem Aa5:A4 Tryz.prog 214=true:=by kernel_rfl
theorem Aa6:A4 Tryz.prog 215=true:=by kernel_rfl
theorem Aa7:A4 Tryz.prog 216=true:=by kernel_rfl
theorem VN:A4 Tryz.prog 217=true:=by kernel_rfl
theorem VO:A4 Tryz.prog 218=true:=by kernel_rfl
theorem Aa8:A4 Tryz.prog 219=true:=by kernel_rfl
theorem ca_22:A4 Tryz.prog 22=true:=by kernel_rfl
theorem Aa9:A4 Tryz.prog 220=true:=by kernel_rfl
theorem Sf:A4 Tryz.prog 221=true:=by kernel_rfl
theorem VP:A4 Tryz.prog 222=true:=by kernel_rfl
theorem VQ:A4 Tryz.prog 223=true:=by kernel_rfl
theorem Aba:A4 Tryz.prog 224=true:=by kernel_rfl
theorem Abb:A4 Tryz.prog 225=true:=by kernel_rfl
theorem Sg:A4 Tryz.prog 226=true:=by kernel_rfl
theorem Sh:A4 Tryz.prog 227=true:=by kernel_rfl
theorem Za:A4 Tryz.prog 23=true:=by kernel_rfl
theorem Qu:A4 Tryz.prog 24=true:=by kernel_rfl
theorem Zb:A4 Tryz.prog 25=true:=by kernel_rfl
theorem Qv:A4 Tryz.prog 26=true:=by kernel_rfl
theorem Zc:A4 Tryz.prog 49=true:=by kernel_rfl
theorem Zd:A4 Tryz.prog 50=true:=by kernel_rfl
theorem ca_51:A4 Tryz.prog 51=true:=by kernel_rfl
theorem ca_52:A4 Tryz.prog 52=true:=by kernel_rfl
theorem ca_53:A4 Tryz.prog 53=true:=by kernel_rfl
theorem Ze:A4 Tryz.prog 54=true:=by kernel_rfl
theorem ca_55:A4 Tryz.prog 55=true:=by kernel_rfl
theorem ca_56:A4 Tryz.prog 56=true:=by kernel_rfl
theorem Zf:A4 Tryz.prog 57=true:=by kernel_rfl
theorem NY:A4 Tryz.prog 58=true:=by kernel_rfl
theorem ca_59:A4 Tryz.prog 59=true:=by kernel_rfl
theorem Zg:A4 Tryz.prog 60=true:=by kernel_rfl
theorem ca_61:A4 Tryz.prog 61=true:=by kernel_rfl
theorem ca_62:A4 Tryz.prog 62=true:=by kernel_rfl
theorem Tw:A4 Tryz.prog 63=true:=by kernel_rfl
theorem ca_64:A4 Tryz.prog 64=true:=by kernel_rfl
theorem ca_65:A4 Tryz.prog 65=true:=by kernel_rfl
theorem ca_66:A4 Tryz.prog 66=true:=by kernel_rfl
theorem ca_67:A4 Tryz.prog 67=true:=by kernel_rfl
theorem ca_68:A4 Tryz.prog 68=true:=by kernel_rfl
theorem ca_69:A4 Tryz.prog 69=true:=by kernel_rfl
theorem ca_70:A4 Tryz.prog 70=true:=by kernel_rfl
theorem ca_71:A4 Tryz.prog 71=true:=by kernel_rfl
theorem ca_72:A4 Tryz.prog 72=true:=by kernel_rfl
theorem ca_73:A4 Tryz.prog 73=true:=by kernel_rfl
theorem ca_74:A4 Tryz.prog 74=true:=by kernel_rfl
theorem NZ:A4 Tryz.prog 75=true:=by kernel_rfl
theorem Zh:A4 Tryz.prog 76=true:=by kernel_rfl
theorem VR:A4 Tryz.prog 77=true:=by kernel_rfl
theorem Si:CR Tryz.prog 178=some 34:=by kernel_rfl
theorem DX:CR Tryz.prog 203=some 3:=by kernel_rfl
theorem CL:CR Tryz.prog 22=some 64:=by kernel_rfl
theorem Lg:CR Tryz.prog 222=some 230:=by kernel_rfl
theorem B4:CR Tryz.prog 23=some 62:=by kernel_rfl
theorem Kc:CR Tryz.prog 230=some 229:=by kernel_rfl
theorem Bz:CR Tryz.prog 25=some 24:=by kernel_rfl
theorem Ds:CR Tryz.prog 253=some 258:=by kernel_rfl
theorem C0:CR Tryz.prog 26=some 92:=by kernel_rfl
theorem AO:CR Tryz.prog 29=some 2:=by kernel_rfl
theorem Tx:CR Tryz.prog 57=some 33:=by kernel_rfl
theorem Jh:Cj Tryz.prog 116 0=some 0:=by kernel_rfl
theorem EQ:Cj Tryz.prog 123 0=some 0:=by kernel_rfl
theorem K4:Cj Tryz.prog 123 1=some 1:=by kernel_rfl
theorem Ge:Cj Tryz.prog 170 0=some 0:=by kernel_rfl
theorem E8:Cj Tryz.prog 170 1=some 2:=by kernel_rfl
theorem EA:Cj Tryz.prog 170 2=some 3:=by kernel_rfl
theorem Gf:Cj Tryz.prog 170 3=some 4:=by kernel_rfl
theorem MJ:Cj Tryz.prog 170 4=some 5:=by kernel_rfl
theorem K5:Cj Tryz.prog 224 0=some 0:=by kernel_rfl
theorem Eb:Cj Tryz.prog 224 1=some 1:=by kernel_rfl
theorem GM:Cj Tryz.prog 224 2=some 2:=by kernel_rfl
theorem Ji:Cj Tryz.prog 224 3=some 3:=by kernel_rfl
theorem MK:Cj Tryz.prog 229 0=some 0:=by kernel_rfl
theorem Qw:Cj Tryz.prog 229 1=some 1:=by kernel_rfl
theorem Fh:Cj Tryz.prog 229 2=some 2:=by kernel_rfl
theorem ML:Cj Tryz.prog 229 3=some 3:=by kernel_rfl
theorem C5:Cj Tryz.prog 255 0=some 0:=by kernel_rfl
theorem Jj:Cj Tryz.prog 258 0=some 0:=by kernel_rfl
theorem MN:Cj Tryz.prog 258 1=some 1:=by kernel_rfl
theorem D5:Cj Tryz.prog 28 0=some 0:=by kernel_rfl
theorem Cc:Cj Tryz.prog 28 1=some 1:=by kernel_rfl
theorem FC:Cj Tryz.prog 31 0=some 0:=by kernel_rfl
theorem K6:Cj Tryz.prog 31 1=some 1:=by kernel_rfl
theorem XP:Cj Tryz.prog 33 0=some 0:=by kernel_rfl
theorem XQ:Cj Tryz.prog 33 1=some 1:=by kernel_rfl
theorem LY:Cj Tryz.prog 33 2=some 2:=by kernel_rfl
theorem Ix:Cj Tryz.prog 33 3=some 3:=by kernel_rfl
theorem FD:Cj Tryz.prog 33 4=some 4:=by kernel_rfl
theorem FE:Cj Tryz.prog 33 5=some 6:=by kernel_rfl
theorem Ec:Cj Tryz.prog 48 0=some 0:=by kernel_rfl
theorem FG:Cj Tryz.prog 52 0=some 0:=by kernel_rfl
theorem Dw:Cj Tryz.prog 62 0=some 0:=by kernel_rfl
theorem E1:Cj Tryz.prog 62 1=some 1:=by kernel_rfl
theorem E3:Cj Tryz.prog 62 2=some 2:=by kernel_rfl
theorem Dp:Cj Tryz.prog 62 3=some 3:=by kernel_rfl
theorem J4:Cj Tryz.prog 62 4=some 4:=by kernel_rfl
theorem Ty:Cj Tryz.prog 62 5=some 5:=by kernel_rfl
theorem Iy:Cj Tryz.prog 62 6=some 6:=by kernel_rfl
theorem EJ:Cj Tryz.prog 64 0=some 0:=by kernel_rfl
theorem Iz:Cj Tryz.prog 64 1=some 1:=by kernel_rfl
theorem EY:Cj Tryz.prog 92 0=some 0:=by kernel_rfl
theorem EZ:Cj Tryz.prog 92 1=some 1:=by kernel_rfl
theorem DP:Cj Tryz.prog 92 2=some 2:=by kernel_rfl
theorem EK:Cj Tryz.prog 92 3=some 3:=by kernel_rfl
theorem B0:Tryz.prog.follows .mixedOrders=true:=by kernel_rfl
theorem GN:Kr Tryz.prog 121=some (24,62):=by kernel_rfl
theorem Abc:D4 Tryz.prog 116=some [(0,1)]:=by kernel_rfl
theorem VS:D4 Tryz.prog 123=some [(0,1),(1,1)]:=by kernel_rfl
theorem Abd:D4 Tryz.prog 170=some [(0,2),(2,1),(3,1),(4,1),(5,1)]:=by kernel_rfl
theorem Abe:D4 Tryz.prog 224=some [(0,1),(1,1),(2,1),(3,1)]:=by kernel_rfl
theorem VT:D4 Tryz.prog 229=some [(0,1),(1,1),(2,1),(3,1)]:=by kernel_rfl
theorem Abf:D4 Tryz.prog 255=some [(0,1)]:=by kernel_rfl
theorem Abg:D4 Tryz.prog 258=some [(0,1),(1,1)]:=by kernel_rfl
theorem VU:D4 Tryz.prog 28=some [(0,1),(1,1)]:=by kernel_rfl
theorem pl_31:D4 Tryz.prog 31=some [(0,1),(1,1)]:=by kernel_rfl
theorem Zi:D4 Tryz.prog 33=some [(0,1),(1,1),(2,1),(3,1),(4,2),(6,2)]:=by kernel_rfl
theorem pl_48:D4 Tryz.prog 48=some [(0,1),(1,1)]:=by kernel_rfl
theorem pl_52:D4 Tryz.prog 52=some [(0,1)]:=by kernel_rfl
theorem pl_62:D4 Tryz.prog 62=some [(0,1),(1,1),(2,1),(3,1),(4,1),(5,1),(6,1)]:=by kernel_rfl
theorem VV:D4 Tryz.prog 64=some [(0,1),(1,1)]:=by kernel_rfl
theorem Oa:D4 Tryz.prog 92=some [(0,1),(1,1),(2,1),(3,1)]:=by kernel_rfl
theorem Bu:Cz Tryz.prog 2=some 1:=by kernel_rfl
theorem sz_22:Cz Tryz.prog 22=some 1:=by kernel_rfl
theorem Abh:Cz Tryz.prog 221=some 1:=by kernel_rfl
theorem GO:Cz Tryz.prog 229=some 4:=by kernel_rfl
theorem Zj:Cz Tryz.prog 23=some 1:=by kernel_rfl
theorem Lh:Cz Tryz.prog 230=some 1:=by kernel_rfl
theorem Bo:Cz Tryz.prog 24=some 1:=by kernel_rfl
theorem sz_25:Cz Tryz.prog 25=some 1:=by kernel_rfl
theorem VW:Cz Tryz.prog 253=some 1:=by kernel_rfl
theorem CM:Cz Tryz.prog 258=some 2:=by kernel_rfl
theorem VX:Cz Tryz.prog 26=some 1:=by kernel_rfl
theorem Pr:Cz Tryz.prog 260=some 1:=by kernel_rfl
theorem BQ:Cz Tryz.prog 28=some 2:=by kernel_rfl
theorem Zk:Cz Tryz.prog 29=some 1:=by kernel_rfl
theorem Fs:Cz Tryz.prog 3=some 1:=by kernel_rfl
theorem LA:Cz Tryz.prog 31=some 2:=by kernel_rfl
theorem DL:Cz Tryz.prog 33=some 8:=by kernel_rfl
theorem Zl:Cz Tryz.prog 34=some 1:=by kernel_rfl
theorem VY:Cz Tryz.prog 4=some 1:=by kernel_rfl
theorem B2:Cz Tryz.prog 62=some 7:=by kernel_rfl
theorem Dc:Cz Tryz.prog 64=some 2:=by kernel_rfl
theorem CC:Cz Tryz.prog 92=some 4:=by kernel_rfl
theorem VZ:Tryz.prog.underlying 2=some (.int .i64):=by kernel_rfl
theorem Sj:Tryz.prog.underlying 231=some (.pointer 255):=by kernel_rfl
theorem Gx:Tryz.prog.underlying 24=some (.int .u64):=by kernel_rfl
theorem Abi:Tryz.prog.underlying 260=some (.int .u64):=by kernel_rfl
theorem Qx:Tryz.prog.underlying 3=some (.int .i64):=by kernel_rfl
theorem MO:Tryz.prog.underlying 35=some (.pointer 116):=by kernel_rfl
theorem K8:Tryz.prog.underlying 36=some (.pointer 123):=by kernel_rfl
theorem un_37:Tryz.prog.underlying 37=some (.pointer 52):=by kernel_rfl
theorem un_38:Tryz.prog.underlying 38=some (.pointer 48):=by kernel_rfl
theorem un_4:Tryz.prog.underlying 4=some (.bool):=by kernel_rfl
theorem un_5:Tryz.prog.underlying 5=some (.int .u8):=by kernel_rfl
theorem Tz:Tryz.prog.underlying 79=some (.int .u64):=by kernel_rfl
theorem un_9:Tryz.prog.underlying 9=some (.string):=by kernel_rfl
theorem Abj:C2 Tryz.prog 116=some ([.slice none 0 0]):=by kernel_rfl
theorem Wa:C2 Tryz.prog 123=some ([.map none,.int .u64 0]):=by kernel_rfl
theorem Abk:C2 Tryz.prog 170=some ([.int .i64 0,.slice none 0 0,.slice none 0 0,.slice none 0 0,.slice none 0 0,.int .i64 0]):=by kernel_rfl
theorem Fa:C2 Tryz.prog 2=some ([.int .i64 0]):=by kernel_rfl
theorem Abl:C2 Tryz.prog 221=some ([.pointer none]):=by kernel_rfl
theorem Abm:C2 Tryz.prog 224=some ([.slice none 0 0,.slice none 0 0,.slice none 0 0,.slice none 0 0]):=by kernel_rfl
theorem Jk:C2 Tryz.prog 229=some ([.int .i64 0,.int .i64 0,.int .i64 0,.int .i64 0]):=by kernel_rfl
theorem Abn:C2 Tryz.prog 230=some ([.slice none 0 0]):=by kernel_rfl
theorem Ob:C2 Tryz.prog 24=some ([.int .u64 0]):=by kernel_rfl
theorem Abo:C2 Tryz.prog 255=some ([.slice none 0 0]):=by kernel_rfl
theorem Sk:C2 Tryz.prog 258=some ([.int .i64 0,.int .i64 0]):=by kernel_rfl
theorem Abp:C2 Tryz.prog 260=some ([.int .u64 0]):=by kernel_rfl
theorem FO:C2 Tryz.prog 28=some ([.int .i64 0,.slice none 0 0]):=by kernel_rfl
theorem Zm:C2 Tryz.prog 29=some ([.slice none 0 0]):=by kernel_rfl
theorem Sm:C2 Tryz.prog 3=some ([.int .i64 0]):=by kernel_rfl
theorem Wb:C2 Tryz.prog 31=some ([.slice none 0 0,.slice none 0 0]):=by kernel_rfl
theorem II:C2 Tryz.prog 33=some ([.int .u64 0,.int .i64 0,.bool false,.slice none 0 0,.int .i64 0,.slice none 0 0,.slice none 0 0,.slice none 0 0]):=by kernel_rfl
theorem zc_34:C2 Tryz.prog 34=some ([.nilFunc]):=by kernel_rfl
theorem zc_4:C2 Tryz.prog 4=some ([.bool false]):=by kernel_rfl
theorem zc_48:C2 Tryz.prog 48=some ([.slice none 0 0,.int .u64 0]):=by kernel_rfl
theorem zc_52:C2 Tryz.prog 52=some ([.slice none 0 0]):=by kernel_rfl
theorem Eh:C2 Tryz.prog 62=some ([.int .u64 0,.int .i64 0,.int .i64 0,.int .i64 0,.int .i64 0,.int .i64 0,.bool false]):=by kernel_rfl
theorem Hr:C2 Tryz.prog 64=some ([.int .i64 0,.int .i64 0]):=by kernel_rfl
theorem Fd:C2 Tryz.prog 92=some ([.int .i64 0,.int .i64 0,.int .i64 0,.int .i64 0]):=by kernel_rfl
theorem Qy:(Tryz.prog.info? 62).bind (·.zero)=some (.agg #[.int .u64 0,.int .i64 0,.int .i64 0,.int .i64 0,.int .i64 0,.int .i64 0,.bool false]):=by kernel_rfl
end Go.Proofs.YtapphbmlkdhnmaaGreat

/- Plain law of shortest ways: rounds of relaxing come to an end, where numbers are that fit. -/
namespace Go.Proofs.YtapphbmlkdhnmaaGreat
open Go.GV

/-- An arc: from where, to where, how long. -/
abbrev Ar:=Nat × Nat × Int
def upd (p:Nat→Int) (v:Nat) (x:Int):Nat→Int:=fun u=>if u=v then x else p u
def HO (p:Nat→Int) (a:Ar):Nat→Int:=if p a.1+a.2.2<p a.2.1 then upd p a.2.1 (p a.1+a.2.2) else p
def Fea (A:List Ar) (q:Nat→Int):Prop:=∀ a∈A,q a.2.1≤q a.1+a.2.2
/-- The least lengths of ways of so many arcs, or less, from anywhere. -/
def step0 (A:List Ar) (d:Nat→Int) (v:Nat):Int:=A.foldl (fun m a=>if a.2.1=v then min m (d a.1+a.2.2) else m) (d v)
def DD (A:List Ar):Nat→Nat→Int
 | 0,_=>0
 | r+1,v=>step0 A (DD A r) v
theorem Kd {d:Nat→Int} {v:Nat}:∀ {A:List Ar} {m:Int},A.foldl (fun m a=>if a.2.1=v then min m (d a.1+a.2.2) else m) m≤m
 | [],m=>Int.le_refl _
 | a::A,m=>by
  rw [List.foldl_cons]
  refine Int.le_trans Kd ?_
  split
  ·exact Int.min_le_left ..
  ·exact Int.le_refl _
theorem LB {d:Nat→Int} {v:Nat}:∀ {A:List Ar} {m:Int} {a:Ar},a∈A→a.2.1=v→A.foldl (fun m a=>if a.2.1=v then min m (d a.1+a.2.2) else m) m≤d a.1+a.2.2
 | b::A,m,a,h,hv=>by
  rw [List.foldl_cons]
  rcases List.mem_cons.1 h with rfl | h
  ·refine Int.le_trans Kd ?_
   rw [if_pos hv]
   exact Int.min_le_right ..
  ·exact LB h hv
theorem MP {d:Nat→Int} {v:Nat}:∀ {A:List Ar} {m:Int},A.foldl (fun m a=>if a.2.1=v then min m (d a.1+a.2.2) else m) m=m∨∃ a∈A,a.2.1=v∧A.foldl (fun m a=>if a.2.1=v then min m (d a.1+a.2.2) else m) m=d a.1+a.2.2
 | [],m => .inl rfl
 | b::A,m=>by
  rw [List.foldl_cons]
  rcases MP (d:=d) (v:=v) (A:=A) (m:=if b.2.1=v then min m (d b.1+b.2.2) else m) with h | ⟨a,ha,hv,h⟩
  ·rw [h]
   by_cases hb:b.2.1=v
   ·rw [if_pos hb]
    rcases Int.le_total m (d b.1+b.2.2) with h5 | h5
    ·exact .inl (Int.min_eq_left h5)
    ·exact .inr ⟨b,List.mem_cons_self ..,hb,Int.min_eq_right h5⟩
   ·rw [if_neg hb]; exact .inl rfl
  ·exact .inr ⟨a,List.mem_cons_of_mem _ ha,hv,h⟩
theorem Wc (A:List Ar) (r v:Nat):DD A (r+1) v≤DD A r v:=Kd
theorem K9 (A:List Ar) (v:Nat):∀ {r s:Nat},r≤s→DD A s v≤DD A r v
 | r,s,h=>by
  obtain ⟨k,rfl⟩:=Nat.exists_eq_add_of_le h
  induction k with
  | zero=>exact Int.le_refl _
  | succ k ih=>exact Int.le_trans (Wc A (r+k) v) (ih (by omega))
theorem Wd {A:List Ar} {a:Ar} (h:a∈A) (r:Nat):DD A (r+1) a.2.1≤DD A r a.1+a.2.2:=LB h rfl
theorem T0 (A:List Ar) (r v:Nat):DD A (r+1) v=DD A r v∨∃ a∈A,a.2.1=v∧DD A (r+1) v=DD A r a.1+a.2.2:=MP
/-- Whatever gets less so late goes back along arcs. -/
theorem Qz {A:List Ar}:∀ {r v:Nat},DD A (r+1) v<DD A r v→∃ x:Nat→Nat,x (r+1)=v∧∀ j,j≤r→DD A (j+1) (x (j+1))<DD A j (x (j+1))∧∃ a∈A,a.1=x j∧a.2.1=x (j+1)∧DD A (j+1) (x (j+1))=DD A j (x j)+a.2.2
 | 0,v,h=>by
  rcases T0 A 0 v with h1 | ⟨a,ha,hv,h1⟩
  ·omega
  ·refine ⟨fun j=>if j=0 then a.1 else v,rfl,fun j hj=>?_⟩
   obtain rfl:j=0:=by omega
   exact ⟨h,a,ha,rfl,hv,h1⟩
 | r+1,v,h=>by
  rcases T0 A (r+1) v with h1 | ⟨a,ha,hv,h1⟩
  ·omega
  ·have h2:=Wc A r a.1
   have h3:=Wd ha r
   rw [hv] at h3
   have h4:DD A (r+1) a.1<DD A r a.1:=by omega
   obtain ⟨x,hx,hj⟩:=Qz h4
   obtain ⟨y,hy1,hy2⟩:∃ y:Nat→Nat,y (r+2)=v∧∀ j,j≠r+2→y j=x j:=⟨fun j=>if j=r+2 then v else x j,if_pos rfl,fun j h=>if_neg h⟩
   refine ⟨y,hy1,fun j hjr=>?_⟩
   by_cases h5:j=r+1
   ·subst h5
    rw [show r+1+1=r+2 from rfl,hy1,hy2 _ (by omega)]
    exact ⟨h,a,ha,hx.symm,hv,by rw [hx]; exact h1⟩
   ·rw [hy2 _ (by omega),hy2 _ (by omega)]
    exact hj j (by omega)
theorem KA:∀ (n:Nat) (l:List Nat),l.Nodup→(∀ x∈l,x<n)→l.length≤n
 | 0,l,_,h=>by
  cases l with
  | nil=>exact Nat.le_refl _
  | cons x l=>exact absurd (h x (by simp)) (Nat.not_lt_zero _)
 | n+1,l,hd,h=>by
  have h1:=KA n (l.filter (· != n)) (hd.filter _) (fun x hx=>by
   have:=h x (List.mem_filter.1 hx).1
   have h2:=(List.mem_filter.1 hx).2
   simp at h2; omega)
  have h2:l.length=(l.filter (· != n)).length+l.count n:=by
   clear hd h h1
   induction l with
   | nil=>rfl
   | cons x l ih =>
    rw [List.count_cons,List.filter_cons]
    by_cases hx:x=n
    ·subst hx; simp; omega
    ·simp [hx]; omega
  have h3:l.count n≤1:=List.nodup_iff_count.1 hd n
  omega
theorem We {n:Nat} {x:Nat→Nat} (h:∀ j,j≤n→x j<n):∃ i j,i<j∧j≤n∧x i=x j:=by
 refine Classical.byContradiction fun hn=>?_
 have hd:((List.range (n+1)).map x).Nodup:=by
  rw [List.nodup_iff_pairwise_ne,List.pairwise_map]
  refine List.Pairwise.imp_of_mem (R:=fun a b=>a<b) (fun {a b} ha hb hab he=>hn ⟨a,b,hab,?_,he⟩) List.pairwise_lt_range
  have:=List.mem_range.1 hb; omega
 have h1:=KA n _ hd fun y hy=>by
  obtain ⟨j,hj,rfl⟩:=List.mem_map.1 hy
  exact h j (by have:=List.mem_range.1 hj; omega)
 simp at h1
 omega
/-- As many rounds as there are nodes are enough. -/
theorem Abq {A:List Ar} {n:Nat} {q:Nat→Int} (hq:Fea A q) (hA:∀ a∈A,a.1<n∧a.2.1<n) (v:Nat):DD A (n+1) v=DD A n v:=by
 have h1:=Wc A n v
 refine Classical.byContradiction fun hne=>?_
 obtain ⟨x,-,hx⟩:=Qz (show DD A (n+1) v<DD A n v by omega)
 obtain ⟨i,j,hij,hjn,he⟩:=We (n:=n) (x:=fun j=>x (j+1)) (fun j hj=>by
  obtain ⟨_,a,ha,_,h2,_⟩:=hx j hj
  rw [← h2]; exact (hA a ha).2)
 have hmono:∀ k,i+k≤n→DD A (i+1) (x (i+1)) - q (x (i+1))≤DD A (i+k+1) (x (i+k+1)) - q (x (i+k+1)):=by
  intro k
  induction k with
  | zero=>intro _; exact Int.le_refl _
  | succ k ih =>
   intro hk
   have h2:=ih (by omega)
   obtain ⟨_,a,ha,h3,h4,h5⟩:=hx (i+k+1) hk
   have h6:=hq a ha
   rw [h3,h4] at h6
   show _≤DD A (i+(k+1)+1) (x (i+(k+1)+1)) - q (x (i+(k+1)+1))
   rw [show i+(k+1)+1=i+k+1+1 by omega,h5]
   omega
 have h2:=hmono (j - i) (by omega)
 rw [show i+(j - i)+1=j+1 by omega,← he] at h2
 have h3:=(hx j hjn).1
 rw [← he] at h3
 have h4:=K9 A (x (i+1)) (show i+1≤j by omega)
 omega
theorem Sn {A:List Ar} {n:Nat} {q:Nat→Int} (hq:Fea A q) (hA:∀ a∈A,a.1<n∧a.2.1<n):Fea A (DD A n):=fun a ha=>by
 have h1:=Wd ha n
 rw [Abq hq hA] at h1
 exact h1
theorem T1 {A:List Ar} {m:Int} (h0:0≤m) (hA:∀ a∈A,-m≤a.2.2):∀ (r v:Nat),-(r*m)≤DD A r v
 | 0,v=>by simp [DD]
 | r+1,v=>by
  have e:((r+1:Nat):Int)*m=r*m+m:=by rw [Int.natCast_add,Int.add_mul]; simp
  rcases T0 A r v with h | ⟨a,ha,hv,h⟩
  ·rw [h,e]; have:=T1 h0 hA r v; omega
  ·rw [h,e]; have:=T1 h0 hA r a.1; have:=hA a ha; omega
/-! ### Relaxing in place -/
theorem T2 (p:Nat→Int) (a:Ar) (v:Nat):HO p a v≤p v:=by
 unfold HO
 split
 ·unfold upd
  split
  ·rename_i h1 h2; subst h2; omega
  ·exact Int.le_refl _
 ·exact Int.le_refl _
theorem XR {p f:Nat→Int} {a:Ar} (hf:f a.2.1≤f a.1+a.2.2) (h:∀ v,f v≤p v) (v:Nat):f v≤HO p a v:=by
 unfold HO
 split
 ·unfold upd
  split
  ·rename_i h1 h2; subst h2; have:=h a.1; omega
  ·exact h v
 ·exact h v
theorem Wf (p:Nat→Int) (a:Ar):HO p a a.2.1≤p a.1+a.2.2:=by
 unfold HO
 split
 ·unfold upd; rw [if_pos rfl]; exact Int.le_refl _
 ·omega
theorem KC:∀ (A:List Ar) (p:Nat→Int) (v:Nat),A.foldl HO p v≤p v
 | [],_,_=>Int.le_refl _
 | a::A,p,v=>Int.le_trans (KC A _ v) (T2 p a v)
theorem Ps {f:Nat→Int}:∀ {A:List Ar} {p:Nat→Int},Fea A f→(∀ v,f v≤p v)→∀ v,f v≤A.foldl HO p v
 | [],_,_,h,v=>h v
 | a::_,_,hf,h,v=>Ps (fun b hb=>hf b (List.mem_cons_of_mem _ hb)) (XR (hf a (List.mem_cons_self ..)) h) v
theorem Q0 {q:Nat→Int}:∀ {A:List Ar} {p:Nat→Int},(∀ v,p v≤q v)→∀ a∈A,A.foldl HO p a.2.1≤q a.1+a.2.2
 | b::A,p,h,a,ha=>by
  rw [List.foldl_cons]
  rcases List.mem_cons.1 ha with rfl | ha
  ·have h1:=KC A (HO p a) a.2.1
   have h2:=Wf p a
   have:=h a.1
   omega
  ·exact Q0 (fun v=>Int.le_trans (T2 p b v) (h v)) a ha
/-- Rounds. -/
def ER (A:List Ar):Nat→(Nat→Int)→Nat→Int
 | 0,p=>p
 | r+1,p=>A.foldl HO (ER A r p)
theorem J5 (A:List Ar):∀ (r:Nat) (v:Nat),ER A r (fun _=>0) v≤DD A r v
 | 0,v=>Int.le_refl _
 | r+1,v=>by
  show A.foldl HO (ER A r fun _=>0) v≤_
  rcases T0 A r v with h | ⟨a,ha,hv,h⟩
  ·rw [h]; exact Int.le_trans (KC A _ v) (J5 A r v)
  ·rw [h,← hv]; exact Q0 (J5 A r) a ha
theorem J6 {A:List Ar} {f:Nat→Int} (hf:Fea A f) (h0:∀ v,f v≤0):∀ (r v:Nat),f v≤ER A r (fun _=>0) v
 | 0,v=>h0 v
 | r+1,v=>Ps hf (J6 hf h0 r) v
/-- Numbers made anew fit, and are small. -/
theorem Uq {A:List Ar} {n:Nat} {q:Nat→Int} (hq:Fea A q) (hA:∀ a∈A,a.1<n∧a.2.1<n):Fea A (ER A n fun _=>0):=by
 have hf:=Sn hq hA
 have h0:∀ v,DD A n v≤0:=fun v=>K9 A v (Nat.zero_le n)
 have he:∀ v,ER A n (fun _=>0) v=DD A n v:=fun v=>Int.le_antisymm (J5 A n v) (J6 hf h0 n v)
 intro a ha
 rw [he,he]
 exact hf a ha
theorem Wg {A:List Ar} {n:Nat} {q:Nat→Int} (hq:Fea A q) (hA:∀ a∈A,a.1<n∧a.2.1<n) {m:Int} (hm:0≤m) (hc:∀ a∈A,-m≤a.2.2) (r v:Nat) : -(n*m)≤ER A r (fun _=>0) v∧ER A r (fun _=>0) v≤0 :=
 ⟨Int.le_trans (T1 hm hc n v) (J6 (Sn hq hA) (fun v=>K9 A v (Nat.zero_le n)) r v),Int.le_trans (J5 A r v) (K9 A v (Nat.zero_le r))⟩

end Go.Proofs.YtapphbmlkdhnmaaGreat
