/- Part 1 of the proof. -/
import Derived.RangeFuncRecord
import Derived.RangeFuncCalls
import Derived.Laws.Sem
import Derived.Laws.World
import Derived.Sort.QuietThIn
import Derived.StillTail
import Derived.OrdersHeld
import Derived.OrdersIn
import Derived.Laws.Bits
namespace Go.GV
variable{α:Type}{p:Addr}{cap first:Array Operand}{ps:Array Tmp}{args:Array Value}{assign body c:Code}{F:Fence}{fn:Func}{f:FuncId}{k2:IntKind}{L L':List (Nat × Obj)}{cs:List Frame}{S' ts z:List Nat}{l l1 l2 l3:List Oper}{vs:List Value}{xs:List α}{D b' i id id' j n off s:Nat}{o':Obj}{oj:Oper}{x:Operand}{r:Option Nat}{P:Program}{q:Prop}{u:Tmp}{ds:TypeDesc}{d e el t t1 t2:TypeId}{v v1 v2 v3:Value}{R R':Value->World->Prop}{w w' w1:World}
theorem qD{α:Sort _}(a:α):∃b,b=a:=⟨a,rfl⟩
abbrev qaa:=@congrArg
abbrev qab:=@List.mem_singleton
abbrev qac:=@Bool.eq_iff_iff
abbrev qad:=@List.mem_of_getElem?
abbrev qae:=@List.mem_cons_of_mem
abbrev qaf:=@List.mem_cons
abbrev qag:=@Bool.and_eq_true
abbrev qah:=@List.mem_cons_self
abbrev qai:=@Nat.zero_le
abbrev qaj:=@List.length_map
abbrev qak:=@List.mem_map
abbrev qal:=@Option.some.inj
abbrev qam:=@decide_eq_true
abbrev qan:=@List.not_mem_nil
abbrev qao:=@Nat.lt_or_ge
abbrev qap:=@List.mem_append_right
abbrev qaq:=@Nat.le_refl
abbrev qar:=@List.append_nil
abbrev qas:=@List.map_cons
abbrev qat:=@List.length_append
abbrev qau:=@List.map_append
abbrev qav:=@decide_eq_true_eq
abbrev qaw:=@List.all_eq_true
abbrev qax:=@List.mem_append_left
abbrev qay:=@Nat.not_lt_zero
abbrev qaz:=@List.append_assoc
abbrev qa0:=@Nat.zero_add
abbrev qa1:=@decide_eq_false
abbrev qa2:=@List.mem_append
abbrev qa3:=@Nat.le_trans
abbrev qa4:=@Int.le_refl
abbrev qa5:=@List.mem_range
abbrev qa6:=@List.mem_map_of_mem
abbrev qa7:=@Int.toNat_natCast
abbrev qa8:=@List.length_take
abbrev qa9:=@List.getElem?_map
abbrev qba:=@List.take_length
abbrev qbb:=@Nat.lt_of_lt_of_le
abbrev qbc:=@List.mem_filter
abbrev qbd:=@List.length_cons
abbrev qbe:=@of_decide_eq_true
abbrev qbf:=@List.pairwise_cons
abbrev qbg:=@List.getElem?_eq_none
abbrev qbh:=@List.getElem?_eq_some_iff
abbrev qbi:=@List.mem_iff_getElem?
abbrev qbj:=@Int.le_trans
abbrev qbk:=@List.map_congr_left
abbrev qbl:=@List.perm_middle
abbrev qbm:=@Array.getD_eq_getD_getElem?
abbrev qbn:=@List.flatMap_append
abbrev qbo:=@List.filter_cons
abbrev qbp:=@List.take_append_drop
abbrev qbq:=@of_decide_eq_false
abbrev qbr:=@List.take_add_one
abbrev qbs:=@Bool.true_and
abbrev qbt:=@List.getElem?_take
abbrev qbu:=@List.length_pos_iff
abbrev qbv:=@List.map_nil
abbrev qbw:=@List.flatMap_cons
abbrev qbx:=@List.getElem?_set_ne
abbrev qby:=@List.pairwise_append
abbrev qbz:=@List.count_cons
abbrev qb0:=@Option.some.injEq
abbrev qb1:=@List.getD_eq_getElem?_getD
abbrev qb2:=@Nat.add_mul
abbrev qb3:=@List.length_zip
abbrev qb4:=@List.getElem?_eq_getElem
abbrev qb5:=@List.perm_append_comm
abbrev qb6:=@List.length_singleton
abbrev qb7:=@List.perm_iff_count
abbrev qb8:=@List.length_set
abbrev qb9:=@Nat.zero_mul
abbrev qca:=@List.ext_getElem?
abbrev qcb:=@List.map_map
abbrev qcc:=@List.getElem?_zip_eq_some
abbrev qcd:=@List.find?_cons
abbrev qce:=@List.count_append
abbrev qcf:=@Bool.not_eq_true'
abbrev qcg:=@Array.ext'
abbrev qch:=@Nat.min_eq_left
abbrev qci:=@List.cons.injEq
abbrev qcj:=@List.filter_append
abbrev qck:=@List.eq_nil_of_length_eq_zero
abbrev qcl:=@List.length_zipWith
abbrev qcm:=@List.nil_append
abbrev qcn:=@Int.lt_or_le
abbrev qco:=@List.mem_of_mem_drop
abbrev qcp:=@List.getElem?_append_right
abbrev qcq:=@Option.map_some
abbrev qcr:=@Array.toList_map
abbrev qcs:=@Nat.mul_le_mul_right
abbrev qct:=@Nat.mod_eq_of_lt
abbrev qcu:=@List.cons_append
abbrev qcv:=@Bool.and_false
abbrev qcw:=@List.getElem?_append_left
abbrev qcx:=@Bool.and_true
abbrev qcy:=@List.length_filter_le
abbrev qcz:=@Nat.add_assoc
abbrev qc0:=@List.getElem?_drop
abbrev qc1:=@List.take_left'
abbrev qc2:=@List.getElem?_set_self
abbrev qc3:=@List.nodup_cons
abbrev qc4:=@Bool.and_assoc
abbrev qc5:=@List.take_of_length_le
abbrev qc6:=@List.Perm.append_left
abbrev qc7:=@List.getElem?_of_mem
abbrev qc8:=@Int.natCast_add
abbrev qc9:=@Int.mul_comm
abbrev qda:=@Int.mul_nonneg
abbrev qdb:=@Int.natCast_mul
abbrev qdc:=@Option.map_eq_some_iff
abbrev qdd:=@Nat.mul_one
abbrev qde:=@Nat.not_le
abbrev qdf:=@Int.emod_nonneg
abbrev qdg:=@Int.emod_lt_of_pos
abbrev qdh:=@Nat.eq_of_beq_eq_true
abbrev qdi:=@Nat.add_comm
abbrev qdj:=@List.length_drop
abbrev qdk:=@Nat.eq_zero_or_pos
abbrev qdl:=@List.mem_of_mem_take
abbrev qdm:=@List.foldl_cons
abbrev qdn:=@Array.toList_push
abbrev qdo:=@Array.getElem?_eq_getElem
abbrev qdp:=@Int.mul_le_mul_of_nonneg_left
abbrev qdq:=@Nat.min_self
abbrev qdr:=@List.foldl_append
abbrev qds:=@Int.add_zero
abbrev qdt:=@Bool.not_eq_true
abbrev qdu:=@Nat.le_of_ble_eq_true
abbrev qdv:=@Array.mem_toList_iff
abbrev qdw:=@List.contains_iff_mem
abbrev qdx:=@Array.length_toList
abbrev qdy:=@List.nodup_append
abbrev qdz:=@List.drop_eq_getElem_cons
abbrev qd0:=@Nat.mul_le_mul
abbrev qd1:=@List.getElem?_zipWith
abbrev qd2:=@Bool.false_and
abbrev qd3:=@List.range_succ
abbrev qd4:=@Int.toNat_of_nonneg
abbrev qd5:=@decide_eq_false_iff_not
abbrev qd6:=@List.filter_eq_self
abbrev qd7:=@Option.bind_some
abbrev qd8:=@Nat.le_of_not_lt
abbrev qd9:=@Array.getElem?_eq_some_iff
abbrev qea:=@Array.getElem?_toList
abbrev qeb:=@List.pairwise_iff_getElem
abbrev qec:=@List.getElem?_set
abbrev qed:=@Int.tdiv_eq_ediv_of_nonneg
abbrev qee:=@Int.tmod_eq_emod_of_nonneg
abbrev qef:=@List.getElem?_range
abbrev qeg:=@Array.toList_modify
abbrev qeh:=@Int.mul_le_mul_of_nonneg_right
abbrev qei:=@List.mem_flatMap
abbrev qej:=@Nat.succ_lt_succ
abbrev qek:=@List.find?_eq_none
abbrev qel:=@List.filter_nil
abbrev qem:=@List.flatMap_singleton
abbrev qen:=@Array.getElem?_eq_none
abbrev qeo:=@List.mem_of_mem_eraseIdx
abbrev qep:=@List.mem_or_eq_of_mem_set
abbrev qeq:=@List.drop_of_length_le
abbrev qer:=@List.length_eq_zero_iff
abbrev qes:=@List.perm_append_singleton
theorem U{α:Sort _}{a:α}:a=a:=rfl
open Go
structure Env where
 g:Nat->Value
 ds:List Deferred
def ev(e:Env):Operand->Value
 | .tmp t=>e.g t
 | .const v=>v
 | .global g => .pointer (some ⟨g,0,none⟩)
 | .func f => .func (.func f) #[] #[]
def put(e:Env)(d:Option Tmp)(v:Value):Env :=
 match d with
 |some d=>⟨fun i=>bif Nat.beq i d then v else e.g i,e.ds⟩
 |none=>e
def SF(e:Env):List (Nat × Value)->Env
 | []=>e
 |(d,v)::l=>put (SF e l) (some d) v
def LD(e:Env):List (Nat × Value)->Prop
 | []=>True
 |(d,v)::l=>e.g d=v/\LD e l
def Sim(n:Nat)(e:Env)(a:Act):Prop:=a.defers=e.ds/\a.tmps.size=n/\∀i,a.tmps.getD i undef=e.g i
theorem Sim.eval{e:Env}{a:Act}(h:Sim n e a):a.eval=ev e:=by
 funext x
 cases x with
 |tmp t=>exact h.2.2 t
 |const v=>rfl
 |global g=>rfl
 |func f=>rfl
theorem Sim.put{e:Env}{a:Act}(h:Sim n e a)(d:Option Tmp)(v:Value)(hd:∀x,d=some x->x<n):Sim n (put e d v)<|a.put d v:=by
 obtain⟨h1,h2,h3⟩:=h
 cases d with
 |none=>exact⟨h1,h2,h3⟩
 |some d =>
  have hdn:=hd d rfl;refine⟨h1,by simp[Act.put,h2],fun i=>?_⟩;simp only[Act.put,GV.put]
  by_cases hi:i=d
  .subst hi;simp[h2,hdn]
  .have hb:Nat.beq i d=false:=by
    cases hc:Nat.beq i d with
    |false=>rfl
    |true=>exact absurd (qdh hc) hi
   rw[hb];simp only[cond_false];rw[<-h3 i];simp[Ne.symm hi]
theorem Mx{e:Env}:∀{l:List (Nat × Value)},LD e l->SF e l=e
 | [],_=>rfl
 |(d,v)::l,h=>by
  have ih:=Mx (e:=e) (l:=l) h.2;simp only[SF,ih,GV.put]
  cases e with
  |mk g ds =>
   congr 1
   funext i
   by_cases hi:Nat.beq i d=true
   .rw[hi];simp only[cond_true];rw[qdh hi];exact h.1.symm
   .simp only[qdt]at hi;rw[hi];rfl
def asB:Value->Option Bool
 | .bool b=>some b
 |_=>none
def eqB:Option Bool->Bool->Bool
 |some true,true=>true
 |some false,false=>true
 |_,_=>false
def nth:List Oper->Nat->Option Tmp
 | [],_=>none
 |o::_,0=>o.dst
 |_::l,j+1=>nth l j
theorem Xs:∀(l:List Oper) (j:Nat),nth l j=(l[j]?).bind (·.dst)
 | [],_=>rfl
 |o::_,0=>rfl
 |_::l,j+1=>by rw[nth,Xs l j];rfl
def AJ(o:Oper)(ops:List Oper)(e:Env):Bool :=
 match o.guard with
 |none=>true
 |some (j,want)=>match nth ops j with
  |none=>false
  |some d=>eqB (asB (e.g d)) want
theorem IP{e:Env}{a:Act}(h:Sim n e a)(o:Oper)(ops:List Oper) :
  Region.wanted o (yielded ops.toArray a.tmps)=AJ o ops e:=by
 unfold Region.wanted AJ yielded
 cases o.guard with
 |none=>rfl
 |some x =>
  obtain⟨j,want⟩:=x;simp only[List.getElem?_toArray,<-Xs]
  cases hd:nth ops j with
  |none=>rfl
  |some d =>
   simp only[qd7];have h3:=h.2.2 d;rw[<-h3,qbm]
   cases a.tmps[d]? with
   |none=>simp[undef,asB,eqB]
   |some v=>cases v <;> simp[asB,eqB];rename_i b;cases b <;> cases want <;> rfl
def Fr(r:Option Nat):Fence:={ fn:=fun _=>True,depth:=none,alive:=false,round:=r }
def Ret(P:Program)(f:FuncId)(args:Array Value)(w:World)(R:Value->World->Prop):Prop :=
 CallsIn Fence.wide 0 P f args w fun e w'=>∃v,e=.returned v/\R v w'
theorem Ret.mono(h:Ret P f args w R)(hr:∀v w',R v w'->R' v w'):Ret P f args w R' :=
 CallsIn.mono h fun _ _ ⟨v,he,hR⟩=>⟨v,he,hr _ _ hR⟩
theorem Ret.calls(h:Ret P f args w R) :
  Calls P f args w fun e w'=>∃v,e=.returned v/\R v w':=callsIn_wide.1 h
def Uu(P:Program)(o:Oper)(e:Env)(K:Env->World->Prop)(Q:Exit->Env->World->Prop):Result Next->Prop
 | .ok (.value v) w'=>K (put e o.dst v) w'
 | .ok .skip w'=>K (put e o.dst undef) w'
 | .ok (.defer d) w'=>K (put ⟨e.g,d::e.ds⟩ o.dst undef) w'
 | .ok (.enter f args) w'=>Ret P f args w' fun v w''=>K (put e o.dst v) w''
 | .ok (.round l f tmps assign body) w'=>RoundIn Fence.wide 0 P l f tmps assign body w' fun x w''=>∃v,x=.returned v/\K (put e o.dst v) w''
 | .halt (.panic v) w'=>Q (.panic [{ v,recovered:=false }]) e w'
 |_=>False
def A4(P:Program)(r:Option Nat)(ops:List Oper)(Q:Exit->Env->World->Prop):List Oper->Env->World->Prop
 | [],e,w=>Q .normal e w
 |o::rest,e,w =>
  if AJ o ops e then Uu P o e (A4 P r ops Q rest) Q ((o.semAt r (ev e)).run P w)
  else A4 P r ops Q rest (put e o.dst undef) w
def Pu(n:Nat)(o:Oper):Bool :=
 match o.dst with
 |some d=>Nat.ble (d+1) n
 |none=>true
theorem HA{o:Oper}(h:Pu n o=true):∀x,o.dst=some x->x<n:=by
 intro x hx;unfold Pu at h;rw[hx]at h;exact qdu h
def Ea(n:Nat):List Oper->Bool
 | []=>true
 |o::l=>Pu n o && Ea n l
def Uv(n:Nat):List Tmp->Bool
 | []=>true
 |t::l=>Nat.ble (t+1) n && Uv n l
def Gs(n:Nat):Code->Bool
 | .region _ ops _=>Ea n ops.toList
 | .seq a b=>Gs n a && Gs n b
 | .cond _ a b=>Gs n a && Gs n b
 | .block _ b=>Gs n b
 | .loop b=>Gs n b
 | .scope b=>Gs n b
 | .rangeFunc _ ps a b=>Uv n ps.toList && (Gs n a && Gs n b)
 |_=>true
def Kh(n:Nat)(Q:Exit->Env->World->Prop):Exit->Act->World->Prop:=fun x a w=>∃e,Sim n e a/\Q x e w
theorem Ie{n:Nat}:∀{l:List Oper},Ea n l=true->∀(i:Nat) (o:Oper),l[i]?=some o->Pu n o=true
 | [],_,i,o,h=>by simp at h
 |x::l,hf,i,o,h=>by
  simp only[Ea,qag]at hf
  cases i with
  |zero=>simp at h;subst h;exact hf.1
  |succ i=>exact Ie hf.2 i o<|by simpa using h
def C4(ops:List Oper):List Nat->List Oper
 | []=>[]
 |i::l=>match ops[i]? with
  |some o=>o::C4 ops l
  |none=>C4 ops l
theorem Ig(ops:List Oper):∀(l:List Oper) (k:Nat),(∀j,l[j]?=ops[k+j]?)->C4 ops (List.range' k l.length)=l
 | [],_,_=>rfl
 |o::l,k,h=>by
  have h0:ops[k]?=some o:=by simpa using(h 0).symm
  simp only[qbd,List.range'_succ,C4,h0];rw[Ig ops l (k+1) (fun j=>by have:=h<|j+1;simpa[qcz,qdi 1 j]using this)]
theorem Mf{P:Program}{r:Option Nat}{n:Nat}{ops:List Oper}{Q:Exit->Env->World->Prop}(hall:Ea n ops=true) :
  ∀(idx:List Nat) (e:Env) (a:Act) (w:World),Sim n e a ->
   A4 P r ops Q (C4 ops idx) e w->wpOpsIn (Fr r) 0 P ops.toArray (Kh n Q) idx a w
 | [],e,a,w,hs,h=>⟨e,hs,h⟩
 |i::idx,e,a,w,hs,h=>by
  have ih:=Mf (P:=P) (r:=r) (Q:=Q) hall idx;simp only[wpOpsIn,List.getElem?_toArray]
  cases h0:ops[i]? with
  |none=>simp only[C4,h0]at h;exact ih e a w hs h
  |some o =>
   simp only[C4,h0]at h;have hlt:=HA<|Ie hall i o h0;simp only[];rw[IP hs];unfold A4 at h
   by_cases hw:AJ o ops e=true
   .rw[if_pos hw]at h |-;refine⟨fun _ _=>trivial,?_⟩;rw[hs.eval];show Oper.uponIn (Fr r) 0 P o a _ _ ((o.semAt r<|ev e).run P w);generalize(o.semAt r<|ev e).run P w=res at h
    match res,h with
    | .ok (.value v) w',h=>exact ih _ _ _ (hs.put o.dst v hlt) h
    | .ok .skip w',h=>exact ih _ _ _ (hs.put o.dst undef hlt) h
    | .ok (.defer d) w',h =>
     refine ih _ _ _ (Sim.put (e:=⟨e.g,d::e.ds⟩) (a:={ a with defers:=d::a.defers }) ⟨?_,hs.2.1,hs.2.2⟩ o.dst undef hlt) h;exact qaa (d::·) hs.1
    | .ok (.enter f args) w',h =>
     refine⟨(fun hc=>by cases hc),?_⟩;have h':CallsIn (Fr r) 0 P f args w' fun x w''=>∃v,x=.returned v/\A4 P r ops Q (C4 ops idx) (put e o.dst v) w'':=h;refine CallsIn.mono h' ?_;rintro x w'' ⟨v,rfl,hv⟩;exact ih _ _ _ (hs.put o.dst v hlt) hv
    | .ok (.round lo f tmps assign body) w',h =>
     refine⟨(fun hc=>by cases hc),?_⟩;have h':RoundIn (Fr r) 0 P lo f tmps assign body w' fun x w''=>∃v,x=.returned v/\A4 P r ops Q (C4 ops idx) (put e o.dst v) w'':=h;refine RoundIn.mono h' ?_;rintro x w'' ⟨v,rfl,hv⟩;exact ih _ _ _ (hs.put o.dst v hlt) hv
    | .halt (.panic v) w',h=>exact⟨e,hs,h⟩
   .rw[if_neg hw]at h |-;exact⟨fun _ _=>trivial,ih _ _ _ (hs.put o.dst undef hlt) h⟩
def Fq(K:Env->World->Prop)(Q:Exit->Env->World->Prop):Exit->Env->World->Prop
 | .normal,e,w=>K e w
 |x,e,w=>Q x e w
def Gk(id:Nat)(Q:Exit->Env->World->Prop):Exit->Env->World->Prop
 | .exit id',e,w=>bif Nat.beq id' id then Q .normal e w else Q (.exit id') e w
 |x,e,w=>Q x e w
def Ih(Q:Exit->Env->World->Prop):Exit->Env->World->Prop
 | .goto _,_,_=>False
 |x,e,w=>Q x e w
def stepq(P:Program)(C:World->Prop)(w:World)(v:Value):Result Next->Prop
 | .ok (.value u) w'=>w'=w/\u=v
 | .ok .skip w'=>w'=w/\v=undef
 | .ok (.enter f args) w'=>w'=w/\Ret P f args w fun u w''=>u=v/\C w''
 |_=>False
def Wq(P:Program)(ops:List Oper)(C:World->Prop)(Q:Env->Prop):List Oper->Env->Prop
 | [],e=>Q e
 |o::rest,e=>if AJ o ops e then ∃v,(∀w,C w->stepq P C w v ((execOp (ev e) o).run P w))/\Wq P ops C Q rest (put e o.dst v)else Wq P ops C Q rest (put e o.dst undef)
def SG(o:Oper):Bool :=
 match o.op with
 | .move _ | .assign _ | .pick _ _ _ | .nilCheck _ | .alloc _ | .box _ _ | .build _ _ | .buildSlice _ _ _ | .load _ _ | .store _ _ _ | .binOp _ _ _ _ _ | .unOp _ _ _ | .convert _ _ _ | .makeFunc _ _ _ | .makeMap _ _ | .makeSlice _ _ _
 | .slice _ _ _ _ _ | .fieldAddr _ _ _ | .field _ _ _ | .indexAddr _ _ _ | .index _ _ _ | .lookup _ _ _ _ | .mapUpdate _ _ _ _ | .insert _ _ _ _ | .mapEntry _ _ _ | .entryStore _ _ _ _ | .extract _ _=>true
 | .call ⟨.builtin .append,_,_⟩ | .call ⟨.builtin .copy,_,_⟩ | .call ⟨.builtin .len,_,_⟩ | .call ⟨.builtin .delete,_,_⟩=>true
 |_=>false
def FX:Result Next->Prop
 | .ok (.value _) _=>True
 | .ok .skip _=>True
 | .halt _ _=>True
 |_=>False
theorem Abr(s:Sem Value):FX<|(do pure (Next.value (<-s)):Sem Next).run P w:=by
 rw[Sem.run_bind];cases s.run P w <;> trivial
theorem Abs(s:Sem α)(f:α->Value):FX<|(do let x <-s;pure (Next.value<|f x):Sem Next).run P w:=by
 rw[Sem.run_bind];cases s.run P w <;> trivial
theorem My(s:Sem α)(k:α->Sem Next)(h:∀x w,FX<|(k x).run P w):FX<|(s >>= k).run P w:=by
 rw[Sem.run_bind]
 cases s.run P w with
 |ok x w=>exact h x w
 |_=>trivial
theorem Xt(ρ:Operand->Value)(x:Operand)(dst:Option Tmp)(ty:TypeId)(pos:String)(af:Array Edge)(g:Option<|Nat × Bool):FX<|(execOp ρ ⟨dst,.nilCheck x,ty,pos,af,g⟩).run P w:=by
 unfold execOp;dsimp only
 split
 .exact trivial
 .exact trivial
 .exact trivial
 .split
  .exact trivial
  .refine My _ _ fun x w=>?_;refine My _ _ fun y w=>?_
   split
   .exact trivial
   .exact trivial
  .exact trivial
 .exact trivial
theorem Abt{r:Result Value}:FX<|r.andThen fun a w'=>Result.ok (Next.value a) w':=by
 cases r <;> trivial
theorem Abu(s:Sem Unit):FX<|(do s;pure Next.skip:Sem Next).run P w:=by
 rw[Sem.run_bind];cases s.run P w <;> trivial
theorem SH(ρ:Operand->Value){o:Oper}(h:SG o=true):FX<|(execOp ρ o).run P w:=by
 obtain⟨dst,op,ty,pos,af,g⟩:=o
 cases op with
 |call c =>
  obtain⟨cal,args,ats⟩:=c
  cases cal with
  |builtin b =>
   cases b <;> first|(cases h;done)|(simp only[execOp,resolve,invoke,builtin,Sem.run_bind,Sem.run_pure,Result.andThen_ok];exact Abt)
  |value f=>cases h
  |invoke a b=>cases h
 |move x=>exact trivial
 |assign x=>exact trivial
 |nilCheck x=>exact Xt ρ x _ _ _ _ _
 |pick c a b=>exact Abs (asBool<|ρ c) fun t=>if t then ρ a else ρ b
 |_=>first|(cases h;done)|exact Abr _|exact Abu _
theorem Mz{P:Program}{n:Nat}{ops:List Oper}{w0:World}{Q:Env->Prop}{Q':Act->Prop}(hQ:∀e a,Sim n e a->Q e->Q' a) :
  ∀(l:List Oper) (e:Env) (a:Act),Ea n l=true->Sim n e a->Wq P ops (fun x=>x=w0) Q l e->wpStill P ops.toArray w0 Q' l a
 | [],e,a,_,hs,h=>hQ e a hs h
 |o::l,e,a,hf,hs,h=>by
  simp only[Ea,qag]at hf;have hlt:=HA hf.1;unfold wpStill;rw[IP hs];unfold Wq at h
  by_cases hw:AJ o ops e=true
  .rw[if_pos hw]at h |-;obtain⟨v,hv,h⟩:=h;have hn:=Mz hQ l _ _ hf.2 (hs.put o.dst v hlt) h;have h1:=hv w0 rfl;unfold Oper.still;rw[hs.eval];generalize(execOp (ev e) o).run P w0=res at h1
   match res,h1 with
   | .ok (.value u) w',h1=>exact⟨h1.1,h1.2 ▸ hn⟩
   | .ok .skip w',h1=>exact⟨h1.1,h1.2 ▸ hn⟩
   | .ok (.enter f args) w',h1=>exact⟨h1.1,v,Calls.mono (Ret.calls h1.2) fun x w'' ⟨u,hu,hv,hw⟩=>⟨hv ▸ hu,hw⟩,hn⟩
  .rw[if_neg hw]at h |-;exact Mz hQ l _ _ hf.2 (hs.put o.dst undef hlt) h
theorem M1{n:Nat}:∀(a b:List Oper),Ea n (a++b)=(Ea n a && Ea n b)
 | [],_=>by simp[Ea]
 |o::a,b=>by simp[Ea,M1 a b,qc4]
theorem Xu{P:Program}{n:Nat}{ops:List Oper}{C:World->Prop}{Q:Env->Prop}{Q':Act->Prop}(hQ:∀e a,Sim n e a->Q e->Q' a) :
  ∀(l:List Oper) (e:Env) (a:Act),Ea n l=true->Sim n e a->Wq P ops C Q l e->wpQuietIn (Fr none) 0 P ops.toArray C Q' l a
 | [],e,a,_,hs,h=>hQ e a hs h
 |o::l,e,a,hf,hs,h=>by
  simp only[Ea,qag]at hf;have hlt:=HA hf.1;refine⟨fun _ _ _ _=>trivial,?_⟩;rw[IP hs];unfold Wq at h
  by_cases hw:AJ o ops e=true
  .rw[if_pos hw]at h |-;obtain⟨v,hv,h⟩:=h;refine⟨v,fun w hC=>?_,Xu hQ l _ _ hf.2 (hs.put o.dst v hlt) h⟩;have h1:=hv w hC;unfold Oper.quietAtIn;rw[hs.eval];generalize(execOp (ev e) o).run P w=res at h1
   match res,h1 with
   | .ok (.value u) w',h1=>exact h1
   | .ok .skip w',h1=>exact h1
   | .ok (.enter f args) w',h1 =>
    refine⟨h1.1,(fun hc=>by cases hc),?_⟩;have h2:CallsIn (Fr none) 0 P f args w fun x w''=>∃u,x=.returned u/\u=v/\C w'':=h1.2;refine CallsIn.mono h2 ?_;rintro x w'' ⟨u,rfl,rfl,hC'⟩;exact⟨rfl,hC'⟩
  .rw[if_neg hw]at h |-;exact Xu hQ l _ _ hf.2 (hs.put o.dst undef hlt) h
def An(P:Program)(f:FuncId):Bool :=
 match P.funcs[f]? with
 |some fn => !(fn.name == "runtime.NumGoroutine") && fn.body.isSome
 |none=>false
theorem Gt(h:An P f=true)(args:Array Value)(w:World):(callFunc f args).run P w=.ok (.enter f args) w:=by
 unfold An at h
 cases hf:P.funcs[f]? with
 |none=>rw[hf]at h;cases h
 |some fn =>
  rw[hf]at h;simp only[qag,qcf]at h;have h1:fn.name ≠ "runtime.NumGoroutine" := by simpa using h.1
  cases hb:fn.body with
  |none=>rw[hb]at h;cases h.2
  |some c=>simp[callFunc,program,Sem.run,hf,h1,hb]
def Ki(P:Program)(md:Region.Mode)(ops:Array Oper)(Q:Exit->Act->World->Prop)(S:World->Prop)(z:List Nat):Nat->Array Bool->Act->World->Prop
 |0,l,a,w=>Region.ready md ops l=[]/\Q .normal a w
 |f+1,l,a,w=>(Region.ready md ops l=[]->Q .normal a w) /\
  ∀i∈Region.ready md ops l,wpOp P ops Q i (fun a' w'=>(z.contains i=false->S w->S w')/\Ki P md ops Q S z f (l.setIfInBounds i true) a' w') a w
section
variable {P:Program}{md:Region.Mode}{ops:Array Oper}{Q:Exit->Act->World->Prop}{S T:World->Prop}{z:List Nat}
theorem V6{l:Array Bool}(hj:j∈Region.ready md ops l)(ho:ops[j]?=some oj)(hi:i∈Region.ready md ops l):∀d∈oj.after,Region.binds md d=true->d.on≠i:=by
 intro d hd hb hon;obtain⟨_,o,ho',hall⟩:=mem_ready.1 hj;rw[ho]at ho';cases ho';have h1:=hall d hd hb;have h0:=(mem_ready.1 hi).1;rw[hon]at h1
 by_cases hs:i<l.size
 .simp[hs]at h0 h1;rw[h0]at h1;cases h1
 .simp[qen<|qd8 hs]at h1
theorem JM{i:Nat}{oi:Oper}{v:Value}(hi:ops[i]?=some oi)(hsel:∀(j:Nat) (o:Oper) cs b,ops[j]?=some o->o.op ≠ .select cs b)(hQ:∀c a w,Q (.panic c) (a.put oi.dst v) w->Q (.panic c) a w)(hz:(∀w,T w)\/(T=S/\∀k ok,ops[k]?=some ok->z.contains k=true->∃d∈ok.after,Region.binds md d=true/\d.on=i)):∀(f:Nat) (l:Array Bool) (a:Act) (w:World),
   (∀j oj,ops[j]?=some oj->j≠i->l.getD j true=false->(∀d∈oj.after,Region.binds md d=true->d.on≠i)->oi.apart ops oj=true) ->
   i∈Region.ready md ops l->YieldsIf P ops T oi v a->T w->Ki P md ops Q S z f (l.setIfInBounds i true) (a.put oi.dst v) w->Ki P md ops Q S z (f+1) l a w
 |f,l,a,w,hfree,hr,hy,hS,H=>by
  refine⟨fun h=>absurd hr (by rw[h];simp),fun j hj=>?_⟩
  by_cases hji:j=i
  .subst hji;exact hy.wpOp hi hS ⟨fun _ h=>h,H⟩
  .match f,H with
   |0,H =>
    have h0:=ready_mono hj hji;rw[H.1]at h0;cases h0
   |f+1,H =>
    obtain⟨hun,oj,hoj,_⟩:=mem_ready.1 hj;have hno:=V6 hj hoj hr
    have hT:∀w',(z.contains j=false->S w->S w')->T w':=fun w' hk=>by
     rcases hz with hz|⟨rfl,hz⟩
     .exact hz w'
     .refine hk ?_ hS;cases hc:z.contains j
      .rfl
      .obtain⟨d,hd,hb,hon⟩:=hz j oj hoj hc;exact absurd hon<|hno d hd hb
    have h2:=wpOp_putIf hoj (hfree j oj hoj hji hun hno) (fun cs b=>hsel i oi cs b hi) (fun cs b=>hsel j oj cs b hoj) hQ hy<|H.2 j<|ready_mono hj hji;refine wpOp_mono (fun a' w' k=>⟨k.2.1,JM hi hsel hQ hz f (l.setIfInBounds j true) a' w' ?_ (ready_mono hr<|Ne.symm hji) k.1 (hT w' k.2.1) ?_⟩) h2
    .intro q oq hoq hqi hqu hqn;refine hfree q oq hoq hqi ?_ hqn
     by_cases hqj:j=q
     .subst hqj;exact hun
     .rwa [getD_set_ne true hqj]at hqu
    .rw[Array.setIfInBounds_comm _ _ hji];exact k.2.2
theorem NM{l:Array Bool}{a:Act}(hr:Region.ready md ops l=[])(h:Q .normal a w):∀f,Ki P md ops Q S z f l a w
 |0=>⟨hr,h⟩
 |_+1=>⟨fun _=>h,by rw[hr];simp⟩
theorem Q2{f:Nat}{l:Array Bool}{a:Act}(hr:Region.ready md ops l=[i])(h:wpOp P ops Q i (fun a' w'=>(z.contains i=false->S w->S w')/\Ki P md ops Q S z f (l.setIfInBounds i true) a' w') a w):Ki P md ops Q S z (f+1) l a w :=
 ⟨fun h0=>absurd (hr ▸ h0)<|by simp,fun j hj=>by rw[hr,qab]at hj;subst hj;exact h⟩
end
def NN:Op->Bool
 | .defer _=>false
 |_=>true
theorem IQ{op:Op}(h:NN op=true):∀c,op ≠ .defer c:=by
 intro c hc;rw[hc]at h;cases h
def FY(ops:Array Oper):Bool:=ops.toList.all fun o=>NN o.op
def NC(Q:Exit->Act->World->Prop):Exit->Act->World->Prop
 | .normal,a,w=>Q .normal a w
 |_,_,_=>False
theorem Abv{ops:Array Oper}{Q:Exit->Act->World->Prop}{K K':Act->World->Prop}{a:Act}(hnd:FY ops=true)(hK:∀a w,K a w->K' a w)(h:wpOp P ops (NC Q) i K a w):wpOpIn (Fr r) 0 P ops Q i K' a w:=by
 unfold wpOp at h;unfold wpOpIn
 cases ho:ops[i]? with
 |none=>rw[ho]at h;exact hK _ _ h
 |some o =>
  rw[ho]at h
  have hnd':NN o.op=true:=by
   have h1:o∈ops.toList:=by
    obtain⟨hi,he⟩:=qd9.1 ho;rw[<-he];exact qdv.2<|Array.getElem_mem hi
   exact qaw.1 hnd o h1
  dsimp only at h |-
  by_cases hw:Region.wanted o (yielded ops a.tmps)=true
  .rw[if_pos hw]at h |-
   rcases h with h|⟨_,a',w',hq⟩
   .refine⟨fun _ _=>trivial,?_⟩;rw[Oper.semAt_eq _ _ _<|IQ hnd'];unfold Oper.wp at h;generalize(execOp a.eval o).run P w=res at h |-
    match res,h with
    | .ok (.value v) w',h=>exact hK _ _ h
    | .ok .skip w',h=>exact hK _ _ h
    | .ok (.defer d) w',h=>exact hK _ _ h
    | .ok (.enter f args) w',h =>
     have h1:Calls P f args w' fun
      | .returned v,w''=>K (a.put o.dst v) w''
      | .panicked chain,w''=>NC Q (.panic chain) a w''
      | .outgrown,_=>LetsOut<|NC Q:=h
     refine⟨fun hd=>(by cases hd),?_⟩;have h2:CallsIn Fence.wide 0 P f args w' _:=callsIn_wide.2 h1;refine CallsIn.mono (show CallsIn (Fr r) 0 P f args w' _ from h2) fun x w'' hx=>?_
     cases x with
     |returned v=>exact hK _ _ hx
     |panicked c=>exact hx.elim
     |outgrown=>obtain⟨_,_,hq⟩:=hx;exact hq.elim
    | .ok (.row row args) w',h =>
     have h1:Rows P row args w' fun v w''=>K (a.put o.dst v) w'':=h;refine⟨fun hd=>(by cases hd),fun c cs _=>?_⟩;obtain⟨v,w'',hv,hst⟩:=h1 c cs;exact⟨v,w'',hK _ _ hv,stepsIn_wide.2 hst⟩
    | .halt (.panic v) w',h=>exact h.elim
   .exact hq.elim
  .rw[if_neg hw]at h |-;exact⟨fun _ _=>trivial,hK _ _ h⟩
theorem M4{P:Program}{r:Option Nat}{ops:Array Oper}{Q:Exit->Act->World->Prop}{S:World->Prop}{z:List Nat}(hnd:FY ops=true):∀(f:Nat) (l:Array Bool) (a:Act) (w:World),
  Ki P .any ops (NC Q) S z f l a w->wpAnyIn (Fr r) 0 P .any ops Q f l a w
 |0,_,_,_,h=>h
 |f+1,_,_,_,h=>⟨h.1,fun i hi=>Abv hnd (fun a' w' k=>M4 hnd f _ a' w' k.2)<|h.2 i hi⟩
def lax(o:Oper):Bool :=
 match o.op with
 | .move _ | .pick _ _ _ | .nilCheck _ | .binOp _ _ _ _ _ | .unOp _ _ _ | .fieldAddr _ _ _ | .extract _ _ | .indexAddr _ _ _ | .assign _=>true
 | .call ⟨.builtin .len,_,_⟩ | .call ⟨.builtin .cap,_,_⟩ | .call ⟨.builtin .min,_,_⟩ | .call ⟨.builtin .max,_,_⟩=>true
 |_=>false
def Wt(P:Program)(ops:List Oper)(S:World->Prop)(Q:Env->Prop):List Oper->Env->Prop
 | [],e=>Q e
 |o::rest,e=>if AJ o ops e then ∃v,(∀w,lax o=true\/S w->(execOp (ev e) o).run P w=.ok (.value v) w)/\Wt P ops S Q rest (put e o.dst v)else Wt P ops S Q rest (put e o.dst undef)
def IE(S:World->Prop)(K:Env->World->Prop):Exit->Env->World->Prop
 | .normal,e,w=>S w/\K e w
 |_,_,_=>False
def IC(P:Program)(ops:List Oper)(S:World->Prop)(z:List Nat)(K:Env->World->Prop):List (List Nat × Nat)->Env->World->Prop
 | [],e,w=>K e w
 |(ts,i)::rest,e,w=>Wt P ops S (fun e'=>A4 P none ops (IE (fun w=>z.contains i=false->S w) (IC P ops S z K rest)) (C4 ops [i]) e' w) (C4 ops ts) e
def Uw(P:Program)(o:Oper):Bool :=
 SG o || (match o.op with | .call ⟨.value (.func f),_,_⟩=>An P f|_=>false)
def JN(ops:Array Oper):List Nat->Array Bool->Option (Array Bool)
 | [],l=>some l
 |i::is,l=>if Region.free .any ops l i && (Region.ready .any ops l).contains i && ops[i]?.isSome then JN ops is (l.setIfInBounds i true)else none
def M5(P:Program)(ops:Array Oper):List (List Nat × Nat)->Array Bool->Bool
 | [],l=>(Region.ready .any ops l).isEmpty
 |(ts,i)::rest,l=>match JN ops ts l with
  |some l'=>(Region.ready .any ops l' == [i]) && (match ops[i]? with|some o=>Uw P o|none=>false) && M5 P ops rest (l'.setIfInBounds i true)
  |none=>false
def Aen(ops:Array Oper)(t z:Nat):Bool:=match ops[z]? with|none=>true|some oz=>oz.after.toList.any fun d=>Region.binds .any d && d.on == t
def Q3(ops:Array Oper)(z:List Nat)(b:Bool)(t:Nat):Bool:=(match ops[t]? with|some o=>lax o|none=>false) || (b && z.all (Aen ops t))
def zB(ops:Array Oper)(z:List Nat):Bool->List (List Nat × Nat)->Bool
 |_,[]=>true
 |b,(ts,i)::rest=>ts.all (Q3 ops z b) && zB ops z (b && !z.contains i) rest
def Jo:List (List Nat × Nat)->Nat
 | []=>0
 |(ts,_)::rest=>ts.length+1+Jo rest
theorem IR{P:Program}{n:Nat}{ops:Array Oper}{S:World->Prop}{Q:Exit->Act->World->Prop}{K:Env->Prop}{w:World}(hall:Ea n ops.toList=true)(hsel:Region.noSelect ops=true)(z:List Nat){b:Bool}(hS:b=true->S w) :
  ∀(ts:List Nat) (l l':Array Bool) (e:Env) (a:Act) (fuel:Nat),JN ops ts l=some l'->ts.all (Q3 ops z b)=true->Sim n e a->Wt P ops.toList S K (C4 ops.toList ts) e ->
   (∀e' a',Sim n e' a'->K e'->Ki P .any ops (NC Q) S z fuel l' a' w)->Ki P .any ops (NC Q) S z (ts.length+fuel) l a w
 | [],l,l',e,a,fuel,hb,_,hs,h,hk=>by
  simp only[JN,qb0]at hb;subst hb;rw[List.length_nil,qa0];exact hk e a hs h
 |i::ts,l,l',e,a,fuel,hb,hz,hs,h,hk=>by
  unfold JN at hb;rw[List.all_cons,qag]at hz
  split at hb
  .rename_i hc
   simp only[qag]at hc;obtain⟨⟨hf,hr⟩,hi⟩:=hc;obtain⟨o,ho⟩:=Option.isSome_iff_exists.1 hi;have hol:ops.toList[i]?=some o:=by rw[qea];exact ho
   have hlt:=HA<|Ie hall i o hol
   obtain⟨T,hT,hTw,hwait⟩:∃T:World->Prop,(∀w',T w'->lax o=true\/S w')/\T w/\((∀w,T w)\/(T=S/\∀k ok,ops[k]?=some ok->z.contains k=true->∃d∈ok.after,Region.binds .any d=true/\d.on=i)):=by
    have h1:=hz.1;unfold Q3 at h1;rw[ho,Bool.or_eq_true,qag]at h1
    rcases h1 with h1|⟨h1,h2⟩
    .exact⟨fun _=>True,fun _ _ => .inl h1,trivial,.inl fun _=>trivial⟩
    .refine⟨S,fun _ h => .inr h,hS h1,.inr ⟨rfl,fun k ok hk hc=>?_⟩⟩;have h3:=qaw.1 h2 k<|qdw.1 hc;unfold Aen at h3;rw[hk]at h3;simp only[List.any_eq_true,qag,beq_iff_eq]at h3;obtain⟨d,hd,h4,h5⟩:=h3;exact⟨d,qdv.1 hd,h4,h5⟩
   simp only[C4,hol]at h;unfold Wt at h;have hw0:=IP hs o ops.toList;have harr:ops.toList.toArray=ops:=by simp
   rw[harr]at hw0;rw[qbd,show ts.length+1+fuel=(ts.length+fuel)+1 by omega]
   by_cases hw:AJ o ops.toList e=true
   .rw[if_pos hw]at h;obtain⟨v,hv,h⟩:=h;refine JM (T:=T) ho (Region.noSelect_spec hsel) (fun _ _ _ hq=>hq.elim) hwait _ l a w (Region.free_spec ho hf) (by simpa using hr) (v:=v) (.inl ⟨by rw[hw0];exact hw,fun w' hS'=>by rw[hs.eval];exact hv w'<|hT w' hS'⟩) hTw ?_;exact IR hall hsel z hS ts _ l' _ _ fuel hb hz.2 (hs.put o.dst v hlt) h hk
   .rw[if_neg hw]at h;refine JM (T:=T) ho (Region.noSelect_spec hsel) (fun _ _ _ hq=>hq.elim) hwait _ l a w (Region.free_spec ho hf) (by simpa using hr) (v:=undef) (.inr ⟨by rw[hw0];simpa using hw,rfl⟩) hTw ?_;exact IR hall hsel z hS ts _ l' _ _ fuel hb hz.2 (hs.put o.dst undef hlt) h hk
  .cases hb
theorem Pv{ops:Array Oper}{S:World->Prop}{K:Env->World->Prop}{Q:Exit->Act->World->Prop}{K':Act->World->Prop}{o:Oper}{e:Env}{a:Act}(hall:Ea n ops.toList=true)(ho:ops[i]?=some o)(hseg:Uw P o=true)(hs:Sim n e a)(h:A4 P none ops.toList (IE S K) (C4 ops.toList [i]) e w)(hk:∀e' a' w',Sim n e' a'->S w'->K e' w'->K' a' w'):wpOp P ops Q i K' a w:=by
 have hol:ops.toList[i]?=some o:=by rw[qea];exact ho
 have hlt:=HA<|Ie hall i o hol;simp only[C4,hol]at h;have hw0:=IP hs o ops.toList;have harr:ops.toList.toArray=ops:=by simp
 rw[harr]at hw0;unfold wpOp;rw[ho];simp only[hw0];unfold A4 at h
 by_cases hw:AJ o ops.toList e=true
 .rw[if_pos hw]at h |-;refine .inl ?_;unfold Oper.wp;rw[hs.eval];have h2:Uu P o e (A4 P none ops.toList (IE S K) []) (IE S K)<|(execOp (ev e) o).run P w:=h;unfold Uw at hseg
  by_cases ht:SG o=true
  .have hp:=SH (P:=P) (w:=w) (ev e) ht;generalize(execOp (ev e) o).run P w=res at h2 hp
   match res,h2,hp with
   | .ok (.value v) w',h2,_=>exact hk _ _ _ (hs.put o.dst v hlt) h2.1 h2.2
   | .ok .skip w',h2,_=>exact hk _ _ _ (hs.put o.dst undef hlt) h2.1 h2.2
   | .halt (.panic v) w',h2,_=>exact h2.elim
  .simp only[qdt]at ht;rw[ht,Bool.false_or]at hseg;obtain⟨dst,op,ty,pos,af,g⟩:=o
   cases op <;> try (cases hseg;done)
   rename_i c
   obtain⟨cal,args,ats⟩:=c
   cases cal with
   |value fo =>
    cases fo with
    |func f =>
     have hc:An P f=true:=hseg
     have hrun:(execOp (ev e) ⟨dst,.call ⟨.value<|.func f,args,ats⟩,ty,pos,af,g⟩).run P w=.ok (.enter f<|args.map<|ev e) w:=by
      simp[execOp,resolve,ev,Deferred.ofValue,invoke,Gt hc]
     rw[hrun]at h2 |-;refine Calls.mono (Ret.calls h2) ?_;rintro x w'' ⟨v,rfl,hv⟩;exact hk _ _ _ (hs.put dst v hlt) hv.1 hv.2
    |tmp t=>cases hseg
    |const v=>cases hseg
    |global g=>cases hseg
   |builtin b=>cases hseg
   |invoke x y=>cases hseg
 .rw[if_neg hw]at h |-;simp only[qdt]at hw;exact hk _ _ _ (hs.put o.dst undef hlt) h.1 h.2
theorem Ux{P:Program}{n:Nat}{ops:Array Oper}{S:World->Prop}{z:List Nat}{K:Env->World->Prop}{Q:Exit->Act->World->Prop}(hall:Ea n ops.toList=true)(hsel:Region.noSelect ops=true)(hQ:∀e a w,Sim n e a->K e w->Q .normal a w) :
  ∀(plan:List<|List Nat × Nat) (b:Bool) (l:Array Bool) (e:Env) (a:Act) (w:World) (fuel:Nat),Jo plan<=fuel->M5 P ops plan l=true->zB ops z b plan=true->Sim n e a->(b=true->S w)->IC P ops.toList S z K plan e w->Ki P .any ops (NC Q) S z fuel l a w
 | [],b,l,e,a,w,fuel,_,hb,_,hs,_,h=>NM (Q:=NC Q) (by simpa[M5]using hb) (hQ e a w hs h) fuel
 |(ts,i)::rest,b,l,e,a,w,fuel,hl,hb,hz,hs,hS,h=>by
  unfold M5 at hb;simp only[zB,qag]at hz
  split at hb
  .rename_i l' hl'
   simp only[qag,beq_iff_eq]at hb;obtain⟨⟨hr,hop⟩,hrest⟩:=hb;simp only[Jo]at hl;obtain⟨f',rfl⟩:∃f',fuel=ts.length+(f'+1):=⟨fuel - ts.length - 1,by omega⟩;refine IR hall hsel z hS ts l l' e a (f'+1) hl' hz.1 hs h ?_;intro e' a' hs' hk
   cases ho:ops[i]? with
   |none=>rw[ho]at hop;cases hop
   |some o =>
    rw[ho]at hop;refine Q2 hr<|Pv hall ho hop hs' hk ?_;intro e2 a2 w2 hs2 hS2 hk2;refine⟨fun hc _=>hS2 hc,Ux hall hsel hQ rest _ _ e2 a2 w2 f' (by omega) hrest hz.2 hs2 (fun hb=>?_) hk2⟩;rw[qag,qcf]at hb;exact hS2 hb.2
  .cases hb
inductive Tr where
 |stop:Tr
 |one (ts:List Nat) (i:Nat) (n:Tr):Tr
 |two (ts:List Nat) (i:Nat) (n:Tr) (j:Nat) (m:Tr):Tr
def Wtr(P:Program)(ops:List Oper)(S:World->Prop)(K:Env->World->Prop):Tr->Env->World->Prop
 | .stop,e,w=>K e w
 | .one ts i n,e,w=>Wt P ops S (fun e'=>A4 P none ops (IE S (Wtr P ops S K n)) (C4 ops [i]) e' w) (C4 ops ts) e
 | .two ts i n j m,e,w=>Wt P ops S (fun e'=>A4 P none ops (IE S (Wtr P ops S K n)) (C4 ops [i]) e' w/\A4 P none ops (IE S (Wtr P ops S K m)) (C4 ops [j]) e' w) (C4 ops ts) e
def Q4(P:Program)(ops:Array Oper)(i:Nat):Bool:=match ops[i]? with|some o=>Uw P o|none=>false
def trB(P:Program)(ops:Array Oper):Tr->Array Bool->Bool
 | .stop,l=>(Region.ready .any ops l).isEmpty
 | .one ts i n,l=>match JN ops ts l with
  |some l'=>(Region.ready .any ops l' == [i]) && Q4 P ops i && trB P ops n (l'.setIfInBounds i true)
  |none=>false
 | .two ts i n j m,l=>match JN ops ts l with
  |some l'=>(Region.ready .any ops l' == [i,j]) && (Q4 P ops i && Q4 P ops j) && (trB P ops n (l'.setIfInBounds i true) && trB P ops m (l'.setIfInBounds j true))
  |none=>false
def Kj:Tr->Nat
 | .stop=>0
 | .one ts _ n=>ts.length+1+Kj n
 | .two ts _ n _ m=>ts.length+1+max (Kj n) (Kj m)
theorem Xv{md:Region.Mode}{ops:Array Oper}{Q:Exit->Act->World->Prop}{S:World->Prop}{f:Nat}{l:Array Bool}{a:Act}(hr:Region.ready md ops l=[i,j])(h1:wpOp P ops Q i (fun a' w'=>(z.contains i=false->S w->S w')/\Ki P md ops Q S z f (l.setIfInBounds i true) a' w') a w)(h2:wpOp P ops Q j (fun a' w'=>(z.contains j=false->S w->S w')/\Ki P md ops Q S z f (l.setIfInBounds j true) a' w') a w):Ki P md ops Q S z (f+1) l a w :=
 ⟨fun h0=>absurd (hr ▸ h0)<|by simp,fun k hk=>by
  rw[hr,qaf,qab]at hk
  rcases hk with rfl|rfl
  .exact h1
  .exact h2⟩
theorem NO{ops:Array Oper}(ts:List Nat):ts.all (Q3 ops [] true)=true:=qaw.2 fun t _=>by unfold Q3;simp
theorem Uy{P:Program}{n:Nat}{ops:Array Oper}{S:World->Prop}{K:Env->World->Prop}{Q:Exit->Act->World->Prop}(hall:Ea n ops.toList=true)(hsel:Region.noSelect ops=true)(hQ:∀e a w,Sim n e a->K e w->Q .normal a w) :
  ∀(plan:Tr) (l:Array Bool) (e:Env) (a:Act) (w:World) (fuel:Nat),Kj plan<=fuel->trB P ops plan l=true->Sim n e a->S w->Wtr P ops.toList S K plan e w->Ki P .any ops (NC Q) S [] fuel l a w
 | .stop,l,e,a,w,fuel,_,hb,hs,_,h=>NM (Q:=NC Q) (by simpa[trB]using hb) (hQ e a w hs h) fuel
 | .one ts i t,l,e,a,w,fuel,hl,hb,hs,hS,h=>by
  unfold trB at hb
  split at hb
  .rename_i l' hl'
   simp only[qag,beq_iff_eq]at hb;obtain⟨⟨hr,hop⟩,hrest⟩:=hb;simp only[Kj]at hl;obtain⟨f',rfl⟩:∃f',fuel=ts.length+(f'+1):=⟨fuel - ts.length - 1,by omega⟩;refine IR hall hsel [] (b:=true) (fun _=>hS) ts l l' e a (f'+1) hl' (NO ts) hs h ?_;intro e' a' hs' hk;unfold Q4 at hop
   cases ho:ops[i]? with
   |none=>rw[ho]at hop;cases hop
   |some o =>
    rw[ho]at hop;refine Q2 hr<|Pv hall ho hop hs' hk ?_;intro e2 a2 w2 hs2 hS2 hk2;exact⟨fun _ _=>hS2,Uy hall hsel hQ t _ e2 a2 w2 f' (by omega) hrest hs2 hS2 hk2⟩
  .cases hb
 | .two ts i t j m,l,e,a,w,fuel,hl,hb,hs,hS,h=>by
  unfold trB at hb
  split at hb
  .rename_i l' hl'
   simp only[qag,beq_iff_eq]at hb;obtain⟨⟨hr,hop1,hop2⟩,hrest1,hrest2⟩:=hb;simp only[Kj]at hl;obtain⟨f',rfl⟩:∃f',fuel=ts.length+(f'+1):=⟨fuel - ts.length - 1,by omega⟩;refine IR hall hsel [] (b:=true) (fun _=>hS) ts l l' e a (f'+1) hl' (NO ts) hs h ?_;intro e' a' hs' hk;unfold Q4 at hop1 hop2
   cases ho:ops[i]? with
   |none=>rw[ho]at hop1;cases hop1
   |some o =>
    cases ho2:ops[j]? with
    |none=>rw[ho2]at hop2;cases hop2
    |some o2 =>
     rw[ho]at hop1;rw[ho2]at hop2;refine Xv hr (Pv hall ho hop1 hs' hk.1 ?_)<|Pv hall ho2 hop2 hs' hk.2 ?_
     .intro e2 a2 w2 hs2 hS2 hk2;exact⟨fun _ _=>hS2,Uy hall hsel hQ t _ e2 a2 w2 f' (by omega) hrest1 hs2 hS2 hk2⟩
     .intro e2 a2 w2 hs2 hS2 hk2;exact⟨fun _ _=>hS2,Uy hall hsel hQ m _ e2 a2 w2 f' (by omega) hrest2 hs2 hS2 hk2⟩
  .cases hb
def Le(Q:Exit->Env->World->Prop)(e:Env)(w:World):Option Code->Prop
 |none=>Q .normal e w
 |some .ret=>Q .ret e w
 |some (.exit id)=>Q (.exit id) e w
 |some (.goto l)=>Q (.goto l) e w
 |some _=>False
def GZ(r:Option Nat)(w:World):World:=match r with|none=>w.alloc (.deferred (some []))|some _=>w
def IU(r:Option Nat)(w:World):List Deferred:=match r with|none=>[{ target := .collected w.heap.size,args:=#[] }]|some _=>[]
def Abw(r:Option Nat)(w:World)(d:Nat):Prop:=match r with|none=>d=w.heap.size|some l=>∃lo,w.heap[l]?=some (.loop lo)/\d=lo.defers
def W(P:Program)(r:Option Nat)(n:Nat):Code->(Exit->Env->World->Prop)->Env->World->Prop
 | .skip,Q=>fun e w=>Q .normal e w
 | .label _,Q=>fun e w=>Q .normal e w
 | .ret,Q=>fun e w=>Q .ret e w
 | .exit id,Q=>fun e w=>Q (.exit id) e w
 | .goto l,Q=>fun e w=>Q (.goto l) e w
 | .seq x y,Q=>W P r n x (Fq (W P r n y Q) Q)
 | .cond c x y,Q=>fun e w=>∃t,ev e c=.bool t/\(t=true->W P r n x Q e w)/\(t=false->W P r n y Q e w)
 | .block id c,Q=>W P r n c (Gk id Q)
 | .loop c,Q=>fun e w=>∃I:Nat->Env->World->Prop,(∃k,I k e w)/\∀k e w,I k e w->W P r n c (Fq (fun e' w'=>∃k',k'<k/\I k' e' w') Q) e w
 | .region _ ops false,Q=>A4 P r ops.toList Q ops.toList
 | .region _ ops true,Q=>fun e w=>(∀t,A4 P r ops.toList Q (C4 ops.toList (Region.schedule (P.follows .mixedOrders) ops t)) e { w with drawn:=w.drawn+1 }) \/
   (r=none/\P.follows .mixedOrders=true/\Region.lexB .any ops=true/\∃C:World->Prop,C w.drew/\Wq P ops.toList C (fun e'=>∀w',C w'->Q .normal e' w') ops.toList e) \/
   (r=none/\P.follows .mixedOrders=true/\∃k,Region.lexTailB .any ops k=true /\
    Wq P ops.toList (fun x=>x=w.drew) (fun e'=>A4 P r ops.toList Q (ops.toList.drop k) e' w.drew) (ops.toList.take k) e) \/
   (P.follows .mixedOrders=true/\Region.noSelect ops=true/\FY ops=true/\∃(plan:List (List Nat × Nat)) (S:World->Prop) (z:List Nat),Nat.ble (Jo plan) ops.size=true/\M5 P ops plan (Array.replicate ops.size false)=true/\zB ops z true plan=true/\S w.drew /\
    IC P ops.toList S z (Q .normal) plan e w.drew) \/
   (P.follows .mixedOrders=true/\Region.noSelect ops=true/\FY ops=true/\∃(plan:Tr) (S:World->Prop),Nat.ble (Kj plan) ops.size=true/\trB P ops plan (Array.replicate ops.size false)=true/\S w.drew/\Wtr P ops.toList S (Q .normal) plan e w.drew)
 | .rangeFunc f ps assign body,Q=>fun e w=>∃d,Abw r w d/\∀fn tmps,tmps.size=n->(∀i,tmps.getD i undef=e.g i) ->
   let w1:=GZ r w
   let w2:=w1.alloc (.loop { state := .ready,pending:=none,fn,tmps,params:=ps,assign,body,defers:=d })
   ∃g first captured,ev e f=.func (.func g) first captured/\(callFunc g (first++#[.func (.yield w1.heap.size) #[] #[]]++captured)).run P w2=.ok (.enter g (first++#[.func (.yield w1.heap.size) #[] #[]]++captured)) w2 /\
    Ret P g (first++#[.func (.yield w1.heap.size) #[] #[]]++captured) w2 fun _ w3 =>
     ∃lo,w3.heap[w1.heap.size]?=some (.loop lo)/\lo.state ≠ .busy/\Le Q ⟨e.g,IU r w++e.ds⟩ (w3.putObj w1.heap.size (.loop { lo with state := .exhausted })) lo.pending
 | .scope c,Q=>W P r n c (Ih Q)
 | .refuse _,_=>fun _ _=>False
section
variable {P:Program}{r:Option Nat}{n:Nat}{Q:Exit->Env->World->Prop}{e:Env}{w:World}
theorem NP{K:Env->World->Prop}{K':Act->World->Prop}(h:∀e a w,Sim n e a->K e w->K' a w):∀x a w,Kh n (Fq K Q) x a w->Exit.then K' (Kh n Q) x a w:=by
 rintro z a' w' ⟨e',hs',hq⟩
 cases z with
 |normal=>exact h _ _ _ hs' hq
 |_=>exact⟨e',hs',hq⟩
theorem SJ{Q:Exit->Act->World->Prop}(I:Nat->Act->World->Prop)(a:Act)(w:World)(h0:∃k,I k a w)(round:∀k a w,I k a w->c.wpIn F 0 P (Exit.then (fun a' w'=>∃k',k'<k/\I k' a' w') Q) a w):(Code.loop c).wpIn F 0 P Q a w:=by
 have hleast:∀a w,(∃k,I k a w)->∃k,I k a w/\∀j,I j a w->k<=j:=by
  intro a w ⟨k,hk⟩
  induction k using Nat.strongRecOn with
  |_ k ih =>
   by_cases hx:∃j,j<k/\I j a w
   .obtain⟨j,hj,hjp⟩:=hx;exact ih j hj hjp
   .refine⟨k,hk,fun j hj=>?_⟩
    rcases qao j k with h|h
    .exact absurd ⟨j,h,hj⟩ hx
    .exact h
 refine wpIn_loop (fun a w=>∃k,I k a w) (fun a w=>Classical.epsilon (fun k=>I k a w/\∀j,I j a w->k<=j)) h0 ?_;intro a w hI;have hsp:=Classical.epsilon_spec<|hleast a w hI;refine wpIn_mono (round _ a w hsp.1) ?_;intro x a' w' hq
 cases x with
 |normal =>
  obtain⟨k',hk',hI'⟩:=hq;refine⟨⟨k',hI'⟩,?_⟩;have h3:=(Classical.epsilon_spec<|hleast a' w' ⟨k',hI'⟩).2 k' hI';exact Nat.lt_of_le_of_lt h3 hk'
 |_=>exact hq
theorem Fs{b:Frame}{a:Act}{k:List Item}:step P (lone (b.atR a (.code (.scope c)::k)) cs w)=.next (lone (b.atR a (.code c :: .inScope c::k)) cs w) :=
 step_lone_go (by simp[stepG,stepG.exec,Frame.atR])
theorem ND{b:Frame}{a:Act}{k:List Item}:step P (lone (b.atR a (.inScope c::k)) cs w)=.next (lone (b.atR a k) cs w) :=
 step_lone_go (by simp[stepG,stepG.exec,Frame.atR])
def Xw(Q:Exit->Act->World->Prop):Exit->Act->World->Prop
 | .goto _,_,_=>False
 |x,a,w=>Q x a w
theorem SK:∀x a w,Kh n (Ih Q) x a w->Xw (Kh n Q) x a w:=by
 rintro z a' w' ⟨e',hs',hq⟩
 cases z with
 |goto l=>exact hq
 |_=>exact⟨e',hs',hq⟩
theorem SM{Q:Exit->Act->World->Prop}{a:Act}(h:c.wpIn F 0 P (Xw Q) a w):(Code.scope c).wpIn F 0 P Q a w:=by
 intro b k cs hro hb hr;have h0:(lone (b.atR a (.code (.scope c)::k)) cs w).fenced P F:=fenced_calm hb hr rfl;obtain⟨e,a₁,w₁,hq,harr⟩:=h b (.inScope c::k) cs hro hb hr;have hx:∀id,exitTo id (.inScope c::k)=exitTo id k:=fun id=>by simp[exitTo]
 cases e with
 |normal=>exact⟨.normal,a₁,w₁,hq,.head h0 Fs<|StepsIn.trans harr<|.one (fenced_calm hb hr rfl) ND⟩
 |exit id =>
  refine⟨.exit id,a₁,w₁,hq,fun k' hk => .head h0 Fs (harr.1 k' (by rw[hx];exact hk)),fun hr' hk=>?_⟩;obtain⟨k₁,h1,h2⟩:=harr.2 hr' (by rw[hx];exact hk);exact⟨k₁,h1,.head h0 Fs h2⟩
 |goto l=>exact hq.elim
 |ret=>exact⟨_,a₁,w₁,hq,.of_steps (.one h0 Fs) harr⟩
 |panic ch=>exact⟨_,a₁,w₁,hq,.of_steps (.one h0 Fs) harr⟩
 |outgrown=>exact⟨_,a₁,w₁,hq,.of_steps (.one h0 Fs) harr⟩
theorem Mb{f:Operand}(h:W P r n (.rangeFunc f ps assign body) Q e w)(a:Act)(hs:Sim n e a) :
  (Code.rangeFunc f ps assign body).wpIn (Fr r) 0 P (Kh n Q) a w:=by
 refine wpIn_rangeFunc ?_;intro fn _;have hev:=hs.eval;obtain⟨d,hd,h⟩:=h;obtain⟨g,first,captured,hg,hcf,hret⟩:=h fn a.tmps hs.2.1 hs.2.2;have hs':Sim n ⟨e.g,IU r w++e.ds⟩ { a with defers:=IU r w++a.defers }:=⟨qaa (IU r w++·) hs.1,hs.2.1,hs.2.2⟩
 have hent:(Instr.enterLoop fn a.tmps ps assign body r).run P w=.ok ((GZ r w).heap.size,IU r w)
   ((GZ r w).alloc<|.loop { state := .ready,pending:=none,fn,tmps:=a.tmps,params:=ps,assign,body,defers:=d }):=by
  cases r with
  |none =>
   subst hd;have:=run_enterLoop_outer (P:=P) (w:=w) fn a.tmps ps assign body;simp only[GZ,IU,World.size_alloc];exact this
  |some l =>
   obtain⟨lo0,hl,rfl⟩:=hd;show(Instr.enterLoop fn a.tmps ps assign body<|some l).run P w=_;simp only[Instr.enterLoop,Sem.run_bind,run_getLoop hl,Result.andThen,Sem.run_pure,run_newObj_alloc,GZ,IU]
 generalize hw1:GZ r w=w1 at hent hcf hret;generalize hw2:w1.alloc (.loop { state := .ready,pending:=none,fn,tmps:=a.tmps,params:=ps,assign,body,defers:=d })=w2 at hent hcf hret;refine⟨w1.heap.size,IU r w,w2,{ target := .fn (.func g) captured,args:=first++#[.func (.yield w1.heap.size) #[] #[]] },w2,g,first++#[.func (.yield w1.heap.size) #[] #[]]++captured,w2,hent,?_,(fun _ _=>trivial),(by simp only[invoke];exact hcf),(fun hc=>by cases hc),?_⟩
 .rw[hev];simp only[resolve,List.map_toArray,qas,qbv,hg];rfl
 .refine CallsIn.mono hret ?_;rintro x w3 ⟨v,rfl,lo,hlo,hb,hj⟩;refine⟨_,_,run_endLoop hlo hb,?_⟩;generalize lo.pending=jump at hj
  match jump,hj with
  |none,hj=>exact⟨_,hs',hj⟩
  |some .ret,hj=>exact wpIn_ret ⟨_,hs',hj⟩
  |some (.exit id),hj=>exact wpIn_exit ⟨_,hs',hj⟩
  |some (.goto l),hj=>exact wpIn_goto ⟨_,hs',hj⟩
theorem NQ{P:Program}{F:Fence}{md:Region.Mode}{ops:Array Oper}{Q:Exit->Act->World->Prop}:∀(g k:Nat) (listed:Array Bool) (a:Act) (w:World),Region.seqB md ops g k listed=true->wpOpsIn F 0 P ops Q (List.range' k g) a w->wpAnyIn F 0 P md ops Q g listed a w
 |0,_,_,_,_,hB,h=>⟨by simpa[Region.seqB]using hB,h⟩
 |g+1,k,listed,a,w,hB,h=>by
  simp only[Region.seqB,qag,qav]at hB;rw[List.range'_succ,wpOpsIn_cons]at h;refine⟨fun h1=>(by rw[hB.1]at h1;cases h1),fun i hi=>?_⟩;rw[hB.1]at hi;obtain rfl:i=k:=by simpa using hi
  exact wpOpIn_mono (fun a' w' h'=>NQ g (i+1) _ a' w' hB.2 h') h
theorem SN{ops:Array Oper}{Q:Exit->Act->World->Prop}{K:Act->Prop}{K':Act->World->Prop}{a:Act}(h:∀a,K a->K' a w)(hh:stOp P ops w i K a):wpOpIn (Fr none) 0 P ops Q i K' a w:=by
 unfold stOp at hh;unfold wpOpIn
 cases ho:ops[i]? with
 |none=>rw[ho]at hh;exact h _ hh
 |some o =>
  rw[ho]at hh;dsimp only at hh |-
  by_cases hw:Region.wanted o (yielded ops a.tmps)=true
  .rw[if_pos hw]at hh |-;refine⟨fun _ _=>trivial,?_⟩;rw[show(Fr none).round=none from rfl,Oper.semAt_none];unfold Oper.still at hh;generalize(execOp a.eval o).run P w=res at hh |-
   match res,hh with
   | .ok (.value v) w',hh=>obtain⟨rfl,h2⟩:=hh;exact h _ h2
   | .ok .skip w',hh=>obtain⟨rfl,h2⟩:=hh;exact h _ h2
   | .ok (.enter f args) w',hh =>
    obtain⟨rfl,v,hc,hn⟩:=hh;refine⟨(fun hd=>by cases hd),?_⟩;refine CallsIn.mono (callsIn_wide.2 hc) ?_;rintro x w'' ⟨rfl,rfl⟩;exact h _ hn
  .rw[if_neg hw]at hh |-;exact⟨fun _ _=>trivial,h _ hh⟩
theorem JB{P:Program}{md:Region.Mode}{ops:Array Oper}{w:World}{n g:Nat}{L:Array Bool->Act->Prop}{Q:Exit->Act->World->Prop}(hL:∀listed a,L listed a->wpAnyIn (Fr none) 0 P md ops Q g listed a w) :
  ∀(f:Nat) (listed:Array Bool) (a:Act),wpAnyL P md ops w n L f listed a->wpAnyIn (Fr none) 0 P md ops Q (f+g) listed a w
 |0,listed,a,h=>by rw[qa0];exact hL _ _ h
 |f+1,listed,a,h=>by
  rw[show f+1+g=(f+g)+1 by omega];exact⟨fun h0=>absurd h0 h.1,fun i hi=>SN (fun a' h'=>JB hL f _ a' h') (h.2 i hi).2⟩
theorem Abx{ops:Array Oper}{Q:Exit->Env->World->Prop}{a:Act}(hf:Ea n ops.toList=true)(m:Nat)(hm:P.follows .mixedOrders=true)(hB:Region.lexTailB .any ops m=true)(h:wpStill P ops.toList.toArray w.drew (fun a'=>∃e',Sim n e' a'/\A4 P none ops.toList Q (ops.toList.drop m) e' w.drew) (ops.toList.take m) a):(Code.region id ops true).wpIn (Fr none) 0 P (Kh n Q) a w:=by
 simp only[Region.lexTailB,qag,qav]at hB;obtain⟨⟨⟨⟨hsel,hn⟩,hs⟩,hc⟩,hlex⟩:=hB;have htl:(ops.toList.take m).length=m:=by simp;omega
 have inv0:HeadInv .any ops m (Array.replicate ops.size false) :=
  ⟨by simp,fun j oj _ hl=>(by rw[getD_replicate_false]at hl;cases hl),fun t _ ht=>getD_in (by simpa using ht)<|getD_replicate_false _ _⟩
 rw[show ops.toList.toArray=ops by simp]at h
 have H:=wpAnyL_lex (md := .any) (g:=ops.size - m) hsel hs hc hn (ops.toList.take m) 0 _ a (fun j hj=>by
  have hj':j<m:=by rw[htl]at hj;exact hj
  simp[hj']) (by simpa using htl) inv0 (by rw[htl];exact hlex) h
 refine wpIn_region_any hm ?_
 have h2:=JB (Q:=Kh n Q) (g:=ops.size - m) (fun listed a' hL=>by
  obtain⟨hL1,e',hs',hW⟩:=hL;refine NQ _ m listed a' w.drew hL1 ?_
  have h3:A4 P none ops.toList Q (C4 ops.toList<|List.range' m<|ops.size - m) e' w.drew:=by
   rw[show ops.size - m=(ops.toList.drop m).length by simp,Ig ops.toList (ops.toList.drop m) m fun j=>by simp];exact hW
  have h4:=Mf (n:=n) (ops:=ops.toList) hf _ e' a' _ hs' h3
  simpa using h4) _ _ _ H
 rw[htl,show m+(ops.size - m)=ops.size by omega]at h2;exact h2
theorem F5:∀(c:Code) (Q:Exit->Env->World->Prop) (e:Env) (w:World),W P r n c Q e w->Gs n c=true->∀a,Sim n e a->c.wpIn (Fr r) 0 P (Kh n Q) a w
 | .skip,Q,e,w,h,_,a,hs=>wpIn_skip ⟨e,hs,h⟩
 | .label _,Q,e,w,h,_,a,hs=>wpIn_label ⟨e,hs,h⟩
 | .ret,Q,e,w,h,_,a,hs=>wpIn_ret ⟨e,hs,h⟩
 | .exit _,Q,e,w,h,_,a,hs=>wpIn_exit ⟨e,hs,h⟩
 | .goto _,Q,e,w,h,_,a,hs=>wpIn_goto ⟨e,hs,h⟩
 | .seq x y,Q,e,w,h,hf,a,hs=>by
  simp only[Gs,qag]at hf;exact wpIn_seq<|wpIn_mono (F5 x _ e w h hf.1 a hs)<|NP fun e' a' w' hs' hk=>F5 y Q e' w' hk hf.2 a' hs'
 | .cond c x y,Q,e,w,h,hf,a,hs=>by
  simp only[Gs,qag]at hf;obtain⟨t,hc,h1,h2⟩:=h;exact wpIn_cond_split (t:=t) (by rw[hs.eval];exact hc) (fun ht=>F5 x Q e w (h1 ht) hf.1 a hs) fun ht=>F5 y Q e w (h2 ht) hf.2 a hs
 | .block id c,Q,e,w,h,hf,a,hs=>by
  refine wpIn_block<|wpIn_mono (F5 c _ e w h hf a hs) ?_;rintro z a' w' ⟨e',hs',hq⟩
  cases z with
  |exit id' =>
   show(if id'=id then Kh n Q .normal a' w' else Kh n Q (.exit id') a' w')
   by_cases hi:id'=id
   .subst hi;rw[if_pos rfl];have hb:Nat.beq id' id'=true:=Nat.beq_refl id';simp only[Gk,hb,cond_true]at hq;exact⟨e',hs',hq⟩
   .rw[if_neg hi]
    have hb:Nat.beq id' id=false:=by
     cases hc:Nat.beq id' id with
     |false=>rfl
     |true=>exact absurd (qdh hc) hi
    simp only[Gk,hb,cond_false]at hq;exact⟨e',hs',hq⟩
  |_=>exact⟨e',hs',hq⟩
 | .loop c,Q,e,w,h,hf,a,hs=>by
  obtain⟨I,⟨k,h0⟩,hr⟩:=h;refine SJ (fun k a w=>∃e,Sim n e a/\I k e w) a w ⟨k,e,hs,h0⟩ ?_;rintro k a w ⟨e,hs,hI⟩;refine wpIn_mono (F5 c _ e w (hr k e w hI) hf a hs)<|NP ?_;rintro e' a' w' hs' ⟨k',hk',hI'⟩;exact⟨k',hk',e',hs',hI'⟩
 | .region _ ops false,Q,e,w,h,hf,a,hs=>by
  refine wpIn_region ?_
  have h2:A4 P r ops.toList Q (C4 ops.toList<|List.range ops.size) e w:=by
   rw[List.range_eq_range',<-qdx,Ig ops.toList ops.toList 0 (by simp)];exact h
  exact Mf (n:=n) (ops:=ops.toList) hf _ e a w hs h2
 | .region id ops true,Q,e,w,h,hf,a,hs=>by
  rcases h with h|⟨rfl,hm,hB,C,hC,h⟩|⟨rfl,hm,k,hB,h⟩|⟨hm,hsel,hnd,plan,S,z,hl,hB,hz,hS,h⟩|⟨hm,hsel,hnd,plan,S,hl,hB,hS,h⟩
  .refine wpIn_region_draw fun t=>?_;exact Mf (n:=n) (ops:=ops.toList) hf _ e a _ hs<|h t
  .refine wpIn_region_quiet (C:=C) U hm hB hC ?_;have:=Xu (n:=n) (C:=C) (Q':=fun a'=>∀w',C w'->Kh n Q .normal a' w') (fun e' a' hs' hq w' hw'=>⟨e',hs',hq w' hw'⟩) ops.toList e a hf hs h
   simpa using this
  .have hf2:Ea n ops.toList=true:=hf;rw[<-qbp k ops.toList,M1,qag]at hf2;have h1:=Mz (n:=n) (Q':=fun a'=>∃e',Sim n e' a'/\A4 P none ops.toList Q (ops.toList.drop k) e' w.drew) (fun e' a' hs' hq=>⟨e',hs',hq⟩) _ e a hf2.1 hs h;exact Abx hf k hm hB h1
  .exact wpIn_region_any hm (M4 (S:=S) (z:=z) hnd _ _ _ _<|Ux (K:=Q .normal) (Q:=Kh n Q) hf hsel (fun e' a' w' hs' hk=>⟨e',hs',hk⟩) plan true _ e a _ _ (qdu hl) hB hz hs (fun _=>hS) h)
  .exact wpIn_region_any hm (M4 (S:=S) (z:=[]) hnd _ _ _ _<|Uy (K:=Q .normal) (Q:=Kh n Q) hf hsel (fun e' a' w' hs' hk=>⟨e',hs',hk⟩) plan _ e a _ _ (qdu hl) hB hs hS h)
 | .rangeFunc f ps assign body,Q,e,w,h,hf,a,hs=>Mb h a hs
 | .scope c,Q,e,w,h,hf,a,hs=>SM<|wpIn_mono (F5 c _ e w h hf a hs) SK
 | .refuse _,Q,e,w,h,_,a,hs=>h.elim
end
section
variable {P:Program}{r:Option Nat}{n:Nat}{Q:Exit->Env->World->Prop}{e:Env}{w:World}
def Mc(P:Program)(fn:Func)(R:Value->World->Prop):Exit->Env->World->Prop
 | .normal,e,w | .ret,e,w=>e.ds=[]/\∀tmps:Array Value,(∀i,tmps.getD i undef=e.g i)->∃v,(results fn tmps).run P w=.ok v w/\R v w
 |_,_,_=>False
theorem Ao(hf:P.funcs[f]?=some fn)(hb:fn.body=some c)(l:List Value)(hargs:args=l.toArray)(h:W P none fn.ntmps c (Mc P fn R) ⟨fun i=>l.getD i undef,[]⟩ w)(hfit:(Nat.ble l.length fn.ntmps && Gs fn.ntmps c)=true:=by kernel_rfl):Ret P f args w R:=by
 simp only[qag]at hfit;refine callsIn_of_wp hf hb trivial<|wpIn_mono (F5 (r:=none) c _ _ w h hfit.2 _ ?_) ?_
 .refine⟨rfl,?_,fun i=>?_⟩
  .subst hargs;have:=qdu hfit.1;simp;omega
  .subst hargs;simp only[qbm,qb1];rw[Array.getElem?_append]
   by_cases hi:i<l.length
   .simp[hi]
   .simp only[List.size_toArray,if_neg hi];rw[qbg<|by omega];rw[Array.getElem?_replicate]
    split <;> rfl
 .rintro x a' w' ⟨e',hs',hq⟩
  cases x with
  |normal=>exact⟨hs'.1.trans hq.1,let ⟨v,h1,h2⟩:=hq.2 _ hs'.2.2;⟨v,h1,_,rfl,h2⟩⟩
  |ret=>exact⟨hs'.1.trans hq.1,let ⟨v,h1,h2⟩:=hq.2 _ hs'.2.2;⟨v,h1,_,rfl,h2⟩⟩
  |_=>exact hq.elim
theorem iG{l:List Value}(hf:P.funcs[f]?=some fn)(hb:fn.body=some c)(h:W P none fn.ntmps c (Mc P fn R) ⟨fun i=>l.getD i undef,[]⟩ w)(hfit:(Nat.ble l.length fn.ntmps && Gs fn.ntmps c)=true:=by kernel_rfl):Ret P f l.toArray w R:=Ao hf hb l rfl h hfit
theorem Afi(hr:fn.results=#[])(hd:e.ds=[])(h:R (.tuple #[]) w):Mc P fn R .ret e w :=
 ⟨hd,fun tmps _=>⟨_,by simp[results,hr],h⟩⟩
theorem Ii(hr:fn.results=#[])(hd:e.ds=[])(h:R (.tuple #[]) w):Mc P fn R .normal e w :=
 ⟨hd,fun tmps _=>⟨_,by simp[results,hr],h⟩⟩
theorem B6{t:Tmp}(hr:fn.results=#[.tmp t])(hd:e.ds=[])(hv:e.g t=v)(h:R v w):Mc P fn R .ret e w :=
 ⟨hd,fun tmps ht=>by
  have h1:=(ht t).trans hv;rw[qbm]at h1
  exact⟨v,by simp[results,hr,h1],h⟩⟩
theorem Cz{t:Tmp}(hr:fn.results=#[.tmp t,.tmp u])(hd:e.ds=[])(h1:e.g t=v1)(h2:e.g u=v2)(h:R (.tuple #[v1,v2]) w):Mc P fn R .ret e w :=
 ⟨hd,fun tmps ht=>by
  have g1:=(ht t).trans h1;have g2:=(ht u).trans h2;rw[qbm]at g1 g2
  exact⟨_,by simp[results,hr,g1,g2],h⟩⟩
theorem Afj{t s:Tmp}(hr:fn.results=#[.tmp t,.tmp u,.tmp s])(hd:e.ds=[])(h1:e.g t=v1)(h2:e.g u=v2)(h3:e.g s=v3)(h:R (.tuple #[v1,v2,v3]) w):Mc P fn R .ret e w :=
 ⟨hd,fun tmps ht=>by
  have g1:=(ht t).trans h1;have g2:=(ht u).trans h2;have g3:=(ht s).trans h3;rw[qbm]at g1 g2 g3
  exact⟨_,by simp[results,hr,g1,g2,g3],h⟩⟩
end
def M6(D i:Nat):Bool:=Nat.testBit D i
def EF(D:Nat):List Oper->Bool
 | []=>true
 |o::l=>(match o.dst with|some d=>M6 D d|none=>true) && EF D l
def FJ(D:Nat):Code->Bool
 | .region _ ops _=>EF D ops.toList
 | .seq a b=>FJ D a && FJ D b
 | .cond _ a b=>FJ D a && FJ D b
 | .block _ b=>FJ D b
 | .loop b=>FJ D b
 | .scope b=>FJ D b
 |_=>true
def Same(D:Nat)(e e':Env):Prop:=∀i,M6 D i=false->e'.g i=e.g i
theorem Same.refl(D:Nat)(e:Env):Same D e e:=fun _ _=>rfl
theorem Same.put{e0 e:Env}(h:Same D e0 e)(d:Option Tmp)(v:Value)(hd:∀x,d=some x->M6 D x=true):Same D e0<|put e d v:=by
 cases d with
 |none=>exact h
 |some d =>
  intro i hi
  have hne:Nat.beq i d=false:=by
   cases hc:Nat.beq i d with
   |false=>rfl
   |true=>have:=qdh hc;subst this;rw[hd i rfl]at hi;cases hi
  show(bif Nat.beq i d then v else e.g i)=_;rw[hne];exact h i hi
def V7(e:Env)(D:Nat)(j:Nat->Value):Env:=⟨fun i=>bif M6 D i then j i else e.g i,e.ds⟩
theorem Same.eq{e e':Env}(h:Same D e e')(hd:e'.ds=e.ds):e'=V7 e D e'.g:=by
 cases e' with
 |mk g ds =>
  unfold V7
  congr 1
  .funext i
   cases hb:M6 D i with
   |true=>rfl
   |false=>exact h i hb
section
variable {P:Program}{r:Option Nat}{n:Nat}{Q:Exit->Env->World->Prop}{e:Env}{w:World}
theorem SO{o:Oper}{K K':Env->World->Prop}{Q':Exit->Env->World->Prop}(hK:∀e w,K e w->K' e w)(hQ:∀x e w,Q x e w->Q' x e w) :
  ∀res,Uu P o e K Q res->Uu P o e K' Q' res:=by
 intro res h
 match res,h with
 | .ok (.value v) w',h=>exact hK _ _ h
 | .ok .skip w',h=>exact hK _ _ h
 | .ok (.defer d) w',h=>exact hK _ _ h
 | .ok (.enter f args) w',h=>exact Ret.mono h fun _ _ h=>hK _ _ h
 | .ok (.round lo f tmps assign body) w',h=>exact RoundIn.mono h fun _ _ ⟨v,hx,h⟩=>⟨v,hx,hK _ _ h⟩
 | .halt (.panic v) w',h=>exact hQ _ _ _ h
theorem CE{ops:List Oper}{Q':Exit->Env->World->Prop}(hQ:∀x e w,Q x e w->Q' x e w):∀(l:List Oper) (e:Env) (w:World),A4 P r ops Q l e w->A4 P r ops Q' l e w
 | [],e,w,h=>hQ _ _ _ h
 |o::l,e,w,h=>by
  unfold A4 at h |-
  split
  .rename_i hw;rw[if_pos hw]at h;exact SO (CE hQ l) hQ _ h
  .rename_i hw;rw[if_neg hw]at h;exact CE hQ l _ _ h
theorem M8{K K':Env->World->Prop}{Q':Exit->Env->World->Prop}(hK:∀e w,K e w->K' e w)(hQ:∀x e w,Q x e w->Q' x e w):∀x e w,Fq K Q x e w->Fq K' Q' x e w:=by
 intro x e w h
 cases x with
 |normal=>exact hK _ _ h
 |_=>exact hQ _ _ _ h
theorem Q5{Q':Exit->Env->World->Prop}(hQ:∀x e w,Q x e w->Q' x e w):∀x e w,Gk id Q x e w->Gk id Q' x e w:=by
 intro x e w h
 cases x with
 |exit id' =>
  show(bif Nat.beq id' id then Q' .normal e w else Q' (.exit id') e w);have h:(bif Nat.beq id' id then Q .normal e w else Q (.exit id') e w):=h
  cases hb:Nat.beq id' id with
  |true=>rw[hb]at h;exact hQ _ _ _ h
  |false=>rw[hb]at h;exact hQ _ _ _ h
 |_=>exact hQ _ _ _ h
theorem Q6{Q':Exit->Env->World->Prop}(hQ:∀x e w,Q x e w->Q' x e w):∀e w j,Le Q e w j->Le Q' e w j:=by
 intro e w j h
 match j,h with
 |none,h=>exact hQ _ _ _ h
 |some .ret,h=>exact hQ _ _ _ h
 |some (.exit id),h=>exact hQ _ _ _ h
 |some (.goto l),h=>exact hQ _ _ _ h
theorem Q7{Q':Exit->Env->World->Prop}(hQ:∀x e w,Q x e w->Q' x e w):∀x e w,Ih Q x e w->Ih Q' x e w:=by
 intro x e w h
 cases x with
 |goto l=>exact h
 |_=>exact hQ _ _ _ h
theorem Jp{ops:List Oper}{C:World->Prop}{K K':Env->Prop}(hK:∀e,K e->K' e):∀(l:List Oper) (e:Env),Wq P ops C K l e->Wq P ops C K' l e
 | [],e,h=>hK e h
 |o::l,e,h=>by
  unfold Wq at h |-
  split
  .rename_i hw;rw[if_pos hw]at h;obtain⟨v,hv,h⟩:=h;exact⟨v,hv,Jp hK l _ h⟩
  .rename_i hw;rw[if_neg hw]at h;exact Jp hK l _ h
theorem Ha{ops:List Oper}{S:World->Prop}{K K':Env->Prop}(hK:∀e,K e->K' e):∀(l:List Oper) (e:Env),Wt P ops S K l e->Wt P ops S K' l e
 | [],e,h=>hK e h
 |o::l,e,h=>by
  unfold Wt at h |-
  split
  .rename_i hw;rw[if_pos hw]at h;obtain⟨v,hv,h⟩:=h;exact⟨v,hv,Ha hK l _ h⟩
  .rename_i hw;rw[if_neg hw]at h;exact Ha hK l _ h
theorem Ft{S:World->Prop}{K K':Env->World->Prop}(hK:∀e w,K e w->K' e w):∀x e w,IE S K x e w->IE S K' x e w:=by
 intro x e w h
 cases x with
 |normal=>exact⟨h.1,hK _ _ h.2⟩
 |_=>exact h
theorem M9{ops:List Oper}{S:World->Prop}{z:List Nat}{K K':Env->World->Prop}(hK:∀e w,K e w->K' e w):∀(plan:List<|List Nat × Nat) (e:Env) (w:World),IC P ops S z K plan e w->IC P ops S z K' plan e w
 | [],e,w,h=>hK e w h
 |(_,_)::rest,_,_,h=>Ha (fun _ h=>CE (Ft fun e w h=>M9 hK rest e w h) _ _ _ h) _ _ h
theorem Kk{ops:List Oper}{S:World->Prop}{K K':Env->World->Prop}(hK:∀e w,K e w->K' e w):∀(plan:Tr) (e:Env) (w:World),Wtr P ops S K plan e w->Wtr P ops S K' plan e w
 | .stop,e,w,h=>hK e w h
 | .one _ _ n,_,_,h=>Ha (fun _ h=>CE (Ft fun e w h=>Kk hK n e w h) _ _ _ h) _ _ h
 | .two _ _ n _ m,_,_,h=>Ha (fun _ h=>⟨CE (Ft fun e w h=>Kk hK n e w h) _ _ _ h.1,CE (Ft fun e w h=>Kk hK m e w h) _ _ _ h.2⟩) _ _ h
theorem Ff:∀(c:Code) {Q Q':Exit->Env->World->Prop} (_:∀x e w,Q x e w->Q' x e w) {e:Env} {w:World},W P r n c Q e w->W P r n c Q' e w
 | .skip,_,_,hQ,_,_,h=>hQ _ _ _ h
 | .label _,_,_,hQ,_,_,h=>hQ _ _ _ h
 | .ret,_,_,hQ,_,_,h=>hQ _ _ _ h
 | .exit _,_,_,hQ,_,_,h=>hQ _ _ _ h
 | .goto _,_,_,hQ,_,_,h=>hQ _ _ _ h
 | .seq x y,_,_,hQ,_,_,h=>Ff x (M8 (fun _ _ h=>Ff y hQ h) hQ) h
 | .cond _ x y,_,_,hQ,_,_,⟨t,hc,h1,h2⟩=>⟨t,hc,fun ht=>Ff x hQ<|h1 ht,fun ht=>Ff y hQ<|h2 ht⟩
 | .block _ c,_,_,hQ,_,_,h=>Ff c (Q5 hQ) h
 | .loop c,_,_,hQ,_,_,⟨I,h0,hr⟩=>⟨I,h0,fun k e w hI=>Ff c (M8 (fun _ _ h=>h) hQ)<|hr k e w hI⟩
 | .region _ _ false,_,_,hQ,_,_,h=>CE hQ _ _ _ h
 | .region _ _ true,_,_,hQ,_,_,.inl h => .inl fun t=>CE hQ _ _ _<|h t
 | .region _ _ true,_,_,hQ,_,_,.inr (.inl ⟨hr,hm,hB,C,hC,h⟩) => .inr (.inl ⟨hr,hm,hB,C,hC,Jp (fun _ h w' hw'=>hQ _ _ _<|h w' hw') _ _ h⟩)
 | .region _ _ true,_,_,hQ,_,_,.inr (.inr<|.inl ⟨hr,hm,k,hB,h⟩) => .inr (.inr<|.inl ⟨hr,hm,k,hB,Jp (fun _ h=>CE hQ _ _ _ h) _ _ h⟩)
 | .region _ _ true,_,_,hQ,_,_,.inr (.inr<|.inr<|.inl ⟨hm,hsel,hnd,plan,S,z,hl,hB,hz,hS,h⟩) => .inr (.inr<|.inr<|.inl ⟨hm,hsel,hnd,plan,S,z,hl,hB,hz,hS,M9 (fun _ _ h=>hQ _ _ _ h) _ _ _ h⟩)
 | .region _ _ true,_,_,hQ,_,_,.inr (.inr<|.inr<|.inr ⟨hm,hsel,hnd,plan,S,hl,hB,hS,h⟩) => .inr (.inr<|.inr<|.inr ⟨hm,hsel,hnd,plan,S,hl,hB,hS,Kk (fun _ _ h=>hQ _ _ _ h) _ _ _ h⟩)
 | .rangeFunc _ _ _ _,_,_,hQ,_,_,⟨d,hd,h⟩=>⟨d,hd,fun fn tmps h1 h2 =>
   let ⟨g,fi,ca,hg,hcf,hret⟩:=h fn tmps h1 h2
   ⟨g,fi,ca,hg,hcf,Ret.mono hret fun _ _ ⟨lo,h1,h2,h3⟩=>⟨lo,h1,h2,Q6 hQ _ _ _ h3⟩⟩⟩
 | .scope c,_,_,hQ,_,_,h=>Ff c (Q7 hQ) h
 | .refuse _,_,_,_,_,_,h=>h.elim
theorem Jq{o:Oper}(h:EF D (o::l)=true):(∀x,o.dst=some x->M6 D x=true)/\EF D l=true:=by
 simp only[EF,qag]at h;exact⟨fun x hx=>by have:=h.1;rw[hx]at this;exact this,h.2⟩
theorem NR{D:Nat}:∀{l:List Oper},EF D l=true->∀(i:Nat) (o:Oper),l[i]?=some o->∀x,o.dst=some x->M6 D x=true
 | [],_,i,o,h=>by simp at h
 |x::l,hf,i,o,h=>by
  have hd:=Jq hf
  cases i with
  |zero=>simp at h;subst h;exact hd.1
  |succ i=>exact NR hd.2 i o<|by simpa using h
theorem Dm{D:Nat}{ops:List Oper}(h:EF D ops=true):∀l,EF D (C4 ops l)=true
 | []=>rfl
 |i::l=>by
  unfold C4
  cases hi:ops[i]? with
  |none=>exact Dm h l
  |some o =>
   simp only[EF,qag];refine⟨?_,Dm h l⟩;have:=NR h i o hi
   cases hd:o.dst with
   |none=>rfl
   |some d=>exact this d hd
theorem Lf{D:Nat}:∀(a b:List Oper),EF D (a++b)=(EF D a && EF D b)
 | [],_=>by simp[EF]
 |o::a,b=>by simp[EF,Lf a b,qc4]
theorem SP(h:EF D l=true)(k:Nat):EF D (l.take k)=true:=by
 rw[<-qbp k l,Lf,qag]at h;exact h.1
theorem SQ(h:EF D l=true)(k:Nat):EF D (l.drop k)=true:=by
 rw[<-qbp k l,Lf,qag]at h;exact h.2
theorem Dd{ops:List Oper}{D:Nat}{e0:Env}(Q:Exit->Env->World->Prop):∀(l:List Oper) (e:Env) (w:World),EF D l=true->Same D e0 e->A4 P r ops Q l e w ->
  A4 P r ops (fun x e' w'=>Q x e' w'/\Same D e0 e') l e w
 | [],e,w,_,hs,h=>⟨h,hs⟩
 |o::l,e,w,hD,hs,h=>by
  obtain⟨hd,hl⟩:=Jq hD;unfold A4 at h |-
  split
  .rename_i hw
   rw[if_pos hw]at h;generalize(o.semAt r<|ev e).run P w=res at h
   match res,h with
   | .ok (.value v) w',h=>exact Dd Q l _ _ hl (hs.put _ _ hd) h
   | .ok .skip w',h=>exact Dd Q l _ _ hl (hs.put _ _ hd) h
   | .ok (.defer d) w',h=>exact Dd Q l _ _ hl (Same.put (e:=⟨e.g,d::e.ds⟩) hs _ _ hd) h
   | .ok (.enter f args) w',h=>exact Ret.mono h fun v w'' h=>Dd Q l _ _ hl (hs.put _ _ hd) h
   | .ok (.round lo f tmps assign body) w',h=>exact RoundIn.mono h fun _ _ ⟨v,hx,h⟩=>⟨v,hx,Dd Q l _ _ hl (hs.put _ _ hd) h⟩
   | .halt (.panic v) w',h=>exact⟨h,hs⟩
  .rename_i hw
   rw[if_neg hw]at h;exact Dd Q l _ _ hl (hs.put _ _ hd) h
theorem LF{K:Env->World->Prop}{K':Env->World->Prop}{S:Env->Prop}(hK:∀e w,S e->K e w->K' e w) :
  ∀x e w,Fq K Q x e w/\S e->Fq K' (fun x e' w'=>Q x e' w'/\S e') x e w:=by
 intro x e w ⟨h,hs⟩
 cases x with
 |normal=>exact hK _ _ hs h
 |_=>exact⟨h,hs⟩
theorem Pw{S:Env->Prop}:∀x e w,Gk id Q x e w/\S e->Gk id (fun x e' w'=>Q x e' w'/\S e') x e w:=by
 intro x e w ⟨h,hs⟩
 cases x with
 |exit id' =>
  show(bif Nat.beq id' id then(Q .normal e w/\S e)else(Q (.exit id') e w/\S e));have h:(bif Nat.beq id' id then Q .normal e w else Q (.exit id') e w):=h
  cases hb:Nat.beq id' id with
  |true=>rw[hb]at h;exact⟨h,hs⟩
  |false=>rw[hb]at h;exact⟨h,hs⟩
 |_=>exact⟨h,hs⟩
theorem Px{S:Env->Prop}:∀x e w,Ih Q x e w/\S e->Ih (fun x e' w'=>Q x e' w'/\S e') x e w:=by
 intro x e w ⟨h,hs⟩
 cases x with
 |goto l=>exact h
 |_=>exact⟨h,hs⟩
theorem Kl{ops:List Oper}{C:World->Prop}{D:Nat}{e0:Env}{K:Env->Prop}:∀(l:List Oper) (e:Env),EF D l=true->Same D e0 e->Wq P ops C K l e->Wq P ops C (fun e=>K e/\Same D e0 e) l e
 | [],e,_,hs,h=>⟨h,hs⟩
 |o::l,e,hD,hs,h=>by
  obtain⟨hd,hl⟩:=Jq hD;unfold Wq at h |-
  split
  .rename_i hw;rw[if_pos hw]at h;obtain⟨v,hv,h⟩:=h;exact⟨v,hv,Kl l _ hl (hs.put _ _ hd) h⟩
  .rename_i hw;rw[if_neg hw]at h;exact Kl l _ hl (hs.put _ _ hd) h
theorem IV{ops:List Oper}{S:World->Prop}{D:Nat}{e0:Env}{K:Env->Prop}:∀(l:List Oper) (e:Env),EF D l=true->Same D e0 e->Wt P ops S K l e->Wt P ops S (fun e=>K e/\Same D e0 e) l e
 | [],e,_,hs,h=>⟨h,hs⟩
 |o::l,e,hD,hs,h=>by
  obtain⟨hd,hl⟩:=Jq hD;unfold Wt at h |-
  split
  .rename_i hw;rw[if_pos hw]at h;obtain⟨v,hv,h⟩:=h;exact⟨v,hv,IV l _ hl (hs.put _ _ hd) h⟩
  .rename_i hw;rw[if_neg hw]at h;exact IV l _ hl (hs.put _ _ hd) h
theorem Ij{S:World->Prop}{K:Env->World->Prop}{Z:Env->Prop}:∀x e w,IE S K x e w/\Z e->IE S (fun e w=>K e w/\Z e) x e w:=by
 intro x e w ⟨h,hz⟩
 cases x with
 |normal=>exact⟨h.1,h.2,hz⟩
 |_=>exact h
theorem LG{ops:List Oper}{S:World->Prop}{z:List Nat}{D:Nat}{e0:Env}{K:Env->World->Prop}(hall:EF D ops=true):∀(plan:List<|List Nat × Nat) (e:Env) (w:World),Same D e0 e->IC P ops S z K plan e w ->
  IC P ops S z (fun e w=>K e w/\Same D e0 e) plan e w
 | [],e,w,hs,h=>⟨h,hs⟩
 |(ts,i)::rest,e,w,hs,h=>by
  refine Ha ?_ _ _<|IV (C4 ops ts) e (Dm hall ts) hs h;rintro e1 ⟨h1,hs1⟩;refine CE ?_ _ _ _<|Dd _ (C4 ops [i]) e1 w (Dm hall [i]) hs1 h1;intro x e2 w2 h2;refine Ft ?_ x e2 w2<|Ij x e2 w2 h2;rintro e3 w3 ⟨h3,hs3⟩;exact LG hall rest e3 w3 hs3 h3
theorem Jr{ops:List Oper}{S:World->Prop}{D:Nat}{e0:Env}{K:Env->World->Prop}(hall:EF D ops=true):∀(plan:Tr) (e:Env) (w:World),Same D e0 e->Wtr P ops S K plan e w ->
  Wtr P ops S (fun e w=>K e w/\Same D e0 e) plan e w
 | .stop,e,w,hs,h=>⟨h,hs⟩
 | .one ts i n,e,w,hs,h=>by
  refine Ha ?_ _ _<|IV (C4 ops ts) e (Dm hall ts) hs h;rintro e1 ⟨h1,hs1⟩;refine CE ?_ _ _ _<|Dd _ (C4 ops [i]) e1 w (Dm hall [i]) hs1 h1;intro x e2 w2 h2;refine Ft ?_ x e2 w2<|Ij x e2 w2 h2;rintro e3 w3 ⟨h3,hs3⟩;exact Jr hall n e3 w3 hs3 h3
 | .two ts i n j m,e,w,hs,h=>by
  refine Ha ?_ _ _<|IV (C4 ops ts) e (Dm hall ts) hs h;rintro e1 ⟨⟨h1,h2⟩,hs1⟩;refine⟨CE ?_ _ _ _<|Dd _ (C4 ops [i]) e1 w (Dm hall [i]) hs1 h1,CE ?_ _ _ _<|Dd _ (C4 ops [j]) e1 w (Dm hall [j]) hs1 h2⟩
  .intro x e2 w2 h2;refine Ft ?_ x e2 w2<|Ij x e2 w2 h2;rintro e3 w3 ⟨h3,hs3⟩;exact Jr hall n e3 w3 hs3 h3
  .intro x e2 w2 h2;refine Ft ?_ x e2 w2<|Ij x e2 w2 h2;rintro e3 w3 ⟨h3,hs3⟩;exact Jr hall m e3 w3 hs3 h3
theorem FS{D:Nat}{e0:Env}:∀(c:Code) (Q:Exit->Env->World->Prop) (e:Env) (w:World),FJ D c=true->Same D e0 e->W P r n c Q e w ->
  W P r n c (fun x e' w'=>Q x e' w'/\Same D e0 e') e w
 | .skip,_,_,_,_,hs,h=>⟨h,hs⟩
 | .label _,_,_,_,_,hs,h=>⟨h,hs⟩
 | .ret,_,_,_,_,hs,h=>⟨h,hs⟩
 | .exit _,_,_,_,_,hs,h=>⟨h,hs⟩
 | .goto _,_,_,_,_,hs,h=>⟨h,hs⟩
 | .seq x y,Q,e,w,hD,hs,h=>by
  simp only[FJ,qag]at hD;exact Ff x (LF (S:=Same D e0) fun e' w' hs' hk=>FS y Q e' w' hD.2 hs' hk)<|FS x _ e w hD.1 hs h
 | .cond _ x y,Q,e,w,hD,hs,⟨t,hc,h1,h2⟩=>by
  simp only[FJ,qag]at hD;exact⟨t,hc,fun ht=>FS x Q e w hD.1 hs<|h1 ht,fun ht=>FS y Q e w hD.2 hs<|h2 ht⟩
 | .block id c,Q,e,w,hD,hs,h=>Ff c (Pw (S:=Same D e0))<|FS c _ e w hD hs h
 | .loop c,Q,e,w,hD,hs,⟨I,⟨k,h0⟩,hr⟩=>⟨fun k e w=>I k e w/\Same D e0 e,⟨k,h0,hs⟩,fun k e w hI =>
   Ff c (LF (S:=Same D e0) fun _ _ hs' ⟨k',hk',hI'⟩=>⟨k',hk',hI',hs'⟩) (FS c _ e w hD hI.2<|hr k e w hI.1)⟩
 | .region _ ops false,Q,e,w,hD,hs,h=>Dd Q _ _ _ hD hs h
 | .region _ ops true,Q,e,w,hD,hs,.inl h => .inl fun t=>Dd Q _ _ _ (Dm hD _) hs<|h t
 | .region _ ops true,Q,e,w,hD,hs,.inr (.inl ⟨hr,hm,hB,C,hC,h⟩) => .inr (.inl ⟨hr,hm,hB,C,hC,Jp (fun _ h w' hw'=>⟨h.1 w' hw',h.2⟩) _ _<|Kl _ _ hD hs h⟩)
 | .region _ ops true,Q,e,w,hD,hs,.inr (.inr<|.inl ⟨hr,hm,k,hB,h⟩) => .inr (.inr<|.inl ⟨hr,hm,k,hB,Jp (fun _ h=>Dd Q _ _ _ (SQ hD k) h.2 h.1) _ _<|Kl _ _ (SP hD k) hs h⟩)
 | .region _ ops true,Q,e,w,hD,hs,.inr (.inr<|.inr<|.inl ⟨hm,hsel,hnd,plan,S,z,hl,hB,hz,hS,h⟩) => .inr (.inr<|.inr<|.inl ⟨hm,hsel,hnd,plan,S,z,hl,hB,hz,hS,LG hD plan _ _ hs h⟩)
 | .region _ ops true,Q,e,w,hD,hs,.inr (.inr<|.inr<|.inr ⟨hm,hsel,hnd,plan,S,hl,hB,hS,h⟩) => .inr (.inr<|.inr<|.inr ⟨hm,hsel,hnd,plan,S,hl,hB,hS,Jr hD plan _ _ hs h⟩)
 | .rangeFunc f ps assign body,Q,e,w,_,hs,⟨d,hd,h⟩=>⟨d,hd,fun fn tmps h1 h2 =>
   let ⟨g,fi,ca,hg,hcf,hret⟩:=h fn tmps h1 h2
   ⟨g,fi,ca,hg,hcf,Ret.mono hret fun _ _ ⟨lo,h1,h2,h3⟩=>⟨lo,h1,h2,by
    generalize lo.pending=jump at h3
    match jump,h3 with
    |none,h3=>exact⟨h3,hs⟩
    |some .ret,h3=>exact⟨h3,hs⟩
    |some (.exit id),h3=>exact⟨h3,hs⟩
    |some (.goto l),h3=>exact⟨h3,hs⟩⟩⟩⟩
 | .scope c,Q,e,w,hD,hs,h=>Ff c (Px (S:=Same D e0))<|FS c _ e w hD hs h
 | .refuse _,_,_,_,_,_,h=>h.elim
theorem JO{K K':Env->World->Prop}{S:Env->Prop}(hK:∀e w,S e->K e w->K' e w):∀x e w,Fq K Q x e w/\S e->Fq K' Q x e w:=by
 intro x e w ⟨h,hs⟩
 cases x with
 |normal=>exact hK _ _ hs h
 |_=>exact h
theorem Ax{p:Prop}[Decidable p](h:decide p=true):p:=qbe h
theorem Ay{p:Prop}[Decidable p](h:decide p=false):¬p:=qbq h
theorem BR{p:Prop}[Decidable p](h:(!decide p)=true):¬p:=by simpa using h
theorem BS{p:Prop}[Decidable p](h:(!decide p)=false):p:=by simpa using h
theorem Ba{b:Bool}(h:(!b)=true):b=false:=by simpa using h
theorem Bb{b:Bool}(h:(!b)=false):b=true:=by simpa using h
class iA(b:Bool)(p q:outParam Prop):Prop where
 t:b=true->p
 f:b=false->q
instance{b:Bool}:iA (!b) (b=false) (b=true):=⟨Ba,Bb⟩
instance{p:Prop}[Decidable p]:iA (decide p) p (¬p):=⟨Ax,Ay⟩
instance{p:Prop}[Decidable p]:iA (!decide p) (¬p) p:=⟨BR,BS⟩
theorem AB{x y:Code}(h:W P r n x (Fq (W P r n y Q) Q) e w):W P r n (.seq x y) Q e w:=h
theorem Af{y:Code}(h:A4 P r l (Fq (W P r n y Q) Q) l e w):W P r n (.seq (.region id l.toArray false) y) Q e w:=h
theorem Aw(h:A4 P r l Q l e w):W P r n (.region id l.toArray false) Q e w:=h
theorem A1(h:Q .normal e w):W P r n .skip Q e w:=h
theorem Py{l:Nat}(h:Q .normal e w):W P r n (.label l) Q e w:=h
theorem Bf(h:Q .ret e w):W P r n .ret Q e w:=h
theorem Bi(h:Q (.exit id) e w):W P r n (.exit id) Q e w:=h
theorem Pz(h:W P r n c (Ih Q) e w):W P r n (.scope c) Q e w:=h
theorem Xx(h:Q .normal e w):Ih Q .normal e w:=h
theorem V8(h:Q .ret e w):Ih Q .ret e w:=h
theorem Uz(C:World->Prop)(hm:P.follows .mixedOrders=true)(hC:C w.drew)(h:Wq P l C (fun e'=>∀w',C w'->Q .normal e' w') l e)(hB:Region.lexB .any l.toArray=true:=by kernel_rfl):W P none n (.region id l.toArray true) Q e w := .inr (.inl ⟨rfl,hm,hB,C,hC,h⟩)
theorem CG{y:Code}(C:World->Prop)(hm:P.follows .mixedOrders=true)(hC:C w.drew)(h:Wq P l C (fun e'=>∀w',C w'->W P none n y Q e' w') l e)(hB:Region.lexB .any l.toArray=true:=by kernel_rfl):W P none n (.seq (.region id l.toArray true) y) Q e w := .inr (.inl ⟨rfl,hm,hB,C,hC,h⟩)
theorem DL(k:Nat)(hm:P.follows .mixedOrders=true)(h1:l.take k=l1)(h2:l.drop k=l2)(h:Wq P l (fun x=>x=w.drew) (fun e'=>A4 P none l Q l2 e' w.drew) l1 e)(hB:Region.lexTailB .any l.toArray k=true:=by kernel_rfl):W P none n (.region id l.toArray true) Q e w :=
 .inr (.inr<|.inl ⟨rfl,hm,k,hB,by rw[h1,h2];exact h⟩)
theorem De{y:Code}(k:Nat)(hm:P.follows .mixedOrders=true)(h1:l.take k=l1)(h2:l.drop k=l2)(h:Wq P l (fun x=>x=w.drew) (fun e'=>A4 P none l (Fq (W P none n y Q) Q) l2 e' w.drew) l1 e)(hB:Region.lexTailB .any l.toArray k=true:=by kernel_rfl):W P none n (.seq (.region id l.toArray true) y) Q e w :=
 .inr (.inr<|.inl ⟨rfl,hm,k,hB,by rw[h1,h2];exact h⟩)
theorem Eb(plan:List<|List Nat × Nat)(S:World->Prop)(z:List Nat)(hm:P.follows .mixedOrders=true)(hS:S w.drew)(h:IC P l S z (Q .normal) plan e w.drew)(hB:(Region.noSelect l.toArray && Nat.ble (Jo plan) l.toArray.size && M5 P l.toArray plan (Array.replicate l.toArray.size false) && zB l.toArray z true plan && FY l.toArray)=true:=by kernel_rfl):W P r n (.region id l.toArray true) Q e w:=by
 simp only[qag]at hB;exact .inr<|.inr<|.inr<|.inl ⟨hm,hB.1.1.1.1,hB.2,plan,S,z,hB.1.1.1.2,hB.1.1.2,hB.1.2,hS,h⟩
theorem BG{y:Code}(plan:List<|List Nat × Nat)(S:World->Prop)(z:List Nat)(hm:P.follows .mixedOrders=true)(hS:S w.drew)(h:IC P l S z (W P r n y Q) plan e w.drew)(hB:(Region.noSelect l.toArray && Nat.ble (Jo plan) l.toArray.size && M5 P l.toArray plan (Array.replicate l.toArray.size false) && zB l.toArray z true plan && FY l.toArray)=true:=by kernel_rfl):W P r n (.seq (.region id l.toArray true) y) Q e w:=by
 simp only[qag]at hB;exact .inr<|.inr<|.inr<|.inl ⟨hm,hB.1.1.1.1,hB.2,plan,S,z,hB.1.1.1.2,hB.1.1.2,hB.1.2,hS,h⟩
theorem A0{ops:List Oper}{S:World->Prop}{K:Env->World->Prop}{plan:List (List Nat × Nat)}(h1:C4 ops ts=l1)(h2:C4 ops [i]=l2)(h:Wt P ops S (fun e'=>A4 P none ops (IE (fun w=>z.contains i=false->S w)<|IC P ops S z K plan) l2 e' w) l1 e):IC P ops S z K ((ts,i)::plan) e w:=by
 subst h1 h2;exact h
theorem Km(plan:Tr)(S:World->Prop)(hm:P.follows .mixedOrders=true)(hS:S w.drew)(h:Wtr P l S (Q .normal) plan e w.drew)(hB:(Region.noSelect l.toArray && Nat.ble (Kj plan) l.toArray.size && trB P l.toArray plan (Array.replicate l.toArray.size false) && FY l.toArray)=true:=by kernel_rfl):W P r n (.region id l.toArray true) Q e w:=by
 simp only[qag]at hB;exact .inr<|.inr<|.inr<|.inr ⟨hm,hB.1.1.1,hB.2,plan,S,hB.1.1.2,hB.1.2,hS,h⟩
theorem Afk{y:Code}(plan:Tr)(S:World->Prop)(hm:P.follows .mixedOrders=true)(hS:S w.drew)(h:Wtr P l S (W P r n y Q) plan e w.drew)(hB:(Region.noSelect l.toArray && Nat.ble (Kj plan) l.toArray.size && trB P l.toArray plan (Array.replicate l.toArray.size false) && FY l.toArray)=true:=by kernel_rfl):W P r n (.seq (.region id l.toArray true) y) Q e w:=by
 simp only[qag]at hB;exact .inr<|.inr<|.inr<|.inr ⟨hm,hB.1.1.1,hB.2,plan,S,hB.1.1.2,hB.1.2,hS,h⟩
theorem B1{ops:List Oper}{S:World->Prop}{K:Env->World->Prop}{t:Tr}(h1:C4 ops ts=l1)(h2:C4 ops [i]=l2)(h:Wt P ops S (fun e'=>A4 P none ops (IE S<|Wtr P ops S K t) l2 e' w) l1 e):Wtr P ops S K (.one ts i t) e w:=by
 subst h1 h2;exact h
theorem F6{ops:List Oper}{S:World->Prop}{K:Env->World->Prop}{t m:Tr}(h1:C4 ops ts=l1)(h2:C4 ops [i]=l2)(h3:C4 ops [j]=l3)(h:Wt P ops S (fun e'=>A4 P none ops (IE S<|Wtr P ops S K t) l2 e' w/\A4 P none ops (IE S<|Wtr P ops S K m) l3 e' w) l1 e):Wtr P ops S K (.two ts i t j m) e w:=by
 subst h1 h2 h3;exact h
theorem Db{ops:List Oper}{S:World->Prop}{K:Env->World->Prop}(h:K e w):Wtr P ops S K .stop e w:=h
theorem B3{S:World->Prop}{K:Env->World->Prop}(hS:S w)(h:K e w):IE S K .normal e w:=⟨hS,h⟩
theorem Bu{ops:List Oper}{S:World->Prop}{K:Env->World->Prop}(h:K e w):IC P ops S z K [] e w:=h
theorem Bv{S:World->Prop}{K:Env->World->Prop}(hS:S w)(h:K e w):IE (fun w=>z.contains i=false->S w) K .normal e w:=⟨fun _=>hS,h⟩
theorem Bw{S:World->Prop}{K:Env->World->Prop}(hz:z.contains i=true)(h:K e w):IE (fun w=>z.contains i=false->S w) K .normal e w:=⟨fun h0=>absurd (hz.symm.trans h0)<|by simp,h⟩
theorem AK(h:W P r n c (Gk id Q) e w):W P r n (.block id c) Q e w:=h
theorem A3{c:Operand}{x y:Code}(t:Bool)(hc:ev e c=.bool t)(h1:t=true->W P r n x Q e w)(h2:t=false->W P r n y Q e w) :
  W P r n (.cond c x y) Q e w:=⟨t,hc,h1,h2⟩
theorem iB{c:Operand}{x y:Code}{t:Bool}{p:Prop}[iA t p q](hc:ev e c=.bool t)(h1:p->W P r n x Q e w)(h2:q->W P r n y Q e w):W P r n (.cond c x y) Q e w:=A3 t hc (fun h=>h1<|iA.t h) fun h=>h2<|iA.f h
theorem EG{c:Operand}{x y:Code}(hc:ev e c=.bool true)(h1:W P r n x Q e w):W P r n (.cond c x y) Q e w :=
 A3 true hc (fun _=>h1) (fun h=>by cases h)
theorem FT{c:Operand}{x y:Code}(hc:ev e c=.bool false)(h1:W P r n y Q e w):W P r n (.cond c x y) Q e w :=
 A3 false hc (fun h=>by cases h) (fun _=>h1)
theorem AY(D:Nat)(live:α->List (Nat × Value))(I:α->World->Prop)(μ:α->Nat)(z0:α)(hD:FJ D c=true)(h0:LD e<|live z0)(hI:I z0 w)(round:∀z j w,I z w->W P r n c (Fq (fun e' w'=>∃z',e'.ds=e.ds/\LD e' (live z')/\I z' w'/\μ z'<μ z) Q) (SF (V7 e D j)<|live z) w) :
  W P r n (.loop c) Q e w:=by
 refine⟨fun k e' w'=>∃z,μ z=k/\e'.ds=e.ds/\LD e' (live z)/\I z w'/\Same D e e',⟨μ z0,z0,rfl,rfl,h0,hI,Same.refl _ _⟩,?_⟩;rintro k e' w' ⟨z,rfl,hd,hl,hI,hs⟩;have hr:=round z e'.g w' hI;rw[<-hs.eq hd,Mx hl]at hr;refine Ff c (JO (S:=Same D e) ?_)<|FS c _ e' w' hD hs hr;rintro e2 w2 hs2 ⟨z',hd',hl',hI',hm⟩;exact⟨μ z',hm,z',rfl,hd',hl',hI',hs2⟩
theorem Dk{x y:Code}(D:Nat)(live:α->List (Nat × Value))(I:α->World->Prop)(hD:FJ D x=true)(h:W P r n x (Fq (fun e' w'=>∃z,e'.ds=e.ds/\LD e' (live z)/\I z w') Q) e w)(hk:∀z j w',I z w'->W P r n y Q (SF (V7 e D j)<|live z) w'):W P r n (.seq x y) Q e w:=by
 refine AB<|Ff x (JO (S:=Same D e) ?_)<|FS x _ e w hD (Same.refl _ _) h;rintro e' w' hs ⟨z,hd,hl,hI⟩;have:=hk z e'.g w' hI;rw[<-hs.eq hd,Mx hl]at this;exact this
theorem Bo{ops:List Oper}{K:Env->World->Prop}(D:Nat)(live:α->List (Nat × Value))(I:α->World->Prop)(hD:EF D l=true)(h:A4 P r ops (fun x e' w'=>x=.normal/\∃z,e'.ds=e.ds/\LD e' (live z)/\I z w') l e w)(hk:∀z j w',I z w'->K (SF (V7 e D j)<|live z) w'):A4 P r ops (Fq K Q) l e w:=by
 refine CE ?_ l e w<|Dd _ l e w hD (Same.refl _ _) h;rintro x e' w' ⟨⟨rfl,z,hd,hl,hI⟩,hs⟩;have:=hk z e'.g w' hI;rw[<-hs.eq hd,Mx hl]at this;exact this
theorem Aa{K:Env->World->Prop}(h:K e w):Fq K Q .normal e w:=h
theorem Am{K:Env->World->Prop}(h:Q (.exit id) e w):Fq K Q (.exit id) e w:=h
theorem AD{K:Env->World->Prop}(h:Q .ret e w):Fq K Q .ret e w:=h
theorem Av(h:Q .normal e w):Gk id Q .normal e w:=h
theorem Bn(h:Q .ret e w):Gk id Q .ret e w:=h
theorem A8(h:Q .normal e w):Gk id Q (.exit id) e w:=by
 show(bif Nat.beq id id then Q .normal e w else Q (.exit id) e w);rw[Nat.beq_refl];exact h
theorem Gv(hne:Nat.beq id' id=false)(h:Q (.exit id') e w):Gk id Q (.exit id') e w:=by
 show(bif Nat.beq id' id then Q .normal e w else Q (.exit id') e w);rw[hne];exact h
theorem F7{d:Tmp}(h:e.g d=v):put e (some d) v=e:=by
 cases e with
 |mk g ds =>
  show(⟨fun i=>bif Nat.beq i d then v else g i,ds⟩:Env)=⟨g,ds⟩
  congr 1
  funext i
  cases hb:Nat.beq i d with
  |false=>rfl
  |true=>rw[qdh hb];exact h.symm
theorem MA{ops:List Oper}(d:Tmp){b:Bool}(c:Bool)(hd:e.g d=.bool b)(hb:b=c)(h:A4 P r ops Q l (put e (some d)<|.bool c) w):A4 P r ops Q l e w:=by
 subst hb;rw[F7 hd]at h;exact h
theorem Az{ops:List Oper}(d:Tmp){b:Bool}(hd:e.g d=.bool b)(h1:b=true->A4 P r ops Q l (put e (some d)<|.bool true) w)(h2:b=false->A4 P r ops Q l (put e (some d)<|.bool false) w):A4 P r ops Q l e w:=by
 cases b with
 |true=>exact MA d true hd rfl (h1 rfl)
 |false=>exact MA d false hd rfl (h2 rfl)
theorem iC{ops:List Oper}(d:Tmp){b:Bool}{p:Prop}[iA b p q](hd:e.g d=.bool b)(h1:p->A4 P r ops Q l (put e (some d)<|.bool true) w)(h2:q->A4 P r ops Q l (put e (some d)<|.bool false) w):A4 P r ops Q l e w:=Az d hd (fun h=>h1<|iA.t h) fun h=>h2<|iA.f h
end
def Bl(t:TypeId)(l:List Value):Obj := .cells l.toArray t (0,0)
structure Ext(S:List Nat)(w w':World):Prop where
 os:w'.os=w.os
 tape:w'.tape=w.tape
 output:w'.output=w.output
 size:w.heap.size<=w'.heap.size
 block:∀k,k<w.heap.size->k∉S->w'.heap[k]?=w.heap[k]?
theorem Ext.refl(S:List Nat)(w:World):Ext S w w:=⟨rfl,rfl,rfl,qaq _,fun _ _ _=>rfl⟩
theorem Ext.trans{S:List Nat}{a b c:World}(h:Ext S a b)(k:Ext S b c):Ext S a c :=
 ⟨k.os.trans h.os,k.tape.trans h.tape,k.output.trans h.output,qa3 h.size k.size,fun i hi hn=>(k.block i (qbb hi h.size) hn).trans<|h.block i hi hn⟩
theorem Ext.mono{S:List Nat}(h:Ext S w w')(hs:∀x,x∈S->x∈S'):Ext S' w w' :=
 ⟨h.os,h.tape,h.output,h.size,fun k hk hn=>h.block k hk fun hx=>hn<|hs _ hx⟩
theorem Ext.then{S:List Nat}{a b c:World}(h:Ext S a b)(k:Ext S' b c)(hs:∀x,x∈S'->x∈S\/a.heap.size<=x):Ext S a c :=
 ⟨k.os.trans h.os,k.tape.trans h.tape,k.output.trans h.output,qa3 h.size k.size,fun i hi hn=>by
  rw[k.block i (qbb hi h.size) (fun hx=>by
   rcases hs i hx with hx|hx
   .exact hn hx
   .omega)]
  exact h.block i hi hn⟩
theorem Ext.drew(S:List Nat)(w:World):Ext S w w.drew:=⟨rfl,rfl,rfl,qaq _,fun _ _ _=>rfl⟩
theorem Ext.alloc(S:List Nat)(w:World)(o:Obj):Ext S w (w.alloc o) :=
 ⟨rfl,rfl,rfl,by simp,fun k hk _=>by
  show(w.heap.push o)[k]?=_
  rw[Array.getElem?_push,if_neg<|by omega]⟩
theorem Ext.cell{S:List Nat}(h:Ext S w w')(hc:w.cell? p=some v)(hn:p.block∉S):w'.cell? p=some v:=by
 have hb:=h.block p.block (World.block_lt_of_cell? w p hc) hn;unfold World.cell? at hc |-;rw[hb];exact hc
theorem AX{b:Nat}{o:Obj}(h:w.heap[b]?=some o):b<w.heap.size:=by
 rcases qao b w.heap.size with hl|hl
 .exact hl
 .rw[qen hl]at h;cases h
theorem Ai{b:Nat}{l:List Value}(h:w.heap[b]?=some (Bl t l))(i:Nat):w.cell? ⟨b,i,none⟩=l[i]? := by
 unfold World.cell?;rw[h];simp[Bl]
theorem NS{b:Nat}{l:List Value}(h:w.heap[b]?=some (Bl t l))(i:Nat):w.frozen? ⟨b,i,none⟩=false:=by
 unfold World.frozen?;rw[h];simp[Bl]
theorem HD{b:Nat}{o:Obj}(h:w.heap[b]?=some o):(w.putObj b o').heap[b]?=some o':=World.putObj_heap_same<|AX h
theorem Ext.setB(w:World)(b:Nat)(o:Obj):Ext [b] w (w.putObj b o) :=
 ⟨rfl,rfl,rfl,by simp,fun k _ hn=>World.putObj_heap_other (by intro h;exact hn<|by simp[h])⟩
theorem MB{b:Nat}{l:List Value}(h:w.heap[b]?=some (Bl t l))(i:Nat)(v:Value) :
  w.setCell ⟨b,i,none⟩ v=w.putObj b (Bl t<|l.set i v):=by
 have hb:=AX h;unfold World.setCell World.putObj
 congr 1
 apply Array.ext_getElem?;intro k;rw[Array.getElem?_modify,Array.getElem?_setIfInBounds]
 by_cases hk:b=k
 .subst hk;rw[if_pos rfl,if_pos rfl,if_pos hb,h];simp[Bl]
 .rw[if_neg hk,if_neg hk]
structure Ctx(w0:World)(S:List Nat)(w:World)(L:List (Nat × Obj)):Prop where
 ext:Ext S w0 w
 blk:∀x∈L,w.heap[x.1]?=some x.2
 nd:L.Pairwise (fun x y=>x.1≠y.1)
 own:∀x∈L,x.1∈S\/w0.heap.size<=x.1
section
variable {w0 w w':World}{S:List Nat}{L:List (Nat × Obj)}{b:Nat}{o o':Obj}
theorem Ctx.start(w:World)(S:List Nat):Ctx w S w []:=⟨.refl _ _,by simp,List.Pairwise.nil,by simp⟩
theorem qE(w:World):∃v,v=w∧Ctx v [] w []:=⟨w,rfl,Ctx.start w []⟩
theorem Ctx.start1{b:Nat}{o:Obj}(h:w.heap[b]?=some o):Ctx w [b] w [(b,o)] :=
 ⟨.refl _ _,by simpa using h,by simp,by simp⟩
theorem Ctx.get(H:Ctx w0 S w L){k:Nat}(hk:L[k]?=some (b,o)):w.heap[b]?=some o :=
 H.blk (b,o) (qad hk)
theorem Ctx.lt(H:Ctx w0 S w L){k:Nat}(hk:L[k]?=some (b,o)):b<w.heap.size:=AX<|H.get hk
theorem Ctx.size(H:Ctx w0 S w L):w0.heap.size<=w.heap.size:=H.ext.size
theorem Ctx.alloc(H:Ctx w0 S w L)(o:Obj):Ctx w0 S (w.alloc o) ((w.heap.size,o)::L):=by
 have he:=Ext.alloc ([]:List Nat) w o;refine⟨H.ext.then he (fun x hx=>by cases hx),?_,?_,?_⟩
 .intro x hx
  rcases qaf.1 hx with rfl|hx
  .show(w.heap.push o)[w.heap.size]?=_;simp
  .rw[he.block x.1 (AX (H.blk x hx)) (by simp)];exact H.blk x hx
 .refine List.Pairwise.cons ?_ H.nd;intro y hy;have:=AX (H.blk y hy);show w.heap.size≠y.1;omega
 .intro x hx
  rcases qaf.1 hx with rfl|hx
  .exact .inr H.size
  .exact H.own x hx
theorem Ctx.step(H:Ctx w0 S w L)(he:Ext S' w w')(hd:∀x∈L,x.1∉S')(hs:∀x,x∈S'->x∈S\/w0.heap.size<=x):Ctx w0 S w' L :=
 ⟨H.ext.then he hs,fun x hx=>by rw[he.block x.1 (AX<|H.blk x hx)<|hd x hx];exact H.blk x hx,H.nd,H.own⟩
theorem Ctx.call(H:Ctx w0 S w L)(he:Ext [] w w'):Ctx w0 S w' L:=H.step he (by simp)<|by simp
theorem Ctx.drew(H:Ctx w0 S w L):Ctx w0 S w.drew L:=H.call<|Ext.drew _ _
theorem Ctx.add(H:Ctx w0 S w L)(h:w.heap[b]?=some o)(hb:b∈S\/w0.heap.size<=b)(hn:∀x∈L,x.1≠b):Ctx w0 S w ((b,o)::L) :=
 ⟨H.ext,fun x hx=>by
  rcases qaf.1 hx with rfl|hx
  .exact h
  .exact H.blk x hx,List.Pairwise.cons (fun y hy=>Ne.symm<|hn y hy) H.nd,fun x hx=>by
  rcases qaf.1 hx with rfl|hx
  .exact hb
  .exact H.own x hx⟩
theorem Ctx.callAdd(H:Ctx w0 S w L)(he:Ext [] w w')(h:w'.heap[b]?=some o)(hb:w.heap.size<=b):Ctx w0 S w' ((b,o)::L) :=
 (H.call he).add h (.inr<|qa3 H.size hb) (fun x hx=>by have:=AX<|H.blk x hx;omega)
theorem Ctx.sub(H:Ctx w0 S w L)(hs:∀x∈L',x∈L)(hn:L'.Pairwise fun x y=>x.1≠y.1):Ctx w0 S w L' :=
 ⟨H.ext,fun x hx=>H.blk x<|hs x hx,hn,fun x hx=>H.own x<|hs x hx⟩
theorem Ctx.tail{x:Nat × Obj}(H:Ctx w0 S w (x::L)):Ctx w0 S w L :=
 ⟨H.ext,fun y hy=>H.blk y<|qae _ hy,(qbf.1 H.nd).2,fun y hy=>H.own y<|qae _ hy⟩
theorem Ctx.drop(H:Ctx w0 S w L)(k:Nat):Ctx w0 S w (L.drop k) :=
 ⟨H.ext,fun y hy=>H.blk y<|qco hy,H.nd.drop,fun y hy=>H.own y<|qco hy⟩
theorem Ctx.erase(H:Ctx w0 S w L)(k:Nat):Ctx w0 S w (L.eraseIdx k) :=
 ⟨H.ext,fun y hy=>H.blk y<|qeo hy,H.nd.sublist<|List.eraseIdx_sublist _ _,fun y hy=>H.own y<|qeo hy⟩
theorem Kn(hn:L.Pairwise fun x y=>x.1≠y.1){x y:Nat × Obj}(hi:L[i]?=some x)(hj:L[j]?=some y)(hne:i≠j):x.1≠y.1:=by
 obtain⟨hi',rfl⟩:=qbh.1 hi;obtain⟨hj',rfl⟩:=qbh.1 hj;rw[qeb]at hn
 rcases Nat.lt_or_gt_of_ne hne with h|h
 .exact hn i j hi' hj' h
 .exact Ne.symm (hn j i hj' hi' h)
theorem Ctx.ne(H:Ctx w0 S w L)(hi:L[i]?=some (b,o))(hj:L[j]?=some (b',o'))(hne:i≠j):b≠b':=Kn H.nd hi hj hne
theorem Ctx.turn(H:Ctx w0 S w L){k:Nat}(hk:L[k]?=some (b,o))(o':Obj)(he:Ext [b] w w')(hb:w'.heap[b]?=some o'):Ctx w0 S w'<|L.set k (b,o'):=by
 have hkl:k<L.length:=(qbh.1 hk).1;have hmem:(b,o)∈L:=qad hk;refine⟨H.ext.then he (fun x hx=>by rw[qab]at hx;subst hx;exact H.own _ hmem),?_,?_,?_⟩
 .intro x hx;rw[qbi]at hx;obtain⟨j,hj⟩:=hx;rw[qec]at hj
  by_cases hjk:k=j
  .subst hjk;rw[if_pos rfl,if_pos hkl]at hj;simp only[qb0]at hj;subst hj;exact hb
  .rw[if_neg hjk]at hj;have hne:=Kn H.nd hj hk<|Ne.symm hjk;have hm:=qad hj;rw[he.block x.1 (AX<|H.blk x hm)<|by simpa using hne];exact H.blk x hm
 .rw[qeb];intro i j hi hj hij;rw[qb8]at hi hj
  have hfst:∀(m:Nat) (hm:m<(L.set k (b,o')).length),((L.set k (b,o'))[m]).1=(L[m]'(by simpa using hm)).1:=by
   intro m hm;rw[List.getElem_set]
   split
   .rename_i h
    subst h;have:=(qbh.1 hk).2;rw[this]
   .rfl
  rw[hfst i<|by simpa using hi,hfst j<|by simpa using hj];have hn:=H.nd;rw[qeb]at hn;exact hn i j hi hj hij
 .intro x hx;rw[qbi]at hx;obtain⟨j,hj⟩:=hx;rw[qec]at hj
  by_cases hjk:k=j
  .subst hjk;rw[if_pos rfl,if_pos hkl]at hj;simp only[qb0]at hj;subst hj;exact H.own (b,o) hmem
  .rw[if_neg hjk]at hj;exact H.own x<|qad hj
theorem Ctx.setB(H:Ctx w0 S w L){k:Nat}(hk:L[k]?=some (b,o))(o':Obj):Ctx w0 S (w.putObj b o') (L.set k (b,o')) :=
 H.turn hk o' (Ext.setB w b o') (HD<|H.get hk)
theorem Ctx.old(H:Ctx w0 S w L)(hc:w0.cell? p=some v)(hn:p.block∉S):w.cell? p=some v:=H.ext.cell hc hn
theorem Ctx.old0(H:Ctx w0 [] w L)(hc:w0.cell? p=some v):w.cell? p=some v:=H.ext.cell hc<|by simp
theorem at0{x:α}{l:List α}:(x::l)[0]?=some x:=rfl
theorem at1{x x0:α}{l:List α}:(x0::x::l)[1]?=some x:=rfl
theorem at2{x x0 x1:α}{l:List α}:(x0::x1::x::l)[2]?=some x:=rfl
theorem at3{x x0 x1 x2:α}{l:List α}:(x0::x1::x2::x::l)[3]?=some x:=rfl
theorem at4{x x0 x1 x2 x3:α}{l:List α}:(x0::x1::x2::x3::x::l)[4]?=some x:=rfl
theorem at5{x x0 x1 x2 x3 x4:α}{l:List α}:(x0::x1::x2::x3::x4::x::l)[5]?=some x:=rfl
theorem at6{x x0 x1 x2 x3 x4 x5:α}{l:List α}:(x0::x1::x2::x3::x4::x5::x::l)[6]?=some x:=rfl
theorem at7{x x0 x1 x2 x3 x4 x5 x6:α}{l:List α}:(x0::x1::x2::x3::x4::x5::x6::x::l)[7]?=some x:=rfl
theorem at8{x x0 x1 x2 x3 x4 x5 x6 x7:α}{l:List α}:(x0::x1::x2::x3::x4::x5::x6::x7::x::l)[8]?=some x:=rfl
theorem at9{x x0 x1 x2 x3 x4 x5 x6 x7 x8:α}{l:List α}:(x0::x1::x2::x3::x4::x5::x6::x7::x8::x::l)[9]?=some x:=rfl
end
def adr(a:Option Addr):Addr:=match a with|some ⟨b,o,_⟩=>⟨b,o,none⟩|none=>⟨0,0,none⟩
structure Rd(w:World){α:Type}(a:Option Addr)(s:Nat)(enc:α->List Value)(xs:List α):Prop where
 some':xs≠[]->∃b o,a=some ⟨b,o,none⟩
 cell:∀i x,xs[i]?=some x->∀j v,(enc x)[j]?=some v->j<s->w.cell? ⟨(adr a).block,(adr a).off+i*s+j,none⟩=some v
theorem Rd.ext{a:Option Addr}{enc:α->List Value}{S:List Nat}(h:Rd w a s enc xs)(he:Ext S w w')(hn:(adr a).block∉S):Rd w' a s enc xs :=
 ⟨h.some',fun i x hx j v hv hj=>he.cell (h.cell i x hx j v hv hj) hn⟩
theorem Rd.ext0{a:Option Addr}{enc:α->List Value}(h:Rd w a s enc xs)(he:Ext [] w w'):Rd w' a s enc xs:=h.ext he<|by simp
theorem Rd.nil{a:Option Addr}{enc:α->List Value}:Rd w a s enc []:=⟨fun h=>absurd rfl h,fun i x hx=>by simp at hx⟩
theorem Rd.of_bl{b:Nat}{enc:α->List Value}{l r:List Value}(h:w.heap[b]?=some (Bl t l))(hl:l=xs.flatMap enc++r)(hs:∀x∈xs,(enc x).length=s) :
  Rd w (some ⟨b,0,none⟩) s enc xs:=by
 refine⟨fun _=>⟨b,0,rfl⟩,fun i x hx j v hv hj=>?_⟩;show w.cell? ⟨b,0+i*s+j,none⟩=some v;rw[Ai h,hl];clear h hl
 induction xs generalizing i with
 |nil=>simp at hx
 |cons y ys ih =>
  have hy:(enc y).length=s:=hs y<|by simp
  cases i with
  |zero =>
   simp only[List.getElem?_cons_zero,qb0]at hx;subst hx;simp only[qbw,qaz];rw[qcw<|by omega]
   simpa using hv
  |succ i =>
   simp only[qbw,qaz];have hge:(enc y).length<=0+(i+1)*s+j:=by rw[hy,Nat.succ_mul];omega
   rw[qcp hge];have:=ih (fun x hx=>hs x<|by simp[hx]) i (by simpa using hx);rw[<-this]
   congr 1
   rw[hy,Nat.succ_mul];omega
def Ca(P:Program)(t:TypeId):Option (List Value):=((P.info? t).bind (·.zero)).map fun z=>z.cells.toList
def Cb(P:Program)(t:TypeId):Option Nat:=(P.info? t).map (·.size)
def DB(P:Program)(t:TypeId):Option Nat:=(P.info? t).map (·.bytes)
def Dc(P:Program)(t:TypeId):Option Bool:=(P.underlying t).map fun d=>match d with | .struct _ | .array _ _=>true|_=>false
def C8(P:Program)(t:TypeId):Option TypeId:=match P.underlying t with|some (.slice e)=>some e|_=>none
def Q8(P:Program)(t:TypeId):Option (Nat × TypeId):=match P.underlying t with|some (.array n e)=>some (n,e)|_=>none
def B5(P:Program)(t:TypeId)(i:Nat):Option Nat :=
 match P.underlying t with
 |some (.struct fs)=>match fs[i]? with
  |some f=>match Cb P f.type with
   |some (_+1)=>some f.offset
   |_=>none
  |none=>none
 |_=>none
section
variable {P:Program}{w:World}
theorem CS(h:C8 P t=some e):P.underlying t=some (.slice e):=by
 unfold C8 at h
 split at h
 .rename_i hu;injection h with h;subst h;exact hu
 .cases h
theorem SR{k:Nat}(h:Q8 P t=some (k,e)):P.underlying t=some (.array k e):=by
 unfold Q8 at h
 split at h
 .rename_i hu;injection h with h;cases h;exact hu
 .cases h
theorem Bg{d:TypeDesc}(h:P.underlying t=some d)(w:World):(underlying t).run P w=.ok d w:=by
 simp[underlying,program,Sem.run,h]
theorem CL(h:Cb P t=some s)(w:World):(sizeOf t).run P w=.ok s w:=by
 unfold Cb at h
 cases hi:P.info? t with
 |none=>rw[hi]at h;cases h
 |some i=>rw[hi]at h;simp at h;simp[sizeOf,typeInfo,program,Sem.run,hi,h]
theorem G5{l:List Value}(h:Ca P t=some l)(w:World):∃z,(zeroValue t).run P w=.ok z w/\z.cells.toList=l:=by
 unfold Ca at h
 cases hi:P.info? t with
 |none=>rw[hi]at h;cases h
 |some i =>
  rw[hi]at h;simp only[qd7]at h
  cases hz:i.zero with
  |none=>rw[hz]at h;cases h
  |some z =>
   rw[hz]at h;simp only[qcq,qb0]at h;exact⟨z,by simp[zeroValue,typeInfo,program,Sem.run,hi,hz],h⟩
theorem NT{b:Bool}(h:Dc P t=some b)(w:World):(isAgg t).run P w=.ok b w:=by
 unfold Dc at h
 cases hu:P.underlying t with
 |none=>rw[hu]at h;cases h
 |some d =>
  rw[hu]at h;simp only[qcq,qb0]at h;subst h;simp only[isAgg,Sem.run_bind,Bg hu,Result.andThen_ok];cases d <;> rfl
theorem Fu(ha:Dc P t=some false)(hc:w.cell? p=some v):(loadVar t p).run P w=.ok v w:=by
 simp[loadVar,NT ha,load,Sem.run,hc]
theorem Lg{p:Addr}:∀(l:List Value) (i:Nat) (acc:Array Value),(∀j v,l[j]?=some v->w.cell? (p.add<|i+j)=some v) ->
  (loadCellsFrom p i l.length acc).run P w=.ok (acc++l.toArray) w
 | [],_,acc,_=>by simp[loadCellsFrom]
 |v::l,i,acc,h=>by
  have h0:=h 0 v rfl;have ih:=Lg l (i+1) (acc.push v) (fun j u hu=>by have:=h (j+1) u (by simpa using hu);rwa [show i+1+j=i+(j+1)from by omega]);simp only[qbd,loadCellsFrom,Sem.run_bind,load,Sem.run];simp only[Nat.add_zero]at h0;rw[h0];simp only[Result.andThen_ok];rw[ih];simp
theorem add_none{b o:Nat}:(Addr.add ⟨b,o,none⟩ i)=⟨b,o+i,none⟩:=by
 unfold Addr.add
 split
 .subst_vars;rfl
 .rfl
theorem Fv(ha:Dc P t=some true)(hs:Cb P t=some s){b o:Nat}{l:List Value}(hl:l.length=s)(hc:∀j v,l[j]?=some v->w.cell? ⟨b,o+j,none⟩=some v):(loadVar t ⟨b,o,none⟩).run P w=.ok (.agg l.toArray) w:=by
 have h:=Lg (P:=P) (w:=w) (p:=⟨b,o,none⟩) l 0 #[] (fun j v hv=>by rw[add_none,qa0];exact hc j v hv);rw[hl]at h;simp only[loadVar,Sem.run_bind,NT ha,Result.andThen_ok,if_true,CL hs,loadCells,h];simp
def AF:Value->Bool
 | .agg _ | .tuple _=>false
 |_=>true
theorem V9(h:AF v=true):v.cells=#[v]:=by
 cases v <;> first|rfl|cases h
theorem MC{u:Value}(hv:AF v=true)(hc:w.cell? p=some u)(hf:w.frozen? p=false):(store p v).run P w=.ok () (w.setCell p v):=by
 cases v <;> first|(simp[store,Sem.run,hc,hf];done)|cases hv
theorem NE{u:Value}(hs:Cb P t=some 1)(hv:AF v=true)(hc:w.cell? p=some u)(hf:w.frozen? p=false) :
  (storeVar t p v).run P w=.ok () (w.setCell p v):=by
 have h0:p.add 0=p:=by unfold Addr.add;simp
 simp[storeVar,V9 hv,CL hs,storeCells,h0,MC hv hc hf]
def over(l:List Value)(i:Nat):List Value->List Value
 | []=>l
 |v::vs=>over (l.set i v) (i+1) vs
theorem D6:∀(vs l:List Value) (i:Nat),(over l i vs).length=l.length
 | [],_,_=>rfl
 |v::vs,l,i=>by simp[over,D6 vs]
theorem NU:∀(vs a l:List Value),l.length=vs.length->over (a++l) a.length vs=a++vs
 | [],a,l,h=>by
  have:l=[]:=qck<|by simpa using h
  subst this;rfl
 |v::vs,a,[],h=>by simp at h
 |v::vs,a,x::l,h=>by
  have ih:=NU vs (a++[v]) l (by simpa using h);simp only[over];have hset:(a++x::l).set a.length v=(a++[v])++l:=by simp
  rw[hset];have hlen:a.length+1=(a++[v]).length:=by simp
  rw[hlen,ih];simp
theorem over_all{l:List Value}(h:l.length=vs.length):over l 0 vs=vs:=by
 have:=NU vs [] l h
 simpa using this
theorem F9{b:Nat}{t:TypeId}{o:Nat}:∀(vs:List Value) (l:List Value) (w:World) (i:Nat),(∀v∈vs,AF v=true)->w.heap[b]?=some (Bl t l)->o+i+vs.length<=l.length ->
  ∃w',(storeCells ⟨b,o,none⟩ vs i).run P w=.ok () w'/\Ext [b] w w'/\w'.heap[b]?=some (Bl t<|over l (o+i) vs)
 | [],l,w,i,_,hb,_=>⟨w,rfl,Ext.refl _ _,hb⟩
 |v::vs,l,w,i,h1,hb,hl=>by
  simp only[qbd]at hl;have hc:w.cell? ⟨b,o+i,none⟩=some (l[o+i]'(by omega)):=by rw[Ai hb];exact qb4<|by omega
  have hs:=MC (P:=P) (h1 v<|by simp) hc<|NS hb _;rw[MB hb]at hs;obtain⟨w',hr,he,hb'⟩:=F9 (o:=o) vs (l.set (o+i) v) _ (i+1) (fun u hu=>h1 u<|by simp[hu]) (HD hb (o':=Bl t<|l.set (o+i) v)) (by simp;omega);refine⟨w',?_,(Ext.setB w b _).trans he,?_⟩
  .simp only[storeCells,Sem.run_bind,add_none,hs,Result.andThen_ok,hr]
  .simpa[over,qcz]using hb'
end
section
variable {P:Program}{r:Option Nat}{ops rest:List Oper}{Q:Exit->Env->World->Prop}{e:Env}{w w0:World}{S:List Nat}{L:List (Nat × Obj)}{dst:Option Tmp}{ty:TypeId}{pos:String}{af:Array Edge}{g:Option (Nat × Bool)}
theorem B8{o:Oper}(hg:AJ o ops e=true)(hd:NN o.op=true)(hrun:(execOp (ev e) o).run P w=.ok (.value v) w')(h:A4 P r ops Q rest (put e o.dst v) w'):A4 P r ops Q (o::rest) e w:=by
 unfold A4;rw[if_pos hg,Oper.semAt_eq r _ _<|IQ hd,hrun];exact h
theorem Mg{o:Oper}(hg:AJ o ops e=true)(hd:NN o.op=true)(hrun:(execOp (ev e) o).run P w=.ok .skip w')(h:A4 P r ops Q rest (put e o.dst undef) w'):A4 P r ops Q (o::rest) e w:=by
 unfold A4;rw[if_pos hg,Oper.semAt_eq r _ _<|IQ hd,hrun];exact h
theorem Al{o:Oper}(hg:AJ o ops e=false)(h:A4 P r ops Q rest (put e o.dst undef) w):A4 P r ops Q (o::rest) e w:=by
 unfold A4;rw[if_neg (by rw[hg];simp)];exact h
theorem Ab(h:Q .normal e w):A4 P r ops Q [] e w:=h
theorem qA{ops:List Oper}{Q:Exit->Env->World->Prop}{e:Env}{K:Env->World->Prop}(h:K e w):A4 P r ops (Fq K Q) [] e w:=h
theorem ET(hg:AJ ⟨dst,.move x,ty,pos,af,g⟩ ops e=true)(v:Value)(hx:ev e x=v)(h:A4 P r ops Q rest (put e dst v) w) :
  A4 P r ops Q (⟨dst,.move x,ty,pos,af,g⟩::rest) e w:=B8 hg rfl (by simp[execOp,hx]) h
theorem Dr(hg:AJ ⟨dst,.assign x,ty,pos,af,g⟩ ops e=true)(v:Value)(hx:ev e x=v)(h:A4 P r ops Q rest (put e dst v) w) :
  A4 P r ops Q (⟨dst,.assign x,ty,pos,af,g⟩::rest) e w:=B8 hg rfl (by simp[execOp,hx]) h
theorem Bz{c a b:Operand}(hc:ev e c=.bool true)(v:Value)(hx:ev e a=v)(h:A4 P r ops Q rest (put e dst v) w)(hg:AJ ⟨dst,.pick c a b,ty,pos,af,g⟩ ops e=true:=by exact U):
  A4 P r ops Q (⟨dst,.pick c a b,ty,pos,af,g⟩::rest) e w:=B8 hg rfl (by simp[execOp,hc,hx,asBool]) h
theorem B9{c a b:Operand}(hc:ev e c=.bool false)(v:Value)(hx:ev e b=v)(h:A4 P r ops Q rest (put e dst v) w)(hg:AJ ⟨dst,.pick c a b,ty,pos,af,g⟩ ops e=true:=by exact U):
  A4 P r ops Q (⟨dst,.pick c a b,ty,pos,af,g⟩::rest) e w:=B8 hg rfl (by simp[execOp,hc,hx,asBool]) h
theorem BW{op:BinOp}{y:Operand}{k:IntKind}{a b:Int}(hx:ev e x=.int k a)(hy:ev e y=.int k2 b)(h:(binOp op t (.int k a)<|.int k2 b).run P w=.ok v w) :
  (execOp (ev e) ⟨dst,.binOp op t x y t2,ty,pos,af,g⟩).run P w=.ok (.value v) w:=by
 have hq:eqGuard op t x y (.int k a) (.int k2 b)=pure ():=by cases op <;> rfl
 simp[execOp,hx,hy,hq,h]
section
variable {t t2:TypeId}{x y:Operand}{k:IntKind}{a b:Int}
theorem CH(hx:ev e x=.int k a)(hy:ev e y=.int k b)(h:A4 P r ops Q rest (put e dst<|.bool<|decide (a<b)) w)(hg:AJ ⟨dst,.binOp .lss t x y t2,ty,pos,af,g⟩ ops e=true:=by exact U):
  A4 P r ops Q (⟨dst,.binOp .lss t x y t2,ty,pos,af,g⟩::rest) e w:=B8 hg rfl (BW hx hy<|by simp[binOp,Op.intCmp]) h
theorem Afl(hg:AJ ⟨dst,.binOp .leq t x y t2,ty,pos,af,g⟩ ops e=true)(hx:ev e x=.int k a)(hy:ev e y=.int k b)(h:A4 P r ops Q rest (put e dst<|.bool<|decide (a<=b)) w) :
  A4 P r ops Q (⟨dst,.binOp .leq t x y t2,ty,pos,af,g⟩::rest) e w:=B8 hg rfl (BW hx hy<|by simp[binOp,Op.intCmp]) h
theorem Es(hx:ev e x=.int k a)(hy:ev e y=.int k b)(h:A4 P r ops Q rest (put e dst<|.bool<|decide (b<a)) w)(hg:AJ ⟨dst,.binOp .gtr t x y t2,ty,pos,af,g⟩ ops e=true:=by exact U):
  A4 P r ops Q (⟨dst,.binOp .gtr t x y t2,ty,pos,af,g⟩::rest) e w:=B8 hg rfl (BW hx hy<|by simp[binOp,Op.intCmp]) h
theorem IW(hx:ev e x=.int k a)(hy:ev e y=.int k b)(h:A4 P r ops Q rest (put e dst<|.bool<|decide (b<=a)) w)(hg:AJ ⟨dst,.binOp .geq t x y t2,ty,pos,af,g⟩ ops e=true:=by exact U):
  A4 P r ops Q (⟨dst,.binOp .geq t x y t2,ty,pos,af,g⟩::rest) e w:=B8 hg rfl (BW hx hy<|by simp[binOp,Op.intCmp]) h
theorem Ct(hx:ev e x=.int k a)(hy:ev e y=.int k b)(h:A4 P r ops Q rest (put e dst<|.bool<|decide (a=b)) w)(hg:AJ ⟨dst,.binOp .eql t x y t2,ty,pos,af,g⟩ ops e=true:=by exact U):
  A4 P r ops Q (⟨dst,.binOp .eql t x y t2,ty,pos,af,g⟩::rest) e w :=
 B8 hg rfl (BW hx hy (v := .bool (decide (a=b))) (by simp[binOp,Op.intCmp];rfl)) h
theorem CV(hx:ev e x=.int k a)(hy:ev e y=.int k b)(h:A4 P r ops Q rest (put e dst<|.bool<|!decide (a=b)) w)(hg:AJ ⟨dst,.binOp .neq t x y t2,ty,pos,af,g⟩ ops e=true:=by exact U):
  A4 P r ops Q (⟨dst,.binOp .neq t x y t2,ty,pos,af,g⟩::rest) e w :=
 B8 hg rfl (BW hx hy (v := .bool (!decide (a=b))) (by simp[binOp,Op.intCmp];rfl)) h
theorem CC{k:IntKind}{n:Int}(h:k.min<=n)(h2:n<=k.max):k.wrap n=n:=by
 cases k <;> simp[IntKind.min,IntKind.max,IntKind.wrap,IntKind.signed,IntKind.bits]at * <;> omega
theorem Hn(hx:ev e x=.int k a)(hy:ev e y=.int k b)(h2:a<=k.max)(h:A4 P r ops Q rest (put e dst<|.int k<|a / b) w)(hg:AJ ⟨dst,.binOp .quo t x y t2,ty,pos,af,g⟩ ops e=true:=by exact U)(h0:0<=a:=by omega)(hb:0<b:=by omega):A4 P r ops Q (⟨dst,.binOp .quo t x y t2,ty,pos,af,g⟩::rest) e w:=by
 refine B8 hg U (BW hx hy (v := .int k (a / b)) ?_) h;have h3:a.tdiv b=a / b:=qed h0;have h4:0<=a / b:=Int.ediv_nonneg h0 (by omega);have h5:a / b<=a:=Int.ediv_le_self _ h0;have h6:k.min<=0:=by cases k <;> decide
 simp[binOp,Op.intDiv,h3,show ¬b=0 from by omega,CC (k:=k) (n:=a / b) (by omega)<|by omega]
theorem SU(hg:AJ ⟨dst,.binOp .rem t x y t2,ty,pos,af,g⟩ ops e=true)(hx:ev e x=.int k a)(hy:ev e y=.int k b)(h:A4 P r ops Q rest (put e dst<|.int k<|a % b) w)(h0:0<=a:=by omega)(hb:0<b:=by omega):A4 P r ops Q (⟨dst,.binOp .rem t x y t2,ty,pos,af,g⟩::rest) e w:=by
 refine B8 hg U (BW hx hy (v := .int k (a % b)) ?_) h;have h3:a.tmod b=a % b:=qee h0;simp[binOp,Op.intDiv,h3,show ¬b=0 from by omega]
end
theorem Df{b:Bool}(hx:ev e x=.bool b)(h:A4 P r ops Q rest (put e dst<|.bool<|!b) w)(hg:AJ ⟨dst,.unOp .not t x,ty,pos,af,g⟩ ops e=true:=by exact U):
  A4 P r ops Q (⟨dst,.unOp .not t x,ty,pos,af,g⟩::rest) e w:=B8 hg rfl (by simp[execOp,hx,Op.unary]) h
theorem Afm{k:IntKind}{a:Int}(hg:AJ ⟨dst,.unOp .neg t x,ty,pos,af,g⟩ ops e=true)(hx:ev e x=.int k a)(h1:k.min <= - a)(h2 : - a<=k.max)(h:A4 P r ops Q rest (put e dst<|.int k (- a)) w) :
  A4 P r ops Q (⟨dst,.unOp .neg t x,ty,pos,af,g⟩::rest) e w:=B8 hg rfl (by simp[execOp,hx,Op.unary,Op.intArith,CC h1 h2]) h
theorem P0{s:TypeId}{k:IntKind}{a:Int}(hg:AJ ⟨dst,.convert s d x,ty,pos,af,g⟩ ops e=true)(hx:ev e x=.int k a)(hs:P.underlying s=some ds)(hd:P.underlying d=some (.int k2))(h1:k2.min<=a)(h2:a<=k2.max)(h:A4 P r ops Q rest (put e dst<|.int k2 a) w) :
  A4 P r ops Q (⟨dst,.convert s d x,ty,pos,af,g⟩::rest) e w :=
 B8 hg rfl (by simp[execOp,hx,convert,Bg hs,Bg hd,Conv.intToInt,CC h1 h2]) h
theorem MD{s:TypeId}{k:IntKind}{a:Int}(hg:AJ ⟨dst,.convert s d x,ty,pos,af,g⟩ ops e=true)(hx:ev e x=.int k a)(hs:P.underlying s=some ds)(hd:P.underlying d=some (.int k2))(h:A4 P r ops Q rest (put e dst<|.int k2<|k2.wrap a) w) :
  A4 P r ops Q (⟨dst,.convert s d x,ty,pos,af,g⟩::rest) e w :=
 B8 hg rfl (by simp[execOp,hx,convert,Bg hs,Bg hd,Conv.intToInt]) h
theorem AN{l:List Value}(hz:Ca P t=some l)(H:Ctx w0 S w L)(h:∀b w',w.heap.size=b->Ctx w0 S w' ((b,Bl t l)::L)->A4 P r ops Q rest (put e dst<|.pointer<|some ⟨b,0,none⟩) w')(hg:AJ ⟨dst,.alloc t,ty,pos,af,g⟩ ops e=true:=by exact U):
  A4 P r ops Q (⟨dst,.alloc t,ty,pos,af,g⟩::rest) e w:=by
 obtain⟨z,hz1,hz2⟩:=G5 hz w;refine B8 (w':=w.alloc<|Bl t l) (v := .pointer (some ⟨w.heap.size,0,none⟩)) hg U ?_<|h _ _ U<|H.alloc _;simp only[execOp,Instr.alloc,Sem.run_bind,hz1,Result.andThen_ok,newVar,newRow,newObj,Sem.run]
 have:z.cells=l.toArray:=by rw[<-hz2]
 rw[this];rfl
theorem Be(l:List Value)(v:Value)(hx:ev e x=v)(hl:v.cells=l.toArray)(H:Ctx w0 S w L)(h:∀b w',w.heap.size=b->Ctx w0 S w' ((b,Bl t l)::L)->A4 P r ops Q rest (put e dst<|.pointer<|some ⟨b,0,none⟩) w')(hg:AJ ⟨dst,.box t x,ty,pos,af,g⟩ ops e=true:=by exact U):
  A4 P r ops Q (⟨dst,.box t x,ty,pos,af,g⟩::rest) e w:=by
 refine B8 (w':=w.alloc<|Bl t l) (v := .pointer (some ⟨w.heap.size,0,none⟩)) hg U ?_<|h _ _ U<|H.alloc _;simp only[execOp,Instr.box,hx,hl,newVar,newRow,newObj,Sem.run_bind,Sem.run,Result.andThen_ok];rfl
theorem A9(ha:Dc P t=some false)(hx:ev e x=.pointer (some p))(hc:w.cell? p=some v)(h:A4 P r ops Q rest (put e dst v) w)(hg:AJ ⟨dst,.load t x,ty,pos,af,g⟩ ops e=true:=by exact U):A4 P r ops Q (⟨dst,.load t x,ty,pos,af,g⟩::rest) e w :=
 B8 hg rfl (by simp[execOp,hx,Instr.loadAt,Instr.sureAddr,Fu ha hc]) h
theorem Bh{b k:Nat}{l:List Value}(ha:Dc P t=some false)(hx:ev e x=.pointer (some ⟨b,i,none⟩))(H:Ctx w0 S w L)(hk:L[k]?=some (b,Bl t2 l))(hc:l[i]?=some v)(h:A4 P r ops Q rest (put e dst v) w)(hg:AJ ⟨dst,.load t x,ty,pos,af,g⟩ ops e=true:=by exact U):A4 P r ops Q (⟨dst,.load t x,ty,pos,af,g⟩::rest) e w :=
 A9 (hg:=hg) ha hx (by rw[Ai<|H.get hk];exact hc) h
theorem BC{b o:Nat}(l:List Value)(ha:Dc P t=some true)(hs:Cb P t=some s)(hx:ev e x=.pointer (some ⟨b,o,none⟩))(hl:l.length=s)(hc:∀j v,l[j]?=some v->w.cell? ⟨b,o+j,none⟩=some v)(h:A4 P r ops Q rest (put e dst<|.agg l.toArray) w)(hg:AJ ⟨dst,.load t x,ty,pos,af,g⟩ ops e=true:=by exact U):A4 P r ops Q (⟨dst,.load t x,ty,pos,af,g⟩::rest) e w :=
 B8 hg rfl (by simp[execOp,hx,Instr.loadAt,Instr.sureAddr,Fv ha hs hl hc]) h
theorem Dh{b k:Nat}{l:List Value}(ha:Dc P t=some true)(hs:Cb P t=some s)(hx:ev e x=.pointer (some ⟨b,0,none⟩))(H:Ctx w0 S w L)(hk:L[k]?=some (b,Bl t2 l))(hl:l.length=s)(h:A4 P r ops Q rest (put e dst<|.agg l.toArray) w)(hg:AJ ⟨dst,.load t x,ty,pos,af,g⟩ ops e=true:=by exact U):A4 P r ops Q (⟨dst,.load t x,ty,pos,af,g⟩::rest) e w :=
 BC l (hg:=hg) ha hs hx hl (fun j v hv=>by rw[Ai<|H.get hk,qa0];exact hv) h
theorem Ch{y:Operand}{b k:Nat}{l:List Value}(v:Value)(hs:Cb P t=some 1)(hx:ev e x=.pointer (some ⟨b,i,none⟩))(hy:ev e y=v)(hv:AF v=true)(H:Ctx w0 S w L)(hk:L[k]?=some (b,Bl t2 l))(hi:i<l.length)(h:∀w',Ctx w0 S w' (L.set k (b,Bl t2<|l.set i v))->A4 P r ops Q rest (put e dst undef) w')(hg:AJ ⟨dst,.store t x y,ty,pos,af,g⟩ ops e=true:=by exact U):A4 P r ops Q (⟨dst,.store t x y,ty,pos,af,g⟩::rest) e w:=by
 have hb:=H.get hk;have hc:w.cell? ⟨b,i,none⟩=some l[i]:=by rw[Ai hb];exact qb4 hi
 refine Mg (w':=w.setCell ⟨b,i,none⟩ v) hg U ?_<|h _ ?_
 .simp[execOp,hx,hy,Instr.storeAt,Instr.sureAddr,NE hs hv hc<|NS hb _]
 .rw[MB hb];exact H.setB hk _
theorem FU{y:Operand}{b o k:Nat}{l:List Value}(hg:AJ ⟨dst,.store t x y,ty,pos,af,g⟩ ops e=true)(hs:Cb P t=some s)(hx:ev e x=.pointer (some ⟨b,o,none⟩))(hy:ev e y=.agg vs.toArray)(hlen:vs.length=s)(hv:∀v∈vs,AF v=true)(H:Ctx w0 S w L)(hk:L[k]?=some (b,Bl t2 l))(hi:o+s<=l.length)(h:∀w',Ctx w0 S w' (L.set k (b,Bl t2<|over l o vs))->A4 P r ops Q rest (put e dst undef) w'):A4 P r ops Q (⟨dst,.store t x y,ty,pos,af,g⟩::rest) e w:=by
 obtain⟨w',hr,he,hb⟩:=F9 (P:=P) (o:=o) vs l w 0 hv (H.get hk) (by omega);refine Mg (w':=w') hg U ?_ (h _<|H.turn hk _ he<|by simpa using hb);simp[execOp,hx,hy,Instr.storeAt,Instr.sureAddr,storeVar,Value.cells,CL hs,hlen,hr]
theorem AM{y:Operand}{b k:Nat}{l:List Value}(hs:Cb P t=some s)(hx:ev e x=.pointer (some ⟨b,0,none⟩))(hy:ev e y=.agg vs.toArray)(hlen:vs.length=s)(hv:∀v∈vs,AF v=true)(H:Ctx w0 S w L)(hk:L[k]?=some (b,Bl t2 l))(hi:l.length=s)(h:∀w',Ctx w0 S w' (L.set k (b,Bl t2 vs))->A4 P r ops Q rest (put e dst undef) w')(hg:AJ ⟨dst,.store t x y,ty,pos,af,g⟩ ops e=true:=by exact U):A4 P r ops Q (⟨dst,.store t x y,ty,pos,af,g⟩::rest) e w :=
 FU hg hs hx hy hlen hv H hk (by omega) (fun w' H'=>h w' (by rw[over_all<|by omega]at H';exact H'))
theorem AR(hx:ev e x=.pointer (some p))(h:A4 P r ops Q rest (put e dst<|.pointer<|some p) w)(hg:AJ ⟨dst,.nilCheck x,ty,pos,af,g⟩ ops e=true:=by exact U):
  A4 P r ops Q (⟨dst,.nilCheck x,ty,pos,af,g⟩::rest) e w:=B8 hg rfl (by simp[execOp,hx]) h
theorem Ae{b o:Nat}(hf:B5 P t i=some off)(hx:ev e x=.pointer (some ⟨b,o,none⟩))(h:A4 P r ops Q rest (put e dst<|.pointer<|some ⟨b,o+off,none⟩) w)(hg:AJ ⟨dst,.fieldAddr t x i,ty,pos,af,g⟩ ops e=true:=by exact U):
  A4 P r ops Q (⟨dst,.fieldAddr t x i,ty,pos,af,g⟩::rest) e w:=by
 unfold B5 at hf
 split at hf
 .rename_i fs hu
  split at hf
  .rename_i f hf1
   split at hf
   .rename_i s hs
    injection hf with hf
    subst hf;exact B8 hg U (by simp[execOp,hx,Instr.fieldAt,Bg hu,hf1,Instr.sureAddr,fieldPlace,CL hs,add_none]) h
   .cases hf
  .cases hf
 .cases hf
theorem BA{y:Operand}{b o c:Nat}{k:IntKind}{i:Int}(hu:C8 P t=some el)(hs:Cb P el=some s)(hx:ev e x=.slice (some ⟨b,o,none⟩) n c)(hy:ev e y=.int k i)(h:A4 P r ops Q rest (put e dst<|.pointer<|some ⟨b,o+i.toNat*s,none⟩) w)(hg:AJ ⟨dst,.indexAddr t x y,ty,pos,af,g⟩ ops e=true:=by exact U)(h0:0<=i:=by omega)(h1:i<n:=by omega):
  A4 P r ops Q (⟨dst,.indexAddr t x y,ty,pos,af,g⟩::rest) e w :=
 B8 hg rfl (by simp[execOp,hx,hy,Instr.indexAt,asIntOf,Bg<|CS hu,h0,h1,CL hs,add_none]) h
theorem A2{y:Operand}{a:Option Addr}{c:Nat}{k:IntKind}{i:Int}{enc:α->List Value}(R:Rd w1 a s enc xs)(hu:C8 P t=some el)(hs:Cb P el=some s)(hx:ev e x=.slice a n c)(hy:ev e y=.int k i)(hn:n=xs.length)(h:A4 P r ops Q rest (put e dst<|.pointer<|some ⟨(adr a).block,(adr a).off+i.toNat*s,none⟩) w)(hg:AJ ⟨dst,.indexAddr t x y,ty,pos,af,g⟩ ops e=true:=by exact U)(h0:0<=i:=by omega)(h1:i<n:=by omega):
  A4 P r ops Q (⟨dst,.indexAddr t x y,ty,pos,af,g⟩::rest) e w:=by
 obtain⟨b,o,rfl⟩:=R.some' (by rintro rfl;simp at hn;omega);exact BA (hg:=hg) hu hs hx hy (h0:=h0) (h1:=h1) h
theorem LH{y:Operand}{b o:Nat}{k:IntKind}{i:Int}(hg:AJ ⟨dst,.indexAddr t x y,ty,pos,af,g⟩ ops e=true)(hu:Q8 P t=some (n,el))(hs:Cb P el=some s)(hx:ev e x=.pointer (some ⟨b,o,none⟩))(hy:ev e y=.int k i)(h:A4 P r ops Q rest (put e dst<|.pointer<|some ⟨b,o+i.toNat*s,none⟩) w)(h0:0<=i:=by omega)(h1:i<n:=by omega):
  A4 P r ops Q (⟨dst,.indexAddr t x y,ty,pos,af,g⟩::rest) e w :=
 B8 hg rfl (by simp[execOp,hx,hy,Instr.indexAt,asIntOf,Bg<|SR hu,Instr.sureAddr,h0,h1,CL hs,add_none]) h
theorem Cp{a:Option Addr}{c:Nat}(hu:C8 P t=some el)(hx:ev e x=.slice a n c)(h:A4 P r ops Q rest (put e dst<|.int .i64 n) w)(hg:AJ ⟨dst,.call ⟨.builtin .len,#[x],#[t]⟩,ty,pos,af,g⟩ ops e=true:=by exact U):
  A4 P r ops Q (⟨dst,.call ⟨.builtin .len,#[x],#[t]⟩,ty,pos,af,g⟩::rest) e w :=
 B8 hg rfl (by simp[execOp,resolve,invoke,builtin,hx,Builtin.len_,Bg<|CS hu,goInt]) h
theorem Aby{y:Operand}{k:IntKind}{a b:Int}(hg:AJ ⟨dst,.call ⟨.builtin .min,#[x,y],#[t1,t2]⟩,ty,pos,af,g⟩ ops e=true)(hx:ev e x=.int k a)(hy:ev e y=.int k b)(h:A4 P r ops Q rest (put e dst<|.int k<|min a b) w) :
  A4 P r ops Q (⟨dst,.call ⟨.builtin .min,#[x,y],#[t1,t2]⟩,ty,pos,af,g⟩::rest) e w :=
 B8 hg rfl (by
  have:(if b<a then b else a)=min a b:=by rw[Int.min_def];split <;> split <;> omega
  simp[execOp,resolve,invoke,builtin,hx,hy,Builtin.min_,Builtin.min2,this]) h
theorem P5{y:Operand}{k:IntKind}{a b:Int}(hg:AJ ⟨dst,.call ⟨.builtin .max,#[x,y],#[t1,t2]⟩,ty,pos,af,g⟩ ops e=true)(hx:ev e x=.int k a)(hy:ev e y=.int k b)(h:A4 P r ops Q rest (put e dst<|.int k<|max a b) w) :
  A4 P r ops Q (⟨dst,.call ⟨.builtin .max,#[x,y],#[t1,t2]⟩,ty,pos,af,g⟩::rest) e w :=
 B8 hg rfl (by
  have:(if a<b then b else a)=max a b:=by rw[Int.max_def];split <;> split <;> omega
  simp[execOp,resolve,invoke,builtin,hx,hy,Builtin.max_,Builtin.max2,this]) h
theorem Q9{fn:Fn}(hg:AJ ⟨dst,.makeFunc fn first cap,ty,pos,af,g⟩ ops e=true)(h:A4 P r ops Q rest (put e dst<|.func fn (first.map<|ev e)<|cap.map<|ev e) w) :
  A4 P r ops Q (⟨dst,.makeFunc fn first cap,ty,pos,af,g⟩::rest) e w :=
 B8 hg rfl (by simp[execOp,Instr.makeFunc]) h
theorem BV{vs:Array Value}(hx:ev e x=.tuple vs)(hv:vs[i]?=some v)(h:A4 P r ops Q rest (put e dst v) w)(hg:AJ ⟨dst,.extract x i,ty,pos,af,g⟩ ops e=true:=by exact U):
  A4 P r ops Q (⟨dst,.extract x i,ty,pos,af,g⟩::rest) e w :=
 B8 hg rfl (by simp[execOp,hx,Instr.extract,hv]) h
end
end Go.GV
