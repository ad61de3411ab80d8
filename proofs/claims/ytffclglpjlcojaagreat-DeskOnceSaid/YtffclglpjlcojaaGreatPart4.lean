/- Part 4 of the proof. -/
import Derived.Test.YtffclglpjlcojaaGreatPart3
import Derived.ProofKit
import Derived.Deep.Slices
import Derived.OpenShut
import Derived.JoinedOf
import Derived.Test.YtffclglpjlcojaaGreatProg
import Derived.KernelRfl
namespace Go.GV
open Go
variable {P:Program}{r:Option Nat}{ops:List Oper}{Q:Exit->Env->World->Prop}
theorem Mk{K:Env->World->Prop}{o:Oper}{rest:List Oper}{e:Env}{w:World}(h:A7 P r ops (Qk K) (o::rest) e w):A7 P r ops (Qk fun e2 w2=>A7 P r ops (Qk K) rest e2 w2) [o] e w:=by
 unfold A7 at h |-
 by_cases hw:AV o ops e=true
 .rw[if_pos hw]at h |-;generalize(o.semAt r (ev e)).run P w=res at h |-
  match res,h with
  | .ok (.value v) w',h=>exact h
  | .ok .skip w',h=>exact h
  | .ok (.defer d) w',h=>exact h
  | .ok (.enter f args) w',h=>exact Ret.mono h fun v w'' hv=>hv
  | .ok (.round l f tmps assign body) w',h=>exact RoundIn.mono h fun x w'' ⟨v,hx,hv⟩=>⟨v,hx,hv⟩
  | .halt (.panic v) w',h=>exact h.elim
 .rw[if_neg hw]at h |-;exact h
def KL(V:Nat->Value)(i:Nat)(b:Value):Nat->Value:=fun j=>if j=i then b else V j
theorem Eg(V:Nat->Value)(i:Nat)(b:Value):KL V i b i=b:=if_pos rfl
theorem DI{V:Nat->Value}{i:Nat}{b:Value}{j:Nat}(h:j≠i):KL V i b j=V j:=if_neg h
structure AW(n:Nat)(anc:Nat->List Nat)(d:Nat->Tmp)(G:Nat->(Nat->Value)->World->Prop)(e0:Env)(w0:World)(l:Nat->Prop)(e:Env)(w:World)(V:Nat->Value):Prop where
 ds:e.ds=e0.ds
 old:∀s,(∀i,i<n->s≠d i)->e.g s=e0.g s
 slot:∀i,i<n->l i->e.g (d i)=V i
 ext:Ext [] w0 w
 good:∀i,i<n->l i->G i V w
 cl:∀i,i<n->l i->∀j∈anc i,l j
theorem AW.step{n:Nat}{anc:Nat->List Nat}{d:Nat->Tmp}{G:Nat->(Nat->Value)->World->Prop}{e0:Env}{w0:World}{l:Nat->Prop}{e:Env}{w:World}{V:Nat->Value}(A:AW n anc d G e0 w0 l e w V)(hd:∀i j,i<n->j<n->d i=d j->i=j)(hst:∀i k v V w,i<n->k≠i->k∉anc i->G i V w->G i (KL V k v) w)(hx:∀i V w w',i<n->G i V w->Ext [] w w'->G i V w'){i:Nat}(hi:i<n)(hu:¬l i)(hanc:∀j∈anc i,l j){e':Env}{w':World}{v:Value}(h1:Ext [] w w')(h2:e'=put e (some (d i)) v)(h3:G i (KL V i v) w'):AW n anc d G e0 w0 (fun j=>j=i\/l j) e' w' (KL V i v):=by
 subst h2;have hni:∀j,l j->j≠i:=fun j hj h=>hu (h ▸ hj);have hna:∀j,j<n->l j->i∉anc j:=fun j hj hl h=>hu (A.cl j hj hl i h);refine⟨A.ds,fun s hs=>?_,fun j hj hl=>?_,A.ext.trans h1,fun j hj hl=>?_,fun j hj hl k hk=>?_⟩
 .rw[E3 (hs i hi)];exact A.old s hs
 .rcases hl with rfl|hl
  .rw[Fc,Eg]
  .rw[E3 fun h=>hni j hl (hd _ _ hj hi h),A.slot j hj hl,DI (hni j hl)]
 .rcases hl with rfl|hl
  .exact h3
  .exact hx j _ _ _ hj (hst j i v V w hj (Ne.symm (hni j hl)) (hna j hj hl) (A.good j hj hl)) h1
 .rcases hl with rfl|hl
  .exact .inr (hanc k hk)
  .exact .inr (A.cl j hj hl k hk)
theorem Ai5{id m n N:Nat}{arr:Array Oper}{anc:Nat->List Nat}(d:Nat->Tmp)(G:Nat->(Nat->Value)->World->Prop){e:Env}{w:World}(hm:P.follows .mixedOrders=true)(hsz:arr.size=N)(hn:n<=N)(hanc:R5 arr anc N=true)(hlast:∀i,n<=i->i<N->∀k,k<i->k∈anc i)(hd:∀i j,i<n->j<n->d i=d j->i=j)(hst:∀i k v V w,i<n->k≠i->k∉anc i->G i V w->G i (KL V k v) w)(hx:∀i V w w',i<n->G i V w->Ext [] w w'->G i V w')(hop:∀i o e' w' V,i<n->arr[i]?=some o->(∀s,(∀j,j<n->s≠d j)->e'.g s=e.g s)->(∀j∈anc i,e'.g (d j)=V j)->(∀j∈anc i,G j V w')->Ext [] w.drew w'->A7 P r arr.toList (Qk fun e2 w2=>∃v,Ext [] w' w2/\e2=put e' (some (d i)) v/\G i (KL V i v) w2) [o] e' w')(hfin:∀e' w' V,e'.ds=e.ds->(∀s,(∀j,j<n->s≠d j)->e'.g s=e.g s)->(∀j,j<n->e'.g (d j)=V j)->(∀j,j<n->G j V w')->Ext [] w.drew w'->A7 P r arr.toList (Qk fun e2 w2=>Q .normal e2 w2) (arr.toList.drop n) e' w'):W P r m (.region id arr true) Q e w:=by
 have hspec:=GR hanc
 have hset:∀{l:Array Bool} {i:Nat},l.size=N->i<N->∀j,((l.setIfInBounds i true).getD j false=true)=(j=i\/l.getD j false=true):=fun{l i} hl hi j=>by
  apply propext
  by_cases e:j=i
  .subst e;rw[qax,qd8 (by omega)];simp
  .rw[qax,qd9 (Ne.symm e),<-qax];simp[e]
 -- what is done holds all that comes ahead
 have hall:∀{l:Array Bool},(∀i,i<N->l.getD i false=true->∀j∈anc i,l.getD j false=true)->∀i,i<N->i∈Region.ready .any arr l->∀k∈anc i,l.getD k false=true:=fun{l} hcl i hi hr k hk=>by
  rcases(hspec i hi).1 k hk with h|⟨j,h1,h2⟩
  .exact Dq hr k h
  .exact hcl j (by have:=(hspec i hi).2 j h1;omega) (Dq hr j h1) k h2
 -- all is done where nothing is ready
 have hdone:∀{l:Array Bool},l.size=N->Region.ready .any arr l=[]->∀i,i<N->l.getD i false=true:=fun{l} hls hr i=>by
  induction i using Nat.strongRecOn with
  |_ i ih =>
   intro hi
   cases hc:l.getD i false with
   |true=>rfl
   |false =>
    have hu:l.getD i true=false:=by
     rw[qax,qce (by omega)]at hc |-
     simpa using hc
    have:=KH (arr:=arr) (l:=l) (i:=i) hu fun j hj=>ih j ((hspec i hi).2 j hj) (by have:=(hspec i hi).2 j hj;omega);rw[hr]at this;cases this
 have hdrop:∀i o,arr[i]?=some o->arr.toList.drop i=o::arr.toList.drop (i+1):=fun i o ho=>by
  obtain⟨h1,h2⟩:=qcs.1 ho;rw[qdc (by simpa using h1)];simp[h2]
 refine UU (I:=fun l e' w'=>l.size=N/\(((∀i,n<=i->i<N->l.getD i false=false)/\∃V,AW n anc d G e w.drew (fun i=>l.getD i false=true) e' w' V)\/∃t,n<=t/\t<=N/\(∀i,i<t->l.getD i false=true)/\(∀i,t<=i->i<N->l.getD i false=false)/\A7 P r arr.toList (Qk fun e2 w2=>Q .normal e2 w2) (arr.toList.drop t) e' w')) hm ?_ ?_ ?_
 .refine⟨by simp[hsz],.inl ⟨fun i _ _=>getD_replicate_false ..,fun _ => .int .i64 0,rfl,fun _ _=>rfl,fun i _ h=>?_,.refl _ _,fun i _ h=>?_,fun i _ h=>?_⟩⟩ <;>
   (exfalso;rw[getD_replicate_false]at h;cases h)
 .rintro l e' w' i o ⟨hls,h⟩ hr ho;have hi:i<N:=by have:=(qcs.1 ho).1;omega
  have hun:¬l.getD i false=true:=fun h=>by
   have h1:=(mem_ready.1 hr).1;rw[qax,qce (by omega)]at h h1;simp at h h1;rw[h]at h1;cases h1
  -- the next of the last ones
  have last:∀t,n<=t->(∀i,i<t->l.getD i false=true)->(∀i,t<=i->i<N->l.getD i false=false)->i=t->A7 P r arr.toList (Qk fun e2 w2=>Q .normal e2 w2) (arr.toList.drop t) e' w' ->
    A7 P r arr.toList (Qk fun e2 w2=>(l.setIfInBounds i true).size=N/\(((∀j,n<=j->j<N->(l.setIfInBounds i true).getD j false=false)/\∃V,AW n anc d G e w.drew (fun j=>(l.setIfInBounds i true).getD j false=true) e2 w2 V)\/∃t,n<=t/\t<=N/\(∀j,j<t->(l.setIfInBounds i true).getD j false=true)/\(∀j,t<=j->j<N->(l.setIfInBounds i true).getD j false=false)/\A7 P r arr.toList (Qk fun e2 w2=>Q .normal e2 w2) (arr.toList.drop t) e2 w2)) [o] e' w':=fun t hnt h1 h2 hit hW=>by
   subst hit;rw[hdrop i o ho]at hW;refine C0 ?_ _ _ _ (Mk hW);intro x e2 w2 hq
   cases x with
   |normal =>
    refine⟨by simp[hls],.inr ⟨i+1,by omega,by omega,fun j hj=>?_,fun j hj hjN=>?_,hq⟩⟩
    .rw[hset hls hi]
     by_cases hji:j=i
     .exact .inl hji
     .exact .inr (h1 j (by omega))
    .cases hc:(l.setIfInBounds i true).getD j false with
     |false=>rfl
     |true =>
      rw[hset hls hi]at hc
      rcases hc with h|h
      .omega
      .rw[h2 j (by omega) hjN]at h;cases h
   |exit id=>exact hq.elim
   |goto l=>exact hq.elim
   |ret=>exact hq.elim
   |panic c=>exact hq.elim
   |outgrown=>exact hq.elim
  rcases h with⟨hn0,V,A⟩|⟨t,hnt,htN,h1,h2,hW⟩
  .have hcl:∀j,j<N->l.getD j false=true->∀k∈anc j,l.getD k false=true:=fun j hj hl k hk=>by
    rcases qap j n with hjn|hjn
    .exact A.cl j hjn hl k hk
    .rw[hn0 j hjn hj]at hl;cases hl
   have ha:=hall hcl i hi hr
   rcases qap i n with hin|hin
   .refine C0 ?_ _ _ _ (hop i o e' w' V hin ho A.old (fun j hj=>A.slot j (qcj (EL hanc i hi j hj) hin) (ha j hj)) (fun j hj=>A.good j (qcj (EL hanc i hi j hj) hin) (ha j hj)) A.ext);intro x e2 w2 hq
    cases x with
    |normal =>
     obtain⟨v,q1,q2,q3⟩:=hq;have A':=A.step hd hst hx hin hun ha q1 q2 q3;refine⟨by simp[hls],.inl ⟨fun j hj hjN=>?_,KL V i v,?_⟩⟩
     .cases hc:(l.setIfInBounds i true).getD j false with
      |false=>rfl
      |true =>
       rw[hset hls hi]at hc
       rcases hc with h|h
       .omega
       .rw[hn0 j hj hjN]at h;cases h
     .have hf:(fun j=>(l.setIfInBounds i true).getD j false=true)=fun j=>j=i\/l.getD j false=true:=funext fun j=>hset hls hi j;rw[hf];exact A'
    |exit id=>exact hq.elim
    |goto l=>exact hq.elim
    |ret=>exact hq.elim
    |panic c=>exact hq.elim
    |outgrown=>exact hq.elim
   .have hin':i=n:=by
     rcases qap n i with h|h
     .have:=ha n (hlast i hin hi n h);rw[hn0 n (qam _) (by omega)]at this;cases this
     .omega
    have hal:∀j,j<n->l.getD j false=true:=fun j hj=>ha j (hlast i hin hi j (by omega));exact last n (qam _) hal hn0 hin' (hfin e' w' V A.ds A.old (fun j hj=>A.slot j hj (hal j hj)) (fun j hj=>A.good j hj (hal j hj)) A.ext)
  .have hge:t<=i:=by
    rcases qap i t with h|h
    .exact absurd (h1 i h) hun
    .exact h
   have hit:i=t:=by
    rcases qap t i with h|h
    .rcases(hspec i hi).1 t (hlast i (by omega) hi t h)with h3|⟨j,h3,h4⟩
     .have:=Dq hr t h3;rw[h2 t (qam _) (by omega)]at this;cases this
     .have h5:=Dq hr j h3;have h6:=(hspec i hi).2 j h3;have h7:=EL hanc j (by omega) t h4;rw[h2 j (by omega) (by omega)]at h5;cases h5
    .omega
   exact last t hnt h1 h2 hit hW
 .rintro l e' w' ⟨hls,h⟩ hr;have hal:=hdone hls hr
  rcases h with⟨hn0,V,A⟩|⟨t,hnt,htN,h1,h2,hW⟩
  .rcases qap n N with h|h
   .have:=hal n h;rw[hn0 n (qam _) h]at this;cases this
   .have hnN:n=N:=by omega
    subst hnN;have:=hfin e' w' V A.ds A.old (fun j hj=>A.slot j hj (hal j hj)) (fun j hj=>A.good j hj (hal j hj)) A.ext;rw[qdp (by simp[hsz])]at this;unfold A7 at this;exact this
  .have htN':t=N:=by
    rcases qap t N with h|h
    .have:=hal t h;rw[h2 t (qam _) h]at this;cases this
    .omega
   subst htN';rw[qdp (by simp[hsz])]at hW;unfold A7 at hW;exact hW
def Sta(p:Value->World->Prop):Prop:=∀v w w',p v w->Ext [] w w'->p v w'
def Xe:List (Value->World->Prop)->Prop
 | []=>True
 |p::l=>Sta p/\Xe l
def atG(l:List (Value->World->Prop))(i:Nat):Value->World->Prop:=match l,i with
 | [],_=>fun _ _=>True
 |p::_,0=>p
 |_::l,i+1=>atG l i
theorem Yw:∀{l:List (Value->World->Prop)},Xe l->∀i,Sta (atG l i)
 | [],_,i=>by cases i <;> exact fun _ _ _ _ _=>trivial
 |_::_,h,0=>h.1
 |_::_,h,i+1=>Yw h.2 i
def isV(t:Value):Value->World->Prop:=fun v _=>v=t
theorem Eu(t:Value):Sta (isV t):=fun _ _ _ h _=>h
def frV(w0:World)(el s:Nat)(l:List Value):Value->World->Prop:=fun v w=>Fresh w0 w el s v l
def nbV(t:TypeId)(n:Nat)(l:List Value):Value->World->Prop:=fun v w=>∃b,v=.slice (some ⟨b,0,none⟩) n n/\w.heap[b]?=some (Bl t l)
theorem Ac8{id m n N:Nat}{arr:Array Oper}{anc:Nat->List Nat}(d:Nat->Tmp)(gl:List (Value->World->Prop)){e:Env}{w:World}(hm:P.follows .mixedOrders=true)(hsz:arr.size=N)(hlast:∀i,n<=i->i<N->∀k,k<i->k∈anc i)(hd:∀i j,i<n->j<n->d i=d j->i=j)(hx:Xe gl)(hop:∀i o e' w',i<n->arr[i]?=some o->(∀s,(∀j,j<n->s≠d j)->e'.g s=e.g s)->(∀j∈anc i,atG gl j (e'.g (d j)) w')->Ext [] w.drew w'->A7 P r arr.toList (Qk fun e2 w2=>∃v,Ext [] w' w2/\e2=put e' (some (d i)) v/\atG gl i v w2) [o] e' w')(hfin:∀e' w',e'.ds=e.ds->(∀s,(∀j,j<n->s≠d j)->e'.g s=e.g s)->(∀j,j<n->atG gl j (e'.g (d j)) w')->Ext [] w.drew w'->A7 P r arr.toList (Qk fun e2 w2=>Q .normal e2 w2) (arr.toList.drop n) e' w')(hn:n<=N:=by decide)(hanc:R5 arr anc N=true:=by kernel_rfl):W P r m (.region id arr true) Q e w:=by
 refine Ai5 d (fun i V w=>atG gl i (V i) w) hm hsz hn hanc hlast hd (fun i k v V w _ hk _ h=>by rw[DI (Ne.symm hk)];exact h) (fun i V w w' _ h he=>Yw hx i _ _ _ h he) (fun i o e' w' V hi ho hold hsl hg hx=>?_) fun e' w' V hds hold hsl hg hx=>hfin e' w' hds hold (fun j hj=>by rw[hsl j hj];exact hg j hj) hx;refine C0 ?_ _ _ _ (hop i o e' w' hi ho hold (fun j hj=>by rw[hsl j hj];exact hg j hj) hx);intro x e2 w2 hq
 cases x with
 |normal =>
  obtain⟨v,h1,h2,h3⟩:=hq;exact⟨v,h1,h2,by rw[Eg];exact h3⟩
 |exit id=>exact hq.elim
 |goto l=>exact hq.elim
 |ret=>exact hq.elim
 |panic c=>exact hq.elim
 |outgrown=>exact hq.elim
def Ac9(n:Nat)(t:List (List Nat))(i:Nat):List Nat:=bif Nat.ble n i then List.range i else t.getD i []
theorem NJ{n N:Nat}(t:List (List Nat)):∀i,n<=i->i<N->∀k,k<i->k∈Ac9 n t i:=fun i hi _ k hk=>by
 unfold Ac9;rw[show Nat.ble n i=true from Nat.ble_eq_true_of_le hi,cond_true];exact qa5.2 hk
variable {P:Program}{r:Option Nat}{Q:Exit->Env->World->Prop}
structure AC(n c:Nat)(anc:Nat->List Nat)(d:Nat->Tmp)(G:Nat->(Nat->Value)->World->Prop)(e0:Env)(w0:World)(l:Nat->Prop)(e:Env)(w:World)(V:Nat->Value):Prop where
 ds:e.ds=e0.ds
 old:∀s,(∀i,i<n->s≠d i)->e.g s=e0.g s
 slot:∀i,i<n->l i->e.g (d i)=V i
 still:¬l c->w=w0
 good:∀i,i<n->l i->G i V w
 cl:∀i,i<n->l i->∀j∈anc i,l j
theorem AC.step{n c:Nat}{anc:Nat->List Nat}{d:Nat->Tmp}{G:Nat->(Nat->Value)->World->Prop}{e0:Env}{w0:World}{l:Nat->Prop}{e:Env}{w:World}{V:Nat->Value}(A:AC n c anc d G e0 w0 l e w V)(hd:∀i j,i<n->j<n->d i=d j->i=j)(hst:∀i k v V w,i<n->k≠i->k∉anc i->G i V w->G i (KL V k v) w)(hx:∀i V w w',i<n->i≠c->c∉anc i->G i V w->G i V w'){i:Nat}(hi:i<n)(hu:¬l i)(hanc:∀j∈anc i,l j){e':Env}{w':World}{v:Value}(h1:i≠c->w'=w)(h2:e'=put e (some (d i)) v)(h3:G i (KL V i v) w'):AC n c anc d G e0 w0 (fun j=>j=i\/l j) e' w' (KL V i v):=by
 subst h2;have hni:∀j,l j->j≠i:=fun j hj h=>hu (h ▸ hj);have hna:∀j,j<n->l j->i∉anc j:=fun j hj hl h=>hu (A.cl j hj hl i h);refine⟨A.ds,fun s hs=>?_,fun j hj hl=>?_,fun hc=>?_,fun j hj hl=>?_,fun j hj hl k hk=>?_⟩
 .rw[E3 (hs i hi)];exact A.old s hs
 .rcases hl with rfl|hl
  .rw[Fc,Eg]
  .rw[E3 fun h=>hni j hl (hd _ _ hj hi h),A.slot j hj hl,DI (hni j hl)]
 .rw[h1 fun h=>hc (.inl h.symm)];exact A.still fun h=>hc (.inr h)
 .rcases hl with rfl|hl
  .exact h3
  .have h4:=hst j i v V w hj (Ne.symm (hni j hl)) (hna j hj hl) (A.good j hj hl)
   by_cases hic:i=c
   .subst hic;exact hx j _ _ _ hj (hni j hl) (hna j hj hl) h4
   .rw[h1 hic];exact h4
 .rcases hl with rfl|hl
  .exact .inr (hanc k hk)
  .exact .inr (A.cl j hj hl k hk)
theorem Ai6{id m n N:Nat}{arr:Array Oper}{anc:Nat->List Nat}(c:Nat)(d:Nat->Tmp)(G:Nat->(Nat->Value)->World->Prop){e:Env}{w:World}(hm:P.follows .mixedOrders=true)(hsz:arr.size=N)(hlast:∀i,n<=i->i<N->∀k,k<i->k∈anc i)(hd:∀i j,i<n->j<n->d i=d j->i=j)(hst:∀i k v V w,i<n->k≠i->k∉anc i->G i V w->G i (KL V k v) w)(hx:∀i V w w',i<n->i≠c->c∉anc i->G i V w->G i V w')(hop:∀i o e' w' V,i<n->i≠c->arr[i]?=some o->(∀s,(∀j,j<n->s≠d j)->e'.g s=e.g s)->(∀j∈anc i,e'.g (d j)=V j)->(∀j∈anc i,G j V w')->(i∈anc c->w'=w.drew)->A7 P r arr.toList (Qk fun e2 w2=>∃v,w2=w'/\e2=put e' (some (d i)) v/\G i (KL V i v) w2) [o] e' w')(hcall:∀o e' V,arr[c]?=some o->(∀s,(∀j,j<n->s≠d j)->e'.g s=e.g s)->(∀j∈anc c,e'.g (d j)=V j)->(∀j∈anc c,G j V w.drew)->A7 P r arr.toList (Qk fun e2 w2=>∃v,e2=put e' (some (d c)) v/\G c (KL V c v) w2) [o] e' w.drew)(hfin:∀e' w' V,e'.ds=e.ds->(∀s,(∀j,j<n->s≠d j)->e'.g s=e.g s)->(∀j,j<n->e'.g (d j)=V j)->(∀j,j<n->G j V w')->A7 P r arr.toList (Qk fun e2 w2=>Q .normal e2 w2) (arr.toList.drop n) e' w')(hn:n<=N:=by decide)(hanc:R5 arr anc N=true:=by kernel_rfl)(hcn:c<n:=by decide):W P r m (.region id arr true) Q e w:=by
 have hspec:=GR hanc
 have hset:∀{l:Array Bool} {i:Nat},l.size=N->i<N->∀j,((l.setIfInBounds i true).getD j false=true)=(j=i\/l.getD j false=true):=fun{l i} hl hi j=>by
  apply propext
  by_cases e:j=i
  .subst e;rw[qax,qd8 (by omega)];simp
  .rw[qax,qd9 (Ne.symm e),<-qax];simp[e]
 -- what is done holds all that comes ahead
 have hall:∀{l:Array Bool},(∀i,i<N->l.getD i false=true->∀j∈anc i,l.getD j false=true)->∀i,i<N->i∈Region.ready .any arr l->∀k∈anc i,l.getD k false=true:=fun{l} hcl i hi hr k hk=>by
  rcases(hspec i hi).1 k hk with h|⟨j,h1,h2⟩
  .exact Dq hr k h
  .exact hcl j (by have:=(hspec i hi).2 j h1;omega) (Dq hr j h1) k h2
 -- all is done where nothing is ready
 have hdone:∀{l:Array Bool},l.size=N->Region.ready .any arr l=[]->∀i,i<N->l.getD i false=true:=fun{l} hls hr i=>by
  induction i using Nat.strongRecOn with
  |_ i ih =>
   intro hi
   cases hc:l.getD i false with
   |true=>rfl
   |false =>
    have hu:l.getD i true=false:=by
     rw[qax,qce (by omega)]at hc |-
     simpa using hc
    have:=KH (arr:=arr) (l:=l) (i:=i) hu fun j hj=>ih j ((hspec i hi).2 j hj) (by have:=(hspec i hi).2 j hj;omega);rw[hr]at this;cases this
 have hdrop:∀i o,arr[i]?=some o->arr.toList.drop i=o::arr.toList.drop (i+1):=fun i o ho=>by
  obtain⟨h1,h2⟩:=qcs.1 ho;rw[qdc (by simpa using h1)];simp[h2]
 refine UU (I:=fun l e' w'=>l.size=N/\(((∀i,n<=i->i<N->l.getD i false=false)/\∃V,AC n c anc d G e w.drew (fun i=>l.getD i false=true) e' w' V)\/∃t,n<=t/\t<=N/\(∀i,i<t->l.getD i false=true)/\(∀i,t<=i->i<N->l.getD i false=false)/\A7 P r arr.toList (Qk fun e2 w2=>Q .normal e2 w2) (arr.toList.drop t) e' w')) hm ?_ ?_ ?_
 .refine⟨by simp[hsz],.inl ⟨fun i _ _=>getD_replicate_false ..,fun _ => .int .i64 0,rfl,fun _ _=>rfl,fun i _ h=>?_,fun _=>rfl,fun i _ h=>?_,fun i _ h=>?_⟩⟩ <;>
   (exfalso;rw[getD_replicate_false]at h;cases h)
 .rintro l e' w' i o ⟨hls,h⟩ hr ho;have hi:i<N:=by have:=(qcs.1 ho).1;omega
  have hun:¬l.getD i false=true:=fun h=>by
   have h1:=(mem_ready.1 hr).1;rw[qax,qce (by omega)]at h h1;simp at h h1;rw[h]at h1;cases h1
  -- the next of the last ones
  have last:∀t,n<=t->(∀i,i<t->l.getD i false=true)->(∀i,t<=i->i<N->l.getD i false=false)->i=t->A7 P r arr.toList (Qk fun e2 w2=>Q .normal e2 w2) (arr.toList.drop t) e' w' ->
    A7 P r arr.toList (Qk fun e2 w2=>(l.setIfInBounds i true).size=N/\(((∀j,n<=j->j<N->(l.setIfInBounds i true).getD j false=false)/\∃V,AC n c anc d G e w.drew (fun j=>(l.setIfInBounds i true).getD j false=true) e2 w2 V)\/∃t,n<=t/\t<=N/\(∀j,j<t->(l.setIfInBounds i true).getD j false=true)/\(∀j,t<=j->j<N->(l.setIfInBounds i true).getD j false=false)/\A7 P r arr.toList (Qk fun e2 w2=>Q .normal e2 w2) (arr.toList.drop t) e2 w2)) [o] e' w':=fun t hnt h1 h2 hit hW=>by
   subst hit;rw[hdrop i o ho]at hW;refine C0 ?_ _ _ _ (Mk hW);intro x e2 w2 hq
   cases x with
   |normal =>
    refine⟨by simp[hls],.inr ⟨i+1,by omega,by omega,fun j hj=>?_,fun j hj hjN=>?_,hq⟩⟩
    .rw[hset hls hi]
     by_cases hji:j=i
     .exact .inl hji
     .exact .inr (h1 j (by omega))
    .cases hc:(l.setIfInBounds i true).getD j false with
     |false=>rfl
     |true =>
      rw[hset hls hi]at hc
      rcases hc with h|h
      .omega
      .rw[h2 j (by omega) hjN]at h;cases h
   |exit id=>exact hq.elim
   |goto l=>exact hq.elim
   |ret=>exact hq.elim
   |panic c=>exact hq.elim
   |outgrown=>exact hq.elim
  rcases h with⟨hn0,V,A⟩|⟨t,hnt,htN,h1,h2,hW⟩
  .have hcl:∀j,j<N->l.getD j false=true->∀k∈anc j,l.getD k false=true:=fun j hj hl k hk=>by
    rcases qap j n with hjn|hjn
    .exact A.cl j hjn hl k hk
    .rw[hn0 j hjn hj]at hl;cases hl
   have ha:=hall hcl i hi hr
   rcases qap i n with hin|hin
   .by_cases hic:i=c
    .have hw0:w'=w.drew:=A.still fun h=>hun (hic ▸ h);refine C0 ?_ _ _ _ (hic ▸ hw0 ▸ hcall o e' V (hic ▸ ho) A.old (fun j hj=>A.slot j (qcj (EL hanc i hi j (hic ▸ hj)) hin) (ha j (hic ▸ hj))) (fun j hj=>hw0 ▸ A.good j (qcj (EL hanc i hi j (hic ▸ hj)) hin) (ha j (hic ▸ hj))));intro x e2 w2 hq
     cases x with
     |normal =>
      obtain⟨v,q2,q3⟩:=hq;have A':=A.step hd hst hx hin hun ha (fun h=>absurd hic h) q2 q3;refine⟨by simp[hls],.inl ⟨fun j hj hjN=>?_,KL V i v,?_⟩⟩
      .cases hc:(l.setIfInBounds i true).getD j false with
       |false=>rfl
       |true =>
        rw[hset hls hi]at hc
        rcases hc with h|h
        .omega
        .rw[hn0 j hj hjN]at h;cases h
      .have hf:(fun j=>(l.setIfInBounds i true).getD j false=true)=fun j=>j=i\/l.getD j false=true:=funext fun j=>hset hls hi j;rw[hf];exact A'
     |exit id=>exact hq.elim
     |goto l=>exact hq.elim
     |ret=>exact hq.elim
     |panic c=>exact hq.elim
     |outgrown=>exact hq.elim
    .refine C0 ?_ _ _ _ (hop i o e' w' V hin hic ho A.old (fun j hj=>A.slot j (qcj (EL hanc i hi j hj) hin) (ha j hj)) (fun j hj=>A.good j (qcj (EL hanc i hi j hj) hin) (ha j hj)) fun hm=>A.still fun h=>hun (A.cl c hcn h i hm));intro x e2 w2 hq
     cases x with
     |normal =>
      obtain⟨v,q1,q2,q3⟩:=hq;have A':=A.step hd hst hx hin hun ha (fun _=>q1) q2 q3;refine⟨by simp[hls],.inl ⟨fun j hj hjN=>?_,KL V i v,?_⟩⟩
      .cases hc:(l.setIfInBounds i true).getD j false with
       |false=>rfl
       |true =>
        rw[hset hls hi]at hc
        rcases hc with h|h
        .omega
        .rw[hn0 j hj hjN]at h;cases h
      .have hf:(fun j=>(l.setIfInBounds i true).getD j false=true)=fun j=>j=i\/l.getD j false=true:=funext fun j=>hset hls hi j;rw[hf];exact A'
     |exit id=>exact hq.elim
     |goto l=>exact hq.elim
     |ret=>exact hq.elim
     |panic c=>exact hq.elim
     |outgrown=>exact hq.elim
   .have hin':i=n:=by
     rcases qap n i with h|h
     .have:=ha n (hlast i hin hi n h);rw[hn0 n (qam _) (by omega)]at this;cases this
     .omega
    have hal:∀j,j<n->l.getD j false=true:=fun j hj=>ha j (hlast i hin hi j (by omega));exact last n (qam _) hal hn0 hin' (hfin e' w' V A.ds A.old (fun j hj=>A.slot j hj (hal j hj)) (fun j hj=>A.good j hj (hal j hj)))
  .have hge:t<=i:=by
    rcases qap i t with h|h
    .exact absurd (h1 i h) hun
    .exact h
   have hit:i=t:=by
    rcases qap t i with h|h
    .rcases(hspec i hi).1 t (hlast i (by omega) hi t h)with h3|⟨j,h3,h4⟩
     .have:=Dq hr t h3;rw[h2 t (qam _) (by omega)]at this;cases this
     .have h5:=Dq hr j h3;have h6:=(hspec i hi).2 j h3;have h7:=EL hanc j (by omega) t h4;rw[h2 j (by omega) (by omega)]at h5;cases h5
    .omega
   exact last t hnt h1 h2 hit hW
 .rintro l e' w' ⟨hls,h⟩ hr;have hal:=hdone hls hr
  rcases h with⟨hn0,V,A⟩|⟨t,hnt,htN,h1,h2,hW⟩
  .rcases qap n N with h|h
   .have:=hal n h;rw[hn0 n (qam _) h]at this;cases this
   .have hnN:n=N:=by omega
    subst hnN;have:=hfin e' w' V A.ds A.old (fun j hj=>A.slot j hj (hal j hj)) (fun j hj=>A.good j hj (hal j hj));rw[qdp (by simp[hsz])]at this;unfold A7 at this;exact this
  .have htN':t=N:=by
    rcases qap t N with h|h
    .have:=hal t h;rw[h2 t (qam _) h]at this;cases this
    .omega
   subst htN';rw[qdp (by simp[hsz])]at hW;unfold A7 at hW;exact hW
variable {P:Program}{r:Option Nat}{Q:Exit->Env->World->Prop}
def Ada(S:List Nat)(p:Value->World->Prop):Prop:=∀v w w',p v w->Ext S w w'->p v w'
def Px(S:List Nat):List (Value->World->Prop)->Prop
 | []=>True
 |p::l=>Ada S p/\Px S l
theorem Vi{S:List Nat}:∀{l:List (Value->World->Prop)},Px S l->∀i,Ada S (atG l i)
 | [],_,i=>by cases i <;> exact fun _ _ _ _ _=>trivial
 |_::_,h,0=>h.1
 |_::_,h,i+1=>Vi h.2 i
theorem Gj(S:List Nat)(t:Value):Ada S (isV t):=fun _ _ _ h _=>h
def nwV(w0:World)(o:Obj):Value->World->Prop:=fun v w=>∃b:Nat,v=.pointer (some ⟨b,0,none⟩)/\w.heap[b]?=some o/\w0.heap.size<=b
def nsV(w0:World)(t:TypeId)(n:Nat)(l:List Value):Value->World->Prop:=fun v w=>∃b,v=.slice (some ⟨b,0,none⟩) n n/\w.heap[b]?=some (Bl t l)/\w0.heap.size<=b
theorem Ai7{S:List Nat}{w0:World}(hS:∀x∈S,x<w0.heap.size)(t:TypeId)(n:Nat)(l:List Value):Ada S (nsV w0 t n l):=fun v w w' ⟨b,h1,h2,h3⟩ hx=>⟨b,h1,hx.to h2 fun h=>by have:=hS b h;omega,h3⟩
structure AS(S:List Nat)(n:Nat)(anc:Nat->List Nat)(d:Nat->Tmp)(gl:List (Value->World->Prop))(e0:Env)(w0:World)(l:Nat->Prop)(e:Env)(w:World):Prop where
 ds:e.ds=e0.ds
 old:∀s,(∀i,i<n->s≠d i)->e.g s=e0.g s
 ext:Ext S w0 w
 good:∀i,i<n->l i->atG gl i (e.g (d i)) w
 cl:∀i,i<n->l i->∀j∈anc i,l j
theorem AS.step{S:List Nat}{n:Nat}{anc:Nat->List Nat}{d:Nat->Tmp}{gl:List (Value->World->Prop)}{e0:Env}{w0:World}{l:Nat->Prop}{e:Env}{w:World}(A:AS S n anc d gl e0 w0 l e w)(hd:∀i j,i<n->j<n->d i=d j->i=j)(hx:Px S gl){i:Nat}(hi:i<n)(hu:¬l i)(hanc:∀j∈anc i,l j){e':Env}{w':World}{v:Value}(h1:Ext S w w')(h2:e'=put e (some (d i)) v)(h3:atG gl i v w'):AS S n anc d gl e0 w0 (fun j=>j=i\/l j) e' w':=by
 subst h2;have hni:∀j,l j->j≠i:=fun j hj h=>hu (h ▸ hj);refine⟨A.ds,fun s hs=>?_,A.ext.trans h1,fun j hj hl=>?_,fun j hj hl k hk=>?_⟩
 .rw[E3 (hs i hi)];exact A.old s hs
 .rcases hl with rfl|hl
  .rw[Fc];exact h3
  .rw[E3 fun h=>hni j hl (hd _ _ hj hi h)];exact Vi hx j _ _ _ (A.good j hj hl) h1
 .rcases hl with rfl|hl
  .exact .inr (hanc k hk)
  .exact .inr (A.cl j hj hl k hk)
def chB(anc:Nat->List Nat):List Nat->Bool
 | []=>true
 |i::l=>l.all (fun j=>(anc j).contains i && !(j == i)) && chB anc l
theorem Qm{anc:Nat->List Nat}:∀{ch:List Nat},chB anc ch=true->∀(a b i j:Nat),a<b->ch[a]?=some i->ch[b]?=some j->i∈anc j
 | [],_,a,b,i,j,_,h,_=>by simp at h
 |x::l,h,a,b,i,j,hab,ha,hb=>by
  simp only[chB,qae]at h
  cases b with
  |zero=>omega
  |succ b =>
   cases a with
   |zero =>
    simp only[qet,qb3]at ha;subst ha;have:=qaw.1 h.1 j (qac (by simpa using hb));rw[qae]at this;exact qdm.1 this.1
   |succ a=>exact Qm h.2 a b i j (by omega) (by simpa using ha) (by simpa using hb)
variable {P:Program}{r:Option Nat}{Q:Exit->Env->World->Prop}
theorem Adb{id m n N:Nat}{arr:Array Oper}{anc:Nat->List Nat}(S:List Nat)(d:Nat->Tmp)(gl:List (Value->World->Prop))(ch:List Nat)(J:Nat->Env->World->Prop){e:Env}{w:World}(hm:P.follows .mixedOrders=true)(hsz:arr.size=N)(hlast:∀i,n<=i->i<N->∀k,k<i->k∈anc i)(hd:∀i j,i<n->j<n->d i=d j->i=j)(hx:Px S gl)(hJ:∀k i v e w w',i<n->i∉ch->J k e w->Ext [] w w'->J k (put e (some (d i)) v) w')(hJ0:J 0 e w.drew)(hop:∀i o e' w',i<n->i∉ch->arr[i]?=some o->(∀s,(∀j,j<n->s≠d j)->e'.g s=e.g s)->(∀j∈anc i,atG gl j (e'.g (d j)) w')->Ext S w.drew w'->(∃k,J k e' w')->A7 P r arr.toList (Qk fun e2 w2=>∃v,Ext [] w' w2/\e2=put e' (some (d i)) v/\atG gl i v w2) [o] e' w')(hcall:∀k i o e' w',ch[k]?=some i->arr[i]?=some o->(∀s,(∀j,j<n->s≠d j)->e'.g s=e.g s)->(∀j∈anc i,atG gl j (e'.g (d j)) w')->Ext S w.drew w'->J k e' w'->A7 P r arr.toList (Qk fun e2 w2=>∃v,Ext S w' w2/\e2=put e' (some (d i)) v/\atG gl i v w2/\J (k+1) e2 w2) [o] e' w')(hfin:∀e' w',e'.ds=e.ds->(∀s,(∀j,j<n->s≠d j)->e'.g s=e.g s)->(∀j,j<n->atG gl j (e'.g (d j)) w')->Ext S w.drew w'->J ch.length e' w'->A7 P r arr.toList (Qk fun e2 w2=>Q .normal e2 w2) (arr.toList.drop n) e' w')(hn:n<=N:=by decide)(hanc:R5 arr anc N=true:=by kernel_rfl)(hch:chB anc ch=true:=by kernel_rfl)(hcn:ch.all (fun i=>Nat.blt i n)=true:=by kernel_rfl):W P r m (.region id arr true) Q e w:=by
 have hspec:=GR hanc;have hnil:∀{w w':World},Ext [] w w'->Ext S w w':=fun h=>h.mono (by simp)
 have hset:∀{l:Array Bool} {i:Nat},l.size=N->i<N->∀j,((l.setIfInBounds i true).getD j false=true)=(j=i\/l.getD j false=true):=fun{l i} hl hi j=>by
  apply propext
  by_cases e:j=i
  .subst e;rw[qax,qd8 (by omega)];simp
  .rw[qax,qd9 (Ne.symm e),<-qax];simp[e]
 have hall:∀{l:Array Bool},(∀i,i<N->l.getD i false=true->∀j∈anc i,l.getD j false=true)->∀i,i<N->i∈Region.ready .any arr l->∀k∈anc i,l.getD k false=true:=fun{l} hcl i hi hr k hk=>by
  rcases(hspec i hi).1 k hk with h|⟨j,h1,h2⟩
  .exact Dq hr k h
  .exact hcl j (by have:=(hspec i hi).2 j h1;omega) (Dq hr j h1) k h2
 have hdone:∀{l:Array Bool},l.size=N->Region.ready .any arr l=[]->∀i,i<N->l.getD i false=true:=fun{l} hls hr i=>by
  induction i using Nat.strongRecOn with
  |_ i ih =>
   intro hi
   cases hc:l.getD i false with
   |true=>rfl
   |false =>
    have hu:l.getD i true=false:=by
     rw[qax,qce (by omega)]at hc |-
     simpa using hc
    have:=KH (arr:=arr) (l:=l) (i:=i) hu fun j hj=>ih j ((hspec i hi).2 j hj) (by have:=(hspec i hi).2 j hj;omega);rw[hr]at this;cases this
 have hdrop:∀i o,arr[i]?=some o->arr.toList.drop i=o::arr.toList.drop (i+1):=fun i o ho=>by
  obtain⟨h1,h2⟩:=qcs.1 ho;rw[qdc (by simpa using h1)];simp[h2]
 have hchn:∀k i,ch[k]?=some i->i<n:=fun k i h=>by
  have:=qaw.1 hcn i (qac h)
  simpa[Nat.blt_eq]using this
 let C:Array Bool->Env->World->Prop:=fun l e' w'=>∃k,(∀a i,a<k->ch[a]?=some i->l.getD i false=true)/\(∀a i,k<=a->ch[a]?=some i->l.getD i false=false)/\k<=ch.length/\J k e' w'
 refine UU (I:=fun l e' w'=>l.size=N/\(((∀i,n<=i->i<N->l.getD i false=false)/\AS S n anc d gl e w.drew (fun i=>l.getD i false=true) e' w'/\C l e' w')\/∃t,n<=t/\t<=N/\(∀i,i<t->l.getD i false=true)/\(∀i,t<=i->i<N->l.getD i false=false)/\A7 P r arr.toList (Qk fun e2 w2=>Q .normal e2 w2) (arr.toList.drop t) e' w')) hm ?_ ?_ ?_
 .refine⟨by simp[hsz],.inl ⟨fun i _ _=>getD_replicate_false ..,⟨rfl,fun _ _=>rfl,.refl _ _,fun i _ h=>?_,fun i _ h=>?_⟩,0,fun a i h=>by omega,fun _ _ _ _=>getD_replicate_false ..,qaq _,hJ0⟩⟩ <;>
   (exfalso;rw[getD_replicate_false]at h;cases h)
 .rintro l e' w' i o ⟨hls,h⟩ hr ho;have hi:i<N:=by have:=(qcs.1 ho).1;omega
  have hun:¬l.getD i false=true:=fun h=>by
   have h1:=(mem_ready.1 hr).1;rw[qax,qce (by omega)]at h h1;simp at h h1;rw[h]at h1;cases h1
  have hfalse:∀{j},l.getD j false=false->j≠i->(l.setIfInBounds i true).getD j false=false:=fun{j} h1 h2=>by
   cases hc:(l.setIfInBounds i true).getD j false with
   |false=>rfl
   |true =>
    rw[hset hls hi]at hc
    rcases hc with h|h
    .exact absurd h h2
    .rw[h1]at h;cases h
  have last:∀t,n<=t->(∀i,i<t->l.getD i false=true)->(∀i,t<=i->i<N->l.getD i false=false)->i=t->A7 P r arr.toList (Qk fun e2 w2=>Q .normal e2 w2) (arr.toList.drop t) e' w' ->
    A7 P r arr.toList (Qk fun e2 w2=>(l.setIfInBounds i true).size=N/\(((∀j,n<=j->j<N->(l.setIfInBounds i true).getD j false=false)/\AS S n anc d gl e w.drew (fun j=>(l.setIfInBounds i true).getD j false=true) e2 w2/\C (l.setIfInBounds i true) e2 w2)\/∃t,n<=t/\t<=N/\(∀j,j<t->(l.setIfInBounds i true).getD j false=true)/\(∀j,t<=j->j<N->(l.setIfInBounds i true).getD j false=false)/\A7 P r arr.toList (Qk fun e2 w2=>Q .normal e2 w2) (arr.toList.drop t) e2 w2)) [o] e' w':=fun t hnt h1 h2 hit hW=>by
   subst hit;rw[hdrop i o ho]at hW;refine C0 ?_ _ _ _ (Mk hW);intro x e2 w2 hq
   cases x with
   |normal =>
    refine⟨by simp[hls],.inr ⟨i+1,by omega,by omega,fun j hj=>?_,fun j hj hjN=>hfalse (h2 j (by omega) hjN) (by omega),hq⟩⟩;rw[hset hls hi]
    by_cases hji:j=i
    .exact .inl hji
    .exact .inr (h1 j (by omega))
   |exit id=>exact hq.elim
   |goto l=>exact hq.elim
   |ret=>exact hq.elim
   |panic c=>exact hq.elim
   |outgrown=>exact hq.elim
  rcases h with⟨hn0,A,k,hk1,hk2,hk3,hk4⟩|⟨t,hnt,htN,h1,h2,hW⟩
  .have hcl:∀j,j<N->l.getD j false=true->∀k∈anc j,l.getD k false=true:=fun j hj hl k hk=>by
    rcases qap j n with hjn|hjn
    .exact A.cl j hjn hl k hk
    .rw[hn0 j hjn hj]at hl;cases hl
   have ha:=hall hcl i hi hr;have hgood:∀{i},i<n->(∀j∈anc i,l.getD j false=true)->∀j∈anc i,atG gl j (e'.g (d j)) w':=fun{i} hin ha j hj=>A.good j (qcj (EL hanc i (by omega) j hj) hin) (ha j hj)
   rcases qap i n with hin|hin
   .by_cases hic:i∈ch
    .obtain⟨b,hb1,hb2⟩:=List.getElem_of_mem hic;have hb:ch[b]?=some i:=by rw[qbl hb1,hb2]
     have hbk:b=k:=by
      rcases Nat.lt_trichotomy b k with h|h|h
      .exact absurd (hk1 b i h hb) hun
      .exact h
      .exfalso;have hkl:k<ch.length:=by omega
       have h5:=Qm hch k b ch[k] i h (qbl hkl) hb;have h6:=ha _ h5;rw[hk2 k _ (qam _) (qbl hkl)]at h6;cases h6
     subst hbk;refine C0 ?_ _ _ _ (hcall b i o e' w' hb ho A.old (hgood hin ha) A.ext hk4);intro x e2 w2 hq
     cases x with
     |normal =>
      obtain⟨v,q1,q2,q3,q4⟩:=hq;have A':=A.step hd hx hin hun ha q1 q2 q3;refine⟨by simp[hls],.inl ⟨fun j hj hjN=>hfalse (hn0 j hj hjN) (by omega),?_,b+1,fun a j hab haj=>?_,fun a j hab haj=>hfalse (hk2 a j (by omega) haj) fun hji=>?_,by omega,q4⟩⟩
      .have hf:(fun j=>(l.setIfInBounds i true).getD j false=true)=fun j=>j=i\/l.getD j false=true:=funext fun j=>hset hls hi j;rw[hf];exact A'
      .rw[hset hls hi]
       rcases qap a b with h|h
       .exact .inr (hk1 a j h haj)
       .obtain rfl:a=b:=by omega
        rw[hb]at haj;exact .inl (qag haj).symm
      .subst hji;have:=Qm hch b a j j (by omega) hb haj;have:=EL hanc j hi j this;omega
     |exit id=>exact hq.elim
     |goto l=>exact hq.elim
     |ret=>exact hq.elim
     |panic c=>exact hq.elim
     |outgrown=>exact hq.elim
    .refine C0 ?_ _ _ _ (hop i o e' w' hin hic ho A.old (hgood hin ha) A.ext ⟨k,hk4⟩);intro x e2 w2 hq
     cases x with
     |normal =>
      obtain⟨v,q1,q2,q3⟩:=hq;have A':=A.step hd hx hin hun ha (hnil q1) q2 q3;refine⟨by simp[hls],.inl ⟨fun j hj hjN=>hfalse (hn0 j hj hjN) (by omega),?_,k,fun a j hab haj=>?_,fun a j hab haj=>hfalse (hk2 a j hab haj) fun hji=>?_,hk3,by rw[q2];exact hJ _ _ _ _ _ _ hin hic hk4 q1⟩⟩
      .have hf:(fun j=>(l.setIfInBounds i true).getD j false=true)=fun j=>j=i\/l.getD j false=true:=funext fun j=>hset hls hi j;rw[hf];exact A'
      .rw[hset hls hi];exact .inr (hk1 a j hab haj)
      .subst hji;exact hic (qac haj)
     |exit id=>exact hq.elim
     |goto l=>exact hq.elim
     |ret=>exact hq.elim
     |panic c=>exact hq.elim
     |outgrown=>exact hq.elim
   .have hin':i=n:=by
     rcases qap n i with h|h
     .have:=ha n (hlast i hin hi n h);rw[hn0 n (qam _) (by omega)]at this;cases this
     .omega
    have hal:∀j,j<n->l.getD j false=true:=fun j hj=>ha j (hlast i hin hi j (by omega))
    have hkl:k=ch.length:=by
     rcases qap k ch.length with h|h
     .have h7:=hk2 k _ (qam _) (qbl h);rw[hal _ (hchn k _ (qbl h))]at h7;cases h7
     .omega
    exact last n (qam _) hal hn0 hin' (hfin e' w' A.ds A.old (fun j hj=>A.good j hj (hal j hj)) A.ext (hkl ▸ hk4))
  .have hge:t<=i:=by
    rcases qap i t with h|h
    .exact absurd (h1 i h) hun
    .exact h
   have hit:i=t:=by
    rcases qap t i with h|h
    .rcases(hspec i hi).1 t (hlast i (by omega) hi t h)with h3|⟨j,h3,h4⟩
     .have:=Dq hr t h3;rw[h2 t (qam _) (by omega)]at this;cases this
     .have h5:=Dq hr j h3;have h6:=(hspec i hi).2 j h3;have h7:=EL hanc j (by omega) t h4;rw[h2 j (by omega) (by omega)]at h5;cases h5
    .omega
   exact last t hnt h1 h2 hit hW
 .rintro l e' w' ⟨hls,h⟩ hr;have hal:=hdone hls hr
  rcases h with⟨hn0,A,k,hk1,hk2,hk3,hk4⟩|⟨t,hnt,htN,h1,h2,hW⟩
  .rcases qap n N with h|h
   .have:=hal n h;rw[hn0 n (qam _) h]at this;cases this
   .have hkl:k=ch.length:=by
     rcases qap k ch.length with h|h
     .have h7:=hk2 k _ (qam _) (qbl h);rw[hal _ (qa7 (hchn k _ (qbl h)) hn)]at h7;cases h7
     .omega
    have hnN:n=N:=by omega
    subst hnN;have:=hfin e' w' A.ds A.old (fun j hj=>A.good j hj (hal j hj)) A.ext (hkl ▸ hk4);rw[qdp (by simp[hsz])]at this;unfold A7 at this;exact this
  .have htN':t=N:=by
    rcases qap t N with h|h
    .have:=hal t h;rw[h2 t (qam _) h]at this;cases this
    .omega
   subst htN';rw[qdp (by simp[hsz])]at hW;unfold A7 at hW;exact hW
section
variable {P:Program}{r:Option Nat}{ops rest:List Oper}{Q:Exit->Env->World->Prop}{e:Env}{w w0:World}{S:List Nat}{L:List (Nat × Obj)}{C:World->Prop}{K:Env->Prop}{dst:Option Tmp}{ty:TypeId}{pos:String}{af:Array Edge}{g:Option (Nat × Bool)}{κ:Type}[DecidableEq κ]{k:TypeId}{ks:List Bool}{E:κ->List Value}
theorem ZY{t el:TypeId}{x y:Operand}{b:Nat}{o:Obj}{m:List (κ × Value)}(n:κ){z:Value}(hg:AV ⟨dst,.lookup t x y false,ty,pos,af,g⟩ ops e=true)(hK:KeyOk P k ks E)(ht:Ip P t=some (k,el))(hz:(P.info? el).bind (·.zero)=some z)(hx:ev e x=.map (some b))(hy:ev e y=.agg (E n).toArray)(hb:∀w,C w->w.heap[b]?=some o)(hM:NH E m o)(h:Wt P ops C K rest (put e dst ((GS m n).getD z))):Wt P ops C K (⟨dst,.lookup t x y false,ty,pos,af,g⟩::rest) e :=
 PX rfl hg (fun w hw=>by simp[execOp,hx,hy,OB (x:=n) false hK ht hz (hb w hw) hM]) h
theorem Vj{t el:TypeId}{x y:Operand}{b:Nat}{o:Obj}{m:List (κ × Value)}(n:κ){z:Value}(hg:AV ⟨dst,.lookup t x y true,ty,pos,af,g⟩ ops e=true)(hK:KeyOk P k ks E)(ht:Ip P t=some (k,el))(hz:(P.info? el).bind (·.zero)=some z)(hx:ev e x=.map (some b))(hy:ev e y=.agg (E n).toArray)(hb:∀w,C w->w.heap[b]?=some o)(hM:NH E m o)(h:Wt P ops C K rest (put e dst (.tuple #[(GS m n).getD z,.bool (GS m n).isSome]))):Wt P ops C K (⟨dst,.lookup t x y true,ty,pos,af,g⟩::rest) e :=
 PX rfl hg (fun w hw=>by simp[execOp,hx,hy,OB (x:=n) true hK ht hz (hb w hw) hM]) h
end
def Adc(P:Program)(t:TypeId)(i:Nat):Option Nat :=
 match P.underlying t with
 |some (.struct fs)=>match fs[i]? with
  |some f=>match Dt P f.type with
   |some false=>some f.offset
   |_=>none
  |none=>none
 |_=>none
section
variable {P:Program}{r:Option Nat}{ops rest:List Oper}{Q:Exit->Env->World->Prop}{e:Env}{w:World}{dst:Option Tmp}{ty:TypeId}{pos:String}{af:Array Edge}{g:Option (Nat × Bool)}
theorem ZZ{t:TypeId}{x:Operand}{i off:Nat}{cs:Array Value}{v:Value}(hg:AV ⟨dst,.field t x i,ty,pos,af,g⟩ ops e=true)(hx:ev e x=.agg cs)(hv:cs[off]?=some v)(h:A7 P r ops Q rest (put e dst v) w)(hf:Adc P t i=some off:=by kernel_rfl):A7 P r ops Q (⟨dst,.field t x i,ty,pos,af,g⟩::rest) e w:=by
 unfold Adc at hf
 split at hf
 .rename_i fs hu
  split at hf
  .rename_i f hf1
   split at hf
   .rename_i ha
    injection hf with hf
    subst hf;exact B7 hg U (by simp[execOp,hx,Instr.field,AO hu,hf1,asAgg,part,N5 ha,hv]) h
   .cases hf
  .cases hf
 .cases hf
end
open Go Go.ChangeShapes Go.WideShapes Go.RowKit
theorem Ext.below{w w':World}(h:Ext [] w w'):Below w.heap.size w w':=⟨h.os,h.tape,h.output,h.size,fun k hk=>h.block k hk (by simp)⟩
section
variable {H:Type}{enc:TypeId × Value->H}{P:Program}{w:World}{base:Nat}{spare:Nat->Bool}{held:Bool}
theorem KM:∀{ts:List TypeId} {vs:List Value} {ds:List (DataW H)} {ps:List MemPlace},DataW.TrodAll enc P w base spare held ts vs ds ps->ds.length=ts.length
 | [],vs,ds,ps,h=>by obtain⟨_,rfl,_⟩:=trodAll_nil h;rfl
 |t::ts,vs,ds,ps,h=>by
  obtain⟨v,vs',d,ds',p,q,rfl,rfl,rfl,_,hr⟩:=trodAll_cons h;simp[KM hr]
theorem LS{W W':World}{sp':Nat->Bool}(hl:laidOutB P=true)(hsp:∀b,b<W.heap.size->sp' b=true)(hb:Below W.heap.size W W') :
  ∀{ts:List TypeId} {vs:List Value} {ds:List (DataW H)} {ps:List MemPlace},(∀t∈ts,P.readableRec t=true/\t<P.types.size)->(∀x∈ps,x.block<W.heap.size) ->
   DataW.TrodAll enc P W 0 (fun _=>true) true ts vs ds ps->DataW.TrodAll enc P W' 0 sp' true ts vs ds ps
 | [],vs,ds,ps,_,_,h=>by obtain⟨rfl,rfl,rfl⟩:=trodAll_nil h;rfl
 |t::ts,vs,ds,ps,hr,hp,h=>by
  obtain⟨v,vs',d,ds',p,q,rfl,rfl,rfl,h0,h1⟩:=trodAll_cons h;refine⟨p,q,WideElems.Trod_stays hl (hr t (by simp)).1 (hr t (by simp)).2 h0 (fun x hx=>hb.same (hp x (by simp[hx]))) (fun x hx=>hsp _ (hp x (by simp[hx]))),?_,rfl⟩;exact LS hl hsp hb (fun t ht=>hr t (by simp[ht])) (fun x hx=>hp x (by simp[hx])) h1
theorem Add{f:Func}{s:ChangeSpec}{W W':World}{args:Array Value}{ds gs:List (DataW H)}{before:List MemPlace}{tb:TypeId}(hl:laidOutB P=true)(hv:s.vars=[])(hres:f.resultTypes=#[tb])(htb:P.underlying tb=some .bool)(hs:∀ds:List (DataW H),ds.length=f.params.size->s.fn H ds={ results:=[.lit (.bool true)],args:=ds })(hW:DataW.Whole enc P f.params.toList s.vars false W args.toList ds gs before)(hx:Ext [] W W')(hr:(f.params.toList.all fun t=>P.readableRec t && decide (t<P.types.size))=true:=by kernel_rfl):s.post enc P f false true false false W args (.bool true) W':=by
 have hW':=hW;obtain⟨p,q,hA,hV,rfl,_,_⟩:=hW;rw[hv]at hV;obtain⟨rfl,rfl⟩:=trodVars_none hV;have hlen:ds.length=f.params.size:=by rw[KM hA];simp
 refine⟨ds,[],p++[],[],p,[],hW',?_,?_,?_,hx.below.frame _,fun h=>by cases h⟩
 .rw[qa0,hs ds hlen,hres];exact trodAll_mk1 ⟨1,by simp[DataW.trod,Value.cells,htb]⟩
 .rw[qa0,hs ds hlen];refine LS hl (fun b hb=>by simpa using hb) hx.below (fun t ht=>?_) (fun x hxp=>?_) hA
  .have:=qaw.1 hr t ht
   simpa using this
  .exact hW'.lt x (by simp[hxp])
 .rw[hv,qa0,hs ds hlen];rfl
theorem Sp{k:IntKind}{n:Int}(h:(Lit.int k n).wf=true):k.min<=n/\n<=k.max:=by
 simpa[Lit.wf]using h
theorem Ade{fuel:Nat}{t:TypeId}{cs:List Value}{x:DataW H × List MemPlace}{fs:Array Field}(ht:P.underlying t=some (.struct fs))(h:DataW.trod enc P w base spare held fuel t cs=some x)(i:Nat)(f:Field)(hf:fs[i]?=some f) :
  ∃n y,DataW.trod enc P w base spare held n f.type ((cs.drop f.offset).take (P.cellsOf f.type))=some y:=by
 obtain⟨xs,n,_,_,_,hl,hx⟩:=DataW.trod_struct ht h;have h1:=hx i f hf;have hi:i<xs.length:=by rw[hl];exact(qcs.1 hf).1
 rw[qbl hi]at h1;exact⟨n,_,h1⟩
theorem Aaa{fuel:Nat}{t:TypeId}{cs:List Value}{x:DataW H × List MemPlace}{fs:Array Field}(ht:P.underlying t=some (.struct fs))(h:DataW.trod enc P w base spare held fuel t cs=some x):cs.length=P.cellsOf t:=by
 obtain⟨xs,n,_,_,hl,_,_⟩:=DataW.trod_struct ht h;exact hl
theorem Adf{l:List Value}{o m:Nat}{v:Value}(h:(l.drop o).take m=[v]):l[o]?=some v:=by
 have h1:((l.drop o).take m)[0]?=some v:=by rw[h];rfl
 rw[qb5]at h1
 split at h1
 .rw[qct]at h1;simpa using h1
 .cases h1
theorem JO{fuel:Nat}{t u:TypeId}{cs:List Value}{x:DataW H × List MemPlace}{fs:Array Field}{k:IntKind}(ht:P.underlying t=some (.struct fs))(h:DataW.trod enc P w base spare held fuel t cs=some x)(i o:Nat)(hf:(fs[i]?.map fun f=>(f.type,f.offset))=some (u,o))(hu:P.underlying u=some (.int k)):∃n,cs[o]?=some (.int k n)/\k.min<=n/\n<=k.max:=by
 cases he:fs[i]? with
 |none=>rw[he]at hf;cases hf
 |some f =>
  rw[he]at hf;simp only[qcz,qb3,qc3]at hf;obtain⟨rfl,rfl⟩:=hf;obtain⟨n,y,hy⟩:=Ade ht h i f he;obtain⟨m,h1,_,h2⟩:=DataW.trod_int hu hy;exact⟨m,Adf h1,Sp h2⟩
theorem Vk{a:Addr}{n:Nat}{cs:List Value}(h:w.cells? base a n=some cs):cs.length=n/\∀j v,cs[j]?=some v->w.cell? (a.add j)=some v:=by
 unfold World.cells? at h
 split at h
 .have h1:∀(l:List Nat) (cs:List Value),l.mapM (fun i=>w.cell? (a.add i))=some cs->cs.length=l.length/\∀(j i:Nat) (v:Value),l[j]?=some i->cs[j]?=some v->w.cell? (a.add i)=some v:=by
   intro l
   induction l with
   |nil=>intro cs h;simp at h;subst h;exact⟨rfl,fun j i v h=>by simp at h⟩
   |cons k l ih =>
    intro cs h;rw[List.mapM_cons]at h;obtain⟨v,hv,h⟩:=Option.bind_eq_some_iff.1 h;obtain⟨cs',hcs,h⟩:=Option.bind_eq_some_iff.1 h;simp only[Option.pure_def,qb3]at h;subst h;obtain⟨h1,h2⟩:=ih cs' hcs;refine⟨by simp[h1],fun j i u hi hu=>?_⟩
    cases j with
    |zero=>simp at hi hu;subst hi hu;exact hv
    |succ j=>exact h2 j i u (by simpa using hi) (by simpa using hu)
  obtain⟨h2,h3⟩:=h1 _ _ h;refine⟨by simpa using h2,fun j v hv=>h3 j j v ?_ hv⟩;have:j<cs.length:=(qa8.1 hv).1;rw[List.getElem?_range (by rw[h2]at this;simpa using this)]
 .cases h
theorem Sq{a:Addr}{v:Value}(h:w.cell? a=some v):a=⟨a.block,a.off,none⟩:=by
 unfold World.cell? at h
 split at h
 .split at h
  .cases h
  .rename_i hs
   obtain⟨b,o,s⟩:=a
   cases s with
   |none=>rfl
   |some x=>simp at hs
 .cases h
theorem Alw{α:Type}{t e:TypeId}{s fuel:Nat}{v:Value}{x:DataW H × List MemPlace}{encd:α->List Value}{Good:α->Prop}(ht:P.underlying t=some (.slice e))(hs:P.cellsOf e=s)(h0:0<s)(dec:∀n cs y,DataW.trod enc P w base spare held n e cs=some y->∃d,cs=encd d/\Good d)(h:DataW.trod enc P w base spare held fuel t [v]=some x) :
  ∃(a:Option Addr) (c:Nat) (l:List α),v=.slice a l.length c/\Rd w a s encd l/\l.length<=c/\c<=maxLen/\(∀d∈l,Good d):=by
 rcases Go.Deep.open_slice ht h with⟨hc,_⟩|⟨a,len,cap,m,n,D,Pl,hc,_,hl,hm,hmm,_,hx⟩
 .simp only[qdb,and_true]at hc;exact⟨none,0,[],hc,Rd.nil,qam _,qaq _,by simp⟩
 .simp only[qdb,and_true]at hc;have hle:len<=m:=by rw[hmm];split <;> omega
  have hd:∀i,i<len->∃d:α,(w.cells? base (a.add (i*s)) s=some (encd d))/\Good d:=fun i hi=>by
   obtain⟨cs',h1,h2⟩:=hx i (by omega);obtain⟨d,rfl,hg⟩:=dec _ _ _ h2;exact⟨d,by rw[<-hs];exact h1,hg⟩
  have hlist:∀k,k<=len->∃l:List α,l.length=k/\∀i d,l[i]?=some d->w.cells? base (a.add (i*s)) s=some (encd d)/\Good d:=by
   intro k
   induction k with
   |zero=>intro _;exact⟨[],rfl,fun i d h=>by simp at h⟩
   |succ k ih =>
    intro hk;obtain⟨l,h1,h2⟩:=ih (by omega);obtain⟨d,hd1,hd2⟩:=hd k (by omega);refine⟨l++[d],by simp[h1],fun i d' hi=>?_⟩;rw[List.getElem?_append]at hi
    split at hi
    .exact h2 i d' hi
    .rename_i hlt
     have:i=k:=by
      have:=(qa8.1 hi).1;simp at this;omega
     subst this;rw[h1,qeb]at hi;simp at hi;subst hi;exact⟨hd1,hd2⟩
  obtain⟨l,h1,h2⟩:=hlist len (qam _);subst h1;refine⟨some a,cap,l,hc,⟨fun hne=>?_,fun i d hi j u hu hj=>?_⟩,hl,hm,fun d hd=>?_⟩
  .cases l with
   |nil=>exact absurd rfl hne
   |cons d l =>
    obtain⟨h3,_⟩:=h2 0 d rfl;obtain⟨h4,h5⟩:=Vk h3;obtain⟨u,hu⟩:=AE (l:=encd d) (i:=0);have h6:=h5 0 u hu;rw[qc0]at h6;have h7:(a.add 0).add 0=a:=by simp[Addr.add]
    rw[h7]at h6;exact⟨a.block,a.off,by rw[<-Sq h6]⟩
  .obtain⟨h3,_⟩:=h2 i d hi;have h5:=(Vk h3).2 j u hu;rw[Go.Deep.add_add]at h5;have h6:=Sq h5;rw[h6]at h5
   have hblk:∀q,(a.add q).block=a.block/\(a.add q).off=a.off+q:=by
    intro q;unfold Addr.add
    by_cases hq:q=0 <;> simp[hq]
   rw[(hblk _).1,(hblk _).2,<-qcm]at h5;obtain⟨b,o,sp⟩:=a;exact h5
  .obtain⟨i,hi⟩:=qdd hd;exact(h2 i d hi).2
theorem Yx{α:Type}{t e:TypeId}{s:Nat}{v:Value}{d:DataW H}{ps:List MemPlace}{encd:α->List Value}{Good:α->Prop}(ht:P.underlying t=some (.slice e))(hs:P.cellsOf e=s)(dec:∀n cs y,DataW.trod enc P w base spare held n e cs=some y->∃d,cs=encd d/\Good d)(hv:∃a n c,v=.slice a n c)(h:DataW.Trod enc P w base spare held t v d ps)(h0:0<s:=by decide):
  ∃(a:Option Addr) (c:Nat) (l:List α),v=.slice a l.length c/\Rd w a s encd l/\l.length<=c/\c<=maxLen/\(∀d∈l,Good d):=by
 obtain⟨fuel,hf⟩:=h;obtain⟨a,n,c,rfl⟩:=hv;exact Alw ht hs h0 dec (by simpa[Value.cells]using hf)
theorem Ai8{e:TypeId}{k:IntKind}(he:P.underlying e=some (.int k)):∀n cs y,DataW.trod enc P w base spare held n e cs=some y->∃d:Int,cs=[Value.int k d]/\(k.min<=d/\d<=k.max):=by
 intro n cs y h;obtain⟨m,h1,_,h2⟩:=DataW.trod_int he h;exact⟨m,h1,Sp h2⟩
end
abbrev jn1(P:Program)(_:FuncId)(fn:Func)(s:ChangeSpec)(c:OpenClaim):Bool:=c.wf (OpenSpec.ofChange s) && laidOutB P && mapsRowed P && fn.params.all (P.readableRec ·) && namedTie P c.named s.vars && (c.stops == []) && (P.stops == []) && (c.knobs == []) && (P.stopKnobs == [])
abbrev jn2(P:Program)(f:FuncId)(_:Func)(_:ChangeSpec)(c:OpenClaim):Bool:=(c.inPlace == P.inPlace f) && (c.unfollowed == P.unfollowed f) && (c.recurses == P.recurses f) && (c.named == P.varsNamed f)
abbrev jn3(P:Program)(_:FuncId)(fn:Func)(s:ChangeSpec)(c:OpenClaim):Bool:=(c.maps == (fn.params.toList++s.plain.varTypes P).any (P.mapsRec ·)) && (c.ifaces == (fn.params.toList++s.plain.varTypes P).any (P.ifacesRec ·)) && (c.mapsOut == P.mapsAmong fn.resultTypes.toList) && (c.loops == (fn.params.toList++s.plain.varTypes P).any (P.loopsFrom ·)) && (c.wideKeys == (fn.params.toList++s.plain.varTypes P++fn.resultTypes.toList).any (P.wideKeysFrom ·)) && s.vars.all (P.varReadable ·) && fn.resultTypes.all (fun t=>P.readableRec t && decide (t<P.types.size)) && (c.ifacesOut == fn.resultTypes.toList.any (P.ifacesRec ·)) && (c.loopsOut == fn.resultTypes.toList.any (P.loopsFrom ·))
abbrev jn4(P:Program)(_:FuncId)(_:Func)(_:ChangeSpec)(c:OpenClaim):Bool:=(c.plainKeys == P.plainKeys) && c.shortTexts.isNone && P.stopsHeard && P.mayEnter && (c.lifted == P.liftsFinal)
abbrev jn5(P:Program)(_:FuncId)(fn:Func)(s:ChangeSpec)(c:OpenClaim):Bool:=(P.make == some c.make) && (c.kinds == (if c.domain.isEmpty then[]else fn.params.toList.map fun t=>match P.underlying t with|some (.int k)=>some k|_=>none)) && (c.pinned == c.pinnedBy) && (c.veiled == (fn.params.toList++s.plain.varTypes P++fn.resultTypes.toList).any (P.veiledRec ·)) && c.veiledFits P fn.params.toList (fn.params.toList++s.plain.varTypes P++fn.resultTypes.toList)
theorem Aab{P:Program}{f:FuncId}{fn:Func}{s:ChangeSpec}{c:OpenClaim}(h1:jn1 P f fn s c=true)(h2:jn2 P f fn s c=true)(h3:jn3 P f fn s c=true)(h4:jn4 P f fn s c=true)(h5:jn5 P f fn s c=true):joinedFacts P f fn s c=true:=by
 simp only[jn1,qae]at h1;obtain⟨⟨⟨⟨⟨⟨⟨⟨k0,k1⟩,k2⟩,k3⟩,k4⟩,k5⟩,k6⟩,k7⟩,k8⟩:=h1;simp only[jn2,qae]at h2;obtain⟨⟨⟨k9,k10⟩,k11⟩,k12⟩:=h2;simp only[jn3,qae]at h3;obtain⟨⟨⟨⟨⟨⟨⟨⟨k13,k14⟩,k15⟩,k16⟩,k17⟩,k18⟩,k19⟩,k20⟩,k21⟩:=h3;simp only[jn4,qae]at h4;obtain⟨⟨⟨⟨k22,k23⟩,k24⟩,k25⟩,k26⟩:=h4;simp only[jn5,qae]at h5;obtain⟨⟨⟨⟨k27,k28⟩,k29⟩,k30⟩,k31⟩:=h5;unfold joinedFacts;simp only[qae];exact⟨⟨⟨⟨⟨⟨⟨⟨⟨⟨⟨⟨⟨⟨⟨⟨⟨⟨⟨⟨⟨⟨⟨⟨⟨⟨⟨⟨⟨⟨⟨k0,k1⟩,k2⟩,k3⟩,k4⟩,k5⟩,k6⟩,k7⟩,k8⟩,k9⟩,k10⟩,k11⟩,k12⟩,k13⟩,k14⟩,k15⟩,k16⟩,k17⟩,k18⟩,k19⟩,k20⟩,k21⟩,k22⟩,k23⟩,k24⟩,k25⟩,k26⟩,k27⟩,k28⟩,k29⟩,k30⟩,k31⟩
end Go.GV
namespace Go.Proofs.YtffclglpjlcojaaGreat
open Go.GV Go.Proofs.Tryz
theorem Ml:Dt prog 108=some true:=by kernel_rfl
theorem E4:Dt prog 118=some true:=by kernel_rfl
theorem FS:Dt prog 120=some false:=by kernel_rfl
theorem DM:Dt prog 121=some false:=by kernel_rfl
theorem CE:Dt prog 123=some true:=by kernel_rfl
theorem Qn:Dt prog 125=some true:=by kernel_rfl
theorem F1:Dt prog 127=some true:=by kernel_rfl
theorem F3:Dt prog 130=some false:=by kernel_rfl
theorem GU:Dt prog 158=some true:=by kernel_rfl
theorem Am6:Dt prog 182=some true:=by kernel_rfl
theorem B4:Dt prog 2=some false:=by kernel_rfl
theorem EZ:Dt prog 215=some false:=by kernel_rfl
theorem B6:Dt prog 23=some false:=by kernel_rfl
theorem GA:Dt prog 235=some false:=by kernel_rfl
theorem Kn:Dt prog 25=some true:=by kernel_rfl
theorem Ji:Dt prog 262=some false:=by kernel_rfl
theorem TI:Dt prog 263=some false:=by kernel_rfl
theorem Alx:Dt prog 27=some false:=by kernel_rfl
theorem Xf:Dt prog 270=some true:=by kernel_rfl
theorem Xg:Dt prog 271=some false:=by kernel_rfl
theorem Aly:Dt prog 28=some false:=by kernel_rfl
theorem Mm:Dt prog 283=some false:=by kernel_rfl
theorem DW:Dt prog 289=some false:=by kernel_rfl
theorem Ir:Dt prog 294=some true:=by kernel_rfl
theorem Cc:Dt prog 3=some false:=by kernel_rfl
theorem Sr:Dt prog 30=some false:=by kernel_rfl
theorem BU:Dt prog 31=some false:=by kernel_rfl
theorem Ss:Dt prog 33=some true:=by kernel_rfl
theorem IU:Dt prog 37=some false:=by kernel_rfl
theorem Adg:Dt prog 38=some false:=by kernel_rfl
theorem Alz:Dt prog 39=some false:=by kernel_rfl
theorem LI:Dt prog 4=some false:=by kernel_rfl
theorem Adh:Dt prog 40=some false:=by kernel_rfl
theorem Vl:Dt prog 42=some true:=by kernel_rfl
theorem Js:Dt prog 48=some false:=by kernel_rfl
theorem Kv:Dt prog 5=some false:=by kernel_rfl
theorem Yy:Dt prog 51=some false:=by kernel_rfl
theorem IV:Dt prog 66=some false:=by kernel_rfl
theorem HO:Dt prog 68=some false:=by kernel_rfl
theorem Su:Dt prog 70=some false:=by kernel_rfl
theorem ag_74:Dt prog 74=some false:=by kernel_rfl
theorem Yz:Dt prog 88=some false:=by kernel_rfl
theorem Vm:Dt prog 89=some false:=by kernel_rfl
theorem OC:Dt prog 97=some true:=by kernel_rfl
theorem Adi:Dt prog 99=some true:=by kernel_rfl
theorem Xh:UH prog 133=some (4,127):=by kernel_rfl
theorem Al0:UH prog 76=some (16,74):=by kernel_rfl
theorem Adj:DC prog 108=some 16:=by kernel_rfl
theorem Xi:DC prog 118=some 56:=by kernel_rfl
theorem Am7:DC prog 127=some 128:=by kernel_rfl
theorem Xj:DC prog 158=some 32:=by kernel_rfl
theorem Mn:DC prog 2=some 8:=by kernel_rfl
theorem Y0:DC prog 23=some 8:=by kernel_rfl
theorem Am8:DC prog 270=some 32:=by kernel_rfl
theorem Am9:DC prog 271=some 24:=by kernel_rfl
theorem Ana:DC prog 294=some 16:=by kernel_rfl
theorem by_3:DC prog 3=some 8:=by kernel_rfl
theorem Al1:DC prog 48=some 24:=by kernel_rfl
theorem by_5:DC prog 5=some 1:=by kernel_rfl
theorem by_97:DC prog 97=some 16:=by kernel_rfl
theorem by_99:DC prog 99=some 64:=by kernel_rfl
abbrev qC:List Nat:=[8,9,11,12,13,14,15,16,17,18,19,26,27,28,29,30,31,32,33,34,35,36,37,38,39,40,41,42,43,44,45,46,47,48,49,50,51,52,53,54,55,56,57,58,59,60,61,67,69,70,71,72,73,74,75,76,77,78,79,80,81,82,83,84,85,86,87,88,89,90,91,92,93,94,95,96,97,98,99,100,101,102,103,104,105,106,107,108,109,110,111,112,113,114,115,116,117,118,119,120,121,122,123,124,125,126,127,128,129,130,131,132,133,134,135,136,137,138,139,140,141,142,143,144,145,146,147,148,149,150,151,152,153,154,155,156,157,158,159,160,161,162,163,164,165,166,167,168,169,170,171,172,173,174,175,176,177,178,179,180,181,182,183,184,185,186,187,188,189,191,192,193,194,195,196,197,198,199,200,201,202,203,204,205,206,207,208,209,210,211,212,213,214,215,216,217,218,219,220,221]
theorem qB{f:Nat}(h:qC.any (Nat.beq f)=true:=by exact U):Aq prog f=true:=by obtain⟨g,h,e⟩:=List.any_eq_true.1 h;rw[Nat.eq_of_beq_eq_true e];exact List.all_eq_true.1 (show qC.all (Aq prog)=true by kernel_rfl) g h
theorem Bh:C1 prog 120=some 23:=by kernel_rfl
theorem CF:C1 prog 121=some 158:=by kernel_rfl
theorem Qs:C1 prog 209=some 182:=by kernel_rfl
theorem Aed:C1 prog 22=some 25:=by kernel_rfl
theorem Xt:C1 prog 221=some 27:=by kernel_rfl
theorem E5:C1 prog 235=some 3:=by kernel_rfl
theorem NL:C1 prog 263=some 271:=by kernel_rfl
theorem Mo:C1 prog 271=some 270:=by kernel_rfl
theorem DG:C1 prog 289=some 294:=by kernel_rfl
theorem Bf:C1 prog 31=some 2:=by kernel_rfl
theorem EQ:C1 prog 37=some 108:=by kernel_rfl
theorem D9:C1 prog 38=some 118:=by kernel_rfl
theorem OD:C1 prog 39=some 127:=by kernel_rfl
theorem IW:C1 prog 40=some 99:=by kernel_rfl
theorem IX:C1 prog 45=some 48:=by kernel_rfl
theorem De:C1 prog 48=some 5:=by kernel_rfl
theorem OE:C1 prog 89=some 97:=by kernel_rfl
theorem F4:B5 prog 108 0=some 0:=by kernel_rfl
theorem MP:B5 prog 108 1=some 1:=by kernel_rfl
theorem FX:B5 prog 118 0=some 0:=by kernel_rfl
theorem It:B5 prog 118 1=some 1:=by kernel_rfl
theorem Iu:B5 prog 118 2=some 2:=by kernel_rfl
theorem ER:B5 prog 118 3=some 3:=by kernel_rfl
theorem KN:B5 prog 118 4=some 4:=by kernel_rfl
theorem Qt:B5 prog 118 5=some 5:=by kernel_rfl
theorem KO:B5 prog 118 6=some 6:=by kernel_rfl
theorem Ev:B5 prog 123 0=some 0:=by kernel_rfl
theorem CL:B5 prog 123 1=some 1:=by kernel_rfl
theorem Fe:B5 prog 125 0=some 0:=by kernel_rfl
theorem FY:B5 prog 125 1=some 1:=by kernel_rfl
theorem Jt:B5 prog 127 0=some 0:=by kernel_rfl
theorem KP:B5 prog 127 1=some 1:=by kernel_rfl
theorem MQ:B5 prog 127 2=some 2:=by kernel_rfl
theorem Ew:B5 prog 127 3=some 3:=by kernel_rfl
theorem ED:B5 prog 127 4=some 4:=by kernel_rfl
theorem D6:B5 prog 127 5=some 6:=by kernel_rfl
theorem ES:B5 prog 129 0=some 0:=by kernel_rfl
theorem El:B5 prog 132 0=some 0:=by kernel_rfl
theorem KQ:B5 prog 132 1=some 1:=by kernel_rfl
theorem Qu:B5 prog 135 0=some 0:=by kernel_rfl
theorem Ju:B5 prog 135 1=some 32:=by kernel_rfl
theorem FZ:B5 prog 135 2=some 33:=by kernel_rfl
theorem F5:B5 prog 158 0=some 0:=by kernel_rfl
theorem F6:B5 prog 158 1=some 1:=by kernel_rfl
theorem EE:B5 prog 158 2=some 2:=by kernel_rfl
theorem GD:B5 prog 158 3=some 3:=by kernel_rfl
theorem Aee:B5 prog 169 0=some 0:=by kernel_rfl
theorem Vo:B5 prog 169 1=some 1:=by kernel_rfl
theorem Aef:B5 prog 182 0=some 0:=by kernel_rfl
theorem Aeg:B5 prog 182 1=some 1:=by kernel_rfl
theorem Hm:B5 prog 217 0=some 0:=by kernel_rfl
theorem Ff:B5 prog 217 1=some 2:=by kernel_rfl
theorem Fg:B5 prog 217 2=some 3:=by kernel_rfl
theorem Hn:B5 prog 217 3=some 4:=by kernel_rfl
theorem Qv:B5 prog 217 4=some 5:=by kernel_rfl
theorem JP:B5 prog 25 0=some 0:=by kernel_rfl
theorem EF:B5 prog 25 1=some 1:=by kernel_rfl
theorem HZ:B5 prog 25 2=some 2:=by kernel_rfl
theorem L6:B5 prog 25 3=some 3:=by kernel_rfl
theorem JQ:B5 prog 25 4=some 4:=by kernel_rfl
theorem JR:B5 prog 25 5=some 5:=by kernel_rfl
theorem IY:B5 prog 25 6=some 6:=by kernel_rfl
theorem MR:B5 prog 265 0=some 0:=by kernel_rfl
theorem EG:B5 prog 265 1=some 1:=by kernel_rfl
theorem Iv:B5 prog 265 2=some 2:=by kernel_rfl
theorem KS:B5 prog 265 3=some 3:=by kernel_rfl
theorem Qw:B5 prog 270 0=some 0:=by kernel_rfl
theorem Vp:B5 prog 270 1=some 1:=by kernel_rfl
theorem Ga:B5 prog 270 2=some 2:=by kernel_rfl
theorem Qx:B5 prog 270 3=some 3:=by kernel_rfl
theorem CH:B5 prog 291 0=some 0:=by kernel_rfl
theorem KT:B5 prog 294 0=some 0:=by kernel_rfl
theorem Qy:B5 prog 294 1=some 1:=by kernel_rfl
theorem MS:B5 prog 33 0=some 0:=by kernel_rfl
theorem TN:B5 prog 33 1=some 1:=by kernel_rfl
theorem Y5:B5 prog 42 0=some 0:=by kernel_rfl
theorem Y6:B5 prog 42 1=some 1:=by kernel_rfl
theorem Y7:B5 prog 42 2=some 2:=by kernel_rfl
theorem Y8:B5 prog 42 3=some 3:=by kernel_rfl
theorem Y9:B5 prog 42 4=some 4:=by kernel_rfl
theorem YA:B5 prog 42 5=some 5:=by kernel_rfl
theorem Py:B5 prog 42 6=some 6:=by kernel_rfl
theorem He:B5 prog 73 0=some 0:=by kernel_rfl
theorem Gk:B5 prog 73 1=some 1:=by kernel_rfl
theorem L7:B5 prog 73 2=some 2:=by kernel_rfl
theorem MT:B5 prog 73 3=some 3:=by kernel_rfl
theorem YB:B5 prog 91 0=some 0:=by kernel_rfl
theorem TO:B5 prog 91 1=some 1:=by kernel_rfl
theorem MU:B5 prog 91 2=some 2:=by kernel_rfl
theorem Ai9:B5 prog 97 0=some 0:=by kernel_rfl
theorem Aja:B5 prog 97 1=some 1:=by kernel_rfl
theorem TQ:B5 prog 99 0=some 0:=by kernel_rfl
theorem TR:B5 prog 99 1=some 1:=by kernel_rfl
theorem MV:B5 prog 99 2=some 2:=by kernel_rfl
theorem MW:B5 prog 99 3=some 3:=by kernel_rfl
theorem Br:Tryz.prog.follows .mixedOrders=true:=by kernel_rfl
theorem FT:Ip prog 130=some (23,118):=by kernel_rfl
theorem Qz:Ip prog 259=some (3,3):=by kernel_rfl
theorem YC:Ip prog 88=some (97,99):=by kernel_rfl
theorem Aeh:Dh prog 108=some [(0,1),(1,1)]:=by kernel_rfl
theorem Apo:Dh prog 118=some [(0,1),(1,1),(2,1),(3,1),(4,1),(5,1),(6,1)]:=by kernel_rfl
theorem App:Dh prog 123=some [(0,1),(1,1)]:=by kernel_rfl
theorem Aei:Dh prog 125=some [(0,1),(1,1)]:=by kernel_rfl
theorem TS:Dh prog 127=some [(0,1),(1,1),(2,1),(3,1),(4,2),(6,2)]:=by kernel_rfl
theorem Apq:Dh prog 129=some [(0,1)]:=by kernel_rfl
theorem Aej:Dh prog 132=some [(0,1),(1,1)]:=by kernel_rfl
theorem Apr:Dh prog 135=some [(0,32),(32,1),(33,1)]:=by kernel_rfl
theorem Xu:Dh prog 158=some [(0,1),(1,1),(2,1),(3,1)]:=by kernel_rfl
theorem Aps:Dh prog 169=some [(0,1),(1,1)]:=by kernel_rfl
theorem Q0:Dh prog 182=some [(0,1),(1,1)]:=by kernel_rfl
theorem Apt:Dh prog 217=some [(0,2),(2,1),(3,1),(4,1),(5,1)]:=by kernel_rfl
theorem OG:Dh prog 25=some [(0,1),(1,1),(2,1),(3,1),(4,1),(5,1),(6,1)]:=by kernel_rfl
theorem Apu:Dh prog 265=some [(0,1),(1,1),(2,1),(3,1)]:=by kernel_rfl
theorem Aek:Dh prog 270=some [(0,1),(1,1),(2,1),(3,1)]:=by kernel_rfl
theorem Apv:Dh prog 291=some [(0,1)]:=by kernel_rfl
theorem Apw:Dh prog 294=some [(0,1),(1,1)]:=by kernel_rfl
theorem Sv:Dh prog 33=some [(0,1),(1,1)]:=by kernel_rfl
theorem pl_42:Dh prog 42=some [(0,1),(1,1),(2,1),(3,1),(4,1),(5,1),(6,1)]:=by kernel_rfl
theorem pl_73:Dh prog 73=some [(0,1),(1,1),(2,1),(3,1)]:=by kernel_rfl
theorem pl_91:Dh prog 91=some [(0,1),(1,1),(2,1)]:=by kernel_rfl
theorem Ael:Dh prog 97=some [(0,1),(1,1)]:=by kernel_rfl
theorem pl_99:Dh prog 99=some [(0,1),(1,1),(2,1),(3,1)]:=by kernel_rfl
theorem DO:Ce prog 108=some 2:=by kernel_rfl
theorem BV:Ce prog 118=some 7:=by kernel_rfl
theorem Aem:Ce prog 120=some 1:=by kernel_rfl
theorem Aen:Ce prog 121=some 1:=by kernel_rfl
theorem Ct:Ce prog 123=some 2:=by kernel_rfl
theorem KU:Ce prog 125=some 2:=by kernel_rfl
theorem Da:Ce prog 127=some 8:=by kernel_rfl
theorem CG:Ce prog 158=some 4:=by kernel_rfl
theorem NM:Ce prog 182=some 2:=by kernel_rfl
theorem BD:Ce prog 2=some 1:=by kernel_rfl
theorem Bq:Ce prog 23=some 1:=by kernel_rfl
theorem FP:Ce prog 25=some 7:=by kernel_rfl
theorem Apx:Ce prog 262=some 1:=by kernel_rfl
theorem Amd:Ce prog 27=some 1:=by kernel_rfl
theorem Iw:Ce prog 270=some 4:=by kernel_rfl
theorem NN:Ce prog 271=some 1:=by kernel_rfl
theorem TT:Ce prog 283=some 1:=by kernel_rfl
theorem Aeo:Ce prog 289=some 1:=by kernel_rfl
theorem Db:Ce prog 294=some 2:=by kernel_rfl
theorem Gb:Ce prog 3=some 1:=by kernel_rfl
theorem Ame:Ce prog 31=some 1:=by kernel_rfl
theorem Jv:Ce prog 33=some 2:=by kernel_rfl
theorem sz_37:Ce prog 37=some 1:=by kernel_rfl
theorem Aac:Ce prog 4=some 1:=by kernel_rfl
theorem sz_40:Ce prog 40=some 1:=by kernel_rfl
theorem OH:Ce prog 42=some 7:=by kernel_rfl
theorem LU:Ce prog 48=some 1:=by kernel_rfl
theorem IK:Ce prog 5=some 1:=by kernel_rfl
theorem Amf:Ce prog 74=some 1:=by kernel_rfl
theorem sz_76:Ce prog 76=some 16:=by kernel_rfl
theorem Amg:Ce prog 89=some 1:=by kernel_rfl
theorem HQ:Ce prog 97=some 2:=by kernel_rfl
theorem Ix:Ce prog 99=some 4:=by kernel_rfl
theorem Q1:Tryz.prog.underlying 166=some (.int .u64):=by kernel_rfl
theorem LJ:Tryz.prog.underlying 2=some (.int .i64):=by kernel_rfl
theorem Dc:Tryz.prog.underlying 23=some (.int .u64):=by kernel_rfl
theorem Xv:Tryz.prog.underlying 272=some (.pointer 291):=by kernel_rfl
theorem Amh:Tryz.prog.underlying 28=some (.pointer 73):=by kernel_rfl
theorem Apy:Tryz.prog.underlying 283=some (.int .u64):=by kernel_rfl
theorem Ho:Tryz.prog.underlying 3=some (.int .i64):=by kernel_rfl
theorem Ami:Tryz.prog.underlying 30=some (.int .i64):=by kernel_rfl
theorem un_4:Tryz.prog.underlying 4=some (.bool):=by kernel_rfl
theorem Amj:Tryz.prog.underlying 46=some (.pointer 91):=by kernel_rfl
theorem Hr:Tryz.prog.underlying 5=some (.int .u8):=by kernel_rfl
theorem Vq:Tryz.prog.underlying 51=some (.int .u32):=by kernel_rfl
theorem OI:Tryz.prog.underlying 66=some (.pointer 129):=by kernel_rfl
theorem LV:Tryz.prog.underlying 68=some (.pointer 132):=by kernel_rfl
theorem Sx:Tryz.prog.underlying 70=some (.pointer 135):=by kernel_rfl
theorem NO:Tryz.prog.underlying 9=some (.string):=by kernel_rfl
theorem YD:Tryz.prog.underlying 93=some (.int .i16):=by kernel_rfl
theorem HA:Cd prog 108=some ([.int .i64 0,.int .i64 0]):=by kernel_rfl
theorem DX:Cd prog 118=some ([.int .u64 0,.int .i64 0,.int .i64 0,.int .i64 0,.int .i64 0,.int .i64 0,.bool false]):=by kernel_rfl
theorem KV:Cd prog 123=some ([.int .i64 0,.slice none 0 0]):=by kernel_rfl
theorem TU:Cd prog 125=some ([.slice none 0 0,.slice none 0 0]):=by kernel_rfl
theorem FU:Cd prog 127=some ([.int .u64 0,.int .i64 0,.bool false,.slice none 0 0,.int .i64 0,.slice none 0 0,.slice none 0 0,.slice none 0 0]):=by kernel_rfl
theorem Apz:Cd prog 129=some ([.slice none 0 0]):=by kernel_rfl
theorem Aep:Cd prog 132=some ([.map none,.int .u64 0]):=by kernel_rfl
theorem Ap0:Cd prog 135=some ([.int .u64 0,.int .i64 0,.bool false,.slice none 0 0,.int .i64 0,.slice none 0 0,.slice none 0 0,.slice none 0 0,.int .u64 0,.int .i64 0,.bool false,.slice none 0 0,.int .i64 0,.slice none 0 0,.slice none 0 0,.slice none 0 0,.int .u64 0,.int .i64 0,.bool false,.slice none 0 0,.int .i64 0,.slice none 0 0,.slice none 0 0,.slice none 0 0,.int .u64 0,.int .i64 0,.bool false,.slice none 0 0,.int .i64 0,.slice none 0 0,.slice none 0 0,.slice none 0 0,.int .u64 0,.int .u64 0]):=by kernel_rfl
theorem Gp:Cd prog 158=some ([.int .i64 0,.int .i64 0,.int .i64 0,.int .i64 0]):=by kernel_rfl
theorem Ap1:Cd prog 169=some ([.slice none 0 0,.int .i64 0]):=by kernel_rfl
theorem JS:Cd prog 182=some ([.int .i64 0,.nilFunc]):=by kernel_rfl
theorem Fh:Cd prog 2=some ([.int .i64 0]):=by kernel_rfl
theorem Ap2:Cd prog 217=some ([.int .i64 0,.slice none 0 0,.slice none 0 0,.slice none 0 0,.slice none 0 0,.int .i64 0]):=by kernel_rfl
theorem Q2:Cd prog 23=some ([.int .u64 0]):=by kernel_rfl
theorem IZ:Cd prog 25=some ([.int .u8 0,.int .i64 0,.int .i64 0,.int .i64 0,.int .i64 0,.int .i64 0,.int .u64 0]):=by kernel_rfl
theorem Ap3:Cd prog 262=some ([.pointer none]):=by kernel_rfl
theorem Ap4:Cd prog 265=some ([.slice none 0 0,.slice none 0 0,.slice none 0 0,.slice none 0 0]):=by kernel_rfl
theorem zc_27:Cd prog 27=some ([.nilFunc]):=by kernel_rfl
theorem KW:Cd prog 270=some ([.int .i64 0,.int .i64 0,.int .i64 0,.int .i64 0]):=by kernel_rfl
theorem Ap5:Cd prog 271=some ([.slice none 0 0]):=by kernel_rfl
theorem Ap6:Cd prog 283=some ([.int .u64 0]):=by kernel_rfl
theorem Ap7:Cd prog 291=some ([.slice none 0 0]):=by kernel_rfl
theorem Xw:Cd prog 294=some ([.int .i64 0,.int .i64 0]):=by kernel_rfl
theorem Xx:Cd prog 3=some ([.int .i64 0]):=by kernel_rfl
theorem Amk:Cd prog 31=some ([.slice none 0 0]):=by kernel_rfl
theorem KX:Cd prog 33=some ([.int .i64 0,.slice none 0 0]):=by kernel_rfl
theorem zc_4:Cd prog 4=some ([.bool false]):=by kernel_rfl
theorem YE:Cd prog 42=some ([.int .i64 0,.slice none 0 0,.slice none 0 0,.int .u64 0,.slice none 0 0,.int .u64 0,.slice none 0 0]):=by kernel_rfl
theorem YF:Cd prog 48=some ([.slice none 0 0]):=by kernel_rfl
theorem Vr:Cd prog 5=some ([.int .u8 0]):=by kernel_rfl
theorem zc_73:Cd prog 73=some ([.pointer none,.pointer none,.pointer none,.int .i64 0]):=by kernel_rfl
theorem Aml:Cd prog 76=some (List.replicate 16 (.nilFunc:Value)):=by kernel_rfl
theorem zc_91:Cd prog 91=some ([.pointer none,.map none,.slice none 0 0]):=by kernel_rfl
theorem OJ:Cd prog 97=some ([.int .u32 0,.int .u64 0]):=by kernel_rfl
theorem Vs:Cd prog 99=some ([.int .u32 0,.int .u64 0,.slice none 0 0,.slice none 0 0]):=by kernel_rfl
theorem Mp:(Tryz.prog.info? 118).bind (·.zero)=some (.agg #[.int .u64 0,.int .i64 0,.int .i64 0,.int .i64 0,.int .i64 0,.int .i64 0,.bool false]):=by kernel_rfl
theorem zv_3:(Tryz.prog.info? 3).bind (·.zero)=some (.int .i64 0):=by kernel_rfl
theorem Aeq:(Tryz.prog.info? 99).bind (·.zero)=some (.agg #[.int .u32 0,.int .u64 0,.slice none 0 0,.slice none 0 0]):=by kernel_rfl
abbrev Ar:=Nat × Nat × Int
def upd(p:Nat->Int)(v:Nat)(x:Int):Nat->Int:=fun u=>if u=v then x else p u
def Jw(p:Nat->Int)(a:Ar):Nat->Int:=if p a.1+a.2.2<p a.2.1 then upd p a.2.1 (p a.1+a.2.2)else p
def Fea(A:List Ar)(q:Nat->Int):Prop:=∀a∈A,q a.2.1<=q a.1+a.2.2
def step0(A:List Ar)(d:Nat->Int)(v:Nat):Int:=A.foldl (fun m a=>if a.2.1=v then min m (d a.1+a.2.2)else m) (d v)
def DD(A:List Ar):Nat->Nat->Int
 |0,_=>0
 |r+1,v=>step0 A (DD A r) v
theorem Mq{d:Nat->Int}{v:Nat}:∀{A:List Ar} {m:Int},A.foldl (fun m a=>if a.2.1=v then min m (d a.1+a.2.2)else m) m<=m
 | [],m=>qa3 _
 |a::A,m=>by
  rw[qc9];refine qbh Mq ?_
  split
  .exact Int.min_le_left ..
  .exact qa3 _
theorem OM{d:Nat->Int}{v:Nat}:∀{A:List Ar} {m:Int} {a:Ar},a∈A->a.2.1=v->A.foldl (fun m a=>if a.2.1=v then min m (d a.1+a.2.2)else m) m<=d a.1+a.2.2
 |b::A,m,a,h,hv=>by
  rw[qc9]
  rcases qai.1 h with rfl|h
  .refine qbh Mq ?_;rw[if_pos hv];exact Int.min_le_right ..
  .exact OM h hv
theorem Q3{d:Nat->Int}{v:Nat}:∀{A:List Ar} {m:Int},A.foldl (fun m a=>if a.2.1=v then min m (d a.1+a.2.2)else m) m=m\/∃a∈A,a.2.1=v/\A.foldl (fun m a=>if a.2.1=v then min m (d a.1+a.2.2)else m) m=d a.1+a.2.2
 | [],m => .inl rfl
 |b::A,m=>by
  rw[qc9]
  rcases Q3 (d:=d) (v:=v) (A:=A) (m:=if b.2.1=v then min m (d b.1+b.2.2)else m)with h|⟨a,ha,hv,h⟩
  .rw[h]
   by_cases hb:b.2.1=v
   .rw[if_pos hb]
    rcases Int.le_total m (d b.1+b.2.2)with h5|h5
    .exact .inl (Int.min_eq_left h5)
    .exact .inr ⟨b,qak ..,hb,Int.min_eq_right h5⟩
   .rw[if_neg hb];exact .inl rfl
  .exact .inr ⟨a,qaj _ ha,hv,h⟩
theorem Aer(A:List Ar)(r v:Nat):DD A (r+1) v<=DD A r v:=Mq
theorem MX(A:List Ar)(v:Nat):∀{r s:Nat},r<=s->DD A s v<=DD A r v
 |r,s,h=>by
  obtain⟨k,rfl⟩:=Nat.exists_eq_add_of_le h
  induction k with
  |zero=>exact qa3 _
  |succ k ih=>exact qbh (Aer A (r+k) v) (ih (by omega))
theorem Aes{A:List Ar}{a:Ar}(h:a∈A)(r:Nat):DD A (r+1) a.2.1<=DD A r a.1+a.2.2:=OM h rfl
theorem YG(A:List Ar)(r v:Nat):DD A (r+1) v=DD A r v\/∃a∈A,a.2.1=v/\DD A (r+1) v=DD A r a.1+a.2.2:=Q3
theorem Vt{A:List Ar}:∀{r v:Nat},DD A (r+1) v<DD A r v->∃x:Nat->Nat,x (r+1)=v/\∀j,j<=r->DD A (j+1) (x (j+1))<DD A j (x (j+1))/\∃a∈A,a.1=x j/\a.2.1=x (j+1)/\DD A (j+1) (x (j+1))=DD A j (x j)+a.2.2
 |0,v,h=>by
  rcases YG A 0 v with h1|⟨a,ha,hv,h1⟩
  .omega
  .refine⟨fun j=>if j=0 then a.1 else v,rfl,fun j hj=>?_⟩;obtain rfl:j=0:=by omega
   exact⟨h,a,ha,rfl,hv,h1⟩
 |r+1,v,h=>by
  rcases YG A (r+1) v with h1|⟨a,ha,hv,h1⟩
  .omega
  .have h2:=Aer A r a.1;have h3:=Aes ha r;rw[hv]at h3;have h4:DD A (r+1) a.1<DD A r a.1:=by omega
   obtain⟨x,hx,hj⟩:=Vt h4;obtain⟨y,hy1,hy2⟩:∃y:Nat->Nat,y (r+2)=v/\∀j,j≠r+2->y j=x j:=⟨fun j=>if j=r+2 then v else x j,if_pos rfl,fun j h=>if_neg h⟩;refine⟨y,hy1,fun j hjr=>?_⟩
   by_cases h5:j=r+1
   .subst h5;rw[show r+1+1=r+2 from rfl,hy1,hy2 _ (by omega)];exact⟨h,a,ha,hx.symm,hv,by rw[hx];exact h1⟩
   .rw[hy2 _ (by omega),hy2 _ (by omega)];exact hj j (by omega)
theorem MY:∀(n:Nat) (l:List Nat),l.Nodup->(∀x∈l,x<n)->l.length<=n
 |0,l,_,h=>by
  cases l with
  |nil=>exact qam _
  |cons x l=>exact absurd (h x (by simp)) (qbd _)
 |n+1,l,hd,h=>by
  have h1:=MY n (l.filter (· != n)) (hd.filter _) (fun x hx=>by
   have:=h x (qbe.1 hx).1;have h2:=(qbe.1 hx).2
   simp at h2;omega)
  have h2:l.length=(l.filter (· != n)).length+l.count n:=by
   clear hd h h1
   induction l with
   |nil=>rfl
   |cons x l ih =>
    rw[List.count_cons,qbw]
    by_cases hx:x=n
    .subst hx;simp;omega
    .simp[hx];omega
  have h3:l.count n<=1:=List.nodup_iff_count.1 hd n;omega
theorem Aet{n:Nat}{x:Nat->Nat}(h:∀j,j<=n->x j<n):∃i j,i<j/\j<=n/\x i=x j:=by
 refine Classical.byContradiction fun hn=>?_
 have hd:((List.range (n+1)).map x).Nodup:=by
  rw[List.nodup_iff_pairwise_ne,List.pairwise_map];refine List.Pairwise.imp_of_mem (R:=fun a b=>a<b) (fun{a b} ha hb hab he=>hn ⟨a,b,hab,?_,he⟩) List.pairwise_lt_range;have:=qa5.1 hb;omega
 have h1:=MY n _ hd fun y hy=>by
  obtain⟨j,hj,rfl⟩:=qah.1 hy;exact h j (by have:=qa5.1 hj;omega)
 simp at h1;omega
theorem Ap8{A:List Ar}{n:Nat}{q:Nat->Int}(hq:Fea A q)(hA:∀a∈A,a.1<n/\a.2.1<n)(v:Nat):DD A (n+1) v=DD A n v:=by
 have h1:=Aer A n v;refine Classical.byContradiction fun hne=>?_;obtain⟨x,-,hx⟩:=Vt (show DD A (n+1) v<DD A n v by omega)
 obtain⟨i,j,hij,hjn,he⟩:=Aet (n:=n) (x:=fun j=>x (j+1)) (fun j hj=>by
  obtain⟨_,a,ha,_,h2,_⟩:=hx j hj
  rw[<-h2];exact(hA a ha).2)
 have hmono:∀k,i+k<=n->DD A (i+1) (x (i+1)) - q (x (i+1))<=DD A (i+k+1) (x (i+k+1)) - q (x (i+k+1)):=by
  intro k
  induction k with
  |zero=>intro _;exact qa3 _
  |succ k ih =>
   intro hk;have h2:=ih (by omega);obtain⟨_,a,ha,h3,h4,h5⟩:=hx (i+k+1) hk;have h6:=hq a ha;rw[h3,h4]at h6;show _<=DD A (i+(k+1)+1) (x (i+(k+1)+1)) - q (x (i+(k+1)+1));rw[show i+(k+1)+1=i+k+1+1 by omega,h5];omega
 have h2:=hmono (j - i) (by omega);rw[show i+(j - i)+1=j+1 by omega,<-he]at h2;have h3:=(hx j hjn).1;rw[<-he]at h3;have h4:=MX A (x (i+1)) (show i+1<=j by omega);omega
theorem Xy{A:List Ar}{n:Nat}{q:Nat->Int}(hq:Fea A q)(hA:∀a∈A,a.1<n/\a.2.1<n):Fea A (DD A n):=fun a ha=>by
 have h1:=Aes ha n;rw[Ap8 hq hA]at h1;exact h1
theorem YH{A:List Ar}{m:Int}(h0:0<=m)(hA:∀a∈A,-m<=a.2.2):∀(r v:Nat),-(r*m)<=DD A r v
 |0,v=>by simp[DD]
 |r+1,v=>by
  have e:((r+1:Nat):Int)*m=r*m+m:=by rw[qdq,Int.add_mul];simp
  rcases YG A r v with h|⟨a,ha,hv,h⟩
  .rw[h,e];have:=YH h0 hA r v;omega
  .rw[h,e];have:=YH h0 hA r a.1;have:=hA a ha;omega
theorem YI(p:Nat->Int)(a:Ar)(v:Nat):Jw p a v<=p v:=by
 unfold Jw
 split
 .unfold upd
  split
  .rename_i h1 h2;subst h2;omega
  .exact qa3 _
 .exact qa3 _
theorem Ajb{p f:Nat->Int}{a:Ar}(hf:f a.2.1<=f a.1+a.2.2)(h:∀v,f v<=p v)(v:Nat):f v<=Jw p a v:=by
 unfold Jw
 split
 .unfold upd
  split
  .rename_i h1 h2;subst h2;have:=h a.1;omega
  .exact h v
 .exact h v
theorem Aeu(p:Nat->Int)(a:Ar):Jw p a a.2.1<=p a.1+a.2.2:=by
 unfold Jw
 split
 .unfold upd;rw[if_pos rfl];exact qa3 _
 .omega
theorem MZ:∀(A:List Ar) (p:Nat->Int) (v:Nat),A.foldl Jw p v<=p v
 | [],_,_=>qa3 _
 |a::A,p,v=>qbh (MZ A _ v) (YI p a v)
theorem TV{f:Nat->Int}:∀{A:List Ar} {p:Nat->Int},Fea A f->(∀v,f v<=p v)->∀v,f v<=A.foldl Jw p v
 | [],_,_,h,v=>h v
 |a::_,_,hf,h,v=>TV (fun b hb=>hf b (qaj _ hb)) (Ajb (hf a (qak ..)) h) v
theorem Vu{q:Nat->Int}:∀{A:List Ar} {p:Nat->Int},(∀v,p v<=q v)->∀a∈A,A.foldl Jw p a.2.1<=q a.1+a.2.2
 |b::A,p,h,a,ha=>by
  rw[qc9]
  rcases qai.1 ha with rfl|ha
  .have h1:=MZ A (Jw p a) a.2.1;have h2:=Aeu p a;have:=h a.1;omega
  .exact Vu (fun v=>qbh (YI p b v) (h v)) a ha
def Fa(A:List Ar):Nat->(Nat->Int)->Nat->Int
 |0,p=>p
 |r+1,p=>A.foldl Jw (Fa A r p)
theorem L8(A:List Ar):∀(r:Nat) (v:Nat),Fa A r (fun _=>0) v<=DD A r v
 |0,v=>qa3 _
 |r+1,v=>by
  show A.foldl Jw (Fa A r fun _=>0) v<=_
  rcases YG A r v with h|⟨a,ha,hv,h⟩
  .rw[h];exact qbh (MZ A _ v) (L8 A r v)
  .rw[h,<-hv];exact Vu (L8 A r) a ha
theorem L9{A:List Ar}{f:Nat->Int}(hf:Fea A f)(h0:∀v,f v<=0):∀(r v:Nat),f v<=Fa A r (fun _=>0) v
 |0,v=>h0 v
 |r+1,v=>TV hf (L9 hf h0 r) v
theorem Aad{A:List Ar}{n:Nat}{q:Nat->Int}(hq:Fea A q)(hA:∀a∈A,a.1<n/\a.2.1<n):Fea A (Fa A n fun _=>0):=by
 have hf:=Xy hq hA;have h0:∀v,DD A n v<=0:=fun v=>MX A v (qaq n);have he:∀v,Fa A n (fun _=>0) v=DD A n v:=fun v=>Int.le_antisymm (L8 A n v) (L9 hf h0 n v);intro a ha;rw[he,he];exact hf a ha
theorem Aev{A:List Ar}{n:Nat}{q:Nat->Int}(hq:Fea A q)(hA:∀a∈A,a.1<n/\a.2.1<n){m:Int}(hc:∀a∈A,-m<=a.2.2)(r v:Nat)(hm:0<=m:=by omega): -(n*m)<=Fa A r (fun _=>0) v/\Fa A r (fun _=>0) v<=0 :=
 ⟨qbh (YH hm hc n v) (L9 (Xy hq hA) (fun v=>MX A v (qaq n)) r v),qbh (L8 A r v) (MX A v (qaq r))⟩
theorem Vv(a b:Int):a<b\/b<=a:=by omega
def BJ(f:Nat->Int):Nat->Int
 |0=>0
 |k+1=>BJ f k+f k
theorem C4{f g:Nat->Int}:∀{k:Nat},(∀i,i<k->f i=g i)->BJ f k=BJ g k
 |0,_=>rfl
 |k+1,h=>by
  show BJ f k+f k=BJ g k+g k;rw[C4 fun i hi=>h i (by omega),h k (by omega)]
theorem Pz(f g:Nat->Int):∀k,BJ (fun i=>f i+g i) k=BJ f k+BJ g k
 |0=>rfl
 |k+1=>by
  show BJ _ k+(f k+g k)=(BJ f k+f k)+(BJ g k+g k);rw[Pz f g k];omega
theorem P0(f:Nat->Int):∀k,BJ (fun i => -f i) k = -BJ f k
 |0=>rfl
 |k+1=>by
  show BJ _ k + -f k = -(BJ f k+f k);rw[P0 f k];omega
theorem LA(f g:Nat->Int)(k:Nat):BJ (fun i=>f i - g i) k=BJ f k - BJ g k:=by
 have h:=Pz f (fun i => -g i) k;rw[P0]at h;exact h
theorem TX(c:Int)(f:Nat->Int):∀k,BJ (fun i=>c*f i) k=c*BJ f k
 |0=>by show(0:Int)=c*0;omega
 |k+1=>by
  show BJ _ k+c*f k=c*(BJ f k+f k);rw[TX c f k,Int.mul_add]
theorem Hs:∀k,BJ (fun _=>0) k=0
 |0=>rfl
 |k+1=>by show BJ _ k+0=0;rw[Hs k];rfl
theorem Iy{f:Nat->Int}:∀{k:Nat},(∀i,i<k->0<=f i)->0<=BJ f k
 |0,_=>qa3 _
 |k+1,h=>by
  have:=Iy (k:=k) fun i hi=>h i (by omega);have:=h k (by omega);show 0<=BJ f k+f k;omega
theorem KY{f g:Nat->Int}{k:Nat}(h:∀i,i<k->f i<=g i):BJ f k<=BJ g k:=by
 have h1:=Iy (f:=fun i=>g i - f i) (k:=k) fun i hi=>by have:=h i hi;omega
 rw[LA]at h1;omega
theorem TY{f:Nat->Int}:∀{k:Nat} {j:Nat},(∀i,i<k->0<=f i)->j<k->0<f j->0<BJ f k
 |k+1,j,h,hj,hp=>by
  show 0<BJ f k+f k;have h1:=Iy (k:=k) fun i hi=>h i (by omega);have h2:=h k (by omega)
  by_cases e:j=k
  .subst e;omega
  .have:=TY (k:=k) (j:=j) (fun i hi=>h i (by omega)) (by omega) hp;omega
theorem Q4(f:Nat->Nat->Int)(m:Nat):∀k,BJ (fun i=>BJ (f i) m) k=BJ (fun j=>BJ (fun i=>f i j) k) m
 |0=>(Hs m).symm
 |k+1=>by
  show BJ _ k+BJ (f k) m=BJ (fun j=>BJ (fun i=>f i j) k+f k j) m;rw[Pz,Q4 f m k]
def one(b:Prop)[Decidable b]:Int:=if b then 1 else 0
theorem Ia(g:Nat->Int){u:Nat}:∀{k:Nat},u<k->BJ (fun v=>one (u=v)*g v) k=g u
 |k+1,h=>by
  show BJ _ k+one (u=k)*g k=g u
  by_cases e:u=k
  .subst e
   have h1:BJ (fun v=>one (u=v)*g v) u=BJ (fun _=>0) u:=C4 fun i hi=>by
    unfold one;rw[if_neg (by omega)];omega
   rw[h1,Hs,one,if_pos rfl];omega
  .rw[Ia g (by omega:u<k),one,if_neg e];omega
structure Gr where
 N:Nat
 E:Nat
 f:Nat->Nat
 t:Nat->Nat
 co:Nat->Int
structure Gr.Ok(g:Gr):Prop where
 f:∀i,i<g.E->g.f i<g.N
 t:∀i,i<g.E->g.t i<g.N
def E0(g:Gr)(x:Nat->Int)(k v:Nat):Int:=BJ (fun i=>(one (g.t i=v) - one (g.f i=v))*x i) k
def BK(g:Gr)(x:Nat->Int)(v:Nat):Int:=E0 g x g.E v
def Iz(g:Gr)(x:Nat->Int):Int:=BJ (fun i=>x i*g.co i) g.E
theorem Xz(g:Gr)(hg:g.Ok)(x r:Nat->Int):BJ (fun v=>BK g x v*r v) g.N=BJ (fun i=>(r (g.t i) - r (g.f i))*x i) g.E:=by
 have h1:BJ (fun v=>BK g x v*r v) g.N=BJ (fun v=>BJ (fun i=>(one (g.t i=v) - one (g.f i=v))*x i*r v) g.E) g.N:=C4 fun v _=>by
  unfold BK E0;rw[qc6,<-TX];exact C4 fun i _=>by rw[qc6]
 rw[h1,<-Q4];refine C4 fun i hi=>?_
 have h2:BJ (fun v=>(one (g.t i=v) - one (g.f i=v))*x i*r v) g.N=BJ (fun v=>one (g.t i=v)*(x i*r v) - one (g.f i=v)*(x i*r v)) g.N:=C4 fun v _=>by
  rw[Int.mul_assoc,Int.sub_mul]
 rw[h2,LA,Ia (fun v=>x i*r v) (hg.t i hi),Ia (fun v=>x i*r v) (hg.f i hi),Int.sub_mul,qc6 (r _),qc6 (r _)]
theorem over_all(g:Gr)(hg:g.Ok)(x:Nat->Int):BJ (BK g x) g.N=0:=by
 have h:=Xz g hg x fun _=>1;have h1:BJ (fun v=>BK g x v*1) g.N=BJ (BK g x) g.N:=C4 fun v _=>by omega
 rw[<-h1,h];have h2:BJ (fun i=>((1:Int) - 1)*x i) g.E=BJ (fun _=>0) g.E:=C4 fun i _=>by omega
 rw[h2,Hs]
def Gr.u(g:Gr)(a:Nat):Nat:=if a % 2=0 then g.f (a / 2)else g.t (a / 2)
def Gr.v(g:Gr)(a:Nat):Nat:=if a % 2=0 then g.t (a / 2)else g.f (a / 2)
def Gr.c(g:Gr)(a:Nat):Int:=if a % 2=0 then g.co (a / 2)else -g.co (a / 2)
def CI(cap x:Nat->Int)(a:Nat):Int:=if a % 2=0 then cap (a / 2) - x (a / 2)else x (a / 2)
def Gr.len(g:Gr)(p:Nat->Int)(a:Nat):Int:=g.c a+p (g.u a) - p (g.v a)
structure Fine(g:Gr)(cap x p:Nat->Int):Prop where
 in':∀i,i<g.E->0<=x i/\x i<=cap i
 fit:∀a,a<2*g.E->0<CI cap x a->0<=g.len p a
theorem Gr.Ok.u{g:Gr}(h:g.Ok){a:Nat}(ha:a<2*g.E):g.u a<g.N:=by
 unfold Gr.u;split
 .exact h.f _ (by omega)
 .exact h.t _ (by omega)
theorem Gr.Ok.v{g:Gr}(h:g.Ok){a:Nat}(ha:a<2*g.E):g.v a<g.N:=by
 unfold Gr.v;split
 .exact h.t _ (by omega)
 .exact h.f _ (by omega)
theorem KZ(g:Gr)(i:Nat):g.u (2*i)=g.f i/\g.v (2*i)=g.t i/\g.c (2*i)=g.co i:=by
 unfold Gr.u Gr.v Gr.c;rw[if_pos (by omega),if_pos (by omega),if_pos (by omega),show 2*i / 2=i by omega];exact⟨rfl,rfl,rfl⟩
theorem Na(g:Gr)(i:Nat):g.u (2*i+1)=g.t i/\g.v (2*i+1)=g.f i/\g.c (2*i+1) = -g.co i:=by
 unfold Gr.u Gr.v Gr.c;(iterate 3 rw[if_neg (by omega)]);rw[show(2*i+1) / 2=i by omega];exact⟨rfl,rfl,rfl⟩
theorem Fine.fwd{g:Gr}{cap x p:Nat->Int}(h:Fine g cap x p){i:Nat}(hi:i<g.E)(hr:x i<cap i):0<=g.co i+p (g.f i) - p (g.t i):=by
 have h1:=h.fit (2*i) (by omega) (by unfold CI;rw[if_pos (by omega),show 2*i / 2=i by omega];omega);obtain⟨a,b,c⟩:=KZ g i;unfold Gr.len at h1
 rwa [a,b,c]at h1
theorem Fine.bwd{g:Gr}{cap x p:Nat->Int}(h:Fine g cap x p){i:Nat}(hi:i<g.E)(hr:0<x i):g.co i+p (g.f i) - p (g.t i)<=0:=by
 have h1:=h.fit (2*i+1) (by omega) (by unfold CI;rw[if_neg (by omega),show(2*i+1) / 2=i by omega];exact hr);obtain⟨a,b,c⟩:=Na g i;unfold Gr.len at h1;rw[a,b,c]at h1;omega
theorem Fine.of{g:Gr}{cap x p:Nat->Int}(h0:∀i,i<g.E->0<=x i/\x i<=cap i)(h1:∀i,i<g.E->x i<cap i->0<=g.co i+p (g.f i) - p (g.t i))(h2:∀i,i<g.E->0<x i->g.co i+p (g.f i) - p (g.t i)<=0):Fine g cap x p:=by
 refine⟨h0,fun a ha hr=>?_⟩;have hm:a % 2=0\/a % 2=1:=by omega
 unfold Gr.len
 rcases hm with hm|hm
 .obtain⟨b,c,d⟩:=KZ g (a / 2);rw[show 2*(a / 2)=a by omega]at b c d;rw[b,c,d];unfold CI at hr;rw[if_pos hm]at hr;exact h1 _ (by omega) (by omega)
 .obtain⟨b,c,d⟩:=Na g (a / 2);rw[show 2*(a / 2)+1=a by omega]at b c d;rw[b,c,d];unfold CI at hr;rw[if_neg (by omega)]at hr;have:=h2 _ (by omega) hr;omega
theorem Fine.best{g:Gr}(hg:g.Ok){cap x p:Nat->Int}(h:Fine g cap x p)(hx:∀v,v<g.N->BK g x v=0){y:Nat->Int}(hy:∀i,i<g.E->0<=y i/\y i<=cap i)(hyo:∀v,v<g.N->BK g y v=0):Iz g x<=Iz g y:=by
 have hz:∀z:Nat->Int,(∀v,v<g.N->BK g z v=0)->Iz g z=BJ (fun i=>(g.co i+p (g.f i) - p (g.t i))*z i) g.E:=fun z hz=>by
  have h1:=Xz g hg z p;have h2:BJ (fun v=>BK g z v*p v) g.N=BJ (fun _=>0) g.N:=C4 fun v hv=>by rw[hz v hv];omega
  rw[h2,Hs]at h1
  have h3:BJ (fun i=>(g.co i+p (g.f i) - p (g.t i))*z i) g.E=BJ (fun i=>z i*g.co i - (p (g.t i) - p (g.f i))*z i) g.E:=C4 fun i _=>by
   rw[qc6 (z i),<-Int.sub_mul];congr 1;omega
  rw[h3,LA,<-h1];unfold Iz;omega
 rw[hz x hx,hz y hyo];refine KY fun i hi=>?_;obtain⟨a,b⟩:=h.in' i hi;obtain⟨c,d⟩:=hy i hi
 rcases Vv (g.co i+p (g.f i) - p (g.t i)) 0 with h5|h5
 .have h6:x i=cap i:=by
   rcases Vv (x i) (cap i)with h7|h7
   .have:=h.fwd hi h7;omega
   .omega
  exact Int.mul_le_mul_of_nonpos_left (by omega) (by omega)
 .rcases Vv 0 (g.co i+p (g.f i) - p (g.t i))with h6|h6
  .have h7:x i=0:=by
    rcases Vv 0 (x i)with h7|h7
    .have:=h.bwd hi h7;omega
    .omega
   exact qdr (by omega) (by omega)
  .rw[show g.co i+p (g.f i) - p (g.t i)=0 by omega];omega
structure Lb where
 d:Nat->Int
 h:Nat->Nat
def le2(d1:Int)(h1:Nat)(d2:Int)(h2:Nat):Prop:=d1<d2\/(d1=d2/\h1<=h2)
theorem le2.trans{a b c:Int}{x y z:Nat}(h1:le2 a x b y)(h2:le2 b y c z):le2 a x c z:=by unfold le2 at *;omega
theorem le2.refl(a:Int)(x:Nat):le2 a x a x := .inr ⟨rfl,qam _⟩
def Ez(s:Lb)(v:Nat)(d:Int)(h:Nat):Prop:=s.d v = -1\/d<s.d v\/(d=s.d v/\h<s.h v)
instance (s:Lb)(v:Nat)(d:Int)(h:Nat):Decidable (Ez s v d h):=by unfold Ez;infer_instance
def I0(s:Lb)(v:Nat)(d:Int)(h:Nat):Lb:=⟨fun u=>if u=v then d else s.d u,fun u=>if u=v then h else s.h u⟩
def Ht(s:Lb)(a:Ar):Lb:=if Ez s a.2.1 (s.d a.1+a.2.2) (s.h a.1+1)then I0 s a.2.1 (s.d a.1+a.2.2) (s.h a.1+1)else s
def Jj(s:Lb)(a:Ar)(hp:List (Int × Nat)):List (Int × Nat):=if Ez s a.2.1 (s.d a.1+a.2.2) (s.h a.1+1)then(s.d a.1+a.2.2,a.2.1)::hp else hp
def TZ(A:List Ar)(n:Nat)(m:Int):Prop:=∀a∈A,a.1<n/\a.2.1<n/\0<=a.2.2/\a.2.2<=m
structure DJ(A:List Ar)(src:List Nat)(n:Nat)(m:Int)(s:Lb):Prop where
 low:∀v,s.d v = -1\/0<=s.d v
 src':∀v∈src,v<n/\s.d v=0/\s.h v=0
 zero:∀v,s.d v ≠ -1->s.h v=0->v∈src
 none':∀v,s.d v = -1->s.h v=0
 pre:∀v,s.d v ≠ -1->s.h v≠0->∃a∈A,a.2.1=v/\s.d a.1 ≠ -1/\le2 (s.d a.1+a.2.2) (s.h a.1+1) (s.d v) (s.h v)
 walk:∀v,s.d v ≠ -1->∃W:List Nat,W.Nodup/\W.length=s.h v+1/\∀x∈W,x<n/\s.d x ≠ -1/\le2 (s.d x) (s.h x) (s.d v) (s.h v)
 bnd:∀v,s.d v ≠ -1->s.d v<=s.h v*m
def Rlx(s:Lb)(a:Ar):Prop:=s.d a.2.1 ≠ -1/\le2 (s.d a.2.1) (s.h a.2.1) (s.d a.1+a.2.2) (s.h a.1+1)
def Clo(A:List Ar)(s:Lb)(hp:List (Int × Nat))(u:Nat)(done:List Ar):Prop :=
 ∀v,s.d v ≠ -1->(s.d v,v)∈hp\/∀a∈A,a.1=v->(v=u->a∈done)->Rlx s a
def Aew(n:Nat)(m:Int)(s:Lb)(v:Nat):Int:=if s.d v = -1 then n*m*64+64 else s.d v*64+s.h v
def meas(n:Nat)(m:Int)(s:Lb)(hp:List (Int × Nat)):Int:=2*BJ (Aew n m s) n+hp.length
theorem DJ.hops{A:List Ar}{src:List Nat}{n:Nat}{m:Int}{s:Lb}(J:DJ A src n m s){v:Nat}(hv:s.d v ≠ -1):s.h v+1<=n:=by
 obtain⟨W,h1,h2,h3⟩:=J.walk v hv;rw[<-h2];exact MY n W h1 fun x hx=>(h3 x hx).1
section
variable {A:List Ar}{src:List Nat}{n:Nat}{m:Int}{s:Lb}{hp:List (Int × Nat)}{u:Nat}{dn:List Ar}{a:Ar}
theorem DJ.relax(hA:TZ A n m)(hm:0<=m)(hn:n<=60)(J:DJ A src n m s)(K:Clo A s hp u dn)(ha:a∈A)(hu:a.1=u)(hd:s.d u ≠ -1) :
  DJ A src n m (Ht s a)/\Clo A (Ht s a) (Jj s a hp) u (dn++[a])/\(Ht s a).d u=s.d u/\(Ht s a).h u=s.h u/\meas n m (Ht s a) (Jj s a hp)<=meas n m s hp:=by
 subst hu;obtain⟨hu1,hv1,hl0,hlm⟩:=hA a ha;have hdu:=(J.low a.1).resolve_left hd
 by_cases hb:Ez s a.2.1 (s.d a.1+a.2.2) (s.h a.1+1)
 .obtain⟨d',hd'⟩:∃d',d'=s.d a.1+a.2.2:=⟨_,rfl⟩;obtain⟨h',hh'⟩:∃h',h'=s.h a.1+1:=⟨_,rfl⟩;obtain⟨v,hv⟩:=qD a.2.1;have hS:Ht s a=I0 s v d' h':=by unfold Ht;rw[if_pos hb,hd',hh',hv]
  have hH:Jj s a hp=(d',v)::hp:=by unfold Jj;rw[if_pos hb,hd',hv]
  rw[<-hd',<-hh',<-hv]at hb;rw[<-hv]at hv1
  have hvu:v≠a.1:=fun e=>by
   unfold Ez at hb;rw[e]at hb;omega
  rw[hS,hH];have p1:(I0 s v d' h').d v=d':=if_pos rfl;have p2:(I0 s v d' h').h v=h':=if_pos rfl;have p3:∀x,x≠v->(I0 s v d' h').d x=s.d x:=fun x hx=>if_neg hx;have p4:∀x,x≠v->(I0 s v d' h').h x=s.h x:=fun x hx=>if_neg hx
  have hsrc:v∉src:=fun hs=>by
   obtain⟨_,q1,q2⟩:=J.src' v hs;unfold Ez at hb;rw[q1,q2]at hb;omega
  -- labels become no greater
  have hless:∀x,s.d x ≠ -1->(I0 s v d' h').d x ≠ -1/\le2 ((I0 s v d' h').d x) ((I0 s v d' h').h x) (s.d x) (s.h x):=fun x hx=>by
   by_cases e:x=v
   .subst e;rw[p1,p2];unfold Ez at hb;exact⟨by omega,by unfold le2;omega⟩
   .rw[p3 x e,p4 x e];exact⟨hx,le2.refl _ _⟩
  have hadd:∀{x:Nat} (l:Int),s.d x ≠ -1->le2 ((I0 s v d' h').d x+l) ((I0 s v d' h').h x+1) (s.d x+l) (s.h x+1):=fun{x} l hx=>by
   have:=(hless x hx).2;unfold le2 at *;omega
  -- the way to v
  obtain⟨W,w1,w2,w3⟩:=J.walk a.1 hd
  have hvW:v∉W:=fun hx=>by
   have q:=(w3 v hx).2;unfold Ez at hb;unfold le2 at q;omega
  have hWn:(W++[v]).Nodup:=by
   rw[qdo];exact⟨w1,by simp,fun x hx y hy e=>by rw[qab.1 hy]at e;exact hvW (e ▸ hx)⟩
  have hWl:(W++[v]).length=h'+1:=by rw[qat,w2,hh'];rfl
  have hh'n:h'+1<=n:=by
   rw[<-hWl];exact MY n _ hWn fun x hx=>(qbc.1 hx).elim (fun h=>(w3 x h).1) fun h=>by rw[qab.1 h];exact hv1
  have hbd:d'<=h'*m:=by
   have q:=J.bnd a.1 hd;rw[hd',hh',qdq,Int.add_mul];simp;omega
  have J':DJ A src n m (I0 s v d' h'):=by
   refine⟨fun x=>?_,fun x hx=>?_,fun x hx h0=>?_,fun x hx=>?_,fun x hx h0=>?_,fun x hx=>?_,fun x hx=>?_⟩
   .by_cases e:x=v
    .subst e;rw[p1];omega
    .rw[p3 x e];exact J.low x
   .have e:x≠v:=fun e=>hsrc (e ▸ hx);rw[p3 x e,p4 x e];exact J.src' x hx
   .by_cases e:x=v
    .subst e;rw[p2]at h0;omega
    .rw[p3 x e]at hx;rw[p4 x e]at h0;exact J.zero x hx h0
   .by_cases e:x=v
    .subst e;rw[p1]at hx;omega
    .rw[p3 x e]at hx;rw[p4 x e];exact J.none' x hx
   .by_cases e:x=v
    .subst e;refine⟨a,ha,hv.symm,?_,?_⟩
     .rw[p3 _ (Ne.symm hvu)];exact hd
     .rw[p1,p2,p3 _ (Ne.symm hvu),p4 _ (Ne.symm hvu),<-hd',<-hh'];exact le2.refl _ _
    .rw[p3 x e]at hx |-;rw[p4 x e]at h0 |-;obtain⟨b,hb1,hb2,hb3,hb4⟩:=J.pre x hx h0;exact⟨b,hb1,hb2,(hless _ hb3).1,(hadd _ hb3).trans hb4⟩
   .by_cases e:x=v
    .subst e;refine⟨W++[x],hWn,by rw[hWl,p2],fun y hy=>?_⟩;rw[p1,p2]
     rcases qbc.1 hy with hy|hy
     .obtain⟨q1,q2,q3⟩:=w3 y hy;refine⟨q1,(hless y q2).1,(hless y q2).2.trans (q3.trans ?_)⟩;unfold le2;omega
     .rw[qab.1 hy,p1,p2];exact⟨hv1,by omega,le2.refl _ _⟩
    .rw[p3 x e]at hx |-;rw[p4 x e];obtain⟨W2,q1,q2,q3⟩:=J.walk x hx;exact⟨W2,q1,q2,fun y hy=>⟨(q3 y hy).1,(hless y (q3 y hy).2.1).1,(hless y (q3 y hy).2.1).2.trans (q3 y hy).2.2⟩⟩
   .by_cases e:x=v
    .subst e;rw[p1,p2];exact hbd
    .rw[p3 x e]at hx |-;rw[p4 x e];exact J.bnd x hx
  have hval:∀x,Aew n m (I0 s v d' h') x<=Aew n m s x - one (v=x):=fun x=>by
   by_cases e:x=v
   .subst e;unfold one;rw[if_pos rfl];unfold Aew;rw[p1,p2,if_neg (show ¬d' = -1 by omega)]
    split
    .have q:(h':Int)*m<=(n:Int)*m:=qem (by omega) hm;omega
    .have q1:=(J.low x).resolve_left ‹_›;unfold Ez at hb;omega
   .have e1:one (v=x)=0:=if_neg fun h=>e h.symm;unfold Aew;rw[p3 x e,p4 x e,e1,Int.sub_zero];exact qa3 _
  refine⟨J',fun x hx=>?_,p3 _ (Ne.symm hvu),p4 _ (Ne.symm hvu),?_⟩
  .by_cases e:x=v
   .subst e;left;rw[p1];exact qak ..
   .rw[p3 x e]at hx |-
    rcases K x hx with q|q
    .exact .inl (qaj _ q)
    .refine .inr fun b hb1 hb2 hb3=>?_
     by_cases eb:b=a
     .subst eb;refine⟨by rw[<-hv,p1];omega,?_⟩;rw[<-hv,p1,p2,p3 _ (Ne.symm hvu),p4 _ (Ne.symm hvu),<-hd',<-hh'];exact le2.refl _ _
     .obtain⟨r1,r2⟩:=q b hb1 hb2 fun h=>(qbc.1 (hb3 h)).resolve_right fun h=>eb (qab.1 h);refine⟨(hless _ r1).1,(hless _ r1).2.trans ?_⟩;have eb1:b.1≠v:=by rw[hb2];exact e
      rw[p3 _ eb1,p4 _ eb1];exact r2
  .unfold meas;have q1:=KY (k:=n) fun i _=>hval i;rw[LA]at q1;have q2:=Ia (fun _=>(1:Int)) hv1;have q3:BJ (fun x=>one (v=x)) n=BJ (fun x=>one (v=x)*1) n:=C4 fun i _=>by omega
   rw[<-q3]at q2;rw[qa9];omega
 .have hS:Ht s a=s:=by unfold Ht;rw[if_neg hb]
  have hH:Jj s a hp=hp:=by unfold Jj;rw[if_neg hb]
  rw[hS,hH];refine⟨J,fun x hx=>?_,rfl,rfl,qa3 _⟩
  rcases K x hx with q|q
  .exact .inl q
  .refine .inr fun b hb1 hb2 hb3=>?_
   by_cases eb:b=a
   .subst eb;unfold Ez at hb;unfold Rlx le2;omega
   .exact q b hb1 hb2 fun h=>(qbc.1 (hb3 h)).resolve_right fun h=>eb (qab.1 h)
def lb0(src:List Nat):Lb:=⟨fun v=>if v∈src then 0 else -1,fun _=>0⟩
theorem DJ.start(hs:∀v∈src,v<n):DJ A src n m (lb0 src):=by
 have h1:∀v,(lb0 src).d v ≠ -1->v∈src:=fun v hv=>Classical.byContradiction fun h=>hv (if_neg h);refine⟨fun v=>?_,fun v hv=>⟨hs v hv,if_pos hv,rfl⟩,fun v hv _=>h1 v hv,fun v _=>rfl,fun v _ h=>absurd rfl h,fun v hv=>⟨[v],by simp,rfl,fun x hx=>?_⟩,fun v hv=>?_⟩
 .unfold lb0;dsimp only;split
  .exact .inr (qa3 _)
  .exact .inl U
 .rw[qab.1 hx];exact⟨hs v (h1 v hv),hv,le2.refl _ _⟩
 .have:(lb0 src).d v=0:=if_pos (h1 v hv);rw[this];show(0:Int)<=((0:Nat):Int)*m;omega
structure Done(A:List Ar)(src:List Nat)(n:Nat)(m:Int)(s:Lb):Prop where
 J:DJ A src n m s
 arc:∀a∈A,s.d a.1 ≠ -1->s.d a.2.1 ≠ -1/\s.d a.2.1<=s.d a.1+a.2.2
 pre:∀v,s.d v ≠ -1->s.h v≠0->∃a∈A,a.2.1=v/\s.d a.1 ≠ -1/\s.d a.1+a.2.2=s.d v/\s.h a.1+1=s.h v
theorem DJ.ends(J:DJ A src n m s)(K:Clo A s [] u A):Done A src n m s:=by
 have hr:∀a∈A,s.d a.1 ≠ -1->Rlx s a:=fun a ha h=>(K a.1 h).elim (fun h=>by cases h) fun h=>h a ha rfl fun _=>ha;refine⟨J,fun a ha h=>?_,fun v hv h0=>?_⟩
 .obtain⟨h1,h2⟩:=hr a ha h;exact⟨h1,by unfold le2 at h2;omega⟩
 .obtain⟨a,ha,h1,h2,h3⟩:=J.pre v hv h0;obtain⟨h4,h5⟩:=hr a ha h2;rw[h1]at h5;refine⟨a,ha,h1,h2,?_,?_⟩
  .unfold le2 at h3 h5;omega
  .unfold le2 at h3 h5;omega
end
def Nb(g:Gr)(cap x p:Nat->Int):List Ar:=((List.range (2*g.E)).filter fun a=>decide (0<CI cap x a)).map fun a=>(g.u a,g.v a,g.len p a)
theorem Lc{g:Gr}{cap x p:Nat->Int}{b:Ar}:b∈Nb g cap x p↔∃a,a<2*g.E/\0<CI cap x a/\b=(g.u a,g.v a,g.len p a):=by
 unfold Nb;rw[qah];constructor
 .rintro⟨a,ha,rfl⟩;rw[qbe,qa5,qar]at ha;exact⟨a,ha.1,ha.2,rfl⟩
 .rintro⟨a,h1,h2,rfl⟩;exact⟨a,qbe.2 ⟨qa5.2 h1,qan h2⟩,rfl⟩
theorem Fine.arcs{g:Gr}(hg:g.Ok){cap x p:Nat->Int}(h:Fine g cap x p){m:Int}(hm:∀a,a<2*g.E->g.len p a<=m):TZ (Nb g cap x p) g.N m:=fun b hb=>by
 obtain⟨a,h1,h2,rfl⟩:=Lc.1 hb;exact⟨hg.u h1,hg.v h1,h.fit a h1 h2,hm a h1⟩
theorem reach{g:Gr}(hg:g.Ok){cap x p:Nat->Int}(h:Fine g cap x p){src:List Nat}{m:Int}{s:Lb}(D:Done (Nb g cap x p) src g.N m s){v:Nat}(hv:v<g.N)(hd:s.d v ≠ -1)(ho:0<BK g x v):∃w,w<g.N/\s.d w ≠ -1/\BK g x w<0:=by
 refine Classical.byContradiction fun hn=>?_;obtain⟨r,hr⟩:=qD (fun v=>if s.d v ≠ -1 then 1 else 0:Nat->Int);have hr1:∀{v:Nat},s.d v ≠ -1->r v=1:=fun{v} h=>by rw[hr];exact if_pos h
 have hr0:∀{v:Nat},s.d v = -1->r v=0:=fun{v} h=>by rw[hr];exact if_neg fun h2=>h2 h
 have h1:0<BJ (fun v=>BK g x v*r v) g.N:=by
  refine TY (j:=v) (fun w hw=>?_) hv (by rw[hr1 hd];omega)
  by_cases e:s.d w = -1
  .rw[hr0 e];omega
  .rw[hr1 e];have:=Int.not_lt.1 fun h5=>hn ⟨w,hw,e,h5⟩;omega
 rw[Xz g hg x r]at h1
 have h2:BJ (fun i=>(r (g.t i) - r (g.f i))*x i) g.E<=BJ (fun _=>0) g.E:=KY fun i hi=>by
  obtain⟨hx0,hx1⟩:=h.in' i hi
  by_cases e1:s.d (g.t i) = -1
  .rw[hr0 e1]
   by_cases e2:s.d (g.f i) = -1
   .rw[hr0 e2];omega
   .rw[hr1 e2];omega
  .rw[hr1 e1]
   by_cases e2:s.d (g.f i) = -1
   .have e3:x i=0:=by
     rcases Vv 0 (x i)with h5|h5
     .exfalso;obtain⟨a1,a2,a3⟩:=Na g i;have:=D.arc _ (Lc.2 ⟨2*i+1,by omega,by unfold CI;rw[if_neg (by omega),show(2*i+1) / 2=i by omega];exact h5,rfl⟩) (by dsimp only;rw[a1];exact e1);dsimp only at this;rw[a2]at this;exact this.1 e2
     .omega
    rw[e3];omega
   .rw[hr1 e2];omega
 rw[Hs]at h2;omega
structure Way1(g:Gr)(cap x p:Nat->Int)(s:Lb)(a:Nat):Prop where
 lt:a<2*g.E
 room:0<CI cap x a
 du:s.d (g.u a) ≠ -1
 dv:s.d (g.v a) ≠ -1
 d:s.d (g.u a)+g.len p a=s.d (g.v a)
 h:s.h (g.u a)+1=s.h (g.v a)
def Bys(g:Gr)(cap x p:Nat->Int)(s:Lb)(by':Nat->Option Nat):Prop :=
 (∀v,s.d v = -1\/s.h v=0->by' v=none)/\∀v,s.d v ≠ -1->s.h v≠0->∃a,by' v=some a/\Way1 g cap x p s a/\g.v a=v
def Ex(by':Nat->Option Nat)(g:Gr):Nat->Nat->List Nat
 |0,_=>[]
 |k+1,v=>match by' v with
  |none=>[]
  |some a=>a::Ex by' g k (g.u a)
def ON(by':Nat->Option Nat)(g:Gr):Nat->Nat->Nat
 |0,v=>v
 |k+1,v=>match by' v with
  |none=>v
  |some a=>ON by' g k (g.u a)
section
variable {g:Gr}{cap x p:Nat->Int}{s:Lb}{by':Nat->Option Nat}
theorem Ik{k v a:Nat}(h:by' v=some a):Ex by' g (k+1) v=a::Ex by' g k (g.u a)/\ON by' g (k+1) v=ON by' g k (g.u a):=by
 constructor
 .show(match by' v with|none=>[]|some a=>a::Ex by' g k (g.u a))=_;rw[h]
 .show(match by' v with|none=>v|some a=>ON by' g k (g.u a))=_;rw[h]
theorem LB(hB:Bys g cap x p s by'):∀{k v:Nat},s.d v ≠ -1->s.h v=k->(∀a∈Ex by' g k v,Way1 g cap x p s a/\s.h (g.v a)<=k)/\(Ex by' g k v).Pairwise (fun a b=>s.h (g.v b)<s.h (g.v a))/\s.d (ON by' g k v) ≠ -1/\s.h (ON by' g k v)=0
 |0,v,hd,hk=>⟨(fun a h=>by cases h),List.Pairwise.nil,hd,hk⟩
 |k+1,v,hd,hk=>by
  obtain⟨a,h1,h2,h3⟩:=hB.2 v hd (by omega);obtain⟨e1,e2⟩:=Ik (g:=g) (k:=k) h1;have hh:=h2.h;rw[h3,hk]at hh;obtain⟨q1,q2,q3,q4⟩:=LB hB (k:=k) h2.du (by omega);rw[e1,e2];refine⟨fun b hb=>?_,List.Pairwise.cons (fun b hb=>?_) q2,q3,q4⟩
  .rcases qai.1 hb with rfl|hb
   .exact⟨h2,by rw[h3];omega⟩
   .exact⟨(q1 b hb).1,by have:=(q1 b hb).2;omega⟩
  .have:=(q1 b hb).2;rw[h3];omega
theorem Q5(hB:Bys g cap x p s by'){k v:Nat}(hd:s.d v ≠ -1)(hk:s.h v=k):(Ex by' g k v).Pairwise (fun a b=>a / 2≠b / 2):=by
 obtain⟨q1,q2,-,-⟩:=LB hB hd hk;refine List.Pairwise.imp_of_mem (R:=fun a b=>s.h (g.v b)<s.h (g.v a)) (fun{a b} ha hb hab he=>?_) q2;have wa:=(q1 a ha).1;have wb:=(q1 b hb).1;have h1:=wa.h;have h2:=wb.h
 by_cases e:a=b
 .rw[e]at hab;omega
 .have hm:a % 2≠b % 2:=by omega
  have e1:g.u a=g.v b:=by
   unfold Gr.u Gr.v;rw[he]
   split
   .rw[if_neg (by omega)]
   .rw[if_pos (by omega)]
  have e2:g.v a=g.u b:=by
   unfold Gr.u Gr.v;rw[he]
   split
   .rw[if_neg (by omega)]
   .rw[if_pos (by omega)]
  rw[e1]at h1;rw[e2]at h1 hab;omega
end
def Jx(m:Int)(x:Nat->Int)(a:Nat):Nat->Int:=fun i=>if i=a / 2 then(if a % 2=0 then x i+m else x i - m)else x i
def FQ(m:Int)(x:Nat->Int)(l:List Nat):Nat->Int:=l.foldl (Jx m) x
theorem Sy(g:Gr)(m:Int)(x:Nat->Int){a:Nat}(ha:a<2*g.E)(w:Nat):BK g (Jx m x a) w=BK g x w+m*(one (g.v a=w) - one (g.u a=w)):=by
 have hi:a / 2<g.E:=by omega
 have h1:BK g (Jx m x a) w=BJ (fun i=>(one (g.t i=w) - one (g.f i=w))*x i+one (a / 2=i)*((one (g.t i=w) - one (g.f i=w))*(if a % 2=0 then m else -m))) g.E:=C4 fun i _=>by
  by_cases e:i=a / 2
  .have h1:Jx m x a i=if a % 2=0 then x i+m else x i - m:=if_pos e;have h2:one (a / 2=i)=1:=if_pos e.symm;rw[h1,h2]
   by_cases hp:a % 2=0
   .rw[if_pos hp,if_pos hp,Int.mul_add,Int.one_mul]
   .rw[if_neg hp,if_neg hp,Int.mul_sub,Int.one_mul,Int.mul_neg];omega
  .have h1:Jx m x a i=x i:=if_neg e;have h2:one (a / 2=i)=0:=if_neg (Ne.symm e);rw[h1,h2];omega
 rw[h1,Pz,Ia (fun i=>(one (g.t i=w) - one (g.f i=w))*(if a % 2=0 then m else -m)) hi];unfold BK E0 Gr.u Gr.v
 split
 .rw[qc6 m]
 .congr 1
  rw[Int.mul_neg,<-Int.neg_mul,qc6 m];congr 1;omega
theorem OQ(g:Gr)(m:Int){cap p:Nat->Int}{x0:Nat->Int}{s:Lb}{by':Nat->Option Nat}(hB:Bys g cap x0 p s by')(w:Nat):∀{k v:Nat} (x:Nat->Int),s.d v ≠ -1->s.h v=k->BK g (FQ m x (Ex by' g k v)) w=BK g x w+m*(one (v=w) - one (ON by' g k v=w))
 |0,v,x,_,_=>by
  show BK g x w=BK g x w+m*(one (v=w) - one (v=w));rw[Int.sub_self];omega
 |k+1,v,x,hd,hk=>by
  obtain⟨a,h1,h2,h3⟩:=hB.2 v hd (by omega);obtain⟨e1,e2⟩:=Ik (g:=g) (k:=k) h1;have hh:=h2.h;rw[h3,hk]at hh;rw[e1,e2];show BK g (FQ m (Jx m x a) (Ex by' g k (g.u a))) w=_;rw[OQ g m hB w (k:=k) (Jx m x a) h2.du (by omega),Sy g m x h2.lt,h3,Int.add_assoc,<-Int.mul_add]
  congr 2;omega
theorem JT{m:Int}{x:Nat->Int}:∀{l:List Nat} {i:Nat},(∀a∈l,a / 2≠i)->FQ m x l i=x i
 | [],i,_=>rfl
 |a::l,i,h=>by
  show FQ m (Jx m x a) l i=_;rw[JT (l:=l) fun b hb=>h b (qaj _ hb)];exact if_neg fun e=>h a (qak ..) e.symm
theorem YJ{m:Int}:∀{l:List Nat} {x:Nat->Int} {a:Nat},l.Pairwise (fun a b=>a / 2≠b / 2)->a∈l->FQ m x l (a / 2)=if a % 2=0 then x (a / 2)+m else x (a / 2) - m
 |b::l,x,a,hp,ha=>by
  obtain⟨h1,h2⟩:=qbx.1 hp;show FQ m (Jx m x b) l (a / 2)=_
  by_cases e:a=b
  .subst e;rw[JT fun c hc=>Ne.symm (h1 c hc)];exact if_pos U
  .have ha':=(qai.1 ha).resolve_left e;rw[YJ h2 ha'];have:Jx m x b (a / 2)=x (a / 2):=if_neg (Ne.symm (h1 a ha'));rw[this]
def Ua(s:Lb)(D:Int)(v:Nat):Int:=if s.d v<0\/D<s.d v then D else s.d v
theorem Aae{g:Gr}{cap x p:Nat->Int}(h:Fine g cap x p){src:List Nat}{m0:Int}{s:Lb}(D:Done (Nb g cap x p) src g.N m0 s){by':Nat->Option Nat}(hB:Bys g cap x p s by'){v:Nat}(hd:s.d v ≠ -1){m:Int}(hr:∀a∈Ex by' g (s.h v) v,m<=CI cap x a)(hm:0<=m:=by omega):
  Fine g cap (FQ m x (Ex by' g (s.h v) v)) (fun w=>p w+Ua s (s.d v) w):=by
 obtain⟨q1,-,-,-⟩:=LB hB hd rfl;have hpe:=Q5 hB hd rfl;have hlow:=D.J.low;have hdv:=(hlow v).resolve_left hd
 have hlen:∀a,a<2*g.E->0<CI cap x a->0<=g.len p a+Ua s (s.d v) (g.u a) - Ua s (s.d v) (g.v a):=fun a ha hra=>by
  have h1:=h.fit a ha hra;have h2:=D.arc _ (Lc.2 ⟨a,ha,hra,rfl⟩);dsimp only at h2;have h3:=hlow (g.u a);have h4:=hlow (g.v a);unfold Ua
  by_cases e:s.d (g.u a) = -1
  .rw[if_pos (.inl (by omega))]
   split <;> omega
  .obtain⟨h5,h6⟩:=h2 e
   split <;> split <;> omega
 have htight:∀a∈Ex by' g (s.h v) v,g.len p a+Ua s (s.d v) (g.u a) - Ua s (s.d v) (g.v a)=0:=fun a ha=>by
  -- all nodes of the way are no farther
  have hle:∀{k w:Nat},s.d w ≠ -1->s.h w=k->∀a∈Ex by' g k w,s.d (g.v a)<=s.d w:=fun{k}=>by
   induction k with
   |zero=>intro w _ _ a ha;cases ha
   |succ k ih =>
    intro w hw hk a ha;obtain⟨b,h1,h2,h3⟩:=hB.2 w hw (by omega);obtain⟨e1,-⟩:=Ik (g:=g) (k:=k) h1;rw[e1]at ha;have hh:=h2.h;rw[h3,hk]at hh;have hfit:=h.fit b h2.lt h2.room;have hdd:=h2.d;rw[h3]at hdd
    rcases qai.1 ha with rfl|ha
    .rw[h3];exact qa3 _
    .have:=ih h2.du (by omega) a ha;omega
  have h1:=hle hd rfl a ha;have w1:=(q1 a ha).1;have h2:=(hlow (g.u a)).resolve_left w1.du;have h3:=(hlow (g.v a)).resolve_left w1.dv;have h4:=w1.d;have h5:=h.fit a w1.lt w1.room;unfold Ua;rw[if_neg (by omega),if_neg (by omega)];omega
 have hone:∀i,i<g.E->(FQ m x (Ex by' g (s.h v) v) i=x i/\∀a∈Ex by' g (s.h v) v,a / 2≠i)\/∃a∈Ex by' g (s.h v) v,a / 2=i:=fun i _=>by
  by_cases e:∃a∈Ex by' g (s.h v) v,a / 2=i
  .exact .inr e
  .have:∀a∈Ex by' g (s.h v) v,a / 2≠i:=fun a ha he=>e ⟨a,ha,he⟩
   exact .inl ⟨JT this,this⟩
 have hz:∀i,i<g.E->(∃a∈Ex by' g (s.h v) v,a / 2=i)->g.co i+(p (g.f i)+Ua s (s.d v) (g.f i)) - (p (g.t i)+Ua s (s.d v) (g.t i))=0:=fun i hi ⟨a,ha,he⟩=>by
  have h1:=htight a ha;unfold Gr.len at h1
  rcases(by omega:a=2*i\/a=2*i+1)with rfl|rfl
  .obtain⟨b,c,d⟩:=KZ g i;rw[b,c,d]at h1;omega
  .obtain⟨b,c,d⟩:=Na g i;rw[b,c,d]at h1;omega
 refine Fine.of (fun i hi=>?_) (fun i hi hx=>?_) (fun i hi hx=>?_)
 .obtain⟨h1,h2⟩:=h.in' i hi
  rcases hone i hi with⟨e,_⟩|⟨a,ha,he⟩
  .rw[e];exact⟨h1,h2⟩
  .have h3:=hr a ha;have h4:=YJ (m:=m) (x:=x) hpe ha;rw[he]at h4;rw[h4];unfold CI at h3;rw[he]at h3
   split
   .rename_i e;rw[if_pos e]at h3;omega
   .rename_i e;rw[if_neg e]at h3;omega
 .rcases hone i hi with⟨e,_⟩|e
  .rw[e]at hx;have h1:=hlen (2*i) (by omega) (by unfold CI;rw[if_pos (by omega),show 2*i / 2=i by omega];omega);obtain⟨b,c,d⟩:=KZ g i;unfold Gr.len at h1;rw[b,c,d]at h1;omega
  .have:=hz i hi e;omega
 .rcases hone i hi with⟨e,_⟩|e
  .rw[e]at hx;have h1:=hlen (2*i+1) (by omega) (by unfold CI;rw[if_neg (by omega),show(2*i+1) / 2=i by omega];exact hx);obtain⟨b,c,d⟩:=Na g i;unfold Gr.len at h1;rw[b,c,d]at h1;omega
  .have:=hz i hi e;omega
def Aex(x:Int):Int:=if 0<x then x else 0
def I3(g:Gr)(x:Nat->Int):Int:=BJ (fun v=>Aex (BK g x v)) g.N
theorem Vw{g:Gr}(hg:g.Ok){x:Nat->Int}(h:∀v,v<g.N->BK g x v<=0):∀v,v<g.N->BK g x v=0:=fun v hv=>by
 have h1:=over_all g hg x
 rcases Vv (BK g x v) 0 with h2|h2
 .have h3:=TY (f:=fun v => -BK g x v) (k:=g.N) (j:=v) (fun i hi=>by have:=h i hi;omega) hv (by omega);rw[P0,h1]at h3;omega
 .have:=h v hv;omega
theorem Aaf{g:Gr}{x x':Nat->Int}{u v:Nat}{m:Int}(hmu:m<=BK g x u)(hmv:m <= -BK g x v)(h:∀w,BK g x' w=BK g x w+m*(one (v=w) - one (u=w)))(hu:u<g.N:=by omega)(hm:0<m:=by omega):I3 g x'+m<=I3 g x:=by
 have hne:u≠v:=fun e=>by subst e;omega
 have h1:∀w,Aex (BK g x' w)<=Aex (BK g x w) - one (u=w)*m:=fun w=>by
  rw[h w];unfold one Aex
  by_cases e1:v=w
  .subst e1;rw[if_pos rfl,if_neg hne]
   split <;> split <;> omega
  .rw[if_neg e1]
   by_cases e2:u=w
   .subst e2;rw[if_pos rfl]
    split <;> split <;> omega
   .rw[if_neg e2]
    split <;> split <;> omega
 have h2:=KY (k:=g.N) fun w _=>h1 w;rw[LA,Ia (fun _=>m) hu]at h2;unfold I3;omega
theorem Aag(g:Gr)(x:Nat->Int):0<=I3 g x:=Iy fun i _=>by unfold Aex;split <;> omega
end Go.Proofs.YtffclglpjlcojaaGreat
