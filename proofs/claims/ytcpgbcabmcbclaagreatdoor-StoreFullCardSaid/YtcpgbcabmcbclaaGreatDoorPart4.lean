/- Part 4 of the proof. -/
import Derived.Test.YtcpgbcabmcbclaaGreatDoorPart3
import Derived.Lib.Bytealg
import Derived.Ground.GgzProg
import Derived.Ground.SlgmProg
set_option maxRecDepth 20000
set_option maxHeartbeats 2000000
namespace Go.Proofs.YtcpgbcabmcbclaaGreatDoor
open Go.GV Go.Proofs.Tryz
abbrev DE:List UInt8->List UInt8->Int:=Go.Lib.compareBytes
theorem Lj:∀a:List UInt8,DE a a=0
 | []=>rfl
 |x::a=>by
  show(if x<x then _ else if x<x then _ else DE a a)=0;rw[if_neg (UInt8.lt_irrefl x),if_neg (UInt8.lt_irrefl x)];exact Lj a
theorem FZ(x y:UInt8)(a b:List UInt8):DE (x::a) (y::b)=if x<y then -1 else if y<x then 1 else DE a b:=rfl
theorem JE:∀a b:List UInt8,DE a b = -1\/DE a b=0\/DE a b=1
 | [],[] => .inr (.inl rfl)
 | [],_::_ => .inl rfl
 |_::_,[] => .inr (.inr rfl)
 |x::a,y::b=>by
  rw[FZ]
  split
  .exact .inl U
  .split
   .exact .inr (.inr U)
   .exact JE a b
theorem Ng:∀{a b:List UInt8},DE a b=0->a=b
 | [],[],_=>rfl
 | [],_::_,h=>by cases h
 |_::_,[],h=>by cases h
 |x::a,y::b,h=>by
  rw[FZ]at h
  split at h
  .cases h
  .rename_i h1
   split at h
   .cases h
   .rename_i h2
    rw[Ng h,show x=y from UInt8.le_antisymm (UInt8.not_lt.1 h2) (UInt8.not_lt.1 h1)]
theorem Tl:∀a b:List UInt8,DE b a = - DE a b
 | [],[]=>rfl
 | [],_::_=>rfl
 |_::_,[]=>rfl
 |x::a,y::b=>by
  rw[FZ,FZ]
  by_cases h:x<y
  .rw[if_pos h,if_neg (fun h2=>UInt8.lt_irrefl x (UInt8.lt_trans h h2)),if_pos h];rfl
  .rw[if_neg h]
   by_cases h2:y<x
   .rw[if_pos h2,if_pos h2,if_neg h]
   .rw[if_neg h2,if_neg h2,if_neg h];exact Tl a b
def ltB(a b:List UInt8):Prop:=DE a b = -1
instance (a b:List UInt8):Decidable (ltB a b):=inferInstanceAs (Decidable (DE a b = -1))
theorem GF(a:List UInt8):¬ltB a a:=fun h=>by rw[ltB,Lj]at h;cases h
theorem Ga:∀{a b c:List UInt8},ltB a b->ltB b c->ltB a c
 | [],[],_,h,_=>by cases h
 | [],_::_,[],_,h=>by cases h
 | [],_::_,_::_,_,_=>rfl
 |_::_,[],_,h,_=>by cases h
 |_::_,_::_,[],_,h=>by cases h
 |x::a,y::b,z::c,h1,h2=>by
  unfold ltB at h1 h2 |-;rw[FZ]at h1 h2 |-
  by_cases hxy:x<y
  .by_cases hyz:y<z
   .rw[if_pos (UInt8.lt_trans hxy hyz)]
   .rw[if_neg hyz]at h2
    by_cases hzy:z<y
    .rw[if_pos hzy]at h2;cases h2
    .have:y=z:=UInt8.le_antisymm (UInt8.not_lt.1 hzy) (UInt8.not_lt.1 hyz)
     subst this;rw[if_pos hxy]
  .rw[if_neg hxy]at h1
   by_cases hyx:y<x
   .rw[if_pos hyx]at h1;cases h1
   .rw[if_neg hyx]at h1
    have:x=y:=UInt8.le_antisymm (UInt8.not_lt.1 hyx) (UInt8.not_lt.1 hxy)
    subst this
    by_cases hyz:x<z
    .rw[if_pos hyz]
    .rw[if_neg hyz]at h2 |-
     by_cases hzy:z<x
     .rw[if_pos hzy]at h2;cases h2
     .rw[if_neg hzy]at h2 |-;exact Ga h1 h2
theorem Fs{a b:List UInt8}(h:ltB a b):¬ltB b a:=fun h2=>GF a (Ga h h2)
theorem Afk{a b:List UInt8}:DE a b=1↔ltB b a:=by
 unfold ltB;rw[Tl a b];omega
theorem Nh(a b:List UInt8):ltB a b\/a=b\/ltB b a:=by
 rcases JE a b with h|h|h
 .exact .inl h
 .exact .inr (.inl (Ng h))
 .exact .inr (.inr (Afk.1 h))
theorem GH{a b:List UInt8}(h:ltB a b):a≠b:=fun e=>GF b (e ▸ h)
theorem UK{a b:List UInt8}:DE a b<=0↔¬ltB b a:=by
 rw[<-Afk];rcases JE a b with h|h|h <;> omega
theorem JF{a b:List UInt8}:DE a b<0↔ltB a b:=by
 unfold ltB;rcases JE a b with h|h|h <;> omega
theorem Zt{a b:List UInt8}:0<=DE a b↔¬ltB a b:=by
 rw[<-JF];omega
theorem Afl{a b c:List UInt8}(h1:ltB a b)(h2:¬ltB c b):ltB a c:=by
 rcases Nh b c with h|h|h
 .exact Ga h1 h
 .exact h ▸ h1
 .exact absurd h h2
abbrev Pr:=List UInt8 × List UInt8
def Rising(L:List Pr):Prop:=L.Pairwise fun x y=>ltB x.1 y.1
def Hp(L:List Pr)(k v:List UInt8):List Pr:=L.filter (fun p=>decide (ltB p.1 k))++(k,v)::L.filter (fun p=>decide (ltB k p.1))
def IQ(L:List Pr)(k:List UInt8):List Pr:=L.filter fun p => !decide (p.1=k)
def DK(L:List Pr)(k:List UInt8):Option (List UInt8):=(L.find? fun p=>decide (p.1=k)).map (·.2)
theorem Ek{α:Type}{f:α->Bool}{l:List α}(h:∀x∈l,f x=true):l.filter f=l:=List.filter_eq_self.2 h
theorem Hf{α:Type}{f:α->Bool}{l:List α}(h:∀x∈l,f x=false):l.filter f=[]:=List.filter_eq_nil_iff.2 fun x hx=>by rw[h x hx];simp
theorem Afm{A L B:List Pr}{k v:List UInt8}(hA:∀p∈A,ltB p.1 k)(hB:∀p∈B,ltB k p.1):Hp (A++(L++B)) k v=A++(Hp L k v++B):=by
 have f1:B.filter (fun p=>decide (ltB p.1 k))=[]:=Hf fun p hp=>qai (Fs (hB p hp));have f2:A.filter (fun p=>decide (ltB k p.1))=[]:=Hf fun p hp=>qai (Fs (hA p hp));have f3:A.filter (fun p=>decide (ltB p.1 k))=A:=Ek fun p hp=>qam (hA p hp);have f4:B.filter (fun p=>decide (ltB k p.1))=B:=Ek fun p hp=>qam (hB p hp);unfold Hp;rw[qbo,qbo,qbo,qbo,f1,f2,f3,f4,qa2,qba,qa0,qa0,qb8]
theorem Afn{A L B:List Pr}{k:List UInt8}(hA:∀p∈A,ltB p.1 k)(hB:∀p∈B,ltB k p.1):IQ (A++(L++B)) k=A++(IQ L k++B):=by
 have f1:A.filter (fun p => !decide (p.1=k))=A:=Ek fun p hp=>by rw[qai (GH (hA p hp))];rfl
 have f2:B.filter (fun p => !decide (p.1=k))=B:=Ek fun p hp=>by rw[qai (fun e=>GH (hB p hp) e.symm)];rfl
 unfold IQ;rw[qbo,qbo,f1,f2]
theorem Afo{A L B:List Pr}{k:List UInt8}(hA:∀p∈A,ltB p.1 k)(hB:∀p∈B,ltB k p.1):DK (A++(L++B)) k=DK L k:=by
 have f1:A.find? (fun p=>decide (p.1=k))=none:=qd9.2 fun p hp=>by simpa using GH (hA p hp)
 have f2:B.find? (fun p=>decide (p.1=k))=none:=qd9.2 fun p hp=>by simpa using fun e=>GH (hB p hp) e.symm
 unfold DK;rw[qea,qea,f1,f2,Option.none_or,Option.or_none]
theorem VP{L:List Pr}{k v:List UInt8}{p:Pr}(h:p∈Hp L k v):p=(k,v)\/p∈L:=by
 unfold Hp at h
 rcases qau.1 h with h|h
 .exact .inr ((qbh.1 h).1)
 .rcases qab.1 h with h|h
  .exact .inl h
  .exact .inr ((qbh.1 h).1)
theorem VQ{L:List Pr}{k:List UInt8}{p:Pr}(h:p∈IQ L k):p∈L:=(qbh.1 h).1
theorem Gb{L:List Pr}(h:Rising L)(k v:List UInt8):Rising (Hp L k v):=by
 unfold Rising Hp;rw[qcb];refine⟨h.sublist qeq,?_,fun x hx y hy=>?_⟩
 .rw[qbj];exact⟨fun y hy=>by simpa using(qbh.1 hy).2,h.sublist qeq⟩
 .have h1:ltB x.1 k:=by simpa using(qbh.1 hx).2
  rcases qab.1 hy with rfl|hy
  .exact h1
  .exact Ga h1 (by simpa using(qbh.1 hy).2)
theorem Hg{L:List Pr}(h:Rising L)(k:List UInt8):Rising (IQ L k):=h.sublist qeq
theorem VR(L:List Pr)(k v:List UInt8)(_:Rising L):(Hp L k v).length<=L.length+1:=by
 unfold Hp
 have:∀L:List Pr,(L.filter fun p=>decide (ltB p.1 k)).length+(L.filter fun p=>decide (ltB k p.1)).length<=L.length:=by
  intro L
  induction L with
  |nil=>exact qaf _
  |cons p L ih =>
   have ih:=ih;rw[qbt,qbt,qaw]
   by_cases h1:ltB p.1 k
   .rw[qam h1,qai (Fs h1)];simp only[if_true,qdk,if_false,qaw];omega
   .rw[qai h1];simp only[qdk,if_false]
    split
    .rw[qaw];omega
    .omega
 rw[qan,qaw,<-qcs];exact Nat.succ_le_succ (this L)
theorem VS(L:List Pr)(k:List UInt8):(IQ L k).length<=L.length:=List.length_filter_le ..
theorem EG{L:List Pr}(h:Rising L){k v:List UInt8}:DK L k=some v↔(k,v)∈L:=by
 unfold DK
 induction L with
 |nil=>simp
 |cons p L ih =>
  have hp:=(qbj.1 h);rw[qc4]
  by_cases e:p.1=k
  .rw[qam e];simp only[qbd,qbc,qab];constructor
   .rintro rfl;exact .inl (by rw[<-e])
   .rintro(h1|h1)
    .rw[<-h1]
    .exact absurd (e:p.1=k) (GH (hp.1 _ h1))
  .rw[qai e];simp only[qab];rw[ih hp.2];exact⟨.inr,fun h1=>h1.elim (fun h1=>absurd (by rw[<-h1]) e) id⟩
theorem Tm{L:List Pr}{k:List UInt8}(h:DK L k=none):IQ L k=L:=by
 refine Ek fun p hp=>?_;unfold DK at h;rw[Option.map_eq_none_iff,qd9]at h
 simpa using h p hp
theorem Rising.append{A B:List Pr}:Rising (A++B)↔Rising A/\Rising B/\∀x∈A,∀y∈B,ltB x.1 y.1:=qcb
theorem Aa5(n k:Nat):Bo n (k+1)=Bo (n / 256) k++[UInt8.ofNat n]:=by
 unfold Bo;rw[List.range_succ,qaz]
 congr 1
 .refine qcw fun i hi=>?_;have hi':=qdo.1 hi;rw[Nat.div_div_eq_div_mul,show(256:Nat)=2 ^ 8 from rfl,<-Nat.pow_add]
  congr 3
  omega
 .simp
theorem EH(k:Nat):∀n,numN (Bo n k)=n % 256 ^ k:=by
 induction k with
 |zero=>intro n;simp[Bo,numN,Nat.mod_one]
 |succ k ih =>
  intro n;rw[Aa5,Tk,ih];have h1:(UInt8.ofNat n).toNat=n % 256:=by simp[UInt8.toNat_ofNat']
  rw[h1,qd6,qd3 (256 ^ k) 256,Nat.mod_mul];omega
theorem Yf(k:UInt8){l:List UInt8}(h:l.length<=505):HZ (DC k l)=true:=by
 have hl:=Fb (k:=k) h;have hh:=QB (k:=k) h;unfold HZ;rw[hl];have h1:(DC k l).take (512 - 4)=He k l:=by unfold DC;rw[show 512 - 4=508 from rfl];exact OW hh
 have h2:(DC k l).drop (512 - 4)=le4 (UD (He k l)).toNat:=by
  unfold DC;rw[qeb (by omega),qbx (by omega),qba]
 rw[h1,h2,Afj (UD (He k l)).isLt];simp
theorem Lk(k:UInt8)(l:List UInt8):FX (DC k l)=k:=rfl
theorem VT(k:UInt8){l:List UInt8}(h:l.length<=505):JV (DC k l)=l.length:=by
 unfold JV
 have h1:((DC k l).drop 1).take 2=Bo l.length 2:=by
  unfold DC He;rw[qb8,List.drop_one,List.tail_cons,qa0,qcn (Nat.le_of_eq (AP _ _).symm),qa5 (Nat.le_of_eq (AP _ _))]
 rw[h1,EH,qa7 (by omega)]
theorem Tn(k:UInt8){l:List UInt8}(h:l.length<=505):Ia (DC k l)=l++List.replicate (505 - l.length) 0:=by
 unfold Ia DC He
 have h1:(k::(Bo l.length 2++(l++List.replicate (505 - l.length) 0))++le4 (UD (k::(Bo l.length 2++(l++List.replicate (505 - l.length) 0)))).toNat) =
   (k::Bo l.length 2)++((l++List.replicate (505 - l.length) 0)++le4 (UD (k::(Bo l.length 2++(l++List.replicate (505 - l.length) 0)))).toNat):=by simp
 rw[h1,qeb (by simp[AP]),qbx (by simp[AP]),qba,qcn (by simp;omega),qa5 (by simp;omega)]
theorem Jf(k:UInt8){l:List UInt8}(h:l.length<=505):C8 (DC k l)=l:=by
 rw[C8,Tn k h,VT k h,qcn (qaf _),qa5 (qaf _)]
theorem Ll{k:UInt8}{l:List UInt8}(hk:k.toNat≠0)(h:l.length<=505):Ez (DC k l)=0:=by
 refine Zs ?_ ?_
 .rw[Fb h,Yf k h];rfl
 .unfold OX;rw[Lk,VT k h,Tn k h,qeb (qaf _),qbx (qaf _),qba,qai hk,qam h,(Afi _).2 (by simp)];rfl
structure It where
 key:List UInt8
 val:List UInt8
 page:Nat
def C1(inner:Bool)(x:It):Nat:=bif inner then 6+x.key.length else 4+x.key.length+x.val.length
def AY(inner:Bool)(l:List It):Nat:=(l.map (C1 inner)).sum
def EA(inner:Bool)(x:It):List UInt8:=bif inner then Bo x.page 4++(Bo x.key.length 2++x.key)else Bo x.key.length 2++x.key++(Bo x.val.length 2++x.val)
def Hh(inner:Bool)(l:List It):List UInt8:=Bo l.length 2++l.flatMap (EA inner)
def Hi(inner:Bool)(l:List It):UInt8:=if inner=true/\l≠[]then 3 else 2
theorem To(inner:Bool)(x:It):(EA inner x).length=C1 inner x:=by
 cases inner <;> simp[EA,C1,AP] <;> omega
theorem flat_len(inner:Bool)(l:List It):(l.flatMap (EA inner)).length=AY inner l:=by
 induction l with
 |nil=>rfl
 |cons x l ih=>rw[qb6,qan,To,ih];rfl
theorem Lm(inner:Bool)(l:List It):(Hh inner l).length=2+AY inner l:=by rw[Hh,qan,AP,flat_len]
theorem B2(inner:Bool)(a b:List It):AY inner (a++b)=AY inner a+AY inner b:=by simp[AY]
theorem CP(inner:Bool)(x:It)(b:List It):AY inner (x::b)=C1 inner x+AY inner b:=by simp[AY]
def tbO(b:List UInt8)(at':Nat):Option (List UInt8 × Nat) :=
 if CV b at' 2=0 then(if at'+2+numN ((b.drop at').take 2)<=b.length then some ((b.drop (at'+2)).take (numN ((b.drop at').take 2)),at'+2+numN ((b.drop at').take 2))else none)else none
def Mh(inner:Bool)(b:List UInt8)(at':Nat):Option (It × Nat) :=
 if inner=true then
  (if CV b at' 4=0 then(match tbO b (at'+4)with
   |some (k,n)=>some (⟨k,[],numN ((b.drop at').take 4)⟩,n)
   |none=>none)else none)
 else match tbO b at' with
  |some (k,n)=>(match tbO b n with
   |some (v,m)=>some (⟨k,v,0⟩,m)
   |none=>none)
  |none=>none
def EN(inner:Bool)(b:List UInt8):Nat->Nat->Option (List It × Nat)
 |0,at'=>some ([],at')
 |n+1,at'=>match Mh inner b at' with
  |none=>none
  |some (x,m)=>match EN inner b n m with
   |none=>none
   |some (l,e)=>some (x::l,e)
def VU(inner:Bool)(b:List UInt8):Option (List It × Nat)->Option (Bool × List It)
 |some r=>if r.2=b.length/\r.1≠[]then some (inner,r.1)else none
 |none=>none
def DZ(b:List UInt8):Option (Bool × List It) :=
 if Ez b=0/\CV (C8 b) 0 2=0/\((FX b).toNat=2\/(FX b).toNat=3)then
  VU (decide ((FX b).toNat=3)) (C8 b) (EN (decide ((FX b).toNat=3)) (C8 b) (numN ((C8 b).take 2)) 2)
 else none
theorem Zu{b:List UInt8}{at':Nat}{k:Nat}(hk:Hd k=true:=by decide):CV b (at':Int) (k:Int)=0↔at'+k<=b.length:=by
 unfold CV;rw[hk]
 by_cases h1:at'<=b.length
 .rw[qam (show(0:Int)<=(at':Int)by omega),qam (show(at':Int)<=(b.length:Int)by omega)]
  by_cases h2:at'+k<=b.length
  .rw[qam (show(k:Int)<=(b.length:Int) - (at':Int)by omega)];simp[h2]
  .rw[qai (show ¬(k:Int)<=(b.length:Int) - (at':Int)by omega)];simp[h2]
 .rw[qai (show ¬(at':Int)<=(b.length:Int)by omega)];simp;omega
theorem Zv{b:List UInt8}{at':Nat}:CV b (at':Int) 2=0↔at'+2<=b.length:=Zu (k:=2)
theorem Aii{b:List UInt8}{at':Nat}:CV b (at':Int) 4=0↔at'+4<=b.length:=Zu (k:=4)
theorem QD{α:Type}{a b:List α}{n:Nat}(h:a.length=n):(a++b).drop n=b:=by subst h;simp
theorem Ni{α:Type}{a b:List α}{n:Nat}(h:a.length=n):(a++b).take n=a:=by subst h;simp
theorem Nj{A s B:List UInt8}{at':Nat}(ha:A.length=at')(hs:s.length<65536):tbO (A++(Bo s.length 2++(s++B))) at'=some (s,at'+2+s.length):=by
 have e1:(A++(Bo s.length 2++(s++B))).drop at'=Bo s.length 2++(s++B):=QD ha;have e2:(Bo s.length 2++(s++B)).take 2=Bo s.length 2:=Ni (AP ..);have e3:numN (Bo s.length 2)=s.length:=by rw[EH];exact qa7 (by omega)
 have e4:(A++(Bo s.length 2++(s++B))).drop (at'+2)=s++B:=by
  rw[<-qa0];exact QD (by rw[qan,AP,ha])
 have e5:(A++(Bo s.length 2++(s++B))).length=at'+2+s.length+B.length:=by simp[AP,ha];omega
 unfold tbO;rw[if_pos (Zv.2 (by omega)),e1,e2,e3,if_pos (by omega),e4,Ni rfl]
def OkI(inner:Bool)(x:It):Prop:=x.key.length<65536/\x.val.length<65536/\x.page<4294967296/\(if inner=true then x.val=[]else x.page=0)
theorem Aa6{inner:Bool}{x:It}(hx:OkI inner x){A B:List UInt8}{at':Nat}(ha:A.length=at'):Mh inner (A++(EA inner x++B)) at'=some (x,at'+C1 inner x):=by
 obtain⟨hk,hv,hp,hc⟩:=hx;obtain⟨key,val,page⟩:=x
 cases inner with
 |true =>
  simp only[if_true]at hc;subst hc;have e0:A++(EA true ⟨key,[],page⟩++B)=A++(Bo page 4++(Bo key.length 2++(key++B))):=by simp[EA]
  have e1:(A++(Bo page 4++(Bo key.length 2++(key++B)))).drop at'=Bo page 4++(Bo key.length 2++(key++B)):=QD ha;have e2:(Bo page 4++(Bo key.length 2++(key++B))).take 4=Bo page 4:=Ni (AP ..);have e3:numN (Bo page 4)=page:=by rw[EH];exact qa7 (by omega)
  have e4:tbO (A++(Bo page 4++(Bo key.length 2++(key++B)))) (at'+4)=some (key,at'+4+2+key.length):=by
   rw[<-qa0];exact Nj (by rw[qan,AP,ha]) hk
  have e5:(A++(Bo page 4++(Bo key.length 2++(key++B)))).length=at'+6+key.length+B.length:=by simp[AP,ha];omega
  unfold Mh;rw[e0,if_pos rfl,if_pos (Aii.2 (by omega)),e4];simp only[e1,e2,e3,C1,cond_true];rw[show at'+4+2+key.length=at'+(6+key.length)by omega]
 |false =>
  simp only[qdk,if_false]at hc;subst hc;have e0:A++(EA false ⟨key,val,0⟩++B)=A++(Bo key.length 2++(key++(Bo val.length 2++(val++B)))):=by simp[EA]
  have e1:=Nj (s:=key) (B:=Bo val.length 2++(val++B)) ha hk
  have e2:tbO (A++(Bo key.length 2++(key++(Bo val.length 2++(val++B))))) (at'+2+key.length)=some (val,at'+2+key.length+2+val.length):=by
   rw[show A++(Bo key.length 2++(key++(Bo val.length 2++(val++B))))=(A++(Bo key.length 2++key))++(Bo val.length 2++(val++B))by simp];exact Nj (by simp[AP,ha];omega) hv
  unfold Mh;rw[e0,if_neg (by simp),e1];simp only[e2,C1,cond_false];rw[show at'+2+key.length+2+val.length=at'+(4+key.length+val.length)by omega]
theorem Nk{inner:Bool}:∀{l:List It} (_:∀x∈l,OkI inner x) {A:List UInt8} {at':Nat} (_:A.length=at'),EN inner (A++l.flatMap (EA inner)) l.length at'=some (l,at'+AY inner l)
 | [],_,A,at',_=>rfl
 |x::l,hl,A,at',ha=>by
  have h1:=Aa6 (hl x (qae ..)) (B:=l.flatMap (EA inner)) ha;have h2:=Nk (l:=l) (fun y hy=>hl y (qag _ hy)) (A:=A++EA inner x) (at':=at'+C1 inner x) (by rw[qan,To,ha]);rw[qa0]at h2;rw[qb6,qaw];unfold EN;rw[h1];simp only[h2,CP];rw[qcs]
theorem Yg{inner:Bool}{l:List It}(hl:∀x∈l,OkI inner x)(hne:l≠[])(ht:AY inner l<=503):DZ (DC (Hi inner l) (Hh inner l))=some (inner,l):=by
 have hbl:=Lm inner l;have hk:(Hi inner l).toNat=if inner=true then 3 else 2:=by unfold Hi;cases inner <;> simp[hne] <;> rfl
 have hk0:(Hi inner l).toNat≠0:=by rw[hk];split <;> omega
 have o1:=Ll (k:=Hi inner l) (l:=Hh inner l) hk0 (by omega);have o2:=Lk (Hi inner l) (Hh inner l);have hb:=Jf (Hi inner l) (l:=Hh inner l) (by omega)
 have hlen:l.length<=AY inner l:=by
  have:∀l:List It,l.length<=AY inner l:=by
   intro l
   induction l with
   |nil=>exact qaf _
   |cons x l ih =>
    have h1:1<=C1 inner x:=by
     cases inner
     .simp only[C1,cond_false];omega
     .simp only[C1,cond_true];omega
    rw[CP,qaw];omega
  exact this l
 have hd:decide ((Hi inner l).toNat=3)=inner:=by rw[hk];cases inner <;> rfl
 unfold DZ;rw[o2,hb];have ht2:(Hh inner l).take 2=Bo l.length 2:=Ni (AP ..);have hn:numN (Bo l.length 2)=l.length:=by rw[EH];exact qa7 (by omega)
 have hp:=Nk hl (A:=Bo l.length 2) (at':=2) (AP ..);rw[if_pos ⟨o1,(Zv (b:=Hh inner l) (at':=0)).2 (by omega),by rw[hk];split <;> simp⟩,ht2,hn,hd];rw[show Hh inner l=Bo l.length 2++l.flatMap (EA inner)from rfl,hp];show(if _ then _ else _)=_;rw[if_pos ⟨by rw[<-Lm];rfl,hne⟩]
attribute [local irreducible] A7 W Wq Wt
abbrev Byt:=List UInt8
structure Dev where
 B:List (Byt × List Byt)
 left:Int
 on:Bool
def stands(p:Byt × List Byt):Byt:=p.2.getLast?.getD p.1
def zeros:Byt:=List.replicate 512 0
def Dev.goes(A:Dev):Bool:=decide (A.left=0)
def Dev.less(A:Dev):Dev:=if A.left=0 then{ A with on:=false }else if A.left = -1 then A else{ A with left:=A.left - 1 }
def Afp(n:Int):Int:=bif decide (n<1) || decide (4096<n)then 1 else 0
def EB(n:Nat):Dev:=⟨List.replicate n (zeros,[]),-1,true⟩
def Dev.has(A:Dev)(k:Int):Bool:=decide (0<=k) && decide (k<A.B.length)
def Gc(A:Dev)(k:Int):Int:=bif A.on then(bif A.has k then 0 else 1)else 8
def Gd(A:Dev)(k:Int):Byt:=bif decide (Gc A k=0)then stands (A.B.getD k.toNat (zeros,[]))else[]
def De(A:Dev)(k:Int)(b:Byt):Int:=bif A.on then(bif A.has k && decide (b.length=512)then(bif A.goes then 8 else 0)else 1)else 8
def NY(A:Dev)(k:Nat)(b:Byt):Dev:={ A with B:=A.B.modify k fun p=>(p.1,p.2++[b]) }
def Cw(A:Dev)(k:Int)(b:Byt):Dev:=bif A.on && (A.has k && decide (b.length=512))then(bif A.goes then A.less else NY A.less k.toNat b)else A
def Df(A:Dev):Int:=bif A.on then(bif A.goes then 8 else 0)else 8
def Hv(A:Dev):Dev:={ A with B:=A.B.map fun p=>(stands p,[]) }
def Cc(A:Dev):Dev:=bif A.on then(bif A.goes then A.less else Hv A.less)else A
def armE(A:Dev):Int:=bif A.on then 0 else 8
def armD(A:Dev)(n:Int):Dev:=bif A.on then{ A with left:=max n (-1) }else A
def LC(A:Dev):Dev:={ A with on:=false }
def NZ(p:Byt × List Byt)(x:Nat):Byt:=if x=0 then p.1 else p.2.getD (x - 1) p.1
def LQ(p:Byt × List Byt)(picks:List Int):Nat:=match picks with | []=>0|x::_=>(max x 0).toNat % (p.2.length+1)
def DW:List (Byt × List Byt)->List Int->List (Byt × List Byt)
 | [],_=>[]
 |p::l,picks=>if p.2=[]then(p.1,[])::DW l picks else(NZ p (LQ p picks),[])::DW l picks.tail
def onE(A:Dev):Int:=bif A.on then 3 else 0
def onD(A:Dev)(picks:List Int):Dev:=bif A.on then A else⟨DW A.B picks,-1,true⟩
structure Wf(A:Dev):Prop where
 lo:1<=A.B.length
 hi:A.B.length<=4096
 left : -1<=A.left
 left2:A.left<=9223372036854775807
 sure:∀p∈A.B,p.1.length=512
 loose:∀p∈A.B,∀b∈p.2,b.length=512
def Few(A:Dev)(m:Nat):Prop:=∀p∈A.B,p.2.length<=m
theorem Nl{α:Type}{l:List α}{i:Nat}{d:α}(h:i<l.length:=by omega):l.getD i d∈l:=by
 rw[qa6,qbg h];exact List.getElem_mem h
theorem Kx{α:Type}{l:List α}{f:α->α}{i:Nat}{x:α}(h:x∈l.modify i f):x∈l\/∃y∈l,x=f y:=by
 induction l generalizing i with
 |nil=>simp at h
 |cons a l ih =>
  cases i with
  |zero =>
   rw[List.modify_zero_cons,qab]at h
   rcases h with rfl|h
   .exact .inr ⟨a,qae ..,rfl⟩
   .exact .inl (qag _ h)
  |succ i =>
   rw[qe2,qab]at h
   rcases h with rfl|h
   .exact .inl (qae ..)
   .rcases ih h with h|⟨y,hy,rfl⟩
    .exact .inl (qag _ h)
    .exact .inr ⟨y,qag _ hy,rfl⟩
theorem FJ(A:Dev):A.less.B=A.B:=by
 unfold Dev.less
 split
 .rfl
 .split <;> rfl
theorem UL{A:Dev}(h:Wf A):Wf A.less:=by
 have h1:=h.left;have h2:=h.left2;unfold Dev.less
 split
 .exact⟨h.lo,h.hi,h.left,h.left2,h.sure,h.loose⟩
 .split
  .exact h
  .exact⟨h.lo,h.hi,by dsimp only;omega,by dsimp only;omega,h.sure,h.loose⟩
theorem JG{A:Dev}(h:Wf A){p:Byt × List Byt}(hp:p∈A.B):(stands p).length=512:=by
 unfold stands
 cases hl:p.2.getLast? with
 |none=>exact h.sure p hp
 |some b=>exact h.loose p hp b (List.mem_of_getLast? hl)
theorem Aij{A:Dev}(h:Wf A){k:Nat}{b:Byt}(hb:b.length=512):Wf (NY A k b):=by
 refine⟨by simpa[NY]using h.lo,by simpa[NY]using h.hi,h.left,h.left2,fun p hp=>?_,fun p hp x hx=>?_⟩
 .rcases Kx hp with hp|⟨y,hy,rfl⟩
  .exact h.sure p hp
  .exact h.sure y hy
 .rcases Kx hp with hp|⟨y,hy,rfl⟩
  .exact h.loose p hp x hx
  .simp only[qau,qaa]at hx
   rcases hx with hx|rfl
   .exact h.loose y hy x hx
   .exact hb
theorem Afq{A:Dev}(h:Wf A):Wf (Hv A):=by
 refine⟨by simpa[Hv]using h.lo,by simpa[Hv]using h.hi,h.left,h.left2,fun p hp=>?_,fun p hp x hx=>?_⟩
 .obtain⟨y,hy,rfl⟩:=qah.1 hp;exact JG h hy
 .obtain⟨y,hy,rfl⟩:=qah.1 hp;simp at hx
theorem Afr{A:Dev}(h:Wf A){p:Byt × List Byt}(hp:p∈A.B)(x:Nat):(NZ p x).length=512:=by
 unfold NZ
 split
 .exact h.sure p hp
 .rw[qa6]
  cases hx:p.2[x - 1]? with
  |none=>exact h.sure p hp
  |some b=>exact h.loose p hp b (qad hx)
theorem Ge(l:List (Byt × List Byt))(picks:List Int):(DW l picks).length=l.length:=by
 induction l generalizing picks with
 |nil=>rfl
 |cons p l ih=>unfold DW;split <;> simp[ih]
theorem Oa{l:List (Byt × List Byt)}{picks:List Int}{q:Byt × List Byt}(h:q∈DW l picks):q.2=[]/\∃p∈l,∃x,q.1=NZ p x:=by
 induction l generalizing picks with
 |nil=>simp[DW]at h
 |cons p l ih =>
  unfold DW at h
  split at h
  .rw[qab]at h
   rcases h with rfl|h
   .exact⟨rfl,p,qae ..,0,rfl⟩
   .obtain⟨h1,y,hy,h2⟩:=ih h;exact⟨h1,y,qag _ hy,h2⟩
  .rw[qab]at h
   rcases h with rfl|h
   .exact⟨rfl,p,qae ..,_,rfl⟩
   .obtain⟨h1,y,hy,h2⟩:=ih h;exact⟨h1,y,qag _ hy,h2⟩
theorem Al3{n:Nat}(h1:1<=n:=by omega)(h2:n<=4096:=by omega):Wf (EB n):=by
 refine⟨by simpa[EB]using h1,by simpa[EB]using h2,by show(-1:Int) <= -1;omega,by show(-1:Int)<=_;omega,fun p hp=>?_,fun p hp x hx=>?_⟩
 .rw[(qec.1 hp).2];exact qa8
 .rw[(qec.1 hp).2]at hx;cases hx
theorem Al4{A:Dev}(h:Wf A):Wf (LC A):=⟨h.lo,h.hi,h.left,h.left2,h.sure,h.loose⟩
theorem on_wf{A:Dev}(h:Wf A)(picks:List Int):Wf (onD A picks):=by
 unfold onD;cases A.on
 .refine⟨by show 1<=(DW A.B picks).length;rw[Ge];exact h.lo,by show(DW A.B picks).length<=4096;rw[Ge];exact h.hi,by show(-1:Int) <= -1;omega,by show(-1:Int)<=_;omega,fun p hp=>?_,fun p hp x hx=>?_⟩
  .obtain⟨_,y,hy,x,hx⟩:=Oa hp;rw[hx];exact Afr h hy x
  .rw[(Oa hp).1]at hx;cases hx
 .exact h
theorem Few.mono{A:Dev}{m m':Nat}(h:Few A m)(hm:m<=m'):Few A m':=fun p hp=>qas (h p hp) hm
theorem Jg{A:Dev}{m:Nat}(h:Few A m):Few A.less m:=fun p hp=>h p (by rwa [FJ]at hp)
theorem GI{A:Dev}{m:Nat}(h:Few A m)(k:Int)(b:Byt):Few (Cw A k b) (m+1):=by
 unfold Cw;cases A.on && (A.has k && decide (b.length=512))
 .exact h.mono (by omega)
 .cases A.goes
  .intro p hp
   rcases Kx hp with hp|⟨y,hy,rfl⟩
   .have:=Jg h p hp;omega
   .have:=Jg h y hy;simp only[qan,qbu];omega
  .exact(Jg h).mono (by omega)
theorem HI{A:Dev}{m:Nat}(h:Few A m):Few (Cc A) m:=by
 unfold Cc;cases A.on
 .exact h
 .cases A.goes
  .intro p hp;obtain⟨y,_,rfl⟩:=qah.1 hp;exact qak _
  .exact Jg h
def All2{α β:Type}(R:α->β->Prop)(xs:List α)(ys:List β):Prop:=xs.length=ys.length/\∀(i:Nat) (x:α) (y:β),xs[i]?=some x->ys[i]?=some y->R x y
def BytesAt(w:World)(role:Nat->Nat)(v:Value)(s:Byt):Prop:=∃a c,v=.slice a 512 c/\Rd w a 1 B8 s/\s.length=512/\role (adr a).block=4/\512<=c
def SureAt(w:World)(role:Nat->Nat)(v:Value)(s:Byt):Prop:=(v=.slice none 0 0/\s=zeros)\/BytesAt w role v s
def LooseAt(w:World)(role:Nat->Nat)(k:Nat)(v:Value)(l:List Byt):Prop :=
 ∃a n c full vs,v=.slice a n c/\OS a n c 1 full vs/\(∀x∈ent a 24 full,w.heap[x.1]?=some x.2/\role x.1=5+k)/\All2 (BytesAt w role) vs l
def DB(n bs bm:Nat)(left:Int)(on:Bool):List Value:=[.slice (some ⟨bs,0,none⟩) n n,.map (some bm),.int .i64 left,.bool (!on)]
def TD:Nat:=72
def nilS:Value := .slice none 0 0
structure DevR(w:World)(bd:Nat)(A:Dev)(role:Nat->Nat)(bs bm:Nat)(sv:List Value)(m:List (Int × Value))(o:Obj):Prop where
 lt:∀x,role x≠0->x<w.heap.size
 rd:role bd=1
 rs:role bs=2
 rm:role bm=3
 hd:w.heap[bd]?=some (Bl TD (DB A.B.length bs bm A.left A.on))
 hs:w.heap[bs]?=some (Bl 24 sv)
 hm:w.heap[bm]?=some o
 hM:Jx .i64 m o
 nd:(m.map (·.1)).Nodup
 keys:∀k v,Et m k=some v->∃i:Nat,k=i/\i<A.B.length
 len:sv.length=A.B.length
 part:∀i p,A.B[i]?=some p->(∃v,sv[i]?=some v/\SureAt w role v p.1)/\LooseAt w role i ((Et m i).getD nilS) p.2/\((Et m i).isSome=true↔p.2≠[])
 wf:Wf A
def DevAt(w:World)(bd:Nat)(A:Dev)(F:Nat->Prop):Prop:=∃role bs bm sv m o,DevR w bd A role bs bm sv m o/\∀x,role x≠0->F x
def Turn(F:Nat->Prop)(w w':World):Prop:=∃S,(∀x∈S,F x)/\Ext S w w'
def grow(F:Nat->Prop)(w w':World):Nat->Prop:=fun x=>F x\/(w.heap.size<=x/\x<w'.heap.size)
theorem Turn.size{F:Nat->Prop}{w w':World}(h:Turn F w w'):w.heap.size<=w'.heap.size:=let ⟨_,_,h⟩:=h;h.size
theorem Turn.of{F:Nat->Prop}{w w':World}{S:List Nat}(h:Ext S w w')(hS:∀x∈S,F x):Turn F w w':=⟨S,hS,h⟩
theorem Turn.of0{F:Nat->Prop}{w w':World}(h:Ext [] w w'):Turn F w w':=⟨[],by simp,h⟩
theorem Turn.trans{F G:Nat->Prop}{a b c:World}(h:Turn F a b)(k:Turn G b c)(hG:∀x,G x->F x\/a.heap.size<=x):Turn F a c:=by
 obtain⟨S,hS,h⟩:=h;obtain⟨T,hT,k⟩:=k
 classical
 refine⟨S++T.filter (fun x=>decide (x<a.heap.size)),fun x hx=>?_,(h.mono (by intro x hx;simp[hx])).then k fun x hx=>?_⟩
 .rw[qau,qbh]at hx
  rcases hx with hx|⟨hx,hlt⟩
  .exact hS x hx
  .rcases hG x (hT x hx)with h|h
   .exact h
   .rw[qap]at hlt;omega
 .by_cases hlt:x<a.heap.size
  .exact .inl (qax _ (qbh.2 ⟨hx,qam hlt⟩))
  .exact .inr (by omega)
theorem BytesAt.keep{w w':World}{role role':Nat->Nat}{v:Value}{s:Byt}{S:List Nat}(h:BytesAt w role v s)(hx:Ext S w w')(hS:∀x∈S,role x≠4)(hr:∀x,role x=4->role' x=4):BytesAt w' role' v s:=by
 obtain⟨a,c,rfl,R,hl,h4,hc⟩:=h;exact⟨a,c,rfl,R.ext hx fun h=>hS _ h h4,hl,hr _ h4,hc⟩
theorem SureAt.keep{w w':World}{role role':Nat->Nat}{v:Value}{s:Byt}{S:List Nat}(h:SureAt w role v s)(hx:Ext S w w')(hS:∀x∈S,role x≠4)(hr:∀x,role x=4->role' x=4):SureAt w' role' v s :=
 h.elim .inl fun h => .inr (h.keep hx hS hr)
theorem LooseAt.keep{w w':World}{role role':Nat->Nat}{k:Nat}{v:Value}{l:List Byt}{S:List Nat}(h:LooseAt w role k v l)(hx:Ext S w w')(hS:∀x∈S,role x≠4/\role x≠5+k)(hr:∀x,role x=4->role' x=4)(hr5:∀x,role x=5+k->role' x=5+k):LooseAt w' role' k v l:=by
 obtain⟨a,n,c,full,vs,rfl,O,hb,h2,h3⟩:=h;refine⟨a,n,c,full,vs,rfl,O,fun x hx'=>?_,h2,fun i x y h4 h5=>(h3 i x y h4 h5).keep hx (fun x h=>(hS x h).1) hr⟩;obtain⟨h6,h7⟩:=hb x hx';exact⟨by rw[hx.block x.1 (Al h6) fun h=>(hS _ h).2 h7];exact h6,hr5 _ h7⟩
theorem DevAt.keep{w w':World}{bd:Nat}{A:Dev}{F:Nat->Prop}(h:DevAt w bd A F){S:List Nat}(hx:Ext S w w')(hS:∀x∈S,¬F x):DevAt w' bd A F:=by
 obtain⟨role,bs,bm,sv,m,o,D,hF⟩:=h;have hS':∀x∈S,role x=0:=fun x hx=>Classical.byContradiction fun h=>hS x hx (hF x h)
 have hb:∀{b:Nat} {o:Obj},w.heap[b]?=some o->role b≠0->w'.heap[b]?=some o:=fun{b o} h1 h2=>by
  rw[hx.block b (Al h1) fun h=>h2 (hS' b h)];exact h1
 refine⟨role,bs,bm,sv,m,o,⟨fun x h=>qat (D.lt x h) hx.size,D.rd,D.rs,D.rm,hb D.hd (by rw[D.rd];decide),hb D.hs (by rw[D.rs];decide),hb D.hm (by rw[D.rm];decide),D.hM,D.nd,D.keys,D.len,fun i p hp=>?_,D.wf⟩,hF⟩;obtain⟨⟨v,h1,h2⟩,h3,h4⟩:=D.part i p hp;exact⟨⟨v,h1,h2.keep hx (fun x h=>by rw[hS' x h];decide) fun _ h=>h⟩,h3.keep hx (fun x h=>by rw[hS' x h];omega) (fun _ h=>h) (fun _ h=>h),h4⟩
theorem DevAt.keep0{w w':World}{bd:Nat}{A:Dev}{F:Nat->Prop}(h:DevAt w bd A F)(hx:Ext [] w w'):DevAt w' bd A F:=h.keep hx (by simp)
theorem DevAt.mono{w:World}{bd:Nat}{A:Dev}{F G:Nat->Prop}(h:DevAt w bd A F)(hG:∀x,F x->G x):DevAt w bd A G :=
 let ⟨role,bs,bm,sv,m,o,D,hF⟩:=h;⟨role,bs,bm,sv,m,o,D,fun x hx=>hG x (hF x hx)⟩
theorem DevAt.wf{w:World}{bd:Nat}{A:Dev}{F:Nat->Prop}(h:DevAt w bd A F):Wf A:=let ⟨_,_,_,_,_,_,D,_⟩:=h;D.wf
@[simp] theorem DB_len (n bs bm:Nat) (left:Int) (on:Bool):(DB n bs bm left on).length=4:=rfl
def ptr(b:Nat):Value := .pointer (some ⟨b,0,none⟩)
theorem DevR.turn{w w':World}{bd:Nat}{A A':Dev}{role:Nat->Nat}{bs bm:Nat}{sv:List Value}{m:List (Int × Value)}{o:Obj}(D:DevR w bd A role bs bm sv m o)(hx:Ext [bd] w w')(hd:w'.heap[bd]?=some (Bl TD (DB A'.B.length bs bm A'.left A'.on)))(hB:A'.B=A.B)(wf:Wf A'):DevR w' bd A' role bs bm sv m o:=by
 have hb:∀{b:Nat} {o:Obj},w.heap[b]?=some o->role b≠1->w'.heap[b]?=some o:=fun{b o} h1 h2=>by
  rw[hx.block b (Al h1) fun h=>h2 (by rw[qaa.1 h];exact D.rd)];exact h1
 refine⟨fun x h=>qat (D.lt x h) hx.size,D.rd,D.rs,D.rm,hd,hb D.hs (by rw[D.rs];decide),hb D.hm (by rw[D.rm];decide),D.hM,D.nd,fun k v h=>by rw[hB];exact D.keys k v h,by rw[hB];exact D.len,fun i p hp=>?_,wf⟩;rw[hB]at hp;obtain⟨⟨v,h1,h2⟩,h3,h4⟩:=D.part i p hp;have hs:∀x∈[bd],role x=1:=fun x h=>by rw[qaa.1 h];exact D.rd
 exact⟨⟨v,h1,h2.keep hx (fun x h=>by rw[hs x h];decide) fun _ h=>h⟩,h3.keep hx (fun x h=>by rw[hs x h];omega) (fun _ h=>h) (fun _ h=>h),h4⟩
theorem UM{w:World}{bd n bs bm:Nat}{left:Int}{on:Bool}(h:w.heap[bd]?=some (Bl TD (DB n bs bm left on))) :
  Ret prog 59 #[ptr bd] w fun v w'=>v=.int .i64 (bif on then 0 else 8)/\w=w':=by
 obtain⟨w0,rfl⟩:=qD w;have H:=Ctx.start1 h;refine A6 (fn:=f59) func59 U [.pointer (some ⟨bd,0,none⟩)] U ?_;refine Ad (Ac U (qA (Ar (AD (Ad (An U (BN LO U ?_)))))));refine Am U (qA (Bw U (Ad (An U (Ay U (Af Lg U (AG Gx U H at0 U (Am U (qA ?_)))))))));refine Au _ U ?_ ?_
 .intro h1;refine Ad (Ac U (qA (Ax (AL (Ao (AH (v:=(.int _ _)) U U U ?_))))));exact⟨by cases on <;> simp_all,rfl⟩
 .intro h2;refine Aq (AF (Aa (Ad (Ac U (qA (Ax (AH (v:=(.int _ _)) U U U ?_)))))));exact⟨by cases on <;> simp_all,rfl⟩
theorem Zw{w:World}{bd n bs bm:Nat}{left:Int}{on:Bool}(k:Int)(h:w.heap[bd]?=some (Bl TD (DB n bs bm left on))) :
  Ret prog 105 #[ptr bd,.int .i64 k] w fun v w'=>v=.bool (decide (0<=k) && decide (k<n))/\w=w':=by
 obtain⟨w0,rfl⟩:=qD w;have H:=Ctx.start1 h;refine A6 (fn:=f105) func105 U [.pointer (some ⟨bd,0,none⟩),.int .i64 k] U ?_;refine Ad (Am U (qA (Ad (Ae U (HN U U (AC U (AX 7 U ?_ ?_)))))))
 .intro h1;replace h1:=AU h1;refine Ae U (An U (Ay U (Af MW U (AG Ta U H at0 U (AO Ew U (Bt U U (AQ U (.bool _) U (Am U (qA ?_)))))))));refine Ax (AH (v:=(.bool _)) U U U ?_);exact⟨qac Value.bool (by simp_all;try omega),rfl⟩
 .intro h2;replace h2:=AV h2;refine Ak U (Ak U (Ak U (Ak U (Ak U (Ak U (Ak U (AN U (.bool _) U (Am U (qA ?_)))))))));refine Ax (AH (v:=(.bool _)) U U U ?_);exact⟨qac Value.bool (by simp_all;try omega),rfl⟩
theorem Gr{w:World}{bd n bs bm:Nat}{left:Int}{on:Bool}(h:w.heap[bd]?=some (Bl TD (DB n bs bm left on))) :
  Ret prog 71 #[ptr bd] w fun v w'=>v=.int .i64 n/\w=w':=by
 obtain⟨w0,rfl⟩:=qD w;have H:=Ctx.start1 h;refine A6 (fn:=f71) func71 U [.pointer (some ⟨bd,0,none⟩)] U ?_;refine Ad (Ac U (qA (Ar (Ad (An U (BN LO U ?_))))));refine qA (Bw U (Aq (Aa (Ad (An U (Ay U (Af MW U (AG Ta U H at0 U (AO Ew U (Ac U ?_))))))))));refine qA (Ax (AH (v:=(.int _ _)) U U U ?_));exact⟨rfl,rfl⟩
theorem Tq{w:World}{bd n bs bm:Nat}{left:Int}{on:Bool}(h:w.heap[bd]?=some (Bl TD (DB n bs bm left on))) :
  Ret prog 28 #[ptr bd] w fun v w'=>v=.bool on/\w=w':=by
 obtain⟨w0,rfl⟩:=qD w;have H:=Ctx.start1 h;refine A6 (fn:=Tryz.f28) func28 U [.pointer (some ⟨bd,0,none⟩)] U ?_;refine Ad (Am U (qA (Ad (An U (SV U LO U ?_)))));refine AC U (An U (Ay U (Af Lg U (AG Gx U H at0 U (Cl U (AQ U (.bool _) U (Am U (qA (Ax (AH (v:=(.bool _)) U U U ?_))))))))));exact⟨qac Value.bool (Bool.not_not on),rfl⟩
theorem QE{w:World}{bd:Nat}{A:Dev}{role:Nat->Nat}{bs bm:Nat}{sv:List Value}{m:List (Int × Value)}{o:Obj}(D:DevR w bd A role bs bm sv m o) :
  Ret prog 95 #[ptr bd] w fun v w'=>v=.int .i64 (bif A.goes then 8 else 0)/\DevR w' bd A.less role bs bm sv m o/\Ext [bd] w w':=by
 obtain⟨w0,rfl⟩:=qD w;have H:=Ctx.start1 D.hd;have h1:=D.wf.left;have h2:=D.wf.left2;refine A6 (fn:=f95) func95 U [.pointer (some ⟨bd,0,none⟩)] U ?_;refine Ad (Ac U (qA (Ar (Ad (An U (Ay U (Af P6 U (AG DU U H at0 U (qA ?_)))))))));refine AD (Ad (B1 U U (Am U (qA (Au _ U ?_ ?_)))))
 .intro h3;replace h3:=AU h3;have hl:A.less=A:=by unfold Dev.less;rw[if_neg (by omega),if_pos (by omega)]
  refine Aq (AF (Aa (Ad (Ac U (qA (Ax (AH (v:=(.int _ _)) U U U ?_)))))));exact⟨by rw[Dev.goes,qai (by omega)];rfl,by rw[hl];exact D,H.ext⟩
 .intro h3;replace h3:=AV h3;refine Ad (B1 U U (Am U (qA (Au _ U ?_ ?_))))
  .intro h4;replace h4:=AU h4;have hl:A.less=⟨A.B,A.left,false⟩:=by unfold Dev.less;rw[if_pos (by omega)]
   refine Ad (An U (Ay U (Af Lg U (Bc (.bool _) Ae2 U U U H at0 (by(simp;done)) ?_))));rintro w H;refine qA (Ad (Ac U (qA (Ax (AL (Ao (AH (v:=(.int _ _)) U U U ?_)))))));exact⟨by rw[Dev.goes,qam (by omega)];rfl,D.turn H.ext (by rw[hl];exact H.get at0) (FJ A) (UL D.wf),H.ext⟩
  .intro h4;replace h4:=AV h4;have hl:A.less=⟨A.B,A.left - 1,A.on⟩:=by unfold Dev.less;rw[if_neg (by omega),if_neg (by omega)]
   refine Av (An U (Ay U (Af P6 U (AG DU U H at0 U (B4 U U ?_)))));refine Ay U (Af P6 U (Bc (.int _ _) GZ U U U H at0 (by(simp;done)) ?_));rintro w H;refine Ab (AF (Aa (Ad (Ac U (qA (Ax (AH (v:=(.int _ _)) U U U ?_)))))));exact⟨by rw[Dev.goes,qai (by omega)];rfl,D.turn H.ext (by rw[hl];exact H.get at0) (FJ A) (UL D.wf),H.ext⟩
theorem Aik{w:World}{bd:Nat}{A:Dev}{F:Nat->Prop}(DA:DevAt w bd A F) :
  Ret prog 17 #[ptr bd] w fun v w'=>v=.int .i64 (armE A)/\DevAt w' bd (LC A) F/\Turn F w w':=by
 obtain⟨w0,rfl⟩:=qD w;obtain⟨role,bs,bm,sv,m,o,D,hF⟩:=DA;have hFd:∀x∈[bd],F x:=fun x h=>hF x (by rw[qaa.1 h,D.rd];decide);have H:=Ctx.start1 D.hd;refine A6 (fn:=Tryz.f17) func17 U [.pointer (some ⟨bd,0,none⟩)] U ?_;refine Ad (Ac U (qA (Ad (An U (Ah qB (UM (H.get at0)) U ?_)))));rintro v w ⟨rfl,rfl⟩;refine Ac U (qA (Ar (Ad (Ae U (B1 U U (qA (Au _ U ?_ ?_)))))))
 .intro h1;replace h1:=AU h1;have ho:A.on=true:=by cases h:A.on <;> simp_all
  refine Av (An U (Ay U (Af Lg U (Bc (.bool _) Ae2 U U U H at0 (by(simp;done)) ?_))));rintro w H;refine qA (Ad (Ae U (Ac U (qA (Ax (AH (v:=(.int _ _)) U U U ?_))))));exact⟨by rw[armE,ho],⟨role,bs,bm,sv,m,o,D.turn H.ext (H.get at0) rfl (Al4 D.wf),hF⟩,.of H.ext hFd⟩
 .intro h1;replace h1:=AV h1;have ho:A.on=false:=by cases h:A.on <;> simp_all
  refine Aq (Aa (Ad (Ae U (Ac U (qA (Ax (AH (v:=(.int _ _)) U U U ?_)))))));have he:LC A=A:=by rw[LC,<-ho]
  exact⟨by rw[armE,ho],⟨role,bs,bm,sv,m,o,by rw[he];exact D,hF⟩,.of H.ext hFd⟩
theorem Ail(n:Int)(w:World) :
  Ret prog 9 #[.int .i64 n] w fun v w'=>Ext [] w w'/\((Afp n=1/\v=.tuple #[.pointer none,.int .i64 1]) \/
   (Afp n=0/\1<=n/\n<=4096/\∃bd,v=.tuple #[ptr bd,.int .i64 0]/\DevAt w' bd (EB n.toNat) fun x=>w.heap.size<=x/\x<w'.heap.size)):=by
 obtain⟨w0,rfl,H⟩:=qE w;refine A6 (fn:=Tryz.f9) func9 U [.int .i64 n] U ?_;refine Ad (B5 U (Ac U (qA (Ar (Ad (BB (α:=Unit) 1008 (fun _=>[(9,.bool (decide (n<1) || decide (4096<n)))]) (fun _ w'=>Ctx w0 [] w' []) U ?_ ?_))))))
 .refine Ae U (Bt U U (AC U (AX 6 U ?_ ?_)))
  .intro h1;replace h1:=AU h1;refine Ak U (Ak U (AQ U (.bool _) U (Ab ?_)));exact⟨rfl,(),rfl,⟨qac Value.bool (by rw[qar];simp_all;try omega),trivial⟩,H⟩
  .intro h2;replace h2:=AV h2;refine Ae U (Ci U U (AN U (.bool _) U (Ab ?_)));exact⟨rfl,(),rfl,⟨qac Value.bool (by rw[qar];simp_all;try omega),trivial⟩,H⟩
 rintro - j9 w H;refine Au _ U ?_ ?_
 .intro h1;refine Ad (B5 U (Ac U (qA (Ax (Ao (Ce (v1:=(.pointer _)) (v2:=(.int _ _)) U U U U ?_))))));exact⟨H.ext,.inl ⟨by rw[Afp,h1];rfl,rfl⟩⟩
 .intro h1;have h2:1<=n/\n<=4096:=by simp only[qdu,qc5]at h1;omega
  refine Aq (Aa (Ad (Ae U (MJ U Ew FA Adz Tg U U H ?_))));rintro b11 w - H;refine Qb .i64 U H ?_;rintro b12 o12 w hM H;refine B0 [.slice (some ⟨b11,0,none⟩) n.toNat n.toNat,.map (some b12),.int .i64 (-1),.bool false] pl_72 zc_72 ?_;refine Co _ (.agg _) U U H ?_;rintro b14 w - H;refine B5 U (Ac U (qA (Ax (Ce (v1:=(.pointer _)) (v2:=(.int _ _)) U U U U ?_))));have e1:b14≠b12:=H.ne at0 at1 (by decide);have e2:b14≠b11:=H.ne at0 at2 (by decide);have e3:b12≠b11:=H.ne at1 at2 (by decide);have own:∀{k b:Nat} {o:Obj},[(b14,_),(b12,o12),(b11,_)][k]?=some (b,o)->w0.heap.size<=b/\b<w.heap.size:=fun{k b o} hk=>⟨(H.own _ (qad hk)).elim (fun h=>by cases h) id,Al (H.get hk)⟩
  have hr:∀x,(if x=b14 then 1 else if x=b11 then 2 else if x=b12 then 3 else 0)≠0->w0.heap.size<=x/\x<w.heap.size:=by
   intro x hx
   by_cases h14:x=b14
   .rw[h14];exact own at0
   .by_cases h11:x=b11
    .rw[h11];exact own at2
    .by_cases h12:x=b12
     .rw[h12];exact own at1
     .rw[if_neg h14,if_neg h11,if_neg h12]at hx;exact absurd rfl hx
  have hln:(EB n.toNat).B.length=n.toNat:=qa8;refine⟨H.ext,.inr ⟨by rw[Afp,h1];rfl,h2.1,h2.2,b14,rfl,fun x=>if x=b14 then 1 else if x=b11 then 2 else if x=b12 then 3 else 0,b11,b12,List.replicate n.toNat nilS,[],o12,⟨fun x h=>(hr x h).2,if_pos rfl,?_,?_,?_,H.get at2,H.get at1,hM,qb9,fun k v h=>(by cases h),by rw[hln];exact qa8,fun i p hp=>?_,Al3⟩,hr⟩⟩
  .rw[if_neg (Ne.symm e2),if_pos rfl]
  .rw[if_neg (Ne.symm e1),if_neg e3,if_pos rfl]
  .rw[hln];exact H.get at0
  .obtain⟨hi,rfl⟩:=qaq.1 hp;have hi':i<n.toNat:=by rw[hln]at hi;exact hi
   have hpe:(EB n.toNat).B[i]=(zeros,[]):=List.getElem_replicate _;rw[hpe];refine⟨⟨nilS,by rw[qed,if_pos hi'],.inl ⟨rfl,rfl⟩⟩,⟨none,0,0,[],[],rfl,OS.nil,by simp[ent],rfl,fun j x y h=>by cases h⟩,by simp[Qa]⟩
theorem Ctx.startL{w:World}{L:List (Nat × Obj)}(h:∀x∈L,w.heap[x.1]?=some x.2)(nd:L.Pairwise fun x y=>x.1≠y.1):Ctx w (L.map (·.1)) w L :=
 ⟨.refl _ _,h,nd,fun x hx => .inl (qah.2 ⟨x,hx,rfl⟩)⟩
theorem Ts(s:Byt)(h:s.length=512):over (List.replicate 512 (Value.int .u8 0)) 0 ((s.map bv).take 512)=s.map bv:=by
 have h1:=V1 [] (List.replicate 512 (Value.int .u8 0)) [] (s.map bv) (by rw[qa8,qal,h]);simp only[qba,qa2,qbw]at h1;rw[qa5 (by rw[qal,h];exact qaf _)];exact h1
theorem Aim:over (List.replicate 512 (Value.int .u8 0)) 0 (([]:Byt).map bv |>.take 512)=zeros.map bv:=by
 rw[zeros,List.map_replicate];rfl
theorem Al5{ts s:Byt}(h:ts=s\/ts=[]/\s=zeros)(hl:s.length=512):over (List.replicate 512 (Value.int .u8 0)) 0 ((ts.map bv).take 512)=s.map bv:=by
 rcases h with rfl|⟨rfl,rfl⟩
 .exact Ts _ hl
 .exact Aim
theorem Ctx.fresh_bl{w0 w:World}{b t n:Nat}{l:List Value}(H:Ctx w0 [] w [(b,Bl t l)])(hl:l.length=n):Fresh w0 w t 1 (.slice (some ⟨b,0,none⟩) n n) l :=
 Ctx.fresh (L:=[]) H ⟨fun p hp=>(by cases hp;rfl),fun h=>(by cases h),by rw[hl,qch],qaf _,by rw[qch,<-hl];exact qbb⟩
theorem Zx{A:Dev}{k:Int}(h:A.has k=true):∃q:Nat,k=q/\q<A.B.length:=by
 simp only[Dev.has,qao,qap]at h;exact⟨k.toNat,by omega,by omega⟩
theorem Yh{w:World}{role:Nat->Nat}{v:Value}{s:Byt}(h:SureAt w role v s):∃a c t,v=.slice a (List.length t) c/\Rd w a 1 B8 t/\(t=s\/t=[]/\s=zeros):=by
 rcases h with⟨rfl,rfl⟩|⟨a,c,rfl,R,hl,_,_⟩
 .exact⟨none,0,[],rfl,Rd.nil,.inr ⟨rfl,rfl⟩⟩
 .exact⟨a,c,s,by rw[hl],R,.inl rfl⟩
theorem QF{w:World}{bd:Nat}{A:Dev}{F:Nat->Prop}(k:Int){mx:Nat}(hfew:Few A mx)(DA:DevAt w bd A F)(hmx:mx<=1000000000000:=by omega):
  Ret prog 72 #[ptr bd,.int .i64 k] w fun v w'=>∃s,v=.tuple #[s,.int .i64 (Gc A k)]/\Fresh w w' 5 1 s ((Gd A k).map bv):=by
 obtain⟨w0,rfl⟩:=qD w;obtain⟨role,bs,bm,sv,m,o,D,hF⟩:=DA;have H:=Ctx.start w0 [];refine A6 (fn:=f72) func72 U [.pointer (some ⟨bd,0,none⟩),.int .i64 k] U ?_;refine Ad (Aj U (Ac U (qA (Ar (Ad (An U (Ah qB (UM (Ctx.oldb H D.hd)) U ?_)))))));rintro v w ⟨rfl,rfl⟩;refine Ac U (qA (Ad (Ae U (AZ U U (qA (Au _ U ?_ ?_))))))
 .intro h1;replace h1:=Bu h1;have ho:A.on=false:=by cases h:A.on <;> simp_all
  have he:Gc A k=8:=by rw[Gc,ho];rfl
  refine Ad (Ae U (Aj U (Ac U (qA (Ax (Ao (Ce (v1:=(.slice _ _ _)) (v2:=(.int _ _)) U U U U ?_)))))));refine⟨_,by rw[he,ho];rfl,?_⟩;rw[Gd,he];exact Fresh.nil H _ _
 .intro h1;replace h1:=Bv h1;have ho:A.on=true:=by cases h:A.on <;> simp_all
  refine Aq (Aa (Ar (Ad (An U (Ae U (Ah qB (Zw k (Ctx.oldb H D.hd)) U ?_))))));rintro v w ⟨rfl,rfl⟩;rw[show(decide (0<=k) && decide (k<(A.B.length:Int)))=A.has k from rfl];refine Cl U (qA (Au _ U ?_ ?_))
  .intro h2;replace h2:=CJ h2;have he:Gc A k=1:=by rw[Gc,ho,h2];rfl
   refine Ad (Aj U (Ac U (qA (Ax (Ao (Ce (v1:=(.slice _ _ _)) (v2:=(.int _ _)) U U U U ?_))))));refine⟨_,by rw[he],?_⟩;rw[Gd,he];exact Fresh.nil H _ _
  .intro h2;replace h2:=CK h2;have he:Gc A k=0:=by rw[Gc,ho,h2];rfl
   obtain⟨q,rfl,hq⟩:=Zx h2;obtain⟨p,hp⟩:∃p,A.B[q]?=some p:=⟨_,qbg hq⟩;have hpm:=qad hp
   have hbe:Gd A q=stands p:=by
    rw[Gd,he,show((q:Int)).toNat=q from rfl,qa6,hp];rfl
   have hst:=JG D.wf hpm;obtain⟨⟨v0,hv0,hsure⟩,⟨al,nl,cl,fl,vs,hvl,O,hent,hvs⟩,_⟩:=D.part q p hp;have Rs:=Aky D.hs;have Rl:=OS.rdV O fun x hx=>(hent x hx).1;have hnl:nl=vs.length:=by have:=O.llen;omega
   have hll:=hfew p hpm;have hvn:=hvs.1;obtain⟨a0,c0,ts,rfl,R0,hts⟩:=Yh hsure;refine Aq (Aa (Ad (An U (Ay U (Af MW U (Bf Ta U (H.old0 (Ap D.hd _)) ?_))))));refine Ae U (BT Ew FA U U ?_);refine Bf BL U ((Rs.ext0 H.ext).one (f:=fun v=>v) hv0) (Aj U (qA (Ar (Ad (An U (Ay U (Af J9 U (Bf Qu U (H.old0 (Ap D.hd _)) ?_))))))));refine Ae U (Ql U Te EW Ae7 U U (Ctx.oldb H D.hm) D.hM ?_);rw[show((Et m (q:Int)).getD (.slice none 0 0))=.slice al nl cl from hvl];refine Aj U (qA (Ad (Ai U (AO Ew U (Ci U U (qA (Au _ U ?_ ?_)))))))
   .intro h3;replace h3:=AU h3;obtain⟨b,hb⟩:∃b,p.2[nl - 1]?=some b:=⟨_,qbg (by omega)⟩;obtain⟨vb,hvb⟩:∃v,vs[nl - 1]?=some v:=⟨_,qbg (by omega)⟩;obtain⟨ab,cb,rfl,Rb,hbl,_,_⟩:=hvs.2 _ _ _ hvb hb
    have hstb:stands p=b:=by
     rw[stands,List.getLast?_eq_getElem?,show p.2.length - 1=nl - 1 by omega,hb];rfl
    refine Av (Ai U (Ai U (AO Ew U (B4 U U ?_))));rw[show((nl:Int) - 1)=((nl - 1:Nat):Int)by omega];refine Bj Rl Ew FA U U (Bf BL U ((Rl.ext0 H.ext).one (f:=fun v=>v) hvb) ?_);refine Aj U (qA (Ad (MJ U AW CO Pu HY U U H ?_)));rintro b41 w - H;refine Aj U (qA (Ad (Ai U (Ai U (Pz (b.map bv) U AW CO U U (by simp[hbl]) (HQ _) (Rd.appB (Rb.ext0 H.ext)) (show Ctx w0 [] w [(b41,Bl 5 (List.replicate 512 (Value.int .u8 0)))]from H) at0 (by rw[qa8];exact qaf _) ?_)))));rintro w H;replace H:Ctx w0 [] w [(b41,Bl 5 (over (List.replicate 512 (Value.int .u8 0)) 0 ((b.map bv).take 512)))]:=H;rw[Ts b hbl]at H;refine qA (Ad (Ai U (Aj U (Ac U (qA (Ax (Ce (v1:=(.slice _ _ _)) (v2:=(.int _ _)) U U U U ?_)))))))
    refine⟨_,by rw[he],?_⟩;rw[hbe,hstb];exact Ctx.fresh_bl H (by rw[qal,hbl];rfl)
   .intro h3;replace h3:=AV h3
    have hstb:stands p=p.1:=by
     have:p.2=[]:=qa9 (by omega)
     rw[stands,this];rfl
    refine Aq (Aa (Ad (MJ U AW CO Pu HY U U H ?_)));rintro b41 w - H;refine Aj U (qA (Ad (Ai U (Ai U (Pz (ts.map bv) U AW CO U U (by simp) (HQ _) (Rd.appB (R0.ext0 H.ext)) (show Ctx w0 [] w [(b41,Bl 5 (List.replicate 512 (Value.int .u8 0)))]from H) at0 (by rw[qa8];exact qaf _) ?_)))));rintro w H;replace H:Ctx w0 [] w [(b41,Bl 5 (over (List.replicate 512 (Value.int .u8 0)) 0 ((ts.map bv).take 512)))]:=H;rw[Al5 hts (by rw[<-hstb];exact hst)]at H;refine qA (Ad (Ai U (Aj U (Ac U (qA (Ax (Ce (v1:=(.slice _ _ _)) (v2:=(.int _ _)) U U U U ?_)))))));refine⟨_,by rw[he],?_⟩;rw[hbe,hstb];exact Ctx.fresh_bl H (by rw[qal,<-hstb,hst];rfl)
theorem All2.snoc{α β:Type}{R:α->β->Prop}{xs:List α}{ys:List β}{x:α}{y:β}(h:All2 R xs ys)(hxy:R x y):All2 R (xs++[x]) (ys++[y]):=by
 refine⟨by rw[qan,qan,h.1];rfl,fun i a b ha hb=>?_⟩
 by_cases hi:i<xs.length
 .rw[qdh hi]at ha;rw[qdh (by rw[<-h.1];exact hi)]at hb;exact h.2 i a b ha hb
 .have h2:=XD ha;rw[qan,qbu]at h2;have hi':i=xs.length:=by omega
  subst hi';rw[qc2 (qaf _),qc6]at ha;rw[qc2 (by rw[h.1];exact qaf _),h.1,qc6]at hb;cases ha;cases hb;exact hxy
theorem All2.imp{α β:Type}{R R':α->β->Prop}{xs:List α}{ys:List β}(h:All2 R xs ys)(hi:∀x y,R x y->R' x y):All2 R' xs ys:=⟨h.1,fun i x y hx hy=>hi x y (h.2 i x y hx hy)⟩
theorem Yi{α:Type}{m:List (Int × α)}{k:Int}{v:α}(h:(m.map (·.1)).Nodup):((IY m k v).map (·.1)).Nodup:=by
 induction m with
 |nil=>simp[IY]
 |cons p m ih =>
  unfold IY;rw[qay,qci]at h
  by_cases hp:p.1=k
  .rw[if_pos hp,qay,qci];exact⟨by rw[<-hp];exact h.1,h.2⟩
  .rw[if_neg hp,qay,qci];refine⟨fun hm=>?_,ih h.2⟩
   rcases(Aan m k v p.1).1 hm with h1|h1
   .exact hp h1
   .exact h.1 h1
theorem DevR.write{wS w15:World}{bd:Nat}{A:Dev}{role:Nat->Nat}{bs bm:Nat}{sv:List Value}{m:List (Int × Value)}{o o':Obj}(D:DevR wS bd A role bs bm sv m o){k:Nat}(hk:k<A.B.length){arrs:List Nat}(ha:∀x∈arrs,role x=5+k)(hx:Ext (bm::arrs) wS w15)(hm15:w15.heap[bm]?=some o'){b9 n9 c9:Nat}{full9 vs:List Value}(hM:Jx .i64 (IY m k (.slice (some ⟨b9,0,none⟩) n9 c9)) o'){a39:Option Addr}{c39:Nat}{l:Byt}(O:OS (some ⟨b9,0,none⟩) n9 c9 1 full9 (vs++[.slice a39 512 c39]))(h9:w15.heap[b9]?=some (Bl 24 full9))(h9n:b9∈arrs\/wS.heap.size<=b9){p:Byt × List Byt}(hp:A.B[k]?=some p)(hvs:All2 (BytesAt wS role) vs p.2)(R39:Rd w15 a39 1 B8 l)(hl:l.length=512)(hc:512<=c39)(h39:wS.heap.size<=(adr a39).block)(h39':(adr a39).block≠b9)(h39lt:(adr a39).block<w15.heap.size)(wf:Wf (NY A k l)):∃role',DevR w15 bd (NY A k l) role' bs bm sv (IY m k (.slice (some ⟨b9,0,none⟩) n9 c9)) o'/\∀x,role' x≠0->role x≠0\/(wS.heap.size<=x/\x<w15.heap.size):=by
 obtain⟨role',hrole⟩:∃f:Nat->Nat,∀x,f x=if x=b9 then 5+k else if x=(adr a39).block then 4 else role x:=⟨_,fun _=>rfl⟩;have hr9:role' b9=5+k:=by rw[hrole,if_pos rfl]
 have hr39:role' (adr a39).block=4:=by rw[hrole,if_neg h39',if_pos rfl]
 have hold:∀x,role x≠0->role' x=role x:=fun x h0=>by
  have hlt:=D.lt x h0;rw[hrole]
  by_cases h:x=b9
  .rw[if_pos h]
   rcases h9n with h1|h1
   .rw[h,ha _ h1]
   .omega
  .rw[if_neg h,if_neg (by omega)]
 have hnew:∀x,role' x≠0->role x≠0\/(wS.heap.size<=x/\x<w15.heap.size):=fun x h0=>by
  rw[hrole]at h0
  by_cases h:x=b9
  .rcases h9n with h1|h1
   .exact .inl (by rw[h,ha _ h1];omega)
   .exact .inr (by rw[h];exact⟨h1,Al h9⟩)
  .rw[if_neg h]at h0
   by_cases h2:x=(adr a39).block
   .exact .inr (by rw[h2];exact⟨h39,h39lt⟩)
   .rw[if_neg h2]at h0;exact .inl h0
 have hS:∀x∈bm::arrs,role x=3\/role x=5+k:=fun x h=>by
  rcases qab.1 h with h|h
  .exact .inl (by rw[h];exact D.rm)
  .exact .inr (ha x h)
 have hb:∀{b:Nat} {o:Obj},wS.heap[b]?=some o->role b=1\/role b=2->w15.heap[b]?=some o:=fun{b o} h1 h2=>by
  rw[hx.block b (Al h1) fun h=>?_]
  .exact h1
  .rcases hS b h with h3|h3 <;> omega
 have k4:∀x,role x=4->role' x=4:=fun x h=>by rw[hold x (by omega),h]
 refine⟨role',⟨fun x h=>?_,by rw[hold _ (by rw[D.rd];decide),D.rd],by rw[hold _ (by rw[D.rs];decide),D.rs],by rw[hold _ (by rw[D.rm];decide),D.rm],?_,hb D.hs (.inr D.rs),hm15,hM,Yi D.nd,fun k' v h=>?_,?_,fun i q hq=>?_,wf⟩,hnew⟩
 .rcases hnew x h with h|h
  .exact qat (D.lt x h) hx.size
  .exact h.2
 .rw[show(NY A k l).B.length=A.B.length from qee ..];exact hb D.hd (.inl D.rd)
 .rw[show(NY A k l).B.length=A.B.length from qee ..];rw[NQ]at h
  by_cases hkk:k'=(k:Int)
  .exact⟨k,hkk,hk⟩
  .rw[if_neg hkk]at h;exact D.keys k' v h
 .rw[show(NY A k l).B.length=A.B.length from qee ..];exact D.len
 .have hq':(A.B.modify k fun p=>(p.1,p.2++[l]))[i]?=some q:=hq;rw[qcl]at hq';rw[NQ]
  by_cases hik:k=i
  .subst hik;rw[hp]at hq';simp only[if_pos,Option.map_eq_map,qbd,qbc]at hq';subst hq';obtain⟨⟨v,h1,h2⟩,_,_⟩:=D.part k p hp;refine⟨⟨v,h1,h2.keep hx (fun x h=>by rcases hS x h with h3|h3 <;> omega) k4⟩,?_,by simp⟩;rw[if_pos rfl,qdp];refine⟨_,_,_,full9,_,rfl,O,fun x hx'=>?_,All2.snoc (hvs.imp fun v s h=>h.keep hx (fun x h=>by rcases hS x h with h3|h3 <;> omega) k4) ⟨a39,c39,rfl,R39,hl,hr39,hc⟩⟩;rw[KZ rfl,qaa]at hx';subst hx';exact⟨h9,hr9⟩
  .simp only[if_neg hik]at hq';have hq2:A.B[i]?=some q:=by simpa using hq'
   rw[if_neg (show ¬((i:Int)=(k:Int))by omega)];obtain⟨⟨v,h1,h2⟩,h3,h4⟩:=D.part i q hq2;exact⟨⟨v,h1,h2.keep hx (fun x h=>by rcases hS x h with h3|h3 <;> omega) k4⟩,h3.keep hx (fun x h=>by rcases hS x h with h3|h3 <;> omega) k4 (fun x h=>by rw[hold x (by omega),h]),h4⟩
theorem Fresh.new512{w w':World}{t:Nat}{s:Value}{xs:Byt}(h:Fresh w w' t 1 s (xs.map bv))(hl:xs.length=512):∃a c,s=.slice a 512 c/\Rd w' a 1 B8 xs/\512<=c/\w.heap.size<=(adr a).block/\(adr a).block<w'.heap.size:=by
 obtain⟨a,n,c,full,rfl,O,hb⟩:=h.ex;have hn:n=512:=by rw[<-hl];exact OS.num O
 subst hn;obtain⟨b,rfl⟩:=O.form (by decide);have h1:=hb (b,Bl t full) (by rw[KZ rfl];exact qaa.2 rfl);exact⟨_,c,rfl,O.rd1 (t:=t) fun x hx=>(hb x hx).1,O.le,h1.2,Al h1.1⟩
theorem Ob{w:World}{bd:Nat}{A:Dev}{F:Nat->Prop}(k:Int)(a:Option Addr)(c n:Nat)(l:Byt)(R:Rd w a 1 B8 l)(hn:l.length=n)(hFa:l=[]\/¬F (adr a).block){mx:Nat}(hfew:Few A mx)(DA:DevAt w bd A F)(hm:n<=140737488351232:=by decide)(hmx:mx<=1000000000000:=by omega):
  Ret prog 83 #[ptr bd,.int .i64 k,.slice a n c] w fun v w'=>v=.int .i64 (De A k l)/\DevAt w' bd (Cw A k l) (grow F w w')/\Turn F w w':=by
 subst hn;obtain⟨w0,rfl⟩:=qD w;obtain⟨role,bs,bm,sv,m,o,D,hF⟩:=DA;have hFr:∀x,role x≠0->F x:=hF;refine A6 (fn:=f83) func83 U [.pointer (some ⟨bd,0,none⟩),.int .i64 k,.slice a l.length c] U ?_;refine Ad (Ac U (qA (Ar (Ad (An U (Ah qB (UM D.hd) U ?_))))));rintro v w ⟨rfl,rfl⟩;refine Ac U (qA (Ad (Ae U (AZ U U (qA (Au _ U ?_ ?_))))))
 .intro h1;replace h1:=Bu h1;have ho:A.on=false:=by cases h:A.on <;> simp_all
  have he:De A k l=8:=by rw[De,ho];rfl
  have hd:Cw A k l=A:=by rw[Cw,ho];rfl
  refine Ad (Ae U (Ac U (qA (Ax (Ao (AH (v:=(.int _ _)) U U U ?_))))));exact⟨by rw[he,ho];rfl,by rw[hd];exact⟨role,bs,bm,sv,m,o,D,fun x h => .inl (hF x h)⟩,.of0 (.refl _ _)⟩
 .intro h1;replace h1:=Bv h1;have ho:A.on=true:=by cases h:A.on <;> simp_all
  refine Aq (Aa (Ar (Ad (BB (α:=Unit) 8372224 (fun _=>[(22,.bool (!(A.has k && decide (l.length=512))))]) (fun _ w'=>w0=w') U ?_ ?_))))
  .refine An U (Ae U (Ah qB (Zw k D.hd) U ?_));rintro v w ⟨rfl,rfl⟩;rw[show(decide (0<=k) && decide (k<(A.B.length:Int)))=A.has k from rfl];refine Cl U (AC U (AX 18 U ?_ ?_))
   .intro h1;replace h1:=CJ h1;refine Ak U (Ak U (Ak U (AQ U (.bool _) U (Ab ?_))));exact⟨rfl,(),rfl,⟨qac Value.bool (by rw[qar];simp_all;try omega),trivial⟩,rfl⟩
   .intro h2;replace h2:=CK h2;refine Ai U (AO AW U (AZ U U (AN U (.bool _) U (Ab ?_))));exact⟨rfl,(),rfl,⟨qac Value.bool (by rw[qar];simp_all;try omega),trivial⟩,rfl⟩
  rintro - j22 w rfl;refine Au _ U ?_ ?_
  .intro h2;replace h2:=CJ h2;have he:De A k l=1:=by rw[De,ho,h2];rfl
   have hd:Cw A k l=A:=by rw[Cw,h2,qd7];rfl
   refine Ad (Ac U (qA (Ax (Ao (AH (v:=(.int _ _)) U U U ?_)))));exact⟨by rw[he],by rw[hd];exact⟨role,bs,bm,sv,m,o,D,fun x h => .inl (hF x h)⟩,.of0 (.refl _ _)⟩
  .intro h2;replace h2:=CK h2;refine Aq (Aa (Ad (An U (Ah qB (QE D) U ?_))));rintro v w ⟨rfl,D1,hx1⟩;refine Ac U (qA (Ar (Ad (Ae U (B1 U U (qA (Au _ U ?_ ?_)))))))
   .intro h3;replace h3:=AU h3;have hg:A.goes=false:=by cases h:A.goes <;> simp_all
    have he:De A k l=0:=by rw[De,ho,h2,hg];rfl
    have hd:Cw A k l=NY A.less k.toNat l:=by rw[Cw,ho,h2,hg];rfl
    obtain⟨wS,rfl⟩:=qD w;rw[qao,qap]at h2;obtain⟨h2,hl⟩:=h2;obtain⟨q,rfl,hq⟩:=Zx h2;have hq1:q<A.less.B.length:=by rw[FJ];exact hq
    obtain⟨p,hp⟩:∃p,A.less.B[q]?=some p:=⟨_,qbg hq1⟩;obtain⟨_,⟨al,nl,cl,fl,vs,hvl,O,hent,hvs⟩,_⟩:=D1.part q p hp;have hnl:nl=vs.length:=by have:=O.llen;omega
    have hll:=Jg hfew p (qad hp);have hvn:=hvs.1;obtain⟨arrs,harrs⟩:=qD ((ent al 24 fl).map (·.1))
    have har:∀x∈arrs,role x=5+q:=fun x h=>by
     rw[harrs]at h;obtain⟨y,hy,rfl⟩:=qah.1 h;exact(hent y hy).2
    have HT:∀x,Ext arrs wS x->Ctx wS (bd::bm::arrs) x [(bd,Bl TD (DB A.less.B.length bs bm A.less.left A.less.on)),(bm,o)]:=fun x hx=>by
     have e1:∀{b:Nat} {o:Obj},wS.heap[b]?=some o->role b=1\/role b=3->x.heap[b]?=some o:=fun{b o} h1 h2=>by
      rw[hx.block b (Al h1) fun h=>by have:=har b h;omega];exact h1
     refine⟨hx.mono (fun y h=>by simp[h]),fun y hy=>?_,?_,fun y hy => .inl ?_⟩
     .simp only[qab,qaj,or_false]at hy
      rcases hy with rfl|rfl
      .exact e1 D1.hd (.inl D1.rd)
      .exact e1 D1.hm (.inr D1.rm)
     .have:bd≠bm:=fun h=>by have h1:=D1.rd;have h2:=D1.rm;rw[h]at h1;omega
      simp[this]
     .simp only[qab,qaj,or_false]at hy
      rcases hy with rfl|rfl <;> simp
    have Rw:Rd wS a 1 B8 l:=by
     rcases hFa with rfl|hFa
     .exact Rd.nil
     .refine R.ext hx1 fun h=>hFa ?_;rw[qaa.1 h];exact hFr _ (by rw[D.rd];decide)
    have hM:=D1.hM;refine Ke [([0,1,2,3,4,5,6,7,8,9,10,11],12),([],13),([],14),([],15)] (fun x=>Ext arrs wS x) [15] mixed (Ext.drew _ wS) (AB U U ?_);refine CE U (Bn U (AE J9 U (SO U Qu U HT at0 U (BM U (CE U (Bn U (AE J9 U (SO U Qu U HT at0 U (BM U ?_)))))))));refine Adq U Te EW Ae7 U U HT at1 D1.hM ?_;rw[show((Et m (q:Int)).getD (.slice none 0 0))=.slice al nl cl from hvl];refine Cg U (Bm ?_)
    skip
    refine Ah qB (Je a c l.length l _ (Rw.ext0 (Ext.drew [] wS)) U (hm:=hm)) U ?_;rintro v w ⟨F39,-⟩;obtain⟨a39,c39,rfl,R39,hc39,hn39,hlt39⟩:=Fresh.new512 F39 hl;have hxC0:=(Ext.drew [] wS).trans F39.ext;have hxC:Ext arrs wS w:=hxC0.mono (by simp);obtain⟨wC,rfl⟩:=qD w;have H:Ctx wC arrs wC (ent al 24 fl):=by rw[harrs];exact Ctx.startL (fun x hx=>by rw[hxC0.block x.1 (Al (hent x hx).1) (by simp)];exact(hent x hx).1) Ki
    refine Ab (Bb (hxC) (AB U U ?_));refine Bm (BP _ (.slice _ _ _) Ew FA Tg U U U U H ?_);rintro b40 w - H;refine Ab (Bb (hxC.trans H.ext) (AB U U ?_));refine Bm (Cf (L:=[]) Ew Ew FA Adz Tg U U U H O U (by simp[Bg]) ?_);rintro a9 c9 full9 w H9 O9;obtain⟨b9,rfl⟩:=O9.form (by omega);have hx14:Ext arrs wS w:=hxC.trans H9.ext;have hbm:w.heap[bm]?=some o:=by rw[hx14.block bm (Al D1.hm) fun h=>by have:=har bm h;have:=D1.rm;omega];exact D1.hm
    obtain⟨w14,rfl⟩:=qD w;replace H:=Ctx.start1 hbm;refine Ab (Bb (hx14) (AB U U ?_));refine Bm (U3 (.slice _ _ _) U Te EW U U U H at0 hM ?_);rintro o w hM H;refine Ab (CR U (B3 (Aa (Ad (Ae U (Ac U (qA (Ax (AH (v:=(.int _ _)) U U U ?_)))))))));have hsz9:b9∈arrs\/wC.heap.size<=b9:=H9.own (b9,Bl _ full9) (by rw[KZ rfl];exact qaa.2 rfl);have hb9w:w14.heap[b9]?=some (Bl 24 full9):=H9.blk (b9,Bl _ full9) (by rw[KZ rfl];exact qaa.2 rfl);have hsC:=hxC.size;have hs14:=H9.ext.size;have hs15:=H.ext.size;have hbm3:=D1.rm;have hbmlt:=D1.lt bm (by omega);have harlt:∀x∈arrs,x<wS.heap.size:=fun x h=>D1.lt x (by rw[har x h];omega)
    have hne9:b9≠bm:=fun h=>by
     rcases hsz9 with h1|h1
     .have:=har b9 h1;rw[h]at this;omega
     .omega
    have hne39:(adr a39).block≠b9:=fun h=>by
     rcases hsz9 with h1|h1
     .have:=harlt b9 h1;have h5:wS.heap.size<=(adr a39).block:=hn39;omega
     .omega
    have hn39':wS.heap.size<=(adr a39).block:=hn39;have hxE:Ext (bm::arrs) wS w:=(hx14.mono fun x h=>qag _ h).trans (H.ext.mono fun x h=>by rw[qaa.1 h];exact qae ..);have R15:Rd w a39 1 B8 l:=(R39.ext H9.ext fun h=>by have:=harlt _ h;omega).ext H.ext fun h=>by rw[qaa]at h;omega
    obtain⟨role',D',hnew⟩:=D1.write hq1 har hxE (H.get at0) hM O9 (by rw[H.ext.block b9 (Al hb9w) (by simpa using hne9)];exact hb9w) (hsz9.imp id fun h=>qas hsC h) hp hvs R15 hl hc39 hn39' hne39 (by omega) (Aij (UL D.wf) hl);refine⟨by rw[he,hg];rfl,?_,?_⟩
    .rw[hd];refine⟨role',bs,bm,sv,_,_,D',fun x h=>?_⟩
     rcases hnew x h with h|h
     .exact .inl (hF x h)
     .exact .inr ⟨qas hx1.size h.1,h.2⟩
    .refine .of (S:=bd::bm::arrs) ((hx1.mono (by simp)).trans (hxE.mono fun x h=>qag _ h)) fun x h=>hF x ?_
     rcases qab.1 h with rfl|h
     .rw[D.rd];decide
     .rcases qab.1 h with rfl|h
      .rw[D.rm];decide
      .rw[har x h];omega
   .intro h3;replace h3:=AV h3;have hg:A.goes=true:=by cases h:A.goes <;> simp_all
    have he:De A k l=8:=by rw[De,ho,h2,hg];rfl
    have hd:Cw A k l=A.less:=by rw[Cw,ho,h2,hg];rfl
    refine Aq (Aa (Ad (Ae U (Ac U (qA (Ax (AH (v:=(.int _ _)) U U U ?_)))))));refine⟨by rw[he,hg];rfl,by rw[hd];exact⟨role,bs,bm,sv,m,o,D1,fun x h => .inl (hF x h)⟩,.of hx1 fun x h=>hF x (by rw[qaa.1 h,D.rd];decide)⟩
end Go.Proofs.YtcpgbcabmcbclaaGreatDoor
namespace Go.Proofs
open Go.RowKit Go.Maps Go.Sort Go.Shelf
def Tryz.keysA_ren : Go.Shelf.Ren := ⟨fun | 7 => 98 | 10 => 134 | n => n, fun | 23 => 70 | 26 => 3 | 3 => 69 | 28 => 150 | 0 => 0 | 27 => 149 | 33 => 157 | 4 => 4 | n => n, fun | n => n⟩
theorem Tryz.keysA : Go.Proofs.SlLaysZI.n7 Tryz.prog Tryz.keysA_ren := {
  mixed := by kernel_rfl
  f7 := ⟨Tryz.f98.name, by decide, Tryz.func98.trans (congrArg some (by kernel_rfl))⟩
  f10 := ⟨Tryz.f134.name, by decide, Tryz.func134.trans (congrArg some (by kernel_rfl))⟩
  t0 := Tryz.underlying0
  a0 := Tryz.isAgg0
  z0 := Tryz.sizeOf0
  v0 := Tryz.zeroValue0
  t4 := Tryz.underlying4
  a4 := Tryz.isAgg4
  z4 := Tryz.sizeOf4
  v4 := Tryz.zeroValue4
  t23 := Tryz.underlying70
  a23 := Tryz.isAgg70
  z23 := Tryz.sizeOf70
  v23 := Tryz.zeroValue70
  t26 := Tryz.underlying3
  a26 := Tryz.isAgg3
  z26 := Tryz.sizeOf3
  v26 := Tryz.zeroValue3
  t27 := Tryz.underlying149
  a27 := Tryz.isAgg149
  z27 := Tryz.sizeOf149
  v27 := Tryz.zeroValue149
  t28 := Tryz.underlying150
  a28 := Tryz.isAgg150
  z28 := Tryz.sizeOf150
  v28 := Tryz.zeroValue150
  t33 := Tryz.underlying157
  a33 := Tryz.isAgg157
  z33 := Tryz.sizeOf157
  v33 := Tryz.zeroValue157 }
def Tryz.sortedA_ren : Go.Shelf.Ren := ⟨fun | 6 => 97 | 8 => 133 | 9 => 125 | 11 => 159 | 13 => 137 | 12 => 153 | 23 => 169 | 24 => 170 | 14 => 183 | 15 => 184 | 16 => 185 | 17 => 186 | 18 => 187 | 19 => 188 | 20 => 189 | 21 => 190 | 22 => 191 | 25 => 204 | 26 => 193 | 27 => 194 | 28 => 205 | 29 => 206 | 30 => 207 | 31 => 212 | n => n, fun | 26 => 3 | 28 => 150 | 24 => 40 | 0 => 0 | 3 => 3 | 37 => 54 | 48 => 164 | 50 => 74 | 4 => 4 | 40 => 218 | 39 => 217 | 45 => 135 | 5 => 5 | 9 => 9 | 51 => 248 | 55 => 252 | 57 => 265 | 58 => 266 | 33 => 157 | n => n, fun | n => n⟩
theorem Tryz.sortedA : Go.Proofs.SlLaysZI.n6 Tryz.prog Tryz.sortedA_ren := {
  mixed := by kernel_rfl
  f6 := ⟨Tryz.f97.name, by decide, Tryz.func97.trans (congrArg some (by kernel_rfl))⟩
  f8 := ⟨Tryz.f133.name, by decide, Tryz.func133.trans (congrArg some (by kernel_rfl))⟩
  f11 := ⟨Tryz.f159.name, by decide, Tryz.func159.trans (congrArg some (by kernel_rfl))⟩
  t0 := Tryz.underlying0
  a0 := Tryz.isAgg0
  z0 := Tryz.sizeOf0
  v0 := Tryz.zeroValue0
  t24 := Tryz.underlying40
  a24 := Tryz.isAgg40
  z24 := Tryz.sizeOf40
  v24 := Tryz.zeroValue40
  t26 := Tryz.underlying3
  a26 := Tryz.isAgg3
  z26 := Tryz.sizeOf3
  v26 := Tryz.zeroValue3
  t28 := Tryz.underlying150
  a28 := Tryz.isAgg150
  z28 := Tryz.sizeOf150
  v28 := Tryz.zeroValue150
  i26 := by kernel_rfl }
def Tryz.sortA_ren : Go.Shelf.Ren := ⟨fun | 5 => 125 | 8 => 137 | 7 => 153 | 19 => 169 | 20 => 170 | 10 => 183 | 11 => 184 | 12 => 185 | 13 => 186 | 14 => 187 | 15 => 188 | 16 => 189 | 17 => 190 | 18 => 191 | 30 => 204 | 31 => 193 | 32 => 194 | 33 => 205 | 34 => 206 | 35 => 207 | 40 => 212 | n => n, fun | 23 => 40 | 25 => 3 | 3 => 3 | 32 => 54 | 22 => 40 | 0 => 0 | 44 => 164 | 46 => 74 | 4 => 4 | 36 => 218 | 35 => 217 | 41 => 135 | 5 => 5 | 9 => 9 | 53 => 248 | 57 => 252 | 63 => 265 | 64 => 266 | n => n, fun | n => n⟩
theorem Tryz.sortA : Go.Proofs.SlLaysM.n5 Tryz.prog Tryz.sortA_ren := {
  mixed := by kernel_rfl
  f5 := ⟨Tryz.f125.name, by decide, Tryz.func125.trans (congrArg some (by kernel_rfl))⟩
  f7 := ⟨Tryz.f153.name, by decide, Tryz.func153.trans (congrArg some (by kernel_rfl))⟩
  f8 := Tryz.func137.trans (congrArg some (by kernel_rfl))
  f10 := ⟨Tryz.f183.name, by decide, Tryz.func183.trans (congrArg some (by kernel_rfl))⟩
  f11 := ⟨Tryz.f184.name, by decide, Tryz.func184.trans (congrArg some (by kernel_rfl))⟩
  f12 := ⟨Tryz.f185.name, by decide, Tryz.func185.trans (congrArg some (by kernel_rfl))⟩
  f13 := ⟨Tryz.f186.name, by decide, Tryz.func186.trans (congrArg some (by kernel_rfl))⟩
  f14 := ⟨Tryz.f187.name, by decide, Tryz.func187.trans (congrArg some (by kernel_rfl))⟩
  f15 := ⟨Tryz.f188.name, by decide, Tryz.func188.trans (congrArg some (by kernel_rfl))⟩
  f16 := ⟨Tryz.f189.name, by decide, Tryz.func189.trans (congrArg some (by kernel_rfl))⟩
  f17 := ⟨Tryz.f190.name, by decide, Tryz.func190.trans (congrArg some (by kernel_rfl))⟩
  f18 := ⟨Tryz.f191.name, by decide, Tryz.func191.trans (congrArg some (by kernel_rfl))⟩
  f19 := Tryz.func169.trans (congrArg some (by kernel_rfl))
  f20 := Tryz.func170.trans (congrArg some (by kernel_rfl))
  f30 := ⟨Tryz.f204.name, by decide, Tryz.func204.trans (congrArg some (by kernel_rfl))⟩
  f31 := Tryz.func193.trans (congrArg some (by kernel_rfl))
  f32 := Tryz.func194.trans (congrArg some (by kernel_rfl))
  f33 := ⟨Tryz.f205.name, by decide, Tryz.func205.trans (congrArg some (by kernel_rfl))⟩
  f34 := ⟨Tryz.f206.name, by decide, Tryz.func206.trans (congrArg some (by kernel_rfl))⟩
  f35 := ⟨Tryz.f207.name, by decide, Tryz.func207.trans (congrArg some (by kernel_rfl))⟩
  f40 := ⟨Tryz.f212.name, by decide, Tryz.func212.trans (congrArg some (by kernel_rfl))⟩
  t0 := Tryz.underlying0
  a0 := Tryz.isAgg0
  z0 := Tryz.sizeOf0
  v0 := Tryz.zeroValue0
  t3 := Tryz.underlying3
  a3 := Tryz.isAgg3
  z3 := Tryz.sizeOf3
  v3 := Tryz.zeroValue3
  t4 := Tryz.underlying4
  a4 := Tryz.isAgg4
  z4 := Tryz.sizeOf4
  v4 := Tryz.zeroValue4
  t5 := Tryz.underlying5
  a5 := Tryz.isAgg5
  z5 := Tryz.sizeOf5
  v5 := Tryz.zeroValue5
  t9 := Tryz.underlying9
  a9 := Tryz.isAgg9
  z9 := Tryz.sizeOf9
  v9 := Tryz.zeroValue9
  t22 := Tryz.underlying40
  a22 := Tryz.isAgg40
  z22 := Tryz.sizeOf40
  v22 := Tryz.zeroValue40
  t23 := Tryz.underlying40
  a23 := Tryz.isAgg40
  z23 := Tryz.sizeOf40
  v23 := Tryz.zeroValue40
  t25 := Tryz.underlying3
  a25 := Tryz.isAgg3
  z25 := Tryz.sizeOf3
  v25 := Tryz.zeroValue3
  t32 := Tryz.underlying54
  a32 := Tryz.isAgg54
  z32 := Tryz.sizeOf54
  v32 := Tryz.zeroValue54
  t35 := Tryz.underlying217
  a35 := Tryz.isAgg217
  z35 := Tryz.sizeOf217
  v35 := Tryz.zeroValue217
  t36 := Tryz.underlying218
  a36 := Tryz.isAgg218
  z36 := Tryz.sizeOf218
  v36 := Tryz.zeroValue218
  t41 := Tryz.underlying135
  a41 := Tryz.isAgg135
  z41 := Tryz.sizeOf135
  v41 := Tryz.zeroValue135
  t44 := Tryz.underlying164
  a44 := Tryz.isAgg164
  z44 := Tryz.sizeOf164
  v44 := Tryz.zeroValue164
  t46 := Tryz.underlying74
  a46 := Tryz.isAgg74
  z46 := Tryz.sizeOf74
  v46 := Tryz.zeroValue74
  t53 := Tryz.underlying248
  a53 := Tryz.isAgg248
  z53 := Tryz.sizeOf248
  v53 := Tryz.zeroValue248
  t57 := Tryz.underlying252
  a57 := Tryz.isAgg252
  z57 := Tryz.sizeOf252
  v57 := Tryz.zeroValue252
  t63 := Tryz.underlying265
  a63 := Tryz.isAgg265
  z63 := Tryz.sizeOf265
  v63 := Tryz.zeroValue265
  t64 := Tryz.underlying266
  a64 := Tryz.isAgg266
  z64 := Tryz.sizeOf266
  v64 := Tryz.zeroValue266 }

theorem Tryz.sortsA (m : Nat) : AnyZI.SortsIn Tryz.prog Tryz.sortedA_ren Fence.wide m :=
  ⟨fun blk off cap ss W hH hblk hsz => callsIn_wide.2 (AnyM.slices_Sort_int Tryz.sortA blk off cap ss W hH hblk hsz),
   fun p cap W => callsIn_wide.2 (AnyM.slices_Sort_int_none Tryz.sortA p cap W)⟩
end Go.Proofs
namespace Go.Proofs.YtcpgbcabmcbclaaGreatDoor
open Go.GV Go.Proofs.Tryz Go.Maps Go.Sort Go.Shelf Go.RowKit
attribute [local irreducible] A7 W Wq Wt
def CT(m:List (Int × Value)):List Int:=(m.map (·.1)).mergeSort fun x y=>decide (x<=y)
theorem Afs(mb:Option Nat)(w:World):Ret prog 98 #[.map mb] w fun v w'=>v=.func (.func 134) #[] #[.pointer (some ⟨w.heap.size,0,none⟩)]/\w'=w.alloc (Bl 70 [.map mb]):=by
 have h:=AnyZI.keys_in keysA Fence.wide 5 trivial rfl mb w;exact CallsIn.mono (callsIn_wide.2 (callsIn_wide.1 h)) fun e w' ⟨h1,h2⟩=>⟨_,h1,rfl,h2⟩
theorem Yj{w:World}{bx bm:Nat}{m:List (Int × Value)}{o:Obj}(hx:w.heap[bx]?=some (Bl 70 [.map (some bm)]))(hb:w.heap[bm]?=some o)(hM:Jx .i64 m o)(nd:(m.map (·.1)).Nodup)(hsz:m.length<=4096)(hr:∀p∈m,-9223372036854775808<=p.1/\p.1<=9223372036854775807) :
  Ret prog 97 #[.func (.func 134) #[] #[.pointer (some ⟨bx,0,none⟩)]] w fun v w'=>∃a c,v=.slice a (CT m).length c/\Rd w' a 1 (fun x:Int=>[.int .i64 x]) (CT m)/\(CT m).length<=c/\(CT m=[]\/w.heap.size<=(adr a).block)/\Ext [] w w':=by
 obtain⟨D0,hown,hperm,hsize⟩:=XK (P:=prog) EW hb hM nd (qas hsz (by decide)) hr
 have hseq:SeqGives Fence.wide 2 prog 134 #[.pointer (some ⟨bx,0,none⟩)] encZ (fun ss=>ss.Perm (intKeys D0)) (Maps.size D0) w :=
  AnyZI.keys_gives (ρ:=keysA_ren) { keysA with } Fence.wide _ trivial rfl (by omega) bx bm m.length D0 w (Al hx) (by rw[Ap hx];rfl) hown
 have cS:=AnyZI.sorted_in sortedA Fence.wide 5 trivial trivial trivial trivial rfl (by omega) (sortsA _) (enters_of func125 (by kernel_rfl) rfl) 134 #[.pointer (some ⟨bx,0,none⟩)] trivial (enters_of func134 (by kernel_rfl) rfl) _ (Maps.size D0) (by rw[hsize];exact qas hsz (by decide)) (by rw[hsize];omega) _ hseq;refine CallsIn.mono (callsIn_wide.2 (callsIn_wide.1 cS)) ?_;rintro e w' ⟨v,ss,rfl,hS,hrow,_,hbel⟩;have he:ss.mergeSort (fun x y=>decide (x<=y))=CT m:=mergeSort_of_perm_i (hS.trans hperm);rw[he]at hrow;obtain⟨a,c,rfl,R,hc,hnew⟩:=XL (by rw[<-he,qco]) hrow;exact⟨_,rfl,a,c,rfl,R,hc,hnew,J3 hbel⟩
theorem Fc{m:List (Int × Value)}{k:Int}(h:k∈CT m):∃v,Et m k=some v:=by
 have h1:k∈m.map (·.1):=((qcc _ _).mem_iff).1 h;clear h
 induction m with
 |nil=>cases h1
 |cons p m ih =>
  by_cases hp:p.1=k
  .exact⟨p.2,by simp[Et,hp]⟩
  .have h2:k∈m.map (·.1):=by
    rcases qab.1 h1 with h|h
    .exact absurd h.symm hp
    .exact h
   obtain⟨v,hv⟩:=ih h2;exact⟨v,by simpa[Et,hp]using hv⟩
theorem Mi(m:List (Int × Value)):(CT m).length=m.length:=by rw[CT,qco,qal]
theorem QG{w:World}{l bx bd bs bm n:Nat}{left:Int}{on:Bool}{m:List (Int × Value)}{o:Obj}(hx:w.heap[bx]?=some (Bl 27 [ptr bd]))(hd:w.heap[bd]?=some (Bl TD (DB n bs bm left on)))(hb:w.heap[bm]?=some o)(hM:Jx .i64 m o)(nd:(m.map (·.1)).Nodup)(hsz:m.length<=4096)(hr:∀p∈m,-9223372036854775808<=p.1/\p.1<=9223372036854775807)(J:World->Nat->World->Prop)(hJ0:∀wK,Ext [] w wK->J wK 0 wK)(hJ:∀wK i w',Ext [] w wK->J wK i w'->w'.heap[bx]?=some (Bl 27 [ptr bd])/\(∃bs' left' on',w'.heap[bd]?=some (Bl TD (DB n bs' bm left' on')))/\w'.heap[bm]?=some o/\∃S,Ext S wK w'/\∀x∈S,x<w.heap.size)(hround:∀wK i k v w',Ext [] w wK->(CT m)[i]?=some k->Et m k=some v->J wK i w'->Go.GV.YieldAt prog l [.int .i64 k,v] w' fun u w''=>u=.bool true/\J wK (i+1) w'') :
  Ret prog 96 #[.func (.yield l) #[] #[],ptr bx] w fun _ w'=>∃wK,Ext [] w wK/\J wK m.length w':=by
 obtain⟨w0,rfl,H⟩:=qE w;have hkl:=Mi m;refine A6 (fn:=f96) func96 U [.func (.yield l) #[] #[],.pointer (some ⟨bx,0,none⟩)] U ?_;refine Ad (Bf CY U (H.old0 (Ap hx _)) ?_);refine Ay U (Af J9 U (Bf Qu U (H.old0 (Ap hd _)) ?_));refine Ah qB (Afs (some bm) _) U ?_;rintro v w ⟨rfl,rfl⟩;replace H:=H.alloc (Bl 70 [.map (some bm)]);refine Ah qB (Yj (H.get at0) (Ctx.oldb H hb) hM nd hsz hr) U ?_;rintro v w ⟨a,c,rfl,R,hc,hnew,hx10⟩;replace H:=H.call hx10;refine AO Fv U (Ae U (qA (AD ?_)));obtain⟨wK,rfl⟩:=qD w;refine BF 134213648 (α:=Nat) (fun i=>[(12,.int .i64 i)]) (fun i w'=>i<=(CT m).length/\J wK i w') (fun i=>(CT m).length - i) 0 U ?_ ?_ ?_
 .exact⟨rfl,trivial⟩
 .exact⟨qak _,hJ0 wK H.ext⟩
 .rintro i j w ⟨hi,hJw⟩;obtain⟨hx',⟨bs',left',on',hd'⟩,hb',S,hS,hSlt⟩:=hJ wK i w H.ext hJw
  have Rw:Rd w a 1 (fun x:Int=>[.int .i64 x]) (CT m):=by
   rcases hnew with h0|h0
   .rw[h0];exact Rd.nil
   .refine R.ext hS fun h=>?_;have:=hSlt _ h;rw[World.size_alloc]at h0;omega
  refine Ad (Bt U U (qA (Ar (Au _ U ?_ ?_))))
  .intro h1;replace h1:=AU h1;obtain⟨k,hk⟩:=AR (l:=CT m) (i:=i);obtain⟨v,hv⟩:=Fc (qad hk);refine Aq (Aa (Ar (AD (Ad (Bj Rw Fv GZ U U (hn:=by rfl) ?_)))));refine Bf DU U (Rw.one (f:=fun x => .int .i64 x) hk) (Ac U (qA (Ad (DI U (.func _ _ _) U ?_))));refine Ae U (Bf CY U (Ap hx' _) ?_);refine Ay U (Af J9 U (Bf Qu U (Ap hd' _) ?_));refine Ae U (Ql U Te EW Ae7 U U hb' hM ?_);rw[show(Et m k).getD (.slice none 0 0)=v from by rw[hv];rfl];refine Qm U U (hround wK i k v w H.ext hk hv hJw) U ?_;rintro _ w ⟨rfl,hJ2⟩;refine Cl U (qA (Bw U (Aq (AF (Aa (Av (AA U U ?_)))))));refine Ae U (qA ?_);exact⟨i+1,rfl,⟨rfl,trivial⟩,⟨by omega,hJ2⟩,by omega⟩
  .intro h1;replace h1:=AV h1;have hin:i=m.length:=by omega
   subst hin;refine B9 (A8 (A8 (Bd (Hw U U ?_))));exact⟨wK,H.ext,hJw⟩
open Go.GV Go.Proofs.Tryz
theorem Tt(bd:Nat)(w:World):Ret prog 60 #[ptr bd] w fun v w'=>∃bx,v=.func (.func 96) #[] #[ptr bx]/\w'.heap[bx]?=some (Bl 27 [ptr bd])/\w.heap.size<=bx/\Ext [] w w':=by
 obtain⟨w0,rfl,H⟩:=qE w;refine A6 (fn:=f60) func60 U [.pointer (some ⟨bd,0,none⟩)] U ?_;refine Ad (Co _ (.pointer _) U U H ?_);rintro b1 w - H;refine DR U .nilFunc U (qA (Ad (Cz [.pointer _] U (DR U (.func _ _ _) U ?_))));refine qA (Ax (AH (v:=(.func _ _ _)) U U U ?_));exact⟨b1,rfl,H.get at0,(H.own _ (qae ..)).elim (fun h=>by cases h) id,H.ext⟩
def laid(f:Nat->Value)(sv:List Value)(ks:List Int):List Value:=ks.foldl (fun s k=>s.set k.toNat (f k.toNat)) sv
theorem Nm(f:Nat->Value)(sv:List Value)(ks:List Int):(laid f sv ks).length=sv.length:=by
 unfold laid
 induction ks generalizing sv with
 |nil=>rfl
 |cons k ks ih=>rw[qdi,ih,qcf]
theorem Oc(f:Nat->Value)(sv:List Value)(ks:List Int)(k:Int):laid f sv (ks++[k])=(laid f sv ks).set k.toNat (f k.toNat):=by
 unfold laid;rw[qdm];rfl
theorem QH(f:Nat->Value)(sv:List Value)(ks:List Int)(hk:∀k∈ks,0<=k){i:Nat}(hi:i<sv.length):(laid f sv ks)[i]?=if(i:Int)∈ks then some (f i)else sv[i]? := by
 unfold laid
 induction ks generalizing sv with
 |nil=>simp
 |cons k ks ih =>
  rw[qdi,ih (sv:=sv.set k.toNat (f k.toNat)) (fun x h=>hk x (qag _ h)) (by rw[qcf];exact hi)];have h0:=hk k (qae ..)
  by_cases h1:(i:Int)∈ks
  .rw[if_pos h1,if_pos (qag _ h1)]
  .rw[if_neg h1]
   by_cases h2:k=(i:Int)
   .subst h2;rw[if_pos (qae ..),show((i:Int)).toNat=i from rfl,qer hi]
   .rw[if_neg (by simp[h1,Ne.symm h2]),qes (by omega)]
theorem DevR.last{w:World}{bd:Nat}{A:Dev}{role:Nat->Nat}{bs bm:Nat}{sv:List Value}{m:List (Int × Value)}{o:Obj}(D:DevR w bd A role bs bm sv m o) :
  ∃f:Nat->Value,∀i p,A.B[i]?=some p->p.2≠[]->BytesAt w role (f i) (stands p)/\∃al n c fl vs,Et m (i:Int)=some (.slice al n c)/\OS al n c 1 fl vs/\n=p.2.length/\(∀x∈ent al 24 fl,w.heap[x.1]?=some x.2/\role x.1=5+i)/\vs[n - 1]?=some (f i):=by
 have h:∀i:Nat,∃v,∀p,A.B[i]?=some p->p.2≠[]->BytesAt w role v (stands p)/\∃al n c fl vs,Et m (i:Int)=some (.slice al n c)/\OS al n c 1 fl vs/\n=p.2.length/\(∀x∈ent al 24 fl,w.heap[x.1]?=some x.2/\role x.1=5+i)/\vs[n - 1]?=some v:=fun i=>by
  by_cases hp:∃p,A.B[i]?=some p/\p.2≠[]
  .obtain⟨p,hp,hne⟩:=hp;obtain⟨_,⟨al,n,c,fl,vs,hv,O,hent,hvs⟩,hiff⟩:=D.part i p hp;have hn:n=vs.length:=by have:=O.llen;omega
   have hpos:0<p.2.length:=qbv.2 hne;have hvl:=hvs.1;obtain⟨b,hb⟩:=AR (l:=p.2) (i:=n - 1);obtain⟨v,hvv⟩:=AR (l:=vs) (i:=n - 1)
   have hst:stands p=b:=by
    rw[stands,List.getLast?_eq_getElem?,show p.2.length - 1=n - 1 by omega,hb];rfl
   refine⟨v,fun p' hp' _=>?_⟩;rw[hp]at hp';cases hp';refine⟨by rw[hst];exact hvs.2 _ _ _ hvv hb,al,n,c,fl,vs,?_,O,by omega,hent,hvv⟩;obtain⟨u,hu⟩:=qdc.1 (hiff.2 hne);rw[hu]at hv |-;rw[<-hv];rfl
  .exact⟨.nilFunc,fun p h1 h2=>absurd ⟨p,h1,h2⟩ hp⟩
 exact⟨fun i=>Classical.choose (h i),fun i=>Classical.choose_spec (h i)⟩
theorem DevR.keep{w w':World}{bd:Nat}{A:Dev}{role:Nat->Nat}{bs bm:Nat}{sv:List Value}{m:List (Int × Value)}{o:Obj}(D:DevR w bd A role bs bm sv m o){S:List Nat}(hx:Ext S w w')(hS':∀x∈S,role x=0):DevR w' bd A role bs bm sv m o:=by
 have hb:∀{b:Nat} {o:Obj},w.heap[b]?=some o->role b≠0->w'.heap[b]?=some o:=fun{b o} h1 h2=>by
  rw[hx.block b (Al h1) fun h=>h2 (hS' b h)];exact h1
 refine⟨fun x h=>qat (D.lt x h) hx.size,D.rd,D.rs,D.rm,hb D.hd (by rw[D.rd];decide),hb D.hs (by rw[D.rs];decide),hb D.hm (by rw[D.rm];decide),D.hM,D.nd,D.keys,D.len,fun i p hp=>?_,D.wf⟩;obtain⟨⟨v,h1,h2⟩,h3,h4⟩:=D.part i p hp;exact⟨⟨v,h1,h2.keep hx (fun x h=>by rw[hS' x h];decide) fun _ h=>h⟩,h3.keep hx (fun x h=>by rw[hS' x h];omega) (fun _ h=>h) (fun _ h=>h),h4⟩
theorem DevR.keep0{w w':World}{bd:Nat}{A:Dev}{role:Nat->Nat}{bs bm:Nat}{sv:List Value}{m:List (Int × Value)}{o:Obj}(D:DevR w bd A role bs bm sv m o)(hx:Ext [] w w'):DevR w' bd A role bs bm sv m o:=D.keep hx (by simp)
theorem DevR.swept{w w':World}{bd:Nat}{A:Dev}{role:Nat->Nat}{bs bm:Nat}{sv:List Value}{m:List (Int × Value)}{o o':Obj}(D:DevR w bd A role bs bm sv m o){A':Dev}{sv':List Value}(hx:Ext [bd,bs,bm] w w')(hlen:A'.B.length=A.B.length)(hd:w'.heap[bd]?=some (Bl TD (DB A'.B.length bs bm A'.left A'.on)))(hs:w'.heap[bs]?=some (Bl 24 sv'))(hm:w'.heap[bm]?=some o')(hM:Jx .i64 [] o')(hl:sv'.length=A.B.length)(hp:∀(i:Nat) (p:Byt × List Byt),A'.B[i]?=some p->p.2=[]/\∃v,sv'[i]?=some v/\SureAt w' role v p.1)(wf:Wf A'):DevR w' bd A' role bs bm sv' [] o':=by
 refine⟨fun x h=>qat (D.lt x h) hx.size,D.rd,D.rs,D.rm,hd,hs,hm,hM,qb9,fun k v h=>(by cases h),by rw[hl,hlen],fun i p h=>?_,wf⟩;obtain⟨h1,h2⟩:=hp i p h;refine⟨h2,?_,by simp[Qa,h1]⟩;rw[h1];exact⟨none,0,0,[],[],rfl,OS.nil,by simp[ent],rfl,fun j x y h=>by cases h⟩
theorem UN:∀(n:Nat) (l:List Nat),l.Nodup->(∀x∈l,x<n)->l.length<=n
 |0,l,_,h=>by
  cases l with
  |nil=>exact qaf _
  |cons x l=>exact absurd (h x (by simp)) (qcp _)
 |n+1,l,hd,h=>by
  have h1:=UN n (l.filter (· != n)) (hd.filter _) (fun x hx=>by
   have:=h x (qbh.1 hx).1;have h2:=(qbh.1 hx).2
   simp at h2;omega)
  have h2:l.length=(l.filter (· != n)).length+l.count n:=by
   clear hd h h1
   induction l with
   |nil=>rfl
   |cons x l ih =>
    rw[qef,qbt]
    by_cases hx:x=n
    .subst hx;simp;omega
    .simp[hx];omega
  have h3:l.count n<=1:=List.nodup_iff_count.1 hd n;omega
theorem DevR.bound{w:World}{bd:Nat}{A:Dev}{role:Nat->Nat}{bs bm:Nat}{sv:List Value}{m:List (Int × Value)}{o:Obj}(D:DevR w bd A role bs bm sv m o):∀p∈m,0<=p.1/\p.1<A.B.length:=by
 intro p hp
 have h:∃v,Et m p.1=some v:=by
  have hm:p.1∈CT m:=(qcc _ _).mem_iff.2 (qah.2 ⟨p,hp,rfl⟩);exact Fc hm
 obtain⟨v,hv⟩:=h;obtain⟨i,h1,h2⟩:=D.keys _ v hv;omega
theorem DevR.few{w:World}{bd:Nat}{A:Dev}{role:Nat->Nat}{bs bm:Nat}{sv:List Value}{m:List (Int × Value)}{o:Obj}(D:DevR w bd A role bs bm sv m o):m.length<=A.B.length:=by
 have h:=UN A.B.length (m.map fun p=>p.1.toNat) (by
  have nd:=D.nd;rw[qdl,qbn]at nd |-;refine nd.imp_of_mem fun{a b} ha hb hab he=>hab ?_;have:=D.bound a ha;have:=D.bound b hb
  omega) (fun x hx=>by
  obtain⟨p,hp,rfl⟩:=qah.1 hx;have:=D.bound p hp
  omega)
 simpa using h
theorem Nn{n a b:Nat}{tmps:Array Value}{g:Nat->Value}{x y:Value}(hts:tmps.size=n)(htm:∀i,tmps.getD i undef=g i)(ha:a<n:=by decide)(hb:b<n:=by decide):
  Sim n (put (put ⟨g,[]⟩ (some a) x) (some b) y) { tmps:=((#[a,b]:Array Tmp).zip [x,y].toArray).foldl (fun tmps (t,v)=>tmps.setIfInBounds t v) tmps,defers:=[] }:=by
 have h1:Sim n ⟨g,[]⟩ { tmps:=tmps,defers:=[] }:=⟨rfl,hts,htm⟩;have h2:=Sim.put (Sim.put h1 (some a) x (by rintro _ ⟨⟩;exact ha)) (some b) y (by rintro _ ⟨⟩;exact hb)
 simpa[Act.put]using h2
theorem Ky{P:Program}{l n:Nat}{body:Code}{R:Value->World->Prop}{e:Env}{w:World}{lo:Loop}(h1:w.heap[l]?=some (.loop lo))(hst:lo.state=.ready)(h:∀wR lo2,Ext [l] w wR->wR.heap[l]?=some (.loop lo2)->lo2={ lo with state := .busy }->W P (some l) n body (XM l R) e wR):Adr P l n body R .normal e w :=
 ⟨lo,h1,hst,h _ _ (Ext.setB w l _) (HC h1) rfl⟩
theorem HJ{l:Nat}{R:Value->World->Prop}{e:Env}{w:World}{lo lo2:Loop}(h1:w.heap[l]?=some (.loop lo2))(h2:lo2={ lo with state := .busy })(hst:lo.state=.ready)(hp:lo.pending=none)(h:∀wF,Ext [l] w wF->wF.heap[l]?=some (.loop lo)->R (.bool true) wF):XM l R .normal e w:=by
 refine⟨lo2,h1,h _ (Ext.setB w l _) ?_⟩
 have:({ lo2 with state := .ready,pending:=none }:Loop)=lo:=by
  subst h2;cases lo;simp_all
 rw[HC h1,this]
theorem Hj{Q:Exit->Env->World->Prop}{e:Env}{w:World}{j:Option Code}(hj:j=none)(h:Q .normal e w):NJ Q e w j:=by subst hj;exact h
theorem Mj{m:List (Int × Value)}{k:Int}{v:Value}(h:Et m k=some v):k∈CT m:=by
 refine(qcc _ _).mem_iff.2 ?_
 induction m with
 |nil=>cases h
 |cons p m ih =>
  by_cases hp:p.1=k
  .rw[<-hp];exact qae ..
  .exact qag _ (ih (by simpa[Et,hp]using h))
theorem Ln{w:World}{bd:Nat}{A:Dev}{F:Nat->Prop}{mx:Nat}(hfew:Few A mx)(DA:DevAt w bd A F)(hmx:mx<=1000000000000:=by omega):
  Ret prog 54 #[ptr bd] w fun v w'=>v=.int .i64 (Df A)/\DevAt w' bd (Cc A) F/\Turn F w w':=by
 obtain⟨w0,rfl⟩:=qD w;obtain⟨role,bs,bm,sv,m,o,D,hF⟩:=DA;have H:=Ctx.start w0 [];refine Ja (fn:=f54) func54 U [.pointer (some ⟨bd,0,none⟩)] U ?_;refine Ad (Co _ (.pointer _) U U H ?_);rintro b1 w - H;refine Ac U (qA (Ar (Ad (AG CY U H at0 U (Ah qB (UM (Ctx.oldb H D.hd)) U ?_)))));rintro v w ⟨rfl,rfl⟩;refine Ac U (qA (Ad (Ae U (AZ U U (qA (Au _ U ?_ ?_))))))
 .intro h1;replace h1:=Bu h1;have ho:A.on=false:=by cases h:A.on <;> simp_all
  refine Ad (Ae U (Ac U (qA (Ax (Ao (MO (v:=(.int _ _)) U U ?_))))));exact⟨by rw[Df,ho];rfl,by rw[Cc,ho];exact⟨role,bs,bm,sv,m,o,D.keep0 H.ext,hF⟩,.of0 H.ext⟩
 .intro h1;replace h1:=Bv h1;have ho:A.on=true:=by cases h:A.on <;> simp_all
  refine Aq (Aa (Ad (AG CY U H at0 U (Ah qB (QE (D.keep0 H.ext)) U ?_))));rintro v w ⟨rfl,D1,hx1⟩;refine Ac U (qA (Ar (Ad (Ae U (B1 U U (qA (Au _ U ?_ ?_)))))))
  .intro h3;replace h3:=AU h3;have hg:A.goes=false:=by cases h:A.goes <;> simp_all
   have hbd0:=Al D.hd;have ho1:w0.heap.size<=b1:=(H.own _ (qae ..)).elim (fun h=>by cases h) id
   have hb1:w.heap[b1]?=some (Bl 27 [ptr bd]):=by
    rw[hx1.block b1 (H.lt at0) (by simp;omega)];exact H.get at0
   refine Ar (Ad (Bf CY U (Ap hb1 _) ?_));refine Ah qB (Tt bd _) U ?_;rintro v w ⟨bx,rfl,hbx,hbxn,hx17⟩;refine qA (AD ?_);have D2:=D1.keep0 hx17;have hb1L:w.heap[b1]?=some (Bl 27 [ptr bd]):=by rw[hx17.block b1 (Al hb1) (by simp)];exact hb1
   obtain⟨f,hf⟩:=D2.last;refine GW U qB ?_;intro fn tmps hts htm Db l w2 hDb hl hx2 hD hrec;have D3:=D2.keep0 hx2;have up2:∀{b:Nat} {o:Obj},w.heap[b]?=some o->w2.heap[b]?=some o:=fun{b o} g=>by rw[hx2.block b (Al g) (by simp)];exact g
   obtain⟨lo,hlo,hrec'⟩:∃lo,lo=_/\w2.heap[l]?=some (.loop lo):=⟨_,rfl,hrec⟩;have hhi:=D3.wf.hi;have hlen:m.length<=4096:=qas D3.few hhi;have hbs0:=D2.lt bs (by rw[D2.rs];decide);have hbd1:=D2.lt bd (by rw[D2.rd];decide);have hbm1:=D2.lt bm (by rw[D2.rm];decide);have hbxL:=Al hbx;have hbsl:bs≠l:=by omega
   have hb1s:b1≠bs:=by have:=D.lt bs (by rw[D.rs];decide);omega
   have hbxs:bx≠bs:=by have:=D1.lt bs (by rw[D1.rs];decide);omega
   have hbds:bd≠bs:=fun h=>by have h1:=D3.rd;rw[h,D3.rs]at h1;omega
   have hbms:bm≠bs:=fun h=>by have h1:=D3.rm;rw[h,D3.rs]at h1;omega
   refine Ret.mono (QG (l:=l) (up2 hbx) D3.hd D3.hm D3.hM D3.nd hlen (fun p hp=>by have:=D3.bound p hp;omega)
    (fun wK i w'=>w'.heap[l]?=some (.loop lo)/\Ext [bs,l] wK w'/\w'.heap[bs]?=some (Bl 24 (laid f sv ((CT m).take i)))) ?_ ?_ ?_) ?_
   .intro wK hx;refine⟨by rw[hx.block l (Al hrec') (by simp)];exact hrec',.refl _ _,?_⟩;rw[hx.block bs (Al D3.hs) (by simp)];exact D3.hs
   .rintro wK i w' hx ⟨h1,h2,h3⟩
    have e1:∀{b:Nat} {o:Obj},w.heap[b]?=some o->b≠bs->w'.heap[b]?=some o:=fun{b o} g1 g2=>by
     have g3:b≠l:=by have:=Al g1;omega
     rw[h2.block b (qat (Al (up2 g1)) hx.size) (by simp[g2,g3]),hx.block b (Al (up2 g1)) (by simp)];exact up2 g1
    refine⟨e1 hbx hbxs,⟨bs,_,_,e1 D2.hd hbds⟩,e1 D2.hm hbms,_,h2,fun x h=>?_⟩;simp only[qab,qaj,or_false]at h
    rcases h with rfl|rfl
    .exact Al D3.hs
    .exact Al hrec'
   .rintro wK i k v w' hxK hk hv ⟨h1,h2,h3⟩;obtain⟨q,rfl,hq⟩:=D3.keys _ v hv;obtain⟨p,hp⟩:∃p,A.less.B[q]?=some p:=⟨_,qbg hq⟩;have hne:p.2≠[]:=(D3.part q p hp).2.2.1 (by rw[hv];rfl);obtain⟨hby,al,nl,cl,fl,vs,hv',O,hnl,hent,hlast⟩:=hf q p hp hne;rw[hv]at hv';cases hv';have hpl:=Jg hfew p (qad hp);have hpos:0<nl:=by rw[hnl];exact qbv.2 hne
    subst hlo;refine Km h1 U (HR _ (Nn hts htm) ?_);refine Ad (Ac U (qA (Av (Aj U (Ab (Ky h1 U ?_))))));intro wR lo2 hxR hlR hlo2
    have eR:∀{b:Nat} {o:Obj},w.heap[b]?=some o->b≠bs->wR.heap[b]?=some o:=fun{b o} g1 g2=>by
     have g3:b≠l:=by have:=Al g1;omega
     have g4:w'.heap[b]?=some o:=by
      rw[h2.block b (qat (Al (up2 g1)) hxK.size) (by simp[g2,g3]),hxK.block b (Al (up2 g1)) (by simp)];exact up2 g1
     rw[hxR.block b (Al g4) (by simpa using g3)];exact g4
    have hbs2:=D3.rs;have hbdR:=eR D2.hd hbds;have hb1R:=eR hb1L hb1s;have hbsR:wR.heap[bs]?=some (Bl 24 (laid f sv ((CT m).take i))):=by rw[hxR.block bs (Al h3) (by simpa using hbsl)];exact h3
    have Rl:Rd wR al 1 (fun v:Value=>[v]) vs:=OS.rdV O fun x hx=>eR (hent x hx).1 (fun h=>by have:=(hent x hx).2;rw[h]at this;omega);have hlv:(laid f sv ((CT m).take i)).length=sv.length:=Nm ..;have hsvl:=D3.len;have hvn:nl=vs.length:=by have:=O.llen;omega
    obtain⟨a9,c9,hfq,_⟩:=hby;rw[hfq]at hlast;have HT:∀x,Ext [] wR x->Ctx wR [] x []:=fun x hx=>(Ctx.start wR []).call hx;refine AD (Ke [([0,1,2,3,4,5,6,7,8,9,10,11],12)] (fun x=>Ext [] wR x) [12] mixed (Ext.drew _ wR) ?_);refine AB U U (BJ CY U (fun _ hx=>hx.cell (Ap hb1R 0) (by simp)) ?_);refine Bn U (AE MW U (BJ Ta U (fun _ hx=>hx.cell (Ap hbdR (0+0)) (by simp)) ?_));refine BM U (Cg U (Cg U (Qh Ew U (HD U U U ?_))));rw[show((nl:Int) - 1)=((nl - 1:Nat):Int)by omega];refine DS Rl Ew FA U U (BJ BL U (fun _ hx=>(Rl.ext0 hx).one (f:=fun v=>v) hlast) ?_);refine Kj U Ew FA U U (Bm ?_)
    skip
    refine Bc (.slice _ _ _) FA U U U (Ctx.start1 (show(World.drew wR).heap[bs]?=_ from hbsR)) at0 (by omega) ?_;rintro wE HE;refine Ab (CR U (B3 (AF ?_)));have hlE:wE.heap[l]?=some (.loop lo2):=by rw[HE.ext.block l (Al hlR) (by simp;omega)];exact hlR
    refine HJ hlE hlo2 U U ?_;intro wF hxF hlF;refine⟨rfl,hlF,(h2.trans (hxR.mono (by simp))).trans ((Ext.drew _ _).trans ((HE.ext.mono (by simp)).trans (hxF.mono (by simp)))),?_⟩;rw[hxF.block bs (Al (HE.get at0)) (by simpa using hbsl),HE.get at0,Bx hk,Oc];simp only[qbm,qa3,qch,hfq]
   .rintro v w3 ⟨wK,hxK,hl3,hx3,hs3⟩;rw[<-Mi m,qbb]at hs3;refine⟨_,hl3,by subst hlo;exact(fun h=>by cases h),Hj (by rw[hlo]) ?_⟩;have hx4:=Ext.setB w3 l (.loop { lo with state := .exhausted });generalize w3.putObj l (.loop { lo with state := .exhausted })=w4 at hx4 |-;refine AF (Aa ?_);have hz:Ext [bd,bs,bm] w w4:=(((hx2.trans hxK).mono (by simp)).then hx3 (by intro x h;simp only[qab,qaj,or_false]at h |-;omega)).then hx4 (by intro x h;simp only[qab,qaj,or_false]at h |-;omega)
    have up4:∀{b:Nat} {o:Obj},w.heap[b]?=some o->b≠bs->w4.heap[b]?=some o:=fun{b o} g1 g2=>by
     have g3:b≠l:=by have:=Al g1;omega
     rw[hx4.block b (qat (Al (up2 g1)) (qas hxK.size hx3.size)) (by simpa using g3),hx3.block b (qat (Al (up2 g1)) hxK.size) (by simp[g2,g3]),hxK.block b (Al (up2 g1)) (by simp)];exact up2 g1
    have hD4:w4.heap[Db]?=some (.deferred (some [])):=by
     have g3:Db≠l:=by omega
     have g2:Db≠bs:=by omega
     rw[hx4.block Db (qat (Al hD) (qas hxK.size hx3.size)) (by simpa using g3),hx3.block Db (qat (Al hD) hxK.size) (by simp[g2,g3]),hxK.block Db (Al hD) (by simp)];exact hD
    have hs4:w4.heap[bs]?=some (Bl 24 (laid f sv (CT m))):=by
     rw[hx4.block bs (Al hs3) (by simpa using hbsl)];exact hs3
    have hb14:=up4 hb1L hb1s;have hd4:=up4 D2.hd hbds;have H4:=Ctx.start1 (up4 D2.hm hbms);refine Av (Bf CY U (Ap hb14 _) ?_);refine Ay U (Af J9 U (Bf Qu U (Ap hd4 _) ?_));refine V0 U Te U H4 at0 D2.hM ?_;rintro o' w5 hM' H5;refine qA (Ad (Ae U (Ac U (qA (Ax (MO (v:=(.int _ _)) U U ?_))))));refine⟨Db,rfl,by rw[H5.ext.block Db (Al hD4) (by simp;omega)];exact hD4,?_⟩;have hxD:=Ext.setB w5 Db (.deferred none);obtain⟨w6,hw6⟩:=qD (w5.putObj Db (.deferred none));rw[<-hw6]at hxD |-;have hz6:Ext [bd,bs,bm] w w6:=(hz.then H5.ext (by intro x h;simp only[qab,qaj,or_false]at h |-;omega)).then hxD (by intro x h;simp only[qab,qaj,or_false]at h |-;omega)
    have up6:∀{b:Nat} {o:Obj},w4.heap[b]?=some o->b≠bm->b≠Db->w6.heap[b]?=some o:=fun{b o} g1 g2 g3=>by
     rw[hxD.block b (qat (Al g1) H5.ext.size) (by simpa using g3),H5.ext.block b (Al g1) (by simpa using g2)];exact g1
    have hbdm:bd≠bm:=fun h=>by have h1:=D3.rd;rw[h,D3.rm]at h1;omega
    refine⟨by rw[Df,ho,hg];rfl,?_,?_⟩
    .rw[Cc,ho,hg];refine⟨role,bs,bm,laid f sv (CT m),[],o',D2.swept (A':=Hv A.less) hz6 (by simp[Hv]) ?_ (up6 hs4 (Ne.symm hbms) (by omega)) ?_ hM' (by rw[Nm,D2.len]) ?_ (Afq D2.wf),hF⟩
     .rw[show(Hv A.less).B.length=A.less.B.length by simp[Hv]];exact up6 hd4 hbdm (by omega)
     .rw[hxD.block bm (Al (H5.get at0)) (by simp;omega)];exact H5.get at0
     .intro i p hp
      obtain⟨p0,hp0,rfl⟩:∃p0,A.less.B[i]?=some p0/\p=(stands p0,[]):=by
       simp only[Hv,qav,qet]at hp;obtain⟨p0,h1,h2⟩:=hp;exact⟨p0,h1,h2.symm⟩
      have hi:i<A.less.B.length:=(qaq.1 hp0).1;refine⟨rfl,?_⟩
      have hr4:∀x∈[bd,bs,bm],role x≠4:=by
       intro x h;simp only[qab,qaj,or_false]at h
       rcases h with rfl|rfl|rfl
       .rw[D2.rd];decide
       .rw[D2.rs];decide
       .rw[D2.rm];decide
      rw[QH f sv _ (fun k hk=>by obtain⟨v,hv⟩:=Fc hk;obtain⟨j,rfl,_⟩:=D2.keys k v hv;omega) (by rw[D2.len];exact hi)];have hpart:=D2.part i p0 hp0
      split
      .rename_i hin
       obtain⟨v,hv⟩:=Fc hin;have hne:p0.2≠[]:=hpart.2.2.1 (by rw[hv];rfl);exact⟨_,rfl,.inr ((hf i p0 hp0 hne).1.keep hz6 hr4 fun _ h=>h)⟩
      .rename_i hin
       have he:p0.2=[]:=Classical.byContradiction fun hne=>by
        obtain⟨v,hv⟩:=qdc.1 (hpart.2.2.2 hne);exact hin (Mj hv)
       obtain⟨v,h1,h2⟩:=hpart.1;refine⟨v,h1,?_⟩;rw[show stands p0=p0.1 by rw[stands,he];rfl];exact h2.keep hz6 hr4 fun _ h=>h
    .refine Turn.trans (.of0 H.ext) (Turn.trans (.of hx1 fun x h=>hF x (by rw[qaa.1 h,D.rd];decide)) (.of ((hx17.mono (by simp)).trans hz6) fun x h=>?_) fun x h => .inl h) fun x h => .inl h;refine hF x ?_;simp only[qab,qaj,or_false]at h
     rcases h with rfl|rfl|rfl
     .rw[D2.rd];decide
     .rw[D2.rs];decide
     .rw[D2.rm];decide
  .intro h3;replace h3:=AV h3;have hg:A.goes=true:=by cases h:A.goes <;> simp_all
   refine Aq (Aa (Ad (Ae U (Ac U (qA (Ax (MO (v:=(.int _ _)) U U ?_)))))));exact⟨by rw[Df,ho,hg];rfl,by rw[Cc,ho,hg];exact⟨role,bs,bm,sv,m,o,D1,hF⟩,Turn.trans (.of0 H.ext) (.of hx1 fun x h=>hF x (by rw[qaa.1 h,D.rd];decide)) fun x h => .inl h⟩
theorem EI{α:Type}{l:List α}{i:Nat}{p:α}(h:l[i]?=some p):l.drop i=p::l.drop (i+1):=by
 obtain⟨hi,rfl⟩:=qaq.1 h;exact qdv hi
def Np(B:List (Byt × List Byt)):Nat:=B.countP fun p => !p.2.isEmpty
theorem Aa7(l:List (Byt × List Byt))(p:Byt × List Byt):Np (l++[p])=if p.2=[]then Np l else Np l+1:=by
 unfold Np;rw[List.countP_append]
 by_cases hp:p.2=[] <;> simp[hp]
def keepI(B:List (Byt × List Byt))(picks:List Int)(i:Nat):List (Byt × List Byt):=DW (B.take i) picks++B.drop i
theorem Aft(p:Byt × List Byt)(x:Int)(l:List Int):(max x 0) % ((p.2.length:Int)+1)=((LQ p (x::l):Nat):Int):=by
 unfold LQ;dsimp only;rw[Int.natCast_emod,Int.toNat_of_nonneg (by omega)];rfl
theorem Aa8{xs ys:List Int}(hx:xs.Pairwise (·<·))(hy:ys.Pairwise (·<·))(h:∀k,k∈xs↔k∈ys):xs=ys:=by
 induction xs generalizing ys with
 |nil =>
  cases ys with
  |nil=>rfl
  |cons y ys=>exact absurd ((h y).2 (qae ..)) (by simp)
 |cons x xs ih =>
  cases ys with
  |nil=>exact absurd ((h x).1 (qae ..)) (by simp)
  |cons y ys =>
   rw[qbj]at hx hy
   have hxy:x=y:=by
    have h1:=(h x).1 (qae ..);have h2:=(h y).2 (qae ..);rw[qab]at h1 h2
    rcases h1 with h1|h1
    .exact h1
    .rcases h2 with h2|h2
     .exact h2.symm
     .have:=hy.1 x h1;have:=hx.1 y h2;omega
   subst hxy
   congr 1
   refine ih hx.2 hy.2 fun k=>?_;have h1:=h k;rw[qab,qab]at h1;constructor
   .intro hk
    rcases h1.1 (.inr hk)with h2|h2
    .have:=hx.1 k hk;omega
    .exact h2
   .intro hk
    rcases h1.2 (.inr hk)with h2|h2
    .have:=hy.1 k hk;omega
    .exact h2
def Kz(B:List (Byt × List Byt)):List Nat:=(List.range B.length).filter fun i => !(B.getD i ([],[])).2.isEmpty
theorem Sl{m:List (Int × Value)}(nd:(m.map (·.1)).Nodup):(CT m).Pairwise (·<·):=by
 have h1:(CT m).Pairwise fun x y=>decide (x<=y)=true:=qe4 (by intro a b c;simp;omega) (by intro a b;simp;omega) _;have h2:(CT m).Nodup:=(qcc _ _).nodup_iff.2 nd;rw[qdl]at h2;exact(h1.and h2).imp fun⟨h3,h4⟩=>by rw[qap]at h3;omega
theorem DevR.keys_eq{w:World}{bd:Nat}{A:Dev}{role:Nat->Nat}{bs bm:Nat}{sv:List Value}{m:List (Int × Value)}{o:Obj}(D:DevR w bd A role bs bm sv m o):CT m=(Kz A.B).map Int.ofNat:=by
 refine Aa8 (Sl D.nd) ?_ fun k=>?_
 .rw[qbn];exact(List.pairwise_lt_range.filter _).imp fun h=>by simpa using h
 .constructor
  .intro hk;obtain⟨v,hv⟩:=Fc hk;obtain⟨i,rfl,hi⟩:=D.keys k v hv;obtain⟨p,hp⟩:∃p,A.B[i]?=some p:=⟨_,qbg hi⟩;have hne:=(D.part i p hp).2.2.1 (by rw[hv];rfl);refine qah.2 ⟨i,qbh.2 ⟨qdo.2 hi,?_⟩,rfl⟩;rw[qa6,hp]
   simpa using hne
  .intro hk;obtain⟨i,hi,rfl⟩:=qah.1 hk;rw[Kz,qbh,qdo]at hi;obtain⟨p,hp⟩:∃p,A.B[i]?=some p:=⟨_,qbg hi.1⟩;rw[qa6,hp]at hi;obtain⟨v,hv⟩:=qdc.1 ((D.part i p hp).2.2.2 (by simpa using hi.2));exact Mj hv
theorem Yk(B:List (Byt × List Byt))(q:Nat)(hq:q<=B.length:=by omega):Np (B.take q)=((List.range q).filter fun i => !(B.getD i ([],[])).2.isEmpty).length:=by
 induction q with
 |zero=>rfl
 |succ q ih =>
  obtain⟨p,hp⟩:∃p,B[q]?=some p:=⟨_,qbg (by omega)⟩;rw[Bx hp,Aa7,ih (by omega),List.range_succ,qbo,qan,qbt,qa6,hp]
  by_cases h:p.2=[]
  .simp[h]
  .simp[h]
theorem Aa9{B:List (Byt × List Byt)}{i q:Nat}(h:(Kz B)[i]?=some q):i=Np (B.take q):=by
 have hm:=qad h;rw[Kz,qbh,qdo]at hm;obtain⟨hq,hne⟩:=hm;rw[Yk B q]
 have hsp:Kz B=((List.range q).filter fun i => !(B.getD i ([],[])).2.isEmpty)++q::((List.range' (q+1) (B.length - q - 1)).filter fun i => !(B.getD i ([],[])).2.isEmpty):=by
  have hr:List.range B.length=List.range q++q::List.range' (q+1) (B.length - q - 1):=by
   have h1:List.range B.length=List.range' 0 q++List.range' (0+1*q) (B.length - q):=by
    rw[List.range'_append,List.range_eq_range'];congr 1;omega
   rw[h1,List.range_eq_range']
   congr 1
   obtain⟨n,hn⟩:∃n,B.length - q=n+1:=⟨B.length - q - 1,by omega⟩;rw[hn,List.range'_succ];simp
  rw[Kz,hr,qbo,qbt,if_pos hne]
 have hnd:(Kz B).Pairwise (·<·):=List.pairwise_lt_range.filter _;have h2:(Kz B)[((List.range q).filter fun i => !(B.getD i ([],[])).2.isEmpty).length]?=some q:=by rw[hsp];simp
 obtain⟨hi,h3⟩:=qaq.1 h;obtain⟨hj,h4⟩:=qaq.1 h2;rw[qb5]at hnd
 rcases Nat.lt_trichotomy i ((List.range q).filter fun i => !(B.getD i ([],[])).2.isEmpty).length with h5|h5|h5
 .have:=hnd i _ hi hj h5;omega
 .exact h5
 .have:=hnd _ i hj hi h5;omega
theorem DevR.key_at{w:World}{bd:Nat}{A:Dev}{role:Nat->Nat}{bs bm:Nat}{sv:List Value}{m:List (Int × Value)}{o:Obj}(D:DevR w bd A role bs bm sv m o){i q:Nat}(h:(CT m)[i]?=some (q:Int)):i=Np (A.B.take q):=by
 rw[D.keys_eq,qav,qet]at h;obtain⟨q',h1,h2⟩:=h
 have:q'=q:=Int.ofNat.inj h2
 subst this;exact Aa9 h1
theorem QI:∀(B:List (Byt × List Byt)) (picks:List Int) {i:Nat} {p:Byt × List Byt},B[i]?=some p->(DW B picks)[i]?=some (if p.2=[]then(p.1,[])else(NZ p (LQ p (picks.drop (Np (B.take i)))),[]))
 | [],_,i,p,h=>by simp at h
 |b::B,picks,0,p,h=>by
  simp only[qc1,qbc]at h;subst h;unfold DW
  by_cases hb:b.2=[]
  .rw[if_pos hb,if_pos hb];rfl
  .rw[if_neg hb,if_neg hb];rfl
 |b::B,picks,i+1,p,h=>by
  have ih:=QI B;unfold DW;rw[qeu]
  by_cases hb:b.2=[]
  .rw[if_pos hb,qe5,ih picks (by simpa using h)]
   congr 6
   simp[Np,hb]
  .rw[if_neg hb,qe5,ih picks.tail (by simpa using h)]
   congr 4
   rw[show Np (b::B.take i)=Np (B.take i)+1 by simp[Np,hb]];cases picks <;> simp
theorem Afu{α:Type}{l:List α}{i:Nat}{x:α}(h:l[i]?=some x):l.set i x=l:=by
 apply qcg;intro j;rw[qdg]
 by_cases hj:i=j
 .subst hj;rw[if_pos rfl,if_pos (qaq.1 h).1,h]
 .rw[if_neg hj]
theorem DevR.picked{w:World}{bd:Nat}{A:Dev}{role:Nat->Nat}{bs bm:Nat}{sv:List Value}{m:List (Int × Value)}{o:Obj}(D:DevR w bd A role bs bm sv m o)(x:Nat->Nat) :
  ∃f:Nat->Value,∀i p,A.B[i]?=some p->p.2≠[]->x i<=p.2.length->SureAt w role (f i) (NZ p (x i))/\(x i=0->sv[i]?=some (f i))/\(0<x i->BytesAt w role (f i) (NZ p (x i))/\∃al n c fl vs,Et m (i:Int)=some (.slice al n c)/\OS al n c 1 fl vs/\n=p.2.length/\(∀y∈ent al 24 fl,w.heap[y.1]?=some y.2/\role y.1=5+i)/\vs[x i - 1]?=some (f i)):=by
 have h:∀i:Nat,∃v,∀p,A.B[i]?=some p->p.2≠[]->x i<=p.2.length->SureAt w role v (NZ p (x i))/\(x i=0->sv[i]?=some v)/\(0<x i->BytesAt w role v (NZ p (x i))/\∃al n c fl vs,Et m (i:Int)=some (.slice al n c)/\OS al n c 1 fl vs/\n=p.2.length/\(∀y∈ent al 24 fl,w.heap[y.1]?=some y.2/\role y.1=5+i)/\vs[x i - 1]?=some v):=fun i=>by
  by_cases hp:∃p,A.B[i]?=some p/\p.2≠[]/\x i<=p.2.length
  .obtain⟨p,hp,hne,hx⟩:=hp;obtain⟨⟨sv0,hs0,hs1⟩,⟨al,n,c,fl,vs,hv,O,hent,hvs⟩,hiff⟩:=D.part i p hp
   by_cases h0:x i=0
   .refine⟨sv0,fun p' hp' _ _=>?_⟩;rw[hp]at hp';cases hp';exact⟨by rw[h0];exact hs1,fun _=>hs0,fun h=>absurd h (by omega)⟩
   .have hn:n=vs.length:=by have:=O.llen;omega
    have hvl:=hvs.1;obtain⟨b,hb⟩:=AR (l:=p.2) (i:=x i - 1);obtain⟨v,hvv⟩:=AR (l:=vs) (i:=x i - 1)
    have hst:NZ p (x i)=b:=by
     rw[NZ,if_neg h0,qa6,hb];rfl
    refine⟨v,fun p' hp' _ _=>?_⟩;rw[hp]at hp';cases hp';have hB:BytesAt w role v (NZ p (x i)):=by rw[hst];exact hvs.2 _ _ _ hvv hb
    refine⟨.inr hB,fun h=>absurd h h0,fun _=>⟨hB,al,n,c,fl,vs,?_,O,by omega,hent,hvv⟩⟩;obtain⟨u,hu⟩:=qdc.1 (hiff.2 hne);rw[hu]at hv |-;rw[<-hv];rfl
  .exact⟨.nilFunc,fun p h1 h2 h3=>absurd ⟨p,h1,h2,h3⟩ hp⟩
 exact⟨fun i=>Classical.choose (h i),fun i=>Classical.choose_spec (h i)⟩
theorem Ain{w:World}{bd:Nat}{A:Dev}{F:Nat->Prop}(a:Option Addr)(c n:Nat)(picks:List Int)(R:Rd w a 1 (fun x:Int=>[.int .i64 x]) picks)(hn:picks.length=n)(hm:n<=9223372036854775000)(hc:n<=c)(hFa:picks=[]\/¬F (adr a).block)(hi64:∀x∈picks,-9223372036854775808<=x/\x<=9223372036854775807){mx:Nat}(hfew:Few A mx)(hmx:mx<=1000000000000)(DA:DevAt w bd A F) :
  Ret prog 18 #[ptr bd,.slice a n c] w fun v w'=>v=.int .i64 (onE A)/\DevAt w' bd (onD A picks) F/\Turn F w w':=by
 subst hn;obtain⟨w0,rfl⟩:=qD w;obtain⟨role,bs,bm,sv,m,o,D,hF⟩:=DA;have H:=Ctx.start w0 [];refine Ja (fn:=f18) func18 U [.pointer (some ⟨bd,0,none⟩),.slice a picks.length c] U ?_;refine Ad (Co _ (.pointer _) U U H ?_);rintro b2 w - H;refine Co _ (.slice _ _ _) U U H ?_;rintro b3 w - H;refine Ac U (qA (Ar (AD (Ad (AG CY U H at1 U (BN LO U ?_))))));refine Am U (qA (Bw U (Ad (AG CY U H at1 U (Ay U (Af Lg U (Bf Gx U (Ctx.old0 H (Ap D.hd _)) ?_)))))));refine Cl U (Am U (qA (Au _ U ?_ ?_)))
 .intro h1;replace h1:=CJ h1;have ho:A.on=true:=by cases h:A.on <;> simp_all
  refine Ad (Ac U (qA (Ax (AL (Ao (MO (v:=(.int _ _)) U U ?_))))));exact⟨by rw[onE,ho];rfl,by rw[onD,ho];exact⟨role,bs,bm,sv,m,o,D.keep0 H.ext,hF⟩,.of0 H.ext⟩
 .intro h1;replace h1:=CK h1;have ho:A.on=false:=by cases h:A.on <;> simp_all
  have hb2:=H.get at1;have hb3:=H.get at0;have ho2:w0.heap.size<=b2:=(H.own _ (qag _ (qae ..))).elim (fun h=>by cases h) id;have ho3:w0.heap.size<=b3:=(H.own _ (qae ..)).elim (fun h=>by cases h) id;have hb23:b3≠b2:=H.ne at0 at1 (by decide);have hx00:=H.ext;have D1:=D.keep0 H.ext;refine Aq (AF (Aa (Ar (Ad (AG CY U H at1 U (Ah qB (Tt bd _) U ?_))))));rintro v w ⟨bx,rfl,hbx,hbxn,hx17⟩;refine qA (AD ?_);have D2:=D1.keep0 hx17;have hb2L:w.heap[b2]?=some (Bl 27 [ptr bd]):=by rw[hx17.block b2 (Al hb2) (by simp)];exact hb2
  have hb3L:w.heap[b3]?=some (Bl 40 [.slice a picks.length c]):=by rw[hx17.block b3 (Al hb3) (by simp)];exact hb3
  obtain⟨xq,hxq⟩:=qD (fun q=>LQ (A.B.getD q ([],[])) (picks.drop (Np (A.B.take q))):Nat->Nat);obtain⟨f,hf⟩:=D2.picked xq;refine GW U qB ?_;intro fn tmps hts htm Db l w2 hDb hl hx2 hD hrec;have D3:=D2.keep0 hx2;have up2:∀{b:Nat} {o:Obj},w.heap[b]?=some o->w2.heap[b]?=some o:=fun{b o} g=>by rw[hx2.block b (Al g) (by simp)];exact g
  obtain⟨lo,hlo,hrec'⟩:∃lo,lo=_/\w2.heap[l]?=some (.loop lo):=⟨_,rfl,hrec⟩;have hhi:=D3.wf.hi;have hlen:m.length<=4096:=qas D3.few hhi;have hbs0:=D.lt bs (by rw[D.rs];decide);have hbs2:=D2.lt bs (by rw[D2.rs];decide);have hbd1:=D2.lt bd (by rw[D2.rd];decide);have hbm1:=D2.lt bm (by rw[D2.rm];decide);have hbdo:=D.lt bd (by rw[D.rd];decide);have hbmo:=D.lt bm (by rw[D.rm];decide);have hbxL:=Al hbx;have hb3s:=Al hb3L;have hw1:=Al hb3;have hbsl:bs≠l:=by omega
  have hbxs:bx≠bs:=by omega
  have hbx3:bx≠b3:=by omega
  have hbds:bd≠bs:=fun h=>by have h1:=D3.rd;rw[h,D3.rs]at h1;omega
  have hbms:bm≠bs:=fun h=>by have h1:=D3.rm;rw[h,D3.rs]at h1;omega
  have hx02:Ext [] w0 w2:=(H.ext.trans hx17).trans hx2
  refine Ret.mono (QG (l:=l) (up2 hbx) D3.hd D3.hm D3.hM D3.nd hlen (fun p hp=>by have:=D3.bound p hp;omega)
   (fun wK i w'=>w'.heap[l]?=some (.loop lo)/\Ext [bs,b3,l] wK w'/\w'.heap[bs]?=some (Bl 24 (laid f sv ((CT m).take i))) /\
    ∃a' c',w'.heap[b3]?=some (Bl 40 [.slice a' (picks.drop i).length c'])/\Rd w0 a' 1 (fun x:Int=>[.int .i64 x]) (picks.drop i)/\(picks.drop i).length<=c'/\(adr a').block=(adr a).block) ?_ ?_ ?_) ?_
  .intro wK hx;refine⟨by rw[hx.block l (Al hrec') (by simp)];exact hrec',.refl _ _,?_,a,c,?_,R,hc,rfl⟩
   .rw[hx.block bs (Al D3.hs) (by simp)];exact D3.hs
   .rw[hx.block b3 (Al (up2 hb3L)) (by simp)];exact up2 hb3L
  .rintro wK i w' hx ⟨h1,h2,h3,h4⟩
   have e1:∀{b:Nat} {o:Obj},w.heap[b]?=some o->b≠bs->b≠b3->w'.heap[b]?=some o:=fun{b o} g1 g2 g4=>by
    have g3:b≠l:=by have:=Al g1;omega
    rw[h2.block b (qat (Al (up2 g1)) hx.size) (by simp[g2,g3,g4]),hx.block b (Al (up2 g1)) (by simp)];exact up2 g1
   refine⟨e1 hbx hbxs hbx3,⟨bs,_,_,e1 D2.hd hbds (by omega)⟩,e1 D2.hm hbms (by omega),_,h2,fun x h=>?_⟩;simp only[qab,qaj,or_false]at h
   rcases h with rfl|rfl|rfl
   .exact Al D3.hs
   .exact Al (up2 hb3L)
   .exact Al hrec'
  .rintro wK i k v w' hxK hk hv ⟨h1,h2,h3,a',c',h4,R',hc',ha'⟩;obtain⟨q,rfl,hq⟩:=D3.keys _ v hv;obtain⟨p,hp⟩:∃p,A.B[q]?=some p:=⟨_,qbg hq⟩;have hne:p.2≠[]:=(D3.part q p hp).2.2.1 (by rw[hv];rfl);have hiq:=D3.key_at hk;have hxv:xq q=LQ p (picks.drop i):=by rw[hxq,hiq];dsimp only;rw[qa6,hp];rfl
   have hxle:xq q<=p.2.length:=by
    rw[hxv];unfold LQ
    split
    .exact qak _
    .exact Nat.le_of_lt_succ (qbi _ (Nat.succ_pos _))
   obtain⟨hsu,hz0,hby⟩:=hf q p hp hne hxle;obtain⟨_,⟨al0,nl,cl0,fl0,vs0,hv0,O0,_,hvs0⟩,_⟩:=D2.part q p hp;rw[hv]at hv0;have hv0:v=.slice al0 nl cl0:=hv0;have hnl:nl=p.2.length:=by have:=O0.llen;have:=hvs0.1;omega
   subst hv0;have hpl:=hfew p (qad hp);subst hlo;refine Km h1 U (HR _ (Nn hts htm) ?_);refine Ad (Ac U (qA (Av (Aj U (Ab (Ky h1 U ?_))))));intro wR lo2 hxR hlR hlo2;have hb3l:b3≠l:=by omega
   have eR:∀{b:Nat} {o:Obj},w.heap[b]?=some o->b≠bs->b≠b3->wR.heap[b]?=some o:=fun{b o} g1 g2 g4=>by
    have g3:b≠l:=by have:=Al g1;omega
    have g4:w'.heap[b]?=some o:=by
     rw[h2.block b (qat (Al (up2 g1)) hxK.size) (by simp[g2,g3,g4]),hxK.block b (Al (up2 g1)) (by simp)];exact up2 g1
    rw[hxR.block b (Al g4) (by simpa using g3)];exact g4
   have hx0R:Ext [bs,b3,l] w0 wR:=((hx02.trans hxK).mono (by simp)).trans (h2.trans (hxR.mono (by simp)))
   have hRok:picks.drop i≠[]->(adr a').block∉[bs,b3,l]:=fun hne=>by
    have hne':picks≠[]:=fun h=>hne (by rw[h];simp)
    have hlt:(adr a').block<w0.heap.size:=by
     cases hd:picks.drop i with
     |nil=>exact absurd hd hne
     |cons x xs =>
      have h9:=World.block_lt_of_cell? w0 ⟨(adr a').block,_,none⟩ (R'.cell 0 x (by rw[hd];rfl) 0 _ rfl (by decide));exact h9
    have hnF:=hFa.resolve_left hne'
    have:(adr a').block≠bs:=fun h=>hnF (by rw[<-ha',h];exact hF bs (by rw[D.rs];decide))
    simp only[qab,qaj,or_false];omega
   have RR:Rd wR a' 1 (fun x:Int=>[.int .i64 x]) (picks.drop i):=by
    by_cases hne:picks.drop i=[]
    .rw[hne];exact Rd.nil
    .exact R'.ext hx0R (hRok hne)
   have hbdR:=eR D2.hd hbds (by omega);have hb2R:=eR hb2L (by omega) (Ne.symm hb23);have hb3R:wR.heap[b3]?=some (Bl 40 [.slice a' (picks.drop i).length c']):=by rw[hxR.block b3 (Al h4) (by simpa using hb3l)];exact h4
   have hbsR:wR.heap[bs]?=some (Bl 24 (laid f sv ((CT m).take i))):=by rw[hxR.block bs (Al h3) (by simpa using hbsl)];exact h3
   have hlv:(laid f sv ((CT m).take i)).length=sv.length:=Nm ..;have hsvl:=D3.len;refine AD (Ad (Ac U (qA (Ar (Ad (Bf Jb U (Ap hb3R 0) ?_))))));refine AO Fv U (Ci U U (qA (FF 17163092096 (α:=Unit) (fun _=>[(7,.int .i64 (xq q:Int))]) (fun _ w5=>Ext [bs,b3,l] wR w5/\(∀x o,wR.heap[x]?=some o->x≠b3->w5.heap[x]?=some o)/\∃a' c',w5.heap[b3]?=some (Bl 40 [.slice a' (picks.drop (i+1)).length c'])/\Rd w0 a' 1 (fun x:Int=>[.int .i64 x]) (picks.drop (i+1))/\(picks.drop (i+1)).length<=c'/\(adr a').block=(adr a).block) U ?_ ?_)))
   .skip
    refine Au _ U ?_ ?_
    .intro g1;replace g1:=AU g1;obtain⟨x,hx0⟩:=AR (l:=picks.drop i) (i:=0)
     have hxx:picks.drop i=x::picks.drop (i+1):=by
      cases hd:picks.drop i with
      |nil=>rw[hd]at hx0;cases hx0
      |cons y ys =>
       rw[hd]at hx0;cases hx0;rw[<-qdn,hd];rfl
     have hxi:=hi64 x (qc0 (by rw[hxx];exact qae ..));have HT:∀x,Ext [] wR x->Ctx wR [] x []:=fun x hx=>(Ctx.start wR []).call hx;have hdl:(picks.drop i).length=(picks.drop (i+1)).length+1:=by rw[hxx];rfl
     refine Ke [([0,1,2,3,4,5,6,7,8,9,10],11)] (fun x=>Ext [] wR x) [11] mixed (Ext.drew _ wR) (AB U U ?_);refine BJ Jb U (fun _ hx=>hx.cell (Ap hb3R 0) (by simp)) (DS RR Fv GZ U U (hn:=by rfl) ?_);refine BJ DU U (fun _ hx=>(RR.ext0 hx).one (f:=fun x => .int .i64 x) hx0) (Akv U U U ?_);refine Cg U (Qh Ew U (EF U U ?_));refine Ajx U U U (BJ Jb U (fun _ hx=>hx.cell (Ap hb3R 0) (by simp)) ?_);refine FG Fv GZ U U (SR U U (Bm ?_))
     skip
     refine Bc (.slice _ _ _) Q5 U U U (Ctx.start1 (show(World.drew wR).heap[b3]?=_ from hb3R)) at0 (Nat.succ_pos _) ?_;rintro wE HE;refine Ab (CR U (B3 (Aa ?_)));refine⟨(),rfl,⟨?_,trivial⟩,(Ext.drew _ _).trans (HE.ext.mono (by simp)),fun y o h hy=>by rw[HE.ext.block y (Al h) (by simpa using hy)];exact h,Em a' c' 1 1,c' - 1,?_,?_,?_,?_⟩
     .show Value.int .i64 _=_;rw[hxv,hxx,<-Aft,hnl]
     .rw[HE.get at0,hdl];rfl
     .have h9:=R'.cut 1 c' hc'
      rwa [qdn]at h9
     .omega
     .rw[<-ha'];unfold Em;split
      .rfl
      .cases a' <;> rfl
    .intro g1;replace g1:=AV g1;have hd0:picks.drop i=[]:=List.length_eq_zero_iff.1 (by omega);refine Aq (Aa ?_);have hd1:picks.drop (i+1)=[]:=by rw[<-qdn,hd0];rfl
     refine⟨(),rfl,⟨?_,trivial⟩,.refl _ _,fun _ _ h _=>h,a',c',?_,?_,?_,ha'⟩
     .show Value.int .i64 0=_;rw[hxv,hd0];rfl
     .rw[hd1,<-hd0];exact hb3R
     .rw[hd1];exact Rd.nil
     .rw[hd1];exact qak _
   .rintro - j7 w5 ⟨hx5,hs5,a6,c6,h6,R6,hc6,ha6⟩;have e5:∀{b:Nat} {o:Obj},w.heap[b]?=some o->b≠bs->b≠b3->w5.heap[b]?=some o:=fun{b o} g1 g2 g3=>hs5 _ _ (eR g1 g2 g3) g3;have hb25:=e5 hb2L (by omega) (Ne.symm hb23);have hbd5:=e5 D2.hd hbds (by omega);have hbs5:=hs5 _ _ hbsR (by omega);have hl5:=hs5 _ _ hlR (Ne.symm hb3l);refine Ad (Ae U (Ci U U (qA (Au _ U ?_ ?_))))
    .intro g1;replace g1:=AU g1;have hgt:0<xq q:=by omega
     obtain⟨hB,al,n9,c9,fl,vs,hv9,O,hnn,hent,hlast⟩:=hby hgt;rw[hv]at hv9;cases hv9
     have Rl:Rd w5 al0 1 (fun v:Value=>[v]) vs:=OS.rdV O fun x hx=>by
      have hlt:=Al (hent x hx).1;refine e5 (hent x hx).1 (fun h=>by have:=(hent x hx).2;rw[h,D3.rs]at this;omega) fun h=>?_;have h7:=(hent x hx).2;have:=D.lt x.1 (by omega);omega
     have hvn:nl=vs.length:=by have:=O.llen;omega
     obtain⟨a8,c8,hfq,_⟩:=hB;rw[hfq]at hlast;have HT:∀x,Ext [] w5 x->Ctx w5 [] x []:=fun x hx=>(Ctx.start w5 []).call hx;refine Ke [([0,1,2,3,4,5,6,7,8,9,10],11)] (fun x=>Ext [] w5 x) [11] mixed (Ext.drew _ w5) (AB U U ?_);refine BJ CY U (fun _ hx=>hx.cell (Ap hb25 0) (by simp)) ?_;refine Bn U (AE MW U (BJ Ta U (fun _ hx=>hx.cell (Ap hbd5 (0+0)) (by simp)) ?_));refine BM U (Cg U (BM U (HD U U U ?_)));rw[show((xq q:Int) - 1)=((xq q - 1:Nat):Int)by omega];refine DS Rl Ew FA U U (BJ BL U (fun _ hx=>(Rl.ext0 hx).one (f:=fun v=>v) hlast) ?_);refine Kj U Ew FA U U (Bm ?_)
     skip
     refine Bc (.slice _ _ _) FA U U U (Ctx.start1 (show(World.drew w5).heap[bs]?=_ from hbs5)) at0 (by omega) ?_;rintro wE HE;refine Ab (CR U (B3 (AF ?_)));have hlE:wE.heap[l]?=some (.loop lo2):=by rw[HE.ext.block l (Al hl5) (by simp;omega)];exact hl5
     refine HJ hlE hlo2 U U ?_;intro wF hxF hlF;refine⟨rfl,hlF,(h2.trans (hxR.mono (by simp))).trans (hx5.trans ((Ext.drew _ _).trans ((HE.ext.mono (by simp)).trans (hxF.mono (by simp))))),?_,a6,c6,?_,R6,hc6,ha6⟩
     .rw[hxF.block bs (Al (HE.get at0)) (by simpa using hbsl),HE.get at0,Bx hk,Oc];simp only[qbm,qa3,qch,hfq]
     .have h7:wE.heap[b3]?=some (Bl 40 [.slice a6 (picks.drop (i+1)).length c6]):=by rw[HE.ext.block b3 (Al h6) (by simp;omega)];exact h6
      rw[hxF.block b3 (Al h7) (by simpa using hb3l)];exact h7
    .intro g1;replace g1:=AV g1;have hz9:xq q=0:=by omega
     refine Aq (AF (HJ hl5 hlo2 U U ?_));intro wF hxF hlF;refine⟨rfl,hlF,(h2.trans (hxR.mono (by simp))).trans (hx5.trans (hxF.mono (by simp))),?_,a6,c6,?_,R6,hc6,ha6⟩
     .rw[hxF.block bs (Al hbs5) (by simpa using hbsl),hbs5,Bx hk,Oc,qbm,Afu];rw[QH f sv _ (fun k hk=>by obtain⟨v,hv⟩:=Fc (qbs hk);obtain⟨j,rfl,_⟩:=D2.keys k v hv;omega) (by rw[D2.len];exact hq),hz0 hz9]
      split <;> rfl
     .rw[hxF.block b3 (Al h6) (by simpa using hb3l)];exact h6
  .rintro v w3 ⟨wK,hxK,hl3,hx3,hs3,_⟩;rw[<-Mi m,qbb]at hs3;refine⟨_,hl3,by subst hlo;exact(fun h=>by cases h),Hj (by rw[hlo]) ?_⟩;have hx4:=Ext.setB w3 l (.loop { lo with state := .exhausted });generalize w3.putObj l (.loop { lo with state := .exhausted })=w4 at hx4 |-;refine AF (Aa ?_);have hz:Ext [bd,bs,bm,b3] w w4:=(((hx2.trans hxK).mono (by simp)).then hx3 (by intro x h;simp only[qab,qaj,or_false]at h |-;omega)).then hx4 (by intro x h;simp only[qab,qaj,or_false]at h |-;omega)
   have up4:∀{b:Nat} {o:Obj},w.heap[b]?=some o->b≠bs->b≠b3->w4.heap[b]?=some o:=fun{b o} g1 g2 g4=>by
    have g3:b≠l:=by have:=Al g1;omega
    rw[hx4.block b (qat (Al (up2 g1)) (qas hxK.size hx3.size)) (by simpa using g3),hx3.block b (qat (Al (up2 g1)) hxK.size) (by simp[g2,g3,g4]),hxK.block b (Al (up2 g1)) (by simp)];exact up2 g1
   have hD4:w4.heap[Db]?=some (.deferred (some [])):=by
    have g3:Db≠l:=by omega
    have g2:Db≠bs:=by omega
    have g4:Db≠b3:=by omega
    rw[hx4.block Db (qat (Al hD) (qas hxK.size hx3.size)) (by simpa using g3),hx3.block Db (qat (Al hD) hxK.size) (by simp[g2,g3,g4]),hxK.block Db (Al hD) (by simp)];exact hD
   have hs4:w4.heap[bs]?=some (Bl 24 (laid f sv (CT m))):=by
    rw[hx4.block bs (Al hs3) (by simpa using hbsl)];exact hs3
   have hb24:=up4 hb2L (by omega) (Ne.symm hb23);have hd4:=up4 D2.hd hbds (by omega);have H4:=Ctx.start1 (up4 D2.hm hbms (by omega));refine Ad (Bf CY U (Ap hb24 _) ?_);refine Ay U (Af J9 U (Bf Qu U (Ap hd4 _) ?_));refine V0 U Te U H4 at0 D2.hM ?_;rintro o' w5 hM' H5;refine qA ?_;have hbdm:bd≠bm:=fun h=>by have h1:=D3.rd;rw[h,D3.rm]at h1;omega
   have hb25:w5.heap[b2]?=some (Bl 27 [ptr bd]):=by rw[H5.ext.block b2 (Al hb24) (by simp;omega)];exact hb24
   have hd5:w5.heap[bd]?=some (Bl TD (DB A.B.length bs bm A.left A.on)):=by rw[H5.ext.block bd (Al hd4) (by simpa using hbdm)];exact hd4
   replace H:=Ctx.start1 hd5;have HT:∀x,Ext [bd] w5 x->Ctx w5 [bd] x []:=fun x hx=>⟨hx,by simp,List.Pairwise.nil,by simp⟩;refine BR [([0,1,2,3],4),([5,6],7)] (fun x=>Ext [bd] w5 x) [] mixed (Ext.drew _ w5) (AB U U ?_);refine BJ CY U (fun _ hx=>hx.cell (Ap hb25 0) (by simp;omega)) ?_;refine BJ CY U (fun _ hx=>hx.cell (Ap hb25 0) (by simp;omega)) ?_;refine Bn U (AE Lg U (Bm ?_));replace H:=H.drew;refine Bc (.bool _) Ae2 U U U H at0 (by(simp;done)) ?_;rintro w H;refine Ab (Bb (H.ext) (AB U U ?_));refine Bn U (AE P6 U (Bm (Bc (.int _ _) GZ U U U H at0 (by(simp;done)) ?_)));rintro w H;refine Ab (Bb (H.ext) (B3 (Ad (Ac U (qA (Ax (MO (v:=(.int _ _)) U U ?_)))))));refine⟨Db,rfl,by rw[H.ext.block Db (qat (Al hD4) H5.ext.size) (by simp;omega),H5.ext.block Db (Al hD4) (by simp;omega)];exact hD4,?_⟩
   have hxD:=Ext.setB w Db (.deferred none);generalize w.putObj Db (.deferred none)=w6 at hxD |-;have hz5:=hz.then H5.ext (fun x h => .inl (by rw[qaa.1 h];simp));have hz5':=hz5.then H.ext (fun x h => .inl (by rw[qaa.1 h];simp));have hz6:=hz5'.then hxD (fun x h=>by have h9:x=Db:=qaa.1 h;right;omega);have hz06:Ext [bd,bs,bm] w0 w6:=((hx00.trans hx17).mono (by simp)).then hz6 (by intro x h;simp only[qab,qaj,or_false]at h |-;omega)
   have up6:∀{b:Nat} {o:Obj},w5.heap[b]?=some o->b≠bd->b≠Db->w6.heap[b]?=some o:=fun{b o} g1 g2 g3=>by
    rw[hxD.block b (qat (Al g1) H.ext.size) (by simpa using g3),H.ext.block b (Al g1) (by simpa using g2)];exact g1
   refine⟨by rw[onE,ho];rfl,?_,?_⟩
   .rw[onD,ho];refine⟨role,bs,bm,laid f sv (CT m),[],o',D.swept (A':=⟨DW A.B picks,-1,true⟩) hz06 (Ge ..) ?_ (up6 (by rw[H5.ext.block bs (Al hs4) (by simp;omega)];exact hs4) (Ne.symm hbds) (by omega)) (up6 (H5.get at0) (Ne.symm hbdm) (by omega)) hM' (by rw[Nm,D2.len]) ?_ (by have h9:=on_wf D.wf picks;rwa [onD,ho]at h9),hF⟩
    .rw[show(Dev.B ⟨DW A.B picks,-1,true⟩).length=A.B.length from Ge ..,hxD.block bd (Al (H.get at0)) (by simp;omega)];exact H.get at0
    .intro i p hp;have hi:i<A.B.length:=by have:=(qaq.1 hp).1;rwa [Ge]at this
     obtain⟨p0,hp0⟩:∃p0,A.B[i]?=some p0:=⟨_,qbg hi⟩;have hp:(DW A.B picks)[i]?=some p:=hp;rw[QI A.B picks hp0]at hp;cases hp
     have hr4:∀x∈[bd,bs,bm,b3],role x≠4:=by
      intro x h;simp only[qab,qaj,or_false]at h
      rcases h with rfl|rfl|rfl|rfl
      .rw[D2.rd];decide
      .rw[D2.rs];decide
      .rw[D2.rm];decide
      .intro h9;have:=D.lt x (by omega);omega
     rw[QH f sv _ (fun k hk=>by obtain⟨v,hv⟩:=Fc hk;obtain⟨j,rfl,_⟩:=D2.keys k v hv;omega) (by rw[D2.len];exact hi)];have hpart:=D2.part i p0 hp0
     by_cases hne:p0.2=[]
     .rw[if_pos hne,if_neg (fun hin=>by obtain⟨v,hv⟩:=Fc hin;exact hpart.2.2.1 (by rw[hv];rfl) hne)];obtain⟨v,h1,h2⟩:=hpart.1;exact⟨rfl,v,h1,h2.keep hz6 hr4 fun _ h=>h⟩
     .obtain⟨v,hv⟩:=qdc.1 (hpart.2.2.2 hne);rw[if_neg hne,if_pos (Mj hv)];have hxv:xq i=LQ p0 (picks.drop (Np (A.B.take i))):=by rw[hxq];dsimp only;rw[qa6,hp0];rfl
      have hxle:xq i<=p0.2.length:=by
       rw[hxv];unfold LQ
       split
       .exact qak _
       .exact Nat.le_of_lt_succ (qbi _ (Nat.succ_pos _))
      refine⟨rfl,_,rfl,?_⟩;have h9:=(hf i p0 hp0 hne hxle).1;rw[hxv]at h9;exact h9.keep hz6 hr4 fun _ h=>h
   .refine .of hz06 fun x h=>hF x ?_;simp only[qab,qaj,or_false]at h
    rcases h with rfl|rfl|rfl
    .rw[D2.rd];decide
    .rw[D2.rs];decide
    .rw[D2.rm];decide
end Go.Proofs.YtcpgbcabmcbclaaGreatDoor
