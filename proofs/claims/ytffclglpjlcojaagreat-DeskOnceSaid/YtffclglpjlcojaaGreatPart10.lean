/- Part 10 of the proof. -/
import Derived.Test.YtffclglpjlcojaaGreatPart9
set_option maxRecDepth 20000
set_option maxHeartbeats 8000000
namespace Go.Proofs.YtffclglpjlcojaaGreat
open Go.GV Go.Proofs.Tryz
attribute [local irreducible] A7 W Wq Wt
section
variable {P:Program}{r:Option Nat}{ops rest:List Oper}{Q:Exit->Env->World->Prop}{e:Env}{w:World}{dst:Option Tmp}{ty:TypeId}{pos:String}{af:Array Edge}{g:Option (Nat × Bool)}
theorem Akg{t k el:TypeId}{kk:IntKind}{x:Operand}{b:Nat}{o:Obj}{m:List (Int × Value)}(hg:AV ⟨dst,.call ⟨.builtin .len,#[x],#[t]⟩,ty,pos,af,g⟩ ops e=true)(ht:Ip P t=some (k,el))(hx:ev e x=.map (some b))(hb:w.heap[b]?=some o)(hM:Df kk m o)(h:A7 P r ops Q rest (put e dst (.int .i64 (m.length:Int))) w):A7 P r ops Q (⟨dst,.call ⟨.builtin .len,#[x],#[t]⟩,ty,pos,af,g⟩::rest) e w:=by
 obtain⟨es,clock,rfl,hes,_⟩:=hM
 have hl:es.size=m.length:=by
  have:=qaa List.length hes
  simpa using this
 have hgo:(getObj b).run P w=.ok (.map es clock) w:=by simp[getObj,Sem.run,hb]
 exact B7 hg U (by simp[execOp,resolve,invoke,builtin,hx,Builtin.len_,AO (Fv ht),hgo,goInt,hl]) h
end
theorem Agd{ds:List Du}{d:Du}(h:Ea (dm ds) d.id=none):Ku (dm ds) d.id (GG d)=dm (ds++[d]):=by
 rw[<-Afz];generalize dm ds=m at h
 induction m with
 |nil=>rfl
 |cons p m ih =>
  have hp:¬p.1=d.id:=by
   intro hp;simp[Ea,hp]at h
  have hb2:(p.1 == d.id)=false:=by simpa using hp
  have hm2:Ea m d.id=none:=by rw[<-h];simp[Ea,hb2]
  simp[Ku,hp,ih hm2]
def nodeR(N k:Int):Bool:=decide (0<=k) && decide (k<N)
theorem D7{xs:List Int}:(Fl xs).2=0↔(∀x∈xs,Dp x=true)/\C2 xs<=4503599627370496:=by
 unfold Fl
 cases h:xs.all Dp with
 |false =>
  rw[if_pos rfl];refine⟨fun h=>by simp at h,fun h2=>?_⟩;rw[qaw.2 h2.1]at h;cases h
 |true =>
  rw[if_neg (by decide)];rw[qaw]at h
  split
  .rename_i h3;exact⟨fun _=>⟨h,h3⟩,fun _=>rfl⟩
  .rename_i h3;exact⟨fun h=>by simp at h,fun h4=>absurd h4.2 h3⟩
theorem FJ{ds:List Du}{nx:Int}:ofC ds nx=0↔ds.length<=64/\(1<=nx/\nx<=4611686018427387904)/\Gf nx 0 ds=true/\(Fl (ds.map (·.am))).2=0:=by
 unfold ofC
 by_cases h1:64<ds.length
 .rw[if_pos h1];exact⟨fun h=>by simp at h,fun h=>absurd h.1 (by omega)⟩
 rw[if_neg h1]
 by_cases h2:1<=nx/\nx<=4611686018427387904
 .rw[qan h2.1,qan h2.2,if_neg (by decide)]
  cases h3:Gf nx 0 ds with
  |false=>rw[if_pos rfl];exact⟨fun h=>by simp at h,fun h=>by cases h.2.2.1⟩
  |true=>rw[if_neg (by decide)];exact⟨fun h=>⟨by omega,h2,rfl,h⟩,fun h=>h.2.2.2⟩
 .have:(decide (1<=nx) && decide (nx<=4611686018427387904))=false:=by
   rw[Bool.eq_false_iff];intro h;simp only[qae,qar]at h;exact h2 h
  rw[if_pos this];exact⟨fun h=>by simp at h,fun h=>absurd h.2.1 h2⟩
theorem Akh{nx a b:Int}{ds:List Du}(h:Gf nx b ds=true)(hab:a<=b:=by omega):Gf nx a ds=true:=by
 cases ds with
 |nil=>rfl
 |cons d ds =>
  simp only[Gf,qae,qar]at h |-;exact⟨⟨h.1.1,by omega,h.1.2.2⟩,h.2⟩
def EH:List Du->List Int->List Du
 | [],_=>[]
 |d::ds,[]=>d::ds
 |d::ds,x::xs=>if d.held=true then d::EH ds (x::xs)else if d.am=x then EH ds xs else{ d with am:=d.am - x }::EH ds xs
theorem SR(ds:List Du):EH ds []=ds:=by cases ds <;> rfl
theorem IA{d:Du}(h:d.held=true)(ds:List Du)(xs:List Int):EH (d::ds) xs=d::EH ds xs:=by
 cases xs with
 |nil=>rw[SR,SR]
 |cons x xs=>show(if d.held=true then _ else _)=_;rw[if_pos h]
theorem IB{d:Du}(h:¬d.held=true)(ds:List Du)(x:Int)(xs:List Int):EH (d::ds) (x::xs)=(if d.am=x then[]else[{ d with am:=d.am - x }])++EH ds xs:=by
 show(if d.held=true then _ else _)=_;rw[if_neg h]
 split <;> rfl
theorem IC(d:Du)(ds:List Du):opn (d::ds)=(if d.held=true then[]else[d])++opn ds:=by
 unfold opn;rw[qbw];cases d.held <;> rfl
def PayIn(os:List Du)(xs:List Int):Prop:=os.length=xs.length/\∀(i:Nat) (d:Du) (x:Int),os[i]?=some d->xs[i]?=some x->0<=x/\x<=d.am
theorem PayIn.tail{d:Du}{x:Int}{os:List Du}{xs:List Int}(h:PayIn (d::os) (x::xs)):(0<=x/\x<=d.am)/\PayIn os xs :=
 ⟨h.2 0 d x rfl rfl,by have:=h.1;simp only[qa9]at this;omega,fun i e y he hy=>h.2 (i+1) e y he hy⟩
theorem PayIn.cons{d:Du}{os:List Du}{xs:List Int}(h:PayIn (d::os) xs):∃x xs',xs=x::xs':=by
 cases xs with
 |nil=>have:=h.1;simp at this
 |cons x xs=>exact⟨x,xs,rfl⟩
theorem J5{motive:List Du->List Int->Prop}(h0:∀xs,motive [] xs)(h1:∀d ds xs,d.held=true->motive ds xs->motive (d::ds) xs)(h2:∀d ds x xs,¬d.held=true->0<=x->x<=d.am->motive ds xs->motive (d::ds) (x::xs)):∀(ds:List Du) (xs:List Int),PayIn (opn ds) xs->motive ds xs
 | [],xs,_=>h0 xs
 |d::ds,xs,h=>by
  rw[IC]at h
  by_cases hd:d.held=true
  .rw[if_pos hd]at h;exact h1 d ds xs hd (J5 h0 h1 h2 ds xs h)
  .rw[if_neg hd]at h;obtain⟨x,xs,rfl⟩:=PayIn.cons h;obtain⟨ha,hb⟩:=PayIn.tail h;exact h2 d ds x xs hd ha.1 ha.2 (J5 h0 h1 h2 ds xs hb)
theorem Age{nx:Int}{ds:List Du}{xs:List Int}(h:PayIn (opn ds) xs):∀ah,Gf nx ah ds=true->Gf nx ah (EH ds xs)=true:=by
 refine J5 (motive:=fun ds xs=>∀ah,Gf nx ah ds=true->Gf nx ah (EH ds xs)=true) ?_ ?_ ?_ ds xs h
 .intro xs ah h;exact h
 .intro d ds xs hd ih ah h;rw[IA hd];simp only[Gf,qae,qar]at h |-;exact⟨h.1,ih _ h.2⟩
 .intro d ds x xs hd h0 h1 ih ah h;rw[IB hd];simp only[Gf,qae,qar]at h
  by_cases he:d.am=x
  .rw[if_pos he];exact Akh (ih _ h.2)
  .rw[if_neg he];show Gf nx ah ({ d with am:=d.am - x }::EH ds xs)=true;simp only[Gf,qae,qar];refine⟨⟨?_,h.1.2⟩,ih _ h.2⟩;have hm:=h.1.1;unfold E7 Dp at hm |-;simp only[qae,qar,qcr,qdh]at hm |-;exact⟨hm.1,by omega,by omega,hm.2.2.2⟩
theorem Agf{ds:List Du}{xs:List Int}(h:PayIn (opn ds) xs):(EH ds xs).length<=ds.length:=by
 refine J5 (motive:=fun ds xs=>(EH ds xs).length<=ds.length) ?_ ?_ ?_ ds xs h
 .intro xs;exact qam _
 .intro d ds xs hd ih;rw[IA hd];simpa using ih
 .intro d ds x xs hd _ _ ih;rw[IB hd,qat,qa9]
  split <;> simp <;> omega
theorem Agg(c:Du->Int)(hc:∀d z,c { d with am:=z }=c d){ds:List Du}{xs:List Int}(h:PayIn (opn ds) xs):C2 ((EH ds xs).map fun d=>c d*d.am)=C2 (ds.map fun d=>c d*d.am) - C2 (List.zipWith (fun d x=>c d*x) (opn ds) xs):=by
 refine J5 (motive:=fun ds xs=>C2 ((EH ds xs).map fun d=>c d*d.am)=C2 (ds.map fun d=>c d*d.am) - C2 (List.zipWith (fun d x=>c d*x) (opn ds) xs)) ?_ ?_ ?_ ds xs h
 .intro xs;rfl
 .intro d ds xs hd ih;rw[IA hd,IC,if_pos hd,qay,qay,Cm,Cm,ih,qca];omega
 .intro d ds x xs hd _ _ ih;rw[IB hd,IC,if_neg hd,qck,qca,qav,F8,ih,qay,Cm];show _=_ - C2 ((c d*x)::List.zipWith _ _ _);rw[Cm]
  by_cases he:d.am=x
  .rw[if_pos he,he];show C2 []+_=_;have:C2 []=0:=rfl;rw[this];omega
  .rw[if_neg he];show C2 [c { d with am:=d.am - x }*(d.am - x)]+_=_;have h1:∀z:Int,C2 [z]=z:=fun z=>by rw[Cm];show z+0=z;omega
   rw[h1,hc,Int.mul_sub];omega
theorem Aki{nx:Int}{ds:List Du}{xs:List Int}(h:PayIn (opn ds) xs)(ho:ofC ds nx=0):ofC (EH ds xs) nx=0:=by
 obtain⟨h1,h2,h3,h4⟩:=FJ.1 ho;have h5:=Age h 0 h3;have h6:=Agf h;have h7:=Agg (fun _=>1) (fun _ _=>rfl) h;simp only[Int.one_mul]at h7;obtain⟨ha,hb⟩:=D7.1 h4;refine FJ.2 ⟨by omega,h2,h5,D7.2 ⟨fun x hx=>?_,?_⟩⟩
 .obtain⟨d,hd,rfl⟩:=qah.1 hx;have:=((Kc h5).1 d hd).2.2.2;unfold E7 at this;simp only[qae]at this;exact this.2.2.1
 .have h8:0<=C2 (List.zipWith (fun _ x=>x) (opn ds) xs):=Hw fun x hx=>by
   obtain⟨i,hi⟩:=qby.1 hx;rw[qed]at hi
   cases h9:(opn ds)[i]? with
   |none=>rw[h9]at hi;cases hi
   |some d =>
    cases h10:xs[i]? with
    |none=>rw[h9,h10]at hi;cases hi
    |some y =>
     rw[h9,h10]at hi
     injection hi with hi
     have:=(h.2 i d y h9 h10).1;omega
  show C2 ((EH ds xs).map fun d=>d.am)<=_;rw[h7];show C2 (ds.map fun d=>d.am) - _<=_;have hb':C2 (ds.map fun d=>d.am)<=4503599627370496:=hb;omega
def Ma(ds:List Du):List (Du × Int)->Prop
 | []=>True
 |p::ps=>(CQ ds p.1.id=some p.1/\p.1.held=false/\0<=p.2/\p.2<=p.1.am)/\Ma (Ib ds p.1.id p.2) ps
def Lp(ds:List Du):List (Du × Int)->List Du
 | []=>ds
 |p::ps=>Lp (Ib ds p.1.id p.2) ps
theorem VI(ps qs:List (Du × Int)):∀ds,Lp ds (ps++qs)=Lp (Lp ds ps) qs:=by
 induction ps with
 |nil=>intro ds;rfl
 |cons p ps ih=>intro ds;exact ih _
theorem Uq{ps qs:List (Du × Int)}:∀{ds},Ma ds (ps++qs)->Ma ds ps/\Ma (Lp ds ps) qs:=by
 induction ps with
 |nil=>intro ds h;exact⟨trivial,h⟩
 |cons p ps ih=>intro ds h;exact⟨⟨h.1,(ih h.2).1⟩,(ih h.2).2⟩
theorem VJ{ds:List Du}{ps:List (Du × Int)}(h:Ma ds ps){i:Nat}{p:Du × Int}(hp:ps[i]?=some p):(CQ (Lp ds (ps.take i)) p.1.id=some p.1/\p.1.held=false/\0<=p.2/\p.2<=p.1.am)/\Lp ds (ps.take (i+1))=Ib (Lp ds (ps.take i)) p.1.id p.2:=by
 have hs:ps=ps.take i++ps.drop i:=(qbq i ps).symm
 have hd:ps.drop i=p::ps.drop (i+1):=by
  have hl:=CD hp;rw[qdc hl];rw[qbl hl]at hp
  injection hp with hp
  rw[hp]
 rw[hs,hd]at h;refine⟨(Uq h).2.1,?_⟩;rw[qb6,hp];exact VI _ [p] ds
theorem Abi{ds:List Du}{p:Du × Int}(h:CQ ds p.1.id=some p.1/\p.1.held=false/\0<=p.2/\p.2<=p.1.am):Pm ds p.1.id p.2=0/\VF ds p.1.id p.2=Ib ds p.1.id p.2:=by
 have h1:Pm ds p.1.id p.2=0:=by
  unfold Pm pC;rw[h.1];show(if p.2<0 then(1:Int)else if p.1.held=true then 14 else if p.1.am<p.2 then 12 else 0)=0;rw[if_neg (by omega),h.2.1,if_neg (by decide),if_neg (by omega)]
 exact⟨h1,by unfold VF;rw[if_pos h1]⟩
theorem Agh{P ds:List Du}{k x:Int}(h:∀d∈P,d.id≠k):Ib (P++ds) k x=P++Ib ds k x:=by
 induction P with
 |nil=>rfl
 |cons y P ih =>
  show(if y.id=k then _ else y::Ib (P++ds) k x)=_;rw[if_neg (h y (qak ..)),ih fun d hd=>h d (qaj _ hd)];rfl
theorem Abj{P ds:List Du}{k:Int}(h:∀d∈P,d.id≠k):CQ (P++ds) k=CQ ds k:=by
 unfold CQ;rw[List.find?_append,qeo.2 fun d hd=>by simpa using h d hd];rfl
theorem Akj{ds:List Du}{xs:List Int}(h:PayIn (opn ds) xs):∀P:List Du,((P++ds).map (·.id)).Nodup->Ma (P++ds) ((opn ds).zip xs)/\Lp (P++ds) ((opn ds).zip xs)=P++EH ds xs:=by
 refine J5 (motive:=fun ds xs=>∀P:List Du,((P++ds).map (·.id)).Nodup->Ma (P++ds) ((opn ds).zip xs)/\Lp (P++ds) ((opn ds).zip xs)=P++EH ds xs) ?_ ?_ ?_ ds xs h
 .intro xs P _;exact⟨trivial,rfl⟩
 .intro d ds xs hd ih P hn;rw[IC,if_pos hd,IA hd,qca];have:=ih (P++[d]) (by rw[qas];exact hn);rw[qas,qas]at this;exact this
 .intro d ds x xs hd h0 h1 ih P hn
  have hP:∀e∈P,e.id≠d.id:=fun e he h=>by
   rw[qav,qdo]at hn;exact hn.2.2 e.id (qa4 (f:=fun d:Du=>d.id) he) d.id (qa4 (f:=fun d:Du=>d.id) (qak ..)) h
  have hpl:Ib (P++d::ds) d.id x=P++((if d.am=x then[]else[{ d with am:=d.am - x }])++ds):=by
   rw[Agh hP]
   congr 1
   show(if d.id=d.id then _ else _)=_;rw[if_pos rfl]
   split <;> rfl
  rw[IC,if_neg hd,IB hd];show((CQ (P++d::ds) d.id=some d/\d.held=false/\0<=x/\x<=d.am)/\Ma (Ib (P++d::ds) d.id x) ((opn ds).zip xs))/\Lp (Ib (P++d::ds) d.id x) ((opn ds).zip xs)=_;rw[hpl,<-qas]
  have hn2:((P++(if d.am=x then([]:List Du)else[{ d with am:=d.am - x }])++ds).map fun d:Du=>d.id).Nodup:=by
   split
   .rw[qa0];refine List.Nodup.sublist ?_ hn;exact List.Sublist.map _ (List.Sublist.append (List.Sublist.refl _) (List.sublist_cons_self _ _))
   .rw[qas,qav]at *;exact hn
  obtain⟨i1,i2⟩:=ih _ hn2;refine⟨⟨⟨?_,by simpa using hd,h0,h1⟩,i1⟩,by rw[i2,qas]⟩;rw[Abj hP];unfold CQ;rw[qb7,show(d.id == d.id)=true by simp]
theorem Agi{l:List Int}(h:l.Pairwise (·<·)):l.Nodup:=h.imp fun h=>by omega
theorem Lq{nx:Int}{ds:List Du}(h:ofC ds nx=0):(ds.map (·.id)).Nodup:=Agi (Kc (FJ.1 h).2.2.1).2.1
theorem Agj{nx:Int}{ds:List Du}(h:ofC ds nx=0){d:Du}(hd:d∈ds):0<d.id/\d.id<nx/\E7 d=true:=by
 have:=(Kc (FJ.1 h).2.2.1).1 d hd;exact⟨this.1,this.2.2⟩
theorem Ei{d:Du}(h:E7 d=true):(0<=d.fr/\d.fr<16)/\(0<=d.to/\d.to<16)/\d.fr≠d.to/\(1<=d.am/\d.am<=4503599627370496)/\(1<=d.we/\d.we<=1000)/\0<=d.un:=by
 unfold E7 Dp SK at h;simp only[qae,qar,qcr,qdh]at h;exact⟨h.1.1,h.1.2.1,h.1.2.2,⟨h.2.1,h.2.2.1.2⟩,⟨h.2.2.2.1,h.2.2.2.2.1⟩,h.2.2.2.2.2⟩
def XK(ds:List Du):Prop:=∀d∈ds,0<=d.am/\d.am<=4503599627370496
theorem of_am{nx:Int}{ds:List Du}(h:ofC ds nx=0):XK ds:=fun d hd=>by
 have:=(Ei (Agj h hd).2.2).2.2.2.1;omega
theorem Akk{ds:List Du}{k x:Int}{e:Du}(h:XK ds)(hf:CQ ds k=some e)(h0:0<=x)(h1:x<=e.am):XK (Ib ds k x)/\(Ib ds k x).length<=ds.length:=by
 induction ds with
 |nil=>cases hf
 |cons d ds ih =>
  unfold CQ at hf;rw[qb7]at hf;have hd:=h d (qak ..);unfold Ib
  by_cases hk:d.id=k
  .rw[show(d.id == k)=true by simpa using hk]at hf
   injection hf with hf
   subst hf;rw[if_pos hk]
   split
   .exact⟨fun e he=>h e (qaj _ he),by simp⟩
   .refine⟨fun e he=>?_,by simp⟩
    rcases qai.1 he with rfl|he
    .exact⟨by show 0<=d.am - x;omega,by show d.am - x<=_;omega⟩
    .exact h e (qaj _ he)
  .rw[show(d.id == k)=false by simpa using hk]at hf;obtain⟨i1,i2⟩:=ih (fun e he=>h e (qaj _ he)) hf;rw[if_neg hk];refine⟨fun e he=>?_,by simpa using i2⟩
   rcases qai.1 he with rfl|he
   .exact hd
   .exact i1 e he
theorem Zh{ds:List Du}{ps:List (Du × Int)}(h:XK ds)(hp:Ma ds ps):∀i,XK (Lp ds (ps.take i))/\(Lp ds (ps.take i)).length<=ds.length
 |0=>⟨h,qam _⟩
 |i+1=>by
  obtain⟨i1,i2⟩:=Zh h hp i
  cases hi:ps[i]? with
  |none=>rw[qb6,hi];show XK (Lp ds (ps.take i++[]))/\(Lp ds (ps.take i++[])).length<=_;rw[qa0];exact⟨i1,i2⟩
  |some p =>
   obtain⟨h1,h2⟩:=VJ hp hi;rw[h2];obtain⟨h3,h4⟩:=Akk i1 h1.1 h1.2.2.1 h1.2.2.2;exact⟨h3,qa6 h4 i2⟩
theorem Ic(rs:List Int)(os:List Du)(net:Bool):(BO rs os net).length=os.length+if net=true then 0 else 2*rs.length:=by
 unfold BO;rw[qat,qal]
 split
 .rfl
 .rw[Zf]
theorem Kd{rs:List Int}{os:List Du}{net:Bool}{i:Nat}{d:Du}(h:os[i]?=some d):(BO rs os net)[i]?=some (Mx d):=by
 unfold BO;have hl:=CD h;rw[qcb (by rw[qal];exact hl),qa1,h];rfl
theorem LG{rs:List Int}{os:List Du}{j:Nat}{e:Ed}(h:(NT rs)[j]?=some e):(BO rs os false)[os.length+j]?=some e:=by
 unfold BO;rw[qbv (by rw[qal];omega),qal,show os.length+j - os.length=j by omega,if_neg (by decide),h]
def Zi(n:Nat)(d:Du):Prop:=E7 d=true/\d.fr<n/\d.to<n
theorem SU{n:Nat}:∀{os:List Du},(∀d∈os,Zi n d)->((((os.map Mx).map HS).sum:Nat):Int)<=1000*C2 (os.map Du.am)
 | [],_=>by show(0:Int)<=1000*0;omega
 |d::os,h=>by
  have ih:=SU (os:=os) fun e he=>h e (qaj _ he);have hm:=Ei (h d (qak ..)).1;rw[qay,qay,List.sum_cons,qay,Cm];have h1:HS (Mx d)<=d.am.toNat*1000:=qd6 _ (by show(-d.we).natAbs<=1000;omega);have h2:((d.am.toNat:Nat):Int)=d.am:=qcx (by omega);have h3:((HS (Mx d):Nat):Int)<=d.am*1000:=by omega
  rw[qdq,Int.mul_add];omega
theorem Abk{rs:List Int}{os:List Du}{net:Bool}(hn:rs.length<=16)(hm:os.length<=64)(hrs:∀x∈rs,Dp x=true)(hos:∀d∈os,Zi rs.length d)(hsum:C2 (os.map Du.am)<=4503599627370496):CA ((rs.length+1:Nat):Int) (BO rs os net)=true:=by
 have hl:=Ic rs os net;have hE:(BO rs os net).length<=200:=by rw[hl];split <;> omega
 have hall:(BO rs os net).all (Gx ((rs.length+1:Nat):Int))=true:=by
  rw[qaw];intro e he;unfold BO at he
  rcases qbc.1 he with he|he
  .obtain⟨d,hd,rfl⟩:=qah.1 he;obtain⟨h1,h2,h3⟩:=hos d hd;have:=Ei h1;unfold Gx Nc Mx;simp only[qae,qar];omega
  .split at he
   .cases he
   .unfold NT at he;obtain⟨j,hj,rfl⟩:=qah.1 he;rw[qa5]at hj;obtain⟨r,hr⟩:=AE (l:=rs) (i:=j / 2);have hr2:=CT.1 (hrs r (qac hr));unfold Gx Nc;rw[Bv hr]
    split
    .simp only[qae,qar];omega
    .simp only[qae,qar];omega
 have hp:Gy (BO rs os net)<=4611686018427387904:=by
  unfold Gy BO;rw[qav,List.sum_append];have h1:=SU hos
  have h2:((if net=true then[]else NT rs).map HS).sum=0:=by
   split
   .rfl
   .unfold NT;rw[qcf]
    have:∀l:List Nat,(l.map (HS ∘ fun j=>if j % 2=0 then(⟨rs.length,(j / 2:Nat),rs.getD (j / 2) 0,0⟩:Ed)else⟨(j / 2:Nat),rs.length,4503599627370496,0⟩)).sum=0:=by
     intro l
     induction l with
     |nil=>rfl
     |cons j l ih =>
      rw[qay,List.sum_cons,ih];show HS (if j % 2=0 then _ else _)+0=0
      split <;> rfl
    exact this _
  rw[h2];omega
 unfold CA;rw[hall,qan hE,qan hp,qan (show(1:Int)<=((rs.length+1:Nat):Int)by omega),qan (show((rs.length+1:Nat):Int)<=40 by omega)];rfl
theorem QP{g:Gr}{x:Nat->Int}{n m:Nat}(hE:∀k,k<n->(g.f (m+2*k)=n/\g.t (m+2*k)=k)/\g.f (m+2*k+1)=k/\g.t (m+2*k+1)=n){v:Nat}(hv:v<n):∀j,j<=n->E0 g x (m+2*j) v=E0 g x m v+if v<j then x (m+2*v) - x (m+2*v+1)else 0
 |0,_=>by rw[if_neg (by omega)];simp
 |j+1,hj=>by
  obtain⟨⟨h1,h2⟩,h3,h4⟩:=hE j (by omega);rw[show m+2*(j+1)=m+2*j+1+1 by omega,GW,GW,h1,h2,h3,h4,QP hE hv j (by omega),Gd (show ¬n=v by omega)]
  by_cases e:j=v
  .subst e;rw[GF rfl,if_neg (by omega),if_pos (by omega)];omega
  .rw[Gd e]
   by_cases h:v<j
   .rw[if_pos h,if_pos (by omega)];omega
   .rw[if_neg h,if_neg (by omega)];omega
theorem VK{N:Int}{es:List Ed}{i:Nat}{e:Ed}(h:es[i]?=some e):(grE N es).f i=e.f.toNat:=by show(es.getD i e0).f.toNat=_;rw[Bv h]
theorem VL{N:Int}{es:List Ed}{i:Nat}{e:Ed}(h:es[i]?=some e):(grE N es).t i=e.t.toNat:=by show(es.getD i e0).t.toNat=_;rw[Bv h]
theorem VM{N:Int}{es:List Ed}{i:Nat}{e:Ed}(h:es[i]?=some e):(grE N es).co i=e.cost:=by show(es.getD i e0).cost=_;rw[Bv h]
def byK(rs:List Int)(os:List Du)(net:Bool)(fl:List Int)(k:Nat):Int:=E0 (grE ((rs.length+1:Nat):Int) (BO rs os net)) (flE fl) os.length k
theorem VN{rs:List Int}{os:List Du}{net:Bool}{fl:List Int}(hrs:∀x∈rs,0<=x)(hos:∀d∈os,Zi rs.length d)(hf:Gs ((rs.length+1:Nat):Int) (BO rs os net) fl=true) :
  PayIn os (fl.take os.length)/\fl.length=(BO rs os net).length/\(∀(k:Nat) (r:Int),rs[k]?=some r->(net=true->byK rs os net fl k=0) /\ -r<=byK rs os net fl k/\byK rs os net fl k<=4503599627370496)/\BJ (byK rs os net fl) rs.length=0:=by
 obtain⟨hw,hz⟩:=F7 hf;obtain⟨hl,hr,hin⟩:=C5 hw;have hlen:=Ic rs os net;refine⟨⟨by rw[qbb];omega,fun i d x hd hx=>?_⟩,hl,fun k r hk=>?_,?_⟩
 .have hi:=CD hd;rw[qb5,if_pos hi]at hx;exact hin i (Mx d) x (Kd hd) hx
 .have hkn:=CD hk;have h0:=hz k (by omega);have hE:(grE ((rs.length+1:Nat):Int) (BO rs os net)).E=(BO rs os net).length:=rfl;unfold BK at h0;rw[hE,hlen]at h0;have hr0:=hrs r (qac hk)
  cases net with
  |true =>
   rw[if_pos rfl,qdn]at h0;have h0':byK rs os true fl k=0:=h0;exact⟨fun _=>h0',by omega,by omega⟩
  |false =>
   rw[if_neg (by decide),QP (x:=flE fl) (n:=rs.length) (fun j hj=>?_) hkn rs.length (qam _),if_pos hkn]at h0
   .obtain⟨y,hy⟩:=AE (l:=fl) (i:=os.length+2*k) (h:=by rw[hl,hlen,if_neg (by decide)];omega);obtain⟨z,hzz⟩:=AE (l:=fl) (i:=os.length+2*k+1) (h:=by rw[hl,hlen,if_neg (by decide)];omega);have h1:=hin _ _ y (LG (Nl hk)) hy;have h2:=hin _ _ z (by rw[qcm];exact LG (P7 hkn)) hzz;rw[show flE fl (os.length+2*k)=y from Bv hy,show flE fl (os.length+2*k+1)=z from Bv hzz]at h0;have h0':byK rs os false fl k+(y - z)=0:=h0;dsimp only at h1 h2;exact⟨(fun h=>by cases h),by omega,by omega⟩
   .obtain⟨r',hr'⟩:=AE (h:=hj);have e1:(BO rs os false)[os.length+2*j]?=_:=LG (Nl hr');have e2:(BO rs os false)[os.length+2*j+1]?=some ⟨j,rs.length,4503599627370496,0⟩:=by rw[qcm];exact LG (P7 hj)
    rw[VK e1,VL e1,VK e2,VL e2];dsimp only;omega
 .have:=over_all ⟨rs.length,os.length,(grE ((rs.length+1:Nat):Int) (BO rs os net)).f,(grE ((rs.length+1:Nat):Int) (BO rs os net)).t,fun _=>0⟩ ⟨fun i hi=>?_,fun i hi=>?_⟩ (flE fl)
  .exact this
  .obtain⟨d,hd⟩:=AE (l:=os) (i:=i) (h:=hi);obtain⟨h1,h2,h3⟩:=hos d (qac hd);have:=Ei h1;dsimp only;rw[VK (Kd hd)];unfold Mx;dsimp only;omega
  .obtain⟨d,hd⟩:=AE (l:=os) (i:=i) (h:=hi);obtain⟨h1,h2,h3⟩:=hos d (qac hd);have:=Ei h1;dsimp only;rw[VL (Kd hd)];unfold Mx;dsimp only;omega
theorem Abl{xs ys:List Int}(hl:xs.length=ys.length)(hx:∀x∈xs,Dp x=true)(hy:∀y∈ys,GX y=true)(hs:C2 ys=0)(hz:∀z∈Dr xs ys,Dp z=true):DY xs ys=0:=by
 unfold DY Jb;rw[qan hl,qaw.2 hx,qaw.2 hy,qan hs,if_neg (by decide),if_neg,if_neg]
 .rw[qaw.2 hz];decide
 .rw[qaw.2 fun z h=>qan (CT.1 (hz z h)).1];decide
theorem QQ:∀{xs ys:List Int},xs.length=ys.length->C2 (Dr xs ys)=C2 xs+C2 ys
 | [],[],_=>rfl
 | [],_::_,h=>by cases h
 |_::_,[],h=>by cases h
 |x::xs,y::ys,h=>by
  have ih:=QQ (xs:=xs) (ys:=ys) (by simpa using h);show C2 ((x+y)::Dr xs ys)=_;rw[Cm,Cm,Cm,ih];omega
theorem VO{xs:List Int}(h:∀x∈xs,0<=x):∀x∈xs,x<=C2 xs:=by
 induction xs with
 |nil=>intro x hx;cases hx
 |cons y xs ih =>
  intro x hx;rw[Cm];have h0:=h y (qak ..);have h1:=Hw fun z hz=>h z (qaj _ hz)
  rcases qai.1 hx with rfl|hx
  .omega
  .have:=ih (fun z hz=>h z (qaj _ hz)) x hx;omega
theorem Cv{acs:List Ac}:F9 acs=0↔acs.length<=16/\(∀a∈acs,Nj a=true)/\(Fl (acs.map Ac.ba)).2=0:=by
 unfold F9
 by_cases h1:16<acs.length
 .rw[if_pos h1];exact⟨fun h=>by simp at h,fun h=>absurd h.1 (by omega)⟩
 rw[if_neg h1]
 cases h2:acs.all Nj with
 |false =>
  rw[if_pos rfl];refine⟨fun h=>by simp at h,fun h=>?_⟩;rw[qaw.2 h.2.1]at h2;cases h2
 |true =>
  rw[if_neg (by decide)];rw[qaw]at h2;exact⟨fun h=>⟨by omega,h2,h⟩,fun h=>h.2.2⟩
theorem G1{a:Ac}:Nj a=true↔(0<=a.ba/\a.ba<=4503599627370496)/\0<=a.re/\a.re<=4503599627370496:=by
 unfold Nj;rw[qae,CT,CT]
theorem Akl{acs:List Ac}{by':Nat->Int}(hs:DY (acs.map Ac.ba) (tab by' acs.length)=0){k:Nat}{a:Ac}(hk:acs[k]?=some a):(shA acs (tab by' acs.length))[k]?=some ⟨a.ba+by' k,a.re⟩:=by
 unfold shA;rw[if_pos hs,qed,hk,BW (CD hk)]
theorem Ur{acs:List Ac}{by':Nat->Int}:(shA acs (tab by' acs.length)).length=acs.length:=by
 unfold shA
 split
 .rw[qc5,Ds];omega
 .rfl
theorem OZ{acs:List Ac}{by':Nat->Int}(ha:F9 acs=0)(hb:∀(k:Nat) (a:Ac),acs[k]?=some a -> -(Eh a)<=by' k/\by' k<=4503599627370496)(hs:BJ by' acs.length=0) :
  DY (acs.map Ac.ba) (tab by' acs.length)=0/\F9 (shA acs (tab by' acs.length))=0:=by
 obtain⟨h1,h2,h3⟩:=Cv.1 ha;obtain⟨h4,h5⟩:=D7.1 h3;have hl:(acs.map Ac.ba).length=(tab by' acs.length).length:=by rw[qal,Ds]
 have hsum:C2 (tab by' acs.length)=0:=by rw[Aft];exact hs
 have hat:∀z∈Dr (acs.map Ac.ba) (tab by' acs.length),∃k a,acs[k]?=some a/\z=a.ba+by' k:=fun z hz=>by
  obtain⟨k,hk⟩:=qby.1 hz;have hkl:=CD hk;unfold Dr at hkl;rw[qc5,qal,Ds]at hkl;obtain⟨a,hka⟩:=AE (l:=acs) (i:=k);rw[Lk (x:=a.ba) (y:=by' k) (by rw[qa1,hka];rfl) (BW (by omega))]at hk
  injection hk with hk
  exact⟨k,a,hka,hk.symm⟩
 have hnn:∀z∈Dr (acs.map Ac.ba) (tab by' acs.length),0<=z:=fun z hz=>by
  obtain⟨k,a,hk,rfl⟩:=hat z hz;have:=hb k a hk;have h6:=G1.1 (h2 a (qac hk));unfold Eh at this;omega
 have htot:=QQ hl;rw[hsum]at htot
 have hmay:∀z∈Dr (acs.map Ac.ba) (tab by' acs.length),Dp z=true:=fun z hz=>by
  have:=VO hnn z hz;exact CT.2 ⟨hnn z hz,by omega⟩
 have hC:DY (acs.map Ac.ba) (tab by' acs.length)=0:=by
  refine Abl hl h4 (fun y hy=>?_) hsum hmay;obtain⟨k,hk⟩:=qby.1 hy;obtain⟨hkl,rfl⟩:=Q8 hk;obtain⟨a,hka⟩:=AE (l:=acs) (i:=k) (h:=hkl);have:=hb k a hka;have h6:=G1.1 (h2 a (qac hka));unfold Eh at this;unfold GX;rw[qae,qar,qar];omega
 have hmap:(shA acs (tab by' acs.length)).map Ac.ba=Dr (acs.map Ac.ba) (tab by' acs.length):=by
  unfold shA Dr;rw[if_pos hC,List.map_zipWith,List.zipWith_map_left]
 refine⟨hC,Cv.2 ⟨by rw[Ur];exact h1,fun a' ha'=>?_,D7.2 ⟨by rw[hmap];exact hmay,by rw[hmap];omega⟩⟩⟩;obtain⟨k,hk⟩:=qby.1 ha';have hkl:=CD hk;rw[Ur]at hkl;obtain⟨a,hka⟩:=AE (l:=acs) (i:=k) (h:=hkl);have h7:=Akl hC hka;rw[h7]at hk
 injection hk with hk
 subst hk;have h8:Dp (a.ba+by' k)=true:=hmay _ (qac (i:=k) (Lk (by rw[qa1,hka];rfl) (BW hkl)));unfold Nj at *;rw[qae];have:=h2 a (qac hka);rw[qae]at this;exact⟨h8,this.2⟩
structure Bright(rs:List Int)(ds:List Du):Prop where
 n16:rs.length<=16
 may:∀x∈rs,Dp x=true
 m64:ds.length<=64
 due:∀d∈ds,Zi rs.length d
 tot:C2 (ds.map Du.am)<=4503599627370496
theorem ID{rs:List Int}{ds:List Du}(hl:ds.length<=1000000:=by omega):DS rs ds=true↔Bright rs ds:=by
 rw[<-Aqs rs ds hl];unfold r19B;simp only[qae,qar,qaw,dueB];constructor
 .rintro⟨⟨h1,h2⟩,h3,h4,h5⟩;exact⟨h1,h3,h2,fun d hd=>⟨(h4 d hd).1,(h4 d hd).2.1,(h4 d hd).2.2⟩,(D7.1 h5).2⟩
 .rintro⟨h1,h3,h2,h4,h5⟩;refine⟨⟨h1,h2⟩,h3,fun d hd=>⟨(h4 d hd).1,(h4 d hd).2.1,(h4 d hd).2.2⟩,D7.2 ⟨fun x hx=>?_,h5⟩⟩;obtain⟨d,hd,rfl⟩:=qah.1 hx;have:=(Ei (h4 d hd).1).2.2.2.1;exact CT.2 ⟨by omega,this.2⟩
theorem Zj{ds:List Du}{d:Du}(h:d∈opn ds):d∈ds/\d.held=false:=by
 unfold opn at h;rw[qbe]at h;exact⟨h.1,by simpa using h.2⟩
theorem Jc(ds:List Du):(opn ds).length<=ds.length:=qdz _ _
theorem Zk{ds:List Du}(h:∀d∈ds,0<=d.am):C2 ((opn ds).map Du.am)<=C2 (ds.map Du.am):=by
 induction ds with
 |nil=>exact qa3 _
 |cons d ds ih =>
  have h0:=h d (qak ..);have ih:=ih fun e he=>h e (qaj _ he);rw[IC,qay,Cm]
  split
  .rw[qca];omega
  .show C2 (d.am::(opn ds).map Du.am)<=_;rw[Cm];omega
theorem Bright.open'{rs:List Int}{ds:List Du}(h:Bright rs ds):Bright rs (opn ds) :=
 ⟨h.n16,h.may,qa6 (Jc ds) h.m64,fun d hd=>h.due d (Zj hd).1,qbh (Zk fun d hd=>by have:=(Ei (h.due d hd).1).2.2.2.1;omega) h.tot⟩
theorem Bright.right{rs:List Int}{ds:List Du}(h:Bright rs ds)(net:Bool):CA ((rs.length+1:Nat):Int) (BO rs (opn ds) net)=true :=
 Abk h.n16 h.open'.m64 h.may h.open'.due h.open'.tot
theorem My{acs:List Ac}{ds:List Du}{nx:Int}(ha:F9 acs=0)(hd:ofC ds nx=0)(hb:∀d∈ds,d.fr<acs.length/\d.to<acs.length):Bright (acs.map Eh) ds:=by
 obtain⟨h1,h2,h3⟩:=Cv.1 ha;obtain⟨h4,h5,h6,h7⟩:=FJ.1 hd;refine⟨by rw[qal];exact h1,fun x hx=>?_,h4,fun d hd'=>⟨(Agj hd hd').2.2,by rw[qal];exact(hb d hd').1,by rw[qal];exact(hb d hd').2⟩,(D7.1 h7).2⟩;obtain⟨a,ha',rfl⟩:=qah.1 hx;have:=G1.1 (h2 a ha');unfold Eh;exact CT.2 ⟨by omega,by omega⟩
theorem VP{P:Program}{e:Env}{w:World}{fn:Func}{R:Value->World->Prop}{a s2 s3:Tmp}{t:TypeId}{p:Addr}{v2 v3:Value}(hr:fn.results=#[.cell a t,.tmp s2,.tmp s3])(ha:e.g a=.pointer (some p))(h2:e.g s2=v2)(h3:e.g s3=v3)(h:Marks e.ds w fun w'=>∃v,(loadVar t p).run P w'=.ok v w'/\R (.tuple #[v,v2,v3]) w'):UR P fn R .ret e w :=
 Marks.mono (fun w ⟨v,hv,h⟩ tmps ht=>by
  have h1:=(ht a).trans ha;have g2:=(ht s2).trans h2;have g3:=(ht s3).trans h3;rw[qax]at h1 g2 g3
  exact⟨.tuple #[v,v2,v3],by simp[results,hr,h1,g2,g3,asAddr,hv],h⟩) h
def RoundRes(w:World)(rs:List Int)(ds:List Du)(net:Bool)(v:Value)(w':World):Prop :=
 Ext [] w w'/\((DS rs ds=false/\v=.tuple #[Eo 0 none 0 0,.slice none 0 0,.int .i64 1]) \/
  (DS rs ds=true/\∃aE nE cE vI,v=.tuple #[Eo ((rs.length+1:Nat):Int) aE nE cE,vI,.int .i64 0]/\Sl w w' (.slice aE nE cE) 4 CO (BO rs (opn ds) net)/\Sl w w' vI 1 U1 ((opn ds).map Du.id)))
def rndJ(ws:World)(b6:Nat)(N:Int)(es:List Ed)(i:Nat)(M:Mt)(w:World):Prop :=
 ∃a c full,(M=fun y=>y∈((b6,Bl 123 [.int .i64 N,.slice a i c])::ent a 158 full).map (·.1))/\Ctx ws [b6] w ((b6,Bl 123 [.int .i64 N,.slice a i c])::ent a 158 full) /\
  OS a i c 4 full ((es.take i).flatMap CO)/\∀y∈((b6,Bl 123 [.int .i64 N,.slice a i c])::ent a 158 full).map (·.1),y≠ws.heap.size/\y≠ws.heap.size+1
theorem Im(a b:Option Addr)(n c m e:Nat)(rs:List Int)(ds:List Du)(net:Bool)(w:World)(R:Rd w a 1 I1 rs)(hn:rs.length=n)(Rd':Rd w b 7 Dn ds)(hm:ds.length=m)(hn2:n<=1000000:=by omega)(hm2:m<=1000000:=by omega):
  Ret prog 115 #[.slice a n c,.slice b m e,.bool net] w (RoundRes w rs ds net):=by
 subst hn hm;obtain⟨w0,rfl,H⟩:=qE w;obtain⟨bb,hbb⟩:=qD (DS rs ds);obtain⟨os,hos⟩:=qD (opn ds);have hol:os.length<=ds.length:=by rw[hos];exact Jc ds
 refine Ii (fn:=f115) func115 U [.slice a rs.length c,.slice b ds.length e,.bool net] U (Ae (Bc KV H ?_));rintro b6 w - H;refine Am U (Ad U (qA (Ax (Ae (Ap U (Ap U (Al qB (Abg a b _ c _ e rs ds _ (R.ext0 H.ext) U hn2 (Rd'.ext0 H.ext) U hm2) U ?_)))))));rintro v w ⟨rfl,hx14⟩;replace H:=H.call hx14;rw[<-hbb];refine BP U (qA (Aw _ U ?_ ?_))
 .intro h1;replace h1:=BM h1;refine Ae (Cg CE Ct U H at0 U (Bn Ct U U U (by simp[AY]) H at0 U ?_));rintro w H;refine Am U (Ad U (qA (A5 (Av (VP U U U U ?_)))));exact⟨_,FH CE Ct U (fun j v hv=>by rw[Aj (H.get at0),qaz];exact hv),H.ext,.inl ⟨by rw[<-hbb];exact h1,rfl⟩⟩
 .intro h1;replace h1:=BN h1;refine Ay (Aa (Ae (Ap U (Be Bf U (Az U U ?_)))));refine Ah Ev U (Cb (.int _ _) Gb U U U H at0 (by decide) ?_);rintro w H;refine qA (Ae (Ap U (Al qB (Ze b _ e ds _ (Rd'.ext0 H.ext) U hm2) U ?_)));rintro v w F;rw[<-hos]at F;obtain⟨a4,n4,c4,f4,rfl,O4,hb4⟩:=F.ex;have hl4:=O4.llen;rw[QN]at hl4;obtain rfl:os.length=n4:=by omega
  refine Am U (qA (Ax ?_));have hb6:=H.lt at0;have RO:Rd w a4 7 Dn os:=OS.rd O4 (fun y hy=>(hb4 y hy).1) (fun _ _=>rfl) (by omega)
  have hROn:os≠[]->(adr a4).block∉[b6]:=fun hne=>by
   obtain⟨q,rfl⟩:=O4.form (qb2.2 hne);have:=(hb4 (q,Bl 118 f4) (qab.2 rfl)).2;rw[qab];show q≠b6;dsimp only at this;omega
  have H4:=H.call F.ext;have hs4:=H4.size;have hl64:=H4.lt at0;obtain⟨w4,rfl⟩:=qD w;have H:=Ctx.lend (L1:=[_]) (L2:=[]) H4;dsimp only[List.map]at H;refine Ae (Ap U (Be D9 U (Af U (qA (A1 (Bw 34326185088 (α:=LSt) (fun t=>[(7,.slice t.a t.i t.c),(25,.int .i64 (t.i:Int))]) (fun t w'=>t.i<=os.length/\OS t.a t.i t.c 1 t.full (((os.take t.i).map Du.id).map GM)/\Ctx w4 [b6] w' ((b6,Bl 123 [.int .i64 ((rs.length:Int)+1),.slice none 0 0])::ent t.a 23 t.full)) (fun t=>os.length - t.i) ⟨0,none,0,[]⟩ U ?_ ?_ ?_))))))
  .exact⟨rfl,rfl,trivial⟩
  .exact⟨qaq _,OS.nil,H⟩
  .clear H;rintro⟨i,a2,c2,full⟩ jj w ⟨hi,O,H⟩;dsimp only at hi O H;dsimp only;refine Ae (Bm U U (qA (Ax (Aw _ U ?_ ?_))))
   .intro h3;replace h3:=AM h3;obtain⟨d,hd⟩:=AE (l:=os) (i:=i);refine Ay (Aa (Ax (A1 (Ae (Bg RO D9 BV U U (by rfl) ?_)))));refine C9 _ E4 BV U U ((RO.ext' H.ext hROn).row hd U) (Bc DX H ?_);rintro b10 w - H;refine Bn BV U U U (by exact Dx _) H at0 U ?_;rintro w H;refine qA (A0 (Ap U (Ah FX U (AG B6 U H at0 U (Cp _ (.int _ _) Bh Bq Q2 U U U U H ?_)))));rintro b32 w - H;refine Cy (L:=[_,_]) Bh Bh Bq Y0 Q2 U U U H O U (by simp[AY]) ?_;rintro a' c' full' w H O;refine Am U (Ab (A8 (Aa (A0 (Az U U ?_)))));refine Af U (qA ?_);exact⟨⟨i+1,a',c',full'⟩,rfl,⟨rfl,rfl,trivial⟩,⟨by dsimp only;omega,by dsimp only;rw[Ni hd,qav];exact O,H.tail⟩,by dsimp only;omega⟩
   .intro h3;replace h3:=AN h3;obtain rfl:i=os.length:=by omega
    rw[qbm]at O;refine Bt (An (An (AK (Aa (Ax (Ae (Ap U (Ap U (A2 U (Al qB (Abh a a4 _ c _ c4 net _) U ?_))))))))));rintro v w ⟨x1,x2,x3,rfl,H10⟩;have H5:=H.call H10.ext;refine qA (A1 ?_);have RI0:Rd w a2 1 U1 (os.map Du.id):=O.rd1 fun x hx=>H5.blk x (qaj _ hx)
    have hRIn:os.map Du.id≠[]->w4.heap.size<=(adr a2).block:=fun hne=>by
     obtain⟨q,rfl⟩:=O.form (by have:=qb2.2 hne;rw[qal]at this;exact this)
     rcases H.own (q,Bl 23 full) (qaj _ (qab.2 rfl))with h|h
     .exact absurd (qab.1 h) fun h=>H.ne (i:=1) (j:=0) rfl rfl (by decide) h
     .exact h
    have hk1:=H10.get at1;have hk2:=H10.get at0;have hk3:=H10.get at2;have ho1:=(H10.own _ (qac at1)).elim (fun h=>by cases h) id;have ho2:=(H10.own _ (qac at0)).elim (fun h=>by cases h) id;have ho3:=(H10.own _ (qac at2)).elim (fun h=>by cases h) id;dsimp only at ho1 ho2 ho3;have hl6:=H.lt at0;have hs5:=H5.size;have hx5:=H4.ext.then H5.ext fun x hx => .inr (by rw[qab.1 hx];exact(H4.own _ (qac at0)).elim (fun h=>by cases h) id);have hb60:w0.heap.size<=b6:=(H4.own _ (qac at0)).elim (fun h=>by cases h) id;have RR:=R.ext0 hx5;have RO5:=RO.ext' H5.ext hROn
    have hwe:∀d∈os,-1000000000<=d.we/\d.we<=1000000000:=fun d hd=>by
     rw[hbb]at h1;have hB:=(ID).1 h1;rw[hos]at hd;have:=(Ei (hB.due d (Zj hd).1).1).2.2.2.2.1;omega
    obtain⟨ws,rfl⟩:=qD w;have H:=Ctx.lend (L1:=[_]) (L2:=_) H5;dsimp only[List.map]at H;obtain⟨es,hes⟩:=qD (BO rs os net)
    have hnR:rs≠[]->(adr a).block∉[b6]:=fun hne=>by
     have:=R.lt' (fun _ _=>rfl) (by decide) hne;rw[qab];omega
    have heL:es.length<=3000000:=by rw[hes,Ic];split <;> omega
    refine Pw (gf:=165) U qB (XJ (b1:=x1) (b2:=x2) (b3:=x3) (a:=a) (b:=a4) (c:=c) (e:=c4) (rs:=rs) (ds:=os) (net:=net) U U hn2 hwe) (by kernel_rfl) (by kernel_rfl) (fun v hv=>by obtain⟨p,-,rfl⟩:=qah.1 hv;rfl)
     (rndJ ws b6 ((rs.length:Int)+1) es) (fun _=>False) (by simp)
     (fun w2 hx2 _=>⟨_,none,0,[],rfl,H.call hx2,OS.nil,by simp[ent];omega⟩)
     (fun i M w' w'' hJ hx=>?_) (fun _ _ h _=>h) (fun i M w' hJ=>?_) ?_ ?_ (fun _ h _=>h.elim)
    .obtain⟨a7,c7,f7,hM,HJ,O7,hne⟩:=hJ;refine⟨a7,c7,f7,hM,HJ.step hx (fun y hy hy2=>?_) (fun x hx => .inr ?_),O7,hne⟩
     .have:=hne _ (qa4 (f:=(·.1)) hy);simp only[qai,qau,or_false]at hy2;omega
     .simp only[qai,qau,or_false]at hx;omega
    .obtain⟨a7,c7,f7,hM,HJ,O7,hne⟩:=hJ;refine⟨fun x hx=>?_,HJ.ext.to hk1 (by rw[qab];omega),HJ.ext.to hk2 (by rw[qab];omega),HJ.ext.to hk3 (by rw[qab];omega),RR.ext' HJ.ext hnR,RO5.ext' HJ.ext hROn⟩;rw[hM]at hx;obtain⟨y,hy,rfl⟩:=qah.1 hx;exact⟨Bd (HJ.blk y hy),hne _ hx⟩
    .rintro i v M w hxv ⟨a7,c7,f7,rfl,HJ,O7,hne⟩ hsz;rw[qa1]at hxv;obtain⟨ed,hed,rfl⟩:=qdf.1 hxv;rw[<-hes]at hed;have hil:=CD hed;obtain⟨w1,rfl,H⟩:=qE w;refine A0 (Bc Gp H ?_);rintro b11 w - H;refine Bn CG U U U (by exact I4 _) H at0 U ?_;rintro w H;refine Ab ?_;refine⟨H.ext,fun wB hxB=>?_⟩;have hb11:=(H.own _ (qak ..)).elim (fun h=>by cases h) id;dsimp only at hb11;have hs1:=H.size;have hsB:=hxB.size
     have HB:=(HJ.callAdd H.ext (H.get at0) hb11).step hxB (fun y hy=>by
      rw[qab]
      rcases qai.1 hy with rfl|hy
      .dsimp only;omega
      .exact(hne _ (qa4 (f:=(·.1)) hy)).2) (fun z hz => .inr (by rw[qab.1 hz];omega))
     obtain⟨w2,rfl⟩:=qD wB;rw[<-qa0 (_::_::ent a7 158 f7)]at HB;have H:=Ctx.lend (L1:=_::_::ent a7 158 f7) (L2:=[]) HB;obtain⟨SS,hSS⟩:=qD (((b11,Bl 158 (CO ed))::(b6,Bl 123 [.int .i64 ((rs.length:Int)+1),.slice a7 i c7])::ent a7 158 f7).map (·.1));rw[<-hSS]at H;refine A1 (A0 (Ah CL U (AG DM U H at1 U (Cg GU CG U H at0 U (Cp _ (.agg _) CF CG Gp U U U U H ?_)))));rintro b43 w - H;refine Cy (L:=[_,_]) CF CF CG Xj Gp U U U H O7 U (I4 ed) ?_;rintro a' c' full' w H O;refine Ah CL U (Cb (.slice _ _ _) Aen U U U H at1 (by(simp;done)) ?_);rintro w H;refine Ab (A8 ?_);rw[hSS]at H;have HE:=H.ext;have HH:=Ctx.back HB H;rw[qa0]at HH;refine⟨_,⟨a',c',full',rfl,HH.tail,by rw[qb6,hed,qbt];exact O,fun y hy=>?_⟩,fun y hy=>?_,_,HE,fun y hy=>?_⟩
     .obtain⟨z,hz,rfl⟩:=qah.1 hy
      rcases H.own z (qaj _ hz)with h|h
      .rcases qai.1 h with h|h
       .dsimp only at h;omega
       .exact hne _ h
      .have:=hxB.size;have:=H.ext.size;omega
     .obtain⟨z,hz,rfl⟩:=qah.1 hy
      rcases H.own z (qaj _ hz)with h|h
      .rcases qai.1 h with h|h
       .exact .inr (by dsimp only at h;omega)
       .exact .inl h
      .exact .inr (by have:=hxB.size;omega)
     .rcases qai.1 hy with h|h
      .exact .inr (by dsimp only at h;omega)
      .exact .inl h
    .rintro M w ⟨a7,c7,f7,rfl,HJ,O7,hne⟩ hD;rw[qal,<-hes]at HJ O7 hne;rw[qbm]at O7;have H:=HJ;obtain⟨w1,rfl⟩:=qD w;rw[<-qa0 (_::ent a7 158 f7)]at HJ;have H:=Ctx.lend (L1:=_::ent a7 158 f7) (L2:=[]) HJ;obtain⟨SS,hSS⟩:=qD (((b6,Bl 123 [.int .i64 ((rs.length:Int)+1),.slice a7 es.length c7])::ent a7 158 f7).map (·.1));rw[<-hSS]at H hne;have hDn:ws.heap.size∉SS:=fun h=>(hne _ h).1 rfl;refine A8 (Aa (Ae (Cg CE Ct U H at0 U (Ap U (Bn Ct U U U (by simp[AY]) H at0 U ?_)))));rintro w H;refine Am U (Ad U (qA (A5 (VP U U U U ?_))));refine Ij (H.ext.to hD hDn) U fun wF hxF=>?_;rw[hSS]at H;have HH:=Ctx.back HJ H;rw[qa0]at HH;rw[hSS]at hne
     have HF:=HH.step hxF (fun y hy h=>(hne _ (qa4 (f:=(·.1)) hy)).1 (qab.1 h)) (fun z hz => .inr (by rw[qab.1 hz];omega))
     have hown:∀y∈((b6,Bl 123 [.int .i64 ((rs.length:Int)+1),.slice a7 es.length c7])::ent a7 158 f7),w0.heap.size<=y.1:=fun y hy=>by
      rcases HF.own y hy with h|h
      .rw[qab.1 h];exact hb60
      .have:=hx5.size;omega
     have hxx:=hx5.then HF.ext fun x hx => .inr (by rw[qab.1 hx];exact hb60);refine⟨_,FH CE Ct U (fun j v hv=>by rw[Aj (HF.get at0),qaz];exact hv),hxx,.inr ⟨by rw[<-hbb];exact h1,a7,es.length,c7,.slice a2 os.length c2,rfl,?_,?_⟩⟩
     .rw[<-hos,<-hes];refine⟨a7,c7,rfl,O7.le,OS.rd O7 (fun x hx=>HF.blk x (qaj _ hx)) (fun _ _=>rfl) (by decide),fun hne'=>?_⟩;obtain⟨q,rfl⟩:=O7.form (qb2.2 hne');exact hown (q,Bl 158 f7) (qaj _ (qab.2 U))
     .rw[<-hos];have hd4:os.map Du.id≠[]->w4.heap.size<=(adr a2).block:=hRIn;refine⟨a2,c2,by rw[qal],by rw[qal];exact O.le,RI0.ext' HF.ext (fun hne'=>?_),fun hne'=>?_⟩
      .have:=hRIn hne';rw[qab];omega
      .have:=hRIn hne';omega
def ovI(g:Gr)(x:Nat->Int)(v i q:Nat):Int:=if q<v then BK g x q else if q=v then E0 g x i v else 0
structure LS2 where
 i:Nat
 a:Option Addr
 c:Nat
 f:List Value
 a2:Option Addr
 c2:Nat
 f2:List Value
theorem perm5{α:Type}{a b c d e:α}{r:List α}:(a::b::c::d::e::r).Perm (d::a::e::b::c::r) :=
 (qb1 (l₁:=[a,b,c]) (l₂:=e::r)).trans (((qb1 (l₁:=[b,c]) (l₂:=r)).cons _).cons _)
def nrm(k:Nat)(f:Nat->Int):Nat->Int:=fun i=>if i<k then f i else 0
def BitN(x r:Nat):Prop:=x<2 ^ r/\(0<x->2 ^ r<=2*x)/\(x=0->r=0)
theorem Agk{x r q:Nat}(h:BitN x r)(k:BitN x q):r<=q:=by
 rcases qc8 x with e|e
 .rw[h.2.2 e];exact qaq _
 .have h1:=h.2.1 e;have h2:=k.1
  rcases qap q r with h3|h3
  .have h4:2 ^ (q+1)<=2 ^ r:=qdi (by decide) h3;rw[Nat.pow_succ]at h4;omega
  .exact h3
def VQ(es:List Ed):Nat->Nat->Prop
 |0,m=>m=0
 |i+1,m=>∃m0 r,VQ es i m0/\BitN (Cs es i).toNat r/\m=max m0 r
theorem VR{es:List Ed}:∀{i m q:Nat},VQ es i m->VQ es i q->m=q
 |0,_,_,h,k=>h.trans k.symm
 |i+1,_,_,⟨m0,r,h1,h2,h3⟩,⟨q0,s,k1,k2,k3⟩=>by
  have h4:=VR h1 k1;have h5:=Agk h2 k2;have h6:=Agk k2 h2;omega
inductive Fills (es:List Ed) (n:Nat):(Nat->Int)->(Nat->Int)->(Nat->Int)->(Nat->Int)->(Nat->Int)->(Nat->Int)->Prop
 |stop {x p ov x' p' ov':Nat->Int} (h:QH es n (nrm es.length x) (nrm n p) ov false x' p' ov'):Fills es n x p ov x' p' ov'
 |go {x p ov x1 p1 ov1 x' p' ov':Nat->Int} (h:QH es n (nrm es.length x) (nrm n p) ov true x1 p1 ov1) (k:Fills es n x1 p1 ov1 x' p' ov'):Fills es n x p ov x' p' ov'
theorem Abm{es:List Ed}{n:Nat}{x p ov x' p' ov':Nat->Int}(h:Fills es n x p ov x' p' ov'):∀{x2 p2 ov2:Nat->Int},Fills es n x p ov x2 p2 ov2->x'=x2/\p'=p2:=by
 induction h with
 |stop h =>
  intro x2 p2 ov2 k
  cases k with
  |stop k=>exact⟨(Lj h k).2.1,(Lj h k).2.2.1⟩
  |go k _=>have:=(Lj h k).1;cases this
 |go h _ ih =>
  intro x2 p2 ov2 k
  cases k with
  |stop k=>have:=(Lj h k).1;cases this
  |go k k2 =>
   obtain⟨-,rfl,rfl,rfl⟩:=Lj h k;exact ih k2
def NV(es:List Ed)(n:Nat):Nat->(Nat->Int)->(Nat->Int)->(Nat->Int)->(Nat->Int)->Prop
 |0,x,p,xf,pf=>xf=x/\pf=p
 |j+1,x,p,xf,pf=>∃x1 x' p' ov',x1=Kw (grE (n:Int) es) (Ge es j) x p/\Fills (esC es (Ge es j)) n x1 p (BK (grE (n:Int) es) x1) x' p' ov'/\NV es n j x' p' xf pf
theorem QR{es:List Ed}{n:Nat}:∀{j:Nat} {x p xf pf xg pg:Nat->Int},NV es n j x p xf pf->NV es n j x p xg pg->xf=xg/\pf=pg
 |0,_,_,_,_,_,_,⟨h1,h2⟩,⟨k1,k2⟩=>⟨h1.trans k1.symm,h2.trans k2.symm⟩
 |j+1,_,_,_,_,_,_,⟨x1,x',p',ov',h1,h2,h3⟩,⟨y1,y',q',ow',k1,k2,k3⟩=>by
  subst h1 k1;obtain⟨rfl,rfl⟩:=Abm h2 k2;exact QR h3 k3
def Zl(es:List Ed)(n:Nat)(x p:Nat->Int):Prop:=∃m,VQ es es.length m/\NV es n m (fun _=>0) (fun _=>0) x p
theorem Agl{es:List Ed}{n:Nat}{x p x' p':Nat->Int}(h:Zl es n x p)(k:Zl es n x' p'):x=x'/\p=p':=by
 obtain⟨m,h1,h2⟩:=h;obtain⟨q,k1,k2⟩:=k;obtain rfl:=VR h1 k1;exact QR h2 k2
theorem VS(f:Nat->Int)(n:Nat):∃f1:Nat->Int,f1=nrm n f/\BZ f n=BZ f1 n/\flE (tab f1 n)=f1/\Fk (tab f1 n)=f1/\∀i,i<n->f1 i=f i:=by
 refine⟨fun i=>if i<n then f i else 0,rfl,qbo fun i hi=>by dsimp only;rw[if_pos (qa5.1 hi)],?_,?_,fun i hi=>if_pos hi⟩
 all_goals
  funext i
  first|unfold flE|unfold Fk
  rcases qap i n with h|h
  .rw[Bv (BW h)]
  .rw[qbu,qbi (by rw[Ds];exact h)];exact(if_neg (by omega)).symm
theorem Agm{g:Gr}{cap x y p:Nat->Int}(h:Fine g cap x p)(hy:∀i,i<g.E->y i=x i):Fine g cap y p:=by
 refine⟨fun i hi=>by rw[hy i hi];exact h.in' i hi,fun a ha hr=>h.fit a ha ?_⟩;unfold CI at hr |-;rw[hy _ (by omega)]at hr;exact hr
theorem Aqt{w:World}{bs bf bp bo:Nat}{N n:Nat}{ae:Option Addr}{ce:Nat}{kk:Int}{es:List Ed}{x p ov:Nat->Int}{full:List Value}{g:Gr}{cap:Nat->Int}(hn:es.length=n)(hg:grE (N:Int) es=g)(hcap:∀i,i<n->Cs es i=cap i)(H0:Ctx w ((SL bs bf bp bo N ae n ce kk x p ov full).map (·.1)) w (SL bs bf bp bo N ae n ce kk x p ov full))(O:OS ae n ce 4 full (es.flatMap CO))(hr:CA (N:Int) es=true)(hF:Fine g cap x p)(hov:∀v,v<N->ov v=BK g x v)(hpb:∀v,v<N -> -1073741824<=p v/\p v<=1073741824) :
  Ret prog 145 #[ptr bs] w fun v w'=>∃(b:Bool) (x' p' ov':Nat->Int) (kk':Int),v=.bool b/\Ctx w ((SL bs bf bp bo N ae n ce kk x p ov full).map (·.1)) w' (SL bs bf bp bo N ae n ce kk' x' p' ov' full)/\Fine g cap x' p'/\(∀v,v<N->ov' v=BK g x' v)/\(∀v,v<N -> -1073741824<=p' v/\p' v<=1073741824) /\
   (b=false->∀v,v<N->BK g x' v<=0)/\(b=true->I3 g x'+1<=I3 g x)/\QH es N (nrm es.length x) (nrm N p) ov b x' p' ov':=by
 subst hn hg;obtain⟨x1,hx9,hx1,hxn,-,hxe⟩:=VS x es.length;obtain⟨p1,hp9,hp1,-,hpn,hpe⟩:=VS p N;have hgo:=Li hr;have hsl:SL bs bf bp bo N ae es.length ce kk x p ov full=SL bs bf bp bo N ae es.length ce kk x1 p1 ov full:=by unfold SL;rw[hx1,hp1]
 have hF1:Fine (grE (N:Int) es) (Cs es) x1 p1:=QE hgo (Agm (NQ hF hcap) hxe) hpe;have hov1:∀v,BK (grE (N:Int) es) x1 v=BK (grE (N:Int) es) x v:=fun v=>Mr hxe v;have hex:I3 (grE (N:Int) es) x1=I3 (grE (N:Int) es) x:=C4 fun v _=>by rw[hov1]
 rw[hsl]at H0 |-;refine Ret.mono (Aj6 H0 O hr hF1 (fun v hv=>by rw[hov1];exact hov v hv) (fun v hv=>by rw[hpe v hv];exact hpb v hv) hxn hpn) ?_;rintro v w' ⟨b,x',p',ov',kk',h1,h2,h3,h4,h5,h6,h7,h8⟩;exact⟨b,x',p',ov',kk',h1,h2,NQ h3 fun i hi=>(hcap i hi).symm,h4,h5,h6,(fun h=>by rw[<-hex];exact h7 h),by rw[<-hx9,<-hp9];exact h8⟩
theorem Agn(g:Gr)(v:Nat):BK g (fun _=>0) v=0:=by
 have:BK g (fun _=>0) v=BJ (fun _=>0) g.E:=C4 fun i _=>by rw[Int.mul_zero]
 rw[this,Hs]
structure PSt where
 j:Nat
 full:List Value
 x:Nat->Int
 p:Nat->Int
 ov:Nat->Int
 kk:Int
structure FSt where
 x:Nat->Int
 p:Nat->Int
 ov:Nat->Int
 kk:Int
theorem Akm(N:Nat)(a:Option Addr)(c:Nat)(es:List Ed)(w:World)(R:Rd w a 4 CO es)(hr:CA (N:Int) es=true) :
  Ret prog 117 #[Eo (N:Int) a es.length c] w fun v w'=>∃(bf bp:Nat) (x p:Nat->Int) (k:Int),v=.tuple #[Vy (some ⟨bf,0,none⟩) (some ⟨bp,0,none⟩) es.length es.length N N,.int .i64 k,.int .i64 0]/\Fine (grE (N:Int) es) (Cs es) x p/\(∀v,v<N->BK (grE (N:Int) es) x v=0)/\(∀v,v<N -> -1073741824<=p v/\p v<=1073741824)/\Zl es N x p/\Ctx w [] w' [(bf,Bl 2 (BZ x es.length)),(bp,Bl 2 (BZ p N))]:=by
 obtain⟨w0,rfl,H⟩:=qE w;obtain⟨hN1,hN40,hn200,hall,-⟩:=CS hr;have hI:I64 (N:Int):=by unfold I64;omega
 refine Au (fn:=f117) func117 U [Eo (N:Int) a es.length c] U (Ae (Bu [.int .i64 (N:Int),.slice a es.length c] (.agg _) U U H ?_));rintro b1 w - H;refine Bc TU H ?_;rintro b2 w - H;refine Ad U (Ad U (qA (Tz (Ax (Ae (Cg CE Ct U H at1 U (Al qB (Nd (N:Int) a es.length c es _ (R.ext0 H.ext) U hI) U ?_)))))));rintro v w ⟨rfl,hx11⟩;replace H:=H.call hx11;refine BP U (qA (Aw _ U ?_ ?_))
 .intro h1;replace h1:=BM h1;rw[hr]at h1;cases h1
 .intro h1;replace h1:=BN h1;refine Ay (Aa (DV 8589918240 (α:=Nat × Nat × Nat × Nat × Nat × Nat × List Value) (fun z=>[(5,ptr z.1)]) (fun z w'=>OS (some ⟨z.2.2.2.2.1,0,none⟩) es.length z.2.2.2.2.2.1 4 z.2.2.2.2.2.2 (es.flatMap CO)/\Ctx w0 [] w' [(z.2.1,Bl 2 (BZ (fun _=>0) es.length)),(z.2.2.2.1,Bl 2 (BZ (fun _=>0) N)),(z.2.2.2.2.1,Bl 158 z.2.2.2.2.2.2),(z.1,Bl 217 (SC N (some ⟨z.2.2.2.2.1,0,none⟩) es.length z.2.2.2.2.2.1 z.2.1 z.2.2.1 z.2.2.2.1 0)),(z.2.2.1,Bl 2 (BZ (fun _=>0) N)),(b2,Bl 125 [.slice none 0 0,.slice none 0 0]),(b1,Bl 123 [.int .i64 (N:Int),.slice a es.length c])]) U ?_ ?_))
  .skip
   have hb1:=H.get at1;refine ZV (n:=19) (anc:=HG) Bk.b (Amm es.length es) (fun i=>14+i) (V9 b1 N es.length a c) (HI N es.length) (show Tryz.prog.follows .mixedOrders=true by kernel_rfl) U ?_ (fun i j _ _ h=>by have h:14+i=14+j:=h;omega) (fun i k b B=>sStab b1 N es.length a c i k b B) ?_ ?_
   .intro k hk;have:k=0\/k=1\/k=2\/k=3\/k=4\/k=5\/k=6\/k=7\/k=8\/k=9\/k=10\/k=11\/k=12\/k=13\/k=14\/k=15\/k=16\/k=17\/k=18:=by omega
    simp[HG];omega
   .intro i o e' w' B hi ho hold hsl hx hbl hgd;have h4:e'.g 1=ptr b1:=(hold 1 fun j hj h=>by have h:1=14+j:=h;omega).trans rfl;have hc4:w'.heap[b1]?=some (Bl 123 [.int .i64 (N:Int),.slice a es.length c]):=hx.to (by exact hb1) (by simp);have hcs:i=0\/i=1\/i=2\/i=3\/i=4\/i=5\/i=6\/i=7\/i=8\/i=9\/i=10\/i=11\/i=12\/i=13\/i=14\/i=15\/i=16\/i=17\/i=18:=by omega
    have hpure:∀{v:Value},HI N es.length i=none->i≠5->V9 b1 N es.length a c i (KI B i default)=v->AQB Bk.b (Amm es.length es) (fun i=>14+i) (V9 b1 N es.length a c) (HI N es.length) i e' w' B (put e' (some (14+i)) v) w':=fun h1 h5 h2=>⟨default,fun h=>absurd h h5,fun ob h=>(by rw[h1]at h;cases h),.refl _ _,by rw[h2]⟩
    rcases hcs with rfl|rfl|rfl|rfl|rfl|rfl|rfl|rfl|rfl|rfl|rfl|rfl|rfl|rfl|rfl|rfl|rfl|rfl|rfl
    .cases qag ho;exact Ah (by kernel_rfl) h4 (Ab (hpure U (by decide) U))
    .cases qag ho;exact Bb Cc (hsl 0 (by simp[HG])) (by rw[Aj hc4];rfl) (Ab (hpure U (by decide) U))
    .cases qag ho;refine GQ CF CG (Ctx.start w' []) fun b w2 H O=>?_;have hbb:=H.blk (b,_) (qak ..);exact Ab ⟨⟨b,0,[]⟩,(fun h=>by cases h),fun ob h=>(by obtain rfl:=qag h;exact⟨(H.own _ (qak ..)).elim (fun h=>by cases h) id,hbb⟩),H.ext,rfl⟩
    .cases qag ho;exact Ah (by kernel_rfl) h4 (Ab (hpure U (by decide) U))
    .cases qag ho;exact Bb DM (hsl 3 (by simp[HG])) (by rw[Aj hc4];rfl) (Ab (hpure U (by decide) U))
    .cases qag ho;have h16:e'.g 16=.slice (some ⟨(B 2).b,0,none⟩) 0 0:=hsl 2 (by simp[HG]);have h18:e'.g 18=.slice a es.length c:=hsl 4 (by simp[HG])
     by_cases hn:es.length=0
     .rw[hn]at h18;exact UW U CF CF CG h16 h18 (Ab ⟨default,fun _ => .inl hn,fun ob h=>(by simp[HI,hn]at h),.refl _ _,by simp[V9,sQ,hn,KI]⟩)
     .refine WY U CF CF CG Xj Gp U (es.flatMap CO) h16 h18 (Fi fun _ _=>rfl) (Rd.app (R.ext0 ((H.ext.trans (Ext.drew [] _)).trans hx)) (fun _ _=>rfl) (by decide)) fun b c' full' w2 hb hx2 hbl2 O2=>?_;exact Ab ⟨⟨b,c',full'⟩,fun _ => .inr O2,fun ob h=>(by simp only[HI,hn]at h;simp at h;subst h;exact⟨by dsimp only;omega,by dsimp only;rw[Jr];exact hbl2⟩),hx2,by simp[V9,sQ,hn,KI]⟩
    .cases qag ho;refine BA [.int .i64 (N:Int),.slice (some ⟨(sQ es.length B).b,0,none⟩) es.length (sQ es.length B).c] App KV (hl:=?_) (Ab (hpure U (by decide) U));show Instr.fill _ _ [(0,e'.g 15),(1,e'.g 19)]=_;rw[show e'.g 15=.int .i64 (N:Int)from hsl 1 (by simp[HG]),show e'.g 19=.slice (some ⟨(sQ es.length B).b,0,none⟩) es.length (sQ es.length B).c from hsl 5 (by simp[HG])];rfl
    .cases qag ho;exact Ah (by kernel_rfl) h4 (Ab (hpure U (by decide) U))
    .cases qag ho;exact Bb DM (hsl 7 (by simp[HG])) (by rw[Aj hc4];rfl) (Ab (hpure U (by decide) U))
    .cases qag ho;exact Be CF (hsl 8 (by simp[HG])) (Ab (hpure U (by decide) U))
    .cases qag ho;refine HY Bf BD Mn Fh (hsl 9 (by simp[HG])) (hsl 9 (by simp[HG])) (Ctx.start w' []) fun b w2 hb H=>?_;have hbb:=H.get at0;rw[show((es.length:Nat):Int).toNat=es.length from rfl,Fo]at hbb;exact Ab ⟨⟨b,0,[]⟩,(fun h=>by cases h),fun ob h=>(by obtain rfl:=qag h;exact⟨by dsimp only;omega,hbb⟩),H.ext,rfl⟩
    .cases qag ho;exact Ah (by kernel_rfl) h4 (Ab (hpure U (by decide) U))
    .cases qag ho;exact Bb Cc (hsl 11 (by simp[HG])) (by rw[Aj hc4];rfl) (Ab (hpure U (by decide) U))
    .cases qag ho;refine HY Bf BD Mn Fh (hsl 12 (by simp[HG])) (hsl 12 (by simp[HG])) (Ctx.start w' []) fun b w2 hb H=>?_;have hbb:=H.get at0;rw[show((N:Nat):Int).toNat=N from rfl,Fo]at hbb;exact Ab ⟨⟨b,0,[]⟩,(fun h=>by cases h),fun ob h=>(by obtain rfl:=qag h;exact⟨by dsimp only;omega,hbb⟩),H.ext,rfl⟩
    .cases qag ho;exact Ah (by kernel_rfl) h4 (Ab (hpure U (by decide) U))
    .cases qag ho;exact Bb Cc (hsl 14 (by simp[HG])) (by rw[Aj hc4];rfl) (Ab (hpure U (by decide) U))
    .cases qag ho;refine HY Bf BD Mn Fh (hsl 15 (by simp[HG])) (hsl 15 (by simp[HG])) (Ctx.start w' []) fun b w2 hb H=>?_;have hbb:=H.get at0;rw[show((N:Nat):Int).toNat=N from rfl,Fo]at hbb;exact Ab ⟨⟨b,0,[]⟩,(fun h=>by cases h),fun ob h=>(by obtain rfl:=qag h;exact⟨by dsimp only;omega,hbb⟩),H.ext,rfl⟩
    .cases qag ho;refine BA (sSC N es.length B) Apt Ap2 (hl:=?_) (Ab (hpure U (by decide) U));show Instr.fill _ _ [(0,e'.g 20),(1,e'.g 24),(2,e'.g 27),(3,e'.g 30)]=_;rw[show e'.g 20=.agg #[.int .i64 (N:Int),.slice (some ⟨(sQ es.length B).b,0,none⟩) es.length (sQ es.length B).c]from hsl 6 (by simp[HG]),show e'.g 24=.slice (some ⟨(B 10).b,0,none⟩) es.length es.length from hsl 10 (by simp[HG]),show e'.g 27=.slice (some ⟨(B 13).b,0,none⟩) N N from hsl 13 (by simp[HG]),show e'.g 30=.slice (some ⟨(B 16).b,0,none⟩) N N from hsl 16 (by simp[HG])];rfl
    .cases qag ho;refine Bu (sSC N es.length B) (.agg _) (hsl 17 (by simp[HG])) U (Ctx.start w' []) fun b w2 hb H=>?_;exact Ab ⟨⟨b,0,[]⟩,(fun h=>by cases h),fun ob h=>(by obtain rfl:=qag h;exact⟨by dsimp only;omega,H.get at0⟩),H.ext,rfl⟩
   .intro o e' w' B ho A;have hl1:=Bd hb1;have hl2:=Bd (H.get at0);have h9:w.drew.heap.size=w.heap.size:=rfl
    obtain⟨iq,hiq,hqb,hqh,hqo,O5⟩:∃iq,(iq=2\/iq=5)/\(sQ es.length B).b=(B iq).b/\w'.heap[(B iq).b]?=some (Bl 158 (sQ es.length B).f)/\(HI N es.length iq≠none)/\OS (some ⟨(sQ es.length B).b,0,none⟩) es.length (sQ es.length B).c 4 (sQ es.length B).f (es.flatMap CO):=by
     by_cases hn:es.length=0
     .have he:es=[]:=qb0 hn;have hsq:sQ es.length B=⟨(B 2).b,0,[]⟩:=if_pos hn;rw[hsq];refine⟨2,.inl rfl,rfl,(A.blk 2 _ (by omega) trivial (show HI N es.length 2=some _ from rfl)).1,by simp[HI],?_⟩;subst he;exact⟨(fun q hq=>by injection hq with hq;subst hq;rfl),(fun h=>by cases h),rfl,qam _,rfl⟩
     .have hsq:sQ es.length B=B 5:=if_neg hn;have ho5:HI N es.length 5=some fun B=>Bl 158 (B 5).f:=by simp[HI,hn]
      rw[hsq];exact⟨5,.inr rfl,rfl,(A.blk 5 _ (by omega) trivial ho5).1,by rw[ho5];simp,(A.good 5 (by omega) trivial rfl).resolve_left hn⟩
    have hiq19:iq<19:=by omega
    have ob10:HI N es.length 10≠none:=by simp[HI]
    have ob13:HI N es.length 13≠none:=by simp[HI]
    have ob16:HI N es.length 16≠none:=by simp[HI]
    have ob18:HI N es.length 18≠none:=by simp[HI]
    have hne:=fun i j hi hj hij oi oj=>A.ne i j hi hj hij trivial trivial oi oj;have k10:=A.blk 10 _ (by omega) trivial (show HI N es.length 10=some _ from rfl);have k13:=A.blk 13 _ (by omega) trivial (show HI N es.length 13=some _ from rfl);have k16:=A.blk 16 _ (by omega) trivial (show HI N es.length 16=some _ from rfl);have k18:=A.blk 18 _ (by omega) trivial (show HI N es.length 18=some _ from rfl)
    have kq:w.heap.size<=(B iq).b:=by
     cases hoq:HI N es.length iq with
     |none=>exact absurd hoq hqo
     |some ob=>exact(A.blk iq ob hiq19 trivial hoq).2
    have hs0:=H.size;have n10_16:=hne 10 16 (by omega) (by omega) (by omega) ob10 ob16;have n10_q:=hne 10 iq (by omega) hiq19 (by omega) ob10 hqo;have n10_18:=hne 10 18 (by omega) (by omega) (by omega) ob10 ob18;have n10_13:=hne 10 13 (by omega) (by omega) (by omega) ob10 ob13;have n16_q:=hne 16 iq (by omega) hiq19 (by omega) ob16 hqo;have n16_18:=hne 16 18 (by omega) (by omega) (by omega) ob16 ob18;have n16_13:=hne 16 13 (by omega) (by omega) (by omega) ob16 ob13;have nq_18:=hne iq 18 hiq19 (by omega) (by omega) hqo ob18;have nq_13:=hne iq 13 hiq19 (by omega) (by omega) hqo ob13;have n18_13:=hne 18 13 (by omega) (by omega) (by omega) ob18 ob13;have n12:=H.ne at0 at1 (by decide);have hb20:=(H.own _ (qak ..)).elim (fun h=>by cases h) id;have hb10:=(H.own _ (qaj _ (qak ..))).elim (fun h=>by cases h) id
    have Hc:Ctx w0 [] w' [((B 10).b,Bl 2 (BZ (fun _=>0) es.length)),((B 16).b,Bl 2 (BZ (fun _=>0) N)),((B iq).b,Bl 158 (sQ es.length B).f),((B 18).b,Bl 217 (sSC N es.length B)),((B 13).b,Bl 2 (BZ (fun _=>0) N)),(b2,Bl 125 [.slice none 0 0,.slice none 0 0]),(b1,Bl 123 [.int .i64 (N:Int),.slice a es.length c])]:=by
     refine⟨(H.ext.trans (Ext.drew [] _)).trans A.ext,fun x hx=>?_,?_,fun x hx => .inr ?_⟩
     .simp only[qai,qau,or_false]at hx
      rcases hx with rfl|rfl|rfl|rfl|rfl|rfl|rfl
      .exact k10.1
      .exact k16.1
      .exact hqh
      .exact k18.1
      .exact k13.1
      .exact A.ext.to (H.get at0) (by simp)
      .exact A.ext.to hb1 (by simp)
     .simp only[qbx,qai,qau,or_false,forall_eq_or_imp,forall_eq,List.Pairwise.nil,false_imp_iff,implies_true,and_true];refine⟨⟨n10_16,n10_q,n10_18,n10_13,?_,?_⟩,⟨n16_q,n16_18,n16_13,?_,?_⟩,⟨nq_18,nq_13,?_,?_⟩,⟨n18_13,?_,?_⟩,⟨?_,?_⟩,n12⟩ <;> omega
     .simp only[qai,qau,or_false]at hx
      rcases hx with rfl|rfl|rfl|rfl|rfl|rfl|rfl <;> (dsimp only;omega)
    cases qag ho;refine Dd U (ptr (B 18).b) (A.slot 18 (by omega) trivial) (Ab ⟨((B 18).b,(B 10).b,(B 13).b,(B 16).b,(sQ es.length B).b,(sQ es.length B).c,(sQ es.length B).f),A.ds,⟨rfl,trivial⟩,O5,?_⟩);dsimp only;rw[hqb];have hsc:sSC N es.length B=SC N (some ⟨(B iq).b,0,none⟩) es.length (sQ es.length B).c (B 10).b (B 13).b (B 16).b 0:=by unfold sSC;rw[hqb]
    rw[hsc]at Hc;exact Hc
  .rintro⟨bs,bf,bp,bo,q,ce,full⟩ j w ⟨O,H⟩;dsimp only at O H;dsimp only;obtain⟨g,hg⟩:=qD (grE (N:Int) es);have hgE:g.E=es.length:=by rw[hg];rfl
   have hgN:g.N=N:=by rw[hg];rfl
   have hgo:g.Ok:=by rw[hg];exact Li hr
   have hcb:=P6 hr;rw[<-hg];refine Ae (Ad U (qA (Ax (Ae (Ah CL U (AG DM U H at6 U (Be CF U (Af U (qA ?_)))))))));refine A1 (Bw 72057525318451648 (α:=Nat × Nat × List Value) (fun t=>[(36,.int .i64 (t.1:Int)),(6,.int .i64 (t.2.1:Int))]) (fun t w'=>t.1<=es.length/\OS (some ⟨q,0,none⟩) es.length ce 4 t.2.2 ((esC es (Ka (Cs es) (fun _=>0) t.1)).flatMap CO)/\(∀j,j<t.1->(Cs es j).toNat<2 ^ t.2.1)/\t.2.1<=64/\VQ es t.1 t.2.1/\Ctx w0 [] w' [(bf,Bl 2 (BZ (fun _=>0) es.length)),(bo,Bl 2 (BZ (fun _=>0) N)),(q,Bl 158 t.2.2),(bs,Bl 217 (SC N (some ⟨q,0,none⟩) es.length ce bf bp bo 0)),(bp,Bl 2 (BZ (fun _=>0) N)),(b2,Bl 125 [.slice none 0 0,.slice none 0 0]),(b1,Bl 123 [.int .i64 (N:Int),.slice a es.length c])]) (fun t=>es.length - t.1) (0,0,full) U ?_ ?_ ?_)
   .exact⟨rfl,rfl,trivial⟩
   .refine⟨qaq _,?_,fun j h=>absurd h (qbd _),by dsimp only;omega,rfl,H⟩;rw[LD (d:=Cs es) fun i _=>by unfold Ka;rw[if_neg (qbd _)],QG];exact O
   .rintro⟨i,m,full⟩ j w ⟨hi,O,hm,hm6,hbt,H⟩;dsimp only at hi O hm hm6 hbt H;dsimp only;refine Ae (Bm U U (qA (Ax (Aw _ U ?_ ?_))))
    .intro h2;replace h2:=AM h2;have hil:i<es.length:=by omega
     obtain⟨e,he⟩:=AE (h:=hil);have hee:=Fb (hall e (qac he));obtain⟨cc,hcc⟩:∃cc:Nat,e.cap=cc:=⟨e.cap.toNat,by omega⟩;have henc:CO e=[.int .i64 e.f,.int .i64 e.t,.int .i64 (cc:Int),.int .i64 e.cost]:=by unfold CO;rw[hcc]
     have hOl:=O.len;have hOe:=O.le;refine Ay (Aa (Ax (A1 (Ae (Af U (Bg R CF CG U U (by rfl) ?_))))));refine C9 _ GU CG U U (Rd.rowE (R.ext0 H.ext) he henc U) (Bc Gp H ?_);rintro b8 w - H;refine Ad U (Bn CG U U U (by simp[AY]) H at0 U ?_);rintro w H;refine qA (Ae (A4 U (A9 U (Ah Hm U (Ah CL U (AG DM U H at4 U (Af U (Bp CF CG U U ?_))))))));refine Ah EE U (Cb (.int _ _) BD U U U H at3 (by omega) ?_);rintro w H;refine qA (A0 (Af U (Ah EE U (AG B4 U H at0 U (D5 U LJ Dc ?_)))));refine Al qB (V8 cc (by omega) _) U ?_;rintro v w ⟨r,rfl,hr1,hr2,hr3,hr4,rfl⟩;refine MF U U U (Ad U (Ab (A8 (Aa (A0 (Az U U ?_))))));refine Af U (qA ?_);rw[show 0+((i:Int)).toNat*4+2=i*4+2 by omega]at H
     have O1:=OS.setf O (y:=edC es (Ka (Cs es) (fun _=>0) (i+1)) i) (j:=2) (v := .int .i64 0) (fun _=>rfl) (JZ (c:=Ka (Cs es) (fun _=>0) i) hil) (by decide) (by unfold edC CO Ka;dsimp only;rw[if_pos (by omega)];rfl);rw[YU rfl (fun j _ hj=>YX hj)]at O1;have hce:Cs es i=(cc:Int):=by unfold Cs;rw[Bv he,hcc]
     refine⟨(i+1,max m r,full.set (i*4+2) (.int .i64 0)),rfl,⟨rfl,qaa (Value.int .i64) (by dsimp only;omega),trivial⟩,⟨by dsimp only;omega,O1,fun j hj=>?_,by dsimp only;omega,⟨m,r,hbt,by rw[hce];exact⟨hr1,hr3,hr4⟩,rfl⟩,H.tail⟩,by dsimp only;omega⟩;dsimp only at hj |-
     by_cases ej:j=i
     .subst ej;rw[hce];exact qa7 (by omega) (qdi (by decide) (Nat.le_max_right m r))
     .exact qa7 (hm j (by omega)) (qdi (by decide) (Nat.le_max_left m r))
    .intro h2;replace h2:=AN h2;obtain rfl:i=es.length:=by omega
     rw[LD (d:=Ge es m) fun i hi=>by unfold Ka Ge;rw[if_pos hi,Nat.div_eq_of_lt (hm i hi)];rfl]at O;refine Bt (An (An (AK (Aa (Ae (Af U (Ad U (qA (Ax (Ty (Aa (Ax (A1 (Bw 147429837401600557568 (α:=PSt) (fun t=>[(9,.int .i64 (t.j:Int))]) (fun t w'=>t.j<=64/\OS (some ⟨q,0,none⟩) es.length ce 4 t.full ((esC es (Ge es t.j)).flatMap CO)/\Fine g (Ge es t.j) t.x t.p/\(∀v,v<N->BK g t.x v=0)/\(∀v,v<N->t.ov v=0)/\(∀v,v<N -> -1073741824<=t.p v/\t.p v<=1073741824)/\(∀xf pf,NV es N t.j t.x t.p xf pf->NV es N m (fun _=>0) (fun _=>0) xf pf)/\Ctx w0 [] w' [(bf,Bl 2 (BZ (t.x) es.length)),(bo,Bl 2 (BZ (t.ov) N)),(q,Bl 158 t.full),(bs,Bl 217 (SC N (some ⟨q,0,none⟩) es.length ce bf bp bo t.kk)),(bp,Bl 2 (BZ (t.p) N)),(b2,Bl 125 [.slice none 0 0,.slice none 0 0]),(b1,Bl 123 [.int .i64 (N:Int),.slice a es.length c])]) (fun t=>t.j) ⟨m,full,fun _=>0,fun _=>0,fun _=>0,0⟩ U ?_ ?_ ?_))))))))))))))
     .exact⟨rfl,trivial⟩
     .refine⟨hm6,O,⟨fun i hi=>⟨qa3 _,(P5 hr m i (by omega)).1⟩,fun a ha hra=>?_⟩,fun v _=>Agn g v,fun _ _=>rfl,fun _ _=>⟨by dsimp only;omega,by dsimp only;omega⟩,(fun _ _ h=>h),H⟩;exfalso;unfold CI at hra;have hai:a / 2<es.length:=by omega
      have hk0:Ge es m (a / 2)=0:=by unfold Ge;rw[Nat.div_eq_of_lt (hm _ hai)];rfl
      dsimp only at hra;rw[hk0]at hra
      split at hra <;> omega
     .rintro⟨j,full,x,p,ov,kk⟩ jj w ⟨hj6,O,hF,hx0,hov,hpb,hph,H⟩;dsimp only at hj6 O hF hx0 hov hpb hph H;dsimp only
      rcases j with _|j
      .skip
       refine A1 (Ax (Ae (Af U (Bo U U ?_))));refine Ad U (qA (Ae (Af U (Bm U U (qA (Aw _ U ?_ ?_))))))
       .intro h3;replace h3:=AM h3;refine Bt (An (FG U (An (AK (Aa (Ck [([0,1,2,3,4,5,6,7,8,9,10,11,12],13),([14],15)] (fun z=>z.heap[bs]?=some (Bl 217 (SC N (some ⟨q,0,none⟩) es.length ce bf bp bo kk))) [] Br (H.drew.get at3) ?_))))));refine AD U U (BG U (Ba U (Ao Ff U (B0 BU U (fun _ hx=>(by rw[Aj hx];rfl)) ?_))));refine BG U (Ba U (Ao Fg U (B0 BU U (fun _ hx=>(by rw[Aj hx];rfl)) ?_)));refine Qc [.slice (some ⟨bf,0,none⟩) es.length es.length,.slice (some ⟨bp,0,none⟩) N N] U Aei TU (hl:=U) ?_;refine BG U (Ba U (Ao Qv U (B0 Cc U (fun _ hx=>(by rw[Aj hx];rfl)) ?_)));refine AU ?_;replace H:=H.drew;refine Bn KU U U U (by simp[AY]) H at5 U ?_;rintro w H;refine Ab (BH (H.get at3) (AD U U ?_))
        refine Fs U (AU (Ad U (Ab (BH (H.get at3) (BF (A5 (ZB (Ai2 U U U Qn KU H at5 U (show _=(.int _ _)from rfl) (show _=(.int _ _)from rfl) ?_))))))));refine⟨bf,bp,x,p,kk,rfl,NQ hF fun i hi=>(Aar hr i (by omega)).symm,hx0,hpb,⟨m,hbt,hph x p ⟨rfl,rfl⟩⟩,H.sub (fun y hy=>?_) ?_⟩
        .simp only[qai,qau,or_false]at hy
         rcases hy with rfl|rfl
         .exact qac (i:=0) U
         .exact qac (i:=4) U
        .simp only[qbx,qab,forall_eq,qau,false_imp_iff,implies_true,List.Pairwise.nil,and_true];exact H.ne at0 at4 (by decide)
       .intro h3;replace h3:=AN h3;omega
      .skip
       refine A1 (Ax (Ae (Af U (Bo U U ?_))));rw[show((j+1:Nat):Int) - 1=(j:Int)by omega];refine Ad U (qA (Ae (Af U (Bm U U (qA (Aw _ U ?_ ?_))))))
       .intro h3;replace h3:=AM h3;omega
       .intro h3;replace h3:=AN h3;have hF1:=Q6 hF (cap':=Ge es j) fun i _=>S8 es j i;obtain⟨x1,hx1⟩:=qD (Kw g (Ge es j) x p);refine Ay (Aa (Ae (A4 U (Cg CE Ct U H at6 U (Af U (Al qB (Afn (bf:=bf) (bo:=bo) (ae:=some ⟨q,0,none⟩) (Ctx.lend (L1:=[_,_,_]) (L2:=[_,_,_,_]) H) O (H.get at3) (Hf (L:=[_,_,_]) H.nd (x:=(bs,_)) (qac (i:=0) U)) (H.get at4) (Hf (L:=[_,_,_]) H.nd (x:=(bp,_)) (qac (i:=1) U)) (R.ext0 H.ext) (fun hne hm=>by have h7:=Rd.lt R hne (fun x _=>⟨_,rfl⟩) (by decide);have h8:=(Ctx.left (L:=[_,_,_]) (L':=[_,_,_,_]) H).own;obtain⟨y,hy,he⟩:=qah.1 hm;rcases h8 y hy with h|h;cases h;omega) hr (fun i _=>S8 es j i) (by rw[<-hg];exact hF) (by rw[<-hg];exact hx0) hov hpb) U ?_))))));rintro rv w ⟨rfl,full',O',H2⟩;rw[<-hg]at H2;replace H:=Ctx.back (L1:=[_,_,_]) (L2:=[_,_,_,_]) H H2
        refine qA (A1 ?_);rw[<-hx1]at hF1 H;refine Bw 110680464442257309696 (α:=FSt) (fun _=>[]) (fun t w'=>Fine g (Ge es j) t.x t.p/\(∀v,v<N->t.ov v=BK g t.x v)/\(∀v,v<N -> -1073741824<=t.p v/\t.p v<=1073741824)/\(∀xf pf ovf,Fills (esC es (Ge es j)) N t.x t.p t.ov xf pf ovf->Fills (esC es (Ge es j)) N x1 p (BK g x1) xf pf ovf)/\Ctx w0 [] w' [(bf,Bl 2 (BZ (t.x) es.length)),(bo,Bl 2 (BZ (t.ov) N)),(q,Bl 158 full'),(bs,Bl 217 (SC N (some ⟨q,0,none⟩) es.length ce bf bp bo t.kk)),(bp,Bl 2 (BZ (t.p) N)),(b2,Bl 125 [.slice none 0 0,.slice none 0 0]),(b1,Bl 123 [.int .i64 (N:Int),.slice a es.length c])]) (fun t=>(I3 g t.x).toNat) ⟨x1,p,BK g x1,kk⟩ U ?_ ?_ ?_
        .exact trivial
        .exact⟨hF1,fun _ _=>rfl,hpb,(fun _ _ _ h=>h),H⟩
        .rintro⟨x,p,ov,kk⟩ jj2 w ⟨hF,hov,hpb,hfl,H⟩;dsimp only at hF hov hpb hfl H;dsimp only;refine Ax (Ae (A4 U ?_));have Hq:=H.perm perm5;refine Al qB (Aqt (bs:=bs) (bf:=bf) (bp:=bp) (bo:=bo) (N:=N) (n:=es.length) (ae:=some ⟨q,0,none⟩) (ce:=ce) (es:=esC es (Ge es j)) (g:=g) (cap:=Ge es j) (JY es _) (by rw[grE_C,<-hg]) (fun i hi=>Aqe hi) (Ctx.lend (L1:=[_,_,_,_,_]) (L2:=[_,_]) Hq) O' (YV hr (P5 hr j)) hF hov hpb) U ?_;rintro rv w ⟨b,x',p',ov',kk',rfl,H2,hF',hov',hpb',hb0,hb1,hfr⟩;replace H:=(Ctx.back (L1:=[_,_,_,_,_]) (L2:=[_,_]) Hq H2).perm perm5.symm;refine qA (Aw _ U ?_ ?_)
         .intro h4;refine Ay (Aa (A1 (Ay (A8 (Aa ?_)))));have h5:=hb1 h4;have h6:=Aag g x';exact⟨⟨x',p',ov',kk'⟩,rfl,trivial,⟨hF',hov',hpb',fun xf pf ovf h=>hfl xf pf ovf (.go (h4 ▸ hfr) h),H⟩,by dsimp only;omega⟩
         .intro h4;refine Bt (An (An (AK (A8 (Aa ?_)))));have hz:∀v,v<N->BK g x' v=0:=fun v hv=>Vw hgo (fun u hu=>hb0 h4 u (by omega)) v (by omega);exact⟨⟨j,full',x',p',ov',kk'⟩,rfl,⟨rfl,trivial⟩,⟨by dsimp only;omega,O',hF',hz,fun v hv=>(hov' v hv).trans (hz v hv),hpb',fun xf pf h=>hph xf pf ⟨x1,x',p',ov',by rw[<-hg];exact hx1,by rw[<-hg];exact hfl _ _ _ (.stop (h4 ▸ hfr)),h⟩,H⟩,by dsimp only;omega⟩
theorem Zm{N:Int}{es:List Ed}{pot:List Int}(hr:CA N es=true){k:Nat}(hk:k<2*es.length):Ae5 N es pot (k:Int)=(grE N es).len (Fk pot) k:=by
 obtain⟨e,he,hE,-⟩:=Ud hr hk;unfold Ae5 Gr.len Gr.c Gr.u Gr.v;rw[hE];unfold IL
 rcases Nat.mod_two_eq_zero_or_one k with h|h
 .rw[if_pos h,if_pos h,if_pos h,VM he,VK he,VL he,if_neg (by omega)];rfl
 .rw[if_pos h,if_neg (show ¬k % 2=0 by omega),if_neg (show ¬k % 2=0 by omega),if_neg (show ¬k % 2=0 by omega),VM he,VK he,VL he];rfl
theorem VT{N:Int}{es:List Ed}{fl:List Int}(hw:Cu N es fl=true){k:Nat}(hk:k<2*es.length):LY N es fl (k:Int)=CI (Cs es) (flE fl) k:=by
 obtain⟨e,x,he,hx,hro,-⟩:=Ue hw hk;rw[hro];unfold OT CI Cs flE;rw[Bv he,Bv hx]
 rcases Nat.mod_two_eq_zero_or_one k with h|h
 .rw[if_neg (by omega),if_pos h]
 .rw[if_pos h,if_neg (by omega)]
theorem Ago{N:Int}{es:List Ed}{fl:List Int}(hw:Cu N es fl=true)(h:∀v,v<N.toNat->BK (grE N es) (flE fl) v=0):Gs N es fl=true:=by
 unfold Gs OU;rw[hw,qcl,qaw];intro x hx;obtain⟨i,hi⟩:=qby.1 hx;obtain⟨h1,rfl⟩:=Q8 hi;exact qan (h i h1)
theorem GY{N:Int}{es:List Ed}{fl pot:List Int}:FV N es fl pot=true↔Gs N es fl=true/\GL N pot=true/\Fine (grE N es) (Cs es) (flE fl) (Fk pot):=by
 have hE:(grE N es).E=es.length:=rfl;unfold FV;simp only[qae];constructor
 .rintro⟨hr,hf,hp,ht⟩;have hw:=(F7 hf).1;obtain⟨hl,-,hin⟩:=C5 hw;refine⟨hf,hp,fun i hi=>?_,fun a ha hro=>?_⟩
  .rw[hE]at hi;obtain⟨e,he⟩:=AE (h:=hi);obtain⟨x,hx⟩:=AE (l:=fl) (i:=i);unfold flE Cs;rw[Bv he,Bv hx];exact hin i e x he hx
  .rw[hE]at ha;have h1:=qaw.1 ht a (qa5.2 ha);unfold JU at h1;rw[Zm hr ha,VT hw ha,qan hro,qdu,qcr,qdh]at h1;omega
 .rintro⟨hf,hp,hF⟩;have hw:=(F7 hf).1;obtain⟨hl,hr,hin⟩:=C5 hw;refine⟨hr,hf,hp,qaw.2 fun a ha=>?_⟩;rw[qa5]at ha;unfold JU;rw[Zm hr ha,VT hw ha,qcr]
  by_cases h:0<CI (Cs es) (flE fl) a
  .rw[qa2 (by have:=hF.fit a ha h;omega),qdv]
  .rw[qa2 h,qc4]
theorem XL{N:Nat}{es:List Ed}{x p:Nat->Int}(hr:CA (N:Int) es=true)(hF:Fine (grE (N:Int) es) (Cs es) x p)(ho:∀v,v<N->BK (grE (N:Int) es) x v=0)(hp:∀v,v<N -> -1073741824<=p v/\p v<=1073741824):FV (N:Int) es (tab x es.length) (tab p N)=true:=by
 have hx:∀i,i<es.length->flE (tab x es.length) i=x i:=fun i hi=>Ajz hi;have hq:∀v,v<N->Fk (tab p N) v=p v:=fun v hv=>Bv (BW hv)
 have hw:Cu (N:Int) es (tab x es.length)=true:=by
  unfold Cu;rw[hr,Ds,qan rfl];refine qaw.2 fun b hb=>?_;obtain⟨i,hi⟩:=qby.1 hb;have hl:=CD hi;rw[qc5,Ds]at hl;obtain⟨e,he⟩:=AE (l:=es) (i:=i);rw[Q7 he (BW (f:=x) (by omega))]at hi
  injection hi with hi
  have h1:=hF.in' i (by show i<es.length;omega);unfold Cs at h1;rw[Bv he]at h1;rw[<-hi];show inB e (x i)=true;unfold inB;rw[qan h1.1,qan h1.2];rfl
 refine GY.2 ⟨Ago hw fun v hv=>?_,?_,QE (Li hr) (Agm hF hx) hq⟩
 .rw[Mr hx];exact ho v hv
 .unfold GL;rw[Ds,qan rfl,qdu,qaw];intro y hy;obtain⟨i,hi⟩:=qby.1 hy;obtain⟨h1,rfl⟩:=Q8 hi;have:=hp i h1;unfold Pk;rw[qae,qar,qar];omega
theorem Nn{ds es:List Du}(h:Afy ds es)(hs:(es.map (·.id)).Pairwise (·<·)):ds=es:=by
 obtain⟨hp,hd⟩:=h
 induction es generalizing ds with
 |nil=>exact hp.eq_nil
 |cons e es ih =>
  cases ds with
  |nil=>exact absurd hp.symm.eq_nil (by simp)
  |cons d ds =>
   rw[qay,qbx]at hs hd
   have hde:d=e:=by
    rcases qai.1 (hp.mem_iff.1 (qak ..))with h|h
    .exact h
    .rcases qai.1 (hp.mem_iff.2 (qak ..))with h2|h2
     .exact h2.symm
     .have h3:=hs.1 d.id (qa4 (f:=fun d:Du=>d.id) h);have h4:=hd.1 e.id (qa4 (f:=fun d:Du=>d.id) h2);omega
   subst hde;rw[ih hs.2 (List.Perm.cons_inv hp) hd.2]
structure Rnd where
 no:Int
 day:Int
 cmp:Bool
 ids:List Int
 N:Int
 es:List Ed
 fl:List Int
 pot:List Int
structure RSl where
 aI:Option Addr
 cI:Nat
 aE:Option Addr
 cE:Nat
 aF:Option Addr
 cF:Nat
 aP:Option Addr
 cP:Nat
abbrev B9(r:Rnd)(q:RSl):List Value:=[.int .u64 r.no,.int .i64 r.day,.bool r.cmp,.slice q.aI r.ids.length q.cI,.int .i64 r.N,.slice q.aE r.es.length q.cE,.slice q.aF r.fl.length q.cF,.slice q.aP r.pot.length q.cP]
structure RAt(w:World)(r:Rnd)(q:RSl):Prop where
 I:Rd w q.aI 1 U1 r.ids
 E:Rd w q.aE 4 CO r.es
 F:Rd w q.aF 1 I1 r.fl
 P:Rd w q.aP 1 I1 r.pot
 fc:r.fl.length<=q.cF
structure ROff(q:RSl)(r:Rnd)(S:Nat->Prop):Prop where
 I:r.ids≠[]->¬S (adr q.aI).block
 E:r.es≠[]->¬S (adr q.aE).block
 F:r.fl≠[]->¬S (adr q.aF).block
 P:r.pot≠[]->¬S (adr q.aP).block
theorem RAt.ext{w w':World}{r:Rnd}{q:RSl}{S:List Nat}(h:RAt w r q)(he:Ext S w w')(hn:ROff q r (·∈S)):RAt w' r q :=
 ⟨h.I.ext' he hn.I,h.E.ext' he hn.E,h.F.ext' he hn.F,h.P.ext' he hn.P,h.fc⟩
theorem RAt.ext0{w w':World}{r:Rnd}{q:RSl}(h:RAt w r q)(he:Ext [] w w'):RAt w' r q:=h.ext he ⟨fun _=>by simp,fun _=>by simp,fun _=>by simp,fun _=>by simp⟩
theorem ROff.mono{q:RSl}{r:Rnd}{S S':Nat->Prop}(h:ROff q r S)(hs:∀x,S' x->S x):ROff q r S':=⟨fun g k=>h.I g (hs _ k),fun g k=>h.E g (hs _ k),fun g k=>h.F g (hs _ k),fun g k=>h.P g (hs _ k)⟩
theorem RAt.lt{w:World}{r:Rnd}{q:RSl}(h:RAt w r q):ROff q r (fun x=>w.heap.size<=x) :=
 ⟨fun g=>qdj.2 (h.I.lt' (fun _ _=>rfl) (by decide) g),fun g=>qdj.2 (h.E.lt' (fun _ _=>rfl) (by decide) g),fun g=>qdj.2 (h.F.lt' (fun _ _=>rfl) (by decide) g),fun g=>qdj.2 (h.P.lt' (fun _ _=>rfl) (by decide) g)⟩
def AcAt(w:World)(t:TypeId)(bx:Nat)(acs:List Ac):Prop:=∃a c,w.heap[bx]?=some (Bl t [.slice a acs.length c])/\Rd w a 2 Dl acs
def DuAt(w:World)(bd:Nat)(ds:List Du):Prop:=∃b nx o,w.heap[bd]?=some (Bl 132 (DU b nx))/\w.heap[b]?=some o/\Df .u64 (dm ds) o
theorem AcAt.ext0{w w':World}{t:TypeId}{bx:Nat}{acs:List Ac}(h:AcAt w t bx acs)(he:Ext [] w w'):AcAt w' t bx acs:=by
 obtain⟨a,c,h1,h2⟩:=h;exact⟨a,c,he.to h1 (by simp),h2.ext0 he⟩
theorem DuAt.ext0{w w':World}{bd:Nat}{ds:List Du}(h:DuAt w bd ds)(he:Ext [] w w'):DuAt w' bd ds:=by
 obtain⟨b,nx,o,h1,h2,h3⟩:=h;exact⟨b,nx,o,he.to h1 (by simp),he.to h2 (by simp),h3⟩
theorem LH{bx:Nat}{acs:List Ac}(ha:F9 acs=0)(w:World)(A:AcAt w 129 bx acs) :
  Ret prog 116 #[ptr bx] w fun v w'=>Ext [] w w'/\∃a c,v=.slice a (acs.map Eh).length c/\Rd w' a 1 I1 (acs.map Eh):=by
 obtain⟨h1,h2,-⟩:=Cv.1 ha;obtain⟨a,c,g1,g2⟩:=A;refine Ret.mono (Af1 a acs.length c acs w g1 g2 U h2) fun v w' F=>⟨F.ext,?_⟩;obtain⟨a',n',c',f',rfl,O,hb⟩:=F.ex;obtain rfl:=O.num;exact⟨a',c',rfl,O.rd1 fun x hx=>(hb x hx).1⟩
theorem J6{bd:Nat}{ds:List Du}{nx:Int}(hd:ofC ds nx=0)(w:World)(D:DuAt w bd ds) :
  Ret prog 47 #[ptr bd] w fun v w'=>Ext [] w w'/\∃a c,v=.slice a ds.length c/\Rd w' a 7 Dn ds:=by
 obtain⟨h1,-,h3,-⟩:=FJ.1 hd;obtain⟨b,nx',o,g1,g2,g3⟩:=D;refine Ret.mono (Nh w g1 g2 g3 (Lq hd)) ?_;rintro v w' ⟨ds',hS,F⟩;obtain rfl:=Nn hS (Kc h3).2.1;refine⟨F.ext,?_⟩;obtain⟨a',n',c',f',rfl,O,hb⟩:=F.ex;obtain rfl:=O.numN (fun _ _=>rfl) (by decide);exact⟨a',c',rfl,OS.rd O (fun x hx=>(hb x hx).1) (fun _ _=>rfl) (by decide)⟩
structure PlanR(acs:List Ac)(ds:List Du)(net:Bool)(r:Rnd):Prop where
 no:r.no=0
 day:r.day=0
 cmp:r.cmp=net
 ids:r.ids=(opn ds).map Du.id
 N:r.N=((acs.length+1:Nat):Int)
 es:r.es=BO (acs.map Eh) (opn ds) net
 chk:FV r.N r.es r.fl r.pot=true
 one:∃x p:Nat->Int,Zl r.es (acs.length+1) x p/\r.fl=tab x r.es.length/\r.pot=tab p (acs.length+1)
theorem Agp{acs:List Ac}{ds:List Du}{net:Bool}{r r':Rnd}(h:PlanR acs ds net r)(k:PlanR acs ds net r'):r=r':=by
 obtain⟨a1,a2,a3,a4,a5,a6,-,x,p,a7,a8,a9⟩:=h;obtain⟨b1,b2,b3,b4,b5,b6,-,y,q,b7,b8,b9⟩:=k;obtain⟨no,day,cmp,ids,N,es,fl,pot⟩:=r;obtain⟨no',day',cmp',ids',N',es',fl',pot'⟩:=r';dsimp only at *;have he:es=es':=a6.trans b6.symm;subst he;obtain⟨rfl,rfl⟩:=Agl a7 b7;rw[a1,a2,a3,a4,a5,a8,a9,b1,b2,b3,b4,b5,b8,b9]
def rnd0:List Value:=[.int .u64 0,.int .i64 0,.bool false,.slice none 0 0,.int .i64 0,.slice none 0 0,.slice none 0 0,.slice none 0 0]
def Akn(w:World)(acs:List Ac)(ds:List Du)(net:Bool)(v:Value)(w':World):Prop :=
 Ext [] w w'/\((DS (acs.map Eh) ds=false/\v=.tuple #[.agg rnd0.toArray,.int .i64 1]) \/
  (DS (acs.map Eh) ds=true/\∃r q,v=.tuple #[.agg (B9 r q).toArray,.int .i64 0]/\PlanR acs ds net r/\RAt w' r q/\ROff q r (fun x=>x<w.heap.size)))
theorem Zn{bx bd:Nat}{acs:List Ac}{ds:List Du}{nx:Int}(ha:F9 acs=0)(hd:ofC ds nx=0)(net:Bool)(w:World)(A:AcAt w 129 bx acs)(D:DuAt w bd ds) :
  Ret prog 80 #[ptr bx,ptr bd,.bool net] w (Akn w acs ds net):=by
 obtain⟨w0,rfl,H⟩:=qE w;have hn16:=(Cv.1 ha).1;have hm64:=(FJ.1 hd).1;obtain⟨rs,hrs⟩:=qD (acs.map Eh);have hrl:rs.length=acs.length:=by rw[hrs,qal]
 refine Au (fn:=f80) func80 U [.pointer (some ⟨bx,0,none⟩),.pointer (some ⟨bd,0,none⟩),.bool net] U ?_;refine Ae (Bc FU H ?_);rintro b6 w - H;refine Ad U (qA (Ax (Ae (Ci (α:=Unit) 516096 (fun _=>[(18,.bool (false))]) (fun _ w'=>Ctx w0 [] w' [(b6,Bl 127 rnd0)]) U ?_ ?_))))
 .refine A4 U (Cw OI U ?_);refine A2 U (AR 15 U ?_ ?_)
  .intro h1;refine Ag U (Ag U (AA U (.bool _) U (Ab ?_)));exact⟨rfl,(),rfl,⟨qaa Value.bool (by simp_all),trivial⟩,H⟩
  .intro h2;refine A4 U (Cw LV U ?_);refine AJ U (.bool _) U (Ab ?_);exact⟨rfl,(),rfl,⟨qaa Value.bool (by rfl),trivial⟩,H⟩
 rintro - j18 w H;refine FE U (Ay (Aa ?_));cases hbb:DS rs ds
 .skip
  refine Ae (A4 U (Al qB (LH ha _ (A.ext0 H.ext)) U ?_));rintro v w ⟨hx22,a2,c2,rfl,R2⟩;rw[<-hrs]at R2 |-;replace H:=H.call hx22;refine A4 U (Al qB (J6 hd _ (D.ext0 H.ext)) U ?_);rintro v w ⟨hx24,a3,c3,rfl,R3⟩;replace H:=H.call hx24;replace R2:=R2.ext0 hx24;refine A2 U (Al qB (Im a2 a3 _ c2 _ c3 rs ds net _ R2 U R3 U) U ?_);rintro v w ⟨hx26,⟨-,rfl⟩|⟨hb1,-⟩⟩
  rotate_left
  (rw[hbb]at hb1;cases hb1)
  replace H:=H.call hx26;refine Cr U (AH U U (AH U U (AH U U (Bc KV H ?_))));rintro b8 w - H;refine Bn Ct U U U (by simp[AY]) H at0 U ?_;rintro w H;refine Am U (Ad U (qA (Ax (Ae (Af U (CK U U (qA (Aw _ U ?_ ?_))))))))
  .intro h1;replace h1:=CY h1;refine Ae (BA [.int .u64 0,.int .i64 0,.bool false,.slice none 0 0,.int .i64 0,.slice none 0 0,.slice none 0 0,.slice none 0 0] TS FU ?_);refine Af U (Bn Da U U U (by simp[AY]) H at1 U ?_);rintro w H;refine Ad U (qA (A5 (Av (IR U U U F1 Da H at1 U (show _=(.int _ _)from rfl) ?_))));exact⟨H.ext,.inl ⟨by rw[<-hrs];exact hbb,rfl⟩⟩
  .intro h1;replace h1:=CZ h1;cases h1
 .skip
  have hB:=(ID).1 hbb;obtain⟨es,hes⟩:=qD (BO rs (opn ds) net);refine Ae (A4 U (Al qB (LH ha _ (A.ext0 H.ext)) U ?_));rintro v w ⟨hx22,a2,c2,rfl,R2⟩;rw[<-hrs]at R2 |-;replace H:=H.call hx22;refine A4 U (Al qB (J6 hd _ (D.ext0 H.ext)) U ?_);rintro v w ⟨hx24,a3,c3,rfl,R3⟩;replace H:=H.call hx24;replace R2:=R2.ext0 hx24;refine A2 U ?_;have hlb:=H.lt at0;refine Al qB (Im a2 a3 _ c2 _ c3 rs ds net _ R2 U R3 U) U ?_;rintro v w ⟨hx26,⟨hb1,-⟩|⟨-,aE,nE,cE,vI,rfl,SE,SI⟩⟩
  (rw[hbb]at hb1;cases hb1)
  replace H:=H.call hx26;rw[<-hes]at SE;obtain⟨aE,cE,hE1,-,RE,hEn⟩:=SE.ex;obtain⟨aI,cI,rfl,-,RI,hIn⟩:=SI.ex;cases hE1;have hx026:=H.ext;have hb60:w0.heap.size<=b6:=(H.own _ (qak ..)).elim (fun h=>by cases h) id;obtain⟨w26,rfl⟩:=qD w;replace H:=Ctx.lend (L1:=[_]) (L2:=[]) H;dsimp only[List.map]at H;have hs24:=hx26.size;refine Cr U (AH U U (AH U U (AH U U (Bc KV H ?_))));rintro b8 w - H;refine Bn Ct U U U (by simp[AY]) H at0 U ?_;rintro w H;refine Am U (Ad U (qA (Ax (Ae (Af U (CK U U (qA (Aw _ U ?_ ?_))))))))
  .intro h1;replace h1:=CY h1;exact absurd U h1
  .intro h1;replace h1:=CZ h1;have hri:CA ((rs.length+1:Nat):Int) es=true:=by rw[hes];exact hB.right net
   have hE6:es≠[]->(adr aE).block∉[b6]:=fun h=>by have:=hEn h;rw[qab];omega
   have hI6:(opn ds).map Du.id≠[]->(adr aI).block∉[b6]:=fun h=>by have:=hIn h;rw[qab];omega
   have hE26:=RE.lt' (fun _ _=>rfl) (by decide);have hI26:=RI.lt' (fun _ _=>rfl) (by decide);refine Ay (Aa (Ae (Cg CE Ct U H at0 U ?_)));have hl8:=H.lt at0;have hl6:=H.lt at1;refine Al qB (Akm (rs.length+1) aE cE es _ (RE.ext' H.ext hE6) hri) U ?_;rintro v w ⟨bf,bp,x,p,k,rfl,hF,hov,hpb,hBR,HB⟩;replace H:=H.call HB.ext;have RF:Rd w (some ⟨bf,0,none⟩) 1 I1 (tab x es.length):=CB (HB.get at0);have RP:Rd w (some ⟨bp,0,none⟩) 1 I1 (tab p (rs.length+1)):=CB (HB.get at1);have hbf:=(HB.own _ (qac at0)).elim (fun h=>by cases h) id;have hbp:=(HB.own _ (qac at1)).elim (fun h=>by cases h) id;dsimp only at hbf hbp;replace RE:=RE.ext' H.ext hE6;replace RI:=RI.ext' H.ext hI6;have hb80:=(H.own _ (qac at0)).elim (fun h => .inl (qab.1 h)) Or.inr
   have hx036:=hx026.then H.ext (fun x hx => .inr (by rw[qab.1 hx];exact hb60));have hs36:=HB.ext.size;have hs26:=H.size;obtain⟨w36,rfl⟩:=qD w;replace H:=Ctx.lend (L1:=[_,_]) (L2:=[]) H;dsimp only[List.map]at H;refine Cr U (AH U U (AH U U (AH U U (Bc TU H ?_))));rintro b11 w - H;refine Bn KU U U U (by simp[AY]) H at0 U ?_;rintro w H;refine Ad U (Ad U (qA (Ax (Ae (Af U (CK U U (qA (Aw _ U ?_ ?_))))))))
   .intro h2;replace h2:=CY h2;exact absurd U h2
   .intro h2;replace h2:=CZ h2;obtain⟨r,hr⟩:=qD (⟨0,0,net,(opn ds).map Du.id,((rs.length+1:Nat):Int),es,tab x es.length,tab p (rs.length+1)⟩:Rnd);obtain⟨q,hq⟩:=qD (⟨aI,cI,aE,cE,some ⟨bf,0,none⟩,es.length,some ⟨bp,0,none⟩,rs.length+1⟩:RSl)
    have hcells:B9 r q=[.int .u64 0,.int .i64 0,.bool net,.slice aI ((opn ds).map Du.id).length cI,.int .i64 ((rs.length+1:Nat):Int),.slice aE es.length cE,.slice (some ⟨bf,0,none⟩) es.length es.length,.slice (some ⟨bp,0,none⟩) (rs.length+1) (rs.length+1)]:=by
     rw[hr,hq];unfold B9;dsimp only;rw[Ds,Ds]
    refine Ay (Aa (Ae (A2 U (Ap U (Cg CE Ct U H at1 U (Cg Qn KU U H at0 U (BA [.int .u64 0,.int .i64 0,.bool net,.slice aI ((opn ds).map Du.id).length cI,.int .i64 ((rs.length+1:Nat):Int),.slice aE es.length cE,.slice (some ⟨bf,0,none⟩) es.length es.length,.slice (some ⟨bp,0,none⟩) (rs.length+1) (rs.length+1)] TS FU ?_)))))));refine Bn Da U U U (by simp[AY]) H at2 U ?_;rintro w H;refine Ad U (qA (A5 (IR U U U F1 Da H at2 U (show _=(.int _ _)from rfl) ?_)))
    have h8:w0.heap.size<=b8:=by rcases hb80 with h|h <;> omega
    have hxx:=hx036.then H.ext fun x hx => .inr (by simp only[qai,qau,or_false]at hx;omega);refine⟨hxx,.inr ⟨by rw[<-hrs];exact hbb,r,q,by rw[hcells],⟨by rw[hr],by rw[hr],by rw[hr],by rw[hr],by rw[hr,hrl],by rw[hr,<-hrs];exact hes,?_,by rw[hr,<-hrl];exact⟨x,p,hBR,rfl,rfl⟩⟩,⟨?_,?_,?_,?_,?_⟩,⟨?_,?_,?_,?_⟩⟩⟩
    .rw[hr];exact XL hri hF hov hpb
    .rw[hr,hq];exact RI.ext' H.ext fun h=>by have h1:=hI26 h;have h2:=hI6 h;rw[qab]at h2;simp only[qai,qau,or_false];rcases hb80 with h3|h3 <;> omega
    .rw[hr,hq];exact RE.ext' H.ext fun h=>by have h1:=hE26 h;have h2:=hE6 h;rw[qab]at h2;simp only[qai,qau,or_false];rcases hb80 with h3|h3 <;> omega
    .rw[hr,hq];exact RF.ext' H.ext fun _=>by show bf∉[b8,b6];simp only[qai,qau,or_false];omega
    .rw[hr,hq];exact RP.ext' H.ext fun _=>by show bp∉[b8,b6];simp only[qai,qau,or_false];omega
    .rw[hr,hq];dsimp only;rw[Ds];exact qam _
    .rw[hr,hq];intro h;have:=hIn h;dsimp only;omega
    .rw[hr,hq];intro h;have:=hEn h;dsimp only;omega
    .rw[hr,hq];intro _;show ¬bf<w0.heap.size;omega
    .rw[hr,hq];intro _;show ¬bp<w0.heap.size;omega
def Agq(w:World)(rs:List Int)(ds:List Du)(net:Bool)(N:Int)(aE:Option Addr)(nE:Nat)(vI:Value)(code:Int):Prop :=
 (DS rs ds=false/\code=1/\∃aI nI cI,vI=.slice aI nI cI)\/(DS rs ds=true/\code=0/\N=((rs.length+1:Nat):Int)/\nE=(BO rs (opn ds) net).length/\Rd w aE 4 CO (BO rs (opn ds) net)/\∃aI cI,vI=.slice aI ((opn ds).map Du.id).length cI/\Rd w aI 1 U1 ((opn ds).map Du.id))
theorem RoundRes.uni{w w':World}{rs:List Int}{ds:List Du}{net:Bool}{v:Value}(h:RoundRes w rs ds net v w'):Ext [] w w'/\∃N aE nE cE aI nI cI code,v=.tuple #[Eo N aE nE cE,.slice aI nI cI,.int .i64 code]/\∀(S:List Nat) (w2:World),(∀x∈S,x<w.heap.size)->Ext S w' w2->Agq w2 rs ds net N aE nE (.slice aI nI cI) code:=by
 obtain⟨hx,⟨h1,rfl⟩|⟨h1,aE,nE,cE,vI,rfl,SE,SI⟩⟩:=h
 .exact⟨hx,_,_,_,_,_,_,_,_,rfl,fun _ _ _ _ => .inl ⟨h1,rfl,_,_,_,rfl⟩⟩
 .obtain⟨aE',cE',hE,-,RE,hEn⟩:=SE.ex;obtain⟨aI,cI,rfl,-,RI,hIn⟩:=SI.ex;cases hE;exact⟨hx,_,_,_,_,_,_,_,_,rfl,fun S w2 hS he => .inr ⟨h1,rfl,rfl,rfl,RE.ext' he (fun hn hm=>by have:=hEn hn;have:=hS _ hm;omega),_,_,rfl,RI.ext' he (fun hn hm=>by have:=hIn hn;have:=hS _ hm;omega)⟩⟩
structure NowZ where
 b:Nat
 N:Int
 aE:Option Addr
 nE:Nat
 cE:Nat
 aI:Option Addr
 nI:Nat
 cI:Nat
 code:Int
def NowI(w0:World)(rs:List Int)(ds:List Du)(net:Bool)(b5:Nat)(o5:Obj)(z:NowZ)(w:World):Prop :=
 Ext [] w0 w/\w.heap[b5]?=some o5/\w.heap[z.b]?=some (Bl 123 [.int .i64 z.N,.slice z.aE z.nE z.cE])/\Agq w rs ds net z.N z.aE z.nE (.slice z.aI z.nI z.cI) z.code
def Pn(acs:List Ac)(ds:List Du)(r:Rnd):Bool :=
 DS (acs.map Eh) ds && (decide (((acs.length+1:Nat):Int)=r.N) && (decide (BO (acs.map Eh) (opn ds) r.cmp=r.es) && decide ((opn ds).map Du.id=r.ids)))
theorem Aqu{bx bd:Nat}{acs:List Ac}{ds:List Du}{nx:Int}(ha:F9 acs=0)(hd:ofC ds nx=0){r:Rnd}{q:RSl}(w:World)(A:AcAt w 129 bx acs)(D:DuAt w bd ds)(RA:RAt w r q)(he:r.es.length<=1000000)(hi:r.ids.length<=1000000) :
  Ret prog 119 #[ptr bx,ptr bd,.agg (B9 r q).toArray] w fun v w'=>v=.bool (Pn acs ds r)/\Ext [] w w':=by
 obtain⟨w0,rfl,H⟩:=qE w;have hn16:=(Cv.1 ha).1;have hm64:=(FJ.1 hd).1;obtain⟨rs,hrs⟩:=qD (acs.map Eh);have hrl:rs.length=acs.length:=by rw[hrs,qal]
 refine Au (fn:=f119) func119 U [.pointer (some ⟨bx,0,none⟩),.pointer (some ⟨bd,0,none⟩),.agg (B9 r q).toArray] U ?_;refine Ae (Bu (B9 r q) (.agg _) U U H ?_);rintro b5 w - H;refine Ai U (qA ?_);have hx5:=H.ext;have h5:=H.get at0;obtain⟨w5,rfl⟩:=qD w;refine DV 2097024 (α:=NowZ) (fun z=>[(7,ptr z.b),(8,.slice z.aI z.nI z.cI),(9,.int .i64 z.code)]) (NowI w0 rs ds r.cmp b5 (Bl 127 (B9 r q))) U ?_ ?_
 .skip
  refine PM (.two [0,2,4,5] 1 (.two [] 3 (.two [] 6 (.one [7,8,9,10] 11 (.one [] 12 (.one [] 13 (.one [] 14 .stop)))) 11 (.one [] 6 (.one [7,8,9,10] 12 (.one [] 13 (.one [] 14 .stop))))) 11 (.one [] 3 (.one [] 6 (.one [7,8,9,10] 12 (.one [] 13 (.one [] 14 .stop)))))) 11 (.one [] 1 (.one [] 3 (.one [] 6 (.one [7,8,9,10] 12 (.one [] 13 (.one [] 14 .stop))))))) (fun z=>Ext [] w5 z) Br (Ext.drew [] w5) (Jf U U U ?_);refine BG U (BG U (Ao MQ U (B0 LI U (fun _ hx=>(by rw[Aj (hx.to h5 (by simp))];rfl)) ?_)));refine AU ?_;have E:=Ext.drew [] w5;refine⟨?_,?_⟩
  .skip
   refine Al qB (LH ha _ (A.ext0 (hx5.trans E))) U ?_;rintro v w ⟨hx12,a2,c2,rfl,R2⟩;rw[<-hrs]at R2 |-;replace E:=E.trans hx12;refine Ab (BT (by exact E) ?_);refine Jf U U U (AU ?_);refine⟨?_,?_⟩
   .skip
    refine Al qB (J6 hd _ (D.ext0 (hx5.trans E))) U ?_;rintro v w ⟨hx14,a3,c3,rfl,R3⟩;replace E:=E.trans hx14;replace R2:=R2.ext0 hx14;refine Ab (BT (by exact E) ?_);refine Jf U U U (AU ?_);refine⟨?_,?_⟩
    .skip
     refine Al qB (Im a2 a3 _ c2 _ c3 rs ds r.cmp _ R2 U R3 U) U ?_;rintro v w hR;obtain⟨hx17,N,aE,nE,cE,aI,nI,cI,code,rfl,hU⟩:=hR.uni;replace E:=E.trans hx17;refine Ab (BT (by exact E) ?_);refine BR U U (DH U (Bs U U (Bs U U (Bs U U (AU ?_)))));have H:=Ctx.start w [];refine Bc KV H ?_;rintro b7 w - H;refine Ab (BT (by exact E.trans H.ext) ?_);refine BR U U (AU (Bn Ct U U U (by simp[AY]) H at0 U ?_));rintro w H;refine Ab (BT (by exact E.trans H.ext) ?_);refine BR U U (AU (Am U (Ab (BT (by exact E.trans H.ext) ?_))));refine BR U U (AU (Ad U (Ab (BT (by exact E.trans H.ext) ?_))));refine Ey (Aa ?_);exact⟨⟨b7,N,aE,nE,cE,aI,nI,cI,code⟩,rfl,⟨rfl,rfl,rfl,trivial⟩,hx5.trans (E.trans H.ext),(E.trans H.ext).to h5 (by simp),H.get at0,hU [] _ (by simp) H.ext⟩
    .skip
     have H:=Ctx.start w [];refine Bc KV H ?_;rintro b7 w - H;have hn7:w5.heap.size<=b7:=qa6 E.size ((H.own _ (qak ..)).elim (fun h=>by cases h) id);replace E:=E.trans H.ext;have hb7:=H.get at0;replace R2:=R2.ext0 H.ext;replace R3:=R3.ext0 H.ext;refine Ab (BT (by exact E) ?_);refine BR U U (AU ?_);have hl7:=Bd hb7;refine Al qB (Im a2 a3 _ c2 _ c3 rs ds r.cmp _ R2 U R3 U) U ?_;rintro v w hR;obtain⟨hx17,N,aE,nE,cE,aI,nI,cI,code,rfl,hU⟩:=hR.uni;replace E:=E.trans hx17;replace hb7:=hx17.to hb7 (by simp);have H:=Ctx.start1 hb7;refine Ab (BT (by exact E) ?_);refine BR U U (DH U (Bs U U (Bs U U (Bs U U (AU (Bn Ct U U U (by simp[AY]) H at0 U ?_))))));rintro w H;refine Ab (BT (by exact E.then H.ext (fun x hx => .inr (by rw[qab.1 hx];exact hn7))) ?_);refine BR U U ?_
     refine AU (Am U (Ab (BT (by exact E.then H.ext (fun x hx => .inr (by rw[qab.1 hx];exact hn7))) ?_)));refine BR U U ?_;refine AU (Ad U (Ab (BT (by exact E.then H.ext (fun x hx => .inr (by rw[qab.1 hx];exact hn7))) ?_)));refine Ey (Aa ?_);have E2:=E.then H.ext fun x hx => .inr (by rw[qab.1 hx];exact hn7);exact⟨⟨b7,N,aE,nE,cE,aI,nI,cI,code⟩,rfl,⟨rfl,rfl,rfl,trivial⟩,hx5.trans E2,E2.to h5 (by simp),H.get at0,hU [b7] _ (by simpa using hl7) H.ext⟩
   .skip
    have H:=Ctx.start w [];refine Bc KV H ?_;rintro b7 w - H;have hn7:w5.heap.size<=b7:=qa6 E.size ((H.own _ (qak ..)).elim (fun h=>by cases h) id);replace E:=E.trans H.ext;have hb7:=H.get at0;replace R2:=R2.ext0 H.ext;refine Ab (BT (by exact E) ?_);refine BR U U (AU (Al qB (J6 hd _ (D.ext0 (hx5.trans E))) U ?_));rintro v w ⟨hx14,a3,c3,rfl,R3⟩;replace E:=E.trans hx14;replace R2:=R2.ext0 hx14;replace hb7:=hx14.to hb7 (by simp);refine Ab (BT (by exact E) ?_);refine BR U U (AU ?_);have hl7:=Bd hb7;refine Al qB (Im a2 a3 _ c2 _ c3 rs ds r.cmp _ R2 U R3 U) U ?_;rintro v w hR;obtain⟨hx17,N,aE,nE,cE,aI,nI,cI,code,rfl,hU⟩:=hR.uni;replace E:=E.trans hx17;replace hb7:=hx17.to hb7 (by simp);have H:=Ctx.start1 hb7;refine Ab (BT (by exact E) ?_);refine BR U U ?_
    refine DH U (Bs U U (Bs U U (Bs U U (AU (Bn Ct U U U (by simp[AY]) H at0 U ?_)))));rintro w H;refine Ab (BT (by exact E.then H.ext (fun x hx => .inr (by rw[qab.1 hx];exact hn7))) ?_);refine BR U U ?_;refine AU (Am U (Ab (BT (by exact E.then H.ext (fun x hx => .inr (by rw[qab.1 hx];exact hn7))) ?_)));refine BR U U ?_;refine AU (Ad U (Ab (BT (by exact E.then H.ext (fun x hx => .inr (by rw[qab.1 hx];exact hn7))) ?_)));refine Ey (Aa ?_);have E2:=E.then H.ext fun x hx => .inr (by rw[qab.1 hx];exact hn7);exact⟨⟨b7,N,aE,nE,cE,aI,nI,cI,code⟩,rfl,⟨rfl,rfl,rfl,trivial⟩,hx5.trans E2,E2.to h5 (by simp),H.get at0,hU [b7] _ (by simpa using hl7) H.ext⟩
  .skip
   have H:=Ctx.start (World.drew w5) [];refine Bc KV H ?_;rintro b7 w - H;have hn7:w5.heap.size<=b7:=qa6 E.size ((H.own _ (qak ..)).elim (fun h=>by cases h) id);replace E:=E.trans H.ext;have hb7:=H.get at0;refine Ab (BT (by exact E) ?_);refine BR U U (AU (Al qB (LH ha _ (A.ext0 (hx5.trans E))) U ?_));rintro v w ⟨hx12,a2,c2,rfl,R2⟩;rw[<-hrs]at R2 |-;replace E:=E.trans hx12;replace hb7:=hx12.to hb7 (by simp);refine Ab (BT (by exact E) ?_);refine BR U U (AU (Al qB (J6 hd _ (D.ext0 (hx5.trans E))) U ?_));rintro v w ⟨hx14,a3,c3,rfl,R3⟩;replace E:=E.trans hx14;replace R2:=R2.ext0 hx14;replace hb7:=hx14.to hb7 (by simp);refine Ab (BT (by exact E) ?_);refine BR U U (AU ?_);have hl7:=Bd hb7;refine Al qB (Im a2 a3 _ c2 _ c3 rs ds r.cmp _ R2 U R3 U) U ?_;rintro v w hR;obtain⟨hx17,N,aE,nE,cE,aI,nI,cI,code,rfl,hU⟩:=hR.uni
   replace E:=E.trans hx17;replace hb7:=hx17.to hb7 (by simp);have H:=Ctx.start1 hb7;refine Ab (BT (by exact E) ?_);refine BR U U (DH U (Bs U U (Bs U U (Bs U U (AU (Bn Ct U U U (by simp[AY]) H at0 U ?_))))));rintro w H;refine Ab (BT (by exact E.then H.ext (fun x hx => .inr (by rw[qab.1 hx];exact hn7))) ?_);refine BR U U ?_;refine AU (Am U (Ab (BT (by exact E.then H.ext (fun x hx => .inr (by rw[qab.1 hx];exact hn7))) ?_)));refine BR U U ?_;refine AU (Ad U (Ab (BT (by exact E.then H.ext (fun x hx => .inr (by rw[qab.1 hx];exact hn7))) ?_)));refine Ey (Aa ?_);have E2:=E.then H.ext fun x hx => .inr (by rw[qab.1 hx];exact hn7);exact⟨⟨b7,N,aE,nE,cE,aI,nI,cI,code⟩,rfl,⟨rfl,rfl,rfl,trivial⟩,hx5.trans E2,E2.to h5 (by simp),H.get at0,hU [b7] _ (by simpa using hl7) H.ext⟩
 .rintro⟨b7,N,aE,nE,cE,aI,nI,cI,code⟩ j1 w ⟨hx0,h5',hb7,hU⟩;dsimp only at hb7 hU;dsimp only;obtain⟨w1,rfl,H⟩:=qE w;have RA1:=RA.ext0 hx0
  rcases hU with⟨hb,rfl,-⟩|⟨hb,rfl,rfl,rfl,RE,aI',cI',hI,RI⟩
  .skip
   refine Ae (Af U (C3 U U (A2 U (AR 23 U ?_ ?_))))
   .intro g1;replace g1:=AM g1;exact absurd g1 (by decide)
   .intro g1;replace g1:=AN g1;refine Ag U (Ag U (Ag U (Ag U (Ag U (Ag U (AJ U (.bool _) U (A2 U (Ag U (Ag U ?_)))))))));refine Ag U (Ag U (Ag U (Ag U (AJ U (.bool _) U (A2 U (Ag U (Ag U (Ag U (Ag U ?_)))))))));refine AJ U (.bool _) U (Ai U (qA (A5 (AB (v:=(.bool _)) U U U ?_))));exact⟨qaa Value.bool (by unfold Pn;rw[<-hrs,hb];simp_all),hx0⟩
  .skip
   cases hI;have hel:(BO rs (opn ds) r.cmp).length<=1000000:=by have:=Jc ds;rw[Ic];split <;> omega
   have hil:((opn ds).map Du.id).length<=1000000:=by have:=Jc ds;rw[qal];omega
   refine Ae (Af U (C3 U U (A2 U (AR 23 U ?_ ?_))))
   .intro h1;replace h1:=AM h1;refine Ah Ev U (Bb Cc U ((by rw[Aj (H.ext.to hb7 (by simp))];rfl)) ?_);refine Ah ED U (Ah Ev U (Bb Cc U ((by rw[Aj (H.ext.to h5' (by simp))];rfl)) ?_));refine C3 U U (AA U (.bool _) U (A2 U (AR 31 U ?_ ?_)))
    .intro h2;replace h2:=AM h2;refine Ah CL U (Bb DM U ((by rw[Aj (H.ext.to hb7 (by simp))];rfl)) ?_);refine Ah ED U (Ah CL U (Bb DM U ((by rw[Aj (H.ext.to h5' (by simp))];rfl)) ?_));refine Al qB (Aqq aE q.aE _ cE _ q.cE (BO rs (opn ds) r.cmp) r.es _ (RE.ext0 H.ext) U hel (RA1.E.ext0 H.ext) U he) U ?_;rintro v w ⟨rfl,hx37⟩;replace H:=H.call hx37;refine AA U (.bool _) U (A2 U (AR 39 U ?_ ?_))
     .intro h3;refine Ap U (Ah Ew U (Bb FS U ((by rw[Aj (H.ext.to h5' (by simp))];rfl)) ?_));refine Al qB (Aqr aI q.aI _ cI _ q.cI ((opn ds).map Du.id) r.ids _ (RI.ext0 H.ext) U hil (RA1.I.ext0 H.ext) U hi) U ?_;rintro v w ⟨rfl,hx43⟩;replace H:=H.call hx43;refine AA U (.bool _) U (Ai U (qA (A5 (AB (v:=(.bool _)) U U U ?_))));exact⟨qaa Value.bool (by unfold Pn;rw[<-hrs,hb,<-hrl];simp_all),hx0.trans H.ext⟩
     .intro h4;refine Ag U (Ag U (Ag U (Ag U (AJ U (.bool _) U (Ai U (qA (A5 (AB (v:=(.bool _)) U U U ?_))))))));exact⟨qaa Value.bool (by unfold Pn;rw[<-hrs,hb,<-hrl];simp_all),hx0.trans H.ext⟩
    .intro h5;replace h5:=AN h5;refine Ag U (Ag U (Ag U (Ag U (Ag U (Ag U (AJ U (.bool _) U (A2 U (Ag U (Ag U ?_)))))))));refine Ag U (Ag U (AJ U (.bool _) U (Ai U (qA (A5 (AB (v:=(.bool _)) U U U ?_))))));exact⟨qaa Value.bool (by unfold Pn;rw[<-hrs,hb,<-hrl];simp_all),hx0.trans H.ext⟩
   .intro h6;replace h6:=AN h6;refine Ag U (Ag U (Ag U (Ag U (Ag U (Ag U (AJ U (.bool _) U (A2 U (Ag U (Ag U ?_)))))))));refine Ag U (Ag U (Ag U (Ag U (AJ U (.bool _) U (A2 U (Ag U (Ag U (Ag U (Ag U ?_)))))))));refine AJ U (.bool _) U (Ai U (qA (A5 (AB (v:=(.bool _)) U U U ?_))));exact⟨qaa Value.bool (by unfold Pn;rw[<-hrs,hb,<-hrl];simp_all),hx0.trans H.ext⟩
theorem Ako{c4 c7 by' bd b n:Nat}{nx:Int}{o:Obj}{ds:List Du}{d:Du}{x:Int}{f f':Nat->Int}(w:World)(h4:w.heap[c4]?=some (Bl 68 [ptr bd]))(h7:w.heap[c7]?=some (Bl 31 [.slice (some ⟨by',0,none⟩) n n]))(hd:w.heap[bd]?=some (Bl 132 (DU b nx)))(H0:Ctx w [by',b] w [(by',Bl 2 (BZ f n)),(b,o)])(hM:Df .u64 (dm ds) o)(n4:c4∉[by',b])(n7:c7∉[by',b])(nd:bd∉[by',b])(hf:CQ ds d.id=some d)(hh:d.held=false)(hx:0<=x/\x<=d.am)(ham:XK ds)(hfr:0<=d.fr/\d.fr<n)(hto:0<=d.to/\d.to<n)(hfb:∀k,-1152921504606846976<=f k/\f k<=1152921504606846976)(hf':∀k,f' k=f k+(one (d.to.toNat=k) - one (d.fr.toNat=k))*x)(_:n<=1000000:=by omega):
  Ret prog 120 #[.int .u64 d.id,.int .i64 x,ptr c4,ptr c7] w fun v w'=>v=.int .i64 0/\∃o',Df .u64 (dm (Ib ds d.id x)) o'/\Ctx w [by',b] w' [(by',Bl 2 (BZ f' n)),(b,o')]:=by
 obtain⟨w0,rfl⟩:=qD w;have H:=H0;have hamd:=ham d (I9 hf).1;obtain⟨fn,hfn⟩:∃fn:Nat,d.fr=fn:=⟨d.fr.toNat,by omega⟩;obtain⟨tn,htn⟩:∃tn:Nat,d.to=tn:=⟨d.to.toNat,by omega⟩;obtain⟨f1,hf1⟩:=qD (upd f fn (f fn - x));have hof:f1 fn=f fn - x:=by rw[hf1,Dw]
 have hon:∀q,q≠fn->f1 q=f q:=fun q hq=>by rw[hf1,E6 hq]
 have hst:∀q,f' q=upd f1 tn (f1 tn+x) q:=fun q=>by
  rw[hf',hfn,htn,qbg,qbg]
  by_cases h1:q=tn
  .subst h1;rw[Dw,GF rfl]
   by_cases h2:fn=q
   .subst h2;rw[GF rfl,hof];omega
   .rw[Gd h2,hon q (Ne.symm h2)];omega
  .rw[E6 h1,Gd (Ne.symm h1)]
   by_cases h2:fn=q
   .subst h2;rw[GF rfl,hof];omega
   .rw[Gd h2,hon q (Ne.symm h2)];omega
 have hb1:=hfb fn;have hb2:=hfb tn
 have hot : -1157425104234217472<=f1 tn/\f1 tn<=1157425104234217472:=by
  by_cases h:tn=fn
  .rw[h,hof];omega
  .rw[hon tn h];omega
 have hbb:=H.ne at0 at1 (by decide);refine Au (fn:=f120) func120 U [.int .u64 d.id,.int .i64 x,.pointer (some ⟨c4,0,none⟩),.pointer (some ⟨c7,0,none⟩)] U ?_;refine Ae (Ad U (qA (Ae (Bb HO U ((H.old (Aj h4 _) n4)) ?_))));refine Af U (Al qB (Up _ (H.ext.to hd nd) (H.get at1) hM) U ?_);rintro v w ⟨rfl,hx12⟩;replace H:=H.call hx12;rw[show Nm ds d.id=d by unfold Nm;rw[hf];rfl];refine Cr U (AH U U (AH U U (Bc DX H ?_)));rintro b7 w - H;refine Bn BV U U U (by exact Dx _) H at0 U ?_;rintro w H;refine Ai U (qA (Ae (Bb BU U ((H.old (Aj h7 _) n7)) ?_)));refine Ah It U (AG Cc U H at0 U (Bp Bf BD U U ?_));refine TA fn _ U B4 U H at1 (by rw[hfn];simp) U ?_;refine Af U (Bo U U ?_);refine Bp Bf BD U U ?_
 refine Cl fn (fun q => .int .i64 (f1 q)) (.int _ _) BD U U U H at1 (by rw[hfn];simp) (by rw[hof]) (fun q _ hq=>by rw[hon q hq]) ?_;rintro w H;refine qA (Ae (Bb BU U ((H.old (Aj h7 _) n7)) ?_));refine Ah Iu U (AG Cc U H at0 U (Bp Bf BD U U ?_));refine TA tn _ U B4 U H at1 (by rw[htn];simp) U ?_;refine Af U (Az U U ?_);refine Bp Bf BD U U (Cl tn (fun q => .int .i64 (f' q)) (.int _ _) BD U U U H at1 (by rw[htn];simp) (by rw[hst,Dw]) (fun q _ hq=>by rw[hst,E6 hq]) ?_);rintro w H;refine qA (Ae (Bb HO U ((H.old (Aj h4 _) n4)) ?_));refine Af U (Af U ?_);obtain⟨hc0,hS⟩:=Abi (p:=(d,x)) ⟨hf,hh,hx.1,hx.2⟩;dsimp only at hc0 hS;have Hp:=H.perm (show List.Perm _ [_,_,_]from(List.Perm.swap _ _ _).trans ((List.Perm.swap _ _ _).cons _))
 refine Al qB (Akd (k:=d.id) (x:=x) _ (H.ext.to hd nd) (H.get at2) hM (by intro h;exact nd (by rw[h];simp)) ham) U ?_;rintro v w ⟨rfl,o',hM',H2⟩;rw[hc0];rw[hS]at hM';refine Ad U (qA (A5 (AB (v:=(.int _ _)) U U U ?_)));have HB:=Ctx.back (L1:=[_]) (L2:=[_,_]) (Hp.perm (List.Perm.swap _ _ _)) H2;exact⟨rfl,o',hM',(HB.perm (List.Perm.swap _ _ _)).left (L:=[_,_]) (L':=[_])⟩
end Go.Proofs.YtffclglpjlcojaaGreat
