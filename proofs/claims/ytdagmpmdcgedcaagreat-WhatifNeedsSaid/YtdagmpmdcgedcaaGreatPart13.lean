/- Part 13 of the proof. -/
import Derived.Test.YtdagmpmdcgedcaaGreatPart12
import Derived.Test.YtdagmpmdcgedcaaGreatRows
set_option maxRecDepth 20000
set_option maxHeartbeats 4000000
namespace Go.Proofs.YtdagmpmdcgedcaaGreat
open Go.GV Go.Proofs.Tryz
attribute [local irreducible] AN W Wq Wt
theorem Ra{P:Program}{ops rest:List Oper}{e:Env}{dst:Option Tmp}{ty:TypeId}{pos:String}{af:Array Edge}{g:Option (Nat × Bool)}{C:World->Prop}{K:Env->Prop}{t t2:TypeId}{x:Operand}{a:Option Addr}{el:TypeId}(hg:Bc ⟨dst,.binOp .eql t x (.const (.pointer none)) t2,ty,pos,af,g⟩ ops e=true)(hu:P.underlying t=some (.pointer el))(hx:ev e x=.pointer a)(h:Wq P ops C K rest (put e dst (.bool a.isNone))):Wq P ops C K (⟨dst,.binOp .eql t x (.const (.pointer none)) t2,ty,pos,af,g⟩::rest) e :=
 ED hg (fun w _=>by
  have hq:eqGuard .eql t x (.const (.pointer none)) (.pointer a) (.pointer none)=pure ():=rfl;have he:ev e (.const (.pointer none))=.pointer none:=rfl
  simp only[execOp,hx,he,hq,Sem.run_bind,Sem.run_pure,Result.andThen_ok,Vc hu]) h
theorem Wc{br n:Nat}{no k:Int}{arch:List Value}(w:World)(h0:w.heap[br]?=some (Bl 168 arch))(hn:arch[32]?=some (.int .u64 n))(hno:arch[33]?=some (.int .u64 no))(hb:0<=no/\no<=4611686018427387904)(hk0:0<=k/\k<=18446744073709551615)(hk:k<=no->(n:Int)<=no - k) :
  Ret prog 120 #[ptr br,.int .u64 k] w fun v w'=>v=.tuple #[.agg (rnd0).toArray,.bool false]/\Ext [] w w':=by
 obtain⟨w0,rfl,H⟩:=qE w;refine A2 (fn:=f120) func120 U [.pointer (some ⟨br,0,none⟩),.int .u64 k] U ?_;refine Ad (AX GA H ?_);rintro b4 w - H;refine Ai U (qA (Ap ?_))
 by_cases hkn:no<k
 .skip
  refine CN (fun x=>x=_) Bs U (BO U (Ra U NW U ?_));refine Co U (AY U (BO U (Bh U (A3 FV U (BF BL U (by rintro _ rfl;exact((by rw[An (H.drew.ext.to h0 (by simp))];exact hno))) ?_)))));refine K9 U U ?_;rw[qal hkn];refine D6 U (.bool _) U (Co U (A4 U (A4 U (A4 U (A4 U (A4 U (A4 U (A4 U (A4 U ?_)))))))));refine A4 U (A4 U (A4 U (Gb U (.bool _) U (BM ?_))));rintro _ rfl;replace H:=H.drew;refine D4 U (Ad (Bz [.int .u64 0,.int .i64 0,.bool false,.slice none 0 0,.int .i64 0,.slice none 0 0,.slice none 0 0,.slice none 0 0] Y5 GA ?_));refine Bi Dv U U U (by simp[AS]) H at0 U ?_;rintro w H;refine Ai U (qA (A6 (Al (Jd U U U Gm Dv H at0 U (show _=(.bool _)from rfl) ?_))));exact⟨rfl,H.ext⟩
 .skip
  refine CN (fun x=>x=_) Bs U (BO U (Ra U NW U ?_));refine Co U (AY U (BO U (Bh U (A3 FV U (BF BL U (by rintro _ rfl;exact((by rw[An (H.drew.ext.to h0 (by simp))];exact hno))) ?_)))));refine K9 U U ?_;rw[qay hkn];refine D6 U (.bool _) U (Co U (BO U (Bh U (A3 FV U (BF BL U (by rintro _ rfl;exact((by rw[An (H.drew.ext.to h0 (by simp))];exact hno))) ?_)))));refine AY U (SJ U U U ?_);refine BO U (Bh U (A3 JB U (BF BL U (by rintro _ rfl;exact((by rw[An (H.drew.ext.to h0 (by simp))];exact hn))) ?_)));refine Ali U U U ?_;rw[qal (show(n:Int)<=no - k from hk (by omega))];refine D6 U (.bool _) U (BM ?_);rintro _ rfl;replace H:=H.drew
  refine D4 U (Ad (Bz [.int .u64 0,.int .i64 0,.bool false,.slice none 0 0,.int .i64 0,.slice none 0 0,.slice none 0 0,.slice none 0 0] Y5 GA ?_));refine Bi Dv U U U (by simp[AS]) H at0 U ?_;rintro w H;refine Ai U (qA (A6 (Al (Jd U U U Gm Dv H at0 U (show _=(.bool _)from rfl) ?_))));exact⟨rfl,H.ext⟩
theorem TF{br n:Nat}{no k:Int}{arch:List Value}{r:Rnd}{q:RSl}(w:World)(h0:w.heap[br]?=some (Bl 168 arch))(_:arch.length=34)(hn:arch[32]?=some (.int .u64 n))(hno:arch[33]?=some (.int .u64 no))(hb:0<=no/\no<=4611686018427387904)(hk0:0<=k/\k<=18446744073709551615)(hk:k<=no/\no - k<n)(hc:∀j v,(BD r q)[j]?=some v->arch[(k % 4).toNat*8+j]?=some v)(RA:RAt w r q)(hr:RBnd r) :
  Ret prog 120 #[ptr br,.int .u64 k] w fun v w'=>Ext [] w w'/\∃q',v=.tuple #[.agg (BD r q').toArray,.bool true]/\RAt w' r q'/\ROff q' r (fun x=>x<w.heap.size):=by
 obtain⟨w0,rfl,H⟩:=qE w;have h3:0<=k % 4/\k % 4<4:=⟨qdb _ (by decide),qdc _ (by decide)⟩;refine A2 (fn:=f120) func120 U [.pointer (some ⟨br,0,none⟩),.int .u64 k] U ?_;refine Ad (AX GA H ?_);rintro b4 w - H;refine Ai U (qA (Ap (CN (fun x=>x=_) Bs U ?_)));refine BO U (Ra U NW U ?_);refine Co U (AY U (BO U (Bh U (A3 FV U (BF BL U (by rintro _ rfl;exact((by rw[An (H.drew.ext.to h0 (by simp))];exact hno))) ?_)))));refine K9 U U ?_;rw[qay (show ¬no<k by omega)];refine D6 U (.bool _) U (Co U (BO U (Bh U (A3 FV U (BF BL U (by rintro _ rfl;exact((by rw[An (H.drew.ext.to h0 (by simp))];exact hno))) ?_)))));refine AY U (SJ U U U ?_)
 refine BO U (Bh U (A3 JB U (BF BL U (by rintro _ rfl;exact((by rw[An (H.drew.ext.to h0 (by simp))];exact hn))) ?_)));refine Ali U U U ?_;rw[qay (show ¬(n:Int)<=no - k by omega)];refine D6 U (.bool _) U (BM ?_);rintro _ rfl;replace H:=H.drew;refine D5 U (Aq (Aa (Ad (A9 U (Ae U (WJ U U U ?_))))));refine AP U (Ah Qs U (Jb U Xc Dv U U ?_));refine Ca _ Gm Dv U U ((fun j v hv=>by rw[An (H.ext.to h0 (by simp)),show 0+0+(k % 4).toNat*8+j=(k % 4).toNat*8+j by omega];exact hc j v hv)) ?_;have hx3:=H.ext;have hl4:=Bf (H.get at0);refine Am qB (UF r q _ (RA.ext0 H.ext) hr) U ?_;rintro v w ⟨hx9,q',rfl,RA',hoff⟩;obtain⟨w9,rfl⟩:=qD w;have h4:=hx9.to (H.get at0) (by simp);have hb4:w0.heap.size<=b4:=(H.own _ (qaj ..)).elim (fun h=>by cases h) id;replace H:=Ctx.start1 h4
 refine Bi Dv U U U (by simp[AS]) H at0 U ?_;rintro w H;refine Ai U (qA (A6 (Jd U U U Gm Dv H at0 U (show _=(.bool _)from rfl) ?_)));have hs3:=hx3.size;refine⟨(hx3.trans hx9).then H.ext (fun x hx => .inr (by rw[qab.1 hx];exact hb4)),q',rfl,RA'.ext H.ext (hoff.mono fun x hx=>by rw[qab.1 hx];exact hl4),hoff.mono fun x hx=>qa3 hx hs3⟩
theorem Ahi{s:Ld}(h:s.Ok){r x:Rnd}(hx:x∈IR s.rn r):x=r\/(x∈s.rn/\s.no - 2<=x.no/\x.no<=s.no):=by
 obtain⟨i,hi⟩:=qbl.1 hx;unfold IR at hi;rw[qcb]at hi
 rcases qap (s.rn.length - 3+i) s.rn.length with h5|h5
 .rw[qb7 h5]at hi;have h1:=h.nos _ x hi;exact .inr ⟨qac hi,by omega,by omega⟩
 .rw[qc4 h5]at hi;left
  have h6:s.rn.length - 3+i - s.rn.length=0:=by
   have:=Cb hi;rw[qbx]at this;omega
  rw[h6]at hi;cases hi;rfl
theorem Zu(arch:List Value)(n:Nat)(r:Rnd)(q:RSl):(JR arch n r q).length=arch.length:=by
 unfold JR;rw[qb4,qb4,DY]
theorem Amk{arch:List Value}(h:arch.length=34)(n:Nat)(r:Rnd)(q:RSl):(JR arch n r q)[32]?=some (.int .u64 ((min (n+1) 4:Nat):Int)):=by
 unfold JR;rw[qbo (by decide),qc1 (by rw[DY];omega)]
theorem Aqs{arch:List Value}(h:arch.length=34)(n:Nat)(r:Rnd)(q:RSl):(JR arch n r q)[33]?=some (.int .u64 r.no):=by
 unfold JR;rw[qc1 (by rw[qb4,DY];omega)]
theorem Ahj{arch:List Value}(h:arch.length=34)(n:Nat){r:Rnd}{q:RSl}{j:Nat}{v:Value}(hj:(BD r q)[j]?=some v):(JR arch n r q)[(r.no % 4).toNat*8+j]?=some v:=by
 have hlt:j<8:=Cb hj;have h3:0<=r.no % 4/\r.no % 4<4:=⟨qdb _ (by decide),qdc _ (by decide)⟩;unfold JR;rw[qbo (by omega),qbo (by omega),Zs (by rw[h];show _+8<=34;omega) hlt];exact hj
theorem Zv{arch:List Value}(n:Nat){r x:Rnd}{q qx:RSl}{j:Nat}{v:Value}(hne:x.no % 4≠r.no % 4)(hj:(BD x qx)[j]?=some v)(hc:arch[(x.no % 4).toNat*8+j]?=some v):(JR arch n r q)[(x.no % 4).toNat*8+j]?=some v:=by
 have hlt:j<8:=Cb hj;have h3:0<=r.no % 4/\r.no % 4<4:=⟨qdb _ (by decide),qdc _ (by decide)⟩;have h4:0<=x.no % 4/\x.no % 4<4:=⟨qdb _ (by decide),qdc _ (by decide)⟩;unfold JR;rw[qbo (by omega),qbo (by omega)]
 rcases Int.lt_or_gt_of_ne hne with h|h
 .rw[UH (by omega)];exact hc
 .rw[UG (by show(r.no % 4).toNat*8+8<=_;omega)];exact hc
theorem PD{r:Rnd}(h:Oo r=true):RBnd r:=by
 unfold Oo at h;simp only[qae,qam]at h;obtain⟨hc,hi,-⟩:=h;obtain⟨h1,h2,-⟩:=GF.1 hc;obtain⟨g1,g2,g3,-⟩:=CB (Cw (ER h1).1).2.1;have g4:=(Cw (ER h1).1).1;have g5:=(Lo h2).1;exact⟨⟨by omega,by omega⟩,by omega,by omega,by omega,by omega⟩
theorem Abs{s:Ld}(h:s.Ok){k:Int}{r:Rnd}(hg:Po s k=some r):(k<=s.no/\s.no - k<s.rn.length)/\r∈s.rn/\r.no=k:=by
 unfold Po at hg
 by_cases h1:k<=s.no/\s.no - k<s.rn.length
 .rw[if_pos h1]at hg;have h2:=h.nos _ r hg;exact⟨h1,qac hg,by omega⟩
 .rw[if_neg h1]at hg;cases hg
theorem TG{s:Ld}(h:s.Ok){k:Int}(hg:Po s k=none)(hk:k<=s.no):(s.rn.length:Int)<=s.no - k:=by
 by_cases h1:s.no - k<s.rn.length
 .unfold Po at hg;rw[if_pos ⟨hk,h1⟩,List.getElem?_eq_none_iff]at hg;have:=h.kept;omega
 .omega
theorem Akt{m m':Lm}{s s':Ld}(h1:m'.bl=m.bl)(h2:m'.br=m.br)(h3:m'.ba=m.ba)(h4:m'.bd=m.bd)(h5:m'.b=m.b)(h6:m'.a=m.a):Di m' s'=Di m s:=by
 obtain⟨bl,ba,bd,br,b,a,c,full,o,arch⟩:=m;obtain⟨bl',ba',bd',br',b',a',c',full',o',arch'⟩:=m';dsimp only at h1 h2 h3 h4 h5 h6;subst h1 h2 h3 h4 h5 h6;show bl'::br'::ba'::bd'::b'::(ent a' 43 full').map (fun x=>x.1)=bl'::br'::ba'::bd'::b'::(ent a' 43 full).map (fun x=>x.1);rw[Zp (f:=full') (g:=full)]
theorem LdIn.rnd{w w1 w':World}{m:Lm}{s:Ld}{T:Nat->Prop}{S:List Nat}{r:Rnd}{q:RSl}{full':List Value}{o':Obj}(I:LdIn w m s T)(he:Ext S w w')(hs:∀x∈S,T x)(hok:(Fu s r).Ok)(O:OS m.a (Fs s.acs s.ds r).length m.c 2 full' ((Fs s.acs s.ds r).flatMap Dm))(M:Ds .u64 (dm (Ep s.acs s.ds r)) o')(RA:RAt w' { r with no:=s.no+1,day:=s.day } q)(hoff:ROff q { r with no:=s.no+1,day:=s.day } (fun x=>x<w1.heap.size))(hle:w.heap.size<=w1.heap.size) :
  LdIn w' ⟨m.bl,m.ba,m.bd,m.br,m.b,m.a,m.c,full',o',JR m.arch s.rn.length { r with no:=s.no+1,day:=s.day } q⟩ (Fu s r) (fun x=>T x\/x∈Di ⟨m.bl,m.ba,m.bd,m.br,m.b,m.a,m.c,full',o',JR m.arch s.rn.length { r with no:=s.no+1,day:=s.day } q⟩ (Fu s r)):=by
 have hid:∀x,T x\/x∈Di ⟨m.bl,m.ba,m.bd,m.br,m.b,m.a,m.c,full',o',JR m.arch s.rn.length { r with no:=s.no+1,day:=s.day } q⟩ (Fu s r)->T x:=fun x hx=>by
  exact hx.elim id fun h=>I.own x (Eq.mp (qaa (fun l=>x∈l) (Akt (m:=m) (s:=s) (m':=⟨m.bl,m.ba,m.bd,m.br,m.b,m.a,m.c,full',o',JR m.arch s.rn.length { r with no:=s.no+1,day:=s.day } q⟩) (s':=Fu s r) rfl rfl rfl rfl rfl rfl)) h)
 refine⟨O,M,hok,by rw[Zu];exact I.len,?_,Aqs I.len _ _ _,fun x hx=>?_,fun x hx => .inr hx,fun x hx=>qa3 (I.low x (hid x hx)) he.size⟩
 .rw[Amk I.len];show _=some (Value.int .u64 (((IR s.rn { r with no:=s.no+1,day:=s.day }).length:Nat):Int));rw[VT I.ok.kept.1]
 .rcases Ahi I.ok hx with rfl|⟨h1,h2,h3⟩
  .exact⟨q,fun j v h=>Ahj I.len _ h,RA,hoff.mono fun x hx=>qa3 (I.low x (hid x hx)) hle⟩
  .obtain⟨qx,g1,g2,g3⟩:=I.kept x h1;exact⟨qx,fun j v h=>Zv _ (by show x.no % 4≠(s.no+1) % 4;omega) h (g1 j v h),g2.ext he (g3.mono hs),g3.mono fun y hy=>hid y hy⟩
def Grows(T T':Nat->Prop)(w:World):Prop:=(∀x,T x->T' x)/\(∀x,T' x->T x\/w.heap.size<=x)
theorem Grows.refl(T:Nat->Prop)(w:World):Grows T T w:=⟨fun _ h=>h,fun _ h => .inl h⟩
theorem Grows.trans{T T' T'':Nat->Prop}{w w':World}(h:Grows T T' w)(k:Grows T' T'' w')(hs:w.heap.size<=w'.heap.size):Grows T T'' w :=
 ⟨fun x hx=>k.1 x (h.1 x hx),fun x hx=>(k.2 x hx).elim (fun h1=>h.2 x h1) fun h1 => .inr (qbe hs h1)⟩
theorem LdIn.grow{w w':World}{m:Lm}{s:Ld}{T T':Nat->Prop}{S:List Nat}(I:LdIn w m s T)(he:Ext S w w')(hs:∀x∈S,T x\/w.heap.size<=x)(g:Grows T T' w)(hl:∀x,T' x->x<w'.heap.size):LdIn w' m s T' where
 O:=I.O
 M:=I.M
 ok:=I.ok
 len:=I.len
 n:=I.n
 no:=I.no
 kept:=fun r h=>by
  obtain⟨q,h1,h2,h3⟩:=I.kept r h;have h4:=h3.or h2.lt;exact⟨q,h1,h2.ext he (h4.mono hs),h4.mono g.2⟩
 own:=fun x hx=>g.1 x (I.own x hx)
 low:=hl
def s00:Ld:=⟨0,[],[],1,[],0⟩
theorem Aqt:s00.Ok:=⟨by decide,by decide,fun d h=>(by cases h),by decide,by decide,fun i r h=>(by cases h),fun r h=>(by cases h)⟩
abbrev Pe:List Value:=rnd0++(rnd0++(rnd0++(rnd0++[.int .u64 0,.int .u64 0])))
theorem Ahk(w:World):Ret prog 46 #[] w fun v w'=>∃b,v=ptr b/\Ctx w [] w' [(b,Bl 162 [.slice none 0 0])]:=by
 obtain⟨w0,rfl,H⟩:=qE w;refine A2 (fn:=f46) func46 U [] U (Ad (BE U (qA (Ad (Bz [.slice none 0 0] Ad8 Aei ?_)))));refine Bu [.slice none 0 0] (.agg _) U U H ?_;rintro b2 w - H;refine BE U (qA (A6 (AD (v:=(.pointer _)) U U U ?_)));exact⟨b2,rfl,H⟩
theorem Ahl(w:World):Ret prog 48 #[] w fun v w'=>∃b,v=ptr b/\Ctx w [] w' [(b,Bl 168 Pe)]:=by
 obtain⟨w0,rfl,H⟩:=qE w;refine A2 (fn:=f48) func48 U [] U (Ad (BE U (qA (Ad (Bz Pe Aea Aek ?_)))));refine Bu Pe (.agg _) U U H ?_;rintro b2 w - H;refine BE U (qA (A6 (AD (v:=(.pointer _)) U U U ?_)));exact⟨b2,rfl,H⟩
theorem LU(w:World):Ret prog 16 #[] w fun v w'=>∃m,v=ptr m.bl/\Ctx w [] w' (LL m s00)/\LdIn w' m s00 (fun x=>x∈Di m s00):=by
 obtain⟨w0,rfl,H⟩:=qE w;refine A2 (fn:=f16) func16 U [] U (Ad (BE U (qA (Ad (Am qB (Ahk _) U ?_)))));rintro v w ⟨ba,rfl,H1⟩;replace H:Ctx w0 [] w [(ba,Bl 162 [.slice none 0 0])]:=H1;refine Am qB (Aj8 _) U ?_;rintro v w ⟨bd,b,o,rfl,hM,H1⟩;replace H:=Ctx.back (L1:=[]) (L2:=[_]) H H1;refine Am qB (Ahl _) U ?_;rintro v w ⟨br,rfl,H1⟩;replace H:=Ctx.back (L1:=[]) (L2:=[_,_,_]) H H1;refine Bz [ptr ba,ptr bd,ptr br,.int .i64 0] Ad7 Aeg (Bu [ptr ba,ptr bd,ptr br,.int .i64 0] (.agg _) U U H ?_);rintro bl w - H;refine BE U (qA (A6 (AD (v:=(.pointer _)) U U U ?_)));have H1:Ctx w0 [] w (LL ⟨bl,ba,bd,br,b,none,0,[],o,Pe⟩ s00):=H.perm (List.Perm.cons _ (List.Perm.cons _ (qde (l₁:=[_,_]) (l₂:=[_]))))
 refine⟨⟨bl,ba,bd,br,b,none,0,[],o,Pe⟩,rfl,H1,OS.nil,hM,Aqt,rfl,rfl,rfl,fun r h=>(by cases h),fun x h=>h,fun x h=>?_⟩;obtain⟨y,hy,rfl⟩:=qah.1 h;exact Bf (H1.blk y hy)
abbrev Wd(x:Rnd × RSl):List Value:=BD x.1 x.2
theorem We{α β:Type}(y:β):∀{xs:List α} {ys:List β} {x:α},xs[ys.length]?=some x->xs.zip (ys++[y])=xs.zip ys++[(x,y)]
 | [],_,_,h=>by cases h
 |a::xs,[],x,h=>by
  cases h;show(a,y)::xs.zip []=_;rw[List.zip_nil_right];rfl
 |a::xs,b::ys,x,h=>by
  show(a,b)::xs.zip (ys++[y])=(a,b)::(xs.zip ys++[(x,y)]);rw[We y (show xs[ys.length]?=some x from h)]
structure ARS where
 i:Nat
 a:Option Addr
 c:Nat
 full:List Value
 qs:List RSl
theorem Abt{br:Nat}{m:Lm}{s:Ld}{T:Nat->Prop}(w:World)(I:LdIn w m s T)(h0:w.heap[br]?=some (Bl 168 m.arch)) :
  Ret prog 52 #[ptr br] w fun v w'=>Ext [] w w'/\∃a c qs,v=.slice a s.rn.length c/\qs.length=s.rn.length/\Rd w' a 8 Wd (s.rn.zip qs)/\(s.rn≠[]->¬(adr a).block<w.heap.size)/\∀x∈s.rn.zip qs,RAt w' x.1 x.2/\ROff x.2 x.1 (fun y=>y<w.heap.size):=by
 obtain⟨w0,rfl,H⟩:=qE w;obtain⟨hk4,hkn,hkm⟩:=I.ok.kept;refine A2 (fn:=f52) func52 U [.pointer (some ⟨br,0,none⟩)] U ?_;refine Ad (Az U (qA (Ap (Ad (A9 U (C7 NW U ?_))))));refine qA (Av _ U ?_ ?_)
 .intro h1;cases h1
 .intro h1;refine Aq (Aa (Ap (Ad (A9 U (AP U (Ah JB U (Ba BL U ((by rw[An h0];exact I.n)) ?_)))))));refine Ae U (qA (Ax (Bn 68719475724 (α:=ARS) (fun t=>[(2,.slice t.a t.i t.c),(10,.int .u64 (t.i:Int))]) (fun t w'=>t.qs.length=t.i/\t.i<=s.rn.length/\OS t.a t.i t.c 8 t.full ((s.rn.zip t.qs).flatMap Wd)/\(∀x∈s.rn.zip t.qs,RAt w' x.1 x.2/\ROff x.2 x.1 (fun y=>y<w0.heap.size\/y∈(ent t.a 55 t.full).map (fun x:Nat × Obj=>x.1)))/\Ctx w0 [] w' (ent t.a 55 t.full)) (fun t=>s.rn.length - t.i) ⟨0,none,0,[],[]⟩ U ?_ ?_ ?_)))
  .exact⟨rfl,rfl,trivial⟩
  .refine⟨rfl,qaf _,?_,fun x hx=>?_,H⟩
   .rw[List.zip_nil_right];exact OS.nil
   .rw[List.zip_nil_right]at hx;cases hx
  .clear H;rintro⟨i,a,c,full,qs⟩ j w ⟨hqi,hi,O,K,HR⟩;dsimp only at hqi hi O K HR;dsimp only;obtain⟨w1,rfl,H⟩:=qE w;refine Ad (AZ U U (qA (Ap (Av _ U ?_ ?_))))
   .intro h2;replace h2:=AJ h2;obtain⟨r,hr⟩:=AB (l:=s.rn) (i:=i);obtain⟨q,hq1,hq2,-⟩:=I.kept r (qac hr);have hB:=PD (I.ok.may r (qac hr));have hrn:=I.ok.nos i r hr;have h01:=HR.ext.to h0 (by simp);have h3:0<=r.no % 4/\r.no % 4<4:=⟨qdb _ (by decide),qdc _ (by decide)⟩;rw[hrn]at hq1 h3;refine Aq (Aa (Ap (Ax (Ad (Ae U (Af U (qA ?_)))))))
    have hnbr:br∉(ent a 55 full).map (fun x:Nat × Obj=>x.1):=fun hm=>by
     obtain⟨z,hz,hzb⟩:=qah.1 hm;have h4:=Bf h0;have h5:=(HR.own z hz).elim (fun h=>by cases h) id;rw[hzb]at h5;omega
    refine ET [([0,1,2,3,4,5,6,7,8,9,10,11,12,13,14,15,16,17,18],19),([],20),([],21),([],22)] (fun z=>z.heap[br]?=some (Bl 168 m.arch)) [] Bs (H.drew.ext.to h01 (by simp)) (AO U U ?_);refine B4 U (BZ U (BZ U (Bp U (A1 FV U (B5 BL U (fun _ hx=>(by rw[An hx];exact I.no)) ?_)))));refine BZ U (Bp U (A1 JB U (B5 BL U (fun _ hx=>(by rw[An hx];exact I.n)) ?_)));refine ZI U U U (NK U U U ?_);refine Bg U (NK U U U ?_);refine All U U U (by omega) (by omega) (Bp U (A1 Qs U (Qd U Xc Dv U U ?_)));refine GX _ Gm Dv U U (fun _ hx=>(fun j v hv=>by rw[An hx,show 0+0+(((s.no - s.rn.length)+1+i) % 4).toNat*8+j=((s.no - s.rn.length+1+i) % 4).toNat*8+j by omega];exact hq1 j v hv)) ?_;refine Bb ?_;replace H:=H.drew;have hs1:=H.ext.size
    refine Am qB (UF r q _ (hq2.ext0 (HR.ext.trans H.ext)) hB) U ?_;rintro v w ⟨hx32,q',rfl,RA',hoff⟩;have E1:=H.ext.trans hx32;have HC:=HR.call E1;have h03:=HC.ext.to h0 (by simp);obtain⟨w3,rfl⟩:=qD w;clear H;have H:=Ctx.lend (L1:=ent a 55 full) HC.app_nil;refine Ab (BR (h03) (AO U U ?_));refine Bb (Cs _ (.agg _) KZ Dv GA U U U U H ?_);rintro b33 w - H;refine Ab (BR (H.ext.to h03 hnbr) (AO U U ?_));refine Bb (C3 (L:=[]) KZ KZ Dv by_55 GA U U U H O U (by simp[AS]) ?_);rintro a' c' full' w H O';refine Ab (BR (H.ext.to h03 hnbr) (AO U U ?_));refine Bb (Az U (Ab (BR (H.ext.to h03 hnbr) (BK (A7 (Aa (Ay (EE U U ?_))))))));refine Ae U (qA ?_);have hs3:=E1.size
    have hin:∀y∈(ent a' 55 full').map (fun x:Nat × Obj=>x.1),y∈(ent a 55 full).map (fun x:Nat × Obj=>x.1)\/w3.heap.size<=y:=fun y hy=>by
     obtain⟨z,hz,rfl⟩:=qah.1 hy;exact H.own z hz
    have hlt:∀y∈(ent a 55 full).map (fun x:Nat × Obj=>x.1),y<w1.heap.size:=fun y hy=>by
     obtain⟨z,hz,rfl⟩:=qah.1 hy;exact Bf (HR.blk z hz)
    have hz:=We q' (ys:=qs) (hqi ▸ hr);refine⟨⟨i+1,a',c',full',qs++[q']⟩,rfl,⟨rfl,rfl,trivial⟩,⟨by dsimp only;rw[qat,qbx,hqi],by dsimp only;omega,?_,fun x hx=>?_,(Ctx.back (L1:=ent a 55 full) (L2:=[]) HC.app_nil H).nil_app⟩,by dsimp only;omega⟩
    .dsimp only;rw[hz,qb1,qe8];exact O'
    .dsimp only at hx |-;rw[hz]at hx
     rcases qbg.1 hx with h|h
     .obtain⟨k1,k2⟩:=K x h;exact⟨(k1.ext0 E1).ext H.ext (k2.mono fun y hy => .inr hy),(k2.or k1.lt).mono fun y hy=>hy.elim (fun h => .inl (.inl h)) fun h=>(hin y h).elim (fun h => .inl (.inr h)) fun h => .inr (qbe hs3 h)⟩
     .rw[qab.1 h];exact⟨RA'.ext H.ext (hoff.mono fun y hy=>qa3 (hlt y hy) hs1),(hoff.or RA'.lt).mono fun y hy=>hy.elim (fun h => .inl (qa3 (qa3 h HR.size) hs1)) fun h=>(hin y h).elim (fun h => .inl (qa3 (hlt y h) hs1)) .inr⟩
   .intro h2;replace h2:=AK h2;obtain rfl:i=s.rn.length:=by omega
    refine Be (Aj (Aj (AH (Aa (Ad (Ao U (Az U (qA (A6 (AD (v:=(.slice _ _ _)) U U U ?_))))))))));have O2:OS a (s.rn.zip qs).length c 8 full ((s.rn.zip qs).flatMap Wd):=by rw[qcx,hqi,qd4];exact O
    refine⟨HR.ext,a,c,qs,rfl,hqi,OS.rd O (t:=55) (fun x hx=>HR.blk x hx) (fun _ _=>rfl) (by decide),fun hne=>?_,fun x hx=>⟨(K x hx).1,(K x hx).2.mono fun y hy => .inl hy⟩⟩;obtain⟨p,rfl⟩:=O.form (qbv.2 hne);exact Nat.not_lt.2 ((HR.own (p,Bl 55 full) (qab.2 U)).elim (fun h=>by cases h) id)
structure StZ where
 aA:Option Addr
 cA:Nat
 aD:Option Addr
 cD:Nat
 aR:Option Addr
 cR:Nat
 qs:List RSl
abbrev stC(s:Ld)(z:StZ):List Value:=[.int .i64 s.day,.slice z.aA s.acs.length z.cA,.slice z.aD s.ds.length z.cD,.int .u64 s.nx,.slice z.aR s.rn.length z.cR,.int .u64 s.no,.slice none 0 0]
structure StAt(w:World)(s:Ld)(z:StZ):Prop where
 A:Rd w z.aA 2 Dm s.acs
 D:Rd w z.aD 7 CM s.ds
 R:Rd w z.aR 8 Wd (s.rn.zip z.qs)
 n:z.qs.length=s.rn.length
 K:∀x∈s.rn.zip z.qs,RAt w x.1 x.2
structure StOff(s:Ld)(z:StZ)(S:Nat->Prop):Prop where
 A:s.acs≠[]->¬S (adr z.aA).block
 D:s.ds≠[]->¬S (adr z.aD).block
 R:s.rn≠[]->¬S (adr z.aR).block
 K:∀x∈s.rn.zip z.qs,ROff x.2 x.1 S
theorem Aqu{rn:List Rnd}{qs:List RSl}(h:rn.zip qs≠[]):rn≠[]:=fun h1=>h (by rw[h1];rfl)
theorem StOff.mono{s:Ld}{z:StZ}{S S':Nat->Prop}(h:StOff s z S)(hs:∀x,S' x->S x):StOff s z S':=⟨fun g k=>h.A g (hs _ k),fun g k=>h.D g (hs _ k),fun g k=>h.R g (hs _ k),fun x hx=>(h.K x hx).mono hs⟩
theorem StOff.or{s:Ld}{z:StZ}{S S':Nat->Prop}(h:StOff s z S)(k:StOff s z S'):StOff s z (fun x=>S x\/S' x):=⟨fun g x=>x.elim (h.A g) (k.A g),fun g x=>x.elim (h.D g) (k.D g),fun g x=>x.elim (h.R g) (k.R g),fun x hx=>(h.K x hx).or (k.K x hx)⟩
theorem StAt.ext{w w':World}{s:Ld}{z:StZ}{S:List Nat}(h:StAt w s z)(he:Ext S w w')(hn:StOff s z (·∈S)):StAt w' s z :=
 ⟨h.A.ext' he hn.A,h.D.ext' he hn.D,h.R.ext' he fun g=>hn.R (Aqu g),h.n,fun x hx=>(h.K x hx).ext he (hn.K x hx)⟩
theorem StAt.ext0{w w':World}{s:Ld}{z:StZ}(h:StAt w s z)(he:Ext [] w w'):StAt w' s z :=
 h.ext he ⟨fun _=>by simp,fun _=>by simp,fun _=>by simp,fun x _=>⟨fun _=>by simp,fun _=>by simp,fun _=>by simp,fun _=>by simp⟩⟩
theorem StAt.lt{w:World}{s:Ld}{z:StZ}(h:StAt w s z):StOff s z (fun x=>w.heap.size<=x) :=
 ⟨fun g=>qdr.2 (h.A.lt' (fun _ _=>rfl) (by decide) g),fun g=>qdr.2 (h.D.lt' (fun _ _=>rfl) (by decide) g),fun g=>qdr.2 (h.R.lt' (fun _ _=>rfl) (by decide) fun h1=>g (by
  have h2:=qaa List.length h1;rw[qcx,h.n,qd4]at h2
  exact List.length_eq_zero_iff.1 h2)),fun x hx=>(h.K x hx).lt⟩
theorem Ahm{bd b:Nat}{nx:Int}(w:World)(hd:w.heap[bd]?=some (Bl 165 (DU b nx))):Ret prog 51 #[ptr bd] w fun v w'=>v=.int .u64 nx/\Ext [] w w':=by
 obtain⟨w0,rfl,H⟩:=qE w;refine A2 (fn:=f51) func51 U [.pointer (some ⟨bd,0,none⟩)] U ?_;refine Ad (Af U (qA (Ap (Ad (A9 U (C7 Ju U ?_))))));refine qA (Av _ U ?_ ?_)
 .intro h1;cases h1
 .intro h1;refine Aq (Aa (Ad (A9 U (AP U (Ah Le U (Ba BL U ((by rw[An hd];rfl)) ?_))))));refine Af U (qA (A6 (AD (v:=(.int _ _)) U U U ?_)));exact⟨rfl,H.ext⟩
theorem Abu{m:Lm}{s:Ld}{T:Nat->Prop}{S:List Nat}{w0:World}(w:World)(I:LdIn w m s T)(H0:Ctx w0 S w (LL m s)) :
  Ret prog 17 #[ptr m.bl] w fun v w'=>Ext [] w w'/\∃z,v=.agg (stC s z).toArray/\StAt w' s z/\StOff s z (fun x=>x<w.heap.size):=by
 obtain⟨w1,rfl⟩:=qD w;have hbl:=H0.get at0;have hbr:=H0.get at1;have hba:=H0.get at2;have hbd:=H0.get at3;have hb:=H0.get at4;have RA0:Rd w1 m.a 2 Dm s.acs:=OS.rd (t:=43) I.O (fun y hy=>H0.blk y (qa0 [_,_,_,_,_] hy)) (fun _ _=>rfl) (by decide);have hn16:=(Cr.1 I.ok.ac).1;obtain⟨h64,-,h3d,-⟩:=D3 I.ok.du;have H:=Ctx.start w1 [];refine A2 (fn:=f17) func17 U [.pointer (some ⟨m.bl,0,none⟩)] U ?_;refine Ad (AX KC H ?_);rintro b2 w - H;refine qA (Ap (Ad (A9 U (C7 Y6 U ?_))));refine qA (Av _ U ?_ ?_)
 .intro h1;cases h1
 .intro h1;refine Aq (Aa (C1 [([0,1,2,3,4,5,6,7,9,10,11,12,14,15,16,17,19,20,21,22,24,25,26,27],8),([],13),([],18),([],23),([],28),([29],30)] (fun z=>Ext [] w1 z) [30] Bs (H.drew.ext) ?_));refine AO U U ?_;refine BZ U (Bp U (A1 Lc U (B5 Bm U (fun _ hx=>(by rw[An (hx.to hbl (by simp))];rfl)) ?_)));refine BZ U (Bp U (A1 Gn U (B5 Jf U (fun _ hx=>(by rw[An (hx.to hbl (by simp))];rfl)) ?_)));refine BZ U (Bp U (A1 F7 U (B5 Gk U (fun _ hx=>(by rw[An (hx.to hbl (by simp))];rfl)) ?_)));refine BZ U (Bp U (A1 F7 U (B5 Gk U (fun _ hx=>(by rw[An (hx.to hbl (by simp))];rfl)) ?_)));refine BZ U (Bp U (A1 JA U (B5 NP U (fun _ hx=>(by rw[An (hx.to hbl (by simp))];rfl)) ?_)));refine BZ U (Bp U (A1 JA U (B5 NP U (fun _ hx=>(by rw[An (hx.to hbl (by simp))];rfl)) ?_)));refine Bb ?_;replace H:=H.drew
  refine Am qB (QK m.a _ m.c s.acs _ (H.ext.to hba (by simp)) (RA0.ext0 H.ext) U) U ?_;rintro v w F;obtain⟨aA,cA,rfl,RA,hA,-,hxA⟩:=N4 F (fun _ _=>rfl);have hsA:=H.ext.size;have lbA:=Bf (H.get at0);replace H:=H.call hxA;refine Ab (BR (H.ext) (AO U U ?_));refine Bb (Am qB (Nl _ (H.ext.to hbd (by simp)) (H.ext.to hb (by simp)) I.M (Lv I.ok.du)) U ?_);rintro v w ⟨ds',hSd,F⟩;have hde:=Nr hSd (Kt h3d).2.1;rw[hde]at F;obtain⟨aD,cD,rfl,RD,hD,-,hxD⟩:=N4 F (fun _ _=>rfl);have hsD:=H.ext.size;have lbD:=Bf (H.get at0);replace H:=H.call hxD;replace RA:=RA.ext0 hxD;refine Ab (BR (H.ext) (AO U U ?_));refine Bb (Am qB (Ahm _ (H.ext.to hbd (by simp))) U ?_);rintro v w ⟨rfl,hxN⟩;replace H:=H.call hxN;replace RA:=RA.ext0 hxN;replace RD:=RD.ext0 hxN;refine Ab (BR (H.ext) (AO U U ?_));refine Bb ?_;have lsR:=H.ext.size;have lbR:=Bf (H.get at0)
  refine Am qB (Abt _ (I.grow H.ext (by simp) (Grows.refl _ _) fun x hx=>qa3 (I.low x hx) H.size) (H.ext.to hbr (by simp))) U ?_;rintro v w ⟨hxR,aR,cR,qs,rfl,hql,RR,hR,hK⟩;have hsR:=hxR.size;replace H:=H.call hxR;replace RA:=RA.ext0 hxR;replace RD:=RD.ext0 hxR;refine Ab (BR (H.ext) (AO U U ?_));refine Bb (Am qB (Ahh _ (H.ext.to hbr (by simp)) I.no) U ?_);rintro v w ⟨rfl,hxO⟩;have hKO:=fun x hx=>(hK x hx).1.ext0 hxO;replace RA:=RA.ext0 hxO;replace RD:=RD.ext0 hxO;replace RR:=RR.ext0 hxO;replace H:=H.call hxO;have H8:=H;obtain⟨w8,rfl⟩:=qD w;clear H;have H:=Ctx.start1 (H8.get at0);refine Ab (BR (H8.ext) (AO U U ?_));refine Qf (stC s ⟨aA,cA,aD,cD,aR,cR,qs⟩) U pl_32 KC ?_;refine Bb (Bi FC U U U (by exact(by simp[AS])) H at0 U ?_);rintro w H;refine Ab (BH U (BK (A6 (Kb U U U MX FC H at0 U ?_))))
  have Z8:StAt w8 s ⟨aA,cA,aD,cD,aR,cR,qs⟩:=⟨RA,RD,RR,hql,hKO⟩;have off:StOff s ⟨aA,cA,aD,cD,aR,cR,qs⟩ (fun x=>x<w1.heap.size\/x=b2):=⟨fun g k=>by have:=hA g;dsimp only at k;omega,fun g k=>by have:=hD g;dsimp only at k;omega,fun g k=>by have:=hR g;dsimp only at k;omega,fun x hx=>(hK x hx).2.mono fun y hy=>by omega⟩;have hbw:w1.heap.size<=b2:=(H8.own (b2,_) (qac at0)).elim (fun h=>by cases h) id;exact⟨H8.ext.then H.ext (fun x hx => .inr (by rw[qab.1 hx];exact hbw)),⟨aA,cA,aD,cD,aR,cR,qs⟩,rfl,Z8.ext H.ext (off.mono fun x hx => .inr (qab.1 hx)),off.mono fun x hx => .inl hx⟩
def Pp(acs:List Ac)(ds:List Du)(k i:Nat):Int:=(acs.getD k a00).ba+Ch ((ds.take i).map fun d=>plc k d*d.am)
theorem TH{acs:List Ac}{ds:List Du}{k i:Nat}{d:Du}(h:ds[i]?=some d):Pp acs ds k (i+1)=Pp acs ds k i - (if d.fr=(k:Int)then d.am else 0)+(if d.to=(k:Int)then d.am else 0):=by
 unfold Pp;rw[JM h,ES];have h1:Ch [plc k d*d.am]=plc k d*d.am:=by rw[BJ];show _+0=_;omega
 rw[h1];unfold plc
 by_cases g1:d.to=(k:Int)
 .rw[Fj g1,if_pos g1]
  by_cases g2:d.fr=(k:Int)
  .rw[Fj g2,if_pos g2];omega
  .rw[E4 g2,if_neg g2];omega
 .rw[E4 g1,if_neg g1]
  by_cases g2:d.fr=(k:Int)
  .rw[Fj g2,if_pos g2];omega
  .rw[E4 g2,if_neg g2];omega
theorem Wf{acs:List Ac}{ds:List Du}{k:Nat}(hb:0<=(acs.getD k a00).ba/\(acs.getD k a00).ba<=4503599627370496)(ham:∀d∈ds,0<=d.am/\d.am<=4503599627370496):∀i,i<=ds.length -> -(4503599627370496*((i:Int)+1))<=Pp acs ds k i/\Pp acs ds k i<=4503599627370496*((i:Int)+1)
 |0,_=>by
  have h:Pp acs ds k 0=(acs.getD k a00).ba+0:=rfl;rw[h];omega
 |i+1,h=>by
  have ih:=Wf hb ham i (by omega);obtain⟨d,hd⟩:=AB (l:=ds) (i:=i);have h1:=ham d (qac hd);rw[TH hd]
  split <;> split <;> omega
theorem Abv{m:Lm}{s:Ld}{T:Nat->Prop}{k:Ak}(hk:k.kd=13)(_:AkIn k)(w:World)(I:LdIn w m s T)(H0:Ctx w (Di m s) w (LL m s)) :
  Ret prog 65 #[ptr m.bl,.agg (Ci k).toArray] w (GS w m s T k):=by
 obtain⟨w0,rfl⟩:=qD w;obtain⟨bl,ba,bd,br,b,a,c,full,o,arch⟩:=m;obtain⟨S0,hS0⟩:=qD (Di ⟨bl,ba,bd,br,b,a,c,full,o,arch⟩ s);have H:Ctx w0 S0 w0 ((bl,Bl 106 [ptr ba,ptr bd,ptr br,.int .i64 s.day])::(br,Bl 168 arch)::(ba,Bl 162 [.slice a s.acs.length c])::(bd,Bl 165 (DU b s.nx))::(b,o)::ent a 43 full):=by rw[hS0];exact H0
 have hn16:=(Cr.1 I.ok.ac).1;have hbdb:bd≠b:=H.ne (i:=3) (j:=4) rfl rfl (by decide);have hR:Gg s k=if inA s.acs k.a=true then⟨0,[Lx s.acs s.ds k.a.toNat]⟩else⟨10,[]⟩:=by unfold Gg;(iterate 10 rw[if_neg (by omega)]);rw[if_pos hk]
 have hS:FI s k=s:=by unfold FI;iterate 9 rw[if_neg (by omega)]
 have hstep:∀p,Gg s k=p->CI s k s p:=fun p h2=>by
  unfold CI;rw[if_neg (by omega)];exact⟨hS.symm,h2.symm⟩
 refine A2 (fn:=f65) func65 U [.pointer (some ⟨bl,0,none⟩),.agg (Ci k).toArray] U ?_;refine Ad (Bu (Ci k) (.agg _) U U H ?_);rintro b3 w - H;refine Az U (Af U (qA (Eo 2095296 (α:=Nat) (fun z=>[(6,ptr z),(7,.bool (inA s.acs k.a))]) (fun z w'=>Ctx w0 S0 w' ((z,Bl 43 (Dm (DA s.acs k.a)))::(b3,Bl 40 (Ci k))::(bl,Bl 106 [ptr ba,ptr bd,ptr br,.int .i64 s.day])::(br,Bl 168 arch)::(ba,Bl 162 [.slice a s.acs.length c])::(bd,Bl 165 (DU b s.nx))::(b,o)::ent a 43 full)) U ?_ ?_)))
 .skip
  refine PS (.two [0,1,2,3,4,5] 6 (.one [7,8,9] 10 (.one [] 11 (.one [] 12 .stop))) 10 (.one [] 6 (.one [7,8,9] 11 (.one [] 12 .stop)))) (fun z=>z.heap[b3]?=some (Bl 40 (Ci k))/\z.heap[bl]?=some (Bl 106 [ptr ba,ptr bd,ptr br,.int .i64 s.day])) Bs (⟨H.drew.get at0,H.drew.get at1⟩) ?_;refine Jq U U U (BZ U (Bp U (A1 Gn U (B5 Jf U (fun _ hx=>(by rw[An hx.2];rfl)) ?_))));refine A1 GM U (B5 B6 U (fun _ hx=>(by rw[An hx.1];rfl)) ?_);refine Bb ?_;replace H:=H.drew;refine⟨?_,?_⟩
  .skip
   refine Am qB (PB a _ c s.acs k.a _ (H.get at3) (OS.rd (t:=43) I.O (fun y hy=>H.blk y (qa0 [_,_,_,_,_,_] hy)) (fun _ _=>rfl) (by decide)) U (by omega)) U ?_;rintro v w ⟨rfl,hx18⟩;replace H:=H.call hx18;refine Ab (Ck (by exact⟨H.get at0,H.get at1⟩) ?_);refine Cg U U (Ek U (B7 U U (B7 U U (Bb (AX JC H ?_)))));rintro b6 w - H;refine Ab (Ck (by exact⟨H.get at1,H.get at2⟩) ?_);refine Cg U U (Bb (Bi DP U U U (by exact IJ _) H at0 U ?_));rintro w H;refine Ab (Ck (by exact⟨H.get at1,H.get at2⟩) ?_);refine Cg U U (Bb (Ai U (Ab (Ck (by exact⟨H.get at1,H.get at2⟩) ?_))));refine EG (Aa ?_);exact⟨b6,rfl,⟨rfl,rfl,trivial⟩,H⟩
  .skip
   refine AX JC H ?_;rintro b6 w - H;refine Ab (Ck (by exact⟨H.get at1,H.get at2⟩) ?_);refine Cg U U (Bb (Am qB (PB a _ c s.acs k.a _ (H.get at4) (OS.rd (t:=43) I.O (fun y hy=>H.blk y (qa0 [_,_,_,_,_,_,_] hy)) (fun _ _=>rfl) (by decide)) U (by omega)) U ?_));rintro v w ⟨rfl,hx18⟩;replace H:=H.call hx18;refine Ab (Ck (by exact⟨H.get at1,H.get at2⟩) ?_);refine Cg U U (Ek U (B7 U U (B7 U U (Bb (Bi DP U U U (by exact IJ _) H at0 U ?_)))));rintro w H;refine Ab (Ck (by exact⟨H.get at1,H.get at2⟩) ?_);refine Cg U U (Bb (Ai U (Ab (Ck (by exact⟨H.get at1,H.get at2⟩) ?_))));refine EG (Aa ?_);exact⟨b6,rfl,⟨rfl,rfl,trivial⟩,H⟩
 .rintro b6 j7 w H;refine Ap (Ad (Au U (B1 U (qA (Av _ U ?_ ?_)))))
  .intro h1;replace h1:=Bv h1
   have hf:inA s.acs k.a=false:=by cases hh:inA s.acs k.a with|false=>rfl|true=>rw[hh]at h1;cases h1
   refine Ad (Az U (Af U (qA (A6 (Al (BG (v1:=(.slice _ _ _)) (v2:=(.int _ _)) U U U U ?_))))));subst hS0;exact Es (P:=[_,_]) (m':=⟨bl,ba,bd,br,b,a,c,full,o,arch⟩) (s':=s) (l:=[]) (code:=10) I H (IV _) (hstep _ (by rw[hR,if_neg (by rw[hf];decide)];rfl)) I.O I.M I.ok U U U U
  .intro h1;replace h1:=Bw h1
   have hf:inA s.acs k.a=true:=by cases hh:inA s.acs k.a with|true=>rfl|false=>rw[hh]at h1;cases h1
   have hki:=Fa.1 hf;have hka:((k.a.toNat:Nat):Int)=k.a:=by omega
   have hga:=JQ I.ok.ac hf;have hgd:s.acs.getD k.a.toNat a00=DA s.acs k.a:=Br (Gf hf)
   have h0:Pp s.acs s.ds k.a.toNat 0=(DA s.acs k.a).ba:=by
    have:Pp s.acs s.ds k.a.toNat 0=(s.acs.getD k.a.toNat a00).ba+0:=rfl;rw[this,hgd,qca]
   obtain⟨h64,-,-,-⟩:=D3 I.ok.du;have hmy:∀d∈s.ds,mayD d=true:=fun d hd=>((GQ I.ok.du).1 d hd).1;have ham:∀d∈s.ds,0<=d.am/\d.am<=4503599627370496:=fun d hd=>by have:=C4 (hmy d hd);omega
   refine Aq (Aa (Ad (Ah Ex U (AG Bm U H at0 U (Af U (qA (Ap (Ad (A9 U (AP U ?_))))))))));refine Ah F7 U (AG Gk U H at2 U (Am qB (JN I.ok.du _ ⟨b,s.nx,o,H.get at5,H.get at6,I.M⟩) U ?_));rintro v w ⟨hx29,a3,c3,rfl,R3⟩;replace H:=H.call hx29;refine AU BT U (Ae U (qA (Ax ?_)));have H8:=H;obtain⟨w1,rfl⟩:=qD w;have hb3:=H8.get at1;clear H;have H:=Ctx.start w1 [];refine Bn 18014396361999616 (α:=Nat) (fun i=>[(8,.int .i64 (Pp s.acs s.ds k.a.toNat i)),(31,.int .i64 (i:Int))]) (fun i w'=>i<=s.ds.length/\Ctx w1 [] w' []) (fun i=>s.ds.length - i) 0 U ?_ ?_ ?_
   .exact⟨by rw[h0];rfl,rfl,trivial⟩
   .exact⟨qaf _,H⟩
   .clear H;rintro i j w ⟨hi,H⟩;refine Ad (AZ U U (qA (Ap (Av _ U ?_ ?_))))
    .intro h2;replace h2:=AJ h2;obtain⟨d,hd⟩:=AB (l:=s.ds) (i:=i);have hbi:=Wf (acs:=s.acs) (ds:=s.ds) (k:=k.a.toNat) (by rw[hgd];exact hga.1) ham i hi;have hda:=ham d (qac hd);have hdn:=(C4 (hmy d (qac hd))).2.2.1;have hst:=TH (acs:=s.acs) (k:=k.a.toNat) hd;rw[hka]at hst;obtain⟨S,hS⟩:=qD (Pp s.acs s.ds k.a.toNat i);rw[<-hS]at hbi hst |-;refine Aq (Aa (Ap (Ax (Ad (AM (R3.ext0 H.ext) BT BC U U (by rfl) ?_)))));refine Ca _ EF BC U U (((R3.ext0 H.ext).row hd U)) (AX DR H ?_);rintro b10 w - H;refine Bi BC U U U (by exact Dt _) H at0 U ?_;rintro w H;refine qA ?_;replace H:Ctx w1 [] w [(b10,Bl 67 (CM d))]:=H;refine Ad (Ah GM U (Ba B6 U ((H.old (An hb3 _) (by simp))) ?_));refine qA (Ax (Ad (Ah Dk U (AG B6 U H at0 U (Cj U U (Ai U (qA (Av _ U ?_ ?_))))))))
     .intro h3;replace h3:=AJ h3;refine Ay (Ae U (Ah Dl U (AG Bm U H at0 U (B3 U U ?_))));refine Af U (Ab (A7 (A7 (Aa (Ay (Aw U U ?_))))));refine Ae U (qA ?_);exact⟨i+1,rfl,⟨qaa (Value.int .i64) (by rw[hst,if_pos h3.symm,if_neg (by omega)];omega),rfl,trivial⟩,⟨by omega,H.tail⟩,by omega⟩
     .intro h3;replace h3:=AK h3;refine Ad (Ah D7 U (AG B6 U H at0 U (Cj U U (Ai U (qA (Av _ U ?_ ?_))))))
      .intro h4;replace h4:=AJ h4;refine Ay (Ae U (Ah Dl U (AG Bm U H at0 U (Aw U U ?_))));refine Af U (Ab (A7 (A7 (Aa (Ay (Aw U U ?_))))));refine Ae U (qA ?_);exact⟨i+1,rfl,⟨qaa (Value.int .i64) (by rw[hst,if_neg (by omega),if_pos h4.symm];omega),rfl,trivial⟩,⟨by omega,H.tail⟩,by omega⟩
      .intro h4;replace h4:=AK h4;refine Aq (A7 (A7 (Aa (Ay (Aw U U ?_)))));refine Ae U (qA ?_);exact⟨i+1,rfl,⟨qaa (Value.int .i64) (by rw[hst,if_neg (by omega),if_neg (by omega)];omega),rfl,trivial⟩,⟨by omega,H.tail⟩,by omega⟩
    .intro h2;replace h2:=AK h2;obtain rfl:i=s.ds.length:=by omega
     have hfin:Pp s.acs s.ds k.a.toNat s.ds.length=Lx s.acs s.ds k.a.toNat:=by
      unfold Pp Lx;rw[qbf]
     rw[hfin];have H9:=H8.call H.ext;have H17:=Ctx.start w [];refine Be (Aj (Aj (AH (Aa (Ad (Ae U (Cs [.int .i64 (Lx s.acs s.ds k.a.toNat)] (.int .i64 (Lx s.acs s.ds k.a.toNat)) AR Bt Eh U U U U H17 ?_)))))));rintro b55 w2 - H17;refine Az U (Af U (qA (A6 (BG (v1:=(.slice _ _ _)) (v2:=(.int _ _)) U U U U ?_))));subst hS0;exact Es (P:=[_,_]) (m':=⟨bl,ba,bd,br,b,a,c,full,o,arch⟩) (s':=s) (l:=[Lx s.acs s.ds k.a.toNat]) (code:=0) I H9 (Hh (n:=1) (l:=[CQ (Lx s.acs s.ds k.a.toNat)]) H17 U) (hstep _ (by rw[hR,if_pos hf];rfl)) I.O I.M I.ok U U U U
theorem Abw{r:Rnd}(h:Oo r=true):(1<=r.N/\r.N<=40)/\r.es.length<=200/\r.fl.length=r.es.length/\(r.pot.length:Int)=r.N/\r.ids.length<=64:=by
 unfold Oo at h;simp only[qae,qam]at h;obtain⟨hc,hi,-⟩:=h;obtain⟨h1,h2,-⟩:=GF.1 hc;obtain⟨g1,g2,g3,-⟩:=CB (Cw (ER h1).1).2.1;exact⟨⟨g1,g2⟩,g3,(Cw (ER h1).1).1,(Lo h2).1,hi⟩
theorem XT{m:Lm}{s:Ld}{T:Nat->Prop}{k:Ak}(hk:k.kd=15)(hin:AkIn k)(hg:Po s k.id=none)(w:World)(I:LdIn w m s T)(H0:Ctx w (Di m s) w (LL m s)) :
  Ret prog 67 #[ptr m.bl,.agg (Ci k).toArray] w (GS w m s T k):=by
 obtain⟨w0,rfl⟩:=qD w;obtain⟨bl,ba,bd,br,b,a,c,full,o,arch⟩:=m;obtain⟨S0,hS0⟩:=qD (Di ⟨bl,ba,bd,br,b,a,c,full,o,arch⟩ s);have H:Ctx w0 S0 w0 ((bl,Bl 106 [ptr ba,ptr bd,ptr br,.int .i64 s.day])::(br,Bl 168 arch)::(ba,Bl 162 [.slice a s.acs.length c])::(bd,Bl 165 (DU b s.nx))::(b,o)::ent a 43 full):=by rw[hS0];exact H0
 have hn16:=(Cr.1 I.ok.ac).1;have hbdb:bd≠b:=H.ne (i:=3) (j:=4) rfl rfl (by decide);have hS:FI s k=s:=by unfold FI;iterate 9 rw[if_neg (by omega)]
 have hstep:∀p,Gg s k=p->CI s k s p:=fun p h2=>by
  unfold CI;rw[if_neg (by omega)];exact⟨hS.symm,h2.symm⟩
 have hno:0<=s.no/\s.no<=4611686018427387904:=by have:=I.ok.kept;omega
 have hR:Gg s k=⟨4,[]⟩:=by unfold Gg;(iterate 12 rw[if_neg (by omega)]);rw[if_pos hk,hg]
 refine A2 (fn:=f67) func67 U [.pointer (some ⟨bl,0,none⟩),.agg (Ci k).toArray] U ?_;refine Ad (Bu (Ci k) (.agg _) U U H ?_);rintro b3 w - H;refine Az U (Af U (qA (Eo 4190400 (α:=Nat) (fun z=>[(6,ptr z),(7,.bool false)]) (fun z w'=>Ctx w0 S0 w' ((z,Bl 55 rnd0)::(b3,Bl 40 (Ci k))::(bl,Bl 106 [ptr ba,ptr bd,ptr br,.int .i64 s.day])::(br,Bl 168 arch)::(ba,Bl 162 [.slice a s.acs.length c])::(bd,Bl 165 (DU b s.nx))::(b,o)::ent a 43 full)) U ?_ ?_)))
 .skip
  refine PS (.two [0,1,2,3,4,5] 6 (.one [7,8,9] 10 (.one [] 11 (.one [] 12 .stop))) 10 (.one [] 6 (.one [7,8,9] 11 (.one [] 12 .stop)))) (fun z=>z.heap[b3]?=some (Bl 40 (Ci k))/\z.heap[bl]?=some (Bl 106 [ptr ba,ptr bd,ptr br,.int .i64 s.day])) Bs (⟨H.drew.get at0,H.drew.get at1⟩) ?_;refine Jq U U U (BZ U (Bp U (A1 JA U (B5 NP U (fun _ hx=>(by rw[An hx.2];rfl)) ?_))));refine A1 LH U (B5 BL U (fun _ hx=>(by rw[An hx.1];rfl)) ?_);refine Bb ?_;replace H:=H.drew;refine⟨?_,?_⟩
  .skip
   refine Am qB (Wc (n:=s.rn.length) _ (H.get at2) I.n I.no hno hin.id (TG I.ok hg)) U ?_;rintro v w ⟨rfl,hx19⟩;replace H:=H.call hx19;refine Ab (Ck (by exact⟨H.get at0,H.get at1⟩) ?_);refine Cg U U (Ek U (B7 U U (B7 U U (Bb (AX GA H ?_)))));rintro b6 w - H;refine Ab (Ck (by exact⟨H.get at1,H.get at2⟩) ?_);refine Cg U U (Bb (Bi Dv U U U (by exact(by simp[rnd0,AS])) H at0 U ?_));rintro w H;refine Ab (Ck (by exact⟨H.get at1,H.get at2⟩) ?_);refine Cg U U (Bb (Ai U (Ab (Ck (by exact⟨H.get at1,H.get at2⟩) ?_))));refine EG (Aa ?_);exact⟨b6,rfl,⟨rfl,rfl,trivial⟩,H⟩
  .skip
   refine AX GA H ?_;rintro b6 w - H;refine Ab (Ck (by exact⟨H.get at1,H.get at2⟩) ?_);refine Cg U U (Bb (Am qB (Wc (n:=s.rn.length) _ (H.get at3) I.n I.no hno hin.id (TG I.ok hg)) U ?_));rintro v w ⟨rfl,hx19⟩;replace H:=H.call hx19;refine Ab (Ck (by exact⟨H.get at1,H.get at2⟩) ?_);refine Cg U U (Ek U (B7 U U (B7 U U (Bb (Bi Dv U U U (by exact(by simp[rnd0,AS])) H at0 U ?_)))));rintro w H;refine Ab (Ck (by exact⟨H.get at1,H.get at2⟩) ?_);refine Cg U U (Bb (Ai U (Ab (Ck (by exact⟨H.get at1,H.get at2⟩) ?_))));refine EG (Aa ?_);exact⟨b6,rfl,⟨rfl,rfl,trivial⟩,H⟩
 .rintro b6 j7 w H;refine Ap (Ad (Au U (B1 U (qA (Av _ U ?_ ?_)))))
  .intro h1;replace h1:=Bv h1;refine Ad (Az U (Af U (qA (A6 (Al (BG (v1:=(.slice _ _ _)) (v2:=(.int _ _)) U U U U ?_))))));subst hS0;exact Es (P:=[_,_]) (m':=⟨bl,ba,bd,br,b,a,c,full,o,arch⟩) (s':=s) (l:=[]) (code:=4) I H (IV _) (hstep _ (by rw[hR];rfl)) I.O I.M I.ok U U U U
  .intro h1;replace h1:=Bw h1;cases h1
theorem XU{m:Lm}{s:Ld}{T:Nat->Prop}{k:Ak}(hk:k.kd=15)(hin:AkIn k){r:Rnd}(hg:Po s k.id=some r)(w:World)(I:LdIn w m s T)(H0:Ctx w (Di m s) w (LL m s)) :
  Ret prog 67 #[ptr m.bl,.agg (Ci k).toArray] w (GS w m s T k):=by
 obtain⟨w0,rfl⟩:=qD w;obtain⟨bl,ba,bd,br,b,a,c,full,o,arch⟩:=m;obtain⟨S0,hS0⟩:=qD (Di ⟨bl,ba,bd,br,b,a,c,full,o,arch⟩ s);have H:Ctx w0 S0 w0 ((bl,Bl 106 [ptr ba,ptr bd,ptr br,.int .i64 s.day])::(br,Bl 168 arch)::(ba,Bl 162 [.slice a s.acs.length c])::(bd,Bl 165 (DU b s.nx))::(b,o)::ent a 43 full):=by rw[hS0];exact H0
 have hn16:=(Cr.1 I.ok.ac).1;have hbdb:bd≠b:=H.ne (i:=3) (j:=4) rfl rfl (by decide);have hS:FI s k=s:=by unfold FI;iterate 9 rw[if_neg (by omega)]
 have hstep:∀p,Gg s k=p->CI s k s p:=fun p h2=>by
  unfold CI;rw[if_neg (by omega)];exact⟨hS.symm,h2.symm⟩
 have hno:0<=s.no/\s.no<=4611686018427387904:=by have:=I.ok.kept;omega
 have hR:Gg s k=GR r k.b:=by unfold Gg;(iterate 12 rw[if_neg (by omega)]);rw[if_pos hk,hg]
 obtain⟨hg1,hgm,hgn⟩:=Abs I.ok hg;have hmay:=I.ok.may r hgm;have hB:=PD hmay;obtain⟨hm1,hm2,hm3,hm4,hm5⟩:=Abw hmay;obtain⟨q,hq1,hq2,hq3⟩:=I.kept r hgm;rw[hgn]at hq1;refine A2 (fn:=f67) func67 U [.pointer (some ⟨bl,0,none⟩),.agg (Ci k).toArray] U ?_;refine Ad (Bu (Ci k) (.agg _) U U H ?_);rintro b3 w - H;refine Az U (Af U (qA (Eo 4190400 (α:=Nat × RSl) (fun z=>[(6,ptr z.1),(7,.bool true)]) (fun z w'=>RAt w' r z.2/\Ctx w0 S0 w' ((z.1,Bl 55 (BD r z.2))::(b3,Bl 40 (Ci k))::(bl,Bl 106 [ptr ba,ptr bd,ptr br,.int .i64 s.day])::(br,Bl 168 arch)::(ba,Bl 162 [.slice a s.acs.length c])::(bd,Bl 165 (DU b s.nx))::(b,o)::ent a 43 full)) U ?_ ?_)))
 .skip
  refine PS (.two [0,1,2,3,4,5] 6 (.one [7,8,9] 10 (.one [] 11 (.one [] 12 .stop))) 10 (.one [] 6 (.one [7,8,9] 11 (.one [] 12 .stop)))) (fun z=>z.heap[b3]?=some (Bl 40 (Ci k))/\z.heap[bl]?=some (Bl 106 [ptr ba,ptr bd,ptr br,.int .i64 s.day])) Bs (⟨H.drew.get at0,H.drew.get at1⟩) ?_;refine Jq U U U (BZ U (Bp U (A1 JA U (B5 NP U (fun _ hx=>(by rw[An hx.2];rfl)) ?_))));refine A1 LH U (B5 BL U (fun _ hx=>(by rw[An hx.1];rfl)) ?_);refine Bb ?_;replace H:=H.drew;refine⟨?_,?_⟩
  .skip
   refine Am qB (TF (n:=s.rn.length) (r:=r) (q:=q) _ (H.get at2) I.len I.n I.no hno hin.id hg1 hq1 (hq2.ext H.ext (hq3.mono fun x hx=>I.own x (by rw[<-hS0];exact hx))) hB) U ?_;rintro v w ⟨hx19,q',rfl,RA,hoff⟩;have H9:=H.call hx19;clear H;obtain⟨w9,rfl,H⟩:=qE w;refine Ab (Ck (by exact⟨H.ext.to (H9.get at0) (by simp),H.ext.to (H9.get at1) (by simp)⟩) ?_);refine Cg U U (Ek U (B7 U U (B7 U U (Bb (AX GA H ?_)))));rintro b6 w - H;refine Ab (Ck (by exact⟨H.ext.to (H9.get at0) (by simp),H.ext.to (H9.get at1) (by simp)⟩) ?_);refine Cg U U (Bb (Bi Dv U U U (by simp[AS]) H at0 U ?_));rintro w H;refine Ab (Ck (by exact⟨H.ext.to (H9.get at0) (by simp),H.ext.to (H9.get at1) (by simp)⟩) ?_);refine Cg U U (Bb (Ai U (Ab (Ck (by exact⟨H.ext.to (H9.get at0) (by simp),H.ext.to (H9.get at1) (by simp)⟩) ?_))));refine EG ?_
   refine Aa ?_;exact⟨(b6,q'),rfl,⟨rfl,rfl,trivial⟩,RA.ext0 H.ext,Ctx.mid (B:=[]) (L:=[]) H9 H⟩
  .skip
   refine AX GA H ?_;rintro b6 w - H;refine Ab (Ck (by exact⟨H.get at1,H.get at2⟩) ?_);refine Cg U U (Bb (Am qB (TF (n:=s.rn.length) (r:=r) (q:=q) _ (H.get at3) I.len I.n I.no hno hin.id hg1 hq1 (hq2.ext H.ext (hq3.mono fun x hx=>I.own x (by rw[<-hS0];exact hx))) hB) U ?_));rintro v w ⟨hx19,q',rfl,RA,hoff⟩;have hlt:=Bf (H.get at0);have H9:=H.call hx19;clear H;obtain⟨w9,rfl⟩:=qD w;have H:=Ctx.start1 (H9.get at0);refine Ab (Ck (by exact⟨H.ext.to (H9.get at1) (by rw[qab];exact H9.ne (i:=1) (j:=0) rfl rfl (by decide)),H.ext.to (H9.get at2) (by rw[qab];exact H9.ne (i:=2) (j:=0) rfl rfl (by decide))⟩) ?_);refine Cg U U (Ek U (B7 U U (B7 U U (Bb (Bi Dv U U U (by simp[AS]) H at0 U ?_)))));rintro w H
   refine Ab (Ck (by exact⟨H.ext.to (H9.get at1) (by rw[qab];exact H9.ne (i:=1) (j:=0) rfl rfl (by decide)),H.ext.to (H9.get at2) (by rw[qab];exact H9.ne (i:=2) (j:=0) rfl rfl (by decide))⟩) ?_);refine Cg U U ?_;refine Bb (Ai U (Ab (Ck (by exact⟨H.ext.to (H9.get at1) (by rw[qab];exact H9.ne (i:=1) (j:=0) rfl rfl (by decide)),H.ext.to (H9.get at2) (by rw[qab];exact H9.ne (i:=2) (j:=0) rfl rfl (by decide))⟩) ?_)));refine EG (Aa ?_);exact⟨(b6,q'),rfl,⟨rfl,rfl,trivial⟩,RA.ext H.ext (hoff.mono fun x hx=>by rw[qab.1 hx];exact hlt),Ctx.mid (B:=[]) (L:=[_]) H9 H⟩
 .rintro⟨b6,q'⟩ j7 w ⟨RA,H⟩;dsimp only at RA H;have H8:=H;have hb6:=H8.get at0;have hb3:=H8.get at1;obtain⟨w1,rfl⟩:=qD w;clear H;have H:=Ctx.start w1 [];refine Ap (Ad (Au U (B1 U (qA (Av _ U ?_ ?_)))))
  .intro h1;replace h1:=Bv h1;cases h1
  .intro h1;replace h1:=Bw h1;refine Aq (Aa (CN (fun x=>x=_) Bs U ?_));refine A3 Um U (BF B6 U (by rintro _ rfl;exact((by rw[An (H.drew.ext.to hb3 (by simp))];rfl))) ?_);refine A3 Ey U (A3 C8 U (BF DO U (by rintro _ rfl;exact((by rw[An (H.drew.ext.to hb6 (by simp))];rfl))) ?_));refine Mf CU U (C6 U (C6 U (BM ?_)));rintro _ rfl;replace H:=H.drew;refine Ap (Ax (Ad (B9 (α:=Unit) 4396972769280 (fun _=>[(30,.bool ((decide (k.b < -1) || decide ((r.es.length:Int)+r.N<=k.b))))]) (fun _ w'=>Ctx w1 [] w' []) U ?_ ?_)))
   .refine Ae U (AZ U U (Au U (AE 33 U ?_ ?_)))
    .intro h1;replace h1:=AJ h1;refine Ag U (Ag U (Ag U (Ag U (Ag U (Ag U (Ag U (A8 U (.bool _) U (Ai U (Ab ?_)))))))));exact⟨rfl,(),rfl,⟨qaa Value.bool (by rw[qad];simp_all;try omega),trivial⟩,H⟩
    .intro h2;replace h2:=AK h2;refine Ae U (Ae U (Ah Ey U (Ah DW U (Ba B6 U ((H.old (An hb6 _) (by simp))) ?_))));refine Aw U U (Cq U U (AA U (.bool _) U (Ai U (Ab ?_))));exact⟨rfl,(),rfl,⟨qaa Value.bool (by rw[qad];simp_all;try omega),trivial⟩,H⟩
   rintro - j30 w H;refine Av _ U ?_ ?_
   .intro h2;have h2':k.b < -1\/(r.es.length:Int)+r.N<=k.b:=by simpa using h2
    refine Ad (Az U (Af U (qA (A6 (A5 (Al (BG (v1:=(.slice _ _ _)) (v2:=(.int _ _)) U U U U ?_)))))));have H9:=H8.call H.ext;subst hS0;exact Es (P:=[_,_]) (m':=⟨bl,ba,bd,br,b,a,c,full,o,arch⟩) (s':=s) (l:=[]) (code:=1) I H9 (IV _) (hstep _ (by rw[hR];unfold GR;rw[if_pos h2'];rfl)) I.O I.M I.ok U U U U
   .intro h2;have h2':¬(k.b < -1\/(r.es.length:Int)+r.N<=k.b):=by simpa using h2
    refine Ad (Ae U (Cj U U (Ai U (qA (Av _ U ?_ ?_)))))
    .intro h3;replace h3:=AJ h3;refine C1 [([0,1,2,3,5,6,7,8,9,10,11],4),([],12),([13],14)] (fun z=>Ext [] w1 z) [] Bs (H.drew.ext) (AO U U ?_);refine A1 Pz U (B5 Bm U (fun _ hx=>(by rw[An (hx.to hb6 (by simp))];rfl)) ?_);refine A1 Y4 U (B5 HI U (fun _ hx=>(by rw[An (hx.to hb6 (by simp))];rfl)) ?_);refine A1 Ey U (A1 DW U (B5 B6 U (fun _ hx=>(by rw[An (hx.to hb6 (by simp))];rfl)) ?_));refine Bg U (A1 GN U (B5 KA U (fun _ hx=>(by rw[An (hx.to hb6 (by simp))];rfl)) ?_));refine t_len U BA U (Bb ?_);replace H:=H.drew;refine Am qB (Zq r.cmp _) U ?_;rintro v w ⟨rfl,rfl⟩;refine Ab (BR (H.ext) (AO U U ?_));refine Bb (Dq ([r.day,Mp r.cmp,r.N,(r.es.length:Int),(r.ids.length:Int)].map CQ) AR Bt Eh (Ctx.start _ []) ?_);rintro b57 w2 - H17;refine Ab (BR (H.ext.trans H17.ext) (AO U U ?_))
     refine E7 U (Bb (Af U (Ab (BR (H.ext.trans H17.ext) (BK (A6 (A5 (Al (BG (v1:=(.slice _ _ _)) (v2:=(.int _ _)) U U U U ?_)))))))));have H9:=H8.call H.ext;subst hS0;exact Es (P:=[_,_]) (m':=⟨bl,ba,bd,br,b,a,c,full,o,arch⟩) (s':=s) (l:=[r.day,Mp r.cmp,r.N,(r.es.length:Int),(r.ids.length:Int)]) (code:=0) I H9 (Hh (n:=5) H17 U) (hstep _ (by rw[hR];unfold GR;rw[if_neg h2',if_pos h3];rfl)) I.O I.M I.ok U U U U
    .intro h3;replace h3:=AK h3;refine Ad (Ae U (Ae U (Cq U U (Ai U (qA (Av _ U ?_ ?_))))))
     .intro h4;replace h4:=AJ h4;obtain⟨y,hy⟩:=AB (l:=r.pot) (i:=(k.b - (r.es.length:Int)).toNat);refine Ad (Ah Gc U (Ah Kh U (Ba Cc U ((H.old (An hb6 _) (by simp))) ?_)));refine Ae U (Ae U (B3 U U ?_));refine AM (RA.P.ext0 H.ext) AR Bt U U (by rfl) (Ba Bm U (((RA.P.ext0 H.ext).one (f:=CQ) hy)) ?_);have H17:=Ctx.start w [];refine Cs [.int .i64 y] (.int .i64 y) AR Bt Eh U U U U H17 ?_;rintro b70 w2 - H17;refine Az U (Af U (qA (A6 (A5 (Al (BG (v1:=(.slice _ _ _)) (v2:=(.int _ _)) U U U U ?_))))));have H9:=H8.call H.ext;subst hS0;exact Es (P:=[_,_]) (m':=⟨bl,ba,bd,br,b,a,c,full,o,arch⟩) (s':=s) (l:=[y]) (code:=0) I H9 (Hh (n:=1) (l:=[CQ y]) H17 U) (hstep _ (by rw[hR];unfold GR;rw[if_neg h2',if_neg h3,if_pos h4,Br hy];rfl)) I.O I.M I.ok U U U U
     .intro h4;replace h4:=AK h4;obtain⟨x,hxe⟩:=AB (l:=r.es) (i:=k.b.toNat);obtain⟨f,hf⟩:=AB (l:=r.fl) (i:=k.b.toNat);refine Aq (A7 (Aa (Ad (Ah Ey U (Ah C8 U (Ba DO U ((H.old (An hb6 _) (by simp))) ?_))))));refine Ae U (AM (RA.E.ext0 H.ext) CU CW U U (by rfl) ?_);refine Ca _ Je CW U U (((RA.E.ext0 H.ext).row hxe U)) (AX GY H ?_);rintro b10 w - H;refine Bi CW U U U (by exact GO _) H at0 U ?_;rintro w H;refine Af U (qA (Ap ?_));replace H:Ctx w1 [] w [(b10,Bl 59 (CJ x))]:=H;refine Ad (Ae U (Ah GN U (Ba KA U ((H.old (An hb6 _) (by simp))) ?_)));refine AU BA U (AZ U U (qA (Av _ U ?_ ?_)))
      .intro h5;replace h5:=AJ h5;obtain⟨y,hy⟩:=AB (l:=r.ids) (i:=k.b.toNat);refine Ay (Ah GN U (Ba KA U ((H.old (An hb6 _) (by simp))) ?_));refine Ae U (AM (RA.I.ext0 H.ext) BA Bx U U (by rfl) ?_);refine Ba BL U (((RA.I.ext0 H.ext).one (f:=HY) hy)) (Aci U U FD Xs ?_);refine Af U (qA (C1 [([0,1,2,3,4,5,6,7,8,9,10,11,12,13,14],15),([16],17)] (fun z=>Ext [] w1 z/\z.heap[b10]?=some (Bl 59 (CJ x))) [] Bs (⟨H.drew.ext,H.drew.get at0⟩) ?_));refine AO U U (A1 EX U (B5 B6 U (fun _ hx=>(by rw[An hx.2];rfl)) ?_));refine A1 EY U (B5 B6 U (fun _ hx=>(by rw[An hx.2];rfl)) ?_);refine A1 DX U (B5 Bm U (fun _ hx=>(by rw[An hx.2];rfl)) ?_);refine A1 EZ U (B5 Bm U (fun _ hx=>(by rw[An hx.2];rfl)) ?_);refine A1 Gc U (A1 Ho U (B5 Cc U (fun _ hx=>(by rw[An (hx.1.to hb6 (by simp))];rfl)) ?_))
       refine Bg U (C5 (RA.F.ext0 H.ext) AR Bt U U (by rfl) ?_);refine B5 Bm U (fun _ hx=>((RA.F.ext0 hx.1).one (f:=CQ) hf)) (Bg U (Bb ?_));replace H:=H.drew;refine Dq ([x.f,x.t,x.cap,x.cost,f,IntKind.i64.wrap y].map CQ) AR Bt Eh (Ctx.start _ []) ?_;rintro b103 w2 - H17;refine Ab (BR (⟨H.ext.trans H17.ext,H17.ext.to (H.get at0) (by simp)⟩) ?_);refine AO U U (E7 U (Bb (Af U (Ab (BR (⟨H.ext.trans H17.ext,H17.ext.to (H.get at0) (by simp)⟩) ?_)))));refine BK (A6 (BG (v1:=(.slice _ _ _)) (v2:=(.int _ _)) U U U U ?_));have H9:=H8.call H.ext;subst hS0
       exact Es (P:=[_,_]) (m':=⟨bl,ba,bd,br,b,a,c,full,o,arch⟩) (s':=s) (l:=[x.f,x.t,x.cap,x.cost,f,IntKind.i64.wrap y]) (code:=0) I H9 (Hh (n:=6) H17 U) (hstep _ (by rw[hR];unfold GR;rw[if_neg h2',if_neg h3,if_neg h4,Br hxe,Br hf,if_pos h5,Br hy];rfl)) I.O I.M I.ok U U U U
      .intro h5;replace h5:=AK h5;refine Aq (Aa (C1 [([0,1,2,3,4,5,6,7,8,9,10,11,12,13,14],15),([16],17)] (fun z=>Ext [] w1 z/\z.heap[b10]?=some (Bl 59 (CJ x))) [] Bs (⟨H.drew.ext,H.drew.get at0⟩) ?_));refine AO U U (A1 EX U (B5 B6 U (fun _ hx=>(by rw[An hx.2];rfl)) ?_));refine A1 EY U (B5 B6 U (fun _ hx=>(by rw[An hx.2];rfl)) ?_);refine A1 DX U (B5 Bm U (fun _ hx=>(by rw[An hx.2];rfl)) ?_);refine A1 EZ U (B5 Bm U (fun _ hx=>(by rw[An hx.2];rfl)) ?_);refine A1 Gc U (A1 Ho U (B5 Cc U (fun _ hx=>(by rw[An (hx.1.to hb6 (by simp))];rfl)) ?_));refine Bg U (C5 (RA.F.ext0 H.ext) AR Bt U U (by rfl) ?_);refine B5 Bm U (fun _ hx=>((RA.F.ext0 hx.1).one (f:=CQ) hf)) (Bg U (Bb ?_));replace H:=H.drew
       refine Dq ([x.f,x.t,x.cap,x.cost,f,0].map CQ) AR Bt Eh (Ctx.start _ []) ?_;rintro b103 w2 - H17;refine Ab (BR (⟨H.ext.trans H17.ext,H17.ext.to (H.get at0) (by simp)⟩) ?_);refine AO U U (E7 U (Bb (Af U (Ab (BR (⟨H.ext.trans H17.ext,H17.ext.to (H.get at0) (by simp)⟩) ?_)))));refine BK (A6 (BG (v1:=(.slice _ _ _)) (v2:=(.int _ _)) U U U U ?_));have H9:=H8.call H.ext;subst hS0;exact Es (P:=[_,_]) (m':=⟨bl,ba,bd,br,b,a,c,full,o,arch⟩) (s':=s) (l:=[x.f,x.t,x.cap,x.cost,f,0]) (code:=0) I H9 (Hh (n:=6) H17 U) (hstep _ (by rw[hR];unfold GR;rw[if_neg h2',if_neg h3,if_neg h4,Br hxe,Br hf,if_neg h5];rfl)) I.O I.M I.ok U U U U
theorem Abx{m:Lm}{s:Ld}{T:Nat->Prop}{k:Ak}(hk:k.kd=15)(hin:AkIn k)(w:World)(I:LdIn w m s T)(H0:Ctx w (Di m s) w (LL m s)) :
  Ret prog 67 #[ptr m.bl,.agg (Ci k).toArray] w (GS w m s T k):=by
 cases hg:Po s k.id with
 |none=>exact XT hk hin hg w I H0
 |some r=>exact XU hk hin hg w I H0
theorem Ahn(b p:Option Addr)(m e u f:Nat)(ds:List Du)(xs:List Int)(w:World)(Rd':Rd w b 7 CM ds)(hm:ds.length=m)(Rp:Rd w p 1 I1 xs)(hu:xs.length=u)(hp:PayIn (opn ds) xs)(hmay:∀d∈opn ds,mayD d=true)(htot:Ch ((opn ds).map Du.am)<=4503599627370496)(hm2:m<=1000000:=by omega):
  Ret prog 116 #[.slice b m e,.slice p u f] w fun v w'=>v=.int .i64 (Er (opn ds) xs (opn ds).length)/\Ext [] w w':=by
 subst hm hu;obtain⟨w0,rfl,H⟩:=qE w;have hol:=Hv ds;refine A2 (fn:=f116) func116 U [.slice b ds.length e,.slice p xs.length f] U (Ad (Af U (qA (Ad (Ao U (Am qB (YX b ds.length e ds _ Rd' U hm2) U ?_))))));rintro v w F;obtain⟨ao,no,co,fo,rfl,OO,hbo⟩:=F.ex;replace H:=H.call F.ext;refine Az U (qA (Ap ?_));obtain rfl:no=(opn ds).length:=OO.numN (fun _ _=>rfl) (by decide);have RO0:Rd w ao 7 CM (opn ds):=OS.rd OO (fun y hy=>(hbo y hy).1) (fun _ _=>rfl) (by decide);have hE1:=H.ext;obtain⟨w1,rfl⟩:=qD w;clear H;have H:=Ctx.start w1 [];have hlen:=hp.1;have hRf:∀{w:World},Ext [] w1 w->Rd w ao 7 CM (opn ds):=fun h=>RO0.ext0 h;have hRp:∀{w:World},Ext [] w1 w->Rd w p 1 I1 xs:=fun h=>Rp.ext0 (hE1.trans h);refine Ad (Ao U (AU BT U (Ao U (AU AR U (C0 U U (qA (Av _ U ?_ ?_)))))))
 .intro h1;replace h1:=CC h1;omega
 .intro h1;replace h1:=CD h1;refine Aq (Aa (Ad (Af U (qA (Ap (Ad (Ao U (AU BT U (Ae U (qA ?_))))))))));refine Ax (Bn 4294836448 (α:=Nat) (fun i=>[(17,.int .i64 (i:Int)),(5,.int .i64 (Er (opn ds) xs i))]) (fun i w'=>i<=(opn ds).length/\Ctx w1 [] w' []) (fun i=>(opn ds).length - i) 0 U ?_ ?_ ?_)
  .exact⟨rfl,rfl,trivial⟩
  .exact⟨qaf _,H⟩
  .clear H;rintro i j w ⟨hi,H⟩;refine Ad (AZ U U (qA (Ap (Av _ U ?_ ?_))))
   .intro h3;replace h3:=AJ h3;obtain⟨d,hd⟩:=AB (l:=opn ds) (i:=i);obtain⟨x,hxv⟩:=AB (l:=xs) (i:=i);have hma:=C4 (hmay d (qac hd));have hxr:=hp.2 i d x hd hxv;have hwe:∀d∈opn ds,0<=d.we/\d.we<=1000:=fun d hd=>by have:=C4 (hmay d hd);omega
    have hps:∀k,Ch (((opn ds).map Du.am).take k)<=4503599627370496:=fun k=>qbj (Ol (fun y hy=>by obtain⟨d',hd',rfl⟩:=qah.1 hy;have:=C4 (hmay d' hd');omega) k) htot;have hw0:=IM hp hwe i hi;have hw1:=IM hp hwe (i+1) (by omega);have hp0:=hps i;have hp1:=hps (i+1);have hstep:=Jm hd hxv;have hm1:0<=d.we*x:=qc7 (by omega) hxr.1;have hm2:d.we*x<=4503599627370496000:=by omega
    refine Aq (Aa (Ap (Ax (Ad (Ae U (AM (hRf H.ext) BT BC U U (by rfl) ?_))))));refine Ca _ EF BC U U ((hRf H.ext).row hd U) (AX DR H ?_);rintro b7 w - H;refine Af U (Bi BC U U U (by exact Dt _) H at0 U ?_);rintro w H;refine qA ?_;replace H:Ctx w1 [] w [(b7,Bl 67 (CM d))]:=H;refine ET [([0,1,2,3,4,5,6,7,8],9)] (fun z=>Ext [] w1 z/\z.heap[b7]?=some (Bl 67 (CM d))) [] Bs (⟨H.drew.ext,H.drew.get at0⟩) ?_;refine AO U U (Bg U (A1 Hs U (B5 Bm U (fun _ hx=>(by rw[An hx.2];rfl)) ?_)));refine B4 U (Bg U (C5 (hRp H.ext) AR Bt U U (by rfl) ?_));refine B5 Bm U (fun _ hx=>((hRp hx.1).one (f:=CQ) hxv)) (ZG U U U ?_);refine E6 U U (Bb ?_);replace H:=H.drew
    refine Af U (Ab (BR (⟨H.ext,H.get at0⟩) (BK (A7 (Aa (Ay (Aw U U ?_)))))));refine Ae U (qA ?_);exact⟨i+1,rfl,⟨rfl,qaa (Value.int .i64) hstep.symm,trivial⟩,⟨by omega,H.tail⟩,by omega⟩
   .intro h3;replace h3:=AK h3;obtain rfl:i=(opn ds).length:=by omega
    refine Be (Aj (Aj (AH (Aa (Ad (Ae U (Af U (qA (A6 (AD (v:=(.int _ _)) U U U ?_))))))))));exact⟨rfl,hE1.trans H.ext⟩
theorem Aku{w w1 w':World}{m m':Lm}{s s':Ld}{T:Nat->Prop}{k:Ak}{P:List (Nat × Obj)}{a:Option Addr}{n c:Nat}{code:Int}{l:List Int}(H:Ctx w (Di m s) w1 (P++LL m' s'))(F:Fresh w1 w' 2 1 (.slice a n c) (l.map CQ))(hst:CI s k s' (rp l code))(hI:LdIn w' m' s' (fun x=>T x\/x∈Di m' s'))(hbl:m'.bl=m.bl):GS w m s T k (.tuple #[.slice a n c,.int .i64 code]) w':=by
 obtain⟨a',n',c',full,hv,OF,hb⟩:=F.ex;cases hv;have H1:Ctx w (Di m s) w1 (LL m' s'):=H.right;exact⟨a,n,c,full,code,l,s',m',rfl,OF,hst,H1.callEnt F.ext hb FM,fun x hx=>qbe H1.size (hb x hx).2,hI,hbl⟩
theorem Aby(xs:List Int){i:Nat}{x:Int}(h:xs[i]?=some x):Ij xs (i+1)=Ij xs i+(if 0<x then 1 else 0):=by
 show Ij xs i+one (0<xs.getD i 0)=_;rw[Br h]
 by_cases hx:0<x
 .rw[Fj hx,if_pos hx]
 .rw[E4 hx,if_neg hx]
theorem Wg(xs:List Int):∀i,0<=Ij xs i/\Ij xs i<=i
 |0=>⟨qav _,qav _⟩
 |i+1=>by
  have h:=Wg xs i;show 0<=Ij xs i+one (0<xs.getD i 0)/\Ij xs i+one (0<xs.getD i 0)<=((i+1:Nat):Int)
  by_cases hx:0<xs.getD i 0
  .rw[Fj hx];omega
  .rw[E4 hx];omega
theorem Aqv{m:Lm}{s:Ld}{x:Nat}(h:x∈(LX m.ba m.a s.acs.length m.c m.full m.bd m.b s.nx m.o).map (fun x:Nat × Obj=>x.1)):x∈Di m s:=qai _ (qai _ h)
theorem TI{m:Lm}{s:Ld}{T:Nat->Prop}{k:Ak}(hk:k.kd=10\/k.kd=11)(_:AkIn k)(w:World)(I:LdIn w m s T)(H0:Ctx w (Di m s) w (LL m s)) :
  Ret prog 63 #[ptr m.bl,.agg (Ci k).toArray] w (GS w m s T k):=by
 obtain⟨w0,rfl⟩:=qD w;obtain⟨bl,ba,bd,br,b,a,c,full,o,arch⟩:=m;obtain⟨S0,hS0⟩:=qD (Di ⟨bl,ba,bd,br,b,a,c,full,o,arch⟩ s);have H:Ctx w0 S0 w0 ((bl,Bl 106 [ptr ba,ptr bd,ptr br,.int .i64 s.day])::(br,Bl 168 arch)::(ba,Bl 162 [.slice a s.acs.length c])::(bd,Bl 165 (DU b s.nx))::(b,o)::ent a 43 full):=by rw[hS0];exact H0
 have hn16:=(Cr.1 I.ok.ac).1;have hbdb:bd≠b:=H.ne (i:=3) (j:=4) rfl rfl (by decide);have hno:0<=s.no/\s.no<=4611686018427387904:=by have:=I.ok.kept;omega
 have hstep:∀s' p,((4611686018427387904<=s.no/\s'=s/\p=⟨6,[]⟩) \/
  (s.no<4611686018427387904/\∃r,PlanR s.acs s.ds (decide (k.kd=11)) r/\s'=Fu s r /\
   p=⟨0,[IntKind.i64.wrap (s.no+1),Er (opn s.ds) r.fl (opn s.ds).length,Ij (r.fl.take (opn s.ds).length) (opn s.ds).length]⟩))->CI s k s' p:=fun s' p h=>by
  unfold CI;rw[if_pos hk];exact h
 obtain⟨h64,-,h3d,htot⟩:=D3 I.ok.du;have hBr:=MA I.ok.ac I.ok.du I.ok.bk;have hbr:DH (s.acs.map C9) s.ds=true:=(Hg).2 hBr;refine A2 (fn:=f63) func63 U [.pointer (some ⟨bl,0,none⟩),.agg (Ci k).toArray] U ?_;refine Ad (Bu (Ci k) (.agg _) U U H ?_);rintro b3 w - H;refine Az U (Af U (qA (Ap (Ad (A9 U (AP U (Ah JA U (AG NP U H at1 U (Am qB (Ahh _ (H.get at2) I.no) U ?_)))))))));rintro v w ⟨rfl,hx19⟩;replace H:=H.call hx19;refine Cq U U (qA (Av _ U ?_ ?_))
 .intro h1;replace h1:=AJ h1;refine Ad (Az U (Af U (qA (A6 (Al (BG (v1:=(.slice _ _ _)) (v2:=(.int _ _)) U U U U ?_))))));subst hS0;exact Es (P:=[_]) (m':=⟨bl,ba,bd,br,b,a,c,full,o,arch⟩) (s':=s) (l:=[]) (code:=6) I H (IV _) (hstep _ _ (.inl ⟨h1,rfl,rfl⟩)) I.O I.M I.ok U U U U
 .intro h1;replace h1:=AK h1;have hno1:s.no<4611686018427387904:=by omega
  refine Aq (Aa (Eo 68717379776 (α:=Nat × Rnd × RSl × Int) (fun z=>[(6,ptr z.1),(7,.int .i64 z.2.2.2)]) (fun z w'=>z.2.2.2=0/\PlanR s.acs s.ds (decide (k.kd=11)) z.2.1/\RAt w' z.2.1 z.2.2.1/\ROff z.2.2.1 z.2.1 (fun x=>x<w0.heap.size\/x=z.1)/\Ctx w0 S0 w' ((z.1,Bl 55 (BD z.2.1 z.2.2.1))::(b3,Bl 40 (Ci k))::(bl,Bl 106 [ptr ba,ptr bd,ptr br,.int .i64 s.day])::(br,Bl 168 arch)::(ba,Bl 162 [.slice a s.acs.length c])::(bd,Bl 165 (DU b s.nx))::(b,o)::ent a 43 full)) U ?_ ?_))
  .skip
   refine PS (.two [0,1,2,3,4,5,6,7,8,9,10] 11 (.one [12,13,14] 15 (.one [] 16 (.one [] 17 .stop))) 15 (.one [] 11 (.one [12,13,14] 16 (.one [] 17 .stop)))) (fun z=>z.heap[b3]?=some (Bl 40 (Ci k))/\z.heap[bl]?=some (Bl 106 [ptr ba,ptr bd,ptr br,.int .i64 s.day])) Bs (⟨H.drew.get at0,H.drew.get at1⟩) ?_;refine Jq U U U (BZ U (Bp U (A1 Gn U (B5 Jf U (fun _ hx=>(by rw[An hx.2];rfl)) ?_))));refine BZ U (Bp U (A1 F7 U (B5 Gk U (fun _ hx=>(by rw[An hx.2];rfl)) ?_)));refine A1 Ul U (B5 ag_5 U (fun _ hx=>(by rw[An hx.1];rfl)) ?_);refine t_eql U U U (Bb ?_);replace H:=H.drew;refine⟨?_,?_⟩
   .skip
    refine Am qB (Zg I.ok.ac I.ok.du (decide (k.kd=11)) _ ⟨a,c,H.get at3,OS.rd (t:=43) I.O (fun y hy=>H.blk y (qa0 [_,_,_,_,_,_] hy)) (fun _ _=>rfl) (by decide)⟩ ⟨b,s.nx,o,H.get at4,H.get at5,I.M⟩) U ?_;rintro v w ⟨hx33,⟨hb,-⟩|⟨-,r,q,rfl,P,RA,hoff⟩⟩
    (rw[hbr]at hb;cases hb)
    have hsz:=H.size;have H9:=H.call hx33;have hsz9:=hx33.size;clear H;obtain⟨w9,rfl,H⟩:=qE w;refine Ab (Ck (by exact⟨H.ext.to (H9.get at0) (by simp),H.ext.to (H9.get at1) (by simp)⟩) ?_);refine Cg U U (Ek U (B7 U U (B7 U U (Bb (AX GA H ?_)))));rintro b6 w - H;refine Ab (Ck (by exact⟨H.ext.to (H9.get at0) (by simp),H.ext.to (H9.get at1) (by simp)⟩) ?_);refine Cg U U (Bb (Bi Dv U U U (by exact(by simp[AS])) H at0 U ?_));rintro w H;refine Ab (Ck (by exact⟨H.ext.to (H9.get at0) (by simp),H.ext.to (H9.get at1) (by simp)⟩) ?_);refine Cg U U (Bb (Af U (Ab (Ck (by exact⟨H.ext.to (H9.get at0) (by simp),H.ext.to (H9.get at1) (by simp)⟩) ?_))));refine EG (Aa ?_);have hb6:w9.heap.size<=b6:=(H.own _ (qaj ..)).elim (fun h=>by cases h) id
    exact⟨(b6,r,q,0),rfl,⟨rfl,rfl,trivial⟩,rfl,P,RA.ext0 H.ext,(hoff.or RA.lt).mono fun x hx=>hx.elim (fun h => .inl (qa3 h hsz)) (fun h => .inr (h ▸ hb6)),Ctx.mid (B:=[]) (L:=[]) H9 H⟩
   .skip
    refine AX GA H ?_;rintro b6 w - H;refine Ab (Ck (by exact⟨H.get at1,H.get at2⟩) ?_);refine Cg U U (Bb (Am qB (Zg I.ok.ac I.ok.du (decide (k.kd=11)) _ ⟨a,c,H.get at4,OS.rd (t:=43) I.O (fun y hy=>H.blk y (qa0 [_,_,_,_,_,_,_] hy)) (fun _ _=>rfl) (by decide)⟩ ⟨b,s.nx,o,H.get at5,H.get at6,I.M⟩) U ?_));rintro v w ⟨hx33,⟨hb,-⟩|⟨-,r,q,rfl,P,RA,hoff⟩⟩
    (rw[hbr]at hb;cases hb)
    have hsz:=H.size;have hlt:=Bf (H.get at0);have H9:=H.call hx33;clear H;obtain⟨w9,rfl⟩:=qD w;have H:=Ctx.start1 (H9.get at0);refine Ab (Ck (by exact⟨H.ext.to (H9.get at1) (by rw[qab];exact H9.ne (i:=1) (j:=0) rfl rfl (by decide)),H.ext.to (H9.get at2) (by rw[qab];exact H9.ne (i:=2) (j:=0) rfl rfl (by decide))⟩) ?_);refine Cg U U (Ek U (B7 U U (B7 U U (Bb (Bi Dv U U U (by exact(by simp[AS])) H at0 U ?_)))));rintro w H;refine Ab (Ck (by exact⟨H.ext.to (H9.get at1) (by rw[qab];exact H9.ne (i:=1) (j:=0) rfl rfl (by decide)),H.ext.to (H9.get at2) (by rw[qab];exact H9.ne (i:=2) (j:=0) rfl rfl (by decide))⟩) ?_);refine Cg U U ?_
    refine Bb (Af U (Ab (Ck (by exact⟨H.ext.to (H9.get at1) (by rw[qab];exact H9.ne (i:=1) (j:=0) rfl rfl (by decide)),H.ext.to (H9.get at2) (by rw[qab];exact H9.ne (i:=2) (j:=0) rfl rfl (by decide))⟩) ?_)));refine EG (Aa ?_);exact⟨(b6,r,q,0),rfl,⟨rfl,rfl,trivial⟩,rfl,P,RA.ext H.ext (hoff.mono fun x hx=>by rw[qab.1 hx];exact hlt),hoff.mono fun x hx=>hx.elim (fun h=>qa3 h hsz) (fun h=>by rw[h];exact hlt),Ctx.mid (B:=[]) (L:=[_]) H9 H⟩
  .rintro⟨b6,r,q,e7⟩ j7 w ⟨he7,P,RA,hoff,H⟩;dsimp only at he7 P RA hoff H;obtain⟨hC,hokR⟩:=MC I.ok P hno1;have F0:=EV I.ok.ac I.ok.du hC;have hB:=Ag8 P;have hmy:∀d∈s.ds,mayD d=true:=fun d hd=>((GQ I.ok.du).1 d hd).1;have hids:r.ids.length=(opn s.ds).length:=by rw[P.ids,qak]
   have hol:=Hv s.ds;have hle:(opn s.ds).length<=r.fl.length:=by have:=F0.pay.1;rw[qbm]at this;omega
   have hlow:∀x∈Di ⟨bl,ba,bd,br,b,a,c,full,o,arch⟩ s,x<w0.heap.size:=fun x hx=>I.low x (I.own x hx);have hlx:∀x∈(LX ba a s.acs.length c full bd b s.nx o).map (fun x:Nat × Obj=>x.1),x<w0.heap.size:=fun x hx=>hlow x (Aqv (m:=⟨bl,ba,bd,br,b,a,c,full,o,arch⟩) hx);obtain⟨xs,hxs⟩:=qD (r.fl.take (opn s.ds).length);have hxl:xs.length=(opn s.ds).length:=by rw[hxs,qbm];omega
   have hmayR:Oo { r with day:=s.day }=true:=by
    unfold Oo;dsimp only;rw[P.chk,hids,qal (show(opn s.ds).length<=64 by omega),qal I.ok.day.1];rfl
   refine Ap (Ad (Ae U (C0 U U (qA (Av _ U ?_ ?_)))))
   .intro h2;replace h2:=CC h2;exact absurd he7 h2
   .intro h2;replace h2:=CD h2;refine Aq (Aa (Ad (A9 U (AP U (Ah F7 U (AG Gk U H at2 U (Am qB (Nl _ (H.get at5) (H.get at6) I.M (Lv I.ok.du)) U ?_)))))));rintro v w ⟨ds',hSd,Fd⟩;have hde:=Nr hSd (Kt h3d).2.1;rw[hde]at Fd;obtain⟨a3,c3,rfl,R3,hn3,-,hx43⟩:=N4 Fd (fun _ _=>rfl);have hl6:=Bf (H.get at0);have hlr:=Bf (H.get at3);have hs43:=H.size;replace RA:=RA.ext0 hx43;replace H:=H.call hx43;refine Az U (qA (Ap ?_));have hn3':s.ds≠[]->(adr a3).block∉(LX ba a s.acs.length c full bd b s.nx o).map (fun x:Nat × Obj=>x.1):=fun hne hm=>by have:=hn3 hne;have:=hlx _ hm;omega
    refine C1 [([0,1,2,3,4,5,6,7,8],9),([],10)] (fun z=>z.heap[b6]?=some (Bl 55 (BD r q))/\z.heap[bl]?=some (Bl 106 [ptr ba,ptr bd,ptr br,.int .i64 s.day])) [9,10] Bs (⟨H.drew.get at0,H.drew.get at2⟩) ?_;refine AO U U (BZ U (Bp U (A1 Gn U (B5 Jf U (fun _ hx=>(by rw[An hx.2];rfl)) ?_))));refine BZ U (Bp U (A1 F7 U (B5 Gk U (fun _ hx=>(by rw[An hx.2];rfl)) ?_)));refine GX _ Gm Dv U U (fun _ hx=>(CS (b:=b6) (t:=55) (l:=BD r q) hx.1 0 (BD r q) rfl)) (Bb ?_);replace H:=H.drew;replace RA:=RA.ext0 (Ext.drew [] _);replace R3:=R3.ext0 (Ext.drew [] _);replace H:Ctx w0 S0 _ ([(b6,Bl 55 (BD r q)),(b3,Bl 40 (Ci k)),(bl,Bl 106 [ptr ba,ptr bd,ptr br,.int .i64 s.day]),(br,Bl 168 arch)]++(LX ba a s.acs.length c full bd b s.nx o++[])):=(by rw[qa4];exact H)
    refine Am qB (Abn I.ok.ac I.ok.du H I.O I.M RA (hoff.mono fun x hx => .inl (hlx x hx)) hB) U ?_;rintro v w ⟨rfl,full',o',O',M',hxA,H7⟩;replace RA:=RA.ext hxA (hoff.mono fun x hx => .inl (hlx x hx));replace R3:=R3.ext' hxA hn3';rw[qa4]at H7;replace H:=H7;refine Ab (BH U (AO U U ?_));refine Bb (Af U (Ab (BH U (BK ?_))));obtain⟨hap1,-,hap3⟩:=JO (r:=r) I.ok.ac I.ok.du;rw[<-hap3]at O' H;refine Ad (Ae U (C0 U U (qA (Av _ U ?_ ?_))))
    .intro h4;replace h4:=CC h4;exact absurd hC h4
    .intro h4;replace h4:=CD h4;refine Aq (Aa (Ad (Ah Ey U (Ca _ CG C2 U U ((CS (b:=b6) (t:=55) (l:=BD r q) (H.get at0) 4 [.int .i64 r.N,.slice q.aE r.es.length q.cE] U)) ?_))));refine Ah Gc U (Ah Ho U (AG Cc U H at0 U (Ah GN U (AG KA U H at0 U (AU BA U (Am qB (YZ r.N q.aE q.aF _ _ _ _ _ r.fl _ RA.F U RA.fc hB.fl) U ?_))))));rintro v w Fp;rw[show U5 ((r.ids.length:Nat):Int) r.fl.length=(opn s.ds).length by unfold U5;omega,<-hxs,<-Yr]at Fp;obtain⟨a9,c9,rfl,Rp,hn9,-,hx65⟩:=N4 Fp (fun _ _=>rfl);have hp6:=Bf (H.get at0);have hpr:=Bf (H.get at3);replace RA:=RA.ext0 hx65;replace R3:=R3.ext0 hx65;replace H:=H.call hx65;refine Az U (qA (Ad (Af U (qA (Ap (Ad (Ao U (AU AR U (Ae U ?_)))))))));refine qA (Ax ?_);have H8:=H;obtain⟨w1,rfl⟩:=qD w;clear H;have H:=Ctx.start w1 []
     refine Bn 150820579546649294022656 (α:=Nat) (fun i=>[(11,.int .i64 (Ij xs i)),(68,.int .i64 (i:Int))]) (fun i w'=>i<=xs.length/\Ctx w1 [] w' []) (fun i=>xs.length - i) 0 U ?_ ?_ ?_
     .exact⟨rfl,rfl,trivial⟩
     .exact⟨qaf _,H⟩
     .clear H;rintro i j w ⟨hi,H⟩;refine Ad (AZ U U (qA (Ap (Av _ U ?_ ?_))))
      .intro h5;replace h5:=AJ h5;obtain⟨x,hx⟩:=AB (l:=xs) (i:=i);have hsb:=Wg xs i;have hst:=Aby xs hx;refine Aq (Aa (Ap (Ax (Ad (AM (Rp.ext0 H.ext) AR Bt U U (by rfl) ?_)))));refine Ba Bm U (((Rp.ext0 H.ext).one (f:=CQ) hx)) ?_;refine Af U (qA (Ad (Ae U (Cp U U (qA (Av _ U ?_ ?_))))))
       .intro h6;replace h6:=AJ h6;refine Ay (Ae U (Aw U U ?_));refine Af U (Ab (A7 (Aa (Ay (Aw U U ?_)))));refine Ae U (qA ?_);exact⟨i+1,rfl,⟨qaa (Value.int .i64) (by rw[hst,if_pos h6]),rfl,trivial⟩,⟨by omega,H⟩,by omega⟩
       .intro h6;replace h6:=AK h6;refine Aq (A7 (Aa (Ay (Aw U U ?_))));refine Ae U (qA ?_);exact⟨i+1,rfl,⟨qaa (Value.int .i64) (by rw[hst,if_neg h6,qca]),rfl,trivial⟩,⟨by omega,H⟩,by omega⟩
      .intro h5;replace h5:=AK h5;obtain rfl:i=xs.length:=by omega
       replace RA:=RA.ext0 H.ext;replace R3:=R3.ext0 H.ext;replace Rp:=Rp.ext0 H.ext;replace H8:=H8.call H.ext;clear H;obtain⟨w2,rfl⟩:=qD w;have H:=Ctx.start1 (H8.get at0);refine Be (Aj (Aj (AH (Aa (Ad (A9 U (AP U (Ah Lc U (Ba Bm U ((H.old (An (H8.get at2) _) (by rw[qab];exact H8.ne (i:=2) (j:=0) rfl rfl (by decide)))) ?_)))))))));refine Ah Pz U (Cz (.int _ _) Bt U U U H at0 (by(simp;done)) ?_);rintro w H;refine qA ?_;replace RA:=RA.ext H.ext (hoff.mono fun x hx=>by rw[qab.1 hx];exact .inr rfl);replace R3:=R3.ext' H.ext (fun hne hm=>by have:=hn3 hne;rw[qab.1 hm]at this;omega);replace Rp:=Rp.ext' H.ext (fun hne hm=>by have:=hn9 hne;rw[qab.1 hm]at this;omega);replace H:Ctx w2 [b6] w [(b6,Bl 55 (BD { r with day:=s.day } q))]:=H;replace H:=Ctx.mid (B:=[]) (L:=[_]) H8 H;clear H8
       refine C1 [([0,1,2,3,4],5),([6,7,8,9],10)] (fun z=>z.heap[b6]?=some (Bl 55 (BD { r with day:=s.day } q))/\z.heap[bl]?=some (Bl 106 [ptr ba,ptr bd,ptr br,.int .i64 s.day])) [5,10] Bs (⟨H.drew.get at0,H.drew.get at2⟩) ?_;refine AO U U (BZ U (Bp U (A1 JA U (B5 NP U (fun _ hx=>(by rw[An hx.2];rfl)) ?_))));refine GX _ Gm Dv U U (fun _ hx=>(CS (b:=b6) (t:=55) (l:=BD { r with day:=s.day } q) hx.1 0 (BD { r with day:=s.day } q) rfl)) (Bb ?_);replace H:=H.drew;replace RA:=RA.ext0 (Ext.drew [] _);replace R3:=R3.ext0 (Ext.drew [] _);replace Rp:=Rp.ext0 (Ext.drew [] _);have hsA:=H.size;refine Am qB (Aks (n:=s.rn.length) (no:=s.no) (arch:=arch) { r with day:=s.day } q _ (RA.no r.no s.day) (hB.no r.no s.day) (H.get at3) I.len I.n I.no I.ok.kept.1 ⟨hno.1,hno1⟩ hmayR) U ?_;rintro v w ⟨rfl,q2,H7,RA2,hoff2⟩
       replace R3:=R3.ext' H7.ext (fun hne hm=>by have:=hn3 hne;rw[qab.1 hm]at this;omega);replace Rp:=Rp.ext' H7.ext (fun hne hm=>by have:=hn9 hne;rw[qab.1 hm]at this;omega);replace H:=Ctx.mid (B:=[_,_,_]) (L:=[_]) H H7;refine Ab (BH U (AO U U ?_));refine Ek U (B7 U U (B7 U U (LD U U (Bb (Af U (Ab (BH U (BK ?_))))))));have H8:=H;obtain⟨wB,rfl⟩:=qD w;clear H;have H:=Ctx.start wB [];refine Ad (Ae U (H6 U U FD Xs ?_));refine Ao U (Ao U (Am qB (Ahn a3 a9 _ _ _ _ s.ds xs _ R3 U Rp U (hxs ▸ F0.pay) (fun d hd=>hmy d (qbc.1 hd).1) (qbj (Ze fun d hd=>by have:=C4 (hmy d hd);omega) htot)) U ?_));rintro v w ⟨rfl,hx95⟩;replace H:=H.call hx95
       refine Ae U (Dq ([s.no+1,Er (opn s.ds) xs (opn s.ds).length,Ij xs xs.length].map CQ) AR Bt Eh H ?_);rintro b97 w - H;refine Ae U (Az U (Af U (qA (A6 (BG (v1:=(.slice _ _ _)) (v2:=(.int _ _)) U U U U ?_)))));have H17:=H;have hw:IntKind.i64.wrap (s.no+1)=s.no+1:=Dj (show(-9223372036854775808:Int)<=s.no+1 by omega) (show s.no+1<=(9223372036854775807:Int)by omega);subst hS0;exact Aku (P:=[_,_]) (m':=⟨bl,ba,bd,br,b,a,c,full',o',JR arch s.rn.length { r with no:=s.no+1,day:=s.day } q2⟩) (s':=Fu s r) (l:=[s.no+1,Er (opn s.ds) xs (opn s.ds).length,Ij xs xs.length]) (code:=0) H8 (Hh (n:=3) H17 U) (hstep _ _ (.inr ⟨hno1,r,P,rfl,by rw[hw,hxl,hxs,XM _ (qan _)];rfl⟩)) (I.rnd (H8.ext.then H17.ext (by simp)) I.own hokR O' M' (RA2.ext0 H17.ext) hoff2 hsA) U
def Aho(w:World)(m:Lm)(s:Ld)(T:Nat->Prop)(k:Ak)(v:Value)(w':World):Prop :=
 ∃a n c full p s' m' T',v=.agg #[.int .i64 p.e,.slice a n c]/\OS a n c 1 full (p.n.map CQ)/\CI s k s' p/\Ctx w (Di m s) w' (LL m' s'++ent a 2 full)/\LdIn w' m' s' T'/\Grows T T' w/\m'.bl=m.bl
abbrev fnV(f:FuncId):Value := .func (.func f) #[] #[]
abbrev doT:List Value:=[.nilFunc,fnV 54,fnV 55,fnV 56,fnV 57,fnV 58,fnV 59,fnV 60,fnV 61,fnV 62,fnV 63,fnV 63,fnV 64,fnV 65,fnV 66,fnV 67]
def DoFn(k:Ak)(f:FuncId):Prop:=doT[k.kd.toNat]?=some (fnV f)/\A0 prog f=true/\∀{m:Lm} {s:Ld} {T:Nat->Prop} (w:World) (_:LdIn w m s T) (_:Ctx w (Di m s) w (LL m s)),Ret prog f #[ptr m.bl,.agg (Ci k).toArray] w (GS w m s T k)
theorem Aqw{k:Ak}(hin:AkIn k)(h0:k.kd≠0)(h16:k.kd<16):∃f,DoFn k f:=by
 have hkd:=hin.kd;have hc:k.kd=1\/k.kd=2\/k.kd=3\/k.kd=4\/k.kd=5\/k.kd=6\/k.kd=7\/k.kd=8\/k.kd=9\/k.kd=10\/k.kd=11\/k.kd=12\/k.kd=13\/k.kd=14\/k.kd=15:=by omega
 rcases hc with h|h|h|h|h|h|h|h|h|h|h|h|h|h|h
 .exact⟨_,by rw[h];rfl,qB,fun w I H=>Ahe h hin w I H⟩
 .exact⟨_,by rw[h];rfl,qB,fun w I H=>Ag9 h hin w I H⟩
 .exact⟨_,by rw[h];rfl,qB,fun w I H=>Aha h hin w I H⟩
 .exact⟨_,by rw[h];rfl,qB,fun w I H=>Ako h hin w I H⟩
 .exact⟨_,by rw[h];rfl,qB,fun w I H=>Akp h hin w I H⟩
 .exact⟨_,by rw[h];rfl,qB,fun w I H=>Ahb h hin w I H⟩
 .exact⟨_,by rw[h];rfl,qB,fun w I H=>Wb h hin w I H⟩
 .exact⟨_,by rw[h];rfl,qB,fun w I H=>XS h hin w I H⟩
 .exact⟨_,by rw[h];rfl,qB,fun w I H=>Ahf h hin w I H⟩
 .exact⟨_,by rw[h];rfl,qB,fun w I H=>TI (.inl h) hin w I H⟩
 .exact⟨_,by rw[h];rfl,qB,fun w I H=>TI (.inr h) hin w I H⟩
 .exact⟨_,by rw[h];rfl,qB,fun w I H=>Ahc h hin w I H⟩
 .exact⟨_,by rw[h];rfl,qB,fun w I H=>Abv h hin w I H⟩
 .exact⟨_,by rw[h];rfl,qB,fun w I H=>Akq h hin w I H⟩
 .exact⟨_,by rw[h];rfl,qB,fun w I H=>Abx h hin w I H⟩
theorem Ahp{s:Ld}{k:Ak}(h:k.kd=0\/16<=k.kd):CI s k s ⟨1,[]⟩:=by
 have h1:FI s k=s:=by
  unfold FI;iterate 9 rw[if_neg (by omega)]
 have h2:Gg s k=⟨1,[]⟩:=by
  unfold Gg;iterate 13 rw[if_neg (by omega)]
 unfold CI;rw[if_neg (by omega)];exact⟨h1.symm,h2.symm⟩
theorem XV{w w':World}{m m':Lm}{s s':Ld}{T T':Nat->Prop}{k:Ak}{P:List (Nat × Obj)}{a:Option Addr}{n c:Nat}{full:List Value}{p:Rp}(_:LdIn w m s T)(H:Ctx w (Di m s) w' (P++(LL m' s'++ent a 2 full)))(O:OS a n c 1 full (p.n.map CQ))(hst:CI s k s' p)(I7:LdIn w' m' s' T')(g:Grows T T' w)(hbl:m'.bl=m.bl) :
  Aho w m s T k (.agg #[.int .i64 p.e,.slice a n c]) w':=⟨a,n,c,full,p,s',m',T',rfl,O,hst,H.right,I7,g,hbl⟩
abbrev dL:List Nat:=[23,24,25,26,27,28,29,22,30,31,6]
theorem Aqx:∀i j,i<11->j<11->dL.getD i 0=dL.getD j 0->i=j:=fun i j hi hj h=>by
 have h1:∀a b:Fin 11,dL.getD a.val 0=dL.getD b.val 0->a=b:=by decide
 exact qaa Fin.val (h1 ⟨i,hi⟩ ⟨j,hj⟩ h)
abbrev dA:Nat->List Nat:=ancT 11 [[],[0],[0,1],[0,1,2],[],[],[0,1,2,3,4,5],[0,1,2,3,4,5,6],[0,1,2,3,4,5,6,7],[0,1,2,3,4,5,6,7],[0,1,2,3,4,5,6,7,8]]
def gD(b3 b5 bl:Nat)(k:Ak)(f:FuncId)(R:Value->Value->World->Prop):Nat->(Nat->Value)->World->Prop
 |0,V,_=>V 0=.pointer (some ⟨b3,0+0,none⟩)
 |1,V,_=>V 1=.int .u8 k.kd
 |2,V,_=>V 2=.pointer (some ⟨b5,0+k.kd.toNat*1,none⟩)
 |3,V,_=>V 3=fnV f
 |4,V,_=>V 4=.pointer (some ⟨bl,0,none⟩)
 |5,V,_=>V 5=.agg (Ci k).toArray
 |6,V,w=>∃x y,V 6=.tuple #[x,y]/\R x y w
 |7,V,_=>V 7=V 6
 |8,V,_=>∃x y,V 7=.tuple #[x,y]/\V 8=x
 |9,V,_=>∃x y,V 7=.tuple #[x,y]/\V 9=y
 |10,V,_=>V 10=V 8
 |_,_,_=>True
theorem Aqy{b3 b5 bl:Nat}{k:Ak}{f:FuncId}{R:Value->Value->World->Prop}:∀(i j:Nat) (v:Value) (V:Nat->Value) (w:World),i<11->j≠i->j∉dA i->gD b3 b5 bl k f R i V w->gD b3 b5 bl k f R i (MV V j v) w
 |0,j,v,V,w,_,h1,_,h=>(DV (Ne.symm h1)).trans h
 |1,j,v,V,w,_,h1,_,h=>(DV (Ne.symm h1)).trans h
 |2,j,v,V,w,_,h1,_,h=>(DV (Ne.symm h1)).trans h
 |3,j,v,V,w,_,h1,_,h=>(DV (Ne.symm h1)).trans h
 |4,j,v,V,w,_,h1,_,h=>(DV (Ne.symm h1)).trans h
 |5,j,v,V,w,_,h1,_,h=>(DV (Ne.symm h1)).trans h
 |6,j,v,V,w,_,h1,_,h=>by
  obtain⟨x,y,h3,h4⟩:=h;exact⟨x,y,(DV (Ne.symm h1)).trans h3,h4⟩
 |7,j,v,V,w,_,h1,h2,h=>by
  have h6:j≠6:=fun e=>h2 (by rw[e];decide);exact((DV (Ne.symm h1)).trans h).trans (DV (Ne.symm h6)).symm
 |8,j,v,V,w,_,h1,h2,h=>by
  have h7:j≠7:=fun e=>h2 (by rw[e];decide);obtain⟨x,y,h3,h4⟩:=h;exact⟨x,y,(DV (Ne.symm h7)).trans h3,(DV (Ne.symm h1)).trans h4⟩
 |9,j,v,V,w,_,h1,h2,h=>by
  have h7:j≠7:=fun e=>h2 (by rw[e];decide);obtain⟨x,y,h3,h4⟩:=h;exact⟨x,y,(DV (Ne.symm h7)).trans h3,(DV (Ne.symm h1)).trans h4⟩
 |10,j,v,V,w,_,h1,h2,h=>by
  have h8:j≠8:=fun e=>h2 (by rw[e];decide);exact((DV (Ne.symm h1)).trans h).trans (DV (Ne.symm h8)).symm
 |i+11,_,_,_,_,h,_,_,_=>by omega
theorem gD_w{b3 b5 bl:Nat}{k:Ak}{f:FuncId}{R:Value->Value->World->Prop}:∀(i:Nat) (V:Nat->Value) (w w':World),i<11->i≠6->6∉dA i->gD b3 b5 bl k f R i V w->gD b3 b5 bl k f R i V w'
 |0,_,_,_,_,_,_,h=>h
 |1,_,_,_,_,_,_,h=>h
 |2,_,_,_,_,_,_,h=>h
 |3,_,_,_,_,_,_,h=>h
 |4,_,_,_,_,_,_,h=>h
 |5,_,_,_,_,_,_,h=>h
 |6,_,_,_,_,h,_,_=>absurd rfl h
 |7,_,_,_,_,_,_,h=>h
 |8,_,_,_,_,_,_,h=>h
 |9,_,_,_,_,_,_,h=>h
 |10,_,_,_,_,_,_,h=>h
 |i+11,_,_,_,h,_,_,_=>by omega
structure DoZ where
 a:Option Addr
 n:Nat
 c:Nat
 full:List Value
 code:Int
 l:List Int
 s:Ld
 m:Lm
theorem Aqz{m:Lm}{s:Ld}{T:Nat->Prop}{k:Ak}(hin:AkIn k)(hdo:k.kd≠0->k.kd<16->∃f,DoFn k f)(w:World)(I:LdIn w m s T)(H0:Ctx w (Di m s) w (LL m s)) :
  Ret prog 18 #[ptr m.bl,.agg (Ci k).toArray] w (Aho w m s T k):=by
 obtain⟨w0,rfl⟩:=qD w;have hkd:=hin.kd;obtain⟨S0,hS0⟩:=qD (Di m s);have H:Ctx w0 S0 w0 (LL m s):=by rw[hS0];exact H0
 refine A2 (fn:=Tryz.f18) func18 U [.pointer (some ⟨m.bl,0,none⟩),.agg (Ci k).toArray] U ?_;refine Ad (Bu (Ci k) (.agg _) U U H ?_);rintro b3 w - H;refine AX Gq H ?_;rintro b4 w - H;refine qA (Ap (Ad (A9 U (C7 Y6 U ?_))));refine qA (Av _ U ?_ ?_)
 .intro h1;cases h1
 .intro h1;refine Aq (Aa (Ad (ZM doT U Ac2 Aee Aeh ?_)));refine AX Aeh H ?_;rintro b5 w - H;refine Bi Apt U U U (by exact(by simp[AS])) H at0 U ?_;rintro w H;refine qA (Ap (Ad (B9 (α:=Unit) 2093056 (fun _=>[(20,.bool ((decide (k.kd=0) || decide (16<=k.kd))))]) (fun _ w'=>Ctx w0 S0 w' ((b5,Bl 113 doT)::(b4,Bl 37 [.int .i64 0,.slice none 0 0])::(b3,Bl 40 (Ci k))::LL m s)) U ?_ ?_)))
  .refine Ah Ul U (AG ag_5 U H at2 U (Cj U U (Au U (AE 15 U ?_ ?_))))
   .intro h1;replace h1:=AJ h1;refine Ag U (Ag U (Ag U (Ag U (A8 U (.bool _) U (Ab ?_)))));exact⟨rfl,(),rfl,⟨qaa Value.bool (by rw[qad];simp_all;try omega),trivial⟩,H⟩
   .intro h2;replace h2:=AK h2;refine Ah Ul U (AG ag_5 U H at2 U (H6 U U un_5 NY ?_));refine Cq U U (AA U (.bool _) U (Ab ?_));exact⟨rfl,(),rfl,⟨qaa Value.bool (by rw[qad];simp_all;try omega),trivial⟩,H⟩
  rintro - j20 w H;refine Av _ U ?_ ?_
  .intro h2;have h2':k.kd=0\/16<=k.kd:=by simpa using h2
   refine Ad (Bz [.int .i64 1,.slice none 0 0] Aec Gq ?_);refine Bi Eu U U U (by exact(by simp[AS])) H at1 U ?_;rintro w H;refine qA (A6 (Al (Kb U U U Mj Eu H at1 U ?_)));have H17:=H;subst hS0;exact XV (P:=[_,_,_]) (m':=m) (s':=s) (T':=T) (p:=⟨1,[]⟩) (full:=[]) I (H17.app_nil) OS.nil (Ahp h2') (I.grow H17.ext (fun x hx => .inl (I.own x hx)) (Grows.refl _ _) fun x hx=>qa3 (I.low x hx) H17.size) (Grows.refl _ _) U
  .intro h2;have h2':¬(k.kd=0\/16<=k.kd):=by simpa using h2
   obtain⟨f,hf1,hf2,hf3⟩:=hdo (fun h=>h2' (.inl h)) (by omega)
   have hown:∀x,x∈[b5,b4,b3]->T x\/w0.heap.size<=x:=fun x hx=>by
    simp only[qag,qar,or_false]at hx
    rcases hx with rfl|rfl|rfl
    .exact(H.own (_,_) (qac at0)).imp_left fun h=>I.own _ (hS0 ▸ h)
    .exact(H.own (_,_) (qac at1)).imp_left fun h=>I.own _ (hS0 ▸ h)
    .exact(H.own (_,_) (qac at2)).imp_left fun h=>I.own _ (hS0 ▸ h)
   have hlt:∀x,x∈[b5,b4,b3]->x<w.heap.size:=fun x hx=>by
    simp only[qag,qar,or_false]at hx
    rcases hx with rfl|rfl|rfl
    .exact Bf (H.get at0)
    .exact Bf (H.get at1)
    .exact Bf (H.get at2)
   have g1:Grows T (fun x=>T x\/x∈[b5,b4,b3]) w0:=⟨fun x hx => .inl hx,fun x hx=>hx.elim .inl (hown x)⟩;have I1:LdIn w m s (fun x=>T x\/x∈[b5,b4,b3]):=I.grow H.ext (fun x hx => .inl (I.own x (hS0 ▸ hx))) g1 fun x hx=>hx.elim (fun h=>qa3 (I.low x h) H.size) (hlt x);refine Aq (Aa (Eo 4290773184 (α:=DoZ) (fun z=>[(6,.slice z.a z.n z.c),(7,.int .i64 z.code)]) (fun z w'=>OS z.a z.n z.c 1 z.full (z.l.map CQ)/\CI s k z.s (rp z.l z.code)/\Ctx w0 S0 w' ((b5,Bl 113 doT)::(b4,Bl 37 [.int .i64 0,.slice none 0 0])::(b3,Bl 40 (Ci k))::(LL z.m z.s++ent z.a 2 z.full))/\LdIn w' z.m z.s (fun x=>(T x\/x∈[b5,b4,b3])\/x∈Di z.m z.s)/\z.m.bl=m.bl) U ?_ ?_))
   .skip
    have H9:=H.drew;have I2:=I1.grow (Ext.drew [] _) (fun x hx=>by cases hx) (Grows.refl _ _) I1.low;refine Aix (n:=11) (N:=12) (anc:=dA) 6 (fun i=>dL.getD i 0) (gD b3 b5 m.bl k f (fun x y w'=>∃z:DoZ,x=.slice z.a z.n z.c/\y=.int .i64 z.code/\OS z.a z.n z.c 1 z.full (z.l.map CQ)/\CI s k z.s (rp z.l z.code)/\Ctx w0 S0 w' ((b5,Bl 113 doT)::(b4,Bl 37 [.int .i64 0,.slice none 0 0])::(b3,Bl 40 (Ci k))::(LL z.m z.s++ent z.a 2 z.full))/\LdIn w' z.m z.s (fun x=>(T x\/x∈[b5,b4,b3])\/x∈Di z.m z.s)/\z.m.bl=m.bl)) (show Tryz.prog.follows .mixedOrders=true by kernel_rfl) U (ZT _) Aqx Aqy gD_w ?_ ?_ ?_
    .intro i o e' w' V hi hic ho hold hg hG hw;have h3:e'.g 3=.pointer (some ⟨b3,0,none⟩):=(hold 3 ((by decide:∀j,j<11->3≠dL.getD j 0))).trans rfl;have h5:e'.g 5=.pointer (some ⟨b5,0,none⟩):=(hold 5 ((by decide:∀j,j<11->5≠dL.getD j 0))).trans rfl;have h0:e'.g 0=.pointer (some ⟨m.bl,0,none⟩):=(hold 0 ((by decide:∀j,j<11->0≠dL.getD j 0))).trans rfl;have hcs:i=0\/i=1\/i=2\/i=3\/i=4\/i=5\/i=7\/i=8\/i=9\/i=10:=by omega
     rcases hcs with rfl|rfl|rfl|rfl|rfl|rfl|rfl|rfl|rfl|rfl
     .cases qaq ho;exact Ah (off:=0) (by kernel_rfl) h3 (Ab ⟨_,rfl,rfl,E8 ..⟩)
     .cases qaq ho;have hww:=hw (by decide);subst hww;exact Ba ag_5 ((hg 0 (by decide)).trans (hG 0 (by decide))) (v := .int .u8 k.kd) (by rw[An (H9.get at2)];rfl) (Ab ⟨_,rfl,rfl,E8 ..⟩)
     .cases qaq ho;exact Jb U Ac2 Aee h5 ((hg 1 (by decide)).trans (hG 1 (by decide))) (Ab ⟨_,rfl,rfl,E8 ..⟩)
     .cases qaq ho;have hww:=hw (by decide);subst hww;exact Ba Amu ((hg 2 (by decide)).trans (hG 2 (by decide))) (v:=fnV f) (by rw[An (H9.get at0),qa2,qcl];exact hf1) (Ab ⟨_,rfl,rfl,E8 ..⟩)
     .cases qaq ho;exact De U _ h0 (Ab ⟨_,rfl,rfl,E8 ..⟩)
     .cases qaq ho;have hww:=hw (by decide);subst hww;exact Ca (Ci k) OH Ii h3 U (CS (b:=b3) (t:=40) (l:=Ci k) (H9.get at2) 0 (Ci k) U) (Ab ⟨_,rfl,rfl,E8 ..⟩)
     .cases qaq ho;exact De U (V 6) (hg 6 (by decide)) (Ab ⟨_,rfl,rfl,(E8 ..).trans (DV (by decide)).symm⟩)
     .cases qaq ho;obtain⟨x,y,h6,-⟩:=hG 6 (by decide);have h7:V 7=.tuple #[x,y]:=(hG 7 (by decide)).trans h6;exact AF (v:=x) ((hg 7 (by decide)).trans h7) U (Ab ⟨_,rfl,rfl,x,y,(DV (by decide)).trans h7,E8 ..⟩)
     .cases qaq ho;obtain⟨x,y,h6,-⟩:=hG 6 (by decide);have h7:V 7=.tuple #[x,y]:=(hG 7 (by decide)).trans h6;exact AF (v:=y) ((hg 7 (by decide)).trans h7) U (Ab ⟨_,rfl,rfl,x,y,(DV (by decide)).trans h7,E8 ..⟩)
     .cases qaq ho;exact Dg U (V 8) (hg 8 (by decide)) (Ab ⟨_,rfl,rfl,(E8 ..).trans (DV (by decide)).symm⟩)
    .intro o e' V ho hold hg hG;cases qaq ho;refine EC ((hg 3 (by decide)).trans (hG 3 (by decide))) hf2 (hf3 _ I2 (Ctx.lend (Ctx.comm (L:=[_,_,_]) (L':=LL m s) H9))) (show[e'.g 27,e'.g 28]=_ by rw[show e'.g 27=_ from(hg 4 (by decide)).trans (hG 4 (by decide)),show e'.g 28=_ from(hg 5 (by decide)).trans (hG 5 (by decide))]) ?_;rintro v w2 ⟨ar,nr,cr,fr,code,lr,s',m',rfl,Or,hst,H7,hnew,I7,hbl⟩;exact Ab ⟨_,rfl,_,_,E8 ..,⟨ar,nr,cr,fr,code,lr,s',m'⟩,rfl,rfl,Or,hst,(Ctx.back (L1:=LL m s) (Ctx.comm (L:=[_,_,_]) (L':=LL m s) H9) H7).comm,I7,hbl⟩
    .intro e' w' V hds hold hg hG;obtain⟨x,y,h6,z,rfl,rfl,hJ⟩:=hG 6 (by decide);obtain⟨x1,y1,h71,h8⟩:=hG 8 (by decide);obtain⟨x2,y2,h72,h9⟩:=hG 9 (by decide);have h7:V 7=V 6:=hG 7 (by decide);have h10:V 10=V 8:=hG 10 (by decide);rw[h7,h6]at h71 h72;cases h71;cases h72;refine Dg U (.int .i64 z.code) ((hg 9 (by decide)).trans h9) (Ab ?_);exact⟨z,hds,⟨(Ke (by decide)).trans ((hg 10 (by decide)).trans (h10.trans h8)),KU ..,trivial⟩,hJ⟩
   .rintro⟨ar,nr,cr,fr,code,lr,s',m'⟩ j8 w ⟨Or,hst,H8,I7,hbl⟩;dsimp only at Or hst H8 I7 hbl;obtain⟨w2,rfl⟩:=qD w;clear H;have H:=Ctx.start1 (H8.get at1);have hS8:=H8.size
    have g2:Grows T (fun x=>(T x\/x∈[b5,b4,b3])\/x∈Di m' s') w0:=⟨fun x hx => .inl (.inl hx),fun x hx=>hx.elim (fun h=>h.elim .inl (hown x)) fun h=>by
     obtain⟨y,hy,rfl⟩:=qah.1 h
     exact(H8.own y (qa0 [_,_,_] (qao _ hy))).imp_left fun h=>I.own _ (hS0 ▸ h)⟩
    have h4:∀x∈[b4],((T x\/x∈[b5,b4,b3])\/x∈Di m' s')\/w2.heap.size<=x:=fun x hx=>by rw[qab.1 hx];exact .inl (.inl (.inr (by simp)))
    refine Ap (Ad (Ae U (C0 U U (qA (Av _ U ?_ ?_)))))
    .intro h3;replace h3:=CC h3;refine Ad (Ae U (Bz [.int .i64 code,.slice none 0 0] Aec Gq ?_));refine Bi Eu U U U (by exact(by simp[AS])) H at0 U ?_;rintro w H;refine qA (A6 (Al (Kb U U U Mj Eu H at0 U ?_)));have H17:=H;subst hS0;have hp:rp lr code=⟨code,[]⟩:=VU h3;rw[hp]at hst;exact XV (P:=[_,_,_]) (m':=m') (s':=s') (p:=⟨code,[]⟩) (full:=[]) I (Ctx.app_nil (Ctx.left (L:=(_::_::_::LL m' s')) (Ctx.mid (B:=[_]) (L:=[_]) H8 H17))) OS.nil hst (I7.grow H17.ext h4 (Grows.refl _ _) fun x hx=>qa3 (I7.low x hx) H17.size) g2 hbl
    .intro h3;replace h3:=CD h3;obtain rfl:code=0:=h3;refine Aq (Aa (Ad (Ao U (Bz [.int .i64 0,.slice ar nr cr] Aec Gq ?_))));refine Bi Eu U U U (by exact(by simp[AS])) H at0 U ?_;rintro w H;refine qA (A6 (Kb U U U Mj Eu H at0 U ?_));have H17:=H;subst hS0;exact XV (P:=[_,_,_]) (m':=m') (s':=s') (p:=⟨0,lr⟩) I (Ctx.mid (B:=[_]) (L:=[_]) H8 H17) Or hst (I7.grow H17.ext h4 (Grows.refl _ _) fun x hx=>qa3 (I7.low x hx) H17.size) g2 hbl
theorem do_ok{m:Lm}{s:Ld}{T:Nat->Prop}{k:Ak}(hin:AkIn k)(w:World)(I:LdIn w m s T)(H0:Ctx w (Di m s) w (LL m s)) :
  Ret prog 18 #[ptr m.bl,.agg (Ci k).toArray] w (Aho w m s T k):=Aqz hin (Aqw hin) w I H0
theorem LV(a b:Option Addr)(n m c d:Nat)(l:List Int)(w:World)(R:Rd w a 1 I1 l)(hn:l.length=n)(hn2:n<=1000000)(Ry:Rd w b 1 I1 l)(hm:l.length=m) :
  Ret prog 27 #[.agg #[.int .i64 0,.slice a n c],.slice b m d] w fun v w'=>v=.bool true/\Ext [] w w':=by
 subst hn hm;obtain⟨w0,rfl,H⟩:=qE w;refine A2 (fn:=f27) func27 U [.agg #[.int .i64 0,.slice a l.length c],.slice b l.length d] U (Ad (Bu [.int .i64 0,.slice a l.length c] (.agg _) U U H ?_));rintro b2 w - H;refine Ai U (qA (Ap (Ad (B9 (α:=Unit) 131008 (fun _=>[(16,.bool (false))]) (fun _ w'=>Ctx w0 [] w' [(b2,Bl 37 [.int .i64 0,.slice a l.length c])]) U ?_ ?_))))
 .refine Ah Hm U (AG KX U H at0 U (C0 U U (Au U (AE 9 U ?_ ?_))))
  .intro h1;replace h1:=CC h1;refine Ag U (Ag U (Ag U (Ag U (Ag U (Ag U (A8 U (.bool _) U (Ab ?_)))))));exact⟨rfl,(),rfl,⟨qaa Value.bool (by(simp_all;done)),trivial⟩,H⟩
  .intro h2;replace h2:=CD h2;refine Ah EQ U (AG Cc U H at0 U (AU AR U (Ao U (AU AR U (C0 U U (AA U (.bool _) U (Ab ?_)))))));exact⟨rfl,(),rfl,⟨qaa Value.bool (by(simp_all;done)),trivial⟩,H⟩
 rintro - j16 w H;refine D5 U (Aq (Aa (Ap (Ad (Af U (qA (Ax (Bn 8589803568 (α:=Nat) (fun i=>[(5,.int .i64 (i:Int))]) (fun i w'=>i<=l.length/\Ctx w0 [] w' [(b2,Bl 37 [.int .i64 0,.slice a l.length c])]) (fun i=>l.length - i) 0 U ?_ ?_ ?_))))))))
 .exact⟨rfl,trivial⟩
 .exact⟨qaf _,H⟩
 .clear H;rintro i j w ⟨hi,H⟩;refine Ap (Ad (Ae U (Ao U (AU AR U (AZ U U (qA (Av _ U ?_ ?_)))))))
  .intro h2;replace h2:=AJ h2;obtain⟨x,hx⟩:=AB (l:=l) (i:=i);refine Aq (Aa (Ap (Ax (CN (fun x=>x=_) Bs U ?_))));refine A3 EQ U (BS Cc U (by rintro _ rfl;exact H.drew) at0 U ?_);refine AY U (Bo R AR Bt U U (by rfl) ?_);refine BF Bm U (by rintro _ rfl;exact(((R.ext0 H.drew.ext).one (f:=CQ) hx))) ?_;refine B0 U (AY U (Bo Ry AR Bt U U (by rfl) ?_));refine BF Bm U (by rintro _ rfl;exact(((Ry.ext0 H.drew.ext).one (f:=CQ) hx))) ?_;refine Gi U U (BM ?_);rintro _ rfl;replace H:=H.drew;refine Av _ U ?_ ?_
   .intro h3;replace h3:=CC h3;omega
   .intro h3;replace h3:=CD h3;refine Aq (A7 (Aa (Ay (Ae U (Aw U U ?_)))));refine Af U (qA ?_);exact⟨i+1,rfl,⟨rfl,trivial⟩,⟨by omega,H⟩,by omega⟩
  .intro h2;replace h2:=AK h2;refine Be (Aj (Aj (AH (Aa (Ad (Ai U (qA (A6 (AD (v:=(.bool _)) U U U ?_)))))))));exact⟨rfl,H.ext⟩
theorem DS{s s':Ld}{k:Ak}{p:Rp}(h:CI s k s' p)(hk:¬(k.kd=10\/k.kd=11):=by decide):s'=FI s k/\p=Gg s k:=by
 unfold CI at h;rw[if_neg hk]at h;exact h
theorem Ctx.did{w0 w w':World}{S:List Nat}{B E:List (Nat × Obj)}{m m':Lm}{s s':Ld}(H:Ctx w0 S w (B++LL m s))(H7:Ctx w (Di m s) w' (LL m' s'++E)):Ctx w0 S w' ((E++B)++LL m' s'):=by
 have h1:=Ctx.back (L1:=LL m s) (L2:=B) H.comm H7;rw[qa9]at h1;exact h1.comm
structure Led(bl:Nat)(w0 w:World)(B:List (Nat × Obj))(m:Lm)(s:Ld)(T:Nat->Prop):Prop where
 H:Ctx w0 [] w (B++LL m s)
 I:LdIn w m s T
 e:m.bl=bl
theorem Led.next{bl:Nat}{w0 w w':World}{B E:List (Nat × Obj)}{m:Lm}{s:Ld}{T:Nat->Prop}(L:Led bl w0 w B m s T)(H:Ctx w [] w' E):Led bl w0 w' (E++B) m s T :=
 ⟨by rw[qa9];exact Ctx.back (L1:=[]) (L2:=B++LL m s) L.H H,L.I.grow H.ext (by simp) (Grows.refl _ _) fun x hx=>qa3 (L.I.low x hx) H.size,L.e⟩
theorem Ef{bl:Nat}{w0 w:World}{B:List (Nat × Obj)}{m:Lm}{s:Ld}{T:Nat->Prop}{k:Ak}(L:Led bl w0 w B m s T)(hin:AkIn k) :
  Ret prog 18 #[ptr bl,.agg (Ci k).toArray] w fun v w'=>∃a n c full p s' m' T',v=.agg #[.int .i64 p.e,.slice a n c]/\OS a n c 1 full (p.n.map CQ)/\CI s k s' p/\Led bl w0 w' (ent a 2 full++B) m' s' T'/\Grows T T' w/\Ext (Di m s) w w':=by
 obtain⟨H,I,e⟩:=L;subst e;refine Ret.mono (do_ok hin w I (Ctx.lend (L1:=LL m s) H.comm)) fun v w' h=>?_;obtain⟨a,n,c,full,p,s',m',T',rfl,O,hst,H7,I7,g,hb⟩:=h;exact⟨a,n,c,full,p,s',m',T',rfl,O,hst,⟨Ctx.did H H7,I7,hb⟩,g,H7.ext⟩
abbrev ak(kd a b x w u id:Int):Ak:=⟨kd,a,b,x,w,u,id⟩
theorem Gw{kd a b x w u id:Int}(h:(0<=kd/\kd<=255)/\(-9223372036854775808<=a/\a<=9223372036854775807)/\(-9223372036854775808<=b/\b<=9223372036854775807)/\(-9223372036854775808<=x/\x<=9223372036854775807)/\(-9223372036854775808<=w/\w<=9223372036854775807)/\(-9223372036854775808<=u/\u<=9223372036854775807)/\(0<=id/\id<=18446744073709551615):=by decide):AkIn ⟨kd,a,b,x,w,u,id⟩:=⟨h.1,h.2.1,h.2.2.1,h.2.2.2.1,h.2.2.2.2.1,h.2.2.2.2.2.1,h.2.2.2.2.2.2⟩
abbrev yA0:List Ac:=[⟨5,0⟩,⟨0,0⟩]
abbrev yA1:List Ac:=[⟨0,0⟩,⟨5,0⟩]
abbrev yD0:List Du:=[⟨1,0,1,9,2,3,false⟩]
abbrev yD1:List Du:=[⟨1,0,1,4,2,3,false⟩]
abbrev yE0:List Ed:=[⟨0,1,9,-2⟩,⟨2,0,5,0⟩,⟨0,2,4503599627370496,0⟩,⟨2,1,0,0⟩,⟨1,2,4503599627370496,0⟩]
theorem ye0:BX (yA0.map C9) (opn yD0) false=yE0:=by decide
theorem ya0:EA yA0=0:=by decide
theorem yd0:ofC yD0 2=0:=by decide
theorem yb0:DH (yA0.map C9) yD0=true:=by decide
theorem Aq0{r:Rnd}(P:PlanR yA0 yD0 false r):Fs yA0 yD0 r=yA1/\Ep yA0 yD0 r=yD1/\Er (opn yD0) r.fl (opn yD0).length=10/\Ij (r.fl.take (opn yD0).length) (opn yD0).length=1:=by
 have hC:=Tv yb0 P;have F:=EV ya0 yd0 hC;obtain⟨p1,p2,p3,p4⟩:=Abe P;have hes:=P.es.trans ye0;have hN:r.N=3:=P.N;have hcmp:=P.cmp;have hlen:r.fl.length=5:=by rw[F.len,hes];rfl
 have hg:=Kn p1;rw[hN,hes]at p3 p4 hg;obtain⟨x,hx⟩:=qD (flE r.fl);rw[<-hx]at p3 p4;have o0:=p3 0 (by decide);have o1:=p3 1 (by decide);have i0:=p4.in' 0 (by decide);have i1:=p4.in' 1 (by decide);have i2:=p4.in' 2 (by decide);have i3:=p4.in' 3 (by decide)
 have hbest:=Fine.best hg p4 p3 (y:=fun i=>[5,5,0,0,5].getD i 0) (fun i hi=>by
  have hi':i<5:=hi
  match i,hi' with
  |0,_=>decide
  |1,_=>decide
  |2,_=>decide
  |3,_=>decide
  |4,_=>decide) (fun v hv=>by
  have hv':v<3:=hv
  match v,hv' with
  |0,_=>decide
  |1,_=>decide
  |2,_=>decide)
 have hc1:HS (grE 3 yE0) (fun i=>[5,5,0,0,5].getD i 0) = -10:=by decide
 have hc2:HS (grE 3 yE0) x = -(2*x 0):=by
  show 0+x 0 * -2+x 1*0+x 2*0+x 3*0+x 4*0=_;omega
 have e0:BP (grE 3 yE0) x 0 = -(x 0)+x 1 - x 2:=by
  show 0+(0 - 1)*x 0+(1 - 0)*x 1+(0 - 1)*x 2+(0 - 0)*x 3+(0 - 0)*x 4=_;omega
 have c1:CA yE0 1=5:=rfl
 have h5:x 0=5:=by
  rw[hc1,hc2]at hbest;rw[e0]at o0;rw[c1]at i1;omega
 have hby:∀k,byK (yA0.map C9) (opn yD0) r.cmp r.fl k=(one (1=k) - one (0=k))*5:=fun k=>by
  have:byK (yA0.map C9) (opn yD0) r.cmp r.fl k=0+(one (1=k) - one (0=k))*x 0:=by rw[hcmp,hx];rfl
  rw[this,h5,Int.zero_add]
 refine⟨?_,?_,?_,?_⟩
 .have hl:=(JO (r:=r) ya0 yd0).2.2;refine qb2 fun i=>?_
  match i with
  |0=>rw[Oj ya0 yd0 hC (k:=0) rfl,hby];rfl
  |1=>rw[Oj ya0 yd0 hC (k:=1) rfl,hby];rfl
  |i+2=>rw[qba (by rw[hl];simp),qba (by simp)]
 .unfold Ep;rw[if_pos hC];show DI yD0 (r.fl.take 1)=_;rw[TE,<-hx,h5];rfl
 .show 0+2*flE r.fl 0=_;rw[<-hx,h5];rfl
 .show Ij (r.fl.take 1) 1=_;rw[TE,<-hx,h5];rfl
theorem Akv{s':Ld}{p:Rp}(h:CI ⟨0,yA0,yD0,2,[],0⟩ (ak 10 0 0 0 0 0 0) s' p):(∃K,s'=⟨0,yA1,yD1,2,K,1⟩)/\p=⟨0,[1,10,1]⟩:=by
 unfold CI at h;rw[if_pos (.inl rfl)]at h
 rcases h with⟨h1,-⟩|⟨-,r,P,rfl,rfl⟩
 .exact absurd h1 (by decide)
 .obtain⟨e1,e2,e3,e4⟩:=Aq0 P;refine⟨⟨IR [] { r with no:=0+1,day:=0 },?_⟩,?_⟩
  .unfold Fu;dsimp only;rw[e1,e2];rfl
  .dsimp only;rw[e3,e4];rfl
theorem Rb(w:World):Ret prog 15 #[] w fun v w'=>v=.bool true/\Ext [] w w':=by
 obtain⟨w0,rfl⟩:=qD w;refine A2 (fn:=f15) func15 U [] U (Ad (Ai U (qA (Ad (Am qB (LU _) U ?_)))));rintro v w ⟨m0,rfl,H0,I0⟩;obtain⟨bl,hb0⟩:∃b,m0.bl=b:=⟨_,rfl⟩;have L:Led bl w0 w [] m0 s00 (fun x=>x∈Di m0 s00):=⟨H0,I0,hb0⟩;rw[hb0];clear H0 I0 hb0;obtain⟨w1,rfl,H⟩:=qE w;refine BE U (qA (Ad (A9 U (Bz (Ci (ak 1 0 0 0 0 0 0)) FA EW ?_))))
 replace L:=L.next H
 refine Am qB (Ef (k:=ak 1 0 0 0 0 0 0) L (Gw)) U ?_;clear L H;rintro v w ⟨a1,n1,c1,f1,p1,s1,m1,T1,rfl,O1,hst1,L,-,-⟩;obtain⟨rfl,rfl⟩:s1=⟨0,[⟨0,0⟩],[],1,[],0⟩/\p1=⟨0,[0]⟩:=DS hst1;clear hst1;obtain⟨w2,rfl,H⟩:=qE w;refine qA (Ad (A9 U (Bz (Ci (ak 1 0 0 0 0 0 0)) FA EW ?_)))
 replace L:=L.next H
 refine Am qB (Ef (k:=ak 1 0 0 0 0 0 0) L (Gw)) U ?_;clear L H;rintro v w ⟨a2,n2,c2,f2,p2,s2,m2,T2,rfl,O2,hst2,L,-,-⟩;obtain⟨rfl,rfl⟩:s2=⟨0,[⟨0,0⟩,⟨0,0⟩],[],1,[],0⟩/\p2=⟨0,[1]⟩:=DS hst2;clear hst2;obtain⟨w3,rfl,H⟩:=qE w;refine qA (Ad (A9 U (Bz (Ci (ak 2 0 0 5 0 0 0)) FA EW ?_)))
 replace L:=L.next H
 refine Am qB (Ef (k:=ak 2 0 0 5 0 0 0) L (Gw)) U ?_;clear L H;rintro v w ⟨a3,n3,c3,f3,p3,s3,m3,T3,rfl,O3,hst3,L,-,-⟩;obtain⟨rfl,rfl⟩:s3=⟨0,yA0,[],1,[],0⟩/\p3=⟨0,[5,0]⟩:=DS hst3;clear hst3;obtain⟨w4,rfl,H⟩:=qE w;refine AX Gq H ?_;rintro b2 w - H;refine Bi Eu U U U (by exact(by simp[AS])) H at0 U ?_;rintro w H;refine qA (Ad (A9 U (Bz (Ci (ak 5 0 1 9 2 3 0)) FA EW ?_)))
 replace L:=L.next H
 refine Am qB (Ef (k:=ak 5 0 1 9 2 3 0) L (Gw)) U ?_;clear L H;rintro v w ⟨a4,n4,c4,f4,p4,s4,m4,T4,rfl,O4,hst4,L,-,-⟩;obtain⟨rfl,rfl⟩:s4=⟨0,yA0,yD0,2,[],0⟩/\p4=⟨0,[1]⟩:=DS hst4;clear hst4;obtain⟨w5,rfl,H⟩:=qE w;refine AX Gq H ?_;rintro b3 w - H;refine Bi Eu U U U (by exact(by simp[AS])) H at0 U ?_;rintro w H;refine qA (Ad (A9 U (Bz (Ci (ak 10 0 0 0 0 0 0)) FA EW ?_)))
 replace L:=L.next H
 refine Am qB (Ef (k:=ak 10 0 0 0 0 0 0) L (Gw)) U ?_;clear L H;rintro v w ⟨a5,n5,c5,f5,p5,s5,m5,T5,rfl,O5,hst5,L,-,-⟩;obtain⟨⟨K,rfl⟩,rfl⟩:=Akv hst5;clear hst5;obtain⟨w6,rfl,H⟩:=qE w;refine AX Gq H ?_;rintro b4 w - H;refine Bi Eu U U U (by exact(by simp[AS])) H at0 U ?_;rintro w H;refine qA (Ad (A9 U (Bz (Ci (ak 12 1 0 0 0 0 0)) FA EW ?_)))
 replace L:=L.next H
 refine Am qB (Ef (k:=ak 12 1 0 0 0 0 0) L (Gw)) U ?_;clear L H;rintro v w ⟨a6,n6,c6,f6,p6,s6,m6,T6,rfl,O6,hst6,L,-,-⟩;obtain⟨rfl,rfl⟩:s6=⟨0,yA1,yD1,2,K,1⟩/\p6=⟨0,[5,0]⟩:=DS hst6;clear hst6;obtain⟨w7,rfl,H⟩:=qE w;refine AX Gq H ?_;rintro b5 w - H;refine Bi Eu U U U (by exact(by simp[AS])) H at0 U ?_;rintro w H;refine qA (Ad (A9 U (Bz (Ci (ak 13 0 0 0 0 0 0)) FA EW ?_)))
 replace L:=L.next H
 refine Am qB (Ef (k:=ak 13 0 0 0 0 0 0) L (Gw)) U ?_;clear L H;rintro v w ⟨a7,n7,c7,f7,p7,s7,m7,T7,rfl,O7,hst7,L,-,-⟩;obtain⟨rfl,rfl⟩:s7=⟨0,yA1,yD1,2,K,1⟩/\p7=⟨0,[-4]⟩:=DS hst7;clear hst7;obtain⟨w8,rfl,H⟩:=qE w;refine AX Gq H ?_;rintro b6 w - H;refine Bi Eu U U U (by exact(by simp[AS])) H at0 U ?_;rintro w H;refine qA (Ad (A9 U (Bz (Ci (ak 9 0 0 0 0 4 0)) FA EW ?_)))
 replace L:=L.next H
 refine Am qB (Ef (k:=ak 9 0 0 0 0 4 0) L (Gw)) U ?_;clear L H;rintro v w ⟨a8,n8,c8,f8,p8,s8,m8,T8,rfl,O8,hst8,L,-,-⟩;obtain⟨rfl,rfl⟩:s8=⟨4,yA1,[],2,K,1⟩/\p8=⟨0,[1]⟩:=DS hst8;clear hst8;obtain⟨w9,rfl,H⟩:=qE w;refine AX Gq H ?_;rintro b7 w - H;refine Bi Eu U U U (by exact(by simp[AS])) H at0 U ?_;rintro w H;refine qA (Ad (A9 U (Bz (Ci (ak 9 0 0 0 0 3 0)) FA EW ?_)))
 replace L:=L.next H
 refine Am qB (Ef (k:=ak 9 0 0 0 0 3 0) L (Gw)) U ?_;clear L H;rintro v w ⟨a9,n9,c9,f9,p9,s9,m9,T9,rfl,O9,hst9,L,-,-⟩;obtain⟨rfl,rfl⟩:s9=⟨4,yA1,[],2,K,1⟩/\p9=⟨3,[]⟩:=DS hst9;clear hst9;obtain⟨w10,rfl,H⟩:=qE w;refine AX Gq H ?_;rintro b8 w - H;refine Bi Eu U U U (by exact(by simp[AS])) H at0 U ?_;rintro w H;refine qA ?_
 have L:=L.next H
 obtain⟨wz,rfl⟩:=qD w;have hz:=L.H.ext;have R3:Rd wz a3 1 I1 [5,0]:=O3.rd1 (t:=2) fun x hx=>L.H.blk x (qao _ (by simp[hx]));have h3:=L.H.blk (b2,Bl 37 [.int .i64 0,.slice a3 n3 c3]) (qao _ (by simp));have R4:Rd wz a4 1 I1 [1]:=O4.rd1 (t:=2) fun x hx=>L.H.blk x (qao _ (by simp[hx]));have h4:=L.H.blk (b3,Bl 37 [.int .i64 0,.slice a4 n4 c4]) (qao _ (by simp));have R5:Rd wz a5 1 I1 [1,10,1]:=O5.rd1 (t:=2) fun x hx=>L.H.blk x (qao _ (by simp[hx]));have h5:=L.H.blk (b4,Bl 37 [.int .i64 0,.slice a5 n5 c5]) (qao _ (by simp));have R6:Rd wz a6 1 I1 [5,0]:=O6.rd1 (t:=2) fun x hx=>L.H.blk x (qao _ (by simp[hx]));have h6:=L.H.blk (b5,Bl 37 [.int .i64 0,.slice a6 n6 c6]) (qao _ (by simp))
 have R7:Rd wz a7 1 I1 [-4]:=O7.rd1 (t:=2) fun x hx=>L.H.blk x (qao _ (by simp[hx]));have h7:=L.H.blk (b6,Bl 37 [.int .i64 0,.slice a7 n7 c7]) (qao _ (by simp));have R8:Rd wz a8 1 I1 [1]:=O8.rd1 (t:=2) fun x hx=>L.H.blk x (qao _ (by simp[hx]));have h8:=L.H.blk (b7,Bl 37 [.int .i64 0,.slice a8 n8 c8]) (qao _ (by simp));have h9:=L.H.blk (b8,Bl 37 [.int .i64 3,.slice a9 n9 c9]) (qao _ (by simp));clear L H;have H:=Ctx.start wz [];refine Ad (Ca _ Mj Eu U U ((CS (b:=b2) (t:=37) (l:=[.int .i64 0,.slice a3 n3 c3]) (H.ext.to h3 (by simp)) 0 [.int .i64 0,.slice a3 n3 c3] U)) ?_);refine Dq ([5,0].map CQ) AR Bt Eh H ?_;rintro y3 w - H
 refine Am qB (LV a3 (some ⟨y3,0,none⟩) n3 _ c3 _ [5,0] _ (R3.ext0 H.ext) O3.num.symm (by have:=O3.num;simp at this;omega) (Rd.of_bl (xs:=([5,0]:List Int)) (enc:=I1) (r:=[]) (H.get at0) U (by decide)) U) U ?_;rintro v w ⟨rfl,hx39⟩;replace H:=H.call hx39;refine Au U (Ca _ Mj Eu U U ((CS (b:=b3) (t:=37) (l:=[.int .i64 0,.slice a4 n4 c4]) (H.ext.to h4 (by simp)) 0 [.int .i64 0,.slice a4 n4 c4] U)) ?_);refine Cs ([1].map CQ) (.int .i64 1) AR Bt Eh U U U U H ?_;rintro y4 w - H;refine Am qB (LV a4 (some ⟨y4,0,none⟩) n4 _ c4 _ [1] _ (R4.ext0 H.ext) O4.num.symm (by have:=O4.num;simp at this;omega) (Rd.of_bl (xs:=([1]:List Int)) (enc:=I1) (r:=[]) (H.get at0) U (by decide)) U) U ?_;rintro v w ⟨rfl,hx43⟩;replace H:=H.call hx43
 refine A8 U (.bool _) U (Au U (Ca _ Mj Eu U U ((CS (b:=b4) (t:=37) (l:=[.int .i64 0,.slice a5 n5 c5]) (H.ext.to h5 (by simp)) 0 [.int .i64 0,.slice a5 n5 c5] U)) ?_));refine Dq ([1,10,1].map CQ) AR Bt Eh H ?_;rintro y5 w - H;refine Am qB (LV a5 (some ⟨y5,0,none⟩) n5 _ c5 _ [1,10,1] _ (R5.ext0 H.ext) O5.num.symm (by have:=O5.num;simp at this;omega) (Rd.of_bl (xs:=([1,10,1]:List Int)) (enc:=I1) (r:=[]) (H.get at0) U (by decide)) U) U ?_;rintro v w ⟨rfl,hx48⟩;replace H:=H.call hx48;refine A8 U (.bool _) U (Au U (Ca _ Mj Eu U U ((CS (b:=b5) (t:=37) (l:=[.int .i64 0,.slice a6 n6 c6]) (H.ext.to h6 (by simp)) 0 [.int .i64 0,.slice a6 n6 c6] U)) ?_));refine Dq ([5,0].map CQ) AR Bt Eh H ?_;rintro y6 w - H
 refine Am qB (LV a6 (some ⟨y6,0,none⟩) n6 _ c6 _ [5,0] _ (R6.ext0 H.ext) O6.num.symm (by have:=O6.num;simp at this;omega) (Rd.of_bl (xs:=([5,0]:List Int)) (enc:=I1) (r:=[]) (H.get at0) U (by decide)) U) U ?_;rintro v w ⟨rfl,hx53⟩;replace H:=H.call hx53;refine A8 U (.bool _) U (Au U (Ca _ Mj Eu U U ((CS (b:=b6) (t:=37) (l:=[.int .i64 0,.slice a7 n7 c7]) (H.ext.to h7 (by simp)) 0 [.int .i64 0,.slice a7 n7 c7] U)) ?_));refine Cs ([-4].map CQ) (.int .i64 (-4)) AR Bt Eh U U U U H ?_;rintro y7 w - H;refine Am qB (LV a7 (some ⟨y7,0,none⟩) n7 _ c7 _ [-4] _ (R7.ext0 H.ext) O7.num.symm (by have:=O7.num;simp at this;omega) (Rd.of_bl (xs:=([-4]:List Int)) (enc:=I1) (r:=[]) (H.get at0) U (by decide)) U) U ?_;rintro v w ⟨rfl,hx58⟩;replace H:=H.call hx58
 refine A8 U (.bool _) U (Au U (Ca _ Mj Eu U U ((CS (b:=b7) (t:=37) (l:=[.int .i64 0,.slice a8 n8 c8]) (H.ext.to h8 (by simp)) 0 [.int .i64 0,.slice a8 n8 c8] U)) ?_));refine Cs ([1].map CQ) (.int .i64 1) AR Bt Eh U U U U H ?_;rintro y8 w - H;refine Am qB (LV a8 (some ⟨y8,0,none⟩) n8 _ c8 _ [1] _ (R8.ext0 H.ext) O8.num.symm (by have:=O8.num;simp at this;omega) (Rd.of_bl (xs:=([1]:List Int)) (enc:=I1) (r:=[]) (H.get at0) U (by decide)) U) U ?_;rintro v w ⟨rfl,hx63⟩;replace H:=H.call hx63;refine A8 U (.bool _) U (Au U (Ah Hm U (Ba KX U ((H.old (An h9 _) (by simp))) ?_)));refine Cj U U (A8 U (.bool _) U (Ai U (qA (A6 (AD (v:=(.bool _)) U U U ?_)))));exact⟨rfl,hz.trans H.ext⟩
def Mb:Ld:=⟨0,[],[],0,[],0⟩
abbrev Mc:StZ:=⟨none,0,none,0,none,0,[]⟩
theorem Aq1(s:Ld)(a:Ak):(FI s a).no=s.no:=by
 unfold FI
 repeat (first|rfl|split)
theorem UI{s s':Ld}{k:Ak}{p:Rp}(h:CI s k s' p):s'.no<=s.no+1:=by
 unfold CI at h
 split at h
 .rcases h with⟨-,rfl,-⟩|⟨-,r,-,rfl,-⟩
  .omega
  .exact qav _
 .rw[h.1,Aq1];omega
theorem Akw{s s':Ld}{k:Ak}{p:Rp}(h:CI s k s' p)(hk:k.kd=2):p.e=GG s.acs k.a k.x:=by
 rw[(DS h (hk:=by omega)).2];unfold Gg;rw[if_neg (by omega),if_pos hk,rp_e]
def addF(k:Ak)(p:Rp):Int:=if p.e=0/\k.kd=2 then k.x else 0
def subF(k:Ak)(p:Rp):Int:=if p.e=0/\k.kd=3 then k.x else 0
theorem Led.drop{bl:Nat}{w0 w:World}{B:List (Nat × Obj)}{m:Lm}{s:Ld}{T:Nat->Prop}(L:Led bl w0 w B m s T):Led bl w0 w [] m s T:=⟨L.H.right,L.I,L.e⟩
theorem Led.call{bl:Nat}{w0 w w':World}{B:List (Nat × Obj)}{m:Lm}{s:Ld}{T:Nat->Prop}(L:Led bl w0 w B m s T)(hx:Ext [] w w'):Led bl w0 w' B m s T:=L.next ((Ctx.start w []).call hx)
theorem Led.low{bl:Nat}{w0 w:World}{B:List (Nat × Obj)}{m:Lm}{s:Ld}{T:Nat->Prop}(L:Led bl w0 w B m s T):∀x∈Di m s,x<w.heap.size:=fun x hx=>L.I.low x (L.I.own x hx)
theorem Ft{bl:Nat}{w0 w:World}{B:List (Nat × Obj)}{m:Lm}{s:Ld}{T:Nat->Prop}(L:Led bl w0 w B m s T) :
  Ret prog 17 #[ptr bl] w fun v w'=>Ext [] w w'/\∃z,v=.agg (stC s z).toArray/\StAt w' s z/\StOff s z (fun x=>x<w.heap.size):=by
 obtain⟨H,I,e⟩:=L;subst e;exact Abu w I H.right
theorem StOff.grows{s:Ld}{z:StZ}{T T':Nat->Prop}{w:World}(O:StOff s z T)(Z:StAt w s z)(g:Grows T T' w):StOff s z T':=(O.or Z.lt).mono g.2
theorem Akx{x:Int}(h:0<=x/\x<=4611686018427387904:=by omega):IntKind.i64.wrap x=x:=Dj (show(-9223372036854775808:Int)<=x by omega) (show x<=(9223372036854775807:Int)by omega)
theorem Rc{s s':Ld}{k:Ak}{p:Rp}(hok:s.Ok)(hs:CI s k s' p)(hk:k.kd=10\/k.kd=11)(hno:s.no<4611686018427387904:=by omega):∃r,PlanR s.acs s.ds (decide (k.kd=11)) r/\s'=Fu s r /\
  p=⟨0,[s.no+1,Er (opn s.ds) r.fl (opn s.ds).length,Ij (r.fl.take (opn s.ds).length) (opn s.ds).length]⟩:=by
 unfold CI at hs;rw[if_pos hk]at hs
 rcases hs with⟨h1,-⟩|⟨-,r,P,rfl,rfl⟩
 .omega
 .have:=hok.kept;exact⟨r,P,rfl,by rw[Akx]⟩
open Go.GV Go.Proofs.Tryz Go.ChangeShapes Go.WideShapes
theorem own:ownKnob Tryz.prog.godebug=none:=by kernel_rfl
theorem PE:laidOutB prog=true:=by kernel_rfl
section
variable {H:Type}{enc:TypeId × Value->H}{w:World}{base:Nat}{spare:Nat->Bool}{held:Bool}
theorem Kz{α:Type}{P:Program}{fuel:Nat}{t u e:TypeId}{s:Nat}{cs:List Value}{x:DataW H × List MemPlace}{fs:Array Field}{encd:α->List Value}{Good:α->Prop}(ht:P.underlying t=some (.struct fs))(h:DataW.trod enc P w base spare held fuel t cs=some x)(i o:Nat)(hf:(fs[i]?.map fun f=>(f.type,f.offset))=some (u,o))(hu:P.underlying u=some (.slice e))(hc:P.cellsOf u=1)(hs:P.cellsOf e=s)(dec:∀n cs y,DataW.trod enc P w base spare held n e cs=some y->∃d,cs=encd d/\Good d)(h0:0<s:=by decide):
  ∃(a:Option Addr) (c:Nat) (l:List α),cs[o]?=some (.slice a l.length c)/\Rd w a s encd l/\l.length<=c/\c<=maxLen/\(∀d∈l,Good d):=by
 obtain⟨n,y,h1⟩:=Aiy ht h i o hf;rw[hc]at h1
 have hv:∃v,(cs.drop o).take 1=[v]:=by
  rcases Go.Deep.open_slice hu h1 with⟨hc,-⟩|⟨_,_,_,_,_,_,_,hc,-⟩
  .exact⟨_,hc⟩
  .exact⟨_,hc⟩
 obtain⟨v,hv⟩:=hv;rw[hv]at h1;obtain⟨a,c,l,rfl,R,h2,h3,h4⟩:=Alm hu hs h0 dec h1;exact⟨a,c,l,Qp hv,R,h2,h3,h4⟩
theorem Ahq:∃fs,Tryz.prog.underlying 43=some (.struct fs)/\(List.range 2).map (fun i=>fs[i]?.map fun f=>(f.type,f.offset))=[some (2,0),some (2,1)]:=⟨_,underlying43,by kernel_rfl⟩
theorem Zw:Tryz.prog.cellsOf 43=2:=by kernel_rfl
theorem Ahr:∃fs,Tryz.prog.underlying 67=some (.struct fs)/\(List.range 7).map (fun i=>fs[i]?.map fun f=>(f.type,f.offset))=[some (28,0),some (3,1),some (3,2),some (2,3),some (2,4),some (2,5),some (4,6)]:=⟨_,underlying67,by kernel_rfl⟩
theorem Zx:Tryz.prog.cellsOf 67=7:=by kernel_rfl
theorem Ahs:Tryz.prog.cellsOf 2=1:=by kernel_rfl
theorem Aht:Tryz.prog.cellsOf 55=8:=by kernel_rfl
theorem Aq2:∀n cs y,DataW.trod enc prog w base spare held n 43 cs=some y->∃d:Ac,cs=Dm d/\(I64 d.ba/\I64 d.re):=by
 intro n cs y h;obtain⟨fs,ht,hf⟩:=Ahq;have hl:=LG ht h;rw[Zw]at hl;simp only[List.range,List.range.loop,qau,qb3,qcu,and_true]at hf;obtain⟨f0,f1⟩:=hf;obtain⟨a,ha,a1,a2⟩:=EH ht h 0 0 f0 underlying2;obtain⟨b,hb,b1,b2⟩:=EH ht h 1 1 f1 underlying2;refine⟨⟨a,b⟩,?_,⟨a1,a2⟩,b1,b2⟩
 match cs,hl with
 | [_,_],_ =>
  simp at ha hb;simp[ha,hb]
def DuT(d:Du):Prop:=(0<=d.id/\d.id<18446744073709551616)/\I64 d.fr/\I64 d.to/\I64 d.am/\I64 d.we/\I64 d.un
theorem Aq3:∀n cs y,DataW.trod enc prog w base spare held n 67 cs=some y->∃d:Du,cs=CM d/\DuT d:=by
 intro n cs y h;obtain⟨fs,ht,hf⟩:=Ahr;have hl:=LG ht h;rw[Zx]at hl;simp only[List.range,List.range.loop,qau,qb3,qcu,and_true]at hf;obtain⟨f0,f1,f2,f3,f4,f5,f6⟩:=hf;obtain⟨a,ha,a1,a2⟩:=EH ht h 0 0 f0 underlying28;obtain⟨b,hb,hb'⟩:=EH ht h 1 1 f1 underlying3;obtain⟨c,hc,hc'⟩:=EH ht h 2 2 f2 underlying3;obtain⟨d,hd,hd'⟩:=EH ht h 3 3 f3 underlying2;obtain⟨e,he,he'⟩:=EH ht h 4 4 f4 underlying2;obtain⟨f,hf,hf'⟩:=EH ht h 5 5 f5 underlying2;obtain⟨g,hg⟩:=Ac0 ht h 6 6 f6 underlying4;refine⟨⟨a,b,c,d,e,f,g⟩,?_,⟨a1,by have a3:a<=18446744073709551615:=a2;dsimp only;omega⟩,hb',hc',hd',he',hf'⟩
 match cs,hl with
 | [_,_,_,_,_,_,_],_ =>
  simp at ha hb hc hd he hf hg;simp[ha,hb,hc,hd,he,hf,hg]
def EdT(e:Ed):Prop:=I64 e.f/\I64 e.t/\I64 e.cap/\I64 e.cost
structure RT(r:Rnd):Prop where
 no:0<=r.no/\r.no<18446744073709551616
 day:I64 r.day
 ids:∀x∈r.ids,0<=x/\x<18446744073709551616
 N:I64 r.N
 es:∀e∈r.es,EdT e
 fl:∀x∈r.fl,I64 x
 pot:∀x∈r.pot,I64 x
set_option maxRecDepth 100000 in
theorem Aky{b:Nat}{v:Value}{d:DataW H}{ps:List MemPlace}(hv:Value.okWide prog w .any b 35 v)(h:DataW.Trod enc prog w base spare held 35 v d ps):∃a c l,v=.slice a l.length c/\Rd w a 1 I1 l/\l.length<=c/\∀x∈l,I64 x:=by
 obtain⟨a,c,l,h1,h2,hc,-,h3⟩:=Yy underlying35 Ahs (Aiz underlying2) (okWide_slice underlying35 hv) h;exact⟨a,c,l,h1,h2,hc,h3⟩
end
section
variable {H:Type}{enc:TypeId × Value->H}{w:World}{base:Nat}{spare:Nat->Bool}{held:Bool}
theorem Ahu:∃fs,Tryz.prog.underlying 40=some (.struct fs)/\(List.range 7).map (fun i=>fs[i]?.map fun f=>(f.type,f.offset))=[some (5,0),some (3,1),some (3,2),some (2,3),some (2,4),some (2,5),some (28,6)]:=⟨_,underlying40,by kernel_rfl⟩
theorem Zy:Tryz.prog.cellsOf 40=7:=by kernel_rfl
theorem Aq4:∀n cs y,DataW.trod enc prog w base spare held n 40 cs=some y->∃k:Ak,cs=Ci k/\AkIn k:=by
 intro n cs y h;obtain⟨fs,ht,hf⟩:=Ahu;have hl:=LG ht h;rw[Zy]at hl;simp only[List.range,List.range.loop,qau,qb3,qcu,and_true]at hf;obtain⟨f0,f1,f2,f3,f4,f5,f6⟩:=hf;obtain⟨a,ha,a1,a2⟩:=EH ht h 0 0 f0 underlying5;obtain⟨b,hb,hb'⟩:=EH ht h 1 1 f1 underlying3;obtain⟨c,hc,hc'⟩:=EH ht h 2 2 f2 underlying3;obtain⟨d,hd,hd'⟩:=EH ht h 3 3 f3 underlying2;obtain⟨e,he,he'⟩:=EH ht h 4 4 f4 underlying2;obtain⟨f,hf,hf'⟩:=EH ht h 5 5 f5 underlying2;obtain⟨g,hg,g1,g2⟩:=EH ht h 6 6 f6 underlying28;refine⟨⟨a,b,c,d,e,f,g⟩,?_,⟨⟨a1,a2⟩,hb',hc',hd',he',hf',g1,g2⟩⟩
 match cs,hl with
 | [_,_,_,_,_,_,_],_ =>
  simp at ha hb hc hd he hf hg;simp[ha,hb,hc,hd,he,hf,hg]
set_option maxRecDepth 100000 in
theorem PF{b:Nat}{v:Value}{d:DataW H}{ps:List MemPlace}(hv:Value.okWide prog w .any b 22 v)(h:DataW.Trod enc prog w base spare held 22 v d ps):∃a c l,v=.slice a l.length c/\Rd w a 7 Ci l/\∀x∈l,AkIn x:=by
 obtain⟨a,c,l,h1,h2,-,-,h3⟩:=Yy underlying22 Zy Aq4 (okWide_slice underlying22 hv) h;exact⟨a,c,l,h1,h2,h3⟩
end
end Go.Proofs.YtdagmpmdcgedcaaGreat
