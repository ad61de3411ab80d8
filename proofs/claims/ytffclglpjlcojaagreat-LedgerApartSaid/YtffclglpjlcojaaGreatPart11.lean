/- Part 11 of the proof. -/
import Derived.Test.YtffclglpjlcojaaGreatPart10
set_option maxRecDepth 20000
set_option maxHeartbeats 4000000
namespace Go.Proofs.YtffclglpjlcojaaGreat
open Go.GV Go.Proofs.Tryz
structure Rp where
 e:Int
 n:List Int
def rp(l:List Int)(e:Int):Rp:=if e=0 then⟨0,l⟩else⟨e,[]⟩
theorem Uw{l:List Int}{e:Int}(h:e≠0):rp l e=⟨e,[]⟩:=if_neg h
theorem rp_e(l:List Int)(e:Int):(rp l e).e=e:=by
 unfold rp
 split
 .rename_i h;exact h.symm
 .rfl
def MG(acs:List Ac)(k:Int):List Int:=[(Dd acs k).ba,(Dd acs k).re]
def ND(b:Bool):Int:=if b=true then 1 else 0
def SR(s:Ld)(k:Int):Option Rnd:=if k<=s.no/\s.no - k<s.rn.length then s.rn[(k - (s.no - s.rn.length+1)).toNat]? else none
def JO(r:Rnd)(b:Int):Rp :=
 if b < -1\/(r.es.length:Int)+r.N<=b then⟨1,[]⟩
 else if b = -1 then⟨0,[r.day,ND r.cmp,r.N,r.es.length,r.ids.length]⟩
 else if(r.es.length:Int)<=b then⟨0,[r.pot.getD (b - r.es.length).toNat 0]⟩
 else⟨0,[(r.es.getD b.toNat e0).f,(r.es.getD b.toNat e0).t,(r.es.getD b.toNat e0).cap,(r.es.getD b.toNat e0).cost,r.fl.getD b.toNat 0,if b<r.ids.length then IntKind.i64.wrap (r.ids.getD b.toNat 0)else 0]⟩
def Et(s:Ld)(a:Ak):Ld :=
 if a.kd=1 then(if s.acs.length<16 then{ s with acs:=s.acs++[a00] }else s)
 else if a.kd=2 then{ s with acs:=Fa s.acs a.a a.x }
 else if a.kd=3 then{ s with acs:=EM s.acs a.a a.x }
 else if a.kd=4 then{ s with acs:=Hv s.acs a.a a.x }
 else if a.kd=5 then(if(inA s.acs a.a && inA s.acs a.b)=true/\s.day<=a.u then{ s with ds:=Ns s.ds s.nx a.a a.b a.x a.w a.u,nx:=PE s.ds s.nx a.a a.b a.x a.w a.u }else s)
 else if a.kd=6 then{ s with ds:=FQ s.ds a.id true }
 else if a.kd=7 then{ s with ds:=FQ s.ds a.id false }
 else if a.kd=8 then{ s with ds:=SO s.ds a.id }
 else if a.kd=9 then(if s.day<=a.u then{ s with day:=a.u,ds:=Nt s.ds a.u }else s)
 else s
def ET(s:Ld)(a:Ak):Rp :=
 if a.kd=1 then rp [s.acs.length] (if s.acs.length<16 then 0 else 6)
 else if a.kd=2 then rp (MG (Fa s.acs a.a a.x) a.a) (Gs s.acs a.a a.x)
 else if a.kd=3 then rp (MG (EM s.acs a.a a.x) a.a) (FD s.acs a.a a.x)
 else if a.kd=4 then rp (MG (Hv s.acs a.a a.x) a.a) (Lk s.acs a.a a.x)
 else if a.kd=5 then(if(inA s.acs a.a && inA s.acs a.b)=false then⟨10,[]⟩else if a.u<s.day then⟨1,[]⟩else rp [IntKind.i64.wrap s.nx] (Jt s.ds s.nx a.a a.b a.x a.w a.u))
 else if a.kd=6 then rp [] (HS s.ds a.id true)
 else if a.kd=7 then rp [] (HS s.ds a.id false)
 else if a.kd=8 then rp [] (NN s.ds a.id)
 else if a.kd=9 then(if a.u<s.day then⟨3,[]⟩else⟨0,[((s.ds.length - (Nt s.ds a.u).length:Nat):Int)]⟩)
 else if a.kd=12 then(if inA s.acs a.a=true then⟨0,MG s.acs a.a⟩else⟨10,[]⟩)
 else if a.kd=13 then(if inA s.acs a.a=true then⟨0,[KF s.acs s.ds a.a.toNat]⟩else⟨10,[]⟩)
 else if a.kd=14 then(match C6 s.ds a.id with
  |none=>⟨11,[]⟩
  |some d=>⟨0,[d.fr,d.to,d.am,d.we,d.un,ND d.held]⟩)
 else if a.kd=15 then(match SR s a.id with
  |none=>⟨4,[]⟩
  |some r=>JO r a.b)
 else⟨1,[]⟩
def Cr(s:Ld)(a:Ak)(s':Ld)(p:Rp):Prop :=
 if a.kd=10\/a.kd=11 then
  (4611686018427387904<=s.no/\s'=s/\p=⟨6,[]⟩) \/
  (s.no<4611686018427387904/\∃r,PlanR s.acs s.ds (decide (a.kd=11)) r/\s'=Qo s r /\
   p=⟨0,[IntKind.i64.wrap (s.no+1),Fy (opn s.ds) r.fl (opn s.ds).length,IL (r.fl.take (opn s.ds).length) (opn s.ds).length]⟩)
 else s'=Et s a/\p=ET s a
theorem JP{s:Ld}(h:s.Ok)(a:Ak)(hu:a.u<=9223372036854775807):(Et s a).Ok:=by
 unfold Et
 split
 .split
  .rename_i hl
   exact⟨(Acr h.ac hl).1,h.du,fun d hd=>by have:=h.bk d hd;show _<((s.acs++[a00]).length:Int)/\_<((s.acs++[a00]).length:Int);rw[qat,qb4];omega,h.day,h.kept,h.nos,h.may⟩
  .exact h
 split
 .obtain⟨h1,h2,-⟩:=WZ h.ac a.a a.x;exact⟨h1,h.du,fun d hd=>by show _<((Fa s.acs a.a a.x).length:Int)/\_<((Fa s.acs a.a a.x).length:Int);rw[h2];exact h.bk d hd,h.day,h.kept,h.nos,h.may⟩
 split
 .obtain⟨h1,h2,-⟩:=Xa h.ac a.a a.x;exact⟨h1,h.du,fun d hd=>by show _<((EM s.acs a.a a.x).length:Int)/\_<((EM s.acs a.a a.x).length:Int);rw[h2];exact h.bk d hd,h.day,h.kept,h.nos,h.may⟩
 split
 .obtain⟨h1,h2,-⟩:=Acq h.ac a.a a.x;exact⟨h1,h.du,fun d hd=>by show _<((Hv s.acs a.a a.x).length:Int)/\_<((Hv s.acs a.a a.x).length:Int);rw[h2];exact h.bk d hd,h.day,h.kept,h.nos,h.may⟩
 split
 .split
  .rename_i hb
   refine⟨h.ac,Ali h.du ..,fun d hd=>?_,h.day,h.kept,h.nos,h.may⟩
   change d∈Ns s.ds s.nx a.a a.b a.x a.w a.u at hd
   unfold Ns at hd
   split at hd
   .rcases qbi.1 hd with h1|h1
    .exact h.bk d h1
    .rw[qab.1 h1];rw[qaf]at hb;exact⟨(E6.1 hb.1.1).2,(E6.1 hb.1.2).2⟩
   .exact h.bk d hd
  .exact h
 split
 .exact⟨h.ac,Acu h.du ..,fun d hd=>Acv h.bk hd,h.day,h.kept,h.nos,h.may⟩
 split
 .exact⟨h.ac,Acu h.du ..,fun d hd=>Acv h.bk hd,h.day,h.kept,h.nos,h.may⟩
 split
 .exact⟨h.ac,Rj h.du _,fun d hd=>h.bk d (qbd.1 hd).1,h.day,h.kept,h.nos,h.may⟩
 split
 .split
  .rename_i hd
   exact⟨h.ac,Rj h.du _,fun d hd=>h.bk d (qbd.1 hd).1,⟨qbg h.day.1 hd,hu⟩,h.kept,h.nos,h.may⟩
  .exact h
 .exact h
def fundI(s:Ld)(a:Ak):Int:=(if a.kd=2/\Gs s.acs a.a a.x=0 then a.x else 0) - (if a.kd=3/\FD s.acs a.a a.x=0 then a.x else 0)
theorem CV{ds:List Du}{nx fr to x w u:Int}(h:Jt ds nx fr to x w u≠0):Ns ds nx fr to x w u=ds/\PE ds nx fr to x w u=nx:=by
 unfold Ns PE;rw[if_neg h,if_neg h];exact⟨rfl,rfl⟩
theorem Ux{ds:List Du}{k:Int}{b:Bool}(h:HS ds k b≠0):FQ ds k b=ds:=by
 unfold FQ;rw[if_neg h]
theorem Acw{ds:List Du}{k:Int}(h:NN ds k≠0):SO ds k=ds:=by
 unfold NN at h;unfold SO;rw[List.filter_eq_self];intro d hd
 cases hf:C6 ds k with
 |some e=>rw[hf]at h;exact absurd rfl h
 |none =>
  have h1:=List.find?_eq_none.1 hf d hd
  simpa using h1
attribute [local irreducible] AG W Wq Wt
abbrev AL(bd:Nat)(x1 x2:Nat × Obj)(a:Option Addr)(n c:Nat)(full:List Value):List (Nat × Obj):=(bd,Bl 129 [.slice a n c])::x1::x2::ent a 108 full
theorem Y6{bd c:Nat}{x1 x2:Nat × Obj}{a:Option Addr}{full:List Value}{acs:List Ac}{S:List Nat}{w0 w:World}(H0:Ctx w0 S w (AL bd x1 x2 a acs.length c full))(O:OS a acs.length c 2 full (acs.flatMap CQ))(hn:acs.length<=1000000:=by omega):
  Ret prog 70 #[ptr bd] w fun v w'=>(16<=acs.length->v=.tuple #[.int .i64 0,.int .i64 6]/\Ctx w0 S w' (AL bd x1 x2 a acs.length c full)) /\
   (acs.length<16->v=.tuple #[.int .i64 (acs.length:Int),.int .i64 0]/\∃a' c' full',OS a' (acs++[a00]).length c' 2 full' ((acs++[a00]).flatMap CQ)/\Ctx w0 S w' (AL bd x1 x2 a' (acs++[a00]).length c' full')):=by
 have H:=H0;refine Ay (fn:=f70) func70 U [.pointer (some ⟨bd,0,none⟩)] U ?_;refine Ad (Ae U (Ae U (qA (Ao (A1 (Ad (Ax U (Cu N1 U ?_))))))));refine Ai U (qA (An _ U ?_ ?_))
 .intro h0;cases h0
 .intro h0;refine Ad (Ax U (AE U (Ah EF U (AB Gi U H at0 U (Ba DE U (CG U U (Ai U (qA (An _ U ?_ ?_)))))))))
  .intro h1;replace h1:=AM h1;refine Ad (Ae U (Ae U (qA (A7 (AF (Av (BR (v1:=(.int _ _)) (v2:=(.int _ _)) U U U U ?_)))))));exact⟨fun _=>⟨rfl,H⟩,fun h=>by omega⟩
  .intro h1;replace h1:=AN h1;refine Aq (A8 (Aa (Ad (Ax U (Ax U (AE U (Ah EF U (AB Gi U H at0 U (Bx [.int .i64 0,.int .i64 0] ZZ GF ?_)))))))));refine Cs _ (.agg _) DE Da GF U U U U H ?_;rintro b20 w - H;refine CI (L:=[_,_,_]) DE DE Da Zv GF U U U H O U (fun v hv=>by simp at hv;rcases hv with rfl|rfl <;> rfl) ?_;rintro a' c' full' w H O;refine AE U (Ah EF U (Ct (.slice _ _ _) sz_37 U U U H at0 (by(simp;done)) ?_));rintro w H;refine qA (Ad (Ax U (AE U (Ah EF U (AB Gi U H at0 U (Ba DE U (Bu U U ?_)))))));refine Ae U (Ae U (qA (A7 (BR (v1:=(.int _ _)) (v2:=(.int _ _)) U U U U ?_))));refine⟨fun h=>by omega,fun _=>⟨?_,a',c',full',?_,?_⟩⟩
   .rw[show(((acs.length+1:Nat):Int) - 1)=(acs.length:Int)by omega]
   .rw[qb1,qat];exact O
   .rw[qat];exact H
structure Qk where
 e:Int
 fid:FuncId
 cl:List Value
 b:Bool
abbrev Nu(q:Qk):List Value:=[.int .i64 q.e,.func (.func q.fid) #[] q.cl.toArray]
theorem Acx(q:Qk):∀v∈Nu q,AZ v=true:=by
 intro v hv
 rcases qae.1 hv with rfl|hv
 .rfl
 .rw[qab.1 hv];rfl
def NE:List Qk->Int
 | []=>0
 |q::qs=>if q.b=false then q.e else NE qs
theorem Xb:∀{qs:List Qk} {i:Nat} {q:Qk},qs[i]?=some q->q.b=false->(∀(j:Nat) (p:Qk),j<i->qs[j]?=some p->p.b=true)->NE qs=q.e
 | [],_,_,h,_,_=>by cases h
 |p::qs,0,q,h,hb,_=>by
  cases h;exact if_pos hb
 |p::qs,i+1,q,h,hb,ha=>by
  unfold NE;rw[if_neg (by rw[ha 0 p (by omega) rfl];decide)];exact Xb (show qs[i]?=some q from h) hb fun j r hj hr=>ha (j+1) r (by omega) hr
theorem Uy:∀{qs:List Qk},(∀q∈qs,q.b=true)->NE qs=0
 | [],_=>rfl
 |q::qs,h=>by
  unfold NE;rw[if_neg (by rw[h q (qai ..)];decide)];exact Uy fun p hp=>h p (qah _ hp)
def IY(acs:List Ac)(k:Int)(qs:List Qk):Int:=if inA acs k=false then 10 else NE qs
def AcsAt(w w':World)(a:Option Addr)(n c:Nat)(full:List Value)(acs:List Ac):Prop :=
 ∃full',OS a n c 2 full' (acs.flatMap CQ)/\(∀x∈ent a 108 full',w'.heap[x.1]?=some x.2)/\Ext ((ent a 108 full).map (·.1)) w w'
theorem PG{bd c cq:Nat}{a aq:Option Addr}{full:List Value}{acs:List Ac}{qs:List Qk}{k:Int}{fid:FuncId}{cl:List Value}{e:Ac}(w:World)(hd:w.heap[bd]?=some (Bl 129 [.slice a acs.length c]))(O:OS a acs.length c 2 full (acs.flatMap CQ))(hb:∀x∈ent a 108 full,w.heap[x.1]?=some x.2)(Rq:Rd w aq 2 Nu qs)(hql:qs.length<=1000)(hq:∀q∈qs,Au prog q.fid=true/\q.e≠0/\∀w',Ext [] w w'->Ret prog q.fid q.cl.toArray w' fun v w''=>v=.bool q.b/\Ext [] w' w'')(hfc:Au prog fid=true)(hdo:∀q w',a=some ⟨q,0,none⟩->inA acs k=true->NE qs=0->Ext [] w w'->Ret prog fid (Value.pointer (some ⟨q,0+k.toNat*2,none⟩)::cl).toArray w' fun _ w''=>∃full',OS a acs.length c 2 full' ((Hu acs k e).flatMap CQ)/\Ctx w' [q] w'' [(q,Bl 108 full')])(hn:acs.length<=1000000:=by omega):
  Ret prog 103 #[ptr bd,.int .i64 k,.func (.func fid) #[] cl.toArray,.slice aq qs.length cq] w fun v w'=>v=.int .i64 (IY acs k qs) /\
   AcsAt w w' a acs.length c full (if IY acs k qs=0 then Hu acs k e else acs):=by
 obtain⟨w1,rfl,H⟩:=qE w;have hsame:∀w',Ext [] w1 w'->AcsAt w1 w' a acs.length c full acs:=fun w' hx=>⟨full,O,fun x hxm=>hx.to (hb x hxm) (by simp),hx.mono (by simp)⟩;unfold IY;refine Ay (fn:=f103) func103 U [.pointer (some ⟨bd,0,none⟩),.int .i64 k,.func (.func fid) #[] cl.toArray,.slice aq qs.length cq] U ?_;refine Ad (Ae U (qA (Ao (A1 (Ad (Ax U (Cu N1 U ?_)))))));refine Ai U (qA (An _ U ?_ ?_))
 .intro h0;cases h0
 .intro h0;refine Ao (Ad (Af U (Bm U U (Ai U (qA (Db 14 U ?_ ?_))))))
  .intro h1;replace h1:=AM h1
   have hi:inA acs k=false:=by cases h:inA acs k with|false=>rfl|true=>have:=E6.1 h;omega
   refine Aq (Aa (DH U (Ad (Ae U (qA (A7 (AF (Av (AD (v:=(.int _ _)) U U U ?_)))))))));rw[if_pos hi,if_neg (by decide)];exact⟨rfl,hsame _ H.ext⟩
  .intro h1;replace h1:=AN h1;refine A0 (Af U (Ax U (AE U (Ah EF U (Bc Gi U ((H.old (Aj hd _) (by simp))) ?_)))));refine Ba DE U (CG U U (Ai U (qA (Db 14 U ?_ ?_))))
   .intro h2;replace h2:=AM h2
    have hi:inA acs k=false:=by cases h:inA acs k with|false=>rfl|true=>have:=E6.1 h;omega
    refine Ad (Ae U (qA (A7 (AF (Av (AD (v:=(.int _ _)) U U U ?_))))));rw[if_pos hi,if_neg (by decide)];exact⟨rfl,hsame _ H.ext⟩
   .intro h2;replace h2:=AN h2;have hi:inA acs k=true:=E6.2 (by omega);rw[if_neg (by rw[hi];decide)];refine Aq (A8 (Aa (Ao (Ad (A2 U (Ba OZ U (Af U (qA (A1 (Bt 137371845888 (α:=Nat) (fun i=>[(26,.int .i64 (i:Int))]) (fun i w'=>i<=qs.length/\Ctx w1 [] w' []/\∀(j:Nat) (p:Qk),j<i->qs[j]?=some p->p.b=true) (fun i=>qs.length - i) 0 U ?_ ?_ ?_))))))))))
    .exact⟨rfl,trivial⟩
    .exact⟨qaj _,H,fun j p h=>absurd h (qa7 _)⟩
    .clear H;rintro i ji w ⟨hii,H,hbb⟩;refine Ad (Bm U U (qA (Ao (An _ U ?_ ?_))))
     .intro h3;replace h3:=AM h3;obtain⟨q,hqi⟩:=AA (l:=qs) (i:=i);obtain⟨hqc,hqe,hqr⟩:=hq q (qac hqi);refine Aq (Aa (Ao (A1 (Ad (Be Rq OZ Ng U U (by rfl) ?_)))));refine BQ _ Ah8 Ng U U ((Rq.ext0 H.ext).row hqi U) (AU J9 H ?_);rintro b10 w - H;refine Bj Ng U U U (by exact Acx _) H at0 U ?_;rintro w H;refine qA (Ad (Ah ZY U (AB Ag3 U H at0 U (FI U hqc (hqr _ H.ext) U ?_))));rintro v w ⟨rfl,hx32⟩;replace H:=H.call hx32;refine BE U (qA (An _ U ?_ ?_))
      .intro h4;replace h4:=B7 h4
       have hqb:q.b=false:=by cases hh:q.b with|false=>rfl|true=>rw[hh]at h4;cases h4
       refine Ad (Ah ZX U (AB Hd U H at0 U (Ae U (qA (A7 (AF (Av (Av (AF (Av (AD (v:=(.int _ _)) U U U ?_)))))))))));rw[Xb hqi hqb hbb,if_neg hqe];exact⟨rfl,hsame _ H.ext⟩
      .intro h4;replace h4:=B9 h4
       have hqb:q.b=true:=by cases hh:q.b with|true=>rfl|false=>rw[hh]at h4;cases h4
       refine Aq (A8 (Aa (A0 (Az U U ?_))));refine Af U (qA ?_)
       exact⟨i+1,rfl,⟨rfl,trivial⟩,⟨by omega,H.tail,fun j p hj hp=>by
        rcases qap j i with h5|h5
        .exact hbb j p h5 hp
        .obtain rfl:j=i:=by omega
         rw[hqi]at hp;cases hp
         exact hqb⟩,by omega⟩
     .intro h3;replace h3:=AN h3;obtain rfl:i=qs.length:=by omega
      have hC:NE qs=0:=Uy fun p hp=>by
       obtain⟨j,hj⟩:=qcy hp;exact hbb j p (C0 hj) hj
      have hin:=E6.1 hi;obtain⟨q,hqa⟩:=O.form (by omega);subst hqa;refine Bp (Am (Am (AO (Aa (Ad (CU (.func _ _ _) U ?_))))));refine Ax U (AE U (Ah EF U (Bc Gi U ((H.old (Aj hd _) (by simp))) ?_)));refine Af U (Bn DE Da U U ?_);refine FI U hfc (hdo q _ U hi hC H.ext) U ?_;rintro v w ⟨full',O',H2⟩;refine qA (Ad (Ae U (qA (A7 (AD (v:=(.int _ _)) U U U ?_)))));rw[hC,if_pos rfl];exact⟨rfl,full',O',fun x hx=>by rw[qab.1 hx];exact H2.get at0,(H.ext.mono (by simp)).trans H2.ext⟩
theorem Acy{bd c:Nat}{a:Option Addr}{acs:List Ac}{k:Int}{f q:Value}(w:World)(hd:w.heap[bd]?=some (Bl 129 [.slice a acs.length c]))(hi:inA acs k=false) :
  Ret prog 103 #[ptr bd,.int .i64 k,f,q] w fun v w'=>v=.int .i64 10/\Ext [] w w':=by
 obtain⟨w1,rfl,H⟩:=qE w;have hi2:¬(0<=k/\k<acs.length):=fun h=>by rw[E6.2 h]at hi;cases hi
 refine Ay (fn:=f103) func103 U [.pointer (some ⟨bd,0,none⟩),.int .i64 k,f,q] U ?_;refine Ad (Ae U (qA (Ao (A1 (Ad (Ax U (Cu N1 U ?_)))))));refine Ai U (qA (An _ U ?_ ?_))
 .intro h0;cases h0
 .intro h0;refine Ao (Ad (Af U (Bm U U (Ai U (qA (Db 14 U ?_ ?_))))))
  .intro h1;replace h1:=AM h1;refine Aq (Aa (DH U (Ad (Ae U (qA (A7 (AF (Av (AD (v:=(.int _ _)) U U U ?_)))))))));exact⟨rfl,H.ext⟩
  .intro h1;replace h1:=AN h1;refine A0 (Af U (Ax U (AE U (Ah EF U (Bc Gi U ((H.old (Aj hd _) (by simp))) ?_)))));refine Ba DE U (CG U U (Ai U (qA (Db 14 U ?_ ?_))))
   .intro h2;replace h2:=AM h2;refine Ad (Ae U (qA (A7 (AF (Av (AD (v:=(.int _ _)) U U U ?_))))));exact⟨rfl,H.ext⟩
   .intro h2;replace h2:=AN h2;exact absurd ⟨by omega,by omega⟩ hi2
theorem Acz{bx:Nat}{x:Int}(w:World)(h7:w.heap[bx]?=some (Bl 2 [.int .i64 x])) :
  Ret prog 105 #[ptr bx] w fun v w'=>v=.bool (decide (0<x) && Dc x)/\Ext [] w w':=by
 obtain⟨w0,rfl,H⟩:=qE w;refine Ay (fn:=f105) func105 U [.pointer (some ⟨bx,0,none⟩)] U ?_;refine Ad (Ai U (qA (Ad (Bc Bw U ((H.old (Aj h7 _) (by simp))) ?_))));refine CD U U (Aw U (AK 4 U ?_ ?_))
 .intro h1;replace h1:=AM h1;refine Bc Bw U ((H.old (Aj h7 _) (by simp))) (Al qB (JK x _) U ?_);rintro v w ⟨rfl,rfl⟩;refine A6 U (.bool _) U (Ai U (qA (A7 (AD (v:=(.bool _)) U U U ?_))));exact⟨qaa Value.bool (by rw[qad];simp_all;try omega),H.ext⟩
 .intro h2;replace h2:=AN h2;refine Ag U (Ag U (A9 U (.bool _) U (Ai U (qA (A7 (AD (v:=(.bool _)) U U U ?_))))));exact⟨qaa Value.bool (by rw[qad];simp_all;try omega),H.ext⟩
theorem Ac0{bx:Nat}{x:Int}(w:World)(h7:w.heap[bx]?=some (Bl 2 [.int .i64 x])) :
  Ret prog 108 #[ptr bx] w fun v w'=>v=.bool (decide (0<x) && Dc x)/\Ext [] w w':=by
 obtain⟨w0,rfl,H⟩:=qE w;refine Ay (fn:=f108) func108 U [.pointer (some ⟨bx,0,none⟩)] U ?_;refine Ad (Ai U (qA (Ad (Bc Bw U ((H.old (Aj h7 _) (by simp))) ?_))));refine CD U U (Aw U (AK 4 U ?_ ?_))
 .intro h1;replace h1:=AM h1;refine Bc Bw U ((H.old (Aj h7 _) (by simp))) (Al qB (JK x _) U ?_);rintro v w ⟨rfl,rfl⟩;refine A6 U (.bool _) U (Ai U (qA (A7 (AD (v:=(.bool _)) U U U ?_))));exact⟨qaa Value.bool (by rw[qad];simp_all;try omega),H.ext⟩
 .intro h2;replace h2:=AN h2;refine Ag U (Ag U (A9 U (.bool _) U (Ai U (qA (A7 (AD (v:=(.bool _)) U U U ?_))))));exact⟨qaa Value.bool (by rw[qad];simp_all;try omega),H.ext⟩
theorem Agb{bx:Nat}{x:Int}(w:World)(h7:w.heap[bx]?=some (Bl 2 [.int .i64 x])) :
  Ret prog 111 #[ptr bx] w fun v w'=>v=.bool (Dc x)/\Ext [] w w':=by
 obtain⟨w0,rfl,H⟩:=qE w;refine Ay (fn:=f111) func111 U [.pointer (some ⟨bx,0,none⟩)] U ?_;refine Ad (Ai U (qA (Ad (Bc Bw U ((H.old (Aj h7 _) (by simp))) ?_))));refine Al qB (JK x _) U ?_;rintro v w ⟨rfl,rfl⟩;refine Ai U (qA (A7 (AD (v:=(.bool _)) U U U ?_)));exact⟨rfl,H.ext⟩
theorem Ac1{q j bx:Nat}{ba x:Int}{full:List Value}(w:World)(h9:w.heap[q]?=some (Bl 108 full))(hf:full[j]?=some (.int .i64 ba))(h7:w.heap[bx]?=some (Bl 2 [.int .i64 x]))(hne:bx≠q)(hb:0<=ba/\ba<=4503599627370496)(hx:0<=x/\x<=4503599627370496) :
  Ret prog 104 #[.pointer (some ⟨q,j,none⟩),ptr bx] w fun _ w'=>Ctx w [q] w' [(q,Bl 108 (full.set (j+0) (.int .i64 (ba+x))))]:=by
 obtain⟨w0,rfl⟩:=qD w;have H:=Ctx.start1 h9;have hn:bx∉[q]:=by rw[qab];exact hne
 have hj:=C0 hf;refine Ay (fn:=f104) func104 U [.pointer (some ⟨q,j,none⟩),.pointer (some ⟨bx,0,none⟩)] U ?_;refine Fh [([0,1,2,3,4,5],6),([7],8)] (fun z=>z.heap[q]?=some (Bl 108 full)/\z.heap[bx]?=some (Bl 2 [.int .i64 x])) [8] Bq (⟨H.drew.get at0,H.drew.ext.to h7 hn⟩) ?_;refine AH U U (BF U (Bg U (Ap Ef U (B3 Bw U (fun _ hx=>(by rw[Aj hx.1];exact hf)) ?_))));refine B3 Bw U (fun _ hx=>(by rw[Aj hx.2];rfl)) ?_;refine Ev U U (AR ?_);replace H:=H.drew;refine AE U (Ab (BM (⟨H.get at0,H.ext.to h7 hn⟩) (AH U U ?_)));refine Ap Ef U (AR (Ct (.int _ _) B2 U U U H at0 (by omega) ?_));rintro w H;refine Ab (B5 U (BG (CO U U ?_)));exact H
theorem Ac2{q j bx:Nat}{ba x:Int}{full:List Value}(w:World)(h9:w.heap[q]?=some (Bl 108 full))(hf:full[j]?=some (.int .i64 ba))(h7:w.heap[bx]?=some (Bl 2 [.int .i64 x]))(hne:bx≠q)(hb:0<=ba/\ba<=4503599627370496)(hx:0<=x/\x<=4503599627370496) :
  Ret prog 107 #[.pointer (some ⟨q,j,none⟩),ptr bx] w fun _ w'=>Ctx w [q] w' [(q,Bl 108 (full.set (j+0) (.int .i64 (ba - x))))]:=by
 obtain⟨w0,rfl⟩:=qD w;have H:=Ctx.start1 h9;have hn:bx∉[q]:=by rw[qab];exact hne
 have hj:=C0 hf;refine Ay (fn:=f107) func107 U [.pointer (some ⟨q,j,none⟩),.pointer (some ⟨bx,0,none⟩)] U ?_;refine Fh [([0,1,2,3,4,5],6),([7],8)] (fun z=>z.heap[q]?=some (Bl 108 full)/\z.heap[bx]?=some (Bl 2 [.int .i64 x])) [8] Bq (⟨H.drew.get at0,H.drew.ext.to h7 hn⟩) ?_;refine AH U U (BF U (Bg U (Ap Ef U (B3 Bw U (fun _ hx=>(by rw[Aj hx.1];exact hf)) ?_))));refine B3 Bw U (fun _ hx=>(by rw[Aj hx.2];rfl)) ?_;refine Ff U U (AR ?_);replace H:=H.drew;refine AE U (Ab (BM (⟨H.get at0,H.ext.to h7 hn⟩) (AH U U ?_)));refine Ap Ef U (AR (Ct (.int _ _) B2 U U U H at0 (by omega) ?_));rintro w H;refine Ab (B5 U (BG (CO U U ?_)));exact H
theorem Agc{q j bx:Nat}{x:Int}{full:List Value}(w:World)(h9:w.heap[q]?=some (Bl 108 full))(hj:j+1<full.length)(h7:w.heap[bx]?=some (Bl 2 [.int .i64 x]))(hne:bx≠q) :
  Ret prog 110 #[.pointer (some ⟨q,j,none⟩),ptr bx] w fun _ w'=>Ctx w [q] w' [(q,Bl 108 (full.set (j+1) (.int .i64 x)))]:=by
 obtain⟨w0,rfl⟩:=qD w;have H:=Ctx.start1 h9;have hn:bx∉[q]:=by rw[qab];exact hne
 refine Ay (fn:=f110) func110 U [.pointer (some ⟨q,j,none⟩),.pointer (some ⟨bx,0,none⟩)] U ?_;refine A0 (Ax U (Bc Bw U ((H.old (Aj h7 _) hn)) ?_));refine AE U (Ah Jf U (Ct (.int _ _) B2 U U U H at0 (by omega) ?_));rintro w H;refine Ab (CO U U ?_);exact H
theorem Ac3{bx b3 b4 bd c:Nat}{a:Option Addr}{acs:List Ac}{k x:Int}(w:World)(h7:w.heap[bx]?=some (Bl 2 [.int .i64 x]))(h3:w.heap[b3]?=some (Bl 66 [ptr bd]))(h4:w.heap[b4]?=some (Bl 3 [.int .i64 k]))(hd:w.heap[bd]?=some (Bl 129 [.slice a acs.length c]))(R:Rd w a 2 CQ acs)(hi:inA acs k=true) :
  Ret prog 109 #[ptr bx,ptr b3,ptr b4] w fun v w'=>v=.bool (decide (x<=(Dd acs k).ba))/\Ext [] w w':=by
 obtain⟨w0,rfl,H⟩:=qE w;have hin:=E6.1 hi;have hg:=F8 hi;refine Ay (fn:=f109) func109 U [.pointer (some ⟨bx,0,none⟩),.pointer (some ⟨b3,0,none⟩),.pointer (some ⟨b4,0,none⟩)] U ?_;refine Ad (Ai U (qA (Dw (fun x=>x=_) Bq U ?_)));refine BX Bw U (by rintro _ rfl;exact((H.drew.old (Aj h7 _) (by simp)))) ?_;refine BX ID U (by rintro _ rfl;exact((H.drew.old (Aj h3 _) (by simp)))) ?_;refine Bb U (A5 EF U (BX Gi U (by rintro _ rfl;exact((H.drew.old (Aj hd _) (by simp)))) ?_));refine BX Cd U (by rintro _ rfl;exact((H.drew.old (Aj h4 _) (by simp)))) ?_;refine BH R DE Da U U (by rfl) ?_;refine A5 Ef U (BX Bw U (by rintro _ rfl;exact(((R.ext0 H.drew.ext).fld hg rfl (j:=0) rfl))) ?_);refine Oy U U (MZ U U (BT ?_));rintro _ rfl;replace H:=H.drew
 refine A7 (AD (v:=(.bool _)) U U U ?_);exact⟨rfl,H.ext⟩
theorem Ac4{bx b3 bd c:Nat}{a:Option Addr}{acs:List Ac}{x:Int}(w:World)(h3:w.heap[b3]?=some (Bl 66 [ptr bd]))(h7:w.heap[bx]?=some (Bl 2 [.int .i64 x]))(hd:w.heap[bd]?=some (Bl 129 [.slice a acs.length c]))(R:Rd w a 2 CQ acs)(hn:acs.length<=1000:=by omega):
  Ret prog 106 #[ptr b3,ptr bx] w fun v w'=>v=.bool (decide ((ER (bas acs++[x])).2=0))/\Ext [] w w':=by
 obtain⟨w0,rfl,H⟩:=qE w;obtain⟨tt,htt⟩:=qD (ER (bas acs++[x]));rw[<-htt];refine Ay (fn:=f106) func106 U [.pointer (some ⟨b3,0,none⟩),.pointer (some ⟨bx,0,none⟩)] U ?_;refine Ad (Ai U (qA (Ahz (.two [0,2] 1 (.one [] 3 (.one [] 4 (.one [] 5 (.one [6,7,8] 9 (.one [] 10 .stop))))) 3 (.one [] 1 (.one [] 4 (.one [] 5 (.one [6,7,8] 9 (.one [] 10 .stop)))))) (fun z=>Ext [] w0 z) Bq (Ext.drew [] w0) ?_)));refine IP U U U ?_;refine B3 ID U (fun _ hx=>(by rw[Aj (hx.to h3 (by simp))];rfl)) ?_;refine B3 Bw U (fun _ hx=>(by rw[Aj (hx.to h7 (by simp))];rfl)) ?_;refine AR ?_;replace H:=H.drew;refine⟨?_,?_⟩
 .skip
  refine Al qB (II a acs.length c acs _ (H.ext.to hd (by simp)) (R.ext0 H.ext) U) U ?_;rintro v w F;obtain⟨a3,n3,c3,f3,rfl,O3,hb3⟩:=F.ex;have hl3:=O3.llen;rw[qak,qak]at hl3;replace H:=H.callEnt F.ext hb3 FY;refine Ab (BU (H.ext) (BS U U ?_));refine AR (Cs _ (.int _ _) AV B2 E5 U U U U H ?_);rintro b9 w - H;refine Ab (BU (H.ext) (BS U U ?_));refine AR (CI (L:=[]) AV AV B2 LB E5 U U U H O3 U (by simp[AZ]) ?_);rintro a' c' full' w H O;refine Ab (BU (H.ext) (BS U U ?_));refine AR (Al qB (Le a' (n3+1) c' (bas acs++[x]) _ (OS.rd1 (f:=Dj) (t:=2) (xs:=bas acs++[x]) (by rw[qay];exact O) (fun x hx=>H.blk x (qal [] hx))) (by unfold bas;rw[qat,qak];show acs.length+1=_;omega)) U ?_);rintro v w ⟨rfl,rfl⟩;rw[<-htt]
  refine Ab (BU (H.ext) (BS U U ?_));refine DK U (Bv U U (Bv U U (AR (Ae U (Ab (BU (H.ext) (BS U U ?_)))))));refine AR (Ae U (Ab (BU (H.ext) (Ej ?_))));refine Ad (Af U (BP U U (Ai U (qA (A7 (AD (v:=(.bool _)) U U U ?_))))));exact⟨rfl,H.ext⟩
 .skip
  refine Cs _ (.int _ _) AV B2 E5 U U U U H ?_;rintro b9 w - H;refine Ab (BU (H.ext) (BS U U ?_));refine AR (Al qB (II a acs.length c acs _ (H.ext.to hd (by simp)) (R.ext0 H.ext) U) U ?_);rintro v w F;obtain⟨a3,n3,c3,f3,rfl,O3,hb3⟩:=F.ex;have hl3:=O3.llen;rw[qak,qak]at hl3;replace H:=H.callEnt F.ext hb3 FY;refine Ab (BU (H.ext) (BS U U ?_));refine AR (CI (L:=[]) AV AV B2 LB E5 U U U H O3 U (by simp[AZ]) ?_);rintro a' c' full' w H O;refine Ab (BU (H.ext) (BS U U ?_));refine AR (Al qB (Le a' (n3+1) c' (bas acs++[x]) _ (OS.rd1 (f:=Dj) (t:=2) (xs:=bas acs++[x]) (by rw[qay];exact O) (fun x hx=>H.blk x (qal [] hx))) (by unfold bas;rw[qat,qak];show acs.length+1=_;omega)) U ?_);rintro v w ⟨rfl,rfl⟩;rw[<-htt]
  refine Ab (BU (H.ext) (BS U U ?_));refine DK U (Bv U U (Bv U U (AR (Ae U (Ab (BU (H.ext) (BS U U ?_)))))));refine AR (Ae U (Ab (BU (H.ext) (Ej ?_))));refine Ad (Af U (BP U U (Ai U (qA (A7 (AD (v:=(.bool _)) U U U ?_))))));exact⟨rfl,H.ext⟩
abbrev AcB(bd:Nat)(a:Option Addr)(n c:Nat)(w:World):Prop:=w.heap[bd]?=some (Bl 129 [.slice a n c])
theorem AcsAt.back{w0 w w':World}{a:Option Addr}{n c:Nat}{full:List Value}{acs:List Ac}(h:AcsAt w w' a n c full acs)(hx:Ext [] w0 w):AcsAt w0 w' a n c full acs:=by
 obtain⟨f,O,hb,he⟩:=h;exact⟨f,O,hb,(hx.mono (by simp)).trans he⟩
theorem AcsAt.of{w w':World}{a:Option Addr}{n c:Nat}{full:List Value}{acs acs':List Ac}(h:AcsAt w w' a n c full acs)(he:acs=acs'):AcsAt w w' a n c full acs':=he ▸ h
abbrev Xc(b3 b5:Nat)(acs:List Ac)(x:Int):List Qk:=[⟨1,105,[ptr b5],decide (0<x) && Dc x⟩,⟨13,106,[ptr b3,ptr b5],decide ((ER (bas acs++[x])).2=0)⟩]
abbrev Xd(b3 b4 b5:Nat)(acs:List Ac)(k x:Int):List Qk:=[⟨1,108,[ptr b5],decide (0<x) && Dc x⟩,⟨12,109,[ptr b5,ptr b3,ptr b4],decide (x<=(Dd acs k).ba)⟩]
abbrev rsvQ(b5:Nat)(x:Int):List Qk:=[⟨1,111,[ptr b5],Dc x⟩]
theorem Rl{b3 b5:Nat}{acs:List Ac}{k x:Int}:IY acs k (Xc b3 b5 acs x)=Gs acs k x:=by
 unfold IY Gs
 cases inA acs k with
 |false=>rfl
 |true =>
  rw[if_neg (by decide),if_neg (by decide)];show(if(decide (0<x) && Dc x)=false then(1:Int)else if decide ((ER (bas acs++[x])).2=0)=false then 13 else 0)=_
  by_cases h:(ER (bas acs++[x])).2=0
  .rw[if_neg (show ¬(decide ((ER (bas acs++[x])).2=0)=false)by simpa using h),if_neg (show ¬(ER (bas acs++[x])).2≠0 from fun h2=>h2 h)]
  .rw[if_pos (show decide ((ER (bas acs++[x])).2=0)=false by simpa using h),if_pos h]
theorem Rm{b3 b4 b5:Nat}{acs:List Ac}{k x:Int}:IY acs k (Xd b3 b4 b5 acs k x)=FD acs k x:=by
 unfold IY FD
 cases inA acs k with
 |false=>rfl
 |true =>
  rw[if_neg (by decide),if_neg (by decide)];show(if(decide (0<x) && Dc x)=false then(1:Int)else if decide (x<=(Dd acs k).ba)=false then 12 else 0)=_
  by_cases h:x<=(Dd acs k).ba
  .rw[if_neg (show ¬(decide (x<=(Dd acs k).ba)=false)by simpa using h),if_neg (show ¬(Dd acs k).ba<x by omega)]
  .rw[if_pos (show decide (x<=(Dd acs k).ba)=false by simpa using h),if_pos (show(Dd acs k).ba<x by omega)]
theorem Ac5{b5:Nat}{acs:List Ac}{k x:Int}:IY acs k (rsvQ b5 x)=Lk acs k x:=rfl
section
variable {bd c:Nat}{a:Option Addr}{full:List Value}{acs:List Ac}{w:World}
theorem Nv{q:Nat}{k:Int}{w':World}(O:OS (some ⟨q,0,none⟩) acs.length c 2 full (acs.flatMap CQ))(h9:w'.heap[q]?=some (Bl 108 full))(hi:inA acs k=true) :
  full[0+k.toNat*2]?=some (.int .i64 (Dd acs k).ba)/\0+k.toNat*2+1<full.length:=by
 have R:Rd w' (some ⟨q,0,none⟩) 2 CQ acs:=OS.rd (t:=108) O (fun y hy=>by rw[qab.1 hy];exact h9) (fun _ _=>rfl) (by omega);have h1:w'.cell? ⟨q,0+k.toNat*2+0,none⟩=some (.int .i64 (Dd acs k).ba):=R.fld (F8 hi) rfl (j:=0) rfl;have h2:w'.cell? ⟨q,0+k.toNat*2+1,none⟩=some (.int .i64 (Dd acs k).re):=R.fld (F8 hi) rfl (j:=1) rfl;rw[Aj h9]at h1 h2;exact⟨h1,C0 h2⟩
theorem Y7{b3 b5 b14:Nat}{k x:Int}(hd:AcB bd a acs.length c w)(O:OS a acs.length c 2 full (acs.flatMap CQ))(hb:∀x∈ent a 108 full,w.heap[x.1]?=some x.2/\x.1≠b5)(hac:El acs=0)(h3:w.heap[b3]?=some (Bl 66 [ptr bd]))(h5:w.heap[b5]?=some (Bl 2 [.int .i64 x]))(h14:w.heap[b14]?=some (Bl 182 ((Xc b3 b5 acs x).flatMap Nu))) :
  Ret prog 103 #[ptr bd,.int .i64 k,.func (.func 104) #[] [ptr b5].toArray,.slice (some ⟨b14,0,none⟩) 2 2] w fun v w'=>v=.int .i64 (Gs acs k x)/\AcsAt w w' a acs.length c full (Fa acs k x):=by
 have hn16:=(Co.1 hac).1;have R:Rd w a 2 CQ acs:=OS.rd O (fun y hy=>(hb y hy).1) (fun _ _=>rfl) (by omega);refine Ret.mono (PG (qs:=Xc b3 b5 acs x) (e:=⟨(Dd acs k).ba+x,(Dd acs k).re⟩) w hd O (fun y hy=>(hb y hy).1) (Rd.of_bl h14 (qa3 _).symm fun _ _=>rfl) (show(2:Nat)<=1000 by decide) (fun q hq=>?_) qB fun q w' hqa hi hC hx=>?_) fun v w' h=>?_
 .rcases qae.1 hq with rfl|hq
  .exact⟨qB,(show(1:Int)≠0 by decide),fun w' hx=>Acz w' (hx.to h5 (by simp))⟩
  .rw[qab.1 hq];exact⟨qB,(show(13:Int)≠0 by decide),fun w' hx=>Ac4 w' (hx.to h3 (by simp)) (hx.to h5 (by simp)) (hx.to hd (by simp)) (R.ext0 hx)⟩
 .subst hqa;obtain⟨h1,h2⟩:=hb (q,Bl 108 full) (qab.2 rfl);have h9:w'.heap[q]?=_:=hx.to h1 (by simp);have hg:=Js hac hi;have hC2:Gs acs k x=0:=by rw[<-Rl (b3:=b3) (b5:=b5)];unfold IY;rw[if_neg (by rw[hi];decide)];exact hC
  rcases LO acs k x with⟨hc,-⟩|⟨-,-,h0,hm,-⟩
  .exact absurd hC2 hc
  .refine Ret.mono (Ac1 w' h9 (Nv O h9 hi).1 (hx.to h5 (by simp)) (fun h=>h2 h.symm) ⟨hg.1.1,hg.1.2⟩ ⟨by omega,(CN.1 hm).2⟩) fun _ w'' H2=>⟨_,?_,H2⟩;rw[show 0+k.toNat*2+0=k.toNat*2+0 by omega];exact OS.setf O (y:=⟨(Dd acs k).ba+x,(Dd acs k).re⟩) (j:=0) (v := .int .i64 ((Dd acs k).ba+x)) (fun _=>rfl) (F8 hi) (by decide) U
 .rw[Rl]at h;exact⟨h.1,h.2.of (by unfold Fa;rfl)⟩
theorem Y8{b3 b4 b5 b14:Nat}{k x:Int}(hd:AcB bd a acs.length c w)(O:OS a acs.length c 2 full (acs.flatMap CQ))(hb:∀x∈ent a 108 full,w.heap[x.1]?=some x.2/\x.1≠b5)(hac:El acs=0)(h3:w.heap[b3]?=some (Bl 66 [ptr bd]))(h4:w.heap[b4]?=some (Bl 3 [.int .i64 k]))(h5:w.heap[b5]?=some (Bl 2 [.int .i64 x]))(h14:w.heap[b14]?=some (Bl 182 ((Xd b3 b4 b5 acs k x).flatMap Nu))) :
  Ret prog 103 #[ptr bd,.int .i64 k,.func (.func 107) #[] [ptr b5].toArray,.slice (some ⟨b14,0,none⟩) 2 2] w fun v w'=>v=.int .i64 (FD acs k x)/\AcsAt w w' a acs.length c full (EM acs k x):=by
 have hn16:=(Co.1 hac).1;have R:Rd w a 2 CQ acs:=OS.rd O (fun y hy=>(hb y hy).1) (fun _ _=>rfl) (by omega)
 cases hi0:inA acs k with
 |false =>
  refine Ret.mono (Acy w hd hi0) fun v w' h=>?_;have hc:FD acs k x=10:=by unfold FD;rw[if_pos hi0]
  refine⟨by rw[hc];exact h.1,full,?_,fun y hy=>h.2.to (hb y hy).1 (by simp),h.2.mono (by simp)⟩;unfold EM;rw[if_neg (by rw[hc];decide)];exact O
 |true =>
  refine Ret.mono (PG (qs:=Xd b3 b4 b5 acs k x) (e:=⟨(Dd acs k).ba - x,(Dd acs k).re⟩) w hd O (fun y hy=>(hb y hy).1) (Rd.of_bl h14 (qa3 _).symm fun _ _=>rfl) (show(2:Nat)<=1000 by decide) (fun q hq=>?_) qB fun q w' hqa hi hC hx=>?_) fun v w' h=>?_
  .rcases qae.1 hq with rfl|hq
   .exact⟨qB,(show(1:Int)≠0 by decide),fun w' hx=>Ac0 w' (hx.to h5 (by simp))⟩
   .rw[qab.1 hq];exact⟨qB,(show(12:Int)≠0 by decide),fun w' hx=>Ac3 w' (hx.to h5 (by simp)) (hx.to h3 (by simp)) (hx.to h4 (by simp)) (hx.to hd (by simp)) (R.ext0 hx) hi0⟩
  .subst hqa;obtain⟨h1,h2⟩:=hb (q,Bl 108 full) (qab.2 rfl);have h9:w'.heap[q]?=_:=hx.to h1 (by simp);have hg:=Js hac hi;have hC2:FD acs k x=0:=by rw[<-Rm (b3:=b3) (b4:=b4) (b5:=b5)];unfold IY;rw[if_neg (by rw[hi];decide)];exact hC
   rcases LP acs k x with⟨hc,-⟩|⟨-,-,h0,hm,-⟩
   .exact absurd hC2 hc
   .refine Ret.mono (Ac2 w' h9 (Nv O h9 hi).1 (hx.to h5 (by simp)) (fun h=>h2 h.symm) ⟨hg.1.1,hg.1.2⟩ ⟨by omega,(CN.1 hm).2⟩) fun _ w'' H2=>⟨_,?_,H2⟩;rw[show 0+k.toNat*2+0=k.toNat*2+0 by omega];exact OS.setf O (y:=⟨(Dd acs k).ba - x,(Dd acs k).re⟩) (j:=0) (v := .int .i64 ((Dd acs k).ba - x)) (fun _=>rfl) (F8 hi) (by decide) U
  .rw[Rm]at h;exact⟨h.1,h.2.of (by unfold EM;rfl)⟩
theorem Ac6{b5 b14:Nat}{k x:Int}(hd:AcB bd a acs.length c w)(O:OS a acs.length c 2 full (acs.flatMap CQ))(hb:∀x∈ent a 108 full,w.heap[x.1]?=some x.2/\x.1≠b5)(hac:El acs=0)(h5:w.heap[b5]?=some (Bl 2 [.int .i64 x]))(h14:w.heap[b14]?=some (Bl 182 ((rsvQ b5 x).flatMap Nu))) :
  Ret prog 103 #[ptr bd,.int .i64 k,.func (.func 110) #[] [ptr b5].toArray,.slice (some ⟨b14,0,none⟩) 1 1] w fun v w'=>v=.int .i64 (Lk acs k x)/\AcsAt w w' a acs.length c full (Hv acs k x):=by
 have hn16:=(Co.1 hac).1;refine Ret.mono (PG (qs:=rsvQ b5 x) (e:=⟨(Dd acs k).ba,x⟩) w hd O (fun y hy=>(hb y hy).1) (Rd.of_bl h14 (qa3 _).symm fun _ _=>rfl) (show(1:Nat)<=1000 by decide) (fun q hq=>?_) qB fun q w' hqa hi hC hx=>?_) fun v w' h=>?_
 .rw[qab.1 hq];exact⟨qB,(show(1:Int)≠0 by decide),fun w' hx=>Agb w' (hx.to h5 (by simp))⟩
 .subst hqa;obtain⟨h1,h2⟩:=hb (q,Bl 108 full) (qab.2 rfl);have h9:w'.heap[q]?=_:=hx.to h1 (by simp);refine Ret.mono (Agc w' h9 (Nv O h9 hi).2 (hx.to h5 (by simp)) (fun h=>h2 h.symm)) fun _ w'' H2=>⟨_,?_,H2⟩;rw[show 0+k.toNat*2+1=k.toNat*2+1 by omega];exact OS.setf O (y:=⟨(Dd acs k).ba,x⟩) (j:=1) (v := .int .i64 x) (fun _=>rfl) (F8 hi) (by decide) U
 .rw[Ac5]at h;exact⟨h.1,h.2.of (by unfold Hv;rfl)⟩
end
theorem Ac7{bd c:Nat}{a:Option Addr}{full:List Value}{acs:List Ac}{k x:Int}(w:World)(hd:AcB bd a acs.length c w)(O:OS a acs.length c 2 full (acs.flatMap CQ))(hb:∀x∈ent a 108 full,w.heap[x.1]?=some x.2)(hac:El acs=0) :
  Ret prog 72 #[ptr bd,.int .i64 k,.int .i64 x] w fun v w'=>v=.int .i64 (Gs acs k x)/\AcsAt w w' a acs.length c full (Fa acs k x):=by
 obtain⟨w0,rfl,H⟩:=qE w;refine Ay (fn:=f72) func72 U [.pointer (some ⟨bd,0,none⟩),.int .i64 k,.int .i64 x] U ?_;refine Ad (Br _ (.pointer _) U U H ?_);rintro b3 w - H;refine Br _ (.int _ _) U U H ?_;rintro b5 w - H;refine Ae U (qA (Ad (AB ID U H at1 U (Af U (Cf [ptr b5] U (Cf [ptr b5] U (Bx (Nu ⟨1,105,[ptr b5],true⟩) Pg J9 ?_)))))));refine Cf [ptr b3,ptr b5] U (Bx (Nu ⟨13,106,[ptr b3,ptr b5],true⟩) Pg J9 ?_);refine D0 ((Xc b3 b5 acs x).flatMap Nu) OZ Ng J9 H ?_;rintro b14 w - H
 refine Al qB (Y7 (H.ext.to hd (by simp)) O (fun y hy=>⟨H.ext.to (hb y hy) (by simp),fun hne=>by have h1:=AY (hb y hy);rw[hne]at h1;have h2:=(H.own _ (qac at1)).elim (fun h=>by cases h) id;dsimp only at h2;omega⟩) hac (H.get at2) (H.get at1) (H.get at0)) U ?_;rintro v w2 ⟨rfl,A⟩;replace A:=A.back H.ext;refine Ae U (qA (A7 (AD (v:=(.int _ _)) U U U ?_)));exact⟨rfl,A⟩
theorem Ac8{bd c:Nat}{a:Option Addr}{full:List Value}{acs:List Ac}{k x:Int}(w:World)(hd:AcB bd a acs.length c w)(O:OS a acs.length c 2 full (acs.flatMap CQ))(hb:∀x∈ent a 108 full,w.heap[x.1]?=some x.2)(hac:El acs=0) :
  Ret prog 73 #[ptr bd,.int .i64 k,.int .i64 x] w fun v w'=>v=.int .i64 (FD acs k x)/\AcsAt w w' a acs.length c full (EM acs k x):=by
 obtain⟨w0,rfl,H⟩:=qE w;refine Ay (fn:=f73) func73 U [.pointer (some ⟨bd,0,none⟩),.int .i64 k,.int .i64 x] U ?_;refine Ad (Br _ (.pointer _) U U H ?_);rintro b3 w - H;refine Br _ (.int _ _) U U H ?_;rintro b4 w - H;refine Br _ (.int _ _) U U H ?_;rintro b5 w - H;refine Ae U (qA (Ad (AB ID U H at2 U (AB Cd U H at1 U (Cf [ptr b5] U (Cf [ptr b5] U (Bx (Nu ⟨1,108,[ptr b5],true⟩) Pg J9 ?_)))))));refine Cf [ptr b5,ptr b3,ptr b4] U (Bx (Nu ⟨12,109,[ptr b5,ptr b3,ptr b4],true⟩) Pg J9 ?_);refine D0 ((Xd b3 b4 b5 acs k x).flatMap Nu) OZ Ng J9 H ?_;rintro b14 w - H
 refine Al qB (Y8 (H.ext.to hd (by simp)) O (fun y hy=>⟨H.ext.to (hb y hy) (by simp),fun hne=>by have h1:=AY (hb y hy);rw[hne]at h1;have h2:=(H.own _ (qac at1)).elim (fun h=>by cases h) id;dsimp only at h2;omega⟩) hac (H.get at3) (H.get at2) (H.get at1) (H.get at0)) U ?_;rintro v w2 ⟨rfl,A⟩;replace A:=A.back H.ext;refine Ae U (qA (A7 (AD (v:=(.int _ _)) U U U ?_)));exact⟨rfl,A⟩
theorem Agd{bd c:Nat}{a:Option Addr}{full:List Value}{acs:List Ac}{k x:Int}(w:World)(hd:AcB bd a acs.length c w)(O:OS a acs.length c 2 full (acs.flatMap CQ))(hb:∀x∈ent a 108 full,w.heap[x.1]?=some x.2)(hac:El acs=0) :
  Ret prog 74 #[ptr bd,.int .i64 k,.int .i64 x] w fun v w'=>v=.int .i64 (Lk acs k x)/\AcsAt w w' a acs.length c full (Hv acs k x):=by
 obtain⟨w0,rfl,H⟩:=qE w;refine Ay (fn:=f74) func74 U [.pointer (some ⟨bd,0,none⟩),.int .i64 k,.int .i64 x] U ?_;refine Ad (Br _ (.int _ _) U U H ?_);rintro b5 w - H;refine Ae U (qA (Ad (Ax U (Af U (Cf [ptr b5] U (Cf [ptr b5] U (Bx (Nu ⟨1,111,[ptr b5],true⟩) Pg J9 ?_)))))));refine D0 ((rsvQ b5 x).flatMap Nu) OZ Ng J9 H ?_;rintro b14 w - H;refine Al qB (Ac6 (H.ext.to hd (by simp)) O (fun y hy=>⟨H.ext.to (hb y hy) (by simp),fun hne=>by have h1:=AY (hb y hy);rw[hne]at h1;have h2:=(H.own _ (qac at1)).elim (fun h=>by cases h) id;dsimp only at h2;omega⟩) hac (H.get at1) (H.get at0)) U ?_;rintro v w2 ⟨rfl,A⟩;replace A:=A.back H.ext;refine Ae U (qA (A7 (AD (v:=(.int _ _)) U U U ?_)));exact⟨rfl,A⟩
def Uz:List Du->Int->Du->List Du
 | [],_,_=>[]
 |d::ds,k,e=>if d.id=k then e::ds else d::Uz ds k e
def VN:List Du->Int->List Du
 | [],_=>[]
 |d::ds,k=>if d.id=k then ds else d::VN ds k
theorem Ac9{ds:List Du}{k:Int}{d e:Du}(h:C6 ds k=some d)(he:e.id=k):Me (dm ds) k (G0 e)=dm (Uz ds k e):=by
 induction ds with
 |nil=>cases h
 |cons y ds ih =>
  unfold C6 at h;rw[qb2]at h
  by_cases c:y.id=k
  .unfold Uz;rw[if_pos c];show(if y.id=k then(k,_)::dm ds else _)=_;rw[if_pos c,<-he];rfl
  .rw[show(y.id == k)=false by simpa using c]at h;unfold Uz;rw[if_neg c];show(if y.id=k then _ else(y.id,G0 y)::Me (dm ds) k _)=_;rw[if_neg c,ih h];rfl
theorem Ada{ds:List Du}{k:Int}{d:Du}(h:C6 ds k=some d):L8 (dm ds) k=dm (VN ds k):=by
 induction ds with
 |nil=>cases h
 |cons y ds ih =>
  unfold C6 at h;rw[qb2]at h
  by_cases c:y.id=k
  .unfold VN;rw[if_pos c];show(if y.id=k then dm ds else _)=_;rw[if_pos c]
  .rw[show(y.id == k)=false by simpa using c]at h;unfold VN;rw[if_neg c];show(if y.id=k then _ else(y.id,G0 y)::L8 (dm ds) k)=_;rw[if_neg c,ih h];rfl
theorem U0{k:Int}{b:Bool}:∀{ds:List Du} {d:Du},(ds.map Du.id).Nodup->C6 ds k=some d->Uz ds k { d with held:=b }=ds.map fun x=>if x.id=k then{ x with held:=b }else x
 |y::ds,d,hn,h=>by
  rw[qav,qec]at hn;unfold C6 at h;rw[qb2]at h
  by_cases c:y.id=k
  .rw[show(y.id == k)=true by simpa using c]at h
   injection h with h
   subst h;unfold Uz;rw[if_pos c,qav,if_pos c]
   congr 1
   refine(List.map_id ds).symm.trans (qbl fun x hx=>?_);rw[if_neg fun hxk=>hn.1 (by rw[c,<-hxk];exact qa5 hx)];rfl
  .rw[show(y.id == k)=false by simpa using c]at h;unfold Uz;rw[if_neg c,qav,if_neg c,U0 hn.2 h]
theorem NF{k:Int}:∀{ds:List Du},(ds.map Du.id).Nodup->VN ds k=ds.filter fun x => !decide (x.id=k)
 | [],_=>rfl
 |y::ds,hn=>by
  rw[qav,qec]at hn;unfold VN
  by_cases c:y.id=k
  .rw[if_pos c,qbr,if_neg (by simpa using c)];refine(List.filter_eq_self.2 fun x hx=>?_).symm;have:¬x.id=k:=fun hxk=>hn.1 (by rw[c,<-hxk];exact qa5 hx)
   simpa using this
  .rw[if_neg c,qbr,if_pos (by simpa using c),NF hn.2]
def trnD(ds:List Du)(k:Int)(c:Int)(e:Du):List Du:=if c≠0 then ds else if e.am=0 then VN ds k else Uz ds k e
theorem U2{bd b:Nat}{nx k code:Int}{o:Obj}{ds:List Du}{d e:Du}{fid:FuncId}{cl:List Value}(w:World)(hd:w.heap[bd]?=some (Bl 132 (DU b nx)))(hb:w.heap[b]?=some o)(hM:CY .u64 (dm ds) o)(hbd:bd≠b)(hf:C6 ds k=some d)(he:e.id=k)(hfc:Au prog fid=true)(hcl:∀(b7:Nat) (w':World),w.heap.size<=b7->Ext [b] w w'->w'.heap[b7]?=some (Bl 118 (CS d))->Ret prog fid (ptr b7::cl).toArray w' fun v w''=>v=.int .i64 code/\Ctx w' [b7] w'' [(b7,Bl 118 (CS e))]) :
  Ret prog 113 #[ptr bd,.int .u64 k,.func (.func fid) #[] cl.toArray] w fun v w'=>v=.int .i64 code/\∃o',CY .u64 (dm (trnD ds k code e)) o'/\Ctx w [b] w' [(b,o')]:=by
 obtain⟨w0,rfl⟩:=qD w;have H:=Ctx.start1 hb;have hmg:Ey (dm ds) k=some (G0 d):=by rw[HY,hf];rfl
 unfold trnD;refine Ay (fn:=f113) func113 U [.pointer (some ⟨bd,0,none⟩),.int .u64 k,.func (.func fid) #[] cl.toArray] U ?_;refine Ad (Ae U (qA (Ao (Ad (Ax U (Cu Ls U ?_))))));refine qA (An _ U ?_ ?_)
 .intro h0;cases h0
 .intro h0;refine Aq (Aa (Ad (Ax U (AE U (Ah DO U (Bc Ft U ((H.old (Aj hd _) (by rw[qab];exact hbd))) ?_))))));refine Af U (Ha U FG Fk LD U U H at0 hM ?_);rw[hmg];rw[Option.getD_some,Option.isSome_some];refine Cb U (AJ U U (AJ U U (AU D4 H ?_)));rintro b7 w - H;refine Bj BO U U U (by exact CW _) H at0 U ?_;rintro w H;refine Ai U (qA (Ao (Ad (Aw U (BE U (qA (An _ U ?_ ?_)))))))
  .intro h1;replace h1:=B7 h1;cases h1
  .intro h1;replace h1:=B9 h1;refine Aq (Aa (Ad (CU (.func _ _ _) U ?_)));have hb7:w0.heap.size<=b7:=(H.own _ (qai ..)).elim (fun h=>by have h8:=H.ne at0 at1 (by decide);exact absurd (qab.1 h) h8) id;refine FI U hfc (hcl b7 _ hb7 H.ext (H.get at0)) U ?_;rintro v w ⟨rfl,H2⟩;replace H:=Ctx.back (L1:=[_]) (L2:=[_]) H H2;refine Ae U (qA (Ao (A1 (Ad (Af U (Cv U U (Ai U (qA (An _ U ?_ ?_)))))))))
   .intro h2;replace h2:=Cy h2;refine Aq (A8 (Aa (Ad (Af U (Ae U (qA (A7 (AD (v:=(.int _ _)) U U U ?_))))))));rw[if_pos h2];exact⟨rfl,o,hM,H.tail⟩
   .intro h2;replace h2:=Cz h2;rw[if_neg (by omega)];refine Ad (Ah Ez U (AB Bw U H at0 U (BP U U (Ai U (qA (An _ U ?_ ?_))))))
    .intro h3;replace h3:=AM h3;refine A0 (Ax U (AE U (Ah DO U (Bc Ft U ((H.old (Aj hd _) (by rw[qab];exact hbd))) ?_))));refine Af U (Nc U FG Fk U U H at1 hM ?_);rintro o2 w hM2 H;refine Ab (A8 (Aa (Ad (Af U (Ae U (qA (A7 (AD (v:=(.int _ _)) U U U ?_))))))));rw[if_pos h3];exact⟨rfl,o2,by rw[<-Ada hf];exact hM2,H.tail⟩
    .intro h3;replace h3:=AN h3;refine FX 6 Bq U U ?_;refine B6 U (Bb U (A5 DO U (BX Ft U (by rintro _ rfl;exact((H.old (Aj hd _) (by rw[qab];exact hbd)))) ?_)));refine AX U (Ox U DT BO U (by rintro _ rfl;exact H.drew) at0 U ?_);refine BT ?_;replace H:=H.drew;refine J2 (G0 e) U FG Fk U U U H at1 hM ?_;rintro o2 w hM2 H;refine Ab (A8 (Aa (Ad (Af U (Ae U (qA (A7 (AD (v:=(.int _ _)) U U U ?_))))))));rw[if_neg h3];exact⟨rfl,o2,by rw[<-Ac9 hf he];exact hM2,H.tail⟩
theorem PH{bd b:Nat}{nx k:Int}{o:Obj}{ds:List Du}{fid:FuncId}{cl:List Value}(w:World)(hd:w.heap[bd]?=some (Bl 132 (DU b nx)))(hb:w.heap[b]?=some o)(hM:CY .u64 (dm ds) o)(hbd:bd≠b)(hf:C6 ds k=none) :
  Ret prog 113 #[ptr bd,.int .u64 k,.func (.func fid) #[] cl.toArray] w fun v w'=>v=.int .i64 11/\∃o',CY .u64 (dm ds) o'/\Ctx w [b] w' [(b,o')]:=by
 obtain⟨w0,rfl⟩:=qD w;have H:=Ctx.start1 hb;have hmg:Ey (dm ds) k=none:=by rw[HY,hf];rfl
 refine Ay (fn:=f113) func113 U [.pointer (some ⟨bd,0,none⟩),.int .u64 k,.func (.func fid) #[] cl.toArray] U ?_;refine Ad (Ae U (qA (Ao (Ad (Ax U (Cu Ls U ?_))))));refine qA (An _ U ?_ ?_)
 .intro h0;cases h0
 .intro h0;refine Aq (Aa (Ad (Ax U (AE U (Ah DO U (Bc Ft U ((H.old (Aj hd _) (by rw[qab];exact hbd))) ?_))))));refine Af U (Ha U FG Fk LD U U H at0 hM ?_);rw[hmg];rw[Option.getD_none,Option.isSome_none];refine Cb U (AJ U U (AJ U U (AU D4 H ?_)));rintro b7 w - H;refine Bj BO U U U (by exact CW d00) H at0 U ?_;rintro w H;refine Ai U (qA (Ao (Ad (Aw U (BE U (qA (An _ U ?_ ?_)))))))
  .intro h1;replace h1:=B7 h1;refine Ad (Ae U (qA (A7 (Av (AD (v:=(.int _ _)) U U U ?_)))));exact⟨rfl,o,hM,H.tail⟩
  .intro h1;replace h1:=B9 h1;cases h1
theorem Alk{P:Program}{ops rest:List Oper}{e:Env}{dst:Option Tmp}{ty:TypeId}{pos:String}{af:Array Edge}{g:Option (Nat × Bool)}{C:World->Prop}{K:Env->Prop}{t t2:TypeId}{x y:Operand}{a b:Bool}(ht:P.underlying t=some .bool)(hg:AS ⟨dst,.binOp .eql t x y t2,ty,pos,af,g⟩ ops e=true)(hx:ev e x=.bool a)(hy:ev e y=.bool b)(h:Wq P ops C K rest (put e dst (.bool (a == b)))):Wq P ops C K (⟨dst,.binOp .eql t x y t2,ty,pos,af,g⟩::rest) e :=
 Ex hg (fun w _=>by
  have hq:eqGuard .eql t x y (.bool a) (.bool b)=pure ():=rfl;have he:∀d w,(Op.equalIn (d+1) t (.bool a) (.bool b)).run P w=.ok (a == b) w:=fun d w=>by simp[Op.equalIn,Bf ht]
  simp only[execOp,hx,hy,hq,Sem.run_bind,Sem.run_pure,Result.andThen_ok,binOp,Op.equal,Op.maxDepth,he 9999]) h
theorem Rn{ds:List Du}{nx:Int}(h:ofC ds nx=0):(ds.map Du.id).Nodup:=(GS h).2.imp fun h=>Int.ne_of_lt h
theorem Adb{b7 bi:Nat}{d:Du}{b:Bool}(w:World)(h7:w.heap[b7]?=some (Bl 118 (CS d)))(hi:w.heap[bi]?=some (Bl 4 [.bool b]))(hne:bi≠b7) :
  Ret prog 139 #[ptr b7,ptr bi] w fun v w'=>v=.int .i64 (if d.held=b then 14 else 0)/\Ctx w [b7] w' [(b7,Bl 118 (CS (if d.held=b then d else{ d with held:=b })))]:=by
 obtain⟨w0,rfl⟩:=qD w;have H:=Ctx.start1 h7;have hn:bi∉[b7]:=by rw[qab];exact hne
 refine Ay (fn:=f139) func139 U [.pointer (some ⟨b7,0,none⟩),.pointer (some ⟨bi,0,none⟩)] U ?_;refine Ad (Ae U (qA (Ao (Dw (fun x=>x=_) Bq U ?_))));refine B6 U (Bb U (A5 Jg U (Cc Kl U (by rintro _ rfl;exact H.drew) at0 U ?_)));refine BX Kl U (by rintro _ rfl;exact((H.old (Aj hi _) hn))) ?_;refine Alk un_4 U U U (BT ?_);rintro _ rfl;replace H:=H.drew;refine An _ U ?_ ?_
 .intro h1;have h1':d.held=b:=by simpa using h1
  refine Ad (Ae U (qA (A7 (Av (AD (v:=(.int _ _)) U U U ?_)))));rw[if_pos h1',if_pos h1'];exact⟨rfl,H⟩
 .intro h1;have h1':¬d.held=b:=by simpa using h1
  refine Aq (Aa (Ad (Ax U (Bc Kl U ((H.old (Aj hi _) hn)) ?_))));refine AE U (Ah Jg U (Ct (.bool _) XI U U U H at0 (by(simp;done)) ?_));rintro w H;refine qA (Ad (Ae U (qA (A7 (AD (v:=(.int _ _)) U U U ?_)))));rw[if_neg h1',if_neg h1'];exact⟨rfl,H⟩
theorem VO{b7:Nat}{d:Du}(w:World)(h7:w.heap[b7]?=some (Bl 118 (CS d))) :
  Ret prog 114 #[ptr b7] w fun v w'=>v=.int .i64 0/\Ctx w [b7] w' [(b7,Bl 118 (CS { d with am:=0 }))]:=by
 obtain⟨w0,rfl⟩:=qD w;have H:=Ctx.start1 h7;refine Ay (fn:=f114) func114 U [.pointer (some ⟨b7,0,none⟩)] U ?_;refine Ad (Ae U (qA (Ad (Ax U (AE U (Ah Ez U (Ct (.int _ _) B2 U U U H at0 (by(simp;done)) ?_)))))));rintro w H;refine qA (Ad (Ae U (qA (A7 (AD (v:=(.int _ _)) U U U ?_)))));exact⟨rfl,H⟩
theorem Xe{bd b:Nat}{nx k:Int}{o:Obj}{ds:List Du}(h:Bool)(w:World)(hd:w.heap[bd]?=some (Bl 132 (DU b nx)))(hb:w.heap[b]?=some o)(hM:CY .u64 (dm ds) o)(hbd:bd≠b)(hof:ofC ds nx=0) :
  Ret prog 112 #[ptr bd,.int .u64 k,.bool h] w fun v w'=>v=.int .i64 (HS ds k h)/\∃o',CY .u64 (dm (FQ ds k h)) o'/\Ctx w [b] w' [(b,o')]:=by
 obtain⟨w0,rfl,H⟩:=qE w;have hbl:=AY hb
 have hT:∀(bi:Nat) (w:World),w0.heap.size<=bi->Ext [] w0 w->w.heap[bi]?=some (Bl 4 [.bool h])->Ret prog 113 #[ptr bd,.int .u64 k,.func (.func 139) #[] [ptr bi].toArray] w fun v w'=>v=.int .i64 (HS ds k h)/\∃o',CY .u64 (dm (FQ ds k h)) o'/\Ctx w [b] w' [(b,o')]:=fun bi w hbi hx hi=>by
  cases hf:C6 ds k with
  |none =>
   have hc:HS ds k h=11:=by unfold HS;rw[hf]
   refine Ret.mono (PH w (hx.to hd (by simp)) (hx.to hb (by simp)) hM hbd hf) fun v w' ⟨h1,o',h2,h3⟩=>⟨by rw[hc];exact h1,o',?_,h3⟩;rw[Ux (by rw[hc];decide)];exact h2
  |some d =>
   have hid:=(GI hf).2;have hm:=DA ((GS hof).1 d (GI hf).1).1;have hc:HS ds k h=if d.held=h then 14 else 0:=by unfold HS;rw[hf]
   refine Ret.mono (U2 (e:=if d.held=h then d else{ d with held:=h }) w (hx.to hd (by simp)) (hx.to hb (by simp)) hM hbd hf (by split <;> exact hid) qB fun b7 w' hb7 hx' h7=>Adb w' h7 (hx'.to hi (by rw[qab];omega)) (by have:=AY hi;omega)) fun v w' ⟨h1,o',h2,h3⟩=>⟨by rw[hc];exact h1,o',?_,h3⟩
   by_cases hh:d.held=h
   .rw[if_pos hh,if_pos hh]at h2;rw[Ux (by rw[hc,if_pos hh];decide)];exact h2
   .rw[if_neg hh,if_neg hh]at h2;unfold trnD at h2;rw[if_neg (by decide),if_neg (by show ¬d.am=0;omega),U0 (Rn hof) hf]at h2;unfold FQ;rw[hc,if_neg hh,if_pos rfl];exact h2
 refine Ay (fn:=f112) func112 U [.pointer (some ⟨bd,0,none⟩),.int .u64 k,.bool h] U ?_;refine Ad (Br _ (.bool _) U U H ?_);rintro b5 w - H;refine Ae U (qA (Ad (Ax U (Af U (Cf [.pointer _] U (Al qB (hT b5 _ ((H.own _ (qai ..)).elim (fun h=>by cases h) id) H.ext (H.get at0)) U ?_))))));rintro v w ⟨rfl,o',hM',H2⟩;refine Ae U (qA (A7 (AD (v:=(.int _ _)) U U U ?_)));have H3:=H.ext.mono (S':=[b]) (by simp);exact⟨rfl,o',hM',⟨H3.trans H2.ext,H2.blk,H2.nd,fun y hy=>by rw[qab.1 hy];exact .inl (qab.2 rfl)⟩⟩
section
variable {bd b:Nat}{nx:Int}{o:Obj}{ds:List Du}
theorem Age{k:Int}(w:World)(hd:w.heap[bd]?=some (Bl 132 (DU b nx)))(hb:w.heap[b]?=some o)(hM:CY .u64 (dm ds) o)(hbd:bd≠b)(hof:ofC ds nx=0) :
  Ret prog 76 #[ptr bd,.int .u64 k] w fun v w'=>v=.int .i64 (HS ds k true)/\∃o',CY .u64 (dm (FQ ds k true)) o'/\Ctx w [b] w' [(b,o')]:=by
 obtain⟨w0,rfl⟩:=qD w;refine Ay (fn:=Tryz.f76) func76 U [.pointer (some ⟨bd,0,none⟩),.int .u64 k] U ?_;refine Ad (Ae U (qA (Ad (Ax U (Af U (Al qB (Xe true _ hd hb hM hbd hof) U ?_))))));rintro v w ⟨rfl,E⟩;refine Ae U (qA (A7 (AD (v:=(.int _ _)) U U U ?_)));exact⟨rfl,E⟩
theorem VP{k:Int}(w:World)(hd:w.heap[bd]?=some (Bl 132 (DU b nx)))(hb:w.heap[b]?=some o)(hM:CY .u64 (dm ds) o)(hbd:bd≠b)(hof:ofC ds nx=0) :
  Ret prog 77 #[ptr bd,.int .u64 k] w fun v w'=>v=.int .i64 (HS ds k false)/\∃o',CY .u64 (dm (FQ ds k false)) o'/\Ctx w [b] w' [(b,o')]:=by
 obtain⟨w0,rfl⟩:=qD w;refine Ay (fn:=f77) func77 U [.pointer (some ⟨bd,0,none⟩),.int .u64 k] U ?_;refine Ad (Ae U (qA (Ad (Ax U (Af U (Al qB (Xe false _ hd hb hM hbd hof) U ?_))))));rintro v w ⟨rfl,E⟩;refine Ae U (qA (A7 (AD (v:=(.int _ _)) U U U ?_)));exact⟨rfl,E⟩
theorem U3{k:Int}(w:World)(hd:w.heap[bd]?=some (Bl 132 (DU b nx)))(hb:w.heap[b]?=some o)(hM:CY .u64 (dm ds) o)(hbd:bd≠b)(hof:ofC ds nx=0) :
  Ret prog 113 #[ptr bd,.int .u64 k,.func (.func 114) #[] #[]] w fun v w'=>v=.int .i64 (NN ds k)/\∃o',CY .u64 (dm (SO ds k)) o'/\Ctx w [b] w' [(b,o')]:=by
 cases hf:C6 ds k with
 |none =>
  have hc:NN ds k=11:=by unfold NN;rw[hf]
  refine Ret.mono (PH (cl:=[]) w hd hb hM hbd hf) fun v w' ⟨h1,o',h2,h3⟩=>⟨by rw[hc];exact h1,o',?_,h3⟩;rw[Acw (by rw[hc];decide)];exact h2
 |some d =>
  have hid:=(GI hf).2;have hc:NN ds k=0:=by unfold NN;rw[hf]
  refine Ret.mono (U2 (cl:=[]) (e:={ d with am:=0 }) w hd hb hM hbd hf hid qB fun b7 w' hb7 hx' h7=>VO w' h7) fun v w' ⟨h1,o',h2,h3⟩=>⟨by rw[hc];exact h1,o',?_,h3⟩;unfold trnD at h2;rw[if_neg (by decide),if_pos rfl,NF (Rn hof)]at h2;exact h2
theorem Y9{k:Int}(w:World)(hd:w.heap[bd]?=some (Bl 132 (DU b nx)))(hb:w.heap[b]?=some o)(hM:CY .u64 (dm ds) o)(hbd:bd≠b)(hof:ofC ds nx=0) :
  Ret prog 78 #[ptr bd,.int .u64 k] w fun v w'=>v=.int .i64 (NN ds k)/\∃o',CY .u64 (dm (SO ds k)) o'/\Ctx w [b] w' [(b,o')]:=by
 obtain⟨w0,rfl⟩:=qD w;refine Ay (fn:=f78) func78 U [.pointer (some ⟨bd,0,none⟩),.int .u64 k] U ?_;refine Ad (Ae U (qA (Ad (Ax U (Af U (Al qB (U3 _ hd hb hM hbd hof) U ?_))))));rintro v w ⟨rfl,E⟩;refine Ae U (qA (A7 (AD (v:=(.int _ _)) U U U ?_)));exact⟨rfl,E⟩
end
def SU(ds:List Du)(u:Int)(i:Nat):List Du:=(ds.take i).filter (fun d=>decide (u<=d.un))++ds.drop i
def Iz(ds:List Du)(u:Int)(i:Nat):List Value:=((ds.take i).filter fun d => !decide (u<=d.un)).map fun d => .int .u64 d.id
theorem Agf{X Y:List Du}{d:Du}(h:∀x∈X,x.id≠d.id):L8 (dm (X++d::Y)) d.id=dm (X++Y):=by
 induction X with
 |nil=>show(if d.id=d.id then dm Y else _)=_;rw[if_pos rfl];rfl
 |cons x X ih =>
  show(if x.id=d.id then _ else(x.id,G0 x)::L8 (dm (X++d::Y)) d.id)=_;rw[if_neg (h x (qai ..)),ih fun y hy=>h y (qah _ hy)];rfl
theorem Adc{ds:List Du}{u nx:Int}{i:Nat}{d:Du}(hof:ofC ds nx=0)(hd:ds[i]?=some d) :
  (u<=d.un->SU ds u (i+1)=SU ds u i/\Iz ds u (i+1)=Iz ds u i)/\(¬u<=d.un->L8 (dm (SU ds u i)) d.id=dm (SU ds u (i+1))/\Iz ds u (i+1)=Iz ds u i++[.int .u64 d.id]):=by
 have hil:=C0 hd;have ht:ds.take (i+1)=ds.take i++[d]:=qbw.trans (by rw[hd];rfl)
 have hdr:ds.drop i=d::ds.drop (i+1):=by
  have h1:=qdd hil;have h2:=qbz hil;rw[hd]at h2
  injection h2 with h2
  rw[h1,h2]
 have hn:∀x∈ds.take i,x.id≠d.id:=fun x hx=>by
  have h1:=(GS hof).2;rw[<-qbp i ds,qay,qbu,hdr]at h1;exact Int.ne_of_lt (h1.2.2 x.id (qa5 hx) d.id (qa5 (qai ..)))
 constructor
 .intro h;unfold SU Iz;rw[ht,qcc,qcc,hdr];constructor
  .rw[qbr,if_pos (by simpa using h),qee,qaz];rfl
  .rw[qbr,if_neg (by simpa using h),qee,qa3]
 .intro h;unfold SU Iz;rw[ht,qcc,qcc,hdr];constructor
  .rw[qbr,if_neg (by simpa using h),qee,qa3];exact Agf fun x hx=>hn x (qbd.1 hx).1
  .rw[qbr,if_pos (by simpa using h),qee,qay];rfl
theorem Add(ds:List Du)(u:Int):(Iz ds u ds.length).length=ds.length - (Nt ds u).length/\SU ds u ds.length=Nt ds u:=by
 unfold Iz SU Nt;rw[qbj,List.drop_length,qa3,qak];refine⟨?_,rfl⟩
 induction ds with
 |nil=>rfl
 |cons d ds ih =>
  have h1:=qdl (fun d=>decide (u<=d.un)) ds;rw[qbr,qbr]
  by_cases h:u<=d.un
  .rw[if_neg (by simpa using h),if_pos (by simpa using h),qa8,qa8,ih];omega
  .rw[if_pos (by simpa using h),if_neg (by simpa using h),qa8,qa8,ih];omega
structure ExS where
 i:Nat
 o:Obj
 a:Option Addr
 c:Nat
 full:List Value
theorem YA{bd b:Nat}{nx u:Int}{o:Obj}{ds:List Du}(w:World)(hd:w.heap[bd]?=some (Bl 132 (DU b nx)))(hb:w.heap[b]?=some o)(hM:CY .u64 (dm ds) o)(hbd:bd≠b)(hof:ofC ds nx=0) :
  Ret prog 79 #[ptr bd,.int .i64 u] w fun v w'=>∃o',CY .u64 (dm (Nt ds u)) o'/\Ctx w [b] w' [(b,o')]/\∃a c,v=.slice a (ds.length - (Nt ds u).length) c:=by
 obtain⟨w0,rfl⟩:=qD w;obtain⟨h64,-,h3,-⟩:=Fb hof;have hbl:=AY hb;refine Ay (fn:=f79) func79 U [.pointer (some ⟨bd,0,none⟩),.int .i64 u] U ?_;refine Ad (A4 U (qA (Ad (A4 U (qA (Ao (Ad (Ax U (Al qB (M6 _ hd hb hM (KD hof)) U ?_)))))))));rintro v w ⟨ds',hS,F⟩;have hde:=MB hS (JL h3).2.1;rw[hde]at F;obtain⟨a3,n3,c3,f3,rfl,O3,hb3⟩:=F.ex;obtain rfl:=O3.numN (fun _ _=>rfl) (by decide);have hx9:=F.ext;refine Ba Dh U (Af U (qA (A1 ?_)));obtain⟨w1,rfl⟩:=qD w;have R:Rd w1 a3 7 CS ds:=OS.rd O3 (fun x hx=>(hb3 x hx).1) (fun _ _=>rfl) (by decide)
 have hnb:ds≠[]->(adr a3).block∉[b]:=fun hne=>by
  have hpos:=qbn.2 hne;obtain⟨q,rfl⟩:=O3.form hpos;have h1:=(hb3 (q,Bl 118 f3) (qab.2 rfl)).2;rw[qab];show ¬q=b;dsimp only at h1;omega
 have H:=Ctx.start1 (hx9.to hb (by simp));have hd1:=hx9.to hd (by simp);have hn:bd∉[b]:=by rw[qab];exact hbd
 refine Bt 2147481760 (α:=ExS) (fun t=>[(5,.slice t.a (Iz ds u t.i).length t.c),(11,.int .i64 (t.i:Int))]) (fun t w'=>t.i<=ds.length/\CY .u64 (dm (SU ds u t.i)) t.o/\OS t.a (Iz ds u t.i).length t.c 1 t.full (Iz ds u t.i)/\Ctx w1 [b] w' ((b,t.o)::ent t.a 23 t.full)) (fun t=>ds.length - t.i) ⟨0,o,none,0,[]⟩ U ?_ ?_ ?_
 .exact⟨rfl,rfl,trivial⟩
 .exact⟨qaj _,hM,OS.nil,H⟩
 .rintro⟨i,o,a,c,full⟩ j w ⟨hi,hM,O,H⟩;dsimp only at hi hM O H;dsimp only;refine Ad (Bm U U (qA (Ao (An _ U ?_ ?_))))
  .intro h1;replace h1:=AM h1;obtain⟨d,hdi⟩:=AA (l:=ds) (i:=i);have hne:ds≠[]:=fun h=>by rw[h]at hdi;cases hdi
   have hdl:(Iz ds u i).length<=ds.length:=by unfold Iz;rw[qak];exact qa0 (qdl ..) (by rw[qbm];omega)
   obtain⟨hs1,hs2⟩:=Adc (u:=u) hof hdi;refine Aq (Aa (Ao (A1 (Ad (Be R Dh BO U U (by rfl) ?_)))));refine BQ _ DT BO U U (((R.ext' H.ext fun _=>hnb hne).row hdi U)) (AU D4 H ?_);rintro b7 w - H;refine Bj BO U U U (by exact CW _) H at0 U ?_;rintro w H;refine qA (Ad (Ah Pa U (AB Bw U H at0 U (Af U (Bm U U (qA (An _ U ?_ ?_)))))))
   .intro h2;replace h2:=AM h2;obtain⟨hs3,hs4⟩:=hs2 (by omega);have hl4:(Iz ds u (i+1)).length=(Iz ds u i).length+1:=by rw[hs4,qat,qb4]
    refine Ad (A2 U (Ah FJ U (AB Bz U H at0 U (Cs _ (.int _ _) Bh Bo Pi U U U U H ?_))));rintro b22 w - H;refine CI (L:=[_,_]) Bh Bh Bo Wm Pi U U U H O U (by simp[AZ]) ?_;rintro a' c' full' w H O;refine A4 U (qA (FX 6 Bq U U ?_));refine B6 U (Bb U (A5 DO U (BX Ft U (by rintro _ rfl;exact((H.drew.old (Aj hd1 _) hn))) ?_)));refine A5 FJ U (Cc Bz U (by rintro _ rfl;exact H.drew) at0 U ?_);refine BT ?_;replace H:=H.drew;refine Nc U FG Fk U U H at1 hM ?_;rintro o2 w hM2 H;refine Ab (A8 (Aa (A0 (Az U U ?_))));refine Af U (qA ?_);rw[hs3]at hM2;exact⟨⟨i+1,o2,a',c',full'⟩,rfl,⟨by dsimp only;rw[hl4];rfl,rfl,trivial⟩,⟨by dsimp only;omega,hM2,by dsimp only;rw[hl4,hs4];exact O,H.tail⟩,by dsimp only;omega⟩
   .intro h2;replace h2:=AN h2;obtain⟨hs3,hs4⟩:=hs1 (by omega);refine Aq (A8 (Aa (A0 (Az U U ?_))));refine Af U (qA ?_);exact⟨⟨i+1,o,a,c,full⟩,rfl,⟨by dsimp only;rw[hs4];rfl,rfl,trivial⟩,⟨by dsimp only;omega,by dsimp only;rw[hs3];exact hM,by dsimp only;rw[hs4];exact O,H.tail⟩,by dsimp only;omega⟩
  .intro h1;replace h1:=AN h1;obtain rfl:i=ds.length:=by omega
   obtain⟨g1,g2⟩:=Add ds u;rw[g2]at hM;refine Bp (Am (Am (AO (Aa (Ad (A2 U (A4 U (qA (A7 (AD (v:=(.slice _ _ _)) U U U ?_))))))))));exact⟨o,hM,⟨(hx9.mono (by simp)).trans H.ext,fun y hy=>H.blk y (qae.2 (.inl (qab.1 hy))),by simp,fun y hy=>by rw[qab.1 hy];exact .inl (qab.2 rfl)⟩,a,c,by rw[g1]⟩
theorem Ade{bd b:Nat}{nx:Int}{o:Obj}{ds:List Du}(fr to x we un:Int)(w:World)(hd:w.heap[bd]?=some (Bl 132 (DU b nx)))(hb:w.heap[b]?=some o)(hM:CY .u64 (dm ds) o)(hbd:bd≠b)(hof:ofC ds nx=0) :
  Ret prog 75 #[ptr bd,.int .i64 fr,.int .i64 to,.int .i64 x,.int .i64 we,.int .i64 un] w fun v w'=>v=.tuple #[.int .u64 (if Jt ds nx fr to x we un=0 then nx else 0),.int .i64 (Jt ds nx fr to x we un)] /\
   ∃o',CY .u64 (dm (Ns ds nx fr to x we un)) o'/\Ctx w [bd,b] w' [(bd,Bl 132 (DU b (PE ds nx fr to x we un))),(b,o')]:=by
 obtain⟨w0,rfl⟩:=qD w
 have H:Ctx w0 [bd,b] w0 [(bd,Bl 132 (DU b nx)),(b,o)]:=⟨Ext.refl _ _,fun y hy=>by
  simp only[qae,qaq,or_false]at hy
  rcases hy with rfl|rfl
  .exact hd
  .exact hb,by simp only[qbf,qab,forall_eq,qaq,false_implies,implies_true,List.Pairwise.nil,and_true];exact hbd,fun y hy=>by
  simp only[qae,qaq,or_false]at hy
  rcases hy with rfl|rfl
  .exact .inl (qai ..)
  .exact .inl (qah _ (qai ..))⟩
 obtain⟨hlen,hnx,-,-⟩:=Fb hof;have hnew:∀x∈ds,x.id≠nx:=fun x hx=>Int.ne_of_lt ((GS hof).1 x hx).2.2;have hdl:(dm ds).length=ds.length:=by unfold dm;rw[qak]
 have hno:Ey (dm ds) nx=none:=QT hnew;obtain⟨d,hdd⟩:=qD (Acs nx fr to x we un);obtain⟨tt,htt⟩:=qD (ER (ds.map Du.am++[x]));have henc:[Value.int .u64 nx,.int .i64 fr,.int .i64 to,.int .i64 x,.int .i64 we,.int .i64 un,.bool false]=CS d:=by rw[hdd];rfl
 have hadd:Jt ds nx fr to x we un=if Es d=false then 1 else if 64<=ds.length\/4611686018427387904<=nx then 6 else if tt.2≠0 then 13 else 0:=by rw[htt,hdd];rfl
 have herr:∀c,c≠0->Jt ds nx fr to x we un=c->Ns ds nx fr to x we un=ds/\PE ds nx fr to x we un=nx:=fun c h0 hc=>CV (by rw[hc];exact h0);refine Ay (fn:=f75) func75 U [.pointer (some ⟨bd,0,none⟩),.int .i64 fr,.int .i64 to,.int .i64 x,.int .i64 we,.int .i64 un] U ?_;refine Ad (Ae U (Ae U (qA (Ao (Ad (Ax U (Cu Ls U ?_)))))));refine qA (An _ U ?_ ?_)
 .intro h0;cases h0
 .intro h0;refine Aq (Aa (Ad (Ax U (AE U (Ah Ko U (AB Bz U H at0 U (Af U (Af U (Af U (Af U ?_))))))))));refine Af U (Bx (CS d) Akh D4 (hl:=by rw[<-henc];kernel_rfl) ?_);refine AU D4 H ?_;rintro b14 w - H;refine Bj BO U U U (by exact CW d) H at0 U ?_;rintro w H;refine qA (Ao (A1 (Ad (Cj DT BO U H at0 U (Al qB (WJ d _) U ?_)))));rintro v w ⟨rfl,hx31⟩;replace H:=H.call hx31;refine BE U (Ai U (qA (An _ U ?_ ?_)))
  .intro h1;replace h1:=B7 h1
   have hm:Es d=false:=by cases hh:Es d with|false=>rfl|true=>rw[hh]at h1;cases h1
   have hc:Jt ds nx fr to x we un=1:=by rw[hadd,if_pos hm]
   obtain⟨hc1,hc2⟩:=herr 1 (by decide) hc;refine Ad (Ae U (Ae U (qA (A7 (AF (Av (BR (v1:=(.int _ _)) (v2:=(.int _ _)) U U U U ?_)))))));rw[hc,hc1,hc2,if_neg (by decide)];exact⟨rfl,o,hM,H.tail⟩
  .intro h1;replace h1:=B9 h1
   have hm:Es d=true:=by cases hh:Es d with|true=>rfl|false=>rw[hh]at h1;cases h1
   rw[hm]at hadd;rw[if_neg (by decide)]at hadd;refine Ao (Ad (Ax U (AE U (Ah DO U (AB Ft U H at1 U (Af2 U FG U (H.get at2) hM ?_))))));rw[hdl];refine CG U U (Ai U (qA (Db 33 U ?_ ?_)))
   .intro h2;replace h2:=AM h2;have hc:Jt ds nx fr to x we un=6:=by rw[hadd,if_pos (.inl (by omega))]
    obtain⟨hc1,hc2⟩:=herr 6 (by decide) hc;refine Aq (Aa (DH U (Ad (Ae U (Ae U (qA (A7 (AF (Av (BR (v1:=(.int _ _)) (v2:=(.int _ _)) U U U U ?_))))))))));rw[hc,hc1,hc2,if_neg (by decide)];exact⟨rfl,o,hM,H.tail⟩
   .intro h2;replace h2:=AN h2;refine A0 (Ax U (AE U (Ah Ko U (AB Bz U H at1 U (CG U U (Ai U (qA (Db 33 U ?_ ?_))))))))
    .intro h3;replace h3:=AM h3;have hc:Jt ds nx fr to x we un=6:=by rw[hadd,if_pos (.inr (by omega))]
     obtain⟨hc1,hc2⟩:=herr 6 (by decide) hc;refine Ad (Ae U (Ae U (qA (A7 (AF (Av (BR (v1:=(.int _ _)) (v2:=(.int _ _)) U U U U ?_)))))));rw[hc,hc1,hc2,if_neg (by decide)];exact⟨rfl,o,hM,H.tail⟩
    .intro h3;replace h3:=AN h3;rw[if_neg (by omega)]at hadd;refine Aq (A8 (Aa (Ao (Ad (Ax U (Al qB (P5 _ (H.get at1) (H.get at2) hM) U ?_))))));rintro v w ⟨l,hlp,F⟩;obtain⟨a3,n3,c3,f3,rfl,O3,hb3⟩:=F.ex;have hl3:=O3.llen;rw[qak]at hl3;have hlq:=hlp.length_eq;rw[qak]at hlq;replace H:Ctx w0 [bd,b] w ([(b14,Bl 118 (CS d)),(bd,Bl 132 (DU b nx)),(b,o)]++ent a3 2 f3):=H.callEnt F.ext hb3 FY;refine Af U (Cs _ (.int _ _) AV B2 E5 U U U U H ?_);rintro b49 w - H;refine CI (L:=[_,_,_]) AV AV B2 LB E5 U U U H O3 U (by simp[AZ]) ?_;rintro a' c' full' w H O;refine Al qB (Le a' (n3+1) c' (l++[x]) _ (OS.rd1 (f:=Dj) (t:=2) (xs:=l++[x]) (by rw[qay];exact O) (fun y hy=>H.blk y (qal [_,_,_] hy))) (by rw[qat];show l.length+1=_;omega)) U ?_
     rintro v w ⟨rfl,rfl⟩;rw[QS (hlp.append_right [x])];rw[<-htt];refine Cb U (AJ U U (AJ U U (Ae U (Ae U (qA (Ad (Af U (Cv U U (qA ?_)))))))));refine An _ U ?_ ?_
     .intro h4;replace h4:=Cy h4
      have ht13:tt.2=13:=by
       rw[htt]at h4 |-;have hxm:=CN.2 (show 0<=x/\x<=4503599627370496 by obtain⟨-,-,-,hxa,-⟩:=DA hm;rw[hdd]at hxa;change 1<=x/\x<=_ at hxa;exact⟨by omega,hxa.2⟩)
       have hall:(ds.map Du.am++[x]).all Dc=true:=by
        rw[List.all_append,qaf];refine⟨qau.2 fun y hy=>?_,by simpa using hxm⟩;exact(Dr.1 (F7.1 hof).2.2.2).1 y hy
       unfold ER at h4 |-;rw[if_neg (by rw[hall];decide)]at h4 |-
       split at h4
       .exact absurd U h4
       .rename_i hh;rw[if_neg hh]
      have hc:Jt ds nx fr to x we un=13:=by rw[hadd,if_pos (by rw[ht13];decide)]
      obtain⟨hc1,hc2⟩:=herr 13 (by decide) hc;refine Ad (Af U (Ae U (Ae U (qA (A7 (Av (BR (v1:=(.int _ _)) (v2:=(.int _ _)) U U U U ?_)))))));rw[hc,hc1,hc2,if_neg (by decide),ht13];exact⟨rfl,o,hM,H.left.tail⟩
     .intro h4;replace h4:=Cz h4;have hc:Jt ds nx fr to x we un=0:=by rw[hadd,if_neg (by omega)]
      replace H:=H.left;refine Aq (Aa (Ec 7 Bq U U ?_));refine B6 U (Bb U (A5 DO U (Cc Ft U (by rintro _ rfl;exact H.drew) at1 U ?_)));refine A5 FJ U (Cc Bz U (by rintro _ rfl;exact H.drew) at0 U ?_);refine Ox U DT BO U (by rintro _ rfl;exact H.drew) at0 U ?_;refine BT ?_;replace H:=H.drew;refine J2 (G0 d) U FG Fk U U U H at2 hM ?_;rintro o2 w hM2 H;refine qA (Ad (Ax U (AE U (Ah Ko U (AB Bz U H at1 U (Ee U U ?_))))));refine AE U (Ah Ko U (Ct (.int _ _) Bo U U U H at1 (by(simp;done)) ?_));rintro w H;refine qA (Ad (Ah FJ U (AB Bz U H at0 U (Ae U (Ae U (qA (A7 (BR (v1:=(.int _ _)) (v2:=(.int _ _)) U U U U ?_))))))));have hid:d.id=nx:=by rw[hdd];rfl
      rw[<-hid]at hno;rw[Ab9 hno]at hM2;unfold Ns PE;rw[hc,if_pos rfl,if_pos rfl,if_pos rfl];rw[hdd]at hM2 |-;exact⟨rfl,o2,hM2,H.tail⟩
def newA(kd:Int)(a:Ac)(x:Int):Ac:=if kd=2 then⟨a.ba+x,a.re⟩else if kd=3 then⟨a.ba - x,a.re⟩else⟨a.ba,x⟩
def Fm(kd:Int)(acs:List Ac)(k x:Int):Int:=if kd=2 then Gs acs k x else if kd=3 then FD acs k x else Lk acs k x
def FR(kd:Int)(acs:List Ac)(k x:Int):List Ac:=if kd=2 then Fa acs k x else if kd=3 then EM acs k x else Hv acs k x
theorem Fz(kd:Int)(acs:List Ac)(k x:Int):FR kd acs k x=if Fm kd acs k x=0 then Hu acs k (newA kd (Dd acs k) x)else acs:=by
 unfold FR Fm newA
 by_cases h2:kd=2
 .rw[if_pos h2,if_pos h2,if_pos h2];rfl
 .rw[if_neg h2,if_neg h2,if_neg h2]
  by_cases h3:kd=3
  .rw[if_pos h3,if_pos h3,if_pos h3];rfl
  .rw[if_neg h3,if_neg h3,if_neg h3];rfl
def Adf(kd:Int)(is:Bool)(a:Ac)(x:Int):Int :=
 if is=false then 10
 else if kd=2 then(if(decide (0<x) && Dc x)=false then 1 else 0)
 else if kd=3 then(if(decide (0<x) && Dc x)=false then 1 else if a.ba<x then 12 else 0)
 else if Dc x=false then 1 else 0
theorem Jv{kd:Int}{acs:List Ac}{k x:Int}(h:Fm kd acs k x≠13):Fm kd acs k x=Adf kd (inA acs k) (Dd acs k) x:=by
 unfold Fm at h |-;unfold Adf
 by_cases h2:kd=2
 .rw[if_pos h2]at h |-;unfold Gs at h |-
  split
  .rfl
  .rename_i h3
   rw[if_neg h3]at h
   split
   .rfl
   .rename_i h4
    rw[if_neg h4]at h
    split
    .rename_i h5
     rw[if_pos h5]at h;exact absurd U h
    .rfl
 .rw[if_neg h2]
  by_cases h3:kd=3
  .rw[if_pos h3];unfold FD
   split
   .rfl
   .rfl
  .rw[if_neg h3];unfold Lk
   split
   .rfl
   .rfl
theorem Xf(acs:List Ac)(k:Int)(a:Ac)(j:Int):inA (Hu acs k a) j=inA acs j:=by
 unfold inA;rw[KH]
theorem Adg{acs:List Ac}{k j:Int}{a:Ac}(hk:inA acs k=true)(h:j≠k):Dd (Hu acs k a) j=Dd acs j:=by
 unfold Dd;rw[Xf]
 split
 .rename_i hj
  have h1:=E6.1 hk;have h2:=E6.1 hj;unfold Hu;rw[qbk,qbo (by omega),<-qbk]
 .rfl
theorem set_comm{acs:List Ac}{k j:Int}{a b:Ac}(hk:inA acs k=true)(hj:inA acs j=true)(h:j≠k):Hu (Hu acs k a) j b=Hu (Hu acs j b) k a:=by
 have h1:=E6.1 hk;have h2:=E6.1 hj;unfold Hu;rw[List.set_comm _ _ (by omega)]
theorem SV{kd:Int}{acs:List Ac}{k x:Int}(h:Fm kd acs k x=0):inA acs k=true:=by
 have h1:Fm kd acs k x≠13:=by rw[h];decide
 rw[Jv h1]at h;unfold Adf at h
 cases hi:inA acs k with
 |true=>rfl
 |false=>rw[if_pos hi]at h;cases h
theorem GL{kd:Int}{acs:List Ac}{k j x:Int}(hkj:j≠k):inA (FR kd acs k x) j=inA acs j/\Dd (FR kd acs k x) j=Dd acs j:=by
 rw[Fz]
 split
 .rename_i h
  exact⟨Xf ..,Adg (SV h) hkj⟩
 .exact⟨rfl,rfl⟩
theorem YB{kd kd2:Int}{acs:List Ac}{k j x y:Int}(hkj:j≠k)(h1:Fm kd acs k x≠13)(h2:Fm kd2 (FR kd acs k x) j y≠13)(h3:Fm kd2 acs j y≠13)(h4:Fm kd (FR kd2 acs j y) k x≠13) :
  Fm kd2 (FR kd acs k x) j y=Fm kd2 acs j y/\Fm kd (FR kd2 acs j y) k x=Fm kd acs k x/\FR kd2 (FR kd acs k x) j y=FR kd (FR kd2 acs j y) k x:=by
 obtain⟨e1,e2⟩:=GL (kd:=kd) (acs:=acs) (x:=x) hkj;obtain⟨e3,e4⟩:=GL (kd:=kd2) (acs:=acs) (x:=y) (Ne.symm hkj);have c1:Fm kd2 (FR kd acs k x) j y=Fm kd2 acs j y:=by rw[Jv h2,Jv h3,e1,e2]
 have c2:Fm kd (FR kd2 acs j y) k x=Fm kd acs k x:=by rw[Jv h4,Jv h1,e3,e4]
 refine⟨c1,c2,?_⟩;rw[Fz kd2 (FR kd acs k x),Fz kd (FR kd2 acs j y),c1,c2,e2,e4]
 by_cases z1:Fm kd acs k x=0
 .by_cases z2:Fm kd2 acs j y=0
  .rw[if_pos z1,if_pos z2,Fz kd acs,Fz kd2 acs,if_pos z1,if_pos z2];exact set_comm (SV z1) (SV z2) hkj
  .rw[if_pos z1,if_neg z2,Fz kd acs,Fz kd2 acs,if_pos z1,if_neg z2]
 .by_cases z2:Fm kd2 acs j y=0
  .rw[if_neg z1,if_pos z2,Fz kd acs,Fz kd2 acs,if_neg z1,if_pos z2]
  .rw[if_neg z1,if_neg z2,Fz kd acs,Fz kd2 acs,if_neg z1,if_neg z2]
theorem U4{f:Du->Du}(hf:∀d,(f d).id=d.id)(k:Int):∀ds:List Du,C6 (ds.map f) k=(C6 ds k).map f
 | []=>rfl
 |d::ds=>by
  unfold C6;rw[qav,qb2,qb2,hf]
  split
  .rfl
  .exact U4 hf k ds
theorem YC{ds:List Du}{k j:Int}{b:Bool}(h:j≠k):C6 (FQ ds k b) j=C6 ds j:=by
 unfold FQ
 split
 .rw[U4 fun d=>by split <;> rfl]
  cases hf:C6 ds j with
  |none=>rfl
  |some d =>
   show some (if d.id=k then _ else d)=some d;rw[if_neg (by rw[(GI hf).2];exact h)]
 .rfl
theorem JQ{ds:List Du}{k j:Int}{b c:Bool}(h:j≠k):HS (FQ ds k b) j c=HS ds j c:=by
 unfold HS;rw[YC h]
theorem YD{ds:List Du}{k j:Int}{b c:Bool}(h:j≠k):FQ (FQ ds k b) j c=FQ (FQ ds j c) k b:=by
 have e1:=JQ (ds:=ds) (b:=b) (c:=c) h;have e2:=JQ (ds:=ds) (b:=c) (c:=b) (Ne.symm h);have u:∀(l:List Du) (i:Int) (v:Bool),FQ l i v=if HS l i v=0 then l.map (fun d=>if d.id=i then{ d with held:=v }else d)else l:=fun _ _ _=>rfl;rw[u (FQ ds k b),u (FQ ds j c),e1,e2]
 by_cases z1:HS ds k b=0
 .by_cases z2:HS ds j c=0
  .rw[if_pos z1,if_pos z2,u ds k,u ds j,if_pos z1,if_pos z2,qbx,qbx];refine qbl fun d _=>?_;simp only[Function.comp_apply]
   by_cases d1:d.id=k
   .have d2:¬d.id=j:=fun hj=>h (by rw[<-hj,d1]);simp only[if_pos d1,if_neg d2]
   .by_cases d2:d.id=j
    .simp only[if_pos d2,if_neg d1]
    .simp only[if_neg d2,if_neg d1]
  .rw[if_pos z1,if_neg z2,u ds k,u ds j,if_pos z1,if_neg z2]
 .by_cases z2:HS ds j c=0
  .rw[if_neg z1,if_pos z2,u ds k,u ds j,if_neg z1,if_pos z2]
  .rw[if_neg z1,if_neg z2,u ds k,u ds j,if_neg z1,if_neg z2]
def Ro(N M:Int)(xs ys:List Ed):Bool:=decide (N=M) && decide (xs=ys)
theorem VQ(N M:Int)(a b:Option Addr)(n c m d:Nat)(xs ys:List Ed)(w:World)(R:Rd w a 4 CJ xs)(hn:xs.length=n)(hn2:n<=1000000)(Ry:Rd w b 4 CJ ys)(hm:ys.length=m)(hm2:m<=1000000) :
  Ret prog 125 #[DV N a n c,DV M b m d] w fun v w'=>v=.bool (Ro N M xs ys)/\Ext [] w w':=by
 subst hn hm;obtain⟨w0,rfl,H⟩:=qE w;refine Ay (fn:=f125) func125 U [DV N a xs.length c,DV M b ys.length d] U (Ad (Br [.int .i64 N,.slice a xs.length c] (.agg _) U U H ?_));rintro b2 w - H;refine Br [.int .i64 M,.slice b ys.length d] (.agg _) U U H ?_;rintro b3 w - H;refine Ai U (qA (Ao (Ad (BV (α:=Unit) 1048512 (fun _=>[(19,.bool (!(decide (N=M) && decide (xs.length=ys.length))))]) (fun _ w'=>Ctx w0 [] w' [(b3,Bl 123 [.int .i64 M,.slice b ys.length d]),(b2,Bl 123 [.int .i64 N,.slice a xs.length c])]) U ?_ ?_))))
 .refine Ah Eg U (AB Cd U H at1 U (Ah Eg U (AB Cd U H at0 U (Cv U U (Aw U (AK 11 U ?_ ?_))))))
  .intro h1;replace h1:=Cy h1;refine Ag U (Ag U (Ag U (Ag U (Ag U (Ag U (Ag U (A6 U (.bool _) U (Ab ?_))))))));exact⟨rfl,(),rfl,⟨qaa Value.bool (by rw[qad];simp_all;try omega),trivial⟩,H⟩
  .intro h2;replace h2:=Cz h2;refine Ah CE U (AB D7 U H at1 U (Ba C8 U (Ah CE U (AB D7 U H at0 U (Ba C8 U (Cv U U (A9 U (.bool _) U (Ab ?_))))))));exact⟨rfl,(),rfl,⟨qaa Value.bool (by rw[qad];simp_all;try omega),trivial⟩,H⟩
 rintro - j19 w H;refine An _ U ?_ ?_
 .intro h1;replace h1:=B7 h1;refine Ad (Ai U (qA (A7 (Av (AD (v:=(.bool _)) U U U ?_)))));have h1':¬(N=M/\xs.length=ys.length):=by simpa using h1
  refine⟨qaa Value.bool ?_,H.ext⟩;unfold Ro
  by_cases h2:N=M
  .rw[qar h2,qbb (fun h=>h1' ⟨h2,by rw[h]⟩)];rfl
  .rw[qbb h2];rfl
 .intro h1;replace h1:=B9 h1;have h1':N=M/\xs.length=ys.length:=by simpa using h1
  have hsb:Ro N M xs ys=decide (xs=ys):=by unfold Ro;rw[qar h1'.1];rfl
  have hle:=h1'.2;rw[hsb];refine Aq (Aa (Ao (Ad (Ae U (qA (A1 (Bt 274876858416 (α:=Nat) (fun i=>[(5,.int .i64 (i:Int))]) (fun i w'=>i<=xs.length/\Ctx w0 [] w' [(b3,Bl 123 [.int .i64 M,.slice b ys.length d]),(b2,Bl 123 [.int .i64 N,.slice a xs.length c])]/\∀(k:Nat) (x y:Ed),k<i->xs[k]?=some x->ys[k]?=some y->x=y) (fun i=>xs.length - i) 0 U ?_ ?_ ?_)))))))
  .exact⟨rfl,trivial⟩
  .exact⟨qaj _,H,fun k x y h=>absurd h (qa7 _)⟩
  .clear H;rintro i j w ⟨hi,H,hb⟩;refine Ao (Ad (Af U (Ah CE U (AB D7 U H at1 U (Ba C8 U (Bm U U (qA (An _ U ?_ ?_))))))))
   .intro h2;replace h2:=AM h2;obtain⟨x,hx⟩:=AA (l:=xs) (i:=i);obtain⟨y,hy⟩:=AA (l:=ys) (i:=i);refine Aq (Aa (Ao (A1 (Dw (fun x=>x=_) Bq U ?_))));refine A5 CE U (Cc D7 U (by rintro _ rfl;exact H.drew) at1 U ?_);refine AX U (BH R C8 C9 U U (by rfl) ?_);refine G4 _ GD C9 U U (by rintro _ rfl;exact((R.ext0 H.drew.ext).row hx rfl)) ?_;refine A5 CE U (Cc D7 U (by rintro _ rfl;exact H.drew) at0 U ?_);refine AX U (BH Ry C8 C9 U U (by rfl) ?_);refine G4 _ GD C9 U U (by rintro _ rfl;exact((Ry.ext0 H.drew.ext).row hy rfl)) ?_;refine Wk (ks:=[true,true,true,true]) (xs:=CJ x) (ys:=CJ y) (decide (x=y)) U U U ⟨rfl,rfl,rfl,rfl,trivial⟩ (Ub x y) ?_;refine BT ?_;rintro _ rfl;replace H:=H.drew;refine An _ U ?_ ?_
    .intro h3;refine Ad (Ai U (qA (A7 (AF (Av (Av (AF (Av (AD (v:=(.bool _)) U U U ?_)))))))));have hne:¬x=y:=by simpa using h3
     exact⟨qaa Value.bool (qbb fun h=>by subst h;rw[hx]at hy;injection hy with hy;exact hne hy).symm,H.ext⟩
    .intro h3;refine Aq (A8 (Aa (A0 (Af U (Az U U ?_)))));refine Ae U (qA ?_);have heq:x=y:=by simpa using h3
     refine⟨i+1,rfl,⟨rfl,trivial⟩,⟨by omega,H,fun k x' y' hk hx' hy'=>?_⟩,by omega⟩
     rcases qap k i with h7|h7
     .exact hb k x' y' h7 hx' hy'
     .obtain rfl:k=i:=by omega
      rw[hx]at hx';rw[hy]at hy';cases hx';cases hy';exact heq
   .intro h2;replace h2:=AN h2;refine Bp (Am (Am (AO (Aa (Ad (Ai U (qA (A7 (AD (v:=(.bool _)) U U U ?_)))))))));have hin:i=xs.length:=by omega
    rw[hin]at hb;exact⟨qaa Value.bool (qar (M8 hle hb)).symm,H.ext⟩
def RdAt(w:World)(br:Nat)(ds:List Du):Prop:=∃a c nx,w.heap[br]?=some (Bl 0 [.slice a ds.length c,.int .u64 nx])/\Rd w a 7 CS ds
theorem RdAt.ext0{w w':World}{br:Nat}{ds:List Du}(h:RdAt w br ds)(he:Ext [] w w'):RdAt w' br ds:=by
 obtain⟨a,c,nx,h1,h2⟩:=h;exact⟨a,c,nx,he.to h1 (by simp),h2.ext0 he⟩
abbrev RDU(ad:Option Addr)(m cd:Nat)(nx:Int):Obj:=Bl 0 [.slice ad m cd,.int .u64 nx]
abbrev RX(ba:Nat)(a:Option Addr)(n c:Nat)(full:List Value)(br:Nat)(ad:Option Addr)(m cd:Nat)(nx:Int)(fd:List Value):List (Nat × Obj):=(ba,Bl 0 [.slice a n c])::(br,RDU ad m cd nx)::(ent ad 118 fd++ent a 108 full)
structure RP7 where
 i:Nat
 ad:Option Addr
 cd:Nat
 fd:List Value
structure Four where
 bx:Nat
 a:Option Addr
 c:Nat
 full:List Value
 bd:Nat
 b:Nat
 o:Obj
 ba:Nat
 ra:Option Addr
 rc:Nat
 rfull:List Value
 br:Nat
 ad:Option Addr
 cd:Nat
 fd:List Value
def Four.L(z:Four)(acs:List Ac)(ds:List Du)(nx:Int):List (Nat × Obj):=LX z.bx z.a acs.length z.c z.full z.bd z.b nx z.o++RX z.ba z.ra acs.length z.rc z.rfull z.br z.ad ds.length z.cd nx z.fd
structure Four.Ok(z:Four)(acs:List Ac)(ds:List Du):Prop where
 O:OS z.a acs.length z.c 2 z.full (acs.flatMap CQ)
 M:CY .u64 (dm ds) z.o
 RO:OS z.ra acs.length z.rc 2 z.rfull (acs.flatMap CQ)
 RD:OS z.ad ds.length z.cd 7 z.fd (ds.flatMap CS)
def Ahv(acs:List Ac)(ds:List Du)(nx:Int):Bool:=decide (El acs=0) && decide (ofC ds nx=0)
def BothRes(w:World)(acs:List Ac)(ds:List Du)(nx:Int)(v:Value)(w':World):Prop :=
 (Ahv acs ds nx=false/\v=.tuple #[.pointer none,.pointer none,.pointer none,.pointer none,.bool false]/\Ext [] w w') \/
  (Ahv acs ds nx=true/\∃z:Four,v=.tuple #[ptr z.bx,ptr z.bd,ptr z.ba,ptr z.br,.bool true]/\z.Ok acs ds/\Ctx w [] w' (z.L acs ds nx))
theorem VR{α:Type}(B L R:List α):(B++(L++R)).Perm (L++(B++R)):=by
 classical exact List.perm_iff_count.2 fun x=>by simp only[List.count_append];omega
theorem Ctx.mid{w0 w w':World}{S:List Nat}{B L L' R:List (Nat × Obj)}(H:Ctx w0 S w (B++(L++R)))(H':Ctx w (L.map (·.1)) w' L'):Ctx w0 S w' (B++(L'++R)) :=
 (Ctx.back (H.perm (VR B L R)) H').perm (VR B L' R).symm
theorem Ctx.in'{w0 w:World}{S:List Nat}{B L R:List (Nat × Obj)}(H:Ctx w0 S w (B++(L++R))):Ctx w (L.map (·.1)) w L:=Ctx.lend (H.perm (VR B L R))
theorem LX.ac{bx:Nat}{a:Option Addr}{c:Nat}{full:List Value}{bd b:Nat}{nx:Int}{o:Obj}{acs:List Ac}{w0 w:World}{S:List Nat}(H:Ctx w0 S w (LX bx a acs.length c full bd b nx o))(O:OS a acs.length c 2 full (acs.flatMap CQ)):AcAt w 129 bx acs :=
 ⟨a,c,H.get at0,OS.rd O (fun x hx=>H.blk x (qah _ (qah _ (qah _ hx)))) (fun _ _=>rfl) (by decide)⟩
theorem LX.du{bx:Nat}{a:Option Addr}{n c:Nat}{full:List Value}{bd b:Nat}{nx:Int}{o:Obj}{ds:List Du}{w0 w:World}{S:List Nat}(H:Ctx w0 S w (LX bx a n c full bd b nx o))(hM:CY .u64 (dm ds) o):DuAt w bd ds :=
 ⟨b,nx,o,H.get at1,H.get at2,hM⟩
theorem RX.ac{ba:Nat}{a:Option Addr}{c:Nat}{full:List Value}{br:Nat}{ad:Option Addr}{m cd:Nat}{nx:Int}{fd:List Value}{acs:List Ac}{w0 w:World}{S:List Nat}(H:Ctx w0 S w (RX ba a acs.length c full br ad m cd nx fd))(O:OS a acs.length c 2 full (acs.flatMap CQ)):AcAt w 0 ba acs :=
 ⟨a,c,H.get at0,OS.rd O (fun x hx=>H.blk x (qah _ (qah _ (qal _ hx)))) (fun _ _=>rfl) (by decide)⟩
theorem RX.du{ba:Nat}{a:Option Addr}{n c:Nat}{full:List Value}{br:Nat}{ad:Option Addr}{cd:Nat}{nx:Int}{fd:List Value}{ds:List Du}{w0 w:World}{S:List Nat}(H:Ctx w0 S w (RX ba a n c full br ad ds.length cd nx fd))(O:OS ad ds.length cd 7 fd (ds.flatMap CS)):RdAt w br ds :=
 ⟨ad,cd,nx,H.get at1,OS.rd O (fun x hx=>H.blk x (qah _ (qah _ (qao _ hx)))) (fun _ _=>rfl) (by decide)⟩
theorem ROff.old{w0 w:World}{S:List Nat}{L:List (Nat × Obj)}{q:RSl}{r:Rnd}(H:Ctx w0 S w L)(h:ROff q r (fun x=>x<w.heap.size)):ROff q r (·∈L.map (·.1)) :=
 h.mono fun x hx=>by
  obtain⟨y,hy,rfl⟩:=qag.1 hx;exact AY (H.blk y hy)
structure RBnd(r:Rnd):Prop where
 N:I64 r.N
 es:r.es.length<=1000000
 ids:r.ids.length<=1000000
 fl:r.fl.length<=1000000
 pot:r.pot.length<=1000000
theorem Adh{acs:List Ac}{ds:List Du}{net:Bool}{r:Rnd}(P:PlanR acs ds net r):RBnd r:=by
 obtain⟨h1,h2,-⟩:=Gq.1 P.chk;obtain⟨g1,g2,g3,-⟩:=CM (Cx (EX h1).1).2.1;have g4:=(Cx (EX h1).1).1;have g5:=(LI h2).1;refine⟨⟨by omega,by omega⟩,by omega,?_,by omega,by omega⟩;rw[P.ids,qak];have:(opn ds).length<=r.es.length:=by rw[P.es,HQ];omega
 omega
theorem YE{bx bd b c:Nat}{a:Option Addr}{full:List Value}{o:Obj}{acs:List Ac}{ds:List Du}{nx:Int}{r:Rnd}{q:RSl}{w w0:World}{S:List Nat}{B R:List (Nat × Obj)}(ha:El acs=0)(hd:ofC ds nx=0)(H:Ctx w0 S w (B++(LX bx a acs.length c full bd b nx o++R)))(O:OS a acs.length c 2 full (acs.flatMap CQ))(hM:CY .u64 (dm ds) o)(RA:RAt w r q)(hoff:ROff q r (·∈(LX bx a acs.length c full bd b nx o).map (·.1)))(hr:RBnd r) :
  Ret prog 81 #[ptr bx,ptr bd,.agg (B0 r q).toArray] w fun v w'=>v=.int .i64 (ES acs ds r)/\∃full' o',OS a acs.length c 2 full' ((Gb acs ds r).flatMap CQ)/\CY .u64 (dm (GJ acs ds r)) o' /\
   Ext ((LX bx a acs.length c full bd b nx o).map (·.1)) w w'/\Ctx w0 S w' (B++(LX bx a acs.length c full' bd b nx o'++R)):=by
 refine Ret.mono (Aco ha hd w (Ctx.in' H) O hM RA hoff hr.N hr.es hr.ids hr.fl hr.pot) fun v w' h=>?_;obtain⟨h1,full',o',O',hM',H'⟩:=h;exact⟨h1,full',o',O',hM',H'.ext,Ctx.mid H H'⟩
theorem Xg{a:Option Addr}{t:TypeId}{f g:List Value}:(ent a t f).map (·.1)=(ent a t g).map (·.1):=by cases a <;> rfl
abbrev xA0:List Ac:=[⟨5,0⟩,⟨0,0⟩]
abbrev xA1:List Ac:=[⟨0,0⟩,⟨5,0⟩]
abbrev xD0:List Du:=[⟨1,0,1,9,1,1,false⟩]
abbrev xD1:List Du:=[⟨1,0,1,4,1,1,false⟩]
abbrev xE0:List Ed:=[⟨0,1,9,-1⟩,⟨2,0,5,0⟩,⟨0,2,4503599627370496,0⟩,⟨2,1,0,0⟩,⟨1,2,4503599627370496,0⟩]
theorem Rr{l:List Int}(h:0<l.length:=by omega):l.take 1=[flE l 0]:=by
 cases l with
 |nil=>exact absurd h (by decide)
 |cons x l=>rfl
structure Lm where
 bl:Nat
 ba:Nat
 bd:Nat
 br:Nat
 b:Nat
 a:Option Addr
 c:Nat
 full:List Value
 o:Obj
 arch:List Value
abbrev LL(m:Lm)(s:Ld):List (Nat × Obj):=(m.bl,Bl 73 [ptr m.ba,ptr m.bd,ptr m.br,.int .i64 s.day])::(m.br,Bl 135 m.arch)::LX m.ba m.a s.acs.length m.c m.full m.bd m.b s.nx m.o
abbrev CT(m:Lm)(s:Ld):List Nat:=(LL m s).map fun x=>x.1
def KIn(w:World)(arch:List Value)(r:Rnd)(T:Nat->Prop):Prop :=
 ∃q,(∀j v,(B0 r q)[j]?=some v->arch[(r.no % 4).toNat*8+j]?=some v)/\RAt w r q/\ROff q r T
structure LdIn(w:World)(m:Lm)(s:Ld)(T:Nat->Prop):Prop where
 O:OS m.a s.acs.length m.c 2 m.full (s.acs.flatMap CQ)
 M:CY .u64 (dm s.ds) m.o
 ok:s.Ok
 len:m.arch.length=34
 n:m.arch[32]?=some (.int .u64 s.rn.length)
 no:m.arch[33]?=some (.int .u64 s.no)
 kept:∀r∈s.rn,KIn w m.arch r T
 own:∀x∈CT m s,T x
 low:∀x,T x->x<w.heap.size
abbrev BA(k:Ak):List Value:=[.int .u8 k.kd,.int .i64 k.a,.int .i64 k.b,.int .i64 k.x,.int .i64 k.w,.int .i64 k.u,.int .u64 k.id]
theorem Ctx.acs7{w0 w w':World}{S:List Nat}{P:List (Nat × Obj)}{a:Option Addr}{t:TypeId}{full full':List Value}(H:Ctx w0 S w (P++ent a t full))(he:Ext ((ent a t full).map fun x=>x.1) w w')(hb:∀x∈ent a t full',w'.heap[x.1]?=some x.2):Ctx w0 S w' (P++ent a t full'):=by
 have h1:Ctx w ((ent a t full).map fun x=>x.1) w' (ent a t full'):=⟨he,hb,FY,fun x hx => .inl (by
  rw[Xg (f:=full) (g:=full')]
  exact qa5 (f:=fun x:Nat × Obj=>x.1) hx)⟩
 exact(Ctx.back H.comm h1).comm
theorem LdIn.turn{w w':World}{m m':Lm}{s s':Ld}{T:Nat->Prop}{S:List Nat}(I:LdIn w m s T)(he:Ext S w w')(hs:∀x∈S,T x)(O:OS m'.a s'.acs.length m'.c 2 m'.full (s'.acs.flatMap CQ))(M:CY .u64 (dm s'.ds) m'.o)(ok:s'.Ok)(ha:m'.arch=m.arch)(hr:s'.rn=s.rn)(hn:s'.no=s.no)(hid:∀x∈CT m' s',(T x\/w.heap.size<=x)/\x<w'.heap.size) :
  LdIn w' m' s' (fun x=>T x\/x∈CT m' s') where
 O:=O
 M:=M
 ok:=ok
 len:=by rw[ha];exact I.len
 n:=by rw[ha,hr];exact I.n
 no:=by rw[ha,hn];exact I.no
 kept:=fun r h=>by
  rw[hr]at h;obtain⟨q,h1,h2,h3⟩:=I.kept r h;rw[ha];exact⟨q,h1,h2.ext he (h3.mono hs),(h3.or h2.lt).mono fun x hx=>hx.elim .inl fun hx=>(hid x hx).1⟩
 own:=fun x hx => .inr hx
 low:=fun x hx=>hx.elim (fun h=>qaw (I.low x h) he.size) fun h=>(hid x h).2
def G1(w:World)(m:Lm)(s:Ld)(T:Nat->Prop)(k:Ak)(v:Value)(w':World):Prop :=
 ∃a n c full code l s' m',v=.tuple #[.slice a n c,.int .i64 code]/\OS a n c 1 full (l.map Dj)/\Cr s k s' (rp l code)/\Ctx w (CT m s) w' (LL m' s'++ent a 2 full)/\(∀x∈ent a 2 full,w.heap.size<=x.1)/\LdIn w' m' s' (fun x=>T x\/x∈CT m' s')/\m'.bl=m.bl
theorem DM{w w1 w':World}{m m':Lm}{s s':Ld}{T:Nat->Prop}{k:Ak}{P:List (Nat × Obj)}{a:Option Addr}{n c:Nat}{code:Int}{l:List Int}(I:LdIn w m s T)(H:Ctx w (CT m s) w1 (P++LL m' s'))(F:Fresh w1 w' 2 1 (.slice a n c) (l.map Dj))(hst:Cr s k s' (rp l code))(O:OS m'.a s'.acs.length m'.c 2 m'.full (s'.acs.flatMap CQ))(M:CY .u64 (dm s'.ds) m'.o)(ok:s'.Ok)(ha:m'.arch=m.arch)(hr:s'.rn=s.rn)(hn:s'.no=s.no)(hbl:m'.bl=m.bl):G1 w m s T k (.tuple #[.slice a n c,.int .i64 code]) w':=by
 obtain⟨a',n',c',full,hv,OF,hb⟩:=F.ex;cases hv;have H1:Ctx w (CT m s) w1 (LL m' s'):=H.right;have H2:=H1.callEnt F.ext hb FY;refine⟨a,n,c,full,code,l,s',m',rfl,OF,hst,H2,fun x hx=>qa0 H1.size (hb x hx).2,I.turn H2.ext I.own O M ok ha hr hn fun x hx=>?_,hbl⟩;obtain⟨y,hy,rfl⟩:=qag.1 hx;exact⟨(H1.own y hy).imp_left (I.own _),AY (H2.left.blk y hy)⟩
structure AkIn(k:Ak):Prop where
 kd:0<=k.kd/\k.kd<=255
 a:I64 k.a
 b:I64 k.b
 x:I64 k.x
 w:I64 k.w
 u:I64 k.u
 id:0<=k.id/\k.id<=18446744073709551615
theorem GM{w0 w:World}{b:Nat}{t:TypeId}{l:List Value}{n:Nat}{L:List (Nat × Obj)}(H:Ctx w0 [] w ((b,Bl t l)::L))(hn:l.length=n):Fresh w0 w t 1 (.slice (some ⟨b,0,none⟩) n n) l:=by
 subst hn;refine⟨⟨some ⟨b,0,none⟩,l.length,l.length,l,rfl,⟨fun p hp=>?_,fun h=>?_,by rw[qc3],qan _,by rw[qc3,qbj]⟩,fun x hx=>?_⟩,H.ext⟩
 .cases hp;rfl
 .cases h
 .rw[qab.1 hx];exact⟨H.get at0,(H.own _ (qai ..)).elim (fun h=>by cases h) id⟩
theorem Oc{bl ba c:Nat}{v1 v2 v3:Value}{a:Option Addr}{acs:List Ac}(k e:Int)(w:World)(hl:w.heap[bl]?=some (Bl 73 [ptr ba,v1,v2,v3]))(hd:AcB ba a acs.length c w)(R:Rd w a 2 CQ acs)(hn:acs.length<=1000000:=by omega):
  Ret prog 71 #[ptr bl,.int .i64 k,.int .i64 e] w fun v w'=>∃a' c',v=.tuple #[.slice a' 2 c',.int .i64 (if e=0/\inA acs k=false then 10 else e)]/\Fresh w w' 2 1 (.slice a' 2 c') ((MG acs k).map Dj):=by
 obtain⟨w0,rfl,H⟩:=qE w;refine Ay (fn:=f71) func71 U [.pointer (some ⟨bl,0,none⟩),.int .i64 k,.int .i64 e] U ?_;refine Ad (A4 U (Ae U (qA (Ad (Ax U (AE U (Ah GQ U (Bc ID U ((H.old (Aj hl _) (by simp))) ?_))))))));refine Af U (Al qB (Ob a _ c acs k _ (H.ext.to hd (by simp)) (R.ext0 H.ext) U hn) U ?_);rintro v w ⟨rfl,hx16⟩;replace H:=H.call hx16;refine Cb U (AJ U U (AJ U U (AU GF H ?_)));rintro b8 w - H;refine Bj Da U U U (by simp[AZ]) H at0 U ?_;rintro w H;refine Ai U (qA (Ao (Ad (BV (α:=Unit) 33030144 (fun _=>[(24,.bool (decide (e=0) && !inA acs k))]) (fun _ w'=>Ctx w0 [] w' [(b8,Bl 108 (CQ (Dd acs k)))]) U ?_ ?_))))
 .refine Af U (BP U U (Aw U (AK 21 U ?_ ?_)))
  .intro h1;replace h1:=AM h1;refine Aw U (BE U (A6 U (.bool _) U (Ab ?_)));exact⟨rfl,(),rfl,⟨qaa Value.bool (by rw[qad];simp_all;try omega),trivial⟩,H⟩
  .intro h2;replace h2:=AN h2;refine Ag U (Ag U (A9 U (.bool _) U (Ab ?_)));exact⟨rfl,(),rfl,⟨qaa Value.bool (by rw[qad];simp_all;try omega),trivial⟩,H⟩
 rintro - j24 w H;refine An _ U ?_ ?_
 .intro h1;rw[qaf,qas,qce]at h1;rw[if_pos h1];refine A0 (Ae U (qA (Ad (Ah Ef U (AB Bw U H at0 U (Ah Jf U (AB Bw U H at0 U (D0 [.int .i64 (Dd acs k).ba,.int .i64 (Dd acs k).re] AV B2 E5 H ?_))))))));rintro b29 w - H;refine Af U (A4 U (Ae U (qA (A7 (BR (v1:=(.slice _ _ _)) (v2:=(.int _ _)) U U U U ?_)))));exact⟨_,_,rfl,GM H rfl⟩
 .intro h1;rw[if_neg (fun h=>by rw[h.2,qar h.1]at h1;cases h1)];refine Aq (Aa (Ad (Ah Ef U (AB Bw U H at0 U (Ah Jf U (AB Bw U H at0 U (D0 [.int .i64 (Dd acs k).ba,.int .i64 (Dd acs k).re] AV B2 E5 H ?_)))))));rintro b29 w - H;refine Af U (A4 U (Ae U (qA (A7 (BR (v1:=(.slice _ _ _)) (v2:=(.int _ _)) U U U U ?_)))));exact⟨_,_,rfl,GM H rfl⟩
theorem Adi{m:Lm}{s:Ld}{T:Nat->Prop}{k:Ak}(hk:k.kd=2)(hin:AkIn k)(w:World)(I:LdIn w m s T)(H0:Ctx w (CT m s) w (LL m s)) :
  Ret prog 30 #[ptr m.bl,.agg (BA k).toArray] w (G1 w m s T k):=by
 obtain⟨w0,rfl⟩:=qD w;obtain⟨bl,ba,bd,br,b,a,c,full,o,arch⟩:=m;obtain⟨S0,hS0⟩:=qD (CT ⟨bl,ba,bd,br,b,a,c,full,o,arch⟩ s);have H:Ctx w0 S0 w0 ((bl,Bl 73 [ptr ba,ptr bd,ptr br,.int .i64 s.day])::(br,Bl 135 arch)::(ba,Bl 129 [.slice a s.acs.length c])::(bd,Bl 132 (DU b s.nx))::(b,o)::ent a 108 full):=by rw[hS0];exact H0
 have hn16:=(Co.1 I.ok.ac).1;obtain⟨hok,hlen,-⟩:=WZ I.ok.ac k.a k.x;have hoth:Et s k={ s with acs:=Fa s.acs k.a k.x }:=by unfold Et;rw[if_neg (by omega),if_pos hk]
 have hokS:({ s with acs:=Fa s.acs k.a k.x }:Ld).Ok:=by rw[<-hoth];exact JP I.ok k hin.u.2
 have hstep:Cr s k { s with acs:=Fa s.acs k.a k.x } (rp (MG (Fa s.acs k.a k.x) k.a) (Gs s.acs k.a k.x)):=by
  unfold Cr;rw[if_neg (by omega)];exact⟨hoth.symm,by unfold ET;rw[if_neg (by omega),if_pos hk]⟩
 have hcode:(if Gs s.acs k.a k.x=0/\inA (Fa s.acs k.a k.x) k.a=false then 10 else Gs s.acs k.a k.x)=Gs s.acs k.a k.x:=by
  rw[if_neg];rintro⟨h1,h2⟩
  rcases LO s.acs k.a k.x with⟨h3,-⟩|⟨-,h4,-⟩
  .exact h3 h1
  .have h5:inA (Fa s.acs k.a k.x) k.a=inA s.acs k.a:=by unfold inA;rw[hlen]
   rw[h5,h4]at h2;cases h2
 refine Ay (fn:=f30) func30 U [.pointer (some ⟨bl,0,none⟩),.agg (BA k).toArray] U ?_;refine Ad (Br (BA k) (.agg _) U U H ?_);rintro b3 w - H;refine A4 U (Ae U (qA (Cq [([0,1,2,3,4,5,6,7,8,9,10],11),([],12),([13,14,15],16)] (fun z=>z.heap[b3]?=some (Bl 25 (BA k))/\z.heap[bl]?=some (Bl 73 [ptr ba,ptr bd,ptr br,.int .i64 s.day])) [] Bq (⟨H.drew.get at0,H.drew.get at1⟩) ?_)));refine AH U U (BF U (Ap F6 U (B3 Cd U (fun _ hx=>(by rw[Aj hx.1];rfl)) ?_)));refine BF U (Bg U (Ap GQ U (B3 ID U (fun _ hx=>(by rw[Aj hx.2];rfl)) ?_)));refine Ap F6 U (B3 Cd U (fun _ hx=>(by rw[Aj hx.1];rfl)) ?_);refine Ap NU U (B3 Bw U (fun _ hx=>(by rw[Aj hx.1];rfl)) ?_);refine AR ?_;replace H:=H.drew;refine Al qB (Ac7 _ (H.get at3) I.O (fun y hy=>H.blk y (qal [_,_,_,_,_,_] hy)) I.ok.ac) U ?_
 rintro v w ⟨rfl,full',O',hb',he'⟩;replace H:Ctx w0 S0 w ((b3,Bl 25 (BA k))::(bl,Bl 73 [ptr ba,ptr bd,ptr br,.int .i64 s.day])::(br,Bl 135 arch)::(ba,Bl 129 [.slice a (Fa s.acs k.a k.x).length c])::(bd,Bl 132 (DU b s.nx))::(b,o)::ent a 108 full'):=(by rw[hlen];exact Ctx.acs7 (P:=[_,_,_,_,_,_]) H he' hb');replace O':OS a (Fa s.acs k.a k.x).length c 2 full' ((Fa s.acs k.a k.x).flatMap CQ):=(by rw[hlen];exact O');refine Ab (BM (⟨H.get at0,H.get at1⟩) (AH U U ?_));refine AR (Al qB (Oc k.a _ _ (H.get at1) (H.get at3) (OS.rd (t:=108) O' (fun y hy=>H.blk y (qal [_,_,_,_,_,_] hy)) (fun _ _=>rfl) (by decide))) U ?_);rintro v w ⟨a',c',rfl,F⟩;rw[hcode];have H8:=H;replace H:=H.call F.ext;refine Ab (BM (⟨H.get at0,H.get at1⟩) (AH U U ?_))
 refine Bv U U (Bv U U (Ea U (AR (Ae U (Ab (BM (⟨H.get at0,H.get at1⟩) (BG (A7 (BR (v1:=(.slice _ _ _)) (v2:=(.int _ _)) U U U U ?_)))))))));subst hS0;exact DM (P:=[_]) (m':=⟨bl,ba,bd,br,b,a,c,full',o,arch⟩) (s':={ s with acs:=Fa s.acs k.a k.x }) I H8 F hstep O' I.M hokS U U U U
theorem Adj{m:Lm}{s:Ld}{T:Nat->Prop}{k:Ak}(hk:k.kd=3)(hin:AkIn k)(w:World)(I:LdIn w m s T)(H0:Ctx w (CT m s) w (LL m s)) :
  Ret prog 31 #[ptr m.bl,.agg (BA k).toArray] w (G1 w m s T k):=by
 obtain⟨w0,rfl⟩:=qD w;obtain⟨bl,ba,bd,br,b,a,c,full,o,arch⟩:=m;obtain⟨S0,hS0⟩:=qD (CT ⟨bl,ba,bd,br,b,a,c,full,o,arch⟩ s);have H:Ctx w0 S0 w0 ((bl,Bl 73 [ptr ba,ptr bd,ptr br,.int .i64 s.day])::(br,Bl 135 arch)::(ba,Bl 129 [.slice a s.acs.length c])::(bd,Bl 132 (DU b s.nx))::(b,o)::ent a 108 full):=by rw[hS0];exact H0
 have hn16:=(Co.1 I.ok.ac).1;obtain⟨hok,hlen,-⟩:=Xa I.ok.ac k.a k.x;have hoth:Et s k={ s with acs:=EM s.acs k.a k.x }:=by unfold Et;rw[if_neg (by omega),if_neg (by omega),if_pos hk]
 have hokS:({ s with acs:=EM s.acs k.a k.x }:Ld).Ok:=by rw[<-hoth];exact JP I.ok k hin.u.2
 have hstep:Cr s k { s with acs:=EM s.acs k.a k.x } (rp (MG (EM s.acs k.a k.x) k.a) (FD s.acs k.a k.x)):=by
  unfold Cr;rw[if_neg (by omega)];exact⟨hoth.symm,by unfold ET;rw[if_neg (by omega),if_neg (by omega),if_pos hk]⟩
 have hcode:(if FD s.acs k.a k.x=0/\inA (EM s.acs k.a k.x) k.a=false then 10 else FD s.acs k.a k.x)=FD s.acs k.a k.x:=by
  rw[if_neg];rintro⟨h1,h2⟩
  rcases LP s.acs k.a k.x with⟨h3,-⟩|⟨-,h4,-⟩
  .exact h3 h1
  .have h5:inA (EM s.acs k.a k.x) k.a=inA s.acs k.a:=by unfold inA;rw[hlen]
   rw[h5,h4]at h2;cases h2
 refine Ay (fn:=f31) func31 U [.pointer (some ⟨bl,0,none⟩),.agg (BA k).toArray] U ?_;refine Ad (Br (BA k) (.agg _) U U H ?_);rintro b3 w - H;refine A4 U (Ae U (qA (Cq [([0,1,2,3,4,5,6,7,8,9,10],11),([],12),([13,14,15],16)] (fun z=>z.heap[b3]?=some (Bl 25 (BA k))/\z.heap[bl]?=some (Bl 73 [ptr ba,ptr bd,ptr br,.int .i64 s.day])) [] Bq (⟨H.drew.get at0,H.drew.get at1⟩) ?_)));refine AH U U (BF U (Ap F6 U (B3 Cd U (fun _ hx=>(by rw[Aj hx.1];rfl)) ?_)));refine BF U (Bg U (Ap GQ U (B3 ID U (fun _ hx=>(by rw[Aj hx.2];rfl)) ?_)));refine Ap F6 U (B3 Cd U (fun _ hx=>(by rw[Aj hx.1];rfl)) ?_);refine Ap NU U (B3 Bw U (fun _ hx=>(by rw[Aj hx.1];rfl)) ?_);refine AR ?_;replace H:=H.drew;refine Al qB (Ac8 _ (H.get at3) I.O (fun y hy=>H.blk y (qal [_,_,_,_,_,_] hy)) I.ok.ac) U ?_
 rintro v w ⟨rfl,full',O',hb',he'⟩;replace H:Ctx w0 S0 w ((b3,Bl 25 (BA k))::(bl,Bl 73 [ptr ba,ptr bd,ptr br,.int .i64 s.day])::(br,Bl 135 arch)::(ba,Bl 129 [.slice a (EM s.acs k.a k.x).length c])::(bd,Bl 132 (DU b s.nx))::(b,o)::ent a 108 full'):=(by rw[hlen];exact Ctx.acs7 (P:=[_,_,_,_,_,_]) H he' hb');replace O':OS a (EM s.acs k.a k.x).length c 2 full' ((EM s.acs k.a k.x).flatMap CQ):=(by rw[hlen];exact O');refine Ab (BM (⟨H.get at0,H.get at1⟩) (AH U U ?_));refine AR (Al qB (Oc k.a _ _ (H.get at1) (H.get at3) (OS.rd (t:=108) O' (fun y hy=>H.blk y (qal [_,_,_,_,_,_] hy)) (fun _ _=>rfl) (by decide))) U ?_);rintro v w ⟨a',c',rfl,F⟩;rw[hcode];have H8:=H;replace H:=H.call F.ext;refine Ab (BM (⟨H.get at0,H.get at1⟩) (AH U U ?_))
 refine Bv U U (Bv U U (Ea U (AR (Ae U (Ab (BM (⟨H.get at0,H.get at1⟩) (BG (A7 (BR (v1:=(.slice _ _ _)) (v2:=(.int _ _)) U U U U ?_)))))))));subst hS0;exact DM (P:=[_]) (m':=⟨bl,ba,bd,br,b,a,c,full',o,arch⟩) (s':={ s with acs:=EM s.acs k.a k.x }) I H8 F hstep O' I.M hokS U U U U
theorem Agg{m:Lm}{s:Ld}{T:Nat->Prop}{k:Ak}(hk:k.kd=4)(hin:AkIn k)(w:World)(I:LdIn w m s T)(H0:Ctx w (CT m s) w (LL m s)) :
  Ret prog 32 #[ptr m.bl,.agg (BA k).toArray] w (G1 w m s T k):=by
 obtain⟨w0,rfl⟩:=qD w;obtain⟨bl,ba,bd,br,b,a,c,full,o,arch⟩:=m;obtain⟨S0,hS0⟩:=qD (CT ⟨bl,ba,bd,br,b,a,c,full,o,arch⟩ s);have H:Ctx w0 S0 w0 ((bl,Bl 73 [ptr ba,ptr bd,ptr br,.int .i64 s.day])::(br,Bl 135 arch)::(ba,Bl 129 [.slice a s.acs.length c])::(bd,Bl 132 (DU b s.nx))::(b,o)::ent a 108 full):=by rw[hS0];exact H0
 have hn16:=(Co.1 I.ok.ac).1;obtain⟨hok,hlen,-⟩:=Acq I.ok.ac k.a k.x;have hoth:Et s k={ s with acs:=Hv s.acs k.a k.x }:=by unfold Et;(iterate 3 rw[if_neg (by omega)]);rw[if_pos hk]
 have hokS:({ s with acs:=Hv s.acs k.a k.x }:Ld).Ok:=by rw[<-hoth];exact JP I.ok k hin.u.2
 have hstep:Cr s k { s with acs:=Hv s.acs k.a k.x } (rp (MG (Hv s.acs k.a k.x) k.a) (Lk s.acs k.a k.x)):=by
  unfold Cr;rw[if_neg (by omega)];exact⟨hoth.symm,by unfold ET;(iterate 3 rw[if_neg (by omega)]);rw[if_pos hk]⟩
 have hcode:(if Lk s.acs k.a k.x=0/\inA (Hv s.acs k.a k.x) k.a=false then 10 else Lk s.acs k.a k.x)=Lk s.acs k.a k.x:=by
  rw[if_neg];rintro⟨h1,h2⟩
  rcases Ri s.acs k.a k.x with⟨h3,-⟩|⟨-,h4,-⟩
  .exact h3 h1
  .have h5:inA (Hv s.acs k.a k.x) k.a=inA s.acs k.a:=by unfold inA;rw[hlen]
   rw[h5,h4]at h2;cases h2
 refine Ay (fn:=f32) func32 U [.pointer (some ⟨bl,0,none⟩),.agg (BA k).toArray] U ?_;refine Ad (Br (BA k) (.agg _) U U H ?_);rintro b3 w - H;refine A4 U (Ae U (qA (Cq [([0,1,2,3,4,5,6,7,8,9,10],11),([],12),([13,14,15],16)] (fun z=>z.heap[b3]?=some (Bl 25 (BA k))/\z.heap[bl]?=some (Bl 73 [ptr ba,ptr bd,ptr br,.int .i64 s.day])) [] Bq (⟨H.drew.get at0,H.drew.get at1⟩) ?_)));refine AH U U (BF U (Ap F6 U (B3 Cd U (fun _ hx=>(by rw[Aj hx.1];rfl)) ?_)));refine BF U (Bg U (Ap GQ U (B3 ID U (fun _ hx=>(by rw[Aj hx.2];rfl)) ?_)));refine Ap F6 U (B3 Cd U (fun _ hx=>(by rw[Aj hx.1];rfl)) ?_);refine Ap NU U (B3 Bw U (fun _ hx=>(by rw[Aj hx.1];rfl)) ?_);refine AR ?_;replace H:=H.drew;refine Al qB (Agd _ (H.get at3) I.O (fun y hy=>H.blk y (qal [_,_,_,_,_,_] hy)) I.ok.ac) U ?_
 rintro v w ⟨rfl,full',O',hb',he'⟩;replace H:Ctx w0 S0 w ((b3,Bl 25 (BA k))::(bl,Bl 73 [ptr ba,ptr bd,ptr br,.int .i64 s.day])::(br,Bl 135 arch)::(ba,Bl 129 [.slice a (Hv s.acs k.a k.x).length c])::(bd,Bl 132 (DU b s.nx))::(b,o)::ent a 108 full'):=(by rw[hlen];exact Ctx.acs7 (P:=[_,_,_,_,_,_]) H he' hb');replace O':OS a (Hv s.acs k.a k.x).length c 2 full' ((Hv s.acs k.a k.x).flatMap CQ):=(by rw[hlen];exact O');refine Ab (BM (⟨H.get at0,H.get at1⟩) (AH U U ?_));refine AR (Al qB (Oc k.a _ _ (H.get at1) (H.get at3) (OS.rd (t:=108) O' (fun y hy=>H.blk y (qal [_,_,_,_,_,_] hy)) (fun _ _=>rfl) (by decide))) U ?_);rintro v w ⟨a',c',rfl,F⟩;rw[hcode];have H8:=H;replace H:=H.call F.ext;refine Ab (BM (⟨H.get at0,H.get at1⟩) (AH U U ?_))
 refine Bv U U (Bv U U (Ea U (AR (Ae U (Ab (BM (⟨H.get at0,H.get at1⟩) (BG (A7 (BR (v1:=(.slice _ _ _)) (v2:=(.int _ _)) U U U U ?_)))))))));subst hS0;exact DM (P:=[_]) (m':=⟨bl,ba,bd,br,b,a,c,full',o,arch⟩) (s':={ s with acs:=Hv s.acs k.a k.x }) I H8 F hstep O' I.M hokS U U U U
theorem I5(w:World):Fresh w w 2 1 (.slice none 0 0) (([]:List Int).map Dj):=Fresh.nil (Ctx.start w []) _ _
theorem MH{bl ba c:Nat}{v1 v2 v3:Value}{a:Option Addr}{acs:List Ac}(k:Int)(w:World)(hl:w.heap[bl]?=some (Bl 73 [ptr ba,v1,v2,v3]))(hd:AcB ba a acs.length c w)(R:Rd w a 2 CQ acs)(hn:acs.length<=1000000:=by omega):
  Ret prog 69 #[ptr bl,.int .i64 k] w fun v w'=>v=.bool (inA acs k)/\Ext [] w w':=by
 obtain⟨w0,rfl,H⟩:=qE w;refine Ay (fn:=f69) func69 U [.pointer (some ⟨bl,0,none⟩),.int .i64 k] U ?_;refine Ad (Ai U (qA (Ad (Ax U (AE U (Ah GQ U (Bc ID U ((H.old (Aj hl _) (by simp))) ?_)))))));refine Af U (Al qB (Ob a _ c acs k _ (H.ext.to hd (by simp)) (R.ext0 H.ext) U hn) U ?_);rintro v w ⟨rfl,hx16⟩;replace H:=H.call hx16;refine Cb U (AJ U U (AJ U U (AU GF H ?_)));rintro b5 w - H;refine Bj Da U U U (by simp[AZ]) H at0 U ?_;rintro w H;refine Ai U (qA (Ad (Aw U (Ai U (qA (A7 (AD (v:=(.bool _)) U U U ?_)))))));exact⟨rfl,H.ext⟩
theorem Adk{m:Lm}{s:Ld}{T:Nat->Prop}{k:Ak}(hk:k.kd=6)(hin:AkIn k)(w:World)(I:LdIn w m s T)(H0:Ctx w (CT m s) w (LL m s)) :
  Ret prog 34 #[ptr m.bl,.agg (BA k).toArray] w (G1 w m s T k):=by
 obtain⟨w0,rfl⟩:=qD w;obtain⟨bl,ba,bd,br,b,a,c,full,o,arch⟩:=m;obtain⟨S0,hS0⟩:=qD (CT ⟨bl,ba,bd,br,b,a,c,full,o,arch⟩ s);have H:Ctx w0 S0 w0 ((bl,Bl 73 [ptr ba,ptr bd,ptr br,.int .i64 s.day])::(br,Bl 135 arch)::(ba,Bl 129 [.slice a s.acs.length c])::(bd,Bl 132 (DU b s.nx))::(b,o)::ent a 108 full):=by rw[hS0];exact H0
 have hn16:=(Co.1 I.ok.ac).1;have hbdb:bd≠b:=H.ne (i:=3) (j:=4) rfl rfl (by decide);have hoth:Et s k={ s with ds:=FQ s.ds k.id true }:=by unfold Et;(iterate 5 rw[if_neg (by omega)]);rw[if_pos hk]
 have hokS:({ s with ds:=FQ s.ds k.id true }:Ld).Ok:=by rw[<-hoth];exact JP I.ok k hin.u.2
 have hstep:Cr s k { s with ds:=FQ s.ds k.id true } (rp [] (HS s.ds k.id true)):=by
  unfold Cr;rw[if_neg (by omega)];exact⟨hoth.symm,by unfold ET;(iterate 5 rw[if_neg (by omega)]);rw[if_pos hk]⟩
 refine Ay (fn:=f34) func34 U [.pointer (some ⟨bl,0,none⟩),.agg (BA k).toArray] U ?_;refine Ad (Br (BA k) (.agg _) U U H ?_);rintro b3 w - H;refine A4 U (Ae U (qA (Cq [([0,1,2,3,4,5],6),([7],8)] (fun z=>z.heap[b3]?=some (Bl 25 (BA k))/\z.heap[bl]?=some (Bl 73 [ptr ba,ptr bd,ptr br,.int .i64 s.day])) [6,8] Bq (⟨H.drew.get at0,H.drew.get at1⟩) ?_)));refine AH U U (BF U (Bg U (Ap FV U (B3 Hx U (fun _ hx=>(by rw[Aj hx.2];rfl)) ?_))));refine Ap FT U (B3 Bz U (fun _ hx=>(by rw[Aj hx.1];rfl)) ?_);refine AR ?_;replace H:=H.drew;refine Al qB (Age _ (H.get at4) (H.get at5) I.M hbdb I.ok.du) U ?_;rintro v w ⟨rfl,o',hM',H7⟩;replace H:=Ctx.mid (B:=[_,_,_,_,_]) (L:=[_]) H H7;refine Ab (B5 U (AH U U ?_));refine Ea U (AR (Ae U (Ab (B5 U (BG (A7 (BR (v1:=(.slice _ _ _)) (v2:=(.int _ _)) U U U U ?_)))))));subst hS0
 exact DM (P:=[_]) (m':=⟨bl,ba,bd,br,b,a,c,full,o',arch⟩) (s':={ s with ds:=FQ s.ds k.id true }) I H (I5 _) hstep I.O hM' hokS U U U U
theorem U5{m:Lm}{s:Ld}{T:Nat->Prop}{k:Ak}(hk:k.kd=7)(hin:AkIn k)(w:World)(I:LdIn w m s T)(H0:Ctx w (CT m s) w (LL m s)) :
  Ret prog 35 #[ptr m.bl,.agg (BA k).toArray] w (G1 w m s T k):=by
 obtain⟨w0,rfl⟩:=qD w;obtain⟨bl,ba,bd,br,b,a,c,full,o,arch⟩:=m;obtain⟨S0,hS0⟩:=qD (CT ⟨bl,ba,bd,br,b,a,c,full,o,arch⟩ s);have H:Ctx w0 S0 w0 ((bl,Bl 73 [ptr ba,ptr bd,ptr br,.int .i64 s.day])::(br,Bl 135 arch)::(ba,Bl 129 [.slice a s.acs.length c])::(bd,Bl 132 (DU b s.nx))::(b,o)::ent a 108 full):=by rw[hS0];exact H0
 have hn16:=(Co.1 I.ok.ac).1;have hbdb:bd≠b:=H.ne (i:=3) (j:=4) rfl rfl (by decide);have hoth:Et s k={ s with ds:=FQ s.ds k.id false }:=by unfold Et;(iterate 6 rw[if_neg (by omega)]);rw[if_pos hk]
 have hokS:({ s with ds:=FQ s.ds k.id false }:Ld).Ok:=by rw[<-hoth];exact JP I.ok k hin.u.2
 have hstep:Cr s k { s with ds:=FQ s.ds k.id false } (rp [] (HS s.ds k.id false)):=by
  unfold Cr;rw[if_neg (by omega)];exact⟨hoth.symm,by unfold ET;(iterate 6 rw[if_neg (by omega)]);rw[if_pos hk]⟩
 refine Ay (fn:=f35) func35 U [.pointer (some ⟨bl,0,none⟩),.agg (BA k).toArray] U ?_;refine Ad (Br (BA k) (.agg _) U U H ?_);rintro b3 w - H;refine A4 U (Ae U (qA (Cq [([0,1,2,3,4,5],6),([7],8)] (fun z=>z.heap[b3]?=some (Bl 25 (BA k))/\z.heap[bl]?=some (Bl 73 [ptr ba,ptr bd,ptr br,.int .i64 s.day])) [6,8] Bq (⟨H.drew.get at0,H.drew.get at1⟩) ?_)));refine AH U U (BF U (Bg U (Ap FV U (B3 Hx U (fun _ hx=>(by rw[Aj hx.2];rfl)) ?_))));refine Ap FT U (B3 Bz U (fun _ hx=>(by rw[Aj hx.1];rfl)) ?_);refine AR ?_;replace H:=H.drew;refine Al qB (VP _ (H.get at4) (H.get at5) I.M hbdb I.ok.du) U ?_;rintro v w ⟨rfl,o',hM',H7⟩;replace H:=Ctx.mid (B:=[_,_,_,_,_]) (L:=[_]) H H7;refine Ab (B5 U (AH U U ?_));refine Ea U (AR (Ae U (Ab (B5 U (BG (A7 (BR (v1:=(.slice _ _ _)) (v2:=(.int _ _)) U U U U ?_)))))));subst hS0
 exact DM (P:=[_]) (m':=⟨bl,ba,bd,br,b,a,c,full,o',arch⟩) (s':={ s with ds:=FQ s.ds k.id false }) I H (I5 _) hstep I.O hM' hokS U U U U
theorem VS{m:Lm}{s:Ld}{T:Nat->Prop}{k:Ak}(hk:k.kd=8)(hin:AkIn k)(w:World)(I:LdIn w m s T)(H0:Ctx w (CT m s) w (LL m s)) :
  Ret prog 36 #[ptr m.bl,.agg (BA k).toArray] w (G1 w m s T k):=by
 obtain⟨w0,rfl⟩:=qD w;obtain⟨bl,ba,bd,br,b,a,c,full,o,arch⟩:=m;obtain⟨S0,hS0⟩:=qD (CT ⟨bl,ba,bd,br,b,a,c,full,o,arch⟩ s);have H:Ctx w0 S0 w0 ((bl,Bl 73 [ptr ba,ptr bd,ptr br,.int .i64 s.day])::(br,Bl 135 arch)::(ba,Bl 129 [.slice a s.acs.length c])::(bd,Bl 132 (DU b s.nx))::(b,o)::ent a 108 full):=by rw[hS0];exact H0
 have hn16:=(Co.1 I.ok.ac).1;have hbdb:bd≠b:=H.ne (i:=3) (j:=4) rfl rfl (by decide);have hoth:Et s k={ s with ds:=SO s.ds k.id }:=by unfold Et;(iterate 7 rw[if_neg (by omega)]);rw[if_pos hk]
 have hokS:({ s with ds:=SO s.ds k.id }:Ld).Ok:=by rw[<-hoth];exact JP I.ok k hin.u.2
 have hstep:Cr s k { s with ds:=SO s.ds k.id } (rp [] (NN s.ds k.id)):=by
  unfold Cr;rw[if_neg (by omega)];exact⟨hoth.symm,by unfold ET;(iterate 7 rw[if_neg (by omega)]);rw[if_pos hk]⟩
 refine Ay (fn:=f36) func36 U [.pointer (some ⟨bl,0,none⟩),.agg (BA k).toArray] U ?_;refine Ad (Br (BA k) (.agg _) U U H ?_);rintro b3 w - H;refine A4 U (Ae U (qA (Cq [([0,1,2,3,4,5],6),([7],8)] (fun z=>z.heap[b3]?=some (Bl 25 (BA k))/\z.heap[bl]?=some (Bl 73 [ptr ba,ptr bd,ptr br,.int .i64 s.day])) [6,8] Bq (⟨H.drew.get at0,H.drew.get at1⟩) ?_)));refine AH U U (BF U (Bg U (Ap FV U (B3 Hx U (fun _ hx=>(by rw[Aj hx.2];rfl)) ?_))));refine Ap FT U (B3 Bz U (fun _ hx=>(by rw[Aj hx.1];rfl)) ?_);refine AR ?_;replace H:=H.drew;refine Al qB (Y9 _ (H.get at4) (H.get at5) I.M hbdb I.ok.du) U ?_;rintro v w ⟨rfl,o',hM',H7⟩;replace H:=Ctx.mid (B:=[_,_,_,_,_]) (L:=[_]) H H7;refine Ab (B5 U (AH U U ?_));refine Ea U (AR (Ae U (Ab (B5 U (BG (A7 (BR (v1:=(.slice _ _ _)) (v2:=(.int _ _)) U U U U ?_)))))));subst hS0
 exact DM (P:=[_]) (m':=⟨bl,ba,bd,br,b,a,c,full,o',arch⟩) (s':={ s with ds:=SO s.ds k.id }) I H (I5 _) hstep I.O hM' hokS U U U U
theorem Adl{m:Lm}{s:Ld}{T:Nat->Prop}{k:Ak}(hk:k.kd=12)(_:AkIn k)(w:World)(I:LdIn w m s T)(H0:Ctx w (CT m s) w (LL m s)) :
  Ret prog 39 #[ptr m.bl,.agg (BA k).toArray] w (G1 w m s T k):=by
 obtain⟨w0,rfl⟩:=qD w;obtain⟨bl,ba,bd,br,b,a,c,full,o,arch⟩:=m;obtain⟨S0,hS0⟩:=qD (CT ⟨bl,ba,bd,br,b,a,c,full,o,arch⟩ s);have H:Ctx w0 S0 w0 ((bl,Bl 73 [ptr ba,ptr bd,ptr br,.int .i64 s.day])::(br,Bl 135 arch)::(ba,Bl 129 [.slice a s.acs.length c])::(bd,Bl 132 (DU b s.nx))::(b,o)::ent a 108 full):=by rw[hS0];exact H0
 have hn16:=(Co.1 I.ok.ac).1;have hbdb:bd≠b:=H.ne (i:=3) (j:=4) rfl rfl (by decide)
 have hstep:Cr s k s (rp (MG s.acs k.a) (if(0:Int)=0/\inA s.acs k.a=false then 10 else 0)):=by
  unfold Cr;rw[if_neg (by omega)];have hR:ET s k=if inA s.acs k.a=true then⟨0,MG s.acs k.a⟩else⟨10,[]⟩:=by unfold ET;(iterate 9 rw[if_neg (by omega)]);rw[if_pos hk]
  refine⟨by unfold Et;iterate 9 rw[if_neg (by omega)],?_⟩;rw[hR]
  cases inA s.acs k.a with
  |true=>rfl
  |false=>rfl
 refine Ay (fn:=f39) func39 U [.pointer (some ⟨bl,0,none⟩),.agg (BA k).toArray] U ?_;refine Ad (Br (BA k) (.agg _) U U H ?_);rintro b3 w - H;refine A4 U (Ae U (qA (Ad (Ax U (Ah F6 U (AB Cd U H at0 U (Al qB (Oc k.a _ _ (H.get at1) (H.get at3) (OS.rd (t:=108) I.O (fun y hy=>H.blk y (qal [_,_,_,_,_,_] hy)) (fun _ _=>rfl) (by decide))) U ?_)))))));rintro v w ⟨a',c',rfl,F⟩;have H8:=H;replace H:=H.call F.ext;refine AJ U U (AJ U U (A4 U (Ae U (qA (A7 (BR (v1:=(.slice _ _ _)) (v2:=(.int _ _)) U U U U ?_))))));subst hS0;exact DM (P:=[_]) (m':=⟨bl,ba,bd,br,b,a,c,full,o,arch⟩) (s':=s) I H8 F hstep I.O I.M I.ok U U U U
def OpnR(w0:World)(S0:List Nat)(w:World)(s:Ld)(arch:List Value)(b3:Nat)(e3:List Value)(bl ba bd br b c:Nat)(a:Option Addr)(full:List Value)(o:Obj)(i' code:Int):Prop :=
 (16<=s.acs.length/\code=6/\Ctx w0 S0 w ((b3,Bl 25 e3)::(bl,Bl 73 [ptr ba,ptr bd,ptr br,.int .i64 s.day])::(br,Bl 135 arch)::LX ba a s.acs.length c full bd b s.nx o)) \/
 (s.acs.length<16/\i'=(s.acs.length:Int)/\code=0/\∃a' c' full',OS a' (s.acs++[a00]).length c' 2 full' ((s.acs++[a00]).flatMap CQ)/\Ctx w0 S0 w ((b3,Bl 25 e3)::(bl,Bl 73 [ptr ba,ptr bd,ptr br,.int .i64 s.day])::(br,Bl 135 arch)::LX ba a' (s.acs++[a00]).length c' full' bd b s.nx o))
theorem Adm{w0 w w':World}{S0:List Nat}{s:Ld}{arch:List Value}{b3 bl ba bd br b c:Nat}{e3:List Value}{a:Option Addr}{full:List Value}{o:Obj}{v:Value}(H:Ctx w0 S0 w ((b3,Bl 25 e3)::(bl,Bl 73 [ptr ba,ptr bd,ptr br,.int .i64 s.day])::(br,Bl 135 arch)::LX ba a s.acs.length c full bd b s.nx o))(h:(16<=s.acs.length->v=.tuple #[.int .i64 0,.int .i64 6]/\Ctx w ((AL ba (bd,Bl 132 (DU b s.nx)) (b,o) a s.acs.length c full).map fun x=>x.1) w' (AL ba (bd,Bl 132 (DU b s.nx)) (b,o) a s.acs.length c full)) /\
   (s.acs.length<16->v=.tuple #[.int .i64 (s.acs.length:Int),.int .i64 0]/\∃a' c' full',OS a' (s.acs++[a00]).length c' 2 full' ((s.acs++[a00]).flatMap CQ)/\Ctx w ((AL ba (bd,Bl 132 (DU b s.nx)) (b,o) a s.acs.length c full).map fun x=>x.1) w' (AL ba (bd,Bl 132 (DU b s.nx)) (b,o) a' (s.acs++[a00]).length c' full'))) :
  ∃i' code,v=.tuple #[.int .i64 i',.int .i64 code]/\OpnR w0 S0 w' s arch b3 e3 bl ba bd br b c a full o i' code:=by
 have hb:∀{L':List (Nat × Obj)},Ctx w ((AL ba (bd,Bl 132 (DU b s.nx)) (b,o) a s.acs.length c full).map fun x=>x.1) w' L'->Ctx w0 S0 w' ([(b3,Bl 25 e3),(bl,Bl 73 [ptr ba,ptr bd,ptr br,.int .i64 s.day]),(br,Bl 135 arch)]++L'):=fun{L'} h1=>(Ctx.back (L1:=AL ba (bd,Bl 132 (DU b s.nx)) (b,o) a s.acs.length c full) (L2:=[_,_,_]) (H.comm (L:=[_,_,_])) h1).comm
 rcases qap s.acs.length 16 with h16|h16
 .obtain⟨rfl,a',c',full',O',H1⟩:=h.2 h16;exact⟨_,_,rfl,.inr ⟨h16,rfl,rfl,a',c',full',O',hb H1⟩⟩
 .obtain⟨rfl,H1⟩:=h.1 h16;exact⟨_,_,rfl,.inl ⟨h16,rfl,hb H1⟩⟩
theorem Adn{m:Lm}{s:Ld}{T:Nat->Prop}{k:Ak}(hk:k.kd=1)(hin:AkIn k)(w:World)(I:LdIn w m s T)(H0:Ctx w (CT m s) w (LL m s)) :
  Ret prog 29 #[ptr m.bl,.agg (BA k).toArray] w (G1 w m s T k):=by
 obtain⟨w0,rfl⟩:=qD w;obtain⟨bl,ba,bd,br,b,a,c,full,o,arch⟩:=m;obtain⟨S0,hS0⟩:=qD (CT ⟨bl,ba,bd,br,b,a,c,full,o,arch⟩ s);have H:Ctx w0 S0 w0 ((bl,Bl 73 [ptr ba,ptr bd,ptr br,.int .i64 s.day])::(br,Bl 135 arch)::(ba,Bl 129 [.slice a s.acs.length c])::(bd,Bl 132 (DU b s.nx))::(b,o)::ent a 108 full):=by rw[hS0];exact H0
 have hn16:=(Co.1 I.ok.ac).1;have hbdb:bd≠b:=H.ne (i:=3) (j:=4) rfl rfl (by decide)
 have hstep:∀l,(s.acs.length<16->l=[(s.acs.length:Int)])->Cr s k (Et s k) (rp l (if s.acs.length<16 then 0 else 6)):=fun l hl=>by
  unfold Cr;rw[if_neg (by omega)];refine⟨rfl,?_⟩;unfold ET;rw[if_pos hk]
  by_cases h:s.acs.length<16
  .rw[if_pos h,hl h]
  .rw[if_neg h,Uw (by decide),Uw (by decide)]
 have hokS:=JP I.ok k hin.u.2;have hoth:Et s k=if s.acs.length<16 then{ s with acs:=s.acs++[a00] }else s:=by unfold Et;rw[if_pos hk]
 refine Ay (fn:=f29) func29 U [.pointer (some ⟨bl,0,none⟩),.agg (BA k).toArray] U ?_;refine Ad (Br (BA k) (.agg _) U U H ?_);rintro b3 w - H;refine A4 U (Ae U (qA (Ad (Ax U (AE U (Ah GQ U (AB ID U H at1 U ?_)))))));have HL:=Ctx.lend (L1:=AL ba (bd,Bl 132 (DU b s.nx)) (b,o) a s.acs.length c full) (L2:=[(b3,Bl 25 (BA k)),(bl,Bl 73 [ptr ba,ptr bd,ptr br,.int .i64 s.day]),(br,Bl 135 arch)]) (H.comm (L:=[_,_,_]));refine Al qB (Y6 HL I.O) U ?_;rintro v w hres;obtain⟨i',code,rfl,hr⟩:∃i' code,v=.tuple #[.int .i64 i',.int .i64 code]/\OpnR w0 S0 w s arch b3 (BA k) bl ba bd br b c a full o i' code:=Adm H hres;refine Cb U (AJ U U (AJ U U (Ae U (Ae U (qA (Ad (Af U ?_)))))));have H:=Ctx.start w [];refine Cs [.int .i64 i'] (.int .i64 i') AV B2 E5 U U U U H ?_;rintro b17 w2 - H17
 refine Af U (A4 U (Ae U (qA (A7 (BR (v1:=(.slice _ _ _)) (v2:=(.int _ _)) U U U U ?_)))));subst hS0
 rcases hr with⟨h16,rfl,H1⟩|⟨h16,rfl,rfl,a',c',full',O',H1⟩
 .rw[hoth,if_neg (by omega)]at hokS hstep;rw[if_neg (by omega)]at hstep;exact DM (P:=[_]) (m':=⟨bl,ba,bd,br,b,a,c,full,o,arch⟩) (s':=s) (l:=[i']) I H1 (GM (n:=1) (l:=[Dj i']) H17 U) (hstep [i'] fun h=>by omega) I.O I.M I.ok U U U U
 .rw[hoth,if_pos h16]at hokS hstep;rw[if_pos h16]at hstep;exact DM (P:=[_]) (m':=⟨bl,ba,bd,br,b,a',c',full',o,arch⟩) (s':={ s with acs:=s.acs++[a00] }) (l:=[(s.acs.length:Int)]) I H1 (GM (n:=1) (l:=[Dj (s.acs.length:Int)]) H17 U) (hstep [_] fun _=>rfl) O' I.M hokS U U U U
end Go.Proofs.YtffclglpjlcojaaGreat
