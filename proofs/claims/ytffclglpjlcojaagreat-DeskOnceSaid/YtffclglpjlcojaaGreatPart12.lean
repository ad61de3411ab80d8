/- Part 12 of the proof. -/
import Derived.Test.YtffclglpjlcojaaGreatPart11
set_option maxRecDepth 20000
set_option maxHeartbeats 4000000
namespace Go.Proofs.YtffclglpjlcojaaGreat
open Go.GV Go.Proofs.Tryz
attribute [local irreducible] A7 W Wq Wt
def Wh:List Du->Int->Du->List Du
 | [],_,_=>[]
 |d::ds,k,e=>if d.id=k then e::ds else d::Wh ds k e
def XQ:List Du->Int->List Du
 | [],_=>[]
 |d::ds,k=>if d.id=k then ds else d::XQ ds k
theorem Ahj{ds:List Du}{k:Int}{d e:Du}(h:CQ ds k=some d)(he:e.id=k):Ku (dm ds) k (GG e)=dm (Wh ds k e):=by
 induction ds with
 |nil=>cases h
 |cons y ds ih =>
  unfold CQ at h;rw[qb7]at h
  by_cases c:y.id=k
  .unfold Wh;rw[if_pos c];show(if y.id=k then(k,_)::dm ds else _)=_;rw[if_pos c,<-he];rfl
  .rw[show(y.id == k)=false by simpa using c]at h;unfold Wh;rw[if_neg c];show(if y.id=k then _ else(y.id,GG y)::Ku (dm ds) k _)=_;rw[if_neg c,ih h];rfl
theorem Ahk{ds:List Du}{k:Int}{d:Du}(h:CQ ds k=some d):Mg (dm ds) k=dm (XQ ds k):=by
 induction ds with
 |nil=>cases h
 |cons y ds ih =>
  unfold CQ at h;rw[qb7]at h
  by_cases c:y.id=k
  .unfold XQ;rw[if_pos c];show(if y.id=k then dm ds else _)=_;rw[if_pos c]
  .rw[show(y.id == k)=false by simpa using c]at h;unfold XQ;rw[if_neg c];show(if y.id=k then _ else(y.id,GG y)::Mg (dm ds) k)=_;rw[if_neg c,ih h];rfl
theorem Wi{k:Int}{b:Bool}:∀{ds:List Du} {d:Du},(ds.map Du.id).Nodup->CQ ds k=some d->Wh ds k { d with held:=b }=ds.map fun x=>if x.id=k then{ x with held:=b }else x
 |y::ds,d,hn,h=>by
  rw[qay,qen]at hn;unfold CQ at h;rw[qb7]at h
  by_cases c:y.id=k
  .rw[show(y.id == k)=true by simpa using c]at h
   injection h with h
   subst h;unfold Wh;rw[if_pos c,qay,if_pos c]
   congr 1
   refine(List.map_id ds).symm.trans (qbo fun x hx=>?_);rw[if_neg fun hxk=>hn.1 (by rw[c,<-hxk];exact qa4 hx)];rfl
  .rw[show(y.id == k)=false by simpa using c]at h;unfold Wh;rw[if_neg c,qay,if_neg c,Wi hn.2 h]
theorem Pg{k:Int}:∀{ds:List Du},(ds.map Du.id).Nodup->XQ ds k=ds.filter fun x => !decide (x.id=k)
 | [],_=>rfl
 |y::ds,hn=>by
  rw[qay,qen]at hn;unfold XQ
  by_cases c:y.id=k
  .rw[if_pos c,qbw,if_neg (by simpa using c)];refine(List.filter_eq_self.2 fun x hx=>?_).symm;have:¬x.id=k:=fun hxk=>hn.1 (by rw[c,<-hxk];exact qa4 hx)
   simpa using this
  .rw[if_neg c,qbw,if_pos (by simpa using c),Pg hn.2]
def trnD(ds:List Du)(k:Int)(c:Int)(e:Du):List Du:=if c≠0 then ds else if e.am=0 then XQ ds k else Wh ds k e
theorem Wj{bd b:Nat}{nx k code:Int}{o:Obj}{ds:List Du}{d e:Du}{fid:FuncId}{cl:List Value}(w:World)(hd:w.heap[bd]?=some (Bl 132 (DU b nx)))(hb:w.heap[b]?=some o)(hM:Df .u64 (dm ds) o)(hbd:bd≠b)(hf:CQ ds k=some d)(he:e.id=k)(hfc:Aq prog fid=true)(hcl:∀(b7:Nat) (w':World),w.heap.size<=b7->Ext [b] w w'->w'.heap[b7]?=some (Bl 118 (Dn d))->Ret prog fid (ptr b7::cl).toArray w' fun v w''=>v=.int .i64 code/\Ctx w' [b7] w'' [(b7,Bl 118 (Dn e))]) :
  Ret prog 113 #[ptr bd,.int .u64 k,.func (.func fid) #[] cl.toArray] w fun v w'=>v=.int .i64 code/\∃o',Df .u64 (dm (trnD ds k code e)) o'/\Ctx w [b] w' [(b,o')]:=by
 obtain⟨w0,rfl⟩:=qD w;have H:=Ctx.start1 hb;have hmg:Ea (dm ds) k=some (GG d):=by rw[Il,hf];rfl
 unfold trnD;refine Au (fn:=f113) func113 U [.pointer (some ⟨bd,0,none⟩),.int .u64 k,.func (.func fid) #[] cl.toArray] U ?_;refine Ae (Ad U (qA (Ax (Ae (A4 U (Cw LV U ?_))))));refine qA (Aw _ U ?_ ?_)
 .intro h0;cases h0
 .intro h0;refine Ay (Aa (Ae (A4 U (A9 U (Ah El U (Bb F3 U ((H.old (Aj hd _) (by rw[qab];exact hbd))) ?_))))));refine Af U (Hk U FT Dc Mp U U H at0 hM ?_);rw[hmg];rw[qef,Option.isSome_some];refine Cr U (AH U U (AH U U (Bc DX H ?_)));rintro b7 w - H;refine Bn BV U U U (by exact Dx _) H at0 U ?_;rintro w H;refine Ai U (qA (Ax (Ae (A2 U (BP U (qA (Aw _ U ?_ ?_)))))))
  .intro h1;replace h1:=BM h1;cases h1
  .intro h1;replace h1:=BN h1;refine Ay (Aa (Ae (C7 (.func _ _ _) U ?_)));have hb7:w0.heap.size<=b7:=(H.own _ (qak ..)).elim (fun h=>by have h8:=H.ne at0 at1 (by decide);exact absurd (qab.1 h) h8) id;refine G6 U hfc (hcl b7 _ hb7 H.ext (H.get at0)) U ?_;rintro v w ⟨rfl,H2⟩;replace H:=Ctx.back (L1:=[_]) (L2:=[_]) H H2;refine Ad U (qA (Ax (A1 (Ae (Af U (CK U U (Ai U (qA (Aw _ U ?_ ?_)))))))))
   .intro h2;replace h2:=CY h2;refine Ay (A8 (Aa (Ae (Af U (Ad U (qA (A5 (AB (v:=(.int _ _)) U U U ?_))))))));rw[if_pos h2];exact⟨rfl,o,hM,H.tail⟩
   .intro h2;replace h2:=CZ h2;rw[if_neg (by omega)];refine Ae (Ah ER U (AG B4 U H at0 U (C3 U U (Ai U (qA (Aw _ U ?_ ?_))))))
    .intro h3;replace h3:=AM h3;refine A0 (A4 U (A9 U (Ah El U (Bb F3 U ((H.old (Aj hd _) (by rw[qab];exact hbd))) ?_))));refine Af U (NF U FT Dc U U H at1 hM ?_);rintro o2 w hM2 H;refine Ab (A8 (Aa (Ae (Af U (Ad U (qA (A5 (AB (v:=(.int _ _)) U U U ?_))))))));rw[if_pos h3];exact⟨rfl,o2,by rw[<-Ahk hf];exact hM2,H.tail⟩
    .intro h3;replace h3:=AN h3;refine Gm 6 Br U U ?_;refine BE U (AZ U (A6 El U (BX F3 U (by rintro _ rfl;exact((H.old (Aj hd _) (by rw[qab];exact hbd)))) ?_)));refine AX U (N8 U E4 BV U (by rintro _ rfl;exact H.drew) at0 U ?_);refine BS ?_;replace H:=H.drew;refine JH (GG e) U FT Dc U U U H at1 hM ?_;rintro o2 w hM2 H;refine Ab (A8 (Aa (Ae (Af U (Ad U (qA (A5 (AB (v:=(.int _ _)) U U U ?_))))))));rw[if_neg h3];exact⟨rfl,o2,by rw[<-Ahj hf he];exact hM2,H.tail⟩
theorem QZ{bd b:Nat}{nx k:Int}{o:Obj}{ds:List Du}{fid:FuncId}{cl:List Value}(w:World)(hd:w.heap[bd]?=some (Bl 132 (DU b nx)))(hb:w.heap[b]?=some o)(hM:Df .u64 (dm ds) o)(hbd:bd≠b)(hf:CQ ds k=none) :
  Ret prog 113 #[ptr bd,.int .u64 k,.func (.func fid) #[] cl.toArray] w fun v w'=>v=.int .i64 11/\∃o',Df .u64 (dm ds) o'/\Ctx w [b] w' [(b,o')]:=by
 obtain⟨w0,rfl⟩:=qD w;have H:=Ctx.start1 hb;have hmg:Ea (dm ds) k=none:=by rw[Il,hf];rfl
 refine Au (fn:=f113) func113 U [.pointer (some ⟨bd,0,none⟩),.int .u64 k,.func (.func fid) #[] cl.toArray] U ?_;refine Ae (Ad U (qA (Ax (Ae (A4 U (Cw LV U ?_))))));refine qA (Aw _ U ?_ ?_)
 .intro h0;cases h0
 .intro h0;refine Ay (Aa (Ae (A4 U (A9 U (Ah El U (Bb F3 U ((H.old (Aj hd _) (by rw[qab];exact hbd))) ?_))))));refine Af U (Hk U FT Dc Mp U U H at0 hM ?_);rw[hmg];rw[Option.getD_none,Option.isSome_none];refine Cr U (AH U U (AH U U (Bc DX H ?_)));rintro b7 w - H;refine Bn BV U U U (by exact Dx d00) H at0 U ?_;rintro w H;refine Ai U (qA (Ax (Ae (A2 U (BP U (qA (Aw _ U ?_ ?_)))))))
  .intro h1;replace h1:=BM h1;refine Ae (Ad U (qA (A5 (Av (AB (v:=(.int _ _)) U U U ?_)))));exact⟨rfl,o,hM,H.tail⟩
  .intro h1;replace h1:=BN h1;cases h1
theorem Aqy{P:Program}{ops rest:List Oper}{e:Env}{dst:Option Tmp}{ty:TypeId}{pos:String}{af:Array Edge}{g:Option (Nat × Bool)}{C:World->Prop}{K:Env->Prop}{t t2:TypeId}{x y:Operand}{a b:Bool}(ht:P.underlying t=some .bool)(hg:AV ⟨dst,.binOp .eql t x y t2,ty,pos,af,g⟩ ops e=true)(hx:ev e x=.bool a)(hy:ev e y=.bool b)(h:Wq P ops C K rest (put e dst (.bool (a == b)))):Wq P ops C K (⟨dst,.binOp .eql t x y t2,ty,pos,af,g⟩::rest) e :=
 Et hg (fun w _=>by
  have hq:eqGuard .eql t x y (.bool a) (.bool b)=pure ():=rfl;have he:∀d w,(Op.equalIn (d+1) t (.bool a) (.bool b)).run P w=.ok (a == b) w:=fun d w=>by simp[Op.equalIn,AO ht]
  simp only[execOp,hx,hy,hq,Sem.run_bind,Sem.run_pure,Result.andThen_ok,binOp,Op.equal,Op.maxDepth,he 9999]) h
theorem Th{ds:List Du}{nx:Int}(h:ofC ds nx=0):(ds.map Du.id).Nodup:=(Ie h).2.imp fun h=>Int.ne_of_lt h
theorem Ahl{b7 bi:Nat}{d:Du}{b:Bool}(w:World)(h7:w.heap[b7]?=some (Bl 118 (Dn d)))(hi:w.heap[bi]?=some (Bl 4 [.bool b]))(hne:bi≠b7) :
  Ret prog 139 #[ptr b7,ptr bi] w fun v w'=>v=.int .i64 (if d.held=b then 14 else 0)/\Ctx w [b7] w' [(b7,Bl 118 (Dn (if d.held=b then d else{ d with held:=b })))]:=by
 obtain⟨w0,rfl⟩:=qD w;have H:=Ctx.start1 h7;have hn:bi∉[b7]:=by rw[qab];exact hne
 refine Au (fn:=f139) func139 U [.pointer (some ⟨b7,0,none⟩),.pointer (some ⟨bi,0,none⟩)] U ?_;refine Ae (Ad U (qA (Ax (DT (fun x=>x=_) Br U ?_))));refine BE U (AZ U (A6 KO U (Cj LI U (by rintro _ rfl;exact H.drew) at0 U ?_)));refine BX LI U (by rintro _ rfl;exact((H.old (Aj hi _) hn))) ?_;refine Aqy un_4 U U U (BS ?_);rintro _ rfl;replace H:=H.drew;refine Aw _ U ?_ ?_
 .intro h1;have h1':d.held=b:=by simpa using h1
  refine Ae (Ad U (qA (A5 (Av (AB (v:=(.int _ _)) U U U ?_)))));rw[if_pos h1',if_pos h1'];exact⟨rfl,H⟩
 .intro h1;have h1':¬d.held=b:=by simpa using h1
  refine Ay (Aa (Ae (A4 U (Bb LI U ((H.old (Aj hi _) hn)) ?_))));refine A9 U (Ah KO U (Cb (.bool _) Aac U U U H at0 (by(simp;done)) ?_));rintro w H;refine qA (Ae (Ad U (qA (A5 (AB (v:=(.int _ _)) U U U ?_)))));rw[if_neg h1',if_neg h1'];exact⟨rfl,H⟩
theorem XR{b7:Nat}{d:Du}(w:World)(h7:w.heap[b7]?=some (Bl 118 (Dn d))) :
  Ret prog 114 #[ptr b7] w fun v w'=>v=.int .i64 0/\Ctx w [b7] w' [(b7,Bl 118 (Dn { d with am:=0 }))]:=by
 obtain⟨w0,rfl⟩:=qD w;have H:=Ctx.start1 h7;refine Au (fn:=f114) func114 U [.pointer (some ⟨b7,0,none⟩)] U ?_;refine Ae (Ad U (qA (Ae (A4 U (A9 U (Ah ER U (Cb (.int _ _) BD U U U H at0 (by(simp;done)) ?_)))))));rintro w H;refine qA (Ae (Ad U (qA (A5 (AB (v:=(.int _ _)) U U U ?_)))));exact⟨rfl,H⟩
theorem Zw{bd b:Nat}{nx k:Int}{o:Obj}{ds:List Du}(h:Bool)(w:World)(hd:w.heap[bd]?=some (Bl 132 (DU b nx)))(hb:w.heap[b]?=some o)(hM:Df .u64 (dm ds) o)(hbd:bd≠b)(hof:ofC ds nx=0) :
  Ret prog 112 #[ptr bd,.int .u64 k,.bool h] w fun v w'=>v=.int .i64 (LM ds k h)/\∃o',Df .u64 (dm (Jn ds k h)) o'/\Ctx w [b] w' [(b,o')]:=by
 obtain⟨w0,rfl,H⟩:=qE w;have hbl:=Bd hb
 have hT:∀(bi:Nat) (w:World),w0.heap.size<=bi->Ext [] w0 w->w.heap[bi]?=some (Bl 4 [.bool h])->Ret prog 113 #[ptr bd,.int .u64 k,.func (.func 139) #[] [ptr bi].toArray] w fun v w'=>v=.int .i64 (LM ds k h)/\∃o',Df .u64 (dm (Jn ds k h)) o'/\Ctx w [b] w' [(b,o')]:=fun bi w hbi hx hi=>by
  cases hf:CQ ds k with
  |none =>
   have hc:LM ds k h=11:=by unfold LM;rw[hf]
   refine Ret.mono (QZ w (hx.to hd (by simp)) (hx.to hb (by simp)) hM hbd hf) fun v w' ⟨h1,o',h2,h3⟩=>⟨by rw[hc];exact h1,o',?_,h3⟩;rw[Wf (by rw[hc];decide)];exact h2
  |some d =>
   have hid:=(I9 hf).2;have hm:=Ei ((Ie hof).1 d (I9 hf).1).1;have hc:LM ds k h=if d.held=h then 14 else 0:=by unfold LM;rw[hf]
   refine Ret.mono (Wj (e:=if d.held=h then d else{ d with held:=h }) w (hx.to hd (by simp)) (hx.to hb (by simp)) hM hbd hf (by split <;> exact hid) qB fun b7 w' hb7 hx' h7=>Ahl w' h7 (hx'.to hi (by rw[qab];omega)) (by have:=Bd hi;omega)) fun v w' ⟨h1,o',h2,h3⟩=>⟨by rw[hc];exact h1,o',?_,h3⟩
   by_cases hh:d.held=h
   .rw[if_pos hh,if_pos hh]at h2;rw[Wf (by rw[hc,if_pos hh];decide)];exact h2
   .rw[if_neg hh,if_neg hh]at h2;unfold trnD at h2;rw[if_neg (by decide),if_neg (by show ¬d.am=0;omega),Wi (Th hof) hf]at h2;unfold Jn;rw[hc,if_neg hh,if_pos rfl];exact h2
 refine Au (fn:=f112) func112 U [.pointer (some ⟨bd,0,none⟩),.int .u64 k,.bool h] U ?_;refine Ae (Bu _ (.bool _) U U H ?_);rintro b5 w - H;refine Ad U (qA (Ae (A4 U (Af U (Cq [.pointer _] U (Al qB (hT b5 _ ((H.own _ (qak ..)).elim (fun h=>by cases h) id) H.ext (H.get at0)) U ?_))))));rintro v w ⟨rfl,o',hM',H2⟩;refine Ad U (qA (A5 (AB (v:=(.int _ _)) U U U ?_)));have H3:=H.ext.mono (S':=[b]) (by simp);exact⟨rfl,o',hM',⟨H3.trans H2.ext,H2.blk,H2.nd,fun y hy=>by rw[qab.1 hy];exact .inl (qab.2 rfl)⟩⟩
section
variable {bd b:Nat}{nx:Int}{o:Obj}{ds:List Du}
theorem Akw{k:Int}(w:World)(hd:w.heap[bd]?=some (Bl 132 (DU b nx)))(hb:w.heap[b]?=some o)(hM:Df .u64 (dm ds) o)(hbd:bd≠b)(hof:ofC ds nx=0) :
  Ret prog 76 #[ptr bd,.int .u64 k] w fun v w'=>v=.int .i64 (LM ds k true)/\∃o',Df .u64 (dm (Jn ds k true)) o'/\Ctx w [b] w' [(b,o')]:=by
 obtain⟨w0,rfl⟩:=qD w;refine Au (fn:=Tryz.f76) func76 U [.pointer (some ⟨bd,0,none⟩),.int .u64 k] U ?_;refine Ae (Ad U (qA (Ae (A4 U (Af U (Al qB (Zw true _ hd hb hM hbd hof) U ?_))))));rintro v w ⟨rfl,E⟩;refine Ad U (qA (A5 (AB (v:=(.int _ _)) U U U ?_)));exact⟨rfl,E⟩
theorem XS{k:Int}(w:World)(hd:w.heap[bd]?=some (Bl 132 (DU b nx)))(hb:w.heap[b]?=some o)(hM:Df .u64 (dm ds) o)(hbd:bd≠b)(hof:ofC ds nx=0) :
  Ret prog 77 #[ptr bd,.int .u64 k] w fun v w'=>v=.int .i64 (LM ds k false)/\∃o',Df .u64 (dm (Jn ds k false)) o'/\Ctx w [b] w' [(b,o')]:=by
 obtain⟨w0,rfl⟩:=qD w;refine Au (fn:=f77) func77 U [.pointer (some ⟨bd,0,none⟩),.int .u64 k] U ?_;refine Ae (Ad U (qA (Ae (A4 U (Af U (Al qB (Zw false _ hd hb hM hbd hof) U ?_))))));rintro v w ⟨rfl,E⟩;refine Ad U (qA (A5 (AB (v:=(.int _ _)) U U U ?_)));exact⟨rfl,E⟩
theorem Wk{k:Int}(w:World)(hd:w.heap[bd]?=some (Bl 132 (DU b nx)))(hb:w.heap[b]?=some o)(hM:Df .u64 (dm ds) o)(hbd:bd≠b)(hof:ofC ds nx=0) :
  Ret prog 113 #[ptr bd,.int .u64 k,.func (.func 114) #[] #[]] w fun v w'=>v=.int .i64 (Pp ds k)/\∃o',Df .u64 (dm (Ut ds k)) o'/\Ctx w [b] w' [(b,o')]:=by
 cases hf:CQ ds k with
 |none =>
  have hc:Pp ds k=11:=by unfold Pp;rw[hf]
  refine Ret.mono (QZ (cl:=[]) w hd hb hM hbd hf) fun v w' ⟨h1,o',h2,h3⟩=>⟨by rw[hc];exact h1,o',?_,h3⟩;rw[Ag6 (by rw[hc];decide)];exact h2
 |some d =>
  have hid:=(I9 hf).2;have hc:Pp ds k=0:=by unfold Pp;rw[hf]
  refine Ret.mono (Wj (cl:=[]) (e:={ d with am:=0 }) w hd hb hM hbd hf hid qB fun b7 w' hb7 hx' h7=>XR w' h7) fun v w' ⟨h1,o',h2,h3⟩=>⟨by rw[hc];exact h1,o',?_,h3⟩;unfold trnD at h2;rw[if_neg (by decide),if_pos rfl,Pg (Th hof)]at h2;exact h2
theorem Abx{k:Int}(w:World)(hd:w.heap[bd]?=some (Bl 132 (DU b nx)))(hb:w.heap[b]?=some o)(hM:Df .u64 (dm ds) o)(hbd:bd≠b)(hof:ofC ds nx=0) :
  Ret prog 78 #[ptr bd,.int .u64 k] w fun v w'=>v=.int .i64 (Pp ds k)/\∃o',Df .u64 (dm (Ut ds k)) o'/\Ctx w [b] w' [(b,o')]:=by
 obtain⟨w0,rfl⟩:=qD w;refine Au (fn:=f78) func78 U [.pointer (some ⟨bd,0,none⟩),.int .u64 k] U ?_;refine Ae (Ad U (qA (Ae (A4 U (Af U (Al qB (Wk _ hd hb hM hbd hof) U ?_))))));rintro v w ⟨rfl,E⟩;refine Ad U (qA (A5 (AB (v:=(.int _ _)) U U U ?_)));exact⟨rfl,E⟩
end
def U0(ds:List Du)(u:Int)(i:Nat):List Du:=(ds.take i).filter (fun d=>decide (u<=d.un))++ds.drop i
def IG(ds:List Du)(u:Int)(i:Nat):List Value:=((ds.take i).filter fun d => !decide (u<=d.un)).map fun d => .int .u64 d.id
theorem Akx{X Y:List Du}{d:Du}(h:∀x∈X,x.id≠d.id):Mg (dm (X++d::Y)) d.id=dm (X++Y):=by
 induction X with
 |nil=>show(if d.id=d.id then dm Y else _)=_;rw[if_pos rfl];rfl
 |cons x X ih =>
  show(if x.id=d.id then _ else(x.id,GG x)::Mg (dm (X++d::Y)) d.id)=_;rw[if_neg (h x (qak ..)),ih fun y hy=>h y (qaj _ hy)];rfl
theorem Ahm{ds:List Du}{u nx:Int}{i:Nat}{d:Du}(hof:ofC ds nx=0)(hd:ds[i]?=some d) :
  (u<=d.un->U0 ds u (i+1)=U0 ds u i/\IG ds u (i+1)=IG ds u i)/\(¬u<=d.un->Mg (dm (U0 ds u i)) d.id=dm (U0 ds u (i+1))/\IG ds u (i+1)=IG ds u i++[.int .u64 d.id]):=by
 have hil:=CD hd;have ht:ds.take (i+1)=ds.take i++[d]:=qb6.trans (by rw[hd];rfl)
 have hdr:ds.drop i=d::ds.drop (i+1):=by
  have h1:=qdc hil;have h2:=qbl hil;rw[hd]at h2
  injection h2 with h2
  rw[h1,h2]
 have hn:∀x∈ds.take i,x.id≠d.id:=fun x hx=>by
  have h1:=(Ie hof).2;rw[<-qbq i ds,qav,qcd,hdr]at h1;exact Int.ne_of_lt (h1.2.2 x.id (qa4 hx) d.id (qa4 (qak ..)))
 constructor
 .intro h;unfold U0 IG;rw[ht,qcp,qcp,hdr];constructor
  .rw[qbw,if_pos (by simpa using h),qep,qas];rfl
  .rw[qbw,if_neg (by simpa using h),qep,qa0]
 .intro h;unfold U0 IG;rw[ht,qcp,qcp,hdr];constructor
  .rw[qbw,if_neg (by simpa using h),qep,qa0];exact Akx fun x hx=>hn x (qbe.1 hx).1
  .rw[qbw,if_pos (by simpa using h),qep,qav];rfl
theorem Ahn(ds:List Du)(u:Int):(IG ds u ds.length).length=ds.length - (Oa ds u).length/\U0 ds u ds.length=Oa ds u:=by
 unfold IG U0 Oa;rw[qbm,List.drop_length,qa0,qal];refine⟨?_,rfl⟩
 induction ds with
 |nil=>rfl
 |cons d ds ih =>
  have h1:=qdz (fun d=>decide (u<=d.un)) ds;rw[qbw,qbw]
  by_cases h:u<=d.un
  .rw[if_neg (by simpa using h),if_pos (by simpa using h),qa9,qa9,ih];omega
  .rw[if_pos (by simpa using h),if_neg (by simpa using h),qa9,qa9,ih];omega
structure ExS where
 i:Nat
 o:Obj
 a:Option Addr
 c:Nat
 full:List Value
theorem Aby{bd b:Nat}{nx u:Int}{o:Obj}{ds:List Du}(w:World)(hd:w.heap[bd]?=some (Bl 132 (DU b nx)))(hb:w.heap[b]?=some o)(hM:Df .u64 (dm ds) o)(hbd:bd≠b)(hof:ofC ds nx=0) :
  Ret prog 79 #[ptr bd,.int .i64 u] w fun v w'=>∃o',Df .u64 (dm (Oa ds u)) o'/\Ctx w [b] w' [(b,o')]/\∃a c,v=.slice a (ds.length - (Oa ds u).length) c:=by
 obtain⟨w0,rfl⟩:=qD w;obtain⟨h64,-,h3,-⟩:=FA hof;have hbl:=Bd hb;refine Au (fn:=f79) func79 U [.pointer (some ⟨bd,0,none⟩),.int .i64 u] U ?_;refine Ae (Am U (qA (Ae (Am U (qA (Ax (Ae (A4 U (Al qB (Nh _ hd hb hM (Lq hof)) U ?_)))))))));rintro v w ⟨ds',hS,F⟩;have hde:=Nn hS (Kc h3).2.1;rw[hde]at F;obtain⟨a3,n3,c3,f3,rfl,O3,hb3⟩:=F.ex;obtain rfl:=O3.numN (fun _ _=>rfl) (by decide);have hx9:=F.ext;refine Be D9 U (Af U (qA (A1 ?_)));obtain⟨w1,rfl⟩:=qD w;have R:Rd w1 a3 7 Dn ds:=OS.rd O3 (fun x hx=>(hb3 x hx).1) (fun _ _=>rfl) (by decide)
 have hnb:ds≠[]->(adr a3).block∉[b]:=fun hne=>by
  have hpos:=qb2.2 hne;obtain⟨q,rfl⟩:=O3.form hpos;have h1:=(hb3 (q,Bl 118 f3) (qab.2 rfl)).2;rw[qab];show ¬q=b;dsimp only at h1;omega
 have H:=Ctx.start1 (hx9.to hb (by simp));have hd1:=hx9.to hd (by simp);have hn:bd∉[b]:=by rw[qab];exact hbd
 refine Bw 2147481760 (α:=ExS) (fun t=>[(5,.slice t.a (IG ds u t.i).length t.c),(11,.int .i64 (t.i:Int))]) (fun t w'=>t.i<=ds.length/\Df .u64 (dm (U0 ds u t.i)) t.o/\OS t.a (IG ds u t.i).length t.c 1 t.full (IG ds u t.i)/\Ctx w1 [b] w' ((b,t.o)::ent t.a 23 t.full)) (fun t=>ds.length - t.i) ⟨0,o,none,0,[]⟩ U ?_ ?_ ?_
 .exact⟨rfl,rfl,trivial⟩
 .exact⟨qaq _,hM,OS.nil,H⟩
 .rintro⟨i,o,a,c,full⟩ j w ⟨hi,hM,O,H⟩;dsimp only at hi hM O H;dsimp only;refine Ae (Bm U U (qA (Ax (Aw _ U ?_ ?_))))
  .intro h1;replace h1:=AM h1;obtain⟨d,hdi⟩:=AE (l:=ds) (i:=i);have hne:ds≠[]:=fun h=>by rw[h]at hdi;cases hdi
   have hdl:(IG ds u i).length<=ds.length:=by unfold IG;rw[qal];exact qa6 (qdz ..) (by rw[qbb];omega)
   obtain⟨hs1,hs2⟩:=Ahm (u:=u) hof hdi;refine Ay (Aa (Ax (A1 (Ae (Bg R D9 BV U U (by rfl) ?_)))));refine C9 _ E4 BV U U (((R.ext' H.ext fun _=>hnb hne).row hdi U)) (Bc DX H ?_);rintro b7 w - H;refine Bn BV U U U (by exact Dx _) H at0 U ?_;rintro w H;refine qA (Ae (Ah Qt U (AG B4 U H at0 U (Af U (Bm U U (qA (Aw _ U ?_ ?_)))))))
   .intro h2;replace h2:=AM h2;obtain⟨hs3,hs4⟩:=hs2 (by omega);have hl4:(IG ds u (i+1)).length=(IG ds u i).length+1:=by rw[hs4,qat,qb9]
    refine Ae (Ap U (Ah FX U (AG B6 U H at0 U (Cp _ (.int _ _) Bh Bq Q2 U U U U H ?_))));rintro b22 w - H;refine Cy (L:=[_,_]) Bh Bh Bq Y0 Q2 U U U H O U (by simp[AY]) ?_;rintro a' c' full' w H O;refine Am U (qA (Gm 6 Br U U ?_));refine BE U (AZ U (A6 El U (BX F3 U (by rintro _ rfl;exact((H.drew.old (Aj hd1 _) hn))) ?_)));refine A6 FX U (Cj B6 U (by rintro _ rfl;exact H.drew) at0 U ?_);refine BS ?_;replace H:=H.drew;refine NF U FT Dc U U H at1 hM ?_;rintro o2 w hM2 H;refine Ab (A8 (Aa (A0 (Az U U ?_))));refine Af U (qA ?_);rw[hs3]at hM2;exact⟨⟨i+1,o2,a',c',full'⟩,rfl,⟨by dsimp only;rw[hl4];rfl,rfl,trivial⟩,⟨by dsimp only;omega,hM2,by dsimp only;rw[hl4,hs4];exact O,H.tail⟩,by dsimp only;omega⟩
   .intro h2;replace h2:=AN h2;obtain⟨hs3,hs4⟩:=hs1 (by omega);refine Ay (A8 (Aa (A0 (Az U U ?_))));refine Af U (qA ?_);exact⟨⟨i+1,o,a,c,full⟩,rfl,⟨by dsimp only;rw[hs4];rfl,rfl,trivial⟩,⟨by dsimp only;omega,by dsimp only;rw[hs3];exact hM,by dsimp only;rw[hs4];exact O,H.tail⟩,by dsimp only;omega⟩
  .intro h1;replace h1:=AN h1;obtain rfl:i=ds.length:=by omega
   obtain⟨g1,g2⟩:=Ahn ds u;rw[g2]at hM;refine Bt (An (An (AK (Aa (Ae (Ap U (Am U (qA (A5 (AB (v:=(.slice _ _ _)) U U U ?_))))))))));exact⟨o,hM,⟨(hx9.mono (by simp)).trans H.ext,fun y hy=>H.blk y (qai.2 (.inl (qab.1 hy))),by simp,fun y hy=>by rw[qab.1 hy];exact .inl (qab.2 rfl)⟩,a,c,by rw[g1]⟩
theorem Aho{bd b:Nat}{nx:Int}{o:Obj}{ds:List Du}(fr to x we un:Int)(w:World)(hd:w.heap[bd]?=some (Bl 132 (DU b nx)))(hb:w.heap[b]?=some o)(hM:Df .u64 (dm ds) o)(hbd:bd≠b)(hof:ofC ds nx=0) :
  Ret prog 75 #[ptr bd,.int .i64 fr,.int .i64 to,.int .i64 x,.int .i64 we,.int .i64 un] w fun v w'=>v=.tuple #[.int .u64 (if J8 ds nx fr to x we un=0 then nx else 0),.int .i64 (J8 ds nx fr to x we un)] /\
   ∃o',Df .u64 (dm (NZ ds nx fr to x we un)) o'/\Ctx w [bd,b] w' [(bd,Bl 132 (DU b (QS ds nx fr to x we un))),(b,o')]:=by
 obtain⟨w0,rfl⟩:=qD w
 have H:Ctx w0 [bd,b] w0 [(bd,Bl 132 (DU b nx)),(b,o)]:=⟨Ext.refl _ _,fun y hy=>by
  simp only[qai,qau,or_false]at hy
  rcases hy with rfl|rfl
  .exact hd
  .exact hb,by simp only[qbx,qab,forall_eq,qau,false_implies,implies_true,List.Pairwise.nil,and_true];exact hbd,fun y hy=>by
  simp only[qai,qau,or_false]at hy
  rcases hy with rfl|rfl
  .exact .inl (qak ..)
  .exact .inl (qaj _ (qak ..))⟩
 obtain⟨hlen,hnx,-,-⟩:=FA hof;have hnew:∀x∈ds,x.id≠nx:=fun x hx=>Int.ne_of_lt ((Ie hof).1 x hx).2.2;have hdl:(dm ds).length=ds.length:=by unfold dm;rw[qal]
 have hno:Ea (dm ds) nx=none:=SN hnew;obtain⟨d,hdd⟩:=qD (Agw nx fr to x we un);obtain⟨tt,htt⟩:=qD (Fl (ds.map Du.am++[x]));have henc:[Value.int .u64 nx,.int .i64 fr,.int .i64 to,.int .i64 x,.int .i64 we,.int .i64 un,.bool false]=Dn d:=by rw[hdd];rfl
 have hadd:J8 ds nx fr to x we un=if E7 d=false then 1 else if 64<=ds.length\/4611686018427387904<=nx then 6 else if tt.2≠0 then 13 else 0:=by rw[htt,hdd];rfl
 have herr:∀c,c≠0->J8 ds nx fr to x we un=c->NZ ds nx fr to x we un=ds/\QS ds nx fr to x we un=nx:=fun c h0 hc=>add_none (by rw[hc];exact h0);refine Au (fn:=Tryz.f75) func75 U [.pointer (some ⟨bd,0,none⟩),.int .i64 fr,.int .i64 to,.int .i64 x,.int .i64 we,.int .i64 un] U ?_;refine Ae (Ad U (Ad U (qA (Ax (Ae (A4 U (Cw LV U ?_)))))));refine qA (Aw _ U ?_ ?_)
 .intro h0;cases h0
 .intro h0;refine Ay (Aa (Ae (A4 U (A9 U (Ah KQ U (AG B6 U H at0 U (Af U (Af U (Af U (Af U ?_))))))))));refine Af U (BA (Dn d) Apo DX (hl:=by rw[<-henc];kernel_rfl) ?_);refine Bc DX H ?_;rintro b14 w - H;refine Bn BV U U U (by exact Dx d) H at0 U ?_;rintro w H;refine qA (Ax (A1 (Ae (Cg E4 BV U H at0 U (Al qB (Zc d _) U ?_)))));rintro v w ⟨rfl,hx31⟩;replace H:=H.call hx31;refine BP U (Ai U (qA (Aw _ U ?_ ?_)))
  .intro h1;replace h1:=BM h1
   have hm:E7 d=false:=by cases hh:E7 d with|false=>rfl|true=>rw[hh]at h1;cases h1
   have hc:J8 ds nx fr to x we un=1:=by rw[hadd,if_pos hm]
   obtain⟨hc1,hc2⟩:=herr 1 (by decide) hc;refine Ae (Ad U (Ad U (qA (A5 (AF (Av (Cf (v1:=(.int _ _)) (v2:=(.int _ _)) U U U U ?_)))))));rw[hc,hc1,hc2,if_neg (by decide)];exact⟨rfl,o,hM,H.tail⟩
  .intro h1;replace h1:=BN h1
   have hm:E7 d=true:=by cases hh:E7 d with|true=>rfl|false=>rw[hh]at h1;cases h1
   rw[hm]at hadd;rw[if_neg (by decide)]at hadd;refine Ax (Ae (A4 U (A9 U (Ah El U (AG F3 U H at1 U (Akg U FT U (H.get at2) hM ?_))))));rw[hdl];refine CM U U (Ai U (qA (Dj 33 U ?_ ?_)))
   .intro h2;replace h2:=AM h2;have hc:J8 ds nx fr to x we un=6:=by rw[hadd,if_pos (.inl (by omega))]
    obtain⟨hc1,hc2⟩:=herr 6 (by decide) hc;refine Ay (Aa (DB U (Ae (Ad U (Ad U (qA (A5 (AF (Av (Cf (v1:=(.int _ _)) (v2:=(.int _ _)) U U U U ?_))))))))));rw[hc,hc1,hc2,if_neg (by decide)];exact⟨rfl,o,hM,H.tail⟩
   .intro h2;replace h2:=AN h2;refine A0 (A4 U (A9 U (Ah KQ U (AG B6 U H at1 U (CM U U (Ai U (qA (Dj 33 U ?_ ?_))))))))
    .intro h3;replace h3:=AM h3;have hc:J8 ds nx fr to x we un=6:=by rw[hadd,if_pos (.inr (by omega))]
     obtain⟨hc1,hc2⟩:=herr 6 (by decide) hc;refine Ae (Ad U (Ad U (qA (A5 (AF (Av (Cf (v1:=(.int _ _)) (v2:=(.int _ _)) U U U U ?_)))))));rw[hc,hc1,hc2,if_neg (by decide)];exact⟨rfl,o,hM,H.tail⟩
    .intro h3;replace h3:=AN h3;rw[if_neg (by omega)]at hadd;refine Ay (A8 (Aa (Ax (Ae (A4 U (Al qB (QK _ (H.get at1) (H.get at2) hM) U ?_))))));rintro v w ⟨l,hlp,F⟩;obtain⟨a3,n3,c3,f3,rfl,O3,hb3⟩:=F.ex;have hl3:=O3.llen;rw[qal]at hl3;have hlq:=hlp.length_eq;rw[qal]at hlq;replace H:Ctx w0 [bd,b] w ([(b14,Bl 118 (Dn d)),(bd,Bl 132 (DU b nx)),(b,o)]++ent a3 2 f3):=H.callEnt F.ext hb3 Fu;refine Af U (Cp _ (.int _ _) Bf BD Fh U U U U H ?_);rintro b49 w - H;refine Cy (L:=[_,_,_]) Bf Bf BD Mn Fh U U U H O3 U (by simp[AY]) ?_;rintro a' c' full' w H O;refine Al qB (Ng a' (n3+1) c' (l++[x]) _ (OS.rd1 (f:=Eb) (t:=2) (xs:=l++[x]) (by rw[qav];exact O) (fun y hy=>H.blk y (qaf [_,_,_] hy))) (by rw[qat];show l.length+1=_;omega)) U ?_
     rintro v w ⟨rfl,rfl⟩;rw[SM (hlp.append_right [x])];rw[<-htt];refine Cr U (AH U U (AH U U (Ad U (Ad U (qA (Ae (Af U (CK U U (qA ?_)))))))));refine Aw _ U ?_ ?_
     .intro h4;replace h4:=CY h4
      have ht13:tt.2=13:=by
       rw[htt]at h4 |-;have hxm:=CT.2 (show 0<=x/\x<=4503599627370496 by obtain⟨-,-,-,hxa,-⟩:=Ei hm;rw[hdd]at hxa;change 1<=x/\x<=_ at hxa;exact⟨by omega,hxa.2⟩)
       have hall:(ds.map Du.am++[x]).all Dp=true:=by
        rw[List.all_append,qae];refine⟨qaw.2 fun y hy=>?_,by simpa using hxm⟩;exact(D7.1 (FJ.1 hof).2.2.2).1 y hy
       unfold Fl at h4 |-;rw[if_neg (by rw[hall];decide)]at h4 |-
       split at h4
       .exact absurd U h4
       .rename_i hh;rw[if_neg hh]
      have hc:J8 ds nx fr to x we un=13:=by rw[hadd,if_pos (by rw[ht13];decide)]
      obtain⟨hc1,hc2⟩:=herr 13 (by decide) hc;refine Ae (Af U (Ad U (Ad U (qA (A5 (Av (Cf (v1:=(.int _ _)) (v2:=(.int _ _)) U U U U ?_)))))));rw[hc,hc1,hc2,if_neg (by decide),ht13];exact⟨rfl,o,hM,H.left.tail⟩
     .intro h4;replace h4:=CZ h4;have hc:J8 ds nx fr to x we un=0:=by rw[hadd,if_neg (by omega)]
      replace H:=H.left;refine Ay (Aa (Ej 7 Br U U ?_));refine BE U (AZ U (A6 El U (Cj F3 U (by rintro _ rfl;exact H.drew) at1 U ?_)));refine A6 FX U (Cj B6 U (by rintro _ rfl;exact H.drew) at0 U ?_);refine N8 U E4 BV U (by rintro _ rfl;exact H.drew) at0 U ?_;refine BS ?_;replace H:=H.drew;refine JH (GG d) U FT Dc U U U H at2 hM ?_;rintro o2 w hM2 H;refine qA (Ae (A4 U (A9 U (Ah KQ U (AG B6 U H at1 U (EI U U ?_))))));refine A9 U (Ah KQ U (Cb (.int _ _) Bq U U U H at1 (by(simp;done)) ?_));rintro w H;refine qA (Ae (Ah FX U (AG B6 U H at0 U (Ad U (Ad U (qA (A5 (Cf (v1:=(.int _ _)) (v2:=(.int _ _)) U U U U ?_))))))));have hid:d.id=nx:=by rw[hdd];rfl
      rw[<-hid]at hno;rw[Agd hno]at hM2;unfold NZ QS;rw[hc,if_pos rfl,if_pos rfl,if_pos rfl];rw[hdd]at hM2 |-;exact⟨rfl,o2,hM2,H.tail⟩
def newA(kd:Int)(a:Ac)(x:Int):Ac:=if kd=2 then⟨a.ba+x,a.re⟩else if kd=3 then⟨a.ba - x,a.re⟩else⟨a.ba,x⟩
def bankC(kd:Int)(acs:List Ac)(k x:Int):Int:=if kd=2 then GH acs k x else if kd=3 then Gg acs k x else M1 acs k x
def bankA(kd:Int)(acs:List Ac)(k x:Int):List Ac:=if kd=2 then Fm acs k x else if kd=3 then EY acs k x else HM acs k x
def liteC(kd:Int)(is:Bool)(a:Ac)(x:Int):Int :=
 if is=false then 10
 else if kd=2 then(if(decide (0<x) && Dp x)=false then 1 else 0)
 else if kd=3 then(if(decide (0<x) && Dp x)=false then 1 else if a.ba<x then 12 else 0)
 else if Dp x=false then 1 else 0
def Ti(N M:Int)(xs ys:List Ed):Bool:=decide (N=M) && decide (xs=ys)
theorem XT(N M:Int)(a b:Option Addr)(n c m d:Nat)(xs ys:List Ed)(w:World)(R:Rd w a 4 CO xs)(hn:xs.length=n)(hn2:n<=1000000)(Ry:Rd w b 4 CO ys)(hm:ys.length=m)(hm2:m<=1000000) :
  Ret prog 125 #[Eo N a n c,Eo M b m d] w fun v w'=>v=.bool (Ti N M xs ys)/\Ext [] w w':=by
 subst hn hm;obtain⟨w0,rfl,H⟩:=qE w;refine Au (fn:=f125) func125 U [Eo N a xs.length c,Eo M b ys.length d] U (Ae (Bu [.int .i64 N,.slice a xs.length c] (.agg _) U U H ?_));rintro b2 w - H;refine Bu [.int .i64 M,.slice b ys.length d] (.agg _) U U H ?_;rintro b3 w - H;refine Ai U (qA (Ax (Ae (Ci (α:=Unit) 1048512 (fun _=>[(19,.bool (!(decide (N=M) && decide (xs.length=ys.length))))]) (fun _ w'=>Ctx w0 [] w' [(b3,Bl 123 [.int .i64 M,.slice b ys.length d]),(b2,Bl 123 [.int .i64 N,.slice a xs.length c])]) U ?_ ?_))))
 .refine Ah Ev U (AG Cc U H at1 U (Ah Ev U (AG Cc U H at0 U (CK U U (A2 U (AR 11 U ?_ ?_))))))
  .intro h1;replace h1:=CY h1;refine Ag U (Ag U (Ag U (Ag U (Ag U (Ag U (Ag U (AA U (.bool _) U (Ab ?_))))))));exact⟨rfl,(),rfl,⟨qaa Value.bool (by rw[qad];simp_all;try omega),trivial⟩,H⟩
  .intro h2;replace h2:=CZ h2;refine Ah CL U (AG DM U H at1 U (Be CF U (Ah CL U (AG DM U H at0 U (Be CF U (CK U U (AJ U (.bool _) U (Ab ?_))))))));exact⟨rfl,(),rfl,⟨qaa Value.bool (by rw[qad];simp_all;try omega),trivial⟩,H⟩
 rintro - j19 w H;refine Aw _ U ?_ ?_
 .intro h1;replace h1:=BM h1;refine Ae (Ai U (qA (A5 (Av (AB (v:=(.bool _)) U U U ?_)))));have h1':¬(N=M/\xs.length=ys.length):=by simpa using h1
  refine⟨qaa Value.bool ?_,H.ext⟩;unfold Ti
  by_cases h2:N=M
  .rw[qan h2,qa2 (fun h=>h1' ⟨h2,by rw[h]⟩)];rfl
  .rw[qa2 h2];rfl
 .intro h1;replace h1:=BN h1;have h1':N=M/\xs.length=ys.length:=by simpa using h1
  have hsb:Ti N M xs ys=decide (xs=ys):=by unfold Ti;rw[qan h1'.1];rfl
  have hle:=h1'.2;rw[hsb];refine Ay (Aa (Ax (Ae (Ad U (qA (A1 (Bw 274876858416 (α:=Nat) (fun i=>[(5,.int .i64 (i:Int))]) (fun i w'=>i<=xs.length/\Ctx w0 [] w' [(b3,Bl 123 [.int .i64 M,.slice b ys.length d]),(b2,Bl 123 [.int .i64 N,.slice a xs.length c])]/\∀(k:Nat) (x y:Ed),k<i->xs[k]?=some x->ys[k]?=some y->x=y) (fun i=>xs.length - i) 0 U ?_ ?_ ?_)))))))
  .exact⟨rfl,trivial⟩
  .exact⟨qaq _,H,fun k x y h=>absurd h (qbd _)⟩
  .clear H;rintro i j w ⟨hi,H,hb⟩;refine Ax (Ae (Af U (Ah CL U (AG DM U H at1 U (Be CF U (Bm U U (qA (Aw _ U ?_ ?_))))))))
   .intro h2;replace h2:=AM h2;obtain⟨x,hx⟩:=AE (l:=xs) (i:=i);obtain⟨y,hy⟩:=AE (l:=ys) (i:=i);refine Ay (Aa (Ax (A1 (DT (fun x=>x=_) Br U ?_))));refine A6 CL U (Cj DM U (by rintro _ rfl;exact H.drew) at1 U ?_);refine AX U (BL R CF CG U U (by rfl) ?_);refine G8 _ GU CG U U (by rintro _ rfl;exact((R.ext0 H.drew.ext).row hx rfl)) ?_;refine A6 CL U (Cj DM U (by rintro _ rfl;exact H.drew) at0 U ?_);refine AX U (BL Ry CF CG U U (by rfl) ?_);refine G8 _ GU CG U U (by rintro _ rfl;exact((Ry.ext0 H.drew.ext).row hy rfl)) ?_;refine Yv (ks:=[true,true,true,true]) (xs:=CO x) (ys:=CO y) (decide (x=y)) U U U ⟨rfl,rfl,rfl,rfl,trivial⟩ (VH x y) ?_;refine BS ?_;rintro _ rfl;replace H:=H.drew;refine Aw _ U ?_ ?_
    .intro h3;refine Ae (Ai U (qA (A5 (AF (Av (Av (AF (Av (AB (v:=(.bool _)) U U U ?_)))))))));have hne:¬x=y:=by simpa using h3
     exact⟨qaa Value.bool (qa2 fun h=>by subst h;rw[hx]at hy;injection hy with hy;exact hne hy).symm,H.ext⟩
    .intro h3;refine Ay (A8 (Aa (A0 (Af U (Az U U ?_)))));refine Ad U (qA ?_);have heq:x=y:=by simpa using h3
     refine⟨i+1,rfl,⟨rfl,trivial⟩,⟨by omega,H,fun k x' y' hk hx' hy'=>?_⟩,by omega⟩
     rcases qap k i with h7|h7
     .exact hb k x' y' h7 hx' hy'
     .obtain rfl:k=i:=by omega
      rw[hx]at hx';rw[hy]at hy';cases hx';cases hy';exact heq
   .intro h2;replace h2:=AN h2;refine Bt (An (An (AK (Aa (Ae (Ai U (qA (A5 (AB (v:=(.bool _)) U U U ?_)))))))));have hin:i=xs.length:=by omega
    rw[hin]at hb;exact⟨qaa Value.bool (qan (Nk hle hb)).symm,H.ext⟩
def RdAt(w:World)(br:Nat)(ds:List Du):Prop:=∃a c nx,w.heap[br]?=some (Bl 0 [.slice a ds.length c,.int .u64 nx])/\Rd w a 7 Dn ds
theorem RdAt.ext0{w w':World}{br:Nat}{ds:List Du}(h:RdAt w br ds)(he:Ext [] w w'):RdAt w' br ds:=by
 obtain⟨a,c,nx,h1,h2⟩:=h;exact⟨a,c,nx,he.to h1 (by simp),h2.ext0 he⟩
abbrev RDU(ad:Option Addr)(m cd:Nat)(nx:Int):Obj:=Bl 0 [.slice ad m cd,.int .u64 nx]
abbrev RX(ba:Nat)(a:Option Addr)(n c:Nat)(full:List Value)(br:Nat)(ad:Option Addr)(m cd:Nat)(nx:Int)(fd:List Value):List (Nat × Obj):=(ba,Bl 0 [.slice a n c])::(br,RDU ad m cd nx)::(ent ad 118 fd++ent a 108 full)
structure RP7 where
 i:Nat
 ad:Option Addr
 cd:Nat
 fd:List Value
structure Four where
 bx:Nat
 a:Option Addr
 c:Nat
 full:List Value
 bd:Nat
 b:Nat
 o:Obj
 ba:Nat
 ra:Option Addr
 rc:Nat
 rfull:List Value
 br:Nat
 ad:Option Addr
 cd:Nat
 fd:List Value
def Four.L(z:Four)(acs:List Ac)(ds:List Du)(nx:Int):List (Nat × Obj):=LX z.bx z.a acs.length z.c z.full z.bd z.b nx z.o++RX z.ba z.ra acs.length z.rc z.rfull z.br z.ad ds.length z.cd nx z.fd
structure Four.Ok(z:Four)(acs:List Ac)(ds:List Du):Prop where
 O:OS z.a acs.length z.c 2 z.full (acs.flatMap Dl)
 M:Df .u64 (dm ds) z.o
 RO:OS z.ra acs.length z.rc 2 z.rfull (acs.flatMap Dl)
 RD:OS z.ad ds.length z.cd 7 z.fd (ds.flatMap Dn)
def Amw(acs:List Ac)(ds:List Du)(nx:Int):Bool:=decide (F9 acs=0) && decide (ofC ds nx=0)
def BothRes(w:World)(acs:List Ac)(ds:List Du)(nx:Int)(v:Value)(w':World):Prop :=
 (Amw acs ds nx=false/\v=.tuple #[.pointer none,.pointer none,.pointer none,.pointer none,.bool false]/\Ext [] w w') \/
  (Amw acs ds nx=true/\∃z:Four,v=.tuple #[ptr z.bx,ptr z.bd,ptr z.ba,ptr z.br,.bool true]/\z.Ok acs ds/\Ctx w [] w' (z.L acs ds nx))
theorem XU{α:Type}(B L R:List α):(B++(L++R)).Perm (L++(B++R)):=by
 classical exact List.perm_iff_count.2 fun x=>by simp only[List.count_append];omega
theorem Ctx.mid{w0 w w':World}{S:List Nat}{B L L' R:List (Nat × Obj)}(H:Ctx w0 S w (B++(L++R)))(H':Ctx w (L.map (·.1)) w' L'):Ctx w0 S w' (B++(L'++R)) :=
 (Ctx.back (H.perm (XU B L R)) H').perm (XU B L' R).symm
theorem Ctx.in'{w0 w:World}{S:List Nat}{B L R:List (Nat × Obj)}(H:Ctx w0 S w (B++(L++R))):Ctx w (L.map (·.1)) w L:=Ctx.lend (H.perm (XU B L R))
theorem LX.ac{bx:Nat}{a:Option Addr}{c:Nat}{full:List Value}{bd b:Nat}{nx:Int}{o:Obj}{acs:List Ac}{w0 w:World}{S:List Nat}(H:Ctx w0 S w (LX bx a acs.length c full bd b nx o))(O:OS a acs.length c 2 full (acs.flatMap Dl)):AcAt w 129 bx acs :=
 ⟨a,c,H.get at0,OS.rd O (fun x hx=>H.blk x (qaj _ (qaj _ (qaj _ hx)))) (fun _ _=>rfl) (by decide)⟩
theorem LX.du{bx:Nat}{a:Option Addr}{n c:Nat}{full:List Value}{bd b:Nat}{nx:Int}{o:Obj}{ds:List Du}{w0 w:World}{S:List Nat}(H:Ctx w0 S w (LX bx a n c full bd b nx o))(hM:Df .u64 (dm ds) o):DuAt w bd ds :=
 ⟨b,nx,o,H.get at1,H.get at2,hM⟩
theorem RX.ac{ba:Nat}{a:Option Addr}{c:Nat}{full:List Value}{br:Nat}{ad:Option Addr}{m cd:Nat}{nx:Int}{fd:List Value}{acs:List Ac}{w0 w:World}{S:List Nat}(H:Ctx w0 S w (RX ba a acs.length c full br ad m cd nx fd))(O:OS a acs.length c 2 full (acs.flatMap Dl)):AcAt w 0 ba acs :=
 ⟨a,c,H.get at0,OS.rd O (fun x hx=>H.blk x (qaj _ (qaj _ (qaf _ hx)))) (fun _ _=>rfl) (by decide)⟩
theorem RX.du{ba:Nat}{a:Option Addr}{n c:Nat}{full:List Value}{br:Nat}{ad:Option Addr}{cd:Nat}{nx:Int}{fd:List Value}{ds:List Du}{w0 w:World}{S:List Nat}(H:Ctx w0 S w (RX ba a n c full br ad ds.length cd nx fd))(O:OS ad ds.length cd 7 fd (ds.flatMap Dn)):RdAt w br ds :=
 ⟨ad,cd,nx,H.get at1,OS.rd O (fun x hx=>H.blk x (qaj _ (qaj _ (qao _ hx)))) (fun _ _=>rfl) (by decide)⟩
theorem ROff.old{w0 w:World}{S:List Nat}{L:List (Nat × Obj)}{q:RSl}{r:Rnd}(H:Ctx w0 S w L)(h:ROff q r (fun x=>x<w.heap.size)):ROff q r (·∈L.map (·.1)) :=
 h.mono fun x hx=>by
  obtain⟨y,hy,rfl⟩:=qah.1 hx;exact Bd (H.blk y hy)
structure RBnd(r:Rnd):Prop where
 N:I64 r.N
 es:r.es.length<=1000000
 ids:r.ids.length<=1000000
 fl:r.fl.length<=1000000
 pot:r.pot.length<=1000000
theorem Ahp{acs:List Ac}{ds:List Du}{net:Bool}{r:Rnd}(P:PlanR acs ds net r):RBnd r:=by
 obtain⟨h1,h2,-⟩:=GY.1 P.chk;obtain⟨g1,g2,g3,-⟩:=CS (C5 (F7 h1).1).2.1;have g4:=(C5 (F7 h1).1).1;have g5:=(Mu h2).1;refine⟨⟨by omega,by omega⟩,by omega,?_,by omega,by omega⟩;rw[P.ids,qal];have:(opn ds).length<=r.es.length:=by rw[P.es,Ic];omega
 omega
theorem Abz{bx bd b c:Nat}{a:Option Addr}{full:List Value}{o:Obj}{acs:List Ac}{ds:List Du}{nx:Int}{r:Rnd}{q:RSl}{w w0:World}{S:List Nat}{B R:List (Nat × Obj)}(ha:F9 acs=0)(hd:ofC ds nx=0)(H:Ctx w0 S w (B++(LX bx a acs.length c full bd b nx o++R)))(O:OS a acs.length c 2 full (acs.flatMap Dl))(hM:Df .u64 (dm ds) o)(RA:RAt w r q)(hoff:ROff q r (·∈(LX bx a acs.length c full bd b nx o).map (·.1)))(hr:RBnd r) :
  Ret prog 81 #[ptr bx,ptr bd,.agg (B9 r q).toArray] w fun v w'=>v=.int .i64 (Fw acs ds r)/\∃full' o',OS a acs.length c 2 full' ((HK acs ds r).flatMap Dl)/\Df .u64 (dm (IE acs ds r)) o' /\
   Ext ((LX bx a acs.length c full bd b nx o).map (·.1)) w w'/\Ctx w0 S w' (B++(LX bx a acs.length c full' bd b nx o'++R)):=by
 refine Ret.mono (Ags ha hd w (Ctx.in' H) O hM RA hoff hr.N hr.es hr.ids hr.fl hr.pot) fun v w' h=>?_;obtain⟨h1,full',o',O',hM',H'⟩:=h;exact⟨h1,full',o',O',hM',H'.ext,Ctx.mid H H'⟩
theorem Zx{a:Option Addr}{t:TypeId}{f g:List Value}:(ent a t f).map (·.1)=(ent a t g).map (·.1):=by cases a <;> rfl
abbrev xA0:List Ac:=[⟨5,0⟩,⟨0,0⟩]
abbrev xA1:List Ac:=[⟨0,0⟩,⟨5,0⟩]
abbrev xD0:List Du:=[⟨1,0,1,9,1,1,false⟩]
abbrev xD1:List Du:=[⟨1,0,1,4,1,1,false⟩]
abbrev xE0:List Ed:=[⟨0,1,9,-1⟩,⟨2,0,5,0⟩,⟨0,2,4503599627370496,0⟩,⟨2,1,0,0⟩,⟨1,2,4503599627370496,0⟩]
structure Lm where
 bl:Nat
 ba:Nat
 bd:Nat
 br:Nat
 b:Nat
 a:Option Addr
 c:Nat
 full:List Value
 o:Obj
 arch:List Value
abbrev LL(m:Lm)(s:Ld):List (Nat × Obj):=(m.bl,Bl 73 [ptr m.ba,ptr m.bd,ptr m.br,.int .i64 s.day])::(m.br,Bl 135 m.arch)::LX m.ba m.a s.acs.length m.c m.full m.bd m.b s.nx m.o
abbrev Dy(m:Lm)(s:Ld):List Nat:=(LL m s).map fun x=>x.1
def KIn(w:World)(arch:List Value)(r:Rnd)(T:Nat->Prop):Prop :=
 ∃q,(∀j v,(B9 r q)[j]?=some v->arch[(r.no % 4).toNat*8+j]?=some v)/\RAt w r q/\ROff q r T
structure LdIn(w:World)(m:Lm)(s:Ld)(T:Nat->Prop):Prop where
 O:OS m.a s.acs.length m.c 2 m.full (s.acs.flatMap Dl)
 M:Df .u64 (dm s.ds) m.o
 ok:s.Ok
 len:m.arch.length=34
 n:m.arch[32]?=some (.int .u64 s.rn.length)
 no:m.arch[33]?=some (.int .u64 s.no)
 kept:∀r∈s.rn,KIn w m.arch r T
 own:∀x∈Dy m s,T x
 low:∀x,T x->x<w.heap.size
abbrev BQ(k:Ak):List Value:=[.int .u8 k.kd,.int .i64 k.a,.int .i64 k.b,.int .i64 k.x,.int .i64 k.w,.int .i64 k.u,.int .u64 k.id]
theorem Ctx.acs7{w0 w w':World}{S:List Nat}{P:List (Nat × Obj)}{a:Option Addr}{t:TypeId}{full full':List Value}(H:Ctx w0 S w (P++ent a t full))(he:Ext ((ent a t full).map fun x=>x.1) w w')(hb:∀x∈ent a t full',w'.heap[x.1]?=some x.2):Ctx w0 S w' (P++ent a t full'):=by
 have h1:Ctx w ((ent a t full).map fun x=>x.1) w' (ent a t full'):=⟨he,hb,Fu,fun x hx => .inl (by
  rw[Zx (f:=full) (g:=full')]
  exact qa4 (f:=fun x:Nat × Obj=>x.1) hx)⟩
 exact(Ctx.back H.comm h1).comm
theorem LdIn.turn{w w':World}{m m':Lm}{s s':Ld}{T:Nat->Prop}{S:List Nat}(I:LdIn w m s T)(he:Ext S w w')(hs:∀x∈S,T x)(O:OS m'.a s'.acs.length m'.c 2 m'.full (s'.acs.flatMap Dl))(M:Df .u64 (dm s'.ds) m'.o)(ok:s'.Ok)(ha:m'.arch=m.arch)(hr:s'.rn=s.rn)(hn:s'.no=s.no)(hid:∀x∈Dy m' s',(T x\/w.heap.size<=x)/\x<w'.heap.size) :
  LdIn w' m' s' (fun x=>T x\/x∈Dy m' s') where
 O:=O
 M:=M
 ok:=ok
 len:=by rw[ha];exact I.len
 n:=by rw[ha,hr];exact I.n
 no:=by rw[ha,hn];exact I.no
 kept:=fun r h=>by
  rw[hr]at h;obtain⟨q,h1,h2,h3⟩:=I.kept r h;rw[ha];exact⟨q,h1,h2.ext he (h3.mono hs),(h3.or h2.lt).mono fun x hx=>hx.elim .inl fun hx=>(hid x hx).1⟩
 own:=fun x hx => .inr hx
 low:=fun x hx=>hx.elim (fun h=>qa7 (I.low x h) he.size) fun h=>(hid x h).2
def GI(w:World)(m:Lm)(s:Ld)(T:Nat->Prop)(k:Ak)(v:Value)(w':World):Prop :=
 ∃a n c full code l s' m',v=.tuple #[.slice a n c,.int .i64 code]/\OS a n c 1 full (l.map Eb)/\CN s k s' (rp l code)/\Ctx w (Dy m s) w' (LL m' s'++ent a 2 full)/\(∀x∈ent a 2 full,w.heap.size<=x.1)/\LdIn w' m' s' (fun x=>T x\/x∈Dy m' s')/\m'.bl=m.bl
theorem Ek{w w1 w':World}{m m':Lm}{s s':Ld}{T:Nat->Prop}{k:Ak}{P:List (Nat × Obj)}{a:Option Addr}{n c:Nat}{code:Int}{l:List Int}(I:LdIn w m s T)(H:Ctx w (Dy m s) w1 (P++LL m' s'))(F:Fresh w1 w' 2 1 (.slice a n c) (l.map Eb))(hst:CN s k s' (rp l code))(O:OS m'.a s'.acs.length m'.c 2 m'.full (s'.acs.flatMap Dl))(M:Df .u64 (dm s'.ds) m'.o)(ok:s'.Ok)(ha:m'.arch=m.arch)(hr:s'.rn=s.rn)(hn:s'.no=s.no)(hbl:m'.bl=m.bl):GI w m s T k (.tuple #[.slice a n c,.int .i64 code]) w':=by
 obtain⟨a',n',c',full,hv,OF,hb⟩:=F.ex;cases hv;have H1:Ctx w (Dy m s) w1 (LL m' s'):=H.right;have H2:=H1.callEnt F.ext hb Fu;refine⟨a,n,c,full,code,l,s',m',rfl,OF,hst,H2,fun x hx=>qa6 H1.size (hb x hx).2,I.turn H2.ext I.own O M ok ha hr hn fun x hx=>?_,hbl⟩;obtain⟨y,hy,rfl⟩:=qah.1 hx;exact⟨(H1.own y hy).imp_left (I.own _),Bd (H2.left.blk y hy)⟩
structure AkIn(k:Ak):Prop where
 kd:0<=k.kd/\k.kd<=255
 a:I64 k.a
 b:I64 k.b
 x:I64 k.x
 w:I64 k.w
 u:I64 k.u
 id:0<=k.id/\k.id<=18446744073709551615
theorem GZ{w0 w:World}{b:Nat}{t:TypeId}{l:List Value}{n:Nat}{L:List (Nat × Obj)}(H:Ctx w0 [] w ((b,Bl t l)::L))(hn:l.length=n):Fresh w0 w t 1 (.slice (some ⟨b,0,none⟩) n n) l:=by
 subst hn;refine⟨⟨some ⟨b,0,none⟩,l.length,l.length,l,rfl,⟨fun p hp=>?_,fun h=>?_,by rw[qdg],qam _,by rw[qdg,qbm]⟩,fun x hx=>?_⟩,H.ext⟩
 .cases hp;rfl
 .cases h
 .rw[qab.1 hx];exact⟨H.get at0,(H.own _ (qak ..)).elim (fun h=>by cases h) id⟩
theorem PA{bl ba c:Nat}{v1 v2 v3:Value}{a:Option Addr}{acs:List Ac}(k e:Int)(w:World)(hl:w.heap[bl]?=some (Bl 73 [ptr ba,v1,v2,v3]))(hd:AcB ba a acs.length c w)(R:Rd w a 2 Dl acs)(hn:acs.length<=1000000:=by omega):
  Ret prog 71 #[ptr bl,.int .i64 k,.int .i64 e] w fun v w'=>∃a' c',v=.tuple #[.slice a' 2 c',.int .i64 (if e=0/\inA acs k=false then 10 else e)]/\Fresh w w' 2 1 (.slice a' 2 c') ((RN acs k).map Eb):=by
 obtain⟨w0,rfl,H⟩:=qE w;refine Au (fn:=Tryz.f71) func71 U [.pointer (some ⟨bl,0,none⟩),.int .i64 k,.int .i64 e] U ?_;refine Ae (Am U (Ad U (qA (Ae (A4 U (A9 U (Ah He U (Bb IV U ((H.old (Aj hl _) (by simp))) ?_))))))));refine Af U (Al qB (P8 a _ c acs k _ (H.ext.to hd (by simp)) (R.ext0 H.ext) U hn) U ?_);rintro v w ⟨rfl,hx16⟩;replace H:=H.call hx16;refine Cr U (AH U U (AH U U (Bc HA H ?_)));rintro b8 w - H;refine Bn DO U U U (by simp[AY]) H at0 U ?_;rintro w H;refine Ai U (qA (Ax (Ae (Ci (α:=Unit) 33030144 (fun _=>[(24,.bool (decide (e=0) && !inA acs k))]) (fun _ w'=>Ctx w0 [] w' [(b8,Bl 108 (Dl (D8 acs k)))]) U ?_ ?_))))
 .refine Af U (C3 U U (A2 U (AR 21 U ?_ ?_)))
  .intro h1;replace h1:=AM h1;refine A2 U (BP U (AA U (.bool _) U (Ab ?_)));exact⟨rfl,(),rfl,⟨qaa Value.bool (by rw[qad];simp_all;try omega),trivial⟩,H⟩
  .intro h2;replace h2:=AN h2;refine Ag U (Ag U (AJ U (.bool _) U (Ab ?_)));exact⟨rfl,(),rfl,⟨qaa Value.bool (by rw[qad];simp_all;try omega),trivial⟩,H⟩
 rintro - j24 w H;refine Aw _ U ?_ ?_
 .intro h1;rw[qae,qar,qcr]at h1;rw[if_pos h1];refine A0 (Ad U (qA (Ae (Ah F4 U (AG B4 U H at0 U (Ah MP U (AG B4 U H at0 U (Ef [.int .i64 (D8 acs k).ba,.int .i64 (D8 acs k).re] Bf BD Fh H ?_))))))));rintro b29 w - H;refine Af U (Am U (Ad U (qA (A5 (Cf (v1:=(.slice _ _ _)) (v2:=(.int _ _)) U U U U ?_)))));exact⟨_,_,rfl,GZ H rfl⟩
 .intro h1;rw[if_neg (fun h=>by rw[h.2,qan h.1]at h1;cases h1)];refine Ay (Aa (Ae (Ah F4 U (AG B4 U H at0 U (Ah MP U (AG B4 U H at0 U (Ef [.int .i64 (D8 acs k).ba,.int .i64 (D8 acs k).re] Bf BD Fh H ?_)))))));rintro b29 w - H;refine Af U (Am U (Ad U (qA (A5 (Cf (v1:=(.slice _ _ _)) (v2:=(.int _ _)) U U U U ?_)))));exact⟨_,_,rfl,GZ H rfl⟩
theorem Ahq{m:Lm}{s:Ld}{T:Nat->Prop}{k:Ak}(hk:k.kd=2)(hin:AkIn k)(w:World)(I:LdIn w m s T)(H0:Ctx w (Dy m s) w (LL m s)) :
  Ret prog 30 #[ptr m.bl,.agg (BQ k).toArray] w (GI w m s T k):=by
 obtain⟨w0,rfl⟩:=qD w;obtain⟨bl,ba,bd,br,b,a,c,full,o,arch⟩:=m;obtain⟨S0,hS0⟩:=qD (Dy ⟨bl,ba,bd,br,b,a,c,full,o,arch⟩ s);have H:Ctx w0 S0 w0 ((bl,Bl 73 [ptr ba,ptr bd,ptr br,.int .i64 s.day])::(br,Bl 135 arch)::(ba,Bl 129 [.slice a s.acs.length c])::(bd,Bl 132 (DU b s.nx))::(b,o)::ent a 108 full):=by rw[hS0];exact H0
 have hn16:=(Cv.1 I.ok.ac).1;obtain⟨hok,hlen,-⟩:=Zq I.ok.ac k.a k.x;have hoth:Fz s k={ s with acs:=Fm s.acs k.a k.x }:=by unfold Fz;rw[if_neg (by omega),if_pos hk]
 have hokS:({ s with acs:=Fm s.acs k.a k.x }:Ld).Ok:=by rw[<-hoth];exact Ki I.ok k hin.u.2
 have hstep:CN s k { s with acs:=Fm s.acs k.a k.x } (rp (RN (Fm s.acs k.a k.x) k.a) (GH s.acs k.a k.x)):=by
  unfold CN;rw[if_neg (by omega)];exact⟨hoth.symm,by unfold FC;rw[if_neg (by omega),if_pos hk]⟩
 have hcode:(if GH s.acs k.a k.x=0/\inA (Fm s.acs k.a k.x) k.a=false then 10 else GH s.acs k.a k.x)=GH s.acs k.a k.x:=by
  rw[if_neg];rintro⟨h1,h2⟩
  rcases M4 s.acs k.a k.x with⟨h3,-⟩|⟨-,h4,-⟩
  .exact h3 h1
  .have h5:inA (Fm s.acs k.a k.x) k.a=inA s.acs k.a:=by unfold inA;rw[hlen]
   rw[h5,h4]at h2;cases h2
 refine Au (fn:=f30) func30 U [.pointer (some ⟨bl,0,none⟩),.agg (BQ k).toArray] U ?_;refine Ae (Bu (BQ k) (.agg _) U U H ?_);rintro b3 w - H;refine Am U (Ad U (qA (Ck [([0,1,2,3,4,5,6,7,8,9,10],11),([],12),([13,14,15],16)] (fun z=>z.heap[b3]?=some (Bl 25 (BQ k))/\z.heap[bl]?=some (Bl 73 [ptr ba,ptr bd,ptr br,.int .i64 s.day])) [] Br (⟨H.drew.get at0,H.drew.get at1⟩) ?_)));refine AD U U (BG U (Ao EF U (B0 Cc U (fun _ hx=>(by rw[Aj hx.1];rfl)) ?_)));refine BG U (Ba U (Ao He U (B0 IV U (fun _ hx=>(by rw[Aj hx.2];rfl)) ?_)));refine Ao EF U (B0 Cc U (fun _ hx=>(by rw[Aj hx.1];rfl)) ?_);refine Ao L6 U (B0 B4 U (fun _ hx=>(by rw[Aj hx.1];rfl)) ?_);refine AU ?_;replace H:=H.drew;refine Al qB (Ahh _ (H.get at3) I.O (fun y hy=>H.blk y (qaf [_,_,_,_,_,_] hy)) I.ok.ac) U ?_
 rintro v w ⟨rfl,full',O',hb',he'⟩;replace H:Ctx w0 S0 w ((b3,Bl 25 (BQ k))::(bl,Bl 73 [ptr ba,ptr bd,ptr br,.int .i64 s.day])::(br,Bl 135 arch)::(ba,Bl 129 [.slice a (Fm s.acs k.a k.x).length c])::(bd,Bl 132 (DU b s.nx))::(b,o)::ent a 108 full'):=(by rw[hlen];exact Ctx.acs7 (P:=[_,_,_,_,_,_]) H he' hb');replace O':OS a (Fm s.acs k.a k.x).length c 2 full' ((Fm s.acs k.a k.x).flatMap Dl):=(by rw[hlen];exact O');refine Ab (BH (⟨H.get at0,H.get at1⟩) (AD U U ?_));refine AU (Al qB (PA k.a _ _ (H.get at1) (H.get at3) (OS.rd (t:=108) O' (fun y hy=>H.blk y (qaf [_,_,_,_,_,_] hy)) (fun _ _=>rfl) (by decide))) U ?_);rintro v w ⟨a',c',rfl,F⟩;rw[hcode];have H8:=H;replace H:=H.call F.ext;refine Ab (BH (⟨H.get at0,H.get at1⟩) (AD U U ?_))
 refine Bs U U (Bs U U (EC U (AU (Ad U (Ab (BH (⟨H.get at0,H.get at1⟩) (BF (A5 (Cf (v1:=(.slice _ _ _)) (v2:=(.int _ _)) U U U U ?_)))))))));subst hS0;exact Ek (P:=[_]) (m':=⟨bl,ba,bd,br,b,a,c,full',o,arch⟩) (s':={ s with acs:=Fm s.acs k.a k.x }) I H8 F hstep O' I.M hokS U U U U
theorem Ahr{m:Lm}{s:Ld}{T:Nat->Prop}{k:Ak}(hk:k.kd=3)(hin:AkIn k)(w:World)(I:LdIn w m s T)(H0:Ctx w (Dy m s) w (LL m s)) :
  Ret prog 31 #[ptr m.bl,.agg (BQ k).toArray] w (GI w m s T k):=by
 obtain⟨w0,rfl⟩:=qD w;obtain⟨bl,ba,bd,br,b,a,c,full,o,arch⟩:=m;obtain⟨S0,hS0⟩:=qD (Dy ⟨bl,ba,bd,br,b,a,c,full,o,arch⟩ s);have H:Ctx w0 S0 w0 ((bl,Bl 73 [ptr ba,ptr bd,ptr br,.int .i64 s.day])::(br,Bl 135 arch)::(ba,Bl 129 [.slice a s.acs.length c])::(bd,Bl 132 (DU b s.nx))::(b,o)::ent a 108 full):=by rw[hS0];exact H0
 have hn16:=(Cv.1 I.ok.ac).1;obtain⟨hok,hlen,-⟩:=Zr I.ok.ac k.a k.x;have hoth:Fz s k={ s with acs:=EY s.acs k.a k.x }:=by unfold Fz;rw[if_neg (by omega),if_neg (by omega),if_pos hk]
 have hokS:({ s with acs:=EY s.acs k.a k.x }:Ld).Ok:=by rw[<-hoth];exact Ki I.ok k hin.u.2
 have hstep:CN s k { s with acs:=EY s.acs k.a k.x } (rp (RN (EY s.acs k.a k.x) k.a) (Gg s.acs k.a k.x)):=by
  unfold CN;rw[if_neg (by omega)];exact⟨hoth.symm,by unfold FC;rw[if_neg (by omega),if_neg (by omega),if_pos hk]⟩
 have hcode:(if Gg s.acs k.a k.x=0/\inA (EY s.acs k.a k.x) k.a=false then 10 else Gg s.acs k.a k.x)=Gg s.acs k.a k.x:=by
  rw[if_neg];rintro⟨h1,h2⟩
  rcases M5 s.acs k.a k.x with⟨h3,-⟩|⟨-,h4,-⟩
  .exact h3 h1
  .have h5:inA (EY s.acs k.a k.x) k.a=inA s.acs k.a:=by unfold inA;rw[hlen]
   rw[h5,h4]at h2;cases h2
 refine Au (fn:=f31) func31 U [.pointer (some ⟨bl,0,none⟩),.agg (BQ k).toArray] U ?_;refine Ae (Bu (BQ k) (.agg _) U U H ?_);rintro b3 w - H;refine Am U (Ad U (qA (Ck [([0,1,2,3,4,5,6,7,8,9,10],11),([],12),([13,14,15],16)] (fun z=>z.heap[b3]?=some (Bl 25 (BQ k))/\z.heap[bl]?=some (Bl 73 [ptr ba,ptr bd,ptr br,.int .i64 s.day])) [] Br (⟨H.drew.get at0,H.drew.get at1⟩) ?_)));refine AD U U (BG U (Ao EF U (B0 Cc U (fun _ hx=>(by rw[Aj hx.1];rfl)) ?_)));refine BG U (Ba U (Ao He U (B0 IV U (fun _ hx=>(by rw[Aj hx.2];rfl)) ?_)));refine Ao EF U (B0 Cc U (fun _ hx=>(by rw[Aj hx.1];rfl)) ?_);refine Ao L6 U (B0 B4 U (fun _ hx=>(by rw[Aj hx.1];rfl)) ?_);refine AU ?_;replace H:=H.drew;refine Al qB (Ahi _ (H.get at3) I.O (fun y hy=>H.blk y (qaf [_,_,_,_,_,_] hy)) I.ok.ac) U ?_
 rintro v w ⟨rfl,full',O',hb',he'⟩;replace H:Ctx w0 S0 w ((b3,Bl 25 (BQ k))::(bl,Bl 73 [ptr ba,ptr bd,ptr br,.int .i64 s.day])::(br,Bl 135 arch)::(ba,Bl 129 [.slice a (EY s.acs k.a k.x).length c])::(bd,Bl 132 (DU b s.nx))::(b,o)::ent a 108 full'):=(by rw[hlen];exact Ctx.acs7 (P:=[_,_,_,_,_,_]) H he' hb');replace O':OS a (EY s.acs k.a k.x).length c 2 full' ((EY s.acs k.a k.x).flatMap Dl):=(by rw[hlen];exact O');refine Ab (BH (⟨H.get at0,H.get at1⟩) (AD U U ?_));refine AU (Al qB (PA k.a _ _ (H.get at1) (H.get at3) (OS.rd (t:=108) O' (fun y hy=>H.blk y (qaf [_,_,_,_,_,_] hy)) (fun _ _=>rfl) (by decide))) U ?_);rintro v w ⟨a',c',rfl,F⟩;rw[hcode];have H8:=H;replace H:=H.call F.ext;refine Ab (BH (⟨H.get at0,H.get at1⟩) (AD U U ?_))
 refine Bs U U (Bs U U (EC U (AU (Ad U (Ab (BH (⟨H.get at0,H.get at1⟩) (BF (A5 (Cf (v1:=(.slice _ _ _)) (v2:=(.int _ _)) U U U U ?_)))))))));subst hS0;exact Ek (P:=[_]) (m':=⟨bl,ba,bd,br,b,a,c,full',o,arch⟩) (s':={ s with acs:=EY s.acs k.a k.x }) I H8 F hstep O' I.M hokS U U U U
theorem Aky{m:Lm}{s:Ld}{T:Nat->Prop}{k:Ak}(hk:k.kd=4)(hin:AkIn k)(w:World)(I:LdIn w m s T)(H0:Ctx w (Dy m s) w (LL m s)) :
  Ret prog 32 #[ptr m.bl,.agg (BQ k).toArray] w (GI w m s T k):=by
 obtain⟨w0,rfl⟩:=qD w;obtain⟨bl,ba,bd,br,b,a,c,full,o,arch⟩:=m;obtain⟨S0,hS0⟩:=qD (Dy ⟨bl,ba,bd,br,b,a,c,full,o,arch⟩ s);have H:Ctx w0 S0 w0 ((bl,Bl 73 [ptr ba,ptr bd,ptr br,.int .i64 s.day])::(br,Bl 135 arch)::(ba,Bl 129 [.slice a s.acs.length c])::(bd,Bl 132 (DU b s.nx))::(b,o)::ent a 108 full):=by rw[hS0];exact H0
 have hn16:=(Cv.1 I.ok.ac).1;obtain⟨hok,hlen,-⟩:=Agu I.ok.ac k.a k.x;have hoth:Fz s k={ s with acs:=HM s.acs k.a k.x }:=by unfold Fz;(iterate 3 rw[if_neg (by omega)]);rw[if_pos hk]
 have hokS:({ s with acs:=HM s.acs k.a k.x }:Ld).Ok:=by rw[<-hoth];exact Ki I.ok k hin.u.2
 have hstep:CN s k { s with acs:=HM s.acs k.a k.x } (rp (RN (HM s.acs k.a k.x) k.a) (M1 s.acs k.a k.x)):=by
  unfold CN;rw[if_neg (by omega)];exact⟨hoth.symm,by unfold FC;(iterate 3 rw[if_neg (by omega)]);rw[if_pos hk]⟩
 have hcode:(if M1 s.acs k.a k.x=0/\inA (HM s.acs k.a k.x) k.a=false then 10 else M1 s.acs k.a k.x)=M1 s.acs k.a k.x:=by
  rw[if_neg];rintro⟨h1,h2⟩
  rcases SY s.acs k.a k.x with⟨h3,-⟩|⟨-,h4,-⟩
  .exact h3 h1
  .have h5:inA (HM s.acs k.a k.x) k.a=inA s.acs k.a:=by unfold inA;rw[hlen]
   rw[h5,h4]at h2;cases h2
 refine Au (fn:=f32) func32 U [.pointer (some ⟨bl,0,none⟩),.agg (BQ k).toArray] U ?_;refine Ae (Bu (BQ k) (.agg _) U U H ?_);rintro b3 w - H;refine Am U (Ad U (qA (Ck [([0,1,2,3,4,5,6,7,8,9,10],11),([],12),([13,14,15],16)] (fun z=>z.heap[b3]?=some (Bl 25 (BQ k))/\z.heap[bl]?=some (Bl 73 [ptr ba,ptr bd,ptr br,.int .i64 s.day])) [] Br (⟨H.drew.get at0,H.drew.get at1⟩) ?_)));refine AD U U (BG U (Ao EF U (B0 Cc U (fun _ hx=>(by rw[Aj hx.1];rfl)) ?_)));refine BG U (Ba U (Ao He U (B0 IV U (fun _ hx=>(by rw[Aj hx.2];rfl)) ?_)));refine Ao EF U (B0 Cc U (fun _ hx=>(by rw[Aj hx.1];rfl)) ?_);refine Ao L6 U (B0 B4 U (fun _ hx=>(by rw[Aj hx.1];rfl)) ?_);refine AU ?_;replace H:=H.drew;refine Al qB (Akv _ (H.get at3) I.O (fun y hy=>H.blk y (qaf [_,_,_,_,_,_] hy)) I.ok.ac) U ?_
 rintro v w ⟨rfl,full',O',hb',he'⟩;replace H:Ctx w0 S0 w ((b3,Bl 25 (BQ k))::(bl,Bl 73 [ptr ba,ptr bd,ptr br,.int .i64 s.day])::(br,Bl 135 arch)::(ba,Bl 129 [.slice a (HM s.acs k.a k.x).length c])::(bd,Bl 132 (DU b s.nx))::(b,o)::ent a 108 full'):=(by rw[hlen];exact Ctx.acs7 (P:=[_,_,_,_,_,_]) H he' hb');replace O':OS a (HM s.acs k.a k.x).length c 2 full' ((HM s.acs k.a k.x).flatMap Dl):=(by rw[hlen];exact O');refine Ab (BH (⟨H.get at0,H.get at1⟩) (AD U U ?_));refine AU (Al qB (PA k.a _ _ (H.get at1) (H.get at3) (OS.rd (t:=108) O' (fun y hy=>H.blk y (qaf [_,_,_,_,_,_] hy)) (fun _ _=>rfl) (by decide))) U ?_);rintro v w ⟨a',c',rfl,F⟩;rw[hcode];have H8:=H;replace H:=H.call F.ext;refine Ab (BH (⟨H.get at0,H.get at1⟩) (AD U U ?_))
 refine Bs U U (Bs U U (EC U (AU (Ad U (Ab (BH (⟨H.get at0,H.get at1⟩) (BF (A5 (Cf (v1:=(.slice _ _ _)) (v2:=(.int _ _)) U U U U ?_)))))))));subst hS0;exact Ek (P:=[_]) (m':=⟨bl,ba,bd,br,b,a,c,full',o,arch⟩) (s':={ s with acs:=HM s.acs k.a k.x }) I H8 F hstep O' I.M hokS U U U U
abbrev Ph(k:Nat):Prop:=k=1\/k=2\/k=4\/k=8
theorem Rc{k:Nat}(hk:Ph k)(l:List UInt8)(n:Nat):putB l n (k:Int)=l++Co n k:=by
 rcases hk with rfl|rfl|rfl|rfl <;> rfl
theorem Kj{n:Nat}(h:n<18446744073709551616:=by omega):w64 (n:Int)=n:=by unfold w64;omega
theorem Wl(a:Option Addr)(c m:Nat)(l:List UInt8)(x:Int)(k:Nat)(w:World)(R:Rd w a 1 B8 l)(hml:l.length=m)(hm:m<=1000000:=by decide)(hk:Ph k:=by decide):
  Ret prog 133 #[.slice a m c,.int .u32 x,.int .i64 (k:Int)] w fun v w'=>Fresh w w' 5 1 v ((l++Co (w64 x) k).map bv):=by
 obtain⟨w0,rfl,H⟩:=qE w;refine Au (fn:=f133) func133 U [.slice a m c,.int .u32 x,.int .i64 (k:Int)] U (Ae (Am U (qA (Ae (Ap U (Af U (Es U Vq Dc ?_)))))));rw[Hx];refine Af U (Al qB (QV a c m l (w64 x) (k:Int) _ (R.ext0 H.ext) hml (Lt x)) U ?_);rintro v w F;rw[Rc hk]at F;obtain⟨a99,c99,rfl,-,-⟩:=Fresh.rdB F;refine Am U (qA (A5 (AB (v:=(.slice _ _ _)) U U U ?_)));exact Fresh.since F H.ext
theorem Wm(a:Option Addr)(c m:Nat)(l:List UInt8)(x:Int)(k:Nat)(w:World)(R:Rd w a 1 B8 l)(hml:l.length=m)(hm:m<=1000000)(hk:Ph k:=by decide):
  Ret prog 134 #[.slice a m c,.int .i64 x,.int .i64 (k:Int)] w fun v w'=>Fresh w w' 5 1 v ((l++Co (w64 x) k).map bv):=by
 obtain⟨w0,rfl,H⟩:=qE w;refine Au (fn:=f134) func134 U [.slice a m c,.int .i64 x,.int .i64 (k:Int)] U (Ae (Am U (qA (Ae (Ap U (Af U (Es U Ho Dc ?_)))))));rw[Hx];refine Af U (Al qB (QV a c m l (w64 x) (k:Int) _ (R.ext0 H.ext) hml (Lt x)) U ?_);rintro v w F;rw[Rc hk]at F;obtain⟨a99,c99,rfl,-,-⟩:=Fresh.rdB F;refine Am U (qA (A5 (AB (v:=(.slice _ _ _)) U U U ?_)));exact Fresh.since F H.ext
theorem Wn(a:Option Addr)(c m:Nat)(l:List UInt8)(x:Int)(k:Nat)(w:World)(R:Rd w a 1 B8 l)(hml:l.length=m)(hm:m<=1000000:=by omega)(hk:Ph k:=by decide):
  Ret prog 136 #[.slice a m c,.int .i64 x,.int .i64 (k:Int)] w fun v w'=>Fresh w w' 5 1 v ((l++Co (w64 x) k).map bv):=by
 obtain⟨w0,rfl,H⟩:=qE w;refine Au (fn:=f136) func136 U [.slice a m c,.int .i64 x,.int .i64 (k:Int)] U (Ae (Am U (qA (Ae (Ap U (Af U (Es U LJ Dc ?_)))))));rw[Hx];refine Af U (Al qB (QV a c m l (w64 x) (k:Int) _ (R.ext0 H.ext) hml (Lt x)) U ?_);rintro v w F;rw[Rc hk]at F;obtain⟨a99,c99,rfl,-,-⟩:=Fresh.rdB F;refine Am U (qA (A5 (AB (v:=(.slice _ _ _)) U U U ?_)));exact Fresh.since F H.ext
theorem Ab0(a:Option Addr)(c m:Nat)(l:List UInt8)(x:Int)(k:Nat)(w:World)(R:Rd w a 1 B8 l)(hml:l.length=m)(hm:m<=1000000:=by omega)(hk:Ph k:=by decide):
  Ret prog 135 #[.slice a m c,.int .i64 x,.int .i64 (k:Int)] w fun v w'=>Fresh w w' 5 1 v ((l++Co (w64 x) k).map bv):=by
 obtain⟨w0,rfl,H⟩:=qE w;refine Au (fn:=f135) func135 U [.slice a m c,.int .i64 x,.int .i64 (k:Int)] U (Ae (Am U (qA (Ae (Ap U (Af U (Es U Ami Dc ?_)))))));rw[Hx];refine Af U (Al qB (QV a c m l (w64 x) (k:Int) _ (R.ext0 H.ext) hml (Lt x)) U ?_);rintro v w F;rw[Rc hk]at F;obtain⟨a99,c99,rfl,-,-⟩:=Fresh.rdB F;refine Am U (qA (A5 (AB (v:=(.slice _ _ _)) U U U ?_)));exact Fresh.since F H.ext
theorem Wo(a:Option Addr)(c m:Nat)(l:List UInt8)(x:Int)(k:Nat)(w:World)(R:Rd w a 1 B8 l)(hml:l.length=m)(hm:m<=1000000)(hk:Ph k:=by decide)(hx:0<=x/\x<18446744073709551616:=by omega):
  Ret prog 132 #[.slice a m c,.int .u64 x,.int .i64 (k:Int)] w fun v w'=>Fresh w w' 5 1 v ((l++Co (w64 x) k).map bv):=by
 obtain⟨n,rfl⟩:∃n:Nat,x=n:=⟨x.toNat,by omega⟩;rw[Kj];obtain⟨w0,rfl,H⟩:=qE w;refine Au (fn:=f132) func132 U [.slice a m c,.int .u64 (n:Int),.int .i64 (k:Int)] U (Ae (Am U (qA (Ae (Ap U (Af U (Af U (Al qB (QV a c m l n (k:Int) _ (R.ext0 H.ext) hml (by omega)) U ?_))))))));rintro v w F;rw[Rc hk]at F;obtain⟨a99,c99,rfl,-,-⟩:=Fresh.rdB F;refine Am U (qA (A5 (AB (v:=(.slice _ _ _)) U U U ?_)));exact Fresh.since F H.ext
theorem Ahs{l:List UInt8}{p k:Nat}(hk:Ph k)(h:p+k<=l.length):Pd l (p:Int) (k:Int)=.tuple #[.int .u64 (CU l p k:Int),.int .i64 ((p:Int)+(k:Int)),.int .i64 0]:=by
 have hs:Kp (k:Int)=true:=by rcases hk with rfl|rfl|rfl|rfl <;> rfl
 have he:Kq l (p:Int) (k:Int)=0:=by
  unfold Kq;rw[hs,qan (show(0:Int)<=(p:Int)by omega),qan (show(p:Int)<=(l.length:Int)by omega),qan (show(k:Int)<=(l.length:Int) - (p:Int)by omega)];rfl
 unfold Pd;rw[he];rfl
structure ByA(w:World)(S:List Nat)(a:Option Addr)(c:Nat)(l:List UInt8):Prop where
 R:Rd w a 1 B8 l
 off:l≠[]->(adr a).block∉S
 hc:l.length<=c
 hm:l.length<=100000
theorem ByA.at{w w':World}{S:List Nat}{a:Option Addr}{c:Nat}{l:List UInt8}(B:ByA w S a c l)(h:Ext S w w'):Rd w' a 1 B8 l:=B.R.ext' h B.off
theorem ByA.ext{w w':World}{S:List Nat}{a:Option Addr}{c:Nat}{l:List UInt8}(B:ByA w S a c l)(h:Ext S w w'):ByA w' S a c l:=⟨B.at h,B.off,B.hc,B.hm⟩
theorem ByA.of{w w':World}{a:Option Addr}{c b:Nat}{l:List UInt8}(R:Rd w a 1 B8 l)(hx:Ext [] w w')(hb:w.heap.size<=b)(hc:l.length<=c)(hm:l.length<=100000):ByA w' [b] a c l :=
 ⟨R.ext0 hx,fun hl=>by
  have:=R.lt' (fun _ _=>rfl) (by decide) hl;rw[qab]
  omega,hc,hm⟩
abbrev rdC(a:Option Addr)(n c p:Nat):List Value:=[.slice a n c,.int .i64 (p:Int)]
theorem GJ(br:Nat)(a:Option Addr)(c:Nat)(l:List UInt8)(p k:Nat)(w:World)(B:ByA w [br] a c l)(hb:w.heap[br]?=some (Bl 169 (rdC a l.length c p)))(hk:Ph k:=by decide)(hp:p+k<=l.length:=by omega):
  Ret prog 94 #[ptr br,.int .i64 (k:Int)] w fun v w'=>v=.int .u64 (CU l p k:Int)/\Ctx w [br] w' [(br,Bl 169 (rdC a l.length c (p+k)))]:=by
 obtain⟨w0,rfl⟩:=qD w;have H:=Ctx.start1 hb;have hm:=B.hm;refine Au (fn:=f94) func94 U [ptr br,.int .i64 (k:Int)] U ?_;refine Ae (Ad U (qA (Ck [([0,1,2,3,4,5,6,7,8],9),([10,11,12,13,14,15],16)] (fun z=>z.heap[br]?=some (Bl 169 (rdC a l.length c p))) [] Br (H.drew.get at0) ?_)));refine AD U U (BG U (Ba U (Ao Aee U (B0 Js U (fun _ hx=>(by rw[Aj hx];rfl)) ?_))));refine BG U (Ba U (Ao Vo U (B0 Cc U (fun _ hx=>(by rw[Aj hx];rfl)) ?_)));refine Bj U (AU ?_);replace H:=H.drew;refine Al qB (Ag2 a c _ l (p:Int) (k:Int) _ (B.at H.ext) U B.hc) U ?_;rintro v w ⟨rfl,hx18⟩;replace H:=H.call hx18;rw[Ahs hk hp];refine Ab (BH (H.get at0) (AD U U ?_));refine DH U (Bs U U (Bs U U (Bs U U (Fs U (Fs U (AU (Ad U (Ab (BH (H.get at0) (BF ?_))))))))))
 refine Ax (Ae (Af U (C3 U U (qA (Aw _ U ?_ ?_)))))
 .intro h1;replace h1:=AM h1;refine A0 (A4 U (Af U (A9 U (Ah Vo U (Cb (.int _ _) Gb U U U H at0 (by(simp;done)) ?_)))));rintro w H;refine qA (Ae (Af U (Ad U (qA (A5 (AB (v:=(.int _ _)) U U U ?_))))));refine⟨rfl,?_⟩;show Ctx w0 [br] w [(br,Bl 169 [.slice a l.length c,.int .i64 ((p+k:Nat):Int)])];rw[show((p+k:Nat):Int)=(p:Int)+(k:Int)by omega];exact H
 .intro h1;replace h1:=AN h1;exact absurd U h1
def gaC(l:List UInt8):Nat:=bif DZ l then CU l 0 4 else 0
def gaN(l:List UInt8):Nat:=bif DZ l then CU l 4 8 else 0
def gaK(l:List UInt8):Ak:=bif DZ l then Ig l else⟨0,0,0,0,0,0,0⟩
def gaE(l:List UInt8):Int:=bif DZ l then 0 else 5
abbrev gaV(l:List UInt8):Value := .tuple #[.int .u32 (gaC l:Int),.int .u64 (gaN l:Int),.agg (BQ (gaK l)).toArray,.int .i64 (gaE l)]
theorem Nx{n:Nat}(h:n<18446744073709551616):IntKind.i64.wrap (n:Int)=sgN 9223372036854775808 n:=by
 have h1:(n:Int) % 18446744073709551616=(n:Int):=by omega
 show(if(true && decide ((n:Int) % 18446744073709551616>=9223372036854775808))=true then(n:Int) % 18446744073709551616 - 18446744073709551616 else(n:Int) % 18446744073709551616)=_;rw[h1,qcl];unfold sgN
 by_cases h2:n<9223372036854775808
 .rw[qa2 (show ¬(n:Int)>=9223372036854775808 by omega),if_neg Bool.false_ne_true,if_pos h2]
 .rw[qan (show(n:Int)>=9223372036854775808 by omega),if_pos rfl,if_neg h2];omega
theorem Wp{n:Nat}(h:n<65536):IntKind.i16.wrap (n:Int)=sgN 32768 n:=by
 have h1:(n:Int) % 65536=(n:Int):=by omega
 show(if(true && decide ((n:Int) % 65536>=32768))=true then(n:Int) % 65536 - 65536 else(n:Int) % 65536)=_;rw[h1,qcl];unfold sgN
 by_cases h2:n<32768
 .rw[qa2 (show ¬(n:Int)>=32768 by omega),if_neg Bool.false_ne_true,if_pos h2]
 .rw[qan (show(n:Int)>=32768 by omega),if_pos rfl,if_neg h2];omega
theorem Rh(n:Nat)(h:n<65536) : -32768<=sgN 32768 n/\sgN 32768 n<=32767:=by
 unfold sgN
 split <;> omega
theorem Ab1(a:Option Addr)(c m:Nat)(l:List UInt8)(w:World)(R:Rd w a 1 B8 l)(hml:l.length=m)(hc:l.length<=c)(hm:m<=100000:=by omega):
  Ret prog 55 #[.slice a m c] w fun v w'=>v=gaV l/\Ext [] w w':=by
 subst hml;obtain⟨w0,rfl,H⟩:=qE w;refine Au (fn:=f55) func55 U [.slice a l.length c] U (Ae (Ad U (Ad U (Bc IZ H ?_))));rintro b4 w - H;refine Ad U (qA (Ax (Ae (Ap U (Be De U (CK U U (qA (Aw _ U ?_ ?_))))))))
 .intro h1;replace h1:=CY h1;refine Ae (BA (BQ ⟨0,0,0,0,0,0,0⟩) OG IZ ?_);refine Ad U (Ad U (Bn FP U U U (by simp[AY]) H at0 U ?_));rintro w H;refine Ad U (qA (A5 (Av (JN U U (show _=(.int _ _)from rfl) (show _=(.int _ _)from rfl) U Kn FP H at0 U (show _=(.int _ _)from rfl) ?_))))
  have hf:DZ l=false:=by
   unfold DZ;rw[qa2 (by omega)];rfl
  refine⟨?_,H.ext⟩;unfold gaV gaC gaN gaK gaE;rw[hf];rfl
 .intro h1;replace h1:=CZ h1;have hl:l.length=42:=by omega
  refine Ay (Aa (Ae (Ap U (BA (rdC a l.length c 0) Aps Ap1 ?_))));refine Bu (rdC a l.length c 0) (.agg _) U U H ?_;rintro br w - H;have hbr:w0.heap.size<=br:=by(have:=H.own (_,_) (qac at0);simpa using this)
  refine Cn U (qA (Ae (A4 U (Al qB (GJ br a c l 0 4 _ (ByA.of R H.ext hbr hc hm) (H.get at0)) U ?_))));rintro v w ⟨rfl,H7⟩;replace H:=Ctx.back (L1:=[_]) (L2:=[_]) H H7;refine UL U U Dc Vq (by have:=fld4 l 0;omega) ?_;refine A4 U (Al qB (GJ br a c l 4 8 _ (ByA.of R H.ext hbr hc hm) (H.get at0)) U ?_);rintro v w ⟨rfl,H7⟩;replace H:=Ctx.back (L1:=[_]) (L2:=[_]) H H7;refine Ad U (Ad U (qA (Ae (A4 U (Al qB (GJ br a c l 12 1 _ (ByA.of R H.ext hbr hc hm) (H.get at0)) U ?_)))));rintro v w ⟨rfl,H7⟩;replace H:=Ctx.back (L1:=[_]) (L2:=[_]) H H7;refine Mf U U Dc Hr (h2:=by have:=Abt l 12;omega) ?_;refine A4 U (Al qB (GJ br a c l 13 1 _ (ByA.of R H.ext hbr hc hm) (H.get at0)) U ?_);rintro v w ⟨rfl,H7⟩;replace H:=Ctx.back (L1:=[_]) (L2:=[_]) H H7
  refine Di U Dc Ho (h2:=by have:=Abt l 13;omega) ?_;refine A4 U (Al qB (GJ br a c l 14 2 _ (ByA.of R H.ext hbr hc hm) (H.get at0)) U ?_);rintro v w ⟨rfl,H7⟩;replace H:=Ctx.back (L1:=[_]) (L2:=[_]) H H7;refine Es U Dc YD ?_;rw[Wp (RM l 14)];refine Di U YD Ho (h1:=by have:=Rh _ (RM l 14);omega) (h2:=by have:=Rh _ (RM l 14);omega) ?_;refine Ah JP U (Cb (.int _ _) IK U U U H at1 (by decide) ?_);rintro w H;refine Ah EF U (Cb (.int _ _) Gb U U U H at1 (by(simp;done)) ?_);rintro w H;refine Ah HZ U (Cb (.int _ _) Gb U U U H at1 (by(simp;done)) ?_);rintro w H;refine qA (Ae (A4 U (Al qB (GJ br a c l 16 8 _ (ByA.of R H.ext hbr hc hm) (H.get at0)) U ?_)));rintro v w ⟨rfl,H7⟩;replace H:=Ctx.back (L1:=[_]) (L2:=[_]) H H7;refine Es U Dc LJ ?_;rw[Nx (Wc l 16)]
  refine A4 U (Al qB (GJ br a c l 24 2 _ (ByA.of R H.ext hbr hc hm) (H.get at0)) U ?_);rintro v w ⟨rfl,H7⟩;replace H:=Ctx.back (L1:=[_]) (L2:=[_]) H H7;refine Di U Dc LJ (h2:=by have:=RM l 24;omega) ?_;refine A4 U (Al qB (GJ br a c l 26 8 _ (ByA.of R H.ext hbr hc hm) (H.get at0)) U ?_);rintro v w ⟨rfl,H7⟩;replace H:=Ctx.back (L1:=[_]) (L2:=[_]) H H7;refine Es U Dc LJ ?_;rw[Nx (Wc l 26)];refine A4 U (Al qB (GJ br a c l 34 8 _ (ByA.of R H.ext hbr hc hm) (H.get at0)) U ?_);rintro v w ⟨rfl,H7⟩;replace H:=Ctx.back (L1:=[_]) (L2:=[_]) H H7;refine Ah L6 U (Cb (.int _ _) BD U U U H at1 (by(simp;done)) ?_);rintro w H;refine Ah JQ U (Cb (.int _ _) BD U U U H at1 (by(simp;done)) ?_);rintro w H;refine Ah JR U (Cb (.int _ _) BD U U U H at1 (by(simp;done)) ?_);rintro w H
  refine Ah IY U (Cb (.int _ _) Bq U U U H at1 (by(simp;done)) ?_);rintro w H;refine qA (Ax (Ae (Ci (α:=Unit) 35888059530608640 (fun _=>[(54,.bool ((decide ((CU l 12 1:Int)<1) || decide ((CU l 12 1:Int)>15))))]) (fun _ w'=>Ctx w0 [] w' [(br,Bl 169 (rdC a l.length c 42)),(b4,Bl 25 (BQ (Ig l)))]) U ?_ ?_)))
  .refine Ah JP U (AG Kv U H at1 U (Bm U U (A2 U (AR 50 U ?_ ?_))))
   .intro h1;replace h1:=AM h1;refine Ag U (Ag U (Ag U (AA U (.bool _) U (Ab ?_))));exact⟨rfl,(),rfl,⟨qaa Value.bool (by(rw[qad];simp only[qbf,qar,true_iff];omega)),trivial⟩,H⟩
   .intro h2;replace h2:=AN h2;refine Ah JP U (AG Kv U H at1 U (C8 U U (AJ U (.bool _) U (Ab ?_))));exact⟨rfl,(),rfl,⟨qaa Value.bool (by(rw[qad];simp only[qbf,qar];omega)),trivial⟩,H⟩
  rintro - j54 w H;refine Aw _ U ?_ ?_
  .intro h2;refine Ae (BA (BQ ⟨0,0,0,0,0,0,0⟩) OG IZ ?_);refine Ad U (Ad U (Bn FP U U U (by simp[AY]) H at1 U ?_));rintro w H;refine Ad U (qA (A5 (Av (JN U U (show _=(.int _ _)from rfl) (show _=(.int _ _)from rfl) U Kn FP H at1 U (show _=(.int _ _)from rfl) ?_))))
   have hf:DZ l=false:=by
    unfold DZ;simp at h2;rw[hl,qan rfl,qcl,Bool.and_eq_false_iff,qdh,qdh];omega
   refine⟨?_,H.ext⟩;unfold gaV gaC gaN gaK gaE;rw[hf];rfl
  .intro h2;refine Ay (Aa (Ej 5 Br U U ?_));refine AX U (AX U (N8 U Kn FP U (by rintro _ rfl;exact H.drew) at1 U ?_));refine Dv U (Dv U (BS ?_));replace H:=H.drew;refine Bn FP U U U (by simp[AY]) H at1 U ?_;rintro w H;refine Ad U (qA (A5 (JN U U (show _=(.int _ _)from rfl) (show _=(.int _ _)from rfl) U Kn FP H at1 U (show _=(.int _ _)from rfl) ?_)))
   have hf:DZ l=true:=by
    unfold DZ;simp at h2;rw[hl,qan rfl,qan (show 1<=CU l 12 1 by omega),qan (show CU l 12 1<=15 by omega)];rfl
   refine⟨?_,H.ext⟩;unfold gaV gaC gaN gaK gaE;rw[hf];rfl
structure PrZ where
 i:Nat
 a:Option Addr
 c:Nat
theorem Ab2(cl n:Nat)(e:Int)(a:Option Addr)(m c:Nat)(ns:List Int)(w:World)(R:Rd w a 1 I1 ns)(hm:ns.length=m)(hm2:m<=29)(he:0<=e/\e<=255)(hc:cl<4294967296)(hn:n<18446744073709551616) :
  Ret prog 95 #[.int .u32 (cl:Int),.int .u64 (n:Int),.agg #[.int .i64 e,.slice a m c]] w fun v w'=>∃s,v=.tuple #[s,.int .i64 0]/\Fresh w w' 5 1 s ((Kg cl n e ns).map bv):=by
 subst hm;obtain⟨w0,rfl,H⟩:=qE w;refine Au (fn:=f95) func95 U [.int .u32 (cl:Int),.int .u64 (n:Int),.agg #[.int .i64 e,.slice a ns.length c]] U (Ae (Bu [.int .i64 e,.slice a ns.length c] (.agg _) U U H ?_));rintro b5 w - H;refine Am U (Ad U (qA (Ax (Ae (Ci (α:=Unit) 33552384 (fun _=>[(24,.bool (((decide (e<0) || decide (e>255)) || decide ((ns.length:Int)>29))))]) (fun _ w'=>Ctx w0 [] w' [(b5,Bl 33 [.int .i64 e,.slice a ns.length c])]) U ?_ ?_)))))
 .refine Ah MS U (AG Sr U H at0 U (Bm U U (A2 U (AR 14 U ?_ ?_))))
  .intro h1;replace h1:=AM h1;refine Ag U (Ag U (Ag U (AA U (.bool _) U (A2 U (Ag U (Ag U (Ag U (Ag U (AA U (.bool _) U ?_)))))))));refine Ab ?_;exact⟨rfl,(),rfl,⟨qaa Value.bool (by(rw[qad];simp only[qbf,qar,true_iff];omega)),trivial⟩,H⟩
  .intro h2;replace h2:=AN h2;refine Ah MS U (AG Sr U H at0 U (C8 U U (AJ U (.bool _) U (A2 U (AR 19 U ?_ ?_)))))
   .intro h3;replace h3:=AM h3;refine Ag U (Ag U (Ag U (Ag U (AA U (.bool _) U (Ab ?_)))));exact⟨rfl,(),rfl,⟨qaa Value.bool (by(rw[qad];simp only[qbf,qar,true_iff];omega)),trivial⟩,H⟩
   .intro h4;replace h4:=AN h4;refine Ah TN U (AG BU U H at0 U (Be Bf U (C8 U U (AJ U (.bool _) U (Ab ?_)))));exact⟨rfl,(),rfl,⟨qaa Value.bool (by(rw[qad];simp only[qbf,qar];omega)),trivial⟩,H⟩
 rintro - j24 w H;refine Aw _ U ?_ ?_
 .intro g1;exfalso;simp at g1;omega
 .intro g1;clear g1;refine Ay (Aa (Ae (Af U (Al qB (Wl none 0 0 [] cl 4 _ Rd.nil U) U ?_))));rintro v w F;rw[Kj,qca]at F;replace H:=H.call F.ext;obtain⟨a26,c26,rfl,R26,-⟩:=Fresh.rdB F;refine Af U (Al qB (Wo a26 c26 _ _ (n:Int) 8 _ R26 U (by simp[Cz])) U ?_);rintro v w F;rw[Kj (h:=hn)]at F;replace H:=H.call F.ext;obtain⟨a28,c28,rfl,R28,-⟩:=Fresh.rdB F;refine Am U (qA ?_);obtain⟨l4,hl4⟩:=qD (Co cl 4++Co n 8);rw[<-hl4]at R28 |-;have hn4:l4.length=12:=by rw[hl4];simp[Cz]
  refine Ck [([0,1,2,4,5,6],3),([],7),([],8)] (fun z=>(Ext [] w0 z/\z.heap[b5]?=some (Bl 33 [.int .i64 e,.slice a ns.length c]))) [] Br (⟨H.drew.ext,H.drew.get at0⟩) ?_;refine AD U U (B3 U (Ao MS U (B0 Sr U (fun _ hx=>(by rw[Aj hx.2];rfl)) ?_)));refine Ao TN U (B0 BU U (fun _ hx=>(by rw[Aj hx.2];rfl)) ?_);refine Alv U Bf U (AU ?_);replace R28:=R28.ext0 (Ext.drew [] _);replace H:=H.drew;refine Al qB (Ab0 a28 c28 _ l4 e 1 _ R28 U) U ?_;rintro v w F;replace H:=H.call F.ext;obtain⟨a32,c32,rfl,R32,-⟩:=Fresh.rdB F;refine Ab (BH (⟨H.ext,H.get at0⟩) (AD U U ?_));refine AU (Al qB (Wm a32 c32 _ _ ns.length 1 _ R32 U (by simp[Cz];omega)) U ?_);rintro v w F;have hE:=H.ext;replace H:=H.call F.ext;rw[Kj]at F;obtain⟨a36,c36,rfl,-,-⟩:=Fresh.rdB F;refine Ab (BH (⟨H.ext,H.get at0⟩) (AD U U ?_))
  refine AU (Am U (Ab (BH (⟨H.ext,H.get at0⟩) (BF (Ax ?_)))));obtain⟨l5,hl5⟩:=qD (l4++Co (w64 e) 1++Co ns.length 1);rw[<-hl5]at F |-;have hn5:l5.length=14:=by rw[hl5];simp[Cz,hn4]
  rw[hn5]at F |-;replace F:=Fresh.since F hE;refine Ae (Ah TN U (AG BU U H at0 U (Be Bf U (Af U (qA (A1 (Bw 280375465084160 (α:=PrZ) (fun t=>[(8,.slice t.a (14+8*t.i) t.c),(40,.int .i64 (t.i:Int))]) (fun t w'=>t.i<=ns.length/\Ctx w0 [] w' [(b5,Bl 33 [.int .i64 e,.slice a ns.length c])]/\Fresh w0 w' 5 1 (.slice t.a (14+8*t.i) t.c) ((l5++JA (ns.take t.i)).map bv)) (fun t=>ns.length - t.i) ⟨0,a36,c36⟩ U ?_ ?_ ?_)))))))
  .exact⟨rfl,rfl,trivial⟩
  .exact⟨qaq _,H,by simpa[JA]using F⟩
  .clear H F;rintro⟨i,a8,c8⟩ j w ⟨hi,H,F⟩;dsimp only at hi H F;dsimp only;refine Ae (Bm U U (qA (Ax (Aw _ U ?_ ?_))))
   .intro h2;replace h2:=AM h2;obtain⟨x,hx⟩:=AE (l:=ns) (i:=i)
    have hl8:(l5++JA (ns.take i)).length=14+8*i:=by
     rw[qat,Oe,qbb,hn5];omega
    obtain⟨a8',c8',hv8,R8,-⟩:=Fresh.rdB F;rw[hl8]at hv8;cases hv8;refine Ay (Aa (Ax (A1 (Ae (Bg (R.ext0 H.ext) Bf BD U U (by rfl) ?_)))));refine Bb B4 U (((R.ext0 H.ext).one (f:=Eb) hx)) (Ad U (qA (A0 (Ap U (Af U (Al qB (Wn a8 c8 _ _ x 8 _ R8 hl8) U ?_))))));rintro v w F2;have hE:=H.ext;replace H:=H.call F2.ext;replace F2:=Fresh.since F2 hE;rw[qas,<-XP hx]at F2;obtain⟨a9,c9,rfl,-,-⟩:=Fresh.rdB F2;rw[show(l5++JA (ns.take (i+1))).length=14+8*(i+1)by(rw[qat,Oe,qbb,hn5];omega)]at F2 |-;refine Am U (Ab (A8 (Aa (A0 (Az U U ?_)))));refine Af U (qA ?_);exact⟨⟨i+1,a9,c9⟩,rfl,⟨rfl,rfl,trivial⟩,⟨by dsimp only;omega,H,F2⟩,by dsimp only;omega⟩
   .intro h2;replace h2:=AN h2;obtain rfl:i=ns.length:=by omega
    rw[qbm]at F;refine Bt (An (An (AK (Aa (Ae (Ap U (Am U (Ad U (qA (A5 (Cf (v1:=(.slice _ _ _)) (v2:=(.int _ _)) U U U U ?_)))))))))));refine⟨_,rfl,?_⟩
    have hfin:Kg cl n e ns=l5++JA ns:=by
     unfold Kg;rw[hl5,hl4];simp only[qas]
    rw[hfin];exact F
theorem Oi(cl n:Nat)(e:Int)(a:Option Addr)(m c:Nat)(ns:List Int)(w:World)(R:Rd w a 1 I1 ns)(hm:ns.length=m)(hm2:m<=29)(he:0<=e/\e<=255)(hc:cl<4294967296)(hn:n<18446744073709551616) :
  Ret prog 56 #[.agg #[.int .u32 (cl:Int),.int .u64 (n:Int)],.agg #[.int .i64 e,.slice a m c]] w fun v w'=>Fresh w w' 5 1 v ((Kg cl n e ns).map bv):=by
 obtain⟨w0,rfl,H⟩:=qE w;refine Au (fn:=Tryz.f56) func56 U [.agg #[.int .u32 (cl:Int),.int .u64 (n:Int)],.agg #[.int .i64 e,.slice a m c]] U (Ae (Bu [.int .u32 (cl:Int),.int .u64 (n:Int)] (.agg _) U U H ?_));rintro b2 w - H;refine Bu [.int .i64 e,.slice a m c] (.agg _) U U H ?_;rintro b3 w - H;refine Am U (qA (Ae (Ah Ai9 U (AG Yy U H at1 U (Ah Aja U (AG B6 U H at1 U (Cg Ss Jv U H at0 U (Al qB (Ab2 cl n e a m c ns _ (R.ext0 H.ext) hm hm2 he hc hn) U ?_))))))));rintro v w ⟨s,rfl,F⟩;have hE:=H.ext;replace H:=H.call F.ext;obtain⟨a13,c13,rfl,-,-⟩:=Fresh.rdB F;refine Cr U (AH U U (AH U U (Am U (Ad U (qA (Ae (Ap U (Am U (qA ?_)))))))));refine A5 (AB (v:=(.slice _ _ _)) U U U ?_);exact Fresh.since F hE
structure As where
 c:Nat
 n:Nat
 ask:List UInt8
 rep:List UInt8
 aA:Option Addr
 cA:Nat
 aR:Option Addr
 cR:Nat
abbrev asC(x:As):List Value:=[.int .u32 (x.c:Int),.int .u64 (x.n:Int),.slice x.aA x.ask.length x.cA,.slice x.aR x.rep.length x.cR]
structure AsR(w:World)(x:As):Prop where
 A:Rd w x.aA 1 B8 x.ask
 R:Rd w x.aR 1 B8 x.rep
 cA:x.ask.length<=x.cA
 cR:x.rep.length<=x.cR
theorem AsR.ext0{w w':World}{x:As}(h:AsR w x)(hx:Ext [] w w'):AsR w' x:=⟨h.A.ext0 hx,h.R.ext0 hx,h.cA,h.cR⟩
structure Own(w w':World)(x y:As)(B:List (Nat × Obj)):Prop where
 H:Ctx w [] w' B
 c:y.c=x.c
 n:y.n=x.n
 ask:y.ask=x.ask
 rep:y.rep=x.rep
 lie:∃fA fR,B=ent y.aA 5 fA++ent y.aR 5 fR/\OS y.aA y.ask.length y.cA 1 fA (y.ask.map bv)/\OS y.aR y.rep.length y.cR 1 fR (y.rep.map bv)
theorem Aht(x:As)(w:World)(X:AsR w x)(hA:x.ask.length<=100000:=by omega)(hR:x.rep.length<=100000:=by omega):
  Ret prog 61 #[.agg (asC x).toArray] w fun v w'=>∃y B,v=.agg (asC y).toArray/\Own w w' x y B:=by
 obtain⟨w0,rfl,H⟩:=qE w;refine Au (fn:=Tryz.f61) func61 U [.agg (asC x).toArray] U (Ae (Bu (asC x) (.agg _) U U H ?_));rintro b1 w - H;refine Bc Vs H ?_;rintro b2 w - H;refine qA (Ck [([0,1,3,4],2),([6],5),([],7),([8],9)] (fun z=>(Ext [] w0 z/\z.heap[b1]?=some (Bl 99 (asC x)))) [7,9] Br (⟨H.drew.ext,H.drew.get at1⟩) ?_);refine AD U U (Ao MV U (B0 Js U (fun _ hx=>(by rw[Aj hx.2];rfl)) ?_));refine Ao MW U (B0 Js U (fun _ hx=>(by rw[Aj hx.2];rfl)) ?_);refine AU ?_;replace H:=H.drew;refine Al qB (Nu x.aA x.cA _ x.ask _ (X.A.ext0 H.ext) U) U ?_;rintro v w ⟨F,-⟩;obtain⟨a5,n5,c5,f5,rfl,O5,h5⟩:=F.ex;obtain rfl:n5=x.ask.length:=by(have:=O5.llen;rw[qal]at this;omega)
 replace H:=H.callEnt F.ext h5 Fu;refine Ab (BH (⟨H.ext,H.get at1⟩) (AD U U ?_));refine Ao MV U (AU (Al qB (Nu x.aR x.cR _ x.rep _ (X.R.ext0 H.ext) U) U ?_));rintro v w ⟨F,-⟩;obtain⟨a8,n8,c8,f8,rfl,O8,h8⟩:=F.ex;obtain rfl:n8=x.rep.length:=by(have:=O8.llen;rw[qal]at this;omega)
 replace H:=H.callEnt F.ext h8 Fu;refine Ab (BH (⟨H.left.ext,H.left.get at1⟩) (AD U U ?_));refine AU (Cb (.slice _ _ _) LU U U U H at1 (by(simp;done)) ?_);rintro w H;refine Ab (Bz U (AD U U ?_));refine Ao MW U (AU (Cb (.slice _ _ _) LU U U U H at1 (by(simp;done)) ?_));rintro w H;refine Ab (Bz U (BF (Ae (Cg Adi Ix U H at1 U (Bn Ix U U U (by simp[AY]) H at0 U ?_)))));rintro w H;refine qA (A5 (JI U U U Adi Ix H at0 U ?_));have H17:Ctx w0 [] w ([(b2,Bl 99 [.int .u32 (x.c:Int),.int .u64 (x.n:Int),.slice a5 x.ask.length c5,.slice a8 x.rep.length c8]),(b1,Bl 99 [.int .u32 (x.c:Int),.int .u64 (x.n:Int),.slice a5 x.ask.length c5,.slice a8 x.rep.length c8])]++(ent a5 5 f5++ent a8 5 f8)):=H;exact⟨⟨x.c,x.n,x.ask,x.rep,a5,c5,a8,c8⟩,ent a5 5 f5++ent a8 5 f8,rfl,H17.right,rfl,rfl,rfl,rfl,f5,f8,rfl,O5,O8⟩
theorem IH(w:World):Fresh w w 2 1 (.slice none 0 0) (([]:List Int).map Eb):=Fresh.nil (Ctx.start w []) _ _
theorem Wr{bl ba c:Nat}{v1 v2 v3:Value}{a:Option Addr}{acs:List Ac}(k:Int)(w:World)(hl:w.heap[bl]?=some (Bl 73 [ptr ba,v1,v2,v3]))(hd:AcB ba a acs.length c w)(R:Rd w a 2 Dl acs)(hn:acs.length<=1000000:=by omega):
  Ret prog 69 #[ptr bl,.int .i64 k] w fun v w'=>v=.bool (inA acs k)/\Ext [] w w':=by
 obtain⟨w0,rfl,H⟩:=qE w;refine Au (fn:=f69) func69 U [.pointer (some ⟨bl,0,none⟩),.int .i64 k] U ?_;refine Ae (Ai U (qA (Ae (A4 U (A9 U (Ah He U (Bb IV U ((H.old (Aj hl _) (by simp))) ?_)))))));refine Af U (Al qB (P8 a _ c acs k _ (H.ext.to hd (by simp)) (R.ext0 H.ext) U hn) U ?_);rintro v w ⟨rfl,hx16⟩;replace H:=H.call hx16;refine Cr U (AH U U (AH U U (Bc HA H ?_)));rintro b5 w - H;refine Bn DO U U U (by simp[AY]) H at0 U ?_;rintro w H;refine Ai U (qA (Ae (A2 U (Ai U (qA (A5 (AB (v:=(.bool _)) U U U ?_)))))));exact⟨rfl,H.ext⟩
theorem Ahu{m:Lm}{s:Ld}{T:Nat->Prop}{k:Ak}(hk:k.kd=6)(hin:AkIn k)(w:World)(I:LdIn w m s T)(H0:Ctx w (Dy m s) w (LL m s)) :
  Ret prog 34 #[ptr m.bl,.agg (BQ k).toArray] w (GI w m s T k):=by
 obtain⟨w0,rfl⟩:=qD w;obtain⟨bl,ba,bd,br,b,a,c,full,o,arch⟩:=m;obtain⟨S0,hS0⟩:=qD (Dy ⟨bl,ba,bd,br,b,a,c,full,o,arch⟩ s);have H:Ctx w0 S0 w0 ((bl,Bl 73 [ptr ba,ptr bd,ptr br,.int .i64 s.day])::(br,Bl 135 arch)::(ba,Bl 129 [.slice a s.acs.length c])::(bd,Bl 132 (DU b s.nx))::(b,o)::ent a 108 full):=by rw[hS0];exact H0
 have hn16:=(Cv.1 I.ok.ac).1;have hbdb:bd≠b:=H.ne (i:=3) (j:=4) rfl rfl (by decide);have hoth:Fz s k={ s with ds:=Jn s.ds k.id true }:=by unfold Fz;(iterate 5 rw[if_neg (by omega)]);rw[if_pos hk]
 have hokS:({ s with ds:=Jn s.ds k.id true }:Ld).Ok:=by rw[<-hoth];exact Ki I.ok k hin.u.2
 have hstep:CN s k { s with ds:=Jn s.ds k.id true } (rp [] (LM s.ds k.id true)):=by
  unfold CN;rw[if_neg (by omega)];exact⟨hoth.symm,by unfold FC;(iterate 5 rw[if_neg (by omega)]);rw[if_pos hk]⟩
 refine Au (fn:=Tryz.f34) func34 U [.pointer (some ⟨bl,0,none⟩),.agg (BQ k).toArray] U ?_;refine Ae (Bu (BQ k) (.agg _) U U H ?_);rintro b3 w - H;refine Am U (Ad U (qA (Ck [([0,1,2,3,4,5],6),([7],8)] (fun z=>z.heap[b3]?=some (Bl 25 (BQ k))/\z.heap[bl]?=some (Bl 73 [ptr ba,ptr bd,ptr br,.int .i64 s.day])) [6,8] Br (⟨H.drew.get at0,H.drew.get at1⟩) ?_)));refine AD U U (BG U (Ba U (Ao Gk U (B0 HO U (fun _ hx=>(by rw[Aj hx.2];rfl)) ?_))));refine Ao IY U (B0 B6 U (fun _ hx=>(by rw[Aj hx.1];rfl)) ?_);refine AU ?_;replace H:=H.drew;refine Al qB (Akw _ (H.get at4) (H.get at5) I.M hbdb I.ok.du) U ?_;rintro v w ⟨rfl,o',hM',H7⟩;replace H:=Ctx.mid (B:=[_,_,_,_,_]) (L:=[_]) H H7;refine Ab (Bz U (AD U U ?_));refine EC U (AU (Ad U (Ab (Bz U (BF (A5 (Cf (v1:=(.slice _ _ _)) (v2:=(.int _ _)) U U U U ?_)))))));subst hS0
 exact Ek (P:=[_]) (m':=⟨bl,ba,bd,br,b,a,c,full,o',arch⟩) (s':={ s with ds:=Jn s.ds k.id true }) I H (IH _) hstep I.O hM' hokS U U U U
theorem Ws{m:Lm}{s:Ld}{T:Nat->Prop}{k:Ak}(hk:k.kd=7)(hin:AkIn k)(w:World)(I:LdIn w m s T)(H0:Ctx w (Dy m s) w (LL m s)) :
  Ret prog 35 #[ptr m.bl,.agg (BQ k).toArray] w (GI w m s T k):=by
 obtain⟨w0,rfl⟩:=qD w;obtain⟨bl,ba,bd,br,b,a,c,full,o,arch⟩:=m;obtain⟨S0,hS0⟩:=qD (Dy ⟨bl,ba,bd,br,b,a,c,full,o,arch⟩ s);have H:Ctx w0 S0 w0 ((bl,Bl 73 [ptr ba,ptr bd,ptr br,.int .i64 s.day])::(br,Bl 135 arch)::(ba,Bl 129 [.slice a s.acs.length c])::(bd,Bl 132 (DU b s.nx))::(b,o)::ent a 108 full):=by rw[hS0];exact H0
 have hn16:=(Cv.1 I.ok.ac).1;have hbdb:bd≠b:=H.ne (i:=3) (j:=4) rfl rfl (by decide);have hoth:Fz s k={ s with ds:=Jn s.ds k.id false }:=by unfold Fz;(iterate 6 rw[if_neg (by omega)]);rw[if_pos hk]
 have hokS:({ s with ds:=Jn s.ds k.id false }:Ld).Ok:=by rw[<-hoth];exact Ki I.ok k hin.u.2
 have hstep:CN s k { s with ds:=Jn s.ds k.id false } (rp [] (LM s.ds k.id false)):=by
  unfold CN;rw[if_neg (by omega)];exact⟨hoth.symm,by unfold FC;(iterate 6 rw[if_neg (by omega)]);rw[if_pos hk]⟩
 refine Au (fn:=f35) func35 U [.pointer (some ⟨bl,0,none⟩),.agg (BQ k).toArray] U ?_;refine Ae (Bu (BQ k) (.agg _) U U H ?_);rintro b3 w - H;refine Am U (Ad U (qA (Ck [([0,1,2,3,4,5],6),([7],8)] (fun z=>z.heap[b3]?=some (Bl 25 (BQ k))/\z.heap[bl]?=some (Bl 73 [ptr ba,ptr bd,ptr br,.int .i64 s.day])) [6,8] Br (⟨H.drew.get at0,H.drew.get at1⟩) ?_)));refine AD U U (BG U (Ba U (Ao Gk U (B0 HO U (fun _ hx=>(by rw[Aj hx.2];rfl)) ?_))));refine Ao IY U (B0 B6 U (fun _ hx=>(by rw[Aj hx.1];rfl)) ?_);refine AU ?_;replace H:=H.drew;refine Al qB (XS _ (H.get at4) (H.get at5) I.M hbdb I.ok.du) U ?_;rintro v w ⟨rfl,o',hM',H7⟩;replace H:=Ctx.mid (B:=[_,_,_,_,_]) (L:=[_]) H H7;refine Ab (Bz U (AD U U ?_));refine EC U (AU (Ad U (Ab (Bz U (BF (A5 (Cf (v1:=(.slice _ _ _)) (v2:=(.int _ _)) U U U U ?_)))))));subst hS0
 exact Ek (P:=[_]) (m':=⟨bl,ba,bd,br,b,a,c,full,o',arch⟩) (s':={ s with ds:=Jn s.ds k.id false }) I H (IH _) hstep I.O hM' hokS U U U U
theorem XV{m:Lm}{s:Ld}{T:Nat->Prop}{k:Ak}(hk:k.kd=8)(hin:AkIn k)(w:World)(I:LdIn w m s T)(H0:Ctx w (Dy m s) w (LL m s)) :
  Ret prog 36 #[ptr m.bl,.agg (BQ k).toArray] w (GI w m s T k):=by
 obtain⟨w0,rfl⟩:=qD w;obtain⟨bl,ba,bd,br,b,a,c,full,o,arch⟩:=m;obtain⟨S0,hS0⟩:=qD (Dy ⟨bl,ba,bd,br,b,a,c,full,o,arch⟩ s);have H:Ctx w0 S0 w0 ((bl,Bl 73 [ptr ba,ptr bd,ptr br,.int .i64 s.day])::(br,Bl 135 arch)::(ba,Bl 129 [.slice a s.acs.length c])::(bd,Bl 132 (DU b s.nx))::(b,o)::ent a 108 full):=by rw[hS0];exact H0
 have hn16:=(Cv.1 I.ok.ac).1;have hbdb:bd≠b:=H.ne (i:=3) (j:=4) rfl rfl (by decide);have hoth:Fz s k={ s with ds:=Ut s.ds k.id }:=by unfold Fz;(iterate 7 rw[if_neg (by omega)]);rw[if_pos hk]
 have hokS:({ s with ds:=Ut s.ds k.id }:Ld).Ok:=by rw[<-hoth];exact Ki I.ok k hin.u.2
 have hstep:CN s k { s with ds:=Ut s.ds k.id } (rp [] (Pp s.ds k.id)):=by
  unfold CN;rw[if_neg (by omega)];exact⟨hoth.symm,by unfold FC;(iterate 7 rw[if_neg (by omega)]);rw[if_pos hk]⟩
 refine Au (fn:=f36) func36 U [.pointer (some ⟨bl,0,none⟩),.agg (BQ k).toArray] U ?_;refine Ae (Bu (BQ k) (.agg _) U U H ?_);rintro b3 w - H;refine Am U (Ad U (qA (Ck [([0,1,2,3,4,5],6),([7],8)] (fun z=>z.heap[b3]?=some (Bl 25 (BQ k))/\z.heap[bl]?=some (Bl 73 [ptr ba,ptr bd,ptr br,.int .i64 s.day])) [6,8] Br (⟨H.drew.get at0,H.drew.get at1⟩) ?_)));refine AD U U (BG U (Ba U (Ao Gk U (B0 HO U (fun _ hx=>(by rw[Aj hx.2];rfl)) ?_))));refine Ao IY U (B0 B6 U (fun _ hx=>(by rw[Aj hx.1];rfl)) ?_);refine AU ?_;replace H:=H.drew;refine Al qB (Abx _ (H.get at4) (H.get at5) I.M hbdb I.ok.du) U ?_;rintro v w ⟨rfl,o',hM',H7⟩;replace H:=Ctx.mid (B:=[_,_,_,_,_]) (L:=[_]) H H7;refine Ab (Bz U (AD U U ?_));refine EC U (AU (Ad U (Ab (Bz U (BF (A5 (Cf (v1:=(.slice _ _ _)) (v2:=(.int _ _)) U U U U ?_)))))));subst hS0
 exact Ek (P:=[_]) (m':=⟨bl,ba,bd,br,b,a,c,full,o',arch⟩) (s':={ s with ds:=Ut s.ds k.id }) I H (IH _) hstep I.O hM' hokS U U U U
theorem Ahv{m:Lm}{s:Ld}{T:Nat->Prop}{k:Ak}(hk:k.kd=12)(_:AkIn k)(w:World)(I:LdIn w m s T)(H0:Ctx w (Dy m s) w (LL m s)) :
  Ret prog 39 #[ptr m.bl,.agg (BQ k).toArray] w (GI w m s T k):=by
 obtain⟨w0,rfl⟩:=qD w;obtain⟨bl,ba,bd,br,b,a,c,full,o,arch⟩:=m;obtain⟨S0,hS0⟩:=qD (Dy ⟨bl,ba,bd,br,b,a,c,full,o,arch⟩ s);have H:Ctx w0 S0 w0 ((bl,Bl 73 [ptr ba,ptr bd,ptr br,.int .i64 s.day])::(br,Bl 135 arch)::(ba,Bl 129 [.slice a s.acs.length c])::(bd,Bl 132 (DU b s.nx))::(b,o)::ent a 108 full):=by rw[hS0];exact H0
 have hn16:=(Cv.1 I.ok.ac).1;have hbdb:bd≠b:=H.ne (i:=3) (j:=4) rfl rfl (by decide)
 have hstep:CN s k s (rp (RN s.acs k.a) (if(0:Int)=0/\inA s.acs k.a=false then 10 else 0)):=by
  unfold CN;rw[if_neg (by omega)];have hR:FC s k=if inA s.acs k.a=true then⟨0,RN s.acs k.a⟩else⟨10,[]⟩:=by unfold FC;(iterate 9 rw[if_neg (by omega)]);rw[if_pos hk]
  refine⟨by unfold Fz;iterate 9 rw[if_neg (by omega)],?_⟩;rw[hR]
  cases inA s.acs k.a with
  |true=>rfl
  |false=>rfl
 refine Au (fn:=Tryz.f39) func39 U [.pointer (some ⟨bl,0,none⟩),.agg (BQ k).toArray] U ?_;refine Ae (Bu (BQ k) (.agg _) U U H ?_);rintro b3 w - H;refine Am U (Ad U (qA (Ae (A4 U (Ah EF U (AG Cc U H at0 U (Al qB (PA k.a _ _ (H.get at1) (H.get at3) (OS.rd (t:=108) I.O (fun y hy=>H.blk y (qaf [_,_,_,_,_,_] hy)) (fun _ _=>rfl) (by decide))) U ?_)))))));rintro v w ⟨a',c',rfl,F⟩;have H8:=H;replace H:=H.call F.ext;refine AH U U (AH U U (Am U (Ad U (qA (A5 (Cf (v1:=(.slice _ _ _)) (v2:=(.int _ _)) U U U U ?_))))));subst hS0;exact Ek (P:=[_]) (m':=⟨bl,ba,bd,br,b,a,c,full,o,arch⟩) (s':=s) I H8 F hstep I.O I.M I.ok U U U U
def OpnR(w0:World)(S0:List Nat)(w:World)(s:Ld)(arch:List Value)(b3:Nat)(e3:List Value)(bl ba bd br b c:Nat)(a:Option Addr)(full:List Value)(o:Obj)(i' code:Int):Prop :=
 (16<=s.acs.length/\code=6/\Ctx w0 S0 w ((b3,Bl 25 e3)::(bl,Bl 73 [ptr ba,ptr bd,ptr br,.int .i64 s.day])::(br,Bl 135 arch)::LX ba a s.acs.length c full bd b s.nx o)) \/
 (s.acs.length<16/\i'=(s.acs.length:Int)/\code=0/\∃a' c' full',OS a' (s.acs++[a00]).length c' 2 full' ((s.acs++[a00]).flatMap Dl)/\Ctx w0 S0 w ((b3,Bl 25 e3)::(bl,Bl 73 [ptr ba,ptr bd,ptr br,.int .i64 s.day])::(br,Bl 135 arch)::LX ba a' (s.acs++[a00]).length c' full' bd b s.nx o))
theorem Ahw{w0 w w':World}{S0:List Nat}{s:Ld}{arch:List Value}{b3 bl ba bd br b c:Nat}{e3:List Value}{a:Option Addr}{full:List Value}{o:Obj}{v:Value}(H:Ctx w0 S0 w ((b3,Bl 25 e3)::(bl,Bl 73 [ptr ba,ptr bd,ptr br,.int .i64 s.day])::(br,Bl 135 arch)::LX ba a s.acs.length c full bd b s.nx o))(h:(16<=s.acs.length->v=.tuple #[.int .i64 0,.int .i64 6]/\Ctx w ((AL ba (bd,Bl 132 (DU b s.nx)) (b,o) a s.acs.length c full).map fun x=>x.1) w' (AL ba (bd,Bl 132 (DU b s.nx)) (b,o) a s.acs.length c full)) /\
   (s.acs.length<16->v=.tuple #[.int .i64 (s.acs.length:Int),.int .i64 0]/\∃a' c' full',OS a' (s.acs++[a00]).length c' 2 full' ((s.acs++[a00]).flatMap Dl)/\Ctx w ((AL ba (bd,Bl 132 (DU b s.nx)) (b,o) a s.acs.length c full).map fun x=>x.1) w' (AL ba (bd,Bl 132 (DU b s.nx)) (b,o) a' (s.acs++[a00]).length c' full'))) :
  ∃i' code,v=.tuple #[.int .i64 i',.int .i64 code]/\OpnR w0 S0 w' s arch b3 e3 bl ba bd br b c a full o i' code:=by
 have hb:∀{L':List (Nat × Obj)},Ctx w ((AL ba (bd,Bl 132 (DU b s.nx)) (b,o) a s.acs.length c full).map fun x=>x.1) w' L'->Ctx w0 S0 w' ([(b3,Bl 25 e3),(bl,Bl 73 [ptr ba,ptr bd,ptr br,.int .i64 s.day]),(br,Bl 135 arch)]++L'):=fun{L'} h1=>(Ctx.back (L1:=AL ba (bd,Bl 132 (DU b s.nx)) (b,o) a s.acs.length c full) (L2:=[_,_,_]) (H.comm (L:=[_,_,_])) h1).comm
 rcases qap s.acs.length 16 with h16|h16
 .obtain⟨rfl,a',c',full',O',H1⟩:=h.2 h16;exact⟨_,_,rfl,.inr ⟨h16,rfl,rfl,a',c',full',O',hb H1⟩⟩
 .obtain⟨rfl,H1⟩:=h.1 h16;exact⟨_,_,rfl,.inl ⟨h16,rfl,hb H1⟩⟩
theorem Ahx{m:Lm}{s:Ld}{T:Nat->Prop}{k:Ak}(hk:k.kd=1)(hin:AkIn k)(w:World)(I:LdIn w m s T)(H0:Ctx w (Dy m s) w (LL m s)) :
  Ret prog 29 #[ptr m.bl,.agg (BQ k).toArray] w (GI w m s T k):=by
 obtain⟨w0,rfl⟩:=qD w;obtain⟨bl,ba,bd,br,b,a,c,full,o,arch⟩:=m;obtain⟨S0,hS0⟩:=qD (Dy ⟨bl,ba,bd,br,b,a,c,full,o,arch⟩ s);have H:Ctx w0 S0 w0 ((bl,Bl 73 [ptr ba,ptr bd,ptr br,.int .i64 s.day])::(br,Bl 135 arch)::(ba,Bl 129 [.slice a s.acs.length c])::(bd,Bl 132 (DU b s.nx))::(b,o)::ent a 108 full):=by rw[hS0];exact H0
 have hn16:=(Cv.1 I.ok.ac).1;have hbdb:bd≠b:=H.ne (i:=3) (j:=4) rfl rfl (by decide)
 have hstep:∀l,(s.acs.length<16->l=[(s.acs.length:Int)])->CN s k (Fz s k) (rp l (if s.acs.length<16 then 0 else 6)):=fun l hl=>by
  unfold CN;rw[if_neg (by omega)];refine⟨rfl,?_⟩;unfold FC;rw[if_pos hk]
  by_cases h:s.acs.length<16
  .rw[if_pos h,hl h]
  .rw[if_neg h,We (by decide),We (by decide)]
 have hokS:=Ki I.ok k hin.u.2;have hoth:Fz s k=if s.acs.length<16 then{ s with acs:=s.acs++[a00] }else s:=by unfold Fz;rw[if_pos hk]
 refine Au (fn:=f29) func29 U [.pointer (some ⟨bl,0,none⟩),.agg (BQ k).toArray] U ?_;refine Ae (Bu (BQ k) (.agg _) U U H ?_);rintro b3 w - H;refine Am U (Ad U (qA (Ae (A4 U (A9 U (Ah He U (AG IV U H at1 U ?_)))))));have HL:=Ctx.lend (L1:=AL ba (bd,Bl 132 (DU b s.nx)) (b,o) a s.acs.length c full) (L2:=[(b3,Bl 25 (BQ k)),(bl,Bl 73 [ptr ba,ptr bd,ptr br,.int .i64 s.day]),(br,Bl 135 arch)]) (H.comm (L:=[_,_,_]));refine Al qB (Abu HL I.O) U ?_;rintro v w hres;obtain⟨i',code,rfl,hr⟩:∃i' code,v=.tuple #[.int .i64 i',.int .i64 code]/\OpnR w0 S0 w s arch b3 (BQ k) bl ba bd br b c a full o i' code:=Ahw H hres;refine Cr U (AH U U (AH U U (Ad U (Ad U (qA (Ae (Af U ?_)))))));have H:=Ctx.start w [];refine Cp [.int .i64 i'] (.int .i64 i') Bf BD Fh U U U U H ?_;rintro b17 w2 - H17
 refine Af U (Am U (Ad U (qA (A5 (Cf (v1:=(.slice _ _ _)) (v2:=(.int _ _)) U U U U ?_)))));subst hS0
 rcases hr with⟨h16,rfl,H1⟩|⟨h16,rfl,rfl,a',c',full',O',H1⟩
 .rw[hoth,if_neg (by omega)]at hokS hstep;rw[if_neg (by omega)]at hstep;exact Ek (P:=[_]) (m':=⟨bl,ba,bd,br,b,a,c,full,o,arch⟩) (s':=s) (l:=[i']) I H1 (GZ (n:=1) (l:=[Eb i']) H17 U) (hstep [i'] fun h=>by omega) I.O I.M I.ok U U U U
 .rw[hoth,if_pos h16]at hokS hstep;rw[if_pos h16]at hstep;exact Ek (P:=[_]) (m':=⟨bl,ba,bd,br,b,a',c',full',o,arch⟩) (s':={ s with acs:=s.acs++[a00] }) (l:=[(s.acs.length:Int)]) I H1 (GZ (n:=1) (l:=[Eb (s.acs.length:Int)]) H17 U) (hstep [_] fun _=>rfl) O' I.M hokS U U U U
theorem Akz{m:Lm}{s:Ld}{T:Nat->Prop}{k:Ak}(hk:k.kd=5)(hin:AkIn k)(w:World)(I:LdIn w m s T)(H0:Ctx w (Dy m s) w (LL m s)) :
  Ret prog 33 #[ptr m.bl,.agg (BQ k).toArray] w (GI w m s T k):=by
 obtain⟨w0,rfl⟩:=qD w;obtain⟨bl,ba,bd,br,b,a,c,full,o,arch⟩:=m;obtain⟨S0,hS0⟩:=qD (Dy ⟨bl,ba,bd,br,b,a,c,full,o,arch⟩ s);have H:Ctx w0 S0 w0 ((bl,Bl 73 [ptr ba,ptr bd,ptr br,.int .i64 s.day])::(br,Bl 135 arch)::(ba,Bl 129 [.slice a s.acs.length c])::(bd,Bl 132 (DU b s.nx))::(b,o)::ent a 108 full):=by rw[hS0];exact H0
 have hn16:=(Cv.1 I.ok.ac).1;have hbdb:bd≠b:=H.ne (i:=3) (j:=4) rfl rfl (by decide);have hS:Fz s k=if(inA s.acs k.a && inA s.acs k.b)=true/\s.day<=k.u then{ s with ds:=NZ s.ds s.nx k.a k.b k.x k.w k.u,nx:=QS s.ds s.nx k.a k.b k.x k.w k.u }else s:=by unfold Fz;(iterate 4 rw[if_neg (by omega)]);rw[if_pos hk]
 have hR:FC s k=if(inA s.acs k.a && inA s.acs k.b)=false then⟨10,[]⟩else if k.u<s.day then⟨1,[]⟩else rp [IntKind.i64.wrap s.nx] (J8 s.ds s.nx k.a k.b k.x k.w k.u):=by unfold FC;(iterate 4 rw[if_neg (by omega)]);rw[if_pos hk]
 have hstep:∀s' p,Fz s k=s'->FC s k=p->CN s k s' p:=fun s' p h1 h2=>by
  unfold CN;rw[if_neg (by omega)];exact⟨h1.symm,h2.symm⟩
 have hokS:=Ki I.ok k hin.u.2;obtain⟨-,hnx,-,-⟩:=FA I.ok.du;have hw:IntKind.i64.wrap s.nx=s.nx:=Dm (show(-9223372036854775808:Int)<=s.nx by omega) (show s.nx<=(9223372036854775807:Int)by omega);refine Au (fn:=Tryz.f33) func33 U [.pointer (some ⟨bl,0,none⟩),.agg (BQ k).toArray] U ?_;refine Ae (Bu (BQ k) (.agg _) U U H ?_);rintro b3 w - H;refine Am U (Ad U (qA (Ax (A1 (Ae (Ci (α:=Unit) 2096896 (fun _=>[(8,.bool (!(inA s.acs k.a && inA s.acs k.b)))]) (fun _ w'=>Ctx w0 S0 w' ([(b3,Bl 25 (BQ k)),(bl,Bl 73 [ptr ba,ptr bd,ptr br,.int .i64 s.day]),(br,Bl 135 arch),(ba,Bl 129 [.slice a s.acs.length c]),(bd,Bl 132 (DU b s.nx)),(b,o)]++ent a 108 full)) U ?_ ?_))))))
 .refine A4 U (Ah EF U (AG Cc U H at0 U (Al qB (Wr k.a _ (H.get at1) (H.get at3) (OS.rd (t:=108) I.O (fun y hy=>H.blk y (qaf [_,_,_,_,_,_] hy)) (fun _ _=>rfl) (by decide))) U ?_)));rintro v w ⟨rfl,hxb⟩;replace H:=H.call hxb;refine BP U (A2 U (AR 14 U ?_ ?_))
  .intro h1;replace h1:=BM h1;refine Ag U (Ag U (Ag U (Ag U (Ag U (AA U (.bool _) U (Ai U (Ab ?_)))))));exact⟨rfl,(),rfl,⟨qaa Value.bool (by cases h1:inA s.acs k.a <;> cases h2:inA s.acs k.b <;> simp_all),trivial⟩,H⟩
  .intro h2;replace h2:=BN h2;refine A4 U (Ah HZ U (AG Cc U H at0 U (Al qB (Wr k.b _ (H.get at1) (H.get at3) (OS.rd (t:=108) I.O (fun y hy=>H.blk y (qaf [_,_,_,_,_,_] hy)) (fun _ _=>rfl) (by decide))) U ?_)));rintro v w ⟨rfl,hxb⟩;replace H:=H.call hxb;refine BP U (AJ U (.bool _) U (Ai U (Ab ?_)));exact⟨rfl,(),rfl,⟨qaa Value.bool (by cases h1:inA s.acs k.a <;> cases h2:inA s.acs k.b <;> simp_all),trivial⟩,H⟩
 rintro - j8 w H;refine Aw _ U ?_ ?_
 .intro h1;replace h1:=BM h1;replace h1:(inA s.acs k.a && inA s.acs k.b)=false:=by revert h1;cases(inA s.acs k.a && inA s.acs k.b) <;> simp
  refine Ae (Am U (Ad U (qA (A5 (AF (Av (Cf (v1:=(.slice _ _ _)) (v2:=(.int _ _)) U U U U ?_)))))));subst hS0;exact Ek (P:=[_]) (m':=⟨bl,ba,bd,br,b,a,c,full,o,arch⟩) (s':=s) (l:=[]) (code:=10) I H (IH _) (hstep _ _ (by rw[hS,if_neg (by rw[h1];simp)]) (by rw[hR,if_pos h1];rfl)) I.O I.M I.ok U U U U
 .intro h1;replace h1:=BN h1;replace h1:(inA s.acs k.a && inA s.acs k.b)=true:=by revert h1;cases(inA s.acs k.a && inA s.acs k.b) <;> simp
  refine DT (fun x=>x=_) Br U (A6 JR U (Cj B4 U (by rintro _ rfl;exact H.drew) at0 U ?_));refine BE U (AZ U (A6 MT U (Cj B4 U (by rintro _ rfl;exact H.drew) at1 U ?_)));refine LO U U (NC U U (BS ?_));rintro _ rfl;replace H:=H.drew;refine Aw _ U ?_ ?_
  .intro h2;replace h2:=AM h2;refine Ae (Am U (Ad U (qA (A5 (AF (Av (Cf (v1:=(.slice _ _ _)) (v2:=(.int _ _)) U U U U ?_)))))));subst hS0;exact Ek (P:=[_]) (m':=⟨bl,ba,bd,br,b,a,c,full,o,arch⟩) (s':=s) (l:=[]) (code:=1) I H (IH _) (hstep _ _ (by rw[hS,if_neg (fun h=>by omega)]) (by rw[hR,if_neg (by rw[h1];decide),if_pos h2];rfl)) I.O I.M I.ok U U U U
  .intro h2;replace h2:=AN h2;rw[hS,if_pos ⟨h1,by omega⟩]at hokS;obtain⟨y,hy,hy0⟩:∃y,(if J8 s.ds s.nx k.a k.b k.x k.w k.u=0 then s.nx else 0)=y/\0<=y/\y<=4611686018427387904:=⟨_,rfl,by split <;> omega,by split <;> omega⟩
   have hst:CN s k { s with ds:=NZ s.ds s.nx k.a k.b k.x k.w k.u,nx:=QS s.ds s.nx k.a k.b k.x k.w k.u } (rp [y] (J8 s.ds s.nx k.a k.b k.x k.w k.u)):=hstep _ _ (by rw[hS,if_pos ⟨h1,by omega⟩]) (by
    rw[hR,if_neg (by rw[h1];decide),if_neg h2,hw]
    by_cases h0:J8 s.ds s.nx k.a k.b k.x k.w k.u=0
    .rw[if_pos h0]at hy;rw[hy]
    .rw[We h0,We h0])
   refine Ay (A8 (Aa (Ck [([0,1,2,3,4,5,6,7,8,9,10,11,12,13],14),([15,16,17,18],19)] (fun z=>z.heap[b3]?=some (Bl 25 (BQ k))/\z.heap[bl]?=some (Bl 73 [ptr ba,ptr bd,ptr br,.int .i64 s.day])) [14,19] Br (⟨H.drew.get at0,H.drew.get at1⟩) ?_)));refine AD U U (BG U (Ba U (Ao Gk U (B0 HO U (fun _ hx=>(by rw[Aj hx.2];rfl)) ?_))));refine Ao EF U (B0 Cc U (fun _ hx=>(by rw[Aj hx.1];rfl)) ?_);refine Ao HZ U (B0 Cc U (fun _ hx=>(by rw[Aj hx.1];rfl)) ?_);refine Ao L6 U (B0 B4 U (fun _ hx=>(by rw[Aj hx.1];rfl)) ?_);refine Ao JQ U (B0 B4 U (fun _ hx=>(by rw[Aj hx.1];rfl)) ?_);refine Ao JR U (B0 B4 U (fun _ hx=>(by rw[Aj hx.1];rfl)) ?_);refine AU ?_;replace H:=H.drew;refine Al qB (Aho k.a k.b k.x k.w k.u _ (H.get at4) (H.get at5) I.M hbdb I.ok.du) U ?_;rintro v w ⟨rfl,o',hM',H7⟩;rw[hy]
   replace H:=Ctx.mid (B:=[_,_,_,_]) (L:=[_,_]) H H7;refine Ab (Bz U (AD U U ?_));refine DH U (Bs U U (Bs U U (Fs U (AU (Ad U (Ab (Bz U (BF (Ae (Af U ?_))))))))));refine Di U Dc LJ ?_;have H17:=Ctx.start w [];refine Cp [.int .i64 y] (.int .i64 y) Bf BD Fh U U U U H17 ?_;rintro b49 w2 - H17;refine Af U (Am U (Ad U (qA (A5 (Cf (v1:=(.slice _ _ _)) (v2:=(.int _ _)) U U U U ?_)))));subst hS0;exact Ek (P:=[_]) (m':=⟨bl,ba,bd,br,b,a,c,full,o',arch⟩) (s':={ s with ds:=NZ s.ds s.nx k.a k.b k.x k.w k.u,nx:=QS s.ds s.nx k.a k.b k.x k.w k.u }) (l:=[y]) I H (GZ (n:=1) (l:=[Eb y]) H17 U) hst I.O hM' hokS U U U U
theorem Ahy{m:Lm}{s:Ld}{T:Nat->Prop}{k:Ak}(hk:k.kd=9)(hin:AkIn k)(w:World)(I:LdIn w m s T)(H0:Ctx w (Dy m s) w (LL m s)) :
  Ret prog 37 #[ptr m.bl,.agg (BQ k).toArray] w (GI w m s T k):=by
 obtain⟨w0,rfl⟩:=qD w;obtain⟨bl,ba,bd,br,b,a,c,full,o,arch⟩:=m;obtain⟨S0,hS0⟩:=qD (Dy ⟨bl,ba,bd,br,b,a,c,full,o,arch⟩ s);have H:Ctx w0 S0 w0 ((bl,Bl 73 [ptr ba,ptr bd,ptr br,.int .i64 s.day])::(br,Bl 135 arch)::(ba,Bl 129 [.slice a s.acs.length c])::(bd,Bl 132 (DU b s.nx))::(b,o)::ent a 108 full):=by rw[hS0];exact H0
 have hn16:=(Cv.1 I.ok.ac).1;have hbdb:bd≠b:=H.ne (i:=3) (j:=4) rfl rfl (by decide);have hS:Fz s k=if s.day<=k.u then{ s with day:=k.u,ds:=Oa s.ds k.u }else s:=by unfold Fz;(iterate 8 rw[if_neg (by omega)]);rw[if_pos hk]
 have hR:FC s k=if k.u<s.day then⟨3,[]⟩else⟨0,[((s.ds.length - (Oa s.ds k.u).length:Nat):Int)]⟩:=by unfold FC;(iterate 8 rw[if_neg (by omega)]);rw[if_pos hk]
 have hstep:∀s' p,Fz s k=s'->FC s k=p->CN s k s' p:=fun s' p h1 h2=>by
  unfold CN;rw[if_neg (by omega)];exact⟨h1.symm,h2.symm⟩
 have hokS:=Ki I.ok k hin.u.2;refine Au (fn:=f37) func37 U [.pointer (some ⟨bl,0,none⟩),.agg (BQ k).toArray] U ?_;refine Ae (Bu (BQ k) (.agg _) U U H ?_);rintro b3 w - H;refine Am U (Ad U (qA (Ax (DT (fun x=>x=_) Br U ?_))));refine A6 JR U (Cj B4 U (by rintro _ rfl;exact H.drew) at0 U ?_);refine BE U (AZ U (A6 MT U (Cj B4 U (by rintro _ rfl;exact H.drew) at1 U ?_)));refine LO U U (BS ?_);rintro _ rfl;replace H:=H.drew;refine Aw _ U ?_ ?_
 .intro h1;replace h1:=AM h1;refine Ae (Am U (Ad U (qA (A5 (Av (Cf (v1:=(.slice _ _ _)) (v2:=(.int _ _)) U U U U ?_))))));subst hS0;exact Ek (P:=[_]) (m':=⟨bl,ba,bd,br,b,a,c,full,o,arch⟩) (s':=s) (l:=[]) (code:=3) I H (IH _) (hstep _ _ (by rw[hS,if_neg (by omega)]) (by rw[hR,if_pos h1];rfl)) I.O I.M I.ok U U U U
 .intro h1;replace h1:=AN h1;rw[hS,if_pos (by omega)]at hokS;refine Ay (Aa (Ae (A4 U (Ah JR U (AG B4 U H at0 U (A9 U (Ah MT U (Cb (.int _ _) BD U U U H at1 (by(simp;done)) ?_))))))));rintro w H;refine qA (Ej 6 Br U U ?_);refine BE U (AZ U (A6 Gk U (Cj HO U (by rintro _ rfl;exact H.drew) at1 U ?_)));refine A6 JR U (Cj B4 U (by rintro _ rfl;exact H.drew) at0 U ?_);refine BS ?_;replace H:=H.drew;refine Al qB (Aby (u:=k.u) _ (H.get at4) (H.get at5) I.M hbdb I.ok.du) U ?_;rintro v w ⟨o',hM',H7,a7,c7,rfl⟩;replace H:=Ctx.mid (B:=[_,_,_,_,_]) (L:=[_]) H H7;refine Be Bh U ?_;have H17:=Ctx.start w [];refine Cp [.int .i64 ((s.ds.length - (Oa s.ds k.u).length:Nat):Int)] (.int .i64 _) Bf BD Fh U U U U H17 ?_;rintro b26 w2 - H17;refine Am U (Ad U (qA (A5 (Cf (v1:=(.slice _ _ _)) (v2:=(.int _ _)) U U U U ?_))))
  subst hS0;exact Ek (P:=[_]) (m':=⟨bl,ba,bd,br,b,a,c,full,o',arch⟩) (s':={ s with day:=k.u,ds:=Oa s.ds k.u }) (l:=[((s.ds.length - (Oa s.ds k.u).length:Nat):Int)]) (code:=0) I H (GZ (n:=1) (l:=[Eb ((s.ds.length - (Oa s.ds k.u).length:Nat):Int)]) H17 U) (hstep _ _ (by rw[hS,if_pos (by omega)]) (by rw[hR,if_neg h1];rfl)) I.O hM' hokS U U U U
theorem Zy(b:Bool)(w:World):Ret prog 87 #[.bool b] w fun v w'=>v=.int .i64 (Pe b)/\w=w':=by
 obtain⟨w0,rfl⟩:=qD w;refine Au (fn:=f87) func87 U [.bool b] U (Ae (Ad U (qA (Ax (Ae (A2 U (qA (Aw _ U ?_ ?_))))))))
 .intro h1;refine Ae (Ad U (qA (A5 (Av (AB (v:=(.int _ _)) U U U ?_)))));exact⟨by rw[show b=true by simpa using h1];rfl,rfl⟩
 .intro h1;refine Ay (Aa (Ae (Ad U (qA (A5 (AB (v:=(.int _ _)) U U U ?_))))));exact⟨by rw[show b=false by simpa using h1];rfl,rfl⟩
theorem Ak0{m:Lm}{s:Ld}{T:Nat->Prop}{k:Ak}(hk:k.kd=14)(_:AkIn k)(w:World)(I:LdIn w m s T)(H0:Ctx w (Dy m s) w (LL m s)) :
  Ret prog 41 #[ptr m.bl,.agg (BQ k).toArray] w (GI w m s T k):=by
 obtain⟨w0,rfl⟩:=qD w;obtain⟨bl,ba,bd,br,b,a,c,full,o,arch⟩:=m;obtain⟨S0,hS0⟩:=qD (Dy ⟨bl,ba,bd,br,b,a,c,full,o,arch⟩ s);have H:Ctx w0 S0 w0 ((bl,Bl 73 [ptr ba,ptr bd,ptr br,.int .i64 s.day])::(br,Bl 135 arch)::(ba,Bl 129 [.slice a s.acs.length c])::(bd,Bl 132 (DU b s.nx))::(b,o)::ent a 108 full):=by rw[hS0];exact H0
 have hn16:=(Cv.1 I.ok.ac).1;have hbdb:bd≠b:=H.ne (i:=3) (j:=4) rfl rfl (by decide);have hR0:CQ s.ds k.id=none->FC s k=⟨11,[]⟩:=fun h=>by unfold FC;(iterate 11 rw[if_neg (by omega)]);rw[if_pos hk,h]
 have hR1:∀d,CQ s.ds k.id=some d->FC s k=⟨0,[d.fr,d.to,d.am,d.we,d.un,Pe d.held]⟩:=fun d h=>by unfold FC;(iterate 11 rw[if_neg (by omega)]);rw[if_pos hk,h]
 have hS:Fz s k=s:=by unfold Fz;iterate 9 rw[if_neg (by omega)]
 have hstep:∀p,FC s k=p->CN s k s p:=fun p h2=>by
  unfold CN;rw[if_neg (by omega)];exact⟨hS.symm,h2.symm⟩
 have hD:Nm s.ds k.id=(CQ s.ds k.id).getD d00:=rfl;refine Au (fn:=f41) func41 U [.pointer (some ⟨bl,0,none⟩),.agg (BQ k).toArray] U ?_;refine Ae (Bu (BQ k) (.agg _) U U H ?_);rintro b3 w - H;refine Am U (Ad U (qA (DV 262080 (α:=Nat) (fun z=>[(6,ptr z),(7,.bool (CQ s.ds k.id).isSome)]) (fun z w'=>Ctx w0 S0 w' ((z,Bl 118 (Dn (Nm s.ds k.id)))::(b3,Bl 25 (BQ k))::(bl,Bl 73 [ptr ba,ptr bd,ptr br,.int .i64 s.day])::(br,Bl 135 arch)::(ba,Bl 129 [.slice a s.acs.length c])::(bd,Bl 132 (DU b s.nx))::(b,o)::ent a 108 full)) U ?_ ?_)))
 .skip
  refine PM (.two [0,1,2,3,4,5] 6 (.one [7,8,9] 10 (.one [] 11 (.one [] 12 .stop))) 10 (.one [] 6 (.one [7,8,9] 11 (.one [] 12 .stop)))) (fun z=>z.heap[b3]?=some (Bl 25 (BQ k))/\z.heap[bl]?=some (Bl 73 [ptr ba,ptr bd,ptr br,.int .i64 s.day])) Br (⟨H.drew.get at0,H.drew.get at1⟩) ?_;refine Jf U U U (BG U (Ba U (Ao Gk U (B0 HO U (fun _ hx=>(by rw[Aj hx.2];rfl)) ?_))));refine Ao IY U (B0 B6 U (fun _ hx=>(by rw[Aj hx.1];rfl)) ?_);refine AU ?_;replace H:=H.drew;refine⟨?_,?_⟩
  .skip
   refine Al qB (Up _ (H.get at4) (H.get at5) I.M) U ?_;rintro v w ⟨rfl,hx15⟩;replace H:=H.call hx15;refine Ab (BT (by exact⟨H.get at0,H.get at1⟩) ?_);refine BR U U (DH U (Bs U U (Bs U U (AU (Bc DX H ?_)))));rintro b6 w - H;refine Ab (BT (by exact⟨H.get at1,H.get at2⟩) ?_);refine BR U U (AU (Bn BV U U U (by exact Dx _) H at0 U ?_));rintro w H;refine Ab (BT (by exact⟨H.get at1,H.get at2⟩) ?_);refine BR U U (AU (Ai U (Ab (BT (by exact⟨H.get at1,H.get at2⟩) ?_))));refine Ey (Aa ?_);exact⟨b6,rfl,⟨rfl,rfl,trivial⟩,H⟩
  .skip
   refine Bc DX H ?_;rintro b6 w - H;refine Ab (BT (by exact⟨H.get at1,H.get at2⟩) ?_);refine BR U U (AU (Al qB (Up _ (H.get at5) (H.get at6) I.M) U ?_));rintro v w ⟨rfl,hx15⟩;replace H:=H.call hx15;refine Ab (BT (by exact⟨H.get at1,H.get at2⟩) ?_);refine BR U U (DH U (Bs U U (Bs U U (AU (Bn BV U U U (by exact Dx _) H at0 U ?_)))));rintro w H;refine Ab (BT (by exact⟨H.get at1,H.get at2⟩) ?_);refine BR U U (AU (Ai U (Ab (BT (by exact⟨H.get at1,H.get at2⟩) ?_))));refine Ey (Aa ?_);exact⟨b6,rfl,⟨rfl,rfl,trivial⟩,H⟩
 .rintro b6 j7 w H;refine Ax (Ae (A2 U (BP U (qA (Aw _ U ?_ ?_)))))
  .intro h1;replace h1:=BM h1
   have hf:CQ s.ds k.id=none:=by cases hh:CQ s.ds k.id with|none=>rfl|some d=>rw[hh]at h1;cases h1
   refine Ae (Am U (Ad U (qA (A5 (Av (Cf (v1:=(.slice _ _ _)) (v2:=(.int _ _)) U U U U ?_))))));subst hS0;exact Ek (P:=[_,_]) (m':=⟨bl,ba,bd,br,b,a,c,full,o,arch⟩) (s':=s) (l:=[]) (code:=11) I H (IH _) (hstep _ (by rw[hR0 hf];rfl)) I.O I.M I.ok U U U U
  .intro h1;replace h1:=BN h1
   obtain⟨d,hf⟩:∃d,CQ s.ds k.id=some d:=by cases hh:CQ s.ds k.id with|some d=>exact⟨d,rfl⟩|none=>rw[hh]at h1;cases h1
   rw[hD,hf]at H
   change Ctx w0 S0 w ((b6,Bl 118 (Dn d))::(b3,Bl 25 (BQ k))::(bl,Bl 73 [ptr ba,ptr bd,ptr br,.int .i64 s.day])::(br,Bl 135 arch)::(ba,Bl 129 [.slice a s.acs.length c])::(bd,Bl 132 (DU b s.nx))::(b,o)::ent a 108 full)at H
   refine Ay (Aa (Ck [([0,1,2,3,4,5,6,7,8,9,10,11],12),([],13),([14],15)] (fun z=>z.heap[b6]?=some (Bl 118 (Dn d))) [] Br (H.drew.get at0) ?_));refine AD U U (Ao It U (B0 Cc U (fun _ hx=>(by rw[Aj hx];rfl)) ?_));refine Ao Iu U (B0 Cc U (fun _ hx=>(by rw[Aj hx];rfl)) ?_);refine Ao ER U (B0 B4 U (fun _ hx=>(by rw[Aj hx];rfl)) ?_);refine Ao KN U (B0 B4 U (fun _ hx=>(by rw[Aj hx];rfl)) ?_);refine Ao Qt U (B0 B4 U (fun _ hx=>(by rw[Aj hx];rfl)) ?_);refine Ao KO U (B0 LI U (fun _ hx=>(by rw[Aj hx];rfl)) ?_);refine AU ?_;replace H:=H.drew;refine Al qB (Zy d.held _) U ?_;rintro v w ⟨rfl,rfl⟩;refine Ab (BH (H.get at0) (AD U U ?_));refine AU (Ef ([d.fr,d.to,d.am,d.we,d.un,Pe d.held].map Eb) Bf BD Fh (Ctx.start _ []) ?_);rintro b33 w2 - H17;refine Ab (BH (H17.ext.to (H.get at0) (by simp)) ?_)
   refine AD U U (EC U (AU (Ad U (Ab (BH (H17.ext.to (H.get at0) (by simp)) ?_)))));refine BF (A5 (Cf (v1:=(.slice _ _ _)) (v2:=(.int _ _)) U U U U ?_));subst hS0;exact Ek (P:=[_,_]) (m':=⟨bl,ba,bd,br,b,a,c,full,o,arch⟩) (s':=s) (l:=[d.fr,d.to,d.am,d.we,d.un,Pe d.held]) (code:=0) I H (GZ (n:=6) H17 U) (hstep _ (by rw[hR1 d hf];rfl)) I.O I.M I.ok U U U U
end Go.Proofs.YtffclglpjlcojaaGreat
