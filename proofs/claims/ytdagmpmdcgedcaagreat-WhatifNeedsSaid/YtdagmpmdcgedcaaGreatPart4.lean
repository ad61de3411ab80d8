/- Part 4 of the proof. -/
import Derived.ProofKit
import Derived.Deep.Slices
import Derived.OpenShut
import Derived.Test.YtdagmpmdcgedcaaGreatProg
import Derived.KernelRfl
import Derived.Test.YtdagmpmdcgedcaaGreatPart3
set_option maxRecDepth 20000
set_option maxHeartbeats 2000000
namespace Go.GV
open Go Go.ChangeShapes Go.WideShapes Go.RowKit
theorem Ext.below{w w':World}(h:Ext [] w w'):Below w.heap.size w w':=⟨h.os,h.tape,h.output,h.size,fun k hk=>h.block k hk (by simp)⟩
section
variable {H:Type}{enc:TypeId × Value->H}{P:Program}{w:World}{base:Nat}{spare:Nat->Bool}{held:Bool}
theorem KW:∀{ts:List TypeId} {vs:List Value} {ds:List (DataW H)} {ps:List MemPlace},DataW.TrodAll enc P w base spare held ts vs ds ps->ds.length=ts.length
 | [],vs,ds,ps,h=>by obtain⟨_,rfl,_⟩:=trodAll_nil h;rfl
 |t::ts,vs,ds,ps,h=>by
  obtain⟨v,vs',d,ds',p,q,rfl,rfl,rfl,_,hr⟩:=trodAll_cons h;simp[KW hr]
theorem Mi{W W':World}{sp':Nat->Bool}(hl:laidOutB P=true)(hsp:∀b,b<W.heap.size->sp' b=true)(hb:Below W.heap.size W W') :
  ∀{ts:List TypeId} {vs:List Value} {ds:List (DataW H)} {ps:List MemPlace},(∀t∈ts,P.readableRec t=true/\t<P.types.size)->(∀x∈ps,x.block<W.heap.size) ->
   DataW.TrodAll enc P W 0 (fun _=>true) true ts vs ds ps->DataW.TrodAll enc P W' 0 sp' true ts vs ds ps
 | [],vs,ds,ps,_,_,h=>by obtain⟨rfl,rfl,rfl⟩:=trodAll_nil h;rfl
 |t::ts,vs,ds,ps,hr,hp,h=>by
  obtain⟨v,vs',d,ds',p,q,rfl,rfl,rfl,h0,h1⟩:=trodAll_cons h;refine⟨p,q,WideElems.Trod_stays hl (hr t (by simp)).1 (hr t (by simp)).2 h0 (fun x hx=>hb.same (hp x (by simp[hx]))) (fun x hx=>hsp _ (hp x (by simp[hx]))),?_,rfl⟩;exact Mi hl hsp hb (fun t ht=>hr t (by simp[ht])) (fun x hx=>hp x (by simp[hx])) h1
theorem MW{f:Func}{s:ChangeSpec}{W W':World}{args:Array Value}{ds gs:List (DataW H)}{before:List MemPlace}{tb:TypeId}(hl:laidOutB P=true)(hv:s.vars=[])(hres:f.resultTypes=#[tb])(htb:P.underlying tb=some .bool)(hs:∀ds:List (DataW H),ds.length=f.params.size->s.fn H ds={ results:=[.lit (.bool true)],args:=ds })(hW:DataW.Whole enc P f.params.toList s.vars false W args.toList ds gs before)(hx:Ext [] W W')(hr:(f.params.toList.all fun t=>P.readableRec t && decide (t<P.types.size))=true:=by kernel_rfl):s.post enc P f false true false false W args (.bool true) W':=by
 have hW':=hW;obtain⟨p,q,hA,hV,rfl,_,_⟩:=hW;rw[hv]at hV;obtain⟨rfl,rfl⟩:=trodVars_none hV;have hlen:ds.length=f.params.size:=by rw[KW hA];simp
 refine⟨ds,[],p++[],[],p,[],hW',?_,?_,?_,hx.below.frame _,fun h=>by cases h⟩
 .rw[qa4,hs ds hlen,hres];exact trodAll_mk1 ⟨1,by simp[DataW.trod,Value.cells,htb]⟩
 .rw[qa4,hs ds hlen];refine Mi hl (fun b hb=>by simpa using hb) hx.below (fun t ht=>?_) (fun x hxp=>?_) hA
  .have:=qas.1 hr t ht
   simpa using this
  .exact hW'.lt x (by simp[hxp])
 .rw[hv,qa4,hs ds hlen];rfl
theorem NO{k:IntKind}{n:Int}(h:(Lit.int k n).wf=true):k.min<=n/\n<=k.max:=by
 simpa[Lit.wf]using h
theorem Qo{fuel:Nat}{t:TypeId}{cs:List Value}{x:DataW H × List MemPlace}{fs:Array Field}(ht:P.underlying t=some (.struct fs))(h:DataW.trod enc P w base spare held fuel t cs=some x)(i:Nat)(f:Field)(hf:fs[i]?=some f) :
  ∃n y,DataW.trod enc P w base spare held n f.type ((cs.drop f.offset).take (P.cellsOf f.type))=some y:=by
 obtain⟨xs,n,_,_,_,hl,hx⟩:=DataW.trod_struct ht h;have h1:=hx i f hf;have hi:i<xs.length:=by rw[hl];exact(qdv.1 hf).1
 rw[qbq hi]at h1;exact⟨n,_,h1⟩
theorem LG{fuel:Nat}{t:TypeId}{cs:List Value}{x:DataW H × List MemPlace}{fs:Array Field}(ht:P.underlying t=some (.struct fs))(h:DataW.trod enc P w base spare held fuel t cs=some x):cs.length=P.cellsOf t:=by
 obtain⟨xs,n,_,_,hl,_,_⟩:=DataW.trod_struct ht h;exact hl
theorem Qp{l:List Value}{o m:Nat}{v:Value}(h:(l.drop o).take m=[v]):l[o]?=some v:=by
 have h1:((l.drop o).take m)[0]?=some v:=by rw[h];rfl
 rw[qb0]at h1
 split at h1
 .rw[qcb]at h1;simpa using h1
 .cases h1
theorem EH{fuel:Nat}{t u:TypeId}{cs:List Value}{x:DataW H × List MemPlace}{fs:Array Field}{k:IntKind}(ht:P.underlying t=some (.struct fs))(h:DataW.trod enc P w base spare held fuel t cs=some x)(i o:Nat)(hf:(fs[i]?.map fun f=>(f.type,f.offset))=some (u,o))(hu:P.underlying u=some (.int k)):∃n,cs[o]?=some (.int k n)/\k.min<=n/\n<=k.max:=by
 cases he:fs[i]? with
 |none=>rw[he]at hf;cases hf
 |some f =>
  rw[he]at hf;simp only[qcz,qbs,Prod.mk.injEq]at hf;obtain⟨rfl,rfl⟩:=hf;obtain⟨n,y,hy⟩:=Qo ht h i f he;obtain⟨m,h1,_,h2⟩:=DataW.trod_int hu hy;exact⟨m,Qp h1,NO h2⟩
theorem Ac0{fuel:Nat}{t u:TypeId}{cs:List Value}{x:DataW H × List MemPlace}{fs:Array Field}(ht:P.underlying t=some (.struct fs))(h:DataW.trod enc P w base spare held fuel t cs=some x)(i o:Nat)(hf:(fs[i]?.map fun f=>(f.type,f.offset))=some (u,o))(hu:P.underlying u=some .bool):∃b,cs[o]?=some (.bool b):=by
 cases he:fs[i]? with
 |none=>rw[he]at hf;cases hf
 |some f =>
  rw[he]at hf;simp only[qcz,qbs,Prod.mk.injEq]at hf;obtain⟨rfl,rfl⟩:=hf;obtain⟨n,y,hy⟩:=Qo ht h i f he;obtain⟨b,h1,_⟩:=DataW.trod_bool hu hy;exact⟨b,Qp h1⟩
theorem Aiy{fuel:Nat}{t u:TypeId}{cs:List Value}{x:DataW H × List MemPlace}{fs:Array Field}(ht:P.underlying t=some (.struct fs))(h:DataW.trod enc P w base spare held fuel t cs=some x)(i o:Nat)(hf:(fs[i]?.map fun f=>(f.type,f.offset))=some (u,o)):∃n y,DataW.trod enc P w base spare held n u ((cs.drop o).take (P.cellsOf u))=some y:=by
 cases he:fs[i]? with
 |none=>rw[he]at hf;cases hf
 |some f =>
  rw[he]at hf;simp only[qcz,qbs,Prod.mk.injEq]at hf;obtain⟨rfl,rfl⟩:=hf;exact Qo ht h i f he
theorem Vn{a:Addr}{n:Nat}{cs:List Value}(h:w.cells? base a n=some cs):cs.length=n/\∀j v,cs[j]?=some v->w.cell? (a.add j)=some v:=by
 unfold World.cells? at h
 split at h
 .have h1:∀(l:List Nat) (cs:List Value),l.mapM (fun i=>w.cell? (a.add i))=some cs->cs.length=l.length/\∀(j i:Nat) (v:Value),l[j]?=some i->cs[j]?=some v->w.cell? (a.add i)=some v:=by
   intro l
   induction l with
   |nil=>intro cs h;simp at h;subst h;exact⟨rfl,fun j i v h=>by simp at h⟩
   |cons k l ih =>
    intro cs h;rw[List.mapM_cons]at h;obtain⟨v,hv,h⟩:=Option.bind_eq_some_iff.1 h;obtain⟨cs',hcs,h⟩:=Option.bind_eq_some_iff.1 h;simp only[Option.pure_def,qbs]at h;subst h;obtain⟨h1,h2⟩:=ih cs' hcs;refine⟨by simp[h1],fun j i u hi hu=>?_⟩
    cases j with
    |zero=>simp at hi hu;subst hi hu;exact hv
    |succ j=>exact h2 j i u (by simpa using hi) (by simpa using hu)
  obtain⟨h2,h3⟩:=h1 _ _ h;refine⟨by simpa using h2,fun j v hv=>h3 j j v ?_ hv⟩;have:j<cs.length:=(qbh.1 hv).1;rw[qet (by rw[h2]at this;simpa using this)]
 .cases h
theorem SR{a:Addr}{v:Value}(h:w.cell? a=some v):a=⟨a.block,a.off,none⟩:=by
 unfold World.cell? at h
 split at h
 .split at h
  .cases h
  .rename_i hs
   obtain⟨b,o,s⟩:=a
   cases s with
   |none=>rfl
   |some x=>simp at hs
 .cases h
theorem Alm{α:Type}{t e:TypeId}{s fuel:Nat}{v:Value}{x:DataW H × List MemPlace}{encd:α->List Value}{Good:α->Prop}(ht:P.underlying t=some (.slice e))(hs:P.cellsOf e=s)(h0:0<s)(dec:∀n cs y,DataW.trod enc P w base spare held n e cs=some y->∃d,cs=encd d/\Good d)(h:DataW.trod enc P w base spare held fuel t [v]=some x) :
  ∃(a:Option Addr) (c:Nat) (l:List α),v=.slice a l.length c/\Rd w a s encd l/\l.length<=c/\c<=maxLen/\(∀d∈l,Good d):=by
 rcases Go.Deep.open_slice ht h with⟨hc,_⟩|⟨a,len,cap,m,n,D,Pl,hc,_,hl,hm,hmm,_,hx⟩
 .simp only[qcu,and_true]at hc;exact⟨none,0,[],hc,Rd.nil,qan _,qaf _,by simp⟩
 .simp only[qcu,and_true]at hc;have hle:len<=m:=by rw[hmm];split <;> omega
  have hd:∀i,i<len->∃d:α,(w.cells? base (a.add (i*s)) s=some (encd d))/\Good d:=fun i hi=>by
   obtain⟨cs',h1,h2⟩:=hx i (by omega);obtain⟨d,rfl,hg⟩:=dec _ _ _ h2;exact⟨d,by rw[<-hs];exact h1,hg⟩
  have hlist:∀k,k<=len->∃l:List α,l.length=k/\∀i d,l[i]?=some d->w.cells? base (a.add (i*s)) s=some (encd d)/\Good d:=by
   intro k
   induction k with
   |zero=>intro _;exact⟨[],rfl,fun i d h=>by simp at h⟩
   |succ k ih =>
    intro hk;obtain⟨l,h1,h2⟩:=ih (by omega);obtain⟨d,hd1,hd2⟩:=hd k (by omega);refine⟨l++[d],by simp[h1],fun i d' hi=>?_⟩;rw[qev]at hi
    split at hi
    .exact h2 i d' hi
    .rename_i hlt
     have:i=k:=by
      have:=(qbh.1 hi).1;simp at this;omega
     subst this;rw[h1,qd2]at hi;simp at hi;subst hi;exact⟨hd1,hd2⟩
  obtain⟨l,h1,h2⟩:=hlist len (qan _);subst h1;refine⟨some a,cap,l,hc,⟨fun hne=>?_,fun i d hi j u hu hj=>?_⟩,hl,hm,fun d hd=>?_⟩
  .cases l with
   |nil=>exact absurd rfl hne
   |cons d l =>
    obtain⟨h3,_⟩:=h2 0 d rfl;obtain⟨h4,h5⟩:=Vn h3;obtain⟨u,hu⟩:=AB (l:=encd d) (i:=0);have h6:=h5 0 u hu;rw[qef]at h6;have h7:(a.add 0).add 0=a:=by simp[Addr.add]
    rw[h7]at h6;exact⟨a.block,a.off,by rw[<-SR h6]⟩
  .obtain⟨h3,_⟩:=h2 i d hi;have h5:=(Vn h3).2 j u hu;rw[Go.Deep.add_add]at h5;have h6:=SR h5;rw[h6]at h5
   have hblk:∀q,(a.add q).block=a.block/\(a.add q).off=a.off+q:=by
    intro q;unfold Addr.add
    by_cases hq:q=0 <;> simp[hq]
   rw[(hblk _).1,(hblk _).2,<-qc2]at h5;obtain⟨b,o,sp⟩:=a;exact h5
  .obtain⟨i,hi⟩:=qdj hd;exact(h2 i d hi).2
theorem Yy{α:Type}{t e:TypeId}{s:Nat}{v:Value}{d:DataW H}{ps:List MemPlace}{encd:α->List Value}{Good:α->Prop}(ht:P.underlying t=some (.slice e))(hs:P.cellsOf e=s)(dec:∀n cs y,DataW.trod enc P w base spare held n e cs=some y->∃d,cs=encd d/\Good d)(hv:∃a n c,v=.slice a n c)(h:DataW.Trod enc P w base spare held t v d ps)(h0:0<s:=by decide):
  ∃(a:Option Addr) (c:Nat) (l:List α),v=.slice a l.length c/\Rd w a s encd l/\l.length<=c/\c<=maxLen/\(∀d∈l,Good d):=by
 obtain⟨fuel,hf⟩:=h;obtain⟨a,n,c,rfl⟩:=hv;exact Alm ht hs h0 dec (by simpa[Value.cells]using hf)
theorem Aiz{e:TypeId}{k:IntKind}(he:P.underlying e=some (.int k)):∀n cs y,DataW.trod enc P w base spare held n e cs=some y->∃d:Int,cs=[Value.int k d]/\(k.min<=d/\d<=k.max):=by
 intro n cs y h;obtain⟨m,h1,_,h2⟩:=DataW.trod_int he h;exact⟨m,h1,NO h2⟩
end
end Go.GV
namespace Go.Proofs.YtdagmpmdcgedcaaGreat
open Go.GV Tryz
theorem Gk:DC prog 101=some false:=by kernel_rfl
theorem NP:DC prog 103=some false:=by kernel_rfl
theorem Amu:DC prog 111=some false:=by kernel_rfl
theorem Ac1:DC prog 159=some false:=by kernel_rfl
theorem FU:DC prog 163=some false:=by kernel_rfl
theorem Bm:DC prog 2=some false:=by kernel_rfl
theorem Aln:DC prog 22=some false:=by kernel_rfl
theorem Amv:DC prog 223=some true:=by kernel_rfl
theorem Alo:DC prog 23=some false:=by kernel_rfl
theorem F5:DC prog 252=some false:=by kernel_rfl
theorem E3:DC prog 26=some false:=by kernel_rfl
theorem Gj:DC prog 27=some false:=by kernel_rfl
theorem BL:DC prog 28=some false:=by kernel_rfl
theorem Mz:DC prog 286=some false:=by kernel_rfl
theorem Vo:DC prog 29=some false:=by kernel_rfl
theorem Jt:DC prog 291=some false:=by kernel_rfl
theorem Ub:DC prog 292=some false:=by kernel_rfl
theorem Xa:DC prog 299=some true:=by kernel_rfl
theorem B6:DC prog 3=some false:=by kernel_rfl
theorem Xb:DC prog 300=some false:=by kernel_rfl
theorem DZ:DC prog 316=some false:=by kernel_rfl
theorem MX:DC prog 32=some true:=by kernel_rfl
theorem I9:DC prog 321=some true:=by kernel_rfl
theorem KX:DC prog 34=some false:=by kernel_rfl
theorem Cc:DC prog 35=some false:=by kernel_rfl
theorem Mj:DC prog 37=some true:=by kernel_rfl
theorem HI:DC prog 4=some false:=by kernel_rfl
theorem OH:DC prog 40=some true:=by kernel_rfl
theorem SU:DC prog 43=some true:=by kernel_rfl
theorem KA:DC prog 48=some false:=by kernel_rfl
theorem DO:DC prog 49=some false:=by kernel_rfl
theorem ag_5:DC prog 5=some false:=by kernel_rfl
theorem CG:DC prog 51=some true:=by kernel_rfl
theorem SV:DC prog 53=some true:=by kernel_rfl
theorem Gm:DC prog 55=some true:=by kernel_rfl
theorem Je:DC prog 59=some true:=by kernel_rfl
theorem EF:DC prog 67=some true:=by kernel_rfl
theorem Alp:DC prog 80=some false:=by kernel_rfl
theorem GK:DC prog 94=some false:=by kernel_rfl
theorem Jf:DC prog 99=some false:=by kernel_rfl
theorem Ac2:TW prog 113=some (16,111):=by kernel_rfl
theorem Ac3:TW prog 158=some (16,4):=by kernel_rfl
theorem Xc:TW prog 166=some (4,55):=by kernel_rfl
theorem J9:Ew prog 2=some 8:=by kernel_rfl
theorem Yz:Ew prog 28=some 8:=by kernel_rfl
theorem Amw:Ew prog 299=some 32:=by kernel_rfl
theorem Vp:Ew prog 3=some 8:=by kernel_rfl
theorem Amx:Ew prog 300=some 24:=by kernel_rfl
theorem Amy:Ew prog 321=some 16:=by kernel_rfl
theorem by_37:Ew prog 37=some 32:=by kernel_rfl
theorem by_4:Ew prog 4=some 1:=by kernel_rfl
theorem Alq:Ew prog 43=some 16:=by kernel_rfl
theorem by_55:Ew prog 55=some 128:=by kernel_rfl
theorem Ac4:Ew prog 59=some 32:=by kernel_rfl
theorem Y0:Ew prog 67=some 56:=by kernel_rfl
abbrev qC:List Nat:=[15,16,17,18,21,22,23,24,27,30,34,35,36,37,38,39,40,41,42,44,45,46,47,48,49,50,51,52,53,54,55,56,57,58,59,60,61,62,63,64,65,66,67,71,72,73,74,75,78,79,80,81,87,88,89,90,91,92,93,94,95,96,97,98,99,100,101,102,103,104,105,106,107,108,109,110,111,112,113,114,115,116,117,118,119,120,122,123,124,125,126,127,128,129,130,131,132,133,134,135,136,156,157,158,159,160,161,162,163,164,165,166,167,168,169,170,171,172,173,174,175,176,177,178,179,180,181,182,183,184,185,186,187,189,190,191,192,201,202,203,204,205,206,207,208,209,210,211,212,213,214,215,216,217,218,219,220,221,222,223,224,225,226,230,231,232,233,234,235,236,237,238,240,241,242,243,244,245,246,247,248,249,250,251,252,253,254,256,257,258,259,260,261,262,263,264,265,266,267,268,269,270,271,272,273,274,275,276,277,278,279,280,281,282,283,284,285,286]
theorem qB{f:Nat}(h:qC.any (Nat.beq f)=true:=by exact U):A0 prog f=true:=by obtain⟨g,h,e⟩:=List.any_eq_true.1 h;rw[Nat.eq_of_beq_eq_true e];exact List.all_eq_true.1 (show qC.all (A0 prog)=true by kernel_rfl) g h
theorem Xq:CO prog 212=some 4:=by kernel_rfl
theorem HK:CO prog 22=some 40:=by kernel_rfl
theorem Qr:CO prog 248=some 223:=by kernel_rfl
theorem Xr:CO prog 256=some 23:=by kernel_rfl
theorem Dz:CO prog 26=some 43:=by kernel_rfl
theorem BT:CO prog 27=some 67:=by kernel_rfl
theorem KZ:CO prog 29=some 55:=by kernel_rfl
theorem NS:CO prog 292=some 300:=by kernel_rfl
theorem M1:CO prog 300=some 299:=by kernel_rfl
theorem DQ:CO prog 316=some 321:=by kernel_rfl
theorem AR:CO prog 35=some 2:=by kernel_rfl
theorem BA:CO prog 48=some 28:=by kernel_rfl
theorem CU:CO prog 49=some 59:=by kernel_rfl
theorem OI:CO prog 80=some 37:=by kernel_rfl
theorem SY:CO prog 87=some 32:=by kernel_rfl
theorem Ct:CO prog 94=some 3:=by kernel_rfl
theorem Gn:BW prog 106 0=some 0:=by kernel_rfl
theorem F7:BW prog 106 1=some 1:=by kernel_rfl
theorem JA:BW prog 106 2=some 2:=by kernel_rfl
theorem Lc:BW prog 106 3=some 3:=by kernel_rfl
theorem Fg:BW prog 162 0=some 0:=by kernel_rfl
theorem Et:BW prog 165 0=some 0:=by kernel_rfl
theorem Le:BW prog 165 1=some 1:=by kernel_rfl
theorem Qs:BW prog 168 0=some 0:=by kernel_rfl
theorem JB:BW prog 168 1=some 32:=by kernel_rfl
theorem FV:BW prog 168 2=some 33:=by kernel_rfl
theorem Ad4:BW prog 223 0=some 0:=by kernel_rfl
theorem Ad5:BW prog 223 1=some 1:=by kernel_rfl
theorem HM:BW prog 254 0=some 0:=by kernel_rfl
theorem F8:BW prog 254 1=some 2:=by kernel_rfl
theorem F9:BW prog 254 2=some 3:=by kernel_rfl
theorem HO:BW prog 254 3=some 4:=by kernel_rfl
theorem Qt:BW prog 254 4=some 5:=by kernel_rfl
theorem MZ:BW prog 294 0=some 0:=by kernel_rfl
theorem EP:BW prog 294 1=some 1:=by kernel_rfl
theorem IA:BW prog 294 2=some 2:=by kernel_rfl
theorem Lf:BW prog 294 3=some 3:=by kernel_rfl
theorem Qu:BW prog 299 0=some 0:=by kernel_rfl
theorem Vq:BW prog 299 1=some 1:=by kernel_rfl
theorem Gp:BW prog 299 2=some 2:=by kernel_rfl
theorem Qv:BW prog 299 3=some 3:=by kernel_rfl
theorem CK:BW prog 318 0=some 0:=by kernel_rfl
theorem Lg:BW prog 321 0=some 0:=by kernel_rfl
theorem Qw:BW prog 321 1=some 1:=by kernel_rfl
theorem Uk:BW prog 32 0=some 0:=by kernel_rfl
theorem El:BW prog 32 1=some 1:=by kernel_rfl
theorem EI:BW prog 32 2=some 2:=by kernel_rfl
theorem Ai0:BW prog 32 3=some 3:=by kernel_rfl
theorem Na:BW prog 32 4=some 4:=by kernel_rfl
theorem Ai1:BW prog 32 5=some 5:=by kernel_rfl
theorem Hm:BW prog 37 0=some 0:=by kernel_rfl
theorem EQ:BW prog 37 1=some 1:=by kernel_rfl
theorem Ul:BW prog 40 0=some 0:=by kernel_rfl
theorem GM:BW prog 40 1=some 1:=by kernel_rfl
theorem Um:BW prog 40 2=some 2:=by kernel_rfl
theorem Py:BW prog 40 3=some 3:=by kernel_rfl
theorem Ai2:BW prog 40 4=some 4:=by kernel_rfl
theorem Nb:BW prog 40 5=some 5:=by kernel_rfl
theorem LH:BW prog 40 6=some 6:=by kernel_rfl
theorem Ex:BW prog 43 0=some 0:=by kernel_rfl
theorem Hn:BW prog 43 1=some 1:=by kernel_rfl
theorem DW:BW prog 51 0=some 0:=by kernel_rfl
theorem C8:BW prog 51 1=some 1:=by kernel_rfl
theorem Ho:BW prog 53 0=some 0:=by kernel_rfl
theorem Kh:BW prog 53 1=some 1:=by kernel_rfl
theorem Io:BW prog 55 0=some 0:=by kernel_rfl
theorem Pz:BW prog 55 1=some 1:=by kernel_rfl
theorem Y4:BW prog 55 2=some 2:=by kernel_rfl
theorem GN:BW prog 55 3=some 3:=by kernel_rfl
theorem Ey:BW prog 55 4=some 4:=by kernel_rfl
theorem Gc:BW prog 55 5=some 6:=by kernel_rfl
theorem EX:BW prog 59 0=some 0:=by kernel_rfl
theorem EY:BW prog 59 1=some 1:=by kernel_rfl
theorem DX:BW prog 59 2=some 2:=by kernel_rfl
theorem EZ:BW prog 59 3=some 3:=by kernel_rfl
theorem Hr:BW prog 67 0=some 0:=by kernel_rfl
theorem Dk:BW prog 67 1=some 1:=by kernel_rfl
theorem D7:BW prog 67 2=some 2:=by kernel_rfl
theorem Dl:BW prog 67 3=some 3:=by kernel_rfl
theorem Hs:BW prog 67 4=some 4:=by kernel_rfl
theorem Nc:BW prog 67 5=some 5:=by kernel_rfl
theorem F6:BW prog 67 6=some 6:=by kernel_rfl
theorem Bs:Tryz.prog.follows .mixedOrders=true:=by kernel_rfl
theorem Gl:LY prog 163=some (28,67):=by kernel_rfl
theorem Ad6:LY prog 242=some (3,3):=by kernel_rfl
theorem Ad7:DG prog 106=some [(0,1),(1,1),(2,1),(3,1)]:=by kernel_rfl
theorem Ad8:DG prog 162=some [(0,1)]:=by kernel_rfl
theorem Ad9:DG prog 165=some [(0,1),(1,1)]:=by kernel_rfl
theorem Aea:DG prog 168=some [(0,32),(32,1),(33,1)]:=by kernel_rfl
theorem Qx:DG prog 223=some [(0,1),(1,1)]:=by kernel_rfl
theorem App:DG prog 254=some [(0,2),(2,1),(3,1),(4,1),(5,1)]:=by kernel_rfl
theorem Apq:DG prog 294=some [(0,1),(1,1),(2,1),(3,1)]:=by kernel_rfl
theorem Aeb:DG prog 299=some [(0,1),(1,1),(2,1),(3,1)]:=by kernel_rfl
theorem Apr:DG prog 318=some [(0,1)]:=by kernel_rfl
theorem pl_32:DG prog 32=some [(0,1),(1,1),(2,1),(3,1),(4,1),(5,1),(6,1)]:=by kernel_rfl
theorem Aps:DG prog 321=some [(0,1),(1,1)]:=by kernel_rfl
theorem Aec:DG prog 37=some [(0,1),(1,1)]:=by kernel_rfl
theorem FA:DG prog 40=some [(0,1),(1,1),(2,1),(3,1),(4,1),(5,1),(6,1)]:=by kernel_rfl
theorem Al6:DG prog 43=some [(0,1),(1,1)]:=by kernel_rfl
theorem pl_51:DG prog 51=some [(0,1),(1,1)]:=by kernel_rfl
theorem Al7:DG prog 53=some [(0,1),(1,1)]:=by kernel_rfl
theorem Y5:DG prog 55=some [(0,1),(1,1),(2,1),(3,1),(4,2),(6,2)]:=by kernel_rfl
theorem Aed:DG prog 59=some [(0,1),(1,1),(2,1),(3,1)]:=by kernel_rfl
theorem Al8:DG prog 67=some [(0,1),(1,1),(2,1),(3,1),(4,1),(5,1),(6,1)]:=by kernel_rfl
theorem Aee:Cx prog 111=some 1:=by kernel_rfl
theorem Apt:Cx prog 113=some 16:=by kernel_rfl
theorem Apu:Cx prog 159=some 1:=by kernel_rfl
theorem Bt:Cx prog 2=some 1:=by kernel_rfl
theorem NT:Cx prog 223=some 2:=by kernel_rfl
theorem Al9:Cx prog 23=some 1:=by kernel_rfl
theorem sz_26:Cx prog 26=some 1:=by kernel_rfl
theorem Bx:Cx prog 28=some 1:=by kernel_rfl
theorem Un:Cx prog 286=some 1:=by kernel_rfl
theorem Apv:Cx prog 291=some 1:=by kernel_rfl
theorem IB:Cx prog 299=some 4:=by kernel_rfl
theorem D9:Cx prog 3=some 1:=by kernel_rfl
theorem NU:Cx prog 300=some 1:=by kernel_rfl
theorem Aef:Cx prog 316=some 1:=by kernel_rfl
theorem FC:Cx prog 32=some 7:=by kernel_rfl
theorem Dh:Cx prog 321=some 2:=by kernel_rfl
theorem Ama:Cx prog 35=some 1:=by kernel_rfl
theorem Eu:Cx prog 37=some 2:=by kernel_rfl
theorem NV:Cx prog 4=some 1:=by kernel_rfl
theorem Ii:Cx prog 40=some 7:=by kernel_rfl
theorem DP:Cx prog 43=some 2:=by kernel_rfl
theorem Amb:Cx prog 48=some 1:=by kernel_rfl
theorem Amc:Cx prog 49=some 1:=by kernel_rfl
theorem C2:Cx prog 51=some 2:=by kernel_rfl
theorem Nd:Cx prog 53=some 2:=by kernel_rfl
theorem Dv:Cx prog 55=some 8:=by kernel_rfl
theorem CW:Cx prog 59=some 4:=by kernel_rfl
theorem BC:Cx prog 67=some 7:=by kernel_rfl
theorem sz_80:Cx prog 80=some 1:=by kernel_rfl
theorem Amd:Cx prog 94=some 1:=by kernel_rfl
theorem Ju:Tryz.prog.underlying 101=some (.pointer 165):=by kernel_rfl
theorem NW:Tryz.prog.underlying 103=some (.pointer 168):=by kernel_rfl
theorem Xs:Tryz.prog.underlying 2=some (.int .i64):=by kernel_rfl
theorem Y6:Tryz.prog.underlying 24=some (.pointer 106):=by kernel_rfl
theorem Uo:Tryz.prog.underlying 247=some (.int .u64):=by kernel_rfl
theorem FD:Tryz.prog.underlying 28=some (.int .u64):=by kernel_rfl
theorem Apw:Tryz.prog.underlying 286=some (.int .u64):=by kernel_rfl
theorem NY:Tryz.prog.underlying 3=some (.int .i64):=by kernel_rfl
theorem Xt:Tryz.prog.underlying 301=some (.pointer 318):=by kernel_rfl
theorem un_4:Tryz.prog.underlying 4=some (.bool):=by kernel_rfl
theorem un_5:Tryz.prog.underlying 5=some (.int .u8):=by kernel_rfl
theorem un_9:Tryz.prog.underlying 9=some (.string):=by kernel_rfl
theorem OJ:Tryz.prog.underlying 99=some (.pointer 162):=by kernel_rfl
theorem Aeg:Cu prog 106=some ([.pointer none,.pointer none,.pointer none,.int .i64 0]):=by kernel_rfl
theorem Aeh:Cu prog 113=some (List.replicate 16 (.nilFunc:Value)):=by kernel_rfl
theorem Apx:Cu prog 158=some (List.replicate 16 (.bool false:Value)):=by kernel_rfl
theorem Apy:Cu prog 159=some ([.nilFunc]):=by kernel_rfl
theorem Aei:Cu prog 162=some ([.slice none 0 0]):=by kernel_rfl
theorem Aej:Cu prog 165=some ([.map none,.int .u64 0]):=by kernel_rfl
theorem Aek:Cu prog 168=some ([.int .u64 0,.int .i64 0,.bool false,.slice none 0 0,.int .i64 0,.slice none 0 0,.slice none 0 0,.slice none 0 0,.int .u64 0,.int .i64 0,.bool false,.slice none 0 0,.int .i64 0,.slice none 0 0,.slice none 0 0,.slice none 0 0,.int .u64 0,.int .i64 0,.bool false,.slice none 0 0,.int .i64 0,.slice none 0 0,.slice none 0 0,.slice none 0 0,.int .u64 0,.int .i64 0,.bool false,.slice none 0 0,.int .i64 0,.slice none 0 0,.slice none 0 0,.slice none 0 0,.int .u64 0,.int .u64 0]):=by kernel_rfl
theorem Eh:Cu prog 2=some ([.int .i64 0]):=by kernel_rfl
theorem Ki:Cu prog 223=some ([.int .i64 0,.nilFunc]):=by kernel_rfl
theorem zc_23:Cu prog 23=some ([.nilFunc]):=by kernel_rfl
theorem Apz:Cu prog 254=some ([.int .i64 0,.slice none 0 0,.slice none 0 0,.slice none 0 0,.slice none 0 0,.int .i64 0]):=by kernel_rfl
theorem Qy:Cu prog 28=some ([.int .u64 0]):=by kernel_rfl
theorem Ap0:Cu prog 286=some ([.int .u64 0]):=by kernel_rfl
theorem Ap1:Cu prog 291=some ([.pointer none]):=by kernel_rfl
theorem Ap2:Cu prog 294=some ([.slice none 0 0,.slice none 0 0,.slice none 0 0,.slice none 0 0]):=by kernel_rfl
theorem Lh:Cu prog 299=some ([.int .i64 0,.int .i64 0,.int .i64 0,.int .i64 0]):=by kernel_rfl
theorem M4:Cu prog 3=some ([.int .i64 0]):=by kernel_rfl
theorem Ap3:Cu prog 300=some ([.slice none 0 0]):=by kernel_rfl
theorem Ap4:Cu prog 318=some ([.slice none 0 0]):=by kernel_rfl
theorem KC:Cu prog 32=some ([.int .i64 0,.slice none 0 0,.slice none 0 0,.int .u64 0,.slice none 0 0,.int .u64 0,.slice none 0 0]):=by kernel_rfl
theorem Xu:Cu prog 321=some ([.int .i64 0,.int .i64 0]):=by kernel_rfl
theorem Ame:Cu prog 35=some ([.slice none 0 0]):=by kernel_rfl
theorem Gq:Cu prog 37=some ([.int .i64 0,.slice none 0 0]):=by kernel_rfl
theorem zc_4:Cu prog 4=some ([.bool false]):=by kernel_rfl
theorem EW:Cu prog 40=some ([.int .u8 0,.int .i64 0,.int .i64 0,.int .i64 0,.int .i64 0,.int .i64 0,.int .u64 0]):=by kernel_rfl
theorem JC:Cu prog 43=some ([.int .i64 0,.int .i64 0]):=by kernel_rfl
theorem OQ:Cu prog 51=some ([.int .i64 0,.slice none 0 0]):=by kernel_rfl
theorem Y7:Cu prog 53=some ([.slice none 0 0,.slice none 0 0]):=by kernel_rfl
theorem GA:Cu prog 55=some ([.int .u64 0,.int .i64 0,.bool false,.slice none 0 0,.int .i64 0,.slice none 0 0,.slice none 0 0,.slice none 0 0]):=by kernel_rfl
theorem GY:Cu prog 59=some ([.int .i64 0,.int .i64 0,.int .i64 0,.int .i64 0]):=by kernel_rfl
theorem DR:Cu prog 67=some ([.int .u64 0,.int .i64 0,.int .i64 0,.int .i64 0,.int .i64 0,.int .i64 0,.bool false]):=by kernel_rfl
theorem zc_80:Cu prog 80=some ([.slice none 0 0]):=by kernel_rfl
theorem zc_94:Cu prog 94=some ([.slice none 0 0]):=by kernel_rfl
theorem zv_3:(Tryz.prog.info? 3).bind (·.zero)=some (.int .i64 0):=by kernel_rfl
theorem Qz:(Tryz.prog.info? 67).bind (·.zero)=some (.agg #[.int .u64 0,.int .i64 0,.int .i64 0,.int .i64 0,.int .i64 0,.int .i64 0,.bool false]):=by kernel_rfl
abbrev Ar:=Nat × Nat × Int
def upd(p:Nat->Int)(v:Nat)(x:Int):Nat->Int:=fun u=>if u=v then x else p u
def JD(p:Nat->Int)(a:Ar):Nat->Int:=if p a.1+a.2.2<p a.2.1 then upd p a.2.1 (p a.1+a.2.2)else p
def Fea(A:List Ar)(q:Nat->Int):Prop:=∀a∈A,q a.2.1<=q a.1+a.2.2
def step0(A:List Ar)(d:Nat->Int)(v:Nat):Int:=A.foldl (fun m a=>if a.2.1=v then min m (d a.1+a.2.2)else m) (d v)
def DD(A:List Ar):Nat->Nat->Int
 |0,_=>0
 |r+1,v=>step0 A (DD A r) v
theorem M5{d:Nat->Int}{v:Nat}:∀{A:List Ar} {m:Int},A.foldl (fun m a=>if a.2.1=v then min m (d a.1+a.2.2)else m) m<=m
 | [],m=>qav _
 |a::A,m=>by
  rw[qdz];refine qbj M5 ?_
  split
  .exact Int.min_le_left ..
  .exact qav _
theorem OT{d:Nat->Int}{v:Nat}:∀{A:List Ar} {m:Int} {a:Ar},a∈A->a.2.1=v->A.foldl (fun m a=>if a.2.1=v then min m (d a.1+a.2.2)else m) m<=d a.1+a.2.2
 |b::A,m,a,h,hv=>by
  rw[qdz]
  rcases qag.1 h with rfl|h
  .refine qbj M5 ?_;rw[if_pos hv];exact Int.min_le_right ..
  .exact OT h hv
theorem Q0{d:Nat->Int}{v:Nat}:∀{A:List Ar} {m:Int},A.foldl (fun m a=>if a.2.1=v then min m (d a.1+a.2.2)else m) m=m\/∃a∈A,a.2.1=v/\A.foldl (fun m a=>if a.2.1=v then min m (d a.1+a.2.2)else m) m=d a.1+a.2.2
 | [],m => .inl rfl
 |b::A,m=>by
  rw[qdz]
  rcases Q0 (d:=d) (v:=v) (A:=A) (m:=if b.2.1=v then min m (d b.1+b.2.2)else m)with h|⟨a,ha,hv,h⟩
  .rw[h]
   by_cases hb:b.2.1=v
   .rw[if_pos hb]
    rcases Int.le_total m (d b.1+b.2.2)with h5|h5
    .exact .inl (Int.min_eq_left h5)
    .exact .inr ⟨b,qaj ..,hb,Int.min_eq_right h5⟩
   .rw[if_neg hb];exact .inl rfl
  .exact .inr ⟨a,qai _ ha,hv,h⟩
theorem Ael(A:List Ar)(r v:Nat):DD A (r+1) v<=DD A r v:=M5
theorem Nf(A:List Ar)(v:Nat):∀{r s:Nat},r<=s->DD A s v<=DD A r v
 |r,s,h=>by
  obtain⟨k,rfl⟩:=Nat.exists_eq_add_of_le h
  induction k with
  |zero=>exact qav _
  |succ k ih=>exact qbj (Ael A (r+k) v) (ih (by omega))
theorem Aem{A:List Ar}{a:Ar}(h:a∈A)(r:Nat):DD A (r+1) a.2.1<=DD A r a.1+a.2.2:=OT h rfl
theorem Y8(A:List Ar)(r v:Nat):DD A (r+1) v=DD A r v\/∃a∈A,a.2.1=v/\DD A (r+1) v=DD A r a.1+a.2.2:=Q0
theorem Vr{A:List Ar}:∀{r v:Nat},DD A (r+1) v<DD A r v->∃x:Nat->Nat,x (r+1)=v/\∀j,j<=r->DD A (j+1) (x (j+1))<DD A j (x (j+1))/\∃a∈A,a.1=x j/\a.2.1=x (j+1)/\DD A (j+1) (x (j+1))=DD A j (x j)+a.2.2
 |0,v,h=>by
  rcases Y8 A 0 v with h1|⟨a,ha,hv,h1⟩
  .omega
  .refine⟨fun j=>if j=0 then a.1 else v,rfl,fun j hj=>?_⟩;obtain rfl:j=0:=by omega
   exact⟨h,a,ha,rfl,hv,h1⟩
 |r+1,v,h=>by
  rcases Y8 A (r+1) v with h1|⟨a,ha,hv,h1⟩
  .omega
  .have h2:=Ael A r a.1;have h3:=Aem ha r;rw[hv]at h3;have h4:DD A (r+1) a.1<DD A r a.1:=by omega
   obtain⟨x,hx,hj⟩:=Vr h4;obtain⟨y,hy1,hy2⟩:∃y:Nat->Nat,y (r+2)=v/\∀j,j≠r+2->y j=x j:=⟨fun j=>if j=r+2 then v else x j,if_pos rfl,fun j h=>if_neg h⟩;refine⟨y,hy1,fun j hjr=>?_⟩
   by_cases h5:j=r+1
   .subst h5;rw[show r+1+1=r+2 from rfl,hy1,hy2 _ (by omega)];exact⟨h,a,ha,hx.symm,hv,by rw[hx];exact h1⟩
   .rw[hy2 _ (by omega),hy2 _ (by omega)];exact hj j (by omega)
theorem Ng:∀(n:Nat) (l:List Nat),l.Nodup->(∀x∈l,x<n)->l.length<=n
 |0,l,_,h=>by
  cases l with
  |nil=>exact qan _
  |cons x l=>exact absurd (h x (by simp)) (qaw _)
 |n+1,l,hd,h=>by
  have h1:=Ng n (l.filter (· != n)) (hd.filter _) (fun x hx=>by
   have:=h x (qbc.1 hx).1;have h2:=(qbc.1 hx).2
   simp at h2;omega)
  have h2:l.length=(l.filter (· != n)).length+l.count n:=by
   clear hd h h1
   induction l with
   |nil=>rfl
   |cons x l ih =>
    rw[qew,qbw]
    by_cases hx:x=n
    .subst hx;simp;omega
    .simp[hx];omega
  have h3:l.count n<=1:=List.nodup_iff_count.1 hd n;omega
theorem Aen{n:Nat}{x:Nat->Nat}(h:∀j,j<=n->x j<n):∃i j,i<j/\j<=n/\x i=x j:=by
 refine Classical.byContradiction fun hn=>?_
 have hd:((List.range (n+1)).map x).Nodup:=by
  rw[qd3,List.pairwise_map];refine qex (R:=fun a b=>a<b) (fun{a b} ha hb hab he=>hn ⟨a,b,hab,?_,he⟩) List.pairwise_lt_range;have:=qaz.1 hb;omega
 have h1:=Ng n _ hd fun y hy=>by
  obtain⟨j,hj,rfl⟩:=qah.1 hy;exact h j (by have:=qaz.1 hj;omega)
 simp at h1;omega
theorem Ap5{A:List Ar}{n:Nat}{q:Nat->Int}(hq:Fea A q)(hA:∀a∈A,a.1<n/\a.2.1<n)(v:Nat):DD A (n+1) v=DD A n v:=by
 have h1:=Ael A n v;refine Classical.byContradiction fun hne=>?_;obtain⟨x,-,hx⟩:=Vr (show DD A (n+1) v<DD A n v by omega)
 obtain⟨i,j,hij,hjn,he⟩:=Aen (n:=n) (x:=fun j=>x (j+1)) (fun j hj=>by
  obtain⟨_,a,ha,_,h2,_⟩:=hx j hj
  rw[<-h2];exact(hA a ha).2)
 have hmono:∀k,i+k<=n->DD A (i+1) (x (i+1)) - q (x (i+1))<=DD A (i+k+1) (x (i+k+1)) - q (x (i+k+1)):=by
  intro k
  induction k with
  |zero=>intro _;exact qav _
  |succ k ih =>
   intro hk;have h2:=ih (by omega);obtain⟨_,a,ha,h3,h4,h5⟩:=hx (i+k+1) hk;have h6:=hq a ha;rw[h3,h4]at h6;show _<=DD A (i+(k+1)+1) (x (i+(k+1)+1)) - q (x (i+(k+1)+1));rw[show i+(k+1)+1=i+k+1+1 by omega,h5];omega
 have h2:=hmono (j - i) (by omega);rw[show i+(j - i)+1=j+1 by omega,<-he]at h2;have h3:=(hx j hjn).1;rw[<-he]at h3;have h4:=Nf A (x (i+1)) (show i+1<=j by omega);omega
theorem Xv{A:List Ar}{n:Nat}{q:Nat->Int}(hq:Fea A q)(hA:∀a∈A,a.1<n/\a.2.1<n):Fea A (DD A n):=fun a ha=>by
 have h1:=Aem ha n;rw[Ap5 hq hA]at h1;exact h1
theorem Y9{A:List Ar}{m:Int}(h0:0<=m)(hA:∀a∈A,-m<=a.2.2):∀(r v:Nat),-(r*m)<=DD A r v
 |0,v=>by simp[DD]
 |r+1,v=>by
  have e:((r+1:Nat):Int)*m=r*m+m:=by rw[qc5,Int.add_mul];simp
  rcases Y8 A r v with h|⟨a,ha,hv,h⟩
  .rw[h,e];have:=Y9 h0 hA r v;omega
  .rw[h,e];have:=Y9 h0 hA r a.1;have:=hA a ha;omega
theorem YA(p:Nat->Int)(a:Ar)(v:Nat):JD p a v<=p v:=by
 unfold JD
 split
 .unfold upd
  split
  .rename_i h1 h2;subst h2;omega
  .exact qav _
 .exact qav _
theorem Ai3{p f:Nat->Int}{a:Ar}(hf:f a.2.1<=f a.1+a.2.2)(h:∀v,f v<=p v)(v:Nat):f v<=JD p a v:=by
 unfold JD
 split
 .unfold upd
  split
  .rename_i h1 h2;subst h2;have:=h a.1;omega
  .exact h v
 .exact h v
theorem Aeo(p:Nat->Int)(a:Ar):JD p a a.2.1<=p a.1+a.2.2:=by
 unfold JD
 split
 .unfold upd;rw[if_pos rfl];exact qav _
 .omega
theorem Nh:∀(A:List Ar) (p:Nat->Int) (v:Nat),A.foldl JD p v<=p v
 | [],_,_=>qav _
 |a::A,p,v=>qbj (Nh A _ v) (YA p a v)
theorem Up{f:Nat->Int}:∀{A:List Ar} {p:Nat->Int},Fea A f->(∀v,f v<=p v)->∀v,f v<=A.foldl JD p v
 | [],_,_,h,v=>h v
 |a::_,_,hf,h,v=>Up (fun b hb=>hf b (qai _ hb)) (Ai3 (hf a (qaj ..)) h) v
theorem Vs{q:Nat->Int}:∀{A:List Ar} {p:Nat->Int},(∀v,p v<=q v)->∀a∈A,A.foldl JD p a.2.1<=q a.1+a.2.2
 |b::A,p,h,a,ha=>by
  rw[qdz]
  rcases qag.1 ha with rfl|ha
  .have h1:=Nh A (JD p a) a.2.1;have h2:=Aeo p a;have:=h a.1;omega
  .exact Vs (fun v=>qbj (YA p b v) (h v)) a ha
def FW(A:List Ar):Nat->(Nat->Int)->Nat->Int
 |0,p=>p
 |r+1,p=>A.foldl JD (FW A r p)
theorem LI(A:List Ar):∀(r:Nat) (v:Nat),FW A r (fun _=>0) v<=DD A r v
 |0,v=>qav _
 |r+1,v=>by
  show A.foldl JD (FW A r fun _=>0) v<=_
  rcases Y8 A r v with h|⟨a,ha,hv,h⟩
  .rw[h];exact qbj (Nh A _ v) (LI A r v)
  .rw[h,<-hv];exact Vs (LI A r) a ha
theorem LJ{A:List Ar}{f:Nat->Int}(hf:Fea A f)(h0:∀v,f v<=0):∀(r v:Nat),f v<=FW A r (fun _=>0) v
 |0,v=>h0 v
 |r+1,v=>Up hf (LJ hf h0 r) v
theorem ZU{A:List Ar}{n:Nat}{q:Nat->Int}(hq:Fea A q)(hA:∀a∈A,a.1<n/\a.2.1<n):Fea A (FW A n fun _=>0):=by
 have hf:=Xv hq hA;have h0:∀v,DD A n v<=0:=fun v=>Nf A v (qaf n);have he:∀v,FW A n (fun _=>0) v=DD A n v:=fun v=>Int.le_antisymm (LI A n v) (LJ hf h0 n v);intro a ha;rw[he,he];exact hf a ha
theorem Aep{A:List Ar}{n:Nat}{q:Nat->Int}(hq:Fea A q)(hA:∀a∈A,a.1<n/\a.2.1<n){m:Int}(hc:∀a∈A,-m<=a.2.2)(r v:Nat)(hm:0<=m:=by omega): -(n*m)<=FW A r (fun _=>0) v/\FW A r (fun _=>0) v<=0 :=
 ⟨qbj (Y9 hm hc n v) (LJ (Xv hq hA) (fun v=>Nf A v (qaf n)) r v),qbj (LI A r v) (Nf A v (qaf r))⟩
theorem Vt(a b:Int):a<b\/b<=a:=by omega
def BQ(f:Nat->Int):Nat->Int
 |0=>0
 |k+1=>BQ f k+f k
theorem CF{f g:Nat->Int}:∀{k:Nat},(∀i,i<k->f i=g i)->BQ f k=BQ g k
 |0,_=>rfl
 |k+1,h=>by
  show BQ f k+f k=BQ g k+g k;rw[CF fun i hi=>h i (by omega),h k (by omega)]
theorem P0(f g:Nat->Int):∀k,BQ (fun i=>f i+g i) k=BQ f k+BQ g k
 |0=>rfl
 |k+1=>by
  show BQ _ k+(f k+g k)=(BQ f k+f k)+(BQ g k+g k);rw[P0 f g k];omega
theorem P5(f:Nat->Int):∀k,BQ (fun i => -f i) k = -BQ f k
 |0=>rfl
 |k+1=>by
  show BQ _ k + -f k = -(BQ f k+f k);rw[P5 f k];omega
theorem LK(f g:Nat->Int)(k:Nat):BQ (fun i=>f i - g i) k=BQ f k - BQ g k:=by
 have h:=P0 f (fun i => -g i) k;rw[P5]at h;exact h
theorem Uq(c:Int)(f:Nat->Int):∀k,BQ (fun i=>c*f i) k=c*BQ f k
 |0=>by show(0:Int)=c*0;omega
 |k+1=>by
  show BQ _ k+c*f k=c*(BQ f k+f k);rw[Uq c f k,qdk]
theorem HQ:∀k,BQ (fun _=>0) k=0
 |0=>rfl
 |k+1=>by show BQ _ k+0=0;rw[HQ k];rfl
theorem IC{f:Nat->Int}:∀{k:Nat},(∀i,i<k->0<=f i)->0<=BQ f k
 |0,_=>qav _
 |k+1,h=>by
  have:=IC (k:=k) fun i hi=>h i (by omega);have:=h k (by omega);show 0<=BQ f k+f k;omega
theorem Li{f g:Nat->Int}{k:Nat}(h:∀i,i<k->f i<=g i):BQ f k<=BQ g k:=by
 have h1:=IC (f:=fun i=>g i - f i) (k:=k) fun i hi=>by have:=h i hi;omega
 rw[LK]at h1;omega
theorem Ur{f:Nat->Int}:∀{k:Nat} {j:Nat},(∀i,i<k->0<=f i)->j<k->0<f j->0<BQ f k
 |k+1,j,h,hj,hp=>by
  show 0<BQ f k+f k;have h1:=IC (k:=k) fun i hi=>h i (by omega);have h2:=h k (by omega)
  by_cases e:j=k
  .subst e;omega
  .have:=Ur (k:=k) (j:=j) (fun i hi=>h i (by omega)) (by omega) hp;omega
theorem Q3(f:Nat->Nat->Int)(m:Nat):∀k,BQ (fun i=>BQ (f i) m) k=BQ (fun j=>BQ (fun i=>f i j) k) m
 |0=>(HQ m).symm
 |k+1=>by
  show BQ _ k+BQ (f k) m=BQ (fun j=>BQ (fun i=>f i j) k+f k j) m;rw[P0,Q3 f m k]
def one(b:Prop)[Decidable b]:Int:=if b then 1 else 0
theorem Ip(g:Nat->Int){u:Nat}:∀{k:Nat},u<k->BQ (fun v=>one (u=v)*g v) k=g u
 |k+1,h=>by
  show BQ _ k+one (u=k)*g k=g u
  by_cases e:u=k
  .subst e
   have h1:BQ (fun v=>one (u=v)*g v) u=BQ (fun _=>0) u:=CF fun i hi=>by
    unfold one;rw[if_neg (by omega)];omega
   rw[h1,HQ,one,if_pos rfl];omega
  .rw[Ip g (by omega:u<k),one,if_neg e];omega
structure Gr where
 N:Nat
 E:Nat
 f:Nat->Nat
 t:Nat->Nat
 co:Nat->Int
structure Gr.Ok(g:Gr):Prop where
 f:∀i,i<g.E->g.f i<g.N
 t:∀i,i<g.E->g.t i<g.N
def Ea(g:Gr)(x:Nat->Int)(k v:Nat):Int:=BQ (fun i=>(one (g.t i=v) - one (g.f i=v))*x i) k
def BP(g:Gr)(x:Nat->Int)(v:Nat):Int:=Ea g x g.E v
def HS(g:Gr)(x:Nat->Int):Int:=BQ (fun i=>x i*g.co i) g.E
theorem Xw(g:Gr)(hg:g.Ok)(x r:Nat->Int):BQ (fun v=>BP g x v*r v) g.N=BQ (fun i=>(r (g.t i) - r (g.f i))*x i) g.E:=by
 have h1:BQ (fun v=>BP g x v*r v) g.N=BQ (fun v=>BQ (fun i=>(one (g.t i=v) - one (g.f i=v))*x i*r v) g.E) g.N:=CF fun v _=>by
  unfold BP Ea;rw[qc6,<-Uq];exact CF fun i _=>by rw[qc6]
 rw[h1,<-Q3];refine CF fun i hi=>?_
 have h2:BQ (fun v=>(one (g.t i=v) - one (g.f i=v))*x i*r v) g.N=BQ (fun v=>one (g.t i=v)*(x i*r v) - one (g.f i=v)*(x i*r v)) g.N:=CF fun v _=>by
  rw[Int.mul_assoc,Int.sub_mul]
 rw[h2,LK,Ip (fun v=>x i*r v) (hg.t i hi),Ip (fun v=>x i*r v) (hg.f i hi),Int.sub_mul,qc6 (r _),qc6 (r _)]
theorem over_all(g:Gr)(hg:g.Ok)(x:Nat->Int):BQ (BP g x) g.N=0:=by
 have h:=Xw g hg x fun _=>1;have h1:BQ (fun v=>BP g x v*1) g.N=BQ (BP g x) g.N:=CF fun v _=>by omega
 rw[<-h1,h];have h2:BQ (fun i=>((1:Int) - 1)*x i) g.E=BQ (fun _=>0) g.E:=CF fun i _=>by omega
 rw[h2,HQ]
def Gr.u(g:Gr)(a:Nat):Nat:=if a % 2=0 then g.f (a / 2)else g.t (a / 2)
def Gr.v(g:Gr)(a:Nat):Nat:=if a % 2=0 then g.t (a / 2)else g.f (a / 2)
def Gr.c(g:Gr)(a:Nat):Int:=if a % 2=0 then g.co (a / 2)else -g.co (a / 2)
def Da(cap x:Nat->Int)(a:Nat):Int:=if a % 2=0 then cap (a / 2) - x (a / 2)else x (a / 2)
def Gr.len(g:Gr)(p:Nat->Int)(a:Nat):Int:=g.c a+p (g.u a) - p (g.v a)
structure Fine(g:Gr)(cap x p:Nat->Int):Prop where
 in':∀i,i<g.E->0<=x i/\x i<=cap i
 fit:∀a,a<2*g.E->0<Da cap x a->0<=g.len p a
theorem Gr.Ok.u{g:Gr}(h:g.Ok){a:Nat}(ha:a<2*g.E):g.u a<g.N:=by
 unfold Gr.u;split
 .exact h.f _ (by omega)
 .exact h.t _ (by omega)
theorem Gr.Ok.v{g:Gr}(h:g.Ok){a:Nat}(ha:a<2*g.E):g.v a<g.N:=by
 unfold Gr.v;split
 .exact h.t _ (by omega)
 .exact h.f _ (by omega)
theorem Lj(g:Gr)(i:Nat):g.u (2*i)=g.f i/\g.v (2*i)=g.t i/\g.c (2*i)=g.co i:=by
 unfold Gr.u Gr.v Gr.c;rw[if_pos (by omega),if_pos (by omega),if_pos (by omega),show 2*i / 2=i by omega];exact⟨rfl,rfl,rfl⟩
theorem Ni(g:Gr)(i:Nat):g.u (2*i+1)=g.t i/\g.v (2*i+1)=g.f i/\g.c (2*i+1) = -g.co i:=by
 unfold Gr.u Gr.v Gr.c;(iterate 3 rw[if_neg (by omega)]);rw[show(2*i+1) / 2=i by omega];exact⟨rfl,rfl,rfl⟩
theorem Fine.fwd{g:Gr}{cap x p:Nat->Int}(h:Fine g cap x p){i:Nat}(hi:i<g.E)(hr:x i<cap i):0<=g.co i+p (g.f i) - p (g.t i):=by
 have h1:=h.fit (2*i) (by omega) (by unfold Da;rw[if_pos (by omega),show 2*i / 2=i by omega];omega);obtain⟨a,b,c⟩:=Lj g i;unfold Gr.len at h1
 rwa [a,b,c]at h1
theorem Fine.bwd{g:Gr}{cap x p:Nat->Int}(h:Fine g cap x p){i:Nat}(hi:i<g.E)(hr:0<x i):g.co i+p (g.f i) - p (g.t i)<=0:=by
 have h1:=h.fit (2*i+1) (by omega) (by unfold Da;rw[if_neg (by omega),show(2*i+1) / 2=i by omega];exact hr);obtain⟨a,b,c⟩:=Ni g i;unfold Gr.len at h1;rw[a,b,c]at h1;omega
theorem Fine.of{g:Gr}{cap x p:Nat->Int}(h0:∀i,i<g.E->0<=x i/\x i<=cap i)(h1:∀i,i<g.E->x i<cap i->0<=g.co i+p (g.f i) - p (g.t i))(h2:∀i,i<g.E->0<x i->g.co i+p (g.f i) - p (g.t i)<=0):Fine g cap x p:=by
 refine⟨h0,fun a ha hr=>?_⟩;have hm:a % 2=0\/a % 2=1:=by omega
 unfold Gr.len
 rcases hm with hm|hm
 .obtain⟨b,c,d⟩:=Lj g (a / 2);rw[show 2*(a / 2)=a by omega]at b c d;rw[b,c,d];unfold Da at hr;rw[if_pos hm]at hr;exact h1 _ (by omega) (by omega)
 .obtain⟨b,c,d⟩:=Ni g (a / 2);rw[show 2*(a / 2)+1=a by omega]at b c d;rw[b,c,d];unfold Da at hr;rw[if_neg (by omega)]at hr;have:=h2 _ (by omega) hr;omega
theorem Fine.best{g:Gr}(hg:g.Ok){cap x p:Nat->Int}(h:Fine g cap x p)(hx:∀v,v<g.N->BP g x v=0){y:Nat->Int}(hy:∀i,i<g.E->0<=y i/\y i<=cap i)(hyo:∀v,v<g.N->BP g y v=0):HS g x<=HS g y:=by
 have hz:∀z:Nat->Int,(∀v,v<g.N->BP g z v=0)->HS g z=BQ (fun i=>(g.co i+p (g.f i) - p (g.t i))*z i) g.E:=fun z hz=>by
  have h1:=Xw g hg z p;have h2:BQ (fun v=>BP g z v*p v) g.N=BQ (fun _=>0) g.N:=CF fun v hv=>by rw[hz v hv];omega
  rw[h2,HQ]at h1
  have h3:BQ (fun i=>(g.co i+p (g.f i) - p (g.t i))*z i) g.E=BQ (fun i=>z i*g.co i - (p (g.t i) - p (g.f i))*z i) g.E:=CF fun i _=>by
   rw[qc6 (z i),<-Int.sub_mul];congr 1;omega
  rw[h3,LK,<-h1];unfold HS;omega
 rw[hz x hx,hz y hyo];refine Li fun i hi=>?_;obtain⟨a,b⟩:=h.in' i hi;obtain⟨c,d⟩:=hy i hi
 rcases Vt (g.co i+p (g.f i) - p (g.t i)) 0 with h5|h5
 .have h6:x i=cap i:=by
   rcases Vt (x i) (cap i)with h7|h7
   .have:=h.fwd hi h7;omega
   .omega
  exact Int.mul_le_mul_of_nonpos_left (by omega) (by omega)
 .rcases Vt 0 (g.co i+p (g.f i) - p (g.t i))with h6|h6
  .have h7:x i=0:=by
    rcases Vt 0 (x i)with h7|h7
    .have:=h.bwd hi h7;omega
    .omega
   exact qdl (by omega) (by omega)
  .rw[show g.co i+p (g.f i) - p (g.t i)=0 by omega];omega
structure Lb where
 d:Nat->Int
 h:Nat->Nat
def le2(d1:Int)(h1:Nat)(d2:Int)(h2:Nat):Prop:=d1<d2\/(d1=d2/\h1<=h2)
theorem le2.trans{a b c:Int}{x y z:Nat}(h1:le2 a x b y)(h2:le2 b y c z):le2 a x c z:=by unfold le2 at *;omega
theorem le2.refl(a:Int)(x:Nat):le2 a x a x := .inr ⟨rfl,qan _⟩
def EJ(s:Lb)(v:Nat)(d:Int)(h:Nat):Prop:=s.d v = -1\/d<s.d v\/(d=s.d v/\h<s.h v)
instance (s:Lb)(v:Nat)(d:Int)(h:Nat):Decidable (EJ s v d h):=by unfold EJ;infer_instance
def ID(s:Lb)(v:Nat)(d:Int)(h:Nat):Lb:=⟨fun u=>if u=v then d else s.d u,fun u=>if u=v then h else s.h u⟩
def HU(s:Lb)(a:Ar):Lb:=if EJ s a.2.1 (s.d a.1+a.2.2) (s.h a.1+1)then ID s a.2.1 (s.d a.1+a.2.2) (s.h a.1+1)else s
def Jv(s:Lb)(a:Ar)(hp:List (Int × Nat)):List (Int × Nat):=if EJ s a.2.1 (s.d a.1+a.2.2) (s.h a.1+1)then(s.d a.1+a.2.2,a.2.1)::hp else hp
def Us(A:List Ar)(n:Nat)(m:Int):Prop:=∀a∈A,a.1<n/\a.2.1<n/\0<=a.2.2/\a.2.2<=m
structure DJ(A:List Ar)(src:List Nat)(n:Nat)(m:Int)(s:Lb):Prop where
 low:∀v,s.d v = -1\/0<=s.d v
 src':∀v∈src,v<n/\s.d v=0/\s.h v=0
 zero:∀v,s.d v ≠ -1->s.h v=0->v∈src
 none':∀v,s.d v = -1->s.h v=0
 pre:∀v,s.d v ≠ -1->s.h v≠0->∃a∈A,a.2.1=v/\s.d a.1 ≠ -1/\le2 (s.d a.1+a.2.2) (s.h a.1+1) (s.d v) (s.h v)
 walk:∀v,s.d v ≠ -1->∃W:List Nat,W.Nodup/\W.length=s.h v+1/\∀x∈W,x<n/\s.d x ≠ -1/\le2 (s.d x) (s.h x) (s.d v) (s.h v)
 bnd:∀v,s.d v ≠ -1->s.d v<=s.h v*m
def Rlx(s:Lb)(a:Ar):Prop:=s.d a.2.1 ≠ -1/\le2 (s.d a.2.1) (s.h a.2.1) (s.d a.1+a.2.2) (s.h a.1+1)
def Clo(A:List Ar)(s:Lb)(hp:List (Int × Nat))(u:Nat)(done:List Ar):Prop :=
 ∀v,s.d v ≠ -1->(s.d v,v)∈hp\/∀a∈A,a.1=v->(v=u->a∈done)->Rlx s a
def Aeq(n:Nat)(m:Int)(s:Lb)(v:Nat):Int:=if s.d v = -1 then n*m*64+64 else s.d v*64+s.h v
def meas(n:Nat)(m:Int)(s:Lb)(hp:List (Int × Nat)):Int:=2*BQ (Aeq n m s) n+hp.length
theorem DJ.hops{A:List Ar}{src:List Nat}{n:Nat}{m:Int}{s:Lb}(J:DJ A src n m s){v:Nat}(hv:s.d v ≠ -1):s.h v+1<=n:=by
 obtain⟨W,h1,h2,h3⟩:=J.walk v hv;rw[<-h2];exact Ng n W h1 fun x hx=>(h3 x hx).1
section
variable {A:List Ar}{src:List Nat}{n:Nat}{m:Int}{s:Lb}{hp:List (Int × Nat)}{u:Nat}{dn:List Ar}{a:Ar}
theorem DJ.relax(hA:Us A n m)(hm:0<=m)(hn:n<=60)(J:DJ A src n m s)(K:Clo A s hp u dn)(ha:a∈A)(hu:a.1=u)(hd:s.d u ≠ -1) :
  DJ A src n m (HU s a)/\Clo A (HU s a) (Jv s a hp) u (dn++[a])/\(HU s a).d u=s.d u/\(HU s a).h u=s.h u/\meas n m (HU s a) (Jv s a hp)<=meas n m s hp:=by
 subst hu;obtain⟨hu1,hv1,hl0,hlm⟩:=hA a ha;have hdu:=(J.low a.1).resolve_left hd
 by_cases hb:EJ s a.2.1 (s.d a.1+a.2.2) (s.h a.1+1)
 .obtain⟨d',hd'⟩:∃d',d'=s.d a.1+a.2.2:=⟨_,rfl⟩;obtain⟨h',hh'⟩:∃h',h'=s.h a.1+1:=⟨_,rfl⟩;obtain⟨v,hv⟩:=qD a.2.1;have hS:HU s a=ID s v d' h':=by unfold HU;rw[if_pos hb,hd',hh',hv]
  have hH:Jv s a hp=(d',v)::hp:=by unfold Jv;rw[if_pos hb,hd',hv]
  rw[<-hd',<-hh',<-hv]at hb;rw[<-hv]at hv1
  have hvu:v≠a.1:=fun e=>by
   unfold EJ at hb;rw[e]at hb;omega
  rw[hS,hH];have p1:(ID s v d' h').d v=d':=if_pos rfl;have p2:(ID s v d' h').h v=h':=if_pos rfl;have p3:∀x,x≠v->(ID s v d' h').d x=s.d x:=fun x hx=>if_neg hx;have p4:∀x,x≠v->(ID s v d' h').h x=s.h x:=fun x hx=>if_neg hx
  have hsrc:v∉src:=fun hs=>by
   obtain⟨_,q1,q2⟩:=J.src' v hs;unfold EJ at hb;rw[q1,q2]at hb;omega
  -- labels become no greater
  have hless:∀x,s.d x ≠ -1->(ID s v d' h').d x ≠ -1/\le2 ((ID s v d' h').d x) ((ID s v d' h').h x) (s.d x) (s.h x):=fun x hx=>by
   by_cases e:x=v
   .subst e;rw[p1,p2];unfold EJ at hb;exact⟨by omega,by unfold le2;omega⟩
   .rw[p3 x e,p4 x e];exact⟨hx,le2.refl _ _⟩
  have hadd:∀{x:Nat} (l:Int),s.d x ≠ -1->le2 ((ID s v d' h').d x+l) ((ID s v d' h').h x+1) (s.d x+l) (s.h x+1):=fun{x} l hx=>by
   have:=(hless x hx).2;unfold le2 at *;omega
  -- the way to v
  obtain⟨W,w1,w2,w3⟩:=J.walk a.1 hd
  have hvW:v∉W:=fun hx=>by
   have q:=(w3 v hx).2;unfold EJ at hb;unfold le2 at q;omega
  have hWn:(W++[v]).Nodup:=by
   rw[qdg];exact⟨w1,by simp,fun x hx y hy e=>by rw[qab.1 hy]at e;exact hvW (e ▸ hx)⟩
  have hWl:(W++[v]).length=h'+1:=by rw[qat,w2,hh'];rfl
  have hh'n:h'+1<=n:=by
   rw[<-hWl];exact Ng n _ hWn fun x hx=>(qbg.1 hx).elim (fun h=>(w3 x h).1) fun h=>by rw[qab.1 h];exact hv1
  have hbd:d'<=h'*m:=by
   have q:=J.bnd a.1 hd;rw[hd',hh',qc5,Int.add_mul];simp;omega
  have J':DJ A src n m (ID s v d' h'):=by
   refine⟨fun x=>?_,fun x hx=>?_,fun x hx h0=>?_,fun x hx=>?_,fun x hx h0=>?_,fun x hx=>?_,fun x hx=>?_⟩
   .by_cases e:x=v
    .subst e;rw[p1];omega
    .rw[p3 x e];exact J.low x
   .have e:x≠v:=fun e=>hsrc (e ▸ hx);rw[p3 x e,p4 x e];exact J.src' x hx
   .by_cases e:x=v
    .subst e;rw[p2]at h0;omega
    .rw[p3 x e]at hx;rw[p4 x e]at h0;exact J.zero x hx h0
   .by_cases e:x=v
    .subst e;rw[p1]at hx;omega
    .rw[p3 x e]at hx;rw[p4 x e];exact J.none' x hx
   .by_cases e:x=v
    .subst e;refine⟨a,ha,hv.symm,?_,?_⟩
     .rw[p3 _ (Ne.symm hvu)];exact hd
     .rw[p1,p2,p3 _ (Ne.symm hvu),p4 _ (Ne.symm hvu),<-hd',<-hh'];exact le2.refl _ _
    .rw[p3 x e]at hx |-;rw[p4 x e]at h0 |-;obtain⟨b,hb1,hb2,hb3,hb4⟩:=J.pre x hx h0;exact⟨b,hb1,hb2,(hless _ hb3).1,(hadd _ hb3).trans hb4⟩
   .by_cases e:x=v
    .subst e;refine⟨W++[x],hWn,by rw[hWl,p2],fun y hy=>?_⟩;rw[p1,p2]
     rcases qbg.1 hy with hy|hy
     .obtain⟨q1,q2,q3⟩:=w3 y hy;refine⟨q1,(hless y q2).1,(hless y q2).2.trans (q3.trans ?_)⟩;unfold le2;omega
     .rw[qab.1 hy,p1,p2];exact⟨hv1,by omega,le2.refl _ _⟩
    .rw[p3 x e]at hx |-;rw[p4 x e];obtain⟨W2,q1,q2,q3⟩:=J.walk x hx;exact⟨W2,q1,q2,fun y hy=>⟨(q3 y hy).1,(hless y (q3 y hy).2.1).1,(hless y (q3 y hy).2.1).2.trans (q3 y hy).2.2⟩⟩
   .by_cases e:x=v
    .subst e;rw[p1,p2];exact hbd
    .rw[p3 x e]at hx |-;rw[p4 x e];exact J.bnd x hx
  have hval:∀x,Aeq n m (ID s v d' h') x<=Aeq n m s x - one (v=x):=fun x=>by
   by_cases e:x=v
   .subst e;unfold one;rw[if_pos rfl];unfold Aeq;rw[p1,p2,if_neg (show ¬d' = -1 by omega)]
    split
    .have q:(h':Int)*m<=(n:Int)*m:=qey (by omega) hm;omega
    .have q1:=(J.low x).resolve_left ‹_›;unfold EJ at hb;omega
   .have e1:one (v=x)=0:=if_neg fun h=>e h.symm;unfold Aeq;rw[p3 x e,p4 x e,e1,Int.sub_zero];exact qav _
  refine⟨J',fun x hx=>?_,p3 _ (Ne.symm hvu),p4 _ (Ne.symm hvu),?_⟩
  .by_cases e:x=v
   .subst e;left;rw[p1];exact qaj ..
   .rw[p3 x e]at hx |-
    rcases K x hx with q|q
    .exact .inl (qai _ q)
    .refine .inr fun b hb1 hb2 hb3=>?_
     by_cases eb:b=a
     .subst eb;refine⟨by rw[<-hv,p1];omega,?_⟩;rw[<-hv,p1,p2,p3 _ (Ne.symm hvu),p4 _ (Ne.symm hvu),<-hd',<-hh'];exact le2.refl _ _
     .obtain⟨r1,r2⟩:=q b hb1 hb2 fun h=>(qbg.1 (hb3 h)).resolve_right fun h=>eb (qab.1 h);refine⟨(hless _ r1).1,(hless _ r1).2.trans ?_⟩;have eb1:b.1≠v:=by rw[hb2];exact e
      rw[p3 _ eb1,p4 _ eb1];exact r2
  .unfold meas;have q1:=Li (k:=n) fun i _=>hval i;rw[LK]at q1;have q2:=Ip (fun _=>(1:Int)) hv1;have q3:BQ (fun x=>one (v=x)) n=BQ (fun x=>one (v=x)*1) n:=CF fun i _=>by omega
   rw[<-q3]at q2;rw[qa6];omega
 .have hS:HU s a=s:=by unfold HU;rw[if_neg hb]
  have hH:Jv s a hp=hp:=by unfold Jv;rw[if_neg hb]
  rw[hS,hH];refine⟨J,fun x hx=>?_,rfl,rfl,qav _⟩
  rcases K x hx with q|q
  .exact .inl q
  .refine .inr fun b hb1 hb2 hb3=>?_
   by_cases eb:b=a
   .subst eb;unfold EJ at hb;unfold Rlx le2;omega
   .exact q b hb1 hb2 fun h=>(qbg.1 (hb3 h)).resolve_right fun h=>eb (qab.1 h)
def lb0(src:List Nat):Lb:=⟨fun v=>if v∈src then 0 else -1,fun _=>0⟩
theorem DJ.start(hs:∀v∈src,v<n):DJ A src n m (lb0 src):=by
 have h1:∀v,(lb0 src).d v ≠ -1->v∈src:=fun v hv=>Classical.byContradiction fun h=>hv (if_neg h);refine⟨fun v=>?_,fun v hv=>⟨hs v hv,if_pos hv,rfl⟩,fun v hv _=>h1 v hv,fun v _=>rfl,fun v _ h=>absurd rfl h,fun v hv=>⟨[v],by simp,rfl,fun x hx=>?_⟩,fun v hv=>?_⟩
 .unfold lb0;dsimp only;split
  .exact .inr (qav _)
  .exact .inl U
 .rw[qab.1 hx];exact⟨hs v (h1 v hv),hv,le2.refl _ _⟩
 .have:(lb0 src).d v=0:=if_pos (h1 v hv);rw[this];show(0:Int)<=((0:Nat):Int)*m;omega
structure Done(A:List Ar)(src:List Nat)(n:Nat)(m:Int)(s:Lb):Prop where
 J:DJ A src n m s
 arc:∀a∈A,s.d a.1 ≠ -1->s.d a.2.1 ≠ -1/\s.d a.2.1<=s.d a.1+a.2.2
 pre:∀v,s.d v ≠ -1->s.h v≠0->∃a∈A,a.2.1=v/\s.d a.1 ≠ -1/\s.d a.1+a.2.2=s.d v/\s.h a.1+1=s.h v
theorem DJ.ends(J:DJ A src n m s)(K:Clo A s [] u A):Done A src n m s:=by
 have hr:∀a∈A,s.d a.1 ≠ -1->Rlx s a:=fun a ha h=>(K a.1 h).elim (fun h=>by cases h) fun h=>h a ha rfl fun _=>ha;refine⟨J,fun a ha h=>?_,fun v hv h0=>?_⟩
 .obtain⟨h1,h2⟩:=hr a ha h;exact⟨h1,by unfold le2 at h2;omega⟩
 .obtain⟨a,ha,h1,h2,h3⟩:=J.pre v hv h0;obtain⟨h4,h5⟩:=hr a ha h2;rw[h1]at h5;refine⟨a,ha,h1,h2,?_,?_⟩
  .unfold le2 at h3 h5;omega
  .unfold le2 at h3 h5;omega
end
def Pi(g:Gr)(cap x p:Nat->Int):List Ar:=((List.range (2*g.E)).filter fun a=>decide (0<Da cap x a)).map fun a=>(g.u a,g.v a,g.len p a)
theorem Lk{g:Gr}{cap x p:Nat->Int}{b:Ar}:b∈Pi g cap x p↔∃a,a<2*g.E/\0<Da cap x a/\b=(g.u a,g.v a,g.len p a):=by
 unfold Pi;rw[qah];constructor
 .rintro⟨a,ha,rfl⟩;rw[qbc,qaz,qam]at ha;exact⟨a,ha.1,ha.2,rfl⟩
 .rintro⟨a,h1,h2,rfl⟩;exact⟨a,qbc.2 ⟨qaz.2 h1,qal h2⟩,rfl⟩
theorem Fine.arcs{g:Gr}(hg:g.Ok){cap x p:Nat->Int}(h:Fine g cap x p){m:Int}(hm:∀a,a<2*g.E->g.len p a<=m):Us (Pi g cap x p) g.N m:=fun b hb=>by
 obtain⟨a,h1,h2,rfl⟩:=Lk.1 hb;exact⟨hg.u h1,hg.v h1,h.fit a h1 h2,hm a h1⟩
theorem reach{g:Gr}(hg:g.Ok){cap x p:Nat->Int}(h:Fine g cap x p){src:List Nat}{m:Int}{s:Lb}(D:Done (Pi g cap x p) src g.N m s){v:Nat}(hv:v<g.N)(hd:s.d v ≠ -1)(ho:0<BP g x v):∃w,w<g.N/\s.d w ≠ -1/\BP g x w<0:=by
 refine Classical.byContradiction fun hn=>?_;obtain⟨r,hr⟩:=qD (fun v=>if s.d v ≠ -1 then 1 else 0:Nat->Int);have hr1:∀{v:Nat},s.d v ≠ -1->r v=1:=fun{v} h=>by rw[hr];exact if_pos h
 have hr0:∀{v:Nat},s.d v = -1->r v=0:=fun{v} h=>by rw[hr];exact if_neg fun h2=>h2 h
 have h1:0<BQ (fun v=>BP g x v*r v) g.N:=by
  refine Ur (j:=v) (fun w hw=>?_) hv (by rw[hr1 hd];omega)
  by_cases e:s.d w = -1
  .rw[hr0 e];omega
  .rw[hr1 e];have:=Int.not_lt.1 fun h5=>hn ⟨w,hw,e,h5⟩;omega
 rw[Xw g hg x r]at h1
 have h2:BQ (fun i=>(r (g.t i) - r (g.f i))*x i) g.E<=BQ (fun _=>0) g.E:=Li fun i hi=>by
  obtain⟨hx0,hx1⟩:=h.in' i hi
  by_cases e1:s.d (g.t i) = -1
  .rw[hr0 e1]
   by_cases e2:s.d (g.f i) = -1
   .rw[hr0 e2];omega
   .rw[hr1 e2];omega
  .rw[hr1 e1]
   by_cases e2:s.d (g.f i) = -1
   .have e3:x i=0:=by
     rcases Vt 0 (x i)with h5|h5
     .exfalso;obtain⟨a1,a2,a3⟩:=Ni g i;have:=D.arc _ (Lk.2 ⟨2*i+1,by omega,by unfold Da;rw[if_neg (by omega),show(2*i+1) / 2=i by omega];exact h5,rfl⟩) (by dsimp only;rw[a1];exact e1);dsimp only at this;rw[a2]at this;exact this.1 e2
     .omega
    rw[e3];omega
   .rw[hr1 e2];omega
 rw[HQ]at h2;omega
structure Way1(g:Gr)(cap x p:Nat->Int)(s:Lb)(a:Nat):Prop where
 lt:a<2*g.E
 room:0<Da cap x a
 du:s.d (g.u a) ≠ -1
 dv:s.d (g.v a) ≠ -1
 d:s.d (g.u a)+g.len p a=s.d (g.v a)
 h:s.h (g.u a)+1=s.h (g.v a)
def Bys(g:Gr)(cap x p:Nat->Int)(s:Lb)(by':Nat->Option Nat):Prop :=
 (∀v,s.d v = -1\/s.h v=0->by' v=none)/\∀v,s.d v ≠ -1->s.h v≠0->∃a,by' v=some a/\Way1 g cap x p s a/\g.v a=v
def EK(by':Nat->Option Nat)(g:Gr):Nat->Nat->List Nat
 |0,_=>[]
 |k+1,v=>match by' v with
  |none=>[]
  |some a=>a::EK by' g k (g.u a)
def OU(by':Nat->Option Nat)(g:Gr):Nat->Nat->Nat
 |0,v=>v
 |k+1,v=>match by' v with
  |none=>v
  |some a=>OU by' g k (g.u a)
section
variable {g:Gr}{cap x p:Nat->Int}{s:Lb}{by':Nat->Option Nat}
theorem Ix{k v a:Nat}(h:by' v=some a):EK by' g (k+1) v=a::EK by' g k (g.u a)/\OU by' g (k+1) v=OU by' g k (g.u a):=by
 constructor
 .show(match by' v with|none=>[]|some a=>a::EK by' g k (g.u a))=_;rw[h]
 .show(match by' v with|none=>v|some a=>OU by' g k (g.u a))=_;rw[h]
theorem LM(hB:Bys g cap x p s by'):∀{k v:Nat},s.d v ≠ -1->s.h v=k->(∀a∈EK by' g k v,Way1 g cap x p s a/\s.h (g.v a)<=k)/\(EK by' g k v).Pairwise (fun a b=>s.h (g.v b)<s.h (g.v a))/\s.d (OU by' g k v) ≠ -1/\s.h (OU by' g k v)=0
 |0,v,hd,hk=>⟨(fun a h=>by cases h),List.Pairwise.nil,hd,hk⟩
 |k+1,v,hd,hk=>by
  obtain⟨a,h1,h2,h3⟩:=hB.2 v hd (by omega);obtain⟨e1,e2⟩:=Ix (g:=g) (k:=k) h1;have hh:=h2.h;rw[h3,hk]at hh;obtain⟨q1,q2,q3,q4⟩:=LM hB (k:=k) h2.du (by omega);rw[e1,e2];refine⟨fun b hb=>?_,List.Pairwise.cons (fun b hb=>?_) q2,q3,q4⟩
  .rcases qag.1 hb with rfl|hb
   .exact⟨h2,by rw[h3];omega⟩
   .exact⟨(q1 b hb).1,by have:=(q1 b hb).2;omega⟩
  .have:=(q1 b hb).2;rw[h3];omega
theorem Q4(hB:Bys g cap x p s by'){k v:Nat}(hd:s.d v ≠ -1)(hk:s.h v=k):(EK by' g k v).Pairwise (fun a b=>a / 2≠b / 2):=by
 obtain⟨q1,q2,-,-⟩:=LM hB hd hk;refine qex (R:=fun a b=>s.h (g.v b)<s.h (g.v a)) (fun{a b} ha hb hab he=>?_) q2;have wa:=(q1 a ha).1;have wb:=(q1 b hb).1;have h1:=wa.h;have h2:=wb.h
 by_cases e:a=b
 .rw[e]at hab;omega
 .have hm:a % 2≠b % 2:=by omega
  have e1:g.u a=g.v b:=by
   unfold Gr.u Gr.v;rw[he]
   split
   .rw[if_neg (by omega)]
   .rw[if_pos (by omega)]
  have e2:g.v a=g.u b:=by
   unfold Gr.u Gr.v;rw[he]
   split
   .rw[if_neg (by omega)]
   .rw[if_pos (by omega)]
  rw[e1]at h1;rw[e2]at h1 hab;omega
end
def JE(m:Int)(x:Nat->Int)(a:Nat):Nat->Int:=fun i=>if i=a / 2 then(if a % 2=0 then x i+m else x i - m)else x i
def Gs(m:Int)(x:Nat->Int)(l:List Nat):Nat->Int:=l.foldl (JE m) x
theorem SZ(g:Gr)(m:Int)(x:Nat->Int){a:Nat}(ha:a<2*g.E)(w:Nat):BP g (JE m x a) w=BP g x w+m*(one (g.v a=w) - one (g.u a=w)):=by
 have hi:a / 2<g.E:=by omega
 have h1:BP g (JE m x a) w=BQ (fun i=>(one (g.t i=w) - one (g.f i=w))*x i+one (a / 2=i)*((one (g.t i=w) - one (g.f i=w))*(if a % 2=0 then m else -m))) g.E:=CF fun i _=>by
  by_cases e:i=a / 2
  .have h1:JE m x a i=if a % 2=0 then x i+m else x i - m:=if_pos e;have h2:one (a / 2=i)=1:=if_pos e.symm;rw[h1,h2]
   by_cases hp:a % 2=0
   .rw[if_pos hp,if_pos hp,qdk,Int.one_mul]
   .rw[if_neg hp,if_neg hp,Int.mul_sub,Int.one_mul,Int.mul_neg];omega
  .have h1:JE m x a i=x i:=if_neg e;have h2:one (a / 2=i)=0:=if_neg (Ne.symm e);rw[h1,h2];omega
 rw[h1,P0,Ip (fun i=>(one (g.t i=w) - one (g.f i=w))*(if a % 2=0 then m else -m)) hi];unfold BP Ea Gr.u Gr.v
 split
 .rw[qc6 m]
 .congr 1
  rw[Int.mul_neg,<-Int.neg_mul,qc6 m];congr 1;omega
theorem OW(g:Gr)(m:Int){cap p:Nat->Int}{x0:Nat->Int}{s:Lb}{by':Nat->Option Nat}(hB:Bys g cap x0 p s by')(w:Nat):∀{k v:Nat} (x:Nat->Int),s.d v ≠ -1->s.h v=k->BP g (Gs m x (EK by' g k v)) w=BP g x w+m*(one (v=w) - one (OU by' g k v=w))
 |0,v,x,_,_=>by
  show BP g x w=BP g x w+m*(one (v=w) - one (v=w));rw[Int.sub_self];omega
 |k+1,v,x,hd,hk=>by
  obtain⟨a,h1,h2,h3⟩:=hB.2 v hd (by omega);obtain⟨e1,e2⟩:=Ix (g:=g) (k:=k) h1;have hh:=h2.h;rw[h3,hk]at hh;rw[e1,e2];show BP g (Gs m (JE m x a) (EK by' g k (g.u a))) w=_;rw[OW g m hB w (k:=k) (JE m x a) h2.du (by omega),SZ g m x h2.lt,h3,Int.add_assoc,<-qdk]
  congr 2;omega
theorem Kj{m:Int}{x:Nat->Int}:∀{l:List Nat} {i:Nat},(∀a∈l,a / 2≠i)->Gs m x l i=x i
 | [],i,_=>rfl
 |a::l,i,h=>by
  show Gs m (JE m x a) l i=_;rw[Kj (l:=l) fun b hb=>h b (qai _ hb)];exact if_neg fun e=>h a (qaj ..) e.symm
theorem YB{m:Int}:∀{l:List Nat} {x:Nat->Int} {a:Nat},l.Pairwise (fun a b=>a / 2≠b / 2)->a∈l->Gs m x l (a / 2)=if a % 2=0 then x (a / 2)+m else x (a / 2) - m
 |b::l,x,a,hp,ha=>by
  obtain⟨h1,h2⟩:=qbb.1 hp;show Gs m (JE m x b) l (a / 2)=_
  by_cases e:a=b
  .subst e;rw[Kj fun c hc=>Ne.symm (h1 c hc)];exact if_pos U
  .have ha':=(qag.1 ha).resolve_left e;rw[YB h2 ha'];have:JE m x b (a / 2)=x (a / 2):=if_neg (Ne.symm (h1 a ha'));rw[this]
def Ut(s:Lb)(D:Int)(v:Nat):Int:=if s.d v<0\/D<s.d v then D else s.d v
theorem ZV{g:Gr}{cap x p:Nat->Int}(h:Fine g cap x p){src:List Nat}{m0:Int}{s:Lb}(D:Done (Pi g cap x p) src g.N m0 s){by':Nat->Option Nat}(hB:Bys g cap x p s by'){v:Nat}(hd:s.d v ≠ -1){m:Int}(hr:∀a∈EK by' g (s.h v) v,m<=Da cap x a)(hm:0<=m:=by omega):
  Fine g cap (Gs m x (EK by' g (s.h v) v)) (fun w=>p w+Ut s (s.d v) w):=by
 obtain⟨q1,-,-,-⟩:=LM hB hd rfl;have hpe:=Q4 hB hd rfl;have hlow:=D.J.low;have hdv:=(hlow v).resolve_left hd
 have hlen:∀a,a<2*g.E->0<Da cap x a->0<=g.len p a+Ut s (s.d v) (g.u a) - Ut s (s.d v) (g.v a):=fun a ha hra=>by
  have h1:=h.fit a ha hra;have h2:=D.arc _ (Lk.2 ⟨a,ha,hra,rfl⟩);dsimp only at h2;have h3:=hlow (g.u a);have h4:=hlow (g.v a);unfold Ut
  by_cases e:s.d (g.u a) = -1
  .rw[if_pos (.inl (by omega))]
   split <;> omega
  .obtain⟨h5,h6⟩:=h2 e
   split <;> split <;> omega
 have htight:∀a∈EK by' g (s.h v) v,g.len p a+Ut s (s.d v) (g.u a) - Ut s (s.d v) (g.v a)=0:=fun a ha=>by
  -- all nodes of the way are no farther
  have hle:∀{k w:Nat},s.d w ≠ -1->s.h w=k->∀a∈EK by' g k w,s.d (g.v a)<=s.d w:=fun{k}=>by
   induction k with
   |zero=>intro w _ _ a ha;cases ha
   |succ k ih =>
    intro w hw hk a ha;obtain⟨b,h1,h2,h3⟩:=hB.2 w hw (by omega);obtain⟨e1,-⟩:=Ix (g:=g) (k:=k) h1;rw[e1]at ha;have hh:=h2.h;rw[h3,hk]at hh;have hfit:=h.fit b h2.lt h2.room;have hdd:=h2.d;rw[h3]at hdd
    rcases qag.1 ha with rfl|ha
    .rw[h3];exact qav _
    .have:=ih h2.du (by omega) a ha;omega
  have h1:=hle hd rfl a ha;have w1:=(q1 a ha).1;have h2:=(hlow (g.u a)).resolve_left w1.du;have h3:=(hlow (g.v a)).resolve_left w1.dv;have h4:=w1.d;have h5:=h.fit a w1.lt w1.room;unfold Ut;rw[if_neg (by omega),if_neg (by omega)];omega
 have hone:∀i,i<g.E->(Gs m x (EK by' g (s.h v) v) i=x i/\∀a∈EK by' g (s.h v) v,a / 2≠i)\/∃a∈EK by' g (s.h v) v,a / 2=i:=fun i _=>by
  by_cases e:∃a∈EK by' g (s.h v) v,a / 2=i
  .exact .inr e
  .have:∀a∈EK by' g (s.h v) v,a / 2≠i:=fun a ha he=>e ⟨a,ha,he⟩
   exact .inl ⟨Kj this,this⟩
 have hz:∀i,i<g.E->(∃a∈EK by' g (s.h v) v,a / 2=i)->g.co i+(p (g.f i)+Ut s (s.d v) (g.f i)) - (p (g.t i)+Ut s (s.d v) (g.t i))=0:=fun i hi ⟨a,ha,he⟩=>by
  have h1:=htight a ha;unfold Gr.len at h1
  rcases(by omega:a=2*i\/a=2*i+1)with rfl|rfl
  .obtain⟨b,c,d⟩:=Lj g i;rw[b,c,d]at h1;omega
  .obtain⟨b,c,d⟩:=Ni g i;rw[b,c,d]at h1;omega
 refine Fine.of (fun i hi=>?_) (fun i hi hx=>?_) (fun i hi hx=>?_)
 .obtain⟨h1,h2⟩:=h.in' i hi
  rcases hone i hi with⟨e,_⟩|⟨a,ha,he⟩
  .rw[e];exact⟨h1,h2⟩
  .have h3:=hr a ha;have h4:=YB (m:=m) (x:=x) hpe ha;rw[he]at h4;rw[h4];unfold Da at h3;rw[he]at h3
   split
   .rename_i e;rw[if_pos e]at h3;omega
   .rename_i e;rw[if_neg e]at h3;omega
 .rcases hone i hi with⟨e,_⟩|e
  .rw[e]at hx;have h1:=hlen (2*i) (by omega) (by unfold Da;rw[if_pos (by omega),show 2*i / 2=i by omega];omega);obtain⟨b,c,d⟩:=Lj g i;unfold Gr.len at h1;rw[b,c,d]at h1;omega
  .have:=hz i hi e;omega
 .rcases hone i hi with⟨e,_⟩|e
  .rw[e]at hx;have h1:=hlen (2*i+1) (by omega) (by unfold Da;rw[if_neg (by omega),show(2*i+1) / 2=i by omega];exact hx);obtain⟨b,c,d⟩:=Ni g i;unfold Gr.len at h1;rw[b,c,d]at h1;omega
  .have:=hz i hi e;omega
def Aer(x:Int):Int:=if 0<x then x else 0
def IE(g:Gr)(x:Nat->Int):Int:=BQ (fun v=>Aer (BP g x v)) g.N
theorem Vu{g:Gr}(hg:g.Ok){x:Nat->Int}(h:∀v,v<g.N->BP g x v<=0):∀v,v<g.N->BP g x v=0:=fun v hv=>by
 have h1:=over_all g hg x
 rcases Vt (BP g x v) 0 with h2|h2
 .have h3:=Ur (f:=fun v => -BP g x v) (k:=g.N) (j:=v) (fun i hi=>by have:=h i hi;omega) hv (by omega);rw[P5,h1]at h3;omega
 .have:=h v hv;omega
theorem ZW{g:Gr}{x x':Nat->Int}{u v:Nat}{m:Int}(hmu:m<=BP g x u)(hmv:m <= -BP g x v)(h:∀w,BP g x' w=BP g x w+m*(one (v=w) - one (u=w)))(hu:u<g.N:=by omega)(hm:0<m:=by omega):IE g x'+m<=IE g x:=by
 have hne:u≠v:=fun e=>by subst e;omega
 have h1:∀w,Aer (BP g x' w)<=Aer (BP g x w) - one (u=w)*m:=fun w=>by
  rw[h w];unfold one Aer
  by_cases e1:v=w
  .subst e1;rw[if_pos rfl,if_neg hne]
   split <;> split <;> omega
  .rw[if_neg e1]
   by_cases e2:u=w
   .subst e2;rw[if_pos rfl]
    split <;> split <;> omega
   .rw[if_neg e2]
    split <;> split <;> omega
 have h2:=Li (k:=g.N) fun w _=>h1 w;rw[LK,Ip (fun _=>m) hu]at h2;unfold IE;omega
theorem ZX(g:Gr)(x:Nat->Int):0<=IE g x:=IC fun i _=>by unfold Aer;split <;> omega
def Ll(g:Gr)(cap' x p:Nat->Int)(i:Nat):Int:=if 2*x i<cap' i/\g.co i+p (g.f i) - p (g.t i)<0 then cap' i else 2*x i
theorem Q5{g:Gr}{cap cap' x p:Nat->Int}(h:Fine g cap x p)(hc:∀i,i<g.E->2*cap i<=cap' i/\cap' i<=2*cap i+1):Fine g cap' (Ll g cap' x p) p:=by
 refine Fine.of (fun i hi=>?_) (fun i hi hx=>?_) (fun i hi hx=>?_)
 .obtain⟨h1,h2⟩:=h.in' i hi;obtain⟨h3,h4⟩:=hc i hi;unfold Ll;split <;> omega
 .unfold Ll at hx
  split at hx
  .omega
  .rename_i h5
   rcases Vt (g.co i+p (g.f i) - p (g.t i)) 0 with h6|h6
   .exact absurd ⟨hx,h6⟩ h5
   .exact h6
 .unfold Ll at hx
  split at hx
  .rename_i h5;omega
  .exact h.bwd hi (by omega)
def Jw(g:Gr)(cap' x p:Nat->Int)(k i:Nat):Int:=if i<k then Ll g cap' x p i else 2*x i
theorem Aes{g:Gr}{cap' x p:Nat->Int}{v:Nat}(h:BP g x v=0):BP g (Jw g cap' x p 0) v=0:=by
 have h1:BP g (Jw g cap' x p 0) v=BQ (fun i=>2*((one (g.t i=v) - one (g.f i=v))*x i)) g.E:=CF fun i _=>by
  unfold Jw;rw[if_neg (by omega),Int.mul_left_comm]
 rw[h1,Uq];show 2*BP g x v=0;omega
theorem Aet{g:Gr}{cap' x p:Nat->Int}{k:Nat}(v:Nat)(hk:k<g.E:=by omega):BP g (Jw g cap' x p (k+1)) v=BP g (Jw g cap' x p k) v+(Ll g cap' x p k - 2*x k)*(one (g.t k=v) - one (g.f k=v)):=by
 obtain⟨b,c,-⟩:=Lj g k;have h:=SZ g (Ll g cap' x p k - 2*x k) (Jw g cap' x p k) (a:=2*k) (by omega) v;rw[b,c]at h;rw[<-h]
 congr 1
 funext i
 have m1:∀{k:Nat},i<k->Jw g cap' x p k i=Ll g cap' x p i:=fun h=>if_pos h;have m2:∀{k:Nat},¬i<k->Jw g cap' x p k i=2*x i:=fun h=>if_neg h;unfold JE;rw[show 2*k / 2=k by omega,if_pos (show 2*k % 2=0 by omega)]
 by_cases e:i=k
 .subst e;rw[if_pos rfl,m1 (by omega),m2 (by omega)];omega
 .rw[if_neg e]
  by_cases e2:i<k
  .rw[m1 (by omega),m1 e2]
  .rw[m2 (by omega),m2 e2]
theorem Ai4{g:Gr}{cap' x p:Nat->Int}{i:Nat}(hi:i<g.E):Jw g cap' x p g.E i=Ll g cap' x p i:=if_pos hi
theorem M6{g:Gr}{x y:Nat->Int}(h:∀i,i<g.E->x i=y i)(v:Nat):BP g x v=BP g y v:=CF fun i hi=>by rw[h i hi]
theorem JF{g:Gr}{x:Nat->Int}{c:Int}(v:Nat):∀{k:Nat},(∀i,i<k->0<=x i/\x i<=c) -> -(k*c)<=Ea g x k v/\Ea g x k v<=k*c
 |0,_=>by show -(((0:Nat):Int)*c)<=0/\(0:Int)<=((0:Nat):Int)*c;omega
 |k+1,h=>by
  obtain⟨h1,h2⟩:=JF (g:=g) v (k:=k) fun i hi=>h i (by omega);obtain⟨h3,h4⟩:=h k (by omega);have e:((k+1:Nat):Int)*c=k*c+c:=by rw[qc5,Int.add_mul];simp
  show _<=Ea g x k v+(one (g.t k=v) - one (g.f k=v))*x k/\Ea g x k v+(one (g.t k=v) - one (g.f k=v))*x k<=_;rw[e];unfold one
  split <;> split <;> omega
theorem Vv{g:Gr}{cap x p:Nat->Int}(h:Fine g cap x p):Fea (((List.range (2*g.E)).filter fun a=>decide (0<Da cap x a)).map fun a=>(g.u a,g.v a,g.c a)) p:=fun b hb=>by
 rw[qah]at hb;obtain⟨a,ha,rfl⟩:=hb;rw[qbc,qaz,qam]at ha;have:=h.fit a ha.1 ha.2;unfold Gr.len at this;dsimp only;omega
theorem Aeu{g:Gr}{cap x p q:Nat->Int}(h:Fine g cap x p)(hq:Fea (((List.range (2*g.E)).filter fun a=>decide (0<Da cap x a)).map fun a=>(g.u a,g.v a,g.c a)) q):Fine g cap x q:=by
 refine⟨h.in',fun a ha hr=>?_⟩;have:=hq (g.u a,g.v a,g.c a) (qah.2 ⟨a,qbc.2 ⟨qaz.2 ha,qal hr⟩,rfl⟩);unfold Gr.len;dsimp only at this;omega
attribute [local irreducible] AN W Wq Wt
structure Ed where
 f:Int
 t:Int
 cap:Int
 cost:Int
def CJ(e:Ed):List Value:=[.int .i64 e.f,.int .i64 e.t,.int .i64 e.cap,.int .i64 e.cost]
theorem GO(e:Ed):∀v∈CJ e,AS v=true:=fun v hv=>by
 simp only[CJ,qag,qar,or_false]at hv
 rcases hv with rfl|rfl|rfl|rfl <;> rfl
def I64(x:Int):Prop := -9223372036854775808<=x/\x<=9223372036854775807
structure Ed.In(e:Ed):Prop where
 f:I64 e.f
 t:I64 e.t
 cap:I64 e.cap
 cost:I64 e.cost
def IF(N i:Int):Bool:=decide (0<=i) && decide (i<N)
def EL(N:Int)(e:Ed):Bool:=IF N e.f && (IF N e.t && (decide (0<=e.cap) && (decide (e.cap<=4503599627370496) && (decide (-1000<=e.cost) && decide (e.cost<=1000)))))
def GC(e:Ed):Nat:=e.cap.toNat*e.cost.natAbs
def Fh(es:List Ed):Nat:=(es.map GC).sum
def Cv(N:Int)(es:List Ed):Bool:=(decide (1<=N) && decide (N<=40)) && (decide (es.length<=200) && (es.all (EL N) && decide (Fh es<=4611686018427387904)))
def Dx(N:Int)(a:Option Addr)(n c:Nat):Value := .agg #[.int .i64 N,.slice a n c]
theorem YC(N:Int)(a:Option Addr)(n c:Nat)(i:Int)(w:World):Ret prog 262 #[Dx N a n c,.int .i64 i] w fun v w'=>v=.bool (IF N i)/\Ext [] w w':=by
 obtain⟨w0,rfl,H⟩:=qE w;refine A2 (fn:=f262) func262 U [Dx N a n c,.int .i64 i] U (Ad (Bu [.int .i64 N,.slice a n c] (.agg _) U U H ?_));rintro b2 w - H;refine Ai U (qA (Ad (Ae U (Cq U U (Au U (AE 7 U ?_ ?_))))))
 .intro h1;replace h1:=AJ h1;refine Ae U (Ah DW U (AG B6 U H at0 U (AZ U U (A8 U (.bool _) U (Ai U (qA (A6 (AD (v:=(.bool _)) U U U ?_))))))));exact⟨qaa Value.bool (by unfold IF;rw[qad];simp_all;try omega),H.ext⟩
 .intro h2;replace h2:=AK h2;refine Ag U (Ag U (Ag U (Ag U (AA U (.bool _) U (Ai U (qA (A6 (AD (v:=(.bool _)) U U U ?_))))))));exact⟨qaa Value.bool (by unfold IF;rw[qad];simp_all;try omega),H.ext⟩
theorem Ap6(x:Int)(w:World)(h1: -9223372036854775808<x:=by omega)(h2:x<=9223372036854775807:=by omega):Ret prog 243 #[.int .i64 x] w fun v w'=>v=.int .u64 (x.natAbs:Int)/\w=w':=by
 obtain⟨w0,rfl⟩:=qD w;refine A2 (fn:=f243) func243 U [.int .i64 x] U (Ad (Af U (qA (Ad (Ae U (Ae U (JZ U U ?_)))))));refine Jc U U ?_;rw[show max x (-x)=(x.natAbs:Int)by omega];refine E0 U Xs FD (Af U (qA (A6 (AD (v:=(.int _ _)) U U U ?_))));exact⟨rfl,rfl⟩
theorem Ai5(N:Int)(a:Option Addr)(n c:Nat)(e:Ed)(w:World):Ret prog 241 #[Dx N a n c,.agg (CJ e).toArray] w fun v w'=>v=.bool (EL N e)/\Ext [] w w':=by
 obtain⟨w0,rfl,H⟩:=qE w;refine A2 (fn:=f241) func241 U [Dx N a n c,.agg (CJ e).toArray] U (Ad (Bu [.int .i64 N,.slice a n c] (.agg _) U U H ?_));rintro b2 w - H;refine Bu (CJ e) (.agg _) U U H ?_;rintro b3 w - H;refine Ai U (qA (Ap (Ax (Ap (Ad (BV CG C2 U H at1 U (Ah EX U (AG B6 U H at0 U (Am qB (YC N a n c e.f _) U ?_)))))))));rintro v w ⟨rfl,hx9⟩;replace H:=H.call hx9;refine B1 U (Ai U (qA (Dc 5 U ?_ ?_)))
 .intro h1;replace h1:=Bv h1;refine Aq (Aa (D4 U (Ad (Ai U (qA (A6 (A5 (Al (AD (v:=(.bool _)) U U U ?_)))))))));exact⟨qaa Value.bool (by unfold EL;simp_all;try omega),H.ext⟩
 .intro h2;replace h2:=Bw h2;refine Ad (BV CG C2 U H at1 U (Ah EY U (AG B6 U H at0 U (Am qB (YC N a n c e.t _) U ?_))));rintro v w ⟨rfl,hx14⟩;replace H:=H.call hx14;refine B1 U (Ai U (qA (Dc 5 U ?_ ?_)))
  .intro h3;replace h3:=Bv h3;refine Aq (Aa (D4 U (Ad (Ai U (qA (A6 (A5 (Al (AD (v:=(.bool _)) U U U ?_)))))))));exact⟨qaa Value.bool (by unfold EL;simp_all;try omega),H.ext⟩
  .intro h4;replace h4:=Bw h4;refine Ad (Ah DX U (AG Bm U H at0 U (AZ U U (Ai U (qA (Dc 5 U ?_ ?_))))))
   .intro h5;replace h5:=AJ h5;refine Aq (Aa (D4 U (Ad (Ai U (qA (A6 (A5 (Al (AD (v:=(.bool _)) U U U ?_)))))))));exact⟨qaa Value.bool (by unfold EL;simp_all;try omega),H.ext⟩
   .intro h6;replace h6:=AK h6;refine Ad (Ah DX U (AG Bm U H at0 U (Cp U U (Ai U (qA (Dc 5 U ?_ ?_))))))
    .intro h7;replace h7:=AJ h7;refine Aq (Aa (D4 U (Ad (Ai U (qA (A6 (A5 (Al (AD (v:=(.bool _)) U U U ?_)))))))));exact⟨qaa Value.bool (by unfold EL;simp_all;try omega),H.ext⟩
    .intro h8;replace h8:=AK h8;refine Ad (Ah EZ U (AG Bm U H at0 U (AZ U U (Ai U (qA (Dc 5 U ?_ ?_))))))
     .intro h9;replace h9:=AJ h9;refine Aq (Aa (D4 U (Ad (Ai U (qA (A6 (A5 (Al (AD (v:=(.bool _)) U U U ?_)))))))));exact⟨qaa Value.bool (by unfold EL;simp_all;try omega),H.ext⟩
     .intro h10;replace h10:=AK h10;refine Ay (Ah EZ U (AG Bm U H at0 U (Cp U U (Ai U (qA (Dc 5 U ?_ ?_))))))
      .intro h11;replace h11:=AJ h11;refine Ad (Ai U (qA (A6 (A5 (Al (AD (v:=(.bool _)) U U U ?_))))));exact⟨qaa Value.bool (by unfold EL;simp_all;try omega),H.ext⟩
      .intro h12;replace h12:=AK h12;refine Aq (A7 (Aa (Ad (Ai U (qA (A6 (AD (v:=(.bool _)) U U U ?_)))))));exact⟨qaa Value.bool (by unfold EL;simp_all;try omega),H.ext⟩
theorem Aev(x y:Nat)(w:World)(hx:x<=4503599627370496:=by omega)(hy:y<=1000:=by omega):Ret prog 242 #[.int .u64 (x:Int),.int .u64 (y:Int)] w fun v w'=>v=.tuple #[.int .u64 0,.int .u64 ((x*y:Nat):Int)]/\w=w':=by
 obtain⟨w0,rfl⟩:=qD w;have hm:∀z:Nat,z &&& 4294967295=z % 4294967296:=fun z=>Nat.and_two_pow_sub_one_eq_mod z 32;obtain⟨x0,hx0⟩:=qD (x % 4294967296);obtain⟨x1,hx1⟩:=qD (x / 4294967296);have hp0:x0*y<=4294967296*1000:=qeh (by omega) hy;have hp1:x1*y<=1048576*1000:=qeh (by omega) hy;have hxy:x*y<=4503599627370496*1000:=qeh hx hy;refine A2 (fn:=f242) func242 U [.int .u64 (x:Int),.int .u64 (y:Int)] U (Ad (Af U (Af U (qA (Ad (Ae U (Kc (b:=4294967295) U U U ?_)))))));rw[hm,<-hx0];refine Af U (qA (Ad (Ae U (FS (n:=32) U U ?_))));rw[show x / 2 ^ 32=x1 from hx1.symm];refine Af U (qA (Ad (Ae U (Kc (b:=4294967295) U U U ?_))));rw[hm,show y % 4294967296=y by omega]
 refine Af U (qA (Ad (Ae U (FS (n:=32) U U ?_))));rw[show y / 2 ^ 32=0 by omega];refine Af U (qA (Ad (Ae U (Ae U (I8 U U U (qc7 (by omega) (by omega)) (by rw[<-qdm];omega) ?_)))));rw[<-qdm];refine Af U (qA (Ad (Ae U (Ae U (I8 U U U (qc7 (by omega) (by omega)) (by rw[<-qdm];omega) ?_)))));rw[<-qdm];refine Ae U (FS (n:=32) U U ?_);refine EE U U ?_;rw[<-qc5];refine Af U (qA (Ad (Ae U (Kc (b:=4294967295) U U U ?_))));rw[hm];refine Af U (qA (Ad (Ae U (FS (n:=32) U U ?_))));rw[show(x1*y+x0*y / 2 ^ 32) / 2 ^ 32=0 by omega]
 refine Af U (qA (Ad (Ae U (Ae U (Ae U (I8 U U U (by show(0:Int)<=(x0:Int)*((0:Nat):Int);omega) (by show(x0:Int)*((0:Nat):Int)<=_;omega) ?_))))));rw[show(x0:Int)*((0:Nat):Int)=0 by omega];refine EE U U ?_;rw[show((((x1*y+x0*y / 2 ^ 32) % 4294967296:Nat):Int)+0)=(((x1*y+x0*y / 2 ^ 32) % 4294967296:Nat):Int)by omega];refine Af U (qA (Ad (Ae U (Ae U (I8 U U U (by show(0:Int)<=(x1:Int)*((0:Nat):Int);omega) (by show(x1:Int)*((0:Nat):Int)<=_;omega) ?_)))));rw[show(x1:Int)*((0:Nat):Int)=0 by omega];refine Ae U (EE U U ?_);refine Ae U (FS (n:=32) U U ?_);rw[show(x1*y+x0*y / 2 ^ 32) % 4294967296 / 2 ^ 32=0 by omega];refine EE U U (Af U (qA (Ad (Ae U (Ae U (I8 U U U (qc7 (by omega) (by omega)) (by rw[<-qdm];omega) ?_))))))
 rw[<-qdm];refine Af U (qA (A6 (BG (v1:=(.int _ _)) (v2:=(.int _ _)) U U U U ?_)));exact⟨rfl,rfl⟩
theorem Q6{es:List Ed}{i:Nat}{e:Ed}(h:es[i]?=some e):Fh (es.take (i+1))=Fh (es.take i)+GC e:=by
 unfold Fh;rw[CP h,qax,List.sum_append];simp
theorem Q7(es:List Ed)(i:Nat):Fh (es.take i)<=Fh es:=by
 unfold Fh;have h:(es.map GC).sum=((es.take i).map GC).sum+((es.drop i).map GC).sum:=by rw[<-List.sum_append,<-qax,qbn]
 omega
theorem Em{N:Int}{e:Ed}(h:EL N e=true):0<=e.f/\e.f<N/\0<=e.t/\e.t<N/\0<=e.cap/\e.cap<=4503599627370496 /\ -1000<=e.cost/\e.cost<=1000:=by
 unfold EL IF at h;simp only[qae,qam]at h;omega
theorem Dw{α:Type}{p:α->Bool}{l:List α}{i:Nat}{x:α}(h:l[i]?=some x)(hp:p x=false):l.all p=false:=by
 rw[List.all_eq_false];exact⟨x,qac h,by rw[hp];simp⟩
theorem Eb{α:Type}{p:α->Bool}{l:List α}(h:∀k x,k<l.length->l[k]?=some x->p x=true):l.all p=true:=by
 rw[qas];intro x hx;obtain⟨k,hk⟩:=qdj hx;exact h k x (qbh.1 hk).1 hk
theorem Nj(N:Int)(a:Option Addr)(n c:Nat)(es:List Ed)(w:World)(R:Rd w a 4 CJ es)(hn:es.length=n)(_:I64 N):Ret prog 209 #[Dx N a n c] w fun v w'=>v=.bool (Cv N es)/\Ext [] w w':=by
 subst hn;obtain⟨w0,rfl,H⟩:=qE w;refine A2 (fn:=f209) func209 U [Dx N a es.length c] U (Ad (Bu [.int .i64 N,.slice a es.length c] (.agg _) U U H ?_));rintro b1 w - H;refine Ai U (qA (Ap (Ad (B9 (α:=Unit) 4194048 (fun _=>[(21,.bool (!((decide (1<=N) && decide (N<=40)) && decide (es.length<=200))))]) (fun _ w'=>Ctx w0 [] w' [(b1,Bl 51 [.int .i64 N,.slice a es.length c])]) U ?_ ?_))))
 .refine Ah DW U (AG B6 U H at0 U (AZ U U (Au U (AE 11 U ?_ ?_))))
  .intro h1;replace h1:=AJ h1;refine Ag U (Ag U (Ag U (A8 U (.bool _) U (Au U (Ag U (Ag U (Ag U (Ag U (A8 U (.bool _) U ?_)))))))));refine Ab ?_;exact⟨rfl,(),rfl,⟨qaa Value.bool (by rw[qad];simp_all;try omega),trivial⟩,H⟩
  .intro h2;replace h2:=AK h2;refine Ah DW U (AG B6 U H at0 U (Cp U U (AA U (.bool _) U (Au U (AE 16 U ?_ ?_)))))
   .intro h3;replace h3:=AJ h3;refine Ag U (Ag U (Ag U (Ag U (A8 U (.bool _) U (Ab ?_)))));exact⟨rfl,(),rfl,⟨qaa Value.bool (by rw[qad];simp_all;try omega),trivial⟩,H⟩
   .intro h4;replace h4:=AK h4;refine Ah C8 U (AG DO U H at0 U (AU CU U (Cp U U (AA U (.bool _) U (Ab ?_)))));exact⟨rfl,(),rfl,⟨qaa Value.bool (by rw[qad];simp_all;try omega),trivial⟩,H⟩
 rintro - j21 w H;refine Av _ U ?_ ?_
 .intro h1;replace h1:=Bv h1;refine Ad (Ai U (qA (A6 (Al (AD (v:=(.bool _)) U U U ?_)))));exact⟨qaa Value.bool (by unfold Cv;rw[<-qdd,show((decide (1<=N) && decide (N<=40)) && decide (es.length<=200))=false by simpa using h1];rfl),H.ext⟩
 .intro h1;replace h1:=Bw h1;have h1':((decide (1<=N) && decide (N<=40)) && decide (es.length<=200))=true:=by simpa using h1
  have hrN:Cv N es=(es.all (EL N) && decide (Fh es<=4611686018427387904)):=by unfold Cv;rw[<-qdd,h1'];rfl
  have hn2:es.length<=200:=by simp only[qae,qam]at h1';omega
  refine Aq (Aa (Ad (Af U (qA (Ap (Ad (Ah C8 U (AG DO U H at0 U (AU CU U (Ae U ?_))))))))));refine qA (Ax (Bn 18014398475927788 (α:=Nat) (fun i=>[(25,.int .i64 (i:Int)),(3,.int .u64 ((4611686018427387904 - Fh (es.take i):Nat):Int))]) (fun i w'=>i<=es.length/\Ctx w0 [] w' [(b1,Bl 51 [.int .i64 N,.slice a es.length c])]/\Fh (es.take i)<=4611686018427387904/\∀(k:Nat) (e:Ed),k<i->es[k]?=some e->EL N e=true) (fun i=>es.length - i) 0 U ?_ ?_ ?_))
  .exact⟨rfl,rfl,trivial⟩
  .exact⟨qaf _,H,qaf _,fun k e h=>absurd h (qaw _)⟩
  .rintro i j w ⟨hi,H,hpr,hb⟩;refine Ad (AZ U U (qA (Ap (Av _ U ?_ ?_))))
   .intro h2;replace h2:=AJ h2;obtain⟨e,he⟩:=AB (l:=es) (i:=i);have hps:=Q6 he;have hpt:=Q7 es (i+1);refine Aq (Aa (Ap (Ax (Ad (AM R CU CW U U (by rfl) ?_)))));refine Ca _ Je CW U U ((R.ext0 H.ext).row he U) (AX GY H ?_);rintro b5 w - H;refine Bi CW U U U (by exact GO _) H at0 U ?_;rintro w H;refine qA (Ap (Ad (BV CG C2 U H at1 U (BV Je CW U H at0 U (Am qB (Ai5 N a es.length c e _) U ?_)))));rintro v w ⟨rfl,hx31⟩;replace H:=H.call hx31;refine B1 U (qA (Av _ U ?_ ?_))
    .intro h3;replace h3:=Bv h3;refine Ad (Ai U (qA (A6 (Al (A5 (Al (Al (A5 (Al (AD (v:=(.bool _)) U U U ?_))))))))));exact⟨qaa Value.bool (by rw[hrN,Dw he (by simpa using h3)];rfl),H.ext⟩
    .intro h3;replace h3:=Bw h3;have h3':EL N e=true:=by simpa using h3
     obtain⟨-,-,-,-,q1,q2,q3,q4⟩:=Em h3';obtain⟨cp,hcp⟩:∃cp:Nat,e.cap=(cp:Int):=⟨e.cap.toNat,by omega⟩;have hpe:GC e=cp*e.cost.natAbs:=by unfold GC;rw[hcp,qa7]
     have hpm:cp*e.cost.natAbs<=4503599627370496*1000:=qeh (by omega) (by omega);obtain⟨w5,rfl⟩:=qD w;have hb5:=H.get at0;have hk5:∀{z:World},Ext [] w5 z->z.heap[b5]?=some (Bl 59 (CJ e)):=fun{z} h=>by rw[h.block b5 (Bf hb5) (by simp)];exact hb5
     have hD:=Ext.drew [] w5;refine Aq (Aa (C1 [([0,1,2,3,4],5),([],6),([7,8,9,10],11)] (fun z=>Ext [] w5 z) [] Bs (hD) ?_));refine AO U U ?_;refine A1 DX U (B5 Bm U (fun _ hx=>(by rw[An (hk5 hx)];rfl)) ?_);rw[hcp];refine WQ U U Xs FD ?_;refine A1 EZ U (B5 Bm U (fun _ hx=>(by rw[An (hk5 hx)];rfl)) ?_);refine Bb ?_;replace H:=H.drew;refine Am qB (Ap6 e.cost _) U ?_;rintro v w ⟨rfl,rfl⟩;refine Ab (BR (hD) (AO U U ?_));refine Bb (Am qB (Aev cp e.cost.natAbs _) U ?_);rintro v w ⟨rfl,rfl⟩;refine Ab (BR (hD) (AO U U ?_));refine Ek U (B7 U U (B7 U U (LD U U (Bb (Af U (Ab (BR (hD) (BK (Ap (Ad ?_))))))))));refine Ae U (C0 U U (Au U (Ae U (Ae U (Cp U U (AA U (.bool _) U (qA (Av _ U ?_ ?_))))))))
     .intro h4;replace h4:=AJ h4;refine Ad (Ai U (qA (A6 (Al (A5 (Al (Al (A5 (Al (AD (v:=(.bool _)) U U U ?_))))))))));exact⟨qaa Value.bool (by rw[hrN,qay (show ¬Fh es<=4611686018427387904 by omega),qcn]),H.ext⟩
     .intro h4;replace h4:=AK h4;refine Aq (Aa (Ay (Ae U (Ae U (Mv U U U ?_)))));refine Af U (Ab (A7 (Aa (Ay (Aw U U ?_)))));refine Ae U (qA ?_);refine⟨i+1,rfl,⟨rfl,qaa (Value.int .u64) (by rw[hps,hpe];omega),trivial⟩,⟨by omega,H.tail,by rw[hps,hpe];omega,fun k y hk hy=>?_⟩,by omega⟩
      rcases qap k i with h7|h7
      .exact hb k y h7 hy
      .obtain rfl:k=i:=by omega
       rw[he]at hy;cases hy;exact h3'
   .intro h2;replace h2:=AK h2;refine Be (Aj (Aj (AH (Aa (Ad (Ai U (qA (A6 (AD (v:=(.bool _)) U U U ?_)))))))));rw[qcf (by omega)]at hpr;exact⟨qaa Value.bool (by rw[hrN,Eb fun k x hk hx=>hb k x (by omega) hx,qal hpr];rfl),H.ext⟩
def CQ(x:Int):Value := .int .i64 x
abbrev I1(x:Int):List Value:=[.int .i64 x]
def inB(e:Ed)(x:Int):Bool:=decide (0<=x) && decide (x<=e.cap)
def Cf(N:Int)(es:List Ed)(fl:List Int):Bool:=(decide (fl.length=es.length) && Cv N es) && (List.zipWith inB es fl).all id
theorem M8{es:List Ed}{fl:List Int}{i:Nat}{e:Ed}{x:Int}(he:es[i]?=some e)(hx:fl[i]?=some x):(List.zipWith inB es fl)[i]?=some (inB e x):=by
 rw[qcw,he,hx]
theorem LN(N:Int)(a b:Option Addr)(n c m d:Nat)(es:List Ed)(fl:List Int)(w:World)(R:Rd w a 4 CJ es)(hn:es.length=n)(hN:I64 N)(Rf:Rd w b 1 I1 fl)(hm:fl.length=m)(hm2:m<=9223372036854775000) :
  Ret prog 251 #[Dx N a n c,.slice b m d] w fun v w'=>v=.bool (Cf N es fl)/\Ext [] w w':=by
 subst hn hm;obtain⟨w0,rfl,H⟩:=qE w;refine A2 (fn:=f251) func251 U [Dx N a es.length c,.slice b fl.length d] U (Ad (Bu [.int .i64 N,.slice a es.length c] (.agg _) U U H ?_));rintro b2 w - H;refine Ai U (qA (Ap (Ad (B9 (α:=Unit) 262016 (fun _=>[(17,.bool (!(decide (fl.length=es.length) && Cv N es)))]) (fun _ w'=>Ctx w0 [] w' [(b2,Bl 51 [.int .i64 N,.slice a es.length c])]) U ?_ ?_))))
 .refine Ao U (AU AR U (Ah C8 U (AG DO U H at0 U (AU CU U (C0 U U (Au U (AE 13 U ?_ ?_)))))))
  .intro h1;replace h1:=CC h1;refine Ag U (Ag U (Ag U (A8 U (.bool _) U (Ab ?_))));exact⟨rfl,(),rfl,⟨qaa Value.bool (by rw[qad];simp_all;try omega),trivial⟩,H⟩
  .intro h2;replace h2:=CD h2;refine BV CG C2 U H at0 U (Am qB (Nj N a es.length c es _ (R.ext0 H.ext) U hN) U ?_);rintro v w ⟨rfl,hx15⟩;replace H:=H.call hx15;refine B1 U (AA U (.bool _) U (Ab ?_));exact⟨rfl,(),rfl,⟨qaa Value.bool (by rw[qad];simp_all;try omega),trivial⟩,H⟩
 rintro - j17 w H;refine Av _ U ?_ ?_
 .intro h1;replace h1:=Bv h1;refine Ad (Ai U (qA (A6 (Al (AD (v:=(.bool _)) U U U ?_)))));exact⟨qaa Value.bool (by unfold Cf;rw[show(decide (fl.length=es.length) && Cv N es)=false by simpa using h1];rfl),H.ext⟩
 .intro h1;replace h1:=Bw h1;have h1':(decide (fl.length=es.length) && Cv N es)=true:=by simpa using h1
  have hw:Cf N es fl=(List.zipWith inB es fl).all id:=by unfold Cf;rw[h1'];rfl
  have hle:fl.length=es.length:=by simp only[qae,qam]at h1';exact h1'.1
  refine Aq (Aa (Ap (Ad (Ao U (AU AR U (Ae U (qA (Ax (Bn 274876858480 (α:=Nat) (fun i=>[(20,.int .i64 (i:Int))]) (fun i w'=>i<=fl.length/\Ctx w0 [] w' [(b2,Bl 51 [.int .i64 N,.slice a es.length c])]/\∀(k:Nat) (e:Ed) (x:Int),k<i->es[k]?=some e->fl[k]?=some x->inB e x=true) (fun i=>fl.length - i) 0 U ?_ ?_ ?_)))))))))
  .exact⟨rfl,trivial⟩
  .exact⟨qaf _,H,fun k e x h=>absurd h (qaw _)⟩
  .rintro i j w ⟨hi,H,hb⟩;refine Ad (AZ U U (qA (Ap (Av _ U ?_ ?_))))
   .intro h2;replace h2:=AJ h2;obtain⟨e,he⟩:=AB (l:=es) (i:=i);obtain⟨x,hx⟩:=AB (l:=fl) (i:=i);refine Aq (Aa (Ap (Ax (Ad (Ae U (AM Rf AR Bt U U (by rfl) ?_))))));refine Ba Bm U (((Rf.ext0 H.ext).fld hx U (j:=0) U)) ?_;refine Af U (Af U (qA (Ad (B9 (α:=Unit) 137405399040 (fun _=>[(36,.bool (!inB e x))]) (fun _ w'=>Ctx w0 [] w' [(b2,Bl 51 [.int .i64 N,.slice a es.length c])]) U ?_ ?_))))
    .refine Ae U (AZ U U (Au U (AE 27 U ?_ ?_)))
     .intro h3;replace h3:=AJ h3;refine Ag U (Ag U (Ag U (Ag U (Ag U (Ag U (Ag U (Ag U (A8 U (.bool _) U (Ab ?_)))))))));exact⟨rfl,(),rfl,⟨qaa Value.bool (by unfold inB;rw[qad];simp_all;try omega),trivial⟩,H⟩
     .intro h4;replace h4:=AK h4;refine Ae U (Ah C8 U (AG DO U H at0 U (Ae U (AM R CU CW U U (by rfl) ?_))));refine Ah DX U (Ba Bm U (((R.ext0 H.ext).fld he U (j:=2) U)) ?_);refine Cp U U (AA U (.bool _) U (Ab ?_));exact⟨rfl,(),rfl,⟨qaa Value.bool (by unfold inB;rw[qad];simp_all;try omega),trivial⟩,H⟩
    rintro - j36 w H;refine Av _ U ?_ ?_
    .intro h3;replace h3:=Bv h3;refine Ad (Ai U (qA (A6 (A5 (Al (Al (A5 (Al (AD (v:=(.bool _)) U U U ?_)))))))));exact⟨qaa Value.bool (by rw[hw,Dw (M8 he hx) (show id (inB e x)=false by simpa using h3)]),H.ext⟩
    .intro h3;replace h3:=Bw h3;refine Aq (A7 (Aa (Ay (Aw U U ?_))));refine Ae U (qA ?_);refine⟨i+1,rfl,⟨rfl,trivial⟩,⟨by omega,H,fun k f y hk hf hy=>?_⟩,by omega⟩
     rcases qap k i with h7|h7
     .exact hb k f y h7 hf hy
     .obtain rfl:k=i:=by omega
      rw[he]at hf;rw[hx]at hy;cases hf;cases hy
      simpa using h3
   .intro h2;replace h2:=AK h2;refine Be (Aj (Aj (AH (Aa (Ad (Ai U (qA (A6 (AD (v:=(.bool _)) U U U ?_)))))))));refine⟨qaa Value.bool ?_,H.ext⟩;rw[hw,Eb fun k x hk hx=>?_];rw[qck]at hk;obtain⟨e,he⟩:=AB (l:=es) (i:=k);obtain⟨y,hy⟩:=AB (l:=fl) (i:=k);rw[M8 he hy]at hx;cases hx;exact hb k e y (by omega) he hy
theorem Cw{N:Int}{es:List Ed}{fl:List Int}(h:Cf N es fl=true):fl.length=es.length/\Cv N es=true/\∀(i:Nat) (e:Ed) (x:Int),es[i]?=some e->fl[i]?=some x->0<=x/\x<=e.cap:=by
 unfold Cf at h;simp only[qae,qam,qas]at h;refine⟨h.1.1,h.1.2,fun i e x he hx=>?_⟩;have:=h.2 _ (qac (M8 he hx));unfold inB at this
 simpa using this
theorem CB{N:Int}{es:List Ed}(h:Cv N es=true):1<=N/\N<=40/\es.length<=200/\(∀e∈es,EL N e=true)/\Fh es<=4611686018427387904:=by
 unfold Cv at h;simp only[qae,qam,qas]at h;exact⟨h.1.1,h.1.2,h.2.1,h.2.2.1,h.2.2.2⟩
def JG(es:List Ed)(a:Int):Bool:=decide (0<=a) && decide (a<2*es.length)
theorem Aew(N:Int)(a:Option Addr)(n c:Nat)(es:List Ed)(hn:es.length=n)(hb:n<=1000000)(k:Int)(w:World):Ret prog 272 #[Dx N a n c,.int .i64 k] w fun v w'=>v=.bool (JG es k)/\Ext [] w w':=by
 subst hn;obtain⟨w0,rfl,H⟩:=qE w;refine A2 (fn:=f272) func272 U [Dx N a es.length c,.int .i64 k] U (Ad (Bu [.int .i64 N,.slice a es.length c] (.agg _) U U H ?_));rintro b2 w - H;refine Ai U (qA (Ad (Ae U (Cq U U (Au U (AE 7 U ?_ ?_))))))
 .intro h1;replace h1:=AJ h1;refine Ae U (Ah C8 U (AG DO U H at0 U (AU CU U (D8 U U ?_))));refine AZ U U (A8 U (.bool _) U (Ai U (qA (A6 (AD (v:=(.bool _)) U U U ?_)))));exact⟨qaa Value.bool (by unfold JG;rw[qad];simp_all;try omega),H.ext⟩
 .intro h2;replace h2:=AK h2;refine Ag U (Ag U (Ag U (Ag U (Ag U (Ag U (AA U (.bool _) U (Ai U (qA (A6 (AD (v:=(.bool _)) U U U ?_))))))))));exact⟨qaa Value.bool (by unfold JG;rw[qad];simp_all;try omega),H.ext⟩
theorem YD(k:Nat)(w:World)(hk:k<9223372036854775808:=by omega):Ret prog 283 #[.int .i64 (k:Int)] w fun v w'=>v=.bool (decide (k % 2=1))/\w=w':=by
 obtain⟨w0,rfl⟩:=qD w;refine A2 (fn:=f283) func283 U [.int .i64 (k:Int)] U (Ad (Ai U (qA (Ad (Ae U (Qg (b:=1) U U U (by omega) (by omega) ?_))))));rw[Nat.and_one_is_mod];refine Cj U U (Ai U (qA (A6 (AD (v:=(.bool _)) U U U ?_))));exact⟨qaa Value.bool (by rw[qad];simp;omega),rfl⟩
def Gt(e:Ed)(k:Nat):Int × Int × Int:=if k % 2=1 then(e.t,e.f,-e.cost)else(e.f,e.t,e.cost)
theorem Ai6(N:Int)(a:Option Addr)(n c:Nat)(es:List Ed)(w:World)(R:Rd w a 4 CJ es)(hn:es.length=n)(hb:n<=1000000)(k:Nat){e:Ed}(he:es[k / 2]?=some e)(hc: -9223372036854775808<e.cost/\e.cost<=9223372036854775807:=by omega):Ret prog 276 #[Dx N a n c,.int .i64 (k:Int)] w fun v w'=>v=.tuple #[.int .i64 (Gt e k).1,.int .i64 (Gt e k).2.1,.int .i64 (Gt e k).2.2]/\Ext [] w w':=by
 subst hn;obtain⟨w0,rfl,H⟩:=qE w;have hk:=Cb he;refine A2 (fn:=f276) func276 U [Dx N a es.length c,.int .i64 (k:Int)] U (Ad (Bu [.int .i64 N,.slice a es.length c] (.agg _) U U H ?_));rintro b2 w - H;refine Af U (Af U (Af U (qA (Ad (Ah C8 U (AG DO U H at0 U (Ae U (Kd (n:=1) U U U ?_))))))));rw[show k / 2 ^ 1=k / 2 from rfl];refine AM R CU CW U U (by rfl) (Ca _ Je CW U U ((R.ext0 H.ext).row he U) ?_);refine AX GY H ?_;rintro b7 w - H;refine Bi CW U U U (by exact GO _) H at0 U ?_;rintro w H;refine qA (Ap (Ad (Ae U (Am qB (YD k _) U ?_))));rintro v w ⟨rfl,rfl⟩;refine qA (Av _ U ?_ ?_)
 .intro h1;refine CN (fun x=>x=_) Bs U (A3 EY U (BS B6 U (by rintro _ rfl;exact H.drew) at0 U ?_));refine A3 EX U (BS B6 U (by rintro _ rfl;exact H.drew) at0 U ?_);refine A3 EZ U (BS Bm U (by rintro _ rfl;exact H.drew) at0 U ?_);refine SH U U (C6 U (C6 U (C6 U (BM ?_))));rintro _ rfl;replace H:=H.drew;refine A6 (Al (KP (v1:=(.int _ _)) (v2:=(.int _ _)) (v3:=(.int _ _)) U U U U U ?_));exact⟨by unfold Gt;rw[if_pos (qbd h1)],H.ext⟩
 .intro h1;refine Aq (Aa (CN (fun x=>x=_) Bs U ?_));refine A3 EX U (BS B6 U (by rintro _ rfl;exact H.drew) at0 U ?_);refine A3 EY U (BS B6 U (by rintro _ rfl;exact H.drew) at0 U ?_);refine A3 EZ U (BS Bm U (by rintro _ rfl;exact H.drew) at0 U ?_);refine C6 U (C6 U (C6 U (BM ?_)));rintro _ rfl;replace H:=H.drew;refine A6 (KP (v1:=(.int _ _)) (v2:=(.int _ _)) (v3:=(.int _ _)) U U U U U ?_);exact⟨by unfold Gt;rw[if_neg (qbk h1)],H.ext⟩
def GD(N:Int)(es:List Ed)(k:Int):Int × Int × Int:=if(JG es k && Cv N es)=true then Gt (es.getD (k.toNat / 2) ⟨0,0,0,0⟩) k.toNat else(0,0,0)
theorem Uu(N:Int)(a:Option Addr)(n c:Nat)(es:List Ed)(w:World)(R:Rd w a 4 CJ es)(hn:es.length=n)(hN:I64 N)(k:Int)(hb:n<=1000000:=by omega):Ret prog 253 #[Dx N a n c,.int .i64 k] w fun v w'=>v=.tuple #[.int .i64 (GD N es k).1,.int .i64 (GD N es k).2.1,.int .i64 (GD N es k).2.2]/\Ext [] w w':=by
 subst hn;obtain⟨w0,rfl,H⟩:=qE w;refine A2 (fn:=f253) func253 U [Dx N a es.length c,.int .i64 k] U (Ad (Bu [.int .i64 N,.slice a es.length c] (.agg _) U U H ?_));rintro b2 w - H;refine Af U (Af U (Af U (qA (Ap (Ad (B9 (α:=Unit) 65408 (fun _=>[(15,.bool (!(JG es k && Cv N es)))]) (fun _ w'=>Ctx w0 [] w' [(b2,Bl 51 [.int .i64 N,.slice a es.length c])]) U ?_ ?_))))))
 .refine BV CG C2 U H at0 U (Ae U (Am qB (Aew N a es.length c es U hb k _) U ?_));rintro v w ⟨rfl,hx9⟩;replace H:=H.call hx9;refine B1 U (Au U (AE 11 U ?_ ?_))
  .intro h1;replace h1:=Bv h1;refine Ag U (Ag U (Ag U (A8 U (.bool _) U (Ab ?_))));exact⟨rfl,(),rfl,⟨qaa Value.bool (by rw[qad];simp_all),trivial⟩,H⟩
  .intro h2;replace h2:=Bw h2;refine BV CG C2 U H at0 U (Am qB (Nj N a es.length c es _ (R.ext0 H.ext) U hN) U ?_);rintro v w ⟨rfl,hx13⟩;replace H:=H.call hx13;refine B1 U (AA U (.bool _) U (Ab ?_));exact⟨rfl,(),rfl,⟨qaa Value.bool (by rw[qad];simp_all),trivial⟩,H⟩
 rintro - j15 w H;refine Av _ U ?_ ?_
 .intro h1;replace h1:=Bv h1;refine Ad (Af U (Af U (Af U (qA (A6 (Al (KP (v1:=(.int _ _)) (v2:=(.int _ _)) (v3:=(.int _ _)) U U U U U ?_)))))));exact⟨by unfold GD;rw[if_neg (by rw[show(JG es k && Cv N es)=false by simpa using h1];simp)],H.ext⟩
 .intro h1;replace h1:=Bw h1;have h1':(JG es k && Cv N es)=true:=by simpa using h1
  have hk:0<=k/\k<2*es.length:=by
   simp only[qae]at h1';have:=h1'.1;unfold JG at this
   simpa using this
  obtain⟨q,rfl⟩:∃q:Nat,k=(q:Int):=⟨k.toNat,by omega⟩;obtain⟨e,he⟩:=AB (l:=es) (i:=q / 2);have hee:=(CB (Bool.and_eq_true_iff.1 h1').2).2.2.2.1 e (qac he);have hco:=Em hee;have hE:GD N es (q:Int)=Gt e q:=by unfold GD;rw[if_pos h1',qa7,qby,he];rfl
  rw[hE];refine Aq (Aa (Ad (BV CG C2 U H at0 U (Ae U (Am qB (Ai6 N a es.length c es _ (R.ext0 H.ext) U hb q he) U ?_)))));rintro v w ⟨rfl,hx18⟩;replace H:=H.call hx18;refine AF U U (AF U U (AF U U (Af U (Af U (Af U (qA (A6 (KP (v1:=(.int _ _)) (v2:=(.int _ _)) (v3:=(.int _ _)) U U U U U ?_))))))));exact⟨rfl,H.ext⟩
def Ln(e:Ed)(x:Int)(k:Nat):Int:=if k % 2=1 then x else e.cap - x
theorem Ai7(N:Int)(a b:Option Addr)(n c m d:Nat)(es:List Ed)(fl:List Int)(w:World)(R:Rd w a 4 CJ es)(hn:es.length=n)(hb:n<=1000000)(Rf:Rd w b 1 I1 fl)(hm:fl.length=m)(k:Nat){e:Ed}{x:Int}(he:es[k / 2]?=some e)(hx:fl[k / 2]?=some x)(hr: -9223372036854775808<=e.cap - x/\e.cap - x<=9223372036854775807:=by omega):
  Ret prog 273 #[Dx N a n c,.slice b m d,.int .i64 (k:Int)] w fun v w'=>v=.int .i64 (Ln e x k)/\Ext [] w w':=by
 subst hn hm;obtain⟨w0,rfl,H⟩:=qE w;have hk:=Cb he;have hkx:=Cb hx;refine A2 (fn:=f273) func273 U [Dx N a es.length c,.slice b fl.length d,.int .i64 (k:Int)] U (Ad (Bu [.int .i64 N,.slice a es.length c] (.agg _) U U H ?_));rintro b3 w - H;refine Af U (qA (Ad (Ao U (Ae U (Kd (n:=1) U U U ?_)))));rw[show k / 2 ^ 1=k / 2 from rfl];refine AM Rf AR Bt U U (by rfl) (Ba Bm U (((Rf.ext0 H.ext).fld hx U (j:=0) U)) ?_);refine Af U (qA (Ap (Ad (Ae U (Am qB (YD k _) U ?_)))));rintro v w ⟨rfl,rfl⟩;refine qA (Av _ U ?_ ?_)
 .intro h1;refine Ad (Ae U (Af U (qA (A6 (Al (AD (v:=(.int _ _)) U U U ?_))))));exact⟨by unfold Ln;rw[if_pos (qbd h1)],H.ext⟩
 .intro h1;refine Aq (Aa (Ad (Ah C8 U (AG DO U H at0 U (Ae U (Kd (n:=1) U U U ?_))))));rw[show k / 2 ^ 1=k / 2 from rfl];refine AM R CU CW U U (by rfl) (Ah DX U (Ba Bm U (((R.ext0 H.ext).fld he U (j:=2) U)) ?_));refine Ae U (B3 U U ?_);refine Af U (qA (A6 (AD (v:=(.int _ _)) U U U ?_)));exact⟨by unfold Ln;rw[if_neg (qbk h1)],H.ext⟩
def Mk(N:Int)(es:List Ed)(fl:List Int)(k:Int):Int:=if(JG es k && Cf N es fl)=true then Ln (es.getD (k.toNat / 2) ⟨0,0,0,0⟩) (fl.getD (k.toNat / 2) 0) k.toNat else 0
theorem Uv(N:Int)(a b:Option Addr)(n c m d:Nat)(es:List Ed)(fl:List Int)(w:World)(R:Rd w a 4 CJ es)(hn:es.length=n)(hN:I64 N)(Rf:Rd w b 1 I1 fl)(hm:fl.length=m)(k:Int)(hb:n<=1000000:=by omega)(hm2:m<=9223372036854775000:=by omega):Ret prog 248 #[Dx N a n c,.slice b m d,.int .i64 k] w fun v w'=>v=.int .i64 (Mk N es fl k)/\Ext [] w w':=by
 subst hn hm;obtain⟨w0,rfl,H⟩:=qE w;refine A2 (fn:=f248) func248 U [Dx N a es.length c,.slice b fl.length d,.int .i64 k] U (Ad (Bu [.int .i64 N,.slice a es.length c] (.agg _) U U H ?_));rintro b3 w - H;refine Af U (qA (Ap (Ad (B9 (α:=Unit) 130944 (fun _=>[(16,.bool (!(JG es k && Cf N es fl)))]) (fun _ w'=>Ctx w0 [] w' [(b3,Bl 51 [.int .i64 N,.slice a es.length c])]) U ?_ ?_))))
 .refine BV CG C2 U H at0 U (Ae U (Am qB (Aew N a es.length c es U hb k _) U ?_));rintro v w ⟨rfl,hx9⟩;replace H:=H.call hx9;refine B1 U (Au U (AE 11 U ?_ ?_))
  .intro h1;replace h1:=Bv h1;refine Ag U (Ag U (Ag U (Ag U (A8 U (.bool _) U (Ab ?_)))));exact⟨rfl,(),rfl,⟨qaa Value.bool (by rw[qad];simp_all),trivial⟩,H⟩
  .intro h2;replace h2:=Bw h2;refine BV CG C2 U H at0 U (Ao U (Am qB (LN N a b es.length c fl.length d es fl _ (R.ext0 H.ext) U hN (Rf.ext0 H.ext) U hm2) U ?_));rintro v w ⟨rfl,hx14⟩;replace H:=H.call hx14;refine B1 U (AA U (.bool _) U (Ab ?_));exact⟨rfl,(),rfl,⟨qaa Value.bool (by rw[qad];simp_all),trivial⟩,H⟩
 rintro - j16 w H;refine Av _ U ?_ ?_
 .intro h1;replace h1:=Bv h1;refine Ad (Af U (qA (A6 (Al (AD (v:=(.int _ _)) U U U ?_)))));exact⟨by unfold Mk;rw[if_neg (by rw[show(JG es k && Cf N es fl)=false by simpa using h1];simp)],H.ext⟩
 .intro h1;replace h1:=Bw h1;have h1':(JG es k && Cf N es fl)=true:=by simpa using h1
  have hk:0<=k/\k<2*es.length:=by
   simp only[qae]at h1';have:=h1'.1;unfold JG at this
   simpa using this
  obtain⟨q,rfl⟩:∃q:Nat,k=(q:Int):=⟨k.toNat,by omega⟩;obtain⟨hl,hri,hin⟩:=Cw (Bool.and_eq_true_iff.1 h1').2;obtain⟨e,he⟩:=AB (l:=es) (i:=q / 2);obtain⟨x,hx⟩:=AB (l:=fl) (i:=q / 2);have hee:=(CB hri).2.2.2.1 e (qac he);have hco:=Em hee;have hxx:=hin _ e x he hx;have hE:Mk N es fl (q:Int)=Ln e x q:=by unfold Mk;rw[if_pos h1',qa7,qby,he,qby,hx];rfl
  rw[hE];refine Aq (Aa (Ad (BV CG C2 U H at0 U (Ao U (Ae U (Am qB (Ai7 N a b es.length c fl.length d es fl _ (R.ext0 H.ext) U hb (Rf.ext0 H.ext) U q he hx) U ?_))))));rintro v w ⟨rfl,hx20⟩;replace H:=H.call hx20;refine Af U (qA (A6 (AD (v:=(.int _ _)) U U U ?_)));exact⟨rfl,H.ext⟩
end Go.Proofs.YtdagmpmdcgedcaaGreat
