/- Part 4 of the proof. -/
import Derived.Test.YtapphbmlkdhnmaaGreatPart2
import Derived.ProofKit
import Derived.Deep.Slices
import Derived.OpenShut
import Derived.Test.YtapphbmlkdhnmaaGreatProg
import Derived.KernelRfl
import Derived.Test.YtapphbmlkdhnmaaGreatPart1
import Derived.Test.YtapphbmlkdhnmaaGreatPart3
/- From the form's readings of arguments to ours, and the post of a law that answers true and turns nothing. It holds for every program. -/
namespace Go.GV
open Go Go.ChangeShapes Go.WideShapes Go.RowKit

theorem Ext.below {w w':World} (h:Ext [] w w'):Below w.heap.size w w':=⟨h.os,h.tape,h.output,h.size,fun k hk=>h.block k hk (by simp)⟩

section
variable {H:Type} {enc:TypeId × Value→H} {P:Program} {w:World} {base:Nat} {spare:Nat→Bool} {held:Bool}

theorem Iv:∀ {ts:List TypeId} {vs:List Value} {ds:List (DataW H)} {ps:List MemPlace},DataW.TrodAll enc P w base spare held ts vs ds ps→ds.length=ts.length
 | [],vs,ds,ps,h=>by obtain ⟨_,rfl,_⟩:=trodAll_nil h; rfl
 | t::ts,vs,ds,ps,h=>by
  obtain ⟨v,vs',d,ds',p,q,rfl,rfl,rfl,_,hr⟩:=trodAll_cons h
  simp [Iv hr]

theorem Jr {W W':World} {sp':Nat→Bool} (hl:laidOutB P=true) (hsp:∀ b,b<W.heap.size→sp' b=true) (hb:Below W.heap.size W W') :
  ∀ {ts:List TypeId} {vs:List Value} {ds:List (DataW H)} {ps:List MemPlace},(∀ t∈ts,P.readableRec t=true∧t<P.types.size)→(∀ x∈ps,x.block<W.heap.size) →
   DataW.TrodAll enc P W 0 (fun _=>true) true ts vs ds ps→DataW.TrodAll enc P W' 0 sp' true ts vs ds ps
 | [],vs,ds,ps,_,_,h=>by obtain ⟨rfl,rfl,rfl⟩:=trodAll_nil h; rfl
 | t::ts,vs,ds,ps,hr,hp,h=>by
  obtain ⟨v,vs',d,ds',p,q,rfl,rfl,rfl,h0,h1⟩:=trodAll_cons h
  refine ⟨p,q,WideElems.Trod_stays hl (hr t (by simp)).1 (hr t (by simp)).2 h0 (fun x hx=>hb.same (hp x (by simp [hx]))) (fun x hx=>hsp _ (hp x (by simp [hx]))),?_,rfl⟩
  exact Jr hl hsp hb (fun t ht=>hr t (by simp [ht])) (fun x hx=>hp x (by simp [hx])) h1

/-- The post of a law. -/
theorem Wf {f:Func} {s:ChangeSpec} {W W':World} {args:Array Value} {ds gs:List (DataW H)} {before:List MemPlace} {tb:TypeId} (hl:laidOutB P=true) (hv:s.vars=[])
  (hr:(f.params.toList.all fun t=>P.readableRec t && decide (t<P.types.size))=true) (hres:f.resultTypes=#[tb]) (htb:P.underlying tb=some .bool)
  (hs:∀ ds:List (DataW H),ds.length=f.params.size→s.fn H ds={ results:=[.lit (.bool true)],args:=ds })
  (hW:DataW.Whole enc P f.params.toList s.vars false W args.toList ds gs before) (hx:Ext [] W W'):s.post enc P f false true false false W args (.bool true) W':=by
 have hW':=hW
 obtain ⟨p,q,hA,hV,rfl,_,_⟩:=hW
 rw [hv] at hV
 obtain ⟨rfl,rfl⟩:=trodVars_none hV
 have hlen:ds.length=f.params.size:=by rw [Iv hA]; simp
 refine ⟨ds,[],p++[],[],p,[],hW',?_,?_,?_,hx.below.frame _,fun h=>by cases h⟩
 ·rw [List.append_nil,hs ds hlen,hres]
  exact trodAll_mk1 ⟨1,by simp [DataW.trod,Value.cells,htb]⟩
 ·rw [List.append_nil,hs ds hlen]
  refine Jr hl (fun b hb=>by simpa using hb) hx.below (fun t ht=>?_) (fun x hxp=>?_) hA
  ·have:=List.all_eq_true.1 hr t ht
   simpa using this
  ·exact hW'.lt x (by simp [hxp])
 ·rw [hv,List.append_nil,hs ds hlen]
  rfl

theorem IV {k:IntKind} {n:Int} (h:(Lit.int k n).wf=true):k.min≤n∧n≤k.max:=by
 simpa [Lit.wf] using h

/-! ### Decoding -/

/-- What a piece of a struct reads as. -/
theorem Qj {fuel:Nat} {t:TypeId} {cs:List Value} {x:DataW H × List MemPlace} {fs:Array Field} (ht:P.underlying t=some (.struct fs)) (h:DataW.trod enc P w base spare held fuel t cs=some x) (i:Nat) (f:Field) (hf:fs[i]? = some f) :
  ∃ n y,DataW.trod enc P w base spare held n f.type ((cs.drop f.offset).take (P.cellsOf f.type))=some y:=by
 obtain ⟨xs,n,_,_,_,hl,hx⟩:=DataW.trod_struct ht h
 have h1:=hx i f hf
 have hi:i<xs.length:=by rw [hl]; exact (Array.getElem?_eq_some_iff.1 hf).1
 rw [List.getElem?_eq_getElem hi] at h1
 exact ⟨n,_,h1⟩
theorem UD {fuel:Nat} {t:TypeId} {cs:List Value} {x:DataW H × List MemPlace} {fs:Array Field} (ht:P.underlying t=some (.struct fs)) (h:DataW.trod enc P w base spare held fuel t cs=some x):cs.length=P.cellsOf t:=by
 obtain ⟨xs,n,_,_,hl,_,_⟩:=DataW.trod_struct ht h
 exact hl

theorem Ql {l:List Value} {o m:Nat} {v:Value} (h:(l.drop o).take m=[v]):l[o]? = some v:=by
 have h1:((l.drop o).take m)[0]? = some v:=by rw [h]; rfl
 rw [List.getElem?_take] at h1
 split at h1
 ·rw [List.getElem?_drop] at h1; simpa using h1
 ·cases h1

theorem IW {fuel:Nat} {t u:TypeId} {cs:List Value} {x:DataW H × List MemPlace} {fs:Array Field} {k:IntKind} (ht:P.underlying t=some (.struct fs)) (h:DataW.trod enc P w base spare held fuel t cs=some x) (i o:Nat)
  (hf:(fs[i]?.map fun f=>(f.type,f.offset))=some (u,o)) (hu:P.underlying u=some (.int k)):∃ n,cs[o]? = some (.int k n)∧k.min≤n∧n≤k.max:=by
 cases he:fs[i]? with
 | none=>rw [he] at hf; cases hf
 | some f =>
  rw [he] at hf
  simp only [Option.map_some,Option.some.injEq,Prod.mk.injEq] at hf
  obtain ⟨rfl,rfl⟩:=hf
  obtain ⟨n,y,hy⟩:=Qj ht h i f he
  obtain ⟨m,h1,_,h2⟩:=DataW.trod_int hu hy
  exact ⟨m,Ql h1,IV h2⟩
theorem Wg {fuel:Nat} {t u:TypeId} {cs:List Value} {x:DataW H × List MemPlace} {fs:Array Field} (ht:P.underlying t=some (.struct fs)) (h:DataW.trod enc P w base spare held fuel t cs=some x) (i o:Nat)
  (hf:(fs[i]?.map fun f=>(f.type,f.offset))=some (u,o)) (hu:P.underlying u=some .bool):∃ b,cs[o]? = some (.bool b):=by
 cases he:fs[i]? with
 | none=>rw [he] at hf; cases hf
 | some f =>
  rw [he] at hf
  simp only [Option.map_some,Option.some.injEq,Prod.mk.injEq] at hf
  obtain ⟨rfl,rfl⟩:=hf
  obtain ⟨n,y,hy⟩:=Qj ht h i f he
  obtain ⟨b,h1,_⟩:=DataW.trod_bool hu hy
  exact ⟨b,Ql h1⟩
theorem Qm {a:Addr} {n:Nat} {cs:List Value} (h:w.cells? base a n=some cs):cs.length=n∧∀ j v,cs[j]? = some v→w.cell? (a.add j)=some v:=by
 unfold World.cells? at h
 split at h
 ·have h1:∀ (l:List Nat) (cs:List Value),l.mapM (fun i=>w.cell? (a.add i))=some cs→cs.length=l.length∧∀ (j i:Nat) (v:Value),l[j]? = some i→cs[j]? = some v→w.cell? (a.add i)=some v:=by
   intro l
   induction l with
   | nil=>intro cs h; simp at h; subst h; exact ⟨rfl,fun j i v h=>by simp at h⟩
   | cons k l ih =>
    intro cs h
    rw [List.mapM_cons] at h
    obtain ⟨v,hv,h⟩:=Option.bind_eq_some_iff.1 h
    obtain ⟨cs',hcs,h⟩:=Option.bind_eq_some_iff.1 h
    simp only [Option.pure_def,Option.some.injEq] at h
    subst h
    obtain ⟨h1,h2⟩:=ih cs' hcs
    refine ⟨by simp [h1],fun j i u hi hu=>?_⟩
    cases j with
    | zero=>simp at hi hu; subst hi hu; exact hv
    | succ j=>exact h2 j i u (by simpa using hi) (by simpa using hu)
  obtain ⟨h2,h3⟩:=h1 _ _ h
  refine ⟨by simpa using h2,fun j v hv=>h3 j j v ?_ hv⟩
  have:j<cs.length:=(List.getElem?_eq_some_iff.1 hv).1
  rw [List.getElem?_range (by rw [h2] at this; simpa using this)]
 ·cases h

theorem NH {a:Addr} {v:Value} (h:w.cell? a=some v):a=⟨a.block,a.off,none⟩:=by
 unfold World.cell? at h
 split at h
 ·split at h
  ·cases h
  ·rename_i hs
   obtain ⟨b,o,s⟩:=a
   cases s with
   | none=>rfl
   | some x=>simp at hs
 ·cases h

/-- A slice that is read: ours. -/
theorem rd_of {α:Type} {t e:TypeId} {s fuel:Nat} {v:Value} {x:DataW H × List MemPlace} {encd:α→List Value} {Good:α→Prop} (ht:P.underlying t=some (.slice e)) (hs:P.cellsOf e=s) (h0:0<s)
  (dec:∀ n cs y,DataW.trod enc P w base spare held n e cs=some y→∃ d,cs=encd d∧Good d) (h:DataW.trod enc P w base spare held fuel t [v]=some x) :
  ∃ (a:Option Addr) (c:Nat) (l:List α),v = .slice a l.length c∧Rd w a s encd l∧l.length≤c∧c≤maxLen∧(∀ d∈l,Good d):=by
 rcases Go.Deep.open_slice ht h with ⟨hc,_⟩ | ⟨a,len,cap,m,n,D,Pl,hc,_,hl,hm,hmm,_,hx⟩
 ·simp only [List.cons.injEq,and_true] at hc
  exact ⟨none,0,[],hc,Rd.nil,Nat.le_refl _,Nat.zero_le _,by simp⟩
 ·simp only [List.cons.injEq,and_true] at hc
  have hle:len≤m:=by rw [hmm]; split <;> omega
  have hd:∀ i,i<len→∃ d:α,(w.cells? base (a.add (i*s)) s=some (encd d))∧Good d:=fun i hi=>by
   obtain ⟨cs',h1,h2⟩:=hx i (by omega)
   obtain ⟨d,rfl,hg⟩:=dec _ _ _ h2
   exact ⟨d,by rw [← hs]; exact h1,hg⟩
  have hlist:∀ k,k≤len→∃ l:List α,l.length=k∧∀ i d,l[i]? = some d→w.cells? base (a.add (i*s)) s=some (encd d)∧Good d:=by
   intro k
   induction k with
   | zero=>intro _; exact ⟨[],rfl,fun i d h=>by simp at h⟩
   | succ k ih =>
    intro hk
    obtain ⟨l,h1,h2⟩:=ih (by omega)
    obtain ⟨d,hd1,hd2⟩:=hd k (by omega)
    refine ⟨l++[d],by simp [h1],fun i d' hi=>?_⟩
    rw [List.getElem?_append] at hi
    split at hi
    ·exact h2 i d' hi
    ·rename_i hlt
     have:i=k:=by
      have:=(List.getElem?_eq_some_iff.1 hi).1
      simp at this; omega
     subst this
     rw [h1,Nat.sub_self] at hi
     simp at hi; subst hi
     exact ⟨hd1,hd2⟩
  obtain ⟨l,h1,h2⟩:=hlist len (Nat.le_refl _)
  subst h1
  refine ⟨some a,cap,l,hc,⟨fun hne=>?_,fun i d hi j u hu hj=>?_⟩,hl,hm,fun d hd=>?_⟩
  ·cases l with
   | nil=>exact absurd rfl hne
   | cons d l =>
    obtain ⟨h3,_⟩:=h2 0 d rfl
    obtain ⟨h4,h5⟩:=Qm h3
    obtain ⟨u,hu⟩:=AC (l:=encd d) (i:=0) (by omega)
    have h6:=h5 0 u hu
    rw [Nat.zero_mul] at h6
    have h7:(a.add 0).add 0=a:=by simp [Addr.add]
    rw [h7] at h6
    exact ⟨a.block,a.off,by rw [← NH h6]⟩
  ·obtain ⟨h3,_⟩:=h2 i d hi
   have h5:=(Qm h3).2 j u hu
   rw [Go.Deep.add_add] at h5
   have h6:=NH h5
   rw [h6] at h5
   have hblk:∀ q,(a.add q).block=a.block∧(a.add q).off=a.off+q:=by
    intro q; unfold Addr.add
    by_cases hq:q=0 <;> simp [hq]
   rw [(hblk _).1,(hblk _).2,← Nat.add_assoc] at h5
   obtain ⟨b,o,sp⟩:=a
   exact h5
  ·obtain ⟨i,hi⟩:=List.getElem?_of_mem hd
   exact (h2 i d hi).2
theorem OT {α:Type} {t e:TypeId} {s:Nat} {v:Value} {d:DataW H} {ps:List MemPlace} {encd:α→List Value} {Good:α→Prop} (ht:P.underlying t=some (.slice e)) (hs:P.cellsOf e=s) (h0:0<s)
  (dec:∀ n cs y,DataW.trod enc P w base spare held n e cs=some y→∃ d,cs=encd d∧Good d) (hv:∃ a n c,v = .slice a n c) (h:DataW.Trod enc P w base spare held t v d ps) :
  ∃ (a:Option Addr) (c:Nat) (l:List α),v = .slice a l.length c∧Rd w a s encd l∧l.length≤c∧c≤maxLen∧(∀ d∈l,Good d):=by
 obtain ⟨fuel,hf⟩:=h
 obtain ⟨a,n,c,rfl⟩:=hv
 exact rd_of ht hs h0 dec (by simpa [Value.cells] using hf)
theorem T2 {e:TypeId} {k:IntKind} (he:P.underlying e=some (.int k)):∀ n cs y,DataW.trod enc P w base spare held n e cs=some y→∃ d:Int,cs=[Value.int k d]∧(k.min≤d∧d≤k.max):=by
 intro n cs y h
 obtain ⟨m,h1,_,h2⟩:=DataW.trod_int he h
 exact ⟨m,h1,IV h2⟩
end
end Go.GV

/- Closed facts on the translation of this seat: sizes, zero values, fields; printed by program. -/
namespace Go.Proofs.YtapphbmlkdhnmaaGreat
open Go.GV
theorem Wh:Dx Tryz.prog 121=some false:=by kernel_rfl
theorem GM:Dx Tryz.prog 136=some false:=by kernel_rfl
theorem Ms:Dx Tryz.prog 139=some false:=by kernel_rfl
theorem Wi:Dx Tryz.prog 157=some false:=by kernel_rfl
theorem Eo:Dx Tryz.prog 168=some false:=by kernel_rfl
theorem Bw:Dx Tryz.prog 2=some false:=by kernel_rfl
theorem Fl:Dx Tryz.prog 203=some false:=by kernel_rfl
theorem GN:Dx Tryz.prog 221=some false:=by kernel_rfl
theorem OU:Dx Tryz.prog 222=some false:=by kernel_rfl
theorem Sb:Dx Tryz.prog 229=some true:=by kernel_rfl
theorem ag_23:Dx Tryz.prog 23=some false:=by kernel_rfl
theorem Sc:Dx Tryz.prog 230=some false:=by kernel_rfl
theorem BK:Dx Tryz.prog 24=some false:=by kernel_rfl
theorem Fm:Dx Tryz.prog 25=some false:=by kernel_rfl
theorem Dj:Dx Tryz.prog 253=some false:=by kernel_rfl
theorem Gn:Dx Tryz.prog 258=some true:=by kernel_rfl
theorem CI:Dx Tryz.prog 26=some false:=by kernel_rfl
theorem J9:Dx Tryz.prog 260=some false:=by kernel_rfl
theorem Cu:Dx Tryz.prog 28=some true:=by kernel_rfl
theorem BF:Dx Tryz.prog 29=some false:=by kernel_rfl
theorem BH:Dx Tryz.prog 3=some false:=by kernel_rfl
theorem Qn:Dx Tryz.prog 31=some true:=by kernel_rfl
theorem CQ:Dx Tryz.prog 33=some true:=by kernel_rfl
theorem ag_34:Dx Tryz.prog 34=some false:=by kernel_rfl
theorem Hf:Dx Tryz.prog 4=some false:=by kernel_rfl
theorem ag_5:Dx Tryz.prog 5=some false:=by kernel_rfl
theorem Iw:Dx Tryz.prog 62=some true:=by kernel_rfl
theorem Wj:Dx Tryz.prog 69=some false:=by kernel_rfl
theorem DX:Dx Tryz.prog 92=some true:=by kernel_rfl
theorem OV:DL Tryz.prog 2=some 8:=by kernel_rfl
theorem Aax:DL Tryz.prog 229=some 32:=by kernel_rfl
theorem Aay:DL Tryz.prog 230=some 24:=by kernel_rfl
theorem Wk:DL Tryz.prog 24=some 8:=by kernel_rfl
theorem Aaz:DL Tryz.prog 258=some 16:=by kernel_rfl
theorem by_3:DL Tryz.prog 3=some 8:=by kernel_rfl
theorem Qo:DL Tryz.prog 5=some 1:=by kernel_rfl
theorem ZS:DL Tryz.prog 62=some 56:=by kernel_rfl
theorem Wl:DL Tryz.prog 92=some 32:=by kernel_rfl
theorem Sd:A0 Tryz.prog 100=true:=by kernel_rfl
theorem Aa0:A0 Tryz.prog 101=true:=by kernel_rfl
theorem Aa1:A0 Tryz.prog 102=true:=by kernel_rfl
theorem Aa2:A0 Tryz.prog 103=true:=by kernel_rfl
theorem Aa3:A0 Tryz.prog 104=true:=by kernel_rfl
theorem Aa4:A0 Tryz.prog 105=true:=by kernel_rfl
theorem Se:A0 Tryz.prog 109=true:=by kernel_rfl
theorem Wm:A0 Tryz.prog 110=true:=by kernel_rfl
theorem Aa5:A0 Tryz.prog 112=true:=by kernel_rfl
theorem Aa6:A0 Tryz.prog 113=true:=by kernel_rfl
theorem Aa7:A0 Tryz.prog 116=true:=by kernel_rfl
theorem OW:A0 Tryz.prog 117=true:=by kernel_rfl
theorem Wn:A0 Tryz.prog 118=true:=by kernel_rfl
theorem Aa8:A0 Tryz.prog 119=true:=by kernel_rfl
theorem Aa9:A0 Tryz.prog 120=true:=by kernel_rfl
theorem Aba:A0 Tryz.prog 121=true:=by kernel_rfl
theorem Abb:A0 Tryz.prog 122=true:=by kernel_rfl
theorem Wo:A0 Tryz.prog 124=true:=by kernel_rfl
theorem Sf:A0 Tryz.prog 125=true:=by kernel_rfl
theorem Abc:A0 Tryz.prog 126=true:=by kernel_rfl
theorem Abd:A0 Tryz.prog 127=true:=by kernel_rfl
theorem Abe:A0 Tryz.prog 128=true:=by kernel_rfl
theorem Abf:A0 Tryz.prog 129=true:=by kernel_rfl
theorem Abg:A0 Tryz.prog 130=true:=by kernel_rfl
theorem Abh:A0 Tryz.prog 131=true:=by kernel_rfl
theorem Abi:A0 Tryz.prog 132=true:=by kernel_rfl
theorem Abj:A0 Tryz.prog 133=true:=by kernel_rfl
theorem Abk:A0 Tryz.prog 134=true:=by kernel_rfl
theorem Abl:A0 Tryz.prog 135=true:=by kernel_rfl
theorem GO:A0 Tryz.prog 144=true:=by kernel_rfl
theorem Sg:A0 Tryz.prog 145=true:=by kernel_rfl
theorem OX:A0 Tryz.prog 146=true:=by kernel_rfl
theorem Abm:A0 Tryz.prog 147=true:=by kernel_rfl
theorem Wp:A0 Tryz.prog 148=true:=by kernel_rfl
theorem Abn:A0 Tryz.prog 149=true:=by kernel_rfl
theorem Abo:A0 Tryz.prog 153=true:=by kernel_rfl
theorem Abp:A0 Tryz.prog 154=true:=by kernel_rfl
theorem Abq:A0 Tryz.prog 155=true:=by kernel_rfl
theorem Abr:A0 Tryz.prog 156=true:=by kernel_rfl
theorem Abs:A0 Tryz.prog 157=true:=by kernel_rfl
theorem Wr:A0 Tryz.prog 158=true:=by kernel_rfl
theorem Abt:A0 Tryz.prog 160=true:=by kernel_rfl
theorem Ws:A0 Tryz.prog 161=true:=by kernel_rfl
theorem Abu:A0 Tryz.prog 162=true:=by kernel_rfl
theorem Abv:A0 Tryz.prog 163=true:=by kernel_rfl
theorem Abw:A0 Tryz.prog 164=true:=by kernel_rfl
theorem Abx:A0 Tryz.prog 165=true:=by kernel_rfl
theorem Aby:A0 Tryz.prog 166=true:=by kernel_rfl
theorem Abz:A0 Tryz.prog 167=true:=by kernel_rfl
theorem Ab0:A0 Tryz.prog 168=true:=by kernel_rfl
theorem Wu:A0 Tryz.prog 169=true:=by kernel_rfl
theorem Sh:A0 Tryz.prog 170=true:=by kernel_rfl
theorem Ab1:A0 Tryz.prog 171=true:=by kernel_rfl
theorem Ab2:A0 Tryz.prog 172=true:=by kernel_rfl
theorem Ab3:A0 Tryz.prog 173=true:=by kernel_rfl
theorem OY:A0 Tryz.prog 174=true:=by kernel_rfl
theorem Si:A0 Tryz.prog 175=true:=by kernel_rfl
theorem Wv:A0 Tryz.prog 176=true:=by kernel_rfl
theorem Ab4:A0 Tryz.prog 177=true:=by kernel_rfl
theorem OZ:A0 Tryz.prog 178=true:=by kernel_rfl
theorem Ab5:A0 Tryz.prog 179=true:=by kernel_rfl
theorem Sj:A0 Tryz.prog 180=true:=by kernel_rfl
theorem Ab6:A0 Tryz.prog 185=true:=by kernel_rfl
theorem Ab7:A0 Tryz.prog 186=true:=by kernel_rfl
theorem Ww:A0 Tryz.prog 187=true:=by kernel_rfl
theorem Ab8:A0 Tryz.prog 188=true:=by kernel_rfl
theorem Wx:A0 Tryz.prog 189=true:=by kernel_rfl
theorem ca_19:A0 Tryz.prog 19=true:=by kernel_rfl
theorem Ab9:A0 Tryz.prog 190=true:=by kernel_rfl
theorem Aca:A0 Tryz.prog 191=true:=by kernel_rfl
theorem Acb:A0 Tryz.prog 192=true:=by kernel_rfl
theorem Acc:A0 Tryz.prog 193=true:=by kernel_rfl
theorem Acd:A0 Tryz.prog 194=true:=by kernel_rfl
theorem Ace:A0 Tryz.prog 195=true:=by kernel_rfl
theorem Wy:A0 Tryz.prog 196=true:=by kernel_rfl
theorem Wz:A0 Tryz.prog 197=true:=by kernel_rfl
theorem Acf:A0 Tryz.prog 198=true:=by kernel_rfl
theorem Acg:A0 Tryz.prog 199=true:=by kernel_rfl
theorem ca_20:A0 Tryz.prog 20=true:=by kernel_rfl
theorem W0:A0 Tryz.prog 200=true:=by kernel_rfl
theorem Ach:A0 Tryz.prog 201=true:=by kernel_rfl
theorem Aci:A0 Tryz.prog 202=true:=by kernel_rfl
theorem Acj:A0 Tryz.prog 203=true:=by kernel_rfl
theorem Ack:A0 Tryz.prog 204=true:=by kernel_rfl
theorem Acl:A0 Tryz.prog 205=true:=by kernel_rfl
theorem Fo:A0 Tryz.prog 206=true:=by kernel_rfl
theorem Acm:A0 Tryz.prog 207=true:=by kernel_rfl
theorem Acn:A0 Tryz.prog 208=true:=by kernel_rfl
theorem Aco:A0 Tryz.prog 210=true:=by kernel_rfl
theorem Acp:A0 Tryz.prog 211=true:=by kernel_rfl
theorem W1:A0 Tryz.prog 212=true:=by kernel_rfl
theorem W3:A0 Tryz.prog 213=true:=by kernel_rfl
theorem Acq:A0 Tryz.prog 214=true:=by kernel_rfl
theorem Acr:A0 Tryz.prog 215=true:=by kernel_rfl
theorem Acs:A0 Tryz.prog 216=true:=by kernel_rfl
theorem W4:A0 Tryz.prog 217=true:=by kernel_rfl
theorem W5:A0 Tryz.prog 218=true:=by kernel_rfl
theorem Acu:A0 Tryz.prog 219=true:=by kernel_rfl
theorem Acv:A0 Tryz.prog 220=true:=by kernel_rfl
theorem Sk:A0 Tryz.prog 221=true:=by kernel_rfl
theorem W6:A0 Tryz.prog 222=true:=by kernel_rfl
theorem W7:A0 Tryz.prog 223=true:=by kernel_rfl
theorem Acw:A0 Tryz.prog 224=true:=by kernel_rfl
theorem Acx:A0 Tryz.prog 225=true:=by kernel_rfl
theorem Sm:A0 Tryz.prog 226=true:=by kernel_rfl
theorem Sn:A0 Tryz.prog 227=true:=by kernel_rfl
theorem T3:A0 Tryz.prog 27=true:=by kernel_rfl
theorem NI:A0 Tryz.prog 28=true:=by kernel_rfl
theorem T4:A0 Tryz.prog 29=true:=by kernel_rfl
theorem W8:A0 Tryz.prog 30=true:=by kernel_rfl
theorem ca_31:A0 Tryz.prog 31=true:=by kernel_rfl
theorem ca_32:A0 Tryz.prog 32=true:=by kernel_rfl
theorem Qp:A0 Tryz.prog 36=true:=by kernel_rfl
theorem ZT:A0 Tryz.prog 39=true:=by kernel_rfl
theorem ZU:A0 Tryz.prog 42=true:=by kernel_rfl
theorem ca_44:A0 Tryz.prog 44=true:=by kernel_rfl
theorem ca_57:A0 Tryz.prog 57=true:=by kernel_rfl
theorem ZV:A0 Tryz.prog 58=true:=by kernel_rfl
theorem ca_59:A0 Tryz.prog 59=true:=by kernel_rfl
theorem ca_61:A0 Tryz.prog 61=true:=by kernel_rfl
theorem T5:A0 Tryz.prog 63=true:=by kernel_rfl
theorem ca_64:A0 Tryz.prog 64=true:=by kernel_rfl
theorem ca_65:A0 Tryz.prog 65=true:=by kernel_rfl
theorem ca_66:A0 Tryz.prog 66=true:=by kernel_rfl
theorem ca_78:A0 Tryz.prog 78=true:=by kernel_rfl
theorem ca_79:A0 Tryz.prog 79=true:=by kernel_rfl
theorem Qq:A0 Tryz.prog 80=true:=by kernel_rfl
theorem W9:A0 Tryz.prog 81=true:=by kernel_rfl
theorem ZW:A0 Tryz.prog 82=true:=by kernel_rfl
theorem ZX:A0 Tryz.prog 83=true:=by kernel_rfl
theorem ca_84:A0 Tryz.prog 84=true:=by kernel_rfl
theorem T6:A0 Tryz.prog 85=true:=by kernel_rfl
theorem NJ:A0 Tryz.prog 86=true:=by kernel_rfl
theorem JZ:A0 Tryz.prog 87=true:=by kernel_rfl
theorem ZY:A0 Tryz.prog 88=true:=by kernel_rfl
theorem ca_93:A0 Tryz.prog 93=true:=by kernel_rfl
theorem ca_94:A0 Tryz.prog 94=true:=by kernel_rfl
theorem ca_95:A0 Tryz.prog 95=true:=by kernel_rfl
theorem ca_96:A0 Tryz.prog 96=true:=by kernel_rfl
theorem ca_97:A0 Tryz.prog 97=true:=by kernel_rfl
theorem ZZ:A0 Tryz.prog 99=true:=by kernel_rfl
theorem So:C8 Tryz.prog 178=some 34:=by kernel_rfl
theorem DB:C8 Tryz.prog 203=some 3:=by kernel_rfl
theorem K8:C8 Tryz.prog 222=some 230:=by kernel_rfl
theorem DY:C8 Tryz.prog 23=some 62:=by kernel_rfl
theorem JA:C8 Tryz.prog 230=some 229:=by kernel_rfl
theorem Be:C8 Tryz.prog 25=some 24:=by kernel_rfl
theorem CY:C8 Tryz.prog 253=some 258:=by kernel_rfl
theorem Ce:C8 Tryz.prog 26=some 92:=by kernel_rfl
theorem AR:C8 Tryz.prog 29=some 2:=by kernel_rfl
theorem C9:C8 Tryz.prog 69=some 5:=by kernel_rfl
theorem Qr:Cp Tryz.prog 123 0=some 0:=by kernel_rfl
theorem FE:Cp Tryz.prog 170 0=some 0:=by kernel_rfl
theorem Et:Cp Tryz.prog 170 1=some 2:=by kernel_rfl
theorem Eu:Cp Tryz.prog 170 2=some 3:=by kernel_rfl
theorem FG:Cp Tryz.prog 170 3=some 4:=by kernel_rfl
theorem Mu:Cp Tryz.prog 170 4=some 5:=by kernel_rfl
theorem Ka:Cp Tryz.prog 224 0=some 0:=by kernel_rfl
theorem DF:Cp Tryz.prog 224 1=some 1:=by kernel_rfl
theorem Gp:Cp Tryz.prog 224 2=some 2:=by kernel_rfl
theorem Ix:Cp Tryz.prog 224 3=some 3:=by kernel_rfl
theorem Mv:Cp Tryz.prog 229 0=some 0:=by kernel_rfl
theorem Qs:Cp Tryz.prog 229 1=some 1:=by kernel_rfl
theorem EI:Cp Tryz.prog 229 2=some 2:=by kernel_rfl
theorem Mw:Cp Tryz.prog 229 3=some 3:=by kernel_rfl
theorem Cy:Cp Tryz.prog 255 0=some 0:=by kernel_rfl
theorem Iy:Cp Tryz.prog 258 0=some 0:=by kernel_rfl
theorem Mx:Cp Tryz.prog 258 1=some 1:=by kernel_rfl
theorem Dn:Cp Tryz.prog 28 0=some 0:=by kernel_rfl
theorem BU:Cp Tryz.prog 28 1=some 1:=by kernel_rfl
theorem Fp:Cp Tryz.prog 31 0=some 0:=by kernel_rfl
theorem F7:Cp Tryz.prog 31 1=some 1:=by kernel_rfl
theorem Pa:Cp Tryz.prog 33 0=some 0:=by kernel_rfl
theorem Lx:Cp Tryz.prog 33 1=some 1:=by kernel_rfl
theorem IX:Cp Tryz.prog 33 2=some 2:=by kernel_rfl
theorem ED:Cp Tryz.prog 33 3=some 3:=by kernel_rfl
theorem DG:Cp Tryz.prog 33 4=some 4:=by kernel_rfl
theorem Ep:Cp Tryz.prog 33 5=some 6:=by kernel_rfl
theorem IY:Cp Tryz.prog 62 0=some 0:=by kernel_rfl
theorem Ly:Cp Tryz.prog 62 1=some 1:=by kernel_rfl
theorem Lz:Cp Tryz.prog 62 2=some 2:=by kernel_rfl
theorem L4:Cp Tryz.prog 62 3=some 3:=by kernel_rfl
theorem Pb:Cp Tryz.prog 62 4=some 4:=by kernel_rfl
theorem YM:Cp Tryz.prog 62 5=some 5:=by kernel_rfl
theorem YN:Cp Tryz.prog 62 6=some 6:=by kernel_rfl
theorem Dp:Cp Tryz.prog 92 0=some 0:=by kernel_rfl
theorem Dz:Cp Tryz.prog 92 1=some 1:=by kernel_rfl
theorem CU:Cp Tryz.prog 92 2=some 2:=by kernel_rfl
theorem Dq:Cp Tryz.prog 92 3=some 3:=by kernel_rfl
theorem B3:Tryz.prog.follows .mixedOrders=true:=by kernel_rfl
theorem WA:OH Tryz.prog 121=some (24,62):=by kernel_rfl
theorem My:OH Tryz.prog 218=some (3,3):=by kernel_rfl
theorem Acy:DP Tryz.prog 123=some [(0,1),(1,1)]:=by kernel_rfl
theorem Acz:DP Tryz.prog 170=some [(0,2),(2,1),(3,1),(4,1),(5,1)]:=by kernel_rfl
theorem Ac0:DP Tryz.prog 224=some [(0,1),(1,1),(2,1),(3,1)]:=by kernel_rfl
theorem WB:DP Tryz.prog 229=some [(0,1),(1,1),(2,1),(3,1)]:=by kernel_rfl
theorem Ac1:DP Tryz.prog 255=some [(0,1)]:=by kernel_rfl
theorem Ac2:DP Tryz.prog 258=some [(0,1),(1,1)]:=by kernel_rfl
theorem pl_28:DP Tryz.prog 28=some [(0,1),(1,1)]:=by kernel_rfl
theorem pl_31:DP Tryz.prog 31=some [(0,1),(1,1)]:=by kernel_rfl
theorem Qt:DP Tryz.prog 33=some [(0,1),(1,1),(2,1),(3,1),(4,2),(6,2)]:=by kernel_rfl
theorem pl_62:DP Tryz.prog 62=some [(0,1),(1,1),(2,1),(3,1),(4,1),(5,1),(6,1)]:=by kernel_rfl
theorem Mz:DP Tryz.prog 92=some [(0,1),(1,1),(2,1),(3,1)]:=by kernel_rfl
theorem Ac3:Cm Tryz.prog 136=some 1:=by kernel_rfl
theorem Ac4:Cm Tryz.prog 139=some 1:=by kernel_rfl
theorem Ac5:Cm Tryz.prog 157=some 1:=by kernel_rfl
theorem B2:Cm Tryz.prog 2=some 1:=by kernel_rfl
theorem Ac6:Cm Tryz.prog 221=some 1:=by kernel_rfl
theorem Gq:Cm Tryz.prog 229=some 4:=by kernel_rfl
theorem K9:Cm Tryz.prog 230=some 1:=by kernel_rfl
theorem AY:Cm Tryz.prog 24=some 1:=by kernel_rfl
theorem Aaa:Cm Tryz.prog 25=some 1:=by kernel_rfl
theorem WC:Cm Tryz.prog 253=some 1:=by kernel_rfl
theorem CA:Cm Tryz.prog 258=some 2:=by kernel_rfl
theorem Aab:Cm Tryz.prog 26=some 1:=by kernel_rfl
theorem Pc:Cm Tryz.prog 260=some 1:=by kernel_rfl
theorem Ci:Cm Tryz.prog 28=some 2:=by kernel_rfl
theorem WD:Cm Tryz.prog 29=some 1:=by kernel_rfl
theorem EJ:Cm Tryz.prog 3=some 1:=by kernel_rfl
theorem M1:Cm Tryz.prog 31=some 2:=by kernel_rfl
theorem C2:Cm Tryz.prog 33=some 8:=by kernel_rfl
theorem Aac:Cm Tryz.prog 34=some 1:=by kernel_rfl
theorem Pd:Cm Tryz.prog 4=some 1:=by kernel_rfl
theorem F1:Cm Tryz.prog 5=some 1:=by kernel_rfl
theorem D4:Cm Tryz.prog 62=some 7:=by kernel_rfl
theorem BC:Cm Tryz.prog 92=some 4:=by kernel_rfl
theorem Sp:Tryz.prog.underlying 2=some (.int .i64):=by kernel_rfl
theorem Sq:Tryz.prog.underlying 231=some (.pointer 255):=by kernel_rfl
theorem FH:Tryz.prog.underlying 24=some (.int .u64):=by kernel_rfl
theorem Ac7:Tryz.prog.underlying 260=some (.int .u64):=by kernel_rfl
theorem Gu:Tryz.prog.underlying 3=some (.int .i64):=by kernel_rfl
theorem un_4:Tryz.prog.underlying 4=some (.bool):=by kernel_rfl
theorem Iz:Tryz.prog.underlying 5=some (.int .u8):=by kernel_rfl
theorem un_70:Tryz.prog.underlying 70=some (.int .u16):=by kernel_rfl
theorem T7:Tryz.prog.underlying 71=some (.int .u32):=by kernel_rfl
theorem Qu:Tryz.prog.underlying 79=some (.int .u64):=by kernel_rfl
theorem WE:Tryz.prog.underlying 9=some (.string):=by kernel_rfl
theorem Ac8:Cw Tryz.prog 123=some ([.map none,.int .u64 0]):=by kernel_rfl
theorem Ac9:Cw Tryz.prog 136=some ([.nilFunc]):=by kernel_rfl
theorem Ada:Cw Tryz.prog 139=some ([.nilFunc]):=by kernel_rfl
theorem Adb:Cw Tryz.prog 157=some ([.nilFunc]):=by kernel_rfl
theorem Adc:Cw Tryz.prog 170=some ([.int .i64 0,.slice none 0 0,.slice none 0 0,.slice none 0 0,.slice none 0 0,.int .i64 0]):=by kernel_rfl
theorem GP:Cw Tryz.prog 2=some ([.int .i64 0]):=by kernel_rfl
theorem Add:Cw Tryz.prog 221=some ([.pointer none]):=by kernel_rfl
theorem Ade:Cw Tryz.prog 224=some ([.slice none 0 0,.slice none 0 0,.slice none 0 0,.slice none 0 0]):=by kernel_rfl
theorem I0:Cw Tryz.prog 229=some ([.int .i64 0,.int .i64 0,.int .i64 0,.int .i64 0]):=by kernel_rfl
theorem Adf:Cw Tryz.prog 230=some ([.slice none 0 0]):=by kernel_rfl
theorem M4:Cw Tryz.prog 24=some ([.int .u64 0]):=by kernel_rfl
theorem Adg:Cw Tryz.prog 255=some ([.slice none 0 0]):=by kernel_rfl
theorem Sr:Cw Tryz.prog 258=some ([.int .i64 0,.int .i64 0]):=by kernel_rfl
theorem Adh:Cw Tryz.prog 260=some ([.int .u64 0]):=by kernel_rfl
theorem T8:Cw Tryz.prog 28=some ([.int .i64 0,.slice none 0 0]):=by kernel_rfl
theorem zc_29:Cw Tryz.prog 29=some ([.slice none 0 0]):=by kernel_rfl
theorem Qv:Cw Tryz.prog 3=some ([.int .i64 0]):=by kernel_rfl
theorem WF:Cw Tryz.prog 31=some ([.slice none 0 0,.slice none 0 0]):=by kernel_rfl
theorem FI:Cw Tryz.prog 33=some ([.int .u64 0,.int .i64 0,.bool false,.slice none 0 0,.int .i64 0,.slice none 0 0,.slice none 0 0,.slice none 0 0]):=by kernel_rfl
theorem zc_34:Cw Tryz.prog 34=some ([.nilFunc]):=by kernel_rfl
theorem zc_4:Cw Tryz.prog 4=some ([.bool false]):=by kernel_rfl
theorem Kb:Cw Tryz.prog 5=some ([.int .u8 0]):=by kernel_rfl
theorem Ig:Cw Tryz.prog 62=some ([.int .u64 0,.int .i64 0,.int .i64 0,.int .i64 0,.int .i64 0,.int .i64 0,.bool false]):=by kernel_rfl
theorem DH:Cw Tryz.prog 92=some ([.int .i64 0,.int .i64 0,.int .i64 0,.int .i64 0]):=by kernel_rfl
theorem zv_3:(Tryz.prog.info? 3).bind (·.zero)=some (.int .i64 0):=by kernel_rfl
theorem zv_62:(Tryz.prog.info? 62).bind (·.zero)=some (.agg #[.int .u64 0,.int .i64 0,.int .i64 0,.int .i64 0,.int .i64 0,.int .i64 0,.bool false]):=by kernel_rfl
end Go.Proofs.YtapphbmlkdhnmaaGreat

/- Plain law of shortest ways: rounds of relaxing come to an end, where numbers are that fit. -/
namespace Go.Proofs.YtapphbmlkdhnmaaGreat
open Go.GV

/-- An arc: from where, to where, how long. -/
abbrev Ar:=Nat × Nat × Int
def upd (p:Nat→Int) (v:Nat) (x:Int):Nat→Int:=fun u=>if u=v then x else p u
def Hg (p:Nat→Int) (a:Ar):Nat→Int:=if p a.1+a.2.2<p a.2.1 then upd p a.2.1 (p a.1+a.2.2) else p
def Fea (A:List Ar) (q:Nat→Int):Prop:=∀ a∈A,q a.2.1≤q a.1+a.2.2
/-- The least lengths of ways of so many arcs, or less, from anywhere. -/
def step0 (A:List Ar) (d:Nat→Int) (v:Nat):Int:=A.foldl (fun m a=>if a.2.1=v then min m (d a.1+a.2.2) else m) (d v)
def DD (A:List Ar):Nat→Nat→Int
 | 0,_=>0
 | r+1,v=>step0 A (DD A r) v
theorem JB {d:Nat→Int} {v:Nat}:∀ {A:List Ar} {m:Int},A.foldl (fun m a=>if a.2.1=v then min m (d a.1+a.2.2) else m) m≤m
 | [],m=>Int.le_refl _
 | a::A,m=>by
  rw [List.foldl_cons]
  refine Int.le_trans JB ?_
  split
  ·exact Int.min_le_left ..
  ·exact Int.le_refl _
theorem KW {d:Nat→Int} {v:Nat}:∀ {A:List Ar} {m:Int} {a:Ar},a∈A→a.2.1=v→A.foldl (fun m a=>if a.2.1=v then min m (d a.1+a.2.2) else m) m≤d a.1+a.2.2
 | b::A,m,a,h,hv=>by
  rw [List.foldl_cons]
  rcases List.mem_cons.1 h with rfl | h
  ·refine Int.le_trans JB ?_
   rw [if_pos hv]
   exact Int.min_le_right ..
  ·exact KW h hv
theorem M5 {d:Nat→Int} {v:Nat}:∀ {A:List Ar} {m:Int},A.foldl (fun m a=>if a.2.1=v then min m (d a.1+a.2.2) else m) m=m∨∃ a∈A,a.2.1=v∧A.foldl (fun m a=>if a.2.1=v then min m (d a.1+a.2.2) else m) m=d a.1+a.2.2
 | [],m => .inl rfl
 | b::A,m=>by
  rw [List.foldl_cons]
  rcases M5 (d:=d) (v:=v) (A:=A) (m:=if b.2.1=v then min m (d b.1+b.2.2) else m) with h | ⟨a,ha,hv,h⟩
  ·rw [h]
   by_cases hb:b.2.1=v
   ·rw [if_pos hb]
    rcases Int.le_total m (d b.1+b.2.2) with h5 | h5
    ·exact .inl (Int.min_eq_left h5)
    ·exact .inr ⟨b,List.mem_cons_self ..,hb,Int.min_eq_right h5⟩
   ·rw [if_neg hb]; exact .inl rfl
  ·exact .inr ⟨a,List.mem_cons_of_mem _ ha,hv,h⟩
theorem WG (A:List Ar) (r v:Nat):DD A (r+1) v≤DD A r v:=JB
theorem Kc (A:List Ar) (v:Nat):∀ {r s:Nat},r≤s→DD A s v≤DD A r v
 | r,s,h=>by
  obtain ⟨k,rfl⟩:=Nat.exists_eq_add_of_le h
  induction k with
  | zero=>exact Int.le_refl _
  | succ k ih=>exact Int.le_trans (WG A (r+k) v) (ih (by omega))
theorem WH {A:List Ar} {a:Ar} (h:a∈A) (r:Nat):DD A (r+1) a.2.1≤DD A r a.1+a.2.2:=KW h rfl
theorem T9 (A:List Ar) (r v:Nat):DD A (r+1) v=DD A r v∨∃ a∈A,a.2.1=v∧DD A (r+1) v=DD A r a.1+a.2.2:=M5
/-- Whatever gets less so late goes back along arcs. -/
theorem Qw {A:List Ar}:∀ {r v:Nat},DD A (r+1) v<DD A r v→∃ x:Nat→Nat,x (r+1)=v∧∀ j,j≤r→DD A (j+1) (x (j+1))<DD A j (x (j+1))∧∃ a∈A,a.1=x j∧a.2.1=x (j+1)∧DD A (j+1) (x (j+1))=DD A j (x j)+a.2.2
 | 0,v,h=>by
  rcases T9 A 0 v with h1 | ⟨a,ha,hv,h1⟩
  ·omega
  ·refine ⟨fun j=>if j=0 then a.1 else v,rfl,fun j hj=>?_⟩
   obtain rfl:j=0:=by omega
   exact ⟨h,a,ha,rfl,hv,h1⟩
 | r+1,v,h=>by
  rcases T9 A (r+1) v with h1 | ⟨a,ha,hv,h1⟩
  ·omega
  ·have h2:=WG A r a.1
   have h3:=WH ha r
   rw [hv] at h3
   have h4:DD A (r+1) a.1<DD A r a.1:=by omega
   obtain ⟨x,hx,hj⟩:=Qw h4
   obtain ⟨y,hy1,hy2⟩:∃ y:Nat→Nat,y (r+2)=v∧∀ j,j≠r+2→y j=x j:=⟨fun j=>if j=r+2 then v else x j,if_pos rfl,fun j h=>if_neg h⟩
   refine ⟨y,hy1,fun j hjr=>?_⟩
   by_cases h5:j=r+1
   ·subst h5
    rw [show r+1+1=r+2 from rfl,hy1,hy2 _ (by omega)]
    exact ⟨h,a,ha,hx.symm,hv,by rw [hx]; exact h1⟩
   ·rw [hy2 _ (by omega),hy2 _ (by omega)]
    exact hj j (by omega)
theorem Kd:∀ (n:Nat) (l:List Nat),l.Nodup→(∀ x∈l,x<n)→l.length≤n
 | 0,l,_,h=>by
  cases l with
  | nil=>exact Nat.le_refl _
  | cons x l=>exact absurd (h x (by simp)) (Nat.not_lt_zero _)
 | n+1,l,hd,h=>by
  have h1:=Kd n (l.filter (· != n)) (hd.filter _) (fun x hx=>by
   have:=h x (List.mem_filter.1 hx).1
   have h2:=(List.mem_filter.1 hx).2
   simp at h2; omega)
  have h2:l.length=(l.filter (· != n)).length+l.count n:=by
   clear hd h h1
   induction l with
   | nil=>rfl
   | cons x l ih =>
    rw [List.count_cons,List.filter_cons]
    by_cases hx:x=n
    ·subst hx; simp; omega
    ·simp [hx]; omega
  have h3:l.count n≤1:=List.nodup_iff_count.1 hd n
  omega
theorem WI {n:Nat} {x:Nat→Nat} (h:∀ j,j≤n→x j<n):∃ i j,i<j∧j≤n∧x i=x j:=by
 refine Classical.byContradiction fun hn=>?_
 have hd:((List.range (n+1)).map x).Nodup:=by
  rw [List.nodup_iff_pairwise_ne,List.pairwise_map]
  refine List.Pairwise.imp_of_mem (R:=fun a b=>a<b) (fun {a b} ha hb hab he=>hn ⟨a,b,hab,?_,he⟩) List.pairwise_lt_range
  have:=List.mem_range.1 hb; omega
 have h1:=Kd n _ hd fun y hy=>by
  obtain ⟨j,hj,rfl⟩:=List.mem_map.1 hy
  exact h j (by have:=List.mem_range.1 hj; omega)
 simp at h1
 omega
/-- As many rounds as there are nodes are enough. -/
theorem Adi {A:List Ar} {n:Nat} {q:Nat→Int} (hq:Fea A q) (hA:∀ a∈A,a.1<n∧a.2.1<n) (v:Nat):DD A (n+1) v=DD A n v:=by
 have h1:=WG A n v
 refine Classical.byContradiction fun hne=>?_
 obtain ⟨x,-,hx⟩:=Qw (show DD A (n+1) v<DD A n v by omega)
 obtain ⟨i,j,hij,hjn,he⟩:=WI (n:=n) (x:=fun j=>x (j+1)) (fun j hj=>by
  obtain ⟨_,a,ha,_,h2,_⟩:=hx j hj
  rw [← h2]; exact (hA a ha).2)
 have hmono:∀ k,i+k≤n→DD A (i+1) (x (i+1)) - q (x (i+1))≤DD A (i+k+1) (x (i+k+1)) - q (x (i+k+1)):=by
  intro k
  induction k with
  | zero=>intro _; exact Int.le_refl _
  | succ k ih =>
   intro hk
   have h2:=ih (by omega)
   obtain ⟨_,a,ha,h3,h4,h5⟩:=hx (i+k+1) hk
   have h6:=hq a ha
   rw [h3,h4] at h6
   show _≤DD A (i+(k+1)+1) (x (i+(k+1)+1)) - q (x (i+(k+1)+1))
   rw [show i+(k+1)+1=i+k+1+1 by omega,h5]
   omega
 have h2:=hmono (j - i) (by omega)
 rw [show i+(j - i)+1=j+1 by omega,← he] at h2
 have h3:=(hx j hjn).1
 rw [← he] at h3
 have h4:=Kc A (x (i+1)) (show i+1≤j by omega)
 omega
theorem Ss {A:List Ar} {n:Nat} {q:Nat→Int} (hq:Fea A q) (hA:∀ a∈A,a.1<n∧a.2.1<n):Fea A (DD A n):=fun a ha=>by
 have h1:=WH ha n
 rw [Adi hq hA] at h1
 exact h1
theorem TA {A:List Ar} {m:Int} (h0:0≤m) (hA:∀ a∈A,-m≤a.2.2):∀ (r v:Nat),-(r*m)≤DD A r v
 | 0,v=>by simp [DD]
 | r+1,v=>by
  have e:((r+1:Nat):Int)*m=r*m+m:=by rw [Int.natCast_add,Int.add_mul]; simp
  rcases T9 A r v with h | ⟨a,ha,hv,h⟩
  ·rw [h,e]; have:=TA h0 hA r v; omega
  ·rw [h,e]; have:=TA h0 hA r a.1; have:=hA a ha; omega
/-! ### Relaxing in place -/
theorem TB (p:Nat→Int) (a:Ar) (v:Nat):Hg p a v≤p v:=by
 unfold Hg
 split
 ·unfold upd
  split
  ·rename_i h1 h2; subst h2; omega
  ·exact Int.le_refl _
 ·exact Int.le_refl _
theorem YO {p f:Nat→Int} {a:Ar} (hf:f a.2.1≤f a.1+a.2.2) (h:∀ v,f v≤p v) (v:Nat):f v≤Hg p a v:=by
 unfold Hg
 split
 ·unfold upd
  split
  ·rename_i h1 h2; subst h2; have:=h a.1; omega
  ·exact h v
 ·exact h v
theorem WJ (p:Nat→Int) (a:Ar):Hg p a a.2.1≤p a.1+a.2.2:=by
 unfold Hg
 split
 ·unfold upd; rw [if_pos rfl]; exact Int.le_refl _
 ·omega
theorem Ke:∀ (A:List Ar) (p:Nat→Int) (v:Nat),A.foldl Hg p v≤p v
 | [],_,_=>Int.le_refl _
 | a::A,p,v=>Int.le_trans (Ke A _ v) (TB p a v)
theorem Pe {f:Nat→Int}:∀ {A:List Ar} {p:Nat→Int},Fea A f→(∀ v,f v≤p v)→∀ v,f v≤A.foldl Hg p v
 | [],_,_,h,v=>h v
 | a::_,_,hf,h,v=>Pe (fun b hb=>hf b (List.mem_cons_of_mem _ hb)) (YO (hf a (List.mem_cons_self ..)) h) v
theorem Qx {q:Nat→Int}:∀ {A:List Ar} {p:Nat→Int},(∀ v,p v≤q v)→∀ a∈A,A.foldl Hg p a.2.1≤q a.1+a.2.2
 | b::A,p,h,a,ha=>by
  rw [List.foldl_cons]
  rcases List.mem_cons.1 ha with rfl | ha
  ·have h1:=Ke A (Hg p a) a.2.1
   have h2:=WJ p a
   have:=h a.1
   omega
  ·exact Qx (fun v=>Int.le_trans (TB p b v) (h v)) a ha
/-- Rounds. -/
def E6 (A:List Ar):Nat→(Nat→Int)→Nat→Int
 | 0,p=>p
 | r+1,p=>A.foldl Hg (E6 A r p)
theorem IZ (A:List Ar):∀ (r:Nat) (v:Nat),E6 A r (fun _=>0) v≤DD A r v
 | 0,v=>Int.le_refl _
 | r+1,v=>by
  show A.foldl Hg (E6 A r fun _=>0) v≤_
  rcases T9 A r v with h | ⟨a,ha,hv,h⟩
  ·rw [h]; exact Int.le_trans (Ke A _ v) (IZ A r v)
  ·rw [h,← hv]; exact Qx (IZ A r) a ha
theorem Ja {A:List Ar} {f:Nat→Int} (hf:Fea A f) (h0:∀ v,f v≤0):∀ (r v:Nat),f v≤E6 A r (fun _=>0) v
 | 0,v=>h0 v
 | r+1,v=>Pe hf (Ja hf h0 r) v
/-- Numbers made anew fit, and are small. -/
theorem UE {A:List Ar} {n:Nat} {q:Nat→Int} (hq:Fea A q) (hA:∀ a∈A,a.1<n∧a.2.1<n):Fea A (E6 A n fun _=>0):=by
 have hf:=Ss hq hA
 have h0:∀ v,DD A n v≤0:=fun v=>Kc A v (Nat.zero_le n)
 have he:∀ v,E6 A n (fun _=>0) v=DD A n v:=fun v=>Int.le_antisymm (IZ A n v) (Ja hf h0 n v)
 intro a ha
 rw [he,he]
 exact hf a ha
theorem WK {A:List Ar} {n:Nat} {q:Nat→Int} (hq:Fea A q) (hA:∀ a∈A,a.1<n∧a.2.1<n) {m:Int} (hm:0≤m) (hc:∀ a∈A,-m≤a.2.2) (r v:Nat) : -(n*m)≤E6 A r (fun _=>0) v∧E6 A r (fun _=>0) v≤0 :=
 ⟨Int.le_trans (TA hm hc n v) (Ja (Ss hq hA) (fun v=>Kc A v (Nat.zero_le n)) r v),Int.le_trans (IZ A r v) (Kc A v (Nat.zero_le r))⟩

end Go.Proofs.YtapphbmlkdhnmaaGreat

/- Plain law of flows: sums, what comes to a node, what stands over; cuts; the best is the least. -/
namespace Go.Proofs.YtapphbmlkdhnmaaGreat
open Go.GV

theorem Su (a b:Int):a<b∨b≤a:=by omega
def Bx (f:Nat→Int):Nat→Int
 | 0=>0
 | k+1=>Bx f k+f k
theorem C3 {f g:Nat→Int}:∀ {k:Nat},(∀ i,i<k→f i=g i)→Bx f k=Bx g k
 | 0,_=>rfl
 | k+1,h=>by
  show Bx f k+f k=Bx g k+g k
  rw [C3 fun i hi=>h i (by omega),h k (by omega)]
theorem L5 (f g:Nat→Int):∀ k,Bx (fun i=>f i+g i) k=Bx f k+Bx g k
 | 0=>rfl
 | k+1=>by
  show Bx _ k+(f k+g k)=(Bx f k+f k)+(Bx g k+g k)
  rw [L5 f g k]; omega
theorem L6 (f:Nat→Int):∀ k,Bx (fun i => -f i) k = -Bx f k
 | 0=>rfl
 | k+1=>by
  show Bx _ k + -f k = -(Bx f k+f k)
  rw [L6 f k]; omega
theorem Jb (f g:Nat→Int) (k:Nat):Bx (fun i=>f i - g i) k=Bx f k - Bx g k:=by
 have h:=L5 f (fun i => -g i) k
 rw [L6] at h
 exact h
theorem Pf (c:Int) (f:Nat→Int):∀ k,Bx (fun i=>c*f i) k=c*Bx f k
 | 0=>by show (0:Int)=c*0; omega
 | k+1=>by
  show Bx _ k+c*f k=c*(Bx f k+f k)
  rw [Pf c f k,Int.mul_add]
theorem Gv:∀ k,Bx (fun _=>0) k=0
 | 0=>rfl
 | k+1=>by show Bx _ k+0=0; rw [Gv k]; rfl
theorem Gw {f:Nat→Int}:∀ {k:Nat},(∀ i,i<k→0≤f i)→0≤Bx f k
 | 0,_=>Int.le_refl _
 | k+1,h=>by
  have:=Gw (k:=k) fun i hi=>h i (by omega)
  have:=h k (by omega)
  show 0≤Bx f k+f k
  omega
theorem I2 {f g:Nat→Int} {k:Nat} (h:∀ i,i<k→f i≤g i):Bx f k≤Bx g k:=by
 have h1:=Gw (f:=fun i=>g i - f i) (k:=k) fun i hi=>by have:=h i hi; omega
 rw [Jb] at h1
 omega
theorem Pg {f:Nat→Int}:∀ {k:Nat} {j:Nat},(∀ i,i<k→0≤f i)→j<k→0<f j→0<Bx f k
 | k+1,j,h,hj,hp=>by
  show 0<Bx f k+f k
  have h1:=Gw (k:=k) fun i hi=>h i (by omega)
  have h2:=h k (by omega)
  by_cases e:j=k
  ·subst e; omega
  ·have:=Pg (k:=k) (j:=j) (fun i hi=>h i (by omega)) (by omega) hp
   omega
theorem M6 (f:Nat→Nat→Int) (m:Nat):∀ k,Bx (fun i=>Bx (f i) m) k=Bx (fun j=>Bx (fun i=>f i j) k) m
 | 0=>(Gv m).symm
 | k+1=>by
  show Bx _ k+Bx (f k) m=Bx (fun j=>Bx (fun i=>f i j) k+f k j) m
  rw [L5,M6 f m k]
/-- 1 if so. -/
def one (b:Prop) [Decidable b]:Int:=if b then 1 else 0
theorem FY (g:Nat→Int) {u:Nat}:∀ {k:Nat},u<k→Bx (fun v=>one (u=v)*g v) k=g u
 | k+1,h=>by
  show Bx _ k+one (u=k)*g k=g u
  by_cases e:u=k
  ·subst e
   have h1:Bx (fun v=>one (u=v)*g v) u=Bx (fun _=>0) u:=C3 fun i hi=>by
    unfold one; rw [if_neg (by omega)]; omega
   rw [h1,Gv,one,if_pos rfl]; omega
  ·rw [FY g (by omega:u<k),one,if_neg e]; omega

/-- Edges between nodes, at a cost. -/
structure Gr where
 N:Nat
 E:Nat
 f:Nat→Nat
 t:Nat→Nat
 co:Nat→Int
structure Gr.Ok (g:Gr):Prop where
 f:∀ i,i<g.E→g.f i<g.N
 t:∀ i,i<g.E→g.t i<g.N
/-- What comes to a node of the first edges, less what goes. -/
def E7 (g:Gr) (x:Nat→Int) (k v:Nat):Int:=Bx (fun i=>(one (g.t i=v) - one (g.f i=v))*x i) k
def B0 (g:Gr) (x:Nat→Int) (v:Nat):Int:=E7 g x g.E v
def GA (g:Gr) (x:Nat→Int):Int:=Bx (fun i=>x i*g.co i) g.E
theorem Sv (g:Gr) (hg:g.Ok) (x r:Nat→Int):Bx (fun v=>B0 g x v*r v) g.N=Bx (fun i=>(r (g.t i) - r (g.f i))*x i) g.E:=by
 have h1:Bx (fun v=>B0 g x v*r v) g.N=Bx (fun v=>Bx (fun i=>(one (g.t i=v) - one (g.f i=v))*x i*r v) g.E) g.N:=C3 fun v _=>by
  unfold B0 E7
  rw [Int.mul_comm,← Pf]
  exact C3 fun i _=>by rw [Int.mul_comm]
 rw [h1,← M6]
 refine C3 fun i hi=>?_
 have h2:Bx (fun v=>(one (g.t i=v) - one (g.f i=v))*x i*r v) g.N=Bx (fun v=>one (g.t i=v)*(x i*r v) - one (g.f i=v)*(x i*r v)) g.N:=C3 fun v _=>by
  rw [Int.mul_assoc,Int.sub_mul]
 rw [h2,Jb,FY (fun v=>x i*r v) (hg.t i hi),FY (fun v=>x i*r v) (hg.f i hi),Int.sub_mul,Int.mul_comm (r _),Int.mul_comm (r _)]
theorem over_all (g:Gr) (hg:g.Ok) (x:Nat→Int):Bx (B0 g x) g.N=0:=by
 have h:=Sv g hg x fun _=>1
 have h1:Bx (fun v=>B0 g x v*1) g.N=Bx (B0 g x) g.N:=C3 fun v _=>by omega
 rw [← h1,h]
 have h2:Bx (fun i=>((1:Int) - 1)*x i) g.E=Bx (fun _=>0) g.E:=C3 fun i _=>by omega
 rw [h2,Gv]

/-! ### Arcs -/
def Gr.u (g:Gr) (a:Nat):Nat:=if a % 2=0 then g.f (a / 2) else g.t (a / 2)
def Gr.v (g:Gr) (a:Nat):Nat:=if a % 2=0 then g.t (a / 2) else g.f (a / 2)
def Gr.c (g:Gr) (a:Nat):Int:=if a % 2=0 then g.co (a / 2) else -g.co (a / 2)
def C6 (cap x:Nat→Int) (a:Nat):Int:=if a % 2=0 then cap (a / 2) - x (a / 2) else x (a / 2)
def Gr.len (g:Gr) (p:Nat→Int) (a:Nat):Int:=g.c a+p (g.u a) - p (g.v a)
/-- A flow within its caps, and numbers that fit it. -/
structure Fine (g:Gr) (cap x p:Nat→Int):Prop where
 in':∀ i,i<g.E→0≤x i∧x i≤cap i
 fit:∀ a,a<2*g.E→0<C6 cap x a→0≤g.len p a
theorem Gr.Ok.u {g:Gr} (h:g.Ok) {a:Nat} (ha:a<2*g.E):g.u a<g.N:=by
 unfold Gr.u; split
 ·exact h.f _ (by omega)
 ·exact h.t _ (by omega)
theorem Gr.Ok.v {g:Gr} (h:g.Ok) {a:Nat} (ha:a<2*g.E):g.v a<g.N:=by
 unfold Gr.v; split
 ·exact h.t _ (by omega)
 ·exact h.f _ (by omega)
theorem I3 (g:Gr) (i:Nat):g.u (2*i)=g.f i∧g.v (2*i)=g.t i∧g.c (2*i)=g.co i:=by
 unfold Gr.u Gr.v Gr.c
 rw [if_pos (by omega),if_pos (by omega),if_pos (by omega),show 2*i / 2=i by omega]
 exact ⟨rfl,rfl,rfl⟩
theorem Kf (g:Gr) (i:Nat):g.u (2*i+1)=g.t i∧g.v (2*i+1)=g.f i∧g.c (2*i+1) = -g.co i:=by
 unfold Gr.u Gr.v Gr.c
 rw [if_neg (by omega),if_neg (by omega),if_neg (by omega),show (2*i+1) / 2=i by omega]
 exact ⟨rfl,rfl,rfl⟩
theorem Fine.fwd {g:Gr} {cap x p:Nat→Int} (h:Fine g cap x p) {i:Nat} (hi:i<g.E) (hr:x i<cap i):0≤g.co i+p (g.f i) - p (g.t i):=by
 have h1:=h.fit (2*i) (by omega) (by unfold C6; rw [if_pos (by omega),show 2*i / 2=i by omega]; omega)
 obtain ⟨a,b,c⟩:=I3 g i
 unfold Gr.len at h1
 rwa [a,b,c] at h1
theorem Fine.bwd {g:Gr} {cap x p:Nat→Int} (h:Fine g cap x p) {i:Nat} (hi:i<g.E) (hr:0<x i):g.co i+p (g.f i) - p (g.t i)≤0:=by
 have h1:=h.fit (2*i+1) (by omega) (by unfold C6; rw [if_neg (by omega),show (2*i+1) / 2=i by omega]; exact hr)
 obtain ⟨a,b,c⟩:=Kf g i
 unfold Gr.len at h1
 rw [a,b,c] at h1
 omega
theorem Fine.of {g:Gr} {cap x p:Nat→Int} (h0:∀ i,i<g.E→0≤x i∧x i≤cap i) (h1:∀ i,i<g.E→x i<cap i→0≤g.co i+p (g.f i) - p (g.t i)) (h2:∀ i,i<g.E→0<x i→g.co i+p (g.f i) - p (g.t i)≤0):Fine g cap x p:=by
 refine ⟨h0,fun a ha hr=>?_⟩
 have hm:a % 2=0∨a % 2=1:=by omega
 unfold Gr.len
 rcases hm with hm | hm
 ·obtain ⟨b,c,d⟩:=I3 g (a / 2)
  rw [show 2*(a / 2)=a by omega] at b c d
  rw [b,c,d]
  unfold C6 at hr
  rw [if_pos hm] at hr
  exact h1 _ (by omega) (by omega)
 ·obtain ⟨b,c,d⟩:=Kf g (a / 2)
  rw [show 2*(a / 2)+1=a by omega] at b c d
  rw [b,c,d]
  unfold C6 at hr
  rw [if_neg (by omega)] at hr
  have:=h2 _ (by omega) hr
  omega
/-- A flow with numbers that fit costs no more than any other one that goes round. -/
theorem Fine.best {g:Gr} (hg:g.Ok) {cap x p:Nat→Int} (h:Fine g cap x p) (hx:∀ v,v<g.N→B0 g x v=0) {y:Nat→Int} (hy:∀ i,i<g.E→0≤y i∧y i≤cap i) (hyo:∀ v,v<g.N→B0 g y v=0):GA g x≤GA g y:=by
 have hz:∀ z:Nat→Int,(∀ v,v<g.N→B0 g z v=0)→GA g z=Bx (fun i=>(g.co i+p (g.f i) - p (g.t i))*z i) g.E:=fun z hz=>by
  have h1:=Sv g hg z p
  have h2:Bx (fun v=>B0 g z v*p v) g.N=Bx (fun _=>0) g.N:=C3 fun v hv=>by rw [hz v hv]; omega
  rw [h2,Gv] at h1
  have h3:Bx (fun i=>(g.co i+p (g.f i) - p (g.t i))*z i) g.E=Bx (fun i=>z i*g.co i - (p (g.t i) - p (g.f i))*z i) g.E:=C3 fun i _=>by
   rw [Int.mul_comm (z i),← Int.sub_mul]; congr 1; omega
  rw [h3,Jb,← h1]
  unfold GA
  omega
 rw [hz x hx,hz y hyo]
 refine I2 fun i hi=>?_
 obtain ⟨a,b⟩:=h.in' i hi
 obtain ⟨c,d⟩:=hy i hi
 rcases Su (g.co i+p (g.f i) - p (g.t i)) 0 with h5 | h5
 ·have h6:x i=cap i:=by
   rcases Su (x i) (cap i) with h7 | h7
   ·have:=h.fwd hi h7; omega
   ·omega
  exact Int.mul_le_mul_of_nonpos_left (by omega) (by omega)
 ·rcases Su 0 (g.co i+p (g.f i) - p (g.t i)) with h6 | h6
  ·have h7:x i=0:=by
    rcases Su 0 (x i) with h7 | h7
    ·have:=h.bwd hi h7; omega
    ·omega
   exact Int.mul_le_mul_of_nonneg_left (by omega) (by omega)
  ·rw [show g.co i+p (g.f i) - p (g.t i)=0 by omega]; omega

end Go.Proofs.YtapphbmlkdhnmaaGreat

/- Plain law of shortest ways: labels of nodes, set right arc by arc. -/
namespace Go.Proofs.YtapphbmlkdhnmaaGreat
open Go.GV

/-- Labels of nodes: how far (below 0: not reached), over how many arcs. -/
structure Lb where
 d:Nat→Int
 h:Nat→Nat
def le2 (d1:Int) (h1:Nat) (d2:Int) (h2:Nat):Prop:=d1<d2∨(d1=d2∧h1≤h2)
theorem le2.trans {a b c:Int} {x y z:Nat} (h1:le2 a x b y) (h2:le2 b y c z):le2 a x c z:=by unfold le2 at *; omega
theorem le2.refl (a:Int) (x:Nat):le2 a x a x := .inr ⟨rfl,Nat.le_refl _⟩
def D7 (s:Lb) (v:Nat) (d:Int) (h:Nat):Prop:=s.d v = -1∨d<s.d v∨(d=s.d v∧h<s.h v)
instance (s:Lb) (v:Nat) (d:Int) (h:Nat):Decidable (D7 s v d h):=by unfold D7; infer_instance
def Gx (s:Lb) (v:Nat) (d:Int) (h:Nat):Lb:=⟨fun u=>if u=v then d else s.d u,fun u=>if u=v then h else s.h u⟩
def FJ (s:Lb) (a:Ar):Lb:=if D7 s a.2.1 (s.d a.1+a.2.2) (s.h a.1+1) then Gx s a.2.1 (s.d a.1+a.2.2) (s.h a.1+1) else s
def GQ (s:Lb) (a:Ar) (hp:List (Int × Nat)):List (Int × Nat):=if D7 s a.2.1 (s.d a.1+a.2.2) (s.h a.1+1) then (s.d a.1+a.2.2,a.2.1)::hp else hp
/-- Arcs that may be. -/
def Ph (A:List Ar) (n:Nat) (m:Int):Prop:=∀ a∈A,a.1<n∧a.2.1<n∧0≤a.2.2∧a.2.2≤m
structure DJ (A:List Ar) (src:List Nat) (n:Nat) (m:Int) (s:Lb):Prop where
 low:∀ v,s.d v = -1∨0≤s.d v
 src':∀ v∈src,v<n∧s.d v=0∧s.h v=0
 zero:∀ v,s.d v ≠ -1→s.h v=0→v∈src
 none':∀ v,s.d v = -1→s.h v=0
 pre:∀ v,s.d v ≠ -1→s.h v≠0→∃ a∈A,a.2.1=v∧s.d a.1 ≠ -1∧le2 (s.d a.1+a.2.2) (s.h a.1+1) (s.d v) (s.h v)
 walk:∀ v,s.d v ≠ -1→∃ W:List Nat,W.Nodup∧W.length=s.h v+1∧∀ x∈W,x<n∧s.d x ≠ -1∧le2 (s.d x) (s.h x) (s.d v) (s.h v)
 bnd:∀ v,s.d v ≠ -1→s.d v≤s.h v*m
def Rlx (s:Lb) (a:Ar):Prop:=s.d a.2.1 ≠ -1∧le2 (s.d a.2.1) (s.h a.2.1) (s.d a.1+a.2.2) (s.h a.1+1)
/-- Each node's arcs are done, or it waits; of u those of done are. -/
def Clo (A:List Ar) (s:Lb) (hp:List (Int × Nat)) (u:Nat) (done:List Ar):Prop :=
 ∀ v,s.d v ≠ -1→(s.d v,v)∈hp∨∀ a∈A,a.1=v→(v=u→a∈done)→Rlx s a
def WL (n:Nat) (m:Int) (s:Lb) (v:Nat):Int:=if s.d v = -1 then n*m*64+64 else s.d v*64+s.h v
def meas (n:Nat) (m:Int) (s:Lb) (hp:List (Int × Nat)):Int:=2*Bx (WL n m s) n+hp.length
theorem DJ.hops {A:List Ar} {src:List Nat} {n:Nat} {m:Int} {s:Lb} (J:DJ A src n m s) {v:Nat} (hv:s.d v ≠ -1):s.h v+1≤n:=by
 obtain ⟨W,h1,h2,h3⟩:=J.walk v hv
 rw [← h2]
 exact Kd n W h1 fun x hx=>(h3 x hx).1
section
variable {A:List Ar} {src:List Nat} {n:Nat} {m:Int} {s:Lb} {hp:List (Int × Nat)} {u:Nat} {dn:List Ar} {a:Ar}
theorem DJ.relax (hA:Ph A n m) (hm:0≤m) (hn:n≤60) (J:DJ A src n m s) (K:Clo A s hp u dn) (ha:a∈A) (hu:a.1=u) (hd:s.d u ≠ -1) :
  DJ A src n m (FJ s a)∧Clo A (FJ s a) (GQ s a hp) u (dn++[a])∧(FJ s a).d u=s.d u∧(FJ s a).h u=s.h u∧meas n m (FJ s a) (GQ s a hp)≤meas n m s hp:=by
 subst hu
 obtain ⟨hu1,hv1,hl0,hlm⟩:=hA a ha
 have hdu:=(J.low a.1).resolve_left hd
 by_cases hb:D7 s a.2.1 (s.d a.1+a.2.2) (s.h a.1+1)
 ·obtain ⟨d',hd'⟩:∃ d',d'=s.d a.1+a.2.2:=⟨_,rfl⟩
  obtain ⟨h',hh'⟩:∃ h',h'=s.h a.1+1:=⟨_,rfl⟩
  obtain ⟨v,hv⟩:∃ v,v=a.2.1:=⟨_,rfl⟩
  have hS:FJ s a=Gx s v d' h':=by unfold FJ; rw [if_pos hb,hd',hh',hv]
  have hH:GQ s a hp=(d',v)::hp:=by unfold GQ; rw [if_pos hb,hd',hv]
  rw [← hd',← hh',← hv] at hb
  rw [← hv] at hv1
  have hvu:v≠a.1:=fun e=>by
   unfold D7 at hb; rw [e] at hb
   omega
  rw [hS,hH]
  have p1:(Gx s v d' h').d v=d':=if_pos rfl
  have p2:(Gx s v d' h').h v=h':=if_pos rfl
  have p3:∀ x,x≠v→(Gx s v d' h').d x=s.d x:=fun x hx=>if_neg hx
  have p4:∀ x,x≠v→(Gx s v d' h').h x=s.h x:=fun x hx=>if_neg hx
  have hsrc:v∉src:=fun hs=>by
   obtain ⟨_,q1,q2⟩:=J.src' v hs
   unfold D7 at hb; rw [q1,q2] at hb; omega
  -- labels become no greater
  have hless:∀ x,s.d x ≠ -1→(Gx s v d' h').d x ≠ -1∧le2 ((Gx s v d' h').d x) ((Gx s v d' h').h x) (s.d x) (s.h x):=fun x hx=>by
   by_cases e:x=v
   ·subst e
    rw [p1,p2]
    unfold D7 at hb
    exact ⟨by omega,by unfold le2; omega⟩
   ·rw [p3 x e,p4 x e]; exact ⟨hx,le2.refl _ _⟩
  have hadd:∀ {x:Nat} (l:Int),s.d x ≠ -1→le2 ((Gx s v d' h').d x+l) ((Gx s v d' h').h x+1) (s.d x+l) (s.h x+1):=fun {x} l hx=>by
   have:=(hless x hx).2; unfold le2 at *; omega
  -- the way to v
  obtain ⟨W,w1,w2,w3⟩:=J.walk a.1 hd
  have hvW:v∉W:=fun hx=>by
   have q:=(w3 v hx).2
   unfold D7 at hb; unfold le2 at q
   omega
  have hWn:(W++[v]).Nodup:=by
   rw [List.nodup_append]
   exact ⟨w1,by simp,fun x hx y hy e=>by rw [List.mem_singleton.1 hy] at e; exact hvW (e ▸ hx)⟩
  have hWl:(W++[v]).length=h'+1:=by rw [List.length_append,w2,hh']; rfl
  have hh'n:h'+1≤n:=by
   rw [← hWl]
   exact Kd n _ hWn fun x hx=>(List.mem_append.1 hx).elim (fun h=>(w3 x h).1) fun h=>by rw [List.mem_singleton.1 h]; exact hv1
  have hbd:d'≤h'*m:=by
   have q:=J.bnd a.1 hd
   rw [hd',hh',Int.natCast_add,Int.add_mul]; simp; omega
  have J':DJ A src n m (Gx s v d' h'):=by
   refine ⟨fun x=>?_,fun x hx=>?_,fun x hx h0=>?_,fun x hx=>?_,fun x hx h0=>?_,fun x hx=>?_,fun x hx=>?_⟩
   ·by_cases e:x=v
    ·subst e; rw [p1]; omega
    ·rw [p3 x e]; exact J.low x
   ·have e:x≠v:=fun e=>hsrc (e ▸ hx)
    rw [p3 x e,p4 x e]; exact J.src' x hx
   ·by_cases e:x=v
    ·subst e; rw [p2] at h0; omega
    ·rw [p3 x e] at hx; rw [p4 x e] at h0; exact J.zero x hx h0
   ·by_cases e:x=v
    ·subst e; rw [p1] at hx; omega
    ·rw [p3 x e] at hx; rw [p4 x e]; exact J.none' x hx
   ·by_cases e:x=v
    ·subst e
     refine ⟨a,ha,hv.symm,?_,?_⟩
     ·rw [p3 _ (Ne.symm hvu)]; exact hd
     ·rw [p1,p2,p3 _ (Ne.symm hvu),p4 _ (Ne.symm hvu),← hd',← hh']; exact le2.refl _ _
    ·rw [p3 x e] at hx ⊢; rw [p4 x e] at h0 ⊢
     obtain ⟨b,hb1,hb2,hb3,hb4⟩:=J.pre x hx h0
     exact ⟨b,hb1,hb2,(hless _ hb3).1,(hadd _ hb3).trans hb4⟩
   ·by_cases e:x=v
    ·subst e
     refine ⟨W++[x],hWn,by rw [hWl,p2],fun y hy=>?_⟩
     rw [p1,p2]
     rcases List.mem_append.1 hy with hy | hy
     ·obtain ⟨q1,q2,q3⟩:=w3 y hy
      refine ⟨q1,(hless y q2).1,(hless y q2).2.trans (q3.trans ?_)⟩
      unfold le2; omega
     ·rw [List.mem_singleton.1 hy,p1,p2]
      exact ⟨hv1,by omega,le2.refl _ _⟩
    ·rw [p3 x e] at hx ⊢; rw [p4 x e]
     obtain ⟨W2,q1,q2,q3⟩:=J.walk x hx
     exact ⟨W2,q1,q2,fun y hy=>⟨(q3 y hy).1,(hless y (q3 y hy).2.1).1,(hless y (q3 y hy).2.1).2.trans (q3 y hy).2.2⟩⟩
   ·by_cases e:x=v
    ·subst e; rw [p1,p2]; exact hbd
    ·rw [p3 x e] at hx ⊢; rw [p4 x e]; exact J.bnd x hx
  have hval:∀ x,WL n m (Gx s v d' h') x≤WL n m s x - one (v=x):=fun x=>by
   by_cases e:x=v
   ·subst e
    unfold one; rw [if_pos rfl]
    unfold WL
    rw [p1,p2,if_neg (show ¬ d' = -1 by omega)]
    split
    ·have q:(h':Int)*m≤(n:Int)*m:=Int.mul_le_mul_of_nonneg_right (by omega) hm
     omega
    ·have q1:=(J.low x).resolve_left ‹_›
     unfold D7 at hb
     omega
   ·have e1:one (v=x)=0:=if_neg fun h=>e h.symm
    unfold WL
    rw [p3 x e,p4 x e,e1,Int.sub_zero]
    exact Int.le_refl _
  refine ⟨J',fun x hx=>?_,p3 _ (Ne.symm hvu),p4 _ (Ne.symm hvu),?_⟩
  ·by_cases e:x=v
   ·subst e; left; rw [p1]; exact List.mem_cons_self ..
   ·rw [p3 x e] at hx ⊢
    rcases K x hx with q | q
    ·exact .inl (List.mem_cons_of_mem _ q)
    ·refine .inr fun b hb1 hb2 hb3=>?_
     by_cases eb:b=a
     ·subst eb
      refine ⟨by rw [← hv,p1]; omega,?_⟩
      rw [← hv,p1,p2,p3 _ (Ne.symm hvu),p4 _ (Ne.symm hvu),← hd',← hh']; exact le2.refl _ _
     ·obtain ⟨r1,r2⟩:=q b hb1 hb2 fun h=>(List.mem_append.1 (hb3 h)).resolve_right fun h=>eb (List.mem_singleton.1 h)
      refine ⟨(hless _ r1).1,(hless _ r1).2.trans ?_⟩
      have eb1:b.1≠v:=by rw [hb2]; exact e
      rw [p3 _ eb1,p4 _ eb1]; exact r2
  ·unfold meas
   have q1:=I2 (k:=n) fun i _=>hval i
   rw [Jb] at q1
   have q2:=FY (fun _=>(1:Int)) hv1
   have q3:Bx (fun x=>one (v=x)) n=Bx (fun x=>one (v=x)*1) n:=C3 fun i _=>by omega
   rw [← q3] at q2
   rw [List.length_cons]
   omega
 ·have hS:FJ s a=s:=by unfold FJ; rw [if_neg hb]
  have hH:GQ s a hp=hp:=by unfold GQ; rw [if_neg hb]
  rw [hS,hH]
  refine ⟨J,fun x hx=>?_,rfl,rfl,Int.le_refl _⟩
  rcases K x hx with q | q
  ·exact .inl q
  ·refine .inr fun b hb1 hb2 hb3=>?_
   by_cases eb:b=a
   ·subst eb
    unfold D7 at hb
    unfold Rlx le2
    omega
   ·exact q b hb1 hb2 fun h=>(List.mem_append.1 (hb3 h)).resolve_right fun h=>eb (List.mem_singleton.1 h)
/-- The first labels: some nodes at no distance. -/
def lb0 (src:List Nat):Lb:=⟨fun v=>if v∈src then 0 else -1,fun _=>0⟩
theorem DJ.start (hs:∀ v∈src,v<n):DJ A src n m (lb0 src):=by
 have h1:∀ v,(lb0 src).d v ≠ -1→v∈src:=fun v hv=>Classical.byContradiction fun h=>hv (if_neg h)
 refine ⟨fun v=>?_,fun v hv=>⟨hs v hv,if_pos hv,rfl⟩,fun v hv _=>h1 v hv,fun v _=>rfl,fun v _ h=>absurd rfl h,fun v hv=>⟨[v],by simp,rfl,fun x hx=>?_⟩,fun v hv=>?_⟩
 ·unfold lb0; dsimp only; split
  ·exact .inr (Int.le_refl _)
  ·exact .inl rfl
 ·rw [List.mem_singleton.1 hx]; exact ⟨hs v (h1 v hv),hv,le2.refl _ _⟩
 ·have:(lb0 src).d v=0:=if_pos (h1 v hv)
  rw [this]; show (0:Int)≤((0:Nat):Int)*m; omega
/-- What the labels tell in the end. -/
structure Done (A:List Ar) (src:List Nat) (n:Nat) (m:Int) (s:Lb):Prop where
 J:DJ A src n m s
 arc:∀ a∈A,s.d a.1 ≠ -1→s.d a.2.1 ≠ -1∧s.d a.2.1≤s.d a.1+a.2.2
 pre:∀ v,s.d v ≠ -1→s.h v≠0→∃ a∈A,a.2.1=v∧s.d a.1 ≠ -1∧s.d a.1+a.2.2=s.d v∧s.h a.1+1=s.h v
theorem DJ.ends (J:DJ A src n m s) (K:Clo A s [] u A):Done A src n m s:=by
 have hr:∀ a∈A,s.d a.1 ≠ -1→Rlx s a:=fun a ha h=>(K a.1 h).elim (fun h=>by cases h) fun h=>h a ha rfl fun _=>ha
 refine ⟨J,fun a ha h=>?_,fun v hv h0=>?_⟩
 ·obtain ⟨h1,h2⟩:=hr a ha h
  exact ⟨h1,by unfold le2 at h2; omega⟩
 ·obtain ⟨a,ha,h1,h2,h3⟩:=J.pre v hv h0
  obtain ⟨h4,h5⟩:=hr a ha h2
  rw [h1] at h5
  refine ⟨a,ha,h1,h2,?_,?_⟩
  ·unfold le2 at h3 h5; omega
  ·unfold le2 at h3 h5; omega
end

end Go.Proofs.YtapphbmlkdhnmaaGreat

/- Plain law of flows: a way is filled. -/
namespace Go.Proofs.YtapphbmlkdhnmaaGreat
open Go.GV

/-- The arcs with room, with their lengths. -/
def Lo (g:Gr) (cap x p:Nat→Int):List Ar:=((List.range (2*g.E)).filter fun a=>decide (0<C6 cap x a)).map fun a=>(g.u a,g.v a,g.len p a)
theorem I4 {g:Gr} {cap x p:Nat→Int} {b:Ar}:b∈Lo g cap x p↔∃ a,a<2*g.E∧0<C6 cap x a∧b=(g.u a,g.v a,g.len p a):=by
 unfold Lo
 rw [List.mem_map]
 constructor
 ·rintro ⟨a,ha,rfl⟩
  rw [List.mem_filter,List.mem_range,decide_eq_true_eq] at ha
  exact ⟨a,ha.1,ha.2,rfl⟩
 ·rintro ⟨a,h1,h2,rfl⟩
  exact ⟨a,List.mem_filter.2 ⟨List.mem_range.2 h1,decide_eq_true h2⟩,rfl⟩
theorem Fine.arcs {g:Gr} (hg:g.Ok) {cap x p:Nat→Int} (h:Fine g cap x p) {m:Int} (hm:∀ a,a<2*g.E→g.len p a≤m):Ph (Lo g cap x p) g.N m:=fun b hb=>by
 obtain ⟨a,h1,h2,rfl⟩:=I4.1 hb
 exact ⟨hg.u h1,hg.v h1,h.fit a h1 h2,hm a h1⟩
/-- Where there is over somewhere, it is short somewhere that is reached. -/
theorem reach {g:Gr} (hg:g.Ok) {cap x p:Nat→Int} (h:Fine g cap x p) {src:List Nat} {m:Int} {s:Lb} (D:Done (Lo g cap x p) src g.N m s) {v:Nat} (hv:v<g.N) (hd:s.d v ≠ -1) (ho:0<B0 g x v):∃ w,w<g.N∧s.d w ≠ -1∧B0 g x w<0:=by
 refine Classical.byContradiction fun hn=>?_
 obtain ⟨r,hr⟩:∃ r:Nat→Int,r=fun v=>if s.d v ≠ -1 then 1 else 0:=⟨_,rfl⟩
 have hr1:∀ {v:Nat},s.d v ≠ -1→r v=1:=fun {v} h=>by rw [hr]; exact if_pos h
 have hr0:∀ {v:Nat},s.d v = -1→r v=0:=fun {v} h=>by rw [hr]; exact if_neg fun h2=>h2 h
 have h1:0<Bx (fun v=>B0 g x v*r v) g.N:=by
  refine Pg (j:=v) (fun w hw=>?_) hv (by rw [hr1 hd]; omega)
  by_cases e:s.d w = -1
  ·rw [hr0 e]; omega
  ·rw [hr1 e]
   have:=Int.not_lt.1 fun h5=>hn ⟨w,hw,e,h5⟩
   omega
 rw [Sv g hg x r] at h1
 have h2:Bx (fun i=>(r (g.t i) - r (g.f i))*x i) g.E≤Bx (fun _=>0) g.E:=I2 fun i hi=>by
  obtain ⟨hx0,hx1⟩:=h.in' i hi
  by_cases e1:s.d (g.t i) = -1
  ·rw [hr0 e1]
   by_cases e2:s.d (g.f i) = -1
   ·rw [hr0 e2]; omega
   ·rw [hr1 e2]; omega
  ·rw [hr1 e1]
   by_cases e2:s.d (g.f i) = -1
   ·have e3:x i=0:=by
     rcases Su 0 (x i) with h5 | h5
     ·exfalso
      obtain ⟨a1,a2,a3⟩:=Kf g i
      have:=D.arc _ (I4.2 ⟨2*i+1,by omega,by unfold C6; rw [if_neg (by omega),show (2*i+1) / 2=i by omega]; exact h5,rfl⟩) (by dsimp only; rw [a1]; exact e1)
      dsimp only at this
      rw [a2] at this
      exact this.1 e2
     ·omega
    rw [e3]; omega
   ·rw [hr1 e2]; omega
 rw [Gv] at h2
 omega
/-! ### A way back -/
structure Way1 (g:Gr) (cap x p:Nat→Int) (s:Lb) (a:Nat):Prop where
 lt:a<2*g.E
 room:0<C6 cap x a
 du:s.d (g.u a) ≠ -1
 dv:s.d (g.v a) ≠ -1
 d:s.d (g.u a)+g.len p a=s.d (g.v a)
 h:s.h (g.u a)+1=s.h (g.v a)
/-- Each node's last arc. -/
def Bys (g:Gr) (cap x p:Nat→Int) (s:Lb) (by':Nat→Option Nat):Prop :=
 (∀ v,s.d v = -1∨s.h v=0→by' v=none)∧∀ v,s.d v ≠ -1→s.h v≠0→∃ a,by' v=some a∧Way1 g cap x p s a∧g.v a=v
def D8 (by':Nat→Option Nat) (g:Gr):Nat→Nat→List Nat
 | 0,_=>[]
 | k+1,v=>match by' v with
  | none=>[]
  | some a=>a::D8 by' g k (g.u a)
def KX (by':Nat→Option Nat) (g:Gr):Nat→Nat→Nat
 | 0,v=>v
 | k+1,v=>match by' v with
  | none=>v
  | some a=>KX by' g k (g.u a)
section
variable {g:Gr} {cap x p:Nat→Int} {s:Lb} {by':Nat→Option Nat}
theorem Gf {k v a:Nat} (h:by' v=some a):D8 by' g (k+1) v=a::D8 by' g k (g.u a)∧KX by' g (k+1) v=KX by' g k (g.u a):=by
 constructor
 ·show (match by' v with | none=>[] | some a=>a::D8 by' g k (g.u a))=_
  rw [h]
 ·show (match by' v with | none=>v | some a=>KX by' g k (g.u a))=_
  rw [h]
theorem Jc (hB:Bys g cap x p s by'):∀ {k v:Nat},s.d v ≠ -1→s.h v=k→(∀ a∈D8 by' g k v,Way1 g cap x p s a∧s.h (g.v a)≤k)∧(D8 by' g k v).Pairwise (fun a b=>s.h (g.v b)<s.h (g.v a))∧s.d (KX by' g k v) ≠ -1∧s.h (KX by' g k v)=0
 | 0,v,hd,hk=>⟨(fun a h=>by cases h),List.Pairwise.nil,hd,hk⟩
 | k+1,v,hd,hk=>by
  obtain ⟨a,h1,h2,h3⟩:=hB.2 v hd (by omega)
  obtain ⟨e1,e2⟩:=Gf (g:=g) (k:=k) h1
  have hh:=h2.h
  rw [h3,hk] at hh
  obtain ⟨q1,q2,q3,q4⟩:=Jc hB (k:=k) h2.du (by omega)
  rw [e1,e2]
  refine ⟨fun b hb=>?_,List.Pairwise.cons (fun b hb=>?_) q2,q3,q4⟩
  ·rcases List.mem_cons.1 hb with rfl | hb
   ·exact ⟨h2,by rw [h3]; omega⟩
   ·exact ⟨(q1 b hb).1,by have:=(q1 b hb).2; omega⟩
  ·have:=(q1 b hb).2
   rw [h3]; omega
/-- No edge comes twice. -/
theorem M8 (hB:Bys g cap x p s by') {k v:Nat} (hd:s.d v ≠ -1) (hk:s.h v=k):(D8 by' g k v).Pairwise (fun a b=>a / 2≠b / 2):=by
 obtain ⟨q1,q2,-,-⟩:=Jc hB hd hk
 refine List.Pairwise.imp_of_mem (R:=fun a b=>s.h (g.v b)<s.h (g.v a)) (fun {a b} ha hb hab he=>?_) q2
 have wa:=(q1 a ha).1; have wb:=(q1 b hb).1
 have h1:=wa.h; have h2:=wb.h
 by_cases e:a=b
 ·rw [e] at hab; omega
 ·have hm:a % 2≠b % 2:=by omega
  have e1:g.u a=g.v b:=by
   unfold Gr.u Gr.v; rw [he]
   split
   ·rw [if_neg (by omega)]
   ·rw [if_pos (by omega)]
  have e2:g.v a=g.u b:=by
   unfold Gr.u Gr.v; rw [he]
   split
   ·rw [if_neg (by omega)]
   ·rw [if_pos (by omega)]
  rw [e1] at h1; rw [e2] at h1 hab
  omega
end
/-! ### Pushing -/
def Hh (m:Int) (x:Nat→Int) (a:Nat):Nat→Int:=fun i=>if i=a / 2 then (if a % 2=0 then x i+m else x i - m) else x i
def EK (m:Int) (x:Nat→Int) (l:List Nat):Nat→Int:=l.foldl (Hh m) x
theorem NK (g:Gr) (m:Int) (x:Nat→Int) {a:Nat} (ha:a<2*g.E) (w:Nat):B0 g (Hh m x a) w=B0 g x w+m*(one (g.v a=w) - one (g.u a=w)):=by
 have hi:a / 2<g.E:=by omega
 have h1:B0 g (Hh m x a) w=Bx (fun i=>(one (g.t i=w) - one (g.f i=w))*x i+one (a / 2=i)*((one (g.t i=w) - one (g.f i=w))*(if a % 2=0 then m else -m))) g.E:=C3 fun i _=>by
  by_cases e:i=a / 2
  ·have h1:Hh m x a i=if a % 2=0 then x i+m else x i - m:=if_pos e
   have h2:one (a / 2=i)=1:=if_pos e.symm
   rw [h1,h2]
   by_cases hp:a % 2=0
   ·rw [if_pos hp,if_pos hp,Int.mul_add,Int.one_mul]
   ·rw [if_neg hp,if_neg hp,Int.mul_sub,Int.one_mul,Int.mul_neg]; omega
  ·have h1:Hh m x a i=x i:=if_neg e
   have h2:one (a / 2=i)=0:=if_neg (Ne.symm e)
   rw [h1,h2]; omega
 rw [h1,L5,FY (fun i=>(one (g.t i=w) - one (g.f i=w))*(if a % 2=0 then m else -m)) hi]
 unfold B0 E7 Gr.u Gr.v
 split
 ·rw [Int.mul_comm m]
 ·congr 1
  rw [Int.mul_neg,← Int.neg_mul,Int.mul_comm m]; congr 1; omega
theorem KY (g:Gr) (m:Int) {cap p:Nat→Int} {x0:Nat→Int} {s:Lb} {by':Nat→Option Nat} (hB:Bys g cap x0 p s by') (w:Nat):∀ {k v:Nat} (x:Nat→Int),s.d v ≠ -1→s.h v=k→B0 g (EK m x (D8 by' g k v)) w=B0 g x w+m*(one (v=w) - one (KX by' g k v=w))
 | 0,v,x,_,_=>by
  show B0 g x w=B0 g x w+m*(one (v=w) - one (v=w))
  rw [Int.sub_self]; omega
 | k+1,v,x,hd,hk=>by
  obtain ⟨a,h1,h2,h3⟩:=hB.2 v hd (by omega)
  obtain ⟨e1,e2⟩:=Gf (g:=g) (k:=k) h1
  have hh:=h2.h
  rw [h3,hk] at hh
  rw [e1,e2]
  show B0 g (EK m (Hh m x a) (D8 by' g k (g.u a))) w=_
  rw [KY g m hB w (k:=k) (Hh m x a) h2.du (by omega),NK g m x h2.lt,h3,Int.add_assoc,← Int.mul_add]
  congr 2; omega
theorem HK {m:Int} {x:Nat→Int}:∀ {l:List Nat} {i:Nat},(∀ a∈l,a / 2≠i)→EK m x l i=x i
 | [],i,_=>rfl
 | a::l,i,h=>by
  show EK m (Hh m x a) l i=_
  rw [HK (l:=l) fun b hb=>h b (List.mem_cons_of_mem _ hb)]
  exact if_neg fun e=>h a (List.mem_cons_self ..) e.symm
theorem TC {m:Int}:∀ {l:List Nat} {x:Nat→Int} {a:Nat},l.Pairwise (fun a b=>a / 2≠b / 2)→a∈l→EK m x l (a / 2)=if a % 2=0 then x (a / 2)+m else x (a / 2) - m
 | b::l,x,a,hp,ha=>by
  obtain ⟨h1,h2⟩:=List.pairwise_cons.1 hp
  show EK m (Hh m x b) l (a / 2)=_
  by_cases e:a=b
  ·subst e
   rw [HK fun c hc=>Ne.symm (h1 c hc)]
   exact if_pos rfl
  ·have ha':=(List.mem_cons.1 ha).resolve_left e
   rw [TC h2 ha']
   have:Hh m x b (a / 2)=x (a / 2):=if_neg (Ne.symm (h1 a ha'))
   rw [this]
/-- How much numbers are raised. -/
def Pi (s:Lb) (D:Int) (v:Nat):Int:=if s.d v<0∨D<s.d v then D else s.d v
/-- Behind a way that is filled all fits. -/
theorem UF {g:Gr} {cap x p:Nat→Int} (h:Fine g cap x p) {src:List Nat} {m0:Int} {s:Lb} (D:Done (Lo g cap x p) src g.N m0 s) {by':Nat→Option Nat} (hB:Bys g cap x p s by') {v:Nat} (hd:s.d v ≠ -1) {m:Int} (hm:0≤m) (hr:∀ a∈D8 by' g (s.h v) v,m≤C6 cap x a) :
  Fine g cap (EK m x (D8 by' g (s.h v) v)) (fun w=>p w+Pi s (s.d v) w):=by
 obtain ⟨q1,-,-,-⟩:=Jc hB hd rfl
 have hpe:=M8 hB hd rfl
 have hlow:=D.J.low
 have hdv:=(hlow v).resolve_left hd
 have hlen:∀ a,a<2*g.E→0<C6 cap x a→0≤g.len p a+Pi s (s.d v) (g.u a) - Pi s (s.d v) (g.v a):=fun a ha hra=>by
  have h1:=h.fit a ha hra
  have h2:=D.arc _ (I4.2 ⟨a,ha,hra,rfl⟩)
  dsimp only at h2
  have h3:=hlow (g.u a); have h4:=hlow (g.v a)
  unfold Pi
  by_cases e:s.d (g.u a) = -1
  ·rw [if_pos (.inl (by omega))]
   split <;> omega
  ·obtain ⟨h5,h6⟩:=h2 e
   split <;> split <;> omega
 have htight:∀ a∈D8 by' g (s.h v) v,g.len p a+Pi s (s.d v) (g.u a) - Pi s (s.d v) (g.v a)=0:=fun a ha=>by
  -- all nodes of the way are no farther
  have hle:∀ {k w:Nat},s.d w ≠ -1→s.h w=k→∀ a∈D8 by' g k w,s.d (g.v a)≤s.d w:=fun {k}=>by
   induction k with
   | zero=>intro w _ _ a ha; cases ha
   | succ k ih =>
    intro w hw hk a ha
    obtain ⟨b,h1,h2,h3⟩:=hB.2 w hw (by omega)
    obtain ⟨e1,-⟩:=Gf (g:=g) (k:=k) h1
    rw [e1] at ha
    have hh:=h2.h
    rw [h3,hk] at hh
    have hfit:=h.fit b h2.lt h2.room
    have hdd:=h2.d
    rw [h3] at hdd
    rcases List.mem_cons.1 ha with rfl | ha
    ·rw [h3]; exact Int.le_refl _
    ·have:=ih h2.du (by omega) a ha; omega
  have h1:=hle hd rfl a ha
  have w1:=(q1 a ha).1
  have h2:=(hlow (g.u a)).resolve_left w1.du
  have h3:=(hlow (g.v a)).resolve_left w1.dv
  have h4:=w1.d
  have h5:=h.fit a w1.lt w1.room
  unfold Pi
  rw [if_neg (by omega),if_neg (by omega)]
  omega
 have hone:∀ i,i<g.E→(EK m x (D8 by' g (s.h v) v) i=x i∧∀ a∈D8 by' g (s.h v) v,a / 2≠i)∨∃ a∈D8 by' g (s.h v) v,a / 2=i:=fun i _=>by
  by_cases e:∃ a∈D8 by' g (s.h v) v,a / 2=i
  ·exact .inr e
  ·have:∀ a∈D8 by' g (s.h v) v,a / 2≠i:=fun a ha he=>e ⟨a,ha,he⟩
   exact .inl ⟨HK this,this⟩
 have hz:∀ i,i<g.E→(∃ a∈D8 by' g (s.h v) v,a / 2=i)→g.co i+(p (g.f i)+Pi s (s.d v) (g.f i)) - (p (g.t i)+Pi s (s.d v) (g.t i))=0:=fun i hi ⟨a,ha,he⟩=>by
  have h1:=htight a ha
  unfold Gr.len at h1
  rcases (by omega:a=2*i∨a=2*i+1) with rfl | rfl
  ·obtain ⟨b,c,d⟩:=I3 g i
   rw [b,c,d] at h1; omega
  ·obtain ⟨b,c,d⟩:=Kf g i
   rw [b,c,d] at h1; omega
 refine Fine.of (fun i hi=>?_) (fun i hi hx=>?_) (fun i hi hx=>?_)
 ·obtain ⟨h1,h2⟩:=h.in' i hi
  rcases hone i hi with ⟨e,_⟩ | ⟨a,ha,he⟩
  ·rw [e]; exact ⟨h1,h2⟩
  ·have h3:=hr a ha
   have h4:=TC (m:=m) (x:=x) hpe ha
   rw [he] at h4
   rw [h4]
   unfold C6 at h3
   rw [he] at h3
   split
   ·rename_i e; rw [if_pos e] at h3; omega
   ·rename_i e; rw [if_neg e] at h3; omega
 ·rcases hone i hi with ⟨e,_⟩ | e
  ·rw [e] at hx
   have h1:=hlen (2*i) (by omega) (by unfold C6; rw [if_pos (by omega),show 2*i / 2=i by omega]; omega)
   obtain ⟨b,c,d⟩:=I3 g i
   unfold Gr.len at h1
   rw [b,c,d] at h1
   omega
  ·have:=hz i hi e; omega
 ·rcases hone i hi with ⟨e,_⟩ | e
  ·rw [e] at hx
   have h1:=hlen (2*i+1) (by omega) (by unfold C6; rw [if_neg (by omega),show (2*i+1) / 2=i by omega]; exact hx)
   obtain ⟨b,c,d⟩:=Kf g i
   unfold Gr.len at h1
   rw [b,c,d] at h1
   omega
  ·have:=hz i hi e; omega
/-! ### How much stands over -/
def WM (x:Int):Int:=if 0<x then x else 0
def Gy (g:Gr) (x:Nat→Int):Int:=Bx (fun v=>WM (B0 g x v)) g.N
theorem Qy {g:Gr} (hg:g.Ok) {x:Nat→Int} (h:∀ v,v<g.N→B0 g x v≤0):∀ v,v<g.N→B0 g x v=0:=fun v hv=>by
 have h1:=over_all g hg x
 rcases Su (B0 g x v) 0 with h2 | h2
 ·have h3:=Pg (f:=fun v => -B0 g x v) (k:=g.N) (j:=v) (fun i hi=>by have:=h i hi; omega) hv (by omega)
  rw [L6,h1] at h3
  omega
 ·have:=h v hv; omega
theorem UG {g:Gr} {x x':Nat→Int} {u v:Nat} {m:Int} (hu:u<g.N) (hm:0<m) (hmu:m≤B0 g x u) (hmv:m ≤ -B0 g x v) (h:∀ w,B0 g x' w=B0 g x w+m*(one (v=w) - one (u=w))):Gy g x'+m≤Gy g x:=by
 have hne:u≠v:=fun e=>by subst e; omega
 have h1:∀ w,WM (B0 g x' w)≤WM (B0 g x w) - one (u=w)*m:=fun w=>by
  rw [h w]
  unfold one WM
  by_cases e1:v=w
  ·subst e1
   rw [if_pos rfl,if_neg hne]
   split <;> split <;> omega
  ·rw [if_neg e1]
   by_cases e2:u=w
   ·subst e2
    rw [if_pos rfl]
    split <;> split <;> omega
   ·rw [if_neg e2]
    split <;> split <;> omega
 have h2:=I2 (k:=g.N) fun w _=>h1 w
 rw [Jb,FY (fun _=>m) hu] at h2
 unfold Gy; omega
theorem UH (g:Gr) (x:Nat→Int):0≤Gy g x:=Gw fun i _=>by unfold WM; split <;> omega

end Go.Proofs.YtapphbmlkdhnmaaGreat

/- Plain law of flows: finer caps; bounds. -/
namespace Go.Proofs.YtapphbmlkdhnmaaGreat
open Go.GV

/-- What flows once caps are finer: twice as much, and edges that gain are filled. -/
def I5 (g:Gr) (cap' x p:Nat→Int) (i:Nat):Int:=if 2*x i<cap' i∧g.co i+p (g.f i) - p (g.t i)<0 then cap' i else 2*x i
theorem M9 {g:Gr} {cap cap' x p:Nat→Int} (h:Fine g cap x p) (hc:∀ i,i<g.E→2*cap i≤cap' i∧cap' i≤2*cap i+1):Fine g cap' (I5 g cap' x p) p:=by
 refine Fine.of (fun i hi=>?_) (fun i hi hx=>?_) (fun i hi hx=>?_)
 ·obtain ⟨h1,h2⟩:=h.in' i hi; obtain ⟨h3,h4⟩:=hc i hi
  unfold I5; split <;> omega
 ·unfold I5 at hx
  split at hx
  ·omega
  ·rename_i h5
   rcases Su (g.co i+p (g.f i) - p (g.t i)) 0 with h6 | h6
   ·exact absurd ⟨hx,h6⟩ h5
   ·exact h6
 ·unfold I5 at hx
  split at hx
  ·rename_i h5; omega
  ·exact h.bwd hi (by omega)
/-- Flows that are finer up to an edge. -/
def GR (g:Gr) (cap' x p:Nat→Int) (k i:Nat):Int:=if i<k then I5 g cap' x p i else 2*x i
theorem WN {g:Gr} {cap' x p:Nat→Int} {v:Nat} (h:B0 g x v=0):B0 g (GR g cap' x p 0) v=0:=by
 have h1:B0 g (GR g cap' x p 0) v=Bx (fun i=>2*((one (g.t i=v) - one (g.f i=v))*x i)) g.E:=C3 fun i _=>by
  unfold GR; rw [if_neg (by omega),Int.mul_left_comm]
 rw [h1,Pf]
 show 2*B0 g x v=0
 omega
theorem WO {g:Gr} {cap' x p:Nat→Int} {k:Nat} (hk:k<g.E) (v:Nat):B0 g (GR g cap' x p (k+1)) v=B0 g (GR g cap' x p k) v+(I5 g cap' x p k - 2*x k)*(one (g.t k=v) - one (g.f k=v)):=by
 obtain ⟨b,c,-⟩:=I3 g k
 have h:=NK g (I5 g cap' x p k - 2*x k) (GR g cap' x p k) (a:=2*k) (by omega) v
 rw [b,c] at h
 rw [← h]
 congr 1
 funext i
 have m1:∀ {k:Nat},i<k→GR g cap' x p k i=I5 g cap' x p i:=fun h=>if_pos h
 have m2:∀ {k:Nat},¬ i<k→GR g cap' x p k i=2*x i:=fun h=>if_neg h
 unfold Hh
 rw [show 2*k / 2=k by omega,if_pos (show 2*k % 2=0 by omega)]
 by_cases e:i=k
 ·subst e
  rw [if_pos rfl,m1 (by omega),m2 (by omega)]; omega
 ·rw [if_neg e]
  by_cases e2:i<k
  ·rw [m1 (by omega),m1 e2]
  ·rw [m2 (by omega),m2 e2]
theorem YP {g:Gr} {cap' x p:Nat→Int} {i:Nat} (hi:i<g.E):GR g cap' x p g.E i=I5 g cap' x p i:=if_pos hi
theorem JC {g:Gr} {x y:Nat→Int} (h:∀ i,i<g.E→x i=y i) (v:Nat):B0 g x v=B0 g y v:=C3 fun i hi=>by rw [h i hi]
/-- How much may come together. -/
theorem I6 {g:Gr} {x:Nat→Int} {c:Int} (v:Nat):∀ {k:Nat},(∀ i,i<k→0≤x i∧x i≤c) → -(k*c)≤E7 g x k v∧E7 g x k v≤k*c
 | 0,_=>by show -(((0:Nat):Int)*c)≤0∧(0:Int)≤((0:Nat):Int)*c; omega
 | k+1,h=>by
  obtain ⟨h1,h2⟩:=I6 (g:=g) v (k:=k) fun i hi=>h i (by omega)
  obtain ⟨h3,h4⟩:=h k (by omega)
  have e:((k+1:Nat):Int)*c=k*c+c:=by rw [Int.natCast_add,Int.add_mul]; simp
  show _≤E7 g x k v+(one (g.t k=v) - one (g.f k=v))*x k∧E7 g x k v+(one (g.t k=v) - one (g.f k=v))*x k≤_
  rw [e]
  unfold one
  split <;> split <;> omega
theorem Qz {g:Gr} {cap x p:Nat→Int} (h:Fine g cap x p):Fea (((List.range (2*g.E)).filter fun a=>decide (0<C6 cap x a)).map fun a=>(g.u a,g.v a,g.c a)) p:=fun b hb=>by
 rw [List.mem_map] at hb
 obtain ⟨a,ha,rfl⟩:=hb
 rw [List.mem_filter,List.mem_range,decide_eq_true_eq] at ha
 have:=h.fit a ha.1 ha.2
 unfold Gr.len at this
 dsimp only; omega
theorem WP {g:Gr} {cap x p q:Nat→Int} (h:Fine g cap x p) (hq:Fea (((List.range (2*g.E)).filter fun a=>decide (0<C6 cap x a)).map fun a=>(g.u a,g.v a,g.c a)) q):Fine g cap x q:=by
 refine ⟨h.in',fun a ha hr=>?_⟩
 have:=hq (g.u a,g.v a,g.c a) (List.mem_map.2 ⟨a,List.mem_filter.2 ⟨List.mem_range.2 ha,decide_eq_true hr⟩,rfl⟩)
 unfold Gr.len
 dsimp only at this; omega

end Go.Proofs.YtapphbmlkdhnmaaGreat

/- Nets: nodes, edges, is one right: the walks. -/
namespace Go.Proofs.YtapphbmlkdhnmaaGreat
open Go.GV
attribute [local irreducible] A2 W Wq Wt

structure Ed where
 f:Int
 t:Int
 cap:Int
 cost:Int
def Bv (e:Ed):List Value:=[.int .i64 e.f,.int .i64 e.t,.int .i64 e.cap,.int .i64 e.cost]
theorem Dk (e:Ed):∀ v∈Bv e,Bz v=true:=fun v hv=>by
 simp only [Bv,List.mem_cons,List.not_mem_nil,or_false] at hv
 rcases hv with rfl | rfl | rfl | rfl <;> rfl
/-- Numbers of 64 bits. -/
def I64 (x:Int):Prop := -9223372036854775808≤x∧x≤9223372036854775807
structure Ed.In (e:Ed):Prop where
 f:I64 e.f
 t:I64 e.t
 cap:I64 e.cap
 cost:I64 e.cost
def Gz (N i:Int):Bool:=decide (0≤i) && decide (i<N)
def D9 (N:Int) (e:Ed):Bool:=Gz N e.f && (Gz N e.t && (decide (0≤e.cap) && (decide (e.cap≤4503599627370496) && (decide (-1000≤e.cost) && decide (e.cost≤1000)))))
def EG (e:Ed):Nat:=e.cap.toNat*e.cost.natAbs
def DI (es:List Ed):Nat:=(es.map EG).sum
def BV (N:Int) (es:List Ed):Bool:=(decide (1≤N) && decide (N≤40)) && (decide (es.length≤200) && (es.all (D9 N) && decide (DI es≤4611686018427387904)))
def CG (N:Int) (a:Option Addr) (n c:Nat):Value := .agg #[.int .i64 N,.slice a n c]

theorem TD (N:Int) (a:Option Addr) (n c:Nat) (i:Int) (w:World):Ret Tryz.prog 187 #[CG N a n c,.int .i64 i] w fun v w'=>v = .bool (Gz N i)∧Ext [] w w':=by
 obtain ⟨w0,rfl⟩:∃ w0,w0=w:=⟨_,rfl⟩
 have H:=Ctx.start w0 []
 refine A1 (fn:=Tryz.f187) Tryz.func187 rfl [CG N a n c,.int .i64 i] rfl (by kernel_rfl) ?_
 refine Ag (Bs rfl [.int .i64 N,.slice a n c] (.agg _) rfl rfl H ?_)
 rintro b2 w - H
 refine Ai rfl rfl (Ab (Aa (Ag (Ad rfl rfl (CD rfl rfl rfl (Ak rfl rfl (A8 7 rfl ?_ ?_)))))))
 ·intro h1
  replace h1:=AF h1
  refine Ad rfl rfl (Ah rfl Dn rfl (AA rfl BH rfl H at0 rfl (AN rfl rfl rfl (Am rfl rfl (.bool _) rfl (Ai rfl rfl (Ab (Aa (A9 (AB (v:=(.bool _)) rfl rfl rfl ?_)))))))))
  exact ⟨congrArg Value.bool (by unfold Gz; rw [Bool.eq_iff_iff]; simp_all; try omega),H.ext⟩
 ·intro h2
  replace h2:=AG h2
  refine Ae rfl (Ae rfl (Ae rfl (Ae rfl (A3 rfl rfl (.bool _) rfl (Ai rfl rfl (Ab (Aa (A9 (AB (v:=(.bool _)) rfl rfl rfl ?_)))))))))
  exact ⟨congrArg Value.bool (by unfold Gz; rw [Bool.eq_iff_iff]; simp_all; try omega),H.ext⟩
theorem Adj (x:Int) (h1 : -9223372036854775808<x) (h2:x≤9223372036854775807) (w:World):Ret Tryz.prog 165 #[.int .i64 x] w fun v w'=>v = .int .u64 (x.natAbs:Int)∧w=w':=by
 obtain ⟨w0,rfl⟩:∃ w0,w0=w:=⟨_,rfl⟩
 refine A1 (fn:=Tryz.f165) Tryz.func165 rfl [.int .i64 x] rfl (by kernel_rfl) ?_
 refine Ag (Af rfl rfl (Ab (Aa (Ag (Ad rfl rfl (Ad rfl rfl (EN rfl rfl (by omega) (by omega) ?_)))))))
 refine Lt rfl rfl rfl ?_
 rw [show max x (-x)=(x.natAbs:Int) by omega]
 refine D3 rfl rfl Sp FH (by omega) (by omega) ?_
 refine Af rfl rfl (Ab (Aa (A9 (AB (v:=(.int _ _)) rfl rfl rfl ?_))))
 exact ⟨rfl,rfl⟩

set_option maxRecDepth 20000 in
theorem YQ (N:Int) (a:Option Addr) (n c:Nat) (e:Ed) (w:World):Ret Tryz.prog 163 #[CG N a n c,.agg (Bv e).toArray] w fun v w'=>v = .bool (D9 N e)∧Ext [] w w':=by
 obtain ⟨w0,rfl⟩:∃ w0,w0=w:=⟨_,rfl⟩
 have H:=Ctx.start w0 []
 refine A1 (fn:=Tryz.f163) Tryz.func163 rfl [CG N a n c,.agg (Bv e).toArray] rfl (by kernel_rfl) ?_
 refine Ag (Bs rfl [.int .i64 N,.slice a n c] (.agg _) rfl rfl H ?_)
 rintro b2 w - H
 refine Bs rfl (Bv e) (.agg _) rfl rfl H ?_
 rintro b3 w - H
 refine Ai rfl rfl (Ab (Aa (Aq (Au (Aq (Ag (Bh rfl Cu Ci rfl H at1 rfl (Ah rfl Dp rfl (AA rfl BH rfl H at0 rfl (Ao rfl Ww (TD N a n c e.f _) rfl ?_))))))))))
 rintro v w ⟨rfl,hx9⟩
 replace H:=H.call hx9
 refine Bu rfl rfl (Ai rfl rfl (Ab (Aa (CT 5 rfl ?_ ?_))))
 ·intro h1
  replace h1:=Bp h1
  refine Av (Aa (CM rfl (Ag (Ai rfl rfl (Ab (Aa (A9 (A4 (Al (AB (v:=(.bool _)) rfl rfl rfl ?_))))))))))
  exact ⟨congrArg Value.bool (by unfold D9; simp_all; try omega),H.ext⟩
 ·intro h2
  replace h2:=Bq h2
  refine Ag (Bh rfl Cu Ci rfl H at1 rfl (Ah rfl Dz rfl (AA rfl BH rfl H at0 rfl (Ao rfl Ww (TD N a n c e.t _) rfl ?_))))
  rintro v w ⟨rfl,hx14⟩
  replace H:=H.call hx14
  refine Bu rfl rfl (Ai rfl rfl (Ab (Aa (CT 5 rfl ?_ ?_))))
  ·intro h3
   replace h3:=Bp h3
   refine Av (Aa (CM rfl (Ag (Ai rfl rfl (Ab (Aa (A9 (A4 (Al (AB (v:=(.bool _)) rfl rfl rfl ?_))))))))))
   exact ⟨congrArg Value.bool (by unfold D9; simp_all; try omega),H.ext⟩
  ·intro h4
   replace h4:=Bq h4
   refine Ag (Ah rfl CU rfl (AA rfl Bw rfl H at0 rfl (AN rfl rfl rfl (Ai rfl rfl (Ab (Aa (CT 5 rfl ?_ ?_)))))))
   ·intro h5
    replace h5:=AF h5
    refine Av (Aa (CM rfl (Ag (Ai rfl rfl (Ab (Aa (A9 (A4 (Al (AB (v:=(.bool _)) rfl rfl rfl ?_))))))))))
    exact ⟨congrArg Value.bool (by unfold D9; simp_all; try omega),H.ext⟩
   ·intro h6
    replace h6:=AG h6
    refine Ag (Ah rfl CU rfl (AA rfl Bw rfl H at0 rfl (C0 rfl rfl rfl (Ai rfl rfl (Ab (Aa (CT 5 rfl ?_ ?_)))))))
    ·intro h7
     replace h7:=AF h7
     refine Av (Aa (CM rfl (Ag (Ai rfl rfl (Ab (Aa (A9 (A4 (Al (AB (v:=(.bool _)) rfl rfl rfl ?_))))))))))
     exact ⟨congrArg Value.bool (by unfold D9; simp_all; try omega),H.ext⟩
    ·intro h8
     replace h8:=AG h8
     refine Ag (Ah rfl Dq rfl (AA rfl Bw rfl H at0 rfl (AN rfl rfl rfl (Ai rfl rfl (Ab (Aa (CT 5 rfl ?_ ?_)))))))
     ·intro h9
      replace h9:=AF h9
      refine Av (Aa (CM rfl (Ag (Ai rfl rfl (Ab (Aa (A9 (A4 (Al (AB (v:=(.bool _)) rfl rfl rfl ?_))))))))))
      exact ⟨congrArg Value.bool (by unfold D9; simp_all; try omega),H.ext⟩
     ·intro h10
      replace h10:=AG h10
      refine Aw (Ah rfl Dq rfl (AA rfl Bw rfl H at0 rfl (C0 rfl rfl rfl (Ai rfl rfl (Ab (Aa (CT 5 rfl ?_ ?_)))))))
      ·intro h11
       replace h11:=AF h11
       refine Ag (Ai rfl rfl (Ab (Aa (A9 (A4 (Al (AB (v:=(.bool _)) rfl rfl rfl ?_)))))))
       exact ⟨congrArg Value.bool (by unfold D9; simp_all; try omega),H.ext⟩
      ·intro h12
       replace h12:=AG h12
       refine Av (A5 (Aa (Ag (Ai rfl rfl (Ab (Aa (A9 (AB (v:=(.bool _)) rfl rfl rfl ?_))))))))
       exact ⟨congrArg Value.bool (by unfold D9; simp_all; try omega),H.ext⟩

theorem WQ (x y:Nat) (hx:x≤4503599627370496) (hy:y≤1000) (w:World):Ret Tryz.prog 164 #[.int .u64 (x:Int),.int .u64 (y:Int)] w fun v w'=>v = .tuple #[.int .u64 0,.int .u64 ((x*y:Nat):Int)]∧w=w':=by
 obtain ⟨w0,rfl⟩:∃ w0,w0=w:=⟨_,rfl⟩
 have hm:∀ z:Nat,z &&& 4294967295=z % 4294967296:=fun z=>Nat.and_two_pow_sub_one_eq_mod z 32
 obtain ⟨x0,hx0⟩:∃ x0,x0=x % 4294967296:=⟨_,rfl⟩
 obtain ⟨x1,hx1⟩:∃ x1,x1=x / 4294967296:=⟨_,rfl⟩
 have hp0:x0*y≤4294967296*1000:=Nat.mul_le_mul (by omega) hy
 have hp1:x1*y≤1048576*1000:=Nat.mul_le_mul (by omega) hy
 have hxy:x*y≤4503599627370496*1000:=Nat.mul_le_mul hx hy
 refine A1 (fn:=Tryz.f164) Tryz.func164 rfl [.int .u64 (x:Int),.int .u64 (y:Int)] rfl (by kernel_rfl) ?_
 refine Ag (Af rfl rfl (Af rfl rfl (Ab (Aa (Ag (Ad rfl rfl (HC (b:=4294967295) rfl rfl rfl (by omega) (by omega) ?_)))))))
 rw [hm,← hx0]
 refine Af rfl rfl (Ab (Aa (Ag (Ad rfl rfl (El (n:=32) rfl rfl rfl (by omega) ?_)))))
 rw [show x / 2 ^ 32=x1 from hx1.symm]
 refine Af rfl rfl (Ab (Aa (Ag (Ad rfl rfl (HC (b:=4294967295) rfl rfl rfl (by omega) (by omega) ?_)))))
 rw [hm,show y % 4294967296=y by omega]
 refine Af rfl rfl (Ab (Aa (Ag (Ad rfl rfl (El (n:=32) rfl rfl rfl (by omega) ?_)))))
 rw [show y / 2 ^ 32=0 by omega]
 refine Af rfl rfl (Ab (Aa (Ag (Ad rfl rfl (Ad rfl rfl (Gj rfl rfl rfl (Int.mul_nonneg (by omega) (by omega)) (by rw [← Int.natCast_mul]; omega) ?_))))))
 rw [← Int.natCast_mul]
 refine Af rfl rfl (Ab (Aa (Ag (Ad rfl rfl (Ad rfl rfl (Gj rfl rfl rfl (Int.mul_nonneg (by omega) (by omega)) (by rw [← Int.natCast_mul]; omega) ?_))))))
 rw [← Int.natCast_mul]
 refine Ad rfl rfl (El (n:=32) rfl rfl rfl (by omega) ?_)
 refine Fz rfl rfl rfl (by omega) (by omega) ?_
 rw [← Int.natCast_add]
 refine Af rfl rfl (Ab (Aa (Ag (Ad rfl rfl (HC (b:=4294967295) rfl rfl rfl (by omega) (by omega) ?_)))))
 rw [hm]
 refine Af rfl rfl (Ab (Aa (Ag (Ad rfl rfl (El (n:=32) rfl rfl rfl (by omega) ?_)))))
 rw [show (x1*y+x0*y / 2 ^ 32) / 2 ^ 32=0 by omega]
 refine Af rfl rfl (Ab (Aa (Ag (Ad rfl rfl (Ad rfl rfl (Ad rfl rfl (Gj rfl rfl rfl (by show (0:Int)≤(x0:Int)*((0:Nat):Int); omega) (by show (x0:Int)*((0:Nat):Int)≤_; omega) ?_)))))))
 rw [show (x0:Int)*((0:Nat):Int)=0 by omega]
 refine Fz rfl rfl rfl (by omega) (by omega) ?_
 rw [show ((((x1*y+x0*y / 2 ^ 32) % 4294967296:Nat):Int)+0)=(((x1*y+x0*y / 2 ^ 32) % 4294967296:Nat):Int) by omega]
 refine Af rfl rfl (Ab (Aa (Ag (Ad rfl rfl (Ad rfl rfl (Gj rfl rfl rfl (by show (0:Int)≤(x1:Int)*((0:Nat):Int); omega) (by show (x1:Int)*((0:Nat):Int)≤_; omega) ?_))))))
 rw [show (x1:Int)*((0:Nat):Int)=0 by omega]
 refine Ad rfl rfl (Fz rfl rfl rfl (by omega) (by omega) ?_)
 refine Ad rfl rfl (El (n:=32) rfl rfl rfl (by omega) ?_)
 rw [show (x1*y+x0*y / 2 ^ 32) % 4294967296 / 2 ^ 32=0 by omega]
 refine Fz rfl rfl rfl (by omega) (by omega) ?_
 refine Af rfl rfl (Ab (Aa (Ag (Ad rfl rfl (Ad rfl rfl (Gj rfl rfl rfl (Int.mul_nonneg (by omega) (by omega)) (by rw [← Int.natCast_mul]; omega) ?_))))))
 rw [← Int.natCast_mul]
 refine Af rfl rfl (Ab (Aa (A9 (DK (v1:=(.int _ _)) (v2:=(.int _ _)) rfl rfl rfl rfl ?_))))
 exact ⟨rfl,rfl⟩

theorem HM {es:List Ed} {i:Nat} {e:Ed} (h:es[i]? = some e):DI (es.take (i+1))=DI (es.take i)+EG e:=by
 unfold DI
 rw [C5 h,List.map_append,List.sum_append]; simp
theorem HN (es:List Ed) (i:Nat):DI (es.take i)≤DI es:=by
 unfold DI
 have h:(es.map EG).sum=((es.take i).map EG).sum+((es.drop i).map EG).sum:=by rw [← List.sum_append,← List.map_append,List.take_append_drop]
 omega
theorem CN {N:Int} {e:Ed} (h:D9 N e=true):0≤e.f∧e.f<N∧0≤e.t∧e.t<N∧0≤e.cap∧e.cap≤4503599627370496 ∧ -1000≤e.cost∧e.cost≤1000:=by
 unfold D9 Gz at h
 simp only [Bool.and_eq_true,decide_eq_true_eq] at h
 omega
theorem D5 {α:Type} {p:α→Bool} {l:List α} {i:Nat} {x:α} (h:l[i]? = some x) (hp:p x=false):l.all p=false:=by
 rw [List.all_eq_false]
 exact ⟨x,List.mem_of_getElem? h,by rw [hp]; simp⟩
theorem E8 {α:Type} {p:α→Bool} {l:List α} (h:∀ k x,k<l.length→l[k]? = some x→p x=true):l.all p=true:=by
 rw [List.all_eq_true]
 intro x hx
 obtain ⟨k,hk⟩:=List.getElem?_of_mem hx
 exact h k x (List.getElem?_eq_some_iff.1 hk).1 hk

set_option maxRecDepth 20000 in
set_option maxHeartbeats 2000000 in
theorem Kg (N:Int) (a:Option Addr) (n c:Nat) (es:List Ed) (w:World) (R:Rd w a 4 Bv es) (hn:es.length=n) (hN:I64 N):Ret Tryz.prog 117 #[CG N a n c] w fun v w'=>v = .bool (BV N es)∧Ext [] w w':=by
 subst hn
 obtain ⟨w0,rfl⟩:∃ w0,w0=w:=⟨_,rfl⟩
 have H:=Ctx.start w0 []
 refine A1 (fn:=Tryz.f117) Tryz.func117 rfl [CG N a es.length c] rfl (by kernel_rfl) ?_
 refine Ag (Bs rfl [.int .i64 N,.slice a es.length c] (.agg _) rfl rfl H ?_)
 rintro b1 w - H
 refine Ai rfl rfl (Ab (Aa (Aq (Ag (B5 (α:=Unit) 4194048 (fun _=>[(21,.bool (!((decide (1≤N) && decide (N≤40)) && decide (es.length≤200))))]) (fun _ w'=>Ctx w0 [] w' [(b1,Bl 28 [.int .i64 N,.slice a es.length c])]) rfl ?_ ?_)))))
 ·refine Ah rfl Dn rfl (AA rfl BH rfl H at0 rfl (AN rfl rfl rfl (Ak rfl rfl (A8 11 rfl ?_ ?_))))
  ·intro h1
   replace h1:=AF h1
   refine Ae rfl (Ae rfl (Ae rfl (Am rfl rfl (.bool _) rfl (Ak rfl rfl (Ae rfl (Ae rfl (Ae rfl (Ae rfl (Am rfl rfl (.bool _) rfl ?_)))))))))
   refine Ab ?_
   exact ⟨rfl,(),rfl,⟨congrArg Value.bool (by rw [Bool.eq_iff_iff]; simp_all; try omega),trivial⟩,H⟩
  ·intro h2
   replace h2:=AG h2
   refine Ah rfl Dn rfl (AA rfl BH rfl H at0 rfl (C0 rfl rfl rfl (A3 rfl rfl (.bool _) rfl (Ak rfl rfl (A8 16 rfl ?_ ?_)))))
   ·intro h3
    replace h3:=AF h3
    refine Ae rfl (Ae rfl (Ae rfl (Ae rfl (Am rfl rfl (.bool _) rfl (Ab ?_)))))
    exact ⟨rfl,(),rfl,⟨congrArg Value.bool (by rw [Bool.eq_iff_iff]; simp_all; try omega),trivial⟩,H⟩
   ·intro h4
    replace h4:=AG h4
    refine Ah rfl BU rfl (AA rfl CI rfl H at0 rfl (AU rfl Ce rfl (C0 rfl rfl rfl (A3 rfl rfl (.bool _) rfl (Ab ?_)))))
    exact ⟨rfl,(),rfl,⟨congrArg Value.bool (by rw [Bool.eq_iff_iff]; simp_all; try omega),trivial⟩,H⟩
 rintro - j21 w H
 refine Ax _ rfl ?_ ?_
 ·intro h1
  replace h1:=Bp h1
  refine Ag (Ai rfl rfl (Ab (Aa (A9 (Al (AB (v:=(.bool _)) rfl rfl rfl ?_))))))
  exact ⟨congrArg Value.bool (by unfold BV; rw [← Bool.and_assoc,show ((decide (1≤N) && decide (N≤40)) && decide (es.length≤200))=false by simpa using h1]; rfl),H.ext⟩
 ·intro h1
  replace h1:=Bq h1
  have h1':((decide (1≤N) && decide (N≤40)) && decide (es.length≤200))=true:=by simpa using h1
  have hrN:BV N es=(es.all (D9 N) && decide (DI es≤4611686018427387904)):=by unfold BV; rw [← Bool.and_assoc,h1']; rfl
  have hn2:es.length≤200:=by simp only [Bool.and_eq_true,decide_eq_true_eq] at h1'; omega
  refine Av (Aa (Ag (Af rfl rfl (Ab (Aa (Aq (Ag (Ah rfl BU rfl (AA rfl CI rfl H at0 rfl (AU rfl Ce rfl (Ad rfl rfl ?_)))))))))))
  refine Ab (Aa (Au (Bi 18014398475927788 (α:=Nat) (fun i=>[(25,.int .i64 (i:Int)),(3,.int .u64 ((4611686018427387904 - DI (es.take i):Nat):Int))]) (fun i w'=>i≤es.length∧Ctx w0 [] w' [(b1,Bl 28 [.int .i64 N,.slice a es.length c])]∧DI (es.take i)≤4611686018427387904∧∀ (k:Nat) (e:Ed),k<i→es[k]? = some e→D9 N e=true) (fun i=>es.length - i) 0 rfl ?_ ?_ ?_)))
  ·exact ⟨rfl,rfl,trivial⟩
  ·exact ⟨Nat.zero_le _,H,Nat.zero_le _,fun k e h=>absurd h (Nat.not_lt_zero _)⟩
  ·rintro i j w ⟨hi,H,hpr,hb⟩
   refine Ag (AN rfl rfl rfl (Ab (Aa (Aq (Ax _ rfl ?_ ?_)))))
   ·intro h2
    replace h2:=AF h2
    obtain ⟨e,he⟩:=AC (l:=es) (i:=i) (by omega)
    have hps:=HM he
    have hpt:=HN es (i+1)
    refine Av (Aa (Aq (Au (Ag (AZ R rfl Ce BC rfl rfl (by omega) (by omega) (by rfl) ?_)))))
    refine Cr _ rfl DX BC rfl rfl ((R.ext0 H.ext).row he rfl) ?_
    refine Bm rfl DH H ?_
    rintro b5 w - H
    refine BD rfl BC rfl rfl rfl (by exact Dk _) H at0 rfl ?_
    rintro w H
    refine Ab (Aa (Aq (Ag (Bh rfl Cu Ci rfl H at1 rfl (Bh rfl DX BC rfl H at0 rfl (Ao rfl Abv (YQ N a es.length c e _) rfl ?_))))))
    rintro v w ⟨rfl,hx31⟩
    replace H:=H.call hx31
    refine Bu rfl rfl (Ab (Aa (Ax _ rfl ?_ ?_)))
    ·intro h3
     replace h3:=Bp h3
     refine Ag (Ai rfl rfl (Ab (Aa (A9 (Al (A4 (Al (Al (A4 (Al (AB (v:=(.bool _)) rfl rfl rfl ?_)))))))))))
     exact ⟨congrArg Value.bool (by rw [hrN,D5 he (by simpa using h3)]; rfl),H.ext⟩
    ·intro h3
     replace h3:=Bq h3
     have h3':D9 N e=true:=by simpa using h3
     obtain ⟨-,-,-,-,q1,q2,q3,q4⟩:=CN h3'
     obtain ⟨cp,hcp⟩:∃ cp:Nat,e.cap=(cp:Int):=⟨e.cap.toNat,by omega⟩
     have hpe:EG e=cp*e.cost.natAbs:=by unfold EG; rw [hcp,Int.toNat_natCast]
     have hpm:cp*e.cost.natAbs≤4503599627370496*1000:=Nat.mul_le_mul (by omega) (by omega)
     obtain ⟨w5,rfl⟩:∃ z,z=w:=⟨_,rfl⟩
     have hb5:=H.get at0
     have hk5:∀ {z:World},Ext [] w5 z→z.heap[b5]? = some (Bl 92 (Bv e)):=fun {z} h=>by rw [h.block b5 (Bt hb5) (by simp)]; exact hb5
     have hD:=Ext.drew [] w5
     refine Av (Aa (CZ [([0,1,2,3,4],5),([],6),([7,8,9,10],11)] (fun z=>Ext [] w5 z) [] B3 (by kernel_rfl) (hD) ?_))
     refine Ba rfl rfl ?_
     refine AV rfl CU rfl (Ck rfl Bw rfl (fun _ hx=>(by rw [Ay (hk5 hx)]; rfl)) ?_)
     rw [hcp]
     refine RS rfl rfl Sp FH (by omega) (by omega) ?_
     refine AV rfl Dq rfl (Ck rfl Bw rfl (fun _ hx=>(by rw [Ay (hk5 hx)]; rfl)) ?_)
     refine BJ ?_
     replace H:=H.drew
     refine Ao rfl Abx (Adj e.cost (by omega) (by omega) _) rfl ?_
     rintro v w ⟨rfl,rfl⟩
     refine Ab (CX (hD) (Ba rfl rfl ?_))
     refine BJ (Ao rfl Abw (WQ cp e.cost.natAbs (by omega) (by omega) _) rfl ?_)
     rintro v w ⟨rfl,rfl⟩
     refine Ab (CX (hD) (Ba rfl rfl ?_))
     refine Tt rfl rfl (Gb rfl rfl rfl (Gb rfl rfl rfl (NA rfl rfl (BJ (Af rfl rfl (Ab (CX (hD) (Ch (Aq (Ag ?_))))))))))
     refine Ad rfl rfl (CH rfl rfl rfl (Ak rfl rfl (Ad rfl rfl (Ad rfl rfl (C0 rfl rfl rfl (A3 rfl rfl (.bool _) rfl (Ab (Aa (Ax _ rfl ?_ ?_)))))))))
     ·intro h4
      replace h4:=AF h4
      refine Ag (Ai rfl rfl (Ab (Aa (A9 (Al (A4 (Al (Al (A4 (Al (AB (v:=(.bool _)) rfl rfl rfl ?_)))))))))))
      exact ⟨congrArg Value.bool (by rw [hrN,decide_eq_false (show ¬ DI es≤4611686018427387904 by omega),Bool.and_false]),H.ext⟩
     ·intro h4
      replace h4:=AG h4
      refine Av (Aa (Aw (Ad rfl rfl (Ad rfl rfl (LW rfl rfl rfl (by omega) (by omega) ?_)))))
      refine Af rfl rfl (Ab (A5 (Aa (Aw (Ap rfl rfl rfl (by omega) (by omega) ?_)))))
      refine Ad rfl rfl (Ab (Aa ?_))
      refine ⟨i+1,rfl,⟨rfl,congrArg (Value.int .u64) (by rw [hps,hpe]; omega),trivial⟩,⟨by omega,H.tail,by rw [hps,hpe]; omega,fun k y hk hy=>?_⟩,by omega⟩
      rcases Nat.lt_or_ge k i with h7 | h7
      ·exact hb k y h7 hy
      ·obtain rfl:k=i:=by omega
       rw [he] at hy
       cases hy
       exact h3'
   ·intro h2
    replace h2:=AG h2
    refine Bd (Aj (Aj (AD (Aa (Ag (Ai rfl rfl (Ab (Aa (A9 (AB (v:=(.bool _)) rfl rfl rfl ?_))))))))))
    rw [List.take_of_length_le (by omega)] at hpr
    exact ⟨congrArg Value.bool (by rw [hrN,E8 fun k x hk hx=>hb k x (by omega) hx,decide_eq_true hpr]; rfl),H.ext⟩

end Go.Proofs.YtapphbmlkdhnmaaGreat

/- Flows within a net, arcs: the walks. -/
namespace Go.Proofs.YtapphbmlkdhnmaaGreat
open Go.GV
attribute [local irreducible] A2 W Wq Wt

def UI (x:Int):Value := .int .i64 x
abbrev I1 (x:Int):List Value:=[.int .i64 x]
def inB (e:Ed) (x:Int):Bool:=decide (0≤x) && decide (x≤e.cap)
/-- Is a flow within its net? -/
def B1 (N:Int) (es:List Ed) (fl:List Int):Bool:=(decide (fl.length=es.length) && BV N es) && (List.zipWith inB es fl).all id
theorem JD {es:List Ed} {fl:List Int} {i:Nat} {e:Ed} {x:Int} (he:es[i]? = some e) (hx:fl[i]? = some x):(List.zipWith inB es fl)[i]? = some (inB e x):=by
 rw [List.getElem?_zipWith,he,hx]

set_option maxRecDepth 20000 in
set_option maxHeartbeats 2000000 in
theorem Jd (N:Int) (a b:Option Addr) (n c m d:Nat) (es:List Ed) (fl:List Int) (w:World) (R:Rd w a 4 Bv es) (hn:es.length=n) (hN:I64 N) (Rf:Rd w b 1 I1 fl) (hm:fl.length=m) (hm2:m≤9223372036854775000) :
  Ret Tryz.prog 178 #[CG N a n c,.slice b m d] w fun v w'=>v = .bool (B1 N es fl)∧Ext [] w w':=by
 subst hn hm
 obtain ⟨w0,rfl⟩:∃ w0,w0=w:=⟨_,rfl⟩
 have H:=Ctx.start w0 []
 refine A1 (fn:=Tryz.f178) Tryz.func178 rfl [CG N a es.length c,.slice b fl.length d] rfl (by kernel_rfl) ?_
 refine Ag (Bs rfl [.int .i64 N,.slice a es.length c] (.agg _) rfl rfl H ?_)
 rintro b2 w - H
 refine Ai rfl rfl (Ab (Aa (Aq (Ag (B5 (α:=Unit) 262016 (fun _=>[(17,.bool (!(decide (fl.length=es.length) && BV N es)))]) (fun _ w'=>Ctx w0 [] w' [(b2,Bl 28 [.int .i64 N,.slice a es.length c])]) rfl ?_ ?_)))))
 ·refine An rfl rfl (AU rfl AR rfl (Ah rfl BU rfl (AA rfl CI rfl H at0 rfl (AU rfl Ce rfl (CH rfl rfl rfl (Ak rfl rfl (A8 13 rfl ?_ ?_)))))))
  ·intro h1
   replace h1:=CO h1
   refine Ae rfl (Ae rfl (Ae rfl (Am rfl rfl (.bool _) rfl (Ab ?_))))
   exact ⟨rfl,(),rfl,⟨congrArg Value.bool (by rw [Bool.eq_iff_iff]; simp_all; try omega),trivial⟩,H⟩
  ·intro h2
   replace h2:=CP h2
   refine Bh rfl Cu Ci rfl H at0 rfl (Ao rfl OW (Kg N a es.length c es _ (R.ext0 H.ext) rfl hN) rfl ?_)
   rintro v w ⟨rfl,hx15⟩
   replace H:=H.call hx15
   refine Bu rfl rfl (A3 rfl rfl (.bool _) rfl (Ab ?_))
   exact ⟨rfl,(),rfl,⟨congrArg Value.bool (by rw [Bool.eq_iff_iff]; simp_all; try omega),trivial⟩,H⟩
 rintro - j17 w H
 refine Ax _ rfl ?_ ?_
 ·intro h1
  replace h1:=Bp h1
  refine Ag (Ai rfl rfl (Ab (Aa (A9 (Al (AB (v:=(.bool _)) rfl rfl rfl ?_))))))
  exact ⟨congrArg Value.bool (by unfold B1; rw [show (decide (fl.length=es.length) && BV N es)=false by simpa using h1]; rfl),H.ext⟩
 ·intro h1
  replace h1:=Bq h1
  have h1':(decide (fl.length=es.length) && BV N es)=true:=by simpa using h1
  have hw:B1 N es fl=(List.zipWith inB es fl).all id:=by unfold B1; rw [h1']; rfl
  have hle:fl.length=es.length:=by simp only [Bool.and_eq_true,decide_eq_true_eq] at h1'; exact h1'.1
  refine Av (Aa (Aq (Ag (An rfl rfl (AU rfl AR rfl (Ad rfl rfl (Ab (Aa (Au (Bi 274876858480 (α:=Nat) (fun i=>[(20,.int .i64 (i:Int))]) (fun i w'=>i≤fl.length∧Ctx w0 [] w' [(b2,Bl 28 [.int .i64 N,.slice a es.length c])]∧∀ (k:Nat) (e:Ed) (x:Int),k<i→es[k]? = some e→fl[k]? = some x→inB e x=true) (fun i=>fl.length - i) 0 rfl ?_ ?_ ?_))))))))))
  ·exact ⟨rfl,trivial⟩
  ·exact ⟨Nat.zero_le _,H,fun k e x h=>absurd h (Nat.not_lt_zero _)⟩
  ·rintro i j w ⟨hi,H,hb⟩
   refine Ag (AN rfl rfl rfl (Ab (Aa (Aq (Ax _ rfl ?_ ?_)))))
   ·intro h2
    replace h2:=AF h2
    obtain ⟨e,he⟩:=AC (l:=es) (i:=i) (by omega)
    obtain ⟨x,hx⟩:=AC (l:=fl) (i:=i) (by omega)
    refine Av (Aa (Aq (Au (Ag (Ad rfl rfl (AZ Rf rfl AR B2 rfl rfl (by omega) (by omega) (by rfl) ?_))))))
    refine AX rfl Bw rfl (((Rf.ext0 H.ext).fld hx rfl (j:=0) rfl)) ?_
    refine Af rfl rfl (Af rfl rfl (Ab (Aa (Ag (B5 (α:=Unit) 137405399040 (fun _=>[(36,.bool (!inB e x))]) (fun _ w'=>Ctx w0 [] w' [(b2,Bl 28 [.int .i64 N,.slice a es.length c])]) rfl ?_ ?_)))))
    ·refine Ad rfl rfl (AN rfl rfl rfl (Ak rfl rfl (A8 27 rfl ?_ ?_)))
     ·intro h3
      replace h3:=AF h3
      refine Ae rfl (Ae rfl (Ae rfl (Ae rfl (Ae rfl (Ae rfl (Ae rfl (Ae rfl (Am rfl rfl (.bool _) rfl (Ab ?_)))))))))
      exact ⟨rfl,(),rfl,⟨congrArg Value.bool (by unfold inB; rw [Bool.eq_iff_iff]; simp_all; try omega),trivial⟩,H⟩
     ·intro h4
      replace h4:=AG h4
      refine Ad rfl rfl (Ah rfl BU rfl (AA rfl CI rfl H at0 rfl (Ad rfl rfl (AZ R rfl Ce BC rfl rfl (by omega) (by omega) (by rfl) ?_))))
      refine Ah rfl CU rfl (AX rfl Bw rfl (((R.ext0 H.ext).fld he rfl (j:=2) rfl)) ?_)
      refine C0 rfl rfl rfl (A3 rfl rfl (.bool _) rfl (Ab ?_))
      exact ⟨rfl,(),rfl,⟨congrArg Value.bool (by unfold inB; rw [Bool.eq_iff_iff]; simp_all; try omega),trivial⟩,H⟩
    rintro - j36 w H
    refine Ax _ rfl ?_ ?_
    ·intro h3
     replace h3:=Bp h3
     refine Ag (Ai rfl rfl (Ab (Aa (A9 (A4 (Al (Al (A4 (Al (AB (v:=(.bool _)) rfl rfl rfl ?_))))))))))
     exact ⟨congrArg Value.bool (by rw [hw,D5 (JD he hx) (show id (inB e x)=false by simpa using h3)]),H.ext⟩
    ·intro h3
     replace h3:=Bq h3
     refine Av (A5 (Aa (Aw (Ap rfl rfl rfl (by omega) (by omega) ?_))))
     refine Ad rfl rfl (Ab (Aa ?_))
     refine ⟨i+1,rfl,⟨rfl,trivial⟩,⟨by omega,H,fun k f y hk hf hy=>?_⟩,by omega⟩
     rcases Nat.lt_or_ge k i with h7 | h7
     ·exact hb k f y h7 hf hy
     ·obtain rfl:k=i:=by omega
      rw [he] at hf; rw [hx] at hy
      cases hf; cases hy
      simpa using h3
   ·intro h2
    replace h2:=AG h2
    refine Bd (Aj (Aj (AD (Aa (Ag (Ai rfl rfl (Ab (Aa (A9 (AB (v:=(.bool _)) rfl rfl rfl ?_))))))))))
    refine ⟨congrArg Value.bool ?_,H.ext⟩
    rw [hw,E8 fun k x hk hx=>?_]
    rw [List.length_zipWith] at hk
    obtain ⟨e,he⟩:=AC (l:=es) (i:=k) (by omega)
    obtain ⟨y,hy⟩:=AC (l:=fl) (i:=k) (by omega)
    rw [JD he hy] at hx
    cases hx
    exact hb k e y (by omega) he hy
theorem BE {N:Int} {es:List Ed} {fl:List Int} (h:B1 N es fl=true):fl.length=es.length∧BV N es=true∧∀ (i:Nat) (e:Ed) (x:Int),es[i]? = some e→fl[i]? = some x→0≤x∧x≤e.cap:=by
 unfold B1 at h
 simp only [Bool.and_eq_true,decide_eq_true_eq,List.all_eq_true] at h
 refine ⟨h.1.1,h.1.2,fun i e x he hx=>?_⟩
 have:=h.2 _ (List.mem_of_getElem? (JD he hx))
 unfold inB at this
 simpa using this
theorem BR {N:Int} {es:List Ed} (h:BV N es=true):1≤N∧N≤40∧es.length≤200∧(∀ e∈es,D9 N e=true)∧DI es≤4611686018427387904:=by
 unfold BV at h
 simp only [Bool.and_eq_true,decide_eq_true_eq,List.all_eq_true] at h
 exact ⟨h.1.1,h.1.2,h.2.1,h.2.2.1,h.2.2.2⟩

/-! ### Arcs -/
def Hi (es:List Ed) (a:Int):Bool:=decide (0≤a) && decide (a<2*es.length)
theorem WS (N:Int) (a:Option Addr) (n c:Nat) (es:List Ed) (hn:es.length=n) (hb:n≤1000000) (k:Int) (w:World):Ret Tryz.prog 197 #[CG N a n c,.int .i64 k] w fun v w'=>v = .bool (Hi es k)∧Ext [] w w':=by
 subst hn
 obtain ⟨w0,rfl⟩:∃ w0,w0=w:=⟨_,rfl⟩
 have H:=Ctx.start w0 []
 refine A1 (fn:=Tryz.f197) Tryz.func197 rfl [CG N a es.length c,.int .i64 k] rfl (by kernel_rfl) ?_
 refine Ag (Bs rfl [.int .i64 N,.slice a es.length c] (.agg _) rfl rfl H ?_)
 rintro b2 w - H
 refine Ai rfl rfl (Ab (Aa (Ag (Ad rfl rfl (CD rfl rfl rfl (Ak rfl rfl (A8 7 rfl ?_ ?_)))))))
 ·intro h1
  replace h1:=AF h1
  refine Ad rfl rfl (Ah rfl BU rfl (AA rfl CI rfl H at0 rfl (AU rfl Ce rfl (Cf rfl rfl rfl (by omega) (by omega) ?_))))
  refine AN rfl rfl rfl (Am rfl rfl (.bool _) rfl (Ai rfl rfl (Ab (Aa (A9 (AB (v:=(.bool _)) rfl rfl rfl ?_))))))
  exact ⟨congrArg Value.bool (by unfold Hi; rw [Bool.eq_iff_iff]; simp_all; try omega),H.ext⟩
 ·intro h2
  replace h2:=AG h2
  refine Ae rfl (Ae rfl (Ae rfl (Ae rfl (Ae rfl (Ae rfl (A3 rfl rfl (.bool _) rfl (Ai rfl rfl (Ab (Aa (A9 (AB (v:=(.bool _)) rfl rfl rfl ?_)))))))))))
  exact ⟨congrArg Value.bool (by unfold Hi; rw [Bool.eq_iff_iff]; simp_all; try omega),H.ext⟩
theorem TE (k:Nat) (hk:k<9223372036854775808) (w:World):Ret Tryz.prog 217 #[.int .i64 (k:Int)] w fun v w'=>v = .bool (decide (k % 2=1))∧w=w':=by
 obtain ⟨w0,rfl⟩:∃ w0,w0=w:=⟨_,rfl⟩
 refine A1 (fn:=Tryz.f217) Tryz.func217 rfl [.int .i64 (k:Int)] rfl (by kernel_rfl) ?_
 refine Ag (Ai rfl rfl (Ab (Aa (Ag (Ad rfl rfl (Mj (b:=1) rfl rfl rfl (by omega) (by omega) ?_))))))
 rw [Nat.and_one_is_mod]
 refine BX rfl rfl rfl (Ai rfl rfl (Ab (Aa (A9 (AB (v:=(.bool _)) rfl rfl rfl ?_)))))
 exact ⟨congrArg Value.bool (by rw [Bool.eq_iff_iff]; simp; omega),rfl⟩
/-- An arc of an edge: from where, to where, at which cost. -/
def EL (e:Ed) (k:Nat):Int × Int × Int:=if k % 2=1 then (e.t,e.f,-e.cost) else (e.f,e.t,e.cost)
theorem YR (N:Int) (a:Option Addr) (n c:Nat) (es:List Ed) (w:World) (R:Rd w a 4 Bv es) (hn:es.length=n) (hb:n≤1000000) (k:Nat) {e:Ed} (he:es[k / 2]? = some e) (hc : -9223372036854775808<e.cost∧e.cost≤9223372036854775807):Ret Tryz.prog 211 #[CG N a n c,.int .i64 (k:Int)] w fun v w'=>v = .tuple #[.int .i64 (EL e k).1,.int .i64 (EL e k).2.1,.int .i64 (EL e k).2.2]∧Ext [] w w':=by
 subst hn
 obtain ⟨w0,rfl⟩:∃ w0,w0=w:=⟨_,rfl⟩
 have H:=Ctx.start w0 []
 have hk:=CB he
 refine A1 (fn:=Tryz.f211) Tryz.func211 rfl [CG N a es.length c,.int .i64 (k:Int)] rfl (by kernel_rfl) ?_
 refine Ag (Bs rfl [.int .i64 N,.slice a es.length c] (.agg _) rfl rfl H ?_)
 rintro b2 w - H
 refine Af rfl rfl (Af rfl rfl (Af rfl rfl (Ab (Aa (Ag (Ah rfl BU rfl (AA rfl CI rfl H at0 rfl (Ad rfl rfl (HD (n:=1) rfl rfl rfl (by omega) ?_)))))))))
 rw [show k / 2 ^ 1=k / 2 from rfl]
 refine AZ R rfl Ce BC rfl rfl (by omega) (by omega) (by rfl) ?_
 refine Cr _ rfl DX BC rfl rfl ((R.ext0 H.ext).row he rfl) ?_
 refine Bm rfl DH H ?_
 rintro b7 w - H
 refine BD rfl BC rfl rfl rfl (by exact Dk _) H at0 rfl ?_
 rintro w H
 refine Ab (Aa (Aq (Ag (Ad rfl rfl (Ao rfl W4 (TE k (by omega) _) rfl ?_)))))
 rintro v w ⟨rfl,rfl⟩
 refine Ab (Aa (Ax _ rfl ?_ ?_))
 ·intro h1
  refine DS (fun x=>x=_) B3 (by kernel_rfl) rfl ?_
  refine A6 rfl Dz rfl (BZ rfl BH rfl (by rintro _ rfl; exact H.drew) at0 rfl ?_)
  refine A6 rfl Dp rfl (BZ rfl BH rfl (by rintro _ rfl; exact H.drew) at0 rfl ?_)
  refine A6 rfl Dq rfl (BZ rfl Bw rfl (by rintro _ rfl; exact H.drew) at0 rfl ?_)
  refine N7 rfl rfl (by omega) (by omega) ?_
  refine Co rfl rfl (Co rfl rfl (Co rfl rfl (BQ ?_)))
  rintro _ rfl
  replace H:=H.drew
  refine A9 (Al (DR (v1:=(.int _ _)) (v2:=(.int _ _)) (v3:=(.int _ _)) rfl rfl rfl rfl rfl ?_))
  exact ⟨by unfold EL; rw [if_pos (of_decide_eq_true h1)],H.ext⟩
 ·intro h1
  refine Av (Aa (DS (fun x=>x=_) B3 (by kernel_rfl) rfl ?_))
  refine A6 rfl Dp rfl (BZ rfl BH rfl (by rintro _ rfl; exact H.drew) at0 rfl ?_)
  refine A6 rfl Dz rfl (BZ rfl BH rfl (by rintro _ rfl; exact H.drew) at0 rfl ?_)
  refine A6 rfl Dq rfl (BZ rfl Bw rfl (by rintro _ rfl; exact H.drew) at0 rfl ?_)
  refine Co rfl rfl (Co rfl rfl (Co rfl rfl (BQ ?_)))
  rintro _ rfl
  replace H:=H.drew
  refine A9 (DR (v1:=(.int _ _)) (v2:=(.int _ _)) (v3:=(.int _ _)) rfl rfl rfl rfl rfl ?_)
  exact ⟨by unfold EL; rw [if_neg (of_decide_eq_false h1)],H.ext⟩
/-- What is told of an arc. -/
def EX (N:Int) (es:List Ed) (k:Int):Int × Int × Int:=if (Hi es k && BV N es)=true then EL (es.getD (k.toNat / 2) ⟨0,0,0,0⟩) k.toNat else (0,0,0)
set_option maxRecDepth 20000 in
theorem Pj (N:Int) (a:Option Addr) (n c:Nat) (es:List Ed) (w:World) (R:Rd w a 4 Bv es) (hn:es.length=n) (hb:n≤1000000) (hN:I64 N) (k:Int):Ret Tryz.prog 180 #[CG N a n c,.int .i64 k] w fun v w'=>v = .tuple #[.int .i64 (EX N es k).1,.int .i64 (EX N es k).2.1,.int .i64 (EX N es k).2.2]∧Ext [] w w':=by
 subst hn
 obtain ⟨w0,rfl⟩:∃ w0,w0=w:=⟨_,rfl⟩
 have H:=Ctx.start w0 []
 refine A1 (fn:=Tryz.f180) Tryz.func180 rfl [CG N a es.length c,.int .i64 k] rfl (by kernel_rfl) ?_
 refine Ag (Bs rfl [.int .i64 N,.slice a es.length c] (.agg _) rfl rfl H ?_)
 rintro b2 w - H
 refine Af rfl rfl (Af rfl rfl (Af rfl rfl (Ab (Aa (Aq (Ag (B5 (α:=Unit) 65408 (fun _=>[(15,.bool (!(Hi es k && BV N es)))]) (fun _ w'=>Ctx w0 [] w' [(b2,Bl 28 [.int .i64 N,.slice a es.length c])]) rfl ?_ ?_)))))))
 ·refine Bh rfl Cu Ci rfl H at0 rfl (Ad rfl rfl (Ao rfl Wz (WS N a es.length c es rfl hb k _) rfl ?_))
  rintro v w ⟨rfl,hx9⟩
  replace H:=H.call hx9
  refine Bu rfl rfl (Ak rfl rfl (A8 11 rfl ?_ ?_))
  ·intro h1
   replace h1:=Bp h1
   refine Ae rfl (Ae rfl (Ae rfl (Am rfl rfl (.bool _) rfl (Ab ?_))))
   exact ⟨rfl,(),rfl,⟨congrArg Value.bool (by rw [Bool.eq_iff_iff]; simp_all),trivial⟩,H⟩
  ·intro h2
   replace h2:=Bq h2
   refine Bh rfl Cu Ci rfl H at0 rfl (Ao rfl OW (Kg N a es.length c es _ (R.ext0 H.ext) rfl hN) rfl ?_)
   rintro v w ⟨rfl,hx13⟩
   replace H:=H.call hx13
   refine Bu rfl rfl (A3 rfl rfl (.bool _) rfl (Ab ?_))
   exact ⟨rfl,(),rfl,⟨congrArg Value.bool (by rw [Bool.eq_iff_iff]; simp_all),trivial⟩,H⟩
 rintro - j15 w H
 refine Ax _ rfl ?_ ?_
 ·intro h1
  replace h1:=Bp h1
  refine Ag (Af rfl rfl (Af rfl rfl (Af rfl rfl (Ab (Aa (A9 (Al (DR (v1:=(.int _ _)) (v2:=(.int _ _)) (v3:=(.int _ _)) rfl rfl rfl rfl rfl ?_))))))))
  exact ⟨by unfold EX; rw [if_neg (by rw [show (Hi es k && BV N es)=false by simpa using h1]; simp)],H.ext⟩
 ·intro h1
  replace h1:=Bq h1
  have h1':(Hi es k && BV N es)=true:=by simpa using h1
  have hk:0≤k∧k<2*es.length:=by
   simp only [Bool.and_eq_true] at h1'
   have:=h1'.1
   unfold Hi at this
   simpa using this
  obtain ⟨q,rfl⟩:∃ q:Nat,k=(q:Int):=⟨k.toNat,by omega⟩
  obtain ⟨e,he⟩:=AC (l:=es) (i:=q / 2) (by omega)
  have hee:=(BR (Bool.and_eq_true_iff.1 h1').2).2.2.2.1 e (List.mem_of_getElem? he)
  have hco:=CN hee
  have hE:EX N es (q:Int)=EL e q:=by unfold EX; rw [if_pos h1',Int.toNat_natCast,List.getD_eq_getElem?_getD,he]; rfl
  rw [hE]
  refine Av (Aa (Ag (Bh rfl Cu Ci rfl H at0 rfl (Ad rfl rfl (Ao rfl Acp (YR N a es.length c es _ (R.ext0 H.ext) rfl hb q he (by omega)) rfl ?_)))))
  rintro v w ⟨rfl,hx18⟩
  replace H:=H.call hx18
  refine A7 rfl rfl rfl (A7 rfl rfl rfl (A7 rfl rfl rfl (Af rfl rfl (Af rfl rfl (Af rfl rfl (Ab (Aa (A9 (DR (v1:=(.int _ _)) (v2:=(.int _ _)) (v3:=(.int _ _)) rfl rfl rfl rfl rfl ?_)))))))))
  exact ⟨rfl,H.ext⟩
def I7 (e:Ed) (x:Int) (k:Nat):Int:=if k % 2=1 then x else e.cap - x
theorem YS (N:Int) (a b:Option Addr) (n c m d:Nat) (es:List Ed) (fl:List Int) (w:World) (R:Rd w a 4 Bv es) (hn:es.length=n) (hb:n≤1000000) (Rf:Rd w b 1 I1 fl) (hm:fl.length=m) (k:Nat) {e:Ed} {x:Int} (he:es[k / 2]? = some e) (hx:fl[k / 2]? = some x) (hr : -9223372036854775808≤e.cap - x∧e.cap - x≤9223372036854775807) :
  Ret Tryz.prog 198 #[CG N a n c,.slice b m d,.int .i64 (k:Int)] w fun v w'=>v = .int .i64 (I7 e x k)∧Ext [] w w':=by
 subst hn hm
 obtain ⟨w0,rfl⟩:∃ w0,w0=w:=⟨_,rfl⟩
 have H:=Ctx.start w0 []
 have hk:=CB he
 have hkx:=CB hx
 refine A1 (fn:=Tryz.f198) Tryz.func198 rfl [CG N a es.length c,.slice b fl.length d,.int .i64 (k:Int)] rfl (by kernel_rfl) ?_
 refine Ag (Bs rfl [.int .i64 N,.slice a es.length c] (.agg _) rfl rfl H ?_)
 rintro b3 w - H
 refine Af rfl rfl (Ab (Aa (Ag (An rfl rfl (Ad rfl rfl (HD (n:=1) rfl rfl rfl (by omega) ?_))))))
 rw [show k / 2 ^ 1=k / 2 from rfl]
 refine AZ Rf rfl AR B2 rfl rfl (by omega) (by omega) (by rfl) ?_
 refine AX rfl Bw rfl (((Rf.ext0 H.ext).fld hx rfl (j:=0) rfl)) ?_
 refine Af rfl rfl (Ab (Aa (Aq (Ag (Ad rfl rfl (Ao rfl W4 (TE k (by omega) _) rfl ?_))))))
 rintro v w ⟨rfl,rfl⟩
 refine Ab (Aa (Ax _ rfl ?_ ?_))
 ·intro h1
  refine Ag (Ad rfl rfl (Af rfl rfl (Ab (Aa (A9 (Al (AB (v:=(.int _ _)) rfl rfl rfl ?_)))))))
  exact ⟨by unfold I7; rw [if_pos (of_decide_eq_true h1)],H.ext⟩
 ·intro h1
  refine Av (Aa (Ag (Ah rfl BU rfl (AA rfl CI rfl H at0 rfl (Ad rfl rfl (HD (n:=1) rfl rfl rfl (by omega) ?_))))))
  rw [show k / 2 ^ 1=k / 2 from rfl]
  refine AZ R rfl Ce BC rfl rfl (by omega) (by omega) (by rfl) ?_
  refine Ah rfl CU rfl (AX rfl Bw rfl (((R.ext0 H.ext).fld he rfl (j:=2) rfl)) ?_)
  refine Ad rfl rfl (Bf rfl rfl rfl (by omega) (by omega) ?_)
  refine Af rfl rfl (Ab (Aa (A9 (AB (v:=(.int _ _)) rfl rfl rfl ?_))))
  exact ⟨by unfold I7; rw [if_neg (of_decide_eq_false h1)],H.ext⟩
def Js (N:Int) (es:List Ed) (fl:List Int) (k:Int):Int:=if (Hi es k && B1 N es fl)=true then I7 (es.getD (k.toNat / 2) ⟨0,0,0,0⟩) (fl.getD (k.toNat / 2) 0) k.toNat else 0
set_option maxRecDepth 20000 in
theorem Pk (N:Int) (a b:Option Addr) (n c m d:Nat) (es:List Ed) (fl:List Int) (w:World) (R:Rd w a 4 Bv es) (hn:es.length=n) (hb:n≤1000000) (hN:I64 N) (Rf:Rd w b 1 I1 fl) (hm:fl.length=m) (hm2:m≤9223372036854775000) (k:Int):Ret Tryz.prog 170 #[CG N a n c,.slice b m d,.int .i64 k] w fun v w'=>v = .int .i64 (Js N es fl k)∧Ext [] w w':=by
 subst hn hm
 obtain ⟨w0,rfl⟩:∃ w0,w0=w:=⟨_,rfl⟩
 have H:=Ctx.start w0 []
 refine A1 (fn:=Tryz.f170) Tryz.func170 rfl [CG N a es.length c,.slice b fl.length d,.int .i64 k] rfl (by kernel_rfl) ?_
 refine Ag (Bs rfl [.int .i64 N,.slice a es.length c] (.agg _) rfl rfl H ?_)
 rintro b3 w - H
 refine Af rfl rfl (Ab (Aa (Aq (Ag (B5 (α:=Unit) 130944 (fun _=>[(16,.bool (!(Hi es k && B1 N es fl)))]) (fun _ w'=>Ctx w0 [] w' [(b3,Bl 28 [.int .i64 N,.slice a es.length c])]) rfl ?_ ?_)))))
 ·refine Bh rfl Cu Ci rfl H at0 rfl (Ad rfl rfl (Ao rfl Wz (WS N a es.length c es rfl hb k _) rfl ?_))
  rintro v w ⟨rfl,hx9⟩
  replace H:=H.call hx9
  refine Bu rfl rfl (Ak rfl rfl (A8 11 rfl ?_ ?_))
  ·intro h1
   replace h1:=Bp h1
   refine Ae rfl (Ae rfl (Ae rfl (Ae rfl (Am rfl rfl (.bool _) rfl (Ab ?_)))))
   exact ⟨rfl,(),rfl,⟨congrArg Value.bool (by rw [Bool.eq_iff_iff]; simp_all),trivial⟩,H⟩
  ·intro h2
   replace h2:=Bq h2
   refine Bh rfl Cu Ci rfl H at0 rfl (An rfl rfl (Ao rfl OZ (Jd N a b es.length c fl.length d es fl _ (R.ext0 H.ext) rfl hN (Rf.ext0 H.ext) rfl hm2) rfl ?_))
   rintro v w ⟨rfl,hx14⟩
   replace H:=H.call hx14
   refine Bu rfl rfl (A3 rfl rfl (.bool _) rfl (Ab ?_))
   exact ⟨rfl,(),rfl,⟨congrArg Value.bool (by rw [Bool.eq_iff_iff]; simp_all),trivial⟩,H⟩
 rintro - j16 w H
 refine Ax _ rfl ?_ ?_
 ·intro h1
  replace h1:=Bp h1
  refine Ag (Af rfl rfl (Ab (Aa (A9 (Al (AB (v:=(.int _ _)) rfl rfl rfl ?_))))))
  exact ⟨by unfold Js; rw [if_neg (by rw [show (Hi es k && B1 N es fl)=false by simpa using h1]; simp)],H.ext⟩
 ·intro h1
  replace h1:=Bq h1
  have h1':(Hi es k && B1 N es fl)=true:=by simpa using h1
  have hk:0≤k∧k<2*es.length:=by
   simp only [Bool.and_eq_true] at h1'
   have:=h1'.1
   unfold Hi at this
   simpa using this
  obtain ⟨q,rfl⟩:∃ q:Nat,k=(q:Int):=⟨k.toNat,by omega⟩
  obtain ⟨hl,hri,hin⟩:=BE (Bool.and_eq_true_iff.1 h1').2
  obtain ⟨e,he⟩:=AC (l:=es) (i:=q / 2) (by omega)
  obtain ⟨x,hx⟩:=AC (l:=fl) (i:=q / 2) (by omega)
  have hee:=(BR hri).2.2.2.1 e (List.mem_of_getElem? he)
  have hco:=CN hee
  have hxx:=hin _ e x he hx
  have hE:Js N es fl (q:Int)=I7 e x q:=by unfold Js; rw [if_pos h1',Int.toNat_natCast,List.getD_eq_getElem?_getD,he,List.getD_eq_getElem?_getD,hx]; rfl
  rw [hE]
  refine Av (Aa (Ag (Bh rfl Cu Ci rfl H at0 rfl (An rfl rfl (Ad rfl rfl (Ao rfl Acf (YS N a b es.length c fl.length d es fl _ (R.ext0 H.ext) rfl hb (Rf.ext0 H.ext) rfl q he hx (by omega)) rfl ?_))))))
  rintro v w ⟨rfl,hx20⟩
  replace H:=H.call hx20
  refine Af rfl rfl (Ab (Aa (A9 (AB (v:=(.int _ _)) rfl rfl rfl ?_))))
  exact ⟨rfl,H.ext⟩

end Go.Proofs.YtapphbmlkdhnmaaGreat
