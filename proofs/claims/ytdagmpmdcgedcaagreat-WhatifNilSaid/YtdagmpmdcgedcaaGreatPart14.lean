/- Part 14 of the proof. The last text: WhatifNil: for every input the law answers true, and turns nothing. -/
import Derived.Test.YtdagmpmdcgedcaaGreatPart3
import Derived.Test.YtdagmpmdcgedcaaGreatPart2
import Derived.Test.YtdagmpmdcgedcaaGreatPart13
import Derived.Test.YtdagmpmdcgedcaaGreatPart4
namespace Go.GV
open Go
variable {P:Program} {r:Option Nat} {Q:Exit→Env→World→Prop}
structure AR (Rl:World→World→Prop) (w0:World) (n:Nat) (anc:Nat→List Nat) (d:Nat→Option Tmp) (G:Nat→Value→World→Prop) (e0:Env) (l:Nat→Prop) (e:Env) (w:World):Prop where
 ds:e.ds=e0.ds
 old:∀ s,(∀ i,i<n→d i≠some s)→e.g s=e0.g s
 good:∀ i s,i<n→l i→d i=some s→G i (e.g s) w
 cl:∀ i,i<n→l i→∀ j∈anc i,l j
 rl:Rl w0 w
theorem Acn {id m n:Nat} {arr:Array Oper} {anc:Nat→List Nat} (Rl:World→World→Prop) (d:Nat→Option Tmp) (G:Nat→Value→World→Prop) {e:Env} {w:World} (hm:P.follows .mixedOrders=true) (hsz:arr.size=n) (hanc:SY arr anc n=true)
  (hd:∀ i,i<n→∀ j,j<n→d i≠none→d i=d j→i=j) (hx:∀ i v w w',i<n→G i v w→Rl w w'→G i v w') (hr0:∀ w,Rl w w) (hrt:∀ a b c,Rl a b→Rl b c→Rl a c)
  (hop:∀ i o e' w',i<n→arr[i]? = some o→(∀ s,(∀ j,j<n→d j≠some s)→e'.g s=e.g s)→(∀ j∈anc i,∀ s,d j=some s→G j (e'.g s) w')→Rl w.drew w'→AB P r arr.toList (Qk fun e2 w2=>∃ v,Rl w' w2∧e2=put e' (d i) v∧G i v w2) [o] e' w')
  (hfin:∀ e' w',e'.ds=e.ds→(∀ s,(∀ j,j<n→d j≠some s)→e'.g s=e.g s)→(∀ j,j<n→∀ s,d j=some s→G j (e'.g s) w')→Rl w.drew w'→Q .normal e' w'):W P r m (.region id arr true) Q e w:=by
 have hspec:=Hg hanc
 have hset:∀ {l:Array Bool} {i:Nat},l.size=n→i<n→∀ j,((l.setIfInBounds i true).getD j false=true)=(j=i∨l.getD j false=true):=fun {l i} hl hi j=>by
  apply propext
  by_cases e:j=i
  ·subst e;rw [Array.getD_eq_getD_getElem?,Array.getElem?_setIfInBounds_self_of_lt (by omega)];simp
  ·rw [Array.getD_eq_getD_getElem?,Array.getElem?_setIfInBounds_ne (Ne.symm e),← Array.getD_eq_getD_getElem?];simp [e]
 refine VD (I:=fun l e' w'=>l.size=n∧AR Rl w.drew n anc d G e (fun i=>l.getD i false=true) e' w') hm ?_ ?_ ?_
 ·refine ⟨by simp [hsz],rfl,fun _ _=>rfl,fun i _ _ h=>?_,fun i _ h=>?_,hr0 _⟩ <;>
   (exfalso; rw [getD_replicate_false] at h; cases h)
 ·rintro l e' w' i o ⟨hls,A⟩ hr ho;have hi:i<n:=by have:=(Array.getElem?_eq_some_iff.1 ho).1; omega
  have ha:∀ k∈anc i,l.getD k false=true:=fun k hk=>by
   rcases (hspec i hi).1 k hk with h | ⟨j,h1,h2⟩
   ·exact Es hr k h
   ·exact A.cl j (by have:=(hspec i hi).2 j h1; omega) (Es hr j h1) k h2
  refine C8 ?_ _ _ _ (hop i o e' w' hi ho A.old (fun j hj s hs=>A.good j s (Nat.lt_trans (FS hanc i hi j hj) hi) (ha j hj) hs) A.rl);intro x e2 w2 hq
  cases x with
  | normal =>
   obtain ⟨v,h1,rfl,h3⟩:=hq
   have hput:∀ s,d i≠some s→(put e' (d i) v).g s=e'.g s:=fun s hs=>by
    cases hdi:d i with
    | none=>rfl
    | some t=>exact Iv fun h=>hs (by rw [hdi,h])
   refine ⟨by simp [hls],?_,fun s hs=>?_,fun j s hj hl hs=>?_,fun j hj hl k hk=>?_,hrt _ _ _ A.rl h1⟩
   ·rw [← A.ds]; cases d i <;> rfl
   ·rw [hput s (hs i hi)]; exact A.old s hs
   ·rw [hset hls hi] at hl
    by_cases hji:j=i
    ·subst hji;rw [hs,ID]; exact h3
    ·rw [hput s fun h=>hji (hd i hi j hj (by rw [h]; exact fun h=>by cases h) (by rw [h,hs])).symm];exact hx j _ _ _ hj (A.good j s hj (hl.resolve_left hji) hs) h1
   ·rw [hset hls hi] at hl ⊢
    rcases hl with rfl | hl
    ·exact .inr (ha k hk)
    ·exact .inr (A.cl j hj hl k hk)
  | exit id=>exact hq.elim
  | goto l=>exact hq.elim
  | ret=>exact hq.elim
  | panic c=>exact hq.elim
  | outgrown=>exact hq.elim
 ·rintro l e' w' ⟨hls,A⟩ hr
  have hal:∀ i,i<n→l.getD i false=true:=fun i=>by
   induction i using Nat.strongRecOn with
   | _ i ih =>
    intro hi
    cases hc:l.getD i false with
    | true=>rfl
    | false =>
     have hu:l.getD i true=false:=by
      rw [Array.getD_eq_getD_getElem?,Array.getElem?_eq_getElem (by omega)] at hc ⊢
      simpa using hc
     have:=LA (arr:=arr) (l:=l) (i:=i) hu fun j hj=>ih j ((hspec i hi).2 j hj) (by have:=(hspec i hi).2 j hj; omega);rw [hr] at this;cases this
  exact hfin e' w' A.ds A.old (fun j hj s hs=>A.good j s hj (hal j hj) hs) A.rl
end Go.GV
namespace Go.GV
open Go
section
variable {P:Program} {r:Option Nat} {ops rest:List Oper} {Q:Exit→Env→World→Prop} {e:Env} {w:World}
 {dst:Option Tmp} {ty:TypeId} {pos:String} {af:Array Edge} {g:Option (Nat × Bool)}
theorem Aco {t el:TypeId} {x y:Operand} {by' s:Nat} {l:List Value} {k k2:IntKind} {i j:Int} (hg:AV ⟨dst,.makeSlice t x y,ty,pos,af,g⟩ ops e=true)
  (hu:C7 P t=some el) (hs:Cd P el=some s) (hs0:0<s) (hby:D4 P el=some by') (hz:Ce P el=some l) (hx:ev e x = .int k i) (hy:ev e y = .int k2 j) (h0:0≤i) (hj0:0<j) (h1:i≤j) (h2:by'*j≤281474976710656) (h3:j≤9223372036854775807)
  (h:∀ b w',Ext [] w w'→AB P r ops Q rest (put e dst (.slice (some ⟨b,0,none⟩) i.toNat j.toNat)) w') :
  AB P r ops Q (⟨dst,.makeSlice t x y,ty,pos,af,g⟩::rest) e w:=by
 obtain ⟨zv,hz1,hz2⟩:=FR hz w
 have hby2:∃ i,P.info? el=some i∧i.bytes=by':=by
  unfold D4 at hby
  cases hi:P.info? el with
  | none=>rw [hi] at hby; cases hby
  | some i=>rw [hi] at hby; simp at hby; exact ⟨i,rfl,hby⟩
 obtain ⟨inf,hi,hib⟩:=hby2;have hti:∀ w,(typeInfo el).run P w = .ok inf w:=fun w=>by simp [typeInfo,program,Sem.run,hi]
 have hw1:IntKind.i64.wrap i=i:=CJ (k := .i64) (by simp [IntKind.min,IntKind.signed,IntKind.bits]; omega) (by simp [IntKind.max,IntKind.signed,IntKind.bits]; omega);have hw2:IntKind.i64.wrap j=j:=CJ (k := .i64) (by simp [IntKind.min,IntKind.signed,IntKind.bits]; omega) (by simp [IntKind.max,IntKind.signed,IntKind.bits]; omega);have hroom:∀ k w,(askRoom k).run P w = .ok () w:=fun k w=>by unfold askRoom; split <;> rfl
 refine B9 (w':=w.alloc (.cells ((Array.range (j.toNat*s)).map fun q=>zv.cells[q % zv.cells.size]!) el)) (v := .slice (some ⟨w.heap.size,0,none⟩) i.toNat j.toNat) hg U ?_ (h _ _ ((Ctx.start w []).alloc _).ext);have hn1:¬ j<0:=by omega
 have hn2:¬ (281474976710656<(by':Int)*j):=by omega
 have hn3:¬ i<0:=by omega
 have hn4:¬ j<i:=by omega
 have hjs:=Nat.mul_pos (show 0<j.toNat by omega) hs0;simp [execOp,Instr.makeSlice,Bc (C2 hu),hx,hy,asInt,asIntOf,hti,hib,hw1,hw2,hn1,hn2,hn3,hn4,hroom,C3 hs,hz1,newRow,newObj,Sem.run];intro hh;omega
end
end Go.GV
namespace Go.Proofs.YtdagmpmdcgedcaaGreat
open Go.GV
attribute [local irreducible] AB W Wq Wt
def nA:Nat→List Nat:=fun i=>[[],[],[0,1],[0,1,2],[0,1,2,3],[0,1,2,3],[0,1,2,3],[],[0,1,2,3,4,7],[0,1,2,3,4,5,7,8],[0,1,2,3,4,5,6,7,8,9]].getD i []
def nL:Nat→Option Tmp:=fun i=>[some 27,some 28,some 29,some 26,some 30,some 31,some 32,some 9,some 8,none,some 10].getD i none
abbrev nT:Value := .tuple #[.slice none 0 0,.agg stC0.toArray,.int .i64 6]
def nG (n0:Nat):List (Value→World→Prop):=[fun v _=>∃ b,v=ptr b,fun v _=>∃ a,v = .slice a 1001 1001,isV nT,isV nT,isV (.slice none 0 0),isV (.agg stC0.toArray),isV (.int .i64 6),
 fun v w=>∃ b l,v=ptr b∧w.heap[b]? = some (Bl 32 l)∧l.length=7∧n0≤b,isV (.slice none 0 0),fun _ _=>True,isV (.int .i64 6)]
def nRl (w0 w w':World):Prop:=(Ext [] w0 w→Ext [] w0 w')∧∀ (b:Nat) (l:List Value),w.heap[b]? = some (Bl 32 l)→l.length=7→∃ l',w'.heap[b]? = some (Bl 32 l')∧l'.length=7
theorem Gd {w0 w w':World} (h:Ext [] w w'):nRl w0 w w':=⟨fun h0=>h0.trans h,fun b l h1 h2=>⟨l,h.to h1 (by simp),h2⟩⟩
theorem Yl {w0 a b c:World} (h:nRl w0 a b) (k:nRl w0 b c):nRl w0 a c:=⟨fun h0=>k.1 (h.1 h0),fun x l h1 h2=>by
 obtain ⟨l',h3,h4⟩:=h.2 x l h1 h2
 exact k.2 x l' h3 h4⟩
theorem nG_ok {w0:World} {n0:Nat}:∀ i v w w',i<11→atG (nG n0) i v w→nRl w0 w w'→atG (nG n0) i v w':=fun i v w w' hi h hr=>by
 match i,hi,h with
 | 0,_,h | 1,_,h | 2,_,h | 3,_,h | 4,_,h | 5,_,h | 6,_,h | 8,_,h | 9,_,h | 10,_,h=>exact h
 | 7,_,⟨b,l,h1,h2,h3,h6⟩ =>
  obtain ⟨l',h4,h5⟩:=hr.2 b l h2 h3;exact ⟨b,l',h1,h4,h5,h6⟩
set_option maxRecDepth 20000 in
set_option maxHeartbeats 4000000 in
theorem S4 (a:Option Addr) (c n:Nat) (w:World) :
  Ret Tryz.prog 13 #[.slice a n c] w fun v w'=>v = .bool true∧Ext [] w w':=by
 obtain ⟨w1,rfl⟩:∃ w1,w1=w:=⟨_,rfl⟩;have H:=Ctx.start w1 [];refine Aw (fn:=Tryz.f13) Tryz.func13 U [.slice a n c] U (by kernel_rfl) ?_;refine Af (Ai U (Ab (Aa (Aq (Af (A3 U (Bi Hn U (Cs U U (Ab (Aa (Ap _ U ?_ ?_)))))))))))
 ·intro h1;replace h1:=AJ h1;refine Af (Al LD (EG _) U ?_);rintro v w ⟨rfl,hx⟩;replace H:=H.call hx;refine Ai U (Ab (Aa (A4 (Ao (AD (v:=(.bool _)) U U U ?_)))));exact ⟨rfl,H.ext⟩
 ·intro h1;replace h1:=AK h1;refine Au (Aa (Af (A3 U (Al Tl (QU _ _ _ _) U ?_))));rintro v w ⟨rfl,hx⟩;replace H:=H.call hx;refine BM U (A6 U U (A6 U U (A6 U U (AX GM H ?_))));rintro b4 w - H;refine A1 U (Bm DZ U U U (by simp [AO]) H at0 U ?_);rintro w H;refine Ad U (Ab (Aa (Af (A3 U (Al Afr (Uk _ _ _ _ _) U ?_)))));rintro v w ⟨rfl,hx⟩;replace H:=H.call hx;refine BM U (A6 U U (A6 U U (Ad U (Ai U (Ab (Aa (DC 8522827520 (α:=Unit) (fun _=>[(5,.int .i64 2),(7,.bool false),(10,.int .i64 6)]) (fun _ w'=>Ext [] w1 w') U ?_ ?_)))))))
  ·skip
   refine Acn (n:=11) (anc:=nA) (nRl (World.drew w)) nL (atG (nG w.heap.size)) (show Tryz.prog.follows .mixedOrders=true by kernel_rfl) U (by kernel_rfl) (by decide) nG_ok (fun _=>Gd (.refl _ _)) (fun _ _ _=>Yl) ?_ ?_
   ·intro i o e' w' hi ho hold hg hrl;have hex:=hrl.1 (.refl _ _);have hcs:i=0∨i=1∨i=2∨i=3∨i=4∨i=5∨i=6∨i=7∨i=8∨i=9∨i=10:=by omega
    rcases hcs with rfl | rfl | rfl | rfl | rfl | rfl | rfl | rfl | rfl | rfl | rfl
    ·cases Option.some.inj ho;refine Al VK (NM _) U ?_;rintro v w2 ⟨m0,rfl,H0,I0⟩;exact Ab ⟨_,Gd H0.ext,rfl,_,rfl⟩
    ·cases Option.some.inj ho;refine Aco (i:=1001) (j:=1001) U Hn IH (by decide) by_40 GN U U (by decide) (by decide) (by decide) (by decide) (by decide) ?_;intro b w2 hx;exact Ab ⟨_,Gd hx,rfl,_,rfl⟩
    ·cases Option.some.inj ho;obtain ⟨b,h27⟩:=hg 0 (by decide) 27 rfl;obtain ⟨q,h28⟩:=hg 1 (by decide) 28 rfl;refine Al Tl (V2 b q 1001 1001 (by decide) w') (by show [e'.g 27,e'.g 28]=_; rw [h27,h28]) ?_;rintro v w2 ⟨rfl,hx⟩;exact Ab ⟨_,Gd hx,rfl,rfl⟩
    ·cases Option.some.inj ho;exact Da U _ (hg 2 (by decide) 29 U) (Ab ⟨_,Gd (.refl _ _),rfl,rfl⟩)
    ·cases Option.some.inj ho;exact A6 (hg 3 (by decide) 26 U) U (Ab ⟨_,Gd (.refl _ _),rfl,rfl⟩)
    ·cases Option.some.inj ho;exact A6 (hg 3 (by decide) 26 U) U (Ab ⟨_,Gd (.refl _ _),rfl,rfl⟩)
    ·cases Option.some.inj ho;exact A6 (hg 3 (by decide) 26 U) U (Ab ⟨_,Gd (.refl _ _),rfl,rfl⟩)
    ·cases Option.some.inj ho;refine AX GM (Ctx.start w' []) ?_;intro b w2 hb H;exact Ab ⟨_,Gd H.ext,rfl,b,_,rfl,H.get at0,rfl,by rw [← hb]; exact hex.size⟩
    ·cases Option.some.inj ho;exact CG U _ (hg 4 (by decide) 30 U) (Ab ⟨_,Gd (.refl _ _),rfl,rfl⟩)
    ·cases Option.some.inj ho;obtain ⟨b,l,h9,hb,hl,hbn⟩:=hg 7 (by decide) 9 rfl;refine Bm DZ h9 (hg 5 (by decide) 31 U) U (by simp [AO]) (Ctx.start1 hb) at0 hl ?_;intro w2 H;refine Ab ⟨_,⟨fun h=>h.then H.ext (fun x hx => .inr (by rw [List.mem_singleton.1 hx]; exact hbn)),fun b2 l2 h1 h2=>?_⟩,rfl,trivial⟩
     by_cases hbb:b2=b
     ·subst hbb;exact ⟨_,H.get at0,rfl⟩
     ·exact ⟨l2,H.ext.to h1 (by simp [hbb]),h2⟩
    ·cases Option.some.inj ho;exact CG U _ (hg 6 (by decide) 32 U) (Ab ⟨_,Gd (.refl _ _),rfl,rfl⟩)
   ·intro e' w' hds hold hg hrl;exact ⟨(),hds,⟨(hold 5 (by decide)).trans rfl,(hold 7 (by decide)).trans rfl,hg 10 (by decide) 10 rfl,trivial⟩,(H.ext.trans (Ext.drew [] w)).trans (hrl.1 (.refl _ _))⟩
  ·rintro _ j w hxw; have H:=Ctx.start w [];refine Af (Ae U (Cf U U (AE U (AE U (BA U (AN U (.bool _) U (AE U (B1 (BV (ak 0 0 0 0 0 0 0)) JA GN (by kernel_rfl) ?_))))))));refine Al Afq (Yk _ _) U ?_;rintro v w ⟨rfl,hx⟩;replace H:=H.call hx;refine Cf U U (AN U (.bool _) U (AE U (Ae U (Cf U U (AN U (.bool _) U (AE U (Al LD (EG _) U ?_)))))));rintro v w ⟨rfl,hx⟩;replace H:=H.call hx;refine AN U (.bool _) U (Ai U (Ab (Aa (A4 (AD (v:=(.bool _)) U U U ?_)))));exact ⟨rfl,hxw.trans H.ext⟩
end Go.Proofs.YtdagmpmdcgedcaaGreat
namespace Go.Proofs.YtdagmpmdcgedcaaGreat
open Go.GV Go.ChangeShapes Go.WideShapes Go.RowKit
set_option maxRecDepth 100000 in
theorem MX (os:Os) (started:os.Started) (H:Type) (enc:TypeId × Value→H) :
  ReturnsInHanded {} Tryz.checked os 13 .any (Rows.whatifNilSpec.pre6 enc Tryz.prog Tryz.f13 Rows.whatifNilRow.domain false) (Rows.whatifNilSpec.post enc Tryz.prog Tryz.f13 false true false false):=by
 refine returnsInHanded_of_change (C:=Tryz.checked) own started (by kernel_rfl) Tryz.func13
  (ChangeSpec.witness6 (enc:=enc) (C:=Tryz.checked) false ⟨#[],#[.slice none 0 0],[]⟩ 8 (by kernel_rfl) (by kernel_rfl) (by kernel_rfl) (by kernel_rfl)) ?_
 intro W base args ds gs before hval0 hW hcnd _;have hval:∀ (j:Nat) t v,Tryz.f13.params[j]? = some t→args[j]? = some v→Value.okWide Tryz.prog W .any base t v:=hval0;have hW':=hW;obtain ⟨p,q,hA0,hV,rfl,hfz,hnd⟩:=hW;have hA:DataW.TrodAll enc Tryz.prog W 0 (fun _=>true) true Tryz.f13.params.toList args.toList ds p:=hA0;rw [Tryz.params13] at hA hval;obtain ⟨v0,vs0,d0,ds0,p0,q0,hargs,rfl,rfl,h0,r0⟩:=trodAll_cons hA;obtain ⟨rfl,rfl,rfl⟩:=trodAll_nil r0;obtain rfl:args=#[v0]:=by cases args; simp_all
 obtain ⟨a0,c0,l0,rfl,R0,H0⟩:=S2 (hval 0 _ v0 rfl rfl) h0;refine (S4 a0 c0 _ W).calls.mono ?_;rintro e W' ⟨v,rfl,rfl,hx⟩;exact ⟨_,rfl,Ow S1 U (by kernel_rfl) U Tryz.underlying4 (fun ds h=>match ds,h with | [_],_=>rfl) hW' hx⟩
theorem S5:jn1 Tryz.prog 13 Tryz.f13 Rows.whatifNilSpec Rows.whatifNilRow=true:=by kernel_rfl
theorem S6:jn2 Tryz.prog 13 Tryz.f13 Rows.whatifNilSpec Rows.whatifNilRow=true:=by kernel_rfl
theorem S7:jn3 Tryz.prog 13 Tryz.f13 Rows.whatifNilSpec Rows.whatifNilRow=true:=by kernel_rfl
theorem S8:jn4 Tryz.prog 13 Tryz.f13 Rows.whatifNilSpec Rows.whatifNilRow=true:=by kernel_rfl
theorem SA:jn5 Tryz.prog 13 Tryz.f13 Rows.whatifNilSpec Rows.whatifNilRow=true:=by kernel_rfl
theorem SB:joinedFacts Tryz.prog 13 Tryz.f13 Rows.whatifNilSpec Rows.whatifNilRow=true:=M8 S5 S6 S7 S8 SA
theorem whatifNil_holds:Rows.WhatifNilSaid :=
 OpenClaim.holds_of_wide 13 Tryz.f13 rfl rfl rfl rfl rfl rfl rfl ⟨rfl,rfl,rfl,rfl,rfl⟩ rfl rfl rfl rfl rfl (by kernel_rfl) Tryz.func13 SB
  (of_decide_eq_true (by kernel_rfl)) (by unfold Func.isWrapper; rw [if_neg (of_decide_eq_false (by kernel_rfl))]; exact ⟨rfl,rfl⟩)
  (fun os started H enc _=>MX os started H enc)
#print axioms whatifNil_holds
end Go.Proofs.YtdagmpmdcgedcaaGreat
