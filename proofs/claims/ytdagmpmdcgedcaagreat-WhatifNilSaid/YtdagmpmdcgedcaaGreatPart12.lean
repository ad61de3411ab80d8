/- Part 12 of the proof. -/
import Derived.Test.YtdagmpmdcgedcaaGreatPart2
import Derived.Test.YtdagmpmdcgedcaaGreatPart11
import Derived.Test.YtdagmpmdcgedcaaGreatPart4
import Derived.Test.YtdagmpmdcgedcaaGreatPart9
import Derived.Test.YtdagmpmdcgedcaaGreatPart8
import Derived.Test.YtdagmpmdcgedcaaGreatPart10
import Derived.Test.YtdagmpmdcgedcaaGreatPart3
namespace Go.Proofs.YtdagmpmdcgedcaaGreat
open Go.GV
attribute [local irreducible] AB W Wq Wt
theorem Px {P:Program} {ops rest:List Oper} {e:Env} {dst:Option Tmp} {ty:TypeId} {pos:String} {af:Array Edge} {g:Option (Nat × Bool)} {C:World→Prop} {K:Env→Prop} {t t2:TypeId} {x:Operand} {a:Option Addr} {el:TypeId} (hg:AV ⟨dst,.binOp .eql t x (.const (.pointer none)) t2,ty,pos,af,g⟩ ops e=true) (hu:P.underlying t=some (.pointer el)) (hx:ev e x = .pointer a)
  (h:Wq P ops C K rest (put e dst (.bool a.isNone))):Wq P ops C K (⟨dst,.binOp .eql t x (.const (.pointer none)) t2,ty,pos,af,g⟩::rest) e :=
 Ei hg (fun w _=>by
  have hq:eqGuard .eql t x (.const (.pointer none)) (.pointer a) (.pointer none)=pure ():=rfl;have he:ev e (.const (.pointer none)) = .pointer none:=rfl
  simp only [execOp,hx,he,hq,Sem.run_bind,Sem.run_pure,Result.andThen_ok,SW hu]) h
set_option maxRecDepth 20000 in
set_option maxHeartbeats 2000000 in
theorem Ue {br n:Nat} {no k:Int} {arch:List Value} (w:World) (h0:w.heap[br]? = some (Bl 168 arch)) (hn:arch[32]? = some (.int .u64 n)) (hno:arch[33]? = some (.int .u64 no)) (hb:0≤no∧no≤4611686018427387904) (hk0:0≤k∧k≤18446744073709551615) (hk:k≤no→(n:Int)≤no - k) :
  Ret Tryz.prog 120 #[ptr br,.int .u64 k] w fun v w'=>v = .tuple #[.agg (rnd0).toArray,.bool false]∧Ext [] w w':=by
 obtain ⟨w0,rfl⟩:∃ w0,w0=w:=⟨_,rfl⟩;have H:=Ctx.start w0 [];refine Aw (fn:=Tryz.f120) Tryz.func120 U [.pointer (some ⟨br,0,none⟩),.int .u64 k] U (by kernel_rfl) ?_;refine Af (AX Gg H ?_);rintro b4 w - H;refine Ai U (Ab (Aa (Aq ?_)))
 by_cases hkn:no<k
 ·skip
  refine Er (fun x=>x=_) Bs (by kernel_rfl) U ?_;refine B4 U (Px U MF U ?_);refine CU U (Bh U (B4 U (Bb U (A7 Fb U (BX B5 U (by rintro _ rfl; exact ((by rw [Aj (H.drew.ext.to h0 (by simp))]; exact hno))) ?_)))));refine Qe U U U ?_;rw [decide_eq_true hkn];refine GU U (.bool _) U (CU U (A2 U (A2 U (A2 U (A2 U (A2 U (A2 U (A2 U (A2 U ?_)))))))));refine A2 U (A2 U (A2 U (Ia U (.bool _) U (BW ?_))));rintro _ rfl;replace H:=H.drew;refine Dz U (Af (B1 [.int .u64 0,.int .i64 0,.bool false,.slice none 0 0,.int .i64 0,.slice none 0 0,.slice none 0 0,.slice none 0 0] VQ Gg (by kernel_rfl) ?_));refine Bm Dh U U U (by simp [AO]) H at0 U ?_;rintro w H;refine Ai U (Ab (Aa (A4 (Ao (Ib U U U FT Dh H at0 U (show _=(.bool _) from rfl) ?_)))));exact ⟨rfl,H.ext⟩
 ·skip
  refine Er (fun x=>x=_) Bs (by kernel_rfl) U ?_;refine B4 U (Px U MF U ?_);refine CU U (Bh U (B4 U (Bb U (A7 Fb U (BX B5 U (by rintro _ rfl; exact ((by rw [Aj (H.drew.ext.to h0 (by simp))]; exact hno))) ?_)))));refine Qe U U U ?_;rw [decide_eq_false hkn];refine GU U (.bool _) U (CU U (B4 U (Bb U (A7 Fb U (BX B5 U (by rintro _ rfl; exact ((by rw [Aj (H.drew.ext.to h0 (by simp))]; exact hno))) ?_)))));refine Bh U (Qf U U U ?_);refine B4 U (Bb U (A7 IG U (BX B5 U (by rintro _ rfl; exact ((by rw [Aj (H.drew.ext.to h0 (by simp))]; exact hn))) ?_)));refine Afi U U U ?_;rw [decide_eq_true (show (n:Int)≤no - k from hk (by omega))];refine GU U (.bool _) U (BW ?_);rintro _ rfl;replace H:=H.drew
  refine Dz U (Af (B1 [.int .u64 0,.int .i64 0,.bool false,.slice none 0 0,.int .i64 0,.slice none 0 0,.slice none 0 0,.slice none 0 0] VQ Gg (by kernel_rfl) ?_));refine Bm Dh U U U (by simp [AO]) H at0 U ?_;rintro w H;refine Ai U (Ab (Aa (A4 (Ao (Ib U U U FT Dh H at0 U (show _=(.bool _) from rfl) ?_)))));exact ⟨rfl,H.ext⟩
set_option maxRecDepth 20000 in
set_option maxHeartbeats 2000000 in
theorem QQ {br n:Nat} {no k:Int} {arch:List Value} {r:Rnd} {q:RSl} (w:World) (h0:w.heap[br]? = some (Bl 168 arch)) (_hl:arch.length=34) (hn:arch[32]? = some (.int .u64 n)) (hno:arch[33]? = some (.int .u64 no)) (hb:0≤no∧no≤4611686018427387904) (hk0:0≤k∧k≤18446744073709551615) (hk:k≤no∧no - k<n)
  (hc:∀ j v,(BK r q)[j]? = some v→arch[(k % 4).toNat*8+j]? = some v) (RA:RAt w r q) (hr:RBnd r) :
  Ret Tryz.prog 120 #[ptr br,.int .u64 k] w fun v w'=>Ext [] w w'∧∃ q',v = .tuple #[.agg (BK r q').toArray,.bool true]∧RAt w' r q'∧ROff q' r (fun x=>x<w.heap.size):=by
 obtain ⟨w0,rfl⟩:∃ w0,w0=w:=⟨_,rfl⟩;have H:=Ctx.start w0 [];have h3:0≤k % 4∧k % 4<4:=⟨Int.emod_nonneg _ (by decide),Int.emod_lt_of_pos _ (by decide)⟩;refine Aw (fn:=Tryz.f120) Tryz.func120 U [.pointer (some ⟨br,0,none⟩),.int .u64 k] U (by kernel_rfl) ?_;refine Af (AX Gg H ?_);rintro b4 w - H;refine Ai U (Ab (Aa (Aq (Er (fun x=>x=_) Bs (by kernel_rfl) U ?_))));refine B4 U (Px U MF U ?_);refine CU U (Bh U (B4 U (Bb U (A7 Fb U (BX B5 U (by rintro _ rfl; exact ((by rw [Aj (H.drew.ext.to h0 (by simp))]; exact hno))) ?_)))));refine Qe U U U ?_;rw [decide_eq_false (show ¬ no<k by omega)];refine GU U (.bool _) U (CU U (B4 U (Bb U (A7 Fb U (BX B5 U (by rintro _ rfl; exact ((by rw [Aj (H.drew.ext.to h0 (by simp))]; exact hno))) ?_)))));refine Bh U (Qf U U U ?_)
 refine B4 U (Bb U (A7 IG U (BX B5 U (by rintro _ rfl; exact ((by rw [Aj (H.drew.ext.to h0 (by simp))]; exact hn))) ?_)));refine Afi U U U ?_;rw [decide_eq_false (show ¬ (n:Int)≤no - k by omega)];refine GU U (.bool _) U (BW ?_);rintro _ rfl;replace H:=H.drew;refine Fg U (Au (Aa (Af (Ay U (Ae U (Agf U U U ?_))))));refine A9 U (Ag OC U (Nb U UE Dh U U ?_));refine Cj _ FT Dh U U ((fun j v hv=>by rw [Aj (H.ext.to h0 (by simp)),show 0+0+(k % 4).toNat*8+j=(k % 4).toNat*8+j by omega]; exact hc j v hv)) ?_;have hx3:=H.ext;have hl4:=Ba (H.get at0);refine Al UF (Sv r q _ (RA.ext0 H.ext) hr) U ?_;rintro v w ⟨hx9,q',rfl,RA',hoff⟩;obtain ⟨w9,rfl⟩:∃ z,z=w:=⟨_,rfl⟩;have h4:=hx9.to (H.get at0) (by simp);have hb4:w0.heap.size≤b4:=(H.own _ (List.mem_cons_self ..)).elim (fun h=>by cases h) id;replace H:=Ctx.start1 h4
 refine Bm Dh U U U (by simp [AO]) H at0 U ?_;rintro w H;refine Ai U (Ab (Aa (A4 (Ib U U U FT Dh H at0 U (show _=(.bool _) from rfl) ?_))));have hs3:=hx3.size;refine ⟨(hx3.trans hx9).then H.ext (fun x hx => .inr (by rw [List.mem_singleton.1 hx]; exact hb4)),q',rfl,RA'.ext H.ext (hoff.mono fun x hx=>by rw [List.mem_singleton.1 hx]; exact hl4),hoff.mono fun x hx=>Nat.lt_of_lt_of_le hx hs3⟩
end Go.Proofs.YtdagmpmdcgedcaaGreat
namespace Go.Proofs.YtdagmpmdcgedcaaGreat
open Go.GV
attribute [local irreducible] AB W Wq Wt
theorem Ab8 {s:Ld} (h:s.Ok) {r x:Rnd} (hx:x∈JC s.rn r):x=r∨(x∈s.rn∧s.no - 2≤x.no∧x.no≤s.no):=by
 obtain ⟨i,hi⟩:=List.mem_iff_getElem?.1 hx;unfold JC at hi;rw [List.getElem?_drop] at hi
 rcases Nat.lt_or_ge (s.rn.length - 3+i) s.rn.length with h5 | h5
 ·rw [List.getElem?_append_left h5] at hi;have h1:=h.nos _ x hi;exact .inr ⟨List.mem_of_getElem? hi,by omega,by omega⟩
 ·rw [List.getElem?_append_right h5] at hi;left
  have h6:s.rn.length - 3+i - s.rn.length=0:=by
   have:=Ck hi;rw [List.length_singleton] at this;omega
  rw [h6] at hi;cases hi;rfl
theorem WF (arch:List Value) (n:Nat) (r:Rnd) (q:RSl):(Ja arch n r q).length=arch.length:=by
 unfold Ja;rw [List.length_set,List.length_set,D5]
theorem Agb {arch:List Value} (h:arch.length=34) (n:Nat) (r:Rnd) (q:RSl):(Ja arch n r q)[32]? = some (.int .u64 ((min (n+1) 4:Nat):Int)):=by
 unfold Ja;rw [List.getElem?_set_ne (by decide),List.getElem?_set_self (by rw [D5]; omega)]
theorem Aj8 {arch:List Value} (h:arch.length=34) (n:Nat) (r:Rnd) (q:RSl):(Ja arch n r q)[33]? = some (.int .u64 r.no):=by
 unfold Ja;rw [List.getElem?_set_self (by rw [List.length_set,D5]; omega)]
theorem Ab9 {arch:List Value} (h:arch.length=34) (n:Nat) {r:Rnd} {q:RSl} {j:Nat} {v:Value} (hj:(BK r q)[j]? = some v):(Ja arch n r q)[(r.no % 4).toNat*8+j]? = some v:=by
 have hlt:j<8:=Ck hj;have h3:0≤r.no % 4∧r.no % 4<4:=⟨Int.emod_nonneg _ (by decide),Int.emod_lt_of_pos _ (by decide)⟩;unfold Ja;rw [List.getElem?_set_ne (by omega),List.getElem?_set_ne (by omega),WD (by rw [h]; show _+8≤34; omega) hlt];exact hj
theorem WG {arch:List Value} (n:Nat) {r x:Rnd} {q qx:RSl} {j:Nat} {v:Value} (hne:x.no % 4≠r.no % 4) (hj:(BK x qx)[j]? = some v) (hc:arch[(x.no % 4).toNat*8+j]? = some v):(Ja arch n r q)[(x.no % 4).toNat*8+j]? = some v:=by
 have hlt:j<8:=Ck hj;have h3:0≤r.no % 4∧r.no % 4<4:=⟨Int.emod_nonneg _ (by decide),Int.emod_lt_of_pos _ (by decide)⟩;have h4:0≤x.no % 4∧x.no % 4<4:=⟨Int.emod_nonneg _ (by decide),Int.emod_lt_of_pos _ (by decide)⟩;unfold Ja;rw [List.getElem?_set_ne (by omega),List.getElem?_set_ne (by omega)]
 rcases Int.lt_or_gt_of_ne hne with h | h
 ·rw [Sy (by omega)];exact hc
 ·rw [Sx (by show (r.no % 4).toNat*8+8≤_; omega)];exact hc
theorem Sz {r:Rnd} (h:N6 r=true):RBnd r:=by
 unfold N6 at h;simp only [Bool.and_eq_true,decide_eq_true_eq] at h;obtain ⟨hc,hi,-⟩:=h;obtain ⟨h1,h2,-⟩:=Gp.1 hc;obtain ⟨g1,g2,g3,-⟩:=CD (Cv (Ff h1).1).2.1;have g4:=(Cv (Ff h1).1).1;have g5:=(Ll h2).1;exact ⟨⟨by omega,by omega⟩,by omega,by omega,by omega,by omega⟩
theorem Yd {s:Ld} (h:s.Ok) {k:Int} {r:Rnd} (hg:TW s k=some r):(k≤s.no∧s.no - k<s.rn.length)∧r∈s.rn∧r.no=k:=by
 unfold TW at hg
 by_cases h1:k≤s.no∧s.no - k<s.rn.length
 ·rw [if_pos h1] at hg;have h2:=h.nos _ r hg;exact ⟨h1,List.mem_of_getElem? hg,by omega⟩
 ·rw [if_neg h1] at hg;cases hg
theorem QR {s:Ld} (h:s.Ok) {k:Int} (hg:TW s k=none) (hk:k≤s.no):(s.rn.length:Int)≤s.no - k:=by
 by_cases h1:s.no - k<s.rn.length
 ·unfold TW at hg;rw [if_pos ⟨hk,h1⟩,List.getElem?_eq_none_iff] at hg;have:=h.kept;omega
 ·omega
theorem Ae5 {m m':Lm} {s s':Ld} (h1:m'.bl=m.bl) (h2:m'.br=m.br) (h3:m'.ba=m.ba) (h4:m'.bd=m.bd) (h5:m'.b=m.b) (h6:m'.a=m.a):CW m' s'=CW m s:=by
 obtain ⟨bl,ba,bd,br,b,a,c,full,o,arch⟩:=m;obtain ⟨bl',ba',bd',br',b',a',c',full',o',arch'⟩:=m';dsimp only at h1 h2 h3 h4 h5 h6;subst h1 h2 h3 h4 h5 h6;show bl'::br'::ba'::bd'::b'::(ent a' 43 full').map (fun x=>x.1)=bl'::br'::ba'::bd'::b'::(ent a' 43 full).map (fun x=>x.1);rw [WA (f:=full') (g:=full)]
theorem LdIn.rnd {w w1 w':World} {m:Lm} {s:Ld} {T:Nat→Prop} {S:List Nat} {r:Rnd} {q:RSl} {full':List Value} {o':Obj} (I:LdIn w m s T) (he:Ext S w w') (hs:∀ x∈S,T x) (hok:(MT s r).Ok)
  (O:OS m.a (GK s.acs s.ds r).length m.c 2 full' ((GK s.acs s.ds r).flatMap CM)) (M:CT .u64 (dm (Gq s.acs s.ds r)) o') (RA:RAt w' { r with no:=s.no+1,day:=s.day } q) (hoff:ROff q { r with no:=s.no+1,day:=s.day } (fun x=>x<w1.heap.size)) (hle:w.heap.size≤w1.heap.size) :
  LdIn w' ⟨m.bl,m.ba,m.bd,m.br,m.b,m.a,m.c,full',o',Ja m.arch s.rn.length { r with no:=s.no+1,day:=s.day } q⟩ (MT s r) (fun x=>T x∨x∈CW ⟨m.bl,m.ba,m.bd,m.br,m.b,m.a,m.c,full',o',Ja m.arch s.rn.length { r with no:=s.no+1,day:=s.day } q⟩ (MT s r)):=by
 have hid:∀ x,T x∨x∈CW ⟨m.bl,m.ba,m.bd,m.br,m.b,m.a,m.c,full',o',Ja m.arch s.rn.length { r with no:=s.no+1,day:=s.day } q⟩ (MT s r)→T x:=fun x hx=>by
  exact hx.elim id fun h=>I.own x (Eq.mp (congrArg (fun l=>x∈l) (Ae5 (m:=m) (s:=s) (m':=⟨m.bl,m.ba,m.bd,m.br,m.b,m.a,m.c,full',o',Ja m.arch s.rn.length { r with no:=s.no+1,day:=s.day } q⟩) (s':=MT s r) rfl rfl rfl rfl rfl rfl)) h)
 refine ⟨O,M,hok,by rw [WF]; exact I.len,?_,Aj8 I.len _ _ _,fun x hx=>?_,fun x hx => .inr hx,fun x hx=>Nat.lt_of_lt_of_le (I.low x (hid x hx)) he.size⟩
 ·rw [Agb I.len];show _=some (Value.int .u64 (((JC s.rn { r with no:=s.no+1,day:=s.day }).length:Nat):Int));rw [TU I.ok.kept.1]
 ·rcases Ab8 I.ok hx with rfl | ⟨h1,h2,h3⟩
  ·exact ⟨q,fun j v h=>Ab9 I.len _ h,RA,hoff.mono fun x hx=>Nat.lt_of_lt_of_le (I.low x (hid x hx)) hle⟩
  ·obtain ⟨qx,g1,g2,g3⟩:=I.kept x h1;exact ⟨qx,fun j v h=>WG _ (by show x.no % 4≠(s.no+1) % 4; omega) h (g1 j v h),g2.ext he (g3.mono hs),g3.mono fun y hy=>hid y hy⟩
def Grows (T T':Nat→Prop) (w:World):Prop:=(∀ x,T x→T' x)∧(∀ x,T' x→T x∨w.heap.size≤x)
theorem Grows.refl (T:Nat→Prop) (w:World):Grows T T w:=⟨fun _ h=>h,fun _ h => .inl h⟩
theorem Grows.trans {T T' T'':Nat→Prop} {w w':World} (h:Grows T T' w) (k:Grows T' T'' w') (hs:w.heap.size≤w'.heap.size):Grows T T'' w :=
 ⟨fun x hx=>k.1 x (h.1 x hx),fun x hx=>(k.2 x hx).elim (fun h1=>h.2 x h1) fun h1 => .inr (Nat.le_trans hs h1)⟩
theorem LdIn.grow {w w':World} {m:Lm} {s:Ld} {T T':Nat→Prop} {S:List Nat} (I:LdIn w m s T) (he:Ext S w w') (hs:∀ x∈S,T x∨w.heap.size≤x) (g:Grows T T' w) (hl:∀ x,T' x→x<w'.heap.size):LdIn w' m s T' where
 O:=I.O
 M:=I.M
 ok:=I.ok
 len:=I.len
 n:=I.n
 no:=I.no
 kept:=fun r h=>by
  obtain ⟨q,h1,h2,h3⟩:=I.kept r h;have h4:=h3.or h2.lt;exact ⟨q,h1,h2.ext he (h4.mono hs),h4.mono g.2⟩
 own:=fun x hx=>g.1 x (I.own x hx)
 low:=hl
end Go.Proofs.YtdagmpmdcgedcaaGreat
namespace Go.Proofs.YtdagmpmdcgedcaaGreat
open Go.GV
attribute [local irreducible] AB W Wq Wt
def s00:Ld:=⟨0,[],[],1,[],0⟩
theorem Aj9:s00.Ok:=⟨by decide,by decide,fun d h=>(by cases h),by decide,by decide,fun i r h=>(by cases h),fun r h=>(by cases h)⟩
abbrev Ny:List Value:=rnd0++(rnd0++(rnd0++(rnd0++[.int .u64 0,.int .u64 0])))
theorem Aca (w:World):Ret Tryz.prog 46 #[] w fun v w'=>∃ b,v=ptr b∧Ctx w [] w' [(b,Bl 162 [.slice none 0 0])]:=by
 obtain ⟨w0,rfl⟩:∃ w0,w0=w:=⟨_,rfl⟩;have H:=Ctx.start w0 [];refine Aw (fn:=Tryz.f46) Tryz.func46 U [] U (by kernel_rfl) ?_;refine Af (B3 U (Ab (Aa (Af (B1 [.slice none 0 0] Zk Zu (by kernel_rfl) ?_)))));refine Bv [.slice none 0 0] (.agg _) U U H ?_;rintro b2 w - H;refine B3 U (Ab (Aa (A4 (AD (v:=(.pointer _)) U U U ?_))));exact ⟨b2,rfl,H⟩
theorem Acb (w:World):Ret Tryz.prog 48 #[] w fun v w'=>∃ b,v=ptr b∧Ctx w [] w' [(b,Bl 168 Ny)]:=by
 obtain ⟨w0,rfl⟩:∃ w0,w0=w:=⟨_,rfl⟩;have H:=Ctx.start w0 [];refine Aw (fn:=Tryz.f48) Tryz.func48 U [] U (by kernel_rfl) ?_;refine Af (B3 U (Ab (Aa (Af (B1 Ny Zm Zw (by kernel_rfl) ?_)))));refine Bv Ny (.agg _) U U H ?_;rintro b2 w - H;refine B3 U (Ab (Aa (A4 (AD (v:=(.pointer _)) U U U ?_))));exact ⟨b2,rfl,H⟩
theorem NM (w:World):Ret Tryz.prog 16 #[] w fun v w'=>∃ m,v=ptr m.bl∧Ctx w [] w' (LL m s00)∧LdIn w' m s00 (fun x=>x∈CW m s00):=by
 obtain ⟨w0,rfl⟩:∃ w0,w0=w:=⟨_,rfl⟩;have H:=Ctx.start w0 [];refine Aw (fn:=Tryz.f16) Tryz.func16 U [] U (by kernel_rfl) ?_;refine Af (B3 U (Ab (Aa (Af (Al ca_46 (Aca _) U ?_)))));rintro v w ⟨ba,rfl,H1⟩;replace H:Ctx w0 [] w [(ba,Bl 162 [.slice none 0 0])]:=H1;refine Al ca_47 (Aej _) U ?_;rintro v w ⟨bd,b,o,rfl,hM,H1⟩;replace H:=Ctx.back (L1:=[]) (L2:=[_]) H H1;refine Al ca_48 (Acb _) U ?_;rintro v w ⟨br,rfl,H1⟩;replace H:=Ctx.back (L1:=[]) (L2:=[_,_,_]) H H1;refine B1 [ptr ba,ptr bd,ptr br,.int .i64 0] Zj Zs (by kernel_rfl) ?_;refine Bv [ptr ba,ptr bd,ptr br,.int .i64 0] (.agg _) U U H ?_;rintro bl w - H;refine B3 U (Ab (Aa (A4 (AD (v:=(.pointer _)) U U U ?_))));have H1:Ctx w0 [] w (LL ⟨bl,ba,bd,br,b,none,0,[],o,Ny⟩ s00):=H.perm (List.Perm.cons _ (List.Perm.cons _ (List.perm_append_comm (l₁:=[_,_]) (l₂:=[_]))))
 refine ⟨⟨bl,ba,bd,br,b,none,0,[],o,Ny⟩,rfl,H1,OS.nil,hM,Aj9,rfl,rfl,rfl,fun r h=>(by cases h),fun x h=>h,fun x h=>?_⟩;obtain ⟨y,hy,rfl⟩:=List.mem_map.1 h;exact Ba (H1.blk y hy)
abbrev Uf (x:Rnd × RSl):List Value:=BK x.1 x.2
theorem Ug {α β:Type} (y:β):∀ {xs:List α} {ys:List β} {x:α},xs[ys.length]? = some x→xs.zip (ys++[y])=xs.zip ys++[(x,y)]
 | [],_,_,h=>by cases h
 | a::xs,[],x,h=>by
  cases h;show (a,y)::xs.zip []=_;rw [List.zip_nil_right];rfl
 | a::xs,b::ys,x,h=>by
  show (a,b)::xs.zip (ys++[y])=(a,b)::(xs.zip ys++[(x,y)]);rw [Ug y (show xs[ys.length]? = some x from h)]
structure ARS where
 i:Nat
 a:Option Addr
 c:Nat
 full:List Value
 qs:List RSl
set_option maxRecDepth 20000 in
set_option maxHeartbeats 2000000 in
theorem Ye {br:Nat} {m:Lm} {s:Ld} {T:Nat→Prop} (w:World) (I:LdIn w m s T) (h0:w.heap[br]? = some (Bl 168 m.arch)) :
  Ret Tryz.prog 52 #[ptr br] w fun v w'=>Ext [] w w'∧∃ a c qs,v = .slice a s.rn.length c∧qs.length=s.rn.length∧Rd w' a 8 Uf (s.rn.zip qs)∧(s.rn≠[]→¬ (adr a).block<w.heap.size)∧∀ x∈s.rn.zip qs,RAt w' x.1 x.2∧ROff x.2 x.1 (fun y=>y<w.heap.size):=by
 obtain ⟨w0,rfl⟩:∃ w0,w0=w:=⟨_,rfl⟩;have H:=Ctx.start w0 [];obtain ⟨hk4,hkn,hkm⟩:=I.ok.kept;refine Aw (fn:=Tryz.f52) Tryz.func52 U [.pointer (some ⟨br,0,none⟩)] U (by kernel_rfl) ?_;refine Af (A1 U (Ab (Aa (Aq (Af (Ay U (Co MF U ?_)))))));refine Ab (Aa (Ap _ U ?_ ?_))
 ·intro h1;cases h1
 ·intro h1;refine Au (Aa (Aq (Af (Ay U (A9 U (Ag IG U (AZ B5 U ((by rw [Aj h0]; exact I.n)) ?_)))))));refine Ae U (Ab (Aa (A0 (Bt 68719475724 (α:=ARS) (fun t=>[(2,.slice t.a t.i t.c),(10,.int .u64 (t.i:Int))]) (fun t w'=>t.qs.length=t.i∧t.i≤s.rn.length∧OS t.a t.i t.c 8 t.full ((s.rn.zip t.qs).flatMap Uf)∧(∀ x∈s.rn.zip t.qs,RAt w' x.1 x.2∧ROff x.2 x.1 (fun y=>y<w0.heap.size∨y∈(ent t.a 55 t.full).map (fun x:Nat × Obj=>x.1)))∧Ctx w0 [] w' (ent t.a 55 t.full)) (fun t=>s.rn.length - t.i) ⟨0,none,0,[],[]⟩ U ?_ ?_ ?_))))
  ·exact ⟨rfl,rfl,trivial⟩
  ·refine ⟨rfl,Nat.zero_le _,?_,fun x hx=>?_,H⟩
   ·rw [List.zip_nil_right]; exact OS.nil
   ·rw [List.zip_nil_right] at hx; cases hx
  ·clear H;rintro ⟨i,a,c,full,qs⟩ j w ⟨hqi,hi,O,K,HR⟩; dsimp only at hqi hi O K HR; dsimp only;obtain ⟨w1,rfl⟩:∃ z,z=w:=⟨_,rfl⟩;have H:=Ctx.start w1 [];refine Af (Bj U U (Ab (Aa (Aq (Ap _ U ?_ ?_)))))
   ·intro h2;replace h2:=AJ h2;obtain ⟨r,hr⟩:=A8 (l:=s.rn) (i:=i);obtain ⟨q,hq1,hq2,-⟩:=I.kept r (List.mem_of_getElem? hr);have hB:=Sz (I.ok.may r (List.mem_of_getElem? hr));have hrn:=I.ok.nos i r hr;have h01:=HR.ext.to h0 (by simp);have h3:0≤r.no % 4∧r.no % 4<4:=⟨Int.emod_nonneg _ (by decide),Int.emod_lt_of_pos _ (by decide)⟩;rw [hrn] at hq1 h3;refine Au (Aa (Aq (A0 (Af (Ae U (Ad U (Ab (Aa ?_))))))))
    have hnbr:br∉(ent a 55 full).map (fun x:Nat × Obj=>x.1):=fun hm=>by
     obtain ⟨z,hz,hzb⟩:=List.mem_map.1 hm;have h4:=Ba h0;have h5:=(HR.own z hz).elim (fun h=>by cases h) id;rw [hzb] at h5;omega
    refine ER [([0,1,2,3,4,5,6,7,8,9,10,11,12,13,14,15,16,17,18],19),([],20),([],21),([],22)] (fun z=>z.heap[br]? = some (Bl 168 m.arch)) [] Bs (by kernel_rfl) (H.drew.ext.to h01 (by simp)) ?_;refine AF U U ?_;refine B2 U (BD U (BD U (Bd U (An U Fb U (B0 B5 U (fun _ hx=>(by rw [Aj hx]; exact I.no)) ?_)))));refine BD U (Bd U (An U IG U (B0 B5 U (fun _ hx=>(by rw [Aj hx]; exact I.n)) ?_)));refine WW U U U ?_;refine My U U U ?_;refine Be U (My U U U ?_);refine Afl U U U ?_;refine Bd U (An U OC U (Oi U UE Dh U U ?_));refine G5 _ FT Dh U U (fun _ hx=>(fun j v hv=>by rw [Aj hx,show 0+0+(((s.no - s.rn.length)+1+i) % 4).toNat*8+j=((s.no - s.rn.length+1+i) % 4).toNat*8+j by omega]; exact hq1 j v hv)) ?_;refine AP ?_;replace H:=H.drew;have hs1:=H.ext.size
    refine Al UF (Sv r q _ (hq2.ext0 (HR.ext.trans H.ext)) hB) U ?_;rintro v w ⟨hx32,q',rfl,RA',hoff⟩;have E1:=H.ext.trans hx32;have HC:=HR.call E1;have h03:=HC.ext.to h0 (by simp);obtain ⟨w3,rfl⟩:∃ z,z=w:=⟨_,rfl⟩;clear H;have H:=Ctx.lend (L1:=ent a 55 full) HC.app_nil;refine Ab (BR (h03) (AF U U ?_));refine AP (Ct _ (.agg _) Nd Dh Gg U (by decide) (by decide) U U U H ?_);rintro b33 w - H;refine Ab (BR (H.ext.to h03 hnbr) (AF U U ?_));refine AP (CA (L:=[]) Nd Nd Dh by_55 Gg U (by decide) U U H O U (by simp [AO]) ?_);rintro a' c' full' w H O';refine Ab (BR (H.ext.to h03 hnbr) (AF U U ?_));refine AP (A1 U (Ab (BR (H.ext.to h03 hnbr) (BH (A5 (Aa (Az (DR U U ?_))))))));refine Ae U (Ab (Aa ?_));have hs3:=E1.size
    have hin:∀ y∈(ent a' 55 full').map (fun x:Nat × Obj=>x.1),y∈(ent a 55 full).map (fun x:Nat × Obj=>x.1)∨w3.heap.size≤y:=fun y hy=>by
     obtain ⟨z,hz,rfl⟩:=List.mem_map.1 hy;exact H.own z hz
    have hlt:∀ y∈(ent a 55 full).map (fun x:Nat × Obj=>x.1),y<w1.heap.size:=fun y hy=>by
     obtain ⟨z,hz,rfl⟩:=List.mem_map.1 hy;exact Ba (HR.blk z hz)
    have hz:=Ug q' (ys:=qs) (hqi ▸ hr);refine ⟨⟨i+1,a',c',full',qs++[q']⟩,rfl,⟨rfl,rfl,trivial⟩,⟨by dsimp only; rw [List.length_append,List.length_singleton,hqi],by dsimp only; omega,?_,fun x hx=>?_,(Ctx.back (L1:=ent a 55 full) (L2:=[]) HC.app_nil H).nil_app⟩,by dsimp only; omega⟩
    ·dsimp only;rw [hz,List.flatMap_append,List.flatMap_singleton];exact O'
    ·dsimp only at hx ⊢;rw [hz] at hx
     rcases List.mem_append.1 hx with h | h
     ·obtain ⟨k1,k2⟩:=K x h;exact ⟨(k1.ext0 E1).ext H.ext (k2.mono fun y hy => .inr hy),(k2.or k1.lt).mono fun y hy=>hy.elim (fun h => .inl (.inl h)) fun h=>(hin y h).elim (fun h => .inl (.inr h)) fun h => .inr (Nat.le_trans hs3 h)⟩
     ·rw [List.mem_singleton.1 h];exact ⟨RA'.ext H.ext (hoff.mono fun y hy=>Nat.lt_of_lt_of_le (hlt y hy) hs1),(hoff.or RA'.lt).mono fun y hy=>hy.elim (fun h => .inl (Nat.lt_of_lt_of_le (Nat.lt_of_lt_of_le h HR.size) hs1)) fun h=>(hin y h).elim (fun h => .inl (Nat.lt_of_lt_of_le (hlt y h) hs1)) .inr⟩
   ·intro h2;replace h2:=AK h2;obtain rfl:i=s.rn.length:=by omega
    refine Bq (Am (Am (AG (Aa (Af (A3 U (A1 U (Ab (Aa (A4 (AD (v:=(.slice _ _ _)) U U U ?_)))))))))));have O2:OS a (s.rn.zip qs).length c 8 full ((s.rn.zip qs).flatMap Uf):=by rw [List.length_zip,hqi,Nat.min_self]; exact O
    refine ⟨HR.ext,a,c,qs,rfl,hqi,OS.rd O (t:=55) (fun x hx=>HR.blk x hx) (fun _ _=>rfl) (by decide),fun hne=>?_,fun x hx=>⟨(K x hx).1,(K x hx).2.mono fun y hy => .inl hy⟩⟩;obtain ⟨p,rfl⟩:=O.form (List.length_pos_iff.2 hne);exact Nat.not_lt.2 ((HR.own (p,Bl 55 full) (List.mem_singleton.2 U)).elim (fun h=>by cases h) id)
end Go.Proofs.YtdagmpmdcgedcaaGreat
namespace Go.Proofs.YtdagmpmdcgedcaaGreat
open Go.GV
attribute [local irreducible] AB W Wq Wt
structure StZ where
 aA:Option Addr
 cA:Nat
 aD:Option Addr
 cD:Nat
 aR:Option Addr
 cR:Nat
 qs:List RSl
abbrev stC (s:Ld) (z:StZ):List Value:=[.int .i64 s.day,.slice z.aA s.acs.length z.cA,.slice z.aD s.ds.length z.cD,.int .u64 s.nx,.slice z.aR s.rn.length z.cR,.int .u64 s.no,.slice none 0 0]
structure StAt (w:World) (s:Ld) (z:StZ):Prop where
 A:Rd w z.aA 2 CM s.acs
 D:Rd w z.aD 7 CO s.ds
 R:Rd w z.aR 8 Uf (s.rn.zip z.qs)
 n:z.qs.length=s.rn.length
 K:∀ x∈s.rn.zip z.qs,RAt w x.1 x.2
structure StOff (s:Ld) (z:StZ) (S:Nat→Prop):Prop where
 A:s.acs≠[]→¬ S (adr z.aA).block
 D:s.ds≠[]→¬ S (adr z.aD).block
 R:s.rn≠[]→¬ S (adr z.aR).block
 K:∀ x∈s.rn.zip z.qs,ROff x.2 x.1 S
theorem Aka {rn:List Rnd} {qs:List RSl} (h:rn.zip qs≠[]):rn≠[]:=fun h1=>h (by rw [h1]; rfl)
theorem StOff.mono {s:Ld} {z:StZ} {S S':Nat→Prop} (h:StOff s z S) (hs:∀ x,S' x→S x):StOff s z S':=⟨fun g k=>h.A g (hs _ k),fun g k=>h.D g (hs _ k),fun g k=>h.R g (hs _ k),fun x hx=>(h.K x hx).mono hs⟩
theorem StOff.or {s:Ld} {z:StZ} {S S':Nat→Prop} (h:StOff s z S) (k:StOff s z S'):StOff s z (fun x=>S x∨S' x):=⟨fun g x=>x.elim (h.A g) (k.A g),fun g x=>x.elim (h.D g) (k.D g),fun g x=>x.elim (h.R g) (k.R g),fun x hx=>(h.K x hx).or (k.K x hx)⟩
theorem StAt.ext {w w':World} {s:Ld} {z:StZ} {S:List Nat} (h:StAt w s z) (he:Ext S w w') (hn:StOff s z (·∈S)):StAt w' s z :=
 ⟨h.A.ext' he hn.A,h.D.ext' he hn.D,h.R.ext' he fun g=>hn.R (Aka g),h.n,fun x hx=>(h.K x hx).ext he (hn.K x hx)⟩
theorem StAt.ext0 {w w':World} {s:Ld} {z:StZ} (h:StAt w s z) (he:Ext [] w w'):StAt w' s z :=
 h.ext he ⟨fun _=>by simp,fun _=>by simp,fun _=>by simp,fun x _=>⟨fun _=>by simp,fun _=>by simp,fun _=>by simp,fun _=>by simp⟩⟩
theorem StAt.lt {w:World} {s:Ld} {z:StZ} (h:StAt w s z):StOff s z (fun x=>w.heap.size≤x) :=
 ⟨fun g=>Nat.not_le.2 (h.A.lt' (fun _ _=>rfl) (by decide) g),fun g=>Nat.not_le.2 (h.D.lt' (fun _ _=>rfl) (by decide) g),fun g=>Nat.not_le.2 (h.R.lt' (fun _ _=>rfl) (by decide) fun h1=>g (by
  have h2:=congrArg List.length h1;rw [List.length_zip,h.n,Nat.min_self] at h2
  exact List.length_eq_zero_iff.1 h2)),fun x hx=>(h.K x hx).lt⟩
theorem Acc {bd b:Nat} {nx:Int} (w:World) (hd:w.heap[bd]? = some (Bl 165 (DU b nx))):Ret Tryz.prog 51 #[ptr bd] w fun v w'=>v = .int .u64 nx∧Ext [] w w':=by
 obtain ⟨w0,rfl⟩:∃ w0,w0=w:=⟨_,rfl⟩;have H:=Ctx.start w0 [];refine Aw (fn:=Tryz.f51) Tryz.func51 U [.pointer (some ⟨bd,0,none⟩)] U (by kernel_rfl) ?_;refine Af (Ad U (Ab (Aa (Aq (Af (Ay U (Co Ix U ?_)))))));refine Ab (Aa (Ap _ U ?_ ?_))
 ·intro h1;cases h1
 ·intro h1;refine Au (Aa (Af (Ay U (A9 U (Ag JU U (AZ B5 U ((by rw [Aj hd]; rfl)) ?_))))));refine Ad U (Ab (Aa (A4 (AD (v:=(.int _ _)) U U U ?_))));exact ⟨rfl,H.ext⟩
set_option maxRecDepth 20000 in
set_option maxHeartbeats 2000000 in
theorem Yf {m:Lm} {s:Ld} {T:Nat→Prop} {S:List Nat} {w0:World} (w:World) (I:LdIn w m s T) (H0:Ctx w0 S w (LL m s)) :
  Ret Tryz.prog 17 #[ptr m.bl] w fun v w'=>Ext [] w w'∧∃ z,v = .agg (stC s z).toArray∧StAt w' s z∧StOff s z (fun x=>x<w.heap.size):=by
 obtain ⟨w1,rfl⟩:∃ w1,w1=w:=⟨_,rfl⟩;have hbl:=H0.get at0;have hbr:=H0.get at1;have hba:=H0.get at2;have hbd:=H0.get at3;have hb:=H0.get at4;have RA0:Rd w1 m.a 2 CM s.acs:=OS.rd (t:=43) I.O (fun y hy=>H0.blk y (List.mem_append_right [_,_,_,_,_] hy)) (fun _ _=>rfl) (by decide);have hn16:=(BZ.1 I.ok.ac).1;obtain ⟨h64,-,h3d,-⟩:=Ep I.ok.du;have H:=Ctx.start w1 [];refine Aw (fn:=Tryz.f17) Tryz.func17 U [.pointer (some ⟨m.bl,0,none⟩)] U (by kernel_rfl) ?_;refine Af (AX GM H ?_);rintro b2 w - H;refine Ab (Aa (Aq (Af (Ay U (Co OJ U ?_)))));refine Ab (Aa (Ap _ U ?_ ?_))
 ·intro h1;cases h1
 ·intro h1;refine Au (Aa (Cq [([0,1,2,3,4,5,6,7,9,10,11,12,14,15,16,17,19,20,21,22,24,25,26,27],8),([],13),([],18),([],23),([],28),([29],30)] (fun z=>Ext [] w1 z) [30] Bs (by kernel_rfl) (H.drew.ext) ?_));refine AF U U ?_;refine BD U (Bd U (An U JT U (B0 Bw U (fun _ hx=>(by rw [Aj (hx.to hbl (by simp))]; rfl)) ?_)));refine BD U (Bd U (An U F3 U (B0 Ig U (fun _ hx=>(by rw [Aj (hx.to hbl (by simp))]; rfl)) ?_)));refine BD U (Bd U (An U EH U (B0 Fw U (fun _ hx=>(by rw [Aj (hx.to hbl (by simp))]; rfl)) ?_)));refine BD U (Bd U (An U EH U (B0 Fw U (fun _ hx=>(by rw [Aj (hx.to hbl (by simp))]; rfl)) ?_)));refine BD U (Bd U (An U IF U (B0 M9 U (fun _ hx=>(by rw [Aj (hx.to hbl (by simp))]; rfl)) ?_)));refine BD U (Bd U (An U IF U (B0 M9 U (fun _ hx=>(by rw [Aj (hx.to hbl (by simp))]; rfl)) ?_)));refine AP ?_;replace H:=H.drew
  refine Al Zg (Pm m.a _ m.c s.acs _ (H.ext.to hba (by simp)) (RA0.ext0 H.ext) U) U ?_;rintro v w F;obtain ⟨aA,cA,rfl,RA,hA,-,hxA⟩:=Mk F (fun _ _=>rfl) (by decide);have hsA:=H.ext.size;have lbA:=Ba (H.get at0);replace H:=H.call hxA;refine Ab (BR (H.ext) (AF U U ?_));refine AP (Al LF (LV _ (H.ext.to hbd (by simp)) (H.ext.to hb (by simp)) I.M (Kn I.ok.du)) U ?_);rintro v w ⟨ds',hSd,F⟩;have hde:=LZ hSd (J0 h3d).2.1;rw [hde] at F;obtain ⟨aD,cD,rfl,RD,hD,-,hxD⟩:=Mk F (fun _ _=>rfl) (by decide);have hsD:=H.ext.size;have lbD:=Ba (H.get at0);replace H:=H.call hxD;replace RA:=RA.ext0 hxD;refine Ab (BR (H.ext) (AF U U ?_));refine AP (Al ca_51 (Acc _ (H.ext.to hbd (by simp))) U ?_);rintro v w ⟨rfl,hxN⟩;replace H:=H.call hxN;replace RA:=RA.ext0 hxN;replace RD:=RD.ext0 hxN;refine Ab (BR (H.ext) (AF U U ?_));refine AP ?_;have lsR:=H.ext.size;have lbR:=Ba (H.get at0)
  refine Al ca_52 (Ye _ (I.grow H.ext (by simp) (Grows.refl _ _) fun x hx=>Nat.lt_of_lt_of_le (I.low x hx) H.size) (H.ext.to hbr (by simp))) U ?_;rintro v w ⟨hxR,aR,cR,qs,rfl,hql,RR,hR,hK⟩;have hsR:=hxR.size;replace H:=H.call hxR;replace RA:=RA.ext0 hxR;replace RD:=RD.ext0 hxR;refine Ab (BR (H.ext) (AF U U ?_));refine AP (Al Aft (Ab7 _ (H.ext.to hbr (by simp)) I.no) U ?_);rintro v w ⟨rfl,hxO⟩;have hKO:=fun x hx=>(hK x hx).1.ext0 hxO;replace RA:=RA.ext0 hxO;replace RD:=RD.ext0 hxO;replace RR:=RR.ext0 hxO;replace H:=H.call hxO;have H8:=H;obtain ⟨w8,rfl⟩:∃ z,z=w:=⟨_,rfl⟩;clear H;have H:=Ctx.start1 (H8.get at0);refine Ab (BR (H8.ext) (AF U U ?_));refine Ol (stC s ⟨aA,cA,aD,cD,aR,cR,qs⟩) U Afx GM (by kernel_rfl) ?_;refine AP (Bm DZ U U U (by exact (by simp [AO])) H at0 U ?_);rintro w H;refine Ab (Bz U (BH (A4 (L7 U U U J9 DZ H at0 U ?_))))
  have Z8:StAt w8 s ⟨aA,cA,aD,cD,aR,cR,qs⟩:=⟨RA,RD,RR,hql,hKO⟩;have off:StOff s ⟨aA,cA,aD,cD,aR,cR,qs⟩ (fun x=>x<w1.heap.size∨x=b2):=⟨fun g k=>by have:=hA g; dsimp only at k; omega,fun g k=>by have:=hD g; dsimp only at k; omega,fun g k=>by have:=hR g; dsimp only at k; omega,fun x hx=>(hK x hx).2.mono fun y hy=>by omega⟩;have hbw:w1.heap.size≤b2:=(H8.own (b2,_) (List.mem_of_getElem? at0)).elim (fun h=>by cases h) id;exact ⟨H8.ext.then H.ext (fun x hx => .inr (by rw [List.mem_singleton.1 hx]; exact hbw)),⟨aA,cA,aD,cD,aR,cR,qs⟩,rfl,Z8.ext H.ext (off.mono fun x hx => .inr (List.mem_singleton.1 hx)),off.mono fun x hx => .inl hx⟩
end Go.Proofs.YtdagmpmdcgedcaaGreat
namespace Go.Proofs.YtdagmpmdcgedcaaGreat
open Go.GV
attribute [local irreducible] AB W Wq Wt
def N7 (acs:List Ac) (ds:List Du) (k i:Nat):Int:=(acs.getD k a00).ba+Ch ((ds.take i).map fun d=>plc k d*d.am)
theorem QS {acs:List Ac} {ds:List Du} {k i:Nat} {d:Du} (h:ds[i]? = some d):N7 acs ds k (i+1)=N7 acs ds k i - (if d.fr=(k:Int) then d.am else 0)+(if d.to=(k:Int) then d.am else 0):=by
 unfold N7;rw [Kk h,E7];have h1:Ch [plc k d*d.am]=plc k d*d.am:=by rw [BN]; show _+0=_; omega
 rw [h1];unfold plc
 by_cases g1:d.to=(k:Int)
 ·rw [Fv g1,if_pos g1]
  by_cases g2:d.fr=(k:Int)
  ·rw [Fv g2,if_pos g2]; omega
  ·rw [EW g2,if_neg g2]; omega
 ·rw [EW g1,if_neg g1]
  by_cases g2:d.fr=(k:Int)
  ·rw [Fv g2,if_pos g2]; omega
  ·rw [EW g2,if_neg g2]; omega
theorem Uh {acs:List Ac} {ds:List Du} {k:Nat} (hb:0≤(acs.getD k a00).ba∧(acs.getD k a00).ba≤4503599627370496) (ham:∀ d∈ds,0≤d.am∧d.am≤4503599627370496):∀ i,i≤ds.length → -(4503599627370496*((i:Int)+1))≤N7 acs ds k i∧N7 acs ds k i≤4503599627370496*((i:Int)+1)
 | 0,_=>by
  have h:N7 acs ds k 0=(acs.getD k a00).ba+0:=rfl;rw [h]; omega
 | i+1,h=>by
  have ih:=Uh hb ham i (by omega);obtain ⟨d,hd⟩:=A8 (l:=ds) (i:=i);have h1:=ham d (List.mem_of_getElem? hd);rw [QS hd]
  split <;> split <;> omega
end Go.Proofs.YtdagmpmdcgedcaaGreat
namespace Go.Proofs.YtdagmpmdcgedcaaGreat
open Go.GV
attribute [local irreducible] AB W Wq Wt
set_option maxRecDepth 20000 in
set_option maxHeartbeats 1000000 in
theorem Yg {m:Lm} {s:Ld} {T:Nat→Prop} {k:Ak} (hk:k.kd=13) (_hin:AkIn k) (w:World) (I:LdIn w m s T) (H0:Ctx w (CW m s) w (LL m s)) :
  Ret Tryz.prog 65 #[ptr m.bl,.agg (BV k).toArray] w (Gb w m s T k):=by
 obtain ⟨w0,rfl⟩:∃ w0,w0=w:=⟨_,rfl⟩;obtain ⟨bl,ba,bd,br,b,a,c,full,o,arch⟩:=m;obtain ⟨S0,hS0⟩:∃ S,S=CW ⟨bl,ba,bd,br,b,a,c,full,o,arch⟩ s:=⟨_,rfl⟩;have H:Ctx w0 S0 w0 ((bl,Bl 106 [ptr ba,ptr bd,ptr br,.int .i64 s.day])::(br,Bl 168 arch)::(ba,Bl 162 [.slice a s.acs.length c])::(bd,Bl 165 (DU b s.nx))::(b,o)::ent a 43 full):=by rw [hS0]; exact H0
 have hn16:=(BZ.1 I.ok.ac).1;have hbdb:bd≠b:=H.ne (i:=3) (j:=4) rfl rfl (by decide);have hR:Fq s k=if inA s.acs k.a=true then ⟨0,[Ko s.acs s.ds k.a.toNat]⟩ else ⟨10,[]⟩:=by unfold Fq; rw [if_neg (by omega),if_neg (by omega),if_neg (by omega),if_neg (by omega),if_neg (by omega),if_neg (by omega),if_neg (by omega),if_neg (by omega),if_neg (by omega),if_neg (by omega),if_pos hk]
 have hS:EN s k=s:=by unfold EN; rw [if_neg (by omega),if_neg (by omega),if_neg (by omega),if_neg (by omega),if_neg (by omega),if_neg (by omega),if_neg (by omega),if_neg (by omega),if_neg (by omega)]
 have hstep:∀ p,Fq s k=p→C6 s k s p:=fun p h2=>by
  unfold C6;rw [if_neg (by omega)];exact ⟨hS.symm,h2.symm⟩
 refine Aw (fn:=Tryz.f65) Tryz.func65 U [.pointer (some ⟨bl,0,none⟩),.agg (BV k).toArray] U (by kernel_rfl) ?_;refine Af (Bv (BV k) (.agg _) U U H ?_);rintro b3 w - H;refine A1 U (Ad U (Ab (Aa (DC 2095296 (α:=Nat) (fun z=>[(6,ptr z),(7,.bool (inA s.acs k.a))]) (fun z w'=>Ctx w0 S0 w' ((z,Bl 43 (CM (Dd s.acs k.a)))::(b3,Bl 40 (BV k))::(bl,Bl 106 [ptr ba,ptr bd,ptr br,.int .i64 s.day])::(br,Bl 168 arch)::(ba,Bl 162 [.slice a s.acs.length c])::(bd,Bl 165 (DU b s.nx))::(b,o)::ent a 43 full)) U ?_ ?_))))
 ·skip
  refine NW (.two [0,1,2,3,4,5] 6 (.one [7,8,9] 10 (.one [] 11 (.one [] 12 .stop))) 10 (.one [] 6 (.one [7,8,9] 11 (.one [] 12 .stop)))) (fun z=>z.heap[b3]? = some (Bl 40 (BV k))∧z.heap[bl]? = some (Bl 106 [ptr ba,ptr bd,ptr br,.int .i64 s.day])) Bs (by kernel_rfl) (⟨H.drew.get at0,H.drew.get at1⟩) ?_;refine It U U U ?_;refine BD U (Bd U (An U F3 U (B0 Ig U (fun _ hx=>(by rw [Aj hx.2]; rfl)) ?_)));refine An U FV U (B0 Ca U (fun _ hx=>(by rw [Aj hx.1]; rfl)) ?_);refine AP ?_;replace H:=H.drew;refine ⟨?_,?_⟩
  ·skip
   refine Al Ru (NK a _ c s.acs k.a _ (H.get at3) (OS.rd (t:=43) I.O (fun y hy=>H.blk y (List.mem_append_right [_,_,_,_,_,_] hy)) (fun _ _=>rfl) (by decide)) U (by omega)) U ?_;rintro v w ⟨rfl,hx18⟩;replace H:=H.call hx18;refine Ab (BP (by exact ⟨H.get at0,H.get at1⟩) ?_);refine BO U U ?_;refine DA U (Bu U U (Bu U U (AP (AX II H ?_))));rintro b6 w - H;refine Ab (BP (by exact ⟨H.get at1,H.get at2⟩) ?_);refine BO U U ?_;refine AP (Bm Dx U U U (by exact HG _) H at0 U ?_);rintro w H;refine Ab (BP (by exact ⟨H.get at1,H.get at2⟩) ?_);refine BO U U ?_;refine AP (Ai U (Ab (BP (by exact ⟨H.get at1,H.get at2⟩) ?_)));refine DT ?_;refine Aa ?_;exact ⟨b6,rfl,⟨rfl,rfl,trivial⟩,H⟩
  ·skip
   refine AX II H ?_;rintro b6 w - H;refine Ab (BP (by exact ⟨H.get at1,H.get at2⟩) ?_);refine BO U U ?_;refine AP (Al Ru (NK a _ c s.acs k.a _ (H.get at4) (OS.rd (t:=43) I.O (fun y hy=>H.blk y (List.mem_append_right [_,_,_,_,_,_,_] hy)) (fun _ _=>rfl) (by decide)) U (by omega)) U ?_);rintro v w ⟨rfl,hx18⟩;replace H:=H.call hx18;refine Ab (BP (by exact ⟨H.get at1,H.get at2⟩) ?_);refine BO U U ?_;refine DA U (Bu U U (Bu U U (AP (Bm Dx U U U (by exact HG _) H at0 U ?_))));rintro w H;refine Ab (BP (by exact ⟨H.get at1,H.get at2⟩) ?_);refine BO U U ?_;refine AP (Ai U (Ab (BP (by exact ⟨H.get at1,H.get at2⟩) ?_)));refine DT ?_;refine Aa ?_;exact ⟨b6,rfl,⟨rfl,rfl,trivial⟩,H⟩
 ·rintro b6 j7 w H;refine Aq (Af (AE U (BA U (Ab (Aa (Ap _ U ?_ ?_))))))
  ·intro h1;replace h1:=BE h1
   have hf:inA s.acs k.a=false:=by cases hh:inA s.acs k.a with | false=>rfl | true=>rw [hh] at h1; cases h1
   refine Af (A1 U (Ad U (Ab (Aa (A4 (Ao (BL (v1:=(.slice _ _ _)) (v2:=(.int _ _)) U U U U ?_)))))));subst hS0;exact DF (P:=[_,_]) (m':=⟨bl,ba,bd,br,b,a,c,full,o,arch⟩) (s':=s) (l:=[]) (code:=10) I H (HS _) (hstep _ (by rw [hR,if_neg (by rw [hf]; decide)]; rfl)) I.O I.M I.ok U U U U
  ·intro h1;replace h1:=BF h1
   have hf:inA s.acs k.a=true:=by cases hh:inA s.acs k.a with | true=>rfl | false=>rw [hh] at h1; cases h1
   have hki:=Ev.1 hf;have hka:((k.a.toNat:Nat):Int)=k.a:=by omega
   have hga:=IY I.ok.ac hf;have hgd:s.acs.getD k.a.toNat a00=Dd s.acs k.a:=Bo (Fo hf)
   have h0:N7 s.acs s.ds k.a.toNat 0=(Dd s.acs k.a).ba:=by
    have:N7 s.acs s.ds k.a.toNat 0=(s.acs.getD k.a.toNat a00).ba+0:=rfl;rw [this,hgd,Int.add_zero]
   obtain ⟨h64,-,-,-⟩:=Ep I.ok.du;have hmy:∀ d∈s.ds,DY d=true:=fun d hd=>((Ga I.ok.du).1 d hd).1;have ham:∀ d∈s.ds,0≤d.am∧d.am≤4503599627370496:=fun d hd=>by have:=Dc (hmy d hd); omega
   refine Au (Aa (Af (Ag DW U (AM Bw U H at0 U (Ad U (Ab (Aa (Aq (Af (Ay U (A9 U ?_)))))))))));refine Ag EH U (AM Fw U H at2 U (Al LF (IW I.ok.du _ ⟨b,s.nx,o,H.get at5,H.get at6,I.M⟩) U ?_));rintro v w ⟨hx29,a3,c3,rfl,R3⟩;replace H:=H.call hx29;refine Bi CK U (Ae U (Ab (Aa (A0 ?_))));have H8:=H;obtain ⟨w1,rfl⟩:∃ z,z=w:=⟨_,rfl⟩;have hb3:=H8.get at1;clear H;have H:=Ctx.start w1 [];refine Bt 18014396361999616 (α:=Nat) (fun i=>[(8,.int .i64 (N7 s.acs s.ds k.a.toNat i)),(31,.int .i64 (i:Int))]) (fun i w'=>i≤s.ds.length∧Ctx w1 [] w' []) (fun i=>s.ds.length - i) 0 U ?_ ?_ ?_
   ·exact ⟨by rw [h0]; rfl,rfl,trivial⟩
   ·exact ⟨Nat.zero_le _,H⟩
   ·clear H;rintro i j w ⟨hi,H⟩;refine Af (Bj U U (Ab (Aa (Aq (Ap _ U ?_ ?_)))))
    ·intro h2;replace h2:=AJ h2;obtain ⟨d,hd⟩:=A8 (l:=s.ds) (i:=i);have hbi:=Uh (acs:=s.acs) (ds:=s.ds) (k:=k.a.toNat) (by rw [hgd]; exact hga.1) ham i hi;have hda:=ham d (List.mem_of_getElem? hd);have hdn:=(Dc (hmy d (List.mem_of_getElem? hd))).2.2.1;have hst:=QS (acs:=s.acs) (k:=k.a.toNat) hd;rw [hka] at hst;obtain ⟨S,hS⟩:∃ S,S=N7 s.acs s.ds k.a.toNat i:=⟨_,rfl⟩;rw [← hS] at hbi hst ⊢;refine Au (Aa (Aq (A0 (Af (AS (R3.ext0 H.ext) CK Ci U U (by rfl) ?_)))));refine Cj _ Ft Ci U U (((R3.ext0 H.ext).row hd U)) ?_;refine AX Eu H ?_;rintro b10 w - H;refine Bm Ci U U U (by exact CQ _) H at0 U ?_;rintro w H;refine Ab (Aa ?_);replace H:Ctx w1 [] w [(b10,Bl 67 (CO d))]:=H;refine Af (Ag FV U (AZ Ca U ((H.old (Aj hb3 _) (by simp))) ?_));refine Ab (Aa (A0 (Af (Ag Gz U (AM Ca U H at0 U (Cf U U (Ai U (Ab (Aa (Ap _ U ?_ ?_))))))))))
     ·intro h3;replace h3:=AJ h3;refine Az (Ae U (Ag Eo U (AM Bw U H at0 U (Br U U ?_))));refine Ad U (Ab (A5 (A5 (Aa (Az (Ax U U ?_))))));refine Ae U (Ab (Aa ?_));exact ⟨i+1,rfl,⟨congrArg (Value.int .i64) (by rw [hst,if_pos h3.symm,if_neg (by omega)]; omega),rfl,trivial⟩,⟨by omega,H.tail⟩,by omega⟩
     ·intro h3;replace h3:=AK h3;refine Af (Ag Ih U (AM Ca U H at0 U (Cf U U (Ai U (Ab (Aa (Ap _ U ?_ ?_)))))))
      ·intro h4;replace h4:=AJ h4;refine Az (Ae U (Ag Eo U (AM Bw U H at0 U (Ax U U ?_))));refine Ad U (Ab (A5 (A5 (Aa (Az (Ax U U ?_))))));refine Ae U (Ab (Aa ?_));exact ⟨i+1,rfl,⟨congrArg (Value.int .i64) (by rw [hst,if_neg (by omega),if_pos h4.symm]; omega),rfl,trivial⟩,⟨by omega,H.tail⟩,by omega⟩
      ·intro h4;replace h4:=AK h4;refine Au (A5 (A5 (Aa (Az (Ax U U ?_)))));refine Ae U (Ab (Aa ?_));exact ⟨i+1,rfl,⟨congrArg (Value.int .i64) (by rw [hst,if_neg (by omega),if_neg (by omega)]; omega),rfl,trivial⟩,⟨by omega,H.tail⟩,by omega⟩
    ·intro h2;replace h2:=AK h2;obtain rfl:i=s.ds.length:=by omega
     have hfin:N7 s.acs s.ds k.a.toNat s.ds.length=Ko s.acs s.ds k.a.toNat:=by
      unfold N7 Ko;rw [List.take_length]
     rw [hfin];have H9:=H8.call H.ext;have H17:=Ctx.start w [];refine Bq (Am (Am (AG (Aa (Af (Ae U (Ct [.int .i64 (Ko s.acs s.ds k.a.toNat)] (.int .i64 (Ko s.acs s.ds k.a.toNat)) Bg B6 EK U (by decide) (by decide) U U U H17 ?_)))))));rintro b55 w2 - H17;refine A1 U (Ad U (Ab (Aa (A4 (BL (v1:=(.slice _ _ _)) (v2:=(.int _ _)) U U U U ?_)))));subst hS0;exact DF (P:=[_,_]) (m':=⟨bl,ba,bd,br,b,a,c,full,o,arch⟩) (s':=s) (l:=[Ko s.acs s.ds k.a.toNat]) (code:=0) I H9 (Gs (n:=1) (l:=[Ee (Ko s.acs s.ds k.a.toNat)]) H17 U) (hstep _ (by rw [hR,if_pos hf]; rfl)) I.O I.M I.ok U U U U
end Go.Proofs.YtdagmpmdcgedcaaGreat
namespace Go.Proofs.YtdagmpmdcgedcaaGreat
open Go.GV
attribute [local irreducible] AB W Wq Wt
theorem Yh {r:Rnd} (h:N6 r=true):(1≤r.N∧r.N≤40)∧r.es.length≤200∧r.fl.length=r.es.length∧(r.pot.length:Int)=r.N∧r.ids.length≤64:=by
 unfold N6 at h;simp only [Bool.and_eq_true,decide_eq_true_eq] at h;obtain ⟨hc,hi,-⟩:=h;obtain ⟨h1,h2,-⟩:=Gp.1 hc;obtain ⟨g1,g2,g3,-⟩:=CD (Cv (Ff h1).1).2.1;exact ⟨⟨g1,g2⟩,g3,(Cv (Ff h1).1).1,(Ll h2).1,hi⟩
set_option maxRecDepth 20000 in
set_option maxHeartbeats 1000000 in
theorem Vz {m:Lm} {s:Ld} {T:Nat→Prop} {k:Ak} (hk:k.kd=15) (hin:AkIn k) (hg:TW s k.id=none) (w:World) (I:LdIn w m s T) (H0:Ctx w (CW m s) w (LL m s)) :
  Ret Tryz.prog 67 #[ptr m.bl,.agg (BV k).toArray] w (Gb w m s T k):=by
 obtain ⟨w0,rfl⟩:∃ w0,w0=w:=⟨_,rfl⟩;obtain ⟨bl,ba,bd,br,b,a,c,full,o,arch⟩:=m;obtain ⟨S0,hS0⟩:∃ S,S=CW ⟨bl,ba,bd,br,b,a,c,full,o,arch⟩ s:=⟨_,rfl⟩;have H:Ctx w0 S0 w0 ((bl,Bl 106 [ptr ba,ptr bd,ptr br,.int .i64 s.day])::(br,Bl 168 arch)::(ba,Bl 162 [.slice a s.acs.length c])::(bd,Bl 165 (DU b s.nx))::(b,o)::ent a 43 full):=by rw [hS0]; exact H0
 have hn16:=(BZ.1 I.ok.ac).1;have hbdb:bd≠b:=H.ne (i:=3) (j:=4) rfl rfl (by decide);have hS:EN s k=s:=by unfold EN; rw [if_neg (by omega),if_neg (by omega),if_neg (by omega),if_neg (by omega),if_neg (by omega),if_neg (by omega),if_neg (by omega),if_neg (by omega),if_neg (by omega)]
 have hstep:∀ p,Fq s k=p→C6 s k s p:=fun p h2=>by
  unfold C6;rw [if_neg (by omega)];exact ⟨hS.symm,h2.symm⟩
 have hno:0≤s.no∧s.no≤4611686018427387904:=by have:=I.ok.kept; omega
 have hR:Fq s k=⟨4,[]⟩:=by unfold Fq; rw [if_neg (by omega),if_neg (by omega),if_neg (by omega),if_neg (by omega),if_neg (by omega),if_neg (by omega),if_neg (by omega),if_neg (by omega),if_neg (by omega),if_neg (by omega),if_neg (by omega),if_neg (by omega),if_pos hk,hg]
 refine Aw (fn:=Tryz.f67) Tryz.func67 U [.pointer (some ⟨bl,0,none⟩),.agg (BV k).toArray] U (by kernel_rfl) ?_;refine Af (Bv (BV k) (.agg _) U U H ?_);rintro b3 w - H;refine A1 U (Ad U (Ab (Aa (DC 4190400 (α:=Nat) (fun z=>[(6,ptr z),(7,.bool false)]) (fun z w'=>Ctx w0 S0 w' ((z,Bl 55 rnd0)::(b3,Bl 40 (BV k))::(bl,Bl 106 [ptr ba,ptr bd,ptr br,.int .i64 s.day])::(br,Bl 168 arch)::(ba,Bl 162 [.slice a s.acs.length c])::(bd,Bl 165 (DU b s.nx))::(b,o)::ent a 43 full)) U ?_ ?_))))
 ·skip
  refine NW (.two [0,1,2,3,4,5] 6 (.one [7,8,9] 10 (.one [] 11 (.one [] 12 .stop))) 10 (.one [] 6 (.one [7,8,9] 11 (.one [] 12 .stop)))) (fun z=>z.heap[b3]? = some (Bl 40 (BV k))∧z.heap[bl]? = some (Bl 106 [ptr ba,ptr bd,ptr br,.int .i64 s.day])) Bs (by kernel_rfl) (⟨H.drew.get at0,H.drew.get at1⟩) ?_;refine It U U U ?_;refine BD U (Bd U (An U IF U (B0 M9 U (fun _ hx=>(by rw [Aj hx.2]; rfl)) ?_)));refine An U Ky U (B0 B5 U (fun _ hx=>(by rw [Aj hx.1]; rfl)) ?_);refine AP ?_;replace H:=H.drew;refine ⟨?_,?_⟩
  ·skip
   refine Al Rv (Ue (n:=s.rn.length) _ (H.get at2) I.n I.no hno hin.id (QR I.ok hg)) U ?_;rintro v w ⟨rfl,hx19⟩;replace H:=H.call hx19;refine Ab (BP (by exact ⟨H.get at0,H.get at1⟩) ?_);refine BO U U ?_;refine DA U (Bu U U (Bu U U (AP (AX Gg H ?_))));rintro b6 w - H;refine Ab (BP (by exact ⟨H.get at1,H.get at2⟩) ?_);refine BO U U ?_;refine AP (Bm Dh U U U (by exact (by simp [rnd0,AO])) H at0 U ?_);rintro w H;refine Ab (BP (by exact ⟨H.get at1,H.get at2⟩) ?_);refine BO U U ?_;refine AP (Ai U (Ab (BP (by exact ⟨H.get at1,H.get at2⟩) ?_)));refine DT ?_;refine Aa ?_;exact ⟨b6,rfl,⟨rfl,rfl,trivial⟩,H⟩
  ·skip
   refine AX Gg H ?_;rintro b6 w - H;refine Ab (BP (by exact ⟨H.get at1,H.get at2⟩) ?_);refine BO U U ?_;refine AP (Al Rv (Ue (n:=s.rn.length) _ (H.get at3) I.n I.no hno hin.id (QR I.ok hg)) U ?_);rintro v w ⟨rfl,hx19⟩;replace H:=H.call hx19;refine Ab (BP (by exact ⟨H.get at1,H.get at2⟩) ?_);refine BO U U ?_;refine DA U (Bu U U (Bu U U (AP (Bm Dh U U U (by exact (by simp [rnd0,AO])) H at0 U ?_))));rintro w H;refine Ab (BP (by exact ⟨H.get at1,H.get at2⟩) ?_);refine BO U U ?_;refine AP (Ai U (Ab (BP (by exact ⟨H.get at1,H.get at2⟩) ?_)));refine DT ?_;refine Aa ?_;exact ⟨b6,rfl,⟨rfl,rfl,trivial⟩,H⟩
 ·rintro b6 j7 w H;refine Aq (Af (AE U (BA U (Ab (Aa (Ap _ U ?_ ?_))))))
  ·intro h1;replace h1:=BE h1;refine Af (A1 U (Ad U (Ab (Aa (A4 (Ao (BL (v1:=(.slice _ _ _)) (v2:=(.int _ _)) U U U U ?_)))))));subst hS0;exact DF (P:=[_,_]) (m':=⟨bl,ba,bd,br,b,a,c,full,o,arch⟩) (s':=s) (l:=[]) (code:=4) I H (HS _) (hstep _ (by rw [hR]; rfl)) I.O I.M I.ok U U U U
  ·intro h1;replace h1:=BF h1;cases h1
set_option maxRecDepth 20000 in
set_option maxHeartbeats 1000000 in
theorem V0 {m:Lm} {s:Ld} {T:Nat→Prop} {k:Ak} (hk:k.kd=15) (hin:AkIn k) {r:Rnd} (hg:TW s k.id=some r) (w:World) (I:LdIn w m s T) (H0:Ctx w (CW m s) w (LL m s)) :
  Ret Tryz.prog 67 #[ptr m.bl,.agg (BV k).toArray] w (Gb w m s T k):=by
 obtain ⟨w0,rfl⟩:∃ w0,w0=w:=⟨_,rfl⟩;obtain ⟨bl,ba,bd,br,b,a,c,full,o,arch⟩:=m;obtain ⟨S0,hS0⟩:∃ S,S=CW ⟨bl,ba,bd,br,b,a,c,full,o,arch⟩ s:=⟨_,rfl⟩;have H:Ctx w0 S0 w0 ((bl,Bl 106 [ptr ba,ptr bd,ptr br,.int .i64 s.day])::(br,Bl 168 arch)::(ba,Bl 162 [.slice a s.acs.length c])::(bd,Bl 165 (DU b s.nx))::(b,o)::ent a 43 full):=by rw [hS0]; exact H0
 have hn16:=(BZ.1 I.ok.ac).1;have hbdb:bd≠b:=H.ne (i:=3) (j:=4) rfl rfl (by decide);have hS:EN s k=s:=by unfold EN; rw [if_neg (by omega),if_neg (by omega),if_neg (by omega),if_neg (by omega),if_neg (by omega),if_neg (by omega),if_neg (by omega),if_neg (by omega),if_neg (by omega)]
 have hstep:∀ p,Fq s k=p→C6 s k s p:=fun p h2=>by
  unfold C6;rw [if_neg (by omega)];exact ⟨hS.symm,h2.symm⟩
 have hno:0≤s.no∧s.no≤4611686018427387904:=by have:=I.ok.kept; omega
 have hR:Fq s k=Lr r k.b:=by unfold Fq; rw [if_neg (by omega),if_neg (by omega),if_neg (by omega),if_neg (by omega),if_neg (by omega),if_neg (by omega),if_neg (by omega),if_neg (by omega),if_neg (by omega),if_neg (by omega),if_neg (by omega),if_neg (by omega),if_pos hk,hg]
 obtain ⟨hg1,hgm,hgn⟩:=Yd I.ok hg;have hmay:=I.ok.may r hgm;have hB:=Sz hmay;obtain ⟨hm1,hm2,hm3,hm4,hm5⟩:=Yh hmay;obtain ⟨q,hq1,hq2,hq3⟩:=I.kept r hgm;rw [hgn] at hq1;refine Aw (fn:=Tryz.f67) Tryz.func67 U [.pointer (some ⟨bl,0,none⟩),.agg (BV k).toArray] U (by kernel_rfl) ?_;refine Af (Bv (BV k) (.agg _) U U H ?_);rintro b3 w - H;refine A1 U (Ad U (Ab (Aa (DC 4190400 (α:=Nat × RSl) (fun z=>[(6,ptr z.1),(7,.bool true)]) (fun z w'=>RAt w' r z.2∧Ctx w0 S0 w' ((z.1,Bl 55 (BK r z.2))::(b3,Bl 40 (BV k))::(bl,Bl 106 [ptr ba,ptr bd,ptr br,.int .i64 s.day])::(br,Bl 168 arch)::(ba,Bl 162 [.slice a s.acs.length c])::(bd,Bl 165 (DU b s.nx))::(b,o)::ent a 43 full)) U ?_ ?_))))
 ·skip
  refine NW (.two [0,1,2,3,4,5] 6 (.one [7,8,9] 10 (.one [] 11 (.one [] 12 .stop))) 10 (.one [] 6 (.one [7,8,9] 11 (.one [] 12 .stop)))) (fun z=>z.heap[b3]? = some (Bl 40 (BV k))∧z.heap[bl]? = some (Bl 106 [ptr ba,ptr bd,ptr br,.int .i64 s.day])) Bs (by kernel_rfl) (⟨H.drew.get at0,H.drew.get at1⟩) ?_;refine It U U U ?_;refine BD U (Bd U (An U IF U (B0 M9 U (fun _ hx=>(by rw [Aj hx.2]; rfl)) ?_)));refine An U Ky U (B0 B5 U (fun _ hx=>(by rw [Aj hx.1]; rfl)) ?_);refine AP ?_;replace H:=H.drew;refine ⟨?_,?_⟩
  ·skip
   refine Al Rv (QQ (n:=s.rn.length) (r:=r) (q:=q) _ (H.get at2) I.len I.n I.no hno hin.id hg1 hq1 (hq2.ext H.ext (hq3.mono fun x hx=>I.own x (by rw [← hS0]; exact hx))) hB) U ?_;rintro v w ⟨hx19,q',rfl,RA,hoff⟩;have H9:=H.call hx19;clear H;obtain ⟨w9,rfl⟩:∃ z,z=w:=⟨_,rfl⟩;have H:=Ctx.start w9 [];refine Ab (BP (by exact ⟨H.ext.to (H9.get at0) (by simp),H.ext.to (H9.get at1) (by simp)⟩) ?_);refine BO U U ?_;refine DA U (Bu U U (Bu U U (AP (AX Gg H ?_))));rintro b6 w - H;refine Ab (BP (by exact ⟨H.ext.to (H9.get at0) (by simp),H.ext.to (H9.get at1) (by simp)⟩) ?_);refine BO U U ?_;refine AP (Bm Dh U U U (by simp [AO]) H at0 U ?_);rintro w H;refine Ab (BP (by exact ⟨H.ext.to (H9.get at0) (by simp),H.ext.to (H9.get at1) (by simp)⟩) ?_);refine BO U U ?_;refine AP (Ai U (Ab (BP (by exact ⟨H.ext.to (H9.get at0) (by simp),H.ext.to (H9.get at1) (by simp)⟩) ?_)));refine DT ?_
   refine Aa ?_;exact ⟨(b6,q'),rfl,⟨rfl,rfl,trivial⟩,RA.ext0 H.ext,Ctx.mid (B:=[]) (L:=[]) H9 H⟩
  ·skip
   refine AX Gg H ?_;rintro b6 w - H;refine Ab (BP (by exact ⟨H.get at1,H.get at2⟩) ?_);refine BO U U ?_;refine AP (Al Rv (QQ (n:=s.rn.length) (r:=r) (q:=q) _ (H.get at3) I.len I.n I.no hno hin.id hg1 hq1 (hq2.ext H.ext (hq3.mono fun x hx=>I.own x (by rw [← hS0]; exact hx))) hB) U ?_);rintro v w ⟨hx19,q',rfl,RA,hoff⟩;have hlt:=Ba (H.get at0);have H9:=H.call hx19;clear H;obtain ⟨w9,rfl⟩:∃ z,z=w:=⟨_,rfl⟩;have H:=Ctx.start1 (H9.get at0);refine Ab (BP (by exact ⟨H.ext.to (H9.get at1) (by rw [List.mem_singleton]; exact H9.ne (i:=1) (j:=0) rfl rfl (by decide)),H.ext.to (H9.get at2) (by rw [List.mem_singleton]; exact H9.ne (i:=2) (j:=0) rfl rfl (by decide))⟩) ?_);refine BO U U ?_;refine DA U (Bu U U (Bu U U (AP (Bm Dh U U U (by simp [AO]) H at0 U ?_))));rintro w H
   refine Ab (BP (by exact ⟨H.ext.to (H9.get at1) (by rw [List.mem_singleton]; exact H9.ne (i:=1) (j:=0) rfl rfl (by decide)),H.ext.to (H9.get at2) (by rw [List.mem_singleton]; exact H9.ne (i:=2) (j:=0) rfl rfl (by decide))⟩) ?_);refine BO U U ?_;refine AP (Ai U (Ab (BP (by exact ⟨H.ext.to (H9.get at1) (by rw [List.mem_singleton]; exact H9.ne (i:=1) (j:=0) rfl rfl (by decide)),H.ext.to (H9.get at2) (by rw [List.mem_singleton]; exact H9.ne (i:=2) (j:=0) rfl rfl (by decide))⟩) ?_)));refine DT ?_;refine Aa ?_;exact ⟨(b6,q'),rfl,⟨rfl,rfl,trivial⟩,RA.ext H.ext (hoff.mono fun x hx=>by rw [List.mem_singleton.1 hx]; exact hlt),Ctx.mid (B:=[]) (L:=[_]) H9 H⟩
 ·rintro ⟨b6,q'⟩ j7 w ⟨RA,H⟩;dsimp only at RA H;have H8:=H;have hb6:=H8.get at0;have hb3:=H8.get at1;obtain ⟨w1,rfl⟩:∃ z,z=w:=⟨_,rfl⟩;clear H;have H:=Ctx.start w1 [];refine Aq (Af (AE U (BA U (Ab (Aa (Ap _ U ?_ ?_))))))
  ·intro h1;replace h1:=BE h1;cases h1
  ·intro h1;replace h1:=BF h1;refine Au (Aa (Er (fun x=>x=_) Bs (by kernel_rfl) U ?_));refine A7 RC U (BX Ca U (by rintro _ rfl; exact ((by rw [Aj (H.drew.ext.to hb3 (by simp))]; rfl))) ?_);refine A7 F9 U (A7 Dv U (BX Fs U (by rintro _ rfl; exact ((by rw [Aj (H.drew.ext.to hb6 (by simp))]; rfl))) ?_));refine Afk U Ds U (Db U (Db U (BW ?_)));rintro _ rfl;replace H:=H.drew;refine Aq (A0 (Af (BU (α:=Unit) 4396972769280 (fun _=>[(30,.bool ((decide (k.b < -1) || decide ((r.es.length:Int)+r.N≤k.b))))]) (fun _ w'=>Ctx w1 [] w' []) U ?_ ?_)))
   ·refine Ae U (Bj U U (AE U (AY 33 U ?_ ?_)))
    ·intro h1;replace h1:=AJ h1;refine Ah U (Ah U (Ah U (Ah U (Ah U (Ah U (Ah U (AN U (.bool _) U (Ai U (Ab ?_)))))))));exact ⟨rfl,(),rfl,⟨congrArg Value.bool (by rw [Bool.eq_iff_iff]; simp_all; try omega),trivial⟩,H⟩
    ·intro h2;replace h2:=AK h2;refine Ae U (Ae U (Ag F9 U (Ag Fl U (AZ Ca U ((H.old (Aj hb6 _) (by simp))) ?_))));refine Ax U U ?_;refine C4 U U (AU U (.bool _) U (Ai U (Ab ?_)));exact ⟨rfl,(),rfl,⟨congrArg Value.bool (by rw [Bool.eq_iff_iff]; simp_all; try omega),trivial⟩,H⟩
   rintro - j30 w H;refine Ap _ U ?_ ?_
   ·intro h2;have h2':k.b < -1∨(r.es.length:Int)+r.N≤k.b:=by simpa using h2
    refine Af (A1 U (Ad U (Ab (Aa (A4 (AA (Ao (BL (v1:=(.slice _ _ _)) (v2:=(.int _ _)) U U U U ?_))))))));have H9:=H8.call H.ext;subst hS0;exact DF (P:=[_,_]) (m':=⟨bl,ba,bd,br,b,a,c,full,o,arch⟩) (s':=s) (l:=[]) (code:=1) I H9 (HS _) (hstep _ (by rw [hR]; unfold Lr; rw [if_pos h2']; rfl)) I.O I.M I.ok U U U U
   ·intro h2;have h2':¬ (k.b < -1∨(r.es.length:Int)+r.N≤k.b):=by simpa using h2
    refine Af (Ae U (Cf U U (Ai U (Ab (Aa (Ap _ U ?_ ?_))))))
    ·intro h3;replace h3:=AJ h3;refine Cq [([0,1,2,3,5,6,7,8,9,10,11],4),([],12),([13],14)] (fun z=>Ext [] w1 z) [] Bs (by kernel_rfl) (H.drew.ext) ?_;refine AF U U ?_;refine An U NE U (B0 Bw U (fun _ hx=>(by rw [Aj (hx.to hb6 (by simp))]; rfl)) ?_);refine An U VP U (B0 JQ U (fun _ hx=>(by rw [Aj (hx.to hb6 (by simp))]; rfl)) ?_);refine An U F9 U (An U Fl U (B0 Ca U (fun _ hx=>(by rw [Aj (hx.to hb6 (by simp))]; rfl)) ?_));refine Be U (An U Gw U (B0 JR U (fun _ hx=>(by rw [Aj (hx.to hb6 (by simp))]; rfl)) ?_));refine t_len U Bx U (AP ?_);replace H:=H.drew;refine Al YI (WB r.cmp _) U ?_;rintro v w ⟨rfl,rfl⟩;refine Ab (BR (H.ext) (AF U U ?_));refine AP (D9 ([r.day,Nv r.cmp,r.N,(r.es.length:Int),(r.ids.length:Int)].map Ee) Bg B6 EK (by decide) (by decide) (by kernel_rfl) (Ctx.start _ []) ?_);rintro b57 w2 - H17;refine Ab (BR (H.ext.trans H17.ext) (AF U U ?_))
     refine DB U (AP (Ad U (Ab (BR (H.ext.trans H17.ext) (BH (A4 (AA (Ao (BL (v1:=(.slice _ _ _)) (v2:=(.int _ _)) U U U U ?_)))))))));have H9:=H8.call H.ext;subst hS0;exact DF (P:=[_,_]) (m':=⟨bl,ba,bd,br,b,a,c,full,o,arch⟩) (s':=s) (l:=[r.day,Nv r.cmp,r.N,(r.es.length:Int),(r.ids.length:Int)]) (code:=0) I H9 (Gs (n:=5) H17 U) (hstep _ (by rw [hR]; unfold Lr; rw [if_neg h2',if_pos h3]; rfl)) I.O I.M I.ok U U U U
    ·intro h3;replace h3:=AK h3;refine Af (Ae U (Ae U (C4 U U (Ai U (Ab (Aa (Ap _ U ?_ ?_)))))))
     ·intro h4;replace h4:=AJ h4;obtain ⟨y,hy⟩:=A8 (l:=r.pot) (i:=(k.b - (r.es.length:Int)).toNat);refine Af (Ag Gx U (Ag LJ U (AZ Cg U ((H.old (Aj hb6 _) (by simp))) ?_)));refine Ae U (Ae U (Br U U ?_));refine AS (RA.P.ext0 H.ext) Bg B6 U U (by rfl) ?_;refine AZ Bw U (((RA.P.ext0 H.ext).one (f:=Ee) hy)) ?_;have H17:=Ctx.start w [];refine Ct [.int .i64 y] (.int .i64 y) Bg B6 EK U (by decide) (by decide) U U U H17 ?_;rintro b70 w2 - H17;refine A1 U (Ad U (Ab (Aa (A4 (AA (Ao (BL (v1:=(.slice _ _ _)) (v2:=(.int _ _)) U U U U ?_)))))));have H9:=H8.call H.ext;subst hS0;exact DF (P:=[_,_]) (m':=⟨bl,ba,bd,br,b,a,c,full,o,arch⟩) (s':=s) (l:=[y]) (code:=0) I H9 (Gs (n:=1) (l:=[Ee y]) H17 U) (hstep _ (by rw [hR]; unfold Lr; rw [if_neg h2',if_neg h3,if_pos h4,Bo hy]; rfl)) I.O I.M I.ok U U U U
     ·intro h4;replace h4:=AK h4;obtain ⟨x,hxe⟩:=A8 (l:=r.es) (i:=k.b.toNat);obtain ⟨f,hf⟩:=A8 (l:=r.fl) (i:=k.b.toNat);refine Au (A5 (Aa (Af (Ag F9 U (Ag Dv U (AZ Fs U ((H.old (Aj hb6 _) (by simp))) ?_))))));refine Ae U (AS (RA.E.ext0 H.ext) Ds Dp U U (by rfl) ?_);refine Cj _ JS Dp U U (((RA.E.ext0 H.ext).row hxe U)) ?_;refine AX Ht H ?_;rintro b10 w - H;refine Bm Dp U U U (by exact Hy _) H at0 U ?_;rintro w H;refine Ad U (Ab (Aa (Aq ?_)));replace H:Ctx w1 [] w [(b10,Bl 59 (CI x))]:=H;refine Af (Ae U (Ag Gw U (AZ JR U ((H.old (Aj hb6 _) (by simp))) ?_)));refine Bi Bx U (Bj U U (Ab (Aa (Ap _ U ?_ ?_))))
      ·intro h5;replace h5:=AJ h5;obtain ⟨y,hy⟩:=A8 (l:=r.ids) (i:=k.b.toNat);refine Az (Ag Gw U (AZ JR U ((H.old (Aj hb6 _) (by simp))) ?_));refine Ae U (AS (RA.I.ext0 H.ext) Bx Bp U U (by rfl) ?_);refine AZ B5 U (((RA.I.ext0 H.ext).one (f:=GG) hy)) ?_;refine Yt U U EV Xh ?_;refine Ad U (Ab (Aa (Cq [([0,1,2,3,4,5,6,7,8,9,10,11,12,13,14],15),([16],17)] (fun z=>Ext [] w1 z∧z.heap[b10]? = some (Bl 59 (CI x))) [] Bs (by kernel_rfl) (⟨H.drew.ext,H.drew.get at0⟩) ?_)));refine AF U U ?_;refine An U FW U (B0 Ca U (fun _ hx=>(by rw [Aj hx.2]; rfl)) ?_);refine An U FX U (B0 Ca U (fun _ hx=>(by rw [Aj hx.2]; rfl)) ?_);refine An U EU U (B0 Bw U (fun _ hx=>(by rw [Aj hx.2]; rfl)) ?_);refine An U GX U (B0 Bw U (fun _ hx=>(by rw [Aj hx.2]; rfl)) ?_);refine An U Gx U (An U Jo U (B0 Cg U (fun _ hx=>(by rw [Aj (hx.1.to hb6 (by simp))]; rfl)) ?_))
       refine Be U (DP (RA.F.ext0 H.ext) Bg B6 U U (hn:=by rfl) ?_);refine B0 Bw U (fun _ hx=>((RA.F.ext0 hx.1).one (f:=Ee) hf)) ?_;refine Be U (AP ?_);replace H:=H.drew;refine D9 ([x.f,x.t,x.cap,x.cost,f,IntKind.i64.wrap y].map Ee) Bg B6 EK (by decide) (by decide) (by kernel_rfl) (Ctx.start _ []) ?_;rintro b103 w2 - H17;refine Ab (BR (⟨H.ext.trans H17.ext,H17.ext.to (H.get at0) (by simp)⟩) ?_);refine AF U U ?_;refine DB U (AP (Ad U (Ab (BR (⟨H.ext.trans H17.ext,H17.ext.to (H.get at0) (by simp)⟩) ?_))));refine BH (A4 (BL (v1:=(.slice _ _ _)) (v2:=(.int _ _)) U U U U ?_));have H9:=H8.call H.ext;subst hS0
       exact DF (P:=[_,_]) (m':=⟨bl,ba,bd,br,b,a,c,full,o,arch⟩) (s':=s) (l:=[x.f,x.t,x.cap,x.cost,f,IntKind.i64.wrap y]) (code:=0) I H9 (Gs (n:=6) H17 U) (hstep _ (by rw [hR]; unfold Lr; rw [if_neg h2',if_neg h3,if_neg h4,Bo hxe,Bo hf,if_pos h5,Bo hy]; rfl)) I.O I.M I.ok U U U U
      ·intro h5;replace h5:=AK h5;refine Au (Aa (Cq [([0,1,2,3,4,5,6,7,8,9,10,11,12,13,14],15),([16],17)] (fun z=>Ext [] w1 z∧z.heap[b10]? = some (Bl 59 (CI x))) [] Bs (by kernel_rfl) (⟨H.drew.ext,H.drew.get at0⟩) ?_));refine AF U U ?_;refine An U FW U (B0 Ca U (fun _ hx=>(by rw [Aj hx.2]; rfl)) ?_);refine An U FX U (B0 Ca U (fun _ hx=>(by rw [Aj hx.2]; rfl)) ?_);refine An U EU U (B0 Bw U (fun _ hx=>(by rw [Aj hx.2]; rfl)) ?_);refine An U GX U (B0 Bw U (fun _ hx=>(by rw [Aj hx.2]; rfl)) ?_);refine An U Gx U (An U Jo U (B0 Cg U (fun _ hx=>(by rw [Aj (hx.1.to hb6 (by simp))]; rfl)) ?_));refine Be U (DP (RA.F.ext0 H.ext) Bg B6 U U (hn:=by rfl) ?_);refine B0 Bw U (fun _ hx=>((RA.F.ext0 hx.1).one (f:=Ee) hf)) ?_;refine Be U (AP ?_);replace H:=H.drew
       refine D9 ([x.f,x.t,x.cap,x.cost,f,0].map Ee) Bg B6 EK (by decide) (by decide) (by kernel_rfl) (Ctx.start _ []) ?_;rintro b103 w2 - H17;refine Ab (BR (⟨H.ext.trans H17.ext,H17.ext.to (H.get at0) (by simp)⟩) ?_);refine AF U U ?_;refine DB U (AP (Ad U (Ab (BR (⟨H.ext.trans H17.ext,H17.ext.to (H.get at0) (by simp)⟩) ?_))));refine BH (A4 (BL (v1:=(.slice _ _ _)) (v2:=(.int _ _)) U U U U ?_));have H9:=H8.call H.ext;subst hS0;exact DF (P:=[_,_]) (m':=⟨bl,ba,bd,br,b,a,c,full,o,arch⟩) (s':=s) (l:=[x.f,x.t,x.cap,x.cost,f,0]) (code:=0) I H9 (Gs (n:=6) H17 U) (hstep _ (by rw [hR]; unfold Lr; rw [if_neg h2',if_neg h3,if_neg h4,Bo hxe,Bo hf,if_neg h5]; rfl)) I.O I.M I.ok U U U U
theorem Yi {m:Lm} {s:Ld} {T:Nat→Prop} {k:Ak} (hk:k.kd=15) (hin:AkIn k) (w:World) (I:LdIn w m s T) (H0:Ctx w (CW m s) w (LL m s)) :
  Ret Tryz.prog 67 #[ptr m.bl,.agg (BV k).toArray] w (Gb w m s T k):=by
 cases hg:TW s k.id with
 | none=>exact Vz hk hin hg w I H0
 | some r=>exact V0 hk hin hg w I H0
end Go.Proofs.YtdagmpmdcgedcaaGreat
namespace Go.Proofs.YtdagmpmdcgedcaaGreat
open Go.GV
attribute [local irreducible] AB W Wq Wt
set_option maxRecDepth 20000 in
set_option maxHeartbeats 4000000 in
theorem Acd (b p:Option Addr) (m e u f:Nat) (ds:List Du) (xs:List Int) (w:World) (Rd':Rd w b 7 CO ds) (hm:ds.length=m) (Rp:Rd w p 1 I1 xs) (hu:xs.length=u) (hp:PayIn (opn ds) xs) (hmay:∀ d∈opn ds,DY d=true) (htot:Ch ((opn ds).map Du.am)≤4503599627370496)  (hm2:m≤1000000:=by omega):
  Ret Tryz.prog 116 #[.slice b m e,.slice p u f] w fun v w'=>v = .int .i64 (EF (opn ds) xs (opn ds).length)∧Ext [] w w':=by
 subst hm hu;obtain ⟨w0,rfl⟩:∃ w0,w0=w:=⟨_,rfl⟩;have H:=Ctx.start w0 [];have hol:=Ip ds;refine Aw (fn:=Tryz.f116) Tryz.func116 U [.slice b ds.length e,.slice p xs.length f] U (by kernel_rfl) ?_;refine Af (Ad U (Ab (Aa (Af (A3 U (Al YP (Ws b ds.length e ds _ Rd' U hm2) U ?_))))));rintro v w F;obtain ⟨ao,no,co,fo,rfl,OO,hbo⟩:=F.ex;replace H:=H.call F.ext;refine A1 U (Ab (Aa (Aq ?_)));obtain rfl:no=(opn ds).length:=OO.numN (fun _ _=>rfl) (by decide);have RO0:Rd w ao 7 CO (opn ds):=OS.rd OO (fun y hy=>(hbo y hy).1) (fun _ _=>rfl) (by decide);have hE1:=H.ext;obtain ⟨w1,rfl⟩:∃ x,x=w:=⟨_,rfl⟩;clear H;have H:=Ctx.start w1 [];have hlen:=hp.1;have hRf:∀ {w:World},Ext [] w1 w→Rd w ao 7 CO (opn ds):=fun h=>RO0.ext0 h;have hRp:∀ {w:World},Ext [] w1 w→Rd w p 1 I1 xs:=fun h=>Rp.ext0 (hE1.trans h);refine Af (A3 U (Bi CK U (A3 U (Bi Bg U (C9 U U (Ab (Aa (Ap _ U ?_ ?_))))))))
 ·intro h1;replace h1:=CR h1;omega
 ·intro h1;replace h1:=CS h1;refine Au (Aa (Af (Ad U (Ab (Aa (Aq (Af (A3 U (Bi CK U (Ae U (Ab (Aa ?_))))))))))));refine A0 (Bt 4294836448 (α:=Nat) (fun i=>[(17,.int .i64 (i:Int)),(5,.int .i64 (EF (opn ds) xs i))]) (fun i w'=>i≤(opn ds).length∧Ctx w1 [] w' []) (fun i=>(opn ds).length - i) 0 U ?_ ?_ ?_)
  ·exact ⟨rfl,rfl,trivial⟩
  ·exact ⟨Nat.zero_le _,H⟩
  ·clear H;rintro i j w ⟨hi,H⟩;refine Af (Bj U U (Ab (Aa (Aq (Ap _ U ?_ ?_)))))
   ·intro h3;replace h3:=AJ h3;obtain ⟨d,hd⟩:=A8 (l:=opn ds) (i:=i);obtain ⟨x,hxv⟩:=A8 (l:=xs) (i:=i);have hma:=Dc (hmay d (List.mem_of_getElem? hd));have hxr:=hp.2 i d x hd hxv;have hwe:∀ d∈opn ds,0≤d.we∧d.we≤1000:=fun d hd=>by have:=Dc (hmay d hd); omega
    have hps:∀ k,Ch (((opn ds).map Du.am).take k)≤4503599627370496:=fun k=>Int.le_trans (XR (fun y hy=>by obtain ⟨d',hd',rfl⟩:=List.mem_map.1 hy; have:=Dc (hmay d' hd'); omega) k) htot;have hw0:=Lp hp hwe i hi;have hw1:=Lp hp hwe (i+1) (by omega);have hp0:=hps i;have hp1:=hps (i+1);have hstep:=Kp hd hxv;have hm1:0≤d.we*x:=Int.mul_nonneg (by omega) hxr.1;have hm2:d.we*x≤4503599627370496000:=by omega
    refine Au (Aa (Aq (A0 (Af (Ae U (AS (hRf H.ext) CK Ci U U (by rfl) ?_))))));refine Cj _ Ft Ci U U ((hRf H.ext).row hd U) ?_;refine AX Eu H ?_;rintro b7 w - H;refine Ad U (Bm Ci U U U (by exact CQ _) H at0 U ?_);rintro w H;refine Ab (Aa ?_);replace H:Ctx w1 [] w [(b7,Bl 67 (CO d))]:=H;refine ER [([0,1,2,3,4,5,6,7,8],9)] (fun z=>Ext [] w1 z∧z.heap[b7]? = some (Bl 67 (CO d))) [] Bs (by kernel_rfl) (⟨H.drew.ext,H.drew.get at0⟩) ?_;refine AF U U ?_;refine Be U (An U LM U (B0 Bw U (fun _ hx=>(by rw [Aj hx.2]; rfl)) ?_));refine B2 U (Be U (DP (hRp H.ext) Bg B6 U U (hn:=by rfl) ?_));refine B0 Bw U (fun _ hx=>((hRp hx.1).one (f:=Ee) hxv)) ?_;refine WU U U U ?_;refine Eg U U ?_;refine AP ?_;replace H:=H.drew
    refine Ad U (Ab (BR (⟨H.ext,H.get at0⟩) (BH (A5 (Aa (Az (Ax U U ?_)))))));refine Ae U (Ab (Aa ?_));exact ⟨i+1,rfl,⟨rfl,congrArg (Value.int .i64) hstep.symm,trivial⟩,⟨by omega,H.tail⟩,by omega⟩
   ·intro h3;replace h3:=AK h3;obtain rfl:i=(opn ds).length:=by omega
    refine Bq (Am (Am (AG (Aa (Af (Ae U (Ad U (Ab (Aa (A4 (AD (v:=(.int _ _)) U U U ?_)))))))))));exact ⟨rfl,hE1.trans H.ext⟩
end Go.Proofs.YtdagmpmdcgedcaaGreat
namespace Go.Proofs.YtdagmpmdcgedcaaGreat
open Go.GV
attribute [local irreducible] AB W Wq Wt
theorem Ae6 {w w1 w':World} {m m':Lm} {s s':Ld} {T:Nat→Prop} {k:Ak} {P:List (Nat × Obj)} {a:Option Addr} {n c:Nat} {code:Int} {l:List Int} (H:Ctx w (CW m s) w1 (P++LL m' s')) (F:Fresh w1 w' 2 1 (.slice a n c) (l.map Ee)) (hst:C6 s k s' (rp l code))
  (hI:LdIn w' m' s' (fun x=>T x∨x∈CW m' s')) (hbl:m'.bl=m.bl):Gb w m s T k (.tuple #[.slice a n c,.int .i64 code]) w':=by
 obtain ⟨a',n',c',full,hv,OF,hb⟩:=F.ex;cases hv;have H1:Ctx w (CW m s) w1 (LL m' s'):=H.right;exact ⟨a,n,c,full,code,l,s',m',rfl,OF,hst,H1.callEnt F.ext hb FD,fun x hx=>Nat.le_trans H1.size (hb x hx).2,hI,hbl⟩
theorem Yj (xs:List Int) {i:Nat} {x:Int} (h:xs[i]? = some x):IZ xs (i+1)=IZ xs i+(if 0<x then 1 else 0):=by
 show IZ xs i+one (0<xs.getD i 0)=_;rw [Bo h]
 by_cases hx:0<x
 ·rw [Fv hx,if_pos hx]
 ·rw [EW hx,if_neg hx]
theorem Ui (xs:List Int):∀ i,0≤IZ xs i∧IZ xs i≤i
 | 0=>⟨Int.le_refl _,Int.le_refl _⟩
 | i+1=>by
  have h:=Ui xs i;show 0≤IZ xs i+one (0<xs.getD i 0)∧IZ xs i+one (0<xs.getD i 0)≤((i+1:Nat):Int)
  by_cases hx:0<xs.getD i 0
  ·rw [Fv hx]; omega
  ·rw [EW hx]; omega
theorem Akb {m:Lm} {s:Ld} {x:Nat} (h:x∈(LX m.ba m.a s.acs.length m.c m.full m.bd m.b s.nx m.o).map (fun x:Nat × Obj=>x.1)):x∈CW m s:=List.mem_cons_of_mem _ (List.mem_cons_of_mem _ h)
set_option maxRecDepth 20000 in
set_option maxHeartbeats 1000000 in
theorem QT {m:Lm} {s:Ld} {T:Nat→Prop} {k:Ak} (hk:k.kd=10∨k.kd=11) (_hin:AkIn k) (w:World) (I:LdIn w m s T) (H0:Ctx w (CW m s) w (LL m s)) :
  Ret Tryz.prog 63 #[ptr m.bl,.agg (BV k).toArray] w (Gb w m s T k):=by
 obtain ⟨w0,rfl⟩:∃ w0,w0=w:=⟨_,rfl⟩;obtain ⟨bl,ba,bd,br,b,a,c,full,o,arch⟩:=m;obtain ⟨S0,hS0⟩:∃ S,S=CW ⟨bl,ba,bd,br,b,a,c,full,o,arch⟩ s:=⟨_,rfl⟩;have H:Ctx w0 S0 w0 ((bl,Bl 106 [ptr ba,ptr bd,ptr br,.int .i64 s.day])::(br,Bl 168 arch)::(ba,Bl 162 [.slice a s.acs.length c])::(bd,Bl 165 (DU b s.nx))::(b,o)::ent a 43 full):=by rw [hS0]; exact H0
 have hn16:=(BZ.1 I.ok.ac).1;have hbdb:bd≠b:=H.ne (i:=3) (j:=4) rfl rfl (by decide);have hno:0≤s.no∧s.no≤4611686018427387904:=by have:=I.ok.kept; omega
 have hstep:∀ s' p,((4611686018427387904≤s.no∧s'=s∧p=⟨6,[]⟩) ∨
  (s.no<4611686018427387904∧∃ r,PlanR s.acs s.ds (decide (k.kd=11)) r∧s'=MT s r ∧
   p=⟨0,[IntKind.i64.wrap (s.no+1),EF (opn s.ds) r.fl (opn s.ds).length,IZ (r.fl.take (opn s.ds).length) (opn s.ds).length]⟩))→C6 s k s' p:=fun s' p h=>by
  unfold C6;rw [if_pos hk];exact h
 obtain ⟨h64,-,h3d,htot⟩:=Ep I.ok.du;have hBr:=Lo I.ok.ac I.ok.du I.ok.bk;have hbr:D3 (s.acs.map Dq) s.ds=true:=(HK).2 hBr;refine Aw (fn:=Tryz.f63) Tryz.func63 U [.pointer (some ⟨bl,0,none⟩),.agg (BV k).toArray] U (by kernel_rfl) ?_;refine Af (Bv (BV k) (.agg _) U U H ?_);rintro b3 w - H;refine A1 U (Ad U (Ab (Aa (Aq (Af (Ay U (A9 U (Ag IF U (AM M9 U H at1 U (Al Aft (Ab7 _ (H.get at2) I.no) U ?_))))))))));rintro v w ⟨rfl,hx19⟩;replace H:=H.call hx19;refine C4 U U (Ab (Aa (Ap _ U ?_ ?_)))
 ·intro h1;replace h1:=AJ h1;refine Af (A1 U (Ad U (Ab (Aa (A4 (Ao (BL (v1:=(.slice _ _ _)) (v2:=(.int _ _)) U U U U ?_)))))));subst hS0;exact DF (P:=[_]) (m':=⟨bl,ba,bd,br,b,a,c,full,o,arch⟩) (s':=s) (l:=[]) (code:=6) I H (HS _) (hstep _ _ (.inl ⟨h1,rfl,rfl⟩)) I.O I.M I.ok U U U U
 ·intro h1;replace h1:=AK h1;have hno1:s.no<4611686018427387904:=by omega
  refine Au (Aa (DC 68717379776 (α:=Nat × Rnd × RSl × Int) (fun z=>[(6,ptr z.1),(7,.int .i64 z.2.2.2)]) (fun z w'=>z.2.2.2=0∧PlanR s.acs s.ds (decide (k.kd=11)) z.2.1∧RAt w' z.2.1 z.2.2.1∧ROff z.2.2.1 z.2.1 (fun x=>x<w0.heap.size∨x=z.1)∧Ctx w0 S0 w' ((z.1,Bl 55 (BK z.2.1 z.2.2.1))::(b3,Bl 40 (BV k))::(bl,Bl 106 [ptr ba,ptr bd,ptr br,.int .i64 s.day])::(br,Bl 168 arch)::(ba,Bl 162 [.slice a s.acs.length c])::(bd,Bl 165 (DU b s.nx))::(b,o)::ent a 43 full)) U ?_ ?_))
  ·skip
   refine NW (.two [0,1,2,3,4,5,6,7,8,9,10] 11 (.one [12,13,14] 15 (.one [] 16 (.one [] 17 .stop))) 15 (.one [] 11 (.one [12,13,14] 16 (.one [] 17 .stop)))) (fun z=>z.heap[b3]? = some (Bl 40 (BV k))∧z.heap[bl]? = some (Bl 106 [ptr ba,ptr bd,ptr br,.int .i64 s.day])) Bs (by kernel_rfl) (⟨H.drew.get at0,H.drew.get at1⟩) ?_;refine It U U U ?_;refine BD U (Bd U (An U F3 U (B0 Ig U (fun _ hx=>(by rw [Aj hx.2]; rfl)) ?_)));refine BD U (Bd U (An U EH U (B0 Fw U (fun _ hx=>(by rw [Aj hx.2]; rfl)) ?_)));refine An U RB U (B0 ag_5 U (fun _ hx=>(by rw [Aj hx.1]; rfl)) ?_);refine t_eql U U U (AP ?_);replace H:=H.drew;refine ⟨?_,?_⟩
   ·skip
    refine Al YG (W1 I.ok.ac I.ok.du (decide (k.kd=11)) _ ⟨a,c,H.get at3,OS.rd (t:=43) I.O (fun y hy=>H.blk y (List.mem_append_right [_,_,_,_,_,_] hy)) (fun _ _=>rfl) (by decide)⟩ ⟨b,s.nx,o,H.get at4,H.get at5,I.M⟩) U ?_;rintro v w ⟨hx33,⟨hb,-⟩ | ⟨-,r,q,rfl,P,RA,hoff⟩⟩
    (rw [hbr] at hb; cases hb)
    have hsz:=H.size;have H9:=H.call hx33;have hsz9:=hx33.size;clear H;obtain ⟨w9,rfl⟩:∃ z,z=w:=⟨_,rfl⟩;have H:=Ctx.start w9 [];refine Ab (BP (by exact ⟨H.ext.to (H9.get at0) (by simp),H.ext.to (H9.get at1) (by simp)⟩) ?_);refine BO U U ?_;refine DA U (Bu U U (Bu U U (AP (AX Gg H ?_))));rintro b6 w - H;refine Ab (BP (by exact ⟨H.ext.to (H9.get at0) (by simp),H.ext.to (H9.get at1) (by simp)⟩) ?_);refine BO U U ?_;refine AP (Bm Dh U U U (by exact (by simp [AO])) H at0 U ?_);rintro w H;refine Ab (BP (by exact ⟨H.ext.to (H9.get at0) (by simp),H.ext.to (H9.get at1) (by simp)⟩) ?_);refine BO U U ?_;refine AP (Ad U (Ab (BP (by exact ⟨H.ext.to (H9.get at0) (by simp),H.ext.to (H9.get at1) (by simp)⟩) ?_)));refine DT ?_;refine Aa ?_;have hb6:w9.heap.size≤b6:=(H.own _ (List.mem_cons_self ..)).elim (fun h=>by cases h) id
    exact ⟨(b6,r,q,0),rfl,⟨rfl,rfl,trivial⟩,rfl,P,RA.ext0 H.ext,(hoff.or RA.lt).mono fun x hx=>hx.elim (fun h => .inl (Nat.lt_of_lt_of_le h hsz)) (fun h => .inr (h ▸ hb6)),Ctx.mid (B:=[]) (L:=[]) H9 H⟩
   ·skip
    refine AX Gg H ?_;rintro b6 w - H;refine Ab (BP (by exact ⟨H.get at1,H.get at2⟩) ?_);refine BO U U ?_;refine AP (Al YG (W1 I.ok.ac I.ok.du (decide (k.kd=11)) _ ⟨a,c,H.get at4,OS.rd (t:=43) I.O (fun y hy=>H.blk y (List.mem_append_right [_,_,_,_,_,_,_] hy)) (fun _ _=>rfl) (by decide)⟩ ⟨b,s.nx,o,H.get at5,H.get at6,I.M⟩) U ?_);rintro v w ⟨hx33,⟨hb,-⟩ | ⟨-,r,q,rfl,P,RA,hoff⟩⟩
    (rw [hbr] at hb; cases hb)
    have hsz:=H.size;have hlt:=Ba (H.get at0);have H9:=H.call hx33;clear H;obtain ⟨w9,rfl⟩:∃ z,z=w:=⟨_,rfl⟩;have H:=Ctx.start1 (H9.get at0);refine Ab (BP (by exact ⟨H.ext.to (H9.get at1) (by rw [List.mem_singleton]; exact H9.ne (i:=1) (j:=0) rfl rfl (by decide)),H.ext.to (H9.get at2) (by rw [List.mem_singleton]; exact H9.ne (i:=2) (j:=0) rfl rfl (by decide))⟩) ?_);refine BO U U ?_;refine DA U (Bu U U (Bu U U (AP (Bm Dh U U U (by exact (by simp [AO])) H at0 U ?_))));rintro w H;refine Ab (BP (by exact ⟨H.ext.to (H9.get at1) (by rw [List.mem_singleton]; exact H9.ne (i:=1) (j:=0) rfl rfl (by decide)),H.ext.to (H9.get at2) (by rw [List.mem_singleton]; exact H9.ne (i:=2) (j:=0) rfl rfl (by decide))⟩) ?_);refine BO U U ?_
    refine AP (Ad U (Ab (BP (by exact ⟨H.ext.to (H9.get at1) (by rw [List.mem_singleton]; exact H9.ne (i:=1) (j:=0) rfl rfl (by decide)),H.ext.to (H9.get at2) (by rw [List.mem_singleton]; exact H9.ne (i:=2) (j:=0) rfl rfl (by decide))⟩) ?_)));refine DT ?_;refine Aa ?_;exact ⟨(b6,r,q,0),rfl,⟨rfl,rfl,trivial⟩,rfl,P,RA.ext H.ext (hoff.mono fun x hx=>by rw [List.mem_singleton.1 hx]; exact hlt),hoff.mono fun x hx=>hx.elim (fun h=>Nat.lt_of_lt_of_le h hsz) (fun h=>by rw [h]; exact hlt),Ctx.mid (B:=[]) (L:=[_]) H9 H⟩
  ·rintro ⟨b6,r,q,e7⟩ j7 w ⟨he7,P,RA,hoff,H⟩;dsimp only at he7 P RA hoff H;obtain ⟨hC,hokR⟩:=Vt I.ok P (hno:=hno1);have F0:=HM I.ok.ac I.ok.du hC;have hB:=Aby P;have hmy:∀ d∈s.ds,DY d=true:=fun d hd=>((Ga I.ok.du).1 d hd).1;have hids:r.ids.length=(opn s.ds).length:=by rw [P.ids,List.length_map]
   have hol:=Ip s.ds;have hle:(opn s.ds).length≤r.fl.length:=by have:=F0.pay.1; rw [List.length_take] at this; omega
   have hlow:∀ x∈CW ⟨bl,ba,bd,br,b,a,c,full,o,arch⟩ s,x<w0.heap.size:=fun x hx=>I.low x (I.own x hx);have hlx:∀ x∈(LX ba a s.acs.length c full bd b s.nx o).map (fun x:Nat × Obj=>x.1),x<w0.heap.size:=fun x hx=>hlow x (Akb (m:=⟨bl,ba,bd,br,b,a,c,full,o,arch⟩) hx);obtain ⟨xs,hxs⟩:∃ xs,xs=r.fl.take (opn s.ds).length:=⟨_,rfl⟩;have hxl:xs.length=(opn s.ds).length:=by rw [hxs,List.length_take]; omega
   have hmayR:N6 { r with day:=s.day }=true:=by
    unfold N6;dsimp only;rw [P.chk,hids,decide_eq_true (show (opn s.ds).length≤64 by omega),decide_eq_true I.ok.day.1];rfl
   refine Aq (Af (Ae U (C9 U U (Ab (Aa (Ap _ U ?_ ?_))))))
   ·intro h2;replace h2:=CR h2;exact absurd he7 h2
   ·intro h2;replace h2:=CS h2;refine Au (Aa (Af (Ay U (A9 U (Ag EH U (AM Fw U H at2 U (Al LF (LV _ (H.get at5) (H.get at6) I.M (Kn I.ok.du)) U ?_)))))));rintro v w ⟨ds',hSd,Fd⟩;have hde:=LZ hSd (J0 h3d).2.1;rw [hde] at Fd;obtain ⟨a3,c3,rfl,R3,hn3,-,hx43⟩:=Mk Fd (fun _ _=>rfl) (by decide);have hl6:=Ba (H.get at0);have hlr:=Ba (H.get at3);have hs43:=H.size;replace RA:=RA.ext0 hx43;replace H:=H.call hx43;refine A1 U (Ab (Aa (Aq ?_)));have hn3':s.ds≠[]→(adr a3).block∉(LX ba a s.acs.length c full bd b s.nx o).map (fun x:Nat × Obj=>x.1):=fun hne hm=>by have:=hn3 hne; have:=hlx _ hm; omega
    refine Cq [([0,1,2,3,4,5,6,7,8],9),([],10)] (fun z=>z.heap[b6]? = some (Bl 55 (BK r q))∧z.heap[bl]? = some (Bl 106 [ptr ba,ptr bd,ptr br,.int .i64 s.day])) [9,10] Bs (by kernel_rfl) (⟨H.drew.get at0,H.drew.get at2⟩) ?_;refine AF U U ?_;refine BD U (Bd U (An U F3 U (B0 Ig U (fun _ hx=>(by rw [Aj hx.2]; rfl)) ?_)));refine BD U (Bd U (An U EH U (B0 Fw U (fun _ hx=>(by rw [Aj hx.2]; rfl)) ?_)));refine G5 _ FT Dh U U (fun _ hx=>(Dr (b:=b6) (t:=55) (l:=BK r q) hx.1 0 (BK r q) rfl)) ?_;refine AP ?_;replace H:=H.drew;replace RA:=RA.ext0 (Ext.drew [] _);replace R3:=R3.ext0 (Ext.drew [] _);replace H:Ctx w0 S0 _ ([(b6,Bl 55 (BK r q)),(b3,Bl 40 (BV k)),(bl,Bl 106 [ptr ba,ptr bd,ptr br,.int .i64 s.day]),(br,Bl 168 arch)]++(LX ba a s.acs.length c full bd b s.nx o++[])):=(by rw [List.append_nil]; exact H)
    refine Al Ag1 (XY I.ok.ac I.ok.du H I.O I.M RA (hoff.mono fun x hx => .inl (hlx x hx)) hB) U ?_;rintro v w ⟨rfl,full',o',O',M',hxA,H7⟩;replace RA:=RA.ext hxA (hoff.mono fun x hx => .inl (hlx x hx));replace R3:=R3.ext' hxA hn3';rw [List.append_nil] at H7;replace H:=H7;refine Ab (Bz U (AF U U ?_));refine AP (Ad U (Ab (Bz U (BH ?_))));obtain ⟨hap1,-,hap3⟩:=MP (r:=r) I.ok.ac I.ok.du;rw [← hap3] at O' H;refine Af (Ae U (C9 U U (Ab (Aa (Ap _ U ?_ ?_)))))
    ·intro h4;replace h4:=CR h4;exact absurd hC h4
    ·intro h4;replace h4:=CS h4;refine Au (Aa (Af (Ag F9 U (Cj _ Df CL U U ((Dr (b:=b6) (t:=55) (l:=BK r q) (H.get at0) 4 [.int .i64 r.N,.slice q.aE r.es.length q.cE] U)) ?_))));refine Ag Gx U (Ag Jo U (AM Cg U H at0 U (Ag Gw U (AM JR U H at0 U (Bi Bx U (Al YH (Wv r.N q.aE q.aF _ _ _ _ _ r.fl _ RA.F U RA.fc hB.fl) U ?_))))));rintro v w Fp;rw [show Sh ((r.ids.length:Nat):Int) r.fl.length=(opn s.ds).length by unfold Sh; omega,← hxs,← Yw] at Fp;obtain ⟨a9,c9,rfl,Rp,hn9,-,hx65⟩:=Mk Fp (fun _ _=>rfl) (by decide);have hp6:=Ba (H.get at0);have hpr:=Ba (H.get at3);replace RA:=RA.ext0 hx65;replace R3:=R3.ext0 hx65;replace H:=H.call hx65;refine A1 U (Ab (Aa (Af (Ad U (Ab (Aa (Aq (Af (A3 U (Bi Bg U (Ae U ?_)))))))))));refine Ab (Aa (A0 ?_));have H8:=H;obtain ⟨w1,rfl⟩:∃ z,z=w:=⟨_,rfl⟩;clear H;have H:=Ctx.start w1 []
     refine Bt 150820579546649294022656 (α:=Nat) (fun i=>[(11,.int .i64 (IZ xs i)),(68,.int .i64 (i:Int))]) (fun i w'=>i≤xs.length∧Ctx w1 [] w' []) (fun i=>xs.length - i) 0 U ?_ ?_ ?_
     ·exact ⟨rfl,rfl,trivial⟩
     ·exact ⟨Nat.zero_le _,H⟩
     ·clear H;rintro i j w ⟨hi,H⟩;refine Af (Bj U U (Ab (Aa (Aq (Ap _ U ?_ ?_)))))
      ·intro h5;replace h5:=AJ h5;obtain ⟨x,hx⟩:=A8 (l:=xs) (i:=i);have hsb:=Ui xs i;have hst:=Yj xs hx;refine Au (Aa (Aq (A0 (Af (AS (Rp.ext0 H.ext) Bg B6 U U (by rfl) ?_)))));refine AZ Bw U (((Rp.ext0 H.ext).one (f:=Ee) hx)) ?_;refine Ad U (Ab (Aa (Af (Ae U (Cs U U (Ab (Aa (Ap _ U ?_ ?_))))))))
       ·intro h6;replace h6:=AJ h6;refine Az (Ae U (Ax U U ?_));refine Ad U (Ab (A5 (Aa (Az (Ax U U ?_)))));refine Ae U (Ab (Aa ?_));exact ⟨i+1,rfl,⟨congrArg (Value.int .i64) (by rw [hst,if_pos h6]),rfl,trivial⟩,⟨by omega,H⟩,by omega⟩
       ·intro h6;replace h6:=AK h6;refine Au (A5 (Aa (Az (Ax U U ?_))));refine Ae U (Ab (Aa ?_));exact ⟨i+1,rfl,⟨congrArg (Value.int .i64) (by rw [hst,if_neg h6,Int.add_zero]),rfl,trivial⟩,⟨by omega,H⟩,by omega⟩
      ·intro h5;replace h5:=AK h5;obtain rfl:i=xs.length:=by omega
       replace RA:=RA.ext0 H.ext;replace R3:=R3.ext0 H.ext;replace Rp:=Rp.ext0 H.ext;replace H8:=H8.call H.ext;clear H;obtain ⟨w2,rfl⟩:∃ z,z=w:=⟨_,rfl⟩;have H:=Ctx.start1 (H8.get at0);refine Bq (Am (Am (AG (Aa (Af (Ay U (A9 U (Ag JT U (AZ Bw U ((H.old (Aj (H8.get at2) _) (by rw [List.mem_singleton]; exact H8.ne (i:=2) (j:=0) rfl rfl (by decide)))) ?_)))))))));refine Ag NE U (Cp (.int _ _) B6 U U U H at0 (by (simp; done)) ?_);rintro w H;refine Ab (Aa ?_);replace RA:=RA.ext H.ext (hoff.mono fun x hx=>by rw [List.mem_singleton.1 hx]; exact .inr rfl);replace R3:=R3.ext' H.ext (fun hne hm=>by have:=hn3 hne; rw [List.mem_singleton.1 hm] at this; omega);replace Rp:=Rp.ext' H.ext (fun hne hm=>by have:=hn9 hne; rw [List.mem_singleton.1 hm] at this; omega);replace H:Ctx w2 [b6] w [(b6,Bl 55 (BK { r with day:=s.day } q))]:=H;replace H:=Ctx.mid (B:=[]) (L:=[_]) H8 H;clear H8
       refine Cq [([0,1,2,3,4],5),([6,7,8,9],10)] (fun z=>z.heap[b6]? = some (Bl 55 (BK { r with day:=s.day } q))∧z.heap[bl]? = some (Bl 106 [ptr ba,ptr bd,ptr br,.int .i64 s.day])) [5,10] Bs (by kernel_rfl) (⟨H.drew.get at0,H.drew.get at2⟩) ?_;refine AF U U ?_;refine BD U (Bd U (An U IF U (B0 M9 U (fun _ hx=>(by rw [Aj hx.2]; rfl)) ?_)));refine G5 _ FT Dh U U (fun _ hx=>(Dr (b:=b6) (t:=55) (l:=BK { r with day:=s.day } q) hx.1 0 (BK { r with day:=s.day } q) rfl)) ?_;refine AP ?_;replace H:=H.drew;replace RA:=RA.ext0 (Ext.drew [] _);replace R3:=R3.ext0 (Ext.drew [] _);replace Rp:=Rp.ext0 (Ext.drew [] _);have hsA:=H.size;refine Al Ag2 (Ae4 (n:=s.rn.length) (no:=s.no) (arch:=arch) { r with day:=s.day } q _ (RA.no r.no s.day) (hB.no r.no s.day) (H.get at3) I.len I.n I.no I.ok.kept.1 ⟨hno.1,hno1⟩ hmayR) U ?_;rintro v w ⟨rfl,q2,H7,RA2,hoff2⟩
       replace R3:=R3.ext' H7.ext (fun hne hm=>by have:=hn3 hne; rw [List.mem_singleton.1 hm] at this; omega);replace Rp:=Rp.ext' H7.ext (fun hne hm=>by have:=hn9 hne; rw [List.mem_singleton.1 hm] at this; omega);replace H:=Ctx.mid (B:=[_,_,_]) (L:=[_]) H H7;refine Ab (Bz U (AF U U ?_));refine DA U (Bu U U (Bu U U (Kw U U (AP (Ad U (Ab (Bz U (BH ?_))))))));have H8:=H;obtain ⟨wB,rfl⟩:∃ z,z=w:=⟨_,rfl⟩;clear H;have H:=Ctx.start wB [];refine Af (Ae U (G3 U U EV Xh ?_));refine A3 U (A3 U (Al Ag3 (Acd a3 a9 _ _ _ _ s.ds xs _ R3 U Rp U (hxs ▸ F0.pay) (fun d hd=>hmy d (List.mem_filter.1 hd).1) (Int.le_trans (Wz fun d hd=>by have:=Dc (hmy d hd); omega) htot)) U ?_));rintro v w ⟨rfl,hx95⟩;replace H:=H.call hx95
       refine Ae U (D9 ([s.no+1,EF (opn s.ds) xs (opn s.ds).length,IZ xs xs.length].map Ee) Bg B6 EK (by decide) (by decide) (by kernel_rfl) H ?_);rintro b97 w - H;refine Ae U (A1 U (Ad U (Ab (Aa (A4 (BL (v1:=(.slice _ _ _)) (v2:=(.int _ _)) U U U U ?_))))));have H17:=H;have hw:IntKind.i64.wrap (s.no+1)=s.no+1:=CJ (show (-9223372036854775808:Int)≤s.no+1 by omega) (show s.no+1≤(9223372036854775807:Int) by omega);subst hS0;exact Ae6 (P:=[_,_]) (m':=⟨bl,ba,bd,br,b,a,c,full',o',Ja arch s.rn.length { r with no:=s.no+1,day:=s.day } q2⟩) (s':=MT s r) (l:=[s.no+1,EF (opn s.ds) xs (opn s.ds).length,IZ xs xs.length]) (code:=0) H8 (Gs (n:=3) H17 U) (hstep _ _ (.inr ⟨hno1,r,P,rfl,by rw [hw,hxl,hxs,Vr _ (Nat.le_refl _)]; rfl⟩)) (I.rnd (H8.ext.then H17.ext (by simp)) I.own hokR O' M' (RA2.ext0 H17.ext) hoff2 hsA) U
end Go.Proofs.YtdagmpmdcgedcaaGreat
namespace Go.Proofs.YtdagmpmdcgedcaaGreat
open Go.GV
attribute [local irreducible] AB W Wq Wt
def Agc (w:World) (m:Lm) (s:Ld) (T:Nat→Prop) (k:Ak) (v:Value) (w':World):Prop :=
 ∃ a n c full p s' m' T',v = .agg #[.int .i64 p.e,.slice a n c]∧OS a n c 1 full (p.n.map Ee)∧C6 s k s' p∧Ctx w (CW m s) w' (LL m' s'++ent a 2 full)∧LdIn w' m' s' T'∧Grows T T' w∧m'.bl=m.bl
abbrev fnV (f:FuncId):Value := .func (.func f) #[] #[]
abbrev doT:List Value:=[.nilFunc,fnV 54,fnV 55,fnV 56,fnV 57,fnV 58,fnV 59,fnV 60,fnV 61,fnV 62,fnV 63,fnV 63,fnV 64,fnV 65,fnV 66,fnV 67]
def DoFn (k:Ak) (f:FuncId):Prop:=doT[k.kd.toNat]? = some (fnV f)∧Av Tryz.prog f=true∧∀ {m:Lm} {s:Ld} {T:Nat→Prop} (w:World) (_:LdIn w m s T) (_:Ctx w (CW m s) w (LL m s)),Ret Tryz.prog f #[ptr m.bl,.agg (BV k).toArray] w (Gb w m s T k)
theorem Akc {k:Ak} (hin:AkIn k) (h0:k.kd≠0) (h16:k.kd<16:=by omega):∃ f,DoFn k f:=by
 have hkd:=hin.kd;have hc:k.kd=1∨k.kd=2∨k.kd=3∨k.kd=4∨k.kd=5∨k.kd=6∨k.kd=7∨k.kd=8∨k.kd=9∨k.kd=10∨k.kd=11∨k.kd=12∨k.kd=13∨k.kd=14∨k.kd=15:=by omega
 rcases hc with h | h | h | h | h | h | h | h | h | h | h | h | h | h | h
 ·exact ⟨_,by rw [h]; rfl,ca_54,fun w I H=>Ab4 h hin w I H⟩
 ·exact ⟨_,by rw [h]; rfl,ca_55,fun w I H=>Abz h hin w I H⟩
 ·exact ⟨_,by rw [h]; rfl,ca_56,fun w I H=>Ab0 h hin w I H⟩
 ·exact ⟨_,by rw [h]; rfl,ca_57,fun w I H=>Ae0 h hin w I H⟩
 ·exact ⟨_,by rw [h]; rfl,ca_58,fun w I H=>Ae1 h hin w I H⟩
 ·exact ⟨_,by rw [h]; rfl,ca_59,fun w I H=>Ab1 h hin w I H⟩
 ·exact ⟨_,by rw [h]; rfl,ca_60,fun w I H=>Ud h hin w I H⟩
 ·exact ⟨_,by rw [h]; rfl,ca_61,fun w I H=>Vy h hin w I H⟩
 ·exact ⟨_,by rw [h]; rfl,ca_62,fun w I H=>Ab5 h hin w I H⟩
 ·exact ⟨_,by rw [h]; rfl,Afu,fun w I H=>QT (.inl h) hin w I H⟩
 ·exact ⟨_,by rw [h]; rfl,Afu,fun w I H=>QT (.inr h) hin w I H⟩
 ·exact ⟨_,by rw [h]; rfl,ca_64,fun w I H=>Ab2 h hin w I H⟩
 ·exact ⟨_,by rw [h]; rfl,ca_65,fun w I H=>Yg h hin w I H⟩
 ·exact ⟨_,by rw [h]; rfl,ca_66,fun w I H=>Ae2 h hin w I H⟩
 ·exact ⟨_,by rw [h]; rfl,ca_67,fun w I H=>Yi h hin w I H⟩
theorem Ace {s:Ld} {k:Ak} (h:k.kd=0∨16≤k.kd):C6 s k s ⟨1,[]⟩:=by
 have h1:EN s k=s:=by
  unfold EN;rw [if_neg (by omega),if_neg (by omega),if_neg (by omega),if_neg (by omega),if_neg (by omega),if_neg (by omega),if_neg (by omega),if_neg (by omega),if_neg (by omega)]
 have h2:Fq s k=⟨1,[]⟩:=by
  unfold Fq;rw [if_neg (by omega),if_neg (by omega),if_neg (by omega),if_neg (by omega),if_neg (by omega),if_neg (by omega),if_neg (by omega),if_neg (by omega),if_neg (by omega),if_neg (by omega),if_neg (by omega),if_neg (by omega),if_neg (by omega)]
 unfold C6;rw [if_neg (by omega)];exact ⟨h1.symm,h2.symm⟩
theorem V1 {w w':World} {m m':Lm} {s s':Ld} {T T':Nat→Prop} {k:Ak} {P:List (Nat × Obj)} {a:Option Addr} {n c:Nat} {full:List Value} {p:Rp} (_I:LdIn w m s T) (H:Ctx w (CW m s) w' (P++(LL m' s'++ent a 2 full))) (O:OS a n c 1 full (p.n.map Ee)) (hst:C6 s k s' p) (I7:LdIn w' m' s' T') (g:Grows T T' w) (hbl:m'.bl=m.bl) :
  Agc w m s T k (.agg #[.int .i64 p.e,.slice a n c]) w':=⟨a,n,c,full,p,s',m',T',rfl,O,hst,H.right,I7,g,hbl⟩
abbrev dL:List Nat:=[23,24,25,26,27,28,29,22,30,31,6]
theorem Akd:∀ i j,i<11→j<11→dL.getD i 0=dL.getD j 0→i=j:=fun i j hi hj h=>by
 have h1:∀ a b:Fin 11,dL.getD a.val 0=dL.getD b.val 0→a=b:=by decide
 exact congrArg Fin.val (h1 ⟨i,hi⟩ ⟨j,hj⟩ h)
abbrev dA:Nat→List Nat:=ancT 11 [[],[0],[0,1],[0,1,2],[],[],[0,1,2,3,4,5],[0,1,2,3,4,5,6],[0,1,2,3,4,5,6,7],[0,1,2,3,4,5,6,7],[0,1,2,3,4,5,6,7,8]]
def gD (b3 b5 bl:Nat) (k:Ak) (f:FuncId) (R:Value→Value→World→Prop):Nat→(Nat→Value)→World→Prop
 | 0,V,_=>V 0 = .pointer (some ⟨b3,0+0,none⟩)
 | 1,V,_=>V 1 = .int .u8 k.kd
 | 2,V,_=>V 2 = .pointer (some ⟨b5,0+k.kd.toNat*1,none⟩)
 | 3,V,_=>V 3=fnV f
 | 4,V,_=>V 4 = .pointer (some ⟨bl,0,none⟩)
 | 5,V,_=>V 5 = .agg (BV k).toArray
 | 6,V,w=>∃ x y,V 6 = .tuple #[x,y]∧R x y w
 | 7,V,_=>V 7=V 6
 | 8,V,_=>∃ x y,V 7 = .tuple #[x,y]∧V 8=x
 | 9,V,_=>∃ x y,V 7 = .tuple #[x,y]∧V 9=y
 | 10,V,_=>V 10=V 8
 | _,_,_=>True
theorem Ake {b3 b5 bl:Nat} {k:Ak} {f:FuncId} {R:Value→Value→World→Prop}:∀ (i j:Nat) (v:Value) (V:Nat→Value) (w:World),i<11→j≠i→j∉dA i→gD b3 b5 bl k f R i V w→gD b3 b5 bl k f R i (LC V j v) w
 | 0,j,v,V,w,_,h1,_,h=>(D0 (Ne.symm h1)).trans h
 | 1,j,v,V,w,_,h1,_,h=>(D0 (Ne.symm h1)).trans h
 | 2,j,v,V,w,_,h1,_,h=>(D0 (Ne.symm h1)).trans h
 | 3,j,v,V,w,_,h1,_,h=>(D0 (Ne.symm h1)).trans h
 | 4,j,v,V,w,_,h1,_,h=>(D0 (Ne.symm h1)).trans h
 | 5,j,v,V,w,_,h1,_,h=>(D0 (Ne.symm h1)).trans h
 | 6,j,v,V,w,_,h1,_,h=>by
  obtain ⟨x,y,h3,h4⟩:=h;exact ⟨x,y,(D0 (Ne.symm h1)).trans h3,h4⟩
 | 7,j,v,V,w,_,h1,h2,h=>by
  have h6:j≠6:=fun e=>h2 (by rw [e]; decide);exact ((D0 (Ne.symm h1)).trans h).trans (D0 (Ne.symm h6)).symm
 | 8,j,v,V,w,_,h1,h2,h=>by
  have h7:j≠7:=fun e=>h2 (by rw [e]; decide);obtain ⟨x,y,h3,h4⟩:=h;exact ⟨x,y,(D0 (Ne.symm h7)).trans h3,(D0 (Ne.symm h1)).trans h4⟩
 | 9,j,v,V,w,_,h1,h2,h=>by
  have h7:j≠7:=fun e=>h2 (by rw [e]; decide);obtain ⟨x,y,h3,h4⟩:=h;exact ⟨x,y,(D0 (Ne.symm h7)).trans h3,(D0 (Ne.symm h1)).trans h4⟩
 | 10,j,v,V,w,_,h1,h2,h=>by
  have h8:j≠8:=fun e=>h2 (by rw [e]; decide);exact ((D0 (Ne.symm h1)).trans h).trans (D0 (Ne.symm h8)).symm
 | i+11,_,_,_,_,h,_,_,_=>by omega
theorem gD_w {b3 b5 bl:Nat} {k:Ak} {f:FuncId} {R:Value→Value→World→Prop}:∀ (i:Nat) (V:Nat→Value) (w w':World),i<11→i≠6→6∉dA i→gD b3 b5 bl k f R i V w→gD b3 b5 bl k f R i V w'
 | 0,_,_,_,_,_,_,h=>h
 | 1,_,_,_,_,_,_,h=>h
 | 2,_,_,_,_,_,_,h=>h
 | 3,_,_,_,_,_,_,h=>h
 | 4,_,_,_,_,_,_,h=>h
 | 5,_,_,_,_,_,_,h=>h
 | 6,_,_,_,_,h,_,_=>absurd rfl h
 | 7,_,_,_,_,_,_,h=>h
 | 8,_,_,_,_,_,_,h=>h
 | 9,_,_,_,_,_,_,h=>h
 | 10,_,_,_,_,_,_,h=>h
 | i+11,_,_,_,h,_,_,_=>by omega
structure DoZ where
 a:Option Addr
 n:Nat
 c:Nat
 full:List Value
 code:Int
 l:List Int
 s:Ld
 m:Lm
set_option maxRecDepth 20000 in
set_option maxHeartbeats 1000000 in
theorem do_ok {m:Lm} {s:Ld} {T:Nat→Prop} {k:Ak} (hin:AkIn k) (w:World) (I:LdIn w m s T) (H0:Ctx w (CW m s) w (LL m s)) :
  Ret Tryz.prog 18 #[ptr m.bl,.agg (BV k).toArray] w (Agc w m s T k):=by
 obtain ⟨w0,rfl⟩:∃ w0,w0=w:=⟨_,rfl⟩;have hkd:=hin.kd;obtain ⟨S0,hS0⟩:∃ S,S=CW m s:=⟨_,rfl⟩;have H:Ctx w0 S0 w0 (LL m s):=by rw [hS0]; exact H0
 refine Aw (fn:=Tryz.f18) Tryz.func18 U [.pointer (some ⟨m.bl,0,none⟩),.agg (BV k).toArray] U (by kernel_rfl) ?_;refine Af (Bv (BV k) (.agg _) U U H ?_);rintro b3 w - H;refine AX KO H ?_;rintro b4 w - H;refine Ab (Aa (Aq (Af (Ay U (Co OJ U ?_)))));refine Ab (Aa (Ap _ U ?_ ?_))
 ·intro h1;cases h1
 ·intro h1;refine Au (Aa (Af (WZ doT U YD Zq Zt (by kernel_rfl) ?_)));refine AX Zt H ?_;rintro b5 w - H;refine Bm Ajb U U U (by exact (by simp [AO])) H at0 U ?_;rintro w H;refine Ab (Aa (Aq (Af (BU (α:=Unit) 2093056 (fun _=>[(20,.bool ((decide (k.kd=0) || decide (16≤k.kd))))]) (fun _ w'=>Ctx w0 S0 w' ((b5,Bl 113 doT)::(b4,Bl 37 [.int .i64 0,.slice none 0 0])::(b3,Bl 40 (BV k))::LL m s)) U ?_ ?_))))
  ·refine Ag RB U (AM ag_5 U H at2 U (Cf U U (AE U (AY 15 U ?_ ?_))))
   ·intro h1;replace h1:=AJ h1;refine Ah U (Ah U (Ah U (Ah U (AN U (.bool _) U (Ab ?_)))));exact ⟨rfl,(),rfl,⟨congrArg Value.bool (by rw [Bool.eq_iff_iff]; simp_all; try omega),trivial⟩,H⟩
   ·intro h2;replace h2:=AK h2;refine Ag RB U (AM ag_5 U H at2 U (G3 U U un_5 OM ?_));refine C4 U U (AU U (.bool _) U (Ab ?_));exact ⟨rfl,(),rfl,⟨congrArg Value.bool (by rw [Bool.eq_iff_iff]; simp_all; try omega),trivial⟩,H⟩
  rintro - j20 w H;refine Ap _ U ?_ ?_
  ·intro h2;have h2':k.kd=0∨16≤k.kd:=by simpa using h2
   refine Af (B1 [.int .i64 1,.slice none 0 0] Zo KO (by kernel_rfl) ?_);refine Bm Hs U U U (by exact (by simp [AO])) H at1 U ?_;rintro w H;refine Ab (Aa (A4 (Ao (L7 U U U VI Hs H at1 U ?_))));have H17:=H;subst hS0;exact V1 (P:=[_,_,_]) (m':=m) (s':=s) (T':=T) (p:=⟨1,[]⟩) (full:=[]) I (H17.app_nil) OS.nil (Ace h2') (I.grow H17.ext (fun x hx => .inl (I.own x hx)) (Grows.refl _ _) fun x hx=>Nat.lt_of_lt_of_le (I.low x hx) H17.size) (Grows.refl _ _) U
  ·intro h2;have h2':¬ (k.kd=0∨16≤k.kd):=by simpa using h2
   obtain ⟨f,hf1,hf2,hf3⟩:=Akc hin (fun h=>h2' (.inl h))
   have hown:∀ x,x∈[b5,b4,b3]→T x∨w0.heap.size≤x:=fun x hx=>by
    simp only [List.mem_cons,List.not_mem_nil,or_false] at hx
    rcases hx with rfl | rfl | rfl
    ·exact (H.own (_,_) (List.mem_of_getElem? at0)).imp_left fun h=>I.own _ (hS0 ▸ h)
    ·exact (H.own (_,_) (List.mem_of_getElem? at1)).imp_left fun h=>I.own _ (hS0 ▸ h)
    ·exact (H.own (_,_) (List.mem_of_getElem? at2)).imp_left fun h=>I.own _ (hS0 ▸ h)
   have hlt:∀ x,x∈[b5,b4,b3]→x<w.heap.size:=fun x hx=>by
    simp only [List.mem_cons,List.not_mem_nil,or_false] at hx
    rcases hx with rfl | rfl | rfl
    ·exact Ba (H.get at0)
    ·exact Ba (H.get at1)
    ·exact Ba (H.get at2)
   have g1:Grows T (fun x=>T x∨x∈[b5,b4,b3]) w0:=⟨fun x hx => .inl hx,fun x hx=>hx.elim .inl (hown x)⟩;have I1:LdIn w m s (fun x=>T x∨x∈[b5,b4,b3]):=I.grow H.ext (fun x hx => .inl (I.own x (hS0 ▸ hx))) g1 fun x hx=>hx.elim (fun h=>Nat.lt_of_lt_of_le (I.low x h) H.size) (hlt x);refine Au (Aa (DC 4290773184 (α:=DoZ) (fun z=>[(6,.slice z.a z.n z.c),(7,.int .i64 z.code)]) (fun z w'=>OS z.a z.n z.c 1 z.full (z.l.map Ee)∧C6 s k z.s (rp z.l z.code)∧Ctx w0 S0 w' ((b5,Bl 113 doT)::(b4,Bl 37 [.int .i64 0,.slice none 0 0])::(b3,Bl 40 (BV k))::(LL z.m z.s++ent z.a 2 z.full))∧LdIn w' z.m z.s (fun x=>(T x∨x∈[b5,b4,b3])∨x∈CW z.m z.s)∧z.m.bl=m.bl) U ?_ ?_))
   ·skip
    have H9:=H.drew;have I2:=I1.grow (Ext.drew [] _) (fun x hx=>by cases hx) (Grows.refl _ _) I1.low;refine Ac9 (n:=11) (N:=12) (anc:=dA) 6 (fun i=>dL.getD i 0) (gD b3 b5 m.bl k f (fun x y w'=>∃ z:DoZ,x = .slice z.a z.n z.c∧y = .int .i64 z.code∧OS z.a z.n z.c 1 z.full (z.l.map Ee)∧C6 s k z.s (rp z.l z.code)∧Ctx w0 S0 w' ((b5,Bl 113 doT)::(b4,Bl 37 [.int .i64 0,.slice none 0 0])::(b3,Bl 40 (BV k))::(LL z.m z.s++ent z.a 2 z.full))∧LdIn w' z.m z.s (fun x=>(T x∨x∈[b5,b4,b3])∨x∈CW z.m z.s)∧z.m.bl=m.bl)) (show Tryz.prog.follows .mixedOrders=true by kernel_rfl) U (by decide) (by kernel_rfl) (Xf _) (by decide) Akd Ake gD_w ?_ ?_ ?_
    ·intro i o e' w' V hi hic ho hold hg hG hw;have h3:e'.g 3 = .pointer (some ⟨b3,0,none⟩):=(hold 3 ((by decide:∀ j,j<11→3≠dL.getD j 0))).trans rfl;have h5:e'.g 5 = .pointer (some ⟨b5,0,none⟩):=(hold 5 ((by decide:∀ j,j<11→5≠dL.getD j 0))).trans rfl;have h0:e'.g 0 = .pointer (some ⟨m.bl,0,none⟩):=(hold 0 ((by decide:∀ j,j<11→0≠dL.getD j 0))).trans rfl;have hcs:i=0∨i=1∨i=2∨i=3∨i=4∨i=5∨i=7∨i=8∨i=9∨i=10:=by omega
     rcases hcs with rfl | rfl | rfl | rfl | rfl | rfl | rfl | rfl | rfl | rfl
     ·cases Option.some.inj ho;exact Ag (off:=0) (by kernel_rfl) h3 (Ab ⟨_,rfl,rfl,DQ ..⟩)
     ·cases Option.some.inj ho;have hww:=hw (by decide);subst hww;exact AZ ag_5 ((hg 0 (by decide)).trans (hG 0 (by decide))) (v := .int .u8 k.kd) (by rw [Aj (H9.get at2)]; rfl) (Ab ⟨_,rfl,rfl,DQ ..⟩)
     ·cases Option.some.inj ho;exact Nb U YD Zq h5 ((hg 1 (by decide)).trans (hG 1 (by decide))) (Ab ⟨_,rfl,rfl,DQ ..⟩)
     ·cases Option.some.inj ho;have hww:=hw (by decide);subst hww;exact AZ Agm ((hg 2 (by decide)).trans (hG 2 (by decide))) (v:=fnV f) (by rw [Aj (H9.get at0),Nat.zero_add,Nat.mul_one]; exact hf1) (Ab ⟨_,rfl,rfl,DQ ..⟩)
     ·cases Option.some.inj ho;exact Da U _ h0 (Ab ⟨_,rfl,rfl,DQ ..⟩)
     ·cases Option.some.inj ho;have hww:=hw (by decide);subst hww;exact Cj (BV k) Qr IH h3 U (Dr (b:=b3) (t:=40) (l:=BV k) (H9.get at2) 0 (BV k) U) (Ab ⟨_,rfl,rfl,DQ ..⟩)
     ·cases Option.some.inj ho;exact Da U (V 6) (hg 6 (by decide)) (Ab ⟨_,rfl,rfl,(DQ ..).trans (D0 (by decide)).symm⟩)
     ·cases Option.some.inj ho;obtain ⟨x,y,h6,-⟩:=hG 6 (by decide);have h7:V 7 = .tuple #[x,y]:=(hG 7 (by decide)).trans h6;exact A6 (v:=x) ((hg 7 (by decide)).trans h7) U (Ab ⟨_,rfl,rfl,x,y,(D0 (by decide)).trans h7,DQ ..⟩)
     ·cases Option.some.inj ho;obtain ⟨x,y,h6,-⟩:=hG 6 (by decide);have h7:V 7 = .tuple #[x,y]:=(hG 7 (by decide)).trans h6;exact A6 (v:=y) ((hg 7 (by decide)).trans h7) U (Ab ⟨_,rfl,rfl,x,y,(D0 (by decide)).trans h7,DQ ..⟩)
     ·cases Option.some.inj ho;exact CG U (V 8) (hg 8 (by decide)) (Ab ⟨_,rfl,rfl,(DQ ..).trans (D0 (by decide)).symm⟩)
    ·intro o e' V ho hold hg hG;cases Option.some.inj ho;refine Fz ((hg 3 (by decide)).trans (hG 3 (by decide))) hf2 (hf3 _ I2 (Ctx.lend (Ctx.comm (L:=[_,_,_]) (L':=LL m s) H9))) (show [e'.g 27,e'.g 28]=_ by rw [show e'.g 27=_ from (hg 4 (by decide)).trans (hG 4 (by decide)),show e'.g 28=_ from (hg 5 (by decide)).trans (hG 5 (by decide))]) ?_;rintro v w2 ⟨ar,nr,cr,fr,code,lr,s',m',rfl,Or,hst,H7,hnew,I7,hbl⟩;exact Ab ⟨_,rfl,_,_,DQ ..,⟨ar,nr,cr,fr,code,lr,s',m'⟩,rfl,rfl,Or,hst,(Ctx.back (L1:=LL m s) (Ctx.comm (L:=[_,_,_]) (L':=LL m s) H9) H7).comm,I7,hbl⟩
    ·intro e' w' V hds hold hg hG;obtain ⟨x,y,h6,z,rfl,rfl,hJ⟩:=hG 6 (by decide);obtain ⟨x1,y1,h71,h8⟩:=hG 8 (by decide);obtain ⟨x2,y2,h72,h9⟩:=hG 9 (by decide);have h7:V 7=V 6:=hG 7 (by decide);have h10:V 10=V 8:=hG 10 (by decide);rw [h7,h6] at h71 h72;cases h71;cases h72;refine CG U (.int .i64 z.code) ((hg 9 (by decide)).trans h9) (Ab ?_);exact ⟨z,hds,⟨(Iv (by decide)).trans ((hg 10 (by decide)).trans (h10.trans h8)),ID ..,trivial⟩,hJ⟩
   ·rintro ⟨ar,nr,cr,fr,code,lr,s',m'⟩ j8 w ⟨Or,hst,H8,I7,hbl⟩; dsimp only at Or hst H8 I7 hbl; obtain ⟨w2,rfl⟩:∃ z,z=w:=⟨_,rfl⟩; clear H; have H:=Ctx.start1 (H8.get at1);have hS8:=H8.size
    have g2:Grows T (fun x=>(T x∨x∈[b5,b4,b3])∨x∈CW m' s') w0:=⟨fun x hx => .inl (.inl hx),fun x hx=>hx.elim (fun h=>h.elim .inl (hown x)) fun h=>by
     obtain ⟨y,hy,rfl⟩:=List.mem_map.1 h
     exact (H8.own y (List.mem_append_right [_,_,_] (List.mem_append_left _ hy))).imp_left fun h=>I.own _ (hS0 ▸ h)⟩
    have h4:∀ x∈[b4],((T x∨x∈[b5,b4,b3])∨x∈CW m' s')∨w2.heap.size≤x:=fun x hx=>by rw [List.mem_singleton.1 hx]; exact .inl (.inl (.inr (by simp)))
    refine Aq (Af (Ae U (C9 U U (Ab (Aa (Ap _ U ?_ ?_))))))
    ·intro h3;replace h3:=CR h3;refine Af (Ae U (B1 [.int .i64 code,.slice none 0 0] Zo KO (by kernel_rfl) ?_));refine Bm Hs U U U (by exact (by simp [AO])) H at0 U ?_;rintro w H;refine Ab (Aa (A4 (Ao (L7 U U U VI Hs H at0 U ?_))));have H17:=H;subst hS0;have hp:rp lr code=⟨code,[]⟩:=TV h3;rw [hp] at hst;exact V1 (P:=[_,_,_]) (m':=m') (s':=s') (p:=⟨code,[]⟩) (full:=[]) I (Ctx.app_nil (Ctx.left (L:=(_::_::_::LL m' s')) (Ctx.mid (B:=[_]) (L:=[_]) H8 H17))) OS.nil hst (I7.grow H17.ext h4 (Grows.refl _ _) fun x hx=>Nat.lt_of_lt_of_le (I7.low x hx) H17.size) g2 hbl
    ·intro h3;replace h3:=CS h3;obtain rfl:code=0:=h3;refine Au (Aa (Af (A3 U (B1 [.int .i64 0,.slice ar nr cr] Zo KO (by kernel_rfl) ?_))));refine Bm Hs U U U (by exact (by simp [AO])) H at0 U ?_;rintro w H;refine Ab (Aa (A4 (L7 U U U VI Hs H at0 U ?_)));have H17:=H;subst hS0;exact V1 (P:=[_,_,_]) (m':=m') (s':=s') (p:=⟨0,lr⟩) I (Ctx.mid (B:=[_]) (L:=[_]) H8 H17) Or hst (I7.grow H17.ext h4 (Grows.refl _ _) fun x hx=>Nat.lt_of_lt_of_le (I7.low x hx) H17.size) g2 hbl
end Go.Proofs.YtdagmpmdcgedcaaGreat
namespace Go.Proofs.YtdagmpmdcgedcaaGreat
open Go.GV
attribute [local irreducible] AB W Wq Wt
end Go.Proofs.YtdagmpmdcgedcaaGreat
namespace Go.Proofs.YtdagmpmdcgedcaaGreat
open Go.GV
attribute [local irreducible] AB W Wq Wt
theorem Gc {s s':Ld} {k:Ak} {p:Rp} (h:C6 s k s' p) (hk:¬ (k.kd=10∨k.kd=11)):s'=EN s k∧p=Fq s k:=by
 unfold C6 at h;rw [if_neg hk] at h;exact h
theorem Ctx.did {w0 w w':World} {S:List Nat} {B E:List (Nat × Obj)} {m m':Lm} {s s':Ld} (H:Ctx w0 S w (B++LL m s)) (H7:Ctx w (CW m s) w' (LL m' s'++E)):Ctx w0 S w' ((E++B)++LL m' s'):=by
 have h1:=Ctx.back (L1:=LL m s) (L2:=B) H.comm H7;rw [List.append_assoc] at h1;exact h1.comm
structure Led (bl:Nat) (w0 w:World) (B:List (Nat × Obj)) (m:Lm) (s:Ld) (T:Nat→Prop):Prop where
 H:Ctx w0 [] w (B++LL m s)
 I:LdIn w m s T
 e:m.bl=bl
theorem Led.next {bl:Nat} {w0 w w':World} {B E:List (Nat × Obj)} {m:Lm} {s:Ld} {T:Nat→Prop} (L:Led bl w0 w B m s T) (H:Ctx w [] w' E):Led bl w0 w' (E++B) m s T :=
 ⟨by rw [List.append_assoc]; exact Ctx.back (L1:=[]) (L2:=B++LL m s) L.H H,L.I.grow H.ext (by simp) (Grows.refl _ _) fun x hx=>Nat.lt_of_lt_of_le (L.I.low x hx) H.size,L.e⟩
theorem I9 {bl:Nat} {w0 w:World} {B:List (Nat × Obj)} {m:Lm} {s:Ld} {T:Nat→Prop} {k:Ak} (L:Led bl w0 w B m s T) (hin:AkIn k) :
  Ret Tryz.prog 18 #[ptr bl,.agg (BV k).toArray] w fun v w'=>∃ a n c full p s' m' T',v = .agg #[.int .i64 p.e,.slice a n c]∧OS a n c 1 full (p.n.map Ee)∧C6 s k s' p∧Led bl w0 w' (ent a 2 full++B) m' s' T'∧Grows T T' w∧Ext (CW m s) w w':=by
 obtain ⟨H,I,e⟩:=L;subst e;refine Ret.mono (do_ok hin w I (Ctx.lend (L1:=LL m s) H.comm)) fun v w' h=>?_;obtain ⟨a,n,c,full,p,s',m',T',rfl,O,hst,H7,I7,g,hb⟩:=h;exact ⟨a,n,c,full,p,s',m',T',rfl,O,hst,⟨Ctx.did H H7,I7,hb⟩,g,H7.ext⟩
abbrev ak (kd a b x w u id:Int):Ak:=⟨kd,a,b,x,w,u,id⟩
theorem Ml {kd a b x w u id:Int} (h:(0≤kd∧kd≤255)∧(-9223372036854775808≤a∧a≤9223372036854775807)∧(-9223372036854775808≤b∧b≤9223372036854775807)∧(-9223372036854775808≤x∧x≤9223372036854775807)∧(-9223372036854775808≤w∧w≤9223372036854775807)∧(-9223372036854775808≤u∧u≤9223372036854775807)∧(0≤id∧id≤18446744073709551615)):AkIn ⟨kd,a,b,x,w,u,id⟩:=⟨h.1,h.2.1,h.2.2.1,h.2.2.2.1,h.2.2.2.2.1,h.2.2.2.2.2.1,h.2.2.2.2.2.2⟩
abbrev yA0:List Ac:=[⟨5,0⟩,⟨0,0⟩]
abbrev yA1:List Ac:=[⟨0,0⟩,⟨5,0⟩]
abbrev yD0:List Du:=[⟨1,0,1,9,2,3,false⟩]
abbrev yD1:List Du:=[⟨1,0,1,4,2,3,false⟩]
abbrev yE0:List Ed:=[⟨0,1,9,-2⟩,⟨2,0,5,0⟩,⟨0,2,4503599627370496,0⟩,⟨2,1,0,0⟩,⟨1,2,4503599627370496,0⟩]
end Go.Proofs.YtdagmpmdcgedcaaGreat
namespace Go.Proofs.YtdagmpmdcgedcaaGreat
open Go.GV
attribute [local irreducible] AB W Wq Wt
def KE:Ld:=⟨0,[],[],0,[],0⟩
abbrev KF:StZ:=⟨none,0,none,0,none,0,[]⟩
end Go.Proofs.YtdagmpmdcgedcaaGreat
namespace Go.Proofs.YtdagmpmdcgedcaaGreat
open Go.GV
attribute [local irreducible] AB W Wq Wt
theorem Akf (s:Ld) (a:Ak):(EN s a).no=s.no:=by
 unfold EN
 repeat (first | rfl | split)
theorem Ae7 {s s':Ld} {k:Ak} {p:Rp} (h:C6 s k s' p):s'.no≤s.no+1:=by
 unfold C6 at h
 split at h
 ·rcases h with ⟨-,rfl,-⟩ | ⟨-,r,-,rfl,-⟩
  ·omega
  ·exact Int.le_refl _
 ·rw [h.1,Akf];omega
theorem Ae8 {s s':Ld} {k:Ak} {p:Rp} (h:C6 s k s' p) (hk:k.kd=2):p.e=FO s.acs k.a k.x:=by
 rw [(Gc h (by omega)).2];unfold Fq;rw [if_neg (by omega),if_pos hk,rp_e]
def addF (k:Ak) (p:Rp):Int:=if p.e=0∧k.kd=2 then k.x else 0
def subF (k:Ak) (p:Rp):Int:=if p.e=0∧k.kd=3 then k.x else 0
theorem Led.drop {bl:Nat} {w0 w:World} {B:List (Nat × Obj)} {m:Lm} {s:Ld} {T:Nat→Prop} (L:Led bl w0 w B m s T):Led bl w0 w [] m s T:=⟨L.H.right,L.I,L.e⟩
theorem Led.call {bl:Nat} {w0 w w':World} {B:List (Nat × Obj)} {m:Lm} {s:Ld} {T:Nat→Prop} (L:Led bl w0 w B m s T) (hx:Ext [] w w'):Led bl w0 w' B m s T:=L.next ((Ctx.start w []).call hx)
theorem Led.low {bl:Nat} {w0 w:World} {B:List (Nat × Obj)} {m:Lm} {s:Ld} {T:Nat→Prop} (L:Led bl w0 w B m s T):∀ x∈CW m s,x<w.heap.size:=fun x hx=>L.I.low x (L.I.own x hx)
theorem Gt {bl:Nat} {w0 w:World} {B:List (Nat × Obj)} {m:Lm} {s:Ld} {T:Nat→Prop} (L:Led bl w0 w B m s T) :
  Ret Tryz.prog 17 #[ptr bl] w fun v w'=>Ext [] w w'∧∃ z,v = .agg (stC s z).toArray∧StAt w' s z∧StOff s z (fun x=>x<w.heap.size):=by
 obtain ⟨H,I,e⟩:=L;subst e;exact Yf w I H.right
theorem StOff.grows {s:Ld} {z:StZ} {T T':Nat→Prop} {w:World} (O:StOff s z T) (Z:StAt w s z) (g:Grows T T' w):StOff s z T':=(O.or Z.lt).mono g.2
theorem Ae9 {x:Int} (h:0≤x∧x≤4611686018427387904:=by omega):IntKind.i64.wrap x=x:=CJ (show (-9223372036854775808:Int)≤x by omega) (show x≤(9223372036854775807:Int) by omega)
theorem Acf {s s':Ld} {k:Ak} {p:Rp} (hok:s.Ok) (hs:C6 s k s' p) (hk:k.kd=10∨k.kd=11) (hno:s.no<4611686018427387904:=by omega):∃ r,PlanR s.acs s.ds (decide (k.kd=11)) r∧s'=MT s r ∧
  p=⟨0,[s.no+1,EF (opn s.ds) r.fl (opn s.ds).length,IZ (r.fl.take (opn s.ds).length) (opn s.ds).length]⟩:=by
 unfold C6 at hs;rw [if_pos hk] at hs
 rcases hs with ⟨h1,-⟩ | ⟨-,r,P,rfl,rfl⟩
 ·omega
 ·have:=hok.kept;exact ⟨r,P,rfl,by rw [Ae9]⟩
end Go.Proofs.YtdagmpmdcgedcaaGreat
namespace Go.Proofs.YtdagmpmdcgedcaaGreat
open Go.GV
attribute [local irreducible] AB W Wq Wt
structure ArZ where
 i:Nat
 arch:List Value
set_option maxRecDepth 20000 in
set_option maxHeartbeats 4000000 in
theorem Afa {s:Ld} (hok:s.Ok) (a:Option Addr) (c:Nat) (qs:List RSl) (w:World) (R:Rd w a 8 Uf (s.rn.zip qs)) (hq:qs.length=s.rn.length) (K:∀ x∈s.rn.zip qs,RAt w x.1 x.2) :
  Ret Tryz.prog 80 #[.slice a s.rn.length c,.int .u64 s.no] w fun v w'=>∃ b arch,v = .tuple #[ptr b,.int .i64 0]∧Ctx w [] w' [(b,Bl 168 arch)]∧arch.length=34∧arch[32]? = some (.int .u64 s.rn.length)∧arch[33]? = some (.int .u64 s.no) ∧
   ∀ r∈s.rn,∃ q,(∀ j v,(BK r q)[j]? = some v→arch[(r.no % 4).toNat*8+j]? = some v)∧RAt w' r q∧ROff q r (fun x=>x<w.heap.size∨x=b):=by
 obtain ⟨w0,rfl⟩:∃ w0,w0=w:=⟨_,rfl⟩;have H:=Ctx.start w0 [];obtain ⟨hk4,hkn,hkm⟩:=hok.kept;have hzl:(s.rn.zip qs).length=s.rn.length:=by rw [List.length_zip]; omega
 refine Aw (fn:=Tryz.f80) Tryz.func80 U [.slice a s.rn.length c,.int .u64 s.no] U (by kernel_rfl) ?_;refine Af (B3 U (Ad U (Ab (Aa (Af (A3 U (Bi Nd U (DM U OM EV ?_))))))));refine Ad U (Ab (Aa (Aq (A0 (Af (Ae U (Cs U U (Ai U (Ab (Aa (Ap _ U ?_ ?_)))))))))))
 ·intro h1;replace h1:=AJ h1;omega
 ·intro h1;replace h1:=AK h1;refine Aq (Af (Ae U (Cs U U (Ai U (Ab (Aa (CX 16 U ?_ ?_)))))))
  ·intro h2;replace h2:=AJ h2;omega
  ·intro h2;replace h2:=AK h2;refine Az (Ae U (Ae U (Bj U U (Ai U (Ab (Aa (CX 16 U ?_ ?_)))))))
   ·intro h3;replace h3:=AJ h3;omega
   ·intro h3;replace h3:=AK h3;refine Au (A5 (Aa (Af (B1 Ny Zm Zw (by kernel_rfl) ?_))));refine Bv Ny (.agg _) U U H ?_;rintro b w - H;refine B3 U (Ab (Aa (Aq (Af (A3 U (Bi Nd U (Ae U (Ab (Aa (A0 (Bt 1125899839734576 (α:=ArZ) (fun t=>[(26,.int .i64 (t.i:Int))]) (fun t w'=>t.i≤s.rn.length∧t.arch.length=34∧t.arch[32]? = some (.int .u64 t.i)∧(∀ (j:Nat) (r:Rnd),j<t.i→s.rn[j]? = some r→∃ q,(∀ l v,(BK r q)[l]? = some v→t.arch[(r.no % 4).toNat*8+l]? = some v)∧RAt w' r q∧ROff q r (fun x=>x<w0.heap.size∨x=b))∧Ctx w0 [] w' [(b,Bl 168 t.arch)]) (fun t=>s.rn.length - t.i) ⟨0,Ny⟩ U ?_ ?_ ?_)))))))))))
    ·exact ⟨rfl,trivial⟩
    ·exact ⟨Nat.zero_le _,rfl,rfl,fun j r h=>absurd h (Nat.not_lt_zero _),H⟩
    ·clear H;rintro ⟨i,arch⟩ j w ⟨hi,hal,han,hK,HR⟩; dsimp only at hi hal han hK HR; dsimp only;obtain ⟨w1,rfl⟩:∃ z,z=w:=⟨_,rfl⟩;have H:=Ctx.start1 (HR.get at0);have hbl1:=Ba (HR.get at0);have hs01:=HR.size;refine Af (Bj U U (Ab (Aa (Aq (Ap _ U ?_ ?_)))))
     ·intro h4;replace h4:=AJ h4;obtain ⟨r,hr⟩:=A8 (l:=s.rn) (i:=i);obtain ⟨q,hqi⟩:=A8 (l:=qs) (i:=i);have hx:(s.rn.zip qs)[i]? = some (r,q):=List.getElem?_zip_eq_some.2 ⟨hr,hqi⟩;have RA:=(K _ (List.mem_of_getElem? hx)).ext0 HR.ext;have hoffb:ROff q r (·∈[b]):=(K _ (List.mem_of_getElem? hx)).lt.mono fun x hm=>by rw [List.mem_singleton.1 hm]; exact (HR.own _ (List.mem_cons_self ..)).elim (fun h=>by cases h) id
      have hrn:=hok.nos i r hr;have hmay:=hok.may r (List.mem_of_getElem? hr);have hB:=Sz hmay;refine Au (Aa (Aq (A0 (Af (Ae U (AS (R.ext0 HR.ext) Nd Dh U U (by omega) ?_))))));refine Cj _ FT Dh U U (((R.ext0 HR.ext).row hx U)) ?_;refine AX Gg H ?_;rintro b9 w - H;refine Ad U (Bm Dh U U U (by exact (by simp [AO])) H at0 U ?_);rintro w H;refine Ab (Aa (Aq (Af (BU (α:=Unit) 70366596694016 (fun _=>[(45,.bool (false))]) (fun _ w'=>Ctx w1 [b] w' [(b9,Bl 55 (BK r q)),(b,Bl 168 arch)]) U ?_ ?_))))
      ·refine Cl FT Dh U H at0 U (Al YL (WC r q _ (RA.ext H.ext hoffb) hB) U ?_);rintro v w ⟨rfl,hx32⟩;rw [hmay];replace H:=H.call hx32;refine BA U (AE U (AY 34 U ?_ ?_))
       ·intro h1;replace h1:=BE h1;refine Ah U (Ah U (Ah U (Ah U (Ah U (Ah U (Ah U (Ah U (Ah U (Ah U ?_)))))))));refine AN U (.bool _) U (Ab ?_);exact ⟨rfl,(),rfl,⟨congrArg Value.bool (by contradiction),trivial⟩,H⟩
       ·intro h2;replace h2:=BF h2;refine Ag LK U (AM B5 U H at0 U (Ae U (Ae U (KZ U U U ?_))));refine DR U U ?_;refine Ae U (DM U OM EV ?_);refine DR U U ?_;refine C9 U U (AU U (.bool _) U (Ab ?_));exact ⟨rfl,(),rfl,⟨congrArg Value.bool (by (rw [hrn]; simp)),trivial⟩,H⟩
      rintro - j45 w H;refine Fg U (Au (Aa (Az (Ay U (Cl FT Dh U H at0 U ?_)))));have hlb:=Ba (H.get at1);have hsw:=H.size;refine Al YM (WE (n:=i) r q _ (RA.ext H.ext hoffb) hB (H.get at1) hal han (by omega) (by omega)) U ?_;rintro v w ⟨q',H2,RA',hoff⟩;refine Ab (A5 (Aa (Az (Ax U U ?_))));refine Ae U (Ab (Aa ?_));have HX:=(Ctx.back (L1:=[(b,Bl 168 arch)]) (L2:=[]) H.tail.app_nil H2).nil_app;refine ⟨⟨i+1,Ja arch i r q'⟩,rfl,⟨rfl,trivial⟩,⟨by dsimp only; omega,by dsimp only; rw [WF]; exact hal,by dsimp only; rw [Agb hal,show min (i+1) 4=i+1 by omega],fun l r2 hl hr2=>?_,(Ctx.back (L1:=[(b,Bl 168 arch)]) (L2:=[]) HR.app_nil HX).nil_app⟩,by dsimp only; omega⟩;dsimp only at hl ⊢
      rcases Nat.lt_or_ge l i with h5 | h5
      ·obtain ⟨q2,g1,g2,g3⟩:=hK l r2 h5 hr2;have hrn2:=hok.nos l r2 hr2;have g4:ROff q2 r2 (·∈[b]):=g3.mono fun x hm => .inr (List.mem_singleton.1 hm);exact ⟨q2,fun l' v' hv=>WG _ (by omega) hv (g1 l' v' hv),g2.ext HX.ext g4,g3⟩
      ·obtain rfl:l=i:=by omega
       rw [hr] at hr2;cases hr2;exact ⟨q',fun l' v' hv=>Ab9 hal _ hv,RA',hoff.mono fun x hx=>hx.elim (fun h=>by omega) fun h=>by rw [h]; exact hlb⟩
     ·intro h4;replace h4:=AK h4;obtain rfl:i=s.rn.length:=by omega
      refine Bq (Am (Am (AG (Aa (Af (Ay U (Ae U (A9 U (Ag Fb U (Cp (.int _ _) Bp U U U H at0 (by (simp; omega)) ?_))))))))));rintro w H;refine Ab (Aa (Af (Ay U (B3 U (Ad U (Ab (Aa (A4 (BL (v1:=(.pointer _)) (v2:=(.int _ _)) U U U U ?_)))))))));refine ⟨b,_,rfl,(Ctx.back (L1:=[(b,Bl 168 arch)]) (L2:=[]) HR.app_nil H).nil_app,?_,?_,?_,fun r hr=>?_⟩
      ·rw [List.length_set]; exact hal
      ·rw [List.getElem?_set_ne (by decide)]; exact han
      ·rw [List.getElem?_set_self (by rw [hal]; decide)]
      ·obtain ⟨l,hl⟩:=List.mem_iff_getElem?.1 hr;obtain ⟨q,g1,g2,g3⟩:=hK l r (Ck hl) hl;have h3:0≤r.no % 4∧r.no % 4<4:=⟨Int.emod_nonneg _ (by decide),Int.emod_lt_of_pos _ (by decide)⟩;refine ⟨q,fun l' v' hv=>?_,g2.ext H.ext (g3.mono fun x hm => .inr (List.mem_singleton.1 hm)),g3⟩;have hl8:l'<8:=Ck hv;rw [List.getElem?_set_ne (by omega)];exact g1 l' v' hv
end Go.Proofs.YtdagmpmdcgedcaaGreat
namespace Go.Proofs.YtdagmpmdcgedcaaGreat
open Go.GV
attribute [local irreducible] AB W Wq Wt
set_option maxRecDepth 20000 in
set_option maxHeartbeats 4000000 in
theorem Akg {s:Ld} (hok:s.Ok) (hdy:∀ r∈s.rn,r.day≤s.day) (z:StZ) (w:World) (Z:StAt w s z) :
  Ret Tryz.prog 30 #[.agg (stC s z).toArray] w fun v w'=>∃ m,v = .tuple #[ptr m.bl,.int .i64 0]∧Ctx w [] w' (LL m s)∧LdIn w' m s (fun x=>x∈CW m s∨x<w.heap.size):=by
 obtain ⟨w0,rfl⟩:∃ w0,w0=w:=⟨_,rfl⟩;have H:=Ctx.start w0 [];have h16:=(BZ.1 hok.ac).1;obtain ⟨h64,hnx,-,-⟩:=Ep hok.du;have hkn:=Ga hok.du;have h4:=hok.kept.1;refine Aw (fn:=Tryz.f30) Tryz.func30 U [.agg (stC s z).toArray] U (by kernel_rfl) ?_;refine Af (Bv (stC s z) (.agg _) U U H ?_);rintro b1 w - H;refine B3 U (Ad U (Ab (Aa (Af (Ag Em U (AM Ek U H at0 U (Al ca_78 (Ajw z.aA _ z.cA s.acs _ (Z.A.ext0 H.ext) U) U ?_)))))));rintro v w ⟨pA,rfl,-,hA,hx16⟩;obtain ⟨ba,aA,cA,fA,rfl,hba,OA,hbA,hbaw⟩:=hA hok.ac;replace H:Ctx w0 [] w ((b1,Bl 32 (stC s z))::((ba,Bl 162 [.slice aA s.acs.length cA])::ent aA 43 fA)):=H.callEnt (E:=(ba,Bl 162 [.slice aA s.acs.length cA])::ent aA 43 fA) hx16 (fun x hx=>(List.mem_cons.1 hx).elim (fun h=>by rw [h]; exact ⟨hba,hbaw⟩) fun h=>⟨(hbA x h).1,(hbA x h).2.1⟩) (List.pairwise_cons.2 ⟨fun x hx=>Ne.symm (hbA x hx).2.2,FD⟩)
 refine BM U (A6 U U (A6 U U (B3 U (Ad U (Ab (Aa (Aq (Af (Ae U (C9 U U ?_))))))))));refine Ab (Aa (Ap _ U ?_ ?_))
 ·intro h1;replace h1:=CR h1;exact absurd hok.ac h1
 ·intro h1;replace h1:=CS h1;refine Au (Aa (Af (Ag Fk U (AM Ic U H at0 U (Ag Adc U (AM B5 U H at0 U (Al Afv (Aai z.aD _ z.cD s.ds s.nx _ (Z.D.ext0 H.ext) U (fun d hd=>by have:=(hkn.1 d hd).2; omega)) U ?_)))))));rintro v w ⟨pD,rfl,-,hD,hx27⟩;obtain ⟨bd,b,o,rfl,hbd,hb,hM,hbdw,hbw,hne⟩:=hD hok.du;replace H:=H.callEnt (E:=[(bd,Bl 165 (DU b s.nx)),(b,o)]) hx27 (fun x hx=>by simp only [List.mem_cons,List.not_mem_nil,or_false] at hx; rcases hx with rfl | rfl; exact ⟨hbd,hbdw⟩; exact ⟨hb,hbw⟩) (by simpa using hne);refine BM U (A6 U U (A6 U U (B3 U (Ad U (Ab (Aa (Aq (Af (Ae U (C9 U U ?_))))))))));refine Ab (Aa (Ap _ U ?_ ?_))
  ·intro h2;replace h2:=CR h2;exact absurd hok.du h2
  ·intro h2;replace h2:=CS h2;refine Au (Aa (Af (Ag VO U (AM Afo U H at0 U (Ag Add U (AM B5 U H at0 U ?_))))));have hsz:=H.size;have hlt:∀ x∈(((b1,Bl 32 (stC s z))::((ba,Bl 162 [.slice aA s.acs.length cA])::ent aA 43 fA))++[(bd,Bl 165 (DU b s.nx)),(b,o)]),x.1<w.heap.size:=fun x hx=>Ba (H.blk x hx);refine Al ca_80 (Afa hok z.aR z.cR z.qs _ (Z.R.ext0 H.ext) Z.n (fun x hx=>(Z.K x hx).ext0 H.ext)) U ?_;rintro v w ⟨br,arch,rfl,HA,hal,han,hno,hK⟩;replace H:=Ctx.back (L1:=[]) (L2:=((b1,Bl 32 (stC s z))::((ba,Bl 162 [.slice aA s.acs.length cA])::ent aA 43 fA))++[(bd,Bl 165 (DU b s.nx)),(b,o)]) H HA;refine BM U (A6 U U (A6 U U (B3 U (Ad U (Ab (Aa (Aq (Af (Ae U (C9 U U ?_))))))))));refine Ab (Aa (Ap _ U ?_ ?_))
   ·intro h3;replace h3:=CR h3;exact absurd U h3
   ·intro h3;replace h3:=CS h3;have hb1:=H.get at1;have H4:=H;obtain ⟨w4,rfl⟩:∃ y,y=w:=⟨_,rfl⟩;clear H;have H:=Ctx.start w4 [];refine Au (Aa (Af (Ay U (Ay U (Ay U (Ag R9 U (AZ Bw U ((by rw [Aj (H.ext.to hb1 (by simp))]; rfl)) ?_)))))));refine B1 [ptr ba,ptr bd,ptr br,.int .i64 s.day] Zj Zs (by kernel_rfl) ?_;refine Bv [ptr ba,ptr bd,ptr br,.int .i64 s.day] (.agg _) U U H ?_;rintro bl w - H;refine B3 U (Ab (Aa (Aq (Af (Ag Fk U (AZ Ic U ((by rw [Aj (H.ext.to hb1 (by simp))]; rfl)) ?_))))));refine Bi CK U (Ae U (Ab (Aa (A0 ?_))));have hblw:w4.heap.size≤bl:=(H.own _ (List.mem_cons_self ..)).elim (fun h=>by cases h) id;have hblh:=H.get at0;have E45:=H.ext;have HH:=Ctx.back (L1:=[]) (L2:=(br,Bl 168 arch)::(((b1,Bl 32 (stC s z))::((ba,Bl 162 [.slice aA s.acs.length cA])::ent aA 43 fA))++[(bd,Bl 165 (DU b s.nx)),(b,o)])) H4 H
    have H1:=(HH.perm (List.perm_middle (l₁:=[_,_]))).tail;have HL:Ctx w0 [] w (LL ⟨bl,ba,bd,br,b,aA,cA,fA,o,arch⟩ s):=H1.perm (List.Perm.cons _ (List.Perm.cons _ (List.Perm.cons _ (List.perm_append_comm (l₂:=[_,_])))));have hb1':=E45.to hb1 (by simp);have hba1:=HL.get at2;have RA1:Rd w aA 2 CM s.acs:=OS.rd (t:=43) OA (fun y hy=>HL.blk y (List.mem_append_right [_,_,_,_,_] hy)) (fun _ _=>rfl) (by decide);clear H H1 HH;obtain ⟨w5,rfl⟩:∃ y,y=w:=⟨_,rfl⟩;have H:=Ctx.start w5 [];refine Bt 2361165227036313125900 (α:=Nat) (fun i=>[(54,.int .i64 (i:Int))]) (fun i w'=>i≤s.ds.length∧Ctx w5 [] w' []) (fun i=>s.ds.length - i) 0 U ?_ ?_ ?_
    ·exact ⟨rfl,trivial⟩
    ·exact ⟨Nat.zero_le _,H⟩
    ·clear H;rintro i j w ⟨hi,H⟩;refine Af (Bj U U (Ab (Aa (Aq (Ap _ U ?_ ?_)))))
     ·intro h5;replace h5:=AJ h5;obtain ⟨d,hd⟩:=A8 (l:=s.ds) (i:=i);have hdb:=hok.bk d (List.mem_of_getElem? hd);have hdm:=Dc (hkn.1 d (List.mem_of_getElem? hd)).1;have hif:inA s.acs d.fr=true:=Ev.2 ⟨by omega,hdb.1⟩;have hit:inA s.acs d.to=true:=Ev.2 ⟨by omega,hdb.2⟩;refine Au (Aa (Aq (A0 (Af (AS (Z.D.ext0 (HL.ext.trans H.ext)) CK Ci U U (by rfl) ?_)))));refine Cj _ Ft Ci U U (((Z.D.ext0 (HL.ext.trans H.ext)).row hd U)) ?_;refine AX Eu H ?_;rintro b10 w - H;refine Bm Ci U U U (by exact CQ _) H at0 U ?_;rintro w H;refine Ab (Aa ?_);replace H:Ctx w5 [] w [(b10,Bl 67 (CO d))]:=H;refine Af (BU (α:=Unit) 1180303390341259591680 (fun _=>[(69,.bool (false))]) (fun _ w'=>Ctx w5 [] w' [(b10,Bl 67 (CO d))]) U ?_ ?_)
      ·refine Ay U (Ag Gz U (AM Ca U H at0 U (Al VM (Mj d.fr _ (H.ext.to hblh (by simp)) (H.ext.to hba1 (by simp)) (RA1.ext0 H.ext)) U ?_)));rintro v w ⟨rfl,hx61⟩;rw [hif];replace H:=H.call hx61;refine BA U (AE U (AY 63 U ?_ ?_))
       ·intro h1;replace h1:=BE h1;refine Ah U (Ah U (Ah U (Ah U (Ah U (AN U (.bool _) U (Ab ?_))))));exact ⟨rfl,(),rfl,⟨congrArg Value.bool (by contradiction),trivial⟩,H⟩
       ·intro h2;replace h2:=BF h2;refine Ay U (Ag Ih U (AM Ca U H at0 U (Al VM (Mj d.to _ (H.ext.to hblh (by simp)) (H.ext.to hba1 (by simp)) (RA1.ext0 H.ext)) U ?_)));rintro v w ⟨rfl,hx67⟩;rw [hit];replace H:=H.call hx67;refine BA U (AU U (.bool _) U (Ab ?_));exact ⟨rfl,(),rfl,⟨congrArg Value.bool (by rfl),trivial⟩,H⟩
      rintro - j69 w H;refine Fg U (Au (A5 (Aa (Az (Ax U U ?_)))));refine Ae U (Ab (Aa ?_));exact ⟨i+1,rfl,⟨rfl,trivial⟩,⟨by omega,H.tail⟩,by omega⟩
     ·intro h5;replace h5:=AK h5;refine Bq (Am (Am (AG (Aa (Aq (Af (Ag VO U (AZ Afo U ((by rw [Aj (H.ext.to hb1' (by simp))]; rfl)) ?_))))))));refine Bi Nd U (Ae U (Ab (Aa (A0 (Bt 19323923647902588214448140 (α:=Nat) (fun i=>[(74,.int .i64 (i:Int))]) (fun i w'=>i≤s.rn.length∧Ctx w5 [] w' []) (fun i=>s.rn.length - i) 0 U ?_ ?_ ?_)))))
      ·exact ⟨rfl,trivial⟩
      ·exact ⟨Nat.zero_le _,H⟩
      ·clear H;rintro q j2 w ⟨hq,H⟩;have hzl:(s.rn.zip z.qs).length=s.rn.length:=by rw [List.length_zip,Z.n,Nat.min_self]
       refine Af (Bj U U (Ab (Aa (Aq (Ap _ U ?_ ?_)))))
       ·intro h6;replace h6:=AJ h6;obtain ⟨r,hr⟩:=A8 (l:=s.rn) (i:=q);obtain ⟨qq,hqq⟩:=A8 (l:=z.qs) (i:=q) (h:=by rw [Z.n]; omega);have hx:(s.rn.zip z.qs)[q]? = some (r,qq):=List.getElem?_zip_eq_some.2 ⟨hr,hqq⟩;have hrd:=hdy r (List.mem_of_getElem? hr);refine Au (Aa (Aq (A0 (Af (AS (Z.R.ext0 (HL.ext.trans H.ext)) Nd Dh U U (by omega) ?_)))));refine Cj _ FT Dh U U (((Z.R.ext0 (HL.ext.trans H.ext)).row hx U)) ?_;refine AX Gg H ?_;rintro b12 w - H;refine Bm Dh U U U (by exact (by simp [AO])) H at0 U ?_;rintro w H;refine Ab (Aa ?_);replace H:Ctx w5 [] w [(b12,Bl 55 (BK r qq))]:=H;refine Af (Ag NE U (AM Bw U H at0 U (Ag R9 U (AZ Bw U ((by rw [Aj (H.ext.to hb1' (by simp))]; rfl)) ?_))));refine Cs U U (Ab (Aa (Ap _ U ?_ ?_)))
        ·intro h7;replace h7:=AJ h7;omega
        ·intro h7;replace h7:=AK h7;refine Au (A5 (Aa (Az (Ax U U ?_))));refine Ae U (Ab (Aa ?_));exact ⟨q+1,rfl,⟨rfl,trivial⟩,⟨by omega,H.tail⟩,by omega⟩
       ·intro h6;replace h6:=AK h6;have hday:=hok.day;refine Bq (Am (Am (AG (Aa (Aq (Af (Ag R9 U (AZ Bw U ((by rw [Aj (H.ext.to hb1' (by simp))]; rfl)) ?_))))))));refine Bj U U (Ab (Aa (Ap _ U ?_ ?_)))
        ·intro h7;replace h7:=AJ h7;omega
        ·intro h7;replace h7:=AK h7;refine Au (Aa (Af (Ay U (B3 U (Ad U (Ab (Aa (A4 (BL (v1:=(.pointer _)) (v2:=(.int _ _)) U U U U ?_)))))))));have HF:=HL.call H.ext;refine ⟨⟨bl,ba,bd,br,b,aA,cA,fA,o,arch⟩,rfl,HF,OA,hM,hok,hal,han,hno,fun r hr=>?_,fun x hx => .inl hx,fun x hx=>?_⟩
         ·obtain ⟨qq,g1,g2,g3⟩:=hK r hr;refine ⟨qq,g1,(g2.ext0 E45).ext0 H.ext,(g3.or g2.lt).mono fun x hx=>?_⟩
          rcases hx with hx | hx
          ·obtain ⟨y,hy,rfl⟩:=List.mem_map.1 hx;simp only [List.mem_cons] at hy
           rcases hy with rfl | rfl | rfl | rfl | rfl | hy
           ·exact .inr hblw
           ·exact .inl (.inr U)
           ·exact .inl (.inl (hlt _ (by simp)))
           ·exact .inl (.inl (hlt _ (by simp)))
           ·exact .inl (.inl (hlt _ (by simp)))
           ·exact .inl (.inl (hlt y (by simp [hy])))
          ·exact .inl (.inl (Nat.lt_of_lt_of_le hx hsz))
         ·rcases hx with hx | hx
          ·obtain ⟨y,hy,rfl⟩:=List.mem_map.1 hx;exact Ba (HF.blk y hy)
          ·exact Nat.lt_of_lt_of_le hx HF.size
end Go.Proofs.YtdagmpmdcgedcaaGreat
namespace Go.Proofs.YtdagmpmdcgedcaaGreat
open Go.GV
attribute [local irreducible] AB W Wq Wt
def Iq (ds:List Du) (k i:Nat):Int:=Ch ((ds.take i).map fun d=>if d.fr=(k:Int)∧d.held=false then d.am else 0)
def Ir (acs:List Ac) (ds:List Du) (k:Nat):Int:=max ((acs.getD k a00).re - (acs.getD k a00).ba+Iq ds k ds.length) 0
def Jb (acs:List Ac) (k:Int):Int:=if inA acs k=true then 0 else 10
def Jc (acs:List Ac) (ds:List Du) (k:Int):Int:=if inA acs k=true then Ir acs ds k.toNat else 0
theorem MW {ds:List Du} {k i:Nat} {d:Du} (h:ds[i]? = some d):Iq ds k (i+1)=Iq ds k i+(if d.fr=(k:Int)∧d.held=false then d.am else 0):=by
 unfold Iq;rw [Kk h,E7,BN,show Ch ([]:List Int)=0 from rfl,Int.add_zero]
theorem Jd {ds:List Du} {k:Nat} (ham:∀ d∈ds,0≤d.am∧d.am≤4503599627370496):∀ i,i≤ds.length→0≤Iq ds k i∧Iq ds k i≤4503599627370496*(i:Int)
 | 0,_=>⟨Int.le_refl _,Int.le_refl _⟩
 | i+1,h=>by
  have ih:=Jd (k:=k) ham i (by omega);obtain ⟨d,hd⟩:=A8 (l:=ds) (i:=i);have h1:=ham d (List.mem_of_getElem? hd);rw [MW hd]
  split <;> omega
set_option maxRecDepth 20000 in
set_option maxHeartbeats 2000000 in
theorem Mm {v0 v3 v4 v5 v6:Value} (a b:Option Addr) (c e:Nat) (acs:List Ac) (ds:List Du) (k:Int) (w:World) (R:Rd w a 2 CM acs) (R':Rd w b 7 CO ds) (hb:∀ x∈acs,(0≤x.ba∧x.ba≤4503599627370496)∧0≤x.re∧x.re≤4503599627370496) (ham:∀ d∈ds,0≤d.am∧d.am≤4503599627370496) (ho:AO v0=true∧AO v3=true∧AO v4=true∧AO v5=true∧AO v6=true)  (_h1:acs.length≤1000000:=by omega) (h2:ds.length≤100:=by omega):
  Ret Tryz.prog 38 #[.agg #[v0,.slice a acs.length c,.slice b ds.length e,v3,v4,v5,v6],.int .i64 k] w fun v w'=>v = .tuple #[.int .i64 (Jc acs ds k),.int .i64 (Jb acs k)]∧Ext [] w w':=by
 obtain ⟨w0,rfl⟩:∃ w0,w0=w:=⟨_,rfl⟩;have H:=Ctx.start w0 [];obtain ⟨o0,o3,o4,o5,o6⟩:=ho;refine Aw (fn:=Tryz.f38) Tryz.func38 U [.agg #[v0,.slice a acs.length c,.slice b ds.length e,v3,v4,v5,v6],.int .i64 k] U (by kernel_rfl) ?_;refine Af (Bv [v0,.slice a acs.length c,.slice b ds.length e,v3,v4,v5,v6] (.agg _) U U H ?_);rintro b2 w - H;refine Ad U (Ad U (Ab (Aa (Aq (Af (BU (α:=Unit) 261632 (fun _=>[(17,.bool (!(inA acs k)))]) (fun _ w'=>Ctx w0 [] w' [(b2,Bl 32 [v0,.slice a acs.length c,.slice b ds.length e,v3,v4,v5,v6])]) U ?_ ?_))))))
 ·refine Ae U (Bj U U (AE U (AY 11 U ?_ ?_)))
  ·intro _h1;replace _h1:=AJ _h1;refine Ah U (Ah U (Ah U (Ah U (Ah U (AN U (.bool _) U (Ab ?_))))));exact ⟨rfl,(),rfl,⟨congrArg Value.bool (by unfold inA; rw [Bool.eq_iff_iff]; simp; omega),trivial⟩,H⟩
  ·intro h2;replace h2:=AK h2;refine Ae U (Ag Em U (AM Ek U H at0 U (Bi Dg U (C4 U U (AU U (.bool _) U (Ab ?_))))));exact ⟨rfl,(),rfl,⟨congrArg Value.bool (by unfold inA; rw [Bool.eq_iff_iff]; simp; omega),trivial⟩,H⟩
 rintro - j17 w H;refine Ap _ U ?_ ?_
 ·intro h3;replace h3:=BE h3;have hf:inA acs k=false:=by simpa using h3
  refine Af (Ad U (Ad U (Ab (Aa (A4 (Ao (BL (v1:=(.int _ _)) (v2:=(.int _ _)) U U U U ?_)))))));refine ⟨?_,H.ext⟩;unfold Jc Jb;rw [hf];rfl
 ·intro h3;replace h3:=BF h3;have hf:inA acs k=true:=by simpa using h3
  have hki:=Ev.1 hf;have hka:((k.toNat:Nat):Int)=k:=by omega
  obtain ⟨x,hx⟩:=A8 (l:=acs) (i:=k.toNat);have hxb:=hb x (List.mem_of_getElem? hx);have hb2:=H.get at0;refine Au (Aa (Er (fun x=>x=_) Bs (by kernel_rfl) U ?_));refine A7 Em U (Cn Ek U (by rintro _ rfl; exact H.drew) at0 U ?_);refine Bh U (C5 R Dg Dx U U (by rfl) ?_);refine A7 GW U (BX Bw U (by rintro _ rfl; exact (((R.ext0 H.drew.ext).fld hx rfl (j:=1) rfl))) ?_);refine A7 Em U (Cn Ek U (by rintro _ rfl; exact H.drew) at0 U ?_);refine Bh U (C5 R Dg Dx U U (by rfl) ?_);refine A7 DW U (BX Bw U (by rintro _ rfl; exact (((R.ext0 H.drew.ext).fld hx rfl (j:=0) rfl))) ?_);refine D8 U U ?_;refine Db U (BW ?_);rintro _ rfl;replace H:=H.drew;refine Aq (Af (Ag Fk U (AM Ic U H at0 U (Bi CK U (Ae U (Ab (Aa (A0 ?_))))))));obtain ⟨w1,hw1⟩:∃ z,z=w.drew:=⟨_,rfl⟩;rw [← hw1] at H ⊢;have H8:=H
  clear H;have H:=Ctx.start w1 [];refine Bt 4503582447501632 (α:=Nat) (fun i=>[(6,.int .i64 (x.re - x.ba+Iq ds k.toNat i)),(34,.int .i64 (i:Int))]) (fun i w'=>i≤ds.length∧Ctx w1 [] w' []) (fun i=>ds.length - i) 0 U ?_ ?_ ?_
  ·exact ⟨by rw [show Iq ds k.toNat 0=0 from rfl,Int.add_zero]; rfl,rfl,trivial⟩
  ·exact ⟨Nat.zero_le _,H⟩
  ·clear H;rintro i j w ⟨hi,H⟩;refine Af (Bj U U (Ab (Aa (Aq (Ap _ U ?_ ?_)))))
   ·intro h4;replace h4:=AJ h4;obtain ⟨d,hd⟩:=A8 (l:=ds) (i:=i);have hst:=MW (k:=k.toNat) hd;rw [hka] at hst;have hs1:=Jd (k:=k.toNat) ham i hi;have hs2:=Jd (k:=k.toNat) ham (i+1) (by omega);have hda:=ham d (List.mem_of_getElem? hd);refine Au (Aa (Aq (A0 (Af (AS (R'.ext0 (H8.ext.trans H.ext)) CK Ci U U (by rfl) ?_)))));refine Cj _ Ft Ci U U (((R'.ext0 (H8.ext.trans H.ext)).row hd U)) ?_;refine AX Eu H ?_;rintro b8 w - H;refine Bm Ci U U U (by exact CQ _) H at0 U ?_;rintro w H;refine Ab (Aa ?_);replace H:Ctx w1 [] w [(b8,Bl 67 (CO d))]:=H;refine Af (BU (α:=Unit) 140462610448384 (fun _=>[(46,.bool ((decide (d.fr=k) && !d.held)))]) (fun _ w'=>Ctx w1 [] w' [(b8,Bl 67 (CO d))]) U ?_ ?_)
    ·refine Ag Gz U (AM Ca U H at0 U (Ae U (Cf U U (AE U (AY 42 U ?_ ?_)))))
     ·intro h3;replace h3:=AJ h3;refine Ag Ii U (AM JQ U H at0 U (BA U (AN U (.bool _) U (Ab ?_))));exact ⟨rfl,(),rfl,⟨congrArg Value.bool (by (simp_all; done)),trivial⟩,H⟩
     ·intro h4;replace h4:=AK h4;refine Ah U (Ah U (Ah U (AU U (.bool _) U (Ab ?_))));exact ⟨rfl,(),rfl,⟨congrArg Value.bool (by (simp_all; done)),trivial⟩,H⟩
    rintro - j46 w H;refine Ap _ U ?_ ?_
    ·intro h5;have h5':d.fr=k∧d.held=false:=by simpa using h5
     rw [if_pos h5'] at hst;refine Az (Ae U (Ag Eo U (AM Bw U H at0 U (Ax U U ?_))));refine Ad U (Ab (A5 (Aa (Az (Ax U U ?_)))));refine Ae U (Ab (Aa ?_));exact ⟨i+1,rfl,⟨congrArg (Value.int .i64) (by rw [hst]; omega),rfl,trivial⟩,⟨by omega,H.tail⟩,by omega⟩
    ·intro h5;have h5':¬ (d.fr=k∧d.held=false):=fun hh=>by rw [hh.1,hh.2] at h5; simp at h5
     rw [if_neg h5',Int.add_zero] at hst;refine Au (A5 (Aa (Az (Ax U U ?_))));refine Ae U (Ab (Aa ?_));exact ⟨i+1,rfl,⟨congrArg (Value.int .i64) (by rw [hst]),rfl,trivial⟩,⟨by omega,H.tail⟩,by omega⟩
   ·intro h4;replace h4:=AK h4;obtain rfl:i=ds.length:=by omega
    refine Bq (Am (Am (AG (Aa (Af (Ae U (Ji U U ?_)))))));refine Ad U (Ad U (Ab (Aa (A4 (BL (v1:=(.int _ _)) (v2:=(.int _ _)) U U U U ?_)))));refine ⟨?_,H8.ext.trans H.ext⟩;unfold Jc Jb Ir;rw [if_pos hf,if_pos hf,Bo hx]
end Go.Proofs.YtdagmpmdcgedcaaGreat
