/- Part 13 of the proof. -/
import Derived.Test.YtdagmpmdcgedcaaGreatPart2
import Derived.Test.YtdagmpmdcgedcaaGreatPart12
import Derived.Test.YtdagmpmdcgedcaaGreatPart3
import Derived.Test.YtdagmpmdcgedcaaGreatPart4
import Derived.Test.YtdagmpmdcgedcaaGreatPart10
import Derived.Test.YtdagmpmdcgedcaaGreatRows
import Derived.Test.YtdagmpmdcgedcaaGreatPart11
namespace Go.Proofs.YtdagmpmdcgedcaaGreat
open Go.GV
attribute [local irreducible] AB W Wq Wt
def J6:Ld→List Ak→Ld→List Int→Prop
 | s,[],s',cs=>s'=s∧cs=[]
 | s,k::ks,s',cs=>∃ s1 p cs',C6 s k s1 p∧J6 s1 ks s' cs'∧cs=p.e::cs'
theorem Py {k:Ak} {s1 s2:Ld} {p:Rp}:∀ {ks:List Ak} {s:Ld} {cs:List Int},J6 s ks s1 cs→C6 s1 k s2 p→J6 s (ks++[k]) s2 (cs++[p.e])
 | [],s,cs,h,h2=>by
  obtain ⟨rfl,rfl⟩:=h;exact ⟨s2,p,[],h2,⟨rfl,rfl⟩,rfl⟩
 | k1::ks,s,cs,h,h2=>by
  obtain ⟨s3,p3,cs',h3,h4,rfl⟩:=h;exact ⟨s3,p3,cs'++[p.e],h3,Py h4 h2,rfl⟩
def DyOk (s:Ld):Prop:=∀ r∈s.rn,r.day≤s.day
theorem LdIn.less {w:World} {m:Lm} {s:Ld} {T T':Nat→Prop} (I:LdIn w m s T) (ho:∀ x∈CW m s,T' x) (hT:∀ x,T' x→T x):LdIn w m s T' where
 O:=I.O
 M:=I.M
 ok:=I.ok
 len:=I.len
 n:=I.n
 no:=I.no
 kept:=fun r hr=>by
  obtain ⟨q,g1,g2,g3⟩:=I.kept r hr;exact ⟨q,g1,g2,g3.mono hT⟩
 own:=ho
 low:=fun x hx=>I.low x (hT x hx)
set_option maxRecDepth 20000 in
theorem WH {f:FuncId} {caps:Array Value} {blx:Nat} {w0 w:World} {B:List (Nat × Obj)} {m:Lm} {s:Ld} {T:Nat→Prop} {Q:World→Prop} (L:Led blx w0 w B m s T) (hdy:DyOk s) (hf:Av Tryz.prog f=true)
  (hc:∀ (w1:World) (m1:Lm),Ctx w [] w1 (LL m1 s)→LdIn w1 m1 s (fun x=>x∈CW m1 s∨x<w.heap.size)→Ret Tryz.prog f (ptr m1.bl::caps.toList).toArray w1 fun _ w2=>Q w2) :
  Ret Tryz.prog 87 #[ptr blx,.func (.func f) #[] caps] w fun v w'=>v = .int .i64 0∧Q w':=by
 obtain ⟨w1,rfl⟩:∃ w1,w1=w:=⟨_,rfl⟩;have H:=Ctx.start w1 [];refine Aw (fn:=Tryz.f87) Tryz.func87 U [.pointer (some ⟨blx,0,none⟩),.func (.func f) #[] caps] U (by kernel_rfl) ?_;refine Af (Ad U (Ab (Aa (Aq (Af (Ay U (Co OJ U ?_)))))));refine Ab (Aa (Ap _ U ?_ ?_))
 ·intro h1;cases h1
 ·intro h1;refine Au (Aa (Af (Ay U (Al Oz (Gt L) U ?_))));rintro v w ⟨hx11,z,rfl,Z,-⟩;refine Al ca_30 (Akg L.I.ok hdy z _ Z) U ?_;rintro v w ⟨m1,rfl,HC,I1⟩;have hsz11:=hx11.size;replace HC:=(Ctx.back (L1:=[]) (L2:=[]) (H.call hx11) HC).nil_app;replace I1:=I1.less (T':=fun x=>x∈CW m1 s∨x<w1.heap.size) (fun x hx => .inl hx) (fun x hx=>hx.imp_right fun h=>Nat.lt_of_lt_of_le h hsz11);refine BM U (A6 U U (A6 U U (B3 U (Ad U (Ab (Aa (Aq (Af (Ae U (Cf U U ?_))))))))));refine Ab (Aa (Ap _ U ?_ ?_))
  ·intro h2;replace h2:=AJ h2;refine Az (Da U (.func _ _ _) U ?_);refine Ay U (Fz U hf (hc _ m1 HC I1) U ?_);rintro v w hQ;refine Ab (Aa (Af (Ae U (Ad U (Ab (Aa (A4 (AD (v:=(.int _ _)) U U U ?_))))))));exact ⟨rfl,hQ⟩
  ·intro h2;replace h2:=AK h2;exact absurd U h2
set_option maxRecDepth 20000 in
theorem Pz (g:Value) (w:World):Ret Tryz.prog 87 #[.pointer none,g] w fun v w'=>v = .int .i64 2∧Ext [] w w':=by
 obtain ⟨w1,rfl⟩:∃ w1,w1=w:=⟨_,rfl⟩;have H:=Ctx.start w1 [];refine Aw (fn:=Tryz.f87) Tryz.func87 U [.pointer none,g] U (by kernel_rfl) ?_;refine Af (Ad U (Ab (Aa (Aq (Af (Ay U (Co OJ U ?_)))))));refine Ab (Aa (Ap _ U ?_ ?_))
 ·intro h1;refine Af (Ad U (Ab (Aa (A4 (Ao (AD (v:=(.int _ _)) U U U ?_))))));exact ⟨rfl,H.ext⟩
 ·intro h1;cases h1
set_option maxRecDepth 20000 in
theorem Afb {bl b3 b5:Nat} {wT w:World} {m:Lm} {s:Ld} {T:Nat→Prop} {k:Ak} (hk:AkIn k) (L:Led bl wT w [(b5,Bl 37 [.int .i64 0,.slice none 0 0]),(b3,Bl 40 (BV k))] m s T) :
  Ret Tryz.prog 89 #[ptr bl,ptr b3,ptr b5] w fun _ w'=>Ext [] wT w'∧∃ s' p v1,C6 s k s' p∧w'.heap[b5]? = some (Bl 37 [.int .i64 p.e,v1]):=by
 obtain ⟨w1,rfl⟩:∃ w1,w1=w:=⟨_,rfl⟩;have H:=Ctx.start w1 [];have h3:=L.H.blk (b3,Bl 40 (BV k)) (List.mem_append_left _ (by simp));refine Aw (fn:=Tryz.f89) Tryz.func89 U [.pointer (some ⟨bl,0,none⟩),.pointer (some ⟨b3,0,none⟩),.pointer (some ⟨b5,0,none⟩)] U (by kernel_rfl) ?_;refine Az (Ay U (Cj _ Qr IH U U ((Dr (b:=b3) (t:=40) (l:=BV k) h3 0 (BV k) U)) ?_));refine Al KN (I9 (k:=k) L hk) U ?_;rintro v w ⟨a1,n1,c1,f1,p,s',m',T',rfl,OP,hst,L3,g,hxD⟩;have h5:=L3.H.blk (b5,Bl 37 [.int .i64 0,.slice none 0 0]) (List.mem_append_left _ (by simp));have hb5:=(L3.H.own (b5,Bl 37 [.int .i64 0,.slice none 0 0]) (List.mem_append_left _ (by simp))).elim (fun h=>by cases h) id;have hE:=L3.H.ext;clear H;have H:=Ctx.start1 h5;refine Bm Hs U U U (by simp [AO]) H at0 U ?_;rintro w H;refine Ab (CF U U ?_)
 exact ⟨hE.then H.ext (fun x hx => .inr (by rw [List.mem_singleton.1 hx]; exact hb5)),s',p,_,hst,H.get at0⟩
set_option maxRecDepth 20000 in
theorem Akh {blx:Nat} {w0 w:World} {B:List (Nat × Obj)} {m:Lm} {s:Ld} {T:Nat→Prop} {k:Ak} (hk:AkIn k) (L:Led blx w0 w B m s T) (hdy:DyOk s) :
  Ret Tryz.prog 36 #[ptr blx,.agg (BV k).toArray] w fun v w'=>Ext [] w w'∧∃ s' p,C6 s k s' p∧v = .int .i64 p.e:=by
 obtain ⟨w1,rfl⟩:∃ w1,w1=w:=⟨_,rfl⟩;have H:=Ctx.start w1 [];refine Aw (fn:=Tryz.f36) Tryz.func36 U [.pointer (some ⟨blx,0,none⟩),.agg (BV k).toArray] U (by kernel_rfl) ?_;refine Af (Bv (BV k) (.agg _) U U H ?_);rintro b3 w - H;refine Ad U (Ab (Aa (Af (AX KO H ?_))));rintro b5 w - H;refine Ab (Aa (Aq (Af (Ay U (BQ [.pointer _,.pointer _] U (Al VN (WH (caps:=#[ptr b3,ptr b5]) (Q:=fun w'=>Ext [] w1 w'∧∃ s' p v1,C6 s k s' p∧w'.heap[b5]? = some (Bl 37 [.int .i64 p.e,v1])) (L.next H) hdy ca_89 (fun w2 m2 HC I2=>Afb hk ⟨(Ctx.back (L1:=[]) (L2:=[_,_]) H HC).comm,I2,rfl⟩)) U ?_))))));rintro v w ⟨rfl,hx9,s',p,v1,hst,h5⟩;clear H;obtain ⟨w3,rfl⟩:∃ z,z=w:=⟨_,rfl⟩;have H:=Ctx.start w3 [];refine Ad U (Ab (Aa (Af (Ae U (C9 U U (Ab (Aa (Ap _ U ?_ ?_))))))))
 ·intro h1;replace h1:=CR h1;exact absurd U h1
 ·intro h1;replace h1:=CS h1;refine Au (Aa (Af (Ag LH U (AZ Qq U ((by rw [Aj (H.ext.to h5 (by simp))]; rfl)) ?_))));refine Ad U (Ab (Aa (A4 (AD (v:=(.int _ _)) U U U ?_))));exact ⟨hx9.trans H.ext,s',p,hst,rfl⟩
set_option maxRecDepth 20000 in
theorem Yk (k:Ak) (w:World):Ret Tryz.prog 36 #[.pointer none,.agg (BV k).toArray] w fun v w'=>v = .int .i64 2∧Ext [] w w':=by
 obtain ⟨w1,rfl⟩:∃ w1,w1=w:=⟨_,rfl⟩;have H:=Ctx.start w1 [];refine Aw (fn:=Tryz.f36) Tryz.func36 U [.pointer none,.agg (BV k).toArray] U (by kernel_rfl) ?_;refine Af (Bv (BV k) (.agg _) U U H ?_);rintro b3 w - H;refine Ad U (Ab (Aa (Af (AX KO H ?_))));rintro b5 w - H;refine Ab (Aa (Aq (Af (Ay U (BQ [.pointer _,.pointer _] U (Al VN (Pz _ _) U ?_))))));rintro v w ⟨rfl,hx9⟩;replace H:=H.call hx9;refine Ad U (Ab (Aa (Af (Ae U (C9 U U (Ab (Aa (Ap _ U ?_ ?_))))))))
 ·intro h1;replace h1:=CR h1;refine Af (Ae U (Ad U (Ab (Aa (A4 (Ao (AD (v:=(.int _ _)) U U U ?_)))))));exact ⟨rfl,H.ext⟩
 ·intro h1;replace h1:=CS h1;exact absurd h1 (by decide)
end Go.Proofs.YtdagmpmdcgedcaaGreat
namespace Go.Proofs.YtdagmpmdcgedcaaGreat
open Go.GV
attribute [local irreducible] AB W Wq Wt
abbrev RpX:=Int × Option Addr × Nat × Nat
abbrev Uj (x:RpX):List Value:=[.int .i64 x.1,.slice x.2.1 x.2.2.1 x.2.2.2]
structure TrZ where
 i:Nat
 a:Option Addr
 c:Nat
 f:List Value
 xs:List RpX
 m:Lm
 s:Ld
 T:Nat→Prop
abbrev eR (a:Option Addr) (f:List Value):List (Nat × Obj):=ent a 37 f
theorem Aki {x:Nat × Obj} {y:Nat × Obj} {E R:List (Nat × Obj)} (h:∀ z∈y::(E++R),x.1≠z.1):x.1∉E.map (fun x=>x.1):=fun hm=>by
 obtain ⟨z,hz,hzx⟩:=List.mem_map.1 hm;exact h z (List.mem_cons_of_mem _ (List.mem_append_left _ hz)) hzx.symm
theorem Afc {x:Nat × Obj} {E R:List (Nat × Obj)} (h:∀ z∈E++R,x.1≠z.1):x.1∉E.map (fun x=>x.1):=fun hm=>by
 obtain ⟨z,hz,hzx⟩:=List.mem_map.1 hm;exact h z (List.mem_append_left _ hz) hzx.symm
set_option maxRecDepth 20000 in
set_option maxHeartbeats 4000000 in
theorem Afd {bl b3 b5 b7 b8 c:Nat} {a:Option Addr} {ks:List Ak} {wT w:World} {m:Lm} {s:Ld} {T:Nat→Prop} (L:Led bl wT w [(b7,Bl 80 [.slice none 0 0]),(b8,Bl 32 (stC KE KF)),(b5,Bl 32 (stC KE KF)),(b3,Bl 22 [.slice a ks.length c])] m s T) (hT7:T b7) (R:Rd wT a 7 BV ks) (hin:∀ k∈ks,AkIn k) (hk1:ks.length≤1000) :
  Ret Tryz.prog 88 #[ptr bl,ptr b3,ptr b7,ptr b8] w fun _ w'=>Ext [] wT w'∧∃ s' xs aR cR z,J6 s ks s' (xs.map fun x:RpX=>x.1)∧xs.length=ks.length∧w'.heap[b7]? = some (Bl 80 [.slice aR ks.length cR])∧w'.heap[b8]? = some (Bl 32 (stC s' z))∧Rd w' aR 2 Uj xs∧StAt w' s' z∧w'.heap[b5]? = some (Bl 32 (stC KE KF))∧(xs≠[]→(adr aR).block≠b5)∧StOff s' z (fun x=>x=b5):=by
 obtain ⟨w0,rfl⟩:∃ w0,w0=w:=⟨_,rfl⟩;have H:=Ctx.start w0 [];have h30:=L.H.blk (b3,Bl 22 [.slice a ks.length c]) (List.mem_append_left _ (by simp));refine Aw (fn:=Tryz.f88) Tryz.func88 U [.pointer (some ⟨bl,0,none⟩),.pointer (some ⟨b3,0,none⟩),.pointer (some ⟨b7,0,none⟩),.pointer (some ⟨b8,0,none⟩)] U (by kernel_rfl) ?_;refine Aq (Af (AZ VH U ((by rw [Aj h30]; rfl)) ?_));refine Bi Hn U (Ae U (Ab (Aa (A0 ?_))));clear H;refine Bt 1048128 (α:=TrZ) (fun z=>[(9,.int .i64 (z.i:Int))]) (fun z w'=>(z.i≤ks.length∧z.xs.length=z.i)∧J6 s (ks.take z.i) z.s (z.xs.map fun x:RpX=>x.1)∧OS z.a z.i z.c 2 z.f (z.xs.flatMap Uj)∧Led bl wT w' ((b7,Bl 80 [.slice z.a z.i z.c])::(eR z.a z.f++[(b8,Bl 32 (stC KE KF)),(b5,Bl 32 (stC KE KF)),(b3,Bl 22 [.slice a ks.length c])])) z.m z.s z.T∧z.T b7∧∀ x∈eR z.a z.f,z.T x.1) (fun z=>ks.length - z.i) ⟨0,none,0,[],[],m,s,T⟩ U ?_ ?_ ?_
 ·exact ⟨rfl,trivial⟩
 ·exact ⟨⟨Nat.zero_le _,rfl⟩,⟨rfl,rfl⟩,OS.nil,L,hT7,fun x hx=>by cases hx⟩
 ·clear L hT7;rintro ⟨i,aR,cR,fR,xs,m1,s1,T1⟩ j w ⟨⟨hi,hxl⟩,hS,OR,L,hT7,hTR⟩; dsimp only at hi hxl hS OR L hT7 hTR; dsimp only;obtain ⟨w1,rfl⟩:∃ z,z=w:=⟨_,rfl⟩;have H:=Ctx.start w1 [];have h7:=L.H.blk (b7,Bl 80 [.slice aR i cR]) (List.mem_append_left _ (by simp));refine Af (Bj U U (Ab (Aa (Aq (Ap _ U ?_ ?_)))))
  ·intro h1;replace h1:=AJ h1;obtain ⟨k,hk⟩:=A8 (l:=ks) (i:=i);have hkin:=hin k (List.mem_of_getElem? hk);refine Au (Aa (Aq (A0 (Af (AS (R.ext0 (L.H.ext.trans H.ext)) Hn IH U U (by rfl) ?_)))));refine Cj _ Qr IH U U (((R.ext0 (L.H.ext.trans H.ext)).row hk U)) ?_;refine AX GN H ?_;rintro b6 w - H;refine Bm IH U U U (by exact (by simp [AO])) H at0 U ?_;rintro w H;refine Ab (Aa (ER [([0,1,2],3),([],4),([],5),([],6)] (fun z=>z.heap[b7]? = some (Bl 80 [.slice aR i cR])∧z.heap[b6]? = some (Bl 40 (BV k))) [6] Bs (by kernel_rfl) (⟨H.drew.ext.to h7 (by simp),H.drew.get at0⟩) ?_));refine AF U U ?_;refine B0 YC U (fun _ hx=>(by rw [Aj hx.1]; rfl)) ?_;refine BD U (G5 _ Qr IH U U (fun _ hx=>(Dr (b:=b6) (t:=40) (l:=BV k) hx.2 0 (BV k) rfl)) ?_);refine AP ?_;replace H:=H.drew
   have L1:=L.next H
   refine Al KN (I9 (k:=k) L1 hkin) U ?_;rintro v w ⟨a1,n1,c1,f1,p,s2,m2,T2,rfl,OP,hst,L2,g,hxD⟩;have h72:=L2.H.blk (b7,Bl 80 [.slice aR i cR]) (List.mem_append_left _ (by simp));have h62:=L2.H.blk (b6,Bl 40 (BV k)) (List.mem_append_left _ (by simp));have hnd:=L2.H.nd;have HB:=L2.H;simp only [List.append_assoc,List.cons_append,List.nil_append] at HB;replace HB:=HB.right;have hn6:b6∉(eR aR fR).map (fun x=>x.1):=(Aki (List.pairwise_cons.1 HB.nd).1);replace HB:=HB.tail;have hn7:b7∉(eR aR fR).map (fun x=>x.1):=(Afc (List.pairwise_cons.1 HB.nd).1);obtain ⟨w2,rfl⟩:∃ z,z=w:=⟨_,rfl⟩;clear H;have H:=Ctx.in' (B:=[_]) (L:=eR aR fR) HB;refine Ab (BR (⟨h72,h62⟩) (AF U U ?_));refine AP (Ct _ (.agg _) Nf Hs KO U (by decide) (by decide) U U U H ?_);rintro b17 w - H;refine Ab (BR (⟨H.ext.to h72 hn7,H.ext.to h62 hn6⟩) (AF U U ?_))
   refine AP (CA (L:=[]) Nf Nf Hs by_37 KO U (by decide) U U H OR U (by simp [AO]) ?_);rintro aR' cR' fR' w H OR';have HX:Ctx w2 ((eR aR fR).map fun x=>x.1) w (eR aR' fR'):=H;have HB3:=Ctx.mid (B:=[_]) (L:=eR aR fR) HB HX;obtain ⟨w3,rfl⟩:∃ z,z=w:=⟨_,rfl⟩;clear H;have H:=Ctx.start1 (HB3.get at0);refine Ab (BR (⟨HB3.get at0,HX.ext.to h62 hn6⟩) (AF U U ?_));refine AP (Cp (.slice _ _ _) sz_80 U U U H at0 (by (simp; done)) ?_);rintro w H;refine Ab (Bz U (BH (A5 (Aa (Az (Ax U U ?_))))));refine Ae U (Ab (Aa ?_))
   have hT2R:∀ x∈(eR aR fR).map (fun x=>x.1),T2 x:=fun x hx=>by
    obtain ⟨y,hy,rfl⟩:=List.mem_map.1 hx;exact g.1 _ (hTR y hy)
   have g2:Grows T2 (fun x=>T2 x∨x∈(eR aR' fR').map (fun x=>x.1)) w2:=⟨fun x hx => .inl hx,fun x hx=>hx.elim .inl fun h=>by
    obtain ⟨y,hy,rfl⟩:=List.mem_map.1 h
    exact (HX.own y hy).imp_left (hT2R _)⟩
   have I3:LdIn w3 m2 s2 (fun x=>T2 x∨x∈(eR aR' fR').map (fun x=>x.1)):=L2.I.grow HX.ext (fun x hx => .inl (hT2R x hx)) g2 fun x hx=>hx.elim (fun h=>Nat.lt_of_lt_of_le (L2.I.low x h) HX.size) fun h=>by
    obtain ⟨y,hy,rfl⟩:=List.mem_map.1 h;exact Ba (HX.blk y hy)
   have I4:=I3.grow H.ext (fun x hx => .inl (.inl (by rw [List.mem_singleton.1 hx]; exact g.1 _ hT7))) (Grows.refl _ _) fun x hx=>Nat.lt_of_lt_of_le (I3.low x hx) H.size
   have HN:Ctx wT [] w (((b7,Bl 80 [.slice aR' (i+1) cR'])::(eR aR' fR'++[(b8,Bl 32 (stC KE KF)),(b5,Bl 32 (stC KE KF)),(b3,Bl 22 [.slice a ks.length c])]))++LL m2 s2):=by
    simp only [List.cons_append,List.append_assoc,List.nil_append];exact Ctx.back (L1:=[_]) HB3 H
   refine ⟨⟨i+1,aR',cR',fR',xs++[(p.e,a1,n1,c1)],m2,s2,fun x=>T2 x∨x∈(eR aR' fR').map (fun x=>x.1)⟩,rfl,⟨rfl,trivial⟩,⟨⟨by dsimp only; omega,by dsimp only; rw [List.length_append,List.length_singleton,hxl]⟩,?_,?_,⟨HN,I4,L2.e⟩,.inl (g.1 _ hT7),fun x hx => .inr (List.mem_map_of_mem (f:=fun x:Nat × Obj=>x.1) hx)⟩,by dsimp only; omega⟩
   ·dsimp only;rw [List.take_add_one,hk,List.map_append];exact Py hS hst
   ·dsimp only;rw [List.flatMap_append,List.flatMap_singleton];exact OR'
  ·intro h1;replace h1:=AK h1;obtain rfl:i=ks.length:=by omega
   have h8:=L.H.blk (b8,Bl 32 (stC KE KF)) (List.mem_append_left _ (by simp));have hnd:=List.pairwise_cons.1 L.H.left.nd;have h78:b7≠b8:=hnd.1 (b8,Bl 32 (stC KE KF)) (by simp);have h58:b5≠b8:=Ne.symm ((List.pairwise_cons.1 (List.pairwise_append.1 hnd.2).2.1).1 (b5,Bl 32 (stC KE KF)) (by simp));have h5:=L.H.blk (b5,Bl 32 (stC KE KF)) (List.mem_append_left _ (by simp));have hR8:∀ x∈eR aR fR,x.1≠b8:=fun x hx=>(List.pairwise_append.1 hnd.2).2.2 x hx (b8,Bl 32 (stC KE KF)) (by simp);have hR5:∀ x∈eR aR fR,x.1≠b5:=fun x hx=>(List.pairwise_append.1 hnd.2).2.2 x hx (b5,Bl 32 (stC KE KF)) (by simp);have hb8:=(L.H.own (b8,Bl 32 (stC KE KF)) (List.mem_append_left _ (by simp))).elim (fun h=>by cases h) id;refine Bq (Am (Am (AG (Aa (Az (Ay U (Al Oz (Gt L) U ?_)))))));rintro v w ⟨hx21,z,rfl,Z,O⟩;clear H;obtain ⟨w3,rfl⟩:∃ z,z=w:=⟨_,rfl⟩;have H:=Ctx.start1 (hx21.to h8 (by simp))
   refine Bm DZ U U U (by exact (by simp [AO])) H at0 U ?_;rintro w H;refine Ab (CF U U ?_);have hb8l:=Ba h8;rw [List.take_length] at hS;refine ⟨(L.H.ext.trans hx21).then H.ext (fun x hx => .inr (by rw [List.mem_singleton.1 hx]; exact hb8)),s1,xs,aR,cR,z,hS,hxl,H.ext.to (hx21.to h7 (by simp)) (by rw [List.mem_singleton]; exact h78),H.get at0,OS.rd (t:=37) OR (fun x hx=>H.ext.to (hx21.to (L.H.blk x (List.mem_append_left _ (List.mem_cons_of_mem _ (List.mem_append_left _ hx)))) (by simp)) (by rw [List.mem_singleton]; exact hR8 x hx)) (fun _ _=>rfl) (by decide),Z.ext H.ext (O.mono fun x hx=>by rw [List.mem_singleton.1 hx]; exact hb8l),H.ext.to (hx21.to h5 (by simp)) (by rw [List.mem_singleton]; exact h58),fun hne=>?_,O.mono fun x hx=>by rw [hx]; exact Ba h5⟩;obtain ⟨b,rfl⟩:=OR.form (by have:=List.length_pos_iff.2 hne; omega);exact hR5 (b,_) (List.mem_singleton_self _)
end Go.Proofs.YtdagmpmdcgedcaaGreat
namespace Go.Proofs.YtdagmpmdcgedcaaGreat
open Go.GV
attribute [local irreducible] AB W Wq Wt
abbrev stC0:List Value:=stC KE KF
set_option maxRecDepth 20000 in
theorem Acg {blx:Nat} {w0 w:World} {B:List (Nat × Obj)} {m:Lm} {s:Ld} {T:Nat→Prop} {a:Option Addr} {c:Nat} {ks:List Ak} (L:Led blx w0 w B m s T) (hdy:DyOk s) (R:Rd w a 7 BV ks) (hin:∀ k∈ks,AkIn k) (hk1:ks.length≤1000) :
  Ret Tryz.prog 35 #[ptr blx,.slice a ks.length c] w fun v w'=>Ext [] w w'∧∃ s' xs aR cR z,J6 s ks s' (xs.map fun x:RpX=>x.1)∧xs.length=ks.length∧v = .tuple #[.slice aR ks.length cR,.agg (stC s' z).toArray,.int .i64 0]∧Rd w' aR 2 Uj xs∧StAt w' s' z:=by
 obtain ⟨w1,rfl⟩:∃ w1,w1=w:=⟨_,rfl⟩;have H:=Ctx.start w1 [];refine Aw (fn:=Tryz.f35) Tryz.func35 U [.pointer (some ⟨blx,0,none⟩),.slice a ks.length c] U (by kernel_rfl) ?_;refine Af (Bv _ (.slice _ _ _) U U H ?_);rintro b3 w - H;refine A1 U (AX GM H ?_);rintro b5 w - H;refine Ad U (Ab (Aa (Aq (Af (BU (α:=Unit) 130048 (fun _=>[(16,.bool (decide (1000<ks.length)))]) (fun _ w'=>Ctx w1 [] w' [(b5,Bl 32 stC0),(b3,Bl 22 [.slice a ks.length c])]) U ?_ ?_)))))
 ·refine Ay U (M4 U OJ U ?_);refine AE U (AY 12 U ?_ ?_)
  ·intro h1;refine AM VH U H at1 U (Bi Hn U (Cs U U (AN U (.bool _) U (Ab ?_))));exact ⟨rfl,(),rfl,⟨congrArg Value.bool (by (simp; omega)),trivial⟩,H⟩
  ·intro h2;refine Ah U (Ah U (Ah U (AU U (.bool _) U (Ab ?_))));exact ⟨rfl,(),rfl,⟨congrArg Value.bool (by (simp; omega)),trivial⟩,H⟩
 rintro - j16 w H;refine Ap _ U ?_ ?_
 ·intro h1;exact absurd (of_decide_eq_true h1) (by omega)
 ·intro h1;refine Au (Aa (Af (AX Af5 H ?_)));rintro b7 w - H;refine Ab (Aa (Af (AX GM H ?_)));rintro b8 w - H;refine Ab (Aa (Af (Ay U (BQ [.pointer _,.pointer _,.pointer _] U (Al VN (WH (caps:=#[ptr b3,ptr b7,ptr b8]) (Q:=fun w'=>Ext [] w1 w'∧∃ s' xs aR cR z,J6 s ks s' (xs.map fun x:RpX=>x.1)∧xs.length=ks.length∧w'.heap[b7]? = some (Bl 80 [.slice aR ks.length cR])∧w'.heap[b8]? = some (Bl 32 (stC s' z))∧Rd w' aR 2 Uj xs∧StAt w' s' z∧w'.heap[b5]? = some (Bl 32 (stC KE KF))∧(xs≠[]→(adr aR).block≠b5)∧StOff s' z (fun x=>x=b5)) (L.next H) hdy ca_88 (fun w2 m2 HC I2=>Afd ⟨((Ctx.back (L1:=[]) (L2:=[_,_,_,_]) H HC).comm).perm (List.Perm.swap _ _ _),I2,rfl⟩ (.inr (Ba (H.get at1))) R hin hk1)) U ?_)))));rintro v w ⟨rfl,hx20,s',xs,aR,cR,z,hst,hxl,h7,h8,RR,Z,h5,hR5,hZ5⟩;have hb5:=(H.own _ (List.mem_cons_of_mem _ (List.mem_cons_of_mem _ (List.mem_cons_self ..)))).elim (fun h=>by cases h) id
  have hn7:b7≠b5:=((List.pairwise_cons.1 (List.pairwise_cons.1 H.nd).2).1 _ (List.mem_cons_self ..));have hn8:b8≠b5:=((List.pairwise_cons.1 H.nd).1 _ (List.mem_cons_of_mem _ (List.mem_cons_self ..)));clear H;obtain ⟨w3,rfl⟩:∃ z,z=w:=⟨_,rfl⟩;have H:=Ctx.start1 h5;refine Ad U (Ab (Aa (Cq [([0,1,2,3],4),([],5)] (fun z=>z=World.drew w3) [4,5] Bs (by kernel_rfl) (rfl) ?_)));refine AF U U ?_;refine B0 YC U (fun _ hx=>(by subst hx; rw [Aj (show (World.drew w3).heap[b7]? = _ from h7)]; rfl)) ?_;refine G5 _ J9 DZ U U (fun _ hx=>(by subst hx; exact Dr (b:=b8) (t:=32) (l:=stC s' z) (show (World.drew w3).heap[b8]? = _ from h8) 0 (stC s' z) rfl)) ?_;refine Be U (DB U (AP ?_));replace H:=H.drew;refine Bm DZ U U U (by simp [AO]) H at0 U ?_;rintro w H;refine Ab (Bz U (AF U U ?_))
  refine AP (Ad U (Ab (Bz U (BH (A4 (Ro U U (show _=(.slice _ _ _) from rfl) U J9 DZ H at0 U (show _=(.int _ _) from rfl) ?_))))));exact ⟨hx20.then H.ext (fun x hx => .inr (by rw [List.mem_singleton.1 hx]; exact hb5)),s',xs,aR,cR,z,hst,hxl,rfl,Rd.ext' RR H.ext (fun h=>by rw [List.mem_singleton]; exact hR5 h),Z.ext H.ext (hZ5.mono fun x hx=>List.mem_singleton.1 hx)⟩
set_option maxRecDepth 20000 in
theorem QU (a:Option Addr) (n c:Nat) (w:World):Ret Tryz.prog 35 #[.pointer none,.slice a n c] w fun v w'=>v = .tuple #[.slice none 0 0,.agg stC0.toArray,.int .i64 2]∧Ext [] w w':=by
 obtain ⟨w1,rfl⟩:∃ w1,w1=w:=⟨_,rfl⟩;have H:=Ctx.start w1 [];refine Aw (fn:=Tryz.f35) Tryz.func35 U [.pointer none,.slice a n c] U (by kernel_rfl) ?_;refine Af (Bv _ (.slice _ _ _) U U H ?_);rintro b3 w - H;refine A1 U (AX GM H ?_);rintro b5 w - H;refine Ad U (Ab (Aa (Aq (Af (BU (α:=Unit) 130048 (fun _=>[(16,.bool (false))]) (fun _ w'=>Ctx w1 [] w' [(b5,Bl 32 stC0),(b3,Bl 22 [.slice a n c])]) U ?_ ?_)))))
 ·refine Ay U (M4 U OJ U ?_);refine AE U (AY 12 U ?_ ?_)
  ·intro h1;refine AM VH U H at1 U (Bi Hn U (Cs U U (AN U (.bool _) U (Ab ?_))));exact ⟨rfl,(),rfl,⟨congrArg Value.bool (by contradiction),trivial⟩,H⟩
  ·intro h2;refine Ah U (Ah U (Ah U (AU U (.bool _) U (Ab ?_))));exact ⟨rfl,(),rfl,⟨congrArg Value.bool (by rfl),trivial⟩,H⟩
 rintro - j16 w H;refine Fg U (Au (Aa (Af (AX Af5 H ?_))));rintro b7 w - H;refine Ab (Aa (Af (AX GM H ?_)));rintro b8 w - H;refine Ab (Aa (Af (Ay U (BQ [.pointer _,.pointer _,.pointer _] U (Al VN (Pz _ _) U ?_)))));rintro v w ⟨rfl,hx20⟩;replace H:=H.call hx20;have h8:=H.get at0;have h7:=H.get at1;have h5:=H.get at2;have hb5:=(H.own _ (List.mem_cons_of_mem _ (List.mem_cons_of_mem _ (List.mem_cons_self ..)))).elim (fun h=>by cases h) id;have H9:=H.ext;clear H;obtain ⟨w3,rfl⟩:∃ z,z=w:=⟨_,rfl⟩;have H:=Ctx.start1 h5;refine Ad U (Ab (Aa (Cq [([0,1,2,3],4),([],5)] (fun z=>z=World.drew w3) [4,5] Bs (by kernel_rfl) (rfl) ?_)));refine AF U U ?_;refine B0 YC U (fun _ hx=>(by subst hx; rw [Aj (show (World.drew w3).heap[b7]? = _ from h7)]; rfl)) ?_
 refine G5 _ J9 DZ U U (fun _ hx=>(by subst hx; exact Dr (b:=b8) (t:=32) (l:=stC0) (show (World.drew w3).heap[b8]? = _ from h8) 0 stC0 rfl)) ?_;refine Be U (DB U (AP ?_));replace H:=H.drew;refine Bm DZ U U U (by simp [AO]) H at0 U ?_;rintro w H;refine Ab (Bz U (AF U U ?_));refine AP (Ad U (Ab (Bz U (BH (A4 (Ro U U (show _=(.slice _ _ _) from rfl) U J9 DZ H at0 U (show _=(.int _ _) from rfl) ?_))))));exact ⟨rfl,H9.then H.ext (fun x hx => .inr (by rw [List.mem_singleton.1 hx]; exact hb5))⟩
set_option maxRecDepth 20000 in
theorem V2 (b:Nat) (a:Option Addr) (n c:Nat) (hn:1000<n) (w:World):Ret Tryz.prog 35 #[ptr b,.slice a n c] w fun v w'=>v = .tuple #[.slice none 0 0,.agg stC0.toArray,.int .i64 6]∧Ext [] w w':=by
 obtain ⟨w1,rfl⟩:∃ w1,w1=w:=⟨_,rfl⟩;have H:=Ctx.start w1 [];refine Aw (fn:=Tryz.f35) Tryz.func35 U [.pointer (some ⟨b,0,none⟩),.slice a n c] U (by kernel_rfl) ?_;refine Af (Bv _ (.slice _ _ _) U U H ?_);rintro b3 w - H;refine A1 U (AX GM H ?_);rintro b5 w - H;refine Ad U (Ab (Aa (Aq (Af (BU (α:=Unit) 130048 (fun _=>[(16,.bool (true))]) (fun _ w'=>Ctx w1 [] w' [(b5,Bl 32 stC0),(b3,Bl 22 [.slice a n c])]) U ?_ ?_)))))
 ·refine Ay U (M4 U OJ U ?_);refine AE U (AY 12 U ?_ ?_)
  ·intro h1;refine AM VH U H at1 U (Bi Hn U (Cs U U (AN U (.bool _) U (Ab ?_))));exact ⟨rfl,(),rfl,⟨congrArg Value.bool (by exact decide_eq_true (by omega)),trivial⟩,H⟩
  ·intro h2;refine Ah U (Ah U (Ah U (AU U (.bool _) U (Ab ?_))));exact ⟨rfl,(),rfl,⟨congrArg Value.bool (by exact decide_eq_true (by omega)),trivial⟩,H⟩
 rintro - j16 w H;refine Dz U (Af (B1 stC0 Afx GM (by kernel_rfl) ?_));refine A1 U (Bm DZ U U U (by simp [AO]) H at0 U ?_);rintro w H;refine Ad U (Ab (Aa (A4 (Ao (Ro U U (show _=(.slice _ _ _) from rfl) U J9 DZ H at0 U (show _=(.int _ _) from rfl) ?_)))));exact ⟨rfl,H.ext⟩
def FstR (cs:List Int) (e:Int) (v:Value):Prop:=(∃ n:Nat,v = .tuple #[.int .i64 (n:Int),.bool true]∧cs[n]? = some e∧∀ j:Nat,j<n→cs[j]? ≠ some e)∨(v = .tuple #[.int .i64 0,.bool false]∧∀ j:Nat,cs[j]? ≠ some e)
set_option maxRecDepth 20000 in
theorem Ach {blx:Nat} {w0 w:World} {B:List (Nat × Obj)} {m:Lm} {s:Ld} {T:Nat→Prop} {a:Option Addr} {c:Nat} {ks:List Ak} (e:Int) (L:Led blx w0 w B m s T) (hdy:DyOk s) (R:Rd w a 7 BV ks) (hin:∀ k∈ks,AkIn k) (hk1:ks.length≤1000) :
  Ret Tryz.prog 37 #[ptr blx,.slice a ks.length c,.int .i64 e] w fun v w'=>Ext [] w w'∧∃ s' cs,J6 s ks s' cs∧FstR cs e v:=by
 obtain ⟨w1,rfl⟩:∃ w1,w1=w:=⟨_,rfl⟩;have H:=Ctx.start w1 [];refine Aw (fn:=Tryz.f37) Tryz.func37 U [.pointer (some ⟨blx,0,none⟩),.slice a ks.length c,.int .i64 e] U (by kernel_rfl) ?_;refine Af (Ad U (Ai U (Ab (Aa (Af (Ay U (A3 U (Al Tl (Acg L hdy R hin hk1) U ?_))))))));rintro v w ⟨hx16,s',xs,aR,cR,z,hst,hxl,rfl,RR,-⟩;rw [← hxl];clear H;obtain ⟨w3,rfl⟩:∃ z,z=w:=⟨_,rfl⟩;have H:=Ctx.start w3 [];refine BM U (A6 U U (A6 U U (A6 U U (AX GM H ?_))));rintro b9 w - H;refine A1 U (Bm DZ U U U (by simp [AO]) H at0 U ?_);rintro w H;refine Ad U (Ab (Aa (Aq (Af (Ae U (C9 U U (Ab (Aa (Ap _ U ?_ ?_)))))))))
 ·intro h1;replace h1:=CR h1;exact absurd U h1
 ·intro h1;replace h1:=CS h1;refine Au (Aa (Aq (Af (A3 U (Bi Nf U (Ae U (Ab (Aa (A0 ?_)))))))));replace hx16:=hx16.trans H.ext;replace RR:=RR.ext0 H.ext;clear H;obtain ⟨w4,rfl⟩:∃ z,z=w:=⟨_,rfl⟩;have H:=Ctx.start w4 [];refine Bt 34342967488 (α:=Nat) (fun i=>[(24,.int .i64 (i:Int))]) (fun i w'=>(i≤xs.length∧∀ j:Nat,j<i→(xs.map fun x:RpX=>x.1)[j]? ≠ some e)∧Ctx w4 [] w' []) (fun i=>xs.length - i) 0 U ?_ ?_ ?_
  ·exact ⟨rfl,trivial⟩
  ·exact ⟨⟨Nat.zero_le _,fun j h=>absurd h (Nat.not_lt_zero _)⟩,H⟩
  ·clear H;rintro i j w ⟨⟨hi,hno⟩,H⟩;refine Af (Bj U U (Ab (Aa (Aq (Ap _ U ?_ ?_)))))
   ·intro h2;replace h2:=AJ h2;obtain ⟨x,hx⟩:=A8 (l:=xs) (i:=i);have hxe:(xs.map fun x:RpX=>x.1)[i]? = some x.1:=by rw [List.getElem?_map,hx]; rfl
    refine Au (Aa (Aq (A0 (Af (Ae U (AS (RR.ext0 H.ext) Nf Hs U U (by rfl) ?_))))));refine Cj _ VI Hs U U (((RR.ext0 H.ext).row hx U)) ?_;refine AX KO H ?_;rintro b12 w - H;refine Ad U (Bm Hs U U U (by exact (by simp [AO])) H at0 U ?_);rintro w H;refine Ab (Aa ?_);replace H:Ctx w4 [] w [(b12,Bl 37 (Uj x))]:=H;refine Af (Ag LH U (AM Qq U H at0 U (Ae U (Cf U U (Ab (Aa (Ap _ U ?_ ?_)))))))
    ·intro h3;replace h3:=AJ h3;refine Af (Ae U (Ad U (Ai U (Ab (Aa (A4 (AA (Ao (Ao (AA (Ao (BL (v1:=(.int _ _)) (v2:=(.bool _)) U U U U ?_))))))))))));exact ⟨hx16.trans H.ext,s',_,hst,Or.inl ⟨i,rfl,by rw [hxe,h3],hno⟩⟩
    ·intro h3;replace h3:=AK h3;refine Au (A5 (Aa (Az (Ax U U ?_))));refine Ae U (Ab (Aa ?_));refine ⟨i+1,rfl,⟨rfl,trivial⟩,⟨⟨by omega,fun j hj=>?_⟩,H.tail⟩,by omega⟩
     rcases Nat.lt_succ_iff_lt_or_eq.1 hj with h | rfl
     ·exact hno j h
     ·rw [hxe];exact fun hh=>h3 (Option.some.inj hh)
   ·intro h2;replace h2:=AK h2;obtain rfl:i=xs.length:=by omega
    refine Bq (Am (Am (AG (Aa (Af (Ad U (Ai U (Ab (Aa (A4 (BL (v1:=(.int _ _)) (v2:=(.bool _)) U U U U ?_)))))))))));refine ⟨hx16.trans H.ext,s',_,hst,Or.inr ⟨rfl,fun j=>?_⟩⟩
    by_cases hj:j<xs.length
    ·exact hno j hj
    ·rw [List.getElem?_eq_none (by rw [List.length_map]; omega)];exact fun h=>by cases h
set_option maxRecDepth 20000 in
theorem Uk (a:Option Addr) (n c:Nat) (e:Int) (w:World):Ret Tryz.prog 37 #[.pointer none,.slice a n c,.int .i64 e] w fun v w'=>v = .tuple #[.int .i64 0,.bool false]∧Ext [] w w':=by
 obtain ⟨w1,rfl⟩:∃ w1,w1=w:=⟨_,rfl⟩;have H:=Ctx.start w1 [];refine Aw (fn:=Tryz.f37) Tryz.func37 U [.pointer none,.slice a n c,.int .i64 e] U (by kernel_rfl) ?_;refine Af (Ad U (Ai U (Ab (Aa (Af (Ay U (A3 U (Al Tl (QU a n c _) U ?_))))))));rintro v w ⟨rfl,hx16⟩;replace H:=H.call hx16;refine BM U (A6 U U (A6 U U (A6 U U (AX GM H ?_))));rintro b9 w - H;refine A1 U (Bm DZ U U U (by simp [AO]) H at0 U ?_);rintro w H;refine Ad U (Ab (Aa (Aq (Af (Ae U (C9 U U (Ab (Aa (Ap _ U ?_ ?_)))))))))
 ·intro h1;replace h1:=CR h1;refine Af (Ad U (Ai U (Ab (Aa (A4 (Ao (BL (v1:=(.int _ _)) (v2:=(.bool _)) U U U U ?_)))))));exact ⟨rfl,H.ext⟩
 ·intro h1;replace h1:=CS h1;exact absurd h1 (by decide)
end Go.Proofs.YtdagmpmdcgedcaaGreat
namespace Go.Proofs.YtdagmpmdcgedcaaGreat
open Go.GV
attribute [local irreducible] AB W Wq Wt
abbrev yS:Ld:=⟨0,yA0,yD0,2,[],0⟩
abbrev yK:List Ak:=[ak 3 0 0 2 0 0 0,ak 3 0 0 6 0 0 0]
theorem Agd:∀ k∈yK,AkIn k:=fun k hk=>by
 simp only [List.mem_cons,List.not_mem_nil,or_false] at hk
 rcases hk with rfl | rfl
 ·exact Ml (by decide)
 ·exact Ml (by decide)
theorem WI {s':Ld} {cs:List Int} (h:J6 yS yK s' cs):s'=⟨0,[⟨3,0⟩,⟨0,0⟩],yD0,2,[],0⟩∧cs=[0,12]:=by
 obtain ⟨s1,p1,c1,h1,⟨s2,p2,c2,h2,⟨rfl,rfl⟩,rfl⟩,rfl⟩:=h;obtain ⟨rfl,rfl⟩:s1=⟨0,[⟨3,0⟩,⟨0,0⟩],yD0,2,[],0⟩∧p1=⟨0,[3,0]⟩:=Gc h1 (by decide);obtain ⟨rfl,rfl⟩:s'=⟨0,[⟨3,0⟩,⟨0,0⟩],yD0,2,[],0⟩∧p2=⟨12,[]⟩:=Gc h2 (by decide);exact ⟨rfl,rfl⟩
theorem y_can {s':Ld} {p:Rp} (h:C6 yS (ak 3 0 0 6 0 0 0) s' p):p.e=12:=by
 obtain ⟨rfl,rfl⟩:s'=yS∧p=⟨12,[]⟩:=Gc h (by decide);rfl
theorem y_fst {v:Value} (h:FstR [0,12] 12 v):v = .tuple #[.int .i64 1,.bool true]:=by
 rcases h with ⟨n,rfl,h1,h2⟩ | ⟨-,h2⟩
 ·match n,h1,h2 with
  | 0,h1,_=>exact absurd h1 (by decide)
  | 1,_,_=>rfl
  | n+2,_,h2=>exact absurd rfl (h2 1 (by omega))
 ·exact absurd U (h2 1)
theorem y_two {xs:List RpX} (h:(xs.map fun x:RpX=>x.1)=[0,12]):∃ p q,xs=[(0,p),(12,q)]:=by
 match xs,h with
 | [(a,p),(b,q)],h =>
  simp only [List.map_cons,List.map_nil,List.cons.injEq,and_true] at h;obtain ⟨rfl,rfl⟩:=h;exact ⟨p,q,rfl⟩
set_option maxRecDepth 20000 in
set_option maxHeartbeats 4000000 in
theorem EG (w:World):Ret Tryz.prog 34 #[] w fun v w'=>v = .bool true∧Ext [] w w':=by
 obtain ⟨w0,rfl⟩:∃ w0,w0=w:=⟨_,rfl⟩;refine Aw (fn:=Tryz.f34) Tryz.func34 U [] U (by kernel_rfl) ?_;refine Af (Ai U (Ab (Aa (Af (Al VK (NM _) U ?_)))));rintro v w ⟨m0,rfl,H0,I0⟩;obtain ⟨bl,hb0⟩:∃ b,m0.bl=b:=⟨_,rfl⟩;have L:Led bl w0 w [] m0 s00 (fun x=>x∈CW m0 s00):=⟨H0,I0,hb0⟩;rw [hb0];clear H0 I0 hb0;obtain ⟨w1,rfl⟩:∃ z,z=w:=⟨_,rfl⟩;have H:=Ctx.start w1 [];refine B3 U (Ab (Aa (Af (Ay U (B1 (BV (ak 1 0 0 0 0 0 0)) JA GN (by kernel_rfl) ?_)))));replace L:=(L.next H).drop;refine Al KN (I9 (k:=ak 1 0 0 0 0 0 0) L (Ml (by decide))) U ?_;clear L H;rintro v w ⟨a1,n1,c1,f1,p1,s1,m1,T1,rfl,-,hst1,L,-,-⟩;replace L:=L.drop;obtain ⟨rfl,rfl⟩:s1=⟨0,[⟨0,0⟩],[],1,[],0⟩∧p1=⟨0,[0]⟩:=Gc hst1 (by decide);clear hst1;obtain ⟨w2,rfl⟩:∃ z,z=w:=⟨_,rfl⟩;have H:=Ctx.start w2 [];refine Ab (Aa (Af (Ay U (B1 (BV (ak 1 0 0 0 0 0 0)) JA GN (by kernel_rfl) ?_))));replace L:=(L.next H).drop
 refine Al KN (I9 (k:=ak 1 0 0 0 0 0 0) L (Ml (by decide))) U ?_;clear L H;rintro v w ⟨a2,n2,c2,f2,p2,s2,m2,T2,rfl,-,hst2,L,-,-⟩;replace L:=L.drop;obtain ⟨rfl,rfl⟩:s2=⟨0,[⟨0,0⟩,⟨0,0⟩],[],1,[],0⟩∧p2=⟨0,[1]⟩:=Gc hst2 (by decide);clear hst2;obtain ⟨w3,rfl⟩:∃ z,z=w:=⟨_,rfl⟩;have H:=Ctx.start w3 [];refine Ab (Aa (Af (Ay U (B1 (BV (ak 2 0 0 5 0 0 0)) JA GN (by kernel_rfl) ?_))));replace L:=(L.next H).drop;refine Al KN (I9 (k:=ak 2 0 0 5 0 0 0) L (Ml (by decide))) U ?_;clear L H;rintro v w ⟨a3,n3,c3,f3,p3,s3,m3,T3,rfl,-,hst3,L,-,-⟩;replace L:=L.drop;obtain ⟨rfl,rfl⟩:s3=⟨0,yA0,[],1,[],0⟩∧p3=⟨0,[5,0]⟩:=Gc hst3 (by decide);clear hst3;obtain ⟨w4,rfl⟩:∃ z,z=w:=⟨_,rfl⟩;have H:=Ctx.start w4 [];refine Ab (Aa (Af (Ay U (B1 (BV (ak 5 0 1 9 2 3 0)) JA GN (by kernel_rfl) ?_))));replace L:=(L.next H).drop;refine Al KN (I9 (k:=ak 5 0 1 9 2 3 0) L (Ml (by decide))) U ?_;clear L H
 rintro v w ⟨a4,n4,c4,f4,p4,s4,m4,T4,rfl,-,hst4,L,-,-⟩;replace L:=L.drop;obtain ⟨rfl,rfl⟩:s4=⟨0,yA0,yD0,2,[],0⟩∧p4=⟨0,[1]⟩:=Gc hst4 (by decide);clear hst4;obtain ⟨w5,rfl⟩:∃ z,z=w:=⟨_,rfl⟩;have H:=Ctx.start w5 [];refine Ab (Aa (Af (Ay U ?_)));replace L:=(L.next H).drop;refine Al Oz (Gt L) U ?_;clear H;rintro v w ⟨hx24,z1,rfl,Z1,-⟩;replace L:=L.call hx24;obtain ⟨w6,rfl⟩:∃ z,z=w:=⟨_,rfl⟩;have H:=Ctx.start w6 [];refine Al VL (Mm _ _ _ _ yA0 yD0 0 _ Z1.A Z1.D (_h1:=by decide) (h2:=by decide) (by decide) (by decide) ⟨rfl,rfl,rfl,rfl,rfl⟩) U ?_;rintro v w ⟨rfl,hx25⟩;rw [show Jc yA0 yD0 0=4 by decide,show Jb yA0 0=0 by decide];replace H:=H.call hx25;refine BM U (A6 U U (A6 U U (Ad U (Ad U (Ab (Aa (Af (Ay U (B1 (BV (ak 3 0 0 2 0 0 0)) JA GN (by kernel_rfl) ?_)))))))));refine B1 (BV (ak 3 0 0 6 0 0 0)) JA GN (by kernel_rfl) ?_
 refine D9 (yK.flatMap BV) Hn IH GN (by decide) (by decide) (by kernel_rfl) H ?_;rintro y1 w - H;replace L:=(L.next H).drop;refine Al Tl (Acg (ks:=yK) L (fun r hr=>by cases hr) (Rd.of_bl (r:=[]) (H.get at0) U (by decide)) Agd (by decide)) U ?_;clear H;rintro v w ⟨hx33,s',xs,aR,cR,z2,hst,-,rfl,RR,Z2⟩;rw [show yK.length=2 from rfl];obtain ⟨rfl,hxs⟩:=WI hst;obtain ⟨p1,p2,rfl⟩:=y_two hxs;clear hst hxs;replace L:=L.call hx33;obtain ⟨w7,rfl⟩:∃ z,z=w:=⟨_,rfl⟩;have H:=Ctx.start w7 [];refine BM U (A6 U U (A6 U U (A6 U U (AX GM H ?_))));rintro b5 w - H;refine A1 U (Bm DZ U U U (by exact (by simp [AO])) H at0 U ?_);rintro w H;refine Ad U (Ab (Aa (Af (Ay U (B1 (BV (ak 3 0 0 2 0 0 0)) JA GN (by kernel_rfl) ?_)))));refine B1 (BV (ak 3 0 0 6 0 0 0)) JA GN (by kernel_rfl) ?_;refine D9 (yK.flatMap BV) Hn IH GN (by decide) (by decide) (by kernel_rfl) H ?_;rintro y2 w - H
 refine Al Afr (Ach (ks:=yK) 12 (L.next H) (fun r hr=>by cases hr) (Rd.of_bl (r:=[]) (H.get at0) U (by decide)) Agd (by decide)) U ?_;rintro v w ⟨hx42,s2',cs,hst,hv⟩;obtain ⟨-,rfl⟩:=WI hst;obtain rfl:=y_fst hv;clear hst hv;replace H:=H.call hx42;refine BM U (A6 U U (A6 U U (Ad U (Ai U (Ab (Aa (Af (Ae U (Cf U U (AE U ?_))))))))));refine Ae U (Cf U U (AN U (.bool _) U (AE U (Ae U (Cf U U (AN U (.bool _) U (AE U (A3 U (Bi Nf U ?_)))))))));refine Cf U U (AN U (.bool _) U (AE U (A3 U (AS (RR.ext0 H.ext) Nf Hs U U (by rfl) ?_))));refine Ag LH U (AZ Qq U (((RR.ext0 H.ext).fld (i:=0) (j:=0) U U U)) ?_);refine Cf U U (AN U (.bool _) U (AE U (A3 U (AS (RR.ext0 H.ext) Nf Hs U U (by rfl) ?_))));refine Ag LH U (AZ Qq U (((RR.ext0 H.ext).fld (i:=1) (j:=0) U U U)) ?_)
 refine Cf U U (AN U (.bool _) U (AE U (Ag Em U (AM Ek U H at1 U (Bi Dg U (Cf U U (AN U (.bool _) U (AE U (Ag Em U ?_)))))))));refine AM Ek U H at1 U (AS (i:=0) (n:=2) (Z2.A.ext0 H.ext) Dg Dx U U (h0:=by decide) (h1:=by decide) U ?_);refine Ag DW U (AZ Bw U (((Z2.A.ext0 H.ext).fld (i:=0) (j:=0) U U U)) ?_);refine Cf U U (AN U (.bool _) U (AE U (Ae U (Cf U U (AN U (.bool _) U (AE U (AE U (AN U (.bool _) U (AE U ?_)))))))));refine Ay U (B1 (BV (ak 3 0 0 6 0 0 0)) JA GN (by kernel_rfl) ?_);refine Al Afq (Akh (k:=ak 3 0 0 6 0 0 0) (Ml (by decide)) (L.next H) (fun r hr=>by cases hr)) U ?_;rintro v w ⟨hx98,s3',p3,hst,rfl⟩;rw [y_can hst];clear hst;replace H:=H.call hx98;refine Cf U U (AN U (.bool _) U (AE U (Ay U (Al Oz (Gt (L.next H)) U ?_))));rintro v w ⟨hx103,z3,rfl,Z3,-⟩;replace H:=H.call hx103
 refine Qn (off:=1) (v := .slice z3.aA 2 z3.cA) U (by kernel_rfl) U U ?_;refine AS (i:=0) (n:=2) Z3.A Dg Dx U U (h0:=by decide) (h1:=by decide) U ?_;refine Ag DW U (AZ Bw U ((Z3.A.fld (i:=0) (j:=0) U U U)) ?_);refine Cf U U (AN U (.bool _) U (Ai U (Ab (Aa (A4 (AD (v:=(.bool _)) U U U ?_))))));exact ⟨rfl,L.H.ext.trans H.ext⟩
end Go.Proofs.YtdagmpmdcgedcaaGreat
namespace Go.Proofs.YtdagmpmdcgedcaaGreat
open Go.GV Go.ChangeShapes Go.WideShapes
theorem own:ownKnob Tryz.prog.godebug=none:=by kernel_rfl
theorem S1:laidOutB Tryz.prog=true:=by kernel_rfl
section
variable {H:Type} {enc:TypeId × Value→H} {w:World} {base:Nat} {spare:Nat→Bool} {held:Bool}
theorem J7 {α:Type} {P:Program} {fuel:Nat} {t u e:TypeId} {s:Nat} {cs:List Value} {x:DataW H × List MemPlace} {fs:Array Field} {encd:α→List Value} {Good:α→Prop} (ht:P.underlying t=some (.struct fs)) (h:DataW.trod enc P w base spare held fuel t cs=some x) (i o:Nat)
  (hf:(fs[i]?.map fun f=>(f.type,f.offset))=some (u,o)) (hu:P.underlying u=some (.slice e)) (hc:P.cellsOf u=1) (hs:P.cellsOf e=s) (h0:0<s)
  (dec:∀ n cs y,DataW.trod enc P w base spare held n e cs=some y→∃ d,cs=encd d∧Good d) :
  ∃ (a:Option Addr) (c:Nat) (l:List α),cs[o]? = some (.slice a l.length c)∧Rd w a s encd l∧l.length≤c∧c≤maxLen∧(∀ d∈l,Good d):=by
 obtain ⟨n,y,h1⟩:=Ada ht h i o hf;rw [hc] at h1
 have hv:∃ v,(cs.drop o).take 1=[v]:=by
  rcases Go.Deep.open_slice hu h1 with ⟨hc,-⟩ | ⟨_,_,_,_,_,_,_,hc,-⟩
  ·exact ⟨_,hc⟩
  ·exact ⟨_,hc⟩
 obtain ⟨v,hv⟩:=hv;rw [hv] at h1;obtain ⟨a,c,l,rfl,R,h2,h3,h4⟩:=Afm hu hs h0 dec h1;exact ⟨a,c,l,Oy hv,R,h2,h3,h4⟩
theorem Aci:∃ fs,Tryz.prog.underlying 43=some (.struct fs)∧(List.range 2).map (fun i=>fs[i]?.map fun f=>(f.type,f.offset))=[some (2,0),some (2,1)]:=⟨_,Tryz.underlying43,by kernel_rfl⟩
theorem WJ:Tryz.prog.cellsOf 43=2:=by kernel_rfl
theorem Acj:∃ fs,Tryz.prog.underlying 67=some (.struct fs)∧(List.range 7).map (fun i=>fs[i]?.map fun f=>(f.type,f.offset))=[some (28,0),some (3,1),some (3,2),some (2,3),some (2,4),some (2,5),some (4,6)]:=⟨_,Tryz.underlying67,by kernel_rfl⟩
theorem WK:Tryz.prog.cellsOf 67=7:=by kernel_rfl
theorem Ack:Tryz.prog.cellsOf 55=8:=by kernel_rfl
theorem Akj:∀ n cs y,DataW.trod enc Tryz.prog w base spare held n 43 cs=some y→∃ d:Ac,cs=CM d∧(I64 d.ba∧I64 d.re):=by
 intro n cs y h;obtain ⟨fs,ht,hf⟩:=Aci;have hl:=Kx ht h;rw [WJ] at hl;simp only [List.range,List.range.loop,List.map_cons,List.map_nil,List.cons.injEq,and_true] at hf;obtain ⟨f0,f1⟩:=hf;obtain ⟨a,ha,a1,a2⟩:=DV ht h 0 0 f0 Tryz.underlying2;obtain ⟨b,hb,b1,b2⟩:=DV ht h 1 1 f1 Tryz.underlying2;refine ⟨⟨a,b⟩,?_,⟨a1,a2⟩,b1,b2⟩
 match cs,hl with
 | [_,_],_ =>
  simp at ha hb;simp [ha,hb]
def DuT (d:Du):Prop:=(0≤d.id∧d.id<18446744073709551616)∧I64 d.fr∧I64 d.to∧I64 d.am∧I64 d.we∧I64 d.un
theorem Akk:∀ n cs y,DataW.trod enc Tryz.prog w base spare held n 67 cs=some y→∃ d:Du,cs=CO d∧DuT d:=by
 intro n cs y h;obtain ⟨fs,ht,hf⟩:=Acj;have hl:=Kx ht h;rw [WK] at hl;simp only [List.range,List.range.loop,List.map_cons,List.map_nil,List.cons.injEq,and_true] at hf;obtain ⟨f0,f1,f2,f3,f4,f5,f6⟩:=hf;obtain ⟨a,ha,a1,a2⟩:=DV ht h 0 0 f0 Tryz.underlying28;obtain ⟨b,hb,hb'⟩:=DV ht h 1 1 f1 Tryz.underlying3;obtain ⟨c,hc,hc'⟩:=DV ht h 2 2 f2 Tryz.underlying3;obtain ⟨d,hd,hd'⟩:=DV ht h 3 3 f3 Tryz.underlying2;obtain ⟨e,he,he'⟩:=DV ht h 4 4 f4 Tryz.underlying2;obtain ⟨f,hf,hf'⟩:=DV ht h 5 5 f5 Tryz.underlying2;obtain ⟨g,hg⟩:=YB ht h 6 6 f6 Tryz.underlying4;refine ⟨⟨a,b,c,d,e,f,g⟩,?_,⟨a1,by have a3:a≤18446744073709551615:=a2; dsimp only; omega⟩,hb',hc',hd',he',hf'⟩
 match cs,hl with
 | [_,_,_,_,_,_,_],_ =>
  simp at ha hb hc hd he hf hg;simp [ha,hb,hc,hd,he,hf,hg]
def EdT (e:Ed):Prop:=I64 e.f∧I64 e.t∧I64 e.cap∧I64 e.cost
structure RT (r:Rnd):Prop where
 no:0≤r.no∧r.no<18446744073709551616
 day:I64 r.day
 ids:∀ x∈r.ids,0≤x∧x<18446744073709551616
 N:I64 r.N
 es:∀ e∈r.es,EdT e
 fl:∀ x∈r.fl,I64 x
 pot:∀ x∈r.pot,I64 x
end
end Go.Proofs.YtdagmpmdcgedcaaGreat
namespace Go.Proofs.YtdagmpmdcgedcaaGreat
open Go.GV Go.ChangeShapes Go.WideShapes
section
variable {H:Type} {enc:TypeId × Value→H} {w:World} {base:Nat} {spare:Nat→Bool} {held:Bool}
theorem Acl:∃ fs,Tryz.prog.underlying 40=some (.struct fs)∧(List.range 7).map (fun i=>fs[i]?.map fun f=>(f.type,f.offset))=[some (5,0),some (3,1),some (3,2),some (2,3),some (2,4),some (2,5),some (28,6)]:=⟨_,Tryz.underlying40,by kernel_rfl⟩
theorem WL:Tryz.prog.cellsOf 40=7:=by kernel_rfl
theorem Akl:∀ n cs y,DataW.trod enc Tryz.prog w base spare held n 40 cs=some y→∃ k:Ak,cs=BV k∧AkIn k:=by
 intro n cs y h;obtain ⟨fs,ht,hf⟩:=Acl;have hl:=Kx ht h;rw [WL] at hl;simp only [List.range,List.range.loop,List.map_cons,List.map_nil,List.cons.injEq,and_true] at hf;obtain ⟨f0,f1,f2,f3,f4,f5,f6⟩:=hf;obtain ⟨a,ha,a1,a2⟩:=DV ht h 0 0 f0 Tryz.underlying5;obtain ⟨b,hb,hb'⟩:=DV ht h 1 1 f1 Tryz.underlying3;obtain ⟨c,hc,hc'⟩:=DV ht h 2 2 f2 Tryz.underlying3;obtain ⟨d,hd,hd'⟩:=DV ht h 3 3 f3 Tryz.underlying2;obtain ⟨e,he,he'⟩:=DV ht h 4 4 f4 Tryz.underlying2;obtain ⟨f,hf,hf'⟩:=DV ht h 5 5 f5 Tryz.underlying2;obtain ⟨g,hg,g1,g2⟩:=DV ht h 6 6 f6 Tryz.underlying28;refine ⟨⟨a,b,c,d,e,f,g⟩,?_,⟨⟨a1,a2⟩,hb',hc',hd',he',hf',g1,g2⟩⟩
 match cs,hl with
 | [_,_,_,_,_,_,_],_ =>
  simp at ha hb hc hd he hf hg;simp [ha,hb,hc,hd,he,hf,hg]
set_option maxRecDepth 100000 in
theorem S2 {b:Nat} {v:Value} {d:DataW H} {ps:List MemPlace} (hv:Value.okWide Tryz.prog w .any b 22 v) (h:DataW.Trod enc Tryz.prog w base spare held 22 v d ps):∃ a c l,v = .slice a l.length c∧Rd w a 7 BV l∧∀ x∈l,AkIn x:=by
 obtain ⟨a,c,l,h1,h2,-,-,h3⟩:=Adb Tryz.underlying22 WL (by decide) Akl (okWide_slice Tryz.underlying22 hv) h;exact ⟨a,c,l,h1,h2,h3⟩
end
end Go.Proofs.YtdagmpmdcgedcaaGreat
