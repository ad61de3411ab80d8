/- Part 9 of the proof. -/
import Derived.Test.YtdagmpmdcgedcaaGreatPart2
import Derived.Test.YtdagmpmdcgedcaaGreatPart8
import Derived.Test.YtdagmpmdcgedcaaGreatPart4
import Derived.Test.YtdagmpmdcgedcaaGreatPart5
import Derived.Test.YtdagmpmdcgedcaaGreatPart3
import Derived.Test.YtdagmpmdcgedcaaGreatPart7
namespace Go.Proofs.YtdagmpmdcgedcaaGreat
open Go.GV
attribute [local irreducible] AB W Wq Wt
theorem HI {ds:List Du} {k:Int} {d:Du} (h:CN ds k=some d):d∈ds∧d.id=k:=by
 have h1:=List.mem_of_find?_eq_some h;have h2:=List.find?_some h;exact ⟨h1,by simpa using h2⟩
theorem Aan (d:Du) (x:Int):pC d x=1∨pC d x=14∨pC d x=12∨(pC d x=0∧0≤x∧x≤d.am∧d.held=false):=by
 unfold pC
 split
 ·exact .inl U
 ·split
  ·exact .inr (.inl U)
  ·rename_i h2
   split
   ·exact .inr (.inr (.inl U))
   ·exact .inr (.inr (.inr ⟨rfl,by omega,by omega,by simpa using h2⟩))
set_option maxRecDepth 20000 in
set_option maxHeartbeats 4000000 in
theorem XG {bd b bx:Nat} {nx k x:Int} {o:Obj} {ds:List Du} {d:Du} (w:World) (hd:w.heap[bd]? = some (Bl 165 (DU b nx))) (hb:w.heap[b]? = some o) (hM:CT .u64 (dm ds) o) (hbd:bd≠b) (hf:CN ds k=some d)
  (hx:w.heap[bx]? = some (Bl 2 [.int .i64 x])) (hbx:bx≠b) (ham:0≤d.am∧d.am≤4503599627370496) :
  Ret Tryz.prog 177 #[ptr bd,.int .u64 k,payF bx] w fun v w'=>v = .int .i64 (N4 ds k x)∧∃ o',CT .u64 (dm (TE ds k x)) o'∧Ctx w [b] w' [(b,o')]:=by
 obtain ⟨w0,rfl⟩:∃ w0,w0=w:=⟨_,rfl⟩;have H:=Ctx.start1 hb;have hxl:=Ba hx;have hc:N4 ds k x=pC d x:=by unfold N4; rw [hf]
 have hmg:Ej (dm ds) k=some (FZ d):=by rw [Hi,hf]; rfl
 have hcs:=Aan d x;unfold TE;rw [hc];obtain ⟨code,hcode⟩:∃ code,code=pC d x:=⟨_,rfl⟩;obtain ⟨e,he⟩:∃ e,e=pD d x:=⟨_,rfl⟩;have heam:code=0→e={ d with am:=d.am - x }:=fun h=>by rw [he]; unfold pD; rw [if_pos (by omega)]
 rw [← hcode] at hcs;rw [← hcode];refine Aw (fn:=Tryz.f177) Tryz.func177 U [.pointer (some ⟨bd,0,none⟩),.int .u64 k,.func (.func 222) #[] #[.pointer (some ⟨bx,0,none⟩)]] U (by kernel_rfl) ?_;refine Af (Ad U (Ab (Aa (Aq (Af (Ay U (Co Ix U ?_)))))));refine Ab (Aa (Ap _ U ?_ ?_))
 ·intro h0;cases h0
 ·intro h0;refine Au (Aa (Af (Ay U (A9 U (Ag DG U (AZ Fa U ((H.old (Aj hd _) (by rw [List.mem_singleton]; exact hbd))) ?_))))));refine Ae U (G4 U Fx EV OQ U U H at0 hM ?_);rw [hmg];rw [Option.getD_some,Option.isSome_some];refine BM U (A6 U U (A6 U U (AX Eu H ?_)));rintro b7 w - H;refine Bm Ci U U U (by exact CQ _) H at0 U ?_;rintro w H;refine Ai U (Ab (Aa (Aq (Af (AE U (BA U (Ab (Aa (Ap _ U ?_ ?_)))))))))
  ·intro h1;replace h1:=BE h1;cases h1
  ·intro h1;replace h1:=BF h1;refine Au (Aa (Af (Da U (.func _ _ _) U ?_)));have hb7:w0.heap.size≤b7:=(H.own _ (List.mem_cons_self ..)).elim (fun h=>by have h8:=H.ne at0 at1 (by decide); exact absurd (List.mem_singleton.1 h) h8) id;refine Fz U Ah3 (Aeg (x:=x) (d:=d) _ (H.get at0) (H.ext.to hx (by rw [List.mem_singleton]; exact hbx)) ham) U ?_;rintro v w ⟨rfl,H2⟩;replace H:=Ctx.back (L1:=[_]) (L2:=[_]) H H2;rw [← hcode];rw [← he] at H;refine Ad U (Ab (Aa (Aq (A0 (Af (Ae U (C9 U U (Ai U (Ab (Aa (Ap _ U ?_ ?_)))))))))))
   ·intro h2;replace h2:=CR h2;refine Au (A5 (Aa (Af (Ae U (Ad U (Ab (Aa (A4 (AD (v:=(.int _ _)) U U U ?_)))))))));rw [if_neg h2];exact ⟨rfl,o,hM,H.tail⟩
   ·intro h2;replace h2:=CS h2;have h2':code=0:=by omega
    have hee:=heam h2';have hea:e.am=d.am - x:=by rw [hee]
    rw [if_pos h2'];refine Af (Ag Eo U (AM Bw U H at0 U (Cf U U (Ai U (Ab (Aa (Ap _ U ?_ ?_)))))))
    ·intro h3;replace h3:=AJ h3;refine Az (Ay U (A9 U (Ag DG U (AZ Fa U ((H.old (Aj hd _) (by rw [List.mem_singleton]; exact hbd))) ?_))));refine Ae U (M6 U Fx EV U U H at1 hM ?_);rintro o2 w hM2 H;refine Ab (A5 (Aa (Af (Ae U (Ad U (Ab (Aa (A4 (AD (v:=(.int _ _)) U U U ?_)))))))));exact ⟨rfl,o2,by rw [← Aal hf]; exact hM2,H.tail⟩
    ·intro h3;replace h3:=AK h3;refine FC 6 Bs (by kernel_rfl) U U ?_;refine B4 U (Bb U (A7 DG U (BX Fa U (by rintro _ rfl; exact ((H.old (Aj hd _) (by rw [List.mem_singleton]; exact hbd)))) ?_)));refine Bh U (Ob U Ft Ci U (by rintro _ rfl; exact H.drew) at0 U ?_);refine BW ?_;replace H:=H.drew;refine Jj (FZ e) U Fx EV U U U H at1 hM ?_;rintro o2 w hM2 H;refine Ab (A5 (Aa (Af (Ae U (Ad U (Ab (Aa (A4 (AD (v:=(.int _ _)) U U U ?_)))))))));exact ⟨rfl,o2,by rw [← Aam hf (show ¬ d.am=x by omega),← hee]; exact hM2,H.tail⟩
theorem Aao {bd b bx:Nat} {nx k x:Int} {o:Obj} {ds:List Du} (w:World) (hd:w.heap[bd]? = some (Bl 165 (DU b nx))) (hb:w.heap[b]? = some o) (hM:CT .u64 (dm ds) o) (hbd:bd≠b)
  (hx:w.heap[bx]? = some (Bl 2 [.int .i64 x])) (ham:∀ d∈ds,0≤d.am∧d.am≤4503599627370496)  (hbx:bx≠b:=by omega):
  Ret Tryz.prog 177 #[ptr bd,.int .u64 k,payF bx] w fun v w'=>v = .int .i64 (N4 ds k x)∧∃ o',CT .u64 (dm (TE ds k x)) o'∧Ctx w [b] w' [(b,o')]:=by
 cases hf:CN ds k with
 | none=>exact XF w hd hb hM hbd hf
 | some d=>exact XG w hd hb hM hbd hf hx hbx (ham d (HI hf).1)
set_option maxRecDepth 20000 in
theorem Aeh {bd b:Nat} {nx k x:Int} {o:Obj} {ds:List Du} (w:World) (hd:w.heap[bd]? = some (Bl 165 (DU b nx))) (hb:w.heap[b]? = some o) (hM:CT .u64 (dm ds) o) (hbd:bd≠b) (ham:∀ d∈ds,0≤d.am∧d.am≤4503599627370496) :
  Ret Tryz.prog 185 #[ptr bd,.int .u64 k,.int .i64 x] w fun v w'=>v = .int .i64 (N4 ds k x)∧∃ o',CT .u64 (dm (TE ds k x)) o'∧Ctx w [b] w' [(b,o')]:=by
 obtain ⟨w0,rfl⟩:∃ w0,w0=w:=⟨_,rfl⟩;have H:=Ctx.start w0 [];have hbl:=Ba hb;refine Aw (fn:=Tryz.f185) Tryz.func185 U [.pointer (some ⟨bd,0,none⟩),.int .u64 k,.int .i64 x] U (by kernel_rfl) ?_;refine Af (Bv _ (.int _ _) U U H ?_);rintro b5 w - H;refine Ad U (Ab (Aa (Af (Ay U (Ae U (BQ [.pointer _] U ?_))))));have hb5:w0.heap.size≤b5:=(H.own _ (List.mem_cons_self ..)).elim (fun h=>by cases h) id;refine Al UJ (Aao (x:=x) _ (H.ext.to hd (by simp)) (H.ext.to hb (by simp)) hM hbd (H.get at0) ham) U ?_;rintro v w ⟨rfl,o',hM',H2⟩;refine Ad U (Ab (Aa (A4 (AD (v:=(.int _ _)) U U U ?_))));have H3:=H.ext.mono (S':=[b]) (by simp);exact ⟨rfl,o',hM',⟨H3.trans H2.ext,H2.blk,H2.nd,fun y hy=>by rw [List.mem_singleton.1 hy]; exact .inl (List.mem_singleton.2 rfl)⟩⟩
end Go.Proofs.YtdagmpmdcgedcaaGreat
namespace Go.Proofs.YtdagmpmdcgedcaaGreat
open Go.GV
attribute [local irreducible] AB W Wq Wt
structure PlD (ds:List Du) (k:Int) (i:Nat) (d:Du):Prop where
 at':ds[i]? = some d
 id:d.id=k
 fst:∀ (j:Nat) (e:Du),j<i→ds[j]? = some e→e.id≠k
theorem PlD.pay {ds:List Du} {k x:Int} {i:Nat} {d:Du} (h:PlD ds k i d):GZ ds k x=if d.am=x then ds.eraseIdx i else ds.set i { d with am:=d.am - x }:=by
 induction ds generalizing i with
 | nil=>have:=h.at'; cases this
 | cons y ds ih =>
  unfold GZ
  cases i with
  | zero =>
   have h1:=h.at'
   injection h1 with h1
   rw [h1,if_pos h.id]; rfl
  | succ i =>
   have h1:=h.fst 0 y (Nat.succ_pos _) rfl;rw [if_neg h1,ih ⟨h.at',h.id,fun j e hj he=>h.fst (j+1) e (Nat.succ_lt_succ hj) he⟩]
   split <;> rfl
end Go.Proofs.YtdagmpmdcgedcaaGreat
namespace Go.Proofs.YtdagmpmdcgedcaaGreat
open Go.GV
attribute [local irreducible] AB W Wq Wt
end Go.Proofs.YtdagmpmdcgedcaaGreat
namespace Go.Proofs.YtdagmpmdcgedcaaGreat
open Go.GV
attribute [local irreducible] AB W Wq Wt
end Go.Proofs.YtdagmpmdcgedcaaGreat
namespace Go.Proofs.YtdagmpmdcgedcaaGreat
open Go.GV
attribute [local irreducible] AB W Wq Wt
theorem XH (a:Option Addr) (n c:Nat) (ds:List Du) (w:World) (R:Rd w a 7 CO ds) (hn:ds.length=n)  (hm:n≤1000000000:=by omega):
  Ret Tryz.prog 225 #[.slice a n c] w fun v w'=>Fresh w w' 67 7 v (ds.flatMap CO):=by
 subst hn;obtain ⟨w0,rfl⟩:∃ w0,w0=w:=⟨_,rfl⟩;have H:=Ctx.start w0 [];refine Aw (fn:=Tryz.f225) Tryz.func225 U [.slice a ds.length c] U (by kernel_rfl) ?_;refine Af (A1 U (Ab (Aa (Aq (Af (A3 U (IB U CK U (Ab (Aa (Ap _ U ?_ ?_))))))))))
 ·intro h1;have ha:a=none:=by simpa using h1
  subst ha
  have hxs:ds=[]:=by
   cases ds with
   | nil=>rfl
   | cons x xs=>obtain ⟨b,o,h⟩:=R.some' (by simp); cases h
  subst hxs;refine Af (A1 U (Ab (Aa (A4 (Ao (AD (v:=(.slice _ _ _)) U U U ?_))))));exact Fresh.nil H _ _
 ·intro h1;refine Au (Aa (Af (Hd U CK Ci H ?_)));rintro b5 w H O;refine A3 U (Hb U CK CK Ci YF Eu U (by decide) (ds.flatMap CO) U U H O (Po ds) (XE ds) ((R.ext0 H.ext).app (fun _ _=>rfl) (by omega)) ?_);rintro a7 c7 full7 w H O;refine A1 U (Ab (Aa (A4 (AD (v:=(.slice _ _ _)) U U U ?_))));exact H.fresh O
theorem TF (d:Du) (w:World):Ret Tryz.prog 226 #[FZ d] w fun v w'=>v = .bool d.held∧Ext [] w w':=by
 obtain ⟨w0,rfl⟩:∃ w0,w0=w:=⟨_,rfl⟩;have H:=Ctx.start w0 [];refine Aw (fn:=Tryz.f226) Tryz.func226 U [FZ d] U (by kernel_rfl) ?_;refine Af (Bv (CO d) (.agg _) U U H ?_);rintro b1 w - H;refine Ai U (Ab (Aa (Af (Ag Ii U (AM JQ U H at0 U (Ai U (Ab (Aa (A4 (AD (v:=(.bool _)) U U U ?_))))))))));exact ⟨rfl,H.ext⟩
abbrev Af8:Value := .func (.func 226) #[] #[]
structure FstH (ds:List Du) (i:Nat):Prop where
 at':∃ d,ds[i]? = some d∧d.held=true
 fst:∀ (j:Nat) (e:Du),j<i→ds[j]? = some e→e.held=false
set_option maxRecDepth 20000 in
theorem Aei (a:Option Addr) (n c:Nat) (ds:List Du) (w:World) (R:Rd w a 7 CO ds) (hn:ds.length=n) (hn2:n≤1000000) :
  Ret Tryz.prog 201 #[.slice a n c,Af8] w fun v w'=>Ext [] w w'∧((v = .int .i64 (-1)∧∀ d∈ds,d.held=false)∨∃ i:Nat,v = .int .i64 (i:Int)∧FstH ds i):=by
 subst hn;obtain ⟨w0,rfl⟩:∃ w0,w0=w:=⟨_,rfl⟩;have H:=Ctx.start w0 [];refine Aw (fn:=Tryz.f201) Tryz.func201 U [.slice a ds.length c,.func (.func 226) #[] #[]] U (by kernel_rfl) ?_;refine Af (Ad U (Ab (Aa (Aq (Af (A3 U (Bi CK U (Ae U (Ab (Aa (A0 ?_)))))))))));refine Bt 524080 (α:=Nat) (fun i=>[(8,.int .i64 (i:Int))]) (fun i w'=>i≤ds.length∧Ctx w0 [] w' []∧∀ (j:Nat) (e:Du),j<i→ds[j]? = some e→e.held=false) (fun i=>ds.length - i) 0 U ?_ ?_ ?_
 ·exact ⟨rfl,trivial⟩
 ·exact ⟨Nat.zero_le _,H,fun j e h=>absurd h (Nat.not_lt_zero _)⟩
 ·clear H;rintro i j w ⟨hi,H,hb⟩;refine Af (Bj U U (Ab (Aa (Aq (Ap _ U ?_ ?_)))))
  ·intro h1;replace h1:=AJ h1;obtain ⟨d,hd2⟩:=A8 (l:=ds) (i:=i);refine Au (Aa (Aq (A0 (Af (Ae U (Ad U (Ab (Aa (Af (Da U (.func _ _ _) U ?_))))))))));refine A3 U (Ae U (AS R CK Ci U U (by rfl) ?_));refine Cj _ Ft Ci U U ((R.ext0 H.ext).row hd2 U) ?_;refine Fz U YT (TF d _) U ?_;rintro v w ⟨rfl,hx16⟩;replace H:=H.call hx16;refine Ab (Aa (Ap _ U ?_ ?_))
   ·intro h2;refine Af (Ae U (Ad U (Ab (Aa (A4 (AA (Ao (Ao (AA (Ao (AD (v:=(.int _ _)) U U U ?_)))))))))));exact ⟨H.ext,.inr ⟨i,rfl,⟨d,hd2,h2⟩,hb⟩⟩
   ·intro h2;refine Au (A5 (Aa (Az (Ax U U ?_))));refine Ae U (Ab (Aa ?_));refine ⟨i+1,rfl,⟨rfl,trivial⟩,⟨by omega,H,fun j e hj he=>?_⟩,by omega⟩
    rcases Nat.lt_or_ge j i with h7 | h7
    ·exact hb j e h7 he
    ·obtain rfl:j=i:=by omega
     rw [hd2] at he;cases he;exact h2
  ·intro h1;replace h1:=AK h1;refine Bq (Am (Am (AG (Aa (Af (Ad U (Ab (Aa (A4 (AD (v:=(.int _ _)) U U U ?_))))))))));refine ⟨H.ext,.inl ⟨rfl,fun d hd=>?_⟩⟩;obtain ⟨j,hj⟩:=List.mem_iff_getElem?.1 hd;exact hb j d (by have:=Ck hj; omega) hj
end Go.Proofs.YtdagmpmdcgedcaaGreat
namespace Go.Proofs.YtdagmpmdcgedcaaGreat
open Go.GV
attribute [local irreducible] AB W Wq Wt
def opn (ds:List Du):List Du:=ds.filter fun d => !d.held
theorem QC:∀ (vs l:List Value) (o k:Nat),k≤o→(over l o vs).take k=l.take k
 | [],_,_,_,_=>rfl
 | v::vs,l,o,k,h=>by
  show (over (l.set o v) (o+1) vs).take k=_;rw [QC vs (l.set o v) (o+1) k (by omega)];refine List.ext_getElem? fun j=>?_;rw [List.getElem?_take,List.getElem?_take]
  split
  ·rw [List.getElem?_set_ne (by omega)]
  ·rfl
theorem OS.shrink {α:Type} {a:Option Addr} {n c s i:Nat} {full vs:List Value} {enc:α→List Value} {L:List α} {o:Nat} (O:OS a n c s full (L.flatMap enc)) (hs:∀ x∈L,(enc x).length=s) (hi:i≤n) (hL:L.length=n) (ho:vs=[]∨i*s≤o):OS a i c s (Go.GV.over full o vs) ((L.take i).flatMap enc):=by
 refine ⟨O.zero,O.none',by rw [D5]; exact O.len,Nat.le_trans hi O.le,?_⟩
 have h1:(Go.GV.over full o vs).take (i*s)=full.take (i*s):=by
  rcases ho with rfl | ho
  ·rfl
  ·exact QC _ _ _ _ ho
 rw [h1]
 have h2:full.take (i*s)=(full.take (n*s)).take (i*s):=by
  rw [List.take_take,Nat.min_eq_left (Nat.mul_le_mul_right _ hi)]
 rw [h2,O.pre];have h3:L.flatMap enc=(L.take i).flatMap enc++(L.drop i).flatMap enc:=by rw [← List.flatMap_append,List.take_append_drop]
 have h4:((L.take i).flatMap enc).length=i*s:=by
  rw [EL fun z hz=>hs z (List.mem_of_mem_take hz),List.length_take,Nat.min_eq_left (by omega)]
 rw [h3];exact List.take_left' h4
theorem Pp (ds:List Du) (d:Du):opn (ds++[d])=opn ds++if d.held=true then [] else [d]:=by
 unfold opn;rw [List.filter_append];cases h:d.held <;> simp [h]
theorem Wr {ds:List Du} (h:∀ d∈ds,d.held=false):opn ds=ds:=by
 unfold opn;rw [List.filter_eq_self];intro d hd;rw [h d hd]; rfl
structure DSt where
 i:Nat
 j:Nat
 L:List Du
 full:List Value
set_option maxRecDepth 20000 in
set_option maxHeartbeats 4000000 in
theorem Aj0 (a:Option Addr) (c:Nat) (full:List Value) (ds:List Du) (w:World) (O:OS a ds.length c 7 full (ds.flatMap CO)) (hb:∀ y∈ent a 67 full,w.heap[y.1]? = some y.2) (hn2:ds.length≤1000000) :
  Ret Tryz.prog 224 #[.slice a ds.length c,Af8] w fun v w'=>∃ full',v = .slice a (opn ds).length c∧OS a (opn ds).length c 7 full' ((opn ds).flatMap CO)∧Ctx w ((ent a 67 full).map (·.1)) w' (ent a 67 full'):=by
 obtain ⟨w0,rfl⟩:∃ w0,w0=w:=⟨_,rfl⟩;have R:Rd w0 a 7 CO ds:=OS.rd O hb (fun _ _=>rfl) (by omega);have H:Ctx w0 ((ent a 67 full).map (·.1)) w0 (ent a 67 full):=⟨Ext.refl _ _,hb,FD,fun x hx => .inl (List.mem_map_of_mem (f:=(·.1)) hx)⟩;refine Aw (fn:=Tryz.f224) Tryz.func224 U [.slice a ds.length c,.func (.func 226) #[] #[]] U (by kernel_rfl) ?_;refine Af (A1 U (Ab (Aa (Af (A3 U (Da U (.func _ _ _) U ?_))))));refine Al Ahn (Aei a ds.length c ds _ R U hn2) U ?_;rintro v w ⟨hx10,hidx⟩;replace H:=H.call hx10;obtain ⟨pi,rfl,hpi⟩:∃ pi:Int,v = .int .i64 pi∧((pi = -1∧∀ d∈ds,d.held=false)∨∃ i:Nat,pi=(i:Int)∧FstH ds i):=hidx.elim (fun h=>⟨-1,h.1,.inl ⟨rfl,h.2⟩⟩) (fun ⟨i,h1,h2⟩=>⟨i,h1,.inr ⟨i,rfl,h2⟩⟩);refine Ad U (Ab (Aa (Aq (Af (Ae U (Cf U U (Ab (Aa (Ap _ U ?_ ?_)))))))))
 ·intro h1;replace h1:=AJ h1;refine Af (A3 U (A1 U (Ab (Aa (A4 (Ao (AD (v:=(.slice _ _ _)) U U U ?_)))))));have hal:∀ d∈ds,d.held=false:=hpi.elim (fun h=>h.2) fun ⟨i,h,_⟩=>by omega
  rw [Wr hal];exact ⟨full,rfl,O,H⟩
 ·intro h1;replace h1:=AK h1;obtain ⟨i,hpe,P⟩:∃ i:Nat,pi=(i:Int)∧FstH ds i:=hpi.elim (fun h=>absurd h.1 h1) id;subst hpe;obtain ⟨d0,hd0,hh0⟩:=P.at';have hil:=Ck hd0;obtain ⟨q,rfl⟩:=O.form (by omega);replace H:Ctx w0 [q] w [(q,Bl 67 full)]:=H
  have hop0:opn (ds.take i)=ds.take i:=Wr fun d hd=>by
   obtain ⟨j,hj⟩:=List.mem_iff_getElem?.1 hd;rw [List.getElem?_take] at hj
   split at hj
   ·exact P.fst j d (by assumption) hj
   ·cases hj
  have hst0:opn (ds.take (i+1))=ds.take i:=by
   rw [List.take_add_one,hd0];show opn (ds.take i++[d0])=_;rw [Pp,if_pos hh0,hop0,List.append_nil]
  refine Au (Aa (Aq (Af (Ae U (Ax U U ?_)))));refine Ad U (Ab (Aa (A0 (Bt 68719411424 (α:=DSt) (fun t=>[(5,.int .i64 (t.i:Int)),(6,.int .i64 (t.j:Int))]) (fun t w'=>t.i<t.j∧t.j≤ds.length∧t.L.length=ds.length∧t.L.take t.i=opn (ds.take t.j)∧(∀ p,t.j≤p→t.L[p]? = ds[p]?)∧OS (some ⟨q,0,none⟩) ds.length c 7 t.full (t.L.flatMap CO)∧Ctx w0 [q] w' [(q,Bl 67 t.full)]) (fun t=>ds.length - t.j) ⟨i,i+1,ds,full⟩ U ?_ ?_ ?_))))
  ·exact ⟨rfl,rfl,trivial⟩
  ·exact ⟨Nat.lt_succ_self _,by dsimp only; omega,rfl,hst0.symm,fun p _=>rfl,O,H⟩
  ·clear H;rintro ⟨i,j,L,fu⟩ jj w ⟨hij,hj,hL,hT,hS,O1,H⟩; dsimp only at hij hj hL hT hS O1 H; dsimp only;have hOl:=O1.len;have hOle:=O1.le;refine Aq (Af (Ae U (A3 U (Bi CK U (Bj U U (Ab (Aa (Ap _ U ?_ ?_))))))))
   ·intro h2;replace h2:=AJ h2;obtain ⟨d,hdj⟩:=A8 (l:=ds) (i:=j);have hLd:L[j]? = some d:=by rw [hS j (Nat.le_refl _),hdj]
    have R1:Rd w (some ⟨q,0,none⟩) 7 CO L:=O1.rd (t:=67) (fun y hy=>by have hy:=List.mem_singleton.1 hy; rw [hy]; exact H.get at0) (fun _ _=>rfl) (by decide);have htk:ds.take (j+1)=ds.take j++[d]:=by rw [List.take_add_one,hdj]; rfl
    refine Au (Aa (Aq (A0 (Af (A3 U (Ae U (AS R1 CK Ci U U (by omega) ?_)))))));refine Cj _ Ft Ci U U (R1.row hLd U) ?_;refine AX Eu H ?_;rintro b7 w - H;refine Bm Ci U U U (by exact CQ _) H at0 U ?_;rintro w H;refine Ab (Aa (Af (Da U (.func _ _ _) U ?_)));refine Cl Ft Ci U H at0 U (Fz U YT (TF d _) U ?_);rintro v w ⟨rfl,hx28⟩;replace H:=H.call hx28;refine BA U (Ab (Aa (Ap _ U ?_ ?_)))
    ·intro h3;replace h3:=BE h3;have h3':¬ d.held=true:=by simpa using h3
     obtain ⟨y,hy⟩:=A8 (l:=L) (i:=i);have O2:=OS.over O1 (fun _=>rfl) hy d;refine Af (A3 U (Ae U (Cl Ft Ci U H at0 U (AS R1 CK Ci U U (by omega) ?_))));refine GR (vs:=CO d) U Ci U U U (CQ d) H at1 (by show 0+(i:Int).toNat*7+7≤_; omega) ?_;rintro w H;replace H:Ctx w0 [q] w [(b7,Bl 67 (CO d)),(q,Bl 67 (over fu (i*7) (CO d)))]:=by rw [show i*7=0+((i:Int)).toNat*7 by omega]; exact H
     refine Ab (Aa (Az (Ae U (Ax U U ?_))));refine Ad U (Ab (A5 (Aa (Az (Ae U (Ax U U ?_))))));refine Ad U (Ab (Aa ?_));refine ⟨⟨i+1,j+1,L.set i d,over fu (i*7) (CO d)⟩,rfl,⟨rfl,rfl,trivial⟩,⟨by dsimp only; omega,by dsimp only; omega,by dsimp only; rw [List.length_set]; exact hL,?_,fun p hp=>?_,O2,?_⟩,by dsimp only; omega⟩
     ·dsimp only;rw [htk,Pp,if_neg h3',← hT,List.take_add_one,List.getElem?_set_self (by omega)]
      congr 1
      refine List.ext_getElem? fun z=>?_;rw [List.getElem?_take,List.getElem?_take]
      split
      ·rw [List.getElem?_set_ne (by omega)]
      ·rfl
     ·dsimp only at hp ⊢;rw [List.getElem?_set_ne (by omega)];exact hS p (by omega)
     ·exact H.tail
    ·intro h3;replace h3:=BF h3;have h3':d.held=true:=by simpa using h3
     refine Au (A5 (Aa (Az (Ae U (Ax U U ?_)))));refine Ad U (Ab (Aa ?_));refine ⟨⟨i,j+1,L,fu⟩,rfl,⟨rfl,rfl,trivial⟩,⟨by dsimp only; omega,by dsimp only; omega,hL,?_,fun p hp=>hS p (by dsimp only at hp; omega),O1,H.tail⟩,by dsimp only; omega⟩;dsimp only;rw [htk,Pp,if_pos h3',List.append_nil];exact hT
   ·intro h2;replace h2:=AK h2;obtain rfl:j=ds.length:=by omega
    rw [List.take_length] at hT;have hlen:(opn ds).length=i:=by rw [← hT,List.length_take]; omega
    obtain ⟨o',ho',ho2⟩:∃ o',Uz (some ⟨q,0,none⟩) c i 7=some ⟨q,o',none⟩∧((c=i∧o'=0)∨o'=i*7):=by
     unfold Uz
     by_cases h:c=i
     ·rw [if_pos h]; exact ⟨0,rfl,.inl ⟨h,rfl⟩⟩
     ·rw [if_neg h]; exact ⟨0+i*7,(by show some (Addr.add _ _)=_; rw [CP]),.inr (Nat.zero_add _)⟩
    refine Bq (Am (Am (AG (Aa (Af (A3 U (Ae U (SP U CK Ci U U ?_))))))));refine Qj (b:=q) (o:=o') (n:=ds.length - i) (c:=c - i) (s:=7) U CK Eu U (by simp [AO]) (show Value.slice (Uz (some ⟨q,0,none⟩) c i 7) (ds.length - i) (c - i)=_ by rw [ho']) H at0 (by omega) ?_;rintro w H;refine Ab (Aa (Af (A3 U (Ae U (JL U CK Ci U U ?_)))));refine A1 U (Ab (Aa (A4 (AD (v:=(.slice _ _ _)) U U U ?_))));have O3:=OS.shrink (i:=i) (o:=o') (vs:=(List.replicate (ds.length - i) [Value.int .u64 0,.int .i64 0,.int .i64 0,.int .i64 0,.int .i64 0,.int .i64 0,.bool false]).flatten) O1 (fun _ _=>rfl) (by omega) hL (ho2.elim (fun h=>by omega) fun h => .inr (by omega));rw [hT] at O3;rw [hlen];exact ⟨_,rfl,O3,H⟩
end Go.Proofs.YtdagmpmdcgedcaaGreat
namespace Go.Proofs.YtdagmpmdcgedcaaGreat
open Go.GV
attribute [local irreducible] AB W Wq Wt
theorem Ws (a:Option Addr) (n c:Nat) (ds:List Du) (w:World) (R:Rd w a 7 CO ds) (hn:ds.length=n) (hm:n≤1000000) :
  Ret Tryz.prog 187 #[.slice a n c] w fun v w'=>Fresh w w' 67 7 v ((opn ds).flatMap CO):=by
 subst hn;obtain ⟨w0,rfl⟩:∃ w0,w0=w:=⟨_,rfl⟩;refine Aw (fn:=Tryz.f187) Tryz.func187 U [.slice a ds.length c] U (by kernel_rfl) ?_;refine Af (A1 U (Ab (Aa (Af (A3 U (Al Ah6 (XH a ds.length c ds _ R U) U ?_))))));rintro v w F;obtain ⟨a4,n4,c4,f4,rfl,O4,hb4⟩:=F.ex;have hl4:=O4.llen;rw [Po] at hl4;obtain rfl:ds.length=n4:=by omega
 refine Al Ah5 (Aj0 a4 c4 f4 ds _ O4 (fun y hy=>(hb4 y hy).1) hm) U ?_;rintro v w ⟨f5,rfl,O5,H5⟩;refine A1 U (Ab (Aa (A4 (AD (v:=(.slice _ _ _)) U U U ?_))));refine ⟨⟨_,_,_,f5,rfl,O5,fun x hx=>⟨H5.blk x hx,?_⟩⟩,F.ext.then H5.ext fun x hx=>?_⟩
 ·rcases H5.own x hx with h | h
  ·obtain ⟨y,hy,hyx⟩:=List.mem_map.1 h;rw [← hyx];exact (hb4 y hy).2
  ·exact Nat.le_trans F.ext.size h
 ·obtain ⟨y,hy,rfl⟩:=List.mem_map.1 hx;exact .inr (hb4 y hy).2
def E4:Nat→List Du→List Du
 | _,[]=>[]
 | i,d::ds=>{ d with id:=(i:Int)+1 }::E4 (i+1) ds
theorem QD (i:Nat) (ds:List Du):(E4 i ds).length=ds.length:=by
 induction ds generalizing i with
 | nil=>rfl
 | cons d ds ih=>show (E4 (i+1) ds).length+1=ds.length+1; rw [ih]
theorem Sg (i:Nat) (ds es:List Du):E4 i (ds++es)=E4 i ds++E4 (i+ds.length) es:=by
 induction ds generalizing i with
 | nil=>rfl
 | cons d ds ih =>
  show _::E4 (i+1) (ds++es)=_::(E4 (i+1) ds++E4 (i+(ds.length+1)) es);rw [ih,show i+1+ds.length=i+(ds.length+1) by omega]
theorem Vm {ds:List Du} {i:Nat} {d:Du} (h:ds[i]? = some d):E4 0 (ds.take (i+1))=E4 0 (ds.take i)++[{ d with id:=(i:Int)+1 }]:=by
 have hl:=Ck h;rw [List.take_add_one,h];show E4 0 (ds.take i++[d])=_;rw [Sg,List.length_take,Nat.min_eq_left (by omega),Nat.zero_add]; rfl
theorem Aap {ds:List Du}:∀ (i:Nat) (d:Du),d∈E4 i ds→(i:Int)<d.id∧d.id≤i+ds.length:=by
 induction ds with
 | nil=>intro i d h; cases h
 | cons x ds ih =>
  intro i d h
  rcases List.mem_cons.1 h with rfl | h
  ·dsimp only [List.length_cons]; omega
  ·have:=ih (i+1) d h;rw [List.length_cons]; omega
theorem XI {ds:List Du}:∀ (i:Nat),F7 ((i:Int)+ds.length+1) i (E4 i ds)=ds.all DY:=by
 induction ds with
 | nil=>intro i; rfl
 | cons d ds ih =>
  intro i;have h:=ih (i+1);show ((DY d && (decide ((i:Int)<(i:Int)+1) && decide ((i:Int)+1<_))) && F7 _ ((i:Int)+1) (E4 (i+1) ds))=(DY d && ds.all DY);rw [← h,decide_eq_true (show (i:Int)<(i:Int)+1 by omega),decide_eq_true (show (i:Int)+1<(i:Int)+((d::ds).length:Nat)+1 by rw [List.length_cons]; omega),show ((i:Int)+((d::ds).length:Nat)+1)=(((i+1:Nat):Int)+ds.length+1) by rw [List.length_cons]; omega];simp
def D3 (rs:List Int) (ds:List Du):Bool :=
 decide (rs.length≤16) && (!decide ((ED rs).2=1) && (ds.all (fun d=>decide (max d.fr d.to<rs.length)) && decide (ofC (E4 0 ds) (ds.length+1)=0)))
end Go.Proofs.YtdagmpmdcgedcaaGreat
namespace Go.Proofs.YtdagmpmdcgedcaaGreat
open Go.GV
attribute [local irreducible] AB W Wq Wt
theorem XJ {rs:List Int} {ds:List Du} {i:Nat} {d:Du} (hd:ds[i]? = some d) (h:¬ max d.fr d.to<rs.length):D3 rs ds=false:=by
 unfold D3
 have:ds.all (fun d=>decide (max d.fr d.to<rs.length))=false:=by
  rw [List.all_eq_false];exact ⟨d,List.mem_of_getElem? hd,by simpa using h⟩
 rw [this];simp
set_option maxRecDepth 20000 in
set_option maxHeartbeats 4000000 in
theorem XK (a b:Option Addr) (n c m e:Nat) (rs:List Int) (ds:List Du) (w:World) (R:Rd w a 1 I1 rs) (hn:rs.length=n) (hn2:n≤1000000) (Rd':Rd w b 7 CO ds) (hm:ds.length=m) (hm2:m≤1000000) :
  Ret Tryz.prog 207 #[.slice a n c,.slice b m e] w fun v w'=>v = .bool (D3 rs ds)∧Ext [] w w':=by
 subst hn hm;obtain ⟨w0,rfl⟩:∃ w0,w0=w:=⟨_,rfl⟩;have H:=Ctx.start w0 [];obtain ⟨tt,htt⟩:∃ tt,tt=ED rs:=⟨_,rfl⟩;refine Aw (fn:=Tryz.f207) Tryz.func207 U [.slice a rs.length c,.slice b ds.length e] U (by kernel_rfl) ?_;refine Af (Ai U (Ab (Aa (Aq (Af (A3 U (Bi Bg U (Cs U U (Ab (Aa (Ap _ U ?_ ?_)))))))))))
 ·intro h1;replace h1:=AJ h1;refine Af (Ai U (Ab (Aa (A4 (Ao (AD (v:=(.bool _)) U U U ?_))))));exact ⟨congrArg Value.bool (by unfold D3; rw [decide_eq_false (show ¬ rs.length≤16 by omega)]; rfl),H.ext⟩
 ·intro h1;replace h1:=AK h1;have h1':decide (rs.length≤16)=true:=decide_eq_true (by omega);refine Au (Aa (Aq (Af (A3 U (Al MA (K9 a rs.length c rs _ R U (hn2:=hn2)) U ?_)))));rintro v w ⟨rfl,rfl⟩;rw [← htt];refine BM U (A6 U U (A6 U U (Ad U (Ad U (Ab (Aa (Af (Ae U (Cf U U (Ab (Aa ?_)))))))))));refine Ap _ U ?_ ?_
  ·intro h2;replace h2:=AJ h2;refine Af (Ai U (Ab (Aa (A4 (Ao (AD (v:=(.bool _)) U U U ?_))))));exact ⟨congrArg Value.bool (by unfold D3; rw [← htt,h2,h1']; rfl),H.ext⟩
  ·intro h2;replace h2:=AK h2;refine Au (Aa (Af (A1 U (Ab (Aa (Aq (Af (A3 U (Bi CK U (Ae U (Ab (Aa ?_))))))))))));refine A0 (Bt 70368727401360 (α:=LSt) (fun t=>[(7,.slice t.a t.i t.c),(24,.int .i64 (t.i:Int))]) (fun t w'=>t.i≤ds.length∧OS t.a t.i t.c 7 t.full ((E4 0 (ds.take t.i)).flatMap CO)∧Ctx w0 [] w' (ent t.a 67 t.full)∧∀ (j:Nat) (d:Du),j<t.i→ds[j]? = some d→max d.fr d.to<rs.length) (fun t=>ds.length - t.i) ⟨0,none,0,[]⟩ U ?_ ?_ ?_)
   ·exact ⟨rfl,rfl,trivial⟩
   ·exact ⟨Nat.zero_le _,OS.nil,H,fun j d h=>absurd h (Nat.not_lt_zero _)⟩
   ·clear H;rintro ⟨i,a2,c2,full⟩ jj w ⟨hi,O,H,hb⟩; dsimp only at hi O H hb; dsimp only;refine Af (Bj U U (Ab (Aa (Aq (Ap _ U ?_ ?_)))))
    ·intro h3;replace h3:=AJ h3;obtain ⟨d,hd⟩:=A8 (l:=ds) (i:=i);obtain ⟨d',hd'⟩:∃ d':Du,d'={ d with id:=(i:Int)+1 }:=⟨_,rfl⟩;refine Au (Aa (Aq (A0 (Af (Ae U (AS Rd' CK Ci U U (by rfl) ?_))))));refine Cj _ Ft Ci U U ((Rd'.ext0 H.ext).row hd U) ?_;refine AX Eu H ?_;rintro b9 w - H;refine Ad U (Bm Ci U U U (by exact CQ _) H at0 U ?_);rintro w H;refine Ab (Aa (Aq (Af (Ag Gz U (AM Ca U H at0 U (Ag Ih U (AM Ca U H at0 U (Ji U U ?_))))))));refine A3 U (Bi Bg U (C4 U U (Ab (Aa (Ap _ U ?_ ?_)))))
     ·intro h4;replace h4:=AJ h4;refine Af (Ai U (Ab (Aa (A4 (Ao (AA (Ao (Ao (AA (Ao (AD (v:=(.bool _)) U U U ?_)))))))))));exact ⟨congrArg Value.bool (XJ hd (show ¬ max d.fr d.to<rs.length by omega)).symm,H.ext⟩
     ·intro h4;replace h4:=AK h4;refine Au (Aa (Af (Ae U (DM U OM EV ?_))));refine DR U U ?_;refine Ag Gy U (Cp (.int _ _) Bp U U U H at0 (by (simp; done)) ?_);rintro w H;refine Ab (Aa ?_);replace H:Ctx w0 [] w ((b9,Bl 67 (CO d'))::ent a2 67 full):=by rw [hd']; exact H
      refine Az (A3 U (Cl Ft Ci U H at0 U (Ct _ (.agg _) CK Ci Eu U (by decide) (by decide) U U U H ?_)));rintro b43 w - H;refine CA (L:=[_]) CK CK Ci YF Eu U (by decide) U U H O U (by simp [AO]) ?_;rintro a' c' full' w H O;refine A1 U (Ab (A5 (Aa (Az (Ax U U ?_)))));refine Ae U (Ab (Aa ?_));refine ⟨⟨i+1,a',c',full'⟩,rfl,⟨rfl,rfl,trivial⟩,⟨by dsimp only; omega,?_,H.tail,fun j x hj hx=>?_⟩,by dsimp only; omega⟩
      ·dsimp only;rw [Vm hd,← hd',List.flatMap_append];exact O
      ·rcases Nat.lt_or_ge j i with h7 | h7
       ·exact hb j x h7 hx
       ·obtain rfl:j=i:=by dsimp only at hj; omega
        rw [hd] at hx;cases hx;omega
    ·intro h3;replace h3:=AK h3;obtain rfl:i=ds.length:=by omega
     rw [List.take_length] at O
     have hal:ds.all (fun d=>decide (max d.fr d.to<rs.length))=true:=by
      rw [List.all_eq_true];intro d hd;obtain ⟨j,hj⟩:=List.mem_iff_getElem?.1 hd;exact decide_eq_true (hb j d (Ck hj) hj)
     have RO:Rd w a2 7 CO (E4 0 ds):=OS.rd O (fun y hy=>H.blk y hy) (fun _ _=>rfl) (by omega)
     have hbr:D3 rs ds=decide (ofC (E4 0 ds) (ds.length+1)=0):=by
      unfold D3;rw [h1',hal,← htt,decide_eq_false h2]; rfl
     obtain ⟨cd,hcd⟩:∃ cd,cd=ofC (E4 0 ds) (ds.length+1):=⟨_,rfl⟩;rw [hbr,← hcd];refine Bq (Am (Am (AG (Aa (Af (A3 U (A3 U (Bi CK U (DM U OM EV ?_)))))))));refine DR U U ?_;refine Al Afv (Aai a2 ds.length c2 (E4 0 ds) (ds.length+1) _ RO (QD 0 ds) (fun d hd=>by have:=Aap 0 d hd; omega)) U ?_;rintro v w ⟨p,rfl,hp1,hp2,hx52⟩;obtain ⟨pp,rfl⟩:∃ pp,p = .pointer pp:=by by_cases hz:ofC (E4 0 ds) (ds.length+1)=0; (obtain ⟨bd,_,_,e1,_⟩:=hp2 hz; exact ⟨_,e1⟩); exact ⟨none,hp1 hz⟩
     replace H:=H.call hx52;rw [← hcd];refine BM U (A6 U U (A6 U U (B3 U (Ad U (Ab (Aa (Af (Ae U (Cf U U (Ai U ?_))))))))));refine Ab (Aa (A4 (AD (v:=(.bool _)) U U U ?_)));exact ⟨rfl,H.ext⟩
end Go.Proofs.YtdagmpmdcgedcaaGreat
namespace Go.Proofs.YtdagmpmdcgedcaaGreat
open Go.GV
attribute [local irreducible] AB W Wq Wt
def Kl (d:Du):Ed:=⟨d.fr,d.to,d.am,-d.we⟩
def ML (rs:List Int):List Ed:=(List.range (2*rs.length)).map fun j=>if j % 2=0 then ⟨rs.length,(j / 2:Nat),rs.getD (j / 2) 0,0⟩ else ⟨(j / 2:Nat),rs.length,4503599627370496,0⟩
def BJ (rs:List Int) (ds:List Du) (net:Bool):List Ed:=ds.map Kl++if net=true then [] else ML rs
theorem LW {rs:List Int} {i:Nat} {x:Int} (h:rs[i]? = some x):(ML rs)[2*i]? = some ⟨rs.length,i,x,0⟩:=by
 have hl:=Ck h;unfold ML;rw [DO (by omega),if_pos (by omega),show 2*i / 2=i by omega,Bo h]
theorem NJ {rs:List Int} {i:Nat} (h:i<rs.length):(ML rs)[2*i+1]? = some ⟨i,rs.length,4503599627370496,0⟩:=by
 unfold ML;rw [DO (by omega),if_neg (by omega),show (2*i+1) / 2=i by omega]
theorem Wu (rs:List Int):(ML rs).length=2*rs.length:=by unfold ML; simp
def edV (e:Ed):List Value:=[.agg (CI e).toArray]
structure RndK (b1 b2 b3:Nat) (a b:Option Addr) (n c m e:Nat) (rs:List Int) (ds:List Du) (net:Bool) (w:World):Prop where
 h1:w.heap[b1]? = some (Bl 27 [.slice b m e])
 h2:w.heap[b2]? = some (Bl 4 [.bool net])
 h3:w.heap[b3]? = some (Bl 35 [.slice a n c])
 R:Rd w a 1 I1 rs
 Rd':Rd w b 7 CO ds
set_option maxRecDepth 20000 in
set_option maxHeartbeats 4000000 in
theorem Vn {b1 b2 b3:Nat} {a b:Option Addr} {n c m e:Nat} {rs:List Int} {ds:List Du} {net:Bool} (hn:rs.length=n) (hm:ds.length=m) (hn2:n≤1000000) (hw:∀ d∈ds,-1000000000≤d.we∧d.we≤1000000000)  (hm2:m≤1000000:=by omega):
  Rj Tryz.prog 240 #[ptr b1,ptr b2,ptr b3] [] (fun _ w=>RndK b1 b2 b3 a b n c m e rs ds net w) ((BJ rs ds net).map edV):=by
 subst hn hm;intro l w J E hJ0 hJs hEs hK hY;obtain ⟨M0,hJ0⟩:=hJ0;obtain ⟨w0,rfl⟩:∃ w0,w0=w:=⟨_,rfl⟩
 have hat1:∀ (i:Nat) (d:Du),ds[i]? = some d→((BJ rs ds net).map edV)[i]? = some (edV (Kl d)):=fun i d hd=>by
  unfold BJ;have hl:=Ck hd;rw [List.getElem?_map,List.getElem?_append_left (by rw [List.length_map]; exact hl),List.getElem?_map,hd]; rfl
 have hat2:net=false→∀ (j:Nat) (x:Ed),(ML rs)[j]? = some x→((BJ rs ds net).map edV)[ds.length+j]? = some (edV x):=fun h0 j x hx=>by
  unfold BJ;rw [h0,List.getElem?_map,List.getElem?_append_right (by rw [List.length_map]; omega),List.length_map,show ds.length+j - ds.length=j by omega];show ((ML rs)[j]?).map edV=_;rw [hx]; rfl
 have hlen:((BJ rs ds net).map edV).length=ds.length+if net=true then 0 else 2*rs.length:=by
  unfold BJ;rw [List.length_map,List.length_append,List.length_map]
  split
  ·rfl
  ·rw [Wu]
 refine Aw (fn:=Tryz.f240) Tryz.func240 U [.func (.yield l) #[] #[],.pointer (some ⟨b1,0,none⟩),.pointer (some ⟨b2,0,none⟩),.pointer (some ⟨b3,0,none⟩)] U (by kernel_rfl) ?_;have K0:=(hK _ _ _ hJ0).2;have H:=Ctx.start w0 [];refine Aq (Af (AZ Ic U ((by rw [Aj K0.h1]; rfl)) ?_));refine Bi CK U (Ae U (Ab (Aa (A0 (Bt 1073737792 (α:=Nat) (fun i=>[(12,.int .i64 (i:Int))]) (fun i w'=>i≤ds.length∧∃ M,J i M w') (fun i=>ds.length - i) 0 U ?_ ?_ ?_)))))
 ·exact ⟨rfl,trivial⟩
 ·exact ⟨Nat.zero_le _,M0,hJ0⟩
 ·clear H;rintro i j w ⟨hi,M,hJ⟩;have KK:=(hK _ _ _ hJ).2;have R:=KK.Rd';obtain ⟨w1,rfl⟩:∃ w1,w1=w:=⟨_,rfl⟩;have H:=Ctx.start w1 [];refine Af (Bj U U (Ab (Aa (Aq (Ap _ U ?_ ?_)))))
  ·intro h1;replace h1:=AJ h1;obtain ⟨d,hd⟩:=A8 (l:=ds) (i:=i);have hwd:=hw d (List.mem_of_getElem? hd);refine Au (Aa (Aq (A0 (Af (AS R CK Ci U U (by rfl) ?_)))));refine Cj _ Ft Ci U U ((R.ext0 H.ext).row hd U) ?_;refine AX Eu H ?_;rintro b6 w - H;refine Bm Ci U U U (by exact CQ _) H at0 U ?_;rintro w H;refine Ab (Aa (Af (Da U (.func _ _ _) U ?_)));refine Ag Gz U (AM Ca U H at0 U (Ag Ih U (AM Ca U H at0 U (Ag Eo U (AM Bw U H at0 U (Ag LM U (AM Bw U H at0 U (KY U U ?_))))))));refine B1 (CI (Kl d)) Zp Ht (by kernel_rfl) ?_;have hY1:=hY i (edV (Kl d)) M _ (hat1 i d hd) (hJs _ _ _ _ hJ H.ext);refine G6 (vs:=edV (Kl d)) U hY1 U ?_;rintro u w hu
   obtain ⟨bb,rfl,hu1,hu0⟩:∃ bb,u = .bool bb∧(bb=true→∃ M,J (i+1) M w)∧(bb=false→E w):=hu.elim (fun h=>⟨true,h.1,fun _=>let ⟨M',h1,_⟩:=h.2; ⟨M',h1⟩,fun h=>by cases h⟩) (fun h=>⟨false,h.1,(fun h=>by cases h),fun _=>h.2⟩);refine BA U (Ab (Aa (Ap _ U ?_ ?_)))
   ·intro h2;replace h2:=BE h2;refine A4 (AA (Ao (Ao (AA (Ao (FA U U ?_))))));exact .inr (hu0 (by simpa using h2))
   ·intro h2;replace h2:=BF h2;refine Au (A5 (Aa (Az (Ax U U ?_))));refine Ae U (Ab (Aa ?_));exact ⟨i+1,rfl,⟨rfl,trivial⟩,⟨by omega,hu1 (by simpa using h2)⟩,by omega⟩
  ·intro h1;replace h1:=AK h1;obtain rfl:i=ds.length:=by omega
   refine Bq (Am (Am (AG (Aa (Aq (Af (AZ JQ U ((H.old0 (by rw [Aj KK.h2]; rfl))) ?_)))))));refine Ab (Aa (Ap _ U ?_ ?_))
   ·intro h2;refine A4 (Ao (FA U U ?_));exact .inl ⟨M,by rw [hlen,if_pos h2]; exact hJ⟩
   ·intro h2;refine Au (Aa (Af (AZ Cg U ((H.old0 (by rw [Aj KK.h3]; rfl))) ?_)));refine Bi Bg U (Ad U (Ab (Aa (Af (AZ Cg U ((H.old0 (by rw [Aj KK.h3]; rfl))) ?_)))));refine Bi Bg U (Ae U (Ab (Aa (A0 (Bt 72057559678190336 (α:=Nat) (fun i=>[(35,.int .i64 (i:Int))]) (fun i w'=>i≤rs.length∧∃ M,J (ds.length+2*i) M w') (fun i=>rs.length - i) 0 U ?_ ?_ ?_)))))
    ·exact ⟨rfl,trivial⟩
    ·exact ⟨Nat.zero_le _,M,hJ⟩
    ·clear H;rintro i j2 w ⟨hi,M,hJ⟩;have KK:=(hK _ _ _ hJ).2;have R:=KK.R;obtain ⟨w1,rfl⟩:∃ w1,w1=w:=⟨_,rfl⟩;have H:=Ctx.start w1 [];refine Af (Bj U U (Ab (Aa (Aq (Ap _ U ?_ ?_)))))
     ·intro h3;replace h3:=AJ h3;obtain ⟨x,hx⟩:=A8 (l:=rs) (i:=i);refine Au (Aa (Aq (A0 (Af (Ae U (AS R Bg B6 U U (by rfl) ?_))))));refine AZ Bw U (((R.ext0 H.ext).fld hx U (j:=0) U)) ?_;refine Ad U (Ad U (Ab (Aa (Af (Da U (.func _ _ _) U ?_)))));refine Ae U (Ae U (Ae U (B1 (CI ⟨rs.length,i,x,0⟩) Zp Ht (by kernel_rfl) ?_)));have hY1:=hY _ (edV ⟨rs.length,i,x,0⟩) M _ (hat2 h2 _ _ (LW hx)) (hJs _ _ _ _ hJ H.ext);refine G6 (vs:=edV ⟨rs.length,i,x,0⟩) U hY1 U ?_;rintro u w hu;clear H;obtain ⟨bb,rfl,hu1,hu0⟩:∃ bb,u = .bool bb∧(bb=true→∃ M,J (ds.length+2*i+1) M w)∧(bb=false→E w):=hu.elim (fun h=>⟨true,h.1,fun _=>let ⟨M',h1,_⟩:=h.2; ⟨M',h1⟩,fun h=>by cases h⟩) (fun h=>⟨false,h.1,(fun h=>by cases h),fun _=>h.2⟩);refine BA U (AE U (AY 47 U ?_ ?_))
      ·intro h4;replace h4:=BE h4;refine Ah U (Ah U (Ah U (Ah U (Ah U (Ah U (AN U (.bool _) U (Ab (Aa (Dz U (A4 (AA (Ao (Ao (AA (FA U U ?_)))))))))))))));exact .inr (hu0 (by simpa using h4))
      ·intro h4;replace h4:=BF h4;refine Da U (.func _ _ _) U ?_;refine Ae U (Ae U (B1 (CI ⟨i,rs.length,4503599627370496,0⟩) Zp Ht (by kernel_rfl) ?_));obtain ⟨M2,hJ2⟩:∃ M,J (ds.length+2*i+1) M w:=hu1 (by simp_all);have hY2:=hY _ (edV ⟨i,rs.length,4503599627370496,0⟩) M2 _ (hat2 h2 _ _ (NJ (by omega))) hJ2;refine G6 (vs:=edV ⟨i,rs.length,4503599627370496,0⟩) U hY2 U ?_;rintro u w hu;obtain ⟨bb,rfl,hv1,hv0⟩:∃ bb,u = .bool bb∧(bb=true→∃ M,J (ds.length+2*i+1+1) M w)∧(bb=false→E w):=hu.elim (fun h=>⟨true,h.1,fun _=>let ⟨M',h1,_⟩:=h.2; ⟨M',h1⟩,fun h=>by cases h⟩) (fun h=>⟨false,h.1,(fun h=>by cases h),fun _=>h.2⟩);refine BA U (AU U (.bool _) U (Ab (Aa (Ap _ U ?_ ?_))))
       ·intro h5;replace h5:=BE h5;refine A4 (AA (Ao (Ao (AA (FA U U ?_)))));exact .inr (hv0 (by simpa using h5))
       ·intro h5;replace h5:=BF h5;refine Au (A5 (Aa (Az (Ax U U ?_))));refine Ae U (Ab (Aa ?_));exact ⟨i+1,rfl,⟨rfl,trivial⟩,⟨by omega,by rw [show ds.length+2*(i+1)=ds.length+2*i+1+1 by omega]; exact hv1 (by simpa using h5)⟩,by omega⟩
     ·intro h3;replace h3:=AK h3;refine Bq (Am (Am (AG (CF U U ?_))));obtain rfl:i=rs.length:=by omega
      exact .inl ⟨M,by rw [hlen,if_neg (by rw [h2]; decide)]; exact hJ⟩
end Go.Proofs.YtdagmpmdcgedcaaGreat
namespace Go.Proofs.YtdagmpmdcgedcaaGreat
open Go.GV
attribute [local irreducible] AB W Wq Wt
abbrev U1 (x:Int):List Value:=[GG x]
instance:DecidableEq Ed:=fun x y=>if h:x.f=y.f∧x.t=y.t∧x.cap=y.cap∧x.cost=y.cost then isTrue (by cases x; cases y; simp_all) else isFalse fun e=>h (by subst e; exact ⟨rfl,rfl,rfl,rfl⟩)
theorem Aaq (x y:Ed):decide (x=y)=true↔CI x=CI y:=by
 obtain ⟨a,b,c,d⟩:=x;obtain ⟨a',b',c',d'⟩:=y;simp [CI]
set_option maxRecDepth 20000 in
theorem Aj1 (a b:Option Addr) (n c m d:Nat) (xs ys:List Ed) (w:World) (R:Rd w a 4 CI xs) (hn:xs.length=n) (hn2:n≤1000000) (Ry:Rd w b 4 CI ys) (hm:ys.length=m) (hm2:m≤1000000) :
  Ret Tryz.prog 220 #[.slice a n c,.slice b m d] w fun v w'=>v = .bool (decide (xs=ys))∧Ext [] w w':=by
 subst hn hm;obtain ⟨w0,rfl⟩:∃ w0,w0=w:=⟨_,rfl⟩;have H:=Ctx.start w0 [];refine Aw (fn:=Tryz.f220) Tryz.func220 U [.slice a xs.length c,.slice b ys.length d] U (by kernel_rfl) ?_;refine Af (Ai U (Ab (Aa (Aq (Af (A3 U (Bi Ds U (A3 U (Bi Ds U (C9 U U ?_))))))))));refine Ab (Aa (Ap _ U ?_ ?_))
 ·intro h1;replace h1:=CR h1;refine Af (Ai U (Ab (Aa (A4 (Ao (AD (v:=(.bool _)) U U U ?_))))));exact ⟨congrArg Value.bool (decide_eq_false fun h=>by rw [h] at h1; simp at h1).symm,H.ext⟩
 ·intro h1;replace h1:=CS h1;have hle:xs.length=ys.length:=by omega
  refine Au (Aa (Aq (Af (A3 U (Bi Ds U (Ae U (Ab (Aa (A0 (Bt 67100720 (α:=Nat) (fun i=>[(13,.int .i64 (i:Int))]) (fun i w'=>i≤xs.length∧Ctx w0 [] w' []∧∀ (k:Nat) (x y:Ed),k<i→xs[k]? = some x→ys[k]? = some y→x=y) (fun i=>xs.length - i) 0 U ?_ ?_ ?_))))))))))
  ·exact ⟨rfl,trivial⟩
  ·exact ⟨Nat.zero_le _,H,fun k x y h=>absurd h (Nat.not_lt_zero _)⟩
  ·clear H;rintro i j w ⟨hi,H,hb⟩;refine Af (Bj U U (Ab (Aa (Aq (Ap _ U ?_ ?_)))))
   ·intro h2;replace h2:=AJ h2;obtain ⟨x,hx⟩:=A8 (l:=xs) (i:=i);obtain ⟨y,hy⟩:=A8 (l:=ys) (i:=i);refine Au (Aa (Aq (A0 (Af (Ae U (Ad U (Ab (Aa (Er (fun x=>x=_) Bs (by kernel_rfl) U ?_)))))))));refine Cz U (Bh U (C5 R Ds Dp U U (by rfl) ?_));refine KH _ U JS Dp U U (by rintro _ rfl; exact ((R.ext0 H.drew.ext).row hx rfl)) ?_;refine Cz U (Bh U (C5 Ry Ds Dp U U (by rfl) ?_));refine KH _ U JS Dp U U (by rintro _ rfl; exact ((Ry.ext0 H.drew.ext).row hy rfl)) ?_;refine q_neS (ks:=[true,true,true,true]) (xs:=CI x) (ys:=CI y) (decide (x=y)) U (by kernel_rfl) U U ⟨rfl,rfl,rfl,rfl,trivial⟩ (Aaq x y) ?_;refine BW ?_;rintro _ rfl;replace H:=H.drew;refine Ap _ U ?_ ?_
    ·intro h3;refine Af (Ai U (Ab (Aa (A4 (AA (Ao (Ao (AA (Ao (AD (v:=(.bool _)) U U U ?_))))))))));have hne:¬ x=y:=by simpa using h3
     exact ⟨congrArg Value.bool (decide_eq_false fun h=>by subst h; rw [hx] at hy; injection hy with hy; exact hne hy).symm,H.ext⟩
    ·intro h3;refine Au (A5 (Aa (Az (Ax U U ?_))));refine Ae U (Ab (Aa ?_));have heq:x=y:=by simpa using h3
     refine ⟨i+1,rfl,⟨rfl,trivial⟩,⟨by omega,H,fun k x' y' hk hx' hy'=>?_⟩,by omega⟩
     rcases Nat.lt_or_ge k i with h7 | h7
     ·exact hb k x' y' h7 hx' hy'
     ·obtain rfl:k=i:=by omega
      rw [hx] at hx'; rw [hy] at hy';cases hx'; cases hy';exact heq
   ·intro h2;replace h2:=AK h2;refine Bq (Am (Am (AG (Aa (Af (Ai U (Ab (Aa (A4 (AD (v:=(.bool _)) U U U ?_))))))))));obtain rfl:i=xs.length:=by omega
    exact ⟨congrArg Value.bool (decide_eq_true (Wp hle hb)).symm,H.ext⟩
set_option maxRecDepth 20000 in
theorem Aj2 (a b:Option Addr) (n c m d:Nat) (xs ys:List Int) (w:World) (R:Rd w a 1 U1 xs) (hn:xs.length=n) (hn2:n≤1000000) (Ry:Rd w b 1 U1 ys) (hm:ys.length=m) (hm2:m≤1000000) :
  Ret Tryz.prog 221 #[.slice a n c,.slice b m d] w fun v w'=>v = .bool (decide (xs=ys))∧Ext [] w w':=by
 subst hn hm;obtain ⟨w0,rfl⟩:∃ w0,w0=w:=⟨_,rfl⟩;have H:=Ctx.start w0 [];refine Aw (fn:=Tryz.f221) Tryz.func221 U [.slice a xs.length c,.slice b ys.length d] U (by kernel_rfl) ?_;refine Af (Ai U (Ab (Aa (Aq (Af (A3 U (Bi Bx U (A3 U (Bi Bx U (C9 U U ?_))))))))));refine Ab (Aa (Ap _ U ?_ ?_))
 ·intro h1;replace h1:=CR h1;refine Af (Ai U (Ab (Aa (A4 (Ao (AD (v:=(.bool _)) U U U ?_))))));exact ⟨congrArg Value.bool (decide_eq_false fun h=>by rw [h] at h1; simp at h1).symm,H.ext⟩
 ·intro h1;replace h1:=CS h1;have hle:xs.length=ys.length:=by omega
  refine Au (Aa (Aq (Af (A3 U (Bi Bx U (Ae U (Ab (Aa (A0 (Bt 67100720 (α:=Nat) (fun i=>[(13,.int .i64 (i:Int))]) (fun i w'=>i≤xs.length∧Ctx w0 [] w' []∧∀ (k:Nat) (x y:Int),k<i→xs[k]? = some x→ys[k]? = some y→x=y) (fun i=>xs.length - i) 0 U ?_ ?_ ?_))))))))))
  ·exact ⟨rfl,trivial⟩
  ·exact ⟨Nat.zero_le _,H,fun k x y h=>absurd h (Nat.not_lt_zero _)⟩
  ·clear H;rintro i j w ⟨hi,H,hb⟩;refine Af (Bj U U (Ab (Aa (Aq (Ap _ U ?_ ?_)))))
   ·intro h2;replace h2:=AJ h2;obtain ⟨x,hx⟩:=A8 (l:=xs) (i:=i);obtain ⟨y,hy⟩:=A8 (l:=ys) (i:=i);refine Au (Aa (Aq (A0 (Af (Ae U (Ad U (Ab (Aa (Er (fun x=>x=_) Bs (by kernel_rfl) U ?_)))))))));refine Cz U (Bh U (C5 R Bx Bp U U (by rfl) ?_));refine BX B5 U (by rintro _ rfl; exact (((R.ext0 H.drew.ext).fld hx rfl (j:=0) rfl))) ?_;refine Cz U (Bh U (C5 Ry Bx Bp U U (by rfl) ?_));refine BX B5 U (by rintro _ rfl; exact (((Ry.ext0 H.drew.ext).fld hy rfl (j:=0) rfl))) ?_;refine Yv U U U (BW ?_);rintro _ rfl;replace H:=H.drew;refine Ap _ U ?_ ?_
    ·intro h3;replace h3:=CR h3;refine Af (Ai U (Ab (Aa (A4 (AA (Ao (Ao (AA (Ao (AD (v:=(.bool _)) U U U ?_))))))))));have hne:¬ x=y:=h3;exact ⟨congrArg Value.bool (decide_eq_false fun h=>by subst h; rw [hx] at hy; injection hy with hy; exact hne hy).symm,H.ext⟩
    ·intro h3;replace h3:=CS h3;refine Au (A5 (Aa (Az (Ax U U ?_))));refine Ae U (Ab (Aa ?_));have heq:x=y:=by omega
     refine ⟨i+1,rfl,⟨rfl,trivial⟩,⟨by omega,H,fun k x' y' hk hx' hy'=>?_⟩,by omega⟩
     rcases Nat.lt_or_ge k i with h7 | h7
     ·exact hb k x' y' h7 hx' hy'
     ·obtain rfl:k=i:=by omega
      rw [hx] at hx'; rw [hy] at hy';cases hx'; cases hy';exact heq
   ·intro h2;replace h2:=AK h2;refine Bq (Am (Am (AG (Aa (Af (Ai U (Ab (Aa (A4 (AD (v:=(.bool _)) U U U ?_))))))))));obtain rfl:i=xs.length:=by omega
    exact ⟨congrArg Value.bool (decide_eq_true (Wp hle hb)).symm,H.ext⟩
theorem XL (a b:Option Addr) (n c m d:Nat) (net:Bool) (w:World):Ret Tryz.prog 208 #[.slice a n c,.slice b m d,.bool net] w fun v w'=>∃ b1 b2 b3,v = .func (.func 240) #[] #[ptr b1,ptr b2,ptr b3]∧Ctx w [] w' [(b2,Bl 4 [.bool net]),(b1,Bl 27 [.slice b m d]),(b3,Bl 35 [.slice a n c])]:=by
 obtain ⟨w0,rfl⟩:∃ w0,w0=w:=⟨_,rfl⟩;have H:=Ctx.start w0 [];refine Aw (fn:=Tryz.f208) Tryz.func208 U [.slice a n c,.slice b m d,.bool net] U (by kernel_rfl) ?_;refine Af (Bv _ (.slice _ _ _) U U H ?_);rintro b3 w - H;refine Bv _ (.slice _ _ _) U U H ?_;rintro b4 w - H;refine Bv _ (.bool _) U U H ?_;rintro b5 w - H;refine CG U .nilFunc U ?_;refine Ab (Aa (Af (BQ [.pointer _,.pointer _,.pointer _] U (CG U (.func _ _ _) U ?_))));refine Ab (Aa (A4 (AD (v:=(.func _ _ _)) U U U ?_)));exact ⟨_,_,_,rfl,H⟩
end Go.Proofs.YtdagmpmdcgedcaaGreat
namespace Go.Proofs.YtdagmpmdcgedcaaGreat
open Go.GV
attribute [local irreducible] AB W Wq Wt
end Go.Proofs.YtdagmpmdcgedcaaGreat
namespace Go.Proofs.YtdagmpmdcgedcaaGreat
open Go.GV
attribute [local irreducible] AB W Wq Wt
theorem Aar (l:List Int):∀ v∈l.map Ee,AO v=true:=fun v hv=>by
 obtain ⟨x,_,rfl⟩:=List.mem_map.1 hv; rfl
theorem MN (a:Option Addr) (n c:Nat) (xs:List Int) (w:World) (R:Rd w a 1 I1 xs) (hn:xs.length=n)  (hm:n≤1000000000:=by omega):
  Ret Tryz.prog 166 #[.slice a n c] w fun v w'=>Fresh w w' 2 1 v (xs.map Ee):=by
 subst hn;obtain ⟨w0,rfl⟩:∃ w0,w0=w:=⟨_,rfl⟩;have H:=Ctx.start w0 [];refine Aw (fn:=Tryz.f166) Tryz.func166 U [.slice a xs.length c] U (by kernel_rfl) ?_;refine Af (A1 U (Ab (Aa (Aq (Af (A3 U (IB U Bg U (Ab (Aa (Ap _ U ?_ ?_))))))))))
 ·intro h1;have ha:a=none:=by simpa using h1
  subst ha
  have hxs:xs=[]:=by
   cases xs with
   | nil=>rfl
   | cons x xs=>obtain ⟨b,o,h⟩:=R.some' (by simp); cases h
  subst hxs;refine Af (A1 U (Ab (Aa (A4 (Ao (AD (v:=(.slice _ _ _)) U U U ?_))))));exact Fresh.nil H _ _
 ·intro h1;refine Au (Aa (Af (Hd U Bg B6 H ?_)));rintro b5 w H O;refine A3 U (Hb U Bg Bg B6 Lg EK U (by decide) (xs.map Ee) U U H O (by simp) (Aar xs) (Rd.app1 (f:=Ee) (R.ext0 H.ext)) ?_);rintro a7 c7 full7 w H O;refine A1 U (Ab (Aa (A4 (AD (v:=(.slice _ _ _)) U U U ?_))));exact H.fresh O
def Sh (k:Int) (n:Nat):Nat:=(max 0 (min k (n:Int))).toNat
theorem Wv (N:Int) (a b:Option Addr) (n c m d:Nat) (k:Int) (fl:List Int) (w:World) (R:Rd w b 1 I1 fl) (hm:fl.length=m) (hd:m≤d) (hm2:m≤1000000) :
  Ret Tryz.prog 114 #[Ec N a n c,.slice b m d,.int .i64 k] w fun v w'=>Fresh w w' 2 1 v ((fl.take (Sh k m)).map Ee):=by
 subst hm;obtain ⟨w0,rfl⟩:∃ w0,w0=w:=⟨_,rfl⟩;have H:=Ctx.start w0 [];have hk:Sh k fl.length≤fl.length:=by unfold Sh; omega
 refine Aw (fn:=Tryz.f114) Tryz.func114 U [Ec N a n c,.slice b fl.length d,.int .i64 k] U (by kernel_rfl) ?_;refine Af (Bv [.int .i64 N,.slice a n c] (.agg _) U U H ?_);rintro b3 w - H;refine A1 U (Ab (Aa (Af (A3 U (Ae U (A3 U (Bi Bg U (Ac1 U U U ?_))))))));refine Ji U U ?_;refine JL U Bg B6 U U ?_;refine Al UH (MN b (Sh k fl.length) d (fl.take (Sh k fl.length)) _ ((R.ext0 H.ext).take _) (by rw [List.length_take]; omega)) U ?_;rintro v w F;obtain ⟨a9,n9,c9,f9,rfl,O9,hb9⟩:=F.ex;refine A1 U (Ab (Aa (A4 (AD (v:=(.slice _ _ _)) U U U ?_))));exact ⟨⟨a9,n9,c9,f9,rfl,O9,fun x hx=>⟨(hb9 x hx).1,Nat.le_trans H.size (hb9 x hx).2⟩⟩,H.ext.trans F.ext⟩
end Go.Proofs.YtdagmpmdcgedcaaGreat
namespace Go.Proofs.YtdagmpmdcgedcaaGreat
open Go.GV
attribute [local irreducible] AB W Wq Wt
section
variable {P:Program} {r:Option Nat} {ops rest:List Oper} {Q:Exit→Env→World→Prop} {e:Env} {w:World} {dst:Option Tmp} {ty:TypeId} {pos:String} {af:Array Edge} {g:Option (Nat × Bool)}
theorem Si {t k el:TypeId} {kk:IntKind} {x y:Operand} {b:Nat} {o:Obj} {m:List (Int × Value)} {n:Int} {z:Value} (hg:AV ⟨dst,.lookup t x y true,ty,pos,af,g⟩ ops e=true)
  (ht:L6 P t=some (k,el)) (hk:P.underlying k=some (.int kk)) (hz:(P.info? el).bind (·.zero)=some z) (hx:ev e x = .map (some b)) (hy:ev e y = .int kk n) (hb:w.heap[b]? = some o) (hM:CT kk m o)
  (h:AB P r ops Q rest (put e dst (.tuple #[(Ej m n).getD z,.bool (Ej m n).isSome])) w):AB P r ops Q (⟨dst,.lookup t x y true,ty,pos,af,g⟩::rest) e w:=by
 have H:Ctx w [b] w [(b,o)]:=Ctx.start1 hb;exact G4 hg ht hk hz hx hy H at0 hM h
end
def LY (ds:List Du) (k:Int):Du:=(CN ds k).getD d00
set_option maxRecDepth 20000 in
set_option maxHeartbeats 2000000 in
theorem Sj {bd b:Nat} {nx k:Int} {o:Obj} {ds:List Du} (w:World) (hd:w.heap[bd]? = some (Bl 165 (DU b nx))) (hb:w.heap[b]? = some o) (hM:CT .u64 (dm ds) o) :
  Ret Tryz.prog 118 #[ptr bd,.int .u64 k] w fun v w'=>v = .tuple #[FZ (LY ds k),.bool (CN ds k).isSome]∧Ext [] w w':=by
 obtain ⟨w0,rfl⟩:∃ w0,w0=w:=⟨_,rfl⟩;have H:=Ctx.start w0 []
 have hmg:(Ej (dm ds) k).getD (FZ d00)=FZ (LY ds k):=by
  rw [Hi];unfold LY;cases CN ds k <;> rfl
 have hms:(Ej (dm ds) k).isSome=(CN ds k).isSome:=by
  rw [Hi];cases CN ds k <;> rfl
 refine Aw (fn:=Tryz.f118) Tryz.func118 U [.pointer (some ⟨bd,0,none⟩),.int .u64 k] U (by kernel_rfl) ?_;refine Af (AX Eu H ?_);rintro b4 w - H;refine Ai U (Ab (Aa (Aq (Af (Ay U (Co Ix U ?_))))));refine Ab (Aa (Ap _ U ?_ ?_))
 ·intro h0;cases h0
 ·intro h0;refine Au (Aa (Af (Ay U (A9 U (Ag DG U (AZ Fa U ((H.old0 (by rw [Aj hd]; rfl))) ?_))))));refine Ae U (Si (z:=FZ d00) U Fx EV OQ U U (H.ext.to hb (by simp)) hM ?_);rw [hmg,hms];refine BM U (A6 U U (A6 U U (AX Eu H ?_)));rintro b6 w - H;refine Bm Ci U U U (by exact CQ (LY ds k)) H at0 U ?_;rintro w H;refine Ai U (Ab (Aa (Af (Cl Ft Ci U H at0 U (AE U (Bm Ci U U U (by exact CQ (LY ds k)) H at1 U ?_))))));rintro w H;refine Ai U (Ab (Aa (A4 (Ib U U U Ft Ci H at1 U (show _=(.bool _) from rfl) ?_))));exact ⟨rfl,H.ext⟩
theorem Aej (w:World):Ret Tryz.prog 47 #[] w fun v w'=>∃ bd b o,v=ptr bd∧CT .u64 (dm []) o∧Ctx w [] w' [(bd,Bl 165 (DU b 1)),(b,o)]:=by
 obtain ⟨w0,rfl⟩:∃ w0,w0=w:=⟨_,rfl⟩;have H:=Ctx.start w0 [];refine Aw (fn:=Tryz.f47) Tryz.func47 U [] U (by kernel_rfl) ?_;refine Af (B3 U (Ab (Aa (Af (Oe .u64 U H ?_)))));rintro b o w hM H;refine B1 (DU b 1) Zl Zv (by kernel_rfl) ?_;refine Bv (DU b 1) (.agg _) U U H ?_;rintro b3 w - H;refine B3 U (Ab (Aa (A4 (AD (v:=(.pointer _)) U U U ?_))));exact ⟨b3,b,o,rfl,hM,H⟩
end Go.Proofs.YtdagmpmdcgedcaaGreat
namespace Go.Proofs.YtdagmpmdcgedcaaGreat
open Go.GV
attribute [local irreducible] AB W Wq Wt
def dueB (n:Nat) (d:Du):Bool:=DY d && (decide (d.fr<n) && decide (d.to<n))
def r19B (rs:List Int) (ds:List Du):Bool:=(decide (rs.length≤16) && decide (ds.length≤64)) && (rs.all CY && (ds.all (dueB rs.length) && decide ((ED (ds.map Du.am)).2=0)))
theorem Aas (ds:List Du):∀ i,(E4 i ds).map Du.am=ds.map Du.am:=by
 induction ds with
 | nil=>intro i; rfl
 | cons d ds ih=>intro i; show d.am::(E4 (i+1) ds).map Du.am=d.am::ds.map Du.am; rw [ih]
theorem Aat (rs:List Int):decide ((ED rs).2=1) = !rs.all CY:=by
 unfold ED
 cases h:rs.all CY with
 | false=>rw [if_pos rfl]; rfl
 | true =>
  rw [if_neg (by decide)]
  split <;> rfl
theorem Aj3 (rs:List Int) (ds:List Du) (hl:ds.length≤1000000):r19B rs ds=D3 rs ds:=by
 have h1:decide (ofC (E4 0 ds) (ds.length+1)=0)=(decide (ds.length≤64) && (ds.all DY && decide ((ED (ds.map Du.am)).2=0))):=by
  have ha:=XI (ds:=ds) 0;rw [show (((0:Nat):Int)+ds.length+1)=(ds.length:Int)+1 by omega] at ha;have ham:(E4 0 ds).map (·.am)=ds.map Du.am:=Aas ds 0;unfold ofC;rw [QD,ham,show F7 ((ds.length:Int)+1) 0 (E4 0 ds)=ds.all DY from ha]
  by_cases h64:64<ds.length
  ·rw [if_pos h64,decide_eq_false (show ¬ ds.length≤64 by omega)]; rfl
  ·rw [if_neg h64,decide_eq_true (show ds.length≤64 by omega),Bool.true_and,if_neg (by rw [decide_eq_true (show 1≤(ds.length:Int)+1 by omega),decide_eq_true (show (ds.length:Int)+1≤4611686018427387904 by omega)]; decide)]
   cases hm:ds.all DY with
   | false=>rw [if_pos rfl]; rfl
   | true=>rw [if_neg (by decide),Bool.true_and]
 have h2:ds.all (dueB rs.length)=(ds.all (fun d=>decide (max d.fr d.to<rs.length)) && ds.all DY):=by
  rw [Bool.eq_iff_iff];simp only [Bool.and_eq_true,List.all_eq_true,decide_eq_true_eq,dueB];constructor
  ·intro h;exact ⟨fun d hd=>by have:=h d hd; omega,fun d hd=>(h d hd).1⟩
  ·intro h d hd;have:=h.1 d hd;exact ⟨h.2 d hd,by omega,by omega⟩
 unfold r19B D3;rw [h1,h2,Aat];cases decide (rs.length≤16) <;> cases decide (ds.length≤64) <;> cases rs.all CY <;> cases ds.all (fun d=>decide (max d.fr d.to<rs.length)) <;> cases ds.all DY <;> rfl
end Go.Proofs.YtdagmpmdcgedcaaGreat
namespace Go.Proofs.YtdagmpmdcgedcaaGreat
open Go.GV
attribute [local irreducible] AB W Wq Wt
def inA (acs:List Ac) (k:Int):Bool:=decide (0≤k) && decide (k<acs.length)
def Dd (acs:List Ac) (k:Int):Ac:=if inA acs k=true then acs.getD k.toNat a00 else a00
set_option maxRecDepth 20000 in
set_option maxHeartbeats 2000000 in
theorem NK {bd:Nat} (a:Option Addr) (n c:Nat) (acs:List Ac) (k:Int) (w:World) (hd:w.heap[bd]? = some (Bl 162 [.slice a n c])) (R:Rd w a 2 CM acs) (hn:acs.length=n) (hm:n≤1000000) :
  Ret Tryz.prog 117 #[ptr bd,.int .i64 k] w fun v w'=>v = .tuple #[.agg (CM (Dd acs k)).toArray,.bool (inA acs k)]∧Ext [] w w':=by
 subst hn;obtain ⟨w0,rfl⟩:∃ w0,w0=w:=⟨_,rfl⟩;have H:=Ctx.start w0 [];refine Aw (fn:=Tryz.f117) Tryz.func117 U [.pointer (some ⟨bd,0,none⟩),.int .i64 k] U (by kernel_rfl) ?_;refine Af (AX II H ?_);rintro b4 w - H;refine Ai U (Ab (Aa (Aq (Af (BU (α:=Unit) 2097088 (fun _=>[(20,.bool (!inA acs k))]) (fun _ w'=>Ctx w0 [] w' [(b4,Bl 43 (CM a00))]) U ?_ ?_)))))
 ·refine Ay U (Co Nh U ?_);refine AE U (AY 8 U ?_ ?_)
  ·intro h1;refine Ah U (Ah U (AN U (.bool _) U (AE U (Ah U (Ah U (Ah U (Ah U (Ah U (Ah U ?_)))))))));refine Ah U (AN U (.bool _) U (Ab ?_));exact ⟨rfl,(),rfl,⟨congrArg Value.bool (by unfold inA; rw [Bool.eq_iff_iff]; simp_all; try omega),trivial⟩,H⟩
  ·intro h2;refine Ae U (Bj U U (AU U (.bool _) U (AE U (AY 12 U ?_ ?_))))
   ·intro h3;replace h3:=AJ h3;refine Ah U (Ah U (Ah U (Ah U (Ah U (Ah U (Ah U (AN U (.bool _) U (Ab ?_))))))));exact ⟨rfl,(),rfl,⟨congrArg Value.bool (by unfold inA; rw [Bool.eq_iff_iff]; simp_all; try omega),trivial⟩,H⟩
   ·intro h4;replace h4:=AK h4;refine Ae U (Ay U (A9 U (Ag Ez U (AZ Ek U ((H.old0 (by rw [Aj hd]; rfl))) ?_))));refine Bi Dg U (C4 U U (AU U (.bool _) U (Ab ?_)));exact ⟨rfl,(),rfl,⟨congrArg Value.bool (by unfold inA; rw [Bool.eq_iff_iff]; simp_all; try omega),trivial⟩,H⟩
 rintro - j20 w H;refine Ap _ U ?_ ?_
 ·intro h1;replace h1:=BE h1;refine Af (B1 [.int .i64 0,.int .i64 0] Afy II (by kernel_rfl) ?_);refine Bm Dx U U U (by simp [AO]) H at0 U ?_;rintro w H;refine Ai U (Ab (Aa (A4 (Ao (Ib U U U Qs Dx H at0 U (show _=(.bool _) from rfl) ?_)))));have h1':inA acs k=false:=by simpa using h1
  exact ⟨by unfold Dd; rw [h1',if_neg (by decide)]; rfl,H.ext⟩
 ·intro h1;replace h1:=BF h1;have h1':inA acs k=true:=by simpa using h1
  have h2:0≤k∧k<acs.length:=by unfold inA at h1'; simpa using h1'
  obtain ⟨i,rfl⟩:∃ i:Nat,k=(i:Int):=⟨k.toNat,by omega⟩;obtain ⟨x,hx⟩:=A8 (l:=acs) (i:=i);refine Au (Aa (Af (Ay U (A9 U (Ag Ez U (AZ Ek U ((H.old0 (by rw [Aj hd]; rfl))) ?_))))));refine Ae U (AS R Dg Dx U U (by rfl) ?_);refine Cj _ Qs Dx U U ((R.ext0 H.ext).row hx U) ?_;refine Bm Dx U U U (by exact HG _) H at0 U ?_;rintro w H;refine Ai U (Ab (Aa (A4 (Ib U U U Qs Dx H at0 U (show _=(.bool _) from rfl) ?_))));exact ⟨by unfold Dd; rw [h1',if_pos rfl,show ((i:Int)).toNat=i from rfl,Bo hx],H.ext⟩
end Go.Proofs.YtdagmpmdcgedcaaGreat
namespace Go.Proofs.YtdagmpmdcgedcaaGreat
open Go.GV
attribute [local irreducible] AB W Wq Wt
section
variable {P:Program} {r:Option Nat} {ops rest:List Oper} {Q:Exit→Env→World→Prop} {e:Env} {w:World} {dst:Option Tmp} {ty:TypeId} {pos:String} {af:Array Edge} {g:Option (Nat × Bool)}
theorem Aek {t k el:TypeId} {kk:IntKind} {x:Operand} {b:Nat} {o:Obj} {m:List (Int × Value)} (hg:AV ⟨dst,.call ⟨.builtin .len,#[x],#[t]⟩,ty,pos,af,g⟩ ops e=true) (ht:L6 P t=some (k,el)) (hx:ev e x = .map (some b)) (hb:w.heap[b]? = some o) (hM:CT kk m o)
  (h:AB P r ops Q rest (put e dst (.int .i64 (m.length:Int))) w):AB P r ops Q (⟨dst,.call ⟨.builtin .len,#[x],#[t]⟩,ty,pos,af,g⟩::rest) e w:=by
 obtain ⟨es,clock,rfl,hes,_⟩:=hM
 have hl:es.size=m.length:=by
  have:=congrArg List.length hes
  simpa using this
 have hgo:(getObj b).run P w = .ok (.map es clock) w:=by simp [getObj,Sem.run,hb]
 exact B9 hg U (by simp [execOp,resolve,invoke,builtin,hx,Builtin.len_,Bc (Hl ht),hgo,goInt,hl]) h
end
theorem Aau {ds:List Du} {d:Du} (h:Ej (dm ds) d.id=none):L5 (dm ds) d.id (FZ d)=dm (ds++[d]):=by
 rw [← Aag];generalize dm ds=m at h
 induction m with
 | nil=>rfl
 | cons p m ih =>
  have hp:¬ p.1=d.id:=by
   intro hp;simp [Ej,hp] at h
  have hb2:(p.1 == d.id)=false:=by simpa using hp
  have hm2:Ej m d.id=none:=by rw [← h]; simp [Ej,hb2]
  simp [L5,hp,ih hm2]
end Go.Proofs.YtdagmpmdcgedcaaGreat
namespace Go.Proofs.YtdagmpmdcgedcaaGreat
open Go.GV
attribute [local irreducible] AB W Wq Wt
def nodeR (N k:Int):Bool:=decide (0≤k) && decide (k<N)
end Go.Proofs.YtdagmpmdcgedcaaGreat
namespace Go.Proofs.YtdagmpmdcgedcaaGreat
open Go.GV
theorem Dj {xs:List Int}:(ED xs).2=0↔(∀ x∈xs,CY x=true)∧Ch xs≤4503599627370496:=by
 unfold ED
 cases h:xs.all CY with
 | false =>
  rw [if_pos rfl];refine ⟨fun h=>by simp at h,fun h2=>?_⟩;rw [List.all_eq_true.2 h2.1] at h; cases h
 | true =>
  rw [if_neg (by decide)];rw [List.all_eq_true] at h
  split
  ·rename_i h3; exact ⟨fun _=>⟨h,h3⟩,fun _=>rfl⟩
  ·rename_i h3; exact ⟨fun h=>by simp at h,fun h4=>absurd h4.2 h3⟩
theorem Fm {ds:List Du} {nx:Int}:ofC ds nx=0↔ds.length≤64∧(1≤nx∧nx≤4611686018427387904)∧F7 nx 0 ds=true∧(ED (ds.map (·.am))).2=0:=by
 unfold ofC
 by_cases h1:64<ds.length
 ·rw [if_pos h1]; exact ⟨fun h=>by simp at h,fun h=>absurd h.1 (by omega)⟩
 rw [if_neg h1]
 by_cases h2:1≤nx∧nx≤4611686018427387904
 ·rw [decide_eq_true h2.1,decide_eq_true h2.2,if_neg (by decide)]
  cases h3:F7 nx 0 ds with
  | false=>rw [if_pos rfl]; exact ⟨fun h=>by simp at h,fun h=>by cases h.2.2.1⟩
  | true=>rw [if_neg (by decide)]; exact ⟨fun h=>⟨by omega,h2,rfl,h⟩,fun h=>h.2.2.2⟩
 ·have:(decide (1≤nx) && decide (nx≤4611686018427387904))=false:=by
   rw [Bool.eq_false_iff]; intro h; simp only [Bool.and_eq_true,decide_eq_true_eq] at h; exact h2 h
  rw [if_pos this];exact ⟨fun h=>by simp at h,fun h=>absurd h.2.1 h2⟩
theorem Ael {nx a b:Int} {ds:List Du} (h:F7 nx b ds=true) (hab:a≤b:=by omega):F7 nx a ds=true:=by
 cases ds with
 | nil=>rfl
 | cons d ds =>
  simp only [F7,Bool.and_eq_true,decide_eq_true_eq] at h ⊢;exact ⟨⟨h.1.1,by omega,h.1.2.2⟩,h.2⟩
def DI:List Du→List Int→List Du
 | [],_=>[]
 | d::ds,[]=>d::ds
 | d::ds,x::xs=>if d.held=true then d::DI ds (x::xs) else if d.am=x then DI ds xs else { d with am:=d.am - x }::DI ds xs
theorem MO (ds:List Du):DI ds []=ds:=by cases ds <;> rfl
theorem Gm {d:Du} (h:d.held=true) (ds:List Du) (xs:List Int):DI (d::ds) xs=d::DI ds xs:=by
 cases xs with
 | nil=>rw [MO,MO]
 | cons x xs=>show (if d.held=true then _ else _)=_; rw [if_pos h]
theorem Gn {d:Du} (h:¬ d.held=true) (ds:List Du) (x:Int) (xs:List Int):DI (d::ds) (x::xs)=(if d.am=x then [] else [{ d with am:=d.am - x }])++DI ds xs:=by
 show (if d.held=true then _ else _)=_;rw [if_neg h]
 split <;> rfl
theorem E5 (d:Du) (ds:List Du):opn (d::ds)=(if d.held=true then [] else [d])++opn ds:=by
 unfold opn;rw [List.filter_cons];cases d.held <;> rfl
def PayIn (os:List Du) (xs:List Int):Prop:=os.length=xs.length∧∀ (i:Nat) (d:Du) (x:Int),os[i]? = some d→xs[i]? = some x→0≤x∧x≤d.am
theorem PayIn.tail {d:Du} {x:Int} {os:List Du} {xs:List Int} (h:PayIn (d::os) (x::xs)):(0≤x∧x≤d.am)∧PayIn os xs :=
 ⟨h.2 0 d x rfl rfl,by have:=h.1; simp only [List.length_cons] at this; omega,fun i e y he hy=>h.2 (i+1) e y he hy⟩
theorem PayIn.cons {d:Du} {os:List Du} {xs:List Int} (h:PayIn (d::os) xs):∃ x xs',xs=x::xs':=by
 cases xs with
 | nil=>have:=h.1; simp at this
 | cons x xs=>exact ⟨x,xs,rfl⟩
theorem IV {motive:List Du→List Int→Prop} (h0:∀ xs,motive [] xs) (h1:∀ d ds xs,d.held=true→motive ds xs→motive (d::ds) xs) (h2:∀ d ds x xs,¬ d.held=true→0≤x→x≤d.am→motive ds xs→motive (d::ds) (x::xs)):∀ (ds:List Du) (xs:List Int),PayIn (opn ds) xs→motive ds xs
 | [],xs,_=>h0 xs
 | d::ds,xs,h=>by
  rw [E5] at h
  by_cases hd:d.held=true
  ·rw [if_pos hd] at h;exact h1 d ds xs hd (IV h0 h1 h2 ds xs h)
  ·rw [if_neg hd] at h;obtain ⟨x,xs,rfl⟩:=PayIn.cons h;obtain ⟨ha,hb⟩:=PayIn.tail h;exact h2 d ds x xs hd ha.1 ha.2 (IV h0 h1 h2 ds xs hb)
theorem Aav {nx:Int} {ds:List Du} {xs:List Int} (h:PayIn (opn ds) xs):∀ ah,F7 nx ah ds=true→F7 nx ah (DI ds xs)=true:=by
 refine IV (motive:=fun ds xs=>∀ ah,F7 nx ah ds=true→F7 nx ah (DI ds xs)=true) ?_ ?_ ?_ ds xs h
 ·intro xs ah h; exact h
 ·intro d ds xs hd ih ah h;rw [Gm hd];simp only [F7,Bool.and_eq_true,decide_eq_true_eq] at h ⊢;exact ⟨h.1,ih _ h.2⟩
 ·intro d ds x xs hd h0 h1 ih ah h;rw [Gn hd];simp only [F7,Bool.and_eq_true,decide_eq_true_eq] at h
  by_cases he:d.am=x
  ·rw [if_pos he];exact Ael (ih _ h.2)
  ·rw [if_neg he];show F7 nx ah ({ d with am:=d.am - x }::DI ds xs)=true;simp only [F7,Bool.and_eq_true,decide_eq_true_eq];refine ⟨⟨?_,h.1.2⟩,ih _ h.2⟩;have hm:=h.1.1;unfold DY CY at hm ⊢;simp only [Bool.and_eq_true,decide_eq_true_eq,Bool.not_eq_true',decide_eq_false_iff_not] at hm ⊢;exact ⟨hm.1,by omega,by omega,hm.2.2.2⟩
theorem Aaw {ds:List Du} {xs:List Int} (h:PayIn (opn ds) xs):(DI ds xs).length≤ds.length:=by
 refine IV (motive:=fun ds xs=>(DI ds xs).length≤ds.length) ?_ ?_ ?_ ds xs h
 ·intro xs; exact Nat.le_refl _
 ·intro d ds xs hd ih; rw [Gm hd]; simpa using ih
 ·intro d ds x xs hd _ _ ih;rw [Gn hd,List.length_append,List.length_cons]
  split <;> simp <;> omega
theorem Aax (c:Du→Int) (hc:∀ d z,c { d with am:=z }=c d) {ds:List Du} {xs:List Int} (h:PayIn (opn ds) xs):Ch ((DI ds xs).map fun d=>c d*d.am)=Ch (ds.map fun d=>c d*d.am) - Ch (List.zipWith (fun d x=>c d*x) (opn ds) xs):=by
 refine IV (motive:=fun ds xs=>Ch ((DI ds xs).map fun d=>c d*d.am)=Ch (ds.map fun d=>c d*d.am) - Ch (List.zipWith (fun d x=>c d*x) (opn ds) xs)) ?_ ?_ ?_ ds xs h
 ·intro xs; rfl
 ·intro d ds xs hd ih;rw [Gm hd,E5,if_pos hd,List.map_cons,List.map_cons,BN,BN,ih,List.nil_append]; omega
 ·intro d ds x xs hd _ _ ih;rw [Gn hd,E5,if_neg hd,List.cons_append,List.nil_append,List.map_append,E7,ih,List.map_cons,BN];show _=_ - Ch ((c d*x)::List.zipWith _ _ _);rw [BN]
  by_cases he:d.am=x
  ·rw [if_pos he,he];show Ch []+_=_;have:Ch []=0:=rfl;rw [this]; omega
  ·rw [if_neg he];show Ch [c { d with am:=d.am - x }*(d.am - x)]+_=_;have h1:∀ z:Int,Ch [z]=z:=fun z=>by rw [BN]; show z+0=z; omega
   rw [h1,hc,Int.mul_sub]; omega
theorem Aem {nx:Int} {ds:List Du} {xs:List Int} (h:PayIn (opn ds) xs) (ho:ofC ds nx=0):ofC (DI ds xs) nx=0:=by
 obtain ⟨h1,h2,h3,h4⟩:=Fm.1 ho;have h5:=Aav h 0 h3;have h6:=Aaw h;have h7:=Aax (fun _=>1) (fun _ _=>rfl) h;simp only [Int.one_mul] at h7;obtain ⟨ha,hb⟩:=Dj.1 h4;refine Fm.2 ⟨by omega,h2,h5,Dj.2 ⟨fun x hx=>?_,?_⟩⟩
 ·obtain ⟨d,hd,rfl⟩:=List.mem_map.1 hx;have:=((J0 h5).1 d hd).2.2.2;unfold DY at this;simp only [Bool.and_eq_true] at this;exact this.2.2.1
 ·have h8:0≤Ch (List.zipWith (fun _ x=>x) (opn ds) xs):=GF fun x hx=>by
   obtain ⟨i,hi⟩:=List.mem_iff_getElem?.1 hx;rw [List.getElem?_zipWith] at hi
   cases h9:(opn ds)[i]? with
   | none=>rw [h9] at hi; cases hi
   | some d =>
    cases h10:xs[i]? with
    | none=>rw [h9,h10] at hi; cases hi
    | some y =>
     rw [h9,h10] at hi
     injection hi with hi
     have:=(h.2 i d y h9 h10).1;omega
  show Ch ((DI ds xs).map fun d=>d.am)≤_;rw [h7];show Ch (ds.map fun d=>d.am) - _≤_;have hb':Ch (ds.map fun d=>d.am)≤4503599627370496:=hb;omega
def KS (ds:List Du):List (Du × Int)→Prop
 | []=>True
 | p::ps=>(CN ds p.1.id=some p.1∧p.1.held=false∧0≤p.2∧p.2≤p.1.am)∧KS (GZ ds p.1.id p.2) ps
def Km (ds:List Du):List (Du × Int)→List Du
 | []=>ds
 | p::ps=>Km (GZ ds p.1.id p.2) ps
theorem TG (ps qs:List (Du × Int)):∀ ds,Km ds (ps++qs)=Km (Km ds ps) qs:=by
 induction ps with
 | nil=>intro ds; rfl
 | cons p ps ih=>intro ds; exact ih _
theorem Sk {ps qs:List (Du × Int)}:∀ {ds},KS ds (ps++qs)→KS ds ps∧KS (Km ds ps) qs:=by
 induction ps with
 | nil=>intro ds h; exact ⟨trivial,h⟩
 | cons p ps ih=>intro ds h; exact ⟨⟨h.1,(ih h.2).1⟩,(ih h.2).2⟩
theorem TH {ds:List Du} {ps:List (Du × Int)} (h:KS ds ps) {i:Nat} {p:Du × Int} (hp:ps[i]? = some p):(CN (Km ds (ps.take i)) p.1.id=some p.1∧p.1.held=false∧0≤p.2∧p.2≤p.1.am)∧Km ds (ps.take (i+1))=GZ (Km ds (ps.take i)) p.1.id p.2:=by
 have hs:ps=ps.take i++ps.drop i:=(List.take_append_drop i ps).symm
 have hd:ps.drop i=p::ps.drop (i+1):=by
  have hl:=Ck hp;rw [List.drop_eq_getElem_cons hl];rw [List.getElem?_eq_getElem hl] at hp
  injection hp with hp
  rw [hp]
 rw [hs,hd] at h;refine ⟨(Sk h).2.1,?_⟩;rw [List.take_add_one,hp];exact TG _ [p] ds
theorem XM {ds:List Du} {p:Du × Int} (h:CN ds p.1.id=some p.1∧p.1.held=false∧0≤p.2∧p.2≤p.1.am):N4 ds p.1.id p.2=0∧TE ds p.1.id p.2=GZ ds p.1.id p.2:=by
 have h1:N4 ds p.1.id p.2=0:=by
  unfold N4 pC;rw [h.1];show (if p.2<0 then (1:Int) else if p.1.held=true then 14 else if p.1.am<p.2 then 12 else 0)=0;rw [if_neg (by omega),h.2.1,if_neg (by decide),if_neg (by omega)]
 exact ⟨h1,by unfold TE; rw [if_pos h1]⟩
theorem Aay {P ds:List Du} {k x:Int} (h:∀ d∈P,d.id≠k):GZ (P++ds) k x=P++GZ ds k x:=by
 induction P with
 | nil=>rfl
 | cons y P ih =>
  show (if y.id=k then _ else y::GZ (P++ds) k x)=_;rw [if_neg (h y (List.mem_cons_self ..)),ih fun d hd=>h d (List.mem_cons_of_mem _ hd)]; rfl
theorem XN {P ds:List Du} {k:Int} (h:∀ d∈P,d.id≠k):CN (P++ds) k=CN ds k:=by
 unfold CN;rw [List.find?_append,List.find?_eq_none.2 fun d hd=>by simpa using h d hd]; rfl
theorem Aen {ds:List Du} {xs:List Int} (h:PayIn (opn ds) xs):∀ P:List Du,((P++ds).map (·.id)).Nodup→KS (P++ds) ((opn ds).zip xs)∧Km (P++ds) ((opn ds).zip xs)=P++DI ds xs:=by
 refine IV (motive:=fun ds xs=>∀ P:List Du,((P++ds).map (·.id)).Nodup→KS (P++ds) ((opn ds).zip xs)∧Km (P++ds) ((opn ds).zip xs)=P++DI ds xs) ?_ ?_ ?_ ds xs h
 ·intro xs P _; exact ⟨trivial,rfl⟩
 ·intro d ds xs hd ih P hn;rw [E5,if_pos hd,Gm hd,List.nil_append];have:=ih (P++[d]) (by rw [List.append_assoc]; exact hn);rw [List.append_assoc,List.append_assoc] at this;exact this
 ·intro d ds x xs hd h0 h1 ih P hn
  have hP:∀ e∈P,e.id≠d.id:=fun e he h=>by
   rw [List.map_append,List.nodup_append] at hn;exact hn.2.2 e.id (List.mem_map_of_mem (f:=fun d:Du=>d.id) he) d.id (List.mem_map_of_mem (f:=fun d:Du=>d.id) (List.mem_cons_self ..)) h
  have hpl:GZ (P++d::ds) d.id x=P++((if d.am=x then [] else [{ d with am:=d.am - x }])++ds):=by
   rw [Aay hP]
   congr 1
   show (if d.id=d.id then _ else _)=_;rw [if_pos rfl]
   split <;> rfl
  rw [E5,if_neg hd,Gn hd];show ((CN (P++d::ds) d.id=some d∧d.held=false∧0≤x∧x≤d.am)∧KS (GZ (P++d::ds) d.id x) ((opn ds).zip xs))∧Km (GZ (P++d::ds) d.id x) ((opn ds).zip xs)=_;rw [hpl,← List.append_assoc]
  have hn2:((P++(if d.am=x then ([]:List Du) else [{ d with am:=d.am - x }])++ds).map fun d:Du=>d.id).Nodup:=by
   split
   ·rw [List.append_nil];refine List.Nodup.sublist ?_ hn;exact List.Sublist.map _ (List.Sublist.append (List.Sublist.refl _) (List.sublist_cons_self _ _))
   ·rw [List.append_assoc,List.map_append] at *;exact hn
  obtain ⟨i1,i2⟩:=ih _ hn2;refine ⟨⟨⟨?_,by simpa using hd,h0,h1⟩,i1⟩,by rw [i2,List.append_assoc]⟩;rw [XN hP];unfold CN;rw [List.find?_cons,show (d.id == d.id)=true by simp]
theorem Aaz {l:List Int} (h:l.Pairwise (·<·)):l.Nodup:=h.imp fun h=>by omega
theorem Kn {nx:Int} {ds:List Du} (h:ofC ds nx=0):(ds.map (·.id)).Nodup:=Aaz (J0 (Fm.1 h).2.2.1).2.1
theorem Aa0 {nx:Int} {ds:List Du} (h:ofC ds nx=0) {d:Du} (hd:d∈ds):0<d.id∧d.id<nx∧DY d=true:=by
 have:=(J0 (Fm.1 h).2.2.1).1 d hd;exact ⟨this.1,this.2.2⟩
theorem Dc {d:Du} (h:DY d=true):(0≤d.fr∧d.fr<16)∧(0≤d.to∧d.to<16)∧d.fr≠d.to∧(1≤d.am∧d.am≤4503599627370496)∧(1≤d.we∧d.we≤1000)∧0≤d.un:=by
 unfold DY CY Q7 at h;simp only [Bool.and_eq_true,decide_eq_true_eq,Bool.not_eq_true',decide_eq_false_iff_not] at h;exact ⟨h.1.1,h.1.2.1,h.1.2.2,⟨h.2.1,h.2.2.1.2⟩,⟨h.2.2.2.1,h.2.2.2.2.1⟩,h.2.2.2.2.2⟩
def Vo (ds:List Du):Prop:=∀ d∈ds,0≤d.am∧d.am≤4503599627370496
theorem Aa1 {nx:Int} {ds:List Du} (h:ofC ds nx=0):Vo ds:=fun d hd=>by
 have:=(Dc (Aa0 h hd).2.2).2.2.2.1;omega
theorem Aeo {ds:List Du} {k x:Int} {e:Du} (h:Vo ds) (hf:CN ds k=some e) (h0:0≤x) (h1:x≤e.am):Vo (GZ ds k x)∧(GZ ds k x).length≤ds.length:=by
 induction ds with
 | nil=>cases hf
 | cons d ds ih =>
  unfold CN at hf;rw [List.find?_cons] at hf;have hd:=h d (List.mem_cons_self ..);unfold GZ
  by_cases hk:d.id=k
  ·rw [show (d.id == k)=true by simpa using hk] at hf
   injection hf with hf
   subst hf;rw [if_pos hk]
   split
   ·exact ⟨fun e he=>h e (List.mem_cons_of_mem _ he),by simp⟩
   ·refine ⟨fun e he=>?_,by simp⟩
    rcases List.mem_cons.1 he with rfl | he
    ·exact ⟨by show 0≤d.am - x; omega,by show d.am - x≤_; omega⟩
    ·exact h e (List.mem_cons_of_mem _ he)
  ·rw [show (d.id == k)=false by simpa using hk] at hf;obtain ⟨i1,i2⟩:=ih (fun e he=>h e (List.mem_cons_of_mem _ he)) hf;rw [if_neg hk];refine ⟨fun e he=>?_,by simpa using i2⟩
   rcases List.mem_cons.1 he with rfl | he
   ·exact hd
   ·exact i1 e he
theorem Ww {ds:List Du} {ps:List (Du × Int)} (h:Vo ds) (hp:KS ds ps):∀ i,Vo (Km ds (ps.take i))∧(Km ds (ps.take i)).length≤ds.length
 | 0=>⟨h,Nat.le_refl _⟩
 | i+1=>by
  obtain ⟨i1,i2⟩:=Ww h hp i
  cases hi:ps[i]? with
  | none=>rw [List.take_add_one,hi]; show Vo (Km ds (ps.take i++[]))∧(Km ds (ps.take i++[])).length≤_; rw [List.append_nil]; exact ⟨i1,i2⟩
  | some p =>
   obtain ⟨h1,h2⟩:=TH hp hi;rw [h2];obtain ⟨h3,h4⟩:=Aeo i1 h1.1 h1.2.2.1 h1.2.2.2;exact ⟨h3,Nat.le_trans h4 i2⟩
end Go.Proofs.YtdagmpmdcgedcaaGreat
namespace Go.Proofs.YtdagmpmdcgedcaaGreat
open Go.GV
theorem Ha (rs:List Int) (os:List Du) (net:Bool):(BJ rs os net).length=os.length+if net=true then 0 else 2*rs.length:=by
 unfold BJ;rw [List.length_append,List.length_map]
 split
 ·rfl
 ·rw [Wu]
theorem Io {rs:List Int} {os:List Du} {net:Bool} {i:Nat} {d:Du} (h:os[i]? = some d):(BJ rs os net)[i]? = some (Kl d):=by
 unfold BJ;have hl:=Ck h;rw [List.getElem?_append_left (by rw [List.length_map]; exact hl),List.getElem?_map,h]; rfl
theorem KA {rs:List Int} {os:List Du} {j:Nat} {e:Ed} (h:(ML rs)[j]? = some e):(BJ rs os false)[os.length+j]? = some e:=by
 unfold BJ;rw [List.getElem?_append_right (by rw [List.length_map]; omega),List.length_map,show os.length+j - os.length=j by omega,if_neg (by decide),h]
def Wx (n:Nat) (d:Du):Prop:=DY d=true∧d.fr<n∧d.to<n
theorem QE {n:Nat}:∀ {os:List Du},(∀ d∈os,Wx n d)→((((os.map Kl).map GO).sum:Nat):Int)≤1000*Ch (os.map Du.am)
 | [],_=>by show (0:Int)≤1000*0; omega
 | d::os,h=>by
  have ih:=QE (os:=os) fun e he=>h e (List.mem_cons_of_mem _ he);have hm:=Dc (h d (List.mem_cons_self ..)).1;rw [List.map_cons,List.map_cons,List.sum_cons,List.map_cons,BN];have h1:GO (Kl d)≤d.am.toNat*1000:=Nat.mul_le_mul_left _ (by show (-d.we).natAbs≤1000; omega);have h2:((d.am.toNat:Nat):Int)=d.am:=Int.toNat_of_nonneg (by omega);have h3:((GO (Kl d):Nat):Int)≤d.am*1000:=by omega
  rw [Int.natCast_add,Int.mul_add]; omega
theorem XO {rs:List Int} {os:List Du} {net:Bool} (hn:rs.length≤16) (hm:os.length≤64) (hrs:∀ x∈rs,CY x=true) (hos:∀ d∈os,Wx rs.length d) (hsum:Ch (os.map Du.am)≤4503599627370496):Cw ((rs.length+1:Nat):Int) (BJ rs os net)=true:=by
 have hl:=Ha rs os net;have hE:(BJ rs os net).length≤200:=by rw [hl]; split <;> omega
 have hall:(BJ rs os net).all (FK ((rs.length+1:Nat):Int))=true:=by
  rw [List.all_eq_true];intro e he;unfold BJ at he
  rcases List.mem_append.1 he with he | he
  ·obtain ⟨d,hd,rfl⟩:=List.mem_map.1 he;obtain ⟨h1,h2,h3⟩:=hos d hd;have:=Dc h1;unfold FK LR Kl;simp only [Bool.and_eq_true,decide_eq_true_eq];omega
  ·split at he
   ·cases he
   ·unfold ML at he;obtain ⟨j,hj,rfl⟩:=List.mem_map.1 he;rw [List.mem_range] at hj;obtain ⟨r,hr⟩:=A8 (l:=rs) (i:=j / 2);have hr2:=CE.1 (hrs r (List.mem_of_getElem? hr));unfold FK LR;rw [Bo hr]
    split
    ·simp only [Bool.and_eq_true,decide_eq_true_eq]; omega
    ·simp only [Bool.and_eq_true,decide_eq_true_eq]; omega
 have hp:FM (BJ rs os net)≤4611686018427387904:=by
  unfold FM BJ;rw [List.map_append,List.sum_append];have h1:=QE hos
  have h2:((if net=true then [] else ML rs).map GO).sum=0:=by
   split
   ·rfl
   ·unfold ML;rw [List.map_map]
    have:∀ l:List Nat,(l.map (GO ∘ fun j=>if j % 2=0 then (⟨rs.length,(j / 2:Nat),rs.getD (j / 2) 0,0⟩:Ed) else ⟨(j / 2:Nat),rs.length,4503599627370496,0⟩)).sum=0:=by
     intro l
     induction l with
     | nil=>rfl
     | cons j l ih =>
      rw [List.map_cons,List.sum_cons,ih];show GO (if j % 2=0 then _ else _)+0=0
      split <;> rfl
    exact this _
  rw [h2]; omega
 unfold Cw;rw [hall,decide_eq_true hE,decide_eq_true hp,decide_eq_true (show (1:Int)≤((rs.length+1:Nat):Int) by omega),decide_eq_true (show ((rs.length+1:Nat):Int)≤40 by omega)]; rfl
theorem Pq {g:Gr} {x:Nat→Int} {n m:Nat} (hE:∀ k,k<n→(g.f (m+2*k)=n∧g.t (m+2*k)=k)∧g.f (m+2*k+1)=k∧g.t (m+2*k+1)=n) {v:Nat} (hv:v<n):∀ j,j≤n→DS g x (m+2*j) v=DS g x m v+if v<j then x (m+2*v) - x (m+2*v+1) else 0
 | 0,_=>by rw [if_neg (by omega)]; simp
 | j+1,hj=>by
  obtain ⟨⟨h1,h2⟩,h3,h4⟩:=hE j (by omega);rw [show m+2*(j+1)=m+2*j+1+1 by omega,Gk,Gk,h1,h2,h3,h4,Pq hE hv j (by omega),EW (show ¬ n=v by omega)]
  by_cases e:j=v
  ·subst e;rw [Fv rfl,if_neg (by omega),if_pos (by omega)]; omega
  ·rw [EW e]
   by_cases h:v<j
   ·rw [if_pos h,if_pos (by omega)]; omega
   ·rw [if_neg h,if_neg (by omega)]; omega
theorem Sm {N:Int} {es:List Ed} {i:Nat} {e:Ed} (h:es[i]? = some e):(grE N es).f i=e.f.toNat:=by show (es.getD i e0).f.toNat=_; rw [Bo h]
theorem Sn {N:Int} {es:List Ed} {i:Nat} {e:Ed} (h:es[i]? = some e):(grE N es).t i=e.t.toNat:=by show (es.getD i e0).t.toNat=_; rw [Bo h]
theorem TI {N:Int} {es:List Ed} {i:Nat} {e:Ed} (h:es[i]? = some e):(grE N es).co i=e.cost:=by show (es.getD i e0).cost=_; rw [Bo h]
def byK (rs:List Int) (os:List Du) (net:Bool) (fl:List Int) (k:Nat):Int:=DS (grE ((rs.length+1:Nat):Int) (BJ rs os net)) (flE fl) os.length k
theorem TJ {rs:List Int} {os:List Du} {net:Bool} {fl:List Int} (hrs:∀ x∈rs,0≤x) (hos:∀ d∈os,Wx rs.length d) (hf:FE ((rs.length+1:Nat):Int) (BJ rs os net) fl=true) :
  PayIn os (fl.take os.length)∧fl.length=(BJ rs os net).length∧(∀ (k:Nat) (r:Int),rs[k]? = some r→(net=true→byK rs os net fl k=0) ∧ -r≤byK rs os net fl k∧byK rs os net fl k≤4503599627370496)∧B7 (byK rs os net fl) rs.length=0:=by
 obtain ⟨hw,hz⟩:=Ff hf;obtain ⟨hl,hr,hin⟩:=Cv hw;have hlen:=Ha rs os net;refine ⟨⟨by rw [List.length_take]; omega,fun i d x hd hx=>?_⟩,hl,fun k r hk=>?_,?_⟩
 ·have hi:=Ck hd;rw [List.getElem?_take,if_pos hi] at hx;exact hin i (Kl d) x (Io hd) hx
 ·have hkn:=Ck hk;have h0:=hz k (by omega);have hE:(grE ((rs.length+1:Nat):Int) (BJ rs os net)).E=(BJ rs os net).length:=rfl;unfold BC at h0;rw [hE,hlen] at h0;have hr0:=hrs r (List.mem_of_getElem? hk)
  cases net with
  | true =>
   rw [if_pos rfl,Nat.add_zero] at h0;have h0':byK rs os true fl k=0:=h0;exact ⟨fun _=>h0',by omega,by omega⟩
  | false =>
   rw [if_neg (by decide),Pq (x:=flE fl) (n:=rs.length) (fun j hj=>?_) hkn rs.length (Nat.le_refl _),if_pos hkn] at h0
   ·obtain ⟨y,hy⟩:=A8 (l:=fl) (i:=os.length+2*k) (h:=by rw [hl,hlen,if_neg (by decide)]; omega);obtain ⟨z,hzz⟩:=A8 (l:=fl) (i:=os.length+2*k+1) (h:=by rw [hl,hlen,if_neg (by decide)]; omega);have h1:=hin _ _ y (KA (LW hk)) hy;have h2:=hin _ _ z (by rw [Nat.add_assoc]; exact KA (NJ hkn)) hzz;rw [show flE fl (os.length+2*k)=y from Bo hy,show flE fl (os.length+2*k+1)=z from Bo hzz] at h0;have h0':byK rs os false fl k+(y - z)=0:=h0;dsimp only at h1 h2;exact ⟨(fun h=>by cases h),by omega,by omega⟩
   ·obtain ⟨r',hr'⟩:=A8 (h:=hj);have e1:(BJ rs os false)[os.length+2*j]? = _:=KA (LW hr');have e2:(BJ rs os false)[os.length+2*j+1]? = some ⟨j,rs.length,4503599627370496,0⟩:=by rw [Nat.add_assoc]; exact KA (NJ hj)
    rw [Sm e1,Sn e1,Sm e2,Sn e2];dsimp only;omega
 ·have:=over_all ⟨rs.length,os.length,(grE ((rs.length+1:Nat):Int) (BJ rs os net)).f,(grE ((rs.length+1:Nat):Int) (BJ rs os net)).t,fun _=>0⟩ ⟨fun i hi=>?_,fun i hi=>?_⟩ (flE fl)
  ·exact this
  ·obtain ⟨d,hd⟩:=A8 (l:=os) (i:=i) (h:=hi);obtain ⟨h1,h2,h3⟩:=hos d (List.mem_of_getElem? hd);have:=Dc h1;dsimp only;rw [Sm (Io hd)];unfold Kl;dsimp only;omega
  ·obtain ⟨d,hd⟩:=A8 (l:=os) (i:=i) (h:=hi);obtain ⟨h1,h2,h3⟩:=hos d (List.mem_of_getElem? hd);have:=Dc h1;dsimp only;rw [Sn (Io hd)];unfold Kl;dsimp only;omega
theorem XP {xs ys:List Int} (hl:xs.length=ys.length) (hx:∀ x∈xs,CY x=true) (hy:∀ y∈ys,Gl y=true) (hs:Ch ys=0) (hz:∀ z∈CZ xs ys,CY z=true):D7 xs ys=0:=by
 unfold D7 Ik;rw [decide_eq_true hl,List.all_eq_true.2 hx,List.all_eq_true.2 hy,decide_eq_true hs,if_neg (by decide),if_neg,if_neg]
 ·rw [List.all_eq_true.2 hz]; decide
 ·rw [List.all_eq_true.2 fun z h=>decide_eq_true (CE.1 (hz z h)).1]; decide
theorem Pr:∀ {xs ys:List Int},xs.length=ys.length→Ch (CZ xs ys)=Ch xs+Ch ys
 | [],[],_=>rfl
 | [],_::_,h=>by cases h
 | _::_,[],h=>by cases h
 | x::xs,y::ys,h=>by
  have ih:=Pr (xs:=xs) (ys:=ys) (by simpa using h);show Ch ((x+y)::CZ xs ys)=_;rw [BN,BN,BN,ih]; omega
theorem TK {xs:List Int} (h:∀ x∈xs,0≤x):∀ x∈xs,x≤Ch xs:=by
 induction xs with
 | nil=>intro x hx; cases hx
 | cons y xs ih =>
  intro x hx;rw [BN];have h0:=h y (List.mem_cons_self ..);have h1:=GF fun z hz=>h z (List.mem_cons_of_mem _ hz)
  rcases List.mem_cons.1 hx with rfl | hx
  ·omega
  ·have:=ih (fun z hz=>h z (List.mem_cons_of_mem _ hz)) x hx;omega
theorem BZ {acs:List Ac}:Ef acs=0↔acs.length≤16∧(∀ a∈acs,Im a=true)∧(ED (acs.map Ac.ba)).2=0:=by
 unfold Ef
 by_cases h1:16<acs.length
 ·rw [if_pos h1]; exact ⟨fun h=>by simp at h,fun h=>absurd h.1 (by omega)⟩
 rw [if_neg h1]
 cases h2:acs.all Im with
 | false =>
  rw [if_pos rfl];refine ⟨fun h=>by simp at h,fun h=>?_⟩;rw [List.all_eq_true.2 h.2.1] at h2; cases h2
 | true =>
  rw [if_neg (by decide)];rw [List.all_eq_true] at h2;exact ⟨fun h=>⟨by omega,h2,h⟩,fun h=>h.2.2⟩
theorem EQ {a:Ac}:Im a=true↔(0≤a.ba∧a.ba≤4503599627370496)∧0≤a.re∧a.re≤4503599627370496:=by
 unfold Im; rw [Bool.and_eq_true,CE,CE]
theorem Aep {acs:List Ac} {by':Nat→Int} (hs:D7 (acs.map Ac.ba) (tab by' acs.length)=0) {k:Nat} {a:Ac} (hk:acs[k]? = some a):(shA acs (tab by' acs.length))[k]? = some ⟨a.ba+by' k,a.re⟩:=by
 unfold shA;rw [if_pos hs,List.getElem?_zipWith,hk,BT (Ck hk)]
theorem So {acs:List Ac} {by':Nat→Int}:(shA acs (tab by' acs.length)).length=acs.length:=by
 unfold shA
 split
 ·rw [List.length_zipWith,CV]; omega
 ·rfl
theorem Ns {acs:List Ac} {by':Nat→Int} (ha:Ef acs=0) (hb:∀ (k:Nat) (a:Ac),acs[k]? = some a → -(Dq a)≤by' k∧by' k≤4503599627370496) (hs:B7 by' acs.length=0) :
  D7 (acs.map Ac.ba) (tab by' acs.length)=0∧Ef (shA acs (tab by' acs.length))=0:=by
 obtain ⟨h1,h2,h3⟩:=BZ.1 ha;obtain ⟨h4,h5⟩:=Dj.1 h3;have hl:(acs.map Ac.ba).length=(tab by' acs.length).length:=by rw [List.length_map,CV]
 have hsum:Ch (tab by' acs.length)=0:=by rw [TA]; exact hs
 have hat:∀ z∈CZ (acs.map Ac.ba) (tab by' acs.length),∃ k a,acs[k]? = some a∧z=a.ba+by' k:=fun z hz=>by
  obtain ⟨k,hk⟩:=List.mem_iff_getElem?.1 hz;have hkl:=Ck hk;unfold CZ at hkl;rw [List.length_zipWith,List.length_map,CV] at hkl;obtain ⟨a,hka⟩:=A8 (l:=acs) (i:=k);rw [Kh (x:=a.ba) (y:=by' k) (by rw [List.getElem?_map,hka]; rfl) (BT (by omega))] at hk
  injection hk with hk
  exact ⟨k,a,hka,hk.symm⟩
 have hnn:∀ z∈CZ (acs.map Ac.ba) (tab by' acs.length),0≤z:=fun z hz=>by
  obtain ⟨k,a,hk,rfl⟩:=hat z hz;have:=hb k a hk;have h6:=EQ.1 (h2 a (List.mem_of_getElem? hk));unfold Dq at this;omega
 have htot:=Pr hl;rw [hsum] at htot
 have hmay:∀ z∈CZ (acs.map Ac.ba) (tab by' acs.length),CY z=true:=fun z hz=>by
  have:=TK hnn z hz;exact CE.2 ⟨hnn z hz,by omega⟩
 have hC:D7 (acs.map Ac.ba) (tab by' acs.length)=0:=by
  refine XP hl h4 (fun y hy=>?_) hsum hmay;obtain ⟨k,hk⟩:=List.mem_iff_getElem?.1 hy;obtain ⟨hkl,rfl⟩:=OY hk;obtain ⟨a,hka⟩:=A8 (l:=acs) (i:=k) (h:=hkl);have:=hb k a hka;have h6:=EQ.1 (h2 a (List.mem_of_getElem? hka));unfold Dq at this;unfold Gl;rw [Bool.and_eq_true,decide_eq_true_eq,decide_eq_true_eq];omega
 have hmap:(shA acs (tab by' acs.length)).map Ac.ba=CZ (acs.map Ac.ba) (tab by' acs.length):=by
  unfold shA CZ;rw [if_pos hC,List.map_zipWith,List.zipWith_map_left]
 refine ⟨hC,BZ.2 ⟨by rw [So]; exact h1,fun a' ha'=>?_,Dj.2 ⟨by rw [hmap]; exact hmay,by rw [hmap]; omega⟩⟩⟩;obtain ⟨k,hk⟩:=List.mem_iff_getElem?.1 ha';have hkl:=Ck hk;rw [So] at hkl;obtain ⟨a,hka⟩:=A8 (l:=acs) (i:=k) (h:=hkl);have h7:=Aep hC hka;rw [h7] at hk
 injection hk with hk
 subst hk;have h8:CY (a.ba+by' k)=true:=hmay _ (List.mem_of_getElem? (i:=k) (Kh (by rw [List.getElem?_map,hka]; rfl) (BT hkl)));unfold Im at *;rw [Bool.and_eq_true];have:=h2 a (List.mem_of_getElem? hka);rw [Bool.and_eq_true] at this;exact ⟨h8,this.2⟩
structure Bright (rs:List Int) (ds:List Du):Prop where
 n16:rs.length≤16
 may:∀ x∈rs,CY x=true
 m64:ds.length≤64
 due:∀ d∈ds,Wx rs.length d
 tot:Ch (ds.map Du.am)≤4503599627370496
theorem HK {rs:List Int} {ds:List Du} (hl:ds.length≤1000000:=by omega):D3 rs ds=true↔Bright rs ds:=by
 rw [← Aj3 rs ds hl];unfold r19B;simp only [Bool.and_eq_true,decide_eq_true_eq,List.all_eq_true,dueB];constructor
 ·rintro ⟨⟨h1,h2⟩,h3,h4,h5⟩;exact ⟨h1,h3,h2,fun d hd=>⟨(h4 d hd).1,(h4 d hd).2.1,(h4 d hd).2.2⟩,(Dj.1 h5).2⟩
 ·rintro ⟨h1,h3,h2,h4,h5⟩;refine ⟨⟨h1,h2⟩,h3,fun d hd=>⟨(h4 d hd).1,(h4 d hd).2.1,(h4 d hd).2.2⟩,Dj.2 ⟨fun x hx=>?_,h5⟩⟩;obtain ⟨d,hd,rfl⟩:=List.mem_map.1 hx;have:=(Dc (h4 d hd).1).2.2.2.1;exact CE.2 ⟨by omega,this.2⟩
theorem Wy {ds:List Du} {d:Du} (h:d∈opn ds):d∈ds∧d.held=false:=by
 unfold opn at h;rw [List.mem_filter] at h;exact ⟨h.1,by simpa using h.2⟩
theorem Ip (ds:List Du):(opn ds).length≤ds.length:=List.length_filter_le _ _
theorem Wz {ds:List Du} (h:∀ d∈ds,0≤d.am):Ch ((opn ds).map Du.am)≤Ch (ds.map Du.am):=by
 induction ds with
 | nil=>exact Int.le_refl _
 | cons d ds ih =>
  have h0:=h d (List.mem_cons_self ..);have ih:=ih fun e he=>h e (List.mem_cons_of_mem _ he);rw [E5,List.map_cons,BN]
  split
  ·rw [List.nil_append]; omega
  ·show Ch (d.am::(opn ds).map Du.am)≤_;rw [BN]; omega
theorem Bright.open' {rs:List Int} {ds:List Du} (h:Bright rs ds):Bright rs (opn ds) :=
 ⟨h.n16,h.may,Nat.le_trans (Ip ds) h.m64,fun d hd=>h.due d (Wy hd).1,Int.le_trans (Wz fun d hd=>by have:=(Dc (h.due d hd).1).2.2.2.1; omega) h.tot⟩
theorem Bright.right {rs:List Int} {ds:List Du} (h:Bright rs ds) (net:Bool):Cw ((rs.length+1:Nat):Int) (BJ rs (opn ds) net)=true :=
 XO h.n16 h.open'.m64 h.may h.open'.due h.open'.tot
theorem Lo {acs:List Ac} {ds:List Du} {nx:Int} (ha:Ef acs=0) (hd:ofC ds nx=0) (hb:∀ d∈ds,d.fr<acs.length∧d.to<acs.length):Bright (acs.map Dq) ds:=by
 obtain ⟨h1,h2,h3⟩:=BZ.1 ha;obtain ⟨h4,h5,h6,h7⟩:=Fm.1 hd;refine ⟨by rw [List.length_map]; exact h1,fun x hx=>?_,h4,fun d hd'=>⟨(Aa0 hd hd').2.2,by rw [List.length_map]; exact (hb d hd').1,by rw [List.length_map]; exact (hb d hd').2⟩,(Dj.1 h7).2⟩;obtain ⟨a,ha',rfl⟩:=List.mem_map.1 hx;have:=EQ.1 (h2 a ha');unfold Dq;exact CE.2 ⟨by omega,by omega⟩
end Go.Proofs.YtdagmpmdcgedcaaGreat
namespace Go.Proofs.YtdagmpmdcgedcaaGreat
open Go.GV
attribute [local irreducible] AB W Wq Wt
theorem TL {P:Program} {e:Env} {w:World} {fn:Func} {R:Value→World→Prop} {a s2 s3:Tmp} {t:TypeId} {p:Addr} {v2 v3:Value} (hr:fn.results=#[.cell a t,.tmp s2,.tmp s3]) (ha:e.g a = .pointer (some p)) (h2:e.g s2=v2) (h3:e.g s3=v3) (h:Marks e.ds w fun w'=>∃ v,(loadVar t p).run P w' = .ok v w'∧R (.tuple #[v,v2,v3]) w'):SV P fn R .ret e w :=
 Marks.mono (fun w ⟨v,hv,h⟩ tmps ht=>by
  have h1:=(ht a).trans ha;have g2:=(ht s2).trans h2;have g3:=(ht s3).trans h3;rw [Array.getD_eq_getD_getElem?] at h1 g2 g3
  exact ⟨.tuple #[v,v2,v3],by simp [results,hr,h1,g2,g3,asAddr,hv],h⟩) h
def RoundRes (w:World) (rs:List Int) (ds:List Du) (net:Bool) (v:Value) (w':World):Prop :=
 Ext [] w w'∧((D3 rs ds=false∧v = .tuple #[Ec 0 none 0 0,.slice none 0 0,.int .i64 1]) ∨
  (D3 rs ds=true∧∃ aE nE cE vI,v = .tuple #[Ec ((rs.length+1:Nat):Int) aE nE cE,vI,.int .i64 0]∧Sl w w' (.slice aE nE cE) 4 CI (BJ rs (opn ds) net)∧Sl w w' vI 1 U1 ((opn ds).map Du.id)))
def rndJ (ws:World) (b6:Nat) (N:Int) (es:List Ed) (i:Nat) (M:Mt) (w:World):Prop :=
 ∃ a c full,(M=fun y=>y∈((b6,Bl 51 [.int .i64 N,.slice a i c])::ent a 59 full).map (·.1))∧Ctx ws [b6] w ((b6,Bl 51 [.int .i64 N,.slice a i c])::ent a 59 full) ∧
  OS a i c 4 full ((es.take i).flatMap CI)∧∀ y∈((b6,Bl 51 [.int .i64 N,.slice a i c])::ent a 59 full).map (·.1),y≠ws.heap.size∧y≠ws.heap.size+1
set_option maxRecDepth 20000 in
set_option maxHeartbeats 4000000 in
theorem Hj (a b:Option Addr) (n c m e:Nat) (rs:List Int) (ds:List Du) (net:Bool) (w:World) (R:Rd w a 1 I1 rs) (hn:rs.length=n) (Rd':Rd w b 7 CO ds) (hm:ds.length=m)  (hn2:n≤1000000:=by omega) (hm2:m≤1000000:=by omega):
  Ret Tryz.prog 179 #[.slice a n c,.slice b m e,.bool net] w (RoundRes w rs ds net):=by
 subst hn hm;obtain ⟨w0,rfl⟩:∃ w0,w0=w:=⟨_,rfl⟩;have H:=Ctx.start w0 [];obtain ⟨bb,hbb⟩:∃ bb,bb=D3 rs ds:=⟨_,rfl⟩;obtain ⟨os,hos⟩:∃ os,os=opn ds:=⟨_,rfl⟩;have hol:os.length≤ds.length:=by rw [hos]; exact Ip ds
 refine He (fn:=Tryz.f179) Tryz.func179 U [.slice a rs.length c,.slice b ds.length e,.bool net] U (by kernel_rfl) ?_;refine Af (AX Ni H ?_);rintro b6 w - H;refine A1 U (Ad U (Ab (Aa (Aq (Af (A3 U (A3 U (Al Ahq (XK a b _ c _ e rs ds _ (R.ext0 H.ext) U hn2 (Rd'.ext0 H.ext) U hm2) U ?_))))))));rintro v w ⟨rfl,hx14⟩;replace H:=H.call hx14;rw [← hbb];refine BA U (Ab (Aa (Ap _ U ?_ ?_)))
 ·intro h1;replace h1:=BE h1;refine Af (Cl Df CL U H at0 U (Bm CL U U U (by simp [AO]) H at0 U ?_));rintro w H;refine A1 U (Ad U (Ab (Aa (A4 (Ao (TL U U U U ?_))))));exact ⟨_,Fi Df CL U (fun j v hv=>by rw [Aj (H.get at0),Nat.zero_add]; exact hv),H.ext,.inl ⟨by rw [← hbb]; exact h1,rfl⟩⟩
 ·intro h1;replace h1:=BF h1;refine Au (Aa (Af (A3 U (Bi Bg U (Ax U U ?_)))));refine Ag Fl U (Cp (.int _ _) FY U U U H at0 (by decide) ?_);rintro w H;refine Ab (Aa (Af (A3 U (Al YP (Ws b _ e ds _ (Rd'.ext0 H.ext) U hm2) U ?_))));rintro v w F;rw [← hos] at F;obtain ⟨a4,n4,c4,f4,rfl,O4,hb4⟩:=F.ex;have hl4:=O4.llen;rw [Po] at hl4;obtain rfl:os.length=n4:=by omega
  refine A1 U (Ab (Aa (Aq ?_)));have hb6:=H.lt at0;have RO:Rd w a4 7 CO os:=OS.rd O4 (fun y hy=>(hb4 y hy).1) (fun _ _=>rfl) (by omega)
  have hROn:os≠[]→(adr a4).block∉[b6]:=fun hne=>by
   obtain ⟨q,rfl⟩:=O4.form (List.length_pos_iff.2 hne);have:=(hb4 (q,Bl 67 f4) (List.mem_singleton.2 rfl)).2;rw [List.mem_singleton];show q≠b6;dsimp only at this;omega
  have H4:=H.call F.ext;have hs4:=H4.size;have hl64:=H4.lt at0;obtain ⟨w4,rfl⟩:∃ z,z=w:=⟨_,rfl⟩;have H:=Ctx.lend (L1:=[_]) (L2:=[]) H4;dsimp only [List.map] at H;refine Af (A3 U (Bi CK U (Ae U (Ab (Aa (A0 (Bt 34326185088 (α:=LSt) (fun t=>[(7,.slice t.a t.i t.c),(25,.int .i64 (t.i:Int))]) (fun t w'=>t.i≤os.length∧OS t.a t.i t.c 1 t.full (((os.take t.i).map Du.id).map GG)∧Ctx w4 [b6] w' ((b6,Bl 51 [.int .i64 ((rs.length:Int)+1),.slice none 0 0])::ent t.a 28 t.full)) (fun t=>os.length - t.i) ⟨0,none,0,[]⟩ U ?_ ?_ ?_)))))))
  ·exact ⟨rfl,rfl,trivial⟩
  ·exact ⟨Nat.zero_le _,OS.nil,H⟩
  ·clear H;rintro ⟨i,a2,c2,full⟩ jj w ⟨hi,O,H⟩; dsimp only at hi O H; dsimp only;refine Af (Bj U U (Ab (Aa (Aq (Ap _ U ?_ ?_)))))
   ·intro h3;replace h3:=AJ h3;obtain ⟨d,hd⟩:=A8 (l:=os) (i:=i);refine Au (Aa (Aq (A0 (Af (AS RO CK Ci U U (by rfl) ?_)))));refine Cj _ Ft Ci U U ((RO.ext' H.ext hROn).row hd U) ?_;refine AX Eu H ?_;rintro b10 w - H;refine Bm Ci U U U (by exact CQ _) H at0 U ?_;rintro w H;refine Ab (Aa (Az (A3 U (Ag Gy U (AM B5 U H at0 U (Ct _ (.int _ _) Bx Bp ON U (by decide) (by decide) U U U H ?_))))));rintro b32 w - H;refine CA (L:=[_,_]) Bx Bx Bp VJ ON U (by decide) U U H O U (by simp [AO]) ?_;rintro a' c' full' w H O;refine A1 U (Ab (A5 (Aa (Az (Ax U U ?_)))));refine Ae U (Ab (Aa ?_));exact ⟨⟨i+1,a',c',full'⟩,rfl,⟨rfl,rfl,trivial⟩,⟨by dsimp only; omega,by dsimp only; rw [Kk hd,List.map_append]; exact O,H.tail⟩,by dsimp only; omega⟩
   ·intro h3;replace h3:=AK h3;obtain rfl:i=os.length:=by omega
    rw [List.take_length] at O;refine Bq (Am (Am (AG (Aa (Aq (Af (A3 U (A3 U (AE U (Al Ahr (XL a a4 _ c _ c4 net _) U ?_))))))))));rintro v w ⟨x1,x2,x3,rfl,H10⟩;have H5:=H.call H10.ext;refine Ab (Aa (A0 ?_));have RI0:Rd w a2 1 U1 (os.map Du.id):=O.rd1 fun x hx=>H5.blk x (List.mem_cons_of_mem _ hx)
    have hRIn:os.map Du.id≠[]→w4.heap.size≤(adr a2).block:=fun hne=>by
     obtain ⟨q,rfl⟩:=O.form (by have:=List.length_pos_iff.2 hne; rw [List.length_map] at this; exact this)
     rcases H.own (q,Bl 28 full) (List.mem_cons_of_mem _ (List.mem_singleton.2 rfl)) with h | h
     ·exact absurd (List.mem_singleton.1 h) fun h=>H.ne (i:=1) (j:=0) rfl rfl (by decide) h
     ·exact h
    have hk1:=H10.get at1;have hk2:=H10.get at0;have hk3:=H10.get at2;have ho1:=(H10.own _ (List.mem_of_getElem? at1)).elim (fun h=>by cases h) id;have ho2:=(H10.own _ (List.mem_of_getElem? at0)).elim (fun h=>by cases h) id;have ho3:=(H10.own _ (List.mem_of_getElem? at2)).elim (fun h=>by cases h) id;dsimp only at ho1 ho2 ho3;have hl6:=H.lt at0;have hs5:=H5.size;have hx5:=H4.ext.then H5.ext fun x hx => .inr (by rw [List.mem_singleton.1 hx]; exact (H4.own _ (List.mem_of_getElem? at0)).elim (fun h=>by cases h) id);have hb60:w0.heap.size≤b6:=(H4.own _ (List.mem_of_getElem? at0)).elim (fun h=>by cases h) id;have RR:=R.ext0 hx5;have RO5:=RO.ext' H5.ext hROn
    have hwe:∀ d∈os,-1000000000≤d.we∧d.we≤1000000000:=fun d hd=>by
     rw [hbb] at h1;have hB:=(HK).1 h1;rw [hos] at hd;have:=(Dc (hB.due d (Wy hd).1).1).2.2.2.2.1;omega
    obtain ⟨ws,rfl⟩:∃ z,z=w:=⟨_,rfl⟩;have H:=Ctx.lend (L1:=[_]) (L2:=_) H5;dsimp only [List.map] at H;obtain ⟨es,hes⟩:∃ es,es=BJ rs os net:=⟨_,rfl⟩
    have hnR:rs≠[]→(adr a).block∉[b6]:=fun hne=>by
     have:=R.lt' (fun _ _=>rfl) (by decide) hne;rw [List.mem_singleton]; omega
    have heL:es.length≤3000000:=by rw [hes,Ha]; split <;> omega
    refine NC (gf:=240) U Aie (Vn (b1:=x1) (b2:=x2) (b3:=x3) (a:=a) (b:=a4) (c:=c) (e:=c4) (rs:=rs) (ds:=os) (net:=net) U U hn2 hwe) (by kernel_rfl) (by kernel_rfl) (fun v hv=>by obtain ⟨p,-,rfl⟩:=List.mem_map.1 hv; rfl)
     (rndJ ws b6 ((rs.length:Int)+1) es) (fun _=>False) (by simp)
     (fun w2 hx2 _=>⟨_,none,0,[],rfl,H.call hx2,OS.nil,by simp [ent]; omega⟩)
     (fun i M w' w'' hJ hx=>?_) (fun _ _ h _=>h) (fun i M w' hJ=>?_) ?_ ?_ (fun _ h _=>h.elim)
    ·obtain ⟨a7,c7,f7,hM,HJ,O7,hne⟩:=hJ;refine ⟨a7,c7,f7,hM,HJ.step hx (fun y hy hy2=>?_) (fun x hx => .inr ?_),O7,hne⟩
     ·have:=hne _ (List.mem_map_of_mem (f:=(·.1)) hy);simp only [List.mem_cons,List.not_mem_nil,or_false] at hy2;omega
     ·simp only [List.mem_cons,List.not_mem_nil,or_false] at hx;omega
    ·obtain ⟨a7,c7,f7,hM,HJ,O7,hne⟩:=hJ;refine ⟨fun x hx=>?_,HJ.ext.to hk1 (by rw [List.mem_singleton]; omega),HJ.ext.to hk2 (by rw [List.mem_singleton]; omega),HJ.ext.to hk3 (by rw [List.mem_singleton]; omega),RR.ext' HJ.ext hnR,RO5.ext' HJ.ext hROn⟩;rw [hM] at hx;obtain ⟨y,hy,rfl⟩:=List.mem_map.1 hx;exact ⟨Ba (HJ.blk y hy),hne _ hx⟩
    ·rintro i v M w hxv ⟨a7,c7,f7,rfl,HJ,O7,hne⟩ hsz;rw [List.getElem?_map] at hxv;obtain ⟨ed,hed,rfl⟩:=Option.map_eq_some_iff.1 hxv;rw [← hes] at hed;have hil:=Ck hed;obtain ⟨w1,rfl⟩:∃ z,z=w:=⟨_,rfl⟩;have H:=Ctx.start w1 [];refine Az (AX Ht H ?_);rintro b11 w - H;refine Bm Dp U U U (by exact Hy _) H at0 U ?_;rintro w H;refine Ab ?_;refine ⟨H.ext,fun wB hxB=>?_⟩;have hb11:=(H.own _ (List.mem_cons_self ..)).elim (fun h=>by cases h) id;dsimp only at hb11;have hs1:=H.size;have hsB:=hxB.size
     have HB:=(HJ.callAdd H.ext (H.get at0) hb11).step hxB (fun y hy=>by
      rw [List.mem_singleton]
      rcases List.mem_cons.1 hy with rfl | hy
      ·dsimp only; omega
      ·exact (hne _ (List.mem_map_of_mem (f:=(·.1)) hy)).2) (fun z hz => .inr (by rw [List.mem_singleton.1 hz]; omega))
     obtain ⟨w2,rfl⟩:∃ z,z=wB:=⟨_,rfl⟩;rw [← List.append_nil (_::_::ent a7 59 f7)] at HB;have H:=Ctx.lend (L1:=_::_::ent a7 59 f7) (L2:=[]) HB;obtain ⟨SS,hSS⟩:∃ SS,SS=((b11,Bl 59 (CI ed))::(b6,Bl 51 [.int .i64 ((rs.length:Int)+1),.slice a7 i c7])::ent a7 59 f7).map (·.1):=⟨_,rfl⟩;rw [← hSS] at H;refine A0 (Az (Ag Dv U (AM Fs U H at1 U (Cl JS Dp U H at0 U (Ct _ (.agg _) Ds Dp Ht U (by decide) (by decide) U U U H ?_)))));rintro b43 w - H;refine CA (L:=[_,_]) Ds Ds Dp YE Ht U (by decide) U U H O7 U (Hy ed) ?_;rintro a' c' full' w H O;refine Ag Dv U (Cp (.slice _ _ _) Af3 U U U H at1 (by (simp; done)) ?_);rintro w H;refine Ab (A5 ?_);rw [hSS] at H;have HE:=H.ext;have HH:=Ctx.back HB H;rw [List.append_nil] at HH;refine ⟨_,⟨a',c',full',rfl,HH.tail,by rw [List.take_add_one,hed,List.flatMap_append]; exact O,fun y hy=>?_⟩,fun y hy=>?_,_,HE,fun y hy=>?_⟩
     ·obtain ⟨z,hz,rfl⟩:=List.mem_map.1 hy
      rcases H.own z (List.mem_cons_of_mem _ hz) with h | h
      ·rcases List.mem_cons.1 h with h | h
       ·dsimp only at h; omega
       ·exact hne _ h
      ·have:=hxB.size; have:=H.ext.size; omega
     ·obtain ⟨z,hz,rfl⟩:=List.mem_map.1 hy
      rcases H.own z (List.mem_cons_of_mem _ hz) with h | h
      ·rcases List.mem_cons.1 h with h | h
       ·exact .inr (by dsimp only at h; omega)
       ·exact .inl h
      ·exact .inr (by have:=hxB.size; omega)
     ·rcases List.mem_cons.1 hy with h | h
      ·exact .inr (by dsimp only at h; omega)
      ·exact .inl h
    ·rintro M w ⟨a7,c7,f7,rfl,HJ,O7,hne⟩ hD;rw [List.length_map,← hes] at HJ O7 hne;rw [List.take_length] at O7;have H:=HJ;obtain ⟨w1,rfl⟩:∃ z,z=w:=⟨_,rfl⟩;rw [← List.append_nil (_::ent a7 59 f7)] at HJ;have H:=Ctx.lend (L1:=_::ent a7 59 f7) (L2:=[]) HJ;obtain ⟨SS,hSS⟩:∃ SS,SS=((b6,Bl 51 [.int .i64 ((rs.length:Int)+1),.slice a7 es.length c7])::ent a7 59 f7).map (·.1):=⟨_,rfl⟩;rw [← hSS] at H hne;have hDn:ws.heap.size∉SS:=fun h=>(hne _ h).1 rfl;refine A5 (Aa (Af (Cl Df CL U H at0 U (A3 U (Bm CL U U U (by simp [AO]) H at0 U ?_)))));rintro w H;refine A1 U (Ad U (Ab (Aa (A4 (TL U U U U ?_)))));refine Hf (H.ext.to hD hDn) U fun wF hxF=>?_;rw [hSS] at H;have HH:=Ctx.back HJ H;rw [List.append_nil] at HH;rw [hSS] at hne;have HF:=HH.step hxF (fun y hy h=>(hne _ (List.mem_map_of_mem (f:=(·.1)) hy)).1 (List.mem_singleton.1 h)) (fun z hz => .inr (by rw [List.mem_singleton.1 hz]; omega))
     have hown:∀ y∈((b6,Bl 51 [.int .i64 ((rs.length:Int)+1),.slice a7 es.length c7])::ent a7 59 f7),w0.heap.size≤y.1:=fun y hy=>by
      rcases HF.own y hy with h | h
      ·rw [List.mem_singleton.1 h]; exact hb60
      ·have:=hx5.size; omega
     have hxx:=hx5.then HF.ext fun x hx => .inr (by rw [List.mem_singleton.1 hx]; exact hb60);refine ⟨_,Fi Df CL U (fun j v hv=>by rw [Aj (HF.get at0),Nat.zero_add]; exact hv),hxx,.inr ⟨by rw [← hbb]; exact h1,a7,es.length,c7,.slice a2 os.length c2,rfl,?_,?_⟩⟩
     ·rw [← hos,← hes];refine ⟨a7,c7,rfl,O7.le,OS.rd O7 (fun x hx=>HF.blk x (List.mem_cons_of_mem _ hx)) (fun _ _=>rfl) (by decide),fun hne'=>?_⟩;obtain ⟨q,rfl⟩:=O7.form (List.length_pos_iff.2 hne');exact hown (q,Bl 59 f7) (List.mem_cons_of_mem _ (List.mem_singleton.2 U))
     ·rw [← hos];have hd4:os.map Du.id≠[]→w4.heap.size≤(adr a2).block:=hRIn;refine ⟨a2,c2,by rw [List.length_map],by rw [List.length_map]; exact O.le,RI0.ext' HF.ext (fun hne'=>?_),fun hne'=>?_⟩
      ·have:=hRIn hne';rw [List.mem_singleton]; omega
      ·have:=hRIn hne';omega
end Go.Proofs.YtdagmpmdcgedcaaGreat
namespace Go.Proofs.YtdagmpmdcgedcaaGreat
open Go.GV
attribute [local irreducible] AB W Wq Wt
end Go.Proofs.YtdagmpmdcgedcaaGreat
namespace Go.Proofs.YtdagmpmdcgedcaaGreat
open Go.GV
attribute [local irreducible] AB W Wq Wt
def ovI (g:Gr) (x:Nat→Int) (v i q:Nat):Int:=if q<v then BC g x q else if q=v then DS g x i v else 0
end Go.Proofs.YtdagmpmdcgedcaaGreat
namespace Go.Proofs.YtdagmpmdcgedcaaGreat
open Go.GV
attribute [local irreducible] AB W Wq Wt
end Go.Proofs.YtdagmpmdcgedcaaGreat
namespace Go.Proofs.YtdagmpmdcgedcaaGreat
open Go.GV
attribute [local irreducible] AB W Wq Wt
structure LS2 where
 i:Nat
 a:Option Addr
 c:Nat
 f:List Value
 a2:Option Addr
 c2:Nat
 f2:List Value
end Go.Proofs.YtdagmpmdcgedcaaGreat
namespace Go.Proofs.YtdagmpmdcgedcaaGreat
open Go.GV
attribute [local irreducible] AB W Wq Wt
theorem perm5 {α:Type} {a b c d e:α} {r:List α}:(a::b::c::d::e::r).Perm (d::a::e::b::c::r) :=
 (List.perm_middle (l₁:=[a,b,c]) (l₂:=e::r)).trans (((List.perm_middle (l₁:=[b,c]) (l₂:=r)).cons _).cons _)
theorem TM (f:Nat→Int) (n:Nat):∃ f1:Nat→Int,BS f n=BS f1 n∧flE (tab f1 n)=f1∧ES (tab f1 n)=f1∧∀ i,i<n→f1 i=f i:=by
 refine ⟨fun i=>if i<n then f i else 0,List.map_congr_left fun i hi=>by dsimp only; rw [if_pos (List.mem_range.1 hi)],?_,?_,fun i hi=>if_pos hi⟩
 all_goals
  funext i
  first | unfold flE | unfold ES
  rcases Nat.lt_or_ge i n with h | h
  ·rw [Bo (BT h)]
  ·rw [List.getD_eq_getElem?_getD,List.getElem?_eq_none (by rw [CV]; exact h)];exact (if_neg (by omega)).symm
theorem Aa2 {g:Gr} {cap x y p:Nat→Int} (h:Fine g cap x p) (hy:∀ i,i<g.E→y i=x i):Fine g cap y p:=by
 refine ⟨fun i hi=>by rw [hy i hi]; exact h.in' i hi,fun a ha hr=>h.fit a ha ?_⟩;unfold CC at hr ⊢;rw [hy _ (by omega)] at hr;exact hr
theorem Aj4 {w:World} {bs bf bp bo:Nat} {N n:Nat} {ae:Option Addr} {ce:Nat} {kk:Int} {es:List Ed} {x p ov:Nat→Int} {full:List Value} {g:Gr} {cap:Nat→Int} (hn:es.length=n) (hg:grE (N:Int) es=g) (hcap:∀ i,i<n→Cr es i=cap i) (H0:Ctx w ((SL bs bf bp bo N ae n ce kk x p ov full).map (·.1)) w (SL bs bf bp bo N ae n ce kk x p ov full)) (O:OS ae n ce 4 full (es.flatMap CI))
  (hr:Cw (N:Int) es=true) (hF:Fine g cap x p) (hov:∀ v,v<N→ov v=BC g x v) (hpb:∀ v,v<N → -1073741824≤p v∧p v≤1073741824) :
  Ret Tryz.prog 212 #[ptr bs] w fun v w'=>∃ (b:Bool) (x' p' ov':Nat→Int) (kk':Int),v = .bool b∧Ctx w ((SL bs bf bp bo N ae n ce kk x p ov full).map (·.1)) w' (SL bs bf bp bo N ae n ce kk' x' p' ov' full)∧Fine g cap x' p'∧(∀ v,v<N→ov' v=BC g x' v)∧(∀ v,v<N → -1073741824≤p' v∧p' v≤1073741824) ∧
   (b=false→∀ v,v<N→BC g x' v≤0)∧(b=true→Hx g x'+1≤Hx g x):=by
 subst hn hg;obtain ⟨x1,hx1,hxn,-,hxe⟩:=TM x es.length;obtain ⟨p1,hp1,-,hpn,hpe⟩:=TM p N;have hgo:=Kg hr;have hsl:SL bs bf bp bo N ae es.length ce kk x p ov full=SL bs bf bp bo N ae es.length ce kk x1 p1 ov full:=by unfold SL; rw [hx1,hp1]
 have hF1:Fine (grE (N:Int) es) (Cr es) x1 p1:=Pf hgo (Aa2 (MH hF hcap) hxe) hpe;have hov1:∀ v,BC (grE (N:Int) es) x1 v=BC (grE (N:Int) es) x v:=fun v=>Lj hxe v;have hex:Hx (grE (N:Int) es) x1=Hx (grE (N:Int) es) x:=Cu fun v _=>by rw [hov1]
 rw [hsl] at H0 ⊢;refine Ret.mono (Aea H0 O hr hF1 (fun v hv=>by rw [hov1]; exact hov v hv) (fun v hv=>by rw [hpe v hv]; exact hpb v hv) hxn hpn) ?_;rintro v w' ⟨b,x',p',ov',kk',h1,h2,h3,h4,h5,h6,h7⟩;exact ⟨b,x',p',ov',kk',h1,h2,MH h3 fun i hi=>(hcap i hi).symm,h4,h5,h6,fun h=>by rw [← hex]; exact h7 h⟩
theorem Aa3 (g:Gr) (v:Nat):BC g (fun _=>0) v=0:=by
 have:BC g (fun _=>0) v=B7 (fun _=>0) g.E:=Cu fun i _=>by rw [Int.mul_zero]
 rw [this,G9]
structure PSt where
 j:Nat
 full:List Value
 x:Nat→Int
 p:Nat→Int
 ov:Nat→Int
 kk:Int
structure FSt where
 x:Nat→Int
 p:Nat→Int
 ov:Nat→Int
 kk:Int
set_option maxRecDepth 20000 in
set_option maxHeartbeats 8000000 in
theorem Aeq (N:Nat) (a:Option Addr) (c:Nat) (es:List Ed) (w:World) (R:Rd w a 4 CI es) (hr:Cw (N:Int) es=true) :
  Ret Tryz.prog 181 #[Ec (N:Int) a es.length c] w fun v w'=>∃ (bf bp:Nat) (x p:Nat→Int) (k:Int),v = .tuple #[Tt (some ⟨bf,0,none⟩) (some ⟨bp,0,none⟩) es.length es.length N N,.int .i64 k,.int .i64 0]∧Fine (grE (N:Int) es) (Cr es) x p∧(∀ v,v<N→BC (grE (N:Int) es) x v=0)∧(∀ v,v<N → -1073741824≤p v∧p v≤1073741824)∧Ctx w [] w' [(bf,Bl 2 (BS x es.length)),(bp,Bl 2 (BS p N))]:=by
 obtain ⟨w0,rfl⟩:∃ w0,w0=w:=⟨_,rfl⟩;have H:=Ctx.start w0 [];obtain ⟨hN1,hN40,hn200,hall,-⟩:=CD hr;have hI:I64 (N:Int):=by unfold I64; omega
 refine Aw (fn:=Tryz.f181) Tryz.func181 U [Ec (N:Int) a es.length c] U (by kernel_rfl) ?_;refine Af (Bv [.int .i64 (N:Int),.slice a es.length c] (.agg _) U U H ?_);rintro b1 w - H;refine AX VR H ?_;rintro b2 w - H;refine Ad U (Ad U (Ab (Aa (Rc (Aq (Af (Cl Df CL U H at1 U (Al R6 (LS (N:Int) a es.length c es _ (R.ext0 H.ext) U hI) U ?_))))))));rintro v w ⟨rfl,hx11⟩;replace H:=H.call hx11;refine BA U (Ab (Aa (Ap _ U ?_ ?_)))
 ·intro h1;replace h1:=BE h1;rw [hr] at h1;cases h1
 ·intro h1;replace h1:=BF h1;refine Au (Aa (DC 8589918240 (α:=Nat × Nat × Nat × Nat × Nat × Nat × List Value) (fun z=>[(5,ptr z.1)]) (fun z w'=>OS (some ⟨z.2.2.2.2.1,0,none⟩) es.length z.2.2.2.2.2.1 4 z.2.2.2.2.2.2 (es.flatMap CI)∧Ctx w0 [] w' [(z.2.1,Bl 2 (BS (fun _=>0) es.length)),(z.2.2.2.1,Bl 2 (BS (fun _=>0) N)),(z.2.2.2.2.1,Bl 59 z.2.2.2.2.2.2),(z.1,Bl 254 (SC N (some ⟨z.2.2.2.2.1,0,none⟩) es.length z.2.2.2.2.2.1 z.2.1 z.2.2.1 z.2.2.2.1 0)),(z.2.2.1,Bl 2 (BS (fun _=>0) N)),(b2,Bl 53 [.slice none 0 0,.slice none 0 0]),(b1,Bl 51 [.int .i64 (N:Int),.slice a es.length c])]) U ?_ ?_))
  ·skip
   have hb1:=H.get at1;refine Xc (n:=19) (anc:=GI) Bk.b (Af6 es.length es) (fun i=>14+i) (T8 b1 N es.length a c) (GJ N es.length) (show Tryz.prog.follows .mixedOrders=true by kernel_rfl) U (by kernel_rfl) ?_ (fun i j _ _ h=>by have h:14+i=14+j:=h; omega) (fun i k b B=>sStab b1 N es.length a c i k b B) ?_ ?_
   ·intro k hk;have:k=0∨k=1∨k=2∨k=3∨k=4∨k=5∨k=6∨k=7∨k=8∨k=9∨k=10∨k=11∨k=12∨k=13∨k=14∨k=15∨k=16∨k=17∨k=18:=by omega
    simp [GI];omega
   ·intro i o e' w' B hi ho hold hsl hx hbl hgd;have h4:e'.g 1=ptr b1:=(hold 1 fun j hj h=>by have h:1=14+j:=h; omega).trans rfl;have hc4:w'.heap[b1]? = some (Bl 51 [.int .i64 (N:Int),.slice a es.length c]):=hx.to (by exact hb1) (by simp);have hcs:i=0∨i=1∨i=2∨i=3∨i=4∨i=5∨i=6∨i=7∨i=8∨i=9∨i=10∨i=11∨i=12∨i=13∨i=14∨i=15∨i=16∨i=17∨i=18:=by omega
    have hpure:∀ {v:Value},GJ N es.length i=none→i≠5→T8 b1 N es.length a c i (JO B i default)=v→AQB Bk.b (Af6 es.length es) (fun i=>14+i) (T8 b1 N es.length a c) (GJ N es.length) i e' w' B (put e' (some (14+i)) v) w':=fun h1 h5 h2=>⟨default,fun h=>absurd h h5,fun ob h=>(by rw [h1] at h; cases h),.refl _ _,by rw [h2]⟩
    rcases hcs with rfl | rfl | rfl | rfl | rfl | rfl | rfl | rfl | rfl | rfl | rfl | rfl | rfl | rfl | rfl | rfl | rfl | rfl | rfl
    ·cases Option.some.inj ho;exact Ag (by kernel_rfl) h4 (Ab (hpure U (by decide) U))
    ·cases Option.some.inj ho;exact AZ Ca (hsl 0 (by simp [GI])) (by rw [Aj hc4]; rfl) (Ab (hpure U (by decide) U))
    ·cases Option.some.inj ho;refine Hd U Ds Dp (Ctx.start w' []) fun b w2 H O=>?_;have hbb:=H.blk (b,_) (List.mem_cons_self ..);exact Ab ⟨⟨b,0,[]⟩,(fun h=>by cases h),fun ob h=>(by obtain rfl:=Option.some.inj h; exact ⟨(H.own _ (List.mem_cons_self ..)).elim (fun h=>by cases h) id,hbb⟩),H.ext,rfl⟩
    ·cases Option.some.inj ho;exact Ag (by kernel_rfl) h4 (Ab (hpure U (by decide) U))
    ·cases Option.some.inj ho;exact AZ Fs (hsl 3 (by simp [GI])) (by rw [Aj hc4]; rfl) (Ab (hpure U (by decide) U))
    ·cases Option.some.inj ho;have h16:e'.g 16 = .slice (some ⟨(B 2).b,0,none⟩) 0 0:=hsl 2 (by simp [GI]);have h18:e'.g 18 = .slice a es.length c:=hsl 4 (by simp [GI])
     by_cases hn:es.length=0
     ·rw [hn] at h18;exact Ta U Ds Ds Dp h16 h18 (Ab ⟨default,fun _ => .inl hn,fun ob h=>(by simp [GJ,hn] at h),.refl _ _,by simp [T8,sQ,hn,JO]⟩)
     ·refine U7 U Ds Ds Dp YE Ht U (by decide) (es.flatMap CI) h16 h18 (EL fun _ _=>rfl) (Rd.app (R.ext0 ((H.ext.trans (Ext.drew [] _)).trans hx)) (fun _ _=>rfl) (by decide)) fun b c' full' w2 hb hx2 hbl2 O2=>?_;exact Ab ⟨⟨b,c',full'⟩,fun _ => .inr O2,fun ob h=>(by simp only [GJ,hn] at h; simp at h; subst h; exact ⟨by dsimp only; omega,by dsimp only; rw [IE]; exact hbl2⟩),hx2,by simp [T8,sQ,hn,JO]⟩
    ·cases Option.some.inj ho;refine B1 [.int .i64 (N:Int),.slice (some ⟨(sQ es.length B).b,0,none⟩) es.length (sQ es.length B).c] pl_51 Ni ?_ (Ab (hpure U (by decide) U));show Instr.fill _ _ [(0,e'.g 15),(1,e'.g 19)]=_;rw [show e'.g 15 = .int .i64 (N:Int) from hsl 1 (by simp [GI]),show e'.g 19 = .slice (some ⟨(sQ es.length B).b,0,none⟩) es.length (sQ es.length B).c from hsl 5 (by simp [GI])];rfl
    ·cases Option.some.inj ho;exact Ag (by kernel_rfl) h4 (Ab (hpure U (by decide) U))
    ·cases Option.some.inj ho;exact AZ Fs (hsl 7 (by simp [GI])) (by rw [Aj hc4]; rfl) (Ab (hpure U (by decide) U))
    ·cases Option.some.inj ho;exact Bi Ds (hsl 8 (by simp [GI])) (Ab (hpure U (by decide) U))
    ·cases Option.some.inj ho;refine GS Bg B6 Lg EK (hsl 9 (by simp [GI])) (hsl 9 (by simp [GI])) (Ctx.start w' []) fun b w2 hb H=>?_;have hbb:=H.get at0;rw [show ((es.length:Nat):Int).toNat=es.length from rfl,EO] at hbb;exact Ab ⟨⟨b,0,[]⟩,(fun h=>by cases h),fun ob h=>(by obtain rfl:=Option.some.inj h; exact ⟨by dsimp only; omega,hbb⟩),H.ext,rfl⟩
    ·cases Option.some.inj ho;exact Ag (by kernel_rfl) h4 (Ab (hpure U (by decide) U))
    ·cases Option.some.inj ho;exact AZ Ca (hsl 11 (by simp [GI])) (by rw [Aj hc4]; rfl) (Ab (hpure U (by decide) U))
    ·cases Option.some.inj ho;refine GS Bg B6 Lg EK (hsl 12 (by simp [GI])) (hsl 12 (by simp [GI])) (Ctx.start w' []) fun b w2 hb H=>?_;have hbb:=H.get at0;rw [show ((N:Nat):Int).toNat=N from rfl,EO] at hbb;exact Ab ⟨⟨b,0,[]⟩,(fun h=>by cases h),fun ob h=>(by obtain rfl:=Option.some.inj h; exact ⟨by dsimp only; omega,hbb⟩),H.ext,rfl⟩
    ·cases Option.some.inj ho;exact Ag (by kernel_rfl) h4 (Ab (hpure U (by decide) U))
    ·cases Option.some.inj ho;exact AZ Ca (hsl 14 (by simp [GI])) (by rw [Aj hc4]; rfl) (Ab (hpure U (by decide) U))
    ·cases Option.some.inj ho;refine GS Bg B6 Lg EK (hsl 15 (by simp [GI])) (hsl 15 (by simp [GI])) (Ctx.start w' []) fun b w2 hb H=>?_;have hbb:=H.get at0;rw [show ((N:Nat):Int).toNat=N from rfl,EO] at hbb;exact Ab ⟨⟨b,0,[]⟩,(fun h=>by cases h),fun ob h=>(by obtain rfl:=Option.some.inj h; exact ⟨by dsimp only; omega,hbb⟩),H.ext,rfl⟩
    ·cases Option.some.inj ho;refine B1 (sSC N es.length B) Ai7 Aje ?_ (Ab (hpure U (by decide) U));show Instr.fill _ _ [(0,e'.g 20),(1,e'.g 24),(2,e'.g 27),(3,e'.g 30)]=_;rw [show e'.g 20 = .agg #[.int .i64 (N:Int),.slice (some ⟨(sQ es.length B).b,0,none⟩) es.length (sQ es.length B).c] from hsl 6 (by simp [GI]),show e'.g 24 = .slice (some ⟨(B 10).b,0,none⟩) es.length es.length from hsl 10 (by simp [GI]),show e'.g 27 = .slice (some ⟨(B 13).b,0,none⟩) N N from hsl 13 (by simp [GI]),show e'.g 30 = .slice (some ⟨(B 16).b,0,none⟩) N N from hsl 16 (by simp [GI])];rfl
    ·cases Option.some.inj ho;refine Bv (sSC N es.length B) (.agg _) (hsl 17 (by simp [GI])) U (Ctx.start w' []) fun b w2 hb H=>?_;exact Ab ⟨⟨b,0,[]⟩,(fun h=>by cases h),fun ob h=>(by obtain rfl:=Option.some.inj h; exact ⟨by dsimp only; omega,H.get at0⟩),H.ext,rfl⟩
   ·intro o e' w' B ho A;have hl1:=Ba hb1;have hl2:=Ba (H.get at0);have h9:w.drew.heap.size=w.heap.size:=rfl
    obtain ⟨iq,hiq,hqb,hqh,hqo,O5⟩:∃ iq,(iq=2∨iq=5)∧(sQ es.length B).b=(B iq).b∧w'.heap[(B iq).b]? = some (Bl 59 (sQ es.length B).f)∧(GJ N es.length iq≠none)∧OS (some ⟨(sQ es.length B).b,0,none⟩) es.length (sQ es.length B).c 4 (sQ es.length B).f (es.flatMap CI):=by
     by_cases hn:es.length=0
     ·have he:es=[]:=List.eq_nil_of_length_eq_zero hn;have hsq:sQ es.length B=⟨(B 2).b,0,[]⟩:=if_pos hn;rw [hsq];refine ⟨2,.inl rfl,rfl,(A.blk 2 _ (by omega) trivial (show GJ N es.length 2=some _ from rfl)).1,by simp [GJ],?_⟩;subst he;exact ⟨(fun q hq=>by injection hq with hq; subst hq; rfl),(fun h=>by cases h),rfl,Nat.le_refl _,rfl⟩
     ·have hsq:sQ es.length B=B 5:=if_neg hn;have ho5:GJ N es.length 5=some fun B=>Bl 59 (B 5).f:=by simp [GJ,hn]
      rw [hsq];exact ⟨5,.inr rfl,rfl,(A.blk 5 _ (by omega) trivial ho5).1,by rw [ho5]; simp,(A.good 5 (by omega) trivial rfl).resolve_left hn⟩
    have hiq19:iq<19:=by omega
    have ob10:GJ N es.length 10≠none:=by simp [GJ]
    have ob13:GJ N es.length 13≠none:=by simp [GJ]
    have ob16:GJ N es.length 16≠none:=by simp [GJ]
    have ob18:GJ N es.length 18≠none:=by simp [GJ]
    have hne:=fun i j hi hj hij oi oj=>A.ne i j hi hj hij trivial trivial oi oj;have k10:=A.blk 10 _ (by omega) trivial (show GJ N es.length 10=some _ from rfl);have k13:=A.blk 13 _ (by omega) trivial (show GJ N es.length 13=some _ from rfl);have k16:=A.blk 16 _ (by omega) trivial (show GJ N es.length 16=some _ from rfl);have k18:=A.blk 18 _ (by omega) trivial (show GJ N es.length 18=some _ from rfl)
    have kq:w.heap.size≤(B iq).b:=by
     cases hoq:GJ N es.length iq with
     | none=>exact absurd hoq hqo
     | some ob=>exact (A.blk iq ob hiq19 trivial hoq).2
    have hs0:=H.size;have n10_16:=hne 10 16 (by omega) (by omega) (by omega) ob10 ob16;have n10_q:=hne 10 iq (by omega) hiq19 (by omega) ob10 hqo;have n10_18:=hne 10 18 (by omega) (by omega) (by omega) ob10 ob18;have n10_13:=hne 10 13 (by omega) (by omega) (by omega) ob10 ob13;have n16_q:=hne 16 iq (by omega) hiq19 (by omega) ob16 hqo;have n16_18:=hne 16 18 (by omega) (by omega) (by omega) ob16 ob18;have n16_13:=hne 16 13 (by omega) (by omega) (by omega) ob16 ob13;have nq_18:=hne iq 18 hiq19 (by omega) (by omega) hqo ob18;have nq_13:=hne iq 13 hiq19 (by omega) (by omega) hqo ob13;have n18_13:=hne 18 13 (by omega) (by omega) (by omega) ob18 ob13;have n12:=H.ne at0 at1 (by decide);have hb20:=(H.own _ (List.mem_cons_self ..)).elim (fun h=>by cases h) id;have hb10:=(H.own _ (List.mem_cons_of_mem _ (List.mem_cons_self ..))).elim (fun h=>by cases h) id
    have Hc:Ctx w0 [] w' [((B 10).b,Bl 2 (BS (fun _=>0) es.length)),((B 16).b,Bl 2 (BS (fun _=>0) N)),((B iq).b,Bl 59 (sQ es.length B).f),((B 18).b,Bl 254 (sSC N es.length B)),((B 13).b,Bl 2 (BS (fun _=>0) N)),(b2,Bl 53 [.slice none 0 0,.slice none 0 0]),(b1,Bl 51 [.int .i64 (N:Int),.slice a es.length c])]:=by
     refine ⟨(H.ext.trans (Ext.drew [] _)).trans A.ext,fun x hx=>?_,?_,fun x hx => .inr ?_⟩
     ·simp only [List.mem_cons,List.not_mem_nil,or_false] at hx
      rcases hx with rfl | rfl | rfl | rfl | rfl | rfl | rfl
      ·exact k10.1
      ·exact k16.1
      ·exact hqh
      ·exact k18.1
      ·exact k13.1
      ·exact A.ext.to (H.get at0) (by simp)
      ·exact A.ext.to hb1 (by simp)
     ·simp only [List.pairwise_cons,List.mem_cons,List.not_mem_nil,or_false,forall_eq_or_imp,forall_eq,List.Pairwise.nil,false_imp_iff,implies_true,and_true];refine ⟨⟨n10_16,n10_q,n10_18,n10_13,?_,?_⟩,⟨n16_q,n16_18,n16_13,?_,?_⟩,⟨nq_18,nq_13,?_,?_⟩,⟨n18_13,?_,?_⟩,⟨?_,?_⟩,n12⟩ <;> omega
     ·simp only [List.mem_cons,List.not_mem_nil,or_false] at hx
      rcases hx with rfl | rfl | rfl | rfl | rfl | rfl | rfl <;> (dsimp only; omega)
    cases Option.some.inj ho;refine CG U (ptr (B 18).b) (A.slot 18 (by omega) trivial) (Ab ⟨((B 18).b,(B 10).b,(B 13).b,(B 16).b,(sQ es.length B).b,(sQ es.length B).c,(sQ es.length B).f),A.ds,⟨rfl,trivial⟩,O5,?_⟩);dsimp only;rw [hqb];have hsc:sSC N es.length B=SC N (some ⟨(B iq).b,0,none⟩) es.length (sQ es.length B).c (B 10).b (B 13).b (B 16).b 0:=by unfold sSC; rw [hqb]
    rw [hsc] at Hc;exact Hc
  ·rintro ⟨bs,bf,bp,bo,q,ce,full⟩ j w ⟨O,H⟩; dsimp only at O H; dsimp only;obtain ⟨g,hg⟩:∃ g,g=grE (N:Int) es:=⟨_,rfl⟩;have hgE:g.E=es.length:=by rw [hg]; rfl
   have hgN:g.N=N:=by rw [hg]; rfl
   have hgo:g.Ok:=by rw [hg]; exact Kg hr
   have hcb:=NI hr;rw [← hg];refine Af (Ad U (Ab (Aa (Aq (Af (Ag Dv U (AM Fs U H at6 U (Bi Ds U (Ae U (Ab (Aa ?_)))))))))));refine A0 (Bt 72057525318451648 (α:=Nat × Nat × List Value) (fun t=>[(36,.int .i64 (t.1:Int)),(6,.int .i64 (t.2.1:Int))]) (fun t w'=>t.1≤es.length∧OS (some ⟨q,0,none⟩) es.length ce 4 t.2.2 ((esC es (Jx (Cr es) (fun _=>0) t.1)).flatMap CI)∧(∀ j,j<t.1→(Cr es j).toNat<2 ^ t.2.1)∧t.2.1≤64∧Ctx w0 [] w' [(bf,Bl 2 (BS (fun _=>0) es.length)),(bo,Bl 2 (BS (fun _=>0) N)),(q,Bl 59 t.2.2),(bs,Bl 254 (SC N (some ⟨q,0,none⟩) es.length ce bf bp bo 0)),(bp,Bl 2 (BS (fun _=>0) N)),(b2,Bl 53 [.slice none 0 0,.slice none 0 0]),(b1,Bl 51 [.int .i64 (N:Int),.slice a es.length c])]) (fun t=>es.length - t.1) (0,0,full) U ?_ ?_ ?_)
   ·exact ⟨rfl,rfl,trivial⟩
   ·refine ⟨Nat.zero_le _,?_,fun j h=>absurd h (Nat.not_lt_zero _),by dsimp only; omega,H⟩;rw [K8 (d:=Cr es) fun i _=>by unfold Jx; rw [if_neg (Nat.not_lt_zero _)],Ph];exact O
   ·rintro ⟨i,m,full⟩ j w ⟨hi,O,hm,hm6,H⟩; dsimp only at hi O hm hm6 H; dsimp only;refine Af (Bj U U (Ab (Aa (Aq (Ap _ U ?_ ?_)))))
    ·intro h2;replace h2:=AJ h2;have hil:i<es.length:=by omega
     obtain ⟨e,he⟩:=A8 (h:=hil);have hee:=EC (hall e (List.mem_of_getElem? he));obtain ⟨cc,hcc⟩:∃ cc:Nat,e.cap=cc:=⟨e.cap.toNat,by omega⟩;have henc:CI e=[.int .i64 e.f,.int .i64 e.t,.int .i64 (cc:Int),.int .i64 e.cost]:=by unfold CI; rw [hcc]
     have hOl:=O.len;have hOe:=O.le;refine Au (Aa (Aq (A0 (Af (Ae U (AS R Ds Dp U U (by rfl) ?_))))));refine Cj _ JS Dp U U (Rd.rowE (R.ext0 H.ext) he henc U) ?_;refine AX Ht H ?_;rintro b8 w - H;refine Ad U (Bm Dp U U U (by simp [AO]) H at0 U ?_);rintro w H;refine Ab (Aa (Af (Ay U (A9 U (Ag G7 U (Ag Dv U (AM Fs U H at4 U (Ae U (Bn Ds Dp U U ?_)))))))));refine Ag EU U (Cp (.int _ _) B6 U U U H at3 (by omega) ?_);rintro w H;refine Ab (Aa (Az (Ae U (Ag EU U (AM Bw U H at0 U (DM U Xh EV ?_))))));refine Al YS (T7 cc (by omega) _) U ?_;rintro v w ⟨r,rfl,hr1,hr2,-,rfl⟩;refine Ji U U ?_;refine Ad U (Ab (A5 (Aa (Az (Ax U U ?_)))));refine Ae U (Ab (Aa ?_));rw [show 0+((i:Int)).toNat*4+2=i*4+2 by omega] at H
     have O1:=OS.setf O (y:=edC es (Jx (Cr es) (fun _=>0) (i+1)) i) (j:=2) (v := .int .i64 0) (fun _=>rfl) (Jw (c:=Jx (Cr es) (fun _=>0) i) hil) (by decide) (by unfold edC CI Jx; dsimp only; rw [if_pos (by omega)]; rfl);rw [Wg rfl (fun j _ hj=>Wj hj)] at O1;have hce:Cr es i=(cc:Int):=by unfold Cr; rw [Bo he,hcc]
     refine ⟨(i+1,max m r,full.set (i*4+2) (.int .i64 0)),rfl,⟨rfl,congrArg (Value.int .i64) (by dsimp only; omega),trivial⟩,⟨by dsimp only; omega,O1,fun j hj=>?_,by dsimp only; omega,H.tail⟩,by dsimp only; omega⟩;dsimp only at hj ⊢
     by_cases ej:j=i
     ·subst ej;rw [hce];exact Nat.lt_of_lt_of_le (by omega) (Nat.pow_le_pow_right (by decide) (Nat.le_max_right m r))
     ·exact Nat.lt_of_lt_of_le (hm j (by omega)) (Nat.pow_le_pow_right (by decide) (Nat.le_max_left m r))
    ·intro h2;replace h2:=AK h2;obtain rfl:i=es.length:=by omega
     rw [K8 (d:=Gf es m) fun i hi=>by unfold Jx Gf; rw [if_pos hi,Nat.div_eq_of_lt (hm i hi)]; rfl] at O;refine Bq (Am (Am (AG (Aa (Af (Ae U (Ad U (Ab (Aa (Aq (Rb (Aa (Aq (A0 (Bt 147429837401600557568 (α:=PSt) (fun t=>[(9,.int .i64 (t.j:Int))]) (fun t w'=>t.j≤64∧OS (some ⟨q,0,none⟩) es.length ce 4 t.full ((esC es (Gf es t.j)).flatMap CI)∧Fine g (Gf es t.j) t.x t.p∧(∀ v,v<N→BC g t.x v=0)∧(∀ v,v<N→t.ov v=0)∧(∀ v,v<N → -1073741824≤t.p v∧t.p v≤1073741824)∧Ctx w0 [] w' [(bf,Bl 2 (BS (t.x) es.length)),(bo,Bl 2 (BS (t.ov) N)),(q,Bl 59 t.full),(bs,Bl 254 (SC N (some ⟨q,0,none⟩) es.length ce bf bp bo t.kk)),(bp,Bl 2 (BS (t.p) N)),(b2,Bl 53 [.slice none 0 0,.slice none 0 0]),(b1,Bl 51 [.int .i64 (N:Int),.slice a es.length c])]) (fun t=>t.j) ⟨m,full,fun _=>0,fun _=>0,fun _=>0,0⟩ U ?_ ?_ ?_)))))))))))))))
     ·exact ⟨rfl,trivial⟩
     ·refine ⟨hm6,O,⟨fun i hi=>⟨Int.le_refl _,(NH hr m i (by omega)).1⟩,fun a ha hra=>?_⟩,fun v _=>Aa3 g v,fun _ _=>rfl,fun _ _=>⟨by dsimp only; omega,by dsimp only; omega⟩,H⟩;exfalso;unfold CC at hra;have hai:a / 2<es.length:=by omega
      have hk0:Gf es m (a / 2)=0:=by unfold Gf; rw [Nat.div_eq_of_lt (hm _ hai)]; rfl
      dsimp only at hra;rw [hk0] at hra
      split at hra <;> omega
     ·rintro ⟨j,full,x,p,ov,kk⟩ jj w ⟨hj6,O,hF,hx0,hov,hpb,H⟩; dsimp only at hj6 O hF hx0 hov hpb H; dsimp only
      rcases j with _ | j
      ·skip
       refine A0 (Aq (Af (Ae U (Br U U ?_))));refine Ad U (Ab (Aa (Af (Ae U (Bj U U (Ab (Aa (Ap _ U ?_ ?_))))))))
       ·intro h3;replace h3:=AJ h3;refine Bq (Am (Fh U (Am (AG (Aa (Cq [([0,1,2,3,4,5,6,7,8,9,10,11,12],13),([14],15)] (fun z=>z.heap[bs]? = some (Bl 254 (SC N (some ⟨q,0,none⟩) es.length ce bf bp bo kk))) [] Bs (by kernel_rfl) (H.drew.get at3) ?_))))));refine AF U U ?_;refine BD U (Bd U (An U EI U (B0 Cg U (fun _ hx=>(by rw [Aj hx]; rfl)) ?_)));refine BD U (Bd U (An U EJ U (B0 Cg U (fun _ hx=>(by rw [Aj hx]; rfl)) ?_)));refine Ol [.slice (some ⟨bf,0,none⟩) es.length es.length,.slice (some ⟨bp,0,none⟩) N N] U Afz VR U ?_;refine BD U (Bd U (An U OD U (B0 Ca U (fun _ hx=>(by rw [Aj hx]; rfl)) ?_)));refine AP ?_;replace H:=H.drew;refine Bm Ng U U U (by simp [AO]) H at5 U ?_;rintro w H;refine Ab (BR (H.get at3) (AF U U ?_))
        refine Kw U U (AP (Ad U (Ab (BR (H.get at3) (BH (A4 (WO (Ac7 U U U Tk Ng H at5 U (show _=(.int _ _) from rfl) (show _=(.int _ _) from rfl) ?_))))))));refine ⟨bf,bp,x,p,kk,rfl,MH hF fun i hi=>(Xw hr i (by omega)).symm,hx0,hpb,H.sub (fun y hy=>?_) ?_⟩
        ·simp only [List.mem_cons,List.not_mem_nil,or_false] at hy
         rcases hy with rfl | rfl
         ·exact List.mem_of_getElem? (i:=0) U
         ·exact List.mem_of_getElem? (i:=4) U
        ·simp only [List.pairwise_cons,List.mem_singleton,forall_eq,List.not_mem_nil,false_imp_iff,implies_true,List.Pairwise.nil,and_true];exact H.ne at0 at4 (by decide)
       ·intro h3;replace h3:=AK h3;omega
      ·skip
       refine A0 (Aq (Af (Ae U (Br U U ?_))));rw [show ((j+1:Nat):Int) - 1=(j:Int) by omega];refine Ad U (Ab (Aa (Af (Ae U (Bj U U (Ab (Aa (Ap _ U ?_ ?_))))))))
       ·intro h3;replace h3:=AJ h3;omega
       ·intro h3;replace h3:=AK h3;have hF1:=OW hF (cap':=Gf es j) fun i _=>Qz es j i;obtain ⟨x1,hx1⟩:∃ x1,x1=Kb g (Gf es j) x p:=⟨_,rfl⟩;refine Au (Aa (Af (Ay U (Cl Df CL U H at6 U (Ae U (Al Ahs (ZW (bf:=bf) (bo:=bo) (ae:=some ⟨q,0,none⟩) (Ctx.lend (L1:=[_,_,_]) (L2:=[_,_,_,_]) H) O (H.get at3) (G0 (L:=[_,_,_]) H.nd (x:=(bs,_)) (List.mem_of_getElem? (i:=0) U)) (H.get at4) (G0 (L:=[_,_,_]) H.nd (x:=(bp,_)) (List.mem_of_getElem? (i:=1) U)) (R.ext0 H.ext) (fun hne hm=>by have h7:=Rd.lt R hne (fun x _=>⟨_,rfl⟩) (by decide); have h8:=(Ctx.left (L:=[_,_,_]) (L':=[_,_,_,_]) H).own; obtain ⟨y,hy,he⟩:=List.mem_map.1 hm; rcases h8 y hy with h | h; cases h; omega) hr (fun i _=>Qz es j i) (by rw [← hg]; exact hF) (by rw [← hg]; exact hx0) hov hpb) U ?_))))));rintro rv w ⟨rfl,full',O',H2⟩;rw [← hg] at H2;replace H:=Ctx.back (L1:=[_,_,_]) (L2:=[_,_,_,_]) H H2;refine Ab (Aa (A0 ?_))
        rw [← hx1] at hF1 H;refine Bt 110680464442257309696 (α:=FSt) (fun _=>[]) (fun t w'=>Fine g (Gf es j) t.x t.p∧(∀ v,v<N→t.ov v=BC g t.x v)∧(∀ v,v<N → -1073741824≤t.p v∧t.p v≤1073741824)∧Ctx w0 [] w' [(bf,Bl 2 (BS (t.x) es.length)),(bo,Bl 2 (BS (t.ov) N)),(q,Bl 59 full'),(bs,Bl 254 (SC N (some ⟨q,0,none⟩) es.length ce bf bp bo t.kk)),(bp,Bl 2 (BS (t.p) N)),(b2,Bl 53 [.slice none 0 0,.slice none 0 0]),(b1,Bl 51 [.int .i64 (N:Int),.slice a es.length c])]) (fun t=>(Hx g t.x).toNat) ⟨x1,p,BC g x1,kk⟩ U ?_ ?_ ?_
        ·exact trivial
        ·exact ⟨hF1,fun _ _=>rfl,hpb,H⟩
        ·rintro ⟨x,p,ov,kk⟩ jj2 w ⟨hF,hov,hpb,H⟩; dsimp only at hF hov hpb H; dsimp only;refine Aq (Af (Ay U ?_));have Hq:=H.perm perm5;refine Al Aht (Aj4 (bs:=bs) (bf:=bf) (bp:=bp) (bo:=bo) (N:=N) (n:=es.length) (ae:=some ⟨q,0,none⟩) (ce:=ce) (es:=esC es (Gf es j)) (g:=g) (cap:=Gf es j) (Jv es _) (by rw [grE_C,← hg]) (fun i hi=>Ajp hi) (Ctx.lend (L1:=[_,_,_,_,_]) (L2:=[_,_]) Hq) O' (Wh hr (NH hr j)) hF hov hpb) U ?_;rintro rv w ⟨b,x',p',ov',kk',rfl,H2,hF',hov',hpb',hb0,hb1⟩;replace H:=(Ctx.back (L1:=[_,_,_,_,_]) (L2:=[_,_]) Hq H2).perm perm5.symm;refine Ab (Aa (Ap _ U ?_ ?_))
         ·intro h4;refine Au (Aa (A0 (Au (A5 (Aa ?_)))));have h5:=hb1 h4;have h6:=Xl g x';exact ⟨⟨x',p',ov',kk'⟩,rfl,trivial,⟨hF',hov',hpb',H⟩,by dsimp only; omega⟩
         ·intro h4;refine Bq (Am (Am (AG (A5 (Aa ?_)))));have hz:∀ v,v<N→BC g x' v=0:=fun v hv=>Tq hgo (fun u hu=>hb0 h4 u (by omega)) v (by omega);exact ⟨⟨j,full',x',p',ov',kk'⟩,rfl,⟨rfl,trivial⟩,⟨by dsimp only; omega,O',hF',hz,fun v hv=>(hov' v hv).trans (hz v hv),hpb',H⟩,by dsimp only; omega⟩
end Go.Proofs.YtdagmpmdcgedcaaGreat
