/- Part 6 of the proof. -/
import Derived.Test.YtapphbmlkdhnmaaGreatPart2
import Derived.Test.YtapphbmlkdhnmaaGreatPart5
import Derived.Test.YtapphbmlkdhnmaaGreatPart4
import Derived.Test.YtapphbmlkdhnmaaGreatPart3
/- Shortest ways: a node is gone on from: the walks. -/
namespace Go.Proofs.YtapphbmlkdhnmaaGreat
open Go.GV
attribute [local irreducible] A2 W Wq Wt

abbrev FB (oo od oh ob n:Nat):List Value:=[.slice (some ⟨oo,0,none⟩) n n,.slice (some ⟨od,0,none⟩) n n,.slice (some ⟨oh,0,none⟩) n n,.slice (some ⟨ob,0,none⟩) n n]
def Np (s:Lb) (v:Nat):Int:=(s.h v:Nat)
def HO (g:Gr) (p:Nat→Int) (a:Nat):Ar:=(g.u a,g.v a,g.len p a)

set_option maxRecDepth 20000 in
theorem UL {w:World} {bf oo od oh ob n:Nat} {s:Lb} (hf:w.heap[bf]? = some (Bl 224 (FB oo od oh ob n))) (hd:w.heap[od]? = some (Bl 2 (B4 s.d n))) (hh:w.heap[oh]? = some (Bl 3 (B4 (Np s) n))) (v:Nat) (hv:v<n) (hn:n≤1000000) (d:Int) (h:Nat) :
  Ret Tryz.prog 216 #[ptr bf,.int .i64 (v:Int),.int .i64 d,.int .i64 (h:Int)] w fun r w'=>r = .bool (decide (D7 s v d h))∧w=w':=by
 obtain ⟨w0,rfl⟩:∃ w0,w0=w:=⟨_,rfl⟩
 have Rdd:=Ct hd
 have Rhh:=Ct hh
 have hhv:Np s v=(s.h v:Nat):=rfl
 obtain ⟨x,hx⟩:∃ x,x=s.d v:=⟨_,rfl⟩
 obtain ⟨y,hy⟩:∃ y,y=s.h v:=⟨_,rfl⟩
 have hgd:(tab s.d n)[v]? = some x:=by rw [BM hv,hx]
 have hgh:(tab (Np s) n)[v]? = some (y:Int):=by rw [BM hv,hhv,hy]
 have hiff:D7 s v d h↔(x = -1∨d<x∨(d=x∧h<y)):=by rw [hx,hy]; exact Iff.rfl
 rw [show decide (D7 s v d h)=decide (x = -1∨d<x∨(d=x∧h<y)) from decide_eq_decide.2 hiff]
 clear hiff
 refine A1 (fn:=Tryz.f216) Tryz.func216 rfl [.pointer (some ⟨bf,0,none⟩),.int .i64 (v:Int),.int .i64 d,.int .i64 (h:Int)] rfl (by kernel_rfl) ?_
 refine Ag (Ai rfl rfl (Ab (Aa (Ag (Bj rfl rfl (Bc rfl rfl (Ah rfl DF rfl (AX rfl BF rfl ((by rw [Ay hf]; rfl)) ?_))))))))
 refine Ad rfl rfl (Bb rfl AR B2 rfl rfl (by omega) (by omega) ?_)
 refine AX rfl Bw rfl ((Rdd.fld hgd rfl (j:=0) rfl)) ?_
 refine BX rfl rfl rfl (Ak rfl rfl (A8 17 rfl ?_ ?_))
 ·intro h1
  replace h1:=AF h1
  refine Ae rfl (Ae rfl (Ae rfl (Ae rfl (Ae rfl (Ae rfl (Ae rfl (Ae rfl (Ae rfl (Am rfl rfl (.bool _) rfl ?_)))))))))
  refine Ak rfl rfl (Ae rfl (Ae rfl (Ae rfl (Ae rfl (Ae rfl (Ae rfl (Ae rfl (Ae rfl (Ae rfl ?_)))))))))
  refine Ae rfl (Ae rfl (Ae rfl (Ae rfl (Ae rfl (Ae rfl (Ae rfl (Ae rfl (Ae rfl (Ae rfl ?_)))))))))
  refine Ae rfl (Am rfl rfl (.bool _) rfl (Ai rfl rfl (Ab (Aa (A9 (AB (v:=(.bool _)) rfl rfl rfl ?_))))))
  exact ⟨congrArg Value.bool (by clear hgd hgh hx hy; rw [Bool.eq_iff_iff]; simp_all; try omega),rfl⟩
 ·intro h2
  replace h2:=AG h2
  refine Ad rfl rfl (Bj rfl rfl (Bc rfl rfl (Ah rfl DF rfl (AX rfl BF rfl ((by rw [Ay hf]; rfl)) ?_))))
  refine Ad rfl rfl (Bb rfl AR B2 rfl rfl (by omega) (by omega) ?_)
  refine AX rfl Bw rfl ((Rdd.fld hgd rfl (j:=0) rfl)) ?_
  refine AN rfl rfl rfl (A3 rfl rfl (.bool _) rfl (Ak rfl rfl (A8 28 rfl ?_ ?_)))
  ·intro h3
   replace h3:=AF h3
   refine Ae rfl (Ae rfl (Ae rfl (Ae rfl (Ae rfl (Ae rfl (Ae rfl (Ae rfl (Ae rfl (Ae rfl ?_)))))))))
   refine Ae rfl (Ae rfl (Ae rfl (Ae rfl (Ae rfl (Ae rfl (Ae rfl (Ae rfl (Ae rfl (Ae rfl ?_)))))))))
   refine Am rfl rfl (.bool _) rfl (Ai rfl rfl (Ab (Aa (A9 (AB (v:=(.bool _)) rfl rfl rfl ?_)))))
   exact ⟨congrArg Value.bool (by clear hgd hgh hx hy; rw [Bool.eq_iff_iff]; simp_all; try omega),rfl⟩
  ·intro h4
   replace h4:=AG h4
   refine Ad rfl rfl (Bj rfl rfl (Bc rfl rfl (Ah rfl DF rfl (AX rfl BF rfl ((by rw [Ay hf]; rfl)) ?_))))
   refine Ad rfl rfl (Bb rfl AR B2 rfl rfl (by omega) (by omega) ?_)
   refine AX rfl Bw rfl ((Rdd.fld hgd rfl (j:=0) rfl)) ?_
   refine BX rfl rfl rfl (Ak rfl rfl (A8 38 rfl ?_ ?_))
   ·intro h5
    replace h5:=AF h5
    refine Ad rfl rfl (Bj rfl rfl (Bc rfl rfl (Ah rfl Gp rfl (AX rfl Fl rfl ((by rw [Ay hf]; rfl)) ?_))))
    refine Ad rfl rfl (Bb rfl DB EJ rfl rfl (by omega) (by omega) ?_)
    refine AX rfl BH rfl ((Rhh.fld hgh rfl (j:=0) rfl)) ?_
    refine AN rfl rfl rfl (Am rfl rfl (.bool _) rfl (A3 rfl rfl (.bool _) rfl (Ai rfl rfl (Ab (Aa (A9 (AB (v:=(.bool _)) rfl rfl rfl ?_)))))))
    exact ⟨congrArg Value.bool (by clear hgd hgh hx hy; rw [Bool.eq_iff_iff]; simp_all; try omega),rfl⟩
   ·intro h6
    replace h6:=AG h6
    refine Ae rfl (Ae rfl (Ae rfl (Ae rfl (Ae rfl (Ae rfl (Ae rfl (Ae rfl (Ae rfl (A3 rfl rfl (.bool _) rfl ?_)))))))))
    refine A3 rfl rfl (.bool _) rfl (Ai rfl rfl (Ab (Aa (A9 (AB (v:=(.bool _)) rfl rfl rfl ?_)))))
    exact ⟨congrArg Value.bool (by clear hgd hgh hx hy; rw [Bool.eq_iff_iff]; simp_all; try omega),rfl⟩

def HQ (x:Lb × List Tg) (a:Ar):Lb × List Tg:=(FJ x.1 a,GQ x.1 a x.2)
def goP (g:Gr) (p:Nat→Int) (s:Lb) (hp:List Tg) (l:List Nat):Lb × List Tg:=(l.map (HO g p)).foldl HQ (s,hp)
theorem Xd (g:Gr) (p:Nat→Int) (s:Lb) (hp:List Tg) {l:List Nat} {i a:Nat} (h:l[i]? = some a):goP g p s hp (l.take (i+1))=HQ (goP g p s hp (l.take i)) (HO g p a):=by
 unfold goP
 rw [C5 h,List.map_append,List.foldl_append]; rfl
/-- The blocks that going on turns. -/
abbrev GB (od oh n:Nat) (s:Lb) (bh:Nat) (a:Option Addr) (hn c:Nat) (full:List Value):List (Nat × Obj):=(od,Bl 2 (B4 s.d n))::(oh,Bl 3 (B4 (Np s) n))::HB bh a hn c full
structure GSt where
 i:Nat
 a:Option Addr
 hn:Nat
 c:Nat
 full:List Value
 L:List Tg

set_option maxRecDepth 20000 in
set_option maxHeartbeats 8000000 in
theorem Zj {w:World} {bf oo od oh ob n:Nat} {s:Lb} {g:Gr} {p:Nat→Int} {bh:Nat} {a:Option Addr} {hn c:Nat} {full:List Value} {L:List Tg} {La:List Nat} {au:Option Addr} {cu u:Nat} {outs:List Value} (H0:Ctx w ((GB od oh n s bh a hn c full).map (·.1)) w (GB od oh n s bh a hn c full)) (O:OS a hn c 2 full (L.flatMap Ew)) (hH:HeapL L)
  (hf:w.heap[bf]? = some (Bl 224 (FB oo od oh ob n))) (hfn:bf∉(GB od oh n s bh a hn c full).map (·.1)) (ho:w.heap[oo]? = some (Bl 230 outs)) (hon:oo∉(GB od oh n s bh a hn c full).map (·.1)) (hou:outs[u]? = some (.slice au La.length cu)) (hun:u<n)
  (R:Rd w au 4 (FM g p) La) (hRn:La≠[]→(adr au).block∉(GB od oh n s bh a hn c full).map (·.1)) (hn6:n≤1000000) (hLa:∀ x∈La,g.u x=u∧g.v x<n ∧ -1152921504606846976≤g.len p x∧g.len p x≤1152921504606846976) (hhn:hn+La.length≤100000000)
  (hbd:∀ k x,k≤La.length → -1≤(goP g p s L (La.take k)).1.d x∧(goP g p s L (La.take k)).1.d x≤1152921504606846976∧(goP g p s L (La.take k)).1.h x≤1000000) :
  Ret Tryz.prog 194 #[ptr bf,ptr bh,.int .i64 (u:Int)] w fun v w'=>v = .tuple #[]∧∃ (a':Option Addr) (hn' c':Nat) (full':List Value) (L':List Tg),L'.Perm (goP g p s L La).2∧HeapL L'∧OS a' hn' c' 2 full' (L'.flatMap Ew)∧Ctx w ((GB od oh n s bh a hn c full).map (·.1)) w' (GB od oh n (goP g p s L La).1 bh a' hn' c' full'):=by
 obtain ⟨w0,rfl⟩:∃ w0,w0=w:=⟨_,rfl⟩
 obtain ⟨ids,hids⟩:∃ ids,ids=(GB od oh n s bh a hn c full).map (·.1):=⟨_,rfl⟩
 rw [← hids] at H0 hfn hon hRn ⊢
 have H:=H0
 refine A1 (fn:=Tryz.f194) Tryz.func194 rfl [.pointer (some ⟨bf,0,none⟩),.pointer (some ⟨bh,0,none⟩),.int .i64 (u:Int)] rfl (by kernel_rfl) ?_
 refine Ag (Bj rfl rfl (Bc rfl rfl (Ah rfl Ka rfl (AX rfl OU rfl ((by rw [Ay hf]; rfl)) ?_))))
 refine Ad rfl rfl (Bb rfl K8 K9 rfl rfl (by omega) (by omega) ?_)
 refine AX rfl Sc rfl ((by rw [Ay ho]; simpa using hou)) ?_
 refine AU rfl JA rfl (Ad rfl rfl (Ab (Aa (Au (Bi 9444732965739290296704 (α:=GSt) (fun t=>[(17,.int .i64 (t.i:Int))]) (fun t w'=>t.i≤La.length∧t.L.Perm (goP g p s L (La.take t.i)).2∧HeapL t.L∧t.hn≤hn+t.i∧OS t.a t.hn t.c 2 t.full (t.L.flatMap Ew)∧Ctx w0 ids w' (GB od oh n (goP g p s L (La.take t.i)).1 bh t.a t.hn t.c t.full)) (fun t=>La.length - t.i) ⟨0,a,hn,c,full,L⟩ rfl ?_ ?_ ?_)))))
 ·exact ⟨rfl,trivial⟩
 ·exact ⟨Nat.zero_le _,.refl _,hH,Nat.le_refl _,O,H⟩
 ·rintro ⟨i,a,hk,c,full,L'⟩ j w ⟨hi,hp,hH,hkn,O,H⟩; dsimp only at hi hp hH hkn O H; dsimp only
  obtain ⟨si,hsi⟩:∃ si,si=(goP g p s L (La.take i)).1:=⟨_,rfl⟩
  obtain ⟨hi2,hhi2⟩:∃ q,q=(goP g p s L (La.take i)).2:=⟨_,rfl⟩
  have hgi:goP g p s L (La.take i)=(si,hi2):=by rw [hsi,hhi2]
  rw [← hsi] at H
  rw [← hhi2] at hp
  refine Ag (AN rfl rfl rfl (Ab (Aa (Aq (Ax _ rfl ?_ ?_)))))
  ·intro h1
   replace h1:=AF h1
   obtain ⟨x,hxa⟩:=AC (l:=La) (i:=i) (by omega)
   obtain ⟨hxu,hxv,hl1,hl2⟩:=hLa x (List.mem_of_getElem? hxa)
   have hsn:=Xd g p s L hxa
   rw [hgi] at hsn
   have hbu:=hbd i u hi
   have hbv:=hbd i (g.v x) hi
   rw [hgi] at hbu hbv
   dsimp only at hbu hbv
   obtain ⟨v,hv⟩:∃ v,v=g.v x:=⟨_,rfl⟩
   obtain ⟨ln,hln⟩:∃ ln,ln=g.len p x:=⟨_,rfl⟩
   have hrow:FM g p x=[.int .i64 (x:Int),.int .i64 (u:Int),.int .i64 (v:Int),.int .i64 ln]:=by unfold FM; rw [hxu,hv,hln]
   rw [← hv] at hxv hbv
   rw [← hln] at hl1 hl2
   have hne:La≠[]:=fun h=>by rw [h] at hxa; cases hxa
   refine Av (Aa (Aq (Au (Ag (AZ R rfl JA Gq rfl rfl (by omega) (by omega) (by rfl) ?_)))))
   refine Cr _ rfl Sb Gq rfl rfl (Rd.rowE (R.ext H.ext (hRn hne)) hxa hrow rfl) ?_
   refine Bm rfl I0 H ?_
   rintro b7 w - H
   refine BD rfl Gq rfl rfl rfl (by simp [Bz]) H at0 rfl ?_
   rintro w H
   refine Ab (Aa ?_)
   have K0:∀ {z},Ext ids w0 z→z.heap[bf]? = some (Bl 224 (FB oo od oh ob n)):=fun hz=>hz.to hf hfn
   obtain ⟨du,hdu⟩:∃ du,du=si.d u:=⟨_,rfl⟩
   obtain ⟨hu,hhu⟩:∃ hu,hu=si.h u:=⟨_,rfl⟩
   have hgd:(tab si.d n)[u]? = some du:=by rw [BM hun,hdu]
   have hgh:(tab (Np si) n)[u]? = some (hu:Int):=by rw [BM hun,hhu]; rfl
   have har:HO g p x=(u,v,ln):=by unfold HO; rw [hxu,← hv,← hln]
   rw [← hdu,← hhu] at hbu
   have RD:=Ct (H.drew.get at1)
   refine DS (fun x=>x=_) B3 (by kernel_rfl) rfl ?_
   refine Cb rfl rfl (Bg rfl rfl (A6 rfl DF rfl (Cc rfl BF rfl (by rintro _ rfl; exact ((by rw [Ay (K0 H.drew.ext)]; rfl))) ?_)))
   refine AM rfl rfl (AL rfl AR B2 rfl rfl (by omega) (by omega) ?_)
   refine Cc rfl Bw rfl (by rintro _ rfl; exact ((RD.fld hgd rfl (j:=0) rfl))) ?_
   refine A6 rfl Mw rfl (BZ rfl Bw rfl (by rintro _ rfl; exact H.drew) at0 rfl ?_)
   refine CE rfl rfl rfl (by omega) (by omega) ?_
   refine Co rfl rfl (BQ ?_)
   rintro _ rfl
   replace H:=H.drew
   have RH:=Ct (H.drew.get at2)
   refine Ek 12 B3 (by kernel_rfl) rfl rfl ?_
   refine Cb rfl rfl (A6 rfl EI rfl (BZ rfl BH rfl (by rintro _ rfl; exact H.drew) at0 rfl ?_))
   refine AM rfl rfl (Cb rfl rfl (Bg rfl rfl (A6 rfl Gp rfl (Cc rfl Fl rfl (by rintro _ rfl; exact ((by rw [Ay (K0 H.drew.ext)]; rfl))) ?_))))
   refine AM rfl rfl (AL rfl DB EJ rfl rfl (by omega) (by omega) ?_)
   refine Cc rfl BH rfl (by rintro _ rfl; exact ((RH.fld hgh rfl (j:=0) rfl))) ?_
   refine CE rfl rfl rfl (by omega) (by omega) ?_
   rw [show (hu:Int)+1=((hu+1:Nat):Int) by omega]
   refine BQ ?_
   replace H:=H.drew
   refine Ao rfl Acs (UL (K0 H.ext) (H.get at1) (H.get at2) v hxv hn6 (du+ln) (hu+1)) rfl ?_
   rintro rv w ⟨rfl,rfl⟩
   refine Ab (Aa (Ax _ rfl ?_ ?_))
   ·intro h2
    have h2':D7 si v (du+ln) (hu+1):=by simpa using h2
    have hS:FJ si (HO g p x)=Gx si v (du+ln) (hu+1):=by rw [har]; unfold FJ; dsimp only; rw [← hdu,← hhu,if_pos h2']
    have hHH:GQ si (HO g p x) hi2=(du+ln,v)::hi2:=by rw [har]; unfold GQ; dsimp only; rw [← hdu,← hhu,if_pos h2']
    refine CZ [([0,1,2,3,4,5,6,7,8,9,10,11,12,13,14,15,16,17,18,19,20,21],22),([23],24)] (fun z=>z.heap[bf]? = some (Bl 224 (FB oo od oh ob n))∧z.heap[b7]? = some (Bl 229 [.int .i64 (x:Int),.int .i64 (u:Int),.int .i64 (v:Int),.int .i64 ln])∧z.heap[oh]? = some (Bl 3 (B4 (Np si) n))) [24] B3 (by kernel_rfl) (⟨K0 H.drew.ext,H.drew.get at0,H.drew.get at2⟩) ?_
    refine Ba rfl rfl ?_
    refine Dy rfl rfl (B6 rfl rfl (AV rfl DF rfl (Ck rfl BF rfl (fun _ hx=>(by rw [Ay hx.1]; rfl)) ?_)))
    refine AV rfl EI rfl (Ck rfl BH rfl (fun _ hx=>(by rw [Ay hx.2.1]; rfl)) ?_)
    refine Dy rfl rfl (B6 rfl rfl (AV rfl Gp rfl (Ck rfl Fl rfl (fun _ hx=>(by rw [Ay hx.1]; rfl)) ?_)))
    refine AV rfl EI rfl (Ck rfl BH rfl (fun _ hx=>(by rw [Ay hx.2.1]; rfl)) ?_)
    refine AO rfl rfl (Dy rfl rfl (B6 rfl rfl (AV rfl Gp rfl (Ck rfl Fl rfl (fun _ hx=>(by rw [Ay hx.1]; rfl)) ?_))))
    refine AO rfl rfl (AE rfl DB EJ rfl rfl (by omega) (by omega) ?_)
    refine Ck rfl BH rfl (fun _ hx=>((Ct hx.2.2).fld hgh rfl (j:=0) rfl)) ?_
    refine DW rfl rfl rfl (by omega) (by omega) ?_
    rw [show (hu:Int)+1=((hu+1:Nat):Int) by omega]
    refine AE rfl AR B2 rfl rfl (by omega) (by omega) ?_
    refine BJ ?_
    replace H:=H.drew
    refine BP v (fun q => .int .i64 ((Gx si v (du+ln) (hu+1)).d q)) (.int _ _) rfl B2 rfl rfl rfl H at1 (by simp) (by omega) (by show Value.int _ (if v=v then _ else _)=_; rw [if_pos rfl]) (fun q _ hq=>by show Value.int _ (if q=v then _ else _)=_; rw [if_neg hq]) ?_
    rintro w H
    refine Ab (CX (⟨K0 H.ext,H.get at0,H.get at2⟩) (Ba rfl rfl ?_))
    refine AE rfl DB EJ rfl rfl (by omega) (by omega) ?_
    refine BJ (BP v (fun q => .int .i64 (Np (Gx si v (du+ln) (hu+1)) q)) (.int _ _) rfl EJ rfl rfl rfl H at2 (by simp) (by omega) (by show Value.int _ (((if v=v then _ else _:Nat)):Int)=_; rw [if_pos rfl]) (fun q _ hq=>by show Value.int _ (((if q=v then _ else _:Nat)):Int)=_; rw [if_neg hq]; rfl) ?_)
    rintro w H
    refine Ab (BS rfl (Ch (Aw (Bj rfl rfl (Ad rfl rfl (Ah rfl EI rfl (AA rfl BH rfl H at0 rfl ?_)))))))
    have Hc:=Ctx.comm (L:=[_,_,_]) (L':=HB bh a hk c full) H
    refine Ao rfl W3 (TG (Ctx.lend (L1:=HB bh a hk c full) (L2:=[_,_,_]) Hc) O (by omega) hH (du+ln) v) rfl ?_
    rintro rv w ⟨rfl,a',c',f',L2,hp2,hH2,O2,H2⟩
    replace H:=Ctx.comm (L:=HB bh a' (hk+1) c' f') (L':=[_,_,_]) (Ctx.back (L1:=HB bh a hk c full) (L2:=[_,_,_]) Hc H2)
    refine Ab (A5 (Aa (Aw (Ap rfl rfl rfl (by omega) (by omega) ?_))))
    refine Ad rfl rfl (Ab (Aa ?_))
    refine ⟨⟨i+1,a',hk+1,c',f',L2⟩,rfl,⟨rfl,trivial⟩,⟨by dsimp only; omega,?_,hH2,by dsimp only; omega,O2,?_⟩,by dsimp only; omega⟩
    ·dsimp only; rw [hsn]; show L2.Perm (GQ si (HO g p x) hi2); rw [hHH]; exact hp2.trans (hp.cons _)
    ·dsimp only; rw [hsn]; show Ctx w0 ids w (GB od oh n (FJ si (HO g p x)) bh a' (hk+1) c' f'); rw [hS]; exact H.tail
   ·intro h2
    have h2':¬ D7 si v (du+ln) (hu+1):=by simpa using h2
    have hS:FJ si (HO g p x)=si:=by rw [har]; unfold FJ; dsimp only; rw [← hdu,← hhu,if_neg h2']
    have hHH:GQ si (HO g p x) hi2=hi2:=by rw [har]; unfold GQ; dsimp only; rw [← hdu,← hhu,if_neg h2']
    refine Av (A5 (Aa (Aw (Ap rfl rfl rfl (by omega) (by omega) ?_))))
    refine Ad rfl rfl (Ab (Aa ?_))
    refine ⟨⟨i+1,a,hk,c,full,L'⟩,rfl,⟨rfl,trivial⟩,⟨by dsimp only; omega,?_,hH,by dsimp only; omega,O,?_⟩,by dsimp only; omega⟩
    ·dsimp only; rw [hsn]; show L'.Perm (GQ si (HO g p x) hi2); rw [hHH]; exact hp
    ·dsimp only; rw [hsn]; show Ctx w0 ids _ (GB od oh n (FJ si (HO g p x)) bh a hk c full); rw [hS]; exact H.tail
  ·intro h1
   replace h1:=AG h1
   refine Bd (Aj (Aj (AD (CJ rfl rfl ?_))))
   obtain rfl:i=La.length:=by omega
   rw [List.take_length] at hsi hhi2
   rw [hsi] at H
   rw [hhi2] at hp
   exact ⟨rfl,a,hk,c,full,L',hp,hH,O,H⟩

end Go.Proofs.YtapphbmlkdhnmaaGreat

/- Shortest ways: where they begin, and each node's last arc: the walks. -/
namespace Go.Proofs.YtapphbmlkdhnmaaGreat
open Go.GV
attribute [local irreducible] A2 W Wq Wt

abbrev NBl (od n:Nat) (s:Lb) (bh:Nat) (a:Option Addr) (hn c:Nat) (full:List Value):List (Nat × Obj):=(od,Bl 2 (B4 s.d n))::HB bh a hn c full
def HR (src:List Nat):List Tg:=src.map fun v=>(0,v)
theorem Q3 {src:List Nat} {i v:Nat} (h:src[i]? = some v) (x:Nat):(lb0 (src.take (i+1))).d x=if x=v then 0 else (lb0 (src.take i)).d x:=by
 unfold lb0
 dsimp only
 rw [C5 h]
 by_cases e:x=v
 ·subst e; simp
 ·simp [e]

set_option maxRecDepth 20000 in
set_option maxHeartbeats 4000000 in
theorem Xe {w:World} {bf oo od oh ob n:Nat} {bh:Nat} {c:Nat} {src:List Nat} {fr:Option Addr} {fc:Nat} (H0:Ctx w ((NBl od n (lb0 []) bh none 0 c []).map (·.1)) w (NBl od n (lb0 []) bh none 0 c [])) (O:OS none 0 c 2 [] (([]:List Tg).flatMap Ew))
  (hf:w.heap[bf]? = some (Bl 224 (FB oo od oh ob n))) (hfn:bf∉(NBl od n (lb0 []) bh none 0 c []).map (·.1)) (R:Rd w fr 1 I1 (src.map fun v:Nat=>(v:Int))) (hRn:src≠[]→(adr fr).block∉(NBl od n (lb0 []) bh none 0 c []).map (·.1)) (hn6:n≤1000000) (hsrc:∀ v∈src,v<n) (hnd:src.Nodup) (hsl:src.length≤1000000) :
  Ret Tryz.prog 191 #[ptr bf,ptr bh,.slice fr src.length fc] w fun v w'=>v = .bool (decide (0<src.length))∧∃ (a':Option Addr) (c':Nat) (full':List Value) (L':List Tg),L'.Perm (HR src)∧HeapL L'∧OS a' src.length c' 2 full' (L'.flatMap Ew)∧Ctx w ((NBl od n (lb0 []) bh none 0 c []).map (·.1)) w' (NBl od n (lb0 src) bh a' src.length c' full'):=by
 obtain ⟨w0,rfl⟩:∃ w0,w0=w:=⟨_,rfl⟩
 obtain ⟨ids,hids⟩:∃ ids,ids=(NBl od n (lb0 []) bh none 0 c []).map (·.1):=⟨_,rfl⟩
 rw [← hids] at H0 hfn hRn ⊢
 have H:=H0
 refine A1 (fn:=Tryz.f191) Tryz.func191 rfl [.pointer (some ⟨bf,0,none⟩),.pointer (some ⟨bh,0,none⟩),.slice fr src.length fc] rfl (by kernel_rfl) ?_
 refine Ag (Ai rfl rfl (Ab (Aa (Aq (Ag (An rfl rfl (AU rfl DB rfl (Ad rfl rfl (Ab (Aa (Au ?_)))))))))))
 refine Bi 17592186042688 (α:=Option Addr × Nat × List Value × List Tg × Nat) (fun t=>[(11,.int .i64 (t.2.2.2.2:Int))]) (fun t w'=>t.2.2.2.2≤src.length∧t.2.2.2.1.Perm (HR (src.take t.2.2.2.2))∧HeapL t.2.2.2.1∧OS t.1 t.2.2.2.2 t.2.1 2 t.2.2.1 (t.2.2.2.1.flatMap Ew)∧Ctx w0 ids w' (NBl od n (lb0 (src.take t.2.2.2.2)) bh t.1 t.2.2.2.2 t.2.1 t.2.2.1)) (fun t=>src.length - t.2.2.2.2) (none,c,[],[],0) rfl ?_ ?_ ?_
 ·exact ⟨rfl,trivial⟩
 ·exact ⟨Nat.zero_le _,.refl _,fun i x y _ h=>(by cases h),O,H⟩
 ·rintro ⟨a,c,full,L,i⟩ j w ⟨hi,hp,hH,O,H⟩; dsimp only at hi hp hH O H; dsimp only
  refine Ag (AN rfl rfl rfl (Ab (Aa (Aq (Ax _ rfl ?_ ?_)))))
  ·intro h1
   replace h1:=AF h1
   obtain ⟨v,hv⟩:=AC (l:=src) (i:=i) (by omega)
   have hvn:=hsrc v (List.mem_of_getElem? hv)
   have hvm:(src.map fun v:Nat=>(v:Int))[i]? = some (v:Int):=by rw [List.getElem?_map,hv]; rfl
   have hne:src≠[]:=fun h=>by rw [h] at hv; cases hv
   have hnot:v∉src.take i:=fun hm=>by
    obtain ⟨k,hk⟩:=List.getElem?_of_mem hm
    rw [List.getElem?_take] at hk
    split at hk
    ·have hkl:=CB hk
     obtain ⟨h1,h2⟩:=List.getElem?_eq_some_iff.1 hk
     obtain ⟨h3,h4⟩:=List.getElem?_eq_some_iff.1 hv
     have:=(List.getElem_inj hnd).1 (h2.trans h4.symm)
     omega
    ·cases hk
   have hdv:(lb0 (src.take i)).d v = -1:=if_neg hnot
   have hlm:(src.map fun v:Nat=>(v:Int)).length=src.length:=by rw [List.length_map]
   have hgd:(tab (lb0 (src.take i)).d n)[v]? = some (-1):=by rw [BM hvn,hdv]
   refine Av (Aa (Aq (Au (Ag (AZ R rfl DB EJ rfl rfl (by omega) (by omega) (by omega) ?_)))))
   refine AX rfl BH rfl (((R.ext H.ext (hRn hne)).fld hvm rfl (j:=0) rfl)) ?_
   refine Af rfl rfl (Ab (Aa (Aq (Ag (Ad rfl rfl (AN rfl rfl rfl (Ak rfl rfl (A8 17 rfl ?_ ?_))))))))
   ·intro h2
    replace h2:=AF h2
    omega
   ·intro h2
    replace h2:=AG h2
    refine Ad rfl rfl (Bj rfl rfl (Bc rfl rfl (Ah rfl DF rfl (AX rfl BF rfl ((by rw [Ay (H.ext.to hf hfn)]; rfl)) ?_))))
    refine AU rfl AR rfl (CD rfl rfl rfl (A3 rfl rfl (.bool _) rfl (Ab (Aa (Ax _ rfl ?_ ?_)))))
    ·intro h3
     replace h3:=AF h3
     omega
    ·intro h3
     replace h3:=AG h3
     refine Av (Aa (Ag (Bj rfl rfl (Bc rfl rfl (Ah rfl DF rfl (AX rfl BF rfl ((by rw [Ay (H.ext.to hf hfn)]; rfl)) ?_))))))
     refine Ad rfl rfl (Bb rfl AR B2 rfl rfl (by omega) (by omega) ?_)
     refine AX rfl Bw rfl (((Ct (H.get at0)).fld hgd rfl (j:=0) rfl)) ?_
     refine CH rfl rfl rfl (Ab (Aa (Ax _ rfl ?_ ?_)))
     ·intro h4
      replace h4:=CO h4
      refine Ag (Bj rfl rfl (Bc rfl rfl (Ah rfl DF rfl (AX rfl BF rfl ((by rw [Ay (H.ext.to hf hfn)]; rfl)) ?_))))
      refine Ad rfl rfl (Bb rfl AR B2 rfl rfl (by omega) (by omega) ?_)
      refine BP v (fun q => .int .i64 ((lb0 (src.take (i+1))).d q)) (.int _ _) rfl B2 rfl rfl rfl H at0 (by simp) (by omega) (by rw [Q3 hv,if_pos rfl]) (fun q _ hq=>by rw [Q3 hv,if_neg hq]) ?_
      rintro w H
      refine Ab (Aa (Aw (Bj rfl rfl (Ad rfl rfl ?_))))
      have Hc:=Ctx.comm (L:=[_]) (L':=HB bh a i c full) H
      refine Ao rfl W3 (TG (Ctx.lend (L1:=HB bh a i c full) (L2:=[_]) Hc) O (by omega) hH 0 v) rfl ?_
      rintro rv w ⟨rfl,a',c',f',L2,hp2,hH2,O2,H2⟩
      replace H:=Ctx.comm (L:=HB bh a' (i+1) c' f') (L':=[_]) (Ctx.back (L1:=HB bh a i c full) (L2:=[_]) Hc H2)
      refine Ab (A5 (Aa (Aw (Ap rfl rfl rfl (by omega) (by omega) ?_))))
      refine Ad rfl rfl (Ab (Aa ?_))
      refine ⟨(a',c',f',L2,i+1),rfl,⟨rfl,trivial⟩,⟨by dsimp only; omega,?_,hH2,O2,H⟩,by dsimp only; omega⟩
      dsimp only
      unfold HR at hp ⊢
      rw [C5 hv,List.map_append]
      exact hp2.trans ((hp.cons _).trans (List.perm_append_singleton _ _).symm)
     ·intro h4
      replace h4:=CP h4
      omega
  ·intro h1
   replace h1:=AG h1
   refine Bd (Aj (Aj (AD (Aa (Ag (An rfl rfl (AU rfl DB rfl (C0 rfl rfl rfl (Ai rfl rfl (Ab (Aa (A9 (AB (v:=(.bool _)) rfl rfl rfl ?_)))))))))))))
   obtain rfl:i=src.length:=by omega
   rw [List.take_length] at hp H
   exact ⟨congrArg Value.bool (by rw [Bool.eq_iff_iff]; simp),a,c,full,L,hp,hH,O,H⟩

/-- An arc over which a best way may come. -/
def Kh (g:Gr) (p:Nat→Int) (s:Lb) (a:Nat):Prop:=s.d (g.u a) ≠ -1∧s.h (g.v a)≠0∧s.d (g.u a)+g.len p a=s.d (g.v a)∧s.h (g.u a)+1=s.h (g.v a)
/-- What is known of each node's last arc, of those that were looked at. -/
structure BI (g:Gr) (p:Nat→Int) (s:Lb) (all done:Nat→Prop) (by':Nat→Int):Prop where
 val:∀ v,by' v = -1∨∃ a:Nat,by' v=(a:Int)∧all a∧Kh g p s a∧g.v a=v
 in':∀ a,done a→Kh g p s a→by' (g.v a) ≠ -1
theorem BI.skip {g:Gr} {p:Nat→Int} {s:Lb} {all done:Nat→Prop} {by':Nat→Int} (B:BI g p s all done by') {a:Nat} (h:¬ Kh g p s a∨by' (g.v a) ≠ -1):BI g p s all (fun x=>x=a∨done x) by' :=
 ⟨B.val,fun x hx hg=>by
  rcases hx with rfl | hx
  ·exact h.resolve_left fun h=>h hg
  ·exact B.in' x hx hg⟩
theorem BI.put {g:Gr} {p:Nat→Int} {s:Lb} {all done:Nat→Prop} {by':Nat→Int} (B:BI g p s all done by') {a:Nat} (ha:all a) (hg:Kh g p s a):BI g p s all (fun x=>x=a∨done x) (upd by' (g.v a) (a:Int)):=by
 refine ⟨fun v=>?_,fun x hx hgx=>?_⟩
 ·by_cases e:v=g.v a
  ·subst e; exact .inr ⟨a,Dd _ _ _,ha,hg,rfl⟩
  ·rw [DZ e]; exact B.val v
 ·by_cases e:g.v x=g.v a
  ·rw [e,Dd]; omega
  ·rw [DZ e]
   rcases hx with rfl | hx
   ·exact absurd rfl e
   ·exact B.in' x hx hgx
theorem BI.congr {g:Gr} {p:Nat→Int} {s:Lb} {all done done':Nat→Prop} {by':Nat→Int} (B:BI g p s all done by') (h:∀ x,done' x→done x):BI g p s all done' by':=⟨B.val,fun a ha=>B.in' a (h a ha)⟩

set_option maxRecDepth 20000 in
set_option maxHeartbeats 8000000 in
theorem Xf {w:World} {bf oo od oh ob n:Nat} {s:Lb} {g:Gr} {p:Nat→Int} {outs:List Value} {outL:Nat→List Nat} (hb:w.heap[ob]? = some (Bl 3 (B4 (fun _ => -1) n))) (hf:w.heap[bf]? = some (Bl 224 (FB oo od oh ob n))) (hd:w.heap[od]? = some (Bl 2 (B4 s.d n))) (hh:w.heap[oh]? = some (Bl 3 (B4 (Np s) n))) (ho:w.heap[oo]? = some (Bl 230 outs))
  (nf:bf≠ob) (nd:od≠ob) (nh:oh≠ob) (no:oo≠ob) (hn6:n≤1000000) (hsd:∀ v,-1≤s.d v∧s.d v≤1152921504606846976∧s.h v≤1000000)
  (hout:∀ u,u<n→∃ au cu,outs[u]? = some (.slice au (outL u).length cu)∧Rd w au 4 (FM g p) (outL u)∧(outL u≠[]→(adr au).block≠ob)∧(outL u).length≤1000000∧∀ x∈outL u,g.u x=u∧g.v x<n ∧ -1152921504606846976≤g.len p x∧g.len p x≤1152921504606846976∧x≤1000000) :
  Ret Tryz.prog 195 #[ptr bf] w fun v w'=>v = .tuple #[]∧∃ by':Nat→Int,BI g p s (fun a=>a∈outL (g.u a)) (fun a=>g.u a<n∧a∈outL (g.u a)) by'∧Ctx w [ob] w' [(ob,Bl 3 (B4 by' n))]:=by
 obtain ⟨w0,rfl⟩:∃ w0,w0=w:=⟨_,rfl⟩
 have H:=Ctx.start1 hb
 have nf':bf∉[ob]:=by rw [List.mem_singleton]; exact nf
 have nd':od∉[ob]:=by rw [List.mem_singleton]; exact nd
 have nh':oh∉[ob]:=by rw [List.mem_singleton]; exact nh
 have no':oo∉[ob]:=by rw [List.mem_singleton]; exact no
 refine A1 (fn:=Tryz.f195) Tryz.func195 rfl [.pointer (some ⟨bf,0,none⟩)] rfl (by kernel_rfl) ?_
 refine Ag (Bj rfl rfl (Bc rfl rfl (Ah rfl Ka rfl (AX rfl OU rfl ((by rw [Ay hf]; rfl)) ?_))))
 refine AU rfl K8 rfl (Ad rfl rfl (Ab (Aa (Au (Bi 649037107316853453566312041148524 (α:=Nat × (Nat→Int)) (fun t=>[(12,.int .i64 (t.1:Int))]) (fun t w'=>t.1≤n∧BI g p s (fun a=>a∈outL (g.u a)) (fun a=>g.u a<t.1∧a∈outL (g.u a)) t.2∧Ctx w0 [ob] w' [(ob,Bl 3 (B4 t.2 n))]) (fun t=>n - t.1) (0,fun _ => -1) rfl ?_ ?_ ?_)))))
 ·exact ⟨rfl,trivial⟩
 ·exact ⟨Nat.zero_le _,⟨fun v => .inl rfl,fun a h=>absurd h.1 (Nat.not_lt_zero _)⟩,H⟩
 ·rintro ⟨u,by'⟩ j w ⟨hi,B,H⟩; dsimp only at hi B H; dsimp only
  refine Ag (AN rfl rfl rfl (Ab (Aa (Aq (Ax _ rfl ?_ ?_)))))
  ·intro h1
   replace h1:=AF h1
   obtain ⟨au,cu,hou,R,hRn,hul,hx7⟩:=hout u (by omega)
   refine Av (Aa (Aq (Au (Ag (Ad rfl rfl (Bb rfl K8 K9 rfl rfl (by omega) (by omega) ?_))))))
   refine AX rfl Sc rfl ((by rw [Ay (H.ext.to ho no')]; simpa using hou)) ?_
   refine Af rfl rfl (AJ rfl rfl (Ab (Aa (Ag (An rfl rfl (AU rfl JA rfl (Ad rfl rfl (Ab (Aa (Au ?_))))))))))
   obtain ⟨La,hLa⟩:∃ La,La=outL u:=⟨_,rfl⟩
   rw [← hLa] at R hRn hul hx7 ⊢
   refine Bi 324518553658426726783156020052064 (α:=Nat × (Nat→Int)) (fun t=>[(19,.int .i64 (t.1:Int))]) (fun t w'=>t.1≤La.length∧BI g p s (fun a=>a∈outL (g.u a)) (fun a=>(g.u a<u∧a∈outL (g.u a))∨a∈La.take t.1) t.2∧Ctx w0 [ob] w' [(ob,Bl 3 (B4 t.2 n))]) (fun t=>La.length - t.1) (0,by') rfl ?_ ?_ ?_
   ·exact ⟨rfl,trivial⟩
   ·exact ⟨Nat.zero_le _,B.congr (fun x hx=>hx.elim id fun h=>by simp at h),H⟩
   ·rintro ⟨i,by'⟩ j2 w ⟨hi2,B,H⟩; dsimp only at hi2 B H; dsimp only
    refine Ag (AN rfl rfl rfl (Ab (Aa (Aq (Ax _ rfl ?_ ?_)))))
    ·intro h2
     replace h2:=AF h2
     obtain ⟨x,hxa⟩:=AC (l:=La) (i:=i) (by omega)
     obtain ⟨hxu,hxv,hl1,hl2,hx6⟩:=hx7 x (List.mem_of_getElem? hxa)
     obtain ⟨v,hv⟩:∃ v,v=g.v x:=⟨_,rfl⟩
     obtain ⟨ln,hln⟩:∃ ln,ln=g.len p x:=⟨_,rfl⟩
     have hrow:FM g p x=[.int .i64 (x:Int),.int .i64 (u:Int),.int .i64 (v:Int),.int .i64 ln]:=by unfold FM; rw [hxu,hv,hln]
     rw [← hv] at hxv
     rw [← hln] at hl1 hl2
     have hne:La≠[]:=fun h=>by rw [h] at hxa; cases hxa
     have hau:(adr au).block∉[ob]:=by rw [List.mem_singleton]; exact hRn hne
     have hun:u<n:=by omega
     obtain ⟨du,hdu⟩:∃ du,du=s.d u:=⟨_,rfl⟩
     obtain ⟨hu,hhu⟩:∃ hu,hu=s.h u:=⟨_,rfl⟩
     obtain ⟨dv,hdv⟩:∃ dv,dv=s.d v:=⟨_,rfl⟩
     obtain ⟨hw,hhw⟩:∃ hw,hw=s.h v:=⟨_,rfl⟩
     have hgdu:(tab s.d n)[u]? = some du:=by rw [BM hun,hdu]
     have hghu:(tab (Np s) n)[u]? = some (hu:Int):=by rw [BM hun,hhu]; rfl
     have hgdv:(tab s.d n)[v]? = some dv:=by rw [BM hxv,hdv]
     have hghv:(tab (Np s) n)[v]? = some (hw:Int):=by rw [BM hxv,hhw]; rfl
     have hbu:=hsd u
     rw [← hdu,← hhu] at hbu
     have hgo:Kh g p s x↔(du ≠ -1∧hw≠0∧du+ln=dv∧hu+1=hw):=by
      unfold Kh
      rw [hxu,← hv,← hln,← hdu,← hhu,← hdv,← hhw]
     have hall:x∈outL (g.u x):=by rw [hxu,← hLa]; exact List.mem_of_getElem? hxa
     have hsub:∀ y,((g.u y<u∧y∈outL (g.u y))∨y∈La.take (i+1))→y=x∨((g.u y<u∧y∈outL (g.u y))∨y∈La.take i):=fun y hy=>by
      rcases hy with hy | hy
      ·exact .inr (.inl hy)
      ·rw [C5 hxa] at hy
       rcases List.mem_append.1 hy with hy | hy
       ·exact .inr (.inr hy)
       ·exact .inl (List.mem_singleton.1 hy)
     have RD:=Ct hd
     have RH:=Ct hh
     refine Av (Aa (Aq (Au (Ag (AZ R rfl JA Gq rfl rfl (by omega) (by omega) (by rfl) ?_)))))
     refine Cr _ rfl Sb Gq rfl rfl (Rd.rowE (R.ext H.ext hau) hxa hrow rfl) ?_
     refine Bm rfl I0 H ?_
     rintro b5 w - H
     refine BD rfl Gq rfl rfl rfl (by simp [Bz]) H at0 rfl ?_
     rintro w H
     refine Ab (Aa (Aq (Dw 4835703278458516690436096 (α:=Unit) (fun _=>[(81,.bool (!decide (du ≠ -1∧hw≠0∧du+ln=dv∧hu+1=hw)))]) (fun _ w'=>Ctx w0 [ob] w' [(b5,Bl 229 [.int .i64 (x:Int),.int .i64 (u:Int),.int .i64 (v:Int),.int .i64 ln]),(ob,Bl 3 (B4 by' n))]) rfl ?_ ?_)))
     ·skip
      refine Tn (fun x=>x=_) B3 (by kernel_rfl) rfl ?_
      refine Cb rfl rfl (Bg rfl rfl (A6 rfl DF rfl (Cc rfl BF rfl (by rintro _ rfl; exact ((by rw [Ay (H.drew.ext.to hf nf')]; rfl))) ?_)))
      refine AM rfl rfl (AL rfl AR B2 rfl rfl (by omega) (by omega) ?_)
      refine Cc rfl Bw rfl (by rintro _ rfl; exact (((RD.ext H.drew.ext nd').fld hgdu rfl (j:=0) rfl))) ?_
      refine Tp rfl rfl rfl (Di rfl rfl (Dc 31 rfl ?_ ?_))
      ·intro h1
       replace h1:=AF h1
       refine Az rfl (Az rfl (Az rfl (Az rfl (Az rfl (Az rfl (Az rfl (Az rfl (Az rfl (H9 rfl rfl (.bool _) rfl ?_)))))))))
       refine Di rfl rfl (Az rfl (Az rfl (Az rfl (Az rfl (Az rfl (Az rfl (Az rfl (Az rfl (Az rfl ?_)))))))))
       refine Az rfl (Az rfl (Az rfl (Az rfl (Az rfl (Az rfl (Az rfl (Az rfl (Az rfl (Az rfl ?_)))))))))
       refine H9 rfl rfl (.bool _) rfl (Di rfl rfl (Az rfl (Az rfl (Az rfl (Az rfl (Az rfl (Az rfl (Az rfl (Az rfl ?_)))))))))
       refine Az rfl (Az rfl (Az rfl (Az rfl (Az rfl (Az rfl (Az rfl (Az rfl (Az rfl (H9 rfl rfl (.bool _) rfl ?_)))))))))
       refine BQ ?_
       rintro _ rfl
       replace H:=H.drew
       refine Aa ?_
       exact ⟨(),rfl,⟨congrArg Value.bool (by clear hgdu hghu hgdv hghv hgo hdu hhu hdv hhw; rw [Bool.eq_iff_iff]; simp_all; try omega),trivial⟩,H⟩
      ·intro h2
       replace h2:=AG h2
       refine Cb rfl rfl (Bg rfl rfl (A6 rfl Gp rfl (Cc rfl Fl rfl (by rintro _ rfl; exact ((by rw [Ay (H.drew.ext.to hf nf')]; rfl))) ?_)))
       refine A6 rfl EI rfl (BZ rfl BH rfl (by rintro _ rfl; exact H.drew) at0 rfl ?_)
       refine AL rfl DB EJ rfl rfl (by omega) (by omega) ?_
       refine Cc rfl BH rfl (by rintro _ rfl; exact (((RH.ext H.drew.ext nh').fld hghv rfl (j:=0) rfl))) ?_
       refine Tp rfl rfl rfl (Lu rfl rfl (.bool _) rfl (Di rfl rfl (Dc 42 rfl ?_ ?_)))
       ·intro h3
        replace h3:=AF h3
        refine Az rfl (Az rfl (Az rfl (Az rfl (Az rfl (Az rfl (Az rfl (Az rfl (Az rfl (Az rfl ?_)))))))))
        refine Az rfl (Az rfl (Az rfl (Az rfl (Az rfl (Az rfl (Az rfl (Az rfl (Az rfl (H9 rfl rfl (.bool _) rfl ?_)))))))))
        refine Di rfl rfl (Az rfl (Az rfl (Az rfl (Az rfl (Az rfl (Az rfl (Az rfl (Az rfl (Az rfl ?_)))))))))
        refine Az rfl (Az rfl (Az rfl (Az rfl (Az rfl (Az rfl (Az rfl (Az rfl (H9 rfl rfl (.bool _) rfl (BQ ?_)))))))))
        rintro _ rfl
        replace H:=H.drew
        refine Aa ?_
        exact ⟨(),rfl,⟨congrArg Value.bool (by clear hgdu hghu hgdv hghv hgo hdu hhu hdv hhw; rw [Bool.eq_iff_iff]; simp_all; try omega),trivial⟩,H⟩
       ·intro h4
        replace h4:=AG h4
        refine Cb rfl rfl (Bg rfl rfl (A6 rfl DF rfl (Cc rfl BF rfl (by rintro _ rfl; exact ((by rw [Ay (H.drew.ext.to hf nf')]; rfl))) ?_)))
        refine AM rfl rfl (AL rfl AR B2 rfl rfl (by omega) (by omega) ?_)
        refine Cc rfl Bw rfl (by rintro _ rfl; exact (((RD.ext H.drew.ext nd').fld hgdu rfl (j:=0) rfl))) ?_
        refine A6 rfl Mw rfl (BZ rfl Bw rfl (by rintro _ rfl; exact H.drew) at0 rfl ?_)
        refine CE rfl rfl rfl (by omega) (by omega) ?_
        refine Cb rfl rfl (Bg rfl rfl (A6 rfl DF rfl (Cc rfl BF rfl (by rintro _ rfl; exact ((by rw [Ay (H.drew.ext.to hf nf')]; rfl))) ?_)))
        refine A6 rfl EI rfl (BZ rfl BH rfl (by rintro _ rfl; exact H.drew) at0 rfl ?_)
        refine AL rfl AR B2 rfl rfl (by omega) (by omega) ?_
        refine Cc rfl Bw rfl (by rintro _ rfl; exact (((RD.ext H.drew.ext nd').fld hgdv rfl (j:=0) rfl))) ?_
        refine N6 rfl rfl rfl (Lu rfl rfl (.bool _) rfl (Di rfl rfl (Dc 63 rfl ?_ ?_)))
        ·intro h5
         replace h5:=CO h5
         refine Az rfl (Az rfl (Az rfl (Az rfl (Az rfl (Az rfl (Az rfl (Az rfl (Az rfl (Az rfl ?_)))))))))
         refine Az rfl (Az rfl (Az rfl (Az rfl (Az rfl (Az rfl (Az rfl (H9 rfl rfl (.bool _) rfl (BQ ?_))))))))
         rintro _ rfl
         replace H:=H.drew
         refine Aa ?_
         exact ⟨(),rfl,⟨congrArg Value.bool (by clear hgdu hghu hgdv hghv hgo hdu hhu hdv hhw; rw [Bool.eq_iff_iff]; simp_all; try omega),trivial⟩,H⟩
        ·intro h6
         replace h6:=CP h6
         refine Cb rfl rfl (Bg rfl rfl (A6 rfl Gp rfl (Cc rfl Fl rfl (by rintro _ rfl; exact ((by rw [Ay (H.drew.ext.to hf nf')]; rfl))) ?_)))
         refine AM rfl rfl (AL rfl DB EJ rfl rfl (by omega) (by omega) ?_)
         refine Cc rfl BH rfl (by rintro _ rfl; exact (((RH.ext H.drew.ext nh').fld hghu rfl (j:=0) rfl))) ?_
         refine CE rfl rfl rfl (by omega) (by omega) ?_
         refine Cb rfl rfl (Bg rfl rfl (A6 rfl Gp rfl (Cc rfl Fl rfl (by rintro _ rfl; exact ((by rw [Ay (H.drew.ext.to hf nf')]; rfl))) ?_)))
         refine A6 rfl EI rfl (BZ rfl BH rfl (by rintro _ rfl; exact H.drew) at0 rfl ?_)
         refine AL rfl DB EJ rfl rfl (by omega) (by omega) ?_
         refine Cc rfl BH rfl (by rintro _ rfl; exact (((RH.ext H.drew.ext nh').fld hghv rfl (j:=0) rfl))) ?_
         refine N6 rfl rfl rfl (Lu rfl rfl (.bool _) rfl (BQ ?_))
         rintro _ rfl
         replace H:=H.drew
         refine Aa ?_
         exact ⟨(),rfl,⟨congrArg Value.bool (by clear hgdu hghu hgdv hghv hgo hdu hhu hdv hhw; rw [Bool.eq_iff_iff]; simp_all; try omega),trivial⟩,H⟩
     ·rintro - j6 w H
      refine Ax _ rfl ?_ ?_
      ·intro h3
       have hng:¬ Kh g p s x:=by rw [hgo]; exact of_decide_eq_false (by simpa only [Bool.not_eq_true'] using h3)
       refine Bd (Aj (AD (Aa (Aw (Ap rfl rfl rfl (by omega) (by omega) ?_)))))
       refine Ad rfl rfl (Ab (Aa ?_))
       exact ⟨(i+1,by'),rfl,⟨rfl,trivial⟩,⟨by dsimp only; omega,(B.skip (.inl hng)).congr hsub,H.tail⟩,by dsimp only; omega⟩
      ·intro h3
       have hg:Kh g p s x:=by rw [hgo]; simpa using h3
       have hgb:(tab by' n)[v]? = some (by' v):=BM hxv
       have hnot:by' v ≠ -1→BI g p s (fun a=>a∈outL (g.u a)) (fun a=>(g.u a<u∧a∈outL (g.u a))∨a∈La.take (i+1)) by':=fun h=>(B.skip (.inr (hv ▸ h))).congr hsub
       refine Av (Aa (DS (fun x=>x=_) B3 (by kernel_rfl) rfl ?_))
       refine Cb rfl rfl (Bg rfl rfl (A6 rfl Ix rfl (Cc rfl Fl rfl (by rintro _ rfl; exact ((by rw [Ay (H.drew.ext.to hf nf')]; rfl))) ?_)))
       refine A6 rfl EI rfl (BZ rfl BH rfl (by rintro _ rfl; exact H.drew) at0 rfl ?_)
       refine AL rfl DB EJ rfl rfl (by omega) (by omega) ?_
       refine Cc rfl BH rfl (by rintro _ rfl; exact (((Ct (H.drew.get at1)).fld hgb rfl (j:=0) rfl))) ?_
       refine Co rfl rfl (BQ ?_)
       rintro _ rfl
       replace H:=H.drew
       refine Ag (Ad rfl rfl (BX rfl rfl rfl (Ak rfl rfl (A8 92 rfl ?_ ?_))))
       ·intro h4
        replace h4:=AF h4
        refine Ae rfl (Ae rfl (Ae rfl (Ae rfl (Am rfl rfl (.bool _) rfl (Ab (Aa (CM rfl (Fx [([0,1,2,3,4,5,6,7,8],9)] (fun z=>z.heap[bf]? = some (Bl 224 (FB oo od oh ob n))∧z.heap[b5]? = some (Bl 229 [.int .i64 (x:Int),.int .i64 (u:Int),.int .i64 (v:Int),.int .i64 ln])) [9] B3 (by kernel_rfl) (⟨H.drew.ext.to hf nf',H.drew.get at0⟩) ?_))))))))
        refine Ba rfl rfl ?_
        refine Dy rfl rfl (B6 rfl rfl (AV rfl Ix rfl (Ck rfl Fl rfl (fun _ hx=>(by rw [Ay hx.1]; rfl)) ?_)))
        refine AV rfl EI rfl (Ck rfl BH rfl (fun _ hx=>(by rw [Ay hx.2]; rfl)) ?_)
        refine AV rfl Mv rfl (Ck rfl BH rfl (fun _ hx=>(by rw [Ay hx.2]; rfl)) ?_)
        refine AE rfl DB EJ rfl rfl (by omega) (by omega) ?_
        refine BJ ?_
        replace H:=H.drew
        refine BP v (fun q => .int .i64 (upd by' v (x:Int) q)) (.int _ _) rfl EJ rfl rfl rfl H at1 (by simp) (by omega) (by rw [Dd]) (fun q _ hq=>by rw [DZ hq]) ?_
        rintro w H
        refine Ab (BS rfl (Ch (A5 (Aa (Aw (Ap rfl rfl rfl (by omega) (by omega) ?_))))))
        refine Ad rfl rfl (Ab (Aa ?_))
        exact ⟨(i+1,upd by' v (x:Int)),rfl,⟨rfl,trivial⟩,⟨by dsimp only; omega,(hv ▸ B.put hall hg).congr hsub,H.tail⟩,by dsimp only; omega⟩
       ·intro h4
        replace h4:=AG h4
        refine Ah rfl Mv rfl (AA rfl BH rfl H at0 rfl (Ad rfl rfl (AN rfl rfl rfl (A3 rfl rfl (.bool _) rfl (Ab (Aa (Ax _ rfl ?_ ?_)))))))
        ·intro h5
         replace h5:=AF h5
         refine Fx [([0,1,2,3,4,5,6,7,8],9)] (fun z=>z.heap[bf]? = some (Bl 224 (FB oo od oh ob n))∧z.heap[b5]? = some (Bl 229 [.int .i64 (x:Int),.int .i64 (u:Int),.int .i64 (v:Int),.int .i64 ln])) [9] B3 (by kernel_rfl) (⟨H.drew.ext.to hf nf',H.drew.get at0⟩) ?_
         refine Ba rfl rfl ?_
         refine Dy rfl rfl (B6 rfl rfl (AV rfl Ix rfl (Ck rfl Fl rfl (fun _ hx=>(by rw [Ay hx.1]; rfl)) ?_)))
         refine AV rfl EI rfl (Ck rfl BH rfl (fun _ hx=>(by rw [Ay hx.2]; rfl)) ?_)
         refine AV rfl Mv rfl (Ck rfl BH rfl (fun _ hx=>(by rw [Ay hx.2]; rfl)) ?_)
         refine AE rfl DB EJ rfl rfl (by omega) (by omega) ?_
         refine BJ ?_
         replace H:=H.drew
         refine BP v (fun q => .int .i64 (upd by' v (x:Int) q)) (.int _ _) rfl EJ rfl rfl rfl H at1 (by simp) (by omega) (by rw [Dd]) (fun q _ hq=>by rw [DZ hq]) ?_
         rintro w H
         refine Ab (BS rfl (Ch (A5 (Aa (Aw (Ap rfl rfl rfl (by omega) (by omega) ?_))))))
         refine Ad rfl rfl (Ab (Aa ?_))
         exact ⟨(i+1,upd by' v (x:Int)),rfl,⟨rfl,trivial⟩,⟨by dsimp only; omega,(hv ▸ B.put hall hg).congr hsub,H.tail⟩,by dsimp only; omega⟩
        ·intro h5
         replace h5:=AG h5
         refine Av (A5 (Aa (Aw (Ap rfl rfl rfl (by omega) (by omega) ?_))))
         refine Ad rfl rfl (Ab (Aa ?_))
         exact ⟨(i+1,by'),rfl,⟨rfl,trivial⟩,⟨by dsimp only; omega,hnot h4,H.tail⟩,by dsimp only; omega⟩
    ·intro h2
     replace h2:=AG h2
     refine Bd (Aj (Aj (AD (A5 (Aa (Aw (Ap rfl rfl rfl (by omega) (by omega) ?_)))))))
     refine Ad rfl rfl (Ab (Aa ?_))
     have hiL:i=La.length:=by omega
     refine ⟨(u+1,by'),rfl,⟨rfl,trivial⟩,⟨by dsimp only; omega,B.congr fun y hy=>?_,H⟩,by dsimp only; omega⟩
     rw [hiL,List.take_length]
     rcases Nat.lt_or_ge (g.u y) u with h7 | h7
     ·exact .inl ⟨h7,hy.2⟩
     ·have hyu:g.u y=u:=by have:=hy.1; dsimp only at this; omega
      exact .inr (by rw [hLa,← hyu]; exact hy.2)
  ·intro h1
   replace h1:=AG h1
   refine Bd (Aj (Aj (AD (CJ rfl rfl ?_))))
   obtain rfl:u=n:=by omega
   exact ⟨rfl,by',B,H⟩

end Go.Proofs.YtapphbmlkdhnmaaGreat

/- The arcs that leave each node, in arrays of their own. -/
namespace Go.Proofs.YtapphbmlkdhnmaaGreat
open Go.GV
attribute [local irreducible] A2 W Wq Wt

structure Slo where
 a:Option Addr
 n:Nat
 c:Nat
 full:List Value
def sloV (s:Slo):Value := .slice s.a s.n s.c
abbrev JF (s:Slo):List (Nat × Obj):=ent s.a 229 s.full
abbrev UM (nn:Nat) (st:Nat→Slo):List Value:=(List.range nn).map fun u=>sloV (st u)
/-- The table of the arrays, and the arrays. oth: blocks that are none of theirs. -/
structure OutR (w0 w:World) (oo nn:Nat) (g:Gr) (p:Nat→Int) (st:Nat→Slo) (sel:Nat→List Nat) (oth:Nat→Prop):Prop where
 tbl:w.heap[oo]? = some (Bl 230 (UM nn st))
 os:∀ u,u<nn→OS (st u).a (st u).n (st u).c 4 (st u).full ((sel u).flatMap (FM g p))
 blk:∀ u,u<nn→∀ y∈JF (st u),w.heap[y.1]? = some y.2∧w0.heap.size≤y.1∧¬ oth y.1∧y.1≠oo
 ne:∀ u v,u<nn→v<nn→u≠v→∀ y∈JF (st u),∀ z∈JF (st v),y.1≠z.1
def MF (oo nn:Nat) (st:Nat→Slo):Mt:=fun x=>x=oo∨∃ u,u<nn∧∃ y∈JF (st u),y.1=x
theorem OutR.keep {w0 w w':World} {oo nn:Nat} {g:Gr} {p:Nat→Int} {st:Nat→Slo} {sel:Nat→List Nat} {oth:Nat→Prop} (R:OutR w0 w oo nn g p st sel oth) {S:List Nat} (h:Ext S w w') (hS:∀ x∈S,¬ MF oo nn st x):OutR w0 w' oo nn g p st sel oth :=
 ⟨h.to R.tbl fun hm=>hS _ hm (.inl rfl),R.os,fun u hu y hy=>⟨h.to (R.blk u hu y hy).1 fun hm=>hS _ hm (.inr ⟨u,hu,y,hy,rfl⟩),(R.blk u hu y hy).2⟩,R.ne⟩
def stS (st:Nat→Slo) (u:Nat) (s:Slo):Nat→Slo:=fun q=>if q=u then s else st q
theorem G0 (st:Nat→Slo) (u:Nat) (s:Slo):stS st u s u=s:=if_pos rfl
theorem IA {st:Nat→Slo} {u:Nat} {s:Slo} {q:Nat} (h:q≠u):stS st u s q=st q:=if_neg h
theorem OutR.step {w0 w w':World} {oo nn:Nat} {g:Gr} {p:Nat→Int} {st:Nat→Slo} {sel sel':Nat→List Nat} {oth:Nat→Prop} (R:OutR w0 w oo nn g p st sel oth) {u:Nat} (hu:u<nn) {s:Slo} (hoth:∀ x,oth x→x<w.heap.size) (h0:w0.heap.size≤w.heap.size)
  (H:Ctx w ((oo::(JF (st u)).map (·.1))) w' ((oo,Bl 230 (UM nn (stS st u s)))::JF s)) (O:OS s.a s.n s.c 4 s.full ((sel' u).flatMap (FM g p))) (hsel:∀ q,q≠u→sel' q=sel q) :
  OutR w0 w' oo nn g p (stS st u s) sel' oth∧∀ x,MF oo nn (stS st u s) x→MF oo nn st x∨w.heap.size≤x:=by
 have hlt:∀ q,q<nn→∀ y∈JF (st q),y.1<w.heap.size:=fun q hq y hy=>Bt (R.blk q hq y hy).1
 have hoo:=Bt R.tbl
 have hnd:=(List.pairwise_cons.1 H.nd).1
 have hnew:∀ y∈JF s,(∃ z∈JF (st u),z.1=y.1)∨w.heap.size≤y.1:=fun y hy=>by
  rcases H.own y (List.mem_cons_of_mem _ hy) with h | h
  ·rcases List.mem_cons.1 h with h | h
   ·exact absurd h.symm (hnd y hy)
   ·obtain ⟨z,hz,he⟩:=List.mem_map.1 h
    exact .inl ⟨z,hz,he⟩
  ·exact .inr h
 have hout:∀ q,q<nn→q≠u→∀ y∈JF (st q),y.1∉oo::(JF (st u)).map (·.1):=fun q hq hqu y hy hm=>by
  rcases List.mem_cons.1 hm with h | h
  ·exact (R.blk q hq y hy).2.2.2 h
  ·obtain ⟨z,hz,he⟩:=List.mem_map.1 h
   exact R.ne q u hq hu hqu y hy z hz he.symm
 refine ⟨⟨H.get at0,fun q hq=>?_,fun q hq y hy=>?_,fun q v hq hv hqv y hy z hz=>?_⟩,fun x hx=>?_⟩
 ·by_cases e:q=u
  ·subst e; rw [G0]; exact O
  ·rw [IA e,hsel q e]; exact R.os q hq
 ·by_cases e:q=u
  ·subst e
   rw [G0] at hy
   refine ⟨H.blk y (List.mem_cons_of_mem _ hy),?_,?_,fun h=>hnd y hy h.symm⟩
   ·rcases hnew y hy with ⟨z,hz,he⟩ | h
    ·rw [← he]; exact (R.blk q hq z hz).2.1
    ·omega
   ·rcases hnew y hy with ⟨z,hz,he⟩ | h
    ·rw [← he]; exact (R.blk q hq z hz).2.2.1
    ·exact fun ho=>by have:=hoth _ ho; omega
  ·rw [IA e] at hy
   obtain ⟨h1,h2,h3,h4⟩:=R.blk q hq y hy
   exact ⟨H.ext.to h1 (hout q hq e y hy),h2,h3,h4⟩
 ·by_cases e:q=u
  ·subst e
   rw [G0] at hy
   rw [IA (Ne.symm hqv)] at hz
   rcases hnew y hy with ⟨t,ht,he⟩ | h
   ·rw [← he]; exact R.ne q v hq hv hqv t ht z hz
   ·have:=hlt v hv z hz; omega
  ·rw [IA e] at hy
   by_cases e2:v=u
   ·subst e2
    rw [G0] at hz
    rcases hnew z hz with ⟨t,ht,he⟩ | h
    ·rw [← he]; exact R.ne q v hq hv hqv y hy t ht
    ·have:=hlt q hq y hy; omega
   ·rw [IA e2] at hz
    exact R.ne q v hq hv hqv y hy z hz
 ·rcases hx with h | ⟨q,hq,y,hy,rfl⟩
  ·exact .inl (.inl h)
  ·by_cases e:q=u
   ·subst e
    rw [G0] at hy
    rcases hnew y hy with ⟨t,ht,he⟩ | h
    ·exact .inl (.inr ⟨q,hq,t,ht,he⟩)
    ·exact .inr h
   ·rw [IA e] at hy
    exact .inl (.inr ⟨q,hq,y,hy,rfl⟩)
/-- What may be lent of it for one node. -/
theorem OutR.ctx {w0 w:World} {oo nn:Nat} {g:Gr} {p:Nat→Int} {st:Nat→Slo} {sel:Nat→List Nat} {oth:Nat→Prop} (R:OutR w0 w oo nn g p st sel oth) {u:Nat} (hu:u<nn):Ctx w (oo::(JF (st u)).map (·.1)) w ((oo,Bl 230 (UM nn st))::JF (st u)):=by
 refine ⟨.refl _ _,fun x hx=>?_,List.pairwise_cons.2 ⟨fun y hy h=>(R.blk u hu y hy).2.2.2 h.symm,LY⟩,fun x hx => .inl ?_⟩
 ·rcases List.mem_cons.1 hx with rfl | hx
  ·exact R.tbl
  ·exact (R.blk u hu x hx).1
 ·rcases List.mem_cons.1 hx with rfl | hx
  ·exact List.mem_cons_self ..
  ·exact List.mem_cons_of_mem _ (List.mem_map.2 ⟨x,hx,rfl⟩)
def Hn (g:Gr) (l:List Nat) (u:Nat):List Nat:=l.filter fun a=>decide (g.u a=u)
theorem UN {g:Gr} {l:List Nat} {i a:Nat} (h:l[i]? = some a):Hn g (l.take (i+1)) (g.u a)=Hn g (l.take i) (g.u a)++[a]∧∀ q,q≠g.u a→Hn g (l.take (i+1)) q=Hn g (l.take i) q:=by
 unfold Hn
 rw [C5 h]
 refine ⟨by rw [List.filter_append]; congr 1; rw [List.filter_cons,decide_eq_true rfl]; rfl,fun q hq=>?_⟩
 rw [List.filter_append,List.filter_cons,decide_eq_false (Ne.symm hq)]
 simp

end Go.Proofs.YtapphbmlkdhnmaaGreat

/- Plain law of shortest ways: what the labels and the last arcs tell in the end; how long the heap may get. -/
namespace Go.Proofs.YtapphbmlkdhnmaaGreat
open Go.GV

theorem Adl {g:Gr} {cap x p:Nat→Int} {src:List Nat} {n:Nat} {m:Int} {s:Lb} {by':Nat→Int} {all done:Nat→Prop} (D:Done (Lo g cap x p) src n m s) (hA:Ph (Lo g cap x p) n m) (B:BI g p s all done by') (hall:∀ a,all a→a<2*g.E∧0<C6 cap x a) (hdone:∀ a,a<2*g.E→0<C6 cap x a→done a) :
  Bys g cap x p s fun v=>if by' v = -1 then none else some (by' v).toNat:=by
 have hmem:∀ a,a<2*g.E→0<C6 cap x a→(g.u a,g.v a,g.len p a)∈Lo g cap x p:=fun a h1 h2=>I4.2 ⟨a,h1,h2,rfl⟩
 refine ⟨fun v hv=>?_,fun v hd hh=>?_⟩
 ·dsimp only
  by_cases e:by' v = -1
  ·rw [if_pos e]
  ·exfalso
   rcases B.val v with h | ⟨a,_,ha,⟨h1,h2,h3,h4⟩,hva⟩
   ·exact e h
   ·obtain ⟨ha1,ha2⟩:=hall a ha
    have hl:=(hA _ (hmem a ha1 ha2)).2.2.1
    dsimp only at hl
    rw [hva] at h2 h3
    rcases hv with hv | hv
    ·have:=D.J.low (g.u a)
     omega
    ·exact h2 hv
 ·obtain ⟨b,hb,hbv,hb1,hb2,hb3⟩:=D.pre v hd hh
  obtain ⟨a,ha1,ha2,rfl⟩:=I4.1 hb
  dsimp only at hbv hb1 hb2 hb3
  have hg:Kh g p s a:=⟨hb1,by rw [hbv]; exact hh,by rw [hbv]; exact hb2,by rw [hbv]; exact hb3⟩
  have hne:=B.in' a (hdone a ha1 ha2) hg
  rw [hbv] at hne
  rcases B.val v with h | ⟨a',hby,ha',⟨h1,h2,h3,h4⟩,hva⟩
  ·exact absurd h hne
  ·obtain ⟨q1,q2⟩:=hall a' ha'
   refine ⟨a',by dsimp only; rw [if_neg hne,hby]; rfl,⟨q1,q2,h1,by rw [hva]; exact hd,h3,h4⟩,hva⟩
theorem UO {n:Nat} {A:List Ar} {src:List Nat} {d:Int} (hd:0≤d) (hA:∀ v,v<n→Hm A v≤d):psi n A (-1) (lb0 src) (HR src)≤src.length+n*(d*(n+1)):=by
 have hg:∀ v,gv n (-1) (lb0 src) (HR src) v=(n:Int)+1:=fun v=>by
  unfold gv
  rw [if_neg]
  rintro ⟨h1,h2⟩
  unfold lb0 at h1 h2
  dsimp only at h1 h2
  split at h1 <;> split at h2 <;> omega
 have h1:=I2 (f:=fun v=>Hm A v*gv n (-1) (lb0 src) (HR src) v) (g:=fun _=>d*((n:Int)+1)) (k:=n) fun i hi=>by
  rw [hg]; exact Int.mul_le_mul_of_nonneg_right (hA i hi) (by omega)
 have h2:∀ (c:Int) (k:Nat),Bx (fun _=>c) k=k*c:=fun c k=>by
  induction k with
  | zero=>show (0:Int)=((0:Nat):Int)*c; rw [show ((0:Nat):Int)=0 from rfl,Int.zero_mul]
  | succ k ih =>
   show Bx (fun _=>c) k+c=_
   rw [ih,Int.natCast_add,Int.add_mul]; simp
 rw [h2] at h1
 unfold psi HR
 rw [List.length_map]
 have h3:Bx (fun v=>Hm A v*gv n (-1) (lb0 src) (List.map (fun v=>((0:Int),v)) src) v) n≤(n:Int)*(d*((n:Int)+1)):=h1
 omega

theorem TJ {A:List Ar} {src:List Nat} {n:Nat} {m D:Int} {u:Nat} (hA:Ph A n m) (hm:0≤m) (hn:n≤60) (hD:0≤D):∀ (l dn:List Ar) (s:Lb) (hp:List Tg),DJ A src n m s→Clo A s hp u dn→(∀ a∈l,a∈A∧a.1=u)→s.d u=D→PI n D s hp →
  DJ A src n m (l.foldl HQ (s,hp)).1∧Clo A (l.foldl HQ (s,hp)).1 (l.foldl HQ (s,hp)).2 u (dn++l)∧(l.foldl HQ (s,hp)).1.d u=D∧PI n D (l.foldl HQ (s,hp)).1 (l.foldl HQ (s,hp)).2∧psi n A D (l.foldl HQ (s,hp)).1 (l.foldl HQ (s,hp)).2≤psi n A D s hp+l.length
 | [],dn,s,hp,J,K,_,hu,P=>⟨J,by simpa using K,hu,P,by simp⟩
 | a::l,dn,s,hp,J,K,hl,hu,P=>by
  obtain ⟨ha,hau⟩:=hl a (List.mem_cons_self ..)
  obtain ⟨J1,K1,h1,h2,-⟩:=DJ.relax hA hm hn J K ha hau (by rw [hu]; omega)
  obtain ⟨P1,h3⟩:=P.relax (A:=A) (a:=a) (by rw [hau]; exact hu) hD (hA a ha).2.2.1 J.low fun h=>J1.hops h
  obtain ⟨r1,r2,r3,r4,r5⟩:=TJ hA hm hn hD l (dn++[a]) (FJ s a) (GQ s a hp) J1 K1 (fun b hb=>hl b (List.mem_cons_of_mem _ hb)) (by rw [h1]; exact hu) P1
  rw [List.append_assoc] at r2
  refine ⟨r1,r2,r3,r4,?_⟩
  rw [List.length_cons,List.foldl_cons]
  have h4:HQ (s,hp) a=(FJ s a,GQ s a hp):=rfl
  rw [h4]
  omega

end Go.Proofs.YtapphbmlkdhnmaaGreat

/- Plain law of shortest ways: the main loop's invariant; numbers that fit. -/
namespace Go.Proofs.YtapphbmlkdhnmaaGreat
open Go.GV

/-- What holds between two rounds. -/
structure MI (A:List Ar) (src:List Nat) (n:Nat) (m D:Int) (s:Lb) (hp:List Tg):Prop where
 dj:DJ A src n m s
 clo:Clo A s hp 0 A
 pi:PI n D s hp
theorem Clo.any {A:List Ar} {s:Lb} {hp:List Tg} {u:Nat} (K:Clo A s hp u A) (v:Nat):Clo A s hp v A:=fun x hx=>(K x hx).imp id fun h a ha hax _=>h a ha hax fun _=>ha
theorem Clo.perm {A:List Ar} {s:Lb} {hp hq:List Tg} {u:Nat} {dn:List Ar} (K:Clo A s hp u dn) (h:hp.Perm hq):Clo A s hq u dn:=fun x hx=>(K x hx).imp (fun h'=>h.mem_iff.1 h') id
theorem MI.perm {A:List Ar} {src:List Nat} {n:Nat} {m D:Int} {s:Lb} {hp hq:List Tg} (M:MI A src n m D s hp) (h:hp.Perm hq):MI A src n m D s hq:=⟨M.dj,M.clo.perm h,M.pi.perm h⟩
theorem MI.start {A:List Ar} {src:List Nat} {n:Nat} {m:Int} (hs:∀ v∈src,v<n) (hnd:src.Nodup):MI A src n m (-1) (lb0 src) (HR src):=by
 refine ⟨DJ.start hs,fun v hv=>?_,fun t ht=>?_,fun t ht=>?_,fun v hv=>?_⟩
 ·have hm:v∈src:=by
   rcases Decidable.em (v∈src) with h | h
   ·exact h
   ·exact absurd (if_neg h) hv
  have:(lb0 src).d v=0:=if_pos hm
  rw [this]
  exact .inl (List.mem_map.2 ⟨v,hm,rfl⟩)
 ·obtain ⟨v,_,rfl⟩:=List.mem_map.1 ht
  show (-1:Int)≤0
  omega
 ·obtain ⟨v,hv,rfl⟩:=List.mem_map.1 ht
  have:(lb0 src).d v=0:=if_pos hv
  dsimp only
  rw [this]
  omega
 ·have hm:v∈src:=by
   rcases Decidable.em (v∈src) with h | h
   ·exact h
   ·exact absurd (if_neg h) hv
  have h1:(HR src).Nodup:=List.Pairwise.map _ (fun a b h e=>h (Prod.mk.inj e).2) hnd
  have h2:=List.nodup_iff_count.1 h1 ((lb0 src).d v,v)
  have h3:=hs v hm
  show _+0≤n
  omega
section
variable {A:List Ar} {src:List Nat} {n:Nat} {m D:Int} {s:Lb} {hp:List Tg} {t:Tg}
theorem MI.lt (hA:Ph A n m) (M:MI A src n m D s hp) {v:Nat} (hv:s.d v ≠ -1):v<n:=by
 by_cases h:s.h v=0
 ·exact (M.dj.src' v (M.dj.zero v hv h)).1
 ·obtain ⟨a,ha,h1,_⟩:=M.dj.pre v hv h
  rw [← h1]
  exact (hA a ha).2.1
theorem MI.top (hA:Ph A n m) (M:MI A src n m D s (t::hp)):t.2<n:=M.lt hA (M.pi.item t (List.mem_cons_self ..)).1
theorem MI.drop (hA:Ph A n m) (M:MI A src n m D s (t::hp)) (hmin:∀ x∈hp,t.1≤x.1) (hne:t.1≠s.d t.2):MI A src n m t.1 s hp∧psi n A t.1 s hp+1≤psi n A D s (t::hp):=by
 obtain ⟨P1,h1,-⟩:=M.pi.pop (A:=A) hmin (M.top hA)
 refine ⟨⟨M.dj,fun v hv=>(M.clo v hv).imp (fun h=>?_) id,P1⟩,h1⟩
 rcases List.mem_cons.1 h with h | h
 ·exact absurd (by rw [← h]) hne
 ·exact h
theorem MI.key0 (M:MI A src n m D s (t::hp)) (he:t.1=s.d t.2):0≤t.1:=by
 have h1:=(M.pi.item t (List.mem_cons_self ..)).1
 have:=M.dj.low t.2
 omega
theorem MI.go (hA:Ph A n m) (hm:0≤m) (hn:n≤60) (M:MI A src n m D s (t::hp)) (hmin:∀ x∈hp,t.1≤x.1) (he:t.1=s.d t.2) {l l1:List Ar} (hl:A.filter (fun a=>decide (a.1=t.2))=l++l1) :
  DJ A src n m (l.foldl HQ (s,hp)).1∧(l1=[]→MI A src n m t.1 (l.foldl HQ (s,hp)).1 (l.foldl HQ (s,hp)).2∧psi n A t.1 (l.foldl HQ (s,hp)).1 (l.foldl HQ (s,hp)).2+1≤psi n A D s (t::hp)):=by
 obtain ⟨P1,-,h1⟩:=M.pi.pop (A:=A) hmin (M.top hA)
 have hla:∀ a∈l,a∈A∧a.1=t.2:=fun a ha=>by
  have h2:a∈A.filter (fun a=>decide (a.1=t.2)):=by rw [hl]; exact List.mem_append_left _ ha
  obtain ⟨h3,h4⟩:=List.mem_filter.1 h2
  exact ⟨h3,of_decide_eq_true h4⟩
 have K0:Clo A s hp t.2 []:=fun v hv=>by
  by_cases e:v=t.2
  ·exact .inr fun a _ hav hd=>by cases hd e
  ·refine (M.clo v hv).imp (fun h=>?_) fun h a ha hav _=>h a ha hav fun _=>ha
   rcases List.mem_cons.1 h with h | h
   ·exact absurd (by rw [← h]) e
   ·exact h
 obtain ⟨r1,r2,r3,r4,r5⟩:=TJ hA hm hn (M.key0 he) l [] s hp M.dj K0 hla he.symm P1
 refine ⟨r1,fun hl1=>?_⟩
 rw [hl1,List.append_nil] at hl
 have KK:Clo A (l.foldl HQ (s,hp)).1 (l.foldl HQ (s,hp)).2 t.2 A:=fun v hv=>(r2 v hv).imp id fun h a ha hav hd=>h a ha hav fun e=>by
  rw [List.nil_append,← hl]
  exact List.mem_filter.2 ⟨ha,decide_eq_true (hav.trans e)⟩
 refine ⟨⟨r1,KK.any 0,r4⟩,?_⟩
 have h2:=h1 he
 have h3:Hm A t.2=(l.length:Nat):=by unfold Hm; rw [hl]
 omega
theorem MI.ends (M:MI A src n m D s []):Done A src n m s:=M.dj.ends M.clo
end
theorem Xg (g:Gr) (cap x p:Nat→Int):Lo g cap x p=(Eb cap x g.E).map (HO g p):=rfl
theorem Q4 (g:Gr) (cap x p:Nat→Int) (u:Nat):(Lo g cap x p).filter (fun a=>decide (a.1=u))=(Hn g (Eb cap x g.E) u).map (HO g p):=by
 rw [Xg,List.filter_map]; rfl

/-- Numbers that fit, as the program asks for them. -/
theorem Pn {N:Int} {es:List Ed} {fl pot:List Int} (h:GD N es fl pot=true):Fine (grE N es) (Cl es) (flE fl) (Ez pot):=by
 unfold GD at h
 simp only [Bool.and_eq_true] at h
 obtain ⟨hw,_,ha⟩:=h
 obtain ⟨h1,_,h2⟩:=BE hw
 refine ⟨fun i hi=>?_,fun a ha' hr=>?_⟩
 ·obtain ⟨e,he⟩:=AC (l:=es) (i:=i) hi
  obtain ⟨x,hx⟩:=AC (l:=fl) (i:=i) (by rw [h1]; exact hi)
  have:=h2 i e x he hx
  unfold flE Cl
  rw [Bn he,Bn hx]
  exact this
 ·have:=List.all_eq_true.1 ha a (List.mem_filter.2 ⟨List.mem_range.2 ha',decide_eq_true hr⟩)
  exact of_decide_eq_true this
theorem Po {N:Int} {es:List Ed} {fl pot:List Int} (hw:B1 N es fl=true) (hp:E3 N pot=true) (h:Fine (grE N es) (Cl es) (flE fl) (Ez pot)):GD N es fl pot=true:=by
 unfold GD
 rw [hw,hp,Bool.true_and,Bool.true_and]
 refine List.all_eq_true.2 fun a ha=>?_
 obtain ⟨h1,h2⟩:=List.mem_filter.1 ha
 exact decide_eq_true (h.fit a (List.mem_range.1 h1) (of_decide_eq_true h2))
theorem Zk {N:Int} {es:List Ed} {pot:List Int} (hr:BV N es=true) {B:Int} (hB:∀ v,-B≤Ez pot v∧Ez pot v≤B) (a:Nat):(grE N es).len (Ez pot) a≤1000+2*B ∧ -(1000+2*B)≤(grE N es).len (Ez pot) a:=by
 have h1 : -1000≤(grE N es).c a∧(grE N es).c a≤1000:=by
  have h2 : -1000≤(grE N es).co (a / 2)∧(grE N es).co (a / 2)≤1000:=by
   show -1000≤(es.getD (a / 2) e0).cost∧(es.getD (a / 2) e0).cost≤1000
   rcases Nat.lt_or_ge (a / 2) es.length with h | h
   ·obtain ⟨e,he⟩:=AC (l:=es) h
    have:=CN ((BR hr).2.2.2.1 e (List.mem_of_getElem? he))
    rw [Bn he]
    omega
   ·rw [List.getD_eq_getElem?_getD,List.getElem?_eq_none h]
    exact ⟨by decide,by decide⟩
  unfold Gr.c
  split
  ·exact h2
  ·omega
 have h3:=hB ((grE N es).u a)
 have h4:=hB ((grE N es).v a)
 unfold Gr.len
 omega
theorem Zl {N:Int} {pot:List Int} (hp:E3 N pot=true) (v:Nat) : -1099511627776≤Ez pot v∧Ez pot v≤1099511627776:=by
 unfold Ez
 rcases Nat.lt_or_ge v pot.length with h | h
 ·obtain ⟨x,hx⟩:=AC (l:=pot) h
  rw [Bn hx]
  exact (JE hp).2 v x hx
 ·rw [List.getD_eq_getElem?_getD,List.getElem?_eq_none h]
  exact ⟨by decide,by decide⟩
theorem DJ.dist {A:List Ar} {src:List Nat} {n:Nat} {m:Int} {s:Lb} (J:DJ A src n m s) (hm:0≤m) (hn:n≤60) (v:Nat) : -1≤s.d v∧s.d v≤60*m∧s.h v≤60:=by
 by_cases h:s.d v = -1
 ·have h1:=J.none' v h
  have:0≤60*m:=by omega
  omega
 ·have h1:=J.hops h
  have h2:=J.bnd v h
  have h3:=J.low v
  have h4:(s.h v:Int)*m≤60*m:=Int.mul_le_mul_of_nonneg_right (by omega) hm
  omega

end Go.Proofs.YtapphbmlkdhnmaaGreat

/- The solver: where there is over, what is nearest, numbers raised: the walks. -/
namespace Go.Proofs.YtapphbmlkdhnmaaGreat
open Go.GV
attribute [local irreducible] A2 W Wq Wt

abbrev SC (N:Nat) (ae:Option Addr) (n ce bf bp bo:Nat) (k:Int):List Value:=[.int .i64 (N:Int),.slice ae n ce,.slice (some ⟨bf,0,none⟩) n n,.slice (some ⟨bp,0,none⟩) N N,.slice (some ⟨bo,0,none⟩) N N,.int .i64 k]
def G7 (ov:Nat→Int) (N:Nat):List Nat:=(List.range N).filter fun v=>decide (0<ov v)
theorem NO (ov:Nat→Int) (i:Nat):G7 ov (i+1)=G7 ov i++if 0<ov i then [i] else []:=by
 unfold G7
 rw [List.range_succ,List.filter_append]
 congr 1
 by_cases h:0<ov i <;> simp [h]
theorem Xh (ov:Nat→Int) (i:Nat):(G7 ov i).length≤i:=by
 have:=List.length_filter_le (fun v=>decide (0<ov v)) (List.range i)
 rw [List.length_range] at this
 exact this
abbrev iN (v:Nat):Value := .int .i64 (v:Int)
structure LSt where
 i:Nat
 a:Option Addr
 c:Nat
 full:List Value

section
variable {w:World} {bs:Nat} {N:Nat} {ae:Option Addr} {n ce bf bp bo:Nat} {k:Int} {ov:Nat→Int}

set_option maxRecDepth 20000 in
theorem Sz (hs:w.heap[bs]? = some (Bl 170 (SC N ae n ce bf bp bo k))) (ho:w.heap[bo]? = some (Bl 2 (B4 ov N))) (hN:N≤1000000) :
  Ret Tryz.prog 166 #[ptr bs] w fun v w'=>Fresh w w' 3 1 v ((G7 ov N).map iN):=by
 obtain ⟨w0,rfl⟩:∃ w0,w0=w:=⟨_,rfl⟩
 have H:=Ctx.start w0 []
 have R:=Ct ho
 refine A1 (fn:=Tryz.f166) Tryz.func166 rfl [.pointer (some ⟨bs,0,none⟩)] rfl (by kernel_rfl) ?_
 refine Ag (AJ rfl rfl (Ab (Aa (Ag (AJ rfl rfl (Ab (Aa (Aq (Ag (Bj rfl rfl (Bc rfl rfl ?_)))))))))))
 refine Ah rfl FG rfl (AX rfl BF rfl ((by rw [Ay hs]; rfl)) ?_)
 refine AU rfl AR rfl (Ad rfl rfl (Ab (Aa (Au (Bi 8386616 (α:=LSt) (fun t=>[(11,.int .i64 (t.i:Int)),(3,.slice t.a (G7 ov t.i).length t.c)]) (fun t w'=>t.i≤N∧OS t.a (G7 ov t.i).length t.c 1 t.full ((G7 ov t.i).map iN)∧Ctx w0 [] w' (ent t.a 3 t.full)) (fun t=>N - t.i) ⟨0,none,0,[]⟩ rfl ?_ ?_ ?_)))))
 ·exact ⟨rfl,rfl,trivial⟩
 ·exact ⟨Nat.zero_le _,OS.nil,H⟩
 ·rintro ⟨i,a,c,full⟩ j w ⟨hi,O,H⟩; dsimp only at hi O H; dsimp only
  have hpl:=Xh ov i
  refine Ag (AN rfl rfl rfl (Ab (Aa (Aq (Ax _ rfl ?_ ?_)))))
  ·intro h1
   replace h1:=AF h1
   have hgd:(tab ov N)[i]? = some (ov i):=BM (by omega)
   refine Av (Aa (Aq (Au (Ag (Ad rfl rfl (Bb rfl AR B2 rfl rfl (by omega) (by omega) ?_))))))
   refine AX rfl Bw rfl (((R.ext0 H.ext).fld hgd rfl (j:=0) rfl)) ?_
   refine Af rfl rfl (Af rfl rfl (Ab (Aa (Ag (Ad rfl rfl (C0 rfl rfl rfl (Ab (Aa (Ax _ rfl ?_ ?_)))))))))
   ·intro h2
    replace h2:=AF h2
    have hps:G7 ov (i+1)=G7 ov i++[i]:=by rw [NO,if_pos h2]
    refine Aw (An rfl rfl (Ad rfl rfl (DC _ (.int _ _) rfl DB EJ Qv rfl (by decide) (by decide) rfl rfl rfl H ?_)))
    rintro b20 w - H
    refine DM (L:=[]) rfl DB DB EJ by_3 Qv rfl (by decide) rfl rfl H O rfl (by simp [Bz]) (by omega) ?_
    rintro a' c' full' w H O
    refine AJ rfl rfl (Ab (A5 (Aa (Aw (Ap rfl rfl rfl (by omega) (by omega) ?_)))))
    refine Ad rfl rfl (Ab (Aa ?_))
    exact ⟨⟨i+1,a',c',full'⟩,rfl,⟨rfl,by dsimp only; rw [hps,List.length_append]; rfl,trivial⟩,⟨by dsimp only; omega,by dsimp only; rw [hps,List.length_append,List.map_append]; exact O,H⟩,by dsimp only; omega⟩
   ·intro h2
    replace h2:=AG h2
    have hps:G7 ov (i+1)=G7 ov i:=by rw [NO,if_neg (by omega),List.append_nil]
    refine Av (A5 (Aa (Aw (Ap rfl rfl rfl (by omega) (by omega) ?_))))
    refine Ad rfl rfl (Ab (Aa ?_))
    exact ⟨⟨i+1,a,c,full⟩,rfl,⟨rfl,by dsimp only; rw [hps]; rfl,trivial⟩,⟨by dsimp only; omega,by dsimp only; rw [hps]; exact O,H⟩,by dsimp only; omega⟩
  ·intro h1
   replace h1:=AG h1
   refine Bd (Aj (Aj (AD (Aa (Ag (An rfl rfl (AJ rfl rfl (Ab (Aa (A9 (AB (v:=(.slice _ _ _)) rfl rfl rfl ?_)))))))))))
   obtain rfl:i=N:=by omega
   exact Ctx.fresh (L:=[]) H O

set_option maxRecDepth 20000 in
theorem S1 {od:Nat} {d:Nat→Int} (hs:w.heap[bs]? = some (Bl 170 (SC N ae n ce bf bp bo k))) (ho:w.heap[bo]? = some (Bl 2 (B4 ov N))) (hd:w.heap[od]? = some (Bl 2 (B4 d N))) (hN:N≤1000000) :
  Ret Tryz.prog 168 #[ptr bs,.slice (some ⟨od,0,none⟩) N N] w fun v w'=>(∃ to:Int,v = .int .i64 to∧((to = -1∧∀ u,u<N→¬ (ov u<0∧0≤d u))∨∃ x:Nat,x<N∧to=x∧ov x<0∧0≤d x))∧w=w':=by
 obtain ⟨w0,rfl⟩:∃ w0,w0=w:=⟨_,rfl⟩
 have RO:=Ct ho
 have RD:=Ct hd
 refine A1 (fn:=Tryz.f168) Tryz.func168 rfl [.pointer (some ⟨bs,0,none⟩),.slice (some ⟨od,0,none⟩) N N] rfl (by kernel_rfl) ?_
 refine Ag (Af rfl rfl (Ab (Aa (Ag (Af rfl rfl (Ab (Aa (Aq (Ag (An rfl rfl (AU rfl AR rfl ?_)))))))))))
 refine Ad rfl rfl (Ab (Aa (Au (Bi 2199023254752 (α:=Nat × Int) (fun t=>[(10,.int .i64 (t.1:Int)),(5,.int .i64 t.2)]) (fun t w'=>w0=w'∧t.1≤N∧((t.2 = -1∧∀ u,u<t.1→¬ (ov u<0∧0≤d u))∨∃ x:Nat,x<N∧t.2=x∧ov x<0∧0≤d x)) (fun t=>N - t.1) (0,-1) rfl ?_ ?_ ?_))))
 ·exact ⟨rfl,rfl,trivial⟩
 ·exact ⟨rfl,Nat.zero_le _,.inl ⟨rfl,fun u h=>absurd h (Nat.not_lt_zero _)⟩⟩
 ·rintro ⟨i,to⟩ j w ⟨rfl,hi,hto⟩; dsimp only at hi hto; dsimp only
  refine Ag (AN rfl rfl rfl (Ab (Aa (Aq (Ax _ rfl ?_ ?_)))))
  ·intro h1
   replace h1:=AF h1
   have hgd:(tab d N)[i]? = some (d i):=BM (by omega)
   have hgo:(tab ov N)[i]? = some (ov i):=BM (by omega)
   have htd:=Db d N
   obtain ⟨dx,hdx⟩:∃ dx:Int,0≤to→∃ x:Nat,x<N∧to=x∧(tab d N)[x]? = some dx:=by
    rcases hto with ⟨h,_⟩ | ⟨x,hx,h,_⟩
    ·exact ⟨0,fun h7=>by omega⟩
    ·exact ⟨d x,fun _=>⟨x,hx,h,BM hx⟩⟩
   refine Av (Aa (Aq (Au (Ag (Ad rfl rfl (AZ RD rfl AR B2 rfl rfl (by omega) (by omega) (by omega) ?_))))))
   refine AX rfl Bw rfl ((RD.fld hgd rfl (j:=0) rfl)) ?_
   refine Af rfl rfl (Af rfl rfl (Ab (Aa (Ag (B5 (α:=Unit) 549755781120 (fun _=>[(38,.bool (decide ((ov i<0∧0≤d i)∧(to<0∨d i<dx))))]) (fun _ w'=>w'=w0) rfl ?_ ?_)))))
   ·refine Bj rfl rfl (Bc rfl rfl (Ah rfl FG rfl (AX rfl BF rfl ((by rw [Ay hs]; rfl)) ?_)))
    refine Ad rfl rfl (Bb rfl AR B2 rfl rfl (by omega) (by omega) ?_)
    refine AX rfl Bw rfl ((RO.fld hgo rfl (j:=0) rfl)) ?_
    refine AN rfl rfl rfl (Ak rfl rfl (A8 23 rfl ?_ ?_))
    ·intro h1
     replace h1:=AF h1
     refine Ad rfl rfl (CD rfl rfl rfl (Am rfl rfl (.bool _) rfl (Ak rfl rfl (A8 27 rfl ?_ ?_))))
     ·intro h2
      replace h2:=AF h2
      refine Ad rfl rfl (AN rfl rfl rfl (Ak rfl rfl (A8 30 rfl ?_ ?_)))
      ·intro h3
       replace h3:=AF h3
       refine Ae rfl (Ae rfl (Ae rfl (Ae rfl (Ae rfl (Ae rfl (Am rfl rfl (.bool _) rfl (Am rfl rfl (.bool _) rfl (Ab ?_))))))))
       exact ⟨rfl,(),rfl,⟨congrArg Value.bool (by clear hgd hgo; rw [Bool.eq_iff_iff]; simp_all; try omega),trivial⟩,rfl⟩
      ·intro h4
       replace h4:=AG h4
       refine Ad rfl rfl (An rfl rfl (Ad rfl rfl ?_))
       obtain ⟨x,hx,rfl,hgx⟩:=hdx (by omega)
       refine AZ RD rfl AR B2 rfl rfl (by omega) (by omega) (by omega) ?_
       refine AX rfl Bw rfl (RD.fld hgx rfl (j:=0) rfl) ?_
       refine AN rfl rfl rfl (A3 rfl rfl (.bool _) rfl (Am rfl rfl (.bool _) rfl (Ab ?_)))
       exact ⟨rfl,(),rfl,⟨congrArg Value.bool (by clear hgd hgo; rw [Bool.eq_iff_iff]; simp_all; try omega),trivial⟩,rfl⟩
     ·intro h5
      replace h5:=AG h5
      refine Ae rfl (Ae rfl (Ae rfl (Ae rfl (Ae rfl (Ae rfl (Ae rfl (Ae rfl (Ae rfl (Ae rfl ?_)))))))))
      refine A3 rfl rfl (.bool _) rfl (Ab ?_)
      exact ⟨rfl,(),rfl,⟨congrArg Value.bool (by clear hgd hgo; rw [Bool.eq_iff_iff]; simp_all; try omega),trivial⟩,rfl⟩
    ·intro h6
     replace h6:=AG h6
     refine Ae rfl (Ae rfl (A3 rfl rfl (.bool _) rfl (Ak rfl rfl (Ae rfl (Ae rfl (Ae rfl (Ae rfl (Ae rfl (Ae rfl ?_)))))))))
     refine Ae rfl (Ae rfl (Ae rfl (Ae rfl (A3 rfl rfl (.bool _) rfl (Ab ?_)))))
     exact ⟨rfl,(),rfl,⟨congrArg Value.bool (by clear hgd hgo; rw [Bool.eq_iff_iff]; simp_all; try omega),trivial⟩,rfl⟩
   rintro - j38 w hw
   subst hw
   refine Ax _ rfl ?_ ?_
   ·intro h2
    have h2:=of_decide_eq_true h2
    refine Aw (Ad rfl rfl (Af rfl rfl (Ab (A5 (Aa (Aw (Ap rfl rfl rfl (by omega) (by omega) ?_)))))))
    refine Ad rfl rfl (Ab (Aa ?_))
    exact ⟨(i+1,(i:Int)),rfl,⟨rfl,rfl,trivial⟩,⟨rfl,by dsimp only; omega,.inr ⟨i,by omega,rfl,h2.1⟩⟩,by dsimp only; omega⟩
   ·intro h2
    have h2:=of_decide_eq_false h2
    refine Av (A5 (Aa (Aw (Ap rfl rfl rfl (by omega) (by omega) ?_))))
    refine Ad rfl rfl (Ab (Aa ?_))
    refine ⟨(i+1,to),rfl,⟨rfl,rfl,trivial⟩,⟨rfl,by dsimp only; omega,?_⟩,by dsimp only; omega⟩
    rcases hto with ⟨h,h7⟩ | h
    ·refine .inl ⟨h,fun u hu hh=>?_⟩
     dsimp only at hu
     by_cases e:u=i
     ·subst e; exact h2 ⟨hh,.inl (by omega)⟩
     ·exact h7 u (by omega) hh
    ·exact .inr h
  ·intro h1
   replace h1:=AG h1
   refine Bd (Aj (Aj (AD (Aa (Ag (Ad rfl rfl (Af rfl rfl (Ab (Aa (A9 (AB (v:=(.int _ _)) rfl rfl rfl ?_)))))))))))
   obtain rfl:i=N:=by omega
   exact ⟨⟨to,rfl,hto⟩,rfl⟩

def MG (d:Nat→Int) (D:Int) (v:Nat):Int:=if d v<0∨D<d v then D else d v
def G1 (p d:Nat→Int) (D:Int) (i v:Nat):Int:=if v<i then p v+MG d D v else p v

set_option maxRecDepth 20000 in
theorem Xi {od:Nat} {d p:Nat→Int} {D:Int} (hs:w.heap[bs]? = some (Bl 170 (SC N ae n ce bf bp bo k))) (hp:w.heap[bp]? = some (Bl 2 (B4 p N))) (hd:w.heap[od]? = some (Bl 2 (B4 d N))) (n1:bs≠bp) (n2:od≠bp) (hN:N≤1000000)
  (hD:0≤D∧D≤1152921504606846976) (hpb:∀ v,-1152921504606846976≤p v∧p v≤1152921504606846976) :
  Ret Tryz.prog 171 #[ptr bs,.slice (some ⟨od,0,none⟩) N N,.int .i64 D] w fun v w'=>v = .tuple #[]∧Ctx w [bp] w' [(bp,Bl 2 (B4 (fun v=>p v+MG d D v) N))]:=by
 obtain ⟨w0,rfl⟩:∃ w0,w0=w:=⟨_,rfl⟩
 have H:=Ctx.start1 hp
 have n1':bs∉[bp]:=by rw [List.mem_singleton]; exact n1
 have n2':od∉[bp]:=by rw [List.mem_singleton]; exact n2
 have RD:=Ct hd
 refine A1 (fn:=Tryz.f171) Tryz.func171 rfl [.pointer (some ⟨bs,0,none⟩),.slice (some ⟨od,0,none⟩) N N,.int .i64 D] rfl (by kernel_rfl) ?_
 refine Ag (An rfl rfl (AU rfl AR rfl (Ad rfl rfl (Ab (Aa (Au ?_))))))
 have h0:B4 p N=B4 (G1 p d D 0) N:=List.map_congr_left fun v _=>by unfold G1; rw [if_neg (Nat.not_lt_zero _)]
 rw [h0] at H
 refine Bi 17179868352 (α:=Nat) (fun i=>[(10,.int .i64 (i:Int))]) (fun i w'=>i≤N∧Ctx w0 [bp] w' [(bp,Bl 2 (B4 (G1 p d D i) N))]) (fun i=>N - i) 0 rfl ?_ ?_ ?_
 ·exact ⟨rfl,trivial⟩
 ·exact ⟨Nat.zero_le _,H⟩
 ·rintro i j w ⟨hi,H⟩
  refine Ag (AN rfl rfl rfl (Ab (Aa (Aq (Ax _ rfl ?_ ?_)))))
  ·intro h1
   replace h1:=AF h1
   have hgd:(tab d N)[i]? = some (d i):=BM (by omega)
   have hgp:(tab (G1 p d D i) N)[i]? = some (p i):=by rw [BM (by omega)]; unfold G1; rw [if_neg (Nat.lt_irrefl _)]
   have hbi:=hpb i
   have hsucc:∀ r,r=MG d D i→Value.int .i64 (p i+r)=Value.int .i64 (G1 p d D (i+1) i):=fun r hr=>by unfold G1; rw [if_pos (by omega),hr]
   have hoth:∀ q,q≠i→Value.int .i64 (G1 p d D (i+1) q)=Value.int .i64 (G1 p d D i q):=fun q hq=>by
    unfold G1
    by_cases h:q<i
    ·rw [if_pos h,if_pos (by omega)]
    ·rw [if_neg h,if_neg (by omega)]
   refine Av (Aa (Aq (Au (Ag (Ad rfl rfl (Bb rfl AR B2 rfl rfl (by omega) (by omega) ?_))))))
   refine AX rfl Bw rfl (((RD.ext H.ext n2').fld hgd rfl (j:=0) rfl)) ?_
   refine Af rfl rfl (Af rfl rfl (Ab (Aa (Aq (Ag (Ad rfl rfl (AN rfl rfl rfl (Ak rfl rfl (A8 17 rfl ?_ ?_)))))))))
   ·intro h1
    replace h1:=AF h1
    refine Ae rfl (Ae rfl (Ae rfl (Am rfl rfl (.bool _) rfl (Ab (Aa (CM rfl (Aw (Ad rfl rfl (Af rfl rfl (Ab (Aa ?_)))))))))))
    refine Aw (Bj rfl rfl (Bc rfl rfl (Ah rfl Eu rfl (AX rfl BF rfl ((by rw [Ay (H.ext.to hs n1')]; rfl)) ?_))))
    refine Ad rfl rfl (Bb rfl AR B2 rfl rfl (by omega) (by omega) ?_)
    refine AX rfl Bw rfl (((Ct (H.get at0)).fld hgp rfl (j:=0) rfl)) ?_
    refine Ad rfl rfl (Ap rfl rfl rfl (by omega) (by omega) ?_)
    refine Bb rfl AR B2 rfl rfl (by omega) (by omega) ?_
    refine BP i (fun q => .int .i64 (G1 p d D (i+1) q)) (.int _ _) rfl B2 rfl rfl rfl H at0 (by simp) (by omega) (hsucc _ (by unfold MG; (rw [if_pos (by omega)]; done))).symm (fun q _ hq=>hoth q hq) ?_
    rintro w H
    refine Ab (A5 (Aa (Aw (Ap rfl rfl rfl (by omega) (by omega) ?_))))
    refine Ad rfl rfl (Ab (Aa ?_))
    exact ⟨i+1,rfl,⟨rfl,trivial⟩,⟨by omega,H⟩,by omega⟩
   ·intro h2
    replace h2:=AG h2
    refine Ad rfl rfl (Ad rfl rfl (C0 rfl rfl rfl (A3 rfl rfl (.bool _) rfl (Ab (Aa (Ax _ rfl ?_ ?_))))))
    ·intro h3
     replace h3:=AF h3
     refine Aw (Ad rfl rfl (Af rfl rfl (Ab (Aa (Aw (Bj rfl rfl (Bc rfl rfl (Ah rfl Eu rfl (AX rfl BF rfl ((by rw [Ay (H.ext.to hs n1')]; rfl)) ?_)))))))))
     refine Ad rfl rfl (Bb rfl AR B2 rfl rfl (by omega) (by omega) ?_)
     refine AX rfl Bw rfl (((Ct (H.get at0)).fld hgp rfl (j:=0) rfl)) ?_
     refine Ad rfl rfl (Ap rfl rfl rfl (by omega) (by omega) ?_)
     refine Bb rfl AR B2 rfl rfl (by omega) (by omega) ?_
     refine BP i (fun q => .int .i64 (G1 p d D (i+1) q)) (.int _ _) rfl B2 rfl rfl rfl H at0 (by simp) (by omega) (hsucc _ (by unfold MG; (rw [if_pos (by omega)]; done))).symm (fun q _ hq=>hoth q hq) ?_
     rintro w H
     refine Ab (A5 (Aa (Aw (Ap rfl rfl rfl (by omega) (by omega) ?_))))
     refine Ad rfl rfl (Ab (Aa ?_))
     exact ⟨i+1,rfl,⟨rfl,trivial⟩,⟨by omega,H⟩,by omega⟩
    ·intro h4
     replace h4:=AG h4
     refine Av (Aa (Aw (Bj rfl rfl (Bc rfl rfl (Ah rfl Eu rfl (AX rfl BF rfl ((by rw [Ay (H.ext.to hs n1')]; rfl)) ?_))))))
     refine Ad rfl rfl (Bb rfl AR B2 rfl rfl (by omega) (by omega) ?_)
     refine AX rfl Bw rfl (((Ct (H.get at0)).fld hgp rfl (j:=0) rfl)) ?_
     refine Ad rfl rfl (Ap rfl rfl rfl (by omega) (by omega) ?_)
     refine Bb rfl AR B2 rfl rfl (by omega) (by omega) ?_
     refine BP i (fun q => .int .i64 (G1 p d D (i+1) q)) (.int _ _) rfl B2 rfl rfl rfl H at0 (by simp) (by omega) (hsucc _ (by unfold MG; (rw [if_neg (by omega)]; done))).symm (fun q _ hq=>hoth q hq) ?_
     rintro w H
     refine Ab (A5 (Aa (Aw (Ap rfl rfl rfl (by omega) (by omega) ?_))))
     refine Ad rfl rfl (Ab (Aa ?_))
     exact ⟨i+1,rfl,⟨rfl,trivial⟩,⟨by omega,H⟩,by omega⟩
  ·intro h1
   replace h1:=AG h1
   refine Bd (Aj (Aj (AD (CJ rfl rfl ?_))))
   obtain rfl:i=N:=by omega
   have h9:B4 (G1 p d D i) i=B4 (fun v=>p v+MG d D v) i:=List.map_congr_left fun v hv=>by unfold G1; rw [if_pos (List.mem_range.1 hv)]
   rw [h9] at H
   exact ⟨rfl,H⟩
end

end Go.Proofs.YtapphbmlkdhnmaaGreat

/- The solver: numbers made anew: the walks. -/
namespace Go.Proofs.YtapphbmlkdhnmaaGreat
open Go.GV
attribute [local irreducible] A2 W Wq Wt

/-- The first arcs with room, at their costs. -/
def Jk (g:Gr) (cap x:Nat→Int) (k:Nat):List Ar:=((List.range k).filter fun a=>decide (0<C6 cap x a)).map fun a=>(g.u a,g.v a,g.c a)
theorem UP (g:Gr) (cap x:Nat→Int) (k:Nat):Jk g cap x (k+1)=Jk g cap x k++if 0<C6 cap x k then [(g.u k,g.v k,g.c k)] else []:=by
 unfold Jk
 rw [List.range_succ,List.filter_append,List.map_append]
 congr 1
 by_cases h:0<C6 cap x k <;> simp [h]
theorem Xj {g:Gr} {cap x:Nat→Int} {k m:Nat} (h:k≤m):∀ a∈Jk g cap x k,a∈Jk g cap x m:=fun a ha=>by
 obtain ⟨b,hb,rfl⟩:=List.mem_map.1 ha
 obtain ⟨h1,h2⟩:=List.mem_filter.1 hb
 exact List.mem_map.2 ⟨b,List.mem_filter.2 ⟨List.mem_range.2 (by have:=List.mem_range.1 h1; omega),h2⟩,rfl⟩
theorem Ho {w:World} {bs:Nat} {t:TypeId} {N:Nat} {ae:Option Addr} {n ce bf bp bo:Nat} {k:Int} (h:w.heap[bs]? = some (Bl t (SC N ae n ce bf bp bo k))):∀ j v,[Value.int .i64 (N:Int),.slice ae n ce][j]? = some v→w.cell? ⟨bs,0+j,none⟩=some v:=fun j v hv=>by
 rw [Ay h,Nat.zero_add]
 match j,hv with
 | 0,hv=>exact hv
 | 1,hv=>exact hv
theorem Zm {x:Nat→Int} {n i:Nat} (h:i<n):flE (tab x n) i=x i:=by
 unfold flE; exact Bn (BM h)
/-- An arc of a net, whole. -/
theorem MH {N:Nat} {es:List Ed} {x:Nat→Int} (hw:B1 (N:Int) es (tab x es.length)=true) {k:Nat} (hk:k<2*es.length) :
  EX (N:Int) es (k:Int)=(((grE (N:Int) es).u k:Int),((grE (N:Int) es).v k:Int),(grE (N:Int) es).c k)∧Js (N:Int) es (tab x es.length) (k:Int)=C6 (Cl es) x k∧(grE (N:Int) es).u k<N∧(grE (N:Int) es).v k<N ∧ -1000≤(grE (N:Int) es).c k∧(grE (N:Int) es).c k≤1000∧0≤C6 (Cl es) x k∧C6 (Cl es) x k≤4503599627370496:=by
 obtain ⟨hl,hr,hin⟩:=BE hw
 obtain ⟨e,he,hE,q1,q2,q3,q4,q5,q6⟩:=L7 hr hk
 obtain ⟨e',xx,he',hx,hro,r1,r2,r3⟩:=L8 hw hk
 obtain rfl:e'=e:=Option.some.inj (he'.symm.trans he)
 obtain ⟨hxk,rfl⟩:=MA hx
 have hce:Cl es (k / 2)=e'.cap:=by unfold Cl; rw [Bn he]
 have hge:(grE (N:Int) es).f (k / 2)=e'.f.toNat∧(grE (N:Int) es).t (k / 2)=e'.t.toNat∧(grE (N:Int) es).co (k / 2)=e'.cost:=by
  refine ⟨?_,?_,?_⟩ <;> (show _=_; unfold grE; dsimp only; rw [Bn he])
 rw [hE,hro]
 unfold Gr.u Gr.v Gr.c C6 I7
 rw [hge.1,hge.2.1,hge.2.2,hce]
 unfold EL at q1 q2 q3 q4 q5 q6 ⊢
 by_cases hp:k % 2=1
 ·have hp2:¬ k % 2=0:=by omega
  simp only [if_pos hp] at q1 q2 q3 q4 q5 q6 ⊢
  simp only [if_neg hp2]
  exact ⟨by rw [Int.toNat_of_nonneg q1,Int.toNat_of_nonneg q3],trivial,by omega,by omega,q5,q6,r1,by omega⟩
 ·have hp2:k % 2=0:=by omega
  simp only [if_neg hp] at q1 q2 q3 q4 q5 q6 ⊢
  simp only [if_pos hp2]
  exact ⟨by rw [Int.toNat_of_nonneg q1,Int.toNat_of_nonneg q3],trivial,by omega,by omega,q5,q6,by omega,by omega⟩

section
variable {w:World} {bs:Nat} {N:Nat} {ae:Option Addr} {ce bf bp bo:Nat} {k:Int} {es:List Ed} {x p:Nat→Int}

set_option maxRecDepth 20000 in
set_option maxHeartbeats 4000000 in
theorem Zn (hs:w.heap[bs]? = some (Bl 170 (SC N ae es.length ce bf bp bo k))) (Re:Rd w ae 4 Bv es) (hen:es≠[]→(adr ae).block≠bp) (hf:w.heap[bf]? = some (Bl 2 (B4 x es.length))) (hp:w.heap[bp]? = some (Bl 2 (B4 p N))) (n1:bs≠bp) (n2:bf≠bp)
  (hw:B1 (N:Int) es (tab x es.length)=true) {p0:Nat→Int} (hF:Fine (grE (N:Int) es) (Cl es) x p0) :
  Ret Tryz.prog 199 #[ptr bs] w fun v w'=>v = .tuple #[]∧Ctx w [bp] w' [(bp,Bl 2 (B4 (E6 (Jk (grE (N:Int) es) (Cl es) x (2*es.length)) N fun _=>0) N))]:=by
 obtain ⟨w0,rfl⟩:∃ w0,w0=w:=⟨_,rfl⟩
 have H:=Ctx.start1 hp
 have n1':bs∉[bp]:=by rw [List.mem_singleton]; exact n1
 have n2':bf∉[bp]:=by rw [List.mem_singleton]; exact n2
 obtain ⟨hwl,hr,-⟩:=BE hw
 obtain ⟨hN1,hN40,hn200,-⟩:=BR hr
 have hI:I64 (N:Int):=by unfold I64; omega
 obtain ⟨g,hg⟩:∃ g,g=grE (N:Int) es:=⟨_,rfl⟩
 obtain ⟨cap,hcap⟩:∃ cap,cap=Cl es:=⟨_,rfl⟩
 have hat:∀ {a:Nat},a<2*es.length→EX (N:Int) es (a:Int)=((g.u a:Int),(g.v a:Int),g.c a)∧Js (N:Int) es (tab x es.length) (a:Int)=C6 cap x a∧g.u a<N∧g.v a<N ∧ -1000≤g.c a∧g.c a≤1000∧0≤C6 cap x a∧C6 cap x a≤4503599627370496:=fun ha=>by
  rw [hg,hcap]; exact MH hw ha
 rw [← hg,← hcap] at hF ⊢
 obtain ⟨A,hA⟩:∃ A,A=Jk g cap x (2*es.length):=⟨_,rfl⟩
 have hgE:g.E=es.length:=by rw [hg]; rfl
 have hAm:∀ b∈A,b.1<N∧b.2.1<N ∧ -1000≤b.2.2:=fun b hb=>by
  rw [hA] at hb
  obtain ⟨a,ha,rfl⟩:=List.mem_map.1 hb
  obtain ⟨-,-,h1,h2,h3,-⟩:=hat (List.mem_range.1 (List.mem_filter.1 ha).1)
  exact ⟨h1,h2,h3⟩
 have hfea:Fea A p0:=by rw [hA,← hgE]; exact Qz hF
 have hfe2:=Ss hfea fun a ha=>⟨(hAm a ha).1,(hAm a ha).2.1⟩
 have hfb:=TA (A:=A) (m:=1000) (by omega) (fun a ha=>(hAm a ha).2.2) N
 have hbnd:∀ r k v,-40000≤(Jk g cap x k).foldl Hg (E6 A r fun _=>0) v∨2*es.length<k:=fun r k v=>by
  rcases Nat.lt_or_ge (2*es.length) k with h | h
  ·exact .inr h
  ·refine .inl ?_
   have h1:=Pe (A:=Jk g cap x k) (p:=E6 A r fun _=>0) (f:=DD A N) (fun a ha=>hfe2 a (by rw [hA]; exact Xj h a ha)) (fun v=>Ja hfe2 (fun v=>by have:=Kc A v (Nat.zero_le N); exact this) r v) v
   have h2:=hfb v
   have h3:(N:Int)*1000≤40000:=by omega
   omega
 have hbnd2:∀ r k v,(Jk g cap x k).foldl Hg (E6 A r fun _=>0) v≤0:=fun r k v=>by
  refine Int.le_trans (Ke _ _ v) ?_
  induction r with
  | zero=>exact Int.le_refl _
  | succ r ih=>exact Int.le_trans (Ke _ _ v) ih
 rw [← hA]
 refine A1 (fn:=Tryz.f199) Tryz.func199 rfl [.pointer (some ⟨bs,0,none⟩)] rfl (by kernel_rfl) ?_
 refine Ag (Bj rfl rfl (Bc rfl rfl (Ah rfl Eu rfl (AX rfl BF rfl ((by rw [Ay hs]; rfl)) ?_))))
 refine K5 rfl AR GP rfl (by simp [Bz]) rfl H at0 (by simp) ?_
 rintro w H
 refine Ab (Aa ?_)
 have hz:over (B4 p N) 0 (List.replicate N [Value.int .i64 0]).flatten=B4 (E6 A 0 fun _=>0) N:=by
  rw [_root_.Go.GV.over_all (by simp)]
  show _=(List.range N).map fun _=>Value.int .i64 0
  rw [← Ex]
  simp
 rw [hz] at H
 refine Ag (Bj rfl rfl (Bc rfl rfl (Ah rfl FE rfl (Ah rfl Dn rfl (AX rfl BH rfl ((by rw [Ay (H.ext.to hs n1')]; rfl)) ?_)))))
 refine Ad rfl rfl (Ab (Aa (Au (Bi 151115727451828646772860 (α:=Nat) (fun r=>[(16,.int .i64 (r:Int))]) (fun r w'=>r≤N∧Ctx w0 [bp] w' [(bp,Bl 2 (B4 (E6 A r fun _=>0) N))]) (fun r=>N - r) 0 rfl ?_ ?_ ?_))))
 ·exact ⟨rfl,trivial⟩
 ·exact ⟨Nat.zero_le _,H⟩
 ·rintro r j w ⟨hr2,H⟩
  refine Ag (AN rfl rfl rfl (Ab (Aa (Aq (Ax _ rfl ?_ ?_)))))
  ·intro h1
   replace h1:=AF h1
   refine Av (Aa (Aq (Au (Ag (Bj rfl rfl (Bc rfl rfl (Ah rfl Et rfl (AX rfl BF rfl ((by rw [Ay (H.ext.to hs n1')]; rfl)) ?_))))))))
   refine AU rfl AR rfl (Cf rfl rfl rfl (by omega) (by omega) ?_)
   refine Ad rfl rfl (Ab (Aa (Au (Bi 75557863725914306642044 (α:=Nat) (fun a=>[(24,.int .i64 (a:Int))]) (fun a w'=>a≤2*es.length∧Ctx w0 [bp] w' [(bp,Bl 2 (B4 ((Jk g cap x a).foldl Hg (E6 A r fun _=>0)) N))]) (fun a=>2*es.length - a) 0 rfl ?_ ?_ ?_))))
   ·exact ⟨rfl,trivial⟩
   ·exact ⟨Nat.zero_le _,H⟩
   ·rintro a j2 w ⟨ha2,H⟩
    refine Ag (AN rfl rfl rfl (Ab (Aa (Aq (Ax _ rfl ?_ ?_)))))
    ·intro h2
     replace h2:=AF h2
     have ha:a<2*es.length:=by omega
     obtain ⟨hE,hR,q1,q2,q3,q4,q5,q6⟩:=hat ha
     obtain ⟨un,hun⟩:∃ un,un=g.u a:=⟨_,rfl⟩
     obtain ⟨vn,hvn⟩:∃ vn,vn=g.v a:=⟨_,rfl⟩
     obtain ⟨co,hco⟩:∃ co,co=g.c a:=⟨_,rfl⟩
     obtain ⟨q,hq⟩:∃ q,q=(Jk g cap x a).foldl Hg (E6 A r fun _=>0):=⟨_,rfl⟩
     have hb1:∀ v,-40000≤q v∧q v≤0:=fun v=>by rw [hq]; exact ⟨(hbnd r a v).resolve_right (by omega),hbnd2 r a v⟩
     have hsucc:(Jk g cap x (a+1)).foldl Hg (E6 A r fun _=>0)=if 0<C6 cap x a then Hg q (un,vn,co) else q:=by
      rw [UP,List.foldl_append,← hq]
      split
      ·rw [hun,hvn,hco]; rfl
      ·rfl
     rw [← hq] at H
     rw [← hun,← hvn,← hco] at hE
     have hE1:(EX (N:Int) es (a:Int)).1=un:=by rw [hE]
     have hE2:(EX (N:Int) es (a:Int)).2.1=vn:=by rw [hE]
     have hE3:(EX (N:Int) es (a:Int)).2.2=co:=by rw [hE]
     rw [← hun] at q1
     rw [← hvn] at q2
     rw [← hco] at q3 q4
     have b1:=hb1 un
     have b2:=hb1 vn
     have hgu:(tab q N)[un]? = some (q un):=BM q1
     have hgv:(tab q N)[vn]? = some (q vn):=BM q2
     have hne:(es≠[]→(adr ae).block∉[bp]):=fun h=>by rw [List.mem_singleton]; exact hen h
     have hes:es≠[]:=fun h=>by rw [h] at ha; simp at ha
     refine Av (Aa (Aq (Au (Ag (Ad rfl rfl (Af rfl rfl (Ab (Aa (Ag (Bj rfl rfl (Bc rfl rfl ?_)))))))))))
     refine Ah rfl FE rfl (Cr _ rfl Cu Ci rfl rfl ((Ho (H.ext.to hs n1'))) ?_)
     refine Ad rfl rfl (Ao rfl Sj (Pj (N:Int) ae es.length ce es _ (Re.ext H.ext (hne hes)) rfl (by omega) hI (a:Int)) rfl ?_)
     rintro v w ⟨rfl,hx33⟩
     replace H:=H.call hx33
     rw [hE1,hE2,hE3]
     refine BG rfl rfl (A7 rfl rfl rfl (A7 rfl rfl rfl (A7 rfl rfl rfl (Af rfl rfl (Af rfl rfl (Af rfl rfl (Ab (Aa (Ag (Bj rfl rfl ?_))))))))))
     refine Bc rfl rfl (Ah rfl Eu rfl (AX rfl BF rfl ((by rw [Ay (H.ext.to hs n1')]; rfl)) ?_))
     refine Ad rfl rfl (Bb rfl AR B2 rfl rfl (by omega) (by omega) ?_)
     refine AX rfl Bw rfl (((Ct (H.get at0)).fld hgu rfl (j:=0) rfl)) ?_
     refine Ad rfl rfl (Ap rfl rfl rfl (by omega) (by omega) ?_)
     refine Af rfl rfl (Ab (Aa (Ek 19 B3 (by kernel_rfl) rfl rfl ?_)))
     refine AM rfl rfl (Cb rfl rfl (Bg rfl rfl (A6 rfl Eu rfl (Cc rfl BF rfl (by rintro _ rfl; exact ((by rw [Ay (H.drew.ext.to hs n1')]; rfl))) ?_))))
     refine AM rfl rfl (AL rfl AR B2 rfl rfl (by omega) (by omega) ?_)
     refine Cc rfl Bw rfl (by rintro _ rfl; exact (((Ct (H.drew.get at0)).fld hgv rfl (j:=0) rfl))) ?_
     refine KS rfl rfl rfl (Di rfl rfl (Dc 55 rfl ?_ ?_))
     ·intro h3
      replace h3:=AF h3
      refine Cb rfl rfl (Bg rfl rfl (A6 rfl FE rfl (Jp _ rfl Cu Ci rfl rfl (by rintro _ rfl; exact ((Ho (H.drew.ext.to hs n1')))) ?_)))
      refine Cb rfl rfl (Bg rfl rfl (A6 rfl Et rfl (Cc rfl BF rfl (by rintro _ rfl; exact ((by rw [Ay (H.drew.ext.to hs n1')]; rfl))) ?_)))
      refine AM rfl rfl (BQ ?_)
      replace H:=H.drew
      refine Ao rfl Sh (Pk (N:Int) ae (some ⟨bf,0,none⟩) es.length ce es.length es.length es (tab x es.length) _ (Re.ext H.ext (hne hes)) rfl (by omega) hI (Ct (H.ext.to hf n2')) (Db _ _) (by omega) (a:Int)) rfl ?_
      rintro v w ⟨rfl,hx65⟩
      replace H:=H.call hx65
      rw [hR]
      refine C0 rfl rfl rfl (Am rfl rfl (.bool _) rfl (Ab (Aa (Ax _ rfl ?_ ?_))))
      ·intro h4
       replace h4:=AF h4
       refine Aw (Bj rfl rfl (Bc rfl rfl (Ah rfl Eu rfl (AX rfl BF rfl ((by rw [Ay (H.ext.to hs n1')]; rfl)) ?_))))
       refine Ad rfl rfl (Ad rfl rfl (Bb rfl AR B2 rfl rfl (by omega) (by omega) ?_))
       refine BP vn (fun z => .int .i64 (upd q vn (q un+co) z)) (.int _ _) rfl B2 rfl rfl rfl H at0 (by simp) q2 (by rw [Dd,Int.add_comm]) (fun z _ hz=>by rw [DZ hz]) ?_
       rintro w H
       refine Ab (A5 (Aa (Aw (Ap rfl rfl rfl (by omega) (by omega) ?_))))
       refine Ad rfl rfl (Ab (Aa ?_))
       refine ⟨a+1,rfl,⟨rfl,trivial⟩,⟨by omega,?_⟩,by omega⟩
       rw [hsucc,if_pos h4]
       unfold Hg
       rw [if_pos (by dsimp only; omega)]
       exact H
      ·intro h4
       replace h4:=AG h4
       refine Av (A5 (Aa (Aw (Ap rfl rfl rfl (by omega) (by omega) ?_))))
       refine Ad rfl rfl (Ab (Aa ?_))
       refine ⟨a+1,rfl,⟨rfl,trivial⟩,⟨by omega,?_⟩,by omega⟩
       rw [hsucc,if_neg (by omega)]
       exact H
     ·intro h3
      replace h3:=AG h3
      refine Az rfl (Az rfl (Az rfl (Az rfl (Az rfl (Az rfl (Az rfl (Az rfl (Az rfl (BQ ?_)))))))))
      replace H:=H.drew
      refine Ae rfl (Ae rfl (A3 rfl rfl (.bool _) rfl (Ab (Aa (Fg rfl (Av (A5 (Aa (Aw (Ap rfl rfl rfl (by omega) (by omega) ?_))))))))))
      refine Ad rfl rfl (Ab (Aa ?_))
      refine ⟨a+1,rfl,⟨rfl,trivial⟩,⟨by omega,?_⟩,by omega⟩
      rw [hsucc]
      split
      ·unfold Hg
       rw [if_neg (by dsimp only; omega)]
       exact H
      ·exact H
    ·intro h2
     replace h2:=AG h2
     refine Bd (Aj (Aj (AD (A5 (Aa (Aw (Ap rfl rfl rfl (by omega) (by omega) ?_)))))))
     refine Ad rfl rfl (Ab (Aa ?_))
     obtain rfl:a=2*es.length:=by omega
     refine ⟨r+1,rfl,⟨rfl,trivial⟩,⟨by omega,?_⟩,by omega⟩
     rw [← hA] at H
     exact H
  ·intro h1
   replace h1:=AG h1
   refine Bd (Aj (Aj (AD (CJ rfl rfl ?_))))
   obtain rfl:r=N:=by omega
   exact ⟨rfl,H⟩
end

end Go.Proofs.YtapphbmlkdhnmaaGreat

/- The solver: numbers that got too great are made anew: the walk. -/
namespace Go.Proofs.YtapphbmlkdhnmaaGreat
open Go.GV
attribute [local irreducible] A2 W Wq Wt

theorem Xk {g:Gr} {cap x p q:Nat→Int} (h:Fine g cap x p) (hq:Fea (Jk g cap x (2*g.E)) q):Fine g cap x q:=WP h hq
theorem MJ {g:Gr} (hg:g.Ok) {cap x p q:Nat→Int} (h:Fine g cap x p) (hq:∀ v,v<g.N→q v=p v):Fine g cap x q :=
 ⟨h.in',fun a ha hr=>by
  have:=h.fit a ha hr
  unfold Gr.len at this ⊢
  rw [hq _ (hg.u ha),hq _ (hg.v ha)]; exact this⟩

section
variable {w:World} {bs:Nat} {N:Nat} {ae:Option Addr} {ce bf bp bo:Nat} {k:Int} {es:List Ed} {x p:Nat→Int}

set_option maxRecDepth 20000 in
/-- Behind it numbers fit still, and are small. -/
theorem UQ (hs:w.heap[bs]? = some (Bl 170 (SC N ae es.length ce bf bp bo k))) (Re:Rd w ae 4 Bv es) (hen:es≠[]→(adr ae).block≠bp) (hf:w.heap[bf]? = some (Bl 2 (B4 x es.length))) (hp:w.heap[bp]? = some (Bl 2 (B4 p N))) (n1:bs≠bp) (n2:bf≠bp)
  (hw:B1 (N:Int) es (tab x es.length)=true) (hF:Fine (grE (N:Int) es) (Cl es) x p) :
  Ret Tryz.prog 172 #[ptr bs] w fun v w'=>v = .tuple #[]∧∃ p':Nat→Int,Fine (grE (N:Int) es) (Cl es) x p'∧(∀ v,v<N → -1073741824≤p' v∧p' v≤1073741824)∧Ctx w [bp] w' [(bp,Bl 2 (B4 p' N))]:=by
 obtain ⟨w0,rfl⟩:∃ w0,w0=w:=⟨_,rfl⟩
 have H:=Ctx.start1 hp
 have R:=Ct hp
 obtain ⟨hwl,hr,-⟩:=BE hw
 obtain ⟨hN1,hN40,hn200,-⟩:=BR hr
 refine A1 (fn:=Tryz.f172) Tryz.func172 rfl [.pointer (some ⟨bs,0,none⟩)] rfl (by kernel_rfl) ?_
 refine Ag (Bj rfl rfl (Bc rfl rfl (Ah rfl Eu rfl (AX rfl BF rfl ((by rw [Ay hs]; rfl)) ?_))))
 refine AU rfl AR rfl (Ad rfl rfl (Ab (Aa (Au (Bi 4193800 (α:=Nat) (fun i=>[(9,.int .i64 (i:Int))]) (fun i w'=>w0=w'∧i≤N∧∀ v,v<i → -1073741824≤p v∧p v≤1073741824) (fun i=>N - i) 0 rfl ?_ ?_ ?_)))))
 ·exact ⟨rfl,trivial⟩
 ·exact ⟨rfl,Nat.zero_le _,fun v h=>absurd h (Nat.not_lt_zero _)⟩
 ·rintro i j w ⟨rfl,hi,hb⟩
  refine Ag (AN rfl rfl rfl (Ab (Aa (Aq (Ax _ rfl ?_ ?_)))))
  ·intro h1
   replace h1:=AF h1
   have hgp:(tab p N)[i]? = some (p i):=BM (by omega)
   refine Av (Aa (Aq (Au (Ag (Bb rfl AR B2 rfl rfl (by omega) (by omega) ?_)))))
   refine AX rfl Bw rfl ((R.fld hgp rfl (j:=0) rfl)) ?_
   refine Af rfl rfl (Ab (Aa (Ag (B5 (α:=Unit) 516096 (fun _=>[(18,.bool (decide (p i < -1073741824∨1073741824<p i)))]) (fun _ w'=>w'=w0) rfl ?_ ?_))))
   ·refine Ad rfl rfl (AN rfl rfl rfl (Ak rfl rfl (A8 15 rfl ?_ ?_)))
    ·intro h1
     replace h1:=AF h1
     refine Ae rfl (Ae rfl (Am rfl rfl (.bool _) rfl (Ab ?_)))
     exact ⟨rfl,(),rfl,⟨congrArg Value.bool (by clear hgp; rw [Bool.eq_iff_iff]; simp_all; try omega),trivial⟩,rfl⟩
    ·intro h2
     replace h2:=AG h2
     refine Ad rfl rfl (C0 rfl rfl rfl (A3 rfl rfl (.bool _) rfl (Ab ?_)))
     exact ⟨rfl,(),rfl,⟨congrArg Value.bool (by clear hgp; rw [Bool.eq_iff_iff]; simp_all; try omega),trivial⟩,rfl⟩
   rintro - j18 w hw
   subst hw
   refine Ax _ rfl ?_ ?_
   ·intro h2
    refine Ag (Bj rfl rfl (Ao rfl Acg (Zn hs Re hen hf hp n1 n2 hw hF) rfl ?_))
    rintro v w ⟨rfl,H⟩
    refine Ab (Aa (A9 (A4 (Al (Al (A4 (EM rfl rfl ?_)))))))
    obtain ⟨g,hg⟩:∃ g,g=grE (N:Int) es:=⟨_,rfl⟩
    have hgE:g.E=es.length:=by rw [hg]; rfl
    rw [← hg] at H hF ⊢
    have hAm:∀ b∈Jk g (Cl es) x (2*es.length),b.1<N∧b.2.1<N ∧ -1000≤b.2.2:=fun b hb=>by
     obtain ⟨a,ha,rfl⟩:=List.mem_map.1 hb
     obtain ⟨-,-,h1,h2,h3,-⟩:=MH hw (List.mem_range.1 (List.mem_filter.1 ha).1)
     rw [hg]
     exact ⟨h1,h2,h3⟩
    have hfea:Fea (Jk g (Cl es) x (2*es.length)) p:=by rw [← hgE]; exact Qz hF
    refine ⟨rfl,_,?_,fun v _=>?_,H⟩
    ·have h7:=UE hfea fun a ha=>⟨(hAm a ha).1,(hAm a ha).2.1⟩
     rw [← hgE] at h7 ⊢
     exact Xk hF h7
    ·have h7:=WK hfea (fun a ha=>⟨(hAm a ha).1,(hAm a ha).2.1⟩) (m:=1000) (by omega) (fun a ha=>(hAm a ha).2.2) N v
     omega
   ·intro h2
    have h2:=of_decide_eq_false h2
    refine Av (A5 (Aa (Aw (Ap rfl rfl rfl (by omega) (by omega) ?_))))
    refine Ad rfl rfl (Ab (Aa ?_))
    refine ⟨i+1,rfl,⟨rfl,trivial⟩,⟨rfl,by omega,fun v hv=>?_⟩,by omega⟩
    by_cases e:v=i
    ·subst e; omega
    ·exact hb v (by omega)
  ·intro h1
   replace h1:=AG h1
   refine Bd (Aj (Aj (AD (CJ rfl rfl ?_))))
   obtain rfl:i=N:=by omega
   exact ⟨rfl,p,hF,hb,H⟩
end

end Go.Proofs.YtapphbmlkdhnmaaGreat

/- The solver: back along a way: the walks. -/
namespace Go.Proofs.YtapphbmlkdhnmaaGreat
open Go.GV
attribute [local irreducible] A2 W Wq Wt

theorem Q5 (s by':Value) (ob:Option Addr) (on oc:Nat) (bs:Nat) (v:Int) (w:World) (hs:s=ptr bs) (hb:by' = .slice ob on oc):Ret Tryz.prog 169 #[s,by',.int .i64 v] w fun r w'=>∃ b3 b4 b5,r = .func (.func 196) #[] #[ptr b4,ptr b5,ptr b3]∧w'.heap[b3]? = some (Bl 168 [ptr bs])∧w'.heap[b4]? = some (Bl 203 [.slice ob on oc])∧w'.heap[b5]? = some (Bl 3 [.int .i64 v])∧w.heap.size≤b3∧w.heap.size≤b4∧w.heap.size≤b5∧b5≠b3∧b5≠b4∧Ext [] w w':=by
 subst hs hb
 obtain ⟨w0,rfl⟩:∃ w0,w0=w:=⟨_,rfl⟩
 have H:=Ctx.start w0 []
 refine A1 (fn:=Tryz.f169) Tryz.func169 rfl [.pointer (some ⟨bs,0,none⟩),.slice ob on oc,.int .i64 v] rfl (by kernel_rfl) ?_
 refine Ag (Bs rfl _ (.pointer _) rfl rfl H ?_)
 rintro b3 w - H
 refine Bs rfl _ (.slice _ _ _) rfl rfl H ?_
 rintro b4 w - H
 refine Bs rfl _ (.int _ _) rfl rfl H ?_
 rintro b5 w - H
 refine BW rfl .nilFunc rfl ?_
 refine Ab (Aa (Ag (C1 rfl [.pointer _,.pointer _,.pointer _] rfl (BW rfl (.func _ _ _) rfl ?_))))
 refine Ab (Aa (A9 (AB (v:=(.func _ _ _)) rfl rfl rfl ?_)))
 have h3:=H.own _ (List.mem_of_getElem? at2)
 have h4:=H.own _ (List.mem_of_getElem? at1)
 have h5:=H.own _ (List.mem_of_getElem? at0)
 exact ⟨_,_,_,rfl,H.get at2,H.get at1,H.get at0,h3.elim (fun h=>by cases h) id,h4.elim (fun h=>by cases h) id,h5.elim (fun h=>by cases h) id,H.ne at0 at2 (by decide),H.ne at0 at1 (by decide),H.ext⟩

def byO (by':Nat→Int) (v:Nat):Option Nat:=if by' v = -1 then none else some (by' v).toNat
def Xl (g:Gr) (a:Nat):List Value:=[.int .i64 (a:Int),.int .i64 (g.u a:Int)]
/-- What the rounds leave. -/
structure BackK (b3 b4 b5 bs ob:Nat) (N:Nat) (ae:Option Addr) (ce bf bp bo:Nat) (k:Int) (es:List Ed) (by':Nat→Int) (M:Mt) (w:World):Prop where
 h4:w.heap[b4]? = some (Bl 203 [.slice (some ⟨ob,0,none⟩) N N])
 h3:w.heap[b3]? = some (Bl 168 [ptr bs])
 hs:w.heap[bs]? = some (Bl 170 (SC N ae es.length ce bf bp bo k))
 ho:w.heap[ob]? = some (Bl 3 (B4 by' N))
 Re:Rd w ae 4 Bv es
 nm:¬ M b5
theorem Q6 {g:Gr} {cap x p:Nat→Int} {s:Lb} {by':Nat→Option Nat} (hB:Bys g cap x p s by'):∀ {k v:Nat},s.d v ≠ -1→s.h v=k→(D8 by' g k v).length=k
 | 0,_,_,_=>rfl
 | k+1,v,hd,hk=>by
  obtain ⟨a,h1,h2,h3⟩:=hB.2 v hd (by omega)
  have hh:=h2.h
  rw [h3,hk] at hh
  rw [(Gf (g:=g) (k:=k) h1).1,List.length_cons,Q6 hB h2.du (by omega)]

set_option maxRecDepth 20000 in
set_option maxHeartbeats 4000000 in
theorem Q7 {b3 b4 b5 bs ob:Nat} {N:Nat} {ae:Option Addr} {ce bf bp bo:Nat} {kk:Int} {es:List Ed} {by':Nat→Int} {x p:Nat→Int} {s:Lb} (hw:B1 (N:Int) es (tab x es.length)=true) (hB:Bys (grE (N:Int) es) (Cl es) x p s (byO by')) (hby:∀ v,by' v = -1∨∃ a:Nat,by' v=(a:Int)∧a<2*es.length) {k v:Nat} (hv:v<N) (hd:s.d v ≠ -1) (hk:s.h v=k) :
  Tw Tryz.prog 196 #[ptr b4,ptr b5,ptr b3] [b5] (fun M w=>BackK b3 b4 b5 bs ob N ae ce bf bp bo kk es by' M w) ((D8 (byO by') (grE (N:Int) es) k v).map (Xl (grE (N:Int) es))) (fun w=>w.heap[b5]? = some (Bl 3 [.int .i64 (v:Int)])):=by
 intro l w hS J E hJ0 hJs hEs hK hY
 obtain ⟨M0,hJ0⟩:=hJ0
 obtain ⟨w0,rfl⟩:∃ w0,w0=w:=⟨_,rfl⟩
 have hr:=(BE hw).2.1
 obtain ⟨hN1,hN40,hn200,-⟩:=BR hr
 have hI:I64 (N:Int):=by unfold I64; omega
 obtain ⟨g,hg⟩:∃ g,g=grE (N:Int) es:=⟨_,rfl⟩
 have hat:∀ {a:Nat},a<2*es.length→EX (N:Int) es (a:Int)=((g.u a:Int),(g.v a:Int),g.c a)∧g.u a<N:=fun ha=>by
  rw [hg]; exact ⟨(MH hw ha).1,(MH hw ha).2.2.1⟩
 rw [← hg] at hB hY ⊢
 have hlen:((D8 (byO by') g k v).map (Xl g)).length=k:=by rw [List.length_map,Q6 hB hd hk]
 refine A1 (fn:=Tryz.f196) Tryz.func196 rfl [.func (.yield l) #[] #[],.pointer (some ⟨b4,0,none⟩),.pointer (some ⟨b5,0,none⟩),.pointer (some ⟨b3,0,none⟩)] rfl (by kernel_rfl) ?_
 refine Au (Bi 1073741792 (α:=Nat × Nat) (fun _=>[]) (fun t w'=>t.1≤k∧(∃ M,J t.1 M w')∧w'.heap[b5]? = some (Bl 3 [.int .i64 (t.2:Int)])∧t.2<N∧s.d t.2 ≠ -1∧s.h t.2=k - t.1∧(D8 (byO by') g k v).drop t.1=D8 (byO by') g (k - t.1) t.2) (fun t=>k - t.1) (0,v) rfl ?_ ?_ ?_)
 ·exact trivial
 ·exact ⟨Nat.zero_le _,⟨M0,hJ0⟩,hS,hv,hd,hk,rfl⟩
 ·rintro ⟨i,u⟩ j w ⟨hi,⟨M,hJ⟩,hb5,hun,hdu,hhu,hdrop⟩; dsimp only at hi hJ hb5 hun hdu hhu hdrop; dsimp only
  have KK:=(hK _ _ _ hJ).2
  obtain ⟨w1,rfl⟩:∃ w1,w1=w:=⟨_,rfl⟩
  have H:=Ctx.start1 hb5
  have hgb:(tab by' N)[u]? = some (by' u):=BM hun
  refine Aq (Ag (AX rfl Fl rfl ((by rw [Ay KK.h4]; rfl)) ?_))
  refine AA rfl BH rfl H at0 rfl (Bb rfl DB EJ rfl rfl (by omega) (by omega) ?_)
  refine AX rfl BH rfl (((Ct KK.ho).fld hgb rfl (j:=0) rfl)) ?_
  refine CD rfl rfl rfl (Ab (Aa (Ax _ rfl ?_ ?_)))
  ·intro h1
   replace h1:=AF h1
   have hne:byO by' u≠none:=by unfold byO; rw [if_neg (by omega)]; exact fun h=>by cases h
   have hh0:s.h u≠0:=fun h=>hne (hB.1 u (.inr h))
   obtain ⟨a,ha,hW,hva⟩:=hB.2 u hdu hh0
   have hba:by' u=(a:Int):=by
    unfold byO at ha
    rw [if_neg (by omega)] at ha
    have:=Option.some.inj ha
    omega
   have ha2:a<2*es.length:=by
    rcases hby u with h | ⟨a',h,h7⟩
    ·omega
    ·omega
   obtain ⟨hE,hu2⟩:=hat ha2
   rw [hba] at hgb
   obtain ⟨u2,hu2e⟩:∃ u2,u2=g.u a:=⟨_,rfl⟩
   obtain ⟨v2,hv2e⟩:∃ v2,v2=g.v a:=⟨_,rfl⟩
   obtain ⟨c2,hc2e⟩:∃ c2,c2=g.c a:=⟨_,rfl⟩
   rw [← hu2e,← hv2e,← hc2e] at hE
   rw [← hu2e] at hu2
   have hE1:(EX (N:Int) es (a:Int)).1=u2:=by rw [hE]
   have hE2:(EX (N:Int) es (a:Int)).2.1=v2:=by rw [hE]
   have hE3:(EX (N:Int) es (a:Int)).2.2=c2:=by rw [hE]
   have hki:k - i=(k - (i+1))+1:=by omega
   have hps:=(Gf (g:=g) (k:=k - (i+1)) ha).1
   rw [← hki,← hdrop,← hu2e] at hps
   have hgi:(D8 (byO by') g k v)[i]? = some a:=by
    have:=congrArg (·[0]?) hps
    simpa using this
   have hdrop2:(D8 (byO by') g k v).drop (i+1)=D8 (byO by') g (k - (i+1)) u2:=by
    have:=congrArg List.tail hps
    simpa using this
   refine Av (Aa (Au (Ag (AX rfl Fl rfl ((by rw [Ay KK.h4]; rfl)) ?_))))
   refine AA rfl BH rfl H at0 rfl (Bb rfl DB EJ rfl rfl (by omega) (by omega) ?_)
   refine AX rfl BH rfl (((Ct KK.ho).fld hgb rfl (j:=0) rfl)) ?_
   refine Af rfl rfl (Ab (Aa (Ag (AX rfl Eo rfl ((by rw [Ay KK.h3]; rfl)) ?_))))
   refine Bc rfl rfl (Ah rfl FE rfl (Cr _ rfl Cu Ci rfl rfl ((Ho KK.hs)) ?_))
   refine Ad rfl rfl (Ao rfl Sj (Pj (N:Int) ae es.length ce es _ KK.Re rfl (by omega) hI (a:Int)) rfl ?_)
   rintro r w ⟨rfl,hx21⟩
   replace H:=H.call hx21
   rw [hE1,hE2,hE3]
   refine BG rfl rfl (A7 rfl rfl rfl (A7 rfl rfl rfl (A7 rfl rfl rfl (Cj (.int _ _) rfl EJ rfl rfl rfl H at0 (by (simp; done)) ?_))))
   rintro w H
   refine Ab (Aa ?_)
   have hJ1:=hJs _ _ _ _ hJ H.ext
   have hY1:=hY i (Xl g a) M w (by rw [List.getElem?_map,hgi]; rfl) hJ1
   have hb51:=H.get at0
   have hnm:=KK.nm
   have hwv:Xl g a=[.int .i64 (a:Int),.int .i64 (u2:Int)]:=by rw [hu2e]; rfl
   rw [hwv] at hY1
   refine Ag (Cd rfl (.func _ _ _) rfl ?_)
   refine Ad rfl rfl (AA rfl BH rfl H at0 rfl (FD (vs:=[.int .i64 (a:Int),.int .i64 (u2:Int)]) rfl rfl hY1 rfl ?_))
   rintro u' w hu'
   obtain ⟨bb,rfl,hu1,hu0⟩:∃ bb,u' = .bool bb∧(bb=true→(∃ M,J (i+1) M w)∧w.heap[b5]? = some (Bl 3 [.int .i64 (u2:Int)]))∧(bb=false→E w):=hu'.elim (fun h=>⟨true,h.1,fun _=>let ⟨M',h1,h2⟩:=h.2; ⟨⟨M',h1⟩,h2.to hb51 hnm⟩,fun h=>by cases h⟩) (fun h=>⟨false,h.1,(fun h=>by cases h),fun _=>h.2⟩)
   refine Bu rfl rfl (Ab (Aa (Ax _ rfl ?_ ?_)))
   ·intro h2
    replace h2:=Bp h2
    refine A9 (A4 (Al (A4 (EM rfl rfl ?_))))
    exact .inr (hu0 (by simpa using h2))
   ·intro h2
    replace h2:=Bq h2
    refine Av (A5 (Aa ?_))
    obtain ⟨hJ2,hb52⟩:=hu1 (by simpa using h2)
    have hh:=hW.h
    rw [hva,← hu2e] at hh
    exact ⟨(i+1,u2),rfl,trivial,⟨by dsimp only; omega,hJ2,hb52,hu2,by dsimp only; rw [hu2e]; exact hW.du,by dsimp only; omega,hdrop2⟩,by dsimp only; omega⟩
  ·intro h1
   replace h1:=AG h1
   have hh0:s.h u=0:=by
    rcases Nat.eq_zero_or_pos (s.h u) with h | h
    ·exact h
    ·obtain ⟨a,ha,-,-⟩:=hB.2 u hdu (by omega)
     exfalso
     unfold byO at ha
     rcases hby u with h7 | ⟨a',h7,-⟩
     ·rw [if_pos h7] at ha; cases ha
     ·omega
   refine Bd (Aj (Aj (AD (CJ rfl rfl ?_))))
   obtain rfl:i=k:=by omega
   exact .inl ⟨M,by rw [hlen]; exact hJ⟩

end Go.Proofs.YtapphbmlkdhnmaaGreat
